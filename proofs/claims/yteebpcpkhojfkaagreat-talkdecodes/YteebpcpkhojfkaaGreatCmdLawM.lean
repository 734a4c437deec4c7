/-
  Plain laws of what lies below, as this seat reaches them (by a program of the bench: port.py).
-/
import Derived.Test.YteebpcpkhojfkaaGreatCmdLawL
import Derived.Test.YteebpcpkhojfkaaGreatSxR
namespace Go.Proofs.YteebpcpkhojfkaaGreat
open Go.Sx Go Classical
set_option maxRecDepth 10000
theorem pre_key {s : List UInt8} (h : IsPre s) : IsKey s := h.2
theorem range_key {a b : List UInt8} (h : IsRange a b) : IsKey a := h.1
theorem range_end {a b : List UInt8} (h : IsRange a b) : b.length ≤ 32 := by
  rcases h.2 with h | h
  · rw [h]; simp
  · exact h.1.2.1
theorem right_key {c : T28D} (h : RightC c) : c.2.1.length ≤ 32 := by
  have h0 : c.2.1 = [] → c.2.1.length ≤ 32 := fun e => by rw [e]; simp
  have h1 : IsKey c.2.1 → c.2.1.length ≤ 32 := fun e => e.len
  obtain ⟨hb, hk⟩ := h
  have hb := hb.1
  unfold KindOk PageOk at hk
  rcases hb with hb | hb | hb | hb | hb | hb
  · simp only [hb] at hk
    simp at hk
    exact h1 hk.1
  · simp only [hb] at hk
    simp at hk
    exact h1 (range_key hk)
  · simp only [hb] at hk
    simp at hk
    exact h1 (pre_key hk.2)
  · simp only [hb] at hk
    simp at hk
    exact h1 (pre_key hk.2.2.2.1)
  · simp only [hb] at hk
    simp at hk
    exact hk.2.2.1.elim h0 h1
  · exact h0 hb
theorem right_end {c : T28D} (h : RightC c) : c.2.2.1.length ≤ 32 := by
  obtain ⟨hb, hk⟩ := h
  have hb := hb.2.1
  have h0 : c.2.2.1 = [] → c.2.2.1.length ≤ 32 := fun e => by rw [e]; simp
  have h1 : IsKey c.2.2.1 → c.2.2.1.length ≤ 32 := fun e => e.len
  have h2 := @pre_key c.2.2.1
  have h3 := @range_end c.2.1 c.2.2.1
  unfold KindOk PageOk at hk
  rcases hb with hb | hb | hb | hb
  · exact h3 (by simp only [hb] at hk; simpa using hk)
  · simp only [hb] at hk
    exact h1 (h2 (by simp at hk; exact hk.2.2.2.2))
  · simp only [hb] at hk
    simp at hk
    exact hk.2.2.2.1.elim h0 h1
  · exact h0 hb
theorem right_val {c : T28D} (h : RightC c) : c.2.2.2.1.length ≤ 40 := by
  obtain ⟨hb, hk⟩ := h
  rcases hb.2.2.1 with hb | hb
  · unfold KindOk at hk
    simp only [hb] at hk
    simp at hk
    exact hk.2.1
  · rw [hb]; simp
theorem right_cmps {c : T28D} (h : RightC c) : CmpsOk c.2.2.2.2.2.2.2.1 := by
  obtain ⟨hb, hk⟩ := h
  rcases hb.2.2.2.2.2.2.1 with hb | hb
  · unfold KindOk at hk
    simp only [hb] at hk
    simp at hk
    exact hk.1
  · rw [hb.1]; exact ⟨fun x hx => by simp at hx, by simp⟩
theorem opsNil : OpsOk [] := ⟨fun i v hv => by simp at hv, by simp⟩
theorem right_ops {c : T28D} (h : RightC c) : OpsOk c.2.2.2.2.2.2.2.2.1 ∧ OpsOk c.2.2.2.2.2.2.2.2.2.1 := by
  obtain ⟨hb, hk⟩ := h
  rcases hb.2.2.2.2.2.2.1 with hb | hb
  · unfold KindOk at hk
    simp only [hb] at hk
    simp at hk
    exact hk.2
  · rw [hb.2.1, hb.2.2]; exact ⟨opsNil, opsNil⟩
theorem right_items {c : T28D} (h : RightC c) : (∀ x ∈ c.2.2.2.2.2.2.2.2.2.2.2.2.2.2.1, ItemOk x) ∧ c.2.2.2.2.2.2.2.2.2.2.2.2.2.2.1.length ≤ 64 := by
  obtain ⟨hb, hk⟩ := h
  rcases hb.2.2.2.2.2.2.2.2.2.2.2.1 with hb | hb | hb
  · unfold KindOk at hk
    simp only [hb] at hk
    simp at hk
    obtain ⟨-, -, -, -, h1, h2⟩ := hk
    refine ⟨fun x hx => ?_, by omega⟩
    obtain ⟨i, hi⟩ := List.mem_iff_getElem?.1 hx
    exact ⟨(h2 i x hi).1, (h2 i x hi).2.1⟩
  · unfold KindOk at hk
    simp only [hb] at hk
    simp at hk
    obtain ⟨-, -, -, -, -, h1, h2⟩ := hk
    refine ⟨fun x hx => ?_, h1⟩
    obtain ⟨i, hi⟩ := List.mem_iff_getElem?.1 hx
    exact ⟨(h2 i x hi).1, (h2 i x hi).2.1⟩
  · rw [hb]; exact ⟨fun x hx => by simp at hx, by simp⟩
theorem right_sess {c : T28D} (h : RightC c) : SessOk c.2.2.2.2.2.2.2.2.2.2.2.2.2.2.2.1 15 ∧ LeasesOk c.2.2.2.2.2.2.2.2.2.2.2.2.2.2.2.2.1 := by
  obtain ⟨hb, hk⟩ := h
  rcases hb.2.2.2.2.2.2.2.2.2.2.2.2 with hb | hb
  · unfold KindOk at hk
    simp only [hb] at hk
    simp at hk
    exact hk.2.2.2
  · rw [hb.1, hb.2]
    exact ⟨fun i v hv => by simp at hv, fun i v hv => by simp at hv, by simp⟩
theorem sess_reply {l : List T94D} {m : Int} (h : SessOk l m) : ∀ s ∈ l, ReplyOk s.2.2.1 := fun s hs => by
  obtain ⟨i, hi⟩ := List.mem_iff_getElem?.1 hs
  exact (h i s hi).2.2.2.1
theorem right_plain {c : T28D} (h : RightC c) : Plain c := ⟨fun x hx => may_item ((right_items h).1 x hx), sess_reply (right_sess h).1⟩
theorem cmp1_len {x : T96D} (h : CmpOk x) : (cmp1B x).length ≤ 100 := by
  obtain ⟨h1, -, -, h4⟩ := h
  have hk := h1.len
  obtain ⟨v1, v2, v3, v4, v5, ⟨⟩⟩ := x
  have h5 : v5.length ≤ 40 := by
    rcases h4 with h4 | h4
    · have : v5 = [] := h4.2.2.1
      rw [this]; simp
    · exact h4.2.2
  rw [cmp1B_eq]
  simp only [List.length_append, kindB_len, textB_len, numB_len] at *; omega
theorem op1_len {o : T48D} (hk : OpOk o) : (op1B o).length ≤ 200 := by
  have h1 := key_len (.inr (op_range hk).2)
  have h2 := range_end (op_range hk).1
  have h3 : o.2.2.2.1.length ≤ 40 := by
    rcases hk with hk | hk
    · exact hk.2.2.2.1
    · rw [hk.2.1]; simp
  obtain ⟨v1, v2, v3, v4, v5, ⟨⟩⟩ := o
  rw [op1B_eq]
  simp only [List.length_append, kindB_len, textB_len, numB_len] at *; omega
theorem cmps_len {l : List T96D} (h : CmpsOk l) : (cmpsB l).length ≤ 404 := by
  have e : (cmpsB l).length = 4 + (l.flatMap cmp1B).length := by unfold cmpsB listB; rw [List.length_append, countB_len]
  have h2 := flat_most (l := l) (e := cmp1B) (n := 100) fun x hx => cmp1_len (h.1 x hx)
  have h3 := h.2
  omega
theorem ops_len {l : List T48D} (h : OpsOk l) : (opsB l).length ≤ 804 := by
  have e : (opsB l).length = 4 + (l.flatMap op1B).length := by unfold opsB listB; rw [List.length_append, countB_len]
  have h2 := flat_most (l := l) (e := op1B) (n := 200) fun o ho => by
    obtain ⟨i, hi⟩ := List.mem_iff_getElem?.1 ho
    exact op1_len (h.1 i o hi).1
  have h3 := h.2
  omega
theorem right_len {c : T28D} (h : RightC c) (hs : c.2.2.2.2.2.2.2.2.2.2.2.2.2.2.2.1.length ≤ 60000) : (cmdB c).length ≤ 200000000 := by
  have k2 := right_key h
  have k3 := right_end h
  have k4 := right_val h
  have k8 := cmps_len (right_cmps h)
  have k9 := ops_len (right_ops h).1
  have k10 := ops_len (right_ops h).2
  have k15 := itemsN_len c.2.2.2.2.2.2.2.2.2.2.2.2.2.2.1
  have k15l := (right_items h).2
  have k16 := sessN_len c.2.2.2.2.2.2.2.2.2.2.2.2.2.2.2.1
  have k17 := leasesB_len c.2.2.2.2.2.2.2.2.2.2.2.2.2.2.2.2.1
  have k17l := (right_sess h).2.2
  rw [itemsN_eq (right_plain h).1] at k15
  rw [sessN_eq (right_plain h).2] at k16
  obtain ⟨k, a2, a3, a4, a5, a6, a7, a8, a9, a10, a11, a12, a13, a14, a15, a16, a17, ⟨⟩⟩ := c
  rw [cmdB_eq]
  simp only [List.length_append, kindB_len, textB_len, numB_len, flagB_len] at *
  omega
theorem shNo : ShC NoCmd := by
  refine ⟨?_, ?_, ?_, ?_, ⟨?_, fun s hs => by simp at hs⟩, ?_⟩ <;> simp [Sh]
end Go.Proofs.YteebpcpkhojfkaaGreat
