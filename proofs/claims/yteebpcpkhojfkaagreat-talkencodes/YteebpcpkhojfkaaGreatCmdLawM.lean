/-
  Plain laws of what lies below, as this seat reaches them (by a program of the bench: port.py).
-/
import Derived.Test.YteebpcpkhojfkaaGreatCmdLawL
import Derived.Test.YteebpcpkhojfkaaGreatSxR
namespace Go.Proofs.YteebpcpkhojfkaaGreat
open Go.Sx Go Classical
set_option maxRecDepth 10000
theorem pre_key {s : List UInt8} (h : IsPre s) : IsKey s := h.2
theorem range_key {a b : List UInt8} (h : IsRange a b) : IsKey a := h.1
theorem range_end {a b : List UInt8} (h : IsRange a b) : b.length ≤ 32 := by
  rcases h.2 with h | h
  · rw [h]; simp
  · exact h.1.2.1
theorem right_kind {c : T28D} (h : RightC c) : 1 ≤ c.1 ∧ c.1 ≤ 16 := by
  have hk := h.2
  unfold KindOk at hk
  omega
theorem right_key {c : T28D} (h : RightC c) : c.2.1.length ≤ 32 := by
  have h0 : c.2.1 = [] → c.2.1.length ≤ 32 := fun e => by rw [e]; simp
  have h1 : IsKey c.2.1 → c.2.1.length ≤ 32 := fun e => e.len
  obtain ⟨hb, hk⟩ := h
  have hb := hb.1
  unfold KindOk PageOk at hk
  rcases hb with hb | hb | hb | hb | hb | hb
  · simp only [hb] at hk
    simp at hk
    exact h1 hk.1
  · simp only [hb] at hk
    simp at hk
    exact h1 (range_key hk)
  · simp only [hb] at hk
    simp at hk
    exact h1 (pre_key hk.2)
  · simp only [hb] at hk
    simp at hk
    exact h1 (pre_key hk.2.2.2.1)
  · simp only [hb] at hk
    simp at hk
    exact hk.2.2.1.elim h0 h1
  · exact h0 hb
theorem right_end {c : T28D} (h : RightC c) : c.2.2.1.length ≤ 32 := by
  obtain ⟨hb, hk⟩ := h
  have hb := hb.2.1
  have h0 : c.2.2.1 = [] → c.2.2.1.length ≤ 32 := fun e => by rw [e]; simp
  have h1 : IsKey c.2.2.1 → c.2.2.1.length ≤ 32 := fun e => e.len
  have h2 := @pre_key c.2.2.1
  have h3 := @range_end c.2.1 c.2.2.1
  unfold KindOk PageOk at hk
  rcases hb with hb | hb | hb | hb
  · exact h3 (by simp only [hb] at hk; simpa using hk)
  · simp only [hb] at hk
    exact h1 (h2 (by simp at hk; exact hk.2.2.2.2))
  · simp only [hb] at hk
    simp at hk
    exact hk.2.2.2.1.elim h0 h1
  · exact h0 hb
theorem right_val {c : T28D} (h : RightC c) : c.2.2.2.1.length ≤ 40 := by
  obtain ⟨hb, hk⟩ := h
  rcases hb.2.2.1 with hb | hb
  · unfold KindOk at hk
    simp only [hb] at hk
    simp at hk
    exact hk.2.1
  · rw [hb]; simp
theorem right_cmps {c : T28D} (h : RightC c) : CmpsOk c.2.2.2.2.2.2.2.1 := by
  obtain ⟨hb, hk⟩ := h
  rcases hb.2.2.2.2.2.2.1 with hb | hb
  · unfold KindOk at hk
    simp only [hb] at hk
    simp at hk
    exact hk.1
  · rw [hb.1]; exact ⟨fun x hx => by simp at hx, by simp⟩
theorem opsNil : OpsOk [] := ⟨fun i v hv => by simp at hv, by simp⟩
theorem right_ops {c : T28D} (h : RightC c) : OpsOk c.2.2.2.2.2.2.2.2.1 ∧ OpsOk c.2.2.2.2.2.2.2.2.2.1 := by
  obtain ⟨hb, hk⟩ := h
  rcases hb.2.2.2.2.2.2.1 with hb | hb
  · unfold KindOk at hk
    simp only [hb] at hk
    simp at hk
    exact hk.2
  · rw [hb.2.1, hb.2.2]; exact ⟨opsNil, opsNil⟩
theorem right_items {c : T28D} (h : RightC c) : (∀ x ∈ c.2.2.2.2.2.2.2.2.2.2.2.2.2.2.1, ItemOk x) ∧ c.2.2.2.2.2.2.2.2.2.2.2.2.2.2.1.length ≤ 64 := by
  obtain ⟨hb, hk⟩ := h
  rcases hb.2.2.2.2.2.2.2.2.2.2.2.1 with hb | hb | hb
  · unfold KindOk at hk
    simp only [hb] at hk
    simp at hk
    obtain ⟨-, -, -, -, h1, h2⟩ := hk
    refine ⟨fun x hx => ?_, by omega⟩
    obtain ⟨i, hi⟩ := List.mem_iff_getElem?.1 hx
    exact ⟨(h2 i x hi).1, (h2 i x hi).2.1⟩
  · unfold KindOk at hk
    simp only [hb] at hk
    simp at hk
    obtain ⟨-, -, -, -, -, h1, h2⟩ := hk
    refine ⟨fun x hx => ?_, h1⟩
    obtain ⟨i, hi⟩ := List.mem_iff_getElem?.1 hx
    exact ⟨(h2 i x hi).1, (h2 i x hi).2.1⟩
  · rw [hb]; exact ⟨fun x hx => by simp at hx, by simp⟩
theorem right_sess {c : T28D} (h : RightC c) : SessOk c.2.2.2.2.2.2.2.2.2.2.2.2.2.2.2.1 15 ∧ LeasesOk c.2.2.2.2.2.2.2.2.2.2.2.2.2.2.2.2.1 := by
  obtain ⟨hb, hk⟩ := h
  rcases hb.2.2.2.2.2.2.2.2.2.2.2.2 with hb | hb
  · unfold KindOk at hk
    simp only [hb] at hk
    simp at hk
    exact hk.2.2.2
  · rw [hb.1, hb.2]
    exact ⟨fun i v hv => by simp at hv, fun i v hv => by simp at hv, by simp⟩
theorem sess_reply {l : List T94D} {m : Int} (h : SessOk l m) : ∀ s ∈ l, ReplyOk s.2.2.1 := fun s hs => by
  obtain ⟨i, hi⟩ := List.mem_iff_getElem?.1 hs
  exact (h i s hi).2.2.2.1
theorem right_plain {c : T28D} (h : RightC c) : Plain c := ⟨fun x hx => may_item ((right_items h).1 x hx), sess_reply (right_sess h).1⟩
theorem verQ {v : VerD} (hf : Fit47 T66 v) (h : MayVer v) : VerQ v := by
  refine ⟨?_, dec_true h⟩
  have hl : v.2.2.2.2.1.length ≤ 60000 := by
    rcases h with h | h
    · rw [h]; simp
    · have := verOk_len h; omega
  obtain ⟨f1, f2, f3, f4, f5, f6, -, -⟩ := hf
  exact ⟨f1, f2, f3, f4, hl, f6, trivial, trivial⟩
theorem itemQ {x : T70D} (hf : Fit47 T70 x) (h : MayItem x) : ItemQ x := by
  refine ⟨⟨?_, verQ hf.2.1 h.2, trivial⟩, dec_true h⟩
  have := key_len h.1
  show x.1.length ≤ 60000
  omega
theorem itemsQ {l : List T70D} (hf : Fit47 (.slice T70) l) (hl : l.length ≤ 60000) (h : ∀ x ∈ l, MayItem x) : ListQ ItemQ l := ⟨hl, fun x hx => itemQ (hf.2 x hx) (h x hx)⟩
theorem replyQ {r : T51D} (hf : Fit47 T51 r) (h : ReplyOk r) : ReplyQ r := by
  obtain ⟨f1, f2, f3, f4, f5, f6, f7, -⟩ := hf
  refine ⟨⟨?_, f2, trivial, f4, itemsQ f5 ?_ fun x hx => may_item (h.2.2.2.2.2.2.2.2 x hx), ?_, f7, trivial⟩, dec_true h⟩
  · have := h.1; have := h.2.1; unfold Ok8; omega
  · have := h.2.2.2.2.2.2.2.1; omega
  · have := h.2.2.2.2.2.1; have := h.2.2.2.2.2.2.1; unfold Ok8; omega
theorem sessQ {l : List T94D} (hf : Fit47 (.slice T94) l) (hl : l.length ≤ 60000) (h : ∀ s ∈ l, ReplyOk s.2.2.1) : ListQ SessQ1 l := ⟨hl, fun s hs => by
  obtain ⟨f1, f2, f3, -⟩ := hf.2 s hs
  exact ⟨f1, f2, replyQ f3 (h s hs), trivial⟩⟩
theorem leasesQ {l : List T113D} (hf : Fit47 (.slice T113) l) (hl : l.length ≤ 60000) : ListQ LeaseQ1 l := ⟨hl, fun s hs => by
  obtain ⟨f1, f2, f3, -⟩ := hf.2 s hs
  exact ⟨f1, f2, f3, trivial⟩⟩
theorem moveQ {m : T53D} (hf : Fit47 T53 m) (h : MoveOk m) : MoveQ m := by
  obtain ⟨f1, f2, f3, -, -, f6, -, f8, f9, f10, -⟩ := hf
  obtain ⟨h1, h2, -, -, h4, h5, -, h7, -⟩ := id h
  have := pre_len h4
  have := pre_len h5
  have := key_len h7
  refine ⟨⟨⟨by omega, by omega⟩, f2, f3, ?_, ?_, f6, ?_, f8, f9, f10, trivial⟩, dec_true h⟩
  · show m.2.2.2.1.length ≤ 60000; omega
  · show m.2.2.2.2.1.length ≤ 60000; omega
  · show m.2.2.2.2.2.2.1.length ≤ 60000; omega
theorem handQ {m : T55D} (hf : Fit47 T55 m) (hl : m.2.2.1.length ≤ 60000) (h : HandOk m) : HandQ m := by
  obtain ⟨f1, f2, f3, f4, -⟩ := hf
  exact ⟨⟨f1, f2, sessQ f3 hl (sess_reply h.2.2.1), leasesQ f4 (by have := h.2.2.2.2; omega), trivial⟩, dec_true h⟩
theorem opsQ {l : List T48D} (hf : Fit47 (.slice T48) l) (h : OpsOk l) : ListQ OpQ1 l := ⟨by have := h.2; omega, fun o ho => by
  obtain ⟨-, -, -, -, f5, -⟩ := hf.2 o ho
  obtain ⟨i, hi⟩ := List.mem_iff_getElem?.1 ho
  have hk := (h.1 i o hi).1
  have h1 := key_len (.inr (op_range hk).2)
  have h2 := range_end (op_range hk).1
  have h3 : o.2.2.2.1.length ≤ 40 := by
    rcases hk with hk | hk
    · exact hk.2.2.2.1
    · rw [hk.2.1]; simp
  refine ⟨?_, ?_, ?_, ?_, f5, trivial⟩
  · unfold OpOk at hk; unfold Ok8; omega
  · show o.2.1.length ≤ 60000; omega
  · show o.2.2.1.length ≤ 60000; omega
  · show o.2.2.2.1.length ≤ 60000; omega⟩
theorem cmpsQ {l : List T96D} (hf : Fit47 (.slice T96) l) (h : CmpsOk l) : ListQ CmpQ1 l := ⟨by have := h.2; omega, fun o ho => by
  obtain ⟨-, -, -, f4, -, -⟩ := hf.2 o ho
  obtain ⟨h1, h2, h3, h4⟩ := h.1 o ho
  have hk := h1.len
  have h5 : o.2.2.2.2.1.length ≤ 40 := by
    rcases h4 with h4 | h4
    · rw [h4.2.2.1]; simp
    · exact h4.2.2
  refine ⟨?_, ?_, ?_, f4, ?_, trivial⟩
  · show o.1.length ≤ 60000; omega
  · show Ok8 o.2.1; unfold Ok8; omega
  · show Ok8 o.2.2.1; unfold Ok8; omega
  · show o.2.2.2.2.1.length ≤ 60000; omega⟩
theorem cmdQ {c : T28D} (hf : Fit47 T28 c) (hs : c.2.2.2.2.2.2.2.2.2.2.2.2.2.2.2.1.length ≤ 60000) (h : RightC c) : CmdQ c := by
  have k1 := right_kind h
  have k2 := right_key h
  have k3 := right_end h
  have k4 := right_val h
  have k8 := right_cmps h
  obtain ⟨k9, k10⟩ := right_ops h
  obtain ⟨k15, k15l⟩ := right_items h
  obtain ⟨k16, k17⟩ := right_sess h
  obtain ⟨-, -, -, -, f5, f6, f7, f8, f9, f10, f11, f12, f13, -, f15, f16, f17, -⟩ := hf
  refine ⟨⟨by omega, by omega⟩, ?_, ?_, ?_, f5, f6, f7, cmpsQ f8 k8, opsQ f9 k9, opsQ f10 k10, f11, f12, f13, trivial, itemsQ f15 (by omega) fun x hx => may_item (k15 x hx), sessQ f16 hs (sess_reply k16), leasesQ f17 (by have := k17.2; omega), trivial⟩
  · show c.2.1.length ≤ 60000; omega
  · show c.2.2.1.length ≤ 60000; omega
  · show c.2.2.2.1.length ≤ 60000; omega
theorem end_long (b : List UInt8) (h : 60000 < b.length) : F31 ((b, ()), ()) = some ([], 3, (b, ()), ()) := by
  unfold F31
  have e : decide ((60000 : Int) < Int.ofNat b.length) = true := decide_eq_true (by simp; omega)
  simp only [e, cond_true]
theorem cmp1_len {x : T96D} (h : CmpOk x) : (cmp1B x).length ≤ 100 := by
  obtain ⟨h1, -, -, h4⟩ := h
  have hk := h1.len
  obtain ⟨v1, v2, v3, v4, v5, ⟨⟩⟩ := x
  have h5 : v5.length ≤ 40 := by
    rcases h4 with h4 | h4
    · have : v5 = [] := h4.2.2.1
      rw [this]; simp
    · exact h4.2.2
  rw [cmp1B_eq]
  simp only [List.length_append, kindB_len, textB_len, numB_len] at *; omega
theorem op1_len {o : T48D} (hk : OpOk o) : (op1B o).length ≤ 200 := by
  have h1 := key_len (.inr (op_range hk).2)
  have h2 := range_end (op_range hk).1
  have h3 : o.2.2.2.1.length ≤ 40 := by
    rcases hk with hk | hk
    · exact hk.2.2.2.1
    · rw [hk.2.1]; simp
  obtain ⟨v1, v2, v3, v4, v5, ⟨⟩⟩ := o
  rw [op1B_eq]
  simp only [List.length_append, kindB_len, textB_len, numB_len] at *; omega
theorem cmps_len {l : List T96D} (h : CmpsOk l) : (cmpsB l).length ≤ 404 := by
  have e : (cmpsB l).length = 4 + (l.flatMap cmp1B).length := by unfold cmpsB listB; rw [List.length_append, countB_len]
  have h2 := flat_most (l := l) (e := cmp1B) (n := 100) fun x hx => cmp1_len (h.1 x hx)
  have h3 := h.2
  omega
theorem ops_len {l : List T48D} (h : OpsOk l) : (opsB l).length ≤ 804 := by
  have e : (opsB l).length = 4 + (l.flatMap op1B).length := by unfold opsB listB; rw [List.length_append, countB_len]
  have h2 := flat_most (l := l) (e := op1B) (n := 200) fun o ho => by
    obtain ⟨i, hi⟩ := List.mem_iff_getElem?.1 ho
    exact op1_len (h.1 i o hi).1
  have h3 := h.2
  omega
theorem right_len {c : T28D} (h : RightC c) (hs : c.2.2.2.2.2.2.2.2.2.2.2.2.2.2.2.1.length ≤ 60000) : (cmdB c).length ≤ 200000000 := by
  have k2 := right_key h
  have k3 := right_end h
  have k4 := right_val h
  have k8 := cmps_len (right_cmps h)
  have k9 := ops_len (right_ops h).1
  have k10 := ops_len (right_ops h).2
  have k15 := itemsN_len c.2.2.2.2.2.2.2.2.2.2.2.2.2.2.1
  have k15l := (right_items h).2
  have k16 := sessN_len c.2.2.2.2.2.2.2.2.2.2.2.2.2.2.2.1
  have k17 := leasesB_len c.2.2.2.2.2.2.2.2.2.2.2.2.2.2.2.2.1
  have k17l := (right_sess h).2.2
  rw [itemsN_eq (right_plain h).1] at k15
  rw [sessN_eq (right_plain h).2] at k16
  obtain ⟨k, a2, a3, a4, a5, a6, a7, a8, a9, a10, a11, a12, a13, a14, a15, a16, a17, ⟨⟩⟩ := c
  rw [cmdB_eq]
  simp only [List.length_append, kindB_len, textB_len, numB_len, flagB_len] at *
  omega
theorem encode_eq (j : T33D) (hf : Fit47 T33 j) (hs : j.2.2.1.2.2.2.2.2.2.2.2.2.2.2.2.2.2.2.1.length ≤ 60000) : F27 (j, ()) = some (bif dec' (JobOk j) then (bif decide ((jobB j).length ≤ 12000) then (jobB j, 0, ()) else ([], 3, ())) else ([], 1, ())) := by
  obtain ⟨n, m, c, ⟨⟩⟩ := j
  have hz := szCmd hf.2.2.1
  have hj := job_eq (n, m, c, ()) hz.1
  unfold F27
  simp only [hj, Option.bind_some]
  by_cases h : JobOk (n, m, c, ())
  · have hr : RightC c := h.1
    have hl := right_len hr hs
    rw [dec_true h]
    simp only [Bool.not_true, cond_false, cond_true]
    rw [outNumG [] n (by rw [numB_len]; unfold Big; simp)]
    simp only [Option.bind_some]
    rw [outNumG _ m (by simp only [List.length_append, numB_len, List.length_nil]; unfold Big; omega)]
    simp only [Option.bind_some]
    rw [putCmd_eq _ c hz.1 (right_plain hr) (by simp only [List.length_append, numB_len, List.length_nil]; unfold Big; omega)]
    have e : [] ++ numB n ++ numB m ++ cmdB c = jobB (n, m, c, ()) := by rw [jobB_eq]; rfl
    rw [e]
    simp only [Option.bind_some]
    by_cases h6 : (jobB (n, m, c, ())).length ≤ 60000
    · rw [end_eq _ h6]
      simp only [Option.bind_some, decide_true, Bool.not_true, cond_false]
      by_cases h12 : (jobB (n, m, c, ())).length ≤ 12000
      · have e1 : decide ((12000 : Int) < Int.ofNat (jobB (n, m, c, ())).length) = false := decide_eq_false (by simp only [Int.ofNat_eq_natCast]; omega)
        rw [e1, decide_eq_true h12]; rfl
      · have e1 : decide ((12000 : Int) < Int.ofNat (jobB (n, m, c, ())).length) = true := decide_eq_true (by simp only [Int.ofNat_eq_natCast]; omega)
        rw [e1, decide_eq_false h12]; rfl
    · rw [end_long _ (by omega)]
      have h12 : ¬ (jobB (n, m, c, ())).length ≤ 12000 := by omega
      rw [decide_eq_false h12]
      rfl
  · rw [dec_false h]
    rfl
theorem jobQ {j : T33D} (hf : Fit47 T33 j) (hs : j.2.2.1.2.2.2.2.2.2.2.2.2.2.2.2.2.2.2.1.length ≤ 60000) (h : JobOk j) : JobQ j := by
  obtain ⟨f1, f2, f3, -⟩ := hf
  exact ⟨f1, f2, cmdQ f3 hs h.1, trivial⟩
theorem shNo : ShC NoCmd := by
  refine ⟨?_, ?_, ?_, ?_, ⟨?_, fun s hs => by simp at hs⟩, ?_⟩ <;> simp [Sh]
end Go.Proofs.YteebpcpkhojfkaaGreat
