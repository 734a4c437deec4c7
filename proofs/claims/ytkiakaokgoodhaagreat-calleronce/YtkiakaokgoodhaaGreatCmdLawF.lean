/-
  Plain laws of what lies below, as this seat reaches them (by a program of the bench: port.py).
-/
import Derived.Test.YtkiakaokgoodhaaGreatCmdLawE
import Derived.Test.YtkiakaokgoodhaaGreatSxR
namespace Go.Proofs.YtkiakaokgoodhaaGreat
open Go.Sx Go Classical
set_option maxRecDepth 10000
def SzItems (l : List T70D) : Prop := Sh l ∧ ∀ x ∈ l, St x.1
theorem handed_eq (s : List T94D) (l : List T113D) (hs : ShS s) (hl : Sh l) : F149 (s, l, ()) = some (dec' (SessOk s 15 ∧ LeasesOk l), ()) := by
  unfold F149
  simp only [sess_eq s 15 hs, leases_eq l hl, Option.bind_some]
  apply fin
  · repeat' first | apply base_true | apply base_false | apply base_dec | apply cond_step | apply cond_stepN
  · grind
def KindOk (c : T28D) : Prop :=
  (c.1 = 1 ∧ IsKey c.2.1 ∧ c.2.2.2.1.length ≤ 40 ∧ Nat40 c.2.2.2.2.1) ∨ (c.1 = 2 ∧ IsRange c.2.1 c.2.2.1) ∨ (c.1 = 3 ∧ CmpsOk c.2.2.2.2.2.2.2.1 ∧ OpsOk c.2.2.2.2.2.2.2.2.1 ∧ OpsOk c.2.2.2.2.2.2.2.2.2.1) ∨
  (c.1 = 4 ∧ Pos40 c.2.2.2.2.2.2.1) ∨ (c.1 = 5 ∧ Pos40 c.2.2.2.2.1 ∧ 1 ≤ c.2.2.2.2.2.1 ∧ c.2.2.2.2.2.1 ≤ 1000) ∨ ((c.1 = 6 ∨ c.1 = 7) ∧ Pos40 c.2.2.2.2.1) ∨ c.1 = 8 ∨ (c.1 = 9 ∧ c.2.2.2.2.1 ≠ 0 ∧ -1099511627776 ≤ c.2.2.2.2.1 ∧ c.2.2.2.2.1 ≤ 1099511627776) ∨
  (Pos40 c.2.2.2.2.2.2.2.2.2.2.1 ∧ ((c.1 = 10 ∧ IsPre c.2.1) ∨ c.1 = 11 ∨ c.1 = 16 ∨ (Pos40 c.2.2.2.2.2.2.2.2.2.2.2.1 ∧ ((c.1 = 12 ∧ Pos40 c.2.2.2.2.2.2.1 ∧ IsPre c.2.1 ∧ IsPre c.2.2.1) ∨ (c.1 = 13 ∧ PageOk c) ∨ (c.1 = 14 ∧ TailOk c) ∨
    (c.1 = 15 ∧ Pos40 c.2.2.2.2.2.2.1 ∧ SessOk c.2.2.2.2.2.2.2.2.2.2.2.2.2.2.2.1 15 ∧ LeasesOk c.2.2.2.2.2.2.2.2.2.2.2.2.2.2.2.2.1)))))
def RightC (c : T28D) : Prop := BareOk True c ∧ KindOk c
theorem txn_eq (c : T28D) (hc : ShC c) : F165 (c, ()) = some (dec' (CmpsOk c.2.2.2.2.2.2.2.1 ∧ OpsOk c.2.2.2.2.2.2.2.2.1 ∧ OpsOk c.2.2.2.2.2.2.2.2.2.1), ()) := by
  obtain ⟨h8, h9, h10, h15, h16, h17⟩ := hc
  unfold F165
  simp only [anyCmps_eq _ h8, ops_eq _ h9, ops_eq _ h10, Option.bind_some, Bool.not_not]
  apply fin
  · repeat' first | apply base_true | apply base_false | apply base_dec | apply cond_step | apply cond_stepN
  · unfold CmpsOk; simp only [Int.ofNat_eq_natCast]; grind
theorem client_eq (c : T28D) (hc : ShC c) (h10 : c.1 < 10) : F153 (c, ()) = some (dec' (KindOk c), ()) := by
  have ht := txn_eq c hc
  obtain ⟨k, a2, a3, a4, a5, a6, a7, a8, a9, a10, a11, a12, a13, a14, a15, a16, a17, ⟨⟩⟩ := c
  unfold F153
  simp only [put_eq, range_eq, ht, pos1, within_eq, Option.bind_some]
  simp only at h10
  rcases kinds k with h | h | h | h | h | h | h | h | h | h | h | h | h | h | h | h | h
  iterate 9
    · subst h
      simp only [Int.reduceEq, decide_true, decide_false, cond_true, cond_false]
      apply fin
      · repeat' first | apply base_true | apply base_false | apply base_dec | apply cond_step | apply cond_stepN
      · simp only [KindOk, Int.reduceEq, false_and, true_and, false_or, or_false, and_false, or_self]
        try grind
  iterate 7
    · exact absurd h10 (by omega)
  · have f : ∀ n : Int, 1 ≤ n → n ≤ 16 → (k = n) = False := fun n h1 h2 => eq_false (by omega)
    simp only [f 1 (by omega) (by omega), f 2 (by omega) (by omega), f 3 (by omega) (by omega), f 4 (by omega) (by omega), f 5 (by omega) (by omega), f 6 (by omega) (by omega), f 7 (by omega) (by omega), f 8 (by omega) (by omega), f 9 (by omega) (by omega), f 10 (by omega) (by omega), f 11 (by omega) (by omega), f 12 (by omega) (by omega), f 13 (by omega) (by omega), f 14 (by omega) (by omega), f 15 (by omega) (by omega), f 16 (by omega) (by omega), KindOk, decide_false, cond_false, false_and, or_self, and_false]
theorem right_eq (c : T28D) (hc : ShC c) : F139 (c, ()) = some (dec' (RightC c), ()) := by
  obtain ⟨b, hb, hsb, hiff⟩ := keep_eq c hc
  have hS : F58 (b, c, ()) = some (dec' (BareOk (c.1 ≤ 16) c), ()) := fin (cmd_same b c hsb) hiff
  clear hiff hsb
  have hcl := client_eq c hc
  have hpg := page_eq c hc.2.2.2.1
  have htl := tail_eq c hc.2.2.2.1
  have hhd := handed_eq c.2.2.2.2.2.2.2.2.2.2.2.2.2.2.2.1 c.2.2.2.2.2.2.2.2.2.2.2.2.2.2.2.2.1 hc.2.2.2.2.1 hc.2.2.2.2.2
  obtain ⟨k, a2, a3, a4, a5, a6, a7, a8, a9, a10, a11, a12, a13, a14, a15, a16, a17, ⟨⟩⟩ := c
  simp only at hcl hhd
  unfold F139
  simp only [hb, hS, pos1, pos2, pre_eq, hpg, htl, hhd, Option.bind_some]
  clear hb hS
  unfold RightC
  rcases kinds k with h | h | h | h | h | h | h | h | h | h | h | h | h | h | h | h | h
  iterate 9
    · subst h
      rw [hcl (by omega)]
      simp only [Int.reduceEq, Int.reduceLT, Int.reduceLE, decide_true, decide_false, cond_true, cond_false, Option.bind_some]
      apply fin
      · repeat' first | apply base_true | apply base_false | apply base_dec | apply cond_step | apply cond_stepN
      · grind
  iterate 7
    · subst h
      simp only [Int.reduceEq, Int.reduceLT, Int.reduceLE, decide_true, decide_false, cond_true, cond_false]
      apply fin
      · repeat' first | apply base_true | apply base_false | apply base_dec | apply cond_step | apply cond_stepN
      · simp only [KindOk, Int.reduceEq, false_and, true_and, false_or, or_false, and_false, or_self, ne_eq]
        grind
  · have f : ∀ n : Int, 1 ≤ n → n ≤ 16 → (k = n) = False := fun n h1 h2 => eq_false (by omega)
    have hK : KindOk (k, a2, a3, a4, a5, a6, a7, a8, a9, a10, a11, a12, a13, a14, a15, a16, a17, ()) = False := by
      simp only [f 1 (by omega) (by omega), f 2 (by omega) (by omega), f 3 (by omega) (by omega), f 4 (by omega) (by omega), f 5 (by omega) (by omega), f 6 (by omega) (by omega), f 7 (by omega) (by omega), f 8 (by omega) (by omega), f 9 (by omega) (by omega), f 10 (by omega) (by omega), f 11 (by omega) (by omega), f 12 (by omega) (by omega), f 13 (by omega) (by omega), f 14 (by omega) (by omega), f 15 (by omega) (by omega), f 16 (by omega) (by omega), KindOk, false_and, or_self, and_false]
    rw [hK] at hcl ⊢
    by_cases h9 : k < 10
    · rw [hcl h9]
      simp only [h9, decide_true, cond_true]
      apply fin
      · repeat' first | apply base_true | apply base_false | apply base_dec | apply cond_step | apply cond_stepN
      · grind
    · simp only [h9, decide_false, cond_false, f 10 (by omega) (by omega), f 11 (by omega) (by omega), f 12 (by omega) (by omega), f 13 (by omega) (by omega), f 14 (by omega) (by omega), f 15 (by omega) (by omega), f 16 (by omega) (by omega)]
      apply fin
      · repeat' first | apply base_true | apply base_false | apply base_dec | apply cond_step | apply cond_stepN
      · grind
def SzCmd (c : T28D) : Prop := ShC c ∧ LnC c ∧ St c.2.1 ∧ St c.2.2.1 ∧ (∀ x ∈ c.2.2.2.2.2.2.2.1, St x.1) ∧ (∀ o ∈ c.2.2.2.2.2.2.2.2.1, SzOp o) ∧ (∀ o ∈ c.2.2.2.2.2.2.2.2.2.1, SzOp o) ∧ SzItems c.2.2.2.2.2.2.2.2.2.2.2.2.2.2.1 ∧ SzSess c.2.2.2.2.2.2.2.2.2.2.2.2.2.2.2.1
def JobOk (j : T33D) : Prop := RightC j.2.2.1 ∧ ((j.1 = 0 ∧ j.2.1 = 0 ∧ 8 ≤ j.2.2.1.1) ∨ (1 ≤ j.1 ∧ j.1 ≤ 31 ∧ Pos40 j.2.1 ∧ j.2.2.1.1 < 8))
theorem job_eq (j : T33D) (hj : ShC j.2.2.1) : F115 (j, ()) = some (dec' (JobOk j), ()) := by
  obtain ⟨cl, sq, c, ⟨⟩⟩ := j
  have hr := right_eq c hj
  unfold F115
  simp only [hr, within_eq, pos1, Option.bind_some]
  apply fin
  · repeat' first | apply base_true | apply base_false | apply base_dec | apply cond_step | apply cond_stepN
  · unfold JobOk; grind
def MoveOk (m : T53D) : Prop := 0 ≤ m.1 ∧ m.1 ≤ 4 ∧ Nat40 m.2.1 ∧ Nat40 m.2.2.1 ∧ (m.2.2.2.1 = [] ∨ IsPre m.2.2.2.1) ∧ (m.2.2.2.2.1 = [] ∨ IsPre m.2.2.2.2.1) ∧ Nat40 m.2.2.2.2.2.1 ∧ (m.2.2.2.2.2.2.1 = [] ∨ IsKey m.2.2.2.2.2.2.1) ∧ Nat40 m.2.2.2.2.2.2.2.1 ∧ Nat40 m.2.2.2.2.2.2.2.2.1 ∧ Nat40 m.2.2.2.2.2.2.2.2.2.1
def SzMove (m : T53D) : Prop := St m.2.2.2.1 ∧ St m.2.2.2.2.1 ∧ St m.2.2.2.2.2.2.1
theorem move1_eq (s : List UInt8) : F150a (s, ()) = some (dec' (s = [] ∨ IsPre s), ()) := by
  unfold F150a
  simp only [pre_eq, Option.bind_some]
  apply fin
  · repeat' first | apply base_true | apply base_false | apply base_dec | apply cond_step | apply cond_stepN
  · grind
theorem move2_eq (s : List UInt8) : F150b (s, ()) = some (dec' (s = [] ∨ IsKey s), ()) := by
  unfold F150b
  simp only [key_eq, Option.bind_some]
  apply fin
  · repeat' first | apply base_true | apply base_false | apply base_dec | apply cond_step | apply cond_stepN
  · grind
theorem move_eq (m : T53D) : F124 (m, ()) = some (dec' (MoveOk m), ()) := by
  obtain ⟨a1, a2, a3, a4, a5, a6, a7, a8, a9, a10, ⟨⟩⟩ := m
  unfold F124
  simp only [nat6, move1_eq, move2_eq, Option.bind_some]
  apply fin
  · repeat' first | apply base_true | apply base_false | apply base_dec | apply cond_step | apply cond_stepN
  · unfold MoveOk; grind
def HandOk (h : T55D) : Prop := Pos40 h.1 ∧ Nat40 h.2.1 ∧ SessOk h.2.2.1 15 ∧ LeasesOk h.2.2.2.1
def SzHand (h : T55D) : Prop := SzSess h.2.2.1 ∧ Sh h.2.2.2.1
theorem hand_eq (h : T55D) (hh : ShH h) : F123 (h, ()) = some (dec' (HandOk h), ()) := by
  obtain ⟨a1, a2, a3, a4, ⟨⟩⟩ := h
  have e := handed_eq a3 a4 hh.1 hh.2
  unfold F123
  simp only [pos1, nat1, e, Option.bind_some]
  apply fin
  · repeat' first | apply base_true | apply base_false | apply base_dec | apply cond_step | apply cond_stepN
  · unfold HandOk; grind
end Go.Proofs.YtkiakaokgoodhaaGreat
