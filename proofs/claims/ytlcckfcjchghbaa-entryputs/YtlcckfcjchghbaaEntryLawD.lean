/-
  entry: what is put has the document's bytes. (The law of what is put.)
-/
import Derived.Test.YtlcckfcjchghbaaEntryLawC
import Derived.Test.YtlcckfcjchghbaaOctBack
namespace Go.Proofs.Ytlcckfcjchghbaa
open Go.Sx Go Classical
set_option maxRecDepth 10000
/-- an index, a term and data as bytes -/
def threeB (i t : Int) (s : List UInt8) : List UInt8 := wideB (IntKind.wrap .u64 i) 8 ++ wideB (IntKind.wrap .u64 t) 8 ++ textB s
theorem three_eq (i t : Int) (s : List UInt8) (h : s.length ≤ 100000) : F51 (i, t, s, ()) = some (threeB i t s, ()) := by
  unfold F51 threeB
  simp only [refNumB_eq, Option.bind_some]
  rw [appU_eq (by simp only [wideB_len]; omega)]
  simp only [Option.bind_some, refTextB_eq s (show s.length ≤ 140737488351232 by omega)]
  rw [appU_eq (by simp only [List.length_append, wideB_len, textB_len]; omega)]
  rfl
theorem put3_eq (b : List UInt8) (i t : Int) (s : List UInt8) (hb : b.length + 20 + s.length ≤ 140737488355000) : F49 ((b, ()), i, t, s, ()) = some ((b ++ threeB i t s, ()), ()) := by
  rw [outPut3 b i t s hb]
  unfold threeB
  simp only [List.append_assoc]
theorem zero20 : (mkO 0 20 20 : Option (List UInt8)) = some (threeB 0 0 []) := rfl
theorem zero16 : (mkO 0 16 16 : Option (List UInt8)) = some (wideB (IntKind.wrap .u64 0) 8 ++ wideB (IntKind.wrap .u64 0) 8) := rfl
def bytesE (e : Ent) (ok : Bool) : List UInt8 := bif ok then threeB e.1 e.2.1 e.2.2.1 else threeB 0 0 []
def bytesH (h : Int × Int × Unit) (ok : Bool) : List UInt8 := bif ok then wideB (IntKind.wrap .u64 h.1) 8 ++ wideB (IntKind.wrap .u64 h.2.1) 8 else wideB (IntKind.wrap .u64 0) 8 ++ wideB (IntKind.wrap .u64 0) 8
theorem threeB_len (i t : Int) (s : List UInt8) : (threeB i t s).length = s.length + 20 := by
  unfold threeB
  simp only [List.length_append, wideB_len, textB_len]; omega
theorem bytesE_len (e : Ent) (ok : Bool) : (bytesE e ok).length ≤ e.2.2.1.length + 20 := by
  unfold bytesE
  cases ok
  · simp only [cond_false, threeB_len, List.length_nil]; omega
  · simp only [cond_true, threeB_len]; omega
theorem bytesH_len (e : Int × Int × Unit) (ok : Bool) : (bytesH e ok).length = 16 := by
  unfold bytesH
  cases ok <;> simp only [cond_false, cond_true, List.length_append, wideB_len]
theorem put_eq (b : List UInt8) (e : Ent) (hb : b.length + 20 + e.2.2.1.length ≤ 140737488355000) : F30 ((b, ()), e, ()) = some ((b ++ bytesE e (decide (RightE e)), ()), ()) := by
  obtain ⟨i, t, s, ⟨⟩⟩ := e
  unfold F30 bytesE
  simp only [right_eq, Option.bind_some]
  cases decide (RightE (i, t, s, ())) with
  | true => simp only [Bool.not_true, cond_false, cond_true, put3_eq b i t s hb, Option.bind_some]
  | false => simp only [Bool.not_false, cond_false, cond_true, put3_eq b 0 0 [] (show b.length + 20 + ([] : List UInt8).length ≤ 140737488355000 by simp only [List.length_nil]; omega), Option.bind_some]
theorem putSnap_eq (b : List UInt8) (e : Ent) (hb : b.length + 20 + e.2.2.1.length ≤ 140737488355000) (ok : Bool) (ho : F16 (e, ()) = some (ok, ())) : F32 ((b, ()), e, ()) = some ((b ++ bytesE e ok, ()), ()) := by
  obtain ⟨i, t, s, ⟨⟩⟩ := e
  unfold F32 bytesE
  simp only [snap_same, ho, Option.bind_some]
  cases ok with
  | true => simp only [Bool.not_true, cond_false, cond_true, put3_eq b i t s hb, Option.bind_some]
  | false => simp only [Bool.not_false, cond_false, cond_true, put3_eq b 0 0 [] (show b.length + 20 + ([] : List UInt8).length ≤ 140737488355000 by simp only [List.length_nil]; omega), Option.bind_some]
theorem putHard_eq (b : List UInt8) (e : Int × Int × Unit) (hb : b.length + 16 ≤ 140737488355000) (ok : Bool) (ho : F14 (e, ()) = some (ok, ())) : F31 ((b, ()), e, ()) = some ((b ++ bytesH e ok, ()), ()) := by
  obtain ⟨i, t, ⟨⟩⟩ := e
  unfold F31 bytesH
  simp only [hard_same, ho, Option.bind_some]
  cases ok with
  | true =>
    simp only [Bool.not_true, cond_false, cond_true]
    rw [outNum_eq b i (by omega)]
    simp only [Option.bind_some]
    rw [outNum_eq _ t (by simp only [List.length_append, wideB_len]; omega)]
    simp only [Option.bind_some, List.append_assoc]
  | false =>
    simp only [Bool.not_false, cond_false, cond_true]
    rw [outNum_eq b 0 (by omega)]
    simp only [Option.bind_some]
    rw [outNum_eq _ 0 (by simp only [List.length_append, wideB_len]; omega)]
    simp only [Option.bind_some, List.append_assoc]
theorem doc_eq (e : Ent) (he : e.2.2.1.length ≤ 100000) : F34 (e, ()) = some (bytesE e (decide (RightE e)), ()) := by
  obtain ⟨i, t, s, ⟨⟩⟩ := e
  unfold F34 bytesE
  simp only [refRight_eq, Option.bind_some]
  cases decide (RightE (i, t, s, ())) with
  | true => simp only [Bool.not_true, cond_false, cond_true, three_eq i t s he, Option.bind_some]
  | false => simp only [Bool.not_false, cond_false, cond_true, zero20, Option.bind_some]
theorem docSnap_eq (e : Ent) (he : e.2.2.1.length ≤ 100000) (ok : Bool) (ho : F16 (e, ()) = some (ok, ())) : F36 (e, ()) = some (bytesE e ok, ()) := by
  obtain ⟨i, t, s, ⟨⟩⟩ := e
  unfold F36 bytesE
  simp only [ho, Option.bind_some]
  cases ok with
  | true => simp only [Bool.not_true, cond_false, cond_true, three_eq i t s he, Option.bind_some]
  | false => simp only [Bool.not_false, cond_false, cond_true, zero20, Option.bind_some]
theorem docHard_eq (e : Int × Int × Unit) (ok : Bool) (ho : F14 (e, ()) = some (ok, ())) : F35 (e, ()) = some (bytesH e ok, ()) := by
  obtain ⟨i, t, ⟨⟩⟩ := e
  unfold F35 bytesH
  simp only [ho, Option.bind_some]
  cases ok with
  | true =>
    simp only [Bool.not_true, cond_false, cond_true, refNumB_eq, Option.bind_some]
    rw [appU_eq (by simp only [wideB_len]; omega)]
    rfl
  | false => simp only [Bool.not_false, cond_false, cond_true, zero16, Option.bind_some]
theorem numI_num (n : Int) (r : List UInt8) : numI (wideB (IntKind.wrap .u64 n) 8 ++ r, false, ()) 8 = (IntKind.wrap .u64 n, (r, false, ())) := by
  obtain ⟨w, hw, hlt⟩ : ∃ w : Nat, IntKind.wrap .u64 n = (w : Int) ∧ w < 18446744073709551616 := by
    have := wrapU64_mod n
    exact ⟨(IntKind.wrap .u64 n).toNat, by omega, by omega⟩
  rw [hw, numI_wide w 8 (by omega), show w % 256 ^ 8 = w from Nat.mod_eq_of_lt hlt]
def In64 (n : Int) : Prop := -9223372036854775808 ≤ n ∧ n ≤ 9223372036854775807
theorem three_back (i t : Int) (s r : List UInt8) (hi : In64 i) (ht : In64 t) (m : Int) (hm : (s.length : Int) ≤ m) (hs : s.length < 100000) :
    wrap64 (numI (threeB i t s ++ r, false, ()) 8).1 = i ∧ wrap64 (numI (numI (threeB i t s ++ r, false, ()) 8).2 8).1 = t ∧ textI (numI (numI (threeB i t s ++ r, false, ()) 8).2 8).2 m = (s, (r, false, ())) := by
  unfold threeB
  simp only [List.append_assoc, numI_num, wrap_back hi.1 hi.2, wrap_back ht.1 ht.2, textI_text s r (show s.length < 4294967296 by omega) m hm, and_self]
theorem get_back (e : Ent) (r : List UInt8) (h : RightE e) (hr : r.length ≤ 100000) : F22 ((threeB e.1 e.2.1 e.2.2.1 ++ r, false, ()), ()) = some (e, (r, false, ()), ()) := by
  obtain ⟨i, t, s, ⟨⟩⟩ := e
  have h0 := h
  obtain ⟨⟨h1, h2⟩, ⟨h3, h4⟩, h5⟩ := h
  have h5' : s.length ≤ 12000 := h5
  have h1' : 1 ≤ i := h1
  have h2' : i ≤ 1099511627776 := h2
  have h3' : 1 ≤ t := h3
  have h4' : t ≤ 1099511627776 := h4
  obtain ⟨b1, b2, b3⟩ := three_back i t s r ⟨by omega, by omega⟩ ⟨by omega, by omega⟩ 12000 (by omega) (by omega)
  have hl := threeB_len i t s
  have l1 := numI_len (threeB i t s ++ r, false, ()) 8
  have l2 := numI_len (numI (threeB i t s ++ r, false, ()) 8).2 8
  simp only [List.length_append] at l1
  unfold F22
  simp only [inNum_eq, Option.bind_some, inBytes_eq _ 12000 (by omega) (show (numI (numI (threeB i t s ++ r, false, ()) 8).2 8).2.1.length ≤ 9223372036854775807 by omega), bad_eq, right_eq, b1, b2, b3, cond_false, h0, decide_true, Bool.not_true]
theorem snap_back (e : Ent) (r : List UInt8) (hi : In64 e.1) (ht : In64 e.2.1) (h : F16 (e, ()) = some (true, ())) (hs : e.2.2.1.length ≤ 50000) (hr : r.length ≤ 100000) : F27 ((threeB e.1 e.2.1 e.2.2.1 ++ r, false, ()), ()) = some (e, (r, false, ()), ()) := by
  obtain ⟨i, t, s, ⟨⟩⟩ := e
  have hs' : s.length ≤ 50000 := hs
  obtain ⟨b1, b2, b3⟩ := three_back i t s r hi ht 50000 (by omega) (by omega)
  have hl := threeB_len i t s
  have l1 := numI_len (threeB i t s ++ r, false, ()) 8
  have l2 := numI_len (numI (threeB i t s ++ r, false, ()) 8).2 8
  simp only [List.length_append] at l1
  unfold F27
  simp only [inNum_eq, Option.bind_some, inBytes_eq _ 50000 (by omega) (show (numI (numI (threeB i t s ++ r, false, ()) 8).2 8).2.1.length ≤ 9223372036854775807 by omega), bad_eq, snap_same, b1, b2, b3, cond_false, h, Bool.not_true]
theorem hard_back (e : Int × Int × Unit) (r : List UInt8) (hi : In64 e.1) (ht : In64 e.2.1) (h : F14 (e, ()) = some (true, ())) : F24 ((wideB (IntKind.wrap .u64 e.1) 8 ++ (wideB (IntKind.wrap .u64 e.2.1) 8 ++ r), false, ()), ()) = some (e, (r, false, ()), ()) := by
  obtain ⟨i, t, ⟨⟩⟩ := e
  unfold F24
  simp only [inNum_eq, numI_num, Option.bind_some, bad_eq, hard_same, wrap_back hi.1 hi.2, wrap_back ht.1 ht.2, cond_false, h, Bool.not_true]
theorem law6 (x : (argTy P6).den) (hx : Fit47 (argTy P6) x) : F6 x = some (true, ()) := by
  obtain ⟨e, h, s, ⟨⟩⟩ : Ent × (Int × Int × Unit) × Ent × Unit := x
  obtain ⟨-, ⟨h1, h2, -⟩, ⟨s1, s2, -⟩, -⟩ := hx
  have hh1 : In64 h.1 := h1
  have hh2 : In64 h.2.1 := h2
  have hs1 : In64 s.1 := s1
  have hs2 : In64 s.2.1 := s2
  obtain ⟨ho, eh⟩ := hard_ex (h, ())
  obtain ⟨so, es⟩ := snap_ex (s, ())
  unfold F6
  simp only [awake_eq, Option.bind_some, Bool.not_true, cond_false]
  by_cases g1 : (13000 : Int) < Int.ofNat e.2.2.1.length
  · simp only [g1, decide_true, cond_true]
  · by_cases g2 : (45000 : Int) < Int.ofNat s.2.2.1.length
    · simp only [g1, g2, decide_true, decide_false, cond_true, cond_false]
    · have he : e.2.2.1.length ≤ 13000 := by rw [ofNat_len] at g1; omega
      have hs : s.2.2.1.length ≤ 45000 := by rw [ofNat_len] at g2; omega
      have le := bytesE_len e (decide (RightE e))
      have ls := bytesE_len s so
      have lh := bytesH_len h ho
      simp only [g1, g2, decide_false, cond_false]
      rw [put_eq [] e (by simp only [List.length_nil]; omega)]
      simp only [Option.bind_some, List.nil_append]
      rw [putHard_eq _ h (by omega) ho eh]
      simp only [Option.bind_some]
      rw [putSnap_eq _ s (by simp only [List.length_append]; omega) so es]
      simp only [Option.bind_some]
      rw [end_eq _ (by simp only [List.length_append]; omega), doc_eq e (by omega), docHard_eq h ho eh]
      simp only [Option.bind_some]
      rw [appU_eq (by omega), docSnap_eq s (by omega) so es]
      simp only [Option.bind_some]
      rw [appU_eq (by simp only [List.length_append]; omega)]
      simp only [Option.bind_some, decide_true, Bool.not_true, cond_false, refRight_eq, eh, es]
      by_cases hr : RightE e
      · simp only [hr, decide_true, Bool.not_true, cond_false]
        cases ho with
        | false => rfl
        | true =>
          cases so with
          | false => rfl
          | true =>
            simp only [Bool.not_true, cond_false]
            simp only [hr, decide_true] at le
            rw [newIn_eq _ (by simp only [List.length_append]; omega)]
            have a1 : bytesE e true ++ bytesH h true ++ bytesE s true = threeB e.1 e.2.1 e.2.2.1 ++ (wideB (IntKind.wrap .u64 h.1) 8 ++ (wideB (IntKind.wrap .u64 h.2.1) 8 ++ (threeB s.1 s.2.1 s.2.2.1 ++ []))) := by
              unfold bytesE bytesH
              simp only [cond_true, List.append_assoc, List.append_nil]
            rw [a1]
            simp only [Option.bind_some]
            have lt := threeB_len s.1 s.2.1 s.2.2.1
            rw [get_back e _ hr (by simp only [List.length_append, wideB_len, List.length_nil]; omega)]
            simp only [Option.bind_some, one_eq, decide_true, cond_true]
            rw [hard_back h _ hh1 hh2 eh]
            simp only [Option.bind_some, decide_true, Bool.and_self, cond_true]
            rw [snap_back s [] hs1 hs2 es (by omega) (by simp)]
            simp only [Option.bind_some, snapOne_eq, decide_true, cond_true, done_eq]
            rfl
      · simp only [hr, decide_false, Bool.not_false, cond_true]
end Go.Proofs.Ytlcckfcjchghbaa
