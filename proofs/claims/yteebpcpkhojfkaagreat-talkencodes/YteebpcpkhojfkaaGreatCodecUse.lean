/-
  Plain laws of what lies below, as this seat reaches them (by a program of the bench: port.py).
-/
import Derived.Test.YteebpcpkhojfkaaGreatCodec
import Derived.Test.YteebpcpkhojfkaaGreatSxR
namespace Go.Proofs.YteebpcpkhojfkaaGreat
open Go.Sx Go Classical
set_option maxRecDepth 10000
abbrev Sh {α : Type} (l : List α) : Prop := l.length ≤ 9223372036854775806
def Sm (s : In) : Prop := s.1.length ≤ 1000000000
theorem sm_of {α : Type} {e : α → List UInt8} {g : In → α × In} {p : α → Prop} (c : Codec e g p) {s : In} (h : Sm s) : Sm (g s).2 := Nat.le_trans (c.len s) h
theorem inNumG (s : In) : F50 (s, ()) = some ((numG s).1, (numG s).2, ()) := inNum_eq s
theorem inByteG (s : In) : F48 (s, ()) = some ((byteG s).1, (byteG s).2, ()) := by
  unfold F48
  have hw : F120 (s, 1, ()) = _ := inWide_eq s 1 (by omega)
  simp only [hw, Option.bind_some]
  rfl
theorem inFlagG (s : In) : F121 (s, ()) = some ((flagG s).1, (flagG s).2, ()) := by
  unfold F121 flagG
  simp only [inByteG, fail_eq, Option.bind_some]
  generalize (byteG s).1 = b
  have e1 : intOf8 (UInt8.ofNat 1) = 1 := rfl
  have hb : decide (intOf8 b = 1) = decide (b = UInt8.ofNat 1) := by
    rw [decide_eq_decide]
    constructor
    · intro h
      unfold intOf8 at h
      have h2 : b.toNat = 1 := by omega
      exact UInt8.toNat_inj.1 (by rw [h2]; rfl)
    · intro h; rw [h]; rfl
  simp only [e1, hb]
  by_cases h : 1 < intOf8 b
  · have h' : decide (intOf8 b > 1) = true := decide_eq_true h
    have h2 : ¬ b = UInt8.ofNat 1 := by intro e; rw [e] at h; exact absurd h (by decide)
    rw [h']
    simp only [cond_true, decide_eq_false h2]
    rfl
  · have h' : decide (intOf8 b > 1) = false := decide_eq_false h
    rw [h']
    rfl
def kindB (n : Int) : List UInt8 := byteB (Sx.byteOf (IntKind.wrap .u8 n))
def kindG (s : In) : Int × In := (wrap64 (intOf8 (byteG s).1), (byteG s).2)
def Ok8 (n : Int) : Prop := 0 ≤ n ∧ n ≤ 255
theorem kindC : Codec kindB kindG Ok8 :=
  byteC.map (fun b => wrap64 (intOf8 b)) (fun n => Sx.byteOf (IntKind.wrap .u8 n)) Ok8
    (fun b _ => by
      have hb := b.toNat_lt
      have e : wrap64 (intOf8 b) = (b.toNat : Int) := wrap64_eq (by unfold intOf8; omega) (by unfold intOf8; omega)
      rw [e]
      refine ⟨?_, by unfold Ok8; omega⟩
      rw [wrapU8]
      unfold Sx.byteOf
      have : ((b.toNat : Int) % 256).toNat = b.toNat := by omega
      rw [this]; simp)
    (fun n h => by
      refine ⟨trivial, ?_⟩
      unfold Ok8 at h
      rw [wrapU8]
      have e : intOf8 (Sx.byteOf (n % 256)) = n := by
        unfold intOf8 Sx.byteOf
        have : (UInt8.ofNat (n % 256).toNat).toNat = (n % 256).toNat := by simp; omega
        rw [this]; omega
      rw [e]; exact wrap64_eq (by omega) (by omega))
theorem guard_eq {α : Type} (z : α) (may : α → Bool) (g : In → α × In) (s : In) :
    (bif (g s).2.2.1 then some (z, badI, ()) else bif !may (g s).1 then some (z, badI, ()) else some ((g s).1, (g s).2, ()) : Option (α × In × Unit)) = some ((guardG z may g s).1, (guardG z may g s).2, ()) := by
  unfold guardG
  cases (g s).2.2.1 <;> cases may (g s).1 <;> rfl
theorem countI_le (s : In) (m : Int) (hm : 0 ≤ m) : (countI s m).1 ≤ m := by
  unfold countI
  by_cases h : (0 ≤ m ∧ (numI s 4).1 ≤ m ∧ (numI s 4).1 ≤ ((numI s 4).2.1.length : Int))
  · rw [decide_eq_true h]; exact h.2.1
  · rw [decide_eq_false h]; exact hm
theorem iter_count {T R : Type} {step : T → Option (T ⊕ R)} {mk : Nat → T} {n : Nat} {r : R} (hn : n ≤ 9223372036854775807) (h : ∀ i, i < n → step (mk i) = some (.inl (mk (i + 1)))) (hK : step (mk n) = some (.inr r)) : iter step big (mk 0) = some r := by
  have := iter_all (mk := mk) (fun _ => true) (rt := r) (rf := r) hn (fun i hi => h i hi) hK
  rw [this]
  cases (List.range n).all (fun _ => true) <;> rfl
theorem list_loop {α R : Type} {e : α → List UInt8} {g : In → α × In} {p : α → Prop} (c : Codec e g p) (s : In) (hs : Sm s) {step : List α × Int × In → Option ((List α × Int × In) ⊕ R)} {r : R}
    (h : ∀ (i : Nat) (l : List α) (t : In), (i : Int) < (countI s 60000).1 → i < 60000 → l.length = i → Sm t → step (l, (i : Int), t) = some (.inl (l ++ [(g t).1], ((i + 1 : Nat) : Int), (g t).2)))
    (hK : step ((listG g s).1, (countI s 60000).1, (listG g s).2) = some (.inr r)) : iterE (List α × Int × In) R step big ([], 0, (countI s 60000).2) = some r := by
  have hc := countI_le s 60000 (by omega)
  have hn := countI_nat s 60000
  have hs' : Sm (countI s 60000).2 := Nat.le_trans (countI_len s 60000) hs
  refine iter_count (mk := fun i => ((manyG g i (countI s 60000).2).1, (i : Int), (manyG g i (countI s 60000).2).2)) (n := (countI s 60000).1.toNat) (by omega) (fun i hi => ?_) ?_
  · have hm := manyG_len c i (countI s 60000).2
    rw [h i _ _ (by omega) (by omega) hm.1 (Nat.le_trans hm.2 hs'), manyG_succ]
  · rw [← hn]; exact hK
theorem app1 {α : Type} {l : List α} {i : Nat} (hi : i < 60000) (h : l.length = i) (v : α) : appO l [v] = some (l ++ [v]) := appO_eq (by simp [capB]; omega)
theorem appM_eq {α : Type} {l x : List α} (h : l.length + x.length ≤ 2000000000000) : appM l x = some (l ++ x) := by
  unfold appM
  have : Nat.ble (l.length + x.length) capM = true := Nat.ble_eq_true_of_le h
  rw [this]; rfl
theorem app1M {α : Type} {l : List α} {i : Nat} (hi : i < 60000) (h : l.length = i) (v : α) : appM l [v] = some (l ++ [v]) := appM_eq (by simp; omega)
theorem listG_len {α : Type} {e : α → List UInt8} {g : In → α × In} {p : α → Prop} (c : Codec e g p) (s : In) : (listG g s).1.length ≤ 60000 := by
  unfold listG
  rw [(manyG_len c _ _).1]
  have := countI_le s 60000 (by omega)
  omega
theorem num_one {β : Type} (f : β → List UInt8) (x : Int × β) : 1 ≤ (consB numB f x).length := by
  unfold consB; rw [List.length_append, numB_len]; omega
theorem text_one {β : Type} (f : β → List UInt8) (x : List UInt8 × β) : 1 ≤ (consB textB f x).length := by
  unfold consB; rw [List.length_append, textB_len]; omega
theorem kind_one {β : Type} (f : β → List UInt8) (x : Int × β) : 1 ≤ (consB kindB f x).length := by
  unfold consB kindB byteB; simp
theorem manyG_all {α : Type} {g : In → α × In} {P : α → Prop} (h : ∀ t, P (g t).1) : ∀ (n : Nat) (s : In), ∀ v ∈ (manyG g n s).1, P v
  | 0, s, v, hv => by simp [manyG] at hv
  | n + 1, s, v, hv => by
    rcases List.mem_cons.1 hv with rfl | hv
    · exact h s
    · exact manyG_all h n _ v hv
theorem manyG_many {α : Type} (g : In → α × In) : ∀ (n : Nat) (s : In), (manyG g n s).1.length = n
  | 0, s => rfl
  | n + 1, s => by simp [manyG, manyG_many g n]
abbrev Big : Nat := 140737488355000
theorem take_flat {α : Type} (e : α → List UInt8) {l : List α} {i : Nat} {v : α} (h : l[i]? = some v) : (l.take (i + 1)).flatMap e = (l.take i).flatMap e ++ e v := by
  rw [List.take_add_one, h]
  simp
theorem take_less {α : Type} (e : α → List UInt8) (l : List α) (i : Nat) : ((l.take i).flatMap e).length ≤ (l.flatMap e).length := by
  have h : (l.flatMap e) = (l.take i).flatMap e ++ (l.drop i).flatMap e := by rw [← List.flatMap_append, List.take_append_drop]
  rw [h, List.length_append]; omega
theorem put_loop {α T R : Type} (l : List α) (hl : Sh l) (e : α → List UInt8) (b : List UInt8) (mk : Nat → List UInt8 → T) (hc : b.length + (l.flatMap e).length ≤ Big) {step : T → Option (T ⊕ R)} {r : R}
    (h : ∀ (i : Nat) v (d : List UInt8), i < l.length → l[i]? = some v → d.length + (e v).length ≤ Big → step (mk i d) = some (.inl (mk (i + 1) (d ++ e v))))
    (hK : step (mk l.length (b ++ l.flatMap e)) = some (.inr r)) : iter step big (mk 0 b) = some r := by
  have := iter_count (step := step) (mk := fun i => mk i (b ++ (l.take i).flatMap e)) (n := l.length) (r := r) (by unfold Sh at hl; omega) (fun i hi => by
    obtain ⟨v, hv⟩ : ∃ v, l[i]? = some v := ⟨_, List.getElem?_eq_getElem hi⟩
    have h2 := take_flat e hv
    have h3 := take_less e l (i + 1)
    rw [h2, List.length_append] at h3
    rw [h i v _ hi hv (by rw [List.length_append]; omega), h2, List.append_assoc]) (by simp only [List.take_length]; exact hK)
  simpa using this
theorem idxN_nat {α : Type} {l : List α} {i : Nat} (h : i < l.length) : idxN l (i : Int) = some i := by
  unfold idxN
  have : (0 : Int) ≤ (i : Int) ∧ (i : Int) < (l.length : Int) := ⟨by omega, by omega⟩
  simp only [this, and_self, decide_true, cond_true, Int.toNat_natCast]
theorem flagB_len (v : Bool) : (flagB v).length = 1 := rfl
theorem kindB_len (n : Int) : (kindB n).length = 1 := rfl
theorem outNumG (b : List UInt8) (n : Int) (h : b.length + (numB n).length ≤ Big) : F28 ((b, ()), n, ()) = some ((b ++ numB n, ()), ()) := outNum_eq b n (by rw [numB_len] at h; exact h)
theorem outFlagG (b : List UInt8) (v : Bool) (h : b.length + (flagB v).length ≤ Big) : F90 ((b, ()), v, ()) = some ((b ++ flagB v, ()), ()) := outFlag_eq b v h
theorem outKindG (b : List UInt8) (n : Int) (h : b.length + (kindB n).length ≤ Big) : F25 ((b, ()), Sx.byteOf (IntKind.wrap IntKind.u8 n), ()) = some ((b ++ kindB n, ()), ()) := outByte_eq b _ h
theorem outCountG (b : List UInt8) (n : Nat) (h : b.length + (countB n).length ≤ Big) : F91 ((b, ()), Int.ofNat n, ()) = some ((b ++ countB n, ()), ()) := outCount_eq b _ h
theorem refFlagG (v : Bool) : F60 (v, ()) = some (flagB v, ()) := by
  unfold F60
  cases v <;> rfl
theorem refCountG (n : Nat) : F58 (Int.ofNat n, ()) = some (countB n, ()) := refCountB_eq _
theorem flat_congr {α : Type} {e f : α → List UInt8} : ∀ {l : List α}, (∀ x ∈ l, e x = f x) → l.flatMap e = l.flatMap f
  | [], _ => rfl
  | v :: l, h => by
    rw [List.flatMap_cons, List.flatMap_cons, h v (List.mem_cons_self ..), flat_congr fun x hx => h x (List.mem_cons_of_mem _ hx)]
theorem list_loopM {α T R : Type} {e : α → List UInt8} {g : In → α × In} {p : α → Prop} (c : Codec e g p) (m : Int) (hm : 0 ≤ m ∧ m ≤ 1000000) (s : In) (hs : Sm s) (mk : List α → Int → In → T) {step : T → Option (T ⊕ R)} {r : R}
    (h : ∀ (i : Nat) (l : List α) (t : In), (i : Int) < (countI s m).1 → l.length = i → Sm t → step (mk l (i : Int) t) = some (.inl (mk (l ++ [(g t).1]) ((i + 1 : Nat) : Int) (g t).2)))
    (hK : step (mk (listGm m g s).1 (countI s m).1 (listGm m g s).2) = some (.inr r)) : iter step big (mk [] 0 (countI s m).2) = some r := by
  have hc := countI_le s m hm.1
  have hn := countI_nat s m
  have hs' : Sm (countI s m).2 := Nat.le_trans (countI_len s m) hs
  refine iter_count (mk := fun i => mk (manyG g i (countI s m).2).1 (i : Int) (manyG g i (countI s m).2).2) (n := (countI s m).1.toNat) (by omega) (fun i hi => ?_) ?_
  · have hm := manyG_len c i (countI s m).2
    rw [h i _ _ (by omega) hm.1 (Nat.le_trans hm.2 hs'), manyG_succ]
  · rw [← hn]; exact hK
end Go.Proofs.YteebpcpkhojfkaaGreat
