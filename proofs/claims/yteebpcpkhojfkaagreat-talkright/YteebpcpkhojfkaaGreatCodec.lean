/-
  Plain laws of what lies below, as this seat reaches them (by a program of the bench: port.py).
-/
import Derived.Test.YteebpcpkhojfkaaGreatOctPlain
import Derived.Test.YteebpcpkhojfkaaGreatSxR
namespace Go.Proofs.YteebpcpkhojfkaaGreat
open Go.Sx Go Classical
set_option maxRecDepth 10000
theorem wideB_snoc (v : Nat) : ∀ k, wideB (v : Int) (k + 1) = wideB ((v / 256 : Nat) : Int) k ++ [byteAt (v : Int) 0]
  | 0 => rfl
  | k + 1 => by
    have e : byteAt (v : Int) (k + 1) = byteAt ((v / 256 : Nat) : Int) k := by
      unfold byteAt
      rw [Int.pow_succ, Int.mul_comm, ← Int.ediv_ediv_of_nonneg (by omega : (0 : Int) ≤ 256)]
      rfl
    calc wideB (v : Int) (k + 1 + 1) = byteAt (v : Int) (k + 1) :: wideB (v : Int) (k + 1) := rfl
      _ = byteAt ((v / 256 : Nat) : Int) k :: (wideB ((v / 256 : Nat) : Int) k ++ [byteAt (v : Int) 0]) := by rw [e, wideB_snoc v k]
      _ = _ := rfl
def natOf (l : List UInt8) : Nat := l.foldl (fun a b => a * 256 + b.toNat) 0
theorem natOf_snoc (l : List UInt8) (b : UInt8) : natOf (l ++ [b]) = natOf l * 256 + b.toNat := by simp [natOf]
theorem dec_natOf (l : List UInt8) (h : l.length ≤ 8) : dec l = ((natOf l : Nat) : Int) := by
  refine dec_nat l 0 ?_
  rw [Nat.zero_add, Nat.one_mul]
  exact Nat.pow_le_pow_right (n := 256) (by decide) h
theorem wide_natOf : ∀ (n : Nat) (l : List UInt8), l.length = n → wideB ((natOf l : Nat) : Int) n = l
  | 0, l, h => by rw [List.length_eq_zero_iff.1 h]; rfl
  | n + 1, l, h => by
    have hne : l ≠ [] := by intro e; rw [e] at h; simp at h
    have hl := (List.dropLast_concat_getLast hne).symm
    generalize hb : l.getLast hne = b at hl
    generalize hd : l.dropLast = d at hl
    have hlen : d.length = n := by rw [← hd]; simp; omega
    subst hl
    have hbt := b.toNat_lt
    rw [wideB_snoc, natOf_snoc]
    have e1 : (natOf d * 256 + b.toNat) / 256 = natOf d := by omega
    have e2 : byteAt ((natOf d * 256 + b.toNat : Nat) : Int) 0 = b := by
      unfold byteAt Sx.byteOf
      have : (((natOf d * 256 + b.toNat : Nat) : Int) / 256 ^ 0 % 256).toNat = b.toNat := by
        rw [Int.pow_zero, Int.ediv_one]; omega
      rw [this]; simp
    rw [e1, e2, wide_natOf n d hlen]
theorem wide_dec (l : List UInt8) (n : Nat) (hn : n ≤ 8) (h : l.length = n) : wideB (dec l) n = l := by
  rw [dec_natOf l (by omega), wide_natOf n l h]
theorem takeI_good (s : In) (n : Nat) (h1 : (takeI s n).2.2.1 = false) (h0 : s.2.1 = false) : (takeI s n).1.length = n ∧ s.1 = (takeI s n).1 ++ (takeI s n).2.1 := by
  obtain ⟨b, f, ⟨⟩⟩ := s
  have : f = false := h0
  subst this
  unfold takeI at *
  by_cases hn : n ≤ b.length
  · simp [hn]
  · simp [hn] at h1
theorem takeI_bad (s : In) (n : Nat) (h : s.2.1 = true) : (takeI s n).2.2.1 = true := by
  unfold takeI
  rw [h]
  exact h
theorem takeI_less (s : In) (n : Nat) : (takeI s n).2.1.length ≤ s.1.length := by
  unfold takeI
  cases s.2.1 with
  | true => exact Nat.le_refl _
  | false =>
    by_cases hn : n ≤ s.1.length
    · simp [hn]
    · simp [hn]
structure Codec {α : Type} (enc : α → List UInt8) (g : In → α × In) (ok : α → Prop) : Prop where
  rt : ∀ v r, ok v → g (enc v ++ r, false, ()) = (v, (r, false, ()))
  fine : ∀ s, Fine s → Fine (g s).2
  bad : ∀ s, s.2.1 = true → (g s).2.2.1 = true
  ex : ∀ s, s.2.1 = false → (g s).2.2.1 = false → ok (g s).1 ∧ s.1 = enc (g s).1 ++ (g s).2.1
  len : ∀ s, (g s).2.1.length ≤ s.1.length
def In64 (n : Int) : Prop := -9223372036854775808 ≤ n ∧ n ≤ 9223372036854775807
def numB (n : Int) : List UInt8 := wideB (IntKind.wrap .u64 n) 8
def numG (s : In) : Int × In := (wrap64 (numI s 8).1, (numI s 8).2)
theorem numI_num (n : Int) (r : List UInt8) : numI (wideB (IntKind.wrap .u64 n) 8 ++ r, false, ()) 8 = (IntKind.wrap .u64 n, (r, false, ())) := by
  have hw := wrapU64_mod n
  obtain ⟨w, hm⟩ : ∃ w : Nat, IntKind.wrap .u64 n = (w : Int) := ⟨(IntKind.wrap .u64 n).toNat, by omega⟩
  rw [hm, numI_wide w 8 (by omega), Nat.mod_eq_of_lt (by omega)]
theorem wrap_wrap {x : Int} (h1 : 0 ≤ x) (h2 : x < 18446744073709551616) : IntKind.wrap .u64 (wrap64 x) = x := by
  rw [wrapU64_mod]
  show (IntKind.wrap .i64 x) % _ = x
  simp only [IntKind.wrap, IntKind.bits, IntKind.signed]
  simp
  omega
theorem wrap64_in (x : Int) : In64 (wrap64 x) := by
  unfold In64
  show _ ≤ IntKind.wrap .i64 x ∧ IntKind.wrap .i64 x ≤ _
  simp only [IntKind.wrap, IntKind.bits, IntKind.signed]
  simp
  omega
theorem numC : Codec numB numG In64 where
  rt := fun v r h => by
    unfold numG numB
    rw [numI_num, wrap_back h.1 h.2]
  fine := fun s h => h.num 8
  bad := fun s h => takeI_bad s 8 h
  ex := fun s h0 h1 => by
    have h := takeI_good s 8 h1 h0
    refine ⟨wrap64_in _, ?_⟩
    have hb := numI_bound s 8
    unfold numG numB
    rw [wrap_wrap hb.1 hb.2]
    show s.1 = wideB (dec (takeI s 8).1) 8 ++ (takeI s 8).2.1
    rw [wide_dec _ 8 (by omega) h.1]
    exact h.2
  len := fun s => takeI_less s 8
theorem numB_len (n : Int) : (numB n).length = 8 := wideB_len _ 8
def byteB (b : UInt8) : List UInt8 := [b]
def byteG (s : In) : UInt8 × In := (Sx.byteOf (IntKind.wrap .u8 (numI s 1).1), (numI s 1).2)
theorem byteOf_dec (b : UInt8) : Sx.byteOf (IntKind.wrap .u8 (dec [b])) = b := by
  have hb := b.toNat_lt
  have : dec [b] = ((b.toNat : Nat) : Int) := by simp [dec, decStep]
  rw [this, wrapU8]
  unfold Sx.byteOf
  have e : (((b.toNat : Nat) : Int) % 256).toNat = b.toNat := by omega
  rw [e]; simp
theorem byteC : Codec byteB byteG (fun _ => True) where
  rt := fun v r _ => by
    have h : takeI ([v] ++ r, false, ()) 1 = ([v], (r, false, ())) := takeI_app [v] r
    unfold byteG byteB numI
    rw [h]
    simp only [byteOf_dec]
  fine := fun s h => h.num 1
  bad := fun s h => takeI_bad s 1 h
  ex := fun s h0 h1 => by
    have h := takeI_good s 1 h1 h0
    refine ⟨trivial, ?_⟩
    obtain ⟨b, hb⟩ := List.length_eq_one_iff.1 h.1
    have h2 := h.2
    show s.1 = [Sx.byteOf (IntKind.wrap .u8 (dec (takeI s 1).1))] ++ (takeI s 1).2.1
    rw [hb, byteOf_dec]
    rw [hb] at h2
    exact h2
  len := fun s => takeI_less s 1
theorem Codec.map {α β : Type} {e : α → List UInt8} {g : In → α × In} {p : α → Prop} (c : Codec e g p) (to : α → β) (back : β → α) (q : β → Prop) (h1 : ∀ a, p a → back (to a) = a ∧ q (to a)) (h2 : ∀ b, q b → p (back b) ∧ to (back b) = b) :
    Codec (fun b => e (back b)) (fun s => (to (g s).1, (g s).2)) q where
  rt := fun v r hv => by
    rw [c.rt (back v) r (h2 v hv).1, (h2 v hv).2]
  fine := fun s h => c.fine s h
  bad := fun s h => c.bad s h
  ex := fun s h0 h => by
    obtain ⟨h3, h4⟩ := c.ex s h0 h
    exact ⟨(h1 _ h3).2, by rw [(h1 _ h3).1]; exact h4⟩
  len := fun s => c.len s
theorem flat_len {α : Type} (e : α → List UInt8) (h : ∀ v, 1 ≤ (e v).length) : ∀ l : List α, l.length ≤ (l.flatMap e).length
  | [] => Nat.le_refl _
  | v :: l => by
    have := h v
    have := flat_len e h l
    simp only [List.flatMap_cons, List.length_cons, List.length_append]
    omega
end Go.Proofs.YteebpcpkhojfkaaGreat
