/-
  Plain laws of what lies below, as this seat reaches them (by a program of the bench: port.py).
-/
import Derived.Test.YteebpcpkhojfkaaGreatOctPlain
import Derived.Test.YteebpcpkhojfkaaGreatSxR
namespace Go.Proofs.YteebpcpkhojfkaaGreat
open Go.Sx Go Classical
set_option maxRecDepth 10000
theorem wideB_snoc (v : Nat) : ∀ k, wideB (v : Int) (k + 1) = wideB ((v / 256 : Nat) : Int) k ++ [byteAt (v : Int) 0]
  | 0 => rfl
  | k + 1 => by
    have e : byteAt (v : Int) (k + 1) = byteAt ((v / 256 : Nat) : Int) k := by
      unfold byteAt
      rw [Int.pow_succ, Int.mul_comm, ← Int.ediv_ediv_of_nonneg (by omega : (0 : Int) ≤ 256)]
      rfl
    calc wideB (v : Int) (k + 1 + 1) = byteAt (v : Int) (k + 1) :: wideB (v : Int) (k + 1) := rfl
      _ = byteAt ((v / 256 : Nat) : Int) k :: (wideB ((v / 256 : Nat) : Int) k ++ [byteAt (v : Int) 0]) := by rw [e, wideB_snoc v k]
      _ = _ := rfl
def natOf (l : List UInt8) : Nat := l.foldl (fun a b => a * 256 + b.toNat) 0
theorem natOf_snoc (l : List UInt8) (b : UInt8) : natOf (l ++ [b]) = natOf l * 256 + b.toNat := by simp [natOf]
theorem dec_natOf (l : List UInt8) (h : l.length ≤ 8) : dec l = ((natOf l : Nat) : Int) := by
  refine dec_nat l 0 ?_
  rw [Nat.zero_add, Nat.one_mul]
  exact Nat.pow_le_pow_right (n := 256) (by decide) h
theorem wide_natOf : ∀ (n : Nat) (l : List UInt8), l.length = n → wideB ((natOf l : Nat) : Int) n = l
  | 0, l, h => by rw [List.length_eq_zero_iff.1 h]; rfl
  | n + 1, l, h => by
    have hne : l ≠ [] := by intro e; rw [e] at h; simp at h
    have hl := (List.dropLast_concat_getLast hne).symm
    generalize hb : l.getLast hne = b at hl
    generalize hd : l.dropLast = d at hl
    have hlen : d.length = n := by rw [← hd]; simp; omega
    subst hl
    have hbt := b.toNat_lt
    rw [wideB_snoc, natOf_snoc]
    have e1 : (natOf d * 256 + b.toNat) / 256 = natOf d := by omega
    have e2 : byteAt ((natOf d * 256 + b.toNat : Nat) : Int) 0 = b := by
      unfold byteAt Sx.byteOf
      have : (((natOf d * 256 + b.toNat : Nat) : Int) / 256 ^ 0 % 256).toNat = b.toNat := by
        rw [Int.pow_zero, Int.ediv_one]; omega
      rw [this]; simp
    rw [e1, e2, wide_natOf n d hlen]
theorem wide_dec (l : List UInt8) (n : Nat) (hn : n ≤ 8) (h : l.length = n) : wideB (dec l) n = l := by
  rw [dec_natOf l (by omega), wide_natOf n l h]
theorem dec_lt (l : List UInt8) (n : Nat) (hn : n ≤ 8) (h : l.length = n) : dec l < 256 ^ n := by
  rw [← wide_dec l n hn h, dec_natOf l (by omega), dec_wide _ n hn]
  have : natOf l % 256 ^ n < 256 ^ n := Nat.mod_lt _ (Nat.pow_pos (by decide))
  exact_mod_cast this
theorem takeI_good (s : In) (n : Nat) (h1 : (takeI s n).2.2.1 = false) (h0 : s.2.1 = false) : (takeI s n).1.length = n ∧ s.1 = (takeI s n).1 ++ (takeI s n).2.1 := by
  obtain ⟨b, f, ⟨⟩⟩ := s
  have : f = false := h0
  subst this
  unfold takeI at *
  by_cases hn : n ≤ b.length
  · simp [hn]
  · simp [hn] at h1
theorem takeI_bad (s : In) (n : Nat) (h : s.2.1 = true) : (takeI s n).2.2.1 = true := by
  unfold takeI
  rw [h]
  exact h
theorem takeI_less (s : In) (n : Nat) : (takeI s n).2.1.length ≤ s.1.length := by
  unfold takeI
  cases s.2.1 with
  | true => exact Nat.le_refl _
  | false =>
    by_cases hn : n ≤ s.1.length
    · simp [hn]
    · simp [hn]
structure Codec {α : Type} (enc : α → List UInt8) (g : In → α × In) (ok : α → Prop) : Prop where
  rt : ∀ v r, ok v → g (enc v ++ r, false, ()) = (v, (r, false, ()))
  fine : ∀ s, Fine s → Fine (g s).2
  bad : ∀ s, s.2.1 = true → (g s).2.2.1 = true
  ex : ∀ s, s.2.1 = false → (g s).2.2.1 = false → ok (g s).1 ∧ s.1 = enc (g s).1 ++ (g s).2.1
  len : ∀ s, (g s).2.1.length ≤ s.1.length
theorem Codec.ex' {α : Type} {enc : α → List UInt8} {g : In → α × In} {ok : α → Prop} (c : Codec enc g ok) {s : In} (h : (g s).2.2.1 = false) : s.2.1 = false ∧ ok (g s).1 ∧ s.1 = enc (g s).1 ++ (g s).2.1 := by
  have h0 : s.2.1 = false := by
    cases hb : s.2.1 with
    | false => rfl
    | true => rw [c.bad s hb] at h; cases h
  exact ⟨h0, c.ex s h0 h⟩
def In64 (n : Int) : Prop := -9223372036854775808 ≤ n ∧ n ≤ 9223372036854775807
def numB (n : Int) : List UInt8 := wideB (IntKind.wrap .u64 n) 8
def numG (s : In) : Int × In := (wrap64 (numI s 8).1, (numI s 8).2)
theorem numI_num (n : Int) (r : List UInt8) : numI (wideB (IntKind.wrap .u64 n) 8 ++ r, false, ()) 8 = (IntKind.wrap .u64 n, (r, false, ())) := by
  have hw := wrapU64_mod n
  obtain ⟨w, hm⟩ : ∃ w : Nat, IntKind.wrap .u64 n = (w : Int) := ⟨(IntKind.wrap .u64 n).toNat, by omega⟩
  rw [hm, numI_wide w 8 (by omega), Nat.mod_eq_of_lt (by omega)]
theorem wrap_wrap {x : Int} (h1 : 0 ≤ x) (h2 : x < 18446744073709551616) : IntKind.wrap .u64 (wrap64 x) = x := by
  rw [wrapU64_mod]
  show (IntKind.wrap .i64 x) % _ = x
  simp only [IntKind.wrap, IntKind.bits, IntKind.signed]
  simp
  omega
theorem wrap64_in (x : Int) : In64 (wrap64 x) := by
  unfold In64
  show _ ≤ IntKind.wrap .i64 x ∧ IntKind.wrap .i64 x ≤ _
  simp only [IntKind.wrap, IntKind.bits, IntKind.signed]
  simp
  omega
theorem numC : Codec numB numG In64 where
  rt := fun v r h => by
    unfold numG numB
    rw [numI_num, wrap_back h.1 h.2]
  fine := fun s h => h.num 8
  bad := fun s h => takeI_bad s 8 h
  ex := fun s h0 h1 => by
    have h := takeI_good s 8 h1 h0
    refine ⟨wrap64_in _, ?_⟩
    have hb := numI_bound s 8
    unfold numG numB
    rw [wrap_wrap hb.1 hb.2]
    show s.1 = wideB (dec (takeI s 8).1) 8 ++ (takeI s 8).2.1
    rw [wide_dec _ 8 (by omega) h.1]
    exact h.2
  len := fun s => takeI_less s 8
theorem numB_len (n : Int) : (numB n).length = 8 := wideB_len _ 8
def byteB (b : UInt8) : List UInt8 := [b]
def byteG (s : In) : UInt8 × In := (Sx.byteOf (IntKind.wrap .u8 (numI s 1).1), (numI s 1).2)
theorem byteOf_dec (b : UInt8) : Sx.byteOf (IntKind.wrap .u8 (dec [b])) = b := by
  have hb := b.toNat_lt
  have : dec [b] = ((b.toNat : Nat) : Int) := by simp [dec, decStep]
  rw [this, wrapU8]
  unfold Sx.byteOf
  have e : (((b.toNat : Nat) : Int) % 256).toNat = b.toNat := by omega
  rw [e]; simp
theorem byteC : Codec byteB byteG (fun _ => True) where
  rt := fun v r _ => by
    have h : takeI ([v] ++ r, false, ()) 1 = ([v], (r, false, ())) := takeI_app [v] r
    unfold byteG byteB numI
    rw [h]
    simp only [byteOf_dec]
  fine := fun s h => h.num 1
  bad := fun s h => takeI_bad s 1 h
  ex := fun s h0 h1 => by
    have h := takeI_good s 1 h1 h0
    refine ⟨trivial, ?_⟩
    obtain ⟨b, hb⟩ := List.length_eq_one_iff.1 h.1
    have h2 := h.2
    show s.1 = [Sx.byteOf (IntKind.wrap .u8 (dec (takeI s 1).1))] ++ (takeI s 1).2.1
    rw [hb, byteOf_dec]
    rw [hb] at h2
    exact h2
  len := fun s => takeI_less s 1
def unitB (_ : Unit) : List UInt8 := []
def unitG (s : In) : Unit × In := ((), s)
theorem unitC : Codec unitB unitG (fun _ => True) where
  rt := fun _v _r _ => rfl
  fine := fun _s h => h
  bad := fun _s h => h
  ex := fun _s _h0 _h1 => ⟨trivial, rfl⟩
  len := fun _s => Nat.le_refl _
def consB {α β : Type} (e : α → List UInt8) (f : β → List UInt8) (x : α × β) : List UInt8 := e x.1 ++ f x.2
def consG {α β : Type} (g : In → α × In) (h : In → β × In) (s : In) : (α × β) × In := (((g s).1, (h (g s).2).1), (h (g s).2).2)
def consOk {α β : Type} (p : α → Prop) (q : β → Prop) (x : α × β) : Prop := p x.1 ∧ q x.2
theorem consC {α β : Type} {e : α → List UInt8} {f : β → List UInt8} {g : In → α × In} {h : In → β × In} {p : α → Prop} {q : β → Prop} (c : Codec e g p) (d : Codec f h q) : Codec (consB e f) (consG g h) (consOk p q) where
  rt := fun v r hv => by
    unfold consG consB
    rw [List.append_assoc, c.rt v.1 _ hv.1, d.rt v.2 _ hv.2]
  fine := fun s hs => d.fine _ (c.fine _ hs)
  bad := fun s hs => d.bad _ (c.bad _ hs)
  ex := fun s h0 h1 => by
    obtain ⟨h2, h3, h4⟩ := d.ex' h1
    obtain ⟨_, h5, h6⟩ := c.ex' h2
    refine ⟨⟨h5, h3⟩, ?_⟩
    rw [h6, h4]
    unfold consB consG
    rw [List.append_assoc]
  len := fun s => Nat.le_trans (d.len _) (c.len _)
theorem Codec.map {α β : Type} {e : α → List UInt8} {g : In → α × In} {p : α → Prop} (c : Codec e g p) (to : α → β) (back : β → α) (q : β → Prop) (h1 : ∀ a, p a → back (to a) = a ∧ q (to a)) (h2 : ∀ b, q b → p (back b) ∧ to (back b) = b) :
    Codec (fun b => e (back b)) (fun s => (to (g s).1, (g s).2)) q where
  rt := fun v r hv => by
    rw [c.rt (back v) r (h2 v hv).1, (h2 v hv).2]
  fine := fun s h => c.fine s h
  bad := fun s h => c.bad s h
  ex := fun s h0 h => by
    obtain ⟨h3, h4⟩ := c.ex s h0 h
    exact ⟨(h1 _ h3).2, by rw [(h1 _ h3).1]; exact h4⟩
  len := fun s => c.len s
def guardG {α : Type} (z : α) (may : α → Bool) (g : In → α × In) (s : In) : α × In :=
  bif (bif (g s).2.2.1 then true else !(may (g s).1)) then (z, badI) else g s
theorem guardC {α : Type} {e : α → List UInt8} {g : In → α × In} {p : α → Prop} (c : Codec e g p) (z : α) (may : α → Bool) : Codec e (guardG z may g) (fun v => p v ∧ may v = true) where
  rt := fun v r hv => by
    unfold guardG
    rw [c.rt v r hv.1]
    simp [hv.2]
  fine := fun s hs => by
    unfold guardG
    cases h : (bif (g s).2.2.1 then true else !(may (g s).1)) with
    | true => exact badI_fine
    | false => exact c.fine s hs
  bad := fun s hs => by
    unfold guardG
    rw [c.bad s hs]
    rfl
  ex := fun s h0 h1 => by
    cases h2 : (g s).2.2.1 with
    | true => unfold guardG at h1; rw [h2] at h1; cases h1
    | false =>
      cases h3 : may (g s).1 with
      | false => unfold guardG at h1; rw [h2, h3] at h1; cases h1
      | true =>
        have e : guardG z may g s = g s := by unfold guardG; rw [h2, h3]; rfl
        rw [e]
        exact ⟨⟨(c.ex s h0 h2).1, h3⟩, (c.ex s h0 h2).2⟩
  len := fun s => by
    unfold guardG
    cases h : (bif (g s).2.2.1 then true else !(may (g s).1)) with
    | true => exact Nat.zero_le _
    | false => exact c.len s
def flagB (b : Bool) : List UInt8 := [bif b then UInt8.ofNat 1 else UInt8.ofNat 0]
def flagG (s : In) : Bool × In := bif decide (intOf8 (byteG s).1 > 1) then (false, badI) else (decide ((byteG s).1 = UInt8.ofNat 1), (byteG s).2)
theorem flagC : Codec flagB flagG (fun _ => True) where
  rt := fun v r _ => by
    have h := byteC.rt (bif v then UInt8.ofNat 1 else UInt8.ofNat 0) r trivial
    unfold flagG
    show (bif decide (intOf8 (byteG (byteB _ ++ r, false, ())).1 > 1) then _ else (decide ((byteG (byteB _ ++ r, false, ())).1 = UInt8.ofNat 1), (byteG (byteB _ ++ r, false, ())).2)) = _
    rw [h]
    cases v <;> rfl
  fine := fun s h => by
    unfold flagG
    cases decide (intOf8 (byteG s).1 > 1) with
    | true => exact badI_fine
    | false => exact byteC.fine s h
  bad := fun s h => by
    unfold flagG
    cases decide (intOf8 (byteG s).1 > 1) with
    | true => rfl
    | false => exact byteC.bad s h
  ex := fun s h0 h1 => by
    unfold flagG at *
    by_cases h : intOf8 (byteG s).1 > 1
    · rw [decide_eq_true h] at h1; cases h1
    · rw [decide_eq_false h] at h1 ⊢
      refine ⟨trivial, ?_⟩
      have h2 := (byteC.ex s h0 h1).2
      have h3 : flagB (decide ((byteG s).1 = UInt8.ofNat 1)) = byteB (byteG s).1 := by
        generalize (byteG s).1 = b at h
        unfold intOf8 at h
        have hb : b.toNat = 0 ∨ b.toNat = 1 := by omega
        rcases hb with hb | hb
        · have : b = UInt8.ofNat 0 := UInt8.toNat_inj.1 (by rw [hb]; rfl)
          subst this; rfl
        · have : b = UInt8.ofNat 1 := UInt8.toNat_inj.1 (by rw [hb]; rfl)
          subst this; rfl
      simp only [cond_false]
      rw [h3]
      exact h2
  len := fun s => by
    unfold flagG
    cases decide (intOf8 (byteG s).1 > 1) with
    | true => exact Nat.zero_le _
    | false => exact byteC.len s
def countB (n : Nat) : List UInt8 := wideB (IntKind.wrap .u64 (n : Int)) 4
theorem countB_nat (n : Nat) (h : n < 18446744073709551616) : countB n = wideB (n : Int) 4 := by
  unfold countB
  rw [wrapU64 (by omega) (by omega)]
theorem countI_rt (n : Nat) (m : Int) (r : List UInt8) (h1 : (n : Int) ≤ m) (h2 : n ≤ r.length) (h3 : n < 4294967296) : countI (countB n ++ r, false, ()) m = ((n : Int), (r, false, ())) := by
  unfold countI
  rw [countB_nat n (by omega), numI_wide n 4 (by omega), Nat.mod_eq_of_lt (by omega)]
  have : (0 ≤ m ∧ (n : Int) ≤ m ∧ (n : Int) ≤ (r.length : Int)) := ⟨by omega, h1, by omega⟩
  simp only [this, and_self, decide_true, cond_true]
theorem countI_bad (s : In) (m : Int) (h : s.2.1 = true) : (countI s m).2.2.1 = true := by
  unfold countI
  cases decide (0 ≤ m ∧ (numI s 4).1 ≤ m ∧ (numI s 4).1 ≤ ((numI s 4).2.1.length : Int)) with
  | true => exact takeI_bad s 4 h
  | false => rfl
theorem countI_ex (s : In) (m : Int) (h0 : s.2.1 = false) (h1 : (countI s m).2.2.1 = false) : s.1 = countB (countI s m).1.toNat ++ (countI s m).2.1 ∧ (countI s m).1 ≤ m ∧ (countI s m).1.toNat ≤ (countI s m).2.1.length ∧ (countI s m).1.toNat < 4294967296 := by
  unfold countI at *
  by_cases h : (0 ≤ m ∧ (numI s 4).1 ≤ m ∧ (numI s 4).1 ≤ ((numI s 4).2.1.length : Int))
  · rw [decide_eq_true h] at h1 ⊢
    simp only [cond_true] at h1 ⊢
    have h2 := takeI_good s 4 h1 h0
    have hb := numI_bound s 4
    have hlt : (numI s 4).1 < 256 ^ 4 := dec_lt _ 4 (by omega) h2.1
    refine ⟨?_, h.2.1, by omega, by omega⟩
    rw [countB_nat _ (by omega), Int.toNat_of_nonneg hb.1]
    show s.1 = wideB (dec (takeI s 4).1) 4 ++ (takeI s 4).2.1
    rw [wide_dec _ 4 (by omega) h2.1]
    exact h2.2
  · rw [decide_eq_false h] at h1; cases h1
def textG (s : In) : List UInt8 × In := textI s 60000
theorem textB_count (s : List UInt8) : textB s = countB s.length ++ s := rfl
theorem textC : Codec textB textG (fun s => s.length ≤ 60000) where
  rt := fun v r h => textI_text v r (by omega) 60000 (by omega)
  fine := fun s h => h.text _
  bad := fun s h => takeI_bad _ _ (countI_bad s _ h)
  ex := fun s h0 h1 => by
    unfold textG textI at *
    have hc : (countI s 60000).2.2.1 = false := by
      cases hb : (countI s 60000).2.2.1 with
      | false => rfl
      | true => rw [takeI_bad _ _ hb] at h1; cases h1
    have h2 := takeI_good _ _ h1 hc
    have h3 := countI_ex s 60000 h0 hc
    refine ⟨by omega, ?_⟩
    rw [textB_count, h2.1, List.append_assoc, ← h2.2]
    exact h3.1
  len := fun s => Nat.le_trans (takeI_less _ _) (countI_len s _)
def manyG {α : Type} (g : In → α × In) : Nat → In → List α × In
  | 0, s => ([], s)
  | n + 1, s => ((g s).1 :: (manyG g n (g s).2).1, (manyG g n (g s).2).2)
theorem manyG_succ {α : Type} (g : In → α × In) : ∀ (n : Nat) (s : In), manyG g (n + 1) s = ((manyG g n s).1 ++ [(g (manyG g n s).2).1], (g (manyG g n s).2).2)
  | 0, s => rfl
  | n + 1, s => by
    have h := manyG_succ g n (g s).2
    rw [manyG, h]
    rfl
def listB {α : Type} (e : α → List UInt8) (l : List α) : List UInt8 := countB l.length ++ l.flatMap e
def listG {α : Type} (g : In → α × In) (s : In) : List α × In := manyG g (countI s 60000).1.toNat (countI s 60000).2
theorem manyG_len {α : Type} {e : α → List UInt8} {g : In → α × In} {p : α → Prop} (c : Codec e g p) : ∀ (n : Nat) (s : In), (manyG g n s).1.length = n ∧ (manyG g n s).2.1.length ≤ s.1.length
  | 0, s => ⟨rfl, Nat.le_refl _⟩
  | n + 1, s => by
    have h := manyG_len c n (g s).2
    exact ⟨by simp [manyG, h.1], Nat.le_trans h.2 (c.len s)⟩
theorem manyG_fine {α : Type} {e : α → List UInt8} {g : In → α × In} {p : α → Prop} (c : Codec e g p) : ∀ (n : Nat) (s : In), Fine s → Fine (manyG g n s).2
  | 0, _, h => h
  | n + 1, s, h => manyG_fine c n _ (c.fine s h)
theorem manyG_bad {α : Type} {e : α → List UInt8} {g : In → α × In} {p : α → Prop} (c : Codec e g p) : ∀ (n : Nat) (s : In), s.2.1 = true → (manyG g n s).2.2.1 = true
  | 0, _, h => h
  | n + 1, s, h => manyG_bad c n _ (c.bad s h)
theorem manyG_ex {α : Type} {e : α → List UInt8} {g : In → α × In} {p : α → Prop} (c : Codec e g p) : ∀ (n : Nat) (s : In), s.2.1 = false → (manyG g n s).2.2.1 = false → (∀ v ∈ (manyG g n s).1, p v) ∧ s.1 = (manyG g n s).1.flatMap e ++ (manyG g n s).2.1
  | 0, s, _, _ => ⟨fun v h => by simp [manyG] at h, by simp [manyG]⟩
  | n + 1, s, h0, h1 => by
    have hb : (g s).2.2.1 = false := by
      cases hb : (g s).2.2.1 with
      | false => rfl
      | true => rw [manyG, manyG_bad c n _ hb] at h1; cases h1
    obtain ⟨h2, h3⟩ := manyG_ex c n (g s).2 hb h1
    obtain ⟨h4, h5⟩ := c.ex s h0 hb
    refine ⟨fun v hv => ?_, ?_⟩
    · rcases List.mem_cons.1 hv with rfl | hv
      · exact h4
      · exact h2 v hv
    · rw [h5, h3]
      simp [manyG]
theorem manyG_rt {α : Type} {e : α → List UInt8} {g : In → α × In} {p : α → Prop} (c : Codec e g p) : ∀ (l : List α) (r : List UInt8), (∀ v ∈ l, p v) → manyG g l.length (l.flatMap e ++ r, false, ()) = (l, (r, false, ()))
  | [], r, _ => rfl
  | v :: l, r, h => by
    rw [List.flatMap_cons, List.append_assoc]
    show ((g _).1 :: (manyG g l.length (g _).2).1, (manyG g l.length (g _).2).2) = _
    rw [c.rt v _ (h v (List.mem_cons_self ..)), manyG_rt c l r (fun w hw => h w (List.mem_cons_of_mem _ hw))]
theorem flat_len {α : Type} (e : α → List UInt8) (h : ∀ v, 1 ≤ (e v).length) : ∀ l : List α, l.length ≤ (l.flatMap e).length
  | [] => Nat.le_refl _
  | v :: l => by
    have := h v
    have := flat_len e h l
    simp only [List.flatMap_cons, List.length_cons, List.length_append]
    omega
theorem listC {α : Type} {e : α → List UInt8} {g : In → α × In} {p : α → Prop} (c : Codec e g p) (he : ∀ v, 1 ≤ (e v).length) : Codec (listB e) (listG g) (fun l => l.length ≤ 60000 ∧ ∀ v ∈ l, p v) where
  rt := fun v r h => by
    unfold listG listB
    have := flat_len e he v
    rw [List.append_assoc, countI_rt v.length 60000 _ (by omega) (by rw [List.length_append]; omega) (by omega)]
    exact manyG_rt c v r h.2
  fine := fun s h => manyG_fine c _ _ (h.count _)
  bad := fun s h => manyG_bad c _ _ (countI_bad s _ h)
  ex := fun s h0 h1 => by
    unfold listG at *
    have hc : (countI s 60000).2.2.1 = false := by
      cases hb : (countI s 60000).2.2.1 with
      | false => rfl
      | true => rw [manyG_bad c _ _ hb] at h1; cases h1
    obtain ⟨h2, h3⟩ := manyG_ex c _ _ hc h1
    have h4 := countI_ex s 60000 h0 hc
    have h5 := (manyG_len c (countI s 60000).1.toNat (countI s 60000).2).1
    refine ⟨⟨by rw [h5]; omega, h2⟩, ?_⟩
    unfold listB
    rw [h5, List.append_assoc, ← h3]
    exact h4.1
  len := fun s => Nat.le_trans (manyG_len c _ _).2 (countI_len s _)
theorem flat_most {α : Type} {e : α → List UInt8} {n : Nat} : ∀ {l : List α}, (∀ v ∈ l, (e v).length ≤ n) → (l.flatMap e).length ≤ l.length * n
  | [], _ => by simp
  | v :: l, h => by
    have h1 := h v (List.mem_cons_self ..)
    have h2 := flat_most (l := l) fun w hw => h w (List.mem_cons_of_mem _ hw)
    simp only [List.flatMap_cons, List.length_cons, List.length_append, Nat.succ_mul]
    omega
theorem countB_len (n : Nat) : (countB n).length = 4 := wideB_len _ 4
def textGm (m : Int) (s : In) : List UInt8 × In := textI s m
theorem textCm (m : Int) (hm : m < 4294967296) : Codec textB (textGm m) (fun s => (s.length : Int) ≤ m) where
  rt := fun v r h => textI_text v r (by omega) m h
  fine := fun s h => h.text _
  bad := fun s h => takeI_bad _ _ (countI_bad s _ h)
  ex := fun s h0 h1 => by
    unfold textGm textI at *
    have hc : (countI s m).2.2.1 = false := by
      cases hb : (countI s m).2.2.1 with
      | false => rfl
      | true => rw [takeI_bad _ _ hb] at h1; cases h1
    have h2 := takeI_good _ _ h1 hc
    have h3 := countI_ex s m h0 hc
    have h9 := countI_nat s m
    refine ⟨by omega, ?_⟩
    rw [textB_count, h2.1, List.append_assoc, ← h2.2]
    exact h3.1
  len := fun s => Nat.le_trans (takeI_less _ _) (countI_len s _)
def listGm {α : Type} (m : Int) (g : In → α × In) (s : In) : List α × In := manyG g (countI s m).1.toNat (countI s m).2
theorem listCm {α : Type} (m : Int) (hm : m < 4294967296) {e : α → List UInt8} {g : In → α × In} {p : α → Prop} (c : Codec e g p) (he : ∀ v, 1 ≤ (e v).length) : Codec (listB e) (listGm m g) (fun l => (l.length : Int) ≤ m ∧ ∀ v ∈ l, p v) where
  rt := fun v r h => by
    unfold listGm listB
    have := flat_len e he v
    rw [List.append_assoc, countI_rt v.length m _ h.1 (by rw [List.length_append]; omega) (by omega)]
    exact manyG_rt c v r h.2
  fine := fun s h => manyG_fine c _ _ (h.count _)
  bad := fun s h => manyG_bad c _ _ (countI_bad s _ h)
  ex := fun s h0 h1 => by
    unfold listGm at *
    have hc : (countI s m).2.2.1 = false := by
      cases hb : (countI s m).2.2.1 with
      | false => rfl
      | true => rw [manyG_bad c _ _ hb] at h1; cases h1
    obtain ⟨h2, h3⟩ := manyG_ex c _ _ hc h1
    have h4 := countI_ex s m h0 hc
    have h5 := (manyG_len c (countI s m).1.toNat (countI s m).2).1
    have h9 := countI_nat s m
    refine ⟨⟨by rw [h5]; omega, h2⟩, ?_⟩
    unfold listB
    rw [h5, List.append_assoc, ← h3]
    exact h4.1
  len := fun s => Nat.le_trans (manyG_len c _ _).2 (countI_len s _)
end Go.Proofs.YteebpcpkhojfkaaGreat
