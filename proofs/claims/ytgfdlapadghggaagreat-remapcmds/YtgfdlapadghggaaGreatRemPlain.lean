/-
  Plain laws of what lies below, as this seat reaches them (by a program of the bench: port.py).
-/
import Derived.Test.YtgfdlapadghggaaGreatCmdLawN
import Derived.Test.YtgfdlapadghggaaGreatSxR
namespace Go.Proofs.YtgfdlapadghggaaGreat
open Go.Sx Go Classical
set_option maxRecDepth 10000
theorem f_remap_number (n : Int) : F44 (n, ()) = some (decide (1 ≤ n ∧ n ≤ 1099511627776), ()) := by
  unfold F44
  by_cases h : 1 ≤ n <;> simp [h]
def Num (n : Int) : Prop := 1 ≤ n ∧ n ≤ 1099511627776
theorem f_remap_Count_Right (a b : Int) : F43 ((a, b, ()), ()) = some (decide (Num a ∧ Num b), ()) := by
  unfold F43 Num
  simp only [f_remap_number, Option.bind_some]
  by_cases h : 1 ≤ a ∧ a ≤ 1099511627776 <;> simp [h]
noncomputable def goes (a b n : Int) : Int × Bool × Unit := if (Num a ∧ Num b) ∧ b ≤ n ∧ n ≤ 1099511627776 ∧ n - b + a ≤ 1099511627776 then (n - b + a, true, ()) else (0, false, ())
theorem f_remap_Count_Client (a b n : Int) : F14 ((a, b, ()), n, ()) = some (goes a b n) := by
  unfold F14 goes
  simp only [f_remap_Count_Right, Option.bind_some]
  by_cases h : Num a ∧ Num b
  · simp only [h, decide_true, Bool.not_true, cond_false]
    obtain ⟨⟨a1, a2⟩, b1, b2⟩ := h
    by_cases h1 : n < b
    · have : ¬ b ≤ n := by omega
      simp [h1, this]
    · by_cases h2 : 1099511627776 < n
      · have : ¬ n ≤ 1099511627776 := by omega
        simp [h1, h2, this]
      · have h3 : b ≤ n := by omega
        have h4 : n ≤ 1099511627776 := by omega
        have e1 : wrap64 (n - b) = n - b := wrap64_eq (by omega) (by omega)
        have e2 : wrap64 (n - b + a) = n - b + a := wrap64_eq (by omega) (by omega)
        have h5 : 1 ≤ n - b + a := by omega
        simp only [h1, h2, decide_false, cond_false, e1, e2, f_remap_number, Option.bind_some, h3, h4, h5, true_and]
        by_cases h6 : n - b + a ≤ 1099511627776 <;> simp [h6]
  · simp [h]
theorem isKey_of {s : List UInt8} (h1 : 1 ≤ s.length) (h2 : s.length ≤ 32) (h3 : s.all (fun c => decide (33 ≤ c.toNat) && decide (c.toNat ≤ 126)) = true) : IsKey s :=
  ⟨h1, h2, fun c hc => by simpa using List.all_eq_true.1 h3 c hc⟩
def IsPrefix (s : List UInt8) : Prop := s.length ≤ 8 ∧ IsKey s
theorem prefix_eq (s : List UInt8) : F41 (s, ()) = some (decide (IsPrefix s), ()) := by
  unfold F41 IsPrefix
  by_cases h : s.length ≤ 8
  · have e : decide (Int.ofNat s.length ≤ 8) = true := decide_eq_true (by simp; omega)
    simp only [e, cond_true, key_eq, Option.bind_some, h, true_and]
  · have e : decide (Int.ofNat s.length ≤ 8) = false := decide_eq_false (by simp; omega)
    simp only [e, cond_false, h, false_and, decide_false]
theorem refPrefix_eq (s : List UInt8) (hs : s.length ≤ 140737488351232) : F35 (s, ()) = some (decide (IsPrefix s), ()) := by
  unfold F35 IsPrefix
  by_cases h : s.length ≤ 8
  · have e : decide (Int.ofNat s.length ≤ 8) = true := decide_eq_true (by simp; omega)
    simp only [e, cond_true, refKey_eq s hs, Option.bind_some, h, true_and]
  · have e : decide (Int.ofNat s.length ≤ 8) = false := decide_eq_false (by simp; omega)
    simp only [e, cond_false, h, false_and, decide_false]
theorem f_internal_stringslite_HasPrefix (s p : List UInt8) : F78 (s, p, ()) = some (begins s p, ()) := by
  unfold F78
  by_cases h : p.length ≤ s.length
  · have e : decide (Int.ofNat p.length ≤ Int.ofNat s.length) = true := decide_eq_true (by simpa using h)
    simp only [e, cond_true, sliceO_take h, Option.bind_some, begins]
  · have e : decide (Int.ofNat p.length ≤ Int.ofNat s.length) = false := decide_eq_false (by simpa using h)
    simp only [e, cond_false, begins_len h]
theorem f_decampref18_begins (s p : List UInt8) : F55 (s, p, ()) = some (begins s p, ()) := by
  unfold F55
  by_cases h : p.length ≤ s.length
  · have e : decide (Int.ofNat p.length ≤ Int.ofNat s.length) = true := decide_eq_true (by simpa using h)
    simp only [e, cond_true, sliceO_take h, Option.bind_some, begins]
  · have e : decide (Int.ofNat p.length ≤ Int.ofNat s.length) = false := decide_eq_false (by simpa using h)
    simp only [e, cond_false, begins_len h]
theorem f_strings_HasPrefix (s p : List UInt8) : F53 (s, p, ()) = some (begins s p, ()) := by
  unfold F53
  simp [f_internal_stringslite_HasPrefix]
def Under (p k : List UInt8) : Prop := IsPrefix p ∧ IsKey k ∧ begins k p = true
theorem f_remap_Under (p k : List UInt8) : F40 (p, k, ()) = some (decide (Under p k), ()) := by
  unfold F40 Under
  simp only [prefix_eq, key_eq, f_strings_HasPrefix, Option.bind_some]
  by_cases h1 : IsPrefix p <;> by_cases h2 : IsKey k <;> simp [h1, h2]
theorem f_decampref18_Under (p k : List UInt8) (hp : p.length ≤ 140737488351232) (hk : k.length ≤ 140737488351232) : F56 (p, k, ()) = some (decide (Under p k), ()) := by
  unfold F56 Under
  simp only [refPrefix_eq p hp, refKey_eq k hk, f_decampref18_begins, Option.bind_some]
  by_cases h1 : IsPrefix p <;> by_cases h2 : IsKey k <;> simp [h1, h2]
noncomputable def keyTo (p q k : List UInt8) : List UInt8 × Bool × Unit :=
  if Under p k ∧ IsPrefix q ∧ IsKey (q ++ k.drop p.length) then (q ++ k.drop p.length, true, ()) else ([], false, ())
theorem Under.le {p k : List UInt8} (h : Under p k) : p.length ≤ k.length := by
  obtain ⟨r, rfl⟩ := begins_iff.1 h.2.2
  simp
theorem f_remap_Key (p q k : List UInt8) : F13 (p, q, k, ()) = some (keyTo p q k) := by
  unfold F13 keyTo
  simp only [f_remap_Under, prefix_eq, Option.bind_some]
  by_cases h1 : Under p k
  · by_cases h2 : IsPrefix q
    · have hle := h1.le
      have hk := h1.2.1.len
      have hq := h2.2.len
      simp only [h1, h2, decide_true, Bool.not_true, cond_false, sliceO_drop hle, Option.bind_some, true_and]
      rw [appO_eq (by simp [capB]; omega)]
      simp only [Option.bind_some, key_eq]
      by_cases h3 : IsKey (q ++ k.drop p.length) <;> simp [h3]
    · simp [h1, h2]
  · simp [h1]
theorem f_decampref18_Key (p q k : List UInt8) (hp : p.length ≤ 140737488351232) (hq : q.length ≤ 140737488351232) (hk : k.length ≤ 140737488351232) : F21 (p, q, k, ()) = some (keyTo p q k) := by
  unfold F21 keyTo
  simp only [f_decampref18_Under p k hp hk, refPrefix_eq q hq, Option.bind_some]
  by_cases h1 : Under p k
  · by_cases h2 : IsPrefix q
    · have hle := h1.le
      have hk' := h1.2.1.len
      have hq' := h2.2.len
      simp only [h1, h2, decide_true, Bool.not_true, cond_false, sliceO_drop hle, Option.bind_some, true_and]
      rw [appO_eq (by simp [capB]; omega)]
      simp only [Option.bind_some]
      rw [refKey_eq _ (by simp; omega)]
      by_cases h3 : IsKey (q ++ k.drop p.length) <;> simp [h3]
    · simp [h1, h2]
  · simp [h1]
noncomputable def endOf (s : List UInt8) : List UInt8 :=
  if IsPrefix s then s.set (s.length - 1) (Sx.byteOf (IntKind.wrap IntKind.u8 (intOf8 (s.getD (s.length - 1) 0) + intOf8 (UInt8.ofNat 1)))) else []
theorem idxN_natR {α : Type} (l : List α) (i : Nat) (h : i < l.length) : idxN l (i : Int) = some i := by
  unfold idxN
  have : (0 : Int) ≤ (i : Int) ∧ (i : Int) < (l.length : Int) := ⟨by omega, by omega⟩
  simp [this]
theorem f_remap_End (s : List UInt8) : F15 (s, ()) = some (endOf s, ()) := by
  unfold F15 endOf
  simp only [prefix_eq, Option.bind_some]
  by_cases h : IsPrefix s
  · have h1 := h.2.1
    have h2 := h.2.len
    have e : wrap64 (Int.ofNat s.length - 1) = ((s.length - 1 : Nat) : Int) := by rw [ofNat_len, wrap64_eq (by omega) (by omega)]; omega
    have hlt : s.length - 1 < s.length := by omega
    simp only [h, decide_true, Bool.not_true, cond_false, if_true, e, idxN_natR s _ hlt, Option.bind_some, List.getElem?_eq_getElem hlt, List.getD_eq_getElem?_getD, Option.getD_some]
  · simp [h]
theorem f_decampref18_End (s : List UInt8) (hs : s.length ≤ 140737488351232) : F54 (s, ()) = some (endOf s, ()) := by
  unfold F54 endOf
  simp only [refPrefix_eq s hs, Option.bind_some]
  by_cases h : IsPrefix s
  · have h1 := h.2.1
    have h2 := h.2.len
    have e : wrap64 (Int.ofNat s.length - 1) = ((s.length - 1 : Nat) : Int) := by rw [ofNat_len, wrap64_eq (by omega) (by omega)]; omega
    have hlt : s.length - 1 < s.length := by omega
    have hsl : sliceO s 0 ((s.length - 1 : Nat) : Int) = some (s.take (s.length - 1)) := sliceO_take (by omega)
    simp only [h, decide_true, Bool.not_true, cond_false, if_true, e, hsl, idx_nat, Option.bind_some, List.getElem?_eq_getElem hlt, List.getD_eq_getElem?_getD, Option.getD_some]
    rw [appO_eq (by simp [capB]; omega)]
    simp only [Option.bind_some]
    congr 2
    rw [List.set_eq_take_append_cons_drop, if_pos hlt, show s.length - 1 + 1 = s.length from by omega, List.drop_length]
  · simp [h]
noncomputable def rangeTo (p q k e : List UInt8) : List UInt8 × List UInt8 × Bool × Unit :=
  if (keyTo p q k).2.1 = true ∧ IsRange k e then
    if e = [] then ((keyTo p q k).1, [], true, ())
    else if e = endOf p then (if IsRange (keyTo p q k).1 (endOf q) then ((keyTo p q k).1, endOf q, true, ()) else ([], [], false, ()))
    else if begins e p = true then (if IsRange (keyTo p q k).1 (q ++ e.drop p.length) then ((keyTo p q k).1, q ++ e.drop p.length, true, ()) else ([], [], false, ()))
    else ([], [], false, ())
  else ([], [], false, ())
theorem keyTo_ok {p q k : List UInt8} (h : (keyTo p q k).2.1 = true) : Under p k ∧ IsPrefix q ∧ IsKey (q ++ k.drop p.length) ∧ (keyTo p q k).1 = q ++ k.drop p.length := by
  unfold keyTo at h ⊢
  by_cases hc : Under p k ∧ IsPrefix q ∧ IsKey (q ++ k.drop p.length)
  · rw [if_pos hc]; exact ⟨hc.1, hc.2.1, hc.2.2, rfl⟩
  · rw [if_neg hc] at h; exact Bool.noConfusion h
theorem IsRange.len {a b : List UInt8} (h : IsRange a b) : b.length ≤ 32 := by
  rcases h.2 with rfl | h
  · simp
  · exact h.1.2.1
theorem f_remap_Range (p q k e : List UInt8) : F17 (p, q, k, e, ()) = some (rangeTo p q k e) := by
  unfold F17 rangeTo
  simp only [f_remap_Key, Option.bind_some, range_eq]
  cases h1 : (keyTo p q k).2.1 with
  | false => simp
  | true =>
    obtain ⟨k1, k2, k3, k4⟩ := keyTo_ok h1
    have hq := k2.2.len
    by_cases h2 : IsRange k e
    · have he := h2.len
      simp only [h2, decide_true, Bool.not_true, cond_false, and_self, if_true]
      by_cases h3 : e = []
      · simp [h3]
      · simp only [h3, decide_false, cond_false, f_remap_End, Option.bind_some, if_false]
        by_cases h4 : e = endOf p
        · simp only [h4, decide_true, Bool.not_true, cond_false, Option.bind_some, Sum.elim_inl, if_true, range_eq]
          by_cases h5 : IsRange (keyTo p q k).1 (endOf q) <;> simp [h5]
        · simp only [h4, decide_false, Bool.not_false, cond_true, f_strings_HasPrefix, Option.bind_some, if_false]
          cases h5 : begins e p with
          | false => simp
          | true =>
            have hle : p.length ≤ e.length := by obtain ⟨r, rfl⟩ := begins_iff.1 h5; simp
            simp only [Bool.not_true, cond_false, sliceO_drop hle, Option.bind_some, if_true]
            rw [appO_eq (by simp [capB]; omega)]
            simp only [Option.bind_some, Sum.elim_inl, range_eq]
            by_cases h6 : IsRange (keyTo p q k).1 (q ++ e.drop p.length) <;> simp [h6]
    · simp [h2]
theorem endOf_len {s : List UInt8} : (endOf s).length ≤ s.length := by
  unfold endOf
  split <;> simp
theorem f_decampref18_Range (p q k e : List UInt8) (hp : p.length ≤ 140737488351232) (hq0 : q.length ≤ 140737488351232) (hk : k.length ≤ 140737488351232) (he0 : e.length ≤ 140737488351232) : F20 (p, q, k, e, ()) = some (rangeTo p q k e) := by
  unfold F20 rangeTo
  simp only [f_decampref18_Key p q k hp hq0 hk, Option.bind_some, refRange_eq k e hk he0]
  cases h1 : (keyTo p q k).2.1 with
  | false => simp
  | true =>
    obtain ⟨k1, k2, k3, k4⟩ := keyTo_ok h1
    have hq := k2.2.len
    have hk1 : (keyTo p q k).1.length ≤ 140737488351232 := by rw [k4]; have := k3.len; omega
    by_cases h2 : IsRange k e
    · have he := h2.len
      simp only [h2, decide_true, Bool.not_true, cond_false, and_self, if_true]
      by_cases h3 : e = []
      · simp [h3]
      · simp only [h3, decide_false, cond_false, f_decampref18_End p hp, f_decampref18_End q hq0, Option.bind_some, if_false]
        by_cases h4 : e = endOf p
        · simp only [h4, decide_true, cond_true, Option.bind_some, Sum.elim_inl, if_true]
          rw [refRange_eq _ _ hk1 (by have := @endOf_len q; omega)]
          by_cases h5 : IsRange (keyTo p q k).1 (endOf q) <;> simp [h5]
        · simp only [h4, decide_false, cond_false, f_decampref18_begins, Option.bind_some, if_false]
          cases h5 : begins e p with
          | false => simp
          | true =>
            have hle : p.length ≤ e.length := by obtain ⟨r, rfl⟩ := begins_iff.1 h5; simp
            simp only [cond_true, sliceO_drop hle, Option.bind_some, if_true]
            rw [appO_eq (by simp [capB]; omega)]
            simp only [Option.bind_some, Sum.elim_inl]
            rw [refRange_eq _ _ hk1 (by simp; omega)]
            by_cases h6 : IsRange (keyTo p q k).1 (q ++ e.drop p.length) <;> simp [h6]
    · simp [h2]
theorem same_cond {α : Type} (c : Bool) (x : α) : (bif c then x else x) = x := by cases c <;> rfl
theorem f_decamplaw18_awake : F4 () = some (true, ()) := by
  have p1 : IsPrefix [97, 47] := ⟨by decide, isKey_of (by decide) (by decide) rfl⟩
  have p2 : IsPrefix [98, 98, 47] := ⟨by decide, isKey_of (by decide) (by decide) rfl⟩
  have k1 : IsKey [97, 47, 120] := isKey_of (by decide) (by decide) rfl
  have k2 : IsKey [98, 98, 47, 120] := isKey_of (by decide) (by decide) rfl
  have u1 : Under [97, 47] [97, 47, 120] := ⟨p1, k1, by simp [begins]⟩
  have e1 : keyTo [97, 47] [98, 98, 47] [97, 47, 120] = ([98, 98, 47, 120], true, ()) := by
    unfold keyTo
    exact if_pos ⟨u1, p2, k2⟩
  have e2 : goes 7 20 21 = (8, true, ()) := by
    unfold goes Num
    exact if_pos ⟨⟨⟨by omega, by omega⟩, by omega, by omega⟩, by omega, by omega, by omega⟩
  have e3 : endOf [97, 47] = [97, 48] := by
    unfold endOf
    rw [if_pos p1]
    rfl
  unfold F4
  simp only [f_remap_Key, f_remap_Count_Client, f_remap_End, e1, e2, e3, Option.bind_some, decide_true, cond_true]
theorem wrap_u8 {x : Int} (h1 : 0 ≤ x) (h2 : x ≤ 255) : IntKind.wrap .u8 x = x := by
  simp only [IntKind.wrap, IntKind.bits, IntKind.signed]
  simp
  omega
theorem next_lt (c : UInt8) (h : c.toNat ≤ 126) : c < Sx.byteOf (IntKind.wrap IntKind.u8 (intOf8 c + intOf8 (UInt8.ofNat 1))) := by
  have e : intOf8 c + intOf8 (UInt8.ofNat 1) = ((c.toNat + 1 : Nat) : Int) := rfl
  have e2 : IntKind.wrap IntKind.u8 ((c.toNat + 1 : Nat) : Int) = ((c.toNat + 1 : Nat) : Int) := wrap_u8 (by omega) (by omega)
  rw [e, e2, UInt8.lt_iff_toNat_lt]
  simp [Sx.byteOf]
  omega
theorem endOf_form {p : List UInt8} (h : IsPrefix p) : ∃ p0 c c', p = p0 ++ [c] ∧ endOf p = p0 ++ [c'] ∧ c < c' := by
  have hne : p ≠ [] := by
    intro e
    have := h.2.1
    rw [e] at this
    exact absurd this (by simp)
  have hp := List.dropLast_concat_getLast hne
  refine ⟨p.dropLast, p.getLast hne, _, hp.symm, ?_, next_lt (p.getLast hne) (h.2.2.2 _ (List.getLast_mem hne)).2⟩
  unfold endOf
  rw [if_pos h]
  generalize hq : p.dropLast = q at hp
  generalize hc : p.getLast hne = c at hp
  subst hp
  simp [List.getD_eq_getElem?_getD]
theorem endOf_ne {p : List UInt8} (h : IsPrefix p) : endOf p ≠ [] := by
  obtain ⟨p0, c, c', _, e, _⟩ := endOf_form h
  rw [e]; simp
theorem endOf_app {p : List UInt8} (h : IsPrefix p) (r : List UInt8) : endOf p ≠ p ++ r := by
  obtain ⟨p0, c, c', e1, e2, h3⟩ := endOf_form h
  rw [e2, e1]
  intro h
  have h := List.append_cancel_left (h.trans (List.append_assoc _ _ _))
  obtain rfl := (List.cons.inj h).1
  exact absurd h3 (by simp)
theorem lt_endOf {p : List UInt8} (h : IsPrefix p) (s : List UInt8) : strlt (p ++ s) (endOf p) = true := by
  obtain ⟨p0, c, c', e1, e2, h3⟩ := endOf_form h
  rw [e2, e1, List.append_assoc, strlt_append, List.singleton_append, strlt_cons]
  simp [h3]
theorem prefix_ne {p : List UInt8} (h : IsPrefix p) (r : List UInt8) : p ++ r ≠ [] := by
  intro e
  have := h.2.1
  rw [(List.append_eq_nil_iff.1 e).1] at this
  exact absurd this (by simp)
def Ends (p q e e' : List UInt8) : Prop := (e = [] ∧ e' = []) ∨ (e = endOf p ∧ e' = endOf q) ∨ ∃ r, e = p ++ r ∧ e' = q ++ r
def Moves (p q k e k' e' : List UInt8) : Prop := IsPrefix p ∧ IsPrefix q ∧ IsRange k e ∧ IsRange k' e' ∧ (∃ r, k = p ++ r ∧ k' = q ++ r) ∧ Ends p q e e'
theorem Moves.symm {p q k e k' e' : List UInt8} (h : Moves p q k e k' e') : Moves q p k' e' k e := by
  obtain ⟨h1, h2, h3, h4, ⟨r, h5, h6⟩, h7⟩ := h
  refine ⟨h2, h1, h4, h3, ⟨r, h6, h5⟩, ?_⟩
  rcases h7 with ⟨a, b⟩ | ⟨a, b⟩ | ⟨r, a, b⟩
  · exact .inl ⟨b, a⟩
  · exact .inr (.inl ⟨b, a⟩)
  · exact .inr (.inr ⟨r, b, a⟩)
theorem Moves.trans {p q s k e k' e' k'' e'' : List UInt8} (h : Moves p q k e k' e') (g : Moves q s k' e' k'' e'') : Moves p s k e k'' e'' := by
  obtain ⟨h1, h2, h3, h4, ⟨r, h5, h6⟩, h7⟩ := h
  obtain ⟨g1, g2, g3, g4, ⟨r2, g5, g6⟩, g7⟩ := g
  obtain rfl := List.append_cancel_left (h6.symm.trans g5)
  refine ⟨h1, g2, h3, g4, ⟨r, h5, g6⟩, ?_⟩
  rcases h7 with ⟨a, b⟩ | ⟨a, b⟩ | ⟨t, a, b⟩
  · rcases g7 with ⟨c, d⟩ | ⟨c, d⟩ | ⟨u, c, d⟩
    · exact .inl ⟨a, d⟩
    · exact absurd (c.symm.trans b) (endOf_ne h2)
    · exact absurd (c.symm.trans b) (prefix_ne h2 u)
  · rcases g7 with ⟨c, d⟩ | ⟨c, d⟩ | ⟨u, c, d⟩
    · exact absurd (b.symm.trans c) (endOf_ne h2)
    · exact .inr (.inl ⟨a, d⟩)
    · exact absurd (b.symm.trans c) (endOf_app h2 u)
  · rcases g7 with ⟨c, d⟩ | ⟨c, d⟩ | ⟨u, c, d⟩
    · exact absurd (b.symm.trans c) (prefix_ne h2 t)
    · exact absurd (c.symm.trans b) (endOf_app h2 t)
    · obtain rfl := List.append_cancel_left (b.symm.trans c)
      exact .inr (.inr ⟨t, a, d⟩)
theorem begins_app (p r : List UInt8) : begins (p ++ r) p = true := begins_iff.2 ⟨r, rfl⟩
theorem rangeTo_of {p q k e k' e' : List UInt8} (h : Moves p q k e k' e') : rangeTo p q k e = (k', e', true, ()) := by
  obtain ⟨h1, h2, h3, h4, ⟨r, rfl, rfl⟩, h7⟩ := h
  have hk : keyTo p q (p ++ r) = (q ++ r, true, ()) := by
    unfold keyTo
    have : (p ++ r).drop p.length = r := by simp
    rw [this]
    exact if_pos ⟨⟨h1, h3.1, begins_app p r⟩, h2, h4.1⟩
  unfold rangeTo
  rw [hk, if_pos ⟨rfl, h3⟩]
  rcases h7 with ⟨rfl, rfl⟩ | ⟨rfl, rfl⟩ | ⟨t, rfl, rfl⟩
  · rw [if_pos rfl]
  · rw [if_neg (endOf_ne h1), if_pos rfl, if_pos h4]
  · rw [if_neg (prefix_ne h1 t), if_neg (fun h => endOf_app h1 t h.symm), if_pos (begins_app p t)]
    have : (p ++ t).drop p.length = t := by simp
    rw [this, if_pos h4]
theorem rangeTo_cases (p q k e : List UInt8) : rangeTo p q k e = ([], [], false, ()) ∨ ∃ k' e', Moves p q k e k' e' ∧ rangeTo p q k e = (k', e', true, ()) := by
  by_cases h1 : (keyTo p q k).2.1 = true ∧ IsRange k e
  · obtain ⟨⟨k1, k2, k3⟩, k4, k5, k6⟩ := keyTo_ok h1.1
    obtain ⟨r, rfl⟩ := begins_iff.1 k3
    have hd : (p ++ r).drop p.length = r := by simp
    rw [hd] at k5 k6
    by_cases h2 : e = []
    · subst h2
      exact .inr ⟨_, _, ⟨k1, k4, h1.2, ⟨k5, .inl rfl⟩, ⟨r, rfl, rfl⟩, .inl ⟨rfl, rfl⟩⟩, rangeTo_of ⟨k1, k4, h1.2, ⟨k5, .inl rfl⟩, ⟨r, rfl, rfl⟩, .inl ⟨rfl, rfl⟩⟩⟩
    · by_cases h3 : e = endOf p
      · by_cases h4 : IsRange (q ++ r) (endOf q)
        · have hM : Moves p q (p ++ r) e (q ++ r) (endOf q) := ⟨k1, k4, h1.2, h4, ⟨r, rfl, rfl⟩, .inr (.inl ⟨h3, rfl⟩)⟩
          exact .inr ⟨_, _, hM, rangeTo_of hM⟩
        · left
          unfold rangeTo
          rw [if_pos h1, if_neg h2, if_pos h3, k6, if_neg h4]
      · cases h4 : begins e p with
        | true =>
          obtain ⟨t, rfl⟩ := begins_iff.1 h4
          by_cases h5 : IsRange (q ++ r) (q ++ t)
          · have hM : Moves p q (p ++ r) (p ++ t) (q ++ r) (q ++ t) := ⟨k1, k4, h1.2, h5, ⟨r, rfl, rfl⟩, .inr (.inr ⟨t, rfl, rfl⟩)⟩
            exact .inr ⟨_, _, hM, rangeTo_of hM⟩
          · left
            unfold rangeTo
            have hd2 : (p ++ t).drop p.length = t := by simp
            rw [if_pos h1, if_neg h2, if_neg h3, if_pos h4, hd2, k6, if_neg h5]
        | false =>
          left
          unfold rangeTo
          rw [if_pos h1, if_neg h2, if_neg h3, if_neg (by rw [h4]; exact Bool.noConfusion)]
  · left
    unfold rangeTo
    rw [if_neg h1]
end Go.Proofs.YtgfdlapadghggaaGreat
