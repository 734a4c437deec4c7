/-
  index: what an index is to the document; a key put, a version added.
-/
import Derived.Test.YtphdilmnielgeaaIndexLawB
namespace Go.Proofs.Ytphdilmnielgeaa
open Go.Sx Go Classical
set_option maxRecDepth 10000
def IdxL (l : List KX) (n : Nat) : Prop := Sorted strlt l ∧ l.length ≤ n ∧ ∀ e ∈ l, IsKey e.1 ∧ IsHist e.2.1 ∧ e.2.1 ≠ [] ∧ e.2.1.length ≤ n
def Idx (m : TX) (n : Nat) : Prop := Avl m ∧ IdxL (toL m) n
theorem Idx.map {m : TX} {n : Nat} (h : Idx m n) : MapI strlt m n := ⟨h.1, h.2.1, h.2.2.1⟩
theorem idx_leaf (n : Nat) : Idx (.leaf : TX) n := ⟨trivial, List.Pairwise.nil, Nat.zero_le _, fun e he => absurd he (by simp [toL])⟩
theorem IdxL.mono {l : List KX} {n k : Nat} (h : IdxL l n) (hn : n ≤ k) : IdxL l k := ⟨h.1, by have := h.2.1; omega, fun e he => by
  obtain ⟨h1, h2, h3, h4⟩ := h.2.2 e he
  exact ⟨h1, h2, h3, by omega⟩⟩
def histOf (l : List KX) (k : List UInt8) : List VerD := (getL strlt k l).getD []
theorem hist_of {l : List KX} {n : Nat} (h : IdxL l n) (k : List UInt8) : IsHist (histOf l k) ∧ (histOf l k).length ≤ n := by
  unfold histOf
  cases hg : getL strlt k l with
  | none => exact ⟨isHist_nil, Nat.zero_le _⟩
  | some v =>
    obtain ⟨-, h2, -, h4⟩ := h.2.2 _ ((getL_eq LO.str h.1).1 hg)
    exact ⟨h2, h4⟩
theorem setL_idx {l : List KX} {n : Nat} (h : IdxL l n) {k : List UInt8} {v : List VerD} (hk : IsKey k) (hh : IsHist v) (hv : v.length ≤ n + 1) : IdxL (setL k v l) (n + 1) := by
  refine ⟨setL_sorted h.1 k v, ?_, fun e he => ?_⟩
  · unfold setL
    split
    · have := delL_len (lt := strlt) (x := k) (l := l); have := h.2.1; omega
    · have := putL_len LO.str (p := (k, v, ())) (l := l); have := h.2.1; omega
  · have old : e ∈ l → IsKey e.1 ∧ IsHist e.2.1 ∧ e.2.1 ≠ [] ∧ e.2.1.length ≤ n + 1 := fun he => by
      obtain ⟨h1, h2, h3, h4⟩ := h.2.2 e he
      exact ⟨h1, h2, h3, by omega⟩
    unfold setL at he
    split at he
    · exact old (List.mem_filter.1 he).1
    · rename_i hne
      rcases (mem_putL LO.str).1 he with rfl | ⟨he, -⟩
      · exact ⟨hk, hh, hne, hv⟩
      · exact old he
theorem mget_eq (m : TX) (n : Nat) (h : MapI strlt m n) (hn : n ≤ 1000000) (k : List UInt8) : F52 ((m, ()), k, ()) = some (histOf (toL m) k, (getL strlt k (toL m)).isSome, ()) := by
  rw [tx_mget m k (by have := h.2.2; omega), getT_eq LO.str h.2.1]
  unfold histOf
  cases getL strlt k (toL m) <;> rfl
/-- what items there are at a revision -/
abbrev ItemD : Type := List UInt8 × VerD × Unit
def view (r : Int) (l : List KX) : List ItemD := l.flatMap fun e => bif (atH e.2.1 r).2.1 then [(e.1, (atH e.2.1 r).1, ())] else []
theorem atH_snoc {h : List VerD} {v : VerD} {r : Int} (hv : r < v.1) : atH (h ++ [v]) r = atH h r := by
  have e : decide (v.1 ≤ r) = false := decide_eq_false (by omega)
  unfold atH
  rw [List.filter_append, List.filter_cons_of_neg (by rw [e]; exact Bool.noConfusion), List.filter_nil, List.append_nil]
theorem view_set {l : List KX} (hs : Sorted strlt l) {k : List UInt8} {v : VerD} {r : Int} (hv : r < v.1) : view r (setL k (histOf l k ++ [v]) l) = view r l := by
  cases hg : getL strlt k l with
  | some h =>
    have hm := (getL_eq LO.str hs).1 hg
    obtain ⟨A, B, rfl⟩ := List.append_of_mem hm
    have e1 := setL_mid hs (histOf (A ++ (k, h, ()) :: B) k ++ [v])
    rw [show setL k (histOf (A ++ (k, h, ()) :: B) k ++ [v]) (A ++ (k, h, ()) :: B) = _ from e1]
    have e2 : histOf (A ++ (k, h, ()) :: B) k = h := by unfold histOf; rw [hg]; rfl
    rw [e2]
    unfold view oneX
    rw [if_neg (by simp)]
    simp only [List.flatMap_append, List.flatMap_cons, List.flatMap_nil, List.append_nil, atH_snoc hv]
  | none =>
    have e2 : histOf l k = [] := by unfold histOf; rw [hg]; rfl
    rw [e2, List.nil_append]
    have e3 := delL_none LO.str (x := k) (l := l) (by rw [hg]; rfl)
    rw [delL_split hs] at e3
    unfold setL
    rw [if_neg (by simp)]
    unfold putL view
    have e4 : atH [v] r = (noV, false, ()) := by
      have := atH_snoc (h := []) hv
      rw [List.nil_append] at this
      rw [this]; rfl
    conv => rhs; rw [← e3]
    simp only [List.flatMap_append, List.flatMap_cons, e4, cond_false, List.nil_append]
theorem changed_ok (m : TX) (n : Nat) (h : MapI strlt m n) (hn : n ≤ 1000000) {k : List UInt8} (hk : IsKey k) (v : List VerD) : ∃ m', F74 (((m, ()), ()), k, v, 0, ()) = some (((m', ()), ()), 0, ()) ∧ MapI strlt m' (n + 1) ∧ toL m' = setL k v (toL m) := by
  obtain ⟨m', e1, e2, e3⟩ := mset_ex m n h hn k v
  refine ⟨m', ?_, e2, e3⟩
  unfold F74
  simp only [key_eq, hk, decide_true, Bool.not_true, cond_false, Option.bind_some, Sum.elim_inl, e1]
theorem changed_bad (x : (TX × Unit) × Unit) (k : List UInt8) (v : List VerD) (e : Int) (he : ¬ IsKey k ∨ e = 1) : (F74 (x, k, v, e, ())) = some (((.leaf, ()), ()), 1, ()) := by
  unfold F74
  simp only [key_eq, Option.bind_some]
  by_cases hk : IsKey k
  · have he := he.resolve_left (fun h => h hk)
    subst he
    simp only [hk, decide_true, Bool.not_true, cond_false, Option.bind_some, Sum.elim_inl]
    rfl
  · simp only [hk, decide_false, Bool.not_false, cond_true, Option.bind_some, Sum.elim_inl]
    rfl
/-- a version is put behind a key's history -/
theorem behind_ex (m : TX) (n : Nat) (hI : Idx m n) (hn : n ≤ 1000) {k : List UInt8} (hk : k.length ≤ 140737488351232) (v : VerD) {hp : Option (List VerD × Int × Unit)} {rp : Option (List VerD × Bool × Unit)}
    (eh : hp = some (if IsHist (histOf (toL m) k ++ [v]) then (histOf (toL m) k ++ [v], 0, ()) else ([], 1, ()))) (er : rp = some (if IsHist (histOf (toL m) k ++ [v]) then (histOf (toL m) k ++ [v], true, ()) else ([], false, ()))) :
    let pr := Option.bind hp fun (b : List VerD × Int × Unit) => Option.bind (F74 (((m, ()), ()), k, b)) fun b => some b
    let dc := Option.bind rp fun (b : List VerD × Bool × Unit) =>
      bif !b.2.1 then some (([] : List KX), false, ())
      else Option.bind (F15 (k, ())) fun (b_1 : Bool × Unit) =>
        bif !b_1.1 then some ([], false, ())
        else Option.bind (F71 (toL m, k, b.1, ())) fun (b : List KX × Unit) => some (b.1, true, ())
    (∃ m', Idx m' (n + 1) ∧ toL m' = setL k (histOf (toL m) k ++ [v]) (toL m) ∧ pr = some (((m', ()), ()), 0, ()) ∧ dc = some (toL m', true, ())) ∨ (pr = some (((.leaf, ()), ()), 1, ()) ∧ dc = some ([], false, ())) := by
  intro pr dc
  obtain ⟨hh, hl⟩ := hist_of hI.2 k
  by_cases hx : IsHist (histOf (toL m) k ++ [v])
  · rw [if_pos hx] at eh er
    by_cases hK : IsKey k
    · obtain ⟨m', e1, e2, e3⟩ := changed_ok m n hI.map (by omega) hK (histOf (toL m) k ++ [v])
      have hi := setL_idx hI.2 hK hx (by simp; omega)
      refine .inl ⟨m', ⟨e2.1, by rw [e3]; exact hi⟩, e3, ?_, ?_⟩
      · show Option.bind hp _ = _
        rw [eh, Option.bind_some, e1]; rfl
      · show Option.bind rp _ = _
        rw [er, Option.bind_some]
        have hll := hI.2.2.1
        simp only [Bool.not_true, cond_false, refKey_eq k hk, hK, decide_true, Option.bind_some, refSet_eq _ k _ (show (toL m).length ≤ 1000000 by omega) hI.2.1, e3]
    · refine .inr ⟨?_, ?_⟩
      · show Option.bind hp _ = _
        rw [eh, Option.bind_some, changed_bad _ _ _ _ (.inl hK)]; rfl
      · show Option.bind rp _ = _
        rw [er, Option.bind_some]
        simp only [Bool.not_true, cond_false, refKey_eq k hk, hK, decide_false, Option.bind_some, Bool.not_false, cond_true]
  · rw [if_neg hx] at eh er
    refine .inr ⟨?_, ?_⟩
    · show Option.bind hp _ = _
      rw [eh, Option.bind_some, changed_bad _ _ _ _ (.inr rfl)]; rfl
    · show Option.bind rp _ = _
      rw [er, Option.bind_some]; rfl
theorem put_ex (m : TX) (n : Nat) (hI : Idx m n) (hn : n ≤ 1000) {k : List UInt8} (hk : k.length ≤ 140737488351232) (rev mod : Int) (val : List UInt8) (lease : Int) :
    (∃ m', Idx m' (n + 1) ∧ (∀ r, r < rev → view r (toL m') = view r (toL m)) ∧ F43 (((m, ()), ()), k, rev, mod, val, lease, ()) = some (((m', ()), ()), 0, ()) ∧ F46 (toL m, k, rev, mod, val, lease, ()) = some (toL m', true, ())) ∨
    (F43 (((m, ()), ()), k, rev, mod, val, lease, ()) = some (((.leaf, ()), ()), 1, ()) ∧ F46 (toL m, k, rev, mod, val, lease, ()) = some ([], false, ())) := by
  obtain ⟨hh, hl⟩ := hist_of hI.2 k
  have hsm : Smal (histOf (toL m) k) := by unfold Smal; omega
  have hll := hI.2.2.1
  have key := behind_ex m n hI hn hk (putV (histOf (toL m) k) rev mod val lease) (hPut_eq hh hsm rev mod val lease) (rPut_eq hh hsm rev mod val lease)
  have ep : ∀ {R}, Option.bind (F73 (histOf (toL m) k, rev, mod, val, lease, ())) (fun (b : List VerD × Int × Unit) => Option.bind (F74 (((m, ()), ()), k, b)) fun b => some b) = R → F43 (((m, ()), ()), k, rev, mod, val, lease, ()) = R := fun h => by
    unfold F43
    exact bind_of (mget_eq m n hI.map (by omega) k) h
  have ed : ∀ {R}, Option.bind (F75 (histOf (toL m) k, rev, mod, val, lease, ())) (fun (b : List VerD × Bool × Unit) =>
      bif !b.2.1 then some (([] : List KX), false, ())
      else Option.bind (F15 (k, ())) fun (b_1 : Bool × Unit) =>
        bif !b_1.1 then some ([], false, ())
        else Option.bind (F71 (toL m, k, b.1, ())) fun (b : List KX × Unit) => some (b.1, true, ())) = R → F46 (toL m, k, rev, mod, val, lease, ()) = R := fun h => by
    unfold F46
    exact bind_of (refGet_eq (toL m) k (by omega)) h
  have hrev : (putV (histOf (toL m) k) rev mod val lease).1 = rev := by
    unfold putV
    split
    · split <;> rfl
    · rfl
  rcases key with ⟨m', h1, h2, h3, h4⟩ | ⟨h3, h4⟩
  · exact .inl ⟨m', h1, fun r hr => by rw [h2]; exact view_set hI.2.1 (by rw [hrev]; exact hr), ep h3, ed h4⟩
  · exact .inr ⟨ep h3, ed h4⟩
theorem add_ex (m : TX) (n : Nat) (hI : Idx m n) (hn : n ≤ 1000) {k : List UInt8} (hk : k.length ≤ 140737488351232) (v : VerD) :
    (∃ m', Idx m' (n + 1) ∧ F49 (((m, ()), ()), k, v, ()) = some (((m', ()), ()), 0, ()) ∧ F50 (toL m, k, v, ()) = some (toL m', true, ())) ∨
    (F49 (((m, ()), ()), k, v, ()) = some (((.leaf, ()), ()), 1, ()) ∧ F50 (toL m, k, v, ()) = some ([], false, ())) := by
  obtain ⟨hh, hl⟩ := hist_of hI.2 k
  have hsm : Smal (histOf (toL m) k) := by unfold Smal; omega
  have hll := hI.2.2.1
  have key := behind_ex m n hI hn hk v (hAdd_eq _ v hsm) (rAdd_eq _ v hsm)
  have ep : ∀ {R}, Option.bind (F79 (histOf (toL m) k, v, ())) (fun (b : List VerD × Int × Unit) => Option.bind (F74 (((m, ()), ()), k, b)) fun b => some b) = R → F49 (((m, ()), ()), k, v, ()) = R := fun h => by
    unfold F49
    exact bind_of (mget_eq m n hI.map (by omega) k) h
  have ed : ∀ {R}, Option.bind (F80 (histOf (toL m) k, v, ())) (fun (b : List VerD × Bool × Unit) =>
      bif !b.2.1 then some (([] : List KX), false, ())
      else Option.bind (F15 (k, ())) fun (b_1 : Bool × Unit) =>
        bif !b_1.1 then some ([], false, ())
        else Option.bind (F71 (toL m, k, b.1, ())) fun (b : List KX × Unit) => some (b.1, true, ())) = R → F50 (toL m, k, v, ()) = R := fun h => by
    unfold F50
    exact bind_of (refGet_eq (toL m) k (by omega)) h
  rcases key with ⟨m', h1, h2, h3, h4⟩ | ⟨h3, h4⟩
  · exact .inl ⟨m', h1, ep h3, ed h4⟩
  · exact .inr ⟨ep h3, ed h4⟩
end Go.Proofs.Ytphdilmnielgeaa
