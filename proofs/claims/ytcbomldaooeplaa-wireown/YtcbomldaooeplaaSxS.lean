/-
  Sx: a symbolic executor for the model, proved sound, part 4 of 4: an AI agent's own work.
-/
import Derived.Test.YtcbomldaooeplaaSxR
import Derived.ProofKit
import Derived.JoinedCond
import Derived.SizedLaws
namespace Go.Sx
open Go.ChangeShapes Go.WideShapes Go.RowKit
/-- values that may come in: within their kinds, no longer than a text or a slice can be -/
def Fit : (t : Ty) → t.den → Prop
  | .int k, x => k.min ≤ (x : Int) ∧ (x : Int) ≤ k.max
  | .u8, _ => True
  | .bool, _ => True
  | .str, x => (x : List UInt8).length ≤ Go.maxLen
  | .unit, _ => True
  | .pair a b, x => Fit a x.1 ∧ Fit b x.2
  | .slice e, l => (l : List e.den).length ≤ Go.maxLen ∧ ∀ x ∈ (l : List e.den), Fit e x
  | .tree _ _, _ => False
/-- data read as pure values -/
def DR {H : Type} : (t : Ty) → DataW H → t.den → Prop
  | .int k, d, x => d = .lit (.int k x)
  | .u8, d, x => d = .lit (.int .u8 (UInt8.toNat x : Nat))
  | .bool, d, x => d = .lit (.bool x)
  | .str, d, x => d = .lit (.string x)
  | .unit, d, _ => d = .agg []
  | .pair a b, d, x => ∃ d1 ds, d = .agg (d1 :: ds) ∧ DR a d1 x.1 ∧ DR b (.agg ds) x.2
  | .slice e, d, l => (d = .nil ∧ l = []) ∨ ∃ elems spare, d = .slice elems spare ∧ elems.length = (l : List e.den).length ∧ ∀ (i : Nat) (y : DataW H) (x : e.den), elems[i]? = some y → (l : List e.den)[i]? = some x → DR e y x
  | .tree _ _, _, _ => False
/-- no trees; slices of elements that take room -/
def plainTy : Ty → Bool
  | .pair a b => cond (plainTy a) (plainTy b) false
  | .slice e => cond (Nat.beq e.size 0) false (plainTy e)
  | .tree _ _ => false
  | _ => true
section
variable {H : Type} {enc : TypeId × Value → H} {P : Program} {tab : Tab} {w : World} {sp : Nat → Bool} {held : Bool}
theorem TyOk.cells {t : TypeId} {ty : Ty} (h : TyOk P tab t ty) : P.cellsOf t = ty.size := by
  obtain ⟨i, h1, h2, _⟩ := h.info
  simp [Program.cellsOf, h1, h2]
theorem cell_spot {w : World} {a : Addr} {v : Value} (h : w.cell? a = some v) : a.spot = none := by
  unfold World.cell? at h
  split at h
  · split at h
    · simp at h
    · rename_i hs; simpa using hs
  · simp at h
theorem cells_get {w : World} {base n : Nat} {a : Addr} {cs : List Value} (h : w.cells? base a n = some cs) : cs.length = n ∧ ∀ i, i < n → w.cell? (a.add i) = cs[i]? := by
  unfold World.cells? at h
  split at h
  · refine ⟨by simpa using mapM_some_length h, fun i hi => ?_⟩
    exact mapM_some_get h i i (by simp [hi])
  · simp at h
/-- what is read is a pure value -/
theorem trod_ok (hTab : TabOk P tab) : ∀ {ty : Ty},
    (∀ {t : TypeId} {fuel : Nat} {cs : List Value} {x : DataW H × List MemPlace}, tl tab t = some ty → plainTy ty = true → DataW.trod enc P w 0 sp held fuel t cs = some x → ∃ y : ty.den, CRep (view (cellsOf w) w) ty cs y ∧ DR ty x.1 y ∧ Fit ty y) ∧
    (∀ {fs : List Field} {off fuel : Nat} {cs : List Value} {xs : List (DataW H × List MemPlace)}, ty.agg = true → plainTy ty = true → fieldsChk tab fs ty off = true → cs.length = off + ty.size → xs.length = fs.length →
      (∀ (i : Nat) (f : Field), fs[i]? = some f → DataW.trod enc P w 0 sp held fuel f.type ((cs.drop f.offset).take (P.cellsOf f.type)) = xs[i]?) → ∃ y : ty.den, CRep (view (cellsOf w) w) ty (cs.drop off) y ∧ DR ty (.agg (xs.map (·.1))) y ∧ Fit ty y) := by
  intro ty
  have structs : ty.agg = true → (∀ {fs : List Field} {off fuel : Nat} {cs : List Value} {xs : List (DataW H × List MemPlace)}, ty.agg = true → plainTy ty = true → fieldsChk tab fs ty off = true → cs.length = off + ty.size → xs.length = fs.length →
      (∀ (i : Nat) (f : Field), fs[i]? = some f → DataW.trod enc P w 0 sp held fuel f.type ((cs.drop f.offset).take (P.cellsOf f.type)) = xs[i]?) → ∃ y : ty.den, CRep (view (cellsOf w) w) ty (cs.drop off) y ∧ DR ty (.agg (xs.map (·.1))) y ∧ Fit ty y) →
      ∀ {t : TypeId} {fuel : Nat} {cs : List Value} {x : DataW H × List MemPlace}, tl tab t = some ty → plainTy ty = true → DataW.trod enc P w 0 sp held fuel t cs = some x → ∃ y : ty.den, CRep (view (cellsOf w) w) ty cs y ∧ DR ty x.1 y ∧ Fit ty y := by
    intro ha hB t fuel cs x ht hp h
    have hT := hTab.tys ht
    obtain ⟨fs, hu, hf⟩ := hT.struct ha
    obtain ⟨xs, n, rfl, rfl, h3, h4, h5⟩ := DataW.trod_struct hu h
    obtain ⟨y, k1, k2, k3⟩ := hB (fs := fs.toList) (off := 0) (fuel := n) (cs := cs) (xs := xs) ha hp hf (by rw [h3, hT.cells, Nat.zero_add]) (by simpa using h4) (fun i f hi => h5 i f (by simpa using hi))
    exact ⟨y, by simpa using k1, k2, k3⟩
  induction ty with
  | int k =>
    refine ⟨fun ht _ h => ?_, fun h => Bool.noConfusion h⟩
    obtain ⟨n, rfl, rfl, hw⟩ := DataW.trod_int (hTab.tys ht).int h
    simp only [Lit.wf, Bool.and_eq_true, decide_eq_true_eq] at hw
    exact ⟨n, rfl, rfl, hw⟩
  | u8 =>
    refine ⟨fun ht _ h => ?_, fun h => Bool.noConfusion h⟩
    obtain ⟨n, rfl, rfl, hw⟩ := DataW.trod_int (hTab.tys ht).u8 h
    simp only [Lit.wf, Bool.and_eq_true, decide_eq_true_eq, IntKind.min, IntKind.max, IntKind.signed, IntKind.bits] at hw
    obtain ⟨m, rfl⟩ : ∃ m : Nat, n = m := ⟨n.toNat, by have := hw.1; simp at this; omega⟩
    have hm : m < 256 := by have := hw.2; simp at this; omega
    refine ⟨UInt8.ofNat m, ?_, ?_, trivial⟩
    · show [Value.int .u8 (m : Int)] = [.int .u8 ((UInt8.ofNat m).toNat : Nat)]
      rw [show (UInt8.ofNat m).toNat = m from by simp; omega]
    · show DataW.lit (.int .u8 (m : Int)) = .lit (.int .u8 ((UInt8.ofNat m).toNat : Nat))
      rw [show (UInt8.ofNat m).toNat = m from by simp; omega]
  | bool =>
    refine ⟨fun ht _ h => ?_, fun h => Bool.noConfusion h⟩
    obtain ⟨b, rfl, rfl⟩ := DataW.trod_bool (hTab.tys ht).bool h
    exact ⟨b, rfl, rfl, trivial⟩
  | str =>
    refine ⟨fun ht _ h => ?_, fun h => Bool.noConfusion h⟩
    obtain ⟨s, rfl, rfl, hs⟩ := DataW.trod_string (hTab.tys ht).str h
    exact ⟨s.data.toList, ⟨s, rfl, rfl⟩, rfl, by show s.data.toList.length ≤ _; rw [Array.length_toList]; exact hs⟩
  | unit =>
    have hB : ∀ {fs : List Field} {off fuel : Nat} {cs : List Value} {xs : List (DataW H × List MemPlace)}, Ty.unit.agg = true → plainTy .unit = true → fieldsChk tab fs .unit off = true → cs.length = off + Ty.unit.size → xs.length = fs.length →
      (∀ (i : Nat) (f : Field), fs[i]? = some f → DataW.trod enc P w 0 sp held fuel f.type ((cs.drop f.offset).take (P.cellsOf f.type)) = xs[i]?) → ∃ y : Ty.unit.den, CRep (view (cellsOf w) w) .unit (cs.drop off) y ∧ DR .unit (.agg (xs.map (·.1))) y ∧ Fit .unit y := by
      intro fs off fuel cs xs _ _ hf hl hx _
      cases fs with
      | cons f fs => exact Bool.noConfusion hf
      | nil =>
        have : xs = [] := List.eq_nil_of_length_eq_zero hx
        subst this
        exact ⟨(), List.drop_eq_nil_of_le (by simp [hl, Ty.size]), rfl, trivial⟩
    exact ⟨structs rfl hB, hB⟩
  | pair A B hA hB =>
    have hA := hA (fun ha => by
      intro hB' t fuel cs x ht hp h
      have hT := hTab.tys ht
      obtain ⟨fs, hu, hf⟩ := hT.struct ha
      obtain ⟨xs, n, rfl, rfl, h3, h4, h5⟩ := DataW.trod_struct hu h
      obtain ⟨y, k1, k2, k3⟩ := hB' (fs := fs.toList) (off := 0) (fuel := n) (cs := cs) (xs := xs) ha hp hf (by rw [h3, hT.cells, Nat.zero_add]) (by simpa using h4) (fun i f hi => h5 i f (by simpa using hi))
      exact ⟨y, by simpa using k1, k2, k3⟩)
    have hB := hB (fun ha => by
      intro hB' t fuel cs x ht hp h
      have hT := hTab.tys ht
      obtain ⟨fs, hu, hf⟩ := hT.struct ha
      obtain ⟨xs, n, rfl, rfl, h3, h4, h5⟩ := DataW.trod_struct hu h
      obtain ⟨y, k1, k2, k3⟩ := hB' (fs := fs.toList) (off := 0) (fuel := n) (cs := cs) (xs := xs) ha hp hf (by rw [h3, hT.cells, Nat.zero_add]) (by simpa using h4) (fun i f hi => h5 i f (by simpa using hi))
      exact ⟨y, by simpa using k1, k2, k3⟩)
    have hP : ∀ {fs : List Field} {off fuel : Nat} {cs : List Value} {xs : List (DataW H × List MemPlace)}, (Ty.pair A B).agg = true → plainTy (.pair A B) = true → fieldsChk tab fs (.pair A B) off = true → cs.length = off + (Ty.pair A B).size → xs.length = fs.length →
      (∀ (i : Nat) (f : Field), fs[i]? = some f → DataW.trod enc P w 0 sp held fuel f.type ((cs.drop f.offset).take (P.cellsOf f.type)) = xs[i]?) → ∃ y : (Ty.pair A B).den, CRep (view (cellsOf w) w) (.pair A B) (cs.drop off) y ∧ DR (.pair A B) (.agg (xs.map (·.1))) y ∧ Fit (.pair A B) y := by
      intro fs off fuel cs xs _ hp hf hl hx hget
      cases fs with
      | nil => exact Bool.noConfusion hf
      | cons f fs =>
        cases xs with
        | nil => simp at hx
        | cons x xs =>
          obtain ⟨fd, ft, k1, k2, k3, k4, k5, k6⟩ := fieldsChk_at (f := 0) (n := 0) hf rfl
          simp only [List.getElem?_cons_zero, Option.some.injEq] at k1
          subst k1
          simp only [fieldTy, Option.some.injEq] at k4
          subst k4
          rw [Nat.add_zero] at k2
          simp only [fieldsChk] at hf
          have hrest : fieldsChk tab fs B (off + A.size) = true := by
            obtain ⟨_, h2⟩ := cond_and hf
            obtain ⟨_, h4⟩ := cond_and h2
            have h5 : Nat.beq A.size 0 = false := by cases hz : Nat.beq A.size 0 with | false => rfl | true => rw [hz] at h4; exact Bool.noConfusion h4
            rw [h5] at h4
            have h6 : decide (f.name = "_") = false := decide_eq_false k6
            simpa only [h6, cond] using h4
          simp only [plainTy] at hp
          obtain ⟨hp1, hp2⟩ := cond_and hp
          have h0 := hget 0 f rfl
          rw [(hTab.tys k3).cells, k2] at h0
          simp only [Ty.size] at hl
          obtain ⟨y1, a1, a2, a3⟩ := hA.1 k3 hp1 h0
          have hBa : B.agg = true := by cases B <;> first | rfl | (cases fs <;> exact Bool.noConfusion hrest)
          obtain ⟨y2, b1, b2, b3⟩ := hB.2 (fs := fs) (off := off + A.size) (fuel := fuel) (cs := cs) (xs := xs) hBa hp2 hrest (by omega) (by simpa using hx) (fun i f' hi => hget (i + 1) f' (by simpa using hi))
          refine ⟨(y1, y2), ⟨_, _, ?_, a1, b1⟩, ⟨x.1, xs.map (·.1), rfl, a2, b2⟩, a3, b3⟩
          rw [← List.drop_drop, List.take_append_drop]
    exact ⟨structs rfl hP, hP⟩
  | slice e he =>
    have he := he (fun ha => by
      intro hB' t fuel cs x ht hp h
      have hT := hTab.tys ht
      obtain ⟨fs, hu, hf⟩ := hT.struct ha
      obtain ⟨xs, n, rfl, rfl, h3, h4, h5⟩ := DataW.trod_struct hu h
      obtain ⟨y, k1, k2, k3⟩ := hB' (fs := fs.toList) (off := 0) (fuel := n) (cs := cs) (xs := xs) ha hp hf (by rw [h3, hT.cells, Nat.zero_add]) (by simpa using h4) (fun i f hi => h5 i f (by simpa using hi))
      exact ⟨y, by simpa using k1, k2, k3⟩)
    refine ⟨fun {t fuel cs x} ht hp h => ?_, fun h => Bool.noConfusion h⟩
    have hT := hTab.tys ht
    obtain ⟨et, hu, het⟩ := hT.slice
    simp only [plainTy] at hp
    have hsz : e.size ≠ 0 ∧ plainTy e = true := by
      cases hz : Nat.beq e.size 0 with
      | true => rw [hz] at hp; exact Bool.noConfusion hp
      | false => rw [hz] at hp; exact ⟨fun e0 => by rw [e0] at hz; exact Bool.noConfusion hz, hp⟩
    have hc := (hTab.tys het).cells
    rcases DataW.trod_slice hu h with ⟨rfl, rfl⟩ | ⟨a, len, cap, elems, rest, n, rfl, rfl, rfl, _, h3, h4, h5, h6, _⟩
    · exact ⟨[], ⟨none, 0, 0, rfl, rfl, Nat.le_refl _, fun _ => rfl, fun i x hx => by simp at hx⟩, .inl ⟨rfl, rfl⟩, Nat.zero_le _, fun x hx => by simp at hx⟩
    · have one : ∀ i, i < len → ∃ y : e.den, (∃ cs', w.cells? 0 (a.add (i * e.size)) e.size = some cs' ∧ CRep (view (cellsOf w) w) e cs' y) ∧ (∃ z, elems[i]? = some z ∧ DR e z.1 y) ∧ Fit e y := fun i hi => by
        have h := h6 i hi
        rw [hc] at h
        rw [List.getElem?_eq_getElem (by omega)] at h
        obtain ⟨cs', q1, q2⟩ := Option.bind_eq_some_iff.1 h
        obtain ⟨y, r1, r2, r3⟩ := he.1 het hsz.2 q2
        exact ⟨y, ⟨cs', q1, r1⟩, ⟨_, List.getElem?_eq_getElem (by omega), r2⟩, r3⟩
      have all : ∃ l : List e.den, l.length = len ∧ ∀ i y, l[i]? = some y → (∃ cs', w.cells? 0 (a.add (i * e.size)) e.size = some cs' ∧ CRep (view (cellsOf w) w) e cs' y) ∧ (∃ z, elems[i]? = some z ∧ DR e z.1 y) ∧ Fit e y := by
        clear h6
        have : ∀ n, n ≤ len → ∃ l : List e.den, l.length = n ∧ ∀ i y, l[i]? = some y → (∃ cs', w.cells? 0 (a.add (i * e.size)) e.size = some cs' ∧ CRep (view (cellsOf w) w) e cs' y) ∧ (∃ z, elems[i]? = some z ∧ DR e z.1 y) ∧ Fit e y := by
          intro n
          induction n with
          | zero => intro _; exact ⟨[], rfl, fun i y h => by simp at h⟩
          | succ n ih =>
            intro hn
            obtain ⟨l, l1, l2⟩ := ih (by omega)
            obtain ⟨y, hy⟩ := one n (by omega)
            refine ⟨l ++ [y], by simp [l1], fun i z hz => ?_⟩
            by_cases hi : i < n
            · rw [List.getElem?_append_left (by omega)] at hz; exact l2 i z hz
            · have hlt := (List.getElem?_eq_some_iff.1 hz).1
              simp [l1] at hlt
              have : i = n := by omega
              subst this
              rw [List.getElem?_append_right (by omega), l1, Nat.sub_self] at hz
              simp at hz
              subst hz
              exact hy
        exact this len (Nat.le_refl _)
      obtain ⟨l, l1, l2⟩ := all
      refine ⟨l, ⟨some a, len, cap, rfl, l1.symm, h3, fun h => (by cases h), fun i x hx => ?_⟩, .inr ⟨elems.map (·.1), rest.map (·.1), rfl, by simp [h5, l1], fun i y x hy hx => ?_⟩, by show l.length ≤ _; omega, fun x hx => ?_⟩
      · obtain ⟨⟨cs', q1, q2⟩, _, _⟩ := l2 i x hx
        obtain ⟨r1, r2⟩ := cells_get q1
        have h0 := r2 0 (by omega)
        rw [List.getElem?_eq_getElem (by omega)] at h0
        have hs0 : a.spot = none := by
          obtain ⟨y0, ⟨cs0, q0, _⟩, _, _⟩ := one 0 (by have := (List.getElem?_eq_some_iff.1 hx).1; omega)
          have := (cells_get q0).2 0 (by omega)
          rw [List.getElem?_eq_getElem (by have := (cells_get q0).1; omega)] at this
          have := cell_spot this
          simpa [Addr.add] using this
        obtain ⟨ab, ao, as⟩ := a
        simp only at hs0
        subst hs0
        refine ⟨ab, ao, cs', rfl, fun j v hj => ?_, q2⟩
        have hjl := (List.getElem?_eq_some_iff.1 hj).1
        have hcj := r2 j (by omega)
        rw [addr_add, addr_add, hj] at hcj
        rw [view_some]
        exact ⟨cell_lt hcj, hcj⟩
      · obtain ⟨_, ⟨z, q1, q2⟩, _⟩ := l2 i x hx
        rw [List.getElem?_map, q1] at hy
        simp at hy
        subst hy
        exact q2
      · obtain ⟨i, hi, rfl⟩ := List.getElem_of_mem hx
        exact (l2 i _ (List.getElem?_eq_getElem hi)).2.2
  | tree k v => exact ⟨fun _ hp => Bool.noConfusion hp, fun h => Bool.noConfusion h⟩
end
section
variable {H : Type} {enc : TypeId × Value → H} {P : Program} {tab : Tab} {w : World}
theorem okWide_mk {t : TypeId} {ty : Ty} (hT : TyOk P tab t ty) (hp : plainTy ty = true) {r : Reach} {base : Nat} {v : Value} (h : Value.okWide P w r base t v) : v = mkV ty v.cells.toList := by
  cases ha : ty.agg with
  | true =>
    obtain ⟨fs, hu, _⟩ := hT.struct ha
    simp only [Value.okWide, hu] at h
    obtain ⟨cs, rfl, _⟩ := h
    simp [mkV, ha, Value.cells]
  | false =>
    have hc : ∀ {x : Value}, Cell.okWide P w r base t x → (P.underlying t = some .bool ∨ (∃ k, P.underlying t = some (.int k)) ∨ P.underlying t = some .string ∨ ∃ e, P.underlying t = some (.slice e)) → x = mkV ty x.cells.toList := by
      intro x hx hu
      rcases hu with hu | ⟨k, hu⟩ | hu | ⟨e, hu⟩ <;> cases x <;> simp [Cell.okWide, Cell.ok, hu] at hx <;> simp [mkV, ha, Value.cells]
    have hu : P.underlying t = some .bool ∨ (∃ k, P.underlying t = some (.int k)) ∨ P.underlying t = some .string ∨ ∃ e, P.underlying t = some (.slice e) := by
      cases ty with
      | int k => exact .inr (.inl ⟨k, hT.int⟩)
      | u8 => exact .inr (.inl ⟨_, hT.u8⟩)
      | bool => exact .inl hT.bool
      | str => exact .inr (.inr (.inl hT.str))
      | slice e => exact .inr (.inr (.inr ⟨_, hT.slice.choose_spec.1⟩))
      | tree k v => exact Bool.noConfusion hp
      | unit => exact Bool.noConfusion ha
      | pair a b => exact Bool.noConfusion ha
    refine hc ?_ hu
    unfold Value.okWide at h
    rcases hu with hu | ⟨k, hu⟩ | hu | ⟨e, hu⟩ <;> rw [hu] at h <;> exact h
def pures : List Ty → List PS
  | [] => []
  | t :: r => .pure t :: pures r
theorem unf_pures : ∀ {tys : List Ty} {vs : List Value}, vs.length = tys.length → unf 0 (pures tys) vs = vs
  | [], vs, h => by rw [List.eq_nil_of_length_eq_zero h]; rfl
  | t :: r, [], h => by simp at h
  | t :: r, v :: vs, h => by
    show v :: unf 0 (pures r) vs = _
    rw [unf_pures (by simpa using h)]
/-- the parameters' types, as the law needs them -/
def parsOk (P : Program) (tab : Tab) : List TypeId → List Ty → Bool
  | [], [] => true
  | t :: ts, ty :: tys => (match tl tab t with | some c => c.beq ty | none => false) && plainTy ty && P.readableRec t && Nat.blt t P.types.size && parsOk P tab ts tys
  | _, _ => false
theorem parsOk_cons {t : TypeId} {ts : List TypeId} {ty : Ty} {tys : List Ty} (h : parsOk P tab (t :: ts) (ty :: tys) = true) : tl tab t = some ty ∧ plainTy ty = true ∧ P.readableRec t = true ∧ t < P.types.size ∧ parsOk P tab ts tys = true := by
  simp only [parsOk, Bool.and_eq_true] at h
  obtain ⟨⟨⟨⟨h1, h2⟩, h3⟩, h4⟩, h5⟩ := h
  refine ⟨?_, h2, h3, Nat.le_of_ble_eq_true h4, h5⟩
  split at h1
  · rename_i c hc; rw [hc, Ty.beq_eq h1]
  · exact Bool.noConfusion h1
theorem args_ok (hTab : TabOk P tab) {base : Nat} : ∀ {ts : List TypeId} {tys : List Ty} {vs : List Value} {ds : List (DataW H)} {ps : List MemPlace} {i : Nat}, parsOk P tab ts tys = true → DataW.TrodAll enc P w 0 (fun _ => true) true ts vs ds ps →
    (∀ (j : Nat) (t : TypeId) (v : Value), ts[j]? = some t → vs[j]? = some v → Value.okWide P w .any base t v) →
    ∃ x : (argTy (pures tys)).den, ArgsX Eq (cellsOf w) (fun _ => none) w i (pures tys) vs x ∧ DR (argTy (pures tys)) (.agg ds) x ∧ Fit (argTy (pures tys)) x
  | [], [], vs, ds, ps, i, _, h, _ => by
    obtain ⟨rfl, rfl, rfl⟩ := trodAll_nil h
    exact ⟨(), rfl, rfl, trivial⟩
  | [], _ :: _, _, _, _, _, hp, _, _ => Bool.noConfusion hp
  | _ :: _, [], _, _, _, _, hp, _, _ => Bool.noConfusion hp
  | t :: ts, ty :: tys, vs, ds, ps, i, hp, h, hv => by
    obtain ⟨v, vs1, d, ds1, p, q, rfl, rfl, rfl, ⟨fuel, h1⟩, h2⟩ := trodAll_cons h
    obtain ⟨p1, p2, _, _, p5⟩ := parsOk_cons hp
    obtain ⟨y, a1, a2, a3⟩ := (trod_ok hTab).1 p1 p2 h1
    obtain ⟨x, b1, b2, b3⟩ := args_ok hTab (i := i + 1) p5 h2 fun j t' v' h3 h4 => hv (j + 1) t' v' (by simpa using h3) (by simpa using h4)
    have hm := okWide_mk (hTab.tys p1) p2 (hv 0 t v rfl rfl)
    exact ⟨(y, x), ⟨⟨_, a1, hm⟩, b1⟩, ⟨d, ds1, rfl, a2, b2⟩, a3, b3⟩
theorem stays {W W' : World} (hl : laidOutB P = true) (hb : Below W.heap.size W W') : ∀ {ts : List TypeId} {tys : List Ty} {vs : List Value} {ds : List (DataW H)} {ps : List MemPlace}, parsOk P tab ts tys = true → DataW.TrodAll enc P W 0 (fun _ => true) true ts vs ds ps → (∀ x ∈ ps, x.block < W.heap.size) →
    DataW.TrodAll enc P W' 0 (fun b => decide (b < W.heap.size)) true ts vs ds ps
  | [], [], vs, ds, ps, _, h, _ => by
    obtain ⟨rfl, rfl, rfl⟩ := trodAll_nil h
    exact trodAll_mk0
  | [], _ :: _, _, _, _, hp, _, _ => Bool.noConfusion hp
  | _ :: _, [], _, _, _, hp, _, _ => Bool.noConfusion hp
  | t :: ts, ty :: tys, vs, ds, ps, hp, h, hlt => by
    obtain ⟨v, vs1, d, ds1, p, q, rfl, rfl, rfl, h1, h2⟩ := trodAll_cons h
    obtain ⟨_, _, p3, p4, p5⟩ := parsOk_cons hp
    exact ⟨_, _, Below.trod hl p3 p4 h1 hb fun x hx => hlt x (by simp [hx]), stays hl hb p5 h2 fun x hx => hlt x (by simp [hx]), rfl⟩
/-- from a law's contract to what its row asks -/
theorem law_post {s : ChangeSpec} {f : FuncId} {fn : Func} {tys : List Ty} {tb : TypeId} {F : (argTy (pures tys)).den → Option (resTy [.pure .bool] (pures tys)).den} (hTab : TabOk P tab) (hF : FOk P f ⟨pures tys, [.pure .bool], F⟩) (hl : laidOutB P = true)
    (hpars : parsOk P tab fn.params.toList tys = true) (hres : fn.resultTypes = #[tb]) (htb : P.underlying tb = some .bool) (hvars : s.vars = []) (hspec : ∀ (H : Type) (ds : List (DataW H)), ds.length = tys.length → s.fn H ds = { results := [.lit (.bool true)], args := ds })
    {K : List (DataW H) → Prop} (hlaw : ∀ (ds : List (DataW H)) (x : (argTy (pures tys)).den), DR (argTy (pures tys)) (.agg ds) x → Fit (argTy (pures tys)) x → K ds → ∃ y, F x = some (true, y))
    {W : World} {base : Nat} {args : Array Value} {ds gs : List (DataW H)} {before : List MemPlace} (hval : ∀ (j : Nat) (t : TypeId) (v : Value), fn.params[j]? = some t → args[j]? = some v → Value.okWide P W .any base t v)
    (hW : DataW.Whole enc P fn.params.toList s.vars false W args.toList ds gs before) (hK : K (ds ++ gs)) :
    Calls P f args W fun e W' => ∃ v, e = .returned v ∧ s.post enc P fn false true false false W args v W' := by
  have hW' := hW
  obtain ⟨p, q, hA, hV, rfl, hfz, hnd⟩ := hW
  rw [hvars] at hV
  obtain ⟨rfl, rfl⟩ := trodVars_none hV
  rw [List.append_nil] at hK
  obtain ⟨x, a1, a2, a3⟩ := args_ok hTab (i := 0) (base := base) hpars hA fun j t v h1 h2 => hval j t v (by simpa using h1) (by simpa using h2)
  obtain ⟨y, hy⟩ := hlaw ds x a2 a3 hK
  have hlen : args.toList.length = tys.length := by
    have : ∀ {tys : List Ty}, (pures tys).length = tys.length := by intro tys; induction tys with | nil => rfl | cons t r ih => simp [pures, ih]
    rw [ArgsX_len a1, this]
  have hc := hF.call (w := W) (fl := cellsOf W) (own := fun _ => none) (fun b h => absurd rfl h) a1 hy
  rw [show (unf 0 (pures tys) args.toList).toArray = args from by rw [unf_pures hlen]] at hc
  refine hc.mono ?_
  rintro e W' ⟨rs, fl', own', rfl, hext, _, _, _, hr⟩
  have hb : Below W.heap.size W W' := ⟨hext.os, hext.tape, hext.output, hext.size, fun k hk => hext.block k hk fun h => h rfl⟩
  cases rs with
  | nil => exact hr.elim
  | cons v rs =>
    obtain ⟨h1, h2, _⟩ := hr
    have h2 : rs = [] := h2
    subst h2
    have hv : v = .bool true := vrep_bool h1
    subst hv
    have hlt : ∀ x ∈ p, x.block < W.heap.size := fun x hx => by simpa using hW'.lt x (by simpa using hx)
    have hds : ds.length = tys.length := by
      have : ∀ {ts : List TypeId} {tys : List Ty} {vs : List Value} {ds : List (DataW H)} {ps : List MemPlace}, parsOk P tab ts tys = true → DataW.TrodAll enc P W 0 (fun _ => true) true ts vs ds ps → ds.length = tys.length := by
        intro ts
        induction ts with
        | nil => intro tys vs ds ps hp h; cases tys with
          | nil => obtain ⟨_, rfl, _⟩ := trodAll_nil h; rfl
          | cons => exact Bool.noConfusion hp
        | cons t ts ih => intro tys vs ds ps hp h; cases tys with
          | nil => exact Bool.noConfusion hp
          | cons ty tys =>
            obtain ⟨_, _, _, _, _, _, _, rfl, _, _, h2⟩ := trodAll_cons h
            have := ih (parsOk_cons hp).2.2.2.2 h2
            simp [this]
      exact this hpars hA
    refine ⟨_, rfl, ds, [], p ++ [], [], p, [], hW', ?_, ?_, ?_, hb.frame _, fun h => by cases h⟩
    · rw [hres, List.append_nil, hspec H ds hds]
      exact ⟨[], [], shut_bool htb _, trodAll_mk0, rfl⟩
    · rw [List.append_nil, hspec H ds hds]
      exact stays hl hb hpars hA hlt
    · rw [hvars, List.append_nil, hspec H ds hds]
      exact rfl
end
end Go.Sx
namespace Go.Sx
def lookG : List (FuncId × List Sig) → FuncId → List Sig
  | [], _ => []
  | (a, s) :: r, f => cond (Nat.beq a f) s (lookG r f)
def lookN {α : Type} : List (Nat × α) → Nat → Option α
  | [], _ => none
  | (a, s) :: r, f => cond (Nat.beq a f) (some s) (lookN r f)
def SOk (P : Program) (f : FuncId) : List Sig → Prop
  | [] => True
  | s :: r => FOk P f s ∧ SOk P f r
def GOk (P : Program) : List (FuncId × List Sig) → Prop
  | [] => True
  | (f, s) :: r => SOk P f s ∧ GOk P r
theorem SOk.mem {P : Program} {f : FuncId} : ∀ {l : List Sig}, SOk P f l → ∀ sg ∈ l, FOk P f sg
  | [], _, _, h => by simp at h
  | s :: r, ⟨h1, h2⟩, sg, h => by
    rcases List.mem_cons.1 h with rfl | h
    · exact h1
    · exact SOk.mem h2 sg h
theorem GOk.look {P : Program} : ∀ {l : List (FuncId × List Sig)}, GOk P l → ∀ f sg, sg ∈ lookG l f → FOk P f sg
  | [], _, _, _, h => by simp [lookG] at h
  | (a, s) :: r, ⟨h1, h2⟩, f, sg, h => by
    simp only [lookG] at h
    cases hb : Nat.beq a f with
    | true =>
      rw [hb] at h
      obtain rfl := Nat.eq_of_beq_eq_true hb
      exact h1.mem sg h
    | false => rw [hb] at h; exact GOk.look h2 f sg h
theorem TabAll.cons {P : Program} {tab : Tab} {t : TypeId} {ty : Ty} {r : List (TypeId × Ty)} (h1 : (P.info? t).map (fun i => (i.size, i.zero, Nat.ble i.bytes (maxB ty))) = some (ty.size, some (mkV ty (zeroCells ty)), true))
    (h2 : descChk P tab t ty = true) (h3 : cond ty.agg (P.stoodInHeld t || P.eqGuardType P.depth t) false = false) (h : TabAll P tab r) : TabAll P tab ((t, ty) :: r) := ⟨h1, h2, h3, h⟩
theorem PtrAll.cons {P : Program} {t : TypeId} {r : List TypeId} (h1 : P.underlying t = some (.pointer (P.pointee t))) (h2 : (P.info? t).map (fun i => (i.size, i.zero)) = some (1, some (.pointer none))) (h : PtrAll P r) : PtrAll P (t :: r) := ⟨⟨h1, h2⟩, h⟩
/-- rounds enough for any loop that ends -/
noncomputable def big : Nat := Classical.choose (⟨18446744073709551616, rfl⟩ : ∃ n : Nat, n = 18446744073709551616)
theorem big_eq : big = 18446744073709551616 := Classical.choose_spec (⟨18446744073709551616, rfl⟩ : ∃ n : Nat, n = 18446744073709551616)
noncomputable def mkLoop (σ : Shape) : LoopH := ⟨σ, [], fun _ => big⟩

/-- a function that calls itself, so many times deep -/
def recF {X Y : Type} (s : (X → Option Y) → X → Option Y) : Nat → X → Option Y
  | 0, _ => none
  | n + 1, x => s (recF s n) x
theorem rec_ok {P : Program} {f : FuncId} {fn : Func} {ps : List PS} {rs : List RS} {s : ((argTy ps).den → Option (resTy rs ps).den) → (argTy ps).den → Option (resTy rs ps).den} (h1 : P.funcs[f]? = some fn)
    (hname : (fn.name == "runtime.NumGoroutine") = false) (hbody : fn.body.isNone = false) (hrs : Nat.ble rs.length 4 = true) (h : ∀ G, FOk P f ⟨ps, rs, G⟩ → FOk P f ⟨ps, rs, s G⟩) : ∀ n, FOk P f ⟨ps, rs, recF s n⟩
  | 0 => ⟨Nat.le_of_ble_eq_true hrs, ⟨fn, h1, hbody, hname⟩, fun _ _ hy => by cases hy⟩
  | n + 1 => h _ (rec_ok h1 hname hbody hrs h n)
abbrev wrap64 (x : Int) : Int := IntKind.wrap .i64 x
/-- a loop, its types told -/
abbrev iterE (T R : Type) (step : T → Option (T ⊕ R)) (n : Nat) (t : T) : Option R := iter step n t
noncomputable abbrev bothE (R : Type) (x y : Option R) : Option R := both x y

theorem wrap_i64 {x : Int} (h1 : -9223372036854775808 ≤ x) (h2 : x ≤ 9223372036854775807) : IntKind.wrap .i64 x = x := by
  simp only [IntKind.wrap, IntKind.bits, IntKind.signed]
  simp
  omega
theorem fieldsChk_deeps (tab : Tab) (d : List TypeId) : ∀ (fs : List Field) (ty : Ty) (off : Nat), fieldsChk { tab with deeps := d } fs ty off = fieldsChk tab fs ty off
  | [], ty, off => by cases ty <;> rfl
  | f :: fs, ty, off => by
    cases ty <;> first
      | rfl
      | (simp only [fieldsChk, fieldsChk_deeps tab d fs]; rfl)
theorem descChk_deeps (P : Program) (tab : Tab) (d : List TypeId) (t : TypeId) (ty : Ty) : descChk P { tab with deeps := d } t ty = descChk P tab t ty := by
  unfold descChk
  cases P.underlying t with
  | none => rfl
  | some u => cases u <;> cases ty <;> first | rfl | exact fieldsChk_deeps tab d _ _ _
theorem TyOk.deeps {P : Program} {tab : Tab} {t : TypeId} {ty : Ty} (d : List TypeId) (h : TyOk P tab t ty) : TyOk P { tab with deeps := d } t ty := ⟨h.info, (descChk_deeps P tab d t ty).trans h.desc, h.eqs⟩
theorem ArrAll.deeps {P : Program} {tab : Tab} (d : List TypeId) : ∀ {l : List (TypeId × TypeId × Nat)}, ArrAll P tab l → ArrAll P { tab with deeps := d } l
  | [], h => h
  | (_, _, _) :: _, ⟨h1, h2⟩ => ⟨h1, ArrAll.deeps d h2⟩
theorem TabOk.deeps {P : Program} {tab : Tab} (h : TabOk P tab) (d : List TypeId) : TabOk P { tab with deeps := d } := ⟨fun ht => (h.tys ht).deeps d, h.ptrs, h.arrs.deeps d⟩
end Go.Sx
namespace Go.Sx
theorem wrap64_eq {x : Int} (h1 : -9223372036854775808 ≤ x) (h2 : x ≤ 9223372036854775807) : wrap64 x = x := wrap_i64 h1 h2
theorem wrap64_nat {i : Nat} (h : i < 9223372036854775807) : wrap64 ((i : Int) + 1) = ((i + 1 : Nat) : Int) := by
  rw [wrap64_eq (by omega) (by omega)]; rfl
theorem lt_len {α : Type} (l : List α) (i : Nat) : decide ((i : Int) < Int.ofNat l.length) = decide (i < l.length) := by
  rw [decide_eq_decide]; exact Int.ofNat_lt
theorem appU_eq {α : Type} {l x : List α} (h : l.length + x.length ≤ 140737488355000) : appU l x = some (l ++ x) := by
  have : Nat.ble (l.length + x.length) capU = true := Nat.ble_eq_true_of_le h
  simp [appU, this]
theorem appO_eq {α : Type} {l x : List α} (h : l.length + x.length ≤ capB) : appO l x = some (l ++ x) := by
  unfold appO
  rw [Nat.ble_eq_true_of_le h]; rfl
theorem both_same {R : Type} (x : Option R) : both x x = x := by simp [both]
/-- a loop over a list that gathers something -/
theorem iter_fold {T V A R : Type} {step : T → Option (T ⊕ R)} {mk : Nat → A → T} {l : List V} {g : A → V → A} {K : A → R} (Inv : Nat → A → Prop) (hn : l.length ≤ 9223372036854775807) (h : ∀ i a v, l[i]? = some v → Inv i a → step (mk i a) = some (.inl (mk (i + 1) (g a v))) ∧ Inv (i + 1) (g a v))
    (hK : ∀ a, Inv l.length a → step (mk l.length a) = some (.inr (K a))) {a : A} (ha : Inv 0 a) : iter step big (mk 0 a) = some (K (l.foldl g a)) := by
  have main : ∀ {d i m : Nat} {a : A}, i + d = l.length → d < m → Inv i a → iter step m (mk i a) = some (K ((l.drop i).foldl g a)) := by
    intro d
    induction d with
    | zero =>
      intro i m a hi hm ha
      cases m with
      | zero => omega
      | succ m =>
        rw [Nat.add_zero] at hi
        subst hi
        simp [iter, hK a ha]
    | succ d ih =>
      intro i m a hi hm ha
      cases m with
      | zero => omega
      | succ m =>
        have hlt : i < l.length := by omega
        obtain ⟨h1, h2⟩ := h i a l[i] (List.getElem?_eq_getElem hlt) ha
        simp only [iter, h1, Option.bind_some, Sum.elim_inl]
        rw [ih (by omega) (by omega) h2, List.drop_eq_getElem_cons hlt]
        rfl
  have := main (d := l.length) (i := 0) (m := big) (a := a) (by omega) (by rw [big_eq]; omega) ha
  simpa using this
end Go.Sx
namespace Go.Sx
open Go.ChangeShapes Go.WideShapes Go.RowKit
/-- values that may come in: within their kinds, no longer than memory bears -/
def Fit47 : (t : Ty) → t.den → Prop
  | .int k, x => k.min ≤ (x : Int) ∧ (x : Int) ≤ k.max
  | .u8, _ => True
  | .bool, _ => True
  | .str, x => (x : List UInt8).length ≤ 140737488351232
  | .unit, _ => True
  | .pair a b, x => Fit47 a x.1 ∧ Fit47 b x.2
  | .slice e, l => (l : List e.den).length ≤ 140737488351232 ∧ ∀ x ∈ (l : List e.den), Fit47 e x
  | .tree _ _, _ => False
def tabPos (P : Program) : List (TypeId × Ty) → Bool
  | [] => true
  | (t, ty) :: r => cond (cond (Nat.beq ty.size 0) true (Nat.ble 1 (P.bytesOf t))) (tabPos P r) false
theorem tabPos_ok {P : Program} {t : TypeId} {ty : Ty} : ∀ {l : List (TypeId × Ty)}, tabPos P l = true → tlL l t = some ty → ty.size ≠ 0 → 1 ≤ P.bytesOf t
  | [], _, h, _ => by simp [tlL] at h
  | (a, u) :: r, h, ht, h0 => by
    simp only [tabPos] at h
    obtain ⟨h1, h2⟩ := cond_and h
    simp only [tlL] at ht
    cases hb : Nat.beq a t with
    | true =>
      rw [hb] at ht
      obtain rfl := Nat.eq_of_beq_eq_true hb
      obtain rfl := Option.some.inj ht
      cases hz : Nat.beq u.size 0 with
      | true => exact absurd (Nat.eq_of_beq_eq_true hz) h0
      | false => rw [hz] at h1; exact Nat.le_of_ble_eq_true h1
    | false => rw [hb] at ht; exact tabPos_ok h2 ht h0
theorem mul_pos_le {n b m : Nat} (hb : 1 ≤ b) (h : n * b ≤ m) : n ≤ m := Nat.le_trans (Nat.le_mul_of_pos_right n hb) h
section
variable {H : Type} {P : Program} {tab : Tab}
theorem fit47 (hTab : TabOk P tab) (hpos : tabPos P tab.tys = true) : ∀ {ty : Ty},
    (∀ {t : TypeId} {d : DataW H} {x : ty.den}, tl tab t = some ty → plainTy ty = true → DR ty d x → (∀ n ∈ d.weights P t, n ≤ reachBytes) → Fit ty x → Fit47 ty x) ∧
    (∀ {fs : List Field} {off : Nat} {ds : List (DataW H)} {x : ty.den}, ty.agg = true → plainTy ty = true → fieldsChk tab fs ty off = true → DR ty (.agg ds) x → (∀ n ∈ DataW.weightsEach P (fs.map (·.type)) ds, n ≤ reachBytes) → Fit ty x → Fit47 ty x) := by
  intro ty
  have structs : ty.agg = true → (∀ {fs : List Field} {off : Nat} {ds : List (DataW H)} {x : ty.den}, ty.agg = true → plainTy ty = true → fieldsChk tab fs ty off = true → DR ty (.agg ds) x → (∀ n ∈ DataW.weightsEach P (fs.map (·.type)) ds, n ≤ reachBytes) → Fit ty x → Fit47 ty x) →
      ∀ {t : TypeId} {d : DataW H} {x : ty.den}, tl tab t = some ty → plainTy ty = true → DR ty d x → (∀ n ∈ d.weights P t, n ≤ reachBytes) → Fit ty x → Fit47 ty x := by
    intro ha hB t d x ht hp hd hw hf
    have hT := hTab.tys ht
    obtain ⟨fs, hu, hc⟩ := hT.struct ha
    have hagg : ∃ ds, d = .agg ds := by
      cases ty <;> first | exact Bool.noConfusion ha | skip
      · exact ⟨[], hd⟩
      · obtain ⟨d1, ds, h, _⟩ := hd; exact ⟨d1 :: ds, h⟩
    obtain ⟨ds, rfl⟩ := hagg
    exact hB (fs := fs.toList) (off := 0) ha hp hc hd (fun n hn => hw n (by simp only [DataW.weights, hu]; exact hn)) hf
  induction ty with
  | int k => exact ⟨fun _ _ _ _ h => h, fun h => Bool.noConfusion h⟩
  | u8 => exact ⟨fun _ _ _ _ h => h, fun h => Bool.noConfusion h⟩
  | bool => exact ⟨fun _ _ _ _ h => h, fun h => Bool.noConfusion h⟩
  | str =>
    refine ⟨fun {t d x} _ _ hd hw _ => ?_, fun h => Bool.noConfusion h⟩
    obtain rfl : d = .lit (.string x) := hd
    have := hw (List.length x) (by simp [DataW.weights])
    exact Nat.le_trans this (by decide)
  | unit => exact ⟨fun _ _ _ _ _ => trivial, fun _ _ _ _ _ _ => trivial⟩
  | pair A B hA hB =>
    have wrapS : ∀ {ty : Ty}, (ty.agg = true → ((∀ {fs : List Field} {off : Nat} {ds : List (DataW H)} {x : ty.den}, ty.agg = true → plainTy ty = true → fieldsChk tab fs ty off = true → DR ty (.agg ds) x → (∀ n ∈ DataW.weightsEach P (fs.map (·.type)) ds, n ≤ reachBytes) → Fit ty x → Fit47 ty x) →
      ∀ {t : TypeId} {d : DataW H} {x : ty.den}, tl tab t = some ty → plainTy ty = true → DR ty d x → (∀ n ∈ d.weights P t, n ≤ reachBytes) → Fit ty x → Fit47 ty x)) := by
      intro ty ha hB t d x ht hp hd hw hf
      have hT := hTab.tys ht
      obtain ⟨fs, hu, hc⟩ := hT.struct ha
      have hagg : ∃ ds, d = .agg ds := by
        cases ty <;> first | exact Bool.noConfusion ha | skip
        · exact ⟨[], hd⟩
        · obtain ⟨d1, ds, h, _⟩ := hd; exact ⟨d1 :: ds, h⟩
      obtain ⟨ds, rfl⟩ := hagg
      exact hB (fs := fs.toList) (off := 0) ha hp hc hd (fun n hn => hw n (by simp only [DataW.weights, hu]; exact hn)) hf
    have hA := hA wrapS
    have hB := hB wrapS
    have hP : ∀ {fs : List Field} {off : Nat} {ds : List (DataW H)} {x : (Ty.pair A B).den}, (Ty.pair A B).agg = true → plainTy (.pair A B) = true → fieldsChk tab fs (.pair A B) off = true → DR (.pair A B) (.agg ds) x → (∀ n ∈ DataW.weightsEach P (fs.map (·.type)) ds, n ≤ reachBytes) → Fit (.pair A B) x → Fit47 (.pair A B) x := by
      intro fs off ds x _ hp hc hd hw hf
      obtain ⟨d1, ds', h1, h2, h3⟩ := hd
      cases h1
      cases fs with
      | nil => exact Bool.noConfusion hc
      | cons f fs =>
        obtain ⟨fd, ft, k1, k2, k3, k4, k5, k6⟩ := fieldsChk_at (f := 0) (n := 0) hc rfl
        simp only [List.getElem?_cons_zero, Option.some.injEq] at k1
        subst k1
        simp only [fieldTy, Option.some.injEq] at k4
        subst k4
        simp only [fieldsChk] at hc
        have hrest : fieldsChk tab fs B (off + A.size) = true := by
          obtain ⟨_, h2⟩ := cond_and hc
          obtain ⟨_, h4⟩ := cond_and h2
          have h5 : Nat.beq A.size 0 = false := by cases hz : Nat.beq A.size 0 with | false => rfl | true => rw [hz] at h4; exact Bool.noConfusion h4
          rw [h5] at h4
          have h6 : decide (f.name = "_") = false := decide_eq_false k6
          simpa only [h6, cond] using h4
        have hBa : B.agg = true := by cases B <;> first | rfl | (cases fs <;> exact Bool.noConfusion hrest)
        simp only [plainTy] at hp
        obtain ⟨hp1, hp2⟩ := cond_and hp
        exact ⟨hA.1 k3 hp1 h2 (fun n hn => hw n (by simp only [List.map_cons, DataW.weightsEach, List.mem_append]; exact .inl hn)) hf.1,
          hB.2 hBa hp2 hrest h3 (fun n hn => hw n (by simp only [List.map_cons, DataW.weightsEach, List.mem_append]; exact .inr hn)) hf.2⟩
    exact ⟨structs rfl hP, hP⟩
  | slice e he =>
    have he := he (fun ha => by
      intro hB t d x ht hp hd hw hf
      have hT := hTab.tys ht
      obtain ⟨fs, hu, hc⟩ := hT.struct ha
      have hagg : ∃ ds, d = .agg ds := by
        cases e <;> first | exact Bool.noConfusion ha | skip
        · exact ⟨[], hd⟩
        · obtain ⟨d1, ds, h, _⟩ := hd; exact ⟨d1 :: ds, h⟩
      obtain ⟨ds, rfl⟩ := hagg
      exact hB (fs := fs.toList) (off := 0) ha hp hc hd (fun n hn => hw n (by simp only [DataW.weights, hu]; exact hn)) hf)
    refine ⟨fun {t d x} ht hp hd hw hf => ?_, fun h => Bool.noConfusion h⟩
    obtain ⟨et, hu, het⟩ := (hTab.tys ht).slice
    simp only [plainTy] at hp
    have hsz : e.size ≠ 0 ∧ plainTy e = true := by
      cases hz : Nat.beq e.size 0 with
      | true => rw [hz] at hp; exact Bool.noConfusion hp
      | false => rw [hz] at hp; exact ⟨fun e0 => by rw [e0] at hz; exact Bool.noConfusion hz, hp⟩
    rcases hd with ⟨rfl, rfl⟩ | ⟨elems, spare, rfl, hl, hel⟩
    · exact ⟨Nat.zero_le _, fun x hx => by simp at hx⟩
    · simp only [DataW.weights, hu] at hw
      have h1 := hw _ (List.mem_cons_self)
      have h2 := mul_pos_le (tabPos_ok hpos het hsz.1) h1
      refine ⟨by rw [← hl]; exact Nat.le_trans (Nat.le_trans (Nat.le_add_right _ _) h2) (by decide), fun y hy => ?_⟩
      obtain ⟨i, hi, rfl⟩ := List.getElem_of_mem hy
      have hil : i < elems.length := by rw [hl]; exact hi
      refine he.1 het hsz.2 (hel i elems[i] _ (List.getElem?_eq_getElem hil) (List.getElem?_eq_getElem hi)) (fun n hn => hw n ?_) (hf.2 _ hy)
      have all : ∀ {l : List (DataW H)} {d : DataW H}, d ∈ l → ∀ n ∈ d.weights P et, n ∈ DataW.weightsAll P et l := by
        intro l
        induction l with
        | nil => intro d hd; simp at hd
        | cons z l ih =>
          intro d hd n hn
          simp only [DataW.weightsAll, List.mem_append]
          rcases List.mem_cons.1 hd with rfl | hd
          · exact .inl hn
          · exact .inr (ih hd n hn)
      simp only [List.mem_cons, List.mem_append]
      exact .inr (.inl (all (List.getElem_mem hil) n hn))
  | tree k v => exact ⟨fun _ hp => Bool.noConfusion hp, fun h => Bool.noConfusion h⟩
theorem fits47 (hTab : TabOk P tab) (hpos : tabPos P tab.tys = true) : ∀ {ts : List TypeId} {tys : List Ty} {ds : List (DataW H)} {x : (argTy (pures tys)).den}, parsOk P tab ts tys = true → DR (argTy (pures tys)) (.agg ds) x → (∀ n ∈ DataW.weightsEach P ts ds, n ≤ reachBytes) → Fit (argTy (pures tys)) x → Fit47 (argTy (pures tys)) x
  | [], [], _, _, _, _, _, _ => trivial
  | [], _ :: _, _, _, hp, _, _, _ => Bool.noConfusion hp
  | _ :: _, [], _, _, hp, _, _, _ => Bool.noConfusion hp
  | t :: ts, ty :: tys, ds, x, hp, hd, hw, hf => by
    obtain ⟨d1, ds', h1, h2, h3⟩ := (show ∃ d1 ds', DataW.agg ds = .agg (d1 :: ds') ∧ DR ty d1 x.1 ∧ DR (argTy (pures tys)) (.agg ds') x.2 from hd)
    cases h1
    obtain ⟨p1, p2, _, _, p5⟩ := parsOk_cons hp
    exact ⟨(fit47 hTab hpos).1 p1 p2 h2 (fun n hn => hw n (by simp only [DataW.weightsEach, List.mem_append]; exact .inl hn)) hf.1,
      fits47 hTab hpos p5 h3 (fun n hn => hw n (by simp only [DataW.weightsEach, List.mem_append]; exact .inr hn)) hf.2⟩
/-- from a law's contract to what its row asks, arguments no longer than memory bears -/
theorem law_post47 {enc : TypeId × Value → H} {s : ChangeSpec} {f : FuncId} {fn : Func} {tys : List Ty} {tb : TypeId} {F : (argTy (pures tys)).den → Option (resTy [.pure .bool] (pures tys)).den} (hTab : TabOk P tab) (hpos : tabPos P tab.tys = true) (hF : FOk P f ⟨pures tys, [.pure .bool], F⟩) (hl : laidOutB P = true)
    (hpars : parsOk P tab fn.params.toList tys = true) (hres : fn.resultTypes = #[tb]) (htb : P.underlying tb = some .bool) (hvars : s.vars = []) (hspec : ∀ (H : Type) (ds : List (DataW H)), ds.length = tys.length → s.fn H ds = { results := [.lit (.bool true)], args := ds })
    (hlaw : ∀ (x : (argTy (pures tys)).den), Fit47 (argTy (pures tys)) x → ∃ y, F x = some (true, y))
    {W : World} {base : Nat} {args : Array Value} {ds gs : List (DataW H)} {before : List MemPlace} (hval : ∀ (j : Nat) (t : TypeId) (v : Value), fn.params[j]? = some t → args[j]? = some v → Value.okWide P W .any base t v)
    (hW : DataW.Whole enc P fn.params.toList s.vars false W args.toList ds gs before) (hz : (DataW.weightsEach P (fn.params.toList ++ s.plain.varTypes P) (ds ++ gs)).all (· ≤ reachBytes) = true) :
    Calls P f args W fun e W' => ∃ v, e = .returned v ∧ s.post enc P fn false true false false W args v W' := by
  have hgs : gs = [] := by
    obtain ⟨p, q, _, hV, _⟩ := hW
    rw [hvars] at hV
    exact (trodVars_none hV).1
  have hvt : s.plain.varTypes P = [] := by
    simp [ChangeSpec.plain, DataSpec.varTypes, hvars]
  rw [hgs, hvt, List.append_nil, List.append_nil] at hz
  exact law_post (s := s) (tb := tb) (tys := tys) (F := F) (K := fun l => ∀ n ∈ DataW.weightsEach P fn.params.toList l, n ≤ reachBytes) hTab hF hl hpars hres htb hvars hspec
    (fun ds x hd hx hk => hlaw x (fits47 hTab hpos hpars hd hk hx)) hval hW (fun n hn => by
      rw [hgs, List.append_nil] at hn
      simpa using List.all_eq_true.1 hz n hn)
end
section
variable {H : Type} {P : Program} {tab : Tab}
end
end Go.Sx
namespace Go.Sx
theorem strlt_nil (a : List UInt8) : strlt a [] = false := by cases a <;> rfl
theorem strlt_cons (a b : UInt8) (x y : List UInt8) : strlt (a :: x) (b :: y) = (decide (a < b) || (a == b && strlt x y)) := rfl
theorem strlt_irrefl : ∀ a : List UInt8, strlt a a = false
  | [] => rfl
  | a :: x => by rw [strlt_cons, strlt_irrefl x]; simp [UInt8.lt_irrefl]
theorem strlt_tri : ∀ a b : List UInt8, strlt a b = true ∨ a = b ∨ strlt b a = true
  | [], [] => .inr (.inl rfl)
  | [], b :: y => .inl rfl
  | a :: x, [] => .inr (.inr rfl)
  | a :: x, b :: y => by
    rw [strlt_cons, strlt_cons]
    by_cases h : a < b
    · simp [h]
    · by_cases h2 : b < a
      · simp [h2]
      · have e : a = b := UInt8.le_antisymm (UInt8.not_lt.1 h2) (UInt8.not_lt.1 h)
        subst e
        rcases strlt_tri x y with h3 | h3 | h3 <;> simp [h3, UInt8.lt_irrefl]
theorem strlt_trans : ∀ {a b c : List UInt8}, strlt a b = true → strlt b c = true → strlt a c = true
  | _, _, [], _, h => by simp [strlt_nil] at h
  | _, [], _ :: _, h, _ => by simp [strlt_nil] at h
  | [], _ :: _, _ :: _, _, _ => rfl
  | a :: x, b :: y, c :: z, h, h' => by
    rw [strlt_cons] at h h' ⊢
    simp only [Bool.or_eq_true, decide_eq_true_eq, Bool.and_eq_true, beq_iff_eq] at h h' ⊢
    rcases h with h | ⟨rfl, h⟩
    · rcases h' with h' | ⟨rfl, h'⟩
      · exact .inl (UInt8.lt_trans h h')
      · exact .inl h
    · rcases h' with h' | ⟨rfl, h'⟩
      · exact .inl h'
      · exact .inr ⟨rfl, strlt_trans h h'⟩
/-- does a text begin with another one -/
def begins (s p : List UInt8) : Bool := decide (s.take p.length = p)
end Go.Sx
namespace Go.Sx
section
variable {K V : Type}
abbrev KV (K V : Type) : Type := K × V × Unit
/-- a strict order -/
structure LO (lt : K → K → Bool) : Prop where
  irr : ∀ a, lt a a = false
  trans : ∀ {a b c}, lt a b = true → lt b c = true → lt a c = true
  tri : ∀ a b, lt a b = true ∨ a = b ∨ lt b a = true
theorem LO.asymm {lt : K → K → Bool} (L : LO lt) {a b : K} (h : lt a b = true) : lt b a = false := by
  cases hb : lt b a with
  | false => rfl
  | true => have := L.trans h hb; rw [L.irr] at this; exact this.symm
theorem LO.ne {lt : K → K → Bool} (L : LO lt) {a b : K} (h : lt a b = true) : a ≠ b := fun e => by
  subst e; rw [L.irr] at h; exact Bool.noConfusion h
theorem LO.eq {lt : K → K → Bool} (L : LO lt) {a b : K} (h : lt a b = false) (h2 : lt b a = false) : a = b := by
  rcases L.tri a b with h3 | h3 | h3
  · rw [h] at h3; exact Bool.noConfusion h3
  · exact h3
  · rw [h2] at h3; exact Bool.noConfusion h3
def toL : Tree K V → List (KV K V)
  | .leaf => []
  | .node k v l h _ _ => toL l ++ (k, v, ()) :: toL h
def cnt : Tree K V → Int
  | .leaf => 0
  | .node _ _ _ _ n _ => n
def dep : Tree K V → Int
  | .leaf => 0
  | .node _ _ _ _ _ d => d
def mkT (p : KV K V) (l h : Tree K V) : Tree K V := .node p.1 p.2.1 l h (cnt l + cnt h + 1) (max (dep l) (dep h) + 1)
theorem dep_leaf : dep (.leaf : Tree K V) = 0 := rfl
theorem dep_node (k : K) (v : V) (l h : Tree K V) (n d : Int) : dep (.node k v l h n d) = d := rfl
theorem cnt_leaf : cnt (.leaf : Tree K V) = 0 := rfl
theorem cnt_node (k : K) (v : V) (l h : Tree K V) (n d : Int) : cnt (.node k v l h n d) = n := rfl
theorem toL_mk (p : KV K V) (l h : Tree K V) : toL (mkT p l h) = toL l ++ p :: toL h := rfl
theorem dep_mk (p : KV K V) (l h : Tree K V) : dep (mkT p l h) = max (dep l) (dep h) + 1 := rfl
theorem cnt_mk (p : KV K V) (l h : Tree K V) : cnt (mkT p l h) = cnt l + cnt h + 1 := rfl
def Avl : Tree K V → Prop
  | .leaf => True
  | .node _ _ l h n d => Avl l ∧ Avl h ∧ n = cnt l + cnt h + 1 ∧ d = max (dep l) (dep h) + 1 ∧ dep l ≤ dep h + 1 ∧ dep h ≤ dep l + 1
theorem Avl.len : ∀ {t : Tree K V}, Avl t → cnt t = ((toL t).length : Int)
  | .leaf, _ => rfl
  | .node k v l h n d, ⟨h1, h2, h3, _⟩ => by
    have a := h1.len
    have b := h2.len
    simp only [cnt_leaf, cnt_node, toL, List.length_append, List.length_cons]
    rw [h3, a, b]
    push_cast
    omega
theorem Avl.dep0 : ∀ {t : Tree K V}, Avl t → 0 ≤ dep t
  | .leaf, _ => Int.le_refl 0
  | .node k v l h n d, ⟨h1, h2, _, h4, _⟩ => by
    have a := h1.dep0
    simp only [dep_leaf, dep_node]
    omega
theorem Avl.dep_len : ∀ {t : Tree K V}, Avl t → dep t ≤ cnt t
  | .leaf, _ => Int.le_refl 0
  | .node k v l h n d, ⟨h1, h2, h3, h4, _⟩ => by
    have a := h1.dep_len
    have b := h2.dep_len
    have a0 := h1.dep0
    have b0 := h2.dep0
    simp only [dep_leaf, dep_node, cnt_leaf, cnt_node]
    omega
theorem Avl.mk {p : KV K V} {l h : Tree K V} (h1 : Avl l) (h2 : Avl h) (h3 : dep l ≤ dep h + 1) (h4 : dep h ≤ dep l + 1) : Avl (mkT p l h) := ⟨h1, h2, rfl, rfl, h3, h4⟩
/-- what is deep has many: 2k + 1 levels have 2^k -/
theorem Avl.many : ∀ (k : Nat) {t : Tree K V}, Avl t → 2 * (k : Int) + 1 ≤ dep t → 2 ^ k ≤ (toL t).length
  | k, .leaf, _, h => by simp only [dep_leaf, dep_node] at h; omega
  | 0, .node _ _ l h n d, _, _ => by simp only [toL, List.length_append, List.length_cons]; omega
  | k + 1, .node _ _ l h n d, ⟨h1, h2, h3, h4, h5, h6⟩, hd => by
    simp only [dep_leaf, dep_node] at hd
    have a := h1.many k (by omega)
    have b := h2.many k (by omega)
    simp only [toL, List.length_append, List.length_cons]
    rw [Nat.pow_succ]
    omega
/-- a tree, its sides of nearly one depth -/
def evenT (p : KV K V) (l h : Tree K V) : Tree K V :=
  bif decide (dep h + 1 < dep l) then
    match l with
    | .leaf => mkT p .leaf h
    | .node k v ll lh n d =>
      bif decide (dep lh ≤ dep ll) then mkT (k, v, ()) ll (mkT p lh h)
      else match lh with
        | .leaf => mkT p (.node k v ll .leaf n d) h
        | .node mk mv ml mh _ _ => mkT (mk, mv, ()) (mkT (k, v, ()) ll ml) (mkT p mh h)
  else bif decide (dep l + 1 < dep h) then
    match h with
    | .leaf => mkT p l .leaf
    | .node k v hl hh n d =>
      bif decide (dep hl ≤ dep hh) then mkT (k, v, ()) (mkT p l hl) hh
      else match hl with
        | .leaf => mkT p l (.node k v .leaf hh n d)
        | .node mk mv ml mh _ _ => mkT (mk, mv, ()) (mkT p l ml) (mkT (k, v, ()) mh hh)
  else mkT p l h
theorem toL_even (p : KV K V) (l h : Tree K V) : toL (evenT p l h) = toL l ++ p :: toL h := by
  unfold evenT
  cases decide (dep h + 1 < dep l) with
  | true =>
    cases l with
    | leaf => rfl
    | node k v ll lh n d =>
      simp only [cond_true]
      cases decide (dep lh ≤ dep ll) with
      | true => simp [toL_mk, toL]
      | false =>
        cases lh with
        | leaf => rfl
        | node mk mv ml mh a b => simp [toL_mk, toL]
  | false =>
    simp only [cond_false]
    cases decide (dep l + 1 < dep h) with
    | true =>
      cases h with
      | leaf => rfl
      | node k v hl hh n d =>
        simp only [cond_true]
        cases decide (dep hl ≤ dep hh) with
        | true => simp [toL_mk, toL]
        | false =>
          cases hl with
          | leaf => rfl
          | node mk mv ml mh a b => simp [toL_mk, toL]
    | false => rfl
theorem Avl.even {p : KV K V} {l h : Tree K V} (g1 : Avl l) (g2 : Avl h) (h1 : dep l ≤ dep h + 2) (h2 : dep h ≤ dep l + 2) :
    Avl (evenT p l h) ∧ max (dep l) (dep h) ≤ dep (evenT p l h) ∧ dep (evenT p l h) ≤ max (dep l) (dep h) + 1 ∧ (dep l ≤ dep h + 1 → dep h ≤ dep l + 1 → dep (evenT p l h) = max (dep l) (dep h) + 1) := by
  unfold evenT
  by_cases hl : dep h + 1 < dep l
  · simp only [hl, decide_true, cond_true]
    cases l with
    | leaf => have := g2.dep0; simp only [dep_leaf, dep_node] at hl; omega
    | node k v ll lh n d =>
      obtain ⟨a1, a2, a3, a4, a5, a6⟩ := g1
      simp only [dep_leaf, dep_node] at hl h1 h2 ⊢
      by_cases hc : dep lh ≤ dep ll
      · simp only [hc, decide_true, cond_true, dep_mk]
        exact ⟨.mk a1 (.mk a2 g2 (by omega) (by omega)) (by rw [dep_mk]; omega) (by rw [dep_mk]; omega), by omega, by omega, by omega⟩
      · simp only [hc, decide_false, cond_false]
        cases lh with
        | leaf => have := a1.dep0; simp only [dep_leaf, dep_node] at hc; omega
        | node mk mv ml mh n' d' =>
          obtain ⟨b1, b2, b3, b4, b5, b6⟩ := a2
          simp only [dep_leaf, dep_node] at hc a4 a5 a6
          simp only [dep_mk]
          exact ⟨.mk (.mk a1 b1 (by omega) (by omega)) (.mk b2 g2 (by omega) (by omega)) (by simp only [dep_mk]; omega) (by simp only [dep_mk]; omega), by omega, by omega, by omega⟩
  · simp only [hl, decide_false, cond_false]
    by_cases hr : dep l + 1 < dep h
    · simp only [hr, decide_true, cond_true]
      cases h with
      | leaf => have := g1.dep0; simp only [dep_leaf, dep_node] at hr; omega
      | node k v hl' hh n d =>
        obtain ⟨a1, a2, a3, a4, a5, a6⟩ := g2
        simp only [dep_leaf, dep_node] at hl hr h1 h2 ⊢
        by_cases hc : dep hl' ≤ dep hh
        · simp only [hc, decide_true, cond_true, dep_mk]
          exact ⟨.mk (.mk g1 a1 (by omega) (by omega)) a2 (by rw [dep_mk]; omega) (by rw [dep_mk]; omega), by omega, by omega, by omega⟩
        · simp only [hc, decide_false, cond_false]
          cases hl' with
          | leaf => have := a2.dep0; simp only [dep_leaf, dep_node] at hc; omega
          | node mk mv ml mh n' d' =>
            obtain ⟨b1, b2, b3, b4, b5, b6⟩ := a1
            simp only [dep_leaf, dep_node] at hc a4 a5 a6
            simp only [dep_mk]
            exact ⟨.mk (.mk g1 b1 (by omega) (by omega)) (.mk b2 a2 (by omega) (by omega)) (by simp only [dep_mk]; omega) (by simp only [dep_mk]; omega), by omega, by omega, by omega⟩
    · simp only [hr, decide_false, cond_false, dep_mk]
      exact ⟨.mk g1 g2 (by omega) (by omega), by omega, by omega, fun _ _ => trivial⟩
variable (lt : K → K → Bool)
def tPut (p : KV K V) : Tree K V → Tree K V
  | .leaf => mkT p .leaf .leaf
  | .node k v l h _ _ => bif lt p.1 k then evenT (k, v, ()) (tPut p l) h else bif lt k p.1 then evenT (k, v, ()) l (tPut p h) else mkT p l h
def tLeast : Tree K V → KV K V → KV K V × Tree K V
  | .leaf, z => (z, .leaf)
  | .node k v l h _ _, _ => bif isLeaf l then ((k, v, ()), h) else ((tLeast l (k, v, ())).1, evenT (k, v, ()) (tLeast l (k, v, ())).2 h)
def tDel (x : K) : Tree K V → Tree K V
  | .leaf => .leaf
  | .node k v l h _ _ => bif lt x k then evenT (k, v, ()) (tDel x l) h else bif lt k x then evenT (k, v, ()) l (tDel x h) else
    bif isLeaf h then l else evenT (tLeast h (k, v, ())).1 l (tLeast h (k, v, ())).2
def Sorted (l : List (KV K V)) : Prop := l.Pairwise fun a b => lt a.1 b.1 = true
variable {lt}
theorem Avl.put {p : KV K V} : ∀ {t : Tree K V}, Avl t → Avl (tPut lt p t) ∧ dep t ≤ dep (tPut lt p t) ∧ dep (tPut lt p t) ≤ dep t + 1
  | .leaf, _ => ⟨⟨trivial, trivial, rfl, rfl, (by decide : (0 : Int) ≤ 0 + 1), (by decide : (0 : Int) ≤ 0 + 1)⟩, (by decide : (0 : Int) ≤ 1), (by decide : (1 : Int) ≤ 0 + 1)⟩
  | .node k v l h n d, ⟨h1, h2, h3, h4, h5, h6⟩ => by
    obtain ⟨a1, a2, a3⟩ := h1.put (p := p)
    obtain ⟨b1, b2, b3⟩ := h2.put (p := p)
    simp only [tPut, dep_leaf, dep_node]
    cases lt p.1 k with
    | true =>
      obtain ⟨c1, c2, c3, c4⟩ := Avl.even (p := (k, v, ())) a1 h2 (by omega) (by omega)
      refine ⟨c1, ?_, ?_⟩
      · simp only [cond_true]; by_cases hh : dep (tPut lt p l) ≤ dep h + 1
        · have := c4 hh (by omega); omega
        · omega
      · simp only [cond_true]; by_cases hh : dep (tPut lt p l) ≤ dep h + 1
        · have := c4 hh (by omega); omega
        · omega
    | false =>
      simp only [cond_false]
      cases lt k p.1 with
      | true =>
        obtain ⟨c1, c2, c3, c4⟩ := Avl.even (p := (k, v, ())) h1 b1 (by omega) (by omega)
        refine ⟨c1, ?_, ?_⟩
        · simp only [cond_true]; by_cases hh : dep (tPut lt p h) ≤ dep l + 1
          · have := c4 (by omega) hh; omega
          · omega
        · simp only [cond_true]; by_cases hh : dep (tPut lt p h) ≤ dep l + 1
          · have := c4 (by omega) hh; omega
          · omega
      | false =>
        simp only [cond_false, dep_mk]
        exact ⟨.mk h1 h2 h5 h6, by omega, by omega⟩
theorem Avl.least : ∀ {t : Tree K V} (z : KV K V), Avl t → isLeaf t = false → Avl (tLeast t z).2 ∧ dep t - 1 ≤ dep (tLeast t z).2 ∧ dep (tLeast t z).2 ≤ dep t ∧ toL t = (tLeast t z).1 :: toL (tLeast t z).2
  | .leaf, _, _, h => Bool.noConfusion h
  | .node k v l h n d, z, ⟨h1, h2, h3, h4, h5, h6⟩, _ => by
    simp only [tLeast, dep_leaf, dep_node]
    cases hl : isLeaf l with
    | true =>
      cases l with
      | node => exact Bool.noConfusion hl
      | leaf =>
        have := h2.dep0
        simp only [dep_leaf, dep_node] at h4 h5 h6
        refine ⟨h2, ?_, ?_, rfl⟩
        · simp only [cond_true]; omega
        · simp only [cond_true]; omega
    | false =>
      obtain ⟨a1, a2, a3, a4⟩ := h1.least (k, v, ()) hl
      obtain ⟨c1, c2, c3, c4⟩ := Avl.even (p := (k, v, ())) a1 h2 (by omega) (by omega)
      refine ⟨c1, ?_, ?_, ?_⟩
      · simp only [cond_false]; by_cases hh : dep h ≤ dep (tLeast l (k, v, ())).2 + 1
        · have := c4 (by omega) hh; omega
        · omega
      · simp only [cond_false]; by_cases hh : dep h ≤ dep (tLeast l (k, v, ())).2 + 1
        · have := c4 (by omega) hh; omega
        · omega
      · simp only [cond_false, toL_even, toL]
        rw [a4, List.cons_append]
theorem Avl.del {x : K} : ∀ {t : Tree K V}, Avl t → Avl (tDel lt x t) ∧ dep t - 1 ≤ dep (tDel lt x t) ∧ dep (tDel lt x t) ≤ dep t
  | .leaf, _ => ⟨trivial, by simp only [dep_leaf, dep_node, tDel]; omega, by simp only [dep_leaf, dep_node, tDel]; omega⟩
  | .node k v l h n d, ⟨h1, h2, h3, h4, h5, h6⟩ => by
    obtain ⟨a1, a2, a3⟩ := h1.del (x := x)
    obtain ⟨b1, b2, b3⟩ := h2.del (x := x)
    have l0 := h1.dep0
    simp only [tDel, dep_leaf, dep_node]
    cases lt x k with
    | true =>
      obtain ⟨c1, c2, c3, c4⟩ := Avl.even (p := (k, v, ())) a1 h2 (by omega) (by omega)
      refine ⟨c1, ?_, ?_⟩
      · simp only [cond_true]; by_cases hh : dep h ≤ dep (tDel lt x l) + 1
        · have := c4 (by omega) hh; omega
        · omega
      · simp only [cond_true]; by_cases hh : dep h ≤ dep (tDel lt x l) + 1
        · have := c4 (by omega) hh; omega
        · omega
    | false =>
      simp only [cond_false]
      cases lt k x with
      | true =>
        obtain ⟨c1, c2, c3, c4⟩ := Avl.even (p := (k, v, ())) h1 b1 (by omega) (by omega)
        refine ⟨c1, ?_, ?_⟩
        · simp only [cond_true]; by_cases hh : dep l ≤ dep (tDel lt x h) + 1
          · have := c4 hh (by omega); omega
          · omega
        · simp only [cond_true]; by_cases hh : dep l ≤ dep (tDel lt x h) + 1
          · have := c4 hh (by omega); omega
          · omega
      | false =>
        simp only [cond_false]
        cases hl : isLeaf h with
        | true =>
          cases h with
          | node => exact Bool.noConfusion hl
          | leaf =>
            simp only [dep_leaf, dep_node] at h4 h5 h6
            simp only [cond_true]
            exact ⟨h1, by omega, by omega⟩
        | false =>
          obtain ⟨a1, a2, a3, a4⟩ := h2.least (k, v, ()) hl
          obtain ⟨c1, c2, c3, c4⟩ := Avl.even (p := (tLeast h (k, v, ())).1) h1 a1 (by omega) (by omega)
          refine ⟨c1, ?_, ?_⟩
          · simp only [cond_false]; by_cases hh : dep l ≤ dep (tLeast h (k, v, ())).2 + 1
            · have := c4 hh (by omega); omega
            · omega
          · simp only [cond_false]; by_cases hh : dep l ≤ dep (tLeast h (k, v, ())).2 + 1
            · have := c4 hh (by omega); omega
            · omega
theorem Sorted.split {l h : List (KV K V)} {p : KV K V} : Sorted lt (l ++ p :: h) ↔ Sorted lt l ∧ Sorted lt h ∧ (∀ a ∈ l, lt a.1 p.1 = true) ∧ (∀ a ∈ h, lt p.1 a.1 = true) ∧ (∀ a ∈ l, ∀ b ∈ h, lt a.1 b.1 = true) := by
  unfold Sorted
  rw [List.pairwise_append, List.pairwise_cons]
  constructor
  · rintro ⟨h1, ⟨h2, h3⟩, h4⟩
    exact ⟨h1, h3, fun a ha => h4 a ha p (List.mem_cons_self ..), h2, fun a ha b hb => h4 a ha b (List.mem_cons_of_mem _ hb)⟩
  · rintro ⟨h1, h2, h3, h4, h5⟩
    refine ⟨h1, ⟨h4, h2⟩, fun a ha b hb => ?_⟩
    rcases List.mem_cons.1 hb with rfl | hb
    · exact h3 a ha
    · exact h5 a ha b hb
theorem Sorted.filter {l : List (KV K V)} (h : Sorted lt l) (p : KV K V → Bool) : Sorted lt (l.filter p) := List.Pairwise.sublist List.filter_sublist h
/-- the pairs, in which a key has a value -/
def putL (lt : K → K → Bool) (p : KV K V) (l : List (KV K V)) : List (KV K V) := l.filter (fun e => lt e.1 p.1) ++ p :: l.filter (fun e => lt p.1 e.1)
theorem fil_all {α : Type} {p : α → Bool} {l : List α} (h : ∀ a ∈ l, p a = true) : l.filter p = l := List.filter_eq_self.2 h
theorem fil_none {α : Type} {p : α → Bool} {l : List α} (h : ∀ a ∈ l, p a = false) : l.filter p = [] := List.filter_eq_nil_iff.2 fun a ha => by rw [h a ha]; exact Bool.noConfusion
theorem toL_put (L : LO lt) {p : KV K V} : ∀ {t : Tree K V}, Sorted lt (toL t) → toL (tPut lt p t) = putL lt p (toL t)
  | .leaf, _ => rfl
  | .node k v l h n d, hs => by
    simp only [toL] at hs
    obtain ⟨s1, s2, s3, s4, s5⟩ := Sorted.split.1 hs
    have a := toL_put L (p := p) s1
    have b := toL_put L (p := p) s2
    unfold putL at a b ⊢
    simp only [tPut, toL, List.filter_append, List.filter_cons]
    cases h1 : lt p.1 k with
    | true =>
      have h2 := L.asymm h1
      have e1 : (toL h).filter (fun e => lt e.1 p.1) = [] := fil_none fun e he => L.asymm (L.trans h1 (s4 e he))
      have e2 : (toL h).filter (fun e => lt p.1 e.1) = toL h := fil_all fun e he => L.trans h1 (s4 e he)
      simp only [cond_true, toL_even, a, h2, if_false, if_true, e1, e2, Bool.false_eq_true, List.append_nil, List.append_assoc, List.cons_append]
    | false =>
      simp only [cond_false]
      cases h2 : lt k p.1 with
      | true =>
        have e1 : (toL l).filter (fun e => lt e.1 p.1) = toL l := fil_all fun e he => L.trans (s3 e he) h2
        have e2 : (toL l).filter (fun e => lt p.1 e.1) = [] := fil_none fun e he => L.asymm (L.trans (s3 e he) h2)
        simp only [cond_true, toL_even, b, if_false, if_true, e1, e2, Bool.false_eq_true, List.nil_append, List.append_assoc, List.cons_append]
      | false =>
        have := L.eq h1 h2
        subst this
        have e1 : (toL l).filter (fun e => lt e.1 p.1) = toL l := fil_all s3
        have e2 : (toL l).filter (fun e => lt p.1 e.1) = [] := fil_none fun e he => L.asymm (s3 e he)
        have e3 : (toL h).filter (fun e => lt e.1 p.1) = [] := fil_none fun e he => L.asymm (s4 e he)
        have e4 : (toL h).filter (fun e => lt p.1 e.1) = toL h := fil_all s4
        simp only [cond_false, toL_mk, if_false, e1, e2, e3, e4, Bool.false_eq_true, List.nil_append, List.append_nil]
theorem Sorted.put (L : LO lt) {p : KV K V} {l : List (KV K V)} (h : Sorted lt l) : Sorted lt (putL lt p l) := by
  unfold putL
  rw [Sorted.split]
  refine ⟨h.filter _, h.filter _, fun a ha => (List.mem_filter.1 ha).2, fun a ha => (List.mem_filter.1 ha).2, fun a ha b hb => L.trans (List.mem_filter.1 ha).2 (List.mem_filter.1 hb).2⟩
/-- the pairs without a key -/
def delL (lt : K → K → Bool) (x : K) (l : List (KV K V)) : List (KV K V) := l.filter (fun e => lt e.1 x || lt x e.1)
theorem toL_del (L : LO lt) {x : K} : ∀ {t : Tree K V}, Avl t → Sorted lt (toL t) → toL (tDel lt x t) = delL lt x (toL t)
  | .leaf, _, _ => rfl
  | .node k v l h n d, ⟨g1, g2, _⟩, hs => by
    simp only [toL] at hs
    obtain ⟨s1, s2, s3, s4, s5⟩ := Sorted.split.1 hs
    have a := toL_del L (x := x) g1 s1
    have b := toL_del L (x := x) g2 s2
    unfold delL at a b ⊢
    simp only [tDel, toL, List.filter_append, List.filter_cons]
    cases h1 : lt x k with
    | true =>
      have h2 := L.asymm h1
      have e2 : (toL h).filter (fun e => lt e.1 x || lt x e.1) = toL h := fil_all fun e he => by rw [L.trans h1 (s4 e he), Bool.or_true]
      simp only [cond_true, toL_even, a, h2, if_true, e2, Bool.or_true]
    | false =>
      simp only [cond_false]
      cases h2 : lt k x with
      | true =>
        have e2 : (toL l).filter (fun e => lt e.1 x || lt x e.1) = toL l := fil_all fun e he => by rw [L.trans (s3 e he) h2, Bool.true_or]
        simp only [cond_true, toL_even, b, if_true, e2, Bool.true_or]
      | false =>
        have := L.eq h1 h2
        subst this
        have e1 : (toL l).filter (fun e => lt e.1 x || lt x e.1) = toL l := fil_all fun e he => by rw [s3 e he, Bool.true_or]
        have e2 : (toL h).filter (fun e => lt e.1 x || lt x e.1) = toL h := fil_all fun e he => by rw [s4 e he, Bool.or_true]
        simp only [cond_false, e1, e2, Bool.or_self, Bool.false_eq_true, if_false]
        cases hl : isLeaf h with
        | true =>
          cases h with
          | node => exact Bool.noConfusion hl
          | leaf => simp [toL]
        | false =>
          obtain ⟨_, _, _, a4⟩ := g2.least (x, v, ()) hl
          simp only [cond_false, toL_even]
          rw [← a4]
theorem Sorted.del {x : K} {l : List (KV K V)} (h : Sorted lt l) : Sorted lt (delL lt x l) := h.filter _
/-- a key's value -/
def tGet (lt : K → K → Bool) (x : K) : Tree K V → Option V
  | .leaf => none
  | .node k v l h _ _ => bif lt x k then tGet lt x l else bif lt k x then tGet lt x h else some v
def getL (lt : K → K → Bool) (x : K) (l : List (KV K V)) : Option V := (l.find? fun e => !(lt e.1 x || lt x e.1)).map (·.2.1)
theorem find_none {α : Type} {p : α → Bool} {l : List α} (h : ∀ a ∈ l, p a = false) : l.find? p = none := List.find?_eq_none.2 fun a ha => by rw [h a ha]; exact Bool.noConfusion
theorem getT_eq (L : LO lt) {x : K} : ∀ {t : Tree K V}, Sorted lt (toL t) → tGet lt x t = getL lt x (toL t)
  | .leaf, _ => rfl
  | .node k v l h n d, hs => by
    simp only [toL] at hs
    obtain ⟨s1, s2, s3, s4, s5⟩ := Sorted.split.1 hs
    have a := getT_eq L (x := x) s1
    have b := getT_eq L (x := x) s2
    unfold getL at a b ⊢
    simp only [tGet, toL, List.find?_append, List.find?_cons]
    cases h1 : lt x k with
    | true =>
      have h2 := L.asymm h1
      have e2 : (toL h).find? (fun e => !(lt e.1 x || lt x e.1)) = none := find_none fun e he => by rw [L.trans h1 (s4 e he), Bool.or_true]; rfl
      simp only [cond_true, a, h2, Bool.or_true, Bool.not_true, e2, Option.or_none]
    | false =>
      have e1 : ∀ (h2 : lt k x = true ∨ k = x), (toL l).find? (fun e => !(lt e.1 x || lt x e.1)) = none := fun h2 => find_none fun e he => by
        rcases h2 with h2 | rfl
        · rw [L.trans (s3 e he) h2, Bool.true_or]; rfl
        · rw [s3 e he, Bool.true_or]; rfl
      simp only [cond_false]
      cases h2 : lt k x with
      | true => simp only [cond_true, b, e1 (.inl h2), Bool.or_false, Bool.not_true, Option.none_or]
      | false => simp only [cond_false, e1 (.inr (L.eq h2 h1)), Bool.or_self, Bool.not_false, Option.none_or, Option.map_some]
theorem getL_some (L : LO lt) {x : K} {l : List (KV K V)} : (getL lt x l).isSome = true ↔ ∃ e ∈ l, e.1 = x := by
  unfold getL
  rw [Option.isSome_map, List.find?_isSome]
  constructor
  · rintro ⟨e, he, h⟩
    refine ⟨e, he, ?_⟩
    simp at h
    exact L.eq h.1 h.2
  · rintro ⟨e, he, rfl⟩
    exact ⟨e, he, by simp [L.irr]⟩
/-- the pair with so many below it -/
def tAt (i : Int) : Tree K V → Option (KV K V)
  | .leaf => none
  | .node k v l h _ _ => bif decide (i < cnt l) then tAt i l else bif decide (cnt l < i) then tAt (i - cnt l - 1) h else some (k, v, ())
theorem atT_eq : ∀ {t : Tree K V} (i : Nat), Avl t → tAt (i : Int) t = (toL t)[i]?
  | .leaf, i, _ => rfl
  | .node k v l h n d, i, ⟨g1, g2, _⟩ => by
    simp only [tAt, toL, g1.len]
    by_cases h1 : (i : Int) < ((toL l).length : Int)
    · simp only [h1, decide_true, cond_true]
      rw [atT_eq i g1, List.getElem?_append_left (by omega)]
    · simp only [h1, decide_false, cond_false]
      rw [List.getElem?_append_right (by omega)]
      by_cases h2 : ((toL l).length : Int) < (i : Int)
      · simp only [h2, decide_true, cond_true]
        have e : (i : Int) - ((toL l).length : Int) - 1 = ((i - (toL l).length - 1 : Nat) : Int) := by omega
        rw [e, atT_eq _ g2]
        obtain ⟨m, hm⟩ : ∃ m, i - (toL l).length = m + 1 := ⟨i - (toL l).length - 1, by omega⟩
        rw [hm]
        rfl
      · simp only [h2, decide_false, cond_false]
        rw [show i - (toL l).length = 0 from by omega]
        rfl
theorem tPut_len {p : KV K V} : ∀ t : Tree K V, (toL (tPut lt p t)).length ≤ (toL t).length + 1
  | .leaf => Nat.le_refl _
  | .node k v l h n d => by
    have a := tPut_len (p := p) l
    have b := tPut_len (p := p) h
    simp only [tPut]
    cases lt p.1 k with
    | true => simp only [cond_true, toL_even, toL, List.length_append, List.length_cons]; omega
    | false =>
      cases lt k p.1 with
      | true => simp only [cond_true, cond_false, toL_even, toL, List.length_append, List.length_cons]; omega
      | false => simp only [cond_false, toL_mk, toL, List.length_append, List.length_cons]; omega
theorem tDel_len {x : K} : ∀ {t : Tree K V}, Avl t → (toL (tDel lt x t)).length ≤ (toL t).length
  | .leaf, _ => Nat.le_refl _
  | .node k v l h n d, ⟨g1, g2, _⟩ => by
    have a := tDel_len (x := x) g1
    have b := tDel_len (x := x) g2
    simp only [tDel]
    cases lt x k with
    | true => simp only [cond_true, toL_even, toL, List.length_append, List.length_cons]; omega
    | false =>
      cases lt k x with
      | true => simp only [cond_true, cond_false, toL_even, toL, List.length_append, List.length_cons]; omega
      | false =>
        cases hl : isLeaf h with
        | true => simp only [cond_true, cond_false, toL, List.length_append, List.length_cons]; omega
        | false =>
          obtain ⟨_, _, _, a4⟩ := g2.least (k, v, ()) hl
          simp only [cond_false, toL_even, toL, List.length_append, List.length_cons, a4]; omega
/-- numbers that don't wrap -/
def Sm (t : Tree K V) : Prop := 0 ≤ cnt t ∧ 0 ≤ dep t ∧ dep t ≤ cnt t
theorem Avl.sm {t : Tree K V} (g : Avl t) : Sm t := ⟨by have := g.len; omega, g.dep0, g.dep_len⟩
theorem Sm.mk {p : KV K V} {l h : Tree K V} (a : Sm l) (b : Sm h) : Sm (mkT p l h) := by
  obtain ⟨a1, a2, a3⟩ := a
  obtain ⟨b1, b2, b3⟩ := b
  exact ⟨by rw [cnt_mk]; omega, by rw [dep_mk]; omega, by rw [cnt_mk, dep_mk]; omega⟩
def cmp3 (lt : K → K → Bool) (a b : K) : Int := bif lt a b then -1 else bif lt b a then 1 else 0
theorem cmp3_lss (L : LO lt) (a b : K) : decide (cmp3 lt a b < 0) = lt a b := by
  unfold cmp3
  cases h : lt a b with
  | true => rfl
  | false => cases lt b a <;> rfl
theorem cmp3_gtr (L : LO lt) (a b : K) : decide (0 < cmp3 lt a b) = lt b a := by
  unfold cmp3
  cases h : lt a b with
  | true => rw [L.asymm h]; rfl
  | false => cases lt b a <;> rfl
/-- a loop that goes down to a key -/
theorem loop_get {R Z : Type} {step : Tree K V × Z → Option ((Tree K V × Z) ⊕ R)} {r0 : R} {f : V → R} {x : K} {z : Z} (hl : step (.leaf, z) = some (.inr r0))
    (hn : ∀ k v l h n d, step (.node k v l h n d, z) = some (bif lt x k then .inl (l, z) else bif lt k x then .inl (h, z) else .inr (f v))) : ∀ (t : Tree K V) (n : Nat), (toL t).length < n → iter step n (t, z) = some ((tGet lt x t).elim r0 f)
  | _, 0, h => by omega
  | .leaf, n + 1, _ => by simp only [iter, hl, Option.bind_some, Sum.elim_inr, tGet, Option.elim_none]
  | .node k v l h c d, n + 1, hm => by
    simp only [toL, List.length_append, List.length_cons] at hm
    have a := loop_get hl hn l n (by omega)
    have b := loop_get hl hn h n (by omega)
    simp only [iter, hn, Option.bind_some, tGet]
    cases lt x k with
    | true => simp only [cond_true, Sum.elim_inl, a]
    | false =>
      cases lt k x with
      | true => simp only [cond_true, cond_false, Sum.elim_inl, b]
      | false => simp only [cond_false, Sum.elim_inr, Option.elim_some]
/-- a loop that goes down to a place -/
theorem loop_at {Z R : Type} {step : Int × Tree K V × Z → Option ((Int × Tree K V × Z) ⊕ R)} {f : KV K V → R}
    (hn : ∀ i k v l h n d z, Avl (.node k v l h n d) → 0 ≤ i → i < n → n ≤ 1000000000000 → step (i, .node k v l h n d, z) = some (bif decide (i < cnt l) then .inl (i, l, z) else bif decide (cnt l < i) then .inl (i - cnt l - 1, h, z) else .inr (f (k, v, ())))) : ∀ (t : Tree K V) (n : Nat) (i : Int) (z : Z), (toL t).length < n → Avl t → 0 ≤ i → i < cnt t → cnt t ≤ 1000000000000 → iter step n (i, t, z) = (tAt i t).map f
  | _, 0, _, _, h, _, _, _, _ => by omega
  | .leaf, n + 1, i, _, _, _, h0, h1, _ => by simp only [cnt_leaf] at h1; omega
  | .node k v l h c d, n + 1, i, z, hm, hg, h0, h1, ha => by
    have e := hn i k v l h c d z hg h0 h1 ha
    obtain ⟨g1, g2, g3, _⟩ := hg
    have s1 := g1.sm.1
    have s2 := g2.sm.1
    simp only [cnt_node] at h1 ha
    simp only [toL, List.length_append, List.length_cons] at hm
    simp only [iter, e, Option.bind_some, tAt]
    by_cases c1 : i < cnt l
    · have b := loop_at hn l n i z (by omega) g1 h0 c1 (by omega)
      simp only [c1, decide_true, cond_true, Sum.elim_inl, b]
    · by_cases c2 : cnt l < i
      · have b := loop_at hn h n (i - cnt l - 1) z (by omega) g2 (by omega) (by omega) (by omega)
        simp only [c1, c2, decide_true, decide_false, cond_true, cond_false, Sum.elim_inl, b]
      · simp only [c1, c2, decide_false, cond_false, Sum.elim_inr, Option.map_some]
theorem maxI_max (a b : Int) : maxI a b = max a b := by
  unfold maxI
  first | rfl | (by_cases h : a < b <;> simp [h] <;> omega)
/-- a map's tree of at most so many -/
def MapI (lt : K → K → Bool) (t : Tree K V) (n : Nat) : Prop := Avl t ∧ Sorted lt (toL t) ∧ (toL t).length ≤ n
theorem MapI.leaf : MapI lt (.leaf : Tree K V) 0 := ⟨trivial, List.Pairwise.nil, Nat.le_refl _⟩
theorem MapI.put (L : LO lt) {t : Tree K V} {n : Nat} {p : KV K V} (h : MapI lt t n) : MapI lt (tPut lt p t) (n + 1) :=
  ⟨h.1.put.1, by rw [toL_put L h.2.1]; exact h.2.1.put L, Nat.le_trans (tPut_len t) (Nat.succ_le_succ h.2.2)⟩
theorem MapI.del (L : LO lt) {t : Tree K V} {n : Nat} {x : K} (h : MapI lt t n) : MapI lt (tDel lt x t) n :=
  ⟨h.1.del.1, by rw [toL_del L h.1 h.2.1]; exact h.2.1.del, Nat.le_trans (tDel_len h.1) h.2.2⟩
theorem MapI.mono {t : Tree K V} {n m : Nat} (h : MapI lt t n) (hn : n ≤ m) : MapI lt t m := ⟨h.1, h.2.1, Nat.le_trans h.2.2 hn⟩
/-- sorted lists of the same pairs are the same -/
theorem Sorted.ext (L : LO lt) : ∀ {a b : List (KV K V)}, Sorted lt a → Sorted lt b → (∀ e, e ∈ a ↔ e ∈ b) → a = b
  | [], [], _, _, _ => rfl
  | [], y :: b, _, _, h => absurd ((h y).2 (List.mem_cons_self ..)) (List.not_mem_nil)
  | x :: a, [], _, _, h => absurd ((h x).1 (List.mem_cons_self ..)) (List.not_mem_nil)
  | x :: a, y :: b, ha, hb, h => by
    obtain ⟨a1, a2⟩ := List.pairwise_cons.1 ha
    obtain ⟨b1, b2⟩ := List.pairwise_cons.1 hb
    have e : x = y := by
      rcases List.mem_cons.1 ((h x).1 (List.mem_cons_self ..)) with e | hx
      · exact e
      · rcases List.mem_cons.1 ((h y).2 (List.mem_cons_self ..)) with e | hy
        · exact e.symm
        · have := L.asymm (a1 y hy)
          rw [b1 x hx] at this
          exact Bool.noConfusion this
    subst e
    congr 1
    refine Sorted.ext L a2 b2 fun e => ⟨fun he => ?_, fun he => ?_⟩
    · rcases List.mem_cons.1 ((h e).1 (List.mem_cons_of_mem _ he)) with rfl | h1
      · have := a1 e he; rw [L.irr] at this; exact Bool.noConfusion this
      · exact h1
    · rcases List.mem_cons.1 ((h e).2 (List.mem_cons_of_mem _ he)) with rfl | h1
      · have := b1 e he; rw [L.irr] at this; exact Bool.noConfusion this
      · exact h1
theorem Sorted.at (L : LO lt) {l : List (KV K V)} (hs : Sorted lt l) {i j : Nat} {p q : KV K V} (hi : l[i]? = some p) (hj : l[j]? = some q) : lt p.1 q.1 = decide (i < j) := by
  obtain ⟨h1, rfl⟩ := List.getElem?_eq_some_iff.1 hi
  obtain ⟨h2, rfl⟩ := List.getElem?_eq_some_iff.1 hj
  have key := List.pairwise_iff_getElem.1 hs
  by_cases h : i < j
  · rw [decide_eq_true h]; exact key i j h1 h2 h
  · rw [decide_eq_false h]
    by_cases h' : i = j
    · subst h'; exact L.irr _
    · exact L.asymm (key j i h2 h1 (by omega))
theorem delL_at (L : LO lt) {p : KV K V} : ∀ {l : List (KV K V)} {i : Nat}, Sorted lt l → l[i]? = some p → delL lt p.1 l = l.take i ++ l.drop (i + 1)
  | [], _, _, h => by simp at h
  | a :: r, 0, hs, h => by
    obtain ⟨a1, a2⟩ := List.pairwise_cons.1 hs
    obtain rfl : a = p := by simpa using h
    unfold delL
    rw [List.filter_cons, L.irr, Bool.or_self, if_neg (by decide)]
    exact fil_all fun e he => by rw [a1 e he, Bool.or_true]
  | a :: r, i + 1, hs, h => by
    obtain ⟨a1, a2⟩ := List.pairwise_cons.1 hs
    have h : r[i]? = some p := by simpa using h
    have hp := a1 p (List.mem_of_getElem? h)
    have ih := delL_at L a2 h
    unfold delL at ih ⊢
    rw [List.filter_cons, hp, Bool.true_or, if_pos rfl, ih]
    rfl
theorem putL_end {p : KV K V} (L : LO lt) {l : List (KV K V)} (h : ∀ e ∈ l, lt e.1 p.1 = true) : putL lt p l = l ++ [p] := by
  unfold putL
  have e1 : l.filter (fun e => lt e.1 p.1) = l := fil_all h
  have e2 : l.filter (fun e => lt p.1 e.1) = [] := fil_none fun e he => L.asymm (h e he)
  rw [e1, e2]
theorem getL_at (L : LO lt) {p : KV K V} {l : List (KV K V)} {i : Nat} (h : l[i]? = some p) : (getL lt p.1 l).isSome = true := (getL_some L).2 ⟨p, List.mem_of_getElem? h, rfl⟩
end
theorem LO.str : LO strlt := ⟨strlt_irrefl, strlt_trans, strlt_tri⟩
def ltI (a b : Int) : Bool := decide (a < b)
theorem LO.int : LO ltI := ⟨fun a => by simp [ltI], fun h h' => by simp only [ltI, decide_eq_true_eq] at *; omega, fun a b => by simp only [ltI, decide_eq_true_eq]; omega⟩
theorem idxN_nat {α : Type} (l : List α) (i : Nat) (h : i < l.length) : idxN l (i : Int) = some i := by
  unfold idxN
  have : (0 : Int) ≤ (i : Int) ∧ (i : Int) < (l.length : Int) := ⟨by omega, by omega⟩
  simp only [this, and_self, decide_true, cond_true, Int.toNat_natCast]
end Go.Sx
