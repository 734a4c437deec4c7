/-
  Sx: a symbolic executor for the model, proved sound, part 3 of 3: an AI agent's own work.
-/
import Derived.Test.YtgfdlapadghggaaGreatSxQ
import Derived.ProofKit
import Derived.JoinedCond
import Derived.SizedLaws
namespace Go.Sx
section
variable (T : Own → Own → Prop) (fl : Nat → Nat) (own : Nat → Option Own) (w : World)
def RowX (v : Value) (t : Own) (pub : Bool) (e : Ty) (l : List e.den) : Prop :=
  (v = .slice none 0 0 ∧ l = []) ∨ ∃ o, T o t ∧ RowV fl own w v o pub e l
def Fld1 (t : Own) (pb : Bool) : Bool → (a : Ty) → List Value → a.den → Prop
  | true, .slice e, c, x => ∃ v, c = [v] ∧ RowX T fl own w v t pb e x
  | true, _, _, _ => False
  | false, a, c, x => CRep (view fl w) a c x
def FldsX (rid : Nat) : List Bool → (t : Ty) → List Value → t.den → Nat → Prop
  | os, .pair a b, cs, x, i => ∃ c1 c2, cs = c1 ++ c2 ∧ Fld1 T fl own w (.row (rid + i)) (pbO os (cntT b + 1)) (hdB os) a c1 x.1 ∧ FldsX rid (tlB os) b c2 x.2 (i + 1)
  | _, .unit, cs, _, _ => cs = []
  | _, _, _, _, _ => False
def ObjX (t : Own) (rid : Nat) (os : List Bool) (ty : Ty) (v : Value) (x : (lay ty).den) : Prop :=
  ∃ b cs o, T o t ∧ v = .pointer (some ⟨b, 0, none⟩) ∧ Blk w b cs ∧ own b = some o ∧ fl b = 0 ∧ FldsX T fl own w rid os (lay ty) cs x 0
/-- a variable that holds a pointer -/
def BoxX (t : Own) (v p : Value) : Prop := ∃ b o, T o t ∧ v = .pointer (some ⟨b, 0, none⟩) ∧ Blk w b [p] ∧ own b = some o ∧ fl b = 0
def ArgsX : Nat → (ps : List PS) → List Value → (argTy ps).den → Prop
  | _, [], vs, _ => vs = []
  | i, .pure t :: r, v :: vs, x => VRep (view fl w) t v x.1 ∧ ArgsX (i + 1) r vs x.2
  | i, .obj t os :: r, v :: vs, x => ObjX T fl own w (.site i) (i * 20) os t v x.1 ∧ ArgsX (i + 1) r vs x.2
  | i, .nilp :: r, v :: vs, x => v = .pointer none ∧ ArgsX (i + 1) r vs x
  | i, .fnc f n :: r, v :: vs, x => (v = .func (.func f) #[] (vs.take n).toArray ∧ n ≤ vs.length) ∧ ArgsX (i + 1) r vs x
  | i, .box :: r, v :: vs, x => (∃ p rest, vs = p :: rest ∧ BoxX T fl own w (.site i) v p) ∧ ArgsX (i + 1) r vs x
  | _, _, _, _ => False
def Res1 (base : Nat) : (r : RS) → Value → r.ty.den → Prop
  | .pure t, v, x => VRep (view fl w) t v x
  | .own pub e, v, l => RowX T fl own w v (.row base) pub e l
  | .newobj t os, v, x => ObjX T fl own w (.site base) (base + 1) os t v x
  | .maybe t os, v, x => (x.1 = false ∧ v = .pointer none) ∨ (x.1 = true ∧ ObjX T fl own w (.site base) (base + 1) os t v x.2)
def RessX : Nat → (rs : List RS) → (ps : List PS) → List Value → (resTy rs ps).den → ((objsTy ps).den → Prop) → Prop
  | _, [], _, vs, x, k => vs = [] ∧ k x
  | i, r :: rs, ps, v :: vs, x, k => Res1 T fl own w (1 + 20 * i) r v x.1 ∧ RessX (i + 1) rs ps vs x.2 k
  | _, _, _, _, _, _ => False
def ObjsX : Nat → (ps : List PS) → List Value → (objsTy ps).den → Prop
  | _, [], _, _ => True
  | j, .obj t os :: r, v :: vs, x => ObjX T fl own w (.site (81 + 20 * j)) (80 + 20 * j) os t v x.1 ∧ ObjsX (j + 1) r vs x.2
  | j, .pure _ :: r, _ :: vs, x => ObjsX j r vs x
  | j, .nilp :: r, _ :: vs, x => ObjsX j r vs x
  | j, .fnc _ _ :: r, _ :: vs, x => ObjsX j r vs x
  | j, .box :: r, v :: vs, x => (∃ p rest, vs = p :: rest ∧ BoxX T fl own w (.site (81 + 20 * j)) v p) ∧ ObjsX (j + 1) r vs x
  | _, _, _, _ => False
end
section
variable {T T' : Own → Own → Prop} {fl fl' : Nat → Nat} {own own' : Nat → Option Own} {w : World}
/-- labels changed, more told -/
structure Relab (T T' : Own → Own → Prop) (fl fl' : Nat → Nat) (own own' : Nat → Option Own) (w : World) : Prop where
  le : (view fl w).le (view fl' w)
  lab : ∀ o t, T o t → ∃ o', T' o' t ∧ ∀ b, own b = some o → own' b = some o' ∧ fl' b = fl b
theorem Relab.same (h : ∀ o t, T o t → ∃ o', T' o' t ∧ ∀ b, own b = some o → own' b = some o') : Relab T T' fl fl own own' w :=
  ⟨IV.le.refl _, fun o t ht => let ⟨o', h1, h2⟩ := h o t ht; ⟨o', h1, fun b hb => ⟨h2 b hb, rfl⟩⟩⟩
theorem RowV.relabel' {v : Value} {o o' : Own} {pub : Bool} {e : Ty} {l : List e.den} (h : RowV fl own w v o pub e l) (hle : (view fl w).le (view fl' w)) (ho : ∀ b, own b = some o → own' b = some o' ∧ fl' b = fl b) : RowV fl' own' w v o' pub e l := by
  rcases h with h | ⟨b, cap, cs, h1, h2, h3, h4, h5, h6, h7⟩
  · exact .inl h
  · exact .inr ⟨b, cap, cs, h1, h2, h3, h4, (ho b h5).1, (ho b h5).2.trans h6, h7.mono hle⟩
theorem RowX.relab (h : Relab T T' fl fl' own own' w) {v : Value} {t : Own} {pub : Bool} {e : Ty} {l : List e.den} (hr : RowX T fl own w v t pub e l) : RowX T' fl' own' w v t pub e l := by
  rcases hr with hr | ⟨o, h1, h2⟩
  · exact .inl hr
  · obtain ⟨o', h3, h4⟩ := h.lab o t h1
    exact .inr ⟨o', h3, h2.relabel' h.le h4⟩
theorem Fld1.relab (h : Relab T T' fl fl' own own' w) {t : Own} {pb o : Bool} {a : Ty} {c : List Value} {x : a.den} (hr : Fld1 T fl own w t pb o a c x) : Fld1 T' fl' own' w t pb o a c x := by
  cases o with
  | false => cases a <;> exact CRep.mono h.le hr
  | true =>
    cases a <;> first | exact hr.elim | skip
    obtain ⟨v, h1, h2⟩ := hr
    exact ⟨v, h1, h2.relab h⟩
theorem FldsX.relab (h : Relab T T' fl fl' own own' w) {rid : Nat} : ∀ {t : Ty} {os : List Bool} {cs : List Value} {x : t.den} {i : Nat}, FldsX T fl own w rid os t cs x i → FldsX T' fl' own' w rid os t cs x i := by
  intro t
  induction t with
  | pair A B _ hB => rintro os cs x i ⟨c1, c2, h1, h2, h3⟩; exact ⟨c1, c2, h1, h2.relab h, hB h3⟩
  | unit => intro os cs x i h; exact h
  | _ => intro os cs x i h; exact h.elim
theorem ObjX.relab (h : Relab T T' fl fl' own own' w) {t : Own} {rid : Nat} {os : List Bool} {ty : Ty} {v : Value} {x : (lay ty).den} (hr : ObjX T fl own w t rid os ty v x) : ObjX T' fl' own' w t rid os ty v x := by
  obtain ⟨b, cs, o, h1, h2, h3, h4, h5, h7⟩ := hr
  obtain ⟨o', h8, h9⟩ := h.lab o t h1
  exact ⟨b, cs, o', h8, h2, h3, (h9 b h4).1, (h9 b h4).2.trans h5, h7.relab h⟩
theorem BoxX.relab (h : Relab T T' fl fl' own own' w) {t : Own} {v p : Value} (hr : BoxX T fl own w t v p) : BoxX T' fl' own' w t v p := by
  obtain ⟨b, o, h1, h2, h3, h4, h5⟩ := hr
  obtain ⟨o', h8, h9⟩ := h.lab o t h1
  exact ⟨b, o', h8, h2, h3, (h9 b h4).1, (h9 b h4).2.trans h5⟩
theorem ArgsX.relab (h : Relab T T' fl fl' own own' w) : ∀ {ps : List PS} {i : Nat} {vs : List Value} {x : (argTy ps).den}, ArgsX T fl own w i ps vs x → ArgsX T' fl' own' w i ps vs x
  | [], _, _, _, hr => hr
  | .pure t :: r, i, v :: vs, x, ⟨h1, h2⟩ => ⟨h1.mono h.le, ArgsX.relab h h2⟩
  | .obj t os :: r, i, v :: vs, x, ⟨h1, h2⟩ => ⟨h1.relab h, ArgsX.relab h h2⟩
  | .nilp :: r, i, v :: vs, x, ⟨h1, h2⟩ => ⟨h1, ArgsX.relab h h2⟩
  | .fnc _ _ :: r, i, v :: vs, x, ⟨h1, h2⟩ => ⟨h1, ArgsX.relab h h2⟩
  | .box :: r, i, v :: vs, x, ⟨⟨p, rest, h1, h1'⟩, h2⟩ => ⟨⟨p, rest, h1, h1'.relab h⟩, ArgsX.relab h h2⟩
  | .box :: _, _, [], _, hr => hr.elim
  | .fnc _ _ :: _, _, [], _, hr => hr.elim
  | .pure _ :: _, _, [], _, hr => hr.elim
  | .obj _ _ :: _, _, [], _, hr => hr.elim
  | .nilp :: _, _, [], _, hr => hr.elim
theorem Res1.relab (h : Relab T T' fl fl' own own' w) {base : Nat} {r : RS} {v : Value} {x : r.ty.den} (hr : Res1 T fl own w base r v x) : Res1 T' fl' own' w base r v x := by
  cases r with
  | pure t => exact VRep.mono h.le hr
  | own pub e => exact RowX.relab h hr
  | newobj t os => exact ObjX.relab h hr
  | maybe t os => exact hr.imp id fun hr => ⟨hr.1, ObjX.relab h hr.2⟩
theorem RessX.relab (h : Relab T T' fl fl' own own' w) {ps : List PS} {k k' : (objsTy ps).den → Prop} (hk : ∀ x, k x → k' x) : ∀ {rs : List RS} {i : Nat} {vs : List Value} {x : (resTy rs ps).den}, RessX T fl own w i rs ps vs x k → RessX T' fl' own' w i rs ps vs x k'
  | [], _, _, _, ⟨h1, h2⟩ => ⟨h1, hk _ h2⟩
  | r :: rs, i, v :: vs, x, ⟨h1, h2⟩ => ⟨h1.relab h, RessX.relab h hk h2⟩
  | _ :: _, _, [], _, hr => hr.elim
theorem ObjsX.relab (h : Relab T T' fl fl' own own' w) : ∀ {ps : List PS} {j : Nat} {vs : List Value} {x : (objsTy ps).den}, ObjsX T fl own w j ps vs x → ObjsX T' fl' own' w j ps vs x
  | [], _, _, _, _ => trivial
  | .pure _ :: r, j, _ :: vs, x, hr => ObjsX.relab (ps := r) h hr
  | .nilp :: r, j, _ :: vs, x, hr => ObjsX.relab (ps := r) h hr
  | .fnc _ _ :: r, j, _ :: vs, x, hr => ObjsX.relab (ps := r) h hr
  | .box :: r, j, v :: vs, x, ⟨⟨p, rest, h1, h1'⟩, h2⟩ => ⟨⟨p, rest, h1, h1'.relab h⟩, ObjsX.relab (ps := r) h h2⟩
  | .box :: _, _, [], _, hr => hr.elim
  | .fnc _ _ :: _, _, [], _, hr => hr.elim
  | .obj t os :: r, j, v :: vs, x, ⟨h1, h2⟩ => ⟨h1.relab h, ObjsX.relab h h2⟩
  | .pure _ :: _, _, [], _, hr => hr.elim
  | .obj _ _ :: _, _, [], _, hr => hr.elim
  | .nilp :: _, _, [], _, hr => hr.elim
theorem RowX.mono (h : ∀ o t, T o t → T' o t) {v : Value} {t : Own} {pub : Bool} {e : Ty} {l : List e.den} (hr : RowX T fl own w v t pub e l) : RowX T' fl own w v t pub e l :=
  hr.relab (Relab.same fun o t ht => ⟨o, h o t ht, fun _ hb => hb⟩)

/-- the values that a call hands over: captured ones lie in their function -/
def capN : PS → Nat
  | .fnc _ n => n
  | .box => 1
  | _ => 0
def unf : Nat → List PS → List Value → List Value
  | _, [], _ => []
  | _, _ :: _, [] => []
  | 0, p :: r, v :: vs => v :: unf (capN p) r vs
  | c + 1, _ :: r, _ :: vs => unf c r vs
def retV : List Value → Value
  | [v] => v
  | vs => .tuple vs.toArray
/-- a contract -/
structure FOk (P : Program) (f : FuncId) (sg : Sig) : Prop where
  few : sg.rs.length ≤ 4
  code : ∃ fn, P.funcs[f]? = some fn ∧ fn.body.isNone = false ∧ (fn.name == "runtime.NumGoroutine") = false
  call : ∀ {w : World} {fl : Nat → Nat} {own : Nat → Option Own} {vs : List Value} {x : (argTy sg.ps).den} {y : (resTy sg.rs sg.ps).den}, (∀ b, own b ≠ none → b < w.heap.size) → ArgsX Eq fl own w 0 sg.ps vs x → sg.F x = some y →
    Calls P f (unf 0 sg.ps vs).toArray w fun e w' => ∃ rs fl' own', e = .returned (retV rs) ∧ Ext w (fun b => own b ≠ none) w' ∧ (∀ b, b < w.heap.size → own b = none → fl' b = fl b) ∧ (view fl w).le (view fl' w') ∧
      (∀ b, own' b ≠ none → b < w'.heap.size ∧ (w.heap.size ≤ b ∨ own b ≠ none)) ∧ RessX Eq fl' own' w' 0 sg.rs sg.ps rs y fun z => ObjsX Eq fl' own' w' 0 sg.ps vs z
end

section
variable {C : Ctx} {g : Gh} {S : Nat → SV} {H : HLoc → SV} {a : Act} {w : World}
theorem hdB_get {os : List Bool} : hdB os = true ↔ os[0]? = some true := by cases os <;> simp [hdB]
theorem tlB_get {os : List Bool} (k : Nat) : (tlB os)[k]? = os[k + 1]? := by cases os <;> simp [tlB]
theorem ownDs_ok {mk : Nat → HLoc} {rid : Nat} : ∀ {os : List Bool} {i : Nat} {fp fp' d : List HLoc}, (ownDs mk os i).run H fp = some (d, fp') →
    ∃ m : List (Own × Own), d = m.map (fun p => locO p.1) ∧ ∀ k, os[k]? = some true → (∃ r, H (mk (i + k)) = .hdr r ∧ (Own.row r, Own.row (rid + (i + k))) ∈ m) ∨ H (mk (i + k)) = .nils
  | [], i, fp, fp', d, h => by
    obtain ⟨e, _⟩ := ret_some h
    subst e
    exact ⟨[], rfl, fun k hk => by simp at hk⟩
  | o :: os, i, fp, fp', d, h => by
    simp only [ownDs] at h
    have shift : ∀ {d' : List HLoc} {fp1 fp2 : List HLoc}, (ownDs mk os (i + 1)).run H fp1 = some (d', fp2) → ∃ m : List (Own × Own), d' = m.map (fun p => locO p.1) ∧ ∀ k, os[k]? = some true →
        (∃ r, H (mk (i + (k + 1))) = .hdr r ∧ (Own.row r, Own.row (rid + (i + (k + 1)))) ∈ m) ∨ H (mk (i + (k + 1))) = .nils := by
      intro d' fp1 fp2 h
      obtain ⟨m, h1, h2⟩ := ownDs_ok h
      refine ⟨m, h1, fun k hk => ?_⟩
      have := h2 k hk
      rwa [show i + 1 + k = i + (k + 1) from by omega] at this
    cases o with
    | false =>
      obtain ⟨m, h1, h2⟩ := shift h
      refine ⟨m, h1, fun k hk => ?_⟩
      cases k with
      | zero => simp at hk
      | succ k => exact h2 k (by simpa using hk)
    | true =>
      simp only [cond, Rd.run] at h
      split at h
      · rename_i r hr
        obtain ⟨d', fp1, k1, h⟩ := bind_some h
        obtain ⟨e, _⟩ := ret_some h
        subst e
        obtain ⟨m, h1, h2⟩ := shift k1
        refine ⟨(.row r, .row (rid + i)) :: m, by simp [h1, locO], fun k hk => ?_⟩
        cases k with
        | zero => exact .inl ⟨r, by simpa using hr, by simp⟩
        | succ k =>
          rcases h2 k (by simpa using hk) with ⟨r', q1, q2⟩ | q
          · exact .inl ⟨r', q1, by simp [q2]⟩
          · exact .inr q
      · rename_i hr
        obtain ⟨m, h1, h2⟩ := shift h
        refine ⟨m, h1, fun k hk => ?_⟩
        cases k with
        | zero => exact .inr (by simpa using hr)
        | succ k => exact h2 k (by simpa using hk)
      · exact (fail_some h).elim
theorem ownDs_live (hs : SimG C g S H a w) {n : Nat} : ∀ {os : List Bool} {i : Nat} {fp fp' d : List HLoc}, (ownDs (.fld n) os i).run H fp = some (d, fp') → ∀ l ∈ d, H l ≠ .bot
  | [], i, fp, fp', d, h => by
    obtain ⟨e, _⟩ := ret_some h
    subst e
    simp
  | o :: os, i, fp, fp', d, h => by
    simp only [ownDs] at h
    cases o with
    | false => exact ownDs_live hs (show (ownDs (.fld n) os (i + 1)).run H fp = _ from h)
    | true =>
      simp only [cond, Rd.run] at h
      split at h
      · rename_i r hr
        obtain ⟨d', fp1, k1, h⟩ := bind_some h
        obtain ⟨e, _⟩ := ret_some h
        subst e
        intro l hl
        rcases List.mem_cons.1 hl with rfl | hl
        · have := hs.refF n i
          rw [hr] at this
          exact this
        · exact ownDs_live hs k1 l hl
      · exact ownDs_live hs h
      · exact (fail_some h).elim
theorem pbO_tl {os : List Bool} {n : Nat} : pbO (tlB os) n = pbO os (n + 1) := by cases os <;> rfl
theorem tk_succ {os : List Bool} {n k : Nat} : (os.take (n + 1))[k + 1]? = ((tlB os).take n)[k]? := by
  cases os with
  | nil => simp [tlB]
  | cons b r => simp [tlB]
theorem tk_zero {os : List Bool} {n : Nat} {b : Bool} : (os.take (n + 1))[0]? = some b ↔ os[0]? = some b := by
  cases os <;> simp
theorem tk_get {os : List Bool} {n k : Nat} {b : Bool} (h : (os.take n)[k]? = some b) : os[k]? = some b := by
  rw [List.getElem?_take] at h
  split at h
  · exact h
  · exact absurd h (by simp)
/-- an object's fields, for others -/
theorem gatherX_ok {T : Own → Own → Prop} {s rid : Nat} : ∀ {t : Ty} {os : List Bool} {i : Nat} {fp fp' : List HLoc} {x : t.den} {pubs : HW},
    (gatherO (.fld s) os t i).run H fp = some ((x, pubs), fp') → (∀ k, (os.take (cntT t))[k]? = some true → (∃ r, H (.fld s (i + k)) = .hdr r ∧ T (.row r) (.row (rid + (i + k)))) ∨ H (.fld s (i + k)) = .nils) →
    Pubs H pubs ∧ ∀ {hw : HW} {fl : Nat → Nat} {own : Nat → Option Own} {cs : List Value}, (∀ y ∈ pubs, y ∈ hw) → Pubs H hw → (pbO os (cntT t) = false → ∀ k r, (os.take (cntT t))[k]? = some true → H (.fld s (i + k)) = .hdr r → HLoc.row r ∉ fsts hw) → SimG C { g with fl := fl, own := own } S (puts H hw) a w → FieldsOk (fun j => H (.fld s j)) { g with fl := fl, own := own } (view fl w) t cs i →
      FldsX T fl own w rid os t cs x i := by
  intro t
  induction t with
  | unit =>
    intro os i fp fp' x pubs h1 _
    cases os <;> (obtain ⟨e, _⟩ := ret_some h1; cases e; exact ⟨trivial, fun _ _ _ _ hc => hc⟩)
  | pair A B _ hB =>
    intro os i fp fp' x pubs h1 h2
    simp only [gatherO, Rd.run] at h1
    obtain ⟨⟨p, hw1⟩, fp1, k1, h1⟩ := bind_some h1
    obtain ⟨⟨q, hw2⟩, fp2, k2, h1⟩ := bind_some h1
    obtain ⟨e, _⟩ := ret_some h1
    cases e
    obtain ⟨q1, q2⟩ := hB (os := tlB os) k2 fun k hk => by
      have := h2 (k + 1) (show (os.take (cntT B + 1))[k + 1]? = some true by rw [tk_succ]; exact hk)
      rwa [show i + 1 + k = i + (k + 1) from by omega]
    have rest : ∀ {hw : HW}, (pbO os (cntT B + 1) = false → ∀ k r, (os.take (cntT B + 1))[k]? = some true → H (.fld s (i + k)) = .hdr r → HLoc.row r ∉ fsts hw) → (pbO (tlB os) (cntT B) = false → ∀ k r, ((tlB os).take (cntT B))[k]? = some true → H (.fld s (i + 1 + k)) = .hdr r → HLoc.row r ∉ fsts hw) := fun hk hp k r h3 h4 =>
      hk (by rw [← pbO_tl]; exact hp) (k + 1) r (by rw [tk_succ]; exact h3) (by rwa [show i + (k + 1) = i + 1 + k from by omega])
    -- a field that is told
    have told : (toPV0 A (H (.fld s i))).run H (.fld s i :: fp) = some ((p, hw1), fp1) → (hdB os = true → pbO os (cntT B + 1) = true) → Pubs H (hw1 ++ hw2) ∧ ∀ {hw : HW} {fl : Nat → Nat} {own : Nat → Option Own} {cs : List Value}, (∀ y ∈ hw1 ++ hw2, y ∈ hw) → Pubs H hw → (pbO os (cntT (.pair A B)) = false → ∀ k r, (os.take (cntT (.pair A B)))[k]? = some true → H (.fld s (i + k)) = .hdr r → HLoc.row r ∉ fsts hw) → SimG C { g with fl := fl, own := own } S (puts H hw) a w → FieldsOk (fun j => H (.fld s j)) { g with fl := fl, own := own } (view fl w) (.pair A B) cs i →
      FldsX T fl own w rid os (.pair A B) cs (p, q) i := by
      intro k1 hpb
      obtain ⟨p1, p2⟩ := toPV0_ok k1
      refine ⟨Pubs.append.2 ⟨p1, q1⟩, fun {hw fl own cs} hsub hp hkp hs hc => ?_⟩
      obtain ⟨c1, c2, rfl, hl, ho, hsr, hr⟩ := hc
      refine ⟨c1, c2, rfl, ?_, q2 (fun y hy => hsub y (List.mem_append_right _ hy)) hp (rest hkp) hs hr⟩
      have hsr : SR { g with fl := fl, own := own } (view fl w) (H (.fld s i)) (mkV A c1) := hsr
      have hV := p2 _ _ _ ((hs.rowsRd hp).sub fun y hy => hsub y (List.mem_append_left _ hy)) hsr
      have hC := hV.cells
      rw [cells_mkV hl ho] at hC
      cases hb : hdB os with
      | false =>
        have hC : CRep (view fl w) A c1 p := by simpa using hC
        cases A <;> exact hC
      | true =>
        rw [hpb hb]
        have h0 := h2 0 (tk_zero.2 (hdB_get.1 hb))
        rw [Nat.add_zero] at h0
        rcases h0 with ⟨r, hr', hT⟩ | hn
        · rw [hr'] at k1 hsr
          simp only [toPV0, Rd.run] at k1
          split at k1
          · rename_i pb e l hrow
            obtain ⟨y, fp3, k3, k4⟩ := bind_some k1
            obtain ⟨k3, _⟩ := ofO_run k3
            obtain ⟨e1, _⟩ := ret_some k4
            cases e1
            obtain ⟨he, rfl⟩ := castTo_eq k3
            subst he
            have hrow' : puts H hw (.row r) = .row true e l := puts_pub hp (by
              cases pb with
              | true => exact .inl hrow
              | false => exact .inr (hsub _ (by simp)))
            have hrow2 := hs.rows r true e l hrow'
            have hval : mkV (.slice e) c1 = g.hd r := hsr
            have hc1 := mkV_oneC (t := .slice e) rfl hl
            refine ⟨mkV (.slice e) c1, hc1, .inr ⟨.row r, hT, ?_⟩⟩
            rw [hval]; exact hrow2
          · exact (fail_some k1).elim
        · rw [hn] at k1 hsr
          cases A <;> simp only [toPV0] at k1 <;> first | exact (fail_some k1).elim | skip
          obtain ⟨e1, _⟩ := ret_some k1
          cases e1
          exact ⟨mkV (.slice _) c1, mkV_oneC (t := .slice _) rfl hl, .inl ⟨hsr, rfl⟩⟩
    cases hb : hdB os with
    | false =>
      rw [hb] at k1
      exact told k1 fun h => by rw [hb] at h; exact Bool.noConfusion h
    | true =>
      rw [hb] at k1
      cases hpb : pbO os (cntT B + 1) with
      | true =>
        rw [hpb] at k1
        exact told k1 fun _ => hpb
      | false =>
        rw [hpb] at k1
        have k1 : (privV A (H (.fld s i))).run H (.fld s i :: fp) = some ((p, hw1), fp1) := k1
        have h0 := h2 0 (tk_zero.2 (hdB_get.1 hb))
        rw [Nat.add_zero] at h0
        rcases h0 with ⟨r, hr', hT⟩ | hn
        · rw [hr'] at k1
          simp only [privV, Rd.run] at k1
          split at k1
          · rename_i pb e l hrow
            cases pb with
            | true => exact (fail_some k1).elim
            | false =>
              obtain ⟨y, fp3, k3, k4⟩ := bind_some k1
              obtain ⟨k3, _⟩ := ofO_run k3
              obtain ⟨e1, _⟩ := ret_some k4
              cases e1
              obtain ⟨he, rfl⟩ := castTo_eq k3
              subst he
              refine ⟨q1, fun {hw fl own cs} hsub hp hkp hs hc => ?_⟩
              obtain ⟨c1, c2, rfl, hl, ho, hsr, hr⟩ := hc
              refine ⟨c1, c2, rfl, ?_, q2 (fun y hy => hsub y hy) hp (rest hkp) hs hr⟩
              have hsr : SR { g with fl := fl, own := own } (view fl w) (H (.fld s i)) (mkV (.slice e) c1) := hsr
              rw [hr'] at hsr
              rw [hpb, hb]
              have hnot : HLoc.row r ∉ fsts hw := hkp hpb 0 r (tk_zero.2 (hdB_get.1 hb)) (by rw [Nat.add_zero]; exact hr')
              have hrow' : puts H hw (.row r) = .row false e l := by rw [puts_ne hnot, hrow]
              have hrow2 := hs.rows r false e l hrow'
              have hval : mkV (.slice e) c1 = g.hd r := hsr
              have hc1 := mkV_oneC (t := .slice e) rfl hl
              refine ⟨mkV (.slice e) c1, hc1, .inr ⟨.row r, hT, ?_⟩⟩
              rw [hval]; exact hrow2
          · exact (fail_some k1).elim
        · rw [hn] at k1
          cases A <;> simp only [privV] at k1 <;> first | exact (fail_some k1).elim | skip
          obtain ⟨e1, _⟩ := ret_some k1
          cases e1
          refine ⟨q1, fun {hw fl own cs} hsub hp hkp hs hc => ?_⟩
          obtain ⟨c1, c2, rfl, hl, ho, hsr, hr⟩ := hc
          refine ⟨c1, c2, rfl, ?_, q2 (fun y hy => hsub y hy) hp (rest hkp) hs hr⟩
          rw [hb]
          have hsr : SR { g with fl := fl, own := own } (view fl w) (H (.fld s i)) (mkV (.slice _) c1) := hsr
          rw [hn] at hsr
          exact ⟨mkV (.slice _) c1, mkV_oneC (t := .slice _) rfl hl, .inl ⟨hsr, rfl⟩⟩
  | _ => intro os i fp fp' x pubs h1; cases os <;> exact (fail_some h1).elim

theorem collA_nil : collA [] [] = .ret ((), [], []) := rfl
theorem collA_nil' {v : SV} {vs : List SV} : collA [] (v :: vs) = .fail := rfl
theorem collA_pure {t : Ty} {r : List PS} {v : SV} {vs : List SV} : collA (.pure t :: r) (v :: vs) = (toPV t v).bind fun p => (collA r vs).bind fun q => .ret ((p.1, q.1), p.2 ++ q.2.1, q.2.2) := rfl
theorem collA_cons {p : PS} {r : List PS} : collA (p :: r) [] = .fail := by cases p <;> rfl
theorem collA_obj {t : Ty} {own : List Bool} {r : List PS} {v : SV} {vs : List SV} : collA (.obj t own :: r) (v :: vs) = match v with
      | .adr s off => cond (Nat.beq off 0) (.get (.site s) fun w => match w with
        | .obj t' => cond (t'.beq t) ((gatherO (.fld s) own (lay t) 0).bind fun p => (ownDs (.fld s) (own.take (cntT (lay t))) 0).bind fun d => (collA r vs).bind fun q => .ret ((p.1, q.1), p.2 ++ q.2.1, HLoc.site s :: d ++ q.2.2)) .fail
        | _ => .fail) .fail
      | _ => .fail := rfl
theorem collA_nilp {r : List PS} {v : SV} {vs : List SV} : collA (.nilp :: r) (v :: vs) = match v with
      | .nilp => collA r vs
      | _ => .fail := rfl
theorem collA_fnc {f : FuncId} {n : Nat} {r : List PS} {v : SV} {vs : List SV} : collA (.fnc f n :: r) (v :: vs) = match v with
      | .fn g _ m => cond (cond (Nat.beq f g) (Nat.beq n m) false) (collA r vs) .fail
      | _ => .fail := rfl
theorem collA_box {r : List PS} {v : SV} {vs : List SV} : collA (.box :: r) (v :: vs) = match v with
      | .adr s off => cond (Nat.beq off 0) (.get (.site s) fun w => match w with
        | .obj t' => cond (t'.beq ptrTy) (.get (.fld s 0) fun p => match p, vs with
          | .adr b o, .adr b' o' :: _ => cond (cond (Nat.beq b b') (Nat.beq o o') false) ((collA r vs).bind fun q => .ret (q.1, q.2.1, HLoc.site s :: q.2.2)) .fail
          | _, _ => .fail) .fail
        | _ => .fail) .fail
      | _ => .fail := rfl
theorem lay_agg {t : Ty} (h : t.agg = true) : lay t = t := by cases t <;> simp_all [Ty.agg, lay]
theorem lay_one {t : Ty} (h : t.agg = false) : lay t = .pair t .unit := by cases t <;> simp_all [Ty.agg, lay]
theorem objCells_lay {F : Nat → SV} {g : Gh} {iv : IV} {t : Ty} {cs : List Value} : ObjCells F g iv t cs ↔ FieldsOk F g iv (lay t) cs 0 := by
  unfold ObjCells
  cases h : t.agg with
  | true => rw [lay_agg h]; exact Iff.rfl
  | false =>
    rw [lay_one h]
    constructor
    · rintro ⟨c, rfl, h2, h3⟩
      exact ⟨[c], [], rfl, by rw [size_one h]; rfl, by simpa using h2, by simpa [mkV, h] using h3, rfl⟩
    · rintro ⟨c1, c2, rfl, h2, h3, h4, h5⟩
      rw [size_one h] at h2
      have h5 : c2 = [] := h5
      subst h5
      match c1, h2 with
      | [c], _ => exact ⟨c, rfl, h3 c (by simp), by simpa [mkV, h] using h4⟩
/-- captured values lie behind their functions -/
def CapOk : List SV → List Value → Prop
  | .fn f _ n :: svs, v :: vs => (v = .func (.func f) #[] (vs.take n).toArray ∧ n ≤ vs.length) ∧ CapOk svs vs
  | _ :: svs, _ :: vs => CapOk svs vs
  | _, _ => True
theorem CapOk.tail {s : SV} {svs : List SV} {v : Value} {vs : List Value} (h : CapOk (s :: svs) (v :: vs)) : CapOk svs vs := by
  cases s <;> first | exact h.2 | exact h
/-- the rows of an object's owned slices -/
def rowsL (H : HLoc → SV) (mk : Nat → HLoc) : List Bool → Nat → List HLoc
  | [], _ => []
  | o :: os, i => cond o (match H (mk i) with
    | .hdr r => .row r :: rowsL H mk os (i + 1)
    | _ => rowsL H mk os (i + 1)) (rowsL H mk os (i + 1))
def keepL (H : HLoc → SV) : List PS → List SV → List HLoc
  | .obj t own :: r, .adr s _ :: vs => cond (pbO own (cntT (lay t))) [] (rowsL H (.fld s) own 0) ++ keepL H r vs
  | _ :: r, _ :: vs => keepL H r vs
  | _, _ => []
theorem rowsA_run {mk : Nat → HLoc} {os : List Bool} : ∀ {i : Nat} {fp fp' d : List HLoc}, (rowsA mk os i).run H fp = some (d, fp') → d = rowsL H mk os i := by
  induction os with
  | nil => intro i fp fp' d h; obtain ⟨e, _⟩ := ret_some h; subst e; rfl
  | cons o os ih =>
    intro i fp fp' d h
    cases o with
    | false => exact ih (show (rowsA mk os (i + 1)).run H fp = _ from h)
    | true =>
      simp only [rowsA, cond, Rd.run] at h
      obtain ⟨d', fp1, k1, h⟩ := bind_some h
      have ih := ih k1
      simp only [rowsL, cond]
      split at h
      · rename_i r hr
        obtain ⟨e, _⟩ := ret_some h
        subst e
        rw [hr]
        show _ = HLoc.row r :: rowsL H mk os (i + 1)
        rw [← ih]
      · rename_i hr
        obtain ⟨e, _⟩ := ret_some h
        split
        · rename_i r hr2; exact absurd hr2 (hr r)
        · subst e; exact ih
theorem rowsL_mem {mk : Nat → HLoc} : ∀ {os : List Bool} {i k r : Nat}, os[k]? = some true → H (mk (i + k)) = .hdr r → HLoc.row r ∈ rowsL H mk os i
  | [], _, _, _, h, _ => by simp at h
  | o :: os, i, 0, r, h, h2 => by
    simp only [List.getElem?_cons_zero, Option.some.injEq] at h
    subst h
    rw [Nat.add_zero] at h2
    simp only [rowsL, cond, h2]
    exact List.mem_cons_self ..
  | o :: os, i, k + 1, r, h, h2 => by
    have ih := rowsL_mem (mk := mk) (os := os) (i := i + 1) (k := k) (r := r) (by simpa using h) (by rwa [show i + 1 + k = i + (k + 1) from by omega])
    simp only [rowsL]
    cases o with
    | false => exact ih
    | true =>
      simp only [cond]
      split
      · exact List.mem_cons_of_mem _ ih
      · exact ih
theorem keepA_run {ps : List PS} : ∀ {svs : List SV} {fp fp' ks : List HLoc}, (keepA ps svs).run H fp = some (ks, fp') → ks = keepL H ps svs := by
  induction ps with
  | nil => intro svs fp fp' ks h; obtain ⟨e, _⟩ := ret_some (show (Rd.ret ([] : List HLoc)).run H _ = _ from h); subst e; cases svs <;> rfl
  | cons p r ih =>
    intro svs fp fp' ks h
    cases svs with
    | nil => cases p <;> (obtain ⟨e, _⟩ := ret_some (show (Rd.ret ([] : List HLoc)).run H _ = _ from h); subst e; rfl)
    | cons v vs =>
      cases p with
      | obj t own =>
        cases v with
        | adr s off =>
          obtain ⟨d, fp1, k1, h⟩ := bind_some (show ((cond (pbO own (cntT (lay t))) (Rd.ret []) (rowsA (.fld s) own 0)).bind _).run H fp = _ from h)
          obtain ⟨q, fp2, k2, h⟩ := bind_some h
          obtain ⟨e, _⟩ := ret_some h
          subst e
          have ih := ih k2
          show _ = cond (pbO own (cntT (lay t))) [] (rowsL H (.fld s) own 0) ++ keepL H r vs
          cases hp : pbO own (cntT (lay t)) with
          | true =>
            rw [hp] at k1
            obtain ⟨e, _⟩ := ret_some k1
            rw [← e, ih]; rfl
          | false =>
            rw [hp] at k1
            rw [rowsA_run k1, ih]; rfl
        | _ => exact ih h
      | _ => have := ih h; cases v <;> exact this
theorem collA_box_run {r : List PS} {s : SV} {svs : List SV} {x : (argTy r).den} {pubs : HW} {drops : List HLoc} {fp fp' : List HLoc} (h : (collA (.box :: r) (s :: svs)).run H fp = some ((x, pubs, drops), fp')) :
    ∃ st b o svs' fp1 fp2 z hw2 d2, s = .adr st 0 ∧ svs = .adr b o :: svs' ∧ H (.site st) = .obj ptrTy ∧ H (.fld st 0) = .adr b o ∧ (collA r svs).run H fp1 = some ((z, hw2, d2), fp2) ∧ x = z ∧ pubs = hw2 ∧ drops = HLoc.site st :: d2 := by
  rw [collA_box] at h
  cases s <;> first | exact (fail_some h).elim | skip
  rename_i st off
  simp only at h
  cases hoff : Nat.beq off 0 with
  | false => rw [hoff] at h; exact (fail_some h).elim
  | true =>
    rw [hoff] at h
    obtain rfl := Nat.eq_of_beq_eq_true hoff
    simp only [cond, Rd.run] at h
    split at h
    · rename_i t' hobj
      cases hb : t'.beq ptrTy with
      | false => rw [hb] at h; exact (fail_some h).elim
      | true =>
        rw [hb] at h
        obtain rfl := Ty.beq_eq hb
        simp only [Rd.run] at h
        split at h
        · rename_i b o b' o' svs' hfld
          cases hc : cond (Nat.beq b b') (Nat.beq o o') false with
          | false => simp only [cond] at hc; rw [hc] at h; exact (fail_some h).elim
          | true =>
            obtain ⟨e1, e2⟩ := cond_and hc
            obtain rfl := Nat.eq_of_beq_eq_true e1
            obtain rfl := Nat.eq_of_beq_eq_true e2
            simp only [cond] at hc
            rw [hc] at h
            obtain ⟨⟨z, hw2, d2⟩, fp3, k3, h⟩ := bind_some h
            obtain ⟨e, _⟩ := ret_some h
            cases e
            exact ⟨st, b, o, svs', _, _, z, hw2, d2, rfl, rfl, hobj, hfld, k3, rfl, rfl, rfl⟩
        · exact (fail_some h).elim
    · exact (fail_some h).elim
/-- arguments, for the callee -/
theorem collA_ok (hs : SimG C g S H a w) : ∀ {ps : List PS} {svs : List SV} {vs : List Value} {i : Nat} {x : (argTy ps).den} {pubs : HW} {drops : List HLoc} {fp fp' : List HLoc},
    (collA ps svs).run H fp = some ((x, pubs, drops), fp') → svs.length = vs.length → CapOk svs vs → (∀ (j : Nat) (s : SV) (v : Value), svs[j]? = some s → vs[j]? = some v → SR g (view g.fl w) s v ∧ RefOk H s) →
    Pubs H pubs ∧ (∀ l ∈ drops, H l ≠ .bot) ∧ ∃ m : List (Own × Own), drops = m.map (fun p => locO p.1) ∧ ∀ {hw : HW} {fl : Nat → Nat} {own : Nat → Option Own}, (∀ y ∈ pubs, y ∈ hw) → Pubs H hw → (∀ l ∈ keepL H ps svs, l ∉ fsts hw) → SimG C { g with fl := fl, own := own } S (puts H hw) a w → (view g.fl w).le (view fl w) →
      ∀ T : Own → Own → Prop, (∀ p ∈ m, T p.1 p.2) → ArgsX T fl own w i ps vs x := by
  intro ps
  induction ps with
  | nil =>
    intro svs vs i x pubs drops fp fp' h hl _ _
    cases svs with
    | cons => rw [collA_nil'] at h; exact (fail_some h).elim
    | nil =>
      rw [collA_nil] at h
      obtain ⟨e, _⟩ := ret_some h
      cases e
      exact ⟨trivial, by simp, [], rfl, fun _ _ _ _ _ T _ => by cases vs with | nil => rfl | cons => simp at hl⟩
  | cons p ps ih =>
    intro svs vs i x pubs drops fp fp' h hl hcap hv
    cases p with
    | pure t =>
      cases svs with
      | nil => rw [collA_cons] at h; exact (fail_some h).elim
      | cons s svs =>
        cases vs with
        | nil => simp at hl
        | cons v vs =>
          rw [collA_pure] at h
          obtain ⟨⟨y, hw1⟩, fp1, k1, h⟩ := bind_some h
          obtain ⟨⟨z, hw2, d2⟩, fp2, k2, h⟩ := bind_some h
          obtain ⟨e, _⟩ := ret_some h
          cases e
          obtain ⟨v1, v2⟩ := hv 0 s v rfl rfl
          obtain ⟨p1, p2⟩ := toPV_ok hs k1 v1 v2
          obtain ⟨q1, q4, m, q2, q3⟩ := ih (i := i + 1) k2 (by simpa using hl) hcap.tail fun j s' v' h1 h2 => hv (j + 1) s' v' (by simpa using h1) (by simpa using h2)
          refine ⟨Pubs.append.2 ⟨p1, q1⟩, q4, m, q2, fun hsub hp hkp hs' hle T hT => ⟨?_, q3 (fun y hy => hsub y (List.mem_append_right _ hy)) hp (by cases s <;> exact hkp) hs' hle T hT⟩⟩
          exact p2 _ _ ((hs'.rowsRd hp).sub fun y hy => hsub y (List.mem_append_left _ hy)) hle
    | nilp =>
      cases svs with
      | nil => rw [collA_cons] at h; exact (fail_some h).elim
      | cons s svs =>
        cases vs with
        | nil => simp at hl
        | cons v vs =>
          rw [collA_nilp] at h
          cases s <;> first | exact (fail_some h).elim | skip
          obtain ⟨v1, v2⟩ := hv 0 _ v rfl rfl
          obtain ⟨q1, q4, m, q2, q3⟩ := ih (i := i + 1) h (by simpa using hl) hcap.tail fun j s' v' h1 h2 => hv (j + 1) s' v' (by simpa using h1) (by simpa using h2)
          exact ⟨q1, q4, m, q2, fun hsub hp hkp hs' hle T hT => ⟨v1, q3 hsub hp hkp hs' hle T hT⟩⟩
    | fnc f n =>
      cases svs with
      | nil => rw [collA_cons] at h; exact (fail_some h).elim
      | cons s svs =>
        cases vs with
        | nil => simp at hl
        | cons v vs =>
          rw [collA_fnc] at h
          cases s <;> first | exact (fail_some h).elim | skip
          rename_i f' d n'
          simp only at h
          cases hb : cond (Nat.beq f f') (Nat.beq n n') false with
          | false => rw [hb] at h; exact (fail_some h).elim
          | true =>
            rw [hb] at h
            obtain ⟨hb1, hb2⟩ := cond_and hb
            obtain rfl := Nat.eq_of_beq_eq_true hb1
            obtain rfl := Nat.eq_of_beq_eq_true hb2
            obtain ⟨q1, q4, m, q2, q3⟩ := ih (i := i + 1) h (by simpa using hl) hcap.tail fun j s' v' h1 h2 => hv (j + 1) s' v' (by simpa using h1) (by simpa using h2)
            exact ⟨q1, q4, m, q2, fun hsub hp hkp hs' hle T hT => ⟨hcap.1, q3 hsub hp hkp hs' hle T hT⟩⟩
    | box =>
      cases svs with
      | nil => rw [collA_cons] at h; exact (fail_some h).elim
      | cons s svs =>
        cases vs with
        | nil => simp at hl
        | cons v vs =>
          obtain ⟨st, b, o, svs', fp1, fp2, z, hw2, d2, rfl, rfl, hobj, hfld, k3, rfl, rfl, rfl⟩ := collA_box_run h
          obtain ⟨v1, v2⟩ := hv 0 _ v rfl rfl
          obtain ⟨q1, q4, m, q2, q3⟩ := ih (i := i + 1) k3 (by simpa using hl) hcap.tail fun j s' v' h1 h2 => hv (j + 1) s' v' (by simpa using h1) (by simpa using h2)
          refine ⟨q1, fun l hl => (by
            rcases List.mem_cons.1 hl with rfl | hl
            · rw [hobj]; exact SV.noConfusion
            · exact q4 l hl), (.site st, .site i) :: m, by rw [q2, List.map_cons]; rfl, fun {hw fl own} hsub hp hkp hs' hle T hT => ⟨?_, q3 hsub hp hkp hs' hle T fun p hp => hT p (by simp [hp])⟩⟩
          have hobj' : puts H hw (.site st) = .obj ptrTy := by rw [pubs_site hp]; exact hobj
          obtain ⟨cs, h1, h2, h3, h4⟩ := hs'.sites st ptrTy hobj'
          obtain ⟨c, rfl, -, h5⟩ := h4
          have h5 : SR { g with fl := fl, own := own } (view fl w) (puts H hw (.fld st 0)) c := h5
          rw [pubs_fld hp, hfld] at h5
          cases vs with
          | nil => simp at hl
          | cons p rest =>
            obtain ⟨w1, _⟩ := hv 1 (.adr b o) p rfl rfl
            have e : p = c := (show p = Value.pointer (some ⟨g.st b, o, none⟩) from w1).trans (show c = Value.pointer (some ⟨g.st b, o, none⟩) from h5).symm
            subst e
            exact ⟨p, rest, rfl, g.st st, .site st, hT (.site st, .site i) (by simp), v1, h1, h2, h3⟩
    | obj t os =>
      cases svs with
      | nil => rw [collA_cons] at h; exact (fail_some h).elim
      | cons s svs =>
        cases vs with
        | nil => simp at hl
        | cons v vs =>
          rw [collA_obj] at h
          cases s <;> first | exact (fail_some h).elim | skip
          rename_i st off
          simp only at h
          cases hoff : Nat.beq off 0 with
          | false => rw [hoff] at h; exact (fail_some h).elim
          | true =>
            rw [hoff] at h
            simp only [cond, Rd.run] at h
            split at h
            · rename_i t' hobj
              cases hb : t'.beq t with
              | false => rw [hb] at h; exact (fail_some h).elim
              | true =>
                rw [hb] at h
                obtain rfl := Ty.beq_eq hb
                simp only [cond] at h
                obtain ⟨⟨y, hw1⟩, fp1, k1, h⟩ := bind_some h
                obtain ⟨d, fp2, k2, h⟩ := bind_some h
                obtain ⟨⟨z, hw2, d2⟩, fp3, k3, h⟩ := bind_some h
                obtain ⟨e, _⟩ := ret_some h
                cases e
                obtain ⟨v1, v2⟩ := hv 0 _ v rfl rfl
                obtain ⟨q1, q4, m, q2, q3⟩ := ih (i := i + 1) k3 (by simpa using hl) hcap.tail fun j s' v' h1 h2 => hv (j + 1) s' v' (by simpa using h1) (by simpa using h2)
                obtain ⟨m1, d1, d2'⟩ := ownDs_ok (rid := i * 20) k2
                have hG := fun T (hT : ∀ p ∈ m1, T p.1 p.2) => gatherX_ok (C := C) (g := g) (S := S) (a := a) (w := w) (T := T) (rid := i * 20) (os := os) k1 fun k hk => by
                  rcases d2' k hk with ⟨r, e1, e2⟩ | e1
                  · exact .inl ⟨r, e1, hT _ e2⟩
                  · exact .inr e1
                refine ⟨Pubs.append.2 ⟨(hG (fun _ _ => True) fun _ _ => trivial).1, q1⟩, fun l hl => (by
                  rcases List.mem_cons.1 hl with rfl | hl
                  · rw [hobj]; exact SV.noConfusion
                  · rcases List.mem_append.1 hl with hl | hl
                    · exact ownDs_live hs k2 l hl
                    · exact q4 l hl), (.site st, .site i) :: (m1 ++ m), by rw [d1, q2, List.map_cons, List.map_append]; rfl, fun {hw fl own} hsub hp hkp hs' hle T hT => ⟨?_, q3 (fun y hy => hsub y (List.mem_append_right _ hy)) hp (fun l hl => hkp l (List.mem_append_right _ hl)) hs' hle T fun p hp => hT p (by simp [hp])⟩⟩
                have hobj' : puts H hw (.site st) = .obj t' := by rw [pubs_site hp]; exact hobj
                obtain ⟨cs, h1, h2, h3, h4⟩ := hs'.sites st t' hobj'
                have hval : v = .pointer (some ⟨g.st st, 0, none⟩) := by
                  obtain rfl := Nat.eq_of_beq_eq_true hoff
                  exact v1
                refine ⟨g.st st, cs, .site st, hT (.site st, .site i) (by simp), hval, h1, h2, h3, (hG T fun p hp => hT p (by simp [hp])).2 (fun y hy => hsub y (List.mem_append_left _ hy)) hp (fun hpb k r h1 h2 => hkp _ (List.mem_append_left _ (by rw [hpb]; exact rowsL_mem (tk_get h1) h2))) hs' ?_⟩
                have hF : (fun i => puts H hw (.fld st i)) = fun i => H (.fld st i) := funext fun i => pubs_fld hp
                rw [objCells_lay, hF] at h4
                exact h4
            · exact (fail_some h).elim
end
end Go.Sx
namespace Go.Sx
section
variable {C : Ctx} {g : Gh} {S : Nat → SV} {H : HLoc → SV} {a : Act} {w : World}

/-- no label of its own -/
def NewHd (H : HLoc → SV) (g : Gh) (hd' : Nat → Value) : Prop := ∀ r, H (.row r) ≠ .bot → hd' r = g.hd r
theorem fsts_append : ∀ (a b : HW), fsts (a ++ b) = fsts a ++ fsts b
  | [], _ => rfl
  | (l, v) :: r, b => by simp [fsts, fsts_append r b]
theorem freshO_ok {rid : Nat} : ∀ {os : List Bool} {i : Nat} {fp fp' : List HLoc} {u : Unit}, (freshO rid os i).run H fp = some (u, fp') → ∀ k, os[k]? = some true → H (.row (rid + (i + k))) = .bot
  | [], _, _, _, _, _, k, hk => by simp at hk
  | o :: os, i, fp, fp', u, h, k, hk => by
    simp only [freshO] at h
    cases o with
    | false =>
      cases k with
      | zero => simp at hk
      | succ k =>
        have := freshO_ok (show (freshO rid os (i + 1)).run H fp = _ from h) k (by simpa using hk)
        rwa [show i + 1 + k = i + (k + 1) from by omega] at this
    | true =>
      obtain ⟨h1, h2⟩ := fresh_some (show (fresh (.row (rid + i)) (freshO rid os (i + 1))).run H fp = _ from h)
      cases k with
      | zero => exact h1
      | succ k =>
        have := freshO_ok h2 k (by simpa using hk)
        rwa [show i + 1 + k = i + (k + 1) from by omega] at this
/-- which places a spread object's fields take -/
theorem spread_mem {n rid : Nat} : ∀ {t : Ty} {os : List Bool} {x : t.den} {i : Nat} {l : HLoc}, l ∈ fsts (spreadO (.fld n) rid os t x i) → (∃ k, l = .fld n (i + k)) ∨ ∃ k, os[k]? = some true ∧ l = .row (rid + (i + k)) := by
  intro t
  induction t with
  | pair A B _ hB =>
    intro os x i l hl
    simp only [spreadO, fsts_append, List.mem_append] at hl
    rcases hl with hl | hl
    · unfold spread1 at hl
      cases hb : hdB os with
      | false =>
        rw [hb] at hl
        simp only [cond, fsts, List.mem_singleton] at hl
        exact .inl ⟨0, hl⟩
      | true =>
        rw [hb] at hl
        simp only [cond] at hl
        split at hl
        · simp only [fsts, List.mem_cons, List.not_mem_nil, or_false] at hl
          rcases hl with rfl | rfl
          · exact .inr ⟨0, hdB_get.1 hb, rfl⟩
          · exact .inl ⟨0, rfl⟩
        · simp only [fsts, List.mem_singleton] at hl
          exact .inl ⟨0, hl⟩
    · rcases hB hl with ⟨k, rfl⟩ | ⟨k, hk, rfl⟩
      · exact .inl ⟨k + 1, by congr 1; omega⟩
      · exact .inr ⟨k + 1, by rw [← tlB_get]; exact hk, by congr 1; omega⟩
  | _ => intro os x i l hl; simp [spreadO, fsts] at hl

/-- the fields of an object that comes (back) out of a call -/
theorem spread_ok {T : Own → Own → Prop} {sh : Own → Own} (hT : ∀ o t, T o t → o = sh t) {id rid n : Nat} (hsh : ∀ k, sh (.row k) = .row (id + k)) : ∀ {t : Ty} {os : List Bool} {cs : List Value} {x : t.den} {i : Nat} {g : Gh} {H : HLoc → SV}, SimG C g S H a w → (∀ t, H (.site n) ≠ .obj t) →
    FldsX T g.fl g.own w rid os t cs x i → (∀ r, HLoc.row r ∈ fsts (spreadO (.fld n) (id + rid) os t x i) → H (.row r) = .bot) →
    ∃ hd', NewHd H g hd' ∧ SimG C { g with hd := hd' } S (puts H (spreadO (.fld n) (id + rid) os t x i)) a w ∧ FieldsOk (fun j => puts H (spreadO (.fld n) (id + rid) os t x i) (.fld n j)) { g with hd := hd' } (view g.fl w) t cs i := by
  intro t
  induction t with
  | unit => intro os cs x i g H hs _ hx _; exact ⟨g.hd, fun _ _ => rfl, hs, hx⟩
  | pair A B _ hB =>
    rintro os cs x i g H hs hn ⟨c1, c2, rfl, h1, h2⟩ hf
    have hf' : ∀ r, HLoc.row r ∈ fsts (spreadO (.fld n) (id + rid) (tlB os) B x.2 (i + 1)) → H (.row r) = .bot := fun r hr => hf r (by simp only [spreadO, fsts_append]; exact List.mem_append_right _ hr)
    -- the rest, once the first is set
    have rest : ∀ {g1 : Gh} {H1 : HLoc → SV} {v : SV}, g1.fl = g.fl → g1.own = g.own → NewHd H g g1.hd → g1.st = g.st → g1.cv = g.cv → SimG C g1 S H1 a w → (∀ t, H1 (.site n) ≠ .obj t) → H1 = puts H (spread1 (.fld n) (id + rid) (pbO os (cntT B + 1)) (hdB os) A x.1 i) → (∀ l, l ∉ fsts (spread1 (.fld n) (id + rid) (pbO os (cntT B + 1)) (hdB os) A x.1 i) → H1 l = H l) →
        (∀ r, HLoc.row r ∈ fsts (spreadO (.fld n) (id + rid) (tlB os) B x.2 (i + 1)) → H1 (.row r) = .bot) → H1 (.fld n i) = v → v ≠ .bot → (∀ r, H (.row r) ≠ .bot → H1 (.row r) ≠ .bot) → SR g1 (view g.fl w) v (mkV A c1) → c1.length = A.size → (∀ c ∈ c1, oneC c = true) →
        ∃ hd', NewHd H g hd' ∧ SimG C { g with hd := hd' } S (puts H (spreadO (.fld n) (id + rid) os (.pair A B) x i)) a w ∧ FieldsOk (fun j => puts H (spreadO (.fld n) (id + rid) os (.pair A B) x i) (.fld n j)) { g with hd := hd' } (view g.fl w) (.pair A B) (c1 ++ c2) i := by
      intro g1 H1 v e1 e2 e3 e4 e5 hs1 hn1 hH1 _ hf1 hv hvne hrow hsr hl ho
      obtain ⟨hd', k1, k2, k3⟩ := hB (g := g1) (H := H1) (os := tlB os) (x := x.2) (i := i + 1) hs1 hn1 (by rw [e1, e2]; exact h2) hf1
      have eg : ({ g1 with hd := hd' } : Gh) = { g with hd := hd' } := by
        cases g; cases g1; simp_all
      have eP : puts H (spreadO (.fld n) (id + rid) os (.pair A B) x i) = puts H1 (spreadO (.fld n) (id + rid) (tlB os) B x.2 (i + 1)) := by
        rw [hH1, ← puts_append]; rfl
      rw [eg] at k2 k3
      refine ⟨hd', fun r hr => (k1 r (hrow r hr)).trans (e3 r hr), by rw [eP]; exact k2, c1, c2, rfl, hl, ho, ?_, ?_⟩
      · have hnot : HLoc.fld n i ∉ fsts (spreadO (.fld n) (id + rid) (tlB os) B x.2 (i + 1)) := by
          intro hm
          rcases spread_mem hm with ⟨k, hk⟩ | ⟨k, _, hk⟩
          · simp at hk; omega
          · cases hk
        show SR _ _ (puts H (spreadO (.fld n) (id + rid) os (.pair A B) x i) (.fld n i)) _
        rw [eP, puts_ne hnot, hv]
        have hA : GAgree H1 g1 { g with hd := hd' } := ⟨fun m _ => by rw [e4], fun r hr => k1 r hr, fun d i _ => by rw [e5]⟩
        have hr1 : RefOk H1 v := by have := hs1.refF n i; rw [hv] at this; exact this
        exact SR.change hA (IV.le.refl _) hr1 hsr
      · rw [eP]; rw [e1] at k3; exact k3
    have hx1 : ∀ l, l ≠ HLoc.fld n i → ∀ v, updH H (.fld n i) v l = H l := fun l h v => updH_ne _ _ h
    cases hb : hdB os with
    | false =>
      rw [hb] at h1
      have hC : CRep (view g.fl w) A c1 x.1 := by cases A <;> exact h1
      have hs1 := hs.setFld (n := n) (i := i) (v := .pv A x.1) hn SV.noConfusion trivial
      refine rest (g1 := g) (v := .pv A x.1) rfl rfl (fun _ _ => rfl) rfl rfl hs1 (fun t => by rw [hx1 _ (by simp)]; exact hn t) (by rw [hb]; rfl) (fun l hl => ?_) (fun k hk => by rw [hx1 _ (by simp)]; exact hf' k hk) (updH_self _ _ _) SV.noConfusion (fun r hr => by rw [hx1 _ (by simp)]; exact hr)
        ⟨c1, hC, rfl⟩ hC.length hC.ones
      rw [hb] at hl
      exact hx1 l (fun e => hl (by simp [spread1, fsts, e])) _
    | true =>
      rw [hb] at h1
      cases A <;> first | exact h1.elim | skip
      rename_i e _
      obtain ⟨v, rfl, hr⟩ := h1
      have hbot : H (.row (id + rid + i)) = .bot := hf _ (by simp only [spreadO, fsts_append, hb, spread1, cond, fsts]; simp)
      have hA : GAgree H g { g with hd := updN g.hd (id + rid + i) v } := ⟨fun _ _ => rfl, fun r' hr' => updN_ne _ _ fun e => hr' (e ▸ hbot), fun _ _ _ => rfl⟩
      have hg := hs.grow hA (IV.le.refl _) (fun _ _ _ h => ⟨rfl, h, rfl⟩) (fun _ _ _ _ _ _ _ _ h => ⟨rfl, h, rfl⟩) hs.own hs.old hs.ext
      have hR : RowV g.fl g.own w v (.row (id + rid + i)) (pbO os (cntT B + 1)) e x.1 := by
        rcases hr with hr | ⟨o, ho, hr⟩
        · exact .inl hr
        · rw [hT _ _ ho, hsh, show id + (rid + i) = id + rid + i from by omega] at hr
          exact hr
      have hrow := hg.setRow (r := id + rid + i) (pub := pbO os (cntT B + 1)) (e := e) (l := x.1) (rowOk_iff.2 (by show RowV g.fl g.own w (updN g.hd (id + rid + i) v (id + rid + i)) _ _ _ _; rw [updN_self]; exact hR))
      have hs1 := hrow.setFld (n := n) (i := i) (v := .hdr (id + rid + i)) (fun t => by rw [updH_ne _ _ (by simp)]; exact hn t) SV.noConfusion (by simp only [RefOk]; rw [updH_self]; exact SV.noConfusion)
      obtain ⟨ad, m, c, hv⟩ := hR.oneC
      have hone : oneC v = true := by rw [hv]; rfl
      refine rest (g1 := { g with hd := updN g.hd (id + rid + i) v }) (v := .hdr (id + rid + i)) rfl rfl (fun r hr => hA.hd r hr) rfl rfl hs1 (fun t => ?_) (by rw [hb]; rfl) (fun l hl => ?_) (fun k hk => ?_) (updH_self _ _ _) SV.noConfusion (fun r hr => ?_) ?_ rfl (by simpa using hone)
      · rw [updH_ne _ _ (by simp), updH_ne _ _ (by simp)]; exact hn t
      · rw [hb] at hl
        simp only [spread1, cond, fsts, List.mem_cons, List.not_mem_nil, or_false, not_or] at hl
        rw [updH_ne _ _ hl.2, updH_ne _ _ hl.1]
      · rw [updH_ne _ _ (by simp), updH_ne _ _ (by
          rcases spread_mem hk with ⟨j, hj⟩ | ⟨j, _, hj⟩
          · cases hj
          · simp only [HLoc.row.injEq] at hj; simp; omega)]; exact hf' k hk
      · rw [updH_ne _ _ (by simp)]; exact updH_ne_bot SV.noConfusion hr
      · show mkV (.slice e) [v] = updN g.hd (id + rid + i) v (id + rid + i)
        rw [updN_self]; rfl
  | _ => intro os cs x i g H hs _ hx _; cases os <;> exact hx.elim
end
end Go.Sx
namespace Go.Sx
section
variable {C : Ctx} {S : Nat → SV} {a : Act} {w : World}

/-- a ghost that says the same of all that a state names -/
structure NewG (H : HLoc → SV) (g g' : Gh) : Prop where
  fl : g'.fl = g.fl
  own : g'.own = g.own
  ag : GAgree H g g'
theorem NewG.refl (H : HLoc → SV) (g : Gh) : NewG H g g := ⟨rfl, rfl, GAgree.refl H g⟩
theorem NewG.trans {H H' : HLoc → SV} {g g' g'' : Gh} (h : NewG H g g') (h' : NewG H' g' g'') (hH : ∀ l, H l ≠ .bot → H' l ≠ .bot) : NewG H g g'' :=
  ⟨h'.fl.trans h.fl, h'.own.trans h.own, ⟨fun n hn => (h'.ag.st n (hH _ hn)).trans (h.ag.st n hn), fun r hr => (h'.ag.hd r (hH _ hr)).trans (h.ag.hd r hr), fun d i hd => (h'.ag.cv d i (hH _ hd)).trans (h.ag.cv d i hd)⟩⟩
/-- places that a write makes are new -/
def FreshW (H : HLoc → SV) (ws : HW) : Prop := ∀ l ∈ fsts ws, (∀ n i, l ≠ .fld n i) → H l = .bot
def NoBot (ws : HW) : Prop := ∀ p ∈ ws, p.2 ≠ .bot
theorem puts_live : ∀ {ws : HW} {H : HLoc → SV} {l : HLoc}, NoBot ws → H l ≠ .bot → puts H ws l ≠ .bot
  | [], _, _, _, h => h
  | (m, v) :: r, H, l, hn, h => puts_live (ws := r) (fun p hp => hn p (by simp [hp])) (updH_ne_bot (hn (m, v) (by simp)) h)
theorem spread_nobot {n rid : Nat} : ∀ {t : Ty} {os : List Bool} {x : t.den} {i : Nat}, NoBot (spreadO (.fld n) rid os t x i) := by
  intro t
  induction t with
  | pair A B _ hB =>
    intro os x i p hp
    simp only [spreadO, List.mem_append] at hp
    rcases hp with hp | hp
    · unfold spread1 at hp
      cases hb : hdB os with
      | false => rw [hb] at hp; simp only [cond, List.mem_singleton] at hp; subst hp; exact SV.noConfusion
      | true =>
        rw [hb] at hp
        simp only [cond] at hp
        split at hp
        · simp only [List.mem_cons, List.not_mem_nil, or_false] at hp
          rcases hp with rfl | rfl <;> exact SV.noConfusion
        · simp only [List.mem_singleton] at hp; subst hp; exact SV.noConfusion
    · exact hB p hp
  | _ => intro os x i p hp; simp [spreadO] at hp

theorem resNew_ok {T : Own → Own → Prop} {sh : Own → Own} (hT : ∀ o t, T o t → o = sh t) {id base : Nat} (hsh : ∀ k, sh (.row k) = .row (id + k)) (hsb : sh (.site base) = .site (id + base)) {t : Ty} {os : List Bool} {x : (lay t).den} {v : SV} {ws : HW} {H0 : HLoc → SV} {fp fp' : List HLoc}
    (h : (resV (id + base) (.newobj t os) x).run H0 fp = some ((v, ws), fp')) {g : Gh} {H : HLoc → SV} (hs : SimG C g S H a w) {val : Value} (hr : Res1 T g.fl g.own w base (.newobj t os) val x) (hf : FreshW H ws) :
    ∃ g', NewG H g g' ∧ SimG C g' S (puts H ws) a w ∧ SR g' (view g'.fl w) v val ∧ RefOk (puts H ws) v ∧ NoBot ws ∧ v ≠ .bot := by
  obtain ⟨_, h⟩ := fresh_some h
  obtain ⟨_, fp1, k1, h⟩ := bind_some h
  obtain ⟨e1, _⟩ := ret_some h
  cases e1
  obtain ⟨b, cs, o, ho, hval, hblk, hob, hfl, hF⟩ := hr
  have hbot : H (.site (id + base)) = .bot := hf _ (by rw [fsts_append]; simp [fsts]) (fun _ _ => by simp)
  have hA : GAgree H g { g with st := updN g.st (id + base) b } := ⟨fun n hn => updN_ne _ _ fun e => hn (e ▸ hbot), fun _ _ => rfl, fun _ _ _ => rfl⟩
  have hg := hs.grow hA (IV.le.refl _) (fun n t hn h => by
      have : n ≠ id + base := fun e => by rw [e, hbot] at hn; cases hn
      exact ⟨rfl, h, rfl⟩) (fun _ _ _ _ _ _ _ _ h => ⟨rfl, h, rfl⟩) hs.own hs.old hs.ext
  obtain ⟨hd', k2, k3, k4⟩ := spread_ok (n := id + base) hT hsh hg (fun t' => by rw [hbot]; exact SV.noConfusion) hF fun r hr => hf _ (by rw [fsts_append]; exact List.mem_append_left _ hr) (fun _ _ => by simp)
  have hsite : puts H (spreadO (.fld (id + base)) (id + (base + 1)) os (lay t) x 0) (.site (id + base)) = .bot := by
    rw [puts_ne, hbot]
    intro hm
    rcases spread_mem hm with ⟨k, hk⟩ | ⟨k, _, hk⟩ <;> cases hk
  have hfin := k3.setSite (n := id + base) (t := t) ⟨cs, by
      show Blk w (updN g.st (id + base) b (id + base)) cs
      rw [updN_self]; exact hblk, by
      show g.own (updN g.st (id + base) b (id + base)) = _
      rw [updN_self, hob, hT _ _ ho, hsb], by
      show g.fl (updN g.st (id + base) b (id + base)) = 0
      rw [updN_self]; exact hfl, by
      exact objCells_lay.2 k4⟩
  refine ⟨{ g with st := updN g.st (id + base) b, hd := hd' }, ⟨rfl, rfl, ⟨hA.st, fun r hr => k2 r hr, fun _ _ _ => rfl⟩⟩, by rw [puts_append]; exact hfin, ?_, ?_, ?_, SV.noConfusion⟩
  · show val = .pointer (some ⟨updN g.st (id + base) b (id + base), 0, none⟩)
    rw [updN_self]; exact hval
  · show puts H _ _ ≠ _
    rw [puts_append]
    simp only [puts]; rw [updH_self]; exact SV.noConfusion
  · intro p hp
    rcases List.mem_append.1 hp with hp | hp
    · exact spread_nobot p hp
    · simp at hp; subst hp; exact SV.noConfusion
theorem res1_ok {T : Own → Own → Prop} {sh : Own → Own} (hT : ∀ o t, T o t → o = sh t) {id base : Nat} (hsh : ∀ k, sh (.row k) = .row (id + k)) (hsb : sh (.site base) = .site (id + base)) {r : RS} {x : r.ty.den} {v : SV} {ws : HW} {H0 : HLoc → SV} {fp fp' : List HLoc}
    (h : (resV (id + base) r x).run H0 fp = some ((v, ws), fp')) {g : Gh} {H : HLoc → SV} (hs : SimG C g S H a w) {val : Value} (hr : Res1 T g.fl g.own w base r val x) (hf : FreshW H ws) :
    ∃ g', NewG H g g' ∧ SimG C g' S (puts H ws) a w ∧ SR g' (view g'.fl w) v val ∧ RefOk (puts H ws) v ∧ NoBot ws ∧ v ≠ .bot := by
  cases r with
  | pure t =>
    obtain ⟨e, _⟩ := ret_some h
    cases e
    exact ⟨g, NewG.refl H g, hs, hr, trivial, fun p hp => by simp at hp, SV.noConfusion⟩
  | own pub e =>
    obtain ⟨_, h⟩ := fresh_some h
    obtain ⟨e1, _⟩ := ret_some h
    cases e1
    have hbot : H (.row (id + base)) = .bot := hf _ (by simp [fsts]) (fun _ _ => by simp)
    have hA : GAgree H g { g with hd := updN g.hd (id + base) val } := ⟨fun _ _ => rfl, fun r' hr' => updN_ne _ _ fun e => hr' (e ▸ hbot), fun _ _ _ => rfl⟩
    have hg := hs.grow hA (IV.le.refl _) (fun _ _ _ h => ⟨rfl, h, rfl⟩) (fun _ _ _ _ _ _ _ _ h => ⟨rfl, h, rfl⟩) hs.own hs.old hs.ext
    have hR : RowV g.fl g.own w val (.row (id + base)) pub e x := by
      rcases hr with hr | ⟨o, ho, hr⟩
      · exact .inl hr
      · rw [hT _ _ ho, hsh] at hr; exact hr
    have hrow := hg.setRow (r := id + base) (pub := pub) (e := e) (l := x) (rowOk_iff.2 (by show RowV g.fl g.own w (updN g.hd (id + base) val (id + base)) _ _ _ _; rw [updN_self]; exact hR))
    refine ⟨{ g with hd := updN g.hd (id + base) val }, ⟨rfl, rfl, hA⟩, hrow, ?_, ?_, ?_, SV.noConfusion⟩
    · show val = updN g.hd (id + base) val (id + base); rw [updN_self]
    · show puts H _ _ ≠ _
      simp only [puts]; rw [updH_self]; exact SV.noConfusion
    · intro p hp; simp at hp; subst hp; exact SV.noConfusion
  | newobj t os => exact resNew_ok hT hsh hsb h hs hr hf
  | maybe t os =>
    obtain ⟨b, y⟩ := x
    rcases hr with ⟨rfl, hv⟩ | ⟨rfl, hr⟩
    · obtain ⟨e, _⟩ := ret_some (show (Rd.ret (SV.nilp, ([] : HW))).run H0 fp = _ from h)
      cases e
      exact ⟨g, NewG.refl H g, hs, hv, trivial, fun p hp => by simp at hp, SV.noConfusion⟩
    · exact resNew_ok hT hsh hsb (show (resV (id + base) (.newobj t os) y).run H0 fp = _ from h) hs hr hf

theorem resVs_ok {T : Own → Own → Prop} {sh : Own → Own} (hT : ∀ o t, T o t → o = sh t) {id : Nat} (hsh : ∀ k, sh (.row k) = .row (id + k)) (hsb : ∀ k, k < 81 → sh (.site k) = .site (id + k)) {ps : List PS} {P : (objsTy ps).den → Prop} {H0 : HLoc → SV} :
    ∀ {rs : List RS} {i : Nat} {x : (resTy rs ps).den} {q : HW × (objsTy ps).den} {fp fp' : List HLoc} {g : Gh} {H : HLoc → SV} {vals : List Value}, (resVs id ps rs x i).run H0 fp = some (q, fp') → SimG C g S H a w → RessX T g.fl g.own w i rs ps vals x P → FreshW H q.1 → (fsts q.1).Nodup → i + rs.length ≤ 4 →
      ∃ g', NewG H g g' ∧ SimG C g' S (puts H q.1) a w ∧ NoBot q.1 ∧ (∀ j v, vals[j]? = some v → g'.cv id (i + j) = v) ∧ vals.length = rs.length ∧ (∀ j, j < rs.length → puts H q.1 (.comp id (i + j)) ≠ .bot) ∧ P q.2 := by
  intro rs
  induction rs with
  | nil =>
    intro i x q fp fp' g H vals h hs hr _ _ _
    obtain ⟨e, _⟩ := ret_some h
    subst e
    obtain ⟨rfl, hP⟩ := hr
    exact ⟨g, NewG.refl H g, hs, fun p hp => by simp at hp, fun j v hj => by simp at hj, rfl, fun j hj => by simp at hj, hP⟩
  | cons r rs ih =>
    intro i x q fp fp' g H vals h hs hr hf hnd hle
    obtain ⟨_, h⟩ := fresh_some h
    obtain ⟨⟨v, ws⟩, fp1, k1, h⟩ := bind_some h
    obtain ⟨⟨ws2, z⟩, fp2, k2, h⟩ := bind_some h
    obtain ⟨e, _⟩ := ret_some h
    subst e
    cases vals with
    | nil => exact hr.elim
    | cons val vals =>
      obtain ⟨hr1, hr2⟩ := hr
      rw [show id + 1 + 20 * i = id + (1 + 20 * i) from by omega] at k1
      simp only [fsts_append, fsts] at hnd hf
      obtain ⟨n1, n2, n3⟩ := List.nodup_append.1 hnd
      obtain ⟨n4, n5⟩ := List.nodup_cons.1 n2
      obtain ⟨g1, a1, a2, a3, a4, a5, a6⟩ := res1_ok hT hsh (hsb _ (by simp at hle; omega)) k1 hs hr1 fun l hl hn => hf l (by simp [fsts_append, fsts, hl]) hn
      have hcomp : puts H ws (.comp id i) = .bot := by
        rw [puts_ne (fun hm => n3 _ hm _ (by simp) rfl)]
        exact hf _ (by simp [fsts_append, fsts]) (fun _ _ => by simp)
      have hs2 := a2.setComp (d := id) (i := i) hcomp a6 a4 a3
      have e2 : puts H (ws ++ (HLoc.comp id i, v) :: ws2) = puts (updH (puts H ws) (.comp id i) v) ws2 := by rw [puts_append]; rfl
      have hA2 : NewG (puts H ws) g1 { g1 with cv := fun d' i' => if d' = id ∧ i' = i then val else g1.cv d' i' } :=
        ⟨rfl, rfl, ⟨fun _ _ => rfl, fun _ _ => rfl, fun d' i' hne => by
          by_cases e : d' = id ∧ i' = i
          · obtain ⟨rfl, rfl⟩ := e; exact absurd hcomp hne
          · simp [e]⟩⟩
      obtain ⟨g', b1, b2, b3, b4, b5, b6, b7⟩ := ih (vals := vals) k2 hs2 (by rw [show ({ g1 with cv := fun d' i' => if d' = id ∧ i' = i then val else g1.cv d' i' } : Gh).fl = g.fl from a1.fl, show ({ g1 with cv := fun d' i' => if d' = id ∧ i' = i then val else g1.cv d' i' } : Gh).own = g.own from a1.own]; exact hr2)
        (fun l hl hn => by
          have hlc : l ≠ HLoc.comp id i := fun e => by subst e; exact n4 hl
          rw [updH_ne _ _ hlc, puts_ne (fun hm => n3 l hm l (by simp [hl]) rfl)]
          exact hf l (by simp [fsts_append, fsts, hl]) hn) n5 (by simp at hle; omega)
      have hcv : g'.cv id i = val := by
        rw [b1.ag.cv id i (by rw [updH_self]; exact a6)]
        simp
      have live1 : ∀ l, H l ≠ .bot → updH (puts H ws) (.comp id i) v l ≠ .bot := fun l hl => updH_ne_bot a6 (puts_live a5 hl)
      refine ⟨g', (a1.trans hA2 fun l hl => puts_live a5 hl).trans b1 live1, by rw [e2]; exact b2, ?_, ?_, by simp [b5], ?_, b7⟩
      · intro p hp
        rcases List.mem_append.1 hp with hp | hp
        · exact a5 p hp
        · rcases List.mem_cons.1 hp with rfl | hp
          · exact a6
          · exact b3 p hp
      · intro j u hj
        cases j with
        | zero => simp at hj; subst hj; exact hcv
        | succ j => rw [show i + (j + 1) = i + 1 + j from by omega]; exact b4 j u (by simpa using hj)
      · intro j hj
        rw [e2]
        cases j with
        | zero => exact puts_live b3 (by rw [Nat.add_zero, updH_self]; exact a6)
        | succ j => rw [show i + (j + 1) = i + 1 + j from by omega]; exact b6 j (by simpa using hj)
theorem results_ok {T : Own → Own → Prop} {sh : Own → Own} (hT : ∀ o t, T o t → o = sh t) {id : Nat} (hsh : ∀ k, sh (.row k) = .row (id + k)) (hsb : ∀ k, k < 81 → sh (.site k) = .site (id + k)) {ps : List PS} {P : (objsTy ps).den → Prop} {H0 : HLoc → SV}
    {rs : List RS} {x : (resTy rs ps).den} {v : SV} {ws : HW} {z : (objsTy ps).den} {fp fp' : List HLoc} {g : Gh} {H : HLoc → SV} {vals : List Value} (h : (results id ps rs x).run H0 fp = some ((v, ws, z), fp')) (hs : SimG C g S H a w) (hr : RessX T g.fl g.own w 0 rs ps vals x P)
    (hf : FreshW H ws) (hnd : (fsts ws).Nodup) (hle : rs.length ≤ 4) :
    ∃ g', NewG H g g' ∧ SimG C g' S (puts H ws) a w ∧ NoBot ws ∧ SR g' (view g'.fl w) v (retV vals) ∧ RefOk (puts H ws) v ∧ P z := by
  have many : rs.length ≠ 1 → ((resVs id ps rs x 0).bind fun q => Rd.ret (SV.tup id rs.length, q.1, q.2)).run H0 fp = some ((v, ws, z), fp') →
      ∃ g', NewG H g g' ∧ SimG C g' S (puts H ws) a w ∧ NoBot ws ∧ SR g' (view g'.fl w) v (retV vals) ∧ RefOk (puts H ws) v ∧ P z := by
    intro h1 h
    obtain ⟨⟨ws', z'⟩, fp1, k1, h⟩ := bind_some h
    obtain ⟨e, _⟩ := ret_some h
    cases e
    obtain ⟨g', b1, b2, b3, b4, b5, b6, b7⟩ := resVs_ok hT hsh hsb k1 hs hr hf hnd (by omega)
    refine ⟨g', b1, b2, b3, ?_, fun i hi => by have := b6 i hi; rwa [Nat.zero_add] at this, b7⟩
    have hret : retV vals = .tuple vals.toArray := by
      match vals, b5 with
      | [], _ => rfl
      | [v], e => exact absurd e.symm h1
      | _ :: _ :: _, _ => rfl
    show retV vals = _
    rw [hret]
    congr 2
    apply List.ext_getElem?
    intro j
    rw [List.getElem?_map]
    by_cases hj : j < rs.length
    · have hj' : j < vals.length := by omega
      rw [List.getElem?_range hj, List.getElem?_eq_getElem hj']
      have := b4 j _ (List.getElem?_eq_getElem hj')
      rw [Nat.zero_add] at this
      simp [this]
    · rw [List.getElem?_eq_none (by omega), List.getElem?_eq_none (by simp; omega)]; rfl
  match rs, x, h, hr, many with
  | [], x, h, hr, many => exact many (by simp) h
  | [r], x, h, hr, many =>
    obtain ⟨⟨v1, ws1⟩, fp1, k1, h⟩ := bind_some h
    obtain ⟨e, _⟩ := ret_some h
    cases e
    match vals, hr with
    | [], hr => exact hr.elim
    | [val], ⟨hr1, _, hP⟩ =>
      obtain ⟨g', a1, a2, a3, a4, a5, a6⟩ := res1_ok (base := 1 + 20 * 0) hT hsh (hsb _ (by omega)) k1 hs hr1 hf
      exact ⟨g', a1, a2, a5, a3, a4, hP⟩
    | _ :: _ :: _, ⟨_, h2, _⟩ => simp at h2
  | r1 :: r2 :: rs, x, h, hr, many => exact many (by simp) h
end
end Go.Sx
namespace Go.Sx
section
variable {C : Ctx} {S : Nat → SV} {a : Act} {w : World}

/-- the objects that are handed in -/
def objSites : List PS → List SV → List Nat
  | .obj _ _ :: r, .adr s _ :: vs => s :: objSites r vs
  | .pure _ :: r, _ :: vs => objSites r vs
  | .nilp :: r, _ :: vs => objSites r vs
  | .fnc _ _ :: r, _ :: vs => objSites r vs
  | .box :: r, .adr s _ :: vs => s :: objSites r vs
  | _, _ => []
theorem backA_box_run {H : HLoc → SV} {r : List PS} {rid : Nat} {s : SV} {svs : List SV} {x : (objsTy r).den} {ws : HW} {fp fp' : List HLoc} (h : (backA rid (.box :: r) (s :: svs) x).run H fp = some (ws, fp')) :
    ∃ st off b2 o2 svs' ws2 fp1 fp2, s = .adr st off ∧ svs = .adr b2 o2 :: svs' ∧ (backA (rid + 20) r (.adr b2 o2 :: svs') x).run H fp1 = some (ws2, fp2) ∧ ws = (HLoc.fld st 0, SV.adr b2 o2) :: (HLoc.site st, SV.obj ptrTy) :: ws2 ∧ b2 ∈ objSites r (.adr b2 o2 :: svs') ∧ HLoc.site b2 ∈ fsts ws2 := by
  cases s with
  | adr st off =>
    cases svs with
    | nil => exact (fail_some (show (Rd.fail : Rd HW).run H fp = _ from h)).elim
    | cons s2 svs' =>
      cases s2 with
      | adr b2 o2 =>
        have h : (cond (headObj r) ((backA (rid + 20) r (.adr b2 o2 :: svs') x).bind fun ws => Rd.ret ((HLoc.fld st 0, SV.adr b2 o2) :: (HLoc.site st, SV.obj ptrTy) :: ws)) .fail).run H fp = some (ws, fp') := h
        cases r with
        | nil => exact (fail_some (show (Rd.fail : Rd HW).run H fp = _ from h)).elim
        | cons q r =>
          cases q with
          | obj t os =>
            obtain ⟨ws2, fp1, k1, h⟩ := bind_some (show ((backA (rid + 20) (.obj t os :: r) (.adr b2 o2 :: svs') x).bind _).run H fp = some (ws, fp') from h)
            obtain ⟨e, _⟩ := ret_some h
            refine ⟨st, off, b2, o2, svs', ws2, _, _, rfl, rfl, k1, e.symm ▸ rfl, by simp [objSites], ?_⟩
            obtain ⟨_, fp3, _, h⟩ := bind_some (show ((freshO (rid + 20) os 0).bind fun _ => (backA (rid + 20 + 20) r svs' x.2).bind fun ws => Rd.ret (spreadO (.fld b2) (rid + 20) os (lay t) x.1 0 ++ (HLoc.site b2, SV.obj t) :: ws)).run H fp = some (ws2, fp1) from k1)
            obtain ⟨ws3, fp4, _, h⟩ := bind_some h
            obtain ⟨e, _⟩ := ret_some h
            subst e
            simp [fsts_append, fsts]
          | _ => exact (fail_some (show (Rd.fail : Rd HW).run H fp = _ from h)).elim
      | _ => exact (fail_some (show (Rd.fail : Rd HW).run H fp = _ from h)).elim
  | _ => exact (fail_some (show (Rd.fail : Rd HW).run H fp = _ from h)).elim
theorem backA_ok {T : Own → Own → Prop} {sh : Own → Own} (hT : ∀ o t, T o t → o = sh t) {id : Nat} (hsh : ∀ k, sh (.row k) = .row (id + k)) {H0 : HLoc → SV} {g0 : Gh} {iv0 : IV} :
    ∀ {ps : List PS} {svs : List SV} {vs : List Value} {j : Nat} {x : (objsTy ps).den} {ws : HW} {fp fp' : List HLoc} {g : Gh} {H : HLoc → SV}, (backA (id + 80 + 20 * j) ps svs x).run H0 fp = some (ws, fp') → SimG C g S H a w → ObjsX T g.fl g.own w j ps vs x →
      (∀ k s, (objSites ps svs)[k]? = some s → sh (.site (81 + 20 * (j + k))) = .site s) → svs.length = vs.length → (∀ (k : Nat) (s : SV) (v : Value), svs[k]? = some s → vs[k]? = some v → SR g0 iv0 s v) → (∀ s, s ∈ objSites ps svs → g.st s = g0.st s) →
      (∀ l ∈ fsts ws, (∀ r, l = .row r → H l = .bot) ∧ (∀ n, l = .site n → H l = .und)) → (fsts ws).Nodup →
      ∃ g', NewG H g g' ∧ SimG C g' S (puts H ws) a w ∧ NoBot ws := by
  intro ps
  induction ps with
  | nil =>
    intro svs vs j x ws fp fp' g H h hs _ _ _ _ _ _ _
    obtain ⟨e, _⟩ := ret_some (show (Rd.ret ([] : HW)).run H0 fp = _ from h)
    subst e
    exact ⟨g, NewG.refl H g, hs, fun p hp => by simp at hp⟩
  | cons p ps ih =>
    intro svs vs j x ws fp fp' g H h hs hx hss hl hv hst hf hnd
    cases svs with
    | nil => cases p <;> exact (fail_some (show (Rd.fail : Rd HW).run H0 fp = _ from h)).elim
    | cons s svs =>
      cases vs with
      | nil => simp at hl
      | cons v vs =>
        cases p with
        | pure t =>
          exact ih (svs := svs) (vs := vs) (j := j) (x := x) h hs hx hss (by simpa using hl) (fun k s' v' h1 h2 => hv (k + 1) s' v' (by simpa using h1) (by simpa using h2)) hst hf hnd
        | fnc f n =>
          exact ih (svs := svs) (vs := vs) (j := j) (x := x) h hs hx hss (by simpa using hl) (fun k s' v' h1 h2 => hv (k + 1) s' v' (by simpa using h1) (by simpa using h2)) hst hf hnd
        | nilp =>
          exact ih (svs := svs) (vs := vs) (j := j) (x := x) h hs hx hss (by simpa using hl) (fun k s' v' h1 h2 => hv (k + 1) s' v' (by simpa using h1) (by simpa using h2)) hst hf hnd
        | box =>
          obtain ⟨st, off, b2, o2, svs', ws2, fp1, fp2, rfl, rfl, k2, rfl, hmem, hin⟩ := backA_box_run h
          obtain ⟨⟨p, rest, rfl, b, o, ho, hval, hblk, hob, hfl⟩, hx2⟩ := hx
          simp only [fsts] at hnd
          obtain ⟨n1, n2⟩ := List.nodup_cons.1 hnd
          obtain ⟨n3, n4⟩ := List.nodup_cons.1 n2
          have hsite : H (.site st) = .und := (hf (.site st) (by simp [fsts])).2 st rfl
          have hb : b = g.st st := by
            have h1 : v = .pointer (some ⟨g0.st st, off, none⟩) := hv 0 _ _ rfl rfl
            rw [hst st (by simp [objSites])]
            rw [hval] at h1
            simpa using (by simpa using h1 : b = g0.st st ∧ 0 = off).1
          subst hb
          have hp : p = Value.pointer (some ⟨g.st b2, o2, none⟩) := by
            rw [hst b2 (by simp [objSites, hmem])]
            exact hv 1 (.adr b2 o2) p rfl rfl
          have hlive2 : H (.site b2) ≠ .bot := by
            rw [(hf (.site b2) (by simp [fsts, hin])).2 b2 rfl]; exact SV.noConfusion
          have hs1 := hs.setFld (n := st) (i := 0) (v := .adr b2 o2) (fun t' => by rw [hsite]; exact SV.noConfusion) SV.noConfusion hlive2
          have hfin := hs1.setSite (n := st) (t := ptrTy) ⟨[p], hblk, by
            show g.own (g.st st) = _
            rw [hob, hT _ _ ho]
            have := hss 0 st (by simp [objSites])
            rw [Nat.add_zero] at this
            rw [this], hfl, p, rfl, by rw [hp]; rfl, by
              show SR g (view g.fl w) (updH H (.fld st 0) (.adr b2 o2) (.fld st 0)) p
              rw [updH_self]; exact hp⟩
          have live1 : ∀ l, H l ≠ .bot → updH (updH H (.fld st 0) (.adr b2 o2)) (.site st) (.obj ptrTy) l ≠ .bot := fun l hl => updH_ne_bot SV.noConfusion (updH_ne_bot SV.noConfusion hl)
          obtain ⟨g', c1, c2, c3⟩ := ih (svs := .adr b2 o2 :: svs') (vs := p :: rest) (j := j + 1) (x := x) (by rw [show id + 80 + 20 * (j + 1) = id + 80 + 20 * j + 20 from by omega]; exact k2) hfin hx2
            (fun k s' hk => by have := hss (k + 1) s' (by simpa [objSites] using hk); rwa [show j + (k + 1) = j + 1 + k from by omega] at this) (by simpa using hl) (fun k s' v' h1 h2 => hv (k + 1) s' v' (by simpa using h1) (by simpa using h2))
            (fun s' hs' => hst s' (by simp [objSites, hs'])) (fun l hl' => by
              have e1 : l ≠ HLoc.site st := fun e => by subst e; exact n3 hl'
              have e2 : l ≠ HLoc.fld st 0 := fun e => by subst e; exact n1 (List.mem_cons_of_mem _ hl')
              rw [updH_ne _ _ e1, updH_ne _ _ e2]
              exact hf l (by simp [fsts, hl'])) n4
          refine ⟨g', NewG.trans (g' := g) (H' := updH (updH H (.fld st 0) (.adr b2 o2)) (.site st) (.obj ptrTy)) (NewG.refl H g) c1 live1, c2, ?_⟩
          intro q hq
          rcases List.mem_cons.1 hq with rfl | hq
          · exact SV.noConfusion
          · rcases List.mem_cons.1 hq with rfl | hq
            · exact SV.noConfusion
            · exact c3 q hq
        | obj t os =>
          cases s with
          | adr st off =>
            have h : ((freshO (id + 80 + 20 * j) os 0).bind fun _ => (backA (id + 80 + 20 * j + 20) ps svs x.2).bind fun ws => Rd.ret (spreadO (.fld st) (id + 80 + 20 * j) os (lay t) x.1 0 ++ (HLoc.site st, SV.obj t) :: ws)).run H0 fp = some (ws, fp') := h
            obtain ⟨_, fp1, k1, h⟩ := bind_some h
            obtain ⟨ws2, fp2, k2, h⟩ := bind_some h
            obtain ⟨e, _⟩ := ret_some h
            subst e
            obtain ⟨⟨b, cs, o, ho, hval, hblk, hob, hfl, hF⟩, hx2⟩ := hx
            simp only [fsts_append, fsts] at hnd
            obtain ⟨n1, n2, n3⟩ := List.nodup_append.1 hnd
            obtain ⟨n4, n5⟩ := List.nodup_cons.1 n2
            have hsite : H (.site st) = .und := (hf (.site st) (by simp [fsts_append, fsts])).2 st rfl
            rw [show id + 80 + 20 * j = id + (80 + 20 * j) from by omega] at k1 n1 n3 ⊢
            obtain ⟨hd', q1, q2, q3⟩ := spread_ok (n := st) hT hsh hs (fun t' => by rw [hsite]; exact SV.noConfusion) hF fun r hr => (hf (.row r) (by rw [fsts_append, show id + 80 + 20 * j = id + (80 + 20 * j) from by omega]; exact List.mem_append_left _ hr)).1 r rfl
            have hb : b = g.st st := by
              have h1 : v = .pointer (some ⟨g0.st st, off, none⟩) := hv 0 _ _ rfl rfl
              rw [hst st (by simp [objSites])]
              rw [hval] at h1
              simpa using (by simpa using h1 : b = g0.st st ∧ 0 = off).1
            subst hb
            have hfin := q2.setSite (n := st) (t := t) ⟨cs, hblk, by
              show g.own (g.st st) = _
              rw [hob, hT _ _ ho]
              have := hss 0 st (by simp [objSites])
              rw [Nat.add_zero] at this
              rw [this], hfl, objCells_lay.2 q3⟩
            have live1 : ∀ l, H l ≠ .bot → updH (puts H (spreadO (.fld st) (id + (80 + 20 * j)) os (lay t) x.1 0)) (.site st) (.obj t) l ≠ .bot := fun l hl => updH_ne_bot SV.noConfusion (puts_live spread_nobot hl)
            obtain ⟨g', b1, b2, b3⟩ := ih (svs := svs) (vs := vs) (j := j + 1) (x := x.2) (by rw [show id + 80 + 20 * (j + 1) = id + 80 + 20 * j + 20 from by omega]; exact k2) hfin hx2
              (fun k s' hk => by have := hss (k + 1) s' (by simpa [objSites] using hk); rwa [show j + (k + 1) = j + 1 + k from by omega] at this) (by simpa using hl) (fun k s' v' h1 h2 => hv (k + 1) s' v' (by simpa using h1) (by simpa using h2))
              (fun s' hs' => hst s' (by simp [objSites, hs'])) (fun l hl' => by
                have e1 : l ≠ HLoc.site st := fun e => by subst e; exact n4 hl'
                have e2 : l ∉ fsts (spreadO (.fld st) (id + (80 + 20 * j)) os (lay t) x.1 0) := fun hm => n3 l hm l (by simp [hl']) rfl
                rw [updH_ne _ _ e1, puts_ne e2]
                exact hf l (by simp [fsts_append, fsts, hl'])) n5
            refine ⟨g', NewG.trans (g' := { g with hd := hd' }) (H' := updH (puts H (spreadO (.fld st) (id + (80 + 20 * j)) os (lay t) x.1 0)) (.site st) (.obj t)) ⟨rfl, rfl, ⟨fun _ _ => rfl, fun r hr => q1 r hr, fun _ _ _ => rfl⟩⟩ b1 live1, by rw [puts_append]; exact b2, ?_⟩
            intro p hp
            rcases List.mem_append.1 hp with hp | hp
            · exact spread_nobot p hp
            · rcases List.mem_cons.1 hp with rfl | hp
              · exact SV.noConfusion
              · exact b3 p hp
          | _ => exact (fail_some (show (Rd.fail : Rd HW).run H0 fp = _ from h)).elim

theorem pickSig_mem : ∀ {l : List Sig} {vs : List SV} {sg : Sig}, pickSig l vs = some sg → sg ∈ l
  | [], _, _, h => by simp [pickSig] at h
  | s :: r, vs, sg, h => by
    simp only [pickSig] at h
    cases hb : sigFits s.ps vs with
    | true => rw [hb] at h; simp at h; simp [h]
    | false => rw [hb] at h; exact List.mem_cons_of_mem _ (pickSig_mem h)
theorem undW_fsts : ∀ l : List HLoc, fsts (undW l) = l
  | [] => rfl
  | a :: r => by simp [undW, fsts, undW_fsts r]
theorem undW_get : ∀ {l : List HLoc} {H : HLoc → SV} {x : HLoc}, x ∈ l → puts H (undW l) x = .und
  | a :: r, H, x, h => by
    simp only [undW, puts]
    by_cases hx : x ∈ r
    · exact undW_get hx
    · rw [puts_ne (by rw [undW_fsts]; exact hx)]
      rcases List.mem_cons.1 h with rfl | h
      · exact updH_self _ _ _
      · exact absurd h hx
theorem SimG.drops : ∀ {m : List (Own × Own)} {g : Gh} {H : HLoc → SV}, SimG C g S H a w → SimG C g S (puts H (undW (m.map fun p => locO p.1))) a w
  | [], _, _, hs => hs
  | p :: r, g, H, hs => by
    have : SimG C g S (updH H (locO p.1) .und) a w := hs.drop (by
      cases p.1 with
      | site n => exact .inl ⟨n, rfl⟩
      | row n => exact .inr ⟨n, rfl⟩)
    exact SimG.drops (m := r) this
theorem collA_sites {H : HLoc → SV} : ∀ {ps : List PS} {svs : List SV} {q : (argTy ps).den × HW × List HLoc} {fp fp' : List HLoc}, (collA ps svs).run H fp = some (q, fp') → ∀ s ∈ objSites ps svs, HLoc.site s ∈ q.2.2 := by
  intro ps
  induction ps with
  | nil => intro svs q fp fp' _ s hs; simp [objSites] at hs
  | cons p ps ih =>
    intro svs q fp fp' h s hs
    cases svs with
    | nil => cases p <;> simp [objSites] at hs
    | cons v svs =>
      cases p with
      | pure t =>
        rw [collA_pure] at h
        obtain ⟨y, fp1, k1, h⟩ := bind_some h
        obtain ⟨z, fp2, k2, h⟩ := bind_some h
        obtain ⟨e, _⟩ := ret_some h
        subst e
        exact ih k2 s (by simpa [objSites] using hs)
      | nilp =>
        rw [collA_nilp] at h
        cases v <;> first | exact (fail_some h).elim | skip
        exact ih h s (by simpa [objSites] using hs)
      | fnc f n =>
        rw [collA_fnc] at h
        cases v <;> first | exact (fail_some h).elim | skip
        rename_i f' d n'
        simp only at h
        cases hb : cond (Nat.beq f f') (Nat.beq n n') false with
        | false => rw [hb] at h; exact (fail_some h).elim
        | true =>
          rw [hb] at h
          exact ih h s (by simpa [objSites] using hs)
      | box =>
        obtain ⟨z, hw, d⟩ := q
        obtain ⟨st, b, o, svs', fp1, fp2, z2, hw2, d2, rfl, rfl, _, _, k3, rfl, rfl, rfl⟩ := collA_box_run h
        simp only [objSites, List.mem_cons] at hs
        rcases hs with rfl | hs
        · simp
        · have := ih k3 s hs; simp [this]
      | obj t os =>
        rw [collA_obj] at h
        cases v <;> first | exact (fail_some h).elim | skip
        rename_i st off
        simp only at h
        cases hoff : Nat.beq off 0 with
        | false => rw [hoff] at h; exact (fail_some h).elim
        | true =>
          rw [hoff] at h
          simp only [cond, Rd.run] at h
          split at h
          · rename_i t' hobj
            cases hb : t'.beq t with
            | false => rw [hb] at h; exact (fail_some h).elim
            | true =>
              rw [hb] at h
              simp only [cond] at h
              obtain ⟨y, fp1, k1, h⟩ := bind_some h
              obtain ⟨d, fp2, k2, h⟩ := bind_some h
              obtain ⟨z, fp3, k3, h⟩ := bind_some h
              obtain ⟨e, _⟩ := ret_some h
              subst e
              simp only [objSites, List.mem_cons] at hs
              rcases hs with rfl | hs
              · simp
              · have := ih k3 s hs; simp [this]
          · exact (fail_some h).elim
end
end Go.Sx
namespace Go.Sx
section
variable {C : Ctx} {S : Nat → SV} {a : Act} {w : World}

theorem spread_fresh {H : HLoc → SV} {n rid : Nat} {t : Ty} {os : List Bool} {x : t.den} {fp fp' : List HLoc} {u : Unit} (h : (freshO rid os 0).run H fp = some (u, fp')) : FreshW H (spreadO (.fld n) rid os t x 0) := by
  intro l hl hn
  rcases spread_mem hl with ⟨k, rfl⟩ | ⟨k, hk, rfl⟩
  · exact absurd rfl (hn _ _)
  · exact freshO_ok h k hk
theorem FreshW.append {H : HLoc → SV} {a b : HW} (h1 : FreshW H a) (h2 : FreshW H b) : FreshW H (a ++ b) := by
  intro l hl hn
  rw [fsts_append] at hl
  rcases List.mem_append.1 hl with hl | hl
  · exact h1 l hl hn
  · exact h2 l hl hn
theorem FreshW.one {H : HLoc → SV} {l : HLoc} {v : SV} (h : H l = .bot) : FreshW H [(l, v)] := by
  intro m hm _
  simp only [fsts, List.mem_singleton] at hm
  rw [hm]; exact h
theorem resNew_fresh {H : HLoc → SV} {rid : Nat} {t : Ty} {os : List Bool} {x : (lay t).den} {q : SV × HW} {fp fp' : List HLoc} (h : (resV rid (.newobj t os) x).run H fp = some (q, fp')) : FreshW H q.2 := by
  obtain ⟨h1, h⟩ := fresh_some h
  obtain ⟨_, fp1, k1, h⟩ := bind_some h
  obtain ⟨e, _⟩ := ret_some h
  subst e
  exact (spread_fresh k1).append (FreshW.one h1)
theorem resV_fresh {H : HLoc → SV} {rid : Nat} {r : RS} {x : r.ty.den} {q : SV × HW} {fp fp' : List HLoc} (h : (resV rid r x).run H fp = some (q, fp')) : FreshW H q.2 := by
  cases r with
  | pure t => obtain ⟨e, _⟩ := ret_some h; subst e; intro l hl; simp [fsts] at hl
  | own pub e =>
    obtain ⟨h1, h⟩ := fresh_some h
    obtain ⟨e, _⟩ := ret_some h
    subst e
    exact FreshW.one h1
  | newobj t os => exact resNew_fresh h
  | maybe t os =>
    obtain ⟨b, y⟩ := x
    cases b with
    | false => obtain ⟨e, _⟩ := ret_some (show (Rd.ret (SV.nilp, ([] : HW))).run H fp = _ from h); subst e; intro l hl; simp [fsts] at hl
    | true => exact resNew_fresh (show (resV rid (.newobj t os) y).run H fp = _ from h)
theorem resVs_fresh {H : HLoc → SV} {id : Nat} {ps : List PS} : ∀ {rs : List RS} {i : Nat} {x : (resTy rs ps).den} {q : HW × (objsTy ps).den} {fp fp' : List HLoc}, (resVs id ps rs x i).run H fp = some (q, fp') → FreshW H q.1 := by
  intro rs
  induction rs with
  | nil => intro i x q fp fp' h; obtain ⟨e, _⟩ := ret_some h; subst e; intro l hl; simp [fsts] at hl
  | cons r rs ih =>
    intro i x q fp fp' h
    obtain ⟨h1, h⟩ := fresh_some h
    obtain ⟨p, fp1, k1, h⟩ := bind_some h
    obtain ⟨q2, fp2, k2, h⟩ := bind_some h
    obtain ⟨e, _⟩ := ret_some h
    subst e
    exact (resV_fresh k1).append (FreshW.append (a := [_]) (FreshW.one h1) (ih k2))
theorem results_fresh {H : HLoc → SV} {id : Nat} {ps : List PS} {rs : List RS} {x : (resTy rs ps).den} {q : SV × HW × (objsTy ps).den} {fp fp' : List HLoc} (h : (results id ps rs x).run H fp = some (q, fp')) : FreshW H q.2.1 := by
  have many : ((resVs id ps rs x 0).bind fun q => Rd.ret (SV.tup id rs.length, q.1, q.2)).run H fp = some (q, fp') → FreshW H q.2.1 := by
    intro h
    obtain ⟨q2, fp1, k1, h⟩ := bind_some h
    obtain ⟨e, _⟩ := ret_some h
    subst e
    exact resVs_fresh k1
  match rs, x, h, many with
  | [], x, h, many => exact many h
  | [r], x, h, many =>
    obtain ⟨p, fp1, k1, h⟩ := bind_some h
    obtain ⟨e, _⟩ := ret_some h
    subst e
    exact resV_fresh k1
  | r1 :: r2 :: rs, x, h, many => exact many h
theorem backA_fresh {H : HLoc → SV} : ∀ {ps : List PS} {rid : Nat} {svs : List SV} {x : (objsTy ps).den} {ws : HW} {fp fp' : List HLoc}, (backA rid ps svs x).run H fp = some (ws, fp') →
    ∀ l ∈ fsts ws, (∀ r, l = .row r → H l = .bot) ∧ (∀ n, l = .site n → n ∈ objSites ps svs) ∧ ∀ d i, l ≠ .comp d i := by
  intro ps
  induction ps with
  | nil =>
    intro rid svs x ws fp fp' h
    obtain ⟨e, _⟩ := ret_some (show (Rd.ret ([] : HW)).run H fp = _ from h)
    subst e
    intro l hl; simp [fsts] at hl
  | cons p ps ih =>
    intro rid svs x ws fp fp' h
    cases svs with
    | nil => cases p <;> exact (fail_some (show (Rd.fail : Rd HW).run H fp = _ from h)).elim
    | cons s svs =>
      cases p with
      | pure t => exact ih (svs := svs) (x := x) h
      | nilp => exact ih (svs := svs) (x := x) h
      | fnc f n => exact ih (svs := svs) (x := x) h
      | box =>
        obtain ⟨st, off, b2, o2, svs', ws2, fp1, fp2, rfl, rfl, k2, rfl, hmem, hin⟩ := backA_box_run h
        intro l hl
        simp only [fsts, List.mem_cons] at hl
        rcases hl with rfl | rfl | hl
        · exact ⟨fun r e => (by cases e), fun n e => (by cases e), fun d i e => (by cases e)⟩
        · exact ⟨fun r e => (by cases e), fun n e => (by cases e; simp [objSites]), fun d i e => (by cases e)⟩
        · obtain ⟨a1, a2, a3⟩ := ih k2 l hl
          exact ⟨a1, fun n e => by simp [objSites, a2 n e], a3⟩
      | obj t os =>
        cases s with
        | adr st off =>
          have h : ((freshO rid os 0).bind fun _ => (backA (rid + 20) ps svs x.2).bind fun ws => Rd.ret (spreadO (.fld st) rid os (lay t) x.1 0 ++ (HLoc.site st, SV.obj t) :: ws)).run H fp = some (ws, fp') := h
          obtain ⟨_, fp1, k1, h⟩ := bind_some h
          obtain ⟨ws2, fp2, k2, h⟩ := bind_some h
          obtain ⟨e, _⟩ := ret_some h
          subst e
          intro l hl
          simp only [fsts_append, fsts, List.mem_append, List.mem_cons] at hl
          rcases hl with hl | rfl | hl
          · refine ⟨fun r e => spread_fresh k1 l hl (fun n i e' => by rw [e] at e'; cases e'), fun n e => ?_, fun d i e => ?_⟩
            · rcases spread_mem hl with ⟨k, hk⟩ | ⟨k, _, hk⟩ <;> rw [e] at hk <;> cases hk
            · rcases spread_mem hl with ⟨k, hk⟩ | ⟨k, _, hk⟩ <;> rw [e] at hk <;> cases hk
          · exact ⟨fun r e => (by cases e), fun n e => (by cases e; simp [objSites]), fun d i e => (by cases e)⟩
          · obtain ⟨a1, a2, a3⟩ := ih k2 l hl
            exact ⟨a1, fun n e => by simp [objSites, a2 n e], a3⟩
        | _ => exact (fail_some (show (Rd.fail : Rd HW).run H fp = _ from h)).elim
end
end Go.Sx
namespace Go.Sx
theorem lookO_none' {o : Own} : ∀ {m : List (Own × Own)} {base : Own → Option Own}, lookO m base o ≠ base o → ∃ t, (o, t) ∈ m
  | [], _, h => absurd rfl h
  | (x, y) :: r, base, h => by
    unfold lookO at h
    by_cases e : o = x
    · exact ⟨y, by simp [e]⟩
    · rw [if_neg e] at h
      obtain ⟨t, ht⟩ := lookO_none' h
      exact ⟨t, by simp [ht]⟩
/-- labels behind a call -/
def shO (id : Nat) (sites : List Nat) : Own → Own
  | .row k => .row (id + k)
  | .site k => cond (Nat.blt k 81) (.site (id + k)) (.site (sites.getD ((k - 81) / 20) 0))
theorem run_callFunc {P : Program} {f : FuncId} {fn : Func} (h1 : P.funcs[f]? = some fn) (h2 : fn.body.isNone = false) (h3 : (fn.name == "runtime.NumGoroutine") = false) (args : Array Value) (w : World) : (callFunc f args).run P w = .ok (.enter f args) w := by
  have h3' : fn.name ≠ "runtime.NumGoroutine" := by simpa using h3
  have h2' : fn.body ≠ none := fun e => by rw [e] at h2; exact Bool.noConfusion h2
  simp [callFunc, h1, h2', h3']
/-- an argument that points to a variable which holds a pointer -/
def BoxAt (H : HLoc → SV) (s : SV) : Prop := ∃ st off b o, s = .adr st off ∧ H (.site st) = .obj ptrTy ∧ H (.fld st 0) = .adr b o
theorem gatherO_box {H : HLoc → SV} {mk : Nat → HLoc} {b o : Nat} (hb : H (mk 0) = .adr b o) {os : List Bool} {fp fp' : List HLoc} {q : (lay ptrTy).den × HW} (h : (gatherO mk os (lay ptrTy) 0).run H fp = some (q, fp')) : False := by
  have h : ((cond (hdB os) (cond (pbO os 1) (toPV0 ptrTy (H (mk 0))) (privV ptrTy (H (mk 0)))) (toPV0 ptrTy (H (mk 0)))).bind fun p => (gatherO mk (tlB os) Ty.unit 1).bind fun q => Rd.ret (((p.1, q.1) : ptrTy.den × Unit), p.2 ++ q.2)).run H (mk 0 :: fp) = some (q, fp') := h
  rw [hb] at h
  obtain ⟨y, fp1, k1, _⟩ := bind_some h
  have e : (cond (hdB os) (cond (pbO os 1) (toPV0 ptrTy (SV.adr b o)) (privV ptrTy (SV.adr b o))) (toPV0 ptrTy (SV.adr b o))) = Rd.fail := by
    cases hdB os <;> cases pbO os 1 <;> rfl
  rw [e] at k1
  exact fail_some k1
theorem collA_tail {H : HLoc → SV} {p : PS} {ps : List PS} {s : SV} {svs : List SV} {q : (argTy (p :: ps)).den × HW × List HLoc} {fp fp' : List HLoc} (h : (collA (p :: ps) (s :: svs)).run H fp = some (q, fp')) :
    (∃ q' fp1 fp2, (collA ps svs).run H fp1 = some (q', fp2)) ∧ ((∃ f d n, s = .fn f d n ∧ capN p = n) ∨ (BoxAt H s ∧ capN p = 1) ∨ ((∀ f d n, s ≠ .fn f d n) ∧ ¬ BoxAt H s ∧ capN p = 0)) := by
  cases p with
  | pure t =>
    rw [collA_pure] at h
    obtain ⟨y, fp1, k1, h⟩ := bind_some h
    obtain ⟨z, fp2, k2, h⟩ := bind_some h
    refine ⟨⟨_, _, _, k2⟩, .inr (.inr ⟨fun f d n e => ?_, fun ⟨_, _, _, _, e, _⟩ => ?_, rfl⟩)⟩
    · subst e
      exact (fail_some k1).elim
    · subst e
      exact (fail_some k1).elim
  | box =>
    obtain ⟨z, hw, d⟩ := q
    obtain ⟨st, b, o, svs', fp1, fp2, z2, hw2, d2, rfl, rfl, hobj, hfld, k3, rfl, rfl, rfl⟩ := collA_box_run h
    exact ⟨⟨_, _, _, k3⟩, .inr (.inl ⟨⟨st, 0, b, o, rfl, hobj, hfld⟩, rfl⟩)⟩
  | nilp =>
    rw [collA_nilp] at h
    cases s <;> first | exact (fail_some h).elim | exact ⟨⟨_, _, _, h⟩, .inr (.inr ⟨fun f d n e => (by cases e), fun ⟨_, _, _, _, e, _⟩ => (by cases e), rfl⟩)⟩
  | fnc f n =>
    rw [collA_fnc] at h
    cases s <;> first | exact (fail_some h).elim | skip
    rename_i f' d n'
    simp only at h
    cases hb : cond (Nat.beq f f') (Nat.beq n n') false with
    | false => rw [hb] at h; exact (fail_some h).elim
    | true =>
      rw [hb] at h
      obtain ⟨_, hb2⟩ := cond_and hb
      exact ⟨⟨_, _, _, h⟩, .inl ⟨f', d, n', rfl, Nat.eq_of_beq_eq_true hb2⟩⟩
  | obj t os =>
    rw [collA_obj] at h
    cases s <;> first | exact (fail_some h).elim | skip
    rename_i st off
    simp only at h
    cases hoff : Nat.beq off 0 with
    | false => rw [hoff] at h; exact (fail_some h).elim
    | true =>
      rw [hoff] at h
      simp only [cond, Rd.run] at h
      split at h
      · rename_i t' hobj
        cases hb : t'.beq t with
        | false => rw [hb] at h; exact (fail_some h).elim
        | true =>
          rw [hb] at h
          obtain ⟨y, fp1, k1, h⟩ := bind_some h
          obtain ⟨d, fp2, k2, h⟩ := bind_some h
          obtain ⟨z, fp3, k3, h⟩ := bind_some h
          obtain rfl := Ty.beq_eq hb
          refine ⟨⟨_, _, _, k3⟩, .inr (.inr ⟨fun f d n e => (by cases e), fun ⟨st', off', b, o, e, h1, h2⟩ => ?_, rfl⟩)⟩
          cases e
          rw [hobj] at h1
          cases h1
          exact gatherO_box (mk := .fld st) h2 k1
      · exact (fail_some h).elim
theorem unf_drop {H : HLoc → SV} {vs : List SV} {uvs : List Value} {R : List Value} (hR : ∀ (ps : List PS) q fp1 fp2, (collA ps vs).run H fp1 = some (q, fp2) → unf 0 ps uvs = R) : ∀ {cs : List SV} {caps : List Value} {ps : List PS} {q : (argTy ps).den × HW × List HLoc} {fp fp' : List HLoc},
    cs.length = caps.length → (collA ps (cs ++ vs)).run H fp = some (q, fp') → unf cs.length ps (caps ++ uvs) = R
  | [], caps, ps, q, fp, fp', hl, h => by
    obtain rfl : caps = [] := by cases caps with | nil => rfl | cons => simp at hl
    exact hR ps _ _ _ h
  | c :: cs, [], _, _, _, _, hl, _ => by simp at hl
  | c :: cs, u :: caps, ps, q, fp, fp', hl, h => by
    cases ps with
    | nil => rw [show c :: cs ++ vs = c :: (cs ++ vs) from rfl, collA_nil'] at h; exact (fail_some h).elim
    | cons p ps =>
      obtain ⟨⟨q', fp1, fp2, k⟩, _⟩ := collA_tail h
      exact unf_drop hR (ps := ps) (by simpa using hl) k
theorem noFn_cap : ∀ {cs : List SV} {caps : List Value} {svs : List SV} {vs : List Value}, noFn cs = true → cs.length = caps.length → CapOk svs vs → CapOk (cs ++ svs) (caps ++ vs)
  | [], caps, svs, vs, _, hl, h => by
    obtain rfl : caps = [] := by cases caps with | nil => rfl | cons => simp at hl
    exact h
  | c :: cs, [], _, _, _, hl, _ => by simp at hl
  | c :: cs, u :: caps, svs, vs, hn, hl, h => by
    have : ∀ {x : Prop}, (noFn cs = true → x) → noFn (c :: cs) = true → x := fun f hx => f (by cases c <;> first | exact hx | exact Bool.noConfusion hx)
    have ih := this (fun hn => noFn_cap hn (by simpa using hl) h) hn
    cases c <;> first | exact ih | exact Bool.noConfusion hn
/-- functions among arguments, each with what it captured behind it -/
theorem flatA_ok {C : Ctx} {g : Gh} {S : Nat → SV} {H : HLoc → SV} {a : Act} {w : World} (hs : SimG C g S H a w) : ∀ {svs : List SV} {vs : List Value} {us : List SV} {fp fp' : List HLoc}, (flatA svs).run H fp = some (us, fp') → svs.length = vs.length →
    (∀ (i : Nat) (s : SV) (x : Value), svs[i]? = some s → vs[i]? = some x → SR g (view g.fl w) s x ∧ RefOk H s) →
    ∃ uvs : List Value, us.length = uvs.length ∧ CapOk us uvs ∧ (∀ (i : Nat) (s : SV) (x : Value), us[i]? = some s → uvs[i]? = some x → SR g (view g.fl w) s x ∧ RefOk H s) ∧ (∀ (ps : List PS) q fp1 fp2, (collA ps us).run H fp1 = some (q, fp2) → unf 0 ps uvs = vs)
  | [], vs, us, fp, fp', h, hl, _ => by
    obtain ⟨e, _⟩ := ret_some h
    subst e
    obtain rfl : vs = [] := by cases vs with | nil => rfl | cons => simp at hl
    exact ⟨[], rfl, trivial, fun i s x h1 => by simp at h1, fun ps _ _ _ _ => by cases ps <;> rfl⟩
  | s :: svs, [], _, _, _, _, hl, _ => by simp at hl
  | s :: svs, v :: vs, us, fp, fp', h, hl, hv => by
    obtain ⟨v1, v2⟩ := hv 0 s v rfl rfl
    have tl := fun (i : Nat) (s' : SV) (x : Value) (h1 : svs[i]? = some s') (h2 : vs[i]? = some x) => hv (i + 1) s' x (by simpa using h1) (by simpa using h2)
    have plain : (∀ f d n, s ≠ .fn f d n) → ¬ BoxAt H s → ∀ {fp : List HLoc}, ((flatA svs).bind fun q => Rd.ret (s :: q)).run H fp = some (us, fp') → ∃ uvs : List Value, us.length = uvs.length ∧ CapOk us uvs ∧ (∀ (i : Nat) (s : SV) (x : Value), us[i]? = some s → uvs[i]? = some x → SR g (view g.fl w) s x ∧ RefOk H s) ∧ (∀ (ps : List PS) q fp1 fp2, (collA ps us).run H fp1 = some (q, fp2) → unf 0 ps uvs = v :: vs) := by
      intro hne hnb fp h
      obtain ⟨us', fp1, k1, h⟩ := bind_some h
      obtain ⟨e, _⟩ := ret_some h
      subst e
      obtain ⟨uvs, a1, a2, a3, a4⟩ := flatA_ok hs k1 (by simpa using hl) tl
      refine ⟨v :: uvs, by simp [a1], ?_, fun i s' x h1 h2 => ?_, fun ps q fp1 fp2 hc => ?_⟩
      · cases s <;> first | exact a2 | exact absurd rfl (hne _ _ _)
      · cases i with
        | zero =>
          simp only [List.getElem?_cons_zero, Option.some.injEq] at h1 h2
          subst h1; subst h2
          exact ⟨v1, v2⟩
        | succ i => exact a3 i s' x (by simpa using h1) (by simpa using h2)
      · cases ps with
        | nil => rw [collA_nil'] at hc; exact (fail_some hc).elim
        | cons p ps =>
          obtain ⟨⟨q', fp3, fp4, k⟩, hcap⟩ := collA_tail hc
          rcases hcap with ⟨f, d, n, e, _⟩ | ⟨hb, _⟩ | ⟨_, _, hcap⟩
          · exact absurd e (hne f d n)
          · exact absurd hb hnb
          · show v :: unf (capN p) ps uvs = _
            rw [hcap, a4 ps _ _ _ k]
    cases s with
    | fn f d n =>
      obtain ⟨cs, fp1, k1, h⟩ := bind_some (show ((getN d n 0).bind _).run H fp = _ from h)
      have hcs := getN_run k1
      cases hn : noFn cs with
      | false => rw [hn] at h; exact (fail_some h).elim
      | true =>
        rw [hn] at h
        obtain ⟨us', fp2, k2, h⟩ := bind_some (show ((flatA svs).bind _).run H fp1 = _ from h)
        obtain ⟨e, _⟩ := ret_some h
        subst e
        obtain ⟨uvs, a1, a2, a3, a4⟩ := flatA_ok hs k2 (by simpa using hl) tl
        have hcl : cs.length = n := by rw [hcs]; simp
        have hv1 : v = .func (.func f) #[] ((List.range n).map (g.cv d)).toArray := v1
        refine ⟨v :: ((List.range n).map (g.cv d) ++ uvs), by simp [a1, hcl], ⟨⟨?_, by simp⟩, noFn_cap hn (by simp [hcl]) a2⟩, fun i s' x h1 h2 => ?_, fun ps q fp3 fp4 hc => ?_⟩
        · rw [hv1, List.take_left' (by simp)]
        · cases i with
          | zero =>
            simp only [List.getElem?_cons_zero, Option.some.injEq] at h1 h2
            subst h1; subst h2
            exact ⟨v1, v2⟩
          | succ i =>
            simp only [List.getElem?_cons_succ] at h1 h2
            by_cases hi : i < n
            · rw [List.getElem?_append_left (by omega)] at h1
              rw [List.getElem?_append_left (by simpa using hi)] at h2
              rw [hcs, List.getElem?_map] at h1
              rw [List.getElem?_map] at h2
              obtain ⟨k, hk1, rfl⟩ := Option.map_eq_some_iff.1 h1
              have hk2 : (List.range n)[i]? = some k := by rw [List.range_eq_range']; exact hk1
              rw [hk2] at h2
              simp only [Option.map_some, Option.some.injEq] at h2
              subst h2
              exact ⟨hs.comps d k, hs.refC d k⟩
            · rw [List.getElem?_append_right (by omega)] at h1
              rw [List.getElem?_append_right (by simp; omega)] at h2
              simp only [List.length_map, List.length_range] at h2
              rw [hcl] at h1
              exact a3 _ s' x h1 h2
        · cases ps with
          | nil => rw [collA_nil'] at hc; exact (fail_some hc).elim
          | cons p ps =>
            obtain ⟨⟨q', fp3, fp4, k⟩, hcap⟩ := collA_tail hc
            rcases hcap with ⟨f', d', n', e, hcap⟩ | ⟨⟨_, _, _, _, e, _⟩, _⟩ | ⟨hne, _⟩
            · cases e
              show v :: unf (capN p) ps _ = _
              have := unf_drop (R := vs) a4 (cs := cs) (caps := (List.range n).map (g.cv d)) (ps := ps) (by simp [hcl]) k
              rw [hcap, ← hcl]
              rw [hcl] at this ⊢
              rw [this]
            · cases e
            · exact absurd rfl (hne f d n)
    | adr st off =>
      simp only [flatA, Rd.run] at h
      cases hbx : isBox (H (.site st)) with
      | false =>
        rw [hbx] at h
        exact plain (fun f d n e => by cases e) (fun ⟨st', off', b, o, e, h1, _⟩ => by
          cases e
          rw [h1] at hbx
          have : isBox (.obj ptrTy) = true := rfl
          rw [this] at hbx
          exact Bool.noConfusion hbx) h
      | true =>
        rw [hbx] at h
        have hobj : H (.site st) = .obj ptrTy := by
          cases hw : H (.site st) with
          | obj t =>
            rw [hw] at hbx
            rw [Ty.beq_eq (show t.beq ptrTy = true from hbx)]
          | _ => rw [hw] at hbx; exact Bool.noConfusion hbx
        simp only [Rd.run] at h
        have no : (∀ b o, H (.fld st 0) ≠ .adr b o) → ¬ BoxAt H (.adr st off) := fun hn ⟨st', off', b, o, e, _, h2⟩ => by
          cases e
          exact hn b o h2
        split at h
        · rename_i b o hfld
          obtain ⟨us', fp1, k1, h⟩ := bind_some h
          obtain ⟨e, _⟩ := ret_some h
          subst e
          obtain ⟨uvs, a1, a2, a3, a4⟩ := flatA_ok hs k1 (by simpa using hl) tl
          have hp : SR g (view g.fl w) (.adr b o) (.pointer (some ⟨g.st b, o, none⟩)) := rfl
          have hrf := hs.refF st 0
          rw [hfld] at hrf
          have hB : BoxAt H (.adr st off) := ⟨st, off, b, o, rfl, hobj, hfld⟩
          refine ⟨v :: .pointer (some ⟨g.st b, o, none⟩) :: uvs, by simp [a1], a2, fun i s' x h1 h2 => ?_, fun ps q fp1 fp2 hc => ?_⟩
          · match i with
            | 0 =>
              simp only [List.getElem?_cons_zero, Option.some.injEq] at h1 h2
              subst h1; subst h2
              exact ⟨v1, v2⟩
            | 1 =>
              simp only [List.getElem?_cons_succ, List.getElem?_cons_zero, Option.some.injEq] at h1 h2
              subst h1; subst h2
              exact ⟨hp, hrf⟩
            | i + 2 => exact a3 i s' x (by simpa using h1) (by simpa using h2)
          · cases ps with
            | nil => rw [collA_nil'] at hc; exact (fail_some hc).elim
            | cons p ps =>
              obtain ⟨⟨q', fp3, fp4, k⟩, hcap⟩ := collA_tail hc
              rcases hcap with ⟨f, d, n, e, _⟩ | ⟨_, hcap⟩ | ⟨_, hnb, _⟩
              · cases e
              · show v :: unf (capN p) ps _ = _
                rw [hcap]
                cases ps with
                | nil => rw [collA_nil'] at k; exact (fail_some k).elim
                | cons p2 ps =>
                  obtain ⟨⟨q'', fp5, fp6, k2⟩, _⟩ := collA_tail k
                  show v :: unf 0 ps uvs = _
                  rw [a4 ps _ _ _ k2]
              · exact absurd hB hnb
        · rename_i hn
          exact plain (fun f d n e => by cases e) (no hn) h
    | _ => exact plain (fun f d n e => by cases e) (fun ⟨_, _, _, _, e, _⟩ => by cases e) h
theorem puts_last {l : HLoc} : ∀ {hw : HW} {H : HLoc → SV}, puts H hw l = lastW l (H l) hw
  | [], _ => rfl
  | (m, u) :: r, H => by
    show puts (updH H m u) r l = lastW l (cond (l.beq m) u (H l)) r
    rw [puts_last]; rfl
theorem lastW_free {l : HLoc} : ∀ {hw : HW} {v v' : SV}, l ∈ fsts hw → lastW l v hw = lastW l v' hw
  | [], _, _, h => by simp [fsts] at h
  | (m, u) :: r, v, v', h => by
    show lastW l (cond (l.beq m) u v) r = lastW l (cond (l.beq m) u v') r
    cases hb : l.beq m with
    | true => rfl
    | false =>
      rcases List.mem_cons.1 (show l ∈ m :: fsts r from h) with e | h
      · rw [e, HLoc.beq_refl] at hb; exact Bool.noConfusion hb
      · exact lastW_free h
theorem lastW_out {l : HLoc} : ∀ {hw : HW} {v : SV}, l ∉ fsts hw → lastW l v hw = v
  | [], _, _ => rfl
  | (m, u) :: r, v, h => by
    show lastW l (cond (l.beq m) u v) r = v
    have h1 : l ≠ m ∧ l ∉ fsts r := by simpa [fsts, not_or] using h
    rw [HLoc.beq_ne h1.1]
    exact lastW_out h1.2
theorem puts_dropL {l m : HLoc} (hm : m ≠ l) : ∀ {hw : HW} {H H' : HLoc → SV}, H m = H' m → puts H (dropL l hw) m = puts H' hw m
  | [], _, _, h => h
  | (k, u) :: r, H, H', h => by
    simp only [dropL]
    cases hb : l.beq k with
    | true =>
      obtain rfl := HLoc.beq_eq hb
      show puts H (dropL l r) m = puts (updH H' l u) r m
      exact puts_dropL hm (by rw [updH_ne _ _ hm]; exact h)
    | false =>
      show puts (updH H k u) (dropL l r) m = puts (updH H' k u) r m
      refine puts_dropL hm ?_
      by_cases e : m = k
      · subst e; rw [updH_self, updH_self]
      · rw [updH_ne _ _ e, updH_ne _ _ e]; exact h
theorem puts_dropL_self {l : HLoc} : ∀ {hw : HW} {H : HLoc → SV}, puts H (dropL l hw) l = H l
  | [], _ => rfl
  | (k, u) :: r, H => by
    simp only [dropL]
    cases hb : l.beq k with
    | true => exact puts_dropL_self (hw := r)
    | false =>
      show puts (updH H k u) (dropL l r) l = H l
      rw [puts_dropL_self (hw := r), updH_ne _ _ fun e => by rw [e, HLoc.beq_refl] at hb; exact Bool.noConfusion hb]
theorem dropS_ok {H : HLoc → SV} : ∀ {ls : List HLoc} {hw hw' : HW} {fp fp' : List HLoc}, (dropS ls hw).run H fp = some (hw', fp') → puts H hw' = puts H hw
  | [], hw, hw', fp, fp', h => by obtain ⟨e, _⟩ := ret_some h; rw [e]
  | l :: ls, hw, hw', fp, fp', h => by
    simp only [dropS, Rd.run] at h
    cases hb : sameObj (H l) (lastW l .bot hw) with
    | false => rw [hb] at h; exact (fail_some h).elim
    | true =>
      rw [hb] at h
      rw [dropS_ok h]
      have hv := sameObj_ok hb
      funext m
      by_cases e : m = l
      · subst e
        rw [puts_dropL_self, puts_last]
        by_cases hm : m ∈ fsts hw
        · rw [lastW_free (v' := .bot) hm]; exact hv.symm
        · rw [lastW_out hm]
      · exact puts_dropL e rfl
theorem callOk {P : Program} {tab : Tab} {Γ : FuncId → List Sig} (hF : ∀ f sg, sg ∈ Γ f → FOk P f sg) : CallOk P tab Γ := by
  intro C g S H a w id f svs0 vs0 v hw fp0 fp' o hs hlen0 hv0 h K Q hK
  unfold acall at h
  obtain ⟨svs, fp, hfl0, h⟩ := bind_some h
  obtain ⟨vs, hlen, hcap, hv, hunf⟩ := flatA_ok hs hfl0 hlen0 hv0
  split at h
  · rename_i sg hsg
    have hfo := hF f sg (pickSig_mem hsg)
    obtain ⟨⟨v0, hw0⟩, fpA, hA, h0⟩ := bind_some h
    clear h
    obtain ⟨hwB, fpB, hdr, h0⟩ := bind_some h0
    obtain ⟨e0, _⟩ := ret_some h0
    cases e0
    rw [dropS_ok hdr] at hK
    have h := hA
    unfold acallS at h
    obtain ⟨⟨x, pubs, drops⟩, fp1, k1, h⟩ := bind_some h
    obtain ⟨ks, fp1', k1', h⟩ := bind_some h
    have hks := keepA_run k1'
    cases hdj : disjL ks (fsts pubs) with
    | false => cases hnd : nodupL drops <;> (simp only [hnd, hdj, cond] at h; exact (fail_some h).elim)
    | true =>
    simp only [hdj] at h
    cases hnd : nodupL drops with
    | false => simp only [hnd, cond] at h; exact (fail_some h).elim
    | true =>
      simp only [hnd, cond] at h
      obtain ⟨y, hy, h⟩ := opt_some h
      obtain ⟨⟨v1, ws1, z⟩, fp2, k2, h⟩ := bind_some h
      obtain ⟨ws2, fp3, k3, h⟩ := bind_some h
      cases hnd2 : nodupL (fsts (ws1 ++ ws2)) with
      | false => simp only [hnd2, cond] at h; exact (fail_some h).elim
      | true =>
        simp only [hnd2, cond] at h
        obtain ⟨e, _⟩ := ret_some h
        cases e
        obtain ⟨fn, c1, c2, c3⟩ := hfo.code
        refine ⟨run_callFunc c1 c2 c3 _ _, ?_⟩
        rw [← hunf sg.ps _ _ _ k1]
        obtain ⟨p1, p2, m, m1, m2⟩ := collA_ok hs (i := 0) k1 hlen hcap hv
        obtain ⟨fl, own1, q1, q2⟩ := hs.pubs p1
        have hargs := m2 (fun y h => h) p1 (fun l hl => disjL_ok hdj l (by rw [hks]; exact hl)) q1 q2 (fun o t => (o, t) ∈ m) fun p hp => hp
        let ownC : Nat → Option Own := fun b => (own1 b).bind (lookO m fun _ => none)
        have hnm := nodup_fst (m := m) (by rw [← m1]; exact nodupL_ok hnd)
        have hC : ∀ b, ownC b ≠ none → ∃ o t, own1 b = some o ∧ (o, t) ∈ m := fun b hb => by
          cases ho : own1 b with
          | none => simp [ownC, ho] at hb
          | some o =>
            simp only [ownC, ho, Option.bind_some] at hb
            obtain ⟨t, ht⟩ := lookO_none' hb
            exact ⟨o, t, rfl, ht⟩
        have hownlt : ∀ b, ownC b ≠ none → b < w.heap.size ∧ (C.w0.heap.size ≤ b ∨ C.M b) := fun b hb => by
          obtain ⟨o, t, h1, _⟩ := hC b hb
          exact q1.own b (by show own1 b ≠ none; rw [h1]; simp)
        refine Calls.mono (hfo.call (w := w) (fl := fl) (own := ownC) (vs := vs) (x := x) (y := y) (fun b hb => (hownlt b hb).1) (hargs.relab (Relab.same fun o t ht => ⟨t, rfl, fun b hb => by
          simp only [ownC, hb, Option.bind_some]; exact lookO_mem hnm (o, t) ht⟩)) hy) ?_
        rintro e w' ⟨rs, fl', own', rfl, hext, hfl, hle, hown', hres⟩
        -- the new ghost
        let sites := objSites sg.ps svs
        let sh := shO id sites
        let own2 : Nat → Option Own := fun b => match own' b with
          | some o => some (sh o)
          | none => match ownC b with
            | some _ => none
            | none => own1 b
        have hd := q1.drops (m := m)
        rw [← m1] at hd
        have keep : ∀ b o, own1 b = some o → (∀ t, (o, t) ∉ m) → ownC b = none ∧ own2 b = some o ∧ w'.heap[b]? = w.heap[b]? ∧ fl' b = fl b := fun b o hb hm => by
          have hn : ownC b = none := by
            cases hc : ownC b with
            | none => rfl
            | some u =>
              obtain ⟨o', t, h1, h2⟩ := hC b (by rw [hc]; simp)
              rw [hb] at h1
              cases h1
              exact absurd h2 (hm t)
          have hlt := (q1.own b (by show own1 b ≠ none; rw [hb]; simp)).1
          have hn' : own' b = none := by
            cases hc : own' b with
            | none => rfl
            | some u =>
              rcases (hown' b (by rw [hc]; simp)).2 with h | h
              · omega
              · exact absurd hn h
          exact ⟨hn, by simp only [own2, hn', hn, hb], hext.block b hlt (by rw [hn]; simp), hfl b hlt hn⟩
        have hdrop : ∀ o t, (o, t) ∈ m → locO o ∈ drops := fun o t h => by rw [m1]; exact List.mem_map.2 ⟨(o, t), h, rfl⟩
        have hbd : ∀ b, b < C.w0.heap.size → ¬ C.M b → ownC b = none := fun b h1 h2 => by
          cases hc : ownC b with
          | none => rfl
          | some u =>
            rcases (hownlt b (by rw [hc]; simp)).2 with h | h
            · omega
            · exact absurd h h2
        have hw0 := q1.ext.size
        have hg : SimG C { g with fl := fl', own := own2 } S (puts (puts H pubs) (undW drops)) a w' := by
          refine hd.grow (GAgree.same rfl rfl rfl) hle (fun n t hn ho => ?_) (fun r pub e l b cap hr _ ho => ?_) (fun b hb => ?_) (fun b h1 h2 => ?_) ?_
          · have := keep (g.st n) (.site n) ho fun t hm => by
              have := undW_get (H := puts H pubs) (hdrop _ _ hm)
              rw [show locO (.site n) = HLoc.site n from rfl] at this
              rw [this] at hn; cases hn
            exact ⟨this.2.2.1, this.2.1, this.2.2.2⟩
          · have := keep b (.row r) ho fun t hm => by
              have := undW_get (H := puts H pubs) (hdrop _ _ hm)
              rw [show locO (.row r) = HLoc.row r from rfl] at this
              rw [this] at hr; cases hr
            exact ⟨this.2.2.1, this.2.1, this.2.2.2⟩
          · have hb : own2 b ≠ none := hb
            cases hc : own' b with
            | some u =>
              have h1 := hown' b (by rw [hc]; simp)
              refine ⟨h1.1, ?_⟩
              rcases h1.2 with h | h
              · exact .inl (by omega)
              · exact (hownlt b h).2
            | none =>
              cases hc2 : ownC b with
              | some u => simp only [own2, hc, hc2] at hb; exact absurd rfl hb
              | none =>
                simp only [own2, hc, hc2] at hb
                have h1 := q1.own b hb
                exact ⟨Nat.lt_of_lt_of_le h1.1 hext.size, h1.2⟩
          · show fl' b = C.fl0 b
            rw [hfl b (by omega) (hbd b h1 h2)]
            exact q1.old b h1 h2
          · refine ⟨hext.os.trans q1.ext.os, hext.tape.trans q1.ext.tape, hext.output.trans q1.ext.output, Nat.le_trans hw0 hext.size, fun b h1 h2 => ?_⟩
            rw [hext.block b (by omega) (by rw [hbd b h1 h2]; simp)]
            exact q1.ext.block b h1 h2
        -- results
        have hsh : ∀ k, sh (.row k) = .row (id + k) := fun k => rfl
        have hsb : ∀ k, k < 81 → sh (.site k) = .site (id + k) := fun k hk => by
          have hb : Nat.blt k 81 = true := Nat.ble_eq_true_of_le hk
          simp only [sh, shO, hb, cond]
        have hrel : Relab Eq (fun o t => o = sh t) fl' fl' own' own2 w' := Relab.same fun o t ht => by
          subst ht
          exact ⟨sh o, rfl, fun b hb => by simp only [own2, hb]⟩
        have hres2 := hres.relab (own' := own2) (k' := fun z => ObjsX (fun o t => o = sh t) fl' own2 w' 0 sg.ps vs z) hrel fun z hz => hz.relab hrel
        have hnW := nodupL_ok hnd2
        rw [fsts_append] at hnW
        obtain ⟨w1, w2, w3⟩ := List.nodup_append.1 hnW
        have hbot0 : ∀ l, H l = .bot → puts (puts H pubs) (undW drops) l = .bot := fun l hl => by
          rw [puts_ne (by rw [undW_fsts]; exact fun hm => p2 l hm hl)]
          exact pubs_bot hl p1
        obtain ⟨g1, a1, a2, a3, a4, a5, a6⟩ := results_ok (T := fun o t => o = sh t) (fun o t h => h) hsh hsb k2 hg hres2 (fun l hl hn => hbot0 l (results_fresh k2 l hl hn)) w1 hfo.few
        have hbk := backA_fresh k3
        have hsites := collA_sites k1
        have hres3 : ObjsX (fun o t => o = sh t) g1.fl g1.own w' 0 sg.ps vs z := by rw [a1.fl, a1.own]; exact a6
        obtain ⟨g2, b1, b2, b3⟩ := backA_ok (T := fun o t => o = sh t) (fun o t h => h) hsh (j := 0) (g0 := g) (iv0 := view g.fl w) k3 a2 hres3 (fun k s hk => by
            have hb : Nat.blt (81 + 20 * (0 + k)) 81 = false := by
              cases hb : Nat.blt (81 + 20 * (0 + k)) 81 with
              | false => rfl
              | true => have : 81 + 20 * (0 + k) < 81 := Nat.le_of_ble_eq_true hb; omega
            simp only [sh, shO, hb, cond]
            rw [show (81 + 20 * (0 + k) - 81) / 20 = k from by omega, List.getD_eq_getElem?_getD, hk]; rfl) hlen (fun k s v' h1 h2 => (hv k s v' h1 h2).1) (fun s hs' => by
            have hl := hsites s hs'
            have hu : puts (puts H pubs) (undW drops) (.site s) ≠ .bot := by rw [undW_get hl]; exact SV.noConfusion
            exact a1.ag.st s hu) (fun l hl => by
            have hnl : l ∉ fsts ws1 := fun hm => w3 l hm l hl rfl
            obtain ⟨d1, d2, _⟩ := hbk l hl
            refine ⟨fun r e => by rw [puts_ne hnl]; exact hbot0 l (d1 r e), fun n e => ?_⟩
            rw [puts_ne hnl]
            have := hsites n (d2 n e)
            rw [e]
            exact undW_get this) w2
        have eP : puts H (pubs ++ (undW drops ++ (ws1 ++ ws2))) = puts (puts (puts (puts H pubs) (undW drops)) ws1) ws2 := by rw [puts_append, puts_append, puts_append]
        refine hK (retV rs) w' g2 (by rw [eP]; exact b2) ?_ ?_
        · exact SR.change b1.ag (by rw [b1.fl]; exact IV.le.refl _) a5 a4
        · rw [eP]
          have live : ∀ l, puts (puts (puts H pubs) (undW drops)) ws1 l ≠ .bot → puts (puts (puts (puts H pubs) (undW drops)) ws1) ws2 l ≠ .bot := fun l hl => puts_live b3 hl
          cases v0 <;> first | exact trivial | exact live _ a5 | exact fun i hi => live _ (a5 i hi)
  · exact (fail_some h).elim
end Go.Sx
namespace Go.Sx
section
variable {C : Ctx} {a : Act} {w : World}
theorem GAgree.trans {H H' : HLoc → SV} {g g' g'' : Gh} (h : GAgree H g g') (h' : GAgree H' g' g'') (hH : ∀ l, H l ≠ .bot → H' l ≠ .bot) : GAgree H g g'' :=
  ⟨fun n hn => (h'.st n (hH _ hn)).trans (h.st n hn), fun r hr => (h'.hd r (hH _ hr)).trans (h.hd r hr), fun d i hd => (h'.cv d i (hH _ hd)).trans (h.cv d i hd)⟩
/-- a parameter finds its place -/
theorem putT_ok {g : Gh} {s : St} {c d j sl : Nat} {v : SV} {val : Value} (hs : SimG C g s.S s.H a w) (hv : SR g (view g.fl w) v val) (hr : RefOk s.H v) (hne : v ≠ .bot) (h0 : c = 0 → a.tmps.getD sl undef = val) (hc : c ≠ 0 → s.H (.comp d j) = .bot) :
    ∃ g1, g1.fl = g.fl ∧ g1.own = g.own ∧ SimG C g1 (putT s c d j sl v).S (putT s c d j sl v).H a w ∧ (∀ l, s.H l ≠ .bot → (putT s c d j sl v).H l = s.H l) ∧ (∀ l, (c ≠ 0 → l ≠ .comp d j) → (putT s c d j sl v).H l = s.H l) ∧ GAgree s.H g g1 ∧
      (c ≠ 0 → (putT s c d j sl v).H (.comp d j) ≠ .bot ∧ g1.cv d j = val) ∧ (putT s c d j sl v).lkH = s.lkH ∧ (putT s c d j sl v).lkS = s.lkS := by
  cases c with
  | zero => exact ⟨g, rfl, rfl, hs.reslot (by rw [h0 rfl]; exact hv) hr, fun _ _ => rfl, fun _ _ => rfl, GAgree.refl _ _, fun h => absurd rfl h, rfl, rfl⟩
  | succ c =>
    have hb := hc (by simp)
    refine ⟨{ g with cv := fun d' i' => if d' = d ∧ i' = j then val else g.cv d' i' }, rfl, rfl, hs.setComp (d := d) (i := j) (val := val) hb hne hr hv, fun l hl => ?_, fun l hl => ?_, ⟨fun _ _ => rfl, fun _ _ => rfl, fun d' k' hne' => ?_⟩, fun _ => ⟨?_, by simp⟩, rfl, rfl⟩
    · exact updH_ne _ _ fun e => hl (e ▸ hb)
    · exact updH_ne _ _ (hl (by simp))
    · by_cases e : d' = d ∧ k' = j
      · obtain ⟨rfl, rfl⟩ := e; exact absurd hb hne'
      · simp [e]
    · show updH s.H (.comp d j) v (.comp d j) ≠ .bot
      rw [updH_self]; exact hne
/-- a parameter that comes with an object: its type -/
def isOb : PS → Option Ty
  | .obj t _ => some t
  | .box => some ptrTy
  | _ => none
/-- places of the parameters before -/
def LowL (i : Nat) (l : HLoc) : Prop := (∃ n, n < i ∧ (l = .site n ∨ ∃ k, l = .fld n k)) ∨ ∃ k, k < i ∧ l = .comp 999 k
/-- what a body begins with, as far as the rest needs it -/
structure InitOk (C : Ctx) (a : Act) (w : World) (g : Gh) (s : St) (c d j i : Nat) (ps : List PS) (vs : List Value) (s' : St) (g' : Gh) : Prop where
  fl : g'.fl = g.fl
  own : g'.own = g.own
  sim : SimG C g' s'.S s'.H a w
  live : ∀ l, s.H l ≠ .bot → s'.H l = s.H l
  ag : GAgree s.H g g'
  cap : ∀ k v, k < c → vs[k]? = some v → s'.H (.comp d (j + k)) ≠ .bot ∧ g'.cv d (j + k) = v
  lkS : s'.lkS = s.lkS
  lkH : ∀ l ∈ s'.lkH, l ∈ s.lkH ∨ (∃ k, l = .comp 999 k ∧ s'.H l = .adr k 0 ∧ HLoc.site k ∈ s'.lkH) ∨ ∃ n t, l = .site n ∧ s'.H l = .obj t
  lkI : ∀ l ∈ s.lkH, l ∈ s'.lkH
  keep : c = 0 ∨ d ≠ 999 → ∀ l, LowL i l → s'.H l = s.H l
  pins : ∀ k p t v, ps[k]? = some p → isOb p = some t → vs[k]? = some v → HLoc.comp 999 (i + k) ∈ s'.lkH ∧ s'.H (.comp 999 (i + k)) = .adr (i + k) 0 ∧ g'.cv 999 (i + k) = v ∧ s'.H (.site (i + k)) = .obj t
theorem initS_ok : ∀ {ps : List PS} {c d j sl i : Nat} {vs : List Value} {x : (argTy ps).den} {g : Gh} {s : St}, psOk c ps = true → SimG C g s.S s.H a w → ArgsX Eq g.fl g.own w i ps vs x → (∀ k v, (unf c ps vs)[k]? = some v → a.tmps.getD (sl + k) undef = v) →
    i + ps.length ≤ 900 → (∀ r, i * 20 ≤ r → s.H (.row r) = .bot) → (∀ n, i ≤ n → s.H (.site n) = .bot ∧ ∀ k, s.H (.fld n k) = .bot) → (∀ e k, i ≤ e → e < 999 → s.H (.comp e k) = .bot) → (c ≠ 0 → d < i ∧ ∀ k, j ≤ k → s.H (.comp d k) = .bot) → (∀ k, i ≤ k → s.H (.comp 999 k) = .bot) →
    ∃ g', InitOk C a w g s c d j i ps vs (initS s c d j sl i ps x) g' := by
  intro ps
  induction ps with
  | nil =>
    intro c d j sl i vs x g s hp hs _ _ _ _ _ _ _ _
    obtain rfl := Nat.eq_of_beq_eq_true hp
    exact ⟨g, rfl, rfl, hs, fun _ _ => rfl, GAgree.refl _ _, fun k v hk => by omega, rfl, fun l hl => .inl hl, fun l hl => hl, fun _ _ _ => rfl, fun k p t v hk => by simp at hk⟩
  | cons p ps ih =>
    intro c d j sl i vs x g s hp hs hx hv hi hr hn hcb hcd h9
    cases vs with
    | nil => cases p <;> exact hx.elim
    | cons v vs =>
      -- what is left when one of the parameters lies at its place
      have rest : ∀ {s0 s1 : St} {g0 g1 : Gh} {sv : SV} {x' : (argTy ps).den}, capN p = 0 → psOk (c - 1) ps = true → s1 = putT s0 c d j sl sv → SimG C g0 s0.S s0.H a w → g0.fl = g.fl → g0.own = g.own → GAgree s.H g g0 → (∀ l, s.H l ≠ .bot → s0.H l = s.H l) →
          (∀ l, (∀ r, i * 20 ≤ r → r < (i + 1) * 20 → l ≠ .row r) → l ≠ .site i → (∀ k, l ≠ .fld i k) → l ≠ .comp 999 i → s0.H l = s.H l) → SR g0 (view g0.fl w) sv v → RefOk s0.H sv → sv ≠ .bot → ArgsX Eq g0.fl g0.own w (i + 1) ps vs x' → s0.lkS = s.lkS → (∀ l ∈ s.lkH, l ∈ s0.lkH) →
          (∀ l ∈ s0.lkH, l ∈ s.lkH ∨ (∃ k, l = .comp 999 k ∧ s0.H l = .adr k 0 ∧ HLoc.site k ∈ s0.lkH) ∨ ∃ n t, l = .site n ∧ s0.H l = .obj t) →
          (∀ t, isOb p = some t → HLoc.comp 999 i ∈ s0.lkH ∧ s0.H (.comp 999 i) = .adr i 0 ∧ g0.cv 999 i = v ∧ s0.H (.site i) = .obj t) →
          ∃ g', InitOk C a w g s c d j i (p :: ps) (v :: vs) (initS s1 (c - 1) d (j + 1) (nxtS c sl) (i + 1) ps x') g' := by
        intro s0 s1 g0 g1 sv x' hcap0 hp' hs1 h1 h2 h3 h4 h5 h6 h7 h8 h9' h10 h11 h12 h13 h14
        have hlt : i < 999 := by simp at hi; omega
        have hcomp : c ≠ 0 → s0.H (.comp d j) = .bot := fun hc => by
          rw [h6 _ (fun _ _ _ => by simp) (by simp) (fun _ => by simp) (by simp; have := (hcd hc).1; omega)]
          exact (hcd hc).2 j (Nat.le_refl _)
        obtain ⟨g1, a1, a2, a3, a4, a5, a6, a7, a8, a9⟩ := putT_ok (c := c) (d := d) (j := j) (sl := sl) h1 h7 h8 h9' (fun hc => by
          subst hc
          exact hv 0 v (by simp [unf])) hcomp
        rw [← hs1] at a3 a4 a5 a7 a8 a9
        obtain ⟨g', b⟩ := ih (c := c - 1) (d := d) (j := j + 1) (sl := nxtS c sl) (i := i + 1) (vs := vs) (x := x') (g := g1) (s := s1) hp' a3 (by rw [a1, a2]; exact h10) (fun k u hk => by
            cases c with
            | zero =>
              have := hv (k + 1) u (by simp only [unf]; simpa [hcap0] using hk)
              rwa [show sl + (k + 1) = sl + 1 + k from by omega] at this
            | succ c => exact hv k u (by simpa [unf] using hk)) (by simp at hi; omega)
          (fun r hr' => by rw [a5 _ (fun _ => by simp), h6 _ (fun r' _ h e => by simp at e; omega) (by simp) (fun _ => by simp) (by simp)]; exact hr r (by omega))
          (fun n hn' => ⟨by rw [a5 _ (fun _ => by simp), h6 _ (fun _ _ _ => by simp) (by simp; omega) (fun _ => by simp) (by simp)]; exact (hn n (by omega)).1,
            fun k => by rw [a5 _ (fun _ => by simp), h6 _ (fun _ _ _ => by simp) (by simp) (fun _ => by simp; omega) (by simp)]; exact (hn n (by omega)).2 k⟩)
          (fun e k h1' h2' => by rw [a5 _ (fun hc => by have := (hcd hc).1; simp; omega), h6 _ (fun _ _ _ => by simp) (by simp) (fun _ => by simp) (by simp; omega)]; exact hcb e k (by omega) h2')
          (fun hc => ⟨by have := (hcd (by omega)).1; omega, fun k hk => by
            have hc' : c ≠ 0 := by omega
            rw [a5 _ (fun _ => by simp; omega), h6 _ (fun _ _ _ => by simp) (by simp) (fun _ => by simp) (by simp; have := (hcd hc').1; omega)]
            exact (hcd hc').2 k (by omega)⟩)
          (fun k hk => by rw [a5 _ (fun hc => by have := (hcd hc).1; simp; omega), h6 _ (fun _ _ _ => by simp) (by simp) (fun _ => by simp) (by simp; omega)]; exact h9 k (by omega))
        have live1 : ∀ l, s.H l ≠ .bot → s1.H l = s.H l := fun l hl => (a4 l (by rw [h5 l hl]; exact hl)).trans (h5 l hl)
        refine ⟨g', b.fl.trans (a1.trans h2), b.own.trans (a2.trans h3), b.sim, fun l hl => (b.live l (by rw [live1 l hl]; exact hl)).trans (live1 l hl), ?_, ?_, b.lkS.trans (a9.trans h11), ?_, fun l hl => b.lkI l (by rw [a8]; exact h12 l hl), fun hd l hl => ?_, ?_⟩
        · exact (h4.trans a6 fun l hl => by rw [h5 l hl]; exact hl).trans b.ag fun l hl => by rw [live1 l hl]; exact hl
        · intro k u hk hu
          cases k with
          | zero =>
            simp only [List.getElem?_cons_zero, Option.some.injEq] at hu
            subst hu
            obtain ⟨q1, q2⟩ := a7 (by omega)
            show (initS s1 (c - 1) d (j + 1) (nxtS c sl) (i + 1) ps x').H (.comp d j) ≠ .bot ∧ g'.cv d j = v
            rw [b.live _ q1, b.ag.cv _ _ q1]
            exact ⟨q1, q2⟩
          | succ k =>
            have := b.cap k u (by omega) (by simpa using hu)
            rwa [show j + 1 + k = j + (k + 1) from by omega] at this
        · intro l hl
          rcases b.lkH l hl with hl | hl
          · rw [a8] at hl
            rcases h13 l hl with hl | ⟨k, rfl, q1, q2⟩ | ⟨n, t, rfl, q1⟩
            · exact .inl hl
            · have e1 : s1.H (.comp 999 k) = s0.H (.comp 999 k) := a4 _ (by rw [q1]; exact SV.noConfusion)
              have e2 := b.live (.comp 999 k) (by rw [e1, q1]; exact SV.noConfusion)
              exact .inr (.inl ⟨k, rfl, by rw [e2, e1, q1], b.lkI _ (by rw [a8]; exact q2)⟩)
            · have e1 : s1.H (.site n) = s0.H (.site n) := a4 _ (by rw [q1]; exact SV.noConfusion)
              have e2 := b.live (.site n) (by rw [e1, q1]; exact SV.noConfusion)
              exact .inr (.inr ⟨n, t, rfl, by rw [e2, e1, q1]⟩)
          · exact .inr hl
        · have hl2 : LowL (i + 1) l := by
            rcases hl with ⟨n, hn1, hn2⟩ | ⟨k, hk1, hk2⟩
            · exact .inl ⟨n, by omega, hn2⟩
            · exact .inr ⟨k, by omega, hk2⟩
          rw [b.keep (hd.imp (fun h => by omega) id) l hl2, a5 l (fun hc => ?_)]
          · rcases hl with ⟨n, hn1, rfl | ⟨k, rfl⟩⟩ | ⟨k, hk1, rfl⟩
            · exact h6 _ (fun _ _ _ => by simp) (by simp; omega) (fun _ => by simp) (by simp)
            · exact h6 _ (fun _ _ _ => by simp) (by simp) (fun _ => by simp; omega) (by simp)
            · exact h6 _ (fun _ _ _ => by simp) (by simp) (fun _ => by simp) (by simp; omega)
          · rcases hl with ⟨n, hn1, rfl | ⟨k, rfl⟩⟩ | ⟨k, hk1, rfl⟩
            · simp
            · simp
            · have := (hcd hc).1; simp; omega
        · intro k p' t u hk hob hu
          cases k with
          | zero =>
            simp only [List.getElem?_cons_zero, Option.some.injEq] at hk hu
            subst hu
            subst hk
            obtain ⟨q1, q2, q3, q4⟩ := h14 t hob
            have e1 : s1.H (.comp 999 i) = s0.H (.comp 999 i) := a4 _ (by rw [q2]; exact SV.noConfusion)
            have e2 := b.live (.comp 999 i) (by rw [e1, q2]; exact SV.noConfusion)
            have f1 : s1.H (.site i) = s0.H (.site i) := a4 _ (by rw [q4]; exact SV.noConfusion)
            have f2 := b.live (.site i) (by rw [f1, q4]; exact SV.noConfusion)
            refine ⟨b.lkI _ (by rw [a8]; exact q1), e2.trans (e1.trans q2), ?_, f2.trans (f1.trans q4)⟩
            exact (b.ag.cv 999 i (by rw [e1, q2]; exact SV.noConfusion)).trans ((a6.cv 999 i (by rw [q2]; exact SV.noConfusion)).trans q3)
          | succ k =>
            have := b.pins k p' t u (by simpa using hk) hob (by simpa using hu)
            rwa [show i + 1 + k = i + (k + 1) from by omega] at this
      cases p with
      | pure t =>
        obtain ⟨h1, h2⟩ := hx
        exact rest (s0 := s) (g1 := g) (sv := .pv t x.1) (x' := x.2) rfl hp rfl hs rfl rfl (GAgree.refl _ _) (fun _ _ => rfl) (fun _ _ _ _ _ => rfl) h1 trivial SV.noConfusion h2 rfl (fun _ h => h) (fun _ h => .inl h) fun t e => by cases e
      | nilp =>
        obtain ⟨h1, h2⟩ := hx
        exact rest (s0 := s) (g1 := g) (sv := .nilp) (x' := x) rfl hp rfl hs rfl rfl (GAgree.refl _ _) (fun _ _ => rfl) (fun _ _ _ _ _ => rfl) h1 trivial SV.noConfusion h2 rfl (fun _ h => h) (fun _ h => .inl h) fun t e => by cases e
      | fnc f n =>
        simp only [psOk] at hp
        obtain ⟨hp1, hp2⟩ := cond_and hp
        obtain rfl := Nat.eq_of_beq_eq_true hp1
        obtain ⟨⟨h1, h1'⟩, h2⟩ := hx
        have h0 : a.tmps.getD sl undef = v := hv 0 v rfl
        obtain ⟨g', b⟩ := ih (c := n) (d := i) (j := 0) (sl := sl + 1) (i := i + 1) (vs := vs) (x := x) (g := g) (s := s) hp2 hs h2 (fun k u hk => by
            have := hv (k + 1) u (by simpa [unf, capN] using hk)
            rwa [show sl + (k + 1) = sl + 1 + k from by omega] at this) (by simp at hi; omega) (fun r h => hr r (by omega)) (fun n h => hn n (by omega)) (fun e k h h' => hcb e k (by omega) h')
          (fun _ => ⟨by omega, fun k _ => hcb i k (Nat.le_refl _) (by simp at hi; omega)⟩) (fun k h => h9 k (by omega))
        have hcap : ∀ k, k < n → (initS s n i 0 (sl + 1) (i + 1) ps x).H (.comp i k) ≠ .bot ∧ g'.cv i k = vs.getD k undef := fun k hk => by
          have := b.cap k (vs.getD k undef) hk (by rw [List.getD_eq_getElem?_getD, List.getElem?_eq_getElem (by omega)]; rfl)
          rwa [Nat.zero_add] at this
        have hsl := b.sim.reslot (n := sl) (v := .fn f i n) (by
          rw [h0, h1]
          show _ = Value.func (.func f) #[] ((List.range n).map (g'.cv i)).toArray
          congr 2
          apply List.ext_getElem?
          intro k
          by_cases hk : k < n
          · rw [List.getElem?_take_of_lt hk, List.getElem?_map, List.getElem?_range hk]
            simp only [Option.map_some]
            rw [(hcap k hk).2, List.getD_eq_getElem?_getD, List.getElem?_eq_getElem (by omega)]; rfl
          · rw [List.getElem?_eq_none (by simp; omega), List.getElem?_eq_none (by simp; omega)]) fun k hk => (hcap k hk).1
        refine ⟨g', b.fl, b.own, hsl, b.live, b.ag, fun k v hk => by omega, b.lkS, b.lkH, b.lkI, fun _ l hl => b.keep (.inr (by simp at hi; omega)) l (hl.imp (fun ⟨n, h1, h2⟩ => ⟨n, by omega, h2⟩) fun ⟨k, h1, h2⟩ => ⟨k, by omega, h2⟩), fun k p t u hk hob hu => ?_⟩
        cases k with
        | zero => simp at hk; subst hk; cases hob
        | succ k =>
          have := b.pins k p t u (by simpa using hk) hob (by simpa using hu)
          rwa [show i + 1 + k = i + (k + 1) from by omega] at this
      | box =>
        obtain ⟨⟨pv, rest', rfl, bb, o, rfl, hval, hblk, hob, hfl⟩, h2⟩ := hx
        cases ps with
        | nil => exact Bool.noConfusion hp
        | cons q ps =>
        cases q <;> first | exact Bool.noConfusion hp | skip
        rename_i tq osq
        have hp' : cond (Nat.beq c 0) (psOk 1 (.obj tq osq :: ps)) false = true := hp
        obtain ⟨hp1, hp2⟩ := cond_and hp'
        obtain rfl := Nat.eq_of_beq_eq_true hp1
        have hi' : i + 1 + (PS.obj tq osq :: ps).length ≤ 900 := by simp at hi ⊢; omega
        have hlt : i < 999 := by simp at hi; omega
        have h0 : a.tmps.getD sl undef = v := hv 0 v rfl
        obtain ⟨g', b⟩ := ih (c := 1) (d := i) (j := 0) (sl := sl + 1) (i := i + 1) (vs := pv :: rest') (x := x) (g := g) (s := s) hp2 hs h2 (fun k u hk => by
            have := hv (k + 1) u (by simpa [unf, capN] using hk)
            rwa [show sl + (k + 1) = sl + 1 + k from by omega] at this) hi' (fun r h => hr r (by omega)) (fun n h => hn n (by omega)) (fun e k h h' => hcb e k (by omega) h')
          (fun _ => ⟨by omega, fun k _ => hcb i k (Nat.le_refl _) (by omega)⟩) (fun k h => h9 k (by omega))
        obtain ⟨z1, z2, z3, z4⟩ := b.pins 0 (.obj tq osq) tq pv rfl rfl rfl
        rw [Nat.add_zero] at z1 z2 z3 z4
        have kp := fun l hl => b.keep (.inr (by omega)) l hl
        have s1 : (initS s 1 i 0 (sl + 1) (i + 1) (.obj tq osq :: ps) x).H (.site i) = .bot := (kp _ (.inl ⟨i, by omega, .inl rfl⟩)).trans (hn i (Nat.le_refl _)).1
        have s2 : (initS s 1 i 0 (sl + 1) (i + 1) (.obj tq osq :: ps) x).H (.comp 999 i) = .bot := (kp _ (.inr ⟨i, by omega, rfl⟩)).trans (h9 i (Nat.le_refl _))
        have hpv : pv = .pointer (some ⟨g'.st (i + 1), 0, none⟩) := by
          have := b.sim.comps 999 (i + 1)
          rw [z2] at this
          rw [← z3]; exact this
        show ∃ g', InitOk C a w g s 0 d j i _ _ { initS s 1 i 0 (sl + 1) (i + 1) (.obj tq osq :: ps) x with S := updS (initS s 1 i 0 (sl + 1) (i + 1) (.obj tq osq :: ps) x).S sl (.adr i 0), H := updH (updH (updH (initS s 1 i 0 (sl + 1) (i + 1) (.obj tq osq :: ps) x).H (.fld i 0) (.adr (i + 1) 0)) (.site i) (.obj ptrTy)) (.comp 999 i) (.adr i 0), lkH := .comp 999 i :: .site i :: (initS s 1 i 0 (sl + 1) (i + 1) (.obj tq osq :: ps) x).lkH } g'
        generalize initS s 1 i 0 (sl + 1) (i + 1) (.obj tq osq :: ps) x = s' at *
        have hA : GAgree s'.H g' { g' with st := updN g'.st i bb } := ⟨fun n hn' => updN_ne _ _ fun e => hn' (e ▸ s1), fun _ _ => rfl, fun _ _ _ => rfl⟩
        have hg := b.sim.grow hA (IV.le.refl _) (fun n t hn' h => ⟨rfl, h, rfl⟩) (fun _ _ _ _ _ _ _ _ h => ⟨rfl, h, rfl⟩) b.sim.own b.sim.old b.sim.ext
        have hf := hg.setFld (n := i) (i := 0) (v := .adr (i + 1) 0) (fun t' => by rw [s1]; exact SV.noConfusion) SV.noConfusion (by show s'.H (.site (i + 1)) ≠ .bot; rw [z4]; exact SV.noConfusion)
        have hsite := hf.setSite (n := i) (t := ptrTy) ⟨[pv], by
          show Blk w (updN g'.st i bb i) [pv]
          rw [updN_self]; exact hblk, by
          show g'.own (updN g'.st i bb i) = _
          rw [updN_self, b.own]; exact hob, by
          show g'.fl (updN g'.st i bb i) = 0
          rw [updN_self, b.fl]; exact hfl, pv, rfl, by rw [hpv]; rfl, by
          show SR { g' with st := updN g'.st i bb } _ (updH s'.H (.fld i 0) (.adr (i + 1) 0) (.fld i 0)) pv
          rw [updH_self]
          show pv = Value.pointer (some ⟨updN g'.st i bb (i + 1), 0, none⟩)
          rw [updN_ne _ _ (by omega)]; exact hpv⟩
        have hcbot : updH (updH s'.H (.fld i 0) (.adr (i + 1) 0)) (.site i) (.obj ptrTy) (.comp 999 i) = .bot := by rw [updH_ne _ _ (by simp), updH_ne _ _ (by simp)]; exact s2
        have hcomp := hsite.setComp (d := 999) (i := i) (v := .adr i 0) (val := v) hcbot SV.noConfusion (by show updH (updH s'.H (.fld i 0) (.adr (i + 1) 0)) (.site i) (.obj ptrTy) (.site i) ≠ .bot; rw [updH_self]; exact SV.noConfusion) (by
          show v = Value.pointer (some ⟨updN g'.st i bb i, 0, none⟩)
          rw [updN_self]; exact hval)
        have hslot := hcomp.reslot (n := sl) (v := .adr i 0) (by
          rw [h0]
          show v = Value.pointer (some ⟨updN g'.st i bb i, 0, none⟩)
          rw [updN_self]; exact hval) (by
          show updH (updH (updH s'.H (.fld i 0) (.adr (i + 1) 0)) (.site i) (.obj ptrTy)) (.comp 999 i) (.adr i 0) (.site i) ≠ .bot
          rw [updH_ne _ _ (by simp), updH_self]; exact SV.noConfusion)
        have hsi : updH (updH (updH s'.H (.fld i 0) (.adr (i + 1) 0)) (.site i) (.obj ptrTy)) (.comp 999 i) (.adr i 0) (.site i) = .obj ptrTy := by
          rw [updH_ne _ _ (show HLoc.site i ≠ .comp 999 i by simp), updH_self]
        have same : ∀ l, l ≠ .fld i 0 → l ≠ .site i → l ≠ .comp 999 i → updH (updH (updH s'.H (.fld i 0) (.adr (i + 1) 0)) (.site i) (.obj ptrTy)) (.comp 999 i) (.adr i 0) l = s'.H l := fun l l1 l2 l3 => by rw [updH_ne _ _ l3, updH_ne _ _ l2, updH_ne _ _ l1]
        refine ⟨{ g' with st := updN g'.st i bb, cv := fun d' i' => if d' = 999 ∧ i' = i then v else g'.cv d' i' }, b.fl, b.own, hslot, fun l hl => ?_, ?_, fun k u hk => by omega, b.lkS, fun l hl => ?_, fun l hl => List.mem_cons_of_mem _ (List.mem_cons_of_mem _ (b.lkI l hl)), fun _ l hl => ?_, fun k p t u hk hob' hu => ?_⟩
        · refine (same l (fun e => hl (by rw [e]; exact (hn i (Nat.le_refl _)).2 0)) (fun e => hl (by rw [e]; exact (hn i (Nat.le_refl _)).1)) (fun e => hl (by rw [e]; exact h9 i (Nat.le_refl _)))).trans (b.live l hl)
        · refine ⟨fun n hn' => ?_, fun r hr' => b.ag.hd r hr', fun d' k' hne => ?_⟩
          · show updN g'.st i bb n = _
            rw [updN_ne _ _ (fun e => hn' (by rw [e]; exact (hn i (Nat.le_refl _)).1))]
            exact b.ag.st n hn'
          · have : ¬ (d' = 999 ∧ k' = i) := fun ⟨e1, e2⟩ => hne (by rw [e1, e2]; exact h9 i (Nat.le_refl _))
            show (if d' = 999 ∧ k' = i then v else g'.cv d' k') = _
            rw [if_neg this]
            exact b.ag.cv d' k' hne
        · rcases List.mem_cons.1 hl with rfl | hl
          · exact .inr (.inl ⟨i, rfl, updH_self _ _ _, by simp⟩)
          · rcases List.mem_cons.1 hl with rfl | hl
            · exact .inr (.inr ⟨i, ptrTy, rfl, hsi⟩)
            · rcases b.lkH l hl with hl | ⟨k, rfl, q1, q2⟩ | ⟨n, t, rfl, q1⟩
              · exact .inl hl
              · exact .inr (.inl ⟨k, rfl, (same _ (by simp) (by simp) (fun e => by rw [e, s2] at q1; cases q1)).trans q1, List.mem_cons_of_mem _ (List.mem_cons_of_mem _ q2)⟩)
              · exact .inr (.inr ⟨n, t, rfl, (same _ (by simp) (fun e => by rw [e, s1] at q1; cases q1) (by simp)).trans q1⟩)
        · refine (same l ?_ ?_ ?_).trans (kp l (hl.imp (fun ⟨n, h1, h2⟩ => ⟨n, by omega, h2⟩) fun ⟨k, h1, h2⟩ => ⟨k, by omega, h2⟩))
          · rintro rfl; rcases hl with ⟨n, h1, h | ⟨k, h⟩⟩ | ⟨k, h1, h⟩ <;> cases h; omega
          · rintro rfl; rcases hl with ⟨n, h1, h | ⟨k, h⟩⟩ | ⟨k, h1, h⟩ <;> cases h; omega
          · rintro rfl; rcases hl with ⟨n, h1, h | ⟨k, h⟩⟩ | ⟨k, h1, h⟩ <;> cases h; omega
        · cases k with
          | zero =>
            simp only [List.getElem?_cons_zero, Option.some.injEq] at hk hu
            subst hk; subst hu
            cases hob'
            rw [Nat.add_zero]
            exact ⟨by simp, updH_self _ _ _, by simp, hsi⟩
          | succ k =>
            obtain ⟨y1, y2, y3, y4⟩ := b.pins k p t u (by simpa using hk) hob' (by simpa using hu)
            rw [show i + 1 + k = i + (k + 1) from by omega] at y1 y2 y3 y4
            refine ⟨List.mem_cons_of_mem _ (List.mem_cons_of_mem _ y1), (same _ (by simp) (by simp) (by simp)).trans y2, ?_, (same _ (by simp) (by simp) (by simp)).trans y4⟩
            show (if 999 = 999 ∧ i + (k + 1) = i then v else g'.cv 999 (i + (k + 1))) = u
            rw [if_neg (by omega)]
            exact y3
      | obj t os =>
        obtain ⟨⟨b, cs, o, rfl, hval, hblk, hob, hfl, hF⟩, h2⟩ := hx
        simp only [psOk] at hp
        obtain ⟨hp1, hp2⟩ := cond_and hp
        have hlen : os.length ≤ 20 := Nat.le_of_ble_eq_true hp1
        have hlt : i < 999 := by simp at hi; omega
        have hbot : s.H (.site i) = .bot := (hn i (Nat.le_refl _)).1
        have hA : GAgree s.H g { g with st := updN g.st i b } := ⟨fun n hn' => updN_ne _ _ fun e => hn' (e ▸ hbot), fun _ _ => rfl, fun _ _ _ => rfl⟩
        have hg := hs.grow hA (IV.le.refl _) (fun n t hn' h => ⟨rfl, h, rfl⟩) (fun _ _ _ _ _ _ _ _ h => ⟨rfl, h, rfl⟩) hs.own hs.old hs.ext
        have hfrow : ∀ r, HLoc.row r ∈ fsts (spreadO (.fld i) (i * 20) os (lay t) x.1 0) → i * 20 ≤ r ∧ r < (i + 1) * 20 := fun r hr' => by
          rcases spread_mem hr' with ⟨k, hk⟩ | ⟨k, hk1, hk⟩
          · cases hk
          · simp only [HLoc.row.injEq] at hk
            have : k < os.length := (List.getElem?_eq_some_iff.1 hk1).1
            omega
        obtain ⟨hd', q1, q2, q3⟩ := spread_ok (T := Eq) (sh := fun o => o) (id := 0) (rid := i * 20) (n := i) (fun o t h => h) (fun k => by simp) hg (fun t' => by rw [hbot]; exact SV.noConfusion) hF fun r hr' => by
          rw [Nat.zero_add] at hr'
          exact hr r (hfrow r hr').1
        rw [Nat.zero_add] at q2 q3
        have hfin := q2.setSite (n := i) (t := t) ⟨cs, by
          show Blk w (updN g.st i b i) cs
          rw [updN_self]; exact hblk, by
          show g.own (updN g.st i b i) = _
          rw [updN_self]; exact hob, by
          show g.fl (updN g.st i b i) = 0
          rw [updN_self]; exact hfl, objCells_lay.2 q3⟩
        have eP : updH (puts s.H (spreadO (.fld i) (i * 20) os (lay t) x.1 0)) (.site i) (.obj t) = puts s.H (spreadO (.fld i) (i * 20) os (lay t) x.1 0 ++ [(.site i, .obj t)]) := by rw [puts_append]; rfl
        rw [eP] at hfin
        have hout : ∀ l, (∀ r, i * 20 ≤ r → r < (i + 1) * 20 → l ≠ .row r) → l ≠ .site i → (∀ k, l ≠ .fld i k) → puts s.H (spreadO (.fld i) (i * 20) os (lay t) x.1 0 ++ [(.site i, .obj t)]) l = s.H l := fun l l1 l2 l3 => by
          apply puts_ne
          rw [fsts_append, List.mem_append, not_or]
          refine ⟨fun hm => ?_, by simpa [fsts] using l2⟩
          rcases spread_mem hm with ⟨k, hk⟩ | ⟨k, hk1, hk⟩
          · exact l3 _ hk
          · rw [hk] at hm
            exact l1 _ (hfrow _ hm).1 (hfrow _ hm).2 hk
        have h9i : puts s.H (spreadO (.fld i) (i * 20) os (lay t) x.1 0 ++ [(.site i, .obj t)]) (.comp 999 i) = .bot := by
          rw [hout _ (fun _ _ _ => by simp) (by simp) (fun _ => by simp)]
          exact h9 i (Nat.le_refl _)
        have hsite : puts s.H (spreadO (.fld i) (i * 20) os (lay t) x.1 0 ++ [(.site i, .obj t)]) (.site i) = .obj t := by rw [← eP, updH_self]
        have hfin2 := hfin.setComp (d := 999) (i := i) (v := .adr i 0) (val := .pointer (some ⟨b, 0, none⟩)) h9i SV.noConfusion (by simp only [RefOk]; rw [hsite]; exact SV.noConfusion) (by
          show _ = Value.pointer (some ⟨updN g.st i b i, 0, none⟩)
          rw [updN_self])
        have hs2 : updH (puts s.H (spreadO (.fld i) (i * 20) os (lay t) x.1 0 ++ [(.site i, .obj t)])) (.comp 999 i) (.adr i 0) (.site i) = .obj t := by rw [updH_ne _ _ (by simp), hsite]
        have lives : ∀ l, s.H l ≠ .bot → updH (puts s.H (spreadO (.fld i) (i * 20) os (lay t) x.1 0 ++ [(.site i, .obj t)])) (.comp 999 i) (.adr i 0) l = s.H l := fun l hl => by
          rw [updH_ne _ _ (fun e => hl (by rw [e]; exact h9 i (Nat.le_refl _))), hout l (fun r h1 _ e => hl (by rw [e]; exact hr r h1)) (fun e => hl (by rw [e]; exact hbot)) fun k e => hl (by rw [e]; exact (hn i (Nat.le_refl _)).2 k)]
        refine rest (s0 := { s with H := updH (puts s.H (spreadO (.fld i) (i * 20) os (lay t) x.1 0 ++ [(.site i, .obj t)])) (.comp 999 i) (.adr i 0), lkH := .comp 999 i :: .site i :: s.lkH }) (g0 := { g with st := updN g.st i b, hd := hd', cv := fun d' i' => if d' = 999 ∧ i' = i then .pointer (some ⟨b, 0, none⟩) else g.cv d' i' }) (g1 := g) (sv := .adr i 0) (x' := x.2) rfl hp2 rfl hfin2 rfl rfl ?_ lives ?_ ?_ ?_ SV.noConfusion h2 rfl (fun l hl => by simp [hl]) (fun l hl => ?_) fun t' e => ?_
        · refine ⟨hA.st, fun r hr' => q1 r hr', fun d' k' hne => ?_⟩
          by_cases e : d' = 999 ∧ k' = i
          · obtain ⟨rfl, rfl⟩ := e; exact absurd (h9 _ (Nat.le_refl _)) hne
          · simp [e]
        · intro l l1 l2 l3 l4
          show updH _ _ _ l = _
          rw [updH_ne _ _ l4]; exact hout l l1 l2 l3
        · show _ = Value.pointer (some ⟨updN g.st i b i, 0, none⟩)
          rw [updN_self]; exact hval
        · intro e
          exact SV.noConfusion (hs2.symm.trans e)
        · rcases List.mem_cons.1 hl with rfl | hl
          · exact .inr (.inl ⟨i, rfl, updH_self _ _ _, by simp⟩)
          · rcases List.mem_cons.1 hl with rfl | hl
            · exact .inr (.inr ⟨i, t, rfl, hs2⟩)
            · exact .inl hl
        · cases e
          exact ⟨by simp, updH_self _ _ _, by simp [hval], hs2⟩
end
end Go.Sx
namespace Go.Sx
section
variable {C : Ctx} {g : Gh} {S : Nat → SV} {H : HLoc → SV} {a : Act} {w : World}
theorem FldsX.nodes {T : Own → Own → Prop} {fl : Nat → Nat} {own : Nat → Option Own} {rid : Nat} {k v : Ty} {cs : List Value} {x : (nodeTy k v).den} {i : Nat} (h : FldsX T fl own w rid [] (nodeTy k v) cs x i) :
    ∃ ck cv pl ph, cs = ck ++ (cv ++ [pl, ph, .int .i64 x.2.2.2.1, .int .i64 x.2.2.2.2.1]) ∧ CRep (view fl w) k ck x.1.1 ∧ CRep (view fl w) v cv x.1.2.1 ∧ TRep (view fl w) (CRep (view fl w) k) (CRep (view fl w) v) x.2.1 pl ∧ TRep (view fl w) (CRep (view fl w) k) (CRep (view fl w) v) x.2.2.1 ph := by
  obtain ⟨c1, c2, rfl, h1, d1, d2, rfl, h2, e1, e2, rfl, h3, f1, f2, rfl, h4, g1, g2, rfl, h5, h6⟩ := h
  obtain ⟨ck, r1, rfl, q1, cv, r2, rfl, q2, q3⟩ := (show CRep (view fl w) (.pair k (.pair v .unit)) c1 x.1 from h1)
  obtain rfl : r2 = [] := q3
  obtain ⟨pl, rfl, q4⟩ := (show CRep (view fl w) (.tree k v) d1 x.2.1 from h2)
  obtain ⟨ph, rfl, q5⟩ := (show CRep (view fl w) (.tree k v) e1 x.2.2.1 from h3)
  obtain rfl : f1 = [.int .i64 x.2.2.2.1] := h4
  obtain rfl : g1 = [.int .i64 x.2.2.2.2.1] := h5
  obtain rfl : g2 = [] := h6
  exact ⟨ck, cv, pl, ph, by simp, q1, q2, q4, q5⟩
/-- what is known of the end: rows and objects under new names, frozen trees -/
structure EndOk (T : Own → Own → Prop) (fl fl2 : Nat → Nat) (own own2 : Nat → Option Own) (w : World) (fz : List Nat) : Prop where
  rel : Relab T Eq fl fl2 own own2 w
  fz : ∀ n ∈ fz, ∀ b cs, own b = some (.site n) → Blk w b cs → fl2 b = cs.length
/-- what one result gives -/
def OutOk (C : Ctx) (g : Gh) (S : Nat → SV) (H : HLoc → SV) (a : Act) (w : World) (base : Nat) (r : RS) (val : Value) (x : r.ty.den) (pubs : HW) (drops keeps : List HLoc) : Prop :=
  Pubs H pubs ∧ ∃ (m : List (Own × Own)) (fz : List Nat), drops = (m.map fun p => locO p.1) ++ fz.map HLoc.site ∧
      ∀ {hw : HW} {fl : Nat → Nat} {own : Nat → Option Own}, (∀ y ∈ pubs, y ∈ hw) → Pubs H hw → (∀ l ∈ keeps, l ∉ fsts hw) → SimG C { g with fl := fl, own := own } S (puts H hw) a w → (view g.fl w).le (view fl w) →
      ∀ {T : Own → Own → Prop} {fl2 : Nat → Nat} {own2 : Nat → Option Own}, (∀ p ∈ m, T p.1 p.2) → EndOk T fl fl2 own own2 w fz → Res1 Eq fl2 own2 w base r val x
theorem outNew_ok (_hs : SimG C g S H a w) {t : Ty} {os : List Bool} {v : SV} {val : Value} {x : (lay t).den} {pubs : HW} {drops keeps : List HLoc} {fp fp' : List HLoc} (h : (outNew t os v).run H fp = some ((x, pubs, drops, keeps), fp'))
    (hv : SR g (view g.fl w) v val) (hr : RefOk H v) (base : Nat) : OutOk C g S H a w base (.newobj t os) val x pubs drops keeps := by
  simp only [outNew] at h
  split at h
  · rename_i s off
    cases hoff : Nat.beq off 0 with
    | false => rw [hoff] at h; exact (fail_some h).elim
    | true =>
      rw [hoff] at h
      simp only [cond, Rd.run] at h
      split at h
      · rename_i t' hobj
        cases hb : t'.beq t with
        | false => rw [hb] at h; exact (fail_some h).elim
        | true =>
          rw [hb] at h
          obtain rfl := Ty.beq_eq hb
          obtain ⟨⟨y, hw1⟩, fp1, k1, h⟩ := bind_some (show ((gatherO (.fld s) os (lay t') 0).bind _).run H _ = _ from h)
          obtain ⟨d, fp2, k2, h⟩ := bind_some h
          obtain ⟨e, _⟩ := ret_some h
          cases e
          obtain ⟨m1, d1, d2'⟩ := ownDs_ok (rid := base + 1) k2
          have hG := fun T (hT : ∀ p ∈ m1, T p.1 p.2) => gatherX_ok (C := C) (g := g) (S := S) (a := a) (w := w) (T := T) (rid := base + 1) (os := os) k1 fun k hk => by
            rcases d2' k hk with ⟨r, e1, e2⟩ | e1
            · exact .inl ⟨r, e1, hT _ e2⟩
            · exact .inr e1
          refine ⟨(hG (fun _ _ => True) fun _ _ => trivial).1, (.site s, .site base) :: m1, [], by rw [d1]; simp [locO], fun {hw fl own} hsub hp hk hs' hle T fl2 own2 hT hE => ?_⟩
          have hobj' : puts H hw (.site s) = .obj t' := by rw [pubs_site hp]; exact hobj
          obtain ⟨cs, h1, h2, h3, h4⟩ := hs'.sites s t' hobj'
          have hF : (fun i => puts H hw (.fld s i)) = fun i => H (.fld s i) := funext fun i => pubs_fld hp
          rw [objCells_lay, hF] at h4
          have hval : val = .pointer (some ⟨g.st s, 0, none⟩) := by
            obtain rfl := Nat.eq_of_beq_eq_true hoff
            exact hv
          have hkk : pbO os (cntT (lay t')) = false → ∀ k r, (os.take (cntT (lay t')))[k]? = some true → H (.fld s (0 + k)) = .hdr r → HLoc.row r ∉ fsts hw := fun hpb k r g1 g2 => hk _ (by
            rw [hpb]
            show HLoc.row r ∈ d
            rcases d2' k g1 with ⟨r', e1, e2⟩ | e1
            · rw [g2] at e1
              cases e1
              rw [d1]
              exact List.mem_map.2 ⟨_, e2, rfl⟩
            · rw [g2] at e1
              exact SV.noConfusion e1)
          have hO : ObjX T fl own w (.site base) (base + 1) os t' val y := ⟨g.st s, cs, .site s, hT (.site s, .site base) (by simp), hval, h1, h2, h3, (hG T fun p hp => hT p (by simp [hp])).2 hsub hp hkk hs' h4⟩
          exact hO.relab hE.rel
      · exact (fail_some h).elim
  · exact (fail_some h).elim
/-- one result -/
theorem outV_ok (hs : SimG C g S H a w) {r : RS} {v : SV} {val : Value} {x : r.ty.den} {pubs : HW} {drops keeps : List HLoc} {fp fp' : List HLoc} (h : (outV r v).run H fp = some ((x, pubs, drops, keeps), fp'))
    (hv : SR g (view g.fl w) v val) (hr : RefOk H v) (base : Nat) : OutOk C g S H a w base r val x pubs drops keeps := by
  cases r with
  | pure t =>
    have plain : ((toPV t v).bind fun p => Rd.ret (p.1, p.2, ([] : List HLoc), ([] : List HLoc))).run H fp = some ((x, pubs, drops, keeps), fp') → OutOk C g S H a w base (.pure t) val x pubs drops keeps := fun h => by
      obtain ⟨⟨y, hw1⟩, fp1, k1, h⟩ := bind_some h
      obtain ⟨e, _⟩ := ret_some h
      cases e
      obtain ⟨p1, p2⟩ := toPV_ok hs k1 hv hr
      exact ⟨p1, [], [], rfl, fun hsub hp hk hs' hle _ _ _ _ hE => VRep.mono hE.rel.le (p2 _ _ ((hs'.rowsRd hp).sub hsub) hle)⟩
    simp only [outV] at h
    split at h
    · rename_i s off k v'
      cases hoff : Nat.beq off 0 with
      | false => rw [hoff] at h; exact (fail_some h).elim
      | true =>
        rw [hoff] at h
        simp only [cond, Rd.run] at h
        split at h
        · rename_i t' hobj
          cases hb : t'.beq (nodeTy k v') with
          | false => rw [hb] at h; exact (fail_some h).elim
          | true =>
            rw [hb] at h
            obtain rfl := Ty.beq_eq hb
            obtain ⟨⟨y, hw1⟩, fp1, k1, h⟩ := bind_some (show ((gatherO (.fld s) [] (nodeTy k v') 0).bind _).run H _ = _ from h)
            obtain ⟨e, _⟩ := ret_some h
            cases e
            have hG := gatherX_ok (C := C) (g := g) (S := S) (a := a) (w := w) (T := fun _ _ => True) (rid := 0) (os := []) k1 fun k hk => by simp at hk
            refine ⟨hG.1, [], [s], rfl, fun {hw fl own} hsub hp hk hs' hle T fl2 own2 _ hE => ?_⟩
            have hobj' : puts H hw (.site s) = .obj (nodeTy k v') := by rw [pubs_site hp]; exact hobj
            obtain ⟨cs, h1, h2, h3, h4⟩ := hs'.sites s _ hobj'
            have hF : (fun i => puts H hw (.fld s i)) = fun i => H (.fld s i) := funext fun i => pubs_fld hp
            rw [objCells_lay, hF] at h4
            have hX := hG.2 hsub hp (fun hpb => Bool.noConfusion hpb) hs' h4
            obtain ⟨ck, cv, pl, ph, rfl, q1, q2, q3, q4⟩ := hX.nodes
            have hval : val = .pointer (some ⟨g.st s, 0, none⟩) := by
              obtain rfl := Nat.eq_of_beq_eq_true hoff
              exact hv
            have hfl := hE.fz s (by simp) _ _ h2 h1
            have hle2 := hE.rel.le
            refine ⟨[val], ⟨val, rfl, g.st s, 0, ck, cv, pl, ph, hval, q1.mono hle2, q2.mono hle2, TRep.mono hle2 (fun _ _ h => h.mono hle2) (fun _ _ h => h.mono hle2) q3, TRep.mono hle2 (fun _ _ h => h.mono hle2) (fun _ _ h => h.mono hle2) q4, fun j u hj => ?_⟩, rfl⟩
            rw [view_some, Nat.zero_add]
            have hlt := (List.getElem?_eq_some_iff.1 hj).1
            have hfl : fl2 (g.st s) = _ := hfl
            rw [hfl]
            exact ⟨hlt, by rw [h1.cell]; exact hj⟩
        · exact (fail_some h).elim
    · exact plain h
  | own pub e =>
    simp only [outV] at h
    split at h
    · obtain ⟨e, _⟩ := ret_some h
      cases e
      exact ⟨trivial, [], [], rfl, fun _ _ _ _ _ _ _ _ _ _ => .inl ⟨hv, rfl⟩⟩
    · rename_i r
      simp only [Rd.run] at h
      split at h
      · rename_i p e' l hrow
        cases hp : cond p pub true with
        | false => rw [hp] at h; exact (fail_some h).elim
        | true =>
          rw [hp] at h
          obtain ⟨y, fp1, k1, h⟩ := bind_some h
          obtain ⟨k1, _⟩ := ofO_run k1
          obtain ⟨e1, _⟩ := ret_some h
          cases e1
          obtain ⟨he, rfl⟩ := castTo_eq k1
          cases he
          refine ⟨?_, [(.row r, .row base)], [], rfl, fun {hw fl own} hsub hpb hk hs' hle T fl2 own2 hT hE => ?_⟩
          · cases pub <;> cases p <;> first | trivial | exact ⟨⟨r, false, e, l, rfl, rfl, hrow⟩, trivial⟩
          · have hval : val = g.hd r := hv
            have hrow' : puts H hw (.row r) = .row pub e l := by
              cases pub with
              | true =>
                refine puts_pub hpb ?_
                cases p with
                | true => exact .inl hrow
                | false => exact .inr (hsub _ (by simp))
              | false =>
                have hpf : p = false := by cases p <;> simp_all
                rw [puts_ne (hk _ (by simp)), hrow, hpf]
            have hR : RowX T fl own w val (.row base) pub e l := .inr ⟨.row r, hT (.row r, .row base) (by simp), by rw [hval]; exact hs'.rows r pub e l hrow'⟩
            exact hR.relab hE.rel
      · exact (fail_some h).elim
    · exact (fail_some h).elim
  | newobj t os => exact outNew_ok hs h hv hr base
  | maybe t os =>
    have some1 : ((outNew t os v).bind fun q => Rd.ret ((true, q.1), q.2)).run H fp = some ((x, pubs, drops, keeps), fp') → OutOk C g S H a w base (.maybe t os) val x pubs drops keeps := fun h => by
      obtain ⟨⟨y, p1, p2, p3⟩, fp1, k1, h⟩ := bind_some h
      obtain ⟨e, _⟩ := ret_some h
      cases e
      obtain ⟨q1, m, fz, q2, q3⟩ := outNew_ok hs k1 hv hr base
      exact ⟨q1, m, fz, q2, fun a1 a2 a3 a4 a5 _ _ _ a6 a7 => .inr ⟨rfl, q3 a1 a2 a3 a4 a5 a6 a7⟩⟩
    simp only [outV] at h
    split at h
    · obtain ⟨e, _⟩ := ret_some h
      cases e
      exact ⟨trivial, [], [], rfl, fun _ _ _ _ _ _ _ _ _ _ => .inl ⟨rfl, hv⟩⟩
    · exact some1 h

/-- the objects that came in -/
theorem outObjs_ok (_hs : SimG C g S H a w) : ∀ {ps : List PS} {i j : Nat} {vs : List Value} {x : (objsTy ps).den} {pubs : HW} {drops keeps : List HLoc} {fp fp' : List HLoc}, (outObjs i ps).run H fp = some ((x, pubs, drops, keeps), fp') → vs.length = ps.length →
    (∀ (k : Nat) (p : PS) (t : Ty) (v : Value), ps[k]? = some p → isOb p = some t → vs[k]? = some v → v = Value.pointer (some ⟨g.st (i + k), 0, none⟩)) →
    Pubs H pubs ∧ ∃ m : List (Own × Own), drops = (m.map fun p => locO p.1) ∧
      ∀ {hw : HW} {fl : Nat → Nat} {own : Nat → Option Own}, (∀ y ∈ pubs, y ∈ hw) → Pubs H hw → (∀ l ∈ keeps, l ∉ fsts hw) → SimG C { g with fl := fl, own := own } S (puts H hw) a w → (view g.fl w).le (view fl w) →
      ∀ {T : Own → Own → Prop} {fl2 : Nat → Nat} {own2 : Nat → Option Own}, (∀ p ∈ m, T p.1 p.2) → Relab T Eq fl fl2 own own2 w → ObjsX Eq fl2 own2 w j ps vs x := by
  intro ps
  induction ps with
  | nil =>
    intro i j vs x pubs drops keeps fp fp' h hl _
    obtain ⟨e, _⟩ := ret_some h
    cases e
    exact ⟨trivial, [], rfl, fun _ _ _ _ _ _ _ _ _ _ => trivial⟩
  | cons p ps ih =>
    intro i j vs x pubs drops keeps fp fp' h hl hp0
    cases vs with
    | nil => simp at hl
    | cons v vs =>
      have hp1 : ∀ (k : Nat) (p : PS) (t : Ty) (v : Value), ps[k]? = some p → isOb p = some t → vs[k]? = some v → v = Value.pointer (some ⟨g.st (i + 1 + k), 0, none⟩) := fun k p t v h1 ho h2 => by
        have := hp0 (k + 1) p t v (by simpa using h1) ho (by simpa using h2)
        rwa [show i + (k + 1) = i + 1 + k from by omega] at this
      cases p with
      | pure t => exact ih (i := i + 1) (j := j) (vs := vs) h (by simpa using hl) hp1
      | nilp => exact ih (i := i + 1) (j := j) (vs := vs) h (by simpa using hl) hp1
      | fnc f n => exact ih (i := i + 1) (j := j) (vs := vs) h (by simpa using hl) hp1
      | box =>
        simp only [outObjs, Rd.run] at h
        split at h
        · rename_i t' hobj
          cases hb : t'.beq ptrTy with
          | false => rw [hb] at h; exact (fail_some h).elim
          | true =>
            rw [hb] at h
            obtain rfl := Ty.beq_eq hb
            simp only [cond, Rd.run] at h
            split at h
            · rename_i b o hfld
              cases hc : cond (headObj ps) (cond (Nat.beq b (i + 1)) (Nat.beq o 0) false) false with
              | false => simp only [cond] at hc; rw [hc] at h; exact (fail_some h).elim
              | true =>
                obtain ⟨e0, e3⟩ := cond_and hc
                obtain ⟨e1, e2⟩ := cond_and e3
                obtain rfl := Nat.eq_of_beq_eq_true e1
                obtain rfl := Nat.eq_of_beq_eq_true e2
                simp only [cond] at hc
                rw [hc] at h
                obtain ⟨⟨z, hw2, d2, ke2⟩, fp3, k3, h⟩ := bind_some h
                obtain ⟨e, _⟩ := ret_some h
                cases e
                obtain ⟨q1, m, q3, q4⟩ := ih (i := i + 1) (j := j + 1) (vs := vs) k3 (by simpa using hl) hp1
                refine ⟨q1, (.site i, .site (81 + 20 * j)) :: m, by rw [q3]; simp [locO], fun {hw fl own} hsub hp hke hs' hle T fl2 own2 hT hE => ⟨?_, q4 hsub hp hke hs' hle (fun p hp => hT p (by simp [hp])) hE⟩⟩
                have hobj' : puts H hw (.site i) = .obj ptrTy := by rw [pubs_site hp]; exact hobj
                obtain ⟨cs, h1, h2, h3, h4⟩ := hs'.sites i ptrTy hobj'
                obtain ⟨c, rfl, -, h5⟩ := h4
                have h5 : SR { g with fl := fl, own := own } (view fl w) (puts H hw (.fld i 0)) c := h5
                rw [pubs_fld hp, hfld] at h5
                have h5 : c = Value.pointer (some ⟨g.st (i + 1), 0, none⟩) := h5
                have hval := hp0 0 .box ptrTy v rfl rfl rfl
                rw [Nat.add_zero] at hval
                cases ps with
                | nil => exact Bool.noConfusion e0
                | cons q ps =>
                cases vs with
                | nil => simp at hl
                | cons pv rest =>
                have hq : ∃ t os, q = .obj t os := by cases q <;> first | exact Bool.noConfusion e0 | exact ⟨_, _, rfl⟩
                obtain ⟨t, os, rfl⟩ := hq
                have hpv := hp1 0 (.obj t os) t pv rfl rfl rfl
                rw [Nat.add_zero] at hpv
                have hO : BoxX T fl own w (.site (81 + 20 * j)) v pv := ⟨g.st i, .site i, hT (.site i, .site (81 + 20 * j)) (by simp), hval, by rw [hpv, ← h5]; exact h1, h2, h3⟩
                exact ⟨pv, rest, rfl, hO.relab hE⟩
            · exact (fail_some h).elim
        · exact (fail_some h).elim
      | obj t os =>
        simp only [outObjs, Rd.run] at h
        split at h
        · rename_i t' hobj
          cases hb : t'.beq t with
          | false => rw [hb] at h; exact (fail_some h).elim
          | true =>
            rw [hb] at h
            obtain rfl := Ty.beq_eq hb
            obtain ⟨⟨y, hw1⟩, fp1, k1, h⟩ := bind_some (show ((gatherO (.fld i) os (lay t') 0).bind _).run H _ = _ from h)
            obtain ⟨d, fp2, k2, h⟩ := bind_some h
            obtain ⟨⟨z, hw2, d2, ke2⟩, fp3, k3, h⟩ := bind_some h
            obtain ⟨e, _⟩ := ret_some h
            cases e
            obtain ⟨m1, d1, d2'⟩ := ownDs_ok (rid := 80 + 20 * j) k2
            have hG := fun T (hT : ∀ p ∈ m1, T p.1 p.2) => gatherX_ok (C := C) (g := g) (S := S) (a := a) (w := w) (T := T) (rid := 80 + 20 * j) (os := os) k1 fun k hk => by
              rcases d2' k hk with ⟨r, e1, e2⟩ | e1
              · exact .inl ⟨r, e1, hT _ e2⟩
              · exact .inr e1
            obtain ⟨q1, m, q3, q4⟩ := ih (i := i + 1) (j := j + 1) (vs := vs) k3 (by simpa using hl) hp1
            refine ⟨Pubs.append.2 ⟨(hG (fun _ _ => True) fun _ _ => trivial).1, q1⟩, (.site i, .site (81 + 20 * j)) :: (m1 ++ m), by rw [d1, q3]; simp [locO], fun {hw fl own} hsub hp hke hs' hle T fl2 own2 hT hE => ⟨?_, q4 (fun y hy => hsub y (List.mem_append_right _ hy)) hp (fun l hl => hke l (List.mem_append_right _ hl)) hs' hle (fun p hp => hT p (by simp [hp])) hE⟩⟩
            have hobj' : puts H hw (.site i) = .obj t' := by rw [pubs_site hp]; exact hobj
            obtain ⟨cs, h1, h2, h3, h4⟩ := hs'.sites i t' hobj'
            have hF : (fun k => puts H hw (.fld i k)) = fun k => H (.fld i k) := funext fun k => pubs_fld hp
            rw [objCells_lay, hF] at h4
            have hval := hp0 0 (.obj t' os) t' v rfl rfl rfl
            have hkk : pbO os (cntT (lay t')) = false → ∀ k r, (os.take (cntT (lay t')))[k]? = some true → H (.fld i (0 + k)) = .hdr r → HLoc.row r ∉ fsts hw := fun hpb k r g1 g2 => hke _ (List.mem_append_left _ (by
              rw [hpb]
              show HLoc.row r ∈ d
              rcases d2' k g1 with ⟨r', e1, e2⟩ | e1
              · rw [g2] at e1
                cases e1
                rw [d1]
                exact List.mem_map.2 ⟨_, e2, rfl⟩
              · rw [g2] at e1
                exact SV.noConfusion e1))
            have hO : ObjX T fl own w (.site (81 + 20 * j)) (80 + 20 * j) os t' v y := ⟨g.st i, cs, .site i, hT (.site i, .site (81 + 20 * j)) (by simp), hval, h1, h2, h3, (hG T fun p hp => hT p (by simp [hp])).2 (fun y hy => hsub y (List.mem_append_left _ hy)) hp hkk hs' h4⟩
            exact hO.relab hE
        · exact (fail_some h).elim

/-- a result's value -/
def RVal (P : Program) (a : Act) (w : World) : ResultVar → Value → Prop
  | .tmp t, v => v = a.tmps.getD t undef
  | .cell c t, v => ((do loadVar t (← asAddr (a.tmps.getD c undef))) : Sem Value).run P w = .ok v w
def RVals (P : Program) (a : Act) (w : World) : List ResultVar → List Value → Prop
  | [], vs => vs = []
  | r :: rs, v :: vs => RVal P a w r v ∧ RVals P a w rs vs
  | _ :: _, [] => False
theorem outR_ok {P : Program} {tab : Tab} (hTab : TabOk P tab) {s : St} (hS : s.S = S) (hs : SimG C g S H a w) {r : RS} {v : ResultVar} {x : r.ty.den} {pubs : HW} {drops keeps : List HLoc} {fp fp' : List HLoc} (h : (outR tab s r v).run H fp = some ((x, pubs, drops, keeps), fp')) (base : Nat) :
    ∃ val, RVal P a w v val ∧ OutOk C g S H a w base r val x pubs drops keeps := by
  cases v with
  | tmp t =>
    rw [show outR tab s r (.tmp t) = outV r (s.S t) from rfl, hS] at h
    exact ⟨_, rfl, outV_ok hs h (hs.slots t) (hs.refS t) base⟩
  | cell c tid =>
    cases r with
    | pure t =>
      simp only [outR, hS] at h
      split at h
      · rename_i b off hb
        cases hq : cond (Nat.beq off 0) (tyIs tab tid t) false with
        | false => rw [hq] at h; exact (fail_some h).elim
        | true =>
          rw [hq] at h
          obtain ⟨h0, h1⟩ := cond_and hq
          obtain rfl := Nat.eq_of_beq_eq_true h0
          have ht : tl tab tid = some t := by
            unfold tyIs at h1
            cases hu : tl tab tid with
            | none => rw [hu] at h1; exact Bool.noConfusion h1
            | some u => rw [hu] at h1; rw [Ty.beq_eq h1]
          simp only [cond, Rd.run] at h
          split at h
          · rename_i t' hobj
            cases hb' : t'.beq t with
            | false => rw [hb'] at h; exact (fail_some h).elim
            | true =>
              rw [hb'] at h
              obtain rfl := Ty.beq_eq hb'
              obtain ⟨⟨y, hw1⟩, fp1, k1, h⟩ := bind_some (show ((gather (.fld b) t' 0).bind _).run H _ = _ from h)
              obtain ⟨e, _⟩ := ret_some h
              cases e
              obtain ⟨cs, hblk, h2, h3, h4⟩ := hs.sites b t' hobj
              obtain ⟨p1, p2⟩ := gather_ok k1
              have hag : t'.agg = true := by cases t' <;> first | rfl | exact (fail_some k1).elim
              unfold ObjCells at h4
              rw [hag] at h4
              have hlen : cs.length = t'.size := by
                have : ∀ {t : Ty} {cs : List Value} {i : Nat}, FieldsOk (fun i => H (.fld b i)) g (view g.fl w) t cs i → cs.length = t.size := by
                  intro t
                  induction t with
                  | pair A B _ hB => rintro cs i ⟨c1, c2, rfl, q1, _, _, q4⟩; rw [List.length_append, q1, hB q4]; rfl
                  | unit => intro cs i q; rw [show cs = [] from q]; rfl
                  | _ => intro cs i q; exact q.elim
                exact this h4
              have hv : a.tmps.getD c undef = .pointer (some ⟨g.st b, 0, none⟩) := by
                have := hs.slots c
                rw [hb] at this
                exact this
              refine ⟨mkV t' cs, ?_, p1, [], [], rfl, fun {hw fl own} hsub hp hk hs' hle _ _ _ _ hE => VRep.mono hE.rel.le ⟨cs, p2 _ _ _ ((hs'.rowsRd hp).sub hsub) (FieldsOk.change (H := H) (GAgree.same (g := g) (g' := { g with fl := fl, own := own }) rfl rfl rfl) hle (fun i => hs.refF b i) h4), rfl⟩⟩
              show ((do loadVar tid (← asAddr (a.tmps.getD c undef))) : Sem Value).run P w = _
              rw [hv]
              have := run_loadVar (w := w) (b := g.st b) (o := 0) (hTab.tys ht).w hlen (fun j v hj => by rw [hblk.cell, Nat.zero_add]; exact hj)
              simpa [asAddr] using this
          · exact (fail_some h).elim
      · exact (fail_some h).elim
    | _ => exact (fail_some h).elim
/-- all results, and the objects -/
theorem outs_ok {P : Program} {tab : Tab} (hTab : TabOk P tab) {s : St} (hS : s.S = S) (hs : SimG C g S H a w) {ps : List PS} {vs : List Value} {kR : Rd ((objsTy ps).den × HW × List HLoc × List HLoc)} {Q : (objsTy ps).den → HW → List HLoc → List HLoc → Prop}
    (hk : ∀ {x : (objsTy ps).den} {pubs : HW} {drops keeps : List HLoc} {fp fp' : List HLoc}, kR.run H fp = some ((x, pubs, drops, keeps), fp') → Q x pubs drops keeps) : ∀ {rs : List RS} {vars : List ResultVar} {i : Nat} {x : (resTy rs ps).den} {pubs : HW} {drops keeps : List HLoc} {fp fp' : List HLoc},
    (outs tab s ps rs vars kR).run H fp = some ((x, pubs, drops, keeps), fp') → ∃ vals z pubs1 pubs2 drops1 drops2 keeps1 keeps2, RVals P a w vars vals ∧ Q z pubs2 drops2 keeps2 ∧ pubs = pubs1 ++ pubs2 ∧ drops = drops1 ++ drops2 ∧ keeps = keeps1 ++ keeps2 ∧ Pubs H pubs1 ∧
      ∃ (m : List (Own × Own)) (fz : List Nat), (∀ l, l ∈ drops1 ↔ (∃ p ∈ m, l = locO p.1) ∨ ∃ n ∈ fz, l = .site n) ∧ (drops1.Nodup → (m.map fun p => locO p.1).Nodup ∧ ∀ p ∈ m, ∀ n ∈ fz, locO p.1 ≠ HLoc.site n) ∧
      ∀ {hw : HW} {fl : Nat → Nat} {own : Nat → Option Own}, (∀ y ∈ pubs1, y ∈ hw) → Pubs H hw → (∀ l ∈ keeps1, l ∉ fsts hw) → SimG C { g with fl := fl, own := own } S (puts H hw) a w → (view g.fl w).le (view fl w) →
      ∀ {T : Own → Own → Prop} {fl2 : Nat → Nat} {own2 : Nat → Option Own} {K : (objsTy ps).den → Prop}, (∀ p ∈ m, T p.1 p.2) → EndOk T fl fl2 own own2 w fz → K z → RessX Eq fl2 own2 w i rs ps vals x K
  | [], [], i, x, pubs, drops, keeps, fp, fp', h => ⟨[], x, [], pubs, [], drops, [], keeps, rfl, hk h, rfl, rfl, rfl, trivial, [], [], fun l => by simp, fun _ => by simp, fun _ _ _ _ _ _ _ _ _ _ _ hK => ⟨rfl, hK⟩⟩
  | [], v :: vars, i, x, pubs, drops, keeps, fp, fp', h => (fail_some h).elim
  | r :: rs, [], i, x, pubs, drops, keeps, fp, fp', h => (fail_some h).elim
  | r :: rs, v :: vars, i, x, pubs, drops, keeps, fp, fp', h => by
    obtain ⟨⟨y, pu1, dr1, ke1⟩, fp2, k2, h⟩ := bind_some (show ((outR tab s r v).bind _).run H fp = _ from h)
    obtain ⟨⟨z, pu2, dr2, ke2⟩, fp3, k3, h⟩ := bind_some h
    obtain ⟨e, _⟩ := ret_some h
    cases e
    obtain ⟨val, hval, p1, m1, fz1, e1, q1⟩ := outR_ok hTab hS hs k2 (1 + 20 * i)
    obtain ⟨vals, zz, a1, a2, b1, b2, c1, c2, hvals, hQ, e2, e3, e4, p2, m2, fz2, d1, d2, q2⟩ := outs_ok hTab hS hs (vs := vs) hk (i := i + 1) k3
    refine ⟨val :: vals, zz, pu1 ++ a1, a2, dr1 ++ b1, b2, ke1 ++ c1, c2, ⟨hval, hvals⟩, hQ, by rw [e2, List.append_assoc], by rw [e3, List.append_assoc], by rw [e4, List.append_assoc], Pubs.append.2 ⟨p1, p2⟩, m1 ++ m2, fz1 ++ fz2, fun l => ?_, fun hnd => ?_, fun {hw fl own} hsub hp hke hs' hle T fl2 own2 K hT hE hK => ⟨?_, ?_⟩⟩
    · rw [List.mem_append, e1, List.mem_append, d1 l]
      simp only [List.mem_map, List.mem_append]
      constructor
      · rintro ((⟨p, h1, rfl⟩ | ⟨n, h1, rfl⟩) | ⟨p, h1, rfl⟩ | ⟨n, h1, rfl⟩)
        · exact .inl ⟨p, .inl h1, rfl⟩
        · exact .inr ⟨n, .inl h1, rfl⟩
        · exact .inl ⟨p, .inr h1, rfl⟩
        · exact .inr ⟨n, .inr h1, rfl⟩
      · rintro (⟨p, h1 | h1, rfl⟩ | ⟨n, h1 | h1, rfl⟩)
        · exact .inl (.inl ⟨p, h1, rfl⟩)
        · exact .inr (.inl ⟨p, h1, rfl⟩)
        · exact .inl (.inr ⟨n, h1, rfl⟩)
        · exact .inr (.inr ⟨n, h1, rfl⟩)
    · obtain ⟨n1, n2, n3⟩ := List.nodup_append.1 hnd
      obtain ⟨r1, r2⟩ := d2 n2
      rw [e1] at n1
      obtain ⟨s1, s2, s3⟩ := List.nodup_append.1 n1
      have in1 : ∀ p ∈ m1, locO p.1 ∈ dr1 := fun p hp => by rw [e1]; exact List.mem_append_left _ (List.mem_map.2 ⟨p, hp, rfl⟩)
      have in2 : ∀ n ∈ fz1, HLoc.site n ∈ dr1 := fun p hp => by rw [e1]; exact List.mem_append_right _ (List.mem_map.2 ⟨p, hp, rfl⟩)
      have in3 : ∀ p ∈ m2, locO p.1 ∈ b1 := fun p hp => (d1 _).2 (.inl ⟨p, hp, rfl⟩)
      have in4 : ∀ n ∈ fz2, HLoc.site n ∈ b1 := fun n hn => (d1 _).2 (.inr ⟨n, hn, rfl⟩)
      refine ⟨?_, fun p hp n hn => ?_⟩
      · rw [List.map_append, List.nodup_append]
        refine ⟨s1, r1, fun u hu v hv => ?_⟩
        obtain ⟨p, hp, rfl⟩ := List.mem_map.1 hu
        obtain ⟨q, hq, rfl⟩ := List.mem_map.1 hv
        exact n3 _ (in1 p hp) _ (in3 q hq)
      · rcases List.mem_append.1 hp with hp | hp <;> rcases List.mem_append.1 hn with hn | hn
        · exact s3 _ (List.mem_map.2 ⟨p, hp, rfl⟩) _ (List.mem_map.2 ⟨n, hn, rfl⟩)
        · exact n3 _ (in1 p hp) _ (in4 n hn)
        · exact fun e => n3 _ (in2 n hn) _ (in3 p hp) e.symm
        · exact r2 p hp n hn
    · exact q1 (fun y hy => hsub y (List.mem_append_left _ hy)) hp (fun l hl => hke l (List.mem_append_left _ hl)) hs' hle (fun p hp => hT p (List.mem_append_left _ hp)) ⟨hE.rel, fun n hn => hE.fz n (List.mem_append_left _ hn)⟩
    · exact q2 (fun y hy => hsub y (List.mem_append_right _ hy)) hp (fun l hl => hke l (List.mem_append_right _ hl)) hs' hle (fun p hp => hT p (List.mem_append_right _ hp)) ⟨hE.rel, fun n hn => hE.fz n (List.mem_append_right _ hn)⟩ hK
end
end Go.Sx
namespace Go.Sx
theorem ArgsX_len {T : Own → Own → Prop} {fl : Nat → Nat} {own : Nat → Option Own} {w : World} : ∀ {ps : List PS} {i : Nat} {vs : List Value} {x : (argTy ps).den}, ArgsX T fl own w i ps vs x → vs.length = ps.length
  | [], _, _, _, h => by rw [show _ = [] from h]; rfl
  | .pure _ :: r, _, [], _, h => h.elim
  | .obj _ _ :: r, _, [], _, h => h.elim
  | .nilp :: r, _, [], _, h => h.elim
  | .fnc _ _ :: r, _, [], _, h => h.elim
  | .box :: r, _, [], _, h => h.elim
  | .pure _ :: r, _, v :: vs, _, ⟨_, h⟩ => by simp [ArgsX_len h]
  | .obj _ _ :: r, _, v :: vs, _, ⟨_, h⟩ => by simp [ArgsX_len h]
  | .nilp :: r, _, v :: vs, _, ⟨_, h⟩ => by simp [ArgsX_len h]
  | .fnc _ _ :: r, _, v :: vs, _, ⟨_, h⟩ => by simp [ArgsX_len h]
  | .box :: r, _, v :: vs, _, ⟨_, h⟩ => by simp [ArgsX_len h]
/-- how many slots the parameters take -/
def slotN : Nat → List PS → Nat
  | _, [] => 0
  | 0, p :: r => slotN (capN p) r + 1
  | c + 1, _ :: r => slotN c r
theorem unf_len : ∀ {ps : List PS} {c : Nat} {vs : List Value}, (unf c ps vs).length ≤ slotN c ps
  | [], c, vs => by cases c <;> simp [unf]
  | p :: r, 0, [] => by simp [unf]
  | p :: r, 0, v :: vs => by simp only [unf, slotN, List.length_cons]; exact Nat.succ_le_succ unf_len
  | p :: r, c + 1, [] => by simp [unf]
  | p :: r, c + 1, v :: vs => unf_len (ps := r)
theorem vals_run {P : Program} {w : World} {fn : Func} {a : Act} {vals : List Value} (h : RVals P a w fn.results.toList vals) : (Go.results fn a.tmps).run P w = .ok (retV vals) w := by
  have hm : ∀ {q : ResultVar → Sem Value} (_ : ∀ t, q (.tmp t) = pure (a.tmps.getD t undef)) (_ : ∀ c t, q (.cell c t) = do loadVar t (← asAddr (a.tmps.getD c undef))) {l : List ResultVar} {vals : List Value}, RVals P a w l vals → (l.mapM q).run P w = .ok vals w := by
    intro q hq hq2 l
    induction l with
    | nil => intro vals h; rw [show vals = [] from h]; rfl
    | cons r l ih =>
      intro vals h
      cases vals with
      | nil => exact h.elim
      | cons v vals =>
        obtain ⟨h1, h2⟩ := h
        cases r with
        | tmp t =>
          simp only [List.mapM_cons, Sem.run_bind, hq, Sem.run_pure, Result.andThen_ok, ih h2]
          rw [show v = _ from h1]
        | cell c t =>
          have h1 : (q (.cell c t)).run P w = .ok v w := by rw [hq2]; exact h1
          rw [List.mapM_cons, Sem.run_bind, h1, Result.andThen_ok, Sem.run_bind, ih h2]
          rfl
  have e : ∀ {l : List Value}, (if h : l.toArray.size = 1 then l.toArray[0] else Value.tuple l.toArray) = retV l := by
    intro l
    match l with
    | [] => rfl
    | [v] => rfl
    | u :: v :: l => simp [retV]
  unfold Go.results
  rw [Array.mapM_eq_mapM_toList]
  simp only [Sem.run_bind, Sem.run_map]
  rw [hm (fun t => rfl) (fun c t => rfl) h]
  simp only [Result.andThen_ok, Sem.run_pure, e]
def cellsOf (w : World) (b : Nat) : Nat :=
  match w.heap[b]? with
  | some (.cells c _ _) => c.size
  | _ => 0
theorem cell_lt {w : World} {b o : Nat} {v : Value} (h : w.cell? ⟨b, o, none⟩ = some v) : o < cellsOf w b := by
  unfold cellsOf
  simp only [World.cell?] at h
  split
  · rename_i c el fz hb
    rw [hb] at h
    simp at h
    exact (Array.getElem?_eq_some_iff.1 h).1
  · rename_i hb
    cases hx : w.heap[b]? with
    | none => rw [hx] at h; simp at h
    | some y =>
      rw [hx] at h
      cases y with
      | cells c el fz => exact absurd hx (hb c el fz)
      | _ => simp at h
/-- pinned: the objects that came in -/
def pinF (ps : List PS) (vs : List Value) (d i : Nat) : Option Value :=
  if d = 999 then
    match (ps[i]?).bind isOb with
    | some _ => vs[i]?
    | none => none
  else none
theorem pinF_some {ps : List PS} {vs : List Value} {d i : Nat} {v : Value} (h : pinF ps vs d i = some v) : d = 999 ∧ ∃ p t, ps[i]? = some p ∧ isOb p = some t ∧ vs[i]? = some v := by
  unfold pinF at h
  split at h
  · rename_i hd
    split at h
    · rename_i t hp
      obtain ⟨p, h1, h2⟩ := Option.bind_eq_some_iff.1 hp
      exact ⟨hd, p, t, h1, h2, h⟩
    · simp at h
  · simp at h
/-- what the executor makes of a body is a contract -/
theorem afun_ok {P : Program} {E : Env} {f : FuncId} {fn : Func} {ps : List PS} {rs : List RS} {F : (argTy ps).den → Option (resTy rs ps).den} (hTab : TabOk P E.tab) (hΓ : ∀ f sg, sg ∈ E.Γ f → FOk P f sg) (hm : P.follows .mixedOrders = true)
    (h1 : P.funcs[f]? = some fn) (hnt : Nat.beq E.nt fn.ntmps = true) (hname : (fn.name == "runtime.NumGoroutine") = false) (hbody : fn.body.isNone = false) (hps : psOk 0 ps = true) (hpl : Nat.ble ps.length 900 = true) (hsl : Nat.ble (slotN 0 ps) fn.ntmps = true) (hrs : Nat.ble rs.length 4 = true)
    (hF : ∀ x y, F x = some y → afun E fn ps rs x = some y) : FOk P f ⟨ps, rs, F⟩ := by
  refine ⟨Nat.le_of_ble_eq_true hrs, ⟨fn, h1, hbody, hname⟩, ?_⟩
  intro w fl own vs x y hown hargs hy
  have hA := hF x y hy
  unfold afun at hA
  split at hA
  · simp at hA
  rename_i c hc
  have hnt := Nat.eq_of_beq_eq_true hnt
  have hlen := ArgsX_len hargs
  refine calls_of_wp h1 hc ?_
  have hsz : (unf 0 ps vs).toArray.size ≤ fn.ntmps := Nat.le_trans (by simpa using unf_len) (Nat.le_of_ble_eq_true hsl)
  generalize hact : ({ tmps := (unf 0 ps vs).toArray ++ Array.replicate (fn.ntmps - (unf 0 ps vs).toArray.size) undef, defers := [] } : Act) = act
  have hasz : act.tmps.size = E.nt := by rw [← hact, hnt]; simp at hsz ⊢; omega
  have hslot : ∀ k v, (unf 0 ps vs)[k]? = some v → act.tmps.getD (0 + k) undef = v := fun k v hk => by
    rw [Nat.zero_add, ← hact]
    have hk' := (List.getElem?_eq_some_iff.1 hk).1
    rw [Array.getD_eq_getD_getElem?, Array.getElem?_append_left (by simpa using hk')]
    simp [hk]
  let C0 : Ctx := { w0 := w, fl0 := fl, M := fun b => own b ≠ none }
  let g0 : Gh := { fl := fl, own := own, st := fun _ => 0, hd := fun _ => undef, cv := fun _ _ => undef }
  have hs0 : SimG C0 g0 St.empty.S St.empty.H act w :=
    { defers := by rw [← hact], slots := fun _ => trivial, comps := fun _ _ => trivial, sites := fun n t h => (by cases h), rows := fun r p e l h => (by cases h), refS := fun _ => trivial, refC := fun _ _ => trivial, refF := fun _ _ => trivial,
      own := fun b hb => ⟨hown b hb, .inr hb⟩, old := fun _ _ _ => rfl, ext := ⟨rfl, rfl, rfl, Nat.le_refl _, fun _ _ _ => rfl⟩, iv := IV.le.refl _, pin := fun d i v h => (by cases h) }
  obtain ⟨g1, hI⟩ := initS_ok (a := act) (sl := 0) (x := x) hps hs0 hargs hslot (by rw [Nat.zero_add]; exact Nat.le_of_ble_eq_true hpl) (fun _ _ => rfl) (fun _ _ => ⟨rfl, fun _ => rfl⟩) (fun _ _ _ _ => rfl) (fun h => absurd rfl h) (fun _ _ => rfl)
  generalize hst : initS St.empty 0 0 0 0 0 ps x = s0 at hA hI
  let C1 : Ctx := { w0 := w, fl0 := fl, M := fun b => own b ≠ none, pin := pinF ps vs }
  have hs1 : SimG C1 g1 s0.S s0.H act w := by
    have h := hI.sim
    exact { defers := h.defers, slots := h.slots, comps := h.comps, sites := h.sites, rows := h.rows, refS := h.refS, refC := h.refC, refF := h.refF, own := h.own, old := h.old, ext := h.ext, iv := h.iv,
            pin := fun d i v hp => by
              obtain ⟨rfl, p, t, p1, p0, p2⟩ := pinF_some hp
              obtain ⟨_, q2, q3, _⟩ := hI.pins i p t v p1 p0 p2
              rw [Nat.zero_add] at q2 q3
              exact ⟨by rw [q2]; exact SV.noConfusion, q3⟩ }
  have hlk : LkC C1 s0 := by
    refine ⟨⟨fun n hn => ?_, fun l hl => ?_⟩, fun d i v hp => ?_⟩
    · rw [hI.lkS] at hn; exact absurd hn (by simp [St.empty])
    · rcases hI.lkH l hl with hl | ⟨k, rfl, q1, q2⟩ | ⟨n, t, rfl, q1⟩
      · exact absurd hl (by simp [St.empty])
      · rw [q1]; exact memL_iff.2 q2
      · rw [q1]; rfl
    · obtain ⟨rfl, p, t, p1, p0, p2⟩ := pinF_some hp
      have := (hI.pins i p t v p1 p0 p2).1
      rwa [Nat.zero_add] at this
  refine aexec_ok hTab (callOk (tab := E.tab) hΓ) hm c hA ⟨hasz, g1, hs1⟩ hlk fun e a' w' s' hs' hkeep hk => ?_
  obtain ⟨_, g, hs'⟩ := hs'
  have main : finish E.tab fn ps rs s' = some y → a'.defers = [] ∧ ∃ v, (Go.results fn a'.tmps).run P w' = .ok v w' ∧ (fun e w' => ∃ rv fl' own', e = Ending.returned (retV rv) ∧ Ext w (fun b => own b ≠ none) w' ∧ (∀ b, b < w.heap.size → own b = none → fl' b = fl b) ∧ (view fl w).le (view fl' w') ∧
      (∀ b, own' b ≠ none → b < w'.heap.size ∧ (w.heap.size ≤ b ∨ own b ≠ none)) ∧ RessX Eq fl' own' w' 0 rs ps rv y fun z => ObjsX Eq fl' own' w' 0 ps vs z) (.returned v) w' := by
    intro hfin
    unfold finish at hfin
    rw [Rd.runC_eq] at hfin
    obtain ⟨⟨⟨y', pubs, drops, keeps⟩, fp⟩, h2, h3⟩ := Option.bind_eq_some_iff.1 hfin
    simp only [force_eq] at h3
    cases hb : cond (nodupL drops) (disjL keeps (fsts pubs)) false with
    | false => rw [hb] at h3; simp at h3
    | true =>
      rw [hb] at h3
      simp only [cond, Option.some.injEq] at h3
      subst h3
      obtain ⟨b1, b2⟩ := cond_and hb
      have hnd := nodupL_ok b1
      have hpt : ∀ (k : Nat) (p : PS) (t : Ty) (v : Value), ps[k]? = some p → isOb p = some t → vs[k]? = some v → v = Value.pointer (some ⟨g.st (0 + k), 0, none⟩) := fun k p t v p1 p0 p2 => by
        obtain ⟨q1, q2, _, _⟩ := hI.pins k p t v p1 p0 p2
        rw [Nat.zero_add] at q1 q2 ⊢
        have e1 : s'.H (.comp 999 k) = .adr k 0 := (hkeep.H _ q1).trans q2
        have e2 := hs'.comps 999 k
        rw [e1] at e2
        have e3 := (hs'.pin 999 k v (by show pinF ps vs 999 k = some v; simp only [pinF, if_true, p1, Option.bind_some, p0, p2])).2
        rw [← e3]; exact e2
      obtain ⟨vals, z, pu1, pu2, dr1, dr2, ke1, ke2, hvars, ⟨r1, m2, r3, r4⟩, e1, e2, e3, p1, m1, fz, d1, d2, q1⟩ := outs_ok (s := s') (vs := vs) hTab rfl hs' (fun h => outObjs_ok hs' (j := 0) h hlen hpt) (i := 0) h2
      obtain ⟨fl1, own1, hs2, hle⟩ := hs'.pubs (hw := pubs) (by rw [e1]; exact Pubs.append.2 ⟨p1, r1⟩)
      have hPubs : Pubs s'.H pubs := by rw [e1]; exact Pubs.append.2 ⟨p1, r1⟩
      rw [e2] at hnd
      obtain ⟨n1, n2, n3⟩ := List.nodup_append.1 hnd
      obtain ⟨d3, d4⟩ := d2 n1
      rw [r3] at n2 n3
      have hmN : ((m1 ++ m2).map fun p => p.1).Nodup := by
        apply nodup_fst
        rw [List.map_append, List.nodup_append]
        refine ⟨d3, n2, fun u hu v hv => ?_⟩
        obtain ⟨p, hp, rfl⟩ := List.mem_map.1 hu
        exact n3 _ ((d1 _).2 (.inl ⟨p, hp, rfl⟩)) _ hv
      have hmz : ∀ p ∈ m1 ++ m2, ∀ n ∈ fz, p.1 ≠ Own.site n := fun p hp n hn e => by
        rcases List.mem_append.1 hp with hp | hp
        · exact d4 p hp n hn (by rw [e]; rfl)
        · exact n3 _ ((d1 _).2 (.inr ⟨n, hn, rfl⟩)) (locO p.1) (List.mem_map.2 ⟨p, hp, rfl⟩) (by rw [e]; rfl)
      let fl2 : Nat → Nat := open Classical in fun b => if ∃ n ∈ fz, own1 b = some (.site n) then cellsOf w' b else fl1 b
      let own2 : Nat → Option Own := fun b => (own1 b).bind (lookO (m1 ++ m2) fun _ => none)
      have hE : EndOk (fun o t => (o, t) ∈ m1 ++ m2) fl1 fl2 own1 own2 w' fz := by
        refine ⟨⟨fun b o v hv => ?_, fun o t ht => ⟨t, rfl, fun b hb => ⟨?_, ?_⟩⟩⟩, fun n hn b cs hb hblk => ?_⟩
        · rw [view_some] at hv ⊢
          refine ⟨?_, hv.2⟩
          by_cases hz : ∃ n ∈ fz, own1 b = some (.site n)
          · simp only [fl2, if_pos hz]; exact cell_lt hv.2
          · simp only [fl2, if_neg hz]; exact hv.1
        · simp only [own2, hb, Option.bind_some]; exact lookO_mem hmN (o, t) ht
        · have hz : ¬ ∃ n ∈ fz, own1 b = some (.site n) := by
            rintro ⟨n, hn, hb'⟩
            rw [hb] at hb'
            exact hmz _ ht n hn (Option.some.inj hb')
          simp only [fl2, if_neg hz]
        · have hz : ∃ n ∈ fz, own1 b = some (.site n) := ⟨n, hn, hb⟩
          simp only [fl2, if_pos hz]
          obtain ⟨el, fz', hh, _⟩ := hblk
          simp [cellsOf, hh]
      have hown1 : ∀ b, own1 b ≠ none → b < w'.heap.size ∧ (w.heap.size ≤ b ∨ own b ≠ none) := fun b hb => hs2.own b hb
      refine ⟨hs'.defers, _, vals_run hvars, vals, fl2, own2, rfl, hs2.ext, fun b hb hn => ?_, hs2.iv.trans hE.rel.le, fun b hb => ?_, ?_⟩
      · have h0 : own1 b = none := by
          cases ho : own1 b with
          | none => rfl
          | some o =>
            rcases (hown1 b (by rw [ho]; simp)).2 with h | h
            · omega
            · exact absurd hn h
        have hz : ¬ ∃ n ∈ fz, own1 b = some (.site n) := by rintro ⟨n, _, h⟩; rw [h0] at h; cases h
        simp only [fl2, if_neg hz]
        exact hs2.old b hb (fun h => h hn)
      · refine hown1 b fun h => hb ?_
        simp only [own2, h]; rfl
      · refine q1 (hw := pubs) (fun y hy => by rw [e1]; exact List.mem_append_left _ hy) hPubs (fun l hl => disjL_ok b2 l (by rw [e3]; exact List.mem_append_left _ hl)) hs2 hle (T := fun o t => (o, t) ∈ m1 ++ m2) (fun p hp => List.mem_append_left _ hp) hE ?_
        exact r4 (hw := pubs) (fun y hy => by rw [e1]; exact List.mem_append_right _ hy) hPubs (fun l hl => disjL_ok b2 l (by rw [e3]; exact List.mem_append_right _ hl)) hs2 hle (T := fun o t => (o, t) ∈ m1 ++ m2) (fun p hp => List.mem_append_right _ hp) hE.rel
  cases e with
  | normal => exact main hk
  | ret => exact main hk
  | _ => exact absurd hk (by simp)
end Go.Sx
namespace Go.Sx
open Go.ChangeShapes Go.WideShapes Go.RowKit
/-- values that may come in: within their kinds, no longer than a text or a slice can be -/
def Fit : (t : Ty) → t.den → Prop
  | .int k, x => k.min ≤ (x : Int) ∧ (x : Int) ≤ k.max
  | .u8, _ => True
  | .bool, _ => True
  | .str, x => (x : List UInt8).length ≤ Go.maxLen
  | .unit, _ => True
  | .pair a b, x => Fit a x.1 ∧ Fit b x.2
  | .slice e, l => (l : List e.den).length ≤ Go.maxLen ∧ ∀ x ∈ (l : List e.den), Fit e x
  | .tree _ _, _ => False
/-- data read as pure values -/
def DR {H : Type} : (t : Ty) → DataW H → t.den → Prop
  | .int k, d, x => d = .lit (.int k x)
  | .u8, d, x => d = .lit (.int .u8 (UInt8.toNat x : Nat))
  | .bool, d, x => d = .lit (.bool x)
  | .str, d, x => d = .lit (.string x)
  | .unit, d, _ => d = .agg []
  | .pair a b, d, x => ∃ d1 ds, d = .agg (d1 :: ds) ∧ DR a d1 x.1 ∧ DR b (.agg ds) x.2
  | .slice e, d, l => (d = .nil ∧ l = []) ∨ ∃ elems spare, d = .slice elems spare ∧ elems.length = (l : List e.den).length ∧ ∀ (i : Nat) (y : DataW H) (x : e.den), elems[i]? = some y → (l : List e.den)[i]? = some x → DR e y x
  | .tree _ _, _, _ => False
/-- no trees; slices of elements that take room -/
def plainTy : Ty → Bool
  | .pair a b => cond (plainTy a) (plainTy b) false
  | .slice e => cond (Nat.beq e.size 0) false (plainTy e)
  | .tree _ _ => false
  | _ => true
section
variable {H : Type} {enc : TypeId × Value → H} {P : Program} {tab : Tab} {w : World} {sp : Nat → Bool} {held : Bool}
theorem TyOk.cells {t : TypeId} {ty : Ty} (h : TyOk P tab t ty) : P.cellsOf t = ty.size := by
  obtain ⟨i, h1, h2, _⟩ := h.info
  simp [Program.cellsOf, h1, h2]
theorem cell_spot {w : World} {a : Addr} {v : Value} (h : w.cell? a = some v) : a.spot = none := by
  unfold World.cell? at h
  split at h
  · split at h
    · simp at h
    · rename_i hs; simpa using hs
  · simp at h
theorem cells_get {w : World} {base n : Nat} {a : Addr} {cs : List Value} (h : w.cells? base a n = some cs) : cs.length = n ∧ ∀ i, i < n → w.cell? (a.add i) = cs[i]? := by
  unfold World.cells? at h
  split at h
  · refine ⟨by simpa using mapM_some_length h, fun i hi => ?_⟩
    exact mapM_some_get h i i (by simp [hi])
  · simp at h
/-- what is read is a pure value -/
theorem trod_ok (hTab : TabOk P tab) : ∀ {ty : Ty},
    (∀ {t : TypeId} {fuel : Nat} {cs : List Value} {x : DataW H × List MemPlace}, tl tab t = some ty → plainTy ty = true → DataW.trod enc P w 0 sp held fuel t cs = some x → ∃ y : ty.den, CRep (view (cellsOf w) w) ty cs y ∧ DR ty x.1 y ∧ Fit ty y) ∧
    (∀ {fs : List Field} {off fuel : Nat} {cs : List Value} {xs : List (DataW H × List MemPlace)}, ty.agg = true → plainTy ty = true → fieldsChk tab fs ty off = true → cs.length = off + ty.size → xs.length = fs.length →
      (∀ (i : Nat) (f : Field), fs[i]? = some f → DataW.trod enc P w 0 sp held fuel f.type ((cs.drop f.offset).take (P.cellsOf f.type)) = xs[i]?) → ∃ y : ty.den, CRep (view (cellsOf w) w) ty (cs.drop off) y ∧ DR ty (.agg (xs.map (·.1))) y ∧ Fit ty y) := by
  intro ty
  have structs : ty.agg = true → (∀ {fs : List Field} {off fuel : Nat} {cs : List Value} {xs : List (DataW H × List MemPlace)}, ty.agg = true → plainTy ty = true → fieldsChk tab fs ty off = true → cs.length = off + ty.size → xs.length = fs.length →
      (∀ (i : Nat) (f : Field), fs[i]? = some f → DataW.trod enc P w 0 sp held fuel f.type ((cs.drop f.offset).take (P.cellsOf f.type)) = xs[i]?) → ∃ y : ty.den, CRep (view (cellsOf w) w) ty (cs.drop off) y ∧ DR ty (.agg (xs.map (·.1))) y ∧ Fit ty y) →
      ∀ {t : TypeId} {fuel : Nat} {cs : List Value} {x : DataW H × List MemPlace}, tl tab t = some ty → plainTy ty = true → DataW.trod enc P w 0 sp held fuel t cs = some x → ∃ y : ty.den, CRep (view (cellsOf w) w) ty cs y ∧ DR ty x.1 y ∧ Fit ty y := by
    intro ha hB t fuel cs x ht hp h
    have hT := hTab.tys ht
    obtain ⟨fs, hu, hf⟩ := hT.struct ha
    obtain ⟨xs, n, rfl, rfl, h3, h4, h5⟩ := DataW.trod_struct hu h
    obtain ⟨y, k1, k2, k3⟩ := hB (fs := fs.toList) (off := 0) (fuel := n) (cs := cs) (xs := xs) ha hp hf (by rw [h3, hT.cells, Nat.zero_add]) (by simpa using h4) (fun i f hi => h5 i f (by simpa using hi))
    exact ⟨y, by simpa using k1, k2, k3⟩
  induction ty with
  | int k =>
    refine ⟨fun ht _ h => ?_, fun h => Bool.noConfusion h⟩
    obtain ⟨n, rfl, rfl, hw⟩ := DataW.trod_int (hTab.tys ht).int h
    simp only [Lit.wf, Bool.and_eq_true, decide_eq_true_eq] at hw
    exact ⟨n, rfl, rfl, hw⟩
  | u8 =>
    refine ⟨fun ht _ h => ?_, fun h => Bool.noConfusion h⟩
    obtain ⟨n, rfl, rfl, hw⟩ := DataW.trod_int (hTab.tys ht).u8 h
    simp only [Lit.wf, Bool.and_eq_true, decide_eq_true_eq, IntKind.min, IntKind.max, IntKind.signed, IntKind.bits] at hw
    obtain ⟨m, rfl⟩ : ∃ m : Nat, n = m := ⟨n.toNat, by have := hw.1; simp at this; omega⟩
    have hm : m < 256 := by have := hw.2; simp at this; omega
    refine ⟨UInt8.ofNat m, ?_, ?_, trivial⟩
    · show [Value.int .u8 (m : Int)] = [.int .u8 ((UInt8.ofNat m).toNat : Nat)]
      rw [show (UInt8.ofNat m).toNat = m from by simp; omega]
    · show DataW.lit (.int .u8 (m : Int)) = .lit (.int .u8 ((UInt8.ofNat m).toNat : Nat))
      rw [show (UInt8.ofNat m).toNat = m from by simp; omega]
  | bool =>
    refine ⟨fun ht _ h => ?_, fun h => Bool.noConfusion h⟩
    obtain ⟨b, rfl, rfl⟩ := DataW.trod_bool (hTab.tys ht).bool h
    exact ⟨b, rfl, rfl, trivial⟩
  | str =>
    refine ⟨fun ht _ h => ?_, fun h => Bool.noConfusion h⟩
    obtain ⟨s, rfl, rfl, hs⟩ := DataW.trod_string (hTab.tys ht).str h
    exact ⟨s.data.toList, ⟨s, rfl, rfl⟩, rfl, by show s.data.toList.length ≤ _; rw [Array.length_toList]; exact hs⟩
  | unit =>
    have hB : ∀ {fs : List Field} {off fuel : Nat} {cs : List Value} {xs : List (DataW H × List MemPlace)}, Ty.unit.agg = true → plainTy .unit = true → fieldsChk tab fs .unit off = true → cs.length = off + Ty.unit.size → xs.length = fs.length →
      (∀ (i : Nat) (f : Field), fs[i]? = some f → DataW.trod enc P w 0 sp held fuel f.type ((cs.drop f.offset).take (P.cellsOf f.type)) = xs[i]?) → ∃ y : Ty.unit.den, CRep (view (cellsOf w) w) .unit (cs.drop off) y ∧ DR .unit (.agg (xs.map (·.1))) y ∧ Fit .unit y := by
      intro fs off fuel cs xs _ _ hf hl hx _
      cases fs with
      | cons f fs => exact Bool.noConfusion hf
      | nil =>
        have : xs = [] := List.eq_nil_of_length_eq_zero hx
        subst this
        exact ⟨(), List.drop_eq_nil_of_le (by simp [hl, Ty.size]), rfl, trivial⟩
    exact ⟨structs rfl hB, hB⟩
  | pair A B hA hB =>
    have hA := hA (fun ha => by
      intro hB' t fuel cs x ht hp h
      have hT := hTab.tys ht
      obtain ⟨fs, hu, hf⟩ := hT.struct ha
      obtain ⟨xs, n, rfl, rfl, h3, h4, h5⟩ := DataW.trod_struct hu h
      obtain ⟨y, k1, k2, k3⟩ := hB' (fs := fs.toList) (off := 0) (fuel := n) (cs := cs) (xs := xs) ha hp hf (by rw [h3, hT.cells, Nat.zero_add]) (by simpa using h4) (fun i f hi => h5 i f (by simpa using hi))
      exact ⟨y, by simpa using k1, k2, k3⟩)
    have hB := hB (fun ha => by
      intro hB' t fuel cs x ht hp h
      have hT := hTab.tys ht
      obtain ⟨fs, hu, hf⟩ := hT.struct ha
      obtain ⟨xs, n, rfl, rfl, h3, h4, h5⟩ := DataW.trod_struct hu h
      obtain ⟨y, k1, k2, k3⟩ := hB' (fs := fs.toList) (off := 0) (fuel := n) (cs := cs) (xs := xs) ha hp hf (by rw [h3, hT.cells, Nat.zero_add]) (by simpa using h4) (fun i f hi => h5 i f (by simpa using hi))
      exact ⟨y, by simpa using k1, k2, k3⟩)
    have hP : ∀ {fs : List Field} {off fuel : Nat} {cs : List Value} {xs : List (DataW H × List MemPlace)}, (Ty.pair A B).agg = true → plainTy (.pair A B) = true → fieldsChk tab fs (.pair A B) off = true → cs.length = off + (Ty.pair A B).size → xs.length = fs.length →
      (∀ (i : Nat) (f : Field), fs[i]? = some f → DataW.trod enc P w 0 sp held fuel f.type ((cs.drop f.offset).take (P.cellsOf f.type)) = xs[i]?) → ∃ y : (Ty.pair A B).den, CRep (view (cellsOf w) w) (.pair A B) (cs.drop off) y ∧ DR (.pair A B) (.agg (xs.map (·.1))) y ∧ Fit (.pair A B) y := by
      intro fs off fuel cs xs _ hp hf hl hx hget
      cases fs with
      | nil => exact Bool.noConfusion hf
      | cons f fs =>
        cases xs with
        | nil => simp at hx
        | cons x xs =>
          obtain ⟨fd, ft, k1, k2, k3, k4, k5, k6⟩ := fieldsChk_at (f := 0) (n := 0) hf rfl
          simp only [List.getElem?_cons_zero, Option.some.injEq] at k1
          subst k1
          simp only [fieldTy, Option.some.injEq] at k4
          subst k4
          rw [Nat.add_zero] at k2
          simp only [fieldsChk] at hf
          have hrest : fieldsChk tab fs B (off + A.size) = true := by
            obtain ⟨_, h2⟩ := cond_and hf
            obtain ⟨_, h4⟩ := cond_and h2
            have h5 : Nat.beq A.size 0 = false := by cases hz : Nat.beq A.size 0 with | false => rfl | true => rw [hz] at h4; exact Bool.noConfusion h4
            rw [h5] at h4
            have h6 : decide (f.name = "_") = false := decide_eq_false k6
            simpa only [h6, cond] using h4
          simp only [plainTy] at hp
          obtain ⟨hp1, hp2⟩ := cond_and hp
          have h0 := hget 0 f rfl
          rw [(hTab.tys k3).cells, k2] at h0
          simp only [Ty.size] at hl
          obtain ⟨y1, a1, a2, a3⟩ := hA.1 k3 hp1 h0
          have hBa : B.agg = true := by cases B <;> first | rfl | (cases fs <;> exact Bool.noConfusion hrest)
          obtain ⟨y2, b1, b2, b3⟩ := hB.2 (fs := fs) (off := off + A.size) (fuel := fuel) (cs := cs) (xs := xs) hBa hp2 hrest (by omega) (by simpa using hx) (fun i f' hi => hget (i + 1) f' (by simpa using hi))
          refine ⟨(y1, y2), ⟨_, _, ?_, a1, b1⟩, ⟨x.1, xs.map (·.1), rfl, a2, b2⟩, a3, b3⟩
          rw [← List.drop_drop, List.take_append_drop]
    exact ⟨structs rfl hP, hP⟩
  | slice e he =>
    have he := he (fun ha => by
      intro hB' t fuel cs x ht hp h
      have hT := hTab.tys ht
      obtain ⟨fs, hu, hf⟩ := hT.struct ha
      obtain ⟨xs, n, rfl, rfl, h3, h4, h5⟩ := DataW.trod_struct hu h
      obtain ⟨y, k1, k2, k3⟩ := hB' (fs := fs.toList) (off := 0) (fuel := n) (cs := cs) (xs := xs) ha hp hf (by rw [h3, hT.cells, Nat.zero_add]) (by simpa using h4) (fun i f hi => h5 i f (by simpa using hi))
      exact ⟨y, by simpa using k1, k2, k3⟩)
    refine ⟨fun {t fuel cs x} ht hp h => ?_, fun h => Bool.noConfusion h⟩
    have hT := hTab.tys ht
    obtain ⟨et, hu, het⟩ := hT.slice
    simp only [plainTy] at hp
    have hsz : e.size ≠ 0 ∧ plainTy e = true := by
      cases hz : Nat.beq e.size 0 with
      | true => rw [hz] at hp; exact Bool.noConfusion hp
      | false => rw [hz] at hp; exact ⟨fun e0 => by rw [e0] at hz; exact Bool.noConfusion hz, hp⟩
    have hc := (hTab.tys het).cells
    rcases DataW.trod_slice hu h with ⟨rfl, rfl⟩ | ⟨a, len, cap, elems, rest, n, rfl, rfl, rfl, _, h3, h4, h5, h6, _⟩
    · exact ⟨[], ⟨none, 0, 0, rfl, rfl, Nat.le_refl _, fun _ => rfl, fun i x hx => by simp at hx⟩, .inl ⟨rfl, rfl⟩, Nat.zero_le _, fun x hx => by simp at hx⟩
    · have one : ∀ i, i < len → ∃ y : e.den, (∃ cs', w.cells? 0 (a.add (i * e.size)) e.size = some cs' ∧ CRep (view (cellsOf w) w) e cs' y) ∧ (∃ z, elems[i]? = some z ∧ DR e z.1 y) ∧ Fit e y := fun i hi => by
        have h := h6 i hi
        rw [hc] at h
        rw [List.getElem?_eq_getElem (by omega)] at h
        obtain ⟨cs', q1, q2⟩ := Option.bind_eq_some_iff.1 h
        obtain ⟨y, r1, r2, r3⟩ := he.1 het hsz.2 q2
        exact ⟨y, ⟨cs', q1, r1⟩, ⟨_, List.getElem?_eq_getElem (by omega), r2⟩, r3⟩
      have all : ∃ l : List e.den, l.length = len ∧ ∀ i y, l[i]? = some y → (∃ cs', w.cells? 0 (a.add (i * e.size)) e.size = some cs' ∧ CRep (view (cellsOf w) w) e cs' y) ∧ (∃ z, elems[i]? = some z ∧ DR e z.1 y) ∧ Fit e y := by
        clear h6
        have : ∀ n, n ≤ len → ∃ l : List e.den, l.length = n ∧ ∀ i y, l[i]? = some y → (∃ cs', w.cells? 0 (a.add (i * e.size)) e.size = some cs' ∧ CRep (view (cellsOf w) w) e cs' y) ∧ (∃ z, elems[i]? = some z ∧ DR e z.1 y) ∧ Fit e y := by
          intro n
          induction n with
          | zero => intro _; exact ⟨[], rfl, fun i y h => by simp at h⟩
          | succ n ih =>
            intro hn
            obtain ⟨l, l1, l2⟩ := ih (by omega)
            obtain ⟨y, hy⟩ := one n (by omega)
            refine ⟨l ++ [y], by simp [l1], fun i z hz => ?_⟩
            by_cases hi : i < n
            · rw [List.getElem?_append_left (by omega)] at hz; exact l2 i z hz
            · have hlt := (List.getElem?_eq_some_iff.1 hz).1
              simp [l1] at hlt
              have : i = n := by omega
              subst this
              rw [List.getElem?_append_right (by omega), l1, Nat.sub_self] at hz
              simp at hz
              subst hz
              exact hy
        exact this len (Nat.le_refl _)
      obtain ⟨l, l1, l2⟩ := all
      refine ⟨l, ⟨some a, len, cap, rfl, l1.symm, h3, fun h => (by cases h), fun i x hx => ?_⟩, .inr ⟨elems.map (·.1), rest.map (·.1), rfl, by simp [h5, l1], fun i y x hy hx => ?_⟩, by show l.length ≤ _; omega, fun x hx => ?_⟩
      · obtain ⟨⟨cs', q1, q2⟩, _, _⟩ := l2 i x hx
        obtain ⟨r1, r2⟩ := cells_get q1
        have h0 := r2 0 (by omega)
        rw [List.getElem?_eq_getElem (by omega)] at h0
        have hs0 : a.spot = none := by
          obtain ⟨y0, ⟨cs0, q0, _⟩, _, _⟩ := one 0 (by have := (List.getElem?_eq_some_iff.1 hx).1; omega)
          have := (cells_get q0).2 0 (by omega)
          rw [List.getElem?_eq_getElem (by have := (cells_get q0).1; omega)] at this
          have := cell_spot this
          simpa [Addr.add] using this
        obtain ⟨ab, ao, as⟩ := a
        simp only at hs0
        subst hs0
        refine ⟨ab, ao, cs', rfl, fun j v hj => ?_, q2⟩
        have hjl := (List.getElem?_eq_some_iff.1 hj).1
        have hcj := r2 j (by omega)
        rw [addr_add, addr_add, hj] at hcj
        rw [view_some]
        exact ⟨cell_lt hcj, hcj⟩
      · obtain ⟨_, ⟨z, q1, q2⟩, _⟩ := l2 i x hx
        rw [List.getElem?_map, q1] at hy
        simp at hy
        subst hy
        exact q2
      · obtain ⟨i, hi, rfl⟩ := List.getElem_of_mem hx
        exact (l2 i _ (List.getElem?_eq_getElem hi)).2.2
  | tree k v => exact ⟨fun _ hp => Bool.noConfusion hp, fun h => Bool.noConfusion h⟩
end
section
variable {H : Type} {enc : TypeId × Value → H} {P : Program} {tab : Tab} {w : World}
theorem okWide_mk {t : TypeId} {ty : Ty} (hT : TyOk P tab t ty) (hp : plainTy ty = true) {r : Reach} {base : Nat} {v : Value} (h : Value.okWide P w r base t v) : v = mkV ty v.cells.toList := by
  cases ha : ty.agg with
  | true =>
    obtain ⟨fs, hu, _⟩ := hT.struct ha
    simp only [Value.okWide, hu] at h
    obtain ⟨cs, rfl, _⟩ := h
    simp [mkV, ha, Value.cells]
  | false =>
    have hc : ∀ {x : Value}, Cell.okWide P w r base t x → (P.underlying t = some .bool ∨ (∃ k, P.underlying t = some (.int k)) ∨ P.underlying t = some .string ∨ ∃ e, P.underlying t = some (.slice e)) → x = mkV ty x.cells.toList := by
      intro x hx hu
      rcases hu with hu | ⟨k, hu⟩ | hu | ⟨e, hu⟩ <;> cases x <;> simp [Cell.okWide, Cell.ok, hu] at hx <;> simp [mkV, ha, Value.cells]
    have hu : P.underlying t = some .bool ∨ (∃ k, P.underlying t = some (.int k)) ∨ P.underlying t = some .string ∨ ∃ e, P.underlying t = some (.slice e) := by
      cases ty with
      | int k => exact .inr (.inl ⟨k, hT.int⟩)
      | u8 => exact .inr (.inl ⟨_, hT.u8⟩)
      | bool => exact .inl hT.bool
      | str => exact .inr (.inr (.inl hT.str))
      | slice e => exact .inr (.inr (.inr ⟨_, hT.slice.choose_spec.1⟩))
      | tree k v => exact Bool.noConfusion hp
      | unit => exact Bool.noConfusion ha
      | pair a b => exact Bool.noConfusion ha
    refine hc ?_ hu
    unfold Value.okWide at h
    rcases hu with hu | ⟨k, hu⟩ | hu | ⟨e, hu⟩ <;> rw [hu] at h <;> exact h
def pures : List Ty → List PS
  | [] => []
  | t :: r => .pure t :: pures r
theorem unf_pures : ∀ {tys : List Ty} {vs : List Value}, vs.length = tys.length → unf 0 (pures tys) vs = vs
  | [], vs, h => by rw [List.eq_nil_of_length_eq_zero h]; rfl
  | t :: r, [], h => by simp at h
  | t :: r, v :: vs, h => by
    show v :: unf 0 (pures r) vs = _
    rw [unf_pures (by simpa using h)]
/-- the parameters' types, as the law needs them -/
def parsOk (P : Program) (tab : Tab) : List TypeId → List Ty → Bool
  | [], [] => true
  | t :: ts, ty :: tys => (match tl tab t with | some c => c.beq ty | none => false) && plainTy ty && P.readableRec t && Nat.blt t P.types.size && parsOk P tab ts tys
  | _, _ => false
theorem parsOk_cons {t : TypeId} {ts : List TypeId} {ty : Ty} {tys : List Ty} (h : parsOk P tab (t :: ts) (ty :: tys) = true) : tl tab t = some ty ∧ plainTy ty = true ∧ P.readableRec t = true ∧ t < P.types.size ∧ parsOk P tab ts tys = true := by
  simp only [parsOk, Bool.and_eq_true] at h
  obtain ⟨⟨⟨⟨h1, h2⟩, h3⟩, h4⟩, h5⟩ := h
  refine ⟨?_, h2, h3, Nat.le_of_ble_eq_true h4, h5⟩
  split at h1
  · rename_i c hc; rw [hc, Ty.beq_eq h1]
  · exact Bool.noConfusion h1
theorem args_ok (hTab : TabOk P tab) {base : Nat} : ∀ {ts : List TypeId} {tys : List Ty} {vs : List Value} {ds : List (DataW H)} {ps : List MemPlace} {i : Nat}, parsOk P tab ts tys = true → DataW.TrodAll enc P w 0 (fun _ => true) true ts vs ds ps →
    (∀ (j : Nat) (t : TypeId) (v : Value), ts[j]? = some t → vs[j]? = some v → Value.okWide P w .any base t v) →
    ∃ x : (argTy (pures tys)).den, ArgsX Eq (cellsOf w) (fun _ => none) w i (pures tys) vs x ∧ DR (argTy (pures tys)) (.agg ds) x ∧ Fit (argTy (pures tys)) x
  | [], [], vs, ds, ps, i, _, h, _ => by
    obtain ⟨rfl, rfl, rfl⟩ := trodAll_nil h
    exact ⟨(), rfl, rfl, trivial⟩
  | [], _ :: _, _, _, _, _, hp, _, _ => Bool.noConfusion hp
  | _ :: _, [], _, _, _, _, hp, _, _ => Bool.noConfusion hp
  | t :: ts, ty :: tys, vs, ds, ps, i, hp, h, hv => by
    obtain ⟨v, vs1, d, ds1, p, q, rfl, rfl, rfl, ⟨fuel, h1⟩, h2⟩ := trodAll_cons h
    obtain ⟨p1, p2, _, _, p5⟩ := parsOk_cons hp
    obtain ⟨y, a1, a2, a3⟩ := (trod_ok hTab).1 p1 p2 h1
    obtain ⟨x, b1, b2, b3⟩ := args_ok hTab (i := i + 1) p5 h2 fun j t' v' h3 h4 => hv (j + 1) t' v' (by simpa using h3) (by simpa using h4)
    have hm := okWide_mk (hTab.tys p1) p2 (hv 0 t v rfl rfl)
    exact ⟨(y, x), ⟨⟨_, a1, hm⟩, b1⟩, ⟨d, ds1, rfl, a2, b2⟩, a3, b3⟩
theorem stays {W W' : World} (hl : laidOutB P = true) (hb : Below W.heap.size W W') : ∀ {ts : List TypeId} {tys : List Ty} {vs : List Value} {ds : List (DataW H)} {ps : List MemPlace}, parsOk P tab ts tys = true → DataW.TrodAll enc P W 0 (fun _ => true) true ts vs ds ps → (∀ x ∈ ps, x.block < W.heap.size) →
    DataW.TrodAll enc P W' 0 (fun b => decide (b < W.heap.size)) true ts vs ds ps
  | [], [], vs, ds, ps, _, h, _ => by
    obtain ⟨rfl, rfl, rfl⟩ := trodAll_nil h
    exact trodAll_mk0
  | [], _ :: _, _, _, _, hp, _, _ => Bool.noConfusion hp
  | _ :: _, [], _, _, _, hp, _, _ => Bool.noConfusion hp
  | t :: ts, ty :: tys, vs, ds, ps, hp, h, hlt => by
    obtain ⟨v, vs1, d, ds1, p, q, rfl, rfl, rfl, h1, h2⟩ := trodAll_cons h
    obtain ⟨_, _, p3, p4, p5⟩ := parsOk_cons hp
    exact ⟨_, _, Below.trod hl p3 p4 h1 hb fun x hx => hlt x (by simp [hx]), stays hl hb p5 h2 fun x hx => hlt x (by simp [hx]), rfl⟩
/-- from a law's contract to what its row asks -/
theorem law_post {s : ChangeSpec} {f : FuncId} {fn : Func} {tys : List Ty} {tb : TypeId} {F : (argTy (pures tys)).den → Option (resTy [.pure .bool] (pures tys)).den} (hTab : TabOk P tab) (hF : FOk P f ⟨pures tys, [.pure .bool], F⟩) (hl : laidOutB P = true)
    (hpars : parsOk P tab fn.params.toList tys = true) (hres : fn.resultTypes = #[tb]) (htb : P.underlying tb = some .bool) (hvars : s.vars = []) (hspec : ∀ (H : Type) (ds : List (DataW H)), ds.length = tys.length → s.fn H ds = { results := [.lit (.bool true)], args := ds })
    {K : List (DataW H) → Prop} (hlaw : ∀ (ds : List (DataW H)) (x : (argTy (pures tys)).den), DR (argTy (pures tys)) (.agg ds) x → Fit (argTy (pures tys)) x → K ds → ∃ y, F x = some (true, y))
    {W : World} {base : Nat} {args : Array Value} {ds gs : List (DataW H)} {before : List MemPlace} (hval : ∀ (j : Nat) (t : TypeId) (v : Value), fn.params[j]? = some t → args[j]? = some v → Value.okWide P W .any base t v)
    (hW : DataW.Whole enc P fn.params.toList s.vars false W args.toList ds gs before) (hK : K (ds ++ gs)) :
    Calls P f args W fun e W' => ∃ v, e = .returned v ∧ s.post enc P fn false true false false W args v W' := by
  have hW' := hW
  obtain ⟨p, q, hA, hV, rfl, hfz, hnd⟩ := hW
  rw [hvars] at hV
  obtain ⟨rfl, rfl⟩ := trodVars_none hV
  rw [List.append_nil] at hK
  obtain ⟨x, a1, a2, a3⟩ := args_ok hTab (i := 0) (base := base) hpars hA fun j t v h1 h2 => hval j t v (by simpa using h1) (by simpa using h2)
  obtain ⟨y, hy⟩ := hlaw ds x a2 a3 hK
  have hlen : args.toList.length = tys.length := by
    have : ∀ {tys : List Ty}, (pures tys).length = tys.length := by intro tys; induction tys with | nil => rfl | cons t r ih => simp [pures, ih]
    rw [ArgsX_len a1, this]
  have hc := hF.call (w := W) (fl := cellsOf W) (own := fun _ => none) (fun b h => absurd rfl h) a1 hy
  rw [show (unf 0 (pures tys) args.toList).toArray = args from by rw [unf_pures hlen]] at hc
  refine hc.mono ?_
  rintro e W' ⟨rs, fl', own', rfl, hext, _, _, _, hr⟩
  have hb : Below W.heap.size W W' := ⟨hext.os, hext.tape, hext.output, hext.size, fun k hk => hext.block k hk fun h => h rfl⟩
  cases rs with
  | nil => exact hr.elim
  | cons v rs =>
    obtain ⟨h1, h2, _⟩ := hr
    have h2 : rs = [] := h2
    subst h2
    have hv : v = .bool true := vrep_bool h1
    subst hv
    have hlt : ∀ x ∈ p, x.block < W.heap.size := fun x hx => by simpa using hW'.lt x (by simpa using hx)
    have hds : ds.length = tys.length := by
      have : ∀ {ts : List TypeId} {tys : List Ty} {vs : List Value} {ds : List (DataW H)} {ps : List MemPlace}, parsOk P tab ts tys = true → DataW.TrodAll enc P W 0 (fun _ => true) true ts vs ds ps → ds.length = tys.length := by
        intro ts
        induction ts with
        | nil => intro tys vs ds ps hp h; cases tys with
          | nil => obtain ⟨_, rfl, _⟩ := trodAll_nil h; rfl
          | cons => exact Bool.noConfusion hp
        | cons t ts ih => intro tys vs ds ps hp h; cases tys with
          | nil => exact Bool.noConfusion hp
          | cons ty tys =>
            obtain ⟨_, _, _, _, _, _, _, rfl, _, _, h2⟩ := trodAll_cons h
            have := ih (parsOk_cons hp).2.2.2.2 h2
            simp [this]
      exact this hpars hA
    refine ⟨_, rfl, ds, [], p ++ [], [], p, [], hW', ?_, ?_, ?_, hb.frame _, fun h => by cases h⟩
    · rw [hres, List.append_nil, hspec H ds hds]
      exact ⟨[], [], shut_bool htb _, trodAll_mk0, rfl⟩
    · rw [List.append_nil, hspec H ds hds]
      exact stays hl hb hpars hA hlt
    · rw [hvars, List.append_nil, hspec H ds hds]
      exact rfl
end
end Go.Sx
namespace Go.Sx
def lookG : List (FuncId × List Sig) → FuncId → List Sig
  | [], _ => []
  | (a, s) :: r, f => cond (Nat.beq a f) s (lookG r f)
def lookN {α : Type} : List (Nat × α) → Nat → Option α
  | [], _ => none
  | (a, s) :: r, f => cond (Nat.beq a f) (some s) (lookN r f)
def SOk (P : Program) (f : FuncId) : List Sig → Prop
  | [] => True
  | s :: r => FOk P f s ∧ SOk P f r
def GOk (P : Program) : List (FuncId × List Sig) → Prop
  | [] => True
  | (f, s) :: r => SOk P f s ∧ GOk P r
theorem SOk.mem {P : Program} {f : FuncId} : ∀ {l : List Sig}, SOk P f l → ∀ sg ∈ l, FOk P f sg
  | [], _, _, h => by simp at h
  | s :: r, ⟨h1, h2⟩, sg, h => by
    rcases List.mem_cons.1 h with rfl | h
    · exact h1
    · exact SOk.mem h2 sg h
theorem GOk.look {P : Program} : ∀ {l : List (FuncId × List Sig)}, GOk P l → ∀ f sg, sg ∈ lookG l f → FOk P f sg
  | [], _, _, _, h => by simp [lookG] at h
  | (a, s) :: r, ⟨h1, h2⟩, f, sg, h => by
    simp only [lookG] at h
    cases hb : Nat.beq a f with
    | true =>
      rw [hb] at h
      obtain rfl := Nat.eq_of_beq_eq_true hb
      exact h1.mem sg h
    | false => rw [hb] at h; exact GOk.look h2 f sg h
theorem TabAll.cons {P : Program} {tab : Tab} {t : TypeId} {ty : Ty} {r : List (TypeId × Ty)} (h1 : (P.info? t).map (fun i => (i.size, i.zero, Nat.ble i.bytes (maxB ty))) = some (ty.size, some (mkV ty (zeroCells ty)), true))
    (h2 : descChk P tab t ty = true) (h3 : cond ty.agg (P.stoodInHeld t || P.eqGuardType P.depth t) false = false) (h : TabAll P tab r) : TabAll P tab ((t, ty) :: r) := ⟨h1, h2, h3, h⟩
theorem PtrAll.cons {P : Program} {t : TypeId} {r : List TypeId} (h1 : P.underlying t = some (.pointer (P.pointee t))) (h2 : (P.info? t).map (fun i => (i.size, i.zero)) = some (1, some (.pointer none))) (h : PtrAll P r) : PtrAll P (t :: r) := ⟨⟨h1, h2⟩, h⟩
/-- rounds enough for any loop that ends -/
noncomputable def big : Nat := Classical.choose (⟨18446744073709551616, rfl⟩ : ∃ n : Nat, n = 18446744073709551616)
theorem big_eq : big = 18446744073709551616 := Classical.choose_spec (⟨18446744073709551616, rfl⟩ : ∃ n : Nat, n = 18446744073709551616)
noncomputable def mkLoop (σ : Shape) : LoopH := ⟨σ, [], fun _ => big⟩

abbrev wrap64 (x : Int) : Int := IntKind.wrap .i64 x
/-- a loop, its types told -/
abbrev iterE (T R : Type) (step : T → Option (T ⊕ R)) (n : Nat) (t : T) : Option R := iter step n t
/-- a loop by an invariant -/
theorem iter_inv {T R : Type} {step : T → Option (T ⊕ R)} {I : T → Prop} {μ : T → Nat} {Q : T → R → Prop}
    (h : ∀ t, I t → (∃ r, step t = some (.inr r) ∧ Q t r) ∨ ∃ t', step t = some (.inl t') ∧ I t' ∧ μ t' < μ t ∧ ∀ r, Q t' r → Q t r) : ∀ {n : Nat} {t : T}, I t → μ t < n → ∃ r, iter step n t = some r ∧ Q t r
  | 0, _, _, hn => by omega
  | n + 1, t, ht, hn => by
    rcases h t ht with ⟨r, h1, h2⟩ | ⟨t', h1, h2, h3, h4⟩
    · exact ⟨r, by simp [iter, h1], h2⟩
    · obtain ⟨r, k1, k2⟩ := iter_inv h (n := n) h2 (by omega)
      exact ⟨r, by simp [iter, h1, k1], h4 r k2⟩
theorem wrap_i64 {x : Int} (h1 : -9223372036854775808 ≤ x) (h2 : x ≤ 9223372036854775807) : IntKind.wrap .i64 x = x := by
  simp only [IntKind.wrap, IntKind.bits, IntKind.signed]
  simp
  omega
end Go.Sx
namespace Go.Sx
theorem wrap64_eq {x : Int} (h1 : -9223372036854775808 ≤ x) (h2 : x ≤ 9223372036854775807) : wrap64 x = x := wrap_i64 h1 h2
theorem wrap64_nat {i : Nat} (h : i < 9223372036854775807) : wrap64 ((i : Int) + 1) = ((i + 1 : Nat) : Int) := by
  rw [wrap64_eq (by omega) (by omega)]; rfl
theorem idx_nat {α : Type} (l : List α) (i : Nat) : idx l (i : Int) = l[i]? := by simp [idx]
theorem ofNat_len {α : Type} (l : List α) : Int.ofNat l.length = (l.length : Int) := rfl
theorem lt_len {α : Type} (l : List α) (i : Nat) : decide ((i : Int) < Int.ofNat l.length) = decide (i < l.length) := by
  rw [decide_eq_decide]; exact Int.ofNat_lt
theorem appO_eq {α : Type} {l x : List α} (h : l.length + x.length ≤ capB) : appO l x = some (l ++ x) := by
  unfold appO
  rw [Nat.ble_eq_true_of_le h]; rfl
theorem beq_dec (a b : Bool) : (a == b) = decide (a = b) := by cases a <;> cases b <;> rfl
theorem bind_of {α β : Type} {x : Option α} {a : α} {f : α → Option β} {r : Option β} (h : x = some a) (h2 : f a = r) : Option.bind x f = r := by rw [h]; exact h2
/-- a loop that looks at each index, and ends early where it finds something -/
theorem iter_find {T R : Type} {step : T → Option (T ⊕ R)} {mk : Nat → T} {n : Nat} (t : Nat → Option R) {r0 : R} (h : ∀ i, i < n → step (mk i) = some (match t i with | none => .inl (mk (i + 1)) | some r => .inr r)) (hK : step (mk n) = some (.inr r0)) :
    ∀ {d i m : Nat}, i + d = n → d < m → iter step m (mk i) = some (((List.range' i d).findSome? t).getD r0) := by
  intro d
  induction d with
  | zero =>
    intro i m hi hm
    cases m with
    | zero => omega
    | succ m =>
      rw [Nat.add_zero] at hi
      subst hi
      simp [iter, hK]
  | succ d ih =>
    intro i m hi hm
    cases m with
    | zero => omega
    | succ m =>
      have h0 := h i (by omega)
      simp only [iter, h0, Option.bind_some, List.range'_succ, List.findSome?_cons]
      cases ht : t i with
      | none => simp only [Sum.elim_inl]; exact ih (by omega) (by omega)
      | some r => simp
/-- a loop that asks something of each index -/
theorem iter_all {T R : Type} {step : T → Option (T ⊕ R)} {mk : Nat → T} {n : Nat} (p : Nat → Bool) {rt rf : R} (hn : n ≤ 9223372036854775807) (h : ∀ i, i < n → step (mk i) = some (cond (p i) (.inl (mk (i + 1))) (.inr rf))) (hK : step (mk n) = some (.inr rt)) :
    iter step big (mk 0) = some (cond ((List.range n).all p) rt rf) := by
  have hb : n < big := by rw [big_eq]; omega
  have := iter_find (t := fun i => cond (p i) none (some rf)) (r0 := rt) (fun i hi => by rw [h i hi]; cases p i <;> rfl) hK (d := n) (i := 0) (m := big) (by omega) hb
  rw [this, List.range_eq_range']
  congr 1
  generalize List.range' 0 n = l
  induction l with
  | nil => rfl
  | cons a l ih =>
    simp only [List.findSome?_cons, List.all_cons]
    cases p a with
    | true => simpa using ih
    | false => rfl
end Go.Sx
namespace Go.Sx
open Go.ChangeShapes Go.WideShapes Go.RowKit
/-- values that may come in: within their kinds, no longer than memory bears -/
def Fit47 : (t : Ty) → t.den → Prop
  | .int k, x => k.min ≤ (x : Int) ∧ (x : Int) ≤ k.max
  | .u8, _ => True
  | .bool, _ => True
  | .str, x => (x : List UInt8).length ≤ 140737488351232
  | .unit, _ => True
  | .pair a b, x => Fit47 a x.1 ∧ Fit47 b x.2
  | .slice e, l => (l : List e.den).length ≤ 140737488351232 ∧ ∀ x ∈ (l : List e.den), Fit47 e x
  | .tree _ _, _ => False
def tabPos (P : Program) : List (TypeId × Ty) → Bool
  | [] => true
  | (t, ty) :: r => cond (cond (Nat.beq ty.size 0) true (Nat.ble 1 (P.bytesOf t))) (tabPos P r) false
theorem tabPos_ok {P : Program} {t : TypeId} {ty : Ty} : ∀ {l : List (TypeId × Ty)}, tabPos P l = true → tlL l t = some ty → ty.size ≠ 0 → 1 ≤ P.bytesOf t
  | [], _, h, _ => by simp [tlL] at h
  | (a, u) :: r, h, ht, h0 => by
    simp only [tabPos] at h
    obtain ⟨h1, h2⟩ := cond_and h
    simp only [tlL] at ht
    cases hb : Nat.beq a t with
    | true =>
      rw [hb] at ht
      obtain rfl := Nat.eq_of_beq_eq_true hb
      obtain rfl := Option.some.inj ht
      cases hz : Nat.beq u.size 0 with
      | true => exact absurd (Nat.eq_of_beq_eq_true hz) h0
      | false => rw [hz] at h1; exact Nat.le_of_ble_eq_true h1
    | false => rw [hb] at ht; exact tabPos_ok h2 ht h0
theorem mul_pos_le {n b m : Nat} (hb : 1 ≤ b) (h : n * b ≤ m) : n ≤ m := Nat.le_trans (Nat.le_mul_of_pos_right n hb) h
section
variable {H : Type} {P : Program} {tab : Tab}
theorem fit47 (hTab : TabOk P tab) (hpos : tabPos P tab.tys = true) : ∀ {ty : Ty},
    (∀ {t : TypeId} {d : DataW H} {x : ty.den}, tl tab t = some ty → plainTy ty = true → DR ty d x → (∀ n ∈ d.weights P t, n ≤ reachBytes) → Fit ty x → Fit47 ty x) ∧
    (∀ {fs : List Field} {off : Nat} {ds : List (DataW H)} {x : ty.den}, ty.agg = true → plainTy ty = true → fieldsChk tab fs ty off = true → DR ty (.agg ds) x → (∀ n ∈ DataW.weightsEach P (fs.map (·.type)) ds, n ≤ reachBytes) → Fit ty x → Fit47 ty x) := by
  intro ty
  have structs : ty.agg = true → (∀ {fs : List Field} {off : Nat} {ds : List (DataW H)} {x : ty.den}, ty.agg = true → plainTy ty = true → fieldsChk tab fs ty off = true → DR ty (.agg ds) x → (∀ n ∈ DataW.weightsEach P (fs.map (·.type)) ds, n ≤ reachBytes) → Fit ty x → Fit47 ty x) →
      ∀ {t : TypeId} {d : DataW H} {x : ty.den}, tl tab t = some ty → plainTy ty = true → DR ty d x → (∀ n ∈ d.weights P t, n ≤ reachBytes) → Fit ty x → Fit47 ty x := by
    intro ha hB t d x ht hp hd hw hf
    have hT := hTab.tys ht
    obtain ⟨fs, hu, hc⟩ := hT.struct ha
    have hagg : ∃ ds, d = .agg ds := by
      cases ty <;> first | exact Bool.noConfusion ha | skip
      · exact ⟨[], hd⟩
      · obtain ⟨d1, ds, h, _⟩ := hd; exact ⟨d1 :: ds, h⟩
    obtain ⟨ds, rfl⟩ := hagg
    exact hB (fs := fs.toList) (off := 0) ha hp hc hd (fun n hn => hw n (by simp only [DataW.weights, hu]; exact hn)) hf
  induction ty with
  | int k => exact ⟨fun _ _ _ _ h => h, fun h => Bool.noConfusion h⟩
  | u8 => exact ⟨fun _ _ _ _ h => h, fun h => Bool.noConfusion h⟩
  | bool => exact ⟨fun _ _ _ _ h => h, fun h => Bool.noConfusion h⟩
  | str =>
    refine ⟨fun {t d x} _ _ hd hw _ => ?_, fun h => Bool.noConfusion h⟩
    obtain rfl : d = .lit (.string x) := hd
    have := hw (List.length x) (by simp [DataW.weights])
    exact Nat.le_trans this (by decide)
  | unit => exact ⟨fun _ _ _ _ _ => trivial, fun _ _ _ _ _ _ => trivial⟩
  | pair A B hA hB =>
    have wrapS : ∀ {ty : Ty}, (ty.agg = true → ((∀ {fs : List Field} {off : Nat} {ds : List (DataW H)} {x : ty.den}, ty.agg = true → plainTy ty = true → fieldsChk tab fs ty off = true → DR ty (.agg ds) x → (∀ n ∈ DataW.weightsEach P (fs.map (·.type)) ds, n ≤ reachBytes) → Fit ty x → Fit47 ty x) →
      ∀ {t : TypeId} {d : DataW H} {x : ty.den}, tl tab t = some ty → plainTy ty = true → DR ty d x → (∀ n ∈ d.weights P t, n ≤ reachBytes) → Fit ty x → Fit47 ty x)) := by
      intro ty ha hB t d x ht hp hd hw hf
      have hT := hTab.tys ht
      obtain ⟨fs, hu, hc⟩ := hT.struct ha
      have hagg : ∃ ds, d = .agg ds := by
        cases ty <;> first | exact Bool.noConfusion ha | skip
        · exact ⟨[], hd⟩
        · obtain ⟨d1, ds, h, _⟩ := hd; exact ⟨d1 :: ds, h⟩
      obtain ⟨ds, rfl⟩ := hagg
      exact hB (fs := fs.toList) (off := 0) ha hp hc hd (fun n hn => hw n (by simp only [DataW.weights, hu]; exact hn)) hf
    have hA := hA wrapS
    have hB := hB wrapS
    have hP : ∀ {fs : List Field} {off : Nat} {ds : List (DataW H)} {x : (Ty.pair A B).den}, (Ty.pair A B).agg = true → plainTy (.pair A B) = true → fieldsChk tab fs (.pair A B) off = true → DR (.pair A B) (.agg ds) x → (∀ n ∈ DataW.weightsEach P (fs.map (·.type)) ds, n ≤ reachBytes) → Fit (.pair A B) x → Fit47 (.pair A B) x := by
      intro fs off ds x _ hp hc hd hw hf
      obtain ⟨d1, ds', h1, h2, h3⟩ := hd
      cases h1
      cases fs with
      | nil => exact Bool.noConfusion hc
      | cons f fs =>
        obtain ⟨fd, ft, k1, k2, k3, k4, k5, k6⟩ := fieldsChk_at (f := 0) (n := 0) hc rfl
        simp only [List.getElem?_cons_zero, Option.some.injEq] at k1
        subst k1
        simp only [fieldTy, Option.some.injEq] at k4
        subst k4
        simp only [fieldsChk] at hc
        have hrest : fieldsChk tab fs B (off + A.size) = true := by
          obtain ⟨_, h2⟩ := cond_and hc
          obtain ⟨_, h4⟩ := cond_and h2
          have h5 : Nat.beq A.size 0 = false := by cases hz : Nat.beq A.size 0 with | false => rfl | true => rw [hz] at h4; exact Bool.noConfusion h4
          rw [h5] at h4
          have h6 : decide (f.name = "_") = false := decide_eq_false k6
          simpa only [h6, cond] using h4
        have hBa : B.agg = true := by cases B <;> first | rfl | (cases fs <;> exact Bool.noConfusion hrest)
        simp only [plainTy] at hp
        obtain ⟨hp1, hp2⟩ := cond_and hp
        exact ⟨hA.1 k3 hp1 h2 (fun n hn => hw n (by simp only [List.map_cons, DataW.weightsEach, List.mem_append]; exact .inl hn)) hf.1,
          hB.2 hBa hp2 hrest h3 (fun n hn => hw n (by simp only [List.map_cons, DataW.weightsEach, List.mem_append]; exact .inr hn)) hf.2⟩
    exact ⟨structs rfl hP, hP⟩
  | slice e he =>
    have he := he (fun ha => by
      intro hB t d x ht hp hd hw hf
      have hT := hTab.tys ht
      obtain ⟨fs, hu, hc⟩ := hT.struct ha
      have hagg : ∃ ds, d = .agg ds := by
        cases e <;> first | exact Bool.noConfusion ha | skip
        · exact ⟨[], hd⟩
        · obtain ⟨d1, ds, h, _⟩ := hd; exact ⟨d1 :: ds, h⟩
      obtain ⟨ds, rfl⟩ := hagg
      exact hB (fs := fs.toList) (off := 0) ha hp hc hd (fun n hn => hw n (by simp only [DataW.weights, hu]; exact hn)) hf)
    refine ⟨fun {t d x} ht hp hd hw hf => ?_, fun h => Bool.noConfusion h⟩
    obtain ⟨et, hu, het⟩ := (hTab.tys ht).slice
    simp only [plainTy] at hp
    have hsz : e.size ≠ 0 ∧ plainTy e = true := by
      cases hz : Nat.beq e.size 0 with
      | true => rw [hz] at hp; exact Bool.noConfusion hp
      | false => rw [hz] at hp; exact ⟨fun e0 => by rw [e0] at hz; exact Bool.noConfusion hz, hp⟩
    rcases hd with ⟨rfl, rfl⟩ | ⟨elems, spare, rfl, hl, hel⟩
    · exact ⟨Nat.zero_le _, fun x hx => by simp at hx⟩
    · simp only [DataW.weights, hu] at hw
      have h1 := hw _ (List.mem_cons_self)
      have h2 := mul_pos_le (tabPos_ok hpos het hsz.1) h1
      refine ⟨by rw [← hl]; exact Nat.le_trans (Nat.le_trans (Nat.le_add_right _ _) h2) (by decide), fun y hy => ?_⟩
      obtain ⟨i, hi, rfl⟩ := List.getElem_of_mem hy
      have hil : i < elems.length := by rw [hl]; exact hi
      refine he.1 het hsz.2 (hel i elems[i] _ (List.getElem?_eq_getElem hil) (List.getElem?_eq_getElem hi)) (fun n hn => hw n ?_) (hf.2 _ hy)
      have all : ∀ {l : List (DataW H)} {d : DataW H}, d ∈ l → ∀ n ∈ d.weights P et, n ∈ DataW.weightsAll P et l := by
        intro l
        induction l with
        | nil => intro d hd; simp at hd
        | cons z l ih =>
          intro d hd n hn
          simp only [DataW.weightsAll, List.mem_append]
          rcases List.mem_cons.1 hd with rfl | hd
          · exact .inl hn
          · exact .inr (ih hd n hn)
      simp only [List.mem_cons, List.mem_append]
      exact .inr (.inl (all (List.getElem_mem hil) n hn))
  | tree k v => exact ⟨fun _ hp => Bool.noConfusion hp, fun h => Bool.noConfusion h⟩
theorem fits47 (hTab : TabOk P tab) (hpos : tabPos P tab.tys = true) : ∀ {ts : List TypeId} {tys : List Ty} {ds : List (DataW H)} {x : (argTy (pures tys)).den}, parsOk P tab ts tys = true → DR (argTy (pures tys)) (.agg ds) x → (∀ n ∈ DataW.weightsEach P ts ds, n ≤ reachBytes) → Fit (argTy (pures tys)) x → Fit47 (argTy (pures tys)) x
  | [], [], _, _, _, _, _, _ => trivial
  | [], _ :: _, _, _, hp, _, _, _ => Bool.noConfusion hp
  | _ :: _, [], _, _, hp, _, _, _ => Bool.noConfusion hp
  | t :: ts, ty :: tys, ds, x, hp, hd, hw, hf => by
    obtain ⟨d1, ds', h1, h2, h3⟩ := (show ∃ d1 ds', DataW.agg ds = .agg (d1 :: ds') ∧ DR ty d1 x.1 ∧ DR (argTy (pures tys)) (.agg ds') x.2 from hd)
    cases h1
    obtain ⟨p1, p2, _, _, p5⟩ := parsOk_cons hp
    exact ⟨(fit47 hTab hpos).1 p1 p2 h2 (fun n hn => hw n (by simp only [DataW.weightsEach, List.mem_append]; exact .inl hn)) hf.1,
      fits47 hTab hpos p5 h3 (fun n hn => hw n (by simp only [DataW.weightsEach, List.mem_append]; exact .inr hn)) hf.2⟩
/-- from a law's contract to what its row asks, arguments no longer than memory bears -/
theorem law_post47 {enc : TypeId × Value → H} {s : ChangeSpec} {f : FuncId} {fn : Func} {tys : List Ty} {tb : TypeId} {F : (argTy (pures tys)).den → Option (resTy [.pure .bool] (pures tys)).den} (hTab : TabOk P tab) (hpos : tabPos P tab.tys = true) (hF : FOk P f ⟨pures tys, [.pure .bool], F⟩) (hl : laidOutB P = true)
    (hpars : parsOk P tab fn.params.toList tys = true) (hres : fn.resultTypes = #[tb]) (htb : P.underlying tb = some .bool) (hvars : s.vars = []) (hspec : ∀ (H : Type) (ds : List (DataW H)), ds.length = tys.length → s.fn H ds = { results := [.lit (.bool true)], args := ds })
    (hlaw : ∀ (x : (argTy (pures tys)).den), Fit47 (argTy (pures tys)) x → ∃ y, F x = some (true, y))
    {W : World} {base : Nat} {args : Array Value} {ds gs : List (DataW H)} {before : List MemPlace} (hval : ∀ (j : Nat) (t : TypeId) (v : Value), fn.params[j]? = some t → args[j]? = some v → Value.okWide P W .any base t v)
    (hW : DataW.Whole enc P fn.params.toList s.vars false W args.toList ds gs before) (hz : (DataW.weightsEach P (fn.params.toList ++ s.plain.varTypes P) (ds ++ gs)).all (· ≤ reachBytes) = true) :
    Calls P f args W fun e W' => ∃ v, e = .returned v ∧ s.post enc P fn false true false false W args v W' := by
  have hgs : gs = [] := by
    obtain ⟨p, q, _, hV, _⟩ := hW
    rw [hvars] at hV
    exact (trodVars_none hV).1
  have hvt : s.plain.varTypes P = [] := by
    simp [ChangeSpec.plain, DataSpec.varTypes, hvars]
  rw [hgs, hvt, List.append_nil, List.append_nil] at hz
  exact law_post (s := s) (tb := tb) (tys := tys) (F := F) (K := fun l => ∀ n ∈ DataW.weightsEach P fn.params.toList l, n ≤ reachBytes) hTab hF hl hpars hres htb hvars hspec
    (fun ds x hd hx hk => hlaw x (fits47 hTab hpos hpars hd hk hx)) hval hW (fun n hn => by
      rw [hgs, List.append_nil] at hn
      simpa using List.all_eq_true.1 hz n hn)
end
section
variable {H : Type} {P : Program} {tab : Tab}
end
end Go.Sx
namespace Go.Sx
theorem strlt_nil (a : List UInt8) : strlt a [] = false := by cases a <;> rfl
theorem strlt_cons (a b : UInt8) (x y : List UInt8) : strlt (a :: x) (b :: y) = (decide (a < b) || (a == b && strlt x y)) := rfl
theorem strlt_irrefl : ∀ a : List UInt8, strlt a a = false
  | [] => rfl
  | a :: x => by rw [strlt_cons, strlt_irrefl x]; simp [UInt8.lt_irrefl]
theorem strlt_append (p : List UInt8) (x y : List UInt8) : strlt (p ++ x) (p ++ y) = strlt x y := by
  induction p with
  | nil => rfl
  | cons a p ih => rw [List.cons_append, List.cons_append, strlt_cons, ih]; simp [UInt8.lt_irrefl]
theorem strlt_tri : ∀ a b : List UInt8, strlt a b = true ∨ a = b ∨ strlt b a = true
  | [], [] => .inr (.inl rfl)
  | [], b :: y => .inl rfl
  | a :: x, [] => .inr (.inr rfl)
  | a :: x, b :: y => by
    rw [strlt_cons, strlt_cons]
    by_cases h : a < b
    · simp [h]
    · by_cases h2 : b < a
      · simp [h2]
      · have e : a = b := UInt8.le_antisymm (UInt8.not_lt.1 h2) (UInt8.not_lt.1 h)
        subst e
        rcases strlt_tri x y with h3 | h3 | h3 <;> simp [h3, UInt8.lt_irrefl]
theorem strlt_asymm : ∀ {a b : List UInt8}, strlt a b = true → strlt b a = false
  | [], [], h => by simp [strlt_nil] at h
  | [], b :: y, _ => strlt_nil _
  | a :: x, [], h => by simp [strlt_nil] at h
  | a :: x, b :: y, h => by
    rw [strlt_cons] at h ⊢
    simp only [Bool.or_eq_true, decide_eq_true_eq, Bool.and_eq_true, beq_iff_eq] at h
    rcases h with h | ⟨rfl, h⟩
    · have h1 : ¬ b < a := UInt8.lt_asymm h
      have h2 : ¬ b = a := fun e => by rw [e] at h; exact UInt8.lt_irrefl _ h
      simp [h1, h2]
    · simp [UInt8.lt_irrefl, strlt_asymm h]
theorem strlt_trans : ∀ {a b c : List UInt8}, strlt a b = true → strlt b c = true → strlt a c = true
  | _, _, [], _, h => by simp [strlt_nil] at h
  | _, [], _ :: _, h, _ => by simp [strlt_nil] at h
  | [], _ :: _, _ :: _, _, _ => rfl
  | a :: x, b :: y, c :: z, h, h' => by
    rw [strlt_cons] at h h' ⊢
    simp only [Bool.or_eq_true, decide_eq_true_eq, Bool.and_eq_true, beq_iff_eq] at h h' ⊢
    rcases h with h | ⟨rfl, h⟩
    · rcases h' with h' | ⟨rfl, h'⟩
      · exact .inl (UInt8.lt_trans h h')
      · exact .inl h
    · rcases h' with h' | ⟨rfl, h'⟩
      · exact .inl h'
      · exact .inr ⟨rfl, strlt_trans h h'⟩
/-- 'not (e < k or e = k)' is 'k < e' -/
theorem strlt_gt (k e : List UInt8) : (!(strlt e k || decide (e = k))) = strlt k e := by
  rcases strlt_tri k e with h | rfl | h
  · have h1 := strlt_asymm h
    have h2 : e ≠ k := fun x => by subst x; rw [strlt_irrefl] at h; exact Bool.noConfusion h
    simp [h, h1, h2]
  · simp [strlt_irrefl]
  · have h1 := strlt_asymm h
    simp [h, h1]
/-- a cut up to the end -/
theorem sliceO_drop {α : Type} {l : List α} {n : Nat} (h : n ≤ l.length) : sliceO l (Int.ofNat n) (l.length : Int) = some (l.drop n) := by
  unfold sliceO
  have : (0 : Int) ≤ Int.ofNat n ∧ Int.ofNat n ≤ (l.length : Int) ∧ (l.length : Int) ≤ (l.length : Int) := ⟨by simp, by simp; exact h, by omega⟩
  simp only [this]
  simp
theorem sliceO_take {α : Type} {l : List α} {n : Nat} (h : n ≤ l.length) : sliceO l 0 (Int.ofNat n) = some (l.take n) := by
  unfold sliceO
  have : (0 : Int) ≤ 0 ∧ (0 : Int) ≤ Int.ofNat n ∧ Int.ofNat n ≤ (l.length : Int) := ⟨by omega, by simp, by simp; exact h⟩
  simp only [this]
  simp
/-- does a text begin with another one -/
def begins (s p : List UInt8) : Bool := decide (s.take p.length = p)
theorem begins_iff {s p : List UInt8} : begins s p = true ↔ ∃ r, s = p ++ r := by
  unfold begins
  rw [decide_eq_true_eq]
  constructor
  · intro h
    exact ⟨s.drop p.length, by conv => lhs; rw [← List.take_append_drop p.length s, h]⟩
  · rintro ⟨r, rfl⟩; simp
theorem begins_len {s p : List UInt8} (h : ¬ p.length ≤ s.length) : begins s p = false := by
  unfold begins
  rw [decide_eq_false_iff_not]
  intro e
  have := congrArg List.length e
  simp at this
  omega
end Go.Sx
namespace Go.Sx
section
variable {K V : Type}
abbrev KV (K V : Type) : Type := K × V × Unit
/-- a strict order -/
structure LO (lt : K → K → Bool) : Prop where
  irr : ∀ a, lt a a = false
  trans : ∀ {a b c}, lt a b = true → lt b c = true → lt a c = true
  tri : ∀ a b, lt a b = true ∨ a = b ∨ lt b a = true
theorem LO.asymm {lt : K → K → Bool} (L : LO lt) {a b : K} (h : lt a b = true) : lt b a = false := by
  cases hb : lt b a with
  | false => rfl
  | true => have := L.trans h hb; rw [L.irr] at this; exact this.symm
theorem LO.ne {lt : K → K → Bool} (L : LO lt) {a b : K} (h : lt a b = true) : a ≠ b := fun e => by
  subst e; rw [L.irr] at h; exact Bool.noConfusion h
theorem LO.eq {lt : K → K → Bool} (L : LO lt) {a b : K} (h : lt a b = false) (h2 : lt b a = false) : a = b := by
  rcases L.tri a b with h3 | h3 | h3
  · rw [h] at h3; exact Bool.noConfusion h3
  · exact h3
  · rw [h2] at h3; exact Bool.noConfusion h3
def toL : Tree K V → List (KV K V)
  | .leaf => []
  | .node k v l h _ _ => toL l ++ (k, v, ()) :: toL h
def cnt : Tree K V → Int
  | .leaf => 0
  | .node _ _ _ _ n _ => n
def dep : Tree K V → Int
  | .leaf => 0
  | .node _ _ _ _ _ d => d
def mkT (p : KV K V) (l h : Tree K V) : Tree K V := .node p.1 p.2.1 l h (cnt l + cnt h + 1) (max (dep l) (dep h) + 1)
theorem dep_leaf : dep (.leaf : Tree K V) = 0 := rfl
theorem dep_node (k : K) (v : V) (l h : Tree K V) (n d : Int) : dep (.node k v l h n d) = d := rfl
theorem cnt_leaf : cnt (.leaf : Tree K V) = 0 := rfl
theorem cnt_node (k : K) (v : V) (l h : Tree K V) (n d : Int) : cnt (.node k v l h n d) = n := rfl
theorem toL_mk (p : KV K V) (l h : Tree K V) : toL (mkT p l h) = toL l ++ p :: toL h := rfl
theorem dep_mk (p : KV K V) (l h : Tree K V) : dep (mkT p l h) = max (dep l) (dep h) + 1 := rfl
theorem cnt_mk (p : KV K V) (l h : Tree K V) : cnt (mkT p l h) = cnt l + cnt h + 1 := rfl
def Avl : Tree K V → Prop
  | .leaf => True
  | .node _ _ l h n d => Avl l ∧ Avl h ∧ n = cnt l + cnt h + 1 ∧ d = max (dep l) (dep h) + 1 ∧ dep l ≤ dep h + 1 ∧ dep h ≤ dep l + 1
theorem Avl.len : ∀ {t : Tree K V}, Avl t → cnt t = ((toL t).length : Int)
  | .leaf, _ => rfl
  | .node k v l h n d, ⟨h1, h2, h3, _⟩ => by
    have a := h1.len
    have b := h2.len
    simp only [cnt_leaf, cnt_node, toL, List.length_append, List.length_cons]
    rw [h3, a, b]
    push_cast
    omega
theorem Avl.dep0 : ∀ {t : Tree K V}, Avl t → 0 ≤ dep t
  | .leaf, _ => Int.le_refl 0
  | .node k v l h n d, ⟨h1, h2, _, h4, _⟩ => by
    have a := h1.dep0
    simp only [dep_leaf, dep_node]
    omega
theorem Avl.mk {p : KV K V} {l h : Tree K V} (h1 : Avl l) (h2 : Avl h) (h3 : dep l ≤ dep h + 1) (h4 : dep h ≤ dep l + 1) : Avl (mkT p l h) := ⟨h1, h2, rfl, rfl, h3, h4⟩
/-- what is deep has many: 2k + 1 levels have 2^k -/
theorem Avl.many : ∀ (k : Nat) {t : Tree K V}, Avl t → 2 * (k : Int) + 1 ≤ dep t → 2 ^ k ≤ (toL t).length
  | k, .leaf, _, h => by simp only [dep_leaf, dep_node] at h; omega
  | 0, .node _ _ l h n d, _, _ => by simp only [toL, List.length_append, List.length_cons]; omega
  | k + 1, .node _ _ l h n d, ⟨h1, h2, h3, h4, h5, h6⟩, hd => by
    simp only [dep_leaf, dep_node] at hd
    have a := h1.many k (by omega)
    have b := h2.many k (by omega)
    simp only [toL, List.length_append, List.length_cons]
    rw [Nat.pow_succ]
    omega
/-- a tree, its sides of nearly one depth -/
def evenT (p : KV K V) (l h : Tree K V) : Tree K V :=
  bif decide (dep h + 1 < dep l) then
    match l with
    | .leaf => mkT p .leaf h
    | .node k v ll lh n d =>
      bif decide (dep lh ≤ dep ll) then mkT (k, v, ()) ll (mkT p lh h)
      else match lh with
        | .leaf => mkT p (.node k v ll .leaf n d) h
        | .node mk mv ml mh _ _ => mkT (mk, mv, ()) (mkT (k, v, ()) ll ml) (mkT p mh h)
  else bif decide (dep l + 1 < dep h) then
    match h with
    | .leaf => mkT p l .leaf
    | .node k v hl hh n d =>
      bif decide (dep hl ≤ dep hh) then mkT (k, v, ()) (mkT p l hl) hh
      else match hl with
        | .leaf => mkT p l (.node k v .leaf hh n d)
        | .node mk mv ml mh _ _ => mkT (mk, mv, ()) (mkT p l ml) (mkT (k, v, ()) mh hh)
  else mkT p l h
theorem toL_even (p : KV K V) (l h : Tree K V) : toL (evenT p l h) = toL l ++ p :: toL h := by
  unfold evenT
  cases decide (dep h + 1 < dep l) with
  | true =>
    cases l with
    | leaf => rfl
    | node k v ll lh n d =>
      simp only [cond_true]
      cases decide (dep lh ≤ dep ll) with
      | true => simp [toL_mk, toL]
      | false =>
        cases lh with
        | leaf => rfl
        | node mk mv ml mh a b => simp [toL_mk, toL]
  | false =>
    simp only [cond_false]
    cases decide (dep l + 1 < dep h) with
    | true =>
      cases h with
      | leaf => rfl
      | node k v hl hh n d =>
        simp only [cond_true]
        cases decide (dep hl ≤ dep hh) with
        | true => simp [toL_mk, toL]
        | false =>
          cases hl with
          | leaf => rfl
          | node mk mv ml mh a b => simp [toL_mk, toL]
    | false => rfl
theorem Avl.even {p : KV K V} {l h : Tree K V} (g1 : Avl l) (g2 : Avl h) (h1 : dep l ≤ dep h + 2) (h2 : dep h ≤ dep l + 2) :
    Avl (evenT p l h) ∧ max (dep l) (dep h) ≤ dep (evenT p l h) ∧ dep (evenT p l h) ≤ max (dep l) (dep h) + 1 ∧ (dep l ≤ dep h + 1 → dep h ≤ dep l + 1 → dep (evenT p l h) = max (dep l) (dep h) + 1) := by
  unfold evenT
  by_cases hl : dep h + 1 < dep l
  · simp only [hl, decide_true, cond_true]
    cases l with
    | leaf => have := g2.dep0; simp only [dep_leaf, dep_node] at hl; omega
    | node k v ll lh n d =>
      obtain ⟨a1, a2, a3, a4, a5, a6⟩ := g1
      simp only [dep_leaf, dep_node] at hl h1 h2 ⊢
      by_cases hc : dep lh ≤ dep ll
      · simp only [hc, decide_true, cond_true, dep_mk]
        exact ⟨.mk a1 (.mk a2 g2 (by omega) (by omega)) (by rw [dep_mk]; omega) (by rw [dep_mk]; omega), by omega, by omega, by omega⟩
      · simp only [hc, decide_false, cond_false]
        cases lh with
        | leaf => have := a1.dep0; simp only [dep_leaf, dep_node] at hc; omega
        | node mk mv ml mh n' d' =>
          obtain ⟨b1, b2, b3, b4, b5, b6⟩ := a2
          simp only [dep_leaf, dep_node] at hc a4 a5 a6
          simp only [dep_mk]
          exact ⟨.mk (.mk a1 b1 (by omega) (by omega)) (.mk b2 g2 (by omega) (by omega)) (by simp only [dep_mk]; omega) (by simp only [dep_mk]; omega), by omega, by omega, by omega⟩
  · simp only [hl, decide_false, cond_false]
    by_cases hr : dep l + 1 < dep h
    · simp only [hr, decide_true, cond_true]
      cases h with
      | leaf => have := g1.dep0; simp only [dep_leaf, dep_node] at hr; omega
      | node k v hl' hh n d =>
        obtain ⟨a1, a2, a3, a4, a5, a6⟩ := g2
        simp only [dep_leaf, dep_node] at hl hr h1 h2 ⊢
        by_cases hc : dep hl' ≤ dep hh
        · simp only [hc, decide_true, cond_true, dep_mk]
          exact ⟨.mk (.mk g1 a1 (by omega) (by omega)) a2 (by rw [dep_mk]; omega) (by rw [dep_mk]; omega), by omega, by omega, by omega⟩
        · simp only [hc, decide_false, cond_false]
          cases hl' with
          | leaf => have := a2.dep0; simp only [dep_leaf, dep_node] at hc; omega
          | node mk mv ml mh n' d' =>
            obtain ⟨b1, b2, b3, b4, b5, b6⟩ := a1
            simp only [dep_leaf, dep_node] at hc a4 a5 a6
            simp only [dep_mk]
            exact ⟨.mk (.mk g1 b1 (by omega) (by omega)) (.mk b2 a2 (by omega) (by omega)) (by simp only [dep_mk]; omega) (by simp only [dep_mk]; omega), by omega, by omega, by omega⟩
    · simp only [hr, decide_false, cond_false, dep_mk]
      exact ⟨.mk g1 g2 (by omega) (by omega), by omega, by omega, fun _ _ => trivial⟩
variable (lt : K → K → Bool)
def tPut (p : KV K V) : Tree K V → Tree K V
  | .leaf => mkT p .leaf .leaf
  | .node k v l h _ _ => bif lt p.1 k then evenT (k, v, ()) (tPut p l) h else bif lt k p.1 then evenT (k, v, ()) l (tPut p h) else mkT p l h
def Sorted (l : List (KV K V)) : Prop := l.Pairwise fun a b => lt a.1 b.1 = true
variable {lt}
theorem Avl.put {p : KV K V} : ∀ {t : Tree K V}, Avl t → Avl (tPut lt p t) ∧ dep t ≤ dep (tPut lt p t) ∧ dep (tPut lt p t) ≤ dep t + 1
  | .leaf, _ => ⟨⟨trivial, trivial, rfl, rfl, (by decide : (0 : Int) ≤ 0 + 1), (by decide : (0 : Int) ≤ 0 + 1)⟩, (by decide : (0 : Int) ≤ 1), (by decide : (1 : Int) ≤ 0 + 1)⟩
  | .node k v l h n d, ⟨h1, h2, h3, h4, h5, h6⟩ => by
    obtain ⟨a1, a2, a3⟩ := h1.put (p := p)
    obtain ⟨b1, b2, b3⟩ := h2.put (p := p)
    simp only [tPut, dep_leaf, dep_node]
    cases lt p.1 k with
    | true =>
      obtain ⟨c1, c2, c3, c4⟩ := Avl.even (p := (k, v, ())) a1 h2 (by omega) (by omega)
      refine ⟨c1, ?_, ?_⟩
      · simp only [cond_true]; by_cases hh : dep (tPut lt p l) ≤ dep h + 1
        · have := c4 hh (by omega); omega
        · omega
      · simp only [cond_true]; by_cases hh : dep (tPut lt p l) ≤ dep h + 1
        · have := c4 hh (by omega); omega
        · omega
    | false =>
      simp only [cond_false]
      cases lt k p.1 with
      | true =>
        obtain ⟨c1, c2, c3, c4⟩ := Avl.even (p := (k, v, ())) h1 b1 (by omega) (by omega)
        refine ⟨c1, ?_, ?_⟩
        · simp only [cond_true]; by_cases hh : dep (tPut lt p h) ≤ dep l + 1
          · have := c4 (by omega) hh; omega
          · omega
        · simp only [cond_true]; by_cases hh : dep (tPut lt p h) ≤ dep l + 1
          · have := c4 (by omega) hh; omega
          · omega
      | false =>
        simp only [cond_false, dep_mk]
        exact ⟨.mk h1 h2 h5 h6, by omega, by omega⟩
theorem Sorted.split {l h : List (KV K V)} {p : KV K V} : Sorted lt (l ++ p :: h) ↔ Sorted lt l ∧ Sorted lt h ∧ (∀ a ∈ l, lt a.1 p.1 = true) ∧ (∀ a ∈ h, lt p.1 a.1 = true) ∧ (∀ a ∈ l, ∀ b ∈ h, lt a.1 b.1 = true) := by
  unfold Sorted
  rw [List.pairwise_append, List.pairwise_cons]
  constructor
  · rintro ⟨h1, ⟨h2, h3⟩, h4⟩
    exact ⟨h1, h3, fun a ha => h4 a ha p (List.mem_cons_self ..), h2, fun a ha b hb => h4 a ha b (List.mem_cons_of_mem _ hb)⟩
  · rintro ⟨h1, h2, h3, h4, h5⟩
    refine ⟨h1, ⟨h4, h2⟩, fun a ha b hb => ?_⟩
    rcases List.mem_cons.1 hb with rfl | hb
    · exact h3 a ha
    · exact h5 a ha b hb
theorem Sorted.filter {l : List (KV K V)} (h : Sorted lt l) (p : KV K V → Bool) : Sorted lt (l.filter p) := List.Pairwise.sublist List.filter_sublist h
/-- the pairs, in which a key has a value -/
def putL (lt : K → K → Bool) (p : KV K V) (l : List (KV K V)) : List (KV K V) := l.filter (fun e => lt e.1 p.1) ++ p :: l.filter (fun e => lt p.1 e.1)
theorem fil_all {α : Type} {p : α → Bool} {l : List α} (h : ∀ a ∈ l, p a = true) : l.filter p = l := List.filter_eq_self.2 h
theorem fil_none {α : Type} {p : α → Bool} {l : List α} (h : ∀ a ∈ l, p a = false) : l.filter p = [] := List.filter_eq_nil_iff.2 fun a ha => by rw [h a ha]; exact Bool.noConfusion
theorem toL_put (L : LO lt) {p : KV K V} : ∀ {t : Tree K V}, Sorted lt (toL t) → toL (tPut lt p t) = putL lt p (toL t)
  | .leaf, _ => rfl
  | .node k v l h n d, hs => by
    simp only [toL] at hs
    obtain ⟨s1, s2, s3, s4, s5⟩ := Sorted.split.1 hs
    have a := toL_put L (p := p) s1
    have b := toL_put L (p := p) s2
    unfold putL at a b ⊢
    simp only [tPut, toL, List.filter_append, List.filter_cons]
    cases h1 : lt p.1 k with
    | true =>
      have h2 := L.asymm h1
      have e1 : (toL h).filter (fun e => lt e.1 p.1) = [] := fil_none fun e he => L.asymm (L.trans h1 (s4 e he))
      have e2 : (toL h).filter (fun e => lt p.1 e.1) = toL h := fil_all fun e he => L.trans h1 (s4 e he)
      simp only [cond_true, toL_even, a, h2, if_false, if_true, e1, e2, Bool.false_eq_true, List.append_nil, List.append_assoc, List.cons_append]
    | false =>
      simp only [cond_false]
      cases h2 : lt k p.1 with
      | true =>
        have e1 : (toL l).filter (fun e => lt e.1 p.1) = toL l := fil_all fun e he => L.trans (s3 e he) h2
        have e2 : (toL l).filter (fun e => lt p.1 e.1) = [] := fil_none fun e he => L.asymm (L.trans (s3 e he) h2)
        simp only [cond_true, toL_even, b, if_false, if_true, e1, e2, Bool.false_eq_true, List.nil_append, List.append_assoc, List.cons_append]
      | false =>
        have := L.eq h1 h2
        subst this
        have e1 : (toL l).filter (fun e => lt e.1 p.1) = toL l := fil_all s3
        have e2 : (toL l).filter (fun e => lt p.1 e.1) = [] := fil_none fun e he => L.asymm (s3 e he)
        have e3 : (toL h).filter (fun e => lt e.1 p.1) = [] := fil_none fun e he => L.asymm (s4 e he)
        have e4 : (toL h).filter (fun e => lt p.1 e.1) = toL h := fil_all s4
        simp only [cond_false, toL_mk, if_false, e1, e2, e3, e4, Bool.false_eq_true, List.nil_append, List.append_nil]
theorem Sorted.put (L : LO lt) {p : KV K V} {l : List (KV K V)} (h : Sorted lt l) : Sorted lt (putL lt p l) := by
  unfold putL
  rw [Sorted.split]
  refine ⟨h.filter _, h.filter _, fun a ha => (List.mem_filter.1 ha).2, fun a ha => (List.mem_filter.1 ha).2, fun a ha b hb => L.trans (List.mem_filter.1 ha).2 (List.mem_filter.1 hb).2⟩
theorem tPut_len {p : KV K V} : ∀ t : Tree K V, (toL (tPut lt p t)).length ≤ (toL t).length + 1
  | .leaf => Nat.le_refl _
  | .node k v l h n d => by
    have a := tPut_len (p := p) l
    have b := tPut_len (p := p) h
    simp only [tPut]
    cases lt p.1 k with
    | true => simp only [cond_true, toL_even, toL, List.length_append, List.length_cons]; omega
    | false =>
      cases lt k p.1 with
      | true => simp only [cond_true, cond_false, toL_even, toL, List.length_append, List.length_cons]; omega
      | false => simp only [cond_false, toL_mk, toL, List.length_append, List.length_cons]; omega
/-- numbers that don't wrap -/
def Sm (t : Tree K V) : Prop := 0 ≤ cnt t ∧ 0 ≤ dep t ∧ dep t ≤ cnt t
theorem Sm.mk {p : KV K V} {l h : Tree K V} (a : Sm l) (b : Sm h) : Sm (mkT p l h) := by
  obtain ⟨a1, a2, a3⟩ := a
  obtain ⟨b1, b2, b3⟩ := b
  exact ⟨by rw [cnt_mk]; omega, by rw [dep_mk]; omega, by rw [cnt_mk, dep_mk]; omega⟩
/-- a map's tree of at most so many -/
def MapI (lt : K → K → Bool) (t : Tree K V) (n : Nat) : Prop := Avl t ∧ Sorted lt (toL t) ∧ (toL t).length ≤ n
theorem MapI.leaf : MapI lt (.leaf : Tree K V) 0 := ⟨trivial, List.Pairwise.nil, Nat.le_refl _⟩
theorem MapI.put (L : LO lt) {t : Tree K V} {n : Nat} {p : KV K V} (h : MapI lt t n) : MapI lt (tPut lt p t) (n + 1) :=
  ⟨h.1.put.1, by rw [toL_put L h.2.1]; exact h.2.1.put L, Nat.le_trans (tPut_len t) (Nat.succ_le_succ h.2.2)⟩
theorem MapI.mono {t : Tree K V} {n m : Nat} (h : MapI lt t n) (hn : n ≤ m) : MapI lt t m := ⟨h.1, h.2.1, Nat.le_trans h.2.2 hn⟩
/-- sorted lists of the same pairs are the same -/
theorem Sorted.ext (L : LO lt) : ∀ {a b : List (KV K V)}, Sorted lt a → Sorted lt b → (∀ e, e ∈ a ↔ e ∈ b) → a = b
  | [], [], _, _, _ => rfl
  | [], y :: b, _, _, h => absurd ((h y).2 (List.mem_cons_self ..)) (List.not_mem_nil)
  | x :: a, [], _, _, h => absurd ((h x).1 (List.mem_cons_self ..)) (List.not_mem_nil)
  | x :: a, y :: b, ha, hb, h => by
    obtain ⟨a1, a2⟩ := List.pairwise_cons.1 ha
    obtain ⟨b1, b2⟩ := List.pairwise_cons.1 hb
    have e : x = y := by
      rcases List.mem_cons.1 ((h x).1 (List.mem_cons_self ..)) with e | hx
      · exact e
      · rcases List.mem_cons.1 ((h y).2 (List.mem_cons_self ..)) with e | hy
        · exact e.symm
        · have := L.asymm (a1 y hy)
          rw [b1 x hx] at this
          exact Bool.noConfusion this
    subst e
    congr 1
    refine Sorted.ext L a2 b2 fun e => ⟨fun he => ?_, fun he => ?_⟩
    · rcases List.mem_cons.1 ((h e).1 (List.mem_cons_of_mem _ he)) with rfl | h1
      · have := a1 e he; rw [L.irr] at this; exact Bool.noConfusion this
      · exact h1
    · rcases List.mem_cons.1 ((h e).2 (List.mem_cons_of_mem _ he)) with rfl | h1
      · have := b1 e he; rw [L.irr] at this; exact Bool.noConfusion this
      · exact h1
theorem Sorted.at (L : LO lt) {l : List (KV K V)} (hs : Sorted lt l) {i j : Nat} {p q : KV K V} (hi : l[i]? = some p) (hj : l[j]? = some q) : lt p.1 q.1 = decide (i < j) := by
  obtain ⟨h1, rfl⟩ := List.getElem?_eq_some_iff.1 hi
  obtain ⟨h2, rfl⟩ := List.getElem?_eq_some_iff.1 hj
  have key := List.pairwise_iff_getElem.1 hs
  by_cases h : i < j
  · rw [decide_eq_true h]; exact key i j h1 h2 h
  · rw [decide_eq_false h]
    by_cases h' : i = j
    · subst h'; exact L.irr _
    · exact L.asymm (key j i h2 h1 (by omega))
end
theorem LO.str : LO strlt := ⟨strlt_irrefl, strlt_trans, strlt_tri⟩
def ltI (a b : Int) : Bool := decide (a < b)
theorem LO.int : LO ltI := ⟨fun a => by simp [ltI], fun h h' => by simp only [ltI, decide_eq_true_eq] at *; omega, fun a b => by simp only [ltI, decide_eq_true_eq]; omega⟩
end Go.Sx
