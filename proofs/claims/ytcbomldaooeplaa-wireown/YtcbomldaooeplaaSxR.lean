/-
  Sx: a symbolic executor for the model, proved sound, part 3 of 4: an AI agent's own work.
-/
import Derived.Test.YtcbomldaooeplaaSxQ
import Derived.Deep.LoopGhost
namespace Go.Sx

/-! a struct's fields, one by one -/
def fieldCells : Ty → List Value → Nat → List Value
  | .pair a _, cs, 0 => cs.take a.size
  | .pair a b, cs, i + 1 => fieldCells b (cs.drop a.size) i
  | _, _, _ => []
def StructOk : Ty → List Value → Prop
  | .pair a b, cs => ∃ c1 c2, cs = c1 ++ c2 ∧ c1.length = a.size ∧ (∀ c ∈ c1, oneC c = true) ∧ StructOk b c2
  | .unit, cs => cs = []
  | _, _ => False
section
variable {C : Ctx} {g : Gh} {S : Nat → SV} {H : HLoc → SV} {a : Act} {w : World}
theorem fieldsOk_iff {F : Nat → SV} {iv : IV} : ∀ {t : Ty} {cs : List Value} {i : Nat}, FieldsOk F g iv t cs i ↔ StructOk t cs ∧ ∀ j A, fieldTy t j = some A → SR g iv (F (i + j)) (mkV A (fieldCells t cs j)) := by
  intro t
  induction t with
  | pair A B _ hB =>
    intro cs i
    constructor
    · rintro ⟨c1, c2, rfl, h2, h3, h4, h5⟩
      obtain ⟨k1, k2⟩ := hB.1 h5
      refine ⟨⟨c1, c2, rfl, h2, h3, k1⟩, fun j D hj => ?_⟩
      cases j with
      | zero =>
        simp only [fieldTy, Option.some.injEq] at hj
        subst hj
        simp only [fieldCells, ← h2, List.take_left]
        exact h4
      | succ j =>
        simp only [fieldTy] at hj
        simp only [fieldCells, ← h2, List.drop_left]
        have := k2 j D hj
        rwa [show i + 1 + j = i + (j + 1) from by omega] at this
    · rintro ⟨⟨c1, c2, rfl, h2, h3, k1⟩, hF⟩
      refine ⟨c1, c2, rfl, h2, h3, ?_, hB.2 ⟨k1, fun j D hj => ?_⟩⟩
      · have := hF 0 A rfl
        simpa only [fieldCells, ← h2, List.take_left, Nat.add_zero] using this
      · have := hF (j + 1) D hj
        simp only [fieldCells, ← h2, List.drop_left] at this
        rwa [show i + 1 + j = i + (j + 1) from by omega]
  | unit => intro cs i; exact ⟨fun h => ⟨h, fun j D hj => by simp [fieldTy] at hj⟩, fun h => h.1⟩
  | _ => intro cs i; exact ⟨fun h => h.elim, fun h => h.1.elim⟩
/-- some of the fields known otherwise -/
theorem ObjCells.remap {F F' : Nat → SV} {iv : IV} {t : Ty} {cs : List Value} (h : ObjCells F g iv t cs)
    (hF : ∀ j A, (fieldTy t j = some A → SR g iv (F j) (mkV A (fieldCells t cs j)) → SR g iv (F' j) (mkV A (fieldCells t cs j)))) (h0 : t.agg = false → SR g iv (F 0) (cs.headD undef) → SR g iv (F' 0) (cs.headD undef)) : ObjCells F' g iv t cs := by
  unfold ObjCells at h ⊢
  cases ht : t.agg with
  | true =>
    rw [ht] at h
    obtain ⟨k1, k2⟩ := fieldsOk_iff.1 h
    exact fieldsOk_iff.2 ⟨k1, fun j A hj => by have := k2 j A hj; rw [Nat.zero_add] at this ⊢; exact hF j A hj this⟩
  | false =>
    rw [ht] at h
    obtain ⟨c, h1, h2, h3⟩ := h
    exact ⟨c, h1, h2, by have := h0 ht; rw [h1] at this; exact this h3⟩

/-- places forgotten -/
theorem SimG.forget (hs : SimG C g S H a w) {S' : Nat → SV} {H' : HLoc → SV} (hS : ∀ n, S' n = S n ∨ S' n = .bot) (hH : ∀ l, H' l = H l ∨ H' l = .bot) (rS : ∀ n, RefOk H' (S' n))
    (rC : ∀ d i, RefOk H' (H' (.comp d i))) (rF : ∀ n i, RefOk H' (H' (.fld n i))) (rR : ∀ r, RefOk H' (H' (.row r))) (rP : ∀ d i v, C.pin d i = some v → H' (.comp d i) ≠ .bot) : SimG C g S' H' a w where
  defers := hs.defers
  slots n := by rcases hS n with h | h <;> rw [h]; exact hs.slots n; trivial
  comps d i := by rcases hH (.comp d i) with h | h <;> rw [h]; exact hs.comps d i; trivial
  sites n t hn := by
    rcases hH (.site n) with h | h
    · rw [h] at hn
      obtain ⟨cs, h1, h2, h3, h4⟩ := hs.sites n t hn
      refine ⟨cs, h1, h2, h3, h4.remap (fun j A _ hv => ?_) fun _ hv => ?_⟩
      · rcases hH (.fld n j) with h | h <;> simp only [h]; exact hv; trivial
      · rcases hH (.fld n 0) with h | h <;> simp only [h]; exact hv; trivial
    · rw [h] at hn; cases hn
  rows r p e l hr := by
    rcases hH (.row r) with h | h
    · rw [h] at hr; exact hs.rows r p e l hr
    · rw [h] at hr; cases hr
  deeps r e l n hh hr := by
    rcases hH (.row r) with h | h
    · rw [h] at hr; exact hs.deeps r e l n hh hr
    · rw [h] at hr; cases hr
  refR := rR
  refS := rS
  refC := rC
  refF := rF
  own := hs.own
  old := hs.old
  ext := hs.ext
  iv := hs.iv
  lv := hs.lv
  pin d i v h := ⟨rP d i v h, (hs.pin d i v h).2⟩
  low := hs.low
theorem RefOk.bot : RefOk H .bot := trivial

/-- a slot is known otherwise -/
theorem SimG.reslot (hs : SimG C g S H a w) {n : Nat} {v : SV} (hv : SR g (view g.fl w) v (a.tmps.getD n undef)) (hr : RefOk H v) : SimG C g (updS S n v) H a w := by
  refine { hs with slots := fun m => ?_, refS := fun m => ?_ }
  · by_cases e : m = n
    · subst e; rw [updS_self]; exact hv
    · rw [updS_ne _ _ e]; exact hs.slots m
  · by_cases e : m = n
    · subst e; rw [updS_self]; exact hr
    · rw [updS_ne _ _ e]; exact hs.refS m
/-- a field is known otherwise -/
theorem SimG.refld (hs : SimG C g S H a w) {n i : Nat} {v : SV} (hv : ∀ t, H (.site n) = .obj t → ∀ cs, Blk w (g.st n) cs → (∀ A, fieldTy t i = some A → SR g (view g.fl w) v (mkV A (fieldCells t cs i))) ∧ (t.agg = false → i = 0 → SR g (view g.fl w) v (cs.headD undef)))
    (hne : v ≠ .bot) (hr : RefOk H v) : SimG C g S (updH H (.fld n i) v) a w := by
  have hx : ∀ l, l ≠ HLoc.fld n i → updH H (.fld n i) v l = H l := fun l h => updH_ne _ _ h
  refine { hs with comps := fun d j => ?_, sites := fun m t hm => ?_, rows := fun r p e x hr' => ?_, deeps := fun r e x n hh hr => ?_, refR := fun r => ?_, refS := fun n => RefOk.upd hne (hs.refS n), refC := fun d j => ?_, refF := fun m j => ?_, pin := fun pd pi pv ph => ⟨updH_ne_bot hne (hs.pin pd pi pv ph).1, (hs.pin pd pi pv ph).2⟩ }
  · rw [hx _ (by simp)]; exact hs.comps d j
  · rw [hx _ (by simp)] at hm
    obtain ⟨cs, h1, h2, h3, h4⟩ := hs.sites m t hm
    refine ⟨cs, h1, h2, h3, h4.remap (fun j A hj h => ?_) fun ha h => ?_⟩
    · by_cases e : HLoc.fld m j = .fld n i
      · cases e; simp only [updH_self]; exact (hv t hm cs h1).1 A hj
      · simp only [hx _ e]; exact h
    · by_cases e : HLoc.fld m 0 = .fld n i
      · cases e; simp only [updH_self]; exact (hv t hm cs h1).2 ha rfl
      · simp only [hx _ e]; exact h
  · rw [hx _ (by simp)] at hr'; exact hs.rows r p e x hr'
  · rw [hx _ (by simp)] at hr; exact hs.deeps r e x n hh hr
  · rw [hx _ (by simp)]; exact RefOk.upd hne (hs.refR r)
  · rw [hx _ (by simp)]; exact RefOk.upd hne (hs.refC d j)
  · by_cases e : HLoc.fld m j = .fld n i
    · rw [e, updH_self]; exact RefOk.upd hne hr
    · rw [hx _ e]; exact RefOk.upd hne (hs.refF m j)

/-! owned slices under new names -/
open Classical in
noncomputable def lookO : List (Own × Own) → (Own → Option Own) → Own → Option Own
  | [], base, o => base o
  | (x, y) :: r, base, o => if o = x then some y else lookO r base o
theorem lookO_mem {base : Own → Option Own} : ∀ {m : List (Own × Own)}, (m.map fun p => p.1).Nodup → ∀ p ∈ m, lookO m base p.1 = some p.2
  | [], _, p, hp => by simp at hp
  | (x, y) :: r, h, p, hp => by
    simp only [List.map_cons, List.nodup_cons] at h
    unfold lookO
    rcases List.mem_cons.1 hp with rfl | hp
    · simp
    · have : p.1 ≠ x := fun e => h.1 (e ▸ List.mem_map.2 ⟨p, hp, rfl⟩)
      rw [if_neg this]
      exact lookO_mem h.2 p hp
theorem lookO_none {base : Own → Option Own} {o : Own} : ∀ {m : List (Own × Own)}, (∀ p ∈ m, p.1 ≠ o) → lookO m base o = base o
  | [], _ => rfl
  | (x, y) :: r, h => by
    unfold lookO
    rw [if_neg fun e => h (x, y) (by simp) e.symm]
    exact lookO_none fun p hp => h p (by simp [hp])
theorem rowOk_iff {r : Nat} {pub : Bool} {e : Ty} {l : List e.den} : RowOk g w r pub e l ↔ RowV g.fl g.own w (g.hd r) (.row r) pub e l := Iff.rfl
theorem RowV.relabel {fl : Nat → Nat} {own own' : Nat → Option Own} {v : Value} {o o' : Own} {pub : Bool} {e : Ty} {l : List e.den} (h : RowV fl own w v o pub e l) (ho : ∀ b, own b = some o → own' b = some o') : RowV fl own' w v o' pub e l := by
  rcases h with h | ⟨b, cap, cs, h1, h2, h3, h4, h5, h6, h7⟩
  · exact .inl h
  · exact .inr ⟨b, cap, cs, h1, h2, h3, h4, ho b h5, h6, h7⟩
theorem RowV.oneC {fl : Nat → Nat} {own : Nat → Option Own} {v : Value} {o : Own} {pub : Bool} {e : Ty} {l : List e.den} (h : RowV fl own w v o pub e l) : ∃ ad n c, v = .slice ad n c := by
  rcases h with ⟨h, _⟩ | ⟨b, cap, cs, h1, _⟩
  · exact ⟨_, _, _, h⟩
  · exact ⟨_, _, _, h1⟩
end
end Go.Sx
namespace Go.Sx
def locO : Own → HLoc
  | .site n => .site n
  | .row r => .row r
theorem nodupL_ok : ∀ {l : List HLoc}, nodupL l = true → l.Nodup
  | [], _ => List.nodup_nil
  | a :: r, h => by
    simp only [nodupL] at h
    cases hb : memL a r with
    | true => rw [hb] at h; exact Bool.noConfusion h
    | false =>
      rw [hb] at h
      exact List.nodup_cons.2 ⟨fun hm => by rw [memL_iff.2 hm] at hb; exact Bool.noConfusion hb, nodupL_ok h⟩
theorem nodup_fst {m : List (Own × Own)} (h : (m.map fun p => locO p.1).Nodup) : (m.map fun p => p.1).Nodup := by
  have : (m.map fun p => locO p.1) = (m.map fun p => p.1).map locO := by rw [List.map_map]; rfl
  rw [this] at h
  exact List.Pairwise.imp (fun hne e => hne (congrArg locO e)) (List.pairwise_map.1 h)
theorem Blk.uniq {w : World} {b : Nat} {cs cs' : List Value} (h : Blk w b cs) (h' : Blk w b cs') : cs = cs' := by
  obtain ⟨_, _, h, _⟩ := h
  obtain ⟨_, _, h', _⟩ := h'
  rw [h] at h'
  simp only [Option.some.injEq, Obj.cells.injEq] at h'
  simpa using congrArg Array.toList h'.1
def fieldVal' (t : Ty) (cs : List Value) (i : Nat) : Value :=
  cond t.agg (match fieldTy t i with | some A => mkV A (fieldCells t cs i) | none => undef) (cs.headD undef)
theorem fieldTy_lt : ∀ {t : Ty} {i : Nat}, i < nf t → ∃ A, fieldTy t i = some A := by
  intro t
  induction t with
  | pair A B _ hB =>
    intro i h
    cases i with
    | zero => exact ⟨A, rfl⟩
    | succ i => exact hB (i := i) (by simp [nf] at h; omega)
  | _ => intro i h; simp [nf] at h

/-- what lies at a place -/
def Has (st : Nat → Nat) (H : HLoc → SV) (a : Act) (w : World) : Place → Value → Prop
  | .slot n, v => v = a.tmps.getD n undef
  | .fld s i, v => ∃ t cs, H (.site s) = .obj t ∧ Blk w (st s) cs ∧ v = fieldVal' t cs i
def CF1 (fl : Nat → Nat) (own : Nat → Option Own) (w : World) (rid : Nat) (c : Carry) (val : Value) (x : c.t.den) (m : List (Own × Own)) : Prop :=
  match c with
  | ⟨_, t, .pv⟩ => m = [] ∧ VRep (view fl w) t val x
  | ⟨_, .slice e, .own pub⟩ => ((val = .slice none 0 0 ∧ x = []) ∧ m = []) ∨ ∃ r, m = [(.row r, .row rid)] ∧ RowV fl own w val (.row r) pub e x
  | ⟨_, _, .own _⟩ => False
  | ⟨_, .pair (.slice e) (.int _), .deep⟩ => (∀ p ∈ m, ∃ r, p = (.row r, .row rid)) ∧ ∀ own' : Nat → Option Own, (∀ p ∈ m, ∀ b, own b = some p.1 → own' b = some p.2) → DeepV fl own' w val (.row rid) e x.1 (Int.toNat x.2) none
  | ⟨_, _, .deep⟩ => False
def CF (fl : Nat → Nat) (own : Nat → Option Own) (w : World) (P : Place → Value → Prop) : Nat → (cs : List Carry) → (csTy cs).den → List (Own × Own) → Prop
  | _, [], _, m => m = []
  | rid, c :: r, x, m => ∃ val m1 m2, m = m1 ++ m2 ∧ P c.p val ∧ CF1 fl own w rid c val x.1 m1 ∧ CF fl own w P (rid + 1) r x.2 m2
/-- the same behind the new names -/
def CG1 (fl : Nat → Nat) (own : Nat → Option Own) (w : World) (rid : Nat) (c : Carry) (val : Value) (x : c.t.den) : Prop :=
  match c with
  | ⟨_, t, .pv⟩ => VRep (view fl w) t val x
  | ⟨_, .slice e, .own pub⟩ => RowV fl own w val (.row rid) pub e x
  | ⟨_, _, .own _⟩ => False
  | ⟨_, .pair (.slice e) (.int _), .deep⟩ => DeepV fl own w val (.row rid) e x.1 (Int.toNat x.2) none
  | ⟨_, _, .deep⟩ => False
def CG (fl : Nat → Nat) (own : Nat → Option Own) (w : World) (P : Place → Value → Prop) : Nat → (cs : List Carry) → (csTy cs).den → Prop
  | _, [], _ => True
  | rid, c :: r, x => ∃ val, P c.p val ∧ CG1 fl own w rid c val x.1 ∧ CG fl own w P (rid + 1) r x.2

section
variable {C : Ctx} {g : Gh} {S : Nat → SV} {H : HLoc → SV} {a : Act} {w : World}
theorem CF.change {fl : Nat → Nat} {own own' : Nat → Option Own} {P P' : Place → Value → Prop} : ∀ {cs : List Carry} {rid : Nat} {x : (csTy cs).den} {m : List (Own × Own)}, CF fl own w P rid cs x m → (∀ c ∈ cs, ∀ v, P c.p v → P' c.p v) →
    (∀ p ∈ m, ∀ b, own b = some p.1 → own' b = some p.2) → CG fl own' w P' rid cs x := by
  intro cs
  induction cs with
  | nil => intro rid x m _ _ _; trivial
  | cons c r ih =>
    rintro rid x m ⟨val, m1, m2, rfl, h1, h2, h3⟩ hP ho
    refine ⟨val, hP c (by simp) val h1, ?_, ih h3 (fun c' hc => hP c' (by simp [hc])) fun p hp => ho p (by simp [hp])⟩
    obtain ⟨pl, t, md⟩ := c
    cases md with
    | pv => exact h2.2
    | own pub =>
      cases t with
      | slice e =>
        rcases h2 with ⟨h, _⟩ | ⟨r', rfl, h⟩
        · exact .inl h
        · exact h.relabel fun b hb => ho (.row r', .row rid) (by simp) b hb
      | _ => exact h2.elim
    | deep =>
      cases t with
      | pair A B =>
        cases A <;> cases B <;> first | exact h2.elim | exact h2.2 own' fun p hp => ho p (by simp [hp])
      | _ => exact h2.elim
theorem CF.mem {fl : Nat → Nat} {own : Nat → Option Own} {P : Place → Value → Prop} : ∀ {cs : List Carry} {rid : Nat} {x : (csTy cs).den} {m : List (Own × Own)}, CF fl own w P rid cs x m → ∀ p ∈ m, ∃ r k, p = (.row r, .row k) := by
  intro cs
  induction cs with
  | nil => intro rid x m h p hp; rw [show m = [] from h] at hp; simp at hp
  | cons c r ih =>
    rintro rid x m ⟨val, m1, m2, rfl, h1, h2, h3⟩ p hp
    rcases List.mem_append.1 hp with hp | hp
    · obtain ⟨pl, t, md⟩ := c
      cases md with
      | pv => rw [h2.1] at hp; simp at hp
      | own pub =>
        cases t with
        | slice e =>
          rcases h2 with ⟨_, rfl⟩ | ⟨r', rfl, _⟩
          · simp at hp
          · simp at hp; exact ⟨_, _, hp⟩
        | _ => exact h2.elim
      | deep =>
        cases t with
        | pair A B =>
          cases A <;> cases B <;> first | exact h2.elim | (obtain ⟨r, e⟩ := h2.1 p hp; exact ⟨_, _, e⟩)
        | _ => exact h2.elim
    · exact ih h3 p hp

theorem collV_ok (hs : SimG C g S H a w) {c : Carry} {v : SV} {val : Value} {x : c.t.den} {pubs : HW} {drops keeps : List HLoc} {fp fp' : List HLoc} (h : (collV c v).run H fp = some ((x, pubs, drops, keeps), fp'))
    (hv : SR g (view g.fl w) v val) (hr : RefOk H v) (rid : Nat) : Pubs H pubs ∧ ∀ {hw : HW} {fl : Nat → Nat} {own : Nat → Option Own}, (∀ y ∈ pubs, y ∈ hw) → Pubs H hw → (∀ l ∈ keeps, l ∉ fsts hw) → SimG C { g with fl := fl, own := own } S (puts H hw) a w → (view g.fl w).le (view fl w) →
      ∃ m, drops = m.map (fun p => locO p.1) ∧ CF1 fl own w rid c val x m := by
  obtain ⟨pl, t, md⟩ := c
  unfold collV at h
  cases md with
  | pv =>
    simp only at h
    obtain ⟨⟨y, hw1⟩, fp1, k1, h⟩ := bind_some h
    obtain ⟨e, _⟩ := ret_some h
    cases e
    obtain ⟨p1, p2⟩ := toPV_ok hs k1 hv hr
    exact ⟨p1, fun hsub hp hk hs' hle => ⟨[], rfl, rfl, p2 _ _ ((hs'.rowsRd hp).sub hsub) hle⟩⟩
  | own pub =>
    simp only at h
    split at h
    · obtain ⟨⟨y, hw1⟩, fp1, k1, h⟩ := bind_some h
      obtain ⟨e, _⟩ := ret_some h
      cases e
      cases t <;> first | exact (fail_some k1).elim | skip
      obtain ⟨e1, _⟩ := ret_some k1
      cases e1
      exact ⟨trivial, fun _ _ _ _ _ => ⟨[], rfl, .inl ⟨⟨hv, rfl⟩, rfl⟩⟩⟩
    · rename_i r
      simp only [Rd.run] at h
      split at h
      · rename_i p e l hrow
        cases hp : cond p pub true with
        | false => rw [hp] at h; exact (fail_some h).elim
        | true =>
          rw [hp] at h
          obtain ⟨y, fp1, k1, h⟩ := bind_some h
          obtain ⟨k1, _⟩ := ofO_run k1
          obtain ⟨e1, _⟩ := ret_some h
          cases e1
          obtain ⟨he, rfl⟩ := castTo_eq k1
          subst he
          refine ⟨?_, fun {hw fl own} hsub hpb hk hs' hle => ⟨[(.row r, .row rid)], rfl, .inr ⟨r, rfl, ?_⟩⟩⟩
          · cases pub <;> cases p <;> first | trivial | exact ⟨⟨r, false, e, l, rfl, rfl, .inl hrow⟩, trivial⟩
          · have hval : val = g.hd r := hv
            rw [hval]
            have hrow' : puts H hw (.row r) = .row pub e l := by
              cases pub with
              | true =>
                refine puts_pub hpb ?_
                cases p with
                | true => exact .inl hrow
                | false => exact .inr (hsub _ (by simp))
              | false =>
                have hpf : p = false := by cases p <;> simp_all
                rw [puts_ne (hk _ (by simp)), hrow, hpf]
            exact hs'.rows r pub e l hrow'
      · exact (fail_some h).elim
    · exact (fail_some h).elim
  | deep =>
    simp only at h
    split at h
    · -- nil
      cases t with
      | pair A B =>
        cases A <;> cases B <;> first | exact (fail_some h).elim | skip
        obtain ⟨e1, _⟩ := ret_some h
        cases e1
        exact ⟨trivial, fun _ _ _ _ _ => ⟨[], rfl, fun p hp => (by simp at hp), fun own' _ => ⟨Nat.le_refl _, fun k x h => (by cases h), .inl ⟨hv, rfl⟩⟩⟩⟩
      | _ => exact (fail_some h).elim
    · rename_i r
      simp only [Rd.run] at h
      have hval : val = g.hd r := hv
      split at h
      · rename_i p e l hrow
        cases p with
        | true => exact (fail_some h).elim
        | false =>
          simp only [cond_false] at h
          obtain ⟨y, fp1, k1, h⟩ := bind_some h
          obtain ⟨k1, _⟩ := ofO_run k1
          obtain ⟨e1, _⟩ := ret_some h
          cases e1
          obtain ⟨he, rfl⟩ := castTo_eq k1
          subst he
          refine ⟨trivial, fun {hw fl own} _ hpb hk hs' hle => ⟨[(.row r, .row rid)], rfl, fun p hp => ⟨r, by simpa using hp⟩, fun own' ho => ?_⟩⟩
          have hrow' : puts H hw (.row r) = .row false e l := by rw [puts_ne (hk _ (by simp)), hrow]
          rw [hval]
          exact RowV.deep0 ((rowOk_iff.1 (hs'.rows r false e l hrow')).relabel fun b hb => ho (.row r, .row rid) (by simp) b hb)
      · rename_i e l n hh hrow
        cases hh with
        | none =>
          simp only at h
          obtain ⟨y, fp1, k1, h⟩ := bind_some h
          obtain ⟨k1, _⟩ := ofO_run k1
          obtain ⟨e1, _⟩ := ret_some h
          cases e1
          obtain ⟨he, rfl⟩ := castTo_eq k1
          subst he
          refine ⟨trivial, fun {hw fl own} _ hpb hk hs' hle => ⟨[(.row r, .row rid)], rfl, fun p hp => ⟨r, by simpa using hp⟩, fun own' ho => ?_⟩⟩
          have hrow' : puts H hw (.row r) = .deep e l n none := by rw [puts_ne (hk _ (by simp)), hrow]
          rw [hval]
          exact (hs'.deeps r e l n none hrow').frame (IV.le.refl _) fun b hb => ⟨fun _ h => h, ho (.row r, .row rid) (by simp) b hb, rfl⟩
        | some p =>
          obtain ⟨i, q⟩ := p
          simp only [Rd.run] at h
          split at h
          · rename_i pb u l' hq
            cases pb with
            | true => exact (fail_some h).elim
            | false =>
              simp only [cond_false] at h
              obtain ⟨x0, hi, h⟩ := opt_some h
              split at h
              · rename_i f hf
                obtain ⟨y, fp1, k1, h⟩ := bind_some h
                obtain ⟨k1, _⟩ := ofO_run k1
                obtain ⟨he, rfl⟩ := castTo_eq k1
                cases he
                obtain ⟨z, fp2, k2, h⟩ := bind_some h
                obtain ⟨k2, _⟩ := ofO_run k2
                obtain ⟨y, fp3, k3, h⟩ := bind_some h
                obtain ⟨k3, _⟩ := ofO_run k3
                obtain ⟨e1, _⟩ := ret_some h
                cases e1
                obtain ⟨he, rfl⟩ := castTo_eq k3
                subst he
                have hqr : q ≠ r := fun e => by rw [e, hrow] at hq; cases hq
                refine ⟨trivial, fun {hw fl own} _ hpb hk hs' hle => ⟨[(.row r, .row rid), (.row q, .row rid)], rfl, fun p hp => ?_, fun own' ho => ?_⟩⟩
                · simp at hp
                  rcases hp with hp | hp
                  · exact ⟨r, hp⟩
                  · exact ⟨q, hp⟩
                · have hrow' : puts H hw (.row r) = .deep e l n (some (i, q)) := by rw [puts_ne (hk _ (by simp)), hrow]
                  have hq' : puts H hw (.row q) = .row false f.2 l' := by rw [puts_ne (hk _ (by simp)), hq]
                  rw [hval]
                  exact DeepV.fill hqr (hs'.deeps r e l n _ hrow') hi (off := f.1) (u := f.2) (by rw [hf]) (rowOk_iff.1 (hs'.rows q false _ l' hq')) k2 (fun b hb => ho (.row r, .row rid) (by simp) b hb) fun b hb => ho (.row q, .row rid) (by simp) b hb
              · exact (fail_some h).elim
          · exact (fail_some h).elim
      · exact (fail_some h).elim
    · exact (fail_some h).elim
theorem has_ok (hs : SimG C g S H a w) {p : Place} {s : St} (hS : s.S = S) {v : SV} {fp fp' : List HLoc} (h : (placeV s p).run H fp = some (v, fp')) : ∃ val, Has g.st H a w p val ∧ SR g (view g.fl w) v val ∧ RefOk H v := by
  cases p with
  | slot n =>
    obtain ⟨e, _⟩ := ret_some h
    cases e
    rw [hS]
    exact ⟨_, rfl, hs.slots n, hs.refS n⟩
  | fld s' i =>
    simp only [placeV, Rd.run] at h
    split at h
    · rename_i t ht
      cases hb : cond t.agg (Nat.blt i (nfT t)) (Nat.beq i 0) with
      | false => rw [hb] at h; exact (fail_some h).elim
      | true =>
        rw [hb] at h
        simp only [cond, Rd.run, Option.some.injEq, Prod.mk.injEq] at h
        obtain ⟨rfl, _⟩ := h
        obtain ⟨cs, h1, h2, h3, h4⟩ := hs.sites s' t ht
        refine ⟨_, ⟨t, cs, ht, h1, rfl⟩, ?_, hs.refF s' i⟩
        unfold fieldVal'
        unfold ObjCells at h4
        cases ha : t.agg with
        | true =>
          rw [ha] at h4 hb
          have hlt : i < nf t := by rw [← nfT_eq]; exact Nat.le_of_ble_eq_true hb
          obtain ⟨A, hA⟩ := fieldTy_lt hlt
          obtain ⟨_, k2⟩ := fieldsOk_iff.1 h4
          have := k2 i A hA
          simpa [hA] using this
        | false =>
          rw [ha] at h4 hb
          obtain ⟨c, h5, h6, h7⟩ := h4
          have : i = 0 := Nat.eq_of_beq_eq_true hb
          subst this
          simpa [h5] using h7
    · exact (fail_some h).elim
theorem coll_ok (hs : SimG C g S H a w) {s : St} (hS : s.S = S) : ∀ {cs : List Carry} {rid : Nat} {x : (csTy cs).den} {pubs : HW} {drops keeps : List HLoc} {fp fp' : List HLoc}, (coll s cs).run H fp = some ((x, pubs, drops, keeps), fp') →
    Pubs H pubs ∧ ∀ {hw : HW} {fl : Nat → Nat} {own : Nat → Option Own}, (∀ y ∈ pubs, y ∈ hw) → Pubs H hw → (∀ l ∈ keeps, l ∉ fsts hw) → SimG C { g with fl := fl, own := own } S (puts H hw) a w → (view g.fl w).le (view fl w) →
      ∃ m, drops = m.map (fun p => locO p.1) ∧ CF fl own w (Has g.st H a w) rid cs x m := by
  intro cs
  induction cs with
  | nil =>
    intro rid x pubs drops keeps fp fp' h
    obtain ⟨e, _⟩ := ret_some h
    cases e
    exact ⟨trivial, fun _ _ _ _ _ => ⟨[], rfl, rfl⟩⟩
  | cons c r ih =>
    intro rid x pubs drops keeps fp fp' h
    simp only [coll] at h
    obtain ⟨v, fp1, k1, h⟩ := bind_some h
    obtain ⟨⟨x1, p1, d1, q1⟩, fp2, k2, h⟩ := bind_some h
    obtain ⟨⟨x2, p2, d2, q2⟩, fp3, k3, h⟩ := bind_some h
    obtain ⟨e, _⟩ := ret_some h
    cases e
    obtain ⟨val, v1, v2, v3⟩ := has_ok hs hS k1
    obtain ⟨c1, c2⟩ := collV_ok hs k2 v2 v3 rid
    obtain ⟨i1, i2⟩ := ih (rid := rid + 1) k3
    refine ⟨Pubs.append.2 ⟨c1, i1⟩, fun hsub hp hk hs' hle => ?_⟩
    obtain ⟨m1, e1, f1⟩ := c2 (fun y hy => hsub y (List.mem_append_left _ hy)) hp (fun l hl => hk l (List.mem_append_left _ hl)) hs' hle
    obtain ⟨m2, e2, f2⟩ := i2 (fun y hy => hsub y (List.mem_append_right _ hy)) hp (fun l hl => hk l (List.mem_append_right _ hl)) hs' hle
    exact ⟨m1 ++ m2, by simp [e1, e2], val, m1, m2, rfl, v1, f1, f2⟩

/-- the carried places, set -/
theorem putCs_ok : ∀ {cs : List Carry} {rid : Nat} {x : (csTy cs).den} {g : Gh} {s : St}, SimG C g s.S s.H a w → CG g.fl g.own w (Has g.st s.H a w) rid cs x → (∀ k, k < cs.length → s.H (.row (rid + k)) = .bot) →
    ∃ g', SimG C g' (putCs s rid cs x).S (putCs s rid cs x).H a w := by
  intro cs
  induction cs with
  | nil => intro rid x g s hs _ _; exact ⟨g, hs⟩
  | cons c r ih =>
    rintro rid x g s hs ⟨val, h1, h2, h3⟩ hf
    simp only [putCs]
    -- a place with its new value
    have place : ∀ {g : Gh} {s : St} {v : SV}, SimG C g s.S s.H a w → Has g.st s.H a w c.p val → SR g (view g.fl w) v val → RefOk s.H v → v ≠ .bot → SimG C g (putPl s c.p v).S (putPl s c.p v).H a w := by
      intro g s v hs hh hv hr hne
      cases hp : c.p with
      | slot n =>
        rw [hp] at hh
        exact hs.reslot (by rw [← show val = a.tmps.getD n undef from hh]; exact hv) hr
      | fld s' i =>
        rw [hp] at hh
        obtain ⟨t, cs, q1, q2, q3⟩ := hh
        refine hs.refld (fun t' ht' cs' hcs' => ?_) hne hr
        rw [q1] at ht'; cases ht'
        obtain rfl := q2.uniq hcs'
        refine ⟨fun A hA => ?_, fun ha hi => ?_⟩
        · have hag : t.agg = true := by cases t <;> first | rfl | (simp [fieldTy] at hA)
          rw [q3] at hv
          simpa [fieldVal', hag, hA] using hv
        · rw [q3] at hv
          simpa [fieldVal', ha] using hv
    have Has_pl : ∀ {s : St} {st : Nat → Nat} {p p' : Place} {v : SV} {val : Value}, Has st s.H a w p val → Has st (putPl s p' v).H a w p val := by
      intro s st p p' v val h
      cases p with
      | slot n => exact h
      | fld s' i =>
        obtain ⟨t, cs, q1, q2⟩ := h
        refine ⟨t, cs, ?_, q2⟩
        cases p' with
        | slot n => exact q1
        | fld s'' j => simp only [putPl]; rw [updH_ne _ _ (by simp)]; exact q1
    have row_pl : ∀ {s : St} {p' : Place} {v : SV} {k : Nat}, (putPl s p' v).H (.row k) = s.H (.row k) := by
      intro s p' v k
      cases p' with
      | slot n => rfl
      | fld s'' j => simp only [putPl]; rw [updH_ne _ _ (by simp)]
    have CG_mono : ∀ {fl : Nat → Nat} {own : Nat → Option Own} {P P' : Place → Value → Prop}, (∀ p v, P p v → P' p v) → ∀ {cs : List Carry} {rid : Nat} {x : (csTy cs).den}, CG fl own w P rid cs x → CG fl own w P' rid cs x := by
      intro fl own P P' hP cs
      induction cs with
      | nil => intro rid x h; trivial
      | cons c r ih => rintro rid x ⟨v, a1, a2, a3⟩; exact ⟨v, hP _ _ a1, a2, ih a3⟩
    obtain ⟨pl, t, md⟩ := c
    cases md with
    | pv =>
      have := place (v := .pv t x.1) hs h1 h2 trivial SV.noConfusion
      refine ih this (CG_mono (fun p v h => Has_pl h) h3) fun k hk => ?_
      show (putPl s pl _).H _ = _
      rw [row_pl]
      have := hf (k + 1) (by simpa using hk)
      rwa [show rid + (k + 1) = rid + 1 + k from by omega] at this
    | own pub =>
      cases t with
      | slice e =>
        have hbot : s.H (.row rid) = .bot := hf 0 (by simp)
        -- the header
        have hA : GAgree s.H g { g with hd := updN g.hd rid val } := ⟨fun _ _ => rfl, fun r' hr' => updN_ne _ _ fun e => hr' (e ▸ hbot), fun _ _ _ => rfl, rfl⟩
        have hg := hs.grow hA (IV.le.refl _) (fun _ _ _ h => ⟨rfl, h, rfl⟩) (fun _ _ _ h => ⟨rfl, h, rfl⟩) hs.own hs.old hs.ext
        have hrow := hg.setRow (r := rid) (pub := pub) (e := e) (l := x.1) (rowOk_iff.2 (by show RowV g.fl g.own w (updN g.hd rid val rid) _ _ _ _; rw [updN_self]; exact h2))
        have := place (s := { s with H := updH s.H (.row rid) (.row pub e x.1) }) (v := .hdr rid) hrow (by
            cases pl with
            | slot n => exact h1
            | fld s' i =>
              obtain ⟨t, cs, q1, q2⟩ := h1
              exact ⟨t, cs, by dsimp only; rw [updH_ne _ _ (by simp)]; exact q1, q2⟩) (by simp [SR]) (by simp only [RefOk]; rw [updH_self]; exact SV.noConfusion) SV.noConfusion
        refine ih this (CG_mono (fun p v h => ?_) h3) fun k hk => ?_
        · refine Has_pl ?_
          cases p with
          | slot n => exact h
          | fld s' i =>
            obtain ⟨t, cs, q1, q2⟩ := h
            exact ⟨t, cs, by dsimp only; rw [updH_ne _ _ (by simp)]; exact q1, q2⟩
        · show (putPl _ pl _).H _ = _
          rw [row_pl]
          dsimp only
          rw [updH_ne _ _ (by simp; omega)]
          have := hf (k + 1) (by simpa using hk)
          rwa [show rid + (k + 1) = rid + 1 + k from by omega] at this
      | _ => exact h2.elim
    | deep =>
      obtain ⟨e, k, rfl⟩ : ∃ e k, t = .pair (.slice e) (.int k) := by
        cases t with
        | pair A B => cases A <;> cases B <;> first | exact h2.elim | exact ⟨_, _, rfl⟩
        | _ => exact h2.elim
      have h2 : DeepV g.fl g.own w val (.row rid) e x.1.1 (Int.toNat x.1.2) none := h2
      have hbot : s.H (.row rid) = .bot := hf 0 (by simp)
      have hA : GAgree s.H g { g with hd := updN g.hd rid val } := ⟨fun _ _ => rfl, fun r' hr' => updN_ne _ _ fun e => hr' (e ▸ hbot), fun _ _ _ => rfl, rfl⟩
      have hg := hs.grow hA (IV.le.refl _) (fun _ _ _ h => ⟨rfl, h, rfl⟩) (fun _ _ _ h => ⟨rfl, h, rfl⟩) hs.own hs.old hs.ext
      have hrow := hg.setDeep (r := rid) (e := e) (l := x.1.1) (n := Int.toNat x.1.2) (h := none) (by show DeepV g.fl g.own w (updN g.hd rid val rid) _ _ _ _ _; rw [updN_self]; exact h2) fun _ _ h => by cases h
      have := place (s := { s with H := updH s.H (.row rid) (.deep e x.1.1 (Int.toNat x.1.2) none) }) (v := .hdr rid) hrow (by
          cases pl with
          | slot n => exact h1
          | fld s' i =>
            obtain ⟨t, cs, q1, q2⟩ := h1
            exact ⟨t, cs, by dsimp only; rw [updH_ne _ _ (by simp)]; exact q1, q2⟩) (by simp [SR]) (by simp only [RefOk]; rw [updH_self]; exact SV.noConfusion) SV.noConfusion
      refine ih this (CG_mono (fun p v h => ?_) h3) fun k hk => ?_
      · refine Has_pl ?_
        cases p with
        | slot n => exact h
        | fld s' i =>
          obtain ⟨t, cs, q1, q2⟩ := h
          exact ⟨t, cs, by dsimp only; rw [updH_ne _ _ (by simp)]; exact q1, q2⟩
      · show (putPl _ pl _).H _ = _
        rw [row_pl]
        dsimp only
        rw [updH_ne _ _ (by simp; omega)]
        have := hf (k + 1) (by simpa using hk)
        rwa [show rid + (k + 1) = rid + 1 + k from by omega] at this

/-- what is locked is sound by itself -/
def LkOk (s : St) : Prop := (∀ n ∈ s.lkS, keepSV s.lkH (s.S n) = true) ∧ ∀ l ∈ s.lkH, keepSV s.lkH (s.H l) = true
structure Keep (s s' : St) : Prop where
  lkS : s'.lkS = s.lkS
  lkH : s'.lkH = s.lkH
  S : ∀ n ∈ s.lkS, s'.S n = s.S n
  H : ∀ l ∈ s.lkH, s'.H l = s.H l
theorem Keep.refl (s : St) : Keep s s := ⟨rfl, rfl, fun _ _ => rfl, fun _ _ => rfl⟩
theorem Keep.trans {s t u : St} (h : Keep s t) (h' : Keep t u) : Keep s u :=
  ⟨h'.lkS.trans h.lkS, h'.lkH.trans h.lkH, fun n hn => (h'.S n (h.lkS ▸ hn)).trans (h.S n hn), fun l hl => (h'.H l (h.lkH ▸ hl)).trans (h.H l hl)⟩
theorem LkOk.keep {s s' : St} (h : LkOk s) (hk : Keep s s') : LkOk s' :=
  ⟨fun n hn => by rw [hk.lkS] at hn; rw [hk.lkH, hk.S n hn]; exact h.1 n hn, fun l hl => by rw [hk.lkH] at hl ⊢; rw [hk.H l hl]; exact h.2 l hl⟩
theorem allC_ok {ks : List HLoc} {d : Nat} : ∀ {n : Nat}, allC ks d n = true → ∀ i, i < n → HLoc.comp d i ∈ ks
  | 0, _, i, hi => by omega
  | n + 1, h, i, hi => by
    simp only [allC] at h
    obtain ⟨h1, h2⟩ := cond_and h
    by_cases e : i = n
    · subst e; exact memL_iff.1 h1
    · exact allC_ok h2 i (by omega)
theorem allC_mk {ks : List HLoc} {d : Nat} : ∀ {n : Nat}, (∀ i, i < n → HLoc.comp d i ∈ ks) → allC ks d n = true
  | 0, _ => rfl
  | n + 1, h => by simp only [allC, memL_iff.2 (h n (by omega)), cond]; exact allC_mk fun i hi => h i (by omega)
theorem keepSV_mono {ks ks' : List HLoc} (h : ∀ l ∈ ks, l ∈ ks') {v : SV} (hv : keepSV ks v = true) : keepSV ks' v = true := by
  cases v <;> first | exact hv | (exact memL_iff.2 (h _ (memL_iff.1 hv))) | (exact allC_mk fun i hi => h _ (allC_ok hv i hi)) | skip
  rename_i e l n hh
  cases hh with
  | none => rfl
  | some p => obtain ⟨i, q⟩ := p; exact memL_iff.2 (h _ (memL_iff.1 hv))
theorem keepAllS_ok {S : Nat → SV} {ks : List HLoc} : ∀ {l : List Nat}, keepAllS S ks l = true → ∀ n ∈ l, keepSV ks (S n) = true
  | [], _, n, hn => by simp at hn
  | m :: r, h, n, hn => by
    simp only [keepAllS] at h
    obtain ⟨h1, h2⟩ := cond_and h
    rcases List.mem_cons.1 hn with rfl | hn
    · exact h1
    · exact keepAllS_ok h2 n hn
theorem keepAllH_ok {H : HLoc → SV} {ks : List HLoc} : ∀ {l : List HLoc}, keepAllH H ks l = true → ∀ n ∈ l, keepSV ks (H n) = true
  | [], _, n, hn => by simp at hn
  | m :: r, h, n, hn => by
    simp only [keepAllH] at h
    obtain ⟨h1, h2⟩ := cond_and h
    rcases List.mem_cons.1 hn with rfl | hn
    · exact h1
    · exact keepAllH_ok h2 n hn
theorem LkOk.lock {s : St} (h : LkOk s) {rid : Nat} {σ : Shape} (hk : keepOk s rid σ = true) : LkOk (lock s σ) := by
  unfold keepOk at hk
  obtain ⟨h1, h2⟩ := cond_and hk
  obtain ⟨h2, h3⟩ := cond_and h2
  refine ⟨fun n hn => ?_, fun l hl => ?_⟩
  · rcases List.mem_append.1 hn with hn | hn
    · exact keepAllS_ok h1 n hn
    · exact keepSV_mono (fun l hl => List.mem_append_right _ hl) (h.1 n hn)
  · rcases List.mem_append.1 hl with hl | hl
    · exact keepAllH_ok h2 l hl
    · exact keepSV_mono (fun l hl => List.mem_append_right _ hl) (h.2 l hl)
theorem keep_ref {ks : List HLoc} {v : SV} (hk : keepSV ks v = true) (hr : RefOk H v) : RefOk (keptH H ks) v := by
  have here : ∀ {l}, memL l ks = true → keptH H ks l = H l := fun h => by simp [keptH, h]
  cases v with
  | adr s o => simp only [RefOk]; rw [here hk]; exact hr
  | hdr r => simp only [RefOk]; rw [here hk]; exact hr
  | oel r i o z => simp only [RefOk]; rw [here hk]; exact hr
  | tup d n =>
    have : n = 0 := Nat.eq_of_beq_eq_true hk
    subst this
    intro i hi; omega
  | fn f d n =>
    intro i hi
    rw [here (memL_iff.2 (allC_ok hk i hi))]
    exact hr i hi
  | agg d t => exact Bool.noConfusion hk
  | deep e l n hh =>
    intro i q hq
    subst hq
    rw [here hk]
    exact hr i q rfl
  | _ => trivial
theorem carryOk_ok {lkS : List Nat} {lkH : List HLoc} : ∀ {cs : List Carry} {rid : Nat}, carryOk lkS lkH rid cs = true →
    (∀ k, k < cs.length → HLoc.row (rid + k) ∉ lkH) ∧ ∀ c ∈ cs, match c.p with | .slot n => n ∉ lkS | .fld a i => HLoc.fld a i ∉ lkH ∧ HLoc.site a ∈ lkH
  | [], _, _ => ⟨fun k h => by simp at h, fun c hc => by simp at hc⟩
  | c :: r, rid, h => by
    simp only [carryOk] at h
    obtain ⟨h1, h2⟩ := cond_and h
    obtain ⟨k1, k2⟩ := carryOk_ok h2
    cases hb : memL (.row rid) lkH with
    | true => rw [hb] at h1; exact Bool.noConfusion h1
    | false =>
      rw [hb] at h1
      refine ⟨fun k hk hm => ?_, fun c' hc' => ?_⟩
      · cases k with
        | zero => rw [Nat.add_zero, ← memL_iff, hb] at hm; exact Bool.noConfusion hm
        | succ k => exact k1 k (by simpa using hk) (by rwa [show rid + 1 + k = rid + (k + 1) from by omega])
      · rcases List.mem_cons.1 hc' with rfl | hc'
        · split
          · rename_i n hp
            rw [hp] at h1
            intro hm
            simp [memN_iff.2 hm] at h1
          · rename_i s i hp
            rw [hp] at h1
            simp only [cond] at h1
            cases hf : memL (.fld s i) lkH with
            | true => rw [hf] at h1; exact Bool.noConfusion h1
            | false =>
              rw [hf] at h1
              exact ⟨fun hm => by rw [memL_iff.2 hm] at hf; exact Bool.noConfusion hf, memL_iff.1 h1⟩
        · exact k2 c' hc'
end
end Go.Sx
namespace Go.Sx
section
variable {P : Program} {C : Ctx} {g : Gh} {a : Act} {w : World}

theorem putPl_keep {s : St} {p : Place} {v : SV} : (putPl s p v).lkS = s.lkS ∧ (putPl s p v).lkH = s.lkH := by cases p <;> exact ⟨rfl, rfl⟩
theorem putCs_keep {lkS : List Nat} {lkH : List HLoc} : ∀ {cs : List Carry} {rid : Nat} {s : St} {x : (csTy cs).den}, carryOk lkS lkH rid cs = true →
    (putCs s rid cs x).lkS = s.lkS ∧ (putCs s rid cs x).lkH = s.lkH ∧ (∀ n ∈ lkS, (putCs s rid cs x).S n = s.S n) ∧ ∀ l ∈ lkH, (putCs s rid cs x).H l = s.H l := by
  intro cs
  induction cs with
  | nil => intro rid s x _; exact ⟨rfl, rfl, fun _ _ => rfl, fun _ _ => rfl⟩
  | cons c r ih =>
    intro rid s x h
    obtain ⟨h1, h2⟩ := carryOk_ok h
    have ht : carryOk lkS lkH (rid + 1) r = true := by simp only [carryOk] at h; exact (cond_and h).2
    simp only [putCs]
    obtain ⟨k1, k2, k3, k4⟩ := ih (s := putC s rid c x.1) (x := x.2) ht
    have hc := h2 c (by simp)
    have hrid := h1 0 (by simp)
    rw [Nat.add_zero] at hrid
    have pl : ∀ (s : St) (v : SV), (putPl s c.p v).lkS = s.lkS ∧ (putPl s c.p v).lkH = s.lkH ∧ (∀ n ∈ lkS, (putPl s c.p v).S n = s.S n) ∧ ∀ l ∈ lkH, (putPl s c.p v).H l = s.H l := by
      intro s v
      refine ⟨putPl_keep.1, putPl_keep.2, fun n hn => ?_, fun l hl => ?_⟩
      · cases hp : c.p with
        | slot m =>
          rw [hp] at hc
          exact updS_ne _ _ fun e => hc (e ▸ hn)
        | fld s' i => rfl
      · cases hp : c.p with
        | slot m => rfl
        | fld s' i =>
          rw [hp] at hc
          exact updH_ne _ _ fun e => hc.1 (e ▸ hl)
    have one : (putC s rid c x.1).lkS = s.lkS ∧ (putC s rid c x.1).lkH = s.lkH ∧ (∀ n ∈ lkS, (putC s rid c x.1).S n = s.S n) ∧ ∀ l ∈ lkH, (putC s rid c x.1).H l = s.H l := by
      obtain ⟨p, t, md⟩ := c
      cases md with
      | pv => exact pl s _
      | own pub =>
        cases t with
        | slice e =>
          obtain ⟨a1, a2, a3, a4⟩ := pl { s with H := updH s.H (.row rid) (.row pub e x.1) } (.hdr rid)
          refine ⟨a1, a2, a3, fun l hl => (a4 l hl).trans ?_⟩
          exact updH_ne _ _ fun e => hrid (e ▸ hl)
        | _ => exact ⟨rfl, rfl, fun _ _ => rfl, fun _ _ => rfl⟩
      | deep =>
        cases t with
        | pair A B =>
          cases A <;> cases B <;> first
            | exact ⟨rfl, rfl, fun _ _ => rfl, fun _ _ => rfl⟩
            | (rename_i e _
               obtain ⟨a1, a2, a3, a4⟩ := pl { s with H := updH s.H (.row rid) (.deep e x.1.1 (Int.toNat x.1.2) none) } (.hdr rid)
               refine ⟨a1, a2, a3, fun l hl => (a4 l hl).trans ?_⟩
               exact updH_ne _ _ fun e => hrid (e ▸ hl))
        | _ => exact ⟨rfl, rfl, fun _ _ => rfl, fun _ _ => rfl⟩
    exact ⟨k1.trans one.1, k2.trans one.2.1, fun n hn => (k3 n hn).trans (one.2.2.1 n hn), fun l hl => (k4 l hl).trans (one.2.2.2 l hl)⟩
theorem keptS_in {S : Nat → SV} {ks : List Nat} {n : Nat} (h : n ∈ ks) : keptS S ks n = S n := by simp [keptS, memN_iff.2 h]
theorem keptH_in {H : HLoc → SV} {ks : List HLoc} {l : HLoc} (h : l ∈ ks) : keptH H ks l = H l := by simp [keptH, memL_iff.2 h]
theorem keptH_out {H : HLoc → SV} {ks : List HLoc} {l : HLoc} (h : l ∉ ks) : keptH H ks l = .bot := by
  unfold keptH
  cases hb : memL l ks with
  | true => exact absurd (memL_iff.1 hb) h
  | false => rfl
/-- what stays behind a meeting of ways -/
theorem restore_keep {s : St} {rid : Nat} {σ : Shape} {x : (csTy σ.cs).den} (hk : keepOk s rid σ = true) : (restore s rid σ x).lkS = s.lkS ∧ (restore s rid σ x).lkH = s.lkH ∧
    (∀ n ∈ σ.keepS ++ s.lkS, (restore s rid σ x).S n = s.S n) ∧ ∀ l ∈ σ.keepH ++ s.lkH, (restore s rid σ x).H l = s.H l := by
  unfold keepOk at hk
  obtain ⟨_, hk⟩ := cond_and hk
  obtain ⟨_, hc⟩ := cond_and hk
  obtain ⟨h1, h2, h3, h4⟩ := putCs_keep (s := { s with S := keptS s.S (σ.keepS ++ s.lkS), H := keptH s.H (σ.keepH ++ s.lkH) }) (x := x) hc
  exact ⟨h1, h2, fun n hn => (h3 n hn).trans (keptS_in hn), fun l hl => (h4 l hl).trans (keptH_in hl)⟩
theorem Keep.rest {s : St} {rid : Nat} {σ : Shape} {x : (csTy σ.cs).den} (hk : keepOk s rid σ = true) : Keep s (restore s rid σ x) := by
  obtain ⟨h1, h2, h3, h4⟩ := restore_keep (x := x) hk
  exact ⟨h1, h2, fun n hn => h3 n (List.mem_append_right _ hn), fun l hl => h4 l (List.mem_append_right _ hl)⟩
theorem Keep.lock_restore {s : St} {rid : Nat} {σ : Shape} {x : (csTy σ.cs).den} (hk : keepOk s rid σ = true) : Keep (lock s σ) (lock (restore s rid σ x) σ) := by
  obtain ⟨h1, h2, h3, h4⟩ := restore_keep (x := x) hk
  exact ⟨by simp only [lock, h1], by simp only [lock, h2], h3, h4⟩
theorem Keep.unlock {s s' : St} {σ : Shape} (h : Keep (lock s σ) s') : Keep s { s' with lkS := s.lkS, lkH := s.lkH } :=
  ⟨rfl, rfl, fun n hn => h.S n (List.mem_append_right _ hn), fun l hl => h.H l (List.mem_append_right _ hl)⟩

/-- what is locked; pinned parts are -/
structure LkC (C : Ctx) (s : St) : Prop where
  lk : LkOk s
  pin : ∀ d i v, C.pin d i = some v → HLoc.comp d i ∈ s.lkH
theorem LkC.keep {s s' : St} (h : LkC C s) (hk : Keep s s') : LkC C s' := ⟨h.lk.keep hk, fun d i v hp => by rw [hk.lkH]; exact h.pin d i v hp⟩
theorem LkC.lock {s : St} (h : LkC C s) {rid : Nat} {σ : Shape} (hk : keepOk s rid σ = true) : LkC C (lock s σ) := ⟨h.lk.lock hk, fun d i v hp => List.mem_append_right _ (h.pin d i v hp)⟩
theorem restore_ok {nt : Nat × Nat} {s s' : St} {rid : Nat} {σ : Shape} {x : (csTy σ.cs).den} (hk : keepOk s rid σ = true) (hl : LkC C s) (hkeep : Keep (lock s σ) s') (hs : SimN nt C s'.S s'.H a w) (hx : collect s' σ.cs = some x) :
    SimN nt C (restore s rid σ x).S (restore s rid σ x).H a w := by
  obtain ⟨hn, g, hs⟩ := hs
  refine ⟨hn, ?_⟩
  unfold collect at hx
  rw [Rd.runC_eq] at hx
  obtain ⟨⟨⟨x', pubs, drops, keeps⟩, fp⟩, h1, h2⟩ := Option.bind_eq_some_iff.1 hx
  simp only [force_eq] at h2
  cases hb : cond (cond (freeW s'.lkH pubs) (disjL drops s'.lkH) false) (cond (nodupL drops) (disjL keeps (fsts pubs)) false) false with
  | false => rw [hb] at h2; simp at h2
  | true =>
    rw [hb] at h2
    simp only [cond, Option.some.injEq] at h2
    subst h2
    obtain ⟨b1, b2⟩ := cond_and hb
    obtain ⟨b1, b3⟩ := cond_and b1
    obtain ⟨b2, b4⟩ := cond_and b2
    obtain ⟨p1, p2⟩ := coll_ok hs rfl (rid := rid) h1
    obtain ⟨fl, own, q1, q2⟩ := hs.pubs p1
    obtain ⟨m, m1, m2⟩ := p2 (fun y hy => hy) p1 (disjL_ok b4) q1 q2
    have hkH : s'.lkH = σ.keepH ++ s.lkH := hkeep.lkH
    have hkS : s'.lkS = σ.keepS ++ s.lkS := hkeep.lkS
    have hll := hl.lk.lock hk
    -- what was written was not kept
    have hput : ∀ l ∈ σ.keepH ++ s.lkH, puts s'.H pubs l = s.H l := fun l hl => by
      rw [puts_ne (freeW_ok b1 l (hkH ▸ hl))]
      exact hkeep.H l hl
    have hSk : ∀ n ∈ σ.keepS ++ s.lkS, s'.S n = s.S n := fun n hn => hkeep.S n hn
    have eS : keptS s.S (σ.keepS ++ s.lkS) = keptS s'.S (σ.keepS ++ s.lkS) := by
      funext n
      unfold keptS
      cases hm : memN n (σ.keepS ++ s.lkS) with
      | true => exact (hSk n (memN_iff.1 hm)).symm
      | false => rfl
    have eH : keptH s.H (σ.keepH ++ s.lkH) = keptH (puts s'.H pubs) (σ.keepH ++ s.lkH) := by
      funext l
      unfold keptH
      cases hm : memL l (σ.keepH ++ s.lkH) with
      | true => exact (hput l (memL_iff.1 hm)).symm
      | false => rfl
    have hf : SimG C { g with fl := fl, own := own } (keptS s.S (σ.keepS ++ s.lkS)) (keptH s.H (σ.keepH ++ s.lkH)) a w := by
      rw [eS, eH]
      refine q1.forget (fun n => ?_) (fun l => ?_) (fun n => ?_) (fun d i => ?_) (fun n i => ?_) (fun r => ?_) fun d i v hp => by
        rw [keptH_in (List.mem_append_right _ (hl.pin d i v hp))]
        exact (q1.pin d i v hp).1
      · unfold keptS; cases memN n (σ.keepS ++ s.lkS) <;> simp
      · unfold keptH; cases memL l (σ.keepH ++ s.lkH) <;> simp
      · by_cases hm : n ∈ σ.keepS ++ s.lkS
        · rw [keptS_in hm]
          exact keep_ref (by rw [hSk n hm]; exact hll.1 n hm) (q1.refS n)
        · have : keptS s'.S (σ.keepS ++ s.lkS) n = .bot := by
            unfold keptS
            cases hb : memN n (σ.keepS ++ s.lkS) with
            | true => exact absurd (memN_iff.1 hb) hm
            | false => rfl
          rw [this]; trivial
      · by_cases hm : HLoc.comp d i ∈ σ.keepH ++ s.lkH
        · rw [keptH_in hm]
          exact keep_ref (by rw [hput _ hm]; exact hll.2 _ hm) (q1.refC d i)
        · rw [keptH_out hm]; trivial
      · by_cases hm : HLoc.fld n i ∈ σ.keepH ++ s.lkH
        · rw [keptH_in hm]
          exact keep_ref (by rw [hput _ hm]; exact hll.2 _ hm) (q1.refF n i)
        · rw [keptH_out hm]; trivial
      · by_cases hm : HLoc.row r ∈ σ.keepH ++ s.lkH
        · rw [keptH_in hm]
          exact keep_ref (by rw [hput _ hm]; exact hll.2 _ hm) (q1.refR r)
        · rw [keptH_out hm]; trivial
    -- new names
    have hdrop : ∀ p ∈ m, locO p.1 ∉ σ.keepH ++ s.lkH := fun p hp => by
      have : locO p.1 ∈ drops := by rw [m1]; exact List.mem_map.2 ⟨p, hp, rfl⟩
      rw [← hkH]
      exact disjL_ok b3 _ this
    have hnd : (m.map fun p => p.1).Nodup := nodup_fst (by rw [← m1]; exact nodupL_ok b2)
    let base : Own → Option Own := fun o => some o
    let own2 : Nat → Option Own := fun b => (own b).bind (lookO m base)
    have hkeepL : ∀ o, locO o ∈ σ.keepH ++ s.lkH → lookO m base o = some o := fun o ho => lookO_none fun p hp e => hdrop p hp (e ▸ ho)
    have hmem : ∀ l, keptH s.H (σ.keepH ++ s.lkH) l ≠ .bot → l ∈ σ.keepH ++ s.lkH := fun l hl => Classical.byContradiction fun hm => hl (keptH_out hm)
    have hg : SimG C { g with fl := fl, own := own2 } (keptS s.S (σ.keepS ++ s.lkS)) (keptH s.H (σ.keepH ++ s.lkH)) a w := by
      refine hf.grow (GAgree.same rfl rfl rfl) (IV.le.refl _) (fun n t hn ho => ⟨rfl, ?_, rfl⟩) (fun r b hr ho => ⟨rfl, ?_, rfl⟩) (fun b hb => hf.own b fun e => hb (by
        have e : own b = none := e
        simp [own2, e])) hf.old hf.ext
      · have ho : own (g.st n) = some (.site n) := ho
        simp only [own2, ho, Option.bind_some]
        exact hkeepL (.site n) (hmem (.site n) (by rw [hn]; exact SV.noConfusion))
      · have ho : own b = some (.row r) := ho
        simp only [own2, ho, Option.bind_some]
        exact hkeepL (.row r) (hmem (.row r) (by rcases hr with ⟨p, e, l, hr⟩ | ⟨e, l, n, h, hr⟩ <;> rw [hr] <;> exact SV.noConfusion))
    have hkk := hk
    unfold keepOk at hkk
    obtain ⟨_, hkk⟩ := cond_and hkk
    obtain ⟨_, hc⟩ := cond_and hkk
    obtain ⟨c1, c2⟩ := carryOk_ok hc
    have hCG : CG fl own2 w (Has g.st (keptH s.H (σ.keepH ++ s.lkH)) a w) rid σ.cs x' := by
      refine m2.change (fun c hcm v hv => ?_) fun p hp b hb => ?_
      · have := c2 c hcm
        cases hpl : c.p with
        | slot n => rw [hpl] at hv; exact hv
        | fld s'' i =>
          rw [hpl] at hv this
          obtain ⟨t, cs, e1, e2⟩ := hv
          refine ⟨t, cs, ?_, e2⟩
          rw [keptH_in this.2]
          exact (hkeep.H _ this.2).symm.trans e1
      · simp only [own2, hb, Option.bind_some]
        exact lookO_mem hnd p hp
    obtain ⟨g', hfin⟩ := putCs_ok (g := { g with fl := fl, own := own2 }) (s := { s with S := keptS s.S (σ.keepS ++ s.lkS), H := keptH s.H (σ.keepH ++ s.lkH) }) hg hCG fun k hk' => keptH_out (c1 k hk')
    exact ⟨g', hfin⟩

/-- what is shown of code -/
def CodeOk (P : Program) (E : Env) (c : Code) : Prop :=
  ∀ {C : Ctx} {R : Type} {s : St} {k : Exit → St → Option R} {r : R} {a : Act} {w : World} {Q : Exit → Act → World → Prop}, aexec E c s k = some r → SimN (E.nt, E.lo) C s.S s.H a w → LkC C s →
    (∀ e a' w' s', SimN (E.nt, E.lo) C s'.S s'.H a' w' → Keep s s' → k e s' = some r → Q e a' w') → c.wp P Q a w

theorem seq_join {E : Env} {x y : Code} (hx : CodeOk P E x) (hy : CodeOk P E y) {R : Type} {s : St} {k : Exit → St → Option R} {r : R} {Q : Exit → Act → World → Prop} {σ : Shape} {rid : Nat}
    (h : cond (keepOk s rid σ) (Option.bind (aexec E x (R := (csTy σ.cs).den ⊕ R) (lock s σ) fun e s' => match e with
        | .normal => Option.map Sum.inl (collect s' σ.cs)
        | e => Option.map Sum.inr (k e { s' with lkS := s.lkS, lkH := s.lkH }))
        fun o => Sum.elim (fun x => aexec E y (restore s rid σ x) k) some o) none = some r) (hs : SimN (E.nt, E.lo) C s.S s.H a w) (hl : LkC C s)
    (hq : ∀ e a' w' s', SimN (E.nt, E.lo) C s'.S s'.H a' w' → Keep s s' → k e s' = some r → Q e a' w') : (Code.seq x y).wp P Q a w := by
  cases hk : keepOk s rid σ with
  | false => rw [hk] at h; simp at h
  | true =>
    rw [hk] at h
    obtain ⟨o, h1, h2⟩ := Option.bind_eq_some_iff.1 (show Option.bind _ _ = _ from h)
    refine wp_seq (hx h1 hs (hl.lock hk) fun e a' w' s' hs' hkeep he => ?_)
    have other : (∀ z, o = Sum.inl z → False) → (∃ z, o = Sum.inr z ∧ k e { s' with lkS := s.lkS, lkH := s.lkH } = some z) → Q e a' w' := by
      rintro _ ⟨z, rfl, hz⟩
      obtain rfl : z = r := Option.some.inj h2
      exact hq e a' w' { s' with lkS := s.lkS, lkH := s.lkH } hs' hkeep.unlock hz
    cases e with
    | normal =>
      obtain ⟨x', h3, rfl⟩ := Option.map_eq_some_iff.1 he
      exact hy h2 (restore_ok hk hl hkeep hs' h3) (hl.keep (Keep.rest hk)) fun e a'' w'' s'' h4 h5 h6 => hq e a'' w'' s'' h4 ((Keep.rest hk).trans h5) h6
    | _ =>
      obtain ⟨z, h3, rfl⟩ := Option.map_eq_some_iff.1 he
      exact other (fun _ e => by cases e) ⟨z, rfl, h3⟩

theorem loop_ok {E : Env} {body : Code} (hb : CodeOk P E body) {R : Type} {s : St} {k : Exit → St → Option R} {r : R} {Q : Exit → Act → World → Prop} {σ : Shape} {rid : Nat}
    (hk : keepOk s rid σ = true) (hl : LkC C s) (hq : ∀ e a' w' s', SimN (E.nt, E.lo) C s'.S s'.H a' w' → Keep s s' → k e s' = some r → Q e a' w') {n : Nat} {x : (csTy σ.cs).den}
    (h : iter (fun x => aexec E body (R := (csTy σ.cs).den ⊕ R) (lock (restore s rid σ x) σ) fun e s' => match e with
          | .normal => Option.map Sum.inl (collect s' σ.cs)
          | e => Option.map Sum.inr (k e { s' with lkS := s.lkS, lkH := s.lkH })) n x = some r)
    (hs : SimN (E.nt, E.lo) C (restore s rid σ x).S (restore s rid σ x).H a w) : (Code.loop body).wp P Q a w := by
  generalize hst : (fun x => aexec E body (R := (csTy σ.cs).den ⊕ R) (lock (restore s rid σ x) σ) fun e s' => match e with
          | .normal => Option.map Sum.inl (collect s' σ.cs)
          | e => Option.map Sum.inr (k e { s' with lkS := s.lkS, lkH := s.lkH })) = step at h
  let I : Nat → Act → World → Prop := fun n a w => ∃ x, iter step n x = some r ∧ SimN (E.nt, E.lo) C (restore s rid σ x).S (restore s rid σ x).H a w
  refine wp_loop_ghost I n ⟨x, h, hs⟩ fun n a w ⟨x, h1, h2⟩ => ?_
  cases n with
  | zero => simp [iter] at h1
  | succ m =>
    simp only [iter] at h1
    obtain ⟨o, h3, h4⟩ := Option.bind_eq_some_iff.1 h1
    rw [← hst] at h3
    refine hb h3 h2 ((hl.lock hk).keep (Keep.lock_restore hk)) fun e a' w' s' hs' hkeep he => ?_
    have hkeep' : Keep (lock s σ) s' := (Keep.lock_restore hk).trans hkeep
    cases e with
    | normal =>
      obtain ⟨x', h5, rfl⟩ := Option.map_eq_some_iff.1 he
      exact ⟨m, Nat.lt_succ_self m, x', h4, restore_ok hk hl hkeep' hs' h5⟩
    | _ =>
      obtain ⟨z, h5, rfl⟩ := Option.map_eq_some_iff.1 he
      obtain rfl : z = r := Option.some.inj h4
      exact hq _ a' w' { s' with lkS := s.lkS, lkH := s.lkH } hs' hkeep'.unlock h5

theorem both_ok {R : Type} {x y : Option R} {r : R} (h : both x y = some r) : x = some r ∧ y = some r := by
  unfold both at h
  split at h
  · rename_i e; exact ⟨h, e ▸ h⟩
  · simp at h
theorem aexec_ok {E : Env} (hTab : TabOk P E.tab) (hΓ : CallOk P E.tab E.Γ) (hm : P.follows .mixedOrders = true) (c : Code) : CodeOk P E c := by
  induction c with
  | skip => intro C R s k r a w Q h hs _ hq; exact wp_skip (hq _ _ _ s hs (Keep.refl s) (by simpa [aexec] using h))
  | region id ops draw =>
    intro C R s k r a w Q h hs _ hq
    rw [aexec] at h
    exact aregion_ok hTab hΓ hm h hs fun a' w' S' H' h1 h2 h3 h4 => hq .normal a' w' { s with S := S', H := H' } h1 ⟨rfl, rfl, h2, h3⟩ h4
  | seq x y hx hy =>
    intro C R s k r a w Q h hs hl hq
    rw [aexec] at h
    split at h
    · refine wp_seq (hx h hs hl fun e a' w' s' hs' hkeep he => ?_)
      cases e with
      | normal => exact hy he hs' (hl.keep hkeep) fun e a'' w'' s'' h4 h5 h6 => hq e a'' w'' s'' h4 (hkeep.trans h5) h6
      | _ => exact hq _ a' w' s' hs' hkeep he
    · exact seq_join hx hy h hs hl hq
  | cond o x y hx hy =>
    intro C R s k r a w Q h hs hl hq
    rw [aexec] at h
    split at h
    · rename_i b hb
      have hv := hs.2.elim fun g hg => vrep_bool (hb ▸ (hg.ev o).1)
      refine wp_cond hv ?_
      cases b with
      | true => exact hx h hs hl hq
      | false => exact hy h hs hl hq
    · rename_i hb
      have hv : ∃ b, a.eval o = .bool b := hs.2.elim fun g hg => by have := (hg.ev o).1; rw [hb] at this; exact this
      obtain ⟨b, hv⟩ := hv
      obtain ⟨h1, h2⟩ := both_ok h
      refine wp_cond hv ?_
      cases b with
      | true => exact hx h1 hs hl hq
      | false => exact hy h2 hs hl hq
    · simp at h
  | block id body hb =>
    intro C R s k r a w Q h hs hl hq
    rw [aexec] at h
    refine wp_block (hb h hs hl fun e a' w' s' hs' hkeep he => ?_)
    cases e with
    | exit j =>
      simp only [Exit.inBlock]
      cases hj : Nat.beq j id with
      | true =>
        simp only [hj, _root_.cond] at he
        rw [if_pos (Nat.eq_of_beq_eq_true hj)]
        exact hq .normal a' w' s' hs' hkeep he
      | false =>
        simp only [hj, _root_.cond] at he
        rw [if_neg (fun e => by subst e; simp at hj)]
        exact hq (.exit j) a' w' s' hs' hkeep he
    | _ => exact hq _ a' w' s' hs' hkeep he
  | loop body hb =>
    intro C R s k r a w Q h hs hl hq
    rw [aexec] at h
    split at h
    · simp at h
    · rename_i lh hlh
      cases hk : keepOk s (50000000 + firstR body * 1000) lh.σ with
      | false => rw [hk] at h; simp at h
      | true =>
        rw [hk] at h
        simp only [_root_.cond] at h
        obtain ⟨y0, _, h⟩ := Option.bind_eq_some_iff.1 h
        obtain ⟨x0, h2, h⟩ := Option.bind_eq_some_iff.1 h
        exact loop_ok hb hk hl hq h (restore_ok hk hl (Keep.refl _) (s' := lock s lh.σ) hs h2)
  | exit id => intro C R s k r a w Q h hs _ hq; exact wp_exit (hq _ _ _ s hs (Keep.refl s) (by simpa [aexec] using h))
  | ret => intro C R s k r a w Q h hs _ hq; exact wp_ret (hq _ _ _ s hs (Keep.refl s) (by simpa [aexec] using h))
  | _ => intro C R s k r a w Q h; simp [aexec] at h
end
end Go.Sx
namespace Go.Sx
section
variable (T : Own → Own → Prop) (fl : Nat → Nat) (own : Nat → Option Own) (w : World)
def RowX (v : Value) (t : Own) (pub : Bool) (e : Ty) (l : List e.den) : Prop :=
  (v = .slice none 0 0 ∧ l = []) ∨ ∃ o, T o t ∧ RowV fl own w v o pub e l
def DeepX (v : Value) (t : Own) (e : Ty) (l : List e.den) : Prop :=
  (v = .slice none 0 0 ∧ l = []) ∨ ∃ o, T o t ∧ DeepV fl own w v o e l l.length none
def Fld1 (t : Own) (pb : Bool) : Bool → (a : Ty) → List Value → a.den → Prop
  | true, .slice e, c, x => ∃ v, c = [v] ∧ RowX T fl own w v t pb e x
  | true, _, _, _ => False
  | false, a, c, x => CRep (view fl w) a c x
def FldsX (rid : Nat) : List Bool → (t : Ty) → List Value → t.den → Nat → Prop
  | os, .pair a b, cs, x, i => ∃ c1 c2, cs = c1 ++ c2 ∧ Fld1 T fl own w (.row (rid + i)) (pbO os (cntT b + 1)) (hdB os) a c1 x.1 ∧ FldsX rid (tlB os) b c2 x.2 (i + 1)
  | _, .unit, cs, _, _ => cs = []
  | _, _, _, _, _ => False
def ObjX (t : Own) (rid : Nat) (os : List Bool) (ty : Ty) (v : Value) (x : (lay ty).den) : Prop :=
  ∃ b cs o, T o t ∧ v = .pointer (some ⟨b, 0, none⟩) ∧ Blk w b cs ∧ own b = some o ∧ fl b = 0 ∧ FldsX T fl own w rid os (lay ty) cs x 0
/-- a variable that holds a pointer -/
def BoxX (t : Own) (v p : Value) : Prop := ∃ b o, T o t ∧ v = .pointer (some ⟨b, 0, none⟩) ∧ Blk w b [p] ∧ own b = some o ∧ fl b = 0
def ArgsX : Nat → (ps : List PS) → List Value → (argTy ps).den → Prop
  | _, [], vs, _ => vs = []
  | i, .pure t :: r, v :: vs, x => VRep (view fl w) t v x.1 ∧ ArgsX (i + 1) r vs x.2
  | i, .lent t :: r, v :: vs, x => VRep (lvU fl (fun b => ∃ o t', own b = some o ∧ T o t') w) t v x.1 ∧ ArgsX (i + 1) r vs x.2
  | i, .obj t os :: r, v :: vs, x => ObjX T fl own w (.site i) (i * 20) os t v x.1 ∧ ArgsX (i + 1) r vs x.2
  | i, .nilp :: r, v :: vs, x => v = .pointer none ∧ ArgsX (i + 1) r vs x
  | i, .fnc f n :: r, v :: vs, x => (v = .func (.func f) #[] (vs.take n).toArray ∧ n ≤ vs.length) ∧ ArgsX (i + 1) r vs x
  | i, .box :: r, v :: vs, x => (∃ p rest, vs = p :: rest ∧ BoxX T fl own w (.site i) v p) ∧ ArgsX (i + 1) r vs x
  | i, .row e :: r, v :: vs, x => RowX T fl own w v (.row (i * 20)) false e x.1 ∧ ArgsX (i + 1) r vs x.2
  | _, _, _, _ => False
def Res1 (base : Nat) : (r : RS) → Value → r.ty.den → Prop
  | .pure t, v, x => VRep (view fl w) t v x
  | .own pub e, v, l => RowX T fl own w v (.row base) pub e l
  | .newobj t os, v, x => ObjX T fl own w (.site base) (base + 1) os t v x
  | .deep e, v, l => DeepX T fl own w v (.row base) e l
  | .agg t os, v, x => ∃ cs, v = .agg cs.toArray ∧ FldsX T fl own w base os t cs x 0
  | .maybe t os, v, x => (x.1 = false ∧ v = .pointer none) ∨ (x.1 = true ∧ ObjX T fl own w (.site base) (base + 1) os t v x.2)
def RessX : Nat → (rs : List RS) → (ps : List PS) → List Value → (resTy rs ps).den → ((objsTy ps).den → Prop) → Prop
  | _, [], _, vs, x, k => vs = [] ∧ k x
  | i, r :: rs, ps, v :: vs, x, k => Res1 T fl own w (1 + 20 * i) r v x.1 ∧ RessX (i + 1) rs ps vs x.2 k
  | _, _, _, _, _, _ => False
def ObjsX : Nat → (ps : List PS) → List Value → (objsTy ps).den → Prop
  | _, [], _, _ => True
  | j, .obj t os :: r, v :: vs, x => ObjX T fl own w (.site (81 + 20 * j)) (80 + 20 * j) os t v x.1 ∧ ObjsX (j + 1) r vs x.2
  | j, .pure _ :: r, _ :: vs, x => ObjsX j r vs x
  | j, .lent _ :: r, _ :: vs, x => ObjsX j r vs x
  | j, .nilp :: r, _ :: vs, x => ObjsX j r vs x
  | j, .fnc _ _ :: r, _ :: vs, x => ObjsX j r vs x
  | j, .box :: r, v :: vs, x => (∃ p rest, vs = p :: rest ∧ BoxX T fl own w (.site (81 + 20 * j)) v p) ∧ ObjsX (j + 1) r vs x
  | j, .row e :: r, v :: vs, x => RowX T fl own w v (.site (81 + 20 * j)) false e x.1 ∧ ObjsX (j + 1) r vs x.2
  | _, _, _, _ => False
end
section
variable {T T' : Own → Own → Prop} {fl fl' : Nat → Nat} {own own' : Nat → Option Own} {w : World}
/-- labels changed, more told -/
structure Relab (T T' : Own → Own → Prop) (fl fl' : Nat → Nat) (own own' : Nat → Option Own) (w : World) : Prop where
  le : (view fl w).le (view fl' w)
  lab : ∀ o t, T o t → ∃ o', T' o' t ∧ ∀ b, own b = some o → own' b = some o' ∧ fl' b = fl b
theorem Relab.same (h : ∀ o t, T o t → ∃ o', T' o' t ∧ ∀ b, own b = some o → own' b = some o') : Relab T T' fl fl own own' w :=
  ⟨IV.le.refl _, fun o t ht => let ⟨o', h1, h2⟩ := h o t ht; ⟨o', h1, fun b hb => ⟨h2 b hb, rfl⟩⟩⟩
theorem RowV.relabel' {v : Value} {o o' : Own} {pub : Bool} {e : Ty} {l : List e.den} (h : RowV fl own w v o pub e l) (hle : (view fl w).le (view fl' w)) (ho : ∀ b, own b = some o → own' b = some o' ∧ fl' b = fl b) : RowV fl' own' w v o' pub e l := by
  rcases h with h | ⟨b, cap, cs, h1, h2, h3, h4, h5, h6, h7⟩
  · exact .inl h
  · exact .inr ⟨b, cap, cs, h1, h2, h3, h4, (ho b h5).1, (ho b h5).2.trans h6, h7.mono hle⟩
theorem RowX.relab (h : Relab T T' fl fl' own own' w) {v : Value} {t : Own} {pub : Bool} {e : Ty} {l : List e.den} (hr : RowX T fl own w v t pub e l) : RowX T' fl' own' w v t pub e l := by
  rcases hr with hr | ⟨o, h1, h2⟩
  · exact .inl hr
  · obtain ⟨o', h3, h4⟩ := h.lab o t h1
    exact .inr ⟨o', h3, h2.relabel' h.le h4⟩
theorem DeepX.relab (h : Relab T T' fl fl' own own' w) {v : Value} {t : Own} {e : Ty} {l : List e.den} (hr : DeepX T fl own w v t e l) : DeepX T' fl' own' w v t e l := by
  rcases hr with hr | ⟨o, h1, h2⟩
  · exact .inl hr
  · obtain ⟨o', h3, h4⟩ := h.lab o t h1
    exact .inr ⟨o', h3, h2.frame h.le fun b hb => ⟨fun _ h => h, (h4 b hb).1, (h4 b hb).2⟩⟩
theorem Fld1.relab (h : Relab T T' fl fl' own own' w) {t : Own} {pb o : Bool} {a : Ty} {c : List Value} {x : a.den} (hr : Fld1 T fl own w t pb o a c x) : Fld1 T' fl' own' w t pb o a c x := by
  cases o with
  | false => cases a <;> exact CRep.mono h.le hr
  | true =>
    cases a <;> first | exact hr.elim | skip
    obtain ⟨v, h1, h2⟩ := hr
    exact ⟨v, h1, h2.relab h⟩
theorem FldsX.relab (h : Relab T T' fl fl' own own' w) {rid : Nat} : ∀ {t : Ty} {os : List Bool} {cs : List Value} {x : t.den} {i : Nat}, FldsX T fl own w rid os t cs x i → FldsX T' fl' own' w rid os t cs x i := by
  intro t
  induction t with
  | pair A B _ hB => rintro os cs x i ⟨c1, c2, h1, h2, h3⟩; exact ⟨c1, c2, h1, h2.relab h, hB h3⟩
  | unit => intro os cs x i h; exact h
  | _ => intro os cs x i h; exact h.elim
theorem ObjX.relab (h : Relab T T' fl fl' own own' w) {t : Own} {rid : Nat} {os : List Bool} {ty : Ty} {v : Value} {x : (lay ty).den} (hr : ObjX T fl own w t rid os ty v x) : ObjX T' fl' own' w t rid os ty v x := by
  obtain ⟨b, cs, o, h1, h2, h3, h4, h5, h7⟩ := hr
  obtain ⟨o', h8, h9⟩ := h.lab o t h1
  exact ⟨b, cs, o', h8, h2, h3, (h9 b h4).1, (h9 b h4).2.trans h5, h7.relab h⟩
theorem BoxX.relab (h : Relab T T' fl fl' own own' w) {t : Own} {v p : Value} (hr : BoxX T fl own w t v p) : BoxX T' fl' own' w t v p := by
  obtain ⟨b, o, h1, h2, h3, h4, h5⟩ := hr
  obtain ⟨o', h8, h9⟩ := h.lab o t h1
  exact ⟨b, o', h8, h2, h3, (h9 b h4).1, (h9 b h4).2.trans h5⟩
theorem lvU_view {M : Nat → Prop} : (view fl w).le (lvU fl M w) := fun b o v h => by
  unfold lvU
  split
  · exact h
  · exact (view_some.1 h).2
theorem lvU_mono {M M' : Nat → Prop} (hle : (view fl w).le (view fl' w)) (hM : ∀ b, M' b → M b) : (lvU fl M w).le (lvU fl' M' w) := fun b o v h => by
  unfold lvU at h ⊢
  by_cases h' : M' b
  · rw [if_pos (hM b h')] at h
    rw [if_pos h']
    exact hle _ _ _ h
  · rw [if_neg h']
    split at h
    · exact (view_some.1 h).2
    · exact h
theorem ArgsX.relab (h : Relab T T' fl fl' own own' w) (hM : ∀ b o' t', own' b = some o' → T' o' t' → ∃ o t, own b = some o ∧ T o t) : ∀ {ps : List PS} {i : Nat} {vs : List Value} {x : (argTy ps).den}, ArgsX T fl own w i ps vs x → ArgsX T' fl' own' w i ps vs x
  | [], _, _, _, hr => hr
  | .lent _ :: _, _, _ :: _, _, ⟨h1, h2⟩ => ⟨h1.mono (lvU_mono h.le fun b ⟨o, t, h1, h2⟩ => hM b o t h1 h2), ArgsX.relab h hM h2⟩
  | .lent _ :: _, _, [], _, hr => hr.elim
  | .pure _ :: _, _, _ :: _, _, ⟨h1, h2⟩ => ⟨h1.mono h.le, ArgsX.relab h hM h2⟩
  | .obj _ _ :: _, _, _ :: _, _, ⟨h1, h2⟩ => ⟨h1.relab h, ArgsX.relab h hM h2⟩
  | .nilp :: _, _, _ :: _, _, ⟨h1, h2⟩ => ⟨h1, ArgsX.relab h hM h2⟩
  | .fnc _ _ :: _, _, _ :: _, _, ⟨h1, h2⟩ => ⟨h1, ArgsX.relab h hM h2⟩
  | .box :: _, _, _ :: _, _, ⟨⟨p, rest, h1, h1'⟩, h2⟩ => ⟨⟨p, rest, h1, h1'.relab h⟩, ArgsX.relab h hM h2⟩
  | .row _ :: _, _, _ :: _, _, ⟨h1, h2⟩ => ⟨h1.relab h, ArgsX.relab h hM h2⟩
  | .row _ :: _, _, [], _, hr => hr.elim
  | .box :: _, _, [], _, hr => hr.elim
  | .fnc _ _ :: _, _, [], _, hr => hr.elim
  | .pure _ :: _, _, [], _, hr => hr.elim
  | .obj _ _ :: _, _, [], _, hr => hr.elim
  | .nilp :: _, _, [], _, hr => hr.elim
theorem Res1.relab (h : Relab T T' fl fl' own own' w) {base : Nat} {r : RS} {v : Value} {x : r.ty.den} (hr : Res1 T fl own w base r v x) : Res1 T' fl' own' w base r v x := by
  cases r with
  | pure t => exact VRep.mono h.le hr
  | own pub e => exact RowX.relab h hr
  | newobj t os => exact ObjX.relab h hr
  | maybe t os => exact hr.imp id fun hr => ⟨hr.1, ObjX.relab h hr.2⟩
  | deep e => exact DeepX.relab h hr
  | agg t os => obtain ⟨cs, h1, h2⟩ := hr; exact ⟨cs, h1, h2.relab h⟩
theorem RessX.relab (h : Relab T T' fl fl' own own' w) {ps : List PS} {k k' : (objsTy ps).den → Prop} (hk : ∀ x, k x → k' x) : ∀ {rs : List RS} {i : Nat} {vs : List Value} {x : (resTy rs ps).den}, RessX T fl own w i rs ps vs x k → RessX T' fl' own' w i rs ps vs x k'
  | [], _, _, _, ⟨h1, h2⟩ => ⟨h1, hk _ h2⟩
  | _ :: _, _, _ :: _, _, ⟨h1, h2⟩ => ⟨h1.relab h, RessX.relab h hk h2⟩
  | _ :: _, _, [], _, hr => hr.elim
theorem ObjsX.relab (h : Relab T T' fl fl' own own' w) : ∀ {ps : List PS} {j : Nat} {vs : List Value} {x : (objsTy ps).den}, ObjsX T fl own w j ps vs x → ObjsX T' fl' own' w j ps vs x
  | [], _, _, _, _ => trivial
  | .pure _ :: r, _, _ :: _, _, hr => ObjsX.relab (ps := r) h hr
  | .lent _ :: r, _, _ :: _, _, hr => ObjsX.relab (ps := r) h hr
  | .lent _ :: _, _, [], _, hr => hr.elim
  | .nilp :: r, _, _ :: _, _, hr => ObjsX.relab (ps := r) h hr
  | .fnc _ _ :: r, _, _ :: _, _, hr => ObjsX.relab (ps := r) h hr
  | .box :: r, _, _ :: _, _, ⟨⟨p, rest, h1, h1'⟩, h2⟩ => ⟨⟨p, rest, h1, h1'.relab h⟩, ObjsX.relab (ps := r) h h2⟩
  | .row _ :: r, _, _ :: _, _, ⟨h1, h2⟩ => ⟨h1.relab h, ObjsX.relab (ps := r) h h2⟩
  | .row _ :: _, _, [], _, hr => hr.elim
  | .box :: _, _, [], _, hr => hr.elim
  | .fnc _ _ :: _, _, [], _, hr => hr.elim
  | .obj _ _ :: _, _, _ :: _, _, ⟨h1, h2⟩ => ⟨h1.relab h, ObjsX.relab h h2⟩
  | .pure _ :: _, _, [], _, hr => hr.elim
  | .obj _ _ :: _, _, [], _, hr => hr.elim
  | .nilp :: _, _, [], _, hr => hr.elim
theorem RowX.mono (h : ∀ o t, T o t → T' o t) {v : Value} {t : Own} {pub : Bool} {e : Ty} {l : List e.den} (hr : RowX T fl own w v t pub e l) : RowX T' fl own w v t pub e l :=
  hr.relab (Relab.same fun o t ht => ⟨o, h o t ht, fun _ hb => hb⟩)

/-- the values that a call hands over: captured ones lie in their function -/
def capN : PS → Nat
  | .fnc _ n => n
  | .box => 1
  | _ => 0
def unf : Nat → List PS → List Value → List Value
  | _, [], _ => []
  | _, _ :: _, [] => []
  | 0, p :: r, v :: vs => v :: unf (capN p) r vs
  | c + 1, _ :: r, _ :: vs => unf c r vs
def retV : List Value → Value
  | [v] => v
  | vs => .tuple vs.toArray
/-- a contract -/
structure FOk (P : Program) (f : FuncId) (sg : Sig) : Prop where
  few : sg.rs.length ≤ 4
  code : ∃ fn, P.funcs[f]? = some fn ∧ fn.body.isNone = false ∧ (fn.name == "runtime.NumGoroutine") = false
  call : ∀ {w : World} {fl : Nat → Nat} {own : Nat → Option Own} {vs : List Value} {x : (argTy sg.ps).den} {y : (resTy sg.rs sg.ps).den}, (∀ b, own b ≠ none → b < w.heap.size) → ArgsX Eq fl own w 0 sg.ps vs x → sg.F x = some y →
    Calls P f (unf 0 sg.ps vs).toArray w fun e w' => ∃ rs fl' own', e = .returned (retV rs) ∧ Ext w (fun b => own b ≠ none) w' ∧ (∀ b, b < w.heap.size → own b = none → fl' b = fl b) ∧ (view fl w).le (view fl' w') ∧
      (∀ b, own' b ≠ none → b < w'.heap.size ∧ (w.heap.size ≤ b ∨ own b ≠ none)) ∧ RessX Eq fl' own' w' 0 sg.rs sg.ps rs y fun z => ObjsX Eq fl' own' w' 0 sg.ps vs z
end

section
variable {C : Ctx} {g : Gh} {S : Nat → SV} {H : HLoc → SV} {a : Act} {w : World}
theorem hdB_get {os : List Bool} : hdB os = true ↔ os[0]? = some true := by cases os <;> simp [hdB]
theorem tlB_get {os : List Bool} (k : Nat) : (tlB os)[k]? = os[k + 1]? := by cases os <;> simp [tlB]
theorem ownDs_ok {mk : Nat → HLoc} {rid : Nat} : ∀ {os : List Bool} {i : Nat} {fp fp' d : List HLoc}, (ownDs mk os i).run H fp = some (d, fp') →
    ∃ m : List (Own × Own), d = m.map (fun p => locO p.1) ∧ ∀ k, os[k]? = some true → (∃ r, H (mk (i + k)) = .hdr r ∧ (Own.row r, Own.row (rid + (i + k))) ∈ m) ∨ H (mk (i + k)) = .nils
  | [], i, fp, fp', d, h => by
    obtain ⟨e, _⟩ := ret_some h
    subst e
    exact ⟨[], rfl, fun k hk => by simp at hk⟩
  | o :: os, i, fp, fp', d, h => by
    simp only [ownDs] at h
    have shift : ∀ {d' : List HLoc} {fp1 fp2 : List HLoc}, (ownDs mk os (i + 1)).run H fp1 = some (d', fp2) → ∃ m : List (Own × Own), d' = m.map (fun p => locO p.1) ∧ ∀ k, os[k]? = some true →
        (∃ r, H (mk (i + (k + 1))) = .hdr r ∧ (Own.row r, Own.row (rid + (i + (k + 1)))) ∈ m) ∨ H (mk (i + (k + 1))) = .nils := by
      intro d' fp1 fp2 h
      obtain ⟨m, h1, h2⟩ := ownDs_ok h
      refine ⟨m, h1, fun k hk => ?_⟩
      have := h2 k hk
      rwa [show i + 1 + k = i + (k + 1) from by omega] at this
    cases o with
    | false =>
      obtain ⟨m, h1, h2⟩ := shift h
      refine ⟨m, h1, fun k hk => ?_⟩
      cases k with
      | zero => simp at hk
      | succ k => exact h2 k (by simpa using hk)
    | true =>
      simp only [cond, Rd.run] at h
      split at h
      · rename_i r hr
        obtain ⟨d', fp1, k1, h⟩ := bind_some h
        obtain ⟨e, _⟩ := ret_some h
        subst e
        obtain ⟨m, h1, h2⟩ := shift k1
        refine ⟨(.row r, .row (rid + i)) :: m, by simp [h1, locO], fun k hk => ?_⟩
        cases k with
        | zero => exact .inl ⟨r, by simpa using hr, by simp⟩
        | succ k =>
          rcases h2 k (by simpa using hk) with ⟨r', q1, q2⟩ | q
          · exact .inl ⟨r', q1, by simp [q2]⟩
          · exact .inr q
      · rename_i hr
        obtain ⟨m, h1, h2⟩ := shift h
        refine ⟨m, h1, fun k hk => ?_⟩
        cases k with
        | zero => exact .inr (by simpa using hr)
        | succ k => exact h2 k (by simpa using hk)
      · exact (fail_some h).elim
theorem ownDs_live (hs : SimG C g S H a w) {n : Nat} : ∀ {os : List Bool} {i : Nat} {fp fp' d : List HLoc}, (ownDs (.fld n) os i).run H fp = some (d, fp') → ∀ l ∈ d, H l ≠ .bot
  | [], i, fp, fp', d, h => by
    obtain ⟨e, _⟩ := ret_some h
    subst e
    simp
  | o :: os, i, fp, fp', d, h => by
    simp only [ownDs] at h
    cases o with
    | false => exact ownDs_live hs (show (ownDs (.fld n) os (i + 1)).run H fp = _ from h)
    | true =>
      simp only [cond, Rd.run] at h
      split at h
      · rename_i r hr
        obtain ⟨d', fp1, k1, h⟩ := bind_some h
        obtain ⟨e, _⟩ := ret_some h
        subst e
        intro l hl
        rcases List.mem_cons.1 hl with rfl | hl
        · have := hs.refF n i
          rw [hr] at this
          exact this
        · exact ownDs_live hs k1 l hl
      · exact ownDs_live hs h
      · exact (fail_some h).elim
theorem pbO_tl {os : List Bool} {n : Nat} : pbO (tlB os) n = pbO os (n + 1) := by cases os <;> rfl
theorem tk_succ {os : List Bool} {n k : Nat} : (os.take (n + 1))[k + 1]? = ((tlB os).take n)[k]? := by
  cases os with
  | nil => simp [tlB]
  | cons b r => simp [tlB]
theorem tk_zero {os : List Bool} {n : Nat} {b : Bool} : (os.take (n + 1))[0]? = some b ↔ os[0]? = some b := by
  cases os <;> simp
theorem tk_get {os : List Bool} {n k : Nat} {b : Bool} (h : (os.take n)[k]? = some b) : os[k]? = some b := by
  rw [List.getElem?_take] at h
  split at h
  · exact h
  · exact absurd h (by simp)
/-- an object's fields, for others -/
theorem gatherX_ok {T : Own → Own → Prop} {mk : Nat → HLoc} {rid : Nat} : ∀ {t : Ty} {os : List Bool} {i : Nat} {fp fp' : List HLoc} {x : t.den} {pubs : HW},
    (gatherO mk os t i).run H fp = some ((x, pubs), fp') → (∀ k, (os.take (cntT t))[k]? = some true → (∃ r, H (mk (i + k)) = .hdr r ∧ T (.row r) (.row (rid + (i + k)))) ∨ H (mk (i + k)) = .nils) →
    Pubs H pubs ∧ ∀ {hw : HW} {fl : Nat → Nat} {own : Nat → Option Own} {cs : List Value}, (∀ y ∈ pubs, y ∈ hw) → Pubs H hw → (pbO os (cntT t) = false → ∀ k r, (os.take (cntT t))[k]? = some true → H (mk (i + k)) = .hdr r → HLoc.row r ∉ fsts hw) → SimG C { g with fl := fl, own := own } S (puts H hw) a w → FieldsOk (fun j => H (mk j)) { g with fl := fl, own := own } (view fl w) t cs i →
      FldsX T fl own w rid os t cs x i := by
  intro t
  induction t with
  | unit =>
    intro os i fp fp' x pubs h1 _
    cases os <;> (obtain ⟨e, _⟩ := ret_some h1; cases e; exact ⟨trivial, fun _ _ _ _ hc => hc⟩)
  | pair A B _ hB =>
    intro os i fp fp' x pubs h1 h2
    simp only [gatherO, Rd.run] at h1
    obtain ⟨⟨p, hw1⟩, fp1, k1, h1⟩ := bind_some h1
    obtain ⟨⟨q, hw2⟩, fp2, k2, h1⟩ := bind_some h1
    obtain ⟨e, _⟩ := ret_some h1
    cases e
    obtain ⟨q1, q2⟩ := hB (os := tlB os) k2 fun k hk => by
      have := h2 (k + 1) (show (os.take (cntT B + 1))[k + 1]? = some true by rw [tk_succ]; exact hk)
      rwa [show i + 1 + k = i + (k + 1) from by omega]
    have rest : ∀ {hw : HW}, (pbO os (cntT B + 1) = false → ∀ k r, (os.take (cntT B + 1))[k]? = some true → H (mk (i + k)) = .hdr r → HLoc.row r ∉ fsts hw) → (pbO (tlB os) (cntT B) = false → ∀ k r, ((tlB os).take (cntT B))[k]? = some true → H (mk (i + 1 + k)) = .hdr r → HLoc.row r ∉ fsts hw) := fun hk hp k r h3 h4 =>
      hk (by rw [← pbO_tl]; exact hp) (k + 1) r (by rw [tk_succ]; exact h3) (by rwa [show i + (k + 1) = i + 1 + k from by omega])
    -- a field that is told
    have told : (toPV0 A (H (mk i))).run H (mk i :: fp) = some ((p, hw1), fp1) → (hdB os = true → pbO os (cntT B + 1) = true) → Pubs H (hw1 ++ hw2) ∧ ∀ {hw : HW} {fl : Nat → Nat} {own : Nat → Option Own} {cs : List Value}, (∀ y ∈ hw1 ++ hw2, y ∈ hw) → Pubs H hw → (pbO os (cntT (.pair A B)) = false → ∀ k r, (os.take (cntT (.pair A B)))[k]? = some true → H (mk (i + k)) = .hdr r → HLoc.row r ∉ fsts hw) → SimG C { g with fl := fl, own := own } S (puts H hw) a w → FieldsOk (fun j => H (mk j)) { g with fl := fl, own := own } (view fl w) (.pair A B) cs i →
      FldsX T fl own w rid os (.pair A B) cs (p, q) i := by
      intro k1 hpb
      obtain ⟨p1, p2⟩ := toPV0_ok k1
      refine ⟨Pubs.append.2 ⟨p1, q1⟩, fun {hw fl own cs} hsub hp hkp hs hc => ?_⟩
      obtain ⟨c1, c2, rfl, hl, ho, hsr, hr⟩ := hc
      refine ⟨c1, c2, rfl, ?_, q2 (fun y hy => hsub y (List.mem_append_right _ hy)) hp (rest hkp) hs hr⟩
      have hsr : SR { g with fl := fl, own := own } (view fl w) (H (mk i)) (mkV A c1) := hsr
      have hV := p2 _ _ _ ((hs.rowsRd hp).sub fun y hy => hsub y (List.mem_append_left _ hy)) hsr
      have hC := hV.cells
      rw [cells_mkV hl ho] at hC
      cases hb : hdB os with
      | false =>
        have hC : CRep (view fl w) A c1 p := by simpa using hC
        cases A <;> exact hC
      | true =>
        rw [hpb hb]
        have h0 := h2 0 (tk_zero.2 (hdB_get.1 hb))
        rw [Nat.add_zero] at h0
        rcases h0 with ⟨r, hr', hT⟩ | hn
        · rw [hr'] at k1 hsr
          simp only [toPV0, Rd.run] at k1
          split at k1
          · rename_i pb e l hrow
            obtain ⟨y, fp3, k3, k4⟩ := bind_some k1
            obtain ⟨k3, _⟩ := ofO_run k3
            obtain ⟨e1, _⟩ := ret_some k4
            cases e1
            obtain ⟨he, rfl⟩ := castTo_eq k3
            subst he
            have hrow' : puts H hw (.row r) = .row true e l := puts_pub hp (by
              cases pb with
              | true => exact .inl hrow
              | false => exact .inr (hsub _ (by simp)))
            have hrow2 := hs.rows r true e l hrow'
            have hval : mkV (.slice e) c1 = g.hd r := hsr
            have hc1 := mkV_oneC (t := .slice e) rfl hl
            refine ⟨mkV (.slice e) c1, hc1, .inr ⟨.row r, hT, ?_⟩⟩
            rw [hval]; exact hrow2
          · rename_i e l nd hh hrow
            cases hh with
            | some _ => exact (fail_some k1).elim
            | none =>
            obtain ⟨y, fp3, k3, k4⟩ := bind_some k1
            obtain ⟨k3, _⟩ := ofO_run k3
            obtain ⟨e1, _⟩ := ret_some k4
            cases e1
            obtain ⟨he, rfl⟩ := castTo_eq k3
            subst he
            have hrow' : puts H hw (.row r) = .row true e l := puts_pub hp (.inr (hsub _ (by simp)))
            have hrow2 := hs.rows r true e l hrow'
            have hval : mkV (.slice e) c1 = g.hd r := hsr
            have hc1 := mkV_oneC (t := .slice e) rfl hl
            refine ⟨mkV (.slice e) c1, hc1, .inr ⟨.row r, hT, ?_⟩⟩
            rw [hval]; exact hrow2
          · exact (fail_some k1).elim
        · rw [hn] at k1 hsr
          cases A <;> simp only [toPV0] at k1 <;> first | exact (fail_some k1).elim | skip
          obtain ⟨e1, _⟩ := ret_some k1
          cases e1
          exact ⟨mkV (.slice _) c1, mkV_oneC (t := .slice _) rfl hl, .inl ⟨hsr, rfl⟩⟩
    cases hb : hdB os with
    | false =>
      rw [hb] at k1
      exact told k1 fun h => by rw [hb] at h; exact Bool.noConfusion h
    | true =>
      rw [hb] at k1
      cases hpb : pbO os (cntT B + 1) with
      | true =>
        rw [hpb] at k1
        exact told k1 fun _ => hpb
      | false =>
        rw [hpb] at k1
        have k1 : (privV A (H (mk i))).run H (mk i :: fp) = some ((p, hw1), fp1) := k1
        have h0 := h2 0 (tk_zero.2 (hdB_get.1 hb))
        rw [Nat.add_zero] at h0
        rcases h0 with ⟨r, hr', hT⟩ | hn
        · rw [hr'] at k1
          simp only [privV, Rd.run] at k1
          split at k1
          · rename_i pb e l hrow
            cases pb with
            | true => exact (fail_some k1).elim
            | false =>
              obtain ⟨y, fp3, k3, k4⟩ := bind_some k1
              obtain ⟨k3, _⟩ := ofO_run k3
              obtain ⟨e1, _⟩ := ret_some k4
              cases e1
              obtain ⟨he, rfl⟩ := castTo_eq k3
              subst he
              refine ⟨q1, fun {hw fl own cs} hsub hp hkp hs hc => ?_⟩
              obtain ⟨c1, c2, rfl, hl, ho, hsr, hr⟩ := hc
              refine ⟨c1, c2, rfl, ?_, q2 (fun y hy => hsub y hy) hp (rest hkp) hs hr⟩
              have hsr : SR { g with fl := fl, own := own } (view fl w) (H (mk i)) (mkV (.slice e) c1) := hsr
              rw [hr'] at hsr
              rw [hpb, hb]
              have hnot : HLoc.row r ∉ fsts hw := hkp hpb 0 r (tk_zero.2 (hdB_get.1 hb)) (by rw [Nat.add_zero]; exact hr')
              have hrow' : puts H hw (.row r) = .row false e l := by rw [puts_ne hnot, hrow]
              have hrow2 := hs.rows r false e l hrow'
              have hval : mkV (.slice e) c1 = g.hd r := hsr
              have hc1 := mkV_oneC (t := .slice e) rfl hl
              refine ⟨mkV (.slice e) c1, hc1, .inr ⟨.row r, hT, ?_⟩⟩
              rw [hval]; exact hrow2
          · exact (fail_some k1).elim
        · rw [hn] at k1
          cases A <;> simp only [privV] at k1 <;> first | exact (fail_some k1).elim | skip
          obtain ⟨e1, _⟩ := ret_some k1
          cases e1
          refine ⟨q1, fun {hw fl own cs} hsub hp hkp hs hc => ?_⟩
          obtain ⟨c1, c2, rfl, hl, ho, hsr, hr⟩ := hc
          refine ⟨c1, c2, rfl, ?_, q2 (fun y hy => hsub y hy) hp (rest hkp) hs hr⟩
          rw [hb]
          have hsr : SR { g with fl := fl, own := own } (view fl w) (H (mk i)) (mkV (.slice _) c1) := hsr
          rw [hn] at hsr
          exact ⟨mkV (.slice _) c1, mkV_oneC (t := .slice _) rfl hl, .inl ⟨hsr, rfl⟩⟩
  | _ => intro os i fp fp' x pubs h1; cases os <;> exact (fail_some h1).elim

theorem collA_nil : collA [] [] = .ret ((), [], []) := rfl
theorem collA_nil' {v : SV} {vs : List SV} : collA [] (v :: vs) = .fail := rfl
theorem collA_pure {t : Ty} {r : List PS} {v : SV} {vs : List SV} : collA (.pure t :: r) (v :: vs) = (toPV t v).bind fun p => (collA r vs).bind fun q => .ret ((p.1, q.1), p.2 ++ q.2.1, q.2.2) := rfl
theorem collA_cons {p : PS} {r : List PS} : collA (p :: r) [] = .fail := by cases p <;> rfl
theorem collA_obj {t : Ty} {own : List Bool} {r : List PS} {v : SV} {vs : List SV} : collA (.obj t own :: r) (v :: vs) = match v with
      | .adr s off => cond (Nat.beq off 0) (.get (.site s) fun w => match w with
        | .obj t' => cond (t'.beq t) ((gatherO (.fld s) own (lay t) 0).bind fun p => (ownDs (.fld s) (own.take (cntT (lay t))) 0).bind fun d => (collA r vs).bind fun q => .ret ((p.1, q.1), p.2 ++ q.2.1, HLoc.site s :: d ++ q.2.2)) .fail
        | _ => .fail) .fail
      | _ => .fail := rfl
theorem collA_nilp {r : List PS} {v : SV} {vs : List SV} : collA (.nilp :: r) (v :: vs) = match v with
      | .nilp => collA r vs
      | _ => .fail := rfl
theorem collA_fnc {f : FuncId} {n : Nat} {r : List PS} {v : SV} {vs : List SV} : collA (.fnc f n :: r) (v :: vs) = match v with
      | .fn g _ m => cond (cond (Nat.beq f g) (Nat.beq n m) false) (collA r vs) .fail
      | _ => .fail := rfl
theorem collA_box {r : List PS} {v : SV} {vs : List SV} : collA (.box :: r) (v :: vs) = match v with
      | .adr s off => cond (Nat.beq off 0) (.get (.site s) fun w => match w with
        | .obj t' => cond (t'.beq ptrTy) (.get (.fld s 0) fun p => match p, vs with
          | .adr b o, .adr b' o' :: _ => cond (cond (Nat.beq b b') (Nat.beq o o') false) ((collA r vs).bind fun q => .ret (q.1, q.2.1, HLoc.site s :: q.2.2)) .fail
          | _, _ => .fail) .fail
        | _ => .fail) .fail
      | _ => .fail := rfl
theorem collA_row {e : Ty} {r : List PS} {v : SV} {vs : List SV} : collA (.row e :: r) (v :: vs) = match v with
      | .hdr q => .get (.row q) fun w => match w with
        | .row pub e' l => cond pub .fail ((Rd.ofO (castTo (.slice e') (.slice e) l)).bind fun y => (collA r vs).bind fun z => .ret ((y, z.1), z.2.1, HLoc.row q :: z.2.2))
        | _ => .fail
      | _ => .fail := rfl
theorem collA_row_run {H : HLoc → SV} {e : Ty} {r : List PS} {s : SV} {svs : List SV} {x : (argTy (.row e :: r)).den} {pubs : HW} {drops : List HLoc} {fp fp' : List HLoc} (h : (collA (.row e :: r) (s :: svs)).run H fp = some ((x, pubs, drops), fp')) :
    ∃ q l fp1 fp2 z d2, s = .hdr q ∧ H (.row q) = .row false e l ∧ (collA r svs).run H fp1 = some ((z, pubs, d2), fp2) ∧ x = (l, z) ∧ drops = HLoc.row q :: d2 := by
  rw [collA_row] at h
  cases s <;> first | exact (fail_some h).elim | skip
  rename_i q
  simp only [Rd.run] at h
  split at h
  · rename_i pub e' l hrow
    cases pub with
    | true => exact (fail_some h).elim
    | false =>
      obtain ⟨y, fp1, k1, h⟩ := bind_some (show ((Rd.ofO (castTo (.slice e') (.slice e) l)).bind _).run H _ = _ from h)
      obtain ⟨⟨z, hw2, d2⟩, fp2, k2, h⟩ := bind_some h
      obtain ⟨e1, _⟩ := ret_some h
      obtain ⟨k1, _⟩ := ofO_run k1
      obtain ⟨he, hy⟩ := castTo_eq k1
      cases he
      cases hy
      cases e1
      exact ⟨q, _, _, _, z, d2, rfl, hrow, k2, rfl, rfl⟩
  · exact (fail_some h).elim
theorem lay_agg {t : Ty} (h : t.agg = true) : lay t = t := by cases t <;> simp_all [Ty.agg, lay]
theorem lay_one {t : Ty} (h : t.agg = false) : lay t = .pair t .unit := by cases t <;> simp_all [Ty.agg, lay]
theorem objCells_lay {F : Nat → SV} {g : Gh} {iv : IV} {t : Ty} {cs : List Value} : ObjCells F g iv t cs ↔ FieldsOk F g iv (lay t) cs 0 := by
  unfold ObjCells
  cases h : t.agg with
  | true => rw [lay_agg h]; exact Iff.rfl
  | false =>
    rw [lay_one h]
    constructor
    · rintro ⟨c, rfl, h2, h3⟩
      exact ⟨[c], [], rfl, by rw [size_one h]; rfl, by simpa using h2, by simpa [mkV, h] using h3, rfl⟩
    · rintro ⟨c1, c2, rfl, h2, h3, h4, h5⟩
      rw [size_one h] at h2
      have h5 : c2 = [] := h5
      subst h5
      match c1, h2 with
      | [c], _ => exact ⟨c, rfl, h3 c (by simp), by simpa [mkV, h] using h4⟩
/-- captured values lie behind their functions -/
def CapOk : List SV → List Value → Prop
  | .fn f _ n :: svs, v :: vs => (v = .func (.func f) #[] (vs.take n).toArray ∧ n ≤ vs.length) ∧ CapOk svs vs
  | _ :: svs, _ :: vs => CapOk svs vs
  | _, _ => True
theorem CapOk.tail {s : SV} {svs : List SV} {v : Value} {vs : List Value} (h : CapOk (s :: svs) (v :: vs)) : CapOk svs vs := by
  cases s <;> first | exact h.2 | exact h
/-- the rows of an object's owned slices -/
def rowsL (H : HLoc → SV) (mk : Nat → HLoc) : List Bool → Nat → List HLoc
  | [], _ => []
  | o :: os, i => cond o (match H (mk i) with
    | .hdr r => .row r :: rowsL H mk os (i + 1)
    | _ => rowsL H mk os (i + 1)) (rowsL H mk os (i + 1))
def keepL (H : HLoc → SV) : List PS → List SV → List HLoc
  | .obj t own :: r, .adr s _ :: vs => cond (pbO own (cntT (lay t))) [] (rowsL H (.fld s) own 0) ++ keepL H r vs
  | .row _ :: r, .hdr q :: vs => HLoc.row q :: keepL H r vs
  | _ :: r, _ :: vs => keepL H r vs
  | _, _ => []
theorem rowsA_run {mk : Nat → HLoc} {os : List Bool} : ∀ {i : Nat} {fp fp' d : List HLoc}, (rowsA mk os i).run H fp = some (d, fp') → d = rowsL H mk os i := by
  induction os with
  | nil => intro i fp fp' d h; obtain ⟨e, _⟩ := ret_some h; subst e; rfl
  | cons o os ih =>
    intro i fp fp' d h
    cases o with
    | false => exact ih (show (rowsA mk os (i + 1)).run H fp = _ from h)
    | true =>
      simp only [rowsA, cond, Rd.run] at h
      obtain ⟨d', fp1, k1, h⟩ := bind_some h
      have ih := ih k1
      simp only [rowsL, cond]
      split at h
      · rename_i r hr
        obtain ⟨e, _⟩ := ret_some h
        subst e
        rw [hr]
        show _ = HLoc.row r :: rowsL H mk os (i + 1)
        rw [← ih]
      · rename_i hr
        obtain ⟨e, _⟩ := ret_some h
        split
        · rename_i r hr2; exact absurd hr2 (hr r)
        · subst e; exact ih
theorem rowsL_mem {mk : Nat → HLoc} : ∀ {os : List Bool} {i k r : Nat}, os[k]? = some true → H (mk (i + k)) = .hdr r → HLoc.row r ∈ rowsL H mk os i
  | [], _, _, _, h, _ => by simp at h
  | o :: os, i, 0, r, h, h2 => by
    simp only [List.getElem?_cons_zero, Option.some.injEq] at h
    subst h
    rw [Nat.add_zero] at h2
    simp only [rowsL, cond, h2]
    exact List.mem_cons_self ..
  | o :: os, i, k + 1, r, h, h2 => by
    have ih := rowsL_mem (mk := mk) (os := os) (i := i + 1) (k := k) (r := r) (by simpa using h) (by rwa [show i + 1 + k = i + (k + 1) from by omega])
    simp only [rowsL]
    cases o with
    | false => exact ih
    | true =>
      simp only [cond]
      split
      · exact List.mem_cons_of_mem _ ih
      · exact ih
theorem keepA_run {ps : List PS} : ∀ {svs : List SV} {fp fp' ks : List HLoc}, (keepA ps svs).run H fp = some (ks, fp') → ks = keepL H ps svs := by
  induction ps with
  | nil => intro svs fp fp' ks h; obtain ⟨e, _⟩ := ret_some (show (Rd.ret ([] : List HLoc)).run H _ = _ from h); subst e; cases svs <;> rfl
  | cons p r ih =>
    intro svs fp fp' ks h
    cases svs with
    | nil => cases p <;> (obtain ⟨e, _⟩ := ret_some (show (Rd.ret ([] : List HLoc)).run H _ = _ from h); subst e; rfl)
    | cons v vs =>
      cases p with
      | obj t own =>
        cases v with
        | adr s off =>
          obtain ⟨d, fp1, k1, h⟩ := bind_some (show ((cond (pbO own (cntT (lay t))) (Rd.ret []) (rowsA (.fld s) own 0)).bind _).run H fp = _ from h)
          obtain ⟨q, fp2, k2, h⟩ := bind_some h
          obtain ⟨e, _⟩ := ret_some h
          subst e
          have ih := ih k2
          show _ = cond (pbO own (cntT (lay t))) [] (rowsL H (.fld s) own 0) ++ keepL H r vs
          cases hp : pbO own (cntT (lay t)) with
          | true =>
            rw [hp] at k1
            obtain ⟨e, _⟩ := ret_some k1
            rw [← e, ih]; rfl
          | false =>
            rw [hp] at k1
            rw [rowsA_run k1, ih]; rfl
        | _ => exact ih h
      | row e =>
        cases v with
        | hdr q =>
          obtain ⟨z, fp1, k1, h⟩ := bind_some (show ((keepA r vs).bind _).run H fp = _ from h)
          obtain ⟨e, _⟩ := ret_some h
          subst e
          rw [ih k1]; rfl
        | _ => exact ih h
      | _ => have := ih h; cases v <;> exact this
theorem collA_box_run {r : List PS} {s : SV} {svs : List SV} {x : (argTy r).den} {pubs : HW} {drops : List HLoc} {fp fp' : List HLoc} (h : (collA (.box :: r) (s :: svs)).run H fp = some ((x, pubs, drops), fp')) :
    ∃ st b o svs' fp1 fp2 z hw2 d2, s = .adr st 0 ∧ svs = .adr b o :: svs' ∧ H (.site st) = .obj ptrTy ∧ H (.fld st 0) = .adr b o ∧ (collA r svs).run H fp1 = some ((z, hw2, d2), fp2) ∧ x = z ∧ pubs = hw2 ∧ drops = HLoc.site st :: d2 := by
  rw [collA_box] at h
  cases s <;> first | exact (fail_some h).elim | skip
  rename_i st off
  simp only at h
  cases hoff : Nat.beq off 0 with
  | false => rw [hoff] at h; exact (fail_some h).elim
  | true =>
    rw [hoff] at h
    obtain rfl := Nat.eq_of_beq_eq_true hoff
    simp only [cond, Rd.run] at h
    split at h
    · rename_i t' hobj
      cases hb : t'.beq ptrTy with
      | false => rw [hb] at h; exact (fail_some h).elim
      | true =>
        rw [hb] at h
        obtain rfl := Ty.beq_eq hb
        simp only [Rd.run] at h
        split at h
        · rename_i b o b' o' svs' hfld
          cases hc : cond (Nat.beq b b') (Nat.beq o o') false with
          | false => simp only [cond] at hc; rw [hc] at h; exact (fail_some h).elim
          | true =>
            obtain ⟨e1, e2⟩ := cond_and hc
            obtain rfl := Nat.eq_of_beq_eq_true e1
            obtain rfl := Nat.eq_of_beq_eq_true e2
            simp only [cond] at hc
            rw [hc] at h
            obtain ⟨⟨z, hw2, d2⟩, fp3, k3, h⟩ := bind_some h
            obtain ⟨e, _⟩ := ret_some h
            cases e
            exact ⟨st, b, o, svs', _, _, z, hw2, d2, rfl, rfl, hobj, hfld, k3, rfl, rfl, rfl⟩
        · exact (fail_some h).elim
    · exact (fail_some h).elim
/-- the rows that are lent -/
def hdrsP (H : HLoc → SV) : SV → List HLoc
  | .hdr r => [.row r]
  | .agg d t => hdrsL ((List.range' 0 (cntT t)).map fun k => H (.comp d k))
  | _ => []
def lentL (H : HLoc → SV) : List PS → List SV → List HLoc
  | .lent _ :: r, v :: vs => hdrsP H v ++ lentL H r vs
  | _ :: r, _ :: vs => lentL H r vs
  | _, _ => []
theorem hdrsL_mem {r : Nat} : ∀ {vs : List SV} {k : Nat}, vs[k]? = some (.hdr r) → HLoc.row r ∈ hdrsL vs
  | [], k, h => by simp at h
  | v :: vs, 0, h => by
    simp only [List.getElem?_cons_zero, Option.some.injEq] at h
    subst h
    exact List.mem_cons_self ..
  | v :: vs, k + 1, h => by
    have ih := hdrsL_mem (vs := vs) (k := k) (by simpa using h)
    simp only [hdrsL]
    split
    · exact List.mem_cons_of_mem _ ih
    · exact ih
theorem hdrsV_run {v : SV} {fp fp' ls : List HLoc} (h : (hdrsV v).run H fp = some (ls, fp')) : ls = hdrsP H v := by
  cases v with
  | hdr r => exact (ret_some h).1
  | agg d t =>
    obtain ⟨vs, fp1, k1, h⟩ := bind_some (show ((getN d (cntT t) 0).bind _).run H fp = _ from h)
    obtain ⟨e, _⟩ := ret_some h
    rw [e, getN_run k1]; rfl
  | _ => exact (ret_some h).1
theorem lentA_run {ps : List PS} : ∀ {svs : List SV} {fp fp' ls : List HLoc}, (lentA ps svs).run H fp = some (ls, fp') → ls = lentL H ps svs := by
  induction ps with
  | nil => intro svs fp fp' ls h; obtain ⟨e, _⟩ := ret_some (show (Rd.ret ([] : List HLoc)).run H _ = _ from h); subst e; cases svs <;> rfl
  | cons p r ih =>
    intro svs fp fp' ls h
    cases svs with
    | nil => cases p <;> (obtain ⟨e, _⟩ := ret_some (show (Rd.ret ([] : List HLoc)).run H _ = _ from h); subst e; rfl)
    | cons v vs =>
      obtain ⟨d, fp1, k1, h⟩ := bind_some (show (Rd.bind _ _).run H fp = _ from h)
      obtain ⟨q, fp2, k2, h⟩ := bind_some h
      obtain ⟨e, _⟩ := ret_some h
      subst e
      have ih := ih k2
      cases p with
      | lent t => rw [hdrsV_run k1, ih]; rfl
      | _ => obtain ⟨e, _⟩ := ret_some (show (Rd.ret ([] : List HLoc)).run H _ = _ from k1); subst e; exact ih
theorem collA_lent {t : Ty} {r : List PS} {v : SV} {vs : List SV} : collA (.lent t :: r) (v :: vs) = (lendV t v).bind fun p => (collA r vs).bind fun q => .ret ((p, q.1), q.2.1, q.2.2) := rfl
theorem SimG.lv_le (hs : SimG C g S H a w) {M : Nat → Prop} (hM : ∀ b, M b → g.own b ≠ none) : g.lv.le (lvU g.fl M w) := fun b o v h => by
  have hc := hs.lvCell h
  rw [hs.lv] at h
  unfold lvOf lvU at h
  split at h
  · exact lvU_view _ _ _ (hs.iv _ _ _ h)
  · rename_i hb
    have hlt : b < C.w0.heap.size := World.block_lt_of_cell? (a := ⟨b, o, none⟩) C.w0 h
    unfold lvU
    rw [if_neg fun hm => by
      rcases (hs.own b (hM b hm)).2 with h | h
      · omega
      · exact hb h]
    exact hc
theorem RowOk.lent {M : Nat → Prop} {r : Nat} {pub : Bool} {e : Ty} {l : List e.den} (h : RowOk g w r pub e l) (hM : ∀ b, M b → g.own b ≠ some (.row r)) : VRep (lvU g.fl M w) (.slice e) (g.hd r) l := by
  rcases h with ⟨h1, h2⟩ | ⟨b, cap, cs, h1, h2, h3, h4, h5, h6, h7⟩
  · subst h2
    exact ⟨[.slice none 0 0], ⟨none, 0, 0, rfl, rfl, Nat.le_refl _, fun _ => rfl, fun i x hx => by simp at hx⟩, by rw [h1]; rfl⟩
  · refine ⟨[g.hd r], ⟨some ⟨b, 0, none⟩, l.length, cap, by rw [h1], rfl, h2, fun e => by simp at e, fun i x hx => ?_⟩, rfl⟩
    obtain ⟨c, hc1, hc2⟩ := h7 i x hx
    refine ⟨b, 0, c, rfl, fun j v hj => ?_, hc2.mono lvU_view⟩
    unfold lvU
    rw [if_neg fun hm => hM b hm h5, Nat.zero_add, h3.cell]
    exact hc1 j v hj
theorem lend0_ok {iv iv2 : IV} (h1 : iv.le iv2) (h2 : g.lv.le iv2) (t : Ty) {s : SV} {v : Value} {y : t.den} {fp fp' : List HLoc} (h : (lend0 t s).run H fp = some (y, fp')) (hv : SR g iv s v)
    (hr : ∀ r pub e l, s = .hdr r → H (.row r) = .row pub e l → VRep iv2 (.slice e) (g.hd r) l) : VRep iv2 t v y := by
  cases s with
  | pv t' x => obtain ⟨h, _⟩ := ofO_run h; exact (castTo_VRep h hv).mono h1
  | lv t' x => obtain ⟨h, _⟩ := ofO_run h; exact (castTo_VRep h hv).mono h2
  | nils =>
    cases t <;> simp only [lend0] at h <;> first | exact (fail_some h).elim | skip
    obtain ⟨h, _⟩ := ret_some h
    subst h
    rw [show v = _ from hv]
    exact ⟨[.slice none 0 0], ⟨none, 0, 0, rfl, rfl, Nat.le_refl _, fun _ => rfl, fun i x hx => by simp at hx⟩, rfl⟩
  | hdr r =>
    simp only [lend0, Rd.run] at h
    split at h
    · rename_i pub e l hrow
      obtain ⟨h, _⟩ := ofO_run h
      rw [show v = _ from hv]
      exact castTo_VRep h (hr r pub e l rfl hrow)
    · exact (fail_some h).elim
  | _ => exact (fail_some h).elim
theorem lendG_ok {mk : Nat → HLoc} {iv iv2 : IV} (h1 : iv.le iv2) (h2 : g.lv.le iv2) : ∀ {t : Ty} {i : Nat} {cs : List Value} {x : t.den} {fp fp' : List HLoc}, (lendG mk t i).run H fp = some (x, fp') →
    FieldsOk (fun j => H (mk j)) g iv t cs i → (∀ k r pub e l, k < cntT t → H (mk (i + k)) = .hdr r → H (.row r) = .row pub e l → VRep iv2 (.slice e) (g.hd r) l) → CRep iv2 t cs x := by
  intro t
  induction t with
  | unit => intro i cs x fp fp' h hc _; exact hc
  | pair A B _ hB =>
    intro i cs x fp fp' h hc hr
    simp only [lendG, Rd.run] at h
    obtain ⟨p, fp1, k1, h⟩ := bind_some h
    obtain ⟨q, fp2, k2, h⟩ := bind_some h
    obtain ⟨e, _⟩ := ret_some h
    cases e
    obtain ⟨c1, c2, rfl, hl, ho, hsr, hcr⟩ := hc
    have := (lend0_ok h1 h2 A k1 hsr fun r pub e l e1 e2 => hr 0 r pub e l (Nat.succ_pos _) e1 e2).cells
    rw [cells_mkV hl ho] at this
    exact ⟨c1, c2, rfl, this, hB k2 hcr fun k r pub e l hk e1 e2 => hr (k + 1) r pub e l (Nat.succ_lt_succ hk) (by rwa [show i + (k + 1) = i + 1 + k from by omega]) e2⟩
  | _ => intro i cs x fp fp' h; exact (fail_some h).elim
theorem puts_row : ∀ {hw : HW} {H : HLoc → SV}, Pubs H hw → ∀ {r : Nat} {pub : Bool} {e : Ty} {l : List e.den}, H (.row r) = .row pub e l → ∃ pub', puts H hw (.row r) = .row pub' e l
  | [], _, _, _, _, _, _, h => ⟨_, h⟩
  | (k, v) :: rest, H, ⟨⟨rr, p, e', x, h1, h2, h3⟩, hr⟩, r, pub, e, l, h => by
    subst h1 h2
    refine puts_row (hw := rest) (Pubs.upd h3 hr) (pub := cond (decide (r = rr)) true pub) ?_
    by_cases er : r = rr
    · subst er
      cases h3.uniq (.inl h : RowIs H (.row r) pub e l)
      rw [updH_self]; simp
    · rw [updH_ne _ _ (by simpa using er), h]; simp [er]
theorem lendV_ok (hs : SimG C g S H a w) {t : Ty} {s : SV} {v : Value} {y : t.den} {fp fp' : List HLoc} (h : (lendV t s).run H fp = some (y, fp')) (hv : SR g (view g.fl w) s v) {hw : HW} {fl : Nat → Nat} {own : Nat → Option Own} (hp : Pubs H hw)
    (hs' : SimG C { g with fl := fl, own := own } S (puts H hw) a w) (hle : (view g.fl w).le (view fl w)) {M : Nat → Prop} (hM : ∀ b, M b → own b ≠ none) (hM' : ∀ r b, HLoc.row r ∈ hdrsP H s → M b → own b ≠ some (.row r)) : VRep (lvU fl M w) t v y := by
  have h1 : (view g.fl w).le (lvU fl M w) := hle.trans lvU_view
  have h2 : g.lv.le (lvU fl M w) := hs'.lv_le hM
  have hrow : ∀ r pub e l, H (.row r) = .row pub e l → HLoc.row r ∈ hdrsP H s → VRep (lvU fl M w) (.slice e) (g.hd r) l := fun r pub e l hr hm => by
    obtain ⟨pub', hr'⟩ := puts_row hp hr
    exact (hs'.rows r pub' e l hr').lent (M := M) fun b hb => hM' r b hm hb
  by_cases hag : ∃ d t', s = .agg d t'
  · obtain ⟨d, t', rfl⟩ := hag
    simp only [lendV] at h
    cases hb : t'.beq t with
    | false => rw [hb] at h; exact (fail_some h).elim
    | true =>
      rw [hb] at h
      obtain rfl := Ty.beq_eq hb
      obtain ⟨e1, rfl, e3⟩ := hv
      refine ⟨_, lendG_ok (mk := .comp d) (g := g) h1 h2 h (agg_fields hs e3) fun k r pub e l hk q1 q2 => hrow r pub e l q2 (hdrsL_mem (k := k) (by
        rw [List.getElem?_map, List.getElem?_range' hk, Option.map_some, Nat.one_mul, q1])), ?_⟩
      simp [mkV, e1]
  · have h : (lend0 t s).run H fp = some (y, fp') := by
      cases s <;> first | exact h | exact absurd ⟨_, _, rfl⟩ hag
    exact lend0_ok (g := g) h1 h2 t h hv fun r pub e l q1 q2 => hrow r pub e l q2 (by subst q1; exact List.mem_singleton_self _)
/-- arguments, for the callee -/
theorem collA_ok (hs : SimG C g S H a w) : ∀ {ps : List PS} {svs : List SV} {vs : List Value} {i : Nat} {x : (argTy ps).den} {pubs : HW} {drops : List HLoc} {fp fp' : List HLoc},
    (collA ps svs).run H fp = some ((x, pubs, drops), fp') → svs.length = vs.length → CapOk svs vs → (∀ (j : Nat) (s : SV) (v : Value), svs[j]? = some s → vs[j]? = some v → SR g (view g.fl w) s v ∧ RefOk H s) →
    Pubs H pubs ∧ (∀ l ∈ drops, H l ≠ .bot) ∧ ∃ m : List (Own × Own), drops = m.map (fun p => locO p.1) ∧ ∀ {hw : HW} {fl : Nat → Nat} {own : Nat → Option Own}, (∀ y ∈ pubs, y ∈ hw) → Pubs H hw → (∀ l ∈ keepL H ps svs, l ∉ fsts hw) → SimG C { g with fl := fl, own := own } S (puts H hw) a w → (view g.fl w).le (view fl w) →
      ∀ T : Own → Own → Prop, (∀ p ∈ m, T p.1 p.2) → (∀ o t, T o t → locO o ∉ lentL H ps svs) → ArgsX T fl own w i ps vs x := by
  intro ps
  induction ps with
  | nil =>
    intro svs vs i x pubs drops fp fp' h hl _ _
    cases svs with
    | cons => rw [collA_nil'] at h; exact (fail_some h).elim
    | nil =>
      rw [collA_nil] at h
      obtain ⟨e, _⟩ := ret_some h
      cases e
      exact ⟨trivial, by simp, [], rfl, fun _ _ _ _ _ T _ _ => by cases vs with | nil => rfl | cons => simp at hl⟩
  | cons p ps ih =>
    intro svs vs i x pubs drops fp fp' h hl hcap hv
    cases p with
    | pure t =>
      cases svs with
      | nil => rw [collA_cons] at h; exact (fail_some h).elim
      | cons s svs =>
        cases vs with
        | nil => simp at hl
        | cons v vs =>
          rw [collA_pure] at h
          obtain ⟨⟨y, hw1⟩, fp1, k1, h⟩ := bind_some h
          obtain ⟨⟨z, hw2, d2⟩, fp2, k2, h⟩ := bind_some h
          obtain ⟨e, _⟩ := ret_some h
          cases e
          obtain ⟨v1, v2⟩ := hv 0 s v rfl rfl
          obtain ⟨p1, p2⟩ := toPV_ok hs k1 v1 v2
          obtain ⟨q1, q4, m, q2, q3⟩ := ih (i := i + 1) k2 (by simpa using hl) hcap.tail fun j s' v' h1 h2 => hv (j + 1) s' v' (by simpa using h1) (by simpa using h2)
          refine ⟨Pubs.append.2 ⟨p1, q1⟩, q4, m, q2, fun hsub hp hkp hs' hle T hT hL => ⟨?_, q3 (fun y hy => hsub y (List.mem_append_right _ hy)) hp (by cases s <;> exact hkp) hs' hle T hT (by cases s <;> exact hL)⟩⟩
          exact p2 _ _ ((hs'.rowsRd hp).sub fun y hy => hsub y (List.mem_append_left _ hy)) hle
    | lent t =>
      cases svs with
      | nil => rw [collA_cons] at h; exact (fail_some h).elim
      | cons s svs =>
        cases vs with
        | nil => simp at hl
        | cons v vs =>
          rw [collA_lent] at h
          obtain ⟨y, fp1, k1, h⟩ := bind_some h
          obtain ⟨⟨z, hw2, d2⟩, fp2, k2, h⟩ := bind_some h
          obtain ⟨e, _⟩ := ret_some h
          cases e
          obtain ⟨v1, v2⟩ := hv 0 s v rfl rfl
          obtain ⟨q1, q4, m, q2, q3⟩ := ih (i := i + 1) k2 (by simpa using hl) hcap.tail fun j s' v' h1 h2 => hv (j + 1) s' v' (by simpa using h1) (by simpa using h2)
          refine ⟨q1, q4, m, q2, fun {hw fl own} hsub hp hkp hs' hle T hT hL => ⟨?_, q3 hsub hp (by cases s <;> exact hkp) hs' hle T hT fun o t ht hm => hL o t ht (List.mem_append_right _ hm)⟩⟩
          exact lendV_ok hs k1 v1 hp hs' hle (fun b ⟨o, t', h1, _⟩ => by rw [h1]; exact fun h => by cases h) fun r b hr ⟨o, t', h1, h2⟩ h3 => by
            rw [h3] at h1
            cases h1
            exact hL (.row r) t' h2 (List.mem_append_left _ hr)
    | nilp =>
      cases svs with
      | nil => rw [collA_cons] at h; exact (fail_some h).elim
      | cons s svs =>
        cases vs with
        | nil => simp at hl
        | cons v vs =>
          rw [collA_nilp] at h
          cases s <;> first | exact (fail_some h).elim | skip
          obtain ⟨v1, v2⟩ := hv 0 _ v rfl rfl
          obtain ⟨q1, q4, m, q2, q3⟩ := ih (i := i + 1) h (by simpa using hl) hcap.tail fun j s' v' h1 h2 => hv (j + 1) s' v' (by simpa using h1) (by simpa using h2)
          exact ⟨q1, q4, m, q2, fun hsub hp hkp hs' hle T hT hL => ⟨v1, q3 hsub hp hkp hs' hle T hT hL⟩⟩
    | fnc f n =>
      cases svs with
      | nil => rw [collA_cons] at h; exact (fail_some h).elim
      | cons s svs =>
        cases vs with
        | nil => simp at hl
        | cons v vs =>
          rw [collA_fnc] at h
          cases s <;> first | exact (fail_some h).elim | skip
          rename_i f' d n'
          simp only at h
          cases hb : cond (Nat.beq f f') (Nat.beq n n') false with
          | false => rw [hb] at h; exact (fail_some h).elim
          | true =>
            rw [hb] at h
            obtain ⟨hb1, hb2⟩ := cond_and hb
            obtain rfl := Nat.eq_of_beq_eq_true hb1
            obtain rfl := Nat.eq_of_beq_eq_true hb2
            obtain ⟨q1, q4, m, q2, q3⟩ := ih (i := i + 1) h (by simpa using hl) hcap.tail fun j s' v' h1 h2 => hv (j + 1) s' v' (by simpa using h1) (by simpa using h2)
            exact ⟨q1, q4, m, q2, fun hsub hp hkp hs' hle T hT hL => ⟨hcap.1, q3 hsub hp hkp hs' hle T hT hL⟩⟩
    | box =>
      cases svs with
      | nil => rw [collA_cons] at h; exact (fail_some h).elim
      | cons s svs =>
        cases vs with
        | nil => simp at hl
        | cons v vs =>
          obtain ⟨st, b, o, svs', fp1, fp2, z, hw2, d2, rfl, rfl, hobj, hfld, k3, rfl, rfl, rfl⟩ := collA_box_run h
          obtain ⟨v1, v2⟩ := hv 0 _ v rfl rfl
          obtain ⟨q1, q4, m, q2, q3⟩ := ih (i := i + 1) k3 (by simpa using hl) hcap.tail fun j s' v' h1 h2 => hv (j + 1) s' v' (by simpa using h1) (by simpa using h2)
          refine ⟨q1, fun l hl => (by
            rcases List.mem_cons.1 hl with rfl | hl
            · rw [hobj]; exact SV.noConfusion
            · exact q4 l hl), (.site st, .site i) :: m, by rw [q2, List.map_cons]; rfl, fun {hw fl own} hsub hp hkp hs' hle T hT hL => ⟨?_, q3 hsub hp hkp hs' hle T (fun p hp => hT p (by simp [hp])) hL⟩⟩
          have hobj' : puts H hw (.site st) = .obj ptrTy := by rw [pubs_site hp]; exact hobj
          obtain ⟨cs, h1, h2, h3, h4⟩ := hs'.sites st ptrTy hobj'
          obtain ⟨c, rfl, -, h5⟩ := h4
          have h5 : SR { g with fl := fl, own := own } (view fl w) (puts H hw (.fld st 0)) c := h5
          rw [pubs_fld hp, hfld] at h5
          cases vs with
          | nil => simp at hl
          | cons p rest =>
            obtain ⟨w1, _⟩ := hv 1 (.adr b o) p rfl rfl
            have e : p = c := (show p = Value.pointer (some ⟨g.st b, o, none⟩) from w1).trans (show c = Value.pointer (some ⟨g.st b, o, none⟩) from h5).symm
            subst e
            exact ⟨p, rest, rfl, g.st st, .site st, hT (.site st, .site i) (by simp), v1, h1, h2, h3⟩
    | row e =>
      cases svs with
      | nil => rw [collA_cons] at h; exact (fail_some h).elim
      | cons s svs =>
        cases vs with
        | nil => simp at hl
        | cons v vs =>
          obtain ⟨q, l, fp1, fp2, z, d2, rfl, hrow, k3, rfl, rfl⟩ := collA_row_run h
          obtain ⟨v1, v2⟩ := hv 0 _ v rfl rfl
          obtain ⟨q1, q4, m, q2, q3⟩ := ih (i := i + 1) k3 (by simpa using hl) hcap.tail fun j s' v' h1 h2 => hv (j + 1) s' v' (by simpa using h1) (by simpa using h2)
          refine ⟨q1, fun l hl => (by
            rcases List.mem_cons.1 hl with rfl | hl
            · rw [hrow]; exact SV.noConfusion
            · exact q4 l hl), (.row q, .row (i * 20)) :: m, by rw [q2, List.map_cons]; rfl, fun {hw fl own} hsub hp hkp hs' hle T hT hL => ⟨?_, q3 hsub hp (fun l hl => hkp l (List.mem_cons_of_mem _ hl)) hs' hle T (fun p hp => hT p (by simp [hp])) hL⟩⟩
          have hrow' : puts H hw (.row q) = .row false e l := by rw [puts_ne (hkp (.row q) (List.mem_cons_self ..))]; exact hrow
          have h1 := rowOk_iff.1 (hs'.rows q false e l hrow')
          rw [show v = g.hd q from v1]
          exact .inr ⟨.row q, hT (.row q, .row (i * 20)) (by simp), h1⟩
    | obj t os =>
      cases svs with
      | nil => rw [collA_cons] at h; exact (fail_some h).elim
      | cons s svs =>
        cases vs with
        | nil => simp at hl
        | cons v vs =>
          rw [collA_obj] at h
          cases s <;> first | exact (fail_some h).elim | skip
          rename_i st off
          simp only at h
          cases hoff : Nat.beq off 0 with
          | false => rw [hoff] at h; exact (fail_some h).elim
          | true =>
            rw [hoff] at h
            simp only [cond, Rd.run] at h
            split at h
            · rename_i t' hobj
              cases hb : t'.beq t with
              | false => rw [hb] at h; exact (fail_some h).elim
              | true =>
                rw [hb] at h
                obtain rfl := Ty.beq_eq hb
                simp only [cond] at h
                obtain ⟨⟨y, hw1⟩, fp1, k1, h⟩ := bind_some h
                obtain ⟨d, fp2, k2, h⟩ := bind_some h
                obtain ⟨⟨z, hw2, d2⟩, fp3, k3, h⟩ := bind_some h
                obtain ⟨e, _⟩ := ret_some h
                cases e
                obtain ⟨v1, v2⟩ := hv 0 _ v rfl rfl
                obtain ⟨q1, q4, m, q2, q3⟩ := ih (i := i + 1) k3 (by simpa using hl) hcap.tail fun j s' v' h1 h2 => hv (j + 1) s' v' (by simpa using h1) (by simpa using h2)
                obtain ⟨m1, d1, d2'⟩ := ownDs_ok (rid := i * 20) k2
                have hG := fun T (hT : ∀ p ∈ m1, T p.1 p.2) => gatherX_ok (C := C) (g := g) (S := S) (a := a) (w := w) (T := T) (rid := i * 20) (os := os) k1 fun k hk => by
                  rcases d2' k hk with ⟨r, e1, e2⟩ | e1
                  · exact .inl ⟨r, e1, hT _ e2⟩
                  · exact .inr e1
                refine ⟨Pubs.append.2 ⟨(hG (fun _ _ => True) fun _ _ => trivial).1, q1⟩, fun l hl => (by
                  rcases List.mem_cons.1 hl with rfl | hl
                  · rw [hobj]; exact SV.noConfusion
                  · rcases List.mem_append.1 hl with hl | hl
                    · exact ownDs_live hs k2 l hl
                    · exact q4 l hl), (.site st, .site i) :: (m1 ++ m), by rw [d1, q2, List.map_cons, List.map_append]; rfl, fun {hw fl own} hsub hp hkp hs' hle T hT hL => ⟨?_, q3 (fun y hy => hsub y (List.mem_append_right _ hy)) hp (fun l hl => hkp l (List.mem_append_right _ hl)) hs' hle T (fun p hp => hT p (by simp [hp])) hL⟩⟩
                have hobj' : puts H hw (.site st) = .obj t' := by rw [pubs_site hp]; exact hobj
                obtain ⟨cs, h1, h2, h3, h4⟩ := hs'.sites st t' hobj'
                have hval : v = .pointer (some ⟨g.st st, 0, none⟩) := by
                  obtain rfl := Nat.eq_of_beq_eq_true hoff
                  exact v1
                refine ⟨g.st st, cs, .site st, hT (.site st, .site i) (by simp), hval, h1, h2, h3, (hG T fun p hp => hT p (by simp [hp])).2 (fun y hy => hsub y (List.mem_append_left _ hy)) hp (fun hpb k r h1 h2 => hkp _ (List.mem_append_left _ (by rw [hpb]; exact rowsL_mem (tk_get h1) h2))) hs' ?_⟩
                have hF : (fun i => puts H hw (.fld st i)) = fun i => H (.fld st i) := funext fun i => pubs_fld hp
                rw [objCells_lay, hF] at h4
                exact h4
            · exact (fail_some h).elim
end
end Go.Sx
namespace Go.Sx
section
variable {C : Ctx} {g : Gh} {S : Nat → SV} {H : HLoc → SV} {a : Act} {w : World}

/-- no label of its own -/
def NewHd (H : HLoc → SV) (g : Gh) (hd' : Nat → Value) : Prop := ∀ r, H (.row r) ≠ .bot → hd' r = g.hd r
theorem fsts_append : ∀ (a b : HW), fsts (a ++ b) = fsts a ++ fsts b
  | [], _ => rfl
  | (l, v) :: r, b => by simp [fsts, fsts_append r b]
theorem freshO_ok {rid : Nat} : ∀ {os : List Bool} {i : Nat} {fp fp' : List HLoc} {u : Unit}, (freshO rid os i).run H fp = some (u, fp') → ∀ k, os[k]? = some true → H (.row (rid + (i + k))) = .bot
  | [], _, _, _, _, _, k, hk => by simp at hk
  | o :: os, i, fp, fp', u, h, k, hk => by
    simp only [freshO] at h
    cases o with
    | false =>
      cases k with
      | zero => simp at hk
      | succ k =>
        have := freshO_ok (show (freshO rid os (i + 1)).run H fp = _ from h) k (by simpa using hk)
        rwa [show i + 1 + k = i + (k + 1) from by omega] at this
    | true =>
      obtain ⟨h1, h2⟩ := fresh_some (show (fresh (.row (rid + i)) (freshO rid os (i + 1))).run H fp = _ from h)
      cases k with
      | zero => exact h1
      | succ k =>
        have := freshO_ok h2 k (by simpa using hk)
        rwa [show i + 1 + k = i + (k + 1) from by omega] at this
/-- which places a spread object's fields take -/
theorem spread_mem {mk : Nat → HLoc} {rid : Nat} : ∀ {t : Ty} {os : List Bool} {x : t.den} {i : Nat} {l : HLoc}, l ∈ fsts (spreadO mk rid os t x i) → (∃ k, l = mk (i + k)) ∨ ∃ k, os[k]? = some true ∧ l = .row (rid + (i + k)) := by
  intro t
  induction t with
  | pair A B _ hB =>
    intro os x i l hl
    simp only [spreadO, fsts_append, List.mem_append] at hl
    rcases hl with hl | hl
    · unfold spread1 at hl
      cases hb : hdB os with
      | false =>
        rw [hb] at hl
        simp only [cond, fsts, List.mem_singleton] at hl
        exact .inl ⟨0, hl⟩
      | true =>
        rw [hb] at hl
        simp only [cond] at hl
        split at hl
        · simp only [fsts, List.mem_cons, List.not_mem_nil, or_false] at hl
          rcases hl with rfl | rfl
          · exact .inr ⟨0, hdB_get.1 hb, rfl⟩
          · exact .inl ⟨0, rfl⟩
        · simp only [fsts, List.mem_singleton] at hl
          exact .inl ⟨0, hl⟩
    · rcases hB hl with ⟨k, rfl⟩ | ⟨k, hk, rfl⟩
      · exact .inl ⟨k + 1, by congr 1; omega⟩
      · exact .inr ⟨k + 1, by rw [← tlB_get]; exact hk, by congr 1; omega⟩
  | _ => intro os x i l hl; simp [spreadO, fsts] at hl

/-- the fields of an object that comes (back) out of a call -/
theorem spread_ok {T : Own → Own → Prop} {sh : Own → Own} (hT : ∀ o t, T o t → o = sh t) {id rid n : Nat} (hsh : ∀ k, sh (.row k) = .row (id + k)) : ∀ {t : Ty} {os : List Bool} {cs : List Value} {x : t.den} {i : Nat} {g : Gh} {H : HLoc → SV}, SimG C g S H a w → (∀ t, H (.site n) ≠ .obj t) →
    FldsX T g.fl g.own w rid os t cs x i → (∀ r, HLoc.row r ∈ fsts (spreadO (.fld n) (id + rid) os t x i) → H (.row r) = .bot) →
    ∃ hd', NewHd H g hd' ∧ SimG C { g with hd := hd' } S (puts H (spreadO (.fld n) (id + rid) os t x i)) a w ∧ FieldsOk (fun j => puts H (spreadO (.fld n) (id + rid) os t x i) (.fld n j)) { g with hd := hd' } (view g.fl w) t cs i := by
  intro t
  induction t with
  | unit => intro os cs x i g H hs _ hx _; exact ⟨g.hd, fun _ _ => rfl, hs, hx⟩
  | pair A B _ hB =>
    rintro os cs x i g H hs hn ⟨c1, c2, rfl, h1, h2⟩ hf
    have hf' : ∀ r, HLoc.row r ∈ fsts (spreadO (.fld n) (id + rid) (tlB os) B x.2 (i + 1)) → H (.row r) = .bot := fun r hr => hf r (by simp only [spreadO, fsts_append]; exact List.mem_append_right _ hr)
    -- the rest, once the first is set
    have rest : ∀ {g1 : Gh} {H1 : HLoc → SV} {v : SV}, g1.fl = g.fl → g1.own = g.own → NewHd H g g1.hd → g1.st = g.st → g1.cv = g.cv → SimG C g1 S H1 a w → (∀ t, H1 (.site n) ≠ .obj t) → H1 = puts H (spread1 (.fld n) (id + rid) (pbO os (cntT B + 1)) (hdB os) A x.1 i) → (∀ l, l ∉ fsts (spread1 (.fld n) (id + rid) (pbO os (cntT B + 1)) (hdB os) A x.1 i) → H1 l = H l) →
        (∀ r, HLoc.row r ∈ fsts (spreadO (.fld n) (id + rid) (tlB os) B x.2 (i + 1)) → H1 (.row r) = .bot) → H1 (.fld n i) = v → v ≠ .bot → (∀ r, H (.row r) ≠ .bot → H1 (.row r) ≠ .bot) → SR g1 (view g.fl w) v (mkV A c1) → c1.length = A.size → (∀ c ∈ c1, oneC c = true) →
        ∃ hd', NewHd H g hd' ∧ SimG C { g with hd := hd' } S (puts H (spreadO (.fld n) (id + rid) os (.pair A B) x i)) a w ∧ FieldsOk (fun j => puts H (spreadO (.fld n) (id + rid) os (.pair A B) x i) (.fld n j)) { g with hd := hd' } (view g.fl w) (.pair A B) (c1 ++ c2) i := by
      intro g1 H1 v e1 e2 e3 e4 e5 hs1 hn1 hH1 _ hf1 hv hvne hrow hsr hl ho
      obtain ⟨hd', k1, k2, k3⟩ := hB (g := g1) (H := H1) (os := tlB os) (x := x.2) (i := i + 1) hs1 hn1 (by rw [e1, e2]; exact h2) hf1
      have e6 : g1.lv = g.lv := hs1.lv.trans hs.lv.symm
      have eg : ({ g1 with hd := hd' } : Gh) = { g with hd := hd' } := by
        clear hs1 hs k2 k3 hsr h1 h2 hB
        cases g; cases g1; simp_all
      have eP : puts H (spreadO (.fld n) (id + rid) os (.pair A B) x i) = puts H1 (spreadO (.fld n) (id + rid) (tlB os) B x.2 (i + 1)) := by
        rw [hH1, ← puts_append]; rfl
      rw [eg] at k2 k3
      refine ⟨hd', fun r hr => (k1 r (hrow r hr)).trans (e3 r hr), by rw [eP]; exact k2, c1, c2, rfl, hl, ho, ?_, ?_⟩
      · have hnot : HLoc.fld n i ∉ fsts (spreadO (.fld n) (id + rid) (tlB os) B x.2 (i + 1)) := by
          intro hm
          rcases spread_mem hm with ⟨k, hk⟩ | ⟨k, _, hk⟩
          · simp at hk; omega
          · cases hk
        show SR _ _ (puts H (spreadO (.fld n) (id + rid) os (.pair A B) x i) (.fld n i)) _
        rw [eP, puts_ne hnot, hv]
        have hA : GAgree H1 g1 { g with hd := hd' } := ⟨fun m _ => by rw [e4], fun r hr => k1 r hr, fun d i _ => by rw [e5], e6.symm⟩
        have hr1 : RefOk H1 v := by have := hs1.refF n i; rw [hv] at this; exact this
        exact SR.change hA (IV.le.refl _) hr1 hsr
      · rw [eP]; rw [e1] at k3; exact k3
    have hx1 : ∀ l, l ≠ HLoc.fld n i → ∀ v, updH H (.fld n i) v l = H l := fun l h v => updH_ne _ _ h
    cases hb : hdB os with
    | false =>
      rw [hb] at h1
      have hC : CRep (view g.fl w) A c1 x.1 := by cases A <;> exact h1
      have hs1 := hs.setFld (n := n) (i := i) (v := .pv A x.1) hn SV.noConfusion trivial
      refine rest (g1 := g) (v := .pv A x.1) rfl rfl (fun _ _ => rfl) rfl rfl hs1 (fun t => by rw [hx1 _ (by simp)]; exact hn t) (by rw [hb]; rfl) (fun l hl => ?_) (fun k hk => by rw [hx1 _ (by simp)]; exact hf' k hk) (updH_self _ _ _) SV.noConfusion (fun r hr => by rw [hx1 _ (by simp)]; exact hr)
        ⟨c1, hC, rfl⟩ hC.length hC.ones
      rw [hb] at hl
      exact hx1 l (fun e => hl (by simp [spread1, fsts, e])) _
    | true =>
      rw [hb] at h1
      cases A <;> first | exact h1.elim | skip
      rename_i e _
      obtain ⟨v, rfl, hr⟩ := h1
      have hbot : H (.row (id + rid + i)) = .bot := hf _ (by simp only [spreadO, fsts_append, hb, spread1, cond, fsts]; simp)
      have hA : GAgree H g { g with hd := updN g.hd (id + rid + i) v } := ⟨fun _ _ => rfl, fun r' hr' => updN_ne _ _ fun e => hr' (e ▸ hbot), fun _ _ _ => rfl, rfl⟩
      have hg := hs.grow hA (IV.le.refl _) (fun _ _ _ h => ⟨rfl, h, rfl⟩) (fun _ _ _ h => ⟨rfl, h, rfl⟩) hs.own hs.old hs.ext
      have hR : RowV g.fl g.own w v (.row (id + rid + i)) (pbO os (cntT B + 1)) e x.1 := by
        rcases hr with hr | ⟨o, ho, hr⟩
        · exact .inl hr
        · rw [hT _ _ ho, hsh, show id + (rid + i) = id + rid + i from by omega] at hr
          exact hr
      have hrow := hg.setRow (r := id + rid + i) (pub := pbO os (cntT B + 1)) (e := e) (l := x.1) (rowOk_iff.2 (by show RowV g.fl g.own w (updN g.hd (id + rid + i) v (id + rid + i)) _ _ _ _; rw [updN_self]; exact hR))
      have hs1 := hrow.setFld (n := n) (i := i) (v := .hdr (id + rid + i)) (fun t => by rw [updH_ne _ _ (by simp)]; exact hn t) SV.noConfusion (by simp only [RefOk]; rw [updH_self]; exact SV.noConfusion)
      obtain ⟨ad, m, c, hv⟩ := hR.oneC
      have hone : oneC v = true := by rw [hv]; rfl
      refine rest (g1 := { g with hd := updN g.hd (id + rid + i) v }) (v := .hdr (id + rid + i)) rfl rfl (fun r hr => hA.hd r hr) rfl rfl hs1 (fun t => ?_) (by rw [hb]; rfl) (fun l hl => ?_) (fun k hk => ?_) (updH_self _ _ _) SV.noConfusion (fun r hr => ?_) ?_ rfl (by simpa using hone)
      · rw [updH_ne _ _ (by simp), updH_ne _ _ (by simp)]; exact hn t
      · rw [hb] at hl
        simp only [spread1, cond, fsts, List.mem_cons, List.not_mem_nil, or_false, not_or] at hl
        rw [updH_ne _ _ hl.2, updH_ne _ _ hl.1]
      · rw [updH_ne _ _ (by simp), updH_ne _ _ (by
          rcases spread_mem hk with ⟨j, hj⟩ | ⟨j, _, hj⟩
          · cases hj
          · simp only [HLoc.row.injEq] at hj; simp; omega)]; exact hf' k hk
      · rw [updH_ne _ _ (by simp)]; exact updH_ne_bot SV.noConfusion hr
      · show mkV (.slice e) [v] = updN g.hd (id + rid + i) v (id + rid + i)
        rw [updN_self]; rfl
  | _ => intro os cs x i g H hs _ hx _; cases os <;> exact hx.elim
/-- a ghost that says the same of all that a state names -/
structure NewG (H : HLoc → SV) (g g' : Gh) : Prop where
  fl : g'.fl = g.fl
  own : g'.own = g.own
  ag : GAgree H g g'
theorem NewG.refl (H : HLoc → SV) (g : Gh) : NewG H g g := ⟨rfl, rfl, GAgree.refl H g⟩
theorem NewG.trans {H H' : HLoc → SV} {g g' g'' : Gh} (h : NewG H g g') (h' : NewG H' g' g'') (hH : ∀ l, H l ≠ .bot → H' l ≠ .bot) : NewG H g g'' :=
  ⟨h'.fl.trans h.fl, h'.own.trans h.own, ⟨fun n hn => (h'.ag.st n (hH _ hn)).trans (h.ag.st n hn), fun r hr => (h'.ag.hd r (hH _ hr)).trans (h.ag.hd r hr), fun d i hd => (h'.ag.cv d i (hH _ hd)).trans (h.ag.cv d i hd), h'.ag.lv.trans h.ag.lv⟩⟩
/-- a struct that comes out of a call -/
theorem spreadC_ok {T : Own → Own → Prop} {sh : Own → Own} (hT : ∀ o t, T o t → o = sh t) {id rid d : Nat} (hsh : ∀ k, sh (.row k) = .row (id + k)) : ∀ {t : Ty} {os : List Bool} {cs : List Value} {x : t.den} {i : Nat} {g : Gh} {H : HLoc → SV}, SimG C g S H a w →
    FldsX T g.fl g.own w rid os t cs x i → (∀ l ∈ fsts (spreadO (.comp d) (id + rid) os t x i), H l = .bot) →
    ∃ g', NewG H g g' ∧ SimG C g' S (puts H (spreadO (.comp d) (id + rid) os t x i)) a w ∧ aggCells (g'.cv d) t i = cs ∧ AggOk (g'.cv d) t i ∧ ∀ k, k < nf t → puts H (spreadO (.comp d) (id + rid) os t x i) (.comp d (i + k)) ≠ .bot := by
  intro t
  induction t with
  | unit =>
    intro os cs x i g H hs hx _
    exact ⟨g, NewG.refl _ _, hs, (show cs = [] from hx).symm, trivial, fun k hk => by simp [nf] at hk⟩
  | pair A B _ hB =>
    rintro os cs x i g H hs ⟨c1, c2, rfl, h1, h2⟩ hf
    have rest : ∀ {g1 : Gh} {H1 : HLoc → SV} {v : SV}, NewG H g g1 → (∀ l, H l ≠ .bot → H1 l ≠ .bot) → SimG C g1 S H1 a w → H1 = puts H (spread1 (.comp d) (id + rid) (pbO os (cntT B + 1)) (hdB os) A x.1 i) → H1 (.comp d i) = v → v ≠ .bot → g1.cv d i = mkV A c1 → c1.length = A.size → (∀ c ∈ c1, oneC c = true) →
        (∀ l, l ∉ fsts (spread1 (.comp d) (id + rid) (pbO os (cntT B + 1)) (hdB os) A x.1 i) → H1 l = H l) →
        ∃ g', NewG H g g' ∧ SimG C g' S (puts H (spreadO (.comp d) (id + rid) os (.pair A B) x i)) a w ∧ aggCells (g'.cv d) (.pair A B) i = c1 ++ c2 ∧ AggOk (g'.cv d) (.pair A B) i ∧ ∀ k, k < nf (.pair A B) → puts H (spreadO (.comp d) (id + rid) os (.pair A B) x i) (.comp d (i + k)) ≠ .bot := by
      intro g1 H1 v e1 e2 hs1 hH1 hv hne hcv hl ho hsame
      have hm1 : ∀ l ∈ fsts (spread1 (.comp d) (id + rid) (pbO os (cntT B + 1)) (hdB os) A x.1 i), l = .comp d i ∨ l = .row (id + rid + i) := by
        intro l hl
        unfold spread1 at hl
        cases hb : hdB os with
        | false => rw [hb] at hl; simp only [cond, fsts, List.mem_singleton] at hl; exact .inl hl
        | true =>
          rw [hb] at hl
          simp only [cond] at hl
          split at hl
          · simp only [fsts, List.mem_cons, List.not_mem_nil, or_false] at hl
            exact hl.symm
          · simp only [fsts, List.mem_singleton] at hl; exact .inl hl
      have far : ∀ l ∈ fsts (spreadO (.comp d) (id + rid) (tlB os) B x.2 (i + 1)), l ∉ fsts (spread1 (.comp d) (id + rid) (pbO os (cntT B + 1)) (hdB os) A x.1 i) := fun l hl hm => by
        rcases hm1 l hm with rfl | rfl
        · rcases spread_mem hl with ⟨k, hk⟩ | ⟨k, _, hk⟩
          · simp at hk; omega
          · cases hk
        · rcases spread_mem hl with ⟨k, hk⟩ | ⟨k, _, hk⟩
          · cases hk
          · simp at hk; omega
      obtain ⟨g', k1, k2, k3, k4, k5⟩ := hB (g := g1) (H := H1) (os := tlB os) (x := x.2) (i := i + 1) hs1 (by rw [e1.fl, e1.own]; exact h2) (fun l hl => by
        rw [hsame l (far l hl)]
        exact hf l (by simp only [spreadO, fsts_append]; exact List.mem_append_right _ hl))
      have eP : puts H (spreadO (.comp d) (id + rid) os (.pair A B) x i) = puts H1 (spreadO (.comp d) (id + rid) (tlB os) B x.2 (i + 1)) := by
        rw [hH1, ← puts_append]; rfl
      have hcv' : g'.cv d i = mkV A c1 := by rw [k1.ag.cv d i (by rw [hv]; exact hne), hcv]
      have hcc : (mkV A c1).cells.toList = c1 := by rw [cells_mkV hl ho]
      refine ⟨g', e1.trans k1 e2, by rw [eP]; exact k2, ?_, ?_, fun k hk => ?_⟩
      · simp only [aggCells]; rw [hcv', hcc, k3]
      · simp only [AggOk]
        rw [hcv', hcc]
        exact ⟨rfl, hl, ho, k4⟩
      · rw [eP]
        cases k with
        | zero =>
          show puts H1 (spreadO (.comp d) (id + rid) (tlB os) B x.2 (i + 1)) (.comp d i) ≠ .bot
          rw [puts_ne (fun hm => far _ hm (by
            unfold spread1
            cases hb : hdB os with
            | false => simp [cond, fsts]
            | true =>
              simp only [cond]
              split <;> simp [fsts]))]
          rw [hv]
          exact hne
        | succ k => rw [show i + (k + 1) = i + 1 + k from by omega]; exact k5 k (by simp [nf] at hk; omega)
    have hci : H (.comp d i) = .bot := hf _ (by
      simp only [spreadO, fsts_append]
      refine List.mem_append_left _ ?_
      unfold spread1
      cases hb : hdB os with
      | false => simp [cond, fsts]
      | true =>
        simp only [cond]
        split <;> simp [fsts])
    cases hb : hdB os with
    | false =>
      rw [hb] at h1
      have hC : CRep (view g.fl w) A c1 x.1 := by cases A <;> exact h1
      have hs1 := hs.setComp (d := d) (i := i) (v := .pv A x.1) (val := mkV A c1) hci SV.noConfusion trivial ⟨c1, hC, rfl⟩
      refine rest (g1 := { g with cv := fun d' i' => if d' = d ∧ i' = i then mkV A c1 else g.cv d' i' }) (H1 := updH H (.comp d i) (.pv A x.1)) (v := .pv A x.1) ⟨rfl, rfl, ⟨fun _ _ => rfl, fun _ _ => rfl, fun d' i' hne => ?_, rfl⟩⟩ (fun l hl => updH_ne_bot SV.noConfusion hl) hs1 (by rw [hb]; rfl) (updH_self _ _ _) SV.noConfusion (by simp) hC.length hC.ones fun l hl => ?_
      · by_cases e : d' = d ∧ i' = i
        · obtain ⟨rfl, rfl⟩ := e; exact absurd hci hne
        · simp [e]
      · rw [hb] at hl
        exact updH_ne _ _ fun e => hl (by simp [spread1, fsts, e])
    | true =>
      rw [hb] at h1
      cases A <;> first | exact h1.elim | skip
      rename_i e _
      obtain ⟨v, rfl, hr⟩ := h1
      have hbot : H (.row (id + rid + i)) = .bot := hf _ (by simp only [spreadO, fsts_append, hb, spread1, cond, fsts]; simp)
      have hA : GAgree H g { g with hd := updN g.hd (id + rid + i) v } := ⟨fun _ _ => rfl, fun r' hr' => updN_ne _ _ fun e => hr' (e ▸ hbot), fun _ _ _ => rfl, rfl⟩
      have hg := hs.grow hA (IV.le.refl _) (fun _ _ _ h => ⟨rfl, h, rfl⟩) (fun _ _ _ h => ⟨rfl, h, rfl⟩) hs.own hs.old hs.ext
      have hR : RowV g.fl g.own w v (.row (id + rid + i)) (pbO os (cntT B + 1)) e x.1 := by
        rcases hr with hr | ⟨o, ho, hr⟩
        · exact .inl hr
        · rw [hT _ _ ho, hsh, show id + (rid + i) = id + rid + i from by omega] at hr
          exact hr
      have hone : oneC v = true := by obtain ⟨ad, n, c, rfl⟩ := hR.oneC; rfl
      have hrow := hg.setRow (r := id + rid + i) (pub := pbO os (cntT B + 1)) (e := e) (l := x.1) (rowOk_iff.2 (by show RowV g.fl g.own w (updN g.hd (id + rid + i) v (id + rid + i)) _ _ _ _; rw [updN_self]; exact hR))
      have hcr : updH H (.row (id + rid + i)) (.row (pbO os (cntT B + 1)) e x.1) (.comp d i) = .bot := by rw [updH_ne _ _ (by simp)]; exact hci
      have hs1 := hrow.setComp (d := d) (i := i) (v := .hdr (id + rid + i)) (val := v) hcr SV.noConfusion (by simp only [RefOk]; rw [updH_self]; exact SV.noConfusion) (by simp [SR])
      refine rest (g1 := { g with hd := updN g.hd (id + rid + i) v, cv := fun d' i' => if d' = d ∧ i' = i then v else g.cv d' i' }) (H1 := updH (updH H (.row (id + rid + i)) (.row (pbO os (cntT B + 1)) e x.1)) (.comp d i) (.hdr (id + rid + i))) (v := .hdr (id + rid + i)) ⟨rfl, rfl, ⟨fun _ _ => rfl, fun r hr => hA.hd r hr, fun d' i' hne => ?_, rfl⟩⟩ (fun l hl => updH_ne_bot SV.noConfusion (updH_ne_bot SV.noConfusion hl)) hs1 (by rw [hb]; rfl) (updH_self _ _ _) SV.noConfusion (by simp [mkV, Ty.agg]) rfl (by simpa using hone) fun l hl => ?_
      · by_cases e' : d' = d ∧ i' = i
        · obtain ⟨rfl, rfl⟩ := e'; exact absurd hci hne
        · simp [e']
      · rw [hb] at hl
        simp only [spread1, cond, fsts, List.mem_cons, List.not_mem_nil, or_false, not_or] at hl
        rw [updH_ne _ _ hl.2, updH_ne _ _ hl.1]
  | _ => intro os cs x i g H _ h; cases os <;> exact h.elim
end
end Go.Sx
namespace Go.Sx
section
variable {C : Ctx} {S : Nat → SV} {a : Act} {w : World}

/-- places that a write makes are new -/
def FreshW (H : HLoc → SV) (ws : HW) : Prop := ∀ l ∈ fsts ws, (∀ n i, l ≠ .fld n i) → H l = .bot
def NoBot (ws : HW) : Prop := ∀ p ∈ ws, p.2 ≠ .bot
theorem puts_live : ∀ {ws : HW} {H : HLoc → SV} {l : HLoc}, NoBot ws → H l ≠ .bot → puts H ws l ≠ .bot
  | [], _, _, _, h => h
  | (m, v) :: r, H, l, hn, h => puts_live (ws := r) (fun p hp => hn p (by simp [hp])) (updH_ne_bot (hn (m, v) (by simp)) h)
theorem spread_nobot {mk : Nat → HLoc} {rid : Nat} : ∀ {t : Ty} {os : List Bool} {x : t.den} {i : Nat}, NoBot (spreadO mk rid os t x i) := by
  intro t
  induction t with
  | pair A B _ hB =>
    intro os x i p hp
    simp only [spreadO, List.mem_append] at hp
    rcases hp with hp | hp
    · unfold spread1 at hp
      cases hb : hdB os with
      | false => rw [hb] at hp; simp only [cond, List.mem_singleton] at hp; subst hp; exact SV.noConfusion
      | true =>
        rw [hb] at hp
        simp only [cond] at hp
        split at hp
        · simp only [List.mem_cons, List.not_mem_nil, or_false] at hp
          rcases hp with rfl | rfl <;> exact SV.noConfusion
        · simp only [List.mem_singleton] at hp; subst hp; exact SV.noConfusion
    · exact hB p hp
  | _ => intro os x i p hp; simp [spreadO] at hp

theorem resNew_ok {T : Own → Own → Prop} {sh : Own → Own} (hT : ∀ o t, T o t → o = sh t) {id base : Nat} (hsh : ∀ k, sh (.row k) = .row (id + k)) (hsb : sh (.site base) = .site (id + base)) {t : Ty} {os : List Bool} {x : (lay t).den} {v : SV} {ws : HW} {H0 : HLoc → SV} {fp fp' : List HLoc}
    (h : (resV (id + base) (.newobj t os) x).run H0 fp = some ((v, ws), fp')) {g : Gh} {H : HLoc → SV} (hs : SimG C g S H a w) {val : Value} (hr : Res1 T g.fl g.own w base (.newobj t os) val x) (hf : FreshW H ws) :
    ∃ g', NewG H g g' ∧ SimG C g' S (puts H ws) a w ∧ SR g' (view g'.fl w) v val ∧ RefOk (puts H ws) v ∧ NoBot ws ∧ v ≠ .bot := by
  obtain ⟨_, h⟩ := fresh_some h
  obtain ⟨_, fp1, k1, h⟩ := bind_some h
  obtain ⟨e1, _⟩ := ret_some h
  cases e1
  obtain ⟨b, cs, o, ho, hval, hblk, hob, hfl, hF⟩ := hr
  have hbot : H (.site (id + base)) = .bot := hf _ (by rw [fsts_append]; simp [fsts]) (fun _ _ => by simp)
  have hA : GAgree H g { g with st := updN g.st (id + base) b } := ⟨fun n hn => updN_ne _ _ fun e => hn (e ▸ hbot), fun _ _ => rfl, fun _ _ _ => rfl, rfl⟩
  have hg := hs.grow hA (IV.le.refl _) (fun n t hn h => by
      have : n ≠ id + base := fun e => by rw [e, hbot] at hn; cases hn
      exact ⟨rfl, h, rfl⟩) (fun _ _ _ h => ⟨rfl, h, rfl⟩) hs.own hs.old hs.ext
  obtain ⟨hd', k2, k3, k4⟩ := spread_ok (n := id + base) hT hsh hg (fun t' => by rw [hbot]; exact SV.noConfusion) hF fun r hr => hf _ (by rw [fsts_append]; exact List.mem_append_left _ hr) (fun _ _ => by simp)
  have hsite : puts H (spreadO (.fld (id + base)) (id + (base + 1)) os (lay t) x 0) (.site (id + base)) = .bot := by
    rw [puts_ne, hbot]
    intro hm
    rcases spread_mem hm with ⟨k, hk⟩ | ⟨k, _, hk⟩ <;> cases hk
  have hfin := k3.setSite (n := id + base) (t := t) ⟨cs, by
      show Blk w (updN g.st (id + base) b (id + base)) cs
      rw [updN_self]; exact hblk, by
      show g.own (updN g.st (id + base) b (id + base)) = _
      rw [updN_self, hob, hT _ _ ho, hsb], by
      show g.fl (updN g.st (id + base) b (id + base)) = 0
      rw [updN_self]; exact hfl, by
      exact objCells_lay.2 k4⟩
  refine ⟨{ g with st := updN g.st (id + base) b, hd := hd' }, ⟨rfl, rfl, ⟨hA.st, fun r hr => k2 r hr, fun _ _ _ => rfl, rfl⟩⟩, by rw [puts_append]; exact hfin, ?_, ?_, ?_, SV.noConfusion⟩
  · show val = .pointer (some ⟨updN g.st (id + base) b (id + base), 0, none⟩)
    rw [updN_self]; exact hval
  · show puts H _ _ ≠ _
    rw [puts_append]
    simp only [puts]; rw [updH_self]; exact SV.noConfusion
  · intro p hp
    rcases List.mem_append.1 hp with hp | hp
    · exact spread_nobot p hp
    · simp at hp; subst hp; exact SV.noConfusion
theorem res1_ok {T : Own → Own → Prop} {sh : Own → Own} (hT : ∀ o t, T o t → o = sh t) {id base : Nat} (hsh : ∀ k, sh (.row k) = .row (id + k)) (hsb : sh (.site base) = .site (id + base)) {r : RS} {x : r.ty.den} {v : SV} {ws : HW} {H0 : HLoc → SV} {fp fp' : List HLoc}
    (h : (resV (id + base) r x).run H0 fp = some ((v, ws), fp')) {g : Gh} {H : HLoc → SV} (hs : SimG C g S H a w) {val : Value} (hr : Res1 T g.fl g.own w base r val x) (hf : FreshW H ws) :
    ∃ g', NewG H g g' ∧ SimG C g' S (puts H ws) a w ∧ SR g' (view g'.fl w) v val ∧ RefOk (puts H ws) v ∧ NoBot ws ∧ v ≠ .bot := by
  cases r with
  | pure t =>
    obtain ⟨e, _⟩ := ret_some h
    cases e
    exact ⟨g, NewG.refl H g, hs, hr, trivial, fun p hp => by simp at hp, SV.noConfusion⟩
  | own pub e =>
    obtain ⟨_, h⟩ := fresh_some h
    obtain ⟨e1, _⟩ := ret_some h
    cases e1
    have hbot : H (.row (id + base)) = .bot := hf _ (by simp [fsts]) (fun _ _ => by simp)
    have hA : GAgree H g { g with hd := updN g.hd (id + base) val } := ⟨fun _ _ => rfl, fun r' hr' => updN_ne _ _ fun e => hr' (e ▸ hbot), fun _ _ _ => rfl, rfl⟩
    have hg := hs.grow hA (IV.le.refl _) (fun _ _ _ h => ⟨rfl, h, rfl⟩) (fun _ _ _ h => ⟨rfl, h, rfl⟩) hs.own hs.old hs.ext
    have hR : RowV g.fl g.own w val (.row (id + base)) pub e x := by
      rcases hr with hr | ⟨o, ho, hr⟩
      · exact .inl hr
      · rw [hT _ _ ho, hsh] at hr; exact hr
    have hrow := hg.setRow (r := id + base) (pub := pub) (e := e) (l := x) (rowOk_iff.2 (by show RowV g.fl g.own w (updN g.hd (id + base) val (id + base)) _ _ _ _; rw [updN_self]; exact hR))
    refine ⟨{ g with hd := updN g.hd (id + base) val }, ⟨rfl, rfl, hA⟩, hrow, ?_, ?_, ?_, SV.noConfusion⟩
    · show val = updN g.hd (id + base) val (id + base); rw [updN_self]
    · show puts H _ _ ≠ _
      simp only [puts]; rw [updH_self]; exact SV.noConfusion
    · intro p hp; simp at hp; subst hp; exact SV.noConfusion
  | newobj t os => exact resNew_ok hT hsh hsb h hs hr hf
  | maybe t os =>
    obtain ⟨b, y⟩ := x
    rcases hr with ⟨rfl, hv⟩ | ⟨rfl, hr⟩
    · obtain ⟨e, _⟩ := ret_some (show (Rd.ret (SV.nilp, ([] : HW))).run H0 fp = _ from h)
      cases e
      exact ⟨g, NewG.refl H g, hs, hv, trivial, fun p hp => by simp at hp, SV.noConfusion⟩
    · exact resNew_ok hT hsh hsb (show (resV (id + base) (.newobj t os) y).run H0 fp = _ from h) hs hr hf
  | deep e =>
    obtain ⟨_, h⟩ := fresh_some h
    obtain ⟨e1, _⟩ := ret_some h
    cases e1
    have hbot : H (.row (id + base)) = .bot := hf _ (by simp [fsts]) (fun _ _ => by simp)
    have hA : GAgree H g { g with hd := updN g.hd (id + base) val } := ⟨fun _ _ => rfl, fun r' hr' => updN_ne _ _ fun e => hr' (e ▸ hbot), fun _ _ _ => rfl, rfl⟩
    have hg := hs.grow hA (IV.le.refl _) (fun _ _ _ h => ⟨rfl, h, rfl⟩) (fun _ _ _ h => ⟨rfl, h, rfl⟩) hs.own hs.old hs.ext
    have hR : DeepV g.fl g.own w val (.row (id + base)) e x (List.length x) none := by
      rcases hr with ⟨h1, h2⟩ | ⟨o, ho, hr⟩
      · subst h2; exact ⟨Nat.le_refl _, fun k x h => (by cases h), .inl ⟨h1, rfl⟩⟩
      · rw [hT _ _ ho, hsh] at hr; exact hr
    have hrow := hg.setDeep (r := id + base) (e := e) (l := x) (n := List.length x) (h := none) (by show DeepV g.fl g.own w (updN g.hd (id + base) val (id + base)) _ _ _ _ _; rw [updN_self]; exact hR) fun _ _ h => by cases h
    refine ⟨{ g with hd := updN g.hd (id + base) val }, ⟨rfl, rfl, hA⟩, hrow, ?_, ?_, ?_, SV.noConfusion⟩
    · show val = updN g.hd (id + base) val (id + base); rw [updN_self]
    · show puts H _ _ ≠ _
      simp only [puts]; rw [updH_self]; exact SV.noConfusion
    · intro p hp; simp at hp; subst hp; exact SV.noConfusion
  | agg t os =>
    obtain ⟨_, fp1, k1, h⟩ := bind_some h
    obtain ⟨_, fp2, k2, h⟩ := bind_some h
    obtain ⟨e1, _⟩ := ret_some h
    cases e1
    obtain ⟨cs, rfl, hF⟩ := hr
    have hagg : t.agg = true := by cases t <;> first | rfl | (cases os <;> exact hF.elim)
    obtain ⟨g', n1, n2, n3, n4, n5⟩ := spreadC_ok (d := id + base) hT hsh hs hF (fun l hl => hf l hl fun n i e => by
      subst e
      rcases spread_mem hl with ⟨k, hk⟩ | ⟨k, _, hk⟩ <;> cases hk)
    refine ⟨g', n1, n2, ⟨hagg, by rw [n3], n4⟩, fun i hi => ?_, spread_nobot, SV.noConfusion⟩
    have := n5 i hi
    rwa [Nat.zero_add] at this

theorem resVs_ok {T : Own → Own → Prop} {sh : Own → Own} (hT : ∀ o t, T o t → o = sh t) {id : Nat} (hsh : ∀ k, sh (.row k) = .row (id + k)) (hsb : ∀ k, k < 81 → sh (.site k) = .site (id + k)) {ps : List PS} {P : (objsTy ps).den → Prop} {H0 : HLoc → SV} :
    ∀ {rs : List RS} {i : Nat} {x : (resTy rs ps).den} {q : HW × (objsTy ps).den} {fp fp' : List HLoc} {g : Gh} {H : HLoc → SV} {vals : List Value}, (resVs id ps rs x i).run H0 fp = some (q, fp') → SimG C g S H a w → RessX T g.fl g.own w i rs ps vals x P → FreshW H q.1 → (fsts q.1).Nodup → i + rs.length ≤ 4 →
      ∃ g', NewG H g g' ∧ SimG C g' S (puts H q.1) a w ∧ NoBot q.1 ∧ (∀ j v, vals[j]? = some v → g'.cv id (i + j) = v) ∧ vals.length = rs.length ∧ (∀ j, j < rs.length → puts H q.1 (.comp id (i + j)) ≠ .bot) ∧ P q.2 := by
  intro rs
  induction rs with
  | nil =>
    intro i x q fp fp' g H vals h hs hr _ _ _
    obtain ⟨e, _⟩ := ret_some h
    subst e
    obtain ⟨rfl, hP⟩ := hr
    exact ⟨g, NewG.refl H g, hs, fun p hp => by simp at hp, fun j v hj => by simp at hj, rfl, fun j hj => by simp at hj, hP⟩
  | cons r rs ih =>
    intro i x q fp fp' g H vals h hs hr hf hnd hle
    obtain ⟨_, h⟩ := fresh_some h
    obtain ⟨⟨v, ws⟩, fp1, k1, h⟩ := bind_some h
    obtain ⟨⟨ws2, z⟩, fp2, k2, h⟩ := bind_some h
    obtain ⟨e, _⟩ := ret_some h
    subst e
    cases vals with
    | nil => exact hr.elim
    | cons val vals =>
      obtain ⟨hr1, hr2⟩ := hr
      rw [show id + 1 + 20 * i = id + (1 + 20 * i) from by omega] at k1
      simp only [fsts_append, fsts] at hnd hf
      obtain ⟨n1, n2, n3⟩ := List.nodup_append.1 hnd
      obtain ⟨n4, n5⟩ := List.nodup_cons.1 n2
      obtain ⟨g1, a1, a2, a3, a4, a5, a6⟩ := res1_ok hT hsh (hsb _ (by simp at hle; omega)) k1 hs hr1 fun l hl hn => hf l (by simp [fsts_append, fsts, hl]) hn
      have hcomp : puts H ws (.comp id i) = .bot := by
        rw [puts_ne (fun hm => n3 _ hm _ (by simp) rfl)]
        exact hf _ (by simp [fsts_append, fsts]) (fun _ _ => by simp)
      have hs2 := a2.setComp (d := id) (i := i) hcomp a6 a4 a3
      have e2 : puts H (ws ++ (HLoc.comp id i, v) :: ws2) = puts (updH (puts H ws) (.comp id i) v) ws2 := by rw [puts_append]; rfl
      have hA2 : NewG (puts H ws) g1 { g1 with cv := fun d' i' => if d' = id ∧ i' = i then val else g1.cv d' i' } :=
        ⟨rfl, rfl, ⟨fun _ _ => rfl, fun _ _ => rfl, fun d' i' hne => by
          by_cases e : d' = id ∧ i' = i
          · obtain ⟨rfl, rfl⟩ := e; exact absurd hcomp hne
          · simp [e], rfl⟩⟩
      obtain ⟨g', b1, b2, b3, b4, b5, b6, b7⟩ := ih (vals := vals) k2 hs2 (by rw [show ({ g1 with cv := fun d' i' => if d' = id ∧ i' = i then val else g1.cv d' i' } : Gh).fl = g.fl from a1.fl, show ({ g1 with cv := fun d' i' => if d' = id ∧ i' = i then val else g1.cv d' i' } : Gh).own = g.own from a1.own]; exact hr2)
        (fun l hl hn => by
          have hlc : l ≠ HLoc.comp id i := fun e => by subst e; exact n4 hl
          rw [updH_ne _ _ hlc, puts_ne (fun hm => n3 l hm l (by simp [hl]) rfl)]
          exact hf l (by simp [fsts_append, fsts, hl]) hn) n5 (by simp at hle; omega)
      have hcv : g'.cv id i = val := by
        rw [b1.ag.cv id i (by rw [updH_self]; exact a6)]
        simp
      have live1 : ∀ l, H l ≠ .bot → updH (puts H ws) (.comp id i) v l ≠ .bot := fun l hl => updH_ne_bot a6 (puts_live a5 hl)
      refine ⟨g', (a1.trans hA2 fun l hl => puts_live a5 hl).trans b1 live1, by rw [e2]; exact b2, ?_, ?_, by simp [b5], ?_, b7⟩
      · intro p hp
        rcases List.mem_append.1 hp with hp | hp
        · exact a5 p hp
        · rcases List.mem_cons.1 hp with rfl | hp
          · exact a6
          · exact b3 p hp
      · intro j u hj
        cases j with
        | zero => simp at hj; subst hj; exact hcv
        | succ j => rw [show i + (j + 1) = i + 1 + j from by omega]; exact b4 j u (by simpa using hj)
      · intro j hj
        rw [e2]
        cases j with
        | zero => exact puts_live b3 (by rw [Nat.add_zero, updH_self]; exact a6)
        | succ j => rw [show i + (j + 1) = i + 1 + j from by omega]; exact b6 j (by simpa using hj)
theorem results_ok {T : Own → Own → Prop} {sh : Own → Own} (hT : ∀ o t, T o t → o = sh t) {id : Nat} (hsh : ∀ k, sh (.row k) = .row (id + k)) (hsb : ∀ k, k < 81 → sh (.site k) = .site (id + k)) {ps : List PS} {P : (objsTy ps).den → Prop} {H0 : HLoc → SV}
    {rs : List RS} {x : (resTy rs ps).den} {v : SV} {ws : HW} {z : (objsTy ps).den} {fp fp' : List HLoc} {g : Gh} {H : HLoc → SV} {vals : List Value} (h : (results id ps rs x).run H0 fp = some ((v, ws, z), fp')) (hs : SimG C g S H a w) (hr : RessX T g.fl g.own w 0 rs ps vals x P)
    (hf : FreshW H ws) (hnd : (fsts ws).Nodup) (hle : rs.length ≤ 4) :
    ∃ g', NewG H g g' ∧ SimG C g' S (puts H ws) a w ∧ NoBot ws ∧ SR g' (view g'.fl w) v (retV vals) ∧ RefOk (puts H ws) v ∧ P z := by
  have many : rs.length ≠ 1 → ((resVs id ps rs x 0).bind fun q => Rd.ret (SV.tup id rs.length, q.1, q.2)).run H0 fp = some ((v, ws, z), fp') →
      ∃ g', NewG H g g' ∧ SimG C g' S (puts H ws) a w ∧ NoBot ws ∧ SR g' (view g'.fl w) v (retV vals) ∧ RefOk (puts H ws) v ∧ P z := by
    intro h1 h
    obtain ⟨⟨ws', z'⟩, fp1, k1, h⟩ := bind_some h
    obtain ⟨e, _⟩ := ret_some h
    cases e
    obtain ⟨g', b1, b2, b3, b4, b5, b6, b7⟩ := resVs_ok hT hsh hsb k1 hs hr hf hnd (by omega)
    refine ⟨g', b1, b2, b3, ?_, fun i hi => by have := b6 i hi; rwa [Nat.zero_add] at this, b7⟩
    have hret : retV vals = .tuple vals.toArray := by
      match vals, b5 with
      | [], _ => rfl
      | [v], e => exact absurd e.symm h1
      | _ :: _ :: _, _ => rfl
    show retV vals = _
    rw [hret]
    congr 2
    apply List.ext_getElem?
    intro j
    rw [List.getElem?_map]
    by_cases hj : j < rs.length
    · have hj' : j < vals.length := by omega
      rw [List.getElem?_range hj, List.getElem?_eq_getElem hj']
      have := b4 j _ (List.getElem?_eq_getElem hj')
      rw [Nat.zero_add] at this
      simp [this]
    · rw [List.getElem?_eq_none (by omega), List.getElem?_eq_none (by simp; omega)]; rfl
  match rs, x, h, hr, many with
  | [], x, h, hr, many => exact many (by simp) h
  | [r], x, h, hr, many =>
    obtain ⟨⟨v1, ws1⟩, fp1, k1, h⟩ := bind_some h
    obtain ⟨e, _⟩ := ret_some h
    cases e
    match vals, hr with
    | [], hr => exact hr.elim
    | [val], ⟨hr1, _, hP⟩ =>
      obtain ⟨g', a1, a2, a3, a4, a5, a6⟩ := res1_ok (base := 1 + 20 * 0) hT hsh (hsb _ (by omega)) k1 hs hr1 hf
      exact ⟨g', a1, a2, a5, a3, a4, hP⟩
    | _ :: _ :: _, ⟨_, h2, _⟩ => simp at h2
  | r1 :: r2 :: rs, x, h, hr, many => exact many (by simp) h
end
end Go.Sx
namespace Go.Sx
section
variable {C : Ctx} {S : Nat → SV} {a : Act} {w : World}

/-- the objects and the rows that are handed in -/
def objSites : List PS → List SV → List Own
  | .obj _ _ :: r, .adr s _ :: vs => .site s :: objSites r vs
  | .pure _ :: r, _ :: vs => objSites r vs
  | .lent _ :: r, _ :: vs => objSites r vs
  | .nilp :: r, _ :: vs => objSites r vs
  | .fnc _ _ :: r, _ :: vs => objSites r vs
  | .box :: r, .adr s _ :: vs => .site s :: objSites r vs
  | .row _ :: r, .hdr q :: vs => .row q :: objSites r vs
  | _, _ => []
theorem backA_box_run {H : HLoc → SV} {r : List PS} {rid : Nat} {s : SV} {svs : List SV} {x : (objsTy r).den} {ws : HW} {fp fp' : List HLoc} (h : (backA rid (.box :: r) (s :: svs) x).run H fp = some (ws, fp')) :
    ∃ st off b2 o2 svs' ws2 fp1 fp2, s = .adr st off ∧ svs = .adr b2 o2 :: svs' ∧ (backA (rid + 20) r (.adr b2 o2 :: svs') x).run H fp1 = some (ws2, fp2) ∧ ws = (HLoc.fld st 0, SV.adr b2 o2) :: (HLoc.site st, SV.obj ptrTy) :: ws2 ∧ Own.site b2 ∈ objSites r (.adr b2 o2 :: svs') ∧ HLoc.site b2 ∈ fsts ws2 := by
  cases s with
  | adr st off =>
    cases svs with
    | nil => exact (fail_some (show (Rd.fail : Rd HW).run H fp = _ from h)).elim
    | cons s2 svs' =>
      cases s2 with
      | adr b2 o2 =>
        have h : (cond (headObj r) ((backA (rid + 20) r (.adr b2 o2 :: svs') x).bind fun ws => Rd.ret ((HLoc.fld st 0, SV.adr b2 o2) :: (HLoc.site st, SV.obj ptrTy) :: ws)) .fail).run H fp = some (ws, fp') := h
        cases r with
        | nil => exact (fail_some (show (Rd.fail : Rd HW).run H fp = _ from h)).elim
        | cons q r =>
          cases q with
          | obj t os =>
            obtain ⟨ws2, fp1, k1, h⟩ := bind_some (show ((backA (rid + 20) (.obj t os :: r) (.adr b2 o2 :: svs') x).bind _).run H fp = some (ws, fp') from h)
            obtain ⟨e, _⟩ := ret_some h
            refine ⟨st, off, b2, o2, svs', ws2, _, _, rfl, rfl, k1, e.symm ▸ rfl, by simp [objSites], ?_⟩
            obtain ⟨_, fp3, _, h⟩ := bind_some (show ((freshO (rid + 20) os 0).bind fun _ => (backA (rid + 20 + 20) r svs' x.2).bind fun ws => Rd.ret (spreadO (.fld b2) (rid + 20) os (lay t) x.1 0 ++ (HLoc.site b2, SV.obj t) :: ws)).run H fp = some (ws2, fp1) from k1)
            obtain ⟨ws3, fp4, _, h⟩ := bind_some h
            obtain ⟨e, _⟩ := ret_some h
            subst e
            simp [fsts_append, fsts]
          | _ => exact (fail_some (show (Rd.fail : Rd HW).run H fp = _ from h)).elim
      | _ => exact (fail_some (show (Rd.fail : Rd HW).run H fp = _ from h)).elim
  | _ => exact (fail_some (show (Rd.fail : Rd HW).run H fp = _ from h)).elim
theorem backA_row_run {H : HLoc → SV} {e : Ty} {r : List PS} {rid : Nat} {s : SV} {svs : List SV} {x : (objsTy (.row e :: r)).den} {ws : HW} {fp fp' : List HLoc} (h : (backA rid (.row e :: r) (s :: svs) x).run H fp = some (ws, fp')) :
    ∃ q ws2 fp1 fp2, s = .hdr q ∧ (backA (rid + 20) r svs x.2).run H fp1 = some (ws2, fp2) ∧ ws = (HLoc.row q, SV.row false e x.1) :: ws2 := by
  cases s with
  | hdr q =>
    obtain ⟨ws2, fp1, k1, h⟩ := bind_some (show ((backA (rid + 20) r svs x.2).bind _).run H fp = some (ws, fp') from h)
    obtain ⟨e, _⟩ := ret_some h
    exact ⟨q, ws2, _, _, rfl, k1, e⟩
  | _ => exact (fail_some (show (Rd.fail : Rd HW).run H fp = _ from h)).elim
theorem backA_rows {H : HLoc → SV} : ∀ {ps : List PS} {rid : Nat} {svs : List SV} {x : (objsTy ps).den} {ws : HW} {fp fp' : List HLoc}, (backA rid ps svs x).run H fp = some (ws, fp') → ∀ q, Own.row q ∈ objSites ps svs → HLoc.row q ∈ fsts ws := by
  intro ps
  induction ps with
  | nil => intro rid svs x ws fp fp' h q hq; simp [objSites] at hq
  | cons p ps ih =>
    intro rid svs x ws fp fp' h q hq
    cases svs with
    | nil => cases p <;> simp [objSites] at hq
    | cons s svs =>
      cases p with
      | pure t => exact ih (svs := svs) (x := x) h q (by simpa [objSites] using hq)
      | lent t => exact ih (svs := svs) (x := x) h q (by simpa [objSites] using hq)
      | nilp => exact ih (svs := svs) (x := x) h q (by simpa [objSites] using hq)
      | fnc f n => exact ih (svs := svs) (x := x) h q (by simpa [objSites] using hq)
      | box =>
        obtain ⟨st, off, b2, o2, svs', ws2, fp1, fp2, rfl, rfl, k2, rfl, hmem, hin⟩ := backA_box_run h
        have := ih k2 q (by simpa [objSites] using hq)
        simp [fsts, this]
      | row e =>
        obtain ⟨q', ws2, fp1, fp2, rfl, k2, rfl⟩ := backA_row_run h
        simp only [objSites, List.mem_cons, Own.row.injEq] at hq
        rcases hq with rfl | hq
        · simp [fsts]
        · have := ih k2 q hq
          simp [fsts, this]
      | obj t os =>
        cases s with
        | adr st off =>
          have h : ((freshO rid os 0).bind fun _ => (backA (rid + 20) ps svs x.2).bind fun ws => Rd.ret (spreadO (.fld st) rid os (lay t) x.1 0 ++ (HLoc.site st, SV.obj t) :: ws)).run H fp = some (ws, fp') := h
          obtain ⟨_, fp1, k1, h⟩ := bind_some h
          obtain ⟨ws2, fp2, k2, h⟩ := bind_some h
          obtain ⟨e, _⟩ := ret_some h
          subst e
          have := ih k2 q (by simpa [objSites] using hq)
          simp [fsts_append, fsts, this]
        | _ => exact (fail_some (show (Rd.fail : Rd HW).run H fp = _ from h)).elim
theorem backA_ok {T : Own → Own → Prop} {sh : Own → Own} (hT : ∀ o t, T o t → o = sh t) {id : Nat} (hsh : ∀ k, sh (.row k) = .row (id + k)) {H0 : HLoc → SV} {g0 : Gh} {iv0 : IV} :
    ∀ {ps : List PS} {svs : List SV} {vs : List Value} {j : Nat} {x : (objsTy ps).den} {ws : HW} {fp fp' : List HLoc} {g : Gh} {H : HLoc → SV}, (backA (id + 80 + 20 * j) ps svs x).run H0 fp = some (ws, fp') → SimG C g S H a w → ObjsX T g.fl g.own w j ps vs x →
      (∀ k s, (objSites ps svs)[k]? = some s → sh (.site (81 + 20 * (j + k))) = s) → svs.length = vs.length → (∀ (k : Nat) (s : SV) (v : Value), svs[k]? = some s → vs[k]? = some v → SR g0 iv0 s v) → (∀ s, Own.site s ∈ objSites ps svs → g.st s = g0.st s) → (∀ q, Own.row q ∈ objSites ps svs → H0 (.row q) ≠ .bot ∧ H (.row q) = .und ∧ g.hd q = g0.hd q) →
      (∀ l ∈ fsts ws, (∀ r, l = .row r → H0 l = .bot → H l = .bot) ∧ (∀ n, l = .site n → H l = .und)) → (fsts ws).Nodup →
      ∃ g', NewG H g g' ∧ SimG C g' S (puts H ws) a w ∧ NoBot ws := by
  intro ps
  induction ps with
  | nil =>
    intro svs vs j x ws fp fp' g H h hs _ _ _ _ _ _ _ _
    obtain ⟨e, _⟩ := ret_some (show (Rd.ret ([] : HW)).run H0 fp = _ from h)
    subst e
    exact ⟨g, NewG.refl H g, hs, fun p hp => by simp at hp⟩
  | cons p ps ih =>
    intro svs vs j x ws fp fp' g H h hs hx hss hl hv hst hrt hf hnd
    cases svs with
    | nil => cases p <;> exact (fail_some (show (Rd.fail : Rd HW).run H0 fp = _ from h)).elim
    | cons s svs =>
      cases vs with
      | nil => simp at hl
      | cons v vs =>
        cases p with
        | pure t =>
          exact ih (svs := svs) (vs := vs) (j := j) (x := x) h hs hx hss (by simpa using hl) (fun k s' v' h1 h2 => hv (k + 1) s' v' (by simpa using h1) (by simpa using h2)) hst hrt hf hnd
        | lent t =>
          exact ih (svs := svs) (vs := vs) (j := j) (x := x) h hs hx hss (by simpa using hl) (fun k s' v' h1 h2 => hv (k + 1) s' v' (by simpa using h1) (by simpa using h2)) hst hrt hf hnd
        | fnc f n =>
          exact ih (svs := svs) (vs := vs) (j := j) (x := x) h hs hx hss (by simpa using hl) (fun k s' v' h1 h2 => hv (k + 1) s' v' (by simpa using h1) (by simpa using h2)) hst hrt hf hnd
        | nilp =>
          exact ih (svs := svs) (vs := vs) (j := j) (x := x) h hs hx hss (by simpa using hl) (fun k s' v' h1 h2 => hv (k + 1) s' v' (by simpa using h1) (by simpa using h2)) hst hrt hf hnd
        | box =>
          obtain ⟨st, off, b2, o2, svs', ws2, fp1, fp2, rfl, rfl, k2, rfl, hmem, hin⟩ := backA_box_run h
          obtain ⟨⟨p, rest, rfl, b, o, ho, hval, hblk, hob, hfl⟩, hx2⟩ := hx
          simp only [fsts] at hnd
          obtain ⟨n1, n2⟩ := List.nodup_cons.1 hnd
          obtain ⟨n3, n4⟩ := List.nodup_cons.1 n2
          have hsite : H (.site st) = .und := (hf (.site st) (by simp [fsts])).2 st rfl
          have hb : b = g.st st := by
            have h1 : v = .pointer (some ⟨g0.st st, off, none⟩) := hv 0 _ _ rfl rfl
            rw [hst st (by simp [objSites])]
            rw [hval] at h1
            simpa using (by simpa using h1 : b = g0.st st ∧ 0 = off).1
          subst hb
          have hp : p = Value.pointer (some ⟨g.st b2, o2, none⟩) := by
            rw [hst b2 (by simp [objSites, hmem])]
            exact hv 1 (.adr b2 o2) p rfl rfl
          have hlive2 : H (.site b2) ≠ .bot := by
            rw [(hf (.site b2) (by simp [fsts, hin])).2 b2 rfl]; exact SV.noConfusion
          have hs1 := hs.setFld (n := st) (i := 0) (v := .adr b2 o2) (fun t' => by rw [hsite]; exact SV.noConfusion) SV.noConfusion hlive2
          have hfin := hs1.setSite (n := st) (t := ptrTy) ⟨[p], hblk, by
            show g.own (g.st st) = _
            rw [hob, hT _ _ ho]
            have := hss 0 (.site st) (by simp [objSites])
            rw [Nat.add_zero] at this
            rw [this], hfl, p, rfl, by rw [hp]; rfl, by
              show SR g (view g.fl w) (updH H (.fld st 0) (.adr b2 o2) (.fld st 0)) p
              rw [updH_self]; exact hp⟩
          have live1 : ∀ l, H l ≠ .bot → updH (updH H (.fld st 0) (.adr b2 o2)) (.site st) (.obj ptrTy) l ≠ .bot := fun l hl => updH_ne_bot SV.noConfusion (updH_ne_bot SV.noConfusion hl)
          obtain ⟨g', c1, c2, c3⟩ := ih (svs := .adr b2 o2 :: svs') (vs := p :: rest) (j := j + 1) (x := x) (by rw [show id + 80 + 20 * (j + 1) = id + 80 + 20 * j + 20 from by omega]; exact k2) hfin hx2
            (fun k s' hk => by have := hss (k + 1) s' (by simpa [objSites] using hk); rwa [show j + (k + 1) = j + 1 + k from by omega] at this) (by simpa using hl) (fun k s' v' h1 h2 => hv (k + 1) s' v' (by simpa using h1) (by simpa using h2))
            (fun s' hs' => hst s' (by simp [objSites, hs'])) (fun q hq => by
              obtain ⟨y1, y2, y3⟩ := hrt q (by simp [objSites, hq])
              exact ⟨y1, by rw [updH_ne _ _ (by simp), updH_ne _ _ (by simp)]; exact y2, y3⟩) (fun l hl' => by
              have e1 : l ≠ HLoc.site st := fun e => by subst e; exact n3 hl'
              have e2 : l ≠ HLoc.fld st 0 := fun e => by subst e; exact n1 (List.mem_cons_of_mem _ hl')
              rw [updH_ne _ _ e1, updH_ne _ _ e2]
              exact hf l (by simp [fsts, hl'])) n4
          refine ⟨g', NewG.trans (g' := g) (H' := updH (updH H (.fld st 0) (.adr b2 o2)) (.site st) (.obj ptrTy)) (NewG.refl H g) c1 live1, c2, ?_⟩
          intro q hq
          rcases List.mem_cons.1 hq with rfl | hq
          · exact SV.noConfusion
          · rcases List.mem_cons.1 hq with rfl | hq
            · exact SV.noConfusion
            · exact c3 q hq
        | row e =>
          obtain ⟨q, ws2, fp1, fp2, rfl, k2, rfl⟩ := backA_row_run h
          obtain ⟨hrow, hx2⟩ := hx
          simp only [fsts] at hnd
          obtain ⟨n1, n2⟩ := List.nodup_cons.1 hnd
          obtain ⟨y1, y2, y3⟩ := hrt q (by simp [objSites])
          have hval : v = g.hd q := by rw [y3]; exact hv 0 _ _ rfl rfl
          have hro : RowOk g w q false e x.1 := rowOk_iff.2 (by
            rcases hrow with ⟨h1, h2⟩ | ⟨o, ho, h1⟩
            · exact .inl ⟨hval ▸ h1, h2⟩
            · have := hss 0 (.row q) (by simp [objSites])
              rw [Nat.add_zero] at this
              rw [← hval, ← this, ← hT _ _ ho]; exact h1)
          have hfin := hs.setRow hro
          have live1 : ∀ l, H l ≠ .bot → updH H (.row q) (.row false e x.1) l ≠ .bot := fun l hl => updH_ne_bot SV.noConfusion hl
          have hin : ∀ q', Own.row q' ∈ objSites ps svs → q' ≠ q := fun q' hq' e => n1 (by subst e; exact backA_rows k2 _ hq')
          obtain ⟨g', c1, c2, c3⟩ := ih (svs := svs) (vs := vs) (j := j + 1) (x := x.2) (by rw [show id + 80 + 20 * (j + 1) = id + 80 + 20 * j + 20 from by omega]; exact k2) hfin hx2
            (fun k s' hk => by have := hss (k + 1) s' (by simpa [objSites] using hk); rwa [show j + (k + 1) = j + 1 + k from by omega] at this) (by simpa using hl) (fun k s' v' h1 h2 => hv (k + 1) s' v' (by simpa using h1) (by simpa using h2))
            (fun s' hs' => hst s' (by simp [objSites, hs'])) (fun q' hq' => by
              obtain ⟨z1, z2, z3⟩ := hrt q' (by simp [objSites, hq'])
              exact ⟨z1, by rw [updH_ne _ _ (by simp; exact hin q' hq')]; exact z2, z3⟩) (fun l hl' => by
              have e1 : l ≠ HLoc.row q := fun e => by subst e; exact n1 hl'
              rw [updH_ne _ _ e1]
              exact hf l (by simp [fsts, hl'])) n2
          refine ⟨g', NewG.trans (g' := g) (H' := updH H (.row q) (.row false e x.1)) (NewG.refl H g) c1 live1, c2, ?_⟩
          intro p hp
          rcases List.mem_cons.1 hp with rfl | hp
          · exact SV.noConfusion
          · exact c3 p hp
        | obj t os =>
          cases s with
          | adr st off =>
            have h : ((freshO (id + 80 + 20 * j) os 0).bind fun _ => (backA (id + 80 + 20 * j + 20) ps svs x.2).bind fun ws => Rd.ret (spreadO (.fld st) (id + 80 + 20 * j) os (lay t) x.1 0 ++ (HLoc.site st, SV.obj t) :: ws)).run H0 fp = some (ws, fp') := h
            obtain ⟨_, fp1, k1, h⟩ := bind_some h
            obtain ⟨ws2, fp2, k2, h⟩ := bind_some h
            obtain ⟨e, _⟩ := ret_some h
            subst e
            obtain ⟨⟨b, cs, o, ho, hval, hblk, hob, hfl, hF⟩, hx2⟩ := hx
            simp only [fsts_append, fsts] at hnd
            obtain ⟨n1, n2, n3⟩ := List.nodup_append.1 hnd
            obtain ⟨n4, n5⟩ := List.nodup_cons.1 n2
            have hsite : H (.site st) = .und := (hf (.site st) (by simp [fsts_append, fsts])).2 st rfl
            rw [show id + 80 + 20 * j = id + (80 + 20 * j) from by omega] at k1 n1 n3 ⊢
            have hfresh : ∀ r, HLoc.row r ∈ fsts (spreadO (.fld st) (id + (80 + 20 * j)) os (lay t) x.1 0) → H0 (.row r) = .bot := fun r hr => by
              rcases spread_mem hr with ⟨k, hk⟩ | ⟨k, hk1, hk⟩
              · cases hk
              · rw [hk]; exact freshO_ok k1 k hk1
            obtain ⟨hd', q1, q2, q3⟩ := spread_ok (n := st) hT hsh hs (fun t' => by rw [hsite]; exact SV.noConfusion) hF fun r hr => (hf (.row r) (by rw [fsts_append, show id + 80 + 20 * j = id + (80 + 20 * j) from by omega]; exact List.mem_append_left _ hr)).1 r rfl (hfresh r hr)
            have hb : b = g.st st := by
              have h1 : v = .pointer (some ⟨g0.st st, off, none⟩) := hv 0 _ _ rfl rfl
              rw [hst st (by simp [objSites])]
              rw [hval] at h1
              simpa using (by simpa using h1 : b = g0.st st ∧ 0 = off).1
            subst hb
            have hfin := q2.setSite (n := st) (t := t) ⟨cs, hblk, by
              show g.own (g.st st) = _
              rw [hob, hT _ _ ho]
              have := hss 0 (.site st) (by simp [objSites])
              rw [Nat.add_zero] at this
              rw [this], hfl, objCells_lay.2 q3⟩
            have live1 : ∀ l, H l ≠ .bot → updH (puts H (spreadO (.fld st) (id + (80 + 20 * j)) os (lay t) x.1 0)) (.site st) (.obj t) l ≠ .bot := fun l hl => updH_ne_bot SV.noConfusion (puts_live spread_nobot hl)
            obtain ⟨g', b1, b2, b3⟩ := ih (svs := svs) (vs := vs) (j := j + 1) (x := x.2) (by rw [show id + 80 + 20 * (j + 1) = id + 80 + 20 * j + 20 from by omega]; exact k2) hfin hx2
              (fun k s' hk => by have := hss (k + 1) s' (by simpa [objSites] using hk); rwa [show j + (k + 1) = j + 1 + k from by omega] at this) (by simpa using hl) (fun k s' v' h1 h2 => hv (k + 1) s' v' (by simpa using h1) (by simpa using h2))
              (fun s' hs' => hst s' (by simp [objSites, hs'])) (fun q hq => by
                obtain ⟨y1, y2, y3⟩ := hrt q (by simp [objSites, hq])
                have e2 : HLoc.row q ∉ fsts (spreadO (.fld st) (id + (80 + 20 * j)) os (lay t) x.1 0) := fun hm => y1 (hfresh q hm)
                exact ⟨y1, by rw [updH_ne _ _ (by simp), puts_ne e2]; exact y2, (q1 q (by rw [y2]; exact SV.noConfusion)).trans y3⟩) (fun l hl' => by
                have e1 : l ≠ HLoc.site st := fun e => by subst e; exact n4 hl'
                have e2 : l ∉ fsts (spreadO (.fld st) (id + (80 + 20 * j)) os (lay t) x.1 0) := fun hm => n3 l hm l (by simp [hl']) rfl
                rw [updH_ne _ _ e1, puts_ne e2]
                exact hf l (by simp [fsts_append, fsts, hl'])) n5
            refine ⟨g', NewG.trans (g' := { g with hd := hd' }) (H' := updH (puts H (spreadO (.fld st) (id + (80 + 20 * j)) os (lay t) x.1 0)) (.site st) (.obj t)) ⟨rfl, rfl, ⟨fun _ _ => rfl, fun r hr => q1 r hr, fun _ _ _ => rfl, rfl⟩⟩ b1 live1, by rw [puts_append]; exact b2, ?_⟩
            intro p hp
            rcases List.mem_append.1 hp with hp | hp
            · exact spread_nobot p hp
            · rcases List.mem_cons.1 hp with rfl | hp
              · exact SV.noConfusion
              · exact b3 p hp
          | _ => exact (fail_some (show (Rd.fail : Rd HW).run H0 fp = _ from h)).elim

theorem pickSig_mem : ∀ {l : List Sig} {vs : List SV} {sg : Sig}, pickSig l vs = some sg → sg ∈ l
  | [], _, _, h => by simp [pickSig] at h
  | s :: r, vs, sg, h => by
    simp only [pickSig] at h
    cases hb : sigFits s.ps vs with
    | true => rw [hb] at h; simp at h; simp [h]
    | false => rw [hb] at h; exact List.mem_cons_of_mem _ (pickSig_mem h)
theorem undW_fsts : ∀ l : List HLoc, fsts (undW l) = l
  | [] => rfl
  | a :: r => by simp [undW, fsts, undW_fsts r]
theorem undW_get : ∀ {l : List HLoc} {H : HLoc → SV} {x : HLoc}, x ∈ l → puts H (undW l) x = .und
  | a :: r, H, x, h => by
    simp only [undW, puts]
    by_cases hx : x ∈ r
    · exact undW_get hx
    · rw [puts_ne (by rw [undW_fsts]; exact hx)]
      rcases List.mem_cons.1 h with rfl | h
      · exact updH_self _ _ _
      · exact absurd h hx
theorem SimG.drops : ∀ {m : List (Own × Own)} {g : Gh} {H : HLoc → SV}, SimG C g S H a w → SimG C g S (puts H (undW (m.map fun p => locO p.1))) a w
  | [], _, _, hs => hs
  | p :: r, g, H, hs => by
    have : SimG C g S (updH H (locO p.1) .und) a w := hs.drop (by
      cases p.1 with
      | site n => exact .inl ⟨n, rfl⟩
      | row n => exact .inr ⟨n, rfl⟩)
    exact SimG.drops (m := r) this
theorem collA_sites {H : HLoc → SV} : ∀ {ps : List PS} {svs : List SV} {q : (argTy ps).den × HW × List HLoc} {fp fp' : List HLoc}, (collA ps svs).run H fp = some (q, fp') → ∀ s ∈ objSites ps svs, locO s ∈ q.2.2 := by
  intro ps
  induction ps with
  | nil => intro svs q fp fp' _ s hs; simp [objSites] at hs
  | cons p ps ih =>
    intro svs q fp fp' h s hs
    cases svs with
    | nil => cases p <;> simp [objSites] at hs
    | cons v svs =>
      cases p with
      | pure t =>
        rw [collA_pure] at h
        obtain ⟨y, fp1, k1, h⟩ := bind_some h
        obtain ⟨z, fp2, k2, h⟩ := bind_some h
        obtain ⟨e, _⟩ := ret_some h
        subst e
        exact ih k2 s (by simpa [objSites] using hs)
      | lent t =>
        rw [collA_lent] at h
        obtain ⟨y, fp1, k1, h⟩ := bind_some h
        obtain ⟨z, fp2, k2, h⟩ := bind_some h
        obtain ⟨e, _⟩ := ret_some h
        subst e
        exact ih k2 s (by simpa [objSites] using hs)
      | nilp =>
        rw [collA_nilp] at h
        cases v <;> first | exact (fail_some h).elim | skip
        exact ih h s (by simpa [objSites] using hs)
      | fnc f n =>
        rw [collA_fnc] at h
        cases v <;> first | exact (fail_some h).elim | skip
        rename_i f' d n'
        simp only at h
        cases hb : cond (Nat.beq f f') (Nat.beq n n') false with
        | false => rw [hb] at h; exact (fail_some h).elim
        | true =>
          rw [hb] at h
          exact ih h s (by simpa [objSites] using hs)
      | box =>
        obtain ⟨z, hw, d⟩ := q
        obtain ⟨st, b, o, svs', fp1, fp2, z2, hw2, d2, rfl, rfl, _, _, k3, rfl, rfl, rfl⟩ := collA_box_run h
        simp only [objSites, List.mem_cons] at hs
        rcases hs with rfl | hs
        · simp [locO]
        · have := ih k3 s hs; simp [this]
      | row e =>
        obtain ⟨z, hw, d⟩ := q
        obtain ⟨q, l, fp1, fp2, z2, d2, rfl, _, k3, rfl, rfl⟩ := collA_row_run h
        simp only [objSites, List.mem_cons] at hs
        rcases hs with rfl | hs
        · simp [locO]
        · have := ih k3 s hs; simp [this]
      | obj t os =>
        rw [collA_obj] at h
        cases v <;> first | exact (fail_some h).elim | skip
        rename_i st off
        simp only at h
        cases hoff : Nat.beq off 0 with
        | false => rw [hoff] at h; exact (fail_some h).elim
        | true =>
          rw [hoff] at h
          simp only [cond, Rd.run] at h
          split at h
          · rename_i t' hobj
            cases hb : t'.beq t with
            | false => rw [hb] at h; exact (fail_some h).elim
            | true =>
              rw [hb] at h
              simp only [cond] at h
              obtain ⟨y, fp1, k1, h⟩ := bind_some h
              obtain ⟨d, fp2, k2, h⟩ := bind_some h
              obtain ⟨z, fp3, k3, h⟩ := bind_some h
              obtain ⟨e, _⟩ := ret_some h
              subst e
              simp only [objSites, List.mem_cons] at hs
              rcases hs with rfl | hs
              · simp [locO]
              · have := ih k3 s hs; simp [this]
          · exact (fail_some h).elim
end
end Go.Sx
namespace Go.Sx
section
variable {C : Ctx} {S : Nat → SV} {a : Act} {w : World}

theorem spread_fresh {H : HLoc → SV} {n rid : Nat} {t : Ty} {os : List Bool} {x : t.den} {fp fp' : List HLoc} {u : Unit} (h : (freshO rid os 0).run H fp = some (u, fp')) : FreshW H (spreadO (.fld n) rid os t x 0) := by
  intro l hl hn
  rcases spread_mem hl with ⟨k, rfl⟩ | ⟨k, hk, rfl⟩
  · exact absurd rfl (hn _ _)
  · exact freshO_ok h k hk
theorem FreshW.append {H : HLoc → SV} {a b : HW} (h1 : FreshW H a) (h2 : FreshW H b) : FreshW H (a ++ b) := by
  intro l hl hn
  rw [fsts_append] at hl
  rcases List.mem_append.1 hl with hl | hl
  · exact h1 l hl hn
  · exact h2 l hl hn
theorem FreshW.one {H : HLoc → SV} {l : HLoc} {v : SV} (h : H l = .bot) : FreshW H [(l, v)] := by
  intro m hm _
  simp only [fsts, List.mem_singleton] at hm
  rw [hm]; exact h
theorem resNew_fresh {H : HLoc → SV} {rid : Nat} {t : Ty} {os : List Bool} {x : (lay t).den} {q : SV × HW} {fp fp' : List HLoc} (h : (resV rid (.newobj t os) x).run H fp = some (q, fp')) : FreshW H q.2 := by
  obtain ⟨h1, h⟩ := fresh_some h
  obtain ⟨_, fp1, k1, h⟩ := bind_some h
  obtain ⟨e, _⟩ := ret_some h
  subst e
  exact (spread_fresh k1).append (FreshW.one h1)
theorem freshP_ok {H : HLoc → SV} {rid : Nat} : ∀ {n i : Nat} {fp fp' : List HLoc} {u : Unit}, (freshP rid n i).run H fp = some (u, fp') → ∀ k, k < n → H (.comp rid (i + k)) = .bot
  | 0, _, _, _, _, _, k, hk => by omega
  | n + 1, i, fp, fp', u, h, k, hk => by
    obtain ⟨h1, h2⟩ := fresh_some h
    cases k with
    | zero => exact h1
    | succ k =>
      have := freshP_ok h2 k (by omega)
      rwa [show i + 1 + k = i + (k + 1) from by omega] at this
theorem spread_at {d rid : Nat} : ∀ {t : Ty} {os : List Bool} {x : t.den} {i : Nat} {l : HLoc}, l ∈ fsts (spreadO (.comp d) rid os t x i) → ∀ k, l = .comp d (i + k) → k < cntT t := by
  intro t
  induction t with
  | pair A B _ hB =>
    intro os x i l hl k hk
    subst hk
    simp only [spreadO, fsts_append, List.mem_append] at hl
    rcases hl with hl | hl
    · have : k = 0 := by
        unfold spread1 at hl
        cases hb : hdB os with
        | false =>
          rw [hb] at hl
          simp only [cond, fsts, List.mem_singleton, HLoc.comp.injEq] at hl
          omega
        | true =>
          rw [hb] at hl
          simp only [cond] at hl
          split at hl
          · simp [fsts] at hl; omega
          · simp [fsts] at hl; omega
      subst this
      simp [cntT]
    · cases k with
      | zero => simp [cntT]
      | succ k =>
        have := hB hl k (by congr 1; omega)
        simp only [cntT]; omega
  | _ => intro os x i l hl; simp [spreadO, fsts] at hl
theorem resV_fresh {H : HLoc → SV} {rid : Nat} {r : RS} {x : r.ty.den} {q : SV × HW} {fp fp' : List HLoc} (h : (resV rid r x).run H fp = some (q, fp')) : FreshW H q.2 := by
  cases r with
  | pure t => obtain ⟨e, _⟩ := ret_some h; subst e; intro l hl; simp [fsts] at hl
  | own pub e =>
    obtain ⟨h1, h⟩ := fresh_some h
    obtain ⟨e, _⟩ := ret_some h
    subst e
    exact FreshW.one h1
  | deep e =>
    obtain ⟨h1, h⟩ := fresh_some h
    obtain ⟨e, _⟩ := ret_some h
    subst e
    exact FreshW.one h1
  | agg t os =>
    obtain ⟨_, fp1, k1, h⟩ := bind_some h
    obtain ⟨_, fp2, k2, h⟩ := bind_some h
    obtain ⟨e, _⟩ := ret_some h
    subst e
    intro l hl _
    have hlen := spread_at hl
    rcases spread_mem hl with ⟨k, rfl⟩ | ⟨k, hk, rfl⟩
    · exact freshP_ok k2 k (hlen k rfl)
    · exact freshO_ok k1 k hk
  | newobj t os => exact resNew_fresh h
  | maybe t os =>
    obtain ⟨b, y⟩ := x
    cases b with
    | false => obtain ⟨e, _⟩ := ret_some (show (Rd.ret (SV.nilp, ([] : HW))).run H fp = _ from h); subst e; intro l hl; simp [fsts] at hl
    | true => exact resNew_fresh (show (resV rid (.newobj t os) y).run H fp = _ from h)
theorem resVs_fresh {H : HLoc → SV} {id : Nat} {ps : List PS} : ∀ {rs : List RS} {i : Nat} {x : (resTy rs ps).den} {q : HW × (objsTy ps).den} {fp fp' : List HLoc}, (resVs id ps rs x i).run H fp = some (q, fp') → FreshW H q.1 := by
  intro rs
  induction rs with
  | nil => intro i x q fp fp' h; obtain ⟨e, _⟩ := ret_some h; subst e; intro l hl; simp [fsts] at hl
  | cons r rs ih =>
    intro i x q fp fp' h
    obtain ⟨h1, h⟩ := fresh_some h
    obtain ⟨p, fp1, k1, h⟩ := bind_some h
    obtain ⟨q2, fp2, k2, h⟩ := bind_some h
    obtain ⟨e, _⟩ := ret_some h
    subst e
    exact (resV_fresh k1).append (FreshW.append (a := [_]) (FreshW.one h1) (ih k2))
theorem results_fresh {H : HLoc → SV} {id : Nat} {ps : List PS} {rs : List RS} {x : (resTy rs ps).den} {q : SV × HW × (objsTy ps).den} {fp fp' : List HLoc} (h : (results id ps rs x).run H fp = some (q, fp')) : FreshW H q.2.1 := by
  have many : ((resVs id ps rs x 0).bind fun q => Rd.ret (SV.tup id rs.length, q.1, q.2)).run H fp = some (q, fp') → FreshW H q.2.1 := by
    intro h
    obtain ⟨q2, fp1, k1, h⟩ := bind_some h
    obtain ⟨e, _⟩ := ret_some h
    subst e
    exact resVs_fresh k1
  match rs, x, h, many with
  | [], x, h, many => exact many h
  | [r], x, h, many =>
    obtain ⟨p, fp1, k1, h⟩ := bind_some h
    obtain ⟨e, _⟩ := ret_some h
    subst e
    exact resV_fresh k1
  | r1 :: r2 :: rs, x, h, many => exact many h
theorem backA_fresh {H : HLoc → SV} : ∀ {ps : List PS} {rid : Nat} {svs : List SV} {x : (objsTy ps).den} {ws : HW} {fp fp' : List HLoc}, (backA rid ps svs x).run H fp = some (ws, fp') →
    ∀ l ∈ fsts ws, (∀ n, l = .site n → Own.site n ∈ objSites ps svs) ∧ ∀ d i, l ≠ .comp d i := by
  intro ps
  induction ps with
  | nil =>
    intro rid svs x ws fp fp' h
    obtain ⟨e, _⟩ := ret_some (show (Rd.ret ([] : HW)).run H fp = _ from h)
    subst e
    intro l hl; simp [fsts] at hl
  | cons p ps ih =>
    intro rid svs x ws fp fp' h
    cases svs with
    | nil => cases p <;> exact (fail_some (show (Rd.fail : Rd HW).run H fp = _ from h)).elim
    | cons s svs =>
      cases p with
      | pure t => exact ih (svs := svs) (x := x) h
      | lent t => exact ih (svs := svs) (x := x) h
      | nilp => exact ih (svs := svs) (x := x) h
      | fnc f n => exact ih (svs := svs) (x := x) h
      | box =>
        obtain ⟨st, off, b2, o2, svs', ws2, fp1, fp2, rfl, rfl, k2, rfl, hmem, hin⟩ := backA_box_run h
        intro l hl
        simp only [fsts, List.mem_cons] at hl
        rcases hl with rfl | rfl | hl
        · exact ⟨fun n e => (by cases e), fun d i e => (by cases e)⟩
        · exact ⟨fun n e => (by cases e; simp [objSites]), fun d i e => (by cases e)⟩
        · obtain ⟨a2, a3⟩ := ih k2 l hl
          exact ⟨fun n e => by simp [objSites, a2 n e], a3⟩
      | row e =>
        obtain ⟨q, ws2, fp1, fp2, rfl, k2, rfl⟩ := backA_row_run h
        intro l hl
        simp only [fsts, List.mem_cons] at hl
        rcases hl with rfl | hl
        · exact ⟨fun n e => (by cases e), fun d i e => (by cases e)⟩
        · obtain ⟨a2, a3⟩ := ih k2 l hl
          exact ⟨fun n e => by simp [objSites, a2 n e], a3⟩
      | obj t os =>
        cases s with
        | adr st off =>
          have h : ((freshO rid os 0).bind fun _ => (backA (rid + 20) ps svs x.2).bind fun ws => Rd.ret (spreadO (.fld st) rid os (lay t) x.1 0 ++ (HLoc.site st, SV.obj t) :: ws)).run H fp = some (ws, fp') := h
          obtain ⟨_, fp1, k1, h⟩ := bind_some h
          obtain ⟨ws2, fp2, k2, h⟩ := bind_some h
          obtain ⟨e, _⟩ := ret_some h
          subst e
          intro l hl
          simp only [fsts_append, fsts, List.mem_append, List.mem_cons] at hl
          rcases hl with hl | rfl | hl
          · refine ⟨fun n e => ?_, fun d i e => ?_⟩
            · rcases spread_mem hl with ⟨k, hk⟩ | ⟨k, _, hk⟩ <;> rw [e] at hk <;> cases hk
            · rcases spread_mem hl with ⟨k, hk⟩ | ⟨k, _, hk⟩ <;> rw [e] at hk <;> cases hk
          · exact ⟨fun n e => (by cases e; simp [objSites]), fun d i e => (by cases e)⟩
          · obtain ⟨a2, a3⟩ := ih k2 l hl
            exact ⟨fun n e => by simp [objSites, a2 n e], a3⟩
        | _ => exact (fail_some (show (Rd.fail : Rd HW).run H fp = _ from h)).elim
end
end Go.Sx
namespace Go.Sx
theorem lookO_none' {o : Own} : ∀ {m : List (Own × Own)} {base : Own → Option Own}, lookO m base o ≠ base o → ∃ t, (o, t) ∈ m
  | [], _, h => absurd rfl h
  | (x, y) :: r, base, h => by
    unfold lookO at h
    by_cases e : o = x
    · exact ⟨y, by simp [e]⟩
    · rw [if_neg e] at h
      obtain ⟨t, ht⟩ := lookO_none' h
      exact ⟨t, by simp [ht]⟩
/-- labels behind a call -/
def shO (id : Nat) (sites : List Own) : Own → Own
  | .row k => .row (id + k)
  | .site k => cond (Nat.blt k 81) (.site (id + k)) (sites.getD ((k - 81) / 20) (.site 0))
theorem run_callFunc {P : Program} {f : FuncId} {fn : Func} (h1 : P.funcs[f]? = some fn) (h2 : fn.body.isNone = false) (h3 : (fn.name == "runtime.NumGoroutine") = false) (args : Array Value) (w : World) : (callFunc f args).run P w = .ok (.enter f args) w := by
  have h3' : fn.name ≠ "runtime.NumGoroutine" := by simpa using h3
  have h2' : fn.body ≠ none := fun e => by rw [e] at h2; exact Bool.noConfusion h2
  simp [callFunc, h1, h2', h3']
/-- an argument that points to a variable which holds a pointer -/
def BoxAt (H : HLoc → SV) (s : SV) : Prop := ∃ st off b o, s = .adr st off ∧ H (.site st) = .obj ptrTy ∧ H (.fld st 0) = .adr b o
theorem gatherO_box {H : HLoc → SV} {mk : Nat → HLoc} {b o : Nat} (hb : H (mk 0) = .adr b o) {os : List Bool} {fp fp' : List HLoc} {q : (lay ptrTy).den × HW} (h : (gatherO mk os (lay ptrTy) 0).run H fp = some (q, fp')) : False := by
  have h : ((cond (hdB os) (cond (pbO os 1) (toPV0 ptrTy (H (mk 0))) (privV ptrTy (H (mk 0)))) (toPV0 ptrTy (H (mk 0)))).bind fun p => (gatherO mk (tlB os) Ty.unit 1).bind fun q => Rd.ret (((p.1, q.1) : ptrTy.den × Unit), p.2 ++ q.2)).run H (mk 0 :: fp) = some (q, fp') := h
  rw [hb] at h
  obtain ⟨y, fp1, k1, _⟩ := bind_some h
  have e : (cond (hdB os) (cond (pbO os 1) (toPV0 ptrTy (SV.adr b o)) (privV ptrTy (SV.adr b o))) (toPV0 ptrTy (SV.adr b o))) = Rd.fail := by
    cases hdB os <;> cases pbO os 1 <;> rfl
  rw [e] at k1
  exact fail_some k1
theorem collA_tail {H : HLoc → SV} {p : PS} {ps : List PS} {s : SV} {svs : List SV} {q : (argTy (p :: ps)).den × HW × List HLoc} {fp fp' : List HLoc} (h : (collA (p :: ps) (s :: svs)).run H fp = some (q, fp')) :
    (∃ q' fp1 fp2, (collA ps svs).run H fp1 = some (q', fp2)) ∧ ((∃ f d n, s = .fn f d n ∧ capN p = n) ∨ (BoxAt H s ∧ capN p = 1) ∨ ((∀ f d n, s ≠ .fn f d n) ∧ ¬ BoxAt H s ∧ capN p = 0)) := by
  cases p with
  | pure t =>
    rw [collA_pure] at h
    obtain ⟨y, fp1, k1, h⟩ := bind_some h
    obtain ⟨z, fp2, k2, h⟩ := bind_some h
    refine ⟨⟨_, _, _, k2⟩, .inr (.inr ⟨fun f d n e => ?_, fun ⟨_, _, _, _, e, _⟩ => ?_, rfl⟩)⟩
    · subst e
      exact (fail_some k1).elim
    · subst e
      exact (fail_some k1).elim
  | lent t =>
    rw [collA_lent] at h
    obtain ⟨y, fp1, k1, h⟩ := bind_some h
    obtain ⟨z, fp2, k2, h⟩ := bind_some h
    refine ⟨⟨_, _, _, k2⟩, .inr (.inr ⟨fun f d n e => ?_, fun ⟨_, _, _, _, e, _⟩ => ?_, rfl⟩)⟩
    · subst e
      exact (fail_some k1).elim
    · subst e
      exact (fail_some k1).elim
  | box =>
    obtain ⟨z, hw, d⟩ := q
    obtain ⟨st, b, o, svs', fp1, fp2, z2, hw2, d2, rfl, rfl, hobj, hfld, k3, rfl, rfl, rfl⟩ := collA_box_run h
    exact ⟨⟨_, _, _, k3⟩, .inr (.inl ⟨⟨st, 0, b, o, rfl, hobj, hfld⟩, rfl⟩)⟩
  | row e =>
    obtain ⟨z, hw, d⟩ := q
    obtain ⟨q, l, fp1, fp2, z2, d2, rfl, _, k3, rfl, rfl⟩ := collA_row_run h
    exact ⟨⟨_, _, _, k3⟩, .inr (.inr ⟨fun f d n e => (by cases e), fun ⟨_, _, _, _, e, _⟩ => (by cases e), rfl⟩)⟩
  | nilp =>
    rw [collA_nilp] at h
    cases s <;> first | exact (fail_some h).elim | exact ⟨⟨_, _, _, h⟩, .inr (.inr ⟨fun f d n e => (by cases e), fun ⟨_, _, _, _, e, _⟩ => (by cases e), rfl⟩)⟩
  | fnc f n =>
    rw [collA_fnc] at h
    cases s <;> first | exact (fail_some h).elim | skip
    rename_i f' d n'
    simp only at h
    cases hb : cond (Nat.beq f f') (Nat.beq n n') false with
    | false => rw [hb] at h; exact (fail_some h).elim
    | true =>
      rw [hb] at h
      obtain ⟨_, hb2⟩ := cond_and hb
      exact ⟨⟨_, _, _, h⟩, .inl ⟨f', d, n', rfl, Nat.eq_of_beq_eq_true hb2⟩⟩
  | obj t os =>
    rw [collA_obj] at h
    cases s <;> first | exact (fail_some h).elim | skip
    rename_i st off
    simp only at h
    cases hoff : Nat.beq off 0 with
    | false => rw [hoff] at h; exact (fail_some h).elim
    | true =>
      rw [hoff] at h
      simp only [cond, Rd.run] at h
      split at h
      · rename_i t' hobj
        cases hb : t'.beq t with
        | false => rw [hb] at h; exact (fail_some h).elim
        | true =>
          rw [hb] at h
          obtain ⟨y, fp1, k1, h⟩ := bind_some h
          obtain ⟨d, fp2, k2, h⟩ := bind_some h
          obtain ⟨z, fp3, k3, h⟩ := bind_some h
          obtain rfl := Ty.beq_eq hb
          refine ⟨⟨_, _, _, k3⟩, .inr (.inr ⟨fun f d n e => (by cases e), fun ⟨st', off', b, o, e, h1, h2⟩ => ?_, rfl⟩)⟩
          cases e
          rw [hobj] at h1
          cases h1
          exact gatherO_box (mk := .fld st) h2 k1
      · exact (fail_some h).elim
theorem unf_drop {H : HLoc → SV} {vs : List SV} {uvs : List Value} {R : List Value} (hR : ∀ (ps : List PS) q fp1 fp2, (collA ps vs).run H fp1 = some (q, fp2) → unf 0 ps uvs = R) : ∀ {cs : List SV} {caps : List Value} {ps : List PS} {q : (argTy ps).den × HW × List HLoc} {fp fp' : List HLoc},
    cs.length = caps.length → (collA ps (cs ++ vs)).run H fp = some (q, fp') → unf cs.length ps (caps ++ uvs) = R
  | [], caps, ps, q, fp, fp', hl, h => by
    obtain rfl : caps = [] := by cases caps with | nil => rfl | cons => simp at hl
    exact hR ps _ _ _ h
  | c :: cs, [], _, _, _, _, hl, _ => by simp at hl
  | c :: cs, u :: caps, ps, q, fp, fp', hl, h => by
    cases ps with
    | nil => rw [show c :: cs ++ vs = c :: (cs ++ vs) from rfl, collA_nil'] at h; exact (fail_some h).elim
    | cons p ps =>
      obtain ⟨⟨q', fp1, fp2, k⟩, _⟩ := collA_tail h
      exact unf_drop hR (ps := ps) (by simpa using hl) k
theorem noFn_cap : ∀ {cs : List SV} {caps : List Value} {svs : List SV} {vs : List Value}, noFn cs = true → cs.length = caps.length → CapOk svs vs → CapOk (cs ++ svs) (caps ++ vs)
  | [], caps, svs, vs, _, hl, h => by
    obtain rfl : caps = [] := by cases caps with | nil => rfl | cons => simp at hl
    exact h
  | c :: cs, [], _, _, _, hl, _ => by simp at hl
  | c :: cs, u :: caps, svs, vs, hn, hl, h => by
    have : ∀ {x : Prop}, (noFn cs = true → x) → noFn (c :: cs) = true → x := fun f hx => f (by cases c <;> first | exact hx | exact Bool.noConfusion hx)
    have ih := this (fun hn => noFn_cap hn (by simpa using hl) h) hn
    cases c <;> first | exact ih | exact Bool.noConfusion hn
/-- functions among arguments, each with what it captured behind it -/
theorem flatA_ok {C : Ctx} {g : Gh} {S : Nat → SV} {H : HLoc → SV} {a : Act} {w : World} (hs : SimG C g S H a w) : ∀ {svs : List SV} {vs : List Value} {us : List SV} {fp fp' : List HLoc}, (flatA svs).run H fp = some (us, fp') → svs.length = vs.length →
    (∀ (i : Nat) (s : SV) (x : Value), svs[i]? = some s → vs[i]? = some x → SR g (view g.fl w) s x ∧ RefOk H s) →
    ∃ uvs : List Value, us.length = uvs.length ∧ CapOk us uvs ∧ (∀ (i : Nat) (s : SV) (x : Value), us[i]? = some s → uvs[i]? = some x → SR g (view g.fl w) s x ∧ RefOk H s) ∧ (∀ (ps : List PS) q fp1 fp2, (collA ps us).run H fp1 = some (q, fp2) → unf 0 ps uvs = vs)
  | [], vs, us, fp, fp', h, hl, _ => by
    obtain ⟨e, _⟩ := ret_some h
    subst e
    obtain rfl : vs = [] := by cases vs with | nil => rfl | cons => simp at hl
    exact ⟨[], rfl, trivial, fun i s x h1 => by simp at h1, fun ps _ _ _ _ => by cases ps <;> rfl⟩
  | s :: svs, [], _, _, _, _, hl, _ => by simp at hl
  | s :: svs, v :: vs, us, fp, fp', h, hl, hv => by
    obtain ⟨v1, v2⟩ := hv 0 s v rfl rfl
    have tl := fun (i : Nat) (s' : SV) (x : Value) (h1 : svs[i]? = some s') (h2 : vs[i]? = some x) => hv (i + 1) s' x (by simpa using h1) (by simpa using h2)
    have plain : (∀ f d n, s ≠ .fn f d n) → ¬ BoxAt H s → ∀ {fp : List HLoc}, ((flatA svs).bind fun q => Rd.ret (s :: q)).run H fp = some (us, fp') → ∃ uvs : List Value, us.length = uvs.length ∧ CapOk us uvs ∧ (∀ (i : Nat) (s : SV) (x : Value), us[i]? = some s → uvs[i]? = some x → SR g (view g.fl w) s x ∧ RefOk H s) ∧ (∀ (ps : List PS) q fp1 fp2, (collA ps us).run H fp1 = some (q, fp2) → unf 0 ps uvs = v :: vs) := by
      intro hne hnb fp h
      obtain ⟨us', fp1, k1, h⟩ := bind_some h
      obtain ⟨e, _⟩ := ret_some h
      subst e
      obtain ⟨uvs, a1, a2, a3, a4⟩ := flatA_ok hs k1 (by simpa using hl) tl
      refine ⟨v :: uvs, by simp [a1], ?_, fun i s' x h1 h2 => ?_, fun ps q fp1 fp2 hc => ?_⟩
      · cases s <;> first | exact a2 | exact absurd rfl (hne _ _ _)
      · cases i with
        | zero =>
          simp only [List.getElem?_cons_zero, Option.some.injEq] at h1 h2
          subst h1; subst h2
          exact ⟨v1, v2⟩
        | succ i => exact a3 i s' x (by simpa using h1) (by simpa using h2)
      · cases ps with
        | nil => rw [collA_nil'] at hc; exact (fail_some hc).elim
        | cons p ps =>
          obtain ⟨⟨q', fp3, fp4, k⟩, hcap⟩ := collA_tail hc
          rcases hcap with ⟨f, d, n, e, _⟩ | ⟨hb, _⟩ | ⟨_, _, hcap⟩
          · exact absurd e (hne f d n)
          · exact absurd hb hnb
          · show v :: unf (capN p) ps uvs = _
            rw [hcap, a4 ps _ _ _ k]
    cases s with
    | fn f d n =>
      obtain ⟨cs, fp1, k1, h⟩ := bind_some (show ((getN d n 0).bind _).run H fp = _ from h)
      have hcs := getN_run k1
      cases hn : noFn cs with
      | false => rw [hn] at h; exact (fail_some h).elim
      | true =>
        rw [hn] at h
        obtain ⟨us', fp2, k2, h⟩ := bind_some (show ((flatA svs).bind _).run H fp1 = _ from h)
        obtain ⟨e, _⟩ := ret_some h
        subst e
        obtain ⟨uvs, a1, a2, a3, a4⟩ := flatA_ok hs k2 (by simpa using hl) tl
        have hcl : cs.length = n := by rw [hcs]; simp
        have hv1 : v = .func (.func f) #[] ((List.range n).map (g.cv d)).toArray := v1
        refine ⟨v :: ((List.range n).map (g.cv d) ++ uvs), by simp [a1, hcl], ⟨⟨?_, by simp⟩, noFn_cap hn (by simp [hcl]) a2⟩, fun i s' x h1 h2 => ?_, fun ps q fp3 fp4 hc => ?_⟩
        · rw [hv1, List.take_left' (by simp)]
        · cases i with
          | zero =>
            simp only [List.getElem?_cons_zero, Option.some.injEq] at h1 h2
            subst h1; subst h2
            exact ⟨v1, v2⟩
          | succ i =>
            simp only [List.getElem?_cons_succ] at h1 h2
            by_cases hi : i < n
            · rw [List.getElem?_append_left (by omega)] at h1
              rw [List.getElem?_append_left (by simpa using hi)] at h2
              rw [hcs, List.getElem?_map] at h1
              rw [List.getElem?_map] at h2
              obtain ⟨k, hk1, rfl⟩ := Option.map_eq_some_iff.1 h1
              have hk2 : (List.range n)[i]? = some k := by rw [List.range_eq_range']; exact hk1
              rw [hk2] at h2
              simp only [Option.map_some, Option.some.injEq] at h2
              subst h2
              exact ⟨hs.comps d k, hs.refC d k⟩
            · rw [List.getElem?_append_right (by omega)] at h1
              rw [List.getElem?_append_right (by simp; omega)] at h2
              simp only [List.length_map, List.length_range] at h2
              rw [hcl] at h1
              exact a3 _ s' x h1 h2
        · cases ps with
          | nil => rw [collA_nil'] at hc; exact (fail_some hc).elim
          | cons p ps =>
            obtain ⟨⟨q', fp3, fp4, k⟩, hcap⟩ := collA_tail hc
            rcases hcap with ⟨f', d', n', e, hcap⟩ | ⟨⟨_, _, _, _, e, _⟩, _⟩ | ⟨hne, _⟩
            · cases e
              show v :: unf (capN p) ps _ = _
              have := unf_drop (R := vs) a4 (cs := cs) (caps := (List.range n).map (g.cv d)) (ps := ps) (by simp [hcl]) k
              rw [hcap, ← hcl]
              rw [hcl] at this ⊢
              rw [this]
            · cases e
            · exact absurd rfl (hne f d n)
    | adr st off =>
      simp only [flatA, Rd.run] at h
      cases hbx : isBox (H (.site st)) with
      | false =>
        rw [hbx] at h
        exact plain (fun f d n e => by cases e) (fun ⟨st', off', b, o, e, h1, _⟩ => by
          cases e
          rw [h1] at hbx
          have : isBox (.obj ptrTy) = true := rfl
          rw [this] at hbx
          exact Bool.noConfusion hbx) h
      | true =>
        rw [hbx] at h
        have hobj : H (.site st) = .obj ptrTy := by
          cases hw : H (.site st) with
          | obj t =>
            rw [hw] at hbx
            rw [Ty.beq_eq (show t.beq ptrTy = true from hbx)]
          | _ => rw [hw] at hbx; exact Bool.noConfusion hbx
        simp only [Rd.run] at h
        have no : (∀ b o, H (.fld st 0) ≠ .adr b o) → ¬ BoxAt H (.adr st off) := fun hn ⟨st', off', b, o, e, _, h2⟩ => by
          cases e
          exact hn b o h2
        split at h
        · rename_i b o hfld
          obtain ⟨us', fp1, k1, h⟩ := bind_some h
          obtain ⟨e, _⟩ := ret_some h
          subst e
          obtain ⟨uvs, a1, a2, a3, a4⟩ := flatA_ok hs k1 (by simpa using hl) tl
          have hp : SR g (view g.fl w) (.adr b o) (.pointer (some ⟨g.st b, o, none⟩)) := rfl
          have hrf := hs.refF st 0
          rw [hfld] at hrf
          have hB : BoxAt H (.adr st off) := ⟨st, off, b, o, rfl, hobj, hfld⟩
          refine ⟨v :: .pointer (some ⟨g.st b, o, none⟩) :: uvs, by simp [a1], a2, fun i s' x h1 h2 => ?_, fun ps q fp1 fp2 hc => ?_⟩
          · match i with
            | 0 =>
              simp only [List.getElem?_cons_zero, Option.some.injEq] at h1 h2
              subst h1; subst h2
              exact ⟨v1, v2⟩
            | 1 =>
              simp only [List.getElem?_cons_succ, List.getElem?_cons_zero, Option.some.injEq] at h1 h2
              subst h1; subst h2
              exact ⟨hp, hrf⟩
            | i + 2 => exact a3 i s' x (by simpa using h1) (by simpa using h2)
          · cases ps with
            | nil => rw [collA_nil'] at hc; exact (fail_some hc).elim
            | cons p ps =>
              obtain ⟨⟨q', fp3, fp4, k⟩, hcap⟩ := collA_tail hc
              rcases hcap with ⟨f, d, n, e, _⟩ | ⟨_, hcap⟩ | ⟨_, hnb, _⟩
              · cases e
              · show v :: unf (capN p) ps _ = _
                rw [hcap]
                cases ps with
                | nil => rw [collA_nil'] at k; exact (fail_some k).elim
                | cons p2 ps =>
                  obtain ⟨⟨q'', fp5, fp6, k2⟩, _⟩ := collA_tail k
                  show v :: unf 0 ps uvs = _
                  rw [a4 ps _ _ _ k2]
              · exact absurd hB hnb
        · rename_i hn
          exact plain (fun f d n e => by cases e) (no hn) h
    | _ => exact plain (fun f d n e => by cases e) (fun ⟨_, _, _, _, e, _⟩ => by cases e) h
/-! ### what holds no reference reads alike, whatever stays -/
theorem RowX.flat {T : Own → Own → Prop} {fl fl2 : Nat → Nat} {own : Nat → Option Own} {w : World} (hf : ∀ b, own b ≠ none → fl2 b = fl b) {v : Value} {t : Own} {pub : Bool} {e : Ty} {l : List e.den} (he : flatT e = true) (h : RowX T fl own w v t pub e l) : RowX T fl2 own w v t pub e l := by
  rcases h with h | ⟨o, h1, h | ⟨b, cap, cs, k1, k2, k3, k4, k5, k6, k7⟩⟩
  · exact .inl h
  · exact .inr ⟨o, h1, .inl h⟩
  · exact .inr ⟨o, h1, .inr ⟨b, cap, cs, k1, k2, k3, k4, k5, (hf b (by rw [k5]; simp)).trans k6, fun i x hx => let ⟨c, q1, q2⟩ := k7 i x hx; ⟨c, q1, q2.flat he⟩⟩⟩
theorem FldsX.flat {T : Own → Own → Prop} {fl fl2 : Nat → Nat} {own : Nat → Option Own} {w : World} (hf : ∀ b, own b ≠ none → fl2 b = fl b) {rid : Nat} : ∀ {t : Ty} {os : List Bool} {cs : List Value} {x : t.den} {i : Nat}, flatO os t = true → FldsX T fl own w rid os t cs x i → FldsX T fl2 own w rid os t cs x i := by
  intro t
  induction t with
  | pair A B _ hB =>
    rintro os cs x i h ⟨c1, c2, h1, h2, h3⟩
    obtain ⟨f1, f2⟩ := cond_and h
    refine ⟨c1, c2, h1, ?_, hB f2 h3⟩
    cases hb : hdB os with
    | false =>
      rw [hb] at h2 f1
      have h2 : CRep (view fl w) A c1 x.1 := by cases A <;> exact h2
      have := h2.flat (iv' := view fl2 w) f1
      cases A <;> exact this
    | true =>
      rw [hb] at h2 f1
      cases A <;> first | exact h2.elim | skip
      obtain ⟨v, q1, q2⟩ := h2
      exact ⟨v, q1, q2.flat hf f1⟩
  | unit => intro os cs x i _ h; exact h
  | _ => intro os cs x i _ h; exact h.elim
theorem ObjX.flat {T : Own → Own → Prop} {fl fl2 : Nat → Nat} {own : Nat → Option Own} {w : World} (hf : ∀ b, own b ≠ none → fl2 b = fl b) {t : Own} {rid : Nat} {os : List Bool} {ty : Ty} {v : Value} {x : (lay ty).den} (ho : flatO os (lay ty) = true) (h : ObjX T fl own w t rid os ty v x) : ObjX T fl2 own w t rid os ty v x := by
  obtain ⟨b, cs, o, h1, h2, h3, h4, h5, h6⟩ := h
  exact ⟨b, cs, o, h1, h2, h3, h4, (hf b (by rw [h4]; simp)).trans h5, h6.flat hf ho⟩
theorem BoxX.flat {T : Own → Own → Prop} {fl fl2 : Nat → Nat} {own : Nat → Option Own} {w : World} (hf : ∀ b, own b ≠ none → fl2 b = fl b) {t : Own} {v p : Value} (h : BoxX T fl own w t v p) : BoxX T fl2 own w t v p := by
  obtain ⟨b, o, h1, h2, h3, h4, h5⟩ := h
  exact ⟨b, o, h1, h2, h3, h4, (hf b (by rw [h4]; simp)).trans h5⟩
theorem Res1.flat {T : Own → Own → Prop} {fl fl2 : Nat → Nat} {own : Nat → Option Own} {w : World} (hf : ∀ b, own b ≠ none → fl2 b = fl b) {base : Nat} {r : RS} {v : Value} {x : r.ty.den} (hr : freeR r = true) (h : Res1 T fl own w base r v x) : Res1 T fl2 own w base r v x := by
  cases r with
  | pure t => obtain ⟨cs, h1, h2⟩ := h; exact ⟨cs, h1.flat hr, h2⟩
  | own pub e => exact RowX.flat hf hr h
  | newobj t os => exact ObjX.flat hf hr h
  | maybe t os => exact h.imp id fun h => ⟨h.1, ObjX.flat hf hr h.2⟩
  | deep e => exact Bool.noConfusion hr
  | agg t os => obtain ⟨cs, h1, h2⟩ := h; exact ⟨cs, h1, h2.flat hf hr⟩
theorem RessX.flat {T : Own → Own → Prop} {fl fl2 : Nat → Nat} {own : Nat → Option Own} {w : World} {ps : List PS} {k k' : (objsTy ps).den → Prop} : ∀ {rs : List RS} {i : Nat} {vs : List Value} {x : (resTy rs ps).den}, allR rs = true → (∀ b, own b ≠ none → fl2 b = fl b) → (∀ z, k z → k' z) → RessX T fl own w i rs ps vs x k → RessX T fl2 own w i rs ps vs x k'
  | [], _, _, _, _, _, hk, ⟨h1, h2⟩ => ⟨h1, hk _ h2⟩
  | r :: rs, i, v :: vs, x, hr, hf, hk, ⟨h1, h2⟩ => by
    obtain ⟨f1, f2⟩ := cond_and hr
    exact ⟨h1.flat hf f1, RessX.flat f2 hf hk h2⟩
  | _ :: _, _, [], _, _, _, _, h => h.elim
theorem ObjsX.flat {T : Own → Own → Prop} {fl fl2 : Nat → Nat} {own : Nat → Option Own} {w : World} : ∀ {ps : List PS} {j : Nat} {vs : List Value} {x : (objsTy ps).den}, allP ps = true → (∀ b, own b ≠ none → fl2 b = fl b) → ObjsX T fl own w j ps vs x → ObjsX T fl2 own w j ps vs x
  | [], _, _, _, _, _, _ => trivial
  | .pure _ :: r, _, _ :: _, _, hp, hf, h => ObjsX.flat (ps := r) (cond_and hp).2 hf h
  | .lent _ :: r, _, _ :: _, _, hp, hf, h => ObjsX.flat (ps := r) (cond_and hp).2 hf h
  | .lent _ :: _, _, [], _, _, _, h => h.elim
  | .nilp :: r, _, _ :: _, _, hp, hf, h => ObjsX.flat (ps := r) (cond_and hp).2 hf h
  | .fnc _ _ :: r, _, _ :: _, _, hp, hf, h => ObjsX.flat (ps := r) (cond_and hp).2 hf h
  | .row _ :: r, _, _ :: _, _, hp, hf, ⟨h1, h2⟩ => ⟨h1.flat hf (cond_and hp).1, ObjsX.flat (ps := r) (cond_and hp).2 hf h2⟩
  | .row _ :: _, _, [], _, _, _, h => h.elim
  | .box :: r, _, _ :: _, _, hp, hf, ⟨⟨p, rest, h1, h1'⟩, h2⟩ => ⟨⟨p, rest, h1, h1'.flat hf⟩, ObjsX.flat (ps := r) (cond_and hp).2 hf h2⟩
  | .obj _ _ :: r, _, _ :: _, _, hp, hf, ⟨h1, h2⟩ => ⟨h1.flat hf (cond_and hp).1, ObjsX.flat (ps := r) (cond_and hp).2 hf h2⟩
  | .box :: _, _, [], _, _, _, h => h.elim
  | .fnc _ _ :: _, _, [], _, _, _, h => h.elim
  | .pure _ :: _, _, [], _, _, _, h => h.elim
  | .obj _ _ :: _, _, [], _, _, _, h => h.elim
  | .nilp :: _, _, [], _, _, _, h => h.elim
theorem puts_last {l : HLoc} : ∀ {hw : HW} {H : HLoc → SV}, puts H hw l = lastW l (H l) hw
  | [], _ => rfl
  | (m, u) :: r, H => by
    show puts (updH H m u) r l = lastW l (cond (l.beq m) u (H l)) r
    rw [puts_last]; rfl
theorem lastW_free {l : HLoc} : ∀ {hw : HW} {v v' : SV}, l ∈ fsts hw → lastW l v hw = lastW l v' hw
  | [], _, _, h => by simp [fsts] at h
  | (m, u) :: r, v, v', h => by
    show lastW l (cond (l.beq m) u v) r = lastW l (cond (l.beq m) u v') r
    cases hb : l.beq m with
    | true => rfl
    | false =>
      rcases List.mem_cons.1 (show l ∈ m :: fsts r from h) with e | h
      · rw [e, HLoc.beq_refl] at hb; exact Bool.noConfusion hb
      · exact lastW_free h
theorem lastW_out {l : HLoc} : ∀ {hw : HW} {v : SV}, l ∉ fsts hw → lastW l v hw = v
  | [], _, _ => rfl
  | (m, u) :: r, v, h => by
    show lastW l (cond (l.beq m) u v) r = v
    have h1 : l ≠ m ∧ l ∉ fsts r := by simpa [fsts, not_or] using h
    rw [HLoc.beq_ne h1.1]
    exact lastW_out h1.2
theorem puts_dropL {l m : HLoc} (hm : m ≠ l) : ∀ {hw : HW} {H H' : HLoc → SV}, H m = H' m → puts H (dropL l hw) m = puts H' hw m
  | [], _, _, h => h
  | (k, u) :: r, H, H', h => by
    simp only [dropL]
    cases hb : l.beq k with
    | true =>
      obtain rfl := HLoc.beq_eq hb
      show puts H (dropL l r) m = puts (updH H' l u) r m
      exact puts_dropL hm (by rw [updH_ne _ _ hm]; exact h)
    | false =>
      show puts (updH H k u) (dropL l r) m = puts (updH H' k u) r m
      refine puts_dropL hm ?_
      by_cases e : m = k
      · subst e; rw [updH_self, updH_self]
      · rw [updH_ne _ _ e, updH_ne _ _ e]; exact h
theorem puts_dropL_self {l : HLoc} : ∀ {hw : HW} {H : HLoc → SV}, puts H (dropL l hw) l = H l
  | [], _ => rfl
  | (k, u) :: r, H => by
    simp only [dropL]
    cases hb : l.beq k with
    | true => exact puts_dropL_self (hw := r)
    | false =>
      show puts (updH H k u) (dropL l r) l = H l
      rw [puts_dropL_self (hw := r), updH_ne _ _ fun e => by rw [e, HLoc.beq_refl] at hb; exact Bool.noConfusion hb]
theorem dropS_ok {H : HLoc → SV} : ∀ {ls : List HLoc} {hw hw' : HW} {fp fp' : List HLoc}, (dropS ls hw).run H fp = some (hw', fp') → puts H hw' = puts H hw
  | [], hw, hw', fp, fp', h => by obtain ⟨e, _⟩ := ret_some h; rw [e]
  | l :: ls, hw, hw', fp, fp', h => by
    simp only [dropS, Rd.run] at h
    cases hb : sameObj (H l) (lastW l .bot hw) with
    | false => rw [hb] at h; exact (fail_some h).elim
    | true =>
      rw [hb] at h
      rw [dropS_ok h]
      have hv := sameObj_ok hb
      funext m
      by_cases e : m = l
      · subst e
        rw [puts_dropL_self, puts_last]
        by_cases hm : m ∈ fsts hw
        · rw [lastW_free (v' := .bot) hm]; exact hv.symm
        · rw [lastW_out hm]
      · exact puts_dropL e rfl
theorem callOk {P : Program} {tab : Tab} {Γ : FuncId → List Sig} (hF : ∀ f sg, sg ∈ Γ f → FOk P f sg) : CallOk P tab Γ := by
  intro C g S H a w id f svs0 vs0 v hw fp0 fp' o hs hlen0 hv0 h K Q hK
  unfold acall at h
  obtain ⟨svs, fp, hfl0, h⟩ := bind_some h
  obtain ⟨vs, hlen, hcap, hv, hunf⟩ := flatA_ok hs hfl0 hlen0 hv0
  split at h
  · rename_i sg hsg
    have hfo := hF f sg (pickSig_mem hsg)
    obtain ⟨⟨v0, hw0⟩, fpA, hA, h0⟩ := bind_some h
    clear h
    obtain ⟨hwB, fpB, hdr, h0⟩ := bind_some h0
    obtain ⟨e0, _⟩ := ret_some h0
    cases e0
    rw [dropS_ok hdr] at hK
    have h := hA
    unfold acallS at h
    obtain ⟨⟨x, pubs, drops⟩, fp1, k1, h⟩ := bind_some h
    obtain ⟨ks, fp1', k1', h⟩ := bind_some h
    obtain ⟨ls, fp1'', k1'', h⟩ := bind_some h
    have hks := keepA_run k1'
    have hls := lentA_run k1''
    cases hcnd : cond (nodupL drops) (cond (disjL ks (fsts pubs)) (disjL ls drops) false) false with
    | false => simp only [hcnd, cond_false] at h; exact (fail_some h).elim
    | true =>
      simp only [hcnd, cond_true] at h
      obtain ⟨hnd, hcnd⟩ := cond_and hcnd
      obtain ⟨hdj, hld⟩ := cond_and hcnd
      obtain ⟨y, hy, h⟩ := opt_some h
      obtain ⟨⟨v1, ws1, z⟩, fp2, k2, h⟩ := bind_some h
      obtain ⟨ws2, fp3, k3, h⟩ := bind_some h
      cases hnd2 : nodupL (fsts (ws1 ++ ws2)) with
      | false => simp only [hnd2, cond] at h; exact (fail_some h).elim
      | true =>
        simp only [hnd2, cond] at h
        obtain ⟨e, _⟩ := ret_some h
        cases e
        obtain ⟨fn, c1, c2, c3⟩ := hfo.code
        refine ⟨run_callFunc c1 c2 c3 _ _, ?_⟩
        rw [← hunf sg.ps _ _ _ k1]
        obtain ⟨p1, p2, m, m1, m2⟩ := collA_ok hs (i := 0) k1 hlen hcap hv
        obtain ⟨fl, own1, ho1, q1, q2⟩ : ∃ fl own, own = g.own ∧ SimG C { g with fl := fl, own := own } S (puts H pubs) a w ∧ (view g.fl w).le (view fl w) :=
          let ⟨fl, k1, k2⟩ := hs.pubsO p1; ⟨fl, g.own, rfl, k1, k2⟩
        have hargs := m2 (fun y h => h) p1 (fun l hl => disjL_ok hdj l (by rw [hks]; exact hl)) q1 q2 (fun o t => (o, t) ∈ m) (fun p hp => hp) fun o t ht hl => disjL_ok hld _ (by rw [hls]; exact hl) (by rw [m1]; exact List.mem_map.2 ⟨(o, t), ht, rfl⟩)
        let ownC : Nat → Option Own := fun b => (own1 b).bind (lookO m fun _ => none)
        have hnm := nodup_fst (m := m) (by rw [← m1]; exact nodupL_ok hnd)
        have hC : ∀ b, ownC b ≠ none → ∃ o t, own1 b = some o ∧ (o, t) ∈ m := fun b hb => by
          cases ho : own1 b with
          | none => simp [ownC, ho] at hb
          | some o =>
            simp only [ownC, ho, Option.bind_some] at hb
            obtain ⟨t, ht⟩ := lookO_none' hb
            exact ⟨o, t, rfl, ht⟩
        have hownlt : ∀ b, ownC b ≠ none → b < w.heap.size ∧ (C.w0.heap.size ≤ b ∨ C.M b) := fun b hb => by
          obtain ⟨o, t, h1, _⟩ := hC b hb
          exact q1.own b (by show own1 b ≠ none; rw [h1]; simp)
        refine Calls.mono (hfo.call (w := w) (fl := fl) (own := ownC) (vs := vs) (x := x) (y := y) (fun b hb => (hownlt b hb).1) (hargs.relab (Relab.same fun o t ht => ⟨t, rfl, fun b hb => by
          simp only [ownC, hb, Option.bind_some]; exact lookO_mem hnm (o, t) ht⟩) fun b o' t' h1 h2 => hC b (by rw [h1]; exact fun h => by cases h)) hy) ?_
        rintro e w' ⟨rs, fl', own', rfl, hext, hfl, hle, hown', hres⟩
        obtain ⟨flB, fl2, pubsB, hpB, p1B, q1B, hflB, hleB, hresB⟩ : ∃ (flB fl2 : Nat → Nat) (pubsB : HW), tellW sg drops pubs = pubsB ∧ Pubs H pubsB ∧ SimG C { g with fl := flB, own := own1 } S (puts H pubsB) a w ∧ (∀ b, b < w.heap.size → ownC b = none → fl2 b = flB b) ∧ (view flB w).le (view fl2 w') ∧ RessX Eq fl2 own' w' 0 sg.rs sg.ps rs y fun z => ObjsX Eq fl2 own' w' 0 sg.ps vs z := by
          cases hl : cond (lends sg) (disjL drops (fsts pubs)) false with
          | false => exact ⟨fl, fl', pubs, by unfold tellW; rw [hl]; rfl, p1, q1, hfl, hle, hres⟩
          | true =>
            obtain ⟨hll, _⟩ := cond_and hl
            obtain ⟨hl1, hl2⟩ := cond_and hll
            refine ⟨g.fl, fun b => if b < w.heap.size ∧ ownC b = none then g.fl b else fl' b, [], by unfold tellW; rw [hl]; rfl, trivial, by rw [ho1]; exact hs, fun b h1 h2 => if_pos ⟨h1, h2⟩, ?_, ?_⟩
            · intro k o v hv
              obtain ⟨hlt, hc⟩ := view_some.1 hv
              have hk : k < w.heap.size := World.block_lt_of_cell? (a := ⟨k, o, none⟩) w hc
              by_cases hn : ownC k = none
              · refine view_some.2 ⟨?_, (World.cell?_of_block (a := ⟨k, o, none⟩) (hext.block k hk (by rw [hn]; simp))).trans hc⟩
                show o < (if k < w.heap.size ∧ ownC k = none then g.fl k else fl' k)
                rw [if_pos ⟨hk, hn⟩]; exact hlt
              · obtain ⟨h1, h2⟩ := view_some.1 (hle k o v (q2 k o v hv))
                refine view_some.2 ⟨?_, h2⟩
                show o < (if k < w.heap.size ∧ ownC k = none then g.fl k else fl' k)
                rw [if_neg fun h => hn h.2]; exact h1
            · have hf : ∀ b, own' b ≠ none → (if b < w.heap.size ∧ ownC b = none then g.fl b else fl' b) = fl' b := fun b hb => if_neg fun h => by
                rcases (hown' b hb).2 with h1 | h1
                · omega
                · exact h1 h.2
              exact RessX.flat hl1 hf (fun z hz => ObjsX.flat hl2 hf hz) hres
        -- the new ghost
        let sites := objSites sg.ps svs
        let sh := shO id sites
        let own2 : Nat → Option Own := fun b => match own' b with
          | some o => some (sh o)
          | none => match ownC b with
            | some _ => none
            | none => own1 b
        have hd := q1B.drops (m := m)
        rw [← m1] at hd
        have keep : ∀ b o, own1 b = some o → (∀ t, (o, t) ∉ m) → ownC b = none ∧ own2 b = some o ∧ w'.heap[b]? = w.heap[b]? ∧ fl2 b = flB b := fun b o hb hm => by
          have hn : ownC b = none := by
            cases hc : ownC b with
            | none => rfl
            | some u =>
              obtain ⟨o', t, h1, h2⟩ := hC b (by rw [hc]; simp)
              rw [hb] at h1
              cases h1
              exact absurd h2 (hm t)
          have hlt := (q1B.own b (by show own1 b ≠ none; rw [hb]; simp)).1
          have hn' : own' b = none := by
            cases hc : own' b with
            | none => rfl
            | some u =>
              rcases (hown' b (by rw [hc]; simp)).2 with h | h
              · omega
              · exact absurd hn h
          exact ⟨hn, by simp only [own2, hn', hn, hb], hext.block b hlt (by rw [hn]; simp), hflB b hlt hn⟩
        have hdrop : ∀ o t, (o, t) ∈ m → locO o ∈ drops := fun o t h => by rw [m1]; exact List.mem_map.2 ⟨(o, t), h, rfl⟩
        have hbd : ∀ b, b < C.w0.heap.size → ¬ C.M b → ownC b = none := fun b h1 h2 => by
          cases hc : ownC b with
          | none => rfl
          | some u =>
            rcases (hownlt b (by rw [hc]; simp)).2 with h | h
            · omega
            · exact absurd h h2
        have hw0 := q1B.ext.size
        have hg : SimG C { g with fl := fl2, own := own2 } S (puts (puts H pubsB) (undW drops)) a w' := by
          refine hd.grow (GAgree.same rfl rfl rfl) hleB (fun n t hn ho => ?_) (fun r b hr ho => ?_) (fun b hb => ?_) (fun b h1 h2 => ?_) ?_
          · have := keep (g.st n) (.site n) ho fun t hm => by
              have := undW_get (H := puts H pubsB) (hdrop _ _ hm)
              rw [show locO (.site n) = HLoc.site n from rfl] at this
              rw [this] at hn; cases hn
            exact ⟨this.2.2.1, this.2.1, this.2.2.2⟩
          · have := keep b (.row r) ho fun t hm => by
              have := undW_get (H := puts H pubsB) (hdrop _ _ hm)
              rw [show locO (.row r) = HLoc.row r from rfl] at this
              rcases hr with ⟨_, _, _, hr⟩ | ⟨_, _, _, _, hr⟩ <;> (rw [this] at hr; cases hr)
            exact ⟨this.2.2.1, this.2.1, this.2.2.2⟩
          · have hb : own2 b ≠ none := hb
            cases hc : own' b with
            | some u =>
              have h1 := hown' b (by rw [hc]; simp)
              refine ⟨h1.1, ?_⟩
              rcases h1.2 with h | h
              · exact .inl (by omega)
              · exact (hownlt b h).2
            | none =>
              cases hc2 : ownC b with
              | some u => simp only [own2, hc, hc2] at hb; exact absurd rfl hb
              | none =>
                simp only [own2, hc, hc2] at hb
                have h1 := q1B.own b hb
                exact ⟨Nat.lt_of_lt_of_le h1.1 hext.size, h1.2⟩
          · show fl2 b = C.fl0 b
            rw [hflB b (by omega) (hbd b h1 h2)]
            exact q1B.old b h1 h2
          · refine ⟨hext.os.trans q1B.ext.os, hext.tape.trans q1B.ext.tape, hext.output.trans q1B.ext.output, Nat.le_trans hw0 hext.size, fun b h1 h2 => ?_⟩
            rw [hext.block b (by omega) (by rw [hbd b h1 h2]; simp)]
            exact q1B.ext.block b h1 h2
        -- results
        have hsh : ∀ k, sh (.row k) = .row (id + k) := fun k => rfl
        have hsb : ∀ k, k < 81 → sh (.site k) = .site (id + k) := fun k hk => by
          have hb : Nat.blt k 81 = true := Nat.ble_eq_true_of_le hk
          simp only [sh, shO, hb, cond]
        have hrel : Relab Eq (fun o t => o = sh t) fl2 fl2 own' own2 w' := Relab.same fun o t ht => by
          subst ht
          exact ⟨sh o, rfl, fun b hb => by simp only [own2, hb]⟩
        have hres2 := hresB.relab (own' := own2) (k' := fun z => ObjsX (fun o t => o = sh t) fl2 own2 w' 0 sg.ps vs z) hrel fun z hz => hz.relab hrel
        have hnW := nodupL_ok hnd2
        rw [fsts_append] at hnW
        obtain ⟨w1, w2, w3⟩ := List.nodup_append.1 hnW
        have hbot0 : ∀ l, H l = .bot → puts (puts H pubsB) (undW drops) l = .bot := fun l hl => by
          rw [puts_ne (by rw [undW_fsts]; exact fun hm => p2 l hm hl)]
          exact pubs_bot hl p1B
        obtain ⟨g1, a1, a2, a3, a4, a5, a6⟩ := results_ok (T := fun o t => o = sh t) (fun o t h => h) hsh hsb k2 hg hres2 (fun l hl hn => hbot0 l (results_fresh k2 l hl hn)) w1 hfo.few
        have hbk := backA_fresh k3
        have hsites := collA_sites k1
        have hres3 : ObjsX (fun o t => o = sh t) g1.fl g1.own w' 0 sg.ps vs z := by rw [a1.fl, a1.own]; exact a6
        obtain ⟨g2, b1, b2, b3⟩ := backA_ok (T := fun o t => o = sh t) (fun o t h => h) hsh (j := 0) (g0 := g) (iv0 := view g.fl w) k3 a2 hres3 (fun k s hk => by
            have hb : Nat.blt (81 + 20 * (0 + k)) 81 = false := by
              cases hb : Nat.blt (81 + 20 * (0 + k)) 81 with
              | false => rfl
              | true => have : 81 + 20 * (0 + k) < 81 := Nat.le_of_ble_eq_true hb; omega
            simp only [sh, shO, hb, cond]
            rw [show (81 + 20 * (0 + k) - 81) / 20 = k from by omega, List.getD_eq_getElem?_getD, hk]; rfl) hlen (fun k s v' h1 h2 => (hv k s v' h1 h2).1) (fun s hs' => by
            have hl : HLoc.site s ∈ drops := hsites (.site s) hs'
            have hu : puts (puts H pubsB) (undW drops) (.site s) ≠ .bot := by rw [undW_get hl]; exact SV.noConfusion
            exact a1.ag.st s hu) (fun q hq => by
            have hl := hsites (.row q) hq
            have hl : HLoc.row q ∈ drops := hl
            have hnl : HLoc.row q ∉ fsts ws1 := fun hm => w3 _ hm _ (backA_rows k3 q hq) rfl
            have hu : puts (puts H pubsB) (undW drops) (.row q) = .und := undW_get hl
            exact ⟨p2 _ hl, by rw [puts_ne hnl]; exact hu, a1.ag.hd q (by rw [hu]; exact SV.noConfusion)⟩) (fun l hl => by
            have hnl : l ∉ fsts ws1 := fun hm => w3 l hm l hl rfl
            obtain ⟨d2, _⟩ := hbk l hl
            refine ⟨fun r e hb => by rw [puts_ne hnl]; exact hbot0 l hb, fun n e => ?_⟩
            rw [puts_ne hnl]
            have := hsites (.site n) (d2 n e)
            rw [e]
            exact undW_get this) w2
        have eP : puts H (tellW sg drops pubs ++ (undW drops ++ (ws1 ++ ws2))) = puts (puts (puts (puts H pubsB) (undW drops)) ws1) ws2 := by rw [puts_append, puts_append, puts_append, hpB]
        refine hK (retV rs) w' g2 (by rw [eP]; exact b2) ?_ ?_
        · exact SR.change b1.ag (by rw [b1.fl]; exact IV.le.refl _) a5 a4
        · rw [eP]
          have live : ∀ l, puts (puts (puts H pubsB) (undW drops)) ws1 l ≠ .bot → puts (puts (puts (puts H pubsB) (undW drops)) ws1) ws2 l ≠ .bot := fun l hl => puts_live b3 hl
          cases v0 <;> first | exact trivial | exact live _ a5 | exact fun i hi => live _ (a5 i hi) | exact fun i q hi => live _ (a5 i q hi)
  · exact (fail_some h).elim
end Go.Sx
namespace Go.Sx
section
variable {C : Ctx} {a : Act} {w : World}
theorem GAgree.trans {H H' : HLoc → SV} {g g' g'' : Gh} (h : GAgree H g g') (h' : GAgree H' g' g'') (hH : ∀ l, H l ≠ .bot → H' l ≠ .bot) : GAgree H g g'' :=
  ⟨fun n hn => (h'.st n (hH _ hn)).trans (h.st n hn), fun r hr => (h'.hd r (hH _ hr)).trans (h.hd r hr), fun d i hd => (h'.cv d i (hH _ hd)).trans (h.cv d i hd), h'.lv.trans h.lv⟩
/-- a parameter finds its place -/
theorem putT_ok {g : Gh} {s : St} {c d j sl : Nat} {v : SV} {val : Value} (hs : SimG C g s.S s.H a w) (hv : SR g (view g.fl w) v val) (hr : RefOk s.H v) (hne : v ≠ .bot) (h0 : c = 0 → a.tmps.getD sl undef = val) (hc : c ≠ 0 → s.H (.comp d j) = .bot) :
    ∃ g1, g1.fl = g.fl ∧ g1.own = g.own ∧ SimG C g1 (putT s c d j sl v).S (putT s c d j sl v).H a w ∧ (∀ l, s.H l ≠ .bot → (putT s c d j sl v).H l = s.H l) ∧ (∀ l, (c ≠ 0 → l ≠ .comp d j) → (putT s c d j sl v).H l = s.H l) ∧ GAgree s.H g g1 ∧
      (c ≠ 0 → (putT s c d j sl v).H (.comp d j) ≠ .bot ∧ g1.cv d j = val) ∧ (putT s c d j sl v).lkH = s.lkH ∧ (putT s c d j sl v).lkS = s.lkS := by
  cases c with
  | zero => exact ⟨g, rfl, rfl, hs.reslot (by rw [h0 rfl]; exact hv) hr, fun _ _ => rfl, fun _ _ => rfl, GAgree.refl _ _, fun h => absurd rfl h, rfl, rfl⟩
  | succ c =>
    have hb := hc (by simp)
    refine ⟨{ g with cv := fun d' i' => if d' = d ∧ i' = j then val else g.cv d' i' }, rfl, rfl, hs.setComp (d := d) (i := j) (val := val) hb hne hr hv, fun l hl => ?_, fun l hl => ?_, ⟨fun _ _ => rfl, fun _ _ => rfl, fun d' k' hne' => ?_, rfl⟩, fun _ => ⟨?_, by simp⟩, rfl, rfl⟩
    · exact updH_ne _ _ fun e => hl (e ▸ hb)
    · exact updH_ne _ _ (hl (by simp))
    · by_cases e : d' = d ∧ k' = j
      · obtain ⟨rfl, rfl⟩ := e; exact absurd hb hne'
      · simp [e]
    · show updH s.H (.comp d j) v (.comp d j) ≠ .bot
      rw [updH_self]; exact hne
/-- a parameter that comes with an object: its type -/
def isOb : PS → Option Ty
  | .obj t _ => some t
  | .box => some ptrTy
  | _ => none
/-- places of the parameters before -/
def LowL (i : Nat) (l : HLoc) : Prop := (∃ n, n < i ∧ (l = .site n ∨ ∃ k, l = .fld n k)) ∨ ∃ k, k < i ∧ l = .comp 999 k
/-- what a body begins with, as far as the rest needs it -/
structure InitOk (C : Ctx) (a : Act) (w : World) (g : Gh) (s : St) (c d j i : Nat) (ps : List PS) (vs : List Value) (s' : St) (g' : Gh) : Prop where
  fl : g'.fl = g.fl
  own : g'.own = g.own
  sim : SimG C g' s'.S s'.H a w
  live : ∀ l, s.H l ≠ .bot → s'.H l = s.H l
  ag : GAgree s.H g g'
  cap : ∀ k v, k < c → vs[k]? = some v → s'.H (.comp d (j + k)) ≠ .bot ∧ g'.cv d (j + k) = v
  lkS : s'.lkS = s.lkS
  lkH : ∀ l ∈ s'.lkH, l ∈ s.lkH ∨ (∃ k, l = .comp 999 k ∧ s'.H l = .adr k 0 ∧ HLoc.site k ∈ s'.lkH) ∨ ∃ n t, l = .site n ∧ s'.H l = .obj t
  lkI : ∀ l ∈ s.lkH, l ∈ s'.lkH
  keep : c = 0 ∨ d ≠ 999 → ∀ l, LowL i l → s'.H l = s.H l
  pins : ∀ k p t v, ps[k]? = some p → isOb p = some t → vs[k]? = some v → HLoc.comp 999 (i + k) ∈ s'.lkH ∧ s'.H (.comp 999 (i + k)) = .adr (i + k) 0 ∧ g'.cv 999 (i + k) = v ∧ s'.H (.site (i + k)) = .obj t
theorem initS_ok : ∀ {ps : List PS} {c d j sl i : Nat} {vs : List Value} {x : (argTy ps).den} {g : Gh} {s : St}, psOk c ps = true → SimG C g s.S s.H a w → ArgsX Eq g.fl g.own w i ps vs x → (∀ k v, (unf c ps vs)[k]? = some v → a.tmps.getD (sl + k) undef = v) →
    i + ps.length ≤ 900 → (∀ r, i * 20 ≤ r → s.H (.row r) = .bot) → (∀ n, i ≤ n → s.H (.site n) = .bot ∧ ∀ k, s.H (.fld n k) = .bot) → (∀ e k, i ≤ e → e < 999 → s.H (.comp e k) = .bot) → (c ≠ 0 → d < i ∧ ∀ k, j ≤ k → s.H (.comp d k) = .bot) → (∀ k, i ≤ k → s.H (.comp 999 k) = .bot) → (lvU g.fl (fun b => ∃ o t', g.own b = some o ∧ o = t') w).le (lvOf C) →
    ∃ g', InitOk C a w g s c d j i ps vs (initS s c d j sl i ps x) g' := by
  intro ps
  induction ps with
  | nil =>
    intro c d j sl i vs x g s hp hs _ _ _ _ _ _ _ _ _
    obtain rfl := Nat.eq_of_beq_eq_true hp
    exact ⟨g, rfl, rfl, hs, fun _ _ => rfl, GAgree.refl _ _, fun k v hk => by omega, rfl, fun l hl => .inl hl, fun l hl => hl, fun _ _ _ => rfl, fun k p t v hk => by simp at hk⟩
  | cons p ps ih =>
    intro c d j sl i vs x g s hp hs hx hv hi hr hn hcb hcd h9 hLV
    cases vs with
    | nil => cases p <;> exact hx.elim
    | cons v vs =>
      -- what is left when one of the parameters lies at its place
      have rest : ∀ {s0 s1 : St} {g0 g1 : Gh} {sv : SV} {x' : (argTy ps).den}, capN p = 0 → psOk (c - 1) ps = true → s1 = putT s0 c d j sl sv → SimG C g0 s0.S s0.H a w → g0.fl = g.fl → g0.own = g.own → GAgree s.H g g0 → (∀ l, s.H l ≠ .bot → s0.H l = s.H l) →
          (∀ l, (∀ r, i * 20 ≤ r → r < (i + 1) * 20 → l ≠ .row r) → l ≠ .site i → (∀ k, l ≠ .fld i k) → l ≠ .comp 999 i → s0.H l = s.H l) → SR g0 (view g0.fl w) sv v → RefOk s0.H sv → sv ≠ .bot → ArgsX Eq g0.fl g0.own w (i + 1) ps vs x' → s0.lkS = s.lkS → (∀ l ∈ s.lkH, l ∈ s0.lkH) →
          (∀ l ∈ s0.lkH, l ∈ s.lkH ∨ (∃ k, l = .comp 999 k ∧ s0.H l = .adr k 0 ∧ HLoc.site k ∈ s0.lkH) ∨ ∃ n t, l = .site n ∧ s0.H l = .obj t) →
          (∀ t, isOb p = some t → HLoc.comp 999 i ∈ s0.lkH ∧ s0.H (.comp 999 i) = .adr i 0 ∧ g0.cv 999 i = v ∧ s0.H (.site i) = .obj t) →
          ∃ g', InitOk C a w g s c d j i (p :: ps) (v :: vs) (initS s1 (c - 1) d (j + 1) (nxtS c sl) (i + 1) ps x') g' := by
        intro s0 s1 g0 g1 sv x' hcap0 hp' hs1 h1 h2 h3 h4 h5 h6 h7 h8 h9' h10 h11 h12 h13 h14
        have hlt : i < 999 := by simp at hi; omega
        have hcomp : c ≠ 0 → s0.H (.comp d j) = .bot := fun hc => by
          rw [h6 _ (fun _ _ _ => by simp) (by simp) (fun _ => by simp) (by simp; have := (hcd hc).1; omega)]
          exact (hcd hc).2 j (Nat.le_refl _)
        obtain ⟨g1, a1, a2, a3, a4, a5, a6, a7, a8, a9⟩ := putT_ok (c := c) (d := d) (j := j) (sl := sl) h1 h7 h8 h9' (fun hc => by
          subst hc
          exact hv 0 v (by simp [unf])) hcomp
        rw [← hs1] at a3 a4 a5 a7 a8 a9
        obtain ⟨g', b⟩ := ih (c := c - 1) (d := d) (j := j + 1) (sl := nxtS c sl) (i := i + 1) (vs := vs) (x := x') (g := g1) (s := s1) hp' a3 (by rw [a1, a2]; exact h10) (fun k u hk => by
            cases c with
            | zero =>
              have := hv (k + 1) u (by simp only [unf]; simpa [hcap0] using hk)
              rwa [show sl + (k + 1) = sl + 1 + k from by omega] at this
            | succ c => exact hv k u (by simpa [unf] using hk)) (by simp at hi; omega)
          (fun r hr' => by rw [a5 _ (fun _ => by simp), h6 _ (fun r' _ h e => by simp at e; omega) (by simp) (fun _ => by simp) (by simp)]; exact hr r (by omega))
          (fun n hn' => ⟨by rw [a5 _ (fun _ => by simp), h6 _ (fun _ _ _ => by simp) (by simp; omega) (fun _ => by simp) (by simp)]; exact (hn n (by omega)).1,
            fun k => by rw [a5 _ (fun _ => by simp), h6 _ (fun _ _ _ => by simp) (by simp) (fun _ => by simp; omega) (by simp)]; exact (hn n (by omega)).2 k⟩)
          (fun e k h1' h2' => by rw [a5 _ (fun hc => by have := (hcd hc).1; simp; omega), h6 _ (fun _ _ _ => by simp) (by simp) (fun _ => by simp) (by simp; omega)]; exact hcb e k (by omega) h2')
          (fun hc => ⟨by have := (hcd (by omega)).1; omega, fun k hk => by
            have hc' : c ≠ 0 := by omega
            rw [a5 _ (fun _ => by simp; omega), h6 _ (fun _ _ _ => by simp) (by simp) (fun _ => by simp) (by simp; have := (hcd hc').1; omega)]
            exact (hcd hc').2 k (by omega)⟩)
          (fun k hk => by rw [a5 _ (fun hc => by have := (hcd hc).1; simp; omega), h6 _ (fun _ _ _ => by simp) (by simp) (fun _ => by simp) (by simp; omega)]; exact h9 k (by omega)) (by rw [a1, a2, h2, h3]; exact hLV)
        have live1 : ∀ l, s.H l ≠ .bot → s1.H l = s.H l := fun l hl => (a4 l (by rw [h5 l hl]; exact hl)).trans (h5 l hl)
        refine ⟨g', b.fl.trans (a1.trans h2), b.own.trans (a2.trans h3), b.sim, fun l hl => (b.live l (by rw [live1 l hl]; exact hl)).trans (live1 l hl), ?_, ?_, b.lkS.trans (a9.trans h11), ?_, fun l hl => b.lkI l (by rw [a8]; exact h12 l hl), fun hd l hl => ?_, ?_⟩
        · exact (h4.trans a6 fun l hl => by rw [h5 l hl]; exact hl).trans b.ag fun l hl => by rw [live1 l hl]; exact hl
        · intro k u hk hu
          cases k with
          | zero =>
            simp only [List.getElem?_cons_zero, Option.some.injEq] at hu
            subst hu
            obtain ⟨q1, q2⟩ := a7 (by omega)
            show (initS s1 (c - 1) d (j + 1) (nxtS c sl) (i + 1) ps x').H (.comp d j) ≠ .bot ∧ g'.cv d j = v
            rw [b.live _ q1, b.ag.cv _ _ q1]
            exact ⟨q1, q2⟩
          | succ k =>
            have := b.cap k u (by omega) (by simpa using hu)
            rwa [show j + 1 + k = j + (k + 1) from by omega] at this
        · intro l hl
          rcases b.lkH l hl with hl | hl
          · rw [a8] at hl
            rcases h13 l hl with hl | ⟨k, rfl, q1, q2⟩ | ⟨n, t, rfl, q1⟩
            · exact .inl hl
            · have e1 : s1.H (.comp 999 k) = s0.H (.comp 999 k) := a4 _ (by rw [q1]; exact SV.noConfusion)
              have e2 := b.live (.comp 999 k) (by rw [e1, q1]; exact SV.noConfusion)
              exact .inr (.inl ⟨k, rfl, by rw [e2, e1, q1], b.lkI _ (by rw [a8]; exact q2)⟩)
            · have e1 : s1.H (.site n) = s0.H (.site n) := a4 _ (by rw [q1]; exact SV.noConfusion)
              have e2 := b.live (.site n) (by rw [e1, q1]; exact SV.noConfusion)
              exact .inr (.inr ⟨n, t, rfl, by rw [e2, e1, q1]⟩)
          · exact .inr hl
        · have hl2 : LowL (i + 1) l := by
            rcases hl with ⟨n, hn1, hn2⟩ | ⟨k, hk1, hk2⟩
            · exact .inl ⟨n, by omega, hn2⟩
            · exact .inr ⟨k, by omega, hk2⟩
          rw [b.keep (hd.imp (fun h => by omega) id) l hl2, a5 l (fun hc => ?_)]
          · rcases hl with ⟨n, hn1, rfl | ⟨k, rfl⟩⟩ | ⟨k, hk1, rfl⟩
            · exact h6 _ (fun _ _ _ => by simp) (by simp; omega) (fun _ => by simp) (by simp)
            · exact h6 _ (fun _ _ _ => by simp) (by simp) (fun _ => by simp; omega) (by simp)
            · exact h6 _ (fun _ _ _ => by simp) (by simp) (fun _ => by simp) (by simp; omega)
          · rcases hl with ⟨n, hn1, rfl | ⟨k, rfl⟩⟩ | ⟨k, hk1, rfl⟩
            · simp
            · simp
            · have := (hcd hc).1; simp; omega
        · intro k p' t u hk hob hu
          cases k with
          | zero =>
            simp only [List.getElem?_cons_zero, Option.some.injEq] at hk hu
            subst hu
            subst hk
            obtain ⟨q1, q2, q3, q4⟩ := h14 t hob
            have e1 : s1.H (.comp 999 i) = s0.H (.comp 999 i) := a4 _ (by rw [q2]; exact SV.noConfusion)
            have e2 := b.live (.comp 999 i) (by rw [e1, q2]; exact SV.noConfusion)
            have f1 : s1.H (.site i) = s0.H (.site i) := a4 _ (by rw [q4]; exact SV.noConfusion)
            have f2 := b.live (.site i) (by rw [f1, q4]; exact SV.noConfusion)
            refine ⟨b.lkI _ (by rw [a8]; exact q1), e2.trans (e1.trans q2), ?_, f2.trans (f1.trans q4)⟩
            exact (b.ag.cv 999 i (by rw [e1, q2]; exact SV.noConfusion)).trans ((a6.cv 999 i (by rw [q2]; exact SV.noConfusion)).trans q3)
          | succ k =>
            have := b.pins k p' t u (by simpa using hk) hob (by simpa using hu)
            rwa [show i + 1 + k = i + (k + 1) from by omega] at this
      cases p with
      | pure t =>
        obtain ⟨h1, h2⟩ := hx
        exact rest (s0 := s) (g1 := g) (sv := .pv t x.1) (x' := x.2) rfl hp rfl hs rfl rfl (GAgree.refl _ _) (fun _ _ => rfl) (fun _ _ _ _ _ => rfl) h1 trivial SV.noConfusion h2 rfl (fun _ h => h) (fun _ h => .inl h) fun t e => by cases e
      | lent t =>
        obtain ⟨h1, h2⟩ := hx
        exact rest (s0 := s) (g1 := g) (sv := .lv t x.1) (x' := x.2) rfl hp rfl hs rfl rfl (GAgree.refl _ _) (fun _ _ => rfl) (fun _ _ _ _ _ => rfl) (by show VRep g.lv t v x.1; rw [hs.lv]; exact h1.mono hLV) trivial SV.noConfusion h2 rfl (fun _ h => h) (fun _ h => .inl h) fun t e => by cases e
      | row e =>
        obtain ⟨h1, h2⟩ := hx
        have hbot : s.H (.row (i * 20)) = .bot := hr _ (Nat.le_refl _)
        have hA : GAgree s.H g { g with hd := updN g.hd (i * 20) v } := ⟨fun _ _ => rfl, fun r' hr' => updN_ne _ _ fun e => hr' (e ▸ hbot), fun _ _ _ => rfl, rfl⟩
        have hg := hs.grow hA (IV.le.refl _) (fun _ _ _ h => ⟨rfl, h, rfl⟩) (fun _ _ _ h => ⟨rfl, h, rfl⟩) hs.own hs.old hs.ext
        have hrow := hg.setRow (r := i * 20) (pub := false) (e := e) (l := x.1) (rowOk_iff.2 (by
          show RowV g.fl g.own w (updN g.hd (i * 20) v (i * 20)) _ _ _ _
          rw [updN_self]
          rcases h1 with h1 | ⟨o, rfl, h1⟩
          · exact .inl h1
          · exact h1))
        have lives : ∀ l, s.H l ≠ .bot → updH s.H (.row (i * 20)) (.row false e x.1) l = s.H l := fun l hl => updH_ne _ _ fun e => hl (e ▸ hbot)
        refine rest (s0 := { s with H := updH s.H (.row (i * 20)) (.row false e x.1) }) (g0 := { g with hd := updN g.hd (i * 20) v }) (g1 := g) (sv := .hdr (i * 20)) (x' := x.2) rfl hp rfl hrow rfl rfl hA lives ?_ ?_ ?_ SV.noConfusion h2 rfl (fun l hl => hl) (fun l hl => .inl hl) fun t' e => by cases e
        · intro l l1 l2 l3 l4
          exact updH_ne _ _ (l1 (i * 20) (Nat.le_refl _) (by omega))
        · show v = updN g.hd (i * 20) v (i * 20)
          rw [updN_self]
        · show updH s.H (.row (i * 20)) (.row false e x.1) (.row (i * 20)) ≠ .bot
          rw [updH_self]; exact SV.noConfusion
      | nilp =>
        obtain ⟨h1, h2⟩ := hx
        exact rest (s0 := s) (g1 := g) (sv := .nilp) (x' := x) rfl hp rfl hs rfl rfl (GAgree.refl _ _) (fun _ _ => rfl) (fun _ _ _ _ _ => rfl) h1 trivial SV.noConfusion h2 rfl (fun _ h => h) (fun _ h => .inl h) fun t e => by cases e
      | fnc f n =>
        simp only [psOk] at hp
        obtain ⟨hp1, hp2⟩ := cond_and hp
        obtain rfl := Nat.eq_of_beq_eq_true hp1
        obtain ⟨⟨h1, h1'⟩, h2⟩ := hx
        have h0 : a.tmps.getD sl undef = v := hv 0 v rfl
        obtain ⟨g', b⟩ := ih (c := n) (d := i) (j := 0) (sl := sl + 1) (i := i + 1) (vs := vs) (x := x) (g := g) (s := s) hp2 hs h2 (fun k u hk => by
            have := hv (k + 1) u (by simpa [unf, capN] using hk)
            rwa [show sl + (k + 1) = sl + 1 + k from by omega] at this) (by simp at hi; omega) (fun r h => hr r (by omega)) (fun n h => hn n (by omega)) (fun e k h h' => hcb e k (by omega) h')
          (fun _ => ⟨by omega, fun k _ => hcb i k (Nat.le_refl _) (by simp at hi; omega)⟩) (fun k h => h9 k (by omega)) hLV
        have hcap : ∀ k, k < n → (initS s n i 0 (sl + 1) (i + 1) ps x).H (.comp i k) ≠ .bot ∧ g'.cv i k = vs.getD k undef := fun k hk => by
          have := b.cap k (vs.getD k undef) hk (by rw [List.getD_eq_getElem?_getD, List.getElem?_eq_getElem (by omega)]; rfl)
          rwa [Nat.zero_add] at this
        have hsl := b.sim.reslot (n := sl) (v := .fn f i n) (by
          rw [h0, h1]
          show _ = Value.func (.func f) #[] ((List.range n).map (g'.cv i)).toArray
          congr 2
          apply List.ext_getElem?
          intro k
          by_cases hk : k < n
          · rw [List.getElem?_take_of_lt hk, List.getElem?_map, List.getElem?_range hk]
            simp only [Option.map_some]
            rw [(hcap k hk).2, List.getD_eq_getElem?_getD, List.getElem?_eq_getElem (by omega)]; rfl
          · rw [List.getElem?_eq_none (by simp; omega), List.getElem?_eq_none (by simp; omega)]) fun k hk => (hcap k hk).1
        refine ⟨g', b.fl, b.own, hsl, b.live, b.ag, fun k v hk => by omega, b.lkS, b.lkH, b.lkI, fun _ l hl => b.keep (.inr (by simp at hi; omega)) l (hl.imp (fun ⟨n, h1, h2⟩ => ⟨n, by omega, h2⟩) fun ⟨k, h1, h2⟩ => ⟨k, by omega, h2⟩), fun k p t u hk hob hu => ?_⟩
        cases k with
        | zero => simp at hk; subst hk; cases hob
        | succ k =>
          have := b.pins k p t u (by simpa using hk) hob (by simpa using hu)
          rwa [show i + 1 + k = i + (k + 1) from by omega] at this
      | box =>
        obtain ⟨⟨pv, rest', rfl, bb, o, rfl, hval, hblk, hob, hfl⟩, h2⟩ := hx
        cases ps with
        | nil => exact Bool.noConfusion hp
        | cons q ps =>
        cases q <;> first | exact Bool.noConfusion hp | skip
        rename_i tq osq
        have hp' : cond (Nat.beq c 0) (psOk 1 (.obj tq osq :: ps)) false = true := hp
        obtain ⟨hp1, hp2⟩ := cond_and hp'
        obtain rfl := Nat.eq_of_beq_eq_true hp1
        have hi' : i + 1 + (PS.obj tq osq :: ps).length ≤ 900 := by simp at hi ⊢; omega
        have hlt : i < 999 := by simp at hi; omega
        have h0 : a.tmps.getD sl undef = v := hv 0 v rfl
        obtain ⟨g', b⟩ := ih (c := 1) (d := i) (j := 0) (sl := sl + 1) (i := i + 1) (vs := pv :: rest') (x := x) (g := g) (s := s) hp2 hs h2 (fun k u hk => by
            have := hv (k + 1) u (by simpa [unf, capN] using hk)
            rwa [show sl + (k + 1) = sl + 1 + k from by omega] at this) hi' (fun r h => hr r (by omega)) (fun n h => hn n (by omega)) (fun e k h h' => hcb e k (by omega) h')
          (fun _ => ⟨by omega, fun k _ => hcb i k (Nat.le_refl _) (by omega)⟩) (fun k h => h9 k (by omega)) hLV
        obtain ⟨z1, z2, z3, z4⟩ := b.pins 0 (.obj tq osq) tq pv rfl rfl rfl
        rw [Nat.add_zero] at z1 z2 z3 z4
        have kp := fun l hl => b.keep (.inr (by omega)) l hl
        have s1 : (initS s 1 i 0 (sl + 1) (i + 1) (.obj tq osq :: ps) x).H (.site i) = .bot := (kp _ (.inl ⟨i, by omega, .inl rfl⟩)).trans (hn i (Nat.le_refl _)).1
        have s2 : (initS s 1 i 0 (sl + 1) (i + 1) (.obj tq osq :: ps) x).H (.comp 999 i) = .bot := (kp _ (.inr ⟨i, by omega, rfl⟩)).trans (h9 i (Nat.le_refl _))
        have hpv : pv = .pointer (some ⟨g'.st (i + 1), 0, none⟩) := by
          have := b.sim.comps 999 (i + 1)
          rw [z2] at this
          rw [← z3]; exact this
        show ∃ g', InitOk C a w g s 0 d j i _ _ { initS s 1 i 0 (sl + 1) (i + 1) (.obj tq osq :: ps) x with S := updS (initS s 1 i 0 (sl + 1) (i + 1) (.obj tq osq :: ps) x).S sl (.adr i 0), H := updH (updH (updH (initS s 1 i 0 (sl + 1) (i + 1) (.obj tq osq :: ps) x).H (.fld i 0) (.adr (i + 1) 0)) (.site i) (.obj ptrTy)) (.comp 999 i) (.adr i 0), lkH := .comp 999 i :: .site i :: (initS s 1 i 0 (sl + 1) (i + 1) (.obj tq osq :: ps) x).lkH } g'
        generalize initS s 1 i 0 (sl + 1) (i + 1) (.obj tq osq :: ps) x = s' at *
        have hA : GAgree s'.H g' { g' with st := updN g'.st i bb } := ⟨fun n hn' => updN_ne _ _ fun e => hn' (e ▸ s1), fun _ _ => rfl, fun _ _ _ => rfl, rfl⟩
        have hg := b.sim.grow hA (IV.le.refl _) (fun n t hn' h => ⟨rfl, h, rfl⟩) (fun _ _ _ h => ⟨rfl, h, rfl⟩) b.sim.own b.sim.old b.sim.ext
        have hf := hg.setFld (n := i) (i := 0) (v := .adr (i + 1) 0) (fun t' => by rw [s1]; exact SV.noConfusion) SV.noConfusion (by show s'.H (.site (i + 1)) ≠ .bot; rw [z4]; exact SV.noConfusion)
        have hsite := hf.setSite (n := i) (t := ptrTy) ⟨[pv], by
          show Blk w (updN g'.st i bb i) [pv]
          rw [updN_self]; exact hblk, by
          show g'.own (updN g'.st i bb i) = _
          rw [updN_self, b.own]; exact hob, by
          show g'.fl (updN g'.st i bb i) = 0
          rw [updN_self, b.fl]; exact hfl, pv, rfl, by rw [hpv]; rfl, by
          show SR { g' with st := updN g'.st i bb } _ (updH s'.H (.fld i 0) (.adr (i + 1) 0) (.fld i 0)) pv
          rw [updH_self]
          show pv = Value.pointer (some ⟨updN g'.st i bb (i + 1), 0, none⟩)
          rw [updN_ne _ _ (by omega)]; exact hpv⟩
        have hcbot : updH (updH s'.H (.fld i 0) (.adr (i + 1) 0)) (.site i) (.obj ptrTy) (.comp 999 i) = .bot := by rw [updH_ne _ _ (by simp), updH_ne _ _ (by simp)]; exact s2
        have hcomp := hsite.setComp (d := 999) (i := i) (v := .adr i 0) (val := v) hcbot SV.noConfusion (by show updH (updH s'.H (.fld i 0) (.adr (i + 1) 0)) (.site i) (.obj ptrTy) (.site i) ≠ .bot; rw [updH_self]; exact SV.noConfusion) (by
          show v = Value.pointer (some ⟨updN g'.st i bb i, 0, none⟩)
          rw [updN_self]; exact hval)
        have hslot := hcomp.reslot (n := sl) (v := .adr i 0) (by
          rw [h0]
          show v = Value.pointer (some ⟨updN g'.st i bb i, 0, none⟩)
          rw [updN_self]; exact hval) (by
          show updH (updH (updH s'.H (.fld i 0) (.adr (i + 1) 0)) (.site i) (.obj ptrTy)) (.comp 999 i) (.adr i 0) (.site i) ≠ .bot
          rw [updH_ne _ _ (by simp), updH_self]; exact SV.noConfusion)
        have hsi : updH (updH (updH s'.H (.fld i 0) (.adr (i + 1) 0)) (.site i) (.obj ptrTy)) (.comp 999 i) (.adr i 0) (.site i) = .obj ptrTy := by
          rw [updH_ne _ _ (show HLoc.site i ≠ .comp 999 i by simp), updH_self]
        have same : ∀ l, l ≠ .fld i 0 → l ≠ .site i → l ≠ .comp 999 i → updH (updH (updH s'.H (.fld i 0) (.adr (i + 1) 0)) (.site i) (.obj ptrTy)) (.comp 999 i) (.adr i 0) l = s'.H l := fun l l1 l2 l3 => by rw [updH_ne _ _ l3, updH_ne _ _ l2, updH_ne _ _ l1]
        refine ⟨{ g' with st := updN g'.st i bb, cv := fun d' i' => if d' = 999 ∧ i' = i then v else g'.cv d' i' }, b.fl, b.own, hslot, fun l hl => ?_, ?_, fun k u hk => by omega, b.lkS, fun l hl => ?_, fun l hl => List.mem_cons_of_mem _ (List.mem_cons_of_mem _ (b.lkI l hl)), fun _ l hl => ?_, fun k p t u hk hob' hu => ?_⟩
        · refine (same l (fun e => hl (by rw [e]; exact (hn i (Nat.le_refl _)).2 0)) (fun e => hl (by rw [e]; exact (hn i (Nat.le_refl _)).1)) (fun e => hl (by rw [e]; exact h9 i (Nat.le_refl _)))).trans (b.live l hl)
        · refine ⟨fun n hn' => ?_, fun r hr' => b.ag.hd r hr', fun d' k' hne => ?_, b.ag.lv⟩
          · show updN g'.st i bb n = _
            rw [updN_ne _ _ (fun e => hn' (by rw [e]; exact (hn i (Nat.le_refl _)).1))]
            exact b.ag.st n hn'
          · have : ¬ (d' = 999 ∧ k' = i) := fun ⟨e1, e2⟩ => hne (by rw [e1, e2]; exact h9 i (Nat.le_refl _))
            show (if d' = 999 ∧ k' = i then v else g'.cv d' k') = _
            rw [if_neg this]
            exact b.ag.cv d' k' hne
        · rcases List.mem_cons.1 hl with rfl | hl
          · exact .inr (.inl ⟨i, rfl, updH_self _ _ _, by simp⟩)
          · rcases List.mem_cons.1 hl with rfl | hl
            · exact .inr (.inr ⟨i, ptrTy, rfl, hsi⟩)
            · rcases b.lkH l hl with hl | ⟨k, rfl, q1, q2⟩ | ⟨n, t, rfl, q1⟩
              · exact .inl hl
              · exact .inr (.inl ⟨k, rfl, (same _ (by simp) (by simp) (fun e => by rw [e, s2] at q1; cases q1)).trans q1, List.mem_cons_of_mem _ (List.mem_cons_of_mem _ q2)⟩)
              · exact .inr (.inr ⟨n, t, rfl, (same _ (by simp) (fun e => by rw [e, s1] at q1; cases q1) (by simp)).trans q1⟩)
        · refine (same l ?_ ?_ ?_).trans (kp l (hl.imp (fun ⟨n, h1, h2⟩ => ⟨n, by omega, h2⟩) fun ⟨k, h1, h2⟩ => ⟨k, by omega, h2⟩))
          · rintro rfl; rcases hl with ⟨n, h1, h | ⟨k, h⟩⟩ | ⟨k, h1, h⟩ <;> cases h; omega
          · rintro rfl; rcases hl with ⟨n, h1, h | ⟨k, h⟩⟩ | ⟨k, h1, h⟩ <;> cases h; omega
          · rintro rfl; rcases hl with ⟨n, h1, h | ⟨k, h⟩⟩ | ⟨k, h1, h⟩ <;> cases h; omega
        · cases k with
          | zero =>
            simp only [List.getElem?_cons_zero, Option.some.injEq] at hk hu
            subst hk; subst hu
            cases hob'
            rw [Nat.add_zero]
            exact ⟨by simp, updH_self _ _ _, by simp, hsi⟩
          | succ k =>
            obtain ⟨y1, y2, y3, y4⟩ := b.pins k p t u (by simpa using hk) hob' (by simpa using hu)
            rw [show i + 1 + k = i + (k + 1) from by omega] at y1 y2 y3 y4
            refine ⟨List.mem_cons_of_mem _ (List.mem_cons_of_mem _ y1), (same _ (by simp) (by simp) (by simp)).trans y2, ?_, (same _ (by simp) (by simp) (by simp)).trans y4⟩
            show (if 999 = 999 ∧ i + (k + 1) = i then v else g'.cv 999 (i + (k + 1))) = u
            rw [if_neg (by omega)]
            exact y3
      | obj t os =>
        obtain ⟨⟨b, cs, o, rfl, hval, hblk, hob, hfl, hF⟩, h2⟩ := hx
        simp only [psOk] at hp
        obtain ⟨hp1, hp2⟩ := cond_and hp
        have hlen : os.length ≤ 20 := Nat.le_of_ble_eq_true hp1
        have hlt : i < 999 := by simp at hi; omega
        have hbot : s.H (.site i) = .bot := (hn i (Nat.le_refl _)).1
        have hA : GAgree s.H g { g with st := updN g.st i b } := ⟨fun n hn' => updN_ne _ _ fun e => hn' (e ▸ hbot), fun _ _ => rfl, fun _ _ _ => rfl, rfl⟩
        have hg := hs.grow hA (IV.le.refl _) (fun n t hn' h => ⟨rfl, h, rfl⟩) (fun _ _ _ h => ⟨rfl, h, rfl⟩) hs.own hs.old hs.ext
        have hfrow : ∀ r, HLoc.row r ∈ fsts (spreadO (.fld i) (i * 20) os (lay t) x.1 0) → i * 20 ≤ r ∧ r < (i + 1) * 20 := fun r hr' => by
          rcases spread_mem hr' with ⟨k, hk⟩ | ⟨k, hk1, hk⟩
          · cases hk
          · simp only [HLoc.row.injEq] at hk
            have : k < os.length := (List.getElem?_eq_some_iff.1 hk1).1
            omega
        obtain ⟨hd', q1, q2, q3⟩ := spread_ok (T := Eq) (sh := fun o => o) (id := 0) (rid := i * 20) (n := i) (fun o t h => h) (fun k => by simp) hg (fun t' => by rw [hbot]; exact SV.noConfusion) hF fun r hr' => by
          rw [Nat.zero_add] at hr'
          exact hr r (hfrow r hr').1
        rw [Nat.zero_add] at q2 q3
        have hfin := q2.setSite (n := i) (t := t) ⟨cs, by
          show Blk w (updN g.st i b i) cs
          rw [updN_self]; exact hblk, by
          show g.own (updN g.st i b i) = _
          rw [updN_self]; exact hob, by
          show g.fl (updN g.st i b i) = 0
          rw [updN_self]; exact hfl, objCells_lay.2 q3⟩
        have eP : updH (puts s.H (spreadO (.fld i) (i * 20) os (lay t) x.1 0)) (.site i) (.obj t) = puts s.H (spreadO (.fld i) (i * 20) os (lay t) x.1 0 ++ [(.site i, .obj t)]) := by rw [puts_append]; rfl
        rw [eP] at hfin
        have hout : ∀ l, (∀ r, i * 20 ≤ r → r < (i + 1) * 20 → l ≠ .row r) → l ≠ .site i → (∀ k, l ≠ .fld i k) → puts s.H (spreadO (.fld i) (i * 20) os (lay t) x.1 0 ++ [(.site i, .obj t)]) l = s.H l := fun l l1 l2 l3 => by
          apply puts_ne
          rw [fsts_append, List.mem_append, not_or]
          refine ⟨fun hm => ?_, by simpa [fsts] using l2⟩
          rcases spread_mem hm with ⟨k, hk⟩ | ⟨k, hk1, hk⟩
          · exact l3 _ hk
          · rw [hk] at hm
            exact l1 _ (hfrow _ hm).1 (hfrow _ hm).2 hk
        have h9i : puts s.H (spreadO (.fld i) (i * 20) os (lay t) x.1 0 ++ [(.site i, .obj t)]) (.comp 999 i) = .bot := by
          rw [hout _ (fun _ _ _ => by simp) (by simp) (fun _ => by simp)]
          exact h9 i (Nat.le_refl _)
        have hsite : puts s.H (spreadO (.fld i) (i * 20) os (lay t) x.1 0 ++ [(.site i, .obj t)]) (.site i) = .obj t := by rw [← eP, updH_self]
        have hfin2 := hfin.setComp (d := 999) (i := i) (v := .adr i 0) (val := .pointer (some ⟨b, 0, none⟩)) h9i SV.noConfusion (by simp only [RefOk]; rw [hsite]; exact SV.noConfusion) (by
          show _ = Value.pointer (some ⟨updN g.st i b i, 0, none⟩)
          rw [updN_self])
        have hs2 : updH (puts s.H (spreadO (.fld i) (i * 20) os (lay t) x.1 0 ++ [(.site i, .obj t)])) (.comp 999 i) (.adr i 0) (.site i) = .obj t := by rw [updH_ne _ _ (by simp), hsite]
        have lives : ∀ l, s.H l ≠ .bot → updH (puts s.H (spreadO (.fld i) (i * 20) os (lay t) x.1 0 ++ [(.site i, .obj t)])) (.comp 999 i) (.adr i 0) l = s.H l := fun l hl => by
          rw [updH_ne _ _ (fun e => hl (by rw [e]; exact h9 i (Nat.le_refl _))), hout l (fun r h1 _ e => hl (by rw [e]; exact hr r h1)) (fun e => hl (by rw [e]; exact hbot)) fun k e => hl (by rw [e]; exact (hn i (Nat.le_refl _)).2 k)]
        refine rest (s0 := { s with H := updH (puts s.H (spreadO (.fld i) (i * 20) os (lay t) x.1 0 ++ [(.site i, .obj t)])) (.comp 999 i) (.adr i 0), lkH := .comp 999 i :: .site i :: s.lkH }) (g0 := { g with st := updN g.st i b, hd := hd', cv := fun d' i' => if d' = 999 ∧ i' = i then .pointer (some ⟨b, 0, none⟩) else g.cv d' i' }) (g1 := g) (sv := .adr i 0) (x' := x.2) rfl hp2 rfl hfin2 rfl rfl ?_ lives ?_ ?_ ?_ SV.noConfusion h2 rfl (fun l hl => by simp [hl]) (fun l hl => ?_) fun t' e => ?_
        · refine ⟨hA.st, fun r hr' => q1 r hr', fun d' k' hne => ?_, rfl⟩
          by_cases e : d' = 999 ∧ k' = i
          · obtain ⟨rfl, rfl⟩ := e; exact absurd (h9 _ (Nat.le_refl _)) hne
          · simp [e]
        · intro l l1 l2 l3 l4
          show updH _ _ _ l = _
          rw [updH_ne _ _ l4]; exact hout l l1 l2 l3
        · show _ = Value.pointer (some ⟨updN g.st i b i, 0, none⟩)
          rw [updN_self]; exact hval
        · intro e
          exact SV.noConfusion (hs2.symm.trans e)
        · rcases List.mem_cons.1 hl with rfl | hl
          · exact .inr (.inl ⟨i, rfl, updH_self _ _ _, by simp⟩)
          · rcases List.mem_cons.1 hl with rfl | hl
            · exact .inr (.inr ⟨i, t, rfl, hs2⟩)
            · exact .inl hl
        · cases e
          exact ⟨by simp, updH_self _ _ _, by simp [hval], hs2⟩
end
end Go.Sx
namespace Go.Sx
section
variable {C : Ctx} {g : Gh} {S : Nat → SV} {H : HLoc → SV} {a : Act} {w : World}
theorem FldsX.nodes {T : Own → Own → Prop} {fl : Nat → Nat} {own : Nat → Option Own} {rid : Nat} {k v : Ty} {cs : List Value} {x : (nodeTy k v).den} {i : Nat} (h : FldsX T fl own w rid [] (nodeTy k v) cs x i) :
    ∃ ck cv pl ph, cs = ck ++ (cv ++ [pl, ph, .int .i64 x.2.2.2.1, .int .i64 x.2.2.2.2.1]) ∧ CRep (view fl w) k ck x.1.1 ∧ CRep (view fl w) v cv x.1.2.1 ∧ TRep (view fl w) (CRep (view fl w) k) (CRep (view fl w) v) x.2.1 pl ∧ TRep (view fl w) (CRep (view fl w) k) (CRep (view fl w) v) x.2.2.1 ph := by
  obtain ⟨c1, c2, rfl, h1, d1, d2, rfl, h2, e1, e2, rfl, h3, f1, f2, rfl, h4, g1, g2, rfl, h5, h6⟩ := h
  obtain ⟨ck, r1, rfl, q1, cv, r2, rfl, q2, q3⟩ := (show CRep (view fl w) (.pair k (.pair v .unit)) c1 x.1 from h1)
  obtain rfl : r2 = [] := q3
  obtain ⟨pl, rfl, q4⟩ := (show CRep (view fl w) (.tree k v) d1 x.2.1 from h2)
  obtain ⟨ph, rfl, q5⟩ := (show CRep (view fl w) (.tree k v) e1 x.2.2.1 from h3)
  obtain rfl : f1 = [.int .i64 x.2.2.2.1] := h4
  obtain rfl : g1 = [.int .i64 x.2.2.2.2.1] := h5
  obtain rfl : g2 = [] := h6
  exact ⟨ck, cv, pl, ph, by simp, q1, q2, q4, q5⟩
/-- what is known of the end: rows and objects under new names, frozen trees -/
structure EndOk (T : Own → Own → Prop) (fl fl2 : Nat → Nat) (own own2 : Nat → Option Own) (w : World) (fz : List Nat) : Prop where
  rel : Relab T Eq fl fl2 own own2 w
  fz : ∀ n ∈ fz, ∀ b cs, own b = some (.site n) → Blk w b cs → fl2 b = cs.length
/-- what one result gives -/
def OutOk (C : Ctx) (g : Gh) (S : Nat → SV) (H : HLoc → SV) (a : Act) (w : World) (base : Nat) (r : RS) (val : Value) (x : r.ty.den) (pubs : HW) (drops keeps : List HLoc) : Prop :=
  Pubs H pubs ∧ ∃ (m : List (Own × Own)) (fz : List Nat), drops = (m.map fun p => locO p.1) ++ fz.map HLoc.site ∧
      ∀ {hw : HW} {fl : Nat → Nat} {own : Nat → Option Own}, (∀ y ∈ pubs, y ∈ hw) → Pubs H hw → (∀ l ∈ keeps, l ∉ fsts hw) → SimG C { g with fl := fl, own := own } S (puts H hw) a w → (view g.fl w).le (view fl w) →
      ∀ {T : Own → Own → Prop} {fl2 : Nat → Nat} {own2 : Nat → Option Own}, (∀ p ∈ m, T p.1 p.2) → EndOk T fl fl2 own own2 w fz → Res1 Eq fl2 own2 w base r val x
theorem outNew_ok (_hs : SimG C g S H a w) {t : Ty} {os : List Bool} {v : SV} {val : Value} {x : (lay t).den} {pubs : HW} {drops keeps : List HLoc} {fp fp' : List HLoc} (h : (outNew t os v).run H fp = some ((x, pubs, drops, keeps), fp'))
    (hv : SR g (view g.fl w) v val) (hr : RefOk H v) (base : Nat) : OutOk C g S H a w base (.newobj t os) val x pubs drops keeps := by
  simp only [outNew] at h
  split at h
  · rename_i s off
    cases hoff : Nat.beq off 0 with
    | false => rw [hoff] at h; exact (fail_some h).elim
    | true =>
      rw [hoff] at h
      simp only [cond, Rd.run] at h
      split at h
      · rename_i t' hobj
        cases hb : t'.beq t with
        | false => rw [hb] at h; exact (fail_some h).elim
        | true =>
          rw [hb] at h
          obtain rfl := Ty.beq_eq hb
          obtain ⟨⟨y, hw1⟩, fp1, k1, h⟩ := bind_some (show ((gatherO (.fld s) os (lay t') 0).bind _).run H _ = _ from h)
          obtain ⟨d, fp2, k2, h⟩ := bind_some h
          obtain ⟨e, _⟩ := ret_some h
          cases e
          obtain ⟨m1, d1, d2'⟩ := ownDs_ok (rid := base + 1) k2
          have hG := fun T (hT : ∀ p ∈ m1, T p.1 p.2) => gatherX_ok (C := C) (g := g) (S := S) (a := a) (w := w) (T := T) (rid := base + 1) (os := os) k1 fun k hk => by
            rcases d2' k hk with ⟨r, e1, e2⟩ | e1
            · exact .inl ⟨r, e1, hT _ e2⟩
            · exact .inr e1
          refine ⟨(hG (fun _ _ => True) fun _ _ => trivial).1, (.site s, .site base) :: m1, [], by rw [d1]; simp [locO], fun {hw fl own} hsub hp hk hs' hle T fl2 own2 hT hE => ?_⟩
          have hobj' : puts H hw (.site s) = .obj t' := by rw [pubs_site hp]; exact hobj
          obtain ⟨cs, h1, h2, h3, h4⟩ := hs'.sites s t' hobj'
          have hF : (fun i => puts H hw (.fld s i)) = fun i => H (.fld s i) := funext fun i => pubs_fld hp
          rw [objCells_lay, hF] at h4
          have hval : val = .pointer (some ⟨g.st s, 0, none⟩) := by
            obtain rfl := Nat.eq_of_beq_eq_true hoff
            exact hv
          have hkk : pbO os (cntT (lay t')) = false → ∀ k r, (os.take (cntT (lay t')))[k]? = some true → H (.fld s (0 + k)) = .hdr r → HLoc.row r ∉ fsts hw := fun hpb k r g1 g2 => hk _ (by
            rw [hpb]
            show HLoc.row r ∈ d
            rcases d2' k g1 with ⟨r', e1, e2⟩ | e1
            · rw [g2] at e1
              cases e1
              rw [d1]
              exact List.mem_map.2 ⟨_, e2, rfl⟩
            · rw [g2] at e1
              exact SV.noConfusion e1)
          have hO : ObjX T fl own w (.site base) (base + 1) os t' val y := ⟨g.st s, cs, .site s, hT (.site s, .site base) (by simp), hval, h1, h2, h3, (hG T fun p hp => hT p (by simp [hp])).2 hsub hp hkk hs' h4⟩
          exact hO.relab hE.rel
      · exact (fail_some h).elim
  · exact (fail_some h).elim
/-- one result -/
theorem outV_ok (hs : SimG C g S H a w) {r : RS} {v : SV} {val : Value} {x : r.ty.den} {pubs : HW} {drops keeps : List HLoc} {fp fp' : List HLoc} (h : (outV r v).run H fp = some ((x, pubs, drops, keeps), fp'))
    (hv : SR g (view g.fl w) v val) (hr : RefOk H v) (base : Nat) : OutOk C g S H a w base r val x pubs drops keeps := by
  cases r with
  | pure t =>
    have plain : ((toPV t v).bind fun p => Rd.ret (p.1, p.2, ([] : List HLoc), ([] : List HLoc))).run H fp = some ((x, pubs, drops, keeps), fp') → OutOk C g S H a w base (.pure t) val x pubs drops keeps := fun h => by
      obtain ⟨⟨y, hw1⟩, fp1, k1, h⟩ := bind_some h
      obtain ⟨e, _⟩ := ret_some h
      cases e
      obtain ⟨p1, p2⟩ := toPV_ok hs k1 hv hr
      exact ⟨p1, [], [], rfl, fun hsub hp hk hs' hle _ _ _ _ hE => VRep.mono hE.rel.le (p2 _ _ ((hs'.rowsRd hp).sub hsub) hle)⟩
    simp only [outV] at h
    split at h
    · rename_i s off k v'
      cases hoff : Nat.beq off 0 with
      | false => rw [hoff] at h; exact (fail_some h).elim
      | true =>
        rw [hoff] at h
        simp only [cond, Rd.run] at h
        split at h
        · rename_i t' hobj
          cases hb : t'.beq (nodeTy k v') with
          | false => rw [hb] at h; exact (fail_some h).elim
          | true =>
            rw [hb] at h
            obtain rfl := Ty.beq_eq hb
            obtain ⟨⟨y, hw1⟩, fp1, k1, h⟩ := bind_some (show ((gatherO (.fld s) [] (nodeTy k v') 0).bind _).run H _ = _ from h)
            obtain ⟨e, _⟩ := ret_some h
            cases e
            have hG := gatherX_ok (C := C) (g := g) (S := S) (a := a) (w := w) (T := fun _ _ => True) (rid := 0) (os := []) k1 fun k hk => by simp at hk
            refine ⟨hG.1, [], [s], rfl, fun {hw fl own} hsub hp hk hs' hle T fl2 own2 _ hE => ?_⟩
            have hobj' : puts H hw (.site s) = .obj (nodeTy k v') := by rw [pubs_site hp]; exact hobj
            obtain ⟨cs, h1, h2, h3, h4⟩ := hs'.sites s _ hobj'
            have hF : (fun i => puts H hw (.fld s i)) = fun i => H (.fld s i) := funext fun i => pubs_fld hp
            rw [objCells_lay, hF] at h4
            have hX := hG.2 hsub hp (fun hpb => Bool.noConfusion hpb) hs' h4
            obtain ⟨ck, cv, pl, ph, rfl, q1, q2, q3, q4⟩ := hX.nodes
            have hval : val = .pointer (some ⟨g.st s, 0, none⟩) := by
              obtain rfl := Nat.eq_of_beq_eq_true hoff
              exact hv
            have hfl := hE.fz s (by simp) _ _ h2 h1
            have hle2 := hE.rel.le
            refine ⟨[val], ⟨val, rfl, g.st s, 0, ck, cv, pl, ph, hval, q1.mono hle2, q2.mono hle2, TRep.mono hle2 (fun _ _ h => h.mono hle2) (fun _ _ h => h.mono hle2) q3, TRep.mono hle2 (fun _ _ h => h.mono hle2) (fun _ _ h => h.mono hle2) q4, fun j u hj => ?_⟩, rfl⟩
            rw [view_some, Nat.zero_add]
            have hlt := (List.getElem?_eq_some_iff.1 hj).1
            have hfl : fl2 (g.st s) = _ := hfl
            rw [hfl]
            exact ⟨hlt, by rw [h1.cell]; exact hj⟩
        · exact (fail_some h).elim
    · exact plain h
  | own pub e =>
    simp only [outV] at h
    split at h
    · obtain ⟨e, _⟩ := ret_some h
      cases e
      exact ⟨trivial, [], [], rfl, fun _ _ _ _ _ _ _ _ _ _ => .inl ⟨hv, rfl⟩⟩
    · rename_i r
      simp only [Rd.run] at h
      split at h
      · rename_i p e' l hrow
        cases hp : cond p pub true with
        | false => rw [hp] at h; exact (fail_some h).elim
        | true =>
          rw [hp] at h
          obtain ⟨y, fp1, k1, h⟩ := bind_some h
          obtain ⟨k1, _⟩ := ofO_run k1
          obtain ⟨e1, _⟩ := ret_some h
          cases e1
          obtain ⟨he, rfl⟩ := castTo_eq k1
          cases he
          refine ⟨?_, [(.row r, .row base)], [], rfl, fun {hw fl own} hsub hpb hk hs' hle T fl2 own2 hT hE => ?_⟩
          · cases pub <;> cases p <;> first | trivial | exact ⟨⟨r, false, e, l, rfl, rfl, .inl hrow⟩, trivial⟩
          · have hval : val = g.hd r := hv
            have hrow' : puts H hw (.row r) = .row pub e l := by
              cases pub with
              | true =>
                refine puts_pub hpb ?_
                cases p with
                | true => exact .inl hrow
                | false => exact .inr (hsub _ (by simp))
              | false =>
                have hpf : p = false := by cases p <;> simp_all
                rw [puts_ne (hk _ (by simp)), hrow, hpf]
            have hR : RowX T fl own w val (.row base) pub e l := .inr ⟨.row r, hT (.row r, .row base) (by simp), by rw [hval]; exact hs'.rows r pub e l hrow'⟩
            exact hR.relab hE.rel
      · exact (fail_some h).elim
    · exact (fail_some h).elim
  | deep e =>
    simp only [outV] at h
    split at h
    · obtain ⟨e, _⟩ := ret_some h
      cases e
      exact ⟨trivial, [], [], rfl, fun _ _ _ _ _ _ _ _ _ _ => .inl ⟨hv, rfl⟩⟩
    · rename_i r
      simp only [Rd.run] at h
      split at h
      · rename_i e' l n hh hrow
        cases hh with
        | some _ => exact (fail_some h).elim
        | none =>
          simp only [Rd.run] at h
          cases hn : decide (n = List.length l) with
          | false => rw [hn] at h; simp at h
          | true =>
            rw [hn] at h
            simp only [cond_true] at h
            obtain rfl := of_decide_eq_true hn
            obtain ⟨y, fp1, k1, h⟩ := bind_some h
            obtain ⟨k1, _⟩ := ofO_run k1
            obtain ⟨e1, _⟩ := ret_some h
            cases e1
            obtain ⟨he, rfl⟩ := castTo_eq k1
            cases he
            refine ⟨trivial, [(.row r, .row base)], [], rfl, fun {hw fl own} hsub hpb hk hs' hle T fl2 own2 hT hE => ?_⟩
            have hval : val = g.hd r := hv
            have hrow' : puts H hw (.row r) = .deep e l (List.length l) none := by rw [puts_ne (hk _ (by simp)), hrow]
            have hR : DeepX T fl own w val (.row base) e l := .inr ⟨.row r, hT (.row r, .row base) (by simp), by rw [hval]; exact hs'.deeps r e l _ none hrow'⟩
            exact hR.relab hE.rel
      · exact (fail_some h).elim
    · exact (fail_some h).elim
  | agg t os =>
    simp only [outV] at h
    split at h
    · rename_i d t'
      cases hb : t'.beq t with
      | false => rw [hb] at h; exact (fail_some h).elim
      | true =>
        rw [hb] at h
        simp only [cond_true] at h
        obtain rfl := Ty.beq_eq hb
        obtain ⟨⟨y, hw1⟩, fp1, k1, h⟩ := bind_some h
        obtain ⟨dd, fp2, k2, h⟩ := bind_some h
        obtain ⟨e, _⟩ := ret_some h
        cases e
        obtain ⟨m1, d1, d2'⟩ := ownDs_ok (rid := base) k2
        have hG := fun T (hT : ∀ p ∈ m1, T p.1 p.2) => gatherX_ok (C := C) (g := g) (S := S) (a := a) (w := w) (T := T) (rid := base) (os := os) k1 fun k hk => by
          rcases d2' k hk with ⟨r, e1, e2⟩ | e1
          · exact .inl ⟨r, e1, hT _ e2⟩
          · exact .inr e1
        refine ⟨(hG (fun _ _ => True) fun _ _ => trivial).1, m1, [], by rw [d1]; simp, fun {hw fl own} hsub hp hk hs' hle T fl2 own2 hT hE => ?_⟩
        obtain ⟨v1, v2, v3⟩ := hv
        have hF := agg_fields hs (d := d) v3
        have hF' := FieldsOk.change (H := H) (GAgree.same (g := g) (g' := { g with fl := fl, own := own }) rfl rfl rfl) hle (fun i => hs.refC d i) hF
        have hkk : pbO os (cntT t') = false → ∀ k r, (os.take (cntT t'))[k]? = some true → H (.comp d (0 + k)) = .hdr r → HLoc.row r ∉ fsts hw := fun hpb k r g1 g2 => hk _ (by
          rw [hpb]
          simp only [cond_false]
          rcases d2' k g1 with ⟨r', e1, e2⟩ | e1
          · rw [g2] at e1
            cases e1
            rw [d1]
            exact List.mem_map.2 ⟨_, e2, rfl⟩
          · rw [g2] at e1
            exact SV.noConfusion e1)
        exact ⟨_, v2, ((hG T fun p hp => hT p hp).2 hsub hp hkk hs' hF').relab hE.rel⟩
    · exact (fail_some h).elim
  | newobj t os => exact outNew_ok hs h hv hr base
  | maybe t os =>
    have some1 : ((outNew t os v).bind fun q => Rd.ret ((true, q.1), q.2)).run H fp = some ((x, pubs, drops, keeps), fp') → OutOk C g S H a w base (.maybe t os) val x pubs drops keeps := fun h => by
      obtain ⟨⟨y, p1, p2, p3⟩, fp1, k1, h⟩ := bind_some h
      obtain ⟨e, _⟩ := ret_some h
      cases e
      obtain ⟨q1, m, fz, q2, q3⟩ := outNew_ok hs k1 hv hr base
      exact ⟨q1, m, fz, q2, fun a1 a2 a3 a4 a5 _ _ _ a6 a7 => .inr ⟨rfl, q3 a1 a2 a3 a4 a5 a6 a7⟩⟩
    simp only [outV] at h
    split at h
    · obtain ⟨e, _⟩ := ret_some h
      cases e
      exact ⟨trivial, [], [], rfl, fun _ _ _ _ _ _ _ _ _ _ => .inl ⟨rfl, hv⟩⟩
    · exact some1 h

/-- the objects that came in -/
theorem outObjs_ok (_hs : SimG C g S H a w) {z0 : SV} : ∀ {ps : List PS} {i j : Nat} {vs : List Value} {x : (objsTy ps).den} {pubs : HW} {drops keeps : List HLoc} {fp fp' : List HLoc}, (outObjs z0 i ps).run H fp = some ((x, pubs, drops, keeps), fp') → vs.length = ps.length →
    (∀ (k : Nat) (p : PS) (t : Ty) (v : Value), ps[k]? = some p → isOb p = some t → vs[k]? = some v → v = Value.pointer (some ⟨g.st (i + k), 0, none⟩)) → (∀ q v, z0 = .hdr q → i = 0 → vs[0]? = some v → v = g.hd q) →
    Pubs H pubs ∧ ∃ m : List (Own × Own), drops = (m.map fun p => locO p.1) ∧
      ∀ {hw : HW} {fl : Nat → Nat} {own : Nat → Option Own}, (∀ y ∈ pubs, y ∈ hw) → Pubs H hw → (∀ l ∈ keeps, l ∉ fsts hw) → SimG C { g with fl := fl, own := own } S (puts H hw) a w → (view g.fl w).le (view fl w) →
      ∀ {T : Own → Own → Prop} {fl2 : Nat → Nat} {own2 : Nat → Option Own}, (∀ p ∈ m, T p.1 p.2) → Relab T Eq fl fl2 own own2 w → ObjsX Eq fl2 own2 w j ps vs x := by
  intro ps
  induction ps with
  | nil =>
    intro i j vs x pubs drops keeps fp fp' h hl _ _
    obtain ⟨e, _⟩ := ret_some h
    cases e
    exact ⟨trivial, [], rfl, fun _ _ _ _ _ _ _ _ _ _ => trivial⟩
  | cons p ps ih =>
    intro i j vs x pubs drops keeps fp fp' h hl hp0 hz0
    cases vs with
    | nil => simp at hl
    | cons v vs =>
      have hp1 : ∀ (k : Nat) (p : PS) (t : Ty) (v : Value), ps[k]? = some p → isOb p = some t → vs[k]? = some v → v = Value.pointer (some ⟨g.st (i + 1 + k), 0, none⟩) := fun k p t v h1 ho h2 => by
        have := hp0 (k + 1) p t v (by simpa using h1) ho (by simpa using h2)
        rwa [show i + (k + 1) = i + 1 + k from by omega] at this
      have hz1 : ∀ q v, z0 = .hdr q → i + 1 = 0 → vs[0]? = some v → v = g.hd q := fun q v _ h => absurd h (Nat.succ_ne_zero i)
      cases p with
      | pure t => exact ih (i := i + 1) (j := j) (vs := vs) h (by simpa using hl) hp1 hz1
      | lent t => exact ih (i := i + 1) (j := j) (vs := vs) h (by simpa using hl) hp1 hz1
      | nilp => exact ih (i := i + 1) (j := j) (vs := vs) h (by simpa using hl) hp1 hz1
      | fnc f n => exact ih (i := i + 1) (j := j) (vs := vs) h (by simpa using hl) hp1 hz1
      | box =>
        simp only [outObjs, Rd.run] at h
        split at h
        · rename_i t' hobj
          cases hb : t'.beq ptrTy with
          | false => rw [hb] at h; exact (fail_some h).elim
          | true =>
            rw [hb] at h
            obtain rfl := Ty.beq_eq hb
            simp only [cond, Rd.run] at h
            split at h
            · rename_i b o hfld
              cases hc : cond (headObj ps) (cond (Nat.beq b (i + 1)) (Nat.beq o 0) false) false with
              | false => simp only [cond] at hc; rw [hc] at h; exact (fail_some h).elim
              | true =>
                obtain ⟨e0, e3⟩ := cond_and hc
                obtain ⟨e1, e2⟩ := cond_and e3
                obtain rfl := Nat.eq_of_beq_eq_true e1
                obtain rfl := Nat.eq_of_beq_eq_true e2
                simp only [cond] at hc
                rw [hc] at h
                obtain ⟨⟨z, hw2, d2, ke2⟩, fp3, k3, h⟩ := bind_some h
                obtain ⟨e, _⟩ := ret_some h
                cases e
                obtain ⟨q1, m, q3, q4⟩ := ih (i := i + 1) (j := j + 1) (vs := vs) k3 (by simpa using hl) hp1 hz1
                refine ⟨q1, (.site i, .site (81 + 20 * j)) :: m, by rw [q3]; simp [locO], fun {hw fl own} hsub hp hke hs' hle T fl2 own2 hT hE => ⟨?_, q4 hsub hp hke hs' hle (fun p hp => hT p (by simp [hp])) hE⟩⟩
                have hobj' : puts H hw (.site i) = .obj ptrTy := by rw [pubs_site hp]; exact hobj
                obtain ⟨cs, h1, h2, h3, h4⟩ := hs'.sites i ptrTy hobj'
                obtain ⟨c, rfl, -, h5⟩ := h4
                have h5 : SR { g with fl := fl, own := own } (view fl w) (puts H hw (.fld i 0)) c := h5
                rw [pubs_fld hp, hfld] at h5
                have h5 : c = Value.pointer (some ⟨g.st (i + 1), 0, none⟩) := h5
                have hval := hp0 0 .box ptrTy v rfl rfl rfl
                rw [Nat.add_zero] at hval
                cases ps with
                | nil => exact Bool.noConfusion e0
                | cons q ps =>
                cases vs with
                | nil => simp at hl
                | cons pv rest =>
                have hq : ∃ t os, q = .obj t os := by cases q <;> first | exact Bool.noConfusion e0 | exact ⟨_, _, rfl⟩
                obtain ⟨t, os, rfl⟩ := hq
                have hpv := hp1 0 (.obj t os) t pv rfl rfl rfl
                rw [Nat.add_zero] at hpv
                have hO : BoxX T fl own w (.site (81 + 20 * j)) v pv := ⟨g.st i, .site i, hT (.site i, .site (81 + 20 * j)) (by simp), hval, by rw [hpv, ← h5]; exact h1, h2, h3⟩
                exact ⟨pv, rest, rfl, hO.relab hE⟩
            · exact (fail_some h).elim
        · exact (fail_some h).elim
      | row e =>
        simp only [outObjs] at h
        cases hi : Nat.beq i 0 with
        | false => rw [hi] at h; exact (fail_some h).elim
        | true =>
          rw [hi] at h
          have hi := Nat.eq_of_beq_eq_true hi
          cases z0 <;> first | exact (fail_some h).elim | skip
          rename_i q
          simp only [cond, Rd.run] at h
          split at h
          · rename_i pub e' l hrow
            cases pub with
            | true => exact (fail_some h).elim
            | false =>
              obtain ⟨y, fp1, k1, h⟩ := bind_some (show ((Rd.ofO (castTo (.slice e') (.slice e) l)).bind _).run H _ = _ from h)
              obtain ⟨⟨z, hw2, d2, ke2⟩, fp3, k3, h⟩ := bind_some h
              obtain ⟨e1, _⟩ := ret_some h
              obtain ⟨k1, _⟩ := ofO_run k1
              obtain ⟨he, hy⟩ := castTo_eq k1
              cases he
              cases hy
              cases e1
              obtain ⟨q1, m, q3, q4⟩ := ih (i := i + 1) (j := j + 1) (vs := vs) k3 (by simpa using hl) hp1 hz1
              refine ⟨q1, (.row q, .site (81 + 20 * j)) :: m, by rw [q3]; simp [locO], fun {hw fl own} hsub hp hke hs' hle T fl2 own2 hT hE => ⟨?_, q4 hsub hp (fun l hl => hke l (List.mem_cons_of_mem _ hl)) hs' hle (fun p hp => hT p (by simp [hp])) hE⟩⟩
              have hrow' : puts H hw (.row q) = .row false e l := by rw [puts_ne (hke (.row q) (List.mem_cons_self ..))]; exact hrow
              have h1 := rowOk_iff.1 (hs'.rows q false e l hrow')
              have hv : v = g.hd q := hz0 q v rfl hi rfl
              rw [hv]
              have hR : RowX T fl own w (g.hd q) (.site (81 + 20 * j)) false e l := .inr ⟨.row q, hT (.row q, .site (81 + 20 * j)) (by simp), h1⟩
              exact hR.relab hE
          · exact (fail_some h).elim
      | obj t os =>
        simp only [outObjs, Rd.run] at h
        split at h
        · rename_i t' hobj
          cases hb : t'.beq t with
          | false => rw [hb] at h; exact (fail_some h).elim
          | true =>
            rw [hb] at h
            obtain rfl := Ty.beq_eq hb
            obtain ⟨⟨y, hw1⟩, fp1, k1, h⟩ := bind_some (show ((gatherO (.fld i) os (lay t') 0).bind _).run H _ = _ from h)
            obtain ⟨d, fp2, k2, h⟩ := bind_some h
            obtain ⟨⟨z, hw2, d2, ke2⟩, fp3, k3, h⟩ := bind_some h
            obtain ⟨e, _⟩ := ret_some h
            cases e
            obtain ⟨m1, d1, d2'⟩ := ownDs_ok (rid := 80 + 20 * j) k2
            have hG := fun T (hT : ∀ p ∈ m1, T p.1 p.2) => gatherX_ok (C := C) (g := g) (S := S) (a := a) (w := w) (T := T) (rid := 80 + 20 * j) (os := os) k1 fun k hk => by
              rcases d2' k hk with ⟨r, e1, e2⟩ | e1
              · exact .inl ⟨r, e1, hT _ e2⟩
              · exact .inr e1
            obtain ⟨q1, m, q3, q4⟩ := ih (i := i + 1) (j := j + 1) (vs := vs) k3 (by simpa using hl) hp1 hz1
            refine ⟨Pubs.append.2 ⟨(hG (fun _ _ => True) fun _ _ => trivial).1, q1⟩, (.site i, .site (81 + 20 * j)) :: (m1 ++ m), by rw [d1, q3]; simp [locO], fun {hw fl own} hsub hp hke hs' hle T fl2 own2 hT hE => ⟨?_, q4 (fun y hy => hsub y (List.mem_append_right _ hy)) hp (fun l hl => hke l (List.mem_append_right _ hl)) hs' hle (fun p hp => hT p (by simp [hp])) hE⟩⟩
            have hobj' : puts H hw (.site i) = .obj t' := by rw [pubs_site hp]; exact hobj
            obtain ⟨cs, h1, h2, h3, h4⟩ := hs'.sites i t' hobj'
            have hF : (fun k => puts H hw (.fld i k)) = fun k => H (.fld i k) := funext fun k => pubs_fld hp
            rw [objCells_lay, hF] at h4
            have hval := hp0 0 (.obj t' os) t' v rfl rfl rfl
            have hkk : pbO os (cntT (lay t')) = false → ∀ k r, (os.take (cntT (lay t')))[k]? = some true → H (.fld i (0 + k)) = .hdr r → HLoc.row r ∉ fsts hw := fun hpb k r g1 g2 => hke _ (List.mem_append_left _ (by
              rw [hpb]
              show HLoc.row r ∈ d
              rcases d2' k g1 with ⟨r', e1, e2⟩ | e1
              · rw [g2] at e1
                cases e1
                rw [d1]
                exact List.mem_map.2 ⟨_, e2, rfl⟩
              · rw [g2] at e1
                exact SV.noConfusion e1))
            have hO : ObjX T fl own w (.site (81 + 20 * j)) (80 + 20 * j) os t' v y := ⟨g.st i, cs, .site i, hT (.site i, .site (81 + 20 * j)) (by simp), hval, h1, h2, h3, (hG T fun p hp => hT p (by simp [hp])).2 (fun y hy => hsub y (List.mem_append_left _ hy)) hp hkk hs' h4⟩
            exact hO.relab hE
        · exact (fail_some h).elim

/-- a result's value -/
def RVal (P : Program) (a : Act) (w : World) : ResultVar → Value → Prop
  | .tmp t, v => v = a.tmps.getD t undef
  | .cell c t, v => ((do loadVar t (← asAddr (a.tmps.getD c undef))) : Sem Value).run P w = .ok v w
def RVals (P : Program) (a : Act) (w : World) : List ResultVar → List Value → Prop
  | [], vs => vs = []
  | r :: rs, v :: vs => RVal P a w r v ∧ RVals P a w rs vs
  | _ :: _, [] => False
theorem outR_ok {P : Program} {tab : Tab} (hTab : TabOk P tab) {s : St} (hS : s.S = S) (hs : SimG C g S H a w) {r : RS} {v : ResultVar} {x : r.ty.den} {pubs : HW} {drops keeps : List HLoc} {fp fp' : List HLoc} (h : (outR tab s r v).run H fp = some ((x, pubs, drops, keeps), fp')) (base : Nat) :
    ∃ val, RVal P a w v val ∧ OutOk C g S H a w base r val x pubs drops keeps := by
  cases v with
  | tmp t =>
    rw [show outR tab s r (.tmp t) = outV r (s.S t) from rfl, hS] at h
    exact ⟨_, rfl, outV_ok hs h (hs.slots t) (hs.refS t) base⟩
  | cell c tid =>
    cases r with
    | pure t =>
      simp only [outR, hS] at h
      split at h
      · rename_i b off hb
        cases hq : cond (Nat.beq off 0) (tyIs tab tid t) false with
        | false => rw [hq] at h; exact (fail_some h).elim
        | true =>
          rw [hq] at h
          obtain ⟨h0, h1⟩ := cond_and hq
          obtain rfl := Nat.eq_of_beq_eq_true h0
          have ht : tl tab tid = some t := by
            unfold tyIs at h1
            cases hu : tl tab tid with
            | none => rw [hu] at h1; exact Bool.noConfusion h1
            | some u => rw [hu] at h1; rw [Ty.beq_eq h1]
          simp only [cond, Rd.run] at h
          split at h
          · rename_i t' hobj
            cases hb' : t'.beq t with
            | false => rw [hb'] at h; exact (fail_some h).elim
            | true =>
              rw [hb'] at h
              obtain rfl := Ty.beq_eq hb'
              obtain ⟨⟨y, hw1⟩, fp1, k1, h⟩ := bind_some (show ((gather (.fld b) t' 0).bind _).run H _ = _ from h)
              obtain ⟨e, _⟩ := ret_some h
              cases e
              obtain ⟨cs, hblk, h2, h3, h4⟩ := hs.sites b t' hobj
              obtain ⟨p1, p2⟩ := gather_ok k1
              have hag : t'.agg = true := by cases t' <;> first | rfl | exact (fail_some k1).elim
              unfold ObjCells at h4
              rw [hag] at h4
              have hlen : cs.length = t'.size := by
                have : ∀ {t : Ty} {cs : List Value} {i : Nat}, FieldsOk (fun i => H (.fld b i)) g (view g.fl w) t cs i → cs.length = t.size := by
                  intro t
                  induction t with
                  | pair A B _ hB => rintro cs i ⟨c1, c2, rfl, q1, _, _, q4⟩; rw [List.length_append, q1, hB q4]; rfl
                  | unit => intro cs i q; rw [show cs = [] from q]; rfl
                  | _ => intro cs i q; exact q.elim
                exact this h4
              have hv : a.tmps.getD c undef = .pointer (some ⟨g.st b, 0, none⟩) := by
                have := hs.slots c
                rw [hb] at this
                exact this
              refine ⟨mkV t' cs, ?_, p1, [], [], rfl, fun {hw fl own} hsub hp hk hs' hle _ _ _ _ hE => VRep.mono hE.rel.le ⟨cs, p2 _ _ _ ((hs'.rowsRd hp).sub hsub) (FieldsOk.change (H := H) (GAgree.same (g := g) (g' := { g with fl := fl, own := own }) rfl rfl rfl) hle (fun i => hs.refF b i) h4), rfl⟩⟩
              show ((do loadVar tid (← asAddr (a.tmps.getD c undef))) : Sem Value).run P w = _
              rw [hv]
              have := run_loadVar (w := w) (b := g.st b) (o := 0) (hTab.tys ht).w hlen (fun j v hj => by rw [hblk.cell, Nat.zero_add]; exact hj)
              simpa [asAddr] using this
          · exact (fail_some h).elim
      · exact (fail_some h).elim
    | agg t os =>
      simp only [outR, hS] at h
      split at h
      · rename_i b off hb
        cases hq : cond (Nat.beq off 0) (tyIs tab tid t) false with
        | false => rw [hq] at h; exact (fail_some h).elim
        | true =>
          rw [hq] at h
          obtain ⟨h0, h1⟩ := cond_and hq
          obtain rfl := Nat.eq_of_beq_eq_true h0
          have ht : tl tab tid = some t := by
            unfold tyIs at h1
            cases hu : tl tab tid with
            | none => rw [hu] at h1; exact Bool.noConfusion h1
            | some u => rw [hu] at h1; rw [Ty.beq_eq h1]
          simp only [cond, Rd.run] at h
          split at h
          · rename_i t' hobj
            cases hb' : t'.beq t with
            | false => rw [hb'] at h; exact (fail_some h).elim
            | true =>
              rw [hb'] at h
              obtain rfl := Ty.beq_eq hb'
              obtain ⟨⟨y, hw1⟩, fp1, k1, h⟩ := bind_some (show ((gatherO (.fld b) os t' 0).bind _).run H _ = _ from h)
              obtain ⟨dd, fp2, k2, h⟩ := bind_some h
              obtain ⟨e, _⟩ := ret_some h
              cases e
              obtain ⟨cs, hblk, h2, h3, h4⟩ := hs.sites b t' hobj
              have hag : t'.agg = true := by cases t' <;> first | rfl | exact (fail_some k1).elim
              unfold ObjCells at h4
              rw [hag] at h4
              have hlen : cs.length = t'.size := by
                have : ∀ {t : Ty} {cs : List Value} {i : Nat}, FieldsOk (fun i => H (.fld b i)) g (view g.fl w) t cs i → cs.length = t.size := by
                  intro t
                  induction t with
                  | pair A B _ hB => rintro cs i ⟨c1, c2, rfl, q1, _, _, q4⟩; rw [List.length_append, q1, hB q4]; rfl
                  | unit => intro cs i q; rw [show cs = [] from q]; rfl
                  | _ => intro cs i q; exact q.elim
                exact this h4
              have hv : a.tmps.getD c undef = .pointer (some ⟨g.st b, 0, none⟩) := by
                have := hs.slots c
                rw [hb] at this
                exact this
              obtain ⟨m1, d1, d2'⟩ := ownDs_ok (rid := base) k2
              have hG := fun T (hT : ∀ p ∈ m1, T p.1 p.2) => gatherX_ok (C := C) (g := g) (S := S) (a := a) (w := w) (T := T) (rid := base) (os := os) k1 fun k hk => by
                rcases d2' k hk with ⟨r, e1, e2⟩ | e1
                · exact .inl ⟨r, e1, hT _ e2⟩
                · exact .inr e1
              refine ⟨mkV t' cs, ?_, (hG (fun _ _ => True) fun _ _ => trivial).1, m1, [], by rw [d1]; simp, fun {hw fl own} hsub hp hk hs' hle T fl2 own2 hT hE => ⟨cs, by simp [mkV, hag], ?_⟩⟩
              rotate_left
              · have hF' := FieldsOk.change (H := H) (GAgree.same (g := g) (g' := { g with fl := fl, own := own }) rfl rfl rfl) hle (fun i => hs.refF b i) h4
                have hkk : pbO os (cntT t') = false → ∀ k r, (os.take (cntT t'))[k]? = some true → H (.fld b (0 + k)) = .hdr r → HLoc.row r ∉ fsts hw := fun hpb k r g1 g2 => hk _ (by
                  rw [hpb]
                  simp only [cond_false]
                  rcases d2' k g1 with ⟨r', e1, e2⟩ | e1
                  · rw [g2] at e1
                    cases e1
                    rw [d1]
                    exact List.mem_map.2 ⟨_, e2, rfl⟩
                  · rw [g2] at e1
                    exact SV.noConfusion e1)
                exact ((hG T fun p hp => hT p hp).2 hsub hp hkk hs' hF').relab hE.rel
              show ((do loadVar tid (← asAddr (a.tmps.getD c undef))) : Sem Value).run P w = _
              rw [hv]
              have := run_loadVar (w := w) (b := g.st b) (o := 0) (hTab.tys ht).w hlen (fun j v hj => by rw [hblk.cell, Nat.zero_add]; exact hj)
              simpa [asAddr] using this
          · exact (fail_some h).elim
      · exact (fail_some h).elim
    | _ => exact (fail_some h).elim
/-- all results, and the objects -/
theorem outs_ok {P : Program} {tab : Tab} (hTab : TabOk P tab) {s : St} (hS : s.S = S) (hs : SimG C g S H a w) {ps : List PS} {vs : List Value} {kR : Rd ((objsTy ps).den × HW × List HLoc × List HLoc)} {Q : (objsTy ps).den → HW → List HLoc → List HLoc → Prop}
    (hk : ∀ {x : (objsTy ps).den} {pubs : HW} {drops keeps : List HLoc} {fp fp' : List HLoc}, kR.run H fp = some ((x, pubs, drops, keeps), fp') → Q x pubs drops keeps) : ∀ {rs : List RS} {vars : List ResultVar} {i : Nat} {x : (resTy rs ps).den} {pubs : HW} {drops keeps : List HLoc} {fp fp' : List HLoc},
    (outs tab s ps rs vars kR).run H fp = some ((x, pubs, drops, keeps), fp') → ∃ vals z pubs1 pubs2 drops1 drops2 keeps1 keeps2, RVals P a w vars vals ∧ Q z pubs2 drops2 keeps2 ∧ pubs = pubs1 ++ pubs2 ∧ drops = drops1 ++ drops2 ∧ keeps = keeps1 ++ keeps2 ∧ Pubs H pubs1 ∧
      ∃ (m : List (Own × Own)) (fz : List Nat), (∀ l, l ∈ drops1 ↔ (∃ p ∈ m, l = locO p.1) ∨ ∃ n ∈ fz, l = .site n) ∧ (drops1.Nodup → (m.map fun p => locO p.1).Nodup ∧ ∀ p ∈ m, ∀ n ∈ fz, locO p.1 ≠ HLoc.site n) ∧
      ∀ {hw : HW} {fl : Nat → Nat} {own : Nat → Option Own}, (∀ y ∈ pubs1, y ∈ hw) → Pubs H hw → (∀ l ∈ keeps1, l ∉ fsts hw) → SimG C { g with fl := fl, own := own } S (puts H hw) a w → (view g.fl w).le (view fl w) →
      ∀ {T : Own → Own → Prop} {fl2 : Nat → Nat} {own2 : Nat → Option Own} {K : (objsTy ps).den → Prop}, (∀ p ∈ m, T p.1 p.2) → EndOk T fl fl2 own own2 w fz → K z → RessX Eq fl2 own2 w i rs ps vals x K
  | [], [], i, x, pubs, drops, keeps, fp, fp', h => ⟨[], x, [], pubs, [], drops, [], keeps, rfl, hk h, rfl, rfl, rfl, trivial, [], [], fun l => by simp, fun _ => by simp, fun _ _ _ _ _ _ _ _ _ _ _ hK => ⟨rfl, hK⟩⟩
  | [], v :: vars, i, x, pubs, drops, keeps, fp, fp', h => (fail_some h).elim
  | r :: rs, [], i, x, pubs, drops, keeps, fp, fp', h => (fail_some h).elim
  | r :: rs, v :: vars, i, x, pubs, drops, keeps, fp, fp', h => by
    obtain ⟨⟨y, pu1, dr1, ke1⟩, fp2, k2, h⟩ := bind_some (show ((outR tab s r v).bind _).run H fp = _ from h)
    obtain ⟨⟨z, pu2, dr2, ke2⟩, fp3, k3, h⟩ := bind_some h
    obtain ⟨e, _⟩ := ret_some h
    cases e
    obtain ⟨val, hval, p1, m1, fz1, e1, q1⟩ := outR_ok hTab hS hs k2 (1 + 20 * i)
    obtain ⟨vals, zz, a1, a2, b1, b2, c1, c2, hvals, hQ, e2, e3, e4, p2, m2, fz2, d1, d2, q2⟩ := outs_ok hTab hS hs (vs := vs) hk (i := i + 1) k3
    refine ⟨val :: vals, zz, pu1 ++ a1, a2, dr1 ++ b1, b2, ke1 ++ c1, c2, ⟨hval, hvals⟩, hQ, by rw [e2, List.append_assoc], by rw [e3, List.append_assoc], by rw [e4, List.append_assoc], Pubs.append.2 ⟨p1, p2⟩, m1 ++ m2, fz1 ++ fz2, fun l => ?_, fun hnd => ?_, fun {hw fl own} hsub hp hke hs' hle T fl2 own2 K hT hE hK => ⟨?_, ?_⟩⟩
    · rw [List.mem_append, e1, List.mem_append, d1 l]
      simp only [List.mem_map, List.mem_append]
      constructor
      · rintro ((⟨p, h1, rfl⟩ | ⟨n, h1, rfl⟩) | ⟨p, h1, rfl⟩ | ⟨n, h1, rfl⟩)
        · exact .inl ⟨p, .inl h1, rfl⟩
        · exact .inr ⟨n, .inl h1, rfl⟩
        · exact .inl ⟨p, .inr h1, rfl⟩
        · exact .inr ⟨n, .inr h1, rfl⟩
      · rintro (⟨p, h1 | h1, rfl⟩ | ⟨n, h1 | h1, rfl⟩)
        · exact .inl (.inl ⟨p, h1, rfl⟩)
        · exact .inr (.inl ⟨p, h1, rfl⟩)
        · exact .inl (.inr ⟨n, h1, rfl⟩)
        · exact .inr (.inr ⟨n, h1, rfl⟩)
    · obtain ⟨n1, n2, n3⟩ := List.nodup_append.1 hnd
      obtain ⟨r1, r2⟩ := d2 n2
      rw [e1] at n1
      obtain ⟨s1, s2, s3⟩ := List.nodup_append.1 n1
      have in1 : ∀ p ∈ m1, locO p.1 ∈ dr1 := fun p hp => by rw [e1]; exact List.mem_append_left _ (List.mem_map.2 ⟨p, hp, rfl⟩)
      have in2 : ∀ n ∈ fz1, HLoc.site n ∈ dr1 := fun p hp => by rw [e1]; exact List.mem_append_right _ (List.mem_map.2 ⟨p, hp, rfl⟩)
      have in3 : ∀ p ∈ m2, locO p.1 ∈ b1 := fun p hp => (d1 _).2 (.inl ⟨p, hp, rfl⟩)
      have in4 : ∀ n ∈ fz2, HLoc.site n ∈ b1 := fun n hn => (d1 _).2 (.inr ⟨n, hn, rfl⟩)
      refine ⟨?_, fun p hp n hn => ?_⟩
      · rw [List.map_append, List.nodup_append]
        refine ⟨s1, r1, fun u hu v hv => ?_⟩
        obtain ⟨p, hp, rfl⟩ := List.mem_map.1 hu
        obtain ⟨q, hq, rfl⟩ := List.mem_map.1 hv
        exact n3 _ (in1 p hp) _ (in3 q hq)
      · rcases List.mem_append.1 hp with hp | hp <;> rcases List.mem_append.1 hn with hn | hn
        · exact s3 _ (List.mem_map.2 ⟨p, hp, rfl⟩) _ (List.mem_map.2 ⟨n, hn, rfl⟩)
        · exact n3 _ (in1 p hp) _ (in4 n hn)
        · exact fun e => n3 _ (in2 n hn) _ (in3 p hp) e.symm
        · exact r2 p hp n hn
    · exact q1 (fun y hy => hsub y (List.mem_append_left _ hy)) hp (fun l hl => hke l (List.mem_append_left _ hl)) hs' hle (fun p hp => hT p (List.mem_append_left _ hp)) ⟨hE.rel, fun n hn => hE.fz n (List.mem_append_left _ hn)⟩
    · exact q2 (fun y hy => hsub y (List.mem_append_right _ hy)) hp (fun l hl => hke l (List.mem_append_right _ hl)) hs' hle (fun p hp => hT p (List.mem_append_right _ hp)) ⟨hE.rel, fun n hn => hE.fz n (List.mem_append_right _ hn)⟩ hK
end
end Go.Sx
namespace Go.Sx
theorem ArgsX_len {T : Own → Own → Prop} {fl : Nat → Nat} {own : Nat → Option Own} {w : World} : ∀ {ps : List PS} {i : Nat} {vs : List Value} {x : (argTy ps).den}, ArgsX T fl own w i ps vs x → vs.length = ps.length
  | [], _, _, _, h => by rw [show _ = [] from h]; rfl
  | .pure _ :: r, _, [], _, h => h.elim
  | .obj _ _ :: r, _, [], _, h => h.elim
  | .nilp :: r, _, [], _, h => h.elim
  | .fnc _ _ :: r, _, [], _, h => h.elim
  | .box :: r, _, [], _, h => h.elim
  | .row _ :: r, _, [], _, h => h.elim
  | .lent _ :: r, _, [], _, h => h.elim
  | .lent _ :: r, _, v :: vs, _, ⟨_, h⟩ => by simp [ArgsX_len h]
  | .pure _ :: r, _, v :: vs, _, ⟨_, h⟩ => by simp [ArgsX_len h]
  | .obj _ _ :: r, _, v :: vs, _, ⟨_, h⟩ => by simp [ArgsX_len h]
  | .nilp :: r, _, v :: vs, _, ⟨_, h⟩ => by simp [ArgsX_len h]
  | .fnc _ _ :: r, _, v :: vs, _, ⟨_, h⟩ => by simp [ArgsX_len h]
  | .box :: r, _, v :: vs, _, ⟨_, h⟩ => by simp [ArgsX_len h]
  | .row _ :: r, _, v :: vs, _, ⟨_, h⟩ => by simp [ArgsX_len h]
/-- how many slots the parameters take -/
def slotN : Nat → List PS → Nat
  | _, [] => 0
  | 0, p :: r => slotN (capN p) r + 1
  | c + 1, _ :: r => slotN c r
theorem unf_len : ∀ {ps : List PS} {c : Nat} {vs : List Value}, (unf c ps vs).length ≤ slotN c ps
  | [], c, vs => by cases c <;> simp [unf]
  | p :: r, 0, [] => by simp [unf]
  | p :: r, 0, v :: vs => by simp only [unf, slotN, List.length_cons]; exact Nat.succ_le_succ unf_len
  | p :: r, c + 1, [] => by simp [unf]
  | p :: r, c + 1, v :: vs => unf_len (ps := r)
theorem vals_run {P : Program} {w : World} {fn : Func} {a : Act} {vals : List Value} (h : RVals P a w fn.results.toList vals) : (Go.results fn a.tmps).run P w = .ok (retV vals) w := by
  have hm : ∀ {q : ResultVar → Sem Value} (_ : ∀ t, q (.tmp t) = pure (a.tmps.getD t undef)) (_ : ∀ c t, q (.cell c t) = do loadVar t (← asAddr (a.tmps.getD c undef))) {l : List ResultVar} {vals : List Value}, RVals P a w l vals → (l.mapM q).run P w = .ok vals w := by
    intro q hq hq2 l
    induction l with
    | nil => intro vals h; rw [show vals = [] from h]; rfl
    | cons r l ih =>
      intro vals h
      cases vals with
      | nil => exact h.elim
      | cons v vals =>
        obtain ⟨h1, h2⟩ := h
        cases r with
        | tmp t =>
          simp only [List.mapM_cons, Sem.run_bind, hq, Sem.run_pure, Result.andThen_ok, ih h2]
          rw [show v = _ from h1]
        | cell c t =>
          have h1 : (q (.cell c t)).run P w = .ok v w := by rw [hq2]; exact h1
          rw [List.mapM_cons, Sem.run_bind, h1, Result.andThen_ok, Sem.run_bind, ih h2]
          rfl
  have e : ∀ {l : List Value}, (if h : l.toArray.size = 1 then l.toArray[0] else Value.tuple l.toArray) = retV l := by
    intro l
    match l with
    | [] => rfl
    | [v] => rfl
    | u :: v :: l => simp [retV]
  unfold Go.results
  rw [Array.mapM_eq_mapM_toList]
  simp only [Sem.run_bind, Sem.run_map]
  rw [hm (fun t => rfl) (fun c t => rfl) h]
  simp only [Result.andThen_ok, Sem.run_pure, e]
theorem cell_lt {w : World} {b o : Nat} {v : Value} (h : w.cell? ⟨b, o, none⟩ = some v) : o < cellsOf w b := by
  unfold cellsOf
  simp only [World.cell?] at h
  split
  · rename_i c el fz hb
    rw [hb] at h
    simp at h
    exact (Array.getElem?_eq_some_iff.1 h).1
  · rename_i hb
    cases hx : w.heap[b]? with
    | none => rw [hx] at h; simp at h
    | some y =>
      rw [hx] at h
      cases y with
      | cells c el fz => exact absurd hx (hb c el fz)
      | _ => simp at h
/-- pinned: the objects that came in -/
def pinF (ps : List PS) (vs : List Value) (d i : Nat) : Option Value :=
  if d = 999 then
    match (ps[i]?).bind isOb with
    | some _ => vs[i]?
    | none => none
  else none
theorem pinF_some {ps : List PS} {vs : List Value} {d i : Nat} {v : Value} (h : pinF ps vs d i = some v) : d = 999 ∧ ∃ p t, ps[i]? = some p ∧ isOb p = some t ∧ vs[i]? = some v := by
  unfold pinF at h
  split at h
  · rename_i hd
    split at h
    · rename_i t hp
      obtain ⟨p, h1, h2⟩ := Option.bind_eq_some_iff.1 hp
      exact ⟨hd, p, t, h1, h2, h⟩
    · simp at h
  · simp at h
/-- what the executor makes of a body is a contract -/
theorem afun_ok {P : Program} {E : Env} {f : FuncId} {fn : Func} {ps : List PS} {rs : List RS} {F : (argTy ps).den → Option (resTy rs ps).den} (hTab : TabOk P E.tab) (hΓ : ∀ f sg, sg ∈ E.Γ f → FOk P f sg) (hm : P.follows .mixedOrders = true)
    (h1 : P.funcs[f]? = some fn) (hnt : Nat.beq E.nt fn.ntmps = true) (hname : (fn.name == "runtime.NumGoroutine") = false) (hbody : fn.body.isNone = false) (hps : psOk 0 ps = true) (hpl : Nat.ble ps.length 900 = true) (hsl : Nat.ble (slotN 0 ps) fn.ntmps = true) (hrs : Nat.ble rs.length 4 = true)
    (hF : ∀ x y, F x = some y → afun E fn ps rs x = some y) : FOk P f ⟨ps, rs, F⟩ := by
  refine ⟨Nat.le_of_ble_eq_true hrs, ⟨fn, h1, hbody, hname⟩, ?_⟩
  intro w fl own vs x y hown hargs hy
  have hA := hF x y hy
  unfold afun at hA
  split at hA
  · simp at hA
  rename_i c hc
  have hnt := Nat.eq_of_beq_eq_true hnt
  have hlen := ArgsX_len hargs
  refine calls_of_wp h1 hc ?_
  have hsz : (unf 0 ps vs).toArray.size ≤ fn.ntmps := Nat.le_trans (by simpa using unf_len) (Nat.le_of_ble_eq_true hsl)
  generalize hact : ({ tmps := (unf 0 ps vs).toArray ++ Array.replicate (fn.ntmps - (unf 0 ps vs).toArray.size) undef, defers := [] } : Act) = act
  have hasz : act.tmps.size = E.nt := by rw [← hact, hnt]; simp at hsz ⊢; omega
  have hslot : ∀ k v, (unf 0 ps vs)[k]? = some v → act.tmps.getD (0 + k) undef = v := fun k v hk => by
    rw [Nat.zero_add, ← hact]
    have hk' := (List.getElem?_eq_some_iff.1 hk).1
    rw [Array.getD_eq_getD_getElem?, Array.getElem?_append_left (by simpa using hk')]
    simp [hk]
  let C0 : Ctx := { w0 := w, fl0 := fl, M := fun b => own b ≠ none }
  let g0 : Gh := { fl := fl, own := own, st := fun _ => 0, hd := fun _ => undef, cv := fun _ _ => undef, lv := lvOf C0 }
  have hs0 : SimG C0 g0 St.empty.S St.empty.H act w :=
    { defers := by rw [← hact], slots := fun _ => trivial, comps := fun _ _ => trivial, sites := fun n t h => (by cases h), rows := fun r p e l h => (by cases h), deeps := fun _ _ _ _ _ h => (by cases h), refR := fun _ => trivial, refS := fun _ => trivial, refC := fun _ _ => trivial, refF := fun _ _ => trivial,
      own := fun b hb => ⟨hown b hb, .inr hb⟩, old := fun _ _ _ => rfl, ext := ⟨rfl, rfl, rfl, Nat.le_refl _, fun _ _ _ => rfl⟩, iv := IV.le.refl _, lv := rfl, pin := fun d i v h => (by cases h), low := fun n h => absurd h (Nat.not_lt_zero n) }
  obtain ⟨g1, hI⟩ := initS_ok (a := act) (sl := 0) (x := x) hps hs0 hargs hslot (by rw [Nat.zero_add]; exact Nat.le_of_ble_eq_true hpl) (fun _ _ => rfl) (fun _ _ => ⟨rfl, fun _ => rfl⟩) (fun _ _ _ _ => rfl) (fun h => absurd rfl h) (fun _ _ => rfl) (lvU_mono (IV.le.refl _) fun b hb => by
      cases ho : own b with
      | none => exact absurd ho hb
      | some o => exact ⟨o, o, ho, rfl⟩)
  generalize hst : initS St.empty 0 0 0 0 0 ps x = s0 at hA hI
  let C1 : Ctx := { w0 := w, fl0 := fl, M := fun b => own b ≠ none, pin := pinF ps vs, lo := E.lo, p0 := fun n => act.tmps.getD n undef }
  have hs1 : SimG C1 g1 s0.S s0.H act w := by
    have h := hI.sim
    exact { defers := h.defers, slots := h.slots, comps := h.comps, sites := h.sites, rows := h.rows, deeps := h.deeps, refR := h.refR, refS := h.refS, refC := h.refC, refF := h.refF, own := h.own, old := h.old, ext := h.ext, iv := h.iv, lv := h.lv,
            pin := fun d i v hp => by
              obtain ⟨rfl, p, t, p1, p0, p2⟩ := pinF_some hp
              obtain ⟨_, q2, q3, _⟩ := hI.pins i p t v p1 p0 p2
              rw [Nat.zero_add] at q2 q3
              exact ⟨by rw [q2]; exact SV.noConfusion, q3⟩,
            low := fun n _ => rfl }
  have hlk : LkC C1 s0 := by
    refine ⟨⟨fun n hn => ?_, fun l hl => ?_⟩, fun d i v hp => ?_⟩
    · rw [hI.lkS] at hn; exact absurd hn (by simp [St.empty])
    · rcases hI.lkH l hl with hl | ⟨k, rfl, q1, q2⟩ | ⟨n, t, rfl, q1⟩
      · exact absurd hl (by simp [St.empty])
      · rw [q1]; exact memL_iff.2 q2
      · rw [q1]; rfl
    · obtain ⟨rfl, p, t, p1, p0, p2⟩ := pinF_some hp
      have := (hI.pins i p t v p1 p0 p2).1
      rwa [Nat.zero_add] at this
  refine aexec_ok hTab (callOk (tab := E.tab) hΓ) hm c hA ⟨⟨hasz, Nat.le_refl _⟩, g1, hs1⟩ hlk fun e a' w' s' hs' hkeep hk => ?_
  obtain ⟨_, g, hs'⟩ := hs'
  have main : finish E.tab E.lo fn ps rs s' = some y → a'.defers = [] ∧ ∃ v, (Go.results fn a'.tmps).run P w' = .ok v w' ∧ (fun e w' => ∃ rv fl' own', e = Ending.returned (retV rv) ∧ Ext w (fun b => own b ≠ none) w' ∧ (∀ b, b < w.heap.size → own b = none → fl' b = fl b) ∧ (view fl w).le (view fl' w') ∧
      (∀ b, own' b ≠ none → b < w'.heap.size ∧ (w.heap.size ≤ b ∨ own b ≠ none)) ∧ RessX Eq fl' own' w' 0 rs ps rv y fun z => ObjsX Eq fl' own' w' 0 ps vs z) (.returned v) w' := by
    intro hfin
    unfold finish at hfin
    rw [Rd.runC_eq] at hfin
    obtain ⟨⟨⟨y', pubs, drops, keeps⟩, fp⟩, h2, h3⟩ := Option.bind_eq_some_iff.1 hfin
    simp only [force_eq] at h3
    cases hb : cond (nodupL drops) (disjL keeps (fsts pubs)) false with
    | false => rw [hb] at h3; simp at h3
    | true =>
      rw [hb] at h3
      simp only [cond, Option.some.injEq] at h3
      subst h3
      obtain ⟨b1, b2⟩ := cond_and hb
      have hnd := nodupL_ok b1
      have hpt : ∀ (k : Nat) (p : PS) (t : Ty) (v : Value), ps[k]? = some p → isOb p = some t → vs[k]? = some v → v = Value.pointer (some ⟨g.st (0 + k), 0, none⟩) := fun k p t v p1 p0 p2 => by
        obtain ⟨q1, q2, _, _⟩ := hI.pins k p t v p1 p0 p2
        rw [Nat.zero_add] at q1 q2 ⊢
        have e1 : s'.H (.comp 999 k) = .adr k 0 := (hkeep.H _ q1).trans q2
        have e2 := hs'.comps 999 k
        rw [e1] at e2
        have e3 := (hs'.pin 999 k v (by show pinF ps vs 999 k = some v; simp only [pinF, if_true, p1, Option.bind_some, p0, p2])).2
        rw [← e3]; exact e2
      have hz0 : ∀ q v, (cond (Nat.ble 1 E.lo) (s'.S 0) .bot : SV) = .hdr q → (0 : Nat) = 0 → vs[0]? = some v → v = g.hd q := fun q v hq _ hv => by
        cases hlo : Nat.ble 1 E.lo with
        | false => rw [hlo] at hq; cases hq
        | true =>
          rw [hlo] at hq
          have hq : s'.S 0 = .hdr q := hq
          have h1 := hs'.slots 0
          rw [hq] at h1
          have h2 := hs'.low 0 (Nat.le_of_ble_eq_true hlo)
          have h3 : (unf 0 ps vs)[0]? = some v := by
            cases vs with
            | nil => simp at hv
            | cons u us =>
              cases ps with
              | nil => simp at hlen
              | cons p ps => simpa [unf] using hv
          have h4 := hslot 0 v h3
          rw [Nat.zero_add] at h4
          have h5 : a'.tmps.getD 0 undef = g.hd q := h1
          rw [← h4, ← h5]
          exact h2.symm
      obtain ⟨vals, z, pu1, pu2, dr1, dr2, ke1, ke2, hvars, ⟨r1, m2, r3, r4⟩, e1, e2, e3, p1, m1, fz, d1, d2, q1⟩ := outs_ok (s := s') (vs := vs) hTab rfl hs' (fun h => outObjs_ok hs' (j := 0) h hlen hpt hz0) (i := 0) h2
      obtain ⟨fl1, own1, hs2, hle⟩ := hs'.pubs (hw := pubs) (by rw [e1]; exact Pubs.append.2 ⟨p1, r1⟩)
      have hPubs : Pubs s'.H pubs := by rw [e1]; exact Pubs.append.2 ⟨p1, r1⟩
      rw [e2] at hnd
      obtain ⟨n1, n2, n3⟩ := List.nodup_append.1 hnd
      obtain ⟨d3, d4⟩ := d2 n1
      rw [r3] at n2 n3
      have hmN : ((m1 ++ m2).map fun p => p.1).Nodup := by
        apply nodup_fst
        rw [List.map_append, List.nodup_append]
        refine ⟨d3, n2, fun u hu v hv => ?_⟩
        obtain ⟨p, hp, rfl⟩ := List.mem_map.1 hu
        exact n3 _ ((d1 _).2 (.inl ⟨p, hp, rfl⟩)) _ hv
      have hmz : ∀ p ∈ m1 ++ m2, ∀ n ∈ fz, p.1 ≠ Own.site n := fun p hp n hn e => by
        rcases List.mem_append.1 hp with hp | hp
        · exact d4 p hp n hn (by rw [e]; rfl)
        · exact n3 _ ((d1 _).2 (.inr ⟨n, hn, rfl⟩)) (locO p.1) (List.mem_map.2 ⟨p, hp, rfl⟩) (by rw [e]; rfl)
      let fl2 : Nat → Nat := open Classical in fun b => if ∃ n ∈ fz, own1 b = some (.site n) then cellsOf w' b else fl1 b
      let own2 : Nat → Option Own := fun b => (own1 b).bind (lookO (m1 ++ m2) fun _ => none)
      have hE : EndOk (fun o t => (o, t) ∈ m1 ++ m2) fl1 fl2 own1 own2 w' fz := by
        refine ⟨⟨fun b o v hv => ?_, fun o t ht => ⟨t, rfl, fun b hb => ⟨?_, ?_⟩⟩⟩, fun n hn b cs hb hblk => ?_⟩
        · rw [view_some] at hv ⊢
          refine ⟨?_, hv.2⟩
          by_cases hz : ∃ n ∈ fz, own1 b = some (.site n)
          · simp only [fl2, if_pos hz]; exact cell_lt hv.2
          · simp only [fl2, if_neg hz]; exact hv.1
        · simp only [own2, hb, Option.bind_some]; exact lookO_mem hmN (o, t) ht
        · have hz : ¬ ∃ n ∈ fz, own1 b = some (.site n) := by
            rintro ⟨n, hn, hb'⟩
            rw [hb] at hb'
            exact hmz _ ht n hn (Option.some.inj hb')
          simp only [fl2, if_neg hz]
        · have hz : ∃ n ∈ fz, own1 b = some (.site n) := ⟨n, hn, hb⟩
          simp only [fl2, if_pos hz]
          obtain ⟨el, fz', hh, _⟩ := hblk
          simp [cellsOf, hh]
      have hown1 : ∀ b, own1 b ≠ none → b < w'.heap.size ∧ (w.heap.size ≤ b ∨ own b ≠ none) := fun b hb => hs2.own b hb
      refine ⟨hs'.defers, _, vals_run hvars, vals, fl2, own2, rfl, hs2.ext, fun b hb hn => ?_, hs2.iv.trans hE.rel.le, fun b hb => ?_, ?_⟩
      · have h0 : own1 b = none := by
          cases ho : own1 b with
          | none => rfl
          | some o =>
            rcases (hown1 b (by rw [ho]; simp)).2 with h | h
            · omega
            · exact absurd hn h
        have hz : ¬ ∃ n ∈ fz, own1 b = some (.site n) := by rintro ⟨n, _, h⟩; rw [h0] at h; cases h
        simp only [fl2, if_neg hz]
        exact hs2.old b hb (fun h => h hn)
      · refine hown1 b fun h => hb ?_
        simp only [own2, h]; rfl
      · refine q1 (hw := pubs) (fun y hy => by rw [e1]; exact List.mem_append_left _ hy) hPubs (fun l hl => disjL_ok b2 l (by rw [e3]; exact List.mem_append_left _ hl)) hs2 hle (T := fun o t => (o, t) ∈ m1 ++ m2) (fun p hp => List.mem_append_left _ hp) hE ?_
        exact r4 (hw := pubs) (fun y hy => by rw [e1]; exact List.mem_append_right _ hy) hPubs (fun l hl => disjL_ok b2 l (by rw [e3]; exact List.mem_append_right _ hl)) hs2 hle (T := fun o t => (o, t) ∈ m1 ++ m2) (fun p hp => List.mem_append_right _ hp) hE.rel
  cases e with
  | normal => exact main hk
  | ret => exact main hk
  | _ => exact absurd hk (by simp)
end Go.Sx
