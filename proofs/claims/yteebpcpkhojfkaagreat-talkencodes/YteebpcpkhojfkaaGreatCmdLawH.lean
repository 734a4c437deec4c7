/-
  Plain laws of what lies below, as this seat reaches them (by a program of the bench: port.py).
-/
import Derived.Test.YteebpcpkhojfkaaGreatCmdLawG
import Derived.Test.YteebpcpkhojfkaaGreatSxR
namespace Go.Proofs.YteebpcpkhojfkaaGreat
open Go.Sx Go Classical
set_option maxRecDepth 10000
abbrev FitG (t : Ty) (g : In → t.den × In) : Prop := ∀ s, Fit47 t (g s).1
theorem fit_num : FitG (.int .i64) numG := fun _s => wrap64_in _
theorem fit_kind : FitG (.int .i64) kindG := fun _s => wrap64_in _
theorem fit_flag : FitG .bool flagG := fun _ => trivial
theorem fit_unit : FitG .unit unitG := fun _ => trivial
theorem text_most (s : In) : (textG s).1.length ≤ 60000 := by
  have h1 := takeI_len (countI s 60000).2 (countI s 60000).1.toNat
  have h2 := countI_le s 60000 (by omega)
  unfold textG textI
  omega
theorem fit_text : FitG .str textG := fun s => Nat.le_trans (text_most s) (by omega)
theorem fit_cons {a b : Ty} {g : In → a.den × In} {h : In → b.den × In} (h1 : FitG a g) (h2 : FitG b h) : FitG (.pair a b) (consG g h) := fun s => ⟨h1 s, h2 _⟩
theorem fit_list {a : Ty} {g : In → a.den × In} (h : FitG a g) : FitG (.slice a) (listG g) := fun s =>
  ⟨by
    have h2 := countI_le s 60000 (by omega)
    have h3 := manyG_many g (countI s 60000).1.toNat (countI s 60000).2
    show (manyG g _ _).1.length ≤ _
    omega, manyG_all h _ _⟩
theorem fit_guard {a : Ty} {z : a.den} {may : a.den → Bool} {g : In → a.den × In} (hz : Fit47 a z) (h : FitG a g) : FitG a (guardG z may g) := fun s => by
  unfold guardG
  cases (bif (g s).2.2.1 then true else !may (g s).1) with
  | true => exact hz
  | false => exact h s
theorem fitNoV : Fit47 T66 NoV := by simp [Fit47, IntKind.min, IntKind.max, IntKind.bits, IntKind.signed]
theorem fit_ver : FitG T66 verG := fit_guard fitNoV (fit_cons fit_num (fit_cons fit_num (fit_cons fit_num (fit_cons fit_num (fit_cons fit_text (fit_cons fit_num (fit_cons fit_flag fit_unit)))))))
theorem fitNoItem : Fit47 T70 NoItem := ⟨by simp [Fit47], fitNoV, trivial⟩
theorem fit_item : FitG T70 itemG := fit_guard fitNoItem (fit_cons fit_text (fit_cons fit_ver fit_unit))
theorem fitNoReply : Fit47 T51 NoReply := by simp [Fit47, IntKind.min, IntKind.max, IntKind.bits, IntKind.signed]
theorem fit_reply : FitG T51 replyG := fit_guard fitNoReply (fit_cons fit_kind (fit_cons fit_num (fit_cons fit_flag (fit_cons fit_num (fit_cons (fit_list fit_item) (fit_cons fit_kind (fit_cons fit_num fit_unit)))))))
theorem fit_sess : FitG (.slice T94) sessG := fit_list (fit_cons fit_num (fit_cons fit_num (fit_cons fit_reply fit_unit)))
theorem fit_leases : FitG (.slice T113) leasesG := fit_list (fit_cons fit_num (fit_cons fit_num (fit_cons fit_num fit_unit)))
theorem fit_cmps : FitG (.slice T96) cmpsG := fit_list (fit_cons fit_text (fit_cons fit_kind (fit_cons fit_kind (fit_cons fit_num (fit_cons fit_text fit_unit)))))
theorem fit_ops : FitG (.slice T48) opsG := fit_list (fit_cons fit_kind (fit_cons fit_text (fit_cons fit_text (fit_cons fit_text (fit_cons fit_num fit_unit)))))
theorem fit_cmd : FitG T28 cmdG := fit_cons fit_kind (fit_cons fit_text (fit_cons fit_text (fit_cons fit_text (fit_cons fit_num (fit_cons fit_num (fit_cons fit_num (fit_cons fit_cmps (fit_cons fit_ops (fit_cons fit_ops (fit_cons fit_num (fit_cons fit_num (fit_cons fit_num (fit_cons fit_flag (fit_cons (fit_list fit_item) (fit_cons fit_sess (fit_cons fit_leases fit_unit))))))))))))))))
theorem fitNoMove : Fit47 T53 NoMove := by simp [Fit47, IntKind.min, IntKind.max, IntKind.bits, IntKind.signed]
theorem fit_move : FitG T53 moveG := fit_guard fitNoMove (fit_cons fit_kind (fit_cons fit_num (fit_cons fit_num (fit_cons fit_text (fit_cons fit_text (fit_cons fit_num (fit_cons fit_text (fit_cons fit_num (fit_cons fit_num (fit_cons fit_num fit_unit))))))))))
theorem fitNoHand : Fit47 T55 NoHand := by simp [Fit47, IntKind.min, IntKind.max, IntKind.bits, IntKind.signed]
theorem fit_handR : FitG T55 handR := fit_cons fit_num (fit_cons fit_num (fit_cons fit_sess (fit_cons fit_leases fit_unit)))
theorem fit_hand : FitG T55 handG := fit_guard fitNoHand fit_handR
theorem sh_of {α : Type} {l : List α} (h : l.length ≤ 140737488351232) : Sh l := Nat.le_trans h (by omega)
theorem szReply {r : T51D} (h : Fit47 T51 r) : SzReply r := by
  obtain ⟨-, -, -, -, ⟨h1, h2⟩, -⟩ := h
  exact ⟨sh_of h1, fun x hx => (h2 x hx).1⟩
theorem szSess {l : List T94D} (h : Fit47 (.slice T94) l) : SzSess l := ⟨sh_of h.1, fun s hs => szReply (h.2 s hs).2.2.1⟩
theorem shSess {l : List T94D} (h : Fit47 (.slice T94) l) : ShS l := ⟨sh_of h.1, fun s hs => (szReply (h.2 s hs).2.2.1).1⟩
theorem szCmd {c : T28D} (h : Fit47 T28 c) : SzCmd c := by
  obtain ⟨k, a2, a3, a4, a5, a6, a7, a8, a9, a10, a11, a12, a13, a14, a15, a16, a17, ⟨⟩⟩ := c
  obtain ⟨-, h2, h3, -, -, -, -, h8, h9, h10, -, -, -, -, h15, h16, h17, -⟩ := h
  refine ⟨⟨sh_of h8.1, sh_of h9.1, sh_of h10.1, sh_of h15.1, shSess h16, sh_of h17.1⟩, ⟨h8.1, h9.1, h10.1, h16.1, h17.1⟩, h2, h3, fun x hx => (h8.2 x hx).1, fun o ho => ?_, fun o ho => ?_, ⟨sh_of h15.1, fun x hx => (h15.2 x hx).1⟩, szSess h16⟩
  · obtain ⟨-, g1, g2, g3, -⟩ := h9.2 o ho
    exact ⟨g1, g2, g3⟩
  · obtain ⟨-, g1, g2, g3, -⟩ := h10.2 o ho
    exact ⟨g1, g2, g3⟩
theorem szHand {c : T55D} (h : Fit47 T55 c) : SzHand c ∧ ShH c := by
  obtain ⟨a1, a2, a3, a4, ⟨⟩⟩ := c
  obtain ⟨-, -, h3, h4, -⟩ := h
  exact ⟨⟨szSess h3, sh_of h4.1⟩, shSess h3, sh_of h4.1⟩
theorem szMove {m : T53D} (h : Fit47 T53 m) : SzMove m := by
  obtain ⟨a1, a2, a3, a4, a5, a6, a7, a8, a9, a10, ⟨⟩⟩ := m
  obtain ⟨-, -, -, h4, h5, -, h7, -⟩ := h
  exact ⟨h4, h5, h7⟩
theorem getHand_eq (s : In) (h : Sm s) : F133 (s, ()) = some ((handG s).1, (handG s).2, ()) := by
  unfold F133
  have h2 := sm_of numC (sm_of numC h)
  have hh := hand_eq (handR s).1 (szHand (fit_handR s)).2
  simp only [inNumG, getHanded_eq _ h2, bad_eq, fail_eq, Option.bind_some]
  refine Eq.trans ?_ (guard_eq NoHand (fun v => dec' (HandOk v)) handR s)
  refine congrArg (fun z => bif (handR s).2.2.1 then _ else z) ?_
  exact bind_of hh rfl
abbrev jobB : T33D → List UInt8 := consB numB (consB numB (consB cmdB unitB))
noncomputable abbrev jobG : In → T33D × In := consG numG (consG numG (consG cmdG unitG))
abbrev JobQ : T33D → Prop := consOk In64 (consOk In64 (consOk CmdQ (fun _ => True)))
theorem jobC : Codec jobB jobG JobQ := consC numC (consC numC (consC cmdC unitC))
abbrev NoCmd : T28D := (0, [], [], [], 0, 0, 0, [], [], [], 0, 0, 0, false, [], [], [], ())
abbrev NoJob : T33D := (0, 0, NoCmd, ())
def Good (b : List UInt8) : Prop := b.length ≤ 12000 ∧ (jobG (b, false, ())).2.2.1 = false ∧ (jobG (b, false, ())).2.1 = [] ∧ JobOk (jobG (b, false, ())).1
theorem job_shape (X : In → T28D × In) (s : In) : consG numG (consG numG (consG X unitG)) s = (((numG s).1, (numG (numG s).2).1, (X (numG (numG s).2).2).1, ()), (X (numG (numG s).2).2).2) := rfl
theorem decode_eq (b : List UInt8) (h : b.length ≤ 1000000000) : F128 (b, ()) = some (bif dec' (Good b) then ((jobG (b, false, ())).1, 0, ()) else (NoJob, 2, ())) := by
  unfold F128 Good
  have hs : Sm (b, false, ()) := h
  have h2 := sm_of numC (sm_of numC hs)
  have ej : jobG (b, false, ()) = _ := job_shape cmdG (b, false, ())
  rw [ej]
  simp only [newIn_eq b (by omega), inNumG, getCmd_eq _ h2, Option.bind_some]
  have hf := fit_cmd (numG (numG (b, false, ())).2).2
  generalize (numG (b, false, ())).1 = n1
  generalize (numG (numG (b, false, ())).2).1 = n2
  generalize (numG (numG (b, false, ())).2).2 = S0 at hf ⊢
  generalize (cmdG S0).1 = C at hf ⊢
  generalize (cmdG S0).2 = S
  have hj := job_eq (n1, n2, C, ()) (szCmd hf).1
  obtain ⟨s1, s2, ⟨⟩⟩ := S
  simp only [done_eq, hj, Option.bind_some]
  by_cases c1 : b.length ≤ 12000
  · have e1 : decide ((12000 : Int) < Int.ofNat b.length) = false := decide_eq_false (by simp; omega)
    simp only [e1, cond_false]
    cases s2 with
    | true =>
      rw [dec_false (p := b.length ≤ 12000 ∧ true = false ∧ s1 = [] ∧ JobOk (n1, n2, C, ())) (fun h => Bool.noConfusion h.2.1)]
      rfl
    | false =>
      simp only [Bool.not_false, cond_true]
      by_cases c2 : s1 = []
      · subst c2
        simp only [List.length_nil, c1, true_and]
        by_cases c3 : JobOk (n1, n2, C, ())
        · rw [dec_true c3]; rfl
        · rw [dec_false c3]; rfl
      · have e2 : decide (Int.ofNat s1.length = 0) = false := decide_eq_false (by simp; exact c2)
        rw [e2, dec_false (p := b.length ≤ 12000 ∧ True ∧ s1 = [] ∧ JobOk (n1, n2, C, ())) (fun h => c2 h.2.2.1)]
        rfl
  · have e1 : decide ((12000 : Int) < Int.ofNat b.length) = true := decide_eq_true (by simp; omega)
    rw [e1, dec_false (p := b.length ≤ 12000 ∧ s2 = false ∧ s1 = [] ∧ JobOk (n1, n2, C, ())) (fun h => c1 h.1)]
    rfl
end Go.Proofs.YteebpcpkhojfkaaGreat
