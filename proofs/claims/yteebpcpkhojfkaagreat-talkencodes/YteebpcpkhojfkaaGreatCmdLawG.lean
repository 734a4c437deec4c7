/-
  Plain laws of what lies below, as this seat reaches them (by a program of the bench: port.py).
-/
import Derived.Test.YteebpcpkhojfkaaGreatCmdLawF
import Derived.Test.YteebpcpkhojfkaaGreatSxR
namespace Go.Proofs.YteebpcpkhojfkaaGreat
open Go.Sx Go Classical
set_option maxRecDepth 10000
theorem inTextG (s : In) (h : Sm s) : F130 (s, 60000, ()) = some ((textG s).1, (textG s).2, ()) := inText_eq s 60000 (by omega) (by unfold Sm at h; omega)
abbrev NoV : VerD := (0, 0, 0, 0, [], 0, false, ())
def MayVer (v : VerD) : Prop := v = NoV ∨ VerOk v
theorem mayVer_eq (v : VerD) : F235 (v, ()) = some (dec' (MayVer v), ()) := by
  obtain ⟨a1, a2, a3, a4, a5, a6, a7, ⟨⟩⟩ := v
  have hv := ver1 (a1, a2, a3, a4, a5, a6, a7, ())
  unfold F235
  simp only [hv, Option.bind_some]
  apply fin
  · repeat' first | apply base_true | apply base_false | apply base_dec | apply cond_step | apply cond_stepN | apply cond_stepB
  · unfold MayVer NoV; simp only [Prod.mk.injEq, Bool.and_eq_true, decide_eq_true_eq, beq_iff_eq, and_true]; grind
abbrev verB : VerD → List UInt8 := consB numB (consB numB (consB numB (consB numB (consB textB (consB numB (consB flagB unitB))))))
abbrev verR : In → VerD × In := consG numG (consG numG (consG numG (consG numG (consG textG (consG numG (consG flagG unitG))))))
noncomputable abbrev verG : In → VerD × In := guardG NoV (fun v => dec' (MayVer v)) verR
abbrev VerP : VerD → Prop := consOk In64 (consOk In64 (consOk In64 (consOk In64 (consOk (fun s => s.length ≤ 60000) (consOk In64 (consOk (fun _ => True) (fun _ => True)))))))
abbrev VerQ (v : VerD) : Prop := VerP v ∧ dec' (MayVer v) = true
theorem verC : Codec verB verG VerQ := guardC (consC numC (consC numC (consC numC (consC numC (consC textC (consC numC (consC flagC unitC))))))) NoV (fun v => dec' (MayVer v))
theorem getVer_eq (s : In) (h : Sm s) : F225 (s, ()) = some ((verG s).1, (verG s).2, ()) := by
  unfold F225
  have h4 := sm_of numC (sm_of numC (sm_of numC (sm_of numC h)))
  simp only [inNumG, inTextG _ h4, inFlagG, bad_eq, fail_eq, mayVer_eq, Option.bind_some]
  exact guard_eq NoV (fun v => dec' (MayVer v)) verR s
abbrev NoItem : T70D := ([], NoV, ())
def MayItem (x : T70D) : Prop := (x.1 = [] ∨ IsKey x.1) ∧ MayVer x.2.1
theorem mayItem_eq (x : T70D) : F219 (x, ()) = some (dec' (MayItem x), ()) := by
  obtain ⟨k, v, ⟨⟩⟩ := x
  have hv := mayVer_eq v
  unfold F219
  simp only [key_eq, hv, Option.bind_some]
  apply fin
  · repeat' first | apply base_true | apply base_false | apply base_dec | apply cond_step | apply cond_stepN
  · unfold MayItem; grind
abbrev itemB : T70D → List UInt8 := consB textB (consB verB unitB)
noncomputable abbrev itemR : In → T70D × In := consG textG (consG verG unitG)
noncomputable abbrev itemG : In → T70D × In := guardG NoItem (fun v => dec' (MayItem v)) itemR
abbrev ItemP : T70D → Prop := consOk (fun s => s.length ≤ 60000) (consOk VerQ (fun _ => True))
abbrev ItemQ (v : T70D) : Prop := ItemP v ∧ dec' (MayItem v) = true
theorem itemC : Codec itemB itemG ItemQ := guardC (consC textC (consC verC unitC)) NoItem (fun v => dec' (MayItem v))
theorem getItem_eq (s : In) (h : Sm s) : F194 (s, ()) = some ((itemG s).1, (itemG s).2, ()) := by
  unfold F194
  simp only [inTextG s h, getVer_eq _ (sm_of textC h), bad_eq, fail_eq, mayItem_eq, Option.bind_some]
  exact guard_eq NoItem (fun v => dec' (MayItem v)) itemR s
abbrev itemsB : List T70D → List UInt8 := listB itemB
noncomputable abbrev itemsG : In → List T70D × In := listG itemG
theorem item_one (x : T70D) : 1 ≤ (itemB x).length := by
  unfold itemB consB; rw [List.length_append, textB_len]; omega
abbrev ListQ {α : Type} (p : α → Prop) (l : List α) : Prop := l.length ≤ 60000 ∧ ∀ v ∈ l, p v
theorem itemsC : Codec itemsB itemsG (ListQ ItemQ) := listC itemC item_one
theorem getItems_eq (s : In) (h : Sm s) : F193 (s, ()) = some ((itemsG s).1, (itemsG s).2, ()) := by
  unfold F193
  simp only [inCount_eq s 60000 (by omega) (by unfold Sm at h; omega), Option.bind_some]
  refine list_loop itemC s h (fun i l t hi hi2 hl ht => ?_) ?_
  · simp only [decide_eq_true hi, cond_true, getItem_eq t ht, Option.bind_some, app1 hi2 hl, wrap64_nat (show i < 9223372036854775807 by omega)]
  · simp only [Int.lt_irrefl, decide_false, cond_false]
abbrev NoReply : T51D := (0, 0, false, 0, [], 0, 0, ())
abbrev replyB : T51D → List UInt8 := consB kindB (consB numB (consB flagB (consB numB (consB itemsB (consB kindB (consB numB unitB))))))
noncomputable abbrev replyR : In → T51D × In := consG kindG (consG numG (consG flagG (consG numG (consG itemsG (consG kindG (consG numG unitG))))))
noncomputable abbrev replyG : In → T51D × In := guardG NoReply (fun v => dec' (ReplyOk v)) replyR
abbrev ReplyP : T51D → Prop := consOk Ok8 (consOk In64 (consOk (fun _ => True) (consOk In64 (consOk (ListQ ItemQ) (consOk Ok8 (consOk In64 (fun _ => True)))))))
abbrev ReplyQ (v : T51D) : Prop := ReplyP v ∧ dec' (ReplyOk v) = true
theorem replyC : Codec replyB replyG ReplyQ := guardC (consC kindC (consC numC (consC flagC (consC numC (consC itemsC (consC kindC (consC numC unitC))))))) NoReply (fun v => dec' (ReplyOk v))
theorem getReply_eq (s : In) (h : Sm s) : F131 (s, ()) = some ((replyG s).1, (replyG s).2, ()) := by
  unfold F131
  have h4 := sm_of numC (sm_of flagC (sm_of numC (sm_of kindC h)))
  have e := getItems_eq _ h4
  have hr := reply_eq (replyR s).1 (by
    have := listG_len itemC (numG (flagG (numG (kindG s).2).2).2).2
    exact Nat.le_trans this (by omega))
  have hk : ∀ t : In, (byteG t).2 = (kindG t).2 := fun _ => rfl
  simp only [inNumG, inByteG, inFlagG, bad_eq, fail_eq, Option.bind_some, hk, e]
  refine Eq.trans ?_ (guard_eq NoReply (fun v => dec' (ReplyOk v)) replyR s)
  refine congrArg (fun z => bif (replyR s).2.2.1 then _ else z) ?_
  exact bind_of hr rfl
abbrev sessB : List T94D → List UInt8 := listB (consB numB (consB numB (consB replyB unitB)))
noncomputable abbrev sess1G : In → T94D × In := consG numG (consG numG (consG replyG unitG))
noncomputable abbrev sessG : In → List T94D × In := listG sess1G
abbrev SessQ1 : T94D → Prop := consOk In64 (consOk In64 (consOk ReplyQ (fun _ => True)))
theorem sess1C : Codec (consB numB (consB numB (consB replyB unitB))) sess1G SessQ1 := consC numC (consC numC (consC replyC unitC))
theorem sessC : Codec sessB sessG (ListQ SessQ1) := listC sess1C (num_one _)
abbrev leasesB : List T113D → List UInt8 := listB (consB numB (consB numB (consB numB unitB)))
noncomputable abbrev lease1G : In → T113D × In := consG numG (consG numG (consG numG unitG))
noncomputable abbrev leasesG : In → List T113D × In := listG lease1G
abbrev LeaseQ1 : T113D → Prop := consOk In64 (consOk In64 (consOk In64 (fun _ => True)))
theorem lease1C : Codec (consB numB (consB numB (consB numB unitB))) lease1G LeaseQ1 := consC numC (consC numC (consC numC unitC))
theorem leasesC : Codec leasesB leasesG (ListQ LeaseQ1) := listC lease1C (num_one _)
theorem getHanded_eq (s : In) (h : Sm s) : F195 (s, ()) = some ((sessG s).1, (leasesG (sessG s).2).1, (leasesG (sessG s).2).2, ()) := by
  have h2 := sm_of sessC h
  unfold F195
  simp only [inCount_eq s 60000 (by omega) (by unfold Sm at h; omega), Option.bind_some]
  refine list_loop sess1C s h (fun i l t hi hi2 hl ht => ?_) ?_
  · have hg := getReply_eq (numG (numG t).2).2 (sm_of numC (sm_of numC ht))
    simp only [decide_eq_true hi, cond_true, inNumG, hg, Option.bind_some, app1M hi2 hl, wrap64_nat (show i < 9223372036854775807 by omega)]
    rfl
  · simp only [Int.lt_irrefl, decide_false, cond_false]
    refine (congrArg (Option.map Sum.inr) (?_ : _ = some ((sessG s).1, (leasesG (sessG s).2).1, (leasesG (sessG s).2).2, ()))).trans rfl
    simp only [inCount_eq (sessG s).2 60000 (by omega) (by unfold Sm at h2; omega), Option.bind_some]
    refine list_loop lease1C (sessG s).2 h2 (fun i l t hi hi2 hl ht => ?_) ?_
    · simp only [decide_eq_true hi, cond_true, inNumG, Option.bind_some, app1 hi2 hl, wrap64_nat (show i < 9223372036854775807 by omega)]
      rfl
    · simp only [Int.lt_irrefl, decide_false, cond_false]
abbrev cmp1B : T96D → List UInt8 := consB textB (consB kindB (consB kindB (consB numB (consB textB unitB))))
abbrev cmp1G : In → T96D × In := consG textG (consG kindG (consG kindG (consG numG (consG textG unitG))))
abbrev CmpQ1 : T96D → Prop := consOk (fun s => s.length ≤ 60000) (consOk Ok8 (consOk Ok8 (consOk In64 (consOk (fun s => s.length ≤ 60000) (fun _ => True)))))
theorem cmp1C : Codec cmp1B cmp1G CmpQ1 := consC textC (consC kindC (consC kindC (consC numC (consC textC unitC))))
abbrev cmpsB : List T96D → List UInt8 := listB cmp1B
abbrev cmpsG : In → List T96D × In := listG cmp1G
theorem cmpsC : Codec cmpsB cmpsG (ListQ CmpQ1) := listC cmp1C (text_one _)
abbrev op1B : T48D → List UInt8 := consB kindB (consB textB (consB textB (consB textB (consB numB unitB))))
abbrev op1G : In → T48D × In := consG kindG (consG textG (consG textG (consG textG (consG numG unitG))))
abbrev OpQ1 : T48D → Prop := consOk Ok8 (consOk (fun s => s.length ≤ 60000) (consOk (fun s => s.length ≤ 60000) (consOk (fun s => s.length ≤ 60000) (consOk In64 (fun _ => True)))))
theorem op1C : Codec op1B op1G OpQ1 := consC kindC (consC textC (consC textC (consC textC (consC numC unitC))))
abbrev opsB : List T48D → List UInt8 := listB op1B
abbrev opsG : In → List T48D × In := listG op1G
theorem opsC : Codec opsB opsG (ListQ OpQ1) := listC op1C (kind_one _)
theorem getCmps_eq (s : In) (h : Sm s) : F223 (s, ()) = some ((cmpsG s).1, (cmpsG s).2, ()) := by
  unfold F223
  simp only [inCount_eq s 60000 (by omega) (by unfold Sm at h; omega), Option.bind_some]
  refine list_loop cmp1C s h (fun i l t hi hi2 hl ht => ?_) ?_
  · have hk : ∀ t : In, (byteG t).2 = (kindG t).2 := fun _ => rfl
    have h4 := sm_of numC (sm_of kindC (sm_of kindC (sm_of textC ht)))
    simp only [decide_eq_true hi, cond_true, inNumG, inByteG, hk, inTextG t ht, inTextG _ h4, Option.bind_some, app1 hi2 hl, wrap64_nat (show i < 9223372036854775807 by omega)]
    rfl
  · simp only [Int.lt_irrefl, decide_false, cond_false]
theorem getOps_eq (s : In) (h : Sm s) : F224 (s, ()) = some ((opsG s).1, (opsG s).2, ()) := by
  unfold F224
  simp only [inCount_eq s 60000 (by omega) (by unfold Sm at h; omega), Option.bind_some]
  refine list_loop op1C s h (fun i l t hi hi2 hl ht => ?_) ?_
  · have hk : ∀ t : In, (byteG t).2 = (kindG t).2 := fun _ => rfl
    have h1 := sm_of kindC ht
    have h2 := sm_of textC h1
    have h3 := sm_of textC h2
    simp only [decide_eq_true hi, cond_true, inNumG, inByteG, hk, inTextG _ h1, inTextG _ h2, inTextG _ h3, Option.bind_some, app1 hi2 hl, wrap64_nat (show i < 9223372036854775807 by omega)]
    rfl
  · simp only [Int.lt_irrefl, decide_false, cond_false]
abbrev cmdB : T28D → List UInt8 := consB kindB (consB textB (consB textB (consB textB (consB numB (consB numB (consB numB (consB cmpsB (consB opsB (consB opsB (consB numB (consB numB (consB numB (consB flagB (consB itemsB (consB sessB (consB leasesB unitB))))))))))))))))
noncomputable abbrev cmdG : In → T28D × In := consG kindG (consG textG (consG textG (consG textG (consG numG (consG numG (consG numG (consG cmpsG (consG opsG (consG opsG (consG numG (consG numG (consG numG (consG flagG (consG itemsG (consG sessG (consG leasesG unitG))))))))))))))))
abbrev T6 : List UInt8 → Prop := fun s => s.length ≤ 60000
abbrev CmdQ : T28D → Prop := consOk Ok8 (consOk T6 (consOk T6 (consOk T6 (consOk In64 (consOk In64 (consOk In64 (consOk (ListQ CmpQ1) (consOk (ListQ OpQ1) (consOk (ListQ OpQ1) (consOk In64 (consOk In64 (consOk In64 (consOk (fun _ => True) (consOk (ListQ ItemQ) (consOk (ListQ SessQ1) (consOk (ListQ LeaseQ1) (fun _ => True)))))))))))))))))
theorem cmdC : Codec cmdB cmdG CmdQ := consC kindC (consC textC (consC textC (consC textC (consC numC (consC numC (consC numC (consC cmpsC (consC opsC (consC opsC (consC numC (consC numC (consC numC (consC flagC (consC itemsC (consC sessC (consC leasesC unitC))))))))))))))))
theorem getCmd_eq (s : In) (h : Sm s) : F192 (s, ()) = some ((cmdG s).1, (cmdG s).2, ()) := by
  have hk : ∀ t : In, (byteG t).2 = (kindG t).2 := fun _ => rfl
  have h1 := sm_of kindC h
  have h2 := sm_of textC h1
  have h3 := sm_of textC h2
  have h4 := sm_of numC (sm_of numC (sm_of numC (sm_of textC h3)))
  have h5 := sm_of cmpsC h4
  have h6 := sm_of opsC h5
  have h7 := sm_of flagC (sm_of numC (sm_of numC (sm_of numC (sm_of opsC h6))))
  have h8 := sm_of itemsC h7
  unfold F192
  simp only [inNumG, inByteG, inFlagG, hk, inTextG _ h1, inTextG _ h2, inTextG _ h3, getCmps_eq _ h4, getOps_eq _ h5, getOps_eq _ h6, getItems_eq _ h7, getHanded_eq _ h8, Option.bind_some]
  simp only [cmdG, consG, unitG, kindG]
abbrev NoMove : T53D := (0, 0, 0, [], [], 0, [], 0, 0, 0, ())
abbrev moveB : T53D → List UInt8 := consB kindB (consB numB (consB numB (consB textB (consB textB (consB numB (consB textB (consB numB (consB numB (consB numB unitB)))))))))
abbrev moveR : In → T53D × In := consG kindG (consG numG (consG numG (consG textG (consG textG (consG numG (consG textG (consG numG (consG numG (consG numG unitG)))))))))
noncomputable abbrev moveG : In → T53D × In := guardG NoMove (fun v => dec' (MoveOk v)) moveR
abbrev MoveP : T53D → Prop := consOk Ok8 (consOk In64 (consOk In64 (consOk T6 (consOk T6 (consOk In64 (consOk T6 (consOk In64 (consOk In64 (consOk In64 (fun _ => True))))))))))
abbrev MoveQ (v : T53D) : Prop := MoveP v ∧ dec' (MoveOk v) = true
theorem moveC : Codec moveB moveG MoveQ := guardC (consC kindC (consC numC (consC numC (consC textC (consC textC (consC numC (consC textC (consC numC (consC numC (consC numC unitC)))))))))) NoMove (fun v => dec' (MoveOk v))
theorem getMove_eq (s : In) (h : Sm s) : F134 (s, ()) = some ((moveG s).1, (moveG s).2, ()) := by
  have hk : ∀ t : In, (byteG t).2 = (kindG t).2 := fun _ => rfl
  have h1 := sm_of numC (sm_of numC (sm_of kindC h))
  have h2 := sm_of textC h1
  have h3 := sm_of numC (sm_of textC h2)
  unfold F134
  simp only [inNumG, inByteG, hk, inTextG _ h1, inTextG _ h2, inTextG _ h3, bad_eq, fail_eq, move_eq, Option.bind_some]
  exact guard_eq NoMove (fun v => dec' (MoveOk v)) moveR s
abbrev NoHand : T55D := (0, 0, [], [], ())
abbrev handB : T55D → List UInt8 := consB numB (consB numB (consB sessB (consB leasesB unitB)))
noncomputable abbrev handR : In → T55D × In := consG numG (consG numG (consG sessG (consG leasesG unitG)))
noncomputable abbrev handG : In → T55D × In := guardG NoHand (fun v => dec' (HandOk v)) handR
abbrev HandP : T55D → Prop := consOk In64 (consOk In64 (consOk (ListQ SessQ1) (consOk (ListQ LeaseQ1) (fun _ => True))))
abbrev HandQ (v : T55D) : Prop := HandP v ∧ dec' (HandOk v) = true
theorem handC : Codec handB handG HandQ := guardC (consC numC (consC numC (consC sessC (consC leasesC unitC)))) NoHand (fun v => dec' (HandOk v))
end Go.Proofs.YteebpcpkhojfkaaGreat
