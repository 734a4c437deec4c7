/-
 Plain laws of what lies below,as this seat reaches them (by a program of the bench: port.py).
-/
import Derived.Test.YteebpcpkhojfkaaGreatRmsgLawC
import Derived.Test.YteebpcpkhojfkaaGreatSxS
namespace Go.Proofs.YteebpcpkhojfkaaGreat
open Go.Sx Go Classical
set_option maxRecDepth 10000
theorem zfI {T R:Type} {step:T→Option (T⊕R)} {t0 t1 t2 t3 t4 t5:T} {r:R} (h0:step t0=some (.inl t1)) (h1:step t1=some (.inl t2)) (h2:step t2=some (.inl t3)) (h3:step t3=some (.inl t4)) (h4:step t4=some (.inl t5)) (h5:step t5=some (.inr r)):iter step big t0=some r:=by
 obtain⟨n,hn⟩:∃ n,big=n+6:=⟨big-6,by rw[jv]⟩
 rw[hn];simp only[iter,h0,h1,h2,h3,h4,h5,Option.bind_some,Sum.elim_inl,Sum.elim_inr]
theorem zaR (m:Msg) (hl:m.2.2.2.2.2.2.2.2.2.1.length≤9223372036854775806) (hr:qZ m=true):F54 (m,())=some (Bd m,()):=by
 obtain⟨hO,hS⟩:=H5 hl hr;have hm:=(Eg m hl).2;rw[hr] at hm;have hrun:=Dh hO.2.2.2.2.2.2.2.2;have hlen:=Td hO hS;obtain⟨a1,a2,a3,a4,a5,a6,a7,a8,a9,l,s,⟨⟩⟩:=m;have hl:Sh l:=hl;have hrun:∀ e∈l,jw e:=hrun;have hS:a1=7→oV s=true:=hS;unfold Bd KF at hlen ⊢;rw[TE] at hlen ⊢;simp only at hlen ⊢;simp only[List.length_append,kJ,bu,fK,kG] at hlen;have n1:∀ n:Int,kD (n,())=some (ak n,()):=Dj;have fin:([Sx.byteOf (IntKind.wrap .u8 a1),Sx.byteOf (IntKind.wrap .u8 a2),Sx.byteOf (IntKind.wrap .u8 a3)]:List UInt8)=bG a1++bG a2++bG a3:=rfl;unfold F54;simp only[hm,Option.bind_some,Bool.not_true,cond_false];rw[fin];generalize hb0:bG a1++bG a2++bG a3=b0;have l0:b0.length=3:=by rw[←hb0];rfl
 have ap:∀ (b c:List UInt8),b.length+c.length≤140737488355000→dV b c=some (b++c):=fun b c h=>mM h;refine zfI (t1:=(b0++ak a4,(1:Int),())) (t2:=(b0++ak a4++ak a5,(2:Int),())) (t3:=(b0++ak a4++ak a5++ak a6,(3:Int),())) (t4:=(b0++ak a4++ak a5++ak a6++ak a7,(4:Int),())) (t5:=(b0++ak a4++ak a5++ak a6++ak a7++ak a8,(5:Int),()))
  (aK (n1 a4) (aK (ap _ _ (by simp only[bu];omega)) rfl)) (aK (n1 a5) (aK (ap _ _ (by simp only[List.length_append,bu];omega)) rfl)) (aK (n1 a6) (aK (ap _ _ (by simp only[List.length_append,bu];omega)) rfl)) (aK (n1 a7) (aK (ap _ _ (by simp only[List.length_append,bu];omega)) rfl)) (aK (n1 a8) (aK (ap _ _ (by simp only[List.length_append,bu];omega)) rfl)) ?_
 refine(congrArg (Option.map Sum.inr) (?_:_=some (b0++ak a4++ak a5++ak a6++ak a7++ak a8++je a9++countB l.length++l.flatMap lS++Aw a1 s,()))).trans rfl;generalize hb1:b0++ak a4++ak a5++ak a6++ak a7++ak a8=b1;have l1:b1.length=43:=by rw[←hb1];simp only[List.length_append,bu,l0]
 refine aK (zA a9) (aK (ap _ _ (by simp only[fK];omega)) (aK (uD l.length) (aK (ap _ _ (by simp only[List.length_append,fK,kG];omega)) ?_)));refine oL l hl lS (b1++je a9++countB l.length) (fun i d=>(d,((i:Int),()))) (by show _≤(140737488355000:Nat);simp only[List.length_append,fK,kG];omega) (fun i v d hi hv hd=> ?_) ?_
 ·have hi':i<9223372036854775807:=by unfold Sh at hl;omega
  simp only[aB,hi,decide_true,cond_true,aP,hv,Option.bind_some,zdh v (hrun v (List.mem_of_getElem? hv)),ap d _ hd,aT hi']
 simp only[aB,Nat.lt_irrefl,decide_false,cond_false];refine(congrArg (Option.map Sum.inr) (?_:_=some (b1++je a9++countB l.length++l.flatMap lS++Aw a1 s,()))).trans rfl;unfold Aw at hlen ⊢;by_cases h7:a1=7
 ·rw[decide_eq_true h7] at hlen ⊢;simp only[cond_true] at hlen ⊢;exact aK (zch s (hS h7)) (aK (ap _ _ (by simp only[List.length_append,fK,kG];omega)) rfl)
 ·rw[decide_eq_false h7];simp only[cond_false,List.append_nil]
end Go.Proofs.YteebpcpkhojfkaaGreat
