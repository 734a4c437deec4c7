/-
 Prox: what a proxy that does something answers;a nil proxy.
-/
import Derived.Test.YtlegpimppfabgaaGreatCallLawD
namespace Go.Proofs.YtlegpimppfabgaaGreat
open Go.Sx Go Classical
set_option maxRecDepth 10000
theorem DF:dP [97,47]:=⟨by decide,CO (by decide) (by decide) (by decide)⟩
theorem TF:dP [98,47]:=⟨by decide,CO (by decide) (by decide) (by decide)⟩
theorem xh:IsKey [97,47,120]:=CO (by decide) (by decide) (by decide)
theorem keyB:IsKey [98,47,120]:=CO (by decide) (by decide) (by decide)
abbrev sK (key:List UInt8):aJ:=(1,key,[],[118],0,0,0,[],[],[],0,0,0,false,[],[],[],())
theorem IQ {key:List UInt8} (h:IsKey key):gq (sK key):=⟨by unfold lX;simp,.inl ⟨rfl,h,by show(1:Nat)≤40;decide,⟨by show(0:Int)≤0;decide,by show(0:Int)≤1099511627776;decide⟩⟩⟩
theorem iE {α:Type}:Sh ([]:List α):=by simp[Sh]
theorem JF:ShS []:=⟨iE,fun x h=>by simp at h⟩
theorem J6 (key:List UInt8):ShC (sK key):=⟨iE,iE,iE,iE,JF,iE⟩
theorem zeO:F79 ([97,47],[97,47],sK [97,47,120],())=some (sK [97,47,120],true,()):=by
 rw[JQ _ _ _ (J6 _)];unfold dU;rw[bK ⟨IQ xh,by decide⟩,yf (p:=[97,47]) (q:=[97,47]) (k:=[97,47,120]) (e:=[]) (k':=[97,47,120]) (e':=[]) ⟨DF,DF,⟨xh,.inl rfl⟩,⟨xh,.inl rfl⟩,⟨[120],rfl,rfl⟩,.inl ⟨rfl,rfl⟩⟩];rfl
theorem zeN:F79 ([97,47],[98,47],sK [97,47,120],())=some (sK [98,47,120],true,()):=by
 rw[JQ _ _ _ (J6 _)];unfold dU;rw[bK ⟨IQ xh,by decide⟩,yf (p:=[97,47]) (q:=[98,47]) (k:=[97,47,120]) (e:=[]) (k':=[98,47,120]) (e':=[]) ⟨DF,TF,⟨xh,.inl rfl⟩,⟨keyB,.inl rfl⟩,⟨[120],rfl,rfl⟩,.inl ⟨rfl,rfl⟩⟩];rfl
abbrev oW:eQ:=(1,[97,47],[98,47],(1,1,()),())
abbrev pX (key:List UInt8):aT:=(false,sK key,[],[],0,0,())
theorem JJ (st wt):F43 ((oW,st,wt,()),pX [97,47,120],0,())=some (pX [97,47,120],true,()):=by
 unfold F43;refine aB (a:=([97,47],())) rfl ?_;simp only[cond_false];exact aB zeO rfl
theorem zc8 (st wt):F43 ((oW,st,wt,()),pX [97,47,120],1,())=some (pX [98,47,120],true,()):=by
 unfold F43;refine aB (a:=([98,47],())) rfl ?_;simp only[cond_false];exact aB zeN rfl
abbrev clP (k:Int):CD:=(9,k,1,6,0,0,0,false,NoT,())
abbrev stP (busy:Bool) (seq:Int):Int×Bool×Bool×Int×Int×dI×Unit:=(0,busy,false,seq,0,(0,0,()),())
abbrev JZ:aT:=(false,fB,[],[],0,0,())
theorem zcQ:F30 (oW,())=some (true,()):=by
 have b1:begins [97,47] [98,47]=false:=by decide
 have b2:begins [98,47] [97,47]=false:=by decide
 have d1:decide ((0:Int)≤1)=true:=rfl;have d2:decide ((1:Int)≤2)=true:=rfl;unfold F30;simp only[yw,Bl,Option.bind_some,d1,d2,DF,TF,b1,b2,decide_true,cond_true,Bool.not_false]
theorem newP:F9 (oW,0,())=some ((true,oW,stP false 0,JZ,[clP 0],[clP 1],[clP 1],[clP 0],[clP 1],[],false,()),0,()):=by
 unfold F9;refine aB zcQ ?_
 kernel_rfl
theorem mayP:F42 ((oW,stP false 0,JZ,()),pX [97,47,120],())=some (0,()):=by
 unfold F42;simp only[cond_false,Option.bind_some,Sum.elim_inl,JJ,zc8,Bool.not_true]
theorem zdm:F15 ((oW,stP false 0,JZ,[clP 0],[clP 1],[clP 1],[clP 0],[clP 1],[],false,()),pX [97,47,120],()) =
  some (dX,false,(oW,stP true (wrap64 (0+1)),pX [97,47,120],[clP 0],[clP 1],[clP 1],[clP 0],[clP 1],[],false,()),()):=by
 unfold F15;refine aB mayP ?_;simp only[decide_true,Bool.not_true,cond_false];refine aB (JJ _ _) ?_;refine aB (Gx [] (by decide)) ?_;refine aB (uZ [] (by decide)) ?_;refine aB (uZ [] (by decide)) ?_
 kernel_rfl
abbrev quP (rid:Int):TMD:=(2,rid,jW,(2,1,sK [97,47,120],()),0,[],[],0,0,0,0,dX,[],[],false,gZ,jT,())
theorem ZQ:F34 ((oW,stP true (wrap64 (0+1)),pX [97,47,120],()),())=some (quP 0,()):=by
 unfold F34;refine aB (JJ _ _) ?_
 kernel_rfl
theorem shQu (rid:Int):ShT (quP rid):=⟨iE,J6 _,iE,⟨iE,fun b h=>by simp at h⟩,iE,⟨JF,iE⟩⟩
theorem zbW:eX (quP (wrap64 (0+1))):=⟨⟨by show(1:Int)≤2;decide,by show(2:Int)≤12;decide⟩,rfl,.inr (.inl ⟨rfl,by unfold bz;decide,by unfold uD;simp[IQ xh,bz]⟩)⟩
theorem zeP:F33 (clP 0,quP 0,())=some ([(9,wrap64 (wrap64 (4*0)+0),quP (wrap64 (0+1)),())],(9,0,1,6,wrap64 (0+1),0,0,true,quP (wrap64 (0+1)),()),()):=by
 unfold F33;refine aB (a:=(false,clP 0,())) rfl ?_;simp only[Bool.not_false,cond_true];refine aB (Qj 9 0 1 6 0 0 0 NoT (quP 0) ⟨shQu 0,by simp,by simp⟩ ⟨by decide,by decide,zbW⟩) ?_;rfl
theorem zdn (p:PD):bn ([]:List PD) [p]=some [p]:=iP (by have:bT=34359738368:=rfl;simp only[List.length_cons,List.length_nil];omega)
theorem zds:∃ P,F13 ((oW,stP true (wrap64 (0+1)),pX [97,47,120],[clP 0],[clP 1],[clP 1],[clP 0],[clP 1],[],false,()),())=some ([(9,wrap64 (wrap64 (4*0)+0),quP (wrap64 (0+1)),())],P,()):=by
 have d0:decide ((0:Int)=Int.ofNat 0)=true:=rfl;unfold F13 FK xG nP;simp only[cond_false,cond_true,Bool.not_false,Option.bind_some,Sum.elim_inl,d0,ZQ,List.head?_cons,zeP,zdn,List.isEmpty_nil,decide_true];exact⟨_,rfl⟩
theorem zau:F6 ()=some (true,()):=by
 obtain⟨P,hT⟩:=zds;unfold F6;refine aB newP ?_;simp only[cond_true,decide_true,Bool.not_true,cond_false];refine aB zdm ?_;simp only[cond_true,decide_true];refine aB hT ?_
 kernel_rfl
theorem Vu:∃ n,big=n+3:=⟨18446744073709551613,by rw[ji]⟩
end Go.Proofs.YtlegpimppfabgaaGreat
