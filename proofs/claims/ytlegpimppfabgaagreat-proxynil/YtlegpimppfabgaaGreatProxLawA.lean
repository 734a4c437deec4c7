/-
 Prox: what a proxy that does something answers;a nil proxy.
-/
import Derived.Test.YtlegpimppfabgaaGreatCallLawD
namespace Go.Proofs.YtlegpimppfabgaaGreat
open Go.Sx Go Classical
set_option maxRecDepth 10000
theorem Aa:eF [97,47]:=⟨by decide,zq (by decide) (by decide) (by decide)⟩
theorem NL:eF [98,47]:=⟨by decide,zq (by decide) (by decide) (by decide)⟩
theorem uy:IsKey [97,47,120]:=zq (by decide) (by decide) (by decide)
theorem keyB:IsKey [98,47,120]:=zq (by decide) (by decide) (by decide)
abbrev o7 (key:List UInt8):bi:=(1,key,[],[118],0,0,0,[],[],[],0,0,0,false,[],[],[],())
theorem D5 {key:List UInt8} (h:IsKey key):gU (o7 key):=⟨by unfold ng;simp,.inl ⟨rfl,h,by show (1:Nat)≤40;decide,⟨by show (0:Int)≤0;decide,by show (0:Int)≤1099511627776;decide⟩⟩⟩
theorem kT {α:Type}:Sh ([]:List α):=by simp [Sh]
theorem MZ:ShS []:=⟨kT,fun x h=>by simp at h⟩
theorem Fv (key:List UInt8):ShC (o7 key):=⟨kT,kT,kT,kT,MZ,kT⟩
theorem zfQ:F79 ([97,47],[97,47],o7 [97,47,120],())=some (o7 [97,47,120],true,()):=by
 rw [Ny _ _ _ (Fv _)]
 unfold Ai
 rw [dV ⟨D5 uy,by decide⟩,vG (p:=[97,47]) (q:=[97,47]) (k:=[97,47,120]) (e:=[]) (k':=[97,47,120]) (e':=[]) ⟨Aa,Aa,⟨uy,.inl rfl⟩,⟨uy,.inl rfl⟩,⟨[120],rfl,rfl⟩,.inl ⟨rfl,rfl⟩⟩]
 rfl
theorem zfP:F79 ([97,47],[98,47],o7 [97,47,120],())=some (o7 [98,47,120],true,()):=by
 rw [Ny _ _ _ (Fv _)]
 unfold Ai
 rw [dV ⟨D5 uy,by decide⟩,vG (p:=[97,47]) (q:=[98,47]) (k:=[97,47,120]) (e:=[]) (k':=[98,47,120]) (e':=[]) ⟨Aa,NL,⟨uy,.inl rfl⟩,⟨keyB,.inl rfl⟩,⟨[120],rfl,rfl⟩,.inl ⟨rfl,rfl⟩⟩]
 rfl
abbrev mi:iU:=(1,[97,47],[98,47],(1,1,()),())
abbrev ni (key:List UInt8):jw:=(false,o7 key,[],[],0,0,())
theorem EQ (st wt):F43 ((mi,st,wt,()),ni [97,47,120],0,())=some (ni [97,47,120],true,()):=by
 unfold F43
 refine aS (a:=([97,47],())) rfl ?_
 simp only [cond_false]
 exact aS zfQ rfl
theorem zeF (st wt):F43 ((mi,st,wt,()),ni [97,47,120],1,())=some (ni [98,47,120],true,()):=by
 unfold F43
 refine aS (a:=([98,47],())) rfl ?_
 simp only [cond_false]
 exact aS zfP rfl
abbrev clP (k:Int):CD:=(9,k,1,6,0,0,0,false,NoT,())
abbrev stP (busy:Bool) (seq:Int):Int×Bool×Bool×Int×Int×ai×Unit:=(0,busy,false,seq,0,(0,0,()),())
abbrev Fh:jw:=(false,oH,[],[],0,0,())
theorem zeo:F30 (mi,())=some (true,()):=by
 have b1:begins [97,47] [98,47]=false:=by decide
 have b2:begins [98,47] [97,47]=false:=by decide
 have d1:decide ((0:Int)≤1)=true:=rfl
 have d2:decide ((1:Int)≤2)=true:=rfl
 unfold F30
 simp only [yV,BI,Option.bind_some,d1,d2,Aa,NL,b1,b2,decide_true,cond_true,Bool.not_false]
theorem newP:F9 (mi,0,())=some ((true,mi,stP false 0,Fh,[clP 0],[clP 1],[clP 1],[clP 0],[clP 1],[],false,()),0,()):=by
 unfold F9
 refine aS zeo ?_
 kernel_rfl
theorem mayP:F42 ((mi,stP false 0,Fh,()),ni [97,47,120],())=some (0,()):=by
 unfold F42
 simp only [cond_false,Option.bind_some,Sum.elim_inl,EQ,zeF,Bool.not_true]
theorem zeR:F15 ((mi,stP false 0,Fh,[clP 0],[clP 1],[clP 1],[clP 0],[clP 1],[],false,()),ni [97,47,120],()) =
  some (iF,false,(mi,stP true (wrap64 (0+1)),ni [97,47,120],[clP 0],[clP 1],[clP 1],[clP 0],[clP 1],[],false,()),()):=by
 unfold F15
 refine aS mayP ?_
 simp only [decide_true,Bool.not_true,cond_false]
 refine aS (EQ _ _) ?_
 refine aS (Ir [] (by decide)) ?_
 refine aS (yO [] (by decide)) ?_
 refine aS (yO [] (by decide)) ?_
 kernel_rfl
abbrev quP (rid:Int):TMD:=(2,rid,jo,(2,1,o7 [97,47,120],()),0,[],[],0,0,0,0,iF,[],[],false,gy,jG,())
theorem zbh:F34 ((mi,stP true (wrap64 (0+1)),ni [97,47,120],()),())=some (quP 0,()):=by
 unfold F34
 refine aS (EQ _ _) ?_
 kernel_rfl
theorem shQu (rid:Int):ShT (quP rid):=⟨kT,Fv _,kT,⟨kT,fun b h=>by simp at h⟩,kT,⟨MZ,kT⟩⟩
theorem zdG:sW (quP (wrap64 (0+1))):=⟨⟨by show (1:Int)≤2;decide,by show (2:Int)≤12;decide⟩,rfl,.inr (.inl ⟨rfl,by unfold bQ;decide,by unfold xe;simp [D5 uy,bQ]⟩)⟩
theorem zfR:F33 (clP 0,quP 0,())=some ([(9,wrap64 (wrap64 (4*0)+0),quP (wrap64 (0+1)),())],(9,0,1,6,wrap64 (0+1),0,0,true,quP (wrap64 (0+1)),()),()):=by
 unfold F33
 refine aS (a:=(false,clP 0,())) rfl ?_
 simp only [Bool.not_false,cond_true]
 refine aS (zbP 9 0 1 6 0 0 0 NoT (quP 0) ⟨shQu 0,by simp,by simp⟩ ⟨by decide,by decide,zdG⟩) ?_
 rfl
theorem zeS (p:PD):dm ([]:List PD) [p]=some [p]:=lN (by have:di=34359738368:=rfl;simp only [List.length_cons,List.length_nil];omega)
theorem zeX:∃ P,F13 ((mi,stP true (wrap64 (0+1)),ni [97,47,120],[clP 0],[clP 1],[clP 1],[clP 0],[clP 1],[],false,()),())=some ([(9,wrap64 (wrap64 (4*0)+0),quP (wrap64 (0+1)),())],P,()):=by
 have d0:decide ((0:Int)=Int.ofNat 0)=true:=rfl
 unfold F13
 simp only [cond_false,cond_true,Bool.not_false,Option.bind_some,Sum.elim_inl,d0,zbh,List.head?_cons,zfR,zeS,List.isEmpty_nil,decide_true]
 exact⟨_,rfl⟩
theorem zbO:F6 ()=some (true,()):=by
 obtain⟨P,hT⟩:=zeX
 unfold F6
 refine aS newP ?_
 simp only [cond_true,decide_true,Bool.not_true,cond_false]
 refine aS zeR ?_
 simp only [cond_true,decide_true]
 refine aS hT ?_
 kernel_rfl
theorem big3:∃ n,big=n+3:=⟨18446744073709551613,by rw [jZ]⟩
theorem zeN (a:Bc) (zm:SzT a.2.2.2.2.1) (hM:a.2.2.2.2.1.2.2.2.2.2.2.2.2.2.2.2.2.2.2.2.1.2.2.1.length≤1800000000000) (hC:ShC a.2.1.2.1):∃ b,F7 ([a],1,())=some (b,()):=by
 obtain⟨b,e1,-⟩:=zd1 a.2.2.2.2.1 zm.1 hM
 obtain⟨c,e2,-⟩:=zU a.2.1.2.1 hC
 have e1':F27 a.2.2.2.2=some (b,()):=e1
 obtain⟨n,hn⟩:=big3
 have l0:decide ((0:Int) < Int.ofNat (List.length [a]))=true:=rfl
 have i0:idx [a] (0:Int)=some a:=rfl
 have d1:decide ((1:Int)≤0)=false:=rfl
 have w1:wrap64 (0+1)=1:=rfl
 have l1:decide ((1:Int) < Int.ofNat (List.length [a]))=false:=rfl
 unfold F7
 rw [hn]
 simp only [iter,l0,i0,d1,cond_true,cond_false,Option.bind_some,e1',e2,w1]
 generalize decide ((300:Int) < _)=g1
 cases g1
 ·cases b
  ·exact⟨_,rfl⟩
  ·cases c
   ·exact⟨_,rfl⟩
   ·simp only [cond_false,Bool.not_true,Option.bind_some]
    generalize decide ((300:Int) < _)=g2
    cases g2
    ·simp only [cond_false,Option.bind_some,Sum.elim_inl,l1]
     exact⟨_,rfl⟩
    ·exact⟨_,rfl⟩
 ·exact⟨_,rfl⟩
theorem zdX (x:(bz P4).den) (hx:fE (bz P4) x) (hm:iY (bz P4) x):F4 x=some (true,()):=by
 obtain⟨a,⟨⟩⟩:Bc×Unit:=x
 obtain⟨b,hb⟩:=zeN a (szT hx.1.2.2.2.2.1) (Zm hm.1.2.2.2.2.1) (NJ hx.1.2.1.2.1).1
 unfold F4
 simp only [zbO,Option.bind_some,Bool.not_true,cond_false]
 refine aS hb ?_
 cases b with
 | false=>rfl
 | true=>rfl
end Go.Proofs.YtlegpimppfabgaaGreat
