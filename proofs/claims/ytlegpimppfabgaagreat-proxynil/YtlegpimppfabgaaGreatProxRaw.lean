/-
 Prox: by a program of the bench (seat.py).
-/
import Derived.Test.YtlegpimppfabgaaGreatProxTab
namespace Go.Proofs.YtlegpimppfabgaaGreat
open Go.Sx Go
set_option maxRecDepth 100000
set_option maxHeartbeats 2000000
noncomputable section
def hL (f:Nat→HLoc):Nat→Nat→List HLoc
 | _,0=>[]
 | i,n+1=>f i::hL f (i+1) n
abbrev mkE (t:Tab) (n:Nat) (g:List (FuncId×List Sig)) (j:List (Nat×Shape)) (l:List (Nat×LoopH)):Env:={ tab:=t,nt:=n,Γ:=tK g,joins:=tJ j,loops:=tJ l }
abbrev ay:Tab:=tab.opt { flats:=[(119,jy)],owns:=[115,117] }
abbrev Qh:Tab:=tab.opt { flats:=[(119,jy)],owns:=[115,117],vecs:=[121] }
def uZ (x:List UInt8×UInt8×Unit):Option (Bool×Unit):=
 bif decide (Int.ofNat (List.length x.1) < 1) then some (false,())
 else
 bif decide (32 < Int.ofNat (List.length x.1)) then some (false,())
 else
 bu (Int×Unit) (Bool×Unit)
 (fun (x_1:Int×Unit)=>
 bif decide (x_1.1 < Int.ofNat (List.length x.1)) then
 (idx x.1 x_1.1).bind fun b=>
 bif decide (aU b < aU (UInt8.ofNat 33)) then some (Sum.inr (false,()))
 else
 (idx x.1 x_1.1).bind fun b=>
 bif decide (aU x.2.1 < aU b) then some (Sum.inr (false,()))
 else some (Sum.inl (wrap64 (x_1.1+1),()))
 else some (Sum.inr (true,())))
 big (0,())
def Ho:Sig:=⟨VK,Un,uZ⟩
def Xw:Env:=mkE ay 31 [] [] [(4,bP ⟨[⟨.slot 16,(.int .i64),.pv⟩],[0,1,15],[]⟩)]
theorem zbg x:ax Xw Tryz.f100 VK Un x=uZ x:=by kernel_rfl
def F92 (x:List UInt8×Unit):Option (Bool×Unit):=(uZ (x.1,UInt8.ofNat 126,())).bind fun b=>some b
def S92:Sig:=⟨P92,R92,F92⟩
def E92:Env:=mkE ay 5 [(100,[Ho])] [] []
theorem zb5 x:ax E92 Tryz.f92 P92 R92 x=F92 x:=by kernel_rfl
def F67 (x:List UInt8×Unit):Option (Bool×Unit):=
 bif decide (Int.ofNat (List.length x.1)≤8) then (F92 x).bind fun b=>some b
 else some (false,())
def S67:Sig:=⟨P67,R67,F67⟩
def E67:Env:=mkE ay 10 [(92,[S92])] [] []
theorem zck x:ax E67 Tryz.f67 P67 R67 x=F67 x:=by kernel_rfl
def F93 (x:List UInt8×List UInt8×Unit):Option (Bool×Unit):=
 bif decide (Int.ofNat (List.length x.2.1)≤Int.ofNat (List.length x.1)) then
 (iG x.1 0 (Int.ofNat (List.length x.2.1))).bind fun b=>
 some (decide (b=x.2.1),())
 else some (false,())
def S93:Sig:=⟨P93,R93,F93⟩
def E93:Env:=mkE ay 18 [] [] []
theorem zb4 x:ax E93 Tryz.f93 P93 R93 x=F93 x:=by kernel_rfl
def F68 (x:List UInt8×List UInt8×Unit):Option (Bool×Unit):=(F93 x).bind fun b=>some b
def S68:Sig:=⟨P68,R68,F68⟩
def E68:Env:=mkE ay 8 [(93,[S93])] [] []
theorem zcj x:ax E68 Tryz.f68 P68 R68 x=F68 x:=by kernel_rfl
def F30 (x:iU×Unit):Option (Bool×Unit):=
 bif decide (0≤x.1.1) then
 bif decide (x.1.1≤2) then
 (F67 (x.1.2.1,())).bind fun b=>
 bif b.1 then
 (F67 (x.1.2.2.1,())).bind fun b=>
 bif b.1 then
 (F68 (x.1.2.1,x.1.2.2.1,())).bind fun b=>
 bif !b.1 then
 (F68 (x.1.2.2.1,x.1.2.1,())).bind fun b=>
 some (!b.1,())
 else some (false,())
 else some (false,())
 else some (false,())
 else some (false,())
 else some (false,())
def S30:Sig:=⟨P30,R30,F30⟩
def E30:Env:=mkE ay 37 [(67,[S67]),(68,[S68])] [] []
theorem zcJ x:ax E30 Tryz.f30 P30 R30 x=F30 x:=by kernel_rfl
def F31 (x:Int×Int×Int×Int×Int×Unit):Option ((Bool×fP)×Int×Unit):=
 bif decide (x.1 < 8) then
 some
 ((false,0,0,0,0,0,0,0,false,
 (0,0,(0,0,0,0,0,0,0,0,false,[],(0,0,[],()),()),
 (0,0,(0,[],[],[],0,0,0,[],[],[],0,0,0,false,[],[],[],()),()),0,[],[],
 0,0,0,0,(0,0,false,0,[],0,0,()),[],[],false,(0,0,[],[],()),
 (0,0,0,[],[],0,[],0,0,0,()),()),
 ()),
 1,())
 else
 bif decide (15 < x.1) then
 some
 ((false,0,0,0,0,0,0,0,false,
 (0,0,(0,0,0,0,0,0,0,0,false,[],(0,0,[],()),()),
 (0,0,(0,[],[],[],0,0,0,[],[],[],0,0,0,false,[],[],[],()),()),0,[],
 [],0,0,0,0,(0,0,false,0,[],0,0,()),[],[],false,(0,0,[],[],()),
 (0,0,0,[],[],0,[],0,0,0,()),()),
 ()),
 1,())
 else
 bif decide (x.2.1 < 0) then
 some
 ((false,0,0,0,0,0,0,0,false,
 (0,0,(0,0,0,0,0,0,0,0,false,[],(0,0,[],()),()),
 (0,0,(0,[],[],[],0,0,0,[],[],[],0,0,0,false,[],[],[],()),()),0,[],
 [],0,0,0,0,(0,0,false,0,[],0,0,()),[],[],false,(0,0,[],[],()),
 (0,0,0,[],[],0,[],0,0,0,()),()),
 ()),
 1,())
 else
 bif decide (1 < x.2.1) then
 some
 ((false,0,0,0,0,0,0,0,false,
 (0,0,(0,0,0,0,0,0,0,0,false,[],(0,0,[],()),()),
 (0,0,(0,[],[],[],0,0,0,[],[],[],0,0,0,false,[],[],[],()),()),0,
 [],[],0,0,0,0,(0,0,false,0,[],0,0,()),[],[],false,(0,0,[],[],()),
 (0,0,0,[],[],0,[],0,0,0,()),()),
 ()),
 1,())
 else
 bif decide (x.2.2.1 < 1) then
 some
 ((false,0,0,0,0,0,0,0,false,
 (0,0,(0,0,0,0,0,0,0,0,false,[],(0,0,[],()),()),
 (0,0,(0,[],[],[],0,0,0,[],[],[],0,0,0,false,[],[],[],()),()),0,
 [],[],0,0,0,0,(0,0,false,0,[],0,0,()),[],[],false,
 (0,0,[],[],()),(0,0,0,[],[],0,[],0,0,0,()),()),
 ()),
 1,())
 else
 bif decide (3 < x.2.2.1) then
 some
 ((false,0,0,0,0,0,0,0,false,
 (0,0,(0,0,0,0,0,0,0,0,false,[],(0,0,[],()),()),
 (0,0,(0,[],[],[],0,0,0,[],[],[],0,0,0,false,[],[],[],()),()),
 0,[],[],0,0,0,0,(0,0,false,0,[],0,0,()),[],[],false,
 (0,0,[],[],()),(0,0,0,[],[],0,[],0,0,0,()),()),
 ()),
 1,())
 else
 bif decide (x.2.2.2.1 < 1) then
 some
 ((false,0,0,0,0,0,0,0,false,
 (0,0,(0,0,0,0,0,0,0,0,false,[],(0,0,[],()),()),
 (0,0,(0,[],[],[],0,0,0,[],[],[],0,0,0,false,[],[],[],()),
 ()),
 0,[],[],0,0,0,0,(0,0,false,0,[],0,0,()),[],[],false,
 (0,0,[],[],()),(0,0,0,[],[],0,[],0,0,0,()),()),
 ()),
 1,())
 else
 bif decide (100 < x.2.2.2.1) then
 some
 ((false,0,0,0,0,0,0,0,false,
 (0,0,(0,0,0,0,0,0,0,0,false,[],(0,0,[],()),()),
 (0,0,(0,[],[],[],0,0,0,[],[],[],0,0,0,false,[],[],[],()),
 ()),
 0,[],[],0,0,0,0,(0,0,false,0,[],0,0,()),[],[],false,
 (0,0,[],[],()),(0,0,0,[],[],0,[],0,0,0,()),()),
 ()),
 1,())
 else
 bif decide (x.2.2.2.2.1 < 0) then
 some
 ((false,0,0,0,0,0,0,0,false,
 (0,0,(0,0,0,0,0,0,0,0,false,[],(0,0,[],()),()),
 (0,0,(0,[],[],[],0,0,0,[],[],[],0,0,0,false,[],[],[],()),
 ()),
 0,[],[],0,0,0,0,(0,0,false,0,[],0,0,()),[],[],false,
 (0,0,[],[],()),(0,0,0,[],[],0,[],0,0,0,()),()),
 ()),
 1,())
 else
 bif decide (549755813888 < x.2.2.2.2.1) then
 some
 ((false,0,0,0,0,0,0,0,false,
 (0,0,(0,0,0,0,0,0,0,0,false,[],(0,0,[],()),()),
 (0,0,(0,[],[],[],0,0,0,[],[],[],0,0,0,false,[],[],[],()),
 ()),
 0,[],[],0,0,0,0,(0,0,false,0,[],0,0,()),[],[],false,
 (0,0,[],[],()),(0,0,0,[],[],0,[],0,0,0,()),()),
 ()),
 1,())
 else
 some
 ((true,x.1,x.2.1,x.2.2.1,x.2.2.2.1,x.2.2.2.2.1,0,0,false,
 (0,0,(0,0,0,0,0,0,0,0,false,[],(0,0,[],()),()),
 (0,0,(0,[],[],[],0,0,0,[],[],[],0,0,0,false,[],[],[],()),
 ()),
 0,[],[],0,0,0,0,(0,0,false,0,[],0,0,()),[],[],false,
 (0,0,[],[],()),(0,0,0,[],[],0,[],0,0,0,()),()),
 ()),
 0,())
def S31:Sig:=⟨P31,R31,F31⟩
def E31:Env:=mkE ay 57 [] [] []
theorem zcI x:ax E31 Tryz.f31 P31 R31 x=F31 x:=by kernel_rfl
def F9 (x:iU×Int×Unit):Option ((Bool×gm)×Int×Unit):=
 (F30 (x.1,())).bind fun b=>
 bif !b.1 then
 some
 ((false,(0,[],[],(0,0,()),()),(0,false,false,0,0,(0,0,()),()),
 (false,(0,[],[],[],0,0,0,[],[],[],0,0,0,false,[],[],[],()),[],[],0,0,
 ()),
 [],[],[],[],[],[],false,()),
 1,())
 else
 bif decide (x.2.1 < 0) then
 some
 ((false,(0,[],[],(0,0,()),()),(0,false,false,0,0,(0,0,()),()),
 (false,(0,[],[],[],0,0,0,[],[],[],0,0,0,false,[],[],[],()),[],[],0,0,
 ()),
 [],[],[],[],[],[],false,()),
 1,())
 else
 bif decide (500000 < x.2.1) then
 some
 ((false,(0,[],[],(0,0,()),()),
 (0,false,false,0,0,(0,0,()),()),
 (false,(0,[],[],[],0,0,0,[],[],[],0,0,0,false,[],[],[],()),[],[],0,0,
 ()),
 [],[],[],[],[],[],false,()),
 1,())
 else
 Option.bind
 (Option.bind
 (F31
 (wrap64 (8+x.1.1),0,x.1.2.2.2.1.1,6,
 wrap64 (x.2.1*1000000),()))
 fun b=>
 bif b.1.1 then
 bif !decide (b.2.1=0) then
 some
 (Sum.inr
 ((false,(0,[],[],(0,0,()),()),
 (0,false,false,0,0,(0,0,()),()),
 (false,(0,[],[],[],0,0,0,[],[],[],0,0,0,false,[],[],[],()),[],[],
 0,0,()),
 [],[],[],[],[],[],false,()),
 b.2))
 else
 Option.bind
 (F31
 (wrap64 (8+x.1.1),0,x.1.2.2.2.1.1,6,
 wrap64 (x.2.1*1000000),()))
 fun b_1=>
 bif b_1.1.1 then
 bif !decide (b_1.2.1=0) then
 some
 (Sum.inr
 ((false,(0,[],[],(0,0,()),()),
 (0,false,false,0,0,(0,0,()),()),
 (false,(0,[],[],[],0,0,0,[],[],[],0,0,0,false,[],[],[],()),
 [],[],0,0,()),
 [],[],[],[],[],[],false,()),
 b_1.2))
 else
 Option.bind
 (F31
 (wrap64 (8+x.1.1),0,x.1.2.2.2.1.1,6,
 wrap64 (x.2.1*1000000),()))
 fun b_2=>
 bif b_2.1.1 then
 bif !decide (b_2.2.1=0) then
 some
 (Sum.inr
 ((false,(0,[],[],(0,0,()),()),
 (0,false,false,0,0,(0,0,()),()),
 (false,
 (0,[],[],[],0,0,0,[],[],[],0,0,0,false,[],[],[],()),
 [],[],0,0,()),
 [],[],[],[],[],[],false,()),
 b_2.2))
 else
 Option.bind
 (F31
 (wrap64 (8+x.1.1),wrap64 (0+1),
 x.1.2.2.2.1.2.1,6,wrap64 (x.2.1*1000000),
 ()))
 fun b_3=>
 bif b_3.1.1 then
 bif !decide (b_3.2.1=0) then
 some
 (Sum.inr
 ((false,(0,[],[],(0,0,()),()),
 (0,false,false,0,0,(0,0,()),()),
 (false,
 (0,[],[],[],0,0,0,[],[],[],0,0,0,false,[],[],[],
 ()),
 [],[],0,0,()),
 [],[],[],[],[],[],false,()),
 b_3.2))
 else
 Option.bind
 (F31
 (wrap64 (8+x.1.1),wrap64 (0+1),
 x.1.2.2.2.1.2.1,6,
 wrap64 (x.2.1*1000000),()))
 fun b_4=>
 bif b_4.1.1 then
 bif !decide (b_4.2.1=0) then
 some
 (Sum.inr
 ((false,(0,[],[],(0,0,()),()),
 (0,false,false,0,0,(0,0,()),()),
 (false,
 (0,[],[],[],0,0,0,[],[],[],0,0,0,false,[],[],[],
 ()),
 [],[],0,0,()),
 [],[],[],[],[],[],false,()),
 b_4.2))
 else
 Option.bind
 (F31
 (wrap64 (8+x.1.1),
 wrap64 (0+1),x.1.2.2.2.1.2.1,6,
 wrap64 (x.2.1*1000000),()))
 fun b_5=>
 bif b_5.1.1 then
 bif !decide (b_5.2.1=0) then
 some
 (Sum.inr
 ((false,(0,[],[],(0,0,()),()),
 (0,false,false,0,0,(0,0,()),()),
 (false,
 (0,[],[],[],0,0,0,[],[],[],0,0,0,false,[],[],
 [],()),
 [],[],0,0,()),
 [],[],[],[],[],[],false,()),
 b_5.2))
 else
 some
 (Sum.inl
 ([b.1.2],[b_3.1.2],[b_5.1.2],[b_1.1.2],
 [b_4.1.2],()))
 else
 bif !decide (b_5.2.1=0) then
 some
 (Sum.inr
 ((false,(0,[],[],(0,0,()),()),
 (0,false,false,0,0,(0,0,()),()),
 (false,
 (0,[],[],[],0,0,0,[],[],[],0,0,0,false,[],[],
 [],()),
 [],[],0,0,()),
 [],[],[],[],[],[],false,()),
 b_5.2))
 else
 some
 (Sum.inl
 ([b.1.2],[b_3.1.2],[],[b_1.1.2],[b_4.1.2],
 ()))
 else
 bif !decide (b_4.2.1=0) then
 some
 (Sum.inr
 ((false,(0,[],[],(0,0,()),()),
 (0,false,false,0,0,(0,0,()),()),
 (false,
 (0,[],[],[],0,0,0,[],[],[],0,0,0,false,[],[],[],
 ()),
 [],[],0,0,()),
 [],[],[],[],[],[],false,()),
 b_4.2))
 else
 Option.bind
 (F31
 (wrap64 (8+x.1.1),
 wrap64 (0+1),x.1.2.2.2.1.2.1,6,
 wrap64 (x.2.1*1000000),()))
 fun b_5=>
 bif b_5.1.1 then
 bif !decide (b_5.2.1=0) then
 some
 (Sum.inr
 ((false,(0,[],[],(0,0,()),()),
 (0,false,false,0,0,(0,0,()),()),
 (false,
 (0,[],[],[],0,0,0,[],[],[],0,0,0,false,[],[],
 [],()),
 [],[],0,0,()),
 [],[],[],[],[],[],false,()),
 b_5.2))
 else
 some
 (Sum.inl
 ([b.1.2],[b_3.1.2],[b_5.1.2],[b_1.1.2],[],
 ()))
 else
 bif !decide (b_5.2.1=0) then
 some
 (Sum.inr
 ((false,(0,[],[],(0,0,()),()),
 (0,false,false,0,0,(0,0,()),()),
 (false,
 (0,[],[],[],0,0,0,[],[],[],0,0,0,false,[],[],
 [],()),
 [],[],0,0,()),
 [],[],[],[],[],[],false,()),
 b_5.2))
 else
 some
 (Sum.inl
 ([b.1.2],[b_3.1.2],[],[b_1.1.2],[],()))
 else
 bif !decide (b_3.2.1=0) then
 some
 (Sum.inr
 ((false,(0,[],[],(0,0,()),()),
 (0,false,false,0,0,(0,0,()),()),
 (false,
 (0,[],[],[],0,0,0,[],[],[],0,0,0,false,[],[],[],
 ()),
 [],[],0,0,()),
 [],[],[],[],[],[],false,()),
 b_3.2))
 else
 Option.bind
 (F31
 (wrap64 (8+x.1.1),wrap64 (0+1),
 x.1.2.2.2.1.2.1,6,
 wrap64 (x.2.1*1000000),()))
 fun b_4=>
 bif b_4.1.1 then
 bif !decide (b_4.2.1=0) then
 some
 (Sum.inr
 ((false,(0,[],[],(0,0,()),()),
 (0,false,false,0,0,(0,0,()),()),
 (false,
 (0,[],[],[],0,0,0,[],[],[],0,0,0,false,[],[],[],
 ()),
 [],[],0,0,()),
 [],[],[],[],[],[],false,()),
 b_4.2))
 else
 Option.bind
 (F31
 (wrap64 (8+x.1.1),
 wrap64 (0+1),x.1.2.2.2.1.2.1,6,
 wrap64 (x.2.1*1000000),()))
 fun b_5=>
 bif b_5.1.1 then
 bif !decide (b_5.2.1=0) then
 some
 (Sum.inr
 ((false,(0,[],[],(0,0,()),()),
 (0,false,false,0,0,(0,0,()),()),
 (false,
 (0,[],[],[],0,0,0,[],[],[],0,0,0,false,[],[],
 [],()),
 [],[],0,0,()),
 [],[],[],[],[],[],false,()),
 b_5.2))
 else
 some
 (Sum.inl
 ([b.1.2],[],[b_5.1.2],[b_1.1.2],[b_4.1.2],
 ()))
 else
 bif !decide (b_5.2.1=0) then
 some
 (Sum.inr
 ((false,(0,[],[],(0,0,()),()),
 (0,false,false,0,0,(0,0,()),()),
 (false,
 (0,[],[],[],0,0,0,[],[],[],0,0,0,false,[],[],
 [],()),
 [],[],0,0,()),
 [],[],[],[],[],[],false,()),
 b_5.2))
 else
 some
 (Sum.inl
 ([b.1.2],[],[],[b_1.1.2],[b_4.1.2],()))
 else
 bif !decide (b_4.2.1=0) then
 some
 (Sum.inr
 ((false,(0,[],[],(0,0,()),()),
 (0,false,false,0,0,(0,0,()),()),
 (false,
 (0,[],[],[],0,0,0,[],[],[],0,0,0,false,[],[],[],
 ()),
 [],[],0,0,()),
 [],[],[],[],[],[],false,()),
 b_4.2))
 else
 Option.bind
 (F31
 (wrap64 (8+x.1.1),
 wrap64 (0+1),x.1.2.2.2.1.2.1,6,
 wrap64 (x.2.1*1000000),()))
 fun b_5=>
 bif b_5.1.1 then
 bif !decide (b_5.2.1=0) then
 some
 (Sum.inr
 ((false,(0,[],[],(0,0,()),()),
 (0,false,false,0,0,(0,0,()),()),
 (false,
 (0,[],[],[],0,0,0,[],[],[],0,0,0,false,[],[],
 [],()),
 [],[],0,0,()),
 [],[],[],[],[],[],false,()),
 b_5.2))
 else
 some
 (Sum.inl
 ([b.1.2],[],[b_5.1.2],[b_1.1.2],[],()))
 else
 bif !decide (b_5.2.1=0) then
 some
 (Sum.inr
 ((false,(0,[],[],(0,0,()),()),
 (0,false,false,0,0,(0,0,()),()),
 (false,
 (0,[],[],[],0,0,0,[],[],[],0,0,0,false,[],[],
 [],()),
 [],[],0,0,()),
 [],[],[],[],[],[],false,()),
 b_5.2))
 else some (Sum.inl ([b.1.2],[],[],[b_1.1.2],[],()))
 else
 bif !decide (b_2.2.1=0) then
 some
 (Sum.inr
 ((false,(0,[],[],(0,0,()),()),
 (0,false,false,0,0,(0,0,()),()),
 (false,
 (0,[],[],[],0,0,0,[],[],[],0,0,0,false,[],[],[],()),
 [],[],0,0,()),
 [],[],[],[],[],[],false,()),
 b_2.2))
 else
 Option.bind
 (F31
 (wrap64 (8+x.1.1),wrap64 (0+1),
 x.1.2.2.2.1.2.1,6,wrap64 (x.2.1*1000000),
 ()))
 fun b_3=>
 bif b_3.1.1 then
 bif !decide (b_3.2.1=0) then
 some
 (Sum.inr
 ((false,(0,[],[],(0,0,()),()),
 (0,false,false,0,0,(0,0,()),()),
 (false,
 (0,[],[],[],0,0,0,[],[],[],0,0,0,false,[],[],[],
 ()),
 [],[],0,0,()),
 [],[],[],[],[],[],false,()),
 b_3.2))
 else
 Option.bind
 (F31
 (wrap64 (8+x.1.1),wrap64 (0+1),
 x.1.2.2.2.1.2.1,6,
 wrap64 (x.2.1*1000000),()))
 fun b_4=>
 bif b_4.1.1 then
 bif !decide (b_4.2.1=0) then
 some
 (Sum.inr
 ((false,(0,[],[],(0,0,()),()),
 (0,false,false,0,0,(0,0,()),()),
 (false,
 (0,[],[],[],0,0,0,[],[],[],0,0,0,false,[],[],[],
 ()),
 [],[],0,0,()),
 [],[],[],[],[],[],false,()),
 b_4.2))
 else
 Option.bind
 (F31
 (wrap64 (8+x.1.1),
 wrap64 (0+1),x.1.2.2.2.1.2.1,6,
 wrap64 (x.2.1*1000000),()))
 fun b_5=>
 bif b_5.1.1 then
 bif !decide (b_5.2.1=0) then
 some
 (Sum.inr
 ((false,(0,[],[],(0,0,()),()),
 (0,false,false,0,0,(0,0,()),()),
 (false,
 (0,[],[],[],0,0,0,[],[],[],0,0,0,false,[],[],
 [],()),
 [],[],0,0,()),
 [],[],[],[],[],[],false,()),
 b_5.2))
 else
 some
 (Sum.inl
 ([b.1.2],[b_3.1.2],[b_5.1.2],[b_1.1.2],
 [b_4.1.2],()))
 else
 bif !decide (b_5.2.1=0) then
 some
 (Sum.inr
 ((false,(0,[],[],(0,0,()),()),
 (0,false,false,0,0,(0,0,()),()),
 (false,
 (0,[],[],[],0,0,0,[],[],[],0,0,0,false,[],[],
 [],()),
 [],[],0,0,()),
 [],[],[],[],[],[],false,()),
 b_5.2))
 else
 some
 (Sum.inl
 ([b.1.2],[b_3.1.2],[],[b_1.1.2],[b_4.1.2],
 ()))
 else
 bif !decide (b_4.2.1=0) then
 some
 (Sum.inr
 ((false,(0,[],[],(0,0,()),()),
 (0,false,false,0,0,(0,0,()),()),
 (false,
 (0,[],[],[],0,0,0,[],[],[],0,0,0,false,[],[],[],
 ()),
 [],[],0,0,()),
 [],[],[],[],[],[],false,()),
 b_4.2))
 else
 Option.bind
 (F31
 (wrap64 (8+x.1.1),
 wrap64 (0+1),x.1.2.2.2.1.2.1,6,
 wrap64 (x.2.1*1000000),()))
 fun b_5=>
 bif b_5.1.1 then
 bif !decide (b_5.2.1=0) then
 some
 (Sum.inr
 ((false,(0,[],[],(0,0,()),()),
 (0,false,false,0,0,(0,0,()),()),
 (false,
 (0,[],[],[],0,0,0,[],[],[],0,0,0,false,[],[],
 [],()),
 [],[],0,0,()),
 [],[],[],[],[],[],false,()),
 b_5.2))
 else
 some
 (Sum.inl
 ([b.1.2],[b_3.1.2],[b_5.1.2],[b_1.1.2],[],
 ()))
 else
 bif !decide (b_5.2.1=0) then
 some
 (Sum.inr
 ((false,(0,[],[],(0,0,()),()),
 (0,false,false,0,0,(0,0,()),()),
 (false,
 (0,[],[],[],0,0,0,[],[],[],0,0,0,false,[],[],
 [],()),
 [],[],0,0,()),
 [],[],[],[],[],[],false,()),
 b_5.2))
 else
 some
 (Sum.inl
 ([b.1.2],[b_3.1.2],[],[b_1.1.2],[],()))
 else
 bif !decide (b_3.2.1=0) then
 some
 (Sum.inr
 ((false,(0,[],[],(0,0,()),()),
 (0,false,false,0,0,(0,0,()),()),
 (false,
 (0,[],[],[],0,0,0,[],[],[],0,0,0,false,[],[],[],
 ()),
 [],[],0,0,()),
 [],[],[],[],[],[],false,()),
 b_3.2))
 else
 Option.bind
 (F31
 (wrap64 (8+x.1.1),wrap64 (0+1),
 x.1.2.2.2.1.2.1,6,
 wrap64 (x.2.1*1000000),()))
 fun b_4=>
 bif b_4.1.1 then
 bif !decide (b_4.2.1=0) then
 some
 (Sum.inr
 ((false,(0,[],[],(0,0,()),()),
 (0,false,false,0,0,(0,0,()),()),
 (false,
 (0,[],[],[],0,0,0,[],[],[],0,0,0,false,[],[],[],
 ()),
 [],[],0,0,()),
 [],[],[],[],[],[],false,()),
 b_4.2))
 else
 Option.bind
 (F31
 (wrap64 (8+x.1.1),
 wrap64 (0+1),x.1.2.2.2.1.2.1,6,
 wrap64 (x.2.1*1000000),()))
 fun b_5=>
 bif b_5.1.1 then
 bif !decide (b_5.2.1=0) then
 some
 (Sum.inr
 ((false,(0,[],[],(0,0,()),()),
 (0,false,false,0,0,(0,0,()),()),
 (false,
 (0,[],[],[],0,0,0,[],[],[],0,0,0,false,[],[],
 [],()),
 [],[],0,0,()),
 [],[],[],[],[],[],false,()),
 b_5.2))
 else
 some
 (Sum.inl
 ([b.1.2],[],[b_5.1.2],[b_1.1.2],[b_4.1.2],
 ()))
 else
 bif !decide (b_5.2.1=0) then
 some
 (Sum.inr
 ((false,(0,[],[],(0,0,()),()),
 (0,false,false,0,0,(0,0,()),()),
 (false,
 (0,[],[],[],0,0,0,[],[],[],0,0,0,false,[],[],
 [],()),
 [],[],0,0,()),
 [],[],[],[],[],[],false,()),
 b_5.2))
 else
 some
 (Sum.inl
 ([b.1.2],[],[],[b_1.1.2],[b_4.1.2],()))
 else
 bif !decide (b_4.2.1=0) then
 some
 (Sum.inr
 ((false,(0,[],[],(0,0,()),()),
 (0,false,false,0,0,(0,0,()),()),
 (false,
 (0,[],[],[],0,0,0,[],[],[],0,0,0,false,[],[],[],
 ()),
 [],[],0,0,()),
 [],[],[],[],[],[],false,()),
 b_4.2))
 else
 Option.bind
 (F31
 (wrap64 (8+x.1.1),
 wrap64 (0+1),x.1.2.2.2.1.2.1,6,
 wrap64 (x.2.1*1000000),()))
 fun b_5=>
 bif b_5.1.1 then
 bif !decide (b_5.2.1=0) then
 some
 (Sum.inr
 ((false,(0,[],[],(0,0,()),()),
 (0,false,false,0,0,(0,0,()),()),
 (false,
 (0,[],[],[],0,0,0,[],[],[],0,0,0,false,[],[],
 [],()),
 [],[],0,0,()),
 [],[],[],[],[],[],false,()),
 b_5.2))
 else
 some
 (Sum.inl
 ([b.1.2],[],[b_5.1.2],[b_1.1.2],[],()))
 else
 bif !decide (b_5.2.1=0) then
 some
 (Sum.inr
 ((false,(0,[],[],(0,0,()),()),
 (0,false,false,0,0,(0,0,()),()),
 (false,
 (0,[],[],[],0,0,0,[],[],[],0,0,0,false,[],[],
 [],()),
 [],[],0,0,()),
 [],[],[],[],[],[],false,()),
 b_5.2))
 else some (Sum.inl ([b.1.2],[],[],[b_1.1.2],[],()))
 else
 bif !decide (b_1.2.1=0) then
 some
 (Sum.inr
 ((false,(0,[],[],(0,0,()),()),
 (0,false,false,0,0,(0,0,()),()),
 (false,(0,[],[],[],0,0,0,[],[],[],0,0,0,false,[],[],[],()),
 [],[],0,0,()),
 [],[],[],[],[],[],false,()),
 b_1.2))
 else
 Option.bind
 (F31
 (wrap64 (8+x.1.1),0,x.1.2.2.2.1.1,6,
 wrap64 (x.2.1*1000000),()))
 fun b_2=>
 bif b_2.1.1 then
 bif !decide (b_2.2.1=0) then
 some
 (Sum.inr
 ((false,(0,[],[],(0,0,()),()),
 (0,false,false,0,0,(0,0,()),()),
 (false,
 (0,[],[],[],0,0,0,[],[],[],0,0,0,false,[],[],[],()),
 [],[],0,0,()),
 [],[],[],[],[],[],false,()),
 b_2.2))
 else
 Option.bind
 (F31
 (wrap64 (8+x.1.1),wrap64 (0+1),
 x.1.2.2.2.1.2.1,6,wrap64 (x.2.1*1000000),
 ()))
 fun b_3=>
 bif b_3.1.1 then
 bif !decide (b_3.2.1=0) then
 some
 (Sum.inr
 ((false,(0,[],[],(0,0,()),()),
 (0,false,false,0,0,(0,0,()),()),
 (false,
 (0,[],[],[],0,0,0,[],[],[],0,0,0,false,[],[],[],
 ()),
 [],[],0,0,()),
 [],[],[],[],[],[],false,()),
 b_3.2))
 else
 Option.bind
 (F31
 (wrap64 (8+x.1.1),wrap64 (0+1),
 x.1.2.2.2.1.2.1,6,
 wrap64 (x.2.1*1000000),()))
 fun b_4=>
 bif b_4.1.1 then
 bif !decide (b_4.2.1=0) then
 some
 (Sum.inr
 ((false,(0,[],[],(0,0,()),()),
 (0,false,false,0,0,(0,0,()),()),
 (false,
 (0,[],[],[],0,0,0,[],[],[],0,0,0,false,[],[],[],
 ()),
 [],[],0,0,()),
 [],[],[],[],[],[],false,()),
 b_4.2))
 else
 Option.bind
 (F31
 (wrap64 (8+x.1.1),
 wrap64 (0+1),x.1.2.2.2.1.2.1,6,
 wrap64 (x.2.1*1000000),()))
 fun b_5=>
 bif b_5.1.1 then
 bif !decide (b_5.2.1=0) then
 some
 (Sum.inr
 ((false,(0,[],[],(0,0,()),()),
 (0,false,false,0,0,(0,0,()),()),
 (false,
 (0,[],[],[],0,0,0,[],[],[],0,0,0,false,[],[],
 [],()),
 [],[],0,0,()),
 [],[],[],[],[],[],false,()),
 b_5.2))
 else
 some
 (Sum.inl
 ([b.1.2],[b_3.1.2],[b_5.1.2],[],[b_4.1.2],
 ()))
 else
 bif !decide (b_5.2.1=0) then
 some
 (Sum.inr
 ((false,(0,[],[],(0,0,()),()),
 (0,false,false,0,0,(0,0,()),()),
 (false,
 (0,[],[],[],0,0,0,[],[],[],0,0,0,false,[],[],
 [],()),
 [],[],0,0,()),
 [],[],[],[],[],[],false,()),
 b_5.2))
 else
 some
 (Sum.inl
 ([b.1.2],[b_3.1.2],[],[],[b_4.1.2],()))
 else
 bif !decide (b_4.2.1=0) then
 some
 (Sum.inr
 ((false,(0,[],[],(0,0,()),()),
 (0,false,false,0,0,(0,0,()),()),
 (false,
 (0,[],[],[],0,0,0,[],[],[],0,0,0,false,[],[],[],
 ()),
 [],[],0,0,()),
 [],[],[],[],[],[],false,()),
 b_4.2))
 else
 Option.bind
 (F31
 (wrap64 (8+x.1.1),
 wrap64 (0+1),x.1.2.2.2.1.2.1,6,
 wrap64 (x.2.1*1000000),()))
 fun b_5=>
 bif b_5.1.1 then
 bif !decide (b_5.2.1=0) then
 some
 (Sum.inr
 ((false,(0,[],[],(0,0,()),()),
 (0,false,false,0,0,(0,0,()),()),
 (false,
 (0,[],[],[],0,0,0,[],[],[],0,0,0,false,[],[],
 [],()),
 [],[],0,0,()),
 [],[],[],[],[],[],false,()),
 b_5.2))
 else
 some
 (Sum.inl
 ([b.1.2],[b_3.1.2],[b_5.1.2],[],[],()))
 else
 bif !decide (b_5.2.1=0) then
 some
 (Sum.inr
 ((false,(0,[],[],(0,0,()),()),
 (0,false,false,0,0,(0,0,()),()),
 (false,
 (0,[],[],[],0,0,0,[],[],[],0,0,0,false,[],[],
 [],()),
 [],[],0,0,()),
 [],[],[],[],[],[],false,()),
 b_5.2))
 else some (Sum.inl ([b.1.2],[b_3.1.2],[],[],[],()))
 else
 bif !decide (b_3.2.1=0) then
 some
 (Sum.inr
 ((false,(0,[],[],(0,0,()),()),
 (0,false,false,0,0,(0,0,()),()),
 (false,
 (0,[],[],[],0,0,0,[],[],[],0,0,0,false,[],[],[],
 ()),
 [],[],0,0,()),
 [],[],[],[],[],[],false,()),
 b_3.2))
 else
 Option.bind
 (F31
 (wrap64 (8+x.1.1),wrap64 (0+1),
 x.1.2.2.2.1.2.1,6,
 wrap64 (x.2.1*1000000),()))
 fun b_4=>
 bif b_4.1.1 then
 bif !decide (b_4.2.1=0) then
 some
 (Sum.inr
 ((false,(0,[],[],(0,0,()),()),
 (0,false,false,0,0,(0,0,()),()),
 (false,
 (0,[],[],[],0,0,0,[],[],[],0,0,0,false,[],[],[],
 ()),
 [],[],0,0,()),
 [],[],[],[],[],[],false,()),
 b_4.2))
 else
 Option.bind
 (F31
 (wrap64 (8+x.1.1),
 wrap64 (0+1),x.1.2.2.2.1.2.1,6,
 wrap64 (x.2.1*1000000),()))
 fun b_5=>
 bif b_5.1.1 then
 bif !decide (b_5.2.1=0) then
 some
 (Sum.inr
 ((false,(0,[],[],(0,0,()),()),
 (0,false,false,0,0,(0,0,()),()),
 (false,
 (0,[],[],[],0,0,0,[],[],[],0,0,0,false,[],[],
 [],()),
 [],[],0,0,()),
 [],[],[],[],[],[],false,()),
 b_5.2))
 else
 some
 (Sum.inl
 ([b.1.2],[],[b_5.1.2],[],[b_4.1.2],()))
 else
 bif !decide (b_5.2.1=0) then
 some
 (Sum.inr
 ((false,(0,[],[],(0,0,()),()),
 (0,false,false,0,0,(0,0,()),()),
 (false,
 (0,[],[],[],0,0,0,[],[],[],0,0,0,false,[],[],
 [],()),
 [],[],0,0,()),
 [],[],[],[],[],[],false,()),
 b_5.2))
 else some (Sum.inl ([b.1.2],[],[],[],[b_4.1.2],()))
 else
 bif !decide (b_4.2.1=0) then
 some
 (Sum.inr
 ((false,(0,[],[],(0,0,()),()),
 (0,false,false,0,0,(0,0,()),()),
 (false,
 (0,[],[],[],0,0,0,[],[],[],0,0,0,false,[],[],[],
 ()),
 [],[],0,0,()),
 [],[],[],[],[],[],false,()),
 b_4.2))
 else
 Option.bind
 (F31
 (wrap64 (8+x.1.1),
 wrap64 (0+1),x.1.2.2.2.1.2.1,6,
 wrap64 (x.2.1*1000000),()))
 fun b_5=>
 bif b_5.1.1 then
 bif !decide (b_5.2.1=0) then
 some
 (Sum.inr
 ((false,(0,[],[],(0,0,()),()),
 (0,false,false,0,0,(0,0,()),()),
 (false,
 (0,[],[],[],0,0,0,[],[],[],0,0,0,false,[],[],
 [],()),
 [],[],0,0,()),
 [],[],[],[],[],[],false,()),
 b_5.2))
 else some (Sum.inl ([b.1.2],[],[b_5.1.2],[],[],()))
 else
 bif !decide (b_5.2.1=0) then
 some
 (Sum.inr
 ((false,(0,[],[],(0,0,()),()),
 (0,false,false,0,0,(0,0,()),()),
 (false,
 (0,[],[],[],0,0,0,[],[],[],0,0,0,false,[],[],
 [],()),
 [],[],0,0,()),
 [],[],[],[],[],[],false,()),
 b_5.2))
 else some (Sum.inl ([b.1.2],[],[],[],[],()))
 else
 bif !decide (b_2.2.1=0) then
 some
 (Sum.inr
 ((false,(0,[],[],(0,0,()),()),
 (0,false,false,0,0,(0,0,()),()),
 (false,
 (0,[],[],[],0,0,0,[],[],[],0,0,0,false,[],[],[],()),
 [],[],0,0,()),
 [],[],[],[],[],[],false,()),
 b_2.2))
 else
 Option.bind
 (F31
 (wrap64 (8+x.1.1),wrap64 (0+1),
 x.1.2.2.2.1.2.1,6,wrap64 (x.2.1*1000000),
 ()))
 fun b_3=>
 bif b_3.1.1 then
 bif !decide (b_3.2.1=0) then
 some
 (Sum.inr
 ((false,(0,[],[],(0,0,()),()),
 (0,false,false,0,0,(0,0,()),()),
 (false,
 (0,[],[],[],0,0,0,[],[],[],0,0,0,false,[],[],[],
 ()),
 [],[],0,0,()),
 [],[],[],[],[],[],false,()),
 b_3.2))
 else
 Option.bind
 (F31
 (wrap64 (8+x.1.1),wrap64 (0+1),
 x.1.2.2.2.1.2.1,6,
 wrap64 (x.2.1*1000000),()))
 fun b_4=>
 bif b_4.1.1 then
 bif !decide (b_4.2.1=0) then
 some
 (Sum.inr
 ((false,(0,[],[],(0,0,()),()),
 (0,false,false,0,0,(0,0,()),()),
 (false,
 (0,[],[],[],0,0,0,[],[],[],0,0,0,false,[],[],[],
 ()),
 [],[],0,0,()),
 [],[],[],[],[],[],false,()),
 b_4.2))
 else
 Option.bind
 (F31
 (wrap64 (8+x.1.1),
 wrap64 (0+1),x.1.2.2.2.1.2.1,6,
 wrap64 (x.2.1*1000000),()))
 fun b_5=>
 bif b_5.1.1 then
 bif !decide (b_5.2.1=0) then
 some
 (Sum.inr
 ((false,(0,[],[],(0,0,()),()),
 (0,false,false,0,0,(0,0,()),()),
 (false,
 (0,[],[],[],0,0,0,[],[],[],0,0,0,false,[],[],
 [],()),
 [],[],0,0,()),
 [],[],[],[],[],[],false,()),
 b_5.2))
 else
 some
 (Sum.inl
 ([b.1.2],[b_3.1.2],[b_5.1.2],[],[b_4.1.2],
 ()))
 else
 bif !decide (b_5.2.1=0) then
 some
 (Sum.inr
 ((false,(0,[],[],(0,0,()),()),
 (0,false,false,0,0,(0,0,()),()),
 (false,
 (0,[],[],[],0,0,0,[],[],[],0,0,0,false,[],[],
 [],()),
 [],[],0,0,()),
 [],[],[],[],[],[],false,()),
 b_5.2))
 else
 some
 (Sum.inl
 ([b.1.2],[b_3.1.2],[],[],[b_4.1.2],()))
 else
 bif !decide (b_4.2.1=0) then
 some
 (Sum.inr
 ((false,(0,[],[],(0,0,()),()),
 (0,false,false,0,0,(0,0,()),()),
 (false,
 (0,[],[],[],0,0,0,[],[],[],0,0,0,false,[],[],[],
 ()),
 [],[],0,0,()),
 [],[],[],[],[],[],false,()),
 b_4.2))
 else
 Option.bind
 (F31
 (wrap64 (8+x.1.1),
 wrap64 (0+1),x.1.2.2.2.1.2.1,6,
 wrap64 (x.2.1*1000000),()))
 fun b_5=>
 bif b_5.1.1 then
 bif !decide (b_5.2.1=0) then
 some
 (Sum.inr
 ((false,(0,[],[],(0,0,()),()),
 (0,false,false,0,0,(0,0,()),()),
 (false,
 (0,[],[],[],0,0,0,[],[],[],0,0,0,false,[],[],
 [],()),
 [],[],0,0,()),
 [],[],[],[],[],[],false,()),
 b_5.2))
 else
 some
 (Sum.inl
 ([b.1.2],[b_3.1.2],[b_5.1.2],[],[],()))
 else
 bif !decide (b_5.2.1=0) then
 some
 (Sum.inr
 ((false,(0,[],[],(0,0,()),()),
 (0,false,false,0,0,(0,0,()),()),
 (false,
 (0,[],[],[],0,0,0,[],[],[],0,0,0,false,[],[],
 [],()),
 [],[],0,0,()),
 [],[],[],[],[],[],false,()),
 b_5.2))
 else some (Sum.inl ([b.1.2],[b_3.1.2],[],[],[],()))
 else
 bif !decide (b_3.2.1=0) then
 some
 (Sum.inr
 ((false,(0,[],[],(0,0,()),()),
 (0,false,false,0,0,(0,0,()),()),
 (false,
 (0,[],[],[],0,0,0,[],[],[],0,0,0,false,[],[],[],
 ()),
 [],[],0,0,()),
 [],[],[],[],[],[],false,()),
 b_3.2))
 else
 Option.bind
 (F31
 (wrap64 (8+x.1.1),wrap64 (0+1),
 x.1.2.2.2.1.2.1,6,
 wrap64 (x.2.1*1000000),()))
 fun b_4=>
 bif b_4.1.1 then
 bif !decide (b_4.2.1=0) then
 some
 (Sum.inr
 ((false,(0,[],[],(0,0,()),()),
 (0,false,false,0,0,(0,0,()),()),
 (false,
 (0,[],[],[],0,0,0,[],[],[],0,0,0,false,[],[],[],
 ()),
 [],[],0,0,()),
 [],[],[],[],[],[],false,()),
 b_4.2))
 else
 Option.bind
 (F31
 (wrap64 (8+x.1.1),
 wrap64 (0+1),x.1.2.2.2.1.2.1,6,
 wrap64 (x.2.1*1000000),()))
 fun b_5=>
 bif b_5.1.1 then
 bif !decide (b_5.2.1=0) then
 some
 (Sum.inr
 ((false,(0,[],[],(0,0,()),()),
 (0,false,false,0,0,(0,0,()),()),
 (false,
 (0,[],[],[],0,0,0,[],[],[],0,0,0,false,[],[],
 [],()),
 [],[],0,0,()),
 [],[],[],[],[],[],false,()),
 b_5.2))
 else
 some
 (Sum.inl
 ([b.1.2],[],[b_5.1.2],[],[b_4.1.2],()))
 else
 bif !decide (b_5.2.1=0) then
 some
 (Sum.inr
 ((false,(0,[],[],(0,0,()),()),
 (0,false,false,0,0,(0,0,()),()),
 (false,
 (0,[],[],[],0,0,0,[],[],[],0,0,0,false,[],[],
 [],()),
 [],[],0,0,()),
 [],[],[],[],[],[],false,()),
 b_5.2))
 else some (Sum.inl ([b.1.2],[],[],[],[b_4.1.2],()))
 else
 bif !decide (b_4.2.1=0) then
 some
 (Sum.inr
 ((false,(0,[],[],(0,0,()),()),
 (0,false,false,0,0,(0,0,()),()),
 (false,
 (0,[],[],[],0,0,0,[],[],[],0,0,0,false,[],[],[],
 ()),
 [],[],0,0,()),
 [],[],[],[],[],[],false,()),
 b_4.2))
 else
 Option.bind
 (F31
 (wrap64 (8+x.1.1),
 wrap64 (0+1),x.1.2.2.2.1.2.1,6,
 wrap64 (x.2.1*1000000),()))
 fun b_5=>
 bif b_5.1.1 then
 bif !decide (b_5.2.1=0) then
 some
 (Sum.inr
 ((false,(0,[],[],(0,0,()),()),
 (0,false,false,0,0,(0,0,()),()),
 (false,
 (0,[],[],[],0,0,0,[],[],[],0,0,0,false,[],[],
 [],()),
 [],[],0,0,()),
 [],[],[],[],[],[],false,()),
 b_5.2))
 else some (Sum.inl ([b.1.2],[],[b_5.1.2],[],[],()))
 else
 bif !decide (b_5.2.1=0) then
 some
 (Sum.inr
 ((false,(0,[],[],(0,0,()),()),
 (0,false,false,0,0,(0,0,()),()),
 (false,
 (0,[],[],[],0,0,0,[],[],[],0,0,0,false,[],[],
 [],()),
 [],[],0,0,()),
 [],[],[],[],[],[],false,()),
 b_5.2))
 else some (Sum.inl ([b.1.2],[],[],[],[],()))
 else
 bif !decide (b.2.1=0) then
 some
 (Sum.inr
 ((false,(0,[],[],(0,0,()),()),
 (0,false,false,0,0,(0,0,()),()),
 (false,(0,[],[],[],0,0,0,[],[],[],0,0,0,false,[],[],[],()),[],[],
 0,0,()),
 [],[],[],[],[],[],false,()),
 b.2))
 else
 Option.bind
 (F31
 (wrap64 (8+x.1.1),0,x.1.2.2.2.1.1,6,
 wrap64 (x.2.1*1000000),()))
 fun b=>
 bif b.1.1 then
 bif !decide (b.2.1=0) then
 some
 (Sum.inr
 ((false,(0,[],[],(0,0,()),()),
 (0,false,false,0,0,(0,0,()),()),
 (false,(0,[],[],[],0,0,0,[],[],[],0,0,0,false,[],[],[],()),
 [],[],0,0,()),
 [],[],[],[],[],[],false,()),
 b.2))
 else
 Option.bind
 (F31
 (wrap64 (8+x.1.1),0,x.1.2.2.2.1.1,6,
 wrap64 (x.2.1*1000000),()))
 fun b_1=>
 bif b_1.1.1 then
 bif !decide (b_1.2.1=0) then
 some
 (Sum.inr
 ((false,(0,[],[],(0,0,()),()),
 (0,false,false,0,0,(0,0,()),()),
 (false,
 (0,[],[],[],0,0,0,[],[],[],0,0,0,false,[],[],[],()),
 [],[],0,0,()),
 [],[],[],[],[],[],false,()),
 b_1.2))
 else
 Option.bind
 (F31
 (wrap64 (8+x.1.1),wrap64 (0+1),
 x.1.2.2.2.1.2.1,6,wrap64 (x.2.1*1000000),
 ()))
 fun b_2=>
 bif b_2.1.1 then
 bif !decide (b_2.2.1=0) then
 some
 (Sum.inr
 ((false,(0,[],[],(0,0,()),()),
 (0,false,false,0,0,(0,0,()),()),
 (false,
 (0,[],[],[],0,0,0,[],[],[],0,0,0,false,[],[],[],
 ()),
 [],[],0,0,()),
 [],[],[],[],[],[],false,()),
 b_2.2))
 else
 Option.bind
 (F31
 (wrap64 (8+x.1.1),wrap64 (0+1),
 x.1.2.2.2.1.2.1,6,
 wrap64 (x.2.1*1000000),()))
 fun b_3=>
 bif b_3.1.1 then
 bif !decide (b_3.2.1=0) then
 some
 (Sum.inr
 ((false,(0,[],[],(0,0,()),()),
 (0,false,false,0,0,(0,0,()),()),
 (false,
 (0,[],[],[],0,0,0,[],[],[],0,0,0,false,[],[],[],
 ()),
 [],[],0,0,()),
 [],[],[],[],[],[],false,()),
 b_3.2))
 else
 Option.bind
 (F31
 (wrap64 (8+x.1.1),
 wrap64 (0+1),x.1.2.2.2.1.2.1,6,
 wrap64 (x.2.1*1000000),()))
 fun b_4=>
 bif b_4.1.1 then
 bif !decide (b_4.2.1=0) then
 some
 (Sum.inr
 ((false,(0,[],[],(0,0,()),()),
 (0,false,false,0,0,(0,0,()),()),
 (false,
 (0,[],[],[],0,0,0,[],[],[],0,0,0,false,[],[],
 [],()),
 [],[],0,0,()),
 [],[],[],[],[],[],false,()),
 b_4.2))
 else
 some
 (Sum.inl
 ([],[b_2.1.2],[b_4.1.2],[b.1.2],[b_3.1.2],
 ()))
 else
 bif !decide (b_4.2.1=0) then
 some
 (Sum.inr
 ((false,(0,[],[],(0,0,()),()),
 (0,false,false,0,0,(0,0,()),()),
 (false,
 (0,[],[],[],0,0,0,[],[],[],0,0,0,false,[],[],
 [],()),
 [],[],0,0,()),
 [],[],[],[],[],[],false,()),
 b_4.2))
 else
 some
 (Sum.inl
 ([],[b_2.1.2],[],[b.1.2],[b_3.1.2],()))
 else
 bif !decide (b_3.2.1=0) then
 some
 (Sum.inr
 ((false,(0,[],[],(0,0,()),()),
 (0,false,false,0,0,(0,0,()),()),
 (false,
 (0,[],[],[],0,0,0,[],[],[],0,0,0,false,[],[],[],
 ()),
 [],[],0,0,()),
 [],[],[],[],[],[],false,()),
 b_3.2))
 else
 Option.bind
 (F31
 (wrap64 (8+x.1.1),
 wrap64 (0+1),x.1.2.2.2.1.2.1,6,
 wrap64 (x.2.1*1000000),()))
 fun b_4=>
 bif b_4.1.1 then
 bif !decide (b_4.2.1=0) then
 some
 (Sum.inr
 ((false,(0,[],[],(0,0,()),()),
 (0,false,false,0,0,(0,0,()),()),
 (false,
 (0,[],[],[],0,0,0,[],[],[],0,0,0,false,[],[],
 [],()),
 [],[],0,0,()),
 [],[],[],[],[],[],false,()),
 b_4.2))
 else
 some
 (Sum.inl
 ([],[b_2.1.2],[b_4.1.2],[b.1.2],[],()))
 else
 bif !decide (b_4.2.1=0) then
 some
 (Sum.inr
 ((false,(0,[],[],(0,0,()),()),
 (0,false,false,0,0,(0,0,()),()),
 (false,
 (0,[],[],[],0,0,0,[],[],[],0,0,0,false,[],[],
 [],()),
 [],[],0,0,()),
 [],[],[],[],[],[],false,()),
 b_4.2))
 else some (Sum.inl ([],[b_2.1.2],[],[b.1.2],[],()))
 else
 bif !decide (b_2.2.1=0) then
 some
 (Sum.inr
 ((false,(0,[],[],(0,0,()),()),
 (0,false,false,0,0,(0,0,()),()),
 (false,
 (0,[],[],[],0,0,0,[],[],[],0,0,0,false,[],[],[],
 ()),
 [],[],0,0,()),
 [],[],[],[],[],[],false,()),
 b_2.2))
 else
 Option.bind
 (F31
 (wrap64 (8+x.1.1),wrap64 (0+1),
 x.1.2.2.2.1.2.1,6,
 wrap64 (x.2.1*1000000),()))
 fun b_3=>
 bif b_3.1.1 then
 bif !decide (b_3.2.1=0) then
 some
 (Sum.inr
 ((false,(0,[],[],(0,0,()),()),
 (0,false,false,0,0,(0,0,()),()),
 (false,
 (0,[],[],[],0,0,0,[],[],[],0,0,0,false,[],[],[],
 ()),
 [],[],0,0,()),
 [],[],[],[],[],[],false,()),
 b_3.2))
 else
 Option.bind
 (F31
 (wrap64 (8+x.1.1),
 wrap64 (0+1),x.1.2.2.2.1.2.1,6,
 wrap64 (x.2.1*1000000),()))
 fun b_4=>
 bif b_4.1.1 then
 bif !decide (b_4.2.1=0) then
 some
 (Sum.inr
 ((false,(0,[],[],(0,0,()),()),
 (0,false,false,0,0,(0,0,()),()),
 (false,
 (0,[],[],[],0,0,0,[],[],[],0,0,0,false,[],[],
 [],()),
 [],[],0,0,()),
 [],[],[],[],[],[],false,()),
 b_4.2))
 else
 some
 (Sum.inl
 ([],[],[b_4.1.2],[b.1.2],[b_3.1.2],()))
 else
 bif !decide (b_4.2.1=0) then
 some
 (Sum.inr
 ((false,(0,[],[],(0,0,()),()),
 (0,false,false,0,0,(0,0,()),()),
 (false,
 (0,[],[],[],0,0,0,[],[],[],0,0,0,false,[],[],
 [],()),
 [],[],0,0,()),
 [],[],[],[],[],[],false,()),
 b_4.2))
 else some (Sum.inl ([],[],[],[b.1.2],[b_3.1.2],()))
 else
 bif !decide (b_3.2.1=0) then
 some
 (Sum.inr
 ((false,(0,[],[],(0,0,()),()),
 (0,false,false,0,0,(0,0,()),()),
 (false,
 (0,[],[],[],0,0,0,[],[],[],0,0,0,false,[],[],[],
 ()),
 [],[],0,0,()),
 [],[],[],[],[],[],false,()),
 b_3.2))
 else
 Option.bind
 (F31
 (wrap64 (8+x.1.1),
 wrap64 (0+1),x.1.2.2.2.1.2.1,6,
 wrap64 (x.2.1*1000000),()))
 fun b_4=>
 bif b_4.1.1 then
 bif !decide (b_4.2.1=0) then
 some
 (Sum.inr
 ((false,(0,[],[],(0,0,()),()),
 (0,false,false,0,0,(0,0,()),()),
 (false,
 (0,[],[],[],0,0,0,[],[],[],0,0,0,false,[],[],
 [],()),
 [],[],0,0,()),
 [],[],[],[],[],[],false,()),
 b_4.2))
 else some (Sum.inl ([],[],[b_4.1.2],[b.1.2],[],()))
 else
 bif !decide (b_4.2.1=0) then
 some
 (Sum.inr
 ((false,(0,[],[],(0,0,()),()),
 (0,false,false,0,0,(0,0,()),()),
 (false,
 (0,[],[],[],0,0,0,[],[],[],0,0,0,false,[],[],
 [],()),
 [],[],0,0,()),
 [],[],[],[],[],[],false,()),
 b_4.2))
 else some (Sum.inl ([],[],[],[b.1.2],[],()))
 else
 bif !decide (b_1.2.1=0) then
 some
 (Sum.inr
 ((false,(0,[],[],(0,0,()),()),
 (0,false,false,0,0,(0,0,()),()),
 (false,
 (0,[],[],[],0,0,0,[],[],[],0,0,0,false,[],[],[],()),
 [],[],0,0,()),
 [],[],[],[],[],[],false,()),
 b_1.2))
 else
 Option.bind
 (F31
 (wrap64 (8+x.1.1),wrap64 (0+1),
 x.1.2.2.2.1.2.1,6,wrap64 (x.2.1*1000000),
 ()))
 fun b_2=>
 bif b_2.1.1 then
 bif !decide (b_2.2.1=0) then
 some
 (Sum.inr
 ((false,(0,[],[],(0,0,()),()),
 (0,false,false,0,0,(0,0,()),()),
 (false,
 (0,[],[],[],0,0,0,[],[],[],0,0,0,false,[],[],[],
 ()),
 [],[],0,0,()),
 [],[],[],[],[],[],false,()),
 b_2.2))
 else
 Option.bind
 (F31
 (wrap64 (8+x.1.1),wrap64 (0+1),
 x.1.2.2.2.1.2.1,6,
 wrap64 (x.2.1*1000000),()))
 fun b_3=>
 bif b_3.1.1 then
 bif !decide (b_3.2.1=0) then
 some
 (Sum.inr
 ((false,(0,[],[],(0,0,()),()),
 (0,false,false,0,0,(0,0,()),()),
 (false,
 (0,[],[],[],0,0,0,[],[],[],0,0,0,false,[],[],[],
 ()),
 [],[],0,0,()),
 [],[],[],[],[],[],false,()),
 b_3.2))
 else
 Option.bind
 (F31
 (wrap64 (8+x.1.1),
 wrap64 (0+1),x.1.2.2.2.1.2.1,6,
 wrap64 (x.2.1*1000000),()))
 fun b_4=>
 bif b_4.1.1 then
 bif !decide (b_4.2.1=0) then
 some
 (Sum.inr
 ((false,(0,[],[],(0,0,()),()),
 (0,false,false,0,0,(0,0,()),()),
 (false,
 (0,[],[],[],0,0,0,[],[],[],0,0,0,false,[],[],
 [],()),
 [],[],0,0,()),
 [],[],[],[],[],[],false,()),
 b_4.2))
 else
 some
 (Sum.inl
 ([],[b_2.1.2],[b_4.1.2],[b.1.2],[b_3.1.2],
 ()))
 else
 bif !decide (b_4.2.1=0) then
 some
 (Sum.inr
 ((false,(0,[],[],(0,0,()),()),
 (0,false,false,0,0,(0,0,()),()),
 (false,
 (0,[],[],[],0,0,0,[],[],[],0,0,0,false,[],[],
 [],()),
 [],[],0,0,()),
 [],[],[],[],[],[],false,()),
 b_4.2))
 else
 some
 (Sum.inl
 ([],[b_2.1.2],[],[b.1.2],[b_3.1.2],()))
 else
 bif !decide (b_3.2.1=0) then
 some
 (Sum.inr
 ((false,(0,[],[],(0,0,()),()),
 (0,false,false,0,0,(0,0,()),()),
 (false,
 (0,[],[],[],0,0,0,[],[],[],0,0,0,false,[],[],[],
 ()),
 [],[],0,0,()),
 [],[],[],[],[],[],false,()),
 b_3.2))
 else
 Option.bind
 (F31
 (wrap64 (8+x.1.1),
 wrap64 (0+1),x.1.2.2.2.1.2.1,6,
 wrap64 (x.2.1*1000000),()))
 fun b_4=>
 bif b_4.1.1 then
 bif !decide (b_4.2.1=0) then
 some
 (Sum.inr
 ((false,(0,[],[],(0,0,()),()),
 (0,false,false,0,0,(0,0,()),()),
 (false,
 (0,[],[],[],0,0,0,[],[],[],0,0,0,false,[],[],
 [],()),
 [],[],0,0,()),
 [],[],[],[],[],[],false,()),
 b_4.2))
 else
 some
 (Sum.inl
 ([],[b_2.1.2],[b_4.1.2],[b.1.2],[],()))
 else
 bif !decide (b_4.2.1=0) then
 some
 (Sum.inr
 ((false,(0,[],[],(0,0,()),()),
 (0,false,false,0,0,(0,0,()),()),
 (false,
 (0,[],[],[],0,0,0,[],[],[],0,0,0,false,[],[],
 [],()),
 [],[],0,0,()),
 [],[],[],[],[],[],false,()),
 b_4.2))
 else some (Sum.inl ([],[b_2.1.2],[],[b.1.2],[],()))
 else
 bif !decide (b_2.2.1=0) then
 some
 (Sum.inr
 ((false,(0,[],[],(0,0,()),()),
 (0,false,false,0,0,(0,0,()),()),
 (false,
 (0,[],[],[],0,0,0,[],[],[],0,0,0,false,[],[],[],
 ()),
 [],[],0,0,()),
 [],[],[],[],[],[],false,()),
 b_2.2))
 else
 Option.bind
 (F31
 (wrap64 (8+x.1.1),wrap64 (0+1),
 x.1.2.2.2.1.2.1,6,
 wrap64 (x.2.1*1000000),()))
 fun b_3=>
 bif b_3.1.1 then
 bif !decide (b_3.2.1=0) then
 some
 (Sum.inr
 ((false,(0,[],[],(0,0,()),()),
 (0,false,false,0,0,(0,0,()),()),
 (false,
 (0,[],[],[],0,0,0,[],[],[],0,0,0,false,[],[],[],
 ()),
 [],[],0,0,()),
 [],[],[],[],[],[],false,()),
 b_3.2))
 else
 Option.bind
 (F31
 (wrap64 (8+x.1.1),
 wrap64 (0+1),x.1.2.2.2.1.2.1,6,
 wrap64 (x.2.1*1000000),()))
 fun b_4=>
 bif b_4.1.1 then
 bif !decide (b_4.2.1=0) then
 some
 (Sum.inr
 ((false,(0,[],[],(0,0,()),()),
 (0,false,false,0,0,(0,0,()),()),
 (false,
 (0,[],[],[],0,0,0,[],[],[],0,0,0,false,[],[],
 [],()),
 [],[],0,0,()),
 [],[],[],[],[],[],false,()),
 b_4.2))
 else
 some
 (Sum.inl
 ([],[],[b_4.1.2],[b.1.2],[b_3.1.2],()))
 else
 bif !decide (b_4.2.1=0) then
 some
 (Sum.inr
 ((false,(0,[],[],(0,0,()),()),
 (0,false,false,0,0,(0,0,()),()),
 (false,
 (0,[],[],[],0,0,0,[],[],[],0,0,0,false,[],[],
 [],()),
 [],[],0,0,()),
 [],[],[],[],[],[],false,()),
 b_4.2))
 else some (Sum.inl ([],[],[],[b.1.2],[b_3.1.2],()))
 else
 bif !decide (b_3.2.1=0) then
 some
 (Sum.inr
 ((false,(0,[],[],(0,0,()),()),
 (0,false,false,0,0,(0,0,()),()),
 (false,
 (0,[],[],[],0,0,0,[],[],[],0,0,0,false,[],[],[],
 ()),
 [],[],0,0,()),
 [],[],[],[],[],[],false,()),
 b_3.2))
 else
 Option.bind
 (F31
 (wrap64 (8+x.1.1),
 wrap64 (0+1),x.1.2.2.2.1.2.1,6,
 wrap64 (x.2.1*1000000),()))
 fun b_4=>
 bif b_4.1.1 then
 bif !decide (b_4.2.1=0) then
 some
 (Sum.inr
 ((false,(0,[],[],(0,0,()),()),
 (0,false,false,0,0,(0,0,()),()),
 (false,
 (0,[],[],[],0,0,0,[],[],[],0,0,0,false,[],[],
 [],()),
 [],[],0,0,()),
 [],[],[],[],[],[],false,()),
 b_4.2))
 else some (Sum.inl ([],[],[b_4.1.2],[b.1.2],[],()))
 else
 bif !decide (b_4.2.1=0) then
 some
 (Sum.inr
 ((false,(0,[],[],(0,0,()),()),
 (0,false,false,0,0,(0,0,()),()),
 (false,
 (0,[],[],[],0,0,0,[],[],[],0,0,0,false,[],[],
 [],()),
 [],[],0,0,()),
 [],[],[],[],[],[],false,()),
 b_4.2))
 else some (Sum.inl ([],[],[],[b.1.2],[],()))
 else
 bif !decide (b.2.1=0) then
 some
 (Sum.inr
 ((false,(0,[],[],(0,0,()),()),
 (0,false,false,0,0,(0,0,()),()),
 (false,(0,[],[],[],0,0,0,[],[],[],0,0,0,false,[],[],[],()),
 [],[],0,0,()),
 [],[],[],[],[],[],false,()),
 b.2))
 else
 Option.bind
 (F31
 (wrap64 (8+x.1.1),0,x.1.2.2.2.1.1,6,
 wrap64 (x.2.1*1000000),()))
 fun b=>
 bif b.1.1 then
 bif !decide (b.2.1=0) then
 some
 (Sum.inr
 ((false,(0,[],[],(0,0,()),()),
 (0,false,false,0,0,(0,0,()),()),
 (false,
 (0,[],[],[],0,0,0,[],[],[],0,0,0,false,[],[],[],()),
 [],[],0,0,()),
 [],[],[],[],[],[],false,()),
 b.2))
 else
 Option.bind
 (F31
 (wrap64 (8+x.1.1),wrap64 (0+1),
 x.1.2.2.2.1.2.1,6,wrap64 (x.2.1*1000000),
 ()))
 fun b=>
 bif b.1.1 then
 bif !decide (b.2.1=0) then
 some
 (Sum.inr
 ((false,(0,[],[],(0,0,()),()),
 (0,false,false,0,0,(0,0,()),()),
 (false,
 (0,[],[],[],0,0,0,[],[],[],0,0,0,false,[],[],[],
 ()),
 [],[],0,0,()),
 [],[],[],[],[],[],false,()),
 b.2))
 else
 Option.bind
 (F31
 (wrap64 (8+x.1.1),wrap64 (0+1),
 x.1.2.2.2.1.2.1,6,
 wrap64 (x.2.1*1000000),()))
 fun b_1=>
 bif b_1.1.1 then
 bif !decide (b_1.2.1=0) then
 some
 (Sum.inr
 ((false,(0,[],[],(0,0,()),()),
 (0,false,false,0,0,(0,0,()),()),
 (false,
 (0,[],[],[],0,0,0,[],[],[],0,0,0,false,[],[],[],
 ()),
 [],[],0,0,()),
 [],[],[],[],[],[],false,()),
 b_1.2))
 else
 Option.bind
 (F31
 (wrap64 (8+x.1.1),
 wrap64 (0+1),x.1.2.2.2.1.2.1,6,
 wrap64 (x.2.1*1000000),()))
 fun b_2=>
 bif b_2.1.1 then
 bif !decide (b_2.2.1=0) then
 some
 (Sum.inr
 ((false,(0,[],[],(0,0,()),()),
 (0,false,false,0,0,(0,0,()),()),
 (false,
 (0,[],[],[],0,0,0,[],[],[],0,0,0,false,[],[],
 [],()),
 [],[],0,0,()),
 [],[],[],[],[],[],false,()),
 b_2.2))
 else
 some
 (Sum.inl
 ([],[b.1.2],[b_2.1.2],[],[b_1.1.2],()))
 else
 bif !decide (b_2.2.1=0) then
 some
 (Sum.inr
 ((false,(0,[],[],(0,0,()),()),
 (0,false,false,0,0,(0,0,()),()),
 (false,
 (0,[],[],[],0,0,0,[],[],[],0,0,0,false,[],[],
 [],()),
 [],[],0,0,()),
 [],[],[],[],[],[],false,()),
 b_2.2))
 else some (Sum.inl ([],[b.1.2],[],[],[b_1.1.2],()))
 else
 bif !decide (b_1.2.1=0) then
 some
 (Sum.inr
 ((false,(0,[],[],(0,0,()),()),
 (0,false,false,0,0,(0,0,()),()),
 (false,
 (0,[],[],[],0,0,0,[],[],[],0,0,0,false,[],[],[],
 ()),
 [],[],0,0,()),
 [],[],[],[],[],[],false,()),
 b_1.2))
 else
 Option.bind
 (F31
 (wrap64 (8+x.1.1),
 wrap64 (0+1),x.1.2.2.2.1.2.1,6,
 wrap64 (x.2.1*1000000),()))
 fun b_2=>
 bif b_2.1.1 then
 bif !decide (b_2.2.1=0) then
 some
 (Sum.inr
 ((false,(0,[],[],(0,0,()),()),
 (0,false,false,0,0,(0,0,()),()),
 (false,
 (0,[],[],[],0,0,0,[],[],[],0,0,0,false,[],[],
 [],()),
 [],[],0,0,()),
 [],[],[],[],[],[],false,()),
 b_2.2))
 else some (Sum.inl ([],[b.1.2],[b_2.1.2],[],[],()))
 else
 bif !decide (b_2.2.1=0) then
 some
 (Sum.inr
 ((false,(0,[],[],(0,0,()),()),
 (0,false,false,0,0,(0,0,()),()),
 (false,
 (0,[],[],[],0,0,0,[],[],[],0,0,0,false,[],[],
 [],()),
 [],[],0,0,()),
 [],[],[],[],[],[],false,()),
 b_2.2))
 else some (Sum.inl ([],[b.1.2],[],[],[],()))
 else
 bif !decide (b.2.1=0) then
 some
 (Sum.inr
 ((false,(0,[],[],(0,0,()),()),
 (0,false,false,0,0,(0,0,()),()),
 (false,
 (0,[],[],[],0,0,0,[],[],[],0,0,0,false,[],[],[],
 ()),
 [],[],0,0,()),
 [],[],[],[],[],[],false,()),
 b.2))
 else
 Option.bind
 (F31
 (wrap64 (8+x.1.1),wrap64 (0+1),
 x.1.2.2.2.1.2.1,6,
 wrap64 (x.2.1*1000000),()))
 fun b=>
 bif b.1.1 then
 bif !decide (b.2.1=0) then
 some
 (Sum.inr
 ((false,(0,[],[],(0,0,()),()),
 (0,false,false,0,0,(0,0,()),()),
 (false,
 (0,[],[],[],0,0,0,[],[],[],0,0,0,false,[],[],[],
 ()),
 [],[],0,0,()),
 [],[],[],[],[],[],false,()),
 b.2))
 else
 Option.bind
 (F31
 (wrap64 (8+x.1.1),
 wrap64 (0+1),x.1.2.2.2.1.2.1,6,
 wrap64 (x.2.1*1000000),()))
 fun b_1=>
 bif b_1.1.1 then
 bif !decide (b_1.2.1=0) then
 some
 (Sum.inr
 ((false,(0,[],[],(0,0,()),()),
 (0,false,false,0,0,(0,0,()),()),
 (false,
 (0,[],[],[],0,0,0,[],[],[],0,0,0,false,[],[],
 [],()),
 [],[],0,0,()),
 [],[],[],[],[],[],false,()),
 b_1.2))
 else some (Sum.inl ([],[],[b_1.1.2],[],[b.1.2],()))
 else
 bif !decide (b_1.2.1=0) then
 some
 (Sum.inr
 ((false,(0,[],[],(0,0,()),()),
 (0,false,false,0,0,(0,0,()),()),
 (false,
 (0,[],[],[],0,0,0,[],[],[],0,0,0,false,[],[],
 [],()),
 [],[],0,0,()),
 [],[],[],[],[],[],false,()),
 b_1.2))
 else some (Sum.inl ([],[],[],[],[b.1.2],()))
 else
 bif !decide (b.2.1=0) then
 some
 (Sum.inr
 ((false,(0,[],[],(0,0,()),()),
 (0,false,false,0,0,(0,0,()),()),
 (false,
 (0,[],[],[],0,0,0,[],[],[],0,0,0,false,[],[],[],
 ()),
 [],[],0,0,()),
 [],[],[],[],[],[],false,()),
 b.2))
 else
 Option.bind
 (F31
 (wrap64 (8+x.1.1),
 wrap64 (0+1),x.1.2.2.2.1.2.1,6,
 wrap64 (x.2.1*1000000),()))
 fun b=>
 bif b.1.1 then
 bif !decide (b.2.1=0) then
 some
 (Sum.inr
 ((false,(0,[],[],(0,0,()),()),
 (0,false,false,0,0,(0,0,()),()),
 (false,
 (0,[],[],[],0,0,0,[],[],[],0,0,0,false,[],[],
 [],()),
 [],[],0,0,()),
 [],[],[],[],[],[],false,()),
 b.2))
 else some (Sum.inl ([],[],[b.1.2],[],[],()))
 else
 bif !decide (b.2.1=0) then
 some
 (Sum.inr
 ((false,(0,[],[],(0,0,()),()),
 (0,false,false,0,0,(0,0,()),()),
 (false,
 (0,[],[],[],0,0,0,[],[],[],0,0,0,false,[],[],
 [],()),
 [],[],0,0,()),
 [],[],[],[],[],[],false,()),
 b.2))
 else some (Sum.inl ([],[],[],[],[],()))
 else
 bif !decide (b.2.1=0) then
 some
 (Sum.inr
 ((false,(0,[],[],(0,0,()),()),
 (0,false,false,0,0,(0,0,()),()),
 (false,
 (0,[],[],[],0,0,0,[],[],[],0,0,0,false,[],[],[],()),
 [],[],0,0,()),
 [],[],[],[],[],[],false,()),
 b.2))
 else
 Option.bind
 (F31
 (wrap64 (8+x.1.1),wrap64 (0+1),
 x.1.2.2.2.1.2.1,6,wrap64 (x.2.1*1000000),
 ()))
 fun b=>
 bif b.1.1 then
 bif !decide (b.2.1=0) then
 some
 (Sum.inr
 ((false,(0,[],[],(0,0,()),()),
 (0,false,false,0,0,(0,0,()),()),
 (false,
 (0,[],[],[],0,0,0,[],[],[],0,0,0,false,[],[],[],
 ()),
 [],[],0,0,()),
 [],[],[],[],[],[],false,()),
 b.2))
 else
 Option.bind
 (F31
 (wrap64 (8+x.1.1),wrap64 (0+1),
 x.1.2.2.2.1.2.1,6,
 wrap64 (x.2.1*1000000),()))
 fun b_1=>
 bif b_1.1.1 then
 bif !decide (b_1.2.1=0) then
 some
 (Sum.inr
 ((false,(0,[],[],(0,0,()),()),
 (0,false,false,0,0,(0,0,()),()),
 (false,
 (0,[],[],[],0,0,0,[],[],[],0,0,0,false,[],[],[],
 ()),
 [],[],0,0,()),
 [],[],[],[],[],[],false,()),
 b_1.2))
 else
 Option.bind
 (F31
 (wrap64 (8+x.1.1),
 wrap64 (0+1),x.1.2.2.2.1.2.1,6,
 wrap64 (x.2.1*1000000),()))
 fun b_2=>
 bif b_2.1.1 then
 bif !decide (b_2.2.1=0) then
 some
 (Sum.inr
 ((false,(0,[],[],(0,0,()),()),
 (0,false,false,0,0,(0,0,()),()),
 (false,
 (0,[],[],[],0,0,0,[],[],[],0,0,0,false,[],[],
 [],()),
 [],[],0,0,()),
 [],[],[],[],[],[],false,()),
 b_2.2))
 else
 some
 (Sum.inl
 ([],[b.1.2],[b_2.1.2],[],[b_1.1.2],()))
 else
 bif !decide (b_2.2.1=0) then
 some
 (Sum.inr
 ((false,(0,[],[],(0,0,()),()),
 (0,false,false,0,0,(0,0,()),()),
 (false,
 (0,[],[],[],0,0,0,[],[],[],0,0,0,false,[],[],
 [],()),
 [],[],0,0,()),
 [],[],[],[],[],[],false,()),
 b_2.2))
 else some (Sum.inl ([],[b.1.2],[],[],[b_1.1.2],()))
 else
 bif !decide (b_1.2.1=0) then
 some
 (Sum.inr
 ((false,(0,[],[],(0,0,()),()),
 (0,false,false,0,0,(0,0,()),()),
 (false,
 (0,[],[],[],0,0,0,[],[],[],0,0,0,false,[],[],[],
 ()),
 [],[],0,0,()),
 [],[],[],[],[],[],false,()),
 b_1.2))
 else
 Option.bind
 (F31
 (wrap64 (8+x.1.1),
 wrap64 (0+1),x.1.2.2.2.1.2.1,6,
 wrap64 (x.2.1*1000000),()))
 fun b_2=>
 bif b_2.1.1 then
 bif !decide (b_2.2.1=0) then
 some
 (Sum.inr
 ((false,(0,[],[],(0,0,()),()),
 (0,false,false,0,0,(0,0,()),()),
 (false,
 (0,[],[],[],0,0,0,[],[],[],0,0,0,false,[],[],
 [],()),
 [],[],0,0,()),
 [],[],[],[],[],[],false,()),
 b_2.2))
 else some (Sum.inl ([],[b.1.2],[b_2.1.2],[],[],()))
 else
 bif !decide (b_2.2.1=0) then
 some
 (Sum.inr
 ((false,(0,[],[],(0,0,()),()),
 (0,false,false,0,0,(0,0,()),()),
 (false,
 (0,[],[],[],0,0,0,[],[],[],0,0,0,false,[],[],
 [],()),
 [],[],0,0,()),
 [],[],[],[],[],[],false,()),
 b_2.2))
 else some (Sum.inl ([],[b.1.2],[],[],[],()))
 else
 bif !decide (b.2.1=0) then
 some
 (Sum.inr
 ((false,(0,[],[],(0,0,()),()),
 (0,false,false,0,0,(0,0,()),()),
 (false,
 (0,[],[],[],0,0,0,[],[],[],0,0,0,false,[],[],[],
 ()),
 [],[],0,0,()),
 [],[],[],[],[],[],false,()),
 b.2))
 else
 Option.bind
 (F31
 (wrap64 (8+x.1.1),wrap64 (0+1),
 x.1.2.2.2.1.2.1,6,
 wrap64 (x.2.1*1000000),()))
 fun b=>
 bif b.1.1 then
 bif !decide (b.2.1=0) then
 some
 (Sum.inr
 ((false,(0,[],[],(0,0,()),()),
 (0,false,false,0,0,(0,0,()),()),
 (false,
 (0,[],[],[],0,0,0,[],[],[],0,0,0,false,[],[],[],
 ()),
 [],[],0,0,()),
 [],[],[],[],[],[],false,()),
 b.2))
 else
 Option.bind
 (F31
 (wrap64 (8+x.1.1),
 wrap64 (0+1),x.1.2.2.2.1.2.1,6,
 wrap64 (x.2.1*1000000),()))
 fun b_1=>
 bif b_1.1.1 then
 bif !decide (b_1.2.1=0) then
 some
 (Sum.inr
 ((false,(0,[],[],(0,0,()),()),
 (0,false,false,0,0,(0,0,()),()),
 (false,
 (0,[],[],[],0,0,0,[],[],[],0,0,0,false,[],[],
 [],()),
 [],[],0,0,()),
 [],[],[],[],[],[],false,()),
 b_1.2))
 else some (Sum.inl ([],[],[b_1.1.2],[],[b.1.2],()))
 else
 bif !decide (b_1.2.1=0) then
 some
 (Sum.inr
 ((false,(0,[],[],(0,0,()),()),
 (0,false,false,0,0,(0,0,()),()),
 (false,
 (0,[],[],[],0,0,0,[],[],[],0,0,0,false,[],[],
 [],()),
 [],[],0,0,()),
 [],[],[],[],[],[],false,()),
 b_1.2))
 else some (Sum.inl ([],[],[],[],[b.1.2],()))
 else
 bif !decide (b.2.1=0) then
 some
 (Sum.inr
 ((false,(0,[],[],(0,0,()),()),
 (0,false,false,0,0,(0,0,()),()),
 (false,
 (0,[],[],[],0,0,0,[],[],[],0,0,0,false,[],[],[],
 ()),
 [],[],0,0,()),
 [],[],[],[],[],[],false,()),
 b.2))
 else
 Option.bind
 (F31
 (wrap64 (8+x.1.1),
 wrap64 (0+1),x.1.2.2.2.1.2.1,6,
 wrap64 (x.2.1*1000000),()))
 fun b=>
 bif b.1.1 then
 bif !decide (b.2.1=0) then
 some
 (Sum.inr
 ((false,(0,[],[],(0,0,()),()),
 (0,false,false,0,0,(0,0,()),()),
 (false,
 (0,[],[],[],0,0,0,[],[],[],0,0,0,false,[],[],
 [],()),
 [],[],0,0,()),
 [],[],[],[],[],[],false,()),
 b.2))
 else some (Sum.inl ([],[],[b.1.2],[],[],()))
 else
 bif !decide (b.2.1=0) then
 some
 (Sum.inr
 ((false,(0,[],[],(0,0,()),()),
 (0,false,false,0,0,(0,0,()),()),
 (false,
 (0,[],[],[],0,0,0,[],[],[],0,0,0,false,[],[],
 [],()),
 [],[],0,0,()),
 [],[],[],[],[],[],false,()),
 b.2))
 else some (Sum.inl ([],[],[],[],[],())))
 fun o=>
 Sum.elim
 (fun (x_1 :
 List (Int×Int×Int×Int×Int×Int×Int×Bool×(Int×Int×(Int×Int×Int×Int×Int×Int×Int×Int×Bool×List aC×aC×Unit)×(Int×Int×(Int×List UInt8×List UInt8×List UInt8×Int×Int×Int×List aN×List au×List au×Int×Int×Int×Bool×List af×List (Int×Int×(Int×Int×Bool×Int×List af×ai)×Unit)×List aG×Unit)×Unit)×Int×List UInt8×List UInt8×Int×Int×Int×Int×(Int×Int×Bool×Int×List af×ai)×List (Int×List af×Unit)×List af×Bool×(Int×Int×List (Int×Int×(Int×Int×Bool×Int×List af×ai)×Unit)×List aG×Unit)×bg×Unit)×Unit)×List (Int×Int×Int×Int×Int×Int×Int×Bool×(Int×Int×(Int×Int×Int×Int×Int×Int×Int×Int×Bool×List aC×aC×Unit)×(Int×Int×(Int×List UInt8×List UInt8×List UInt8×Int×Int×Int×List aN×List au×List au×Int×Int×Int×Bool×List af×List (Int×Int×(Int×Int×Bool×Int×List af×ai)×Unit)×List aG×Unit)×Unit)×Int×List UInt8×List UInt8×Int×Int×Int×Int×(Int×Int×Bool×Int×List af×ai)×List (Int×List af×Unit)×List af×Bool×(Int×Int×List (Int×Int×(Int×Int×Bool×Int×List af×ai)×Unit)×List aG×Unit)×bg×Unit)×Unit)×List (Int×Int×Int×Int×Int×Int×Int×Bool×(Int×Int×(Int×Int×Int×Int×Int×Int×Int×Int×Bool×List aC×aC×Unit)×(Int×Int×(Int×List UInt8×List UInt8×List UInt8×Int×Int×Int×List aN×List au×List au×Int×Int×Int×Bool×List af×List (Int×Int×(Int×Int×Bool×Int×List af×ai)×Unit)×List aG×Unit)×Unit)×Int×List UInt8×List UInt8×Int×Int×Int×Int×(Int×Int×Bool×Int×List af×ai)×List (Int×List af×Unit)×List af×Bool×(Int×Int×List (Int×Int×(Int×Int×Bool×Int×List af×ai)×Unit)×List aG×Unit)×bg×Unit)×Unit)×List (Int×Int×Int×Int×Int×Int×Int×Bool×(Int×Int×(Int×Int×Int×Int×Int×Int×Int×Int×Bool×List aC×aC×Unit)×(Int×Int×(Int×List UInt8×List UInt8×List UInt8×Int×Int×Int×List aN×List au×List au×Int×Int×Int×Bool×List af×List (Int×Int×(Int×Int×Bool×Int×List af×ai)×Unit)×List aG×Unit)×Unit)×Int×List UInt8×List UInt8×Int×Int×Int×Int×(Int×Int×Bool×Int×List af×ai)×List (Int×List af×Unit)×List af×Bool×(Int×Int×List (Int×Int×(Int×Int×Bool×Int×List af×ai)×Unit)×List aG×Unit)×bg×Unit)×Unit)×List (Int×Int×Int×Int×Int×Int×Int×Bool×(Int×Int×(Int×Int×Int×Int×Int×Int×Int×Int×Bool×List aC×aC×Unit)×(Int×Int×(Int×List UInt8×List UInt8×List UInt8×Int×Int×Int×List aN×List au×List au×Int×Int×Int×Bool×List af×List (Int×Int×(Int×Int×Bool×Int×List af×ai)×Unit)×List aG×Unit)×Unit)×Int×List UInt8×List UInt8×Int×Int×Int×Int×(Int×Int×Bool×Int×List af×ai)×List (Int×List af×Unit)×List af×Bool×(Int×Int×List (Int×Int×(Int×Int×Bool×Int×List af×ai)×Unit)×List aG×Unit)×bg×Unit)×Unit)×Unit)=>
 some
 ((true,x.1,
 (0,false,false,wrap64 (x.2.1*1000000),0,(0,0,()),
 ()),
 (false,(0,[],[],[],0,0,0,[],[],[],0,0,0,false,[],[],[],()),[],[],0,
 0,()),
 x_1.1,x_1.2.1,x_1.2.2.1,x_1.2.2.2.1,x_1.2.2.2.2.1,[],false,
 ()),
 0,()))
 some o
def S9:Sig:=⟨P9,R9,F9⟩
def E9:Env:={ tab:=Qh,nt:=74,Γ:=tK [(30,[S30]),(31,[S31])],joins:=tJ [(16,⟨[⟨.fld 3006000 3,(.ptr bW),.own false⟩,⟨.fld 3006000 4,(.ptr bW),.own false⟩,⟨.fld 3006000 5,(.ptr bW),.own false⟩,⟨.fld 3006000 6,(.ptr bW),.own false⟩,⟨.fld 3006000 7,(.ptr bW),.own false⟩],[6],[.site 3006000,.fld 3006000 0,.fld 3006000 1,.fld 3006000 2,.fld 3006000 8,.fld 3006000 9]⟩)],loops:=tJ [],unr:=tJ [(5,3),(8,4)] }
theorem zdH x:ax E9 Tryz.f9 P9 R9 x=F9 x:=by kernel_rfl
def F69 (x:fP×Unit):Option (Bool×fP×Unit):=
 some (x.1.2.2.2.2.2.2.2.1,x)
def S69:Sig:=⟨P69,R69,F69⟩
def E69:Env:=mkE ay 11 [] [] []
theorem zci x:ax E69 Tryz.f69 P69 R69 x=F69 x:=by kernel_rfl
def F57 (x:List af×Unit):Option (List af×Unit):=
 bif List.isEmpty x.1 then
 nH (List af×Unit)
 (some ([],()))
 ((dm [] x.1).bind
 fun b=>
 some (b,()))
 else
 (dm [] x.1).bind
 fun b=>
 some (b,())
def S57:Sig:=⟨P57,R57,F57⟩
def E57:Env:=mkE ay 8 [] [] []
theorem zcs x:ax E57 Tryz.f57 P57 R57 x=F57 x:=by kernel_rfl
def F87 (x:List aC×Unit):Option (List aC×Unit):=
 bif List.isEmpty x.1 then
 nH (List aC×Unit) (some ([],()))
 ((dm [] x.1).bind fun b=>some (b,()))
 else (dm [] x.1).bind fun b=>some (b,())
def S87:Sig:=⟨P87,R87,F87⟩
def E87:Env:=mkE ay 8 [] [] []
theorem zb9 x:ax E87 Tryz.f87 P87 R87 x=F87 x:=by kernel_rfl
def F88 (x:List UInt8×Unit):Option (List UInt8×Unit):=
 bif List.isEmpty x.1 then
 nH (List UInt8×Unit) (some ([],()))
 ((qL [] x.1).bind fun b=>some (b,()))
 else (qL [] x.1).bind fun b=>some (b,())
def S88:Sig:=⟨P88,R88,F88⟩
def E88:Env:=mkE ay 8 [] [] []
theorem zb8 x:ax E88 Tryz.f88 P88 R88 x=F88 x:=by kernel_rfl
def F58 (x:jP×Unit):Option (jP×Unit):=
 (F87 (x.1.2.2.2.2.2.2.2.2.2.1,())).bind
 fun b=>
 bu (Int×List aC×Unit)
 ((Int×Int×Int×Int×Int×Int×Int×Int×Bool×List aC×aC×Unit)×Unit)
 (fun (x_1:Int×List aC×Unit)=>
 bif decide (x_1.1 < Int.ofNat (List.length b.1)) then
 (dY x_1.2.1 x_1.1).bind fun b=>
 Option.bind x_1.2.1[b]? fun (b:aC)=>
 (F88 b.2.2).bind fun b=>
 (dY x_1.2.1 x_1.1).bind fun b_1=>
 Option.bind x_1.2.1[b_1]? fun (b_2:aC)=>
 some
 (Sum.inl
 (wrap64 (x_1.1+1),
 List.set x_1.2.1 b_1 (b_2.1,b_2.2.1,b.1,b_2.2.2.2),()))
 else
 Option.map Sum.inr
 ((F88 x.1.2.2.2.2.2.2.2.2.2.2.1.2.2).bind fun b=>
 some
 ((x.1.1,x.1.2.1,x.1.2.2.1,x.1.2.2.2.1,x.1.2.2.2.2.1,
 x.1.2.2.2.2.2.1,x.1.2.2.2.2.2.2.1,
 x.1.2.2.2.2.2.2.2.1,x.1.2.2.2.2.2.2.2.2.1,x_1.2.1,
 (x.1.2.2.2.2.2.2.2.2.2.2.1.1,
 x.1.2.2.2.2.2.2.2.2.2.2.1.2.1,b.1,
 x.1.2.2.2.2.2.2.2.2.2.2.1.2.2.2),
 ()),
 ())))
 big (0,b)
def S58:Sig:=⟨P58,R58,F58⟩
def E58:Env:=mkE ay 34 [(87,[S87]),(88,[S88])] [] [(3,bP ⟨[⟨.slot 11,(.int .i64),.pv⟩,⟨.fld 1000 9,(.slice T25),.own false⟩],[1,2,10],[.site 2000]++hL (.fld 2000) 0 11++[.site 1000]++hL (.fld 1000) 0 9++[.fld 1000 10]⟩)]
theorem zcr x:ax E58 Tryz.f58 P58 R58 x=F58 x:=by kernel_rfl
def F44 (x:List aN×Unit):Option (List aN×Unit):=
 bif List.isEmpty x.1 then
 nH (List aN×Unit) (some ([],()))
 ((dm [] x.1).bind fun b=>
 some (b,()))
 else
 (dm [] x.1).bind fun b=>
 some (b,())
def S44:Sig:=⟨P44,R44,F44⟩
def E44:Env:=mkE ay 8 [] [] []
theorem zcz x:ax E44 Tryz.f44 P44 R44 x=F44 x:=by kernel_rfl
def F45 (x:List au×Unit):Option (List au×Unit):=
 bif List.isEmpty x.1 then
 nH (List au×Unit) (some ([],()))
 ((dm [] x.1).bind fun b=>
 some (b,()))
 else
 (dm [] x.1).bind fun b=>
 some (b,())
def S45:Sig:=⟨P45,R45,F45⟩
def E45:Env:=mkE ay 8 [] [] []
theorem zcy x:ax E45 Tryz.f45 P45 R45 x=F45 x:=by kernel_rfl
def F60 (x:fG×Unit):Option (fG×Unit):=
 (F57 (x.1.2.2.2.2.1,())).bind
 fun b=>
 some
 ((x.1.1,x.1.2.1,x.1.2.2.1,x.1.2.2.2.1,b.1,x.1.2.2.2.2.2),
 ())
def S60:Sig:=⟨P60,R60,F60⟩
def E60:Env:=mkE ay 8 [(57,[S57])] [] []
theorem zcp x:ax E60 Tryz.f60 P60 R60 x=F60 x:=by kernel_rfl
def F89 (x:List dJ×Unit):Option (List dJ×Unit):=
 bif List.isEmpty x.1 then
 nH
 (List (Int×Int×(Int×Int×Bool×Int×List af×ai)×Unit)×Unit)
 (some ([],()))
 ((mr [] x.1).bind
 fun b=>
 some (b,()))
 else
 (mr [] x.1).bind
 fun b=>
 some (b,())
def S89:Sig:=⟨P89,R89,F89⟩
def E89:Env:=mkE ay 8 [] [] []
theorem zb7 x:ax E89 Tryz.f89 P89 R89 x=F89 x:=by kernel_rfl
def F62 (x:List dJ×Unit):Option (List dJ×Unit):=
 (F89 x).bind
 fun b=>
 bu
 (List (Int×Int×(Int×Int×Bool×Int×List af×ai)×Unit)×Int×Unit)
 (List (Int×Int×(Int×Int×Bool×Int×List af×ai)×Unit)×Unit)
 (fun (x :
 List (Int×Int×(Int×Int×Bool×Int×List af×ai)×Unit)×Int×Unit)=>
 bif decide (x.2.1 < Int.ofNat (List.length b.1)) then
 (dY x.1 x.2.1).bind fun b=>
 Option.bind x.1[b]?
 fun (b :
 Int×Int×(Int×Int×Bool×Int×List af×ai)×Unit)=>
 (F60 b.2.2).bind
 fun b=>
 (dY x.1 x.2.1).bind fun b_1=>
 Option.bind x.1[b_1]?
 fun (b_2 :
 Int×Int×(Int×Int×Bool×Int×List af×ai)×Unit)=>
 some
 (Sum.inl
 (List.set x.1 b_1 (b_2.1,b_2.2.1,b.1,b_2.2.2.2),
 wrap64 (x.2.1+1),()))
 else some (Sum.inr (x.1,())))
 big (b.1,0,())
def S62:Sig:=⟨P62,R62,F62⟩
def E62:Env:=mkE ay 24 [(60,[S60]),(89,[S89])] [] [(3,bP ⟨[⟨.slot 3,(.slice T94),.own false⟩,⟨.slot 9,(.int .i64),.pv⟩],[8],[]⟩)]
theorem zcn x:ax E62 Tryz.f62 P62 R62 x=F62 x:=by kernel_rfl
def F63 (x:List aG×Unit):Option (List aG×Unit):=
 bif List.isEmpty x.1 then
 nH (List aG×Unit) (some ([],()))
 ((dm [] x.1).bind fun b=>some (b,()))
 else (dm [] x.1).bind fun b=>some (b,())
def S63:Sig:=⟨P63,R63,F63⟩
def E63:Env:=mkE ay 8 [] [] []
theorem zcm x:ax E63 Tryz.f63 P63 R63 x=F63 x:=by kernel_rfl
def F59 (x:bi×Unit):Option (bi×Unit):=
 (F44 (x.1.2.2.2.2.2.2.2.1,())).bind
 fun b=>
 (F45 (x.1.2.2.2.2.2.2.2.2.1,())).bind
 fun b_1=>
 (F45 (x.1.2.2.2.2.2.2.2.2.2.1,())).bind
 fun b_2=>
 (F57 (x.1.2.2.2.2.2.2.2.2.2.2.2.2.2.2.1,())).bind
 fun b_3=>
 (F62 (x.1.2.2.2.2.2.2.2.2.2.2.2.2.2.2.2.1,())).bind
 fun b_4=>
 (F63 x.1.2.2.2.2.2.2.2.2.2.2.2.2.2.2.2.2).bind
 fun b_5=>
 some
 ((x.1.1,x.1.2.1,x.1.2.2.1,x.1.2.2.2.1,x.1.2.2.2.2.1,
 x.1.2.2.2.2.2.1,x.1.2.2.2.2.2.2.1,b.1,b_1.1,b_2.1,
 x.1.2.2.2.2.2.2.2.2.2.2.1,
 x.1.2.2.2.2.2.2.2.2.2.2.2.1,
 x.1.2.2.2.2.2.2.2.2.2.2.2.2.1,
 x.1.2.2.2.2.2.2.2.2.2.2.2.2.2.1,b_3.1,b_4.1,b_5),
 ())
def S59:Sig:=⟨P59,R59,F59⟩
def E59:Env:=mkE ay 28 [(44,[S44]),(45,[S45]),(57,[S57]),(62,[S62]),(63,[S63])] [] []
theorem zcq x:ax E59 Tryz.f59 P59 R59 x=F59 x:=by kernel_rfl
def F61 (x:List TBD×Unit):Option (List TBD×Unit):=
 bif List.isEmpty x.1 then
 nH
 (List (Int×List af×Unit)×Unit)
 (some ([],()))
 ((dm [] x.1).bind
 fun b=>
 some (b,()))
 else
 (dm [] x.1).bind
 fun b=>
 some (b,())
def S61:Sig:=⟨P61,R61,F61⟩
def E61:Env:=mkE ay 8 [] [] []
theorem zco x:ax E61 Tryz.f61 P61 R61 x=F61 x:=by kernel_rfl
def F24 (x:TMD×Unit):Option (TMD×Unit):=
 (F58 (x.1.2.2.1,())).bind
 fun b=>
 (F59 x.1.2.2.2.1.2.2).bind
 fun b_1=>
 (F60 (x.1.2.2.2.2.2.2.2.2.2.2.2.1,())).bind
 fun b_2=>
 (F57 (x.1.2.2.2.2.2.2.2.2.2.2.2.2.2.1,())).bind
 fun b_3=>
 (F61 (x.1.2.2.2.2.2.2.2.2.2.2.2.2.1,())).bind
 fun b_4=>
 bu
 (Int×List (Int×List af×Unit)×Unit)
 ((Int×Int×(Int×Int×Int×Int×Int×Int×Int×Int×Bool×List aC×aC×Unit)×(Int×Int×(Int×List UInt8×List UInt8×List UInt8×Int×Int×Int×List aN×List au×List au×Int×Int×Int×Bool×List af×List (Int×Int×(Int×Int×Bool×Int×List af×ai)×Unit)×List aG×Unit)×Unit)×Int×List UInt8×List UInt8×Int×Int×Int×Int×(Int×Int×Bool×Int×List af×ai)×List (Int×List af×Unit)×List af×Bool×(Int×Int×List (Int×Int×(Int×Int×Bool×Int×List af×ai)×Unit)×List aG×Unit)×bg×Unit)×Unit)
 (fun (x_1 :
 Int×List (Int×List af×Unit)×Unit)=>
 bif decide (x_1.1 < Int.ofNat (List.length b_4.1)) then
 (dY x_1.2.1 x_1.1).bind fun b=>
 Option.bind x_1.2.1[b]?
 fun (b :
 Int×List af×Unit)=>
 (F57 b.2).bind
 fun b=>
 (dY x_1.2.1 x_1.1).bind fun b_5=>
 Option.bind x_1.2.1[b_5]?
 fun (b_6 :
 Int×List af×Unit)=>
 some
 (Sum.inl
 (wrap64 (x_1.1+1),
 List.set x_1.2.1 b_5 (b_6.1,b.1,b_6.2.2),()))
 else
 Option.map Sum.inr
 (Option.bind
 (F62
 (x.1.2.2.2.2.2.2.2.2.2.2.2.2.2.2.2.1.2.2.1,()))
 fun b_5=>
 Option.bind
 (F63 x.1.2.2.2.2.2.2.2.2.2.2.2.2.2.2.2.1.2.2.2)
 fun b_6=>
 some
 ((x.1.1,x.1.2.1,b.1,
 (x.1.2.2.2.1.1,x.1.2.2.2.1.2.1,b_1.1,
 x.1.2.2.2.1.2.2.2),
 x.1.2.2.2.2.1,x.1.2.2.2.2.2.1,
 x.1.2.2.2.2.2.2.1,x.1.2.2.2.2.2.2.2.1,
 x.1.2.2.2.2.2.2.2.2.1,x.1.2.2.2.2.2.2.2.2.2.1,
 x.1.2.2.2.2.2.2.2.2.2.2.1,b_2.1,x_1.2.1,b_3.1,
 x.1.2.2.2.2.2.2.2.2.2.2.2.2.2.2.1,
 (x.1.2.2.2.2.2.2.2.2.2.2.2.2.2.2.2.1.1,
 x.1.2.2.2.2.2.2.2.2.2.2.2.2.2.2.2.1.2.1,b_5.1,
 b_6.1,
 x.1.2.2.2.2.2.2.2.2.2.2.2.2.2.2.2.1.2.2.2.2),
 x.1.2.2.2.2.2.2.2.2.2.2.2.2.2.2.2.2),
 ())))
 big (0,b_4)
def S24:Sig:=⟨P24,R24,F24⟩
def E24:Env:=mkE ay 58 [(57,[S57]),(58,[S58]),(59,[S59]),(60,[S60]),(61,[S61]),(62,[S62]),(63,[S63])] [] [(4,bP ⟨[⟨.slot 29,(.int .i64),.pv⟩,⟨.fld 1000 12,(.slice TB),.own false⟩],[1,2,28],[.site 2000]++hL (.fld 2000) 0 17++[.site 1000]++hL (.fld 1000) 0 12++hL (.fld 1000) 13 4++[.row 2003001]⟩)]
theorem zcM x:ax E24 Tryz.f24 P24 R24 x=F24 x:=by kernel_rfl
def F82 (x:Int×Unit):Option (Int×Unit):=
 bif decide (x.1=2) then
 bif decide (x.1=2) then some (8,())
 else
 bif decide (x.1=4) then some (9,())
 else
 bif decide (x.1=5) then some (10,())
 else
 bif decide (x.1=6) then some (11,())
 else bif decide (x.1=7) then some (12,()) else some (0,())
 else
 bif decide (x.1=3) then some (8,())
 else
 bif decide (x.1=4) then some (9,())
 else
 bif decide (x.1=5) then some (10,())
 else
 bif decide (x.1=6) then some (11,())
 else bif decide (x.1=7) then some (12,()) else some (0,())
def S82:Sig:=⟨P82,R82,F82⟩
def E82:Env:=mkE ay 15 [] [] []
theorem zcc x:ax E82 Tryz.f82 P82 R82 x=F82 x:=by kernel_rfl
def yj (x:List aN×List aN×Unit):Option (Bool×Unit):=
 bif !decide (Int.ofNat (List.length x.1)=Int.ofNat (List.length x.2.1)) then some (false,())
 else
 bu (Int×Unit) (Bool×Unit)
 (fun (x_1:Int×Unit)=>
 bif decide (x_1.1 < Int.ofNat (List.length x.1)) then
 (idx x.1 x_1.1).bind fun b=>
 (idx x.2.1 x_1.1).bind fun b_1=>
 bif
 !(decide (b.1=b_1.1) &&
 (decide (b.2.1=b_1.2.1) &&
 (decide (b.2.2.1=b_1.2.2.1) &&
 (decide (b.2.2.2.1=b_1.2.2.2.1) &&
 (decide (b.2.2.2.2.1=b_1.2.2.2.2.1) && true))))) then
 some (Sum.inr (false,()))
 else some (Sum.inl (wrap64 (x_1.1+1),()))
 else some (Sum.inr (true,())))
 big (0,())
def QZ:Sig:=⟨U3,Tq,yj⟩
def WI:Env:=mkE ay 26 [] [] [(4,bP ⟨[⟨.slot 13,(.int .i64),.pv⟩],[0,1,12],[]⟩)]
theorem zaD x:ax WI Tryz.f169 U3 Tq x=yj x:=by kernel_rfl
def uP (x:List au×List au×Unit):Option (Bool×Unit):=
 bif !decide (Int.ofNat (List.length x.1)=Int.ofNat (List.length x.2.1)) then some (false,())
 else
 bu (Int×Unit) (Bool×Unit)
 (fun (x_1:Int×Unit)=>
 bif decide (x_1.1 < Int.ofNat (List.length x.1)) then
 (idx x.1 x_1.1).bind fun b=>
 (idx x.2.1 x_1.1).bind fun b_1=>
 bif
 !(decide (b.1=b_1.1) &&
 (decide (b.2.1=b_1.2.1) &&
 (decide (b.2.2.1=b_1.2.2.1) &&
 (decide (b.2.2.2.1=b_1.2.2.2.1) &&
 (decide (b.2.2.2.2.1=b_1.2.2.2.2.1) && true))))) then
 some (Sum.inr (false,()))
 else some (Sum.inl (wrap64 (x_1.1+1),()))
 else some (Sum.inr (true,())))
 big (0,())
def QY:Sig:=⟨U2,Tn,uP⟩
def WH:Env:=mkE ay 26 [] [] [(4,bP ⟨[⟨.slot 13,(.int .i64),.pv⟩],[0,1,12],[]⟩)]
theorem zaC x:ax WH Tryz.f170 U2 Tn x=uP x:=by kernel_rfl
def qU (x:List af×List af×Unit):Option (Bool×Unit):=
 bif !decide (Int.ofNat (List.length x.1)=Int.ofNat (List.length x.2.1)) then some (false,())
 else
 bu (Int×Unit) (Bool×Unit)
 (fun (x_1:Int×Unit)=>
 bif decide (x_1.1 < Int.ofNat (List.length x.1)) then
 (idx x.1 x_1.1).bind
 fun b=>
 (idx x.2.1 x_1.1).bind
 fun b_1=>
 bif
 !(decide (b.1=b_1.1) &&
 (decide (b.2.1.1=b_1.2.1.1) &&
 (decide (b.2.1.2.1=b_1.2.1.2.1) &&
 (decide (b.2.1.2.2.1=b_1.2.1.2.2.1) &&
 (decide (b.2.1.2.2.2.1=b_1.2.1.2.2.2.1) &&
 (decide (b.2.1.2.2.2.2.1=b_1.2.1.2.2.2.2.1) &&
 (decide (b.2.1.2.2.2.2.2.1=b_1.2.1.2.2.2.2.2.1) &&
 (b.2.1.2.2.2.2.2.2.1 == b_1.2.1.2.2.2.2.2.2.1 &&
 true)))))) &&
 true)) then
 some (Sum.inr (false,()))
 else some (Sum.inl (wrap64 (x_1.1+1),()))
 else some (Sum.inr (true,())))
 big (0,())
def Bo:Sig:=⟨Vk,TN,qU⟩
def WY:Env:=mkE ay 26 [] [] [(4,bP ⟨[⟨.slot 13,(.int .i64),.pv⟩],[0,1,12],[]⟩)]
theorem zaS x:ax WY Tryz.f144 Vk TN x=qU x:=by kernel_rfl
def uO (x:List af×List af×Unit):Option (Bool×Unit):=
 (qU x).bind fun b=>some b
def G7:Sig:=⟨U1,Tm,uO⟩
def WG:Env:=mkE ay 8 [(144,[Bo])] [] []
theorem zaB x:ax WG Tryz.f171 U1 Tm x=uO x:=by kernel_rfl
def uT (x:fG×fG×Unit):Option (Bool×Unit):=
 bif decide (x.1.1=x.2.1.1) then
 bif decide (x.1.2.1=x.2.1.2.1) then
 bif x.1.2.2.1 == x.2.1.2.2.1 then
 bif decide (x.1.2.2.2.1=x.2.1.2.2.2.1) then
 bif decide (x.1.2.2.2.2.2.1=x.2.1.2.2.2.2.2.1) then
 bif decide (x.1.2.2.2.2.2.2.1=x.2.1.2.2.2.2.2.2.1) then
 (uO (x.1.2.2.2.2.1,x.2.1.2.2.2.2.1,())).bind
 fun b=>some b
 else some (false,())
 else some (false,())
 else some (false,())
 else some (false,())
 else some (false,())
 else some (false,())
def He:Sig:=⟨Vm,TQ,uT⟩
def W9:Env:=mkE ay 52 [(171,[G7])] [] []
theorem zaU x:ax W9 Tryz.f142 Vm TQ x=uT x:=by kernel_rfl
def xW (x:dJ×dJ×Unit):Option (Bool×Unit):=
 bif decide (x.1.1=x.2.1.1) then
 bif decide (x.1.2.1=x.2.1.2.1) then
 (uT (x.1.2.2.1,x.2.1.2.2)).bind fun b=>some b
 else some (false,())
 else some (false,())
def GV:Sig:=⟨UE,Sv,xW⟩
def V7:Env:=mkE ay 24 [(142,[He])] [] []
theorem zae x:ax V7 Tryz.f205 UE Sv x=xW x:=by kernel_rfl
def xk (x:List dJ×List dJ×Unit):Option (Bool×Unit):=
 bif !decide (Int.ofNat (List.length x.1)=Int.ofNat (List.length x.2.1)) then some (false,())
 else
 bu (Int×Unit) (Bool×Unit)
 (fun (x_1:Int×Unit)=>
 bif decide (x_1.1 < Int.ofNat (List.length x.1)) then
 (idx x.1 x_1.1).bind
 fun b=>
 (idx x.2.1 x_1.1).bind
 fun b_1=>
 (xW (b,b_1,())).bind fun b=>
 bif !b.1 then some (Sum.inr (false,()))
 else some (Sum.inl (wrap64 (x_1.1+1),()))
 else some (Sum.inr (true,())))
 big (0,())
def OH:Sig:=⟨Py,O3,xk⟩
def PY:Env:=mkE ay 32 [(205,[GV])] [] [(4,bP ⟨[⟨.slot 17,(.int .i64),.pv⟩],[1,2,15,16],[]⟩)]
theorem Y3 x:ax PY Tryz.f204 Py O3 x=xk x:=by kernel_rfl
def yh (x:List dJ×List dJ×Unit):Option (Bool×Unit):=
 (xk x).bind fun b=>some b
def QX:Sig:=⟨U0,Tj,yh⟩
def WF:Env:=mkE ay 8 [(204,[OH]),(205,[GV])] [] []
theorem zaA x:ax WF Tryz.f172 U0 Tj x=yh x:=by kernel_rfl
def yg (x:List aG×List aG×Unit):Option (Bool×Unit):=
 bif !decide (Int.ofNat (List.length x.1)=Int.ofNat (List.length x.2.1)) then some (false,())
 else
 bu (Int×Unit) (Bool×Unit)
 (fun (x_1:Int×Unit)=>
 bif decide (x_1.1 < Int.ofNat (List.length x.1)) then
 (idx x.1 x_1.1).bind fun b=>
 (idx x.2.1 x_1.1).bind fun b_1=>
 bif
 !(decide (b.1=b_1.1) &&
 (decide (b.2.1=b_1.2.1) && (decide (b.2.2.1=b_1.2.2.1) && true))) then
 some (Sum.inr (false,()))
 else some (Sum.inl (wrap64 (x_1.1+1),()))
 else some (Sum.inr (true,())))
 big (0,())
def QW:Sig:=⟨UZ,Ti,yg⟩
def WE:Env:=mkE ay 26 [] [] [(4,bP ⟨[⟨.slot 13,(.int .i64),.pv⟩],[0,1,12],[]⟩)]
theorem zaz x:ax WE Tryz.f173 UZ Ti x=yg x:=by kernel_rfl
def pg (x:bi×bi×Unit):Option (Bool×Unit):=
 bif decide (x.1.1=x.2.1.1) then
 bif decide (x.1.2.1=x.2.1.2.1) then
 bif decide (x.1.2.2.1=x.2.1.2.2.1) then
 bif decide (x.1.2.2.2.1=x.2.1.2.2.2.1) then
 bif decide (x.1.2.2.2.2.1=x.2.1.2.2.2.2.1) then
 bif decide (x.1.2.2.2.2.2.1=x.2.1.2.2.2.2.2.1) then
 bif decide (x.1.2.2.2.2.2.2.1=x.2.1.2.2.2.2.2.2.1) then
 bif
 decide
 (x.1.2.2.2.2.2.2.2.2.2.2.1 =
 x.2.1.2.2.2.2.2.2.2.2.2.2.1) then
 bif
 decide
 (x.1.2.2.2.2.2.2.2.2.2.2.2.1 =
 x.2.1.2.2.2.2.2.2.2.2.2.2.2.1) then
 bif
 decide
 (x.1.2.2.2.2.2.2.2.2.2.2.2.2.1 =
 x.2.1.2.2.2.2.2.2.2.2.2.2.2.2.1) then
 bif
 x.1.2.2.2.2.2.2.2.2.2.2.2.2.2.1 ==
 x.2.1.2.2.2.2.2.2.2.2.2.2.2.2.2.1 then
 Option.bind
 (yj
 (x.1.2.2.2.2.2.2.2.1,x.2.1.2.2.2.2.2.2.2.1,
 ()))
 fun b=>
 bif b.1 then
 Option.bind
 (uP
 (x.1.2.2.2.2.2.2.2.2.1,
 x.2.1.2.2.2.2.2.2.2.2.1,()))
 fun b=>
 bif b.1 then
 Option.bind
 (uP
 (x.1.2.2.2.2.2.2.2.2.2.1,
 x.2.1.2.2.2.2.2.2.2.2.2.1,()))
 fun b=>
 bif b.1 then
 Option.bind
 (uO
 (x.1.2.2.2.2.2.2.2.2.2.2.2.2.2.2.1,
 x.2.1.2.2.2.2.2.2.2.2.2.2.2.2.2.2.1,
 ()))
 fun b=>
 bif b.1 then
 Option.bind
 (yh
 (x.1.2.2.2.2.2.2.2.2.2.2.2.2.2.2.2.1,
 x.2.1.2.2.2.2.2.2.2.2.2.2.2.2.2.2.2.1,
 ()))
 fun b=>
 bif b.1 then
 Option.bind
 (yg
 (x.1.2.2.2.2.2.2.2.2.2.2.2.2.2.2.2.2.1,
 x.2.1.2.2.2.2.2.2.2.2.2.2.2.2.2.2.2.2))
 fun b=>some b
 else some (false,())
 else some (false,())
 else some (false,())
 else some (false,())
 else some (false,())
 else some (false,())
 else some (false,())
 else some (false,())
 else some (false,())
 else some (false,())
 else some (false,())
 else some (false,())
 else some (false,())
 else some (false,())
 else some (false,())
 else some (false,())
def Bq:Sig:=⟨Vx,Ua,pg⟩
def Xi:Env:=mkE ay 122 [(169,[QZ]),(170,[QY]),(171,[G7]),(172,[QX]),(173,[QW])] [] []
theorem za3 x:ax Xi Tryz.f134 Vx Ua x=pg x:=by kernel_rfl
def xY (x:List UInt8×List UInt8×Unit):Option (Bool×Unit):=some (decide (x.1=x.2.1),())
def G5:Sig:=⟨UN,SK,xY⟩
def Wp:Env:=mkE ay 10 [] [] []
theorem zao x:ax Wp Tryz.f184 UN SK x=xY x:=by kernel_rfl
def xR (x:aC×aC×Unit):Option (Bool×Unit):=
 bif decide (x.1.1=x.2.1.1) then
 bif decide (x.1.2.1=x.2.1.2.1) then
 (xY (x.1.2.2.1,x.2.1.2.2)).bind fun b=>some b
 else some (false,())
 else some (false,())
def GU:Sig:=⟨UA,Sj,xR⟩
def V3:Env:=mkE ay 24 [(184,[G5])] [] []
theorem zaa x:ax V3 Tryz.f212 UA Sj x=xR x:=by kernel_rfl
def Az (x:List aC×List aC×Unit):Option (Bool×Unit):=
 bif !decide (Int.ofNat (List.length x.1)=Int.ofNat (List.length x.2.1)) then some (false,())
 else
 bu (Int×Unit) (Bool×Unit)
 (fun (x_1:Int×Unit)=>
 bif decide (x_1.1 < Int.ofNat (List.length x.1)) then
 (idx x.1 x_1.1).bind fun b=>
 (idx x.2.1 x_1.1).bind fun b_1=>
 (xR (b,b_1,())).bind fun b=>
 bif !b.1 then some (Sum.inr (false,()))
 else some (Sum.inl (wrap64 (x_1.1+1),()))
 else some (Sum.inr (true,())))
 big (0,())
def OD:Sig:=⟨Po,OY,Az⟩
def PU:Env:=mkE ay 32 [(212,[GU])] [] [(4,bP ⟨[⟨.slot 17,(.int .i64),.pv⟩],[1,2,15,16],[]⟩)]
theorem YZ x:ax PU Tryz.f211 Po OY x=Az x:=by kernel_rfl
def xZ (x:List aC×List aC×Unit):Option (Bool×Unit):=
 (Az x).bind fun b=>some b
def QR:Sig:=⟨UO,SL,xZ⟩
def Wq:Env:=mkE ay 8 [(211,[OD]),(212,[GU])] [] []
theorem zaq x:ax Wq Tryz.f183 UO SL x=xZ x:=by kernel_rfl
def uU (x:jP×jP×Unit):Option (Bool×Unit):=
 bif decide (x.1.1=x.2.1.1) then
 bif decide (x.1.2.1=x.2.1.2.1) then
 bif decide (x.1.2.2.1=x.2.1.2.2.1) then
 bif decide (x.1.2.2.2.1=x.2.1.2.2.2.1) then
 bif decide (x.1.2.2.2.2.1=x.2.1.2.2.2.2.1) then
 bif decide (x.1.2.2.2.2.2.1=x.2.1.2.2.2.2.2.1) then
 bif decide (x.1.2.2.2.2.2.2.1=x.2.1.2.2.2.2.2.2.1) then
 bif decide (x.1.2.2.2.2.2.2.2.1=x.2.1.2.2.2.2.2.2.2.1) then
 bif x.1.2.2.2.2.2.2.2.2.1 == x.2.1.2.2.2.2.2.2.2.2.1 then
 Option.bind
 (xZ
 (x.1.2.2.2.2.2.2.2.2.2.1,
 x.2.1.2.2.2.2.2.2.2.2.2.1,()))
 fun b=>
 bif b.1 then
 bif
 decide
 (x.1.2.2.2.2.2.2.2.2.2.2.1.1 =
 x.2.1.2.2.2.2.2.2.2.2.2.2.1.1) then
 bif
 decide
 (x.1.2.2.2.2.2.2.2.2.2.2.1.2.1 =
 x.2.1.2.2.2.2.2.2.2.2.2.2.1.2.1) then
 Option.bind
 (xY
 (x.1.2.2.2.2.2.2.2.2.2.2.1.2.2.1,
 x.2.1.2.2.2.2.2.2.2.2.2.2.1.2.2))
 fun b=>some b
 else some (false,())
 else some (false,())
 else some (false,())
 else some (false,())
 else some (false,())
 else some (false,())
 else some (false,())
 else some (false,())
 else some (false,())
 else some (false,())
 else some (false,())
 else some (false,())
def Hf:Sig:=⟨Vo,TR,uU⟩
def Xa:Env:=mkE ay 100 [(183,[QR]),(184,[G5])] [] []
theorem zaV x:ax Xa Tryz.f141 Vo TR x=uU x:=by kernel_rfl
def xX (x:TBD×TBD×Unit):Option (Bool×Unit):=
 bif decide (x.1.1=x.2.1.1) then
 (qU (x.1.2.1,x.2.1.2)).bind fun b=>some b
 else some (false,())
def GZ:Sig:=⟨UM,SI,xX⟩
def Wn:Env:=mkE ay 17 [(144,[Bo])] [] []
theorem zan x:ax Wn Tryz.f186 UM SI x=xX x:=by kernel_rfl
def xu (x:List TBD×List TBD×Unit):Option (Bool×Unit):=
 bif !decide (Int.ofNat (List.length x.1)=Int.ofNat (List.length x.2.1)) then some (false,())
 else
 bu (Int×Unit) (Bool×Unit)
 (fun (x_1:Int×Unit)=>
 bif decide (x_1.1 < Int.ofNat (List.length x.1)) then
 (idx x.1 x_1.1).bind
 fun b=>
 (idx x.2.1 x_1.1).bind
 fun b_1=>
 (xX (b,b_1,())).bind fun b=>
 bif !b.1 then some (Sum.inr (false,()))
 else some (Sum.inl (wrap64 (x_1.1+1),()))
 else some (Sum.inr (true,())))
 big (0,())
def OM:Sig:=⟨PI,O8,xu⟩
def Qb:Env:=mkE ay 32 [(186,[GZ])] [] [(4,bP ⟨[⟨.slot 17,(.int .i64),.pv⟩],[1,2,15,16],[]⟩)]
theorem Y8 x:ax Qb Tryz.f185 PI O8 x=xu x:=by kernel_rfl
def yC (x:List TBD×List TBD×Unit):Option (Bool×Unit):=
 (xu x).bind fun b=>some b
def Rl:Sig:=⟨Vl,TP,yC⟩
def WZ:Env:=mkE ay 8 [(185,[OM]),(186,[GZ])] [] []
theorem zaT x:ax WZ Tryz.f143 Vl TP x=yC x:=by kernel_rfl
def yB (x:iV×iV×Unit):Option (Bool×Unit):=
 bif decide (x.1.1=x.2.1.1) then
 bif decide (x.1.2.1=x.2.1.2.1) then
 Option.bind
 (pg
 ((0,[],[],[],0,0,0,[],[],[],0,0,0,false,[],x.1.2.2),
 (0,[],[],[],0,0,0,[],[],[],0,0,0,false,[],x.2.1.2.2),()))
 fun b=>some b
 else some (false,())
 else some (false,())
def Rk:Sig:=⟨Vj,TL,yB⟩
def WX:Env:=mkE ay 30 [(134,[Bq])] [] []
theorem zaR x:ax WX Tryz.f145 Vj TL x=yB x:=by kernel_rfl
def yG (x:TMD×TMD×Unit):Option (Bool×Unit):=
 bif decide (x.1.1=x.2.1.1) then
 bif decide (x.1.2.1=x.2.1.2.1) then
 (uU (x.1.2.2.1,x.2.1.2.2.1,())).bind fun b=>
 bif b.1 then
 bif decide (x.1.2.2.2.1.1=x.2.1.2.2.2.1.1) then
 bif decide (x.1.2.2.2.1.2.1=x.2.1.2.2.2.1.2.1) then
 (pg (x.1.2.2.2.1.2.2.1,x.2.1.2.2.2.1.2.2)).bind
 fun b=>
 bif b.1 then
 bif decide (x.1.2.2.2.2.1=x.2.1.2.2.2.2.1) then
 bif decide (x.1.2.2.2.2.2.1=x.2.1.2.2.2.2.2.1) then
 bif decide (x.1.2.2.2.2.2.2.1=x.2.1.2.2.2.2.2.2.1) then
 bif
 decide
 (x.1.2.2.2.2.2.2.2.1=x.2.1.2.2.2.2.2.2.2.1) then
 bif
 decide
 (x.1.2.2.2.2.2.2.2.2.1 =
 x.2.1.2.2.2.2.2.2.2.2.1) then
 bif
 decide
 (x.1.2.2.2.2.2.2.2.2.2.1 =
 x.2.1.2.2.2.2.2.2.2.2.2.1) then
 bif
 decide
 (x.1.2.2.2.2.2.2.2.2.2.2.1 =
 x.2.1.2.2.2.2.2.2.2.2.2.2.1) then
 Option.bind
 (uT
 (x.1.2.2.2.2.2.2.2.2.2.2.2.1,
 x.2.1.2.2.2.2.2.2.2.2.2.2.2.1,()))
 fun b=>
 bif b.1 then
 Option.bind
 (yC
 (x.1.2.2.2.2.2.2.2.2.2.2.2.2.1,
 x.2.1.2.2.2.2.2.2.2.2.2.2.2.2.1,()))
 fun b=>
 bif b.1 then
 Option.bind
 (qU
 (x.1.2.2.2.2.2.2.2.2.2.2.2.2.2.1,
 x.2.1.2.2.2.2.2.2.2.2.2.2.2.2.2.1,
 ()))
 fun b=>
 bif b.1 then
 bif
 x.1.2.2.2.2.2.2.2.2.2.2.2.2.2.2.1 ==
 x.2.1.2.2.2.2.2.2.2.2.2.2.2.2.2.2.1 then
 Option.bind
 (yB
 (x.1.2.2.2.2.2.2.2.2.2.2.2.2.2.2.2.1,
 x.2.1.2.2.2.2.2.2.2.2.2.2.2.2.2.2.2.1,
 ()))
 fun b=>
 bif b.1 then
 some
 (decide
 (x.1.2.2.2.2.2.2.2.2.2.2.2.2.2.2.2.2.1.1 =
 x.2.1.2.2.2.2.2.2.2.2.2.2.2.2.2.2.2.2.1.1) &&
 (decide
 (x.1.2.2.2.2.2.2.2.2.2.2.2.2.2.2.2.2.1.2.1 =
 x.2.1.2.2.2.2.2.2.2.2.2.2.2.2.2.2.2.2.1.2.1) &&
 (decide
 (x.1.2.2.2.2.2.2.2.2.2.2.2.2.2.2.2.2.1.2.2.1 =
 x.2.1.2.2.2.2.2.2.2.2.2.2.2.2.2.2.2.2.1.2.2.1) &&
 (decide
 (x.1.2.2.2.2.2.2.2.2.2.2.2.2.2.2.2.2.1.2.2.2.1 =
 x.2.1.2.2.2.2.2.2.2.2.2.2.2.2.2.2.2.2.1.2.2.2.1) &&
 (decide
 (x.1.2.2.2.2.2.2.2.2.2.2.2.2.2.2.2.2.1.2.2.2.2.1 =
 x.2.1.2.2.2.2.2.2.2.2.2.2.2.2.2.2.2.2.1.2.2.2.2.1) &&
 (decide
 (x.1.2.2.2.2.2.2.2.2.2.2.2.2.2.2.2.2.1.2.2.2.2.2.1 =
 x.2.1.2.2.2.2.2.2.2.2.2.2.2.2.2.2.2.2.1.2.2.2.2.2.1) &&
 (decide
 (x.1.2.2.2.2.2.2.2.2.2.2.2.2.2.2.2.2.1.2.2.2.2.2.2.1 =
 x.2.1.2.2.2.2.2.2.2.2.2.2.2.2.2.2.2.2.1.2.2.2.2.2.2.1) &&
 (decide
 (x.1.2.2.2.2.2.2.2.2.2.2.2.2.2.2.2.2.1.2.2.2.2.2.2.2.1 =
 x.2.1.2.2.2.2.2.2.2.2.2.2.2.2.2.2.2.2.1.2.2.2.2.2.2.2.1) &&
 (decide
 (x.1.2.2.2.2.2.2.2.2.2.2.2.2.2.2.2.2.1.2.2.2.2.2.2.2.2.1 =
 x.2.1.2.2.2.2.2.2.2.2.2.2.2.2.2.2.2.2.1.2.2.2.2.2.2.2.2.1) &&
 (decide
 (x.1.2.2.2.2.2.2.2.2.2.2.2.2.2.2.2.2.1.2.2.2.2.2.2.2.2.2.1 =
 x.2.1.2.2.2.2.2.2.2.2.2.2.2.2.2.2.2.2.1.2.2.2.2.2.2.2.2.2.1) &&
 true))))))))),
 ())
 else some (false,())
 else some (false,())
 else some (false,())
 else some (false,())
 else some (false,())
 else some (false,())
 else some (false,())
 else some (false,())
 else some (false,())
 else some (false,())
 else some (false,())
 else some (false,())
 else some (false,())
 else some (false,())
 else some (false,())
 else some (false,())
 else some (false,())
 else some (false,())
def RF:Sig:=⟨VF,Ui,yG⟩
def Xq:Env:=mkE ay 142 [(134,[Bq]),(141,[Hf]),(142,[He]),(143,[Rl]),(144,[Bo]),(145,[Rk])] [] []
theorem zbb x:ax Xq Tryz.f105 VF Ui x=yG x:=by kernel_rfl
def BH (x:TMD×Unit):Option (TMD×Unit):=
 Option.bind
 (bif !decide (x.1.1=1) then some (Sum.inl (x.1.2.1,())) else some (Sum.inl (0,())))
 fun o=>
 Sum.elim
 (fun (x_1:Int×Unit)=>
 Option.bind
 (bif decide (x.1.1=1) then
 some
 (Sum.inl
 (x.1.2.2.1,
 (0,0,(0,[],[],[],0,0,0,[],[],[],0,0,0,false,[],[],[],()),()),0,
 [],[],0,0,0,0,(0,0,false,0,[],0,0,()),[],[],false,(0,0,[],[],()),
 (0,0,0,[],[],0,[],0,0,0,()),()))
 else
 bif decide (x.1.1=2) then
 some
 (Sum.inl
 ((0,0,0,0,0,0,0,0,false,[],(0,0,[],()),()),x.1.2.2.2.1,0,
 [],[],0,0,0,0,(0,0,false,0,[],0,0,()),[],[],false,
 (0,0,[],[],()),(0,0,0,[],[],0,[],0,0,0,()),()))
 else
 bif decide (x.1.1=3) then
 some
 (Sum.inl
 ((0,0,0,0,0,0,0,0,false,[],(0,0,[],()),()),
 (0,0,(0,[],[],[],0,0,0,[],[],[],0,0,0,false,[],[],[],()),()),
 x.1.2.2.2.2.1,x.1.2.2.2.2.2.1,x.1.2.2.2.2.2.2.1,
 x.1.2.2.2.2.2.2.2.1,x.1.2.2.2.2.2.2.2.2.1,0,0,
 (0,0,false,0,[],0,0,()),[],[],false,(0,0,[],[],()),
 (0,0,0,[],[],0,[],0,0,0,()),()))
 else
 bif decide (x.1.1=4) then
 some
 (Sum.inl
 ((0,0,0,0,0,0,0,0,false,[],(0,0,[],()),()),
 (0,0,(0,[],[],[],0,0,0,[],[],[],0,0,0,false,[],[],[],()),
 ()),
 x.1.2.2.2.2.1,x.1.2.2.2.2.2.1,x.1.2.2.2.2.2.2.1,
 x.1.2.2.2.2.2.2.2.1,0,0,0,(0,0,false,0,[],0,0,()),[],[],
 false,(0,0,[],[],()),(0,0,0,[],[],0,[],0,0,0,()),()))
 else
 bif decide (x.1.1=5) then
 some
 (Sum.inl
 ((0,0,0,0,0,0,0,0,false,[],(0,0,[],()),()),
 (0,0,(0,[],[],[],0,0,0,[],[],[],0,0,0,false,[],[],[],()),
 ()),
 0,x.1.2.2.2.2.2.1,x.1.2.2.2.2.2.2.1,
 x.1.2.2.2.2.2.2.2.1,0,0,0,(0,0,false,0,[],0,0,()),[],
 [],false,(0,0,[],[],()),(0,0,0,[],[],0,[],0,0,0,()),
 ()))
 else
 bif decide (x.1.1=6) then
 some
 (Sum.inl
 ((0,0,0,0,0,0,0,0,false,[],(0,0,[],()),()),
 (0,0,(0,[],[],[],0,0,0,[],[],[],0,0,0,false,[],[],[],()),
 ()),
 0,[],[],x.1.2.2.2.2.2.2.2.1,0,0,0,
 (0,0,false,0,[],0,0,()),[],[],false,(0,0,[],[],()),
 (0,0,0,[],[],0,[],0,0,0,()),()))
 else
 bif decide (x.1.1=8) then
 some
 (Sum.inl
 ((0,0,0,0,0,0,0,0,false,[],(0,0,[],()),()),
 (0,0,(0,[],[],[],0,0,0,[],[],[],0,0,0,false,[],[],[],()),
 ()),
 0,[],[],0,0,x.1.2.2.2.2.2.2.2.2.2.1,
 x.1.2.2.2.2.2.2.2.2.2.2.1,
 x.1.2.2.2.2.2.2.2.2.2.2.2.1,[],[],false,
 (0,0,[],[],()),(0,0,0,[],[],0,[],0,0,0,()),()))
 else
 bif decide (x.1.1=9) then
 some
 (Sum.inl
 ((0,0,0,0,0,0,0,0,false,[],(0,0,[],()),()),
 (0,0,(0,[],[],[],0,0,0,[],[],[],0,0,0,false,[],[],[],()),
 ()),
 0,[],[],x.1.2.2.2.2.2.2.2.1,0,
 x.1.2.2.2.2.2.2.2.2.2.1,0,
 (0,0,false,0,[],0,0,()),
 x.1.2.2.2.2.2.2.2.2.2.2.2.2.1,[],false,
 (0,0,[],[],()),(0,0,0,[],[],0,[],0,0,0,()),()))
 else
 bif decide (x.1.1=10) then
 some
 (Sum.inl
 ((0,0,0,0,0,0,0,0,false,[],(0,0,[],()),()),
 (0,0,(0,[],[],[],0,0,0,[],[],[],0,0,0,false,[],[],[],()),
 ()),
 0,[],[],0,0,x.1.2.2.2.2.2.2.2.2.2.1,0,
 (0,0,false,0,[],0,0,()),[],
 x.1.2.2.2.2.2.2.2.2.2.2.2.2.2.1,
 x.1.2.2.2.2.2.2.2.2.2.2.2.2.2.2.1,
 (0,0,[],[],()),(0,0,0,[],[],0,[],0,0,0,()),
 ()))
 else
 bif decide (x.1.1=11) then
 some
 (Sum.inl
 ((0,0,0,0,0,0,0,0,false,[],(0,0,[],()),()),
 (0,0,(0,[],[],[],0,0,0,[],[],[],0,0,0,false,[],[],[],()),
 ()),
 0,[],[],0,0,x.1.2.2.2.2.2.2.2.2.2.1,0,
 (0,0,false,0,[],0,0,()),[],[],false,
 x.1.2.2.2.2.2.2.2.2.2.2.2.2.2.2.2.1,
 (0,0,0,[],[],0,[],0,0,0,()),()))
 else
 bif decide (x.1.1=12) then
 some
 (Sum.inl
 ((0,0,0,0,0,0,0,0,false,[],(0,0,[],()),()),
 (0,0,
 (0,[],[],[],0,0,0,[],[],[],0,0,0,false,[],[],[],()),
 ()),
 0,[],[],x.1.2.2.2.2.2.2.2.1,0,0,0,
 (0,0,false,0,[],0,0,()),[],[],false,(0,0,[],[],()),
 x.1.2.2.2.2.2.2.2.2.2.2.2.2.2.2.2.2))
 else
 some
 (Sum.inl
 ((0,0,0,0,0,0,0,0,false,[],(0,0,[],()),()),
 (0,0,
 (0,[],[],[],0,0,0,[],[],[],0,0,0,false,[],[],[],()),
 ()),
 0,[],[],0,0,0,0,(0,0,false,0,[],0,0,()),[],[],false,
 (0,0,[],[],()),(0,0,0,[],[],0,[],0,0,0,()),
 ())))
 fun o=>
 Sum.elim
 (fun (x_2 :
 (Int×Int×Int×Int×Int×Int×Int×Int×Bool×List aC×aC×Unit)×(Int×Int×(Int×List UInt8×List UInt8×List UInt8×Int×Int×Int×List aN×List au×List au×Int×Int×Int×Bool×List af×List (Int×Int×(Int×Int×Bool×Int×List af×ai)×Unit)×List aG×Unit)×Unit)×Int×List UInt8×List UInt8×Int×Int×Int×Int×(Int×Int×Bool×Int×List af×ai)×List (Int×List af×Unit)×List af×Bool×(Int×Int×List (Int×Int×(Int×Int×Bool×Int×List af×ai)×Unit)×List aG×Unit)×bg×Unit)=>
 some ((x.1.1,x_1.1,x_2),()))
 some o)
 some o
def RD:Sig:=⟨VE,Uh,BH⟩
def Xp:Env:=mkE ay 122 [] [(4,⟨[⟨.fld 1004000 1,(.int .i64),.pv⟩],[1,2,3],[.site 1004000,.fld 1004000 0]++hL (.fld 1004000) 2 15++[.site 2000]++hL (.fld 2000) 0 17++[.site 1000]++hL (.fld 1000) 0 17⟩),(27,⟨[⟨.fld 1004000 2,T27,.pv⟩,⟨.fld 1004000 3,T33,.pv⟩,⟨.fld 1004000 4,(.int .i64),.pv⟩,⟨.fld 1004000 5,.str,.pv⟩,⟨.fld 1004000 6,.str,.pv⟩,⟨.fld 1004000 7,(.int .i64),.pv⟩,⟨.fld 1004000 8,(.int .i64),.pv⟩,⟨.fld 1004000 9,(.int .i64),.pv⟩,⟨.fld 1004000 10,(.int .i64),.pv⟩,⟨.fld 1004000 11,T51,.pv⟩,⟨.fld 1004000 12,(.slice TB),.pv⟩,⟨.fld 1004000 13,(.slice T70),.pv⟩,⟨.fld 1004000 14,.bool,.pv⟩,⟨.fld 1004000 15,T55,.pv⟩,⟨.fld 1004000 16,T53,.pv⟩],[2,3],[.site 1004000,.fld 1004000 0,.fld 1004000 1,.site 2000]++hL (.fld 2000) 0 17⟩)] []
theorem zba x:ax Xp Tryz.f106 VE Uh x=BH x:=by kernel_rfl
def uS (x:jP×Unit):Option (jP×Bool×Unit):=
 Option.bind
 (bif decide (x.1.1=1) then
 bif decide (x.1.1=1) then
 some
 (Sum.inl
 (x.1.2.2.2.2.1,x.1.2.2.2.2.2.1,0,0,false,[],(0,0,[],()),0,0,0,
 0,0,0,0,0,false,[],(0,0,[],()),()))
 else
 bif decide (x.1.1=2) then
 bif decide (x.1.1=2) then
 some
 (Sum.inl
 (0,0,0,0,x.1.2.2.2.2.2.2.2.2.1,[],(0,0,[],()),0,0,0,0,0,0,0,
 0,false,[],(0,0,[],()),()))
 else
 bif decide (x.1.1=5) then
 some
 (Sum.inl
 (x.1.2.2.2.2.1,x.1.2.2.2.2.2.1,x.1.2.2.2.2.2.2.1,
 x.1.2.2.2.2.2.2.2.1,false,x.1.2.2.2.2.2.2.2.2.2.1,
 (0,0,[],()),0,0,0,0,0,0,0,0,false,[],(0,0,[],()),()))
 else
 bif decide (x.1.1=6) then
 some
 (Sum.inl
 (x.1.2.2.2.2.1,0,0,x.1.2.2.2.2.2.2.2.1,
 x.1.2.2.2.2.2.2.2.2.1,[],(0,0,[],()),0,0,0,0,0,0,0,0,
 false,[],(0,0,[],()),()))
 else
 bif decide (x.1.1=7) then
 some
 (Sum.inl
 (0,0,0,0,false,[],x.1.2.2.2.2.2.2.2.2.2.2.1,0,0,0,0,0,0,0,0,
 false,[],(0,0,[],()),()))
 else
 some
 (Sum.inr
 ((0,0,0,0,0,0,0,0,false,[],(0,0,[],()),()),false,()))
 else
 bif decide (x.1.1=4) then
 some
 (Sum.inl
 (0,0,0,0,x.1.2.2.2.2.2.2.2.2.1,[],(0,0,[],()),0,0,0,0,0,0,0,
 0,false,[],(0,0,[],()),()))
 else
 bif decide (x.1.1=5) then
 some
 (Sum.inl
 (x.1.2.2.2.2.1,x.1.2.2.2.2.2.1,x.1.2.2.2.2.2.2.1,
 x.1.2.2.2.2.2.2.2.1,false,x.1.2.2.2.2.2.2.2.2.2.1,
 (0,0,[],()),0,0,0,0,0,0,0,0,false,[],(0,0,[],()),()))
 else
 bif decide (x.1.1=6) then
 some
 (Sum.inl
 (x.1.2.2.2.2.1,0,0,x.1.2.2.2.2.2.2.2.1,
 x.1.2.2.2.2.2.2.2.2.1,[],(0,0,[],()),0,0,0,0,0,0,0,0,
 false,[],(0,0,[],()),()))
 else
 bif decide (x.1.1=7) then
 some
 (Sum.inl
 (0,0,0,0,false,[],x.1.2.2.2.2.2.2.2.2.2.2.1,0,0,0,0,0,0,0,0,
 false,[],(0,0,[],()),()))
 else
 some
 (Sum.inr
 ((0,0,0,0,0,0,0,0,false,[],(0,0,[],()),()),false,()))
 else
 bif decide (x.1.1=3) then
 some
 (Sum.inl
 (x.1.2.2.2.2.1,x.1.2.2.2.2.2.1,0,0,false,[],(0,0,[],()),0,0,0,
 0,0,0,0,0,false,[],(0,0,[],()),()))
 else
 bif decide (x.1.1=2) then
 bif decide (x.1.1=2) then
 some
 (Sum.inl
 (0,0,0,0,x.1.2.2.2.2.2.2.2.2.1,[],(0,0,[],()),0,0,0,0,0,0,0,
 0,false,[],(0,0,[],()),()))
 else
 bif decide (x.1.1=5) then
 some
 (Sum.inl
 (x.1.2.2.2.2.1,x.1.2.2.2.2.2.1,x.1.2.2.2.2.2.2.1,
 x.1.2.2.2.2.2.2.2.1,false,x.1.2.2.2.2.2.2.2.2.2.1,
 (0,0,[],()),0,0,0,0,0,0,0,0,false,[],(0,0,[],()),()))
 else
 bif decide (x.1.1=6) then
 some
 (Sum.inl
 (x.1.2.2.2.2.1,0,0,x.1.2.2.2.2.2.2.2.1,
 x.1.2.2.2.2.2.2.2.2.1,[],(0,0,[],()),0,0,0,0,0,0,0,0,
 false,[],(0,0,[],()),()))
 else
 bif decide (x.1.1=7) then
 some
 (Sum.inl
 (0,0,0,0,false,[],x.1.2.2.2.2.2.2.2.2.2.2.1,0,0,0,0,0,0,0,0,
 false,[],(0,0,[],()),()))
 else
 some
 (Sum.inr
 ((0,0,0,0,0,0,0,0,false,[],(0,0,[],()),()),false,()))
 else
 bif decide (x.1.1=4) then
 some
 (Sum.inl
 (0,0,0,0,x.1.2.2.2.2.2.2.2.2.1,[],(0,0,[],()),0,0,0,0,0,0,0,
 0,false,[],(0,0,[],()),()))
 else
 bif decide (x.1.1=5) then
 some
 (Sum.inl
 (x.1.2.2.2.2.1,x.1.2.2.2.2.2.1,x.1.2.2.2.2.2.2.1,
 x.1.2.2.2.2.2.2.2.1,false,x.1.2.2.2.2.2.2.2.2.2.1,
 (0,0,[],()),0,0,0,0,0,0,0,0,false,[],(0,0,[],()),()))
 else
 bif decide (x.1.1=6) then
 some
 (Sum.inl
 (x.1.2.2.2.2.1,0,0,x.1.2.2.2.2.2.2.2.1,
 x.1.2.2.2.2.2.2.2.2.1,[],(0,0,[],()),0,0,0,0,0,0,0,0,
 false,[],(0,0,[],()),()))
 else
 bif decide (x.1.1=7) then
 some
 (Sum.inl
 (0,0,0,0,false,[],x.1.2.2.2.2.2.2.2.2.2.2.1,0,0,0,0,0,0,0,0,
 false,[],(0,0,[],()),()))
 else
 some
 (Sum.inr
 ((0,0,0,0,0,0,0,0,false,[],(0,0,[],()),()),false,())))
 fun o=>
 Sum.elim
 (fun (x_1 :
 Int×Int×Int×Int×Bool×List aC×aC×Int×Int×Int×Int×Int×Int×Int×Int×Bool×List aC×aC×Unit)=>
 some
 ((x.1.1,x.1.2.1,x.1.2.2.1,x.1.2.2.2.1,x_1.1,x_1.2.1,x_1.2.2.1,
 x_1.2.2.2.1,x_1.2.2.2.2.1,x_1.2.2.2.2.2.1,
 x_1.2.2.2.2.2.2.1,()),
 true,()))
 some o
def Rj:Sig:=⟨Vh,TK,uS⟩
def WW:Env:=mkE ay 66 [] [(16,⟨[⟨.fld 1010000 4,(.int .i64),.pv⟩,⟨.fld 1010000 5,(.int .i64),.pv⟩,⟨.fld 1010000 6,(.int .i64),.pv⟩,⟨.fld 1010000 7,(.int .i64),.pv⟩,⟨.fld 1010000 8,.bool,.pv⟩,⟨.fld 1010000 9,(.slice T25),.pv⟩,⟨.fld 1010000 10,T25,.pv⟩,⟨.fld 2000 0,(.int .i64),.pv⟩,⟨.fld 2000 1,(.int .i64),.pv⟩,⟨.fld 2000 2,(.int .i64),.pv⟩,⟨.fld 2000 3,(.int .i64),.pv⟩,⟨.fld 2000 4,(.int .i64),.pv⟩,⟨.fld 2000 5,(.int .i64),.pv⟩,⟨.fld 2000 6,(.int .i64),.pv⟩,⟨.fld 2000 7,(.int .i64),.pv⟩,⟨.fld 2000 8,.bool,.pv⟩,⟨.fld 2000 9,(.slice T25),.own false⟩,⟨.fld 2000 10,T25,.pv⟩],[2,4],[.site 1010000]++hL (.fld 1010000) 0 4++[.site 2000]⟩)] []
theorem zaQ x:ax WW Tryz.f146 Vh TK x=uS x:=by kernel_rfl
def uQ (x:Int×Unit):Option (Bool×Unit):=bif decide (0≤x.1) then some (decide (x.1 < 3),()) else some (false,())
def Ri:Sig:=⟨Vg,TJ,uQ⟩
def WV:Env:=mkE ay 9 [] [] []
theorem zaP x:ax WV Tryz.f147 Vg TJ x=uQ x:=by kernel_rfl
def yA (x:List Int×Unit):Option (Bool×Unit):=
 bu (Int×Unit) (Bool×Unit)
 (fun (x_1:Int×Unit)=>
 bif decide (x_1.1 < Int.ofNat (List.length x.1)) then
 (idx x.1 x_1.1).bind fun b=>
 bif decide (b < 0) then some (Sum.inr (false,()))
 else
 bif decide (1099511627776 < b) then some (Sum.inr (false,()))
 else some (Sum.inl (wrap64 (x_1.1+1),()))
 else some (Sum.inr (true,())))
 big (0,())
def Rh:Sig:=⟨Vf,TI,yA⟩
def WU:Env:=mkE ay 18 [] [] [(2,bP ⟨[⟨.slot 7,(.int .i64),.pv⟩],[5,6],[]⟩)]
theorem zaO x:ax WU Tryz.f148 Vf TI x=yA x:=by kernel_rfl
def o8 (x:Int×Unit):Option (Bool×Unit):=
 bif decide (1≤x.1) then some (decide (x.1≤1099511627776),()) else some (false,())
def GY:Sig:=⟨UK,SG,o8⟩
def Wj:Env:=mkE ay 9 [] [] []
theorem zal x:ax Wj Tryz.f188 UK SG x=o8 x:=by kernel_rfl
def uK (x:aC×Unit):Option (Bool×Unit):=
 (o8 (x.1.1,())).bind fun b=>
 bif b.1 then
 (o8 (x.1.2.1,())).bind fun b=>
 bif b.1 then some (decide (Int.ofNat (List.length x.1.2.2.1)≤12000),())
 else some (false,())
 else some (false,())
def QQ:Sig:=⟨UL,SH,uK⟩
def Wl:Env:=mkE ay 17 [(188,[GY])] [] []
theorem zam x:ax Wl Tryz.f187 UL SH x=uK x:=by kernel_rfl
def BB (x:Int×Int×List aC×Unit):Option (Bool×Unit):=
 bu aG (Bool×Unit)
 (fun (x_1:aG)=>
 bif decide (x_1.2.2.1 < Int.ofNat (List.length x.2.2.1)) then
 (idx x.2.2.1 x_1.2.2.1).bind fun b=>
 (uK (b,())).bind fun b_1=>
 bif !b_1.1 then some (Sum.inr (false,()))
 else
 bif !decide (wrap64 (b.1 - 1)=x_1.1) then some (Sum.inr (false,()))
 else
 bif decide (b.2.1 < x_1.2.1) then some (Sum.inr (false,()))
 else some (Sum.inl (b.1,b.2.1,wrap64 (x_1.2.2.1+1),()))
 else some (Sum.inr (true,())))
 big (x.1,x.2.1,0,())
def Rf:Sig:=⟨Ve,TG,BB⟩
def WT:Env:=mkE ay 36 [(187,[QQ])] [] [(2,bP ⟨[⟨.slot 0,(.int .i64),.pv⟩,⟨.slot 1,(.int .i64),.pv⟩,⟨.slot 11,(.int .i64),.pv⟩],[9,10],[]⟩)]
theorem zaN x:ax WT Tryz.f149 Ve TG x=BB x:=by kernel_rfl
def yz (x:aC×Unit):Option (Bool×Unit):=
 Option.bind
 (bif decide (x.1.1=0) then
 bif decide (x.1.2.1=0) then
 some (Sum.inr (decide (Int.ofNat (List.length x.1.2.2.1)=0),()))
 else some (Sum.inl ())
 else some (Sum.inl ()))
 fun o=>
 Sum.elim
 (fun (_z:Unit)=>
 (o8 (x.1.1,())).bind fun b=>
 bif b.1 then
 (o8 (x.1.2.1,())).bind fun b=>
 bif b.1 then some (decide (Int.ofNat (List.length x.1.2.2.1)≤50000),())
 else some (false,())
 else some (false,()))
 some o
def Q9:Sig:=⟨Vd,TF,yz⟩
def WS:Env:=mkE ay 29 [(188,[GY])] [(3,⟨[],[1],[.site 1000,.fld 1000 0,.fld 1000 1,.fld 1000 2]⟩)] []
theorem zaM x:ax WS Tryz.f150 Vd TF x=yz x:=by kernel_rfl
def mJ (x:jP×Unit):Option (Bool×Unit):=
 (uS x).bind
 fun b=>
 bif !b.2.1 then some (false,())
 else
 (uU (b.1,x)).bind fun b=>
 bif !b.1 then some (false,())
 else
 (uQ (x.1.2.1,())).bind fun b=>
 bif !b.1 then some (false,())
 else
 (uQ (x.1.2.2.1,())).bind fun b=>
 bif !b.1 then some (false,())
 else
 bif decide (x.1.2.1=x.1.2.2.1) then some (false,())
 else
 bif decide (x.1.2.2.2.1 < 1) then some (false,())
 else
 Option.bind
 (yA
 ([x.1.2.2.2.1,x.1.2.2.2.2.1,x.1.2.2.2.2.2.1,
 x.1.2.2.2.2.2.2.1,x.1.2.2.2.2.2.2.2.1],
 ()))
 fun b=>
 bif !b.1 then some (false,())
 else
 bif decide (4 < Int.ofNat (List.length x.1.2.2.2.2.2.2.2.2.2.1)) then
 some (false,())
 else
 Option.bind
 (BB
 (x.1.2.2.2.2.1,x.1.2.2.2.2.2.1,
 x.1.2.2.2.2.2.2.2.2.2.1,()))
 fun b=>
 bif !b.1 then some (false,())
 else
 bu (Int×Unit) (Bool×Unit)
 (fun (x_1:Int×Unit)=>
 bif
 decide
 (x_1.1 <
 Int.ofNat (List.length x.1.2.2.2.2.2.2.2.2.2.1)) then
 (idx x.1.2.2.2.2.2.2.2.2.2.1 x_1.1).bind
 fun b=>
 bif decide (x.1.2.2.2.1 < b.2.1) then
 some (Sum.inr (false,()))
 else some (Sum.inl (wrap64 (x_1.1+1),()))
 else
 Option.map Sum.inr
 (bif !decide (x.1.1=7) then some (true,())
 else
 (yz x.1.2.2.2.2.2.2.2.2.2.2).bind
 fun b=>
 bif b.1 then
 some
 (decide (0 < x.1.2.2.2.2.2.2.2.2.2.2.1.1),
 ())
 else some (false,())))
 big (0,())
def Rz:Sig:=⟨VD,Ug,mJ⟩
def Xo:Env:=mkE ay 100 [(141,[Hf]),(146,[Rj]),(147,[Ri]),(148,[Rh]),(149,[Rf]),(150,[Q9])] [] [(7,bP ⟨[⟨.slot 76,(.int .i64),.pv⟩],[1,74,75],[.site 1000]++hL (.fld 1000) 0 11⟩)]
theorem za9 x:ax Xo Tryz.f107 VD Ug x=mJ x:=by kernel_rfl
def iZ (x:Int×Int×Int×Unit):Option (Bool×Unit):=
 bif decide (x.2.1≤x.1) then some (decide (x.1≤x.2.2.1),()) else some (false,())
def xK:Sig:=⟨VC,Uf,iZ⟩
def Xn:Env:=mkE ay 15 [] [] []
theorem za8 x:ax Xn Tryz.f108 VC Uf x=iZ x:=by kernel_rfl
def F77 (x:List UInt8×List UInt8×Unit):Option (Bool×Unit):=
 (F92 (x.1,())).bind fun b=>
 bif b.1 then
 bif decide (x.2.1=[]) then some (true,())
 else
 (uZ (x.2.1,UInt8.ofNat 127,())).bind fun b=>
 bif b.1 then some (!(bC x.2.1 x.1 || decide (x.2.1=x.1)),())
 else some (false,())
 else some (false,())
def S77:Sig:=⟨P77,R77,F77⟩
def E77:Env:=mkE ay 20 [(92,[S92]),(100,[Ho])] [] []
theorem zcf x:ax E77 Tryz.f77 P77 R77 x=F77 x:=by kernel_rfl
def yf (x:bi×Unit):Option (bi×Unit):=
 Option.bind
 (bif decide (x.1.1=1) then
 some (Sum.inl (x.1.2.1,[],x.1.2.2.2.1,x.1.2.2.2.2.1,0,0,[],[],[],()))
 else
 bif decide (x.1.1=2) then
 some (Sum.inl (x.1.2.1,x.1.2.2.1,[],0,0,0,[],[],[],()))
 else
 bif decide (x.1.1=3) then
 some
 (Sum.inl
 ([],[],[],0,0,0,x.1.2.2.2.2.2.2.2.1,x.1.2.2.2.2.2.2.2.2.1,
 x.1.2.2.2.2.2.2.2.2.2.1,()))
 else
 bif decide (x.1.1=4) then
 some (Sum.inl ([],[],[],0,0,x.1.2.2.2.2.2.2.1,[],[],[],()))
 else
 bif decide (x.1.1=5) then
 some
 (Sum.inl
 ([],[],[],x.1.2.2.2.2.1,x.1.2.2.2.2.2.1,0,[],[],[],()))
 else
 bif decide (x.1.1=6) then
 bif decide (x.1.1=6) then
 some (Sum.inl ([],[],[],x.1.2.2.2.2.1,0,0,[],[],[],()))
 else some (Sum.inl ([],[],[],0,0,0,[],[],[],()))
 else
 bif decide (x.1.1=7) then
 bif decide (x.1.1=7) then
 some (Sum.inl ([],[],[],x.1.2.2.2.2.1,0,0,[],[],[],()))
 else some (Sum.inl ([],[],[],0,0,0,[],[],[],()))
 else
 bif decide (x.1.1=9) then
 some (Sum.inl ([],[],[],x.1.2.2.2.2.1,0,0,[],[],[],()))
 else some (Sum.inl ([],[],[],0,0,0,[],[],[],())))
 fun o=>
 Sum.elim
 (fun (x_1 :
 List UInt8×List UInt8×List UInt8×Int×Int×Int×List aN×List au×List au×Unit)=>
 some
 ((x.1.1,x_1.1,x_1.2.1,x_1.2.2.1,x_1.2.2.2.1,x_1.2.2.2.2.1,
 x_1.2.2.2.2.2.1,x_1.2.2.2.2.2.2.1,x_1.2.2.2.2.2.2.2.1,
 x_1.2.2.2.2.2.2.2.2.1,0,0,0,false,[],[],[],()),
 ()))
 some o
def QV:Sig:=⟨UY,Tf,yf⟩
def WC:Env:=mkE ay 60 [] [(17,⟨[⟨.fld 1004000 1,.str,.pv⟩,⟨.fld 1004000 2,.str,.pv⟩,⟨.fld 1004000 3,.str,.pv⟩,⟨.fld 1004000 4,(.int .i64),.pv⟩,⟨.fld 1004000 5,(.int .i64),.pv⟩,⟨.fld 1004000 6,(.int .i64),.pv⟩,⟨.fld 1004000 7,(.slice T96),.pv⟩,⟨.fld 1004000 8,(.slice T48),.pv⟩,⟨.fld 1004000 9,(.slice T48),.pv⟩],[2,3],[.site 1004000,.fld 1004000 0]++hL (.fld 1004000) 10 7++[.site 2000]++hL (.fld 2000) 0 17⟩)] []
theorem zay x:ax WC Tryz.f174 UY Tf x=yf x:=by kernel_rfl
def yE (x:bi×Unit):Option (bi×Unit):=
 Option.bind
 (bif decide (x.1.1=11) then
 bif decide (x.1.1=11) then
 some
 (Sum.inl
 ([],[],0,0,0,false,[],[],[],0,[],[],[],0,0,0,[],[],[],0,0,0,false,[],[],[],
 ()))
 else
 bif decide (x.1.1=10) then
 some
 (Sum.inl
 (x.1.2.1,[],0,0,0,false,[],[],[],0,[],[],[],0,0,0,[],[],[],0,0,0,false,[],
 [],[],()))
 else
 bif decide (x.1.1=12) then
 some
 (Sum.inl
 (x.1.2.1,x.1.2.2.1,x.1.2.2.2.2.2.2.1,
 x.1.2.2.2.2.2.2.2.2.2.2.2.1,0,false,[],[],[],0,[],[],[],0,0,0,
 [],[],[],0,0,0,false,[],[],[],()))
 else
 bif decide (x.1.1=13) then
 some
 (Sum.inl
 (x.1.2.1,x.1.2.2.1,0,x.1.2.2.2.2.2.2.2.2.2.2.2.1,0,
 x.1.2.2.2.2.2.2.2.2.2.2.2.2.2.1,
 x.1.2.2.2.2.2.2.2.2.2.2.2.2.2.2.1,[],[],0,[],[],[],0,0,0,
 [],[],[],0,0,0,false,[],[],[],()))
 else
 bif decide (x.1.1=14) then
 some
 (Sum.inl
 ([],[],x.1.2.2.2.2.2.2.1,x.1.2.2.2.2.2.2.2.2.2.2.2.1,
 x.1.2.2.2.2.2.2.2.2.2.2.2.2.1,false,
 x.1.2.2.2.2.2.2.2.2.2.2.2.2.2.2.1,[],[],0,[],[],[],0,0,0,
 [],[],[],0,0,0,false,[],[],[],()))
 else
 bif decide (x.1.1=15) then
 some
 (Sum.inl
 ([],[],x.1.2.2.2.2.2.2.1,x.1.2.2.2.2.2.2.2.2.2.2.2.1,
 0,false,[],x.1.2.2.2.2.2.2.2.2.2.2.2.2.2.2.2.1,
 x.1.2.2.2.2.2.2.2.2.2.2.2.2.2.2.2.2.1,0,[],[],[],0,0,
 0,[],[],[],0,0,0,false,[],[],[],()))
 else
 (yf x).bind
 fun b=>
 some (Sum.inr b)
 else
 bif decide (x.1.1=16) then
 some
 (Sum.inl
 ([],[],0,0,0,false,[],[],[],0,[],[],[],0,0,0,[],[],[],0,0,0,false,[],[],[],
 ()))
 else
 bif decide (x.1.1=10) then
 some
 (Sum.inl
 (x.1.2.1,[],0,0,0,false,[],[],[],0,[],[],[],0,0,0,[],[],[],0,0,0,false,[],
 [],[],()))
 else
 bif decide (x.1.1=12) then
 some
 (Sum.inl
 (x.1.2.1,x.1.2.2.1,x.1.2.2.2.2.2.2.1,
 x.1.2.2.2.2.2.2.2.2.2.2.2.1,0,false,[],[],[],0,[],[],[],0,0,0,
 [],[],[],0,0,0,false,[],[],[],()))
 else
 bif decide (x.1.1=13) then
 some
 (Sum.inl
 (x.1.2.1,x.1.2.2.1,0,x.1.2.2.2.2.2.2.2.2.2.2.2.1,0,
 x.1.2.2.2.2.2.2.2.2.2.2.2.2.2.1,
 x.1.2.2.2.2.2.2.2.2.2.2.2.2.2.2.1,[],[],0,[],[],[],0,0,0,
 [],[],[],0,0,0,false,[],[],[],()))
 else
 bif decide (x.1.1=14) then
 some
 (Sum.inl
 ([],[],x.1.2.2.2.2.2.2.1,x.1.2.2.2.2.2.2.2.2.2.2.2.1,
 x.1.2.2.2.2.2.2.2.2.2.2.2.2.1,false,
 x.1.2.2.2.2.2.2.2.2.2.2.2.2.2.2.1,[],[],0,[],[],[],0,0,0,
 [],[],[],0,0,0,false,[],[],[],()))
 else
 bif decide (x.1.1=15) then
 some
 (Sum.inl
 ([],[],x.1.2.2.2.2.2.2.1,x.1.2.2.2.2.2.2.2.2.2.2.2.1,
 0,false,[],x.1.2.2.2.2.2.2.2.2.2.2.2.2.2.2.2.1,
 x.1.2.2.2.2.2.2.2.2.2.2.2.2.2.2.2.2.1,0,[],[],[],0,0,
 0,[],[],[],0,0,0,false,[],[],[],()))
 else
 (yf x).bind
 fun b=>
 some (Sum.inr b))
 fun o=>
 Sum.elim
 (fun (x_1 :
 List UInt8×List UInt8×Int×Int×Int×Bool×List af×List (Int×Int×(Int×Int×Bool×Int×List af×ai)×Unit)×List aG×Int×List UInt8×List UInt8×List UInt8×Int×Int×Int×List aN×List au×List au×Int×Int×Int×Bool×List af×List (Int×Int×(Int×Int×Bool×Int×List af×ai)×Unit)×List aG×Unit)=>
 some
 ((x.1.1,x_1.1,x_1.2.1,[],0,0,x_1.2.2.1,[],[],[],
 x.1.2.2.2.2.2.2.2.2.2.2.1,x_1.2.2.2.1,x_1.2.2.2.2.1,
 x_1.2.2.2.2.2.1,x_1.2.2.2.2.2.2.1,x_1.2.2.2.2.2.2.2.1,
 x_1.2.2.2.2.2.2.2.2.1,()),
 ()))
 some o
def Rt:Sig:=⟨Vw,TZ,yE⟩
def Xh:Env:=mkE ay 81 [(174,[QV])] [(16,⟨[⟨.fld 1006000 1,.str,.pv⟩,⟨.fld 1006000 2,.str,.pv⟩,⟨.fld 1006000 6,(.int .i64),.pv⟩,⟨.fld 1006000 11,(.int .i64),.pv⟩,⟨.fld 1006000 12,(.int .i64),.pv⟩,⟨.fld 1006000 13,.bool,.pv⟩,⟨.fld 1006000 14,(.slice T70),.pv⟩,⟨.fld 1006000 15,(.slice T94),.pv⟩,⟨.fld 1006000 16,(.slice jQ),.pv⟩,⟨.fld 2000 0,(.int .i64),.pv⟩,⟨.fld 2000 1,.str,.pv⟩,⟨.fld 2000 2,.str,.pv⟩,⟨.fld 2000 3,.str,.pv⟩,⟨.fld 2000 4,(.int .i64),.pv⟩,⟨.fld 2000 5,(.int .i64),.pv⟩,⟨.fld 2000 6,(.int .i64),.pv⟩,⟨.fld 2000 7,(.slice T96),.own false⟩,⟨.fld 2000 8,(.slice T48),.own false⟩,⟨.fld 2000 9,(.slice T48),.own false⟩,⟨.fld 2000 10,(.int .i64),.pv⟩,⟨.fld 2000 11,(.int .i64),.pv⟩,⟨.fld 2000 12,(.int .i64),.pv⟩,⟨.fld 2000 13,.bool,.pv⟩,⟨.fld 2000 14,(.slice T70),.own false⟩,⟨.fld 2000 15,(.slice T94),.own false⟩,⟨.fld 2000 16,(.slice jQ),.own false⟩],[2,3],[.site 1006000,.fld 1006000 0,.fld 1006000 3,.fld 1006000 4,.fld 1006000 5]++hL (.fld 1006000) 7 4++[.site 2000]⟩)] []
theorem za2 x:ax Xh Tryz.f135 Vw TZ x=yE x:=by kernel_rfl
def jA (x:Int×Int×Int×Unit):Option (Bool×Unit):=
 bif decide (x.2.1≤x.1) then some (decide (x.1≤x.2.2.1),()) else some (false,())
def oZ:Sig:=⟨UV,SY,jA⟩
def Wy:Env:=mkE ay 15 [] [] []
theorem zav x:ax Wy Tryz.f177 UV SY x=jA x:=by kernel_rfl
def uM (x:Int×Unit):Option (Bool×Unit):=
 (jA (x.1,1,1099511627776,())).bind fun b=>some (!b.1,())
def Bl:Sig:=⟨UU,SX,uM⟩
def Wx:Env:=mkE ay 6 [(177,[oZ])] [] []
theorem zau x:ax Wx Tryz.f179 UU SX x=uM x:=by kernel_rfl
def AB (x:List Int×Unit):Option (Int×Unit):=
 bu (Int×Unit) (Int×Unit)
 (fun (x_1:Int×Unit)=>
 bif decide (x_1.1 < Int.ofNat (List.length x.1)) then
 (idx x.1 x_1.1).bind fun b=>
 (uM (b,())).bind fun b=>
 bif b.1 then some (Sum.inr x_1) else some (Sum.inl (wrap64 (x_1.1+1),()))
 else some (Sum.inr (-1,())))
 big (0,())
def Gf:Sig:=⟨Pv,O0,AB⟩
def PW:Env:=mkE ay 19 [(179,[Bl])] [] [(2,bP ⟨[⟨.slot 8,(.int .i64),.pv⟩],[0,1,7],[]⟩)]
theorem Y1 x:ax PW Tryz.f210 Pv O0 x=AB x:=by kernel_rfl
def AL (x:List Int×Unit):Option (Bool×Unit):=(AB x).bind fun b=>some (decide (0≤b.1),())
def Gi:Sig:=⟨PL,Pe,AL⟩
def Qd:Env:=mkE ay 9 [(179,[Bl]),(210,[Gf])] [] []
theorem Za x:ax Qd Tryz.f178 PL Pe x=AL x:=by kernel_rfl
def ed (x:List Int×Unit):Option (Bool×Unit):=(AL x).bind fun b=>some (!b.1,())
def o5:Sig:=⟨Vt,TW,ed⟩
def Xf:Env:=mkE ay 6 [(178,[Gi]),(179,[Bl])] [] []
theorem za0 x:ax Xf Tryz.f137 Vt TW x=ed x:=by kernel_rfl
def uD (x:Int×Unit):Option (Bool×Unit):=
 (jA (x.1,0,1099511627776,())).bind fun b=>some (!b.1,())
def Bf:Sig:=⟨Uz,Si,uD⟩
def VZ:Env:=mkE ay 6 [(177,[oZ])] [] []
theorem Z9 x:ax VZ Tryz.f213 Uz Si x=uD x:=by kernel_rfl
def AA (x:List Int×Unit):Option (Int×Unit):=
 bu (Int×Unit) (Int×Unit)
 (fun (x_1:Int×Unit)=>
 bif decide (x_1.1 < Int.ofNat (List.length x.1)) then
 (idx x.1 x_1.1).bind fun b=>
 (uD (b,())).bind fun b=>
 bif b.1 then some (Sum.inr x_1) else some (Sum.inl (wrap64 (x_1.1+1),()))
 else some (Sum.inr (-1,())))
 big (0,())
def OE:Sig:=⟨Pq,OZ,AA⟩
def PV:Env:=mkE ay 19 [(213,[Bf])] [] [(2,bP ⟨[⟨.slot 8,(.int .i64),.pv⟩],[0,1,7],[]⟩)]
theorem Y0 x:ax PV Tryz.f210 Pq OZ x=AA x:=by kernel_rfl
def AC (x:List Int×Unit):Option (Bool×Unit):=(AA x).bind fun b=>some (decide (0≤b.1),())
def OO:Sig:=⟨PK,O9,AC⟩
def Qc:Env:=mkE ay 9 [(210,[Gf,OE]),(213,[Bf])] [] []
theorem Y9 x:ax Qc Tryz.f178 PK O9 x=AC x:=by kernel_rfl
def lw (x:List Int×Unit):Option (Bool×Unit):=(AC x).bind fun b=>some (!b.1,())
def xJ:Sig:=⟨UJ,SE,lw⟩
def Wi:Env:=mkE ay 6 [(178,[Gi,OO]),(213,[Bf])] [] []
theorem zak x:ax Wi Tryz.f189 UJ SE x=lw x:=by kernel_rfl
def uN (x:List UInt8×List UInt8×Int×Unit):Option (Bool×Unit):=
 (F92 (x.1,())).bind fun b=>
 bif b.1 then
 bif decide (Int.ofNat (List.length x.2.1)≤40) then
 (lw ([x.2.2.1],())).bind fun b=>some b
 else some (false,())
 else some (false,())
def G6:Sig:=⟨UX,Td,uN⟩
def WB:Env:=mkE ay 19 [(92,[S92]),(189,[xJ])] [] []
theorem zax x:ax WB Tryz.f175 UX Td x=uN x:=by kernel_rfl
def xU (x:aN×Unit):Option (Bool×Unit):=
 (F92 (x.1.1,())).bind fun b=>
 bif !b.1 then some (false,())
 else
 bif decide (x.1.2.2.1 < 0) then some (false,())
 else
 bif decide (2 < x.1.2.2.1) then some (false,())
 else
 (jA (x.1.2.2.2.1,-1099511627776,1099511627776,())).bind
 fun b=>
 bif !b.1 then some (false,())
 else
 bif decide (x.1.2.1=5) then
 bif decide (x.1.2.2.2.1=0) then
 some (decide (Int.ofNat (List.length x.1.2.2.2.2.1)≤40),())
 else some (false,())
 else
 bif decide (1≤x.1.2.1) then
 bif decide (x.1.2.1≤4) then some (decide (x.1.2.2.2.2.1=[]),())
 else some (false,())
 else some (false,())
def QO:Sig:=⟨UC,Sr,xU⟩
def V5:Env:=mkE ay 48 [(92,[S92]),(177,[oZ])] [] []
theorem zac x:ax V5 Tryz.f208 UC Sr x=xU x:=by kernel_rfl
def uG (x:aN×Unit):Option (Bool×Unit):=
 (xU x).bind fun b=>some (!b.1,())
def Bg:Sig:=⟨UD,Su,uG⟩
def V6:Env:=mkE ay 6 [(208,[QO])] [] []
theorem zad x:ax V6 Tryz.f207 UD Su x=uG x:=by kernel_rfl
def Ar (x:List aN×Unit):Option (Int×Unit):=
 bu (Int×Unit) (Int×Unit)
 (fun (x_1:Int×Unit)=>
 bif decide (x_1.1 < Int.ofNat (List.length x.1)) then
 (idx x.1 x_1.1).bind fun b=>
 (uG (b,())).bind fun b=>
 bif b.1 then some (Sum.inr x_1) else some (Sum.inl (wrap64 (x_1.1+1),()))
 else some (Sum.inr (-1,())))
 big (0,())
def OB:Sig:=⟨Pj,OV,Ar⟩
def PQ:Env:=mkE ay 19 [(207,[Bg])] [] [(2,bP ⟨[⟨.slot 8,(.int .i64),.pv⟩],[0,1,7],[]⟩)]
theorem YW x:ax PQ Tryz.f217 Pj OV x=Ar x:=by kernel_rfl
def xh (x:List aN×Unit):Option (Bool×Unit):=
 (Ar x).bind fun b=>some (decide (0≤b.1),())
def OG:Sig:=⟨Px,O1,xh⟩
def PX:Env:=mkE ay 9 [(207,[Bg]),(217,[OB])] [] []
theorem Y2 x:ax PX Tryz.f206 Px O1 x=xh x:=by kernel_rfl
def xP (x:au×Unit):Option (Bool×Unit):=
 bif decide (x.1.1=1) then
 bif decide (x.1.2.2.1=[]) then
 (uN (x.1.2.1,x.1.2.2.2)).bind fun b=>some b
 else some (false,())
 else
 bif decide (x.1.1=2) then
 bif decide (x.1.1=2) then
 bif decide (x.1.2.2.2.1=[]) then
 bif decide (x.1.2.2.2.2.1=0) then
 (F77 (x.1.2.1,x.1.2.2.1,())).bind fun b=>some b
 else some (false,())
 else some (false,())
 else some (false,())
 else
 bif decide (x.1.1=3) then
 bif decide (x.1.2.2.2.1=[]) then
 bif decide (x.1.2.2.2.2.1=0) then
 (F77 (x.1.2.1,x.1.2.2.1,())).bind fun b=>some b
 else some (false,())
 else some (false,())
 else some (false,())
def QL:Sig:=⟨Ux,RY,xP⟩
def VX:Env:=mkE ay 37 [(77,[S77]),(175,[G6])] [] []
theorem Z7 x:ax VX Tryz.f218 Ux RY x=xP x:=by kernel_rfl
def uC (x:List UInt8×List UInt8×List UInt8×Unit):Option (Bool×Unit):=
 (F77 (x.1,x.2.1,())).bind fun b=>
 bif !b.1 then some (false,())
 else
 (F92 x.2.2).bind fun b=>
 bif !b.1 then some (false,())
 else
 bif decide (x.2.2.1=x.1) then some (true,())
 else
 bif !(bC x.2.2.1 x.1 || decide (x.2.2.1=x.1)) then
 some (bC x.2.2.1 x.2.1,())
 else some (false,())
def QJ:Sig:=⟨Us,RP,uC⟩
def VS:Env:=mkE ay 29 [(77,[S77]),(92,[S92])] [] []
theorem ZZ x:ax VS Tryz.f224 Us RP x=uC x:=by kernel_rfl
def xO (x:au×au×Unit):Option (Bool×Unit):=
 bif decide (x.1.1=3) then some (false,())
 else
 bif decide (x.2.1.1=3) then some (false,())
 else
 bif decide (x.1.2.1=x.2.1.2.1) then some (true,())
 else
 (uC (x.1.2.1,x.1.2.2.1,x.2.1.2.1,())).bind fun b=>
 bif b.1 then some (true,())
 else
 (uC (x.2.1.2.1,x.2.1.2.2.1,x.1.2.1,())).bind
 fun b=>some b
def GR:Sig:=⟨Uu,RU,xO⟩
def VU:Env:=mkE ay 36 [(224,[QJ])] [] []
theorem Z5 x:ax VU Tryz.f221 Uu RU x=xO x:=by kernel_rfl
def VM (_x:au×Unit):Option (Bool×Unit):=none
def Be:Sig:=⟨Uw,RX,VM⟩
def VW:Env:=mkE ay 7 [(221,[GR])] [] []
theorem Z6 x:ax VW Tryz.f220 Uw RX x=VM x:=by kernel_rfl
def ui (x:au×au×Unit):Option (Bool×au×Unit):=
 (xO x).bind fun b=>some (b.1,x.2)
def Am:Sig:=⟨Ph,OT,ui⟩
def PO:Env:=mkE ay 7 [(221,[GR])] [] []
theorem YU x:ax PO Tryz.f220 Ph OT x=ui x:=by kernel_rfl
def Aq (x:List au×au×Unit):Option (Int×au×Unit):=
 bu (Int×au)
 (Int×au×Unit)
 (fun (x_1:Int×au)=>
 bif decide (x_1.1 < Int.ofNat (List.length x.1)) then
 (idx x.1 x_1.1).bind fun b=>
 (ui (b,x_1.2,())).bind
 fun b=>
 bif b.1 then some (Sum.inr (x_1.1,b.2))
 else some (Sum.inl (wrap64 (x_1.1+1),b.2.1))
 else some (Sum.inr (-1,x_1.2,())))
 big (0,x.2.1)
def Oz:Sig:=⟨Pg,OQ,Aq⟩
def PN:Env:=mkE ay 19 [(220,[Be,Am])] [] [(2,bP ⟨[⟨.slot 8,(.int .i64),.pv⟩,⟨.fld 2 0,(.int .i64),.pv⟩,⟨.fld 2 1,.str,.pv⟩,⟨.fld 2 2,.str,.pv⟩,⟨.fld 2 3,.str,.pv⟩,⟨.fld 2 4,(.int .i64),.pv⟩],[0,1,7],[.site 2,.comp 1 0]⟩)]
theorem YT x:ax PN Tryz.f223 Pg OQ x=Aq x:=by kernel_rfl
def xg (x:List au×au×Unit):Option (Bool×au×Unit):=
 (Aq x).bind fun b=>
 some (decide (0≤b.1),b.2)
def OA:Sig:=⟨Pi,OU,xg⟩
def PP:Env:=mkE ay 9 [(220,[Be,Am]),(223,[Oz])] [] []
theorem YV x:ax PP Tryz.f219 Pi OU x=xg x:=by kernel_rfl
def uF (x:List au×Unit):Option (Bool×Unit):=
 bu (Int×Unit) (Bool×Unit)
 (fun (x_1:Int×Unit)=>
 bif decide (x_1.1 < Int.ofNat (List.length x.1)) then
 (idx x.1 x_1.1).bind fun b=>
 (xP (b,())).bind fun b_1=>
 bif !b_1.1 then some (Sum.inr (false,()))
 else
 (iG x.1 0 x_1.1).bind
 fun b_2=>
 (xg (b_2,b,())).bind
 fun b=>
 bif b.1 then some (Sum.inr (false,()))
 else some (Sum.inl (wrap64 (x_1.1+1),()))
 else some (Sum.inr (decide (Int.ofNat (List.length x.1)≤4),())))
 big (0,())
def QN:Sig:=⟨UB,Sl,uF⟩
def V4:Env:=mkE ay 26 [(218,[QL]),(219,[OA]),(220,[Be,Am])] [] [(2,bP ⟨[⟨.slot 7,(.int .i64),.pv⟩],[0,5,6],[]⟩)]
theorem zab x:ax V4 Tryz.f209 UB Sl x=uF x:=by kernel_rfl
def yc (x:bi×Unit):Option (Bool×Unit):=
 bif decide (Int.ofNat (List.length x.1.2.2.2.2.2.2.2.1)≤4) then
 (xh (x.1.2.2.2.2.2.2.2.1,())).bind fun b=>
 bif !b.1 then
 (uF (x.1.2.2.2.2.2.2.2.2.1,())).bind fun b=>
 bif b.1 then
 (uF (x.1.2.2.2.2.2.2.2.2.2.1,())).bind fun b=>
 some b
 else some (false,())
 else some (false,())
 else some (false,())
def QU:Sig:=⟨UW,Tc,yc⟩
def WA:Env:=mkE ay 23 [(206,[OG]),(207,[Bg]),(209,[QN])] [] []
theorem zaw x:ax WA Tryz.f176 UW Tc x=yc x:=by kernel_rfl
def yD (x:bi×Unit):Option (Bool×Unit):=
 bif decide (x.1.1=1) then
 (uN (x.1.2.1,x.1.2.2.2.1,x.1.2.2.2.2.1,())).bind
 fun b=>some b
 else
 bif decide (x.1.1=2) then
 (F77 (x.1.2.1,x.1.2.2.1,())).bind fun b=>some b
 else
 bif decide (x.1.1=3) then (yc x).bind fun b=>some b
 else
 bif decide (x.1.1=4) then
 (ed ([x.1.2.2.2.2.2.2.1],())).bind fun b=>some b
 else
 bif decide (x.1.1=5) then
 (ed ([x.1.2.2.2.2.1],())).bind fun b=>
 bif b.1 then
 (jA (x.1.2.2.2.2.2.1,1,1000,())).bind fun b=>some b
 else some (false,())
 else
 bif decide (x.1.1=6) then
 bif decide (x.1.1=6) then
 (ed ([x.1.2.2.2.2.1],())).bind fun b=>some b
 else
 bif decide (x.1.1=9) then
 bif !decide (x.1.2.2.2.2.1=0) then
 (jA (x.1.2.2.2.2.1,-1099511627776,1099511627776,())).bind
 fun b=>some b
 else some (false,())
 else some (decide (x.1.1=8),())
 else
 bif decide (x.1.1=7) then
 (ed ([x.1.2.2.2.2.1],())).bind fun b=>some b
 else
 bif decide (x.1.1=9) then
 bif !decide (x.1.2.2.2.2.1=0) then
 (jA (x.1.2.2.2.2.1,-1099511627776,1099511627776,())).bind
 fun b=>some b
 else some (false,())
 else some (decide (x.1.1=8),())
def Rq:Sig:=⟨Vu,TY,yD⟩
def Xg:Env:=mkE ay 62 [(77,[S77]),(137,[o5]),(175,[G6]),(176,[QU]),(177,[oZ])] [] []
theorem za1 x:ax Xg Tryz.f136 Vu TY x=yD x:=by kernel_rfl
def qO (x:Int×Unit):Option (Bool×Unit):=
 bif decide (1≤x.1) then some (decide (x.1≤1099511627776),()) else some (false,())
def QK:Sig:=⟨Ut,RQ,qO⟩
def VT:Env:=mkE ay 9 [] [] []
theorem Z4 x:ax VT Tryz.f222 Ut RQ x=qO x:=by kernel_rfl
def xQ (x:Bd×Unit):Option (Bool×Unit):=
 (qO (x.1.1,())).bind fun b=>
 bif !b.1 then some (false,())
 else
 (qO (x.1.2.2.1,())).bind fun b=>
 bif !b.1 then some (false,())
 else
 bif x.1.2.2.2.2.2.2.1 then
 bif decide (x.1.2.1=0) then
 bif decide (x.1.2.2.2.1=0) then
 bif decide (x.1.2.2.2.2.2.1=0) then
 some (decide (x.1.2.2.2.2.1=[]),())
 else some (false,())
 else some (false,())
 else some (false,())
 else
 bif decide (1≤x.1.2.1) then
 bif decide (x.1.2.1≤x.1.2.2.1) then
 (qO (x.1.2.2.2.1,())).bind fun b=>
 bif b.1 then
 bif decide (Int.ofNat (List.length x.1.2.2.2.2.1)≤40) then
 bif decide (-1099511627776≤x.1.2.2.2.2.2.1) then
 some (decide (x.1.2.2.2.2.2.1≤1099511627776),())
 else some (false,())
 else some (false,())
 else some (false,())
 else some (false,())
 else some (false,())
def QM:Sig:=⟨Uy,RZ,xQ⟩
def VY:Env:=mkE ay 64 [(222,[QK])] [] []
theorem Z8 x:ax VY Tryz.f215 Uy RZ x=xQ x:=by kernel_rfl
def qP (x:List Bd×Unit):Option (Bool×Unit):=
 bu (Int×Unit) (Bool×Unit)
 (fun (x_1:Int×Unit)=>
 bif decide (x_1.1 < Int.ofNat (List.length x.1)) then
 (idx x.1 x_1.1).bind fun b=>
 (xQ (b,())).bind fun b_1=>
 bif !b_1.1 then some (Sum.inr (false,()))
 else
 bif decide (0 < x_1.1) then
 (idx x.1 (wrap64 (x_1.1 - 1))).bind
 fun b_2=>
 bif decide (b.1≤b_2.1) then some (Sum.inr (false,()))
 else
 (idx x.1 (wrap64 (x_1.1 - 1))).bind
 fun b_3=>
 bif decide (b.2.2.1≤b_3.2.2.1) then some (Sum.inr (false,()))
 else some (Sum.inl (wrap64 (x_1.1+1),()))
 else some (Sum.inl (wrap64 (x_1.1+1),()))
 else some (Sum.inr (true,())))
 big (0,())
def GX:Sig:=⟨UG,SA,qP⟩
def V9:Env:=mkE ay 42 [(215,[QM])] [] [(2,bP ⟨[⟨.slot 7,(.int .i64),.pv⟩],[0,5,6],[]⟩)]
theorem zah x:ax V9 Tryz.f193 UG SA x=qP x:=by kernel_rfl
def mG (x:Bd×Unit):Option (Bool×Unit):=
 (qP ([x.1],())).bind fun b=>some b
def Bj:Sig:=⟨UT,SS,mG⟩
def Wv:Env:=mkE ay 6 [(193,[GX])] [] []
theorem zat x:ax Wv Tryz.f180 UT SS x=mG x:=by kernel_rfl
def uX (x:bi×Unit):Option (Bool×Unit):=
 Option.bind
 (bif !decide (x.1.2.1=[]) then
 (F92 (x.1.2.1,())).bind fun b=>
 bif !b.1 then some (Sum.inr (false,()))
 else
 bif !decide (x.1.2.2.1=[]) then
 (F92 (x.1.2.2.1,())).bind fun b=>
 bif !b.1 then some (Sum.inr (false,()))
 else
 bif
 decide
 (8 <
 Int.ofNat (List.length x.1.2.2.2.2.2.2.2.2.2.2.2.2.2.2.1)) then
 some (Sum.inr (false,()))
 else some (Sum.inl ())
 else
 bif
 decide
 (8 < Int.ofNat (List.length x.1.2.2.2.2.2.2.2.2.2.2.2.2.2.2.1)) then
 some (Sum.inr (false,()))
 else some (Sum.inl ())
 else
 bif !decide (x.1.2.2.1=[]) then
 (F92 (x.1.2.2.1,())).bind fun b=>
 bif !b.1 then some (Sum.inr (false,()))
 else
 bif
 decide
 (8 < Int.ofNat (List.length x.1.2.2.2.2.2.2.2.2.2.2.2.2.2.2.1)) then
 some (Sum.inr (false,()))
 else some (Sum.inl ())
 else
 bif decide (8 < Int.ofNat (List.length x.1.2.2.2.2.2.2.2.2.2.2.2.2.2.2.1)) then
 some (Sum.inr (false,()))
 else some (Sum.inl ()))
 fun o=>
 Sum.elim
 (fun (_z:Unit)=>
 bu (Int×Unit) (Bool×Unit)
 (fun (x_1:Int×Unit)=>
 bif
 decide
 (x_1.1 <
 Int.ofNat (List.length x.1.2.2.2.2.2.2.2.2.2.2.2.2.2.2.1)) then
 (idx x.1.2.2.2.2.2.2.2.2.2.2.2.2.2.2.1 x_1.1).bind
 fun b=>
 (F92 (b.1,())).bind fun b_1=>
 bif !b_1.1 then some (Sum.inr (false,()))
 else
 (mG b.2).bind fun b_2=>
 bif !b_2.1 then some (Sum.inr (false,()))
 else
 bif b.2.1.2.2.2.2.2.2.1 then some (Sum.inr (false,()))
 else
 bif decide (0 < x_1.1) then
 Option.bind
 (idx x.1.2.2.2.2.2.2.2.2.2.2.2.2.2.2.1
 (wrap64 (x_1.1 - 1)))
 fun b_3=>
 bif !bC b_3.1 b.1 then some (Sum.inr (false,()))
 else some (Sum.inl (wrap64 (x_1.1+1),()))
 else some (Sum.inl (wrap64 (x_1.1+1),()))
 else some (Sum.inr (true,())))
 big (0,()))
 some o
def Ro:Sig:=⟨Vs,TV,uX⟩
def Xe:Env:=mkE ay 71 [(92,[S92]),(180,[Bj])] [(3,⟨[],[1],[.site 1000]++hL (.fld 1000) 0 17⟩)] [(4,bP ⟨[⟨.slot 34,(.int .i64),.pv⟩],[1,32,33],[.site 1000]++hL (.fld 1000) 0 17⟩)]
theorem zaZ x:ax Xe Tryz.f138 Vs TV x=uX x:=by kernel_rfl
def uV (x:bi×Unit):Option (Bool×Unit):=
 Option.bind
 (ed ([x.1.2.2.2.2.2.2.1,x.1.2.2.2.2.2.2.2.2.2.2.2.2.1],()))
 fun b=>
 bif !b.1 then some (false,())
 else
 bif decide (x.1.2.2.2.2.2.2.2.2.2.2.2.2.1≤x.1.2.2.2.2.2.2.1) then
 some (false,())
 else
 bif decide (64 < Int.ofNat (List.length x.1.2.2.2.2.2.2.2.2.2.2.2.2.2.2.1)) then
 some (false,())
 else
 bu (Int×Unit) (Bool×Unit)
 (fun (x_1:Int×Unit)=>
 bif
 decide
 (x_1.1 <
 Int.ofNat (List.length x.1.2.2.2.2.2.2.2.2.2.2.2.2.2.2.1)) then
 (idx x.1.2.2.2.2.2.2.2.2.2.2.2.2.2.2.1 x_1.1).bind
 fun b=>
 (F92 (b.1,())).bind fun b_1=>
 bif !b_1.1 then some (Sum.inr (false,()))
 else
 (mG b.2).bind fun b_2=>
 bif !b_2.1 then some (Sum.inr (false,()))
 else
 bif decide (b.2.1.1≤x.1.2.2.2.2.2.2.1) then
 some (Sum.inr (false,()))
 else
 bif decide (x.1.2.2.2.2.2.2.2.2.2.2.2.2.1 < b.2.1.1) then
 some (Sum.inr (false,()))
 else
 bif decide (x_1.1=0) then
 some (Sum.inl (wrap64 (x_1.1+1),()))
 else
 Option.bind
 (idx x.1.2.2.2.2.2.2.2.2.2.2.2.2.2.2.1
 (wrap64 (x_1.1 - 1)))
 fun b_3=>
 bif decide (b.2.1.1 < b_3.2.1.1) then some (Sum.inr (false,()))
 else
 bif decide (b_3.2.1.1=b.2.1.1) then
 bif !bC b_3.1 b.1 then some (Sum.inr (false,()))
 else some (Sum.inl (wrap64 (x_1.1+1),()))
 else some (Sum.inl (wrap64 (x_1.1+1),()))
 else some (Sum.inr (true,())))
 big (0,())
def Rn:Sig:=⟨Vr,TU,uV⟩
def Xd:Env:=mkE ay 92 [(92,[S92]),(137,[o5]),(180,[Bj])] [] [(4,bP ⟨[⟨.slot 29,(.int .i64),.pv⟩],[1,27,28],[.site 1000]++hL (.fld 1000) 0 17⟩)]
theorem zaY x:ax Xd Tryz.f139 Vr TU x=uV x:=by kernel_rfl
def uJ (x:af×Unit):Option (Bool×Unit):=
 (F92 (x.1.1,())).bind fun b=>
 bif !b.1 then some (true,())
 else (mG x.1.2).bind fun b=>some (!b.1,())
def Bi:Sig:=⟨UI,SC,uJ⟩
def Wh:Env:=mkE ay 13 [(92,[S92]),(180,[Bj])] [] []
theorem zaj x:ax Wh Tryz.f191 UI SC x=uJ x:=by kernel_rfl
def Aw (x:List af×Unit):Option (Int×Unit):=
 bu (Int×Unit) (Int×Unit)
 (fun (x_1:Int×Unit)=>
 bif decide (x_1.1 < Int.ofNat (List.length x.1)) then
 (idx x.1 x_1.1).bind
 fun b=>
 (uJ (b,())).bind fun b=>
 bif b.1 then some (Sum.inr x_1) else some (Sum.inl (wrap64 (x_1.1+1),()))
 else some (Sum.inr (-1,())))
 big (0,())
def F8:Sig:=⟨Pn,OX,Aw⟩
def PT:Env:=mkE ay 19 [(191,[Bi])] [] [(2,bP ⟨[⟨.slot 8,(.int .i64),.pv⟩],[0,1,7],[]⟩)]
theorem YY x:ax PT Tryz.f214 Pn OX x=Aw x:=by kernel_rfl
def xq (x:List af×Unit):Option (Bool×Unit):=
 (Aw x).bind fun b=>some (decide (0≤b.1),())
def Gg:Sig:=⟨PH,O7,xq⟩
def Qa:Env:=mkE ay 9 [(191,[Bi]),(214,[F8])] [] []
theorem Y7 x:ax Qa Tryz.f190 PH O7 x=xq x:=by kernel_rfl
def qR (x:fG×Unit):Option (Bool×Unit):=
 bif decide (x.1.1 < 0) then some (false,())
 else
 bif decide (15 < x.1.1) then some (false,())
 else
 (lw ([x.1.2.1,x.1.2.2.2.1,x.1.2.2.2.2.2.2.1],())).bind
 fun b=>
 bif !b.1 then some (false,())
 else
 bif decide (x.1.2.2.2.2.2.1 < 0) then some (false,())
 else
 bif decide (1 < x.1.2.2.2.2.2.1) then some (false,())
 else
 bif decide (8 < Int.ofNat (List.length x.1.2.2.2.2.1)) then some (false,())
 else
 (xq (x.1.2.2.2.2.1,())).bind fun b=>
 some (!b.1,())
def Ha:Sig:=⟨Va,TD,qR⟩
def WQ:Env:=mkE ay 42 [(189,[xJ]),(190,[Gg]),(191,[Bi])] [] []
theorem zaK x:ax WQ Tryz.f152 Va TD x=qR x:=by kernel_rfl
def x9 (x:List dJ×Int×Unit):Option (Bool×Unit):=
 bu (Int×Unit) (Bool×Unit)
 (fun (x_1:Int×Unit)=>
 bif decide (x_1.1 < Int.ofNat (List.length x.1)) then
 (idx x.1 x_1.1).bind
 fun b=>
 (jA (b.1,1,x.2)).bind fun b_1=>
 bif !b_1.1 then some (Sum.inr (false,()))
 else
 (ed ([b.2.1],())).bind fun b_2=>
 bif !b_2.1 then some (Sum.inr (false,()))
 else
 (qR b.2.2).bind fun b_3=>
 bif !b_3.1 then some (Sum.inr (false,()))
 else
 bif decide (0 < x_1.1) then
 (idx x.1 (wrap64 (x_1.1 - 1))).bind
 fun b_4=>
 bif decide (b.1≤b_4.1) then some (Sum.inr (false,()))
 else some (Sum.inl (wrap64 (x_1.1+1),()))
 else some (Sum.inl (wrap64 (x_1.1+1),()))
 else some (Sum.inr (true,())))
 big (0,())
def QT:Sig:=⟨UR,SQ,x9⟩
def Wu:Env:=mkE ay 48 [(137,[o5]),(152,[Ha]),(177,[oZ])] [] [(2,bP ⟨[⟨.slot 9,(.int .i64),.pv⟩],[0,1,7,8],[]⟩)]
theorem zas x:ax Wu Tryz.f181 UR SQ x=x9 x:=by kernel_rfl
def x8 (x:List aG×Unit):Option (Bool×Unit):=
 bu (Int×Unit) (Bool×Unit)
 (fun (x_1:Int×Unit)=>
 bif decide (x_1.1 < Int.ofNat (List.length x.1)) then
 (idx x.1 x_1.1).bind fun b=>
 (ed ([b.1],())).bind fun b_1=>
 bif !b_1.1 then some (Sum.inr (false,()))
 else
 (jA (b.2.1,1,1000,())).bind fun b_2=>
 bif !b_2.1 then some (Sum.inr (false,()))
 else
 (jA (b.2.2.1,0,1000,())).bind fun b_3=>
 bif !b_3.1 then some (Sum.inr (false,()))
 else
 bif decide (0 < x_1.1) then
 (idx x.1 (wrap64 (x_1.1 - 1))).bind
 fun b_4=>
 bif decide (b.1≤b_4.1) then some (Sum.inr (false,()))
 else some (Sum.inl (wrap64 (x_1.1+1),()))
 else some (Sum.inl (wrap64 (x_1.1+1),()))
 else some (Sum.inr (decide (Int.ofNat (List.length x.1)≤64),())))
 big (0,())
def QS:Sig:=⟨UQ,SN,x8⟩
def Ws:Env:=mkE ay 48 [(137,[o5]),(177,[oZ])] [] [(2,bP ⟨[⟨.slot 7,(.int .i64),.pv⟩],[0,5,6],[]⟩)]
theorem zar x:ax Ws Tryz.f182 UQ SN x=x8 x:=by kernel_rfl
def qV (x:List dJ×List aG×Unit):Option (Bool×Unit):=
 (x9 (x.1,15,())).bind fun b=>
 bif b.1 then (x8 x.2).bind fun b=>some b else some (false,())
def Hg:Sig:=⟨Vp,TS,qV⟩
def Xb:Env:=mkE ay 11 [(181,[QT]),(182,[QS])] [] []
theorem zaW x:ax Xb Tryz.f140 Vp TS x=qV x:=by kernel_rfl
def nP (x:bi×Unit):Option (Bool×Unit):=
 (yE x).bind
 fun b=>
 (pg (b.1,x)).bind fun b=>
 bif !b.1 then some (false,())
 else
 bif decide (x.1.1 < 10) then (yD x).bind fun b=>some b
 else
 (ed ([x.1.2.2.2.2.2.2.2.2.2.2.1],())).bind fun b=>
 bif !b.1 then some (false,())
 else
 bif decide (x.1.1=10) then
 (F67 (x.1.2.1,())).bind fun b=>some b
 else
 bif decide (x.1.1=11) then
 bif decide (x.1.1=11) then some (true,())
 else
 bif decide (x.1.1=12) then
 Option.bind
 (ed
 ([x.1.2.2.2.2.2.2.2.2.2.2.2.1,x.1.2.2.2.2.2.2.1],
 ()))
 fun b=>
 bif b.1 then
 (F67 (x.1.2.1,())).bind fun b=>
 bif b.1 then
 (F67 (x.1.2.2.1,())).bind fun b=>some b
 else some (false,())
 else some (false,())
 else
 bif decide (x.1.1=13) then
 (ed ([x.1.2.2.2.2.2.2.2.2.2.2.2.1],())).bind
 fun b=>
 bif b.1 then (uX x).bind fun b=>some b
 else some (false,())
 else
 bif decide (x.1.1=14) then
 (ed ([x.1.2.2.2.2.2.2.2.2.2.2.2.1],())).bind
 fun b=>
 bif b.1 then (uV x).bind fun b=>some b
 else some (false,())
 else
 bif decide (x.1.1=15) then
 Option.bind
 (ed
 ([x.1.2.2.2.2.2.2.2.2.2.2.2.1,
 x.1.2.2.2.2.2.2.1],
 ()))
 fun b=>
 bif b.1 then
 (qV x.1.2.2.2.2.2.2.2.2.2.2.2.2.2.2.2).bind
 fun b=>some b
 else some (false,())
 else some (false,())
 else
 bif decide (x.1.1=16) then some (true,())
 else
 bif decide (x.1.1=12) then
 Option.bind
 (ed
 ([x.1.2.2.2.2.2.2.2.2.2.2.2.1,x.1.2.2.2.2.2.2.1],
 ()))
 fun b=>
 bif b.1 then
 (F67 (x.1.2.1,())).bind fun b=>
 bif b.1 then
 (F67 (x.1.2.2.1,())).bind fun b=>some b
 else some (false,())
 else some (false,())
 else
 bif decide (x.1.1=13) then
 (ed ([x.1.2.2.2.2.2.2.2.2.2.2.2.1],())).bind
 fun b=>
 bif b.1 then (uX x).bind fun b=>some b
 else some (false,())
 else
 bif decide (x.1.1=14) then
 (ed ([x.1.2.2.2.2.2.2.2.2.2.2.2.1],())).bind
 fun b=>
 bif b.1 then (uV x).bind fun b=>some b
 else some (false,())
 else
 bif decide (x.1.1=15) then
 Option.bind
 (ed
 ([x.1.2.2.2.2.2.2.2.2.2.2.2.1,
 x.1.2.2.2.2.2.2.1],
 ()))
 fun b=>
 bif b.1 then
 (qV x.1.2.2.2.2.2.2.2.2.2.2.2.2.2.2.2).bind
 fun b=>some b
 else some (false,())
 else some (false,())
def Hm:Sig:=⟨VI,Ul,nP⟩
def Xu:Env:=mkE ay 81 [(67,[S67]),(134,[Bq]),(135,[Rt]),(136,[Rq]),(137,[o5]),(138,[Ro]),(139,[Rn]),(140,[Hg])] [] []
theorem zbe x:ax Xu Tryz.f102 VI Ul x=nP x:=by kernel_rfl
def yx (x:uA×Unit):Option (Bool×Unit):=
 (nP x.1.2.2).bind fun b=>
 bif !b.1 then some (false,())
 else
 (jA (x.1.1,0,31,())).bind fun b=>
 bif !b.1 then some (false,())
 else
 bif decide (x.1.1=0) then
 bif decide (x.1.2.1=0) then some (decide (8≤x.1.2.2.1.1),())
 else some (false,())
 else
 (ed ([x.1.2.1],())).bind fun b=>
 bif b.1 then some (decide (x.1.2.2.1.1 < 8),()) else some (false,())
def Q8:Sig:=⟨Vb,TE,yx⟩
def WR:Env:=mkE ay 35 [(102,[Hm]),(137,[o5]),(177,[oZ])] [] []
theorem zaL x:ax WR Tryz.f151 Vb TE x=yx x:=by kernel_rfl
def BG (x:TMD×Unit):Option (Bool×Unit):=
 (iZ (x.1.2.2.2.2.1,0,31,())).bind fun b=>
 bif decide (x.1.1=2) then
 (yx (x.1.2.2.2.1,())).bind fun b=>some b
 else
 bif decide (x.1.1=3) then
 bif b.1 then
 (F77 (x.1.2.2.2.2.2.1,x.1.2.2.2.2.2.2.1,())).bind
 fun b=>
 bif b.1 then
 (iZ (x.1.2.2.2.2.2.2.2.1,0,1099511627776,())).bind
 fun b=>
 bif b.1 then
 (iZ (x.1.2.2.2.2.2.2.2.2.1,0,8,())).bind
 fun b=>some b
 else some (false,())
 else some (false,())
 else some (false,())
 else
 bif decide (x.1.1=4) then
 bif b.1 then
 (F77 (x.1.2.2.2.2.2.1,x.1.2.2.2.2.2.2.1,())).bind
 fun b=>
 bif b.1 then
 (iZ (x.1.2.2.2.2.2.2.2.1,1,1099511627776,())).bind
 fun b=>some b
 else some (false,())
 else some (false,())
 else
 bif decide (x.1.1=5) then
 (F67 (x.1.2.2.2.2.2.1,())).bind fun b=>
 bif b.1 then
 bif decide (x.1.2.2.2.2.2.2.1=[]) then
 (iZ (x.1.2.2.2.2.2.2.2.1,1,1099511627776,())).bind
 fun b=>some b
 else
 (F92 (x.1.2.2.2.2.2.2.1,())).bind fun b=>
 bif b.1 then
 (iZ (x.1.2.2.2.2.2.2.2.1,1,1099511627776,())).bind
 fun b=>some b
 else some (false,())
 else some (false,())
 else
 bif decide (x.1.1=6) then
 (iZ (x.1.2.2.2.2.2.2.2.1,1,1099511627776,())).bind
 fun b=>some b
 else some (decide (x.1.1=7),())
def Ry:Sig:=⟨VB,Ue,BG⟩
def Xm:Env:=mkE ay 77 [(67,[S67]),(77,[S77]),(92,[S92]),(108,[xK]),(151,[Q8])] [] []
theorem za7 x:ax Xm Tryz.f109 VB Ue x=BG x:=by kernel_rfl
def uI (x:af×Unit):Option (Bool×Unit):=
 (F92 (x.1.1,())).bind fun b=>
 bif !b.1 then some (true,())
 else (qP ([x.1.2.1],())).bind fun b=>some (!b.1,())
def Bh:Sig:=⟨UH,SB,uI⟩
def We:Env:=mkE ay 14 [(92,[S92]),(193,[GX])] [] []
theorem zai x:ax We Tryz.f192 UH SB x=uI x:=by kernel_rfl
def Au (x:List af×Unit):Option (Int×Unit):=
 bu (Int×Unit) (Int×Unit)
 (fun (x_1:Int×Unit)=>
 bif decide (x_1.1 < Int.ofNat (List.length x.1)) then
 (idx x.1 x_1.1).bind
 fun b=>
 (uI (b,())).bind fun b=>
 bif b.1 then some (Sum.inr x_1) else some (Sum.inl (wrap64 (x_1.1+1),()))
 else some (Sum.inr (-1,())))
 big (0,())
def OC:Sig:=⟨Pm,OW,Au⟩
def PR:Env:=mkE ay 19 [(192,[Bh])] [] [(2,bP ⟨[⟨.slot 8,(.int .i64),.pv⟩],[0,1,7],[]⟩)]
theorem YX x:ax PR Tryz.f214 Pm OW x=Au x:=by kernel_rfl
def xn (x:List af×Unit):Option (Bool×Unit):=
 (Au x).bind fun b=>some (decide (0≤b.1),())
def OL:Sig:=⟨PG,O6,xn⟩
def P8:Env:=mkE ay 9 [(192,[Bh]),(214,[F8,OC])] [] []
theorem Y6 x:ax P8 Tryz.f190 PG O6 x=xn x:=by kernel_rfl
def o9 (x:List af×Int×Unit):Option (Bool×Unit):=
 bif decide (Int.ofNat (List.length x.1)≤x.2.1) then
 (xn (x.1,())).bind fun b=>some (!b.1,())
 else some (false,())
def G9:Sig:=⟨U8,TA,o9⟩
def WO:Env:=mkE ay 14 [(190,[Gg,OL]),(192,[Bh])] [] []
theorem zaI x:ax WO Tryz.f154 U8 TA x=o9 x:=by kernel_rfl
def yw (x:List TBD×Unit):Option (Bool×Unit):=
 bu (Int×Unit) (Bool×Unit)
 (fun (x_1:Int×Unit)=>
 bif decide (x_1.1 < Int.ofNat (List.length x.1)) then
 (idx x.1 x_1.1).bind
 fun b=>
 (iZ (b.1,1,1099511627776,())).bind fun b_1=>
 bif !b_1.1 then some (Sum.inr (false,()))
 else
 bif decide (0 < x_1.1) then
 (idx x.1 (wrap64 (x_1.1 - 1))).bind
 fun b_2=>
 bif decide (b.1≤b_2.1) then some (Sum.inr (false,()))
 else
 (o9 (b.2.1,48,())).bind fun b=>
 bif !b.1 then some (Sum.inr (false,()))
 else some (Sum.inl (wrap64 (x_1.1+1),()))
 else
 (o9 (b.2.1,48,())).bind fun b=>
 bif !b.1 then some (Sum.inr (false,()))
 else some (Sum.inl (wrap64 (x_1.1+1),()))
 else some (Sum.inr (decide (Int.ofNat (List.length x.1)≤64),())))
 big (0,())
def Q7:Sig:=⟨U9,TC,yw⟩
def WP:Env:=mkE ay 41 [(108,[xK]),(154,[G9])] [] [(2,bP ⟨[⟨.slot 7,(.int .i64),.pv⟩],[0,5,6],[]⟩)]
theorem zaJ x:ax WP Tryz.f153 U9 TC x=yw x:=by kernel_rfl
def yu (x:iV×Unit):Option (Bool×Unit):=
 bif decide (x.1.1=0) then
 bif decide (x.1.2.1=0) then
 bif decide (Int.ofNat (List.length x.1.2.2.1)=0) then
 some (decide (Int.ofNat (List.length x.1.2.2.2.1)=0),())
 else some (false,())
 else some (false,())
 else some (false,())
def Q5:Sig:=⟨U7,Tz,yu⟩
def WN:Env:=mkE ay 23 [] [] []
theorem zaH x:ax WN Tryz.f155 U7 Tz x=yu x:=by kernel_rfl
def yt (x:iV×Unit):Option (Bool×Unit):=
 (ed ([x.1.1],())).bind fun b=>
 bif b.1 then
 (lw ([x.1.2.1],())).bind fun b=>
 bif b.1 then (qV x.1.2.2).bind fun b=>some b else some (false,())
 else some (false,())
def Q4:Sig:=⟨U6,Tv,yt⟩
def WM:Env:=mkE ay 20 [(137,[o5]),(140,[Hg]),(189,[xJ])] [] []
theorem zaG x:ax WM Tryz.f156 U6 Tv x=yt x:=by kernel_rfl
def uj (x:List UInt8×Unit):Option (Bool×Unit):=
 bif decide (x.1=[]) then some (true,()) else (F67 x).bind fun b=>some b
def OJ:Sig:=⟨PE,O5,uj⟩
def P5:Env:=mkE ay 12 [(67,[S67])] [] []
theorem Y5 x:ax P5 Tryz.f194 PE O5 x=uj x:=by kernel_rfl
def xm (x:List UInt8×Unit):Option (Bool×Unit):=
 bif decide (x.1=[]) then some (true,()) else (F92 x).bind fun b=>some b
def OI:Sig:=⟨Pz,O4,xm⟩
def PZ:Env:=mkE ay 12 [(92,[S92])] [] []
theorem Y4 x:ax PZ Tryz.f194 Pz O4 x=xm x:=by kernel_rfl
def yl (x:bg×Unit):Option (Bool×Unit):=
 bif decide (0≤x.1.1) then
 bif decide (x.1.1≤4) then
 Option.bind
 (lw
 ([x.1.2.1,x.1.2.2.1,x.1.2.2.2.2.2.1,x.1.2.2.2.2.2.2.2.1,
 x.1.2.2.2.2.2.2.2.2.1,x.1.2.2.2.2.2.2.2.2.2.1],
 ()))
 fun b=>
 bif b.1 then
 (uj (x.1.2.2.2.1,())).bind fun b=>
 bif b.1 then
 (uj (x.1.2.2.2.2.1,())).bind fun b=>
 bif b.1 then
 (xm (x.1.2.2.2.2.2.2.1,())).bind fun b=>some b
 else some (false,())
 else some (false,())
 else some (false,())
 else some (false,())
 else some (false,())
def Q3:Sig:=⟨U5,Tu,yl⟩
def WL:Env:=mkE ay 46 [(67,[S67]),(92,[S92]),(189,[xJ]),(194,[OJ,OI])] [] []
theorem zaF x:ax WL Tryz.f157 U5 Tu x=yl x:=by kernel_rfl
def BF (x:TMD×Unit):Option (Bool×Unit):=
 (iZ (x.1.2.2.2.2.2.2.2.2.2.1,0,15,())).bind fun b=>
 bif !b.1 then some (false,())
 else
 bif decide (x.1.1=8) then
 bif decide (-1≤x.1.2.2.2.2.2.2.2.2.2.2.1) then
 bif decide (x.1.2.2.2.2.2.2.2.2.2.2.1 < 3) then
 (qR (x.1.2.2.2.2.2.2.2.2.2.2.2.1,())).bind
 fun b=>some b
 else some (false,())
 else some (false,())
 else
 bif decide (x.1.1=9) then
 (iZ (x.1.2.2.2.2.2.2.2.1,0,1099511627777,())).bind
 fun b=>
 bif b.1 then
 (yw (x.1.2.2.2.2.2.2.2.2.2.2.2.2.1,())).bind
 fun b=>some b
 else some (false,())
 else
 bif decide (x.1.1=10) then
 (o9 (x.1.2.2.2.2.2.2.2.2.2.2.2.2.2.1,8,())).bind
 fun b=>some b
 else
 bif decide (x.1.1=11) then
 (yu (x.1.2.2.2.2.2.2.2.2.2.2.2.2.2.2.2.1,())).bind
 fun b=>
 bif b.1 then some (true,())
 else
 (yt (x.1.2.2.2.2.2.2.2.2.2.2.2.2.2.2.2.1,())).bind
 fun b=>some b
 else
 (iZ (x.1.2.2.2.2.2.2.2.1,0,1099511627776,())).bind
 fun b=>
 bif b.1 then
 (yl x.1.2.2.2.2.2.2.2.2.2.2.2.2.2.2.2.2).bind
 fun b=>some b
 else some (false,())
def Rx:Sig:=⟨VA,Ud,BF⟩
def Xl:Env:=mkE ay 57 [(108,[xK]),(152,[Ha]),(153,[Q7]),(154,[G9]),(155,[Q5]),(156,[Q4]),(157,[Q3])] [] []
theorem za6 x:ax Xl Tryz.f110 VA Ud x=BF x:=by kernel_rfl
def F83 (x:TMD×Unit):Option (Bool×Unit):=
 bif decide (x.1.1 < 1) then some (false,())
 else
 bif decide (12 < x.1.1) then some (false,())
 else
 (BH x).bind
 fun b=>
 (yG (b.1,x)).bind fun b=>
 bif !b.1 then some (false,())
 else
 bif decide (x.1.1=1) then
 (mJ (x.1.2.2.1,())).bind fun b=>some b
 else
 (iZ (x.1.2.1,1,1099511627776,())).bind fun b=>
 bif !b.1 then some (false,())
 else
 bif decide (x.1.1 < 8) then (BG x).bind fun b=>some b
 else (BF x).bind fun b=>some b
def S83:Sig:=⟨P83,R83,F83⟩
def E83:Env:=mkE ay 39 [(105,[RF]),(106,[RD]),(107,[Rz]),(108,[xK]),(109,[Ry]),(110,[Rx])] [] []
theorem zcb x:ax E83 Tryz.f83 P83 R83 x=F83 x:=by kernel_rfl
def F94 (x:fP×Unit):Option (qF×fP×Unit):=
 (F24 x.1.2.2.2.2.2.2.2.2).bind
 fun b=>
 some
 ((x.1.1,
 wrap64 (wrap64 (4*x.1.2.1)+x.1.2.2.2.2.2.1),b),
 x)
def S94:Sig:=⟨P94,R94,F94⟩
def E94:Env:=mkE ay 23 [(24,[S24])] [] []
theorem zb3 x:ax E94 Tryz.f94 P94 R94 x=F94 x:=by kernel_rfl
def F70 (x:fP×TMD×Unit):Option (qF×Int×fP×Unit):=
 bif x.1.2.2.2.2.2.2.2.1 then
 some
 ((0,0,
 (0,0,(0,0,0,0,0,0,0,0,false,[],(0,0,[],()),()),
 (0,0,(0,[],[],[],0,0,0,[],[],[],0,0,0,false,[],[],[],()),()),0,[],[],
 0,0,0,0,(0,0,false,0,[],0,0,()),[],[],false,(0,0,[],[],()),
 (0,0,0,[],[],0,[],0,0,0,()),()),
 ()),
 7,x.1,())
 else
 (F82 (x.2.1.1,())).bind fun b=>
 bif decide (b.1=0) then
 some
 ((0,0,
 (0,0,(0,0,0,0,0,0,0,0,false,[],(0,0,[],()),()),
 (0,0,(0,[],[],[],0,0,0,[],[],[],0,0,0,false,[],[],[],()),()),0,[],
 [],0,0,0,0,(0,0,false,0,[],0,0,()),[],[],false,(0,0,[],[],()),
 (0,0,0,[],[],0,[],0,0,0,()),()),
 ()),
 1,x.1,())
 else
 Option.bind
 (F83
 ((x.2.1.1,wrap64 (x.1.2.2.2.2.1+1),x.2.1.2.2),()))
 fun b=>
 bif !b.1 then
 some
 ((0,0,
 (0,0,(0,0,0,0,0,0,0,0,false,[],(0,0,[],()),()),
 (0,0,(0,[],[],[],0,0,0,[],[],[],0,0,0,false,[],[],[],()),()),0,
 [],[],0,0,0,0,(0,0,false,0,[],0,0,()),[],[],false,
 (0,0,[],[],()),(0,0,0,[],[],0,[],0,0,0,()),()),
 ()),
 1,x.1,())
 else
 Option.bind
 (F24
 ((x.2.1.1,wrap64 (x.1.2.2.2.2.1+1),x.2.1.2.2),
 ()))
 fun b=>
 Option.bind
 (F94
 ((x.1.1,x.1.2.1,x.1.2.2.1,x.1.2.2.2.1,
 wrap64 (x.1.2.2.2.2.1+1),x.1.2.2.2.2.2.1,0,true,
 b),
 ()))
 fun b=>
 some (b.1,0,b.2)
def S70:Sig:=⟨P70,R70,F70⟩
def E70:Env:=mkE ay 50 [(24,[S24]),(82,[S82]),(83,[S83]),(94,[S94])] [] []
theorem zch x:ax E70 Tryz.f70 P70 R70 x=F70 x:=by kernel_rfl
def F71 (x:fP×Unit):Option (qF×Bool×fP×Unit):=
 bif !x.1.2.2.2.2.2.2.2.1 then
 some
 ((0,0,
 (0,0,(0,0,0,0,0,0,0,0,false,[],(0,0,[],()),()),
 (0,0,(0,[],[],[],0,0,0,[],[],[],0,0,0,false,[],[],[],()),()),0,[],[],
 0,0,0,0,(0,0,false,0,[],0,0,()),[],[],false,(0,0,[],[],()),
 (0,0,0,[],[],0,[],0,0,0,()),()),
 ()),
 false,x)
 else
 bif decide (wrap64 (x.1.2.2.2.2.2.2.1+1) < x.1.2.2.2.1) then
 some
 ((0,0,
 (0,0,(0,0,0,0,0,0,0,0,false,[],(0,0,[],()),()),
 (0,0,(0,[],[],[],0,0,0,[],[],[],0,0,0,false,[],[],[],()),()),0,[],
 [],0,0,0,0,(0,0,false,0,[],0,0,()),[],[],false,(0,0,[],[],()),
 (0,0,0,[],[],0,[],0,0,0,()),()),
 ()),
 false,
 (x.1.1,x.1.2.1,x.1.2.2.1,x.1.2.2.2.1,x.1.2.2.2.2.1,
 x.1.2.2.2.2.2.1,wrap64 (x.1.2.2.2.2.2.2.1+1),
 x.1.2.2.2.2.2.2.2),
 ())
 else
 bif decide (wrap64 (x.1.2.2.2.2.2.2.1+1)=x.1.2.2.2.1) then
 (uo (wrap64 (x.1.2.2.2.2.2.1+1)) x.1.2.2.1).bind
 fun b=>
 Option.bind
 (F94
 ((x.1.1,x.1.2.1,x.1.2.2.1,x.1.2.2.2.1,x.1.2.2.2.2.1,b,0,
 x.1.2.2.2.2.2.2.2),
 ()))
 fun b=>
 some (b.1,true,b.2)
 else
 Option.bind
 (F94
 ((x.1.1,x.1.2.1,x.1.2.2.1,x.1.2.2.2.1,x.1.2.2.2.2.1,
 x.1.2.2.2.2.2.1,0,x.1.2.2.2.2.2.2.2),
 ()))
 fun b=>
 some (b.1,true,b.2)
def S71:Sig:=⟨P71,R71,F71⟩
def E71:Env:=mkE ay 58 [(94,[S94])] [] []
theorem zcg x:ax E71 Tryz.f71 P71 R71 x=F71 x:=by kernel_rfl
def F33 (x:fP×TMD×Unit):Option (List qF×fP×Unit):=
 (F69 (x.1,())).bind
 fun b=>
 bif !b.1 then
 (F70 (b.2.1,x.2)).bind
 fun b=>
 bif decide (b.2.1=0) then some ([b.1],b.2.2) else some ([],b.2.2)
 else
 (F71 b.2).bind
 fun b=>
 bif b.2.1 then some ([b.1],b.2.2) else some ([],b.2.2)
def S33:Sig:=⟨P33,R33,F33⟩
def E33:Env:=mkE ay 30 [(69,[S69]),(70,[S70]),(71,[S71])] [] []
theorem zcG x:ax E33 Tryz.f33 P33 R33 x=F33 x:=by kernel_rfl
def F36 (x:(iU×iT×jw×Unit)×Unit):Option (Int×Unit):=
 some (wrap64 (x.1.1.1+1),())
def S36:Sig:=⟨P36,R36,F36⟩
def E36:Env:=mkE ay 9 [] [] []
theorem zcD x:ax E36 Tryz.f36 P36 R36 x=F36 x:=by kernel_rfl
def F35 (x:(iU×iT×jw×Unit)×Int×Unit):Option (List UInt8×Unit):=
 bif decide (x.2.1=1) then some (x.1.1.2.2.1,()) else some (x.1.1.2.1,())
def S35:Sig:=⟨P35,R35,F35⟩
def E35:Env:=mkE ay 17 [] [] []
theorem zcE x:ax E35 Tryz.f35 P35 R35 x=F35 x:=by kernel_rfl
def F37 (x:List UInt8×Unit):Option (List UInt8×Unit):=
 (F67 x).bind fun b=>
 bif !b.1 then some ([],())
 else
 (dY x.1 (wrap64 (Int.ofNat (List.length x.1) - 1))).bind fun b=>
 Option.bind x.1[b]? fun (b:UInt8)=>
 (dY x.1 (wrap64 (Int.ofNat (List.length x.1) - 1))).bind fun b_1=>
 Option.bind x.1[b_1]? fun (_z:UInt8)=>
 some
 (List.set x.1 b_1 (Sx.byteOf (IntKind.wrap IntKind.u8 (aU b+aU (UInt8.ofNat 1)))),
 ())
def S37:Sig:=⟨P37,R37,F37⟩
def E37:Env:=mkE ay 19 [(67,[S67])] [] []
theorem zcC x:ax E37 Tryz.f37 P37 R37 x=F37 x:=by kernel_rfl
def yF (x:List UInt8×List UInt8×Unit):Option (Bool×Unit):=
 (F67 (x.1,())).bind fun b=>
 bif b.1 then
 (F92 x.2).bind fun b=>
 bif b.1 then (F68 (x.2.1,x.1,())).bind fun b=>some b
 else some (false,())
 else some (false,())
def Ru:Sig:=⟨Vy,Ub,yF⟩
def Xj:Env:=mkE ay 16 [(67,[S67]),(68,[S68]),(92,[S92])] [] []
theorem za4 x:ax Xj Tryz.f133 Vy Ub x=yF x:=by kernel_rfl
def qW (x:List UInt8×List UInt8×List UInt8×Unit):Option (List UInt8×Bool×Unit):=
 (yF (x.1,x.2.2)).bind fun b=>
 bif !b.1 then some ([],false,())
 else
 (F67 (x.2.1,())).bind fun b=>
 bif !b.1 then some ([],false,())
 else
 (iG x.2.2.1 (Int.ofNat (List.length x.1)) ↑(List.length x.2.2.1)).bind
 fun b=>
 (dm x.2.1 b).bind fun b=>
 (F92 (b,())).bind fun b_1=>
 bif !b_1.1 then some ([],false,()) else some (b,true,())
def Bv:Sig:=⟨VJ,Um,qW⟩
def Xv:Env:=mkE ay 28 [(67,[S67]),(92,[S92]),(133,[Ru])] [] []
theorem zbf x:ax Xv Tryz.f101 VJ Um x=qW x:=by kernel_rfl
def F78 (x:List UInt8×List UInt8×List UInt8×List UInt8×Unit):Option (List UInt8×List UInt8×Bool×Unit):=
 (qW (x.1,x.2.1,x.2.2.1,())).bind fun b=>
 bif !b.2.1 then some ([],[],false,())
 else
 (F77 x.2.2).bind fun b_1=>
 bif !b_1.1 then some ([],[],false,())
 else
 bif decide (x.2.2.2.1=[]) then some (b.1,[],true,())
 else
 (F37 (x.2.1,())).bind fun b_2=>
 Option.bind
 ((F37 (x.1,())).bind fun b=>
 bif !decide (x.2.2.2.1=b.1) then
 (F68 (x.2.2.2.1,x.1,())).bind fun b=>
 bif !b.1 then some (Sum.inr ([],[],false,()))
 else
 Option.bind
 (iG x.2.2.2.1 (Int.ofNat (List.length x.1)) ↑(List.length x.2.2.2.1))
 fun b=>
 (dm x.2.1 b).bind fun b=>some (Sum.inl (b,()))
 else some (Sum.inl b_2))
 fun o=>
 Sum.elim
 (fun (x:List UInt8×Unit)=>
 (F77 (b.1,x)).bind fun b_3=>
 bif !b_3.1 then some ([],[],false,()) else some (b.1,x.1,true,()))
 some o
def S78:Sig:=⟨P78,R78,F78⟩
def E78:Env:=mkE ay 54 [(37,[S37]),(68,[S68]),(77,[S77]),(101,[Bv])] [(11,⟨[⟨.slot 13,.str,.pv⟩],[11],[]⟩)] []
theorem zce x:ax E78 Tryz.f78 P78 R78 x=F78 x:=by kernel_rfl
def uY (x:List UInt8×List UInt8×List aN×Unit):Option (List aN×Bool×Unit):=
 bu (List aN×Int×Unit)
 (List aN×Bool×Unit)
 (fun (x_1:List aN×Int×Unit)=>
 bif decide (x_1.2.1 < Int.ofNat (List.length x.2.2.1)) then
 (idx x.2.2.1 x_1.2.1).bind fun b=>
 (qW (x.1,x.2.1,b.1,())).bind fun b_1=>
 bif !b_1.2.1 then some (Sum.inr ([],false,()))
 else
 (dm x_1.1 [(b_1.1,b.2)]).bind
 fun b=>
 some (Sum.inl (b,wrap64 (x_1.2.1+1),()))
 else some (Sum.inr (x_1.1,true,())))
 big ([],0,())
def RH:Sig:=⟨VH,Uk,uY⟩
def Xt:Env:=mkE ay 37 [(101,[Bv])] [] [(3,bP ⟨[⟨.slot 8,(.slice T96),.own false⟩,⟨.slot 15,(.int .i64),.pv⟩],[0,1,13,14],[]⟩)]
theorem zbd x:ax Xt Tryz.f103 VH Uk x=uY x:=by kernel_rfl
def pq (x:List UInt8×List UInt8×List au×Unit):Option (List au×Bool×Unit):=
 bu (List au×Int×Unit)
 (List au×Bool×Unit)
 (fun (x_1:List au×Int×Unit)=>
 bif decide (x_1.2.1 < Int.ofNat (List.length x.2.2.1)) then
 (idx x.2.2.1 x_1.2.1).bind
 fun b=>
 (F78 (x.1,x.2.1,b.2.1,b.2.2.1,())).bind
 fun b_1=>
 bif !b_1.2.2.1 then some (Sum.inr ([],false,()))
 else
 (dm x_1.1 [(b.1,b_1.1,b_1.2.1,b.2.2.2)]).bind
 fun b=>
 some (Sum.inl (b,wrap64 (x_1.2.1+1),()))
 else some (Sum.inr (x_1.1,true,())))
 big ([],0,())
def RG:Sig:=⟨VG,Uj,pq⟩
def Xr:Env:=mkE ay 43 [(78,[S78])] [] [(3,bP ⟨[⟨.slot 8,(.slice T48),.own false⟩,⟨.slot 16,(.int .i64),.pv⟩],[0,1,14,15],[]⟩)]
theorem zbc x:ax Xr Tryz.f104 VG Uj x=pq x:=by kernel_rfl
def F79 (x:List UInt8×List UInt8×bi×Unit):Option (bi×Bool×Unit):=
 (nP x.2.2).bind fun b=>
 bif !b.1 then
 some ((0,[],[],[],0,0,0,[],[],[],0,0,0,false,[],[],[],()),false,())
 else
 bif decide (8≤x.2.2.1.1) then
 some ((0,[],[],[],0,0,0,[],[],[],0,0,0,false,[],[],[],()),false,())
 else
 Option.bind
 (bif decide (x.2.2.1.1=1) then
 bif decide (x.2.2.1.1=1) then
 (F78 (x.1,x.2.1,x.2.2.1.2.1,x.2.2.1.2.2.1,())).bind
 fun b=>
 some
 (Sum.inl
 (b.2.2.1,b.1,b.2.1,x.2.2.1.2.2.2.2.2.2.2.1,
 x.2.2.1.2.2.2.2.2.2.2.2.1,
 x.2.2.1.2.2.2.2.2.2.2.2.2.1,()))
 else
 bif decide (x.2.2.1.1=3) then
 (uY (x.1,x.2.1,x.2.2.1.2.2.2.2.2.2.2.1,())).bind
 fun b=>
 (pq (x.1,x.2.1,x.2.2.1.2.2.2.2.2.2.2.2.1,())).bind
 fun b_1=>
 Option.bind
 (pq (x.1,x.2.1,x.2.2.1.2.2.2.2.2.2.2.2.2.1,()))
 fun b_2=>
 bif b.2.1 then
 bif b_1.2.1 then
 some
 (Sum.inl
 (b_2.2.1,x.2.2.1.2.1,x.2.2.1.2.2.1,b.1,b_1.1,b_2.1,
 ()))
 else
 some
 (Sum.inl
 (false,x.2.2.1.2.1,x.2.2.1.2.2.1,b.1,b_1.1,b_2.1,
 ()))
 else
 some
 (Sum.inl
 (false,x.2.2.1.2.1,x.2.2.1.2.2.1,b.1,b_1.1,b_2.1,
 ()))
 else
 some
 (Sum.inl
 (true,x.2.2.1.2.1,x.2.2.1.2.2.1,
 x.2.2.1.2.2.2.2.2.2.2.1,x.2.2.1.2.2.2.2.2.2.2.2.1,
 x.2.2.1.2.2.2.2.2.2.2.2.2.1,()))
 else
 bif decide (x.2.2.1.1=2) then
 (F78 (x.1,x.2.1,x.2.2.1.2.1,x.2.2.1.2.2.1,())).bind
 fun b=>
 some
 (Sum.inl
 (b.2.2.1,b.1,b.2.1,x.2.2.1.2.2.2.2.2.2.2.1,
 x.2.2.1.2.2.2.2.2.2.2.2.1,
 x.2.2.1.2.2.2.2.2.2.2.2.2.1,()))
 else
 bif decide (x.2.2.1.1=3) then
 (uY (x.1,x.2.1,x.2.2.1.2.2.2.2.2.2.2.1,())).bind
 fun b=>
 (pq (x.1,x.2.1,x.2.2.1.2.2.2.2.2.2.2.2.1,())).bind
 fun b_1=>
 Option.bind
 (pq (x.1,x.2.1,x.2.2.1.2.2.2.2.2.2.2.2.2.1,()))
 fun b_2=>
 bif b.2.1 then
 bif b_1.2.1 then
 some
 (Sum.inl
 (b_2.2.1,x.2.2.1.2.1,x.2.2.1.2.2.1,b.1,b_1.1,b_2.1,
 ()))
 else
 some
 (Sum.inl
 (false,x.2.2.1.2.1,x.2.2.1.2.2.1,b.1,b_1.1,b_2.1,
 ()))
 else
 some
 (Sum.inl
 (false,x.2.2.1.2.1,x.2.2.1.2.2.1,b.1,b_1.1,b_2.1,
 ()))
 else
 some
 (Sum.inl
 (true,x.2.2.1.2.1,x.2.2.1.2.2.1,
 x.2.2.1.2.2.2.2.2.2.2.1,x.2.2.1.2.2.2.2.2.2.2.2.1,
 x.2.2.1.2.2.2.2.2.2.2.2.2.1,())))
 fun o=>
 Sum.elim
 (fun (x_1 :
 Bool×List UInt8×List UInt8×List aN×List au×List au×Unit)=>
 bif !x_1.1 then
 some ((0,[],[],[],0,0,0,[],[],[],0,0,0,false,[],[],[],()),false,())
 else
 Option.bind
 (nP
 ((x.2.2.1.1,x_1.2.1,x_1.2.2.1,x.2.2.1.2.2.2.1,
 x.2.2.1.2.2.2.2.1,x.2.2.1.2.2.2.2.2.1,
 x.2.2.1.2.2.2.2.2.2.1,x_1.2.2.2.1,x_1.2.2.2.2.1,
 x_1.2.2.2.2.2.1,x.2.2.1.2.2.2.2.2.2.2.2.2.2),
 ()))
 fun b=>
 bif !b.1 then
 some
 ((0,[],[],[],0,0,0,[],[],[],0,0,0,false,[],[],[],()),false,())
 else
 some
 ((x.2.2.1.1,x_1.2.1,x_1.2.2.1,x.2.2.1.2.2.2.1,
 x.2.2.1.2.2.2.2.1,x.2.2.1.2.2.2.2.2.1,
 x.2.2.1.2.2.2.2.2.2.1,x_1.2.2.2.1,x_1.2.2.2.2.1,
 x_1.2.2.2.2.2.1,x.2.2.1.2.2.2.2.2.2.2.2.2.2),
 true,()))
 some o
def S79:Sig:=⟨P79,R79,F79⟩
def E79:Env:=mkE ay 83 [(78,[S78]),(102,[Hm]),(103,[RH]),(104,[RG])] [(14,⟨[⟨.slot 8,.bool,.pv⟩,⟨.fld 1000 1,.str,.pv⟩,⟨.fld 1000 2,.str,.pv⟩,⟨.fld 1000 7,(.slice T96),.pv⟩,⟨.fld 1000 8,(.slice T48),.pv⟩,⟨.fld 1000 9,(.slice T48),.pv⟩],[5,6],[.site 2000]++hL (.fld 2000) 0 17++[.site 1000,.fld 1000 0]++hL (.fld 1000) 3 4++hL (.fld 1000) 10 7⟩)] []
theorem zcd x:ax E79 Tryz.f79 P79 R79 x=F79 x:=by kernel_rfl
def F43 (x:(iU×iT×jw×Unit)×jw×Int×Unit):Option (jw×Bool×Unit):=
 (F35 (x.1,x.2.2)).bind fun b=>
 bif x.2.1.1 then
 (F78 (x.1.1.2.1,b.1,x.2.1.2.2.1,x.2.1.2.2.2.1,())).bind
 fun b=>
 some ((x.2.1.1,x.2.1.2.1,b.1,b.2.1,x.2.1.2.2.2.2),b.2.2)
 else
 (F79 (x.1.1.2.1,b.1,x.2.1.2.1,())).bind
 fun b=>
 some ((x.2.1.1,b.1,x.2.1.2.2),b.2)
def S43:Sig:=⟨P43,R43,F43⟩
def E43:Env:=mkE ay 47 [(35,[S35]),(78,[S78]),(79,[S79])] [] []
theorem zcA x:ax E43 Tryz.f43 P43 R43 x=F43 x:=by kernel_rfl
def F34 (x:(iU×iT×jw×Unit)×Unit):Option (TMD×Unit):=
 (F43 (x.1,x.1.2.2.1,x.1.2.1.1,())).bind
 fun b=>
 bif b.1.1 then
 (F36 x).bind fun b_1=>
 some
 ((3,0,(0,0,0,0,0,0,0,0,false,[],(0,0,[],()),()),
 (0,0,(0,[],[],[],0,0,0,[],[],[],0,0,0,false,[],[],[],()),()),b_1.1,
 b.1.2.2.1,b.1.2.2.2.1,b.1.2.2.2.2.1,b.1.2.2.2.2.2.1,0,0,
 (0,0,false,0,[],0,0,()),[],[],false,(0,0,[],[],()),
 (0,0,0,[],[],0,[],0,0,0,()),()),
 ())
 else
 (F36 x).bind fun b_1=>
 some
 ((2,0,(0,0,0,0,0,0,0,0,false,[],(0,0,[],()),()),
 (b_1.1,x.1.2.1.2.2.2.1,b.1.2.1,()),0,[],[],0,0,0,0,
 (0,0,false,0,[],0,0,()),[],[],false,(0,0,[],[],()),
 (0,0,0,[],[],0,[],0,0,0,()),()),
 ())
def S34:Sig:=⟨P34,R34,F34⟩
def E34:Env:=mkE ay 43 [(36,[S36]),(43,[S43])] [] []
theorem zcF x:ax E34 Tryz.f34 P34 R34 x=F34 x:=by kernel_rfl
def F13 (x:gm×Unit):Option (List qF×gm×Unit):=
 Option.bind
 (bif x.1.2.1.2.2.1 then
 Option.bind (List.head? x.1.2.2.2.2.2.1)
 fun b=>
 Option.bind
 (F33
 (b,
 (7,0,(0,0,0,0,0,0,0,0,false,[],(0,0,[],()),()),
 (0,0,(0,[],[],[],0,0,0,[],[],[],0,0,0,false,[],[],[],()),()),0,[],
 [],0,0,0,0,(0,0,false,0,[],0,0,()),[],[],false,(0,0,[],[],()),
 (0,0,0,[],[],0,[],0,0,0,()),()),
 ()))
 fun b=>
 some (Sum.inl (b.1,[b.2.1],()))
 else
 bif x.1.2.2.2.2.2.2.2.2.2.1 then
 Option.bind (List.head? x.1.2.2.2.2.2.1)
 fun b=>
 Option.bind
 (F33
 (b,
 (7,0,(0,0,0,0,0,0,0,0,false,[],(0,0,[],()),()),
 (0,0,(0,[],[],[],0,0,0,[],[],[],0,0,0,false,[],[],[],()),()),0,
 [],[],0,0,0,0,(0,0,false,0,[],0,0,()),[],[],false,(0,0,[],[],()),
 (0,0,0,[],[],0,[],0,0,0,()),()),
 ()))
 fun b=>
 some (Sum.inl (b.1,[b.2.1],()))
 else some (Sum.inl ([],x.1.2.2.2.2.2.1,())))
 fun o=>
 Sum.elim
 (fun (x_1 :
 List (Int×Int×(Int×Int×(Int×Int×Int×Int×Int×Int×Int×Int×Bool×List aC×aC×Unit)×(Int×Int×(Int×List UInt8×List UInt8×List UInt8×Int×Int×Int×List aN×List au×List au×Int×Int×Int×Bool×List af×List (Int×Int×(Int×Int×Bool×Int×List af×ai)×Unit)×List aG×Unit)×Unit)×Int×List UInt8×List UInt8×Int×Int×Int×Int×(Int×Int×Bool×Int×List af×ai)×List (Int×List af×Unit)×List af×Bool×(Int×Int×List (Int×Int×(Int×Int×Bool×Int×List af×ai)×Unit)×List aG×Unit)×bg×Unit)×Unit)×List (Int×Int×Int×Int×Int×Int×Int×Bool×(Int×Int×(Int×Int×Int×Int×Int×Int×Int×Int×Bool×List aC×aC×Unit)×(Int×Int×(Int×List UInt8×List UInt8×List UInt8×Int×Int×Int×List aN×List au×List au×Int×Int×Int×Bool×List af×List (Int×Int×(Int×Int×Bool×Int×List af×ai)×Unit)×List aG×Unit)×Unit)×Int×List UInt8×List UInt8×Int×Int×Int×Int×(Int×Int×Bool×Int×List af×ai)×List (Int×List af×Unit)×List af×Bool×(Int×Int×List (Int×Int×(Int×Int×Bool×Int×List af×ai)×Unit)×List aG×Unit)×bg×Unit)×Unit)×Unit)=>
 Option.bind
 (bif x.1.2.1.2.1 then
 bif !x.1.2.1.2.2.1 then
 bif decide (x.1.2.1.1=Int.ofNat 0) then
 (F34 ((x.1.1,x.1.2.1,x.1.2.2.1,()),())).bind
 fun b=>
 Option.bind (List.head? x.1.2.2.2.1)
 fun b_1=>
 (F33 (b_1,b)).bind
 fun b=>
 (dm x_1.1 b.1).bind
 fun b_2=>
 some (Sum.inl (b_2,[b.2.1],x.1.2.2.2.2.1,()))
 else
 bif decide (x.1.2.1.1=Int.ofNat (0+1)) then
 (F34 ((x.1.1,x.1.2.1,x.1.2.2.1,()),())).bind
 fun b=>
 Option.bind (List.head? x.1.2.2.2.2.1)
 fun b_1=>
 (F33 (b_1,b)).bind
 fun b=>
 (dm x_1.1 b.1).bind
 fun b_2=>
 some (Sum.inl (b_2,x.1.2.2.2.1,[b.2.1],()))
 else none
 else some (Sum.inl (x_1.1,x.1.2.2.2.1,x.1.2.2.2.2.1,()))
 else some (Sum.inl (x_1.1,x.1.2.2.2.1,x.1.2.2.2.2.1,())))
 fun o=>
 Sum.elim
 (fun (x_2 :
 List (Int×Int×(Int×Int×(Int×Int×Int×Int×Int×Int×Int×Int×Bool×List aC×aC×Unit)×(Int×Int×(Int×List UInt8×List UInt8×List UInt8×Int×Int×Int×List aN×List au×List au×Int×Int×Int×Bool×List af×List (Int×Int×(Int×Int×Bool×Int×List af×ai)×Unit)×List aG×Unit)×Unit)×Int×List UInt8×List UInt8×Int×Int×Int×Int×(Int×Int×Bool×Int×List af×ai)×List (Int×List af×Unit)×List af×Bool×(Int×Int×List (Int×Int×(Int×Int×Bool×Int×List af×ai)×Unit)×List aG×Unit)×bg×Unit)×Unit)×List (Int×Int×Int×Int×Int×Int×Int×Bool×(Int×Int×(Int×Int×Int×Int×Int×Int×Int×Int×Bool×List aC×aC×Unit)×(Int×Int×(Int×List UInt8×List UInt8×List UInt8×Int×Int×Int×List aN×List au×List au×Int×Int×Int×Bool×List af×List (Int×Int×(Int×Int×Bool×Int×List af×ai)×Unit)×List aG×Unit)×Unit)×Int×List UInt8×List UInt8×Int×Int×Int×Int×(Int×Int×Bool×Int×List af×ai)×List (Int×List af×Unit)×List af×Bool×(Int×Int×List (Int×Int×(Int×Int×Bool×Int×List af×ai)×Unit)×List aG×Unit)×bg×Unit)×Unit)×List (Int×Int×Int×Int×Int×Int×Int×Bool×(Int×Int×(Int×Int×Int×Int×Int×Int×Int×Int×Bool×List aC×aC×Unit)×(Int×Int×(Int×List UInt8×List UInt8×List UInt8×Int×Int×Int×List aN×List au×List au×Int×Int×Int×Bool×List af×List (Int×Int×(Int×Int×Bool×Int×List af×ai)×Unit)×List aG×Unit)×Unit)×Int×List UInt8×List UInt8×Int×Int×Int×Int×(Int×Int×Bool×Int×List af×ai)×List (Int×List af×Unit)×List af×Bool×(Int×Int×List (Int×Int×(Int×Int×Bool×Int×List af×ai)×Unit)×List aG×Unit)×bg×Unit)×Unit)×Unit)=>
 bif List.isEmpty x.1.2.2.2.2.2.2.2.2.1 then
 bif
 decide
 (List.length x.1.2.2.2.2.2.2.2.2.1 =
 List.length x.1.2.2.2.2.2.2.2.2.1) then
 some
 (x_2.1,
 (x.1.1,x.1.2.1,x.1.2.2.1,x_2.2.1,x_2.2.2.1,x_1.2.1,
 x.1.2.2.2.2.2.2),
 ())
 else none
 else
 Option.bind (List.head? x.1.2.2.2.2.2.2.2.2.1)
 fun _z=>
 Option.bind x.1.2.2.2.2.2.2.2.2.1[0]?
 fun (b :
 Int×List (Int×List af×Unit)×Int×Unit)=>
 bif !decide (b.2.2.1=0) then
 bif
 decide
 (List.length x.1.2.2.2.2.2.2.2.2.1 =
 List.length x.1.2.2.2.2.2.2.2.2.1) then
 some
 (x_2.1,
 (x.1.1,x.1.2.1,x.1.2.2.1,x_2.2.1,x_2.2.2.1,x_1.2.1,
 x.1.2.2.2.2.2.2),
 ())
 else none
 else
 Option.bind
 (bif decide (x.1.2.1.1=1) then
 bif
 decide
 (x.1.2.1.2.2.2.2.2.1.1 < x.1.2.1.2.2.2.2.1) then
 some (Sum.inl (1,()))
 else some (Sum.inl (0,()))
 else some (Sum.inl (0,())))
 fun o=>
 Sum.elim
 (fun (x_3:Int×Unit)=>
 (F35 ((x.1.1,x.1.2.1,x.1.2.2.1,()),x_3)).bind
 fun b=>
 bif decide (x_3.1=Int.ofNat 0) then
 Option.bind
 (F36 ((x.1.1,x.1.2.1,x.1.2.2.1,()),()))
 fun b_1=>
 (F37 b).bind fun b_2=>
 Option.bind (List.head? x.1.2.2.2.2.2.2.1)
 fun b_3=>
 Option.bind
 (F33
 (b_3,
 (4,0,
 (0,0,0,0,0,0,0,0,false,[],(0,0,[],()),()),
 (0,0,
 (0,[],[],[],0,0,0,[],[],[],0,0,0,false,[],[],[],
 ()),
 ()),
 b_1.1,b.1,b_2.1,x.1.2.1.2.2.2.2.1,0,0,0,
 (0,0,false,0,[],0,0,()),[],[],false,
 (0,0,[],[],()),(0,0,0,[],[],0,[],0,0,0,()),
 ()),
 ()))
 fun b=>
 (dm x_2.1 b.1).bind
 fun b_4=>
 bif
 decide
 (List.length x.1.2.2.2.2.2.2.2.2.1 =
 List.length x.1.2.2.2.2.2.2.2.2.1) then
 some
 (b_4,
 (x.1.1,x.1.2.1,x.1.2.2.1,x_2.2.1,
 x_2.2.2.1,x_1.2.1,[b.2.1],
 x.1.2.2.2.2.2.2.2),
 ())
 else none
 else
 bif decide (x_3.1=Int.ofNat (0+1)) then
 Option.bind
 (F36 ((x.1.1,x.1.2.1,x.1.2.2.1,()),()))
 fun b_1=>
 (F37 b).bind fun b_2=>
 Option.bind (List.head? x.1.2.2.2.2.2.2.2.1)
 fun b_3=>
 Option.bind
 (F33
 (b_3,
 (4,0,
 (0,0,0,0,0,0,0,0,false,[],(0,0,[],()),()),
 (0,0,
 (0,[],[],[],0,0,0,[],[],[],0,0,0,false,[],[],[],
 ()),
 ()),
 b_1.1,b.1,b_2.1,x.1.2.1.2.2.2.2.1,0,0,0,
 (0,0,false,0,[],0,0,()),[],[],false,
 (0,0,[],[],()),
 (0,0,0,[],[],0,[],0,0,0,()),()),
 ()))
 fun b=>
 (dm x_2.1 b.1).bind
 fun b_4=>
 bif
 decide
 (List.length x.1.2.2.2.2.2.2.2.2.1 =
 List.length x.1.2.2.2.2.2.2.2.2.1) then
 some
 (b_4,
 (x.1.1,x.1.2.1,x.1.2.2.1,x_2.2.1,
 x_2.2.2.1,x_1.2.1,x.1.2.2.2.2.2.2.1,
 [b.2.1],x.1.2.2.2.2.2.2.2.2),
 ())
 else none
 else none)
 some o)
 some o)
 some o
def S13:Sig:=⟨P13,R13,F13⟩
def E13:Env:=mkE ay 112 [(33,[S33]),(34,[S34]),(35,[S35]),(36,[S36]),(37,[S37])] [(6,⟨[⟨.slot 3,(.slice jO),.own false⟩,⟨.fld 0 5,(.ptr bW),.own false⟩],[0],[.site 0]++hL (.fld 0) 0 5++hL (.fld 0) 6 4++[.row 8,.row 7,.row 6,.row 4,.row 3]⟩),(8,⟨[⟨.slot 3,(.slice jO),.own false⟩,⟨.fld 0 3,(.ptr bW),.own false⟩,⟨.fld 0 4,(.ptr bW),.own false⟩],[0],[.site 0,.fld 0 0,.fld 0 1,.fld 0 2]++hL (.fld 0) 5 5++[.row 8,.row 7,.row 6,.row 7000000006001]⟩),(13,⟨[⟨.slot 4,(.int .i64),.pv⟩],[0,3],[.row 7000000008000,.site 0]++hL (.fld 0) 0 10++[.row 8,.row 7,.row 6,.row 7000000006001,.row 7000000008002,.row 7000000008001]⟩)] []
theorem zcS x:ax E13 Tryz.f13 P13 R13 x=F13 x:=by kernel_rfl
def BC (_x:Unit):Option (List qF×Unit):=some ([],())
def Hl:Sig:=⟨Vq,TT,BC⟩
def Xc:Env:=mkE ay 112 [(33,[S33]),(34,[S34]),(35,[S35]),(36,[S36]),(37,[S37])] [] []
theorem zaX x:ax Xc Tryz.f13 Vq TT x=BC x:=by kernel_rfl
def F42 (x:(iU×iT×jw×Unit)×jw×Unit):Option (Int×Unit):=
 bif x.1.2.1.2.1 then some (7,())
 else
 Option.bind
 (bif x.2.1.1 then
 (F77 (x.2.1.2.2.1,x.2.1.2.2.2.1,())).bind fun b=>
 bif !b.1 then some (Sum.inr (1,()))
 else
 bif decide (x.2.1.2.2.2.2.1 < 0) then some (Sum.inr (1,()))
 else
 bif decide (1099511627776 < x.2.1.2.2.2.2.1) then some (Sum.inr (1,()))
 else
 bif decide (x.2.1.2.2.2.2.2.1 < 0) then some (Sum.inr (1,()))
 else
 bif decide (8 < x.2.1.2.2.2.2.2.1) then some (Sum.inr (1,()))
 else some (Sum.inl ())
 else some (Sum.inl ()))
 fun o=>
 Sum.elim
 (fun (_z:Unit)=>
 (F43 (x.1,x.2.1,0,())).bind
 fun b=>
 bif !b.2.1 then some (1,())
 else
 (F43 (x.1,x.2.1,1,())).bind
 fun b=>
 bif !b.2.1 then some (3,())
 else bif x.1.2.1.2.2.1 then some (14,()) else some (0,()))
 some o
def S42:Sig:=⟨P42,R42,F42⟩
def E42:Env:=mkE ay 65 [(43,[S43]),(77,[S77])] [(5,⟨[],[0,3],[.site 1000]++hL (.fld 1000) 0 6⟩)] []
theorem zcB x:ax E42 Tryz.f42 P42 R42 x=F42 x:=by kernel_rfl
def F15 (x:gm×jw×Unit):Option (fG×Bool×gm×Unit):=
 (F42 ((x.1.1,x.1.2.1,x.1.2.2.1,()),x.2)).bind fun b=>
 bif !decide (b.1=0) then
 bif
 decide
 (List.length x.1.2.2.2.2.2.2.2.2.1 =
 List.length x.1.2.2.2.2.2.2.2.2.1) then
 some ((b.1,0,false,0,[],0,0,()),true,x.1,())
 else none
 else
 (F43 ((x.1.1,x.1.2.1,x.1.2.2.1,()),x.2.1,0,())).bind
 fun b=>
 (F44 (b.1.2.1.2.2.2.2.2.2.2.1,())).bind
 fun b_1=>
 (F45 (b.1.2.1.2.2.2.2.2.2.2.2.1,())).bind
 fun b_2=>
 (F45 (b.1.2.1.2.2.2.2.2.2.2.2.2.1,())).bind
 fun b_3=>
 bif
 decide
 (List.length x.1.2.2.2.2.2.2.2.2.1 =
 List.length x.1.2.2.2.2.2.2.2.2.1) then
 some
 ((0,0,false,0,[],0,0,()),false,
 (x.1.1,
 (x.1.2.1.1,true,x.1.2.1.2.2.1,
 wrap64 (x.1.2.1.2.2.2.1+1),x.1.2.1.2.2.2.2),
 (b.1.1,
 (b.1.2.1.1,b.1.2.1.2.1,b.1.2.1.2.2.1,
 b.1.2.1.2.2.2.1,b.1.2.1.2.2.2.2.1,
 b.1.2.1.2.2.2.2.2.1,b.1.2.1.2.2.2.2.2.2.1,b_1.1,
 b_2.1,b_3.1,b.1.2.1.2.2.2.2.2.2.2.2.2.2),
 b.1.2.2),
 x.1.2.2.2),
 ())
 else none
def S15:Sig:=⟨P15,R15,F15⟩
def E15:Env:=mkE ay 61 [(42,[S42]),(43,[S43]),(44,[S44]),(45,[S45])] [] []
theorem zcR x:ax E15 Tryz.f15 P15 R15 x=F15 x:=by kernel_rfl
def BA (_x:jw×Unit):Option (fG×Bool×Unit):=
 some ((1,0,false,0,[],0,0,()),true,())
def G8:Sig:=⟨U4,Tt,BA⟩
def WJ:Env:=mkE ay 61 [(42,[S42]),(43,[S43]),(44,[S44]),(45,[S45])] [] []
theorem zaE x:ax WJ Tryz.f15 U4 Tt x=BA x:=by kernel_rfl
def F6 (_x:Unit):Option (Bool×Unit):=
 (F9 ((1,[97,47],[98,47],(1,1,()),()),0,())).bind
 fun b=>
 bif b.1.1 then
 bif !decide (b.2.1=0) then some (false,())
 else
 bif
 decide
 (List.length b.1.2.2.2.2.2.2.2.2.2.1 =
 List.length b.1.2.2.2.2.2.2.2.2.2.1) then
 Option.bind
 (F15
 (b.1.2,
 (false,(1,[97,47,120],[],[118],0,0,0,[],[],[],0,0,0,false,[],[],[],()),[],
 [],0,0,()),
 ()))
 fun b=>
 bif
 decide
 (List.length b.2.2.1.2.2.2.2.2.2.2.2.1 =
 List.length b.2.2.1.2.2.2.2.2.2.2.2.1) then
 (F13 b.2.2).bind
 fun b_1=>
 bif !b.2.1 then
 bif decide (Int.ofNat (List.length b_1.1)=1) then
 (dY b_1.1 0).bind fun b=>
 Option.bind b_1.1[b]?
 fun (b :
 Int×Int×(Int×Int×(Int×Int×Int×Int×Int×Int×Int×Int×Bool×List aC×aC×Unit)×(Int×Int×(Int×List UInt8×List UInt8×List UInt8×Int×Int×Int×List aN×List au×List au×Int×Int×Int×Bool×List af×List (Int×Int×(Int×Int×Bool×Int×List af×ai)×Unit)×List aG×Unit)×Unit)×Int×List UInt8×List UInt8×Int×Int×Int×Int×(Int×Int×Bool×Int×List af×ai)×List (Int×List af×Unit)×List af×Bool×(Int×Int×List (Int×Int×(Int×Int×Bool×Int×List af×ai)×Unit)×List aG×Unit)×bg×Unit)×Unit)=>
 bif decide (b.1=9) then
 (dY b_1.1 0).bind fun b=>
 Option.bind b_1.1[b]?
 fun (b :
 Int×Int×(Int×Int×(Int×Int×Int×Int×Int×Int×Int×Int×Bool×List aC×aC×Unit)×(Int×Int×(Int×List UInt8×List UInt8×List UInt8×Int×Int×Int×List aN×List au×List au×Int×Int×Int×Bool×List af×List (Int×Int×(Int×Int×Bool×Int×List af×ai)×Unit)×List aG×Unit)×Unit)×Int×List UInt8×List UInt8×Int×Int×Int×Int×(Int×Int×Bool×Int×List af×ai)×List (Int×List af×Unit)×List af×Bool×(Int×Int×List (Int×Int×(Int×Int×Bool×Int×List af×ai)×Unit)×List aG×Unit)×bg×Unit)×Unit)=>
 bif decide (b.2.1=0) then
 (dY b_1.1 0).bind fun b=>
 Option.bind b_1.1[b]?
 fun (b :
 Int×Int×(Int×Int×(Int×Int×Int×Int×Int×Int×Int×Int×Bool×List aC×aC×Unit)×(Int×Int×(Int×List UInt8×List UInt8×List UInt8×Int×Int×Int×List aN×List au×List au×Int×Int×Int×Bool×List af×List (Int×Int×(Int×Int×Bool×Int×List af×ai)×Unit)×List aG×Unit)×Unit)×Int×List UInt8×List UInt8×Int×Int×Int×Int×(Int×Int×Bool×Int×List af×ai)×List (Int×List af×Unit)×List af×Bool×(Int×Int×List (Int×Int×(Int×Int×Bool×Int×List af×ai)×Unit)×List aG×Unit)×bg×Unit)×Unit)=>
 bif decide (b.2.2.1.1=2) then
 (dY b_1.1 0).bind fun b=>
 Option.bind b_1.1[b]?
 fun (b :
 Int×Int×(Int×Int×(Int×Int×Int×Int×Int×Int×Int×Int×Bool×List aC×aC×Unit)×(Int×Int×(Int×List UInt8×List UInt8×List UInt8×Int×Int×Int×List aN×List au×List au×Int×Int×Int×Bool×List af×List (Int×Int×(Int×Int×Bool×Int×List af×ai)×Unit)×List aG×Unit)×Unit)×Int×List UInt8×List UInt8×Int×Int×Int×Int×(Int×Int×Bool×Int×List af×ai)×List (Int×List af×Unit)×List af×Bool×(Int×Int×List (Int×Int×(Int×Int×Bool×Int×List af×ai)×Unit)×List aG×Unit)×bg×Unit)×Unit)=>
 some (decide (b.2.2.1.2.2.2.1.1=2),())
 else some (false,())
 else some (false,())
 else some (false,())
 else some (false,())
 else some (false,())
 else none
 else none
 else
 bif !decide (b.2.1=0) then some (false,())
 else
 Option.bind
 (BA
 ((false,(1,[97,47,120],[],[118],0,0,0,[],[],[],0,0,0,false,[],[],[],()),[],[],
 0,0,()),
 ()))
 fun b=>
 (BC ()).bind
 fun b_1=>
 bif !b.2.1 then
 bif decide (Int.ofNat (List.length b_1.1)=1) then
 (idx b_1.1 0).bind
 fun b=>
 bif decide (b.1=9) then
 (idx b_1.1 0).bind
 fun b=>
 bif decide (b.2.1=0) then
 (idx b_1.1 0).bind
 fun b=>
 bif decide (b.2.2.1.1=2) then
 (idx b_1.1 0).bind
 fun b=>
 some (decide (b.2.2.1.2.2.2.1.1=2),())
 else some (false,())
 else some (false,())
 else some (false,())
 else some (false,())
 else some (false,())
def S6:Sig:=⟨P6,R6,F6⟩
def E6:Env:=mkE ay 61 [(9,[S9]),(13,[S13,Hl]),(15,[S15,G8])] [] []
theorem zdJ x:ax E6 Tryz.f6 P6 R6 x=F6 x:=by kernel_rfl
def F28 (x:bi×Unit):Option (Bool×Unit):=
 bif decide (10 < Int.ofNat (List.length x.1.2.2.2.2.2.2.2.1)) then some (false,())
 else
 bif decide (10 < Int.ofNat (List.length x.1.2.2.2.2.2.2.2.2.1)) then some (false,())
 else
 bif decide (10 < Int.ofNat (List.length x.1.2.2.2.2.2.2.2.2.2.1)) then
 some (false,())
 else
 bif decide (80 < Int.ofNat (List.length x.1.2.2.2.2.2.2.2.2.2.2.2.2.2.2.1)) then
 some (false,())
 else
 bif
 decide
 (20 <
 Int.ofNat (List.length x.1.2.2.2.2.2.2.2.2.2.2.2.2.2.2.2.1)) then
 some (false,())
 else
 bif
 decide
 (80 <
 Int.ofNat
 (List.length x.1.2.2.2.2.2.2.2.2.2.2.2.2.2.2.2.2.1)) then
 some (false,())
 else
 bu ai (Bool×Unit)
 (fun (x_1:ai)=>
 bif
 decide
 (x_1.2.1 <
 Int.ofNat
 (List.length x.1.2.2.2.2.2.2.2.2.2.2.2.2.2.2.1)) then
 (idx x.1.2.2.2.2.2.2.2.2.2.2.2.2.2.2.1 x_1.2.1).bind
 fun b=>
 (idx x.1.2.2.2.2.2.2.2.2.2.2.2.2.2.2.1 x_1.2.1).bind
 fun b_1=>
 some
 (Sum.inl
 (wrap64
 (wrap64 (x_1.1+Int.ofNat (List.length b.1)) +
 Int.ofNat (List.length b_1.2.1.2.2.2.2.1)),
 wrap64 (x_1.2.1+1),()))
 else
 Option.map Sum.inr
 (bu ai (Bool×Unit)
 (fun (x_2:ai)=>
 bif
 decide
 (x_2.2.1 <
 Int.ofNat
 (List.length
 x.1.2.2.2.2.2.2.2.2.2.2.2.2.2.2.2.1)) then
 Option.bind
 (idx x.1.2.2.2.2.2.2.2.2.2.2.2.2.2.2.2.1 x_2.2.1)
 fun b=>
 bif decide (12 < Int.ofNat (List.length b.2.2.1.2.2.2.2.1)) then
 some (Sum.inr (false,()))
 else
 Option.bind
 (idx x.1.2.2.2.2.2.2.2.2.2.2.2.2.2.2.2.1
 x_2.2.1)
 fun b=>
 bu ai (ai⊕Bool×Unit)
 (fun (x_3:ai)=>
 bif
 decide
 (x_3.2.1 <
 Int.ofNat (List.length b.2.2.1.2.2.2.2.1)) then
 Option.bind
 (idx x.1.2.2.2.2.2.2.2.2.2.2.2.2.2.2.2.1
 x_2.2.1)
 fun b=>
 (idx b.2.2.1.2.2.2.2.1 x_3.2.1).bind
 fun b=>
 Option.bind
 (idx x.1.2.2.2.2.2.2.2.2.2.2.2.2.2.2.2.1
 x_2.2.1)
 fun b_1=>
 (idx b_1.2.2.1.2.2.2.2.1 x_3.2.1).bind
 fun b_2=>
 some
 (Sum.inl
 (wrap64
 (wrap64
 (x_3.1+Int.ofNat (List.length b.1)) +
 Int.ofNat (List.length b_2.2.1.2.2.2.2.1)),
 wrap64 (x_3.2.1+1),()))
 else
 some
 (Sum.inr
 (Sum.inl
 (x_3.1,wrap64 (x_2.2.1+1),()))))
 big (x_2.1,0,())
 else
 Option.map Sum.inr
 (bu ai (Bool×Unit)
 (fun (x_3:ai)=>
 bif
 decide
 (x_3.2.1 <
 Int.ofNat (List.length x.1.2.2.2.2.2.2.2.2.1)) then
 (idx x.1.2.2.2.2.2.2.2.2.1 x_3.2.1).bind
 fun b=>
 (idx x.1.2.2.2.2.2.2.2.2.1 x_3.2.1).bind
 fun b_1=>
 (idx x.1.2.2.2.2.2.2.2.2.1 x_3.2.1).bind
 fun b_2=>
 some
 (Sum.inl
 (wrap64
 (wrap64
 (wrap64
 (x_3.1+Int.ofNat (List.length b.2.1)) +
 Int.ofNat (List.length b_1.2.2.1)) +
 Int.ofNat (List.length b_2.2.2.2.1)),
 wrap64 (x_3.2.1+1),()))
 else
 Option.map Sum.inr
 (bu ai (Bool×Unit)
 (fun (x_4:ai)=>
 bif
 decide
 (x_4.2.1 <
 Int.ofNat
 (List.length x.1.2.2.2.2.2.2.2.2.2.1)) then
 (idx x.1.2.2.2.2.2.2.2.2.2.1 x_4.2.1).bind
 fun b=>
 Option.bind
 (idx x.1.2.2.2.2.2.2.2.2.2.1 x_4.2.1)
 fun b_1=>
 Option.bind
 (idx x.1.2.2.2.2.2.2.2.2.2.1 x_4.2.1)
 fun b_2=>
 some
 (Sum.inl
 (wrap64
 (wrap64
 (wrap64
 (x_4.1+Int.ofNat (List.length b.2.1)) +
 Int.ofNat (List.length b_1.2.2.1)) +
 Int.ofNat (List.length b_2.2.2.2.1)),
 wrap64 (x_4.2.1+1),()))
 else
 Option.map Sum.inr
 (bu ai (Bool×Unit)
 (fun (x_5:ai)=>
 bif
 decide
 (x_5.2.1 <
 Int.ofNat
 (List.length x.1.2.2.2.2.2.2.2.1)) then
 (idx x.1.2.2.2.2.2.2.2.1 x_5.2.1).bind
 fun b=>
 Option.bind
 (idx x.1.2.2.2.2.2.2.2.1 x_5.2.1)
 fun b_1=>
 some
 (Sum.inl
 (wrap64
 (wrap64
 (x_5.1+Int.ofNat (List.length b.1)) +
 Int.ofNat (List.length b_1.2.2.2.2.1)),
 wrap64 (x_5.2.1+1),()))
 else some (Sum.inr (decide (x_5.1≤30000),())))
 big (x_4.1,0,())))
 big (x_3.1,0,())))
 big (x_2.1,0,())))
 big (x_1.1,0,())))
 big
 (wrap64
 (wrap64
 (Int.ofNat (List.length x.1.2.1)+Int.ofNat (List.length x.1.2.2.1)) +
 Int.ofNat (List.length x.1.2.2.2.1)),
 0,())
def S28:Sig:=⟨P28,R28,F28⟩
def E28:Env:=mkE ay 226 [] [] [(5,bP ⟨[⟨.slot 3,(.int .i64),.pv⟩,⟨.slot 58,(.int .i64),.pv⟩],[1,57],[.site 1000]++hL (.fld 1000) 0 17⟩),(10,bP ⟨[⟨.slot 3,(.int .i64),.pv⟩,⟨.slot 83,(.int .i64),.pv⟩],[1,82],[.site 1000]++hL (.fld 1000) 0 17⟩),(15,bP ⟨[⟨.slot 3,(.int .i64),.pv⟩,⟨.slot 103,(.int .i64),.pv⟩],[1,5,82,83,102],[.site 1000]++hL (.fld 1000) 0 17⟩),(21,bP ⟨[⟨.slot 3,(.int .i64),.pv⟩,⟨.slot 139,(.int .i64),.pv⟩],[1,138],[.site 1000]++hL (.fld 1000) 0 17⟩),(26,bP ⟨[⟨.slot 3,(.int .i64),.pv⟩,⟨.slot 171,(.int .i64),.pv⟩],[1,170],[.site 1000]++hL (.fld 1000) 0 17⟩),(31,bP ⟨[⟨.slot 3,(.int .i64),.pv⟩,⟨.slot 203,(.int .i64),.pv⟩],[1,202],[.site 1000]++hL (.fld 1000) 0 17⟩)]
theorem zcK x:ax E28 Tryz.f28 P28 R28 x=F28 x:=by kernel_rfl
def F90 (x:List aC×Int×Unit):Option (Bool×Unit):=
 bu ai (Bool×Unit)
 (fun (x_1:ai)=>
 bif decide (x_1.2.1 < Int.ofNat (List.length x.1)) then
 (idx x.1 x_1.2.1).bind fun b=>
 bif decide (x.2.1≤x_1.2.1) then some (Sum.inr (false,()))
 else
 bif decide (40000 < wrap64 (x_1.1+Int.ofNat (List.length b.2.2.1))) then
 some (Sum.inr (false,()))
 else
 some
 (Sum.inl
 (wrap64 (x_1.1+Int.ofNat (List.length b.2.2.1)),
 wrap64 (x_1.2.1+1),()))
 else some (Sum.inr (true,())))
 big (0,0,())
def S90:Sig:=⟨P90,R90,F90⟩
def E90:Env:=mkE ay 28 [] [] [(3,bP ⟨[⟨.slot 5,(.int .i64),.pv⟩,⟨.slot 9,(.int .i64),.pv⟩],[0,1,8],[]⟩)]
theorem zb6 x:ax E90 Tryz.f90 P90 R90 x=F90 x:=by kernel_rfl
def F65 (x:jP×Unit):Option (Bool×Unit):=
 (F90 (x.1.2.2.2.2.2.2.2.2.2.1,6,())).bind fun b=>
 bif b.1 then
 some
 (decide (Int.ofNat (List.length x.1.2.2.2.2.2.2.2.2.2.2.1.2.2.1)≤2000),
 ())
 else some (false,())
def S65:Sig:=⟨P65,R65,F65⟩
def E65:Env:=mkE ay 13 [(90,[S90])] [] []
theorem zcl x:ax E65 Tryz.f65 P65 R65 x=F65 x:=by kernel_rfl
def F27 (x:TMD×Unit):Option (Bool×Unit):=
 bu ai (Bool×Unit)
 (fun (x_1:ai)=>
 bif decide (x_1.2.1 < Int.ofNat (List.length x.1.2.2.2.2.2.2.2.2.2.2.2.2.1)) then
 (idx x.1.2.2.2.2.2.2.2.2.2.2.2.2.1 x_1.2.1).bind
 fun b=>
 bif
 decide
 (400 <
 wrap64
 (wrap64 (x_1.1+1)+Int.ofNat (List.length b.2.1))) then
 some (Sum.inr (false,()))
 else
 (idx x.1.2.2.2.2.2.2.2.2.2.2.2.2.1 x_1.2.1).bind
 fun b_1=>
 Option.bind
 (F28
 ((0,[],[],[],0,0,0,[],[],[],0,0,0,false,b_1.2.1,[],[],()),()))
 fun b_2=>
 bif !b_2.1 then some (Sum.inr (false,()))
 else
 some
 (Sum.inl
 (wrap64
 (wrap64 (x_1.1+1)+Int.ofNat (List.length b.2.1)),
 wrap64 (x_1.2.1+1),()))
 else
 Option.map Sum.inr
 ((F65 (x.1.2.2.1,())).bind fun b=>
 bif b.1 then
 (F28 x.1.2.2.2.1.2.2).bind fun b=>
 bif b.1 then
 Option.bind
 (F28
 ((0,[],[],[],0,0,0,[],[],[],0,0,0,false,
 x.1.2.2.2.2.2.2.2.2.2.2.2.2.2.1,[],[],()),
 ()))
 fun b=>
 bif b.1 then
 Option.bind
 (mr [(0,0,x.1.2.2.2.2.2.2.2.2.2.2.2.1,())]
 x.1.2.2.2.2.2.2.2.2.2.2.2.2.2.2.2.1.2.2.1)
 fun b=>
 Option.bind
 (F28
 ((0,[],[],[],0,0,0,[],[],[],0,0,0,false,[],b,
 x.1.2.2.2.2.2.2.2.2.2.2.2.2.2.2.2.1.2.2.2),
 ()))
 fun b=>
 bif b.1 then
 some
 (decide
 (wrap64
 (wrap64
 (wrap64
 (wrap64
 (Int.ofNat (List.length x.1.2.2.2.2.2.1) +
 Int.ofNat (List.length x.1.2.2.2.2.2.2.1)) +
 Int.ofNat
 (List.length
 x.1.2.2.2.2.2.2.2.2.2.2.2.2.2.2.2.2.1.2.2.2.1)) +
 Int.ofNat
 (List.length
 x.1.2.2.2.2.2.2.2.2.2.2.2.2.2.2.2.2.1.2.2.2.2.1)) +
 Int.ofNat
 (List.length
 x.1.2.2.2.2.2.2.2.2.2.2.2.2.2.2.2.2.1.2.2.2.2.2.2.1))≤
 500),
 ())
 else some (false,())
 else some (false,())
 else some (false,())
 else some (false,())))
 big (0,0,())
def S27:Sig:=⟨P27,R27,F27⟩
def E27:Env:=mkE ay 90 [(28,[S28]),(65,[S65])] [] [(3,bP ⟨[⟨.slot 3,(.int .i64),.pv⟩,⟨.slot 8,(.int .i64),.pv⟩],[1,7],[.site 1000]++hL (.fld 1000) 0 17⟩)]
theorem zcL x:ax E27 Tryz.f27 P27 R27 x=F27 x:=by kernel_rfl
def F7 (x:List Bc×Int×Unit):Option (Bool×Unit):=
 bu ai (Bool×Unit)
 (fun (x_1:ai)=>
 bif decide (x_1.2.1 < Int.ofNat (List.length x.1)) then
 (idx x.1 x_1.2.1).bind
 fun b=>
 bif decide (x.2.1≤x_1.2.1) then some (Sum.inr (false,()))
 else
 bif
 decide
 (300 <
 wrap64
 (x_1.1 +
 Int.ofNat
 (List.length b.2.2.2.2.1.2.2.2.2.2.2.2.2.2.2.2.2.1))) then
 some (Sum.inr (false,()))
 else
 (idx x.1 x_1.2.1).bind
 fun b_1=>
 (F27 b_1.2.2.2.2).bind fun b_2=>
 bif !b_2.1 then some (Sum.inr (false,()))
 else
 (idx x.1 x_1.2.1).bind
 fun b_3=>
 (F28 (b_3.2.1.2.1,())).bind fun b_4=>
 bif !b_4.1 then some (Sum.inr (false,()))
 else
 (idx x.1 x_1.2.1).bind
 fun b_5=>
 (idx x.1 x_1.2.1).bind
 fun b_6=>
 bif
 decide
 (300 <
 wrap64
 (Int.ofNat (List.length b_5.2.1.2.2.1) +
 Int.ofNat (List.length b_6.2.1.2.2.2.1))) then
 some (Sum.inr (false,()))
 else
 some
 (Sum.inl
 (wrap64
 (x_1.1 +
 Int.ofNat
 (List.length
 b.2.2.2.2.1.2.2.2.2.2.2.2.2.2.2.2.2.1)),
 wrap64 (x_1.2.1+1),()))
 else some (Sum.inr (true,())))
 big (0,0,())
def S7:Sig:=⟨P7,R7,F7⟩
def E7:Env:=mkE ay 66 [(27,[S27]),(28,[S28])] [] [(3,bP ⟨[⟨.slot 5,(.int .i64),.pv⟩,⟨.slot 9,(.int .i64),.pv⟩],[0,1,8],[]⟩)]
theorem zdI x:ax E7 Tryz.f7 P7 R7 x=F7 x:=by kernel_rfl
def F32 (x:fP×Unit):Option (fP×Unit):=
 some
 ((x.1.1,x.1.2.1,x.1.2.2.1,x.1.2.2.2.1,x.1.2.2.2.2.1,
 x.1.2.2.2.2.2.1,x.1.2.2.2.2.2.2.1,false,x.1.2.2.2.2.2.2.2.2),
 ())
def S32:Sig:=⟨P32,R32,F32⟩
def E32:Env:=mkE ay 7 [] [] []
theorem zcH x:ax E32 Tryz.f32 P32 R32 x=F32 x:=by kernel_rfl
def F12 (x:gm×Int×Unit):Option (Int×gm×Unit):=
 bif decide (x.2.1 < 1) then
 bif
 decide
 (List.length x.1.2.2.2.2.2.2.2.2.1 =
 List.length x.1.2.2.2.2.2.2.2.2.1) then
 some (1,x.1,())
 else none
 else
 bif decide (1099511627776 < x.2.1) then
 bif
 decide
 (List.length x.1.2.2.2.2.2.2.2.2.1 =
 List.length x.1.2.2.2.2.2.2.2.2.1) then
 some (1,x.1,())
 else none
 else none
def S12:Sig:=⟨P12,R12,F12⟩
def E12:Env:=mkE ay 41 [(32,[S32])] [] [(6,bP ⟨[⟨.slot 35,(.int .i64),.pv⟩,⟨.fld 0 6,(.ptr bW),.own false⟩,⟨.fld 0 7,(.ptr bW),.own false⟩],[34],[.site 0]++hL (.fld 0) 0 6++[.fld 0 8,.fld 0 9,.row 3007000,.row 5,.row 4,.row 3,.comp 5004000 0,.comp 5004000 1,.row 7,.row 6]⟩)]
theorem zcT x:ax E12 Tryz.f12 P12 R12 x=F12 x:=by kernel_rfl
def Hw (_x:Int×Unit):Option (Int×Unit):=some (1,())
def Rw:Sig:=⟨Vz,Uc,Hw⟩
def Xk:Env:=mkE ay 41 [(32,[S32])] [] []
theorem za5 x:ax Xk Tryz.f12 Vz Uc x=Hw x:=by kernel_rfl
def VN (x:aC×aC×Unit):Option (Bool×Unit):=
 bif decide (x.1.1=x.2.1.1) then
 bif decide (x.1.2.1=x.2.1.2.1) then
 some (decide (x.1.2.2.1=x.2.1.2.2.1),())
 else some (false,())
 else some (false,())
def qQ (x:Int×Unit):Option (Bool×Unit):=
 bif decide (0≤x.1) then some (decide (x.1≤1099511627776),()) else some (false,())
def VP (x:jP×Unit):Option (Bool×Unit):=let o:Bool→Bool→Option (Bool×Unit)→Option (Bool×Unit):=(fun (p q:Bool) (r:Option (Bool×Unit))=>bif p then r else bif q then r else some (false,()))
 (o (decide (x.1.1=1) || decide (x.1.1=3) || decide (x.1.1=5) || decide (x.1.1=6)) (decide (x.1.2.2.2.2.1=0))
 (o (decide (x.1.1=1) || decide (x.1.1=3) || decide (x.1.1=5)) (decide (x.1.2.2.2.2.2.1=0))
 (o (decide (x.1.1=5)) (decide (x.1.2.2.2.2.2.2.1=0))
 (o (decide (x.1.1=5)) (decide (Int.ofNat (List.length x.1.2.2.2.2.2.2.2.2.2.1)=0))
 (o (decide (x.1.1=5) || decide (x.1.1=6)) (decide (x.1.2.2.2.2.2.2.2.1=0))
 (o (decide (x.1.1=2) || decide (x.1.1=4) || decide (x.1.1=6)) (!x.1.2.2.2.2.2.2.2.2.1)
 (bif decide (x.1.1=7) then some (true,()) else bif decide (x.1.2.2.2.2.2.2.2.2.2.2.1.1=0) then bif decide (x.1.2.2.2.2.2.2.2.2.2.2.1.2.1=0) then some (decide (Int.ofNat (List.length x.1.2.2.2.2.2.2.2.2.2.2.1.2.2.1)=0),()) else some (false,()) else some (false,()))))))))
def uH (x:Int×Unit):Option (Bool×Unit):=
 bif decide (1≤x.1) then some (decide (x.1≤1099511627776),()) else some (false,())
def Bz (x:aC×Unit):Option (Bool×Unit):=
 (uH (x.1.1,())).bind fun b=>
 bif b.1 then
 (uH (x.1.2.1,())).bind fun b=>
 bif b.1 then some (decide (Int.ofNat (List.length x.1.2.2.1)≤12000),())
 else some (false,())
 else some (false,())
def VO (x:Int×Int×List aC×Unit):Option (Bool×Unit):=
 bu ai (Bool×Unit)
 (fun (x_1:ai)=>
 bif decide (x_1.2.1 < Int.ofNat (List.length x.2.2.1)) then
 (idx x.2.2.1 x_1.2.1).bind fun b=>
 (Bz (b,())).bind fun b=>
 bif !b.1 then some (Sum.inr (false,()))
 else
 (idx x.2.2.1 x_1.2.1).bind fun b=>
 bif decide (b.2.1 < x_1.1) then some (Sum.inr (false,()))
 else
 Option.bind
 (bif decide (x_1.2.1=0) then
 bif decide (x.1 < 0) then some (Sum.inr (Sum.inr (false,())))
 else
 bif decide (1099511627776≤x.1) then some (Sum.inr (Sum.inr (false,())))
 else
 (idx x.2.2.1 x_1.2.1).bind fun b=>
 bif !decide (b.1=wrap64 (x.1+1)) then
 some (Sum.inr (Sum.inr (false,())))
 else
 bif decide (0 < x_1.2.1) then
 (idx x.2.2.1 x_1.2.1).bind fun b=>
 (idx x.2.2.1 (wrap64 (x_1.2.1 - 1))).bind
 fun b_1=>
 bif !decide (b.1=wrap64 (b_1.1+1)) then
 some (Sum.inr (Sum.inr (false,())))
 else some (Sum.inl ())
 else some (Sum.inl ())
 else
 bif decide (0 < x_1.2.1) then
 (idx x.2.2.1 x_1.2.1).bind fun b=>
 (idx x.2.2.1 (wrap64 (x_1.2.1 - 1))).bind
 fun b_1=>
 bif !decide (b.1=wrap64 (b_1.1+1)) then
 some (Sum.inr (Sum.inr (false,())))
 else some (Sum.inl ())
 else some (Sum.inl ()))
 fun o=>
 Sum.elim
 (fun (_z:Unit)=>
 (idx x.2.2.1 x_1.2.1).bind fun b=>
 some (Sum.inl (b.2.1,wrap64 (x_1.2.1+1),())))
 some o
 else some (Sum.inr (true,())))
 big (x.2.1,0,())
def lC (x:aC×Unit):Option (Bool×Unit):=
 Option.bind
 (bif decide (x.1.1=0) then
 bif decide (x.1.2.1=0) then
 some (Sum.inr (decide (Int.ofNat (List.length x.1.2.2.1)=0),()))
 else some (Sum.inl ())
 else some (Sum.inl ()))
 fun o=>
 Sum.elim
 (fun (_z:Unit)=>
 (uH (x.1.1,())).bind fun b=>
 bif b.1 then
 (uH (x.1.2.1,())).bind fun b=>
 bif b.1 then some (decide (Int.ofNat (List.length x.1.2.2.1)≤50000),())
 else some (false,())
 else some (false,()))
 some o
def BD (x:jP×Unit):Option (Bool×Unit):=
 bif decide (x.1.1 < 1) then some (false,())
 else
 bif decide (7 < x.1.1) then some (false,())
 else
 bif decide (x.1.2.1 < 0) then some (false,())
 else
 bif decide (2 < x.1.2.1) then some (false,())
 else
 bif decide (x.1.2.2.1 < 0) then some (false,())
 else
 bif decide (2 < x.1.2.2.1) then some (false,())
 else
 bif decide (x.1.2.1=x.1.2.2.1) then some (false,())
 else
 bif decide (x.1.2.2.2.1 < 1) then some (false,())
 else
 (qQ (x.1.2.2.2.1,())).bind fun b=>
 bif !b.1 then some (false,())
 else
 (qQ (x.1.2.2.2.2.1,())).bind fun b=>
 bif !b.1 then some (false,())
 else
 (qQ (x.1.2.2.2.2.2.1,())).bind fun b=>
 bif !b.1 then some (false,())
 else
 (qQ (x.1.2.2.2.2.2.2.1,())).bind
 fun b=>
 bif !b.1 then some (false,())
 else
 (qQ (x.1.2.2.2.2.2.2.2.1,())).bind
 fun b=>
 bif !b.1 then some (false,())
 else
 (VP x).bind fun b=>
 bif !b.1 then some (false,())
 else
 bif
 decide
 (4 <
 Int.ofNat
 (List.length x.1.2.2.2.2.2.2.2.2.2.1)) then
 some (false,())
 else
 Option.bind
 (VO
 (x.1.2.2.2.2.1,x.1.2.2.2.2.2.1,
 x.1.2.2.2.2.2.2.2.2.2.1,()))
 fun b=>
 bif !b.1 then some (false,())
 else
 bu (Int×Unit) (Bool×Unit)
 (fun (x_1:Int×Unit)=>
 bif
 decide
 (x_1.1 <
 Int.ofNat
 (List.length
 x.1.2.2.2.2.2.2.2.2.2.1)) then
 Option.bind
 (idx x.1.2.2.2.2.2.2.2.2.2.1 x_1.1)
 fun b=>
 bif decide (x.1.2.2.2.1 < b.2.1) then
 some (Sum.inr (false,()))
 else
 some
 (Sum.inl
 (wrap64 (x_1.1+1),()))
 else
 Option.map Sum.inr
 (bif !decide (x.1.1=7) then some (true,())
 else
 Option.bind
 (lC x.1.2.2.2.2.2.2.2.2.2.2)
 fun b=>
 bif b.1 then
 some
 (decide
 (0 <
 x.1.2.2.2.2.2.2.2.2.2.2.1.1),
 ())
 else some (false,())))
 big (0,())
def F48 (x:fP×Int×TMD×Unit):Option (TMD×Bool×fP×Unit):=
 bif !x.1.2.2.2.2.2.2.2.1 then
 some
 ((0,0,(0,0,0,0,0,0,0,0,false,[],(0,0,[],()),()),
 (0,0,(0,[],[],[],0,0,0,[],[],[],0,0,0,false,[],[],[],()),()),0,[],[],
 0,0,0,0,(0,0,false,0,[],0,0,()),[],[],false,(0,0,[],[],()),
 (0,0,0,[],[],0,[],0,0,0,()),()),
 false,x.1,())
 else
 bif decide (x.2.1 < wrap64 (4*x.1.2.1)) then
 some
 ((0,0,(0,0,0,0,0,0,0,0,false,[],(0,0,[],()),()),
 (0,0,(0,[],[],[],0,0,0,[],[],[],0,0,0,false,[],[],[],()),()),0,[],[],
 0,0,0,0,(0,0,false,0,[],0,0,()),[],[],false,(0,0,[],[],()),
 (0,0,0,[],[],0,[],0,0,0,()),()),
 false,x.1,())
 else
 bif
 decide
 (wrap64 (wrap64 (4*x.1.2.1)+x.1.2.2.1)≤
 x.2.1) then
 some
 ((0,0,(0,0,0,0,0,0,0,0,false,[],(0,0,[],()),()),
 (0,0,(0,[],[],[],0,0,0,[],[],[],0,0,0,false,[],[],[],()),()),0,[],
 [],0,0,0,0,(0,0,false,0,[],0,0,()),[],[],false,(0,0,[],[],()),
 (0,0,0,[],[],0,[],0,0,0,()),()),
 false,x.1,())
 else
 bif !decide (x.2.2.1.2.1=x.1.2.2.2.2.1) then
 some
 ((0,0,(0,0,0,0,0,0,0,0,false,[],(0,0,[],()),()),
 (0,0,(0,[],[],[],0,0,0,[],[],[],0,0,0,false,[],[],[],()),()),0,[],
 [],0,0,0,0,(0,0,false,0,[],0,0,()),[],[],false,(0,0,[],[],()),
 (0,0,0,[],[],0,[],0,0,0,()),()),
 false,x.1,())
 else
 (F82 (x.1.2.2.2.2.2.2.2.2.1.1,())).bind fun b=>
 bif !decide (x.2.2.1.1=b.1) then
 some
 ((0,0,(0,0,0,0,0,0,0,0,false,[],(0,0,[],()),()),
 (0,0,(0,[],[],[],0,0,0,[],[],[],0,0,0,false,[],[],[],()),()),0,
 [],[],0,0,0,0,(0,0,false,0,[],0,0,()),[],[],false,
 (0,0,[],[],()),(0,0,0,[],[],0,[],0,0,0,()),()),
 false,x.1,())
 else
 (F83 x.2.2).bind fun b=>
 bif !b.1 then
 some
 ((0,0,(0,0,0,0,0,0,0,0,false,[],(0,0,[],()),()),
 (0,0,(0,[],[],[],0,0,0,[],[],[],0,0,0,false,[],[],[],()),
 ()),
 0,[],[],0,0,0,0,(0,0,false,0,[],0,0,()),[],[],false,
 (0,0,[],[],()),(0,0,0,[],[],0,[],0,0,0,()),()),
 false,x.1,())
 else
 bif decide (x.2.2.1.1=8) then
 bif decide (x.2.2.1.2.2.2.2.2.2.2.2.2.1=14) then
 Option.bind
 (uo (wrap64 (x.1.2.2.2.2.2.1+1)) x.1.2.2.1)
 fun b=>
 Option.bind
 (bif decide (0≤x.2.2.1.2.2.2.2.2.2.2.2.2.2.1) then
 bif
 decide
 (x.2.2.1.2.2.2.2.2.2.2.2.2.2.1 < x.1.2.2.1) then
 some (Sum.inl (x.2.2.1.2.2.2.2.2.2.2.2.2.2.1,()))
 else some (Sum.inl (b,()))
 else some (Sum.inl (b,())))
 fun o=>
 Sum.elim
 (fun (x_1:Int×Unit)=>
 some
 ((0,0,(0,0,0,0,0,0,0,0,false,[],(0,0,[],()),()),
 (0,0,(0,[],[],[],0,0,0,[],[],[],0,0,0,false,[],[],[],()),
 ()),
 0,[],[],0,0,0,0,(0,0,false,0,[],0,0,()),[],[],false,
 (0,0,[],[],()),(0,0,0,[],[],0,[],0,0,0,()),
 ()),
 false,
 (x.1.1,x.1.2.1,x.1.2.2.1,x.1.2.2.2.1,
 x.1.2.2.2.2.1,x_1.1,x.1.2.2.2.1,
 x.1.2.2.2.2.2.2.2),
 ()))
 some o
 else
 (F24 x.2.2).bind
 fun b=>
 some
 (b.1,true,
 (x.1.1,x.1.2.1,x.1.2.2.1,x.1.2.2.2.1,
 x.1.2.2.2.2.1,x.1.2.2.2.2.2.1,
 x.1.2.2.2.2.2.2.1,false,x.1.2.2.2.2.2.2.2.2),
 ())
 else
 (F24 x.2.2).bind
 fun b=>
 some
 (b.1,true,
 (x.1.1,x.1.2.1,x.1.2.2.1,x.1.2.2.2.1,
 x.1.2.2.2.2.1,x.1.2.2.2.2.2.1,x.1.2.2.2.2.2.2.1,
 false,x.1.2.2.2.2.2.2.2.2),
 ())
def S48:Sig:=⟨P48,R48,F48⟩
def E48:Env:=mkE ay 117 [(24,[S24]),(82,[S82]),(83,[S83])] [(7,⟨[⟨.fld 0 5,(.int .i64),.pv⟩],[0,6],[.site 0]++hL (.fld 0) 0 5++[.fld 0 6,.fld 0 7,.fld 0 8,.site 2000]++hL (.fld 2000) 0 17⟩)] []
theorem zcx x:ax E48 Tryz.f48 P48 R48 x=F48 x:=by kernel_rfl
def F84 (x:List UInt8×List UInt8×List af×Unit):Option (List af×Bool×Unit):=
 bu (List af×Int×Unit)
 (List af×Bool×Unit)
 (fun (x_1:List af×Int×Unit)=>
 bif decide (x_1.2.1 < Int.ofNat (List.length x.2.2.1)) then
 (idx x.2.2.1 x_1.2.1).bind
 fun b=>
 (qW (x.1,x.2.1,b.1,())).bind fun b_1=>
 bif !b_1.2.1 then some (Sum.inr ([],false,()))
 else
 (dm x_1.1 [(b_1.1,b.2)]).bind
 fun b=>
 some (Sum.inl (b,wrap64 (x_1.2.1+1),()))
 else some (Sum.inr (x_1.1,true,())))
 big ([],0,())
def S84:Sig:=⟨P84,R84,F84⟩
def E84:Env:=mkE ay 37 [(101,[Bv])] [] [(3,bP ⟨[⟨.slot 8,(.slice T70),.own false⟩,⟨.slot 15,(.int .i64),.pv⟩],[0,1,13,14],[]⟩)]
theorem zca x:ax E84 Tryz.f84 P84 R84 x=F84 x:=by kernel_rfl
def F49 (x:gm×TMD×Unit):Option (fG×Bool×gm×Unit):=
 Option.bind
 (bif !decide (x.2.1.2.2.2.2.2.2.2.2.2.1=0) then
 some
 (Sum.inl
 (x.1.2.1,x.2.1.2.2.2.2.2.2.2.2.2.1,0,false,0,[],0,0,0,0,false,0,[],
 0,0,()))
 else
 bif decide (x.2.1.2.2.2.2.2.2.2.2.2.2.2.1.1=11) then
 Option.map Sum.inr
 (bif
 decide
 (List.length x.1.2.2.2.2.2.2.2.2.1 =
 List.length x.1.2.2.2.2.2.2.2.2.1) then
 some
 ((0,0,false,0,[],0,0,()),false,
 (x.1.1,(x.1.2.1.1,x.1.2.1.2.1,true,x.1.2.1.2.2.2),x.1.2.2),
 ())
 else none)
 else
 bif decide (x.2.1.2.2.2.2.2.2.2.2.2.2.2.1.2.2.2.2.2.1=1) then
 Option.bind
 (F84
 (x.1.1.2.2.1,x.1.1.2.1,
 x.2.1.2.2.2.2.2.2.2.2.2.2.2.1.2.2.2.2.1,()))
 fun b=>
 some
 (Sum.inl
 (x.1.2.1,x.2.1.2.2.2.2.2.2.2.2.2.2.2.1.1,
 x.2.1.2.2.2.2.2.2.2.2.2.2.2.1.2.1,
 x.2.1.2.2.2.2.2.2.2.2.2.2.2.1.2.2.1,
 x.2.1.2.2.2.2.2.2.2.2.2.2.2.1.2.2.2.1,b.1,
 x.2.1.2.2.2.2.2.2.2.2.2.2.2.1.2.2.2.2.2.1,
 x.2.1.2.2.2.2.2.2.2.2.2.2.2.1.2.2.2.2.2.2.1,0,0,false,0,
 [],0,0,()))
 else
 some
 (Sum.inl
 (x.1.2.1,x.2.1.2.2.2.2.2.2.2.2.2.2.2.1.1,
 x.2.1.2.2.2.2.2.2.2.2.2.2.2.1.2.1,
 x.2.1.2.2.2.2.2.2.2.2.2.2.2.1.2.2.1,
 x.2.1.2.2.2.2.2.2.2.2.2.2.2.1.2.2.2.1,
 x.2.1.2.2.2.2.2.2.2.2.2.2.2.1.2.2.2.2.1,
 x.2.1.2.2.2.2.2.2.2.2.2.2.2.1.2.2.2.2.2.1,
 x.2.1.2.2.2.2.2.2.2.2.2.2.2.1.2.2.2.2.2.2.1,0,0,false,0,
 [],0,0,())))
 fun o=>
 Sum.elim
 (fun (x_1 :
 iT×Int×Int×Bool×Int×List af×Int×Int×Int×Int×Bool×Int×List af×ai)=>
 bif
 decide
 (List.length x.1.2.2.2.2.2.2.2.2.1 =
 List.length x.1.2.2.2.2.2.2.2.2.1) then
 some
 ((x_1.2.1,x_1.2.2.1,x_1.2.2.2.1,x_1.2.2.2.2.1,x_1.2.2.2.2.2.1,
 x_1.2.2.2.2.2.2.1,x_1.2.2.2.2.2.2.2.1,()),
 true,
 (x.1.1,(x_1.1.1,false,x_1.1.2.2),
 (false,(0,[],[],[],0,0,0,[],[],[],0,0,0,false,[],[],[],()),[],[],0,0,
 ()),
 x.1.2.2.2),
 ())
 else none)
 some o
def S49:Sig:=⟨P49,R49,F49⟩
def E49:Env:=mkE ay 55 [(84,[S84])] [(9,⟨[⟨.fld 0 1,Y98,.pv⟩,⟨.fld 1003000 0,(.int .i64),.pv⟩,⟨.fld 1003000 1,(.int .i64),.pv⟩,⟨.fld 1003000 2,.bool,.pv⟩,⟨.fld 1003000 3,(.int .i64),.pv⟩,⟨.fld 1003000 4,(.slice T70),.pv⟩,⟨.fld 1003000 5,(.int .i64),.pv⟩,⟨.fld 1003000 6,(.int .i64),.pv⟩,⟨.fld 2000 0,(.int .i64),.pv⟩,⟨.fld 2000 1,(.int .i64),.pv⟩,⟨.fld 2000 2,.bool,.pv⟩,⟨.fld 2000 3,(.int .i64),.pv⟩,⟨.fld 2000 4,(.slice T70),.own false⟩,⟨.fld 2000 5,(.int .i64),.pv⟩,⟨.fld 2000 6,(.int .i64),.pv⟩],[0,4,6],[.site 0,.fld 0 0]++hL (.fld 0) 2 8++[.row 8,.row 7,.row 6,.row 5,.row 4,.row 3,.site 1003000,.site 2000]⟩)] []
theorem zcw x:ax E49 Tryz.f49 P49 R49 x=F49 x:=by kernel_rfl
def F50 (x:gm×Int×TMD×Unit):Option (gm×Unit):=
 bif List.isEmpty x.1.2.2.2.2.2.2.2.2.1 then
 bif !List.isEmpty x.1.2.2.2.2.2.2.2.2.1 then
 bif decide (x.2.2.1.2.2.2.2.2.2.2.2.2.1=9) then
 Option.bind (List.head? x.1.2.2.2.2.2.2.2.2.1)
 fun _z=>
 Option.bind x.1.2.2.2.2.2.2.2.2.1[0]?
 fun (b :
 Int×List (Int×List af×Unit)×Int×Unit)=>
 bif
 decide
 (List.length x.1.2.2.2.2.2.2.2.2.1 =
 List.length
 (List.set x.1.2.2.2.2.2.2.2.2.1 0
 (b.1,b.2.1,x.2.2.1.2.2.2.2.2.2.2.2.2.1,b.2.2.2))) then
 some
 ((x.1.1,x.1.2.1,x.1.2.2.1,x.1.2.2.2.1,x.1.2.2.2.2.1,
 x.1.2.2.2.2.2.1,x.1.2.2.2.2.2.2.1,
 x.1.2.2.2.2.2.2.2.1,
 List.set x.1.2.2.2.2.2.2.2.2.1 0
 (b.1,b.2.1,x.2.2.1.2.2.2.2.2.2.2.2.2.1,b.2.2.2),
 x.1.2.2.2.2.2.2.2.2.2),
 ())
 else none
 else
 bif
 decide
 (List.length x.1.2.2.2.2.2.2.2.2.1 =
 List.length x.1.2.2.2.2.2.2.2.2.1) then
 some (x.1,())
 else none
 else
 bif
 decide
 (List.length x.1.2.2.2.2.2.2.2.2.1 =
 List.length x.1.2.2.2.2.2.2.2.2.1) then
 some (x.1,())
 else none
 else
 bif !decide (x.2.2.1.2.2.2.2.2.2.2.2.2.1=0) then
 bif !List.isEmpty x.1.2.2.2.2.2.2.2.2.1 then
 bif decide (x.2.2.1.2.2.2.2.2.2.2.2.2.1=9) then
 Option.bind (List.head? x.1.2.2.2.2.2.2.2.2.1)
 fun _z=>
 Option.bind x.1.2.2.2.2.2.2.2.2.1[0]?
 fun (b :
 Int×List (Int×List af×Unit)×Int×Unit)=>
 bif
 decide
 (List.length x.1.2.2.2.2.2.2.2.2.1 =
 List.length
 (List.set x.1.2.2.2.2.2.2.2.2.1 0
 (b.1,b.2.1,x.2.2.1.2.2.2.2.2.2.2.2.2.1,
 b.2.2.2))) then
 some
 ((x.1.1,x.1.2.1,x.1.2.2.1,x.1.2.2.2.1,x.1.2.2.2.2.1,
 x.1.2.2.2.2.2.1,x.1.2.2.2.2.2.2.1,
 x.1.2.2.2.2.2.2.2.1,
 List.set x.1.2.2.2.2.2.2.2.2.1 0
 (b.1,b.2.1,x.2.2.1.2.2.2.2.2.2.2.2.2.1,b.2.2.2),
 x.1.2.2.2.2.2.2.2.2.2),
 ())
 else none
 else
 bif
 decide
 (List.length x.1.2.2.2.2.2.2.2.2.1 =
 List.length x.1.2.2.2.2.2.2.2.2.1) then
 some (x.1,())
 else none
 else
 bif
 decide
 (List.length x.1.2.2.2.2.2.2.2.2.1 =
 List.length x.1.2.2.2.2.2.2.2.2.1) then
 some (x.1,())
 else none
 else
 bu
 (Int×(List (Int×List (Int×List af×Unit)×Int×Unit)×Int)×Unit)
 ((iU×iT×(Bool×(Int×List UInt8×List UInt8×List UInt8×Int×Int×Int×List aN×List au×List au×Int×Int×Int×Bool×List af×List (Int×Int×(Int×Int×Bool×Int×List af×ai)×Unit)×List aG×Unit)×List UInt8×List UInt8×ai)×List (Int×Int×Int×Int×Int×Int×Int×Bool×(Int×Int×(Int×Int×Int×Int×Int×Int×Int×Int×Bool×List aC×aC×Unit)×(Int×Int×(Int×List UInt8×List UInt8×List UInt8×Int×Int×Int×List aN×List au×List au×Int×Int×Int×Bool×List af×List (Int×Int×(Int×Int×Bool×Int×List af×ai)×Unit)×List aG×Unit)×Unit)×Int×List UInt8×List UInt8×Int×Int×Int×Int×(Int×Int×Bool×Int×List af×ai)×List (Int×List af×Unit)×List af×Bool×(Int×Int×List (Int×Int×(Int×Int×Bool×Int×List af×ai)×Unit)×List aG×Unit)×bg×Unit)×Unit)×List (Int×Int×Int×Int×Int×Int×Int×Bool×(Int×Int×(Int×Int×Int×Int×Int×Int×Int×Int×Bool×List aC×aC×Unit)×(Int×Int×(Int×List UInt8×List UInt8×List UInt8×Int×Int×Int×List aN×List au×List au×Int×Int×Int×Bool×List af×List (Int×Int×(Int×Int×Bool×Int×List af×ai)×Unit)×List aG×Unit)×Unit)×Int×List UInt8×List UInt8×Int×Int×Int×Int×(Int×Int×Bool×Int×List af×ai)×List (Int×List af×Unit)×List af×Bool×(Int×Int×List (Int×Int×(Int×Int×Bool×Int×List af×ai)×Unit)×List aG×Unit)×bg×Unit)×Unit)×List (Int×Int×Int×Int×Int×Int×Int×Bool×(Int×Int×(Int×Int×Int×Int×Int×Int×Int×Int×Bool×List aC×aC×Unit)×(Int×Int×(Int×List UInt8×List UInt8×List UInt8×Int×Int×Int×List aN×List au×List au×Int×Int×Int×Bool×List af×List (Int×Int×(Int×Int×Bool×Int×List af×ai)×Unit)×List aG×Unit)×Unit)×Int×List UInt8×List UInt8×Int×Int×Int×Int×(Int×Int×Bool×Int×List af×ai)×List (Int×List af×Unit)×List af×Bool×(Int×Int×List (Int×Int×(Int×Int×Bool×Int×List af×ai)×Unit)×List aG×Unit)×bg×Unit)×Unit)×List (Int×Int×Int×Int×Int×Int×Int×Bool×(Int×Int×(Int×Int×Int×Int×Int×Int×Int×Int×Bool×List aC×aC×Unit)×(Int×Int×(Int×List UInt8×List UInt8×List UInt8×Int×Int×Int×List aN×List au×List au×Int×Int×Int×Bool×List af×List (Int×Int×(Int×Int×Bool×Int×List af×ai)×Unit)×List aG×Unit)×Unit)×Int×List UInt8×List UInt8×Int×Int×Int×Int×(Int×Int×Bool×Int×List af×ai)×List (Int×List af×Unit)×List af×Bool×(Int×Int×List (Int×Int×(Int×Int×Bool×Int×List af×ai)×Unit)×List aG×Unit)×bg×Unit)×Unit)×List (Int×Int×Int×Int×Int×Int×Int×Bool×(Int×Int×(Int×Int×Int×Int×Int×Int×Int×Int×Bool×List aC×aC×Unit)×(Int×Int×(Int×List UInt8×List UInt8×List UInt8×Int×Int×Int×List aN×List au×List au×Int×Int×Int×Bool×List af×List (Int×Int×(Int×Int×Bool×Int×List af×ai)×Unit)×List aG×Unit)×Unit)×Int×List UInt8×List UInt8×Int×Int×Int×Int×(Int×Int×Bool×Int×List af×ai)×List (Int×List af×Unit)×List af×Bool×(Int×Int×List (Int×Int×(Int×Int×Bool×Int×List af×ai)×Unit)×List aG×Unit)×bg×Unit)×Unit)×List (Int×List (Int×List af×Unit)×Int×Unit)×Bool×Unit)×Unit)
 (fun (x_1 :
 Int×(List (Int×List (Int×List af×Unit)×Int×Unit)×Int)×Unit)=>
 bif
 decide
 (x_1.1 <
 Int.ofNat (List.length x.2.2.1.2.2.2.2.2.2.2.2.2.2.2.2.1)) then
 (idx x.2.2.1.2.2.2.2.2.2.2.2.2.2.2.2.1 x_1.1).bind
 fun b=>
 (F35 ((x.1.1,x.1.2.1,x.1.2.2.1,()),x.2.1,())).bind
 fun b_1=>
 (F84 (b_1.1,x.1.1.2.1,b.2)).bind
 fun b_2=>
 bif b_2.2.1 then
 bif decide (x.1.2.1.2.2.2.2.1≤b.1) then
 Option.bind (List.head? x_1.2.1.1)
 fun _z=>
 Option.bind x_1.2.1.1[0]?
 fun (b_3 :
 Int×List (Int×List af×Unit)×Int×Unit)=>
 bif decide (Int.toNat x_1.2.1.2≤0) then none
 else
 (dm b_3.2.1 [(b.1,b_2.1,())]).bind
 fun _z=>
 Option.bind (List.head? x_1.2.1.1)
 fun _z=>
 Option.bind x_1.2.1.1[0]?
 fun (_z :
 Int×List (Int×List af×Unit)×Int×Unit)=>
 none
 else
 some
 (Sum.inl
 (wrap64 (x_1.1+1),
 (x_1.2.1.1,Int.ofNat (Int.toNat x_1.2.1.2)),()))
 else
 some
 (Sum.inl
 (wrap64 (x_1.1+1),
 (x_1.2.1.1,Int.ofNat (Int.toNat x_1.2.1.2)),()))
 else
 Option.map Sum.inr
 (Option.bind
 (bif decide (x.2.1=0) then
 bif decide (x.1.2.1.1=1) then
 some
 (Sum.inl
 (xC x.2.2.1.2.2.2.2.2.2.2.1
 (wrap64 (x.1.2.1.2.2.2.2.2.1.1+1)),
 ()))
 else some (Sum.inl (x.2.2.1.2.2.2.2.2.2.2.1,()))
 else some (Sum.inl (x.2.2.1.2.2.2.2.2.2.2.1,())))
 fun o=>
 Sum.elim
 (fun (x_2:Int×Unit)=>
 bif x.1.2.2.2.2.2.2.2.2.2.1 then
 bif decide (Int.toNat x_1.2.1.2=List.length x_1.2.1.1) then
 some
 ((x.1.1,
 (x.1.2.1.1,x.1.2.1.2.1,x.1.2.1.2.2.1,
 x.1.2.1.2.2.2.1,qJ x.1.2.1.2.2.2.2.1 x_2.1,
 x.1.2.1.2.2.2.2.2),
 x.1.2.2.1,x.1.2.2.2.1,x.1.2.2.2.2.1,
 x.1.2.2.2.2.2.1,x.1.2.2.2.2.2.2.1,
 x.1.2.2.2.2.2.2.2.1,x_1.2.1.1,true,()),
 ())
 else none
 else
 bif decide (x.1.2.1.1=0) then
 bif decide (Int.toNat x_1.2.1.2=List.length x_1.2.1.1) then
 some
 ((x.1.1,
 (x.1.2.1.1,x.1.2.1.2.1,x.1.2.1.2.2.1,
 x.1.2.1.2.2.2.1,qJ x.1.2.1.2.2.2.2.1 x_2.1,
 x.1.2.1.2.2.2.2.2),
 x.1.2.2.1,x.1.2.2.2.1,x.1.2.2.2.2.1,
 x.1.2.2.2.2.2.1,x.1.2.2.2.2.2.2.1,
 x.1.2.2.2.2.2.2.2.1,x_1.2.1.1,
 decide
 (Int.ofNat
 (List.length x.2.2.1.2.2.2.2.2.2.2.2.2.2.2.2.1) =
 0),
 ()),
 ())
 else none
 else
 bif decide (Int.toNat x_1.2.1.2=List.length x_1.2.1.1) then
 some
 ((x.1.1,
 (x.1.2.1.1,x.1.2.1.2.1,x.1.2.1.2.2.1,
 x.1.2.1.2.2.2.1,qJ x.1.2.1.2.2.2.2.1 x_2.1,
 x.1.2.1.2.2.2.2.2),
 x.1.2.2.1,x.1.2.2.2.1,x.1.2.2.2.2.1,
 x.1.2.2.2.2.2.1,x.1.2.2.2.2.2.2.1,
 x.1.2.2.2.2.2.2.2.1,x_1.2.1.1,false,()),
 ())
 else none)
 some o))
 big
 (0,
 (x.1.2.2.2.2.2.2.2.2.1,
 Int.ofNat (List.length x.1.2.2.2.2.2.2.2.2.1)),
 ())
def S50:Sig:=⟨P50,R50,F50⟩
def E50:Env:=mkE ay 144 [(35,[S35]),(84,[S84])] [(14,⟨[⟨.slot 10,(.int .i64),.pv⟩],[0,5],[.site 1000]++hL (.fld 1000) 0 17++[.site 0]++hL (.fld 0) 0 10++[.row 50005001,.row 7,.row 6,.row 5,.row 4,.row 3]⟩)] [(5,bP ⟨[⟨.slot 42,(.int .i64),.pv⟩,⟨.fld 0 8,(.pair (.ptr oV) (.int .i64)),.deep⟩],[0,1,5,40,41],[.site 0]++hL (.fld 0) 0 8++[.fld 0 9,.row 7,.row 6,.row 5,.row 4,.row 3,.site 1000]++hL (.fld 1000) 0 17⟩)]
theorem zcv x:ax E50 Tryz.f50 P50 R50 x=F50 x:=by kernel_rfl
def F51 (x:gm×bg×Unit):Option (gm×Unit):=
 bif decide (x.1.2.1.1=1) then
 bif
 decide
 (List.length x.1.2.2.2.2.2.2.2.2.1 =
 List.length x.1.2.2.2.2.2.2.2.2.1) then
 some
 ((x.1.1,(x.1.2.1.1,x.1.2.1.2.1,false,x.1.2.1.2.2.2),x.1.2.2.1,
 x.1.2.2.2.1,x.1.2.2.2.2.1,x.1.2.2.2.2.2.1,
 x.1.2.2.2.2.2.2.1,x.1.2.2.2.2.2.2.2.1,
 x.1.2.2.2.2.2.2.2.2.1,false,()),
 ())
 else none
 else
 bif !decide (x.2.1.1=3) then
 bif
 decide
 (List.length x.1.2.2.2.2.2.2.2.2.1 =
 List.length x.1.2.2.2.2.2.2.2.2.1) then
 some
 ((x.1.1,(x.1.2.1.1,x.1.2.1.2.1,false,x.1.2.1.2.2.2),x.1.2.2.1,
 x.1.2.2.2.1,x.1.2.2.2.2.1,x.1.2.2.2.2.2.1,
 x.1.2.2.2.2.2.2.1,x.1.2.2.2.2.2.2.2.1,
 x.1.2.2.2.2.2.2.2.2.1,false,()),
 ())
 else none
 else
 bif !decide (x.2.1.2.2.2.1=x.1.1.2.1) then
 bif
 decide
 (List.length x.1.2.2.2.2.2.2.2.2.1 =
 List.length x.1.2.2.2.2.2.2.2.2.1) then
 some
 ((x.1.1,(x.1.2.1.1,x.1.2.1.2.1,false,x.1.2.1.2.2.2),
 x.1.2.2.1,x.1.2.2.2.1,x.1.2.2.2.2.1,x.1.2.2.2.2.2.1,
 x.1.2.2.2.2.2.2.1,x.1.2.2.2.2.2.2.2.1,
 x.1.2.2.2.2.2.2.2.2.1,false,()),
 ())
 else none
 else
 bif !decide (x.2.1.2.2.2.2.1=x.1.1.2.2.1) then
 bif
 decide
 (List.length x.1.2.2.2.2.2.2.2.2.1 =
 List.length x.1.2.2.2.2.2.2.2.2.1) then
 some
 ((x.1.1,(x.1.2.1.1,x.1.2.1.2.1,false,x.1.2.1.2.2.2),
 x.1.2.2.1,x.1.2.2.2.1,x.1.2.2.2.2.1,x.1.2.2.2.2.2.1,
 x.1.2.2.2.2.2.2.1,x.1.2.2.2.2.2.2.2.1,
 x.1.2.2.2.2.2.2.2.2.1,false,()),
 ())
 else none
 else
 Option.bind (List.head? x.1.2.2.2.1)
 fun b=>
 (F32 (b,())).bind
 fun b=>
 bif !List.isEmpty x.1.2.2.2.2.2.2.2.2.1 then
 Option.bind (List.head? x.1.2.2.2.2.2.2.2.2.1)
 fun _z=>
 Option.bind x.1.2.2.2.2.2.2.2.2.1[0]?
 fun (b_1 :
 Int×List (Int×List af×Unit)×Int×Unit)=>
 bif
 decide
 (List.length x.1.2.2.2.2.2.2.2.2.1 =
 List.length x.1.2.2.2.2.2.2.2.2.1) then
 some
 ((x.1.1,
 (1,x.1.2.1.2.1,false,x.1.2.1.2.2.2.1,
 qJ b_1.1
 (xC x.1.2.1.2.2.2.2.1
 (wrap64 (x.2.1.2.2.2.2.2.2.2.2.1+1))),
 x.2.1.2.2.2.2.2.2.2.2,x.1.2.1.2.2.2.2.2.2),
 x.1.2.2.1,[b.1],x.1.2.2.2.2.1,x.1.2.2.2.2.2.1,
 x.1.2.2.2.2.2.2.1,x.1.2.2.2.2.2.2.2.1,
 x.1.2.2.2.2.2.2.2.2.1,false,()),
 ())
 else none
 else
 bif
 decide
 (List.length x.1.2.2.2.2.2.2.2.2.1 =
 List.length x.1.2.2.2.2.2.2.2.2.1) then
 some
 ((x.1.1,
 (1,x.1.2.1.2.1,false,x.1.2.1.2.2.2.1,
 x.1.2.1.2.2.2.2.1,x.2.1.2.2.2.2.2.2.2.2,
 x.1.2.1.2.2.2.2.2.2),
 x.1.2.2.1,[b.1],x.1.2.2.2.2.1,x.1.2.2.2.2.2.1,
 x.1.2.2.2.2.2.2.1,x.1.2.2.2.2.2.2.2.1,
 x.1.2.2.2.2.2.2.2.2.1,false,()),
 ())
 else none
def S51:Sig:=⟨P51,R51,F51⟩
def E51:Env:=mkE ay 87 [(32,[S32])] [] []
theorem zcu x:ax E51 Tryz.f51 P51 R51 x=F51 x:=by kernel_rfl
def F19 (x:gm×Int×TMD×Unit):Option (fG×Bool×gm×Unit):=
 bu
 (Int×iU×iT×(Bool×(Int×List UInt8×List UInt8×List UInt8×Int×Int×Int×List aN×List au×List au×Int×Int×Int×Bool×List af×List (Int×Int×(Int×Int×Bool×Int×List af×ai)×Unit)×List aG×Unit)×List UInt8×List UInt8×ai)×List (Int×Int×Int×Int×Int×Int×Int×Bool×(Int×Int×(Int×Int×Int×Int×Int×Int×Int×Int×Bool×List aC×aC×Unit)×(Int×Int×(Int×List UInt8×List UInt8×List UInt8×Int×Int×Int×List aN×List au×List au×Int×Int×Int×Bool×List af×List (Int×Int×(Int×Int×Bool×Int×List af×ai)×Unit)×List aG×Unit)×Unit)×Int×List UInt8×List UInt8×Int×Int×Int×Int×(Int×Int×Bool×Int×List af×ai)×List (Int×List af×Unit)×List af×Bool×(Int×Int×List (Int×Int×(Int×Int×Bool×Int×List af×ai)×Unit)×List aG×Unit)×bg×Unit)×Unit)×List (Int×Int×Int×Int×Int×Int×Int×Bool×(Int×Int×(Int×Int×Int×Int×Int×Int×Int×Int×Bool×List aC×aC×Unit)×(Int×Int×(Int×List UInt8×List UInt8×List UInt8×Int×Int×Int×List aN×List au×List au×Int×Int×Int×Bool×List af×List (Int×Int×(Int×Int×Bool×Int×List af×ai)×Unit)×List aG×Unit)×Unit)×Int×List UInt8×List UInt8×Int×Int×Int×Int×(Int×Int×Bool×Int×List af×ai)×List (Int×List af×Unit)×List af×Bool×(Int×Int×List (Int×Int×(Int×Int×Bool×Int×List af×ai)×Unit)×List aG×Unit)×bg×Unit)×Unit)×List (Int×Int×Int×Int×Int×Int×Int×Bool×(Int×Int×(Int×Int×Int×Int×Int×Int×Int×Int×Bool×List aC×aC×Unit)×(Int×Int×(Int×List UInt8×List UInt8×List UInt8×Int×Int×Int×List aN×List au×List au×Int×Int×Int×Bool×List af×List (Int×Int×(Int×Int×Bool×Int×List af×ai)×Unit)×List aG×Unit)×Unit)×Int×List UInt8×List UInt8×Int×Int×Int×Int×(Int×Int×Bool×Int×List af×ai)×List (Int×List af×Unit)×List af×Bool×(Int×Int×List (Int×Int×(Int×Int×Bool×Int×List af×ai)×Unit)×List aG×Unit)×bg×Unit)×Unit)×List (Int×Int×Int×Int×Int×Int×Int×Bool×(Int×Int×(Int×Int×Int×Int×Int×Int×Int×Int×Bool×List aC×aC×Unit)×(Int×Int×(Int×List UInt8×List UInt8×List UInt8×Int×Int×Int×List aN×List au×List au×Int×Int×Int×Bool×List af×List (Int×Int×(Int×Int×Bool×Int×List af×ai)×Unit)×List aG×Unit)×Unit)×Int×List UInt8×List UInt8×Int×Int×Int×Int×(Int×Int×Bool×Int×List af×ai)×List (Int×List af×Unit)×List af×Bool×(Int×Int×List (Int×Int×(Int×Int×Bool×Int×List af×ai)×Unit)×List aG×Unit)×bg×Unit)×Unit)×List (Int×Int×Int×Int×Int×Int×Int×Bool×(Int×Int×(Int×Int×Int×Int×Int×Int×Int×Int×Bool×List aC×aC×Unit)×(Int×Int×(Int×List UInt8×List UInt8×List UInt8×Int×Int×Int×List aN×List au×List au×Int×Int×Int×Bool×List af×List (Int×Int×(Int×Int×Bool×Int×List af×ai)×Unit)×List aG×Unit)×Unit)×Int×List UInt8×List UInt8×Int×Int×Int×Int×(Int×Int×Bool×Int×List af×ai)×List (Int×List af×Unit)×List af×Bool×(Int×Int×List (Int×Int×(Int×Int×Bool×Int×List af×ai)×Unit)×List aG×Unit)×bg×Unit)×Unit)×(List (Int×List (Int×List af×Unit)×Int×Unit)×Int)×Bool×Int×Int×Bool×Int×List af×ai)
 ((Int×Int×Bool×Int×List af×ai)×Bool×(iU×iT×(Bool×(Int×List UInt8×List UInt8×List UInt8×Int×Int×Int×List aN×List au×List au×Int×Int×Int×Bool×List af×List (Int×Int×(Int×Int×Bool×Int×List af×ai)×Unit)×List aG×Unit)×List UInt8×List UInt8×ai)×List (Int×Int×Int×Int×Int×Int×Int×Bool×(Int×Int×(Int×Int×Int×Int×Int×Int×Int×Int×Bool×List aC×aC×Unit)×(Int×Int×(Int×List UInt8×List UInt8×List UInt8×Int×Int×Int×List aN×List au×List au×Int×Int×Int×Bool×List af×List (Int×Int×(Int×Int×Bool×Int×List af×ai)×Unit)×List aG×Unit)×Unit)×Int×List UInt8×List UInt8×Int×Int×Int×Int×(Int×Int×Bool×Int×List af×ai)×List (Int×List af×Unit)×List af×Bool×(Int×Int×List (Int×Int×(Int×Int×Bool×Int×List af×ai)×Unit)×List aG×Unit)×bg×Unit)×Unit)×List (Int×Int×Int×Int×Int×Int×Int×Bool×(Int×Int×(Int×Int×Int×Int×Int×Int×Int×Int×Bool×List aC×aC×Unit)×(Int×Int×(Int×List UInt8×List UInt8×List UInt8×Int×Int×Int×List aN×List au×List au×Int×Int×Int×Bool×List af×List (Int×Int×(Int×Int×Bool×Int×List af×ai)×Unit)×List aG×Unit)×Unit)×Int×List UInt8×List UInt8×Int×Int×Int×Int×(Int×Int×Bool×Int×List af×ai)×List (Int×List af×Unit)×List af×Bool×(Int×Int×List (Int×Int×(Int×Int×Bool×Int×List af×ai)×Unit)×List aG×Unit)×bg×Unit)×Unit)×List (Int×Int×Int×Int×Int×Int×Int×Bool×(Int×Int×(Int×Int×Int×Int×Int×Int×Int×Int×Bool×List aC×aC×Unit)×(Int×Int×(Int×List UInt8×List UInt8×List UInt8×Int×Int×Int×List aN×List au×List au×Int×Int×Int×Bool×List af×List (Int×Int×(Int×Int×Bool×Int×List af×ai)×Unit)×List aG×Unit)×Unit)×Int×List UInt8×List UInt8×Int×Int×Int×Int×(Int×Int×Bool×Int×List af×ai)×List (Int×List af×Unit)×List af×Bool×(Int×Int×List (Int×Int×(Int×Int×Bool×Int×List af×ai)×Unit)×List aG×Unit)×bg×Unit)×Unit)×List (Int×Int×Int×Int×Int×Int×Int×Bool×(Int×Int×(Int×Int×Int×Int×Int×Int×Int×Int×Bool×List aC×aC×Unit)×(Int×Int×(Int×List UInt8×List UInt8×List UInt8×Int×Int×Int×List aN×List au×List au×Int×Int×Int×Bool×List af×List (Int×Int×(Int×Int×Bool×Int×List af×ai)×Unit)×List aG×Unit)×Unit)×Int×List UInt8×List UInt8×Int×Int×Int×Int×(Int×Int×Bool×Int×List af×ai)×List (Int×List af×Unit)×List af×Bool×(Int×Int×List (Int×Int×(Int×Int×Bool×Int×List af×ai)×Unit)×List aG×Unit)×bg×Unit)×Unit)×List (Int×Int×Int×Int×Int×Int×Int×Bool×(Int×Int×(Int×Int×Int×Int×Int×Int×Int×Int×Bool×List aC×aC×Unit)×(Int×Int×(Int×List UInt8×List UInt8×List UInt8×Int×Int×Int×List aN×List au×List au×Int×Int×Int×Bool×List af×List (Int×Int×(Int×Int×Bool×Int×List af×ai)×Unit)×List aG×Unit)×Unit)×Int×List UInt8×List UInt8×Int×Int×Int×Int×(Int×Int×Bool×Int×List af×ai)×List (Int×List af×Unit)×List af×Bool×(Int×Int×List (Int×Int×(Int×Int×Bool×Int×List af×ai)×Unit)×List aG×Unit)×bg×Unit)×Unit)×List (Int×List (Int×List af×Unit)×Int×Unit)×Bool×Unit)×Unit)
 (fun (x_1 :
 Int×iU×iT×(Bool×(Int×List UInt8×List UInt8×List UInt8×Int×Int×Int×List aN×List au×List au×Int×Int×Int×Bool×List af×List (Int×Int×(Int×Int×Bool×Int×List af×ai)×Unit)×List aG×Unit)×List UInt8×List UInt8×ai)×List (Int×Int×Int×Int×Int×Int×Int×Bool×(Int×Int×(Int×Int×Int×Int×Int×Int×Int×Int×Bool×List aC×aC×Unit)×(Int×Int×(Int×List UInt8×List UInt8×List UInt8×Int×Int×Int×List aN×List au×List au×Int×Int×Int×Bool×List af×List (Int×Int×(Int×Int×Bool×Int×List af×ai)×Unit)×List aG×Unit)×Unit)×Int×List UInt8×List UInt8×Int×Int×Int×Int×(Int×Int×Bool×Int×List af×ai)×List (Int×List af×Unit)×List af×Bool×(Int×Int×List (Int×Int×(Int×Int×Bool×Int×List af×ai)×Unit)×List aG×Unit)×bg×Unit)×Unit)×List (Int×Int×Int×Int×Int×Int×Int×Bool×(Int×Int×(Int×Int×Int×Int×Int×Int×Int×Int×Bool×List aC×aC×Unit)×(Int×Int×(Int×List UInt8×List UInt8×List UInt8×Int×Int×Int×List aN×List au×List au×Int×Int×Int×Bool×List af×List (Int×Int×(Int×Int×Bool×Int×List af×ai)×Unit)×List aG×Unit)×Unit)×Int×List UInt8×List UInt8×Int×Int×Int×Int×(Int×Int×Bool×Int×List af×ai)×List (Int×List af×Unit)×List af×Bool×(Int×Int×List (Int×Int×(Int×Int×Bool×Int×List af×ai)×Unit)×List aG×Unit)×bg×Unit)×Unit)×List (Int×Int×Int×Int×Int×Int×Int×Bool×(Int×Int×(Int×Int×Int×Int×Int×Int×Int×Int×Bool×List aC×aC×Unit)×(Int×Int×(Int×List UInt8×List UInt8×List UInt8×Int×Int×Int×List aN×List au×List au×Int×Int×Int×Bool×List af×List (Int×Int×(Int×Int×Bool×Int×List af×ai)×Unit)×List aG×Unit)×Unit)×Int×List UInt8×List UInt8×Int×Int×Int×Int×(Int×Int×Bool×Int×List af×ai)×List (Int×List af×Unit)×List af×Bool×(Int×Int×List (Int×Int×(Int×Int×Bool×Int×List af×ai)×Unit)×List aG×Unit)×bg×Unit)×Unit)×List (Int×Int×Int×Int×Int×Int×Int×Bool×(Int×Int×(Int×Int×Int×Int×Int×Int×Int×Int×Bool×List aC×aC×Unit)×(Int×Int×(Int×List UInt8×List UInt8×List UInt8×Int×Int×Int×List aN×List au×List au×Int×Int×Int×Bool×List af×List (Int×Int×(Int×Int×Bool×Int×List af×ai)×Unit)×List aG×Unit)×Unit)×Int×List UInt8×List UInt8×Int×Int×Int×Int×(Int×Int×Bool×Int×List af×ai)×List (Int×List af×Unit)×List af×Bool×(Int×Int×List (Int×Int×(Int×Int×Bool×Int×List af×ai)×Unit)×List aG×Unit)×bg×Unit)×Unit)×List (Int×Int×Int×Int×Int×Int×Int×Bool×(Int×Int×(Int×Int×Int×Int×Int×Int×Int×Int×Bool×List aC×aC×Unit)×(Int×Int×(Int×List UInt8×List UInt8×List UInt8×Int×Int×Int×List aN×List au×List au×Int×Int×Int×Bool×List af×List (Int×Int×(Int×Int×Bool×Int×List af×ai)×Unit)×List aG×Unit)×Unit)×Int×List UInt8×List UInt8×Int×Int×Int×Int×(Int×Int×Bool×Int×List af×ai)×List (Int×List af×Unit)×List af×Bool×(Int×Int×List (Int×Int×(Int×Int×Bool×Int×List af×ai)×Unit)×List aG×Unit)×bg×Unit)×Unit)×(List (Int×List (Int×List af×Unit)×Int×Unit)×Int)×Bool×Int×Int×Bool×Int×List af×ai)=>
 bif decide (x_1.1 < 2) then
 Option.bind
 (bif decide (x_1.1=Int.ofNat 0) then
 Option.bind (List.head? x_1.2.2.2.2.1)
 fun b=>
 (F48 (b,x.2)).bind
 fun b=>
 bif b.2.1 then
 bif
 decide
 (Int.toNat x_1.2.2.2.2.2.2.2.2.2.1.2 =
 List.length x_1.2.2.2.2.2.2.2.2.2.1.1) then
 Option.bind
 (F49
 ((x_1.2.1,x_1.2.2.1,x_1.2.2.2.1,[b.2.2.1],
 x_1.2.2.2.2.2.1,x_1.2.2.2.2.2.2.1,
 x_1.2.2.2.2.2.2.2.1,x_1.2.2.2.2.2.2.2.2.1,
 x_1.2.2.2.2.2.2.2.2.2.1.1,
 x_1.2.2.2.2.2.2.2.2.2.2.1,()),
 b.1,()))
 fun b=>
 Option.map Sum.inr
 (Option.map Sum.inr
 (bif
 decide
 (List.length b.2.2.1.2.2.2.2.2.2.2.2.1 =
 List.length b.2.2.1.2.2.2.2.2.2.2.2.1) then
 some b
 else none))
 else none
 else
 some
 (Sum.inl
 (x_1.2.2.2.2.2.2.2.2.2.2.2.1,
 x_1.2.2.2.2.2.2.2.2.2.2.2.2.1,
 x_1.2.2.2.2.2.2.2.2.2.2.2.2.2.1,
 x_1.2.2.2.2.2.2.2.2.2.2.2.2.2.2.1,
 x_1.2.2.2.2.2.2.2.2.2.2.2.2.2.2.2.1,
 x_1.2.2.2.2.2.2.2.2.2.2.2.2.2.2.2.2.1,
 x_1.2.2.2.2.2.2.2.2.2.2.2.2.2.2.2.2.2.1,x_1.2.1,
 x_1.2.2.1,x_1.2.2.2.1,[b.2.2.1],x_1.2.2.2.2.2.1,
 x_1.2.2.2.2.2.2.1,x_1.2.2.2.2.2.2.2.1,
 x_1.2.2.2.2.2.2.2.2.1,
 (x_1.2.2.2.2.2.2.2.2.2.1.1,
 Int.ofNat (Int.toNat x_1.2.2.2.2.2.2.2.2.2.1.2)),
 x_1.2.2.2.2.2.2.2.2.2.2.1,()))
 else
 bif decide (x_1.1=Int.ofNat (0+1)) then
 Option.bind (List.head? x_1.2.2.2.2.2.1)
 fun b=>
 (F48 (b,x.2)).bind
 fun b=>
 bif b.2.1 then
 bif
 decide
 (Int.toNat x_1.2.2.2.2.2.2.2.2.2.1.2 =
 List.length x_1.2.2.2.2.2.2.2.2.2.1.1) then
 Option.bind
 (F49
 ((x_1.2.1,x_1.2.2.1,x_1.2.2.2.1,x_1.2.2.2.2.1,[b.2.2.1],
 x_1.2.2.2.2.2.2.1,x_1.2.2.2.2.2.2.2.1,
 x_1.2.2.2.2.2.2.2.2.1,x_1.2.2.2.2.2.2.2.2.2.1.1,
 x_1.2.2.2.2.2.2.2.2.2.2.1,()),
 b.1,()))
 fun b=>
 Option.map Sum.inr
 (Option.map Sum.inr
 (bif
 decide
 (List.length b.2.2.1.2.2.2.2.2.2.2.2.1 =
 List.length b.2.2.1.2.2.2.2.2.2.2.2.1) then
 some b
 else none))
 else none
 else
 some
 (Sum.inl
 (x_1.2.2.2.2.2.2.2.2.2.2.2.1,
 x_1.2.2.2.2.2.2.2.2.2.2.2.2.1,
 x_1.2.2.2.2.2.2.2.2.2.2.2.2.2.1,
 x_1.2.2.2.2.2.2.2.2.2.2.2.2.2.2.1,
 x_1.2.2.2.2.2.2.2.2.2.2.2.2.2.2.2.1,
 x_1.2.2.2.2.2.2.2.2.2.2.2.2.2.2.2.2.1,
 x_1.2.2.2.2.2.2.2.2.2.2.2.2.2.2.2.2.2.1,x_1.2.1,
 x_1.2.2.1,x_1.2.2.2.1,x_1.2.2.2.2.1,[b.2.2.1],
 x_1.2.2.2.2.2.2.1,x_1.2.2.2.2.2.2.2.1,
 x_1.2.2.2.2.2.2.2.2.1,
 (x_1.2.2.2.2.2.2.2.2.2.1.1,
 Int.ofNat (Int.toNat x_1.2.2.2.2.2.2.2.2.2.1.2)),
 x_1.2.2.2.2.2.2.2.2.2.2.1,()))
 else none)
 fun o=>
 Sum.elim
 (fun (x_2 :
 Int×Int×Bool×Int×List af×Int×Int×iU×iT×(Bool×(Int×List UInt8×List UInt8×List UInt8×Int×Int×Int×List aN×List au×List au×Int×Int×Int×Bool×List af×List (Int×Int×(Int×Int×Bool×Int×List af×ai)×Unit)×List aG×Unit)×List UInt8×List UInt8×ai)×List (Int×Int×Int×Int×Int×Int×Int×Bool×(Int×Int×(Int×Int×Int×Int×Int×Int×Int×Int×Bool×List aC×aC×Unit)×(Int×Int×(Int×List UInt8×List UInt8×List UInt8×Int×Int×Int×List aN×List au×List au×Int×Int×Int×Bool×List af×List (Int×Int×(Int×Int×Bool×Int×List af×ai)×Unit)×List aG×Unit)×Unit)×Int×List UInt8×List UInt8×Int×Int×Int×Int×(Int×Int×Bool×Int×List af×ai)×List (Int×List af×Unit)×List af×Bool×(Int×Int×List (Int×Int×(Int×Int×Bool×Int×List af×ai)×Unit)×List aG×Unit)×bg×Unit)×Unit)×List (Int×Int×Int×Int×Int×Int×Int×Bool×(Int×Int×(Int×Int×Int×Int×Int×Int×Int×Int×Bool×List aC×aC×Unit)×(Int×Int×(Int×List UInt8×List UInt8×List UInt8×Int×Int×Int×List aN×List au×List au×Int×Int×Int×Bool×List af×List (Int×Int×(Int×Int×Bool×Int×List af×ai)×Unit)×List aG×Unit)×Unit)×Int×List UInt8×List UInt8×Int×Int×Int×Int×(Int×Int×Bool×Int×List af×ai)×List (Int×List af×Unit)×List af×Bool×(Int×Int×List (Int×Int×(Int×Int×Bool×Int×List af×ai)×Unit)×List aG×Unit)×bg×Unit)×Unit)×List (Int×Int×Int×Int×Int×Int×Int×Bool×(Int×Int×(Int×Int×Int×Int×Int×Int×Int×Int×Bool×List aC×aC×Unit)×(Int×Int×(Int×List UInt8×List UInt8×List UInt8×Int×Int×Int×List aN×List au×List au×Int×Int×Int×Bool×List af×List (Int×Int×(Int×Int×Bool×Int×List af×ai)×Unit)×List aG×Unit)×Unit)×Int×List UInt8×List UInt8×Int×Int×Int×Int×(Int×Int×Bool×Int×List af×ai)×List (Int×List af×Unit)×List af×Bool×(Int×Int×List (Int×Int×(Int×Int×Bool×Int×List af×ai)×Unit)×List aG×Unit)×bg×Unit)×Unit)×List (Int×Int×Int×Int×Int×Int×Int×Bool×(Int×Int×(Int×Int×Int×Int×Int×Int×Int×Int×Bool×List aC×aC×Unit)×(Int×Int×(Int×List UInt8×List UInt8×List UInt8×Int×Int×Int×List aN×List au×List au×Int×Int×Int×Bool×List af×List (Int×Int×(Int×Int×Bool×Int×List af×ai)×Unit)×List aG×Unit)×Unit)×Int×List UInt8×List UInt8×Int×Int×Int×Int×(Int×Int×Bool×Int×List af×ai)×List (Int×List af×Unit)×List af×Bool×(Int×Int×List (Int×Int×(Int×Int×Bool×Int×List af×ai)×Unit)×List aG×Unit)×bg×Unit)×Unit)×List (Int×Int×Int×Int×Int×Int×Int×Bool×(Int×Int×(Int×Int×Int×Int×Int×Int×Int×Int×Bool×List aC×aC×Unit)×(Int×Int×(Int×List UInt8×List UInt8×List UInt8×Int×Int×Int×List aN×List au×List au×Int×Int×Int×Bool×List af×List (Int×Int×(Int×Int×Bool×Int×List af×ai)×Unit)×List aG×Unit)×Unit)×Int×List UInt8×List UInt8×Int×Int×Int×Int×(Int×Int×Bool×Int×List af×ai)×List (Int×List af×Unit)×List af×Bool×(Int×Int×List (Int×Int×(Int×Int×Bool×Int×List af×ai)×Unit)×List aG×Unit)×bg×Unit)×Unit)×(List (Int×List (Int×List af×Unit)×Int×Unit)×Int)×Bool×Unit)=>
 bif decide (x_1.1=Int.ofNat 0) then
 Option.bind (List.head? x_2.2.2.2.2.2.2.2.2.2.2.2.2.2.1)
 fun b=>
 (F48 (b,x.2)).bind
 fun b=>
 bif b.2.1 then
 bif
 decide
 (Int.toNat x_2.2.2.2.2.2.2.2.2.2.2.2.2.2.2.2.1.2 =
 List.length x_2.2.2.2.2.2.2.2.2.2.2.2.2.2.2.2.1.1) then
 Option.bind
 (F50
 ((x_2.2.2.2.2.2.2.2.1,x_2.2.2.2.2.2.2.2.2.1,
 x_2.2.2.2.2.2.2.2.2.2.1,
 x_2.2.2.2.2.2.2.2.2.2.2.1,
 x_2.2.2.2.2.2.2.2.2.2.2.2.1,
 x_2.2.2.2.2.2.2.2.2.2.2.2.2.1,[b.2.2.1],
 x_2.2.2.2.2.2.2.2.2.2.2.2.2.2.2.1,
 x_2.2.2.2.2.2.2.2.2.2.2.2.2.2.2.2.1.1,
 x_2.2.2.2.2.2.2.2.2.2.2.2.2.2.2.2.2),
 x_1.1,b.1,()))
 fun b=>
 Option.map Sum.inr
 (bif
 decide
 (List.length b.1.2.2.2.2.2.2.2.2.1 =
 List.length b.1.2.2.2.2.2.2.2.2.1) then
 some ((0,0,false,0,[],0,0,()),false,b)
 else none)
 else none
 else
 some
 (Sum.inl
 (wrap64 (x_1.1+1),x_2.2.2.2.2.2.2.2.1,
 x_2.2.2.2.2.2.2.2.2.1,x_2.2.2.2.2.2.2.2.2.2.1,
 x_2.2.2.2.2.2.2.2.2.2.2.1,
 x_2.2.2.2.2.2.2.2.2.2.2.2.1,
 x_2.2.2.2.2.2.2.2.2.2.2.2.2.1,[b.2.2.1],
 x_2.2.2.2.2.2.2.2.2.2.2.2.2.2.2.1,
 (x_2.2.2.2.2.2.2.2.2.2.2.2.2.2.2.2.1.1,
 Int.ofNat
 (Int.toNat x_2.2.2.2.2.2.2.2.2.2.2.2.2.2.2.2.1.2)),
 x_2.2.2.2.2.2.2.2.2.2.2.2.2.2.2.2.2.1,x_2.1,
 x_2.2.1,x_2.2.2.1,x_2.2.2.2.1,x_2.2.2.2.2.1,
 x_2.2.2.2.2.2.1,x_2.2.2.2.2.2.2.1,()))
 else
 bif decide (x_1.1=Int.ofNat (0+1)) then
 Option.bind (List.head? x_2.2.2.2.2.2.2.2.2.2.2.2.2.2.2.1)
 fun b=>
 (F48 (b,x.2)).bind
 fun b=>
 bif b.2.1 then
 bif
 decide
 (Int.toNat x_2.2.2.2.2.2.2.2.2.2.2.2.2.2.2.2.1.2 =
 List.length
 x_2.2.2.2.2.2.2.2.2.2.2.2.2.2.2.2.1.1) then
 Option.bind
 (F50
 ((x_2.2.2.2.2.2.2.2.1,x_2.2.2.2.2.2.2.2.2.1,
 x_2.2.2.2.2.2.2.2.2.2.1,
 x_2.2.2.2.2.2.2.2.2.2.2.1,
 x_2.2.2.2.2.2.2.2.2.2.2.2.1,
 x_2.2.2.2.2.2.2.2.2.2.2.2.2.1,
 x_2.2.2.2.2.2.2.2.2.2.2.2.2.2.1,[b.2.2.1],
 x_2.2.2.2.2.2.2.2.2.2.2.2.2.2.2.2.1.1,
 x_2.2.2.2.2.2.2.2.2.2.2.2.2.2.2.2.2),
 x_1.1,b.1,()))
 fun b=>
 Option.map Sum.inr
 (bif
 decide
 (List.length b.1.2.2.2.2.2.2.2.2.1 =
 List.length b.1.2.2.2.2.2.2.2.2.1) then
 some ((0,0,false,0,[],0,0,()),false,b)
 else none)
 else none
 else
 some
 (Sum.inl
 (wrap64 (x_1.1+1),x_2.2.2.2.2.2.2.2.1,
 x_2.2.2.2.2.2.2.2.2.1,x_2.2.2.2.2.2.2.2.2.2.1,
 x_2.2.2.2.2.2.2.2.2.2.2.1,
 x_2.2.2.2.2.2.2.2.2.2.2.2.1,
 x_2.2.2.2.2.2.2.2.2.2.2.2.2.1,
 x_2.2.2.2.2.2.2.2.2.2.2.2.2.2.1,[b.2.2.1],
 (x_2.2.2.2.2.2.2.2.2.2.2.2.2.2.2.2.1.1,
 Int.ofNat
 (Int.toNat x_2.2.2.2.2.2.2.2.2.2.2.2.2.2.2.2.1.2)),
 x_2.2.2.2.2.2.2.2.2.2.2.2.2.2.2.2.2.1,x_2.1,
 x_2.2.1,x_2.2.2.1,x_2.2.2.2.1,x_2.2.2.2.2.1,
 x_2.2.2.2.2.2.1,x_2.2.2.2.2.2.2.1,()))
 else none)
 some o
 else
 Option.map Sum.inr
 (Option.bind (List.head? x_1.2.2.2.2.2.2.1)
 fun b=>
 (F48 (b,x.2)).bind
 fun b=>
 bif b.2.1 then
 bif
 decide
 (Int.toNat x_1.2.2.2.2.2.2.2.2.2.1.2 =
 List.length x_1.2.2.2.2.2.2.2.2.2.1.1) then
 Option.bind
 (F51
 ((x_1.2.1,x_1.2.2.1,x_1.2.2.2.1,x_1.2.2.2.2.1,
 x_1.2.2.2.2.2.1,[b.2.2.1],x_1.2.2.2.2.2.2.2.1,
 x_1.2.2.2.2.2.2.2.2.1,x_1.2.2.2.2.2.2.2.2.2.1.1,
 x_1.2.2.2.2.2.2.2.2.2.2.1,()),
 b.1.2.2.2.2.2.2.2.2.2.2.2.2.2.2.2.2))
 fun b=>
 bif
 decide
 (List.length b.1.2.2.2.2.2.2.2.2.1 =
 List.length b.1.2.2.2.2.2.2.2.2.1) then
 some ((0,0,false,0,[],0,0,()),false,b)
 else none
 else none
 else
 bif
 decide
 (Int.toNat x_1.2.2.2.2.2.2.2.2.2.1.2 =
 List.length x_1.2.2.2.2.2.2.2.2.2.1.1) then
 some
 ((0,0,false,0,[],0,0,()),false,
 (x_1.2.1,x_1.2.2.1,x_1.2.2.2.1,x_1.2.2.2.2.1,
 x_1.2.2.2.2.2.1,[b.2.2.1],x_1.2.2.2.2.2.2.2.1,
 x_1.2.2.2.2.2.2.2.2.1,x_1.2.2.2.2.2.2.2.2.2.1.1,
 x_1.2.2.2.2.2.2.2.2.2.2.1,()),
 ())
 else none))
 big
 (0,x.1.1,x.1.2.1,x.1.2.2.1,x.1.2.2.2.1,x.1.2.2.2.2.1,
 x.1.2.2.2.2.2.1,x.1.2.2.2.2.2.2.1,x.1.2.2.2.2.2.2.2.1,
 (x.1.2.2.2.2.2.2.2.2.1,Int.ofNat (List.length x.1.2.2.2.2.2.2.2.2.1)),
 x.1.2.2.2.2.2.2.2.2.2.1,0,0,false,0,[],0,0,())
def S19:Sig:=⟨P19,R19,F19⟩
def E19:Env:=mkE ay 74 [(48,[S48]),(49,[S49]),(50,[S50]),(51,[S51])] [(9,⟨[⟨.fld 2000 0,(.int .i64),.pv⟩,⟨.fld 2000 1,(.int .i64),.pv⟩,⟨.fld 2000 2,.bool,.pv⟩,⟨.fld 2000 3,(.int .i64),.pv⟩,⟨.fld 2000 4,(.slice T70),.own false⟩,⟨.fld 2000 5,(.int .i64),.pv⟩,⟨.fld 2000 6,(.int .i64),.pv⟩,⟨.fld 0 0,Y24,.pv⟩,⟨.fld 0 1,Y98,.pv⟩,⟨.fld 0 2,Y41,.pv⟩,⟨.fld 0 3,(.ptr bW),.own false⟩,⟨.fld 0 4,(.ptr bW),.own false⟩,⟨.fld 0 5,(.ptr bW),.own false⟩,⟨.fld 0 6,(.ptr bW),.own false⟩,⟨.fld 0 7,(.ptr bW),.own false⟩,⟨.fld 0 8,(.pair (.ptr oV) (.int .i64)),.deep⟩,⟨.fld 0 9,.bool,.pv⟩],[0,1,5,6,8,18],[.site 2000,.site 1000]++hL (.fld 1000) 0 17++[.site 0]⟩)] [(4,bP ⟨[⟨.slot 18,(.int .i64),.pv⟩,⟨.fld 0 0,Y24,.pv⟩,⟨.fld 0 1,Y98,.pv⟩,⟨.fld 0 2,Y41,.pv⟩,⟨.fld 0 3,(.ptr bW),.own false⟩,⟨.fld 0 4,(.ptr bW),.own false⟩,⟨.fld 0 5,(.ptr bW),.own false⟩,⟨.fld 0 6,(.ptr bW),.own false⟩,⟨.fld 0 7,(.ptr bW),.own false⟩,⟨.fld 0 8,(.pair (.ptr oV) (.int .i64)),.deep⟩,⟨.fld 0 9,.bool,.pv⟩,⟨.fld 2000 0,(.int .i64),.pv⟩,⟨.fld 2000 1,(.int .i64),.pv⟩,⟨.fld 2000 2,.bool,.pv⟩,⟨.fld 2000 3,(.int .i64),.pv⟩,⟨.fld 2000 4,(.slice T70),.own false⟩,⟨.fld 2000 5,(.int .i64),.pv⟩,⟨.fld 2000 6,(.int .i64),.pv⟩],[0,1,5,6],[.site 0,.site 2000,.site 1000]++hL (.fld 1000) 0 17⟩)]
theorem zcQ x:ax E19 Tryz.f19 P19 R19 x=F19 x:=by kernel_rfl
def Hu (_x:Int×TMD×Unit):Option (fG×Bool×Unit):=
 some ((0,0,false,0,[],0,0,()),false,())
def QP:Sig:=⟨UF,Sz,Hu⟩
def V8:Env:=mkE ay 74 [(48,[S48]),(49,[S49]),(50,[S50]),(51,[S51])] [] []
theorem zaf x:ax V8 Tryz.f19 UF Sz x=Hu x:=by kernel_rfl
def F52 (x:jP×Unit):Option (jP×Unit):=
 some x
def S52:Sig:=⟨P52,R52,F52⟩
def E52:Env:=mkE ay 4 [] [] []
theorem zct x:ax E52 Tryz.f52 P52 R52 x=F52 x:=by kernel_rfl
def F20 (x:TMD×Unit):Option (TMD×Unit):=
 (F52 (x.1.2.2.1,())).bind
 fun b=>
 some ((x.1.1,x.1.2.1,b.1,x.1.2.2.2),())
def S20:Sig:=⟨P20,R20,F20⟩
def E20:Env:=mkE ay 47 [(52,[S52])] [] []
theorem zcP x:ax E20 Tryz.f20 P20 R20 x=F20 x:=by kernel_rfl
def F22 (x:gm×Unit):Option (List TBD×Int×gm×Unit):=
 bif List.isEmpty x.1.2.2.2.2.2.2.2.2.1 then
 bif
 decide
 (List.length x.1.2.2.2.2.2.2.2.2.1 =
 List.length x.1.2.2.2.2.2.2.2.2.1) then
 some ([],0,x)
 else none
 else
 Option.bind
 (Option.bind (List.head? x.1.2.2.2.2.2.2.2.2.1)
 fun _z=>
 Option.bind x.1.2.2.2.2.2.2.2.2.1[0]?
 fun (b :
 Int×List (Int×List af×Unit)×Int×Unit)=>
 bif decide (List.length x.1.2.2.2.2.2.2.2.2.1≤0) then
 some
 (Sum.inl
 (b.2.1,Int.ofNat (List.length b.2.1),0,
 (x.1.2.2.2.2.2.2.2.2.1,
 Int.ofNat (List.length x.1.2.2.2.2.2.2.2.2.1)),
 ()))
 else
 Option.map Sum.inl
 (Option.bind x.1.2.2.2.2.2.2.2.2.1[0]?
 fun (_z :
 Int×List (Int×List af×Unit)×Int×Unit)=>
 none))
 fun o=>
 Sum.elim
 (fun (x_1 :
 List (Int×List af×Unit)×Int×Int×(List (Int×List (Int×List af×Unit)×Int×Unit)×Int)×Unit)=>
 bu
 (List (Int×List af×Unit)×Int×Unit)
 (List (Int×List af×Unit)×Int×(iU×iT×(Bool×(Int×List UInt8×List UInt8×List UInt8×Int×Int×Int×List aN×List au×List au×Int×Int×Int×Bool×List af×List (Int×Int×(Int×Int×Bool×Int×List af×ai)×Unit)×List aG×Unit)×List UInt8×List UInt8×ai)×List (Int×Int×Int×Int×Int×Int×Int×Bool×(Int×Int×(Int×Int×Int×Int×Int×Int×Int×Int×Bool×List aC×aC×Unit)×(Int×Int×(Int×List UInt8×List UInt8×List UInt8×Int×Int×Int×List aN×List au×List au×Int×Int×Int×Bool×List af×List (Int×Int×(Int×Int×Bool×Int×List af×ai)×Unit)×List aG×Unit)×Unit)×Int×List UInt8×List UInt8×Int×Int×Int×Int×(Int×Int×Bool×Int×List af×ai)×List (Int×List af×Unit)×List af×Bool×(Int×Int×List (Int×Int×(Int×Int×Bool×Int×List af×ai)×Unit)×List aG×Unit)×bg×Unit)×Unit)×List (Int×Int×Int×Int×Int×Int×Int×Bool×(Int×Int×(Int×Int×Int×Int×Int×Int×Int×Int×Bool×List aC×aC×Unit)×(Int×Int×(Int×List UInt8×List UInt8×List UInt8×Int×Int×Int×List aN×List au×List au×Int×Int×Int×Bool×List af×List (Int×Int×(Int×Int×Bool×Int×List af×ai)×Unit)×List aG×Unit)×Unit)×Int×List UInt8×List UInt8×Int×Int×Int×Int×(Int×Int×Bool×Int×List af×ai)×List (Int×List af×Unit)×List af×Bool×(Int×Int×List (Int×Int×(Int×Int×Bool×Int×List af×ai)×Unit)×List aG×Unit)×bg×Unit)×Unit)×List (Int×Int×Int×Int×Int×Int×Int×Bool×(Int×Int×(Int×Int×Int×Int×Int×Int×Int×Int×Bool×List aC×aC×Unit)×(Int×Int×(Int×List UInt8×List UInt8×List UInt8×Int×Int×Int×List aN×List au×List au×Int×Int×Int×Bool×List af×List (Int×Int×(Int×Int×Bool×Int×List af×ai)×Unit)×List aG×Unit)×Unit)×Int×List UInt8×List UInt8×Int×Int×Int×Int×(Int×Int×Bool×Int×List af×ai)×List (Int×List af×Unit)×List af×Bool×(Int×Int×List (Int×Int×(Int×Int×Bool×Int×List af×ai)×Unit)×List aG×Unit)×bg×Unit)×Unit)×List (Int×Int×Int×Int×Int×Int×Int×Bool×(Int×Int×(Int×Int×Int×Int×Int×Int×Int×Int×Bool×List aC×aC×Unit)×(Int×Int×(Int×List UInt8×List UInt8×List UInt8×Int×Int×Int×List aN×List au×List au×Int×Int×Int×Bool×List af×List (Int×Int×(Int×Int×Bool×Int×List af×ai)×Unit)×List aG×Unit)×Unit)×Int×List UInt8×List UInt8×Int×Int×Int×Int×(Int×Int×Bool×Int×List af×ai)×List (Int×List af×Unit)×List af×Bool×(Int×Int×List (Int×Int×(Int×Int×Bool×Int×List af×ai)×Unit)×List aG×Unit)×bg×Unit)×Unit)×List (Int×Int×Int×Int×Int×Int×Int×Bool×(Int×Int×(Int×Int×Int×Int×Int×Int×Int×Int×Bool×List aC×aC×Unit)×(Int×Int×(Int×List UInt8×List UInt8×List UInt8×Int×Int×Int×List aN×List au×List au×Int×Int×Int×Bool×List af×List (Int×Int×(Int×Int×Bool×Int×List af×ai)×Unit)×List aG×Unit)×Unit)×Int×List UInt8×List UInt8×Int×Int×Int×Int×(Int×Int×Bool×Int×List af×ai)×List (Int×List af×Unit)×List af×Bool×(Int×Int×List (Int×Int×(Int×Int×Bool×Int×List af×ai)×Unit)×List aG×Unit)×bg×Unit)×Unit)×List (Int×List (Int×List af×Unit)×Int×Unit)×Bool×Unit)×Unit)
 (fun (x_2 :
 List (Int×List af×Unit)×Int×Unit)=>
 bif decide (x_2.2.1 < x_1.2.1) then
 (idx x_1.1 x_2.2.1).bind
 fun b=>
 (F57 b.2).bind
 fun b_1=>
 (dm x_2.1 [(b.1,b_1)]).bind
 fun b=>
 some (Sum.inl (b,wrap64 (x_2.2.1+1),()))
 else
 Option.map Sum.inr
 (Option.bind (List.head? x_1.2.2.2.1.1)
 fun _z=>
 Option.bind x_1.2.2.2.1.1[0]?
 fun (b :
 Int×List (Int×List af×Unit)×Int×Unit)=>
 bif decide (Int.toNat x_1.2.2.2.1.2=List.length x_1.2.2.2.1.1) then
 some
 (x_2.1,b.2.2.1,
 (x.1.1,x.1.2.1,x.1.2.2.1,x.1.2.2.2.1,
 x.1.2.2.2.2.1,x.1.2.2.2.2.2.1,
 x.1.2.2.2.2.2.2.1,x.1.2.2.2.2.2.2.2.1,
 x_1.2.2.2.1.1,x.1.2.2.2.2.2.2.2.2.2),
 ())
 else none))
 big ([],x_1.2.2.1,()))
 some o
def S22:Sig:=⟨P22,R22,F22⟩
def E22:Env:=mkE ay 46 [(57,[S57])] [(7,⟨[⟨.slot 22,(.slice TB),.pv⟩,⟨.slot 23,(.int .i64),.pv⟩,⟨.slot 24,(.int .i64),.pv⟩,⟨.fld 0 8,(.pair (.ptr oV) (.int .i64)),.deep⟩],[0,4],[.site 0]++hL (.fld 0) 0 8++[.fld 0 9,.row 7,.row 6,.row 5,.row 4,.row 3]⟩)] [(7,bP ⟨[⟨.slot 4,(.slice TB),.own false⟩,⟨.slot 24,(.int .i64),.pv⟩],[0,22,23],[.site 0]++hL (.fld 0) 0 10++[.row 7000000007003,.row 7,.row 6,.row 5,.row 4,.row 3]⟩)]
theorem zcO x:ax E22 Tryz.f22 P22 R22 x=F22 x:=by kernel_rfl
def Ht (_x:Unit):Option (List TBD×Int×Unit):=some ([],1,())
def QI:Sig:=⟨Ur,RN,Ht⟩
def VR:Env:=mkE ay 46 [(57,[S57])] [] []
theorem ZY x:ax VR Tryz.f22 Ur RN x=Ht x:=by kernel_rfl
def F23 (x:gm×Unit):Option (iT×gm×Unit):=
 bif
 decide
 (List.length x.1.2.2.2.2.2.2.2.2.1 =
 List.length x.1.2.2.2.2.2.2.2.2.1) then
 some (x.1.2.1,x)
 else none
def S23:Sig:=⟨P23,R23,F23⟩
def E23:Env:=mkE ay 10 [] [] []
theorem zcN x:ax E23 Tryz.f23 P23 R23 x=F23 x:=by kernel_rfl
def Hr (_x:Unit):Option (iT×Unit):=some ((0,false,false,0,0,(0,0,()),()),())
def QH:Sig:=⟨Uo,RJ,Hr⟩
def VQ:Env:=mkE ay 10 [] [] []
theorem ZX x:ax VQ Tryz.f23 Uo RJ x=Hr x:=by kernel_rfl
def F4 (x:Bc×Unit):Option (Bool×Unit):=
 (F6 ()).bind fun b=>
 bif !b.1 then (F6 ()).bind fun b=>some b
 else
 (F7 ([x.1],1,())).bind fun b=>
 bif !b.1 then (F6 ()).bind fun b=>some b
 else
 (BA (x.1.2.1,())).bind
 fun b=>
 (F20 x.1.2.2.2.2).bind
 fun b_1=>
 (Hu (x.1.2.2.2.1,b_1)).bind
 fun b_2=>
 (Ht ()).bind
 fun b_3=>
 bif b.2.1 then
 bif decide (b.1.1=1) then
 bif !b_2.2.1 then
 bif decide (b_2.1.1=0) then
 bif decide (Int.ofNat (List.length b_3.1)=0) then
 bif decide (b_3.2.1=1) then
 (Hw (x.1.2.2.1,())).bind fun b=>
 bif decide (b.1=1) then
 (BC ()).bind
 fun b=>
 bif decide (Int.ofNat (List.length b.1)=0) then
 (Hr ()).bind
 fun b=>
 some
 (decide (b.1.1=0) &&
 (b.1.2.1 == false &&
 (b.1.2.2.1 == false &&
 (decide (b.1.2.2.2.1=0) &&
 (decide (b.1.2.2.2.2.1=0) &&
 (decide (b.1.2.2.2.2.2.1.1=0) &&
 (decide (b.1.2.2.2.2.2.1.2.1=0) &&
 true) &&
 true))))),
 ())
 else some (false,())
 else some (false,())
 else some (false,())
 else some (false,())
 else some (false,())
 else some (false,())
 else some (false,())
 else some (false,())
def S4:Sig:=⟨P4,R4,F4⟩
def E4:Env:=mkE ay 84 [(6,[S6]),(7,[S7]),(12,[S12,Rw]),(13,[S13,Hl]),(15,[S15,G8]),(19,[S19,QP]),(20,[S20]),(22,[S22,QI]),(23,[S23,QH])] [] []
theorem zdK x:ax E4 Tryz.f4 P4 R4 x=F4 x:=by kernel_rfl
end
end Go.Proofs.YtlegpimppfabgaaGreat
