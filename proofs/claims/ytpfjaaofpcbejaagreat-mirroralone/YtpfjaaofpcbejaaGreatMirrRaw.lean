/-
 Mirr: by a program of the bench (seat.py).
-/
import Derived.Test.YtpfjaaofpcbejaaGreatMirrTab
namespace Go.Proofs.YtpfjaaofpcbejaaGreat
open Go.Sx Go
set_option maxRecDepth 100000
set_option maxHeartbeats 2000000
noncomputable section
abbrev tk8 {A0 A1 A2 A3 A4 A5 A6 A7 R S:Type} (w:A0×A1×A2×A3×A4×A5×A6×A7×R) (s:S):A0×A1×A2×A3×A4×A5×A6×A7×S:=(w.1,w.2.1,w.2.2.1,w.2.2.2.1,w.2.2.2.2.1,w.2.2.2.2.2.1,w.2.2.2.2.2.2.1,w.2.2.2.2.2.2.2.1,s)
abbrev tk9 {A0 A1 A2 A3 A4 A5 A6 A7 A8 R S:Type} (w:A0×A1×A2×A3×A4×A5×A6×A7×A8×R) (s:S):A0×A1×A2×A3×A4×A5×A6×A7×A8×S:=(w.1,w.2.1,w.2.2.1,w.2.2.2.1,w.2.2.2.2.1,w.2.2.2.2.2.1,w.2.2.2.2.2.2.1,w.2.2.2.2.2.2.2.1,w.2.2.2.2.2.2.2.2.1,s)
abbrev bn {A0 A1 A2 A3 A4 A5 A6 A7 A8 A9 R S:Type} (w:A0×A1×A2×A3×A4×A5×A6×A7×A8×A9×R) (s:S):A0×A1×A2×A3×A4×A5×A6×A7×A8×A9×S:=(w.1,w.2.1,w.2.2.1,w.2.2.2.1,w.2.2.2.2.1,w.2.2.2.2.2.1,w.2.2.2.2.2.2.1,w.2.2.2.2.2.2.2.1,w.2.2.2.2.2.2.2.2.1,w.2.2.2.2.2.2.2.2.2.1,s)
abbrev aX {A0 A1 A2 A3 A4 A5 A6 A7 A8 A9 A10 R S:Type} (w:A0×A1×A2×A3×A4×A5×A6×A7×A8×A9×A10×R) (s:S):A0×A1×A2×A3×A4×A5×A6×A7×A8×A9×A10×S:=(w.1,w.2.1,w.2.2.1,w.2.2.2.1,w.2.2.2.2.1,w.2.2.2.2.2.1,w.2.2.2.2.2.2.1,w.2.2.2.2.2.2.2.1,w.2.2.2.2.2.2.2.2.1,w.2.2.2.2.2.2.2.2.2.1,w.2.2.2.2.2.2.2.2.2.2.1,s)
abbrev aW {A0 A1 A2 A3 A4 A5 A6 A7 A8 A9 A10 A11 R S:Type} (w:A0×A1×A2×A3×A4×A5×A6×A7×A8×A9×A10×A11×R) (s:S):A0×A1×A2×A3×A4×A5×A6×A7×A8×A9×A10×A11×S:=(w.1,w.2.1,w.2.2.1,w.2.2.2.1,w.2.2.2.2.1,w.2.2.2.2.2.1,w.2.2.2.2.2.2.1,w.2.2.2.2.2.2.2.1,w.2.2.2.2.2.2.2.2.1,w.2.2.2.2.2.2.2.2.2.1,w.2.2.2.2.2.2.2.2.2.2.1,w.2.2.2.2.2.2.2.2.2.2.2.1,s)
abbrev aV {A0 A1 A2 A3 A4 A5 A6 A7 A8 A9 A10 A11 A12 A13 R S:Type} (w:A0×A1×A2×A3×A4×A5×A6×A7×A8×A9×A10×A11×A12×A13×R) (s:S):A0×A1×A2×A3×A4×A5×A6×A7×A8×A9×A10×A11×A12×A13×S:=(w.1,w.2.1,w.2.2.1,w.2.2.2.1,w.2.2.2.2.1,w.2.2.2.2.2.1,w.2.2.2.2.2.2.1,w.2.2.2.2.2.2.2.1,w.2.2.2.2.2.2.2.2.1,w.2.2.2.2.2.2.2.2.2.1,w.2.2.2.2.2.2.2.2.2.2.1,w.2.2.2.2.2.2.2.2.2.2.2.1,w.2.2.2.2.2.2.2.2.2.2.2.2.1,w.2.2.2.2.2.2.2.2.2.2.2.2.2.1,s)
abbrev aT {A0 A1 A2 A3 A4 A5 A6 A7 A8 A9 A10 A11 A12 A13 A14 A15 A16 A17 A18 A19 R S:Type} (w:A0×A1×A2×A3×A4×A5×A6×A7×A8×A9×A10×A11×A12×A13×A14×A15×A16×A17×A18×A19×R) (s:S):A0×A1×A2×A3×A4×A5×A6×A7×A8×A9×A10×A11×A12×A13×A14×A15×A16×A17×A18×A19×S:=(w.1,w.2.1,w.2.2.1,w.2.2.2.1,w.2.2.2.2.1,w.2.2.2.2.2.1,w.2.2.2.2.2.2.1,w.2.2.2.2.2.2.2.1,w.2.2.2.2.2.2.2.2.1,w.2.2.2.2.2.2.2.2.2.1,w.2.2.2.2.2.2.2.2.2.2.1,w.2.2.2.2.2.2.2.2.2.2.2.1,w.2.2.2.2.2.2.2.2.2.2.2.2.1,w.2.2.2.2.2.2.2.2.2.2.2.2.2.1,w.2.2.2.2.2.2.2.2.2.2.2.2.2.2.1,w.2.2.2.2.2.2.2.2.2.2.2.2.2.2.2.1,w.2.2.2.2.2.2.2.2.2.2.2.2.2.2.2.2.1,w.2.2.2.2.2.2.2.2.2.2.2.2.2.2.2.2.2.1,w.2.2.2.2.2.2.2.2.2.2.2.2.2.2.2.2.2.2.1,w.2.2.2.2.2.2.2.2.2.2.2.2.2.2.2.2.2.2.2.1,s)
abbrev zM:iO:=(0,0,0,0,0,0,0,0,false,[],(0,0,[],()),())
abbrev zJ:mi:=(0,0,(0,[],[],[],0,0,0,[],[],[],0,0,0,false,[],[],[],()),())
abbrev zR:fM:=(0,0,false,0,[],0,0,())
abbrev zV:aH:=(0,0,0,[],[],0,[],0,0,0,())
abbrev zT:TMD:=(0,0,(0,0,0,0,0,0,0,0,false,[],(0,0,[],()),()),(0,0,(0,[],[],[],0,0,0,[],[],[],0,0,0,false,[],[],[],()),()),0,[],[],0,0,0,0,(0,0,false,0,[],0,0,()),[],[],false,(0,0,[],[],()),(0,0,0,[],[],0,[],0,0,0,()),())
def hL (f:Nat→HLoc):Nat→Nat→List HLoc
 | _,0=>[]
 | i,n+1=>f i::hL f (i+1) n
abbrev mkE (t:Tab) (n:Nat) (g:List (FuncId×List Sig)) (j:List (Nat×Shape)) (l:List (Nat×LoopH)):Env:={ tab:=t,nt:=n,Γ:=nD g,joins:=iI j,loops:=iI l }
abbrev ak:Tab:=tab.opt { flats:=[(93,L93)],owns:=[87],frzs:=[89,90,91] }
def F90 (x:List UInt8×UInt8×Unit):Option (Bool×Unit):=
 bif decide (Int.ofNat (List.length x.1) < 1) then some (false,())
 else
 bif decide (32 < Int.ofNat (List.length x.1)) then some (false,())
 else
 aZ (Int×Unit) (Bool×Unit)
 (fun (x_1:Int×Unit)=>
 bif decide (x_1.1 < Int.ofNat (List.length x.1)) then
 (idx x.1 x_1.1).bind fun b=>
 bif decide (aQ b < aQ (UInt8.ofNat 33)) then some (Sum.inr (false,()))
 else
 (idx x.1 x_1.1).bind fun b=>
 bif decide (aQ x.2.1 < aQ b) then some (Sum.inr (false,()))
 else some (Sum.inl (wrap64 (x_1.1+1),()))
 else some (Sum.inr (true,())))
 big (0,())
def S90:Sig:=⟨P90,R90,F90⟩
def E90:Env:=mkE ak 31 [] [] [(4,bz ⟨[⟨.slot 16,(.int .i64),.pv⟩],[0,1,15],[]⟩)]
theorem zfb x:aj E90 Tryz.f90 P90 R90 x=F90 x:=by kernel_rfl
def F59 (x:List UInt8×Unit):Option (Bool×Unit):=(F90 (x.1,UInt8.ofNat 126,())).bind fun b=>some b
def S59:Sig:=⟨P59,R59,F59⟩
def E59:Env:=mkE ak 5 [(90,[S90])] [] []
theorem zfG x:aj E59 Tryz.f59 P59 R59 x=F59 x:=by kernel_rfl
def F40 (x:List UInt8×Unit):Option (Bool×Unit):=
 bif decide (Int.ofNat (List.length x.1)≤8) then (F59 x).bind fun b=>some b
 else some (false,())
def S40:Sig:=⟨P40,R40,F40⟩
def E40:Env:=mkE ak 10 [(59,[S59])] [] []
theorem zfZ x:aj E40 Tryz.f40 P40 R40 x=F40 x:=by kernel_rfl
def F60 (x:List UInt8×List UInt8×Unit):Option (Bool×Unit):=
 bif decide (Int.ofNat (List.length x.2.1)≤Int.ofNat (List.length x.1)) then
 (jP x.1 0 (Int.ofNat (List.length x.2.1))).bind fun b=>
 some (decide (b=x.2.1),())
 else some (false,())
def S60:Sig:=⟨P60,R60,F60⟩
def E60:Env:=mkE ak 18 [] [] []
theorem zfF x:aj E60 Tryz.f60 P60 R60 x=F60 x:=by kernel_rfl
def F41 (x:List UInt8×List UInt8×Unit):Option (Bool×Unit):=(F60 x).bind fun b=>some b
def S41:Sig:=⟨P41,R41,F41⟩
def E41:Env:=mkE ak 8 [(60,[S60])] [] []
theorem zfY x:aj E41 Tryz.f41 P41 R41 x=F41 x:=by kernel_rfl
def F20 (x:lw×Unit):Option (Bool×Unit):=
 bif decide (1≤x.1.1) then
 bif decide (x.1.1≤1099511627776) then
 (F40 (x.1.2.1,())).bind fun b=>
 bif b.1 then
 (F40 (x.1.2.2.1,())).bind fun b=>
 bif b.1 then
 (F41 (x.1.2.1,x.1.2.2.1,())).bind fun b=>
 bif !b.1 then
 (F41 (x.1.2.2.1,x.1.2.1,())).bind fun b=>
 some (!b.1,())
 else some (false,())
 else some (false,())
 else some (false,())
 else some (false,())
 else some (false,())
def S20:Sig:=⟨P20,R20,F20⟩
def E20:Env:=mkE ak 37 [(40,[S40]),(41,[S41])] [] []
theorem zgj x:aj E20 Tryz.f20 P20 R20 x=F20 x:=by kernel_rfl
def F21 (x:Int×Int×Int×Int×Int×Unit):Option ((Bool×kK)×Int×Unit):=
 bif decide (x.1 < 8) then
 some
 ((false,0,0,0,0,0,0,0,false,
 zT,
 ()),
 1,())
 else
 bif decide (15 < x.1) then
 some
 ((false,0,0,0,0,0,0,0,false,
 zT,
 ()),
 1,())
 else
 bif decide (x.2.1 < 0) then
 some
 ((false,0,0,0,0,0,0,0,false,
 zT,
 ()),
 1,())
 else
 bif decide (1 < x.2.1) then
 some
 ((false,0,0,0,0,0,0,0,false,
 zT,
 ()),
 1,())
 else
 bif decide (x.2.2.1 < 1) then
 some
 ((false,0,0,0,0,0,0,0,false,
 zT,
 ()),
 1,())
 else
 bif decide (3 < x.2.2.1) then
 some
 ((false,0,0,0,0,0,0,0,false,
 zT,
 ()),
 1,())
 else
 bif decide (x.2.2.2.1 < 1) then
 some
 ((false,0,0,0,0,0,0,0,false,
 zT,
 ()),
 1,())
 else
 bif decide (100 < x.2.2.2.1) then
 some
 ((false,0,0,0,0,0,0,0,false,
 zT,
 ()),
 1,())
 else
 bif decide (x.2.2.2.2.1 < 0) then
 some
 ((false,0,0,0,0,0,0,0,false,
 zT,
 ()),
 1,())
 else
 bif decide (549755813888 < x.2.2.2.2.1) then
 some
 ((false,0,0,0,0,0,0,0,false,
 zT,
 ()),
 1,())
 else
 some
 ((true,x.1,x.2.1,x.2.2.1,x.2.2.2.1,x.2.2.2.2.1,0,0,false,
 zT,
 ()),
 0,())
def S21:Sig:=⟨P21,R21,F21⟩
def E21:Env:=mkE ak 57 [] [] []
theorem zgi x:aj E21 Tryz.f21 P21 R21 x=F21 x:=by kernel_rfl
def F7 (x:lw×Int×Unit):Option ((Bool×dm)×Int×Unit):=
 (F20 (x.1,())).bind fun b=>
 bif !b.1 then
 some
 ((false,(0,[],[],(0,0,()),()),0,[],[],
 zT,
 false,zV,0,[],[],false,false,[],false,()),
 1,())
 else
 bif decide (x.2.1 < 0) then
 some
 ((false,(0,[],[],(0,0,()),()),0,[],[],
 zT,
 false,zV,0,[],[],false,false,[],false,()),
 1,())
 else
 bif decide (500000 < x.2.1) then
 some
 ((false,(0,[],[],(0,0,()),()),0,[],[],
 zT,
 false,zV,0,[],[],false,false,[],false,()),
 1,())
 else
 Option.bind
 (Option.bind
 (F21 (11,0,x.1.2.2.2.1.1,8,wrap64 (x.2.1*1000000),()))
 fun b=>
 bif b.1.1 then
 bif !decide (b.2.1=0) then
 some
 (Sum.inr
 ((false,(0,[],[],(0,0,()),()),0,[],[],
 zT,
 false,zV,0,[],[],false,false,[],false,
 ()),
 b.2))
 else
 Option.bind
 (F21
 (11,wrap64 (0+1),x.1.2.2.2.1.2.1,8,
 wrap64 (x.2.1*1000000),()))
 fun b_1=>
 bif b_1.1.1 then
 bif !decide (b_1.2.1=0) then
 some
 (Sum.inr
 ((false,(0,[],[],(0,0,()),()),0,[],[],
 zT,
 false,zV,0,[],[],false,false,[],
 false,()),
 b_1.2))
 else some (Sum.inl ([b.1.2],[b_1.1.2],()))
 else
 bif !decide (b_1.2.1=0) then
 some
 (Sum.inr
 ((false,(0,[],[],(0,0,()),()),0,[],[],
 zT,
 false,zV,0,[],[],false,false,[],
 false,()),
 b_1.2))
 else some (Sum.inl ([b.1.2],[],()))
 else
 bif !decide (b.2.1=0) then
 some
 (Sum.inr
 ((false,(0,[],[],(0,0,()),()),0,[],[],
 zT,
 false,zV,0,[],[],false,false,[],false,
 ()),
 b.2))
 else
 Option.bind
 (F21
 (11,wrap64 (0+1),x.1.2.2.2.1.2.1,8,
 wrap64 (x.2.1*1000000),()))
 fun b=>
 bif b.1.1 then
 bif !decide (b.2.1=0) then
 some
 (Sum.inr
 ((false,(0,[],[],(0,0,()),()),0,[],[],
 zT,
 false,zV,0,[],[],false,false,[],
 false,()),
 b.2))
 else some (Sum.inl ([],[b.1.2],()))
 else
 bif !decide (b.2.1=0) then
 some
 (Sum.inr
 ((false,(0,[],[],(0,0,()),()),0,[],[],
 zT,
 false,zV,0,[],[],false,false,[],
 false,()),
 b.2))
 else some (Sum.inl ([],[],())))
 fun o=>
 Sum.elim
 (fun (x_1 :
 List (Int×Int×Int×Int×Int×Int×Int×Bool×(Int×Int×(Int×Int×Int×Int×Int×Int×Int×Int×Bool×List az×az×Unit)×(Int×Int×(Int×List UInt8×List UInt8×List UInt8×Int×Int×Int×List aN×List ax×List ax×Int×Int×Int×Bool×List ae×List (Int×Int×(Int×Int×Bool×Int×List ae×ai)×Unit)×List ay×Unit)×Unit)×Int×List UInt8×List UInt8×Int×Int×Int×Int×(Int×Int×Bool×Int×List ae×ai)×List (Int×List ae×Unit)×List ae×Bool×(Int×Int×List (Int×Int×(Int×Int×Bool×Int×List ae×ai)×Unit)×List ay×Unit)×aH×Unit)×Unit)×List (Int×Int×Int×Int×Int×Int×Int×Bool×(Int×Int×(Int×Int×Int×Int×Int×Int×Int×Int×Bool×List az×az×Unit)×(Int×Int×(Int×List UInt8×List UInt8×List UInt8×Int×Int×Int×List aN×List ax×List ax×Int×Int×Int×Bool×List ae×List (Int×Int×(Int×Int×Bool×Int×List ae×ai)×Unit)×List ay×Unit)×Unit)×Int×List UInt8×List UInt8×Int×Int×Int×Int×(Int×Int×Bool×Int×List ae×ai)×List (Int×List ae×Unit)×List ae×Bool×(Int×Int×List (Int×Int×(Int×Int×Bool×Int×List ae×ai)×Unit)×List ay×Unit)×aH×Unit)×Unit)×Unit)=>
 some
 ((true,x.1,0,x_1.1,x_1.2.1,
 zT,
 false,zV,0,[],[],false,false,[],false,
 ()),
 0,()))
 some o
def S7:Sig:=⟨P7,R7,F7⟩
def E7:Env:={ tab:=ak,nt:=49,Γ:=nD [(20,[S20]),(21,[S21])],joins:=iI [(12,⟨[⟨.fld 3003000 2,(.ptr gQ),.own false⟩,⟨.fld 3003000 3,(.ptr gQ),.own false⟩],[6],[.site 3003000,.fld 3003000 0,.fld 3003000 1]++hL (.fld 3003000) 4 10⟩)],loops:=iI [],unr:=iI [(5,3)] }
theorem zhz x:aj E7 Tryz.f7 P7 R7 x=F7 x:=by kernel_rfl
def F22 (x:kK×Unit):Option (Bool×kK×Unit):=
 some (x.1.2.2.2.2.2.2.2.1,x)
def S22:Sig:=⟨P22,R22,F22⟩
def E22:Env:=mkE ak 11 [] [] []
theorem zgh x:aj E22 Tryz.f22 P22 R22 x=F22 x:=by kernel_rfl
def Am (x:List az×Unit):Option (List az×Unit):=
 bif List.isEmpty x.1 then
 oV (List az×Unit) (some ([],()))
 ((fD [] x.1).bind fun b=>some (b,()))
 else (fD [] x.1).bind fun b=>some (b,())
def UR:Sig:=⟨Yo,WG,Am⟩
def ZY:Env:=mkE ak 8 [] [] []
theorem zdT x:aj ZY Tryz.f110 Yo WG x=Am x:=by kernel_rfl
def tK (x:List UInt8×Unit):Option (List UInt8×Unit):=
 bif List.isEmpty x.1 then
 oV (List UInt8×Unit) (some ([],()))
 ((sQ [] x.1).bind fun b=>some (b,()))
 else (sQ [] x.1).bind fun b=>some (b,())
def UQ:Sig:=⟨Yn,WF,tK⟩
def ZX:Env:=mkE ak 8 [] [] []
theorem zdS x:aj ZX Tryz.f111 Yn WF x=tK x:=by kernel_rfl
def F70 (x:iO×Unit):Option (iO×Unit):=
 (Am (x.1.2.2.2.2.2.2.2.2.2.1,())).bind
 fun b=>
 aZ (Int×List az×Unit)
 ((Int×Int×Int×Int×Int×Int×Int×Int×Bool×List az×az×Unit)×Unit)
 (fun (x_1:Int×List az×Unit)=>
 bif decide (x_1.1 < Int.ofNat (List.length b.1)) then
 (gZ x_1.2.1 x_1.1).bind fun b=>
 Option.bind x_1.2.1[b]? fun (b:az)=>
 (tK b.2.2).bind fun b=>
 (gZ x_1.2.1 x_1.1).bind fun b_1=>
 Option.bind x_1.2.1[b_1]? fun (b_2:az)=>
 some
 (Sum.inl
 (wrap64 (x_1.1+1),
 List.set x_1.2.1 b_1 (b_2.1,b_2.2.1,b.1,b_2.2.2.2),()))
 else
 Option.map Sum.inr
 ((tK x.1.2.2.2.2.2.2.2.2.2.2.1.2.2).bind
 fun b=>
 some
 ((x.1.1,x.1.2.1,x.1.2.2.1,x.1.2.2.2.1,x.1.2.2.2.2.1,
 x.1.2.2.2.2.2.1,x.1.2.2.2.2.2.2.1,
 x.1.2.2.2.2.2.2.2.1,x.1.2.2.2.2.2.2.2.2.1,x_1.2.1,
 (x.1.2.2.2.2.2.2.2.2.2.2.1.1,
 x.1.2.2.2.2.2.2.2.2.2.2.1.2.1,b.1,
 x.1.2.2.2.2.2.2.2.2.2.2.1.2.2.2),
 ()),
 ())))
 big (0,b)
def S70:Sig:=⟨P70,R70,F70⟩
def E70:Env:=mkE ak 34 [(110,[UR]),(111,[UQ])] [] [(3,bz ⟨[⟨.slot 11,(.int .i64),.pv⟩,⟨.fld 1000 9,(.slice T25),.own false⟩],[1,2,10],[.site 2000]++hL (.fld 2000) 0 11++[.site 1000]++hL (.fld 1000) 0 9++[.fld 1000 10]⟩)]
theorem zfv x:aj E70 Tryz.f70 P70 R70 x=F70 x:=by kernel_rfl
def F73 (x:List ae×Unit):Option (List ae×Unit):=
 bif List.isEmpty x.1 then
 oV (List ae×Unit)
 (some ([],()))
 ((fD [] x.1).bind
 fun b=>
 some (b,()))
 else
 (fD [] x.1).bind
 fun b=>
 some (b,())
def S73:Sig:=⟨P73,R73,F73⟩
def E73:Env:=mkE ak 8 [] [] []
theorem zfs x:aj E73 Tryz.f73 P73 R73 x=F73 x:=by kernel_rfl
def F72 (x:fM×Unit):Option (fM×Unit):=
 (F73 (x.1.2.2.2.2.1,())).bind
 fun b=>
 some
 ((x.1.1,x.1.2.1,x.1.2.2.1,x.1.2.2.2.1,b.1,x.1.2.2.2.2.2),
 ())
def S72:Sig:=⟨P72,R72,F72⟩
def E72:Env:=mkE ak 8 [(73,[S73])] [] []
theorem zft x:aj E72 Tryz.f72 P72 R72 x=F72 x:=by kernel_rfl
def Aj (x:List dJ×Unit):Option (List dJ×Unit):=
 bif List.isEmpty x.1 then
 oV
 (List (Int×Int×(Int×Int×Bool×Int×List ae×ai)×Unit)×Unit)
 (some ([],()))
 ((nT [] x.1).bind
 fun b=>
 some (b,()))
 else
 (nT [] x.1).bind
 fun b=>
 some (b,())
def UM:Sig:=⟨Yk,WB,Aj⟩
def ZU:Env:=mkE ak 8 [] [] []
theorem zdP x:aj ZU Tryz.f114 Yk WB x=Aj x:=by kernel_rfl
def F75 (x:List dJ×Unit):Option (List dJ×Unit):=
 (Aj x).bind
 fun b=>
 aZ
 (List (Int×Int×(Int×Int×Bool×Int×List ae×ai)×Unit)×Int×Unit)
 (List (Int×Int×(Int×Int×Bool×Int×List ae×ai)×Unit)×Unit)
 (fun (x :
 List (Int×Int×(Int×Int×Bool×Int×List ae×ai)×Unit)×Int×Unit)=>
 bif decide (x.2.1 < Int.ofNat (List.length b.1)) then
 (gZ x.1 x.2.1).bind fun b=>
 Option.bind x.1[b]?
 fun (b :
 Int×Int×(Int×Int×Bool×Int×List ae×ai)×Unit)=>
 (F72 b.2.2).bind
 fun b=>
 (gZ x.1 x.2.1).bind fun b_1=>
 Option.bind x.1[b_1]?
 fun (b_2 :
 Int×Int×(Int×Int×Bool×Int×List ae×ai)×Unit)=>
 some
 (Sum.inl
 (List.set x.1 b_1 (b_2.1,b_2.2.1,b.1,b_2.2.2.2),
 wrap64 (x.2.1+1),()))
 else some (Sum.inr (x.1,())))
 big (b.1,0,())
def S75:Sig:=⟨P75,R75,F75⟩
def E75:Env:=mkE ak 24 [(72,[S72]),(114,[UM])] [] [(3,bz ⟨[⟨.slot 3,(.slice T94),.own false⟩,⟨.slot 9,(.int .i64),.pv⟩],[8],[]⟩)]
theorem zfq x:aj E75 Tryz.f75 P75 R75 x=F75 x:=by kernel_rfl
def F76 (x:List ay×Unit):Option (List ay×Unit):=
 bif List.isEmpty x.1 then
 oV (List ay×Unit) (some ([],()))
 ((fD [] x.1).bind fun b=>some (b,()))
 else (fD [] x.1).bind fun b=>some (b,())
def S76:Sig:=⟨P76,R76,F76⟩
def E76:Env:=mkE ak 8 [] [] []
theorem zfp x:aj E76 Tryz.f76 P76 R76 x=F76 x:=by kernel_rfl
def Ak (x:List aN×Unit):Option (List aN×Unit):=
 bif List.isEmpty x.1 then
 oV (List aN×Unit) (some ([],()))
 ((fD [] x.1).bind fun b=>
 some (b,()))
 else
 (fD [] x.1).bind fun b=>
 some (b,())
def UO:Sig:=⟨Ym,WE,Ak⟩
def ZW:Env:=mkE ak 8 [] [] []
theorem zdR x:aj ZW Tryz.f112 Ym WE x=Ak x:=by kernel_rfl
def wV (x:List ax×Unit):Option (List ax×Unit):=
 bif List.isEmpty x.1 then
 oV (List ax×Unit) (some ([],()))
 ((fD [] x.1).bind fun b=>
 some (b,()))
 else
 (fD [] x.1).bind fun b=>
 some (b,())
def UN:Sig:=⟨Yl,WC,wV⟩
def ZV:Env:=mkE ak 8 [] [] []
theorem zdQ x:aj ZV Tryz.f113 Yl WC x=wV x:=by kernel_rfl
def F71 (x:bH×Unit):Option (bH×Unit):=
 (Ak (x.1.2.2.2.2.2.2.2.1,())).bind
 fun b=>
 (wV (x.1.2.2.2.2.2.2.2.2.1,())).bind
 fun b_1=>
 (wV (x.1.2.2.2.2.2.2.2.2.2.1,())).bind
 fun b_2=>
 (F73 (x.1.2.2.2.2.2.2.2.2.2.2.2.2.2.2.1,())).bind
 fun b_3=>
 (F75 (x.1.2.2.2.2.2.2.2.2.2.2.2.2.2.2.2.1,())).bind
 fun b_4=>
 (F76 x.1.2.2.2.2.2.2.2.2.2.2.2.2.2.2.2.2).bind
 fun b_5=>
 some
 ((x.1.1,x.1.2.1,x.1.2.2.1,x.1.2.2.2.1,x.1.2.2.2.2.1,
 x.1.2.2.2.2.2.1,x.1.2.2.2.2.2.2.1,b.1,b_1.1,b_2.1,
 x.1.2.2.2.2.2.2.2.2.2.2.1,
 x.1.2.2.2.2.2.2.2.2.2.2.2.1,
 x.1.2.2.2.2.2.2.2.2.2.2.2.2.1,
 x.1.2.2.2.2.2.2.2.2.2.2.2.2.2.1,b_3.1,b_4.1,b_5),
 ())
def S71:Sig:=⟨P71,R71,F71⟩
def E71:Env:=mkE ak 28 [(73,[S73]),(75,[S75]),(76,[S76]),(112,[UO]),(113,[UN])] [] []
theorem zfu x:aj E71 Tryz.f71 P71 R71 x=F71 x:=by kernel_rfl
def F74 (x:List TBD×Unit):Option (List TBD×Unit):=
 bif List.isEmpty x.1 then
 oV
 (List (Int×List ae×Unit)×Unit)
 (some ([],()))
 ((fD [] x.1).bind
 fun b=>
 some (b,()))
 else
 (fD [] x.1).bind
 fun b=>
 some (b,())
def S74:Sig:=⟨P74,R74,F74⟩
def E74:Env:=mkE ak 8 [] [] []
theorem zfr x:aj E74 Tryz.f74 P74 R74 x=F74 x:=by kernel_rfl
def F49 (x:TMD×Unit):Option (TMD×Unit):=
 (F70 (x.1.2.2.1,())).bind
 fun b=>
 (F71 x.1.2.2.2.1.2.2).bind
 fun b_1=>
 (F72 (x.1.2.2.2.2.2.2.2.2.2.2.2.1,())).bind
 fun b_2=>
 (F73 (x.1.2.2.2.2.2.2.2.2.2.2.2.2.2.1,())).bind
 fun b_3=>
 (F74 (x.1.2.2.2.2.2.2.2.2.2.2.2.2.1,())).bind
 fun b_4=>
 aZ
 (Int×List (Int×List ae×Unit)×Unit)
 ((Int×Int×(Int×Int×Int×Int×Int×Int×Int×Int×Bool×List az×az×Unit)×(Int×Int×(Int×List UInt8×List UInt8×List UInt8×Int×Int×Int×List aN×List ax×List ax×Int×Int×Int×Bool×List ae×List (Int×Int×(Int×Int×Bool×Int×List ae×ai)×Unit)×List ay×Unit)×Unit)×Int×List UInt8×List UInt8×Int×Int×Int×Int×(Int×Int×Bool×Int×List ae×ai)×List (Int×List ae×Unit)×List ae×Bool×(Int×Int×List (Int×Int×(Int×Int×Bool×Int×List ae×ai)×Unit)×List ay×Unit)×aH×Unit)×Unit)
 (fun (x_1 :
 Int×List (Int×List ae×Unit)×Unit)=>
 bif decide (x_1.1 < Int.ofNat (List.length b_4.1)) then
 (gZ x_1.2.1 x_1.1).bind fun b=>
 Option.bind x_1.2.1[b]?
 fun (b :
 Int×List ae×Unit)=>
 (F73 b.2).bind
 fun b=>
 (gZ x_1.2.1 x_1.1).bind fun b_5=>
 Option.bind x_1.2.1[b_5]?
 fun (b_6 :
 Int×List ae×Unit)=>
 some
 (Sum.inl
 (wrap64 (x_1.1+1),
 List.set x_1.2.1 b_5 (b_6.1,b.1,b_6.2.2),()))
 else
 Option.map Sum.inr
 (Option.bind
 (F75
 (x.1.2.2.2.2.2.2.2.2.2.2.2.2.2.2.2.1.2.2.1,()))
 fun b_5=>
 Option.bind
 (F76 x.1.2.2.2.2.2.2.2.2.2.2.2.2.2.2.2.1.2.2.2)
 fun b_6=>
 some
 ((x.1.1,x.1.2.1,b.1,
 (x.1.2.2.2.1.1,x.1.2.2.2.1.2.1,b_1.1,
 x.1.2.2.2.1.2.2.2),
 x.1.2.2.2.2.1,x.1.2.2.2.2.2.1,
 x.1.2.2.2.2.2.2.1,x.1.2.2.2.2.2.2.2.1,
 x.1.2.2.2.2.2.2.2.2.1,x.1.2.2.2.2.2.2.2.2.2.1,
 x.1.2.2.2.2.2.2.2.2.2.2.1,b_2.1,x_1.2.1,b_3.1,
 x.1.2.2.2.2.2.2.2.2.2.2.2.2.2.2.1,
 (x.1.2.2.2.2.2.2.2.2.2.2.2.2.2.2.2.1.1,
 x.1.2.2.2.2.2.2.2.2.2.2.2.2.2.2.2.1.2.1,b_5.1,
 b_6.1,
 x.1.2.2.2.2.2.2.2.2.2.2.2.2.2.2.2.1.2.2.2.2),
 x.1.2.2.2.2.2.2.2.2.2.2.2.2.2.2.2.2),
 ())))
 big (0,b_4)
def S49:Sig:=⟨P49,R49,F49⟩
def E49:Env:=mkE ak 58 [(70,[S70]),(71,[S71]),(72,[S72]),(73,[S73]),(74,[S74]),(75,[S75]),(76,[S76])] [] [(4,bz ⟨[⟨.slot 29,(.int .i64),.pv⟩,⟨.fld 1000 12,(.slice TB),.own false⟩],[1,2,28],[.site 2000]++hL (.fld 2000) 0 17++[.site 1000]++hL (.fld 1000) 0 12++hL (.fld 1000) 13 4++[.row 2003001]⟩)]
theorem zfQ x:aj E49 Tryz.f49 P49 R49 x=F49 x:=by kernel_rfl
def F42 (x:kK×Unit):Option (nU×kK×Unit):=
 (F49 x.1.2.2.2.2.2.2.2.2).bind
 fun b=>
 some
 ((x.1.1,
 wrap64 (wrap64 (4*x.1.2.1)+x.1.2.2.2.2.2.1),b),
 x)
def S42:Sig:=⟨P42,R42,F42⟩
def E42:Env:=mkE ak 23 [(49,[S49])] [] []
theorem zfX x:aj E42 Tryz.f42 P42 R42 x=F42 x:=by kernel_rfl
def F23 (x:kK×Unit):Option (nU×Bool×kK×Unit):=
 bif !x.1.2.2.2.2.2.2.2.1 then
 some
 ((0,0,
 zT,
 ()),
 false,x)
 else
 bif decide (wrap64 (x.1.2.2.2.2.2.2.1+1) < x.1.2.2.2.1) then
 some
 ((0,0,
 zT,
 ()),
 false,
 (x.1.1,x.1.2.1,x.1.2.2.1,x.1.2.2.2.1,x.1.2.2.2.2.1,
 x.1.2.2.2.2.2.1,wrap64 (x.1.2.2.2.2.2.2.1+1),
 x.1.2.2.2.2.2.2.2),
 ())
 else
 bif decide (wrap64 (x.1.2.2.2.2.2.2.1+1)=x.1.2.2.2.1) then
 (lX (wrap64 (x.1.2.2.2.2.2.1+1)) x.1.2.2.1).bind
 fun b=>
 Option.bind
 (F42
 ((x.1.1,x.1.2.1,x.1.2.2.1,x.1.2.2.2.1,x.1.2.2.2.2.1,b,0,
 x.1.2.2.2.2.2.2.2),
 ()))
 fun b=>
 some (b.1,true,b.2)
 else
 Option.bind
 (F42
 ((x.1.1,x.1.2.1,x.1.2.2.1,x.1.2.2.2.1,x.1.2.2.2.2.1,
 x.1.2.2.2.2.2.1,0,x.1.2.2.2.2.2.2.2),
 ()))
 fun b=>
 some (b.1,true,b.2)
def S23:Sig:=⟨P23,R23,F23⟩
def E23:Env:=mkE ak 58 [(42,[S42])] [] []
theorem zgg x:aj E23 Tryz.f23 P23 R23 x=F23 x:=by kernel_rfl
def F61 (x:bH×Unit):Option (TMD×Unit):=
 some
 ((2,0,zM,(0,0,x),0,[],[],0,0,0,0,
 zR,[],[],false,(0,0,[],[],()),
 zV,()),
 ())
def S61:Sig:=⟨P61,R61,F61⟩
def E61:Env:=mkE ak 6 [] [] []
theorem zfE x:aj E61 Tryz.f61 P61 R61 x=F61 x:=by kernel_rfl
def F43 (x:dm×Unit):Option (TMD×Int×dm×Unit):=
 bif !decide (x.1.2.2.2.2.2.2.1.1=4) then
 Option.bind
 (F61 ((16,[],[],[],0,0,0,[],[],[],x.1.1.1,0,0,false,[],[],[],()),()))
 fun b=>
 some (b.1,1,x)
 else
 bif !decide (x.1.2.2.2.2.2.2.1.2.1=x.1.1.1) then
 Option.bind
 (F61 ((16,[],[],[],0,0,0,[],[],[],x.1.1.1,0,0,false,[],[],[],()),()))
 fun b=>
 some (b.1,1,x)
 else
 bif !x.1.2.2.2.2.2.2.2.2.2.2.2.2.2.1 then
 Option.bind
 (F61 ((11,[],[],[],0,0,0,[],[],[],x.1.1.1,0,0,false,[],[],[],()),()))
 fun b=>
 some (b.1,0,x)
 else
 some
 (zT,
 0,x)
def S43:Sig:=⟨P43,R43,F43⟩
def E43:Env:=mkE ak 45 [(61,[S61])] [] []
theorem zfW x:aj E43 Tryz.f43 P43 R43 x=F43 x:=by kernel_rfl
def F44 (x:dm×Unit):Option (TMD×Int×dm×Unit):=
 bif decide (x.1.2.2.2.2.2.2.2.1=0) then
 some
 ((7,0,zM,
 zJ,0,[],[],
 0,0,0,0,zR,[],[],false,(0,0,[],[],()),
 zV,()),
 0,x)
 else
 Option.bind
 (bif decide (x.1.2.2.2.2.2.2.1.2.1=x.1.1.1) then
 some (Sum.inl (wrap64 (x.1.2.2.2.2.2.2.1.2.2.1+1),()))
 else some (Sum.inl (1,())))
 fun o=>
 Sum.elim
 (fun (x_1:Int×Unit)=>
 Option.bind
 (F61
 ((12,x.1.1.2.1,x.1.1.2.2.1,[],0,0,x.1.2.2.2.2.2.2.2.1,[],[],
 [],x.1.1.1,x_1.1,0,false,[],[],[],()),
 ()))
 fun b=>
 some (b.1,1,x))
 some o
def S44:Sig:=⟨P44,R44,F44⟩
def E44:Env:=mkE ak 50 [(61,[S61])] [(6,⟨[⟨.slot 4,(.int .i64),.pv⟩],[0,2],[.site 0]++hL (.fld 0) 0 14++[.row 3,.row 2,.site 1000]++hL (.fld 1000) 0 17⟩)] []
theorem zfV x:aj E44 Tryz.f44 P44 R44 x=F44 x:=by kernel_rfl
def F62 (x:dm×Int×Unit):Option (bH×dm×Unit):=
 some
 ((x.2.1,[],[],[],0,0,0,[],[],[],x.1.2.2.2.2.2.2.1.2.1,
 x.1.2.2.2.2.2.2.1.2.2.1,0,false,[],[],[],()),
 x.1,())
def S62:Sig:=⟨P62,R62,F62⟩
def E62:Env:=mkE ak 17 [] [] []
theorem zfD x:aj E62 Tryz.f62 P62 R62 x=F62 x:=by kernel_rfl
def F45 (x:dm×Unit):Option (TMD×Int×dm×Unit):=
 bif List.isEmpty x.1.2.2.2.2.2.2.2.2.1 then
 some
 ((5,0,zM,
 zJ,0,
 x.1.1.2.1,x.1.2.2.2.2.2.2.1.2.2.2.2.2.2.1,
 x.1.2.2.2.2.2.2.1.2.2.2.2.2.1,0,0,0,zR,
 [],[],false,(0,0,[],[],()),zV,()),
 0,x)
 else
 (F62 (x.1,13,())).bind
 fun b=>
 Option.bind (List.head? b.2.1.2.2.2.2.2.2.2.2.1)
 fun b_1=>
 Option.bind (List.head? b.2.1.2.2.2.2.2.2.2.2.1)
 fun b_2=>
 Option.bind (List.head? b.2.1.2.2.2.2.2.2.2.2.1)
 fun b_3=>
 bif decide (0 < Int.ofNat (List.length b_3.1)) then
 Option.bind (List.head? b.2.1.2.2.2.2.2.2.2.2.1)
 fun b_4=>
 (idx b_4.1 (wrap64 (Int.ofNat (List.length b_3.1) - 1))).bind
 fun b_5=>
 Option.bind
 (F61
 ((b.1.1,b.2.1.2.2.2.2.2.2.1.2.2.2.2.2.2.1,b_5.1,
 bn b.1.2.2.2 (b_1.2.1,b_2.1,
 b.1.2.2.2.2.2.2.2.2.2.2.2.2.2.2.2)),
 ()))
 fun b_6=>
 some (b_6.1,1,b.2)
 else
 Option.bind
 (F61
 ((b.1.1,b.2.1.2.2.2.2.2.2.1.2.2.2.2.2.2.1,
 b.2.1.2.2.2.2.2.2.1.2.2.2.2.2.2.1,bn b.1.2.2.2 (b_1.2.1,b_2.1,
 b.1.2.2.2.2.2.2.2.2.2.2.2.2.2.2.2)),
 ()))
 fun b_4=>
 some (b_4.1,1,b.2)
def S45:Sig:=⟨P45,R45,F45⟩
def E45:Env:=mkE ak 82 [(61,[S61]),(62,[S62])] [] []
theorem zfU x:aj E45 Tryz.f45 P45 R45 x=F45 x:=by kernel_rfl
def F63 (x:List UInt8×Unit):Option (List UInt8×Unit):=
 (F40 x).bind fun b=>
 bif !b.1 then some ([],())
 else
 (gZ x.1 (wrap64 (Int.ofNat (List.length x.1) - 1))).bind fun b=>
 Option.bind x.1[b]? fun (b:UInt8)=>
 (gZ x.1 (wrap64 (Int.ofNat (List.length x.1) - 1))).bind fun b_1=>
 Option.bind x.1[b_1]? fun (_z:UInt8)=>
 some
 (List.set x.1 b_1 (Sx.byteOf (IntKind.wrap IntKind.u8 (aQ b+aQ (UInt8.ofNat 1)))),
 ())
def S63:Sig:=⟨P63,R63,F63⟩
def E63:Env:=mkE ak 19 [(40,[S40])] [] []
theorem zfC x:aj E63 Tryz.f63 P63 R63 x=F63 x:=by kernel_rfl
def F46 (x:dm×Unit):Option (TMD×Int×dm×Unit):=
 Option.bind
 (bif !List.isEmpty x.1.2.2.2.2.2.2.2.2.2.1 then
 (F62 (x.1,14,())).bind
 fun b=>
 Option.bind (List.head? b.2.1.2.2.2.2.2.2.2.2.2.1)
 fun b_1=>
 Option.bind (List.head? b.2.1.2.2.2.2.2.2.2.2.2.1)
 fun b_2=>
 Option.bind
 (F61
 ((b.1.1,b.1.2.1,b.1.2.2.1,b.1.2.2.2.1,b.1.2.2.2.2.1,
 b.1.2.2.2.2.2.1,
 b.2.1.2.2.2.2.2.2.1.2.2.2.2.2.2.2.1,
 b.1.2.2.2.2.2.2.2.1,b.1.2.2.2.2.2.2.2.2.1,
 b.1.2.2.2.2.2.2.2.2.2.1,b.1.2.2.2.2.2.2.2.2.2.2.1,
 b.1.2.2.2.2.2.2.2.2.2.2.2.1,b_1.2.1,
 b.1.2.2.2.2.2.2.2.2.2.2.2.2.2.1,b_2.1,
 b.1.2.2.2.2.2.2.2.2.2.2.2.2.2.2.2),
 ()))
 fun b_3=>
 some (Sum.inr (b_3.1,1,b.2))
 else
 bif decide (x.1.2.1=1) then
 bif !x.1.2.2.2.2.2.2.2.2.2.2.2.1 then
 Option.bind
 (F61
 ((10,x.1.1.2.1,[],[],0,0,0,[],[],[],x.1.1.1,0,0,false,[],[],[],()),
 ()))
 fun b=>
 some (Sum.inr (b.1,0,x))
 else
 bif decide (x.1.2.1=1) then
 bif List.isEmpty x.1.2.2.2.2.2.2.2.2.2.2.2.2.1 then
 some
 (Sum.inr
 ((6,0,zM,
 zJ,
 0,[],[],x.1.1.1,0,0,0,zR,[],[],false,
 (0,0,[],[],()),zV,()),
 0,x))
 else
 bif decide (x.1.2.1=1) then
 Option.bind (List.head? x.1.2.2.2.2.2.2.2.2.2.2.2.2.1)
 fun b=>
 bif decide (b.2.1≤x.1.2.2.2.2.2.2.1.2.2.2.2.2.2.2.1) then
 (F62 (x.1,15,())).bind
 fun b=>
 Option.bind (List.head? b.2.1.2.2.2.2.2.2.2.2.2.2.2.2.1)
 fun b_1=>
 Option.bind (List.head? b.2.1.2.2.2.2.2.2.2.2.2.2.2.2.1)
 fun b_2=>
 Option.bind (List.head? b.2.1.2.2.2.2.2.2.2.2.2.2.2.2.1)
 fun b_3=>
 Option.bind
 (F61
 ((b.1.1,b.1.2.1,b.1.2.2.1,b.1.2.2.2.1,
 b.1.2.2.2.2.1,b.1.2.2.2.2.2.1,b_1.2.1,
 tk8 b.1.2.2.2.2.2.2.2 (b_2.2.2.1,
 b_3.2.2.2)),
 ()))
 fun b_4=>
 some (Sum.inr (b_4.1,1,b.2))
 else
 some
 (Sum.inl
 (aV x.1 zT))
 else
 some
 (Sum.inl
 (aV x.1 zT))
 else
 bif decide (x.1.2.1=1) then
 Option.bind (List.head? x.1.2.2.2.2.2.2.2.2.2.2.2.2.1)
 fun b=>
 bif decide (b.2.1≤x.1.2.2.2.2.2.2.1.2.2.2.2.2.2.2.1) then
 (F62 (x.1,15,())).bind
 fun b=>
 Option.bind (List.head? b.2.1.2.2.2.2.2.2.2.2.2.2.2.2.1)
 fun b_1=>
 Option.bind (List.head? b.2.1.2.2.2.2.2.2.2.2.2.2.2.2.1)
 fun b_2=>
 Option.bind (List.head? b.2.1.2.2.2.2.2.2.2.2.2.2.2.2.1)
 fun b_3=>
 Option.bind
 (F61
 ((b.1.1,b.1.2.1,b.1.2.2.1,b.1.2.2.2.1,
 b.1.2.2.2.2.1,b.1.2.2.2.2.2.1,b_1.2.1,
 tk8 b.1.2.2.2.2.2.2.2 (b_2.2.2.1,
 b_3.2.2.2)),
 ()))
 fun b_4=>
 some (Sum.inr (b_4.1,1,b.2))
 else
 some
 (Sum.inl
 (aV x.1 zT))
 else
 some
 (Sum.inl
 (aV x.1 zT))
 else
 bif decide (x.1.2.1=1) then
 bif List.isEmpty x.1.2.2.2.2.2.2.2.2.2.2.2.2.1 then
 some
 (Sum.inr
 ((6,0,zM,
 zJ,0,
 [],[],x.1.1.1,0,0,0,zR,[],[],false,
 (0,0,[],[],()),zV,()),
 0,x))
 else
 bif decide (x.1.2.1=1) then
 Option.bind (List.head? x.1.2.2.2.2.2.2.2.2.2.2.2.2.1)
 fun b=>
 bif decide (b.2.1≤x.1.2.2.2.2.2.2.1.2.2.2.2.2.2.2.1) then
 (F62 (x.1,15,())).bind
 fun b=>
 Option.bind (List.head? b.2.1.2.2.2.2.2.2.2.2.2.2.2.2.1)
 fun b_1=>
 Option.bind (List.head? b.2.1.2.2.2.2.2.2.2.2.2.2.2.2.1)
 fun b_2=>
 Option.bind (List.head? b.2.1.2.2.2.2.2.2.2.2.2.2.2.2.1)
 fun b_3=>
 Option.bind
 (F61
 ((b.1.1,b.1.2.1,b.1.2.2.1,b.1.2.2.2.1,
 b.1.2.2.2.2.1,b.1.2.2.2.2.2.1,b_1.2.1,
 tk8 b.1.2.2.2.2.2.2.2 (b_2.2.2.1,
 b_3.2.2.2)),
 ()))
 fun b_4=>
 some (Sum.inr (b_4.1,1,b.2))
 else
 some
 (Sum.inl
 (aV x.1 zT))
 else
 some
 (Sum.inl
 (aV x.1 zT))
 else
 bif decide (x.1.2.1=1) then
 Option.bind (List.head? x.1.2.2.2.2.2.2.2.2.2.2.2.2.1)
 fun b=>
 bif decide (b.2.1≤x.1.2.2.2.2.2.2.1.2.2.2.2.2.2.2.1) then
 (F62 (x.1,15,())).bind
 fun b=>
 Option.bind (List.head? b.2.1.2.2.2.2.2.2.2.2.2.2.2.2.1)
 fun b_1=>
 Option.bind (List.head? b.2.1.2.2.2.2.2.2.2.2.2.2.2.2.1)
 fun b_2=>
 Option.bind (List.head? b.2.1.2.2.2.2.2.2.2.2.2.2.2.2.1)
 fun b_3=>
 Option.bind
 (F61
 ((b.1.1,b.1.2.1,b.1.2.2.1,b.1.2.2.2.1,
 b.1.2.2.2.2.1,b.1.2.2.2.2.2.1,b_1.2.1,
 tk8 b.1.2.2.2.2.2.2.2 (b_2.2.2.1,
 b_3.2.2.2)),
 ()))
 fun b_4=>
 some (Sum.inr (b_4.1,1,b.2))
 else
 some
 (Sum.inl
 (aV x.1 zT))
 else
 some
 (Sum.inl
 (aV x.1 zT)))
 fun o=>
 Sum.elim
 (fun (x :
 lw×Int×List (Int×Int×Int×Int×Int×Int×Int×Bool×(Int×Int×(Int×Int×Int×Int×Int×Int×Int×Int×Bool×List az×az×Unit)×(Int×Int×(Int×List UInt8×List UInt8×List UInt8×Int×Int×Int×List aN×List ax×List ax×Int×Int×Int×Bool×List ae×List (Int×Int×(Int×Int×Bool×Int×List ae×ai)×Unit)×List ay×Unit)×Unit)×Int×List UInt8×List UInt8×Int×Int×Int×Int×(Int×Int×Bool×Int×List ae×ai)×List (Int×List ae×Unit)×List ae×Bool×(Int×Int×List (Int×Int×(Int×Int×Bool×Int×List ae×ai)×Unit)×List ay×Unit)×aH×Unit)×Unit)×List (Int×Int×Int×Int×Int×Int×Int×Bool×(Int×Int×(Int×Int×Int×Int×Int×Int×Int×Int×Bool×List az×az×Unit)×(Int×Int×(Int×List UInt8×List UInt8×List UInt8×Int×Int×Int×List aN×List ax×List ax×Int×Int×Int×Bool×List ae×List (Int×Int×(Int×Int×Bool×Int×List ae×ai)×Unit)×List ay×Unit)×Unit)×Int×List UInt8×List UInt8×Int×Int×Int×Int×(Int×Int×Bool×Int×List ae×ai)×List (Int×List ae×Unit)×List ae×Bool×(Int×Int×List (Int×Int×(Int×Int×Bool×Int×List ae×ai)×Unit)×List ay×Unit)×aH×Unit)×Unit)×(Int×Int×(Int×Int×Int×Int×Int×Int×Int×Int×Bool×List az×az×Unit)×(Int×Int×(Int×List UInt8×List UInt8×List UInt8×Int×Int×Int×List aN×List ax×List ax×Int×Int×Int×Bool×List ae×List (Int×Int×(Int×Int×Bool×Int×List ae×ai)×Unit)×List ay×Unit)×Unit)×Int×List UInt8×List UInt8×Int×Int×Int×Int×(Int×Int×Bool×Int×List ae×ai)×List (Int×List ae×Unit)×List ae×Bool×(Int×Int×List (Int×Int×(Int×Int×Bool×Int×List ae×ai)×Unit)×List ay×Unit)×aH×Unit)×Bool×aH×Int×List (List ae×Bool×Unit)×List (List ae×Int×Unit)×Bool×Bool×List (Int×Int×List (Int×Int×(Int×Int×Bool×Int×List ae×ai)×Unit)×List ay×Unit)×Bool×Int×Int×(Int×Int×Int×Int×Int×Int×Int×Int×Bool×List az×az×Unit)×(Int×Int×(Int×List UInt8×List UInt8×List UInt8×Int×Int×Int×List aN×List ax×List ax×Int×Int×Int×Bool×List ae×List (Int×Int×(Int×Int×Bool×Int×List ae×ai)×Unit)×List ay×Unit)×Unit)×Int×List UInt8×List UInt8×Int×Int×Int×Int×(Int×Int×Bool×Int×List ae×ai)×List (Int×List ae×Unit)×List ae×Bool×(Int×Int×List (Int×Int×(Int×Int×Bool×Int×List ae×ai)×Unit)×List ay×Unit)×aH×Unit)=>
 (F63 (x.1.2.1,())).bind fun b=>
 some
 ((4,0,zM,
 zJ,0,
 x.1.2.1,b.1,
 wrap64 (x.2.2.2.2.2.2.1.2.2.2.2.2.2.2.1+1),0,0,0,
 zR,[],[],false,(0,0,[],[],()),
 zV,()),
 0,
 (aV x (())),
 ()))
 some o
def S46:Sig:=⟨P46,R46,F46⟩
def E46:Env:=mkE ak 149 [(61,[S61]),(62,[S62]),(63,[S63])] [(13,⟨[⟨.fld 0 0,Y24,.pv⟩,⟨.fld 0 1,(.int .i64),.pv⟩,⟨.fld 0 2,(.ptr gQ),.own false⟩,⟨.fld 0 3,(.ptr gQ),.own false⟩,⟨.fld 0 4,TM,.pv⟩,⟨.fld 0 5,.bool,.pv⟩,⟨.fld 0 6,T53,.pv⟩,⟨.fld 0 7,(.int .i64),.pv⟩,⟨.fld 0 8,(.ptr sV),.pv⟩,⟨.fld 0 9,(.ptr sU),.pv⟩,⟨.fld 0 10,.bool,.pv⟩,⟨.fld 0 11,.bool,.pv⟩,⟨.fld 0 12,(.ptr T55),.pv⟩,⟨.fld 0 13,.bool,.pv⟩,⟨.fld 1000 0,(.int .i64),.pv⟩,⟨.fld 1000 1,(.int .i64),.pv⟩,⟨.fld 1000 2,T27,.pv⟩,⟨.fld 1000 3,T33,.pv⟩,⟨.fld 1000 4,(.int .i64),.pv⟩,⟨.fld 1000 5,.str,.pv⟩,⟨.fld 1000 6,.str,.pv⟩,⟨.fld 1000 7,(.int .i64),.pv⟩,⟨.fld 1000 8,(.int .i64),.pv⟩,⟨.fld 1000 9,(.int .i64),.pv⟩,⟨.fld 1000 10,(.int .i64),.pv⟩,⟨.fld 1000 11,T51,.pv⟩,⟨.fld 1000 12,(.slice TB),.own false⟩,⟨.fld 1000 13,(.slice T70),.own false⟩,⟨.fld 1000 14,.bool,.pv⟩,⟨.fld 1000 15,T55,.pv⟩,⟨.fld 1000 16,T53,.pv⟩],[0,2],[.site 0,.site 1000]⟩)] []
theorem zfT x:aj E46 Tryz.f46 P46 R46 x=F46 x:=by kernel_rfl
def F24 (x:dm×Unit):Option (TMD×Int×dm×Unit):=
 bif !x.1.2.2.2.2.2.1 then
 some
 ((7,0,zM,
 zJ,0,[],[],
 0,0,0,0,zR,[],[],false,(0,0,[],[],()),
 zV,()),
 1,x)
 else
 bif decide (x.1.2.2.2.2.2.2.1.1=3) then
 some
 (zT,
 0,x)
 else
 bif decide (x.1.1.1 < x.1.2.2.2.2.2.2.1.2.1) then
 some
 (zT,
 0,x)
 else
 bif decide (x.1.2.1=2) then
 (F43 x).bind
 fun b=>
 some b
 else
 bif decide (x.1.2.2.2.2.2.2.1.1=4) then
 bif decide (x.1.2.2.2.2.2.2.1.2.1=x.1.1.1) then
 (F43 x).bind
 fun b=>
 some b
 else
 bif decide (x.1.2.2.2.2.2.2.1.1=0) then
 (F44 x).bind
 fun b=>
 some b
 else
 bif decide (x.1.2.2.2.2.2.2.1.1=4) then
 (F44 x).bind
 fun b=>
 some b
 else
 bif x.1.2.2.2.2.2.2.2.2.2.2.1 then
 (F44 x).bind
 fun b=>
 some b
 else
 bif decide (x.1.2.2.2.2.2.2.1.1=1) then
 (F45 x).bind
 fun b=>
 some b
 else
 (F46 x).bind
 fun b=>
 some b
 else
 bif decide (x.1.2.2.2.2.2.2.1.1=0) then
 (F44 x).bind
 fun b=>
 some b
 else
 bif decide (x.1.2.2.2.2.2.2.1.1=4) then
 (F44 x).bind
 fun b=>
 some b
 else
 bif x.1.2.2.2.2.2.2.2.2.2.2.1 then
 (F44 x).bind
 fun b=>
 some b
 else
 bif decide (x.1.2.2.2.2.2.2.1.1=1) then
 (F45 x).bind
 fun b=>
 some b
 else
 (F46 x).bind
 fun b=>
 some b
def S24:Sig:=⟨P24,R24,F24⟩
def E24:Env:=mkE ak 91 [(43,[S43]),(44,[S44]),(45,[S45]),(46,[S46])] [] []
theorem zgf x:aj E24 Tryz.f24 P24 R24 x=F24 x:=by kernel_rfl
def F47 (x:Int×Unit):Option (Int×Unit):=
 bif decide (x.1=2) then
 bif decide (x.1=2) then some (8,())
 else
 bif decide (x.1=4) then some (9,())
 else
 bif decide (x.1=5) then some (10,())
 else
 bif decide (x.1=6) then some (11,())
 else bif decide (x.1=7) then some (12,()) else some (0,())
 else
 bif decide (x.1=3) then some (8,())
 else
 bif decide (x.1=4) then some (9,())
 else
 bif decide (x.1=5) then some (10,())
 else
 bif decide (x.1=6) then some (11,())
 else bif decide (x.1=7) then some (12,()) else some (0,())
def S47:Sig:=⟨P47,R47,F47⟩
def E47:Env:=mkE ak 15 [] [] []
theorem zfS x:aj E47 Tryz.f47 P47 R47 x=F47 x:=by kernel_rfl
def wS (x:List UInt8×List UInt8×Unit):Option (Bool×Unit):=some (decide (x.1=x.2.1),())
def Je:Sig:=⟨XZ,V5,wS⟩
def Zz:Env:=mkE ak 10 [] [] []
theorem zdw x:aj Zz Tryz.f133 XZ V5 x=wS x:=by kernel_rfl
def zL (x:az×az×Unit):Option (Bool×Unit):=
 bif decide (x.1.1=x.2.1.1) then
 bif decide (x.1.2.1=x.2.1.2.1) then
 (wS (x.1.2.2.1,x.2.1.2.2)).bind fun b=>some b
 else some (false,())
 else some (false,())
def I4:Sig:=⟨Xt,Vw,zL⟩
def Y3:Env:=mkE ak 24 [(133,[Je])] [] []
theorem zc1 x:aj Y3 Tryz.f168 Xt Vw x=zL x:=by kernel_rfl
def Dw (x:List az×List az×Unit):Option (Bool×Unit):=
 bif !decide (Int.ofNat (List.length x.1)=Int.ofNat (List.length x.2.1)) then some (false,())
 else
 aZ (Int×Unit) (Bool×Unit)
 (fun (x_1:Int×Unit)=>
 bif decide (x_1.1 < Int.ofNat (List.length x.1)) then
 (idx x.1 x_1.1).bind fun b=>
 (idx x.2.1 x_1.1).bind fun b_1=>
 (zL (b,b_1,())).bind fun b=>
 bif !b.1 then some (Sum.inr (false,()))
 else some (Sum.inl (wrap64 (x_1.1+1),()))
 else some (Sum.inr (true,())))
 big (0,())
def QJ:Sig:=⟨Rx,Q3,Dw⟩
def Sv:Env:=mkE ak 32 [(168,[I4])] [] [(4,bz ⟨[⟨.slot 17,(.int .i64),.pv⟩],[1,2,15,16],[]⟩)]
theorem zbL x:aj Sv Tryz.f167 Rx Q3 x=Dw x:=by kernel_rfl
def Ad (x:List az×List az×Unit):Option (Bool×Unit):=
 (Dw x).bind fun b=>some b
def UC:Sig:=⟨X0,V6,Ad⟩
def ZA:Env:=mkE ak 8 [(167,[QJ]),(168,[I4])] [] []
theorem zdx x:aj ZA Tryz.f132 X0 V6 x=Ad x:=by kernel_rfl
def F91 (x:iO×iO×Unit):Option (Bool×Unit):=
 bif decide (x.1.1=x.2.1.1) then
 bif decide (x.1.2.1=x.2.1.2.1) then
 bif decide (x.1.2.2.1=x.2.1.2.2.1) then
 bif decide (x.1.2.2.2.1=x.2.1.2.2.2.1) then
 bif decide (x.1.2.2.2.2.1=x.2.1.2.2.2.2.1) then
 bif decide (x.1.2.2.2.2.2.1=x.2.1.2.2.2.2.2.1) then
 bif decide (x.1.2.2.2.2.2.2.1=x.2.1.2.2.2.2.2.2.1) then
 bif decide (x.1.2.2.2.2.2.2.2.1=x.2.1.2.2.2.2.2.2.2.1) then
 bif x.1.2.2.2.2.2.2.2.2.1 == x.2.1.2.2.2.2.2.2.2.2.1 then
 Option.bind
 (Ad
 (x.1.2.2.2.2.2.2.2.2.2.1,
 x.2.1.2.2.2.2.2.2.2.2.2.1,()))
 fun b=>
 bif b.1 then
 bif
 decide
 (x.1.2.2.2.2.2.2.2.2.2.2.1.1 =
 x.2.1.2.2.2.2.2.2.2.2.2.2.1.1) then
 bif
 decide
 (x.1.2.2.2.2.2.2.2.2.2.2.1.2.1 =
 x.2.1.2.2.2.2.2.2.2.2.2.2.1.2.1) then
 Option.bind
 (wS
 (x.1.2.2.2.2.2.2.2.2.2.2.1.2.2.1,
 x.2.1.2.2.2.2.2.2.2.2.2.2.1.2.2))
 fun b=>some b
 else some (false,())
 else some (false,())
 else some (false,())
 else some (false,())
 else some (false,())
 else some (false,())
 else some (false,())
 else some (false,())
 else some (false,())
 else some (false,())
 else some (false,())
 else some (false,())
def S91:Sig:=⟨P91,R91,F91⟩
def E91:Env:=mkE ak 100 [(132,[UC]),(133,[Je])] [] []
theorem zfa x:aj E91 Tryz.f91 P91 R91 x=F91 x:=by kernel_rfl
def Ac (x:List aN×List aN×Unit):Option (Bool×Unit):=
 bif !decide (Int.ofNat (List.length x.1)=Int.ofNat (List.length x.2.1)) then some (false,())
 else
 aZ (Int×Unit) (Bool×Unit)
 (fun (x_1:Int×Unit)=>
 bif decide (x_1.1 < Int.ofNat (List.length x.1)) then
 (idx x.1 x_1.1).bind fun b=>
 (idx x.2.1 x_1.1).bind fun b_1=>
 bif
 !(decide (b.1=b_1.1) &&
 (decide (b.2.1=b_1.2.1) &&
 (decide (b.2.2.1=b_1.2.2.1) &&
 (decide (b.2.2.2.1=b_1.2.2.2.1) &&
 (decide (b.2.2.2.2.1=b_1.2.2.2.2.1) && true))))) then
 some (Sum.inr (false,()))
 else some (Sum.inl (wrap64 (x_1.1+1),()))
 else some (Sum.inr (true,())))
 big (0,())
def UB:Sig:=⟨XY,V4,Ac⟩
def Zy:Env:=mkE ak 26 [] [] [(4,bz ⟨[⟨.slot 13,(.int .i64),.pv⟩],[0,1,12],[]⟩)]
theorem zdv x:aj Zy Tryz.f134 XY V4 x=Ac x:=by kernel_rfl
def wR (x:List ax×List ax×Unit):Option (Bool×Unit):=
 bif !decide (Int.ofNat (List.length x.1)=Int.ofNat (List.length x.2.1)) then some (false,())
 else
 aZ (Int×Unit) (Bool×Unit)
 (fun (x_1:Int×Unit)=>
 bif decide (x_1.1 < Int.ofNat (List.length x.1)) then
 (idx x.1 x_1.1).bind fun b=>
 (idx x.2.1 x_1.1).bind fun b_1=>
 bif
 !(decide (b.1=b_1.1) &&
 (decide (b.2.1=b_1.2.1) &&
 (decide (b.2.2.1=b_1.2.2.1) &&
 (decide (b.2.2.2.1=b_1.2.2.2.1) &&
 (decide (b.2.2.2.2.1=b_1.2.2.2.2.1) && true))))) then
 some (Sum.inr (false,()))
 else some (Sum.inl (wrap64 (x_1.1+1),()))
 else some (Sum.inr (true,())))
 big (0,())
def UA:Sig:=⟨XX,V3,wR⟩
def Zx:Env:=mkE ak 26 [] [] [(4,bz ⟨[⟨.slot 13,(.int .i64),.pv⟩],[0,1,12],[]⟩)]
theorem zdu x:aj Zx Tryz.f135 XX V3 x=wR x:=by kernel_rfl
def F95 (x:List ae×List ae×Unit):Option (Bool×Unit):=
 bif !decide (Int.ofNat (List.length x.1)=Int.ofNat (List.length x.2.1)) then some (false,())
 else
 aZ (Int×Unit) (Bool×Unit)
 (fun (x_1:Int×Unit)=>
 bif decide (x_1.1 < Int.ofNat (List.length x.1)) then
 (idx x.1 x_1.1).bind
 fun b=>
 (idx x.2.1 x_1.1).bind
 fun b_1=>
 bif
 !(decide (b.1=b_1.1) &&
 (decide (b.2.1.1=b_1.2.1.1) &&
 (decide (b.2.1.2.1=b_1.2.1.2.1) &&
 (decide (b.2.1.2.2.1=b_1.2.1.2.2.1) &&
 (decide (b.2.1.2.2.2.1=b_1.2.1.2.2.2.1) &&
 (decide (b.2.1.2.2.2.2.1=b_1.2.1.2.2.2.2.1) &&
 (decide (b.2.1.2.2.2.2.2.1=b_1.2.1.2.2.2.2.2.1) &&
 (b.2.1.2.2.2.2.2.2.1 == b_1.2.1.2.2.2.2.2.2.1 &&
 true)))))) &&
 true)) then
 some (Sum.inr (false,()))
 else some (Sum.inl (wrap64 (x_1.1+1),()))
 else some (Sum.inr (true,())))
 big (0,())
def S95:Sig:=⟨P95,R95,F95⟩
def E95:Env:=mkE ak 26 [] [] [(4,bz ⟨[⟨.slot 13,(.int .i64),.pv⟩],[0,1,12],[]⟩)]
theorem ze6 x:aj E95 Tryz.f95 P95 R95 x=F95 x:=by kernel_rfl
def wQ (x:List ae×List ae×Unit):Option (Bool×Unit):=
 (F95 x).bind fun b=>some b
def Jd:Sig:=⟨XW,VZ,wQ⟩
def Zw:Env:=mkE ak 8 [(95,[S95])] [] []
theorem zdt x:aj Zw Tryz.f136 XW VZ x=wQ x:=by kernel_rfl
def F93 (x:fM×fM×Unit):Option (Bool×Unit):=
 bif decide (x.1.1=x.2.1.1) then
 bif decide (x.1.2.1=x.2.1.2.1) then
 bif x.1.2.2.1 == x.2.1.2.2.1 then
 bif decide (x.1.2.2.2.1=x.2.1.2.2.2.1) then
 bif decide (x.1.2.2.2.2.2.1=x.2.1.2.2.2.2.2.1) then
 bif decide (x.1.2.2.2.2.2.2.1=x.2.1.2.2.2.2.2.2.1) then
 (wQ (x.1.2.2.2.2.1,x.2.1.2.2.2.2.1,())).bind
 fun b=>some b
 else some (false,())
 else some (false,())
 else some (false,())
 else some (false,())
 else some (false,())
 else some (false,())
def S93:Sig:=⟨P93,R93,F93⟩
def E93:Env:=mkE ak 52 [(136,[Jd])] [] []
theorem ze8 x:aj E93 Tryz.f93 P93 R93 x=F93 x:=by kernel_rfl
def zK (x:dJ×dJ×Unit):Option (Bool×Unit):=
 bif decide (x.1.1=x.2.1.1) then
 bif decide (x.1.2.1=x.2.1.2.1) then
 (F93 (x.1.2.2.1,x.2.1.2.2)).bind fun b=>some b
 else some (false,())
 else some (false,())
def IZ:Sig:=⟨Xq,Vt,zK⟩
def Y1:Env:=mkE ak 24 [(93,[S93])] [] []
theorem zcZ x:aj Y1 Tryz.f170 Xq Vt x=zK x:=by kernel_rfl
def yP (x:List dJ×List dJ×Unit):Option (Bool×Unit):=
 bif !decide (Int.ofNat (List.length x.1)=Int.ofNat (List.length x.2.1)) then some (false,())
 else
 aZ (Int×Unit) (Bool×Unit)
 (fun (x_1:Int×Unit)=>
 bif decide (x_1.1 < Int.ofNat (List.length x.1)) then
 (idx x.1 x_1.1).bind
 fun b=>
 (idx x.2.1 x_1.1).bind
 fun b_1=>
 (zK (b,b_1,())).bind fun b=>
 bif !b.1 then some (Sum.inr (false,()))
 else some (Sum.inl (wrap64 (x_1.1+1),()))
 else some (Sum.inr (true,())))
 big (0,())
def QI:Sig:=⟨Rw,QZ,yP⟩
def Su:Env:=mkE ak 32 [(170,[IZ])] [] [(4,bz ⟨[⟨.slot 17,(.int .i64),.pv⟩],[1,2,15,16],[]⟩)]
theorem zbK x:aj Su Tryz.f169 Rw QZ x=yP x:=by kernel_rfl
def Aa (x:List dJ×List dJ×Unit):Option (Bool×Unit):=
 (yP x).bind fun b=>some b
def Uz:Sig:=⟨XV,VY,Aa⟩
def Zv:Env:=mkE ak 8 [(169,[QI]),(170,[IZ])] [] []
theorem zds x:aj Zv Tryz.f137 XV VY x=Aa x:=by kernel_rfl
def zZ (x:List ay×List ay×Unit):Option (Bool×Unit):=
 bif !decide (Int.ofNat (List.length x.1)=Int.ofNat (List.length x.2.1)) then some (false,())
 else
 aZ (Int×Unit) (Bool×Unit)
 (fun (x_1:Int×Unit)=>
 bif decide (x_1.1 < Int.ofNat (List.length x.1)) then
 (idx x.1 x_1.1).bind fun b=>
 (idx x.2.1 x_1.1).bind fun b_1=>
 bif
 !(decide (b.1=b_1.1) &&
 (decide (b.2.1=b_1.2.1) && (decide (b.2.2.1=b_1.2.2.1) && true))) then
 some (Sum.inr (false,()))
 else some (Sum.inl (wrap64 (x_1.1+1),()))
 else some (Sum.inr (true,())))
 big (0,())
def Uy:Sig:=⟨XU,VX,zZ⟩
def Zu:Env:=mkE ak 26 [] [] [(4,bz ⟨[⟨.slot 13,(.int .i64),.pv⟩],[0,1,12],[]⟩)]
theorem zdr x:aj Zu Tryz.f138 XU VX x=zZ x:=by kernel_rfl
def F92 (x:bH×bH×Unit):Option (Bool×Unit):=
 bif decide (x.1.1=x.2.1.1) then
 bif decide (x.1.2.1=x.2.1.2.1) then
 bif decide (x.1.2.2.1=x.2.1.2.2.1) then
 bif decide (x.1.2.2.2.1=x.2.1.2.2.2.1) then
 bif decide (x.1.2.2.2.2.1=x.2.1.2.2.2.2.1) then
 bif decide (x.1.2.2.2.2.2.1=x.2.1.2.2.2.2.2.1) then
 bif decide (x.1.2.2.2.2.2.2.1=x.2.1.2.2.2.2.2.2.1) then
 bif
 decide
 (x.1.2.2.2.2.2.2.2.2.2.2.1 =
 x.2.1.2.2.2.2.2.2.2.2.2.2.1) then
 bif
 decide
 (x.1.2.2.2.2.2.2.2.2.2.2.2.1 =
 x.2.1.2.2.2.2.2.2.2.2.2.2.2.1) then
 bif
 decide
 (x.1.2.2.2.2.2.2.2.2.2.2.2.2.1 =
 x.2.1.2.2.2.2.2.2.2.2.2.2.2.2.1) then
 bif
 x.1.2.2.2.2.2.2.2.2.2.2.2.2.2.1 ==
 x.2.1.2.2.2.2.2.2.2.2.2.2.2.2.2.1 then
 Option.bind
 (Ac
 (x.1.2.2.2.2.2.2.2.1,x.2.1.2.2.2.2.2.2.2.1,
 ()))
 fun b=>
 bif b.1 then
 Option.bind
 (wR
 (x.1.2.2.2.2.2.2.2.2.1,
 x.2.1.2.2.2.2.2.2.2.2.1,()))
 fun b=>
 bif b.1 then
 Option.bind
 (wR
 (x.1.2.2.2.2.2.2.2.2.2.1,
 x.2.1.2.2.2.2.2.2.2.2.2.1,()))
 fun b=>
 bif b.1 then
 Option.bind
 (wQ
 (x.1.2.2.2.2.2.2.2.2.2.2.2.2.2.2.1,
 x.2.1.2.2.2.2.2.2.2.2.2.2.2.2.2.2.1,
 ()))
 fun b=>
 bif b.1 then
 Option.bind
 (Aa
 (x.1.2.2.2.2.2.2.2.2.2.2.2.2.2.2.2.1,
 x.2.1.2.2.2.2.2.2.2.2.2.2.2.2.2.2.2.1,
 ()))
 fun b=>
 bif b.1 then
 Option.bind
 (zZ
 (x.1.2.2.2.2.2.2.2.2.2.2.2.2.2.2.2.2.1,
 x.2.1.2.2.2.2.2.2.2.2.2.2.2.2.2.2.2.2))
 fun b=>some b
 else some (false,())
 else some (false,())
 else some (false,())
 else some (false,())
 else some (false,())
 else some (false,())
 else some (false,())
 else some (false,())
 else some (false,())
 else some (false,())
 else some (false,())
 else some (false,())
 else some (false,())
 else some (false,())
 else some (false,())
 else some (false,())
def S92:Sig:=⟨P92,R92,F92⟩
def E92:Env:=mkE ak 122 [(134,[UB]),(135,[UA]),(136,[Jd]),(137,[Uz]),(138,[Uy])] [] []
theorem ze9 x:aj E92 Tryz.f92 P92 R92 x=F92 x:=by kernel_rfl
def zY (x:TBD×TBD×Unit):Option (Bool×Unit):=
 bif decide (x.1.1=x.2.1.1) then
 (F95 (x.1.2.1,x.2.1.2)).bind fun b=>some b
 else some (false,())
def Jc:Sig:=⟨XT,VW,zY⟩
def Zt:Env:=mkE ak 17 [(95,[S95])] [] []
theorem zdq x:aj Zt Tryz.f140 XT VW x=zY x:=by kernel_rfl
def yT (x:List TBD×List TBD×Unit):Option (Bool×Unit):=
 bif !decide (Int.ofNat (List.length x.1)=Int.ofNat (List.length x.2.1)) then some (false,())
 else
 aZ (Int×Unit) (Bool×Unit)
 (fun (x_1:Int×Unit)=>
 bif decide (x_1.1 < Int.ofNat (List.length x.1)) then
 (idx x.1 x_1.1).bind
 fun b=>
 (idx x.2.1 x_1.1).bind
 fun b_1=>
 (zY (b,b_1,())).bind fun b=>
 bif !b.1 then some (Sum.inr (false,()))
 else some (Sum.inl (wrap64 (x_1.1+1),()))
 else some (Sum.inr (true,())))
 big (0,())
def QN:Sig:=⟨RG,Q9,yT⟩
def SE:Env:=mkE ak 32 [(140,[Jc])] [] [(4,bz ⟨[⟨.slot 17,(.int .i64),.pv⟩],[1,2,15,16],[]⟩)]
theorem zbQ x:aj SE Tryz.f139 RG Q9 x=yT x:=by kernel_rfl
def F94 (x:List TBD×List TBD×Unit):Option (Bool×Unit):=
 (yT x).bind fun b=>some b
def S94:Sig:=⟨P94,R94,F94⟩
def E94:Env:=mkE ak 8 [(139,[QN]),(140,[Jc])] [] []
theorem ze7 x:aj E94 Tryz.f94 P94 R94 x=F94 x:=by kernel_rfl
def F96 (x:dO×dO×Unit):Option (Bool×Unit):=
 bif decide (x.1.1=x.2.1.1) then
 bif decide (x.1.2.1=x.2.1.2.1) then
 Option.bind
 (F92
 ((0,[],[],[],0,0,0,[],[],[],0,0,0,false,[],x.1.2.2),
 (0,[],[],[],0,0,0,[],[],[],0,0,0,false,[],x.2.1.2.2),()))
 fun b=>some b
 else some (false,())
 else some (false,())
def S96:Sig:=⟨P96,R96,F96⟩
def E96:Env:=mkE ak 30 [(92,[S92])] [] []
theorem ze5 x:aj E96 Tryz.f96 P96 R96 x=F96 x:=by kernel_rfl
def F64 (x:TMD×TMD×Unit):Option (Bool×Unit):=
 bif decide (x.1.1=x.2.1.1) then
 bif decide (x.1.2.1=x.2.1.2.1) then
 (F91 (x.1.2.2.1,x.2.1.2.2.1,())).bind fun b=>
 bif b.1 then
 bif decide (x.1.2.2.2.1.1=x.2.1.2.2.2.1.1) then
 bif decide (x.1.2.2.2.1.2.1=x.2.1.2.2.2.1.2.1) then
 (F92 (x.1.2.2.2.1.2.2.1,x.2.1.2.2.2.1.2.2)).bind
 fun b=>
 bif b.1 then
 bif decide (x.1.2.2.2.2.1=x.2.1.2.2.2.2.1) then
 bif decide (x.1.2.2.2.2.2.1=x.2.1.2.2.2.2.2.1) then
 bif decide (x.1.2.2.2.2.2.2.1=x.2.1.2.2.2.2.2.2.1) then
 bif
 decide
 (x.1.2.2.2.2.2.2.2.1=x.2.1.2.2.2.2.2.2.2.1) then
 bif
 decide
 (x.1.2.2.2.2.2.2.2.2.1 =
 x.2.1.2.2.2.2.2.2.2.2.1) then
 bif
 decide
 (x.1.2.2.2.2.2.2.2.2.2.1 =
 x.2.1.2.2.2.2.2.2.2.2.2.1) then
 bif
 decide
 (x.1.2.2.2.2.2.2.2.2.2.2.1 =
 x.2.1.2.2.2.2.2.2.2.2.2.2.1) then
 Option.bind
 (F93
 (x.1.2.2.2.2.2.2.2.2.2.2.2.1,
 x.2.1.2.2.2.2.2.2.2.2.2.2.2.1,()))
 fun b=>
 bif b.1 then
 Option.bind
 (F94
 (x.1.2.2.2.2.2.2.2.2.2.2.2.2.1,
 x.2.1.2.2.2.2.2.2.2.2.2.2.2.2.1,()))
 fun b=>
 bif b.1 then
 Option.bind
 (F95
 (x.1.2.2.2.2.2.2.2.2.2.2.2.2.2.1,
 x.2.1.2.2.2.2.2.2.2.2.2.2.2.2.2.1,
 ()))
 fun b=>
 bif b.1 then
 bif
 x.1.2.2.2.2.2.2.2.2.2.2.2.2.2.2.1 ==
 x.2.1.2.2.2.2.2.2.2.2.2.2.2.2.2.2.1 then
 Option.bind
 (F96
 (x.1.2.2.2.2.2.2.2.2.2.2.2.2.2.2.2.1,
 x.2.1.2.2.2.2.2.2.2.2.2.2.2.2.2.2.2.1,
 ()))
 fun b=>
 bif b.1 then
 some
 (decide
 (x.1.2.2.2.2.2.2.2.2.2.2.2.2.2.2.2.2.1.1 =
 x.2.1.2.2.2.2.2.2.2.2.2.2.2.2.2.2.2.2.1.1) &&
 (decide
 (x.1.2.2.2.2.2.2.2.2.2.2.2.2.2.2.2.2.1.2.1 =
 x.2.1.2.2.2.2.2.2.2.2.2.2.2.2.2.2.2.2.1.2.1) &&
 (decide
 (x.1.2.2.2.2.2.2.2.2.2.2.2.2.2.2.2.2.1.2.2.1 =
 x.2.1.2.2.2.2.2.2.2.2.2.2.2.2.2.2.2.2.1.2.2.1) &&
 (decide
 (x.1.2.2.2.2.2.2.2.2.2.2.2.2.2.2.2.2.1.2.2.2.1 =
 x.2.1.2.2.2.2.2.2.2.2.2.2.2.2.2.2.2.2.1.2.2.2.1) &&
 (decide
 (x.1.2.2.2.2.2.2.2.2.2.2.2.2.2.2.2.2.1.2.2.2.2.1 =
 x.2.1.2.2.2.2.2.2.2.2.2.2.2.2.2.2.2.2.1.2.2.2.2.1) &&
 (decide
 (x.1.2.2.2.2.2.2.2.2.2.2.2.2.2.2.2.2.1.2.2.2.2.2.1 =
 x.2.1.2.2.2.2.2.2.2.2.2.2.2.2.2.2.2.2.1.2.2.2.2.2.1) &&
 (decide
 (x.1.2.2.2.2.2.2.2.2.2.2.2.2.2.2.2.2.1.2.2.2.2.2.2.1 =
 x.2.1.2.2.2.2.2.2.2.2.2.2.2.2.2.2.2.2.1.2.2.2.2.2.2.1) &&
 (decide
 (x.1.2.2.2.2.2.2.2.2.2.2.2.2.2.2.2.2.1.2.2.2.2.2.2.2.1 =
 x.2.1.2.2.2.2.2.2.2.2.2.2.2.2.2.2.2.2.1.2.2.2.2.2.2.2.1) &&
 (decide
 (x.1.2.2.2.2.2.2.2.2.2.2.2.2.2.2.2.2.1.2.2.2.2.2.2.2.2.1 =
 x.2.1.2.2.2.2.2.2.2.2.2.2.2.2.2.2.2.2.1.2.2.2.2.2.2.2.2.1) &&
 (decide
 (x.1.2.2.2.2.2.2.2.2.2.2.2.2.2.2.2.2.1.2.2.2.2.2.2.2.2.2.1 =
 x.2.1.2.2.2.2.2.2.2.2.2.2.2.2.2.2.2.2.1.2.2.2.2.2.2.2.2.2.1) &&
 true))))))))),
 ())
 else some (false,())
 else some (false,())
 else some (false,())
 else some (false,())
 else some (false,())
 else some (false,())
 else some (false,())
 else some (false,())
 else some (false,())
 else some (false,())
 else some (false,())
 else some (false,())
 else some (false,())
 else some (false,())
 else some (false,())
 else some (false,())
 else some (false,())
 else some (false,())
def S64:Sig:=⟨P64,R64,F64⟩
def E64:Env:=mkE ak 142 [(91,[S91]),(92,[S92]),(93,[S93]),(94,[S94]),(95,[S95]),(96,[S96])] [] []
theorem zfB x:aj E64 Tryz.f64 P64 R64 x=F64 x:=by kernel_rfl
def F65 (x:TMD×Unit):Option (TMD×Unit):=
 Option.bind
 (bif !decide (x.1.1=1) then some (Sum.inl (x.1.2.1,())) else some (Sum.inl (0,())))
 fun o=>
 Sum.elim
 (fun (x_1:Int×Unit)=>
 Option.bind
 (bif decide (x.1.1=1) then
 some
 (Sum.inl
 (x.1.2.2.1,
 zJ,0,
 [],[],0,0,0,0,zR,[],[],false,(0,0,[],[],()),
 zV,()))
 else
 bif decide (x.1.1=2) then
 some
 (Sum.inl
 (zM,x.1.2.2.2.1,0,
 [],[],0,0,0,0,zR,[],[],false,
 (0,0,[],[],()),zV,()))
 else
 bif decide (x.1.1=3) then
 some
 (Sum.inl
 (zM,
 zJ,
 x.1.2.2.2.2.1,x.1.2.2.2.2.2.1,x.1.2.2.2.2.2.2.1,
 x.1.2.2.2.2.2.2.2.1,x.1.2.2.2.2.2.2.2.2.1,0,0,
 zR,[],[],false,(0,0,[],[],()),
 zV,()))
 else
 bif decide (x.1.1=4) then
 some
 (Sum.inl
 (zM,
 zJ,
 x.1.2.2.2.2.1,x.1.2.2.2.2.2.1,x.1.2.2.2.2.2.2.1,
 x.1.2.2.2.2.2.2.2.1,0,0,0,zR,[],[],
 false,(0,0,[],[],()),zV,()))
 else
 bif decide (x.1.1=5) then
 some
 (Sum.inl
 (zM,
 zJ,
 0,x.1.2.2.2.2.2.1,x.1.2.2.2.2.2.2.1,
 x.1.2.2.2.2.2.2.2.1,0,0,0,zR,[],
 [],false,(0,0,[],[],()),zV,
 ()))
 else
 bif decide (x.1.1=6) then
 some
 (Sum.inl
 (zM,
 zJ,
 0,[],[],x.1.2.2.2.2.2.2.2.1,0,0,0,
 zR,[],[],false,(0,0,[],[],()),
 zV,()))
 else
 bif decide (x.1.1=8) then
 some
 (Sum.inl
 (zM,
 zJ,
 0,[],[],0,0,x.1.2.2.2.2.2.2.2.2.2.1,
 x.1.2.2.2.2.2.2.2.2.2.2.1,
 x.1.2.2.2.2.2.2.2.2.2.2.2.1,[],[],false,
 (0,0,[],[],()),zV,()))
 else
 bif decide (x.1.1=9) then
 some
 (Sum.inl
 (zM,
 zJ,
 0,[],[],x.1.2.2.2.2.2.2.2.1,0,
 x.1.2.2.2.2.2.2.2.2.2.1,0,
 zR,
 x.1.2.2.2.2.2.2.2.2.2.2.2.2.1,[],false,
 (0,0,[],[],()),zV,()))
 else
 bif decide (x.1.1=10) then
 some
 (Sum.inl
 (zM,
 zJ,
 0,[],[],0,0,x.1.2.2.2.2.2.2.2.2.2.1,0,
 zR,[],
 x.1.2.2.2.2.2.2.2.2.2.2.2.2.2.1,
 x.1.2.2.2.2.2.2.2.2.2.2.2.2.2.2.1,
 (0,0,[],[],()),zV,
 ()))
 else
 bif decide (x.1.1=11) then
 some
 (Sum.inl
 (zM,
 zJ,
 0,[],[],0,0,x.1.2.2.2.2.2.2.2.2.2.1,0,
 zR,[],[],false,
 x.1.2.2.2.2.2.2.2.2.2.2.2.2.2.2.2.1,
 zV,()))
 else
 bif decide (x.1.1=12) then
 some
 (Sum.inl
 (zM,
 zJ,
 0,[],[],x.1.2.2.2.2.2.2.2.1,0,0,0,
 zR,[],[],false,(0,0,[],[],()),
 x.1.2.2.2.2.2.2.2.2.2.2.2.2.2.2.2.2))
 else
 some
 (Sum.inl
 (zM,
 zJ,
 0,[],[],0,0,0,0,zR,[],[],false,
 (0,0,[],[],()),zV,
 ())))
 fun o=>
 Sum.elim
 (fun (x_2 :
 (Int×Int×Int×Int×Int×Int×Int×Int×Bool×List az×az×Unit)×(Int×Int×(Int×List UInt8×List UInt8×List UInt8×Int×Int×Int×List aN×List ax×List ax×Int×Int×Int×Bool×List ae×List (Int×Int×(Int×Int×Bool×Int×List ae×ai)×Unit)×List ay×Unit)×Unit)×Int×List UInt8×List UInt8×Int×Int×Int×Int×(Int×Int×Bool×Int×List ae×ai)×List (Int×List ae×Unit)×List ae×Bool×(Int×Int×List (Int×Int×(Int×Int×Bool×Int×List ae×ai)×Unit)×List ay×Unit)×aH×Unit)=>
 some ((x.1.1,x_1.1,x_2),()))
 some o)
 some o
def S65:Sig:=⟨P65,R65,F65⟩
def E65:Env:=mkE ak 122 [] [(4,⟨[⟨.fld 1004000 1,(.int .i64),.pv⟩],[1,2,3],[.site 1004000,.fld 1004000 0]++hL (.fld 1004000) 2 15++[.site 2000]++hL (.fld 2000) 0 17++[.site 1000]++hL (.fld 1000) 0 17⟩),(27,⟨[⟨.fld 1004000 2,T27,.pv⟩,⟨.fld 1004000 3,T33,.pv⟩,⟨.fld 1004000 4,(.int .i64),.pv⟩,⟨.fld 1004000 5,.str,.pv⟩,⟨.fld 1004000 6,.str,.pv⟩,⟨.fld 1004000 7,(.int .i64),.pv⟩,⟨.fld 1004000 8,(.int .i64),.pv⟩,⟨.fld 1004000 9,(.int .i64),.pv⟩,⟨.fld 1004000 10,(.int .i64),.pv⟩,⟨.fld 1004000 11,T51,.pv⟩,⟨.fld 1004000 12,(.slice TB),.pv⟩,⟨.fld 1004000 13,(.slice T70),.pv⟩,⟨.fld 1004000 14,.bool,.pv⟩,⟨.fld 1004000 15,T55,.pv⟩,⟨.fld 1004000 16,T53,.pv⟩],[2,3],[.site 1004000,.fld 1004000 0,.fld 1004000 1,.site 2000]++hL (.fld 2000) 0 17⟩)] []
theorem zfA x:aj E65 Tryz.f65 P65 R65 x=F65 x:=by kernel_rfl
def F97 (x:iO×Unit):Option (iO×Bool×Unit):=
 Option.bind
 (bif decide (x.1.1=1) then
 bif decide (x.1.1=1) then
 some
 (Sum.inl
 (x.1.2.2.2.2.1,x.1.2.2.2.2.2.1,0,0,false,[],(0,0,[],()),0,0,0,
 0,0,0,0,0,false,[],(0,0,[],()),()))
 else
 bif decide (x.1.1=2) then
 bif decide (x.1.1=2) then
 some
 (Sum.inl
 (0,0,0,0,x.1.2.2.2.2.2.2.2.2.1,[],(0,0,[],()),0,0,0,0,0,0,0,
 0,false,[],(0,0,[],()),()))
 else
 bif decide (x.1.1=5) then
 some
 (Sum.inl
 (x.1.2.2.2.2.1,x.1.2.2.2.2.2.1,x.1.2.2.2.2.2.2.1,
 x.1.2.2.2.2.2.2.2.1,false,x.1.2.2.2.2.2.2.2.2.2.1,
 (0,0,[],()),0,0,0,0,0,0,0,0,false,[],(0,0,[],()),()))
 else
 bif decide (x.1.1=6) then
 some
 (Sum.inl
 (x.1.2.2.2.2.1,0,0,x.1.2.2.2.2.2.2.2.1,
 x.1.2.2.2.2.2.2.2.2.1,[],(0,0,[],()),0,0,0,0,0,0,0,0,
 false,[],(0,0,[],()),()))
 else
 bif decide (x.1.1=7) then
 some
 (Sum.inl
 (0,0,0,0,false,[],x.1.2.2.2.2.2.2.2.2.2.2.1,0,0,0,0,0,0,0,0,
 false,[],(0,0,[],()),()))
 else
 some
 (Sum.inr
 (zM,false,()))
 else
 bif decide (x.1.1=4) then
 some
 (Sum.inl
 (0,0,0,0,x.1.2.2.2.2.2.2.2.2.1,[],(0,0,[],()),0,0,0,0,0,0,0,
 0,false,[],(0,0,[],()),()))
 else
 bif decide (x.1.1=5) then
 some
 (Sum.inl
 (x.1.2.2.2.2.1,x.1.2.2.2.2.2.1,x.1.2.2.2.2.2.2.1,
 x.1.2.2.2.2.2.2.2.1,false,x.1.2.2.2.2.2.2.2.2.2.1,
 (0,0,[],()),0,0,0,0,0,0,0,0,false,[],(0,0,[],()),()))
 else
 bif decide (x.1.1=6) then
 some
 (Sum.inl
 (x.1.2.2.2.2.1,0,0,x.1.2.2.2.2.2.2.2.1,
 x.1.2.2.2.2.2.2.2.2.1,[],(0,0,[],()),0,0,0,0,0,0,0,0,
 false,[],(0,0,[],()),()))
 else
 bif decide (x.1.1=7) then
 some
 (Sum.inl
 (0,0,0,0,false,[],x.1.2.2.2.2.2.2.2.2.2.2.1,0,0,0,0,0,0,0,0,
 false,[],(0,0,[],()),()))
 else
 some
 (Sum.inr
 (zM,false,()))
 else
 bif decide (x.1.1=3) then
 some
 (Sum.inl
 (x.1.2.2.2.2.1,x.1.2.2.2.2.2.1,0,0,false,[],(0,0,[],()),0,0,0,
 0,0,0,0,0,false,[],(0,0,[],()),()))
 else
 bif decide (x.1.1=2) then
 bif decide (x.1.1=2) then
 some
 (Sum.inl
 (0,0,0,0,x.1.2.2.2.2.2.2.2.2.1,[],(0,0,[],()),0,0,0,0,0,0,0,
 0,false,[],(0,0,[],()),()))
 else
 bif decide (x.1.1=5) then
 some
 (Sum.inl
 (x.1.2.2.2.2.1,x.1.2.2.2.2.2.1,x.1.2.2.2.2.2.2.1,
 x.1.2.2.2.2.2.2.2.1,false,x.1.2.2.2.2.2.2.2.2.2.1,
 (0,0,[],()),0,0,0,0,0,0,0,0,false,[],(0,0,[],()),()))
 else
 bif decide (x.1.1=6) then
 some
 (Sum.inl
 (x.1.2.2.2.2.1,0,0,x.1.2.2.2.2.2.2.2.1,
 x.1.2.2.2.2.2.2.2.2.1,[],(0,0,[],()),0,0,0,0,0,0,0,0,
 false,[],(0,0,[],()),()))
 else
 bif decide (x.1.1=7) then
 some
 (Sum.inl
 (0,0,0,0,false,[],x.1.2.2.2.2.2.2.2.2.2.2.1,0,0,0,0,0,0,0,0,
 false,[],(0,0,[],()),()))
 else
 some
 (Sum.inr
 (zM,false,()))
 else
 bif decide (x.1.1=4) then
 some
 (Sum.inl
 (0,0,0,0,x.1.2.2.2.2.2.2.2.2.1,[],(0,0,[],()),0,0,0,0,0,0,0,
 0,false,[],(0,0,[],()),()))
 else
 bif decide (x.1.1=5) then
 some
 (Sum.inl
 (x.1.2.2.2.2.1,x.1.2.2.2.2.2.1,x.1.2.2.2.2.2.2.1,
 x.1.2.2.2.2.2.2.2.1,false,x.1.2.2.2.2.2.2.2.2.2.1,
 (0,0,[],()),0,0,0,0,0,0,0,0,false,[],(0,0,[],()),()))
 else
 bif decide (x.1.1=6) then
 some
 (Sum.inl
 (x.1.2.2.2.2.1,0,0,x.1.2.2.2.2.2.2.2.1,
 x.1.2.2.2.2.2.2.2.2.1,[],(0,0,[],()),0,0,0,0,0,0,0,0,
 false,[],(0,0,[],()),()))
 else
 bif decide (x.1.1=7) then
 some
 (Sum.inl
 (0,0,0,0,false,[],x.1.2.2.2.2.2.2.2.2.2.2.1,0,0,0,0,0,0,0,0,
 false,[],(0,0,[],()),()))
 else
 some
 (Sum.inr
 (zM,false,())))
 fun o=>
 Sum.elim
 (fun (x_1 :
 Int×Int×Int×Int×Bool×List az×az×Int×Int×Int×Int×Int×Int×Int×Int×Bool×List az×az×Unit)=>
 some
 ((x.1.1,x.1.2.1,x.1.2.2.1,x.1.2.2.2.1,x_1.1,x_1.2.1,x_1.2.2.1,
 x_1.2.2.2.1,x_1.2.2.2.2.1,x_1.2.2.2.2.2.1,
 x_1.2.2.2.2.2.2.1,()),
 true,()))
 some o
def S97:Sig:=⟨P97,R97,F97⟩
def E97:Env:=mkE ak 66 [] [(16,⟨[⟨.fld 1010000 4,(.int .i64),.pv⟩,⟨.fld 1010000 5,(.int .i64),.pv⟩,⟨.fld 1010000 6,(.int .i64),.pv⟩,⟨.fld 1010000 7,(.int .i64),.pv⟩,⟨.fld 1010000 8,.bool,.pv⟩,⟨.fld 1010000 9,(.slice T25),.pv⟩,⟨.fld 1010000 10,T25,.pv⟩,⟨.fld 2000 0,(.int .i64),.pv⟩,⟨.fld 2000 1,(.int .i64),.pv⟩,⟨.fld 2000 2,(.int .i64),.pv⟩,⟨.fld 2000 3,(.int .i64),.pv⟩,⟨.fld 2000 4,(.int .i64),.pv⟩,⟨.fld 2000 5,(.int .i64),.pv⟩,⟨.fld 2000 6,(.int .i64),.pv⟩,⟨.fld 2000 7,(.int .i64),.pv⟩,⟨.fld 2000 8,.bool,.pv⟩,⟨.fld 2000 9,(.slice T25),.own false⟩,⟨.fld 2000 10,T25,.pv⟩],[2,4],[.site 1010000]++hL (.fld 1010000) 0 4++[.site 2000]⟩)] []
theorem ze4 x:aj E97 Tryz.f97 P97 R97 x=F97 x:=by kernel_rfl
def F98 (x:Int×Unit):Option (Bool×Unit):=bif decide (0≤x.1) then some (decide (x.1 < 3),()) else some (false,())
def S98:Sig:=⟨P98,R98,F98⟩
def E98:Env:=mkE ak 9 [] [] []
theorem ze3 x:aj E98 Tryz.f98 P98 R98 x=F98 x:=by kernel_rfl
def F99 (x:List Int×Unit):Option (Bool×Unit):=
 aZ (Int×Unit) (Bool×Unit)
 (fun (x_1:Int×Unit)=>
 bif decide (x_1.1 < Int.ofNat (List.length x.1)) then
 (idx x.1 x_1.1).bind fun b=>
 bif decide (b < 0) then some (Sum.inr (false,()))
 else
 bif decide (1099511627776 < b) then some (Sum.inr (false,()))
 else some (Sum.inl (wrap64 (x_1.1+1),()))
 else some (Sum.inr (true,())))
 big (0,())
def S99:Sig:=⟨P99,R99,F99⟩
def E99:Env:=mkE ak 18 [] [] [(2,bz ⟨[⟨.slot 7,(.int .i64),.pv⟩],[5,6],[]⟩)]
theorem ze2 x:aj E99 Tryz.f99 P99 R99 x=F99 x:=by kernel_rfl
def qM (x:Int×Unit):Option (Bool×Unit):=
 bif decide (1≤x.1) then some (decide (x.1≤1099511627776),()) else some (false,())
def Jb:Sig:=⟨XQ,VT,qM⟩
def Zq:Env:=mkE ak 9 [] [] []
theorem zdo x:aj Zq Tryz.f142 XQ VT x=qM x:=by kernel_rfl
def wP (x:az×Unit):Option (Bool×Unit):=
 (qM (x.1.1,())).bind fun b=>
 bif b.1 then
 (qM (x.1.2.1,())).bind fun b=>
 bif b.1 then some (decide (Int.ofNat (List.length x.1.2.2.1)≤12000),())
 else some (false,())
 else some (false,())
def Ux:Sig:=⟨XR,VU,wP⟩
def Zr:Env:=mkE ak 17 [(142,[Jb])] [] []
theorem zdp x:aj Zr Tryz.f141 XR VU x=wP x:=by kernel_rfl
def Ec (x:Int×Int×List az×Unit):Option (Bool×Unit):=
 aZ ay (Bool×Unit)
 (fun (x_1:ay)=>
 bif decide (x_1.2.2.1 < Int.ofNat (List.length x.2.2.1)) then
 (idx x.2.2.1 x_1.2.2.1).bind fun b=>
 (wP (b,())).bind fun b_1=>
 bif !b_1.1 then some (Sum.inr (false,()))
 else
 bif !decide (wrap64 (b.1 - 1)=x_1.1) then some (Sum.inr (false,()))
 else
 bif decide (b.2.1 < x_1.2.1) then some (Sum.inr (false,()))
 else some (Sum.inl (b.1,b.2.1,wrap64 (x_1.2.2.1+1),()))
 else some (Sum.inr (true,())))
 big (x.1,x.2.1,0,())
def UZ:Sig:=⟨Yz,WR,Ec⟩
def E100:Env:=mkE ak 36 [(141,[Ux])] [] [(2,bz ⟨[⟨.slot 0,(.int .i64),.pv⟩,⟨.slot 1,(.int .i64),.pv⟩,⟨.slot 11,(.int .i64),.pv⟩],[9,10],[]⟩)]
theorem zd3 x:aj E100 Tryz.f100 Yz WR x=Ec x:=by kernel_rfl
def Az (x:az×Unit):Option (Bool×Unit):=
 Option.bind
 (bif decide (x.1.1=0) then
 bif decide (x.1.2.1=0) then
 some (Sum.inr (decide (Int.ofNat (List.length x.1.2.2.1)=0),()))
 else some (Sum.inl ())
 else some (Sum.inl ()))
 fun o=>
 Sum.elim
 (fun (_z:Unit)=>
 (qM (x.1.1,())).bind fun b=>
 bif b.1 then
 (qM (x.1.2.1,())).bind fun b=>
 bif b.1 then some (decide (Int.ofNat (List.length x.1.2.2.1)≤50000),())
 else some (false,())
 else some (false,()))
 some o
def UY:Sig:=⟨Yy,WQ,Az⟩
def E101:Env:=mkE ak 29 [(142,[Jb])] [(3,⟨[],[1],[.site 1000,.fld 1000 0,.fld 1000 1,.fld 1000 2]⟩)] []
theorem zd2 x:aj E101 Tryz.f101 Yy WQ x=Az x:=by kernel_rfl
def F66 (x:iO×Unit):Option (Bool×Unit):=
 (F97 x).bind
 fun b=>
 bif !b.2.1 then some (false,())
 else
 (F91 (b.1,x)).bind fun b=>
 bif !b.1 then some (false,())
 else
 (F98 (x.1.2.1,())).bind fun b=>
 bif !b.1 then some (false,())
 else
 (F98 (x.1.2.2.1,())).bind fun b=>
 bif !b.1 then some (false,())
 else
 bif decide (x.1.2.1=x.1.2.2.1) then some (false,())
 else
 bif decide (x.1.2.2.2.1 < 1) then some (false,())
 else
 Option.bind
 (F99
 ([x.1.2.2.2.1,x.1.2.2.2.2.1,x.1.2.2.2.2.2.1,
 x.1.2.2.2.2.2.2.1,x.1.2.2.2.2.2.2.2.1],
 ()))
 fun b=>
 bif !b.1 then some (false,())
 else
 bif decide (4 < Int.ofNat (List.length x.1.2.2.2.2.2.2.2.2.2.1)) then
 some (false,())
 else
 Option.bind
 (Ec
 (x.1.2.2.2.2.1,x.1.2.2.2.2.2.1,
 x.1.2.2.2.2.2.2.2.2.2.1,()))
 fun b=>
 bif !b.1 then some (false,())
 else
 aZ (Int×Unit) (Bool×Unit)
 (fun (x_1:Int×Unit)=>
 bif
 decide
 (x_1.1 <
 Int.ofNat (List.length x.1.2.2.2.2.2.2.2.2.2.1)) then
 (idx x.1.2.2.2.2.2.2.2.2.2.1 x_1.1).bind
 fun b=>
 bif decide (x.1.2.2.2.1 < b.2.1) then
 some (Sum.inr (false,()))
 else some (Sum.inl (wrap64 (x_1.1+1),()))
 else
 Option.map Sum.inr
 (bif !decide (x.1.1=7) then some (true,())
 else
 (Az x.1.2.2.2.2.2.2.2.2.2.2).bind
 fun b=>
 bif b.1 then
 some
 (decide (0 < x.1.2.2.2.2.2.2.2.2.2.2.1.1),
 ())
 else some (false,())))
 big (0,())
def S66:Sig:=⟨P66,R66,F66⟩
def E66:Env:=mkE ak 100 [(91,[S91]),(97,[S97]),(98,[S98]),(99,[S99]),(100,[UZ]),(101,[UY])] [] [(7,bz ⟨[⟨.slot 76,(.int .i64),.pv⟩],[1,74,75],[.site 1000]++hL (.fld 1000) 0 11⟩)]
theorem zfz x:aj E66 Tryz.f66 P66 R66 x=F66 x:=by kernel_rfl
def F67 (x:Int×Int×Int×Unit):Option (Bool×Unit):=
 bif decide (x.2.1≤x.1) then some (decide (x.1≤x.2.2.1),()) else some (false,())
def S67:Sig:=⟨P67,R67,F67⟩
def E67:Env:=mkE ak 15 [] [] []
theorem zfy x:aj E67 Tryz.f67 P67 R67 x=F67 x:=by kernel_rfl
def ku (x:Int×Int×Int×Unit):Option (Bool×Unit):=
 bif decide (x.2.1≤x.1) then some (decide (x.1≤x.2.2.1),()) else some (false,())
def qJ:Sig:=⟨XO,VR,ku⟩
def Zo:Env:=mkE ak 15 [] [] []
theorem zdm x:aj Zo Tryz.f144 XO VR x=ku x:=by kernel_rfl
def wE (x:Int×Unit):Option (Bool×Unit):=
 (ku (x.1,1,1099511627776,())).bind fun b=>some (!b.1,())
def DY:Sig:=⟨Xl,Vo,wE⟩
def YW:Env:=mkE ak 6 [(144,[qJ])] [] []
theorem zcU x:aj YW Tryz.f176 Xl Vo x=wE x:=by kernel_rfl
def Dp (x:List Int×Unit):Option (Int×Unit):=
 aZ (Int×Unit) (Int×Unit)
 (fun (x_1:Int×Unit)=>
 bif decide (x_1.1 < Int.ofNat (List.length x.1)) then
 (idx x.1 x_1.1).bind fun b=>
 (wE (b,())).bind fun b=>
 bif b.1 then some (Sum.inr x_1) else some (Sum.inl (wrap64 (x_1.1+1),()))
 else some (Sum.inr (-1,())))
 big (0,())
def Ir:Sig:=⟨Rn,QU,Dp⟩
def RZ:Env:=mkE ak 19 [(176,[DY])] [] [(2,bz ⟨[⟨.slot 8,(.int .i64),.pv⟩],[0,1,7],[]⟩)]
theorem zbF x:aj RZ Tryz.f188 Rn QU x=Dp x:=by kernel_rfl
def Dv (x:List Int×Unit):Option (Bool×Unit):=(Dp x).bind fun b=>some (decide (0≤b.1),())
def Iw:Sig:=⟨Ru,QY,Dv⟩
def Sr:Env:=mkE ak 9 [(176,[DY]),(188,[Ir])] [] []
theorem zbJ x:aj Sr Tryz.f175 Ru QY x=Dv x:=by kernel_rfl
def fO (x:List Int×Unit):Option (Bool×Unit):=(Dv x).bind fun b=>some (!b.1,())
def qI:Sig:=⟨XN,VQ,fO⟩
def Zn:Env:=mkE ak 6 [(175,[Iw]),(176,[DY])] [] []
theorem zdl x:aj Zn Tryz.f145 XN VQ x=fO x:=by kernel_rfl
def wC (x:Int×Unit):Option (Bool×Unit):=
 (ku (x.1,0,1099511627776,())).bind fun b=>some (!b.1,())
def DX:Sig:=⟨Xk,Vm,wC⟩
def YV:Env:=mkE ak 6 [(144,[qJ])] [] []
theorem zcT x:aj YV Tryz.f177 Xk Vm x=wC x:=by kernel_rfl
def Dn (x:List Int×Unit):Option (Int×Unit):=
 aZ (Int×Unit) (Int×Unit)
 (fun (x_1:Int×Unit)=>
 bif decide (x_1.1 < Int.ofNat (List.length x.1)) then
 (idx x.1 x_1.1).bind fun b=>
 (wC (b,())).bind fun b=>
 bif b.1 then some (Sum.inr x_1) else some (Sum.inl (wrap64 (x_1.1+1),()))
 else some (Sum.inr (-1,())))
 big (0,())
def QF:Sig:=⟨Rl,QT,Dn⟩
def RY:Env:=mkE ak 19 [(177,[DX])] [] [(2,bz ⟨[⟨.slot 8,(.int .i64),.pv⟩],[0,1,7],[]⟩)]
theorem zbE x:aj RY Tryz.f188 Rl QT x=Dn x:=by kernel_rfl
def Du (x:List Int×Unit):Option (Bool×Unit):=(Dn x).bind fun b=>some (decide (0≤b.1),())
def QH:Sig:=⟨Rt,QX,Du⟩
def Sl:Env:=mkE ak 9 [(177,[DX]),(188,[Ir,QF])] [] []
theorem zbI x:aj Sl Tryz.f175 Rt QX x=Du x:=by kernel_rfl
def mr (x:List Int×Unit):Option (Bool×Unit):=(Du x).bind fun b=>some (!b.1,())
def zf:Sig:=⟨XM,VP,mr⟩
def Zm:Env:=mkE ak 6 [(175,[Iw,QH]),(177,[DX])] [] []
theorem zdk x:aj Zm Tryz.f146 XM VP x=mr x:=by kernel_rfl
def sZ (x:Int×Unit):Option (Bool×Unit):=
 bif decide (1≤x.1) then some (decide (x.1≤1099511627776),()) else some (false,())
def TS:Sig:=⟨W9,U9,sZ⟩
def YK:Env:=mkE ak 9 [] [] []
theorem zcI x:aj YK Tryz.f189 W9 U9 x=sZ x:=by kernel_rfl
def zF (x:y9×Unit):Option (Bool×Unit):=
 (sZ (x.1.1,())).bind fun b=>
 bif !b.1 then some (false,())
 else
 (sZ (x.1.2.2.1,())).bind fun b=>
 bif !b.1 then some (false,())
 else
 bif x.1.2.2.2.2.2.2.1 then
 bif decide (x.1.2.1=0) then
 bif decide (x.1.2.2.2.1=0) then
 bif decide (x.1.2.2.2.2.2.1=0) then
 some (decide (x.1.2.2.2.2.1=[]),())
 else some (false,())
 else some (false,())
 else some (false,())
 else
 bif decide (1≤x.1.2.1) then
 bif decide (x.1.2.1≤x.1.2.2.1) then
 (sZ (x.1.2.2.2.1,())).bind fun b=>
 bif b.1 then
 bif decide (Int.ofNat (List.length x.1.2.2.2.2.1)≤40) then
 bif decide (-1099511627776≤x.1.2.2.2.2.2.1) then
 some (decide (x.1.2.2.2.2.2.1≤1099511627776),())
 else some (false,())
 else some (false,())
 else some (false,())
 else some (false,())
 else some (false,())
def Uc:Sig:=⟨Xj,Vl,zF⟩
def YU:Env:=mkE ak 64 [(189,[TS])] [] []
theorem zcS x:aj YU Tryz.f179 Xj Vl x=zF x:=by kernel_rfl
def tC (x:List y9×Unit):Option (Bool×Unit):=
 aZ (Int×Unit) (Bool×Unit)
 (fun (x_1:Int×Unit)=>
 bif decide (x_1.1 < Int.ofNat (List.length x.1)) then
 (idx x.1 x_1.1).bind fun b=>
 (zF (b,())).bind fun b_1=>
 bif !b_1.1 then some (Sum.inr (false,()))
 else
 bif decide (0 < x_1.1) then
 (idx x.1 (wrap64 (x_1.1 - 1))).bind
 fun b_2=>
 bif decide (b.1≤b_2.1) then some (Sum.inr (false,()))
 else
 (idx x.1 (wrap64 (x_1.1 - 1))).bind
 fun b_3=>
 bif decide (b.2.2.1≤b_3.2.2.1) then some (Sum.inr (false,()))
 else some (Sum.inl (wrap64 (x_1.1+1),()))
 else some (Sum.inl (wrap64 (x_1.1+1),()))
 else some (Sum.inr (true,())))
 big (0,())
def Ja:Sig:=⟨XI,VL,tC⟩
def Zi:Env:=mkE ak 42 [(179,[Uc])] [] [(2,bz ⟨[⟨.slot 7,(.int .i64),.pv⟩],[0,5,6],[]⟩)]
theorem zdg x:aj Zi Tryz.f151 XI VL x=tC x:=by kernel_rfl
def nY (x:y9×Unit):Option (Bool×Unit):=
 (tC ([x.1],())).bind fun b=>some b
def D5:Sig:=⟨XK,VN,nY⟩
def Zk:Env:=mkE ak 6 [(151,[Ja])] [] []
theorem zdi x:aj Zk Tryz.f149 XK VN x=nY x:=by kernel_rfl
def wO (x:ae×Unit):Option (Bool×Unit):=
 (F59 (x.1.1,())).bind fun b=>
 bif !b.1 then some (true,())
 else (nY x.1.2).bind fun b=>some (!b.1,())
def D6:Sig:=⟨XL,VO,wO⟩
def Zl:Env:=mkE ak 13 [(59,[S59]),(149,[D5])] [] []
theorem zdj x:aj Zl Tryz.f148 XL VO x=wO x:=by kernel_rfl
def Dt (x:List ae×Unit):Option (Int×Unit):=
 aZ (Int×Unit) (Int×Unit)
 (fun (x_1:Int×Unit)=>
 bif decide (x_1.1 < Int.ofNat (List.length x.1)) then
 (idx x.1 x_1.1).bind
 fun b=>
 (wO (b,())).bind fun b=>
 bif b.1 then some (Sum.inr x_1) else some (Sum.inl (wrap64 (x_1.1+1),()))
 else some (Sum.inr (-1,())))
 big (0,())
def Iu:Sig:=⟨Rq,QW,Dt⟩
def Sj:Env:=mkE ak 19 [(148,[D6])] [] [(2,bz ⟨[⟨.slot 8,(.int .i64),.pv⟩],[0,1,7],[]⟩)]
theorem zbH x:aj Sj Tryz.f178 Rq QW x=Dt x:=by kernel_rfl
def yS (x:List ae×Unit):Option (Bool×Unit):=
 (Dt x).bind fun b=>some (decide (0≤b.1),())
def Iy:Sig:=⟨RF,Q8,yS⟩
def SC:Env:=mkE ak 9 [(148,[D6]),(178,[Iu])] [] []
theorem zbP x:aj SC Tryz.f147 RF Q8 x=yS x:=by kernel_rfl
def tN (x:fM×Unit):Option (Bool×Unit):=
 bif decide (x.1.1 < 0) then some (false,())
 else
 bif decide (15 < x.1.1) then some (false,())
 else
 (mr ([x.1.2.1,x.1.2.2.2.1,x.1.2.2.2.2.2.2.1],())).bind
 fun b=>
 bif !b.1 then some (false,())
 else
 bif decide (x.1.2.2.2.2.2.1 < 0) then some (false,())
 else
 bif decide (1 < x.1.2.2.2.2.2.1) then some (false,())
 else
 bif decide (8 < Int.ofNat (List.length x.1.2.2.2.2.1)) then some (false,())
 else
 (yS (x.1.2.2.2.2.1,())).bind fun b=>
 some (!b.1,())
def Jk:Sig:=⟨Yv,WN,tN⟩
def Z8:Env:=mkE ak 42 [(146,[zf]),(147,[Iy]),(148,[D6])] [] []
theorem zdZ x:aj Z8 Tryz.f104 Yv WN x=tN x:=by kernel_rfl
def zD (x:List dJ×Int×Unit):Option (Bool×Unit):=
 aZ (Int×Unit) (Bool×Unit)
 (fun (x_1:Int×Unit)=>
 bif decide (x_1.1 < Int.ofNat (List.length x.1)) then
 (idx x.1 x_1.1).bind
 fun b=>
 (ku (b.1,1,x.2)).bind fun b_1=>
 bif !b_1.1 then some (Sum.inr (false,()))
 else
 (fO ([b.2.1],())).bind fun b_2=>
 bif !b_2.1 then some (Sum.inr (false,()))
 else
 (tN b.2.2).bind fun b_3=>
 bif !b_3.1 then some (Sum.inr (false,()))
 else
 bif decide (0 < x_1.1) then
 (idx x.1 (wrap64 (x_1.1 - 1))).bind
 fun b_4=>
 bif decide (b.1≤b_4.1) then some (Sum.inr (false,()))
 else some (Sum.inl (wrap64 (x_1.1+1),()))
 else some (Sum.inl (wrap64 (x_1.1+1),()))
 else some (Sum.inr (true,())))
 big (0,())
def Ua:Sig:=⟨Xh,Vj,zD⟩
def YS:Env:=mkE ak 48 [(104,[Jk]),(144,[qJ]),(145,[qI])] [] [(2,bz ⟨[⟨.slot 9,(.int .i64),.pv⟩],[0,1,7,8],[]⟩)]
theorem zcQ x:aj YS Tryz.f180 Xh Vj x=zD x:=by kernel_rfl
def zC (x:List ay×Unit):Option (Bool×Unit):=
 aZ (Int×Unit) (Bool×Unit)
 (fun (x_1:Int×Unit)=>
 bif decide (x_1.1 < Int.ofNat (List.length x.1)) then
 (idx x.1 x_1.1).bind fun b=>
 (fO ([b.1],())).bind fun b_1=>
 bif !b_1.1 then some (Sum.inr (false,()))
 else
 (ku (b.2.1,1,1000,())).bind fun b_2=>
 bif !b_2.1 then some (Sum.inr (false,()))
 else
 (ku (b.2.2.1,0,1000,())).bind fun b_3=>
 bif !b_3.1 then some (Sum.inr (false,()))
 else
 bif decide (0 < x_1.1) then
 (idx x.1 (wrap64 (x_1.1 - 1))).bind
 fun b_4=>
 bif decide (b.1≤b_4.1) then some (Sum.inr (false,()))
 else some (Sum.inl (wrap64 (x_1.1+1),()))
 else some (Sum.inl (wrap64 (x_1.1+1),()))
 else some (Sum.inr (decide (Int.ofNat (List.length x.1)≤64),())))
 big (0,())
def TZ:Sig:=⟨Xg,Vh,zC⟩
def YR:Env:=mkE ak 48 [(144,[qJ]),(145,[qI])] [] [(2,bz ⟨[⟨.slot 7,(.int .i64),.pv⟩],[0,5,6],[]⟩)]
theorem zcP x:aj YR Tryz.f181 Xg Vh x=zC x:=by kernel_rfl
def tu (x:List dJ×List ay×Unit):Option (Bool×Unit):=
 (zD (x.1,15,())).bind fun b=>
 bif b.1 then (zC x.2).bind fun b=>some b else some (false,())
def I9:Sig:=⟨XH,VK,tu⟩
def Zh:Env:=mkE ak 11 [(180,[Ua]),(181,[TZ])] [] []
theorem zdf x:aj Zh Tryz.f152 XH VK x=tu x:=by kernel_rfl
def zy (x:bH×Unit):Option (bH×Unit):=
 Option.bind
 (bif decide (x.1.1=1) then
 some (Sum.inl (x.1.2.1,[],x.1.2.2.2.1,x.1.2.2.2.2.1,0,0,[],[],[],()))
 else
 bif decide (x.1.1=2) then
 some (Sum.inl (x.1.2.1,x.1.2.2.1,[],0,0,0,[],[],[],()))
 else
 bif decide (x.1.1=3) then
 some
 (Sum.inl
 ([],[],[],0,0,0,x.1.2.2.2.2.2.2.2.1,x.1.2.2.2.2.2.2.2.2.1,
 x.1.2.2.2.2.2.2.2.2.2.1,()))
 else
 bif decide (x.1.1=4) then
 some (Sum.inl ([],[],[],0,0,x.1.2.2.2.2.2.2.1,[],[],[],()))
 else
 bif decide (x.1.1=5) then
 some
 (Sum.inl
 ([],[],[],x.1.2.2.2.2.1,x.1.2.2.2.2.2.1,0,[],[],[],()))
 else
 bif decide (x.1.1=6) then
 bif decide (x.1.1=6) then
 some (Sum.inl ([],[],[],x.1.2.2.2.2.1,0,0,[],[],[],()))
 else some (Sum.inl ([],[],[],0,0,0,[],[],[],()))
 else
 bif decide (x.1.1=7) then
 bif decide (x.1.1=7) then
 some (Sum.inl ([],[],[],x.1.2.2.2.2.1,0,0,[],[],[],()))
 else some (Sum.inl ([],[],[],0,0,0,[],[],[],()))
 else
 bif decide (x.1.1=9) then
 some (Sum.inl ([],[],[],x.1.2.2.2.2.1,0,0,[],[],[],()))
 else some (Sum.inl ([],[],[],0,0,0,[],[],[],())))
 fun o=>
 Sum.elim
 (fun (x_1 :
 List UInt8×List UInt8×List UInt8×Int×Int×Int×List aN×List ax×List ax×Unit)=>
 some
 ((x.1.1,x_1.1,x_1.2.1,x_1.2.2.1,x_1.2.2.2.1,x_1.2.2.2.2.1,
 x_1.2.2.2.2.2.1,x_1.2.2.2.2.2.2.1,x_1.2.2.2.2.2.2.2.1,
 x_1.2.2.2.2.2.2.2.2.1,0,0,0,false,[],[],[],()),
 ()))
 some o
def TU:Sig:=⟨Xc,Vd,zy⟩
def YN:Env:=mkE ak 60 [] [(17,⟨[⟨.fld 1004000 1,.str,.pv⟩,⟨.fld 1004000 2,.str,.pv⟩,⟨.fld 1004000 3,.str,.pv⟩,⟨.fld 1004000 4,(.int .i64),.pv⟩,⟨.fld 1004000 5,(.int .i64),.pv⟩,⟨.fld 1004000 6,(.int .i64),.pv⟩,⟨.fld 1004000 7,(.slice T96),.pv⟩,⟨.fld 1004000 8,(.slice T48),.pv⟩,⟨.fld 1004000 9,(.slice T48),.pv⟩],[2,3],[.site 1004000,.fld 1004000 0]++hL (.fld 1004000) 10 7++[.site 2000]++hL (.fld 2000) 0 17⟩)] []
theorem zcL x:aj YN Tryz.f185 Xc Vd x=zy x:=by kernel_rfl
def zI (x:bH×Unit):Option (bH×Unit):=
 Option.bind
 (bif decide (x.1.1=11) then
 bif decide (x.1.1=11) then
 some
 (Sum.inl
 ([],[],0,0,0,false,[],[],[],0,[],[],[],0,0,0,[],[],[],0,0,0,false,[],[],[],
 ()))
 else
 bif decide (x.1.1=10) then
 some
 (Sum.inl
 (x.1.2.1,[],0,0,0,false,[],[],[],0,[],[],[],0,0,0,[],[],[],0,0,0,false,[],
 [],[],()))
 else
 bif decide (x.1.1=12) then
 some
 (Sum.inl
 (x.1.2.1,x.1.2.2.1,x.1.2.2.2.2.2.2.1,
 x.1.2.2.2.2.2.2.2.2.2.2.2.1,0,false,[],[],[],0,[],[],[],0,0,0,
 [],[],[],0,0,0,false,[],[],[],()))
 else
 bif decide (x.1.1=13) then
 some
 (Sum.inl
 (x.1.2.1,x.1.2.2.1,0,x.1.2.2.2.2.2.2.2.2.2.2.2.1,0,
 x.1.2.2.2.2.2.2.2.2.2.2.2.2.2.1,
 x.1.2.2.2.2.2.2.2.2.2.2.2.2.2.2.1,[],[],0,[],[],[],0,0,0,
 [],[],[],0,0,0,false,[],[],[],()))
 else
 bif decide (x.1.1=14) then
 some
 (Sum.inl
 ([],[],x.1.2.2.2.2.2.2.1,x.1.2.2.2.2.2.2.2.2.2.2.2.1,
 x.1.2.2.2.2.2.2.2.2.2.2.2.2.1,false,
 x.1.2.2.2.2.2.2.2.2.2.2.2.2.2.2.1,[],[],0,[],[],[],0,0,0,
 [],[],[],0,0,0,false,[],[],[],()))
 else
 bif decide (x.1.1=15) then
 some
 (Sum.inl
 ([],[],x.1.2.2.2.2.2.2.1,x.1.2.2.2.2.2.2.2.2.2.2.2.1,
 0,false,[],x.1.2.2.2.2.2.2.2.2.2.2.2.2.2.2.2.1,
 x.1.2.2.2.2.2.2.2.2.2.2.2.2.2.2.2.2.1,0,[],[],[],0,0,
 0,[],[],[],0,0,0,false,[],[],[],()))
 else
 (zy x).bind
 fun b=>
 some (Sum.inr b)
 else
 bif decide (x.1.1=16) then
 some
 (Sum.inl
 ([],[],0,0,0,false,[],[],[],0,[],[],[],0,0,0,[],[],[],0,0,0,false,[],[],[],
 ()))
 else
 bif decide (x.1.1=10) then
 some
 (Sum.inl
 (x.1.2.1,[],0,0,0,false,[],[],[],0,[],[],[],0,0,0,[],[],[],0,0,0,false,[],
 [],[],()))
 else
 bif decide (x.1.1=12) then
 some
 (Sum.inl
 (x.1.2.1,x.1.2.2.1,x.1.2.2.2.2.2.2.1,
 x.1.2.2.2.2.2.2.2.2.2.2.2.1,0,false,[],[],[],0,[],[],[],0,0,0,
 [],[],[],0,0,0,false,[],[],[],()))
 else
 bif decide (x.1.1=13) then
 some
 (Sum.inl
 (x.1.2.1,x.1.2.2.1,0,x.1.2.2.2.2.2.2.2.2.2.2.2.1,0,
 x.1.2.2.2.2.2.2.2.2.2.2.2.2.2.1,
 x.1.2.2.2.2.2.2.2.2.2.2.2.2.2.2.1,[],[],0,[],[],[],0,0,0,
 [],[],[],0,0,0,false,[],[],[],()))
 else
 bif decide (x.1.1=14) then
 some
 (Sum.inl
 ([],[],x.1.2.2.2.2.2.2.1,x.1.2.2.2.2.2.2.2.2.2.2.2.1,
 x.1.2.2.2.2.2.2.2.2.2.2.2.2.1,false,
 x.1.2.2.2.2.2.2.2.2.2.2.2.2.2.2.1,[],[],0,[],[],[],0,0,0,
 [],[],[],0,0,0,false,[],[],[],()))
 else
 bif decide (x.1.1=15) then
 some
 (Sum.inl
 ([],[],x.1.2.2.2.2.2.2.1,x.1.2.2.2.2.2.2.2.2.2.2.2.1,
 0,false,[],x.1.2.2.2.2.2.2.2.2.2.2.2.2.2.2.2.1,
 x.1.2.2.2.2.2.2.2.2.2.2.2.2.2.2.2.2.1,0,[],[],[],0,0,
 0,[],[],[],0,0,0,false,[],[],[],()))
 else
 (zy x).bind
 fun b=>
 some (Sum.inr b))
 fun o=>
 Sum.elim
 (fun (x_1 :
 List UInt8×List UInt8×Int×Int×Int×Bool×List ae×List (Int×Int×(Int×Int×Bool×Int×List ae×ai)×Unit)×List ay×Int×List UInt8×List UInt8×List UInt8×Int×Int×Int×List aN×List ax×List ax×Int×Int×Int×Bool×List ae×List (Int×Int×(Int×Int×Bool×Int×List ae×ai)×Unit)×List ay×Unit)=>
 some
 ((x.1.1,x_1.1,x_1.2.1,[],0,0,x_1.2.2.1,[],[],[],
 x.1.2.2.2.2.2.2.2.2.2.2.1,x_1.2.2.2.1,x_1.2.2.2.2.1,
 x_1.2.2.2.2.2.1,x_1.2.2.2.2.2.2.1,x_1.2.2.2.2.2.2.2.1,
 x_1.2.2.2.2.2.2.2.2.1,()),
 ()))
 some o
def Ug:Sig:=⟨Xp,Vs,zI⟩
def Y0:Env:=mkE ak 81 [(185,[TU])] [(16,⟨[⟨.fld 1006000 1,.str,.pv⟩,⟨.fld 1006000 2,.str,.pv⟩,⟨.fld 1006000 6,(.int .i64),.pv⟩,⟨.fld 1006000 11,(.int .i64),.pv⟩,⟨.fld 1006000 12,(.int .i64),.pv⟩,⟨.fld 1006000 13,.bool,.pv⟩,⟨.fld 1006000 14,(.slice T70),.pv⟩,⟨.fld 1006000 15,(.slice T94),.pv⟩,⟨.fld 1006000 16,(.slice jh),.pv⟩,⟨.fld 2000 0,(.int .i64),.pv⟩,⟨.fld 2000 1,.str,.pv⟩,⟨.fld 2000 2,.str,.pv⟩,⟨.fld 2000 3,.str,.pv⟩,⟨.fld 2000 4,(.int .i64),.pv⟩,⟨.fld 2000 5,(.int .i64),.pv⟩,⟨.fld 2000 6,(.int .i64),.pv⟩,⟨.fld 2000 7,(.slice T96),.own false⟩,⟨.fld 2000 8,(.slice T48),.own false⟩,⟨.fld 2000 9,(.slice T48),.own false⟩,⟨.fld 2000 10,(.int .i64),.pv⟩,⟨.fld 2000 11,(.int .i64),.pv⟩,⟨.fld 2000 12,(.int .i64),.pv⟩,⟨.fld 2000 13,.bool,.pv⟩,⟨.fld 2000 14,(.slice T70),.own false⟩,⟨.fld 2000 15,(.slice T94),.own false⟩,⟨.fld 2000 16,(.slice jh),.own false⟩],[2,3],[.site 1006000,.fld 1006000 0,.fld 1006000 3,.fld 1006000 4,.fld 1006000 5]++hL (.fld 1006000) 7 4++[.site 2000]⟩)] []
theorem zcY x:aj Y0 Tryz.f171 Xp Vs x=zI x:=by kernel_rfl
def og (x:List UInt8×List UInt8×Unit):Option (Bool×Unit):=
 (F59 (x.1,())).bind fun b=>
 bif b.1 then
 bif decide (x.2.1=[]) then some (true,())
 else
 (F90 (x.2.1,UInt8.ofNat 127,())).bind fun b=>
 bif b.1 then some (!(bu x.2.1 x.1 || decide (x.2.1=x.1)),())
 else some (false,())
 else some (false,())
def zi:Sig:=⟨Yw,WO,og⟩
def Z9:Env:=mkE ak 20 [(59,[S59]),(90,[S90])] [] []
theorem zd0 x:aj Z9 Tryz.f103 Yw WO x=og x:=by kernel_rfl
def wu (x:List UInt8×List UInt8×Int×Unit):Option (Bool×Unit):=
 (F59 (x.1,())).bind fun b=>
 bif b.1 then
 bif decide (Int.ofNat (List.length x.2.1)≤40) then
 (mr ([x.2.2.1],())).bind fun b=>some b
 else some (false,())
 else some (false,())
def IY:Sig:=⟨Xb,Vb,wu⟩
def YM:Env:=mkE ak 19 [(59,[S59]),(146,[zf])] [] []
theorem zcK x:aj YM Tryz.f186 Xb Vb x=wu x:=by kernel_rfl
def zu (x:aN×Unit):Option (Bool×Unit):=
 (F59 (x.1.1,())).bind fun b=>
 bif !b.1 then some (false,())
 else
 bif decide (x.1.2.2.1 < 0) then some (false,())
 else
 bif decide (2 < x.1.2.2.1) then some (false,())
 else
 (ku (x.1.2.2.2.1,-1099511627776,1099511627776,())).bind
 fun b=>
 bif !b.1 then some (false,())
 else
 bif decide (x.1.2.1=5) then
 bif decide (x.1.2.2.2.1=0) then
 some (decide (Int.ofNat (List.length x.1.2.2.2.2.1)≤40),())
 else some (false,())
 else
 bif decide (1≤x.1.2.1) then
 bif decide (x.1.2.1≤4) then some (decide (x.1.2.2.2.2.1=[]),())
 else some (false,())
 else some (false,())
def TQ:Sig:=⟨WX,U6,zu⟩
def YH:Env:=mkE ak 48 [(59,[S59]),(144,[qJ])] [] []
theorem zcF x:aj YH Tryz.f193 WX U6 x=zu x:=by kernel_rfl
def vZ (x:aN×Unit):Option (Bool×Unit):=
 (zu x).bind fun b=>some (!b.1,())
def DW:Sig:=⟨WY,U7,vZ⟩
def YI:Env:=mkE ak 6 [(193,[TQ])] [] []
theorem zcG x:aj YI Tryz.f192 WY U7 x=vZ x:=by kernel_rfl
def Dl (x:List aN×Unit):Option (Int×Unit):=
 aZ (Int×Unit) (Int×Unit)
 (fun (x_1:Int×Unit)=>
 bif decide (x_1.1 < Int.ofNat (List.length x.1)) then
 (idx x.1 x_1.1).bind fun b=>
 (vZ (b,())).bind fun b=>
 bif b.1 then some (Sum.inr x_1) else some (Sum.inl (wrap64 (x_1.1+1),()))
 else some (Sum.inr (-1,())))
 big (0,())
def QD:Sig:=⟨Rj,QR,Dl⟩
def RU:Env:=mkE ak 19 [(192,[DW])] [] [(2,bz ⟨[⟨.slot 8,(.int .i64),.pv⟩],[0,1,7],[]⟩)]
theorem zbC x:aj RU Tryz.f195 Rj QR x=Dl x:=by kernel_rfl
def yO (x:List aN×Unit):Option (Bool×Unit):=
 (Dl x).bind fun b=>some (decide (0≤b.1),())
def QE:Sig:=⟨Rk,QS,yO⟩
def RX:Env:=mkE ak 9 [(192,[DW]),(195,[QD])] [] []
theorem zbD x:aj RX Tryz.f191 Rk QS x=yO x:=by kernel_rfl
def zt (x:ax×Unit):Option (Bool×Unit):=
 bif decide (x.1.1=1) then
 bif decide (x.1.2.2.1=[]) then
 (wu (x.1.2.1,x.1.2.2.2)).bind fun b=>some b
 else some (false,())
 else
 bif decide (x.1.1=2) then
 bif decide (x.1.1=2) then
 bif decide (x.1.2.2.2.1=[]) then
 bif decide (x.1.2.2.2.2.1=0) then
 (og (x.1.2.1,x.1.2.2.1,())).bind fun b=>some b
 else some (false,())
 else some (false,())
 else some (false,())
 else
 bif decide (x.1.1=3) then
 bif decide (x.1.2.2.2.1=[]) then
 bif decide (x.1.2.2.2.2.1=0) then
 (og (x.1.2.1,x.1.2.2.1,())).bind fun b=>some b
 else some (false,())
 else some (false,())
 else some (false,())
def TN:Sig:=⟨WV,U4,zt⟩
def YF:Env:=mkE ak 37 [(103,[zi]),(186,[IY])] [] []
theorem zcD x:aj YF Tryz.f196 WV U4 x=zt x:=by kernel_rfl
def vX (x:List UInt8×List UInt8×List UInt8×Unit):Option (Bool×Unit):=
 (og (x.1,x.2.1,())).bind fun b=>
 bif !b.1 then some (false,())
 else
 (F59 x.2.2).bind fun b=>
 bif !b.1 then some (false,())
 else
 bif decide (x.2.2.1=x.1) then some (true,())
 else
 bif !(bu x.2.2.1 x.1 || decide (x.2.2.1=x.1)) then
 some (bu x.2.2.1 x.2.1,())
 else some (false,())
def TL:Sig:=⟨WS,U1,vX⟩
def YC:Env:=mkE ak 29 [(59,[S59]),(103,[zi])] [] []
theorem zcA x:aj YC Tryz.f201 WS U1 x=vX x:=by kernel_rfl
def zq (x:ax×ax×Unit):Option (Bool×Unit):=
 bif decide (x.1.1=3) then some (false,())
 else
 bif decide (x.2.1.1=3) then some (false,())
 else
 bif decide (x.1.2.1=x.2.1.2.1) then some (true,())
 else
 (vX (x.1.2.1,x.1.2.2.1,x.2.1.2.1,())).bind fun b=>
 bif b.1 then some (true,())
 else
 (vX (x.2.1.2.1,x.2.1.2.2.1,x.1.2.1,())).bind
 fun b=>some b
def IX:Sig:=⟨WT,U2,zq⟩
def YD:Env:=mkE ak 36 [(201,[TL])] [] []
theorem zcB x:aj YD Tryz.f199 WT U2 x=zq x:=by kernel_rfl
def YB (x:ax×Unit):Option (Bool×Unit):=none
def DV:Sig:=⟨WU,U3,YB⟩
def YE:Env:=mkE ak 7 [(199,[IX])] [] []
theorem zcC x:aj YE Tryz.f198 WU U3 x=YB x:=by kernel_rfl
def vG (x:ax×ax×Unit):Option (Bool×ax×Unit):=
 (zq x).bind fun b=>some (b.1,x.2)
def Dh:Sig:=⟨Rh,QP,vG⟩
def RP:Env:=mkE ak 7 [(199,[IX])] [] []
theorem zbA x:aj RP Tryz.f198 Rh QP x=vG x:=by kernel_rfl
def Dk (x:List ax×ax×Unit):Option (Int×ax×Unit):=
 aZ (Int×ax)
 (Int×ax×Unit)
 (fun (x_1:Int×ax)=>
 bif decide (x_1.1 < Int.ofNat (List.length x.1)) then
 (idx x.1 x_1.1).bind fun b=>
 (vG (b,x_1.2,())).bind
 fun b=>
 bif b.1 then some (Sum.inr (x_1.1,b.2))
 else some (Sum.inl (wrap64 (x_1.1+1),b.2.1))
 else some (Sum.inr (-1,x_1.2,())))
 big (0,x.2.1)
def QB:Sig:=⟨Rf,QO,Dk⟩
def RN:Env:=mkE ak 19 [(198,[DV,Dh])] [] [(2,bz ⟨[⟨.slot 8,(.int .i64),.pv⟩,⟨.fld 2 0,(.int .i64),.pv⟩,⟨.fld 2 1,.str,.pv⟩,⟨.fld 2 2,.str,.pv⟩,⟨.fld 2 3,.str,.pv⟩,⟨.fld 2 4,(.int .i64),.pv⟩],[0,1,7],[.site 2,.comp 1 0]⟩)]
theorem zbz x:aj RN Tryz.f200 Rf QO x=Dk x:=by kernel_rfl
def yN (x:List ax×ax×Unit):Option (Bool×ax×Unit):=
 (Dk x).bind fun b=>
 some (decide (0≤b.1),b.2)
def QC:Sig:=⟨Ri,QQ,yN⟩
def RQ:Env:=mkE ak 9 [(198,[DV,Dh]),(200,[QB])] [] []
theorem zbB x:aj RQ Tryz.f197 Ri QQ x=yN x:=by kernel_rfl
def vY (x:List ax×Unit):Option (Bool×Unit):=
 aZ (Int×Unit) (Bool×Unit)
 (fun (x_1:Int×Unit)=>
 bif decide (x_1.1 < Int.ofNat (List.length x.1)) then
 (idx x.1 x_1.1).bind fun b=>
 (zt (b,())).bind fun b_1=>
 bif !b_1.1 then some (Sum.inr (false,()))
 else
 (jP x.1 0 x_1.1).bind
 fun b_2=>
 (yN (b_2,b,())).bind
 fun b=>
 bif b.1 then some (Sum.inr (false,()))
 else some (Sum.inl (wrap64 (x_1.1+1),()))
 else some (Sum.inr (decide (Int.ofNat (List.length x.1)≤4),())))
 big (0,())
def TP:Sig:=⟨WW,U5,vY⟩
def YG:Env:=mkE ak 26 [(196,[TN]),(197,[QC]),(198,[DV,Dh])] [] [(2,bz ⟨[⟨.slot 7,(.int .i64),.pv⟩],[0,5,6],[]⟩)]
theorem zcE x:aj YG Tryz.f194 WW U5 x=vY x:=by kernel_rfl
def zx (x:bH×Unit):Option (Bool×Unit):=
 bif decide (Int.ofNat (List.length x.1.2.2.2.2.2.2.2.1)≤4) then
 (yO (x.1.2.2.2.2.2.2.2.1,())).bind fun b=>
 bif !b.1 then
 (vY (x.1.2.2.2.2.2.2.2.2.1,())).bind fun b=>
 bif b.1 then
 (vY (x.1.2.2.2.2.2.2.2.2.2.1,())).bind fun b=>
 some b
 else some (false,())
 else some (false,())
 else some (false,())
def TT:Sig:=⟨Xa,Va,zx⟩
def YL:Env:=mkE ak 23 [(191,[QE]),(192,[DW]),(194,[TP])] [] []
theorem zcJ x:aj YL Tryz.f187 Xa Va x=zx x:=by kernel_rfl
def zG (x:bH×Unit):Option (Bool×Unit):=
 bif decide (x.1.1=1) then
 (wu (x.1.2.1,x.1.2.2.2.1,x.1.2.2.2.2.1,())).bind
 fun b=>some b
 else
 bif decide (x.1.1=2) then
 (og (x.1.2.1,x.1.2.2.1,())).bind fun b=>some b
 else
 bif decide (x.1.1=3) then (zx x).bind fun b=>some b
 else
 bif decide (x.1.1=4) then
 (fO ([x.1.2.2.2.2.2.2.1],())).bind fun b=>some b
 else
 bif decide (x.1.1=5) then
 (fO ([x.1.2.2.2.2.1],())).bind fun b=>
 bif b.1 then
 (ku (x.1.2.2.2.2.2.1,1,1000,())).bind fun b=>some b
 else some (false,())
 else
 bif decide (x.1.1=6) then
 bif decide (x.1.1=6) then
 (fO ([x.1.2.2.2.2.1],())).bind fun b=>some b
 else
 bif decide (x.1.1=9) then
 bif !decide (x.1.2.2.2.2.1=0) then
 (ku (x.1.2.2.2.2.1,-1099511627776,1099511627776,())).bind
 fun b=>some b
 else some (false,())
 else some (decide (x.1.1=8),())
 else
 bif decide (x.1.1=7) then
 (fO ([x.1.2.2.2.2.1],())).bind fun b=>some b
 else
 bif decide (x.1.1=9) then
 bif !decide (x.1.2.2.2.2.1=0) then
 (ku (x.1.2.2.2.2.1,-1099511627776,1099511627776,())).bind
 fun b=>some b
 else some (false,())
 else some (decide (x.1.1=8),())
def Uf:Sig:=⟨Xo,Vr,zG⟩
def YZ:Env:=mkE ak 62 [(103,[zi]),(144,[qJ]),(145,[qI]),(186,[IY]),(187,[TT])] [] []
theorem zcX x:aj YZ Tryz.f172 Xo Vr x=zG x:=by kernel_rfl
def wG (x:bH×Unit):Option (Bool×Unit):=
 Option.bind
 (bif !decide (x.1.2.1=[]) then
 (F59 (x.1.2.1,())).bind fun b=>
 bif !b.1 then some (Sum.inr (false,()))
 else
 bif !decide (x.1.2.2.1=[]) then
 (F59 (x.1.2.2.1,())).bind fun b=>
 bif !b.1 then some (Sum.inr (false,()))
 else
 bif
 decide
 (8 <
 Int.ofNat (List.length x.1.2.2.2.2.2.2.2.2.2.2.2.2.2.2.1)) then
 some (Sum.inr (false,()))
 else some (Sum.inl ())
 else
 bif
 decide
 (8 < Int.ofNat (List.length x.1.2.2.2.2.2.2.2.2.2.2.2.2.2.2.1)) then
 some (Sum.inr (false,()))
 else some (Sum.inl ())
 else
 bif !decide (x.1.2.2.1=[]) then
 (F59 (x.1.2.2.1,())).bind fun b=>
 bif !b.1 then some (Sum.inr (false,()))
 else
 bif
 decide
 (8 < Int.ofNat (List.length x.1.2.2.2.2.2.2.2.2.2.2.2.2.2.2.1)) then
 some (Sum.inr (false,()))
 else some (Sum.inl ())
 else
 bif decide (8 < Int.ofNat (List.length x.1.2.2.2.2.2.2.2.2.2.2.2.2.2.2.1)) then
 some (Sum.inr (false,()))
 else some (Sum.inl ()))
 fun o=>
 Sum.elim
 (fun (_z:Unit)=>
 aZ (Int×Unit) (Bool×Unit)
 (fun (x_1:Int×Unit)=>
 bif
 decide
 (x_1.1 <
 Int.ofNat (List.length x.1.2.2.2.2.2.2.2.2.2.2.2.2.2.2.1)) then
 (idx x.1.2.2.2.2.2.2.2.2.2.2.2.2.2.2.1 x_1.1).bind
 fun b=>
 (F59 (b.1,())).bind fun b_1=>
 bif !b_1.1 then some (Sum.inr (false,()))
 else
 (nY b.2).bind fun b_2=>
 bif !b_2.1 then some (Sum.inr (false,()))
 else
 bif b.2.1.2.2.2.2.2.2.1 then some (Sum.inr (false,()))
 else
 bif decide (0 < x_1.1) then
 Option.bind
 (idx x.1.2.2.2.2.2.2.2.2.2.2.2.2.2.2.1
 (wrap64 (x_1.1 - 1)))
 fun b_3=>
 bif !bu b_3.1 b.1 then some (Sum.inr (false,()))
 else some (Sum.inl (wrap64 (x_1.1+1),()))
 else some (Sum.inl (wrap64 (x_1.1+1),()))
 else some (Sum.inr (true,())))
 big (0,()))
 some o
def Ue:Sig:=⟨Xn,Vq,wG⟩
def YY:Env:=mkE ak 71 [(59,[S59]),(149,[D5])] [(3,⟨[],[1],[.site 1000]++hL (.fld 1000) 0 17⟩)] [(4,bz ⟨[⟨.slot 34,(.int .i64),.pv⟩],[1,32,33],[.site 1000]++hL (.fld 1000) 0 17⟩)]
theorem zcW x:aj YY Tryz.f173 Xn Vq x=wG x:=by kernel_rfl
def wF (x:bH×Unit):Option (Bool×Unit):=
 Option.bind
 (fO ([x.1.2.2.2.2.2.2.1,x.1.2.2.2.2.2.2.2.2.2.2.2.2.1],()))
 fun b=>
 bif !b.1 then some (false,())
 else
 bif decide (x.1.2.2.2.2.2.2.2.2.2.2.2.2.1≤x.1.2.2.2.2.2.2.1) then
 some (false,())
 else
 bif decide (64 < Int.ofNat (List.length x.1.2.2.2.2.2.2.2.2.2.2.2.2.2.2.1)) then
 some (false,())
 else
 aZ (Int×Unit) (Bool×Unit)
 (fun (x_1:Int×Unit)=>
 bif
 decide
 (x_1.1 <
 Int.ofNat (List.length x.1.2.2.2.2.2.2.2.2.2.2.2.2.2.2.1)) then
 (idx x.1.2.2.2.2.2.2.2.2.2.2.2.2.2.2.1 x_1.1).bind
 fun b=>
 (F59 (b.1,())).bind fun b_1=>
 bif !b_1.1 then some (Sum.inr (false,()))
 else
 (nY b.2).bind fun b_2=>
 bif !b_2.1 then some (Sum.inr (false,()))
 else
 bif decide (b.2.1.1≤x.1.2.2.2.2.2.2.1) then
 some (Sum.inr (false,()))
 else
 bif decide (x.1.2.2.2.2.2.2.2.2.2.2.2.2.1 < b.2.1.1) then
 some (Sum.inr (false,()))
 else
 bif decide (x_1.1=0) then
 some (Sum.inl (wrap64 (x_1.1+1),()))
 else
 Option.bind
 (idx x.1.2.2.2.2.2.2.2.2.2.2.2.2.2.2.1
 (wrap64 (x_1.1 - 1)))
 fun b_3=>
 bif decide (b.2.1.1 < b_3.2.1.1) then some (Sum.inr (false,()))
 else
 bif decide (b_3.2.1.1=b.2.1.1) then
 bif !bu b_3.1 b.1 then some (Sum.inr (false,()))
 else some (Sum.inl (wrap64 (x_1.1+1),()))
 else some (Sum.inl (wrap64 (x_1.1+1),()))
 else some (Sum.inr (true,())))
 big (0,())
def Ud:Sig:=⟨Xm,Vp,wF⟩
def YX:Env:=mkE ak 92 [(59,[S59]),(145,[qI]),(149,[D5])] [] [(4,bz ⟨[⟨.slot 29,(.int .i64),.pv⟩],[1,27,28],[.site 1000]++hL (.fld 1000) 0 17⟩)]
theorem zcV x:aj YX Tryz.f174 Xm Vp x=wF x:=by kernel_rfl
def zX (x:bH×Unit):Option (Bool×Unit):=
 (zI x).bind
 fun b=>
 (F92 (b.1,x)).bind fun b=>
 bif !b.1 then some (false,())
 else
 bif decide (x.1.1 < 10) then (zG x).bind fun b=>some b
 else
 (fO ([x.1.2.2.2.2.2.2.2.2.2.2.1],())).bind fun b=>
 bif !b.1 then some (false,())
 else
 bif decide (x.1.1=10) then
 (F40 (x.1.2.1,())).bind fun b=>some b
 else
 bif decide (x.1.1=11) then
 bif decide (x.1.1=11) then some (true,())
 else
 bif decide (x.1.1=12) then
 Option.bind
 (fO
 ([x.1.2.2.2.2.2.2.2.2.2.2.2.1,x.1.2.2.2.2.2.2.1],
 ()))
 fun b=>
 bif b.1 then
 (F40 (x.1.2.1,())).bind fun b=>
 bif b.1 then
 (F40 (x.1.2.2.1,())).bind fun b=>some b
 else some (false,())
 else some (false,())
 else
 bif decide (x.1.1=13) then
 (fO ([x.1.2.2.2.2.2.2.2.2.2.2.2.1],())).bind
 fun b=>
 bif b.1 then (wG x).bind fun b=>some b
 else some (false,())
 else
 bif decide (x.1.1=14) then
 (fO ([x.1.2.2.2.2.2.2.2.2.2.2.2.1],())).bind
 fun b=>
 bif b.1 then (wF x).bind fun b=>some b
 else some (false,())
 else
 bif decide (x.1.1=15) then
 Option.bind
 (fO
 ([x.1.2.2.2.2.2.2.2.2.2.2.2.1,
 x.1.2.2.2.2.2.2.1],
 ()))
 fun b=>
 bif b.1 then
 (tu x.1.2.2.2.2.2.2.2.2.2.2.2.2.2.2.2).bind
 fun b=>some b
 else some (false,())
 else some (false,())
 else
 bif decide (x.1.1=16) then some (true,())
 else
 bif decide (x.1.1=12) then
 Option.bind
 (fO
 ([x.1.2.2.2.2.2.2.2.2.2.2.2.1,x.1.2.2.2.2.2.2.1],
 ()))
 fun b=>
 bif b.1 then
 (F40 (x.1.2.1,())).bind fun b=>
 bif b.1 then
 (F40 (x.1.2.2.1,())).bind fun b=>some b
 else some (false,())
 else some (false,())
 else
 bif decide (x.1.1=13) then
 (fO ([x.1.2.2.2.2.2.2.2.2.2.2.2.1],())).bind
 fun b=>
 bif b.1 then (wG x).bind fun b=>some b
 else some (false,())
 else
 bif decide (x.1.1=14) then
 (fO ([x.1.2.2.2.2.2.2.2.2.2.2.2.1],())).bind
 fun b=>
 bif b.1 then (wF x).bind fun b=>some b
 else some (false,())
 else
 bif decide (x.1.1=15) then
 Option.bind
 (fO
 ([x.1.2.2.2.2.2.2.2.2.2.2.2.1,
 x.1.2.2.2.2.2.2.1],
 ()))
 fun b=>
 bif b.1 then
 (tu x.1.2.2.2.2.2.2.2.2.2.2.2.2.2.2.2).bind
 fun b=>some b
 else some (false,())
 else some (false,())
def Uw:Sig:=⟨XP,VS,zX⟩
def Zp:Env:=mkE ak 81 [(40,[S40]),(92,[S92]),(145,[qI]),(152,[I9]),(171,[Ug]),(172,[Uf]),(173,[Ue]),(174,[Ud])] [] []
theorem zdn x:aj Zp Tryz.f143 XP VS x=zX x:=by kernel_rfl
def Aw (x:mi×Unit):Option (Bool×Unit):=
 (zX x.1.2.2).bind fun b=>
 bif !b.1 then some (false,())
 else
 (ku (x.1.1,0,31,())).bind fun b=>
 bif !b.1 then some (false,())
 else
 bif decide (x.1.1=0) then
 bif decide (x.1.2.1=0) then some (decide (8≤x.1.2.2.1.1),())
 else some (false,())
 else
 (fO ([x.1.2.1],())).bind fun b=>
 bif b.1 then some (decide (x.1.2.2.1.1 < 8),()) else some (false,())
def UX:Sig:=⟨Yx,WP,Aw⟩
def E102:Env:=mkE ak 35 [(143,[Uw]),(144,[qJ]),(145,[qI])] [] []
theorem zd1 x:aj E102 Tryz.f102 Yx WP x=Aw x:=by kernel_rfl
def F68 (x:TMD×Unit):Option (Bool×Unit):=
 (F67 (x.1.2.2.2.2.1,0,31,())).bind fun b=>
 bif decide (x.1.1=2) then
 (Aw (x.1.2.2.2.1,())).bind fun b=>some b
 else
 bif decide (x.1.1=3) then
 bif b.1 then
 (og (x.1.2.2.2.2.2.1,x.1.2.2.2.2.2.2.1,())).bind
 fun b=>
 bif b.1 then
 (F67 (x.1.2.2.2.2.2.2.2.1,0,1099511627776,())).bind
 fun b=>
 bif b.1 then
 (F67 (x.1.2.2.2.2.2.2.2.2.1,0,8,())).bind
 fun b=>some b
 else some (false,())
 else some (false,())
 else some (false,())
 else
 bif decide (x.1.1=4) then
 bif b.1 then
 (og (x.1.2.2.2.2.2.1,x.1.2.2.2.2.2.2.1,())).bind
 fun b=>
 bif b.1 then
 (F67 (x.1.2.2.2.2.2.2.2.1,1,1099511627776,())).bind
 fun b=>some b
 else some (false,())
 else some (false,())
 else
 bif decide (x.1.1=5) then
 (F40 (x.1.2.2.2.2.2.1,())).bind fun b=>
 bif b.1 then
 bif decide (x.1.2.2.2.2.2.2.1=[]) then
 (F67 (x.1.2.2.2.2.2.2.2.1,1,1099511627776,())).bind
 fun b=>some b
 else
 (F59 (x.1.2.2.2.2.2.2.1,())).bind fun b=>
 bif b.1 then
 (F67 (x.1.2.2.2.2.2.2.2.1,1,1099511627776,())).bind
 fun b=>some b
 else some (false,())
 else some (false,())
 else
 bif decide (x.1.1=6) then
 (F67 (x.1.2.2.2.2.2.2.2.1,1,1099511627776,())).bind
 fun b=>some b
 else some (decide (x.1.1=7),())
def S68:Sig:=⟨P68,R68,F68⟩
def E68:Env:=mkE ak 77 [(40,[S40]),(59,[S59]),(67,[S67]),(102,[UX]),(103,[zi])] [] []
theorem zfx x:aj E68 Tryz.f68 P68 R68 x=F68 x:=by kernel_rfl
def wM (x:ae×Unit):Option (Bool×Unit):=
 (F59 (x.1.1,())).bind fun b=>
 bif !b.1 then some (true,())
 else (tC ([x.1.2.1],())).bind fun b=>some (!b.1,())
def DZ:Sig:=⟨XJ,VM,wM⟩
def Zj:Env:=mkE ak 14 [(59,[S59]),(151,[Ja])] [] []
theorem zdh x:aj Zj Tryz.f150 XJ VM x=wM x:=by kernel_rfl
def Dq (x:List ae×Unit):Option (Int×Unit):=
 aZ (Int×Unit) (Int×Unit)
 (fun (x_1:Int×Unit)=>
 bif decide (x_1.1 < Int.ofNat (List.length x.1)) then
 (idx x.1 x_1.1).bind
 fun b=>
 (wM (b,())).bind fun b=>
 bif b.1 then some (Sum.inr x_1) else some (Sum.inl (wrap64 (x_1.1+1),()))
 else some (Sum.inr (-1,())))
 big (0,())
def QG:Sig:=⟨Ro,QV,Dq⟩
def Si:Env:=mkE ak 19 [(150,[DZ])] [] [(2,bz ⟨[⟨.slot 8,(.int .i64),.pv⟩],[0,1,7],[]⟩)]
theorem zbG x:aj Si Tryz.f178 Ro QV x=Dq x:=by kernel_rfl
def yR (x:List ae×Unit):Option (Bool×Unit):=
 (Dq x).bind fun b=>some (decide (0≤b.1),())
def QM:Sig:=⟨RD,Q7,yR⟩
def SB:Env:=mkE ak 9 [(150,[DZ]),(178,[Iu,QG])] [] []
theorem zbO x:aj SB Tryz.f147 RD Q7 x=yR x:=by kernel_rfl
def qO (x:List ae×Int×Unit):Option (Bool×Unit):=
 bif decide (Int.ofNat (List.length x.1)≤x.2.1) then
 (yR (x.1,())).bind fun b=>some (!b.1,())
 else some (false,())
def Jj:Sig:=⟨Yt,WL,qO⟩
def Z6:Env:=mkE ak 14 [(147,[Iy,QM]),(150,[DZ])] [] []
theorem zdX x:aj Z6 Tryz.f106 Yt WL x=qO x:=by kernel_rfl
def Au (x:List TBD×Unit):Option (Bool×Unit):=
 aZ (Int×Unit) (Bool×Unit)
 (fun (x_1:Int×Unit)=>
 bif decide (x_1.1 < Int.ofNat (List.length x.1)) then
 (idx x.1 x_1.1).bind
 fun b=>
 (F67 (b.1,1,1099511627776,())).bind fun b_1=>
 bif !b_1.1 then some (Sum.inr (false,()))
 else
 bif decide (0 < x_1.1) then
 (idx x.1 (wrap64 (x_1.1 - 1))).bind
 fun b_2=>
 bif decide (b.1≤b_2.1) then some (Sum.inr (false,()))
 else
 (qO (b.2.1,48,())).bind fun b=>
 bif !b.1 then some (Sum.inr (false,()))
 else some (Sum.inl (wrap64 (x_1.1+1),()))
 else
 (qO (b.2.1,48,())).bind fun b=>
 bif !b.1 then some (Sum.inr (false,()))
 else some (Sum.inl (wrap64 (x_1.1+1),()))
 else some (Sum.inr (decide (Int.ofNat (List.length x.1)≤64),())))
 big (0,())
def UW:Sig:=⟨Yu,WM,Au⟩
def Z7:Env:=mkE ak 41 [(67,[S67]),(106,[Jj])] [] [(2,bz ⟨[⟨.slot 7,(.int .i64),.pv⟩],[0,5,6],[]⟩)]
theorem zdY x:aj Z7 Tryz.f105 Yu WM x=Au x:=by kernel_rfl
def Ar (x:dO×Unit):Option (Bool×Unit):=
 bif decide (x.1.1=0) then
 bif decide (x.1.2.1=0) then
 bif decide (Int.ofNat (List.length x.1.2.2.1)=0) then
 some (decide (Int.ofNat (List.length x.1.2.2.2.1)=0),())
 else some (false,())
 else some (false,())
 else some (false,())
def UV:Sig:=⟨Yr,WJ,Ar⟩
def Z5:Env:=mkE ak 23 [] [] []
theorem zdW x:aj Z5 Tryz.f107 Yr WJ x=Ar x:=by kernel_rfl
def Aq (x:dO×Unit):Option (Bool×Unit):=
 (fO ([x.1.1],())).bind fun b=>
 bif b.1 then
 (mr ([x.1.2.1],())).bind fun b=>
 bif b.1 then (tu x.1.2.2).bind fun b=>some b else some (false,())
 else some (false,())
def UU:Sig:=⟨Yq,WI,Aq⟩
def Z4:Env:=mkE ak 20 [(145,[qI]),(146,[zf]),(152,[I9])] [] []
theorem zdV x:aj Z4 Tryz.f108 Yq WI x=Aq x:=by kernel_rfl
def vH (x:List UInt8×Unit):Option (Bool×Unit):=
 bif decide (x.1=[]) then some (true,()) else (F40 x).bind fun b=>some b
def QL:Sig:=⟨Rz,Q5,vH⟩
def SA:Env:=mkE ak 12 [(40,[S40])] [] []
theorem zbN x:aj SA Tryz.f153 Rz Q5 x=vH x:=by kernel_rfl
def yQ (x:List UInt8×Unit):Option (Bool×Unit):=
 bif decide (x.1=[]) then some (true,()) else (F59 x).bind fun b=>some b
def QK:Sig:=⟨Ry,Q4,yQ⟩
def Sz:Env:=mkE ak 12 [(59,[S59])] [] []
theorem zbM x:aj Sz Tryz.f153 Ry Q4 x=yQ x:=by kernel_rfl
def Ap (x:aH×Unit):Option (Bool×Unit):=
 bif decide (0≤x.1.1) then
 bif decide (x.1.1≤4) then
 Option.bind
 (mr
 ([x.1.2.1,x.1.2.2.1,x.1.2.2.2.2.2.1,x.1.2.2.2.2.2.2.2.1,
 x.1.2.2.2.2.2.2.2.2.1,x.1.2.2.2.2.2.2.2.2.2.1],
 ()))
 fun b=>
 bif b.1 then
 (vH (x.1.2.2.2.1,())).bind fun b=>
 bif b.1 then
 (vH (x.1.2.2.2.2.1,())).bind fun b=>
 bif b.1 then
 (yQ (x.1.2.2.2.2.2.2.1,())).bind fun b=>some b
 else some (false,())
 else some (false,())
 else some (false,())
 else some (false,())
 else some (false,())
def UT:Sig:=⟨Yp,WH,Ap⟩
def ZZ:Env:=mkE ak 46 [(40,[S40]),(59,[S59]),(146,[zf]),(153,[QL,QK])] [] []
theorem zdU x:aj ZZ Tryz.f109 Yp WH x=Ap x:=by kernel_rfl
def F69 (x:TMD×Unit):Option (Bool×Unit):=
 (F67 (x.1.2.2.2.2.2.2.2.2.2.1,0,15,())).bind fun b=>
 bif !b.1 then some (false,())
 else
 bif decide (x.1.1=8) then
 bif decide (-1≤x.1.2.2.2.2.2.2.2.2.2.2.1) then
 bif decide (x.1.2.2.2.2.2.2.2.2.2.2.1 < 3) then
 (tN (x.1.2.2.2.2.2.2.2.2.2.2.2.1,())).bind
 fun b=>some b
 else some (false,())
 else some (false,())
 else
 bif decide (x.1.1=9) then
 (F67 (x.1.2.2.2.2.2.2.2.1,0,1099511627777,())).bind
 fun b=>
 bif b.1 then
 (Au (x.1.2.2.2.2.2.2.2.2.2.2.2.2.1,())).bind
 fun b=>some b
 else some (false,())
 else
 bif decide (x.1.1=10) then
 (qO (x.1.2.2.2.2.2.2.2.2.2.2.2.2.2.1,8,())).bind
 fun b=>some b
 else
 bif decide (x.1.1=11) then
 (Ar (x.1.2.2.2.2.2.2.2.2.2.2.2.2.2.2.2.1,())).bind
 fun b=>
 bif b.1 then some (true,())
 else
 (Aq (x.1.2.2.2.2.2.2.2.2.2.2.2.2.2.2.2.1,())).bind
 fun b=>some b
 else
 (F67 (x.1.2.2.2.2.2.2.2.1,0,1099511627776,())).bind
 fun b=>
 bif b.1 then
 (Ap x.1.2.2.2.2.2.2.2.2.2.2.2.2.2.2.2.2).bind
 fun b=>some b
 else some (false,())
def S69:Sig:=⟨P69,R69,F69⟩
def E69:Env:=mkE ak 57 [(67,[S67]),(104,[Jk]),(105,[UW]),(106,[Jj]),(107,[UV]),(108,[UU]),(109,[UT])] [] []
theorem zfw x:aj E69 Tryz.f69 P69 R69 x=F69 x:=by kernel_rfl
def F48 (x:TMD×Unit):Option (Bool×Unit):=
 bif decide (x.1.1 < 1) then some (false,())
 else
 bif decide (12 < x.1.1) then some (false,())
 else
 (F65 x).bind
 fun b=>
 (F64 (b.1,x)).bind fun b=>
 bif !b.1 then some (false,())
 else
 bif decide (x.1.1=1) then
 (F66 (x.1.2.2.1,())).bind fun b=>some b
 else
 (F67 (x.1.2.1,1,1099511627776,())).bind fun b=>
 bif !b.1 then some (false,())
 else
 bif decide (x.1.1 < 8) then (F68 x).bind fun b=>some b
 else (F69 x).bind fun b=>some b
def S48:Sig:=⟨P48,R48,F48⟩
def E48:Env:=mkE ak 39 [(64,[S64]),(65,[S65]),(66,[S66]),(67,[S67]),(68,[S68]),(69,[S69])] [] []
theorem zfR x:aj E48 Tryz.f48 P48 R48 x=F48 x:=by kernel_rfl
def F25 (x:kK×TMD×Unit):Option (nU×Int×kK×Unit):=
 bif x.1.2.2.2.2.2.2.2.1 then
 some
 ((0,0,
 zT,
 ()),
 7,x.1,())
 else
 (F47 (x.2.1.1,())).bind fun b=>
 bif decide (b.1=0) then
 some
 ((0,0,
 zT,
 ()),
 1,x.1,())
 else
 Option.bind
 (F48
 ((x.2.1.1,wrap64 (x.1.2.2.2.2.1+1),x.2.1.2.2),()))
 fun b=>
 bif !b.1 then
 some
 ((0,0,
 zT,
 ()),
 1,x.1,())
 else
 Option.bind
 (F49
 ((x.2.1.1,wrap64 (x.1.2.2.2.2.1+1),x.2.1.2.2),
 ()))
 fun b=>
 Option.bind
 (F42
 ((x.1.1,x.1.2.1,x.1.2.2.1,x.1.2.2.2.1,
 wrap64 (x.1.2.2.2.2.1+1),x.1.2.2.2.2.2.1,0,true,
 b),
 ()))
 fun b=>
 some (b.1,0,b.2)
def S25:Sig:=⟨P25,R25,F25⟩
def E25:Env:=mkE ak 50 [(42,[S42]),(47,[S47]),(48,[S48]),(49,[S49])] [] []
theorem zge x:aj E25 Tryz.f25 P25 R25 x=F25 x:=by kernel_rfl
def F9 (x:dm×Unit):Option (nU×Bool×dm×Unit):=
 Option.bind (List.head? x.1.2.2.1)
 fun b=>
 (F22 (b,())).bind
 fun b=>
 bif b.1 then
 (F23 b.2).bind
 fun b=>
 some (b.1,b.2.1,(x.1.1,x.1.2.1,[b.2.2.1],x.1.2.2.2),())
 else
 Option.bind (List.head? x.1.2.2.2.1)
 fun b_1=>
 (F22 (b_1,())).bind
 fun b_2=>
 bif b_2.1 then
 (F23 b_2.2).bind
 fun b_3=>
 some
 (b_3.1,b_3.2.1,
 (x.1.1,x.1.2.1,[b.2.1],[b_3.2.2.1],x.1.2.2.2.2),())
 else
 Option.bind
 (F24 ((x.1.1,x.1.2.1,[b.2.1],[b_2.2.1],x.1.2.2.2.2),()))
 fun b=>
 bif decide (b.1.1=0) then
 some
 ((0,0,
 zT,
 ()),
 false,b.2.2)
 else
 bif decide (b.2.1=Int.ofNat 0) then
 Option.bind (List.head? b.2.2.1.2.2.1)
 fun b_3=>
 (F25 (b_3,b.1,())).bind
 fun b_4=>
 bif !decide (b_4.2.1=0) then
 some
 ((0,0,
 zT,
 ()),
 false,
 (b.2.2.1.1,b.2.2.1.2.1,[b_4.2.2.1],b.2.2.1.2.2.2),
 ())
 else
 some
 (b_4.1,true,
 (b.2.2.1.1,b.2.2.1.2.1,[b_4.2.2.1],
 b.2.2.1.2.2.2.1,b.1,b.2.2.1.2.2.2.2.2),
 ())
 else
 bif decide (b.2.1=Int.ofNat (0+1)) then
 Option.bind (List.head? b.2.2.1.2.2.2.1)
 fun b_3=>
 (F25 (b_3,b.1,())).bind
 fun b_4=>
 bif !decide (b_4.2.1=0) then
 some
 ((0,0,
 zT,
 ()),
 false,
 (b.2.2.1.1,b.2.2.1.2.1,b.2.2.1.2.2.1,[b_4.2.2.1],
 b.2.2.1.2.2.2.2),
 ())
 else
 some
 (b_4.1,true,
 (b.2.2.1.1,b.2.2.1.2.1,b.2.2.1.2.2.1,[b_4.2.2.1],
 b.1,b.2.2.1.2.2.2.2.2),
 ())
 else none
def S9:Sig:=⟨P9,R9,F9⟩
def E9:Env:={ tab:=ak,nt:=55,Γ:=nD [(22,[S22]),(23,[S23]),(24,[S24]),(25,[S25])],joins:=iI [],loops:=iI [],unr:=iI [(4,3)] }
theorem zhx x:aj E9 Tryz.f9 P9 R9 x=F9 x:=by kernel_rfl
def F9a (_x:Unit):Option (nU×Bool×Unit):=
 some
 ((0,0,
 zT,
 ()),
 false,())
def S9a:Sig:=⟨P9a,R9a,F9a⟩
def E9a:Env:={ tab:=ak,nt:=55,Γ:=nD [(22,[S22]),(23,[S23]),(24,[S24]),(25,[S25])],joins:=iI [],loops:=iI [],unr:=iI [(4,3)] }
theorem ze1 x:aj E9a Tryz.f9 P9a R9a x=F9a x:=by kernel_rfl
def F4 (_x:Unit):Option (Bool×Unit):=
 (F7 ((1,[97,47],[98,47],(1,1,()),()),0,())).bind
 fun b=>
 bif b.1.1 then
 bif !decide (b.2.1=0) then some (false,())
 else
 (F9 (b.1.2,())).bind
 fun b=>
 bif b.2.1 then
 bif decide (b.1.1=11) then
 bif decide (b.1.2.1=4) then some (decide (b.1.2.2.1.1=7),())
 else some (false,())
 else some (false,())
 else some (false,())
 else
 bif !decide (b.2.1=0) then some (false,())
 else
 (F9a ()).bind
 fun b=>
 bif b.2.1 then
 bif decide (b.1.1=11) then
 bif decide (b.1.2.1=4) then some (decide (b.1.2.2.1.1=7),())
 else some (false,())
 else some (false,())
 else some (false,())
def S4:Sig:=⟨P4,R4,F4⟩
def E4:Env:=mkE ak 35 [(7,[S7]),(9,[S9,S9a])] [] []
theorem zhC x:aj E4 Tryz.f4 P4 R4 x=F4 x:=by kernel_rfl
def F36 (x:bH×Unit):Option (Bool×Unit):=
 bif decide (10 < Int.ofNat (List.length x.1.2.2.2.2.2.2.2.1)) then some (false,())
 else
 bif decide (10 < Int.ofNat (List.length x.1.2.2.2.2.2.2.2.2.1)) then some (false,())
 else
 bif decide (10 < Int.ofNat (List.length x.1.2.2.2.2.2.2.2.2.2.1)) then
 some (false,())
 else
 bif decide (80 < Int.ofNat (List.length x.1.2.2.2.2.2.2.2.2.2.2.2.2.2.2.1)) then
 some (false,())
 else
 bif
 decide
 (20 <
 Int.ofNat (List.length x.1.2.2.2.2.2.2.2.2.2.2.2.2.2.2.2.1)) then
 some (false,())
 else
 bif
 decide
 (80 <
 Int.ofNat
 (List.length x.1.2.2.2.2.2.2.2.2.2.2.2.2.2.2.2.2.1)) then
 some (false,())
 else
 aZ ai (Bool×Unit)
 (fun (x_1:ai)=>
 bif
 decide
 (x_1.2.1 <
 Int.ofNat
 (List.length x.1.2.2.2.2.2.2.2.2.2.2.2.2.2.2.1)) then
 (idx x.1.2.2.2.2.2.2.2.2.2.2.2.2.2.2.1 x_1.2.1).bind
 fun b=>
 (idx x.1.2.2.2.2.2.2.2.2.2.2.2.2.2.2.1 x_1.2.1).bind
 fun b_1=>
 some
 (Sum.inl
 (wrap64
 (wrap64 (x_1.1+Int.ofNat (List.length b.1)) +
 Int.ofNat (List.length b_1.2.1.2.2.2.2.1)),
 wrap64 (x_1.2.1+1),()))
 else
 Option.map Sum.inr
 (aZ ai (Bool×Unit)
 (fun (x_2:ai)=>
 bif
 decide
 (x_2.2.1 <
 Int.ofNat
 (List.length
 x.1.2.2.2.2.2.2.2.2.2.2.2.2.2.2.2.1)) then
 Option.bind
 (idx x.1.2.2.2.2.2.2.2.2.2.2.2.2.2.2.2.1 x_2.2.1)
 fun b=>
 bif decide (12 < Int.ofNat (List.length b.2.2.1.2.2.2.2.1)) then
 some (Sum.inr (false,()))
 else
 Option.bind
 (idx x.1.2.2.2.2.2.2.2.2.2.2.2.2.2.2.2.1
 x_2.2.1)
 fun b=>
 aZ ai (ai⊕Bool×Unit)
 (fun (x_3:ai)=>
 bif
 decide
 (x_3.2.1 <
 Int.ofNat (List.length b.2.2.1.2.2.2.2.1)) then
 Option.bind
 (idx x.1.2.2.2.2.2.2.2.2.2.2.2.2.2.2.2.1
 x_2.2.1)
 fun b=>
 (idx b.2.2.1.2.2.2.2.1 x_3.2.1).bind
 fun b=>
 Option.bind
 (idx x.1.2.2.2.2.2.2.2.2.2.2.2.2.2.2.2.1
 x_2.2.1)
 fun b_1=>
 (idx b_1.2.2.1.2.2.2.2.1 x_3.2.1).bind
 fun b_2=>
 some
 (Sum.inl
 (wrap64
 (wrap64
 (x_3.1+Int.ofNat (List.length b.1)) +
 Int.ofNat (List.length b_2.2.1.2.2.2.2.1)),
 wrap64 (x_3.2.1+1),()))
 else
 some
 (Sum.inr
 (Sum.inl
 (x_3.1,wrap64 (x_2.2.1+1),()))))
 big (x_2.1,0,())
 else
 Option.map Sum.inr
 (aZ ai (Bool×Unit)
 (fun (x_3:ai)=>
 bif
 decide
 (x_3.2.1 <
 Int.ofNat (List.length x.1.2.2.2.2.2.2.2.2.1)) then
 (idx x.1.2.2.2.2.2.2.2.2.1 x_3.2.1).bind
 fun b=>
 (idx x.1.2.2.2.2.2.2.2.2.1 x_3.2.1).bind
 fun b_1=>
 (idx x.1.2.2.2.2.2.2.2.2.1 x_3.2.1).bind
 fun b_2=>
 some
 (Sum.inl
 (wrap64
 (wrap64
 (wrap64
 (x_3.1+Int.ofNat (List.length b.2.1)) +
 Int.ofNat (List.length b_1.2.2.1)) +
 Int.ofNat (List.length b_2.2.2.2.1)),
 wrap64 (x_3.2.1+1),()))
 else
 Option.map Sum.inr
 (aZ ai (Bool×Unit)
 (fun (x_4:ai)=>
 bif
 decide
 (x_4.2.1 <
 Int.ofNat
 (List.length x.1.2.2.2.2.2.2.2.2.2.1)) then
 (idx x.1.2.2.2.2.2.2.2.2.2.1 x_4.2.1).bind
 fun b=>
 Option.bind
 (idx x.1.2.2.2.2.2.2.2.2.2.1 x_4.2.1)
 fun b_1=>
 Option.bind
 (idx x.1.2.2.2.2.2.2.2.2.2.1 x_4.2.1)
 fun b_2=>
 some
 (Sum.inl
 (wrap64
 (wrap64
 (wrap64
 (x_4.1+Int.ofNat (List.length b.2.1)) +
 Int.ofNat (List.length b_1.2.2.1)) +
 Int.ofNat (List.length b_2.2.2.2.1)),
 wrap64 (x_4.2.1+1),()))
 else
 Option.map Sum.inr
 (aZ ai (Bool×Unit)
 (fun (x_5:ai)=>
 bif
 decide
 (x_5.2.1 <
 Int.ofNat
 (List.length x.1.2.2.2.2.2.2.2.1)) then
 (idx x.1.2.2.2.2.2.2.2.1 x_5.2.1).bind
 fun b=>
 Option.bind
 (idx x.1.2.2.2.2.2.2.2.1 x_5.2.1)
 fun b_1=>
 some
 (Sum.inl
 (wrap64
 (wrap64
 (x_5.1+Int.ofNat (List.length b.1)) +
 Int.ofNat (List.length b_1.2.2.2.2.1)),
 wrap64 (x_5.2.1+1),()))
 else some (Sum.inr (decide (x_5.1≤30000),())))
 big (x_4.1,0,())))
 big (x_3.1,0,())))
 big (x_2.1,0,())))
 big (x_1.1,0,())))
 big
 (wrap64
 (wrap64
 (Int.ofNat (List.length x.1.2.1)+Int.ofNat (List.length x.1.2.2.1)) +
 Int.ofNat (List.length x.1.2.2.2.1)),
 0,())
def S36:Sig:=⟨P36,R36,F36⟩
def E36:Env:=mkE ak 226 [] [] [(5,bz ⟨[⟨.slot 3,(.int .i64),.pv⟩,⟨.slot 58,(.int .i64),.pv⟩],[1,57],[.site 1000]++hL (.fld 1000) 0 17⟩),(10,bz ⟨[⟨.slot 3,(.int .i64),.pv⟩,⟨.slot 83,(.int .i64),.pv⟩],[1,82],[.site 1000]++hL (.fld 1000) 0 17⟩),(15,bz ⟨[⟨.slot 3,(.int .i64),.pv⟩,⟨.slot 103,(.int .i64),.pv⟩],[1,5,82,83,102],[.site 1000]++hL (.fld 1000) 0 17⟩),(21,bz ⟨[⟨.slot 3,(.int .i64),.pv⟩,⟨.slot 139,(.int .i64),.pv⟩],[1,138],[.site 1000]++hL (.fld 1000) 0 17⟩),(26,bz ⟨[⟨.slot 3,(.int .i64),.pv⟩,⟨.slot 171,(.int .i64),.pv⟩],[1,170],[.site 1000]++hL (.fld 1000) 0 17⟩),(31,bz ⟨[⟨.slot 3,(.int .i64),.pv⟩,⟨.slot 203,(.int .i64),.pv⟩],[1,202],[.site 1000]++hL (.fld 1000) 0 17⟩)]
theorem zf3 x:aj E36 Tryz.f36 P36 R36 x=F36 x:=by kernel_rfl
def F57 (x:List az×Int×Unit):Option (Bool×Unit):=
 aZ ai (Bool×Unit)
 (fun (x_1:ai)=>
 bif decide (x_1.2.1 < Int.ofNat (List.length x.1)) then
 (idx x.1 x_1.2.1).bind fun b=>
 bif decide (x.2.1≤x_1.2.1) then some (Sum.inr (false,()))
 else
 bif decide (40000 < wrap64 (x_1.1+Int.ofNat (List.length b.2.2.1))) then
 some (Sum.inr (false,()))
 else
 some
 (Sum.inl
 (wrap64 (x_1.1+Int.ofNat (List.length b.2.2.1)),
 wrap64 (x_1.2.1+1),()))
 else some (Sum.inr (true,())))
 big (0,0,())
def S57:Sig:=⟨P57,R57,F57⟩
def E57:Env:=mkE ak 28 [] [] [(3,bz ⟨[⟨.slot 5,(.int .i64),.pv⟩,⟨.slot 9,(.int .i64),.pv⟩],[0,1,8],[]⟩)]
theorem zfI x:aj E57 Tryz.f57 P57 R57 x=F57 x:=by kernel_rfl
def F37 (x:iO×Unit):Option (Bool×Unit):=
 (F57 (x.1.2.2.2.2.2.2.2.2.2.1,6,())).bind fun b=>
 bif b.1 then
 some
 (decide (Int.ofNat (List.length x.1.2.2.2.2.2.2.2.2.2.2.1.2.2.1)≤2000),
 ())
 else some (false,())
def S37:Sig:=⟨P37,R37,F37⟩
def E37:Env:=mkE ak 13 [(57,[S57])] [] []
theorem zf2 x:aj E37 Tryz.f37 P37 R37 x=F37 x:=by kernel_rfl
def F18 (x:TMD×Unit):Option (Bool×Unit):=
 aZ ai (Bool×Unit)
 (fun (x_1:ai)=>
 bif decide (x_1.2.1 < Int.ofNat (List.length x.1.2.2.2.2.2.2.2.2.2.2.2.2.1)) then
 (idx x.1.2.2.2.2.2.2.2.2.2.2.2.2.1 x_1.2.1).bind
 fun b=>
 bif
 decide
 (400 <
 wrap64
 (wrap64 (x_1.1+1)+Int.ofNat (List.length b.2.1))) then
 some (Sum.inr (false,()))
 else
 (idx x.1.2.2.2.2.2.2.2.2.2.2.2.2.1 x_1.2.1).bind
 fun b_1=>
 Option.bind
 (F36
 ((0,[],[],[],0,0,0,[],[],[],0,0,0,false,b_1.2.1,[],[],()),()))
 fun b_2=>
 bif !b_2.1 then some (Sum.inr (false,()))
 else
 some
 (Sum.inl
 (wrap64
 (wrap64 (x_1.1+1)+Int.ofNat (List.length b.2.1)),
 wrap64 (x_1.2.1+1),()))
 else
 Option.map Sum.inr
 ((F37 (x.1.2.2.1,())).bind fun b=>
 bif b.1 then
 (F36 x.1.2.2.2.1.2.2).bind fun b=>
 bif b.1 then
 Option.bind
 (F36
 ((0,[],[],[],0,0,0,[],[],[],0,0,0,false,
 x.1.2.2.2.2.2.2.2.2.2.2.2.2.2.1,[],[],()),
 ()))
 fun b=>
 bif b.1 then
 Option.bind
 (nT [(0,0,x.1.2.2.2.2.2.2.2.2.2.2.2.1,())]
 x.1.2.2.2.2.2.2.2.2.2.2.2.2.2.2.2.1.2.2.1)
 fun b=>
 Option.bind
 (F36
 ((0,[],[],[],0,0,0,[],[],[],0,0,0,false,[],b,
 x.1.2.2.2.2.2.2.2.2.2.2.2.2.2.2.2.1.2.2.2),
 ()))
 fun b=>
 bif b.1 then
 some
 (decide
 (wrap64
 (wrap64
 (wrap64
 (wrap64
 (Int.ofNat (List.length x.1.2.2.2.2.2.1) +
 Int.ofNat (List.length x.1.2.2.2.2.2.2.1)) +
 Int.ofNat
 (List.length
 x.1.2.2.2.2.2.2.2.2.2.2.2.2.2.2.2.2.1.2.2.2.1)) +
 Int.ofNat
 (List.length
 x.1.2.2.2.2.2.2.2.2.2.2.2.2.2.2.2.2.1.2.2.2.2.1)) +
 Int.ofNat
 (List.length
 x.1.2.2.2.2.2.2.2.2.2.2.2.2.2.2.2.2.1.2.2.2.2.2.2.1))≤
 500),
 ())
 else some (false,())
 else some (false,())
 else some (false,())
 else some (false,())))
 big (0,0,())
def S18:Sig:=⟨P18,R18,F18⟩
def E18:Env:=mkE ak 90 [(36,[S36]),(37,[S37])] [] [(3,bz ⟨[⟨.slot 3,(.int .i64),.pv⟩,⟨.slot 8,(.int .i64),.pv⟩],[1,7],[.site 1000]++hL (.fld 1000) 0 17⟩)]
theorem zgl x:aj E18 Tryz.f18 P18 R18 x=F18 x:=by kernel_rfl
def F5 (x:List vT×Int×Unit):Option (Bool×Unit):=
 aZ ai (Bool×Unit)
 (fun (x_1:ai)=>
 bif decide (x_1.2.1 < Int.ofNat (List.length x.1)) then
 (idx x.1 x_1.2.1).bind
 fun b=>
 bif decide (x.2.1≤x_1.2.1) then some (Sum.inr (false,()))
 else
 bif
 decide
 (300 <
 wrap64
 (x_1.1 +
 Int.ofNat
 (List.length b.2.2.2.1.2.2.2.2.2.2.2.2.2.2.2.2.1))) then
 some (Sum.inr (false,()))
 else
 (idx x.1 x_1.2.1).bind
 fun b_1=>
 (F18 b_1.2.2.2).bind fun b_2=>
 bif !b_2.1 then some (Sum.inr (false,()))
 else
 some
 (Sum.inl
 (wrap64
 (x_1.1 +
 Int.ofNat
 (List.length b.2.2.2.1.2.2.2.2.2.2.2.2.2.2.2.2.1)),
 wrap64 (x_1.2.1+1),()))
 else some (Sum.inr (true,())))
 big (0,0,())
def S5:Sig:=⟨P5,R5,F5⟩
def E5:Env:=mkE ak 38 [(18,[S18])] [] [(3,bz ⟨[⟨.slot 5,(.int .i64),.pv⟩,⟨.slot 9,(.int .i64),.pv⟩],[0,1,8],[]⟩)]
theorem zhB x:aj E5 Tryz.f5 P5 R5 x=F5 x:=by kernel_rfl
def F89 (x:List UInt8×UInt8×Unit):Option (Bool×Unit):=
 aZ (Int×Unit) (Bool×Unit)
 (fun (x_1:Int×Unit)=>
 bif decide (x_1.1 < Int.ofNat (List.length x.1)) then
 (idx x.1 x_1.1).bind fun b=>
 bif decide (aQ b < aQ (UInt8.ofNat 33)) then some (Sum.inr (false,()))
 else
 (idx x.1 x_1.1).bind fun b=>
 bif decide (aQ x.2.1 < aQ b) then some (Sum.inr (false,()))
 else some (Sum.inl (wrap64 (x_1.1+1),()))
 else
 Option.map Sum.inr
 (bif decide (1≤Int.ofNat (List.length x.1)) then
 some (decide (Int.ofNat (List.length x.1)≤32),())
 else some (false,())))
 big (0,())
def S89:Sig:=⟨P89,R89,F89⟩
def E89:Env:=mkE ak 31 [] [] [(2,bz ⟨[⟨.slot 8,(.int .i64),.pv⟩],[0,1,7],[]⟩)]
theorem zfc x:aj E89 Tryz.f89 P89 R89 x=F89 x:=by kernel_rfl
def F58 (x:List UInt8×Unit):Option (Bool×Unit):=(F89 (x.1,UInt8.ofNat 126,())).bind fun b=>some b
def S58:Sig:=⟨P58,R58,F58⟩
def E58:Env:=mkE ak 5 [(89,[S89])] [] []
theorem zfH x:aj E58 Tryz.f58 P58 R58 x=F58 x:=by kernel_rfl
def F38 (x:List UInt8×Unit):Option (Bool×Unit):=
 bif decide (Int.ofNat (List.length x.1)≤8) then (F58 x).bind fun b=>some b
 else some (false,())
def S38:Sig:=⟨P38,R38,F38⟩
def E38:Env:=mkE ak 10 [(58,[S58])] [] []
theorem zf1 x:aj E38 Tryz.f38 P38 R38 x=F38 x:=by kernel_rfl
def F39 (x:List UInt8×List UInt8×Unit):Option (Bool×Unit):=
 bif decide (Int.ofNat (List.length x.2.1)≤Int.ofNat (List.length x.1)) then
 (jP x.1 0 (Int.ofNat (List.length x.2.1))).bind fun b=>
 some (decide (b=x.2.1),())
 else some (false,())
def S39:Sig:=⟨P39,R39,F39⟩
def E39:Env:=mkE ak 18 [] [] []
theorem zf0 x:aj E39 Tryz.f39 P39 R39 x=F39 x:=by kernel_rfl
def F19 (x:List UInt8×List UInt8×Unit):Option (Bool×Unit):=
 (F38 (x.1,())).bind fun b=>
 bif b.1 then
 (F38 x.2).bind fun b=>
 bif b.1 then
 (F39 x).bind fun b=>
 bif !b.1 then
 (F39 (x.2.1,x.1,())).bind fun b=>some (!b.1,())
 else some (false,())
 else some (false,())
 else some (false,())
def S19:Sig:=⟨P19,R19,F19⟩
def E19:Env:=mkE ak 23 [(38,[S38]),(39,[S39])] [] []
theorem zgk x:aj E19 Tryz.f19 P19 R19 x=F19 x:=by kernel_rfl
def F6 (x:Int×List UInt8×List UInt8×ai×Int×Unit):Option (Bool×Unit):=
 bif decide (1≤x.1) then
 bif decide (x.1≤1099511627776) then
 (F19 (x.2.1,x.2.2.1,())).bind fun b=>
 bif b.1 then
 bif decide (1≤x.2.2.2.1.1) then
 bif decide (x.2.2.2.1.1≤3) then
 bif decide (1≤x.2.2.2.1.2.1) then
 bif decide (x.2.2.2.1.2.1≤3) then
 bif decide (0≤x.2.2.2.2.1) then some (decide (x.2.2.2.2.1≤500000),())
 else some (false,())
 else some (false,())
 else some (false,())
 else some (false,())
 else some (false,())
 else some (false,())
 else some (false,())
 else some (false,())
def S6:Sig:=⟨P6,R6,F6⟩
def E6:Env:=mkE ak 50 [(19,[S19])] [] []
theorem zhA x:aj E6 Tryz.f6 P6 R6 x=F6 x:=by kernel_rfl
def F8 (x:Int×List UInt8×List UInt8×ai×Int×Unit):Option (fU×Unit):=
 aZ
 (Int×((Int×Int×Int×Int×Int×Int×Int×Bool×Bool×(Int×Int×(Int×Int×Int×Int×Int×Int×Int×Int×Bool×List az×az×Unit)×(Int×Int×(Int×List UInt8×List UInt8×List UInt8×Int×Int×Int×List aN×List ax×List ax×Int×Int×Int×Bool×List ae×List (Int×Int×(Int×Int×Bool×Int×List ae×ai)×Unit)×List ay×Unit)×Unit)×Int×List UInt8×List UInt8×Int×Int×Int×Int×(Int×Int×Bool×Int×List ae×ai)×List (Int×List ae×Unit)×List ae×Bool×(Int×Int×List (Int×Int×(Int×Int×Bool×Int×List ae×ai)×Unit)×List ay×Unit)×aH×Unit)×Unit)×(Int×Int×Int×Int×Int×Int×Int×Bool×Bool×(Int×Int×(Int×Int×Int×Int×Int×Int×Int×Int×Bool×List az×az×Unit)×(Int×Int×(Int×List UInt8×List UInt8×List UInt8×Int×Int×Int×List aN×List ax×List ax×Int×Int×Int×Bool×List ae×List (Int×Int×(Int×Int×Bool×Int×List ae×ai)×Unit)×List ay×Unit)×Unit)×Int×List UInt8×List UInt8×Int×Int×Int×Int×(Int×Int×Bool×Int×List ae×ai)×List (Int×List ae×Unit)×List ae×Bool×(Int×Int×List (Int×Int×(Int×Int×Bool×Int×List ae×ai)×Unit)×List ay×Unit)×aH×Unit)×Unit)×Unit)×Unit)
 ((Int×List UInt8×List UInt8×Int×((Int×Int×Int×Int×Int×Int×Int×Bool×Bool×(Int×Int×(Int×Int×Int×Int×Int×Int×Int×Int×Bool×List az×az×Unit)×(Int×Int×(Int×List UInt8×List UInt8×List UInt8×Int×Int×Int×List aN×List ax×List ax×Int×Int×Int×Bool×List ae×List (Int×Int×(Int×Int×Bool×Int×List ae×ai)×Unit)×List ay×Unit)×Unit)×Int×List UInt8×List UInt8×Int×Int×Int×Int×(Int×Int×Bool×Int×List ae×ai)×List (Int×List ae×Unit)×List ae×Bool×(Int×Int×List (Int×Int×(Int×Int×Bool×Int×List ae×ai)×Unit)×List ay×Unit)×aH×Unit)×Unit)×(Int×Int×Int×Int×Int×Int×Int×Bool×Bool×(Int×Int×(Int×Int×Int×Int×Int×Int×Int×Int×Bool×List az×az×Unit)×(Int×Int×(Int×List UInt8×List UInt8×List UInt8×Int×Int×Int×List aN×List ax×List ax×Int×Int×Int×Bool×List ae×List (Int×Int×(Int×Int×Bool×Int×List ae×ai)×Unit)×List ay×Unit)×Unit)×Int×List UInt8×List UInt8×Int×Int×Int×Int×(Int×Int×Bool×Int×List ae×ai)×List (Int×List ae×Unit)×List ae×Bool×(Int×Int×List (Int×Int×(Int×Int×Bool×Int×List ae×ai)×Unit)×List ay×Unit)×aH×Unit)×Unit)×Unit)×(Int×Int×(Int×Int×Int×Int×Int×Int×Int×Int×Bool×List az×az×Unit)×(Int×Int×(Int×List UInt8×List UInt8×List UInt8×Int×Int×Int×List aN×List ax×List ax×Int×Int×Int×Bool×List ae×List (Int×Int×(Int×Int×Bool×Int×List ae×ai)×Unit)×List ay×Unit)×Unit)×Int×List UInt8×List UInt8×Int×Int×Int×Int×(Int×Int×Bool×Int×List ae×ai)×List (Int×List ae×Unit)×List ae×Bool×(Int×Int×List (Int×Int×(Int×Int×Bool×Int×List ae×ai)×Unit)×List ay×Unit)×aH×Unit)×Bool×aH×Int×Bool×Bool×List ae×Bool×List ae×Int×Bool×Bool×Bool×(Int×Int×List (Int×Int×(Int×Int×Bool×Int×List ae×ai)×Unit)×List ay×Unit)×Bool×Unit)×Unit)
 (fun (x_1 :
 Int×((Int×Int×Int×Int×Int×Int×Int×Bool×Bool×(Int×Int×(Int×Int×Int×Int×Int×Int×Int×Int×Bool×List az×az×Unit)×(Int×Int×(Int×List UInt8×List UInt8×List UInt8×Int×Int×Int×List aN×List ax×List ax×Int×Int×Int×Bool×List ae×List (Int×Int×(Int×Int×Bool×Int×List ae×ai)×Unit)×List ay×Unit)×Unit)×Int×List UInt8×List UInt8×Int×Int×Int×Int×(Int×Int×Bool×Int×List ae×ai)×List (Int×List ae×Unit)×List ae×Bool×(Int×Int×List (Int×Int×(Int×Int×Bool×Int×List ae×ai)×Unit)×List ay×Unit)×aH×Unit)×Unit)×(Int×Int×Int×Int×Int×Int×Int×Bool×Bool×(Int×Int×(Int×Int×Int×Int×Int×Int×Int×Int×Bool×List az×az×Unit)×(Int×Int×(Int×List UInt8×List UInt8×List UInt8×Int×Int×Int×List aN×List ax×List ax×Int×Int×Int×Bool×List ae×List (Int×Int×(Int×Int×Bool×Int×List ae×ai)×Unit)×List ay×Unit)×Unit)×Int×List UInt8×List UInt8×Int×Int×Int×Int×(Int×Int×Bool×Int×List ae×ai)×List (Int×List ae×Unit)×List ae×Bool×(Int×Int×List (Int×Int×(Int×Int×Bool×Int×List ae×ai)×Unit)×List ay×Unit)×aH×Unit)×Unit)×Unit)×Unit)=>
 bif decide (x_1.1 < 2) then
 bif decide (x_1.1=Int.ofNat 0) then
 Option.bind (jZ 2 x_1.1) fun b=>
 Option.bind
 (bif Nat.beq b 0 then
 some
 ((11,x_1.1,x.2.2.2.1.1,8,wrap64 (x.2.2.2.2.1*1000000),
 0,0,false,false,
 zT,
 ()),
 x_1.2.1.2)
 else
 bif Nat.beq b (0+1) then
 some
 (x_1.2.1.1,
 (11,x_1.1,x.2.2.2.1.1,8,
 wrap64 (x.2.2.2.2.1*1000000),0,0,false,false,
 zT,
 ()),
 x_1.2.1.2.2)
 else none)
 fun b=>
 some (Sum.inl (wrap64 (x_1.1+1),b,()))
 else
 bif decide (x_1.1=Int.ofNat (0+1)) then
 Option.bind (jZ 2 x_1.1) fun b=>
 Option.bind
 (bif Nat.beq b 0 then
 some
 ((11,x_1.1,x.2.2.2.1.2.1,8,
 wrap64 (x.2.2.2.2.1*1000000),0,0,false,false,
 zT,
 ()),
 x_1.2.1.2)
 else
 bif Nat.beq b (0+1) then
 some
 (x_1.2.1.1,
 (11,x_1.1,x.2.2.2.1.2.1,8,
 wrap64 (x.2.2.2.2.1*1000000),0,0,false,false,
 zT,
 ()),
 x_1.2.1.2.2)
 else none)
 fun b=>
 some (Sum.inl (wrap64 (x_1.1+1),b,()))
 else none
 else
 some
 (Sum.inr
 ((x.1,x.2.1,x.2.2.1,0,x_1.2.1,
 zT,
 false,zV,0,false,false,[],false,[],0,false,false,
 false,(0,0,[],[],()),false,()),
 ())))
 big
 (0,
 ((0,0,0,0,0,0,0,false,false,
 zT,
 ()),
 (0,0,0,0,0,0,0,false,false,
 zT,
 ()),
 ()),
 ())
def S8:Sig:=⟨P8,R8,F8⟩
def E8:Env:=mkE ak 32 [] [] [(3,bz ⟨[⟨.slot 17,(.int .i64),.pv⟩,⟨.fld 1005000 4,Y59,.pv⟩],[4,8,10,11],[.site 1005000]++hL (.fld 1005000) 0 4++hL (.fld 1005000) 5 15++[.site 2000]++hL (.fld 2000) 0 20++[.site 1000,.fld 1000 0,.fld 1000 1]⟩)]
theorem zhy x:aj E8 Tryz.f8 P8 R8 x=F8 x:=by kernel_rfl
def F50 (x:pq×Unit):Option (nU×Unit):=
 some
 ((x.1.1,
 wrap64 (wrap64 (4*x.1.2.1)+x.1.2.2.2.2.2.1),
 x.1.2.2.2.2.2.2.2.2.2),
 ())
def S50:Sig:=⟨P50,R50,F50⟩
def E50:Env:=mkE ak 14 [] [] []
theorem zfP x:aj E50 Tryz.f50 P50 R50 x=F50 x:=by kernel_rfl
def F26 (x:pq×Unit):Option (pq×List nU×Unit):=
 bif !x.1.2.2.2.2.2.2.2.1 then some (x.1,[],())
 else
 Option.bind
 (bif !x.1.2.2.2.2.2.2.2.2.1 then
 bif decide (wrap64 (x.1.2.2.2.2.2.2.1+1) < x.1.2.2.2.1) then
 some
 (Sum.inr
 ((x.1.1,x.1.2.1,x.1.2.2.1,x.1.2.2.2.1,x.1.2.2.2.2.1,
 x.1.2.2.2.2.2.1,wrap64 (x.1.2.2.2.2.2.2.1+1),
 x.1.2.2.2.2.2.2.2),
 [],()))
 else
 some
 (Sum.inl
 (0,0,0,0,0,0,0,false,false,
 zT,
 ()))
 else
 some
 (Sum.inl
 (0,0,0,0,0,0,0,false,false,
 zT,
 ())))
 fun o=>
 Sum.elim
 (fun (_z :
 Int×Int×Int×Int×Int×Int×Int×Bool×Bool×(Int×Int×(Int×Int×Int×Int×Int×Int×Int×Int×Bool×List az×az×Unit)×(Int×Int×(Int×List UInt8×List UInt8×List UInt8×Int×Int×Int×List aN×List ax×List ax×Int×Int×Int×Bool×List ae×List (Int×Int×(Int×Int×Bool×Int×List ae×ai)×Unit)×List ay×Unit)×Unit)×Int×List UInt8×List UInt8×Int×Int×Int×Int×(Int×Int×Bool×Int×List ae×ai)×List (Int×List ae×Unit)×List ae×Bool×(Int×Int×List (Int×Int×(Int×Int×Bool×Int×List ae×ai)×Unit)×List ay×Unit)×aH×Unit)×Unit)=>
 Option.bind
 (bif !x.1.2.2.2.2.2.2.2.2.1 then
 (lX (wrap64 (x.1.2.2.2.2.2.1+1)) x.1.2.2.1).bind
 fun b=>some (Sum.inl (b,()))
 else some (Sum.inl (x.1.2.2.2.2.2.1,())))
 fun o=>
 Sum.elim
 (fun (x_1:Int×Unit)=>
 Option.bind
 (F50
 ((x.1.1,x.1.2.1,x.1.2.2.1,x.1.2.2.2.1,x.1.2.2.2.2.1,
 x_1.1,0,x.1.2.2.2.2.2.2.2.1,false,
 x.1.2.2.2.2.2.2.2.2.2),
 ()))
 fun b=>
 some
 ((x.1.1,x.1.2.1,x.1.2.2.1,x.1.2.2.2.1,x.1.2.2.2.2.1,
 x_1.1,0,x.1.2.2.2.2.2.2.2.1,false,
 x.1.2.2.2.2.2.2.2.2.2),
 [b.1],()))
 some o)
 some o
def S26:Sig:=⟨P26,R26,F26⟩
def E26:Env:=mkE ak 39 [(50,[S50])] [(6,⟨[⟨.fld 2000 0,(.int .i64),.pv⟩,⟨.fld 2000 1,(.int .i64),.pv⟩,⟨.fld 2000 2,(.int .i64),.pv⟩,⟨.fld 2000 3,(.int .i64),.pv⟩,⟨.fld 2000 4,(.int .i64),.pv⟩,⟨.fld 2000 5,(.int .i64),.pv⟩,⟨.fld 2000 6,(.int .i64),.pv⟩,⟨.fld 2000 7,.bool,.pv⟩,⟨.fld 2000 8,.bool,.pv⟩,⟨.fld 2000 9,TM,.pv⟩],[1,2],[.site 2000,.site 1000]++hL (.fld 1000) 0 10⟩),(8,⟨[⟨.fld 1000 5,(.int .i64),.pv⟩],[1,2],[.site 2000]++hL (.fld 2000) 0 10++[.site 1000]++hL (.fld 1000) 0 5++hL (.fld 1000) 6 4⟩)] []
theorem zgd x:aj E26 Tryz.f26 P26 R26 x=F26 x:=by kernel_rfl
def F51 (x:bH×Unit):Option (TMD×Unit):=
 some
 ((2,0,zM,(0,0,x),0,[],[],0,0,0,0,
 zR,[],[],false,(0,0,[],[],()),
 zV,()),
 ())
def S51:Sig:=⟨P51,R51,F51⟩
def E51:Env:=mkE ak 6 [] [] []
theorem zfO x:aj E51 Tryz.f51 P51 R51 x=F51 x:=by kernel_rfl
def F52 (x:List UInt8×Unit):Option (List UInt8×Unit):=
 (F38 x).bind fun b=>
 bif !b.1 then some ([],())
 else
 (jP x.1 0 (wrap64 (Int.ofNat (List.length x.1) - 1))).bind
 fun b=>
 (idx x.1 (wrap64 (Int.ofNat (List.length x.1) - 1))).bind fun b_1=>
 (fD b [Sx.byteOf (IntKind.wrap IntKind.u8 (aQ b_1+aQ (UInt8.ofNat 1)))]).bind
 fun b=>some (b,())
def S52:Sig:=⟨P52,R52,F52⟩
def E52:Env:=mkE ak 20 [(38,[S38])] [] []
theorem zfN x:aj E52 Tryz.f52 P52 R52 x=F52 x:=by kernel_rfl
def F27 (x:fU×Unit):Option (TMD×Int×Unit):=
 bif !x.1.2.2.2.2.2.2.1 then
 some
 ((7,0,zM,
 zJ,0,[],[],
 0,0,0,0,zR,[],[],false,(0,0,[],[],()),
 zV,()),
 1,())
 else
 Option.bind
 (bif decide (x.1.2.2.2.2.2.2.2.1.1=3) then some (Sum.inl (true,()))
 else some (Sum.inl (decide (x.1.1 < x.1.2.2.2.2.2.2.2.1.2.1),())))
 fun o=>
 Sum.elim
 (fun (x_1:Bool×Unit)=>
 bif x_1.1 then
 some
 (zT,
 0,())
 else
 Option.bind
 (bif decide (x.1.2.2.2.1=2) then
 bif decide (x.1.2.2.2.2.2.2.2.1.1=4) then
 some (Sum.inl (!decide (x.1.2.2.2.2.2.2.2.1.2.1=x.1.1),()))
 else some (Sum.inl (!false,()))
 else
 bif decide (x.1.2.2.2.2.2.2.2.1.1=4) then
 bif decide (x.1.2.2.2.2.2.2.2.1.2.1=x.1.1) then
 bif decide (x.1.2.2.2.2.2.2.2.1.1=4) then
 some (Sum.inl (!decide (x.1.2.2.2.2.2.2.2.1.2.1=x.1.1),()))
 else some (Sum.inl (!false,()))
 else some (Sum.inl (false,()))
 else some (Sum.inl (false,())))
 fun o=>
 Sum.elim
 (fun (x_2:Bool×Unit)=>
 bif x_2.1 then
 Option.bind
 (F51
 ((16,[],[],[],0,0,0,[],[],[],x.1.1,0,0,false,[],[],[],()),
 ()))
 fun b=>
 some (b.1,1,())
 else
 Option.bind
 (bif decide (x.1.2.2.2.1=2) then some (Sum.inl (true,()))
 else
 bif decide (x.1.2.2.2.2.2.2.2.1.1=4) then
 some
 (Sum.inl (decide (x.1.2.2.2.2.2.2.2.1.2.1=x.1.1),()))
 else some (Sum.inl (false,())))
 fun o=>
 Sum.elim
 (fun (x_3:Bool×Unit)=>
 bif x_3.1 then
 bif
 x.1.2.2.2.2.2.2.2.2.2.2.2.2.2.2.2.2.2.2.2.1 then
 some
 (zT,
 0,())
 else
 Option.bind
 (F51
 ((11,[],[],[],0,0,0,[],[],[],x.1.1,0,0,false,[],[],[],
 ()),
 ()))
 fun b=>
 some (b.1,0,())
 else
 Option.bind
 (bif decide (x.1.2.2.2.2.2.2.2.1.1=0) then
 some (Sum.inl (decide (x.1.2.2.2.2.2.2.2.2.1=0),()))
 else
 bif decide (x.1.2.2.2.2.2.2.2.1.1=4) then
 some (Sum.inl (decide (x.1.2.2.2.2.2.2.2.2.1=0),()))
 else
 bif x.1.2.2.2.2.2.2.2.2.2.2.2.2.2.2.2.1 then
 some (Sum.inl (decide (x.1.2.2.2.2.2.2.2.2.1=0),()))
 else some (Sum.inl (false,())))
 fun o=>
 Sum.elim
 (fun (x_4:Bool×Unit)=>
 bif x_4.1 then
 some
 ((7,0,zM,
 zJ,
 0,[],[],0,0,0,0,zR,[],[],false,
 (0,0,[],[],()),zV,
 ()),
 0,())
 else
 Option.bind
 (bif decide (x.1.2.2.2.2.2.2.2.1.1=0) then
 some (Sum.inl (true,()))
 else
 bif decide (x.1.2.2.2.2.2.2.2.1.1=4) then
 some (Sum.inl (true,()))
 else
 some
 (Sum.inl
 (x.1.2.2.2.2.2.2.2.2.2.2.2.2.2.2.2.1,
 ())))
 fun o=>
 Sum.elim
 (fun (x_5:Bool×Unit)=>
 bif x_5.1 then
 Option.bind
 (bif
 decide
 (x.1.2.2.2.2.2.2.2.1.2.1=x.1.1) then
 some
 (Sum.inl
 (wrap64
 (x.1.2.2.2.2.2.2.2.1.2.2.1+1),
 ()))
 else some (Sum.inl (1,())))
 fun o=>
 Sum.elim
 (fun (x_6:Int×Unit)=>
 Option.bind
 (F51
 ((12,x.1.2.1,x.1.2.2.1,[],0,0,
 x.1.2.2.2.2.2.2.2.2.1,[],[],[],
 x.1.1,x_6.1,0,false,[],[],[],()),
 ()))
 fun b=>
 some (b.1,1,()))
 some o
 else
 Option.bind
 (bif decide (x.1.2.2.2.2.2.2.2.1.1=1) then
 some
 (Sum.inl (!x.1.2.2.2.2.2.2.2.2.2.1,()))
 else some (Sum.inl (false,())))
 fun o=>
 Sum.elim
 (fun (x_6:Bool×Unit)=>
 bif x_6.1 then
 some
 ((5,0,
 zM,
 zJ,
 0,x.1.2.1,
 x.1.2.2.2.2.2.2.2.1.2.2.2.2.2.2.1,
 x.1.2.2.2.2.2.2.2.1.2.2.2.2.2.1,
 0,0,0,zR,[],[],
 false,(0,0,[],[],()),
 zV,()),
 0,())
 else
 bif decide (x.1.2.2.2.2.2.2.2.1.1=1) then
 bif
 decide
 (0 <
 Int.ofNat
 (List.length
 x.1.2.2.2.2.2.2.2.2.2.2.2.1)) then
 Option.bind
 (idx x.1.2.2.2.2.2.2.2.2.2.2.2.1
 (wrap64
 (Int.ofNat
 (List.length
 x.1.2.2.2.2.2.2.2.2.2.2.2.1) -
 1)))
 fun b=>
 Option.bind
 (F51
 ((13,
 x.1.2.2.2.2.2.2.2.1.2.2.2.2.2.2.1,
 b.1,[],0,0,0,[],[],[],
 x.1.2.2.2.2.2.2.2.1.2.1,
 x.1.2.2.2.2.2.2.2.1.2.2.1,0,
 x.1.2.2.2.2.2.2.2.2.2.2.1,
 x.1.2.2.2.2.2.2.2.2.2.2.2.1,
 [],[],()),
 ()))
 fun b=>
 some (b.1,1,())
 else
 Option.bind
 (F51
 ((13,
 x.1.2.2.2.2.2.2.2.1.2.2.2.2.2.2.1,
 x.1.2.2.2.2.2.2.2.1.2.2.2.2.2.2.1,
 [],0,0,0,[],[],[],
 x.1.2.2.2.2.2.2.2.1.2.1,
 x.1.2.2.2.2.2.2.2.1.2.2.1,0,
 x.1.2.2.2.2.2.2.2.2.2.2.1,
 x.1.2.2.2.2.2.2.2.2.2.2.2.1,
 [],[],()),
 ()))
 fun b=>
 some (b.1,1,())
 else
 bif x.1.2.2.2.2.2.2.2.2.2.2.2.2.1 then
 Option.bind
 (F51
 ((14,[],[],[],0,0,
 x.1.2.2.2.2.2.2.2.1.2.2.2.2.2.2.2.1,
 [],[],[],
 x.1.2.2.2.2.2.2.2.1.2.1,
 x.1.2.2.2.2.2.2.2.1.2.2.1,
 x.1.2.2.2.2.2.2.2.2.2.2.2.2.2.2.1,
 false,
 x.1.2.2.2.2.2.2.2.2.2.2.2.2.2.1,
 [],[],()),
 ()))
 fun b=>
 some (b.1,1,())
 else
 Option.bind
 (bif decide (x.1.2.2.2.1=1) then
 some
 (Sum.inl
 (!x.1.2.2.2.2.2.2.2.2.2.2.2.2.2.2.2.2.1,
 ()))
 else some (Sum.inl (false,())))
 fun o=>
 Sum.elim
 (fun (x_7:Bool×Unit)=>
 bif x_7.1 then
 Option.bind
 (F51
 ((10,x.1.2.1,[],[],0,0,0,[],[],[],
 x.1.1,0,0,false,[],[],[],()),
 ()))
 fun b=>
 some (b.1,0,())
 else
 Option.bind
 (bif decide (x.1.2.2.2.1=1) then
 some
 (Sum.inl
 (!x.1.2.2.2.2.2.2.2.2.2.2.2.2.2.2.2.2.2.1,
 ()))
 else some (Sum.inl (false,())))
 fun o=>
 Sum.elim
 (fun (x_8:Bool×Unit)=>
 bif x_8.1 then
 some
 ((6,0,
 zM,
 zJ,
 0,[],[],x.1.1,0,0,0,
 zR,
 [],[],false,(0,0,[],[],()),
 zV,
 ()),
 0,())
 else
 Option.bind
 (bif decide (x.1.2.2.2.1=1) then
 some
 (Sum.inl
 (decide
 (x.1.2.2.2.2.2.2.2.2.2.2.2.2.2.2.2.2.2.2.1.2.1≤
 x.1.2.2.2.2.2.2.2.1.2.2.2.2.2.2.2.1),
 ()))
 else some (Sum.inl (false,())))
 fun o=>
 Sum.elim
 (fun (x_9:Bool×Unit)=>
 bif x_9.1 then
 Option.bind
 (F51
 ((15,[],[],[],0,0,
 x.1.2.2.2.2.2.2.2.2.2.2.2.2.2.2.2.2.2.2.1.2.1,
 [],[],[],
 x.1.2.2.2.2.2.2.2.1.2.1,
 x.1.2.2.2.2.2.2.2.1.2.2.1,
 0,false,[],
 x.1.2.2.2.2.2.2.2.2.2.2.2.2.2.2.2.2.2.2.1.2.2),
 ()))
 fun b=>
 some (b.1,1,())
 else
 Option.bind
 (F52 (x.1.2.1,()))
 fun b=>
 some
 ((4,0,
 zM,
 zJ,
 0,x.1.2.1,b.1,
 wrap64
 (x.1.2.2.2.2.2.2.2.1.2.2.2.2.2.2.2.1 +
 1),
 0,0,0,
 zR,
 [],[],false,
 (0,0,[],[],()),
 zV,
 ()),
 0,()))
 some o)
 some o)
 some o)
 some o)
 some o)
 some o)
 some o)
 some o)
 some o
def S27:Sig:=⟨P27,R27,F27⟩
def E27:Env:=mkE ak 257 [(51,[S51]),(52,[S52])] [(21,⟨[⟨.slot 8,(.int .i64),.pv⟩],[1,2],[.site 2000]++hL (.fld 2000) 0 17++[.site 1000]++hL (.fld 1000) 0 20⟩),(300008,⟨[⟨.slot 28,.bool,.pv⟩],[1,2,4,5,6,7],[.site 4006000]++hL (.fld 4006000) 0 17++[.site 2002000]++hL (.fld 2002000) 0 17++[.site 1003000]++hL (.fld 1003000) 0 10++[.site 2000]++hL (.fld 2000) 0 17++[.site 1000]++hL (.fld 1000) 0 20⟩),(300010,⟨[⟨.slot 40,.bool,.pv⟩],[1,2,4,5,6,7],[.site 4006000]++hL (.fld 4006000) 0 17++[.site 2002000]++hL (.fld 2002000) 0 17++[.site 1003000]++hL (.fld 1003000) 0 10++[.site 2000]++hL (.fld 2000) 0 17++[.site 1000]++hL (.fld 1000) 0 20⟩),(300012,⟨[⟨.slot 65,.bool,.pv⟩],[1,2,4,5,6,7],[.site 4006000]++hL (.fld 4006000) 0 17++[.site 2002000]++hL (.fld 2002000) 0 17++[.site 1003000]++hL (.fld 1003000) 0 10++[.site 2000]++hL (.fld 2000) 0 17++[.site 1000]++hL (.fld 1000) 0 20⟩),(300016,⟨[⟨.slot 84,.bool,.pv⟩],[1,2,4,6,7],[.site 4006000]++hL (.fld 4006000) 0 17++[.site 1003000]++hL (.fld 1003000) 0 10++[.site 2000]++hL (.fld 2000) 0 17++[.site 1000]++hL (.fld 1000) 0 20⟩),(300018,⟨[⟨.slot 103,.bool,.pv⟩],[1,2,4,6,7],[.site 4006000]++hL (.fld 4006000) 0 17++[.site 1003000]++hL (.fld 1003000) 0 10++[.site 2000]++hL (.fld 2000) 0 17++[.site 1000]++hL (.fld 1000) 0 20⟩),(300023,⟨[⟨.slot 131,.bool,.pv⟩],[1,2,4,7],[.site 4006000]++hL (.fld 4006000) 0 17++[.site 1003000]++hL (.fld 1003000) 0 10++[.site 2000]++hL (.fld 2000) 0 17++[.site 1000]++hL (.fld 1000) 0 20⟩),(300034,⟨[⟨.slot 194,.bool,.pv⟩],[1,2,4,7],[.site 4006000]++hL (.fld 4006000) 0 17++[.site 1003000]++hL (.fld 1003000) 0 10++[.site 2000]++hL (.fld 2000) 0 17++[.site 1000]++hL (.fld 1000) 0 20⟩),(300036,⟨[⟨.slot 209,.bool,.pv⟩],[1,2,4,7],[.site 4006000]++hL (.fld 4006000) 0 17++[.site 1003000]++hL (.fld 1003000) 0 10++[.site 2000]++hL (.fld 2000) 0 17++[.site 1000]++hL (.fld 1000) 0 20⟩),(300038,⟨[⟨.slot 221,.bool,.pv⟩],[1,2,4,7],[.site 4006000]++hL (.fld 4006000) 0 17++[.site 1003000]++hL (.fld 1003000) 0 10++[.site 2000]++hL (.fld 2000) 0 17++[.site 1000]++hL (.fld 1000) 0 20⟩)] []
theorem zgc x:aj E27 Tryz.f27 P27 R27 x=F27 x:=by kernel_rfl
def wB (x:az×az×Unit):Option (Bool×Unit):=
 bif decide (x.1.1=x.2.1.1) then
 bif decide (x.1.2.1=x.2.1.2.1) then
 some (decide (x.1.2.2.1=x.2.1.2.2.1),())
 else some (false,())
 else some (false,())
def TY:Sig:=⟨Xf,Vg,wB⟩
def YQ:Env:=mkE ak 26 [] [] []
theorem zcO x:aj YQ Tryz.f182 Xf Vg x=wB x:=by kernel_rfl
def zW (x:List az×List az×Unit):Option (Bool×Unit):=
 bif !decide (Int.ofNat (List.length x.1)=Int.ofNat (List.length x.2.1)) then some (false,())
 else
 aZ (Int×Unit) (Bool×Unit)
 (fun (x_1:Int×Unit)=>
 bif decide (x_1.1 < Int.ofNat (List.length x.1)) then
 (idx x.1 x_1.1).bind fun b=>
 (idx x.2.1 x_1.1).bind fun b_1=>
 (wB (b,b_1,())).bind fun b=>
 bif !b.1 then some (Sum.inr (false,()))
 else some (Sum.inl (wrap64 (x_1.1+1),()))
 else some (Sum.inr (true,())))
 big (0,())
def Uu:Sig:=⟨XG,VJ,zW⟩
def Zg:Env:=mkE ak 27 [(182,[TY])] [] [(4,bz ⟨[⟨.slot 13,(.int .i64),.pv⟩],[0,1,12],[]⟩)]
theorem zde x:aj Zg Tryz.f154 XG VJ x=zW x:=by kernel_rfl
def Ea (x:az×az×Unit):Option (Bool×Unit):=
 bif decide (x.1.1=x.2.1.1) then
 bif decide (x.1.2.1=x.2.1.2.1) then
 some (decide (x.1.2.2.1=x.2.1.2.2.1),())
 else some (false,())
 else some (false,())
def Ut:Sig:=⟨XF,VI,Ea⟩
def Zf:Env:=mkE ak 26 [] [] []
theorem zdd x:aj Zf Tryz.f155 XF VI x=Ea x:=by kernel_rfl
def Ai (x:iO×iO×Unit):Option (Bool×Unit):=
 bif decide (x.1.1=x.2.1.1) then
 bif decide (x.1.2.1=x.2.1.2.1) then
 bif decide (x.1.2.2.1=x.2.1.2.2.1) then
 bif decide (x.1.2.2.2.1=x.2.1.2.2.2.1) then
 bif decide (x.1.2.2.2.2.1=x.2.1.2.2.2.2.1) then
 bif decide (x.1.2.2.2.2.2.1=x.2.1.2.2.2.2.2.1) then
 bif decide (x.1.2.2.2.2.2.2.1=x.2.1.2.2.2.2.2.2.1) then
 bif decide (x.1.2.2.2.2.2.2.2.1=x.2.1.2.2.2.2.2.2.2.1) then
 bif x.1.2.2.2.2.2.2.2.2.1 == x.2.1.2.2.2.2.2.2.2.2.1 then
 Option.bind
 (zW
 (x.1.2.2.2.2.2.2.2.2.2.1,
 x.2.1.2.2.2.2.2.2.2.2.2.1,()))
 fun b=>
 bif b.1 then
 Option.bind
 (Ea
 (x.1.2.2.2.2.2.2.2.2.2.2.1,
 x.2.1.2.2.2.2.2.2.2.2.2.2))
 fun b=>some b
 else some (false,())
 else some (false,())
 else some (false,())
 else some (false,())
 else some (false,())
 else some (false,())
 else some (false,())
 else some (false,())
 else some (false,())
 else some (false,())
def UL:Sig:=⟨Yj,WA,Ai⟩
def ZT:Env:=mkE ak 80 [(154,[Uu]),(155,[Ut])] [] []
theorem zdO x:aj ZT Tryz.f115 Yj WA x=Ai x:=by kernel_rfl
def pF (x:List ae×List ae×Unit):Option (Bool×Unit):=
 bif !decide (Int.ofNat (List.length x.1)=Int.ofNat (List.length x.2.1)) then some (false,())
 else
 aZ (Int×Unit) (Bool×Unit)
 (fun (x_1:Int×Unit)=>
 bif decide (x_1.1 < Int.ofNat (List.length x.1)) then
 (idx x.1 x_1.1).bind
 fun b=>
 (idx x.2.1 x_1.1).bind
 fun b_1=>
 bif
 !(decide (b.1=b_1.1) &&
 (decide (b.2.1.1=b_1.2.1.1) &&
 (decide (b.2.1.2.1=b_1.2.1.2.1) &&
 (decide (b.2.1.2.2.1=b_1.2.1.2.2.1) &&
 (decide (b.2.1.2.2.2.1=b_1.2.1.2.2.2.1) &&
 (decide (b.2.1.2.2.2.2.1=b_1.2.1.2.2.2.2.1) &&
 (decide (b.2.1.2.2.2.2.2.1=b_1.2.1.2.2.2.2.2.1) &&
 (b.2.1.2.2.2.2.2.2.1 == b_1.2.1.2.2.2.2.2.2.1 &&
 true)))))) &&
 true)) then
 some (Sum.inr (false,()))
 else some (Sum.inl (wrap64 (x_1.1+1),()))
 else some (Sum.inr (true,())))
 big (0,())
def zh:Sig:=⟨Yf,Wu,pF⟩
def ZO:Env:=mkE ak 26 [] [] [(4,bz ⟨[⟨.slot 13,(.int .i64),.pv⟩],[0,1,12],[]⟩)]
theorem zdK x:aj ZO Tryz.f119 Yf Wu x=pF x:=by kernel_rfl
def D9 (x:List aN×List aN×Unit):Option (Bool×Unit):=
 bif !decide (Int.ofNat (List.length x.1)=Int.ofNat (List.length x.2.1)) then some (false,())
 else
 aZ (Int×Unit) (Bool×Unit)
 (fun (x_1:Int×Unit)=>
 bif decide (x_1.1 < Int.ofNat (List.length x.1)) then
 (idx x.1 x_1.1).bind fun b=>
 (idx x.2.1 x_1.1).bind fun b_1=>
 bif
 !(decide (b.1=b_1.1) &&
 (decide (b.2.1=b_1.2.1) &&
 (decide (b.2.2.1=b_1.2.2.1) &&
 (decide (b.2.2.2.1=b_1.2.2.2.1) &&
 (decide (b.2.2.2.2.1=b_1.2.2.2.2.1) && true))))) then
 some (Sum.inr (false,()))
 else some (Sum.inl (wrap64 (x_1.1+1),()))
 else some (Sum.inr (true,())))
 big (0,())
def Us:Sig:=⟨XE,VH,D9⟩
def Ze:Env:=mkE ak 26 [] [] [(4,bz ⟨[⟨.slot 13,(.int .i64),.pv⟩],[0,1,12],[]⟩)]
theorem zdc x:aj Ze Tryz.f156 XE VH x=D9 x:=by kernel_rfl
def zU (x:List ax×List ax×Unit):Option (Bool×Unit):=
 bif !decide (Int.ofNat (List.length x.1)=Int.ofNat (List.length x.2.1)) then some (false,())
 else
 aZ (Int×Unit) (Bool×Unit)
 (fun (x_1:Int×Unit)=>
 bif decide (x_1.1 < Int.ofNat (List.length x.1)) then
 (idx x.1 x_1.1).bind fun b=>
 (idx x.2.1 x_1.1).bind fun b_1=>
 bif
 !(decide (b.1=b_1.1) &&
 (decide (b.2.1=b_1.2.1) &&
 (decide (b.2.2.1=b_1.2.2.1) &&
 (decide (b.2.2.2.1=b_1.2.2.2.1) &&
 (decide (b.2.2.2.2.1=b_1.2.2.2.2.1) && true))))) then
 some (Sum.inr (false,()))
 else some (Sum.inl (wrap64 (x_1.1+1),()))
 else some (Sum.inr (true,())))
 big (0,())
def Ur:Sig:=⟨XD,VG,zU⟩
def Zd:Env:=mkE ak 26 [] [] [(4,bz ⟨[⟨.slot 13,(.int .i64),.pv⟩],[0,1,12],[]⟩)]
theorem zdb x:aj Zd Tryz.f157 XD VG x=zU x:=by kernel_rfl
def qN (x:fM×fM×Unit):Option (Bool×Unit):=
 bif decide (x.1.1=x.2.1.1) then
 bif decide (x.1.2.1=x.2.1.2.1) then
 bif x.1.2.2.1 == x.2.1.2.2.1 then
 bif decide (x.1.2.2.2.1=x.2.1.2.2.2.1) then
 bif decide (x.1.2.2.2.2.2.1=x.2.1.2.2.2.2.2.1) then
 bif decide (x.1.2.2.2.2.2.2.1=x.2.1.2.2.2.2.2.2.1) then
 (pF (x.1.2.2.2.2.1,x.2.1.2.2.2.2.1,())).bind
 fun b=>some b
 else some (false,())
 else some (false,())
 else some (false,())
 else some (false,())
 else some (false,())
 else some (false,())
def Ji:Sig:=⟨Yh,Wx,qN⟩
def ZQ:Env:=mkE ak 52 [(119,[zh])] [] []
theorem zdM x:aj ZQ Tryz.f117 Yh Wx x=qN x:=by kernel_rfl
def wL (x:List dJ×List dJ×Unit):Option (Bool×Unit):=
 bif !decide (Int.ofNat (List.length x.1)=Int.ofNat (List.length x.2.1)) then some (false,())
 else
 aZ (Int×Unit) (Bool×Unit)
 (fun (x_1:Int×Unit)=>
 bif decide (x_1.1 < Int.ofNat (List.length x.1)) then
 (idx x.1 x_1.1).bind
 fun b=>
 (idx x.2.1 x_1.1).bind
 fun b_1=>
 bif !decide (b.1=b_1.1) then some (Sum.inr (false,()))
 else
 (idx x.1 x_1.1).bind
 fun b=>
 (idx x.2.1 x_1.1).bind
 fun b_2=>
 bif !decide (b.2.1=b_2.2.1) then some (Sum.inr (false,()))
 else
 (idx x.1 x_1.1).bind
 fun b=>
 (idx x.2.1 x_1.1).bind
 fun b_3=>
 (qN (b.2.2.1,b_3.2.2)).bind fun b=>
 bif !b.1 then some (Sum.inr (false,()))
 else some (Sum.inl (wrap64 (x_1.1+1),()))
 else some (Sum.inr (true,())))
 big (0,())
def I8:Sig:=⟨XC,VF,wL⟩
def Zc:Env:=mkE ak 55 [(117,[Ji])] [] [(4,bz ⟨[⟨.slot 13,(.int .i64),.pv⟩],[0,1,12],[]⟩)]
theorem zda x:aj Zc Tryz.f158 XC VF x=wL x:=by kernel_rfl
def zQ (x:List ay×List ay×Unit):Option (Bool×Unit):=
 bif !decide (Int.ofNat (List.length x.1)=Int.ofNat (List.length x.2.1)) then some (false,())
 else
 aZ (Int×Unit) (Bool×Unit)
 (fun (x_1:Int×Unit)=>
 bif decide (x_1.1 < Int.ofNat (List.length x.1)) then
 (idx x.1 x_1.1).bind fun b=>
 (idx x.2.1 x_1.1).bind fun b_1=>
 bif
 !(decide (b.1=b_1.1) &&
 (decide (b.2.1=b_1.2.1) && (decide (b.2.2.1=b_1.2.2.1) && true))) then
 some (Sum.inr (false,()))
 else some (Sum.inl (wrap64 (x_1.1+1),()))
 else some (Sum.inr (true,())))
 big (0,())
def I7:Sig:=⟨XB,VE,zQ⟩
def Zb:Env:=mkE ak 26 [] [] [(4,bz ⟨[⟨.slot 13,(.int .i64),.pv⟩],[0,1,12],[]⟩)]
theorem zc9 x:aj Zb Tryz.f159 XB VE x=zQ x:=by kernel_rfl
def Ah (x:bH×bH×Unit):Option (Bool×Unit):=
 bif decide (x.1.1=x.2.1.1) then
 bif decide (x.1.2.1=x.2.1.2.1) then
 bif decide (x.1.2.2.1=x.2.1.2.2.1) then
 bif decide (x.1.2.2.2.1=x.2.1.2.2.2.1) then
 bif decide (x.1.2.2.2.2.1=x.2.1.2.2.2.2.1) then
 bif decide (x.1.2.2.2.2.2.1=x.2.1.2.2.2.2.2.1) then
 bif decide (x.1.2.2.2.2.2.2.1=x.2.1.2.2.2.2.2.2.1) then
 bif
 decide
 (x.1.2.2.2.2.2.2.2.2.2.2.1 =
 x.2.1.2.2.2.2.2.2.2.2.2.2.1) then
 bif
 decide
 (x.1.2.2.2.2.2.2.2.2.2.2.2.1 =
 x.2.1.2.2.2.2.2.2.2.2.2.2.2.1) then
 bif
 decide
 (x.1.2.2.2.2.2.2.2.2.2.2.2.2.1 =
 x.2.1.2.2.2.2.2.2.2.2.2.2.2.2.1) then
 bif
 x.1.2.2.2.2.2.2.2.2.2.2.2.2.2.1 ==
 x.2.1.2.2.2.2.2.2.2.2.2.2.2.2.2.1 then
 Option.bind
 (D9
 (x.1.2.2.2.2.2.2.2.1,x.2.1.2.2.2.2.2.2.2.1,
 ()))
 fun b=>
 bif b.1 then
 Option.bind
 (zU
 (x.1.2.2.2.2.2.2.2.2.1,
 x.2.1.2.2.2.2.2.2.2.2.1,()))
 fun b=>
 bif b.1 then
 Option.bind
 (zU
 (x.1.2.2.2.2.2.2.2.2.2.1,
 x.2.1.2.2.2.2.2.2.2.2.2.1,()))
 fun b=>
 bif b.1 then
 Option.bind
 (pF
 (x.1.2.2.2.2.2.2.2.2.2.2.2.2.2.2.1,
 x.2.1.2.2.2.2.2.2.2.2.2.2.2.2.2.2.1,
 ()))
 fun b=>
 bif b.1 then
 Option.bind
 (wL
 (x.1.2.2.2.2.2.2.2.2.2.2.2.2.2.2.2.1,
 x.2.1.2.2.2.2.2.2.2.2.2.2.2.2.2.2.2.1,
 ()))
 fun b=>
 bif b.1 then
 Option.bind
 (zQ
 (x.1.2.2.2.2.2.2.2.2.2.2.2.2.2.2.2.2.1,
 x.2.1.2.2.2.2.2.2.2.2.2.2.2.2.2.2.2.2))
 fun b=>some b
 else some (false,())
 else some (false,())
 else some (false,())
 else some (false,())
 else some (false,())
 else some (false,())
 else some (false,())
 else some (false,())
 else some (false,())
 else some (false,())
 else some (false,())
 else some (false,())
 else some (false,())
 else some (false,())
 else some (false,())
 else some (false,())
def UK:Sig:=⟨Yi,Wy,Ah⟩
def ZR:Env:=mkE ak 122 [(119,[zh]),(156,[Us]),(157,[Ur]),(158,[I8]),(159,[I7])] [] []
theorem zdN x:aj ZR Tryz.f116 Yi Wy x=Ah x:=by kernel_rfl
def Ag (x:List TBD×List TBD×Unit):Option (Bool×Unit):=
 bif !decide (Int.ofNat (List.length x.1)=Int.ofNat (List.length x.2.1)) then some (false,())
 else
 aZ (Int×Unit) (Bool×Unit)
 (fun (x_1:Int×Unit)=>
 bif decide (x_1.1 < Int.ofNat (List.length x.1)) then
 (idx x.1 x_1.1).bind
 fun b=>
 (idx x.2.1 x_1.1).bind
 fun b_1=>
 bif !decide (b.1=b_1.1) then some (Sum.inr (false,()))
 else
 (idx x.1 x_1.1).bind
 fun b=>
 (idx x.2.1 x_1.1).bind
 fun b_2=>
 (pF (b.2.1,b_2.2)).bind fun b=>
 bif !b.1 then some (Sum.inr (false,()))
 else some (Sum.inl (wrap64 (x_1.1+1),()))
 else some (Sum.inr (true,())))
 big (0,())
def UJ:Sig:=⟨Yg,Wv,Ag⟩
def ZP:Env:=mkE ak 42 [(119,[zh])] [] [(4,bz ⟨[⟨.slot 13,(.int .i64),.pv⟩],[0,1,12],[]⟩)]
theorem zdL x:aj ZP Tryz.f118 Yg Wv x=Ag x:=by kernel_rfl
def wU (x:dO×dO×Unit):Option (Bool×Unit):=
 bif decide (x.1.1=x.2.1.1) then
 bif decide (x.1.2.1=x.2.1.2.1) then
 (wL (x.1.2.2.1,x.2.1.2.2.1,())).bind fun b=>
 bif b.1 then
 (zQ (x.1.2.2.2.1,x.2.1.2.2.2)).bind fun b=>some b
 else some (false,())
 else some (false,())
 else some (false,())
def Jh:Sig:=⟨Ye,Ws,wU⟩
def ZN:Env:=mkE ak 31 [(158,[I8]),(159,[I7])] [] []
theorem zdJ x:aj ZN Tryz.f120 Ye Ws x=wU x:=by kernel_rfl
def F77 (x:TMD×TMD×Unit):Option (Bool×Unit):=
 bif decide (x.1.1=x.2.1.1) then
 bif decide (x.1.2.1=x.2.1.2.1) then
 (Ai (x.1.2.2.1,x.2.1.2.2.1,())).bind fun b=>
 bif b.1 then
 bif decide (x.1.2.2.2.1.1=x.2.1.2.2.2.1.1) then
 bif decide (x.1.2.2.2.1.2.1=x.2.1.2.2.2.1.2.1) then
 (Ah (x.1.2.2.2.1.2.2.1,x.2.1.2.2.2.1.2.2)).bind
 fun b=>
 bif b.1 then
 bif decide (x.1.2.2.2.2.1=x.2.1.2.2.2.2.1) then
 bif decide (x.1.2.2.2.2.2.1=x.2.1.2.2.2.2.2.1) then
 bif decide (x.1.2.2.2.2.2.2.1=x.2.1.2.2.2.2.2.2.1) then
 bif
 decide
 (x.1.2.2.2.2.2.2.2.1=x.2.1.2.2.2.2.2.2.2.1) then
 bif
 decide
 (x.1.2.2.2.2.2.2.2.2.1 =
 x.2.1.2.2.2.2.2.2.2.2.1) then
 bif
 decide
 (x.1.2.2.2.2.2.2.2.2.2.1 =
 x.2.1.2.2.2.2.2.2.2.2.2.1) then
 bif
 decide
 (x.1.2.2.2.2.2.2.2.2.2.2.1 =
 x.2.1.2.2.2.2.2.2.2.2.2.2.1) then
 Option.bind
 (qN
 (x.1.2.2.2.2.2.2.2.2.2.2.2.1,
 x.2.1.2.2.2.2.2.2.2.2.2.2.2.1,()))
 fun b=>
 bif b.1 then
 Option.bind
 (Ag
 (x.1.2.2.2.2.2.2.2.2.2.2.2.2.1,
 x.2.1.2.2.2.2.2.2.2.2.2.2.2.2.1,()))
 fun b=>
 bif b.1 then
 Option.bind
 (pF
 (x.1.2.2.2.2.2.2.2.2.2.2.2.2.2.1,
 x.2.1.2.2.2.2.2.2.2.2.2.2.2.2.2.1,
 ()))
 fun b=>
 bif b.1 then
 bif
 x.1.2.2.2.2.2.2.2.2.2.2.2.2.2.2.1 ==
 x.2.1.2.2.2.2.2.2.2.2.2.2.2.2.2.2.1 then
 Option.bind
 (wU
 (x.1.2.2.2.2.2.2.2.2.2.2.2.2.2.2.2.1,
 x.2.1.2.2.2.2.2.2.2.2.2.2.2.2.2.2.2.1,
 ()))
 fun b=>
 bif b.1 then
 some
 (decide
 (x.1.2.2.2.2.2.2.2.2.2.2.2.2.2.2.2.2.1.1 =
 x.2.1.2.2.2.2.2.2.2.2.2.2.2.2.2.2.2.2.1.1) &&
 (decide
 (x.1.2.2.2.2.2.2.2.2.2.2.2.2.2.2.2.2.1.2.1 =
 x.2.1.2.2.2.2.2.2.2.2.2.2.2.2.2.2.2.2.1.2.1) &&
 (decide
 (x.1.2.2.2.2.2.2.2.2.2.2.2.2.2.2.2.2.1.2.2.1 =
 x.2.1.2.2.2.2.2.2.2.2.2.2.2.2.2.2.2.2.1.2.2.1) &&
 (decide
 (x.1.2.2.2.2.2.2.2.2.2.2.2.2.2.2.2.2.1.2.2.2.1 =
 x.2.1.2.2.2.2.2.2.2.2.2.2.2.2.2.2.2.2.1.2.2.2.1) &&
 (decide
 (x.1.2.2.2.2.2.2.2.2.2.2.2.2.2.2.2.2.1.2.2.2.2.1 =
 x.2.1.2.2.2.2.2.2.2.2.2.2.2.2.2.2.2.2.1.2.2.2.2.1) &&
 (decide
 (x.1.2.2.2.2.2.2.2.2.2.2.2.2.2.2.2.2.1.2.2.2.2.2.1 =
 x.2.1.2.2.2.2.2.2.2.2.2.2.2.2.2.2.2.2.1.2.2.2.2.2.1) &&
 (decide
 (x.1.2.2.2.2.2.2.2.2.2.2.2.2.2.2.2.2.1.2.2.2.2.2.2.1 =
 x.2.1.2.2.2.2.2.2.2.2.2.2.2.2.2.2.2.2.1.2.2.2.2.2.2.1) &&
 (decide
 (x.1.2.2.2.2.2.2.2.2.2.2.2.2.2.2.2.2.1.2.2.2.2.2.2.2.1 =
 x.2.1.2.2.2.2.2.2.2.2.2.2.2.2.2.2.2.2.1.2.2.2.2.2.2.2.1) &&
 (decide
 (x.1.2.2.2.2.2.2.2.2.2.2.2.2.2.2.2.2.1.2.2.2.2.2.2.2.2.1 =
 x.2.1.2.2.2.2.2.2.2.2.2.2.2.2.2.2.2.2.1.2.2.2.2.2.2.2.2.1) &&
 (decide
 (x.1.2.2.2.2.2.2.2.2.2.2.2.2.2.2.2.2.1.2.2.2.2.2.2.2.2.2.1 =
 x.2.1.2.2.2.2.2.2.2.2.2.2.2.2.2.2.2.2.1.2.2.2.2.2.2.2.2.2.1) &&
 true))))))))),
 ())
 else some (false,())
 else some (false,())
 else some (false,())
 else some (false,())
 else some (false,())
 else some (false,())
 else some (false,())
 else some (false,())
 else some (false,())
 else some (false,())
 else some (false,())
 else some (false,())
 else some (false,())
 else some (false,())
 else some (false,())
 else some (false,())
 else some (false,())
 else some (false,())
def S77:Sig:=⟨P77,R77,F77⟩
def E77:Env:=mkE ak 142 [(115,[UL]),(116,[UK]),(117,[Ji]),(118,[UJ]),(119,[zh]),(120,[Jh])] [] []
theorem zfo x:aj E77 Tryz.f77 P77 R77 x=F77 x:=by kernel_rfl
def F78 (x:TMD×Unit):Option (TMD×Unit):=
 bif decide (x.1.1=1) then
 some
 ((1,0,x.1.2.2.1,
 zJ,0,[],[],
 0,0,0,0,zR,[],[],false,(0,0,[],[],()),
 zV,()),
 ())
 else
 Option.bind
 (bif decide (x.1.1=2) then some (Sum.inl (x.1.2.2.2.1,()))
 else
 some
 (Sum.inl
 (zJ,
 ())))
 fun o=>
 Sum.elim
 (fun (x_1 :
 (Int×Int×(Int×List UInt8×List UInt8×List UInt8×Int×Int×Int×List aN×List ax×List ax×Int×Int×Int×Bool×List ae×List (Int×Int×(Int×Int×Bool×Int×List ae×ai)×Unit)×List ay×Unit)×Unit)×Unit)=>
 Option.bind
 (bif decide (x.1.1=3) then some (Sum.inl (x.1.2.2.2.2.1,()))
 else
 bif decide (x.1.1=4) then some (Sum.inl (x.1.2.2.2.2.1,()))
 else some (Sum.inl (0,())))
 fun o=>
 Sum.elim
 (fun (x_2:Int×Unit)=>
 Option.bind
 (bif decide (3≤x.1.1) then
 bif decide (x.1.1≤5) then
 some (Sum.inl (x.1.2.2.2.2.2.1,x.1.2.2.2.2.2.2.1,()))
 else some (Sum.inl ([],[],()))
 else some (Sum.inl ([],[],())))
 fun o=>
 Sum.elim
 (fun (x_3:List UInt8×List UInt8×Unit)=>
 Option.bind
 (bif decide (3≤x.1.1) then
 bif decide (x.1.1≤6) then
 some (Sum.inl (x.1.2.2.2.2.2.2.2.1,()))
 else
 bif decide (x.1.1=9) then
 some (Sum.inl (x.1.2.2.2.2.2.2.2.1,()))
 else
 bif decide (x.1.1=12) then
 some (Sum.inl (x.1.2.2.2.2.2.2.2.1,()))
 else some (Sum.inl (0,()))
 else
 bif decide (x.1.1=9) then
 some (Sum.inl (x.1.2.2.2.2.2.2.2.1,()))
 else
 bif decide (x.1.1=12) then
 some (Sum.inl (x.1.2.2.2.2.2.2.2.1,()))
 else some (Sum.inl (0,())))
 fun o=>
 Sum.elim
 (fun (x_4:Int×Unit)=>
 Option.bind
 (bif decide (x.1.1=3) then
 some (Sum.inl (x.1.2.2.2.2.2.2.2.2.1,()))
 else some (Sum.inl (0,())))
 fun o=>
 Sum.elim
 (fun (x_5:Int×Unit)=>
 Option.bind
 (bif decide (8≤x.1.1) then
 bif decide (x.1.1≤11) then
 some (Sum.inl (x.1.2.2.2.2.2.2.2.2.2.1,()))
 else some (Sum.inl (0,()))
 else some (Sum.inl (0,())))
 fun o=>
 Sum.elim
 (fun (x_6:Int×Unit)=>
 Option.bind
 (bif decide (x.1.1=8) then
 some
 (Sum.inl
 (x.1.2.2.2.2.2.2.2.2.2.2.1,
 x.1.2.2.2.2.2.2.2.2.2.2.2.1,[],[],false,
 (0,0,[],[],()),
 zV,()))
 else
 bif decide (x.1.1=9) then
 some
 (Sum.inl
 (0,zR,
 x.1.2.2.2.2.2.2.2.2.2.2.2.2.1,[],
 false,(0,0,[],[],()),
 zV,()))
 else
 bif decide (x.1.1=10) then
 some
 (Sum.inl
 (0,zR,[],
 x.1.2.2.2.2.2.2.2.2.2.2.2.2.2.1,
 x.1.2.2.2.2.2.2.2.2.2.2.2.2.2.2.1,
 (0,0,[],[],()),
 zV,()))
 else
 bif decide (x.1.1=11) then
 some
 (Sum.inl
 (0,zR,[],[],false,
 x.1.2.2.2.2.2.2.2.2.2.2.2.2.2.2.2.1,
 zV,()))
 else
 bif decide (x.1.1=12) then
 some
 (Sum.inl
 (0,zR,[],[],false,
 (0,0,[],[],()),
 x.1.2.2.2.2.2.2.2.2.2.2.2.2.2.2.2.2))
 else
 some
 (Sum.inl
 (0,zR,[],[],false,
 (0,0,[],[],()),
 zV,())))
 fun o=>
 Sum.elim
 (fun (x_7 :
 Int×(Int×Int×Bool×Int×List ae×ai)×List (Int×List ae×Unit)×List ae×Bool×(Int×Int×List (Int×Int×(Int×Int×Bool×Int×List ae×ai)×Unit)×List ay×Unit)×aH×Unit)=>
 some
 ((x.1.1,x.1.2.1,
 zM,
 x_1.1,x_2.1,x_3.1,x_3.2.1,x_4.1,x_5.1,x_6.1,
 x_7),
 ()))
 some o)
 some o)
 some o)
 some o)
 some o)
 some o)
 some o
def S78:Sig:=⟨P78,R78,F78⟩
def E78:Env:=mkE ak 106 [] [(7,⟨[⟨.fld 2005000 3,T33,.pv⟩],[1,2,3,4],[.site 2005000,.fld 2005000 0,.fld 2005000 1,.fld 2005000 2]++hL (.fld 2005000) 4 13++[.site 2000]++hL (.fld 2000) 0 17++[.site 1000]++hL (.fld 1000) 0 17⟩),(9,⟨[⟨.fld 2005000 4,(.int .i64),.pv⟩],[1,2,3,4],[.site 2005000]++hL (.fld 2005000) 0 4++hL (.fld 2005000) 5 12++[.site 2000]++hL (.fld 2000) 0 17++[.site 1000]++hL (.fld 1000) 0 17⟩),(11,⟨[⟨.fld 2005000 5,.str,.pv⟩,⟨.fld 2005000 6,.str,.pv⟩],[1,2,3,4],[.site 2005000]++hL (.fld 2005000) 0 5++hL (.fld 2005000) 7 10++[.site 2000]++hL (.fld 2000) 0 17++[.site 1000]++hL (.fld 1000) 0 17⟩),(13,⟨[⟨.fld 2005000 7,(.int .i64),.pv⟩],[1,2,3,4],[.site 2005000]++hL (.fld 2005000) 0 7++hL (.fld 2005000) 8 9++[.site 2000]++hL (.fld 2000) 0 17++[.site 1000]++hL (.fld 1000) 0 17⟩),(15,⟨[⟨.fld 2005000 8,(.int .i64),.pv⟩],[1,2,3,4],[.site 2005000]++hL (.fld 2005000) 0 8++hL (.fld 2005000) 9 8++[.site 2000]++hL (.fld 2000) 0 17++[.site 1000]++hL (.fld 1000) 0 17⟩),(17,⟨[⟨.fld 2005000 9,(.int .i64),.pv⟩],[1,2,3,4],[.site 2005000]++hL (.fld 2005000) 0 9++hL (.fld 2005000) 10 7++[.site 2000]++hL (.fld 2000) 0 17++[.site 1000]++hL (.fld 1000) 0 17⟩),(28,⟨[⟨.fld 2005000 10,(.int .i64),.pv⟩,⟨.fld 2005000 11,T51,.pv⟩,⟨.fld 2005000 12,(.slice TB),.pv⟩,⟨.fld 2005000 13,(.slice T70),.pv⟩,⟨.fld 2005000 14,.bool,.pv⟩,⟨.fld 2005000 15,T55,.pv⟩,⟨.fld 2005000 16,T53,.pv⟩],[2,4],[.site 2005000]++hL (.fld 2005000) 0 10++[.site 2000]++hL (.fld 2000) 0 17⟩)] []
theorem zfn x:aj E78 Tryz.f78 P78 R78 x=F78 x:=by kernel_rfl
def pz (x:Int×Unit):Option (Bool×Unit):=
 bif decide (0≤x.1) then some (decide (x.1≤1099511627776),()) else some (false,())
def UI:Sig:=⟨Yd,Wq,pz⟩
def ZM:Env:=mkE ak 9 [] [] []
theorem zdI x:aj ZM Tryz.f121 Yd Wq x=pz x:=by kernel_rfl
def Af (x:iO×Unit):Option (Bool×Unit):=let o:Bool→Bool→Option (Bool×Unit)→Option (Bool×Unit):=(fun (p q:Bool) (r:Option (Bool×Unit))=>bif p then r else bif q then r else some (false,()))
 (o (decide (x.1.1=1) || decide (x.1.1=3) || decide (x.1.1=5) || decide (x.1.1=6)) (decide (x.1.2.2.2.2.1=0))
 (o (decide (x.1.1=1) || decide (x.1.1=3) || decide (x.1.1=5)) (decide (x.1.2.2.2.2.2.1=0))
 (o (decide (x.1.1=5)) (decide (x.1.2.2.2.2.2.2.1=0))
 (o (decide (x.1.1=5)) (decide (Int.ofNat (List.length x.1.2.2.2.2.2.2.2.2.2.1)=0))
 (o (decide (x.1.1=5) || decide (x.1.1=6)) (decide (x.1.2.2.2.2.2.2.2.1=0))
 (o (decide (x.1.1=2) || decide (x.1.1=4) || decide (x.1.1=6)) (!x.1.2.2.2.2.2.2.2.2.1)
 (bif decide (x.1.1=7) then some (true,()) else bif decide (x.1.2.2.2.2.2.2.2.2.2.2.1.1=0) then bif decide (x.1.2.2.2.2.2.2.2.2.2.2.1.2.1=0) then some (decide (Int.ofNat (List.length x.1.2.2.2.2.2.2.2.2.2.2.1.2.2.1)=0),()) else some (false,()) else some (false,()))))))))
def UH:Sig:=⟨Jo,Jm,Af⟩
def Jv:Env:=mkE ak 114 [] [(2,⟨[⟨.slot 3,.bool,.pv⟩],[1],[.site 1000]++hL (.fld 1000) 0 11⟩),(3,⟨[⟨.slot 4,.bool,.pv⟩],[1,3],[.site 1000]++hL (.fld 1000) 0 11⟩)] []
def qL (x:Int×Unit):Option (Bool×Unit):=
 bif decide (1≤x.1) then some (decide (x.1≤1099511627776),()) else some (false,())
def I5:Sig:=⟨Xy,VB,qL⟩
def Y8:Env:=mkE ak 9 [] [] []
theorem zc6 x:aj Y8 Tryz.f161 Xy VB x=qL x:=by kernel_rfl
def wK (x:az×Unit):Option (Bool×Unit):=
 (qL (x.1.1,())).bind fun b=>
 bif b.1 then
 (qL (x.1.2.1,())).bind fun b=>
 bif b.1 then some (decide (Int.ofNat (List.length x.1.2.2.1)≤12000),())
 else some (false,())
 else some (false,())
def Un:Sig:=⟨Xz,VC,wK⟩
def Y9:Env:=mkE ak 17 [(161,[I5])] [] []
theorem zc7 x:aj Y9 Tryz.f160 Xz VC x=wK x:=by kernel_rfl
def Eb (x:Int×Int×List az×Unit):Option (Bool×Unit):=
 aZ ai (Bool×Unit)
 (fun (x_1:ai)=>
 bif decide (x_1.2.1 < Int.ofNat (List.length x.2.2.1)) then
 (idx x.2.2.1 x_1.2.1).bind fun b=>
 (wK (b,())).bind fun b=>
 bif !b.1 then some (Sum.inr (false,()))
 else
 (idx x.2.2.1 x_1.2.1).bind fun b=>
 bif decide (b.2.1 < x_1.1) then some (Sum.inr (false,()))
 else
 Option.bind
 (bif decide (x_1.2.1=0) then
 bif decide (x.1 < 0) then some (Sum.inr (Sum.inr (false,())))
 else
 bif decide (1099511627776≤x.1) then some (Sum.inr (Sum.inr (false,())))
 else
 (idx x.2.2.1 x_1.2.1).bind fun b=>
 bif !decide (b.1=wrap64 (x.1+1)) then
 some (Sum.inr (Sum.inr (false,())))
 else
 bif decide (0 < x_1.2.1) then
 (idx x.2.2.1 x_1.2.1).bind fun b=>
 (idx x.2.2.1 (wrap64 (x_1.2.1 - 1))).bind
 fun b_1=>
 bif !decide (b.1=wrap64 (b_1.1+1)) then
 some (Sum.inr (Sum.inr (false,())))
 else some (Sum.inl ())
 else some (Sum.inl ())
 else
 bif decide (0 < x_1.2.1) then
 (idx x.2.2.1 x_1.2.1).bind fun b=>
 (idx x.2.2.1 (wrap64 (x_1.2.1 - 1))).bind
 fun b_1=>
 bif !decide (b.1=wrap64 (b_1.1+1)) then
 some (Sum.inr (Sum.inr (false,())))
 else some (Sum.inl ())
 else some (Sum.inl ()))
 fun o=>
 Sum.elim
 (fun (_z:Unit)=>
 (idx x.2.2.1 x_1.2.1).bind fun b=>
 some (Sum.inl (b.2.1,wrap64 (x_1.2.1+1),())))
 some o
 else some (Sum.inr (true,())))
 big (x.2.1,0,())
def UG:Sig:=⟨Yc,Wp,Eb⟩
def ZL:Env:=mkE ak 73 [(160,[Un])] [(8,⟨[],[0,2,7,9,10],[]⟩)] [(2,bz ⟨[⟨.slot 1,(.int .i64),.pv⟩,⟨.slot 10,(.int .i64),.pv⟩],[0,2,9],[]⟩)]
theorem zdH x:aj ZL Tryz.f123 Yc Wp x=Eb x:=by kernel_rfl
def kT (x:az×Unit):Option (Bool×Unit):=
 Option.bind
 (bif decide (x.1.1=0) then
 bif decide (x.1.2.1=0) then
 some (Sum.inr (decide (Int.ofNat (List.length x.1.2.2.1)=0),()))
 else some (Sum.inl ())
 else some (Sum.inl ()))
 fun o=>
 Sum.elim
 (fun (_z:Unit)=>
 (qL (x.1.1,())).bind fun b=>
 bif b.1 then
 (qL (x.1.2.1,())).bind fun b=>
 bif b.1 then some (decide (Int.ofNat (List.length x.1.2.2.1)≤50000),())
 else some (false,())
 else some (false,()))
 some o
def UF:Sig:=⟨Yb,Wn,kT⟩
def ZK:Env:=mkE ak 29 [(161,[I5])] [(3,⟨[],[1],[.site 1000,.fld 1000 0,.fld 1000 1,.fld 1000 2]⟩)] []
theorem zdG x:aj ZK Tryz.f124 Yb Wn x=kT x:=by kernel_rfl
def F79 (x:iO×Unit):Option (Bool×Unit):=
 bif decide (x.1.1 < 1) then some (false,())
 else
 bif decide (7 < x.1.1) then some (false,())
 else
 bif decide (x.1.2.1 < 0) then some (false,())
 else
 bif decide (2 < x.1.2.1) then some (false,())
 else
 bif decide (x.1.2.2.1 < 0) then some (false,())
 else
 bif decide (2 < x.1.2.2.1) then some (false,())
 else
 bif decide (x.1.2.1=x.1.2.2.1) then some (false,())
 else
 bif decide (x.1.2.2.2.1 < 1) then some (false,())
 else
 (pz (x.1.2.2.2.1,())).bind fun b=>
 bif !b.1 then some (false,())
 else
 (pz (x.1.2.2.2.2.1,())).bind fun b=>
 bif !b.1 then some (false,())
 else
 (pz (x.1.2.2.2.2.2.1,())).bind fun b=>
 bif !b.1 then some (false,())
 else
 (pz (x.1.2.2.2.2.2.2.1,())).bind
 fun b=>
 bif !b.1 then some (false,())
 else
 (pz (x.1.2.2.2.2.2.2.2.1,())).bind
 fun b=>
 bif !b.1 then some (false,())
 else
 (Af x).bind fun b=>
 bif !b.1 then some (false,())
 else
 bif
 decide
 (4 <
 Int.ofNat
 (List.length x.1.2.2.2.2.2.2.2.2.2.1)) then
 some (false,())
 else
 Option.bind
 (Eb
 (x.1.2.2.2.2.1,x.1.2.2.2.2.2.1,
 x.1.2.2.2.2.2.2.2.2.2.1,()))
 fun b=>
 bif !b.1 then some (false,())
 else
 aZ (Int×Unit) (Bool×Unit)
 (fun (x_1:Int×Unit)=>
 bif
 decide
 (x_1.1 <
 Int.ofNat
 (List.length
 x.1.2.2.2.2.2.2.2.2.2.1)) then
 Option.bind
 (idx x.1.2.2.2.2.2.2.2.2.2.1 x_1.1)
 fun b=>
 bif decide (x.1.2.2.2.1 < b.2.1) then
 some (Sum.inr (false,()))
 else
 some
 (Sum.inl
 (wrap64 (x_1.1+1),()))
 else
 Option.map Sum.inr
 (bif !decide (x.1.1=7) then some (true,())
 else
 Option.bind
 (kT x.1.2.2.2.2.2.2.2.2.2.2)
 fun b=>
 bif b.1 then
 some
 (decide
 (0 <
 x.1.2.2.2.2.2.2.2.2.2.2.1.1),
 ())
 else some (false,())))
 big (0,())
def S79:Sig:=⟨P79,R79,F79⟩
def E79:Env:=mkE ak 121 [(121,[UI]),(122,[UH]),(123,[UG]),(124,[UF])] [] [(8,bz ⟨[⟨.slot 94,(.int .i64),.pv⟩],[1,93],[.site 1000]++hL (.fld 1000) 0 11⟩)]
theorem zfm x:aj E79 Tryz.f79 P79 R79 x=F79 x:=by kernel_rfl
def F80 (x:Int×Int×Int×Unit):Option (Bool×Unit):=
 bif decide (x.2.1≤x.1) then some (decide (x.1≤x.2.2.1),()) else some (false,())
def S80:Sig:=⟨P80,R80,F80⟩
def E80:Env:=mkE ak 15 [] [] []
theorem zfl x:aj E80 Tryz.f80 P80 R80 x=F80 x:=by kernel_rfl
def F82 (x:List UInt8×List UInt8×Unit):Option (Bool×Unit):=
 (F58 (x.1,())).bind fun b=>
 bif b.1 then
 bif decide (Int.ofNat (List.length x.2.1)=0) then some (true,())
 else
 (F89 (x.2.1,UInt8.ofNat 127,())).bind fun b=>
 bif b.1 then some (bu x.1 x.2.1,()) else some (false,())
 else some (false,())
def S82:Sig:=⟨P82,R82,F82⟩
def E82:Env:=mkE ak 21 [(58,[S58]),(89,[S89])] [] []
theorem zfj x:aj E82 Tryz.f82 P82 R82 x=F82 x:=by kernel_rfl
def iV (x:Int×Int×Int×Unit):Option (Bool×Unit):=
 bif decide (x.2.1≤x.1) then some (decide (x.1≤x.2.2.1),()) else some (false,())
def nV:Sig:=⟨X9,Wj,iV⟩
def ZI:Env:=mkE ak 15 [] [] []
theorem zdE x:aj ZI Tryz.f126 X9 Wj x=iV x:=by kernel_rfl
def gV (x:Int×Unit):Option (Bool×Unit):=(iV (x.1,1,1099511627776,())).bind fun b=>some b
def sW:Sig:=⟨X8,Wi,gV⟩
def ZH:Env:=mkE ak 5 [(126,[nV])] [] []
theorem zdD x:aj ZH Tryz.f127 X8 Wi x=gV x:=by kernel_rfl
def ji (x:Int×Unit):Option (Bool×Unit):=(iV (x.1,0,1099511627776,())).bind fun b=>some b
def vV:Sig:=⟨X6,We,ji⟩
def ZF:Env:=mkE ak 5 [(126,[nV])] [] []
theorem zdB x:aj ZF Tryz.f129 X6 We x=ji x:=by kernel_rfl
def nZ (x:y9×Unit):Option (Bool×Unit):=
 bif decide (x.1.1 < 1) then some (false,())
 else
 bif decide (1099511627776 < x.1.1) then some (false,())
 else
 bif decide (x.1.2.2.1 < 1) then some (false,())
 else
 bif decide (1099511627776 < x.1.2.2.1) then some (false,())
 else
 bif x.1.2.2.2.2.2.2.1 then
 bif decide (x.1.2.1=0) then
 bif decide (x.1.2.2.2.1=0) then
 bif decide (x.1.2.2.2.2.2.1=0) then
 some (decide (Int.ofNat (List.length x.1.2.2.2.2.1)=0),())
 else some (false,())
 else some (false,())
 else some (false,())
 else
 bif decide (1≤x.1.2.1) then
 bif decide (x.1.2.1≤x.1.2.2.1) then
 bif decide (1≤x.1.2.2.2.1) then
 bif decide (x.1.2.2.2.1≤1099511627776) then
 bif decide (Int.ofNat (List.length x.1.2.2.2.2.1)≤40) then
 bif decide (-1099511627776≤x.1.2.2.2.2.2.1) then
 some (decide (x.1.2.2.2.2.2.1≤1099511627776),())
 else some (false,())
 else some (false,())
 else some (false,())
 else some (false,())
 else some (false,())
 else some (false,())
def zg:Sig:=⟨X7,Wh,nZ⟩
def ZG:Env:=mkE ak 78 [] [] []
theorem zdC x:aj ZG Tryz.f128 X7 Wh x=nZ x:=by kernel_rfl
def F83 (x:fM×Unit):Option (Bool×Unit):=
 aZ (Int×Unit) (Bool×Unit)
 (fun (x_1:Int×Unit)=>
 bif decide (x_1.1 < Int.ofNat (List.length x.1.2.2.2.2.1)) then
 (idx x.1.2.2.2.2.1 x_1.1).bind
 fun b=>
 (F58 (b.1,())).bind fun b=>
 bif !b.1 then some (Sum.inr (false,()))
 else
 (idx x.1.2.2.2.2.1 x_1.1).bind
 fun b=>
 (nZ b.2).bind fun b=>
 bif !b.1 then some (Sum.inr (false,()))
 else some (Sum.inl (wrap64 (x_1.1+1),()))
 else
 Option.map Sum.inr
 ((iV (x.1.1,0,15,())).bind fun b=>
 bif b.1 then
 (ji (x.1.2.1,())).bind fun b=>
 bif b.1 then
 (ji (x.1.2.2.2.1,())).bind fun b=>
 bif b.1 then
 (ji x.1.2.2.2.2.2.2).bind fun b=>
 bif b.1 then
 (iV (x.1.2.2.2.2.2.1,0,1,())).bind fun b=>
 bif b.1 then
 some (decide (Int.ofNat (List.length x.1.2.2.2.2.1)≤8),())
 else some (false,())
 else some (false,())
 else some (false,())
 else some (false,())
 else some (false,())))
 big (0,())
def S83:Sig:=⟨P83,R83,F83⟩
def E83:Env:=mkE ak 58 [(58,[S58]),(126,[nV]),(128,[zg]),(129,[vV])] [] [(2,bz ⟨[⟨.slot 7,(.int .i64),.pv⟩],[1,6],[.site 1000]++hL (.fld 1000) 0 7⟩)]
theorem zfi x:aj E83 Tryz.f83 P83 R83 x=F83 x:=by kernel_rfl
def tJ (x:List dJ×Int×Unit):Option (Bool×Unit):=
 aZ (Int×Unit) (Bool×Unit)
 (fun (x_1:Int×Unit)=>
 bif decide (x_1.1 < Int.ofNat (List.length x.1)) then
 (idx x.1 x_1.1).bind
 fun b=>
 (iV (b.1,1,x.2)).bind fun b=>
 bif !b.1 then some (Sum.inr (false,()))
 else
 (idx x.1 x_1.1).bind
 fun b=>
 (gV (b.2.1,())).bind fun b=>
 bif !b.1 then some (Sum.inr (false,()))
 else
 (idx x.1 x_1.1).bind
 fun b=>
 (F83 b.2.2).bind fun b=>
 bif !b.1 then some (Sum.inr (false,()))
 else
 bif decide (0 < x_1.1) then
 (idx x.1 (wrap64 (x_1.1 - 1))).bind
 fun b=>
 (idx x.1 x_1.1).bind
 fun b_1=>
 bif decide (b_1.1≤b.1) then some (Sum.inr (false,()))
 else some (Sum.inl (wrap64 (x_1.1+1),()))
 else some (Sum.inl (wrap64 (x_1.1+1),()))
 else some (Sum.inr (true,())))
 big (0,())
def Jg:Sig:=⟨X4,V8,tJ⟩
def ZC:Env:=mkE ak 56 [(83,[S83]),(126,[nV]),(127,[sW])] [] [(2,bz ⟨[⟨.slot 8,(.int .i64),.pv⟩],[0,1,7],[]⟩)]
theorem zdz x:aj ZC Tryz.f130 X4 V8 x=tJ x:=by kernel_rfl
def tH (x:List ay×Unit):Option (Bool×Unit):=
 aZ (Int×Unit) (Bool×Unit)
 (fun (x_1:Int×Unit)=>
 bif decide (x_1.1 < Int.ofNat (List.length x.1)) then
 (idx x.1 x_1.1).bind fun b=>
 (gV (b.1,())).bind fun b=>
 bif !b.1 then some (Sum.inr (false,()))
 else
 (idx x.1 x_1.1).bind fun b=>
 (iV (b.2.1,1,1000,())).bind fun b=>
 bif !b.1 then some (Sum.inr (false,()))
 else
 (idx x.1 x_1.1).bind fun b=>
 (iV (b.2.2.1,0,1000,())).bind fun b=>
 bif !b.1 then some (Sum.inr (false,()))
 else
 bif decide (0 < x_1.1) then
 (idx x.1 (wrap64 (x_1.1 - 1))).bind
 fun b=>
 (idx x.1 x_1.1).bind fun b_1=>
 bif decide (b_1.1≤b.1) then some (Sum.inr (false,()))
 else some (Sum.inl (wrap64 (x_1.1+1),()))
 else some (Sum.inl (wrap64 (x_1.1+1),()))
 else some (Sum.inr (decide (Int.ofNat (List.length x.1)≤64),())))
 big (0,())
def Jf:Sig:=⟨X3,V7,tH⟩
def ZB:Env:=mkE ak 56 [(126,[nV]),(127,[sW])] [] [(2,bz ⟨[⟨.slot 6,(.int .i64),.pv⟩],[0,5],[]⟩)]
theorem zdy x:aj ZB Tryz.f131 X3 V7 x=tH x:=by kernel_rfl
def zO (x:bH×Unit):Option (Bool×Unit):=let o:Bool→Bool→Option (Bool×Unit)→Option (Bool×Unit):=(fun (p q:Bool) (r:Option (Bool×Unit))=>bif p then r else bif q then r else some (false,()))
 ((o (decide (x.1.1=1) || decide (x.1.1=2) || decide (x.1.1=10) || decide (x.1.1=12) || decide (x.1.1=13)) (decide (x.1.2.1=[])))
 ((o (decide (x.1.1=2) || decide (x.1.1=12) || decide (x.1.1=13)) (decide (x.1.2.2.1=[])))
 ((o (decide (x.1.1=1)) (decide (x.1.2.2.2.1=[])))
 ((o (decide (x.1.1=1) || decide (x.1.1=5) || decide (x.1.1=6) || decide (x.1.1=7) || decide (x.1.1=9)) (decide (x.1.2.2.2.2.1=0)))
 ((o (decide (x.1.1=5)) (decide (x.1.2.2.2.2.2.1=0)))
 ((o (decide (x.1.1=4) || decide (x.1.1=12) || decide (x.1.1=14) || decide (x.1.1=15)) (decide (x.1.2.2.2.2.2.2.1=0)))
 ((o (decide (x.1.1=3)) (decide (wrap64 (wrap64 (Int.ofNat (List.length x.1.2.2.2.2.2.2.2.1)+Int.ofNat (List.length x.1.2.2.2.2.2.2.2.2.1))+Int.ofNat (List.length x.1.2.2.2.2.2.2.2.2.2.1))=0)))
 ((o (decide (10≤x.1.1)) (decide (x.1.2.2.2.2.2.2.2.2.2.2.1=0)))
 ((fun r=>bif decide (12≤x.1.1) then (o (decide (x.1.1≤15)) (decide (x.1.2.2.2.2.2.2.2.2.2.2.2.1=0)) r) else (o false (decide (x.1.2.2.2.2.2.2.2.2.2.2.2.1=0)) r))
 ((o (decide (x.1.1=14)) (decide (x.1.2.2.2.2.2.2.2.2.2.2.2.2.1=0)))
 ((o (decide (x.1.1=13)) (!x.1.2.2.2.2.2.2.2.2.2.2.2.2.2.1))
 ((o (decide (x.1.1=13) || decide (x.1.1=14)) (decide (Int.ofNat (List.length x.1.2.2.2.2.2.2.2.2.2.2.2.2.2.2.1)=0))) (bif decide (x.1.1=15) then some (true,()) else some (decide (wrap64 (Int.ofNat (List.length x.1.2.2.2.2.2.2.2.2.2.2.2.2.2.2.2.1)+Int.ofNat (List.length x.1.2.2.2.2.2.2.2.2.2.2.2.2.2.2.2.2.1))=0),()))))))))))))))
def Um:Sig:=⟨Jn,Jl,zO⟩
def Ju:Env:=mkE ak 204 [] [(3,⟨[⟨.slot 4,.bool,.pv⟩],[1,3],[.site 1000]++hL (.fld 1000) 0 17⟩),(4,⟨[⟨.slot 5,.bool,.pv⟩],[1,3,4],[.site 1000]++hL (.fld 1000) 0 17⟩),(5,⟨[⟨.slot 6,.bool,.pv⟩],[1,3,4,5],[.site 1000]++hL (.fld 1000) 0 17⟩),(6,⟨[⟨.slot 7,.bool,.pv⟩],[1,3,4,5,6],[.site 1000]++hL (.fld 1000) 0 17⟩)] []
def zN (x:List aN×Unit):Option (Bool×Unit):=
 aZ (Int×Unit) (Bool×Unit)
 (fun (x_1:Int×Unit)=>
 bif decide (x_1.1 < Int.ofNat (List.length x.1)) then
 (idx x.1 x_1.1).bind fun b=>
 Option.bind
 (bif decide (1≤b.2.1) then
 bif decide (b.2.1≤4) then
 bif decide (Int.ofNat (List.length b.2.2.2.2.1)=0) then
 (iV (b.2.2.2.1,-1099511627776,1099511627776,())).bind
 fun b=>some (Sum.inl b)
 else some (Sum.inl (false,()))
 else some (Sum.inl (false,()))
 else some (Sum.inl (false,())))
 fun o=>
 Sum.elim
 (fun (x:Bool×Unit)=>
 Option.bind
 (bif decide (b.2.1=5) then
 bif decide (b.2.2.2.1=0) then
 some (Sum.inl (decide (Int.ofNat (List.length b.2.2.2.2.1)≤40),()))
 else some (Sum.inl (false,()))
 else some (Sum.inl (false,())))
 fun o=>
 Sum.elim
 (fun (x_2:Bool×Unit)=>
 (F58 (b.1,())).bind fun b_1=>
 bif !b_1.1 then some (Sum.inr (false,()))
 else
 (iV (b.2.2.1,0,2,())).bind fun b=>
 bif !b.1 then some (Sum.inr (false,()))
 else
 bif !x.1 then
 bif !x_2.1 then some (Sum.inr (false,()))
 else some (Sum.inl (wrap64 (x_1.1+1),()))
 else some (Sum.inl (wrap64 (x_1.1+1),())))
 some o)
 some o
 else some (Sum.inr (decide (Int.ofNat (List.length x.1)≤4),())))
 big (0,())
def Ul:Sig:=⟨Xx,VA,zN⟩
def Y7:Env:=mkE ak 71 [(58,[S58]),(126,[nV])] [(6,⟨[⟨.slot 5,.bool,.pv⟩],[0,4,8,9],[.site 4005000]++hL (.fld 4005000) 0 5⟩),(7,⟨[⟨.slot 6,.bool,.pv⟩],[0,4,5,8,9],[.site 4005000]++hL (.fld 4005000) 0 5⟩)] [(2,bz ⟨[⟨.slot 9,(.int .i64),.pv⟩],[0,8],[]⟩)]
theorem zc5 x:aj Y7 Tryz.f163 Xx VA x=zN x:=by kernel_rfl
def zA (x:ax×Unit):Option (Bool×Unit):=
 bif decide (x.1.1=1) then
 bif decide (Int.ofNat (List.length x.1.2.2.1)=0) then
 (F58 (x.1.2.1,())).bind fun b=>
 bif b.1 then
 bif decide (Int.ofNat (List.length x.1.2.2.2.1)≤40) then
 (ji x.1.2.2.2.2).bind fun b=>some b
 else some (false,())
 else some (false,())
 else some (false,())
 else
 bif decide (x.1.1=2) then
 bif decide (Int.ofNat (List.length x.1.2.2.2.1)=0) then
 bif decide (x.1.2.2.2.2.1=0) then
 (F82 (x.1.2.1,x.1.2.2.1,())).bind fun b=>some b
 else some (false,())
 else some (false,())
 else
 bif decide (x.1.1=3) then
 bif decide (Int.ofNat (List.length x.1.2.2.2.1)=0) then
 bif decide (x.1.2.2.2.2.1=0) then
 (F82 (x.1.2.1,x.1.2.2.1,())).bind fun b=>some b
 else some (false,())
 else some (false,())
 else some (false,())
def TW:Sig:=⟨Xe,Vf,zA⟩
def YP:Env:=mkE ak 52 [(58,[S58]),(82,[S82]),(129,[vV])] [] []
theorem zcN x:aj YP Tryz.f183 Xe Vf x=zA x:=by kernel_rfl
def wo (x:List UInt8×List UInt8×List UInt8×Unit):Option (Bool×Unit):=
 (F82 (x.1,x.2.1,())).bind fun b=>
 bif !b.1 then some (false,())
 else
 (F58 x.2.2).bind fun b=>
 bif !b.1 then some (false,())
 else
 bif decide (Int.ofNat (List.length x.2.1)=0) then some (decide (x.2.2.1=x.1),())
 else
 bif !bu x.2.2.1 x.1 then some (bu x.2.2.1 x.2.1,())
 else some (false,())
def TR:Sig:=⟨WZ,U8,wo⟩
def YJ:Env:=mkE ak 30 [(58,[S58]),(82,[S82])] [] []
theorem zcH x:aj YJ Tryz.f190 WZ U8 x=wo x:=by kernel_rfl
def wz (x:ax×ax×Unit):Option (Bool×Unit):=
 bif decide (x.1.1=3) then some (false,())
 else
 bif decide (x.2.1.1=3) then some (false,())
 else
 (wo (x.1.2.1,x.1.2.2.1,x.2.1.2.1,())).bind fun b=>
 bif b.1 then some (true,())
 else
 (wo (x.2.1.2.1,x.2.1.2.2.1,x.1.2.1,())).bind
 fun b=>some b
def TV:Sig:=⟨Xd,Ve,wz⟩
def YO:Env:=mkE ak 29 [(190,[TR])] [] []
theorem zcM x:aj YO Tryz.f184 Xd Ve x=wz x:=by kernel_rfl
def wJ (x:List ax×Unit):Option (Bool×Unit):=
 aZ (Int×Unit) (Bool×Unit)
 (fun (x_1:Int×Unit)=>
 bif decide (x_1.1 < Int.ofNat (List.length x.1)) then
 (idx x.1 x_1.1).bind fun b=>
 (zA (b,())).bind fun b=>
 bif !b.1 then some (Sum.inr (false,()))
 else
 aZ (Int×Unit) (Int×Unit⊕Bool×Unit)
 (fun (x_2:Int×Unit)=>
 bif decide (x_2.1 < x_1.1) then
 (idx x.1 x_2.1).bind
 fun b=>
 (idx x.1 x_1.1).bind
 fun b_1=>
 (wz (b,b_1,())).bind fun b=>
 bif b.1 then some (Sum.inr (Sum.inr (false,())))
 else some (Sum.inl (wrap64 (x_2.1+1),()))
 else some (Sum.inr (Sum.inl (wrap64 (x_1.1+1),()))))
 big (0,())
 else some (Sum.inr (decide (Int.ofNat (List.length x.1)≤4),())))
 big (0,())
def Uk:Sig:=⟨Xw,Vz,wJ⟩
def Y6:Env:=mkE ak 34 [(183,[TW]),(184,[TV])] [] [(2,bz ⟨[⟨.slot 7,(.int .i64),.pv⟩],[0,6],[]⟩),(7,bz ⟨[⟨.slot 17,(.int .i64),.pv⟩],[0,3,6,7,16],[]⟩)]
theorem zc4 x:aj Y6 Tryz.f164 Xw Vz x=wJ x:=by kernel_rfl
def wI (x:bH×Unit):Option (Bool×Unit):=
 aZ (Int×Unit) (Bool×Unit)
 (fun (x_1:Int×Unit)=>
 bif
 decide
 (x_1.1 < Int.ofNat (List.length x.1.2.2.2.2.2.2.2.2.2.2.2.2.2.2.1)) then
 (idx x.1.2.2.2.2.2.2.2.2.2.2.2.2.2.2.1 x_1.1).bind
 fun b=>
 (F58 (b.1,())).bind fun b_1=>
 bif !b_1.1 then some (Sum.inr (false,()))
 else
 (nZ b.2).bind fun b_2=>
 bif !b_2.1 then some (Sum.inr (false,()))
 else
 bif b.2.1.2.2.2.2.2.2.1 then some (Sum.inr (false,()))
 else
 bif decide (0 < x_1.1) then
 Option.bind
 (idx x.1.2.2.2.2.2.2.2.2.2.2.2.2.2.2.1
 (wrap64 (x_1.1 - 1)))
 fun b_3=>
 bif !bu b_3.1 b.1 then some (Sum.inr (false,()))
 else some (Sum.inl (wrap64 (x_1.1+1),()))
 else some (Sum.inl (wrap64 (x_1.1+1),()))
 else
 Option.map Sum.inr
 (bif decide (x.1.2.1=[]) then
 bif decide (x.1.2.2.1=[]) then
 some
 (decide (Int.ofNat (List.length x.1.2.2.2.2.2.2.2.2.2.2.2.2.2.2.1)≤8),
 ())
 else
 (F58 (x.1.2.2.1,())).bind fun b=>
 bif b.1 then
 some
 (decide
 (Int.ofNat (List.length x.1.2.2.2.2.2.2.2.2.2.2.2.2.2.2.1)≤8),
 ())
 else some (false,())
 else
 (F58 (x.1.2.1,())).bind fun b=>
 bif b.1 then
 bif decide (x.1.2.2.1=[]) then
 some
 (decide
 (Int.ofNat (List.length x.1.2.2.2.2.2.2.2.2.2.2.2.2.2.2.1)≤8),
 ())
 else
 (F58 (x.1.2.2.1,())).bind fun b=>
 bif b.1 then
 some
 (decide
 (Int.ofNat (List.length x.1.2.2.2.2.2.2.2.2.2.2.2.2.2.2.1)≤
 8),
 ())
 else some (false,())
 else some (false,())))
 big (0,())
def Uj:Sig:=⟨Xv,Vy,wI⟩
def Y5:Env:=mkE ak 72 [(58,[S58]),(128,[zg])] [] [(2,bz ⟨[⟨.slot 8,(.int .i64),.pv⟩],[1,7],[.site 1000]++hL (.fld 1000) 0 17⟩)]
theorem zc3 x:aj Y5 Tryz.f165 Xv Vy x=wI x:=by kernel_rfl
def wH (x:bH×Unit):Option (Bool×Unit):=
 aZ (Int×Unit) (Bool×Unit)
 (fun (x_1:Int×Unit)=>
 bif
 decide
 (x_1.1 < Int.ofNat (List.length x.1.2.2.2.2.2.2.2.2.2.2.2.2.2.2.1)) then
 (idx x.1.2.2.2.2.2.2.2.2.2.2.2.2.2.2.1 x_1.1).bind
 fun b=>
 (F58 (b.1,())).bind fun b_1=>
 bif !b_1.1 then some (Sum.inr (false,()))
 else
 (nZ b.2).bind fun b_2=>
 bif !b_2.1 then some (Sum.inr (false,()))
 else
 bif decide (b.2.1.1≤x.1.2.2.2.2.2.2.1) then some (Sum.inr (false,()))
 else
 bif decide (x.1.2.2.2.2.2.2.2.2.2.2.2.2.1 < b.2.1.1) then
 some (Sum.inr (false,()))
 else
 bif decide (0 < x_1.1) then
 Option.bind
 (idx x.1.2.2.2.2.2.2.2.2.2.2.2.2.2.2.1
 (wrap64 (x_1.1 - 1)))
 fun b_3=>
 bif decide (b.2.1.1 < b_3.2.1.1) then some (Sum.inr (false,()))
 else
 Option.bind
 (idx x.1.2.2.2.2.2.2.2.2.2.2.2.2.2.2.1
 (wrap64 (x_1.1 - 1)))
 fun b_4=>
 bif decide (b_4.2.1.1=b.2.1.1) then
 Option.bind
 (idx x.1.2.2.2.2.2.2.2.2.2.2.2.2.2.2.1
 (wrap64 (x_1.1 - 1)))
 fun b_5=>
 bif !bu b_5.1 b.1 then some (Sum.inr (false,()))
 else some (Sum.inl (wrap64 (x_1.1+1),()))
 else some (Sum.inl (wrap64 (x_1.1+1),()))
 else some (Sum.inl (wrap64 (x_1.1+1),()))
 else
 Option.map Sum.inr
 ((gV (x.1.2.2.2.2.2.2.1,())).bind fun b=>
 bif b.1 then
 (gV (x.1.2.2.2.2.2.2.2.2.2.2.2.2.1,())).bind
 fun b=>
 bif b.1 then
 bif
 decide
 (x.1.2.2.2.2.2.2.1 <
 x.1.2.2.2.2.2.2.2.2.2.2.2.2.1) then
 some
 (decide
 (Int.ofNat (List.length x.1.2.2.2.2.2.2.2.2.2.2.2.2.2.2.1)≤
 64),
 ())
 else some (false,())
 else some (false,())
 else some (false,())))
 big (0,())
def Ui:Sig:=⟨Xu,Vx,wH⟩
def Y4:Env:=mkE ak 106 [(58,[S58]),(127,[sW]),(128,[zg])] [] [(2,bz ⟨[⟨.slot 8,(.int .i64),.pv⟩],[1,7],[.site 1000]++hL (.fld 1000) 0 17⟩)]
theorem zc2 x:aj Y4 Tryz.f166 Xu Vx x=wH x:=by kernel_rfl
def Ae (x:bH×Unit):Option (Bool×Unit):=
 Option.bind
 ((zO x).bind fun b=>
 bif !b.1 then some (Sum.inr (false,()))
 else
 bif decide (10≤x.1.1) then
 (gV (x.1.2.2.2.2.2.2.2.2.2.2.1,())).bind fun b=>
 bif !b.1 then some (Sum.inr (false,()))
 else
 bif decide (12≤x.1.1) then
 bif decide (x.1.1≤15) then
 (gV (x.1.2.2.2.2.2.2.2.2.2.2.2.1,())).bind
 fun b=>
 bif !b.1 then some (Sum.inr (false,())) else some (Sum.inl ())
 else some (Sum.inl ())
 else some (Sum.inl ())
 else
 bif decide (12≤x.1.1) then
 bif decide (x.1.1≤15) then
 (gV (x.1.2.2.2.2.2.2.2.2.2.2.2.1,())).bind
 fun b=>
 bif !b.1 then some (Sum.inr (false,())) else some (Sum.inl ())
 else some (Sum.inl ())
 else some (Sum.inl ()))
 fun o=>
 Sum.elim
 (fun (_z:Unit)=>
 Option.bind
 (bif decide (x.1.1=1) then
 (F58 (x.1.2.1,())).bind fun b=>
 bif b.1 then
 bif decide (Int.ofNat (List.length x.1.2.2.2.1)≤40) then
 (ji (x.1.2.2.2.2.1,())).bind fun b=>some (Sum.inr b)
 else some (Sum.inr (false,()))
 else some (Sum.inr (false,()))
 else
 bif decide (x.1.1=2) then
 (F82 (x.1.2.1,x.1.2.2.1,())).bind fun b=>
 some (Sum.inr b)
 else
 bif decide (x.1.1=3) then
 (zN (x.1.2.2.2.2.2.2.2.1,())).bind fun b=>
 bif b.1 then
 (wJ (x.1.2.2.2.2.2.2.2.2.1,())).bind fun b=>
 bif b.1 then
 (wJ (x.1.2.2.2.2.2.2.2.2.2.1,())).bind
 fun b=>some (Sum.inr b)
 else some (Sum.inr (false,()))
 else some (Sum.inr (false,()))
 else
 bif decide (x.1.1=4) then
 (gV (x.1.2.2.2.2.2.2.1,())).bind fun b=>
 some (Sum.inr b)
 else
 bif decide (x.1.1=5) then
 (gV (x.1.2.2.2.2.1,())).bind fun b=>
 bif b.1 then
 (iV (x.1.2.2.2.2.2.1,1,1000,())).bind
 fun b=>some (Sum.inr b)
 else some (Sum.inr (false,()))
 else
 bif decide (x.1.1=6) then
 bif decide (x.1.1=6) then
 (gV (x.1.2.2.2.2.1,())).bind fun b=>
 some (Sum.inr b)
 else
 bif decide (x.1.1=9) then
 bif !decide (x.1.2.2.2.2.1=0) then
 (iV (x.1.2.2.2.2.1,-1099511627776,1099511627776,())).bind
 fun b=>some (Sum.inr b)
 else some (Sum.inr (false,()))
 else
 bif decide (x.1.1=10) then
 (F38 (x.1.2.1,())).bind fun b=>some (Sum.inr b)
 else
 bif decide (x.1.1=12) then
 (F38 (x.1.2.1,())).bind fun b=>
 bif b.1 then
 (F38 (x.1.2.2.1,())).bind fun b=>
 bif b.1 then
 (gV (x.1.2.2.2.2.2.2.1,())).bind
 fun b=>some (Sum.inr b)
 else some (Sum.inr (false,()))
 else some (Sum.inr (false,()))
 else
 bif decide (x.1.1=13) then
 (wI x).bind fun b=>some (Sum.inr b)
 else
 bif decide (x.1.1=14) then
 (wH x).bind fun b=>some (Sum.inr b)
 else
 bif decide (x.1.1=15) then
 (gV (x.1.2.2.2.2.2.2.1,())).bind
 fun b=>
 bif b.1 then
 Option.bind
 (tJ
 (x.1.2.2.2.2.2.2.2.2.2.2.2.2.2.2.2.1,15,
 ()))
 fun b=>
 bif b.1 then
 Option.bind
 (tH
 x.1.2.2.2.2.2.2.2.2.2.2.2.2.2.2.2.2)
 fun b=>some (Sum.inr b)
 else some (Sum.inr (false,()))
 else some (Sum.inr (false,()))
 else some (Sum.inl ())
 else
 bif decide (x.1.1=7) then
 (gV (x.1.2.2.2.2.1,())).bind fun b=>
 some (Sum.inr b)
 else
 bif decide (x.1.1=9) then
 bif !decide (x.1.2.2.2.2.1=0) then
 (iV (x.1.2.2.2.2.1,-1099511627776,1099511627776,())).bind
 fun b=>some (Sum.inr b)
 else some (Sum.inr (false,()))
 else
 bif decide (x.1.1=10) then
 (F38 (x.1.2.1,())).bind fun b=>some (Sum.inr b)
 else
 bif decide (x.1.1=12) then
 (F38 (x.1.2.1,())).bind fun b=>
 bif b.1 then
 (F38 (x.1.2.2.1,())).bind fun b=>
 bif b.1 then
 (gV (x.1.2.2.2.2.2.2.1,())).bind
 fun b=>some (Sum.inr b)
 else some (Sum.inr (false,()))
 else some (Sum.inr (false,()))
 else
 bif decide (x.1.1=13) then
 (wI x).bind fun b=>some (Sum.inr b)
 else
 bif decide (x.1.1=14) then
 (wH x).bind fun b=>some (Sum.inr b)
 else
 bif decide (x.1.1=15) then
 (gV (x.1.2.2.2.2.2.2.1,())).bind
 fun b=>
 bif b.1 then
 Option.bind
 (tJ
 (x.1.2.2.2.2.2.2.2.2.2.2.2.2.2.2.2.1,15,
 ()))
 fun b=>
 bif b.1 then
 Option.bind
 (tH
 x.1.2.2.2.2.2.2.2.2.2.2.2.2.2.2.2.2)
 fun b=>some (Sum.inr b)
 else some (Sum.inr (false,()))
 else some (Sum.inr (false,()))
 else some (Sum.inl ()))
 fun o=>
 Sum.elim
 (fun (_z:Unit)=>
 bif decide (x.1.1=8) then some (true,())
 else
 bif decide (x.1.1=11) then some (true,())
 else some (decide (x.1.1=16),()))
 some o)
 some o
def UE:Sig:=⟨Ya,Wl,Ae⟩
def ZJ:Env:=mkE ak 160 [(38,[S38]),(58,[S58]),(82,[S82]),(126,[nV]),(127,[sW]),(129,[vV]),(130,[Jg]),(131,[Jf]),(162,[Um]),(163,[Ul]),(164,[Uk]),(165,[Uj]),(166,[Ui])] [(3,⟨[],[1],[.site 1000]++hL (.fld 1000) 0 17⟩),(29,⟨[],[1],[.site 1000]++hL (.fld 1000) 0 17⟩)] []
theorem zdF x:aj ZJ Tryz.f125 Ya Wl x=Ae x:=by kernel_rfl
def F81 (x:mi×Unit):Option (Bool×Unit):=
 (Ae x.1.2.2).bind fun b=>
 bif !b.1 then some (false,())
 else
 bif decide (x.1.1=0) then
 bif decide (x.1.2.1=0) then some (decide (8≤x.1.2.2.1.1),())
 else some (false,())
 else
 (iV (x.1.1,1,31,())).bind fun b=>
 bif b.1 then
 (gV (x.1.2.1,())).bind fun b=>
 bif b.1 then some (decide (x.1.2.2.1.1 < 8),()) else some (false,())
 else some (false,())
def S81:Sig:=⟨P81,R81,F81⟩
def E81:Env:=mkE ak 33 [(125,[UE]),(126,[nV]),(127,[sW])] [] []
theorem zfk x:aj E81 Tryz.f81 P81 R81 x=F81 x:=by kernel_rfl
def F85 (x:List ae×Int×Unit):Option (Bool×Unit):=
 aZ (Int×Unit) (Bool×Unit)
 (fun (x_1:Int×Unit)=>
 bif decide (x_1.1 < Int.ofNat (List.length x.1)) then
 (idx x.1 x_1.1).bind
 fun b=>
 (F58 (b.1,())).bind fun b=>
 bif !b.1 then some (Sum.inr (false,()))
 else
 (idx x.1 x_1.1).bind
 fun b=>
 (nZ b.2).bind fun b=>
 bif !b.1 then some (Sum.inr (false,()))
 else some (Sum.inl (wrap64 (x_1.1+1),()))
 else some (Sum.inr (decide (Int.ofNat (List.length x.1)≤x.2.1),())))
 big (0,())
def S85:Sig:=⟨P85,R85,F85⟩
def E85:Env:=mkE ak 32 [(58,[S58]),(128,[zg])] [] [(2,bz ⟨[⟨.slot 8,(.int .i64),.pv⟩],[0,1,7],[]⟩)]
theorem zfg x:aj E85 Tryz.f85 P85 R85 x=F85 x:=by kernel_rfl
def F84 (x:List TBD×Unit):Option (Bool×Unit):=
 aZ (Int×Unit) (Bool×Unit)
 (fun (x_1:Int×Unit)=>
 bif decide (x_1.1 < Int.ofNat (List.length x.1)) then
 (idx x.1 x_1.1).bind
 fun b=>
 (F80 (b.1,1,1099511627776,())).bind fun b=>
 bif !b.1 then some (Sum.inr (false,()))
 else
 bif decide (0 < x_1.1) then
 (idx x.1 x_1.1).bind
 fun b=>
 (idx x.1 (wrap64 (x_1.1 - 1))).bind
 fun b_1=>
 bif decide (b.1≤b_1.1) then some (Sum.inr (false,()))
 else
 (idx x.1 x_1.1).bind
 fun b=>
 (F85 (b.2.1,48,())).bind fun b=>
 bif !b.1 then some (Sum.inr (false,()))
 else some (Sum.inl (wrap64 (x_1.1+1),()))
 else
 (idx x.1 x_1.1).bind
 fun b=>
 (F85 (b.2.1,48,())).bind fun b=>
 bif !b.1 then some (Sum.inr (false,()))
 else some (Sum.inl (wrap64 (x_1.1+1),()))
 else some (Sum.inr (decide (Int.ofNat (List.length x.1)≤64),())))
 big (0,())
def S84:Sig:=⟨P84,R84,F84⟩
def E84:Env:=mkE ak 47 [(80,[S80]),(85,[S85])] [] [(2,bz ⟨[⟨.slot 6,(.int .i64),.pv⟩],[0,5],[]⟩)]
theorem zfh x:aj E84 Tryz.f84 P84 R84 x=F84 x:=by kernel_rfl
def F86 (x:dO×Unit):Option (Bool×Unit):=
 (wU (x.1,(0,0,[],[],()),())).bind fun b=>some b
def S86:Sig:=⟨P86,R86,F86⟩
def E86:Env:=mkE ak 6 [(120,[Jh])] [] []
theorem zff x:aj E86 Tryz.f86 P86 R86 x=F86 x:=by kernel_rfl
def F87 (x:dO×Unit):Option (Bool×Unit):=
 (gV (x.1.1,())).bind fun b=>
 bif b.1 then
 (ji (x.1.2.1,())).bind fun b=>
 bif b.1 then
 (tJ (x.1.2.2.1,15,())).bind fun b=>
 bif b.1 then (tH x.1.2.2.2).bind fun b=>some b
 else some (false,())
 else some (false,())
 else some (false,())
def S87:Sig:=⟨P87,R87,F87⟩
def E87:Env:=mkE ak 21 [(127,[sW]),(129,[vV]),(130,[Jg]),(131,[Jf])] [] []
theorem zfe x:aj E87 Tryz.f87 P87 R87 x=F87 x:=by kernel_rfl
def F88 (x:aH×Unit):Option (Bool×Unit):=
 (iV (x.1.1,0,4,())).bind fun b=>
 bif b.1 then
 (ji (x.1.2.1,())).bind fun b=>
 bif b.1 then
 (ji (x.1.2.2.1,())).bind fun b=>
 bif b.1 then
 (ji (x.1.2.2.2.2.2.1,())).bind fun b=>
 bif b.1 then
 (ji (x.1.2.2.2.2.2.2.2.1,())).bind fun b=>
 bif b.1 then
 (ji (x.1.2.2.2.2.2.2.2.2.1,())).bind
 fun b=>
 bif b.1 then
 (ji x.1.2.2.2.2.2.2.2.2.2).bind fun b=>
 bif b.1 then
 bif decide (x.1.2.2.2.1=[]) then
 bif decide (x.1.2.2.2.2.1=[]) then
 bif decide (x.1.2.2.2.2.2.2.1=[]) then some (true,())
 else
 (F58 (x.1.2.2.2.2.2.2.1,())).bind
 fun b=>some b
 else
 (F38 (x.1.2.2.2.2.1,())).bind fun b=>
 bif b.1 then
 bif decide (x.1.2.2.2.2.2.2.1=[]) then some (true,())
 else
 (F58 (x.1.2.2.2.2.2.2.1,())).bind
 fun b=>some b
 else some (false,())
 else
 (F38 (x.1.2.2.2.1,())).bind fun b=>
 bif b.1 then
 bif decide (x.1.2.2.2.2.1=[]) then
 bif decide (x.1.2.2.2.2.2.2.1=[]) then some (true,())
 else
 (F58 (x.1.2.2.2.2.2.2.1,())).bind
 fun b=>some b
 else
 (F38 (x.1.2.2.2.2.1,())).bind
 fun b=>
 bif b.1 then
 bif decide (x.1.2.2.2.2.2.2.1=[]) then
 some (true,())
 else
 (F58 (x.1.2.2.2.2.2.2.1,())).bind
 fun b=>some b
 else some (false,())
 else some (false,())
 else some (false,())
 else some (false,())
 else some (false,())
 else some (false,())
 else some (false,())
 else some (false,())
 else some (false,())
def S88:Sig:=⟨P88,R88,F88⟩
def E88:Env:=mkE ak 66 [(38,[S38]),(58,[S58]),(126,[nV]),(129,[vV])] [] []
theorem zfd x:aj E88 Tryz.f88 P88 R88 x=F88 x:=by kernel_rfl
def F53 (x:TMD×Unit):Option (Bool×Unit):=
 bif decide (x.1.1 < 1) then some (false,())
 else
 bif decide (12 < x.1.1) then some (false,())
 else
 (F78 x).bind
 fun b=>
 (F77 (b.1,x)).bind fun b=>
 bif !b.1 then some (false,())
 else
 bif decide (x.1.1=1) then
 (F79 (x.1.2.2.1,())).bind fun b=>some b
 else
 (F80 (x.1.2.1,1,1099511627776,())).bind fun b=>
 bif !b.1 then some (false,())
 else
 (F80 (x.1.2.2.2.2.1,0,31,())).bind fun b=>
 bif !b.1 then some (false,())
 else
 (F80 (x.1.2.2.2.2.2.2.2.2.2.1,0,15,())).bind
 fun b=>
 bif !b.1 then some (false,())
 else
 bif decide (x.1.1=2) then
 (F81 (x.1.2.2.2.1,())).bind fun b=>some b
 else
 bif decide (x.1.1=3) then
 Option.bind
 (F82 (x.1.2.2.2.2.2.1,x.1.2.2.2.2.2.2.1,()))
 fun b=>
 bif b.1 then
 Option.bind
 (F80 (x.1.2.2.2.2.2.2.2.1,0,1099511627776,()))
 fun b=>
 bif b.1 then
 (F80 (x.1.2.2.2.2.2.2.2.2.1,0,8,())).bind
 fun b=>some b
 else some (false,())
 else some (false,())
 else
 bif decide (x.1.1=4) then
 Option.bind
 (F82 (x.1.2.2.2.2.2.1,x.1.2.2.2.2.2.2.1,()))
 fun b=>
 bif b.1 then
 Option.bind
 (F80 (x.1.2.2.2.2.2.2.2.1,1,1099511627776,()))
 fun b=>some b
 else some (false,())
 else
 bif decide (x.1.1=5) then
 (F38 (x.1.2.2.2.2.2.1,())).bind
 fun b=>
 bif b.1 then
 bif decide (x.1.2.2.2.2.2.2.1=[]) then
 Option.bind
 (F80 (x.1.2.2.2.2.2.2.2.1,1,1099511627776,()))
 fun b=>some b
 else
 (F58 (x.1.2.2.2.2.2.2.1,())).bind
 fun b=>
 bif b.1 then
 Option.bind
 (F80
 (x.1.2.2.2.2.2.2.2.1,1,1099511627776,()))
 fun b=>some b
 else some (false,())
 else some (false,())
 else
 bif decide (x.1.1=6) then
 Option.bind
 (F80 (x.1.2.2.2.2.2.2.2.1,1,1099511627776,()))
 fun b=>some b
 else
 bif decide (x.1.1=8) then
 Option.bind
 (F80 (x.1.2.2.2.2.2.2.2.2.2.2.1,-1,2,()))
 fun b=>
 bif b.1 then
 Option.bind
 (F83 (x.1.2.2.2.2.2.2.2.2.2.2.2.1,()))
 fun b=>some b
 else some (false,())
 else
 bif decide (x.1.1=9) then
 Option.bind
 (F80 (x.1.2.2.2.2.2.2.2.1,0,1099511627777,()))
 fun b=>
 bif b.1 then
 Option.bind
 (F84
 (x.1.2.2.2.2.2.2.2.2.2.2.2.2.1,()))
 fun b=>some b
 else some (false,())
 else
 bif decide (x.1.1=10) then
 Option.bind
 (F85
 (x.1.2.2.2.2.2.2.2.2.2.2.2.2.2.1,8,
 ()))
 fun b=>some b
 else
 bif decide (x.1.1=11) then
 Option.bind
 (F86
 (x.1.2.2.2.2.2.2.2.2.2.2.2.2.2.2.2.1,
 ()))
 fun b=>
 bif b.1 then some (true,())
 else
 Option.bind
 (F87
 (x.1.2.2.2.2.2.2.2.2.2.2.2.2.2.2.2.1,
 ()))
 fun b=>some b
 else
 bif decide (x.1.1=12) then
 Option.bind
 (F80
 (x.1.2.2.2.2.2.2.2.1,0,1099511627776,()))
 fun b=>
 bif b.1 then
 Option.bind
 (F88
 x.1.2.2.2.2.2.2.2.2.2.2.2.2.2.2.2.2)
 fun b=>some b
 else some (false,())
 else some (true,())
def S53:Sig:=⟨P53,R53,F53⟩
def E53:Env:=mkE ak 146 [(38,[S38]),(58,[S58]),(77,[S77]),(78,[S78]),(79,[S79]),(80,[S80]),(81,[S81]),(82,[S82]),(83,[S83]),(84,[S84]),(85,[S85]),(86,[S86]),(87,[S87]),(88,[S88])] [] []
theorem zfM x:aj E53 Tryz.f53 P53 R53 x=F53 x:=by kernel_rfl
def F28 (x:pq×TMD×Unit):Option (pq×nU×Int×Unit):=
 bif x.1.2.2.2.2.2.2.2.1 then
 some
 (x.1,
 (0,0,
 zT,
 ()),
 7,())
 else
 bif decide (x.2.1.1 < 2) then
 some
 (x.1,
 (0,0,
 zT,
 ()),
 1,())
 else
 bif decide (7 < x.2.1.1) then
 some
 (x.1,
 (0,0,
 zT,
 ()),
 1,())
 else
 Option.bind
 (F53
 ((x.2.1.1,wrap64 (x.1.2.2.2.2.1+1),x.2.1.2.2),()))
 fun b=>
 bif !b.1 then
 some
 (x.1,
 (0,0,
 zT,
 ()),
 1,())
 else
 Option.bind
 (F50
 ((x.1.1,x.1.2.1,x.1.2.2.1,x.1.2.2.2.1,
 wrap64 (x.1.2.2.2.2.1+1),x.1.2.2.2.2.2.1,0,true,
 false,(x.2.1.1,wrap64 (x.1.2.2.2.2.1+1),x.2.1.2.2),
 ()),
 ()))
 fun b=>
 some
 ((x.1.1,x.1.2.1,x.1.2.2.1,x.1.2.2.2.1,
 wrap64 (x.1.2.2.2.2.1+1),x.1.2.2.2.2.2.1,0,true,
 false,(x.2.1.1,wrap64 (x.1.2.2.2.2.1+1),x.2.1.2.2),
 ()),
 b.1,0,())
def S28:Sig:=⟨P28,R28,F28⟩
def E28:Env:=mkE ak 41 [(50,[S50]),(53,[S53])] [] []
theorem zgb x:aj E28 Tryz.f28 P28 R28 x=F28 x:=by kernel_rfl
def F10 (x:fU×Unit):Option (fU×List nU×Unit):=
 aZ
 (Int×Int×List UInt8×List UInt8×Int×((Int×Int×Int×Int×Int×Int×Int×Bool×Bool×(Int×Int×(Int×Int×Int×Int×Int×Int×Int×Int×Bool×List az×az×Unit)×(Int×Int×(Int×List UInt8×List UInt8×List UInt8×Int×Int×Int×List aN×List ax×List ax×Int×Int×Int×Bool×List ae×List (Int×Int×(Int×Int×Bool×Int×List ae×ai)×Unit)×List ay×Unit)×Unit)×Int×List UInt8×List UInt8×Int×Int×Int×Int×(Int×Int×Bool×Int×List ae×ai)×List (Int×List ae×Unit)×List ae×Bool×(Int×Int×List (Int×Int×(Int×Int×Bool×Int×List ae×ai)×Unit)×List ay×Unit)×aH×Unit)×Unit)×(Int×Int×Int×Int×Int×Int×Int×Bool×Bool×(Int×Int×(Int×Int×Int×Int×Int×Int×Int×Int×Bool×List az×az×Unit)×(Int×Int×(Int×List UInt8×List UInt8×List UInt8×Int×Int×Int×List aN×List ax×List ax×Int×Int×Int×Bool×List ae×List (Int×Int×(Int×Int×Bool×Int×List ae×ai)×Unit)×List ay×Unit)×Unit)×Int×List UInt8×List UInt8×Int×Int×Int×Int×(Int×Int×Bool×Int×List ae×ai)×List (Int×List ae×Unit)×List ae×Bool×(Int×Int×List (Int×Int×(Int×Int×Bool×Int×List ae×ai)×Unit)×List ay×Unit)×aH×Unit)×Unit)×Unit)×(Int×Int×(Int×Int×Int×Int×Int×Int×Int×Int×Bool×List az×az×Unit)×(Int×Int×(Int×List UInt8×List UInt8×List UInt8×Int×Int×Int×List aN×List ax×List ax×Int×Int×Int×Bool×List ae×List (Int×Int×(Int×Int×Bool×Int×List ae×ai)×Unit)×List ay×Unit)×Unit)×Int×List UInt8×List UInt8×Int×Int×Int×Int×(Int×Int×Bool×Int×List ae×ai)×List (Int×List ae×Unit)×List ae×Bool×(Int×Int×List (Int×Int×(Int×Int×Bool×Int×List ae×ai)×Unit)×List ay×Unit)×aH×Unit)×Bool×aH×Int×Bool×Bool×List ae×Bool×List ae×Int×Bool×Bool×Bool×(Int×Int×List (Int×Int×(Int×Int×Bool×Int×List ae×ai)×Unit)×List ay×Unit)×Bool×((Int×Int×Int×Int×Int×Int×Int×Bool×Bool×(Int×Int×(Int×Int×Int×Int×Int×Int×Int×Int×Bool×List az×az×Unit)×(Int×Int×(Int×List UInt8×List UInt8×List UInt8×Int×Int×Int×List aN×List ax×List ax×Int×Int×Int×Bool×List ae×List (Int×Int×(Int×Int×Bool×Int×List ae×ai)×Unit)×List ay×Unit)×Unit)×Int×List UInt8×List UInt8×Int×Int×Int×Int×(Int×Int×Bool×Int×List ae×ai)×List (Int×List ae×Unit)×List ae×Bool×(Int×Int×List (Int×Int×(Int×Int×Bool×Int×List ae×ai)×Unit)×List ay×Unit)×aH×Unit)×Unit)×(Int×Int×Int×Int×Int×Int×Int×Bool×Bool×(Int×Int×(Int×Int×Int×Int×Int×Int×Int×Int×Bool×List az×az×Unit)×(Int×Int×(Int×List UInt8×List UInt8×List UInt8×Int×Int×Int×List aN×List ax×List ax×Int×Int×Int×Bool×List ae×List (Int×Int×(Int×Int×Bool×Int×List ae×ai)×Unit)×List ay×Unit)×Unit)×Int×List UInt8×List UInt8×Int×Int×Int×Int×(Int×Int×Bool×Int×List ae×ai)×List (Int×List ae×Unit)×List ae×Bool×(Int×Int×List (Int×Int×(Int×Int×Bool×Int×List ae×ai)×Unit)×List ay×Unit)×aH×Unit)×Unit)×Unit)×Unit)
 ((Int×List UInt8×List UInt8×Int×((Int×Int×Int×Int×Int×Int×Int×Bool×Bool×(Int×Int×(Int×Int×Int×Int×Int×Int×Int×Int×Bool×List az×az×Unit)×(Int×Int×(Int×List UInt8×List UInt8×List UInt8×Int×Int×Int×List aN×List ax×List ax×Int×Int×Int×Bool×List ae×List (Int×Int×(Int×Int×Bool×Int×List ae×ai)×Unit)×List ay×Unit)×Unit)×Int×List UInt8×List UInt8×Int×Int×Int×Int×(Int×Int×Bool×Int×List ae×ai)×List (Int×List ae×Unit)×List ae×Bool×(Int×Int×List (Int×Int×(Int×Int×Bool×Int×List ae×ai)×Unit)×List ay×Unit)×aH×Unit)×Unit)×(Int×Int×Int×Int×Int×Int×Int×Bool×Bool×(Int×Int×(Int×Int×Int×Int×Int×Int×Int×Int×Bool×List az×az×Unit)×(Int×Int×(Int×List UInt8×List UInt8×List UInt8×Int×Int×Int×List aN×List ax×List ax×Int×Int×Int×Bool×List ae×List (Int×Int×(Int×Int×Bool×Int×List ae×ai)×Unit)×List ay×Unit)×Unit)×Int×List UInt8×List UInt8×Int×Int×Int×Int×(Int×Int×Bool×Int×List ae×ai)×List (Int×List ae×Unit)×List ae×Bool×(Int×Int×List (Int×Int×(Int×Int×Bool×Int×List ae×ai)×Unit)×List ay×Unit)×aH×Unit)×Unit)×Unit)×(Int×Int×(Int×Int×Int×Int×Int×Int×Int×Int×Bool×List az×az×Unit)×(Int×Int×(Int×List UInt8×List UInt8×List UInt8×Int×Int×Int×List aN×List ax×List ax×Int×Int×Int×Bool×List ae×List (Int×Int×(Int×Int×Bool×Int×List ae×ai)×Unit)×List ay×Unit)×Unit)×Int×List UInt8×List UInt8×Int×Int×Int×Int×(Int×Int×Bool×Int×List ae×ai)×List (Int×List ae×Unit)×List ae×Bool×(Int×Int×List (Int×Int×(Int×Int×Bool×Int×List ae×ai)×Unit)×List ay×Unit)×aH×Unit)×Bool×aH×Int×Bool×Bool×List ae×Bool×List ae×Int×Bool×Bool×Bool×(Int×Int×List (Int×Int×(Int×Int×Bool×Int×List ae×ai)×Unit)×List ay×Unit)×Bool×Unit)×List (Int×Int×(Int×Int×(Int×Int×Int×Int×Int×Int×Int×Int×Bool×List az×az×Unit)×(Int×Int×(Int×List UInt8×List UInt8×List UInt8×Int×Int×Int×List aN×List ax×List ax×Int×Int×Int×Bool×List ae×List (Int×Int×(Int×Int×Bool×Int×List ae×ai)×Unit)×List ay×Unit)×Unit)×Int×List UInt8×List UInt8×Int×Int×Int×Int×(Int×Int×Bool×Int×List ae×ai)×List (Int×List ae×Unit)×List ae×Bool×(Int×Int×List (Int×Int×(Int×Int×Bool×Int×List ae×ai)×Unit)×List ay×Unit)×aH×Unit)×Unit)×Unit)
 (fun (x_1 :
 Int×Int×List UInt8×List UInt8×Int×((Int×Int×Int×Int×Int×Int×Int×Bool×Bool×(Int×Int×(Int×Int×Int×Int×Int×Int×Int×Int×Bool×List az×az×Unit)×(Int×Int×(Int×List UInt8×List UInt8×List UInt8×Int×Int×Int×List aN×List ax×List ax×Int×Int×Int×Bool×List ae×List (Int×Int×(Int×Int×Bool×Int×List ae×ai)×Unit)×List ay×Unit)×Unit)×Int×List UInt8×List UInt8×Int×Int×Int×Int×(Int×Int×Bool×Int×List ae×ai)×List (Int×List ae×Unit)×List ae×Bool×(Int×Int×List (Int×Int×(Int×Int×Bool×Int×List ae×ai)×Unit)×List ay×Unit)×aH×Unit)×Unit)×(Int×Int×Int×Int×Int×Int×Int×Bool×Bool×(Int×Int×(Int×Int×Int×Int×Int×Int×Int×Int×Bool×List az×az×Unit)×(Int×Int×(Int×List UInt8×List UInt8×List UInt8×Int×Int×Int×List aN×List ax×List ax×Int×Int×Int×Bool×List ae×List (Int×Int×(Int×Int×Bool×Int×List ae×ai)×Unit)×List ay×Unit)×Unit)×Int×List UInt8×List UInt8×Int×Int×Int×Int×(Int×Int×Bool×Int×List ae×ai)×List (Int×List ae×Unit)×List ae×Bool×(Int×Int×List (Int×Int×(Int×Int×Bool×Int×List ae×ai)×Unit)×List ay×Unit)×aH×Unit)×Unit)×Unit)×(Int×Int×(Int×Int×Int×Int×Int×Int×Int×Int×Bool×List az×az×Unit)×(Int×Int×(Int×List UInt8×List UInt8×List UInt8×Int×Int×Int×List aN×List ax×List ax×Int×Int×Int×Bool×List ae×List (Int×Int×(Int×Int×Bool×Int×List ae×ai)×Unit)×List ay×Unit)×Unit)×Int×List UInt8×List UInt8×Int×Int×Int×Int×(Int×Int×Bool×Int×List ae×ai)×List (Int×List ae×Unit)×List ae×Bool×(Int×Int×List (Int×Int×(Int×Int×Bool×Int×List ae×ai)×Unit)×List ay×Unit)×aH×Unit)×Bool×aH×Int×Bool×Bool×List ae×Bool×List ae×Int×Bool×Bool×Bool×(Int×Int×List (Int×Int×(Int×Int×Bool×Int×List ae×ai)×Unit)×List ay×Unit)×Bool×((Int×Int×Int×Int×Int×Int×Int×Bool×Bool×(Int×Int×(Int×Int×Int×Int×Int×Int×Int×Int×Bool×List az×az×Unit)×(Int×Int×(Int×List UInt8×List UInt8×List UInt8×Int×Int×Int×List aN×List ax×List ax×Int×Int×Int×Bool×List ae×List (Int×Int×(Int×Int×Bool×Int×List ae×ai)×Unit)×List ay×Unit)×Unit)×Int×List UInt8×List UInt8×Int×Int×Int×Int×(Int×Int×Bool×Int×List ae×ai)×List (Int×List ae×Unit)×List ae×Bool×(Int×Int×List (Int×Int×(Int×Int×Bool×Int×List ae×ai)×Unit)×List ay×Unit)×aH×Unit)×Unit)×(Int×Int×Int×Int×Int×Int×Int×Bool×Bool×(Int×Int×(Int×Int×Int×Int×Int×Int×Int×Int×Bool×List az×az×Unit)×(Int×Int×(Int×List UInt8×List UInt8×List UInt8×Int×Int×Int×List aN×List ax×List ax×Int×Int×Int×Bool×List ae×List (Int×Int×(Int×Int×Bool×Int×List ae×ai)×Unit)×List ay×Unit)×Unit)×Int×List UInt8×List UInt8×Int×Int×Int×Int×(Int×Int×Bool×Int×List ae×ai)×List (Int×List ae×Unit)×List ae×Bool×(Int×Int×List (Int×Int×(Int×Int×Bool×Int×List ae×ai)×Unit)×List ay×Unit)×aH×Unit)×Unit)×Unit)×Unit)=>
 bif decide (x_1.1 < 2) then
 Option.bind (jZ 2 x_1.1) fun b=>
 Option.bind
 (bif Nat.beq b 0 then
 some
 x_1.2.2.2.2.2.2.2.2.2.2.2.2.2.2.2.2.2.2.2.2.2.1.1.2.2.2.2.2.2.2.1
 else
 bif Nat.beq b (0+1) then
 some
 x_1.2.2.2.2.2.2.2.2.2.2.2.2.2.2.2.2.2.2.2.2.2.1.2.1.2.2.2.2.2.2.2.1
 else none)
 fun b=>
 bif b then
 Option.bind (jZ 2 x_1.1) fun b=>
 Option.bind
 (bif Nat.beq b 0 then
 some x_1.2.2.2.2.2.2.2.2.2.2.2.2.2.2.2.2.2.2.2.2.2.1.1
 else
 bif Nat.beq b (0+1) then
 some
 x_1.2.2.2.2.2.2.2.2.2.2.2.2.2.2.2.2.2.2.2.2.2.1.2.1
 else none)
 fun b=>
 (F26 (b,())).bind
 fun b=>
 Option.bind (jZ 2 x_1.1) fun b_1=>
 Option.bind
 (bif Nat.beq b_1 0 then
 some
 (b.1,
 x_1.2.2.2.2.2.2.2.2.2.2.2.2.2.2.2.2.2.2.2.2.2.1.2)
 else
 bif Nat.beq b_1 (0+1) then
 some
 (x_1.2.2.2.2.2.2.2.2.2.2.2.2.2.2.2.2.2.2.2.2.2.1.1,
 b.1,
 x_1.2.2.2.2.2.2.2.2.2.2.2.2.2.2.2.2.2.2.2.2.2.1.2.2)
 else none)
 fun b_2=>
 some
 (Sum.inr
 ((x.1.1,x.1.2.1,x.1.2.2.1,x.1.2.2.2.1,b_2,
 x.1.2.2.2.2.2),
 b.2))
 else some (Sum.inl (wrap64 (x_1.1+1),x_1.2))
 else
 Option.map Sum.inr
 (Option.bind
 (F27
 ((x.1.1,x.1.2.1,x.1.2.2.1,x.1.2.2.2.1,
 x_1.2.2.2.2.2.2.2.2.2.2.2.2.2.2.2.2.2.2.2.2.2.1,
 x.1.2.2.2.2.2),
 ()))
 fun b=>
 bif decide (b.1.1=0) then
 some
 ((x.1.1,x.1.2.1,x.1.2.2.1,x.1.2.2.2.1,
 x_1.2.2.2.2.2.2.2.2.2.2.2.2.2.2.2.2.2.2.2.2.2.1,
 x.1.2.2.2.2.2),
 [],())
 else
 Option.bind (jZ 2 b.2.1) fun b_1=>
 Option.bind
 (bif Nat.beq b_1 0 then
 some x_1.2.2.2.2.2.2.2.2.2.2.2.2.2.2.2.2.2.2.2.2.2.1.1
 else
 bif Nat.beq b_1 (0+1) then
 some
 x_1.2.2.2.2.2.2.2.2.2.2.2.2.2.2.2.2.2.2.2.2.2.1.2.1
 else none)
 fun b_2=>
 (F28 (b_2,b.1,())).bind
 fun b_3=>
 bif !decide (b_3.2.2.1=0) then
 some
 ((x.1.1,x.1.2.1,x.1.2.2.1,x.1.2.2.2.1,
 x_1.2.2.2.2.2.2.2.2.2.2.2.2.2.2.2.2.2.2.2.2.2.1,
 x.1.2.2.2.2.2),
 [],())
 else
 Option.bind (jZ 2 b.2.1) fun b_4=>
 Option.bind
 (bif Nat.beq b_4 0 then
 some
 (b_3.1,
 x_1.2.2.2.2.2.2.2.2.2.2.2.2.2.2.2.2.2.2.2.2.2.1.2)
 else
 bif Nat.beq b_4 (0+1) then
 some
 (x_1.2.2.2.2.2.2.2.2.2.2.2.2.2.2.2.2.2.2.2.2.2.1.1,
 b_3.1,
 x_1.2.2.2.2.2.2.2.2.2.2.2.2.2.2.2.2.2.2.2.2.2.1.2.2)
 else none)
 fun b_5=>
 some
 ((x.1.1,x.1.2.1,x.1.2.2.1,x.1.2.2.2.1,b_5,b.1,
 x.1.2.2.2.2.2.2),
 [b_3.2.1],())))
 big
 (0,0,[],[],0,
 ((0,0,0,0,0,0,0,false,false,
 zT,
 ()),
 (0,0,0,0,0,0,0,false,false,
 zT,
 ()),
 ()),
 zT,
 false,zV,0,false,false,[],false,[],0,false,false,false,
 (0,0,[],[],()),false,x.1.2.2.2.2.1,())
def S10:Sig:=⟨P10,R10,F10⟩
def E10:Env:=mkE ak 66 [(26,[S26]),(27,[S27]),(28,[S28])] [] [(2,bz ⟨[⟨.slot 12,(.int .i64),.pv⟩,⟨.fld 2000 0,(.int .i64),.pv⟩,⟨.fld 2000 1,.str,.pv⟩,⟨.fld 2000 2,.str,.pv⟩,⟨.fld 2000 3,(.int .i64),.pv⟩,⟨.fld 2000 4,Y59,.pv⟩,⟨.fld 2000 5,TM,.pv⟩,⟨.fld 2000 6,.bool,.pv⟩,⟨.fld 2000 7,T53,.pv⟩,⟨.fld 2000 8,(.int .i64),.pv⟩,⟨.fld 2000 9,.bool,.pv⟩,⟨.fld 2000 10,.bool,.pv⟩,⟨.fld 2000 11,(.slice T70),.own false⟩,⟨.fld 2000 12,.bool,.pv⟩,⟨.fld 2000 13,(.slice T70),.own false⟩,⟨.fld 2000 14,(.int .i64),.pv⟩,⟨.fld 2000 15,.bool,.pv⟩,⟨.fld 2000 16,.bool,.pv⟩,⟨.fld 2000 17,.bool,.pv⟩,⟨.fld 2000 18,T55,.pv⟩,⟨.fld 2000 19,.bool,.pv⟩,⟨.fld 1000 4,Y59,.pv⟩],[1,2],[.site 2000,.site 1000]++hL (.fld 1000) 0 4++hL (.fld 1000) 5 15⟩)]
theorem zgt x:aj E10 Tryz.f10 P10 R10 x=F10 x:=by kernel_rfl
def F11 (x:fU×vT×Unit):Option (vT×Unit):=
 aZ
 (Int×Int×(Int×Int×(Int×Int×Int×Int×Int×Int×Int×Int×Bool×List az×az×Unit)×(Int×Int×(Int×List UInt8×List UInt8×List UInt8×Int×Int×Int×List aN×List ax×List ax×Int×Int×Int×Bool×List ae×List (Int×Int×(Int×Int×Bool×Int×List ae×ai)×Unit)×List ay×Unit)×Unit)×Int×List UInt8×List UInt8×Int×Int×Int×Int×(Int×Int×Bool×Int×List ae×ai)×List (Int×List ae×Unit)×List ae×Bool×(Int×Int×List (Int×Int×(Int×Int×Bool×Int×List ae×ai)×Unit)×List ay×Unit)×aH×Unit)×Unit)
 ((UInt8×Int×Int×(Int×Int×(Int×Int×Int×Int×Int×Int×Int×Int×Bool×List az×az×Unit)×(Int×Int×(Int×List UInt8×List UInt8×List UInt8×Int×Int×Int×List aN×List ax×List ax×Int×Int×Int×Bool×List ae×List (Int×Int×(Int×Int×Bool×Int×List ae×ai)×Unit)×List ay×Unit)×Unit)×Int×List UInt8×List UInt8×Int×Int×Int×Int×(Int×Int×Bool×Int×List ae×ai)×List (Int×List ae×Unit)×List ae×Bool×(Int×Int×List (Int×Int×(Int×Int×Bool×Int×List ae×ai)×Unit)×List ay×Unit)×aH×Unit)×Unit)×Unit)
 (fun (x_1 :
 Int×Int×(Int×Int×(Int×Int×Int×Int×Int×Int×Int×Int×Bool×List az×az×Unit)×(Int×Int×(Int×List UInt8×List UInt8×List UInt8×Int×Int×Int×List aN×List ax×List ax×Int×Int×Int×Bool×List ae×List (Int×Int×(Int×Int×Bool×Int×List ae×ai)×Unit)×List ay×Unit)×Unit)×Int×List UInt8×List UInt8×Int×Int×Int×Int×(Int×Int×Bool×Int×List ae×ai)×List (Int×List ae×Unit)×List ae×Bool×(Int×Int×List (Int×Int×(Int×Int×Bool×Int×List ae×ai)×Unit)×List ay×Unit)×aH×Unit)×Unit)=>
 bif decide (x_1.1 < 2) then
 Option.bind (jZ 2 x_1.1) fun b=>
 Option.bind
 (bif Nat.beq b 0 then some x.1.2.2.2.2.1.1
 else bif Nat.beq b (0+1) then some x.1.2.2.2.2.1.2.1 else none)
 fun b=>
 bif b.2.2.2.2.2.2.2.1 then
 some
 (Sum.inl
 (wrap64 (x_1.1+1),
 wrap64 (wrap64 (4*b.2.1)+b.2.2.2.2.2.1),
 (x_1.2.2.1.1,b.2.2.2.2.1,x_1.2.2.1.2.2),()))
 else some (Sum.inl (wrap64 (x_1.1+1),x_1.2))
 else some (Sum.inr ((x.2.1.1,x_1.2.1,x.2.1.2.2.1,x_1.2.2),())))
 big (0,x.2.1.2.1,x.2.1.2.2.2)
def S11:Sig:=⟨P11,R11,F11⟩
def E11:Env:=mkE ak 29 [] [] [(2,bz ⟨[⟨.slot 7,(.int .i64),.pv⟩,⟨.fld 2000 1,(.int .i64),.pv⟩,⟨.fld 2000 3,TM,.pv⟩],[2,3,4],[.site 3000]++hL (.fld 3000) 0 4++[.site 2000,.fld 2000 0,.fld 2000 2,.site 1000]++hL (.fld 1000) 0 20⟩)]
theorem zgs x:aj E11 Tryz.f11 P11 R11 x=F11 x:=by kernel_rfl
def F29 (x:kK×Int×TMD×Unit):Option (TMD×Bool×kK×Unit):=
 bif !x.1.2.2.2.2.2.2.2.1 then
 some
 (zT,
 false,x.1,())
 else
 bif decide (x.2.1 < wrap64 (4*x.1.2.1)) then
 some
 (zT,
 false,x.1,())
 else
 bif
 decide
 (wrap64 (wrap64 (4*x.1.2.1)+x.1.2.2.1)≤
 x.2.1) then
 some
 (zT,
 false,x.1,())
 else
 bif !decide (x.2.2.1.2.1=x.1.2.2.2.2.1) then
 some
 (zT,
 false,x.1,())
 else
 (F47 (x.1.2.2.2.2.2.2.2.2.1.1,())).bind fun b=>
 bif !decide (x.2.2.1.1=b.1) then
 some
 (zT,
 false,x.1,())
 else
 (F48 x.2.2).bind fun b=>
 bif !b.1 then
 some
 (zT,
 false,x.1,())
 else
 bif decide (x.2.2.1.1=8) then
 bif decide (x.2.2.1.2.2.2.2.2.2.2.2.2.1=14) then
 Option.bind
 (lX (wrap64 (x.1.2.2.2.2.2.1+1)) x.1.2.2.1)
 fun b=>
 Option.bind
 (bif decide (0≤x.2.2.1.2.2.2.2.2.2.2.2.2.2.1) then
 bif
 decide
 (x.2.2.1.2.2.2.2.2.2.2.2.2.2.1 < x.1.2.2.1) then
 some (Sum.inl (x.2.2.1.2.2.2.2.2.2.2.2.2.2.1,()))
 else some (Sum.inl (b,()))
 else some (Sum.inl (b,())))
 fun o=>
 Sum.elim
 (fun (x_1:Int×Unit)=>
 some
 (zT,
 false,
 (x.1.1,x.1.2.1,x.1.2.2.1,x.1.2.2.2.1,
 x.1.2.2.2.2.1,x_1.1,x.1.2.2.2.1,
 x.1.2.2.2.2.2.2.2),
 ()))
 some o
 else
 (F49 x.2.2).bind
 fun b=>
 some
 (b.1,true,
 (x.1.1,x.1.2.1,x.1.2.2.1,x.1.2.2.2.1,
 x.1.2.2.2.2.1,x.1.2.2.2.2.2.1,
 x.1.2.2.2.2.2.2.1,false,x.1.2.2.2.2.2.2.2.2),
 ())
 else
 (F49 x.2.2).bind
 fun b=>
 some
 (b.1,true,
 (x.1.1,x.1.2.1,x.1.2.2.1,x.1.2.2.2.1,
 x.1.2.2.2.2.1,x.1.2.2.2.2.2.1,x.1.2.2.2.2.2.2.1,
 false,x.1.2.2.2.2.2.2.2.2),
 ())
def S29:Sig:=⟨P29,R29,F29⟩
def E29:Env:=mkE ak 117 [(47,[S47]),(48,[S48]),(49,[S49])] [(7,⟨[⟨.fld 0 5,(.int .i64),.pv⟩],[0,6],[.site 0]++hL (.fld 0) 0 5++[.fld 0 6,.fld 0 7,.fld 0 8,.site 2000]++hL (.fld 2000) 0 17⟩)] []
theorem zga x:aj E29 Tryz.f29 P29 R29 x=F29 x:=by kernel_rfl
def F30 (x:dm×TMD×Unit):Option (dm×Unit):=
 bif decide (x.2.1.1=12) then
 some
 ((x.1.1,x.1.2.1,x.1.2.2.1,x.1.2.2.2.1,x.1.2.2.2.2.1,true,
 x.2.1.2.2.2.2.2.2.2.2.2.2.2.2.2.2.2.2.1,
 x.1.2.2.2.2.2.2.2.1,[],[],x.1.2.2.2.2.2.2.2.2.2.2),
 ())
 else
 bif decide (x.1.2.2.2.2.1.2.2.2.1.2.2.1.1=12) then
 some
 ((x.1.1,x.1.2.1,x.1.2.2.1,x.1.2.2.2.1,x.1.2.2.2.2.1,false,
 x.1.2.2.2.2.2.2.1,0,[],[],false,x.1.2.2.2.2.2.2.2.2.2.2.2),
 ())
 else
 some
 ((x.1.1,x.1.2.1,x.1.2.2.1,x.1.2.2.2.1,x.1.2.2.2.2.1,false,
 x.1.2.2.2.2.2.2.1,x.1.2.2.2.2.2.2.2.1,[],[],
 x.1.2.2.2.2.2.2.2.2.2.2),
 ())
def S30:Sig:=⟨P30,R30,F30⟩
def E30:Env:=mkE ak 38 [] [] []
theorem zf9 x:aj E30 Tryz.f30 P30 R30 x=F30 x:=by kernel_rfl
def F54 (x:dm×TMD×Unit):Option (dm×Unit):=
 Option.bind
 (aZ (Int×List ae×Int×Unit)
 (List ae×Int×Unit⊕(lw×Int×List (Int×Int×Int×Int×Int×Int×Int×Bool×(Int×Int×(Int×Int×Int×Int×Int×Int×Int×Int×Bool×List az×az×Unit)×(Int×Int×(Int×List UInt8×List UInt8×List UInt8×Int×Int×Int×List aN×List ax×List ax×Int×Int×Int×Bool×List ae×List (Int×Int×(Int×Int×Bool×Int×List ae×ai)×Unit)×List ay×Unit)×Unit)×Int×List UInt8×List UInt8×Int×Int×Int×Int×(Int×Int×Bool×Int×List ae×ai)×List (Int×List ae×Unit)×List ae×Bool×(Int×Int×List (Int×Int×(Int×Int×Bool×Int×List ae×ai)×Unit)×List ay×Unit)×aH×Unit)×Unit)×List (Int×Int×Int×Int×Int×Int×Int×Bool×(Int×Int×(Int×Int×Int×Int×Int×Int×Int×Int×Bool×List az×az×Unit)×(Int×Int×(Int×List UInt8×List UInt8×List UInt8×Int×Int×Int×List aN×List ax×List ax×Int×Int×Int×Bool×List ae×List (Int×Int×(Int×Int×Bool×Int×List ae×ai)×Unit)×List ay×Unit)×Unit)×Int×List UInt8×List UInt8×Int×Int×Int×Int×(Int×Int×Bool×Int×List ae×ai)×List (Int×List ae×Unit)×List ae×Bool×(Int×Int×List (Int×Int×(Int×Int×Bool×Int×List ae×ai)×Unit)×List ay×Unit)×aH×Unit)×Unit)×(Int×Int×(Int×Int×Int×Int×Int×Int×Int×Int×Bool×List az×az×Unit)×(Int×Int×(Int×List UInt8×List UInt8×List UInt8×Int×Int×Int×List aN×List ax×List ax×Int×Int×Int×Bool×List ae×List (Int×Int×(Int×Int×Bool×Int×List ae×ai)×Unit)×List ay×Unit)×Unit)×Int×List UInt8×List UInt8×Int×Int×Int×Int×(Int×Int×Bool×Int×List ae×ai)×List (Int×List ae×Unit)×List ae×Bool×(Int×Int×List (Int×Int×(Int×Int×Bool×Int×List ae×ai)×Unit)×List ay×Unit)×aH×Unit)×Bool×aH×Int×List (List ae×Bool×Unit)×List (List ae×Int×Unit)×Bool×Bool×List (Int×Int×List (Int×Int×(Int×Int×Bool×Int×List ae×ai)×Unit)×List ay×Unit)×Bool×Unit)×Unit)
 (fun (x_1 :
 Int×List ae×Int×Unit)=>
 bif
 decide
 (x_1.1 < Int.ofNat (List.length x.2.1.2.2.2.2.2.2.2.2.2.2.2.2.1)) then
 (idx x.2.1.2.2.2.2.2.2.2.2.2.2.2.2.1 x_1.1).bind
 fun b=>
 bif
 decide
 (64 <
 wrap64
 (Int.ofNat (List.length x_1.2.1)+Int.ofNat (List.length b.2.1))) then
 some (Sum.inr (Sum.inl (x_1.2.1,wrap64 (b.1 - 1),())))
 else
 (fD x_1.2.1 b.2.1).bind
 fun b=>
 some (Sum.inl (wrap64 (x_1.1+1),b,x_1.2.2))
 else some (Sum.inr (Sum.inl x_1.2)))
 big (0,[],wrap64 (x.2.1.2.2.2.2.2.2.2.1 - 1),()))
 fun o=>
 Sum.elim
 (fun (x_1:List ae×Int×Unit)=>
 bif decide (x.1.2.2.2.2.2.2.1.2.2.2.2.2.2.2.1 < x_1.2.1) then
 some
 ((tk9 x.1 ([x_1],x.1.2.2.2.2.2.2.2.2.2.2)),
 ())
 else some (x.1,()))
 some o
def S54:Sig:=⟨P54,R54,F54⟩
def E54:Env:=mkE ak 60 [] [(9,⟨[⟨.fld 1005000 0,(.slice T70),.own false⟩,⟨.fld 1005000 1,(.int .i64),.pv⟩],[0,4],[.site 0]++hL (.fld 0) 0 14++[.row 3,.row 2,.site 1005000]⟩)] [(3,bz ⟨[⟨.slot 15,(.int .i64),.pv⟩,⟨.fld 1005000 0,(.slice T70),.own false⟩,⟨.fld 1005000 1,(.int .i64),.pv⟩],[0,4,13,14],[.site 0]++hL (.fld 0) 0 14++[.row 3,.row 2,.site 1005000]⟩)]
theorem zfL x:aj E54 Tryz.f54 P54 R54 x=F54 x:=by kernel_rfl
def F31 (x:dm×TMD×Unit):Option (dm×Unit):=
 bif decide (x.2.1.1=10) then
 bif decide (x.2.1.2.2.2.2.2.2.2.2.2.1=9) then
 some
 ((x.1.1,x.1.2.1,x.1.2.2.1,x.1.2.2.2.1,x.1.2.2.2.2.1,
 x.1.2.2.2.2.2.1,x.1.2.2.2.2.2.2.1,0,
 x.1.2.2.2.2.2.2.2.2.1,x.1.2.2.2.2.2.2.2.2.2.1,true,
 x.1.2.2.2.2.2.2.2.2.2.2.2),
 ())
 else
 bif !decide (x.2.1.2.2.2.2.2.2.2.2.2.1=0) then some (x.1,())
 else
 bif decide (x.2.1.1=12) then
 some
 ((x.1.1,x.1.2.1,x.1.2.2.1,x.1.2.2.2.1,x.1.2.2.2.2.1,
 x.1.2.2.2.2.2.1,x.1.2.2.2.2.2.2.1,
 fC x.2.1.2.2.2.2.2.2.2.1 1,x.1.2.2.2.2.2.2.2.2),
 ())
 else
 bif decide (x.2.1.1=8) then
 bif decide (x.2.1.2.2.2.2.2.2.2.2.2.2.2.1.1=0) then
 Option.bind
 (bif x.1.2.2.2.2.2.2.2.2.2.2.2.1 then some (Sum.inl (true,()))
 else
 some (Sum.inl (decide (x.1.2.2.2.2.1.2.2.2.1.2.2.1.1=10),())))
 fun o=>
 Sum.elim
 (fun (x_1:Bool×Unit)=>
 bif x.1.2.2.2.2.2.2.2.2.2.2.2.2.2.1 then
 some
 ((aX x.1 (x_1.1,
 x.1.2.2.2.2.2.2.2.2.2.2.2.2.1,true,())),
 ())
 else
 some
 ((aX x.1 (x_1.1,
 x.1.2.2.2.2.2.2.2.2.2.2.2.2.1,
 decide (x.1.2.2.2.2.1.2.2.2.1.2.2.1.1=11),())),
 ()))
 some o
 else
 bif decide (x.2.1.1=10) then
 some
 ((tk8 x.1 ([(x.2.1.2.2.2.2.2.2.2.2.2.2.2.2.2.1,
 x.2.1.2.2.2.2.2.2.2.2.2.2.2.2.2.2.1,())],
 x.1.2.2.2.2.2.2.2.2.2)),
 ())
 else
 bif decide (x.2.1.1=11) then
 some
 ((aW x.1 ([x.2.1.2.2.2.2.2.2.2.2.2.2.2.2.2.2.2.1],
 x.1.2.2.2.2.2.2.2.2.2.2.2.2.2)),
 ())
 else
 bif decide (x.2.1.1=9) then
 (F54 x).bind
 fun b=>
 some b
 else some (x.1,())
 else
 bif decide (x.2.1.1=10) then
 some
 ((tk8 x.1 ([(x.2.1.2.2.2.2.2.2.2.2.2.2.2.2.2.1,
 x.2.1.2.2.2.2.2.2.2.2.2.2.2.2.2.2.1,())],
 x.1.2.2.2.2.2.2.2.2.2)),
 ())
 else
 bif decide (x.2.1.1=11) then
 some
 ((aW x.1 ([x.2.1.2.2.2.2.2.2.2.2.2.2.2.2.2.2.2.1],
 x.1.2.2.2.2.2.2.2.2.2.2.2.2.2)),
 ())
 else
 bif decide (x.2.1.1=9) then
 (F54 x).bind
 fun b=>
 some b
 else some (x.1,())
 else
 bif decide (x.2.1.1=9) then
 bif decide (x.2.1.2.2.2.2.2.2.2.2.2.1=9) then
 some
 ((x.1.1,x.1.2.1,x.1.2.2.1,x.1.2.2.2.1,x.1.2.2.2.2.1,
 x.1.2.2.2.2.2.1,x.1.2.2.2.2.2.2.1,0,
 x.1.2.2.2.2.2.2.2.2.1,x.1.2.2.2.2.2.2.2.2.2.1,true,
 x.1.2.2.2.2.2.2.2.2.2.2.2),
 ())
 else
 bif !decide (x.2.1.2.2.2.2.2.2.2.2.2.1=0) then some (x.1,())
 else
 bif decide (x.2.1.1=12) then
 some
 ((x.1.1,x.1.2.1,x.1.2.2.1,x.1.2.2.2.1,x.1.2.2.2.2.1,
 x.1.2.2.2.2.2.1,x.1.2.2.2.2.2.2.1,
 fC x.2.1.2.2.2.2.2.2.2.1 1,x.1.2.2.2.2.2.2.2.2),
 ())
 else
 bif decide (x.2.1.1=8) then
 bif decide (x.2.1.2.2.2.2.2.2.2.2.2.2.2.1.1=0) then
 Option.bind
 (bif x.1.2.2.2.2.2.2.2.2.2.2.2.1 then some (Sum.inl (true,()))
 else
 some
 (Sum.inl (decide (x.1.2.2.2.2.1.2.2.2.1.2.2.1.1=10),())))
 fun o=>
 Sum.elim
 (fun (x_1:Bool×Unit)=>
 bif x.1.2.2.2.2.2.2.2.2.2.2.2.2.2.1 then
 some
 ((aX x.1 (x_1.1,
 x.1.2.2.2.2.2.2.2.2.2.2.2.2.1,true,())),
 ())
 else
 some
 ((aX x.1 (x_1.1,
 x.1.2.2.2.2.2.2.2.2.2.2.2.2.1,
 decide (x.1.2.2.2.2.1.2.2.2.1.2.2.1.1=11),())),
 ()))
 some o
 else
 bif decide (x.2.1.1=10) then
 some
 ((tk8 x.1 ([(x.2.1.2.2.2.2.2.2.2.2.2.2.2.2.2.1,
 x.2.1.2.2.2.2.2.2.2.2.2.2.2.2.2.2.1,())],
 x.1.2.2.2.2.2.2.2.2.2)),
 ())
 else
 bif decide (x.2.1.1=11) then
 some
 ((aW x.1 ([x.2.1.2.2.2.2.2.2.2.2.2.2.2.2.2.2.2.1],
 x.1.2.2.2.2.2.2.2.2.2.2.2.2.2)),
 ())
 else
 bif decide (x.2.1.1=9) then
 (F54 x).bind
 fun b=>
 some b
 else some (x.1,())
 else
 bif decide (x.2.1.1=10) then
 some
 ((tk8 x.1 ([(x.2.1.2.2.2.2.2.2.2.2.2.2.2.2.2.1,
 x.2.1.2.2.2.2.2.2.2.2.2.2.2.2.2.2.1,())],
 x.1.2.2.2.2.2.2.2.2.2)),
 ())
 else
 bif decide (x.2.1.1=11) then
 some
 ((aW x.1 ([x.2.1.2.2.2.2.2.2.2.2.2.2.2.2.2.2.2.1],
 x.1.2.2.2.2.2.2.2.2.2.2.2.2.2)),
 ())
 else
 bif decide (x.2.1.1=9) then
 (F54 x).bind
 fun b=>
 some b
 else some (x.1,())
 else
 bif !decide (x.2.1.2.2.2.2.2.2.2.2.2.1=0) then some (x.1,())
 else
 bif decide (x.2.1.1=12) then
 some
 ((x.1.1,x.1.2.1,x.1.2.2.1,x.1.2.2.2.1,x.1.2.2.2.2.1,
 x.1.2.2.2.2.2.1,x.1.2.2.2.2.2.2.1,
 fC x.2.1.2.2.2.2.2.2.2.1 1,x.1.2.2.2.2.2.2.2.2),
 ())
 else
 bif decide (x.2.1.1=8) then
 bif decide (x.2.1.2.2.2.2.2.2.2.2.2.2.2.1.1=0) then
 Option.bind
 (bif x.1.2.2.2.2.2.2.2.2.2.2.2.1 then some (Sum.inl (true,()))
 else
 some (Sum.inl (decide (x.1.2.2.2.2.1.2.2.2.1.2.2.1.1=10),())))
 fun o=>
 Sum.elim
 (fun (x_1:Bool×Unit)=>
 bif x.1.2.2.2.2.2.2.2.2.2.2.2.2.2.1 then
 some
 ((aX x.1 (x_1.1,
 x.1.2.2.2.2.2.2.2.2.2.2.2.2.1,true,())),
 ())
 else
 some
 ((aX x.1 (x_1.1,
 x.1.2.2.2.2.2.2.2.2.2.2.2.2.1,
 decide (x.1.2.2.2.2.1.2.2.2.1.2.2.1.1=11),())),
 ()))
 some o
 else
 bif decide (x.2.1.1=10) then
 some
 ((tk8 x.1 ([(x.2.1.2.2.2.2.2.2.2.2.2.2.2.2.2.1,
 x.2.1.2.2.2.2.2.2.2.2.2.2.2.2.2.2.1,())],
 x.1.2.2.2.2.2.2.2.2.2)),
 ())
 else
 bif decide (x.2.1.1=11) then
 some
 ((aW x.1 ([x.2.1.2.2.2.2.2.2.2.2.2.2.2.2.2.2.2.1],
 x.1.2.2.2.2.2.2.2.2.2.2.2.2.2)),
 ())
 else
 bif decide (x.2.1.1=9) then
 (F54 x).bind
 fun b=>
 some b
 else some (x.1,())
 else
 bif decide (x.2.1.1=10) then
 some
 ((tk8 x.1 ([(x.2.1.2.2.2.2.2.2.2.2.2.2.2.2.2.1,
 x.2.1.2.2.2.2.2.2.2.2.2.2.2.2.2.2.1,())],
 x.1.2.2.2.2.2.2.2.2.2)),
 ())
 else
 bif decide (x.2.1.1=11) then
 some
 ((aW x.1 ([x.2.1.2.2.2.2.2.2.2.2.2.2.2.2.2.2.2.1],
 x.1.2.2.2.2.2.2.2.2.2.2.2.2.2)),
 ())
 else
 bif decide (x.2.1.1=9) then
 (F54 x).bind
 fun b=>
 some b
 else some (x.1,())
def S31:Sig:=⟨P31,R31,F31⟩
def E31:Env:=mkE ak 110 [(54,[S54])] [(8,⟨[⟨.fld 0 11,.bool,.pv⟩],[0],[.site 0]++hL (.fld 0) 0 11++[.fld 0 12,.fld 0 13,.row 3,.row 2]⟩)] []
theorem zf8 x:aj E31 Tryz.f31 P31 R31 x=F31 x:=by kernel_rfl
def F12 (x:dm×Int×TMD×Unit):Option (dm×Unit):=
 Option.bind (List.head? x.1.2.2.1)
 fun b=>
 (F29 (b,x.2)).bind
 fun b=>
 bif b.2.1 then
 (F31 ((x.1.1,x.1.2.1,[b.2.2.1],x.1.2.2.2),b.1,())).bind
 fun b=>
 some b
 else
 Option.bind (List.head? x.1.2.2.2.1)
 fun b_1=>
 (F29 (b_1,x.2)).bind
 fun b_2=>
 bif b_2.2.1 then
 Option.bind
 (F30
 ((x.1.1,x.1.2.1,[b.2.2.1],[b_2.2.2.1],x.1.2.2.2.2),b_2.1,
 ()))
 fun b=>
 some b
 else
 some ((x.1.1,x.1.2.1,[b.2.2.1],[b_2.2.2.1],x.1.2.2.2.2),())
def S12:Sig:=⟨P12,R12,F12⟩
def E12:Env:={ tab:=ak,nt:=37,Γ:=nD [(29,[S29]),(30,[S30]),(31,[S31])],joins:=iI [],loops:=iI [],unr:=iI [(3,3)] }
theorem zgr x:aj E12 Tryz.f12 P12 R12 x=F12 x:=by kernel_rfl
def Jt (x:Int×TMD×Unit):Option (Unit):=
 some ()
def UD:Sig:=⟨X5,V9,Jt⟩
def ZE:Env:={ tab:=ak,nt:=37,Γ:=nD [(29,[S29]),(30,[S30]),(31,[S31])],joins:=iI [],loops:=iI [],unr:=iI [(3,3)] }
theorem zdA x:aj ZE Tryz.f12 X5 V9 x=Jt x:=by kernel_rfl
def F32 (x:iO×Unit):Option (iO×Unit):=
 some x
def S32:Sig:=⟨P32,R32,F32⟩
def E32:Env:=mkE ak 4 [] [] []
theorem zf7 x:aj E32 Tryz.f32 P32 R32 x=F32 x:=by kernel_rfl
def F13 (x:TMD×Unit):Option (TMD×Unit):=
 (F32 (x.1.2.2.1,())).bind
 fun b=>
 some ((x.1.1,x.1.2.1,b.1,x.1.2.2.2),())
def S13:Sig:=⟨P13,R13,F13⟩
def E13:Env:=mkE ak 47 [(32,[S32])] [] []
theorem zgq x:aj E13 Tryz.f13 P13 R13 x=F13 x:=by kernel_rfl
def F55 (x:Int×Unit):Option (Int×Unit):=
 bif decide (fC 0 (iC x.1 12)=Int.ofNat 0) then some (0,())
 else
 bif decide (fC 0 (iC x.1 12)=Int.ofNat (0+1)) then some (0,())
 else
 bif decide (fC 0 (iC x.1 12)=Int.ofNat (0+1+1)) then some (8,())
 else
 bif decide (fC 0 (iC x.1 12)=Int.ofNat (0+1+1+1)) then some (8,())
 else
 bif decide (fC 0 (iC x.1 12)=Int.ofNat (0+1+1+1+1)) then some (9,())
 else
 bif decide (fC 0 (iC x.1 12)=Int.ofNat (0+1+1+1+1+1)) then some (10,())
 else
 bif decide (fC 0 (iC x.1 12)=Int.ofNat (0+1+1+1+1+1+1)) then some (11,())
 else
 bif decide (fC 0 (iC x.1 12)=Int.ofNat (0+1+1+1+1+1+1+1)) then
 some (12,())
 else
 bif decide (fC 0 (iC x.1 12)=Int.ofNat (0+1+1+1+1+1+1+1+1)) then
 some (0,())
 else
 bif decide (fC 0 (iC x.1 12)=Int.ofNat (0+1+1+1+1+1+1+1+1+1)) then
 some (0,())
 else
 bif decide (fC 0 (iC x.1 12)=Int.ofNat (0+1+1+1+1+1+1+1+1+1+1)) then
 some (0,())
 else
 bif
 decide
 (fC 0 (iC x.1 12)=Int.ofNat (0+1+1+1+1+1+1+1+1+1+1+1)) then
 some (0,())
 else
 bif
 decide
 (fC 0 (iC x.1 12) =
 Int.ofNat (0+1+1+1+1+1+1+1+1+1+1+1+1)) then
 some (0,())
 else none
def S55:Sig:=⟨P55,R55,F55⟩
def E55:Env:=mkE ak 8 [] [] []
theorem zfK x:aj E55 Tryz.f55 P55 R55 x=F55 x:=by kernel_rfl
def F33 (x:pq×Int×TMD×Unit):Option (pq×Bool×Unit):=
 bif !x.1.2.2.2.2.2.2.2.1 then some (x.1,false,())
 else
 bif decide (x.2.1 < wrap64 (4*x.1.2.1)) then some (x.1,false,())
 else
 bif
 decide
 (wrap64 (wrap64 (4*x.1.2.1)+x.1.2.2.1)≤
 x.2.1) then
 some (x.1,false,())
 else
 (F53 x.2.2).bind fun b=>
 bif !b.1 then some (x.1,false,())
 else
 bif !decide (x.2.2.1.2.1=x.1.2.2.2.2.1) then some (x.1,false,())
 else
 (F55 (x.1.2.2.2.2.2.2.2.2.2.1.1,())).bind fun b=>
 bif !decide (x.2.2.1.1=b.1) then some (x.1,false,())
 else
 bif decide (x.2.2.1.1=8) then
 bif decide (x.2.2.1.2.2.2.2.2.2.2.2.2.1=14) then
 Option.bind
 (bif decide (0≤x.2.2.1.2.2.2.2.2.2.2.2.2.2.1) then
 bif
 decide
 (x.2.2.1.2.2.2.2.2.2.2.2.2.2.1 < x.1.2.2.1) then
 some (Sum.inl (x.2.2.1.2.2.2.2.2.2.2.2.2.2.1,()))
 else
 Option.bind
 (lX (wrap64 (x.1.2.2.2.2.2.1+1)) x.1.2.2.1)
 fun b=>some (Sum.inl (b,()))
 else
 Option.bind
 (lX (wrap64 (x.1.2.2.2.2.2.1+1)) x.1.2.2.1)
 fun b=>some (Sum.inl (b,())))
 fun o=>
 Sum.elim
 (fun (x_1:Int×Unit)=>
 some
 ((x.1.1,x.1.2.1,x.1.2.2.1,x.1.2.2.2.1,
 x.1.2.2.2.2.1,x_1.1,x.1.2.2.2.2.2.2.1,
 x.1.2.2.2.2.2.2.2.1,true,
 x.1.2.2.2.2.2.2.2.2.2),
 false,()))
 some o
 else
 some
 ((x.1.1,x.1.2.1,x.1.2.2.1,x.1.2.2.2.1,x.1.2.2.2.2.1,
 x.1.2.2.2.2.2.1,x.1.2.2.2.2.2.2.1,false,
 x.1.2.2.2.2.2.2.2.2),
 true,())
 else
 some
 ((x.1.1,x.1.2.1,x.1.2.2.1,x.1.2.2.2.1,x.1.2.2.2.2.1,
 x.1.2.2.2.2.2.1,x.1.2.2.2.2.2.2.1,false,
 x.1.2.2.2.2.2.2.2.2),
 true,())
def S33:Sig:=⟨P33,R33,F33⟩
def E33:Env:=mkE ak 82 [(53,[S53]),(55,[S55])] [(7,⟨[⟨.fld 1000 5,(.int .i64),.pv⟩],[3,6],[.site 3000]++hL (.fld 3000) 0 10++[.site 1000]++hL (.fld 1000) 0 5++hL (.fld 1000) 6 4⟩)] []
theorem zf6 x:aj E33 Tryz.f33 P33 R33 x=F33 x:=by kernel_rfl
def F34 (x:fU×TMD×Unit):Option (fU×Unit):=
 bif decide (x.2.1.1=12) then
 some
 ((x.1.1,x.1.2.1,x.1.2.2.1,x.1.2.2.2.1,x.1.2.2.2.2.1,
 x.1.2.2.2.2.2.1,decide (x.2.1.1=12),
 x.2.1.2.2.2.2.2.2.2.2.2.2.2.2.2.2.2.2.1,
 x.1.2.2.2.2.2.2.2.2.1,false,false,[],false,[],0,
 x.1.2.2.2.2.2.2.2.2.2.2.2.2.2.2.2),
 ())
 else
 bif decide (x.1.2.2.2.2.2.1.2.2.2.1.2.2.1.1=12) then
 some
 ((x.1.1,x.1.2.1,x.1.2.2.1,x.1.2.2.2.1,x.1.2.2.2.2.1,
 x.1.2.2.2.2.2.1,decide (x.2.1.1=12),x.1.2.2.2.2.2.2.2.1,0,false,
 false,[],false,[],0,false,x.1.2.2.2.2.2.2.2.2.2.2.2.2.2.2.2.2),
 ())
 else
 some
 ((x.1.1,x.1.2.1,x.1.2.2.1,x.1.2.2.2.1,x.1.2.2.2.2.1,
 x.1.2.2.2.2.2.1,decide (x.2.1.1=12),x.1.2.2.2.2.2.2.2.1,
 x.1.2.2.2.2.2.2.2.2.1,false,false,[],false,[],0,
 x.1.2.2.2.2.2.2.2.2.2.2.2.2.2.2.2),
 ())
def S34:Sig:=⟨P34,R34,F34⟩
def E34:Env:=mkE ak 29 [] [] []
theorem zf5 x:aj E34 Tryz.f34 P34 R34 x=F34 x:=by kernel_rfl
def F56 (x:fU×TMD×Unit):Option (fU×Unit):=
 Option.bind
 (aZ (Int×List ae×Int×Unit)
 (Int×List ae×Unit⊕(Int×List UInt8×List UInt8×Int×((Int×Int×Int×Int×Int×Int×Int×Bool×Bool×(Int×Int×(Int×Int×Int×Int×Int×Int×Int×Int×Bool×List az×az×Unit)×(Int×Int×(Int×List UInt8×List UInt8×List UInt8×Int×Int×Int×List aN×List ax×List ax×Int×Int×Int×Bool×List ae×List (Int×Int×(Int×Int×Bool×Int×List ae×ai)×Unit)×List ay×Unit)×Unit)×Int×List UInt8×List UInt8×Int×Int×Int×Int×(Int×Int×Bool×Int×List ae×ai)×List (Int×List ae×Unit)×List ae×Bool×(Int×Int×List (Int×Int×(Int×Int×Bool×Int×List ae×ai)×Unit)×List ay×Unit)×aH×Unit)×Unit)×(Int×Int×Int×Int×Int×Int×Int×Bool×Bool×(Int×Int×(Int×Int×Int×Int×Int×Int×Int×Int×Bool×List az×az×Unit)×(Int×Int×(Int×List UInt8×List UInt8×List UInt8×Int×Int×Int×List aN×List ax×List ax×Int×Int×Int×Bool×List ae×List (Int×Int×(Int×Int×Bool×Int×List ae×ai)×Unit)×List ay×Unit)×Unit)×Int×List UInt8×List UInt8×Int×Int×Int×Int×(Int×Int×Bool×Int×List ae×ai)×List (Int×List ae×Unit)×List ae×Bool×(Int×Int×List (Int×Int×(Int×Int×Bool×Int×List ae×ai)×Unit)×List ay×Unit)×aH×Unit)×Unit)×Unit)×(Int×Int×(Int×Int×Int×Int×Int×Int×Int×Int×Bool×List az×az×Unit)×(Int×Int×(Int×List UInt8×List UInt8×List UInt8×Int×Int×Int×List aN×List ax×List ax×Int×Int×Int×Bool×List ae×List (Int×Int×(Int×Int×Bool×Int×List ae×ai)×Unit)×List ay×Unit)×Unit)×Int×List UInt8×List UInt8×Int×Int×Int×Int×(Int×Int×Bool×Int×List ae×ai)×List (Int×List ae×Unit)×List ae×Bool×(Int×Int×List (Int×Int×(Int×Int×Bool×Int×List ae×ai)×Unit)×List ay×Unit)×aH×Unit)×Bool×aH×Int×Bool×Bool×List ae×Bool×List ae×Int×Bool×Bool×Bool×(Int×Int×List (Int×Int×(Int×Int×Bool×Int×List ae×ai)×Unit)×List ay×Unit)×Bool×Unit)×Unit)
 (fun (x_1 :
 Int×List ae×Int×Unit)=>
 bif
 decide
 (x_1.2.2.1 <
 Int.ofNat (List.length x.2.1.2.2.2.2.2.2.2.2.2.2.2.2.1)) then
 (idx x.2.1.2.2.2.2.2.2.2.2.2.2.2.2.1 x_1.2.2.1).bind
 fun b=>
 bif
 decide
 (64 <
 wrap64
 (Int.ofNat (List.length x_1.2.1)+Int.ofNat (List.length b.2.1))) then
 (idx x.2.1.2.2.2.2.2.2.2.2.2.2.2.2.1 x_1.2.2.1).bind
 fun b=>
 some (Sum.inr (Sum.inl (wrap64 (b.1 - 1),x_1.2.1,())))
 else
 (idx x.2.1.2.2.2.2.2.2.2.2.2.2.2.2.1 x_1.2.2.1).bind
 fun b=>
 (fD x_1.2.1 b.2.1).bind
 fun b=>
 some (Sum.inl (x_1.1,b,wrap64 (x_1.2.2.1+1),()))
 else some (Sum.inr (Sum.inl (x_1.1,x_1.2.1,()))))
 big (wrap64 (x.2.1.2.2.2.2.2.2.2.1 - 1),[],0,()))
 fun o=>
 Sum.elim
 (fun (x_1:Int×List ae×Unit)=>
 bif decide (x.1.2.2.2.2.2.2.2.1.2.2.2.2.2.2.2.1 < x_1.1) then
 some
 ((aW x.1 (true,x_1.2.1,x_1.1,
 x.1.2.2.2.2.2.2.2.2.2.2.2.2.2.2.2)),
 ())
 else some (x.1,()))
 some o
def S56:Sig:=⟨P56,R56,F56⟩
def E56:Env:=mkE ak 55 [] [(10,⟨[⟨.slot 5,(.int .i64),.pv⟩,⟨.slot 6,(.slice T70),.own false⟩],[2,4],[.site 3000]++hL (.fld 3000) 0 20++[.site 1000]++hL (.fld 1000) 0 20⟩)] [(4,bz ⟨[⟨.slot 5,(.int .i64),.pv⟩,⟨.slot 6,(.slice T70),.own false⟩,⟨.slot 14,(.int .i64),.pv⟩],[2,3,4,13],[.site 3000]++hL (.fld 3000) 0 20++[.site 2000]++hL (.fld 2000) 0 17++[.site 1000]++hL (.fld 1000) 0 20⟩)]
theorem zfJ x:aj E56 Tryz.f56 P56 R56 x=F56 x:=by kernel_rfl
def F35 (x:fU×TMD×Unit):Option (fU×Unit):=
 Option.bind
 (bif decide (x.2.1.2.2.2.2.2.2.2.2.2.1=9) then
 bif decide (x.2.1.1=9) then some (Sum.inl (0,true,()))
 else
 bif decide (x.2.1.1=10) then some (Sum.inl (0,true,()))
 else
 some
 (Sum.inl
 (x.1.2.2.2.2.2.2.2.2.1,
 x.1.2.2.2.2.2.2.2.2.2.2.2.2.2.2.2.1,()))
 else
 some
 (Sum.inl
 (x.1.2.2.2.2.2.2.2.2.1,
 x.1.2.2.2.2.2.2.2.2.2.2.2.2.2.2.2.1,())))
 fun o=>
 Sum.elim
 (fun (x_1:Int×Bool×Unit)=>
 bif !decide (x.2.1.2.2.2.2.2.2.2.2.2.1=0) then
 some
 ((tk8 x.1 (x_1.1,x.1.2.2.2.2.2.2.2.2.2.1,
 x.1.2.2.2.2.2.2.2.2.2.2.1,
 x.1.2.2.2.2.2.2.2.2.2.2.2.1,
 x.1.2.2.2.2.2.2.2.2.2.2.2.2.1,
 x.1.2.2.2.2.2.2.2.2.2.2.2.2.2.1,
 x.1.2.2.2.2.2.2.2.2.2.2.2.2.2.2.1,x_1.2.1,
 x.1.2.2.2.2.2.2.2.2.2.2.2.2.2.2.2.2)),
 ())
 else
 Option.bind
 (bif decide (x.2.1.1=8) then
 Option.bind
 (bif decide (x.2.1.2.2.2.2.2.2.2.2.2.2.2.1.1=0) then
 bif decide (x.1.2.2.2.2.2.1.2.2.2.1.2.2.1.1=10) then
 some (Sum.inl (true,()))
 else
 some
 (Sum.inl (x.1.2.2.2.2.2.2.2.2.2.2.2.2.2.2.2.2.1,()))
 else
 some
 (Sum.inl (x.1.2.2.2.2.2.2.2.2.2.2.2.2.2.2.2.2.1,())))
 fun o=>
 Sum.elim
 (fun (x_2:Bool×Unit)=>
 bif decide (x.2.1.2.2.2.2.2.2.2.2.2.2.2.1.1=0) then
 bif decide (x.1.2.2.2.2.2.1.2.2.2.1.2.2.1.1=11) then
 some
 (Sum.inl
 (0,[],[],0,
 ((0,0,0,0,0,0,0,false,false,
 zT,
 ()),
 (0,0,0,0,0,0,0,false,false,
 zT,
 ()),
 ()),
 zT,
 false,zV,0,false,false,[],false,[],0,
 false,false,false,(0,0,[],[],()),false,x_1.1,
 x.1.2.2.2.2.2.2.2.2.2.1,
 x.1.2.2.2.2.2.2.2.2.2.2.1,
 x.1.2.2.2.2.2.2.2.2.2.2.2.1,x_2.1,
 x.1.2.2.2.2.2.2.2.2.2.2.2.2.2.2.2.2.2.1,
 x.1.2.2.2.2.2.2.2.2.2.2.2.2.2.2.2.2.2.2.1,true,
 ()))
 else
 some
 (Sum.inl
 (0,[],[],0,
 ((0,0,0,0,0,0,0,false,false,
 zT,
 ()),
 (0,0,0,0,0,0,0,false,false,
 zT,
 ()),
 ()),
 zT,
 false,zV,0,false,false,[],false,[],0,
 false,false,false,(0,0,[],[],()),false,x_1.1,
 x.1.2.2.2.2.2.2.2.2.2.1,
 x.1.2.2.2.2.2.2.2.2.2.2.1,
 x.1.2.2.2.2.2.2.2.2.2.2.2.1,x_2.1,
 x.1.2.2.2.2.2.2.2.2.2.2.2.2.2.2.2.2.2))
 else
 some
 (Sum.inl
 (0,[],[],0,
 ((0,0,0,0,0,0,0,false,false,
 zT,
 ()),
 (0,0,0,0,0,0,0,false,false,
 zT,
 ()),
 ()),
 zT,
 false,zV,0,false,false,[],false,[],0,
 false,false,false,(0,0,[],[],()),false,x_1.1,
 x.1.2.2.2.2.2.2.2.2.2.1,
 x.1.2.2.2.2.2.2.2.2.2.2.1,
 x.1.2.2.2.2.2.2.2.2.2.2.2.1,x_2.1,
 x.1.2.2.2.2.2.2.2.2.2.2.2.2.2.2.2.2.2)))
 some o
 else
 bif decide (x.2.1.1=9) then
 Option.bind
 (F56
 ((tk8 x.1 (x_1.1,x.1.2.2.2.2.2.2.2.2.2.1,
 x.1.2.2.2.2.2.2.2.2.2.2.1,
 x.1.2.2.2.2.2.2.2.2.2.2.2.1,
 x.1.2.2.2.2.2.2.2.2.2.2.2.2.1,
 x.1.2.2.2.2.2.2.2.2.2.2.2.2.2.1,
 x.1.2.2.2.2.2.2.2.2.2.2.2.2.2.2.1,x_1.2.1,
 x.1.2.2.2.2.2.2.2.2.2.2.2.2.2.2.2.2)),
 x.2))
 fun b=>
 some (Sum.inr b)
 else
 bif decide (x.2.1.1=10) then
 some
 (Sum.inl
 (0,[],[],0,
 ((0,0,0,0,0,0,0,false,false,
 zT,
 ()),
 (0,0,0,0,0,0,0,false,false,
 zT,
 ()),
 ()),
 zT,
 false,zV,0,false,false,[],false,[],0,false,
 false,false,(0,0,[],[],()),false,x_1.1,true,
 x.2.1.2.2.2.2.2.2.2.2.2.2.2.2.2.2.1,
 x.2.1.2.2.2.2.2.2.2.2.2.2.2.2.2.1,
 x.1.2.2.2.2.2.2.2.2.2.2.2.2.2.2.2.2))
 else
 bif decide (x.2.1.1=11) then
 some
 (Sum.inl
 (0,[],[],0,
 ((0,0,0,0,0,0,0,false,false,
 zT,
 ()),
 (0,0,0,0,0,0,0,false,false,
 zT,
 ()),
 ()),
 zT,
 false,zV,0,false,false,[],false,[],0,
 false,false,false,(0,0,[],[],()),false,x_1.1,
 x.1.2.2.2.2.2.2.2.2.2.1,
 x.1.2.2.2.2.2.2.2.2.2.2.1,
 x.1.2.2.2.2.2.2.2.2.2.2.2.1,
 x.1.2.2.2.2.2.2.2.2.2.2.2.2.2.2.2.2.1,true,
 x.2.1.2.2.2.2.2.2.2.2.2.2.2.2.2.2.2.1,
 x.1.2.2.2.2.2.2.2.2.2.2.2.2.2.2.2.2.2.2.2))
 else
 bif decide (x.2.1.1=12) then
 some
 (Sum.inl
 (0,[],[],0,
 ((0,0,0,0,0,0,0,false,false,
 zT,
 ()),
 (0,0,0,0,0,0,0,false,false,
 zT,
 ()),
 ()),
 zT,
 false,zV,0,false,false,[],false,[],0,
 false,false,false,(0,0,[],[],()),false,
 fC x.2.1.2.2.2.2.2.2.2.1 1,
 x.1.2.2.2.2.2.2.2.2.2.1,
 x.1.2.2.2.2.2.2.2.2.2.2.1,
 x.1.2.2.2.2.2.2.2.2.2.2.2.1,
 x.1.2.2.2.2.2.2.2.2.2.2.2.2.2.2.2.2))
 else
 some
 (Sum.inl
 (0,[],[],0,
 ((0,0,0,0,0,0,0,false,false,
 zT,
 ()),
 (0,0,0,0,0,0,0,false,false,
 zT,
 ()),
 ()),
 zT,
 false,zV,0,false,false,[],false,[],0,
 false,false,false,(0,0,[],[],()),false,x_1.1,
 x.1.2.2.2.2.2.2.2.2.2.1,
 x.1.2.2.2.2.2.2.2.2.2.2.1,
 x.1.2.2.2.2.2.2.2.2.2.2.2.1,
 x.1.2.2.2.2.2.2.2.2.2.2.2.2.2.2.2.2)))
 fun o=>
 Sum.elim
 (fun (x_2 :
 Int×List UInt8×List UInt8×Int×((Int×Int×Int×Int×Int×Int×Int×Bool×Bool×(Int×Int×(Int×Int×Int×Int×Int×Int×Int×Int×Bool×List az×az×Unit)×(Int×Int×(Int×List UInt8×List UInt8×List UInt8×Int×Int×Int×List aN×List ax×List ax×Int×Int×Int×Bool×List ae×List (Int×Int×(Int×Int×Bool×Int×List ae×ai)×Unit)×List ay×Unit)×Unit)×Int×List UInt8×List UInt8×Int×Int×Int×Int×(Int×Int×Bool×Int×List ae×ai)×List (Int×List ae×Unit)×List ae×Bool×(Int×Int×List (Int×Int×(Int×Int×Bool×Int×List ae×ai)×Unit)×List ay×Unit)×aH×Unit)×Unit)×(Int×Int×Int×Int×Int×Int×Int×Bool×Bool×(Int×Int×(Int×Int×Int×Int×Int×Int×Int×Int×Bool×List az×az×Unit)×(Int×Int×(Int×List UInt8×List UInt8×List UInt8×Int×Int×Int×List aN×List ax×List ax×Int×Int×Int×Bool×List ae×List (Int×Int×(Int×Int×Bool×Int×List ae×ai)×Unit)×List ay×Unit)×Unit)×Int×List UInt8×List UInt8×Int×Int×Int×Int×(Int×Int×Bool×Int×List ae×ai)×List (Int×List ae×Unit)×List ae×Bool×(Int×Int×List (Int×Int×(Int×Int×Bool×Int×List ae×ai)×Unit)×List ay×Unit)×aH×Unit)×Unit)×Unit)×(Int×Int×(Int×Int×Int×Int×Int×Int×Int×Int×Bool×List az×az×Unit)×(Int×Int×(Int×List UInt8×List UInt8×List UInt8×Int×Int×Int×List aN×List ax×List ax×Int×Int×Int×Bool×List ae×List (Int×Int×(Int×Int×Bool×Int×List ae×ai)×Unit)×List ay×Unit)×Unit)×Int×List UInt8×List UInt8×Int×Int×Int×Int×(Int×Int×Bool×Int×List ae×ai)×List (Int×List ae×Unit)×List ae×Bool×(Int×Int×List (Int×Int×(Int×Int×Bool×Int×List ae×ai)×Unit)×List ay×Unit)×aH×Unit)×Bool×aH×Int×Bool×Bool×List ae×Bool×List ae×Int×Bool×Bool×Bool×(Int×Int×List (Int×Int×(Int×Int×Bool×Int×List ae×ai)×Unit)×List ay×Unit)×Bool×Int×Bool×Bool×List ae×Bool×Bool×(Int×Int×List (Int×Int×(Int×Int×Bool×Int×List ae×ai)×Unit)×List ay×Unit)×Bool×Unit)=>
 some
 ((tk8 x.1 (x_2.2.2.2.2.2.2.2.2.2.2.2.2.2.2.2.2.2.2.2.2.1,
 x_2.2.2.2.2.2.2.2.2.2.2.2.2.2.2.2.2.2.2.2.2.2.1,
 x_2.2.2.2.2.2.2.2.2.2.2.2.2.2.2.2.2.2.2.2.2.2.2.1,
 x_2.2.2.2.2.2.2.2.2.2.2.2.2.2.2.2.2.2.2.2.2.2.2.2.1,
 x.1.2.2.2.2.2.2.2.2.2.2.2.2.1,
 x.1.2.2.2.2.2.2.2.2.2.2.2.2.2.1,
 x.1.2.2.2.2.2.2.2.2.2.2.2.2.2.2.1,x_1.2.1,
 x_2.2.2.2.2.2.2.2.2.2.2.2.2.2.2.2.2.2.2.2.2.2.2.2.2)),
 ()))
 some o)
 some o
def S35:Sig:=⟨P35,R35,F35⟩
def E35:Env:=mkE ak 81 [(56,[S56])] [(3,⟨[⟨.fld 1000 8,(.int .i64),.pv⟩,⟨.fld 1000 15,.bool,.pv⟩],[2,3,4],[.site 3000]++hL (.fld 3000) 0 20++[.site 2000]++hL (.fld 2000) 0 17++[.site 1000]++hL (.fld 1000) 0 8++hL (.fld 1000) 9 6++hL (.fld 1000) 16 4⟩),(9,⟨[⟨.fld 1000 16,.bool,.pv⟩],[2,3,4],[.site 3000]++hL (.fld 3000) 0 20++[.site 2000]++hL (.fld 2000) 0 17++[.site 1000]++hL (.fld 1000) 0 16++[.fld 1000 17,.fld 1000 18,.fld 1000 19]⟩),(19,⟨[⟨.fld 3000 0,(.int .i64),.pv⟩,⟨.fld 3000 1,.str,.pv⟩,⟨.fld 3000 2,.str,.pv⟩,⟨.fld 3000 3,(.int .i64),.pv⟩,⟨.fld 3000 4,Y59,.pv⟩,⟨.fld 3000 5,TM,.pv⟩,⟨.fld 3000 6,.bool,.pv⟩,⟨.fld 3000 7,T53,.pv⟩,⟨.fld 3000 8,(.int .i64),.pv⟩,⟨.fld 3000 9,.bool,.pv⟩,⟨.fld 3000 10,.bool,.pv⟩,⟨.fld 3000 11,(.slice T70),.own false⟩,⟨.fld 3000 12,.bool,.pv⟩,⟨.fld 3000 13,(.slice T70),.own false⟩,⟨.fld 3000 14,(.int .i64),.pv⟩,⟨.fld 3000 15,.bool,.pv⟩,⟨.fld 3000 16,.bool,.pv⟩,⟨.fld 3000 17,.bool,.pv⟩,⟨.fld 3000 18,T55,.pv⟩,⟨.fld 3000 19,.bool,.pv⟩,⟨.fld 1000 8,(.int .i64),.pv⟩,⟨.fld 1000 9,.bool,.pv⟩,⟨.fld 1000 10,.bool,.pv⟩,⟨.fld 1000 11,(.slice T70),.pv⟩,⟨.fld 1000 16,.bool,.pv⟩,⟨.fld 1000 17,.bool,.pv⟩,⟨.fld 1000 18,T55,.pv⟩,⟨.fld 1000 19,.bool,.pv⟩],[2,4],[.site 3000,.site 1000]++hL (.fld 1000) 0 8++hL (.fld 1000) 12 4⟩)] []
theorem zf4 x:aj E35 Tryz.f35 P35 R35 x=F35 x:=by kernel_rfl
def F14 (x:fU×Int×TMD×Unit):Option (fU×Unit):=
 aZ
 (Int×Int×List UInt8×List UInt8×Int×((Int×Int×Int×Int×Int×Int×Int×Bool×Bool×(Int×Int×(Int×Int×Int×Int×Int×Int×Int×Int×Bool×List az×az×Unit)×(Int×Int×(Int×List UInt8×List UInt8×List UInt8×Int×Int×Int×List aN×List ax×List ax×Int×Int×Int×Bool×List ae×List (Int×Int×(Int×Int×Bool×Int×List ae×ai)×Unit)×List ay×Unit)×Unit)×Int×List UInt8×List UInt8×Int×Int×Int×Int×(Int×Int×Bool×Int×List ae×ai)×List (Int×List ae×Unit)×List ae×Bool×(Int×Int×List (Int×Int×(Int×Int×Bool×Int×List ae×ai)×Unit)×List ay×Unit)×aH×Unit)×Unit)×(Int×Int×Int×Int×Int×Int×Int×Bool×Bool×(Int×Int×(Int×Int×Int×Int×Int×Int×Int×Int×Bool×List az×az×Unit)×(Int×Int×(Int×List UInt8×List UInt8×List UInt8×Int×Int×Int×List aN×List ax×List ax×Int×Int×Int×Bool×List ae×List (Int×Int×(Int×Int×Bool×Int×List ae×ai)×Unit)×List ay×Unit)×Unit)×Int×List UInt8×List UInt8×Int×Int×Int×Int×(Int×Int×Bool×Int×List ae×ai)×List (Int×List ae×Unit)×List ae×Bool×(Int×Int×List (Int×Int×(Int×Int×Bool×Int×List ae×ai)×Unit)×List ay×Unit)×aH×Unit)×Unit)×Unit)×(Int×Int×(Int×Int×Int×Int×Int×Int×Int×Int×Bool×List az×az×Unit)×(Int×Int×(Int×List UInt8×List UInt8×List UInt8×Int×Int×Int×List aN×List ax×List ax×Int×Int×Int×Bool×List ae×List (Int×Int×(Int×Int×Bool×Int×List ae×ai)×Unit)×List ay×Unit)×Unit)×Int×List UInt8×List UInt8×Int×Int×Int×Int×(Int×Int×Bool×Int×List ae×ai)×List (Int×List ae×Unit)×List ae×Bool×(Int×Int×List (Int×Int×(Int×Int×Bool×Int×List ae×ai)×Unit)×List ay×Unit)×aH×Unit)×Bool×aH×Int×Bool×Bool×List ae×Bool×List ae×Int×Bool×Bool×Bool×(Int×Int×List (Int×Int×(Int×Int×Bool×Int×List ae×ai)×Unit)×List ay×Unit)×Bool×((Int×Int×Int×Int×Int×Int×Int×Bool×Bool×(Int×Int×(Int×Int×Int×Int×Int×Int×Int×Int×Bool×List az×az×Unit)×(Int×Int×(Int×List UInt8×List UInt8×List UInt8×Int×Int×Int×List aN×List ax×List ax×Int×Int×Int×Bool×List ae×List (Int×Int×(Int×Int×Bool×Int×List ae×ai)×Unit)×List ay×Unit)×Unit)×Int×List UInt8×List UInt8×Int×Int×Int×Int×(Int×Int×Bool×Int×List ae×ai)×List (Int×List ae×Unit)×List ae×Bool×(Int×Int×List (Int×Int×(Int×Int×Bool×Int×List ae×ai)×Unit)×List ay×Unit)×aH×Unit)×Unit)×(Int×Int×Int×Int×Int×Int×Int×Bool×Bool×(Int×Int×(Int×Int×Int×Int×Int×Int×Int×Int×Bool×List az×az×Unit)×(Int×Int×(Int×List UInt8×List UInt8×List UInt8×Int×Int×Int×List aN×List ax×List ax×Int×Int×Int×Bool×List ae×List (Int×Int×(Int×Int×Bool×Int×List ae×ai)×Unit)×List ay×Unit)×Unit)×Int×List UInt8×List UInt8×Int×Int×Int×Int×(Int×Int×Bool×Int×List ae×ai)×List (Int×List ae×Unit)×List ae×Bool×(Int×Int×List (Int×Int×(Int×Int×Bool×Int×List ae×ai)×Unit)×List ay×Unit)×aH×Unit)×Unit)×Unit)×Unit)
 ((Int×List UInt8×List UInt8×Int×((Int×Int×Int×Int×Int×Int×Int×Bool×Bool×(Int×Int×(Int×Int×Int×Int×Int×Int×Int×Int×Bool×List az×az×Unit)×(Int×Int×(Int×List UInt8×List UInt8×List UInt8×Int×Int×Int×List aN×List ax×List ax×Int×Int×Int×Bool×List ae×List (Int×Int×(Int×Int×Bool×Int×List ae×ai)×Unit)×List ay×Unit)×Unit)×Int×List UInt8×List UInt8×Int×Int×Int×Int×(Int×Int×Bool×Int×List ae×ai)×List (Int×List ae×Unit)×List ae×Bool×(Int×Int×List (Int×Int×(Int×Int×Bool×Int×List ae×ai)×Unit)×List ay×Unit)×aH×Unit)×Unit)×(Int×Int×Int×Int×Int×Int×Int×Bool×Bool×(Int×Int×(Int×Int×Int×Int×Int×Int×Int×Int×Bool×List az×az×Unit)×(Int×Int×(Int×List UInt8×List UInt8×List UInt8×Int×Int×Int×List aN×List ax×List ax×Int×Int×Int×Bool×List ae×List (Int×Int×(Int×Int×Bool×Int×List ae×ai)×Unit)×List ay×Unit)×Unit)×Int×List UInt8×List UInt8×Int×Int×Int×Int×(Int×Int×Bool×Int×List ae×ai)×List (Int×List ae×Unit)×List ae×Bool×(Int×Int×List (Int×Int×(Int×Int×Bool×Int×List ae×ai)×Unit)×List ay×Unit)×aH×Unit)×Unit)×Unit)×(Int×Int×(Int×Int×Int×Int×Int×Int×Int×Int×Bool×List az×az×Unit)×(Int×Int×(Int×List UInt8×List UInt8×List UInt8×Int×Int×Int×List aN×List ax×List ax×Int×Int×Int×Bool×List ae×List (Int×Int×(Int×Int×Bool×Int×List ae×ai)×Unit)×List ay×Unit)×Unit)×Int×List UInt8×List UInt8×Int×Int×Int×Int×(Int×Int×Bool×Int×List ae×ai)×List (Int×List ae×Unit)×List ae×Bool×(Int×Int×List (Int×Int×(Int×Int×Bool×Int×List ae×ai)×Unit)×List ay×Unit)×aH×Unit)×Bool×aH×Int×Bool×Bool×List ae×Bool×List ae×Int×Bool×Bool×Bool×(Int×Int×List (Int×Int×(Int×Int×Bool×Int×List ae×ai)×Unit)×List ay×Unit)×Bool×Unit)×Unit)
 (fun (x_1 :
 Int×Int×List UInt8×List UInt8×Int×((Int×Int×Int×Int×Int×Int×Int×Bool×Bool×(Int×Int×(Int×Int×Int×Int×Int×Int×Int×Int×Bool×List az×az×Unit)×(Int×Int×(Int×List UInt8×List UInt8×List UInt8×Int×Int×Int×List aN×List ax×List ax×Int×Int×Int×Bool×List ae×List (Int×Int×(Int×Int×Bool×Int×List ae×ai)×Unit)×List ay×Unit)×Unit)×Int×List UInt8×List UInt8×Int×Int×Int×Int×(Int×Int×Bool×Int×List ae×ai)×List (Int×List ae×Unit)×List ae×Bool×(Int×Int×List (Int×Int×(Int×Int×Bool×Int×List ae×ai)×Unit)×List ay×Unit)×aH×Unit)×Unit)×(Int×Int×Int×Int×Int×Int×Int×Bool×Bool×(Int×Int×(Int×Int×Int×Int×Int×Int×Int×Int×Bool×List az×az×Unit)×(Int×Int×(Int×List UInt8×List UInt8×List UInt8×Int×Int×Int×List aN×List ax×List ax×Int×Int×Int×Bool×List ae×List (Int×Int×(Int×Int×Bool×Int×List ae×ai)×Unit)×List ay×Unit)×Unit)×Int×List UInt8×List UInt8×Int×Int×Int×Int×(Int×Int×Bool×Int×List ae×ai)×List (Int×List ae×Unit)×List ae×Bool×(Int×Int×List (Int×Int×(Int×Int×Bool×Int×List ae×ai)×Unit)×List ay×Unit)×aH×Unit)×Unit)×Unit)×(Int×Int×(Int×Int×Int×Int×Int×Int×Int×Int×Bool×List az×az×Unit)×(Int×Int×(Int×List UInt8×List UInt8×List UInt8×Int×Int×Int×List aN×List ax×List ax×Int×Int×Int×Bool×List ae×List (Int×Int×(Int×Int×Bool×Int×List ae×ai)×Unit)×List ay×Unit)×Unit)×Int×List UInt8×List UInt8×Int×Int×Int×Int×(Int×Int×Bool×Int×List ae×ai)×List (Int×List ae×Unit)×List ae×Bool×(Int×Int×List (Int×Int×(Int×Int×Bool×Int×List ae×ai)×Unit)×List ay×Unit)×aH×Unit)×Bool×aH×Int×Bool×Bool×List ae×Bool×List ae×Int×Bool×Bool×Bool×(Int×Int×List (Int×Int×(Int×Int×Bool×Int×List ae×ai)×Unit)×List ay×Unit)×Bool×((Int×Int×Int×Int×Int×Int×Int×Bool×Bool×(Int×Int×(Int×Int×Int×Int×Int×Int×Int×Int×Bool×List az×az×Unit)×(Int×Int×(Int×List UInt8×List UInt8×List UInt8×Int×Int×Int×List aN×List ax×List ax×Int×Int×Int×Bool×List ae×List (Int×Int×(Int×Int×Bool×Int×List ae×ai)×Unit)×List ay×Unit)×Unit)×Int×List UInt8×List UInt8×Int×Int×Int×Int×(Int×Int×Bool×Int×List ae×ai)×List (Int×List ae×Unit)×List ae×Bool×(Int×Int×List (Int×Int×(Int×Int×Bool×Int×List ae×ai)×Unit)×List ay×Unit)×aH×Unit)×Unit)×(Int×Int×Int×Int×Int×Int×Int×Bool×Bool×(Int×Int×(Int×Int×Int×Int×Int×Int×Int×Int×Bool×List az×az×Unit)×(Int×Int×(Int×List UInt8×List UInt8×List UInt8×Int×Int×Int×List aN×List ax×List ax×Int×Int×Int×Bool×List ae×List (Int×Int×(Int×Int×Bool×Int×List ae×ai)×Unit)×List ay×Unit)×Unit)×Int×List UInt8×List UInt8×Int×Int×Int×Int×(Int×Int×Bool×Int×List ae×ai)×List (Int×List ae×Unit)×List ae×Bool×(Int×Int×List (Int×Int×(Int×Int×Bool×Int×List ae×ai)×Unit)×List ay×Unit)×aH×Unit)×Unit)×Unit)×Unit)=>
 bif decide (x_1.1 < 2) then
 Option.bind (jZ 2 x_1.1) fun b=>
 Option.bind
 (bif Nat.beq b 0 then
 some x_1.2.2.2.2.2.2.2.2.2.2.2.2.2.2.2.2.2.2.2.2.2.1.1
 else
 bif Nat.beq b (0+1) then
 some x_1.2.2.2.2.2.2.2.2.2.2.2.2.2.2.2.2.2.2.2.2.2.1.2.1
 else none)
 fun b=>
 (F33 (b,x.2)).bind
 fun b=>
 Option.bind (jZ 2 x_1.1) fun b_1=>
 Option.bind
 (bif Nat.beq b_1 0 then
 some
 (b.1,
 x_1.2.2.2.2.2.2.2.2.2.2.2.2.2.2.2.2.2.2.2.2.2.1.2)
 else
 bif Nat.beq b_1 (0+1) then
 some
 (x_1.2.2.2.2.2.2.2.2.2.2.2.2.2.2.2.2.2.2.2.2.2.1.1,
 b.1,
 x_1.2.2.2.2.2.2.2.2.2.2.2.2.2.2.2.2.2.2.2.2.2.1.2.2)
 else none)
 fun b_2=>
 bif b.2.1 then
 bif decide (x_1.1=1) then
 Option.bind
 (F34
 ((x.1.1,x.1.2.1,x.1.2.2.1,x.1.2.2.2.1,b_2,
 x.1.2.2.2.2.2),
 x.2.2))
 fun b=>
 some (Sum.inr b)
 else
 bif b.2.1 then
 Option.bind
 (F35
 ((x.1.1,x.1.2.1,x.1.2.2.1,x.1.2.2.2.1,b_2,
 x.1.2.2.2.2.2),
 x.2.2))
 fun b=>
 some (Sum.inr b)
 else
 some
 (Sum.inl
 (wrap64 (x_1.1+1),aT x_1.2 (b_2,())))
 else
 bif b.2.1 then
 Option.bind
 (F35
 ((x.1.1,x.1.2.1,x.1.2.2.1,x.1.2.2.2.1,b_2,
 x.1.2.2.2.2.2),
 x.2.2))
 fun b=>
 some (Sum.inr b)
 else
 some
 (Sum.inl
 (wrap64 (x_1.1+1),aT x_1.2 (b_2,())))
 else
 some
 (Sum.inr
 ((x.1.1,x.1.2.1,x.1.2.2.1,x.1.2.2.2.1,
 x_1.2.2.2.2.2.2.2.2.2.2.2.2.2.2.2.2.2.2.2.2.2.1,
 x.1.2.2.2.2.2),
 ())))
 big
 (0,0,[],[],0,
 ((0,0,0,0,0,0,0,false,false,
 zT,
 ()),
 (0,0,0,0,0,0,0,false,false,
 zT,
 ()),
 ()),
 zT,
 false,zV,0,false,false,[],false,[],0,false,false,false,
 (0,0,[],[],()),false,x.1.2.2.2.2.1,())
def S14:Sig:=⟨P14,R14,F14⟩
def E14:Env:=mkE ak 41 [(33,[S33]),(34,[S34]),(35,[S35])] [] [(2,bz ⟨[⟨.slot 10,(.int .i64),.pv⟩,⟨.fld 3000 0,(.int .i64),.pv⟩,⟨.fld 3000 1,.str,.pv⟩,⟨.fld 3000 2,.str,.pv⟩,⟨.fld 3000 3,(.int .i64),.pv⟩,⟨.fld 3000 4,Y59,.pv⟩,⟨.fld 3000 5,TM,.pv⟩,⟨.fld 3000 6,.bool,.pv⟩,⟨.fld 3000 7,T53,.pv⟩,⟨.fld 3000 8,(.int .i64),.pv⟩,⟨.fld 3000 9,.bool,.pv⟩,⟨.fld 3000 10,.bool,.pv⟩,⟨.fld 3000 11,(.slice T70),.own false⟩,⟨.fld 3000 12,.bool,.pv⟩,⟨.fld 3000 13,(.slice T70),.own false⟩,⟨.fld 3000 14,(.int .i64),.pv⟩,⟨.fld 3000 15,.bool,.pv⟩,⟨.fld 3000 16,.bool,.pv⟩,⟨.fld 3000 17,.bool,.pv⟩,⟨.fld 3000 18,T55,.pv⟩,⟨.fld 3000 19,.bool,.pv⟩,⟨.fld 1000 4,Y59,.pv⟩],[1,3,5,6],[.site 3000,.site 2000]++hL (.fld 2000) 0 17++[.site 1000]++hL (.fld 1000) 0 4++hL (.fld 1000) 5 15⟩)]
theorem zgp x:aj E14 Tryz.f14 P14 R14 x=F14 x:=by kernel_rfl
def F15 (x:dm×Unit):Option (aH×Bool×dm×Unit):=
 bif !x.1.2.2.2.2.2.1 then some (zV,false,x)
 else some (x.1.2.2.2.2.2.2.1,true,x)
def S15:Sig:=⟨P15,R15,F15⟩
def E15:Env:=mkE ak 18 [] [] []
theorem zgo x:aj E15 Tryz.f15 P15 R15 x=F15 x:=by kernel_rfl
def Js (x:Unit):Option (aH×Bool×Unit):=some (zV,false,())
def Uo:Sig:=⟨XA,VD,Js⟩
def Za:Env:=mkE ak 18 [] [] []
theorem zc8 x:aj Za Tryz.f15 XA VD x=Js x:=by kernel_rfl
def F16 (x:dm×Unit):Option (Bool×dm×Unit):=
 some (x.1.2.2.2.2.2.2.2.2.2.2.2.2.2.1,x)
def S16:Sig:=⟨P16,R16,F16⟩
def E16:Env:=mkE ak 11 [] [] []
theorem zgn x:aj E16 Tryz.f16 P16 R16 x=F16 x:=by kernel_rfl
def Jr (x:Unit):Option (Bool×Unit):=some (false,())
def Uh:Sig:=⟨Xr,Vu,Jr⟩
def Y2:Env:=mkE ak 11 [] [] []
theorem zc0 x:aj Y2 Tryz.f16 Xr Vu x=Jr x:=by kernel_rfl
def F17 (x:dm×Int×Unit):Option (Int×dm×Unit):=
 bif decide (x.2.1 < 0) then some (1,x.1,())
 else
 bif decide (2 < x.2.1) then some (1,x.1,())
 else some (0,(x.1.1,x.2.1,x.1.2.2),())
def S17:Sig:=⟨P17,R17,F17⟩
def E17:Env:=mkE ak 19 [] [] []
theorem zgm x:aj E17 Tryz.f17 P17 R17 x=F17 x:=by kernel_rfl
def Jq (x:Int×Unit):Option (Int×Unit):=some (1,())
def Ub:Sig:=⟨Xi,Vk,Jq⟩
def YT:Env:=mkE ak 19 [] [] []
theorem zcR x:aj YT Tryz.f17 Xi Vk x=Jq x:=by kernel_rfl
def F3 (x:lw×List vT×Unit):Option (Bool×Unit):=
 (F4 ()).bind fun b=>
 bif !b.1 then (F4 ()).bind fun b=>some b
 else
 (F5 (x.2.1,60,())).bind fun b=>
 bif !b.1 then (F4 ()).bind fun b=>some b
 else
 (F6 (x.1.1,x.1.2.1,x.1.2.2.1,x.1.2.2.2.1,0,())).bind
 fun b=>
 bif !b.1 then (F4 ()).bind fun b=>some b
 else
 (F7 (x.1,0,())).bind
 fun b=>
 bif b.1.1 then
 (F8 (x.1.1,x.1.2.1,x.1.2.2.1,x.1.2.2.2.1,0,())).bind
 fun b_1=>
 aZ
 (Int×Int×Int×List UInt8×List UInt8×Int×((Int×Int×Int×Int×Int×Int×Int×Bool×Bool×(Int×Int×(Int×Int×Int×Int×Int×Int×Int×Int×Bool×List az×az×Unit)×(Int×Int×(Int×List UInt8×List UInt8×List UInt8×Int×Int×Int×List aN×List ax×List ax×Int×Int×Int×Bool×List ae×List (Int×Int×(Int×Int×Bool×Int×List ae×ai)×Unit)×List ay×Unit)×Unit)×Int×List UInt8×List UInt8×Int×Int×Int×Int×(Int×Int×Bool×Int×List ae×ai)×List (Int×List ae×Unit)×List ae×Bool×(Int×Int×List (Int×Int×(Int×Int×Bool×Int×List ae×ai)×Unit)×List ay×Unit)×aH×Unit)×Unit)×(Int×Int×Int×Int×Int×Int×Int×Bool×Bool×(Int×Int×(Int×Int×Int×Int×Int×Int×Int×Int×Bool×List az×az×Unit)×(Int×Int×(Int×List UInt8×List UInt8×List UInt8×Int×Int×Int×List aN×List ax×List ax×Int×Int×Int×Bool×List ae×List (Int×Int×(Int×Int×Bool×Int×List ae×ai)×Unit)×List ay×Unit)×Unit)×Int×List UInt8×List UInt8×Int×Int×Int×Int×(Int×Int×Bool×Int×List ae×ai)×List (Int×List ae×Unit)×List ae×Bool×(Int×Int×List (Int×Int×(Int×Int×Bool×Int×List ae×ai)×Unit)×List ay×Unit)×aH×Unit)×Unit)×Unit)×(Int×Int×(Int×Int×Int×Int×Int×Int×Int×Int×Bool×List az×az×Unit)×(Int×Int×(Int×List UInt8×List UInt8×List UInt8×Int×Int×Int×List aN×List ax×List ax×Int×Int×Int×Bool×List ae×List (Int×Int×(Int×Int×Bool×Int×List ae×ai)×Unit)×List ay×Unit)×Unit)×Int×List UInt8×List UInt8×Int×Int×Int×Int×(Int×Int×Bool×Int×List ae×ai)×List (Int×List ae×Unit)×List ae×Bool×(Int×Int×List (Int×Int×(Int×Int×Bool×Int×List ae×ai)×Unit)×List ay×Unit)×aH×Unit)×Bool×aH×Int×Bool×Bool×List ae×Bool×List ae×Int×Bool×Bool×Bool×(Int×Int×List (Int×Int×(Int×Int×Bool×Int×List ae×ai)×Unit)×List ay×Unit)×Bool×lw×Int×List (Int×Int×Int×Int×Int×Int×Int×Bool×(Int×Int×(Int×Int×Int×Int×Int×Int×Int×Int×Bool×List az×az×Unit)×(Int×Int×(Int×List UInt8×List UInt8×List UInt8×Int×Int×Int×List aN×List ax×List ax×Int×Int×Int×Bool×List ae×List (Int×Int×(Int×Int×Bool×Int×List ae×ai)×Unit)×List ay×Unit)×Unit)×Int×List UInt8×List UInt8×Int×Int×Int×Int×(Int×Int×Bool×Int×List ae×ai)×List (Int×List ae×Unit)×List ae×Bool×(Int×Int×List (Int×Int×(Int×Int×Bool×Int×List ae×ai)×Unit)×List ay×Unit)×aH×Unit)×Unit)×List (Int×Int×Int×Int×Int×Int×Int×Bool×(Int×Int×(Int×Int×Int×Int×Int×Int×Int×Int×Bool×List az×az×Unit)×(Int×Int×(Int×List UInt8×List UInt8×List UInt8×Int×Int×Int×List aN×List ax×List ax×Int×Int×Int×Bool×List ae×List (Int×Int×(Int×Int×Bool×Int×List ae×ai)×Unit)×List ay×Unit)×Unit)×Int×List UInt8×List UInt8×Int×Int×Int×Int×(Int×Int×Bool×Int×List ae×ai)×List (Int×List ae×Unit)×List ae×Bool×(Int×Int×List (Int×Int×(Int×Int×Bool×Int×List ae×ai)×Unit)×List ay×Unit)×aH×Unit)×Unit)×(Int×Int×(Int×Int×Int×Int×Int×Int×Int×Int×Bool×List az×az×Unit)×(Int×Int×(Int×List UInt8×List UInt8×List UInt8×Int×Int×Int×List aN×List ax×List ax×Int×Int×Int×Bool×List ae×List (Int×Int×(Int×Int×Bool×Int×List ae×ai)×Unit)×List ay×Unit)×Unit)×Int×List UInt8×List UInt8×Int×Int×Int×Int×(Int×Int×Bool×Int×List ae×ai)×List (Int×List ae×Unit)×List ae×Bool×(Int×Int×List (Int×Int×(Int×Int×Bool×Int×List ae×ai)×Unit)×List ay×Unit)×aH×Unit)×Bool×aH×Int×List (List ae×Bool×Unit)×List (List ae×Int×Unit)×Bool×Bool×List (Int×Int×List (Int×Int×(Int×Int×Bool×Int×List ae×ai)×Unit)×List ay×Unit)×Bool×Unit)
 (Bool×Unit)
 (fun (x_1 :
 Int×Int×Int×List UInt8×List UInt8×Int×((Int×Int×Int×Int×Int×Int×Int×Bool×Bool×(Int×Int×(Int×Int×Int×Int×Int×Int×Int×Int×Bool×List az×az×Unit)×(Int×Int×(Int×List UInt8×List UInt8×List UInt8×Int×Int×Int×List aN×List ax×List ax×Int×Int×Int×Bool×List ae×List (Int×Int×(Int×Int×Bool×Int×List ae×ai)×Unit)×List ay×Unit)×Unit)×Int×List UInt8×List UInt8×Int×Int×Int×Int×(Int×Int×Bool×Int×List ae×ai)×List (Int×List ae×Unit)×List ae×Bool×(Int×Int×List (Int×Int×(Int×Int×Bool×Int×List ae×ai)×Unit)×List ay×Unit)×aH×Unit)×Unit)×(Int×Int×Int×Int×Int×Int×Int×Bool×Bool×(Int×Int×(Int×Int×Int×Int×Int×Int×Int×Int×Bool×List az×az×Unit)×(Int×Int×(Int×List UInt8×List UInt8×List UInt8×Int×Int×Int×List aN×List ax×List ax×Int×Int×Int×Bool×List ae×List (Int×Int×(Int×Int×Bool×Int×List ae×ai)×Unit)×List ay×Unit)×Unit)×Int×List UInt8×List UInt8×Int×Int×Int×Int×(Int×Int×Bool×Int×List ae×ai)×List (Int×List ae×Unit)×List ae×Bool×(Int×Int×List (Int×Int×(Int×Int×Bool×Int×List ae×ai)×Unit)×List ay×Unit)×aH×Unit)×Unit)×Unit)×(Int×Int×(Int×Int×Int×Int×Int×Int×Int×Int×Bool×List az×az×Unit)×(Int×Int×(Int×List UInt8×List UInt8×List UInt8×Int×Int×Int×List aN×List ax×List ax×Int×Int×Int×Bool×List ae×List (Int×Int×(Int×Int×Bool×Int×List ae×ai)×Unit)×List ay×Unit)×Unit)×Int×List UInt8×List UInt8×Int×Int×Int×Int×(Int×Int×Bool×Int×List ae×ai)×List (Int×List ae×Unit)×List ae×Bool×(Int×Int×List (Int×Int×(Int×Int×Bool×Int×List ae×ai)×Unit)×List ay×Unit)×aH×Unit)×Bool×aH×Int×Bool×Bool×List ae×Bool×List ae×Int×Bool×Bool×Bool×(Int×Int×List (Int×Int×(Int×Int×Bool×Int×List ae×ai)×Unit)×List ay×Unit)×Bool×lw×Int×List (Int×Int×Int×Int×Int×Int×Int×Bool×(Int×Int×(Int×Int×Int×Int×Int×Int×Int×Int×Bool×List az×az×Unit)×(Int×Int×(Int×List UInt8×List UInt8×List UInt8×Int×Int×Int×List aN×List ax×List ax×Int×Int×Int×Bool×List ae×List (Int×Int×(Int×Int×Bool×Int×List ae×ai)×Unit)×List ay×Unit)×Unit)×Int×List UInt8×List UInt8×Int×Int×Int×Int×(Int×Int×Bool×Int×List ae×ai)×List (Int×List ae×Unit)×List ae×Bool×(Int×Int×List (Int×Int×(Int×Int×Bool×Int×List ae×ai)×Unit)×List ay×Unit)×aH×Unit)×Unit)×List (Int×Int×Int×Int×Int×Int×Int×Bool×(Int×Int×(Int×Int×Int×Int×Int×Int×Int×Int×Bool×List az×az×Unit)×(Int×Int×(Int×List UInt8×List UInt8×List UInt8×Int×Int×Int×List aN×List ax×List ax×Int×Int×Int×Bool×List ae×List (Int×Int×(Int×Int×Bool×Int×List ae×ai)×Unit)×List ay×Unit)×Unit)×Int×List UInt8×List UInt8×Int×Int×Int×Int×(Int×Int×Bool×Int×List ae×ai)×List (Int×List ae×Unit)×List ae×Bool×(Int×Int×List (Int×Int×(Int×Int×Bool×Int×List ae×ai)×Unit)×List ay×Unit)×aH×Unit)×Unit)×(Int×Int×(Int×Int×Int×Int×Int×Int×Int×Int×Bool×List az×az×Unit)×(Int×Int×(Int×List UInt8×List UInt8×List UInt8×Int×Int×Int×List aN×List ax×List ax×Int×Int×Int×Bool×List ae×List (Int×Int×(Int×Int×Bool×Int×List ae×ai)×Unit)×List ay×Unit)×Unit)×Int×List UInt8×List UInt8×Int×Int×Int×Int×(Int×Int×Bool×Int×List ae×ai)×List (Int×List ae×Unit)×List ae×Bool×(Int×Int×List (Int×Int×(Int×Int×Bool×Int×List ae×ai)×Unit)×List ay×Unit)×aH×Unit)×Bool×aH×Int×List (List ae×Bool×Unit)×List (List ae×Int×Unit)×Bool×Bool×List (Int×Int×List (Int×Int×(Int×Int×Bool×Int×List ae×ai)×Unit)×List ay×Unit)×Bool×Unit)=>
 bif decide (x_1.2.1 < Int.ofNat (List.length x.2.1)) then
 Option.bind
 ((idx x.2.1 x_1.2.1).bind
 fun b=>
 bif decide (aQ b.1=aQ (UInt8.ofNat 0)) then
 Option.bind
 (F9
 (x_1.2.2.2.2.2.2.2.2.2.2.2.2.2.2.2.2.2.2.2.2.2.2,
 ()))
 fun b=>
 Option.bind
 (F10
 ((aT x_1.2.2 (())),
 ()))
 fun b_2=>
 (qw IntKind.i64 b.1.2.1 4).bind fun b_3=>
 Option.bind
 (bif b.2.1 then
 bif !decide (b_3=0) then
 bif !decide (b_3=1) then
 some (Sum.inr (Sum.inr (Sum.inr (false,()))))
 else some (Sum.inl ())
 else some (Sum.inl ())
 else some (Sum.inl ()))
 fun o=>
 Sum.elim
 (fun (_z:Unit)=>
 bif b.2.1 then
 bif !decide (x_1.1=0) then
 bif
 !decide
 (wrap64
 (wrap64 (2*b.1.2.2.1.2.1) +
 b_3) =
 x_1.1) then
 some (Sum.inr (Sum.inr (false,())))
 else
 bif b.2.1 then
 some
 (Sum.inl
 (wrap64
 (wrap64 (2*b.1.2.2.1.2.1) +
 b_3),
 aT b_2.1 (b.2.2.1)))
 else
 some
 (Sum.inl
 (x_1.1,aT b_2.1 (b.2.2.1)))
 else
 bif b.2.1 then
 some
 (Sum.inl
 (wrap64
 (wrap64 (2*b.1.2.2.1.2.1) +
 b_3),
 aT b_2.1 (b.2.2.1)))
 else
 some
 (Sum.inl
 (x_1.1,aT b_2.1 (b.2.2.1)))
 else
 bif b.2.1 then
 some
 (Sum.inl
 (wrap64
 (wrap64 (2*b.1.2.2.1.2.1) +
 b_3),
 aT b_2.1 (b.2.2.1)))
 else
 some
 (Sum.inl
 (x_1.1,aT b_2.1 (b.2.2.1))))
 some o
 else
 bif decide (aQ b.1=aQ (UInt8.ofNat 2)) then
 Option.bind
 (F11
 ((aT x_1.2.2 (())),
 b,()))
 fun b=>
 (F13 b.1.2.2.2).bind
 fun b_2=>
 Option.bind
 (F12
 (x_1.2.2.2.2.2.2.2.2.2.2.2.2.2.2.2.2.2.2.2.2.2.2,
 b.1.2.1,b_2))
 fun b_3=>
 Option.bind
 (F14
 ((aT x_1.2.2 (())),
 b.1.2.1,b.1.2.2.2))
 fun b=>
 bif !b.1.2.2.2.2.1.1.2.2.2.2.2.2.2.1 then
 bif !b.1.2.2.2.2.1.2.1.2.2.2.2.2.2.2.1 then
 some
 (Sum.inl
 (0,aT b.1 (b_3.1)))
 else
 some
 (Sum.inl
 (x_1.1,aT b.1 (b_3.1)))
 else
 some
 (Sum.inl
 (x_1.1,aT b.1 (b_3.1)))
 else some (Sum.inl (x_1.1,x_1.2.2)))
 fun o=>
 Sum.elim
 (fun (x :
 Int×Int×List UInt8×List UInt8×Int×((Int×Int×Int×Int×Int×Int×Int×Bool×Bool×(Int×Int×(Int×Int×Int×Int×Int×Int×Int×Int×Bool×List az×az×Unit)×(Int×Int×(Int×List UInt8×List UInt8×List UInt8×Int×Int×Int×List aN×List ax×List ax×Int×Int×Int×Bool×List ae×List (Int×Int×(Int×Int×Bool×Int×List ae×ai)×Unit)×List ay×Unit)×Unit)×Int×List UInt8×List UInt8×Int×Int×Int×Int×(Int×Int×Bool×Int×List ae×ai)×List (Int×List ae×Unit)×List ae×Bool×(Int×Int×List (Int×Int×(Int×Int×Bool×Int×List ae×ai)×Unit)×List ay×Unit)×aH×Unit)×Unit)×(Int×Int×Int×Int×Int×Int×Int×Bool×Bool×(Int×Int×(Int×Int×Int×Int×Int×Int×Int×Int×Bool×List az×az×Unit)×(Int×Int×(Int×List UInt8×List UInt8×List UInt8×Int×Int×Int×List aN×List ax×List ax×Int×Int×Int×Bool×List ae×List (Int×Int×(Int×Int×Bool×Int×List ae×ai)×Unit)×List ay×Unit)×Unit)×Int×List UInt8×List UInt8×Int×Int×Int×Int×(Int×Int×Bool×Int×List ae×ai)×List (Int×List ae×Unit)×List ae×Bool×(Int×Int×List (Int×Int×(Int×Int×Bool×Int×List ae×ai)×Unit)×List ay×Unit)×aH×Unit)×Unit)×Unit)×(Int×Int×(Int×Int×Int×Int×Int×Int×Int×Int×Bool×List az×az×Unit)×(Int×Int×(Int×List UInt8×List UInt8×List UInt8×Int×Int×Int×List aN×List ax×List ax×Int×Int×Int×Bool×List ae×List (Int×Int×(Int×Int×Bool×Int×List ae×ai)×Unit)×List ay×Unit)×Unit)×Int×List UInt8×List UInt8×Int×Int×Int×Int×(Int×Int×Bool×Int×List ae×ai)×List (Int×List ae×Unit)×List ae×Bool×(Int×Int×List (Int×Int×(Int×Int×Bool×Int×List ae×ai)×Unit)×List ay×Unit)×aH×Unit)×Bool×aH×Int×Bool×Bool×List ae×Bool×List ae×Int×Bool×Bool×Bool×(Int×Int×List (Int×Int×(Int×Int×Bool×Int×List ae×ai)×Unit)×List ay×Unit)×Bool×lw×Int×List (Int×Int×Int×Int×Int×Int×Int×Bool×(Int×Int×(Int×Int×Int×Int×Int×Int×Int×Int×Bool×List az×az×Unit)×(Int×Int×(Int×List UInt8×List UInt8×List UInt8×Int×Int×Int×List aN×List ax×List ax×Int×Int×Int×Bool×List ae×List (Int×Int×(Int×Int×Bool×Int×List ae×ai)×Unit)×List ay×Unit)×Unit)×Int×List UInt8×List UInt8×Int×Int×Int×Int×(Int×Int×Bool×Int×List ae×ai)×List (Int×List ae×Unit)×List ae×Bool×(Int×Int×List (Int×Int×(Int×Int×Bool×Int×List ae×ai)×Unit)×List ay×Unit)×aH×Unit)×Unit)×List (Int×Int×Int×Int×Int×Int×Int×Bool×(Int×Int×(Int×Int×Int×Int×Int×Int×Int×Int×Bool×List az×az×Unit)×(Int×Int×(Int×List UInt8×List UInt8×List UInt8×Int×Int×Int×List aN×List ax×List ax×Int×Int×Int×Bool×List ae×List (Int×Int×(Int×Int×Bool×Int×List ae×ai)×Unit)×List ay×Unit)×Unit)×Int×List UInt8×List UInt8×Int×Int×Int×Int×(Int×Int×Bool×Int×List ae×ai)×List (Int×List ae×Unit)×List ae×Bool×(Int×Int×List (Int×Int×(Int×Int×Bool×Int×List ae×ai)×Unit)×List ay×Unit)×aH×Unit)×Unit)×(Int×Int×(Int×Int×Int×Int×Int×Int×Int×Int×Bool×List az×az×Unit)×(Int×Int×(Int×List UInt8×List UInt8×List UInt8×Int×Int×Int×List aN×List ax×List ax×Int×Int×Int×Bool×List ae×List (Int×Int×(Int×Int×Bool×Int×List ae×ai)×Unit)×List ay×Unit)×Unit)×Int×List UInt8×List UInt8×Int×Int×Int×Int×(Int×Int×Bool×Int×List ae×ai)×List (Int×List ae×Unit)×List ae×Bool×(Int×Int×List (Int×Int×(Int×Int×Bool×Int×List ae×ai)×Unit)×List ay×Unit)×aH×Unit)×Bool×aH×Int×List (List ae×Bool×Unit)×List (List ae×Int×Unit)×Bool×Bool×List (Int×Int×List (Int×Int×(Int×Int×Bool×Int×List ae×ai)×Unit)×List ay×Unit)×Bool×Unit)=>
 some (Sum.inl (x.1,wrap64 (x_1.2.1+1),x.2)))
 some o
 else
 Option.map Sum.inr
 ((F9a ()).bind
 fun b=>
 Option.bind
 (Jt
 (4,
 zT,
 ()))
 fun _z=>
 (Js ()).bind
 fun b_2=>
 bif !b.2.1 then
 bif !b_2.2.1 then
 (Jr ()).bind fun b=>
 bif !b.1 then
 (Jq (0,())).bind fun b=>
 some (decide (b.1=1),())
 else some (false,())
 else some (false,())
 else some (false,())))
 big
 (0,0,aT b_1.1 (b.1.2))
 else
 (F8 (x.1.1,x.1.2.1,x.1.2.2.1,x.1.2.2.2.1,0,())).bind
 fun _z=>
 none
def S3:Sig:=⟨P3,R3,F3⟩
def E3:Env:=mkE ak 167 [(4,[S4]),(5,[S5]),(6,[S6]),(7,[S7]),(8,[S8]),(9,[S9,S9a]),(10,[S10]),(11,[S11]),(12,[S12,UD]),(13,[S13]),(14,[S14]),(15,[S15,Uo]),(16,[S16,Uh]),(17,[S17,Ub])] [(17,⟨[],[1,5,7,8,11,12,13,55,56],[.site 12006000,.fld 12006000 0,.fld 12006000 1,.fld 12006000 2,.site 4010000]++hL (.fld 4010000) 0 20++[.site 3002001]++hL (.fld 3002001) 0 14++[.row 12002083,.row 12002082]⟩),(28,⟨[⟨.slot 8,(.int .i64),.pv⟩,⟨.fld 4010000 0,(.int .i64),.pv⟩,⟨.fld 4010000 1,.str,.pv⟩,⟨.fld 4010000 2,.str,.pv⟩,⟨.fld 4010000 3,(.int .i64),.pv⟩,⟨.fld 4010000 4,Y59,.pv⟩,⟨.fld 4010000 5,TM,.pv⟩,⟨.fld 4010000 6,.bool,.pv⟩,⟨.fld 4010000 7,T53,.pv⟩,⟨.fld 4010000 8,(.int .i64),.pv⟩,⟨.fld 4010000 9,.bool,.pv⟩,⟨.fld 4010000 10,.bool,.pv⟩,⟨.fld 4010000 11,(.slice T70),.pv⟩,⟨.fld 4010000 12,.bool,.pv⟩,⟨.fld 4010000 13,(.slice T70),.pv⟩,⟨.fld 4010000 14,(.int .i64),.pv⟩,⟨.fld 4010000 15,.bool,.pv⟩,⟨.fld 4010000 16,.bool,.pv⟩,⟨.fld 4010000 17,.bool,.pv⟩,⟨.fld 4010000 18,T55,.pv⟩,⟨.fld 4010000 19,.bool,.pv⟩,⟨.fld 3002001 0,Y24,.pv⟩,⟨.fld 3002001 1,(.int .i64),.pv⟩,⟨.fld 3002001 2,(.ptr gQ),.own false⟩,⟨.fld 3002001 3,(.ptr gQ),.own false⟩,⟨.fld 3002001 4,TM,.pv⟩,⟨.fld 3002001 5,.bool,.pv⟩,⟨.fld 3002001 6,T53,.pv⟩,⟨.fld 3002001 7,(.int .i64),.pv⟩,⟨.fld 3002001 8,(.ptr sV),.pv⟩,⟨.fld 3002001 9,(.ptr sU),.pv⟩,⟨.fld 3002001 10,.bool,.pv⟩,⟨.fld 3002001 11,.bool,.pv⟩,⟨.fld 3002001 12,(.ptr T55),.pv⟩,⟨.fld 3002001 13,.bool,.pv⟩],[1,5,7,55,56],[.site 4010000,.site 3002001]⟩)] [(7,bz ⟨[⟨.slot 8,(.int .i64),.pv⟩,⟨.slot 56,(.int .i64),.pv⟩,⟨.fld 4010000 0,(.int .i64),.pv⟩,⟨.fld 4010000 1,.str,.pv⟩,⟨.fld 4010000 2,.str,.pv⟩,⟨.fld 4010000 3,(.int .i64),.pv⟩,⟨.fld 4010000 4,Y59,.pv⟩,⟨.fld 4010000 5,TM,.pv⟩,⟨.fld 4010000 6,.bool,.pv⟩,⟨.fld 4010000 7,T53,.pv⟩,⟨.fld 4010000 8,(.int .i64),.pv⟩,⟨.fld 4010000 9,.bool,.pv⟩,⟨.fld 4010000 10,.bool,.pv⟩,⟨.fld 4010000 11,(.slice T70),.pv⟩,⟨.fld 4010000 12,.bool,.pv⟩,⟨.fld 4010000 13,(.slice T70),.pv⟩,⟨.fld 4010000 14,(.int .i64),.pv⟩,⟨.fld 4010000 15,.bool,.pv⟩,⟨.fld 4010000 16,.bool,.pv⟩,⟨.fld 4010000 17,.bool,.pv⟩,⟨.fld 4010000 18,T55,.pv⟩,⟨.fld 4010000 19,.bool,.pv⟩,⟨.fld 3002001 0,Y24,.pv⟩,⟨.fld 3002001 1,(.int .i64),.pv⟩,⟨.fld 3002001 2,(.ptr gQ),.own false⟩,⟨.fld 3002001 3,(.ptr gQ),.own false⟩,⟨.fld 3002001 4,TM,.pv⟩,⟨.fld 3002001 5,.bool,.pv⟩,⟨.fld 3002001 6,T53,.pv⟩,⟨.fld 3002001 7,(.int .i64),.pv⟩,⟨.fld 3002001 8,(.ptr sV),.pv⟩,⟨.fld 3002001 9,(.ptr sU),.pv⟩,⟨.fld 3002001 10,.bool,.pv⟩,⟨.fld 3002001 11,.bool,.pv⟩,⟨.fld 3002001 12,(.ptr T55),.pv⟩,⟨.fld 3002001 13,.bool,.pv⟩],[1,5,7,55],[.site 4010000,.site 3002001]⟩)]
theorem zhD x:aj E3 Tryz.f3 P3 R3 x=F3 x:=by kernel_rfl
end
end Go.Proofs.YtpfjaaofpcbejaaGreat
