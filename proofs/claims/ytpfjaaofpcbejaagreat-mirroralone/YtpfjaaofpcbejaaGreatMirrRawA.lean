/-
 Mirr: by a program of the bench (seat.py).
-/
import Derived.Test.YtpfjaaofpcbejaaGreatMirrTab
namespace Go.Proofs.YtpfjaaofpcbejaaGreat
open Go.Sx Go
set_option maxRecDepth 100000
set_option maxHeartbeats 2000000
noncomputable section
def hL (f:Nat→HLoc):Nat→Nat→List HLoc
 | _,0=>[]
 | i,n+1=>f i::hL f (i+1) n
def F90 (x:List UInt8×UInt8×Unit):Option (Bool×Unit):=
 bif decide (Int.ofNat (List.length x.1) < 1) then some (false,())
 else
 bif decide (32 < Int.ofNat (List.length x.1)) then some (false,())
 else
 zaT (Int×Unit) (Bool×Unit)
 (fun (x_1:Int×Unit)=>
 bif decide (x_1.1 < Int.ofNat (List.length x.1)) then
 (idx x.1 x_1.1).bind fun b=>
 bif decide (zax b < zax (UInt8.ofNat 33)) then some (Sum.inr (false,()))
 else
 (idx x.1 x_1.1).bind fun b=>
 bif decide (zax x.2.1 < zax b) then some (Sum.inr (false,()))
 else some (Sum.inl (wrap64 (x_1.1+1),()))
 else some (Sum.inr (true,())))
 big (0,())
def S90:Sig:=⟨P90,R90,F90⟩
noncomputable def E90:Env:={ tab:=tab.opt { flats:=[(93,L93)],owns:=[87],frzs:=[89,90,91] },nt:=31,Γ:=zaj [],joins:=zac [],loops:=zac [(4,zaI ⟨[⟨.slot 16,(.int .i64),.pv⟩],[0,1,15],[]⟩)] }
theorem zrx (x:List UInt8×UInt8×Unit):afun E90 Tryz.f90 P90 R90 x=F90 x:=by kernel_rfl
def F59 (x:List UInt8×Unit):Option (Bool×Unit):=(F90 (x.1,UInt8.ofNat 126,())).bind fun b=>some b
def S59:Sig:=⟨P59,R59,F59⟩
noncomputable def E59:Env:={ tab:=tab.opt { flats:=[(93,L93)],owns:=[87],frzs:=[89,90,91] },nt:=5,Γ:=zaj [(90,[S90])],joins:=zac [],loops:=zac [] }
theorem zr2 (x:List UInt8×Unit):afun E59 Tryz.f59 P59 R59 x=F59 x:=by kernel_rfl
def F40 (x:List UInt8×Unit):Option (Bool×Unit):=
 bif decide (Int.ofNat (List.length x.1)≤8) then (F59 x).bind fun b=>some b
 else some (false,())
def S40:Sig:=⟨P40,R40,F40⟩
noncomputable def E40:Env:={ tab:=tab.opt { flats:=[(93,L93)],owns:=[87],frzs:=[89,90,91] },nt:=10,Γ:=zaj [(59,[S59])],joins:=zac [],loops:=zac [] }
theorem zsl (x:List UInt8×Unit):afun E40 Tryz.f40 P40 R40 x=F40 x:=by kernel_rfl
def F60 (x:List UInt8×List UInt8×Unit):Option (Bool×Unit):=
 bif decide (Int.ofNat (List.length x.2.1)≤Int.ofNat (List.length x.1)) then
 (zcN x.1 0 (Int.ofNat (List.length x.2.1))).bind fun b=>
 some (decide (b=x.2.1),())
 else some (false,())
def S60:Sig:=⟨P60,R60,F60⟩
noncomputable def E60:Env:={ tab:=tab.opt { flats:=[(93,L93)],owns:=[87],frzs:=[89,90,91] },nt:=18,Γ:=zaj [],joins:=zac [],loops:=zac [] }
theorem zr1 (x:List UInt8×List UInt8×Unit):afun E60 Tryz.f60 P60 R60 x=F60 x:=by kernel_rfl
def F41 (x:List UInt8×List UInt8×Unit):Option (Bool×Unit):=(F60 x).bind fun b=>some b
def S41:Sig:=⟨P41,R41,F41⟩
noncomputable def E41:Env:={ tab:=tab.opt { flats:=[(93,L93)],owns:=[87],frzs:=[89,90,91] },nt:=8,Γ:=zaj [(60,[S60])],joins:=zac [],loops:=zac [] }
theorem zsk (x:List UInt8×List UInt8×Unit):afun E41 Tryz.f41 P41 R41 x=F41 x:=by kernel_rfl
def F20 (x:Y24D×Unit):Option (Bool×Unit):=
 bif decide (1≤x.1.1) then
 bif decide (x.1.1≤1099511627776) then
 (F40 (x.1.2.1,())).bind fun b=>
 bif b.1 then
 (F40 (x.1.2.2.1,())).bind fun b=>
 bif b.1 then
 (F41 (x.1.2.1,x.1.2.2.1,())).bind fun b=>
 bif !b.1 then
 (F41 (x.1.2.2.1,x.1.2.1,())).bind fun b=>
 some (!b.1,())
 else some (false,())
 else some (false,())
 else some (false,())
 else some (false,())
 else some (false,())
def S20:Sig:=⟨P20,R20,F20⟩
noncomputable def E20:Env:={ tab:=tab.opt { flats:=[(93,L93)],owns:=[87],frzs:=[89,90,91] },nt:=37,Γ:=zaj [(40,[S40]),(41,[S41])],joins:=zac [],loops:=zac [] }
theorem zsG (x:Y24D×Unit):afun E20 Tryz.f20 P20 R20 x=F20 x:=by kernel_rfl
def F21 (x:Int×Int×Int×Int×Int×Unit):Option ((Bool×zdN)×Int×Unit):=
 bif decide (x.1 < 8) then
 some
 ((false,0,0,0,0,0,0,0,false,
 (0,0,(0,0,0,0,0,0,0,0,false,[],(0,0,[],()),()),
 (0,0,(0,[],[],[],0,0,0,[],[],[],0,0,0,false,[],[],[],()),()),0,[],[],
 0,0,0,0,(0,0,false,0,[],0,0,()),[],[],false,(0,0,[],[],()),
 (0,0,0,[],[],0,[],0,0,0,()),()),
 ()),
 1,())
 else
 bif decide (15 < x.1) then
 some
 ((false,0,0,0,0,0,0,0,false,
 (0,0,(0,0,0,0,0,0,0,0,false,[],(0,0,[],()),()),
 (0,0,(0,[],[],[],0,0,0,[],[],[],0,0,0,false,[],[],[],()),()),0,[],
 [],0,0,0,0,(0,0,false,0,[],0,0,()),[],[],false,(0,0,[],[],()),
 (0,0,0,[],[],0,[],0,0,0,()),()),
 ()),
 1,())
 else
 bif decide (x.2.1 < 0) then
 some
 ((false,0,0,0,0,0,0,0,false,
 (0,0,(0,0,0,0,0,0,0,0,false,[],(0,0,[],()),()),
 (0,0,(0,[],[],[],0,0,0,[],[],[],0,0,0,false,[],[],[],()),()),0,[],
 [],0,0,0,0,(0,0,false,0,[],0,0,()),[],[],false,(0,0,[],[],()),
 (0,0,0,[],[],0,[],0,0,0,()),()),
 ()),
 1,())
 else
 bif decide (1 < x.2.1) then
 some
 ((false,0,0,0,0,0,0,0,false,
 (0,0,(0,0,0,0,0,0,0,0,false,[],(0,0,[],()),()),
 (0,0,(0,[],[],[],0,0,0,[],[],[],0,0,0,false,[],[],[],()),()),0,
 [],[],0,0,0,0,(0,0,false,0,[],0,0,()),[],[],false,(0,0,[],[],()),
 (0,0,0,[],[],0,[],0,0,0,()),()),
 ()),
 1,())
 else
 bif decide (x.2.2.1 < 1) then
 some
 ((false,0,0,0,0,0,0,0,false,
 (0,0,(0,0,0,0,0,0,0,0,false,[],(0,0,[],()),()),
 (0,0,(0,[],[],[],0,0,0,[],[],[],0,0,0,false,[],[],[],()),()),0,
 [],[],0,0,0,0,(0,0,false,0,[],0,0,()),[],[],false,
 (0,0,[],[],()),(0,0,0,[],[],0,[],0,0,0,()),()),
 ()),
 1,())
 else
 bif decide (3 < x.2.2.1) then
 some
 ((false,0,0,0,0,0,0,0,false,
 (0,0,(0,0,0,0,0,0,0,0,false,[],(0,0,[],()),()),
 (0,0,(0,[],[],[],0,0,0,[],[],[],0,0,0,false,[],[],[],()),()),
 0,[],[],0,0,0,0,(0,0,false,0,[],0,0,()),[],[],false,
 (0,0,[],[],()),(0,0,0,[],[],0,[],0,0,0,()),()),
 ()),
 1,())
 else
 bif decide (x.2.2.2.1 < 1) then
 some
 ((false,0,0,0,0,0,0,0,false,
 (0,0,(0,0,0,0,0,0,0,0,false,[],(0,0,[],()),()),
 (0,0,(0,[],[],[],0,0,0,[],[],[],0,0,0,false,[],[],[],()),
 ()),
 0,[],[],0,0,0,0,(0,0,false,0,[],0,0,()),[],[],false,
 (0,0,[],[],()),(0,0,0,[],[],0,[],0,0,0,()),()),
 ()),
 1,())
 else
 bif decide (100 < x.2.2.2.1) then
 some
 ((false,0,0,0,0,0,0,0,false,
 (0,0,(0,0,0,0,0,0,0,0,false,[],(0,0,[],()),()),
 (0,0,(0,[],[],[],0,0,0,[],[],[],0,0,0,false,[],[],[],()),
 ()),
 0,[],[],0,0,0,0,(0,0,false,0,[],0,0,()),[],[],false,
 (0,0,[],[],()),(0,0,0,[],[],0,[],0,0,0,()),()),
 ()),
 1,())
 else
 bif decide (x.2.2.2.2.1 < 0) then
 some
 ((false,0,0,0,0,0,0,0,false,
 (0,0,(0,0,0,0,0,0,0,0,false,[],(0,0,[],()),()),
 (0,0,(0,[],[],[],0,0,0,[],[],[],0,0,0,false,[],[],[],()),
 ()),
 0,[],[],0,0,0,0,(0,0,false,0,[],0,0,()),[],[],false,
 (0,0,[],[],()),(0,0,0,[],[],0,[],0,0,0,()),()),
 ()),
 1,())
 else
 bif decide (549755813888 < x.2.2.2.2.1) then
 some
 ((false,0,0,0,0,0,0,0,false,
 (0,0,(0,0,0,0,0,0,0,0,false,[],(0,0,[],()),()),
 (0,0,(0,[],[],[],0,0,0,[],[],[],0,0,0,false,[],[],[],()),
 ()),
 0,[],[],0,0,0,0,(0,0,false,0,[],0,0,()),[],[],false,
 (0,0,[],[],()),(0,0,0,[],[],0,[],0,0,0,()),()),
 ()),
 1,())
 else
 some
 ((true,x.1,x.2.1,x.2.2.1,x.2.2.2.1,x.2.2.2.2.1,0,0,false,
 (0,0,(0,0,0,0,0,0,0,0,false,[],(0,0,[],()),()),
 (0,0,(0,[],[],[],0,0,0,[],[],[],0,0,0,false,[],[],[],()),
 ()),
 0,[],[],0,0,0,0,(0,0,false,0,[],0,0,()),[],[],false,
 (0,0,[],[],()),(0,0,0,[],[],0,[],0,0,0,()),()),
 ()),
 0,())
def S21:Sig:=⟨P21,R21,F21⟩
noncomputable def E21:Env:={ tab:=tab.opt { flats:=[(93,L93)],owns:=[87],frzs:=[89,90,91] },nt:=57,Γ:=zaj [],joins:=zac [],loops:=zac [] }
theorem zsF (x:Int×Int×Int×Int×Int×Unit):afun E21 Tryz.f21 P21 R21 x=F21 x:=by kernel_rfl
def F7 (x:Y24D×Int×Unit):Option ((Bool×L93D)×Int×Unit):=
 (F20 (x.1,())).bind fun b=>
 bif !b.1 then
 some
 ((false,(0,[],[],(0,0,()),()),0,[],[],
 (0,0,(0,0,0,0,0,0,0,0,false,[],(0,0,[],()),()),
 (0,0,(0,[],[],[],0,0,0,[],[],[],0,0,0,false,[],[],[],()),()),0,[],
 [],0,0,0,0,(0,0,false,0,[],0,0,()),[],[],false,(0,0,[],[],()),
 (0,0,0,[],[],0,[],0,0,0,()),()),
 false,(0,0,0,[],[],0,[],0,0,0,()),0,[],[],false,false,[],false,()),
 1,())
 else
 bif decide (x.2.1 < 0) then
 some
 ((false,(0,[],[],(0,0,()),()),0,[],[],
 (0,0,(0,0,0,0,0,0,0,0,false,[],(0,0,[],()),()),
 (0,0,(0,[],[],[],0,0,0,[],[],[],0,0,0,false,[],[],[],()),()),0,[],
 [],0,0,0,0,(0,0,false,0,[],0,0,()),[],[],false,(0,0,[],[],()),
 (0,0,0,[],[],0,[],0,0,0,()),()),
 false,(0,0,0,[],[],0,[],0,0,0,()),0,[],[],false,false,[],false,()),
 1,())
 else
 bif decide (500000 < x.2.1) then
 some
 ((false,(0,[],[],(0,0,()),()),0,[],[],
 (0,0,(0,0,0,0,0,0,0,0,false,[],(0,0,[],()),()),
 (0,0,(0,[],[],[],0,0,0,[],[],[],0,0,0,false,[],[],[],()),()),0,
 [],[],0,0,0,0,(0,0,false,0,[],0,0,()),[],[],false,(0,0,[],[],()),
 (0,0,0,[],[],0,[],0,0,0,()),()),
 false,(0,0,0,[],[],0,[],0,0,0,()),0,[],[],false,false,[],false,()),
 1,())
 else
 Option.bind
 (Option.bind
 (F21 (11,0,x.1.2.2.2.1.1,8,wrap64 (x.2.1*1000000),()))
 fun b=>
 bif b.1.1 then
 bif !decide (b.2.1=0) then
 some
 (Sum.inr
 ((false,(0,[],[],(0,0,()),()),0,[],[],
 (0,0,(0,0,0,0,0,0,0,0,false,[],(0,0,[],()),()),
 (0,0,(0,[],[],[],0,0,0,[],[],[],0,0,0,false,[],[],[],()),
 ()),
 0,[],[],0,0,0,0,(0,0,false,0,[],0,0,()),[],[],false,
 (0,0,[],[],()),(0,0,0,[],[],0,[],0,0,0,()),()),
 false,(0,0,0,[],[],0,[],0,0,0,()),0,[],[],false,false,[],false,
 ()),
 b.2))
 else
 Option.bind
 (F21
 (11,wrap64 (0+1),x.1.2.2.2.1.2.1,8,
 wrap64 (x.2.1*1000000),()))
 fun b_1=>
 bif b_1.1.1 then
 bif !decide (b_1.2.1=0) then
 some
 (Sum.inr
 ((false,(0,[],[],(0,0,()),()),0,[],[],
 (0,0,(0,0,0,0,0,0,0,0,false,[],(0,0,[],()),()),
 (0,0,(0,[],[],[],0,0,0,[],[],[],0,0,0,false,[],[],[],()),
 ()),
 0,[],[],0,0,0,0,(0,0,false,0,[],0,0,()),[],[],false,
 (0,0,[],[],()),(0,0,0,[],[],0,[],0,0,0,()),
 ()),
 false,(0,0,0,[],[],0,[],0,0,0,()),0,[],[],false,false,[],
 false,()),
 b_1.2))
 else some (Sum.inl ([b.1.2],[b_1.1.2],()))
 else
 bif !decide (b_1.2.1=0) then
 some
 (Sum.inr
 ((false,(0,[],[],(0,0,()),()),0,[],[],
 (0,0,(0,0,0,0,0,0,0,0,false,[],(0,0,[],()),()),
 (0,0,(0,[],[],[],0,0,0,[],[],[],0,0,0,false,[],[],[],()),
 ()),
 0,[],[],0,0,0,0,(0,0,false,0,[],0,0,()),[],[],false,
 (0,0,[],[],()),(0,0,0,[],[],0,[],0,0,0,()),
 ()),
 false,(0,0,0,[],[],0,[],0,0,0,()),0,[],[],false,false,[],
 false,()),
 b_1.2))
 else some (Sum.inl ([b.1.2],[],()))
 else
 bif !decide (b.2.1=0) then
 some
 (Sum.inr
 ((false,(0,[],[],(0,0,()),()),0,[],[],
 (0,0,(0,0,0,0,0,0,0,0,false,[],(0,0,[],()),()),
 (0,0,(0,[],[],[],0,0,0,[],[],[],0,0,0,false,[],[],[],()),
 ()),
 0,[],[],0,0,0,0,(0,0,false,0,[],0,0,()),[],[],false,
 (0,0,[],[],()),(0,0,0,[],[],0,[],0,0,0,()),()),
 false,(0,0,0,[],[],0,[],0,0,0,()),0,[],[],false,false,[],false,
 ()),
 b.2))
 else
 Option.bind
 (F21
 (11,wrap64 (0+1),x.1.2.2.2.1.2.1,8,
 wrap64 (x.2.1*1000000),()))
 fun b=>
 bif b.1.1 then
 bif !decide (b.2.1=0) then
 some
 (Sum.inr
 ((false,(0,[],[],(0,0,()),()),0,[],[],
 (0,0,(0,0,0,0,0,0,0,0,false,[],(0,0,[],()),()),
 (0,0,(0,[],[],[],0,0,0,[],[],[],0,0,0,false,[],[],[],()),
 ()),
 0,[],[],0,0,0,0,(0,0,false,0,[],0,0,()),[],[],false,
 (0,0,[],[],()),(0,0,0,[],[],0,[],0,0,0,()),
 ()),
 false,(0,0,0,[],[],0,[],0,0,0,()),0,[],[],false,false,[],
 false,()),
 b.2))
 else some (Sum.inl ([],[b.1.2],()))
 else
 bif !decide (b.2.1=0) then
 some
 (Sum.inr
 ((false,(0,[],[],(0,0,()),()),0,[],[],
 (0,0,(0,0,0,0,0,0,0,0,false,[],(0,0,[],()),()),
 (0,0,(0,[],[],[],0,0,0,[],[],[],0,0,0,false,[],[],[],()),
 ()),
 0,[],[],0,0,0,0,(0,0,false,0,[],0,0,()),[],[],false,
 (0,0,[],[],()),(0,0,0,[],[],0,[],0,0,0,()),
 ()),
 false,(0,0,0,[],[],0,[],0,0,0,()),0,[],[],false,false,[],
 false,()),
 b.2))
 else some (Sum.inl ([],[],())))
 fun o=>
 Sum.elim
 (fun (x_1 :
 List
 (Int×Int×Int×Int×Int×Int×Int×Bool×(Int×Int×(Int×Int×Int×Int×Int×Int×Int×Int×Bool×List T25D×T25D×Unit)×(Int×Int×(Int×List UInt8×List UInt8×List UInt8×Int×Int×Int×List
 T96D×List
 T48D×List
 T48D×Int×Int×Int×Bool×List
 T70D×List
 (Int×Int×(Int×Int×Bool×Int×List
 (List
 UInt8×(Int×Int×Int×Int×List
 UInt8×Int×Bool×Unit)×Unit)×Y22D)×Unit)×List zai×Unit)×Unit)×Int×List UInt8×List UInt8×Int×Int×Int×Int×(Int×Int×Bool×Int×List
 T70D×Y22D)×List
 (Int×List
 T70D×Unit)×List
 T70D×Bool×(Int×Int×List
 (Int×Int×(Int×Int×Bool×Int×List
 (List UInt8×(Int×Int×Int×Int×List
 UInt8×Int×Bool×Unit)×Unit)×Y22D)×Unit)×List zai×Unit)×T53D×Unit)×Unit)×List
 (Int×Int×Int×Int×Int×Int×Int×Bool×(Int×Int×(Int×Int×Int×Int×Int×Int×Int×Int×Bool×List T25D×T25D×Unit)×(Int×Int×(Int×List UInt8×List UInt8×List UInt8×Int×Int×Int×List
 T96D×List
 T48D×List
 T48D×Int×Int×Int×Bool×List
 T70D×List
 (Int×Int×(Int×Int×Bool×Int×List
 (List
 UInt8×(Int×Int×Int×Int×List
 UInt8×Int×Bool×Unit)×Unit)×Y22D)×Unit)×List
 zai×Unit)×Unit)×Int×List UInt8×List UInt8×Int×Int×Int×Int×(Int×Int×Bool×Int×List
 T70D×Y22D)×List
 (Int×List
 T70D×Unit)×List
 T70D×Bool×(Int×Int×List
 (Int×Int×(Int×Int×Bool×Int×List
 (List UInt8×(Int×Int×Int×Int×List
 UInt8×Int×Bool×Unit)×Unit)×Y22D)×Unit)×List zai×Unit)×T53D×Unit)×Unit)×Unit)=>
 some
 ((true,x.1,0,x_1.1,x_1.2.1,
 (0,0,(0,0,0,0,0,0,0,0,false,[],(0,0,[],()),()),
 (0,0,(0,[],[],[],0,0,0,[],[],[],0,0,0,false,[],[],[],()),
 ()),
 0,[],[],0,0,0,0,(0,0,false,0,[],0,0,()),[],[],false,
 (0,0,[],[],()),(0,0,0,[],[],0,[],0,0,0,()),()),
 false,(0,0,0,[],[],0,[],0,0,0,()),0,[],[],false,false,[],false,
 ()),
 0,()))
 some o
def S7:Sig:=⟨P7,R7,F7⟩
noncomputable def E7:Env:={ tab:=tab.opt { flats:=[(93,L93)],owns:=[87],frzs:=[89,90,91] },nt:=49,Γ:=zaj [(20,[S20]),(21,[S21])],joins:=zac [(12,⟨[⟨.fld 3003000 2,(.ptr Y123),.own false⟩,⟨.fld 3003000 3,(.ptr Y123),.own false⟩],[6],[.site 3003000,.fld 3003000 0,.fld 3003000 1]++hL (.fld 3003000) 4 10⟩)],loops:=zac [],unr:=zac [(5,3)] }
theorem zuT (x:Y24D×Int×Unit):afun E7 Tryz.f7 P7 R7 x=F7 x:=by kernel_rfl
def F22 (x:zdN×Unit):Option (Bool×zdN×Unit):=
 some (x.1.2.2.2.2.2.2.2.1,x)
def S22:Sig:=⟨P22,R22,F22⟩
noncomputable def E22:Env:={ tab:=tab.opt { flats:=[(93,L93)],owns:=[87],frzs:=[89,90,91] },nt:=11,Γ:=zaj [],joins:=zac [],loops:=zac [] }
theorem zsE (x:zdN×Unit):afun E22 Tryz.f22 P22 R22 x=F22 x:=by kernel_rfl
def F110 (x:List T25D×Unit):Option (List T25D×Unit):=
 bif List.isEmpty x.1 then
 ziF (List T25D×Unit) (some ([],()))
 ((appO [] x.1).bind fun b=>some (b,()))
 else (appO [] x.1).bind fun b=>some (b,())
def S110:Sig:=⟨P110,R110,F110⟩
noncomputable def E110:Env:={ tab:=tab.opt { flats:=[(93,L93)],owns:=[87],frzs:=[89,90,91] },nt:=8,Γ:=zaj [],joins:=zac [],loops:=zac [] }
theorem zpc (x:List T25D×Unit):afun E110 Tryz.f110 P110 R110 x=F110 x:=by kernel_rfl
def F111 (x:List UInt8×Unit):Option (List UInt8×Unit):=
 bif List.isEmpty x.1 then
 ziF (List UInt8×Unit) (some ([],()))
 ((appU [] x.1).bind fun b=>some (b,()))
 else (appU [] x.1).bind fun b=>some (b,())
def S111:Sig:=⟨P111,R111,F111⟩
noncomputable def E111:Env:={ tab:=tab.opt { flats:=[(93,L93)],owns:=[87],frzs:=[89,90,91] },nt:=8,Γ:=zaj [],joins:=zac [],loops:=zac [] }
theorem zpb (x:List UInt8×Unit):afun E111 Tryz.f111 P111 R111 x=F111 x:=by kernel_rfl
def F70 (x:T27D×Unit):Option (T27D×Unit):=
 (F110 (x.1.2.2.2.2.2.2.2.2.2.1,())).bind
 fun b=>
 zaT (Int×List T25D×Unit)
 ((Int×Int×Int×Int×Int×Int×Int×Int×Bool×List T25D×T25D×Unit)×Unit)
 (fun (x_1:Int×List T25D×Unit)=>
 bif decide (x_1.1 < Int.ofNat (List.length b.1)) then
 (idxN x_1.2.1 x_1.1).bind fun b=>
 Option.bind x_1.2.1[b]? fun (b:T25D)=>
 (F111 b.2.2).bind fun b=>
 (idxN x_1.2.1 x_1.1).bind fun b_1=>
 Option.bind x_1.2.1[b_1]? fun (b_2:T25D)=>
 some
 (Sum.inl
 (wrap64 (x_1.1+1),
 List.set x_1.2.1 b_1 (b_2.1,b_2.2.1,b.1,b_2.2.2.2),()))
 else
 Option.map Sum.inr
 ((F111 x.1.2.2.2.2.2.2.2.2.2.2.1.2.2).bind
 fun b=>
 some
 ((x.1.1,x.1.2.1,x.1.2.2.1,x.1.2.2.2.1,x.1.2.2.2.2.1,
 x.1.2.2.2.2.2.1,x.1.2.2.2.2.2.2.1,
 x.1.2.2.2.2.2.2.2.1,x.1.2.2.2.2.2.2.2.2.1,x_1.2.1,
 (x.1.2.2.2.2.2.2.2.2.2.2.1.1,
 x.1.2.2.2.2.2.2.2.2.2.2.1.2.1,b.1,
 x.1.2.2.2.2.2.2.2.2.2.2.1.2.2.2),
 ()),
 ())))
 big (0,b)
def S70:Sig:=⟨P70,R70,F70⟩
noncomputable def E70:Env:={ tab:=tab.opt { flats:=[(93,L93)],owns:=[87],frzs:=[89,90,91] },nt:=34,Γ:=zaj [(110,[S110]),(111,[S111])],joins:=zac [],loops:=zac [(3,zaI ⟨[⟨.slot 11,(.int .i64),.pv⟩,⟨.fld 1000 9,(.slice T25),.own false⟩],[1,2,10],[.site 2000]++hL (.fld 2000) 0 11++[.site 1000]++hL (.fld 1000) 0 9++[.fld 1000 10]⟩)] }
theorem zrR (x:T27D×Unit):afun E70 Tryz.f70 P70 R70 x=F70 x:=by kernel_rfl
def F73 (x:List T70D×Unit):Option (List T70D×Unit):=
 bif List.isEmpty x.1 then
 ziF (List T70D×Unit)
 (some ([],()))
 ((appO [] x.1).bind
 fun b=>
 some (b,()))
 else
 (appO [] x.1).bind
 fun b=>
 some (b,())
def S73:Sig:=⟨P73,R73,F73⟩
noncomputable def E73:Env:={ tab:=tab.opt { flats:=[(93,L93)],owns:=[87],frzs:=[89,90,91] },nt:=8,Γ:=zaj [],joins:=zac [],loops:=zac [] }
theorem zrO (x:List T70D×Unit):afun E73 Tryz.f73 P73 R73 x=F73 x:=by kernel_rfl
def F72 (x:T51D×Unit):Option (T51D×Unit):=
 (F73 (x.1.2.2.2.2.1,())).bind
 fun b=>
 some
 ((x.1.1,x.1.2.1,x.1.2.2.1,x.1.2.2.2.1,b.1,x.1.2.2.2.2.2),
 ())
def S72:Sig:=⟨P72,R72,F72⟩
noncomputable def E72:Env:={ tab:=tab.opt { flats:=[(93,L93)],owns:=[87],frzs:=[89,90,91] },nt:=8,Γ:=zaj [(73,[S73])],joins:=zac [],loops:=zac [] }
theorem zrP (x:T51D×Unit):afun E72 Tryz.f72 P72 R72 x=F72 x:=by kernel_rfl
def F114 (x:List T94D×Unit):Option (List T94D×Unit):=
 bif List.isEmpty x.1 then
 ziF
 (List
 (Int×Int×(Int×Int×Bool×Int×List T70D×Y22D)×Unit)×Unit)
 (some ([],()))
 ((appM [] x.1).bind
 fun b=>
 some (b,()))
 else
 (appM [] x.1).bind
 fun b=>
 some (b,())
def S114:Sig:=⟨P114,R114,F114⟩
noncomputable def E114:Env:={ tab:=tab.opt { flats:=[(93,L93)],owns:=[87],frzs:=[89,90,91] },nt:=8,Γ:=zaj [],joins:=zac [],loops:=zac [] }
theorem zo8 (x:List T94D×Unit):afun E114 Tryz.f114 P114 R114 x=F114 x:=by kernel_rfl
def F75 (x:List T94D×Unit):Option (List T94D×Unit):=
 (F114 x).bind
 fun b=>
 zaT
 (List
 (Int×Int×(Int×Int×Bool×Int×List T70D×Y22D)×Unit)×Int×Unit)
 (List
 (Int×Int×(Int×Int×Bool×Int×List T70D×Y22D)×Unit)×Unit)
 (fun (x :
 List
 (Int×Int×(Int×Int×Bool×Int×List T70D×Y22D)×Unit)×Int×Unit)=>
 bif decide (x.2.1 < Int.ofNat (List.length b.1)) then
 (idxN x.1 x.2.1).bind fun b=>
 Option.bind x.1[b]?
 fun (b :
 Int×Int×(Int×Int×Bool×Int×List T70D×Y22D)×Unit)=>
 (F72 b.2.2).bind
 fun b=>
 (idxN x.1 x.2.1).bind fun b_1=>
 Option.bind x.1[b_1]?
 fun (b_2 :
 Int×Int×(Int×Int×Bool×Int×List
 T70D×Y22D)×Unit)=>
 some
 (Sum.inl
 (List.set x.1 b_1 (b_2.1,b_2.2.1,b.1,b_2.2.2.2),
 wrap64 (x.2.1+1),()))
 else some (Sum.inr (x.1,())))
 big (b.1,0,())
def S75:Sig:=⟨P75,R75,F75⟩
noncomputable def E75:Env:={ tab:=tab.opt { flats:=[(93,L93)],owns:=[87],frzs:=[89,90,91] },nt:=24,Γ:=zaj [(72,[S72]),(114,[S114])],joins:=zac [],loops:=zac [(3,zaI ⟨[⟨.slot 3,(.slice T94),.own false⟩,⟨.slot 9,(.int .i64),.pv⟩],[8],[]⟩)] }
theorem zrM (x:List T94D×Unit):afun E75 Tryz.f75 P75 R75 x=F75 x:=by kernel_rfl
def F76 (x:List zai×Unit):Option (List zai×Unit):=
 bif List.isEmpty x.1 then
 ziF (List zai×Unit) (some ([],()))
 ((appO [] x.1).bind fun b=>some (b,()))
 else (appO [] x.1).bind fun b=>some (b,())
def S76:Sig:=⟨P76,R76,F76⟩
noncomputable def E76:Env:={ tab:=tab.opt { flats:=[(93,L93)],owns:=[87],frzs:=[89,90,91] },nt:=8,Γ:=zaj [],joins:=zac [],loops:=zac [] }
theorem zrL (x:List zai×Unit):afun E76 Tryz.f76 P76 R76 x=F76 x:=by kernel_rfl
def F112 (x:List T96D×Unit):Option (List T96D×Unit):=
 bif List.isEmpty x.1 then
 ziF (List T96D×Unit) (some ([],()))
 ((appO [] x.1).bind fun b=>
 some (b,()))
 else
 (appO [] x.1).bind fun b=>
 some (b,())
def S112:Sig:=⟨P112,R112,F112⟩
noncomputable def E112:Env:={ tab:=tab.opt { flats:=[(93,L93)],owns:=[87],frzs:=[89,90,91] },nt:=8,Γ:=zaj [],joins:=zac [],loops:=zac [] }
theorem zpa (x:List T96D×Unit):afun E112 Tryz.f112 P112 R112 x=F112 x:=by kernel_rfl
def F113 (x:List T48D×Unit):Option (List T48D×Unit):=
 bif List.isEmpty x.1 then
 ziF (List T48D×Unit) (some ([],()))
 ((appO [] x.1).bind fun b=>
 some (b,()))
 else
 (appO [] x.1).bind fun b=>
 some (b,())
def S113:Sig:=⟨P113,R113,F113⟩
noncomputable def E113:Env:={ tab:=tab.opt { flats:=[(93,L93)],owns:=[87],frzs:=[89,90,91] },nt:=8,Γ:=zaj [],joins:=zac [],loops:=zac [] }
theorem zo9 (x:List T48D×Unit):afun E113 Tryz.f113 P113 R113 x=F113 x:=by kernel_rfl
def F71 (x:T28D×Unit):Option (T28D×Unit):=
 (F112 (x.1.2.2.2.2.2.2.2.1,())).bind
 fun b=>
 (F113 (x.1.2.2.2.2.2.2.2.2.1,())).bind
 fun b_1=>
 (F113 (x.1.2.2.2.2.2.2.2.2.2.1,())).bind
 fun b_2=>
 (F73 (x.1.2.2.2.2.2.2.2.2.2.2.2.2.2.2.1,())).bind
 fun b_3=>
 (F75 (x.1.2.2.2.2.2.2.2.2.2.2.2.2.2.2.2.1,())).bind
 fun b_4=>
 (F76 x.1.2.2.2.2.2.2.2.2.2.2.2.2.2.2.2.2).bind
 fun b_5=>
 some
 ((x.1.1,x.1.2.1,x.1.2.2.1,x.1.2.2.2.1,x.1.2.2.2.2.1,
 x.1.2.2.2.2.2.1,x.1.2.2.2.2.2.2.1,b.1,b_1.1,b_2.1,
 x.1.2.2.2.2.2.2.2.2.2.2.1,
 x.1.2.2.2.2.2.2.2.2.2.2.2.1,
 x.1.2.2.2.2.2.2.2.2.2.2.2.2.1,
 x.1.2.2.2.2.2.2.2.2.2.2.2.2.2.1,b_3.1,b_4.1,b_5),
 ())
def S71:Sig:=⟨P71,R71,F71⟩
noncomputable def E71:Env:={ tab:=tab.opt { flats:=[(93,L93)],owns:=[87],frzs:=[89,90,91] },nt:=28,Γ:=zaj [(73,[S73]),(75,[S75]),(76,[S76]),(112,[S112]),(113,[S113])],joins:=zac [],loops:=zac [] }
theorem zrQ (x:T28D×Unit):afun E71 Tryz.f71 P71 R71 x=F71 x:=by kernel_rfl
def F74 (x:List TBD×Unit):Option (List TBD×Unit):=
 bif List.isEmpty x.1 then
 ziF
 (List (Int×List T70D×Unit)×Unit)
 (some ([],()))
 ((appO [] x.1).bind
 fun b=>
 some (b,()))
 else
 (appO [] x.1).bind
 fun b=>
 some (b,())
def S74:Sig:=⟨P74,R74,F74⟩
noncomputable def E74:Env:={ tab:=tab.opt { flats:=[(93,L93)],owns:=[87],frzs:=[89,90,91] },nt:=8,Γ:=zaj [],joins:=zac [],loops:=zac [] }
theorem zrN (x:List TBD×Unit):afun E74 Tryz.f74 P74 R74 x=F74 x:=by kernel_rfl
def F49 (x:TMD×Unit):Option (TMD×Unit):=
 (F70 (x.1.2.2.1,())).bind
 fun b=>
 (F71 x.1.2.2.2.1.2.2).bind
 fun b_1=>
 (F72 (x.1.2.2.2.2.2.2.2.2.2.2.2.1,())).bind
 fun b_2=>
 (F73 (x.1.2.2.2.2.2.2.2.2.2.2.2.2.2.1,())).bind
 fun b_3=>
 (F74 (x.1.2.2.2.2.2.2.2.2.2.2.2.2.1,())).bind
 fun b_4=>
 zaT
 (Int×List
 (Int×List T70D×Unit)×Unit)
 ((Int×Int×(Int×Int×Int×Int×Int×Int×Int×Int×Bool×List T25D×T25D×Unit)×(Int×Int×(Int×List UInt8×List UInt8×List UInt8×Int×Int×Int×List T96D×List T48D×List T48D×Int×Int×Int×Bool×List
 T70D×List
 (Int×Int×(Int×Int×Bool×Int×List
 T70D×Y22D)×Unit)×List zai×Unit)×Unit)×Int×List UInt8×List UInt8×Int×Int×Int×Int×(Int×Int×Bool×Int×List
 T70D×Y22D)×List
 (Int×List
 T70D×Unit)×List
 T70D×Bool×(Int×Int×List
 (Int×Int×(Int×Int×Bool×Int×List
 T70D×Y22D)×Unit)×List zai×Unit)×T53D×Unit)×Unit)
 (fun (x_1 :
 Int×List
 (Int×List T70D×Unit)×Unit)=>
 bif decide (x_1.1 < Int.ofNat (List.length b_4.1)) then
 (idxN x_1.2.1 x_1.1).bind fun b=>
 Option.bind x_1.2.1[b]?
 fun (b :
 Int×List T70D×Unit)=>
 (F73 b.2).bind
 fun b=>
 (idxN x_1.2.1 x_1.1).bind fun b_5=>
 Option.bind x_1.2.1[b_5]?
 fun (b_6 :
 Int×List
 T70D×Unit)=>
 some
 (Sum.inl
 (wrap64 (x_1.1+1),
 List.set x_1.2.1 b_5 (b_6.1,b.1,b_6.2.2),()))
 else
 Option.map Sum.inr
 (Option.bind
 (F75
 (x.1.2.2.2.2.2.2.2.2.2.2.2.2.2.2.2.1.2.2.1,()))
 fun b_5=>
 Option.bind
 (F76 x.1.2.2.2.2.2.2.2.2.2.2.2.2.2.2.2.1.2.2.2)
 fun b_6=>
 some
 ((x.1.1,x.1.2.1,b.1,
 (x.1.2.2.2.1.1,x.1.2.2.2.1.2.1,b_1.1,
 x.1.2.2.2.1.2.2.2),
 x.1.2.2.2.2.1,x.1.2.2.2.2.2.1,
 x.1.2.2.2.2.2.2.1,x.1.2.2.2.2.2.2.2.1,
 x.1.2.2.2.2.2.2.2.2.1,x.1.2.2.2.2.2.2.2.2.2.1,
 x.1.2.2.2.2.2.2.2.2.2.2.1,b_2.1,x_1.2.1,b_3.1,
 x.1.2.2.2.2.2.2.2.2.2.2.2.2.2.2.1,
 (x.1.2.2.2.2.2.2.2.2.2.2.2.2.2.2.2.1.1,
 x.1.2.2.2.2.2.2.2.2.2.2.2.2.2.2.2.1.2.1,b_5.1,
 b_6.1,
 x.1.2.2.2.2.2.2.2.2.2.2.2.2.2.2.2.1.2.2.2.2),
 x.1.2.2.2.2.2.2.2.2.2.2.2.2.2.2.2.2),
 ())))
 big (0,b_4)
def S49:Sig:=⟨P49,R49,F49⟩
noncomputable def E49:Env:={ tab:=tab.opt { flats:=[(93,L93)],owns:=[87],frzs:=[89,90,91] },nt:=58,Γ:=zaj [(70,[S70]),(71,[S71]),(72,[S72]),(73,[S73]),(74,[S74]),(75,[S75]),(76,[S76])],joins:=zac [],loops:=zac [(4,zaI ⟨[⟨.slot 29,(.int .i64),.pv⟩,⟨.fld 1000 12,(.slice TB),.own false⟩],[1,2,28],[.site 2000]++hL (.fld 2000) 0 17++[.site 1000]++hL (.fld 1000) 0 12++hL (.fld 1000) 13 4++[.row 2003001]⟩)] }
theorem zsc (x:TMD×Unit):afun E49 Tryz.f49 P49 R49 x=F49 x:=by kernel_rfl
def F42 (x:zdN×Unit):Option (Y70D×zdN×Unit):=
 (F49 x.1.2.2.2.2.2.2.2.2).bind
 fun b=>
 some
 ((x.1.1,
 wrap64 (wrap64 (4*x.1.2.1)+x.1.2.2.2.2.2.1),b),
 x)
def S42:Sig:=⟨P42,R42,F42⟩
noncomputable def E42:Env:={ tab:=tab.opt { flats:=[(93,L93)],owns:=[87],frzs:=[89,90,91] },nt:=23,Γ:=zaj [(49,[S49])],joins:=zac [],loops:=zac [] }
theorem zsj (x:zdN×Unit):afun E42 Tryz.f42 P42 R42 x=F42 x:=by kernel_rfl
def F23 (x:zdN×Unit):Option (Y70D×Bool×zdN×Unit):=
 bif !x.1.2.2.2.2.2.2.2.1 then
 some
 ((0,0,
 (0,0,(0,0,0,0,0,0,0,0,false,[],(0,0,[],()),()),
 (0,0,(0,[],[],[],0,0,0,[],[],[],0,0,0,false,[],[],[],()),()),0,[],[],
 0,0,0,0,(0,0,false,0,[],0,0,()),[],[],false,(0,0,[],[],()),
 (0,0,0,[],[],0,[],0,0,0,()),()),
 ()),
 false,x)
 else
 bif decide (wrap64 (x.1.2.2.2.2.2.2.1+1) < x.1.2.2.2.1) then
 some
 ((0,0,
 (0,0,(0,0,0,0,0,0,0,0,false,[],(0,0,[],()),()),
 (0,0,(0,[],[],[],0,0,0,[],[],[],0,0,0,false,[],[],[],()),()),0,[],
 [],0,0,0,0,(0,0,false,0,[],0,0,()),[],[],false,(0,0,[],[],()),
 (0,0,0,[],[],0,[],0,0,0,()),()),
 ()),
 false,
 (x.1.1,x.1.2.1,x.1.2.2.1,x.1.2.2.2.1,x.1.2.2.2.2.1,
 x.1.2.2.2.2.2.1,wrap64 (x.1.2.2.2.2.2.2.1+1),
 x.1.2.2.2.2.2.2.2),
 ())
 else
 bif decide (wrap64 (x.1.2.2.2.2.2.2.1+1)=x.1.2.2.2.1) then
 (remO (wrap64 (x.1.2.2.2.2.2.1+1)) x.1.2.2.1).bind
 fun b=>
 Option.bind
 (F42
 ((x.1.1,x.1.2.1,x.1.2.2.1,x.1.2.2.2.1,x.1.2.2.2.2.1,b,0,
 x.1.2.2.2.2.2.2.2),
 ()))
 fun b=>
 some (b.1,true,b.2)
 else
 Option.bind
 (F42
 ((x.1.1,x.1.2.1,x.1.2.2.1,x.1.2.2.2.1,x.1.2.2.2.2.1,
 x.1.2.2.2.2.2.1,0,x.1.2.2.2.2.2.2.2),
 ()))
 fun b=>
 some (b.1,true,b.2)
def S23:Sig:=⟨P23,R23,F23⟩
noncomputable def E23:Env:={ tab:=tab.opt { flats:=[(93,L93)],owns:=[87],frzs:=[89,90,91] },nt:=58,Γ:=zaj [(42,[S42])],joins:=zac [],loops:=zac [] }
theorem zsD (x:zdN×Unit):afun E23 Tryz.f23 P23 R23 x=F23 x:=by kernel_rfl
def F61 (x:T28D×Unit):Option (TMD×Unit):=
 some
 ((2,0,(0,0,0,0,0,0,0,0,false,[],(0,0,[],()),()),(0,0,x),0,[],[],0,0,0,0,
 (0,0,false,0,[],0,0,()),[],[],false,(0,0,[],[],()),
 (0,0,0,[],[],0,[],0,0,0,()),()),
 ())
def S61:Sig:=⟨P61,R61,F61⟩
noncomputable def E61:Env:={ tab:=tab.opt { flats:=[(93,L93)],owns:=[87],frzs:=[89,90,91] },nt:=6,Γ:=zaj [],joins:=zac [],loops:=zac [] }
theorem zr0 (x:T28D×Unit):afun E61 Tryz.f61 P61 R61 x=F61 x:=by kernel_rfl
def F43 (x:L93D×Unit):Option (TMD×Int×L93D×Unit):=
 bif !decide (x.1.2.2.2.2.2.2.1.1=4) then
 Option.bind
 (F61 ((16,[],[],[],0,0,0,[],[],[],x.1.1.1,0,0,false,[],[],[],()),()))
 fun b=>
 some (b.1,1,x)
 else
 bif !decide (x.1.2.2.2.2.2.2.1.2.1=x.1.1.1) then
 Option.bind
 (F61 ((16,[],[],[],0,0,0,[],[],[],x.1.1.1,0,0,false,[],[],[],()),()))
 fun b=>
 some (b.1,1,x)
 else
 bif !x.1.2.2.2.2.2.2.2.2.2.2.2.2.2.1 then
 Option.bind
 (F61 ((11,[],[],[],0,0,0,[],[],[],x.1.1.1,0,0,false,[],[],[],()),()))
 fun b=>
 some (b.1,0,x)
 else
 some
 ((0,0,(0,0,0,0,0,0,0,0,false,[],(0,0,[],()),()),
 (0,0,(0,[],[],[],0,0,0,[],[],[],0,0,0,false,[],[],[],()),()),0,[],
 [],0,0,0,0,(0,0,false,0,[],0,0,()),[],[],false,(0,0,[],[],()),
 (0,0,0,[],[],0,[],0,0,0,()),()),
 0,x)
def S43:Sig:=⟨P43,R43,F43⟩
noncomputable def E43:Env:={ tab:=tab.opt { flats:=[(93,L93)],owns:=[87],frzs:=[89,90,91] },nt:=45,Γ:=zaj [(61,[S61])],joins:=zac [],loops:=zac [] }
theorem zsi (x:L93D×Unit):afun E43 Tryz.f43 P43 R43 x=F43 x:=by kernel_rfl
def F44 (x:L93D×Unit):Option (TMD×Int×L93D×Unit):=
 bif decide (x.1.2.2.2.2.2.2.2.1=0) then
 some
 ((7,0,(0,0,0,0,0,0,0,0,false,[],(0,0,[],()),()),
 (0,0,(0,[],[],[],0,0,0,[],[],[],0,0,0,false,[],[],[],()),()),0,[],[],
 0,0,0,0,(0,0,false,0,[],0,0,()),[],[],false,(0,0,[],[],()),
 (0,0,0,[],[],0,[],0,0,0,()),()),
 0,x)
 else
 Option.bind
 (bif decide (x.1.2.2.2.2.2.2.1.2.1=x.1.1.1) then
 some (Sum.inl (wrap64 (x.1.2.2.2.2.2.2.1.2.2.1+1),()))
 else some (Sum.inl (1,())))
 fun o=>
 Sum.elim
 (fun (x_1:Int×Unit)=>
 Option.bind
 (F61
 ((12,x.1.1.2.1,x.1.1.2.2.1,[],0,0,x.1.2.2.2.2.2.2.2.1,[],[],
 [],x.1.1.1,x_1.1,0,false,[],[],[],()),
 ()))
 fun b=>
 some (b.1,1,x))
 some o
def S44:Sig:=⟨P44,R44,F44⟩
noncomputable def E44:Env:={ tab:=tab.opt { flats:=[(93,L93)],owns:=[87],frzs:=[89,90,91] },nt:=50,Γ:=zaj [(61,[S61])],joins:=zac [(6,⟨[⟨.slot 4,(.int .i64),.pv⟩],[0,2],[.site 0]++hL (.fld 0) 0 14++[.row 3,.row 2,.site 1000]++hL (.fld 1000) 0 17⟩)],loops:=zac [] }
theorem zsh (x:L93D×Unit):afun E44 Tryz.f44 P44 R44 x=F44 x:=by kernel_rfl
def F62 (x:L93D×Int×Unit):Option (T28D×L93D×Unit):=
 some
 ((x.2.1,[],[],[],0,0,0,[],[],[],x.1.2.2.2.2.2.2.1.2.1,
 x.1.2.2.2.2.2.2.1.2.2.1,0,false,[],[],[],()),
 x.1,())
def S62:Sig:=⟨P62,R62,F62⟩
noncomputable def E62:Env:={ tab:=tab.opt { flats:=[(93,L93)],owns:=[87],frzs:=[89,90,91] },nt:=17,Γ:=zaj [],joins:=zac [],loops:=zac [] }
theorem zrZ (x:L93D×Int×Unit):afun E62 Tryz.f62 P62 R62 x=F62 x:=by kernel_rfl
def F45 (x:L93D×Unit):Option (TMD×Int×L93D×Unit):=
 bif List.isEmpty x.1.2.2.2.2.2.2.2.2.1 then
 some
 ((5,0,(0,0,0,0,0,0,0,0,false,[],(0,0,[],()),()),
 (0,0,(0,[],[],[],0,0,0,[],[],[],0,0,0,false,[],[],[],()),()),0,
 x.1.1.2.1,x.1.2.2.2.2.2.2.1.2.2.2.2.2.2.1,
 x.1.2.2.2.2.2.2.1.2.2.2.2.2.1,0,0,0,(0,0,false,0,[],0,0,()),
 [],[],false,(0,0,[],[],()),(0,0,0,[],[],0,[],0,0,0,()),()),
 0,x)
 else
 (F62 (x.1,13,())).bind
 fun b=>
 Option.bind (List.head? b.2.1.2.2.2.2.2.2.2.2.1)
 fun b_1=>
 Option.bind (List.head? b.2.1.2.2.2.2.2.2.2.2.1)
 fun b_2=>
 Option.bind (List.head? b.2.1.2.2.2.2.2.2.2.2.1)
 fun b_3=>
 bif decide (0 < Int.ofNat (List.length b_3.1)) then
 Option.bind (List.head? b.2.1.2.2.2.2.2.2.2.2.1)
 fun b_4=>
 (idx b_4.1 (wrap64 (Int.ofNat (List.length b_3.1) - 1))).bind
 fun b_5=>
 Option.bind
 (F61
 ((b.1.1,b.2.1.2.2.2.2.2.2.1.2.2.2.2.2.2.1,b_5.1,
 b.1.2.2.2.1,b.1.2.2.2.2.1,b.1.2.2.2.2.2.1,
 b.1.2.2.2.2.2.2.1,b.1.2.2.2.2.2.2.2.1,
 b.1.2.2.2.2.2.2.2.2.1,b.1.2.2.2.2.2.2.2.2.2.1,
 b.1.2.2.2.2.2.2.2.2.2.2.1,
 b.1.2.2.2.2.2.2.2.2.2.2.2.1,
 b.1.2.2.2.2.2.2.2.2.2.2.2.2.1,b_1.2.1,b_2.1,
 b.1.2.2.2.2.2.2.2.2.2.2.2.2.2.2.2),
 ()))
 fun b_6=>
 some (b_6.1,1,b.2)
 else
 Option.bind
 (F61
 ((b.1.1,b.2.1.2.2.2.2.2.2.1.2.2.2.2.2.2.1,
 b.2.1.2.2.2.2.2.2.1.2.2.2.2.2.2.1,b.1.2.2.2.1,
 b.1.2.2.2.2.1,b.1.2.2.2.2.2.1,b.1.2.2.2.2.2.2.1,
 b.1.2.2.2.2.2.2.2.1,b.1.2.2.2.2.2.2.2.2.1,
 b.1.2.2.2.2.2.2.2.2.2.1,b.1.2.2.2.2.2.2.2.2.2.2.1,
 b.1.2.2.2.2.2.2.2.2.2.2.2.1,
 b.1.2.2.2.2.2.2.2.2.2.2.2.2.1,b_1.2.1,b_2.1,
 b.1.2.2.2.2.2.2.2.2.2.2.2.2.2.2.2),
 ()))
 fun b_4=>
 some (b_4.1,1,b.2)
def S45:Sig:=⟨P45,R45,F45⟩
noncomputable def E45:Env:={ tab:=tab.opt { flats:=[(93,L93)],owns:=[87],frzs:=[89,90,91] },nt:=82,Γ:=zaj [(61,[S61]),(62,[S62])],joins:=zac [],loops:=zac [] }
theorem zsg (x:L93D×Unit):afun E45 Tryz.f45 P45 R45 x=F45 x:=by kernel_rfl
def F63 (x:List UInt8×Unit):Option (List UInt8×Unit):=
 (F40 x).bind fun b=>
 bif !b.1 then some ([],())
 else
 (idxN x.1 (wrap64 (Int.ofNat (List.length x.1) - 1))).bind fun b=>
 Option.bind x.1[b]? fun (b:UInt8)=>
 (idxN x.1 (wrap64 (Int.ofNat (List.length x.1) - 1))).bind fun b_1=>
 Option.bind x.1[b_1]? fun (_z:UInt8)=>
 some
 (List.set x.1 b_1 (Sx.byteOf (IntKind.wrap IntKind.u8 (zax b+zax (UInt8.ofNat 1)))),
 ())
def S63:Sig:=⟨P63,R63,F63⟩
noncomputable def E63:Env:={ tab:=tab.opt { flats:=[(93,L93)],owns:=[87],frzs:=[89,90,91] },nt:=19,Γ:=zaj [(40,[S40])],joins:=zac [],loops:=zac [] }
theorem zrY (x:List UInt8×Unit):afun E63 Tryz.f63 P63 R63 x=F63 x:=by kernel_rfl
def F46 (x:L93D×Unit):Option (TMD×Int×L93D×Unit):=
 Option.bind
 (bif !List.isEmpty x.1.2.2.2.2.2.2.2.2.2.1 then
 (F62 (x.1,14,())).bind
 fun b=>
 Option.bind (List.head? b.2.1.2.2.2.2.2.2.2.2.2.1)
 fun b_1=>
 Option.bind (List.head? b.2.1.2.2.2.2.2.2.2.2.2.1)
 fun b_2=>
 Option.bind
 (F61
 ((b.1.1,b.1.2.1,b.1.2.2.1,b.1.2.2.2.1,b.1.2.2.2.2.1,
 b.1.2.2.2.2.2.1,
 b.2.1.2.2.2.2.2.2.1.2.2.2.2.2.2.2.1,
 b.1.2.2.2.2.2.2.2.1,b.1.2.2.2.2.2.2.2.2.1,
 b.1.2.2.2.2.2.2.2.2.2.1,b.1.2.2.2.2.2.2.2.2.2.2.1,
 b.1.2.2.2.2.2.2.2.2.2.2.2.1,b_1.2.1,
 b.1.2.2.2.2.2.2.2.2.2.2.2.2.2.1,b_2.1,
 b.1.2.2.2.2.2.2.2.2.2.2.2.2.2.2.2),
 ()))
 fun b_3=>
 some (Sum.inr (b_3.1,1,b.2))
 else
 bif decide (x.1.2.1=1) then
 bif !x.1.2.2.2.2.2.2.2.2.2.2.2.1 then
 Option.bind
 (F61
 ((10,x.1.1.2.1,[],[],0,0,0,[],[],[],x.1.1.1,0,0,false,[],[],[],()),
 ()))
 fun b=>
 some (Sum.inr (b.1,0,x))
 else
 bif decide (x.1.2.1=1) then
 bif List.isEmpty x.1.2.2.2.2.2.2.2.2.2.2.2.2.1 then
 some
 (Sum.inr
 ((6,0,(0,0,0,0,0,0,0,0,false,[],(0,0,[],()),()),
 (0,0,(0,[],[],[],0,0,0,[],[],[],0,0,0,false,[],[],[],()),()),
 0,[],[],x.1.1.1,0,0,0,(0,0,false,0,[],0,0,()),[],[],false,
 (0,0,[],[],()),(0,0,0,[],[],0,[],0,0,0,()),()),
 0,x))
 else
 bif decide (x.1.2.1=1) then
 Option.bind (List.head? x.1.2.2.2.2.2.2.2.2.2.2.2.2.1)
 fun b=>
 bif decide (b.2.1≤x.1.2.2.2.2.2.2.1.2.2.2.2.2.2.2.1) then
 (F62 (x.1,15,())).bind
 fun b=>
 Option.bind (List.head? b.2.1.2.2.2.2.2.2.2.2.2.2.2.2.1)
 fun b_1=>
 Option.bind (List.head? b.2.1.2.2.2.2.2.2.2.2.2.2.2.2.1)
 fun b_2=>
 Option.bind (List.head? b.2.1.2.2.2.2.2.2.2.2.2.2.2.2.1)
 fun b_3=>
 Option.bind
 (F61
 ((b.1.1,b.1.2.1,b.1.2.2.1,b.1.2.2.2.1,
 b.1.2.2.2.2.1,b.1.2.2.2.2.2.1,b_1.2.1,
 b.1.2.2.2.2.2.2.2.1,b.1.2.2.2.2.2.2.2.2.1,
 b.1.2.2.2.2.2.2.2.2.2.1,
 b.1.2.2.2.2.2.2.2.2.2.2.1,
 b.1.2.2.2.2.2.2.2.2.2.2.2.1,
 b.1.2.2.2.2.2.2.2.2.2.2.2.2.1,
 b.1.2.2.2.2.2.2.2.2.2.2.2.2.2.1,
 b.1.2.2.2.2.2.2.2.2.2.2.2.2.2.2.1,b_2.2.2.1,
 b_3.2.2.2),
 ()))
 fun b_4=>
 some (Sum.inr (b_4.1,1,b.2))
 else
 some
 (Sum.inl
 (x.1.1,x.1.2.1,x.1.2.2.1,x.1.2.2.2.1,x.1.2.2.2.2.1,
 x.1.2.2.2.2.2.1,x.1.2.2.2.2.2.2.1,
 x.1.2.2.2.2.2.2.2.1,x.1.2.2.2.2.2.2.2.2.1,
 x.1.2.2.2.2.2.2.2.2.2.1,
 x.1.2.2.2.2.2.2.2.2.2.2.1,
 x.1.2.2.2.2.2.2.2.2.2.2.2.1,
 x.1.2.2.2.2.2.2.2.2.2.2.2.2.1,
 x.1.2.2.2.2.2.2.2.2.2.2.2.2.2.1,0,0,
 (0,0,0,0,0,0,0,0,false,[],(0,0,[],()),()),
 (0,0,(0,[],[],[],0,0,0,[],[],[],0,0,0,false,[],[],[],()),
 ()),
 0,[],[],0,0,0,0,(0,0,false,0,[],0,0,()),[],[],false,
 (0,0,[],[],()),(0,0,0,[],[],0,[],0,0,0,()),()))
 else
 some
 (Sum.inl
 (x.1.1,x.1.2.1,x.1.2.2.1,x.1.2.2.2.1,x.1.2.2.2.2.1,
 x.1.2.2.2.2.2.1,x.1.2.2.2.2.2.2.1,
 x.1.2.2.2.2.2.2.2.1,x.1.2.2.2.2.2.2.2.2.1,
 x.1.2.2.2.2.2.2.2.2.2.1,x.1.2.2.2.2.2.2.2.2.2.2.1,
 x.1.2.2.2.2.2.2.2.2.2.2.2.1,
 x.1.2.2.2.2.2.2.2.2.2.2.2.2.1,
 x.1.2.2.2.2.2.2.2.2.2.2.2.2.2.1,0,0,
 (0,0,0,0,0,0,0,0,false,[],(0,0,[],()),()),
 (0,0,(0,[],[],[],0,0,0,[],[],[],0,0,0,false,[],[],[],()),()),
 0,[],[],0,0,0,0,(0,0,false,0,[],0,0,()),[],[],false,
 (0,0,[],[],()),(0,0,0,[],[],0,[],0,0,0,()),()))
 else
 bif decide (x.1.2.1=1) then
 Option.bind (List.head? x.1.2.2.2.2.2.2.2.2.2.2.2.2.1)
 fun b=>
 bif decide (b.2.1≤x.1.2.2.2.2.2.2.1.2.2.2.2.2.2.2.1) then
 (F62 (x.1,15,())).bind
 fun b=>
 Option.bind (List.head? b.2.1.2.2.2.2.2.2.2.2.2.2.2.2.1)
 fun b_1=>
 Option.bind (List.head? b.2.1.2.2.2.2.2.2.2.2.2.2.2.2.1)
 fun b_2=>
 Option.bind (List.head? b.2.1.2.2.2.2.2.2.2.2.2.2.2.2.1)
 fun b_3=>
 Option.bind
 (F61
 ((b.1.1,b.1.2.1,b.1.2.2.1,b.1.2.2.2.1,
 b.1.2.2.2.2.1,b.1.2.2.2.2.2.1,b_1.2.1,
 b.1.2.2.2.2.2.2.2.1,b.1.2.2.2.2.2.2.2.2.1,
 b.1.2.2.2.2.2.2.2.2.2.1,
 b.1.2.2.2.2.2.2.2.2.2.2.1,
 b.1.2.2.2.2.2.2.2.2.2.2.2.1,
 b.1.2.2.2.2.2.2.2.2.2.2.2.2.1,
 b.1.2.2.2.2.2.2.2.2.2.2.2.2.2.1,
 b.1.2.2.2.2.2.2.2.2.2.2.2.2.2.2.1,b_2.2.2.1,
 b_3.2.2.2),
 ()))
 fun b_4=>
 some (Sum.inr (b_4.1,1,b.2))
 else
 some
 (Sum.inl
 (x.1.1,x.1.2.1,x.1.2.2.1,x.1.2.2.2.1,x.1.2.2.2.2.1,
 x.1.2.2.2.2.2.1,x.1.2.2.2.2.2.2.1,
 x.1.2.2.2.2.2.2.2.1,x.1.2.2.2.2.2.2.2.2.1,
 x.1.2.2.2.2.2.2.2.2.2.1,
 x.1.2.2.2.2.2.2.2.2.2.2.1,
 x.1.2.2.2.2.2.2.2.2.2.2.2.1,
 x.1.2.2.2.2.2.2.2.2.2.2.2.2.1,
 x.1.2.2.2.2.2.2.2.2.2.2.2.2.2.1,0,0,
 (0,0,0,0,0,0,0,0,false,[],(0,0,[],()),()),
 (0,0,(0,[],[],[],0,0,0,[],[],[],0,0,0,false,[],[],[],()),
 ()),
 0,[],[],0,0,0,0,(0,0,false,0,[],0,0,()),[],[],false,
 (0,0,[],[],()),(0,0,0,[],[],0,[],0,0,0,()),()))
 else
 some
 (Sum.inl
 (x.1.1,x.1.2.1,x.1.2.2.1,x.1.2.2.2.1,x.1.2.2.2.2.1,
 x.1.2.2.2.2.2.1,x.1.2.2.2.2.2.2.1,
 x.1.2.2.2.2.2.2.2.1,x.1.2.2.2.2.2.2.2.2.1,
 x.1.2.2.2.2.2.2.2.2.2.1,x.1.2.2.2.2.2.2.2.2.2.2.1,
 x.1.2.2.2.2.2.2.2.2.2.2.2.1,
 x.1.2.2.2.2.2.2.2.2.2.2.2.2.1,
 x.1.2.2.2.2.2.2.2.2.2.2.2.2.2.1,0,0,
 (0,0,0,0,0,0,0,0,false,[],(0,0,[],()),()),
 (0,0,(0,[],[],[],0,0,0,[],[],[],0,0,0,false,[],[],[],()),()),0,
 [],[],0,0,0,0,(0,0,false,0,[],0,0,()),[],[],false,
 (0,0,[],[],()),(0,0,0,[],[],0,[],0,0,0,()),()))
 else
 bif decide (x.1.2.1=1) then
 bif List.isEmpty x.1.2.2.2.2.2.2.2.2.2.2.2.2.1 then
 some
 (Sum.inr
 ((6,0,(0,0,0,0,0,0,0,0,false,[],(0,0,[],()),()),
 (0,0,(0,[],[],[],0,0,0,[],[],[],0,0,0,false,[],[],[],()),()),0,
 [],[],x.1.1.1,0,0,0,(0,0,false,0,[],0,0,()),[],[],false,
 (0,0,[],[],()),(0,0,0,[],[],0,[],0,0,0,()),()),
 0,x))
 else
 bif decide (x.1.2.1=1) then
 Option.bind (List.head? x.1.2.2.2.2.2.2.2.2.2.2.2.2.1)
 fun b=>
 bif decide (b.2.1≤x.1.2.2.2.2.2.2.1.2.2.2.2.2.2.2.1) then
 (F62 (x.1,15,())).bind
 fun b=>
 Option.bind (List.head? b.2.1.2.2.2.2.2.2.2.2.2.2.2.2.1)
 fun b_1=>
 Option.bind (List.head? b.2.1.2.2.2.2.2.2.2.2.2.2.2.2.1)
 fun b_2=>
 Option.bind (List.head? b.2.1.2.2.2.2.2.2.2.2.2.2.2.2.1)
 fun b_3=>
 Option.bind
 (F61
 ((b.1.1,b.1.2.1,b.1.2.2.1,b.1.2.2.2.1,
 b.1.2.2.2.2.1,b.1.2.2.2.2.2.1,b_1.2.1,
 b.1.2.2.2.2.2.2.2.1,b.1.2.2.2.2.2.2.2.2.1,
 b.1.2.2.2.2.2.2.2.2.2.1,
 b.1.2.2.2.2.2.2.2.2.2.2.1,
 b.1.2.2.2.2.2.2.2.2.2.2.2.1,
 b.1.2.2.2.2.2.2.2.2.2.2.2.2.1,
 b.1.2.2.2.2.2.2.2.2.2.2.2.2.2.1,
 b.1.2.2.2.2.2.2.2.2.2.2.2.2.2.2.1,b_2.2.2.1,
 b_3.2.2.2),
 ()))
 fun b_4=>
 some (Sum.inr (b_4.1,1,b.2))
 else
 some
 (Sum.inl
 (x.1.1,x.1.2.1,x.1.2.2.1,x.1.2.2.2.1,x.1.2.2.2.2.1,
 x.1.2.2.2.2.2.1,x.1.2.2.2.2.2.2.1,
 x.1.2.2.2.2.2.2.2.1,x.1.2.2.2.2.2.2.2.2.1,
 x.1.2.2.2.2.2.2.2.2.2.1,
 x.1.2.2.2.2.2.2.2.2.2.2.1,
 x.1.2.2.2.2.2.2.2.2.2.2.2.1,
 x.1.2.2.2.2.2.2.2.2.2.2.2.2.1,
 x.1.2.2.2.2.2.2.2.2.2.2.2.2.2.1,0,0,
 (0,0,0,0,0,0,0,0,false,[],(0,0,[],()),()),
 (0,0,(0,[],[],[],0,0,0,[],[],[],0,0,0,false,[],[],[],()),
 ()),
 0,[],[],0,0,0,0,(0,0,false,0,[],0,0,()),[],[],false,
 (0,0,[],[],()),(0,0,0,[],[],0,[],0,0,0,()),()))
 else
 some
 (Sum.inl
 (x.1.1,x.1.2.1,x.1.2.2.1,x.1.2.2.2.1,x.1.2.2.2.2.1,
 x.1.2.2.2.2.2.1,x.1.2.2.2.2.2.2.1,
 x.1.2.2.2.2.2.2.2.1,x.1.2.2.2.2.2.2.2.2.1,
 x.1.2.2.2.2.2.2.2.2.2.1,x.1.2.2.2.2.2.2.2.2.2.2.1,
 x.1.2.2.2.2.2.2.2.2.2.2.2.1,
 x.1.2.2.2.2.2.2.2.2.2.2.2.2.1,
 x.1.2.2.2.2.2.2.2.2.2.2.2.2.2.1,0,0,
 (0,0,0,0,0,0,0,0,false,[],(0,0,[],()),()),
 (0,0,(0,[],[],[],0,0,0,[],[],[],0,0,0,false,[],[],[],()),()),0,
 [],[],0,0,0,0,(0,0,false,0,[],0,0,()),[],[],false,
 (0,0,[],[],()),(0,0,0,[],[],0,[],0,0,0,()),()))
 else
 bif decide (x.1.2.1=1) then
 Option.bind (List.head? x.1.2.2.2.2.2.2.2.2.2.2.2.2.1)
 fun b=>
 bif decide (b.2.1≤x.1.2.2.2.2.2.2.1.2.2.2.2.2.2.2.1) then
 (F62 (x.1,15,())).bind
 fun b=>
 Option.bind (List.head? b.2.1.2.2.2.2.2.2.2.2.2.2.2.2.1)
 fun b_1=>
 Option.bind (List.head? b.2.1.2.2.2.2.2.2.2.2.2.2.2.2.1)
 fun b_2=>
 Option.bind (List.head? b.2.1.2.2.2.2.2.2.2.2.2.2.2.2.1)
 fun b_3=>
 Option.bind
 (F61
 ((b.1.1,b.1.2.1,b.1.2.2.1,b.1.2.2.2.1,
 b.1.2.2.2.2.1,b.1.2.2.2.2.2.1,b_1.2.1,
 b.1.2.2.2.2.2.2.2.1,b.1.2.2.2.2.2.2.2.2.1,
 b.1.2.2.2.2.2.2.2.2.2.1,
 b.1.2.2.2.2.2.2.2.2.2.2.1,
 b.1.2.2.2.2.2.2.2.2.2.2.2.1,
 b.1.2.2.2.2.2.2.2.2.2.2.2.2.1,
 b.1.2.2.2.2.2.2.2.2.2.2.2.2.2.1,
 b.1.2.2.2.2.2.2.2.2.2.2.2.2.2.2.1,b_2.2.2.1,
 b_3.2.2.2),
 ()))
 fun b_4=>
 some (Sum.inr (b_4.1,1,b.2))
 else
 some
 (Sum.inl
 (x.1.1,x.1.2.1,x.1.2.2.1,x.1.2.2.2.1,x.1.2.2.2.2.1,
 x.1.2.2.2.2.2.1,x.1.2.2.2.2.2.2.1,
 x.1.2.2.2.2.2.2.2.1,x.1.2.2.2.2.2.2.2.2.1,
 x.1.2.2.2.2.2.2.2.2.2.1,x.1.2.2.2.2.2.2.2.2.2.2.1,
 x.1.2.2.2.2.2.2.2.2.2.2.2.1,
 x.1.2.2.2.2.2.2.2.2.2.2.2.2.1,
 x.1.2.2.2.2.2.2.2.2.2.2.2.2.2.1,0,0,
 (0,0,0,0,0,0,0,0,false,[],(0,0,[],()),()),
 (0,0,(0,[],[],[],0,0,0,[],[],[],0,0,0,false,[],[],[],()),()),
 0,[],[],0,0,0,0,(0,0,false,0,[],0,0,()),[],[],false,
 (0,0,[],[],()),(0,0,0,[],[],0,[],0,0,0,()),()))
 else
 some
 (Sum.inl
 (x.1.1,x.1.2.1,x.1.2.2.1,x.1.2.2.2.1,x.1.2.2.2.2.1,
 x.1.2.2.2.2.2.1,x.1.2.2.2.2.2.2.1,
 x.1.2.2.2.2.2.2.2.1,x.1.2.2.2.2.2.2.2.2.1,
 x.1.2.2.2.2.2.2.2.2.2.1,x.1.2.2.2.2.2.2.2.2.2.2.1,
 x.1.2.2.2.2.2.2.2.2.2.2.2.1,
 x.1.2.2.2.2.2.2.2.2.2.2.2.2.1,
 x.1.2.2.2.2.2.2.2.2.2.2.2.2.2.1,0,0,
 (0,0,0,0,0,0,0,0,false,[],(0,0,[],()),()),
 (0,0,(0,[],[],[],0,0,0,[],[],[],0,0,0,false,[],[],[],()),()),0,
 [],[],0,0,0,0,(0,0,false,0,[],0,0,()),[],[],false,(0,0,[],[],()),
 (0,0,0,[],[],0,[],0,0,0,()),())))
 fun o=>
 Sum.elim
 (fun (x :
 Y24D×Int×List
 (Int×Int×Int×Int×Int×Int×Int×Bool×(Int×Int×(Int×Int×Int×Int×Int×Int×Int×Int×Bool×List T25D×T25D×Unit)×(Int×Int×(Int×List UInt8×List UInt8×List UInt8×Int×Int×Int×List
 T96D×List
 T48D×List
 T48D×Int×Int×Int×Bool×List
 T70D×List
 (Int×Int×(Int×Int×Bool×Int×List
 (List UInt8×(Int×Int×Int×Int×List
 UInt8×Int×Bool×Unit)×Unit)×Y22D)×Unit)×List zai×Unit)×Unit)×Int×List UInt8×List UInt8×Int×Int×Int×Int×(Int×Int×Bool×Int×List
 T70D×Y22D)×List
 (Int×List
 T70D×Unit)×List
 T70D×Bool×(Int×Int×List
 (Int×Int×(Int×Int×Bool×Int×List
 T70D×Y22D)×Unit)×List zai×Unit)×T53D×Unit)×Unit)×List
 (Int×Int×Int×Int×Int×Int×Int×Bool×(Int×Int×(Int×Int×Int×Int×Int×Int×Int×Int×Bool×List T25D×T25D×Unit)×(Int×Int×(Int×List UInt8×List UInt8×List UInt8×Int×Int×Int×List
 T96D×List
 T48D×List
 T48D×Int×Int×Int×Bool×List
 T70D×List
 (Int×Int×(Int×Int×Bool×Int×List
 (List UInt8×(Int×Int×Int×Int×List
 UInt8×Int×Bool×Unit)×Unit)×Y22D)×Unit)×List zai×Unit)×Unit)×Int×List UInt8×List UInt8×Int×Int×Int×Int×(Int×Int×Bool×Int×List
 T70D×Y22D)×List
 (Int×List
 T70D×Unit)×List
 T70D×Bool×(Int×Int×List
 (Int×Int×(Int×Int×Bool×Int×List
 (List UInt8×(Int×Int×Int×Int×List
 UInt8×Int×Bool×Unit)×Unit)×Y22D)×Unit)×List zai×Unit)×T53D×Unit)×Unit)×(Int×Int×(Int×Int×Int×Int×Int×Int×Int×Int×Bool×List T25D×T25D×Unit)×(Int×Int×(Int×List UInt8×List UInt8×List UInt8×Int×Int×Int×List T96D×List T48D×List T48D×Int×Int×Int×Bool×List
 T70D×List
 (Int×Int×(Int×Int×Bool×Int×List
 T70D×Y22D)×Unit)×List zai×Unit)×Unit)×Int×List UInt8×List UInt8×Int×Int×Int×Int×(Int×Int×Bool×Int×List
 T70D×Y22D)×List
 (Int×List
 T70D×Unit)×List
 T70D×Bool×(Int×Int×List
 (Int×Int×(Int×Int×Bool×Int×List
 T70D×Y22D)×Unit)×List zai×Unit)×T53D×Unit)×Bool×T53D×Int×List
 (List T70D×Bool×Unit)×List
 (List
 T70D×Int×Unit)×Bool×Bool×List
 (Int×Int×List
 (Int×Int×(Int×Int×Bool×Int×List
 T70D×Y22D)×Unit)×List zai×Unit)×Bool×Int×Int×(Int×Int×Int×Int×Int×Int×Int×Int×Bool×List T25D×T25D×Unit)×(Int×Int×(Int×List UInt8×List UInt8×List UInt8×Int×Int×Int×List
 T96D×List
 T48D×List
 T48D×Int×Int×Int×Bool×List
 T70D×List
 (Int×Int×(Int×Int×Bool×Int×List
 (List UInt8×(Int×Int×Int×Int×List
 UInt8×Int×Bool×Unit)×Unit)×Y22D)×Unit)×List zai×Unit)×Unit)×Int×List UInt8×List UInt8×Int×Int×Int×Int×(Int×Int×Bool×Int×List
 T70D×Y22D)×List
 (Int×List
 T70D×Unit)×List
 T70D×Bool×(Int×Int×List
 (Int×Int×(Int×Int×Bool×Int×List
 (List UInt8×(Int×Int×Int×Int×List
 UInt8×Int×Bool×Unit)×Unit)×Y22D)×Unit)×List zai×Unit)×T53D×Unit)=>
 (F63 (x.1.2.1,())).bind fun b=>
 some
 ((4,0,(0,0,0,0,0,0,0,0,false,[],(0,0,[],()),()),
 (0,0,(0,[],[],[],0,0,0,[],[],[],0,0,0,false,[],[],[],()),()),0,
 x.1.2.1,b.1,
 wrap64 (x.2.2.2.2.2.2.1.2.2.2.2.2.2.2.1+1),0,0,0,
 (0,0,false,0,[],0,0,()),[],[],false,(0,0,[],[],()),
 (0,0,0,[],[],0,[],0,0,0,()),()),
 0,
 (x.1,x.2.1,x.2.2.1,x.2.2.2.1,x.2.2.2.2.1,x.2.2.2.2.2.1,
 x.2.2.2.2.2.2.1,x.2.2.2.2.2.2.2.1,x.2.2.2.2.2.2.2.2.1,
 x.2.2.2.2.2.2.2.2.2.1,x.2.2.2.2.2.2.2.2.2.2.1,
 x.2.2.2.2.2.2.2.2.2.2.2.1,
 x.2.2.2.2.2.2.2.2.2.2.2.2.1,
 x.2.2.2.2.2.2.2.2.2.2.2.2.2.1,()),
 ()))
 some o
def S46:Sig:=⟨P46,R46,F46⟩
noncomputable def E46:Env:={ tab:=tab.opt { flats:=[(93,L93)],owns:=[87],frzs:=[89,90,91] },nt:=149,Γ:=zaj [(61,[S61]),(62,[S62]),(63,[S63])],joins:=zac [(13,⟨[⟨.fld 0 0,Y24,.pv⟩,⟨.fld 0 1,(.int .i64),.pv⟩,⟨.fld 0 2,(.ptr Y123),.own false⟩,⟨.fld 0 3,(.ptr Y123),.own false⟩,⟨.fld 0 4,TM,.pv⟩,⟨.fld 0 5,.bool,.pv⟩,⟨.fld 0 6,T53,.pv⟩,⟨.fld 0 7,(.int .i64),.pv⟩,⟨.fld 0 8,(.ptr Y136),.pv⟩,⟨.fld 0 9,(.ptr Y145),.pv⟩,⟨.fld 0 10,.bool,.pv⟩,⟨.fld 0 11,.bool,.pv⟩,⟨.fld 0 12,(.ptr T55),.pv⟩,⟨.fld 0 13,.bool,.pv⟩,⟨.fld 1000 0,(.int .i64),.pv⟩,⟨.fld 1000 1,(.int .i64),.pv⟩,⟨.fld 1000 2,T27,.pv⟩,⟨.fld 1000 3,T33,.pv⟩,⟨.fld 1000 4,(.int .i64),.pv⟩,⟨.fld 1000 5,.str,.pv⟩,⟨.fld 1000 6,.str,.pv⟩,⟨.fld 1000 7,(.int .i64),.pv⟩,⟨.fld 1000 8,(.int .i64),.pv⟩,⟨.fld 1000 9,(.int .i64),.pv⟩,⟨.fld 1000 10,(.int .i64),.pv⟩,⟨.fld 1000 11,T51,.pv⟩,⟨.fld 1000 12,(.slice TB),.own false⟩,⟨.fld 1000 13,(.slice T70),.own false⟩,⟨.fld 1000 14,.bool,.pv⟩,⟨.fld 1000 15,T55,.pv⟩,⟨.fld 1000 16,T53,.pv⟩],[0,2],[.site 0,.site 1000]⟩)],loops:=zac [] }
theorem zsf (x:L93D×Unit):afun E46 Tryz.f46 P46 R46 x=F46 x:=by kernel_rfl
def F24 (x:L93D×Unit):Option (TMD×Int×L93D×Unit):=
 bif !x.1.2.2.2.2.2.1 then
 some
 ((7,0,(0,0,0,0,0,0,0,0,false,[],(0,0,[],()),()),
 (0,0,(0,[],[],[],0,0,0,[],[],[],0,0,0,false,[],[],[],()),()),0,[],[],
 0,0,0,0,(0,0,false,0,[],0,0,()),[],[],false,(0,0,[],[],()),
 (0,0,0,[],[],0,[],0,0,0,()),()),
 1,x)
 else
 bif decide (x.1.2.2.2.2.2.2.1.1=3) then
 some
 ((0,0,(0,0,0,0,0,0,0,0,false,[],(0,0,[],()),()),
 (0,0,(0,[],[],[],0,0,0,[],[],[],0,0,0,false,[],[],[],()),()),0,[],[],
 0,0,0,0,(0,0,false,0,[],0,0,()),[],[],false,(0,0,[],[],()),
 (0,0,0,[],[],0,[],0,0,0,()),()),
 0,x)
 else
 bif decide (x.1.1.1 < x.1.2.2.2.2.2.2.1.2.1) then
 some
 ((0,0,(0,0,0,0,0,0,0,0,false,[],(0,0,[],()),()),
 (0,0,(0,[],[],[],0,0,0,[],[],[],0,0,0,false,[],[],[],()),()),0,[],
 [],0,0,0,0,(0,0,false,0,[],0,0,()),[],[],false,(0,0,[],[],()),
 (0,0,0,[],[],0,[],0,0,0,()),()),
 0,x)
 else
 bif decide (x.1.2.1=2) then
 (F43 x).bind
 fun b=>
 some b
 else
 bif decide (x.1.2.2.2.2.2.2.1.1=4) then
 bif decide (x.1.2.2.2.2.2.2.1.2.1=x.1.1.1) then
 (F43 x).bind
 fun b=>
 some b
 else
 bif decide (x.1.2.2.2.2.2.2.1.1=0) then
 (F44 x).bind
 fun b=>
 some b
 else
 bif decide (x.1.2.2.2.2.2.2.1.1=4) then
 (F44 x).bind
 fun b=>
 some b
 else
 bif x.1.2.2.2.2.2.2.2.2.2.2.1 then
 (F44 x).bind
 fun b=>
 some b
 else
 bif decide (x.1.2.2.2.2.2.2.1.1=1) then
 (F45 x).bind
 fun b=>
 some b
 else
 (F46 x).bind
 fun b=>
 some b
 else
 bif decide (x.1.2.2.2.2.2.2.1.1=0) then
 (F44 x).bind
 fun b=>
 some b
 else
 bif decide (x.1.2.2.2.2.2.2.1.1=4) then
 (F44 x).bind
 fun b=>
 some b
 else
 bif x.1.2.2.2.2.2.2.2.2.2.2.1 then
 (F44 x).bind
 fun b=>
 some b
 else
 bif decide (x.1.2.2.2.2.2.2.1.1=1) then
 (F45 x).bind
 fun b=>
 some b
 else
 (F46 x).bind
 fun b=>
 some b
def S24:Sig:=⟨P24,R24,F24⟩
noncomputable def E24:Env:={ tab:=tab.opt { flats:=[(93,L93)],owns:=[87],frzs:=[89,90,91] },nt:=91,Γ:=zaj [(43,[S43]),(44,[S44]),(45,[S45]),(46,[S46])],joins:=zac [],loops:=zac [] }
theorem zsC (x:L93D×Unit):afun E24 Tryz.f24 P24 R24 x=F24 x:=by kernel_rfl
def F47 (x:Int×Unit):Option (Int×Unit):=
 bif decide (x.1=2) then
 bif decide (x.1=2) then some (8,())
 else
 bif decide (x.1=4) then some (9,())
 else
 bif decide (x.1=5) then some (10,())
 else
 bif decide (x.1=6) then some (11,())
 else bif decide (x.1=7) then some (12,()) else some (0,())
 else
 bif decide (x.1=3) then some (8,())
 else
 bif decide (x.1=4) then some (9,())
 else
 bif decide (x.1=5) then some (10,())
 else
 bif decide (x.1=6) then some (11,())
 else bif decide (x.1=7) then some (12,()) else some (0,())
def S47:Sig:=⟨P47,R47,F47⟩
noncomputable def E47:Env:={ tab:=tab.opt { flats:=[(93,L93)],owns:=[87],frzs:=[89,90,91] },nt:=15,Γ:=zaj [],joins:=zac [],loops:=zac [] }
theorem zse (x:Int×Unit):afun E47 Tryz.f47 P47 R47 x=F47 x:=by kernel_rfl
def F133 (x:List UInt8×List UInt8×Unit):Option (Bool×Unit):=some (decide (x.1=x.2.1),())
def S133:Sig:=⟨P133,R133,F133⟩
noncomputable def E133:Env:={ tab:=tab.opt { flats:=[(93,L93)],owns:=[87],frzs:=[89,90,91] },nt:=10,Γ:=zaj [],joins:=zac [],loops:=zac [] }
theorem zoP (x:List UInt8×List UInt8×Unit):afun E133 Tryz.f133 P133 R133 x=F133 x:=by kernel_rfl
def F168 (x:T25D×T25D×Unit):Option (Bool×Unit):=
 bif decide (x.1.1=x.2.1.1) then
 bif decide (x.1.2.1=x.2.1.2.1) then
 (F133 (x.1.2.2.1,x.2.1.2.2)).bind fun b=>some b
 else some (false,())
 else some (false,())
def S168:Sig:=⟨P168,R168,F168⟩
noncomputable def E168:Env:={ tab:=tab.opt { flats:=[(93,L93)],owns:=[87],frzs:=[89,90,91] },nt:=24,Γ:=zaj [(133,[S133])],joins:=zac [],loops:=zac [] }
theorem zok (x:T25D×T25D×Unit):afun E168 Tryz.f168 P168 R168 x=F168 x:=by kernel_rfl
def zue (x:List T25D×List T25D×Unit):Option (Bool×Unit):=
 bif !decide (Int.ofNat (List.length x.1)=Int.ofNat (List.length x.2.1)) then some (false,())
 else
 zaT (Int×Unit) (Bool×Unit)
 (fun (x_1:Int×Unit)=>
 bif decide (x_1.1 < Int.ofNat (List.length x.1)) then
 (idx x.1 x_1.1).bind fun b=>
 (idx x.2.1 x_1.1).bind fun b_1=>
 (F168 (b,b_1,())).bind fun b=>
 bif !b.1 then some (Sum.inr (false,()))
 else some (Sum.inl (wrap64 (x_1.1+1),()))
 else some (Sum.inr (true,())))
 big (0,())
def zv5:Sig:=⟨zxT,zxB,zue⟩
noncomputable def zyf:Env:={ tab:=tab.opt { flats:=[(93,L93)],owns:=[87],frzs:=[89,90,91] },nt:=32,Γ:=zaj [(168,[S168])],joins:=zac [],loops:=zac [(4,zaI ⟨[⟨.slot 17,(.int .i64),.pv⟩],[1,2,15,16],[]⟩)] }
theorem zmB (x:List T25D×List T25D×Unit):afun zyf Tryz.f167 zxT zxB x=zue x:=by kernel_rfl
def F132 (x:List T25D×List T25D×Unit):Option (Bool×Unit):=
 (zue x).bind fun b=>some b
def S132:Sig:=⟨P132,R132,F132⟩
noncomputable def E132:Env:={ tab:=tab.opt { flats:=[(93,L93)],owns:=[87],frzs:=[89,90,91] },nt:=8,Γ:=zaj [(167,[zv5]),(168,[S168])],joins:=zac [],loops:=zac [] }
theorem zoQ (x:List T25D×List T25D×Unit):afun E132 Tryz.f132 P132 R132 x=F132 x:=by kernel_rfl
def F91 (x:T27D×T27D×Unit):Option (Bool×Unit):=
 bif decide (x.1.1=x.2.1.1) then
 bif decide (x.1.2.1=x.2.1.2.1) then
 bif decide (x.1.2.2.1=x.2.1.2.2.1) then
 bif decide (x.1.2.2.2.1=x.2.1.2.2.2.1) then
 bif decide (x.1.2.2.2.2.1=x.2.1.2.2.2.2.1) then
 bif decide (x.1.2.2.2.2.2.1=x.2.1.2.2.2.2.2.1) then
 bif decide (x.1.2.2.2.2.2.2.1=x.2.1.2.2.2.2.2.2.1) then
 bif decide (x.1.2.2.2.2.2.2.2.1=x.2.1.2.2.2.2.2.2.2.1) then
 bif x.1.2.2.2.2.2.2.2.2.1 == x.2.1.2.2.2.2.2.2.2.2.1 then
 Option.bind
 (F132
 (x.1.2.2.2.2.2.2.2.2.2.1,
 x.2.1.2.2.2.2.2.2.2.2.2.1,()))
 fun b=>
 bif b.1 then
 bif
 decide
 (x.1.2.2.2.2.2.2.2.2.2.2.1.1 =
 x.2.1.2.2.2.2.2.2.2.2.2.2.1.1) then
 bif
 decide
 (x.1.2.2.2.2.2.2.2.2.2.2.1.2.1 =
 x.2.1.2.2.2.2.2.2.2.2.2.2.1.2.1) then
 Option.bind
 (F133
 (x.1.2.2.2.2.2.2.2.2.2.2.1.2.2.1,
 x.2.1.2.2.2.2.2.2.2.2.2.2.1.2.2))
 fun b=>some b
 else some (false,())
 else some (false,())
 else some (false,())
 else some (false,())
 else some (false,())
 else some (false,())
 else some (false,())
 else some (false,())
 else some (false,())
 else some (false,())
 else some (false,())
 else some (false,())
def S91:Sig:=⟨P91,R91,F91⟩
noncomputable def E91:Env:={ tab:=tab.opt { flats:=[(93,L93)],owns:=[87],frzs:=[89,90,91] },nt:=100,Γ:=zaj [(132,[S132]),(133,[S133])],joins:=zac [],loops:=zac [] }
theorem zrv (x:T27D×T27D×Unit):afun E91 Tryz.f91 P91 R91 x=F91 x:=by kernel_rfl
def F134 (x:List T96D×List T96D×Unit):Option (Bool×Unit):=
 bif !decide (Int.ofNat (List.length x.1)=Int.ofNat (List.length x.2.1)) then some (false,())
 else
 zaT (Int×Unit) (Bool×Unit)
 (fun (x_1:Int×Unit)=>
 bif decide (x_1.1 < Int.ofNat (List.length x.1)) then
 (idx x.1 x_1.1).bind fun b=>
 (idx x.2.1 x_1.1).bind fun b_1=>
 bif
 !(decide (b.1=b_1.1) &&
 (decide (b.2.1=b_1.2.1) &&
 (decide (b.2.2.1=b_1.2.2.1) &&
 (decide (b.2.2.2.1=b_1.2.2.2.1) &&
 (decide (b.2.2.2.2.1=b_1.2.2.2.2.1) && true))))) then
 some (Sum.inr (false,()))
 else some (Sum.inl (wrap64 (x_1.1+1),()))
 else some (Sum.inr (true,())))
 big (0,())
def S134:Sig:=⟨P134,R134,F134⟩
noncomputable def E134:Env:={ tab:=tab.opt { flats:=[(93,L93)],owns:=[87],frzs:=[89,90,91] },nt:=26,Γ:=zaj [],joins:=zac [],loops:=zac [(4,zaI ⟨[⟨.slot 13,(.int .i64),.pv⟩],[0,1,12],[]⟩)] }
theorem zoO (x:List T96D×List T96D×Unit):afun E134 Tryz.f134 P134 R134 x=F134 x:=by kernel_rfl
def F135 (x:List T48D×List T48D×Unit):Option (Bool×Unit):=
 bif !decide (Int.ofNat (List.length x.1)=Int.ofNat (List.length x.2.1)) then some (false,())
 else
 zaT (Int×Unit) (Bool×Unit)
 (fun (x_1:Int×Unit)=>
 bif decide (x_1.1 < Int.ofNat (List.length x.1)) then
 (idx x.1 x_1.1).bind fun b=>
 (idx x.2.1 x_1.1).bind fun b_1=>
 bif
 !(decide (b.1=b_1.1) &&
 (decide (b.2.1=b_1.2.1) &&
 (decide (b.2.2.1=b_1.2.2.1) &&
 (decide (b.2.2.2.1=b_1.2.2.2.1) &&
 (decide (b.2.2.2.2.1=b_1.2.2.2.2.1) && true))))) then
 some (Sum.inr (false,()))
 else some (Sum.inl (wrap64 (x_1.1+1),()))
 else some (Sum.inr (true,())))
 big (0,())
def S135:Sig:=⟨P135,R135,F135⟩
noncomputable def E135:Env:={ tab:=tab.opt { flats:=[(93,L93)],owns:=[87],frzs:=[89,90,91] },nt:=26,Γ:=zaj [],joins:=zac [],loops:=zac [(4,zaI ⟨[⟨.slot 13,(.int .i64),.pv⟩],[0,1,12],[]⟩)] }
theorem zoN (x:List T48D×List T48D×Unit):afun E135 Tryz.f135 P135 R135 x=F135 x:=by kernel_rfl
def F95 (x:List T70D×List T70D×Unit):Option (Bool×Unit):=
 bif !decide (Int.ofNat (List.length x.1)=Int.ofNat (List.length x.2.1)) then some (false,())
 else
 zaT (Int×Unit) (Bool×Unit)
 (fun (x_1:Int×Unit)=>
 bif decide (x_1.1 < Int.ofNat (List.length x.1)) then
 (idx x.1 x_1.1).bind
 fun b=>
 (idx x.2.1 x_1.1).bind
 fun b_1=>
 bif
 !(decide (b.1=b_1.1) &&
 (decide (b.2.1.1=b_1.2.1.1) &&
 (decide (b.2.1.2.1=b_1.2.1.2.1) &&
 (decide (b.2.1.2.2.1=b_1.2.1.2.2.1) &&
 (decide (b.2.1.2.2.2.1=b_1.2.1.2.2.2.1) &&
 (decide (b.2.1.2.2.2.2.1=b_1.2.1.2.2.2.2.1) &&
 (decide (b.2.1.2.2.2.2.2.1=b_1.2.1.2.2.2.2.2.1) &&
 (b.2.1.2.2.2.2.2.2.1 == b_1.2.1.2.2.2.2.2.2.1 &&
 true)))))) &&
 true)) then
 some (Sum.inr (false,()))
 else some (Sum.inl (wrap64 (x_1.1+1),()))
 else some (Sum.inr (true,())))
 big (0,())
def S95:Sig:=⟨P95,R95,F95⟩
noncomputable def E95:Env:={ tab:=tab.opt { flats:=[(93,L93)],owns:=[87],frzs:=[89,90,91] },nt:=26,Γ:=zaj [],joins:=zac [],loops:=zac [(4,zaI ⟨[⟨.slot 13,(.int .i64),.pv⟩],[0,1,12],[]⟩)] }
theorem zrq (x:List T70D×List T70D×Unit):afun E95 Tryz.f95 P95 R95 x=F95 x:=by kernel_rfl
def F136 (x:List T70D×List T70D×Unit):Option (Bool×Unit):=
 (F95 x).bind fun b=>some b
def S136:Sig:=⟨P136,R136,F136⟩
noncomputable def E136:Env:={ tab:=tab.opt { flats:=[(93,L93)],owns:=[87],frzs:=[89,90,91] },nt:=8,Γ:=zaj [(95,[S95])],joins:=zac [],loops:=zac [] }
theorem zoM (x:List T70D×List T70D×Unit):afun E136 Tryz.f136 P136 R136 x=F136 x:=by kernel_rfl
def F93 (x:T51D×T51D×Unit):Option (Bool×Unit):=
 bif decide (x.1.1=x.2.1.1) then
 bif decide (x.1.2.1=x.2.1.2.1) then
 bif x.1.2.2.1 == x.2.1.2.2.1 then
 bif decide (x.1.2.2.2.1=x.2.1.2.2.2.1) then
 bif decide (x.1.2.2.2.2.2.1=x.2.1.2.2.2.2.2.1) then
 bif decide (x.1.2.2.2.2.2.2.1=x.2.1.2.2.2.2.2.2.1) then
 (F136 (x.1.2.2.2.2.1,x.2.1.2.2.2.2.1,())).bind
 fun b=>some b
 else some (false,())
 else some (false,())
 else some (false,())
 else some (false,())
 else some (false,())
 else some (false,())
def S93:Sig:=⟨P93,R93,F93⟩
noncomputable def E93:Env:={ tab:=tab.opt { flats:=[(93,L93)],owns:=[87],frzs:=[89,90,91] },nt:=52,Γ:=zaj [(136,[S136])],joins:=zac [],loops:=zac [] }
theorem zrt (x:T51D×T51D×Unit):afun E93 Tryz.f93 P93 R93 x=F93 x:=by kernel_rfl
def F170 (x:T94D×T94D×Unit):Option (Bool×Unit):=
 bif decide (x.1.1=x.2.1.1) then
 bif decide (x.1.2.1=x.2.1.2.1) then
 (F93 (x.1.2.2.1,x.2.1.2.2)).bind fun b=>some b
 else some (false,())
 else some (false,())
def S170:Sig:=⟨P170,R170,F170⟩
noncomputable def E170:Env:={ tab:=tab.opt { flats:=[(93,L93)],owns:=[87],frzs:=[89,90,91] },nt:=24,Γ:=zaj [(93,[S93])],joins:=zac [],loops:=zac [] }
theorem zoi (x:T94D×T94D×Unit):afun E170 Tryz.f170 P170 R170 x=F170 x:=by kernel_rfl
def zq2 (x:List T94D×List T94D×Unit):Option (Bool×Unit):=
 bif !decide (Int.ofNat (List.length x.1)=Int.ofNat (List.length x.2.1)) then some (false,())
 else
 zaT (Int×Unit) (Bool×Unit)
 (fun (x_1:Int×Unit)=>
 bif decide (x_1.1 < Int.ofNat (List.length x.1)) then
 (idx x.1 x_1.1).bind
 fun b=>
 (idx x.2.1 x_1.1).bind
 fun b_1=>
 (F170 (b,b_1,())).bind fun b=>
 bif !b.1 then some (Sum.inr (false,()))
 else some (Sum.inl (wrap64 (x_1.1+1),()))
 else some (Sum.inr (true,())))
 big (0,())
def zv4:Sig:=⟨zxS,zxA,zq2⟩
noncomputable def zye:Env:={ tab:=tab.opt { flats:=[(93,L93)],owns:=[87],frzs:=[89,90,91] },nt:=32,Γ:=zaj [(170,[S170])],joins:=zac [],loops:=zac [(4,zaI ⟨[⟨.slot 17,(.int .i64),.pv⟩],[1,2,15,16],[]⟩)] }
theorem zmA (x:List T94D×List T94D×Unit):afun zye Tryz.f169 zxS zxA x=zq2 x:=by kernel_rfl
def F137 (x:List T94D×List T94D×Unit):Option (Bool×Unit):=
 (zq2 x).bind fun b=>some b
def S137:Sig:=⟨P137,R137,F137⟩
noncomputable def E137:Env:={ tab:=tab.opt { flats:=[(93,L93)],owns:=[87],frzs:=[89,90,91] },nt:=8,Γ:=zaj [(169,[zv4]),(170,[S170])],joins:=zac [],loops:=zac [] }
theorem zoL (x:List T94D×List T94D×Unit):afun E137 Tryz.f137 P137 R137 x=F137 x:=by kernel_rfl
def F138 (x:List zai×List zai×Unit):Option (Bool×Unit):=
 bif !decide (Int.ofNat (List.length x.1)=Int.ofNat (List.length x.2.1)) then some (false,())
 else
 zaT (Int×Unit) (Bool×Unit)
 (fun (x_1:Int×Unit)=>
 bif decide (x_1.1 < Int.ofNat (List.length x.1)) then
 (idx x.1 x_1.1).bind fun b=>
 (idx x.2.1 x_1.1).bind fun b_1=>
 bif
 !(decide (b.1=b_1.1) &&
 (decide (b.2.1=b_1.2.1) && (decide (b.2.2.1=b_1.2.2.1) && true))) then
 some (Sum.inr (false,()))
 else some (Sum.inl (wrap64 (x_1.1+1),()))
 else some (Sum.inr (true,())))
 big (0,())
def S138:Sig:=⟨P138,R138,F138⟩
noncomputable def E138:Env:={ tab:=tab.opt { flats:=[(93,L93)],owns:=[87],frzs:=[89,90,91] },nt:=26,Γ:=zaj [],joins:=zac [],loops:=zac [(4,zaI ⟨[⟨.slot 13,(.int .i64),.pv⟩],[0,1,12],[]⟩)] }
theorem zoK (x:List zai×List zai×Unit):afun E138 Tryz.f138 P138 R138 x=F138 x:=by kernel_rfl
def F92 (x:T28D×T28D×Unit):Option (Bool×Unit):=
 bif decide (x.1.1=x.2.1.1) then
 bif decide (x.1.2.1=x.2.1.2.1) then
 bif decide (x.1.2.2.1=x.2.1.2.2.1) then
 bif decide (x.1.2.2.2.1=x.2.1.2.2.2.1) then
 bif decide (x.1.2.2.2.2.1=x.2.1.2.2.2.2.1) then
 bif decide (x.1.2.2.2.2.2.1=x.2.1.2.2.2.2.2.1) then
 bif decide (x.1.2.2.2.2.2.2.1=x.2.1.2.2.2.2.2.2.1) then
 bif
 decide
 (x.1.2.2.2.2.2.2.2.2.2.2.1 =
 x.2.1.2.2.2.2.2.2.2.2.2.2.1) then
 bif
 decide
 (x.1.2.2.2.2.2.2.2.2.2.2.2.1 =
 x.2.1.2.2.2.2.2.2.2.2.2.2.2.1) then
 bif
 decide
 (x.1.2.2.2.2.2.2.2.2.2.2.2.2.1 =
 x.2.1.2.2.2.2.2.2.2.2.2.2.2.2.1) then
 bif
 x.1.2.2.2.2.2.2.2.2.2.2.2.2.2.1 ==
 x.2.1.2.2.2.2.2.2.2.2.2.2.2.2.2.1 then
 Option.bind
 (F134
 (x.1.2.2.2.2.2.2.2.1,x.2.1.2.2.2.2.2.2.2.1,
 ()))
 fun b=>
 bif b.1 then
 Option.bind
 (F135
 (x.1.2.2.2.2.2.2.2.2.1,
 x.2.1.2.2.2.2.2.2.2.2.1,()))
 fun b=>
 bif b.1 then
 Option.bind
 (F135
 (x.1.2.2.2.2.2.2.2.2.2.1,
 x.2.1.2.2.2.2.2.2.2.2.2.1,()))
 fun b=>
 bif b.1 then
 Option.bind
 (F136
 (x.1.2.2.2.2.2.2.2.2.2.2.2.2.2.2.1,
 x.2.1.2.2.2.2.2.2.2.2.2.2.2.2.2.2.1,
 ()))
 fun b=>
 bif b.1 then
 Option.bind
 (F137
 (x.1.2.2.2.2.2.2.2.2.2.2.2.2.2.2.2.1,
 x.2.1.2.2.2.2.2.2.2.2.2.2.2.2.2.2.2.1,
 ()))
 fun b=>
 bif b.1 then
 Option.bind
 (F138
 (x.1.2.2.2.2.2.2.2.2.2.2.2.2.2.2.2.2.1,
 x.2.1.2.2.2.2.2.2.2.2.2.2.2.2.2.2.2.2))
 fun b=>some b
 else some (false,())
 else some (false,())
 else some (false,())
 else some (false,())
 else some (false,())
 else some (false,())
 else some (false,())
 else some (false,())
 else some (false,())
 else some (false,())
 else some (false,())
 else some (false,())
 else some (false,())
 else some (false,())
 else some (false,())
 else some (false,())
def S92:Sig:=⟨P92,R92,F92⟩
noncomputable def E92:Env:={ tab:=tab.opt { flats:=[(93,L93)],owns:=[87],frzs:=[89,90,91] },nt:=122,Γ:=zaj [(134,[S134]),(135,[S135]),(136,[S136]),(137,[S137]),(138,[S138])],joins:=zac [],loops:=zac [] }
theorem zru (x:T28D×T28D×Unit):afun E92 Tryz.f92 P92 R92 x=F92 x:=by kernel_rfl
def F140 (x:TBD×TBD×Unit):Option (Bool×Unit):=
 bif decide (x.1.1=x.2.1.1) then
 (F95 (x.1.2.1,x.2.1.2)).bind fun b=>some b
 else some (false,())
def S140:Sig:=⟨P140,R140,F140⟩
noncomputable def E140:Env:={ tab:=tab.opt { flats:=[(93,L93)],owns:=[87],frzs:=[89,90,91] },nt:=17,Γ:=zaj [(95,[S95])],joins:=zac [],loops:=zac [] }
theorem zoJ (x:TBD×TBD×Unit):afun E140 Tryz.f140 P140 R140 x=F140 x:=by kernel_rfl
def zq6 (x:List TBD×List TBD×Unit):Option (Bool×Unit):=
 bif !decide (Int.ofNat (List.length x.1)=Int.ofNat (List.length x.2.1)) then some (false,())
 else
 zaT (Int×Unit) (Bool×Unit)
 (fun (x_1:Int×Unit)=>
 bif decide (x_1.1 < Int.ofNat (List.length x.1)) then
 (idx x.1 x_1.1).bind
 fun b=>
 (idx x.2.1 x_1.1).bind
 fun b_1=>
 (F140 (b,b_1,())).bind fun b=>
 bif !b.1 then some (Sum.inr (false,()))
 else some (Sum.inl (wrap64 (x_1.1+1),()))
 else some (Sum.inr (true,())))
 big (0,())
def zv9:Sig:=⟨zxY,zxG,zq6⟩
noncomputable def zyk:Env:={ tab:=tab.opt { flats:=[(93,L93)],owns:=[87],frzs:=[89,90,91] },nt:=32,Γ:=zaj [(140,[S140])],joins:=zac [],loops:=zac [(4,zaI ⟨[⟨.slot 17,(.int .i64),.pv⟩],[1,2,15,16],[]⟩)] }
theorem zmG (x:List TBD×List TBD×Unit):afun zyk Tryz.f139 zxY zxG x=zq6 x:=by kernel_rfl
def F94 (x:List TBD×List TBD×Unit):Option (Bool×Unit):=
 (zq6 x).bind fun b=>some b
def S94:Sig:=⟨P94,R94,F94⟩
noncomputable def E94:Env:={ tab:=tab.opt { flats:=[(93,L93)],owns:=[87],frzs:=[89,90,91] },nt:=8,Γ:=zaj [(139,[zv9]),(140,[S140])],joins:=zac [],loops:=zac [] }
theorem zrr (x:List TBD×List TBD×Unit):afun E94 Tryz.f94 P94 R94 x=F94 x:=by kernel_rfl
def F96 (x:T55D×T55D×Unit):Option (Bool×Unit):=
 bif decide (x.1.1=x.2.1.1) then
 bif decide (x.1.2.1=x.2.1.2.1) then
 Option.bind
 (F92
 ((0,[],[],[],0,0,0,[],[],[],0,0,0,false,[],x.1.2.2),
 (0,[],[],[],0,0,0,[],[],[],0,0,0,false,[],x.2.1.2.2),()))
 fun b=>some b
 else some (false,())
 else some (false,())
def S96:Sig:=⟨P96,R96,F96⟩
noncomputable def E96:Env:={ tab:=tab.opt { flats:=[(93,L93)],owns:=[87],frzs:=[89,90,91] },nt:=30,Γ:=zaj [(92,[S92])],joins:=zac [],loops:=zac [] }
theorem zrp (x:T55D×T55D×Unit):afun E96 Tryz.f96 P96 R96 x=F96 x:=by kernel_rfl
def F64 (x:TMD×TMD×Unit):Option (Bool×Unit):=
 bif decide (x.1.1=x.2.1.1) then
 bif decide (x.1.2.1=x.2.1.2.1) then
 (F91 (x.1.2.2.1,x.2.1.2.2.1,())).bind fun b=>
 bif b.1 then
 bif decide (x.1.2.2.2.1.1=x.2.1.2.2.2.1.1) then
 bif decide (x.1.2.2.2.1.2.1=x.2.1.2.2.2.1.2.1) then
 (F92 (x.1.2.2.2.1.2.2.1,x.2.1.2.2.2.1.2.2)).bind
 fun b=>
 bif b.1 then
 bif decide (x.1.2.2.2.2.1=x.2.1.2.2.2.2.1) then
 bif decide (x.1.2.2.2.2.2.1=x.2.1.2.2.2.2.2.1) then
 bif decide (x.1.2.2.2.2.2.2.1=x.2.1.2.2.2.2.2.2.1) then
 bif
 decide
 (x.1.2.2.2.2.2.2.2.1=x.2.1.2.2.2.2.2.2.2.1) then
 bif
 decide
 (x.1.2.2.2.2.2.2.2.2.1 =
 x.2.1.2.2.2.2.2.2.2.2.1) then
 bif
 decide
 (x.1.2.2.2.2.2.2.2.2.2.1 =
 x.2.1.2.2.2.2.2.2.2.2.2.1) then
 bif
 decide
 (x.1.2.2.2.2.2.2.2.2.2.2.1 =
 x.2.1.2.2.2.2.2.2.2.2.2.2.1) then
 Option.bind
 (F93
 (x.1.2.2.2.2.2.2.2.2.2.2.2.1,
 x.2.1.2.2.2.2.2.2.2.2.2.2.2.1,()))
 fun b=>
 bif b.1 then
 Option.bind
 (F94
 (x.1.2.2.2.2.2.2.2.2.2.2.2.2.1,
 x.2.1.2.2.2.2.2.2.2.2.2.2.2.2.1,()))
 fun b=>
 bif b.1 then
 Option.bind
 (F95
 (x.1.2.2.2.2.2.2.2.2.2.2.2.2.2.1,
 x.2.1.2.2.2.2.2.2.2.2.2.2.2.2.2.1,
 ()))
 fun b=>
 bif b.1 then
 bif
 x.1.2.2.2.2.2.2.2.2.2.2.2.2.2.2.1 ==
 x.2.1.2.2.2.2.2.2.2.2.2.2.2.2.2.2.1 then
 Option.bind
 (F96
 (x.1.2.2.2.2.2.2.2.2.2.2.2.2.2.2.2.1,
 x.2.1.2.2.2.2.2.2.2.2.2.2.2.2.2.2.2.1,
 ()))
 fun b=>
 bif b.1 then
 some
 (decide
 (x.1.2.2.2.2.2.2.2.2.2.2.2.2.2.2.2.2.1.1 =
 x.2.1.2.2.2.2.2.2.2.2.2.2.2.2.2.2.2.2.1.1) &&
 (decide
 (x.1.2.2.2.2.2.2.2.2.2.2.2.2.2.2.2.2.1.2.1 =
 x.2.1.2.2.2.2.2.2.2.2.2.2.2.2.2.2.2.2.1.2.1) &&
 (decide
 (x.1.2.2.2.2.2.2.2.2.2.2.2.2.2.2.2.2.1.2.2.1 =
 x.2.1.2.2.2.2.2.2.2.2.2.2.2.2.2.2.2.2.1.2.2.1) &&
 (decide
 (x.1.2.2.2.2.2.2.2.2.2.2.2.2.2.2.2.2.1.2.2.2.1 =
 x.2.1.2.2.2.2.2.2.2.2.2.2.2.2.2.2.2.2.1.2.2.2.1) &&
 (decide
 (x.1.2.2.2.2.2.2.2.2.2.2.2.2.2.2.2.2.1.2.2.2.2.1 =
 x.2.1.2.2.2.2.2.2.2.2.2.2.2.2.2.2.2.2.1.2.2.2.2.1) &&
 (decide
 (x.1.2.2.2.2.2.2.2.2.2.2.2.2.2.2.2.2.1.2.2.2.2.2.1 =
 x.2.1.2.2.2.2.2.2.2.2.2.2.2.2.2.2.2.2.1.2.2.2.2.2.1) &&
 (decide
 (x.1.2.2.2.2.2.2.2.2.2.2.2.2.2.2.2.2.1.2.2.2.2.2.2.1 =
 x.2.1.2.2.2.2.2.2.2.2.2.2.2.2.2.2.2.2.1.2.2.2.2.2.2.1) &&
 (decide
 (x.1.2.2.2.2.2.2.2.2.2.2.2.2.2.2.2.2.1.2.2.2.2.2.2.2.1 =
 x.2.1.2.2.2.2.2.2.2.2.2.2.2.2.2.2.2.2.1.2.2.2.2.2.2.2.1) &&
 (decide
 (x.1.2.2.2.2.2.2.2.2.2.2.2.2.2.2.2.2.1.2.2.2.2.2.2.2.2.1 =
 x.2.1.2.2.2.2.2.2.2.2.2.2.2.2.2.2.2.2.1.2.2.2.2.2.2.2.2.1) &&
 (decide
 (x.1.2.2.2.2.2.2.2.2.2.2.2.2.2.2.2.2.1.2.2.2.2.2.2.2.2.2.1 =
 x.2.1.2.2.2.2.2.2.2.2.2.2.2.2.2.2.2.2.1.2.2.2.2.2.2.2.2.2.1) &&
 true))))))))),
 ())
 else some (false,())
 else some (false,())
 else some (false,())
 else some (false,())
 else some (false,())
 else some (false,())
 else some (false,())
 else some (false,())
 else some (false,())
 else some (false,())
 else some (false,())
 else some (false,())
 else some (false,())
 else some (false,())
 else some (false,())
 else some (false,())
 else some (false,())
 else some (false,())
def S64:Sig:=⟨P64,R64,F64⟩
noncomputable def E64:Env:={ tab:=tab.opt { flats:=[(93,L93)],owns:=[87],frzs:=[89,90,91] },nt:=142,Γ:=zaj [(91,[S91]),(92,[S92]),(93,[S93]),(94,[S94]),(95,[S95]),(96,[S96])],joins:=zac [],loops:=zac [] }
theorem zrX (x:TMD×TMD×Unit):afun E64 Tryz.f64 P64 R64 x=F64 x:=by kernel_rfl
def F65 (x:TMD×Unit):Option (TMD×Unit):=
 Option.bind
 (bif !decide (x.1.1=1) then some (Sum.inl (x.1.2.1,())) else some (Sum.inl (0,())))
 fun o=>
 Sum.elim
 (fun (x_1:Int×Unit)=>
 Option.bind
 (bif decide (x.1.1=1) then
 some
 (Sum.inl
 (x.1.2.2.1,
 (0,0,(0,[],[],[],0,0,0,[],[],[],0,0,0,false,[],[],[],()),()),0,
 [],[],0,0,0,0,(0,0,false,0,[],0,0,()),[],[],false,(0,0,[],[],()),
 (0,0,0,[],[],0,[],0,0,0,()),()))
 else
 bif decide (x.1.1=2) then
 some
 (Sum.inl
 ((0,0,0,0,0,0,0,0,false,[],(0,0,[],()),()),x.1.2.2.2.1,0,
 [],[],0,0,0,0,(0,0,false,0,[],0,0,()),[],[],false,
 (0,0,[],[],()),(0,0,0,[],[],0,[],0,0,0,()),()))
 else
 bif decide (x.1.1=3) then
 some
 (Sum.inl
 ((0,0,0,0,0,0,0,0,false,[],(0,0,[],()),()),
 (0,0,(0,[],[],[],0,0,0,[],[],[],0,0,0,false,[],[],[],()),()),
 x.1.2.2.2.2.1,x.1.2.2.2.2.2.1,x.1.2.2.2.2.2.2.1,
 x.1.2.2.2.2.2.2.2.1,x.1.2.2.2.2.2.2.2.2.1,0,0,
 (0,0,false,0,[],0,0,()),[],[],false,(0,0,[],[],()),
 (0,0,0,[],[],0,[],0,0,0,()),()))
 else
 bif decide (x.1.1=4) then
 some
 (Sum.inl
 ((0,0,0,0,0,0,0,0,false,[],(0,0,[],()),()),
 (0,0,(0,[],[],[],0,0,0,[],[],[],0,0,0,false,[],[],[],()),
 ()),
 x.1.2.2.2.2.1,x.1.2.2.2.2.2.1,x.1.2.2.2.2.2.2.1,
 x.1.2.2.2.2.2.2.2.1,0,0,0,(0,0,false,0,[],0,0,()),[],[],
 false,(0,0,[],[],()),(0,0,0,[],[],0,[],0,0,0,()),()))
 else
 bif decide (x.1.1=5) then
 some
 (Sum.inl
 ((0,0,0,0,0,0,0,0,false,[],(0,0,[],()),()),
 (0,0,(0,[],[],[],0,0,0,[],[],[],0,0,0,false,[],[],[],()),
 ()),
 0,x.1.2.2.2.2.2.1,x.1.2.2.2.2.2.2.1,
 x.1.2.2.2.2.2.2.2.1,0,0,0,(0,0,false,0,[],0,0,()),[],
 [],false,(0,0,[],[],()),(0,0,0,[],[],0,[],0,0,0,()),
 ()))
 else
 bif decide (x.1.1=6) then
 some
 (Sum.inl
 ((0,0,0,0,0,0,0,0,false,[],(0,0,[],()),()),
 (0,0,(0,[],[],[],0,0,0,[],[],[],0,0,0,false,[],[],[],()),
 ()),
 0,[],[],x.1.2.2.2.2.2.2.2.1,0,0,0,
 (0,0,false,0,[],0,0,()),[],[],false,(0,0,[],[],()),
 (0,0,0,[],[],0,[],0,0,0,()),()))
 else
 bif decide (x.1.1=8) then
 some
 (Sum.inl
 ((0,0,0,0,0,0,0,0,false,[],(0,0,[],()),()),
 (0,0,(0,[],[],[],0,0,0,[],[],[],0,0,0,false,[],[],[],()),
 ()),
 0,[],[],0,0,x.1.2.2.2.2.2.2.2.2.2.1,
 x.1.2.2.2.2.2.2.2.2.2.2.1,
 x.1.2.2.2.2.2.2.2.2.2.2.2.1,[],[],false,
 (0,0,[],[],()),(0,0,0,[],[],0,[],0,0,0,()),()))
 else
 bif decide (x.1.1=9) then
 some
 (Sum.inl
 ((0,0,0,0,0,0,0,0,false,[],(0,0,[],()),()),
 (0,0,(0,[],[],[],0,0,0,[],[],[],0,0,0,false,[],[],[],()),
 ()),
 0,[],[],x.1.2.2.2.2.2.2.2.1,0,
 x.1.2.2.2.2.2.2.2.2.2.1,0,
 (0,0,false,0,[],0,0,()),
 x.1.2.2.2.2.2.2.2.2.2.2.2.2.1,[],false,
 (0,0,[],[],()),(0,0,0,[],[],0,[],0,0,0,()),()))
 else
 bif decide (x.1.1=10) then
 some
 (Sum.inl
 ((0,0,0,0,0,0,0,0,false,[],(0,0,[],()),()),
 (0,0,(0,[],[],[],0,0,0,[],[],[],0,0,0,false,[],[],[],()),
 ()),
 0,[],[],0,0,x.1.2.2.2.2.2.2.2.2.2.1,0,
 (0,0,false,0,[],0,0,()),[],
 x.1.2.2.2.2.2.2.2.2.2.2.2.2.2.1,
 x.1.2.2.2.2.2.2.2.2.2.2.2.2.2.2.1,
 (0,0,[],[],()),(0,0,0,[],[],0,[],0,0,0,()),
 ()))
 else
 bif decide (x.1.1=11) then
 some
 (Sum.inl
 ((0,0,0,0,0,0,0,0,false,[],(0,0,[],()),()),
 (0,0,(0,[],[],[],0,0,0,[],[],[],0,0,0,false,[],[],[],()),
 ()),
 0,[],[],0,0,x.1.2.2.2.2.2.2.2.2.2.1,0,
 (0,0,false,0,[],0,0,()),[],[],false,
 x.1.2.2.2.2.2.2.2.2.2.2.2.2.2.2.2.1,
 (0,0,0,[],[],0,[],0,0,0,()),()))
 else
 bif decide (x.1.1=12) then
 some
 (Sum.inl
 ((0,0,0,0,0,0,0,0,false,[],(0,0,[],()),()),
 (0,0,
 (0,[],[],[],0,0,0,[],[],[],0,0,0,false,[],[],[],()),
 ()),
 0,[],[],x.1.2.2.2.2.2.2.2.1,0,0,0,
 (0,0,false,0,[],0,0,()),[],[],false,(0,0,[],[],()),
 x.1.2.2.2.2.2.2.2.2.2.2.2.2.2.2.2.2))
 else
 some
 (Sum.inl
 ((0,0,0,0,0,0,0,0,false,[],(0,0,[],()),()),
 (0,0,
 (0,[],[],[],0,0,0,[],[],[],0,0,0,false,[],[],[],()),
 ()),
 0,[],[],0,0,0,0,(0,0,false,0,[],0,0,()),[],[],false,
 (0,0,[],[],()),(0,0,0,[],[],0,[],0,0,0,()),
 ())))
 fun o=>
 Sum.elim
 (fun (x_2 :
 (Int×Int×Int×Int×Int×Int×Int×Int×Bool×List T25D×T25D×Unit)×(Int×Int×(Int×List UInt8×List UInt8×List UInt8×Int×Int×Int×List T96D×List T48D×List T48D×Int×Int×Int×Bool×List
 T70D×List
 (Int×Int×(Int×Int×Bool×Int×List
 T70D×Y22D)×Unit)×List zai×Unit)×Unit)×Int×List UInt8×List UInt8×Int×Int×Int×Int×(Int×Int×Bool×Int×List
 T70D×Y22D)×List
 (Int×List
 T70D×Unit)×List
 T70D×Bool×(Int×Int×List
 (Int×Int×(Int×Int×Bool×Int×List
 T70D×Y22D)×Unit)×List zai×Unit)×T53D×Unit)=>
 some ((x.1.1,x_1.1,x_2),()))
 some o)
 some o
def S65:Sig:=⟨P65,R65,F65⟩
noncomputable def E65:Env:={ tab:=tab.opt { flats:=[(93,L93)],owns:=[87],frzs:=[89,90,91] },nt:=122,Γ:=zaj [],joins:=zac [(4,⟨[⟨.fld 1004000 1,(.int .i64),.pv⟩],[1,2,3],[.site 1004000,.fld 1004000 0]++hL (.fld 1004000) 2 15++[.site 2000]++hL (.fld 2000) 0 17++[.site 1000]++hL (.fld 1000) 0 17⟩),(27,⟨[⟨.fld 1004000 2,T27,.pv⟩,⟨.fld 1004000 3,T33,.pv⟩,⟨.fld 1004000 4,(.int .i64),.pv⟩,⟨.fld 1004000 5,.str,.pv⟩,⟨.fld 1004000 6,.str,.pv⟩,⟨.fld 1004000 7,(.int .i64),.pv⟩,⟨.fld 1004000 8,(.int .i64),.pv⟩,⟨.fld 1004000 9,(.int .i64),.pv⟩,⟨.fld 1004000 10,(.int .i64),.pv⟩,⟨.fld 1004000 11,T51,.pv⟩,⟨.fld 1004000 12,(.slice TB),.pv⟩,⟨.fld 1004000 13,(.slice T70),.pv⟩,⟨.fld 1004000 14,.bool,.pv⟩,⟨.fld 1004000 15,T55,.pv⟩,⟨.fld 1004000 16,T53,.pv⟩],[2,3],[.site 1004000,.fld 1004000 0,.fld 1004000 1,.site 2000]++hL (.fld 2000) 0 17⟩)],loops:=zac [] }
theorem zrW (x:TMD×Unit):afun E65 Tryz.f65 P65 R65 x=F65 x:=by kernel_rfl
def F97 (x:T27D×Unit):Option (T27D×Bool×Unit):=
 Option.bind
 (bif decide (x.1.1=1) then
 bif decide (x.1.1=1) then
 some
 (Sum.inl
 (x.1.2.2.2.2.1,x.1.2.2.2.2.2.1,0,0,false,[],(0,0,[],()),0,0,0,
 0,0,0,0,0,false,[],(0,0,[],()),()))
 else
 bif decide (x.1.1=2) then
 bif decide (x.1.1=2) then
 some
 (Sum.inl
 (0,0,0,0,x.1.2.2.2.2.2.2.2.2.1,[],(0,0,[],()),0,0,0,0,0,0,0,
 0,false,[],(0,0,[],()),()))
 else
 bif decide (x.1.1=5) then
 some
 (Sum.inl
 (x.1.2.2.2.2.1,x.1.2.2.2.2.2.1,x.1.2.2.2.2.2.2.1,
 x.1.2.2.2.2.2.2.2.1,false,x.1.2.2.2.2.2.2.2.2.2.1,
 (0,0,[],()),0,0,0,0,0,0,0,0,false,[],(0,0,[],()),()))
 else
 bif decide (x.1.1=6) then
 some
 (Sum.inl
 (x.1.2.2.2.2.1,0,0,x.1.2.2.2.2.2.2.2.1,
 x.1.2.2.2.2.2.2.2.2.1,[],(0,0,[],()),0,0,0,0,0,0,0,0,
 false,[],(0,0,[],()),()))
 else
 bif decide (x.1.1=7) then
 some
 (Sum.inl
 (0,0,0,0,false,[],x.1.2.2.2.2.2.2.2.2.2.2.1,0,0,0,0,0,0,0,0,
 false,[],(0,0,[],()),()))
 else
 some
 (Sum.inr
 ((0,0,0,0,0,0,0,0,false,[],(0,0,[],()),()),false,()))
 else
 bif decide (x.1.1=4) then
 some
 (Sum.inl
 (0,0,0,0,x.1.2.2.2.2.2.2.2.2.1,[],(0,0,[],()),0,0,0,0,0,0,0,
 0,false,[],(0,0,[],()),()))
 else
 bif decide (x.1.1=5) then
 some
 (Sum.inl
 (x.1.2.2.2.2.1,x.1.2.2.2.2.2.1,x.1.2.2.2.2.2.2.1,
 x.1.2.2.2.2.2.2.2.1,false,x.1.2.2.2.2.2.2.2.2.2.1,
 (0,0,[],()),0,0,0,0,0,0,0,0,false,[],(0,0,[],()),()))
 else
 bif decide (x.1.1=6) then
 some
 (Sum.inl
 (x.1.2.2.2.2.1,0,0,x.1.2.2.2.2.2.2.2.1,
 x.1.2.2.2.2.2.2.2.2.1,[],(0,0,[],()),0,0,0,0,0,0,0,0,
 false,[],(0,0,[],()),()))
 else
 bif decide (x.1.1=7) then
 some
 (Sum.inl
 (0,0,0,0,false,[],x.1.2.2.2.2.2.2.2.2.2.2.1,0,0,0,0,0,0,0,0,
 false,[],(0,0,[],()),()))
 else
 some
 (Sum.inr
 ((0,0,0,0,0,0,0,0,false,[],(0,0,[],()),()),false,()))
 else
 bif decide (x.1.1=3) then
 some
 (Sum.inl
 (x.1.2.2.2.2.1,x.1.2.2.2.2.2.1,0,0,false,[],(0,0,[],()),0,0,0,
 0,0,0,0,0,false,[],(0,0,[],()),()))
 else
 bif decide (x.1.1=2) then
 bif decide (x.1.1=2) then
 some
 (Sum.inl
 (0,0,0,0,x.1.2.2.2.2.2.2.2.2.1,[],(0,0,[],()),0,0,0,0,0,0,0,
 0,false,[],(0,0,[],()),()))
 else
 bif decide (x.1.1=5) then
 some
 (Sum.inl
 (x.1.2.2.2.2.1,x.1.2.2.2.2.2.1,x.1.2.2.2.2.2.2.1,
 x.1.2.2.2.2.2.2.2.1,false,x.1.2.2.2.2.2.2.2.2.2.1,
 (0,0,[],()),0,0,0,0,0,0,0,0,false,[],(0,0,[],()),()))
 else
 bif decide (x.1.1=6) then
 some
 (Sum.inl
 (x.1.2.2.2.2.1,0,0,x.1.2.2.2.2.2.2.2.1,
 x.1.2.2.2.2.2.2.2.2.1,[],(0,0,[],()),0,0,0,0,0,0,0,0,
 false,[],(0,0,[],()),()))
 else
 bif decide (x.1.1=7) then
 some
 (Sum.inl
 (0,0,0,0,false,[],x.1.2.2.2.2.2.2.2.2.2.2.1,0,0,0,0,0,0,0,0,
 false,[],(0,0,[],()),()))
 else
 some
 (Sum.inr
 ((0,0,0,0,0,0,0,0,false,[],(0,0,[],()),()),false,()))
 else
 bif decide (x.1.1=4) then
 some
 (Sum.inl
 (0,0,0,0,x.1.2.2.2.2.2.2.2.2.1,[],(0,0,[],()),0,0,0,0,0,0,0,
 0,false,[],(0,0,[],()),()))
 else
 bif decide (x.1.1=5) then
 some
 (Sum.inl
 (x.1.2.2.2.2.1,x.1.2.2.2.2.2.1,x.1.2.2.2.2.2.2.1,
 x.1.2.2.2.2.2.2.2.1,false,x.1.2.2.2.2.2.2.2.2.2.1,
 (0,0,[],()),0,0,0,0,0,0,0,0,false,[],(0,0,[],()),()))
 else
 bif decide (x.1.1=6) then
 some
 (Sum.inl
 (x.1.2.2.2.2.1,0,0,x.1.2.2.2.2.2.2.2.1,
 x.1.2.2.2.2.2.2.2.2.1,[],(0,0,[],()),0,0,0,0,0,0,0,0,
 false,[],(0,0,[],()),()))
 else
 bif decide (x.1.1=7) then
 some
 (Sum.inl
 (0,0,0,0,false,[],x.1.2.2.2.2.2.2.2.2.2.2.1,0,0,0,0,0,0,0,0,
 false,[],(0,0,[],()),()))
 else
 some
 (Sum.inr
 ((0,0,0,0,0,0,0,0,false,[],(0,0,[],()),()),false,())))
 fun o=>
 Sum.elim
 (fun (x_1 :
 Int×Int×Int×Int×Bool×List T25D×T25D×Int×Int×Int×Int×Int×Int×Int×Int×Bool×List T25D×T25D×Unit)=>
 some
 ((x.1.1,x.1.2.1,x.1.2.2.1,x.1.2.2.2.1,x_1.1,x_1.2.1,x_1.2.2.1,
 x_1.2.2.2.1,x_1.2.2.2.2.1,x_1.2.2.2.2.2.1,
 x_1.2.2.2.2.2.2.1,()),
 true,()))
 some o
def S97:Sig:=⟨P97,R97,F97⟩
noncomputable def E97:Env:={ tab:=tab.opt { flats:=[(93,L93)],owns:=[87],frzs:=[89,90,91] },nt:=66,Γ:=zaj [],joins:=zac [(16,⟨[⟨.fld 1010000 4,(.int .i64),.pv⟩,⟨.fld 1010000 5,(.int .i64),.pv⟩,⟨.fld 1010000 6,(.int .i64),.pv⟩,⟨.fld 1010000 7,(.int .i64),.pv⟩,⟨.fld 1010000 8,.bool,.pv⟩,⟨.fld 1010000 9,(.slice T25),.pv⟩,⟨.fld 1010000 10,T25,.pv⟩,⟨.fld 2000 0,(.int .i64),.pv⟩,⟨.fld 2000 1,(.int .i64),.pv⟩,⟨.fld 2000 2,(.int .i64),.pv⟩,⟨.fld 2000 3,(.int .i64),.pv⟩,⟨.fld 2000 4,(.int .i64),.pv⟩,⟨.fld 2000 5,(.int .i64),.pv⟩,⟨.fld 2000 6,(.int .i64),.pv⟩,⟨.fld 2000 7,(.int .i64),.pv⟩,⟨.fld 2000 8,.bool,.pv⟩,⟨.fld 2000 9,(.slice T25),.own false⟩,⟨.fld 2000 10,T25,.pv⟩],[2,4],[.site 1010000]++hL (.fld 1010000) 0 4++[.site 2000]⟩)],loops:=zac [] }
theorem zro (x:T27D×Unit):afun E97 Tryz.f97 P97 R97 x=F97 x:=by kernel_rfl
def F98 (x:Int×Unit):Option (Bool×Unit):=bif decide (0≤x.1) then some (decide (x.1 < 3),()) else some (false,())
def S98:Sig:=⟨P98,R98,F98⟩
noncomputable def E98:Env:={ tab:=tab.opt { flats:=[(93,L93)],owns:=[87],frzs:=[89,90,91] },nt:=9,Γ:=zaj [],joins:=zac [],loops:=zac [] }
theorem zrn (x:Int×Unit):afun E98 Tryz.f98 P98 R98 x=F98 x:=by kernel_rfl
def F99 (x:List Int×Unit):Option (Bool×Unit):=
 zaT (Int×Unit) (Bool×Unit)
 (fun (x_1:Int×Unit)=>
 bif decide (x_1.1 < Int.ofNat (List.length x.1)) then
 (idx x.1 x_1.1).bind fun b=>
 bif decide (b < 0) then some (Sum.inr (false,()))
 else
 bif decide (1099511627776 < b) then some (Sum.inr (false,()))
 else some (Sum.inl (wrap64 (x_1.1+1),()))
 else some (Sum.inr (true,())))
 big (0,())
def S99:Sig:=⟨P99,R99,F99⟩
noncomputable def E99:Env:={ tab:=tab.opt { flats:=[(93,L93)],owns:=[87],frzs:=[89,90,91] },nt:=18,Γ:=zaj [],joins:=zac [],loops:=zac [(2,zaI ⟨[⟨.slot 7,(.int .i64),.pv⟩],[5,6],[]⟩)] }
theorem zrm (x:List Int×Unit):afun E99 Tryz.f99 P99 R99 x=F99 x:=by kernel_rfl
def F142 (x:Int×Unit):Option (Bool×Unit):=
 bif decide (1≤x.1) then some (decide (x.1≤1099511627776),()) else some (false,())
def S142:Sig:=⟨P142,R142,F142⟩
noncomputable def E142:Env:={ tab:=tab.opt { flats:=[(93,L93)],owns:=[87],frzs:=[89,90,91] },nt:=9,Γ:=zaj [],joins:=zac [],loops:=zac [] }
theorem zoH (x:Int×Unit):afun E142 Tryz.f142 P142 R142 x=F142 x:=by kernel_rfl
def F141 (x:T25D×Unit):Option (Bool×Unit):=
 (F142 (x.1.1,())).bind fun b=>
 bif b.1 then
 (F142 (x.1.2.1,())).bind fun b=>
 bif b.1 then some (decide (Int.ofNat (List.length x.1.2.2.1)≤12000),())
 else some (false,())
 else some (false,())
def S141:Sig:=⟨P141,R141,F141⟩
noncomputable def E141:Env:={ tab:=tab.opt { flats:=[(93,L93)],owns:=[87],frzs:=[89,90,91] },nt:=17,Γ:=zaj [(142,[S142])],joins:=zac [],loops:=zac [] }
theorem zoI (x:T25D×Unit):afun E141 Tryz.f141 P141 R141 x=F141 x:=by kernel_rfl
def F100 (x:Int×Int×List T25D×Unit):Option (Bool×Unit):=
 zaT zai (Bool×Unit)
 (fun (x_1:zai)=>
 bif decide (x_1.2.2.1 < Int.ofNat (List.length x.2.2.1)) then
 (idx x.2.2.1 x_1.2.2.1).bind fun b=>
 (F141 (b,())).bind fun b_1=>
 bif !b_1.1 then some (Sum.inr (false,()))
 else
 bif !decide (wrap64 (b.1 - 1)=x_1.1) then some (Sum.inr (false,()))
 else
 bif decide (b.2.1 < x_1.2.1) then some (Sum.inr (false,()))
 else some (Sum.inl (b.1,b.2.1,wrap64 (x_1.2.2.1+1),()))
 else some (Sum.inr (true,())))
 big (x.1,x.2.1,0,())
def S100:Sig:=⟨P100,R100,F100⟩
noncomputable def E100:Env:={ tab:=tab.opt { flats:=[(93,L93)],owns:=[87],frzs:=[89,90,91] },nt:=36,Γ:=zaj [(141,[S141])],joins:=zac [],loops:=zac [(2,zaI ⟨[⟨.slot 0,(.int .i64),.pv⟩,⟨.slot 1,(.int .i64),.pv⟩,⟨.slot 11,(.int .i64),.pv⟩],[9,10],[]⟩)] }
theorem zpm (x:Int×Int×List T25D×Unit):afun E100 Tryz.f100 P100 R100 x=F100 x:=by kernel_rfl
def F101 (x:T25D×Unit):Option (Bool×Unit):=
 Option.bind
 (bif decide (x.1.1=0) then
 bif decide (x.1.2.1=0) then
 some (Sum.inr (decide (Int.ofNat (List.length x.1.2.2.1)=0),()))
 else some (Sum.inl ())
 else some (Sum.inl ()))
 fun o=>
 Sum.elim
 (fun (_z:Unit)=>
 (F142 (x.1.1,())).bind fun b=>
 bif b.1 then
 (F142 (x.1.2.1,())).bind fun b=>
 bif b.1 then some (decide (Int.ofNat (List.length x.1.2.2.1)≤50000),())
 else some (false,())
 else some (false,()))
 some o
def S101:Sig:=⟨P101,R101,F101⟩
noncomputable def E101:Env:={ tab:=tab.opt { flats:=[(93,L93)],owns:=[87],frzs:=[89,90,91] },nt:=29,Γ:=zaj [(142,[S142])],joins:=zac [(3,⟨[],[1],[.site 1000,.fld 1000 0,.fld 1000 1,.fld 1000 2]⟩)],loops:=zac [] }
theorem zpl (x:T25D×Unit):afun E101 Tryz.f101 P101 R101 x=F101 x:=by kernel_rfl
def F66 (x:T27D×Unit):Option (Bool×Unit):=
 (F97 x).bind
 fun b=>
 bif !b.2.1 then some (false,())
 else
 (F91 (b.1,x)).bind fun b=>
 bif !b.1 then some (false,())
 else
 (F98 (x.1.2.1,())).bind fun b=>
 bif !b.1 then some (false,())
 else
 (F98 (x.1.2.2.1,())).bind fun b=>
 bif !b.1 then some (false,())
 else
 bif decide (x.1.2.1=x.1.2.2.1) then some (false,())
 else
 bif decide (x.1.2.2.2.1 < 1) then some (false,())
 else
 Option.bind
 (F99
 ([x.1.2.2.2.1,x.1.2.2.2.2.1,x.1.2.2.2.2.2.1,
 x.1.2.2.2.2.2.2.1,x.1.2.2.2.2.2.2.2.1],
 ()))
 fun b=>
 bif !b.1 then some (false,())
 else
 bif decide (4 < Int.ofNat (List.length x.1.2.2.2.2.2.2.2.2.2.1)) then
 some (false,())
 else
 Option.bind
 (F100
 (x.1.2.2.2.2.1,x.1.2.2.2.2.2.1,
 x.1.2.2.2.2.2.2.2.2.2.1,()))
 fun b=>
 bif !b.1 then some (false,())
 else
 zaT (Int×Unit) (Bool×Unit)
 (fun (x_1:Int×Unit)=>
 bif
 decide
 (x_1.1 <
 Int.ofNat (List.length x.1.2.2.2.2.2.2.2.2.2.1)) then
 (idx x.1.2.2.2.2.2.2.2.2.2.1 x_1.1).bind
 fun b=>
 bif decide (x.1.2.2.2.1 < b.2.1) then
 some (Sum.inr (false,()))
 else some (Sum.inl (wrap64 (x_1.1+1),()))
 else
 Option.map Sum.inr
 (bif !decide (x.1.1=7) then some (true,())
 else
 (F101 x.1.2.2.2.2.2.2.2.2.2.2).bind
 fun b=>
 bif b.1 then
 some
 (decide (0 < x.1.2.2.2.2.2.2.2.2.2.2.1.1),
 ())
 else some (false,())))
 big (0,())
def S66:Sig:=⟨P66,R66,F66⟩
noncomputable def E66:Env:={ tab:=tab.opt { flats:=[(93,L93)],owns:=[87],frzs:=[89,90,91] },nt:=100,Γ:=zaj [(91,[S91]),(97,[S97]),(98,[S98]),(99,[S99]),(100,[S100]),(101,[S101])],joins:=zac [],loops:=zac [(7,zaI ⟨[⟨.slot 76,(.int .i64),.pv⟩],[1,74,75],[.site 1000]++hL (.fld 1000) 0 11⟩)] }
theorem zrV (x:T27D×Unit):afun E66 Tryz.f66 P66 R66 x=F66 x:=by kernel_rfl
def F67 (x:Int×Int×Int×Unit):Option (Bool×Unit):=
 bif decide (x.2.1≤x.1) then some (decide (x.1≤x.2.2.1),()) else some (false,())
def S67:Sig:=⟨P67,R67,F67⟩
noncomputable def E67:Env:={ tab:=tab.opt { flats:=[(93,L93)],owns:=[87],frzs:=[89,90,91] },nt:=15,Γ:=zaj [],joins:=zac [],loops:=zac [] }
theorem zrU (x:Int×Int×Int×Unit):afun E67 Tryz.f67 P67 R67 x=F67 x:=by kernel_rfl
def F144 (x:Int×Int×Int×Unit):Option (Bool×Unit):=
 bif decide (x.2.1≤x.1) then some (decide (x.1≤x.2.2.1),()) else some (false,())
def S144:Sig:=⟨P144,R144,F144⟩
noncomputable def E144:Env:={ tab:=tab.opt { flats:=[(93,L93)],owns:=[87],frzs:=[89,90,91] },nt:=15,Γ:=zaj [],joins:=zac [],loops:=zac [] }
theorem zoF (x:Int×Int×Int×Unit):afun E144 Tryz.f144 P144 R144 x=F144 x:=by kernel_rfl
def F176 (x:Int×Unit):Option (Bool×Unit):=
 (F144 (x.1,1,1099511627776,())).bind fun b=>some (!b.1,())
def S176:Sig:=⟨P176,R176,F176⟩
noncomputable def E176:Env:={ tab:=tab.opt { flats:=[(93,L93)],owns:=[87],frzs:=[89,90,91] },nt:=6,Γ:=zaj [(144,[S144])],joins:=zac [],loops:=zac [] }
theorem zod (x:Int×Unit):afun E176 Tryz.f176 P176 R176 x=F176 x:=by kernel_rfl
def zt6 (x:List Int×Unit):Option (Int×Unit):=
 zaT (Int×Unit) (Int×Unit)
 (fun (x_1:Int×Unit)=>
 bif decide (x_1.1 < Int.ofNat (List.length x.1)) then
 (idx x.1 x_1.1).bind fun b=>
 (F176 (b,())).bind fun b=>
 bif b.1 then some (Sum.inr x_1) else some (Sum.inl (wrap64 (x_1.1+1),()))
 else some (Sum.inr (-1,())))
 big (0,())
def zqS:Sig:=⟨zxN,zxv,zt6⟩
noncomputable def zx9:Env:={ tab:=tab.opt { flats:=[(93,L93)],owns:=[87],frzs:=[89,90,91] },nt:=19,Γ:=zaj [(176,[S176])],joins:=zac [],loops:=zac [(2,zaI ⟨[⟨.slot 8,(.int .i64),.pv⟩],[0,1,7],[]⟩)] }
theorem zmv (x:List Int×Unit):afun zx9 Tryz.f188 zxN zxv x=zt6 x:=by kernel_rfl
def zua (x:List Int×Unit):Option (Bool×Unit):=(zt6 x).bind fun b=>some (decide (0≤b.1),())
def zqU:Sig:=⟨zxR,zxz,zua⟩
noncomputable def zyd:Env:={ tab:=tab.opt { flats:=[(93,L93)],owns:=[87],frzs:=[89,90,91] },nt:=9,Γ:=zaj [(176,[S176]),(188,[zqS])],joins:=zac [],loops:=zac [] }
theorem zmz (x:List Int×Unit):afun zyd Tryz.f175 zxR zxz x=zua x:=by kernel_rfl
def F145 (x:List Int×Unit):Option (Bool×Unit):=(zua x).bind fun b=>some (!b.1,())
def S145:Sig:=⟨P145,R145,F145⟩
noncomputable def E145:Env:={ tab:=tab.opt { flats:=[(93,L93)],owns:=[87],frzs:=[89,90,91] },nt:=6,Γ:=zaj [(175,[zqU]),(176,[S176])],joins:=zac [],loops:=zac [] }
theorem zoE (x:List Int×Unit):afun E145 Tryz.f145 P145 R145 x=F145 x:=by kernel_rfl
def F177 (x:Int×Unit):Option (Bool×Unit):=
 (F144 (x.1,0,1099511627776,())).bind fun b=>some (!b.1,())
def S177:Sig:=⟨P177,R177,F177⟩
noncomputable def E177:Env:={ tab:=tab.opt { flats:=[(93,L93)],owns:=[87],frzs:=[89,90,91] },nt:=6,Γ:=zaj [(144,[S144])],joins:=zac [],loops:=zac [] }
theorem zoc (x:Int×Unit):afun E177 Tryz.f177 P177 R177 x=F177 x:=by kernel_rfl
def zt5 (x:List Int×Unit):Option (Int×Unit):=
 zaT (Int×Unit) (Int×Unit)
 (fun (x_1:Int×Unit)=>
 bif decide (x_1.1 < Int.ofNat (List.length x.1)) then
 (idx x.1 x_1.1).bind fun b=>
 (F177 (b,())).bind fun b=>
 bif b.1 then some (Sum.inr x_1) else some (Sum.inl (wrap64 (x_1.1+1),()))
 else some (Sum.inr (-1,())))
 big (0,())
def zv1:Sig:=⟨zxM,zxu,zt5⟩
noncomputable def zx8:Env:={ tab:=tab.opt { flats:=[(93,L93)],owns:=[87],frzs:=[89,90,91] },nt:=19,Γ:=zaj [(177,[S177])],joins:=zac [],loops:=zac [(2,zaI ⟨[⟨.slot 8,(.int .i64),.pv⟩],[0,1,7],[]⟩)] }
theorem zmu (x:List Int×Unit):afun zx8 Tryz.f188 zxM zxu x=zt5 x:=by kernel_rfl
def zt9 (x:List Int×Unit):Option (Bool×Unit):=(zt5 x).bind fun b=>some (decide (0≤b.1),())
def zv3:Sig:=⟨zxQ,zxy,zt9⟩
noncomputable def zyc:Env:={ tab:=tab.opt { flats:=[(93,L93)],owns:=[87],frzs:=[89,90,91] },nt:=9,Γ:=zaj [(177,[S177]),(188,[zqS,zv1])],joins:=zac [],loops:=zac [] }
theorem zmy (x:List Int×Unit):afun zyc Tryz.f175 zxQ zxy x=zt9 x:=by kernel_rfl
def F146 (x:List Int×Unit):Option (Bool×Unit):=(zt9 x).bind fun b=>some (!b.1,())
def S146:Sig:=⟨P146,R146,F146⟩
noncomputable def E146:Env:={ tab:=tab.opt { flats:=[(93,L93)],owns:=[87],frzs:=[89,90,91] },nt:=6,Γ:=zaj [(175,[zqU,zv3]),(177,[S177])],joins:=zac [],loops:=zac [] }
theorem zoD (x:List Int×Unit):afun E146 Tryz.f146 P146 R146 x=F146 x:=by kernel_rfl
def F189 (x:Int×Unit):Option (Bool×Unit):=
 bif decide (1≤x.1) then some (decide (x.1≤1099511627776),()) else some (false,())
def S189:Sig:=⟨P189,R189,F189⟩
noncomputable def E189:Env:={ tab:=tab.opt { flats:=[(93,L93)],owns:=[87],frzs:=[89,90,91] },nt:=9,Γ:=zaj [],joins:=zac [],loops:=zac [] }
theorem zn1 (x:Int×Unit):afun E189 Tryz.f189 P189 R189 x=F189 x:=by kernel_rfl
def F179 (x:T66D×Unit):Option (Bool×Unit):=
 (F189 (x.1.1,())).bind fun b=>
 bif !b.1 then some (false,())
 else
 (F189 (x.1.2.2.1,())).bind fun b=>
 bif !b.1 then some (false,())
 else
 bif x.1.2.2.2.2.2.2.1 then
 bif decide (x.1.2.1=0) then
 bif decide (x.1.2.2.2.1=0) then
 bif decide (x.1.2.2.2.2.2.1=0) then
 some (decide (x.1.2.2.2.2.1=[]),())
 else some (false,())
 else some (false,())
 else some (false,())
 else
 bif decide (1≤x.1.2.1) then
 bif decide (x.1.2.1≤x.1.2.2.1) then
 (F189 (x.1.2.2.2.1,())).bind fun b=>
 bif b.1 then
 bif decide (Int.ofNat (List.length x.1.2.2.2.2.1)≤40) then
 bif decide (-1099511627776≤x.1.2.2.2.2.2.1) then
 some (decide (x.1.2.2.2.2.2.1≤1099511627776),())
 else some (false,())
 else some (false,())
 else some (false,())
 else some (false,())
 else some (false,())
def S179:Sig:=⟨P179,R179,F179⟩
noncomputable def E179:Env:={ tab:=tab.opt { flats:=[(93,L93)],owns:=[87],frzs:=[89,90,91] },nt:=64,Γ:=zaj [(189,[S189])],joins:=zac [],loops:=zac [] }
theorem zob (x:T66D×Unit):afun E179 Tryz.f179 P179 R179 x=F179 x:=by kernel_rfl
def F151 (x:List T66D×Unit):Option (Bool×Unit):=
 zaT (Int×Unit) (Bool×Unit)
 (fun (x_1:Int×Unit)=>
 bif decide (x_1.1 < Int.ofNat (List.length x.1)) then
 (idx x.1 x_1.1).bind fun b=>
 (F179 (b,())).bind fun b_1=>
 bif !b_1.1 then some (Sum.inr (false,()))
 else
 bif decide (0 < x_1.1) then
 (idx x.1 (wrap64 (x_1.1 - 1))).bind
 fun b_2=>
 bif decide (b.1≤b_2.1) then some (Sum.inr (false,()))
 else
 (idx x.1 (wrap64 (x_1.1 - 1))).bind
 fun b_3=>
 bif decide (b.2.2.1≤b_3.2.2.1) then some (Sum.inr (false,()))
 else some (Sum.inl (wrap64 (x_1.1+1),()))
 else some (Sum.inl (wrap64 (x_1.1+1),()))
 else some (Sum.inr (true,())))
 big (0,())
def S151:Sig:=⟨P151,R151,F151⟩
noncomputable def E151:Env:={ tab:=tab.opt { flats:=[(93,L93)],owns:=[87],frzs:=[89,90,91] },nt:=42,Γ:=zaj [(179,[S179])],joins:=zac [],loops:=zac [(2,zaI ⟨[⟨.slot 7,(.int .i64),.pv⟩],[0,5,6],[]⟩)] }
theorem zoz (x:List T66D×Unit):afun E151 Tryz.f151 P151 R151 x=F151 x:=by kernel_rfl
def F149 (x:T66D×Unit):Option (Bool×Unit):=
 (F151 ([x.1],())).bind fun b=>some b
def S149:Sig:=⟨P149,R149,F149⟩
noncomputable def E149:Env:={ tab:=tab.opt { flats:=[(93,L93)],owns:=[87],frzs:=[89,90,91] },nt:=6,Γ:=zaj [(151,[S151])],joins:=zac [],loops:=zac [] }
theorem zoB (x:T66D×Unit):afun E149 Tryz.f149 P149 R149 x=F149 x:=by kernel_rfl
def F148 (x:T70D×Unit):Option (Bool×Unit):=
 (F59 (x.1.1,())).bind fun b=>
 bif !b.1 then some (true,())
 else (F149 x.1.2).bind fun b=>some (!b.1,())
def S148:Sig:=⟨P148,R148,F148⟩
noncomputable def E148:Env:={ tab:=tab.opt { flats:=[(93,L93)],owns:=[87],frzs:=[89,90,91] },nt:=13,Γ:=zaj [(59,[S59]),(149,[S149])],joins:=zac [],loops:=zac [] }
theorem zoC (x:T70D×Unit):afun E148 Tryz.f148 P148 R148 x=F148 x:=by kernel_rfl
def zt8 (x:List T70D×Unit):Option (Int×Unit):=
 zaT (Int×Unit) (Int×Unit)
 (fun (x_1:Int×Unit)=>
 bif decide (x_1.1 < Int.ofNat (List.length x.1)) then
 (idx x.1 x_1.1).bind
 fun b=>
 (F148 (b,())).bind fun b=>
 bif b.1 then some (Sum.inr x_1) else some (Sum.inl (wrap64 (x_1.1+1),()))
 else some (Sum.inr (-1,())))
 big (0,())
def zqT:Sig:=⟨zxP,zxx,zt8⟩
noncomputable def zyb:Env:={ tab:=tab.opt { flats:=[(93,L93)],owns:=[87],frzs:=[89,90,91] },nt:=19,Γ:=zaj [(148,[S148])],joins:=zac [],loops:=zac [(2,zaI ⟨[⟨.slot 8,(.int .i64),.pv⟩],[0,1,7],[]⟩)] }
theorem zmx (x:List T70D×Unit):afun zyb Tryz.f178 zxP zxx x=zt8 x:=by kernel_rfl
def zq5 (x:List T70D×Unit):Option (Bool×Unit):=
 (zt8 x).bind fun b=>some (decide (0≤b.1),())
def zqV:Sig:=⟨zxX,zxF,zq5⟩
noncomputable def zyj:Env:={ tab:=tab.opt { flats:=[(93,L93)],owns:=[87],frzs:=[89,90,91] },nt:=9,Γ:=zaj [(148,[S148]),(178,[zqT])],joins:=zac [],loops:=zac [] }
theorem zmF (x:List T70D×Unit):afun zyj Tryz.f147 zxX zxF x=zq5 x:=by kernel_rfl
def F104 (x:T51D×Unit):Option (Bool×Unit):=
 bif decide (x.1.1 < 0) then some (false,())
 else
 bif decide (15 < x.1.1) then some (false,())
 else
 (F146 ([x.1.2.1,x.1.2.2.2.1,x.1.2.2.2.2.2.2.1],())).bind
 fun b=>
 bif !b.1 then some (false,())
 else
 bif decide (x.1.2.2.2.2.2.1 < 0) then some (false,())
 else
 bif decide (1 < x.1.2.2.2.2.2.1) then some (false,())
 else
 bif decide (8 < Int.ofNat (List.length x.1.2.2.2.2.1)) then some (false,())
 else
 (zq5 (x.1.2.2.2.2.1,())).bind fun b=>
 some (!b.1,())
def S104:Sig:=⟨P104,R104,F104⟩
noncomputable def E104:Env:={ tab:=tab.opt { flats:=[(93,L93)],owns:=[87],frzs:=[89,90,91] },nt:=42,Γ:=zaj [(146,[S146]),(147,[zqV]),(148,[S148])],joins:=zac [],loops:=zac [] }
theorem zpi (x:T51D×Unit):afun E104 Tryz.f104 P104 R104 x=F104 x:=by kernel_rfl
def F180 (x:List T94D×Int×Unit):Option (Bool×Unit):=
 zaT (Int×Unit) (Bool×Unit)
 (fun (x_1:Int×Unit)=>
 bif decide (x_1.1 < Int.ofNat (List.length x.1)) then
 (idx x.1 x_1.1).bind
 fun b=>
 (F144 (b.1,1,x.2)).bind fun b_1=>
 bif !b_1.1 then some (Sum.inr (false,()))
 else
 (F145 ([b.2.1],())).bind fun b_2=>
 bif !b_2.1 then some (Sum.inr (false,()))
 else
 (F104 b.2.2).bind fun b_3=>
 bif !b_3.1 then some (Sum.inr (false,()))
 else
 bif decide (0 < x_1.1) then
 (idx x.1 (wrap64 (x_1.1 - 1))).bind
 fun b_4=>
 bif decide (b.1≤b_4.1) then some (Sum.inr (false,()))
 else some (Sum.inl (wrap64 (x_1.1+1),()))
 else some (Sum.inl (wrap64 (x_1.1+1),()))
 else some (Sum.inr (true,())))
 big (0,())
def S180:Sig:=⟨P180,R180,F180⟩
noncomputable def E180:Env:={ tab:=tab.opt { flats:=[(93,L93)],owns:=[87],frzs:=[89,90,91] },nt:=48,Γ:=zaj [(104,[S104]),(144,[S144]),(145,[S145])],joins:=zac [],loops:=zac [(2,zaI ⟨[⟨.slot 9,(.int .i64),.pv⟩],[0,1,7,8],[]⟩)] }
theorem zn9 (x:List T94D×Int×Unit):afun E180 Tryz.f180 P180 R180 x=F180 x:=by kernel_rfl
def F181 (x:List zai×Unit):Option (Bool×Unit):=
 zaT (Int×Unit) (Bool×Unit)
 (fun (x_1:Int×Unit)=>
 bif decide (x_1.1 < Int.ofNat (List.length x.1)) then
 (idx x.1 x_1.1).bind fun b=>
 (F145 ([b.1],())).bind fun b_1=>
 bif !b_1.1 then some (Sum.inr (false,()))
 else
 (F144 (b.2.1,1,1000,())).bind fun b_2=>
 bif !b_2.1 then some (Sum.inr (false,()))
 else
 (F144 (b.2.2.1,0,1000,())).bind fun b_3=>
 bif !b_3.1 then some (Sum.inr (false,()))
 else
 bif decide (0 < x_1.1) then
 (idx x.1 (wrap64 (x_1.1 - 1))).bind
 fun b_4=>
 bif decide (b.1≤b_4.1) then some (Sum.inr (false,()))
 else some (Sum.inl (wrap64 (x_1.1+1),()))
 else some (Sum.inl (wrap64 (x_1.1+1),()))
 else some (Sum.inr (decide (Int.ofNat (List.length x.1)≤64),())))
 big (0,())
def S181:Sig:=⟨P181,R181,F181⟩
noncomputable def E181:Env:={ tab:=tab.opt { flats:=[(93,L93)],owns:=[87],frzs:=[89,90,91] },nt:=48,Γ:=zaj [(144,[S144]),(145,[S145])],joins:=zac [],loops:=zac [(2,zaI ⟨[⟨.slot 7,(.int .i64),.pv⟩],[0,5,6],[]⟩)] }
theorem zn8 (x:List zai×Unit):afun E181 Tryz.f181 P181 R181 x=F181 x:=by kernel_rfl
def F152 (x:List T94D×List zai×Unit):Option (Bool×Unit):=
 (F180 (x.1,15,())).bind fun b=>
 bif b.1 then (F181 x.2).bind fun b=>some b else some (false,())
def S152:Sig:=⟨P152,R152,F152⟩
noncomputable def E152:Env:={ tab:=tab.opt { flats:=[(93,L93)],owns:=[87],frzs:=[89,90,91] },nt:=11,Γ:=zaj [(180,[S180]),(181,[S181])],joins:=zac [],loops:=zac [] }
theorem zoy (x:List T94D×List zai×Unit):afun E152 Tryz.f152 P152 R152 x=F152 x:=by kernel_rfl
def F185 (x:T28D×Unit):Option (T28D×Unit):=
 Option.bind
 (bif decide (x.1.1=1) then
 some (Sum.inl (x.1.2.1,[],x.1.2.2.2.1,x.1.2.2.2.2.1,0,0,[],[],[],()))
 else
 bif decide (x.1.1=2) then
 some (Sum.inl (x.1.2.1,x.1.2.2.1,[],0,0,0,[],[],[],()))
 else
 bif decide (x.1.1=3) then
 some
 (Sum.inl
 ([],[],[],0,0,0,x.1.2.2.2.2.2.2.2.1,x.1.2.2.2.2.2.2.2.2.1,
 x.1.2.2.2.2.2.2.2.2.2.1,()))
 else
 bif decide (x.1.1=4) then
 some (Sum.inl ([],[],[],0,0,x.1.2.2.2.2.2.2.1,[],[],[],()))
 else
 bif decide (x.1.1=5) then
 some
 (Sum.inl
 ([],[],[],x.1.2.2.2.2.1,x.1.2.2.2.2.2.1,0,[],[],[],()))
 else
 bif decide (x.1.1=6) then
 bif decide (x.1.1=6) then
 some (Sum.inl ([],[],[],x.1.2.2.2.2.1,0,0,[],[],[],()))
 else some (Sum.inl ([],[],[],0,0,0,[],[],[],()))
 else
 bif decide (x.1.1=7) then
 bif decide (x.1.1=7) then
 some (Sum.inl ([],[],[],x.1.2.2.2.2.1,0,0,[],[],[],()))
 else some (Sum.inl ([],[],[],0,0,0,[],[],[],()))
 else
 bif decide (x.1.1=9) then
 some (Sum.inl ([],[],[],x.1.2.2.2.2.1,0,0,[],[],[],()))
 else some (Sum.inl ([],[],[],0,0,0,[],[],[],())))
 fun o=>
 Sum.elim
 (fun (x_1 :
 List UInt8×List UInt8×List UInt8×Int×Int×Int×List T96D×List T48D×List T48D×Unit)=>
 some
 ((x.1.1,x_1.1,x_1.2.1,x_1.2.2.1,x_1.2.2.2.1,x_1.2.2.2.2.1,
 x_1.2.2.2.2.2.1,x_1.2.2.2.2.2.2.1,x_1.2.2.2.2.2.2.2.1,
 x_1.2.2.2.2.2.2.2.2.1,0,0,0,false,[],[],[],()),
 ()))
 some o
def S185:Sig:=⟨P185,R185,F185⟩
noncomputable def E185:Env:={ tab:=tab.opt { flats:=[(93,L93)],owns:=[87],frzs:=[89,90,91] },nt:=60,Γ:=zaj [],joins:=zac [(17,⟨[⟨.fld 1004000 1,.str,.pv⟩,⟨.fld 1004000 2,.str,.pv⟩,⟨.fld 1004000 3,.str,.pv⟩,⟨.fld 1004000 4,(.int .i64),.pv⟩,⟨.fld 1004000 5,(.int .i64),.pv⟩,⟨.fld 1004000 6,(.int .i64),.pv⟩,⟨.fld 1004000 7,(.slice T96),.pv⟩,⟨.fld 1004000 8,(.slice T48),.pv⟩,⟨.fld 1004000 9,(.slice T48),.pv⟩],[2,3],[.site 1004000,.fld 1004000 0]++hL (.fld 1004000) 10 7++[.site 2000]++hL (.fld 2000) 0 17⟩)],loops:=zac [] }
theorem zn4 (x:T28D×Unit):afun E185 Tryz.f185 P185 R185 x=F185 x:=by kernel_rfl
def F171 (x:T28D×Unit):Option (T28D×Unit):=
 Option.bind
 (bif decide (x.1.1=11) then
 bif decide (x.1.1=11) then
 some
 (Sum.inl
 ([],[],0,0,0,false,[],[],[],0,[],[],[],0,0,0,[],[],[],0,0,0,false,[],[],[],
 ()))
 else
 bif decide (x.1.1=10) then
 some
 (Sum.inl
 (x.1.2.1,[],0,0,0,false,[],[],[],0,[],[],[],0,0,0,[],[],[],0,0,0,false,[],
 [],[],()))
 else
 bif decide (x.1.1=12) then
 some
 (Sum.inl
 (x.1.2.1,x.1.2.2.1,x.1.2.2.2.2.2.2.1,
 x.1.2.2.2.2.2.2.2.2.2.2.2.1,0,false,[],[],[],0,[],[],[],0,0,0,
 [],[],[],0,0,0,false,[],[],[],()))
 else
 bif decide (x.1.1=13) then
 some
 (Sum.inl
 (x.1.2.1,x.1.2.2.1,0,x.1.2.2.2.2.2.2.2.2.2.2.2.1,0,
 x.1.2.2.2.2.2.2.2.2.2.2.2.2.2.1,
 x.1.2.2.2.2.2.2.2.2.2.2.2.2.2.2.1,[],[],0,[],[],[],0,0,0,
 [],[],[],0,0,0,false,[],[],[],()))
 else
 bif decide (x.1.1=14) then
 some
 (Sum.inl
 ([],[],x.1.2.2.2.2.2.2.1,x.1.2.2.2.2.2.2.2.2.2.2.2.1,
 x.1.2.2.2.2.2.2.2.2.2.2.2.2.1,false,
 x.1.2.2.2.2.2.2.2.2.2.2.2.2.2.2.1,[],[],0,[],[],[],0,0,0,
 [],[],[],0,0,0,false,[],[],[],()))
 else
 bif decide (x.1.1=15) then
 some
 (Sum.inl
 ([],[],x.1.2.2.2.2.2.2.1,x.1.2.2.2.2.2.2.2.2.2.2.2.1,
 0,false,[],x.1.2.2.2.2.2.2.2.2.2.2.2.2.2.2.2.1,
 x.1.2.2.2.2.2.2.2.2.2.2.2.2.2.2.2.2.1,0,[],[],[],0,0,
 0,[],[],[],0,0,0,false,[],[],[],()))
 else
 (F185 x).bind
 fun b=>
 some (Sum.inr b)
 else
 bif decide (x.1.1=16) then
 some
 (Sum.inl
 ([],[],0,0,0,false,[],[],[],0,[],[],[],0,0,0,[],[],[],0,0,0,false,[],[],[],
 ()))
 else
 bif decide (x.1.1=10) then
 some
 (Sum.inl
 (x.1.2.1,[],0,0,0,false,[],[],[],0,[],[],[],0,0,0,[],[],[],0,0,0,false,[],
 [],[],()))
 else
 bif decide (x.1.1=12) then
 some
 (Sum.inl
 (x.1.2.1,x.1.2.2.1,x.1.2.2.2.2.2.2.1,
 x.1.2.2.2.2.2.2.2.2.2.2.2.1,0,false,[],[],[],0,[],[],[],0,0,0,
 [],[],[],0,0,0,false,[],[],[],()))
 else
 bif decide (x.1.1=13) then
 some
 (Sum.inl
 (x.1.2.1,x.1.2.2.1,0,x.1.2.2.2.2.2.2.2.2.2.2.2.1,0,
 x.1.2.2.2.2.2.2.2.2.2.2.2.2.2.1,
 x.1.2.2.2.2.2.2.2.2.2.2.2.2.2.2.1,[],[],0,[],[],[],0,0,0,
 [],[],[],0,0,0,false,[],[],[],()))
 else
 bif decide (x.1.1=14) then
 some
 (Sum.inl
 ([],[],x.1.2.2.2.2.2.2.1,x.1.2.2.2.2.2.2.2.2.2.2.2.1,
 x.1.2.2.2.2.2.2.2.2.2.2.2.2.1,false,
 x.1.2.2.2.2.2.2.2.2.2.2.2.2.2.2.1,[],[],0,[],[],[],0,0,0,
 [],[],[],0,0,0,false,[],[],[],()))
 else
 bif decide (x.1.1=15) then
 some
 (Sum.inl
 ([],[],x.1.2.2.2.2.2.2.1,x.1.2.2.2.2.2.2.2.2.2.2.2.1,
 0,false,[],x.1.2.2.2.2.2.2.2.2.2.2.2.2.2.2.2.1,
 x.1.2.2.2.2.2.2.2.2.2.2.2.2.2.2.2.2.1,0,[],[],[],0,0,
 0,[],[],[],0,0,0,false,[],[],[],()))
 else
 (F185 x).bind
 fun b=>
 some (Sum.inr b))
 fun o=>
 Sum.elim
 (fun (x_1 :
 List UInt8×List UInt8×Int×Int×Int×Bool×List T70D×List
 (Int×Int×(Int×Int×Bool×Int×List
 T70D×Y22D)×Unit)×List zai×Int×List UInt8×List UInt8×List UInt8×Int×Int×Int×List T96D×List T48D×List T48D×Int×Int×Int×Bool×List
 T70D×List
 (Int×Int×(Int×Int×Bool×Int×List
 T70D×Y22D)×Unit)×List zai×Unit)=>
 some
 ((x.1.1,x_1.1,x_1.2.1,[],0,0,x_1.2.2.1,[],[],[],
 x.1.2.2.2.2.2.2.2.2.2.2.1,x_1.2.2.2.1,x_1.2.2.2.2.1,
 x_1.2.2.2.2.2.1,x_1.2.2.2.2.2.2.1,x_1.2.2.2.2.2.2.2.1,
 x_1.2.2.2.2.2.2.2.2.1,()),
 ()))
 some o
def S171:Sig:=⟨P171,R171,F171⟩
noncomputable def E171:Env:={ tab:=tab.opt { flats:=[(93,L93)],owns:=[87],frzs:=[89,90,91] },nt:=81,Γ:=zaj [(185,[S185])],joins:=zac [(16,⟨[⟨.fld 1006000 1,.str,.pv⟩,⟨.fld 1006000 2,.str,.pv⟩,⟨.fld 1006000 6,(.int .i64),.pv⟩,⟨.fld 1006000 11,(.int .i64),.pv⟩,⟨.fld 1006000 12,(.int .i64),.pv⟩,⟨.fld 1006000 13,.bool,.pv⟩,⟨.fld 1006000 14,(.slice T70),.pv⟩,⟨.fld 1006000 15,(.slice T94),.pv⟩,⟨.fld 1006000 16,(.slice T113),.pv⟩,⟨.fld 2000 0,(.int .i64),.pv⟩,⟨.fld 2000 1,.str,.pv⟩,⟨.fld 2000 2,.str,.pv⟩,⟨.fld 2000 3,.str,.pv⟩,⟨.fld 2000 4,(.int .i64),.pv⟩,⟨.fld 2000 5,(.int .i64),.pv⟩,⟨.fld 2000 6,(.int .i64),.pv⟩,⟨.fld 2000 7,(.slice T96),.own false⟩,⟨.fld 2000 8,(.slice T48),.own false⟩,⟨.fld 2000 9,(.slice T48),.own false⟩,⟨.fld 2000 10,(.int .i64),.pv⟩,⟨.fld 2000 11,(.int .i64),.pv⟩,⟨.fld 2000 12,(.int .i64),.pv⟩,⟨.fld 2000 13,.bool,.pv⟩,⟨.fld 2000 14,(.slice T70),.own false⟩,⟨.fld 2000 15,(.slice T94),.own false⟩,⟨.fld 2000 16,(.slice T113),.own false⟩],[2,3],[.site 1006000,.fld 1006000 0,.fld 1006000 3,.fld 1006000 4,.fld 1006000 5]++hL (.fld 1006000) 7 4++[.site 2000]⟩)],loops:=zac [] }
theorem zoh (x:T28D×Unit):afun E171 Tryz.f171 P171 R171 x=F171 x:=by kernel_rfl
def F103 (x:List UInt8×List UInt8×Unit):Option (Bool×Unit):=
 (F59 (x.1,())).bind fun b=>
 bif b.1 then
 bif decide (x.2.1=[]) then some (true,())
 else
 (F90 (x.2.1,UInt8.ofNat 127,())).bind fun b=>
 bif b.1 then some (!(zaY x.2.1 x.1 || decide (x.2.1=x.1)),())
 else some (false,())
 else some (false,())
def S103:Sig:=⟨P103,R103,F103⟩
noncomputable def E103:Env:={ tab:=tab.opt { flats:=[(93,L93)],owns:=[87],frzs:=[89,90,91] },nt:=20,Γ:=zaj [(59,[S59]),(90,[S90])],joins:=zac [],loops:=zac [] }
theorem zpj (x:List UInt8×List UInt8×Unit):afun E103 Tryz.f103 P103 R103 x=F103 x:=by kernel_rfl
def F186 (x:List UInt8×List UInt8×Int×Unit):Option (Bool×Unit):=
 (F59 (x.1,())).bind fun b=>
 bif b.1 then
 bif decide (Int.ofNat (List.length x.2.1)≤40) then
 (F146 ([x.2.2.1],())).bind fun b=>some b
 else some (false,())
 else some (false,())
def S186:Sig:=⟨P186,R186,F186⟩
noncomputable def E186:Env:={ tab:=tab.opt { flats:=[(93,L93)],owns:=[87],frzs:=[89,90,91] },nt:=19,Γ:=zaj [(59,[S59]),(146,[S146])],joins:=zac [],loops:=zac [] }
theorem zn3 (x:List UInt8×List UInt8×Int×Unit):afun E186 Tryz.f186 P186 R186 x=F186 x:=by kernel_rfl
def F193 (x:T96D×Unit):Option (Bool×Unit):=
 (F59 (x.1.1,())).bind fun b=>
 bif !b.1 then some (false,())
 else
 bif decide (x.1.2.2.1 < 0) then some (false,())
 else
 bif decide (2 < x.1.2.2.1) then some (false,())
 else
 (F144 (x.1.2.2.2.1,-1099511627776,1099511627776,())).bind
 fun b=>
 bif !b.1 then some (false,())
 else
 bif decide (x.1.2.1=5) then
 bif decide (x.1.2.2.2.1=0) then
 some (decide (Int.ofNat (List.length x.1.2.2.2.2.1)≤40),())
 else some (false,())
 else
 bif decide (1≤x.1.2.1) then
 bif decide (x.1.2.1≤4) then some (decide (x.1.2.2.2.2.1=[]),())
 else some (false,())
 else some (false,())
def S193:Sig:=⟨P193,R193,F193⟩
noncomputable def E193:Env:={ tab:=tab.opt { flats:=[(93,L93)],owns:=[87],frzs:=[89,90,91] },nt:=48,Γ:=zaj [(59,[S59]),(144,[S144])],joins:=zac [],loops:=zac [] }
theorem znY (x:T96D×Unit):afun E193 Tryz.f193 P193 R193 x=F193 x:=by kernel_rfl
def F192 (x:T96D×Unit):Option (Bool×Unit):=
 (F193 x).bind fun b=>some (!b.1,())
def S192:Sig:=⟨P192,R192,F192⟩
noncomputable def E192:Env:={ tab:=tab.opt { flats:=[(93,L93)],owns:=[87],frzs:=[89,90,91] },nt:=6,Γ:=zaj [(193,[S193])],joins:=zac [],loops:=zac [] }
theorem znZ (x:T96D×Unit):afun E192 Tryz.f192 P192 R192 x=F192 x:=by kernel_rfl
def zt4 (x:List T96D×Unit):Option (Int×Unit):=
 zaT (Int×Unit) (Int×Unit)
 (fun (x_1:Int×Unit)=>
 bif decide (x_1.1 < Int.ofNat (List.length x.1)) then
 (idx x.1 x_1.1).bind fun b=>
 (F192 (b,())).bind fun b=>
 bif b.1 then some (Sum.inr x_1) else some (Sum.inl (wrap64 (x_1.1+1),()))
 else some (Sum.inr (-1,())))
 big (0,())
def zvZ:Sig:=⟨zxK,zxs,zt4⟩
noncomputable def zx6:Env:={ tab:=tab.opt { flats:=[(93,L93)],owns:=[87],frzs:=[89,90,91] },nt:=19,Γ:=zaj [(192,[S192])],joins:=zac [],loops:=zac [(2,zaI ⟨[⟨.slot 8,(.int .i64),.pv⟩],[0,1,7],[]⟩)] }
theorem zms (x:List T96D×Unit):afun zx6 Tryz.f195 zxK zxs x=zt4 x:=by kernel_rfl
def zq1 (x:List T96D×Unit):Option (Bool×Unit):=
 (zt4 x).bind fun b=>some (decide (0≤b.1),())
def zv0:Sig:=⟨zxL,zxt,zq1⟩
noncomputable def zx7:Env:={ tab:=tab.opt { flats:=[(93,L93)],owns:=[87],frzs:=[89,90,91] },nt:=9,Γ:=zaj [(192,[S192]),(195,[zvZ])],joins:=zac [],loops:=zac [] }
theorem zmt (x:List T96D×Unit):afun zx7 Tryz.f191 zxL zxt x=zq1 x:=by kernel_rfl
def F196 (x:T48D×Unit):Option (Bool×Unit):=
 bif decide (x.1.1=1) then
 bif decide (x.1.2.2.1=[]) then
 (F186 (x.1.2.1,x.1.2.2.2)).bind fun b=>some b
 else some (false,())
 else
 bif decide (x.1.1=2) then
 bif decide (x.1.1=2) then
 bif decide (x.1.2.2.2.1=[]) then
 bif decide (x.1.2.2.2.2.1=0) then
 (F103 (x.1.2.1,x.1.2.2.1,())).bind fun b=>some b
 else some (false,())
 else some (false,())
 else some (false,())
 else
 bif decide (x.1.1=3) then
 bif decide (x.1.2.2.2.1=[]) then
 bif decide (x.1.2.2.2.2.1=0) then
 (F103 (x.1.2.1,x.1.2.2.1,())).bind fun b=>some b
 else some (false,())
 else some (false,())
 else some (false,())
def S196:Sig:=⟨P196,R196,F196⟩
noncomputable def E196:Env:={ tab:=tab.opt { flats:=[(93,L93)],owns:=[87],frzs:=[89,90,91] },nt:=37,Γ:=zaj [(103,[S103]),(186,[S186])],joins:=zac [],loops:=zac [] }
theorem znW (x:T48D×Unit):afun E196 Tryz.f196 P196 R196 x=F196 x:=by kernel_rfl
def F201 (x:List UInt8×List UInt8×List UInt8×Unit):Option (Bool×Unit):=
 (F103 (x.1,x.2.1,())).bind fun b=>
 bif !b.1 then some (false,())
 else
 (F59 x.2.2).bind fun b=>
 bif !b.1 then some (false,())
 else
 bif decide (x.2.2.1=x.1) then some (true,())
 else
 bif !(zaY x.2.2.1 x.1 || decide (x.2.2.1=x.1)) then
 some (zaY x.2.2.1 x.2.1,())
 else some (false,())
def S201:Sig:=⟨P201,R201,F201⟩
noncomputable def E201:Env:={ tab:=tab.opt { flats:=[(93,L93)],owns:=[87],frzs:=[89,90,91] },nt:=29,Γ:=zaj [(59,[S59]),(103,[S103])],joins:=zac [],loops:=zac [] }
theorem znT (x:List UInt8×List UInt8×List UInt8×Unit):afun E201 Tryz.f201 P201 R201 x=F201 x:=by kernel_rfl
def F199 (x:T48D×T48D×Unit):Option (Bool×Unit):=
 bif decide (x.1.1=3) then some (false,())
 else
 bif decide (x.2.1.1=3) then some (false,())
 else
 bif decide (x.1.2.1=x.2.1.2.1) then some (true,())
 else
 (F201 (x.1.2.1,x.1.2.2.1,x.2.1.2.1,())).bind fun b=>
 bif b.1 then some (true,())
 else
 (F201 (x.2.1.2.1,x.2.1.2.2.1,x.1.2.1,())).bind
 fun b=>some b
def S199:Sig:=⟨P199,R199,F199⟩
noncomputable def E199:Env:={ tab:=tab.opt { flats:=[(93,L93)],owns:=[87],frzs:=[89,90,91] },nt:=36,Γ:=zaj [(201,[S201])],joins:=zac [],loops:=zac [] }
theorem znU (x:T48D×T48D×Unit):afun E199 Tryz.f199 P199 R199 x=F199 x:=by kernel_rfl
def F198 (x:T48D×Unit):Option (Bool×Unit):=none
def S198:Sig:=⟨P198,R198,F198⟩
noncomputable def E198:Env:={ tab:=tab.opt { flats:=[(93,L93)],owns:=[87],frzs:=[89,90,91] },nt:=7,Γ:=zaj [(199,[S199])],joins:=zac [],loops:=zac [] }
theorem znV (x:T48D×Unit):afun E198 Tryz.f198 P198 R198 x=F198 x:=by kernel_rfl
def znj (x:T48D×T48D×Unit):Option (Bool×T48D×Unit):=
 (F199 x).bind fun b=>some (b.1,x.2)
def zla:Sig:=⟨zxI,zxq,znj⟩
noncomputable def zx4:Env:={ tab:=tab.opt { flats:=[(93,L93)],owns:=[87],frzs:=[89,90,91] },nt:=7,Γ:=zaj [(199,[S199])],joins:=zac [],loops:=zac [] }
theorem zmq (x:T48D×T48D×Unit):afun zx4 Tryz.f198 zxI zxq x=znj x:=by kernel_rfl
def zt3 (x:List T48D×T48D×Unit):Option (Int×T48D×Unit):=
 zaT (Int×T48D)
 (Int×T48D×Unit)
 (fun (x_1:Int×T48D)=>
 bif decide (x_1.1 < Int.ofNat (List.length x.1)) then
 (idx x.1 x_1.1).bind fun b=>
 (znj (b,x_1.2,())).bind
 fun b=>
 bif b.1 then some (Sum.inr (x_1.1,b.2))
 else some (Sum.inl (wrap64 (x_1.1+1),b.2.1))
 else some (Sum.inr (-1,x_1.2,())))
 big (0,x.2.1)
def zvX:Sig:=⟨zxH,zxp,zt3⟩
noncomputable def zx3:Env:={ tab:=tab.opt { flats:=[(93,L93)],owns:=[87],frzs:=[89,90,91] },nt:=19,Γ:=zaj [(198,[S198,zla])],joins:=zac [],loops:=zac [(2,zaI ⟨[⟨.slot 8,(.int .i64),.pv⟩,⟨.fld 2 0,(.int .i64),.pv⟩,⟨.fld 2 1,.str,.pv⟩,⟨.fld 2 2,.str,.pv⟩,⟨.fld 2 3,.str,.pv⟩,⟨.fld 2 4,(.int .i64),.pv⟩],[0,1,7],[.site 2,.comp 1 0]⟩)] }
theorem zmp (x:List T48D×T48D×Unit):afun zx3 Tryz.f200 zxH zxp x=zt3 x:=by kernel_rfl
def zq0 (x:List T48D×T48D×Unit):Option (Bool×T48D×Unit):=
 (zt3 x).bind fun b=>
 some (decide (0≤b.1),b.2)
def zvY:Sig:=⟨zxJ,zxr,zq0⟩
noncomputable def zx5:Env:={ tab:=tab.opt { flats:=[(93,L93)],owns:=[87],frzs:=[89,90,91] },nt:=9,Γ:=zaj [(198,[S198,zla]),(200,[zvX])],joins:=zac [],loops:=zac [] }
theorem zmr (x:List T48D×T48D×Unit):afun zx5 Tryz.f197 zxJ zxr x=zq0 x:=by kernel_rfl
def F194 (x:List T48D×Unit):Option (Bool×Unit):=
 zaT (Int×Unit) (Bool×Unit)
 (fun (x_1:Int×Unit)=>
 bif decide (x_1.1 < Int.ofNat (List.length x.1)) then
 (idx x.1 x_1.1).bind fun b=>
 (F196 (b,())).bind fun b_1=>
 bif !b_1.1 then some (Sum.inr (false,()))
 else
 (zcN x.1 0 x_1.1).bind
 fun b_2=>
 (zq0 (b_2,b,())).bind
 fun b=>
 bif b.1 then some (Sum.inr (false,()))
 else some (Sum.inl (wrap64 (x_1.1+1),()))
 else some (Sum.inr (decide (Int.ofNat (List.length x.1)≤4),())))
 big (0,())
def S194:Sig:=⟨P194,R194,F194⟩
noncomputable def E194:Env:={ tab:=tab.opt { flats:=[(93,L93)],owns:=[87],frzs:=[89,90,91] },nt:=26,Γ:=zaj [(196,[S196]),(197,[zvY]),(198,[S198,zla])],joins:=zac [],loops:=zac [(2,zaI ⟨[⟨.slot 7,(.int .i64),.pv⟩],[0,5,6],[]⟩)] }
theorem znX (x:List T48D×Unit):afun E194 Tryz.f194 P194 R194 x=F194 x:=by kernel_rfl
def F187 (x:T28D×Unit):Option (Bool×Unit):=
 bif decide (Int.ofNat (List.length x.1.2.2.2.2.2.2.2.1)≤4) then
 (zq1 (x.1.2.2.2.2.2.2.2.1,())).bind fun b=>
 bif !b.1 then
 (F194 (x.1.2.2.2.2.2.2.2.2.1,())).bind fun b=>
 bif b.1 then
 (F194 (x.1.2.2.2.2.2.2.2.2.2.1,())).bind fun b=>
 some b
 else some (false,())
 else some (false,())
 else some (false,())
def S187:Sig:=⟨P187,R187,F187⟩
noncomputable def E187:Env:={ tab:=tab.opt { flats:=[(93,L93)],owns:=[87],frzs:=[89,90,91] },nt:=23,Γ:=zaj [(191,[zv0]),(192,[S192]),(194,[S194])],joins:=zac [],loops:=zac [] }
theorem zn2 (x:T28D×Unit):afun E187 Tryz.f187 P187 R187 x=F187 x:=by kernel_rfl
def F172 (x:T28D×Unit):Option (Bool×Unit):=
 bif decide (x.1.1=1) then
 (F186 (x.1.2.1,x.1.2.2.2.1,x.1.2.2.2.2.1,())).bind
 fun b=>some b
 else
 bif decide (x.1.1=2) then
 (F103 (x.1.2.1,x.1.2.2.1,())).bind fun b=>some b
 else
 bif decide (x.1.1=3) then (F187 x).bind fun b=>some b
 else
 bif decide (x.1.1=4) then
 (F145 ([x.1.2.2.2.2.2.2.1],())).bind fun b=>some b
 else
 bif decide (x.1.1=5) then
 (F145 ([x.1.2.2.2.2.1],())).bind fun b=>
 bif b.1 then
 (F144 (x.1.2.2.2.2.2.1,1,1000,())).bind fun b=>some b
 else some (false,())
 else
 bif decide (x.1.1=6) then
 bif decide (x.1.1=6) then
 (F145 ([x.1.2.2.2.2.1],())).bind fun b=>some b
 else
 bif decide (x.1.1=9) then
 bif !decide (x.1.2.2.2.2.1=0) then
 (F144 (x.1.2.2.2.2.1,-1099511627776,1099511627776,())).bind
 fun b=>some b
 else some (false,())
 else some (decide (x.1.1=8),())
 else
 bif decide (x.1.1=7) then
 (F145 ([x.1.2.2.2.2.1],())).bind fun b=>some b
 else
 bif decide (x.1.1=9) then
 bif !decide (x.1.2.2.2.2.1=0) then
 (F144 (x.1.2.2.2.2.1,-1099511627776,1099511627776,())).bind
 fun b=>some b
 else some (false,())
 else some (decide (x.1.1=8),())
def S172:Sig:=⟨P172,R172,F172⟩
noncomputable def E172:Env:={ tab:=tab.opt { flats:=[(93,L93)],owns:=[87],frzs:=[89,90,91] },nt:=62,Γ:=zaj [(103,[S103]),(144,[S144]),(145,[S145]),(186,[S186]),(187,[S187])],joins:=zac [],loops:=zac [] }
theorem zog (x:T28D×Unit):afun E172 Tryz.f172 P172 R172 x=F172 x:=by kernel_rfl
def F173 (x:T28D×Unit):Option (Bool×Unit):=
 Option.bind
 (bif !decide (x.1.2.1=[]) then
 (F59 (x.1.2.1,())).bind fun b=>
 bif !b.1 then some (Sum.inr (false,()))
 else
 bif !decide (x.1.2.2.1=[]) then
 (F59 (x.1.2.2.1,())).bind fun b=>
 bif !b.1 then some (Sum.inr (false,()))
 else
 bif
 decide
 (8 <
 Int.ofNat (List.length x.1.2.2.2.2.2.2.2.2.2.2.2.2.2.2.1)) then
 some (Sum.inr (false,()))
 else some (Sum.inl ())
 else
 bif
 decide
 (8 < Int.ofNat (List.length x.1.2.2.2.2.2.2.2.2.2.2.2.2.2.2.1)) then
 some (Sum.inr (false,()))
 else some (Sum.inl ())
 else
 bif !decide (x.1.2.2.1=[]) then
 (F59 (x.1.2.2.1,())).bind fun b=>
 bif !b.1 then some (Sum.inr (false,()))
 else
 bif
 decide
 (8 < Int.ofNat (List.length x.1.2.2.2.2.2.2.2.2.2.2.2.2.2.2.1)) then
 some (Sum.inr (false,()))
 else some (Sum.inl ())
 else
 bif decide (8 < Int.ofNat (List.length x.1.2.2.2.2.2.2.2.2.2.2.2.2.2.2.1)) then
 some (Sum.inr (false,()))
 else some (Sum.inl ()))
 fun o=>
 Sum.elim
 (fun (_z:Unit)=>
 zaT (Int×Unit) (Bool×Unit)
 (fun (x_1:Int×Unit)=>
 bif
 decide
 (x_1.1 <
 Int.ofNat (List.length x.1.2.2.2.2.2.2.2.2.2.2.2.2.2.2.1)) then
 (idx x.1.2.2.2.2.2.2.2.2.2.2.2.2.2.2.1 x_1.1).bind
 fun b=>
 (F59 (b.1,())).bind fun b_1=>
 bif !b_1.1 then some (Sum.inr (false,()))
 else
 (F149 b.2).bind fun b_2=>
 bif !b_2.1 then some (Sum.inr (false,()))
 else
 bif b.2.1.2.2.2.2.2.2.1 then some (Sum.inr (false,()))
 else
 bif decide (0 < x_1.1) then
 Option.bind
 (idx x.1.2.2.2.2.2.2.2.2.2.2.2.2.2.2.1
 (wrap64 (x_1.1 - 1)))
 fun b_3=>
 bif !strlt b_3.1 b.1 then some (Sum.inr (false,()))
 else some (Sum.inl (wrap64 (x_1.1+1),()))
 else some (Sum.inl (wrap64 (x_1.1+1),()))
 else some (Sum.inr (true,())))
 big (0,()))
 some o
def S173:Sig:=⟨P173,R173,F173⟩
noncomputable def E173:Env:={ tab:=tab.opt { flats:=[(93,L93)],owns:=[87],frzs:=[89,90,91] },nt:=71,Γ:=zaj [(59,[S59]),(149,[S149])],joins:=zac [(3,⟨[],[1],[.site 1000]++hL (.fld 1000) 0 17⟩)],loops:=zac [(4,zaI ⟨[⟨.slot 34,(.int .i64),.pv⟩],[1,32,33],[.site 1000]++hL (.fld 1000) 0 17⟩)] }
theorem zof (x:T28D×Unit):afun E173 Tryz.f173 P173 R173 x=F173 x:=by kernel_rfl
def F174 (x:T28D×Unit):Option (Bool×Unit):=
 Option.bind
 (F145 ([x.1.2.2.2.2.2.2.1,x.1.2.2.2.2.2.2.2.2.2.2.2.2.1],()))
 fun b=>
 bif !b.1 then some (false,())
 else
 bif decide (x.1.2.2.2.2.2.2.2.2.2.2.2.2.1≤x.1.2.2.2.2.2.2.1) then
 some (false,())
 else
 bif decide (64 < Int.ofNat (List.length x.1.2.2.2.2.2.2.2.2.2.2.2.2.2.2.1)) then
 some (false,())
 else
 zaT (Int×Unit) (Bool×Unit)
 (fun (x_1:Int×Unit)=>
 bif
 decide
 (x_1.1 <
 Int.ofNat (List.length x.1.2.2.2.2.2.2.2.2.2.2.2.2.2.2.1)) then
 (idx x.1.2.2.2.2.2.2.2.2.2.2.2.2.2.2.1 x_1.1).bind
 fun b=>
 (F59 (b.1,())).bind fun b_1=>
 bif !b_1.1 then some (Sum.inr (false,()))
 else
 (F149 b.2).bind fun b_2=>
 bif !b_2.1 then some (Sum.inr (false,()))
 else
 bif decide (b.2.1.1≤x.1.2.2.2.2.2.2.1) then
 some (Sum.inr (false,()))
 else
 bif decide (x.1.2.2.2.2.2.2.2.2.2.2.2.2.1 < b.2.1.1) then
 some (Sum.inr (false,()))
 else
 bif decide (x_1.1=0) then
 some (Sum.inl (wrap64 (x_1.1+1),()))
 else
 Option.bind
 (idx x.1.2.2.2.2.2.2.2.2.2.2.2.2.2.2.1
 (wrap64 (x_1.1 - 1)))
 fun b_3=>
 bif decide (b.2.1.1 < b_3.2.1.1) then some (Sum.inr (false,()))
 else
 bif decide (b_3.2.1.1=b.2.1.1) then
 bif !strlt b_3.1 b.1 then some (Sum.inr (false,()))
 else some (Sum.inl (wrap64 (x_1.1+1),()))
 else some (Sum.inl (wrap64 (x_1.1+1),()))
 else some (Sum.inr (true,())))
 big (0,())
def S174:Sig:=⟨P174,R174,F174⟩
noncomputable def E174:Env:={ tab:=tab.opt { flats:=[(93,L93)],owns:=[87],frzs:=[89,90,91] },nt:=92,Γ:=zaj [(59,[S59]),(145,[S145]),(149,[S149])],joins:=zac [],loops:=zac [(4,zaI ⟨[⟨.slot 29,(.int .i64),.pv⟩],[1,27,28],[.site 1000]++hL (.fld 1000) 0 17⟩)] }
theorem zoe (x:T28D×Unit):afun E174 Tryz.f174 P174 R174 x=F174 x:=by kernel_rfl
def F143 (x:T28D×Unit):Option (Bool×Unit):=
 (F171 x).bind
 fun b=>
 (F92 (b.1,x)).bind fun b=>
 bif !b.1 then some (false,())
 else
 bif decide (x.1.1 < 10) then (F172 x).bind fun b=>some b
 else
 (F145 ([x.1.2.2.2.2.2.2.2.2.2.2.1],())).bind fun b=>
 bif !b.1 then some (false,())
 else
 bif decide (x.1.1=10) then
 (F40 (x.1.2.1,())).bind fun b=>some b
 else
 bif decide (x.1.1=11) then
 bif decide (x.1.1=11) then some (true,())
 else
 bif decide (x.1.1=12) then
 Option.bind
 (F145
 ([x.1.2.2.2.2.2.2.2.2.2.2.2.1,x.1.2.2.2.2.2.2.1],
 ()))
 fun b=>
 bif b.1 then
 (F40 (x.1.2.1,())).bind fun b=>
 bif b.1 then
 (F40 (x.1.2.2.1,())).bind fun b=>some b
 else some (false,())
 else some (false,())
 else
 bif decide (x.1.1=13) then
 (F145 ([x.1.2.2.2.2.2.2.2.2.2.2.2.1],())).bind
 fun b=>
 bif b.1 then (F173 x).bind fun b=>some b
 else some (false,())
 else
 bif decide (x.1.1=14) then
 (F145 ([x.1.2.2.2.2.2.2.2.2.2.2.2.1],())).bind
 fun b=>
 bif b.1 then (F174 x).bind fun b=>some b
 else some (false,())
 else
 bif decide (x.1.1=15) then
 Option.bind
 (F145
 ([x.1.2.2.2.2.2.2.2.2.2.2.2.1,
 x.1.2.2.2.2.2.2.1],
 ()))
 fun b=>
 bif b.1 then
 (F152 x.1.2.2.2.2.2.2.2.2.2.2.2.2.2.2.2).bind
 fun b=>some b
 else some (false,())
 else some (false,())
 else
 bif decide (x.1.1=16) then some (true,())
 else
 bif decide (x.1.1=12) then
 Option.bind
 (F145
 ([x.1.2.2.2.2.2.2.2.2.2.2.2.1,x.1.2.2.2.2.2.2.1],
 ()))
 fun b=>
 bif b.1 then
 (F40 (x.1.2.1,())).bind fun b=>
 bif b.1 then
 (F40 (x.1.2.2.1,())).bind fun b=>some b
 else some (false,())
 else some (false,())
 else
 bif decide (x.1.1=13) then
 (F145 ([x.1.2.2.2.2.2.2.2.2.2.2.2.1],())).bind
 fun b=>
 bif b.1 then (F173 x).bind fun b=>some b
 else some (false,())
 else
 bif decide (x.1.1=14) then
 (F145 ([x.1.2.2.2.2.2.2.2.2.2.2.2.1],())).bind
 fun b=>
 bif b.1 then (F174 x).bind fun b=>some b
 else some (false,())
 else
 bif decide (x.1.1=15) then
 Option.bind
 (F145
 ([x.1.2.2.2.2.2.2.2.2.2.2.2.1,
 x.1.2.2.2.2.2.2.1],
 ()))
 fun b=>
 bif b.1 then
 (F152 x.1.2.2.2.2.2.2.2.2.2.2.2.2.2.2.2).bind
 fun b=>some b
 else some (false,())
 else some (false,())
def S143:Sig:=⟨P143,R143,F143⟩
noncomputable def E143:Env:={ tab:=tab.opt { flats:=[(93,L93)],owns:=[87],frzs:=[89,90,91] },nt:=81,Γ:=zaj [(40,[S40]),(92,[S92]),(145,[S145]),(152,[S152]),(171,[S171]),(172,[S172]),(173,[S173]),(174,[S174])],joins:=zac [],loops:=zac [] }
theorem zoG (x:T28D×Unit):afun E143 Tryz.f143 P143 R143 x=F143 x:=by kernel_rfl
def F102 (x:T33D×Unit):Option (Bool×Unit):=
 (F143 x.1.2.2).bind fun b=>
 bif !b.1 then some (false,())
 else
 (F144 (x.1.1,0,31,())).bind fun b=>
 bif !b.1 then some (false,())
 else
 bif decide (x.1.1=0) then
 bif decide (x.1.2.1=0) then some (decide (8≤x.1.2.2.1.1),())
 else some (false,())
 else
 (F145 ([x.1.2.1],())).bind fun b=>
 bif b.1 then some (decide (x.1.2.2.1.1 < 8),()) else some (false,())
def S102:Sig:=⟨P102,R102,F102⟩
noncomputable def E102:Env:={ tab:=tab.opt { flats:=[(93,L93)],owns:=[87],frzs:=[89,90,91] },nt:=35,Γ:=zaj [(143,[S143]),(144,[S144]),(145,[S145])],joins:=zac [],loops:=zac [] }
theorem zpk (x:T33D×Unit):afun E102 Tryz.f102 P102 R102 x=F102 x:=by kernel_rfl
def F68 (x:TMD×Unit):Option (Bool×Unit):=
 (F67 (x.1.2.2.2.2.1,0,31,())).bind fun b=>
 bif decide (x.1.1=2) then
 (F102 (x.1.2.2.2.1,())).bind fun b=>some b
 else
 bif decide (x.1.1=3) then
 bif b.1 then
 (F103 (x.1.2.2.2.2.2.1,x.1.2.2.2.2.2.2.1,())).bind
 fun b=>
 bif b.1 then
 (F67 (x.1.2.2.2.2.2.2.2.1,0,1099511627776,())).bind
 fun b=>
 bif b.1 then
 (F67 (x.1.2.2.2.2.2.2.2.2.1,0,8,())).bind
 fun b=>some b
 else some (false,())
 else some (false,())
 else some (false,())
 else
 bif decide (x.1.1=4) then
 bif b.1 then
 (F103 (x.1.2.2.2.2.2.1,x.1.2.2.2.2.2.2.1,())).bind
 fun b=>
 bif b.1 then
 (F67 (x.1.2.2.2.2.2.2.2.1,1,1099511627776,())).bind
 fun b=>some b
 else some (false,())
 else some (false,())
 else
 bif decide (x.1.1=5) then
 (F40 (x.1.2.2.2.2.2.1,())).bind fun b=>
 bif b.1 then
 bif decide (x.1.2.2.2.2.2.2.1=[]) then
 (F67 (x.1.2.2.2.2.2.2.2.1,1,1099511627776,())).bind
 fun b=>some b
 else
 (F59 (x.1.2.2.2.2.2.2.1,())).bind fun b=>
 bif b.1 then
 (F67 (x.1.2.2.2.2.2.2.2.1,1,1099511627776,())).bind
 fun b=>some b
 else some (false,())
 else some (false,())
 else
 bif decide (x.1.1=6) then
 (F67 (x.1.2.2.2.2.2.2.2.1,1,1099511627776,())).bind
 fun b=>some b
 else some (decide (x.1.1=7),())
def S68:Sig:=⟨P68,R68,F68⟩
noncomputable def E68:Env:={ tab:=tab.opt { flats:=[(93,L93)],owns:=[87],frzs:=[89,90,91] },nt:=77,Γ:=zaj [(40,[S40]),(59,[S59]),(67,[S67]),(102,[S102]),(103,[S103])],joins:=zac [],loops:=zac [] }
theorem zrT (x:TMD×Unit):afun E68 Tryz.f68 P68 R68 x=F68 x:=by kernel_rfl
def F150 (x:T70D×Unit):Option (Bool×Unit):=
 (F59 (x.1.1,())).bind fun b=>
 bif !b.1 then some (true,())
 else (F151 ([x.1.2.1],())).bind fun b=>some (!b.1,())
def S150:Sig:=⟨P150,R150,F150⟩
noncomputable def E150:Env:={ tab:=tab.opt { flats:=[(93,L93)],owns:=[87],frzs:=[89,90,91] },nt:=14,Γ:=zaj [(59,[S59]),(151,[S151])],joins:=zac [],loops:=zac [] }
theorem zoA (x:T70D×Unit):afun E150 Tryz.f150 P150 R150 x=F150 x:=by kernel_rfl
def zt7 (x:List T70D×Unit):Option (Int×Unit):=
 zaT (Int×Unit) (Int×Unit)
 (fun (x_1:Int×Unit)=>
 bif decide (x_1.1 < Int.ofNat (List.length x.1)) then
 (idx x.1 x_1.1).bind
 fun b=>
 (F150 (b,())).bind fun b=>
 bif b.1 then some (Sum.inr x_1) else some (Sum.inl (wrap64 (x_1.1+1),()))
 else some (Sum.inr (-1,())))
 big (0,())
def zv2:Sig:=⟨zxO,zxw,zt7⟩
noncomputable def zya:Env:={ tab:=tab.opt { flats:=[(93,L93)],owns:=[87],frzs:=[89,90,91] },nt:=19,Γ:=zaj [(150,[S150])],joins:=zac [],loops:=zac [(2,zaI ⟨[⟨.slot 8,(.int .i64),.pv⟩],[0,1,7],[]⟩)] }
theorem zmw (x:List T70D×Unit):afun zya Tryz.f178 zxO zxw x=zt7 x:=by kernel_rfl
def zq4 (x:List T70D×Unit):Option (Bool×Unit):=
 (zt7 x).bind fun b=>some (decide (0≤b.1),())
def zv8:Sig:=⟨zxW,zxE,zq4⟩
noncomputable def zyi:Env:={ tab:=tab.opt { flats:=[(93,L93)],owns:=[87],frzs:=[89,90,91] },nt:=9,Γ:=zaj [(150,[S150]),(178,[zqT,zv2])],joins:=zac [],loops:=zac [] }
theorem zmE (x:List T70D×Unit):afun zyi Tryz.f147 zxW zxE x=zq4 x:=by kernel_rfl
def F106 (x:List T70D×Int×Unit):Option (Bool×Unit):=
 bif decide (Int.ofNat (List.length x.1)≤x.2.1) then
 (zq4 (x.1,())).bind fun b=>some (!b.1,())
 else some (false,())
def S106:Sig:=⟨P106,R106,F106⟩
noncomputable def E106:Env:={ tab:=tab.opt { flats:=[(93,L93)],owns:=[87],frzs:=[89,90,91] },nt:=14,Γ:=zaj [(147,[zqV,zv8]),(150,[S150])],joins:=zac [],loops:=zac [] }
theorem zpg (x:List T70D×Int×Unit):afun E106 Tryz.f106 P106 R106 x=F106 x:=by kernel_rfl
def F105 (x:List TBD×Unit):Option (Bool×Unit):=
 zaT (Int×Unit) (Bool×Unit)
 (fun (x_1:Int×Unit)=>
 bif decide (x_1.1 < Int.ofNat (List.length x.1)) then
 (idx x.1 x_1.1).bind
 fun b=>
 (F67 (b.1,1,1099511627776,())).bind fun b_1=>
 bif !b_1.1 then some (Sum.inr (false,()))
 else
 bif decide (0 < x_1.1) then
 (idx x.1 (wrap64 (x_1.1 - 1))).bind
 fun b_2=>
 bif decide (b.1≤b_2.1) then some (Sum.inr (false,()))
 else
 (F106 (b.2.1,48,())).bind fun b=>
 bif !b.1 then some (Sum.inr (false,()))
 else some (Sum.inl (wrap64 (x_1.1+1),()))
 else
 (F106 (b.2.1,48,())).bind fun b=>
 bif !b.1 then some (Sum.inr (false,()))
 else some (Sum.inl (wrap64 (x_1.1+1),()))
 else some (Sum.inr (decide (Int.ofNat (List.length x.1)≤64),())))
 big (0,())
def S105:Sig:=⟨P105,R105,F105⟩
noncomputable def E105:Env:={ tab:=tab.opt { flats:=[(93,L93)],owns:=[87],frzs:=[89,90,91] },nt:=41,Γ:=zaj [(67,[S67]),(106,[S106])],joins:=zac [],loops:=zac [(2,zaI ⟨[⟨.slot 7,(.int .i64),.pv⟩],[0,5,6],[]⟩)] }
theorem zph (x:List TBD×Unit):afun E105 Tryz.f105 P105 R105 x=F105 x:=by kernel_rfl
def F107 (x:T55D×Unit):Option (Bool×Unit):=
 bif decide (x.1.1=0) then
 bif decide (x.1.2.1=0) then
 bif decide (Int.ofNat (List.length x.1.2.2.1)=0) then
 some (decide (Int.ofNat (List.length x.1.2.2.2.1)=0),())
 else some (false,())
 else some (false,())
 else some (false,())
def S107:Sig:=⟨P107,R107,F107⟩
noncomputable def E107:Env:={ tab:=tab.opt { flats:=[(93,L93)],owns:=[87],frzs:=[89,90,91] },nt:=23,Γ:=zaj [],joins:=zac [],loops:=zac [] }
theorem zpf (x:T55D×Unit):afun E107 Tryz.f107 P107 R107 x=F107 x:=by kernel_rfl
def F108 (x:T55D×Unit):Option (Bool×Unit):=
 (F145 ([x.1.1],())).bind fun b=>
 bif b.1 then
 (F146 ([x.1.2.1],())).bind fun b=>
 bif b.1 then (F152 x.1.2.2).bind fun b=>some b else some (false,())
 else some (false,())
def S108:Sig:=⟨P108,R108,F108⟩
noncomputable def E108:Env:={ tab:=tab.opt { flats:=[(93,L93)],owns:=[87],frzs:=[89,90,91] },nt:=20,Γ:=zaj [(145,[S145]),(146,[S146]),(152,[S152])],joins:=zac [],loops:=zac [] }
theorem zpe (x:T55D×Unit):afun E108 Tryz.f108 P108 R108 x=F108 x:=by kernel_rfl
def znk (x:List UInt8×Unit):Option (Bool×Unit):=
 bif decide (x.1=[]) then some (true,()) else (F40 x).bind fun b=>some b
def zv7:Sig:=⟨zxV,zxD,znk⟩
noncomputable def zyh:Env:={ tab:=tab.opt { flats:=[(93,L93)],owns:=[87],frzs:=[89,90,91] },nt:=12,Γ:=zaj [(40,[S40])],joins:=zac [],loops:=zac [] }
theorem zmD (x:List UInt8×Unit):afun zyh Tryz.f153 zxV zxD x=znk x:=by kernel_rfl
def zq3 (x:List UInt8×Unit):Option (Bool×Unit):=
 bif decide (x.1=[]) then some (true,()) else (F59 x).bind fun b=>some b
def zv6:Sig:=⟨zxU,zxC,zq3⟩
noncomputable def zyg:Env:={ tab:=tab.opt { flats:=[(93,L93)],owns:=[87],frzs:=[89,90,91] },nt:=12,Γ:=zaj [(59,[S59])],joins:=zac [],loops:=zac [] }
theorem zmC (x:List UInt8×Unit):afun zyg Tryz.f153 zxU zxC x=zq3 x:=by kernel_rfl
def F109 (x:T53D×Unit):Option (Bool×Unit):=
 bif decide (0≤x.1.1) then
 bif decide (x.1.1≤4) then
 Option.bind
 (F146
 ([x.1.2.1,x.1.2.2.1,x.1.2.2.2.2.2.1,x.1.2.2.2.2.2.2.2.1,
 x.1.2.2.2.2.2.2.2.2.1,x.1.2.2.2.2.2.2.2.2.2.1],
 ()))
 fun b=>
 bif b.1 then
 (znk (x.1.2.2.2.1,())).bind fun b=>
 bif b.1 then
 (znk (x.1.2.2.2.2.1,())).bind fun b=>
 bif b.1 then
 (zq3 (x.1.2.2.2.2.2.2.1,())).bind fun b=>some b
 else some (false,())
 else some (false,())
 else some (false,())
 else some (false,())
 else some (false,())
def S109:Sig:=⟨P109,R109,F109⟩
noncomputable def E109:Env:={ tab:=tab.opt { flats:=[(93,L93)],owns:=[87],frzs:=[89,90,91] },nt:=46,Γ:=zaj [(40,[S40]),(59,[S59]),(146,[S146]),(153,[zv7,zv6])],joins:=zac [],loops:=zac [] }
theorem zpd (x:T53D×Unit):afun E109 Tryz.f109 P109 R109 x=F109 x:=by kernel_rfl
def F69 (x:TMD×Unit):Option (Bool×Unit):=
 (F67 (x.1.2.2.2.2.2.2.2.2.2.1,0,15,())).bind fun b=>
 bif !b.1 then some (false,())
 else
 bif decide (x.1.1=8) then
 bif decide (-1≤x.1.2.2.2.2.2.2.2.2.2.2.1) then
 bif decide (x.1.2.2.2.2.2.2.2.2.2.2.1 < 3) then
 (F104 (x.1.2.2.2.2.2.2.2.2.2.2.2.1,())).bind
 fun b=>some b
 else some (false,())
 else some (false,())
 else
 bif decide (x.1.1=9) then
 (F67 (x.1.2.2.2.2.2.2.2.1,0,1099511627777,())).bind
 fun b=>
 bif b.1 then
 (F105 (x.1.2.2.2.2.2.2.2.2.2.2.2.2.1,())).bind
 fun b=>some b
 else some (false,())
 else
 bif decide (x.1.1=10) then
 (F106 (x.1.2.2.2.2.2.2.2.2.2.2.2.2.2.1,8,())).bind
 fun b=>some b
 else
 bif decide (x.1.1=11) then
 (F107 (x.1.2.2.2.2.2.2.2.2.2.2.2.2.2.2.2.1,())).bind
 fun b=>
 bif b.1 then some (true,())
 else
 (F108 (x.1.2.2.2.2.2.2.2.2.2.2.2.2.2.2.2.1,())).bind
 fun b=>some b
 else
 (F67 (x.1.2.2.2.2.2.2.2.1,0,1099511627776,())).bind
 fun b=>
 bif b.1 then
 (F109 x.1.2.2.2.2.2.2.2.2.2.2.2.2.2.2.2.2).bind
 fun b=>some b
 else some (false,())
def S69:Sig:=⟨P69,R69,F69⟩
noncomputable def E69:Env:={ tab:=tab.opt { flats:=[(93,L93)],owns:=[87],frzs:=[89,90,91] },nt:=57,Γ:=zaj [(67,[S67]),(104,[S104]),(105,[S105]),(106,[S106]),(107,[S107]),(108,[S108]),(109,[S109])],joins:=zac [],loops:=zac [] }
theorem zrS (x:TMD×Unit):afun E69 Tryz.f69 P69 R69 x=F69 x:=by kernel_rfl
def F48 (x:TMD×Unit):Option (Bool×Unit):=
 bif decide (x.1.1 < 1) then some (false,())
 else
 bif decide (12 < x.1.1) then some (false,())
 else
 (F65 x).bind
 fun b=>
 (F64 (b.1,x)).bind fun b=>
 bif !b.1 then some (false,())
 else
 bif decide (x.1.1=1) then
 (F66 (x.1.2.2.1,())).bind fun b=>some b
 else
 (F67 (x.1.2.1,1,1099511627776,())).bind fun b=>
 bif !b.1 then some (false,())
 else
 bif decide (x.1.1 < 8) then (F68 x).bind fun b=>some b
 else (F69 x).bind fun b=>some b
def S48:Sig:=⟨P48,R48,F48⟩
noncomputable def E48:Env:={ tab:=tab.opt { flats:=[(93,L93)],owns:=[87],frzs:=[89,90,91] },nt:=39,Γ:=zaj [(64,[S64]),(65,[S65]),(66,[S66]),(67,[S67]),(68,[S68]),(69,[S69])],joins:=zac [],loops:=zac [] }
theorem zsd (x:TMD×Unit):afun E48 Tryz.f48 P48 R48 x=F48 x:=by kernel_rfl
def F25 (x:zdN×TMD×Unit):Option (Y70D×Int×zdN×Unit):=
 bif x.1.2.2.2.2.2.2.2.1 then
 some
 ((0,0,
 (0,0,(0,0,0,0,0,0,0,0,false,[],(0,0,[],()),()),
 (0,0,(0,[],[],[],0,0,0,[],[],[],0,0,0,false,[],[],[],()),()),0,[],[],
 0,0,0,0,(0,0,false,0,[],0,0,()),[],[],false,(0,0,[],[],()),
 (0,0,0,[],[],0,[],0,0,0,()),()),
 ()),
 7,x.1,())
 else
 (F47 (x.2.1.1,())).bind fun b=>
 bif decide (b.1=0) then
 some
 ((0,0,
 (0,0,(0,0,0,0,0,0,0,0,false,[],(0,0,[],()),()),
 (0,0,(0,[],[],[],0,0,0,[],[],[],0,0,0,false,[],[],[],()),()),0,[],
 [],0,0,0,0,(0,0,false,0,[],0,0,()),[],[],false,(0,0,[],[],()),
 (0,0,0,[],[],0,[],0,0,0,()),()),
 ()),
 1,x.1,())
 else
 Option.bind
 (F48
 ((x.2.1.1,wrap64 (x.1.2.2.2.2.1+1),x.2.1.2.2),()))
 fun b=>
 bif !b.1 then
 some
 ((0,0,
 (0,0,(0,0,0,0,0,0,0,0,false,[],(0,0,[],()),()),
 (0,0,(0,[],[],[],0,0,0,[],[],[],0,0,0,false,[],[],[],()),()),0,
 [],[],0,0,0,0,(0,0,false,0,[],0,0,()),[],[],false,
 (0,0,[],[],()),(0,0,0,[],[],0,[],0,0,0,()),()),
 ()),
 1,x.1,())
 else
 Option.bind
 (F49
 ((x.2.1.1,wrap64 (x.1.2.2.2.2.1+1),x.2.1.2.2),
 ()))
 fun b=>
 Option.bind
 (F42
 ((x.1.1,x.1.2.1,x.1.2.2.1,x.1.2.2.2.1,
 wrap64 (x.1.2.2.2.2.1+1),x.1.2.2.2.2.2.1,0,true,
 b),
 ()))
 fun b=>
 some (b.1,0,b.2)
def S25:Sig:=⟨P25,R25,F25⟩
noncomputable def E25:Env:={ tab:=tab.opt { flats:=[(93,L93)],owns:=[87],frzs:=[89,90,91] },nt:=50,Γ:=zaj [(42,[S42]),(47,[S47]),(48,[S48]),(49,[S49])],joins:=zac [],loops:=zac [] }
theorem zsB (x:zdN×TMD×Unit):afun E25 Tryz.f25 P25 R25 x=F25 x:=by kernel_rfl
def F9 (x:L93D×Unit):Option (Y70D×Bool×L93D×Unit):=
 Option.bind (List.head? x.1.2.2.1)
 fun b=>
 (F22 (b,())).bind
 fun b=>
 bif b.1 then
 (F23 b.2).bind
 fun b=>
 some (b.1,b.2.1,(x.1.1,x.1.2.1,[b.2.2.1],x.1.2.2.2),())
 else
 Option.bind (List.head? x.1.2.2.2.1)
 fun b_1=>
 (F22 (b_1,())).bind
 fun b_2=>
 bif b_2.1 then
 (F23 b_2.2).bind
 fun b_3=>
 some
 (b_3.1,b_3.2.1,
 (x.1.1,x.1.2.1,[b.2.1],[b_3.2.2.1],x.1.2.2.2.2),())
 else
 Option.bind
 (F24 ((x.1.1,x.1.2.1,[b.2.1],[b_2.2.1],x.1.2.2.2.2),()))
 fun b=>
 bif decide (b.1.1=0) then
 some
 ((0,0,
 (0,0,(0,0,0,0,0,0,0,0,false,[],(0,0,[],()),()),
 (0,0,(0,[],[],[],0,0,0,[],[],[],0,0,0,false,[],[],[],()),
 ()),
 0,[],[],0,0,0,0,(0,0,false,0,[],0,0,()),[],[],false,
 (0,0,[],[],()),(0,0,0,[],[],0,[],0,0,0,()),()),
 ()),
 false,b.2.2)
 else
 bif decide (b.2.1=Int.ofNat 0) then
 Option.bind (List.head? b.2.2.1.2.2.1)
 fun b_3=>
 (F25 (b_3,b.1,())).bind
 fun b_4=>
 bif !decide (b_4.2.1=0) then
 some
 ((0,0,
 (0,0,(0,0,0,0,0,0,0,0,false,[],(0,0,[],()),()),
 (0,0,(0,[],[],[],0,0,0,[],[],[],0,0,0,false,[],[],[],()),
 ()),
 0,[],[],0,0,0,0,(0,0,false,0,[],0,0,()),[],[],false,
 (0,0,[],[],()),(0,0,0,[],[],0,[],0,0,0,()),
 ()),
 ()),
 false,
 (b.2.2.1.1,b.2.2.1.2.1,[b_4.2.2.1],b.2.2.1.2.2.2),
 ())
 else
 some
 (b_4.1,true,
 (b.2.2.1.1,b.2.2.1.2.1,[b_4.2.2.1],
 b.2.2.1.2.2.2.1,b.1,b.2.2.1.2.2.2.2.2),
 ())
 else
 bif decide (b.2.1=Int.ofNat (0+1)) then
 Option.bind (List.head? b.2.2.1.2.2.2.1)
 fun b_3=>
 (F25 (b_3,b.1,())).bind
 fun b_4=>
 bif !decide (b_4.2.1=0) then
 some
 ((0,0,
 (0,0,(0,0,0,0,0,0,0,0,false,[],(0,0,[],()),()),
 (0,0,(0,[],[],[],0,0,0,[],[],[],0,0,0,false,[],[],[],()),
 ()),
 0,[],[],0,0,0,0,(0,0,false,0,[],0,0,()),[],[],false,
 (0,0,[],[],()),(0,0,0,[],[],0,[],0,0,0,()),
 ()),
 ()),
 false,
 (b.2.2.1.1,b.2.2.1.2.1,b.2.2.1.2.2.1,[b_4.2.2.1],
 b.2.2.1.2.2.2.2),
 ())
 else
 some
 (b_4.1,true,
 (b.2.2.1.1,b.2.2.1.2.1,b.2.2.1.2.2.1,[b_4.2.2.1],
 b.1,b.2.2.1.2.2.2.2.2),
 ())
 else none
def S9:Sig:=⟨P9,R9,F9⟩
noncomputable def E9:Env:={ tab:=tab.opt { flats:=[(93,L93)],owns:=[87],frzs:=[89,90,91] },nt:=55,Γ:=zaj [(22,[S22]),(23,[S23]),(24,[S24]),(25,[S25])],joins:=zac [],loops:=zac [],unr:=zac [(4,3)] }
theorem zuR (x:L93D×Unit):afun E9 Tryz.f9 P9 R9 x=F9 x:=by kernel_rfl
def F9a (x:Unit):Option (Y70D×Bool×Unit):=
 some
 ((0,0,
 (0,0,(0,0,0,0,0,0,0,0,false,[],(0,0,[],()),()),
 (0,0,(0,[],[],[],0,0,0,[],[],[],0,0,0,false,[],[],[],()),()),0,[],[],
 0,0,0,0,(0,0,false,0,[],0,0,()),[],[],false,(0,0,[],[],()),
 (0,0,0,[],[],0,[],0,0,0,()),()),
 ()),
 false,())
def S9a:Sig:=⟨P9a,R9a,F9a⟩
noncomputable def E9a:Env:={ tab:=tab.opt { flats:=[(93,L93)],owns:=[87],frzs:=[89,90,91] },nt:=55,Γ:=zaj [(22,[S22]),(23,[S23]),(24,[S24]),(25,[S25])],joins:=zac [],loops:=zac [],unr:=zac [(4,3)] }
theorem zrl (x:Unit):afun E9a Tryz.f9 P9a R9a x=F9a x:=by kernel_rfl
def F4 (x:Unit):Option (Bool×Unit):=
 (F7 ((1,[97,47],[98,47],(1,1,()),()),0,())).bind
 fun b=>
 bif b.1.1 then
 bif !decide (b.2.1=0) then some (false,())
 else
 (F9 (b.1.2,())).bind
 fun b=>
 bif b.2.1 then
 bif decide (b.1.1=11) then
 bif decide (b.1.2.1=4) then some (decide (b.1.2.2.1.1=7),())
 else some (false,())
 else some (false,())
 else some (false,())
 else
 bif !decide (b.2.1=0) then some (false,())
 else
 (F9a ()).bind
 fun b=>
 bif b.2.1 then
 bif decide (b.1.1=11) then
 bif decide (b.1.2.1=4) then some (decide (b.1.2.2.1.1=7),())
 else some (false,())
 else some (false,())
 else some (false,())
def S4:Sig:=⟨P4,R4,F4⟩
noncomputable def E4:Env:={ tab:=tab.opt { flats:=[(93,L93)],owns:=[87],frzs:=[89,90,91] },nt:=35,Γ:=zaj [(7,[S7]),(9,[S9,S9a])],joins:=zac [],loops:=zac [] }
theorem zuW (x:Unit):afun E4 Tryz.f4 P4 R4 x=F4 x:=by kernel_rfl
def F36 (x:T28D×Unit):Option (Bool×Unit):=
 bif decide (10 < Int.ofNat (List.length x.1.2.2.2.2.2.2.2.1)) then some (false,())
 else
 bif decide (10 < Int.ofNat (List.length x.1.2.2.2.2.2.2.2.2.1)) then some (false,())
 else
 bif decide (10 < Int.ofNat (List.length x.1.2.2.2.2.2.2.2.2.2.1)) then
 some (false,())
 else
 bif decide (80 < Int.ofNat (List.length x.1.2.2.2.2.2.2.2.2.2.2.2.2.2.2.1)) then
 some (false,())
 else
 bif
 decide
 (20 <
 Int.ofNat (List.length x.1.2.2.2.2.2.2.2.2.2.2.2.2.2.2.2.1)) then
 some (false,())
 else
 bif
 decide
 (80 <
 Int.ofNat
 (List.length x.1.2.2.2.2.2.2.2.2.2.2.2.2.2.2.2.2.1)) then
 some (false,())
 else
 zaT Y22D (Bool×Unit)
 (fun (x_1:Y22D)=>
 bif
 decide
 (x_1.2.1 <
 Int.ofNat
 (List.length x.1.2.2.2.2.2.2.2.2.2.2.2.2.2.2.1)) then
 (idx x.1.2.2.2.2.2.2.2.2.2.2.2.2.2.2.1 x_1.2.1).bind
 fun b=>
 (idx x.1.2.2.2.2.2.2.2.2.2.2.2.2.2.2.1 x_1.2.1).bind
 fun b_1=>
 some
 (Sum.inl
 (wrap64
 (wrap64 (x_1.1+Int.ofNat (List.length b.1)) +
 Int.ofNat (List.length b_1.2.1.2.2.2.2.1)),
 wrap64 (x_1.2.1+1),()))
 else
 Option.map Sum.inr
 (zaT Y22D (Bool×Unit)
 (fun (x_2:Y22D)=>
 bif
 decide
 (x_2.2.1 <
 Int.ofNat
 (List.length
 x.1.2.2.2.2.2.2.2.2.2.2.2.2.2.2.2.1)) then
 Option.bind
 (idx x.1.2.2.2.2.2.2.2.2.2.2.2.2.2.2.2.1 x_2.2.1)
 fun b=>
 bif decide (12 < Int.ofNat (List.length b.2.2.1.2.2.2.2.1)) then
 some (Sum.inr (false,()))
 else
 Option.bind
 (idx x.1.2.2.2.2.2.2.2.2.2.2.2.2.2.2.2.1
 x_2.2.1)
 fun b=>
 zaT Y22D (Y22D⊕Bool×Unit)
 (fun (x_3:Y22D)=>
 bif
 decide
 (x_3.2.1 <
 Int.ofNat (List.length b.2.2.1.2.2.2.2.1)) then
 Option.bind
 (idx x.1.2.2.2.2.2.2.2.2.2.2.2.2.2.2.2.1
 x_2.2.1)
 fun b=>
 (idx b.2.2.1.2.2.2.2.1 x_3.2.1).bind
 fun b=>
 Option.bind
 (idx x.1.2.2.2.2.2.2.2.2.2.2.2.2.2.2.2.1
 x_2.2.1)
 fun b_1=>
 (idx b_1.2.2.1.2.2.2.2.1 x_3.2.1).bind
 fun b_2=>
 some
 (Sum.inl
 (wrap64
 (wrap64
 (x_3.1+Int.ofNat (List.length b.1)) +
 Int.ofNat (List.length b_2.2.1.2.2.2.2.1)),
 wrap64 (x_3.2.1+1),()))
 else
 some
 (Sum.inr
 (Sum.inl
 (x_3.1,wrap64 (x_2.2.1+1),()))))
 big (x_2.1,0,())
 else
 Option.map Sum.inr
 (zaT Y22D (Bool×Unit)
 (fun (x_3:Y22D)=>
 bif
 decide
 (x_3.2.1 <
 Int.ofNat (List.length x.1.2.2.2.2.2.2.2.2.1)) then
 (idx x.1.2.2.2.2.2.2.2.2.1 x_3.2.1).bind
 fun b=>
 (idx x.1.2.2.2.2.2.2.2.2.1 x_3.2.1).bind
 fun b_1=>
 (idx x.1.2.2.2.2.2.2.2.2.1 x_3.2.1).bind
 fun b_2=>
 some
 (Sum.inl
 (wrap64
 (wrap64
 (wrap64
 (x_3.1+Int.ofNat (List.length b.2.1)) +
 Int.ofNat (List.length b_1.2.2.1)) +
 Int.ofNat (List.length b_2.2.2.2.1)),
 wrap64 (x_3.2.1+1),()))
 else
 Option.map Sum.inr
 (zaT Y22D (Bool×Unit)
 (fun (x_4:Y22D)=>
 bif
 decide
 (x_4.2.1 <
 Int.ofNat
 (List.length x.1.2.2.2.2.2.2.2.2.2.1)) then
 (idx x.1.2.2.2.2.2.2.2.2.2.1 x_4.2.1).bind
 fun b=>
 Option.bind
 (idx x.1.2.2.2.2.2.2.2.2.2.1 x_4.2.1)
 fun b_1=>
 Option.bind
 (idx x.1.2.2.2.2.2.2.2.2.2.1 x_4.2.1)
 fun b_2=>
 some
 (Sum.inl
 (wrap64
 (wrap64
 (wrap64
 (x_4.1+Int.ofNat (List.length b.2.1)) +
 Int.ofNat (List.length b_1.2.2.1)) +
 Int.ofNat (List.length b_2.2.2.2.1)),
 wrap64 (x_4.2.1+1),()))
 else
 Option.map Sum.inr
 (zaT Y22D (Bool×Unit)
 (fun (x_5:Y22D)=>
 bif
 decide
 (x_5.2.1 <
 Int.ofNat
 (List.length x.1.2.2.2.2.2.2.2.1)) then
 (idx x.1.2.2.2.2.2.2.2.1 x_5.2.1).bind
 fun b=>
 Option.bind
 (idx x.1.2.2.2.2.2.2.2.1 x_5.2.1)
 fun b_1=>
 some
 (Sum.inl
 (wrap64
 (wrap64
 (x_5.1+Int.ofNat (List.length b.1)) +
 Int.ofNat (List.length b_1.2.2.2.2.1)),
 wrap64 (x_5.2.1+1),()))
 else some (Sum.inr (decide (x_5.1≤30000),())))
 big (x_4.1,0,())))
 big (x_3.1,0,())))
 big (x_2.1,0,())))
 big (x_1.1,0,())))
 big
 (wrap64
 (wrap64
 (Int.ofNat (List.length x.1.2.1)+Int.ofNat (List.length x.1.2.2.1)) +
 Int.ofNat (List.length x.1.2.2.2.1)),
 0,())
def S36:Sig:=⟨P36,R36,F36⟩
noncomputable def E36:Env:={ tab:=tab.opt { flats:=[(93,L93)],owns:=[87],frzs:=[89,90,91] },nt:=226,Γ:=zaj [],joins:=zac [],loops:=zac [(5,zaI ⟨[⟨.slot 3,(.int .i64),.pv⟩,⟨.slot 58,(.int .i64),.pv⟩],[1,57],[.site 1000]++hL (.fld 1000) 0 17⟩),(10,zaI ⟨[⟨.slot 3,(.int .i64),.pv⟩,⟨.slot 83,(.int .i64),.pv⟩],[1,82],[.site 1000]++hL (.fld 1000) 0 17⟩),(15,zaI ⟨[⟨.slot 3,(.int .i64),.pv⟩,⟨.slot 103,(.int .i64),.pv⟩],[1,5,82,83,102],[.site 1000]++hL (.fld 1000) 0 17⟩),(21,zaI ⟨[⟨.slot 3,(.int .i64),.pv⟩,⟨.slot 139,(.int .i64),.pv⟩],[1,138],[.site 1000]++hL (.fld 1000) 0 17⟩),(26,zaI ⟨[⟨.slot 3,(.int .i64),.pv⟩,⟨.slot 171,(.int .i64),.pv⟩],[1,170],[.site 1000]++hL (.fld 1000) 0 17⟩),(31,zaI ⟨[⟨.slot 3,(.int .i64),.pv⟩,⟨.slot 203,(.int .i64),.pv⟩],[1,202],[.site 1000]++hL (.fld 1000) 0 17⟩)] }
theorem zsp (x:T28D×Unit):afun E36 Tryz.f36 P36 R36 x=F36 x:=by kernel_rfl
def F57 (x:List T25D×Int×Unit):Option (Bool×Unit):=
 zaT Y22D (Bool×Unit)
 (fun (x_1:Y22D)=>
 bif decide (x_1.2.1 < Int.ofNat (List.length x.1)) then
 (idx x.1 x_1.2.1).bind fun b=>
 bif decide (x.2.1≤x_1.2.1) then some (Sum.inr (false,()))
 else
 bif decide (40000 < wrap64 (x_1.1+Int.ofNat (List.length b.2.2.1))) then
 some (Sum.inr (false,()))
 else
 some
 (Sum.inl
 (wrap64 (x_1.1+Int.ofNat (List.length b.2.2.1)),
 wrap64 (x_1.2.1+1),()))
 else some (Sum.inr (true,())))
 big (0,0,())
def S57:Sig:=⟨P57,R57,F57⟩
noncomputable def E57:Env:={ tab:=tab.opt { flats:=[(93,L93)],owns:=[87],frzs:=[89,90,91] },nt:=28,Γ:=zaj [],joins:=zac [],loops:=zac [(3,zaI ⟨[⟨.slot 5,(.int .i64),.pv⟩,⟨.slot 9,(.int .i64),.pv⟩],[0,1,8],[]⟩)] }
theorem zr4 (x:List T25D×Int×Unit):afun E57 Tryz.f57 P57 R57 x=F57 x:=by kernel_rfl
def F37 (x:T27D×Unit):Option (Bool×Unit):=
 (F57 (x.1.2.2.2.2.2.2.2.2.2.1,6,())).bind fun b=>
 bif b.1 then
 some
 (decide (Int.ofNat (List.length x.1.2.2.2.2.2.2.2.2.2.2.1.2.2.1)≤2000),
 ())
 else some (false,())
def S37:Sig:=⟨P37,R37,F37⟩
noncomputable def E37:Env:={ tab:=tab.opt { flats:=[(93,L93)],owns:=[87],frzs:=[89,90,91] },nt:=13,Γ:=zaj [(57,[S57])],joins:=zac [],loops:=zac [] }
theorem zso (x:T27D×Unit):afun E37 Tryz.f37 P37 R37 x=F37 x:=by kernel_rfl
def F18 (x:TMD×Unit):Option (Bool×Unit):=
 zaT Y22D (Bool×Unit)
 (fun (x_1:Y22D)=>
 bif decide (x_1.2.1 < Int.ofNat (List.length x.1.2.2.2.2.2.2.2.2.2.2.2.2.1)) then
 (idx x.1.2.2.2.2.2.2.2.2.2.2.2.2.1 x_1.2.1).bind
 fun b=>
 bif
 decide
 (400 <
 wrap64
 (wrap64 (x_1.1+1)+Int.ofNat (List.length b.2.1))) then
 some (Sum.inr (false,()))
 else
 (idx x.1.2.2.2.2.2.2.2.2.2.2.2.2.1 x_1.2.1).bind
 fun b_1=>
 Option.bind
 (F36
 ((0,[],[],[],0,0,0,[],[],[],0,0,0,false,b_1.2.1,[],[],()),()))
 fun b_2=>
 bif !b_2.1 then some (Sum.inr (false,()))
 else
 some
 (Sum.inl
 (wrap64
 (wrap64 (x_1.1+1)+Int.ofNat (List.length b.2.1)),
 wrap64 (x_1.2.1+1),()))
 else
 Option.map Sum.inr
 ((F37 (x.1.2.2.1,())).bind fun b=>
 bif b.1 then
 (F36 x.1.2.2.2.1.2.2).bind fun b=>
 bif b.1 then
 Option.bind
 (F36
 ((0,[],[],[],0,0,0,[],[],[],0,0,0,false,
 x.1.2.2.2.2.2.2.2.2.2.2.2.2.2.1,[],[],()),
 ()))
 fun b=>
 bif b.1 then
 Option.bind
 (appM [(0,0,x.1.2.2.2.2.2.2.2.2.2.2.2.1,())]
 x.1.2.2.2.2.2.2.2.2.2.2.2.2.2.2.2.1.2.2.1)
 fun b=>
 Option.bind
 (F36
 ((0,[],[],[],0,0,0,[],[],[],0,0,0,false,[],b,
 x.1.2.2.2.2.2.2.2.2.2.2.2.2.2.2.2.1.2.2.2),
 ()))
 fun b=>
 bif b.1 then
 some
 (decide
 (wrap64
 (wrap64
 (wrap64
 (wrap64
 (Int.ofNat (List.length x.1.2.2.2.2.2.1) +
 Int.ofNat (List.length x.1.2.2.2.2.2.2.1)) +
 Int.ofNat
 (List.length
 x.1.2.2.2.2.2.2.2.2.2.2.2.2.2.2.2.2.1.2.2.2.1)) +
 Int.ofNat
 (List.length
 x.1.2.2.2.2.2.2.2.2.2.2.2.2.2.2.2.2.1.2.2.2.2.1)) +
 Int.ofNat
 (List.length
 x.1.2.2.2.2.2.2.2.2.2.2.2.2.2.2.2.2.1.2.2.2.2.2.2.1))≤
 500),
 ())
 else some (false,())
 else some (false,())
 else some (false,())
 else some (false,())))
 big (0,0,())
def S18:Sig:=⟨P18,R18,F18⟩
noncomputable def E18:Env:={ tab:=tab.opt { flats:=[(93,L93)],owns:=[87],frzs:=[89,90,91] },nt:=90,Γ:=zaj [(36,[S36]),(37,[S37])],joins:=zac [],loops:=zac [(3,zaI ⟨[⟨.slot 3,(.int .i64),.pv⟩,⟨.slot 8,(.int .i64),.pv⟩],[1,7],[.site 1000]++hL (.fld 1000) 0 17⟩)] }
theorem zsI (x:TMD×Unit):afun E18 Tryz.f18 P18 R18 x=F18 x:=by kernel_rfl
def F5 (x:List Y64D×Int×Unit):Option (Bool×Unit):=
 zaT Y22D (Bool×Unit)
 (fun (x_1:Y22D)=>
 bif decide (x_1.2.1 < Int.ofNat (List.length x.1)) then
 (idx x.1 x_1.2.1).bind
 fun b=>
 bif decide (x.2.1≤x_1.2.1) then some (Sum.inr (false,()))
 else
 bif
 decide
 (300 <
 wrap64
 (x_1.1 +
 Int.ofNat
 (List.length b.2.2.2.1.2.2.2.2.2.2.2.2.2.2.2.2.1))) then
 some (Sum.inr (false,()))
 else
 (idx x.1 x_1.2.1).bind
 fun b_1=>
 (F18 b_1.2.2.2).bind fun b_2=>
 bif !b_2.1 then some (Sum.inr (false,()))
 else
 some
 (Sum.inl
 (wrap64
 (x_1.1 +
 Int.ofNat
 (List.length b.2.2.2.1.2.2.2.2.2.2.2.2.2.2.2.2.1)),
 wrap64 (x_1.2.1+1),()))
 else some (Sum.inr (true,())))
 big (0,0,())
def S5:Sig:=⟨P5,R5,F5⟩
noncomputable def E5:Env:={ tab:=tab.opt { flats:=[(93,L93)],owns:=[87],frzs:=[89,90,91] },nt:=38,Γ:=zaj [(18,[S18])],joins:=zac [],loops:=zac [(3,zaI ⟨[⟨.slot 5,(.int .i64),.pv⟩,⟨.slot 9,(.int .i64),.pv⟩],[0,1,8],[]⟩)] }
theorem zuV (x:List Y64D×Int×Unit):afun E5 Tryz.f5 P5 R5 x=F5 x:=by kernel_rfl
def F89 (x:List UInt8×UInt8×Unit):Option (Bool×Unit):=
 zaT (Int×Unit) (Bool×Unit)
 (fun (x_1:Int×Unit)=>
 bif decide (x_1.1 < Int.ofNat (List.length x.1)) then
 (idx x.1 x_1.1).bind fun b=>
 bif decide (zax b < zax (UInt8.ofNat 33)) then some (Sum.inr (false,()))
 else
 (idx x.1 x_1.1).bind fun b=>
 bif decide (zax x.2.1 < zax b) then some (Sum.inr (false,()))
 else some (Sum.inl (wrap64 (x_1.1+1),()))
 else
 Option.map Sum.inr
 (bif decide (1≤Int.ofNat (List.length x.1)) then
 some (decide (Int.ofNat (List.length x.1)≤32),())
 else some (false,())))
 big (0,())
def S89:Sig:=⟨P89,R89,F89⟩
noncomputable def E89:Env:={ tab:=tab.opt { flats:=[(93,L93)],owns:=[87],frzs:=[89,90,91] },nt:=31,Γ:=zaj [],joins:=zac [],loops:=zac [(2,zaI ⟨[⟨.slot 8,(.int .i64),.pv⟩],[0,1,7],[]⟩)] }
theorem zry (x:List UInt8×UInt8×Unit):afun E89 Tryz.f89 P89 R89 x=F89 x:=by kernel_rfl
def F58 (x:List UInt8×Unit):Option (Bool×Unit):=(F89 (x.1,UInt8.ofNat 126,())).bind fun b=>some b
def S58:Sig:=⟨P58,R58,F58⟩
noncomputable def E58:Env:={ tab:=tab.opt { flats:=[(93,L93)],owns:=[87],frzs:=[89,90,91] },nt:=5,Γ:=zaj [(89,[S89])],joins:=zac [],loops:=zac [] }
theorem zr3 (x:List UInt8×Unit):afun E58 Tryz.f58 P58 R58 x=F58 x:=by kernel_rfl
def F38 (x:List UInt8×Unit):Option (Bool×Unit):=
 bif decide (Int.ofNat (List.length x.1)≤8) then (F58 x).bind fun b=>some b
 else some (false,())
def S38:Sig:=⟨P38,R38,F38⟩
noncomputable def E38:Env:={ tab:=tab.opt { flats:=[(93,L93)],owns:=[87],frzs:=[89,90,91] },nt:=10,Γ:=zaj [(58,[S58])],joins:=zac [],loops:=zac [] }
theorem zsn (x:List UInt8×Unit):afun E38 Tryz.f38 P38 R38 x=F38 x:=by kernel_rfl
def F39 (x:List UInt8×List UInt8×Unit):Option (Bool×Unit):=
 bif decide (Int.ofNat (List.length x.2.1)≤Int.ofNat (List.length x.1)) then
 (zcN x.1 0 (Int.ofNat (List.length x.2.1))).bind fun b=>
 some (decide (b=x.2.1),())
 else some (false,())
def S39:Sig:=⟨P39,R39,F39⟩
noncomputable def E39:Env:={ tab:=tab.opt { flats:=[(93,L93)],owns:=[87],frzs:=[89,90,91] },nt:=18,Γ:=zaj [],joins:=zac [],loops:=zac [] }
theorem zsm (x:List UInt8×List UInt8×Unit):afun E39 Tryz.f39 P39 R39 x=F39 x:=by kernel_rfl
def F19 (x:List UInt8×List UInt8×Unit):Option (Bool×Unit):=
 (F38 (x.1,())).bind fun b=>
 bif b.1 then
 (F38 x.2).bind fun b=>
 bif b.1 then
 (F39 x).bind fun b=>
 bif !b.1 then
 (F39 (x.2.1,x.1,())).bind fun b=>some (!b.1,())
 else some (false,())
 else some (false,())
 else some (false,())
def S19:Sig:=⟨P19,R19,F19⟩
noncomputable def E19:Env:={ tab:=tab.opt { flats:=[(93,L93)],owns:=[87],frzs:=[89,90,91] },nt:=23,Γ:=zaj [(38,[S38]),(39,[S39])],joins:=zac [],loops:=zac [] }
theorem zsH (x:List UInt8×List UInt8×Unit):afun E19 Tryz.f19 P19 R19 x=F19 x:=by kernel_rfl
def F6 (x:Int×List UInt8×List UInt8×Y22D×Int×Unit):Option (Bool×Unit):=
 bif decide (1≤x.1) then
 bif decide (x.1≤1099511627776) then
 (F19 (x.2.1,x.2.2.1,())).bind fun b=>
 bif b.1 then
 bif decide (1≤x.2.2.2.1.1) then
 bif decide (x.2.2.2.1.1≤3) then
 bif decide (1≤x.2.2.2.1.2.1) then
 bif decide (x.2.2.2.1.2.1≤3) then
 bif decide (0≤x.2.2.2.2.1) then some (decide (x.2.2.2.2.1≤500000),())
 else some (false,())
 else some (false,())
 else some (false,())
 else some (false,())
 else some (false,())
 else some (false,())
 else some (false,())
 else some (false,())
def S6:Sig:=⟨P6,R6,F6⟩
noncomputable def E6:Env:={ tab:=tab.opt { flats:=[(93,L93)],owns:=[87],frzs:=[89,90,91] },nt:=50,Γ:=zaj [(19,[S19])],joins:=zac [],loops:=zac [] }
theorem zuU (x:Int×List UInt8×List UInt8×Y22D×Int×Unit):afun E6 Tryz.f6 P6 R6 x=F6 x:=by kernel_rfl
def F8 (x:Int×List UInt8×List UInt8×Y22D×Int×Unit):Option (Y61D×Unit):=
 zaT
 (Int×((Int×Int×Int×Int×Int×Int×Int×Bool×Bool×(Int×Int×(Int×Int×Int×Int×Int×Int×Int×Int×Bool×List T25D×T25D×Unit)×(Int×Int×(Int×List UInt8×List UInt8×List UInt8×Int×Int×Int×List T96D×List
 T48D×List
 T48D×Int×Int×Int×Bool×List
 T70D×List
 (Int×Int×(Int×Int×Bool×Int×List
 T70D×Y22D)×Unit)×List zai×Unit)×Unit)×Int×List UInt8×List UInt8×Int×Int×Int×Int×(Int×Int×Bool×Int×List
 T70D×Y22D)×List
 (Int×List
 T70D×Unit)×List
 T70D×Bool×(Int×Int×List
 (Int×Int×(Int×Int×Bool×Int×List
 T70D×Y22D)×Unit)×List zai×Unit)×T53D×Unit)×Unit)×(Int×Int×Int×Int×Int×Int×Int×Bool×Bool×(Int×Int×(Int×Int×Int×Int×Int×Int×Int×Int×Bool×List T25D×T25D×Unit)×(Int×Int×(Int×List UInt8×List UInt8×List UInt8×Int×Int×Int×List T96D×List
 T48D×List
 T48D×Int×Int×Int×Bool×List
 T70D×List
 (Int×Int×(Int×Int×Bool×Int×List
 (List UInt8×(Int×Int×Int×Int×List
 UInt8×Int×Bool×Unit)×Unit)×Y22D)×Unit)×List zai×Unit)×Unit)×Int×List UInt8×List UInt8×Int×Int×Int×Int×(Int×Int×Bool×Int×List
 T70D×Y22D)×List
 (Int×List
 T70D×Unit)×List
 T70D×Bool×(Int×Int×List
 (Int×Int×(Int×Int×Bool×Int×List
 T70D×Y22D)×Unit)×List zai×Unit)×T53D×Unit)×Unit)×Unit)×Unit)
 ((Int×List UInt8×List UInt8×Int×((Int×Int×Int×Int×Int×Int×Int×Bool×Bool×(Int×Int×(Int×Int×Int×Int×Int×Int×Int×Int×Bool×List T25D×T25D×Unit)×(Int×Int×(Int×List UInt8×List UInt8×List UInt8×Int×Int×Int×List
 T96D×List
 T48D×List
 T48D×Int×Int×Int×Bool×List
 T70D×List
 (Int×Int×(Int×Int×Bool×Int×List
 (List UInt8×(Int×Int×Int×Int×List
 UInt8×Int×Bool×Unit)×Unit)×Y22D)×Unit)×List zai×Unit)×Unit)×Int×List UInt8×List UInt8×Int×Int×Int×Int×(Int×Int×Bool×Int×List
 T70D×Y22D)×List
 (Int×List
 T70D×Unit)×List
 T70D×Bool×(Int×Int×List
 (Int×Int×(Int×Int×Bool×Int×List
 T70D×Y22D)×Unit)×List zai×Unit)×T53D×Unit)×Unit)×(Int×Int×Int×Int×Int×Int×Int×Bool×Bool×(Int×Int×(Int×Int×Int×Int×Int×Int×Int×Int×Bool×List T25D×T25D×Unit)×(Int×Int×(Int×List UInt8×List UInt8×List UInt8×Int×Int×Int×List
 T96D×List
 T48D×List
 T48D×Int×Int×Int×Bool×List
 T70D×List
 (Int×Int×(Int×Int×Bool×Int×List
 (List UInt8×(Int×Int×Int×Int×List
 UInt8×Int×Bool×Unit)×Unit)×Y22D)×Unit)×List zai×Unit)×Unit)×Int×List UInt8×List UInt8×Int×Int×Int×Int×(Int×Int×Bool×Int×List
 T70D×Y22D)×List
 (Int×List
 T70D×Unit)×List
 T70D×Bool×(Int×Int×List
 (Int×Int×(Int×Int×Bool×Int×List
 (List UInt8×(Int×Int×Int×Int×List
 UInt8×Int×Bool×Unit)×Unit)×Y22D)×Unit)×List zai×Unit)×T53D×Unit)×Unit)×Unit)×(Int×Int×(Int×Int×Int×Int×Int×Int×Int×Int×Bool×List T25D×T25D×Unit)×(Int×Int×(Int×List UInt8×List UInt8×List UInt8×Int×Int×Int×List T96D×List T48D×List T48D×Int×Int×Int×Bool×List
 T70D×List
 (Int×Int×(Int×Int×Bool×Int×List
 T70D×Y22D)×Unit)×List zai×Unit)×Unit)×Int×List UInt8×List UInt8×Int×Int×Int×Int×(Int×Int×Bool×Int×List
 T70D×Y22D)×List
 (Int×List
 T70D×Unit)×List
 T70D×Bool×(Int×Int×List
 (Int×Int×(Int×Int×Bool×Int×List
 T70D×Y22D)×Unit)×List zai×Unit)×T53D×Unit)×Bool×T53D×Int×Bool×Bool×List T70D×Bool×List T70D×Int×Bool×Bool×Bool×(Int×Int×List
 (Int×Int×(Int×Int×Bool×Int×List
 T70D×Y22D)×Unit)×List zai×Unit)×Bool×Unit)×Unit)
 (fun (x_1 :
 Int×((Int×Int×Int×Int×Int×Int×Int×Bool×Bool×(Int×Int×(Int×Int×Int×Int×Int×Int×Int×Int×Bool×List T25D×T25D×Unit)×(Int×Int×(Int×List UInt8×List UInt8×List UInt8×Int×Int×Int×List
 T96D×List
 T48D×List
 T48D×Int×Int×Int×Bool×List
 T70D×List
 (Int×Int×(Int×Int×Bool×Int×List
 (List UInt8×(Int×Int×Int×Int×List
 UInt8×Int×Bool×Unit)×Unit)×Y22D)×Unit)×List zai×Unit)×Unit)×Int×List UInt8×List UInt8×Int×Int×Int×Int×(Int×Int×Bool×Int×List
 T70D×Y22D)×List
 (Int×List
 T70D×Unit)×List
 T70D×Bool×(Int×Int×List
 (Int×Int×(Int×Int×Bool×Int×List
 T70D×Y22D)×Unit)×List zai×Unit)×T53D×Unit)×Unit)×(Int×Int×Int×Int×Int×Int×Int×Bool×Bool×(Int×Int×(Int×Int×Int×Int×Int×Int×Int×Int×Bool×List T25D×T25D×Unit)×(Int×Int×(Int×List UInt8×List UInt8×List UInt8×Int×Int×Int×List
 T96D×List
 T48D×List
 T48D×Int×Int×Int×Bool×List
 T70D×List
 (Int×Int×(Int×Int×Bool×Int×List
 (List UInt8×(Int×Int×Int×Int×List
 UInt8×Int×Bool×Unit)×Unit)×Y22D)×Unit)×List zai×Unit)×Unit)×Int×List UInt8×List UInt8×Int×Int×Int×Int×(Int×Int×Bool×Int×List
 T70D×Y22D)×List
 (Int×List
 T70D×Unit)×List
 T70D×Bool×(Int×Int×List
 (Int×Int×(Int×Int×Bool×Int×List
 T70D×Y22D)×Unit)×List zai×Unit)×T53D×Unit)×Unit)×Unit)×Unit)=>
 bif decide (x_1.1 < 2) then
 bif decide (x_1.1=Int.ofNat 0) then
 Option.bind (idxK 2 x_1.1) fun b=>
 Option.bind
 (bif Nat.beq b 0 then
 some
 ((11,x_1.1,x.2.2.2.1.1,8,wrap64 (x.2.2.2.2.1*1000000),
 0,0,false,false,
 (0,0,(0,0,0,0,0,0,0,0,false,[],(0,0,[],()),()),
 (0,0,(0,[],[],[],0,0,0,[],[],[],0,0,0,false,[],[],[],()),
 ()),
 0,[],[],0,0,0,0,(0,0,false,0,[],0,0,()),[],[],false,
 (0,0,[],[],()),(0,0,0,[],[],0,[],0,0,0,()),()),
 ()),
 x_1.2.1.2)
 else
 bif Nat.beq b (0+1) then
 some
 (x_1.2.1.1,
 (11,x_1.1,x.2.2.2.1.1,8,
 wrap64 (x.2.2.2.2.1*1000000),0,0,false,false,
 (0,0,(0,0,0,0,0,0,0,0,false,[],(0,0,[],()),()),
 (0,0,(0,[],[],[],0,0,0,[],[],[],0,0,0,false,[],[],[],()),
 ()),
 0,[],[],0,0,0,0,(0,0,false,0,[],0,0,()),[],[],false,
 (0,0,[],[],()),(0,0,0,[],[],0,[],0,0,0,()),()),
 ()),
 x_1.2.1.2.2)
 else none)
 fun b=>
 some (Sum.inl (wrap64 (x_1.1+1),b,()))
 else
 bif decide (x_1.1=Int.ofNat (0+1)) then
 Option.bind (idxK 2 x_1.1) fun b=>
 Option.bind
 (bif Nat.beq b 0 then
 some
 ((11,x_1.1,x.2.2.2.1.2.1,8,
 wrap64 (x.2.2.2.2.1*1000000),0,0,false,false,
 (0,0,(0,0,0,0,0,0,0,0,false,[],(0,0,[],()),()),
 (0,0,(0,[],[],[],0,0,0,[],[],[],0,0,0,false,[],[],[],()),
 ()),
 0,[],[],0,0,0,0,(0,0,false,0,[],0,0,()),[],[],false,
 (0,0,[],[],()),(0,0,0,[],[],0,[],0,0,0,()),()),
 ()),
 x_1.2.1.2)
 else
 bif Nat.beq b (0+1) then
 some
 (x_1.2.1.1,
 (11,x_1.1,x.2.2.2.1.2.1,8,
 wrap64 (x.2.2.2.2.1*1000000),0,0,false,false,
 (0,0,(0,0,0,0,0,0,0,0,false,[],(0,0,[],()),()),
 (0,0,(0,[],[],[],0,0,0,[],[],[],0,0,0,false,[],[],[],()),
 ()),
 0,[],[],0,0,0,0,(0,0,false,0,[],0,0,()),[],[],false,
 (0,0,[],[],()),(0,0,0,[],[],0,[],0,0,0,()),()),
 ()),
 x_1.2.1.2.2)
 else none)
 fun b=>
 some (Sum.inl (wrap64 (x_1.1+1),b,()))
 else none
 else
 some
 (Sum.inr
 ((x.1,x.2.1,x.2.2.1,0,x_1.2.1,
 (0,0,(0,0,0,0,0,0,0,0,false,[],(0,0,[],()),()),
 (0,0,(0,[],[],[],0,0,0,[],[],[],0,0,0,false,[],[],[],()),()),0,
 [],[],0,0,0,0,(0,0,false,0,[],0,0,()),[],[],false,(0,0,[],[],()),
 (0,0,0,[],[],0,[],0,0,0,()),()),
 false,(0,0,0,[],[],0,[],0,0,0,()),0,false,false,[],false,[],0,false,false,
 false,(0,0,[],[],()),false,()),
 ())))
 big
 (0,
 ((0,0,0,0,0,0,0,false,false,
 (0,0,(0,0,0,0,0,0,0,0,false,[],(0,0,[],()),()),
 (0,0,(0,[],[],[],0,0,0,[],[],[],0,0,0,false,[],[],[],()),()),0,[],[],
 0,0,0,0,(0,0,false,0,[],0,0,()),[],[],false,(0,0,[],[],()),
 (0,0,0,[],[],0,[],0,0,0,()),()),
 ()),
 (0,0,0,0,0,0,0,false,false,
 (0,0,(0,0,0,0,0,0,0,0,false,[],(0,0,[],()),()),
 (0,0,(0,[],[],[],0,0,0,[],[],[],0,0,0,false,[],[],[],()),()),0,[],[],
 0,0,0,0,(0,0,false,0,[],0,0,()),[],[],false,(0,0,[],[],()),
 (0,0,0,[],[],0,[],0,0,0,()),()),
 ()),
 ()),
 ())
def S8:Sig:=⟨P8,R8,F8⟩
noncomputable def E8:Env:={ tab:=tab.opt { flats:=[(93,L93)],owns:=[87],frzs:=[89,90,91] },nt:=32,Γ:=zaj [],joins:=zac [],loops:=zac [(3,zaI ⟨[⟨.slot 17,(.int .i64),.pv⟩,⟨.fld 1005000 4,Y59,.pv⟩],[4,8,10,11],[.site 1005000]++hL (.fld 1005000) 0 4++hL (.fld 1005000) 5 15++[.site 2000]++hL (.fld 2000) 0 20++[.site 1000,.fld 1000 0,.fld 1000 1]⟩)] }
theorem zuS (x:Int×List UInt8×List UInt8×Y22D×Int×Unit):afun E8 Tryz.f8 P8 R8 x=F8 x:=by kernel_rfl
def F50 (x:Y58D×Unit):Option (Y70D×Unit):=
 some
 ((x.1.1,
 wrap64 (wrap64 (4*x.1.2.1)+x.1.2.2.2.2.2.1),
 x.1.2.2.2.2.2.2.2.2.2),
 ())
def S50:Sig:=⟨P50,R50,F50⟩
noncomputable def E50:Env:={ tab:=tab.opt { flats:=[(93,L93)],owns:=[87],frzs:=[89,90,91] },nt:=14,Γ:=zaj [],joins:=zac [],loops:=zac [] }
theorem zsb (x:Y58D×Unit):afun E50 Tryz.f50 P50 R50 x=F50 x:=by kernel_rfl
def F26 (x:Y58D×Unit):Option (Y58D×List Y70D×Unit):=
 bif !x.1.2.2.2.2.2.2.2.1 then some (x.1,[],())
 else
 Option.bind
 (bif !x.1.2.2.2.2.2.2.2.2.1 then
 bif decide (wrap64 (x.1.2.2.2.2.2.2.1+1) < x.1.2.2.2.1) then
 some
 (Sum.inr
 ((x.1.1,x.1.2.1,x.1.2.2.1,x.1.2.2.2.1,x.1.2.2.2.2.1,
 x.1.2.2.2.2.2.1,wrap64 (x.1.2.2.2.2.2.2.1+1),
 x.1.2.2.2.2.2.2.2),
 [],()))
 else
 some
 (Sum.inl
 (0,0,0,0,0,0,0,false,false,
 (0,0,(0,0,0,0,0,0,0,0,false,[],(0,0,[],()),()),
 (0,0,(0,[],[],[],0,0,0,[],[],[],0,0,0,false,[],[],[],()),()),0,
 [],[],0,0,0,0,(0,0,false,0,[],0,0,()),[],[],false,(0,0,[],[],()),
 (0,0,0,[],[],0,[],0,0,0,()),()),
 ()))
 else
 some
 (Sum.inl
 (0,0,0,0,0,0,0,false,false,
 (0,0,(0,0,0,0,0,0,0,0,false,[],(0,0,[],()),()),
 (0,0,(0,[],[],[],0,0,0,[],[],[],0,0,0,false,[],[],[],()),()),0,[],
 [],0,0,0,0,(0,0,false,0,[],0,0,()),[],[],false,(0,0,[],[],()),
 (0,0,0,[],[],0,[],0,0,0,()),()),
 ())))
 fun o=>
 Sum.elim
 (fun (_z :
 Int×Int×Int×Int×Int×Int×Int×Bool×Bool×(Int×Int×(Int×Int×Int×Int×Int×Int×Int×Int×Bool×List T25D×T25D×Unit)×(Int×Int×(Int×List UInt8×List UInt8×List UInt8×Int×Int×Int×List T96D×List
 T48D×List
 T48D×Int×Int×Int×Bool×List
 T70D×List
 (Int×Int×(Int×Int×Bool×Int×List
 (List UInt8×(Int×Int×Int×Int×List
 UInt8×Int×Bool×Unit)×Unit)×Y22D)×Unit)×List zai×Unit)×Unit)×Int×List UInt8×List UInt8×Int×Int×Int×Int×(Int×Int×Bool×Int×List
 T70D×Y22D)×List
 (Int×List
 T70D×Unit)×List
 T70D×Bool×(Int×Int×List
 (Int×Int×(Int×Int×Bool×Int×List
 T70D×Y22D)×Unit)×List zai×Unit)×T53D×Unit)×Unit)=>
 Option.bind
 (bif !x.1.2.2.2.2.2.2.2.2.1 then
 (remO (wrap64 (x.1.2.2.2.2.2.1+1)) x.1.2.2.1).bind
 fun b=>some (Sum.inl (b,()))
 else some (Sum.inl (x.1.2.2.2.2.2.1,())))
 fun o=>
 Sum.elim
 (fun (x_1:Int×Unit)=>
 Option.bind
 (F50
 ((x.1.1,x.1.2.1,x.1.2.2.1,x.1.2.2.2.1,x.1.2.2.2.2.1,
 x_1.1,0,x.1.2.2.2.2.2.2.2.1,false,
 x.1.2.2.2.2.2.2.2.2.2),
 ()))
 fun b=>
 some
 ((x.1.1,x.1.2.1,x.1.2.2.1,x.1.2.2.2.1,x.1.2.2.2.2.1,
 x_1.1,0,x.1.2.2.2.2.2.2.2.1,false,
 x.1.2.2.2.2.2.2.2.2.2),
 [b.1],()))
 some o)
 some o
def S26:Sig:=⟨P26,R26,F26⟩
noncomputable def E26:Env:={ tab:=tab.opt { flats:=[(93,L93)],owns:=[87],frzs:=[89,90,91] },nt:=39,Γ:=zaj [(50,[S50])],joins:=zac [(6,⟨[⟨.fld 2000 0,(.int .i64),.pv⟩,⟨.fld 2000 1,(.int .i64),.pv⟩,⟨.fld 2000 2,(.int .i64),.pv⟩,⟨.fld 2000 3,(.int .i64),.pv⟩,⟨.fld 2000 4,(.int .i64),.pv⟩,⟨.fld 2000 5,(.int .i64),.pv⟩,⟨.fld 2000 6,(.int .i64),.pv⟩,⟨.fld 2000 7,.bool,.pv⟩,⟨.fld 2000 8,.bool,.pv⟩,⟨.fld 2000 9,TM,.pv⟩],[1,2],[.site 2000,.site 1000]++hL (.fld 1000) 0 10⟩),(8,⟨[⟨.fld 1000 5,(.int .i64),.pv⟩],[1,2],[.site 2000]++hL (.fld 2000) 0 10++[.site 1000]++hL (.fld 1000) 0 5++hL (.fld 1000) 6 4⟩)],loops:=zac [] }
theorem zsA (x:Y58D×Unit):afun E26 Tryz.f26 P26 R26 x=F26 x:=by kernel_rfl
def F51 (x:T28D×Unit):Option (TMD×Unit):=
 some
 ((2,0,(0,0,0,0,0,0,0,0,false,[],(0,0,[],()),()),(0,0,x),0,[],[],0,0,0,0,
 (0,0,false,0,[],0,0,()),[],[],false,(0,0,[],[],()),
 (0,0,0,[],[],0,[],0,0,0,()),()),
 ())
def S51:Sig:=⟨P51,R51,F51⟩
noncomputable def E51:Env:={ tab:=tab.opt { flats:=[(93,L93)],owns:=[87],frzs:=[89,90,91] },nt:=6,Γ:=zaj [],joins:=zac [],loops:=zac [] }
theorem zsa (x:T28D×Unit):afun E51 Tryz.f51 P51 R51 x=F51 x:=by kernel_rfl
def F52 (x:List UInt8×Unit):Option (List UInt8×Unit):=
 (F38 x).bind fun b=>
 bif !b.1 then some ([],())
 else
 (zcN x.1 0 (wrap64 (Int.ofNat (List.length x.1) - 1))).bind
 fun b=>
 (idx x.1 (wrap64 (Int.ofNat (List.length x.1) - 1))).bind fun b_1=>
 (appO b [Sx.byteOf (IntKind.wrap IntKind.u8 (zax b_1+zax (UInt8.ofNat 1)))]).bind
 fun b=>some (b,())
def S52:Sig:=⟨P52,R52,F52⟩
noncomputable def E52:Env:={ tab:=tab.opt { flats:=[(93,L93)],owns:=[87],frzs:=[89,90,91] },nt:=20,Γ:=zaj [(38,[S38])],joins:=zac [],loops:=zac [] }
theorem zr9 (x:List UInt8×Unit):afun E52 Tryz.f52 P52 R52 x=F52 x:=by kernel_rfl
def F27 (x:Y61D×Unit):Option (TMD×Int×Unit):=
 bif !x.1.2.2.2.2.2.2.1 then
 some
 ((7,0,(0,0,0,0,0,0,0,0,false,[],(0,0,[],()),()),
 (0,0,(0,[],[],[],0,0,0,[],[],[],0,0,0,false,[],[],[],()),()),0,[],[],
 0,0,0,0,(0,0,false,0,[],0,0,()),[],[],false,(0,0,[],[],()),
 (0,0,0,[],[],0,[],0,0,0,()),()),
 1,())
 else
 Option.bind
 (bif decide (x.1.2.2.2.2.2.2.2.1.1=3) then some (Sum.inl (true,()))
 else some (Sum.inl (decide (x.1.1 < x.1.2.2.2.2.2.2.2.1.2.1),())))
 fun o=>
 Sum.elim
 (fun (x_1:Bool×Unit)=>
 bif x_1.1 then
 some
 ((0,0,(0,0,0,0,0,0,0,0,false,[],(0,0,[],()),()),
 (0,0,(0,[],[],[],0,0,0,[],[],[],0,0,0,false,[],[],[],()),()),0,
 [],[],0,0,0,0,(0,0,false,0,[],0,0,()),[],[],false,(0,0,[],[],()),
 (0,0,0,[],[],0,[],0,0,0,()),()),
 0,())
 else
 Option.bind
 (bif decide (x.1.2.2.2.1=2) then
 bif decide (x.1.2.2.2.2.2.2.2.1.1=4) then
 some (Sum.inl (!decide (x.1.2.2.2.2.2.2.2.1.2.1=x.1.1),()))
 else some (Sum.inl (!false,()))
 else
 bif decide (x.1.2.2.2.2.2.2.2.1.1=4) then
 bif decide (x.1.2.2.2.2.2.2.2.1.2.1=x.1.1) then
 bif decide (x.1.2.2.2.2.2.2.2.1.1=4) then
 some (Sum.inl (!decide (x.1.2.2.2.2.2.2.2.1.2.1=x.1.1),()))
 else some (Sum.inl (!false,()))
 else some (Sum.inl (false,()))
 else some (Sum.inl (false,())))
 fun o=>
 Sum.elim
 (fun (x_2:Bool×Unit)=>
 bif x_2.1 then
 Option.bind
 (F51
 ((16,[],[],[],0,0,0,[],[],[],x.1.1,0,0,false,[],[],[],()),
 ()))
 fun b=>
 some (b.1,1,())
 else
 Option.bind
 (bif decide (x.1.2.2.2.1=2) then some (Sum.inl (true,()))
 else
 bif decide (x.1.2.2.2.2.2.2.2.1.1=4) then
 some
 (Sum.inl (decide (x.1.2.2.2.2.2.2.2.1.2.1=x.1.1),()))
 else some (Sum.inl (false,())))
 fun o=>
 Sum.elim
 (fun (x_3:Bool×Unit)=>
 bif x_3.1 then
 bif
 x.1.2.2.2.2.2.2.2.2.2.2.2.2.2.2.2.2.2.2.2.1 then
 some
 ((0,0,(0,0,0,0,0,0,0,0,false,[],(0,0,[],()),()),
 (0,0,(0,[],[],[],0,0,0,[],[],[],0,0,0,false,[],[],[],()),
 ()),
 0,[],[],0,0,0,0,(0,0,false,0,[],0,0,()),[],[],false,
 (0,0,[],[],()),(0,0,0,[],[],0,[],0,0,0,()),
 ()),
 0,())
 else
 Option.bind
 (F51
 ((11,[],[],[],0,0,0,[],[],[],x.1.1,0,0,false,[],[],[],
 ()),
 ()))
 fun b=>
 some (b.1,0,())
 else
 Option.bind
 (bif decide (x.1.2.2.2.2.2.2.2.1.1=0) then
 some (Sum.inl (decide (x.1.2.2.2.2.2.2.2.2.1=0),()))
 else
 bif decide (x.1.2.2.2.2.2.2.2.1.1=4) then
 some (Sum.inl (decide (x.1.2.2.2.2.2.2.2.2.1=0),()))
 else
 bif x.1.2.2.2.2.2.2.2.2.2.2.2.2.2.2.2.1 then
 some (Sum.inl (decide (x.1.2.2.2.2.2.2.2.2.1=0),()))
 else some (Sum.inl (false,())))
 fun o=>
 Sum.elim
 (fun (x_4:Bool×Unit)=>
 bif x_4.1 then
 some
 ((7,0,(0,0,0,0,0,0,0,0,false,[],(0,0,[],()),()),
 (0,0,
 (0,[],[],[],0,0,0,[],[],[],0,0,0,false,[],[],[],
 ()),
 ()),
 0,[],[],0,0,0,0,(0,0,false,0,[],0,0,()),[],[],false,
 (0,0,[],[],()),(0,0,0,[],[],0,[],0,0,0,()),
 ()),
 0,())
 else
 Option.bind
 (bif decide (x.1.2.2.2.2.2.2.2.1.1=0) then
 some (Sum.inl (true,()))
 else
 bif decide (x.1.2.2.2.2.2.2.2.1.1=4) then
 some (Sum.inl (true,()))
 else
 some
 (Sum.inl
 (x.1.2.2.2.2.2.2.2.2.2.2.2.2.2.2.2.1,
 ())))
 fun o=>
 Sum.elim
 (fun (x_5:Bool×Unit)=>
 bif x_5.1 then
 Option.bind
 (bif
 decide
 (x.1.2.2.2.2.2.2.2.1.2.1=x.1.1) then
 some
 (Sum.inl
 (wrap64
 (x.1.2.2.2.2.2.2.2.1.2.2.1+1),
 ()))
 else some (Sum.inl (1,())))
 fun o=>
 Sum.elim
 (fun (x_6:Int×Unit)=>
 Option.bind
 (F51
 ((12,x.1.2.1,x.1.2.2.1,[],0,0,
 x.1.2.2.2.2.2.2.2.2.1,[],[],[],
 x.1.1,x_6.1,0,false,[],[],[],()),
 ()))
 fun b=>
 some (b.1,1,()))
 some o
 else
 Option.bind
 (bif decide (x.1.2.2.2.2.2.2.2.1.1=1) then
 some
 (Sum.inl (!x.1.2.2.2.2.2.2.2.2.2.1,()))
 else some (Sum.inl (false,())))
 fun o=>
 Sum.elim
 (fun (x_6:Bool×Unit)=>
 bif x_6.1 then
 some
 ((5,0,
 (0,0,0,0,0,0,0,0,false,[],(0,0,[],()),
 ()),
 (0,0,
 (0,[],[],[],0,0,0,[],[],[],0,0,0,false,[],[],
 [],()),
 ()),
 0,x.1.2.1,
 x.1.2.2.2.2.2.2.2.1.2.2.2.2.2.2.1,
 x.1.2.2.2.2.2.2.2.1.2.2.2.2.2.1,
 0,0,0,(0,0,false,0,[],0,0,()),[],[],
 false,(0,0,[],[],()),
 (0,0,0,[],[],0,[],0,0,0,()),()),
 0,())
 else
 bif decide (x.1.2.2.2.2.2.2.2.1.1=1) then
 bif
 decide
 (0 <
 Int.ofNat
 (List.length
 x.1.2.2.2.2.2.2.2.2.2.2.2.1)) then
 Option.bind
 (idx x.1.2.2.2.2.2.2.2.2.2.2.2.1
 (wrap64
 (Int.ofNat
 (List.length
 x.1.2.2.2.2.2.2.2.2.2.2.2.1) -
 1)))
 fun b=>
 Option.bind
 (F51
 ((13,
 x.1.2.2.2.2.2.2.2.1.2.2.2.2.2.2.1,
 b.1,[],0,0,0,[],[],[],
 x.1.2.2.2.2.2.2.2.1.2.1,
 x.1.2.2.2.2.2.2.2.1.2.2.1,0,
 x.1.2.2.2.2.2.2.2.2.2.2.1,
 x.1.2.2.2.2.2.2.2.2.2.2.2.1,
 [],[],()),
 ()))
 fun b=>
 some (b.1,1,())
 else
 Option.bind
 (F51
 ((13,
 x.1.2.2.2.2.2.2.2.1.2.2.2.2.2.2.1,
 x.1.2.2.2.2.2.2.2.1.2.2.2.2.2.2.1,
 [],0,0,0,[],[],[],
 x.1.2.2.2.2.2.2.2.1.2.1,
 x.1.2.2.2.2.2.2.2.1.2.2.1,0,
 x.1.2.2.2.2.2.2.2.2.2.2.1,
 x.1.2.2.2.2.2.2.2.2.2.2.2.1,
 [],[],()),
 ()))
 fun b=>
 some (b.1,1,())
 else
 bif x.1.2.2.2.2.2.2.2.2.2.2.2.2.1 then
 Option.bind
 (F51
 ((14,[],[],[],0,0,
 x.1.2.2.2.2.2.2.2.1.2.2.2.2.2.2.2.1,
 [],[],[],
 x.1.2.2.2.2.2.2.2.1.2.1,
 x.1.2.2.2.2.2.2.2.1.2.2.1,
 x.1.2.2.2.2.2.2.2.2.2.2.2.2.2.2.1,
 false,
 x.1.2.2.2.2.2.2.2.2.2.2.2.2.2.1,
 [],[],()),
 ()))
 fun b=>
 some (b.1,1,())
 else
 Option.bind
 (bif decide (x.1.2.2.2.1=1) then
 some
 (Sum.inl
 (!x.1.2.2.2.2.2.2.2.2.2.2.2.2.2.2.2.2.1,
 ()))
 else some (Sum.inl (false,())))
 fun o=>
 Sum.elim
 (fun (x_7:Bool×Unit)=>
 bif x_7.1 then
 Option.bind
 (F51
 ((10,x.1.2.1,[],[],0,0,0,[],[],[],
 x.1.1,0,0,false,[],[],[],()),
 ()))
 fun b=>
 some (b.1,0,())
 else
 Option.bind
 (bif decide (x.1.2.2.2.1=1) then
 some
 (Sum.inl
 (!x.1.2.2.2.2.2.2.2.2.2.2.2.2.2.2.2.2.2.1,
 ()))
 else some (Sum.inl (false,())))
 fun o=>
 Sum.elim
 (fun (x_8:Bool×Unit)=>
 bif x_8.1 then
 some
 ((6,0,
 (0,0,0,0,0,0,0,0,false,[],
 (0,0,[],()),()),
 (0,0,
 (0,[],[],[],0,0,0,[],[],[],0,
 0,0,false,[],[],[],()),
 ()),
 0,[],[],x.1.1,0,0,0,
 (0,0,false,0,[],0,0,()),
 [],[],false,(0,0,[],[],()),
 (0,0,0,[],[],0,[],0,0,0,
 ()),
 ()),
 0,())
 else
 Option.bind
 (bif decide (x.1.2.2.2.1=1) then
 some
 (Sum.inl
 (decide
 (x.1.2.2.2.2.2.2.2.2.2.2.2.2.2.2.2.2.2.2.1.2.1≤
 x.1.2.2.2.2.2.2.2.1.2.2.2.2.2.2.2.1),
 ()))
 else some (Sum.inl (false,())))
 fun o=>
 Sum.elim
 (fun (x_9:Bool×Unit)=>
 bif x_9.1 then
 Option.bind
 (F51
 ((15,[],[],[],0,0,
 x.1.2.2.2.2.2.2.2.2.2.2.2.2.2.2.2.2.2.2.1.2.1,
 [],[],[],
 x.1.2.2.2.2.2.2.2.1.2.1,
 x.1.2.2.2.2.2.2.2.1.2.2.1,
 0,false,[],
 x.1.2.2.2.2.2.2.2.2.2.2.2.2.2.2.2.2.2.2.1.2.2),
 ()))
 fun b=>
 some (b.1,1,())
 else
 Option.bind
 (F52 (x.1.2.1,()))
 fun b=>
 some
 ((4,0,
 (0,0,0,0,0,0,0,0,false,
 [],(0,0,[],()),
 ()),
 (0,0,
 (0,[],[],[],0,0,0,[],
 [],[],0,0,0,false,[],
 [],[],()),
 ()),
 0,x.1.2.1,b.1,
 wrap64
 (x.1.2.2.2.2.2.2.2.1.2.2.2.2.2.2.2.1 +
 1),
 0,0,0,
 (0,0,false,0,[],0,0,
 ()),
 [],[],false,
 (0,0,[],[],()),
 (0,0,0,[],[],0,[],0,0,
 0,()),
 ()),
 0,()))
 some o)
 some o)
 some o)
 some o)
 some o)
 some o)
 some o)
 some o)
 some o
def S27:Sig:=⟨P27,R27,F27⟩
noncomputable def E27:Env:={ tab:=tab.opt { flats:=[(93,L93)],owns:=[87],frzs:=[89,90,91] },nt:=257,Γ:=zaj [(51,[S51]),(52,[S52])],joins:=zac [(21,⟨[⟨.slot 8,(.int .i64),.pv⟩],[1,2],[.site 2000]++hL (.fld 2000) 0 17++[.site 1000]++hL (.fld 1000) 0 20⟩),(300008,⟨[⟨.slot 28,.bool,.pv⟩],[1,2,4,5,6,7],[.site 4006000]++hL (.fld 4006000) 0 17++[.site 2002000]++hL (.fld 2002000) 0 17++[.site 1003000]++hL (.fld 1003000) 0 10++[.site 2000]++hL (.fld 2000) 0 17++[.site 1000]++hL (.fld 1000) 0 20⟩),(300010,⟨[⟨.slot 40,.bool,.pv⟩],[1,2,4,5,6,7],[.site 4006000]++hL (.fld 4006000) 0 17++[.site 2002000]++hL (.fld 2002000) 0 17++[.site 1003000]++hL (.fld 1003000) 0 10++[.site 2000]++hL (.fld 2000) 0 17++[.site 1000]++hL (.fld 1000) 0 20⟩),(300012,⟨[⟨.slot 65,.bool,.pv⟩],[1,2,4,5,6,7],[.site 4006000]++hL (.fld 4006000) 0 17++[.site 2002000]++hL (.fld 2002000) 0 17++[.site 1003000]++hL (.fld 1003000) 0 10++[.site 2000]++hL (.fld 2000) 0 17++[.site 1000]++hL (.fld 1000) 0 20⟩),(300016,⟨[⟨.slot 84,.bool,.pv⟩],[1,2,4,6,7],[.site 4006000]++hL (.fld 4006000) 0 17++[.site 1003000]++hL (.fld 1003000) 0 10++[.site 2000]++hL (.fld 2000) 0 17++[.site 1000]++hL (.fld 1000) 0 20⟩),(300018,⟨[⟨.slot 103,.bool,.pv⟩],[1,2,4,6,7],[.site 4006000]++hL (.fld 4006000) 0 17++[.site 1003000]++hL (.fld 1003000) 0 10++[.site 2000]++hL (.fld 2000) 0 17++[.site 1000]++hL (.fld 1000) 0 20⟩),(300023,⟨[⟨.slot 131,.bool,.pv⟩],[1,2,4,7],[.site 4006000]++hL (.fld 4006000) 0 17++[.site 1003000]++hL (.fld 1003000) 0 10++[.site 2000]++hL (.fld 2000) 0 17++[.site 1000]++hL (.fld 1000) 0 20⟩),(300034,⟨[⟨.slot 194,.bool,.pv⟩],[1,2,4,7],[.site 4006000]++hL (.fld 4006000) 0 17++[.site 1003000]++hL (.fld 1003000) 0 10++[.site 2000]++hL (.fld 2000) 0 17++[.site 1000]++hL (.fld 1000) 0 20⟩),(300036,⟨[⟨.slot 209,.bool,.pv⟩],[1,2,4,7],[.site 4006000]++hL (.fld 4006000) 0 17++[.site 1003000]++hL (.fld 1003000) 0 10++[.site 2000]++hL (.fld 2000) 0 17++[.site 1000]++hL (.fld 1000) 0 20⟩),(300038,⟨[⟨.slot 221,.bool,.pv⟩],[1,2,4,7],[.site 4006000]++hL (.fld 4006000) 0 17++[.site 1003000]++hL (.fld 1003000) 0 10++[.site 2000]++hL (.fld 2000) 0 17++[.site 1000]++hL (.fld 1000) 0 20⟩)],loops:=zac [] }
theorem zsz (x:Y61D×Unit):afun E27 Tryz.f27 P27 R27 x=F27 x:=by kernel_rfl
def F182 (x:T25D×T25D×Unit):Option (Bool×Unit):=
 bif decide (x.1.1=x.2.1.1) then
 bif decide (x.1.2.1=x.2.1.2.1) then
 some (decide (x.1.2.2.1=x.2.1.2.2.1),())
 else some (false,())
 else some (false,())
def S182:Sig:=⟨P182,R182,F182⟩
noncomputable def E182:Env:={ tab:=tab.opt { flats:=[(93,L93)],owns:=[87],frzs:=[89,90,91] },nt:=26,Γ:=zaj [],joins:=zac [],loops:=zac [] }
theorem zn7 (x:T25D×T25D×Unit):afun E182 Tryz.f182 P182 R182 x=F182 x:=by kernel_rfl
def F154 (x:List T25D×List T25D×Unit):Option (Bool×Unit):=
 bif !decide (Int.ofNat (List.length x.1)=Int.ofNat (List.length x.2.1)) then some (false,())
 else
 zaT (Int×Unit) (Bool×Unit)
 (fun (x_1:Int×Unit)=>
 bif decide (x_1.1 < Int.ofNat (List.length x.1)) then
 (idx x.1 x_1.1).bind fun b=>
 (idx x.2.1 x_1.1).bind fun b_1=>
 (F182 (b,b_1,())).bind fun b=>
 bif !b.1 then some (Sum.inr (false,()))
 else some (Sum.inl (wrap64 (x_1.1+1),()))
 else some (Sum.inr (true,())))
 big (0,())
def S154:Sig:=⟨P154,R154,F154⟩
noncomputable def E154:Env:={ tab:=tab.opt { flats:=[(93,L93)],owns:=[87],frzs:=[89,90,91] },nt:=27,Γ:=zaj [(182,[S182])],joins:=zac [],loops:=zac [(4,zaI ⟨[⟨.slot 13,(.int .i64),.pv⟩],[0,1,12],[]⟩)] }
theorem zox (x:List T25D×List T25D×Unit):afun E154 Tryz.f154 P154 R154 x=F154 x:=by kernel_rfl
def F155 (x:T25D×T25D×Unit):Option (Bool×Unit):=
 bif decide (x.1.1=x.2.1.1) then
 bif decide (x.1.2.1=x.2.1.2.1) then
 some (decide (x.1.2.2.1=x.2.1.2.2.1),())
 else some (false,())
 else some (false,())
def S155:Sig:=⟨P155,R155,F155⟩
noncomputable def E155:Env:={ tab:=tab.opt { flats:=[(93,L93)],owns:=[87],frzs:=[89,90,91] },nt:=26,Γ:=zaj [],joins:=zac [],loops:=zac [] }
theorem zow (x:T25D×T25D×Unit):afun E155 Tryz.f155 P155 R155 x=F155 x:=by kernel_rfl
def F115 (x:T27D×T27D×Unit):Option (Bool×Unit):=
 bif decide (x.1.1=x.2.1.1) then
 bif decide (x.1.2.1=x.2.1.2.1) then
 bif decide (x.1.2.2.1=x.2.1.2.2.1) then
 bif decide (x.1.2.2.2.1=x.2.1.2.2.2.1) then
 bif decide (x.1.2.2.2.2.1=x.2.1.2.2.2.2.1) then
 bif decide (x.1.2.2.2.2.2.1=x.2.1.2.2.2.2.2.1) then
 bif decide (x.1.2.2.2.2.2.2.1=x.2.1.2.2.2.2.2.2.1) then
 bif decide (x.1.2.2.2.2.2.2.2.1=x.2.1.2.2.2.2.2.2.2.1) then
 bif x.1.2.2.2.2.2.2.2.2.1 == x.2.1.2.2.2.2.2.2.2.2.1 then
 Option.bind
 (F154
 (x.1.2.2.2.2.2.2.2.2.2.1,
 x.2.1.2.2.2.2.2.2.2.2.2.1,()))
 fun b=>
 bif b.1 then
 Option.bind
 (F155
 (x.1.2.2.2.2.2.2.2.2.2.2.1,
 x.2.1.2.2.2.2.2.2.2.2.2.2))
 fun b=>some b
 else some (false,())
 else some (false,())
 else some (false,())
 else some (false,())
 else some (false,())
 else some (false,())
 else some (false,())
 else some (false,())
 else some (false,())
 else some (false,())
def S115:Sig:=⟨P115,R115,F115⟩
noncomputable def E115:Env:={ tab:=tab.opt { flats:=[(93,L93)],owns:=[87],frzs:=[89,90,91] },nt:=80,Γ:=zaj [(154,[S154]),(155,[S155])],joins:=zac [],loops:=zac [] }
theorem zo7 (x:T27D×T27D×Unit):afun E115 Tryz.f115 P115 R115 x=F115 x:=by kernel_rfl
def F119 (x:List T70D×List T70D×Unit):Option (Bool×Unit):=
 bif !decide (Int.ofNat (List.length x.1)=Int.ofNat (List.length x.2.1)) then some (false,())
 else
 zaT (Int×Unit) (Bool×Unit)
 (fun (x_1:Int×Unit)=>
 bif decide (x_1.1 < Int.ofNat (List.length x.1)) then
 (idx x.1 x_1.1).bind
 fun b=>
 (idx x.2.1 x_1.1).bind
 fun b_1=>
 bif
 !(decide (b.1=b_1.1) &&
 (decide (b.2.1.1=b_1.2.1.1) &&
 (decide (b.2.1.2.1=b_1.2.1.2.1) &&
 (decide (b.2.1.2.2.1=b_1.2.1.2.2.1) &&
 (decide (b.2.1.2.2.2.1=b_1.2.1.2.2.2.1) &&
 (decide (b.2.1.2.2.2.2.1=b_1.2.1.2.2.2.2.1) &&
 (decide (b.2.1.2.2.2.2.2.1=b_1.2.1.2.2.2.2.2.1) &&
 (b.2.1.2.2.2.2.2.2.1 == b_1.2.1.2.2.2.2.2.2.1 &&
 true)))))) &&
 true)) then
 some (Sum.inr (false,()))
 else some (Sum.inl (wrap64 (x_1.1+1),()))
 else some (Sum.inr (true,())))
 big (0,())
def S119:Sig:=⟨P119,R119,F119⟩
noncomputable def E119:Env:={ tab:=tab.opt { flats:=[(93,L93)],owns:=[87],frzs:=[89,90,91] },nt:=26,Γ:=zaj [],joins:=zac [],loops:=zac [(4,zaI ⟨[⟨.slot 13,(.int .i64),.pv⟩],[0,1,12],[]⟩)] }
theorem zo3 (x:List T70D×List T70D×Unit):afun E119 Tryz.f119 P119 R119 x=F119 x:=by kernel_rfl
def F156 (x:List T96D×List T96D×Unit):Option (Bool×Unit):=
 bif !decide (Int.ofNat (List.length x.1)=Int.ofNat (List.length x.2.1)) then some (false,())
 else
 zaT (Int×Unit) (Bool×Unit)
 (fun (x_1:Int×Unit)=>
 bif decide (x_1.1 < Int.ofNat (List.length x.1)) then
 (idx x.1 x_1.1).bind fun b=>
 (idx x.2.1 x_1.1).bind fun b_1=>
 bif
 !(decide (b.1=b_1.1) &&
 (decide (b.2.1=b_1.2.1) &&
 (decide (b.2.2.1=b_1.2.2.1) &&
 (decide (b.2.2.2.1=b_1.2.2.2.1) &&
 (decide (b.2.2.2.2.1=b_1.2.2.2.2.1) && true))))) then
 some (Sum.inr (false,()))
 else some (Sum.inl (wrap64 (x_1.1+1),()))
 else some (Sum.inr (true,())))
 big (0,())
def S156:Sig:=⟨P156,R156,F156⟩
noncomputable def E156:Env:={ tab:=tab.opt { flats:=[(93,L93)],owns:=[87],frzs:=[89,90,91] },nt:=26,Γ:=zaj [],joins:=zac [],loops:=zac [(4,zaI ⟨[⟨.slot 13,(.int .i64),.pv⟩],[0,1,12],[]⟩)] }
theorem zov (x:List T96D×List T96D×Unit):afun E156 Tryz.f156 P156 R156 x=F156 x:=by kernel_rfl
end
end Go.Proofs.YtpfjaaofpcbejaaGreat

