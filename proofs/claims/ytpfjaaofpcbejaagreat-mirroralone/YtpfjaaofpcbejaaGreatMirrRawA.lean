/-
 Mirr: by a program of the bench (seat.py).
-/
import Derived.Test.YtpfjaaofpcbejaaGreatMirrTab
namespace Go.Proofs.YtpfjaaofpcbejaaGreat
open Go.Sx Go
set_option maxRecDepth 100000
set_option maxHeartbeats 2000000
noncomputable section
def F90 (x:List UInt8×UInt8×Unit):Option (Bool×Unit):=
 bif decide (Int.ofNat (List.length x.1) < 1) then some (false,())
 else
 bif decide (32 < Int.ofNat (List.length x.1)) then some (false,())
 else
 iterE (Int×Unit) (Bool×Unit)
 (fun (x_1:Int×Unit)=>
 bif decide (x_1.1 < Int.ofNat (List.length x.1)) then
 Option.bind (idx x.1 x_1.1) fun b=>
 bif decide (intOf8 b < intOf8 (UInt8.ofNat 33)) then some (Sum.inr (false,()))
 else
 Option.bind (idx x.1 x_1.1) fun b=>
 bif decide (intOf8 x.2.1 < intOf8 b) then some (Sum.inr (false,()))
 else some (Sum.inl (wrap64 (x_1.1+1),()))
 else some (Sum.inr (true,())))
 big (0,())
def S90:Sig:=⟨P90,R90,F90⟩
noncomputable def E90:Env:={ tab:=tab.opt { flats:=[(93,L93)],owns:=[87],frzs:=[89,90,91] },nt:=31,Γ:=lookG [],joins:=lookN [],loops:=lookN [(4,mkLoop ⟨[⟨.slot 16,(.int .i64),.pv⟩],[0,1,15],[]⟩)] }
theorem raw90_eq (x:List UInt8×UInt8×Unit):afun E90 Tryz.f90 P90 R90 x=F90 x:=by kernel_rfl
def F59 (x:List UInt8×Unit):Option (Bool×Unit):=Option.bind (F90 (x.1,UInt8.ofNat 126,())) fun b=>some b
def S59:Sig:=⟨P59,R59,F59⟩
noncomputable def E59:Env:={ tab:=tab.opt { flats:=[(93,L93)],owns:=[87],frzs:=[89,90,91] },nt:=5,Γ:=lookG [(90,[S90])],joins:=lookN [],loops:=lookN [] }
theorem raw59_eq (x:List UInt8×Unit):afun E59 Tryz.f59 P59 R59 x=F59 x:=by kernel_rfl
def F40 (x:List UInt8×Unit):Option (Bool×Unit):=
 bif decide (Int.ofNat (List.length x.1)≤8) then Option.bind (F59 x) fun b=>some b
 else some (false,())
def S40:Sig:=⟨P40,R40,F40⟩
noncomputable def E40:Env:={ tab:=tab.opt { flats:=[(93,L93)],owns:=[87],frzs:=[89,90,91] },nt:=10,Γ:=lookG [(59,[S59])],joins:=lookN [],loops:=lookN [] }
theorem raw40_eq (x:List UInt8×Unit):afun E40 Tryz.f40 P40 R40 x=F40 x:=by kernel_rfl
def F60 (x:List UInt8×List UInt8×Unit):Option (Bool×Unit):=
 bif decide (Int.ofNat (List.length x.2.1)≤Int.ofNat (List.length x.1)) then
 Option.bind (sliceO x.1 0 (Int.ofNat (List.length x.2.1))) fun b=>
 some (decide (b=x.2.1),())
 else some (false,())
def S60:Sig:=⟨P60,R60,F60⟩
noncomputable def E60:Env:={ tab:=tab.opt { flats:=[(93,L93)],owns:=[87],frzs:=[89,90,91] },nt:=18,Γ:=lookG [],joins:=lookN [],loops:=lookN [] }
theorem raw60_eq (x:List UInt8×List UInt8×Unit):afun E60 Tryz.f60 P60 R60 x=F60 x:=by kernel_rfl
def F41 (x:List UInt8×List UInt8×Unit):Option (Bool×Unit):=Option.bind (F60 x) fun b=>some b
def S41:Sig:=⟨P41,R41,F41⟩
noncomputable def E41:Env:={ tab:=tab.opt { flats:=[(93,L93)],owns:=[87],frzs:=[89,90,91] },nt:=8,Γ:=lookG [(60,[S60])],joins:=lookN [],loops:=lookN [] }
theorem raw41_eq (x:List UInt8×List UInt8×Unit):afun E41 Tryz.f41 P41 R41 x=F41 x:=by kernel_rfl
def F20 (x:Y24D×Unit):Option (Bool×Unit):=
 bif decide (1≤x.1.1) then
 bif decide (x.1.1≤1099511627776) then
 Option.bind (F40 (x.1.2.1,())) fun b=>
 bif b.1 then
 Option.bind (F40 (x.1.2.2.1,())) fun b=>
 bif b.1 then
 Option.bind (F41 (x.1.2.1,x.1.2.2.1,())) fun b=>
 bif !b.1 then
 Option.bind (F41 (x.1.2.2.1,x.1.2.1,())) fun b=>
 some (!b.1,())
 else some (false,())
 else some (false,())
 else some (false,())
 else some (false,())
 else some (false,())
def S20:Sig:=⟨P20,R20,F20⟩
noncomputable def E20:Env:={ tab:=tab.opt { flats:=[(93,L93)],owns:=[87],frzs:=[89,90,91] },nt:=37,Γ:=lookG [(40,[S40]),(41,[S41])],joins:=lookN [],loops:=lookN [] }
theorem raw20_eq (x:Y24D×Unit):afun E20 Tryz.f20 P20 R20 x=F20 x:=by kernel_rfl
def F21 (x:Int×Int×Int×Int×Int×Unit):Option ((Bool×Y123D)×Int×Unit):=
 bif decide (x.1 < 8) then
 some
 ((false,0,0,0,0,0,0,0,false,
 (0,0,(0,0,0,0,0,0,0,0,false,[],(0,0,[],()),()),
 (0,0,(0,[],[],[],0,0,0,[],[],[],0,0,0,false,[],[],[],()),()),0,[],[],
 0,0,0,0,(0,0,false,0,[],0,0,()),[],[],false,(0,0,[],[],()),
 (0,0,0,[],[],0,[],0,0,0,()),()),
 ()),
 1,())
 else
 bif decide (15 < x.1) then
 some
 ((false,0,0,0,0,0,0,0,false,
 (0,0,(0,0,0,0,0,0,0,0,false,[],(0,0,[],()),()),
 (0,0,(0,[],[],[],0,0,0,[],[],[],0,0,0,false,[],[],[],()),()),0,[],
 [],0,0,0,0,(0,0,false,0,[],0,0,()),[],[],false,(0,0,[],[],()),
 (0,0,0,[],[],0,[],0,0,0,()),()),
 ()),
 1,())
 else
 bif decide (x.2.1 < 0) then
 some
 ((false,0,0,0,0,0,0,0,false,
 (0,0,(0,0,0,0,0,0,0,0,false,[],(0,0,[],()),()),
 (0,0,(0,[],[],[],0,0,0,[],[],[],0,0,0,false,[],[],[],()),()),0,[],
 [],0,0,0,0,(0,0,false,0,[],0,0,()),[],[],false,(0,0,[],[],()),
 (0,0,0,[],[],0,[],0,0,0,()),()),
 ()),
 1,())
 else
 bif decide (1 < x.2.1) then
 some
 ((false,0,0,0,0,0,0,0,false,
 (0,0,(0,0,0,0,0,0,0,0,false,[],(0,0,[],()),()),
 (0,0,(0,[],[],[],0,0,0,[],[],[],0,0,0,false,[],[],[],()),()),0,
 [],[],0,0,0,0,(0,0,false,0,[],0,0,()),[],[],false,(0,0,[],[],()),
 (0,0,0,[],[],0,[],0,0,0,()),()),
 ()),
 1,())
 else
 bif decide (x.2.2.1 < 1) then
 some
 ((false,0,0,0,0,0,0,0,false,
 (0,0,(0,0,0,0,0,0,0,0,false,[],(0,0,[],()),()),
 (0,0,(0,[],[],[],0,0,0,[],[],[],0,0,0,false,[],[],[],()),()),0,
 [],[],0,0,0,0,(0,0,false,0,[],0,0,()),[],[],false,
 (0,0,[],[],()),(0,0,0,[],[],0,[],0,0,0,()),()),
 ()),
 1,())
 else
 bif decide (3 < x.2.2.1) then
 some
 ((false,0,0,0,0,0,0,0,false,
 (0,0,(0,0,0,0,0,0,0,0,false,[],(0,0,[],()),()),
 (0,0,(0,[],[],[],0,0,0,[],[],[],0,0,0,false,[],[],[],()),()),
 0,[],[],0,0,0,0,(0,0,false,0,[],0,0,()),[],[],false,
 (0,0,[],[],()),(0,0,0,[],[],0,[],0,0,0,()),()),
 ()),
 1,())
 else
 bif decide (x.2.2.2.1 < 1) then
 some
 ((false,0,0,0,0,0,0,0,false,
 (0,0,(0,0,0,0,0,0,0,0,false,[],(0,0,[],()),()),
 (0,0,(0,[],[],[],0,0,0,[],[],[],0,0,0,false,[],[],[],()),
 ()),
 0,[],[],0,0,0,0,(0,0,false,0,[],0,0,()),[],[],false,
 (0,0,[],[],()),(0,0,0,[],[],0,[],0,0,0,()),()),
 ()),
 1,())
 else
 bif decide (100 < x.2.2.2.1) then
 some
 ((false,0,0,0,0,0,0,0,false,
 (0,0,(0,0,0,0,0,0,0,0,false,[],(0,0,[],()),()),
 (0,0,(0,[],[],[],0,0,0,[],[],[],0,0,0,false,[],[],[],()),
 ()),
 0,[],[],0,0,0,0,(0,0,false,0,[],0,0,()),[],[],false,
 (0,0,[],[],()),(0,0,0,[],[],0,[],0,0,0,()),()),
 ()),
 1,())
 else
 bif decide (x.2.2.2.2.1 < 0) then
 some
 ((false,0,0,0,0,0,0,0,false,
 (0,0,(0,0,0,0,0,0,0,0,false,[],(0,0,[],()),()),
 (0,0,(0,[],[],[],0,0,0,[],[],[],0,0,0,false,[],[],[],()),
 ()),
 0,[],[],0,0,0,0,(0,0,false,0,[],0,0,()),[],[],false,
 (0,0,[],[],()),(0,0,0,[],[],0,[],0,0,0,()),()),
 ()),
 1,())
 else
 bif decide (549755813888 < x.2.2.2.2.1) then
 some
 ((false,0,0,0,0,0,0,0,false,
 (0,0,(0,0,0,0,0,0,0,0,false,[],(0,0,[],()),()),
 (0,0,(0,[],[],[],0,0,0,[],[],[],0,0,0,false,[],[],[],()),
 ()),
 0,[],[],0,0,0,0,(0,0,false,0,[],0,0,()),[],[],false,
 (0,0,[],[],()),(0,0,0,[],[],0,[],0,0,0,()),()),
 ()),
 1,())
 else
 some
 ((true,x.1,x.2.1,x.2.2.1,x.2.2.2.1,x.2.2.2.2.1,0,0,false,
 (0,0,(0,0,0,0,0,0,0,0,false,[],(0,0,[],()),()),
 (0,0,(0,[],[],[],0,0,0,[],[],[],0,0,0,false,[],[],[],()),
 ()),
 0,[],[],0,0,0,0,(0,0,false,0,[],0,0,()),[],[],false,
 (0,0,[],[],()),(0,0,0,[],[],0,[],0,0,0,()),()),
 ()),
 0,())
def S21:Sig:=⟨P21,R21,F21⟩
noncomputable def E21:Env:={ tab:=tab.opt { flats:=[(93,L93)],owns:=[87],frzs:=[89,90,91] },nt:=57,Γ:=lookG [],joins:=lookN [],loops:=lookN [] }
theorem raw21_eq (x:Int×Int×Int×Int×Int×Unit):afun E21 Tryz.f21 P21 R21 x=F21 x:=by kernel_rfl
def F7 (x:Y24D×Int×Unit):Option ((Bool×L93D)×Int×Unit):=
 Option.bind (F20 (x.1,())) fun b=>
 bif !b.1 then
 some
 ((false,(0,[],[],(0,0,()),()),0,[],[],
 (0,0,(0,0,0,0,0,0,0,0,false,[],(0,0,[],()),()),
 (0,0,(0,[],[],[],0,0,0,[],[],[],0,0,0,false,[],[],[],()),()),0,[],
 [],0,0,0,0,(0,0,false,0,[],0,0,()),[],[],false,(0,0,[],[],()),
 (0,0,0,[],[],0,[],0,0,0,()),()),
 false,(0,0,0,[],[],0,[],0,0,0,()),0,[],[],false,false,[],false,()),
 1,())
 else
 bif decide (x.2.1 < 0) then
 some
 ((false,(0,[],[],(0,0,()),()),0,[],[],
 (0,0,(0,0,0,0,0,0,0,0,false,[],(0,0,[],()),()),
 (0,0,(0,[],[],[],0,0,0,[],[],[],0,0,0,false,[],[],[],()),()),0,[],
 [],0,0,0,0,(0,0,false,0,[],0,0,()),[],[],false,(0,0,[],[],()),
 (0,0,0,[],[],0,[],0,0,0,()),()),
 false,(0,0,0,[],[],0,[],0,0,0,()),0,[],[],false,false,[],false,()),
 1,())
 else
 bif decide (500000 < x.2.1) then
 some
 ((false,(0,[],[],(0,0,()),()),0,[],[],
 (0,0,(0,0,0,0,0,0,0,0,false,[],(0,0,[],()),()),
 (0,0,(0,[],[],[],0,0,0,[],[],[],0,0,0,false,[],[],[],()),()),0,
 [],[],0,0,0,0,(0,0,false,0,[],0,0,()),[],[],false,(0,0,[],[],()),
 (0,0,0,[],[],0,[],0,0,0,()),()),
 false,(0,0,0,[],[],0,[],0,0,0,()),0,[],[],false,false,[],false,()),
 1,())
 else
 Option.bind
 (Option.bind
 (F21 (11,0,x.1.2.2.2.1.1,8,wrap64 (x.2.1*1000000),()))
 fun b=>
 bif b.1.1 then
 bif !decide (b.2.1=0) then
 some
 (Sum.inr
 ((false,(0,[],[],(0,0,()),()),0,[],[],
 (0,0,(0,0,0,0,0,0,0,0,false,[],(0,0,[],()),()),
 (0,0,(0,[],[],[],0,0,0,[],[],[],0,0,0,false,[],[],[],()),
 ()),
 0,[],[],0,0,0,0,(0,0,false,0,[],0,0,()),[],[],false,
 (0,0,[],[],()),(0,0,0,[],[],0,[],0,0,0,()),()),
 false,(0,0,0,[],[],0,[],0,0,0,()),0,[],[],false,false,[],false,
 ()),
 b.2))
 else
 Option.bind
 (F21
 (11,wrap64 (0+1),x.1.2.2.2.1.2.1,8,
 wrap64 (x.2.1*1000000),()))
 fun b_1=>
 bif b_1.1.1 then
 bif !decide (b_1.2.1=0) then
 some
 (Sum.inr
 ((false,(0,[],[],(0,0,()),()),0,[],[],
 (0,0,(0,0,0,0,0,0,0,0,false,[],(0,0,[],()),()),
 (0,0,(0,[],[],[],0,0,0,[],[],[],0,0,0,false,[],[],[],()),
 ()),
 0,[],[],0,0,0,0,(0,0,false,0,[],0,0,()),[],[],false,
 (0,0,[],[],()),(0,0,0,[],[],0,[],0,0,0,()),
 ()),
 false,(0,0,0,[],[],0,[],0,0,0,()),0,[],[],false,false,[],
 false,()),
 b_1.2))
 else some (Sum.inl ([b.1.2],[b_1.1.2],()))
 else
 bif !decide (b_1.2.1=0) then
 some
 (Sum.inr
 ((false,(0,[],[],(0,0,()),()),0,[],[],
 (0,0,(0,0,0,0,0,0,0,0,false,[],(0,0,[],()),()),
 (0,0,(0,[],[],[],0,0,0,[],[],[],0,0,0,false,[],[],[],()),
 ()),
 0,[],[],0,0,0,0,(0,0,false,0,[],0,0,()),[],[],false,
 (0,0,[],[],()),(0,0,0,[],[],0,[],0,0,0,()),
 ()),
 false,(0,0,0,[],[],0,[],0,0,0,()),0,[],[],false,false,[],
 false,()),
 b_1.2))
 else some (Sum.inl ([b.1.2],[],()))
 else
 bif !decide (b.2.1=0) then
 some
 (Sum.inr
 ((false,(0,[],[],(0,0,()),()),0,[],[],
 (0,0,(0,0,0,0,0,0,0,0,false,[],(0,0,[],()),()),
 (0,0,(0,[],[],[],0,0,0,[],[],[],0,0,0,false,[],[],[],()),
 ()),
 0,[],[],0,0,0,0,(0,0,false,0,[],0,0,()),[],[],false,
 (0,0,[],[],()),(0,0,0,[],[],0,[],0,0,0,()),()),
 false,(0,0,0,[],[],0,[],0,0,0,()),0,[],[],false,false,[],false,
 ()),
 b.2))
 else
 Option.bind
 (F21
 (11,wrap64 (0+1),x.1.2.2.2.1.2.1,8,
 wrap64 (x.2.1*1000000),()))
 fun b=>
 bif b.1.1 then
 bif !decide (b.2.1=0) then
 some
 (Sum.inr
 ((false,(0,[],[],(0,0,()),()),0,[],[],
 (0,0,(0,0,0,0,0,0,0,0,false,[],(0,0,[],()),()),
 (0,0,(0,[],[],[],0,0,0,[],[],[],0,0,0,false,[],[],[],()),
 ()),
 0,[],[],0,0,0,0,(0,0,false,0,[],0,0,()),[],[],false,
 (0,0,[],[],()),(0,0,0,[],[],0,[],0,0,0,()),
 ()),
 false,(0,0,0,[],[],0,[],0,0,0,()),0,[],[],false,false,[],
 false,()),
 b.2))
 else some (Sum.inl ([],[b.1.2],()))
 else
 bif !decide (b.2.1=0) then
 some
 (Sum.inr
 ((false,(0,[],[],(0,0,()),()),0,[],[],
 (0,0,(0,0,0,0,0,0,0,0,false,[],(0,0,[],()),()),
 (0,0,(0,[],[],[],0,0,0,[],[],[],0,0,0,false,[],[],[],()),
 ()),
 0,[],[],0,0,0,0,(0,0,false,0,[],0,0,()),[],[],false,
 (0,0,[],[],()),(0,0,0,[],[],0,[],0,0,0,()),
 ()),
 false,(0,0,0,[],[],0,[],0,0,0,()),0,[],[],false,false,[],
 false,()),
 b.2))
 else some (Sum.inl ([],[],())))
 fun o=>
 Sum.elim
 (fun (x_1 :
 List
 (Int×Int×Int×Int×Int×Int×Int×Bool×(Int×Int×(Int×Int×Int×Int×Int×Int×Int×Int×Bool×List T25D×T25D×Unit)×(Int×Int×(Int×List UInt8×List UInt8×List UInt8×Int×Int×Int×List
 T96D×List
 T48D×List
 T48D×Int×Int×Int×Bool×List
 T70D×List
 (Int×Int×(Int×Int×Bool×Int×List
 (List
 UInt8×(Int×Int×Int×Int×List
 UInt8×Int×Bool×Unit)×Unit)×Y22D)×Unit)×List T113D×Unit)×Unit)×Int×List UInt8×List UInt8×Int×Int×Int×Int×(Int×Int×Bool×Int×List
 T70D×Y22D)×List
 (Int×List
 T70D×Unit)×List
 T70D×Bool×(Int×Int×List
 (Int×Int×(Int×Int×Bool×Int×List
 (List UInt8×(Int×Int×Int×Int×List
 UInt8×Int×Bool×Unit)×Unit)×Y22D)×Unit)×List T113D×Unit)×T53D×Unit)×Unit)×List
 (Int×Int×Int×Int×Int×Int×Int×Bool×(Int×Int×(Int×Int×Int×Int×Int×Int×Int×Int×Bool×List T25D×T25D×Unit)×(Int×Int×(Int×List UInt8×List UInt8×List UInt8×Int×Int×Int×List
 T96D×List
 T48D×List
 T48D×Int×Int×Int×Bool×List
 T70D×List
 (Int×Int×(Int×Int×Bool×Int×List
 (List
 UInt8×(Int×Int×Int×Int×List
 UInt8×Int×Bool×Unit)×Unit)×Y22D)×Unit)×List
 T113D×Unit)×Unit)×Int×List UInt8×List UInt8×Int×Int×Int×Int×(Int×Int×Bool×Int×List
 T70D×Y22D)×List
 (Int×List
 T70D×Unit)×List
 T70D×Bool×(Int×Int×List
 (Int×Int×(Int×Int×Bool×Int×List
 (List UInt8×(Int×Int×Int×Int×List
 UInt8×Int×Bool×Unit)×Unit)×Y22D)×Unit)×List T113D×Unit)×T53D×Unit)×Unit)×Unit)=>
 some
 ((true,x.1,0,x_1.1,x_1.2.1,
 (0,0,(0,0,0,0,0,0,0,0,false,[],(0,0,[],()),()),
 (0,0,(0,[],[],[],0,0,0,[],[],[],0,0,0,false,[],[],[],()),
 ()),
 0,[],[],0,0,0,0,(0,0,false,0,[],0,0,()),[],[],false,
 (0,0,[],[],()),(0,0,0,[],[],0,[],0,0,0,()),()),
 false,(0,0,0,[],[],0,[],0,0,0,()),0,[],[],false,false,[],false,
 ()),
 0,()))
 some o
def S7:Sig:=⟨P7,R7,F7⟩
noncomputable def E7:Env:={ tab:=tab.opt { flats:=[(93,L93)],owns:=[87],frzs:=[89,90,91] },nt:=49,Γ:=lookG [(20,[S20]),(21,[S21])],joins:=lookN [(12,⟨[⟨.fld 3003000 2,(.ptr Y123),.own false⟩,⟨.fld 3003000 3,(.ptr Y123),.own false⟩],[6],[.site 3003000,.fld 3003000 0,.fld 3003000 1,.fld 3003000 4,.fld 3003000 5,.fld 3003000 6,.fld 3003000 7,.fld 3003000 8,.fld 3003000 9,.fld 3003000 10,.fld 3003000 11,.fld 3003000 12,.fld 3003000 13]⟩)],loops:=lookN [],unr:=lookN [(5,3)] }
theorem raw7_eq (x:Y24D×Int×Unit):afun E7 Tryz.f7 P7 R7 x=F7 x:=by kernel_rfl
def F22 (x:Y123D×Unit):Option (Bool×Y123D×Unit):=
 some (x.1.2.2.2.2.2.2.2.1,x)
def S22:Sig:=⟨P22,R22,F22⟩
noncomputable def E22:Env:={ tab:=tab.opt { flats:=[(93,L93)],owns:=[87],frzs:=[89,90,91] },nt:=11,Γ:=lookG [],joins:=lookN [],loops:=lookN [] }
theorem raw22_eq (x:Y123D×Unit):afun E22 Tryz.f22 P22 R22 x=F22 x:=by kernel_rfl
def F110 (x:List T25D×Unit):Option (List T25D×Unit):=
 bif List.isEmpty x.1 then
 bothE (List T25D×Unit) (some ([],()))
 (Option.bind (appO [] x.1) fun b=>some (b,()))
 else Option.bind (appO [] x.1) fun b=>some (b,())
def S110:Sig:=⟨P110,R110,F110⟩
noncomputable def E110:Env:={ tab:=tab.opt { flats:=[(93,L93)],owns:=[87],frzs:=[89,90,91] },nt:=8,Γ:=lookG [],joins:=lookN [],loops:=lookN [] }
theorem raw110_eq (x:List T25D×Unit):afun E110 Tryz.f110 P110 R110 x=F110 x:=by kernel_rfl
def F111 (x:List UInt8×Unit):Option (List UInt8×Unit):=
 bif List.isEmpty x.1 then
 bothE (List UInt8×Unit) (some ([],()))
 (Option.bind (appU [] x.1) fun b=>some (b,()))
 else Option.bind (appU [] x.1) fun b=>some (b,())
def S111:Sig:=⟨P111,R111,F111⟩
noncomputable def E111:Env:={ tab:=tab.opt { flats:=[(93,L93)],owns:=[87],frzs:=[89,90,91] },nt:=8,Γ:=lookG [],joins:=lookN [],loops:=lookN [] }
theorem raw111_eq (x:List UInt8×Unit):afun E111 Tryz.f111 P111 R111 x=F111 x:=by kernel_rfl
def F70 (x:T27D×Unit):Option (T27D×Unit):=
 Option.bind (F110 (x.1.2.2.2.2.2.2.2.2.2.1,()))
 fun b=>
 iterE (Int×List T25D×Unit)
 ((Int×Int×Int×Int×Int×Int×Int×Int×Bool×List T25D×T25D×Unit)×Unit)
 (fun (x_1:Int×List T25D×Unit)=>
 bif decide (x_1.1 < Int.ofNat (List.length b.1)) then
 Option.bind (idxN x_1.2.1 x_1.1) fun b=>
 Option.bind x_1.2.1[b]? fun (b:T25D)=>
 Option.bind (F111 b.2.2) fun b=>
 Option.bind (idxN x_1.2.1 x_1.1) fun b_1=>
 Option.bind x_1.2.1[b_1]? fun (b_2:T25D)=>
 some
 (Sum.inl
 (wrap64 (x_1.1+1),
 List.set x_1.2.1 b_1 (b_2.1,b_2.2.1,b.1,b_2.2.2.2),()))
 else
 Option.map Sum.inr
 (Option.bind (F111 x.1.2.2.2.2.2.2.2.2.2.2.1.2.2)
 fun b=>
 some
 ((x.1.1,x.1.2.1,x.1.2.2.1,x.1.2.2.2.1,x.1.2.2.2.2.1,
 x.1.2.2.2.2.2.1,x.1.2.2.2.2.2.2.1,
 x.1.2.2.2.2.2.2.2.1,x.1.2.2.2.2.2.2.2.2.1,x_1.2.1,
 (x.1.2.2.2.2.2.2.2.2.2.2.1.1,
 x.1.2.2.2.2.2.2.2.2.2.2.1.2.1,b.1,
 x.1.2.2.2.2.2.2.2.2.2.2.1.2.2.2),
 ()),
 ())))
 big (0,b)
def S70:Sig:=⟨P70,R70,F70⟩
noncomputable def E70:Env:={ tab:=tab.opt { flats:=[(93,L93)],owns:=[87],frzs:=[89,90,91] },nt:=34,Γ:=lookG [(110,[S110]),(111,[S111])],joins:=lookN [],loops:=lookN [(3,mkLoop ⟨[⟨.slot 11,(.int .i64),.pv⟩,⟨.fld 1000 9,(.slice T25),.own false⟩],[1,2,10],[.site 2000,.fld 2000 0,.fld 2000 1,.fld 2000 2,.fld 2000 3,.fld 2000 4,.fld 2000 5,.fld 2000 6,.fld 2000 7,.fld 2000 8,.fld 2000 9,.fld 2000 10,.site 1000,.fld 1000 0,.fld 1000 1,.fld 1000 2,.fld 1000 3,.fld 1000 4,.fld 1000 5,.fld 1000 6,.fld 1000 7,.fld 1000 8,.fld 1000 10]⟩)] }
theorem raw70_eq (x:T27D×Unit):afun E70 Tryz.f70 P70 R70 x=F70 x:=by kernel_rfl
def F73 (x:List T70D×Unit):Option (List T70D×Unit):=
 bif List.isEmpty x.1 then
 bothE (List T70D×Unit)
 (some ([],()))
 (Option.bind (appO [] x.1)
 fun b=>
 some (b,()))
 else
 Option.bind (appO [] x.1)
 fun b=>
 some (b,())
def S73:Sig:=⟨P73,R73,F73⟩
noncomputable def E73:Env:={ tab:=tab.opt { flats:=[(93,L93)],owns:=[87],frzs:=[89,90,91] },nt:=8,Γ:=lookG [],joins:=lookN [],loops:=lookN [] }
theorem raw73_eq (x:List T70D×Unit):afun E73 Tryz.f73 P73 R73 x=F73 x:=by kernel_rfl
def F72 (x:T51D×Unit):Option (T51D×Unit):=
 Option.bind (F73 (x.1.2.2.2.2.1,()))
 fun b=>
 some
 ((x.1.1,x.1.2.1,x.1.2.2.1,x.1.2.2.2.1,b.1,x.1.2.2.2.2.2),
 ())
def S72:Sig:=⟨P72,R72,F72⟩
noncomputable def E72:Env:={ tab:=tab.opt { flats:=[(93,L93)],owns:=[87],frzs:=[89,90,91] },nt:=8,Γ:=lookG [(73,[S73])],joins:=lookN [],loops:=lookN [] }
theorem raw72_eq (x:T51D×Unit):afun E72 Tryz.f72 P72 R72 x=F72 x:=by kernel_rfl
def F114 (x:List T94D×Unit):Option (List T94D×Unit):=
 bif List.isEmpty x.1 then
 bothE
 (List
 (Int×Int×(Int×Int×Bool×Int×List T70D×Y22D)×Unit)×Unit)
 (some ([],()))
 (Option.bind (appM [] x.1)
 fun b=>
 some (b,()))
 else
 Option.bind (appM [] x.1)
 fun b=>
 some (b,())
def S114:Sig:=⟨P114,R114,F114⟩
noncomputable def E114:Env:={ tab:=tab.opt { flats:=[(93,L93)],owns:=[87],frzs:=[89,90,91] },nt:=8,Γ:=lookG [],joins:=lookN [],loops:=lookN [] }
theorem raw114_eq (x:List T94D×Unit):afun E114 Tryz.f114 P114 R114 x=F114 x:=by kernel_rfl
def F75 (x:List T94D×Unit):Option (List T94D×Unit):=
 Option.bind (F114 x)
 fun b=>
 iterE
 (List
 (Int×Int×(Int×Int×Bool×Int×List T70D×Y22D)×Unit)×Int×Unit)
 (List
 (Int×Int×(Int×Int×Bool×Int×List T70D×Y22D)×Unit)×Unit)
 (fun (x :
 List
 (Int×Int×(Int×Int×Bool×Int×List T70D×Y22D)×Unit)×Int×Unit)=>
 bif decide (x.2.1 < Int.ofNat (List.length b.1)) then
 Option.bind (idxN x.1 x.2.1) fun b=>
 Option.bind x.1[b]?
 fun (b :
 Int×Int×(Int×Int×Bool×Int×List T70D×Y22D)×Unit)=>
 Option.bind (F72 b.2.2)
 fun b=>
 Option.bind (idxN x.1 x.2.1) fun b_1=>
 Option.bind x.1[b_1]?
 fun (b_2 :
 Int×Int×(Int×Int×Bool×Int×List
 T70D×Y22D)×Unit)=>
 some
 (Sum.inl
 (List.set x.1 b_1 (b_2.1,b_2.2.1,b.1,b_2.2.2.2),
 wrap64 (x.2.1+1),()))
 else some (Sum.inr (x.1,())))
 big (b.1,0,())
def S75:Sig:=⟨P75,R75,F75⟩
noncomputable def E75:Env:={ tab:=tab.opt { flats:=[(93,L93)],owns:=[87],frzs:=[89,90,91] },nt:=24,Γ:=lookG [(72,[S72]),(114,[S114])],joins:=lookN [],loops:=lookN [(3,mkLoop ⟨[⟨.slot 3,(.slice T94),.own false⟩,⟨.slot 9,(.int .i64),.pv⟩],[8],[]⟩)] }
theorem raw75_eq (x:List T94D×Unit):afun E75 Tryz.f75 P75 R75 x=F75 x:=by kernel_rfl
def F76 (x:List T113D×Unit):Option (List T113D×Unit):=
 bif List.isEmpty x.1 then
 bothE (List T113D×Unit) (some ([],()))
 (Option.bind (appO [] x.1) fun b=>some (b,()))
 else Option.bind (appO [] x.1) fun b=>some (b,())
def S76:Sig:=⟨P76,R76,F76⟩
noncomputable def E76:Env:={ tab:=tab.opt { flats:=[(93,L93)],owns:=[87],frzs:=[89,90,91] },nt:=8,Γ:=lookG [],joins:=lookN [],loops:=lookN [] }
theorem raw76_eq (x:List T113D×Unit):afun E76 Tryz.f76 P76 R76 x=F76 x:=by kernel_rfl
def F112 (x:List T96D×Unit):Option (List T96D×Unit):=
 bif List.isEmpty x.1 then
 bothE (List T96D×Unit) (some ([],()))
 (Option.bind (appO [] x.1) fun b=>
 some (b,()))
 else
 Option.bind (appO [] x.1) fun b=>
 some (b,())
def S112:Sig:=⟨P112,R112,F112⟩
noncomputable def E112:Env:={ tab:=tab.opt { flats:=[(93,L93)],owns:=[87],frzs:=[89,90,91] },nt:=8,Γ:=lookG [],joins:=lookN [],loops:=lookN [] }
theorem raw112_eq (x:List T96D×Unit):afun E112 Tryz.f112 P112 R112 x=F112 x:=by kernel_rfl
def F113 (x:List T48D×Unit):Option (List T48D×Unit):=
 bif List.isEmpty x.1 then
 bothE (List T48D×Unit) (some ([],()))
 (Option.bind (appO [] x.1) fun b=>
 some (b,()))
 else
 Option.bind (appO [] x.1) fun b=>
 some (b,())
def S113:Sig:=⟨P113,R113,F113⟩
noncomputable def E113:Env:={ tab:=tab.opt { flats:=[(93,L93)],owns:=[87],frzs:=[89,90,91] },nt:=8,Γ:=lookG [],joins:=lookN [],loops:=lookN [] }
theorem raw113_eq (x:List T48D×Unit):afun E113 Tryz.f113 P113 R113 x=F113 x:=by kernel_rfl
def F71 (x:T28D×Unit):Option (T28D×Unit):=
 Option.bind (F112 (x.1.2.2.2.2.2.2.2.1,()))
 fun b=>
 Option.bind (F113 (x.1.2.2.2.2.2.2.2.2.1,()))
 fun b_1=>
 Option.bind (F113 (x.1.2.2.2.2.2.2.2.2.2.1,()))
 fun b_2=>
 Option.bind (F73 (x.1.2.2.2.2.2.2.2.2.2.2.2.2.2.2.1,()))
 fun b_3=>
 Option.bind (F75 (x.1.2.2.2.2.2.2.2.2.2.2.2.2.2.2.2.1,()))
 fun b_4=>
 Option.bind (F76 x.1.2.2.2.2.2.2.2.2.2.2.2.2.2.2.2.2)
 fun b_5=>
 some
 ((x.1.1,x.1.2.1,x.1.2.2.1,x.1.2.2.2.1,x.1.2.2.2.2.1,
 x.1.2.2.2.2.2.1,x.1.2.2.2.2.2.2.1,b.1,b_1.1,b_2.1,
 x.1.2.2.2.2.2.2.2.2.2.2.1,
 x.1.2.2.2.2.2.2.2.2.2.2.2.1,
 x.1.2.2.2.2.2.2.2.2.2.2.2.2.1,
 x.1.2.2.2.2.2.2.2.2.2.2.2.2.2.1,b_3.1,b_4.1,b_5),
 ())
def S71:Sig:=⟨P71,R71,F71⟩
noncomputable def E71:Env:={ tab:=tab.opt { flats:=[(93,L93)],owns:=[87],frzs:=[89,90,91] },nt:=28,Γ:=lookG [(73,[S73]),(75,[S75]),(76,[S76]),(112,[S112]),(113,[S113])],joins:=lookN [],loops:=lookN [] }
theorem raw71_eq (x:T28D×Unit):afun E71 Tryz.f71 P71 R71 x=F71 x:=by kernel_rfl
def F74 (x:List TBD×Unit):Option (List TBD×Unit):=
 bif List.isEmpty x.1 then
 bothE
 (List (Int×List T70D×Unit)×Unit)
 (some ([],()))
 (Option.bind (appO [] x.1)
 fun b=>
 some (b,()))
 else
 Option.bind (appO [] x.1)
 fun b=>
 some (b,())
def S74:Sig:=⟨P74,R74,F74⟩
noncomputable def E74:Env:={ tab:=tab.opt { flats:=[(93,L93)],owns:=[87],frzs:=[89,90,91] },nt:=8,Γ:=lookG [],joins:=lookN [],loops:=lookN [] }
theorem raw74_eq (x:List TBD×Unit):afun E74 Tryz.f74 P74 R74 x=F74 x:=by kernel_rfl
def F49 (x:TMD×Unit):Option (TMD×Unit):=
 Option.bind (F70 (x.1.2.2.1,()))
 fun b=>
 Option.bind (F71 x.1.2.2.2.1.2.2)
 fun b_1=>
 Option.bind (F72 (x.1.2.2.2.2.2.2.2.2.2.2.2.1,()))
 fun b_2=>
 Option.bind (F73 (x.1.2.2.2.2.2.2.2.2.2.2.2.2.2.1,()))
 fun b_3=>
 Option.bind (F74 (x.1.2.2.2.2.2.2.2.2.2.2.2.2.1,()))
 fun b_4=>
 iterE
 (Int×List
 (Int×List T70D×Unit)×Unit)
 ((Int×Int×(Int×Int×Int×Int×Int×Int×Int×Int×Bool×List T25D×T25D×Unit)×(Int×Int×(Int×List UInt8×List UInt8×List UInt8×Int×Int×Int×List T96D×List T48D×List T48D×Int×Int×Int×Bool×List
 T70D×List
 (Int×Int×(Int×Int×Bool×Int×List
 T70D×Y22D)×Unit)×List T113D×Unit)×Unit)×Int×List UInt8×List UInt8×Int×Int×Int×Int×(Int×Int×Bool×Int×List
 T70D×Y22D)×List
 (Int×List
 T70D×Unit)×List
 T70D×Bool×(Int×Int×List
 (Int×Int×(Int×Int×Bool×Int×List
 T70D×Y22D)×Unit)×List T113D×Unit)×T53D×Unit)×Unit)
 (fun (x_1 :
 Int×List
 (Int×List T70D×Unit)×Unit)=>
 bif decide (x_1.1 < Int.ofNat (List.length b_4.1)) then
 Option.bind (idxN x_1.2.1 x_1.1) fun b=>
 Option.bind x_1.2.1[b]?
 fun (b :
 Int×List T70D×Unit)=>
 Option.bind (F73 b.2)
 fun b=>
 Option.bind (idxN x_1.2.1 x_1.1) fun b_5=>
 Option.bind x_1.2.1[b_5]?
 fun (b_6 :
 Int×List
 T70D×Unit)=>
 some
 (Sum.inl
 (wrap64 (x_1.1+1),
 List.set x_1.2.1 b_5 (b_6.1,b.1,b_6.2.2),()))
 else
 Option.map Sum.inr
 (Option.bind
 (F75
 (x.1.2.2.2.2.2.2.2.2.2.2.2.2.2.2.2.1.2.2.1,()))
 fun b_5=>
 Option.bind
 (F76 x.1.2.2.2.2.2.2.2.2.2.2.2.2.2.2.2.1.2.2.2)
 fun b_6=>
 some
 ((x.1.1,x.1.2.1,b.1,
 (x.1.2.2.2.1.1,x.1.2.2.2.1.2.1,b_1.1,
 x.1.2.2.2.1.2.2.2),
 x.1.2.2.2.2.1,x.1.2.2.2.2.2.1,
 x.1.2.2.2.2.2.2.1,x.1.2.2.2.2.2.2.2.1,
 x.1.2.2.2.2.2.2.2.2.1,x.1.2.2.2.2.2.2.2.2.2.1,
 x.1.2.2.2.2.2.2.2.2.2.2.1,b_2.1,x_1.2.1,b_3.1,
 x.1.2.2.2.2.2.2.2.2.2.2.2.2.2.2.1,
 (x.1.2.2.2.2.2.2.2.2.2.2.2.2.2.2.2.1.1,
 x.1.2.2.2.2.2.2.2.2.2.2.2.2.2.2.2.1.2.1,b_5.1,
 b_6.1,
 x.1.2.2.2.2.2.2.2.2.2.2.2.2.2.2.2.1.2.2.2.2),
 x.1.2.2.2.2.2.2.2.2.2.2.2.2.2.2.2.2),
 ())))
 big (0,b_4)
def S49:Sig:=⟨P49,R49,F49⟩
noncomputable def E49:Env:={ tab:=tab.opt { flats:=[(93,L93)],owns:=[87],frzs:=[89,90,91] },nt:=58,Γ:=lookG [(70,[S70]),(71,[S71]),(72,[S72]),(73,[S73]),(74,[S74]),(75,[S75]),(76,[S76])],joins:=lookN [],loops:=lookN [(4,mkLoop ⟨[⟨.slot 29,(.int .i64),.pv⟩,⟨.fld 1000 12,(.slice TB),.own false⟩],[1,2,28],[.site 2000,.fld 2000 0,.fld 2000 1,.fld 2000 2,.fld 2000 3,.fld 2000 4,.fld 2000 5,.fld 2000 6,.fld 2000 7,.fld 2000 8,.fld 2000 9,.fld 2000 10,.fld 2000 11,.fld 2000 12,.fld 2000 13,.fld 2000 14,.fld 2000 15,.fld 2000 16,.site 1000,.fld 1000 0,.fld 1000 1,.fld 1000 2,.fld 1000 3,.fld 1000 4,.fld 1000 5,.fld 1000 6,.fld 1000 7,.fld 1000 8,.fld 1000 9,.fld 1000 10,.fld 1000 11,.fld 1000 13,.fld 1000 14,.fld 1000 15,.fld 1000 16,.row 2003001]⟩)] }
theorem raw49_eq (x:TMD×Unit):afun E49 Tryz.f49 P49 R49 x=F49 x:=by kernel_rfl
def F42 (x:Y123D×Unit):Option (Y70D×Y123D×Unit):=
 Option.bind (F49 x.1.2.2.2.2.2.2.2.2)
 fun b=>
 some
 ((x.1.1,
 wrap64 (wrap64 (4*x.1.2.1)+x.1.2.2.2.2.2.1),b),
 x)
def S42:Sig:=⟨P42,R42,F42⟩
noncomputable def E42:Env:={ tab:=tab.opt { flats:=[(93,L93)],owns:=[87],frzs:=[89,90,91] },nt:=23,Γ:=lookG [(49,[S49])],joins:=lookN [],loops:=lookN [] }
theorem raw42_eq (x:Y123D×Unit):afun E42 Tryz.f42 P42 R42 x=F42 x:=by kernel_rfl
def F23 (x:Y123D×Unit):Option (Y70D×Bool×Y123D×Unit):=
 bif !x.1.2.2.2.2.2.2.2.1 then
 some
 ((0,0,
 (0,0,(0,0,0,0,0,0,0,0,false,[],(0,0,[],()),()),
 (0,0,(0,[],[],[],0,0,0,[],[],[],0,0,0,false,[],[],[],()),()),0,[],[],
 0,0,0,0,(0,0,false,0,[],0,0,()),[],[],false,(0,0,[],[],()),
 (0,0,0,[],[],0,[],0,0,0,()),()),
 ()),
 false,x)
 else
 bif decide (wrap64 (x.1.2.2.2.2.2.2.1+1) < x.1.2.2.2.1) then
 some
 ((0,0,
 (0,0,(0,0,0,0,0,0,0,0,false,[],(0,0,[],()),()),
 (0,0,(0,[],[],[],0,0,0,[],[],[],0,0,0,false,[],[],[],()),()),0,[],
 [],0,0,0,0,(0,0,false,0,[],0,0,()),[],[],false,(0,0,[],[],()),
 (0,0,0,[],[],0,[],0,0,0,()),()),
 ()),
 false,
 (x.1.1,x.1.2.1,x.1.2.2.1,x.1.2.2.2.1,x.1.2.2.2.2.1,
 x.1.2.2.2.2.2.1,wrap64 (x.1.2.2.2.2.2.2.1+1),
 x.1.2.2.2.2.2.2.2),
 ())
 else
 bif decide (wrap64 (x.1.2.2.2.2.2.2.1+1)=x.1.2.2.2.1) then
 Option.bind (remO (wrap64 (x.1.2.2.2.2.2.1+1)) x.1.2.2.1)
 fun b=>
 Option.bind
 (F42
 ((x.1.1,x.1.2.1,x.1.2.2.1,x.1.2.2.2.1,x.1.2.2.2.2.1,b,0,
 x.1.2.2.2.2.2.2.2),
 ()))
 fun b=>
 some (b.1,true,b.2)
 else
 Option.bind
 (F42
 ((x.1.1,x.1.2.1,x.1.2.2.1,x.1.2.2.2.1,x.1.2.2.2.2.1,
 x.1.2.2.2.2.2.1,0,x.1.2.2.2.2.2.2.2),
 ()))
 fun b=>
 some (b.1,true,b.2)
def S23:Sig:=⟨P23,R23,F23⟩
noncomputable def E23:Env:={ tab:=tab.opt { flats:=[(93,L93)],owns:=[87],frzs:=[89,90,91] },nt:=58,Γ:=lookG [(42,[S42])],joins:=lookN [],loops:=lookN [] }
theorem raw23_eq (x:Y123D×Unit):afun E23 Tryz.f23 P23 R23 x=F23 x:=by kernel_rfl
def F61 (x:T28D×Unit):Option (TMD×Unit):=
 some
 ((2,0,(0,0,0,0,0,0,0,0,false,[],(0,0,[],()),()),(0,0,x),0,[],[],0,0,0,0,
 (0,0,false,0,[],0,0,()),[],[],false,(0,0,[],[],()),
 (0,0,0,[],[],0,[],0,0,0,()),()),
 ())
def S61:Sig:=⟨P61,R61,F61⟩
noncomputable def E61:Env:={ tab:=tab.opt { flats:=[(93,L93)],owns:=[87],frzs:=[89,90,91] },nt:=6,Γ:=lookG [],joins:=lookN [],loops:=lookN [] }
theorem raw61_eq (x:T28D×Unit):afun E61 Tryz.f61 P61 R61 x=F61 x:=by kernel_rfl
def F43 (x:L93D×Unit):Option (TMD×Int×L93D×Unit):=
 bif !decide (x.1.2.2.2.2.2.2.1.1=4) then
 Option.bind
 (F61 ((16,[],[],[],0,0,0,[],[],[],x.1.1.1,0,0,false,[],[],[],()),()))
 fun b=>
 some (b.1,1,x)
 else
 bif !decide (x.1.2.2.2.2.2.2.1.2.1=x.1.1.1) then
 Option.bind
 (F61 ((16,[],[],[],0,0,0,[],[],[],x.1.1.1,0,0,false,[],[],[],()),()))
 fun b=>
 some (b.1,1,x)
 else
 bif !x.1.2.2.2.2.2.2.2.2.2.2.2.2.2.1 then
 Option.bind
 (F61 ((11,[],[],[],0,0,0,[],[],[],x.1.1.1,0,0,false,[],[],[],()),()))
 fun b=>
 some (b.1,0,x)
 else
 some
 ((0,0,(0,0,0,0,0,0,0,0,false,[],(0,0,[],()),()),
 (0,0,(0,[],[],[],0,0,0,[],[],[],0,0,0,false,[],[],[],()),()),0,[],
 [],0,0,0,0,(0,0,false,0,[],0,0,()),[],[],false,(0,0,[],[],()),
 (0,0,0,[],[],0,[],0,0,0,()),()),
 0,x)
def S43:Sig:=⟨P43,R43,F43⟩
noncomputable def E43:Env:={ tab:=tab.opt { flats:=[(93,L93)],owns:=[87],frzs:=[89,90,91] },nt:=45,Γ:=lookG [(61,[S61])],joins:=lookN [],loops:=lookN [] }
theorem raw43_eq (x:L93D×Unit):afun E43 Tryz.f43 P43 R43 x=F43 x:=by kernel_rfl
def F44 (x:L93D×Unit):Option (TMD×Int×L93D×Unit):=
 bif decide (x.1.2.2.2.2.2.2.2.1=0) then
 some
 ((7,0,(0,0,0,0,0,0,0,0,false,[],(0,0,[],()),()),
 (0,0,(0,[],[],[],0,0,0,[],[],[],0,0,0,false,[],[],[],()),()),0,[],[],
 0,0,0,0,(0,0,false,0,[],0,0,()),[],[],false,(0,0,[],[],()),
 (0,0,0,[],[],0,[],0,0,0,()),()),
 0,x)
 else
 Option.bind
 (bif decide (x.1.2.2.2.2.2.2.1.2.1=x.1.1.1) then
 some (Sum.inl (wrap64 (x.1.2.2.2.2.2.2.1.2.2.1+1),()))
 else some (Sum.inl (1,())))
 fun o=>
 Sum.elim
 (fun (x_1:Int×Unit)=>
 Option.bind
 (F61
 ((12,x.1.1.2.1,x.1.1.2.2.1,[],0,0,x.1.2.2.2.2.2.2.2.1,[],[],
 [],x.1.1.1,x_1.1,0,false,[],[],[],()),
 ()))
 fun b=>
 some (b.1,1,x))
 some o
def S44:Sig:=⟨P44,R44,F44⟩
noncomputable def E44:Env:={ tab:=tab.opt { flats:=[(93,L93)],owns:=[87],frzs:=[89,90,91] },nt:=50,Γ:=lookG [(61,[S61])],joins:=lookN [(6,⟨[⟨.slot 4,(.int .i64),.pv⟩],[0,2],[.site 0,.fld 0 0,.fld 0 1,.fld 0 2,.fld 0 3,.fld 0 4,.fld 0 5,.fld 0 6,.fld 0 7,.fld 0 8,.fld 0 9,.fld 0 10,.fld 0 11,.fld 0 12,.fld 0 13,.row 3,.row 2,.site 1000,.fld 1000 0,.fld 1000 1,.fld 1000 2,.fld 1000 3,.fld 1000 4,.fld 1000 5,.fld 1000 6,.fld 1000 7,.fld 1000 8,.fld 1000 9,.fld 1000 10,.fld 1000 11,.fld 1000 12,.fld 1000 13,.fld 1000 14,.fld 1000 15,.fld 1000 16]⟩)],loops:=lookN [] }
theorem raw44_eq (x:L93D×Unit):afun E44 Tryz.f44 P44 R44 x=F44 x:=by kernel_rfl
def F62 (x:L93D×Int×Unit):Option (T28D×L93D×Unit):=
 some
 ((x.2.1,[],[],[],0,0,0,[],[],[],x.1.2.2.2.2.2.2.1.2.1,
 x.1.2.2.2.2.2.2.1.2.2.1,0,false,[],[],[],()),
 x.1,())
def S62:Sig:=⟨P62,R62,F62⟩
noncomputable def E62:Env:={ tab:=tab.opt { flats:=[(93,L93)],owns:=[87],frzs:=[89,90,91] },nt:=17,Γ:=lookG [],joins:=lookN [],loops:=lookN [] }
theorem raw62_eq (x:L93D×Int×Unit):afun E62 Tryz.f62 P62 R62 x=F62 x:=by kernel_rfl
def F45 (x:L93D×Unit):Option (TMD×Int×L93D×Unit):=
 bif List.isEmpty x.1.2.2.2.2.2.2.2.2.1 then
 some
 ((5,0,(0,0,0,0,0,0,0,0,false,[],(0,0,[],()),()),
 (0,0,(0,[],[],[],0,0,0,[],[],[],0,0,0,false,[],[],[],()),()),0,
 x.1.1.2.1,x.1.2.2.2.2.2.2.1.2.2.2.2.2.2.1,
 x.1.2.2.2.2.2.2.1.2.2.2.2.2.1,0,0,0,(0,0,false,0,[],0,0,()),
 [],[],false,(0,0,[],[],()),(0,0,0,[],[],0,[],0,0,0,()),()),
 0,x)
 else
 Option.bind (F62 (x.1,13,()))
 fun b=>
 Option.bind (List.head? b.2.1.2.2.2.2.2.2.2.2.1)
 fun b_1=>
 Option.bind (List.head? b.2.1.2.2.2.2.2.2.2.2.1)
 fun b_2=>
 Option.bind (List.head? b.2.1.2.2.2.2.2.2.2.2.1)
 fun b_3=>
 bif decide (0 < Int.ofNat (List.length b_3.1)) then
 Option.bind (List.head? b.2.1.2.2.2.2.2.2.2.2.1)
 fun b_4=>
 Option.bind (idx b_4.1 (wrap64 (Int.ofNat (List.length b_3.1) - 1)))
 fun b_5=>
 Option.bind
 (F61
 ((b.1.1,b.2.1.2.2.2.2.2.2.1.2.2.2.2.2.2.1,b_5.1,
 b.1.2.2.2.1,b.1.2.2.2.2.1,b.1.2.2.2.2.2.1,
 b.1.2.2.2.2.2.2.1,b.1.2.2.2.2.2.2.2.1,
 b.1.2.2.2.2.2.2.2.2.1,b.1.2.2.2.2.2.2.2.2.2.1,
 b.1.2.2.2.2.2.2.2.2.2.2.1,
 b.1.2.2.2.2.2.2.2.2.2.2.2.1,
 b.1.2.2.2.2.2.2.2.2.2.2.2.2.1,b_1.2.1,b_2.1,
 b.1.2.2.2.2.2.2.2.2.2.2.2.2.2.2.2),
 ()))
 fun b_6=>
 some (b_6.1,1,b.2)
 else
 Option.bind
 (F61
 ((b.1.1,b.2.1.2.2.2.2.2.2.1.2.2.2.2.2.2.1,
 b.2.1.2.2.2.2.2.2.1.2.2.2.2.2.2.1,b.1.2.2.2.1,
 b.1.2.2.2.2.1,b.1.2.2.2.2.2.1,b.1.2.2.2.2.2.2.1,
 b.1.2.2.2.2.2.2.2.1,b.1.2.2.2.2.2.2.2.2.1,
 b.1.2.2.2.2.2.2.2.2.2.1,b.1.2.2.2.2.2.2.2.2.2.2.1,
 b.1.2.2.2.2.2.2.2.2.2.2.2.1,
 b.1.2.2.2.2.2.2.2.2.2.2.2.2.1,b_1.2.1,b_2.1,
 b.1.2.2.2.2.2.2.2.2.2.2.2.2.2.2.2),
 ()))
 fun b_4=>
 some (b_4.1,1,b.2)
def S45:Sig:=⟨P45,R45,F45⟩
noncomputable def E45:Env:={ tab:=tab.opt { flats:=[(93,L93)],owns:=[87],frzs:=[89,90,91] },nt:=82,Γ:=lookG [(61,[S61]),(62,[S62])],joins:=lookN [],loops:=lookN [] }
theorem raw45_eq (x:L93D×Unit):afun E45 Tryz.f45 P45 R45 x=F45 x:=by kernel_rfl
def F63 (x:List UInt8×Unit):Option (List UInt8×Unit):=
 Option.bind (F40 x) fun b=>
 bif !b.1 then some ([],())
 else
 Option.bind (idxN x.1 (wrap64 (Int.ofNat (List.length x.1) - 1))) fun b=>
 Option.bind x.1[b]? fun (b:UInt8)=>
 Option.bind (idxN x.1 (wrap64 (Int.ofNat (List.length x.1) - 1))) fun b_1=>
 Option.bind x.1[b_1]? fun (_z:UInt8)=>
 some
 (List.set x.1 b_1 (Sx.byteOf (IntKind.wrap IntKind.u8 (intOf8 b+intOf8 (UInt8.ofNat 1)))),
 ())
def S63:Sig:=⟨P63,R63,F63⟩
noncomputable def E63:Env:={ tab:=tab.opt { flats:=[(93,L93)],owns:=[87],frzs:=[89,90,91] },nt:=19,Γ:=lookG [(40,[S40])],joins:=lookN [],loops:=lookN [] }
theorem raw63_eq (x:List UInt8×Unit):afun E63 Tryz.f63 P63 R63 x=F63 x:=by kernel_rfl
def F46 (x:L93D×Unit):Option (TMD×Int×L93D×Unit):=
 Option.bind
 (bif !List.isEmpty x.1.2.2.2.2.2.2.2.2.2.1 then
 Option.bind (F62 (x.1,14,()))
 fun b=>
 Option.bind (List.head? b.2.1.2.2.2.2.2.2.2.2.2.1)
 fun b_1=>
 Option.bind (List.head? b.2.1.2.2.2.2.2.2.2.2.2.1)
 fun b_2=>
 Option.bind
 (F61
 ((b.1.1,b.1.2.1,b.1.2.2.1,b.1.2.2.2.1,b.1.2.2.2.2.1,
 b.1.2.2.2.2.2.1,
 b.2.1.2.2.2.2.2.2.1.2.2.2.2.2.2.2.1,
 b.1.2.2.2.2.2.2.2.1,b.1.2.2.2.2.2.2.2.2.1,
 b.1.2.2.2.2.2.2.2.2.2.1,b.1.2.2.2.2.2.2.2.2.2.2.1,
 b.1.2.2.2.2.2.2.2.2.2.2.2.1,b_1.2.1,
 b.1.2.2.2.2.2.2.2.2.2.2.2.2.2.1,b_2.1,
 b.1.2.2.2.2.2.2.2.2.2.2.2.2.2.2.2),
 ()))
 fun b_3=>
 some (Sum.inr (b_3.1,1,b.2))
 else
 bif decide (x.1.2.1=1) then
 bif !x.1.2.2.2.2.2.2.2.2.2.2.2.1 then
 Option.bind
 (F61
 ((10,x.1.1.2.1,[],[],0,0,0,[],[],[],x.1.1.1,0,0,false,[],[],[],()),
 ()))
 fun b=>
 some (Sum.inr (b.1,0,x))
 else
 bif decide (x.1.2.1=1) then
 bif List.isEmpty x.1.2.2.2.2.2.2.2.2.2.2.2.2.1 then
 some
 (Sum.inr
 ((6,0,(0,0,0,0,0,0,0,0,false,[],(0,0,[],()),()),
 (0,0,(0,[],[],[],0,0,0,[],[],[],0,0,0,false,[],[],[],()),()),
 0,[],[],x.1.1.1,0,0,0,(0,0,false,0,[],0,0,()),[],[],false,
 (0,0,[],[],()),(0,0,0,[],[],0,[],0,0,0,()),()),
 0,x))
 else
 bif decide (x.1.2.1=1) then
 Option.bind (List.head? x.1.2.2.2.2.2.2.2.2.2.2.2.2.1)
 fun b=>
 bif decide (b.2.1≤x.1.2.2.2.2.2.2.1.2.2.2.2.2.2.2.1) then
 Option.bind (F62 (x.1,15,()))
 fun b=>
 Option.bind (List.head? b.2.1.2.2.2.2.2.2.2.2.2.2.2.2.1)
 fun b_1=>
 Option.bind (List.head? b.2.1.2.2.2.2.2.2.2.2.2.2.2.2.1)
 fun b_2=>
 Option.bind (List.head? b.2.1.2.2.2.2.2.2.2.2.2.2.2.2.1)
 fun b_3=>
 Option.bind
 (F61
 ((b.1.1,b.1.2.1,b.1.2.2.1,b.1.2.2.2.1,
 b.1.2.2.2.2.1,b.1.2.2.2.2.2.1,b_1.2.1,
 b.1.2.2.2.2.2.2.2.1,b.1.2.2.2.2.2.2.2.2.1,
 b.1.2.2.2.2.2.2.2.2.2.1,
 b.1.2.2.2.2.2.2.2.2.2.2.1,
 b.1.2.2.2.2.2.2.2.2.2.2.2.1,
 b.1.2.2.2.2.2.2.2.2.2.2.2.2.1,
 b.1.2.2.2.2.2.2.2.2.2.2.2.2.2.1,
 b.1.2.2.2.2.2.2.2.2.2.2.2.2.2.2.1,b_2.2.2.1,
 b_3.2.2.2),
 ()))
 fun b_4=>
 some (Sum.inr (b_4.1,1,b.2))
 else
 some
 (Sum.inl
 (x.1.1,x.1.2.1,x.1.2.2.1,x.1.2.2.2.1,x.1.2.2.2.2.1,
 x.1.2.2.2.2.2.1,x.1.2.2.2.2.2.2.1,
 x.1.2.2.2.2.2.2.2.1,x.1.2.2.2.2.2.2.2.2.1,
 x.1.2.2.2.2.2.2.2.2.2.1,
 x.1.2.2.2.2.2.2.2.2.2.2.1,
 x.1.2.2.2.2.2.2.2.2.2.2.2.1,
 x.1.2.2.2.2.2.2.2.2.2.2.2.2.1,
 x.1.2.2.2.2.2.2.2.2.2.2.2.2.2.1,0,0,
 (0,0,0,0,0,0,0,0,false,[],(0,0,[],()),()),
 (0,0,(0,[],[],[],0,0,0,[],[],[],0,0,0,false,[],[],[],()),
 ()),
 0,[],[],0,0,0,0,(0,0,false,0,[],0,0,()),[],[],false,
 (0,0,[],[],()),(0,0,0,[],[],0,[],0,0,0,()),()))
 else
 some
 (Sum.inl
 (x.1.1,x.1.2.1,x.1.2.2.1,x.1.2.2.2.1,x.1.2.2.2.2.1,
 x.1.2.2.2.2.2.1,x.1.2.2.2.2.2.2.1,
 x.1.2.2.2.2.2.2.2.1,x.1.2.2.2.2.2.2.2.2.1,
 x.1.2.2.2.2.2.2.2.2.2.1,x.1.2.2.2.2.2.2.2.2.2.2.1,
 x.1.2.2.2.2.2.2.2.2.2.2.2.1,
 x.1.2.2.2.2.2.2.2.2.2.2.2.2.1,
 x.1.2.2.2.2.2.2.2.2.2.2.2.2.2.1,0,0,
 (0,0,0,0,0,0,0,0,false,[],(0,0,[],()),()),
 (0,0,(0,[],[],[],0,0,0,[],[],[],0,0,0,false,[],[],[],()),()),
 0,[],[],0,0,0,0,(0,0,false,0,[],0,0,()),[],[],false,
 (0,0,[],[],()),(0,0,0,[],[],0,[],0,0,0,()),()))
 else
 bif decide (x.1.2.1=1) then
 Option.bind (List.head? x.1.2.2.2.2.2.2.2.2.2.2.2.2.1)
 fun b=>
 bif decide (b.2.1≤x.1.2.2.2.2.2.2.1.2.2.2.2.2.2.2.1) then
 Option.bind (F62 (x.1,15,()))
 fun b=>
 Option.bind (List.head? b.2.1.2.2.2.2.2.2.2.2.2.2.2.2.1)
 fun b_1=>
 Option.bind (List.head? b.2.1.2.2.2.2.2.2.2.2.2.2.2.2.1)
 fun b_2=>
 Option.bind (List.head? b.2.1.2.2.2.2.2.2.2.2.2.2.2.2.1)
 fun b_3=>
 Option.bind
 (F61
 ((b.1.1,b.1.2.1,b.1.2.2.1,b.1.2.2.2.1,
 b.1.2.2.2.2.1,b.1.2.2.2.2.2.1,b_1.2.1,
 b.1.2.2.2.2.2.2.2.1,b.1.2.2.2.2.2.2.2.2.1,
 b.1.2.2.2.2.2.2.2.2.2.1,
 b.1.2.2.2.2.2.2.2.2.2.2.1,
 b.1.2.2.2.2.2.2.2.2.2.2.2.1,
 b.1.2.2.2.2.2.2.2.2.2.2.2.2.1,
 b.1.2.2.2.2.2.2.2.2.2.2.2.2.2.1,
 b.1.2.2.2.2.2.2.2.2.2.2.2.2.2.2.1,b_2.2.2.1,
 b_3.2.2.2),
 ()))
 fun b_4=>
 some (Sum.inr (b_4.1,1,b.2))
 else
 some
 (Sum.inl
 (x.1.1,x.1.2.1,x.1.2.2.1,x.1.2.2.2.1,x.1.2.2.2.2.1,
 x.1.2.2.2.2.2.1,x.1.2.2.2.2.2.2.1,
 x.1.2.2.2.2.2.2.2.1,x.1.2.2.2.2.2.2.2.2.1,
 x.1.2.2.2.2.2.2.2.2.2.1,
 x.1.2.2.2.2.2.2.2.2.2.2.1,
 x.1.2.2.2.2.2.2.2.2.2.2.2.1,
 x.1.2.2.2.2.2.2.2.2.2.2.2.2.1,
 x.1.2.2.2.2.2.2.2.2.2.2.2.2.2.1,0,0,
 (0,0,0,0,0,0,0,0,false,[],(0,0,[],()),()),
 (0,0,(0,[],[],[],0,0,0,[],[],[],0,0,0,false,[],[],[],()),
 ()),
 0,[],[],0,0,0,0,(0,0,false,0,[],0,0,()),[],[],false,
 (0,0,[],[],()),(0,0,0,[],[],0,[],0,0,0,()),()))
 else
 some
 (Sum.inl
 (x.1.1,x.1.2.1,x.1.2.2.1,x.1.2.2.2.1,x.1.2.2.2.2.1,
 x.1.2.2.2.2.2.1,x.1.2.2.2.2.2.2.1,
 x.1.2.2.2.2.2.2.2.1,x.1.2.2.2.2.2.2.2.2.1,
 x.1.2.2.2.2.2.2.2.2.2.1,x.1.2.2.2.2.2.2.2.2.2.2.1,
 x.1.2.2.2.2.2.2.2.2.2.2.2.1,
 x.1.2.2.2.2.2.2.2.2.2.2.2.2.1,
 x.1.2.2.2.2.2.2.2.2.2.2.2.2.2.1,0,0,
 (0,0,0,0,0,0,0,0,false,[],(0,0,[],()),()),
 (0,0,(0,[],[],[],0,0,0,[],[],[],0,0,0,false,[],[],[],()),()),0,
 [],[],0,0,0,0,(0,0,false,0,[],0,0,()),[],[],false,
 (0,0,[],[],()),(0,0,0,[],[],0,[],0,0,0,()),()))
 else
 bif decide (x.1.2.1=1) then
 bif List.isEmpty x.1.2.2.2.2.2.2.2.2.2.2.2.2.1 then
 some
 (Sum.inr
 ((6,0,(0,0,0,0,0,0,0,0,false,[],(0,0,[],()),()),
 (0,0,(0,[],[],[],0,0,0,[],[],[],0,0,0,false,[],[],[],()),()),0,
 [],[],x.1.1.1,0,0,0,(0,0,false,0,[],0,0,()),[],[],false,
 (0,0,[],[],()),(0,0,0,[],[],0,[],0,0,0,()),()),
 0,x))
 else
 bif decide (x.1.2.1=1) then
 Option.bind (List.head? x.1.2.2.2.2.2.2.2.2.2.2.2.2.1)
 fun b=>
 bif decide (b.2.1≤x.1.2.2.2.2.2.2.1.2.2.2.2.2.2.2.1) then
 Option.bind (F62 (x.1,15,()))
 fun b=>
 Option.bind (List.head? b.2.1.2.2.2.2.2.2.2.2.2.2.2.2.1)
 fun b_1=>
 Option.bind (List.head? b.2.1.2.2.2.2.2.2.2.2.2.2.2.2.1)
 fun b_2=>
 Option.bind (List.head? b.2.1.2.2.2.2.2.2.2.2.2.2.2.2.1)
 fun b_3=>
 Option.bind
 (F61
 ((b.1.1,b.1.2.1,b.1.2.2.1,b.1.2.2.2.1,
 b.1.2.2.2.2.1,b.1.2.2.2.2.2.1,b_1.2.1,
 b.1.2.2.2.2.2.2.2.1,b.1.2.2.2.2.2.2.2.2.1,
 b.1.2.2.2.2.2.2.2.2.2.1,
 b.1.2.2.2.2.2.2.2.2.2.2.1,
 b.1.2.2.2.2.2.2.2.2.2.2.2.1,
 b.1.2.2.2.2.2.2.2.2.2.2.2.2.1,
 b.1.2.2.2.2.2.2.2.2.2.2.2.2.2.1,
 b.1.2.2.2.2.2.2.2.2.2.2.2.2.2.2.1,b_2.2.2.1,
 b_3.2.2.2),
 ()))
 fun b_4=>
 some (Sum.inr (b_4.1,1,b.2))
 else
 some
 (Sum.inl
 (x.1.1,x.1.2.1,x.1.2.2.1,x.1.2.2.2.1,x.1.2.2.2.2.1,
 x.1.2.2.2.2.2.1,x.1.2.2.2.2.2.2.1,
 x.1.2.2.2.2.2.2.2.1,x.1.2.2.2.2.2.2.2.2.1,
 x.1.2.2.2.2.2.2.2.2.2.1,
 x.1.2.2.2.2.2.2.2.2.2.2.1,
 x.1.2.2.2.2.2.2.2.2.2.2.2.1,
 x.1.2.2.2.2.2.2.2.2.2.2.2.2.1,
 x.1.2.2.2.2.2.2.2.2.2.2.2.2.2.1,0,0,
 (0,0,0,0,0,0,0,0,false,[],(0,0,[],()),()),
 (0,0,(0,[],[],[],0,0,0,[],[],[],0,0,0,false,[],[],[],()),
 ()),
 0,[],[],0,0,0,0,(0,0,false,0,[],0,0,()),[],[],false,
 (0,0,[],[],()),(0,0,0,[],[],0,[],0,0,0,()),()))
 else
 some
 (Sum.inl
 (x.1.1,x.1.2.1,x.1.2.2.1,x.1.2.2.2.1,x.1.2.2.2.2.1,
 x.1.2.2.2.2.2.1,x.1.2.2.2.2.2.2.1,
 x.1.2.2.2.2.2.2.2.1,x.1.2.2.2.2.2.2.2.2.1,
 x.1.2.2.2.2.2.2.2.2.2.1,x.1.2.2.2.2.2.2.2.2.2.2.1,
 x.1.2.2.2.2.2.2.2.2.2.2.2.1,
 x.1.2.2.2.2.2.2.2.2.2.2.2.2.1,
 x.1.2.2.2.2.2.2.2.2.2.2.2.2.2.1,0,0,
 (0,0,0,0,0,0,0,0,false,[],(0,0,[],()),()),
 (0,0,(0,[],[],[],0,0,0,[],[],[],0,0,0,false,[],[],[],()),()),0,
 [],[],0,0,0,0,(0,0,false,0,[],0,0,()),[],[],false,
 (0,0,[],[],()),(0,0,0,[],[],0,[],0,0,0,()),()))
 else
 bif decide (x.1.2.1=1) then
 Option.bind (List.head? x.1.2.2.2.2.2.2.2.2.2.2.2.2.1)
 fun b=>
 bif decide (b.2.1≤x.1.2.2.2.2.2.2.1.2.2.2.2.2.2.2.1) then
 Option.bind (F62 (x.1,15,()))
 fun b=>
 Option.bind (List.head? b.2.1.2.2.2.2.2.2.2.2.2.2.2.2.1)
 fun b_1=>
 Option.bind (List.head? b.2.1.2.2.2.2.2.2.2.2.2.2.2.2.1)
 fun b_2=>
 Option.bind (List.head? b.2.1.2.2.2.2.2.2.2.2.2.2.2.2.1)
 fun b_3=>
 Option.bind
 (F61
 ((b.1.1,b.1.2.1,b.1.2.2.1,b.1.2.2.2.1,
 b.1.2.2.2.2.1,b.1.2.2.2.2.2.1,b_1.2.1,
 b.1.2.2.2.2.2.2.2.1,b.1.2.2.2.2.2.2.2.2.1,
 b.1.2.2.2.2.2.2.2.2.2.1,
 b.1.2.2.2.2.2.2.2.2.2.2.1,
 b.1.2.2.2.2.2.2.2.2.2.2.2.1,
 b.1.2.2.2.2.2.2.2.2.2.2.2.2.1,
 b.1.2.2.2.2.2.2.2.2.2.2.2.2.2.1,
 b.1.2.2.2.2.2.2.2.2.2.2.2.2.2.2.1,b_2.2.2.1,
 b_3.2.2.2),
 ()))
 fun b_4=>
 some (Sum.inr (b_4.1,1,b.2))
 else
 some
 (Sum.inl
 (x.1.1,x.1.2.1,x.1.2.2.1,x.1.2.2.2.1,x.1.2.2.2.2.1,
 x.1.2.2.2.2.2.1,x.1.2.2.2.2.2.2.1,
 x.1.2.2.2.2.2.2.2.1,x.1.2.2.2.2.2.2.2.2.1,
 x.1.2.2.2.2.2.2.2.2.2.1,x.1.2.2.2.2.2.2.2.2.2.2.1,
 x.1.2.2.2.2.2.2.2.2.2.2.2.1,
 x.1.2.2.2.2.2.2.2.2.2.2.2.2.1,
 x.1.2.2.2.2.2.2.2.2.2.2.2.2.2.1,0,0,
 (0,0,0,0,0,0,0,0,false,[],(0,0,[],()),()),
 (0,0,(0,[],[],[],0,0,0,[],[],[],0,0,0,false,[],[],[],()),()),
 0,[],[],0,0,0,0,(0,0,false,0,[],0,0,()),[],[],false,
 (0,0,[],[],()),(0,0,0,[],[],0,[],0,0,0,()),()))
 else
 some
 (Sum.inl
 (x.1.1,x.1.2.1,x.1.2.2.1,x.1.2.2.2.1,x.1.2.2.2.2.1,
 x.1.2.2.2.2.2.1,x.1.2.2.2.2.2.2.1,
 x.1.2.2.2.2.2.2.2.1,x.1.2.2.2.2.2.2.2.2.1,
 x.1.2.2.2.2.2.2.2.2.2.1,x.1.2.2.2.2.2.2.2.2.2.2.1,
 x.1.2.2.2.2.2.2.2.2.2.2.2.1,
 x.1.2.2.2.2.2.2.2.2.2.2.2.2.1,
 x.1.2.2.2.2.2.2.2.2.2.2.2.2.2.1,0,0,
 (0,0,0,0,0,0,0,0,false,[],(0,0,[],()),()),
 (0,0,(0,[],[],[],0,0,0,[],[],[],0,0,0,false,[],[],[],()),()),0,
 [],[],0,0,0,0,(0,0,false,0,[],0,0,()),[],[],false,(0,0,[],[],()),
 (0,0,0,[],[],0,[],0,0,0,()),())))
 fun o=>
 Sum.elim
 (fun (x :
 Y24D×Int×List
 (Int×Int×Int×Int×Int×Int×Int×Bool×(Int×Int×(Int×Int×Int×Int×Int×Int×Int×Int×Bool×List T25D×T25D×Unit)×(Int×Int×(Int×List UInt8×List UInt8×List UInt8×Int×Int×Int×List
 T96D×List
 T48D×List
 T48D×Int×Int×Int×Bool×List
 T70D×List
 (Int×Int×(Int×Int×Bool×Int×List
 (List UInt8×(Int×Int×Int×Int×List
 UInt8×Int×Bool×Unit)×Unit)×Y22D)×Unit)×List T113D×Unit)×Unit)×Int×List UInt8×List UInt8×Int×Int×Int×Int×(Int×Int×Bool×Int×List
 T70D×Y22D)×List
 (Int×List
 T70D×Unit)×List
 T70D×Bool×(Int×Int×List
 (Int×Int×(Int×Int×Bool×Int×List
 T70D×Y22D)×Unit)×List T113D×Unit)×T53D×Unit)×Unit)×List
 (Int×Int×Int×Int×Int×Int×Int×Bool×(Int×Int×(Int×Int×Int×Int×Int×Int×Int×Int×Bool×List T25D×T25D×Unit)×(Int×Int×(Int×List UInt8×List UInt8×List UInt8×Int×Int×Int×List
 T96D×List
 T48D×List
 T48D×Int×Int×Int×Bool×List
 T70D×List
 (Int×Int×(Int×Int×Bool×Int×List
 (List UInt8×(Int×Int×Int×Int×List
 UInt8×Int×Bool×Unit)×Unit)×Y22D)×Unit)×List T113D×Unit)×Unit)×Int×List UInt8×List UInt8×Int×Int×Int×Int×(Int×Int×Bool×Int×List
 T70D×Y22D)×List
 (Int×List
 T70D×Unit)×List
 T70D×Bool×(Int×Int×List
 (Int×Int×(Int×Int×Bool×Int×List
 (List UInt8×(Int×Int×Int×Int×List
 UInt8×Int×Bool×Unit)×Unit)×Y22D)×Unit)×List T113D×Unit)×T53D×Unit)×Unit)×(Int×Int×(Int×Int×Int×Int×Int×Int×Int×Int×Bool×List T25D×T25D×Unit)×(Int×Int×(Int×List UInt8×List UInt8×List UInt8×Int×Int×Int×List T96D×List T48D×List T48D×Int×Int×Int×Bool×List
 T70D×List
 (Int×Int×(Int×Int×Bool×Int×List
 T70D×Y22D)×Unit)×List T113D×Unit)×Unit)×Int×List UInt8×List UInt8×Int×Int×Int×Int×(Int×Int×Bool×Int×List
 T70D×Y22D)×List
 (Int×List
 T70D×Unit)×List
 T70D×Bool×(Int×Int×List
 (Int×Int×(Int×Int×Bool×Int×List
 T70D×Y22D)×Unit)×List T113D×Unit)×T53D×Unit)×Bool×T53D×Int×List
 (List T70D×Bool×Unit)×List
 (List
 T70D×Int×Unit)×Bool×Bool×List
 (Int×Int×List
 (Int×Int×(Int×Int×Bool×Int×List
 T70D×Y22D)×Unit)×List T113D×Unit)×Bool×Int×Int×(Int×Int×Int×Int×Int×Int×Int×Int×Bool×List T25D×T25D×Unit)×(Int×Int×(Int×List UInt8×List UInt8×List UInt8×Int×Int×Int×List
 T96D×List
 T48D×List
 T48D×Int×Int×Int×Bool×List
 T70D×List
 (Int×Int×(Int×Int×Bool×Int×List
 (List UInt8×(Int×Int×Int×Int×List
 UInt8×Int×Bool×Unit)×Unit)×Y22D)×Unit)×List T113D×Unit)×Unit)×Int×List UInt8×List UInt8×Int×Int×Int×Int×(Int×Int×Bool×Int×List
 T70D×Y22D)×List
 (Int×List
 T70D×Unit)×List
 T70D×Bool×(Int×Int×List
 (Int×Int×(Int×Int×Bool×Int×List
 (List UInt8×(Int×Int×Int×Int×List
 UInt8×Int×Bool×Unit)×Unit)×Y22D)×Unit)×List T113D×Unit)×T53D×Unit)=>
 Option.bind (F63 (x.1.2.1,())) fun b=>
 some
 ((4,0,(0,0,0,0,0,0,0,0,false,[],(0,0,[],()),()),
 (0,0,(0,[],[],[],0,0,0,[],[],[],0,0,0,false,[],[],[],()),()),0,
 x.1.2.1,b.1,
 wrap64 (x.2.2.2.2.2.2.1.2.2.2.2.2.2.2.1+1),0,0,0,
 (0,0,false,0,[],0,0,()),[],[],false,(0,0,[],[],()),
 (0,0,0,[],[],0,[],0,0,0,()),()),
 0,
 (x.1,x.2.1,x.2.2.1,x.2.2.2.1,x.2.2.2.2.1,x.2.2.2.2.2.1,
 x.2.2.2.2.2.2.1,x.2.2.2.2.2.2.2.1,x.2.2.2.2.2.2.2.2.1,
 x.2.2.2.2.2.2.2.2.2.1,x.2.2.2.2.2.2.2.2.2.2.1,
 x.2.2.2.2.2.2.2.2.2.2.2.1,
 x.2.2.2.2.2.2.2.2.2.2.2.2.1,
 x.2.2.2.2.2.2.2.2.2.2.2.2.2.1,()),
 ()))
 some o
def S46:Sig:=⟨P46,R46,F46⟩
noncomputable def E46:Env:={ tab:=tab.opt { flats:=[(93,L93)],owns:=[87],frzs:=[89,90,91] },nt:=149,Γ:=lookG [(61,[S61]),(62,[S62]),(63,[S63])],joins:=lookN [(13,⟨[⟨.fld 0 0,Y24,.pv⟩,⟨.fld 0 1,(.int .i64),.pv⟩,⟨.fld 0 2,(.ptr Y123),.own false⟩,⟨.fld 0 3,(.ptr Y123),.own false⟩,⟨.fld 0 4,TM,.pv⟩,⟨.fld 0 5,.bool,.pv⟩,⟨.fld 0 6,T53,.pv⟩,⟨.fld 0 7,(.int .i64),.pv⟩,⟨.fld 0 8,(.ptr Y136),.pv⟩,⟨.fld 0 9,(.ptr Y145),.pv⟩,⟨.fld 0 10,.bool,.pv⟩,⟨.fld 0 11,.bool,.pv⟩,⟨.fld 0 12,(.ptr T55),.pv⟩,⟨.fld 0 13,.bool,.pv⟩,⟨.fld 1000 0,(.int .i64),.pv⟩,⟨.fld 1000 1,(.int .i64),.pv⟩,⟨.fld 1000 2,T27,.pv⟩,⟨.fld 1000 3,T33,.pv⟩,⟨.fld 1000 4,(.int .i64),.pv⟩,⟨.fld 1000 5,.str,.pv⟩,⟨.fld 1000 6,.str,.pv⟩,⟨.fld 1000 7,(.int .i64),.pv⟩,⟨.fld 1000 8,(.int .i64),.pv⟩,⟨.fld 1000 9,(.int .i64),.pv⟩,⟨.fld 1000 10,(.int .i64),.pv⟩,⟨.fld 1000 11,T51,.pv⟩,⟨.fld 1000 12,(.slice TB),.own false⟩,⟨.fld 1000 13,(.slice T70),.own false⟩,⟨.fld 1000 14,.bool,.pv⟩,⟨.fld 1000 15,T55,.pv⟩,⟨.fld 1000 16,T53,.pv⟩],[0,2],[.site 0,.site 1000]⟩)],loops:=lookN [] }
theorem raw46_eq (x:L93D×Unit):afun E46 Tryz.f46 P46 R46 x=F46 x:=by kernel_rfl
def F24 (x:L93D×Unit):Option (TMD×Int×L93D×Unit):=
 bif !x.1.2.2.2.2.2.1 then
 some
 ((7,0,(0,0,0,0,0,0,0,0,false,[],(0,0,[],()),()),
 (0,0,(0,[],[],[],0,0,0,[],[],[],0,0,0,false,[],[],[],()),()),0,[],[],
 0,0,0,0,(0,0,false,0,[],0,0,()),[],[],false,(0,0,[],[],()),
 (0,0,0,[],[],0,[],0,0,0,()),()),
 1,x)
 else
 bif decide (x.1.2.2.2.2.2.2.1.1=3) then
 some
 ((0,0,(0,0,0,0,0,0,0,0,false,[],(0,0,[],()),()),
 (0,0,(0,[],[],[],0,0,0,[],[],[],0,0,0,false,[],[],[],()),()),0,[],[],
 0,0,0,0,(0,0,false,0,[],0,0,()),[],[],false,(0,0,[],[],()),
 (0,0,0,[],[],0,[],0,0,0,()),()),
 0,x)
 else
 bif decide (x.1.1.1 < x.1.2.2.2.2.2.2.1.2.1) then
 some
 ((0,0,(0,0,0,0,0,0,0,0,false,[],(0,0,[],()),()),
 (0,0,(0,[],[],[],0,0,0,[],[],[],0,0,0,false,[],[],[],()),()),0,[],
 [],0,0,0,0,(0,0,false,0,[],0,0,()),[],[],false,(0,0,[],[],()),
 (0,0,0,[],[],0,[],0,0,0,()),()),
 0,x)
 else
 bif decide (x.1.2.1=2) then
 Option.bind (F43 x)
 fun b=>
 some b
 else
 bif decide (x.1.2.2.2.2.2.2.1.1=4) then
 bif decide (x.1.2.2.2.2.2.2.1.2.1=x.1.1.1) then
 Option.bind (F43 x)
 fun b=>
 some b
 else
 bif decide (x.1.2.2.2.2.2.2.1.1=0) then
 Option.bind (F44 x)
 fun b=>
 some b
 else
 bif decide (x.1.2.2.2.2.2.2.1.1=4) then
 Option.bind (F44 x)
 fun b=>
 some b
 else
 bif x.1.2.2.2.2.2.2.2.2.2.2.1 then
 Option.bind (F44 x)
 fun b=>
 some b
 else
 bif decide (x.1.2.2.2.2.2.2.1.1=1) then
 Option.bind (F45 x)
 fun b=>
 some b
 else
 Option.bind (F46 x)
 fun b=>
 some b
 else
 bif decide (x.1.2.2.2.2.2.2.1.1=0) then
 Option.bind (F44 x)
 fun b=>
 some b
 else
 bif decide (x.1.2.2.2.2.2.2.1.1=4) then
 Option.bind (F44 x)
 fun b=>
 some b
 else
 bif x.1.2.2.2.2.2.2.2.2.2.2.1 then
 Option.bind (F44 x)
 fun b=>
 some b
 else
 bif decide (x.1.2.2.2.2.2.2.1.1=1) then
 Option.bind (F45 x)
 fun b=>
 some b
 else
 Option.bind (F46 x)
 fun b=>
 some b
def S24:Sig:=⟨P24,R24,F24⟩
noncomputable def E24:Env:={ tab:=tab.opt { flats:=[(93,L93)],owns:=[87],frzs:=[89,90,91] },nt:=91,Γ:=lookG [(43,[S43]),(44,[S44]),(45,[S45]),(46,[S46])],joins:=lookN [],loops:=lookN [] }
theorem raw24_eq (x:L93D×Unit):afun E24 Tryz.f24 P24 R24 x=F24 x:=by kernel_rfl
def F47 (x:Int×Unit):Option (Int×Unit):=
 bif decide (x.1=2) then
 bif decide (x.1=2) then some (8,())
 else
 bif decide (x.1=4) then some (9,())
 else
 bif decide (x.1=5) then some (10,())
 else
 bif decide (x.1=6) then some (11,())
 else bif decide (x.1=7) then some (12,()) else some (0,())
 else
 bif decide (x.1=3) then some (8,())
 else
 bif decide (x.1=4) then some (9,())
 else
 bif decide (x.1=5) then some (10,())
 else
 bif decide (x.1=6) then some (11,())
 else bif decide (x.1=7) then some (12,()) else some (0,())
def S47:Sig:=⟨P47,R47,F47⟩
noncomputable def E47:Env:={ tab:=tab.opt { flats:=[(93,L93)],owns:=[87],frzs:=[89,90,91] },nt:=15,Γ:=lookG [],joins:=lookN [],loops:=lookN [] }
theorem raw47_eq (x:Int×Unit):afun E47 Tryz.f47 P47 R47 x=F47 x:=by kernel_rfl
def F133 (x:List UInt8×List UInt8×Unit):Option (Bool×Unit):=some (decide (x.1=x.2.1),())
def S133:Sig:=⟨P133,R133,F133⟩
noncomputable def E133:Env:={ tab:=tab.opt { flats:=[(93,L93)],owns:=[87],frzs:=[89,90,91] },nt:=10,Γ:=lookG [],joins:=lookN [],loops:=lookN [] }
theorem raw133_eq (x:List UInt8×List UInt8×Unit):afun E133 Tryz.f133 P133 R133 x=F133 x:=by kernel_rfl
def F168 (x:T25D×T25D×Unit):Option (Bool×Unit):=
 bif decide (x.1.1=x.2.1.1) then
 bif decide (x.1.2.1=x.2.1.2.1) then
 Option.bind (F133 (x.1.2.2.1,x.2.1.2.2)) fun b=>some b
 else some (false,())
 else some (false,())
def S168:Sig:=⟨P168,R168,F168⟩
noncomputable def E168:Env:={ tab:=tab.opt { flats:=[(93,L93)],owns:=[87],frzs:=[89,90,91] },nt:=24,Γ:=lookG [(133,[S133])],joins:=lookN [],loops:=lookN [] }
theorem raw168_eq (x:T25D×T25D×Unit):afun E168 Tryz.f168 P168 R168 x=F168 x:=by kernel_rfl
def F167a (x:List T25D×List T25D×Unit):Option (Bool×Unit):=
 bif !decide (Int.ofNat (List.length x.1)=Int.ofNat (List.length x.2.1)) then some (false,())
 else
 iterE (Int×Unit) (Bool×Unit)
 (fun (x_1:Int×Unit)=>
 bif decide (x_1.1 < Int.ofNat (List.length x.1)) then
 Option.bind (idx x.1 x_1.1) fun b=>
 Option.bind (idx x.2.1 x_1.1) fun b_1=>
 Option.bind (F168 (b,b_1,())) fun b=>
 bif !b.1 then some (Sum.inr (false,()))
 else some (Sum.inl (wrap64 (x_1.1+1),()))
 else some (Sum.inr (true,())))
 big (0,())
def S167a:Sig:=⟨P167a,R167a,F167a⟩
noncomputable def E167a:Env:={ tab:=tab.opt { flats:=[(93,L93)],owns:=[87],frzs:=[89,90,91] },nt:=32,Γ:=lookG [(168,[S168])],joins:=lookN [],loops:=lookN [(4,mkLoop ⟨[⟨.slot 17,(.int .i64),.pv⟩],[1,2,15,16],[]⟩)] }
theorem raw167a_eq (x:List T25D×List T25D×Unit):afun E167a Tryz.f167 P167a R167a x=F167a x:=by kernel_rfl
def F132 (x:List T25D×List T25D×Unit):Option (Bool×Unit):=
 Option.bind (F167a x) fun b=>some b
def S132:Sig:=⟨P132,R132,F132⟩
noncomputable def E132:Env:={ tab:=tab.opt { flats:=[(93,L93)],owns:=[87],frzs:=[89,90,91] },nt:=8,Γ:=lookG [(167,[S167a]),(168,[S168])],joins:=lookN [],loops:=lookN [] }
theorem raw132_eq (x:List T25D×List T25D×Unit):afun E132 Tryz.f132 P132 R132 x=F132 x:=by kernel_rfl
def F91 (x:T27D×T27D×Unit):Option (Bool×Unit):=
 bif decide (x.1.1=x.2.1.1) then
 bif decide (x.1.2.1=x.2.1.2.1) then
 bif decide (x.1.2.2.1=x.2.1.2.2.1) then
 bif decide (x.1.2.2.2.1=x.2.1.2.2.2.1) then
 bif decide (x.1.2.2.2.2.1=x.2.1.2.2.2.2.1) then
 bif decide (x.1.2.2.2.2.2.1=x.2.1.2.2.2.2.2.1) then
 bif decide (x.1.2.2.2.2.2.2.1=x.2.1.2.2.2.2.2.2.1) then
 bif decide (x.1.2.2.2.2.2.2.2.1=x.2.1.2.2.2.2.2.2.2.1) then
 bif x.1.2.2.2.2.2.2.2.2.1 == x.2.1.2.2.2.2.2.2.2.2.1 then
 Option.bind
 (F132
 (x.1.2.2.2.2.2.2.2.2.2.1,
 x.2.1.2.2.2.2.2.2.2.2.2.1,()))
 fun b=>
 bif b.1 then
 bif
 decide
 (x.1.2.2.2.2.2.2.2.2.2.2.1.1 =
 x.2.1.2.2.2.2.2.2.2.2.2.2.1.1) then
 bif
 decide
 (x.1.2.2.2.2.2.2.2.2.2.2.1.2.1 =
 x.2.1.2.2.2.2.2.2.2.2.2.2.1.2.1) then
 Option.bind
 (F133
 (x.1.2.2.2.2.2.2.2.2.2.2.1.2.2.1,
 x.2.1.2.2.2.2.2.2.2.2.2.2.1.2.2))
 fun b=>some b
 else some (false,())
 else some (false,())
 else some (false,())
 else some (false,())
 else some (false,())
 else some (false,())
 else some (false,())
 else some (false,())
 else some (false,())
 else some (false,())
 else some (false,())
 else some (false,())
def S91:Sig:=⟨P91,R91,F91⟩
noncomputable def E91:Env:={ tab:=tab.opt { flats:=[(93,L93)],owns:=[87],frzs:=[89,90,91] },nt:=100,Γ:=lookG [(132,[S132]),(133,[S133])],joins:=lookN [],loops:=lookN [] }
theorem raw91_eq (x:T27D×T27D×Unit):afun E91 Tryz.f91 P91 R91 x=F91 x:=by kernel_rfl
def F134 (x:List T96D×List T96D×Unit):Option (Bool×Unit):=
 bif !decide (Int.ofNat (List.length x.1)=Int.ofNat (List.length x.2.1)) then some (false,())
 else
 iterE (Int×Unit) (Bool×Unit)
 (fun (x_1:Int×Unit)=>
 bif decide (x_1.1 < Int.ofNat (List.length x.1)) then
 Option.bind (idx x.1 x_1.1) fun b=>
 Option.bind (idx x.2.1 x_1.1) fun b_1=>
 bif
 !(decide (b.1=b_1.1) &&
 (decide (b.2.1=b_1.2.1) &&
 (decide (b.2.2.1=b_1.2.2.1) &&
 (decide (b.2.2.2.1=b_1.2.2.2.1) &&
 (decide (b.2.2.2.2.1=b_1.2.2.2.2.1) && true))))) then
 some (Sum.inr (false,()))
 else some (Sum.inl (wrap64 (x_1.1+1),()))
 else some (Sum.inr (true,())))
 big (0,())
def S134:Sig:=⟨P134,R134,F134⟩
noncomputable def E134:Env:={ tab:=tab.opt { flats:=[(93,L93)],owns:=[87],frzs:=[89,90,91] },nt:=26,Γ:=lookG [],joins:=lookN [],loops:=lookN [(4,mkLoop ⟨[⟨.slot 13,(.int .i64),.pv⟩],[0,1,12],[]⟩)] }
theorem raw134_eq (x:List T96D×List T96D×Unit):afun E134 Tryz.f134 P134 R134 x=F134 x:=by kernel_rfl
def F135 (x:List T48D×List T48D×Unit):Option (Bool×Unit):=
 bif !decide (Int.ofNat (List.length x.1)=Int.ofNat (List.length x.2.1)) then some (false,())
 else
 iterE (Int×Unit) (Bool×Unit)
 (fun (x_1:Int×Unit)=>
 bif decide (x_1.1 < Int.ofNat (List.length x.1)) then
 Option.bind (idx x.1 x_1.1) fun b=>
 Option.bind (idx x.2.1 x_1.1) fun b_1=>
 bif
 !(decide (b.1=b_1.1) &&
 (decide (b.2.1=b_1.2.1) &&
 (decide (b.2.2.1=b_1.2.2.1) &&
 (decide (b.2.2.2.1=b_1.2.2.2.1) &&
 (decide (b.2.2.2.2.1=b_1.2.2.2.2.1) && true))))) then
 some (Sum.inr (false,()))
 else some (Sum.inl (wrap64 (x_1.1+1),()))
 else some (Sum.inr (true,())))
 big (0,())
def S135:Sig:=⟨P135,R135,F135⟩
noncomputable def E135:Env:={ tab:=tab.opt { flats:=[(93,L93)],owns:=[87],frzs:=[89,90,91] },nt:=26,Γ:=lookG [],joins:=lookN [],loops:=lookN [(4,mkLoop ⟨[⟨.slot 13,(.int .i64),.pv⟩],[0,1,12],[]⟩)] }
theorem raw135_eq (x:List T48D×List T48D×Unit):afun E135 Tryz.f135 P135 R135 x=F135 x:=by kernel_rfl
def F95 (x:List T70D×List T70D×Unit):Option (Bool×Unit):=
 bif !decide (Int.ofNat (List.length x.1)=Int.ofNat (List.length x.2.1)) then some (false,())
 else
 iterE (Int×Unit) (Bool×Unit)
 (fun (x_1:Int×Unit)=>
 bif decide (x_1.1 < Int.ofNat (List.length x.1)) then
 Option.bind (idx x.1 x_1.1)
 fun b=>
 Option.bind (idx x.2.1 x_1.1)
 fun b_1=>
 bif
 !(decide (b.1=b_1.1) &&
 (decide (b.2.1.1=b_1.2.1.1) &&
 (decide (b.2.1.2.1=b_1.2.1.2.1) &&
 (decide (b.2.1.2.2.1=b_1.2.1.2.2.1) &&
 (decide (b.2.1.2.2.2.1=b_1.2.1.2.2.2.1) &&
 (decide (b.2.1.2.2.2.2.1=b_1.2.1.2.2.2.2.1) &&
 (decide (b.2.1.2.2.2.2.2.1=b_1.2.1.2.2.2.2.2.1) &&
 (b.2.1.2.2.2.2.2.2.1 == b_1.2.1.2.2.2.2.2.2.1 &&
 true)))))) &&
 true)) then
 some (Sum.inr (false,()))
 else some (Sum.inl (wrap64 (x_1.1+1),()))
 else some (Sum.inr (true,())))
 big (0,())
def S95:Sig:=⟨P95,R95,F95⟩
noncomputable def E95:Env:={ tab:=tab.opt { flats:=[(93,L93)],owns:=[87],frzs:=[89,90,91] },nt:=26,Γ:=lookG [],joins:=lookN [],loops:=lookN [(4,mkLoop ⟨[⟨.slot 13,(.int .i64),.pv⟩],[0,1,12],[]⟩)] }
theorem raw95_eq (x:List T70D×List T70D×Unit):afun E95 Tryz.f95 P95 R95 x=F95 x:=by kernel_rfl
def F136 (x:List T70D×List T70D×Unit):Option (Bool×Unit):=
 Option.bind (F95 x) fun b=>some b
def S136:Sig:=⟨P136,R136,F136⟩
noncomputable def E136:Env:={ tab:=tab.opt { flats:=[(93,L93)],owns:=[87],frzs:=[89,90,91] },nt:=8,Γ:=lookG [(95,[S95])],joins:=lookN [],loops:=lookN [] }
theorem raw136_eq (x:List T70D×List T70D×Unit):afun E136 Tryz.f136 P136 R136 x=F136 x:=by kernel_rfl
def F93 (x:T51D×T51D×Unit):Option (Bool×Unit):=
 bif decide (x.1.1=x.2.1.1) then
 bif decide (x.1.2.1=x.2.1.2.1) then
 bif x.1.2.2.1 == x.2.1.2.2.1 then
 bif decide (x.1.2.2.2.1=x.2.1.2.2.2.1) then
 bif decide (x.1.2.2.2.2.2.1=x.2.1.2.2.2.2.2.1) then
 bif decide (x.1.2.2.2.2.2.2.1=x.2.1.2.2.2.2.2.2.1) then
 Option.bind (F136 (x.1.2.2.2.2.1,x.2.1.2.2.2.2.1,()))
 fun b=>some b
 else some (false,())
 else some (false,())
 else some (false,())
 else some (false,())
 else some (false,())
 else some (false,())
def S93:Sig:=⟨P93,R93,F93⟩
noncomputable def E93:Env:={ tab:=tab.opt { flats:=[(93,L93)],owns:=[87],frzs:=[89,90,91] },nt:=52,Γ:=lookG [(136,[S136])],joins:=lookN [],loops:=lookN [] }
theorem raw93_eq (x:T51D×T51D×Unit):afun E93 Tryz.f93 P93 R93 x=F93 x:=by kernel_rfl
def F170 (x:T94D×T94D×Unit):Option (Bool×Unit):=
 bif decide (x.1.1=x.2.1.1) then
 bif decide (x.1.2.1=x.2.1.2.1) then
 Option.bind (F93 (x.1.2.2.1,x.2.1.2.2)) fun b=>some b
 else some (false,())
 else some (false,())
def S170:Sig:=⟨P170,R170,F170⟩
noncomputable def E170:Env:={ tab:=tab.opt { flats:=[(93,L93)],owns:=[87],frzs:=[89,90,91] },nt:=24,Γ:=lookG [(93,[S93])],joins:=lookN [],loops:=lookN [] }
theorem raw170_eq (x:T94D×T94D×Unit):afun E170 Tryz.f170 P170 R170 x=F170 x:=by kernel_rfl
def F169a (x:List T94D×List T94D×Unit):Option (Bool×Unit):=
 bif !decide (Int.ofNat (List.length x.1)=Int.ofNat (List.length x.2.1)) then some (false,())
 else
 iterE (Int×Unit) (Bool×Unit)
 (fun (x_1:Int×Unit)=>
 bif decide (x_1.1 < Int.ofNat (List.length x.1)) then
 Option.bind (idx x.1 x_1.1)
 fun b=>
 Option.bind (idx x.2.1 x_1.1)
 fun b_1=>
 Option.bind (F170 (b,b_1,())) fun b=>
 bif !b.1 then some (Sum.inr (false,()))
 else some (Sum.inl (wrap64 (x_1.1+1),()))
 else some (Sum.inr (true,())))
 big (0,())
def S169a:Sig:=⟨P169a,R169a,F169a⟩
noncomputable def E169a:Env:={ tab:=tab.opt { flats:=[(93,L93)],owns:=[87],frzs:=[89,90,91] },nt:=32,Γ:=lookG [(170,[S170])],joins:=lookN [],loops:=lookN [(4,mkLoop ⟨[⟨.slot 17,(.int .i64),.pv⟩],[1,2,15,16],[]⟩)] }
theorem raw169a_eq (x:List T94D×List T94D×Unit):afun E169a Tryz.f169 P169a R169a x=F169a x:=by kernel_rfl
def F137 (x:List T94D×List T94D×Unit):Option (Bool×Unit):=
 Option.bind (F169a x) fun b=>some b
def S137:Sig:=⟨P137,R137,F137⟩
noncomputable def E137:Env:={ tab:=tab.opt { flats:=[(93,L93)],owns:=[87],frzs:=[89,90,91] },nt:=8,Γ:=lookG [(169,[S169a]),(170,[S170])],joins:=lookN [],loops:=lookN [] }
theorem raw137_eq (x:List T94D×List T94D×Unit):afun E137 Tryz.f137 P137 R137 x=F137 x:=by kernel_rfl
def F138 (x:List T113D×List T113D×Unit):Option (Bool×Unit):=
 bif !decide (Int.ofNat (List.length x.1)=Int.ofNat (List.length x.2.1)) then some (false,())
 else
 iterE (Int×Unit) (Bool×Unit)
 (fun (x_1:Int×Unit)=>
 bif decide (x_1.1 < Int.ofNat (List.length x.1)) then
 Option.bind (idx x.1 x_1.1) fun b=>
 Option.bind (idx x.2.1 x_1.1) fun b_1=>
 bif
 !(decide (b.1=b_1.1) &&
 (decide (b.2.1=b_1.2.1) && (decide (b.2.2.1=b_1.2.2.1) && true))) then
 some (Sum.inr (false,()))
 else some (Sum.inl (wrap64 (x_1.1+1),()))
 else some (Sum.inr (true,())))
 big (0,())
def S138:Sig:=⟨P138,R138,F138⟩
noncomputable def E138:Env:={ tab:=tab.opt { flats:=[(93,L93)],owns:=[87],frzs:=[89,90,91] },nt:=26,Γ:=lookG [],joins:=lookN [],loops:=lookN [(4,mkLoop ⟨[⟨.slot 13,(.int .i64),.pv⟩],[0,1,12],[]⟩)] }
theorem raw138_eq (x:List T113D×List T113D×Unit):afun E138 Tryz.f138 P138 R138 x=F138 x:=by kernel_rfl
def F92 (x:T28D×T28D×Unit):Option (Bool×Unit):=
 bif decide (x.1.1=x.2.1.1) then
 bif decide (x.1.2.1=x.2.1.2.1) then
 bif decide (x.1.2.2.1=x.2.1.2.2.1) then
 bif decide (x.1.2.2.2.1=x.2.1.2.2.2.1) then
 bif decide (x.1.2.2.2.2.1=x.2.1.2.2.2.2.1) then
 bif decide (x.1.2.2.2.2.2.1=x.2.1.2.2.2.2.2.1) then
 bif decide (x.1.2.2.2.2.2.2.1=x.2.1.2.2.2.2.2.2.1) then
 bif
 decide
 (x.1.2.2.2.2.2.2.2.2.2.2.1 =
 x.2.1.2.2.2.2.2.2.2.2.2.2.1) then
 bif
 decide
 (x.1.2.2.2.2.2.2.2.2.2.2.2.1 =
 x.2.1.2.2.2.2.2.2.2.2.2.2.2.1) then
 bif
 decide
 (x.1.2.2.2.2.2.2.2.2.2.2.2.2.1 =
 x.2.1.2.2.2.2.2.2.2.2.2.2.2.2.1) then
 bif
 x.1.2.2.2.2.2.2.2.2.2.2.2.2.2.1 ==
 x.2.1.2.2.2.2.2.2.2.2.2.2.2.2.2.1 then
 Option.bind
 (F134
 (x.1.2.2.2.2.2.2.2.1,x.2.1.2.2.2.2.2.2.2.1,
 ()))
 fun b=>
 bif b.1 then
 Option.bind
 (F135
 (x.1.2.2.2.2.2.2.2.2.1,
 x.2.1.2.2.2.2.2.2.2.2.1,()))
 fun b=>
 bif b.1 then
 Option.bind
 (F135
 (x.1.2.2.2.2.2.2.2.2.2.1,
 x.2.1.2.2.2.2.2.2.2.2.2.1,()))
 fun b=>
 bif b.1 then
 Option.bind
 (F136
 (x.1.2.2.2.2.2.2.2.2.2.2.2.2.2.2.1,
 x.2.1.2.2.2.2.2.2.2.2.2.2.2.2.2.2.1,
 ()))
 fun b=>
 bif b.1 then
 Option.bind
 (F137
 (x.1.2.2.2.2.2.2.2.2.2.2.2.2.2.2.2.1,
 x.2.1.2.2.2.2.2.2.2.2.2.2.2.2.2.2.2.1,
 ()))
 fun b=>
 bif b.1 then
 Option.bind
 (F138
 (x.1.2.2.2.2.2.2.2.2.2.2.2.2.2.2.2.2.1,
 x.2.1.2.2.2.2.2.2.2.2.2.2.2.2.2.2.2.2))
 fun b=>some b
 else some (false,())
 else some (false,())
 else some (false,())
 else some (false,())
 else some (false,())
 else some (false,())
 else some (false,())
 else some (false,())
 else some (false,())
 else some (false,())
 else some (false,())
 else some (false,())
 else some (false,())
 else some (false,())
 else some (false,())
 else some (false,())
def S92:Sig:=⟨P92,R92,F92⟩
noncomputable def E92:Env:={ tab:=tab.opt { flats:=[(93,L93)],owns:=[87],frzs:=[89,90,91] },nt:=122,Γ:=lookG [(134,[S134]),(135,[S135]),(136,[S136]),(137,[S137]),(138,[S138])],joins:=lookN [],loops:=lookN [] }
theorem raw92_eq (x:T28D×T28D×Unit):afun E92 Tryz.f92 P92 R92 x=F92 x:=by kernel_rfl
def F140 (x:TBD×TBD×Unit):Option (Bool×Unit):=
 bif decide (x.1.1=x.2.1.1) then
 Option.bind (F95 (x.1.2.1,x.2.1.2)) fun b=>some b
 else some (false,())
def S140:Sig:=⟨P140,R140,F140⟩
noncomputable def E140:Env:={ tab:=tab.opt { flats:=[(93,L93)],owns:=[87],frzs:=[89,90,91] },nt:=17,Γ:=lookG [(95,[S95])],joins:=lookN [],loops:=lookN [] }
theorem raw140_eq (x:TBD×TBD×Unit):afun E140 Tryz.f140 P140 R140 x=F140 x:=by kernel_rfl
def F139a (x:List TBD×List TBD×Unit):Option (Bool×Unit):=
 bif !decide (Int.ofNat (List.length x.1)=Int.ofNat (List.length x.2.1)) then some (false,())
 else
 iterE (Int×Unit) (Bool×Unit)
 (fun (x_1:Int×Unit)=>
 bif decide (x_1.1 < Int.ofNat (List.length x.1)) then
 Option.bind (idx x.1 x_1.1)
 fun b=>
 Option.bind (idx x.2.1 x_1.1)
 fun b_1=>
 Option.bind (F140 (b,b_1,())) fun b=>
 bif !b.1 then some (Sum.inr (false,()))
 else some (Sum.inl (wrap64 (x_1.1+1),()))
 else some (Sum.inr (true,())))
 big (0,())
def S139a:Sig:=⟨P139a,R139a,F139a⟩
noncomputable def E139a:Env:={ tab:=tab.opt { flats:=[(93,L93)],owns:=[87],frzs:=[89,90,91] },nt:=32,Γ:=lookG [(140,[S140])],joins:=lookN [],loops:=lookN [(4,mkLoop ⟨[⟨.slot 17,(.int .i64),.pv⟩],[1,2,15,16],[]⟩)] }
theorem raw139a_eq (x:List TBD×List TBD×Unit):afun E139a Tryz.f139 P139a R139a x=F139a x:=by kernel_rfl
def F94 (x:List TBD×List TBD×Unit):Option (Bool×Unit):=
 Option.bind (F139a x) fun b=>some b
def S94:Sig:=⟨P94,R94,F94⟩
noncomputable def E94:Env:={ tab:=tab.opt { flats:=[(93,L93)],owns:=[87],frzs:=[89,90,91] },nt:=8,Γ:=lookG [(139,[S139a]),(140,[S140])],joins:=lookN [],loops:=lookN [] }
theorem raw94_eq (x:List TBD×List TBD×Unit):afun E94 Tryz.f94 P94 R94 x=F94 x:=by kernel_rfl
def F96 (x:T55D×T55D×Unit):Option (Bool×Unit):=
 bif decide (x.1.1=x.2.1.1) then
 bif decide (x.1.2.1=x.2.1.2.1) then
 Option.bind
 (F92
 ((0,[],[],[],0,0,0,[],[],[],0,0,0,false,[],x.1.2.2),
 (0,[],[],[],0,0,0,[],[],[],0,0,0,false,[],x.2.1.2.2),()))
 fun b=>some b
 else some (false,())
 else some (false,())
def S96:Sig:=⟨P96,R96,F96⟩
noncomputable def E96:Env:={ tab:=tab.opt { flats:=[(93,L93)],owns:=[87],frzs:=[89,90,91] },nt:=30,Γ:=lookG [(92,[S92])],joins:=lookN [],loops:=lookN [] }
theorem raw96_eq (x:T55D×T55D×Unit):afun E96 Tryz.f96 P96 R96 x=F96 x:=by kernel_rfl
def F64 (x:TMD×TMD×Unit):Option (Bool×Unit):=
 bif decide (x.1.1=x.2.1.1) then
 bif decide (x.1.2.1=x.2.1.2.1) then
 Option.bind (F91 (x.1.2.2.1,x.2.1.2.2.1,())) fun b=>
 bif b.1 then
 bif decide (x.1.2.2.2.1.1=x.2.1.2.2.2.1.1) then
 bif decide (x.1.2.2.2.1.2.1=x.2.1.2.2.2.1.2.1) then
 Option.bind (F92 (x.1.2.2.2.1.2.2.1,x.2.1.2.2.2.1.2.2))
 fun b=>
 bif b.1 then
 bif decide (x.1.2.2.2.2.1=x.2.1.2.2.2.2.1) then
 bif decide (x.1.2.2.2.2.2.1=x.2.1.2.2.2.2.2.1) then
 bif decide (x.1.2.2.2.2.2.2.1=x.2.1.2.2.2.2.2.2.1) then
 bif
 decide
 (x.1.2.2.2.2.2.2.2.1=x.2.1.2.2.2.2.2.2.2.1) then
 bif
 decide
 (x.1.2.2.2.2.2.2.2.2.1 =
 x.2.1.2.2.2.2.2.2.2.2.1) then
 bif
 decide
 (x.1.2.2.2.2.2.2.2.2.2.1 =
 x.2.1.2.2.2.2.2.2.2.2.2.1) then
 bif
 decide
 (x.1.2.2.2.2.2.2.2.2.2.2.1 =
 x.2.1.2.2.2.2.2.2.2.2.2.2.1) then
 Option.bind
 (F93
 (x.1.2.2.2.2.2.2.2.2.2.2.2.1,
 x.2.1.2.2.2.2.2.2.2.2.2.2.2.1,()))
 fun b=>
 bif b.1 then
 Option.bind
 (F94
 (x.1.2.2.2.2.2.2.2.2.2.2.2.2.1,
 x.2.1.2.2.2.2.2.2.2.2.2.2.2.2.1,()))
 fun b=>
 bif b.1 then
 Option.bind
 (F95
 (x.1.2.2.2.2.2.2.2.2.2.2.2.2.2.1,
 x.2.1.2.2.2.2.2.2.2.2.2.2.2.2.2.1,
 ()))
 fun b=>
 bif b.1 then
 bif
 x.1.2.2.2.2.2.2.2.2.2.2.2.2.2.2.1 ==
 x.2.1.2.2.2.2.2.2.2.2.2.2.2.2.2.2.1 then
 Option.bind
 (F96
 (x.1.2.2.2.2.2.2.2.2.2.2.2.2.2.2.2.1,
 x.2.1.2.2.2.2.2.2.2.2.2.2.2.2.2.2.2.1,
 ()))
 fun b=>
 bif b.1 then
 some
 (decide
 (x.1.2.2.2.2.2.2.2.2.2.2.2.2.2.2.2.2.1.1 =
 x.2.1.2.2.2.2.2.2.2.2.2.2.2.2.2.2.2.2.1.1) &&
 (decide
 (x.1.2.2.2.2.2.2.2.2.2.2.2.2.2.2.2.2.1.2.1 =
 x.2.1.2.2.2.2.2.2.2.2.2.2.2.2.2.2.2.2.1.2.1) &&
 (decide
 (x.1.2.2.2.2.2.2.2.2.2.2.2.2.2.2.2.2.1.2.2.1 =
 x.2.1.2.2.2.2.2.2.2.2.2.2.2.2.2.2.2.2.1.2.2.1) &&
 (decide
 (x.1.2.2.2.2.2.2.2.2.2.2.2.2.2.2.2.2.1.2.2.2.1 =
 x.2.1.2.2.2.2.2.2.2.2.2.2.2.2.2.2.2.2.1.2.2.2.1) &&
 (decide
 (x.1.2.2.2.2.2.2.2.2.2.2.2.2.2.2.2.2.1.2.2.2.2.1 =
 x.2.1.2.2.2.2.2.2.2.2.2.2.2.2.2.2.2.2.1.2.2.2.2.1) &&
 (decide
 (x.1.2.2.2.2.2.2.2.2.2.2.2.2.2.2.2.2.1.2.2.2.2.2.1 =
 x.2.1.2.2.2.2.2.2.2.2.2.2.2.2.2.2.2.2.1.2.2.2.2.2.1) &&
 (decide
 (x.1.2.2.2.2.2.2.2.2.2.2.2.2.2.2.2.2.1.2.2.2.2.2.2.1 =
 x.2.1.2.2.2.2.2.2.2.2.2.2.2.2.2.2.2.2.1.2.2.2.2.2.2.1) &&
 (decide
 (x.1.2.2.2.2.2.2.2.2.2.2.2.2.2.2.2.2.1.2.2.2.2.2.2.2.1 =
 x.2.1.2.2.2.2.2.2.2.2.2.2.2.2.2.2.2.2.1.2.2.2.2.2.2.2.1) &&
 (decide
 (x.1.2.2.2.2.2.2.2.2.2.2.2.2.2.2.2.2.1.2.2.2.2.2.2.2.2.1 =
 x.2.1.2.2.2.2.2.2.2.2.2.2.2.2.2.2.2.2.1.2.2.2.2.2.2.2.2.1) &&
 (decide
 (x.1.2.2.2.2.2.2.2.2.2.2.2.2.2.2.2.2.1.2.2.2.2.2.2.2.2.2.1 =
 x.2.1.2.2.2.2.2.2.2.2.2.2.2.2.2.2.2.2.1.2.2.2.2.2.2.2.2.2.1) &&
 true))))))))),
 ())
 else some (false,())
 else some (false,())
 else some (false,())
 else some (false,())
 else some (false,())
 else some (false,())
 else some (false,())
 else some (false,())
 else some (false,())
 else some (false,())
 else some (false,())
 else some (false,())
 else some (false,())
 else some (false,())
 else some (false,())
 else some (false,())
 else some (false,())
 else some (false,())
def S64:Sig:=⟨P64,R64,F64⟩
noncomputable def E64:Env:={ tab:=tab.opt { flats:=[(93,L93)],owns:=[87],frzs:=[89,90,91] },nt:=142,Γ:=lookG [(91,[S91]),(92,[S92]),(93,[S93]),(94,[S94]),(95,[S95]),(96,[S96])],joins:=lookN [],loops:=lookN [] }
theorem raw64_eq (x:TMD×TMD×Unit):afun E64 Tryz.f64 P64 R64 x=F64 x:=by kernel_rfl
def F65 (x:TMD×Unit):Option (TMD×Unit):=
 Option.bind
 (bif !decide (x.1.1=1) then some (Sum.inl (x.1.2.1,())) else some (Sum.inl (0,())))
 fun o=>
 Sum.elim
 (fun (x_1:Int×Unit)=>
 Option.bind
 (bif decide (x.1.1=1) then
 some
 (Sum.inl
 (x.1.2.2.1,
 (0,0,(0,[],[],[],0,0,0,[],[],[],0,0,0,false,[],[],[],()),()),0,
 [],[],0,0,0,0,(0,0,false,0,[],0,0,()),[],[],false,(0,0,[],[],()),
 (0,0,0,[],[],0,[],0,0,0,()),()))
 else
 bif decide (x.1.1=2) then
 some
 (Sum.inl
 ((0,0,0,0,0,0,0,0,false,[],(0,0,[],()),()),x.1.2.2.2.1,0,
 [],[],0,0,0,0,(0,0,false,0,[],0,0,()),[],[],false,
 (0,0,[],[],()),(0,0,0,[],[],0,[],0,0,0,()),()))
 else
 bif decide (x.1.1=3) then
 some
 (Sum.inl
 ((0,0,0,0,0,0,0,0,false,[],(0,0,[],()),()),
 (0,0,(0,[],[],[],0,0,0,[],[],[],0,0,0,false,[],[],[],()),()),
 x.1.2.2.2.2.1,x.1.2.2.2.2.2.1,x.1.2.2.2.2.2.2.1,
 x.1.2.2.2.2.2.2.2.1,x.1.2.2.2.2.2.2.2.2.1,0,0,
 (0,0,false,0,[],0,0,()),[],[],false,(0,0,[],[],()),
 (0,0,0,[],[],0,[],0,0,0,()),()))
 else
 bif decide (x.1.1=4) then
 some
 (Sum.inl
 ((0,0,0,0,0,0,0,0,false,[],(0,0,[],()),()),
 (0,0,(0,[],[],[],0,0,0,[],[],[],0,0,0,false,[],[],[],()),
 ()),
 x.1.2.2.2.2.1,x.1.2.2.2.2.2.1,x.1.2.2.2.2.2.2.1,
 x.1.2.2.2.2.2.2.2.1,0,0,0,(0,0,false,0,[],0,0,()),[],[],
 false,(0,0,[],[],()),(0,0,0,[],[],0,[],0,0,0,()),()))
 else
 bif decide (x.1.1=5) then
 some
 (Sum.inl
 ((0,0,0,0,0,0,0,0,false,[],(0,0,[],()),()),
 (0,0,(0,[],[],[],0,0,0,[],[],[],0,0,0,false,[],[],[],()),
 ()),
 0,x.1.2.2.2.2.2.1,x.1.2.2.2.2.2.2.1,
 x.1.2.2.2.2.2.2.2.1,0,0,0,(0,0,false,0,[],0,0,()),[],
 [],false,(0,0,[],[],()),(0,0,0,[],[],0,[],0,0,0,()),
 ()))
 else
 bif decide (x.1.1=6) then
 some
 (Sum.inl
 ((0,0,0,0,0,0,0,0,false,[],(0,0,[],()),()),
 (0,0,(0,[],[],[],0,0,0,[],[],[],0,0,0,false,[],[],[],()),
 ()),
 0,[],[],x.1.2.2.2.2.2.2.2.1,0,0,0,
 (0,0,false,0,[],0,0,()),[],[],false,(0,0,[],[],()),
 (0,0,0,[],[],0,[],0,0,0,()),()))
 else
 bif decide (x.1.1=8) then
 some
 (Sum.inl
 ((0,0,0,0,0,0,0,0,false,[],(0,0,[],()),()),
 (0,0,(0,[],[],[],0,0,0,[],[],[],0,0,0,false,[],[],[],()),
 ()),
 0,[],[],0,0,x.1.2.2.2.2.2.2.2.2.2.1,
 x.1.2.2.2.2.2.2.2.2.2.2.1,
 x.1.2.2.2.2.2.2.2.2.2.2.2.1,[],[],false,
 (0,0,[],[],()),(0,0,0,[],[],0,[],0,0,0,()),()))
 else
 bif decide (x.1.1=9) then
 some
 (Sum.inl
 ((0,0,0,0,0,0,0,0,false,[],(0,0,[],()),()),
 (0,0,(0,[],[],[],0,0,0,[],[],[],0,0,0,false,[],[],[],()),
 ()),
 0,[],[],x.1.2.2.2.2.2.2.2.1,0,
 x.1.2.2.2.2.2.2.2.2.2.1,0,
 (0,0,false,0,[],0,0,()),
 x.1.2.2.2.2.2.2.2.2.2.2.2.2.1,[],false,
 (0,0,[],[],()),(0,0,0,[],[],0,[],0,0,0,()),()))
 else
 bif decide (x.1.1=10) then
 some
 (Sum.inl
 ((0,0,0,0,0,0,0,0,false,[],(0,0,[],()),()),
 (0,0,(0,[],[],[],0,0,0,[],[],[],0,0,0,false,[],[],[],()),
 ()),
 0,[],[],0,0,x.1.2.2.2.2.2.2.2.2.2.1,0,
 (0,0,false,0,[],0,0,()),[],
 x.1.2.2.2.2.2.2.2.2.2.2.2.2.2.1,
 x.1.2.2.2.2.2.2.2.2.2.2.2.2.2.2.1,
 (0,0,[],[],()),(0,0,0,[],[],0,[],0,0,0,()),
 ()))
 else
 bif decide (x.1.1=11) then
 some
 (Sum.inl
 ((0,0,0,0,0,0,0,0,false,[],(0,0,[],()),()),
 (0,0,(0,[],[],[],0,0,0,[],[],[],0,0,0,false,[],[],[],()),
 ()),
 0,[],[],0,0,x.1.2.2.2.2.2.2.2.2.2.1,0,
 (0,0,false,0,[],0,0,()),[],[],false,
 x.1.2.2.2.2.2.2.2.2.2.2.2.2.2.2.2.1,
 (0,0,0,[],[],0,[],0,0,0,()),()))
 else
 bif decide (x.1.1=12) then
 some
 (Sum.inl
 ((0,0,0,0,0,0,0,0,false,[],(0,0,[],()),()),
 (0,0,
 (0,[],[],[],0,0,0,[],[],[],0,0,0,false,[],[],[],()),
 ()),
 0,[],[],x.1.2.2.2.2.2.2.2.1,0,0,0,
 (0,0,false,0,[],0,0,()),[],[],false,(0,0,[],[],()),
 x.1.2.2.2.2.2.2.2.2.2.2.2.2.2.2.2.2))
 else
 some
 (Sum.inl
 ((0,0,0,0,0,0,0,0,false,[],(0,0,[],()),()),
 (0,0,
 (0,[],[],[],0,0,0,[],[],[],0,0,0,false,[],[],[],()),
 ()),
 0,[],[],0,0,0,0,(0,0,false,0,[],0,0,()),[],[],false,
 (0,0,[],[],()),(0,0,0,[],[],0,[],0,0,0,()),
 ())))
 fun o=>
 Sum.elim
 (fun (x_2 :
 (Int×Int×Int×Int×Int×Int×Int×Int×Bool×List T25D×T25D×Unit)×(Int×Int×(Int×List UInt8×List UInt8×List UInt8×Int×Int×Int×List T96D×List T48D×List T48D×Int×Int×Int×Bool×List
 T70D×List
 (Int×Int×(Int×Int×Bool×Int×List
 T70D×Y22D)×Unit)×List T113D×Unit)×Unit)×Int×List UInt8×List UInt8×Int×Int×Int×Int×(Int×Int×Bool×Int×List
 T70D×Y22D)×List
 (Int×List
 T70D×Unit)×List
 T70D×Bool×(Int×Int×List
 (Int×Int×(Int×Int×Bool×Int×List
 T70D×Y22D)×Unit)×List T113D×Unit)×T53D×Unit)=>
 some ((x.1.1,x_1.1,x_2),()))
 some o)
 some o
def S65:Sig:=⟨P65,R65,F65⟩
noncomputable def E65:Env:={ tab:=tab.opt { flats:=[(93,L93)],owns:=[87],frzs:=[89,90,91] },nt:=122,Γ:=lookG [],joins:=lookN [(4,⟨[⟨.fld 1004000 1,(.int .i64),.pv⟩],[1,2,3],[.site 1004000,.fld 1004000 0,.fld 1004000 2,.fld 1004000 3,.fld 1004000 4,.fld 1004000 5,.fld 1004000 6,.fld 1004000 7,.fld 1004000 8,.fld 1004000 9,.fld 1004000 10,.fld 1004000 11,.fld 1004000 12,.fld 1004000 13,.fld 1004000 14,.fld 1004000 15,.fld 1004000 16,.site 2000,.fld 2000 0,.fld 2000 1,.fld 2000 2,.fld 2000 3,.fld 2000 4,.fld 2000 5,.fld 2000 6,.fld 2000 7,.fld 2000 8,.fld 2000 9,.fld 2000 10,.fld 2000 11,.fld 2000 12,.fld 2000 13,.fld 2000 14,.fld 2000 15,.fld 2000 16,.site 1000,.fld 1000 0,.fld 1000 1,.fld 1000 2,.fld 1000 3,.fld 1000 4,.fld 1000 5,.fld 1000 6,.fld 1000 7,.fld 1000 8,.fld 1000 9,.fld 1000 10,.fld 1000 11,.fld 1000 12,.fld 1000 13,.fld 1000 14,.fld 1000 15,.fld 1000 16]⟩),(27,⟨[⟨.fld 1004000 2,T27,.pv⟩,⟨.fld 1004000 3,T33,.pv⟩,⟨.fld 1004000 4,(.int .i64),.pv⟩,⟨.fld 1004000 5,.str,.pv⟩,⟨.fld 1004000 6,.str,.pv⟩,⟨.fld 1004000 7,(.int .i64),.pv⟩,⟨.fld 1004000 8,(.int .i64),.pv⟩,⟨.fld 1004000 9,(.int .i64),.pv⟩,⟨.fld 1004000 10,(.int .i64),.pv⟩,⟨.fld 1004000 11,T51,.pv⟩,⟨.fld 1004000 12,(.slice TB),.pv⟩,⟨.fld 1004000 13,(.slice T70),.pv⟩,⟨.fld 1004000 14,.bool,.pv⟩,⟨.fld 1004000 15,T55,.pv⟩,⟨.fld 1004000 16,T53,.pv⟩],[2,3],[.site 1004000,.fld 1004000 0,.fld 1004000 1,.site 2000,.fld 2000 0,.fld 2000 1,.fld 2000 2,.fld 2000 3,.fld 2000 4,.fld 2000 5,.fld 2000 6,.fld 2000 7,.fld 2000 8,.fld 2000 9,.fld 2000 10,.fld 2000 11,.fld 2000 12,.fld 2000 13,.fld 2000 14,.fld 2000 15,.fld 2000 16]⟩)],loops:=lookN [] }
theorem raw65_eq (x:TMD×Unit):afun E65 Tryz.f65 P65 R65 x=F65 x:=by kernel_rfl
def F97 (x:T27D×Unit):Option (T27D×Bool×Unit):=
 Option.bind
 (bif decide (x.1.1=1) then
 bif decide (x.1.1=1) then
 some
 (Sum.inl
 (x.1.2.2.2.2.1,x.1.2.2.2.2.2.1,0,0,false,[],(0,0,[],()),0,0,0,
 0,0,0,0,0,false,[],(0,0,[],()),()))
 else
 bif decide (x.1.1=2) then
 bif decide (x.1.1=2) then
 some
 (Sum.inl
 (0,0,0,0,x.1.2.2.2.2.2.2.2.2.1,[],(0,0,[],()),0,0,0,0,0,0,0,
 0,false,[],(0,0,[],()),()))
 else
 bif decide (x.1.1=5) then
 some
 (Sum.inl
 (x.1.2.2.2.2.1,x.1.2.2.2.2.2.1,x.1.2.2.2.2.2.2.1,
 x.1.2.2.2.2.2.2.2.1,false,x.1.2.2.2.2.2.2.2.2.2.1,
 (0,0,[],()),0,0,0,0,0,0,0,0,false,[],(0,0,[],()),()))
 else
 bif decide (x.1.1=6) then
 some
 (Sum.inl
 (x.1.2.2.2.2.1,0,0,x.1.2.2.2.2.2.2.2.1,
 x.1.2.2.2.2.2.2.2.2.1,[],(0,0,[],()),0,0,0,0,0,0,0,0,
 false,[],(0,0,[],()),()))
 else
 bif decide (x.1.1=7) then
 some
 (Sum.inl
 (0,0,0,0,false,[],x.1.2.2.2.2.2.2.2.2.2.2.1,0,0,0,0,0,0,0,0,
 false,[],(0,0,[],()),()))
 else
 some
 (Sum.inr
 ((0,0,0,0,0,0,0,0,false,[],(0,0,[],()),()),false,()))
 else
 bif decide (x.1.1=4) then
 some
 (Sum.inl
 (0,0,0,0,x.1.2.2.2.2.2.2.2.2.1,[],(0,0,[],()),0,0,0,0,0,0,0,
 0,false,[],(0,0,[],()),()))
 else
 bif decide (x.1.1=5) then
 some
 (Sum.inl
 (x.1.2.2.2.2.1,x.1.2.2.2.2.2.1,x.1.2.2.2.2.2.2.1,
 x.1.2.2.2.2.2.2.2.1,false,x.1.2.2.2.2.2.2.2.2.2.1,
 (0,0,[],()),0,0,0,0,0,0,0,0,false,[],(0,0,[],()),()))
 else
 bif decide (x.1.1=6) then
 some
 (Sum.inl
 (x.1.2.2.2.2.1,0,0,x.1.2.2.2.2.2.2.2.1,
 x.1.2.2.2.2.2.2.2.2.1,[],(0,0,[],()),0,0,0,0,0,0,0,0,
 false,[],(0,0,[],()),()))
 else
 bif decide (x.1.1=7) then
 some
 (Sum.inl
 (0,0,0,0,false,[],x.1.2.2.2.2.2.2.2.2.2.2.1,0,0,0,0,0,0,0,0,
 false,[],(0,0,[],()),()))
 else
 some
 (Sum.inr
 ((0,0,0,0,0,0,0,0,false,[],(0,0,[],()),()),false,()))
 else
 bif decide (x.1.1=3) then
 some
 (Sum.inl
 (x.1.2.2.2.2.1,x.1.2.2.2.2.2.1,0,0,false,[],(0,0,[],()),0,0,0,
 0,0,0,0,0,false,[],(0,0,[],()),()))
 else
 bif decide (x.1.1=2) then
 bif decide (x.1.1=2) then
 some
 (Sum.inl
 (0,0,0,0,x.1.2.2.2.2.2.2.2.2.1,[],(0,0,[],()),0,0,0,0,0,0,0,
 0,false,[],(0,0,[],()),()))
 else
 bif decide (x.1.1=5) then
 some
 (Sum.inl
 (x.1.2.2.2.2.1,x.1.2.2.2.2.2.1,x.1.2.2.2.2.2.2.1,
 x.1.2.2.2.2.2.2.2.1,false,x.1.2.2.2.2.2.2.2.2.2.1,
 (0,0,[],()),0,0,0,0,0,0,0,0,false,[],(0,0,[],()),()))
 else
 bif decide (x.1.1=6) then
 some
 (Sum.inl
 (x.1.2.2.2.2.1,0,0,x.1.2.2.2.2.2.2.2.1,
 x.1.2.2.2.2.2.2.2.2.1,[],(0,0,[],()),0,0,0,0,0,0,0,0,
 false,[],(0,0,[],()),()))
 else
 bif decide (x.1.1=7) then
 some
 (Sum.inl
 (0,0,0,0,false,[],x.1.2.2.2.2.2.2.2.2.2.2.1,0,0,0,0,0,0,0,0,
 false,[],(0,0,[],()),()))
 else
 some
 (Sum.inr
 ((0,0,0,0,0,0,0,0,false,[],(0,0,[],()),()),false,()))
 else
 bif decide (x.1.1=4) then
 some
 (Sum.inl
 (0,0,0,0,x.1.2.2.2.2.2.2.2.2.1,[],(0,0,[],()),0,0,0,0,0,0,0,
 0,false,[],(0,0,[],()),()))
 else
 bif decide (x.1.1=5) then
 some
 (Sum.inl
 (x.1.2.2.2.2.1,x.1.2.2.2.2.2.1,x.1.2.2.2.2.2.2.1,
 x.1.2.2.2.2.2.2.2.1,false,x.1.2.2.2.2.2.2.2.2.2.1,
 (0,0,[],()),0,0,0,0,0,0,0,0,false,[],(0,0,[],()),()))
 else
 bif decide (x.1.1=6) then
 some
 (Sum.inl
 (x.1.2.2.2.2.1,0,0,x.1.2.2.2.2.2.2.2.1,
 x.1.2.2.2.2.2.2.2.2.1,[],(0,0,[],()),0,0,0,0,0,0,0,0,
 false,[],(0,0,[],()),()))
 else
 bif decide (x.1.1=7) then
 some
 (Sum.inl
 (0,0,0,0,false,[],x.1.2.2.2.2.2.2.2.2.2.2.1,0,0,0,0,0,0,0,0,
 false,[],(0,0,[],()),()))
 else
 some
 (Sum.inr
 ((0,0,0,0,0,0,0,0,false,[],(0,0,[],()),()),false,())))
 fun o=>
 Sum.elim
 (fun (x_1 :
 Int×Int×Int×Int×Bool×List T25D×T25D×Int×Int×Int×Int×Int×Int×Int×Int×Bool×List T25D×T25D×Unit)=>
 some
 ((x.1.1,x.1.2.1,x.1.2.2.1,x.1.2.2.2.1,x_1.1,x_1.2.1,x_1.2.2.1,
 x_1.2.2.2.1,x_1.2.2.2.2.1,x_1.2.2.2.2.2.1,
 x_1.2.2.2.2.2.2.1,()),
 true,()))
 some o
def S97:Sig:=⟨P97,R97,F97⟩
noncomputable def E97:Env:={ tab:=tab.opt { flats:=[(93,L93)],owns:=[87],frzs:=[89,90,91] },nt:=66,Γ:=lookG [],joins:=lookN [(16,⟨[⟨.fld 1010000 4,(.int .i64),.pv⟩,⟨.fld 1010000 5,(.int .i64),.pv⟩,⟨.fld 1010000 6,(.int .i64),.pv⟩,⟨.fld 1010000 7,(.int .i64),.pv⟩,⟨.fld 1010000 8,.bool,.pv⟩,⟨.fld 1010000 9,(.slice T25),.pv⟩,⟨.fld 1010000 10,T25,.pv⟩,⟨.fld 2000 0,(.int .i64),.pv⟩,⟨.fld 2000 1,(.int .i64),.pv⟩,⟨.fld 2000 2,(.int .i64),.pv⟩,⟨.fld 2000 3,(.int .i64),.pv⟩,⟨.fld 2000 4,(.int .i64),.pv⟩,⟨.fld 2000 5,(.int .i64),.pv⟩,⟨.fld 2000 6,(.int .i64),.pv⟩,⟨.fld 2000 7,(.int .i64),.pv⟩,⟨.fld 2000 8,.bool,.pv⟩,⟨.fld 2000 9,(.slice T25),.own false⟩,⟨.fld 2000 10,T25,.pv⟩],[2,4],[.site 1010000,.fld 1010000 0,.fld 1010000 1,.fld 1010000 2,.fld 1010000 3,.site 2000]⟩)],loops:=lookN [] }
theorem raw97_eq (x:T27D×Unit):afun E97 Tryz.f97 P97 R97 x=F97 x:=by kernel_rfl
def F98 (x:Int×Unit):Option (Bool×Unit):=bif decide (0≤x.1) then some (decide (x.1 < 3),()) else some (false,())
def S98:Sig:=⟨P98,R98,F98⟩
noncomputable def E98:Env:={ tab:=tab.opt { flats:=[(93,L93)],owns:=[87],frzs:=[89,90,91] },nt:=9,Γ:=lookG [],joins:=lookN [],loops:=lookN [] }
theorem raw98_eq (x:Int×Unit):afun E98 Tryz.f98 P98 R98 x=F98 x:=by kernel_rfl
def F99 (x:List Int×Unit):Option (Bool×Unit):=
 iterE (Int×Unit) (Bool×Unit)
 (fun (x_1:Int×Unit)=>
 bif decide (x_1.1 < Int.ofNat (List.length x.1)) then
 Option.bind (idx x.1 x_1.1) fun b=>
 bif decide (b < 0) then some (Sum.inr (false,()))
 else
 bif decide (1099511627776 < b) then some (Sum.inr (false,()))
 else some (Sum.inl (wrap64 (x_1.1+1),()))
 else some (Sum.inr (true,())))
 big (0,())
def S99:Sig:=⟨P99,R99,F99⟩
noncomputable def E99:Env:={ tab:=tab.opt { flats:=[(93,L93)],owns:=[87],frzs:=[89,90,91] },nt:=18,Γ:=lookG [],joins:=lookN [],loops:=lookN [(2,mkLoop ⟨[⟨.slot 7,(.int .i64),.pv⟩],[5,6],[]⟩)] }
theorem raw99_eq (x:List Int×Unit):afun E99 Tryz.f99 P99 R99 x=F99 x:=by kernel_rfl
def F142 (x:Int×Unit):Option (Bool×Unit):=
 bif decide (1≤x.1) then some (decide (x.1≤1099511627776),()) else some (false,())
def S142:Sig:=⟨P142,R142,F142⟩
noncomputable def E142:Env:={ tab:=tab.opt { flats:=[(93,L93)],owns:=[87],frzs:=[89,90,91] },nt:=9,Γ:=lookG [],joins:=lookN [],loops:=lookN [] }
theorem raw142_eq (x:Int×Unit):afun E142 Tryz.f142 P142 R142 x=F142 x:=by kernel_rfl
def F141 (x:T25D×Unit):Option (Bool×Unit):=
 Option.bind (F142 (x.1.1,())) fun b=>
 bif b.1 then
 Option.bind (F142 (x.1.2.1,())) fun b=>
 bif b.1 then some (decide (Int.ofNat (List.length x.1.2.2.1)≤12000),())
 else some (false,())
 else some (false,())
def S141:Sig:=⟨P141,R141,F141⟩
noncomputable def E141:Env:={ tab:=tab.opt { flats:=[(93,L93)],owns:=[87],frzs:=[89,90,91] },nt:=17,Γ:=lookG [(142,[S142])],joins:=lookN [],loops:=lookN [] }
theorem raw141_eq (x:T25D×Unit):afun E141 Tryz.f141 P141 R141 x=F141 x:=by kernel_rfl
def F100 (x:Int×Int×List T25D×Unit):Option (Bool×Unit):=
 iterE T113D (Bool×Unit)
 (fun (x_1:T113D)=>
 bif decide (x_1.2.2.1 < Int.ofNat (List.length x.2.2.1)) then
 Option.bind (idx x.2.2.1 x_1.2.2.1) fun b=>
 Option.bind (F141 (b,())) fun b_1=>
 bif !b_1.1 then some (Sum.inr (false,()))
 else
 bif !decide (wrap64 (b.1 - 1)=x_1.1) then some (Sum.inr (false,()))
 else
 bif decide (b.2.1 < x_1.2.1) then some (Sum.inr (false,()))
 else some (Sum.inl (b.1,b.2.1,wrap64 (x_1.2.2.1+1),()))
 else some (Sum.inr (true,())))
 big (x.1,x.2.1,0,())
def S100:Sig:=⟨P100,R100,F100⟩
noncomputable def E100:Env:={ tab:=tab.opt { flats:=[(93,L93)],owns:=[87],frzs:=[89,90,91] },nt:=36,Γ:=lookG [(141,[S141])],joins:=lookN [],loops:=lookN [(2,mkLoop ⟨[⟨.slot 0,(.int .i64),.pv⟩,⟨.slot 1,(.int .i64),.pv⟩,⟨.slot 11,(.int .i64),.pv⟩],[9,10],[]⟩)] }
theorem raw100_eq (x:Int×Int×List T25D×Unit):afun E100 Tryz.f100 P100 R100 x=F100 x:=by kernel_rfl
def F101 (x:T25D×Unit):Option (Bool×Unit):=
 Option.bind
 (bif decide (x.1.1=0) then
 bif decide (x.1.2.1=0) then
 some (Sum.inr (decide (Int.ofNat (List.length x.1.2.2.1)=0),()))
 else some (Sum.inl ())
 else some (Sum.inl ()))
 fun o=>
 Sum.elim
 (fun (_z:Unit)=>
 Option.bind (F142 (x.1.1,())) fun b=>
 bif b.1 then
 Option.bind (F142 (x.1.2.1,())) fun b=>
 bif b.1 then some (decide (Int.ofNat (List.length x.1.2.2.1)≤50000),())
 else some (false,())
 else some (false,()))
 some o
def S101:Sig:=⟨P101,R101,F101⟩
noncomputable def E101:Env:={ tab:=tab.opt { flats:=[(93,L93)],owns:=[87],frzs:=[89,90,91] },nt:=29,Γ:=lookG [(142,[S142])],joins:=lookN [(3,⟨[],[1],[.site 1000,.fld 1000 0,.fld 1000 1,.fld 1000 2]⟩)],loops:=lookN [] }
theorem raw101_eq (x:T25D×Unit):afun E101 Tryz.f101 P101 R101 x=F101 x:=by kernel_rfl
def F66 (x:T27D×Unit):Option (Bool×Unit):=
 Option.bind (F97 x)
 fun b=>
 bif !b.2.1 then some (false,())
 else
 Option.bind (F91 (b.1,x)) fun b=>
 bif !b.1 then some (false,())
 else
 Option.bind (F98 (x.1.2.1,())) fun b=>
 bif !b.1 then some (false,())
 else
 Option.bind (F98 (x.1.2.2.1,())) fun b=>
 bif !b.1 then some (false,())
 else
 bif decide (x.1.2.1=x.1.2.2.1) then some (false,())
 else
 bif decide (x.1.2.2.2.1 < 1) then some (false,())
 else
 Option.bind
 (F99
 ([x.1.2.2.2.1,x.1.2.2.2.2.1,x.1.2.2.2.2.2.1,
 x.1.2.2.2.2.2.2.1,x.1.2.2.2.2.2.2.2.1],
 ()))
 fun b=>
 bif !b.1 then some (false,())
 else
 bif decide (4 < Int.ofNat (List.length x.1.2.2.2.2.2.2.2.2.2.1)) then
 some (false,())
 else
 Option.bind
 (F100
 (x.1.2.2.2.2.1,x.1.2.2.2.2.2.1,
 x.1.2.2.2.2.2.2.2.2.2.1,()))
 fun b=>
 bif !b.1 then some (false,())
 else
 iterE (Int×Unit) (Bool×Unit)
 (fun (x_1:Int×Unit)=>
 bif
 decide
 (x_1.1 <
 Int.ofNat (List.length x.1.2.2.2.2.2.2.2.2.2.1)) then
 Option.bind (idx x.1.2.2.2.2.2.2.2.2.2.1 x_1.1)
 fun b=>
 bif decide (x.1.2.2.2.1 < b.2.1) then
 some (Sum.inr (false,()))
 else some (Sum.inl (wrap64 (x_1.1+1),()))
 else
 Option.map Sum.inr
 (bif !decide (x.1.1=7) then some (true,())
 else
 Option.bind (F101 x.1.2.2.2.2.2.2.2.2.2.2)
 fun b=>
 bif b.1 then
 some
 (decide (0 < x.1.2.2.2.2.2.2.2.2.2.2.1.1),
 ())
 else some (false,())))
 big (0,())
def S66:Sig:=⟨P66,R66,F66⟩
noncomputable def E66:Env:={ tab:=tab.opt { flats:=[(93,L93)],owns:=[87],frzs:=[89,90,91] },nt:=100,Γ:=lookG [(91,[S91]),(97,[S97]),(98,[S98]),(99,[S99]),(100,[S100]),(101,[S101])],joins:=lookN [],loops:=lookN [(7,mkLoop ⟨[⟨.slot 76,(.int .i64),.pv⟩],[1,74,75],[.site 1000,.fld 1000 0,.fld 1000 1,.fld 1000 2,.fld 1000 3,.fld 1000 4,.fld 1000 5,.fld 1000 6,.fld 1000 7,.fld 1000 8,.fld 1000 9,.fld 1000 10]⟩)] }
theorem raw66_eq (x:T27D×Unit):afun E66 Tryz.f66 P66 R66 x=F66 x:=by kernel_rfl
def F67 (x:Int×Int×Int×Unit):Option (Bool×Unit):=
 bif decide (x.2.1≤x.1) then some (decide (x.1≤x.2.2.1),()) else some (false,())
def S67:Sig:=⟨P67,R67,F67⟩
noncomputable def E67:Env:={ tab:=tab.opt { flats:=[(93,L93)],owns:=[87],frzs:=[89,90,91] },nt:=15,Γ:=lookG [],joins:=lookN [],loops:=lookN [] }
theorem raw67_eq (x:Int×Int×Int×Unit):afun E67 Tryz.f67 P67 R67 x=F67 x:=by kernel_rfl
def F144 (x:Int×Int×Int×Unit):Option (Bool×Unit):=
 bif decide (x.2.1≤x.1) then some (decide (x.1≤x.2.2.1),()) else some (false,())
def S144:Sig:=⟨P144,R144,F144⟩
noncomputable def E144:Env:={ tab:=tab.opt { flats:=[(93,L93)],owns:=[87],frzs:=[89,90,91] },nt:=15,Γ:=lookG [],joins:=lookN [],loops:=lookN [] }
theorem raw144_eq (x:Int×Int×Int×Unit):afun E144 Tryz.f144 P144 R144 x=F144 x:=by kernel_rfl
def F176 (x:Int×Unit):Option (Bool×Unit):=
 Option.bind (F144 (x.1,1,1099511627776,())) fun b=>some (!b.1,())
def S176:Sig:=⟨P176,R176,F176⟩
noncomputable def E176:Env:={ tab:=tab.opt { flats:=[(93,L93)],owns:=[87],frzs:=[89,90,91] },nt:=6,Γ:=lookG [(144,[S144])],joins:=lookN [],loops:=lookN [] }
theorem raw176_eq (x:Int×Unit):afun E176 Tryz.f176 P176 R176 x=F176 x:=by kernel_rfl
def F188a (x:List Int×Unit):Option (Int×Unit):=
 iterE (Int×Unit) (Int×Unit)
 (fun (x_1:Int×Unit)=>
 bif decide (x_1.1 < Int.ofNat (List.length x.1)) then
 Option.bind (idx x.1 x_1.1) fun b=>
 Option.bind (F176 (b,())) fun b=>
 bif b.1 then some (Sum.inr x_1) else some (Sum.inl (wrap64 (x_1.1+1),()))
 else some (Sum.inr (-1,())))
 big (0,())
def S188a:Sig:=⟨P188a,R188a,F188a⟩
noncomputable def E188a:Env:={ tab:=tab.opt { flats:=[(93,L93)],owns:=[87],frzs:=[89,90,91] },nt:=19,Γ:=lookG [(176,[S176])],joins:=lookN [],loops:=lookN [(2,mkLoop ⟨[⟨.slot 8,(.int .i64),.pv⟩],[0,1,7],[]⟩)] }
theorem raw188a_eq (x:List Int×Unit):afun E188a Tryz.f188 P188a R188a x=F188a x:=by kernel_rfl
def F175a (x:List Int×Unit):Option (Bool×Unit):=Option.bind (F188a x) fun b=>some (decide (0≤b.1),())
def S175a:Sig:=⟨P175a,R175a,F175a⟩
noncomputable def E175a:Env:={ tab:=tab.opt { flats:=[(93,L93)],owns:=[87],frzs:=[89,90,91] },nt:=9,Γ:=lookG [(176,[S176]),(188,[S188a])],joins:=lookN [],loops:=lookN [] }
theorem raw175a_eq (x:List Int×Unit):afun E175a Tryz.f175 P175a R175a x=F175a x:=by kernel_rfl
def F145 (x:List Int×Unit):Option (Bool×Unit):=Option.bind (F175a x) fun b=>some (!b.1,())
def S145:Sig:=⟨P145,R145,F145⟩
noncomputable def E145:Env:={ tab:=tab.opt { flats:=[(93,L93)],owns:=[87],frzs:=[89,90,91] },nt:=6,Γ:=lookG [(175,[S175a]),(176,[S176])],joins:=lookN [],loops:=lookN [] }
theorem raw145_eq (x:List Int×Unit):afun E145 Tryz.f145 P145 R145 x=F145 x:=by kernel_rfl
def F177 (x:Int×Unit):Option (Bool×Unit):=
 Option.bind (F144 (x.1,0,1099511627776,())) fun b=>some (!b.1,())
def S177:Sig:=⟨P177,R177,F177⟩
noncomputable def E177:Env:={ tab:=tab.opt { flats:=[(93,L93)],owns:=[87],frzs:=[89,90,91] },nt:=6,Γ:=lookG [(144,[S144])],joins:=lookN [],loops:=lookN [] }
theorem raw177_eq (x:Int×Unit):afun E177 Tryz.f177 P177 R177 x=F177 x:=by kernel_rfl
def F188b (x:List Int×Unit):Option (Int×Unit):=
 iterE (Int×Unit) (Int×Unit)
 (fun (x_1:Int×Unit)=>
 bif decide (x_1.1 < Int.ofNat (List.length x.1)) then
 Option.bind (idx x.1 x_1.1) fun b=>
 Option.bind (F177 (b,())) fun b=>
 bif b.1 then some (Sum.inr x_1) else some (Sum.inl (wrap64 (x_1.1+1),()))
 else some (Sum.inr (-1,())))
 big (0,())
def S188b:Sig:=⟨P188b,R188b,F188b⟩
noncomputable def E188b:Env:={ tab:=tab.opt { flats:=[(93,L93)],owns:=[87],frzs:=[89,90,91] },nt:=19,Γ:=lookG [(177,[S177])],joins:=lookN [],loops:=lookN [(2,mkLoop ⟨[⟨.slot 8,(.int .i64),.pv⟩],[0,1,7],[]⟩)] }
theorem raw188b_eq (x:List Int×Unit):afun E188b Tryz.f188 P188b R188b x=F188b x:=by kernel_rfl
def F175b (x:List Int×Unit):Option (Bool×Unit):=Option.bind (F188b x) fun b=>some (decide (0≤b.1),())
def S175b:Sig:=⟨P175b,R175b,F175b⟩
noncomputable def E175b:Env:={ tab:=tab.opt { flats:=[(93,L93)],owns:=[87],frzs:=[89,90,91] },nt:=9,Γ:=lookG [(177,[S177]),(188,[S188a,S188b])],joins:=lookN [],loops:=lookN [] }
theorem raw175b_eq (x:List Int×Unit):afun E175b Tryz.f175 P175b R175b x=F175b x:=by kernel_rfl
def F146 (x:List Int×Unit):Option (Bool×Unit):=Option.bind (F175b x) fun b=>some (!b.1,())
def S146:Sig:=⟨P146,R146,F146⟩
noncomputable def E146:Env:={ tab:=tab.opt { flats:=[(93,L93)],owns:=[87],frzs:=[89,90,91] },nt:=6,Γ:=lookG [(175,[S175a,S175b]),(177,[S177])],joins:=lookN [],loops:=lookN [] }
theorem raw146_eq (x:List Int×Unit):afun E146 Tryz.f146 P146 R146 x=F146 x:=by kernel_rfl
def F189 (x:Int×Unit):Option (Bool×Unit):=
 bif decide (1≤x.1) then some (decide (x.1≤1099511627776),()) else some (false,())
def S189:Sig:=⟨P189,R189,F189⟩
noncomputable def E189:Env:={ tab:=tab.opt { flats:=[(93,L93)],owns:=[87],frzs:=[89,90,91] },nt:=9,Γ:=lookG [],joins:=lookN [],loops:=lookN [] }
theorem raw189_eq (x:Int×Unit):afun E189 Tryz.f189 P189 R189 x=F189 x:=by kernel_rfl
def F179 (x:T66D×Unit):Option (Bool×Unit):=
 Option.bind (F189 (x.1.1,())) fun b=>
 bif !b.1 then some (false,())
 else
 Option.bind (F189 (x.1.2.2.1,())) fun b=>
 bif !b.1 then some (false,())
 else
 bif x.1.2.2.2.2.2.2.1 then
 bif decide (x.1.2.1=0) then
 bif decide (x.1.2.2.2.1=0) then
 bif decide (x.1.2.2.2.2.2.1=0) then
 some (decide (x.1.2.2.2.2.1=[]),())
 else some (false,())
 else some (false,())
 else some (false,())
 else
 bif decide (1≤x.1.2.1) then
 bif decide (x.1.2.1≤x.1.2.2.1) then
 Option.bind (F189 (x.1.2.2.2.1,())) fun b=>
 bif b.1 then
 bif decide (Int.ofNat (List.length x.1.2.2.2.2.1)≤40) then
 bif decide (-1099511627776≤x.1.2.2.2.2.2.1) then
 some (decide (x.1.2.2.2.2.2.1≤1099511627776),())
 else some (false,())
 else some (false,())
 else some (false,())
 else some (false,())
 else some (false,())
def S179:Sig:=⟨P179,R179,F179⟩
noncomputable def E179:Env:={ tab:=tab.opt { flats:=[(93,L93)],owns:=[87],frzs:=[89,90,91] },nt:=64,Γ:=lookG [(189,[S189])],joins:=lookN [],loops:=lookN [] }
theorem raw179_eq (x:T66D×Unit):afun E179 Tryz.f179 P179 R179 x=F179 x:=by kernel_rfl
def F151 (x:List T66D×Unit):Option (Bool×Unit):=
 iterE (Int×Unit) (Bool×Unit)
 (fun (x_1:Int×Unit)=>
 bif decide (x_1.1 < Int.ofNat (List.length x.1)) then
 Option.bind (idx x.1 x_1.1) fun b=>
 Option.bind (F179 (b,())) fun b_1=>
 bif !b_1.1 then some (Sum.inr (false,()))
 else
 bif decide (0 < x_1.1) then
 Option.bind (idx x.1 (wrap64 (x_1.1 - 1)))
 fun b_2=>
 bif decide (b.1≤b_2.1) then some (Sum.inr (false,()))
 else
 Option.bind (idx x.1 (wrap64 (x_1.1 - 1)))
 fun b_3=>
 bif decide (b.2.2.1≤b_3.2.2.1) then some (Sum.inr (false,()))
 else some (Sum.inl (wrap64 (x_1.1+1),()))
 else some (Sum.inl (wrap64 (x_1.1+1),()))
 else some (Sum.inr (true,())))
 big (0,())
def S151:Sig:=⟨P151,R151,F151⟩
noncomputable def E151:Env:={ tab:=tab.opt { flats:=[(93,L93)],owns:=[87],frzs:=[89,90,91] },nt:=42,Γ:=lookG [(179,[S179])],joins:=lookN [],loops:=lookN [(2,mkLoop ⟨[⟨.slot 7,(.int .i64),.pv⟩],[0,5,6],[]⟩)] }
theorem raw151_eq (x:List T66D×Unit):afun E151 Tryz.f151 P151 R151 x=F151 x:=by kernel_rfl
def F149 (x:T66D×Unit):Option (Bool×Unit):=
 Option.bind (F151 ([x.1],())) fun b=>some b
def S149:Sig:=⟨P149,R149,F149⟩
noncomputable def E149:Env:={ tab:=tab.opt { flats:=[(93,L93)],owns:=[87],frzs:=[89,90,91] },nt:=6,Γ:=lookG [(151,[S151])],joins:=lookN [],loops:=lookN [] }
theorem raw149_eq (x:T66D×Unit):afun E149 Tryz.f149 P149 R149 x=F149 x:=by kernel_rfl
def F148 (x:T70D×Unit):Option (Bool×Unit):=
 Option.bind (F59 (x.1.1,())) fun b=>
 bif !b.1 then some (true,())
 else Option.bind (F149 x.1.2) fun b=>some (!b.1,())
def S148:Sig:=⟨P148,R148,F148⟩
noncomputable def E148:Env:={ tab:=tab.opt { flats:=[(93,L93)],owns:=[87],frzs:=[89,90,91] },nt:=13,Γ:=lookG [(59,[S59]),(149,[S149])],joins:=lookN [],loops:=lookN [] }
theorem raw148_eq (x:T70D×Unit):afun E148 Tryz.f148 P148 R148 x=F148 x:=by kernel_rfl
def F178a (x:List T70D×Unit):Option (Int×Unit):=
 iterE (Int×Unit) (Int×Unit)
 (fun (x_1:Int×Unit)=>
 bif decide (x_1.1 < Int.ofNat (List.length x.1)) then
 Option.bind (idx x.1 x_1.1)
 fun b=>
 Option.bind (F148 (b,())) fun b=>
 bif b.1 then some (Sum.inr x_1) else some (Sum.inl (wrap64 (x_1.1+1),()))
 else some (Sum.inr (-1,())))
 big (0,())
def S178a:Sig:=⟨P178a,R178a,F178a⟩
noncomputable def E178a:Env:={ tab:=tab.opt { flats:=[(93,L93)],owns:=[87],frzs:=[89,90,91] },nt:=19,Γ:=lookG [(148,[S148])],joins:=lookN [],loops:=lookN [(2,mkLoop ⟨[⟨.slot 8,(.int .i64),.pv⟩],[0,1,7],[]⟩)] }
theorem raw178a_eq (x:List T70D×Unit):afun E178a Tryz.f178 P178a R178a x=F178a x:=by kernel_rfl
def F147a (x:List T70D×Unit):Option (Bool×Unit):=
 Option.bind (F178a x) fun b=>some (decide (0≤b.1),())
def S147a:Sig:=⟨P147a,R147a,F147a⟩
noncomputable def E147a:Env:={ tab:=tab.opt { flats:=[(93,L93)],owns:=[87],frzs:=[89,90,91] },nt:=9,Γ:=lookG [(148,[S148]),(178,[S178a])],joins:=lookN [],loops:=lookN [] }
theorem raw147a_eq (x:List T70D×Unit):afun E147a Tryz.f147 P147a R147a x=F147a x:=by kernel_rfl
def F104 (x:T51D×Unit):Option (Bool×Unit):=
 bif decide (x.1.1 < 0) then some (false,())
 else
 bif decide (15 < x.1.1) then some (false,())
 else
 Option.bind (F146 ([x.1.2.1,x.1.2.2.2.1,x.1.2.2.2.2.2.2.1],()))
 fun b=>
 bif !b.1 then some (false,())
 else
 bif decide (x.1.2.2.2.2.2.1 < 0) then some (false,())
 else
 bif decide (1 < x.1.2.2.2.2.2.1) then some (false,())
 else
 bif decide (8 < Int.ofNat (List.length x.1.2.2.2.2.1)) then some (false,())
 else
 Option.bind (F147a (x.1.2.2.2.2.1,())) fun b=>
 some (!b.1,())
def S104:Sig:=⟨P104,R104,F104⟩
noncomputable def E104:Env:={ tab:=tab.opt { flats:=[(93,L93)],owns:=[87],frzs:=[89,90,91] },nt:=42,Γ:=lookG [(146,[S146]),(147,[S147a]),(148,[S148])],joins:=lookN [],loops:=lookN [] }
theorem raw104_eq (x:T51D×Unit):afun E104 Tryz.f104 P104 R104 x=F104 x:=by kernel_rfl
def F180 (x:List T94D×Int×Unit):Option (Bool×Unit):=
 iterE (Int×Unit) (Bool×Unit)
 (fun (x_1:Int×Unit)=>
 bif decide (x_1.1 < Int.ofNat (List.length x.1)) then
 Option.bind (idx x.1 x_1.1)
 fun b=>
 Option.bind (F144 (b.1,1,x.2)) fun b_1=>
 bif !b_1.1 then some (Sum.inr (false,()))
 else
 Option.bind (F145 ([b.2.1],())) fun b_2=>
 bif !b_2.1 then some (Sum.inr (false,()))
 else
 Option.bind (F104 b.2.2) fun b_3=>
 bif !b_3.1 then some (Sum.inr (false,()))
 else
 bif decide (0 < x_1.1) then
 Option.bind (idx x.1 (wrap64 (x_1.1 - 1)))
 fun b_4=>
 bif decide (b.1≤b_4.1) then some (Sum.inr (false,()))
 else some (Sum.inl (wrap64 (x_1.1+1),()))
 else some (Sum.inl (wrap64 (x_1.1+1),()))
 else some (Sum.inr (true,())))
 big (0,())
def S180:Sig:=⟨P180,R180,F180⟩
noncomputable def E180:Env:={ tab:=tab.opt { flats:=[(93,L93)],owns:=[87],frzs:=[89,90,91] },nt:=48,Γ:=lookG [(104,[S104]),(144,[S144]),(145,[S145])],joins:=lookN [],loops:=lookN [(2,mkLoop ⟨[⟨.slot 9,(.int .i64),.pv⟩],[0,1,7,8],[]⟩)] }
theorem raw180_eq (x:List T94D×Int×Unit):afun E180 Tryz.f180 P180 R180 x=F180 x:=by kernel_rfl
def F181 (x:List T113D×Unit):Option (Bool×Unit):=
 iterE (Int×Unit) (Bool×Unit)
 (fun (x_1:Int×Unit)=>
 bif decide (x_1.1 < Int.ofNat (List.length x.1)) then
 Option.bind (idx x.1 x_1.1) fun b=>
 Option.bind (F145 ([b.1],())) fun b_1=>
 bif !b_1.1 then some (Sum.inr (false,()))
 else
 Option.bind (F144 (b.2.1,1,1000,())) fun b_2=>
 bif !b_2.1 then some (Sum.inr (false,()))
 else
 Option.bind (F144 (b.2.2.1,0,1000,())) fun b_3=>
 bif !b_3.1 then some (Sum.inr (false,()))
 else
 bif decide (0 < x_1.1) then
 Option.bind (idx x.1 (wrap64 (x_1.1 - 1)))
 fun b_4=>
 bif decide (b.1≤b_4.1) then some (Sum.inr (false,()))
 else some (Sum.inl (wrap64 (x_1.1+1),()))
 else some (Sum.inl (wrap64 (x_1.1+1),()))
 else some (Sum.inr (decide (Int.ofNat (List.length x.1)≤64),())))
 big (0,())
def S181:Sig:=⟨P181,R181,F181⟩
noncomputable def E181:Env:={ tab:=tab.opt { flats:=[(93,L93)],owns:=[87],frzs:=[89,90,91] },nt:=48,Γ:=lookG [(144,[S144]),(145,[S145])],joins:=lookN [],loops:=lookN [(2,mkLoop ⟨[⟨.slot 7,(.int .i64),.pv⟩],[0,5,6],[]⟩)] }
theorem raw181_eq (x:List T113D×Unit):afun E181 Tryz.f181 P181 R181 x=F181 x:=by kernel_rfl
def F152 (x:List T94D×List T113D×Unit):Option (Bool×Unit):=
 Option.bind (F180 (x.1,15,())) fun b=>
 bif b.1 then Option.bind (F181 x.2) fun b=>some b else some (false,())
def S152:Sig:=⟨P152,R152,F152⟩
noncomputable def E152:Env:={ tab:=tab.opt { flats:=[(93,L93)],owns:=[87],frzs:=[89,90,91] },nt:=11,Γ:=lookG [(180,[S180]),(181,[S181])],joins:=lookN [],loops:=lookN [] }
theorem raw152_eq (x:List T94D×List T113D×Unit):afun E152 Tryz.f152 P152 R152 x=F152 x:=by kernel_rfl
def F185 (x:T28D×Unit):Option (T28D×Unit):=
 Option.bind
 (bif decide (x.1.1=1) then
 some (Sum.inl (x.1.2.1,[],x.1.2.2.2.1,x.1.2.2.2.2.1,0,0,[],[],[],()))
 else
 bif decide (x.1.1=2) then
 some (Sum.inl (x.1.2.1,x.1.2.2.1,[],0,0,0,[],[],[],()))
 else
 bif decide (x.1.1=3) then
 some
 (Sum.inl
 ([],[],[],0,0,0,x.1.2.2.2.2.2.2.2.1,x.1.2.2.2.2.2.2.2.2.1,
 x.1.2.2.2.2.2.2.2.2.2.1,()))
 else
 bif decide (x.1.1=4) then
 some (Sum.inl ([],[],[],0,0,x.1.2.2.2.2.2.2.1,[],[],[],()))
 else
 bif decide (x.1.1=5) then
 some
 (Sum.inl
 ([],[],[],x.1.2.2.2.2.1,x.1.2.2.2.2.2.1,0,[],[],[],()))
 else
 bif decide (x.1.1=6) then
 bif decide (x.1.1=6) then
 some (Sum.inl ([],[],[],x.1.2.2.2.2.1,0,0,[],[],[],()))
 else some (Sum.inl ([],[],[],0,0,0,[],[],[],()))
 else
 bif decide (x.1.1=7) then
 bif decide (x.1.1=7) then
 some (Sum.inl ([],[],[],x.1.2.2.2.2.1,0,0,[],[],[],()))
 else some (Sum.inl ([],[],[],0,0,0,[],[],[],()))
 else
 bif decide (x.1.1=9) then
 some (Sum.inl ([],[],[],x.1.2.2.2.2.1,0,0,[],[],[],()))
 else some (Sum.inl ([],[],[],0,0,0,[],[],[],())))
 fun o=>
 Sum.elim
 (fun (x_1 :
 List UInt8×List UInt8×List UInt8×Int×Int×Int×List T96D×List T48D×List T48D×Unit)=>
 some
 ((x.1.1,x_1.1,x_1.2.1,x_1.2.2.1,x_1.2.2.2.1,x_1.2.2.2.2.1,
 x_1.2.2.2.2.2.1,x_1.2.2.2.2.2.2.1,x_1.2.2.2.2.2.2.2.1,
 x_1.2.2.2.2.2.2.2.2.1,0,0,0,false,[],[],[],()),
 ()))
 some o
def S185:Sig:=⟨P185,R185,F185⟩
noncomputable def E185:Env:={ tab:=tab.opt { flats:=[(93,L93)],owns:=[87],frzs:=[89,90,91] },nt:=60,Γ:=lookG [],joins:=lookN [(17,⟨[⟨.fld 1004000 1,.str,.pv⟩,⟨.fld 1004000 2,.str,.pv⟩,⟨.fld 1004000 3,.str,.pv⟩,⟨.fld 1004000 4,(.int .i64),.pv⟩,⟨.fld 1004000 5,(.int .i64),.pv⟩,⟨.fld 1004000 6,(.int .i64),.pv⟩,⟨.fld 1004000 7,(.slice T96),.pv⟩,⟨.fld 1004000 8,(.slice T48),.pv⟩,⟨.fld 1004000 9,(.slice T48),.pv⟩],[2,3],[.site 1004000,.fld 1004000 0,.fld 1004000 10,.fld 1004000 11,.fld 1004000 12,.fld 1004000 13,.fld 1004000 14,.fld 1004000 15,.fld 1004000 16,.site 2000,.fld 2000 0,.fld 2000 1,.fld 2000 2,.fld 2000 3,.fld 2000 4,.fld 2000 5,.fld 2000 6,.fld 2000 7,.fld 2000 8,.fld 2000 9,.fld 2000 10,.fld 2000 11,.fld 2000 12,.fld 2000 13,.fld 2000 14,.fld 2000 15,.fld 2000 16]⟩)],loops:=lookN [] }
theorem raw185_eq (x:T28D×Unit):afun E185 Tryz.f185 P185 R185 x=F185 x:=by kernel_rfl
def F171 (x:T28D×Unit):Option (T28D×Unit):=
 Option.bind
 (bif decide (x.1.1=11) then
 bif decide (x.1.1=11) then
 some
 (Sum.inl
 ([],[],0,0,0,false,[],[],[],0,[],[],[],0,0,0,[],[],[],0,0,0,false,[],[],[],
 ()))
 else
 bif decide (x.1.1=10) then
 some
 (Sum.inl
 (x.1.2.1,[],0,0,0,false,[],[],[],0,[],[],[],0,0,0,[],[],[],0,0,0,false,[],
 [],[],()))
 else
 bif decide (x.1.1=12) then
 some
 (Sum.inl
 (x.1.2.1,x.1.2.2.1,x.1.2.2.2.2.2.2.1,
 x.1.2.2.2.2.2.2.2.2.2.2.2.1,0,false,[],[],[],0,[],[],[],0,0,0,
 [],[],[],0,0,0,false,[],[],[],()))
 else
 bif decide (x.1.1=13) then
 some
 (Sum.inl
 (x.1.2.1,x.1.2.2.1,0,x.1.2.2.2.2.2.2.2.2.2.2.2.1,0,
 x.1.2.2.2.2.2.2.2.2.2.2.2.2.2.1,
 x.1.2.2.2.2.2.2.2.2.2.2.2.2.2.2.1,[],[],0,[],[],[],0,0,0,
 [],[],[],0,0,0,false,[],[],[],()))
 else
 bif decide (x.1.1=14) then
 some
 (Sum.inl
 ([],[],x.1.2.2.2.2.2.2.1,x.1.2.2.2.2.2.2.2.2.2.2.2.1,
 x.1.2.2.2.2.2.2.2.2.2.2.2.2.1,false,
 x.1.2.2.2.2.2.2.2.2.2.2.2.2.2.2.1,[],[],0,[],[],[],0,0,0,
 [],[],[],0,0,0,false,[],[],[],()))
 else
 bif decide (x.1.1=15) then
 some
 (Sum.inl
 ([],[],x.1.2.2.2.2.2.2.1,x.1.2.2.2.2.2.2.2.2.2.2.2.1,
 0,false,[],x.1.2.2.2.2.2.2.2.2.2.2.2.2.2.2.2.1,
 x.1.2.2.2.2.2.2.2.2.2.2.2.2.2.2.2.2.1,0,[],[],[],0,0,
 0,[],[],[],0,0,0,false,[],[],[],()))
 else
 Option.bind (F185 x)
 fun b=>
 some (Sum.inr b)
 else
 bif decide (x.1.1=16) then
 some
 (Sum.inl
 ([],[],0,0,0,false,[],[],[],0,[],[],[],0,0,0,[],[],[],0,0,0,false,[],[],[],
 ()))
 else
 bif decide (x.1.1=10) then
 some
 (Sum.inl
 (x.1.2.1,[],0,0,0,false,[],[],[],0,[],[],[],0,0,0,[],[],[],0,0,0,false,[],
 [],[],()))
 else
 bif decide (x.1.1=12) then
 some
 (Sum.inl
 (x.1.2.1,x.1.2.2.1,x.1.2.2.2.2.2.2.1,
 x.1.2.2.2.2.2.2.2.2.2.2.2.1,0,false,[],[],[],0,[],[],[],0,0,0,
 [],[],[],0,0,0,false,[],[],[],()))
 else
 bif decide (x.1.1=13) then
 some
 (Sum.inl
 (x.1.2.1,x.1.2.2.1,0,x.1.2.2.2.2.2.2.2.2.2.2.2.1,0,
 x.1.2.2.2.2.2.2.2.2.2.2.2.2.2.1,
 x.1.2.2.2.2.2.2.2.2.2.2.2.2.2.2.1,[],[],0,[],[],[],0,0,0,
 [],[],[],0,0,0,false,[],[],[],()))
 else
 bif decide (x.1.1=14) then
 some
 (Sum.inl
 ([],[],x.1.2.2.2.2.2.2.1,x.1.2.2.2.2.2.2.2.2.2.2.2.1,
 x.1.2.2.2.2.2.2.2.2.2.2.2.2.1,false,
 x.1.2.2.2.2.2.2.2.2.2.2.2.2.2.2.1,[],[],0,[],[],[],0,0,0,
 [],[],[],0,0,0,false,[],[],[],()))
 else
 bif decide (x.1.1=15) then
 some
 (Sum.inl
 ([],[],x.1.2.2.2.2.2.2.1,x.1.2.2.2.2.2.2.2.2.2.2.2.1,
 0,false,[],x.1.2.2.2.2.2.2.2.2.2.2.2.2.2.2.2.1,
 x.1.2.2.2.2.2.2.2.2.2.2.2.2.2.2.2.2.1,0,[],[],[],0,0,
 0,[],[],[],0,0,0,false,[],[],[],()))
 else
 Option.bind (F185 x)
 fun b=>
 some (Sum.inr b))
 fun o=>
 Sum.elim
 (fun (x_1 :
 List UInt8×List UInt8×Int×Int×Int×Bool×List T70D×List
 (Int×Int×(Int×Int×Bool×Int×List
 T70D×Y22D)×Unit)×List T113D×Int×List UInt8×List UInt8×List UInt8×Int×Int×Int×List T96D×List T48D×List T48D×Int×Int×Int×Bool×List
 T70D×List
 (Int×Int×(Int×Int×Bool×Int×List
 T70D×Y22D)×Unit)×List T113D×Unit)=>
 some
 ((x.1.1,x_1.1,x_1.2.1,[],0,0,x_1.2.2.1,[],[],[],
 x.1.2.2.2.2.2.2.2.2.2.2.1,x_1.2.2.2.1,x_1.2.2.2.2.1,
 x_1.2.2.2.2.2.1,x_1.2.2.2.2.2.2.1,x_1.2.2.2.2.2.2.2.1,
 x_1.2.2.2.2.2.2.2.2.1,()),
 ()))
 some o
def S171:Sig:=⟨P171,R171,F171⟩
noncomputable def E171:Env:={ tab:=tab.opt { flats:=[(93,L93)],owns:=[87],frzs:=[89,90,91] },nt:=81,Γ:=lookG [(185,[S185])],joins:=lookN [(16,⟨[⟨.fld 1006000 1,.str,.pv⟩,⟨.fld 1006000 2,.str,.pv⟩,⟨.fld 1006000 6,(.int .i64),.pv⟩,⟨.fld 1006000 11,(.int .i64),.pv⟩,⟨.fld 1006000 12,(.int .i64),.pv⟩,⟨.fld 1006000 13,.bool,.pv⟩,⟨.fld 1006000 14,(.slice T70),.pv⟩,⟨.fld 1006000 15,(.slice T94),.pv⟩,⟨.fld 1006000 16,(.slice T113),.pv⟩,⟨.fld 2000 0,(.int .i64),.pv⟩,⟨.fld 2000 1,.str,.pv⟩,⟨.fld 2000 2,.str,.pv⟩,⟨.fld 2000 3,.str,.pv⟩,⟨.fld 2000 4,(.int .i64),.pv⟩,⟨.fld 2000 5,(.int .i64),.pv⟩,⟨.fld 2000 6,(.int .i64),.pv⟩,⟨.fld 2000 7,(.slice T96),.own false⟩,⟨.fld 2000 8,(.slice T48),.own false⟩,⟨.fld 2000 9,(.slice T48),.own false⟩,⟨.fld 2000 10,(.int .i64),.pv⟩,⟨.fld 2000 11,(.int .i64),.pv⟩,⟨.fld 2000 12,(.int .i64),.pv⟩,⟨.fld 2000 13,.bool,.pv⟩,⟨.fld 2000 14,(.slice T70),.own false⟩,⟨.fld 2000 15,(.slice T94),.own false⟩,⟨.fld 2000 16,(.slice T113),.own false⟩],[2,3],[.site 1006000,.fld 1006000 0,.fld 1006000 3,.fld 1006000 4,.fld 1006000 5,.fld 1006000 7,.fld 1006000 8,.fld 1006000 9,.fld 1006000 10,.site 2000]⟩)],loops:=lookN [] }
theorem raw171_eq (x:T28D×Unit):afun E171 Tryz.f171 P171 R171 x=F171 x:=by kernel_rfl
def F103 (x:List UInt8×List UInt8×Unit):Option (Bool×Unit):=
 Option.bind (F59 (x.1,())) fun b=>
 bif b.1 then
 bif decide (x.2.1=[]) then some (true,())
 else
 Option.bind (F90 (x.2.1,UInt8.ofNat 127,())) fun b=>
 bif b.1 then some (!(strlt x.2.1 x.1 || decide (x.2.1=x.1)),())
 else some (false,())
 else some (false,())
def S103:Sig:=⟨P103,R103,F103⟩
noncomputable def E103:Env:={ tab:=tab.opt { flats:=[(93,L93)],owns:=[87],frzs:=[89,90,91] },nt:=20,Γ:=lookG [(59,[S59]),(90,[S90])],joins:=lookN [],loops:=lookN [] }
theorem raw103_eq (x:List UInt8×List UInt8×Unit):afun E103 Tryz.f103 P103 R103 x=F103 x:=by kernel_rfl
def F186 (x:List UInt8×List UInt8×Int×Unit):Option (Bool×Unit):=
 Option.bind (F59 (x.1,())) fun b=>
 bif b.1 then
 bif decide (Int.ofNat (List.length x.2.1)≤40) then
 Option.bind (F146 ([x.2.2.1],())) fun b=>some b
 else some (false,())
 else some (false,())
def S186:Sig:=⟨P186,R186,F186⟩
noncomputable def E186:Env:={ tab:=tab.opt { flats:=[(93,L93)],owns:=[87],frzs:=[89,90,91] },nt:=19,Γ:=lookG [(59,[S59]),(146,[S146])],joins:=lookN [],loops:=lookN [] }
theorem raw186_eq (x:List UInt8×List UInt8×Int×Unit):afun E186 Tryz.f186 P186 R186 x=F186 x:=by kernel_rfl
def F193 (x:T96D×Unit):Option (Bool×Unit):=
 Option.bind (F59 (x.1.1,())) fun b=>
 bif !b.1 then some (false,())
 else
 bif decide (x.1.2.2.1 < 0) then some (false,())
 else
 bif decide (2 < x.1.2.2.1) then some (false,())
 else
 Option.bind (F144 (x.1.2.2.2.1,-1099511627776,1099511627776,()))
 fun b=>
 bif !b.1 then some (false,())
 else
 bif decide (x.1.2.1=5) then
 bif decide (x.1.2.2.2.1=0) then
 some (decide (Int.ofNat (List.length x.1.2.2.2.2.1)≤40),())
 else some (false,())
 else
 bif decide (1≤x.1.2.1) then
 bif decide (x.1.2.1≤4) then some (decide (x.1.2.2.2.2.1=[]),())
 else some (false,())
 else some (false,())
def S193:Sig:=⟨P193,R193,F193⟩
noncomputable def E193:Env:={ tab:=tab.opt { flats:=[(93,L93)],owns:=[87],frzs:=[89,90,91] },nt:=48,Γ:=lookG [(59,[S59]),(144,[S144])],joins:=lookN [],loops:=lookN [] }
theorem raw193_eq (x:T96D×Unit):afun E193 Tryz.f193 P193 R193 x=F193 x:=by kernel_rfl
def F192 (x:T96D×Unit):Option (Bool×Unit):=
 Option.bind (F193 x) fun b=>some (!b.1,())
def S192:Sig:=⟨P192,R192,F192⟩
noncomputable def E192:Env:={ tab:=tab.opt { flats:=[(93,L93)],owns:=[87],frzs:=[89,90,91] },nt:=6,Γ:=lookG [(193,[S193])],joins:=lookN [],loops:=lookN [] }
theorem raw192_eq (x:T96D×Unit):afun E192 Tryz.f192 P192 R192 x=F192 x:=by kernel_rfl
def F195a (x:List T96D×Unit):Option (Int×Unit):=
 iterE (Int×Unit) (Int×Unit)
 (fun (x_1:Int×Unit)=>
 bif decide (x_1.1 < Int.ofNat (List.length x.1)) then
 Option.bind (idx x.1 x_1.1) fun b=>
 Option.bind (F192 (b,())) fun b=>
 bif b.1 then some (Sum.inr x_1) else some (Sum.inl (wrap64 (x_1.1+1),()))
 else some (Sum.inr (-1,())))
 big (0,())
def S195a:Sig:=⟨P195a,R195a,F195a⟩
noncomputable def E195a:Env:={ tab:=tab.opt { flats:=[(93,L93)],owns:=[87],frzs:=[89,90,91] },nt:=19,Γ:=lookG [(192,[S192])],joins:=lookN [],loops:=lookN [(2,mkLoop ⟨[⟨.slot 8,(.int .i64),.pv⟩],[0,1,7],[]⟩)] }
theorem raw195a_eq (x:List T96D×Unit):afun E195a Tryz.f195 P195a R195a x=F195a x:=by kernel_rfl
def F191a (x:List T96D×Unit):Option (Bool×Unit):=
 Option.bind (F195a x) fun b=>some (decide (0≤b.1),())
def S191a:Sig:=⟨P191a,R191a,F191a⟩
noncomputable def E191a:Env:={ tab:=tab.opt { flats:=[(93,L93)],owns:=[87],frzs:=[89,90,91] },nt:=9,Γ:=lookG [(192,[S192]),(195,[S195a])],joins:=lookN [],loops:=lookN [] }
theorem raw191a_eq (x:List T96D×Unit):afun E191a Tryz.f191 P191a R191a x=F191a x:=by kernel_rfl
def F196 (x:T48D×Unit):Option (Bool×Unit):=
 bif decide (x.1.1=1) then
 bif decide (x.1.2.2.1=[]) then
 Option.bind (F186 (x.1.2.1,x.1.2.2.2)) fun b=>some b
 else some (false,())
 else
 bif decide (x.1.1=2) then
 bif decide (x.1.1=2) then
 bif decide (x.1.2.2.2.1=[]) then
 bif decide (x.1.2.2.2.2.1=0) then
 Option.bind (F103 (x.1.2.1,x.1.2.2.1,())) fun b=>some b
 else some (false,())
 else some (false,())
 else some (false,())
 else
 bif decide (x.1.1=3) then
 bif decide (x.1.2.2.2.1=[]) then
 bif decide (x.1.2.2.2.2.1=0) then
 Option.bind (F103 (x.1.2.1,x.1.2.2.1,())) fun b=>some b
 else some (false,())
 else some (false,())
 else some (false,())
def S196:Sig:=⟨P196,R196,F196⟩
noncomputable def E196:Env:={ tab:=tab.opt { flats:=[(93,L93)],owns:=[87],frzs:=[89,90,91] },nt:=37,Γ:=lookG [(103,[S103]),(186,[S186])],joins:=lookN [],loops:=lookN [] }
theorem raw196_eq (x:T48D×Unit):afun E196 Tryz.f196 P196 R196 x=F196 x:=by kernel_rfl
def F201 (x:List UInt8×List UInt8×List UInt8×Unit):Option (Bool×Unit):=
 Option.bind (F103 (x.1,x.2.1,())) fun b=>
 bif !b.1 then some (false,())
 else
 Option.bind (F59 x.2.2) fun b=>
 bif !b.1 then some (false,())
 else
 bif decide (x.2.2.1=x.1) then some (true,())
 else
 bif !(strlt x.2.2.1 x.1 || decide (x.2.2.1=x.1)) then
 some (strlt x.2.2.1 x.2.1,())
 else some (false,())
def S201:Sig:=⟨P201,R201,F201⟩
noncomputable def E201:Env:={ tab:=tab.opt { flats:=[(93,L93)],owns:=[87],frzs:=[89,90,91] },nt:=29,Γ:=lookG [(59,[S59]),(103,[S103])],joins:=lookN [],loops:=lookN [] }
theorem raw201_eq (x:List UInt8×List UInt8×List UInt8×Unit):afun E201 Tryz.f201 P201 R201 x=F201 x:=by kernel_rfl
def F199 (x:T48D×T48D×Unit):Option (Bool×Unit):=
 bif decide (x.1.1=3) then some (false,())
 else
 bif decide (x.2.1.1=3) then some (false,())
 else
 bif decide (x.1.2.1=x.2.1.2.1) then some (true,())
 else
 Option.bind (F201 (x.1.2.1,x.1.2.2.1,x.2.1.2.1,())) fun b=>
 bif b.1 then some (true,())
 else
 Option.bind (F201 (x.2.1.2.1,x.2.1.2.2.1,x.1.2.1,()))
 fun b=>some b
def S199:Sig:=⟨P199,R199,F199⟩
noncomputable def E199:Env:={ tab:=tab.opt { flats:=[(93,L93)],owns:=[87],frzs:=[89,90,91] },nt:=36,Γ:=lookG [(201,[S201])],joins:=lookN [],loops:=lookN [] }
theorem raw199_eq (x:T48D×T48D×Unit):afun E199 Tryz.f199 P199 R199 x=F199 x:=by kernel_rfl
def F198 (x:T48D×Unit):Option (Bool×Unit):=none
def S198:Sig:=⟨P198,R198,F198⟩
noncomputable def E198:Env:={ tab:=tab.opt { flats:=[(93,L93)],owns:=[87],frzs:=[89,90,91] },nt:=7,Γ:=lookG [(199,[S199])],joins:=lookN [],loops:=lookN [] }
theorem raw198_eq (x:T48D×Unit):afun E198 Tryz.f198 P198 R198 x=F198 x:=by kernel_rfl
def F198a (x:T48D×T48D×Unit):Option (Bool×T48D×Unit):=
 Option.bind (F199 x) fun b=>some (b.1,x.2)
def S198a:Sig:=⟨P198a,R198a,F198a⟩
noncomputable def E198a:Env:={ tab:=tab.opt { flats:=[(93,L93)],owns:=[87],frzs:=[89,90,91] },nt:=7,Γ:=lookG [(199,[S199])],joins:=lookN [],loops:=lookN [] }
theorem raw198a_eq (x:T48D×T48D×Unit):afun E198a Tryz.f198 P198a R198a x=F198a x:=by kernel_rfl
def F200a (x:List T48D×T48D×Unit):Option (Int×T48D×Unit):=
 iterE (Int×T48D)
 (Int×T48D×Unit)
 (fun (x_1:Int×T48D)=>
 bif decide (x_1.1 < Int.ofNat (List.length x.1)) then
 Option.bind (idx x.1 x_1.1) fun b=>
 Option.bind (F198a (b,x_1.2,()))
 fun b=>
 bif b.1 then some (Sum.inr (x_1.1,b.2))
 else some (Sum.inl (wrap64 (x_1.1+1),b.2.1))
 else some (Sum.inr (-1,x_1.2,())))
 big (0,x.2.1)
def S200a:Sig:=⟨P200a,R200a,F200a⟩
noncomputable def E200a:Env:={ tab:=tab.opt { flats:=[(93,L93)],owns:=[87],frzs:=[89,90,91] },nt:=19,Γ:=lookG [(198,[S198,S198a])],joins:=lookN [],loops:=lookN [(2,mkLoop ⟨[⟨.slot 8,(.int .i64),.pv⟩,⟨.fld 2 0,(.int .i64),.pv⟩,⟨.fld 2 1,.str,.pv⟩,⟨.fld 2 2,.str,.pv⟩,⟨.fld 2 3,.str,.pv⟩,⟨.fld 2 4,(.int .i64),.pv⟩],[0,1,7],[.site 2,.comp 1 0]⟩)] }
theorem raw200a_eq (x:List T48D×T48D×Unit):afun E200a Tryz.f200 P200a R200a x=F200a x:=by kernel_rfl
def F197a (x:List T48D×T48D×Unit):Option (Bool×T48D×Unit):=
 Option.bind (F200a x) fun b=>
 some (decide (0≤b.1),b.2)
def S197a:Sig:=⟨P197a,R197a,F197a⟩
noncomputable def E197a:Env:={ tab:=tab.opt { flats:=[(93,L93)],owns:=[87],frzs:=[89,90,91] },nt:=9,Γ:=lookG [(198,[S198,S198a]),(200,[S200a])],joins:=lookN [],loops:=lookN [] }
theorem raw197a_eq (x:List T48D×T48D×Unit):afun E197a Tryz.f197 P197a R197a x=F197a x:=by kernel_rfl
def F194 (x:List T48D×Unit):Option (Bool×Unit):=
 iterE (Int×Unit) (Bool×Unit)
 (fun (x_1:Int×Unit)=>
 bif decide (x_1.1 < Int.ofNat (List.length x.1)) then
 Option.bind (idx x.1 x_1.1) fun b=>
 Option.bind (F196 (b,())) fun b_1=>
 bif !b_1.1 then some (Sum.inr (false,()))
 else
 Option.bind (sliceO x.1 0 x_1.1)
 fun b_2=>
 Option.bind (F197a (b_2,b,()))
 fun b=>
 bif b.1 then some (Sum.inr (false,()))
 else some (Sum.inl (wrap64 (x_1.1+1),()))
 else some (Sum.inr (decide (Int.ofNat (List.length x.1)≤4),())))
 big (0,())
def S194:Sig:=⟨P194,R194,F194⟩
noncomputable def E194:Env:={ tab:=tab.opt { flats:=[(93,L93)],owns:=[87],frzs:=[89,90,91] },nt:=26,Γ:=lookG [(196,[S196]),(197,[S197a]),(198,[S198,S198a])],joins:=lookN [],loops:=lookN [(2,mkLoop ⟨[⟨.slot 7,(.int .i64),.pv⟩],[0,5,6],[]⟩)] }
theorem raw194_eq (x:List T48D×Unit):afun E194 Tryz.f194 P194 R194 x=F194 x:=by kernel_rfl
def F187 (x:T28D×Unit):Option (Bool×Unit):=
 bif decide (Int.ofNat (List.length x.1.2.2.2.2.2.2.2.1)≤4) then
 Option.bind (F191a (x.1.2.2.2.2.2.2.2.1,())) fun b=>
 bif !b.1 then
 Option.bind (F194 (x.1.2.2.2.2.2.2.2.2.1,())) fun b=>
 bif b.1 then
 Option.bind (F194 (x.1.2.2.2.2.2.2.2.2.2.1,())) fun b=>
 some b
 else some (false,())
 else some (false,())
 else some (false,())
def S187:Sig:=⟨P187,R187,F187⟩
noncomputable def E187:Env:={ tab:=tab.opt { flats:=[(93,L93)],owns:=[87],frzs:=[89,90,91] },nt:=23,Γ:=lookG [(191,[S191a]),(192,[S192]),(194,[S194])],joins:=lookN [],loops:=lookN [] }
theorem raw187_eq (x:T28D×Unit):afun E187 Tryz.f187 P187 R187 x=F187 x:=by kernel_rfl
def F172 (x:T28D×Unit):Option (Bool×Unit):=
 bif decide (x.1.1=1) then
 Option.bind (F186 (x.1.2.1,x.1.2.2.2.1,x.1.2.2.2.2.1,()))
 fun b=>some b
 else
 bif decide (x.1.1=2) then
 Option.bind (F103 (x.1.2.1,x.1.2.2.1,())) fun b=>some b
 else
 bif decide (x.1.1=3) then Option.bind (F187 x) fun b=>some b
 else
 bif decide (x.1.1=4) then
 Option.bind (F145 ([x.1.2.2.2.2.2.2.1],())) fun b=>some b
 else
 bif decide (x.1.1=5) then
 Option.bind (F145 ([x.1.2.2.2.2.1],())) fun b=>
 bif b.1 then
 Option.bind (F144 (x.1.2.2.2.2.2.1,1,1000,())) fun b=>some b
 else some (false,())
 else
 bif decide (x.1.1=6) then
 bif decide (x.1.1=6) then
 Option.bind (F145 ([x.1.2.2.2.2.1],())) fun b=>some b
 else
 bif decide (x.1.1=9) then
 bif !decide (x.1.2.2.2.2.1=0) then
 Option.bind (F144 (x.1.2.2.2.2.1,-1099511627776,1099511627776,()))
 fun b=>some b
 else some (false,())
 else some (decide (x.1.1=8),())
 else
 bif decide (x.1.1=7) then
 Option.bind (F145 ([x.1.2.2.2.2.1],())) fun b=>some b
 else
 bif decide (x.1.1=9) then
 bif !decide (x.1.2.2.2.2.1=0) then
 Option.bind (F144 (x.1.2.2.2.2.1,-1099511627776,1099511627776,()))
 fun b=>some b
 else some (false,())
 else some (decide (x.1.1=8),())
def S172:Sig:=⟨P172,R172,F172⟩
noncomputable def E172:Env:={ tab:=tab.opt { flats:=[(93,L93)],owns:=[87],frzs:=[89,90,91] },nt:=62,Γ:=lookG [(103,[S103]),(144,[S144]),(145,[S145]),(186,[S186]),(187,[S187])],joins:=lookN [],loops:=lookN [] }
theorem raw172_eq (x:T28D×Unit):afun E172 Tryz.f172 P172 R172 x=F172 x:=by kernel_rfl
def F173 (x:T28D×Unit):Option (Bool×Unit):=
 Option.bind
 (bif !decide (x.1.2.1=[]) then
 Option.bind (F59 (x.1.2.1,())) fun b=>
 bif !b.1 then some (Sum.inr (false,()))
 else
 bif !decide (x.1.2.2.1=[]) then
 Option.bind (F59 (x.1.2.2.1,())) fun b=>
 bif !b.1 then some (Sum.inr (false,()))
 else
 bif
 decide
 (8 <
 Int.ofNat (List.length x.1.2.2.2.2.2.2.2.2.2.2.2.2.2.2.1)) then
 some (Sum.inr (false,()))
 else some (Sum.inl ())
 else
 bif
 decide
 (8 < Int.ofNat (List.length x.1.2.2.2.2.2.2.2.2.2.2.2.2.2.2.1)) then
 some (Sum.inr (false,()))
 else some (Sum.inl ())
 else
 bif !decide (x.1.2.2.1=[]) then
 Option.bind (F59 (x.1.2.2.1,())) fun b=>
 bif !b.1 then some (Sum.inr (false,()))
 else
 bif
 decide
 (8 < Int.ofNat (List.length x.1.2.2.2.2.2.2.2.2.2.2.2.2.2.2.1)) then
 some (Sum.inr (false,()))
 else some (Sum.inl ())
 else
 bif decide (8 < Int.ofNat (List.length x.1.2.2.2.2.2.2.2.2.2.2.2.2.2.2.1)) then
 some (Sum.inr (false,()))
 else some (Sum.inl ()))
 fun o=>
 Sum.elim
 (fun (_z:Unit)=>
 iterE (Int×Unit) (Bool×Unit)
 (fun (x_1:Int×Unit)=>
 bif
 decide
 (x_1.1 <
 Int.ofNat (List.length x.1.2.2.2.2.2.2.2.2.2.2.2.2.2.2.1)) then
 Option.bind (idx x.1.2.2.2.2.2.2.2.2.2.2.2.2.2.2.1 x_1.1)
 fun b=>
 Option.bind (F59 (b.1,())) fun b_1=>
 bif !b_1.1 then some (Sum.inr (false,()))
 else
 Option.bind (F149 b.2) fun b_2=>
 bif !b_2.1 then some (Sum.inr (false,()))
 else
 bif b.2.1.2.2.2.2.2.2.1 then some (Sum.inr (false,()))
 else
 bif decide (0 < x_1.1) then
 Option.bind
 (idx x.1.2.2.2.2.2.2.2.2.2.2.2.2.2.2.1
 (wrap64 (x_1.1 - 1)))
 fun b_3=>
 bif !strlt b_3.1 b.1 then some (Sum.inr (false,()))
 else some (Sum.inl (wrap64 (x_1.1+1),()))
 else some (Sum.inl (wrap64 (x_1.1+1),()))
 else some (Sum.inr (true,())))
 big (0,()))
 some o
def S173:Sig:=⟨P173,R173,F173⟩
noncomputable def E173:Env:={ tab:=tab.opt { flats:=[(93,L93)],owns:=[87],frzs:=[89,90,91] },nt:=71,Γ:=lookG [(59,[S59]),(149,[S149])],joins:=lookN [(3,⟨[],[1],[.site 1000,.fld 1000 0,.fld 1000 1,.fld 1000 2,.fld 1000 3,.fld 1000 4,.fld 1000 5,.fld 1000 6,.fld 1000 7,.fld 1000 8,.fld 1000 9,.fld 1000 10,.fld 1000 11,.fld 1000 12,.fld 1000 13,.fld 1000 14,.fld 1000 15,.fld 1000 16]⟩)],loops:=lookN [(4,mkLoop ⟨[⟨.slot 34,(.int .i64),.pv⟩],[1,32,33],[.site 1000,.fld 1000 0,.fld 1000 1,.fld 1000 2,.fld 1000 3,.fld 1000 4,.fld 1000 5,.fld 1000 6,.fld 1000 7,.fld 1000 8,.fld 1000 9,.fld 1000 10,.fld 1000 11,.fld 1000 12,.fld 1000 13,.fld 1000 14,.fld 1000 15,.fld 1000 16]⟩)] }
theorem raw173_eq (x:T28D×Unit):afun E173 Tryz.f173 P173 R173 x=F173 x:=by kernel_rfl
def F174 (x:T28D×Unit):Option (Bool×Unit):=
 Option.bind
 (F145 ([x.1.2.2.2.2.2.2.1,x.1.2.2.2.2.2.2.2.2.2.2.2.2.1],()))
 fun b=>
 bif !b.1 then some (false,())
 else
 bif decide (x.1.2.2.2.2.2.2.2.2.2.2.2.2.1≤x.1.2.2.2.2.2.2.1) then
 some (false,())
 else
 bif decide (64 < Int.ofNat (List.length x.1.2.2.2.2.2.2.2.2.2.2.2.2.2.2.1)) then
 some (false,())
 else
 iterE (Int×Unit) (Bool×Unit)
 (fun (x_1:Int×Unit)=>
 bif
 decide
 (x_1.1 <
 Int.ofNat (List.length x.1.2.2.2.2.2.2.2.2.2.2.2.2.2.2.1)) then
 Option.bind (idx x.1.2.2.2.2.2.2.2.2.2.2.2.2.2.2.1 x_1.1)
 fun b=>
 Option.bind (F59 (b.1,())) fun b_1=>
 bif !b_1.1 then some (Sum.inr (false,()))
 else
 Option.bind (F149 b.2) fun b_2=>
 bif !b_2.1 then some (Sum.inr (false,()))
 else
 bif decide (b.2.1.1≤x.1.2.2.2.2.2.2.1) then
 some (Sum.inr (false,()))
 else
 bif decide (x.1.2.2.2.2.2.2.2.2.2.2.2.2.1 < b.2.1.1) then
 some (Sum.inr (false,()))
 else
 bif decide (x_1.1=0) then
 some (Sum.inl (wrap64 (x_1.1+1),()))
 else
 Option.bind
 (idx x.1.2.2.2.2.2.2.2.2.2.2.2.2.2.2.1
 (wrap64 (x_1.1 - 1)))
 fun b_3=>
 bif decide (b.2.1.1 < b_3.2.1.1) then some (Sum.inr (false,()))
 else
 bif decide (b_3.2.1.1=b.2.1.1) then
 bif !strlt b_3.1 b.1 then some (Sum.inr (false,()))
 else some (Sum.inl (wrap64 (x_1.1+1),()))
 else some (Sum.inl (wrap64 (x_1.1+1),()))
 else some (Sum.inr (true,())))
 big (0,())
def S174:Sig:=⟨P174,R174,F174⟩
noncomputable def E174:Env:={ tab:=tab.opt { flats:=[(93,L93)],owns:=[87],frzs:=[89,90,91] },nt:=92,Γ:=lookG [(59,[S59]),(145,[S145]),(149,[S149])],joins:=lookN [],loops:=lookN [(4,mkLoop ⟨[⟨.slot 29,(.int .i64),.pv⟩],[1,27,28],[.site 1000,.fld 1000 0,.fld 1000 1,.fld 1000 2,.fld 1000 3,.fld 1000 4,.fld 1000 5,.fld 1000 6,.fld 1000 7,.fld 1000 8,.fld 1000 9,.fld 1000 10,.fld 1000 11,.fld 1000 12,.fld 1000 13,.fld 1000 14,.fld 1000 15,.fld 1000 16]⟩)] }
theorem raw174_eq (x:T28D×Unit):afun E174 Tryz.f174 P174 R174 x=F174 x:=by kernel_rfl
def F143 (x:T28D×Unit):Option (Bool×Unit):=
 Option.bind (F171 x)
 fun b=>
 Option.bind (F92 (b.1,x)) fun b=>
 bif !b.1 then some (false,())
 else
 bif decide (x.1.1 < 10) then Option.bind (F172 x) fun b=>some b
 else
 Option.bind (F145 ([x.1.2.2.2.2.2.2.2.2.2.2.1],())) fun b=>
 bif !b.1 then some (false,())
 else
 bif decide (x.1.1=10) then
 Option.bind (F40 (x.1.2.1,())) fun b=>some b
 else
 bif decide (x.1.1=11) then
 bif decide (x.1.1=11) then some (true,())
 else
 bif decide (x.1.1=12) then
 Option.bind
 (F145
 ([x.1.2.2.2.2.2.2.2.2.2.2.2.1,x.1.2.2.2.2.2.2.1],
 ()))
 fun b=>
 bif b.1 then
 Option.bind (F40 (x.1.2.1,())) fun b=>
 bif b.1 then
 Option.bind (F40 (x.1.2.2.1,())) fun b=>some b
 else some (false,())
 else some (false,())
 else
 bif decide (x.1.1=13) then
 Option.bind (F145 ([x.1.2.2.2.2.2.2.2.2.2.2.2.1],()))
 fun b=>
 bif b.1 then Option.bind (F173 x) fun b=>some b
 else some (false,())
 else
 bif decide (x.1.1=14) then
 Option.bind (F145 ([x.1.2.2.2.2.2.2.2.2.2.2.2.1],()))
 fun b=>
 bif b.1 then Option.bind (F174 x) fun b=>some b
 else some (false,())
 else
 bif decide (x.1.1=15) then
 Option.bind
 (F145
 ([x.1.2.2.2.2.2.2.2.2.2.2.2.1,
 x.1.2.2.2.2.2.2.1],
 ()))
 fun b=>
 bif b.1 then
 Option.bind (F152 x.1.2.2.2.2.2.2.2.2.2.2.2.2.2.2.2)
 fun b=>some b
 else some (false,())
 else some (false,())
 else
 bif decide (x.1.1=16) then some (true,())
 else
 bif decide (x.1.1=12) then
 Option.bind
 (F145
 ([x.1.2.2.2.2.2.2.2.2.2.2.2.1,x.1.2.2.2.2.2.2.1],
 ()))
 fun b=>
 bif b.1 then
 Option.bind (F40 (x.1.2.1,())) fun b=>
 bif b.1 then
 Option.bind (F40 (x.1.2.2.1,())) fun b=>some b
 else some (false,())
 else some (false,())
 else
 bif decide (x.1.1=13) then
 Option.bind (F145 ([x.1.2.2.2.2.2.2.2.2.2.2.2.1],()))
 fun b=>
 bif b.1 then Option.bind (F173 x) fun b=>some b
 else some (false,())
 else
 bif decide (x.1.1=14) then
 Option.bind (F145 ([x.1.2.2.2.2.2.2.2.2.2.2.2.1],()))
 fun b=>
 bif b.1 then Option.bind (F174 x) fun b=>some b
 else some (false,())
 else
 bif decide (x.1.1=15) then
 Option.bind
 (F145
 ([x.1.2.2.2.2.2.2.2.2.2.2.2.1,
 x.1.2.2.2.2.2.2.1],
 ()))
 fun b=>
 bif b.1 then
 Option.bind (F152 x.1.2.2.2.2.2.2.2.2.2.2.2.2.2.2.2)
 fun b=>some b
 else some (false,())
 else some (false,())
def S143:Sig:=⟨P143,R143,F143⟩
noncomputable def E143:Env:={ tab:=tab.opt { flats:=[(93,L93)],owns:=[87],frzs:=[89,90,91] },nt:=81,Γ:=lookG [(40,[S40]),(92,[S92]),(145,[S145]),(152,[S152]),(171,[S171]),(172,[S172]),(173,[S173]),(174,[S174])],joins:=lookN [],loops:=lookN [] }
theorem raw143_eq (x:T28D×Unit):afun E143 Tryz.f143 P143 R143 x=F143 x:=by kernel_rfl
def F102 (x:T33D×Unit):Option (Bool×Unit):=
 Option.bind (F143 x.1.2.2) fun b=>
 bif !b.1 then some (false,())
 else
 Option.bind (F144 (x.1.1,0,31,())) fun b=>
 bif !b.1 then some (false,())
 else
 bif decide (x.1.1=0) then
 bif decide (x.1.2.1=0) then some (decide (8≤x.1.2.2.1.1),())
 else some (false,())
 else
 Option.bind (F145 ([x.1.2.1],())) fun b=>
 bif b.1 then some (decide (x.1.2.2.1.1 < 8),()) else some (false,())
def S102:Sig:=⟨P102,R102,F102⟩
noncomputable def E102:Env:={ tab:=tab.opt { flats:=[(93,L93)],owns:=[87],frzs:=[89,90,91] },nt:=35,Γ:=lookG [(143,[S143]),(144,[S144]),(145,[S145])],joins:=lookN [],loops:=lookN [] }
theorem raw102_eq (x:T33D×Unit):afun E102 Tryz.f102 P102 R102 x=F102 x:=by kernel_rfl
def F68 (x:TMD×Unit):Option (Bool×Unit):=
 Option.bind (F67 (x.1.2.2.2.2.1,0,31,())) fun b=>
 bif decide (x.1.1=2) then
 Option.bind (F102 (x.1.2.2.2.1,())) fun b=>some b
 else
 bif decide (x.1.1=3) then
 bif b.1 then
 Option.bind (F103 (x.1.2.2.2.2.2.1,x.1.2.2.2.2.2.2.1,()))
 fun b=>
 bif b.1 then
 Option.bind (F67 (x.1.2.2.2.2.2.2.2.1,0,1099511627776,()))
 fun b=>
 bif b.1 then
 Option.bind (F67 (x.1.2.2.2.2.2.2.2.2.1,0,8,()))
 fun b=>some b
 else some (false,())
 else some (false,())
 else some (false,())
 else
 bif decide (x.1.1=4) then
 bif b.1 then
 Option.bind (F103 (x.1.2.2.2.2.2.1,x.1.2.2.2.2.2.2.1,()))
 fun b=>
 bif b.1 then
 Option.bind (F67 (x.1.2.2.2.2.2.2.2.1,1,1099511627776,()))
 fun b=>some b
 else some (false,())
 else some (false,())
 else
 bif decide (x.1.1=5) then
 Option.bind (F40 (x.1.2.2.2.2.2.1,())) fun b=>
 bif b.1 then
 bif decide (x.1.2.2.2.2.2.2.1=[]) then
 Option.bind (F67 (x.1.2.2.2.2.2.2.2.1,1,1099511627776,()))
 fun b=>some b
 else
 Option.bind (F59 (x.1.2.2.2.2.2.2.1,())) fun b=>
 bif b.1 then
 Option.bind (F67 (x.1.2.2.2.2.2.2.2.1,1,1099511627776,()))
 fun b=>some b
 else some (false,())
 else some (false,())
 else
 bif decide (x.1.1=6) then
 Option.bind (F67 (x.1.2.2.2.2.2.2.2.1,1,1099511627776,()))
 fun b=>some b
 else some (decide (x.1.1=7),())
def S68:Sig:=⟨P68,R68,F68⟩
noncomputable def E68:Env:={ tab:=tab.opt { flats:=[(93,L93)],owns:=[87],frzs:=[89,90,91] },nt:=77,Γ:=lookG [(40,[S40]),(59,[S59]),(67,[S67]),(102,[S102]),(103,[S103])],joins:=lookN [],loops:=lookN [] }
theorem raw68_eq (x:TMD×Unit):afun E68 Tryz.f68 P68 R68 x=F68 x:=by kernel_rfl
def F150 (x:T70D×Unit):Option (Bool×Unit):=
 Option.bind (F59 (x.1.1,())) fun b=>
 bif !b.1 then some (true,())
 else Option.bind (F151 ([x.1.2.1],())) fun b=>some (!b.1,())
def S150:Sig:=⟨P150,R150,F150⟩
noncomputable def E150:Env:={ tab:=tab.opt { flats:=[(93,L93)],owns:=[87],frzs:=[89,90,91] },nt:=14,Γ:=lookG [(59,[S59]),(151,[S151])],joins:=lookN [],loops:=lookN [] }
theorem raw150_eq (x:T70D×Unit):afun E150 Tryz.f150 P150 R150 x=F150 x:=by kernel_rfl
def F178b (x:List T70D×Unit):Option (Int×Unit):=
 iterE (Int×Unit) (Int×Unit)
 (fun (x_1:Int×Unit)=>
 bif decide (x_1.1 < Int.ofNat (List.length x.1)) then
 Option.bind (idx x.1 x_1.1)
 fun b=>
 Option.bind (F150 (b,())) fun b=>
 bif b.1 then some (Sum.inr x_1) else some (Sum.inl (wrap64 (x_1.1+1),()))
 else some (Sum.inr (-1,())))
 big (0,())
def S178b:Sig:=⟨P178b,R178b,F178b⟩
noncomputable def E178b:Env:={ tab:=tab.opt { flats:=[(93,L93)],owns:=[87],frzs:=[89,90,91] },nt:=19,Γ:=lookG [(150,[S150])],joins:=lookN [],loops:=lookN [(2,mkLoop ⟨[⟨.slot 8,(.int .i64),.pv⟩],[0,1,7],[]⟩)] }
theorem raw178b_eq (x:List T70D×Unit):afun E178b Tryz.f178 P178b R178b x=F178b x:=by kernel_rfl
def F147b (x:List T70D×Unit):Option (Bool×Unit):=
 Option.bind (F178b x) fun b=>some (decide (0≤b.1),())
def S147b:Sig:=⟨P147b,R147b,F147b⟩
noncomputable def E147b:Env:={ tab:=tab.opt { flats:=[(93,L93)],owns:=[87],frzs:=[89,90,91] },nt:=9,Γ:=lookG [(150,[S150]),(178,[S178a,S178b])],joins:=lookN [],loops:=lookN [] }
theorem raw147b_eq (x:List T70D×Unit):afun E147b Tryz.f147 P147b R147b x=F147b x:=by kernel_rfl
def F106 (x:List T70D×Int×Unit):Option (Bool×Unit):=
 bif decide (Int.ofNat (List.length x.1)≤x.2.1) then
 Option.bind (F147b (x.1,())) fun b=>some (!b.1,())
 else some (false,())
def S106:Sig:=⟨P106,R106,F106⟩
noncomputable def E106:Env:={ tab:=tab.opt { flats:=[(93,L93)],owns:=[87],frzs:=[89,90,91] },nt:=14,Γ:=lookG [(147,[S147a,S147b]),(150,[S150])],joins:=lookN [],loops:=lookN [] }
theorem raw106_eq (x:List T70D×Int×Unit):afun E106 Tryz.f106 P106 R106 x=F106 x:=by kernel_rfl
def F105 (x:List TBD×Unit):Option (Bool×Unit):=
 iterE (Int×Unit) (Bool×Unit)
 (fun (x_1:Int×Unit)=>
 bif decide (x_1.1 < Int.ofNat (List.length x.1)) then
 Option.bind (idx x.1 x_1.1)
 fun b=>
 Option.bind (F67 (b.1,1,1099511627776,())) fun b_1=>
 bif !b_1.1 then some (Sum.inr (false,()))
 else
 bif decide (0 < x_1.1) then
 Option.bind (idx x.1 (wrap64 (x_1.1 - 1)))
 fun b_2=>
 bif decide (b.1≤b_2.1) then some (Sum.inr (false,()))
 else
 Option.bind (F106 (b.2.1,48,())) fun b=>
 bif !b.1 then some (Sum.inr (false,()))
 else some (Sum.inl (wrap64 (x_1.1+1),()))
 else
 Option.bind (F106 (b.2.1,48,())) fun b=>
 bif !b.1 then some (Sum.inr (false,()))
 else some (Sum.inl (wrap64 (x_1.1+1),()))
 else some (Sum.inr (decide (Int.ofNat (List.length x.1)≤64),())))
 big (0,())
def S105:Sig:=⟨P105,R105,F105⟩
noncomputable def E105:Env:={ tab:=tab.opt { flats:=[(93,L93)],owns:=[87],frzs:=[89,90,91] },nt:=41,Γ:=lookG [(67,[S67]),(106,[S106])],joins:=lookN [],loops:=lookN [(2,mkLoop ⟨[⟨.slot 7,(.int .i64),.pv⟩],[0,5,6],[]⟩)] }
theorem raw105_eq (x:List TBD×Unit):afun E105 Tryz.f105 P105 R105 x=F105 x:=by kernel_rfl
def F107 (x:T55D×Unit):Option (Bool×Unit):=
 bif decide (x.1.1=0) then
 bif decide (x.1.2.1=0) then
 bif decide (Int.ofNat (List.length x.1.2.2.1)=0) then
 some (decide (Int.ofNat (List.length x.1.2.2.2.1)=0),())
 else some (false,())
 else some (false,())
 else some (false,())
def S107:Sig:=⟨P107,R107,F107⟩
noncomputable def E107:Env:={ tab:=tab.opt { flats:=[(93,L93)],owns:=[87],frzs:=[89,90,91] },nt:=23,Γ:=lookG [],joins:=lookN [],loops:=lookN [] }
theorem raw107_eq (x:T55D×Unit):afun E107 Tryz.f107 P107 R107 x=F107 x:=by kernel_rfl
def F108 (x:T55D×Unit):Option (Bool×Unit):=
 Option.bind (F145 ([x.1.1],())) fun b=>
 bif b.1 then
 Option.bind (F146 ([x.1.2.1],())) fun b=>
 bif b.1 then Option.bind (F152 x.1.2.2) fun b=>some b else some (false,())
 else some (false,())
def S108:Sig:=⟨P108,R108,F108⟩
noncomputable def E108:Env:={ tab:=tab.opt { flats:=[(93,L93)],owns:=[87],frzs:=[89,90,91] },nt:=20,Γ:=lookG [(145,[S145]),(146,[S146]),(152,[S152])],joins:=lookN [],loops:=lookN [] }
theorem raw108_eq (x:T55D×Unit):afun E108 Tryz.f108 P108 R108 x=F108 x:=by kernel_rfl
def F153a (x:List UInt8×Unit):Option (Bool×Unit):=
 bif decide (x.1=[]) then some (true,()) else Option.bind (F40 x) fun b=>some b
def S153a:Sig:=⟨P153a,R153a,F153a⟩
noncomputable def E153a:Env:={ tab:=tab.opt { flats:=[(93,L93)],owns:=[87],frzs:=[89,90,91] },nt:=12,Γ:=lookG [(40,[S40])],joins:=lookN [],loops:=lookN [] }
theorem raw153a_eq (x:List UInt8×Unit):afun E153a Tryz.f153 P153a R153a x=F153a x:=by kernel_rfl
def F153b (x:List UInt8×Unit):Option (Bool×Unit):=
 bif decide (x.1=[]) then some (true,()) else Option.bind (F59 x) fun b=>some b
def S153b:Sig:=⟨P153b,R153b,F153b⟩
noncomputable def E153b:Env:={ tab:=tab.opt { flats:=[(93,L93)],owns:=[87],frzs:=[89,90,91] },nt:=12,Γ:=lookG [(59,[S59])],joins:=lookN [],loops:=lookN [] }
theorem raw153b_eq (x:List UInt8×Unit):afun E153b Tryz.f153 P153b R153b x=F153b x:=by kernel_rfl
def F109 (x:T53D×Unit):Option (Bool×Unit):=
 bif decide (0≤x.1.1) then
 bif decide (x.1.1≤4) then
 Option.bind
 (F146
 ([x.1.2.1,x.1.2.2.1,x.1.2.2.2.2.2.1,x.1.2.2.2.2.2.2.2.1,
 x.1.2.2.2.2.2.2.2.2.1,x.1.2.2.2.2.2.2.2.2.2.1],
 ()))
 fun b=>
 bif b.1 then
 Option.bind (F153a (x.1.2.2.2.1,())) fun b=>
 bif b.1 then
 Option.bind (F153a (x.1.2.2.2.2.1,())) fun b=>
 bif b.1 then
 Option.bind (F153b (x.1.2.2.2.2.2.2.1,())) fun b=>some b
 else some (false,())
 else some (false,())
 else some (false,())
 else some (false,())
 else some (false,())
def S109:Sig:=⟨P109,R109,F109⟩
noncomputable def E109:Env:={ tab:=tab.opt { flats:=[(93,L93)],owns:=[87],frzs:=[89,90,91] },nt:=46,Γ:=lookG [(40,[S40]),(59,[S59]),(146,[S146]),(153,[S153a,S153b])],joins:=lookN [],loops:=lookN [] }
theorem raw109_eq (x:T53D×Unit):afun E109 Tryz.f109 P109 R109 x=F109 x:=by kernel_rfl
def F69 (x:TMD×Unit):Option (Bool×Unit):=
 Option.bind (F67 (x.1.2.2.2.2.2.2.2.2.2.1,0,15,())) fun b=>
 bif !b.1 then some (false,())
 else
 bif decide (x.1.1=8) then
 bif decide (-1≤x.1.2.2.2.2.2.2.2.2.2.2.1) then
 bif decide (x.1.2.2.2.2.2.2.2.2.2.2.1 < 3) then
 Option.bind (F104 (x.1.2.2.2.2.2.2.2.2.2.2.2.1,()))
 fun b=>some b
 else some (false,())
 else some (false,())
 else
 bif decide (x.1.1=9) then
 Option.bind (F67 (x.1.2.2.2.2.2.2.2.1,0,1099511627777,()))
 fun b=>
 bif b.1 then
 Option.bind (F105 (x.1.2.2.2.2.2.2.2.2.2.2.2.2.1,()))
 fun b=>some b
 else some (false,())
 else
 bif decide (x.1.1=10) then
 Option.bind (F106 (x.1.2.2.2.2.2.2.2.2.2.2.2.2.2.1,8,()))
 fun b=>some b
 else
 bif decide (x.1.1=11) then
 Option.bind (F107 (x.1.2.2.2.2.2.2.2.2.2.2.2.2.2.2.2.1,()))
 fun b=>
 bif b.1 then some (true,())
 else
 Option.bind (F108 (x.1.2.2.2.2.2.2.2.2.2.2.2.2.2.2.2.1,()))
 fun b=>some b
 else
 Option.bind (F67 (x.1.2.2.2.2.2.2.2.1,0,1099511627776,()))
 fun b=>
 bif b.1 then
 Option.bind (F109 x.1.2.2.2.2.2.2.2.2.2.2.2.2.2.2.2.2)
 fun b=>some b
 else some (false,())
def S69:Sig:=⟨P69,R69,F69⟩
noncomputable def E69:Env:={ tab:=tab.opt { flats:=[(93,L93)],owns:=[87],frzs:=[89,90,91] },nt:=57,Γ:=lookG [(67,[S67]),(104,[S104]),(105,[S105]),(106,[S106]),(107,[S107]),(108,[S108]),(109,[S109])],joins:=lookN [],loops:=lookN [] }
theorem raw69_eq (x:TMD×Unit):afun E69 Tryz.f69 P69 R69 x=F69 x:=by kernel_rfl
def F48 (x:TMD×Unit):Option (Bool×Unit):=
 bif decide (x.1.1 < 1) then some (false,())
 else
 bif decide (12 < x.1.1) then some (false,())
 else
 Option.bind (F65 x)
 fun b=>
 Option.bind (F64 (b.1,x)) fun b=>
 bif !b.1 then some (false,())
 else
 bif decide (x.1.1=1) then
 Option.bind (F66 (x.1.2.2.1,())) fun b=>some b
 else
 Option.bind (F67 (x.1.2.1,1,1099511627776,())) fun b=>
 bif !b.1 then some (false,())
 else
 bif decide (x.1.1 < 8) then Option.bind (F68 x) fun b=>some b
 else Option.bind (F69 x) fun b=>some b
def S48:Sig:=⟨P48,R48,F48⟩
noncomputable def E48:Env:={ tab:=tab.opt { flats:=[(93,L93)],owns:=[87],frzs:=[89,90,91] },nt:=39,Γ:=lookG [(64,[S64]),(65,[S65]),(66,[S66]),(67,[S67]),(68,[S68]),(69,[S69])],joins:=lookN [],loops:=lookN [] }
theorem raw48_eq (x:TMD×Unit):afun E48 Tryz.f48 P48 R48 x=F48 x:=by kernel_rfl
def F25 (x:Y123D×TMD×Unit):Option (Y70D×Int×Y123D×Unit):=
 bif x.1.2.2.2.2.2.2.2.1 then
 some
 ((0,0,
 (0,0,(0,0,0,0,0,0,0,0,false,[],(0,0,[],()),()),
 (0,0,(0,[],[],[],0,0,0,[],[],[],0,0,0,false,[],[],[],()),()),0,[],[],
 0,0,0,0,(0,0,false,0,[],0,0,()),[],[],false,(0,0,[],[],()),
 (0,0,0,[],[],0,[],0,0,0,()),()),
 ()),
 7,x.1,())
 else
 Option.bind (F47 (x.2.1.1,())) fun b=>
 bif decide (b.1=0) then
 some
 ((0,0,
 (0,0,(0,0,0,0,0,0,0,0,false,[],(0,0,[],()),()),
 (0,0,(0,[],[],[],0,0,0,[],[],[],0,0,0,false,[],[],[],()),()),0,[],
 [],0,0,0,0,(0,0,false,0,[],0,0,()),[],[],false,(0,0,[],[],()),
 (0,0,0,[],[],0,[],0,0,0,()),()),
 ()),
 1,x.1,())
 else
 Option.bind
 (F48
 ((x.2.1.1,wrap64 (x.1.2.2.2.2.1+1),x.2.1.2.2),()))
 fun b=>
 bif !b.1 then
 some
 ((0,0,
 (0,0,(0,0,0,0,0,0,0,0,false,[],(0,0,[],()),()),
 (0,0,(0,[],[],[],0,0,0,[],[],[],0,0,0,false,[],[],[],()),()),0,
 [],[],0,0,0,0,(0,0,false,0,[],0,0,()),[],[],false,
 (0,0,[],[],()),(0,0,0,[],[],0,[],0,0,0,()),()),
 ()),
 1,x.1,())
 else
 Option.bind
 (F49
 ((x.2.1.1,wrap64 (x.1.2.2.2.2.1+1),x.2.1.2.2),
 ()))
 fun b=>
 Option.bind
 (F42
 ((x.1.1,x.1.2.1,x.1.2.2.1,x.1.2.2.2.1,
 wrap64 (x.1.2.2.2.2.1+1),x.1.2.2.2.2.2.1,0,true,
 b),
 ()))
 fun b=>
 some (b.1,0,b.2)
def S25:Sig:=⟨P25,R25,F25⟩
noncomputable def E25:Env:={ tab:=tab.opt { flats:=[(93,L93)],owns:=[87],frzs:=[89,90,91] },nt:=50,Γ:=lookG [(42,[S42]),(47,[S47]),(48,[S48]),(49,[S49])],joins:=lookN [],loops:=lookN [] }
theorem raw25_eq (x:Y123D×TMD×Unit):afun E25 Tryz.f25 P25 R25 x=F25 x:=by kernel_rfl
def F9 (x:L93D×Unit):Option (Y70D×Bool×L93D×Unit):=
 Option.bind (List.head? x.1.2.2.1)
 fun b=>
 Option.bind (F22 (b,()))
 fun b=>
 bif b.1 then
 Option.bind (F23 b.2)
 fun b=>
 some (b.1,b.2.1,(x.1.1,x.1.2.1,[b.2.2.1],x.1.2.2.2),())
 else
 Option.bind (List.head? x.1.2.2.2.1)
 fun b_1=>
 Option.bind (F22 (b_1,()))
 fun b_2=>
 bif b_2.1 then
 Option.bind (F23 b_2.2)
 fun b_3=>
 some
 (b_3.1,b_3.2.1,
 (x.1.1,x.1.2.1,[b.2.1],[b_3.2.2.1],x.1.2.2.2.2),())
 else
 Option.bind
 (F24 ((x.1.1,x.1.2.1,[b.2.1],[b_2.2.1],x.1.2.2.2.2),()))
 fun b=>
 bif decide (b.1.1=0) then
 some
 ((0,0,
 (0,0,(0,0,0,0,0,0,0,0,false,[],(0,0,[],()),()),
 (0,0,(0,[],[],[],0,0,0,[],[],[],0,0,0,false,[],[],[],()),
 ()),
 0,[],[],0,0,0,0,(0,0,false,0,[],0,0,()),[],[],false,
 (0,0,[],[],()),(0,0,0,[],[],0,[],0,0,0,()),()),
 ()),
 false,b.2.2)
 else
 bif decide (b.2.1=Int.ofNat 0) then
 Option.bind (List.head? b.2.2.1.2.2.1)
 fun b_3=>
 Option.bind (F25 (b_3,b.1,()))
 fun b_4=>
 bif !decide (b_4.2.1=0) then
 some
 ((0,0,
 (0,0,(0,0,0,0,0,0,0,0,false,[],(0,0,[],()),()),
 (0,0,(0,[],[],[],0,0,0,[],[],[],0,0,0,false,[],[],[],()),
 ()),
 0,[],[],0,0,0,0,(0,0,false,0,[],0,0,()),[],[],false,
 (0,0,[],[],()),(0,0,0,[],[],0,[],0,0,0,()),
 ()),
 ()),
 false,
 (b.2.2.1.1,b.2.2.1.2.1,[b_4.2.2.1],b.2.2.1.2.2.2),
 ())
 else
 some
 (b_4.1,true,
 (b.2.2.1.1,b.2.2.1.2.1,[b_4.2.2.1],
 b.2.2.1.2.2.2.1,b.1,b.2.2.1.2.2.2.2.2),
 ())
 else
 bif decide (b.2.1=Int.ofNat (0+1)) then
 Option.bind (List.head? b.2.2.1.2.2.2.1)
 fun b_3=>
 Option.bind (F25 (b_3,b.1,()))
 fun b_4=>
 bif !decide (b_4.2.1=0) then
 some
 ((0,0,
 (0,0,(0,0,0,0,0,0,0,0,false,[],(0,0,[],()),()),
 (0,0,(0,[],[],[],0,0,0,[],[],[],0,0,0,false,[],[],[],()),
 ()),
 0,[],[],0,0,0,0,(0,0,false,0,[],0,0,()),[],[],false,
 (0,0,[],[],()),(0,0,0,[],[],0,[],0,0,0,()),
 ()),
 ()),
 false,
 (b.2.2.1.1,b.2.2.1.2.1,b.2.2.1.2.2.1,[b_4.2.2.1],
 b.2.2.1.2.2.2.2),
 ())
 else
 some
 (b_4.1,true,
 (b.2.2.1.1,b.2.2.1.2.1,b.2.2.1.2.2.1,[b_4.2.2.1],
 b.1,b.2.2.1.2.2.2.2.2),
 ())
 else none
def S9:Sig:=⟨P9,R9,F9⟩
noncomputable def E9:Env:={ tab:=tab.opt { flats:=[(93,L93)],owns:=[87],frzs:=[89,90,91] },nt:=55,Γ:=lookG [(22,[S22]),(23,[S23]),(24,[S24]),(25,[S25])],joins:=lookN [],loops:=lookN [],unr:=lookN [(4,3)] }
theorem raw9_eq (x:L93D×Unit):afun E9 Tryz.f9 P9 R9 x=F9 x:=by kernel_rfl
def F9a (x:Unit):Option (Y70D×Bool×Unit):=
 some
 ((0,0,
 (0,0,(0,0,0,0,0,0,0,0,false,[],(0,0,[],()),()),
 (0,0,(0,[],[],[],0,0,0,[],[],[],0,0,0,false,[],[],[],()),()),0,[],[],
 0,0,0,0,(0,0,false,0,[],0,0,()),[],[],false,(0,0,[],[],()),
 (0,0,0,[],[],0,[],0,0,0,()),()),
 ()),
 false,())
def S9a:Sig:=⟨P9a,R9a,F9a⟩
noncomputable def E9a:Env:={ tab:=tab.opt { flats:=[(93,L93)],owns:=[87],frzs:=[89,90,91] },nt:=55,Γ:=lookG [(22,[S22]),(23,[S23]),(24,[S24]),(25,[S25])],joins:=lookN [],loops:=lookN [],unr:=lookN [(4,3)] }
theorem raw9a_eq (x:Unit):afun E9a Tryz.f9 P9a R9a x=F9a x:=by kernel_rfl
def F4 (x:Unit):Option (Bool×Unit):=
 Option.bind (F7 ((1,[97,47],[98,47],(1,1,()),()),0,()))
 fun b=>
 bif b.1.1 then
 bif !decide (b.2.1=0) then some (false,())
 else
 Option.bind (F9 (b.1.2,()))
 fun b=>
 bif b.2.1 then
 bif decide (b.1.1=11) then
 bif decide (b.1.2.1=4) then some (decide (b.1.2.2.1.1=7),())
 else some (false,())
 else some (false,())
 else some (false,())
 else
 bif !decide (b.2.1=0) then some (false,())
 else
 Option.bind (F9a ())
 fun b=>
 bif b.2.1 then
 bif decide (b.1.1=11) then
 bif decide (b.1.2.1=4) then some (decide (b.1.2.2.1.1=7),())
 else some (false,())
 else some (false,())
 else some (false,())
def S4:Sig:=⟨P4,R4,F4⟩
noncomputable def E4:Env:={ tab:=tab.opt { flats:=[(93,L93)],owns:=[87],frzs:=[89,90,91] },nt:=35,Γ:=lookG [(7,[S7]),(9,[S9,S9a])],joins:=lookN [],loops:=lookN [] }
theorem raw4_eq (x:Unit):afun E4 Tryz.f4 P4 R4 x=F4 x:=by kernel_rfl
def F36 (x:T28D×Unit):Option (Bool×Unit):=
 bif decide (10 < Int.ofNat (List.length x.1.2.2.2.2.2.2.2.1)) then some (false,())
 else
 bif decide (10 < Int.ofNat (List.length x.1.2.2.2.2.2.2.2.2.1)) then some (false,())
 else
 bif decide (10 < Int.ofNat (List.length x.1.2.2.2.2.2.2.2.2.2.1)) then
 some (false,())
 else
 bif decide (80 < Int.ofNat (List.length x.1.2.2.2.2.2.2.2.2.2.2.2.2.2.2.1)) then
 some (false,())
 else
 bif
 decide
 (20 <
 Int.ofNat (List.length x.1.2.2.2.2.2.2.2.2.2.2.2.2.2.2.2.1)) then
 some (false,())
 else
 bif
 decide
 (80 <
 Int.ofNat
 (List.length x.1.2.2.2.2.2.2.2.2.2.2.2.2.2.2.2.2.1)) then
 some (false,())
 else
 iterE Y22D (Bool×Unit)
 (fun (x_1:Y22D)=>
 bif
 decide
 (x_1.2.1 <
 Int.ofNat
 (List.length x.1.2.2.2.2.2.2.2.2.2.2.2.2.2.2.1)) then
 Option.bind (idx x.1.2.2.2.2.2.2.2.2.2.2.2.2.2.2.1 x_1.2.1)
 fun b=>
 Option.bind (idx x.1.2.2.2.2.2.2.2.2.2.2.2.2.2.2.1 x_1.2.1)
 fun b_1=>
 some
 (Sum.inl
 (wrap64
 (wrap64 (x_1.1+Int.ofNat (List.length b.1)) +
 Int.ofNat (List.length b_1.2.1.2.2.2.2.1)),
 wrap64 (x_1.2.1+1),()))
 else
 Option.map Sum.inr
 (iterE Y22D (Bool×Unit)
 (fun (x_2:Y22D)=>
 bif
 decide
 (x_2.2.1 <
 Int.ofNat
 (List.length
 x.1.2.2.2.2.2.2.2.2.2.2.2.2.2.2.2.1)) then
 Option.bind
 (idx x.1.2.2.2.2.2.2.2.2.2.2.2.2.2.2.2.1 x_2.2.1)
 fun b=>
 bif decide (12 < Int.ofNat (List.length b.2.2.1.2.2.2.2.1)) then
 some (Sum.inr (false,()))
 else
 Option.bind
 (idx x.1.2.2.2.2.2.2.2.2.2.2.2.2.2.2.2.1
 x_2.2.1)
 fun b=>
 iterE Y22D (Y22D⊕Bool×Unit)
 (fun (x_3:Y22D)=>
 bif
 decide
 (x_3.2.1 <
 Int.ofNat (List.length b.2.2.1.2.2.2.2.1)) then
 Option.bind
 (idx x.1.2.2.2.2.2.2.2.2.2.2.2.2.2.2.2.1
 x_2.2.1)
 fun b=>
 Option.bind (idx b.2.2.1.2.2.2.2.1 x_3.2.1)
 fun b=>
 Option.bind
 (idx x.1.2.2.2.2.2.2.2.2.2.2.2.2.2.2.2.1
 x_2.2.1)
 fun b_1=>
 Option.bind (idx b_1.2.2.1.2.2.2.2.1 x_3.2.1)
 fun b_2=>
 some
 (Sum.inl
 (wrap64
 (wrap64
 (x_3.1+Int.ofNat (List.length b.1)) +
 Int.ofNat (List.length b_2.2.1.2.2.2.2.1)),
 wrap64 (x_3.2.1+1),()))
 else
 some
 (Sum.inr
 (Sum.inl
 (x_3.1,wrap64 (x_2.2.1+1),()))))
 big (x_2.1,0,())
 else
 Option.map Sum.inr
 (iterE Y22D (Bool×Unit)
 (fun (x_3:Y22D)=>
 bif
 decide
 (x_3.2.1 <
 Int.ofNat (List.length x.1.2.2.2.2.2.2.2.2.1)) then
 Option.bind (idx x.1.2.2.2.2.2.2.2.2.1 x_3.2.1)
 fun b=>
 Option.bind (idx x.1.2.2.2.2.2.2.2.2.1 x_3.2.1)
 fun b_1=>
 Option.bind (idx x.1.2.2.2.2.2.2.2.2.1 x_3.2.1)
 fun b_2=>
 some
 (Sum.inl
 (wrap64
 (wrap64
 (wrap64
 (x_3.1+Int.ofNat (List.length b.2.1)) +
 Int.ofNat (List.length b_1.2.2.1)) +
 Int.ofNat (List.length b_2.2.2.2.1)),
 wrap64 (x_3.2.1+1),()))
 else
 Option.map Sum.inr
 (iterE Y22D (Bool×Unit)
 (fun (x_4:Y22D)=>
 bif
 decide
 (x_4.2.1 <
 Int.ofNat
 (List.length x.1.2.2.2.2.2.2.2.2.2.1)) then
 Option.bind (idx x.1.2.2.2.2.2.2.2.2.2.1 x_4.2.1)
 fun b=>
 Option.bind
 (idx x.1.2.2.2.2.2.2.2.2.2.1 x_4.2.1)
 fun b_1=>
 Option.bind
 (idx x.1.2.2.2.2.2.2.2.2.2.1 x_4.2.1)
 fun b_2=>
 some
 (Sum.inl
 (wrap64
 (wrap64
 (wrap64
 (x_4.1+Int.ofNat (List.length b.2.1)) +
 Int.ofNat (List.length b_1.2.2.1)) +
 Int.ofNat (List.length b_2.2.2.2.1)),
 wrap64 (x_4.2.1+1),()))
 else
 Option.map Sum.inr
 (iterE Y22D (Bool×Unit)
 (fun (x_5:Y22D)=>
 bif
 decide
 (x_5.2.1 <
 Int.ofNat
 (List.length x.1.2.2.2.2.2.2.2.1)) then
 Option.bind (idx x.1.2.2.2.2.2.2.2.1 x_5.2.1)
 fun b=>
 Option.bind
 (idx x.1.2.2.2.2.2.2.2.1 x_5.2.1)
 fun b_1=>
 some
 (Sum.inl
 (wrap64
 (wrap64
 (x_5.1+Int.ofNat (List.length b.1)) +
 Int.ofNat (List.length b_1.2.2.2.2.1)),
 wrap64 (x_5.2.1+1),()))
 else some (Sum.inr (decide (x_5.1≤30000),())))
 big (x_4.1,0,())))
 big (x_3.1,0,())))
 big (x_2.1,0,())))
 big (x_1.1,0,())))
 big
 (wrap64
 (wrap64
 (Int.ofNat (List.length x.1.2.1)+Int.ofNat (List.length x.1.2.2.1)) +
 Int.ofNat (List.length x.1.2.2.2.1)),
 0,())
def S36:Sig:=⟨P36,R36,F36⟩
noncomputable def E36:Env:={ tab:=tab.opt { flats:=[(93,L93)],owns:=[87],frzs:=[89,90,91] },nt:=226,Γ:=lookG [],joins:=lookN [],loops:=lookN [(5,mkLoop ⟨[⟨.slot 3,(.int .i64),.pv⟩,⟨.slot 58,(.int .i64),.pv⟩],[1,57],[.site 1000,.fld 1000 0,.fld 1000 1,.fld 1000 2,.fld 1000 3,.fld 1000 4,.fld 1000 5,.fld 1000 6,.fld 1000 7,.fld 1000 8,.fld 1000 9,.fld 1000 10,.fld 1000 11,.fld 1000 12,.fld 1000 13,.fld 1000 14,.fld 1000 15,.fld 1000 16]⟩),(10,mkLoop ⟨[⟨.slot 3,(.int .i64),.pv⟩,⟨.slot 83,(.int .i64),.pv⟩],[1,82],[.site 1000,.fld 1000 0,.fld 1000 1,.fld 1000 2,.fld 1000 3,.fld 1000 4,.fld 1000 5,.fld 1000 6,.fld 1000 7,.fld 1000 8,.fld 1000 9,.fld 1000 10,.fld 1000 11,.fld 1000 12,.fld 1000 13,.fld 1000 14,.fld 1000 15,.fld 1000 16]⟩),(15,mkLoop ⟨[⟨.slot 3,(.int .i64),.pv⟩,⟨.slot 103,(.int .i64),.pv⟩],[1,5,82,83,102],[.site 1000,.fld 1000 0,.fld 1000 1,.fld 1000 2,.fld 1000 3,.fld 1000 4,.fld 1000 5,.fld 1000 6,.fld 1000 7,.fld 1000 8,.fld 1000 9,.fld 1000 10,.fld 1000 11,.fld 1000 12,.fld 1000 13,.fld 1000 14,.fld 1000 15,.fld 1000 16]⟩),(21,mkLoop ⟨[⟨.slot 3,(.int .i64),.pv⟩,⟨.slot 139,(.int .i64),.pv⟩],[1,138],[.site 1000,.fld 1000 0,.fld 1000 1,.fld 1000 2,.fld 1000 3,.fld 1000 4,.fld 1000 5,.fld 1000 6,.fld 1000 7,.fld 1000 8,.fld 1000 9,.fld 1000 10,.fld 1000 11,.fld 1000 12,.fld 1000 13,.fld 1000 14,.fld 1000 15,.fld 1000 16]⟩),(26,mkLoop ⟨[⟨.slot 3,(.int .i64),.pv⟩,⟨.slot 171,(.int .i64),.pv⟩],[1,170],[.site 1000,.fld 1000 0,.fld 1000 1,.fld 1000 2,.fld 1000 3,.fld 1000 4,.fld 1000 5,.fld 1000 6,.fld 1000 7,.fld 1000 8,.fld 1000 9,.fld 1000 10,.fld 1000 11,.fld 1000 12,.fld 1000 13,.fld 1000 14,.fld 1000 15,.fld 1000 16]⟩),(31,mkLoop ⟨[⟨.slot 3,(.int .i64),.pv⟩,⟨.slot 203,(.int .i64),.pv⟩],[1,202],[.site 1000,.fld 1000 0,.fld 1000 1,.fld 1000 2,.fld 1000 3,.fld 1000 4,.fld 1000 5,.fld 1000 6,.fld 1000 7,.fld 1000 8,.fld 1000 9,.fld 1000 10,.fld 1000 11,.fld 1000 12,.fld 1000 13,.fld 1000 14,.fld 1000 15,.fld 1000 16]⟩)] }
theorem raw36_eq (x:T28D×Unit):afun E36 Tryz.f36 P36 R36 x=F36 x:=by kernel_rfl
def F57 (x:List T25D×Int×Unit):Option (Bool×Unit):=
 iterE Y22D (Bool×Unit)
 (fun (x_1:Y22D)=>
 bif decide (x_1.2.1 < Int.ofNat (List.length x.1)) then
 Option.bind (idx x.1 x_1.2.1) fun b=>
 bif decide (x.2.1≤x_1.2.1) then some (Sum.inr (false,()))
 else
 bif decide (40000 < wrap64 (x_1.1+Int.ofNat (List.length b.2.2.1))) then
 some (Sum.inr (false,()))
 else
 some
 (Sum.inl
 (wrap64 (x_1.1+Int.ofNat (List.length b.2.2.1)),
 wrap64 (x_1.2.1+1),()))
 else some (Sum.inr (true,())))
 big (0,0,())
def S57:Sig:=⟨P57,R57,F57⟩
noncomputable def E57:Env:={ tab:=tab.opt { flats:=[(93,L93)],owns:=[87],frzs:=[89,90,91] },nt:=28,Γ:=lookG [],joins:=lookN [],loops:=lookN [(3,mkLoop ⟨[⟨.slot 5,(.int .i64),.pv⟩,⟨.slot 9,(.int .i64),.pv⟩],[0,1,8],[]⟩)] }
theorem raw57_eq (x:List T25D×Int×Unit):afun E57 Tryz.f57 P57 R57 x=F57 x:=by kernel_rfl
def F37 (x:T27D×Unit):Option (Bool×Unit):=
 Option.bind (F57 (x.1.2.2.2.2.2.2.2.2.2.1,6,())) fun b=>
 bif b.1 then
 some
 (decide (Int.ofNat (List.length x.1.2.2.2.2.2.2.2.2.2.2.1.2.2.1)≤2000),
 ())
 else some (false,())
def S37:Sig:=⟨P37,R37,F37⟩
noncomputable def E37:Env:={ tab:=tab.opt { flats:=[(93,L93)],owns:=[87],frzs:=[89,90,91] },nt:=13,Γ:=lookG [(57,[S57])],joins:=lookN [],loops:=lookN [] }
theorem raw37_eq (x:T27D×Unit):afun E37 Tryz.f37 P37 R37 x=F37 x:=by kernel_rfl
def F18 (x:TMD×Unit):Option (Bool×Unit):=
 iterE Y22D (Bool×Unit)
 (fun (x_1:Y22D)=>
 bif decide (x_1.2.1 < Int.ofNat (List.length x.1.2.2.2.2.2.2.2.2.2.2.2.2.1)) then
 Option.bind (idx x.1.2.2.2.2.2.2.2.2.2.2.2.2.1 x_1.2.1)
 fun b=>
 bif
 decide
 (400 <
 wrap64
 (wrap64 (x_1.1+1)+Int.ofNat (List.length b.2.1))) then
 some (Sum.inr (false,()))
 else
 Option.bind (idx x.1.2.2.2.2.2.2.2.2.2.2.2.2.1 x_1.2.1)
 fun b_1=>
 Option.bind
 (F36
 ((0,[],[],[],0,0,0,[],[],[],0,0,0,false,b_1.2.1,[],[],()),()))
 fun b_2=>
 bif !b_2.1 then some (Sum.inr (false,()))
 else
 some
 (Sum.inl
 (wrap64
 (wrap64 (x_1.1+1)+Int.ofNat (List.length b.2.1)),
 wrap64 (x_1.2.1+1),()))
 else
 Option.map Sum.inr
 (Option.bind (F37 (x.1.2.2.1,())) fun b=>
 bif b.1 then
 Option.bind (F36 x.1.2.2.2.1.2.2) fun b=>
 bif b.1 then
 Option.bind
 (F36
 ((0,[],[],[],0,0,0,[],[],[],0,0,0,false,
 x.1.2.2.2.2.2.2.2.2.2.2.2.2.2.1,[],[],()),
 ()))
 fun b=>
 bif b.1 then
 Option.bind
 (appM [(0,0,x.1.2.2.2.2.2.2.2.2.2.2.2.1,())]
 x.1.2.2.2.2.2.2.2.2.2.2.2.2.2.2.2.1.2.2.1)
 fun b=>
 Option.bind
 (F36
 ((0,[],[],[],0,0,0,[],[],[],0,0,0,false,[],b,
 x.1.2.2.2.2.2.2.2.2.2.2.2.2.2.2.2.1.2.2.2),
 ()))
 fun b=>
 bif b.1 then
 some
 (decide
 (wrap64
 (wrap64
 (wrap64
 (wrap64
 (Int.ofNat (List.length x.1.2.2.2.2.2.1) +
 Int.ofNat (List.length x.1.2.2.2.2.2.2.1)) +
 Int.ofNat
 (List.length
 x.1.2.2.2.2.2.2.2.2.2.2.2.2.2.2.2.2.1.2.2.2.1)) +
 Int.ofNat
 (List.length
 x.1.2.2.2.2.2.2.2.2.2.2.2.2.2.2.2.2.1.2.2.2.2.1)) +
 Int.ofNat
 (List.length
 x.1.2.2.2.2.2.2.2.2.2.2.2.2.2.2.2.2.1.2.2.2.2.2.2.1))≤
 500),
 ())
 else some (false,())
 else some (false,())
 else some (false,())
 else some (false,())))
 big (0,0,())
def S18:Sig:=⟨P18,R18,F18⟩
noncomputable def E18:Env:={ tab:=tab.opt { flats:=[(93,L93)],owns:=[87],frzs:=[89,90,91] },nt:=90,Γ:=lookG [(36,[S36]),(37,[S37])],joins:=lookN [],loops:=lookN [(3,mkLoop ⟨[⟨.slot 3,(.int .i64),.pv⟩,⟨.slot 8,(.int .i64),.pv⟩],[1,7],[.site 1000,.fld 1000 0,.fld 1000 1,.fld 1000 2,.fld 1000 3,.fld 1000 4,.fld 1000 5,.fld 1000 6,.fld 1000 7,.fld 1000 8,.fld 1000 9,.fld 1000 10,.fld 1000 11,.fld 1000 12,.fld 1000 13,.fld 1000 14,.fld 1000 15,.fld 1000 16]⟩)] }
theorem raw18_eq (x:TMD×Unit):afun E18 Tryz.f18 P18 R18 x=F18 x:=by kernel_rfl
def F5 (x:List Y64D×Int×Unit):Option (Bool×Unit):=
 iterE Y22D (Bool×Unit)
 (fun (x_1:Y22D)=>
 bif decide (x_1.2.1 < Int.ofNat (List.length x.1)) then
 Option.bind (idx x.1 x_1.2.1)
 fun b=>
 bif decide (x.2.1≤x_1.2.1) then some (Sum.inr (false,()))
 else
 bif
 decide
 (300 <
 wrap64
 (x_1.1 +
 Int.ofNat
 (List.length b.2.2.2.1.2.2.2.2.2.2.2.2.2.2.2.2.1))) then
 some (Sum.inr (false,()))
 else
 Option.bind (idx x.1 x_1.2.1)
 fun b_1=>
 Option.bind (F18 b_1.2.2.2) fun b_2=>
 bif !b_2.1 then some (Sum.inr (false,()))
 else
 some
 (Sum.inl
 (wrap64
 (x_1.1 +
 Int.ofNat
 (List.length b.2.2.2.1.2.2.2.2.2.2.2.2.2.2.2.2.1)),
 wrap64 (x_1.2.1+1),()))
 else some (Sum.inr (true,())))
 big (0,0,())
def S5:Sig:=⟨P5,R5,F5⟩
noncomputable def E5:Env:={ tab:=tab.opt { flats:=[(93,L93)],owns:=[87],frzs:=[89,90,91] },nt:=38,Γ:=lookG [(18,[S18])],joins:=lookN [],loops:=lookN [(3,mkLoop ⟨[⟨.slot 5,(.int .i64),.pv⟩,⟨.slot 9,(.int .i64),.pv⟩],[0,1,8],[]⟩)] }
theorem raw5_eq (x:List Y64D×Int×Unit):afun E5 Tryz.f5 P5 R5 x=F5 x:=by kernel_rfl
def F89 (x:List UInt8×UInt8×Unit):Option (Bool×Unit):=
 iterE (Int×Unit) (Bool×Unit)
 (fun (x_1:Int×Unit)=>
 bif decide (x_1.1 < Int.ofNat (List.length x.1)) then
 Option.bind (idx x.1 x_1.1) fun b=>
 bif decide (intOf8 b < intOf8 (UInt8.ofNat 33)) then some (Sum.inr (false,()))
 else
 Option.bind (idx x.1 x_1.1) fun b=>
 bif decide (intOf8 x.2.1 < intOf8 b) then some (Sum.inr (false,()))
 else some (Sum.inl (wrap64 (x_1.1+1),()))
 else
 Option.map Sum.inr
 (bif decide (1≤Int.ofNat (List.length x.1)) then
 some (decide (Int.ofNat (List.length x.1)≤32),())
 else some (false,())))
 big (0,())
def S89:Sig:=⟨P89,R89,F89⟩
noncomputable def E89:Env:={ tab:=tab.opt { flats:=[(93,L93)],owns:=[87],frzs:=[89,90,91] },nt:=31,Γ:=lookG [],joins:=lookN [],loops:=lookN [(2,mkLoop ⟨[⟨.slot 8,(.int .i64),.pv⟩],[0,1,7],[]⟩)] }
theorem raw89_eq (x:List UInt8×UInt8×Unit):afun E89 Tryz.f89 P89 R89 x=F89 x:=by kernel_rfl
def F58 (x:List UInt8×Unit):Option (Bool×Unit):=Option.bind (F89 (x.1,UInt8.ofNat 126,())) fun b=>some b
def S58:Sig:=⟨P58,R58,F58⟩
noncomputable def E58:Env:={ tab:=tab.opt { flats:=[(93,L93)],owns:=[87],frzs:=[89,90,91] },nt:=5,Γ:=lookG [(89,[S89])],joins:=lookN [],loops:=lookN [] }
theorem raw58_eq (x:List UInt8×Unit):afun E58 Tryz.f58 P58 R58 x=F58 x:=by kernel_rfl
def F38 (x:List UInt8×Unit):Option (Bool×Unit):=
 bif decide (Int.ofNat (List.length x.1)≤8) then Option.bind (F58 x) fun b=>some b
 else some (false,())
def S38:Sig:=⟨P38,R38,F38⟩
noncomputable def E38:Env:={ tab:=tab.opt { flats:=[(93,L93)],owns:=[87],frzs:=[89,90,91] },nt:=10,Γ:=lookG [(58,[S58])],joins:=lookN [],loops:=lookN [] }
theorem raw38_eq (x:List UInt8×Unit):afun E38 Tryz.f38 P38 R38 x=F38 x:=by kernel_rfl
def F39 (x:List UInt8×List UInt8×Unit):Option (Bool×Unit):=
 bif decide (Int.ofNat (List.length x.2.1)≤Int.ofNat (List.length x.1)) then
 Option.bind (sliceO x.1 0 (Int.ofNat (List.length x.2.1))) fun b=>
 some (decide (b=x.2.1),())
 else some (false,())
def S39:Sig:=⟨P39,R39,F39⟩
noncomputable def E39:Env:={ tab:=tab.opt { flats:=[(93,L93)],owns:=[87],frzs:=[89,90,91] },nt:=18,Γ:=lookG [],joins:=lookN [],loops:=lookN [] }
theorem raw39_eq (x:List UInt8×List UInt8×Unit):afun E39 Tryz.f39 P39 R39 x=F39 x:=by kernel_rfl
def F19 (x:List UInt8×List UInt8×Unit):Option (Bool×Unit):=
 Option.bind (F38 (x.1,())) fun b=>
 bif b.1 then
 Option.bind (F38 x.2) fun b=>
 bif b.1 then
 Option.bind (F39 x) fun b=>
 bif !b.1 then
 Option.bind (F39 (x.2.1,x.1,())) fun b=>some (!b.1,())
 else some (false,())
 else some (false,())
 else some (false,())
def S19:Sig:=⟨P19,R19,F19⟩
noncomputable def E19:Env:={ tab:=tab.opt { flats:=[(93,L93)],owns:=[87],frzs:=[89,90,91] },nt:=23,Γ:=lookG [(38,[S38]),(39,[S39])],joins:=lookN [],loops:=lookN [] }
theorem raw19_eq (x:List UInt8×List UInt8×Unit):afun E19 Tryz.f19 P19 R19 x=F19 x:=by kernel_rfl
def F6 (x:Int×List UInt8×List UInt8×Y22D×Int×Unit):Option (Bool×Unit):=
 bif decide (1≤x.1) then
 bif decide (x.1≤1099511627776) then
 Option.bind (F19 (x.2.1,x.2.2.1,())) fun b=>
 bif b.1 then
 bif decide (1≤x.2.2.2.1.1) then
 bif decide (x.2.2.2.1.1≤3) then
 bif decide (1≤x.2.2.2.1.2.1) then
 bif decide (x.2.2.2.1.2.1≤3) then
 bif decide (0≤x.2.2.2.2.1) then some (decide (x.2.2.2.2.1≤500000),())
 else some (false,())
 else some (false,())
 else some (false,())
 else some (false,())
 else some (false,())
 else some (false,())
 else some (false,())
 else some (false,())
def S6:Sig:=⟨P6,R6,F6⟩
noncomputable def E6:Env:={ tab:=tab.opt { flats:=[(93,L93)],owns:=[87],frzs:=[89,90,91] },nt:=50,Γ:=lookG [(19,[S19])],joins:=lookN [],loops:=lookN [] }
theorem raw6_eq (x:Int×List UInt8×List UInt8×Y22D×Int×Unit):afun E6 Tryz.f6 P6 R6 x=F6 x:=by kernel_rfl
def F8 (x:Int×List UInt8×List UInt8×Y22D×Int×Unit):Option (Y61D×Unit):=
 iterE
 (Int×((Int×Int×Int×Int×Int×Int×Int×Bool×Bool×(Int×Int×(Int×Int×Int×Int×Int×Int×Int×Int×Bool×List T25D×T25D×Unit)×(Int×Int×(Int×List UInt8×List UInt8×List UInt8×Int×Int×Int×List T96D×List
 T48D×List
 T48D×Int×Int×Int×Bool×List
 T70D×List
 (Int×Int×(Int×Int×Bool×Int×List
 T70D×Y22D)×Unit)×List T113D×Unit)×Unit)×Int×List UInt8×List UInt8×Int×Int×Int×Int×(Int×Int×Bool×Int×List
 T70D×Y22D)×List
 (Int×List
 T70D×Unit)×List
 T70D×Bool×(Int×Int×List
 (Int×Int×(Int×Int×Bool×Int×List
 T70D×Y22D)×Unit)×List T113D×Unit)×T53D×Unit)×Unit)×(Int×Int×Int×Int×Int×Int×Int×Bool×Bool×(Int×Int×(Int×Int×Int×Int×Int×Int×Int×Int×Bool×List T25D×T25D×Unit)×(Int×Int×(Int×List UInt8×List UInt8×List UInt8×Int×Int×Int×List T96D×List
 T48D×List
 T48D×Int×Int×Int×Bool×List
 T70D×List
 (Int×Int×(Int×Int×Bool×Int×List
 (List UInt8×(Int×Int×Int×Int×List
 UInt8×Int×Bool×Unit)×Unit)×Y22D)×Unit)×List T113D×Unit)×Unit)×Int×List UInt8×List UInt8×Int×Int×Int×Int×(Int×Int×Bool×Int×List
 T70D×Y22D)×List
 (Int×List
 T70D×Unit)×List
 T70D×Bool×(Int×Int×List
 (Int×Int×(Int×Int×Bool×Int×List
 T70D×Y22D)×Unit)×List T113D×Unit)×T53D×Unit)×Unit)×Unit)×Unit)
 ((Int×List UInt8×List UInt8×Int×((Int×Int×Int×Int×Int×Int×Int×Bool×Bool×(Int×Int×(Int×Int×Int×Int×Int×Int×Int×Int×Bool×List T25D×T25D×Unit)×(Int×Int×(Int×List UInt8×List UInt8×List UInt8×Int×Int×Int×List
 T96D×List
 T48D×List
 T48D×Int×Int×Int×Bool×List
 T70D×List
 (Int×Int×(Int×Int×Bool×Int×List
 (List UInt8×(Int×Int×Int×Int×List
 UInt8×Int×Bool×Unit)×Unit)×Y22D)×Unit)×List T113D×Unit)×Unit)×Int×List UInt8×List UInt8×Int×Int×Int×Int×(Int×Int×Bool×Int×List
 T70D×Y22D)×List
 (Int×List
 T70D×Unit)×List
 T70D×Bool×(Int×Int×List
 (Int×Int×(Int×Int×Bool×Int×List
 T70D×Y22D)×Unit)×List T113D×Unit)×T53D×Unit)×Unit)×(Int×Int×Int×Int×Int×Int×Int×Bool×Bool×(Int×Int×(Int×Int×Int×Int×Int×Int×Int×Int×Bool×List T25D×T25D×Unit)×(Int×Int×(Int×List UInt8×List UInt8×List UInt8×Int×Int×Int×List
 T96D×List
 T48D×List
 T48D×Int×Int×Int×Bool×List
 T70D×List
 (Int×Int×(Int×Int×Bool×Int×List
 (List UInt8×(Int×Int×Int×Int×List
 UInt8×Int×Bool×Unit)×Unit)×Y22D)×Unit)×List T113D×Unit)×Unit)×Int×List UInt8×List UInt8×Int×Int×Int×Int×(Int×Int×Bool×Int×List
 T70D×Y22D)×List
 (Int×List
 T70D×Unit)×List
 T70D×Bool×(Int×Int×List
 (Int×Int×(Int×Int×Bool×Int×List
 (List UInt8×(Int×Int×Int×Int×List
 UInt8×Int×Bool×Unit)×Unit)×Y22D)×Unit)×List T113D×Unit)×T53D×Unit)×Unit)×Unit)×(Int×Int×(Int×Int×Int×Int×Int×Int×Int×Int×Bool×List T25D×T25D×Unit)×(Int×Int×(Int×List UInt8×List UInt8×List UInt8×Int×Int×Int×List T96D×List T48D×List T48D×Int×Int×Int×Bool×List
 T70D×List
 (Int×Int×(Int×Int×Bool×Int×List
 T70D×Y22D)×Unit)×List T113D×Unit)×Unit)×Int×List UInt8×List UInt8×Int×Int×Int×Int×(Int×Int×Bool×Int×List
 T70D×Y22D)×List
 (Int×List
 T70D×Unit)×List
 T70D×Bool×(Int×Int×List
 (Int×Int×(Int×Int×Bool×Int×List
 T70D×Y22D)×Unit)×List T113D×Unit)×T53D×Unit)×Bool×T53D×Int×Bool×Bool×List T70D×Bool×List T70D×Int×Bool×Bool×Bool×(Int×Int×List
 (Int×Int×(Int×Int×Bool×Int×List
 T70D×Y22D)×Unit)×List T113D×Unit)×Bool×Unit)×Unit)
 (fun (x_1 :
 Int×((Int×Int×Int×Int×Int×Int×Int×Bool×Bool×(Int×Int×(Int×Int×Int×Int×Int×Int×Int×Int×Bool×List T25D×T25D×Unit)×(Int×Int×(Int×List UInt8×List UInt8×List UInt8×Int×Int×Int×List
 T96D×List
 T48D×List
 T48D×Int×Int×Int×Bool×List
 T70D×List
 (Int×Int×(Int×Int×Bool×Int×List
 (List UInt8×(Int×Int×Int×Int×List
 UInt8×Int×Bool×Unit)×Unit)×Y22D)×Unit)×List T113D×Unit)×Unit)×Int×List UInt8×List UInt8×Int×Int×Int×Int×(Int×Int×Bool×Int×List
 T70D×Y22D)×List
 (Int×List
 T70D×Unit)×List
 T70D×Bool×(Int×Int×List
 (Int×Int×(Int×Int×Bool×Int×List
 T70D×Y22D)×Unit)×List T113D×Unit)×T53D×Unit)×Unit)×(Int×Int×Int×Int×Int×Int×Int×Bool×Bool×(Int×Int×(Int×Int×Int×Int×Int×Int×Int×Int×Bool×List T25D×T25D×Unit)×(Int×Int×(Int×List UInt8×List UInt8×List UInt8×Int×Int×Int×List
 T96D×List
 T48D×List
 T48D×Int×Int×Int×Bool×List
 T70D×List
 (Int×Int×(Int×Int×Bool×Int×List
 (List UInt8×(Int×Int×Int×Int×List
 UInt8×Int×Bool×Unit)×Unit)×Y22D)×Unit)×List T113D×Unit)×Unit)×Int×List UInt8×List UInt8×Int×Int×Int×Int×(Int×Int×Bool×Int×List
 T70D×Y22D)×List
 (Int×List
 T70D×Unit)×List
 T70D×Bool×(Int×Int×List
 (Int×Int×(Int×Int×Bool×Int×List
 T70D×Y22D)×Unit)×List T113D×Unit)×T53D×Unit)×Unit)×Unit)×Unit)=>
 bif decide (x_1.1 < 2) then
 bif decide (x_1.1=Int.ofNat 0) then
 Option.bind (idxK 2 x_1.1) fun b=>
 Option.bind
 (bif Nat.beq b 0 then
 some
 ((11,x_1.1,x.2.2.2.1.1,8,wrap64 (x.2.2.2.2.1*1000000),
 0,0,false,false,
 (0,0,(0,0,0,0,0,0,0,0,false,[],(0,0,[],()),()),
 (0,0,(0,[],[],[],0,0,0,[],[],[],0,0,0,false,[],[],[],()),
 ()),
 0,[],[],0,0,0,0,(0,0,false,0,[],0,0,()),[],[],false,
 (0,0,[],[],()),(0,0,0,[],[],0,[],0,0,0,()),()),
 ()),
 x_1.2.1.2)
 else
 bif Nat.beq b (0+1) then
 some
 (x_1.2.1.1,
 (11,x_1.1,x.2.2.2.1.1,8,
 wrap64 (x.2.2.2.2.1*1000000),0,0,false,false,
 (0,0,(0,0,0,0,0,0,0,0,false,[],(0,0,[],()),()),
 (0,0,(0,[],[],[],0,0,0,[],[],[],0,0,0,false,[],[],[],()),
 ()),
 0,[],[],0,0,0,0,(0,0,false,0,[],0,0,()),[],[],false,
 (0,0,[],[],()),(0,0,0,[],[],0,[],0,0,0,()),()),
 ()),
 x_1.2.1.2.2)
 else none)
 fun b=>
 some (Sum.inl (wrap64 (x_1.1+1),b,()))
 else
 bif decide (x_1.1=Int.ofNat (0+1)) then
 Option.bind (idxK 2 x_1.1) fun b=>
 Option.bind
 (bif Nat.beq b 0 then
 some
 ((11,x_1.1,x.2.2.2.1.2.1,8,
 wrap64 (x.2.2.2.2.1*1000000),0,0,false,false,
 (0,0,(0,0,0,0,0,0,0,0,false,[],(0,0,[],()),()),
 (0,0,(0,[],[],[],0,0,0,[],[],[],0,0,0,false,[],[],[],()),
 ()),
 0,[],[],0,0,0,0,(0,0,false,0,[],0,0,()),[],[],false,
 (0,0,[],[],()),(0,0,0,[],[],0,[],0,0,0,()),()),
 ()),
 x_1.2.1.2)
 else
 bif Nat.beq b (0+1) then
 some
 (x_1.2.1.1,
 (11,x_1.1,x.2.2.2.1.2.1,8,
 wrap64 (x.2.2.2.2.1*1000000),0,0,false,false,
 (0,0,(0,0,0,0,0,0,0,0,false,[],(0,0,[],()),()),
 (0,0,(0,[],[],[],0,0,0,[],[],[],0,0,0,false,[],[],[],()),
 ()),
 0,[],[],0,0,0,0,(0,0,false,0,[],0,0,()),[],[],false,
 (0,0,[],[],()),(0,0,0,[],[],0,[],0,0,0,()),()),
 ()),
 x_1.2.1.2.2)
 else none)
 fun b=>
 some (Sum.inl (wrap64 (x_1.1+1),b,()))
 else none
 else
 some
 (Sum.inr
 ((x.1,x.2.1,x.2.2.1,0,x_1.2.1,
 (0,0,(0,0,0,0,0,0,0,0,false,[],(0,0,[],()),()),
 (0,0,(0,[],[],[],0,0,0,[],[],[],0,0,0,false,[],[],[],()),()),0,
 [],[],0,0,0,0,(0,0,false,0,[],0,0,()),[],[],false,(0,0,[],[],()),
 (0,0,0,[],[],0,[],0,0,0,()),()),
 false,(0,0,0,[],[],0,[],0,0,0,()),0,false,false,[],false,[],0,false,false,
 false,(0,0,[],[],()),false,()),
 ())))
 big
 (0,
 ((0,0,0,0,0,0,0,false,false,
 (0,0,(0,0,0,0,0,0,0,0,false,[],(0,0,[],()),()),
 (0,0,(0,[],[],[],0,0,0,[],[],[],0,0,0,false,[],[],[],()),()),0,[],[],
 0,0,0,0,(0,0,false,0,[],0,0,()),[],[],false,(0,0,[],[],()),
 (0,0,0,[],[],0,[],0,0,0,()),()),
 ()),
 (0,0,0,0,0,0,0,false,false,
 (0,0,(0,0,0,0,0,0,0,0,false,[],(0,0,[],()),()),
 (0,0,(0,[],[],[],0,0,0,[],[],[],0,0,0,false,[],[],[],()),()),0,[],[],
 0,0,0,0,(0,0,false,0,[],0,0,()),[],[],false,(0,0,[],[],()),
 (0,0,0,[],[],0,[],0,0,0,()),()),
 ()),
 ()),
 ())
def S8:Sig:=⟨P8,R8,F8⟩
noncomputable def E8:Env:={ tab:=tab.opt { flats:=[(93,L93)],owns:=[87],frzs:=[89,90,91] },nt:=32,Γ:=lookG [],joins:=lookN [],loops:=lookN [(3,mkLoop ⟨[⟨.slot 17,(.int .i64),.pv⟩,⟨.fld 1005000 4,Y59,.pv⟩],[4,8,10,11],[.site 1005000,.fld 1005000 0,.fld 1005000 1,.fld 1005000 2,.fld 1005000 3,.fld 1005000 5,.fld 1005000 6,.fld 1005000 7,.fld 1005000 8,.fld 1005000 9,.fld 1005000 10,.fld 1005000 11,.fld 1005000 12,.fld 1005000 13,.fld 1005000 14,.fld 1005000 15,.fld 1005000 16,.fld 1005000 17,.fld 1005000 18,.fld 1005000 19,.site 2000,.fld 2000 0,.fld 2000 1,.fld 2000 2,.fld 2000 3,.fld 2000 4,.fld 2000 5,.fld 2000 6,.fld 2000 7,.fld 2000 8,.fld 2000 9,.fld 2000 10,.fld 2000 11,.fld 2000 12,.fld 2000 13,.fld 2000 14,.fld 2000 15,.fld 2000 16,.fld 2000 17,.fld 2000 18,.fld 2000 19,.site 1000,.fld 1000 0,.fld 1000 1]⟩)] }
theorem raw8_eq (x:Int×List UInt8×List UInt8×Y22D×Int×Unit):afun E8 Tryz.f8 P8 R8 x=F8 x:=by kernel_rfl
def F50 (x:Y58D×Unit):Option (Y70D×Unit):=
 some
 ((x.1.1,
 wrap64 (wrap64 (4*x.1.2.1)+x.1.2.2.2.2.2.1),
 x.1.2.2.2.2.2.2.2.2.2),
 ())
def S50:Sig:=⟨P50,R50,F50⟩
noncomputable def E50:Env:={ tab:=tab.opt { flats:=[(93,L93)],owns:=[87],frzs:=[89,90,91] },nt:=14,Γ:=lookG [],joins:=lookN [],loops:=lookN [] }
theorem raw50_eq (x:Y58D×Unit):afun E50 Tryz.f50 P50 R50 x=F50 x:=by kernel_rfl
def F26 (x:Y58D×Unit):Option (Y58D×List Y70D×Unit):=
 bif !x.1.2.2.2.2.2.2.2.1 then some (x.1,[],())
 else
 Option.bind
 (bif !x.1.2.2.2.2.2.2.2.2.1 then
 bif decide (wrap64 (x.1.2.2.2.2.2.2.1+1) < x.1.2.2.2.1) then
 some
 (Sum.inr
 ((x.1.1,x.1.2.1,x.1.2.2.1,x.1.2.2.2.1,x.1.2.2.2.2.1,
 x.1.2.2.2.2.2.1,wrap64 (x.1.2.2.2.2.2.2.1+1),
 x.1.2.2.2.2.2.2.2),
 [],()))
 else
 some
 (Sum.inl
 (0,0,0,0,0,0,0,false,false,
 (0,0,(0,0,0,0,0,0,0,0,false,[],(0,0,[],()),()),
 (0,0,(0,[],[],[],0,0,0,[],[],[],0,0,0,false,[],[],[],()),()),0,
 [],[],0,0,0,0,(0,0,false,0,[],0,0,()),[],[],false,(0,0,[],[],()),
 (0,0,0,[],[],0,[],0,0,0,()),()),
 ()))
 else
 some
 (Sum.inl
 (0,0,0,0,0,0,0,false,false,
 (0,0,(0,0,0,0,0,0,0,0,false,[],(0,0,[],()),()),
 (0,0,(0,[],[],[],0,0,0,[],[],[],0,0,0,false,[],[],[],()),()),0,[],
 [],0,0,0,0,(0,0,false,0,[],0,0,()),[],[],false,(0,0,[],[],()),
 (0,0,0,[],[],0,[],0,0,0,()),()),
 ())))
 fun o=>
 Sum.elim
 (fun (_z :
 Int×Int×Int×Int×Int×Int×Int×Bool×Bool×(Int×Int×(Int×Int×Int×Int×Int×Int×Int×Int×Bool×List T25D×T25D×Unit)×(Int×Int×(Int×List UInt8×List UInt8×List UInt8×Int×Int×Int×List T96D×List
 T48D×List
 T48D×Int×Int×Int×Bool×List
 T70D×List
 (Int×Int×(Int×Int×Bool×Int×List
 (List UInt8×(Int×Int×Int×Int×List
 UInt8×Int×Bool×Unit)×Unit)×Y22D)×Unit)×List T113D×Unit)×Unit)×Int×List UInt8×List UInt8×Int×Int×Int×Int×(Int×Int×Bool×Int×List
 T70D×Y22D)×List
 (Int×List
 T70D×Unit)×List
 T70D×Bool×(Int×Int×List
 (Int×Int×(Int×Int×Bool×Int×List
 T70D×Y22D)×Unit)×List T113D×Unit)×T53D×Unit)×Unit)=>
 Option.bind
 (bif !x.1.2.2.2.2.2.2.2.2.1 then
 Option.bind (remO (wrap64 (x.1.2.2.2.2.2.1+1)) x.1.2.2.1)
 fun b=>some (Sum.inl (b,()))
 else some (Sum.inl (x.1.2.2.2.2.2.1,())))
 fun o=>
 Sum.elim
 (fun (x_1:Int×Unit)=>
 Option.bind
 (F50
 ((x.1.1,x.1.2.1,x.1.2.2.1,x.1.2.2.2.1,x.1.2.2.2.2.1,
 x_1.1,0,x.1.2.2.2.2.2.2.2.1,false,
 x.1.2.2.2.2.2.2.2.2.2),
 ()))
 fun b=>
 some
 ((x.1.1,x.1.2.1,x.1.2.2.1,x.1.2.2.2.1,x.1.2.2.2.2.1,
 x_1.1,0,x.1.2.2.2.2.2.2.2.1,false,
 x.1.2.2.2.2.2.2.2.2.2),
 [b.1],()))
 some o)
 some o
def S26:Sig:=⟨P26,R26,F26⟩
noncomputable def E26:Env:={ tab:=tab.opt { flats:=[(93,L93)],owns:=[87],frzs:=[89,90,91] },nt:=39,Γ:=lookG [(50,[S50])],joins:=lookN [(6,⟨[⟨.fld 2000 0,(.int .i64),.pv⟩,⟨.fld 2000 1,(.int .i64),.pv⟩,⟨.fld 2000 2,(.int .i64),.pv⟩,⟨.fld 2000 3,(.int .i64),.pv⟩,⟨.fld 2000 4,(.int .i64),.pv⟩,⟨.fld 2000 5,(.int .i64),.pv⟩,⟨.fld 2000 6,(.int .i64),.pv⟩,⟨.fld 2000 7,.bool,.pv⟩,⟨.fld 2000 8,.bool,.pv⟩,⟨.fld 2000 9,TM,.pv⟩],[1,2],[.site 2000,.site 1000,.fld 1000 0,.fld 1000 1,.fld 1000 2,.fld 1000 3,.fld 1000 4,.fld 1000 5,.fld 1000 6,.fld 1000 7,.fld 1000 8,.fld 1000 9]⟩),(8,⟨[⟨.fld 1000 5,(.int .i64),.pv⟩],[1,2],[.site 2000,.fld 2000 0,.fld 2000 1,.fld 2000 2,.fld 2000 3,.fld 2000 4,.fld 2000 5,.fld 2000 6,.fld 2000 7,.fld 2000 8,.fld 2000 9,.site 1000,.fld 1000 0,.fld 1000 1,.fld 1000 2,.fld 1000 3,.fld 1000 4,.fld 1000 6,.fld 1000 7,.fld 1000 8,.fld 1000 9]⟩)],loops:=lookN [] }
theorem raw26_eq (x:Y58D×Unit):afun E26 Tryz.f26 P26 R26 x=F26 x:=by kernel_rfl
def F51 (x:T28D×Unit):Option (TMD×Unit):=
 some
 ((2,0,(0,0,0,0,0,0,0,0,false,[],(0,0,[],()),()),(0,0,x),0,[],[],0,0,0,0,
 (0,0,false,0,[],0,0,()),[],[],false,(0,0,[],[],()),
 (0,0,0,[],[],0,[],0,0,0,()),()),
 ())
def S51:Sig:=⟨P51,R51,F51⟩
noncomputable def E51:Env:={ tab:=tab.opt { flats:=[(93,L93)],owns:=[87],frzs:=[89,90,91] },nt:=6,Γ:=lookG [],joins:=lookN [],loops:=lookN [] }
theorem raw51_eq (x:T28D×Unit):afun E51 Tryz.f51 P51 R51 x=F51 x:=by kernel_rfl
def F52 (x:List UInt8×Unit):Option (List UInt8×Unit):=
 Option.bind (F38 x) fun b=>
 bif !b.1 then some ([],())
 else
 Option.bind (sliceO x.1 0 (wrap64 (Int.ofNat (List.length x.1) - 1)))
 fun b=>
 Option.bind (idx x.1 (wrap64 (Int.ofNat (List.length x.1) - 1))) fun b_1=>
 Option.bind (appO b [Sx.byteOf (IntKind.wrap IntKind.u8 (intOf8 b_1+intOf8 (UInt8.ofNat 1)))])
 fun b=>some (b,())
def S52:Sig:=⟨P52,R52,F52⟩
noncomputable def E52:Env:={ tab:=tab.opt { flats:=[(93,L93)],owns:=[87],frzs:=[89,90,91] },nt:=20,Γ:=lookG [(38,[S38])],joins:=lookN [],loops:=lookN [] }
theorem raw52_eq (x:List UInt8×Unit):afun E52 Tryz.f52 P52 R52 x=F52 x:=by kernel_rfl
def F27 (x:Y61D×Unit):Option (TMD×Int×Unit):=
 bif !x.1.2.2.2.2.2.2.1 then
 some
 ((7,0,(0,0,0,0,0,0,0,0,false,[],(0,0,[],()),()),
 (0,0,(0,[],[],[],0,0,0,[],[],[],0,0,0,false,[],[],[],()),()),0,[],[],
 0,0,0,0,(0,0,false,0,[],0,0,()),[],[],false,(0,0,[],[],()),
 (0,0,0,[],[],0,[],0,0,0,()),()),
 1,())
 else
 Option.bind
 (bif decide (x.1.2.2.2.2.2.2.2.1.1=3) then some (Sum.inl (true,()))
 else some (Sum.inl (decide (x.1.1 < x.1.2.2.2.2.2.2.2.1.2.1),())))
 fun o=>
 Sum.elim
 (fun (x_1:Bool×Unit)=>
 bif x_1.1 then
 some
 ((0,0,(0,0,0,0,0,0,0,0,false,[],(0,0,[],()),()),
 (0,0,(0,[],[],[],0,0,0,[],[],[],0,0,0,false,[],[],[],()),()),0,
 [],[],0,0,0,0,(0,0,false,0,[],0,0,()),[],[],false,(0,0,[],[],()),
 (0,0,0,[],[],0,[],0,0,0,()),()),
 0,())
 else
 Option.bind
 (bif decide (x.1.2.2.2.1=2) then
 bif decide (x.1.2.2.2.2.2.2.2.1.1=4) then
 some (Sum.inl (!decide (x.1.2.2.2.2.2.2.2.1.2.1=x.1.1),()))
 else some (Sum.inl (!false,()))
 else
 bif decide (x.1.2.2.2.2.2.2.2.1.1=4) then
 bif decide (x.1.2.2.2.2.2.2.2.1.2.1=x.1.1) then
 bif decide (x.1.2.2.2.2.2.2.2.1.1=4) then
 some (Sum.inl (!decide (x.1.2.2.2.2.2.2.2.1.2.1=x.1.1),()))
 else some (Sum.inl (!false,()))
 else some (Sum.inl (false,()))
 else some (Sum.inl (false,())))
 fun o=>
 Sum.elim
 (fun (x_2:Bool×Unit)=>
 bif x_2.1 then
 Option.bind
 (F51
 ((16,[],[],[],0,0,0,[],[],[],x.1.1,0,0,false,[],[],[],()),
 ()))
 fun b=>
 some (b.1,1,())
 else
 Option.bind
 (bif decide (x.1.2.2.2.1=2) then some (Sum.inl (true,()))
 else
 bif decide (x.1.2.2.2.2.2.2.2.1.1=4) then
 some
 (Sum.inl (decide (x.1.2.2.2.2.2.2.2.1.2.1=x.1.1),()))
 else some (Sum.inl (false,())))
 fun o=>
 Sum.elim
 (fun (x_3:Bool×Unit)=>
 bif x_3.1 then
 bif
 x.1.2.2.2.2.2.2.2.2.2.2.2.2.2.2.2.2.2.2.2.1 then
 some
 ((0,0,(0,0,0,0,0,0,0,0,false,[],(0,0,[],()),()),
 (0,0,(0,[],[],[],0,0,0,[],[],[],0,0,0,false,[],[],[],()),
 ()),
 0,[],[],0,0,0,0,(0,0,false,0,[],0,0,()),[],[],false,
 (0,0,[],[],()),(0,0,0,[],[],0,[],0,0,0,()),
 ()),
 0,())
 else
 Option.bind
 (F51
 ((11,[],[],[],0,0,0,[],[],[],x.1.1,0,0,false,[],[],[],
 ()),
 ()))
 fun b=>
 some (b.1,0,())
 else
 Option.bind
 (bif decide (x.1.2.2.2.2.2.2.2.1.1=0) then
 some (Sum.inl (decide (x.1.2.2.2.2.2.2.2.2.1=0),()))
 else
 bif decide (x.1.2.2.2.2.2.2.2.1.1=4) then
 some (Sum.inl (decide (x.1.2.2.2.2.2.2.2.2.1=0),()))
 else
 bif x.1.2.2.2.2.2.2.2.2.2.2.2.2.2.2.2.1 then
 some (Sum.inl (decide (x.1.2.2.2.2.2.2.2.2.1=0),()))
 else some (Sum.inl (false,())))
 fun o=>
 Sum.elim
 (fun (x_4:Bool×Unit)=>
 bif x_4.1 then
 some
 ((7,0,(0,0,0,0,0,0,0,0,false,[],(0,0,[],()),()),
 (0,0,
 (0,[],[],[],0,0,0,[],[],[],0,0,0,false,[],[],[],
 ()),
 ()),
 0,[],[],0,0,0,0,(0,0,false,0,[],0,0,()),[],[],false,
 (0,0,[],[],()),(0,0,0,[],[],0,[],0,0,0,()),
 ()),
 0,())
 else
 Option.bind
 (bif decide (x.1.2.2.2.2.2.2.2.1.1=0) then
 some (Sum.inl (true,()))
 else
 bif decide (x.1.2.2.2.2.2.2.2.1.1=4) then
 some (Sum.inl (true,()))
 else
 some
 (Sum.inl
 (x.1.2.2.2.2.2.2.2.2.2.2.2.2.2.2.2.1,
 ())))
 fun o=>
 Sum.elim
 (fun (x_5:Bool×Unit)=>
 bif x_5.1 then
 Option.bind
 (bif
 decide
 (x.1.2.2.2.2.2.2.2.1.2.1=x.1.1) then
 some
 (Sum.inl
 (wrap64
 (x.1.2.2.2.2.2.2.2.1.2.2.1+1),
 ()))
 else some (Sum.inl (1,())))
 fun o=>
 Sum.elim
 (fun (x_6:Int×Unit)=>
 Option.bind
 (F51
 ((12,x.1.2.1,x.1.2.2.1,[],0,0,
 x.1.2.2.2.2.2.2.2.2.1,[],[],[],
 x.1.1,x_6.1,0,false,[],[],[],()),
 ()))
 fun b=>
 some (b.1,1,()))
 some o
 else
 Option.bind
 (bif decide (x.1.2.2.2.2.2.2.2.1.1=1) then
 some
 (Sum.inl (!x.1.2.2.2.2.2.2.2.2.2.1,()))
 else some (Sum.inl (false,())))
 fun o=>
 Sum.elim
 (fun (x_6:Bool×Unit)=>
 bif x_6.1 then
 some
 ((5,0,
 (0,0,0,0,0,0,0,0,false,[],(0,0,[],()),
 ()),
 (0,0,
 (0,[],[],[],0,0,0,[],[],[],0,0,0,false,[],[],
 [],()),
 ()),
 0,x.1.2.1,
 x.1.2.2.2.2.2.2.2.1.2.2.2.2.2.2.1,
 x.1.2.2.2.2.2.2.2.1.2.2.2.2.2.1,
 0,0,0,(0,0,false,0,[],0,0,()),[],[],
 false,(0,0,[],[],()),
 (0,0,0,[],[],0,[],0,0,0,()),()),
 0,())
 else
 bif decide (x.1.2.2.2.2.2.2.2.1.1=1) then
 bif
 decide
 (0 <
 Int.ofNat
 (List.length
 x.1.2.2.2.2.2.2.2.2.2.2.2.1)) then
 Option.bind
 (idx x.1.2.2.2.2.2.2.2.2.2.2.2.1
 (wrap64
 (Int.ofNat
 (List.length
 x.1.2.2.2.2.2.2.2.2.2.2.2.1) -
 1)))
 fun b=>
 Option.bind
 (F51
 ((13,
 x.1.2.2.2.2.2.2.2.1.2.2.2.2.2.2.1,
 b.1,[],0,0,0,[],[],[],
 x.1.2.2.2.2.2.2.2.1.2.1,
 x.1.2.2.2.2.2.2.2.1.2.2.1,0,
 x.1.2.2.2.2.2.2.2.2.2.2.1,
 x.1.2.2.2.2.2.2.2.2.2.2.2.1,
 [],[],()),
 ()))
 fun b=>
 some (b.1,1,())
 else
 Option.bind
 (F51
 ((13,
 x.1.2.2.2.2.2.2.2.1.2.2.2.2.2.2.1,
 x.1.2.2.2.2.2.2.2.1.2.2.2.2.2.2.1,
 [],0,0,0,[],[],[],
 x.1.2.2.2.2.2.2.2.1.2.1,
 x.1.2.2.2.2.2.2.2.1.2.2.1,0,
 x.1.2.2.2.2.2.2.2.2.2.2.1,
 x.1.2.2.2.2.2.2.2.2.2.2.2.1,
 [],[],()),
 ()))
 fun b=>
 some (b.1,1,())
 else
 bif x.1.2.2.2.2.2.2.2.2.2.2.2.2.1 then
 Option.bind
 (F51
 ((14,[],[],[],0,0,
 x.1.2.2.2.2.2.2.2.1.2.2.2.2.2.2.2.1,
 [],[],[],
 x.1.2.2.2.2.2.2.2.1.2.1,
 x.1.2.2.2.2.2.2.2.1.2.2.1,
 x.1.2.2.2.2.2.2.2.2.2.2.2.2.2.2.1,
 false,
 x.1.2.2.2.2.2.2.2.2.2.2.2.2.2.1,
 [],[],()),
 ()))
 fun b=>
 some (b.1,1,())
 else
 Option.bind
 (bif decide (x.1.2.2.2.1=1) then
 some
 (Sum.inl
 (!x.1.2.2.2.2.2.2.2.2.2.2.2.2.2.2.2.2.1,
 ()))
 else some (Sum.inl (false,())))
 fun o=>
 Sum.elim
 (fun (x_7:Bool×Unit)=>
 bif x_7.1 then
 Option.bind
 (F51
 ((10,x.1.2.1,[],[],0,0,0,[],[],[],
 x.1.1,0,0,false,[],[],[],()),
 ()))
 fun b=>
 some (b.1,0,())
 else
 Option.bind
 (bif decide (x.1.2.2.2.1=1) then
 some
 (Sum.inl
 (!x.1.2.2.2.2.2.2.2.2.2.2.2.2.2.2.2.2.2.1,
 ()))
 else some (Sum.inl (false,())))
 fun o=>
 Sum.elim
 (fun (x_8:Bool×Unit)=>
 bif x_8.1 then
 some
 ((6,0,
 (0,0,0,0,0,0,0,0,false,[],
 (0,0,[],()),()),
 (0,0,
 (0,[],[],[],0,0,0,[],[],[],0,
 0,0,false,[],[],[],()),
 ()),
 0,[],[],x.1.1,0,0,0,
 (0,0,false,0,[],0,0,()),
 [],[],false,(0,0,[],[],()),
 (0,0,0,[],[],0,[],0,0,0,
 ()),
 ()),
 0,())
 else
 Option.bind
 (bif decide (x.1.2.2.2.1=1) then
 some
 (Sum.inl
 (decide
 (x.1.2.2.2.2.2.2.2.2.2.2.2.2.2.2.2.2.2.2.1.2.1≤
 x.1.2.2.2.2.2.2.2.1.2.2.2.2.2.2.2.1),
 ()))
 else some (Sum.inl (false,())))
 fun o=>
 Sum.elim
 (fun (x_9:Bool×Unit)=>
 bif x_9.1 then
 Option.bind
 (F51
 ((15,[],[],[],0,0,
 x.1.2.2.2.2.2.2.2.2.2.2.2.2.2.2.2.2.2.2.1.2.1,
 [],[],[],
 x.1.2.2.2.2.2.2.2.1.2.1,
 x.1.2.2.2.2.2.2.2.1.2.2.1,
 0,false,[],
 x.1.2.2.2.2.2.2.2.2.2.2.2.2.2.2.2.2.2.2.1.2.2),
 ()))
 fun b=>
 some (b.1,1,())
 else
 Option.bind
 (F52 (x.1.2.1,()))
 fun b=>
 some
 ((4,0,
 (0,0,0,0,0,0,0,0,false,
 [],(0,0,[],()),
 ()),
 (0,0,
 (0,[],[],[],0,0,0,[],
 [],[],0,0,0,false,[],
 [],[],()),
 ()),
 0,x.1.2.1,b.1,
 wrap64
 (x.1.2.2.2.2.2.2.2.1.2.2.2.2.2.2.2.1 +
 1),
 0,0,0,
 (0,0,false,0,[],0,0,
 ()),
 [],[],false,
 (0,0,[],[],()),
 (0,0,0,[],[],0,[],0,0,
 0,()),
 ()),
 0,()))
 some o)
 some o)
 some o)
 some o)
 some o)
 some o)
 some o)
 some o)
 some o
def S27:Sig:=⟨P27,R27,F27⟩
noncomputable def E27:Env:={ tab:=tab.opt { flats:=[(93,L93)],owns:=[87],frzs:=[89,90,91] },nt:=257,Γ:=lookG [(51,[S51]),(52,[S52])],joins:=lookN [(21,⟨[⟨.slot 8,(.int .i64),.pv⟩],[1,2],[.site 2000,.fld 2000 0,.fld 2000 1,.fld 2000 2,.fld 2000 3,.fld 2000 4,.fld 2000 5,.fld 2000 6,.fld 2000 7,.fld 2000 8,.fld 2000 9,.fld 2000 10,.fld 2000 11,.fld 2000 12,.fld 2000 13,.fld 2000 14,.fld 2000 15,.fld 2000 16,.site 1000,.fld 1000 0,.fld 1000 1,.fld 1000 2,.fld 1000 3,.fld 1000 4,.fld 1000 5,.fld 1000 6,.fld 1000 7,.fld 1000 8,.fld 1000 9,.fld 1000 10,.fld 1000 11,.fld 1000 12,.fld 1000 13,.fld 1000 14,.fld 1000 15,.fld 1000 16,.fld 1000 17,.fld 1000 18,.fld 1000 19]⟩),(300008,⟨[⟨.slot 28,.bool,.pv⟩],[1,2,4,5,6,7],[.site 4006000,.fld 4006000 0,.fld 4006000 1,.fld 4006000 2,.fld 4006000 3,.fld 4006000 4,.fld 4006000 5,.fld 4006000 6,.fld 4006000 7,.fld 4006000 8,.fld 4006000 9,.fld 4006000 10,.fld 4006000 11,.fld 4006000 12,.fld 4006000 13,.fld 4006000 14,.fld 4006000 15,.fld 4006000 16,.site 2002000,.fld 2002000 0,.fld 2002000 1,.fld 2002000 2,.fld 2002000 3,.fld 2002000 4,.fld 2002000 5,.fld 2002000 6,.fld 2002000 7,.fld 2002000 8,.fld 2002000 9,.fld 2002000 10,.fld 2002000 11,.fld 2002000 12,.fld 2002000 13,.fld 2002000 14,.fld 2002000 15,.fld 2002000 16,.site 1003000,.fld 1003000 0,.fld 1003000 1,.fld 1003000 2,.fld 1003000 3,.fld 1003000 4,.fld 1003000 5,.fld 1003000 6,.fld 1003000 7,.fld 1003000 8,.fld 1003000 9,.site 2000,.fld 2000 0,.fld 2000 1,.fld 2000 2,.fld 2000 3,.fld 2000 4,.fld 2000 5,.fld 2000 6,.fld 2000 7,.fld 2000 8,.fld 2000 9,.fld 2000 10,.fld 2000 11,.fld 2000 12,.fld 2000 13,.fld 2000 14,.fld 2000 15,.fld 2000 16,.site 1000,.fld 1000 0,.fld 1000 1,.fld 1000 2,.fld 1000 3,.fld 1000 4,.fld 1000 5,.fld 1000 6,.fld 1000 7,.fld 1000 8,.fld 1000 9,.fld 1000 10,.fld 1000 11,.fld 1000 12,.fld 1000 13,.fld 1000 14,.fld 1000 15,.fld 1000 16,.fld 1000 17,.fld 1000 18,.fld 1000 19]⟩),(300010,⟨[⟨.slot 40,.bool,.pv⟩],[1,2,4,5,6,7],[.site 4006000,.fld 4006000 0,.fld 4006000 1,.fld 4006000 2,.fld 4006000 3,.fld 4006000 4,.fld 4006000 5,.fld 4006000 6,.fld 4006000 7,.fld 4006000 8,.fld 4006000 9,.fld 4006000 10,.fld 4006000 11,.fld 4006000 12,.fld 4006000 13,.fld 4006000 14,.fld 4006000 15,.fld 4006000 16,.site 2002000,.fld 2002000 0,.fld 2002000 1,.fld 2002000 2,.fld 2002000 3,.fld 2002000 4,.fld 2002000 5,.fld 2002000 6,.fld 2002000 7,.fld 2002000 8,.fld 2002000 9,.fld 2002000 10,.fld 2002000 11,.fld 2002000 12,.fld 2002000 13,.fld 2002000 14,.fld 2002000 15,.fld 2002000 16,.site 1003000,.fld 1003000 0,.fld 1003000 1,.fld 1003000 2,.fld 1003000 3,.fld 1003000 4,.fld 1003000 5,.fld 1003000 6,.fld 1003000 7,.fld 1003000 8,.fld 1003000 9,.site 2000,.fld 2000 0,.fld 2000 1,.fld 2000 2,.fld 2000 3,.fld 2000 4,.fld 2000 5,.fld 2000 6,.fld 2000 7,.fld 2000 8,.fld 2000 9,.fld 2000 10,.fld 2000 11,.fld 2000 12,.fld 2000 13,.fld 2000 14,.fld 2000 15,.fld 2000 16,.site 1000,.fld 1000 0,.fld 1000 1,.fld 1000 2,.fld 1000 3,.fld 1000 4,.fld 1000 5,.fld 1000 6,.fld 1000 7,.fld 1000 8,.fld 1000 9,.fld 1000 10,.fld 1000 11,.fld 1000 12,.fld 1000 13,.fld 1000 14,.fld 1000 15,.fld 1000 16,.fld 1000 17,.fld 1000 18,.fld 1000 19]⟩),(300012,⟨[⟨.slot 65,.bool,.pv⟩],[1,2,4,5,6,7],[.site 4006000,.fld 4006000 0,.fld 4006000 1,.fld 4006000 2,.fld 4006000 3,.fld 4006000 4,.fld 4006000 5,.fld 4006000 6,.fld 4006000 7,.fld 4006000 8,.fld 4006000 9,.fld 4006000 10,.fld 4006000 11,.fld 4006000 12,.fld 4006000 13,.fld 4006000 14,.fld 4006000 15,.fld 4006000 16,.site 2002000,.fld 2002000 0,.fld 2002000 1,.fld 2002000 2,.fld 2002000 3,.fld 2002000 4,.fld 2002000 5,.fld 2002000 6,.fld 2002000 7,.fld 2002000 8,.fld 2002000 9,.fld 2002000 10,.fld 2002000 11,.fld 2002000 12,.fld 2002000 13,.fld 2002000 14,.fld 2002000 15,.fld 2002000 16,.site 1003000,.fld 1003000 0,.fld 1003000 1,.fld 1003000 2,.fld 1003000 3,.fld 1003000 4,.fld 1003000 5,.fld 1003000 6,.fld 1003000 7,.fld 1003000 8,.fld 1003000 9,.site 2000,.fld 2000 0,.fld 2000 1,.fld 2000 2,.fld 2000 3,.fld 2000 4,.fld 2000 5,.fld 2000 6,.fld 2000 7,.fld 2000 8,.fld 2000 9,.fld 2000 10,.fld 2000 11,.fld 2000 12,.fld 2000 13,.fld 2000 14,.fld 2000 15,.fld 2000 16,.site 1000,.fld 1000 0,.fld 1000 1,.fld 1000 2,.fld 1000 3,.fld 1000 4,.fld 1000 5,.fld 1000 6,.fld 1000 7,.fld 1000 8,.fld 1000 9,.fld 1000 10,.fld 1000 11,.fld 1000 12,.fld 1000 13,.fld 1000 14,.fld 1000 15,.fld 1000 16,.fld 1000 17,.fld 1000 18,.fld 1000 19]⟩),(300016,⟨[⟨.slot 84,.bool,.pv⟩],[1,2,4,6,7],[.site 4006000,.fld 4006000 0,.fld 4006000 1,.fld 4006000 2,.fld 4006000 3,.fld 4006000 4,.fld 4006000 5,.fld 4006000 6,.fld 4006000 7,.fld 4006000 8,.fld 4006000 9,.fld 4006000 10,.fld 4006000 11,.fld 4006000 12,.fld 4006000 13,.fld 4006000 14,.fld 4006000 15,.fld 4006000 16,.site 1003000,.fld 1003000 0,.fld 1003000 1,.fld 1003000 2,.fld 1003000 3,.fld 1003000 4,.fld 1003000 5,.fld 1003000 6,.fld 1003000 7,.fld 1003000 8,.fld 1003000 9,.site 2000,.fld 2000 0,.fld 2000 1,.fld 2000 2,.fld 2000 3,.fld 2000 4,.fld 2000 5,.fld 2000 6,.fld 2000 7,.fld 2000 8,.fld 2000 9,.fld 2000 10,.fld 2000 11,.fld 2000 12,.fld 2000 13,.fld 2000 14,.fld 2000 15,.fld 2000 16,.site 1000,.fld 1000 0,.fld 1000 1,.fld 1000 2,.fld 1000 3,.fld 1000 4,.fld 1000 5,.fld 1000 6,.fld 1000 7,.fld 1000 8,.fld 1000 9,.fld 1000 10,.fld 1000 11,.fld 1000 12,.fld 1000 13,.fld 1000 14,.fld 1000 15,.fld 1000 16,.fld 1000 17,.fld 1000 18,.fld 1000 19]⟩),(300018,⟨[⟨.slot 103,.bool,.pv⟩],[1,2,4,6,7],[.site 4006000,.fld 4006000 0,.fld 4006000 1,.fld 4006000 2,.fld 4006000 3,.fld 4006000 4,.fld 4006000 5,.fld 4006000 6,.fld 4006000 7,.fld 4006000 8,.fld 4006000 9,.fld 4006000 10,.fld 4006000 11,.fld 4006000 12,.fld 4006000 13,.fld 4006000 14,.fld 4006000 15,.fld 4006000 16,.site 1003000,.fld 1003000 0,.fld 1003000 1,.fld 1003000 2,.fld 1003000 3,.fld 1003000 4,.fld 1003000 5,.fld 1003000 6,.fld 1003000 7,.fld 1003000 8,.fld 1003000 9,.site 2000,.fld 2000 0,.fld 2000 1,.fld 2000 2,.fld 2000 3,.fld 2000 4,.fld 2000 5,.fld 2000 6,.fld 2000 7,.fld 2000 8,.fld 2000 9,.fld 2000 10,.fld 2000 11,.fld 2000 12,.fld 2000 13,.fld 2000 14,.fld 2000 15,.fld 2000 16,.site 1000,.fld 1000 0,.fld 1000 1,.fld 1000 2,.fld 1000 3,.fld 1000 4,.fld 1000 5,.fld 1000 6,.fld 1000 7,.fld 1000 8,.fld 1000 9,.fld 1000 10,.fld 1000 11,.fld 1000 12,.fld 1000 13,.fld 1000 14,.fld 1000 15,.fld 1000 16,.fld 1000 17,.fld 1000 18,.fld 1000 19]⟩),(300023,⟨[⟨.slot 131,.bool,.pv⟩],[1,2,4,7],[.site 4006000,.fld 4006000 0,.fld 4006000 1,.fld 4006000 2,.fld 4006000 3,.fld 4006000 4,.fld 4006000 5,.fld 4006000 6,.fld 4006000 7,.fld 4006000 8,.fld 4006000 9,.fld 4006000 10,.fld 4006000 11,.fld 4006000 12,.fld 4006000 13,.fld 4006000 14,.fld 4006000 15,.fld 4006000 16,.site 1003000,.fld 1003000 0,.fld 1003000 1,.fld 1003000 2,.fld 1003000 3,.fld 1003000 4,.fld 1003000 5,.fld 1003000 6,.fld 1003000 7,.fld 1003000 8,.fld 1003000 9,.site 2000,.fld 2000 0,.fld 2000 1,.fld 2000 2,.fld 2000 3,.fld 2000 4,.fld 2000 5,.fld 2000 6,.fld 2000 7,.fld 2000 8,.fld 2000 9,.fld 2000 10,.fld 2000 11,.fld 2000 12,.fld 2000 13,.fld 2000 14,.fld 2000 15,.fld 2000 16,.site 1000,.fld 1000 0,.fld 1000 1,.fld 1000 2,.fld 1000 3,.fld 1000 4,.fld 1000 5,.fld 1000 6,.fld 1000 7,.fld 1000 8,.fld 1000 9,.fld 1000 10,.fld 1000 11,.fld 1000 12,.fld 1000 13,.fld 1000 14,.fld 1000 15,.fld 1000 16,.fld 1000 17,.fld 1000 18,.fld 1000 19]⟩),(300034,⟨[⟨.slot 194,.bool,.pv⟩],[1,2,4,7],[.site 4006000,.fld 4006000 0,.fld 4006000 1,.fld 4006000 2,.fld 4006000 3,.fld 4006000 4,.fld 4006000 5,.fld 4006000 6,.fld 4006000 7,.fld 4006000 8,.fld 4006000 9,.fld 4006000 10,.fld 4006000 11,.fld 4006000 12,.fld 4006000 13,.fld 4006000 14,.fld 4006000 15,.fld 4006000 16,.site 1003000,.fld 1003000 0,.fld 1003000 1,.fld 1003000 2,.fld 1003000 3,.fld 1003000 4,.fld 1003000 5,.fld 1003000 6,.fld 1003000 7,.fld 1003000 8,.fld 1003000 9,.site 2000,.fld 2000 0,.fld 2000 1,.fld 2000 2,.fld 2000 3,.fld 2000 4,.fld 2000 5,.fld 2000 6,.fld 2000 7,.fld 2000 8,.fld 2000 9,.fld 2000 10,.fld 2000 11,.fld 2000 12,.fld 2000 13,.fld 2000 14,.fld 2000 15,.fld 2000 16,.site 1000,.fld 1000 0,.fld 1000 1,.fld 1000 2,.fld 1000 3,.fld 1000 4,.fld 1000 5,.fld 1000 6,.fld 1000 7,.fld 1000 8,.fld 1000 9,.fld 1000 10,.fld 1000 11,.fld 1000 12,.fld 1000 13,.fld 1000 14,.fld 1000 15,.fld 1000 16,.fld 1000 17,.fld 1000 18,.fld 1000 19]⟩),(300036,⟨[⟨.slot 209,.bool,.pv⟩],[1,2,4,7],[.site 4006000,.fld 4006000 0,.fld 4006000 1,.fld 4006000 2,.fld 4006000 3,.fld 4006000 4,.fld 4006000 5,.fld 4006000 6,.fld 4006000 7,.fld 4006000 8,.fld 4006000 9,.fld 4006000 10,.fld 4006000 11,.fld 4006000 12,.fld 4006000 13,.fld 4006000 14,.fld 4006000 15,.fld 4006000 16,.site 1003000,.fld 1003000 0,.fld 1003000 1,.fld 1003000 2,.fld 1003000 3,.fld 1003000 4,.fld 1003000 5,.fld 1003000 6,.fld 1003000 7,.fld 1003000 8,.fld 1003000 9,.site 2000,.fld 2000 0,.fld 2000 1,.fld 2000 2,.fld 2000 3,.fld 2000 4,.fld 2000 5,.fld 2000 6,.fld 2000 7,.fld 2000 8,.fld 2000 9,.fld 2000 10,.fld 2000 11,.fld 2000 12,.fld 2000 13,.fld 2000 14,.fld 2000 15,.fld 2000 16,.site 1000,.fld 1000 0,.fld 1000 1,.fld 1000 2,.fld 1000 3,.fld 1000 4,.fld 1000 5,.fld 1000 6,.fld 1000 7,.fld 1000 8,.fld 1000 9,.fld 1000 10,.fld 1000 11,.fld 1000 12,.fld 1000 13,.fld 1000 14,.fld 1000 15,.fld 1000 16,.fld 1000 17,.fld 1000 18,.fld 1000 19]⟩),(300038,⟨[⟨.slot 221,.bool,.pv⟩],[1,2,4,7],[.site 4006000,.fld 4006000 0,.fld 4006000 1,.fld 4006000 2,.fld 4006000 3,.fld 4006000 4,.fld 4006000 5,.fld 4006000 6,.fld 4006000 7,.fld 4006000 8,.fld 4006000 9,.fld 4006000 10,.fld 4006000 11,.fld 4006000 12,.fld 4006000 13,.fld 4006000 14,.fld 4006000 15,.fld 4006000 16,.site 1003000,.fld 1003000 0,.fld 1003000 1,.fld 1003000 2,.fld 1003000 3,.fld 1003000 4,.fld 1003000 5,.fld 1003000 6,.fld 1003000 7,.fld 1003000 8,.fld 1003000 9,.site 2000,.fld 2000 0,.fld 2000 1,.fld 2000 2,.fld 2000 3,.fld 2000 4,.fld 2000 5,.fld 2000 6,.fld 2000 7,.fld 2000 8,.fld 2000 9,.fld 2000 10,.fld 2000 11,.fld 2000 12,.fld 2000 13,.fld 2000 14,.fld 2000 15,.fld 2000 16,.site 1000,.fld 1000 0,.fld 1000 1,.fld 1000 2,.fld 1000 3,.fld 1000 4,.fld 1000 5,.fld 1000 6,.fld 1000 7,.fld 1000 8,.fld 1000 9,.fld 1000 10,.fld 1000 11,.fld 1000 12,.fld 1000 13,.fld 1000 14,.fld 1000 15,.fld 1000 16,.fld 1000 17,.fld 1000 18,.fld 1000 19]⟩)],loops:=lookN [] }
theorem raw27_eq (x:Y61D×Unit):afun E27 Tryz.f27 P27 R27 x=F27 x:=by kernel_rfl
def F182 (x:T25D×T25D×Unit):Option (Bool×Unit):=
 bif decide (x.1.1=x.2.1.1) then
 bif decide (x.1.2.1=x.2.1.2.1) then
 some (decide (x.1.2.2.1=x.2.1.2.2.1),())
 else some (false,())
 else some (false,())
def S182:Sig:=⟨P182,R182,F182⟩
noncomputable def E182:Env:={ tab:=tab.opt { flats:=[(93,L93)],owns:=[87],frzs:=[89,90,91] },nt:=26,Γ:=lookG [],joins:=lookN [],loops:=lookN [] }
theorem raw182_eq (x:T25D×T25D×Unit):afun E182 Tryz.f182 P182 R182 x=F182 x:=by kernel_rfl
def F154 (x:List T25D×List T25D×Unit):Option (Bool×Unit):=
 bif !decide (Int.ofNat (List.length x.1)=Int.ofNat (List.length x.2.1)) then some (false,())
 else
 iterE (Int×Unit) (Bool×Unit)
 (fun (x_1:Int×Unit)=>
 bif decide (x_1.1 < Int.ofNat (List.length x.1)) then
 Option.bind (idx x.1 x_1.1) fun b=>
 Option.bind (idx x.2.1 x_1.1) fun b_1=>
 Option.bind (F182 (b,b_1,())) fun b=>
 bif !b.1 then some (Sum.inr (false,()))
 else some (Sum.inl (wrap64 (x_1.1+1),()))
 else some (Sum.inr (true,())))
 big (0,())
def S154:Sig:=⟨P154,R154,F154⟩
noncomputable def E154:Env:={ tab:=tab.opt { flats:=[(93,L93)],owns:=[87],frzs:=[89,90,91] },nt:=27,Γ:=lookG [(182,[S182])],joins:=lookN [],loops:=lookN [(4,mkLoop ⟨[⟨.slot 13,(.int .i64),.pv⟩],[0,1,12],[]⟩)] }
theorem raw154_eq (x:List T25D×List T25D×Unit):afun E154 Tryz.f154 P154 R154 x=F154 x:=by kernel_rfl
def F155 (x:T25D×T25D×Unit):Option (Bool×Unit):=
 bif decide (x.1.1=x.2.1.1) then
 bif decide (x.1.2.1=x.2.1.2.1) then
 some (decide (x.1.2.2.1=x.2.1.2.2.1),())
 else some (false,())
 else some (false,())
def S155:Sig:=⟨P155,R155,F155⟩
noncomputable def E155:Env:={ tab:=tab.opt { flats:=[(93,L93)],owns:=[87],frzs:=[89,90,91] },nt:=26,Γ:=lookG [],joins:=lookN [],loops:=lookN [] }
theorem raw155_eq (x:T25D×T25D×Unit):afun E155 Tryz.f155 P155 R155 x=F155 x:=by kernel_rfl
def F115 (x:T27D×T27D×Unit):Option (Bool×Unit):=
 bif decide (x.1.1=x.2.1.1) then
 bif decide (x.1.2.1=x.2.1.2.1) then
 bif decide (x.1.2.2.1=x.2.1.2.2.1) then
 bif decide (x.1.2.2.2.1=x.2.1.2.2.2.1) then
 bif decide (x.1.2.2.2.2.1=x.2.1.2.2.2.2.1) then
 bif decide (x.1.2.2.2.2.2.1=x.2.1.2.2.2.2.2.1) then
 bif decide (x.1.2.2.2.2.2.2.1=x.2.1.2.2.2.2.2.2.1) then
 bif decide (x.1.2.2.2.2.2.2.2.1=x.2.1.2.2.2.2.2.2.2.1) then
 bif x.1.2.2.2.2.2.2.2.2.1 == x.2.1.2.2.2.2.2.2.2.2.1 then
 Option.bind
 (F154
 (x.1.2.2.2.2.2.2.2.2.2.1,
 x.2.1.2.2.2.2.2.2.2.2.2.1,()))
 fun b=>
 bif b.1 then
 Option.bind
 (F155
 (x.1.2.2.2.2.2.2.2.2.2.2.1,
 x.2.1.2.2.2.2.2.2.2.2.2.2))
 fun b=>some b
 else some (false,())
 else some (false,())
 else some (false,())
 else some (false,())
 else some (false,())
 else some (false,())
 else some (false,())
 else some (false,())
 else some (false,())
 else some (false,())
def S115:Sig:=⟨P115,R115,F115⟩
noncomputable def E115:Env:={ tab:=tab.opt { flats:=[(93,L93)],owns:=[87],frzs:=[89,90,91] },nt:=80,Γ:=lookG [(154,[S154]),(155,[S155])],joins:=lookN [],loops:=lookN [] }
theorem raw115_eq (x:T27D×T27D×Unit):afun E115 Tryz.f115 P115 R115 x=F115 x:=by kernel_rfl
end
end Go.Proofs.YtpfjaaofpcbejaaGreat

