/-
 Mirr: by a program of the bench (seat.py).
-/
import Derived.Test.YtpfjaaofpcbejaaGreatMirrRawA
namespace Go.Proofs.YtpfjaaofpcbejaaGreat
open Go.Sx Go
set_option maxRecDepth 100000
set_option maxHeartbeats 2000000
noncomputable section
def F157 (x:List T48D×List T48D×Unit):Option (Bool×Unit):=
 bif !decide (Int.ofNat (List.length x.1)=Int.ofNat (List.length x.2.1)) then some (false,())
 else
 zaT (Int×Unit) (Bool×Unit)
 (fun (x_1:Int×Unit)=>
 bif decide (x_1.1 < Int.ofNat (List.length x.1)) then
 (idx x.1 x_1.1).bind fun b=>
 (idx x.2.1 x_1.1).bind fun b_1=>
 bif
 !(decide (b.1=b_1.1) &&
 (decide (b.2.1=b_1.2.1) &&
 (decide (b.2.2.1=b_1.2.2.1) &&
 (decide (b.2.2.2.1=b_1.2.2.2.1) &&
 (decide (b.2.2.2.2.1=b_1.2.2.2.2.1) && true))))) then
 some (Sum.inr (false,()))
 else some (Sum.inl (wrap64 (x_1.1+1),()))
 else some (Sum.inr (true,())))
 big (0,())
def S157:Sig:=⟨P157,R157,F157⟩
noncomputable def E157:Env:={ tab:=tab.opt { flats:=[(93,L93)],owns:=[87],frzs:=[89,90,91] },nt:=26,Γ:=zaj [],joins:=zac [],loops:=zac [(4,zaI ⟨[⟨.slot 13,(.int .i64),.pv⟩],[0,1,12],[]⟩)] }
theorem zou (x:List T48D×List T48D×Unit):afun E157 Tryz.f157 P157 R157 x=F157 x:=by kernel_rfl
def F117 (x:T51D×T51D×Unit):Option (Bool×Unit):=
 bif decide (x.1.1=x.2.1.1) then
 bif decide (x.1.2.1=x.2.1.2.1) then
 bif x.1.2.2.1 == x.2.1.2.2.1 then
 bif decide (x.1.2.2.2.1=x.2.1.2.2.2.1) then
 bif decide (x.1.2.2.2.2.2.1=x.2.1.2.2.2.2.2.1) then
 bif decide (x.1.2.2.2.2.2.2.1=x.2.1.2.2.2.2.2.2.1) then
 (F119 (x.1.2.2.2.2.1,x.2.1.2.2.2.2.1,())).bind
 fun b=>some b
 else some (false,())
 else some (false,())
 else some (false,())
 else some (false,())
 else some (false,())
 else some (false,())
def S117:Sig:=⟨P117,R117,F117⟩
noncomputable def E117:Env:={ tab:=tab.opt { flats:=[(93,L93)],owns:=[87],frzs:=[89,90,91] },nt:=52,Γ:=zaj [(119,[S119])],joins:=zac [],loops:=zac [] }
theorem zo5 (x:T51D×T51D×Unit):afun E117 Tryz.f117 P117 R117 x=F117 x:=by kernel_rfl
def F158 (x:List T94D×List T94D×Unit):Option (Bool×Unit):=
 bif !decide (Int.ofNat (List.length x.1)=Int.ofNat (List.length x.2.1)) then some (false,())
 else
 zaT (Int×Unit) (Bool×Unit)
 (fun (x_1:Int×Unit)=>
 bif decide (x_1.1 < Int.ofNat (List.length x.1)) then
 (idx x.1 x_1.1).bind
 fun b=>
 (idx x.2.1 x_1.1).bind
 fun b_1=>
 bif !decide (b.1=b_1.1) then some (Sum.inr (false,()))
 else
 (idx x.1 x_1.1).bind
 fun b=>
 (idx x.2.1 x_1.1).bind
 fun b_2=>
 bif !decide (b.2.1=b_2.2.1) then some (Sum.inr (false,()))
 else
 (idx x.1 x_1.1).bind
 fun b=>
 (idx x.2.1 x_1.1).bind
 fun b_3=>
 (F117 (b.2.2.1,b_3.2.2)).bind fun b=>
 bif !b.1 then some (Sum.inr (false,()))
 else some (Sum.inl (wrap64 (x_1.1+1),()))
 else some (Sum.inr (true,())))
 big (0,())
def S158:Sig:=⟨P158,R158,F158⟩
noncomputable def E158:Env:={ tab:=tab.opt { flats:=[(93,L93)],owns:=[87],frzs:=[89,90,91] },nt:=55,Γ:=zaj [(117,[S117])],joins:=zac [],loops:=zac [(4,zaI ⟨[⟨.slot 13,(.int .i64),.pv⟩],[0,1,12],[]⟩)] }
theorem zot (x:List T94D×List T94D×Unit):afun E158 Tryz.f158 P158 R158 x=F158 x:=by kernel_rfl
def F159 (x:List zai×List zai×Unit):Option (Bool×Unit):=
 bif !decide (Int.ofNat (List.length x.1)=Int.ofNat (List.length x.2.1)) then some (false,())
 else
 zaT (Int×Unit) (Bool×Unit)
 (fun (x_1:Int×Unit)=>
 bif decide (x_1.1 < Int.ofNat (List.length x.1)) then
 (idx x.1 x_1.1).bind fun b=>
 (idx x.2.1 x_1.1).bind fun b_1=>
 bif
 !(decide (b.1=b_1.1) &&
 (decide (b.2.1=b_1.2.1) && (decide (b.2.2.1=b_1.2.2.1) && true))) then
 some (Sum.inr (false,()))
 else some (Sum.inl (wrap64 (x_1.1+1),()))
 else some (Sum.inr (true,())))
 big (0,())
def S159:Sig:=⟨P159,R159,F159⟩
noncomputable def E159:Env:={ tab:=tab.opt { flats:=[(93,L93)],owns:=[87],frzs:=[89,90,91] },nt:=26,Γ:=zaj [],joins:=zac [],loops:=zac [(4,zaI ⟨[⟨.slot 13,(.int .i64),.pv⟩],[0,1,12],[]⟩)] }
theorem zos (x:List zai×List zai×Unit):afun E159 Tryz.f159 P159 R159 x=F159 x:=by kernel_rfl
def F116 (x:T28D×T28D×Unit):Option (Bool×Unit):=
 bif decide (x.1.1=x.2.1.1) then
 bif decide (x.1.2.1=x.2.1.2.1) then
 bif decide (x.1.2.2.1=x.2.1.2.2.1) then
 bif decide (x.1.2.2.2.1=x.2.1.2.2.2.1) then
 bif decide (x.1.2.2.2.2.1=x.2.1.2.2.2.2.1) then
 bif decide (x.1.2.2.2.2.2.1=x.2.1.2.2.2.2.2.1) then
 bif decide (x.1.2.2.2.2.2.2.1=x.2.1.2.2.2.2.2.2.1) then
 bif
 decide
 (x.1.2.2.2.2.2.2.2.2.2.2.1 =
 x.2.1.2.2.2.2.2.2.2.2.2.2.1) then
 bif
 decide
 (x.1.2.2.2.2.2.2.2.2.2.2.2.1 =
 x.2.1.2.2.2.2.2.2.2.2.2.2.2.1) then
 bif
 decide
 (x.1.2.2.2.2.2.2.2.2.2.2.2.2.1 =
 x.2.1.2.2.2.2.2.2.2.2.2.2.2.2.1) then
 bif
 x.1.2.2.2.2.2.2.2.2.2.2.2.2.2.1 ==
 x.2.1.2.2.2.2.2.2.2.2.2.2.2.2.2.1 then
 Option.bind
 (F156
 (x.1.2.2.2.2.2.2.2.1,x.2.1.2.2.2.2.2.2.2.1,
 ()))
 fun b=>
 bif b.1 then
 Option.bind
 (F157
 (x.1.2.2.2.2.2.2.2.2.1,
 x.2.1.2.2.2.2.2.2.2.2.1,()))
 fun b=>
 bif b.1 then
 Option.bind
 (F157
 (x.1.2.2.2.2.2.2.2.2.2.1,
 x.2.1.2.2.2.2.2.2.2.2.2.1,()))
 fun b=>
 bif b.1 then
 Option.bind
 (F119
 (x.1.2.2.2.2.2.2.2.2.2.2.2.2.2.2.1,
 x.2.1.2.2.2.2.2.2.2.2.2.2.2.2.2.2.1,
 ()))
 fun b=>
 bif b.1 then
 Option.bind
 (F158
 (x.1.2.2.2.2.2.2.2.2.2.2.2.2.2.2.2.1,
 x.2.1.2.2.2.2.2.2.2.2.2.2.2.2.2.2.2.1,
 ()))
 fun b=>
 bif b.1 then
 Option.bind
 (F159
 (x.1.2.2.2.2.2.2.2.2.2.2.2.2.2.2.2.2.1,
 x.2.1.2.2.2.2.2.2.2.2.2.2.2.2.2.2.2.2))
 fun b=>some b
 else some (false,())
 else some (false,())
 else some (false,())
 else some (false,())
 else some (false,())
 else some (false,())
 else some (false,())
 else some (false,())
 else some (false,())
 else some (false,())
 else some (false,())
 else some (false,())
 else some (false,())
 else some (false,())
 else some (false,())
 else some (false,())
def S116:Sig:=⟨P116,R116,F116⟩
noncomputable def E116:Env:={ tab:=tab.opt { flats:=[(93,L93)],owns:=[87],frzs:=[89,90,91] },nt:=122,Γ:=zaj [(119,[S119]),(156,[S156]),(157,[S157]),(158,[S158]),(159,[S159])],joins:=zac [],loops:=zac [] }
theorem zo6 (x:T28D×T28D×Unit):afun E116 Tryz.f116 P116 R116 x=F116 x:=by kernel_rfl
def F118 (x:List TBD×List TBD×Unit):Option (Bool×Unit):=
 bif !decide (Int.ofNat (List.length x.1)=Int.ofNat (List.length x.2.1)) then some (false,())
 else
 zaT (Int×Unit) (Bool×Unit)
 (fun (x_1:Int×Unit)=>
 bif decide (x_1.1 < Int.ofNat (List.length x.1)) then
 (idx x.1 x_1.1).bind
 fun b=>
 (idx x.2.1 x_1.1).bind
 fun b_1=>
 bif !decide (b.1=b_1.1) then some (Sum.inr (false,()))
 else
 (idx x.1 x_1.1).bind
 fun b=>
 (idx x.2.1 x_1.1).bind
 fun b_2=>
 (F119 (b.2.1,b_2.2)).bind fun b=>
 bif !b.1 then some (Sum.inr (false,()))
 else some (Sum.inl (wrap64 (x_1.1+1),()))
 else some (Sum.inr (true,())))
 big (0,())
def S118:Sig:=⟨P118,R118,F118⟩
noncomputable def E118:Env:={ tab:=tab.opt { flats:=[(93,L93)],owns:=[87],frzs:=[89,90,91] },nt:=42,Γ:=zaj [(119,[S119])],joins:=zac [],loops:=zac [(4,zaI ⟨[⟨.slot 13,(.int .i64),.pv⟩],[0,1,12],[]⟩)] }
theorem zo4 (x:List TBD×List TBD×Unit):afun E118 Tryz.f118 P118 R118 x=F118 x:=by kernel_rfl
def F120 (x:T55D×T55D×Unit):Option (Bool×Unit):=
 bif decide (x.1.1=x.2.1.1) then
 bif decide (x.1.2.1=x.2.1.2.1) then
 (F158 (x.1.2.2.1,x.2.1.2.2.1,())).bind fun b=>
 bif b.1 then
 (F159 (x.1.2.2.2.1,x.2.1.2.2.2)).bind fun b=>some b
 else some (false,())
 else some (false,())
 else some (false,())
def S120:Sig:=⟨P120,R120,F120⟩
noncomputable def E120:Env:={ tab:=tab.opt { flats:=[(93,L93)],owns:=[87],frzs:=[89,90,91] },nt:=31,Γ:=zaj [(158,[S158]),(159,[S159])],joins:=zac [],loops:=zac [] }
theorem zo2 (x:T55D×T55D×Unit):afun E120 Tryz.f120 P120 R120 x=F120 x:=by kernel_rfl
def F77 (x:TMD×TMD×Unit):Option (Bool×Unit):=
 bif decide (x.1.1=x.2.1.1) then
 bif decide (x.1.2.1=x.2.1.2.1) then
 (F115 (x.1.2.2.1,x.2.1.2.2.1,())).bind fun b=>
 bif b.1 then
 bif decide (x.1.2.2.2.1.1=x.2.1.2.2.2.1.1) then
 bif decide (x.1.2.2.2.1.2.1=x.2.1.2.2.2.1.2.1) then
 (F116 (x.1.2.2.2.1.2.2.1,x.2.1.2.2.2.1.2.2)).bind
 fun b=>
 bif b.1 then
 bif decide (x.1.2.2.2.2.1=x.2.1.2.2.2.2.1) then
 bif decide (x.1.2.2.2.2.2.1=x.2.1.2.2.2.2.2.1) then
 bif decide (x.1.2.2.2.2.2.2.1=x.2.1.2.2.2.2.2.2.1) then
 bif
 decide
 (x.1.2.2.2.2.2.2.2.1=x.2.1.2.2.2.2.2.2.2.1) then
 bif
 decide
 (x.1.2.2.2.2.2.2.2.2.1 =
 x.2.1.2.2.2.2.2.2.2.2.1) then
 bif
 decide
 (x.1.2.2.2.2.2.2.2.2.2.1 =
 x.2.1.2.2.2.2.2.2.2.2.2.1) then
 bif
 decide
 (x.1.2.2.2.2.2.2.2.2.2.2.1 =
 x.2.1.2.2.2.2.2.2.2.2.2.2.1) then
 Option.bind
 (F117
 (x.1.2.2.2.2.2.2.2.2.2.2.2.1,
 x.2.1.2.2.2.2.2.2.2.2.2.2.2.1,()))
 fun b=>
 bif b.1 then
 Option.bind
 (F118
 (x.1.2.2.2.2.2.2.2.2.2.2.2.2.1,
 x.2.1.2.2.2.2.2.2.2.2.2.2.2.2.1,()))
 fun b=>
 bif b.1 then
 Option.bind
 (F119
 (x.1.2.2.2.2.2.2.2.2.2.2.2.2.2.1,
 x.2.1.2.2.2.2.2.2.2.2.2.2.2.2.2.1,
 ()))
 fun b=>
 bif b.1 then
 bif
 x.1.2.2.2.2.2.2.2.2.2.2.2.2.2.2.1 ==
 x.2.1.2.2.2.2.2.2.2.2.2.2.2.2.2.2.1 then
 Option.bind
 (F120
 (x.1.2.2.2.2.2.2.2.2.2.2.2.2.2.2.2.1,
 x.2.1.2.2.2.2.2.2.2.2.2.2.2.2.2.2.2.1,
 ()))
 fun b=>
 bif b.1 then
 some
 (decide
 (x.1.2.2.2.2.2.2.2.2.2.2.2.2.2.2.2.2.1.1 =
 x.2.1.2.2.2.2.2.2.2.2.2.2.2.2.2.2.2.2.1.1) &&
 (decide
 (x.1.2.2.2.2.2.2.2.2.2.2.2.2.2.2.2.2.1.2.1 =
 x.2.1.2.2.2.2.2.2.2.2.2.2.2.2.2.2.2.2.1.2.1) &&
 (decide
 (x.1.2.2.2.2.2.2.2.2.2.2.2.2.2.2.2.2.1.2.2.1 =
 x.2.1.2.2.2.2.2.2.2.2.2.2.2.2.2.2.2.2.1.2.2.1) &&
 (decide
 (x.1.2.2.2.2.2.2.2.2.2.2.2.2.2.2.2.2.1.2.2.2.1 =
 x.2.1.2.2.2.2.2.2.2.2.2.2.2.2.2.2.2.2.1.2.2.2.1) &&
 (decide
 (x.1.2.2.2.2.2.2.2.2.2.2.2.2.2.2.2.2.1.2.2.2.2.1 =
 x.2.1.2.2.2.2.2.2.2.2.2.2.2.2.2.2.2.2.1.2.2.2.2.1) &&
 (decide
 (x.1.2.2.2.2.2.2.2.2.2.2.2.2.2.2.2.2.1.2.2.2.2.2.1 =
 x.2.1.2.2.2.2.2.2.2.2.2.2.2.2.2.2.2.2.1.2.2.2.2.2.1) &&
 (decide
 (x.1.2.2.2.2.2.2.2.2.2.2.2.2.2.2.2.2.1.2.2.2.2.2.2.1 =
 x.2.1.2.2.2.2.2.2.2.2.2.2.2.2.2.2.2.2.1.2.2.2.2.2.2.1) &&
 (decide
 (x.1.2.2.2.2.2.2.2.2.2.2.2.2.2.2.2.2.1.2.2.2.2.2.2.2.1 =
 x.2.1.2.2.2.2.2.2.2.2.2.2.2.2.2.2.2.2.1.2.2.2.2.2.2.2.1) &&
 (decide
 (x.1.2.2.2.2.2.2.2.2.2.2.2.2.2.2.2.2.1.2.2.2.2.2.2.2.2.1 =
 x.2.1.2.2.2.2.2.2.2.2.2.2.2.2.2.2.2.2.1.2.2.2.2.2.2.2.2.1) &&
 (decide
 (x.1.2.2.2.2.2.2.2.2.2.2.2.2.2.2.2.2.1.2.2.2.2.2.2.2.2.2.1 =
 x.2.1.2.2.2.2.2.2.2.2.2.2.2.2.2.2.2.2.1.2.2.2.2.2.2.2.2.2.1) &&
 true))))))))),
 ())
 else some (false,())
 else some (false,())
 else some (false,())
 else some (false,())
 else some (false,())
 else some (false,())
 else some (false,())
 else some (false,())
 else some (false,())
 else some (false,())
 else some (false,())
 else some (false,())
 else some (false,())
 else some (false,())
 else some (false,())
 else some (false,())
 else some (false,())
 else some (false,())
def S77:Sig:=⟨P77,R77,F77⟩
noncomputable def E77:Env:={ tab:=tab.opt { flats:=[(93,L93)],owns:=[87],frzs:=[89,90,91] },nt:=142,Γ:=zaj [(115,[S115]),(116,[S116]),(117,[S117]),(118,[S118]),(119,[S119]),(120,[S120])],joins:=zac [],loops:=zac [] }
theorem zrK (x:TMD×TMD×Unit):afun E77 Tryz.f77 P77 R77 x=F77 x:=by kernel_rfl
def F78 (x:TMD×Unit):Option (TMD×Unit):=
 bif decide (x.1.1=1) then
 some
 ((1,0,x.1.2.2.1,
 (0,0,(0,[],[],[],0,0,0,[],[],[],0,0,0,false,[],[],[],()),()),0,[],[],
 0,0,0,0,(0,0,false,0,[],0,0,()),[],[],false,(0,0,[],[],()),
 (0,0,0,[],[],0,[],0,0,0,()),()),
 ())
 else
 Option.bind
 (bif decide (x.1.1=2) then some (Sum.inl (x.1.2.2.2.1,()))
 else
 some
 (Sum.inl
 ((0,0,(0,[],[],[],0,0,0,[],[],[],0,0,0,false,[],[],[],()),()),
 ())))
 fun o=>
 Sum.elim
 (fun (x_1 :
 (Int×Int×(Int×List UInt8×List UInt8×List UInt8×Int×Int×Int×List T96D×List T48D×List T48D×Int×Int×Int×Bool×List
 T70D×List
 (Int×Int×(Int×Int×Bool×Int×List
 T70D×Y22D)×Unit)×List zai×Unit)×Unit)×Unit)=>
 Option.bind
 (bif decide (x.1.1=3) then some (Sum.inl (x.1.2.2.2.2.1,()))
 else
 bif decide (x.1.1=4) then some (Sum.inl (x.1.2.2.2.2.1,()))
 else some (Sum.inl (0,())))
 fun o=>
 Sum.elim
 (fun (x_2:Int×Unit)=>
 Option.bind
 (bif decide (3≤x.1.1) then
 bif decide (x.1.1≤5) then
 some (Sum.inl (x.1.2.2.2.2.2.1,x.1.2.2.2.2.2.2.1,()))
 else some (Sum.inl ([],[],()))
 else some (Sum.inl ([],[],())))
 fun o=>
 Sum.elim
 (fun (x_3:List UInt8×List UInt8×Unit)=>
 Option.bind
 (bif decide (3≤x.1.1) then
 bif decide (x.1.1≤6) then
 some (Sum.inl (x.1.2.2.2.2.2.2.2.1,()))
 else
 bif decide (x.1.1=9) then
 some (Sum.inl (x.1.2.2.2.2.2.2.2.1,()))
 else
 bif decide (x.1.1=12) then
 some (Sum.inl (x.1.2.2.2.2.2.2.2.1,()))
 else some (Sum.inl (0,()))
 else
 bif decide (x.1.1=9) then
 some (Sum.inl (x.1.2.2.2.2.2.2.2.1,()))
 else
 bif decide (x.1.1=12) then
 some (Sum.inl (x.1.2.2.2.2.2.2.2.1,()))
 else some (Sum.inl (0,())))
 fun o=>
 Sum.elim
 (fun (x_4:Int×Unit)=>
 Option.bind
 (bif decide (x.1.1=3) then
 some (Sum.inl (x.1.2.2.2.2.2.2.2.2.1,()))
 else some (Sum.inl (0,())))
 fun o=>
 Sum.elim
 (fun (x_5:Int×Unit)=>
 Option.bind
 (bif decide (8≤x.1.1) then
 bif decide (x.1.1≤11) then
 some (Sum.inl (x.1.2.2.2.2.2.2.2.2.2.1,()))
 else some (Sum.inl (0,()))
 else some (Sum.inl (0,())))
 fun o=>
 Sum.elim
 (fun (x_6:Int×Unit)=>
 Option.bind
 (bif decide (x.1.1=8) then
 some
 (Sum.inl
 (x.1.2.2.2.2.2.2.2.2.2.2.1,
 x.1.2.2.2.2.2.2.2.2.2.2.2.1,[],[],false,
 (0,0,[],[],()),
 (0,0,0,[],[],0,[],0,0,0,()),()))
 else
 bif decide (x.1.1=9) then
 some
 (Sum.inl
 (0,(0,0,false,0,[],0,0,()),
 x.1.2.2.2.2.2.2.2.2.2.2.2.2.1,[],
 false,(0,0,[],[],()),
 (0,0,0,[],[],0,[],0,0,0,()),()))
 else
 bif decide (x.1.1=10) then
 some
 (Sum.inl
 (0,(0,0,false,0,[],0,0,()),[],
 x.1.2.2.2.2.2.2.2.2.2.2.2.2.2.1,
 x.1.2.2.2.2.2.2.2.2.2.2.2.2.2.2.1,
 (0,0,[],[],()),
 (0,0,0,[],[],0,[],0,0,0,()),()))
 else
 bif decide (x.1.1=11) then
 some
 (Sum.inl
 (0,(0,0,false,0,[],0,0,()),[],[],false,
 x.1.2.2.2.2.2.2.2.2.2.2.2.2.2.2.2.1,
 (0,0,0,[],[],0,[],0,0,0,()),()))
 else
 bif decide (x.1.1=12) then
 some
 (Sum.inl
 (0,(0,0,false,0,[],0,0,()),[],[],false,
 (0,0,[],[],()),
 x.1.2.2.2.2.2.2.2.2.2.2.2.2.2.2.2.2))
 else
 some
 (Sum.inl
 (0,(0,0,false,0,[],0,0,()),[],[],false,
 (0,0,[],[],()),
 (0,0,0,[],[],0,[],0,0,0,()),())))
 fun o=>
 Sum.elim
 (fun (x_7 :
 Int×(Int×Int×Bool×Int×List
 T70D×Y22D)×List
 (Int×List
 T70D×Unit)×List
 T70D×Bool×(Int×Int×List
 (Int×Int×(Int×Int×Bool×Int×List
 T70D×Y22D)×Unit)×List zai×Unit)×T53D×Unit)=>
 some
 ((x.1.1,x.1.2.1,
 (0,0,0,0,0,0,0,0,false,[],(0,0,[],()),
 ()),
 x_1.1,x_2.1,x_3.1,x_3.2.1,x_4.1,x_5.1,x_6.1,
 x_7),
 ()))
 some o)
 some o)
 some o)
 some o)
 some o)
 some o)
 some o
def S78:Sig:=⟨P78,R78,F78⟩
noncomputable def E78:Env:={ tab:=tab.opt { flats:=[(93,L93)],owns:=[87],frzs:=[89,90,91] },nt:=106,Γ:=zaj [],joins:=zac [(7,⟨[⟨.fld 2005000 3,T33,.pv⟩],[1,2,3,4],[.site 2005000,.fld 2005000 0,.fld 2005000 1,.fld 2005000 2]++hL (.fld 2005000) 4 13++[.site 2000]++hL (.fld 2000) 0 17++[.site 1000]++hL (.fld 1000) 0 17⟩),(9,⟨[⟨.fld 2005000 4,(.int .i64),.pv⟩],[1,2,3,4],[.site 2005000]++hL (.fld 2005000) 0 4++hL (.fld 2005000) 5 12++[.site 2000]++hL (.fld 2000) 0 17++[.site 1000]++hL (.fld 1000) 0 17⟩),(11,⟨[⟨.fld 2005000 5,.str,.pv⟩,⟨.fld 2005000 6,.str,.pv⟩],[1,2,3,4],[.site 2005000]++hL (.fld 2005000) 0 5++hL (.fld 2005000) 7 10++[.site 2000]++hL (.fld 2000) 0 17++[.site 1000]++hL (.fld 1000) 0 17⟩),(13,⟨[⟨.fld 2005000 7,(.int .i64),.pv⟩],[1,2,3,4],[.site 2005000]++hL (.fld 2005000) 0 7++hL (.fld 2005000) 8 9++[.site 2000]++hL (.fld 2000) 0 17++[.site 1000]++hL (.fld 1000) 0 17⟩),(15,⟨[⟨.fld 2005000 8,(.int .i64),.pv⟩],[1,2,3,4],[.site 2005000]++hL (.fld 2005000) 0 8++hL (.fld 2005000) 9 8++[.site 2000]++hL (.fld 2000) 0 17++[.site 1000]++hL (.fld 1000) 0 17⟩),(17,⟨[⟨.fld 2005000 9,(.int .i64),.pv⟩],[1,2,3,4],[.site 2005000]++hL (.fld 2005000) 0 9++hL (.fld 2005000) 10 7++[.site 2000]++hL (.fld 2000) 0 17++[.site 1000]++hL (.fld 1000) 0 17⟩),(28,⟨[⟨.fld 2005000 10,(.int .i64),.pv⟩,⟨.fld 2005000 11,T51,.pv⟩,⟨.fld 2005000 12,(.slice TB),.pv⟩,⟨.fld 2005000 13,(.slice T70),.pv⟩,⟨.fld 2005000 14,.bool,.pv⟩,⟨.fld 2005000 15,T55,.pv⟩,⟨.fld 2005000 16,T53,.pv⟩],[2,4],[.site 2005000]++hL (.fld 2005000) 0 10++[.site 2000]++hL (.fld 2000) 0 17⟩)],loops:=zac [] }
theorem zrJ (x:TMD×Unit):afun E78 Tryz.f78 P78 R78 x=F78 x:=by kernel_rfl
def F121 (x:Int×Unit):Option (Bool×Unit):=
 bif decide (0≤x.1) then some (decide (x.1≤1099511627776),()) else some (false,())
def S121:Sig:=⟨P121,R121,F121⟩
noncomputable def E121:Env:={ tab:=tab.opt { flats:=[(93,L93)],owns:=[87],frzs:=[89,90,91] },nt:=9,Γ:=zaj [],joins:=zac [],loops:=zac [] }
theorem zo1 (x:Int×Unit):afun E121 Tryz.f121 P121 R121 x=F121 x:=by kernel_rfl
def F122 (x:T27D×Unit):Option (Bool×Unit):=let o:Bool→Bool→Option (Bool×Unit)→Option (Bool×Unit):=(fun (p q:Bool) (r:Option (Bool×Unit))=>bif p then r else bif q then r else some (false,()))
 (o (decide (x.1.1=1) || decide (x.1.1=3) || decide (x.1.1=5) || decide (x.1.1=6)) (decide (x.1.2.2.2.2.1=0))
 (o (decide (x.1.1=1) || decide (x.1.1=3) || decide (x.1.1=5)) (decide (x.1.2.2.2.2.2.1=0))
 (o (decide (x.1.1=5)) (decide (x.1.2.2.2.2.2.2.1=0))
 (o (decide (x.1.1=5)) (decide (Int.ofNat (List.length x.1.2.2.2.2.2.2.2.2.2.1)=0))
 (o (decide (x.1.1=5) || decide (x.1.1=6)) (decide (x.1.2.2.2.2.2.2.2.1=0))
 (o (decide (x.1.1=2) || decide (x.1.1=4) || decide (x.1.1=6)) (!x.1.2.2.2.2.2.2.2.2.1)
 (bif decide (x.1.1=7) then some (true,()) else bif decide (x.1.2.2.2.2.2.2.2.2.2.2.1.1=0) then bif decide (x.1.2.2.2.2.2.2.2.2.2.2.1.2.1=0) then some (decide (Int.ofNat (List.length x.1.2.2.2.2.2.2.2.2.2.2.1.2.2.1)=0),()) else some (false,()) else some (false,()))))))))
def S122:Sig:=⟨P122,R122,F122⟩
noncomputable def E122:Env:={ tab:=tab.opt { flats:=[(93,L93)],owns:=[87],frzs:=[89,90,91] },nt:=114,Γ:=zaj [],joins:=zac [(2,⟨[⟨.slot 3,.bool,.pv⟩],[1],[.site 1000]++hL (.fld 1000) 0 11⟩),(3,⟨[⟨.slot 4,.bool,.pv⟩],[1,3],[.site 1000]++hL (.fld 1000) 0 11⟩)],loops:=zac [] }
def F161 (x:Int×Unit):Option (Bool×Unit):=
 bif decide (1≤x.1) then some (decide (x.1≤1099511627776),()) else some (false,())
def S161:Sig:=⟨P161,R161,F161⟩
noncomputable def E161:Env:={ tab:=tab.opt { flats:=[(93,L93)],owns:=[87],frzs:=[89,90,91] },nt:=9,Γ:=zaj [],joins:=zac [],loops:=zac [] }
theorem zop (x:Int×Unit):afun E161 Tryz.f161 P161 R161 x=F161 x:=by kernel_rfl
def F160 (x:T25D×Unit):Option (Bool×Unit):=
 (F161 (x.1.1,())).bind fun b=>
 bif b.1 then
 (F161 (x.1.2.1,())).bind fun b=>
 bif b.1 then some (decide (Int.ofNat (List.length x.1.2.2.1)≤12000),())
 else some (false,())
 else some (false,())
def S160:Sig:=⟨P160,R160,F160⟩
noncomputable def E160:Env:={ tab:=tab.opt { flats:=[(93,L93)],owns:=[87],frzs:=[89,90,91] },nt:=17,Γ:=zaj [(161,[S161])],joins:=zac [],loops:=zac [] }
theorem zoq (x:T25D×Unit):afun E160 Tryz.f160 P160 R160 x=F160 x:=by kernel_rfl
def F123 (x:Int×Int×List T25D×Unit):Option (Bool×Unit):=
 zaT Y22D (Bool×Unit)
 (fun (x_1:Y22D)=>
 bif decide (x_1.2.1 < Int.ofNat (List.length x.2.2.1)) then
 (idx x.2.2.1 x_1.2.1).bind fun b=>
 (F160 (b,())).bind fun b=>
 bif !b.1 then some (Sum.inr (false,()))
 else
 (idx x.2.2.1 x_1.2.1).bind fun b=>
 bif decide (b.2.1 < x_1.1) then some (Sum.inr (false,()))
 else
 Option.bind
 (bif decide (x_1.2.1=0) then
 bif decide (x.1 < 0) then some (Sum.inr (Sum.inr (false,())))
 else
 bif decide (1099511627776≤x.1) then some (Sum.inr (Sum.inr (false,())))
 else
 (idx x.2.2.1 x_1.2.1).bind fun b=>
 bif !decide (b.1=wrap64 (x.1+1)) then
 some (Sum.inr (Sum.inr (false,())))
 else
 bif decide (0 < x_1.2.1) then
 (idx x.2.2.1 x_1.2.1).bind fun b=>
 (idx x.2.2.1 (wrap64 (x_1.2.1 - 1))).bind
 fun b_1=>
 bif !decide (b.1=wrap64 (b_1.1+1)) then
 some (Sum.inr (Sum.inr (false,())))
 else some (Sum.inl ())
 else some (Sum.inl ())
 else
 bif decide (0 < x_1.2.1) then
 (idx x.2.2.1 x_1.2.1).bind fun b=>
 (idx x.2.2.1 (wrap64 (x_1.2.1 - 1))).bind
 fun b_1=>
 bif !decide (b.1=wrap64 (b_1.1+1)) then
 some (Sum.inr (Sum.inr (false,())))
 else some (Sum.inl ())
 else some (Sum.inl ()))
 fun o=>
 Sum.elim
 (fun (_z:Unit)=>
 (idx x.2.2.1 x_1.2.1).bind fun b=>
 some (Sum.inl (b.2.1,wrap64 (x_1.2.1+1),())))
 some o
 else some (Sum.inr (true,())))
 big (x.2.1,0,())
def S123:Sig:=⟨P123,R123,F123⟩
noncomputable def E123:Env:={ tab:=tab.opt { flats:=[(93,L93)],owns:=[87],frzs:=[89,90,91] },nt:=73,Γ:=zaj [(160,[S160])],joins:=zac [(8,⟨[],[0,2,7,9,10],[]⟩)],loops:=zac [(2,zaI ⟨[⟨.slot 1,(.int .i64),.pv⟩,⟨.slot 10,(.int .i64),.pv⟩],[0,2,9],[]⟩)] }
theorem zo0 (x:Int×Int×List T25D×Unit):afun E123 Tryz.f123 P123 R123 x=F123 x:=by kernel_rfl
def F124 (x:T25D×Unit):Option (Bool×Unit):=
 Option.bind
 (bif decide (x.1.1=0) then
 bif decide (x.1.2.1=0) then
 some (Sum.inr (decide (Int.ofNat (List.length x.1.2.2.1)=0),()))
 else some (Sum.inl ())
 else some (Sum.inl ()))
 fun o=>
 Sum.elim
 (fun (_z:Unit)=>
 (F161 (x.1.1,())).bind fun b=>
 bif b.1 then
 (F161 (x.1.2.1,())).bind fun b=>
 bif b.1 then some (decide (Int.ofNat (List.length x.1.2.2.1)≤50000),())
 else some (false,())
 else some (false,()))
 some o
def S124:Sig:=⟨P124,R124,F124⟩
noncomputable def E124:Env:={ tab:=tab.opt { flats:=[(93,L93)],owns:=[87],frzs:=[89,90,91] },nt:=29,Γ:=zaj [(161,[S161])],joins:=zac [(3,⟨[],[1],[.site 1000,.fld 1000 0,.fld 1000 1,.fld 1000 2]⟩)],loops:=zac [] }
theorem zoZ (x:T25D×Unit):afun E124 Tryz.f124 P124 R124 x=F124 x:=by kernel_rfl
def F79 (x:T27D×Unit):Option (Bool×Unit):=
 bif decide (x.1.1 < 1) then some (false,())
 else
 bif decide (7 < x.1.1) then some (false,())
 else
 bif decide (x.1.2.1 < 0) then some (false,())
 else
 bif decide (2 < x.1.2.1) then some (false,())
 else
 bif decide (x.1.2.2.1 < 0) then some (false,())
 else
 bif decide (2 < x.1.2.2.1) then some (false,())
 else
 bif decide (x.1.2.1=x.1.2.2.1) then some (false,())
 else
 bif decide (x.1.2.2.2.1 < 1) then some (false,())
 else
 (F121 (x.1.2.2.2.1,())).bind fun b=>
 bif !b.1 then some (false,())
 else
 (F121 (x.1.2.2.2.2.1,())).bind fun b=>
 bif !b.1 then some (false,())
 else
 (F121 (x.1.2.2.2.2.2.1,())).bind fun b=>
 bif !b.1 then some (false,())
 else
 (F121 (x.1.2.2.2.2.2.2.1,())).bind
 fun b=>
 bif !b.1 then some (false,())
 else
 (F121 (x.1.2.2.2.2.2.2.2.1,())).bind
 fun b=>
 bif !b.1 then some (false,())
 else
 (F122 x).bind fun b=>
 bif !b.1 then some (false,())
 else
 bif
 decide
 (4 <
 Int.ofNat
 (List.length x.1.2.2.2.2.2.2.2.2.2.1)) then
 some (false,())
 else
 Option.bind
 (F123
 (x.1.2.2.2.2.1,x.1.2.2.2.2.2.1,
 x.1.2.2.2.2.2.2.2.2.2.1,()))
 fun b=>
 bif !b.1 then some (false,())
 else
 zaT (Int×Unit) (Bool×Unit)
 (fun (x_1:Int×Unit)=>
 bif
 decide
 (x_1.1 <
 Int.ofNat
 (List.length
 x.1.2.2.2.2.2.2.2.2.2.1)) then
 Option.bind
 (idx x.1.2.2.2.2.2.2.2.2.2.1 x_1.1)
 fun b=>
 bif decide (x.1.2.2.2.1 < b.2.1) then
 some (Sum.inr (false,()))
 else
 some
 (Sum.inl
 (wrap64 (x_1.1+1),()))
 else
 Option.map Sum.inr
 (bif !decide (x.1.1=7) then some (true,())
 else
 Option.bind
 (F124 x.1.2.2.2.2.2.2.2.2.2.2)
 fun b=>
 bif b.1 then
 some
 (decide
 (0 <
 x.1.2.2.2.2.2.2.2.2.2.2.1.1),
 ())
 else some (false,())))
 big (0,())
def S79:Sig:=⟨P79,R79,F79⟩
noncomputable def E79:Env:={ tab:=tab.opt { flats:=[(93,L93)],owns:=[87],frzs:=[89,90,91] },nt:=121,Γ:=zaj [(121,[S121]),(122,[S122]),(123,[S123]),(124,[S124])],joins:=zac [],loops:=zac [(8,zaI ⟨[⟨.slot 94,(.int .i64),.pv⟩],[1,93],[.site 1000]++hL (.fld 1000) 0 11⟩)] }
theorem zrI (x:T27D×Unit):afun E79 Tryz.f79 P79 R79 x=F79 x:=by kernel_rfl
def F80 (x:Int×Int×Int×Unit):Option (Bool×Unit):=
 bif decide (x.2.1≤x.1) then some (decide (x.1≤x.2.2.1),()) else some (false,())
def S80:Sig:=⟨P80,R80,F80⟩
noncomputable def E80:Env:={ tab:=tab.opt { flats:=[(93,L93)],owns:=[87],frzs:=[89,90,91] },nt:=15,Γ:=zaj [],joins:=zac [],loops:=zac [] }
theorem zrH (x:Int×Int×Int×Unit):afun E80 Tryz.f80 P80 R80 x=F80 x:=by kernel_rfl
def F82 (x:List UInt8×List UInt8×Unit):Option (Bool×Unit):=
 (F58 (x.1,())).bind fun b=>
 bif b.1 then
 bif decide (Int.ofNat (List.length x.2.1)=0) then some (true,())
 else
 (F89 (x.2.1,UInt8.ofNat 127,())).bind fun b=>
 bif b.1 then some (zaY x.1 x.2.1,()) else some (false,())
 else some (false,())
def S82:Sig:=⟨P82,R82,F82⟩
noncomputable def E82:Env:={ tab:=tab.opt { flats:=[(93,L93)],owns:=[87],frzs:=[89,90,91] },nt:=21,Γ:=zaj [(58,[S58]),(89,[S89])],joins:=zac [],loops:=zac [] }
theorem zrF (x:List UInt8×List UInt8×Unit):afun E82 Tryz.f82 P82 R82 x=F82 x:=by kernel_rfl
def F126 (x:Int×Int×Int×Unit):Option (Bool×Unit):=
 bif decide (x.2.1≤x.1) then some (decide (x.1≤x.2.2.1),()) else some (false,())
def S126:Sig:=⟨P126,R126,F126⟩
noncomputable def E126:Env:={ tab:=tab.opt { flats:=[(93,L93)],owns:=[87],frzs:=[89,90,91] },nt:=15,Γ:=zaj [],joins:=zac [],loops:=zac [] }
theorem zoX (x:Int×Int×Int×Unit):afun E126 Tryz.f126 P126 R126 x=F126 x:=by kernel_rfl
def F127 (x:Int×Unit):Option (Bool×Unit):=(F126 (x.1,1,1099511627776,())).bind fun b=>some b
def S127:Sig:=⟨P127,R127,F127⟩
noncomputable def E127:Env:={ tab:=tab.opt { flats:=[(93,L93)],owns:=[87],frzs:=[89,90,91] },nt:=5,Γ:=zaj [(126,[S126])],joins:=zac [],loops:=zac [] }
theorem zoW (x:Int×Unit):afun E127 Tryz.f127 P127 R127 x=F127 x:=by kernel_rfl
def F129 (x:Int×Unit):Option (Bool×Unit):=(F126 (x.1,0,1099511627776,())).bind fun b=>some b
def S129:Sig:=⟨P129,R129,F129⟩
noncomputable def E129:Env:={ tab:=tab.opt { flats:=[(93,L93)],owns:=[87],frzs:=[89,90,91] },nt:=5,Γ:=zaj [(126,[S126])],joins:=zac [],loops:=zac [] }
theorem zoU (x:Int×Unit):afun E129 Tryz.f129 P129 R129 x=F129 x:=by kernel_rfl
def F128 (x:T66D×Unit):Option (Bool×Unit):=
 bif decide (x.1.1 < 1) then some (false,())
 else
 bif decide (1099511627776 < x.1.1) then some (false,())
 else
 bif decide (x.1.2.2.1 < 1) then some (false,())
 else
 bif decide (1099511627776 < x.1.2.2.1) then some (false,())
 else
 bif x.1.2.2.2.2.2.2.1 then
 bif decide (x.1.2.1=0) then
 bif decide (x.1.2.2.2.1=0) then
 bif decide (x.1.2.2.2.2.2.1=0) then
 some (decide (Int.ofNat (List.length x.1.2.2.2.2.1)=0),())
 else some (false,())
 else some (false,())
 else some (false,())
 else
 bif decide (1≤x.1.2.1) then
 bif decide (x.1.2.1≤x.1.2.2.1) then
 bif decide (1≤x.1.2.2.2.1) then
 bif decide (x.1.2.2.2.1≤1099511627776) then
 bif decide (Int.ofNat (List.length x.1.2.2.2.2.1)≤40) then
 bif decide (-1099511627776≤x.1.2.2.2.2.2.1) then
 some (decide (x.1.2.2.2.2.2.1≤1099511627776),())
 else some (false,())
 else some (false,())
 else some (false,())
 else some (false,())
 else some (false,())
 else some (false,())
def S128:Sig:=⟨P128,R128,F128⟩
noncomputable def E128:Env:={ tab:=tab.opt { flats:=[(93,L93)],owns:=[87],frzs:=[89,90,91] },nt:=78,Γ:=zaj [],joins:=zac [],loops:=zac [] }
theorem zoV (x:T66D×Unit):afun E128 Tryz.f128 P128 R128 x=F128 x:=by kernel_rfl
def F83 (x:T51D×Unit):Option (Bool×Unit):=
 zaT (Int×Unit) (Bool×Unit)
 (fun (x_1:Int×Unit)=>
 bif decide (x_1.1 < Int.ofNat (List.length x.1.2.2.2.2.1)) then
 (idx x.1.2.2.2.2.1 x_1.1).bind
 fun b=>
 (F58 (b.1,())).bind fun b=>
 bif !b.1 then some (Sum.inr (false,()))
 else
 (idx x.1.2.2.2.2.1 x_1.1).bind
 fun b=>
 (F128 b.2).bind fun b=>
 bif !b.1 then some (Sum.inr (false,()))
 else some (Sum.inl (wrap64 (x_1.1+1),()))
 else
 Option.map Sum.inr
 ((F126 (x.1.1,0,15,())).bind fun b=>
 bif b.1 then
 (F129 (x.1.2.1,())).bind fun b=>
 bif b.1 then
 (F129 (x.1.2.2.2.1,())).bind fun b=>
 bif b.1 then
 (F129 x.1.2.2.2.2.2.2).bind fun b=>
 bif b.1 then
 (F126 (x.1.2.2.2.2.2.1,0,1,())).bind fun b=>
 bif b.1 then
 some (decide (Int.ofNat (List.length x.1.2.2.2.2.1)≤8),())
 else some (false,())
 else some (false,())
 else some (false,())
 else some (false,())
 else some (false,())))
 big (0,())
def S83:Sig:=⟨P83,R83,F83⟩
noncomputable def E83:Env:={ tab:=tab.opt { flats:=[(93,L93)],owns:=[87],frzs:=[89,90,91] },nt:=58,Γ:=zaj [(58,[S58]),(126,[S126]),(128,[S128]),(129,[S129])],joins:=zac [],loops:=zac [(2,zaI ⟨[⟨.slot 7,(.int .i64),.pv⟩],[1,6],[.site 1000]++hL (.fld 1000) 0 7⟩)] }
theorem zrE (x:T51D×Unit):afun E83 Tryz.f83 P83 R83 x=F83 x:=by kernel_rfl
def F130 (x:List T94D×Int×Unit):Option (Bool×Unit):=
 zaT (Int×Unit) (Bool×Unit)
 (fun (x_1:Int×Unit)=>
 bif decide (x_1.1 < Int.ofNat (List.length x.1)) then
 (idx x.1 x_1.1).bind
 fun b=>
 (F126 (b.1,1,x.2)).bind fun b=>
 bif !b.1 then some (Sum.inr (false,()))
 else
 (idx x.1 x_1.1).bind
 fun b=>
 (F127 (b.2.1,())).bind fun b=>
 bif !b.1 then some (Sum.inr (false,()))
 else
 (idx x.1 x_1.1).bind
 fun b=>
 (F83 b.2.2).bind fun b=>
 bif !b.1 then some (Sum.inr (false,()))
 else
 bif decide (0 < x_1.1) then
 (idx x.1 (wrap64 (x_1.1 - 1))).bind
 fun b=>
 (idx x.1 x_1.1).bind
 fun b_1=>
 bif decide (b_1.1≤b.1) then some (Sum.inr (false,()))
 else some (Sum.inl (wrap64 (x_1.1+1),()))
 else some (Sum.inl (wrap64 (x_1.1+1),()))
 else some (Sum.inr (true,())))
 big (0,())
def S130:Sig:=⟨P130,R130,F130⟩
noncomputable def E130:Env:={ tab:=tab.opt { flats:=[(93,L93)],owns:=[87],frzs:=[89,90,91] },nt:=56,Γ:=zaj [(83,[S83]),(126,[S126]),(127,[S127])],joins:=zac [],loops:=zac [(2,zaI ⟨[⟨.slot 8,(.int .i64),.pv⟩],[0,1,7],[]⟩)] }
theorem zoS (x:List T94D×Int×Unit):afun E130 Tryz.f130 P130 R130 x=F130 x:=by kernel_rfl
def F131 (x:List zai×Unit):Option (Bool×Unit):=
 zaT (Int×Unit) (Bool×Unit)
 (fun (x_1:Int×Unit)=>
 bif decide (x_1.1 < Int.ofNat (List.length x.1)) then
 (idx x.1 x_1.1).bind fun b=>
 (F127 (b.1,())).bind fun b=>
 bif !b.1 then some (Sum.inr (false,()))
 else
 (idx x.1 x_1.1).bind fun b=>
 (F126 (b.2.1,1,1000,())).bind fun b=>
 bif !b.1 then some (Sum.inr (false,()))
 else
 (idx x.1 x_1.1).bind fun b=>
 (F126 (b.2.2.1,0,1000,())).bind fun b=>
 bif !b.1 then some (Sum.inr (false,()))
 else
 bif decide (0 < x_1.1) then
 (idx x.1 (wrap64 (x_1.1 - 1))).bind
 fun b=>
 (idx x.1 x_1.1).bind fun b_1=>
 bif decide (b_1.1≤b.1) then some (Sum.inr (false,()))
 else some (Sum.inl (wrap64 (x_1.1+1),()))
 else some (Sum.inl (wrap64 (x_1.1+1),()))
 else some (Sum.inr (decide (Int.ofNat (List.length x.1)≤64),())))
 big (0,())
def S131:Sig:=⟨P131,R131,F131⟩
noncomputable def E131:Env:={ tab:=tab.opt { flats:=[(93,L93)],owns:=[87],frzs:=[89,90,91] },nt:=56,Γ:=zaj [(126,[S126]),(127,[S127])],joins:=zac [],loops:=zac [(2,zaI ⟨[⟨.slot 6,(.int .i64),.pv⟩],[0,5],[]⟩)] }
theorem zoR (x:List zai×Unit):afun E131 Tryz.f131 P131 R131 x=F131 x:=by kernel_rfl
def F162 (x:T28D×Unit):Option (Bool×Unit):=let o:Bool→Bool→Option (Bool×Unit)→Option (Bool×Unit):=(fun (p q:Bool) (r:Option (Bool×Unit))=>bif p then r else bif q then r else some (false,()))
 ((o (decide (x.1.1=1) || decide (x.1.1=2) || decide (x.1.1=10) || decide (x.1.1=12) || decide (x.1.1=13)) (decide (x.1.2.1=[])))
 ((o (decide (x.1.1=2) || decide (x.1.1=12) || decide (x.1.1=13)) (decide (x.1.2.2.1=[])))
 ((o (decide (x.1.1=1)) (decide (x.1.2.2.2.1=[])))
 ((o (decide (x.1.1=1) || decide (x.1.1=5) || decide (x.1.1=6) || decide (x.1.1=7) || decide (x.1.1=9)) (decide (x.1.2.2.2.2.1=0)))
 ((o (decide (x.1.1=5)) (decide (x.1.2.2.2.2.2.1=0)))
 ((o (decide (x.1.1=4) || decide (x.1.1=12) || decide (x.1.1=14) || decide (x.1.1=15)) (decide (x.1.2.2.2.2.2.2.1=0)))
 ((o (decide (x.1.1=3)) (decide (wrap64 (wrap64 (Int.ofNat (List.length x.1.2.2.2.2.2.2.2.1)+Int.ofNat (List.length x.1.2.2.2.2.2.2.2.2.1))+Int.ofNat (List.length x.1.2.2.2.2.2.2.2.2.2.1))=0)))
 ((o (decide (10≤x.1.1)) (decide (x.1.2.2.2.2.2.2.2.2.2.2.1=0)))
 ((fun r=>bif decide (12≤x.1.1) then (o (decide (x.1.1≤15)) (decide (x.1.2.2.2.2.2.2.2.2.2.2.2.1=0)) r) else (o false (decide (x.1.2.2.2.2.2.2.2.2.2.2.2.1=0)) r))
 ((o (decide (x.1.1=14)) (decide (x.1.2.2.2.2.2.2.2.2.2.2.2.2.1=0)))
 ((o (decide (x.1.1=13)) (!x.1.2.2.2.2.2.2.2.2.2.2.2.2.2.1))
 ((o (decide (x.1.1=13) || decide (x.1.1=14)) (decide (Int.ofNat (List.length x.1.2.2.2.2.2.2.2.2.2.2.2.2.2.2.1)=0))) (bif decide (x.1.1=15) then some (true,()) else some (decide (wrap64 (Int.ofNat (List.length x.1.2.2.2.2.2.2.2.2.2.2.2.2.2.2.2.1)+Int.ofNat (List.length x.1.2.2.2.2.2.2.2.2.2.2.2.2.2.2.2.2.1))=0),()))))))))))))))
def S162:Sig:=⟨P162,R162,F162⟩
noncomputable def E162:Env:={ tab:=tab.opt { flats:=[(93,L93)],owns:=[87],frzs:=[89,90,91] },nt:=204,Γ:=zaj [],joins:=zac [(3,⟨[⟨.slot 4,.bool,.pv⟩],[1,3],[.site 1000]++hL (.fld 1000) 0 17⟩),(4,⟨[⟨.slot 5,.bool,.pv⟩],[1,3,4],[.site 1000]++hL (.fld 1000) 0 17⟩),(5,⟨[⟨.slot 6,.bool,.pv⟩],[1,3,4,5],[.site 1000]++hL (.fld 1000) 0 17⟩),(6,⟨[⟨.slot 7,.bool,.pv⟩],[1,3,4,5,6],[.site 1000]++hL (.fld 1000) 0 17⟩)],loops:=zac [] }
def F163 (x:List T96D×Unit):Option (Bool×Unit):=
 zaT (Int×Unit) (Bool×Unit)
 (fun (x_1:Int×Unit)=>
 bif decide (x_1.1 < Int.ofNat (List.length x.1)) then
 (idx x.1 x_1.1).bind fun b=>
 Option.bind
 (bif decide (1≤b.2.1) then
 bif decide (b.2.1≤4) then
 bif decide (Int.ofNat (List.length b.2.2.2.2.1)=0) then
 (F126 (b.2.2.2.1,-1099511627776,1099511627776,())).bind
 fun b=>some (Sum.inl b)
 else some (Sum.inl (false,()))
 else some (Sum.inl (false,()))
 else some (Sum.inl (false,())))
 fun o=>
 Sum.elim
 (fun (x:Bool×Unit)=>
 Option.bind
 (bif decide (b.2.1=5) then
 bif decide (b.2.2.2.1=0) then
 some (Sum.inl (decide (Int.ofNat (List.length b.2.2.2.2.1)≤40),()))
 else some (Sum.inl (false,()))
 else some (Sum.inl (false,())))
 fun o=>
 Sum.elim
 (fun (x_2:Bool×Unit)=>
 (F58 (b.1,())).bind fun b_1=>
 bif !b_1.1 then some (Sum.inr (false,()))
 else
 (F126 (b.2.2.1,0,2,())).bind fun b=>
 bif !b.1 then some (Sum.inr (false,()))
 else
 bif !x.1 then
 bif !x_2.1 then some (Sum.inr (false,()))
 else some (Sum.inl (wrap64 (x_1.1+1),()))
 else some (Sum.inl (wrap64 (x_1.1+1),())))
 some o)
 some o
 else some (Sum.inr (decide (Int.ofNat (List.length x.1)≤4),())))
 big (0,())
def S163:Sig:=⟨P163,R163,F163⟩
noncomputable def E163:Env:={ tab:=tab.opt { flats:=[(93,L93)],owns:=[87],frzs:=[89,90,91] },nt:=71,Γ:=zaj [(58,[S58]),(126,[S126])],joins:=zac [(6,⟨[⟨.slot 5,.bool,.pv⟩],[0,4,8,9],[.site 4005000]++hL (.fld 4005000) 0 5⟩),(7,⟨[⟨.slot 6,.bool,.pv⟩],[0,4,5,8,9],[.site 4005000]++hL (.fld 4005000) 0 5⟩)],loops:=zac [(2,zaI ⟨[⟨.slot 9,(.int .i64),.pv⟩],[0,8],[]⟩)] }
theorem zoo (x:List T96D×Unit):afun E163 Tryz.f163 P163 R163 x=F163 x:=by kernel_rfl
def F183 (x:T48D×Unit):Option (Bool×Unit):=
 bif decide (x.1.1=1) then
 bif decide (Int.ofNat (List.length x.1.2.2.1)=0) then
 (F58 (x.1.2.1,())).bind fun b=>
 bif b.1 then
 bif decide (Int.ofNat (List.length x.1.2.2.2.1)≤40) then
 (F129 x.1.2.2.2.2).bind fun b=>some b
 else some (false,())
 else some (false,())
 else some (false,())
 else
 bif decide (x.1.1=2) then
 bif decide (Int.ofNat (List.length x.1.2.2.2.1)=0) then
 bif decide (x.1.2.2.2.2.1=0) then
 (F82 (x.1.2.1,x.1.2.2.1,())).bind fun b=>some b
 else some (false,())
 else some (false,())
 else
 bif decide (x.1.1=3) then
 bif decide (Int.ofNat (List.length x.1.2.2.2.1)=0) then
 bif decide (x.1.2.2.2.2.1=0) then
 (F82 (x.1.2.1,x.1.2.2.1,())).bind fun b=>some b
 else some (false,())
 else some (false,())
 else some (false,())
def S183:Sig:=⟨P183,R183,F183⟩
noncomputable def E183:Env:={ tab:=tab.opt { flats:=[(93,L93)],owns:=[87],frzs:=[89,90,91] },nt:=52,Γ:=zaj [(58,[S58]),(82,[S82]),(129,[S129])],joins:=zac [],loops:=zac [] }
theorem zn6 (x:T48D×Unit):afun E183 Tryz.f183 P183 R183 x=F183 x:=by kernel_rfl
def F190 (x:List UInt8×List UInt8×List UInt8×Unit):Option (Bool×Unit):=
 (F82 (x.1,x.2.1,())).bind fun b=>
 bif !b.1 then some (false,())
 else
 (F58 x.2.2).bind fun b=>
 bif !b.1 then some (false,())
 else
 bif decide (Int.ofNat (List.length x.2.1)=0) then some (decide (x.2.2.1=x.1),())
 else
 bif !strlt x.2.2.1 x.1 then some (zaY x.2.2.1 x.2.1,())
 else some (false,())
def S190:Sig:=⟨P190,R190,F190⟩
noncomputable def E190:Env:={ tab:=tab.opt { flats:=[(93,L93)],owns:=[87],frzs:=[89,90,91] },nt:=30,Γ:=zaj [(58,[S58]),(82,[S82])],joins:=zac [],loops:=zac [] }
theorem zn0 (x:List UInt8×List UInt8×List UInt8×Unit):afun E190 Tryz.f190 P190 R190 x=F190 x:=by kernel_rfl
def F184 (x:T48D×T48D×Unit):Option (Bool×Unit):=
 bif decide (x.1.1=3) then some (false,())
 else
 bif decide (x.2.1.1=3) then some (false,())
 else
 (F190 (x.1.2.1,x.1.2.2.1,x.2.1.2.1,())).bind fun b=>
 bif b.1 then some (true,())
 else
 (F190 (x.2.1.2.1,x.2.1.2.2.1,x.1.2.1,())).bind
 fun b=>some b
def S184:Sig:=⟨P184,R184,F184⟩
noncomputable def E184:Env:={ tab:=tab.opt { flats:=[(93,L93)],owns:=[87],frzs:=[89,90,91] },nt:=29,Γ:=zaj [(190,[S190])],joins:=zac [],loops:=zac [] }
theorem zn5 (x:T48D×T48D×Unit):afun E184 Tryz.f184 P184 R184 x=F184 x:=by kernel_rfl
def F164 (x:List T48D×Unit):Option (Bool×Unit):=
 zaT (Int×Unit) (Bool×Unit)
 (fun (x_1:Int×Unit)=>
 bif decide (x_1.1 < Int.ofNat (List.length x.1)) then
 (idx x.1 x_1.1).bind fun b=>
 (F183 (b,())).bind fun b=>
 bif !b.1 then some (Sum.inr (false,()))
 else
 zaT (Int×Unit) (Int×Unit⊕Bool×Unit)
 (fun (x_2:Int×Unit)=>
 bif decide (x_2.1 < x_1.1) then
 (idx x.1 x_2.1).bind
 fun b=>
 (idx x.1 x_1.1).bind
 fun b_1=>
 (F184 (b,b_1,())).bind fun b=>
 bif b.1 then some (Sum.inr (Sum.inr (false,())))
 else some (Sum.inl (wrap64 (x_2.1+1),()))
 else some (Sum.inr (Sum.inl (wrap64 (x_1.1+1),()))))
 big (0,())
 else some (Sum.inr (decide (Int.ofNat (List.length x.1)≤4),())))
 big (0,())
def S164:Sig:=⟨P164,R164,F164⟩
noncomputable def E164:Env:={ tab:=tab.opt { flats:=[(93,L93)],owns:=[87],frzs:=[89,90,91] },nt:=34,Γ:=zaj [(183,[S183]),(184,[S184])],joins:=zac [],loops:=zac [(2,zaI ⟨[⟨.slot 7,(.int .i64),.pv⟩],[0,6],[]⟩),(7,zaI ⟨[⟨.slot 17,(.int .i64),.pv⟩],[0,3,6,7,16],[]⟩)] }
theorem zon (x:List T48D×Unit):afun E164 Tryz.f164 P164 R164 x=F164 x:=by kernel_rfl
def F165 (x:T28D×Unit):Option (Bool×Unit):=
 zaT (Int×Unit) (Bool×Unit)
 (fun (x_1:Int×Unit)=>
 bif
 decide
 (x_1.1 < Int.ofNat (List.length x.1.2.2.2.2.2.2.2.2.2.2.2.2.2.2.1)) then
 (idx x.1.2.2.2.2.2.2.2.2.2.2.2.2.2.2.1 x_1.1).bind
 fun b=>
 (F58 (b.1,())).bind fun b_1=>
 bif !b_1.1 then some (Sum.inr (false,()))
 else
 (F128 b.2).bind fun b_2=>
 bif !b_2.1 then some (Sum.inr (false,()))
 else
 bif b.2.1.2.2.2.2.2.2.1 then some (Sum.inr (false,()))
 else
 bif decide (0 < x_1.1) then
 Option.bind
 (idx x.1.2.2.2.2.2.2.2.2.2.2.2.2.2.2.1
 (wrap64 (x_1.1 - 1)))
 fun b_3=>
 bif !strlt b_3.1 b.1 then some (Sum.inr (false,()))
 else some (Sum.inl (wrap64 (x_1.1+1),()))
 else some (Sum.inl (wrap64 (x_1.1+1),()))
 else
 Option.map Sum.inr
 (bif decide (x.1.2.1=[]) then
 bif decide (x.1.2.2.1=[]) then
 some
 (decide (Int.ofNat (List.length x.1.2.2.2.2.2.2.2.2.2.2.2.2.2.2.1)≤8),
 ())
 else
 (F58 (x.1.2.2.1,())).bind fun b=>
 bif b.1 then
 some
 (decide
 (Int.ofNat (List.length x.1.2.2.2.2.2.2.2.2.2.2.2.2.2.2.1)≤8),
 ())
 else some (false,())
 else
 (F58 (x.1.2.1,())).bind fun b=>
 bif b.1 then
 bif decide (x.1.2.2.1=[]) then
 some
 (decide
 (Int.ofNat (List.length x.1.2.2.2.2.2.2.2.2.2.2.2.2.2.2.1)≤8),
 ())
 else
 (F58 (x.1.2.2.1,())).bind fun b=>
 bif b.1 then
 some
 (decide
 (Int.ofNat (List.length x.1.2.2.2.2.2.2.2.2.2.2.2.2.2.2.1)≤
 8),
 ())
 else some (false,())
 else some (false,())))
 big (0,())
def S165:Sig:=⟨P165,R165,F165⟩
noncomputable def E165:Env:={ tab:=tab.opt { flats:=[(93,L93)],owns:=[87],frzs:=[89,90,91] },nt:=72,Γ:=zaj [(58,[S58]),(128,[S128])],joins:=zac [],loops:=zac [(2,zaI ⟨[⟨.slot 8,(.int .i64),.pv⟩],[1,7],[.site 1000]++hL (.fld 1000) 0 17⟩)] }
theorem zom (x:T28D×Unit):afun E165 Tryz.f165 P165 R165 x=F165 x:=by kernel_rfl
def F166 (x:T28D×Unit):Option (Bool×Unit):=
 zaT (Int×Unit) (Bool×Unit)
 (fun (x_1:Int×Unit)=>
 bif
 decide
 (x_1.1 < Int.ofNat (List.length x.1.2.2.2.2.2.2.2.2.2.2.2.2.2.2.1)) then
 (idx x.1.2.2.2.2.2.2.2.2.2.2.2.2.2.2.1 x_1.1).bind
 fun b=>
 (F58 (b.1,())).bind fun b_1=>
 bif !b_1.1 then some (Sum.inr (false,()))
 else
 (F128 b.2).bind fun b_2=>
 bif !b_2.1 then some (Sum.inr (false,()))
 else
 bif decide (b.2.1.1≤x.1.2.2.2.2.2.2.1) then some (Sum.inr (false,()))
 else
 bif decide (x.1.2.2.2.2.2.2.2.2.2.2.2.2.1 < b.2.1.1) then
 some (Sum.inr (false,()))
 else
 bif decide (0 < x_1.1) then
 Option.bind
 (idx x.1.2.2.2.2.2.2.2.2.2.2.2.2.2.2.1
 (wrap64 (x_1.1 - 1)))
 fun b_3=>
 bif decide (b.2.1.1 < b_3.2.1.1) then some (Sum.inr (false,()))
 else
 Option.bind
 (idx x.1.2.2.2.2.2.2.2.2.2.2.2.2.2.2.1
 (wrap64 (x_1.1 - 1)))
 fun b_4=>
 bif decide (b_4.2.1.1=b.2.1.1) then
 Option.bind
 (idx x.1.2.2.2.2.2.2.2.2.2.2.2.2.2.2.1
 (wrap64 (x_1.1 - 1)))
 fun b_5=>
 bif !strlt b_5.1 b.1 then some (Sum.inr (false,()))
 else some (Sum.inl (wrap64 (x_1.1+1),()))
 else some (Sum.inl (wrap64 (x_1.1+1),()))
 else some (Sum.inl (wrap64 (x_1.1+1),()))
 else
 Option.map Sum.inr
 ((F127 (x.1.2.2.2.2.2.2.1,())).bind fun b=>
 bif b.1 then
 (F127 (x.1.2.2.2.2.2.2.2.2.2.2.2.2.1,())).bind
 fun b=>
 bif b.1 then
 bif
 decide
 (x.1.2.2.2.2.2.2.1 <
 x.1.2.2.2.2.2.2.2.2.2.2.2.2.1) then
 some
 (decide
 (Int.ofNat (List.length x.1.2.2.2.2.2.2.2.2.2.2.2.2.2.2.1)≤
 64),
 ())
 else some (false,())
 else some (false,())
 else some (false,())))
 big (0,())
def S166:Sig:=⟨P166,R166,F166⟩
noncomputable def E166:Env:={ tab:=tab.opt { flats:=[(93,L93)],owns:=[87],frzs:=[89,90,91] },nt:=106,Γ:=zaj [(58,[S58]),(127,[S127]),(128,[S128])],joins:=zac [],loops:=zac [(2,zaI ⟨[⟨.slot 8,(.int .i64),.pv⟩],[1,7],[.site 1000]++hL (.fld 1000) 0 17⟩)] }
theorem zol (x:T28D×Unit):afun E166 Tryz.f166 P166 R166 x=F166 x:=by kernel_rfl
def F125 (x:T28D×Unit):Option (Bool×Unit):=
 Option.bind
 ((F162 x).bind fun b=>
 bif !b.1 then some (Sum.inr (false,()))
 else
 bif decide (10≤x.1.1) then
 (F127 (x.1.2.2.2.2.2.2.2.2.2.2.1,())).bind fun b=>
 bif !b.1 then some (Sum.inr (false,()))
 else
 bif decide (12≤x.1.1) then
 bif decide (x.1.1≤15) then
 (F127 (x.1.2.2.2.2.2.2.2.2.2.2.2.1,())).bind
 fun b=>
 bif !b.1 then some (Sum.inr (false,())) else some (Sum.inl ())
 else some (Sum.inl ())
 else some (Sum.inl ())
 else
 bif decide (12≤x.1.1) then
 bif decide (x.1.1≤15) then
 (F127 (x.1.2.2.2.2.2.2.2.2.2.2.2.1,())).bind
 fun b=>
 bif !b.1 then some (Sum.inr (false,())) else some (Sum.inl ())
 else some (Sum.inl ())
 else some (Sum.inl ()))
 fun o=>
 Sum.elim
 (fun (_z:Unit)=>
 Option.bind
 (bif decide (x.1.1=1) then
 (F58 (x.1.2.1,())).bind fun b=>
 bif b.1 then
 bif decide (Int.ofNat (List.length x.1.2.2.2.1)≤40) then
 (F129 (x.1.2.2.2.2.1,())).bind fun b=>some (Sum.inr b)
 else some (Sum.inr (false,()))
 else some (Sum.inr (false,()))
 else
 bif decide (x.1.1=2) then
 (F82 (x.1.2.1,x.1.2.2.1,())).bind fun b=>
 some (Sum.inr b)
 else
 bif decide (x.1.1=3) then
 (F163 (x.1.2.2.2.2.2.2.2.1,())).bind fun b=>
 bif b.1 then
 (F164 (x.1.2.2.2.2.2.2.2.2.1,())).bind fun b=>
 bif b.1 then
 (F164 (x.1.2.2.2.2.2.2.2.2.2.1,())).bind
 fun b=>some (Sum.inr b)
 else some (Sum.inr (false,()))
 else some (Sum.inr (false,()))
 else
 bif decide (x.1.1=4) then
 (F127 (x.1.2.2.2.2.2.2.1,())).bind fun b=>
 some (Sum.inr b)
 else
 bif decide (x.1.1=5) then
 (F127 (x.1.2.2.2.2.1,())).bind fun b=>
 bif b.1 then
 (F126 (x.1.2.2.2.2.2.1,1,1000,())).bind
 fun b=>some (Sum.inr b)
 else some (Sum.inr (false,()))
 else
 bif decide (x.1.1=6) then
 bif decide (x.1.1=6) then
 (F127 (x.1.2.2.2.2.1,())).bind fun b=>
 some (Sum.inr b)
 else
 bif decide (x.1.1=9) then
 bif !decide (x.1.2.2.2.2.1=0) then
 (F126 (x.1.2.2.2.2.1,-1099511627776,1099511627776,())).bind
 fun b=>some (Sum.inr b)
 else some (Sum.inr (false,()))
 else
 bif decide (x.1.1=10) then
 (F38 (x.1.2.1,())).bind fun b=>some (Sum.inr b)
 else
 bif decide (x.1.1=12) then
 (F38 (x.1.2.1,())).bind fun b=>
 bif b.1 then
 (F38 (x.1.2.2.1,())).bind fun b=>
 bif b.1 then
 (F127 (x.1.2.2.2.2.2.2.1,())).bind
 fun b=>some (Sum.inr b)
 else some (Sum.inr (false,()))
 else some (Sum.inr (false,()))
 else
 bif decide (x.1.1=13) then
 (F165 x).bind fun b=>some (Sum.inr b)
 else
 bif decide (x.1.1=14) then
 (F166 x).bind fun b=>some (Sum.inr b)
 else
 bif decide (x.1.1=15) then
 (F127 (x.1.2.2.2.2.2.2.1,())).bind
 fun b=>
 bif b.1 then
 Option.bind
 (F130
 (x.1.2.2.2.2.2.2.2.2.2.2.2.2.2.2.2.1,15,
 ()))
 fun b=>
 bif b.1 then
 Option.bind
 (F131
 x.1.2.2.2.2.2.2.2.2.2.2.2.2.2.2.2.2)
 fun b=>some (Sum.inr b)
 else some (Sum.inr (false,()))
 else some (Sum.inr (false,()))
 else some (Sum.inl ())
 else
 bif decide (x.1.1=7) then
 (F127 (x.1.2.2.2.2.1,())).bind fun b=>
 some (Sum.inr b)
 else
 bif decide (x.1.1=9) then
 bif !decide (x.1.2.2.2.2.1=0) then
 (F126 (x.1.2.2.2.2.1,-1099511627776,1099511627776,())).bind
 fun b=>some (Sum.inr b)
 else some (Sum.inr (false,()))
 else
 bif decide (x.1.1=10) then
 (F38 (x.1.2.1,())).bind fun b=>some (Sum.inr b)
 else
 bif decide (x.1.1=12) then
 (F38 (x.1.2.1,())).bind fun b=>
 bif b.1 then
 (F38 (x.1.2.2.1,())).bind fun b=>
 bif b.1 then
 (F127 (x.1.2.2.2.2.2.2.1,())).bind
 fun b=>some (Sum.inr b)
 else some (Sum.inr (false,()))
 else some (Sum.inr (false,()))
 else
 bif decide (x.1.1=13) then
 (F165 x).bind fun b=>some (Sum.inr b)
 else
 bif decide (x.1.1=14) then
 (F166 x).bind fun b=>some (Sum.inr b)
 else
 bif decide (x.1.1=15) then
 (F127 (x.1.2.2.2.2.2.2.1,())).bind
 fun b=>
 bif b.1 then
 Option.bind
 (F130
 (x.1.2.2.2.2.2.2.2.2.2.2.2.2.2.2.2.1,15,
 ()))
 fun b=>
 bif b.1 then
 Option.bind
 (F131
 x.1.2.2.2.2.2.2.2.2.2.2.2.2.2.2.2.2)
 fun b=>some (Sum.inr b)
 else some (Sum.inr (false,()))
 else some (Sum.inr (false,()))
 else some (Sum.inl ()))
 fun o=>
 Sum.elim
 (fun (_z:Unit)=>
 bif decide (x.1.1=8) then some (true,())
 else
 bif decide (x.1.1=11) then some (true,())
 else some (decide (x.1.1=16),()))
 some o)
 some o
def S125:Sig:=⟨P125,R125,F125⟩
noncomputable def E125:Env:={ tab:=tab.opt { flats:=[(93,L93)],owns:=[87],frzs:=[89,90,91] },nt:=160,Γ:=zaj [(38,[S38]),(58,[S58]),(82,[S82]),(126,[S126]),(127,[S127]),(129,[S129]),(130,[S130]),(131,[S131]),(162,[S162]),(163,[S163]),(164,[S164]),(165,[S165]),(166,[S166])],joins:=zac [(3,⟨[],[1],[.site 1000]++hL (.fld 1000) 0 17⟩),(29,⟨[],[1],[.site 1000]++hL (.fld 1000) 0 17⟩)],loops:=zac [] }
theorem zoY (x:T28D×Unit):afun E125 Tryz.f125 P125 R125 x=F125 x:=by kernel_rfl
def F81 (x:T33D×Unit):Option (Bool×Unit):=
 (F125 x.1.2.2).bind fun b=>
 bif !b.1 then some (false,())
 else
 bif decide (x.1.1=0) then
 bif decide (x.1.2.1=0) then some (decide (8≤x.1.2.2.1.1),())
 else some (false,())
 else
 (F126 (x.1.1,1,31,())).bind fun b=>
 bif b.1 then
 (F127 (x.1.2.1,())).bind fun b=>
 bif b.1 then some (decide (x.1.2.2.1.1 < 8),()) else some (false,())
 else some (false,())
def S81:Sig:=⟨P81,R81,F81⟩
noncomputable def E81:Env:={ tab:=tab.opt { flats:=[(93,L93)],owns:=[87],frzs:=[89,90,91] },nt:=33,Γ:=zaj [(125,[S125]),(126,[S126]),(127,[S127])],joins:=zac [],loops:=zac [] }
theorem zrG (x:T33D×Unit):afun E81 Tryz.f81 P81 R81 x=F81 x:=by kernel_rfl
def F85 (x:List T70D×Int×Unit):Option (Bool×Unit):=
 zaT (Int×Unit) (Bool×Unit)
 (fun (x_1:Int×Unit)=>
 bif decide (x_1.1 < Int.ofNat (List.length x.1)) then
 (idx x.1 x_1.1).bind
 fun b=>
 (F58 (b.1,())).bind fun b=>
 bif !b.1 then some (Sum.inr (false,()))
 else
 (idx x.1 x_1.1).bind
 fun b=>
 (F128 b.2).bind fun b=>
 bif !b.1 then some (Sum.inr (false,()))
 else some (Sum.inl (wrap64 (x_1.1+1),()))
 else some (Sum.inr (decide (Int.ofNat (List.length x.1)≤x.2.1),())))
 big (0,())
def S85:Sig:=⟨P85,R85,F85⟩
noncomputable def E85:Env:={ tab:=tab.opt { flats:=[(93,L93)],owns:=[87],frzs:=[89,90,91] },nt:=32,Γ:=zaj [(58,[S58]),(128,[S128])],joins:=zac [],loops:=zac [(2,zaI ⟨[⟨.slot 8,(.int .i64),.pv⟩],[0,1,7],[]⟩)] }
theorem zrC (x:List T70D×Int×Unit):afun E85 Tryz.f85 P85 R85 x=F85 x:=by kernel_rfl
def F84 (x:List TBD×Unit):Option (Bool×Unit):=
 zaT (Int×Unit) (Bool×Unit)
 (fun (x_1:Int×Unit)=>
 bif decide (x_1.1 < Int.ofNat (List.length x.1)) then
 (idx x.1 x_1.1).bind
 fun b=>
 (F80 (b.1,1,1099511627776,())).bind fun b=>
 bif !b.1 then some (Sum.inr (false,()))
 else
 bif decide (0 < x_1.1) then
 (idx x.1 x_1.1).bind
 fun b=>
 (idx x.1 (wrap64 (x_1.1 - 1))).bind
 fun b_1=>
 bif decide (b.1≤b_1.1) then some (Sum.inr (false,()))
 else
 (idx x.1 x_1.1).bind
 fun b=>
 (F85 (b.2.1,48,())).bind fun b=>
 bif !b.1 then some (Sum.inr (false,()))
 else some (Sum.inl (wrap64 (x_1.1+1),()))
 else
 (idx x.1 x_1.1).bind
 fun b=>
 (F85 (b.2.1,48,())).bind fun b=>
 bif !b.1 then some (Sum.inr (false,()))
 else some (Sum.inl (wrap64 (x_1.1+1),()))
 else some (Sum.inr (decide (Int.ofNat (List.length x.1)≤64),())))
 big (0,())
def S84:Sig:=⟨P84,R84,F84⟩
noncomputable def E84:Env:={ tab:=tab.opt { flats:=[(93,L93)],owns:=[87],frzs:=[89,90,91] },nt:=47,Γ:=zaj [(80,[S80]),(85,[S85])],joins:=zac [],loops:=zac [(2,zaI ⟨[⟨.slot 6,(.int .i64),.pv⟩],[0,5],[]⟩)] }
theorem zrD (x:List TBD×Unit):afun E84 Tryz.f84 P84 R84 x=F84 x:=by kernel_rfl
def F86 (x:T55D×Unit):Option (Bool×Unit):=
 (F120 (x.1,(0,0,[],[],()),())).bind fun b=>some b
def S86:Sig:=⟨P86,R86,F86⟩
noncomputable def E86:Env:={ tab:=tab.opt { flats:=[(93,L93)],owns:=[87],frzs:=[89,90,91] },nt:=6,Γ:=zaj [(120,[S120])],joins:=zac [],loops:=zac [] }
theorem zrB (x:T55D×Unit):afun E86 Tryz.f86 P86 R86 x=F86 x:=by kernel_rfl
def F87 (x:T55D×Unit):Option (Bool×Unit):=
 (F127 (x.1.1,())).bind fun b=>
 bif b.1 then
 (F129 (x.1.2.1,())).bind fun b=>
 bif b.1 then
 (F130 (x.1.2.2.1,15,())).bind fun b=>
 bif b.1 then (F131 x.1.2.2.2).bind fun b=>some b
 else some (false,())
 else some (false,())
 else some (false,())
def S87:Sig:=⟨P87,R87,F87⟩
noncomputable def E87:Env:={ tab:=tab.opt { flats:=[(93,L93)],owns:=[87],frzs:=[89,90,91] },nt:=21,Γ:=zaj [(127,[S127]),(129,[S129]),(130,[S130]),(131,[S131])],joins:=zac [],loops:=zac [] }
theorem zrA (x:T55D×Unit):afun E87 Tryz.f87 P87 R87 x=F87 x:=by kernel_rfl
def F88 (x:T53D×Unit):Option (Bool×Unit):=
 (F126 (x.1.1,0,4,())).bind fun b=>
 bif b.1 then
 (F129 (x.1.2.1,())).bind fun b=>
 bif b.1 then
 (F129 (x.1.2.2.1,())).bind fun b=>
 bif b.1 then
 (F129 (x.1.2.2.2.2.2.1,())).bind fun b=>
 bif b.1 then
 (F129 (x.1.2.2.2.2.2.2.2.1,())).bind fun b=>
 bif b.1 then
 (F129 (x.1.2.2.2.2.2.2.2.2.1,())).bind
 fun b=>
 bif b.1 then
 (F129 x.1.2.2.2.2.2.2.2.2.2).bind fun b=>
 bif b.1 then
 bif decide (x.1.2.2.2.1=[]) then
 bif decide (x.1.2.2.2.2.1=[]) then
 bif decide (x.1.2.2.2.2.2.2.1=[]) then some (true,())
 else
 (F58 (x.1.2.2.2.2.2.2.1,())).bind
 fun b=>some b
 else
 (F38 (x.1.2.2.2.2.1,())).bind fun b=>
 bif b.1 then
 bif decide (x.1.2.2.2.2.2.2.1=[]) then some (true,())
 else
 (F58 (x.1.2.2.2.2.2.2.1,())).bind
 fun b=>some b
 else some (false,())
 else
 (F38 (x.1.2.2.2.1,())).bind fun b=>
 bif b.1 then
 bif decide (x.1.2.2.2.2.1=[]) then
 bif decide (x.1.2.2.2.2.2.2.1=[]) then some (true,())
 else
 (F58 (x.1.2.2.2.2.2.2.1,())).bind
 fun b=>some b
 else
 (F38 (x.1.2.2.2.2.1,())).bind
 fun b=>
 bif b.1 then
 bif decide (x.1.2.2.2.2.2.2.1=[]) then
 some (true,())
 else
 (F58 (x.1.2.2.2.2.2.2.1,())).bind
 fun b=>some b
 else some (false,())
 else some (false,())
 else some (false,())
 else some (false,())
 else some (false,())
 else some (false,())
 else some (false,())
 else some (false,())
 else some (false,())
def S88:Sig:=⟨P88,R88,F88⟩
noncomputable def E88:Env:={ tab:=tab.opt { flats:=[(93,L93)],owns:=[87],frzs:=[89,90,91] },nt:=66,Γ:=zaj [(38,[S38]),(58,[S58]),(126,[S126]),(129,[S129])],joins:=zac [],loops:=zac [] }
theorem zrz (x:T53D×Unit):afun E88 Tryz.f88 P88 R88 x=F88 x:=by kernel_rfl
def F53 (x:TMD×Unit):Option (Bool×Unit):=
 bif decide (x.1.1 < 1) then some (false,())
 else
 bif decide (12 < x.1.1) then some (false,())
 else
 (F78 x).bind
 fun b=>
 (F77 (b.1,x)).bind fun b=>
 bif !b.1 then some (false,())
 else
 bif decide (x.1.1=1) then
 (F79 (x.1.2.2.1,())).bind fun b=>some b
 else
 (F80 (x.1.2.1,1,1099511627776,())).bind fun b=>
 bif !b.1 then some (false,())
 else
 (F80 (x.1.2.2.2.2.1,0,31,())).bind fun b=>
 bif !b.1 then some (false,())
 else
 (F80 (x.1.2.2.2.2.2.2.2.2.2.1,0,15,())).bind
 fun b=>
 bif !b.1 then some (false,())
 else
 bif decide (x.1.1=2) then
 (F81 (x.1.2.2.2.1,())).bind fun b=>some b
 else
 bif decide (x.1.1=3) then
 Option.bind
 (F82 (x.1.2.2.2.2.2.1,x.1.2.2.2.2.2.2.1,()))
 fun b=>
 bif b.1 then
 Option.bind
 (F80 (x.1.2.2.2.2.2.2.2.1,0,1099511627776,()))
 fun b=>
 bif b.1 then
 (F80 (x.1.2.2.2.2.2.2.2.2.1,0,8,())).bind
 fun b=>some b
 else some (false,())
 else some (false,())
 else
 bif decide (x.1.1=4) then
 Option.bind
 (F82 (x.1.2.2.2.2.2.1,x.1.2.2.2.2.2.2.1,()))
 fun b=>
 bif b.1 then
 Option.bind
 (F80 (x.1.2.2.2.2.2.2.2.1,1,1099511627776,()))
 fun b=>some b
 else some (false,())
 else
 bif decide (x.1.1=5) then
 (F38 (x.1.2.2.2.2.2.1,())).bind
 fun b=>
 bif b.1 then
 bif decide (x.1.2.2.2.2.2.2.1=[]) then
 Option.bind
 (F80 (x.1.2.2.2.2.2.2.2.1,1,1099511627776,()))
 fun b=>some b
 else
 (F58 (x.1.2.2.2.2.2.2.1,())).bind
 fun b=>
 bif b.1 then
 Option.bind
 (F80
 (x.1.2.2.2.2.2.2.2.1,1,1099511627776,()))
 fun b=>some b
 else some (false,())
 else some (false,())
 else
 bif decide (x.1.1=6) then
 Option.bind
 (F80 (x.1.2.2.2.2.2.2.2.1,1,1099511627776,()))
 fun b=>some b
 else
 bif decide (x.1.1=8) then
 Option.bind
 (F80 (x.1.2.2.2.2.2.2.2.2.2.2.1,-1,2,()))
 fun b=>
 bif b.1 then
 Option.bind
 (F83 (x.1.2.2.2.2.2.2.2.2.2.2.2.1,()))
 fun b=>some b
 else some (false,())
 else
 bif decide (x.1.1=9) then
 Option.bind
 (F80 (x.1.2.2.2.2.2.2.2.1,0,1099511627777,()))
 fun b=>
 bif b.1 then
 Option.bind
 (F84
 (x.1.2.2.2.2.2.2.2.2.2.2.2.2.1,()))
 fun b=>some b
 else some (false,())
 else
 bif decide (x.1.1=10) then
 Option.bind
 (F85
 (x.1.2.2.2.2.2.2.2.2.2.2.2.2.2.1,8,
 ()))
 fun b=>some b
 else
 bif decide (x.1.1=11) then
 Option.bind
 (F86
 (x.1.2.2.2.2.2.2.2.2.2.2.2.2.2.2.2.1,
 ()))
 fun b=>
 bif b.1 then some (true,())
 else
 Option.bind
 (F87
 (x.1.2.2.2.2.2.2.2.2.2.2.2.2.2.2.2.1,
 ()))
 fun b=>some b
 else
 bif decide (x.1.1=12) then
 Option.bind
 (F80
 (x.1.2.2.2.2.2.2.2.1,0,1099511627776,()))
 fun b=>
 bif b.1 then
 Option.bind
 (F88
 x.1.2.2.2.2.2.2.2.2.2.2.2.2.2.2.2.2)
 fun b=>some b
 else some (false,())
 else some (true,())
def S53:Sig:=⟨P53,R53,F53⟩
noncomputable def E53:Env:={ tab:=tab.opt { flats:=[(93,L93)],owns:=[87],frzs:=[89,90,91] },nt:=146,Γ:=zaj [(38,[S38]),(58,[S58]),(77,[S77]),(78,[S78]),(79,[S79]),(80,[S80]),(81,[S81]),(82,[S82]),(83,[S83]),(84,[S84]),(85,[S85]),(86,[S86]),(87,[S87]),(88,[S88])],joins:=zac [],loops:=zac [] }
theorem zr8 (x:TMD×Unit):afun E53 Tryz.f53 P53 R53 x=F53 x:=by kernel_rfl
def F28 (x:Y58D×TMD×Unit):Option (Y58D×Y70D×Int×Unit):=
 bif x.1.2.2.2.2.2.2.2.1 then
 some
 (x.1,
 (0,0,
 (0,0,(0,0,0,0,0,0,0,0,false,[],(0,0,[],()),()),
 (0,0,(0,[],[],[],0,0,0,[],[],[],0,0,0,false,[],[],[],()),()),0,[],[],
 0,0,0,0,(0,0,false,0,[],0,0,()),[],[],false,(0,0,[],[],()),
 (0,0,0,[],[],0,[],0,0,0,()),()),
 ()),
 7,())
 else
 bif decide (x.2.1.1 < 2) then
 some
 (x.1,
 (0,0,
 (0,0,(0,0,0,0,0,0,0,0,false,[],(0,0,[],()),()),
 (0,0,(0,[],[],[],0,0,0,[],[],[],0,0,0,false,[],[],[],()),()),0,[],
 [],0,0,0,0,(0,0,false,0,[],0,0,()),[],[],false,(0,0,[],[],()),
 (0,0,0,[],[],0,[],0,0,0,()),()),
 ()),
 1,())
 else
 bif decide (7 < x.2.1.1) then
 some
 (x.1,
 (0,0,
 (0,0,(0,0,0,0,0,0,0,0,false,[],(0,0,[],()),()),
 (0,0,(0,[],[],[],0,0,0,[],[],[],0,0,0,false,[],[],[],()),()),0,[],
 [],0,0,0,0,(0,0,false,0,[],0,0,()),[],[],false,(0,0,[],[],()),
 (0,0,0,[],[],0,[],0,0,0,()),()),
 ()),
 1,())
 else
 Option.bind
 (F53
 ((x.2.1.1,wrap64 (x.1.2.2.2.2.1+1),x.2.1.2.2),()))
 fun b=>
 bif !b.1 then
 some
 (x.1,
 (0,0,
 (0,0,(0,0,0,0,0,0,0,0,false,[],(0,0,[],()),()),
 (0,0,(0,[],[],[],0,0,0,[],[],[],0,0,0,false,[],[],[],()),()),0,
 [],[],0,0,0,0,(0,0,false,0,[],0,0,()),[],[],false,
 (0,0,[],[],()),(0,0,0,[],[],0,[],0,0,0,()),()),
 ()),
 1,())
 else
 Option.bind
 (F50
 ((x.1.1,x.1.2.1,x.1.2.2.1,x.1.2.2.2.1,
 wrap64 (x.1.2.2.2.2.1+1),x.1.2.2.2.2.2.1,0,true,
 false,(x.2.1.1,wrap64 (x.1.2.2.2.2.1+1),x.2.1.2.2),
 ()),
 ()))
 fun b=>
 some
 ((x.1.1,x.1.2.1,x.1.2.2.1,x.1.2.2.2.1,
 wrap64 (x.1.2.2.2.2.1+1),x.1.2.2.2.2.2.1,0,true,
 false,(x.2.1.1,wrap64 (x.1.2.2.2.2.1+1),x.2.1.2.2),
 ()),
 b.1,0,())
def S28:Sig:=⟨P28,R28,F28⟩
noncomputable def E28:Env:={ tab:=tab.opt { flats:=[(93,L93)],owns:=[87],frzs:=[89,90,91] },nt:=41,Γ:=zaj [(50,[S50]),(53,[S53])],joins:=zac [],loops:=zac [] }
theorem zsy (x:Y58D×TMD×Unit):afun E28 Tryz.f28 P28 R28 x=F28 x:=by kernel_rfl
def F10 (x:Y61D×Unit):Option (Y61D×List Y70D×Unit):=
 zaT
 (Int×Int×List UInt8×List UInt8×Int×((Int×Int×Int×Int×Int×Int×Int×Bool×Bool×(Int×Int×(Int×Int×Int×Int×Int×Int×Int×Int×Bool×List T25D×T25D×Unit)×(Int×Int×(Int×List UInt8×List UInt8×List UInt8×Int×Int×Int×List
 T96D×List
 T48D×List
 T48D×Int×Int×Int×Bool×List
 T70D×List
 (Int×Int×(Int×Int×Bool×Int×List
 (List UInt8×(Int×Int×Int×Int×List
 UInt8×Int×Bool×Unit)×Unit)×Y22D)×Unit)×List zai×Unit)×Unit)×Int×List UInt8×List UInt8×Int×Int×Int×Int×(Int×Int×Bool×Int×List
 T70D×Y22D)×List
 (Int×List
 T70D×Unit)×List
 T70D×Bool×(Int×Int×List
 (Int×Int×(Int×Int×Bool×Int×List
 T70D×Y22D)×Unit)×List zai×Unit)×T53D×Unit)×Unit)×(Int×Int×Int×Int×Int×Int×Int×Bool×Bool×(Int×Int×(Int×Int×Int×Int×Int×Int×Int×Int×Bool×List T25D×T25D×Unit)×(Int×Int×(Int×List UInt8×List UInt8×List UInt8×Int×Int×Int×List
 T96D×List
 T48D×List
 T48D×Int×Int×Int×Bool×List
 T70D×List
 (Int×Int×(Int×Int×Bool×Int×List
 (List UInt8×(Int×Int×Int×Int×List
 UInt8×Int×Bool×Unit)×Unit)×Y22D)×Unit)×List zai×Unit)×Unit)×Int×List UInt8×List UInt8×Int×Int×Int×Int×(Int×Int×Bool×Int×List
 T70D×Y22D)×List
 (Int×List
 T70D×Unit)×List
 T70D×Bool×(Int×Int×List
 (Int×Int×(Int×Int×Bool×Int×List
 (List UInt8×(Int×Int×Int×Int×List
 UInt8×Int×Bool×Unit)×Unit)×Y22D)×Unit)×List zai×Unit)×T53D×Unit)×Unit)×Unit)×(Int×Int×(Int×Int×Int×Int×Int×Int×Int×Int×Bool×List T25D×T25D×Unit)×(Int×Int×(Int×List UInt8×List UInt8×List UInt8×Int×Int×Int×List T96D×List T48D×List T48D×Int×Int×Int×Bool×List
 T70D×List
 (Int×Int×(Int×Int×Bool×Int×List
 T70D×Y22D)×Unit)×List zai×Unit)×Unit)×Int×List UInt8×List UInt8×Int×Int×Int×Int×(Int×Int×Bool×Int×List
 T70D×Y22D)×List
 (Int×List
 T70D×Unit)×List
 T70D×Bool×(Int×Int×List
 (Int×Int×(Int×Int×Bool×Int×List
 T70D×Y22D)×Unit)×List zai×Unit)×T53D×Unit)×Bool×T53D×Int×Bool×Bool×List T70D×Bool×List T70D×Int×Bool×Bool×Bool×(Int×Int×List
 (Int×Int×(Int×Int×Bool×Int×List
 T70D×Y22D)×Unit)×List zai×Unit)×Bool×((Int×Int×Int×Int×Int×Int×Int×Bool×Bool×(Int×Int×(Int×Int×Int×Int×Int×Int×Int×Int×Bool×List
 T25D×T25D×Unit)×(Int×Int×(Int×List UInt8×List UInt8×List UInt8×Int×Int×Int×List
 (List UInt8×Int×Int×Int×List
 UInt8×Unit)×List
 (Int×List UInt8×List UInt8×List
 UInt8×Int×Unit)×List
 (Int×List UInt8×List
 UInt8×List
 UInt8×Int×Unit)×Int×Int×Int×Bool×List
 (List
 UInt8×(Int×Int×Int×Int×List
 UInt8×Int×Bool×Unit)×Unit)×List
 (Int×Int×(Int×Int×Bool×Int×List
 (List
 UInt8×(Int×Int×Int×Int×List
 UInt8×Int×Bool×Unit)×Unit)×Y22D)×Unit)×List
 zai×Unit)×Unit)×Int×List UInt8×List UInt8×Int×Int×Int×Int×(Int×Int×Bool×Int×List
 (List UInt8×(Int×Int×Int×Int×List
 UInt8×Int×Bool×Unit)×Unit)×Y22D)×List
 (Int×List
 (List UInt8×(Int×Int×Int×Int×List
 UInt8×Int×Bool×Unit)×Unit)×Unit)×List
 (List UInt8×(Int×Int×Int×Int×List
 UInt8×Int×Bool×Unit)×Unit)×Bool×(Int×Int×List
 (Int×Int×(Int×Int×Bool×Int×List
 (List
 UInt8×(Int×Int×Int×Int×List
 UInt8×Int×Bool×Unit)×Unit)×Y22D)×Unit)×List
 zai×Unit)×(Int×Int×Int×List
 UInt8×List
 UInt8×Int×List
 UInt8×zai)×Unit)×Unit)×(Int×Int×Int×Int×Int×Int×Int×Bool×Bool×(Int×Int×(Int×Int×Int×Int×Int×Int×Int×Int×Bool×List
 T25D×T25D×Unit)×(Int×Int×(Int×List UInt8×List UInt8×List UInt8×Int×Int×Int×List
 (List UInt8×Int×Int×Int×List
 UInt8×Unit)×List
 (Int×List UInt8×List
 UInt8×List
 UInt8×Int×Unit)×List
 (Int×List
 UInt8×List
 UInt8×List
 UInt8×Int×Unit)×Int×Int×Int×Bool×List
 (List
 UInt8×(Int×Int×Int×Int×List
 UInt8×Int×Bool×Unit)×Unit)×List
 (Int×Int×(Int×Int×Bool×Int×List
 (List
 UInt8×(Int×Int×Int×Int×List
 UInt8×Int×Bool×Unit)×Unit)×Y22D)×Unit)×List
 zai×Unit)×Unit)×Int×List UInt8×List UInt8×Int×Int×Int×Int×(Int×Int×Bool×Int×List
 (List
 UInt8×(Int×Int×Int×Int×List
 UInt8×Int×Bool×Unit)×Unit)×Y22D)×List
 (Int×List
 (List UInt8×(Int×Int×Int×Int×List
 UInt8×Int×Bool×Unit)×Unit)×Unit)×List
 (List UInt8×(Int×Int×Int×Int×List
 UInt8×Int×Bool×Unit)×Unit)×Bool×(Int×Int×List
 (Int×Int×(Int×Int×Bool×Int×List
 (List
 UInt8×(Int×Int×Int×Int×List
 UInt8×Int×Bool×Unit)×Unit)×Y22D)×Unit)×List
 zai×Unit)×(Int×Int×Int×List
 UInt8×List
 UInt8×Int×List
 UInt8×zai)×Unit)×Unit)×Unit)×Unit)
 ((Int×List UInt8×List UInt8×Int×((Int×Int×Int×Int×Int×Int×Int×Bool×Bool×(Int×Int×(Int×Int×Int×Int×Int×Int×Int×Int×Bool×List T25D×T25D×Unit)×(Int×Int×(Int×List UInt8×List UInt8×List UInt8×Int×Int×Int×List
 T96D×List
 T48D×List
 T48D×Int×Int×Int×Bool×List
 T70D×List
 (Int×Int×(Int×Int×Bool×Int×List
 (List UInt8×(Int×Int×Int×Int×List
 UInt8×Int×Bool×Unit)×Unit)×Y22D)×Unit)×List zai×Unit)×Unit)×Int×List UInt8×List UInt8×Int×Int×Int×Int×(Int×Int×Bool×Int×List
 T70D×Y22D)×List
 (Int×List
 T70D×Unit)×List
 T70D×Bool×(Int×Int×List
 (Int×Int×(Int×Int×Bool×Int×List
 T70D×Y22D)×Unit)×List zai×Unit)×T53D×Unit)×Unit)×(Int×Int×Int×Int×Int×Int×Int×Bool×Bool×(Int×Int×(Int×Int×Int×Int×Int×Int×Int×Int×Bool×List T25D×T25D×Unit)×(Int×Int×(Int×List UInt8×List UInt8×List UInt8×Int×Int×Int×List
 T96D×List
 T48D×List
 T48D×Int×Int×Int×Bool×List
 T70D×List
 (Int×Int×(Int×Int×Bool×Int×List
 (List UInt8×(Int×Int×Int×Int×List
 UInt8×Int×Bool×Unit)×Unit)×Y22D)×Unit)×List zai×Unit)×Unit)×Int×List UInt8×List UInt8×Int×Int×Int×Int×(Int×Int×Bool×Int×List
 T70D×Y22D)×List
 (Int×List
 T70D×Unit)×List
 T70D×Bool×(Int×Int×List
 (Int×Int×(Int×Int×Bool×Int×List
 (List UInt8×(Int×Int×Int×Int×List
 UInt8×Int×Bool×Unit)×Unit)×Y22D)×Unit)×List zai×Unit)×T53D×Unit)×Unit)×Unit)×(Int×Int×(Int×Int×Int×Int×Int×Int×Int×Int×Bool×List T25D×T25D×Unit)×(Int×Int×(Int×List UInt8×List UInt8×List UInt8×Int×Int×Int×List T96D×List T48D×List T48D×Int×Int×Int×Bool×List
 T70D×List
 (Int×Int×(Int×Int×Bool×Int×List
 T70D×Y22D)×Unit)×List zai×Unit)×Unit)×Int×List UInt8×List UInt8×Int×Int×Int×Int×(Int×Int×Bool×Int×List
 T70D×Y22D)×List
 (Int×List
 T70D×Unit)×List
 T70D×Bool×(Int×Int×List
 (Int×Int×(Int×Int×Bool×Int×List
 T70D×Y22D)×Unit)×List zai×Unit)×T53D×Unit)×Bool×T53D×Int×Bool×Bool×List T70D×Bool×List T70D×Int×Bool×Bool×Bool×(Int×Int×List
 (Int×Int×(Int×Int×Bool×Int×List
 T70D×Y22D)×Unit)×List zai×Unit)×Bool×Unit)×List
 (Int×Int×(Int×Int×(Int×Int×Int×Int×Int×Int×Int×Int×Bool×List T25D×T25D×Unit)×(Int×Int×(Int×List UInt8×List UInt8×List UInt8×Int×Int×Int×List T96D×List T48D×List T48D×Int×Int×Int×Bool×List
 T70D×List
 (Int×Int×(Int×Int×Bool×Int×List
 T70D×Y22D)×Unit)×List zai×Unit)×Unit)×Int×List UInt8×List UInt8×Int×Int×Int×Int×(Int×Int×Bool×Int×List
 T70D×Y22D)×List
 (Int×List
 T70D×Unit)×List
 T70D×Bool×(Int×Int×List
 (Int×Int×(Int×Int×Bool×Int×List
 T70D×Y22D)×Unit)×List zai×Unit)×T53D×Unit)×Unit)×Unit)
 (fun (x_1 :
 Int×Int×List UInt8×List UInt8×Int×((Int×Int×Int×Int×Int×Int×Int×Bool×Bool×(Int×Int×(Int×Int×Int×Int×Int×Int×Int×Int×Bool×List T25D×T25D×Unit)×(Int×Int×(Int×List UInt8×List UInt8×List UInt8×Int×Int×Int×List
 T96D×List
 T48D×List
 T48D×Int×Int×Int×Bool×List
 T70D×List
 (Int×Int×(Int×Int×Bool×Int×List
 (List
 UInt8×(Int×Int×Int×Int×List
 UInt8×Int×Bool×Unit)×Unit)×Y22D)×Unit)×List
 zai×Unit)×Unit)×Int×List UInt8×List UInt8×Int×Int×Int×Int×(Int×Int×Bool×Int×List
 T70D×Y22D)×List
 (Int×List
 T70D×Unit)×List
 T70D×Bool×(Int×Int×List
 (Int×Int×(Int×Int×Bool×Int×List
 (List UInt8×(Int×Int×Int×Int×List
 UInt8×Int×Bool×Unit)×Unit)×Y22D)×Unit)×List zai×Unit)×T53D×Unit)×Unit)×(Int×Int×Int×Int×Int×Int×Int×Bool×Bool×(Int×Int×(Int×Int×Int×Int×Int×Int×Int×Int×Bool×List T25D×T25D×Unit)×(Int×Int×(Int×List UInt8×List UInt8×List UInt8×Int×Int×Int×List
 T96D×List
 T48D×List
 T48D×Int×Int×Int×Bool×List
 T70D×List
 (Int×Int×(Int×Int×Bool×Int×List
 (List
 UInt8×(Int×Int×Int×Int×List
 UInt8×Int×Bool×Unit)×Unit)×Y22D)×Unit)×List
 zai×Unit)×Unit)×Int×List UInt8×List UInt8×Int×Int×Int×Int×(Int×Int×Bool×Int×List
 T70D×Y22D)×List
 (Int×List
 T70D×Unit)×List
 T70D×Bool×(Int×Int×List
 (Int×Int×(Int×Int×Bool×Int×List
 (List UInt8×(Int×Int×Int×Int×List
 UInt8×Int×Bool×Unit)×Unit)×Y22D)×Unit)×List zai×Unit)×T53D×Unit)×Unit)×Unit)×(Int×Int×(Int×Int×Int×Int×Int×Int×Int×Int×Bool×List T25D×T25D×Unit)×(Int×Int×(Int×List UInt8×List UInt8×List UInt8×Int×Int×Int×List T96D×List T48D×List
 T48D×Int×Int×Int×Bool×List
 T70D×List
 (Int×Int×(Int×Int×Bool×Int×List
 T70D×Y22D)×Unit)×List zai×Unit)×Unit)×Int×List UInt8×List UInt8×Int×Int×Int×Int×(Int×Int×Bool×Int×List
 T70D×Y22D)×List
 (Int×List
 T70D×Unit)×List
 T70D×Bool×(Int×Int×List
 (Int×Int×(Int×Int×Bool×Int×List
 T70D×Y22D)×Unit)×List zai×Unit)×T53D×Unit)×Bool×T53D×Int×Bool×Bool×List
 T70D×Bool×List
 T70D×Int×Bool×Bool×Bool×(Int×Int×List
 (Int×Int×(Int×Int×Bool×Int×List
 T70D×Y22D)×Unit)×List zai×Unit)×Bool×((Int×Int×Int×Int×Int×Int×Int×Bool×Bool×(Int×Int×(Int×Int×Int×Int×Int×Int×Int×Int×Bool×List
 T25D×T25D×Unit)×(Int×Int×(Int×List UInt8×List UInt8×List UInt8×Int×Int×Int×List
 (List
 UInt8×Int×Int×Int×List
 UInt8×Unit)×List
 (Int×List
 UInt8×List
 UInt8×List
 UInt8×Int×Unit)×List
 (Int×List
 UInt8×List
 UInt8×List
 UInt8×Int×Unit)×Int×Int×Int×Bool×List
 (List
 UInt8×(Int×Int×Int×Int×List
 UInt8×Int×Bool×Unit)×Unit)×List
 (Int×Int×(Int×Int×Bool×Int×List
 (List
 UInt8×(Int×Int×Int×Int×List
 UInt8×Int×Bool×Unit)×Unit)×Y22D)×Unit)×List
 zai×Unit)×Unit)×Int×List UInt8×List UInt8×Int×Int×Int×Int×(Int×Int×Bool×Int×List
 (List
 UInt8×(Int×Int×Int×Int×List
 UInt8×Int×Bool×Unit)×Unit)×Y22D)×List
 (Int×List
 (List
 UInt8×(Int×Int×Int×Int×List
 UInt8×Int×Bool×Unit)×Unit)×Unit)×List
 (List UInt8×(Int×Int×Int×Int×List
 UInt8×Int×Bool×Unit)×Unit)×Bool×(Int×Int×List
 (Int×Int×(Int×Int×Bool×Int×List
 (List
 UInt8×(Int×Int×Int×Int×List
 UInt8×Int×Bool×Unit)×Unit)×Y22D)×Unit)×List
 zai×Unit)×(Int×Int×Int×List
 UInt8×List
 UInt8×Int×List
 UInt8×zai)×Unit)×Unit)×(Int×Int×Int×Int×Int×Int×Int×Bool×Bool×(Int×Int×(Int×Int×Int×Int×Int×Int×Int×Int×Bool×List
 (Int×Int×List
 UInt8×Unit)×(Int×Int×List
 UInt8×Unit)×Unit)×(Int×Int×(Int×List UInt8×List UInt8×List UInt8×Int×Int×Int×List
 (List
 UInt8×Int×Int×Int×List
 UInt8×Unit)×List
 (Int×List
 UInt8×List
 UInt8×List
 UInt8×Int×Unit)×List
 (Int×List
 UInt8×List
 UInt8×List
 UInt8×Int×Unit)×Int×Int×Int×Bool×List
 (List
 UInt8×(Int×Int×Int×Int×List
 UInt8×Int×Bool×Unit)×Unit)×List
 (Int×Int×(Int×Int×Bool×Int×List
 (List
 UInt8×(Int×Int×Int×Int×List
 UInt8×Int×Bool×Unit)×Unit)×Y22D)×Unit)×List
 zai×Unit)×Unit)×Int×List UInt8×List UInt8×Int×Int×Int×Int×(Int×Int×Bool×Int×List
 (List
 UInt8×(Int×Int×Int×Int×List
 UInt8×Int×Bool×Unit)×Unit)×Y22D)×List
 (Int×List
 (List
 UInt8×(Int×Int×Int×Int×List
 UInt8×Int×Bool×Unit)×Unit)×Unit)×List
 (List
 UInt8×(Int×Int×Int×Int×List
 UInt8×Int×Bool×Unit)×Unit)×Bool×(Int×Int×List
 (Int×Int×(Int×Int×Bool×Int×List
 (List
 UInt8×(Int×Int×Int×Int×List
 UInt8×Int×Bool×Unit)×Unit)×Y22D)×Unit)×List
 zai×Unit)×(Int×Int×Int×List
 UInt8×List
 UInt8×Int×List
 UInt8×zai)×Unit)×Unit)×Unit)×Unit)=>
 bif decide (x_1.1 < 2) then
 Option.bind (idxK 2 x_1.1) fun b=>
 Option.bind
 (bif Nat.beq b 0 then
 some
 x_1.2.2.2.2.2.2.2.2.2.2.2.2.2.2.2.2.2.2.2.2.2.1.1.2.2.2.2.2.2.2.1
 else
 bif Nat.beq b (0+1) then
 some
 x_1.2.2.2.2.2.2.2.2.2.2.2.2.2.2.2.2.2.2.2.2.2.1.2.1.2.2.2.2.2.2.2.1
 else none)
 fun b=>
 bif b then
 Option.bind (idxK 2 x_1.1) fun b=>
 Option.bind
 (bif Nat.beq b 0 then
 some x_1.2.2.2.2.2.2.2.2.2.2.2.2.2.2.2.2.2.2.2.2.2.1.1
 else
 bif Nat.beq b (0+1) then
 some
 x_1.2.2.2.2.2.2.2.2.2.2.2.2.2.2.2.2.2.2.2.2.2.1.2.1
 else none)
 fun b=>
 (F26 (b,())).bind
 fun b=>
 Option.bind (idxK 2 x_1.1) fun b_1=>
 Option.bind
 (bif Nat.beq b_1 0 then
 some
 (b.1,
 x_1.2.2.2.2.2.2.2.2.2.2.2.2.2.2.2.2.2.2.2.2.2.1.2)
 else
 bif Nat.beq b_1 (0+1) then
 some
 (x_1.2.2.2.2.2.2.2.2.2.2.2.2.2.2.2.2.2.2.2.2.2.1.1,
 b.1,
 x_1.2.2.2.2.2.2.2.2.2.2.2.2.2.2.2.2.2.2.2.2.2.1.2.2)
 else none)
 fun b_2=>
 some
 (Sum.inr
 ((x.1.1,x.1.2.1,x.1.2.2.1,x.1.2.2.2.1,b_2,
 x.1.2.2.2.2.2),
 b.2))
 else some (Sum.inl (wrap64 (x_1.1+1),x_1.2))
 else
 Option.map Sum.inr
 (Option.bind
 (F27
 ((x.1.1,x.1.2.1,x.1.2.2.1,x.1.2.2.2.1,
 x_1.2.2.2.2.2.2.2.2.2.2.2.2.2.2.2.2.2.2.2.2.2.1,
 x.1.2.2.2.2.2),
 ()))
 fun b=>
 bif decide (b.1.1=0) then
 some
 ((x.1.1,x.1.2.1,x.1.2.2.1,x.1.2.2.2.1,
 x_1.2.2.2.2.2.2.2.2.2.2.2.2.2.2.2.2.2.2.2.2.2.1,
 x.1.2.2.2.2.2),
 [],())
 else
 Option.bind (idxK 2 b.2.1) fun b_1=>
 Option.bind
 (bif Nat.beq b_1 0 then
 some x_1.2.2.2.2.2.2.2.2.2.2.2.2.2.2.2.2.2.2.2.2.2.1.1
 else
 bif Nat.beq b_1 (0+1) then
 some
 x_1.2.2.2.2.2.2.2.2.2.2.2.2.2.2.2.2.2.2.2.2.2.1.2.1
 else none)
 fun b_2=>
 (F28 (b_2,b.1,())).bind
 fun b_3=>
 bif !decide (b_3.2.2.1=0) then
 some
 ((x.1.1,x.1.2.1,x.1.2.2.1,x.1.2.2.2.1,
 x_1.2.2.2.2.2.2.2.2.2.2.2.2.2.2.2.2.2.2.2.2.2.1,
 x.1.2.2.2.2.2),
 [],())
 else
 Option.bind (idxK 2 b.2.1) fun b_4=>
 Option.bind
 (bif Nat.beq b_4 0 then
 some
 (b_3.1,
 x_1.2.2.2.2.2.2.2.2.2.2.2.2.2.2.2.2.2.2.2.2.2.1.2)
 else
 bif Nat.beq b_4 (0+1) then
 some
 (x_1.2.2.2.2.2.2.2.2.2.2.2.2.2.2.2.2.2.2.2.2.2.1.1,
 b_3.1,
 x_1.2.2.2.2.2.2.2.2.2.2.2.2.2.2.2.2.2.2.2.2.2.1.2.2)
 else none)
 fun b_5=>
 some
 ((x.1.1,x.1.2.1,x.1.2.2.1,x.1.2.2.2.1,b_5,b.1,
 x.1.2.2.2.2.2.2),
 [b_3.2.1],())))
 big
 (0,0,[],[],0,
 ((0,0,0,0,0,0,0,false,false,
 (0,0,(0,0,0,0,0,0,0,0,false,[],(0,0,[],()),()),
 (0,0,(0,[],[],[],0,0,0,[],[],[],0,0,0,false,[],[],[],()),()),0,[],[],
 0,0,0,0,(0,0,false,0,[],0,0,()),[],[],false,(0,0,[],[],()),
 (0,0,0,[],[],0,[],0,0,0,()),()),
 ()),
 (0,0,0,0,0,0,0,false,false,
 (0,0,(0,0,0,0,0,0,0,0,false,[],(0,0,[],()),()),
 (0,0,(0,[],[],[],0,0,0,[],[],[],0,0,0,false,[],[],[],()),()),0,[],[],
 0,0,0,0,(0,0,false,0,[],0,0,()),[],[],false,(0,0,[],[],()),
 (0,0,0,[],[],0,[],0,0,0,()),()),
 ()),
 ()),
 (0,0,(0,0,0,0,0,0,0,0,false,[],(0,0,[],()),()),
 (0,0,(0,[],[],[],0,0,0,[],[],[],0,0,0,false,[],[],[],()),()),0,[],[],0,
 0,0,0,(0,0,false,0,[],0,0,()),[],[],false,(0,0,[],[],()),
 (0,0,0,[],[],0,[],0,0,0,()),()),
 false,(0,0,0,[],[],0,[],0,0,0,()),0,false,false,[],false,[],0,false,false,false,
 (0,0,[],[],()),false,x.1.2.2.2.2.1,())
def S10:Sig:=⟨P10,R10,F10⟩
noncomputable def E10:Env:={ tab:=tab.opt { flats:=[(93,L93)],owns:=[87],frzs:=[89,90,91] },nt:=66,Γ:=zaj [(26,[S26]),(27,[S27]),(28,[S28])],joins:=zac [],loops:=zac [(2,zaI ⟨[⟨.slot 12,(.int .i64),.pv⟩,⟨.fld 2000 0,(.int .i64),.pv⟩,⟨.fld 2000 1,.str,.pv⟩,⟨.fld 2000 2,.str,.pv⟩,⟨.fld 2000 3,(.int .i64),.pv⟩,⟨.fld 2000 4,Y59,.pv⟩,⟨.fld 2000 5,TM,.pv⟩,⟨.fld 2000 6,.bool,.pv⟩,⟨.fld 2000 7,T53,.pv⟩,⟨.fld 2000 8,(.int .i64),.pv⟩,⟨.fld 2000 9,.bool,.pv⟩,⟨.fld 2000 10,.bool,.pv⟩,⟨.fld 2000 11,(.slice T70),.own false⟩,⟨.fld 2000 12,.bool,.pv⟩,⟨.fld 2000 13,(.slice T70),.own false⟩,⟨.fld 2000 14,(.int .i64),.pv⟩,⟨.fld 2000 15,.bool,.pv⟩,⟨.fld 2000 16,.bool,.pv⟩,⟨.fld 2000 17,.bool,.pv⟩,⟨.fld 2000 18,T55,.pv⟩,⟨.fld 2000 19,.bool,.pv⟩,⟨.fld 1000 4,Y59,.pv⟩],[1,2],[.site 2000,.site 1000]++hL (.fld 1000) 0 4++hL (.fld 1000) 5 15⟩)] }
theorem zsQ (x:Y61D×Unit):afun E10 Tryz.f10 P10 R10 x=F10 x:=by kernel_rfl
def F11 (x:Y61D×Y64D×Unit):Option (Y64D×Unit):=
 zaT
 (Int×Int×(Int×Int×(Int×Int×Int×Int×Int×Int×Int×Int×Bool×List T25D×T25D×Unit)×(Int×Int×(Int×List UInt8×List UInt8×List UInt8×Int×Int×Int×List T96D×List T48D×List T48D×Int×Int×Int×Bool×List
 T70D×List
 (Int×Int×(Int×Int×Bool×Int×List
 T70D×Y22D)×Unit)×List zai×Unit)×Unit)×Int×List UInt8×List UInt8×Int×Int×Int×Int×(Int×Int×Bool×Int×List
 T70D×Y22D)×List
 (Int×List
 T70D×Unit)×List
 T70D×Bool×(Int×Int×List
 (Int×Int×(Int×Int×Bool×Int×List
 T70D×Y22D)×Unit)×List zai×Unit)×T53D×Unit)×Unit)
 ((UInt8×Int×Int×(Int×Int×(Int×Int×Int×Int×Int×Int×Int×Int×Bool×List T25D×T25D×Unit)×(Int×Int×(Int×List UInt8×List UInt8×List UInt8×Int×Int×Int×List T96D×List T48D×List T48D×Int×Int×Int×Bool×List
 T70D×List
 (Int×Int×(Int×Int×Bool×Int×List
 T70D×Y22D)×Unit)×List zai×Unit)×Unit)×Int×List UInt8×List UInt8×Int×Int×Int×Int×(Int×Int×Bool×Int×List
 T70D×Y22D)×List
 (Int×List
 T70D×Unit)×List
 T70D×Bool×(Int×Int×List
 (Int×Int×(Int×Int×Bool×Int×List
 T70D×Y22D)×Unit)×List zai×Unit)×T53D×Unit)×Unit)×Unit)
 (fun (x_1 :
 Int×Int×(Int×Int×(Int×Int×Int×Int×Int×Int×Int×Int×Bool×List T25D×T25D×Unit)×(Int×Int×(Int×List UInt8×List UInt8×List UInt8×Int×Int×Int×List T96D×List T48D×List T48D×Int×Int×Int×Bool×List
 T70D×List
 (Int×Int×(Int×Int×Bool×Int×List
 T70D×Y22D)×Unit)×List zai×Unit)×Unit)×Int×List UInt8×List UInt8×Int×Int×Int×Int×(Int×Int×Bool×Int×List
 T70D×Y22D)×List
 (Int×List
 T70D×Unit)×List
 T70D×Bool×(Int×Int×List
 (Int×Int×(Int×Int×Bool×Int×List
 T70D×Y22D)×Unit)×List zai×Unit)×T53D×Unit)×Unit)=>
 bif decide (x_1.1 < 2) then
 Option.bind (idxK 2 x_1.1) fun b=>
 Option.bind
 (bif Nat.beq b 0 then some x.1.2.2.2.2.1.1
 else bif Nat.beq b (0+1) then some x.1.2.2.2.2.1.2.1 else none)
 fun b=>
 bif b.2.2.2.2.2.2.2.1 then
 some
 (Sum.inl
 (wrap64 (x_1.1+1),
 wrap64 (wrap64 (4*b.2.1)+b.2.2.2.2.2.1),
 (x_1.2.2.1.1,b.2.2.2.2.1,x_1.2.2.1.2.2),()))
 else some (Sum.inl (wrap64 (x_1.1+1),x_1.2))
 else some (Sum.inr ((x.2.1.1,x_1.2.1,x.2.1.2.2.1,x_1.2.2),())))
 big (0,x.2.1.2.1,x.2.1.2.2.2)
def S11:Sig:=⟨P11,R11,F11⟩
noncomputable def E11:Env:={ tab:=tab.opt { flats:=[(93,L93)],owns:=[87],frzs:=[89,90,91] },nt:=29,Γ:=zaj [],joins:=zac [],loops:=zac [(2,zaI ⟨[⟨.slot 7,(.int .i64),.pv⟩,⟨.fld 2000 1,(.int .i64),.pv⟩,⟨.fld 2000 3,TM,.pv⟩],[2,3,4],[.site 3000]++hL (.fld 3000) 0 4++[.site 2000,.fld 2000 0,.fld 2000 2,.site 1000]++hL (.fld 1000) 0 20⟩)] }
theorem zsP (x:Y61D×Y64D×Unit):afun E11 Tryz.f11 P11 R11 x=F11 x:=by kernel_rfl
def F29 (x:zdN×Int×TMD×Unit):Option (TMD×Bool×zdN×Unit):=
 bif !x.1.2.2.2.2.2.2.2.1 then
 some
 ((0,0,(0,0,0,0,0,0,0,0,false,[],(0,0,[],()),()),
 (0,0,(0,[],[],[],0,0,0,[],[],[],0,0,0,false,[],[],[],()),()),0,[],[],
 0,0,0,0,(0,0,false,0,[],0,0,()),[],[],false,(0,0,[],[],()),
 (0,0,0,[],[],0,[],0,0,0,()),()),
 false,x.1,())
 else
 bif decide (x.2.1 < wrap64 (4*x.1.2.1)) then
 some
 ((0,0,(0,0,0,0,0,0,0,0,false,[],(0,0,[],()),()),
 (0,0,(0,[],[],[],0,0,0,[],[],[],0,0,0,false,[],[],[],()),()),0,[],[],
 0,0,0,0,(0,0,false,0,[],0,0,()),[],[],false,(0,0,[],[],()),
 (0,0,0,[],[],0,[],0,0,0,()),()),
 false,x.1,())
 else
 bif
 decide
 (wrap64 (wrap64 (4*x.1.2.1)+x.1.2.2.1)≤
 x.2.1) then
 some
 ((0,0,(0,0,0,0,0,0,0,0,false,[],(0,0,[],()),()),
 (0,0,(0,[],[],[],0,0,0,[],[],[],0,0,0,false,[],[],[],()),()),0,[],
 [],0,0,0,0,(0,0,false,0,[],0,0,()),[],[],false,(0,0,[],[],()),
 (0,0,0,[],[],0,[],0,0,0,()),()),
 false,x.1,())
 else
 bif !decide (x.2.2.1.2.1=x.1.2.2.2.2.1) then
 some
 ((0,0,(0,0,0,0,0,0,0,0,false,[],(0,0,[],()),()),
 (0,0,(0,[],[],[],0,0,0,[],[],[],0,0,0,false,[],[],[],()),()),0,[],
 [],0,0,0,0,(0,0,false,0,[],0,0,()),[],[],false,(0,0,[],[],()),
 (0,0,0,[],[],0,[],0,0,0,()),()),
 false,x.1,())
 else
 (F47 (x.1.2.2.2.2.2.2.2.2.1.1,())).bind fun b=>
 bif !decide (x.2.2.1.1=b.1) then
 some
 ((0,0,(0,0,0,0,0,0,0,0,false,[],(0,0,[],()),()),
 (0,0,(0,[],[],[],0,0,0,[],[],[],0,0,0,false,[],[],[],()),()),0,
 [],[],0,0,0,0,(0,0,false,0,[],0,0,()),[],[],false,
 (0,0,[],[],()),(0,0,0,[],[],0,[],0,0,0,()),()),
 false,x.1,())
 else
 (F48 x.2.2).bind fun b=>
 bif !b.1 then
 some
 ((0,0,(0,0,0,0,0,0,0,0,false,[],(0,0,[],()),()),
 (0,0,(0,[],[],[],0,0,0,[],[],[],0,0,0,false,[],[],[],()),
 ()),
 0,[],[],0,0,0,0,(0,0,false,0,[],0,0,()),[],[],false,
 (0,0,[],[],()),(0,0,0,[],[],0,[],0,0,0,()),()),
 false,x.1,())
 else
 bif decide (x.2.2.1.1=8) then
 bif decide (x.2.2.1.2.2.2.2.2.2.2.2.2.1=14) then
 Option.bind
 (remO (wrap64 (x.1.2.2.2.2.2.1+1)) x.1.2.2.1)
 fun b=>
 Option.bind
 (bif decide (0≤x.2.2.1.2.2.2.2.2.2.2.2.2.2.1) then
 bif
 decide
 (x.2.2.1.2.2.2.2.2.2.2.2.2.2.1 < x.1.2.2.1) then
 some (Sum.inl (x.2.2.1.2.2.2.2.2.2.2.2.2.2.1,()))
 else some (Sum.inl (b,()))
 else some (Sum.inl (b,())))
 fun o=>
 Sum.elim
 (fun (x_1:Int×Unit)=>
 some
 ((0,0,(0,0,0,0,0,0,0,0,false,[],(0,0,[],()),()),
 (0,0,(0,[],[],[],0,0,0,[],[],[],0,0,0,false,[],[],[],()),
 ()),
 0,[],[],0,0,0,0,(0,0,false,0,[],0,0,()),[],[],false,
 (0,0,[],[],()),(0,0,0,[],[],0,[],0,0,0,()),
 ()),
 false,
 (x.1.1,x.1.2.1,x.1.2.2.1,x.1.2.2.2.1,
 x.1.2.2.2.2.1,x_1.1,x.1.2.2.2.1,
 x.1.2.2.2.2.2.2.2),
 ()))
 some o
 else
 (F49 x.2.2).bind
 fun b=>
 some
 (b.1,true,
 (x.1.1,x.1.2.1,x.1.2.2.1,x.1.2.2.2.1,
 x.1.2.2.2.2.1,x.1.2.2.2.2.2.1,
 x.1.2.2.2.2.2.2.1,false,x.1.2.2.2.2.2.2.2.2),
 ())
 else
 (F49 x.2.2).bind
 fun b=>
 some
 (b.1,true,
 (x.1.1,x.1.2.1,x.1.2.2.1,x.1.2.2.2.1,
 x.1.2.2.2.2.1,x.1.2.2.2.2.2.1,x.1.2.2.2.2.2.2.1,
 false,x.1.2.2.2.2.2.2.2.2),
 ())
def S29:Sig:=⟨P29,R29,F29⟩
noncomputable def E29:Env:={ tab:=tab.opt { flats:=[(93,L93)],owns:=[87],frzs:=[89,90,91] },nt:=117,Γ:=zaj [(47,[S47]),(48,[S48]),(49,[S49])],joins:=zac [(7,⟨[⟨.fld 0 5,(.int .i64),.pv⟩],[0,6],[.site 0]++hL (.fld 0) 0 5++[.fld 0 6,.fld 0 7,.fld 0 8,.site 2000]++hL (.fld 2000) 0 17⟩)],loops:=zac [] }
theorem zsx (x:zdN×Int×TMD×Unit):afun E29 Tryz.f29 P29 R29 x=F29 x:=by kernel_rfl
def F30 (x:L93D×TMD×Unit):Option (L93D×Unit):=
 bif decide (x.2.1.1=12) then
 some
 ((x.1.1,x.1.2.1,x.1.2.2.1,x.1.2.2.2.1,x.1.2.2.2.2.1,true,
 x.2.1.2.2.2.2.2.2.2.2.2.2.2.2.2.2.2.2.1,
 x.1.2.2.2.2.2.2.2.1,[],[],x.1.2.2.2.2.2.2.2.2.2.2),
 ())
 else
 bif decide (x.1.2.2.2.2.1.2.2.2.1.2.2.1.1=12) then
 some
 ((x.1.1,x.1.2.1,x.1.2.2.1,x.1.2.2.2.1,x.1.2.2.2.2.1,false,
 x.1.2.2.2.2.2.2.1,0,[],[],false,x.1.2.2.2.2.2.2.2.2.2.2.2),
 ())
 else
 some
 ((x.1.1,x.1.2.1,x.1.2.2.1,x.1.2.2.2.1,x.1.2.2.2.2.1,false,
 x.1.2.2.2.2.2.2.1,x.1.2.2.2.2.2.2.2.1,[],[],
 x.1.2.2.2.2.2.2.2.2.2.2),
 ())
def S30:Sig:=⟨P30,R30,F30⟩
noncomputable def E30:Env:={ tab:=tab.opt { flats:=[(93,L93)],owns:=[87],frzs:=[89,90,91] },nt:=38,Γ:=zaj [],joins:=zac [],loops:=zac [] }
theorem zsw (x:L93D×TMD×Unit):afun E30 Tryz.f30 P30 R30 x=F30 x:=by kernel_rfl
def F54 (x:L93D×TMD×Unit):Option (L93D×Unit):=
 Option.bind
 (zaT (Int×List T70D×Int×Unit)
 (List T70D×Int×Unit⊕(Y24D×Int×List
 (Int×Int×Int×Int×Int×Int×Int×Bool×(Int×Int×(Int×Int×Int×Int×Int×Int×Int×Int×Bool×List T25D×T25D×Unit)×(Int×Int×(Int×List UInt8×List UInt8×List UInt8×Int×Int×Int×List
 T96D×List
 T48D×List
 T48D×Int×Int×Int×Bool×List
 T70D×List
 (Int×Int×(Int×Int×Bool×Int×List
 (List UInt8×(Int×Int×Int×Int×List
 UInt8×Int×Bool×Unit)×Unit)×Y22D)×Unit)×List zai×Unit)×Unit)×Int×List UInt8×List UInt8×Int×Int×Int×Int×(Int×Int×Bool×Int×List
 T70D×Y22D)×List
 (Int×List
 T70D×Unit)×List
 T70D×Bool×(Int×Int×List
 (Int×Int×(Int×Int×Bool×Int×List
 T70D×Y22D)×Unit)×List zai×Unit)×T53D×Unit)×Unit)×List
 (Int×Int×Int×Int×Int×Int×Int×Bool×(Int×Int×(Int×Int×Int×Int×Int×Int×Int×Int×Bool×List T25D×T25D×Unit)×(Int×Int×(Int×List UInt8×List UInt8×List UInt8×Int×Int×Int×List
 T96D×List
 T48D×List
 T48D×Int×Int×Int×Bool×List
 T70D×List
 (Int×Int×(Int×Int×Bool×Int×List
 (List UInt8×(Int×Int×Int×Int×List
 UInt8×Int×Bool×Unit)×Unit)×Y22D)×Unit)×List zai×Unit)×Unit)×Int×List UInt8×List UInt8×Int×Int×Int×Int×(Int×Int×Bool×Int×List
 T70D×Y22D)×List
 (Int×List
 T70D×Unit)×List
 T70D×Bool×(Int×Int×List
 (Int×Int×(Int×Int×Bool×Int×List
 T70D×Y22D)×Unit)×List zai×Unit)×T53D×Unit)×Unit)×(Int×Int×(Int×Int×Int×Int×Int×Int×Int×Int×Bool×List T25D×T25D×Unit)×(Int×Int×(Int×List UInt8×List UInt8×List UInt8×Int×Int×Int×List T96D×List T48D×List T48D×Int×Int×Int×Bool×List
 T70D×List
 (Int×Int×(Int×Int×Bool×Int×List
 T70D×Y22D)×Unit)×List zai×Unit)×Unit)×Int×List UInt8×List UInt8×Int×Int×Int×Int×(Int×Int×Bool×Int×List
 T70D×Y22D)×List
 (Int×List
 T70D×Unit)×List
 T70D×Bool×(Int×Int×List
 (Int×Int×(Int×Int×Bool×Int×List
 T70D×Y22D)×Unit)×List zai×Unit)×T53D×Unit)×Bool×T53D×Int×List
 (List T70D×Bool×Unit)×List
 (List T70D×Int×Unit)×Bool×Bool×List
 (Int×Int×List
 (Int×Int×(Int×Int×Bool×Int×List
 T70D×Y22D)×Unit)×List zai×Unit)×Bool×Unit)×Unit)
 (fun (x_1 :
 Int×List T70D×Int×Unit)=>
 bif
 decide
 (x_1.1 < Int.ofNat (List.length x.2.1.2.2.2.2.2.2.2.2.2.2.2.2.1)) then
 (idx x.2.1.2.2.2.2.2.2.2.2.2.2.2.2.1 x_1.1).bind
 fun b=>
 bif
 decide
 (64 <
 wrap64
 (Int.ofNat (List.length x_1.2.1)+Int.ofNat (List.length b.2.1))) then
 some (Sum.inr (Sum.inl (x_1.2.1,wrap64 (b.1 - 1),())))
 else
 (appO x_1.2.1 b.2.1).bind
 fun b=>
 some (Sum.inl (wrap64 (x_1.1+1),b,x_1.2.2))
 else some (Sum.inr (Sum.inl x_1.2)))
 big (0,[],wrap64 (x.2.1.2.2.2.2.2.2.2.1 - 1),()))
 fun o=>
 Sum.elim
 (fun (x_1:List T70D×Int×Unit)=>
 bif decide (x.1.2.2.2.2.2.2.1.2.2.2.2.2.2.2.1 < x_1.2.1) then
 some
 ((x.1.1,x.1.2.1,x.1.2.2.1,x.1.2.2.2.1,x.1.2.2.2.2.1,
 x.1.2.2.2.2.2.1,x.1.2.2.2.2.2.2.1,x.1.2.2.2.2.2.2.2.1,
 x.1.2.2.2.2.2.2.2.2.1,[x_1],x.1.2.2.2.2.2.2.2.2.2.2),
 ())
 else some (x.1,()))
 some o
def S54:Sig:=⟨P54,R54,F54⟩
noncomputable def E54:Env:={ tab:=tab.opt { flats:=[(93,L93)],owns:=[87],frzs:=[89,90,91] },nt:=60,Γ:=zaj [],joins:=zac [(9,⟨[⟨.fld 1005000 0,(.slice T70),.own false⟩,⟨.fld 1005000 1,(.int .i64),.pv⟩],[0,4],[.site 0]++hL (.fld 0) 0 14++[.row 3,.row 2,.site 1005000]⟩)],loops:=zac [(3,zaI ⟨[⟨.slot 15,(.int .i64),.pv⟩,⟨.fld 1005000 0,(.slice T70),.own false⟩,⟨.fld 1005000 1,(.int .i64),.pv⟩],[0,4,13,14],[.site 0]++hL (.fld 0) 0 14++[.row 3,.row 2,.site 1005000]⟩)] }
theorem zr7 (x:L93D×TMD×Unit):afun E54 Tryz.f54 P54 R54 x=F54 x:=by kernel_rfl
def F31 (x:L93D×TMD×Unit):Option (L93D×Unit):=
 bif decide (x.2.1.1=10) then
 bif decide (x.2.1.2.2.2.2.2.2.2.2.2.1=9) then
 some
 ((x.1.1,x.1.2.1,x.1.2.2.1,x.1.2.2.2.1,x.1.2.2.2.2.1,
 x.1.2.2.2.2.2.1,x.1.2.2.2.2.2.2.1,0,
 x.1.2.2.2.2.2.2.2.2.1,x.1.2.2.2.2.2.2.2.2.2.1,true,
 x.1.2.2.2.2.2.2.2.2.2.2.2),
 ())
 else
 bif !decide (x.2.1.2.2.2.2.2.2.2.2.2.1=0) then some (x.1,())
 else
 bif decide (x.2.1.1=12) then
 some
 ((x.1.1,x.1.2.1,x.1.2.2.1,x.1.2.2.2.1,x.1.2.2.2.2.1,
 x.1.2.2.2.2.2.1,x.1.2.2.2.2.2.2.1,
 maxI x.2.1.2.2.2.2.2.2.2.1 1,x.1.2.2.2.2.2.2.2.2),
 ())
 else
 bif decide (x.2.1.1=8) then
 bif decide (x.2.1.2.2.2.2.2.2.2.2.2.2.2.1.1=0) then
 Option.bind
 (bif x.1.2.2.2.2.2.2.2.2.2.2.2.1 then some (Sum.inl (true,()))
 else
 some (Sum.inl (decide (x.1.2.2.2.2.1.2.2.2.1.2.2.1.1=10),())))
 fun o=>
 Sum.elim
 (fun (x_1:Bool×Unit)=>
 bif x.1.2.2.2.2.2.2.2.2.2.2.2.2.2.1 then
 some
 ((x.1.1,x.1.2.1,x.1.2.2.1,x.1.2.2.2.1,x.1.2.2.2.2.1,
 x.1.2.2.2.2.2.1,x.1.2.2.2.2.2.2.1,
 x.1.2.2.2.2.2.2.2.1,x.1.2.2.2.2.2.2.2.2.1,
 x.1.2.2.2.2.2.2.2.2.2.1,
 x.1.2.2.2.2.2.2.2.2.2.2.1,x_1.1,
 x.1.2.2.2.2.2.2.2.2.2.2.2.2.1,true,()),
 ())
 else
 some
 ((x.1.1,x.1.2.1,x.1.2.2.1,x.1.2.2.2.1,x.1.2.2.2.2.1,
 x.1.2.2.2.2.2.1,x.1.2.2.2.2.2.2.1,
 x.1.2.2.2.2.2.2.2.1,x.1.2.2.2.2.2.2.2.2.1,
 x.1.2.2.2.2.2.2.2.2.2.1,
 x.1.2.2.2.2.2.2.2.2.2.2.1,x_1.1,
 x.1.2.2.2.2.2.2.2.2.2.2.2.2.1,
 decide (x.1.2.2.2.2.1.2.2.2.1.2.2.1.1=11),()),
 ()))
 some o
 else
 bif decide (x.2.1.1=10) then
 some
 ((x.1.1,x.1.2.1,x.1.2.2.1,x.1.2.2.2.1,x.1.2.2.2.2.1,
 x.1.2.2.2.2.2.1,x.1.2.2.2.2.2.2.1,
 x.1.2.2.2.2.2.2.2.1,
 [(x.2.1.2.2.2.2.2.2.2.2.2.2.2.2.2.1,
 x.2.1.2.2.2.2.2.2.2.2.2.2.2.2.2.2.1,())],
 x.1.2.2.2.2.2.2.2.2.2),
 ())
 else
 bif decide (x.2.1.1=11) then
 some
 ((x.1.1,x.1.2.1,x.1.2.2.1,x.1.2.2.2.1,x.1.2.2.2.2.1,
 x.1.2.2.2.2.2.1,x.1.2.2.2.2.2.2.1,
 x.1.2.2.2.2.2.2.2.1,x.1.2.2.2.2.2.2.2.2.1,
 x.1.2.2.2.2.2.2.2.2.2.1,
 x.1.2.2.2.2.2.2.2.2.2.2.1,
 x.1.2.2.2.2.2.2.2.2.2.2.2.1,
 [x.2.1.2.2.2.2.2.2.2.2.2.2.2.2.2.2.2.1],
 x.1.2.2.2.2.2.2.2.2.2.2.2.2.2),
 ())
 else
 bif decide (x.2.1.1=9) then
 (F54 x).bind
 fun b=>
 some b
 else some (x.1,())
 else
 bif decide (x.2.1.1=10) then
 some
 ((x.1.1,x.1.2.1,x.1.2.2.1,x.1.2.2.2.1,x.1.2.2.2.2.1,
 x.1.2.2.2.2.2.1,x.1.2.2.2.2.2.2.1,
 x.1.2.2.2.2.2.2.2.1,
 [(x.2.1.2.2.2.2.2.2.2.2.2.2.2.2.2.1,
 x.2.1.2.2.2.2.2.2.2.2.2.2.2.2.2.2.1,())],
 x.1.2.2.2.2.2.2.2.2.2),
 ())
 else
 bif decide (x.2.1.1=11) then
 some
 ((x.1.1,x.1.2.1,x.1.2.2.1,x.1.2.2.2.1,x.1.2.2.2.2.1,
 x.1.2.2.2.2.2.1,x.1.2.2.2.2.2.2.1,
 x.1.2.2.2.2.2.2.2.1,x.1.2.2.2.2.2.2.2.2.1,
 x.1.2.2.2.2.2.2.2.2.2.1,x.1.2.2.2.2.2.2.2.2.2.2.1,
 x.1.2.2.2.2.2.2.2.2.2.2.2.1,
 [x.2.1.2.2.2.2.2.2.2.2.2.2.2.2.2.2.2.1],
 x.1.2.2.2.2.2.2.2.2.2.2.2.2.2),
 ())
 else
 bif decide (x.2.1.1=9) then
 (F54 x).bind
 fun b=>
 some b
 else some (x.1,())
 else
 bif decide (x.2.1.1=9) then
 bif decide (x.2.1.2.2.2.2.2.2.2.2.2.1=9) then
 some
 ((x.1.1,x.1.2.1,x.1.2.2.1,x.1.2.2.2.1,x.1.2.2.2.2.1,
 x.1.2.2.2.2.2.1,x.1.2.2.2.2.2.2.1,0,
 x.1.2.2.2.2.2.2.2.2.1,x.1.2.2.2.2.2.2.2.2.2.1,true,
 x.1.2.2.2.2.2.2.2.2.2.2.2),
 ())
 else
 bif !decide (x.2.1.2.2.2.2.2.2.2.2.2.1=0) then some (x.1,())
 else
 bif decide (x.2.1.1=12) then
 some
 ((x.1.1,x.1.2.1,x.1.2.2.1,x.1.2.2.2.1,x.1.2.2.2.2.1,
 x.1.2.2.2.2.2.1,x.1.2.2.2.2.2.2.1,
 maxI x.2.1.2.2.2.2.2.2.2.1 1,x.1.2.2.2.2.2.2.2.2),
 ())
 else
 bif decide (x.2.1.1=8) then
 bif decide (x.2.1.2.2.2.2.2.2.2.2.2.2.2.1.1=0) then
 Option.bind
 (bif x.1.2.2.2.2.2.2.2.2.2.2.2.1 then some (Sum.inl (true,()))
 else
 some
 (Sum.inl (decide (x.1.2.2.2.2.1.2.2.2.1.2.2.1.1=10),())))
 fun o=>
 Sum.elim
 (fun (x_1:Bool×Unit)=>
 bif x.1.2.2.2.2.2.2.2.2.2.2.2.2.2.1 then
 some
 ((x.1.1,x.1.2.1,x.1.2.2.1,x.1.2.2.2.1,
 x.1.2.2.2.2.1,x.1.2.2.2.2.2.1,
 x.1.2.2.2.2.2.2.1,x.1.2.2.2.2.2.2.2.1,
 x.1.2.2.2.2.2.2.2.2.1,x.1.2.2.2.2.2.2.2.2.2.1,
 x.1.2.2.2.2.2.2.2.2.2.2.1,x_1.1,
 x.1.2.2.2.2.2.2.2.2.2.2.2.2.1,true,()),
 ())
 else
 some
 ((x.1.1,x.1.2.1,x.1.2.2.1,x.1.2.2.2.1,
 x.1.2.2.2.2.1,x.1.2.2.2.2.2.1,
 x.1.2.2.2.2.2.2.1,x.1.2.2.2.2.2.2.2.1,
 x.1.2.2.2.2.2.2.2.2.1,x.1.2.2.2.2.2.2.2.2.2.1,
 x.1.2.2.2.2.2.2.2.2.2.2.1,x_1.1,
 x.1.2.2.2.2.2.2.2.2.2.2.2.2.1,
 decide (x.1.2.2.2.2.1.2.2.2.1.2.2.1.1=11),()),
 ()))
 some o
 else
 bif decide (x.2.1.1=10) then
 some
 ((x.1.1,x.1.2.1,x.1.2.2.1,x.1.2.2.2.1,x.1.2.2.2.2.1,
 x.1.2.2.2.2.2.1,x.1.2.2.2.2.2.2.1,
 x.1.2.2.2.2.2.2.2.1,
 [(x.2.1.2.2.2.2.2.2.2.2.2.2.2.2.2.1,
 x.2.1.2.2.2.2.2.2.2.2.2.2.2.2.2.2.1,())],
 x.1.2.2.2.2.2.2.2.2.2),
 ())
 else
 bif decide (x.2.1.1=11) then
 some
 ((x.1.1,x.1.2.1,x.1.2.2.1,x.1.2.2.2.1,x.1.2.2.2.2.1,
 x.1.2.2.2.2.2.1,x.1.2.2.2.2.2.2.1,
 x.1.2.2.2.2.2.2.2.1,x.1.2.2.2.2.2.2.2.2.1,
 x.1.2.2.2.2.2.2.2.2.2.1,
 x.1.2.2.2.2.2.2.2.2.2.2.1,
 x.1.2.2.2.2.2.2.2.2.2.2.2.1,
 [x.2.1.2.2.2.2.2.2.2.2.2.2.2.2.2.2.2.1],
 x.1.2.2.2.2.2.2.2.2.2.2.2.2.2),
 ())
 else
 bif decide (x.2.1.1=9) then
 (F54 x).bind
 fun b=>
 some b
 else some (x.1,())
 else
 bif decide (x.2.1.1=10) then
 some
 ((x.1.1,x.1.2.1,x.1.2.2.1,x.1.2.2.2.1,x.1.2.2.2.2.1,
 x.1.2.2.2.2.2.1,x.1.2.2.2.2.2.2.1,
 x.1.2.2.2.2.2.2.2.1,
 [(x.2.1.2.2.2.2.2.2.2.2.2.2.2.2.2.1,
 x.2.1.2.2.2.2.2.2.2.2.2.2.2.2.2.2.1,())],
 x.1.2.2.2.2.2.2.2.2.2),
 ())
 else
 bif decide (x.2.1.1=11) then
 some
 ((x.1.1,x.1.2.1,x.1.2.2.1,x.1.2.2.2.1,x.1.2.2.2.2.1,
 x.1.2.2.2.2.2.1,x.1.2.2.2.2.2.2.1,
 x.1.2.2.2.2.2.2.2.1,x.1.2.2.2.2.2.2.2.2.1,
 x.1.2.2.2.2.2.2.2.2.2.1,
 x.1.2.2.2.2.2.2.2.2.2.2.1,
 x.1.2.2.2.2.2.2.2.2.2.2.2.1,
 [x.2.1.2.2.2.2.2.2.2.2.2.2.2.2.2.2.2.1],
 x.1.2.2.2.2.2.2.2.2.2.2.2.2.2),
 ())
 else
 bif decide (x.2.1.1=9) then
 (F54 x).bind
 fun b=>
 some b
 else some (x.1,())
 else
 bif !decide (x.2.1.2.2.2.2.2.2.2.2.2.1=0) then some (x.1,())
 else
 bif decide (x.2.1.1=12) then
 some
 ((x.1.1,x.1.2.1,x.1.2.2.1,x.1.2.2.2.1,x.1.2.2.2.2.1,
 x.1.2.2.2.2.2.1,x.1.2.2.2.2.2.2.1,
 maxI x.2.1.2.2.2.2.2.2.2.1 1,x.1.2.2.2.2.2.2.2.2),
 ())
 else
 bif decide (x.2.1.1=8) then
 bif decide (x.2.1.2.2.2.2.2.2.2.2.2.2.2.1.1=0) then
 Option.bind
 (bif x.1.2.2.2.2.2.2.2.2.2.2.2.1 then some (Sum.inl (true,()))
 else
 some (Sum.inl (decide (x.1.2.2.2.2.1.2.2.2.1.2.2.1.1=10),())))
 fun o=>
 Sum.elim
 (fun (x_1:Bool×Unit)=>
 bif x.1.2.2.2.2.2.2.2.2.2.2.2.2.2.1 then
 some
 ((x.1.1,x.1.2.1,x.1.2.2.1,x.1.2.2.2.1,x.1.2.2.2.2.1,
 x.1.2.2.2.2.2.1,x.1.2.2.2.2.2.2.1,
 x.1.2.2.2.2.2.2.2.1,x.1.2.2.2.2.2.2.2.2.1,
 x.1.2.2.2.2.2.2.2.2.2.1,
 x.1.2.2.2.2.2.2.2.2.2.2.1,x_1.1,
 x.1.2.2.2.2.2.2.2.2.2.2.2.2.1,true,()),
 ())
 else
 some
 ((x.1.1,x.1.2.1,x.1.2.2.1,x.1.2.2.2.1,x.1.2.2.2.2.1,
 x.1.2.2.2.2.2.1,x.1.2.2.2.2.2.2.1,
 x.1.2.2.2.2.2.2.2.1,x.1.2.2.2.2.2.2.2.2.1,
 x.1.2.2.2.2.2.2.2.2.2.1,
 x.1.2.2.2.2.2.2.2.2.2.2.1,x_1.1,
 x.1.2.2.2.2.2.2.2.2.2.2.2.2.1,
 decide (x.1.2.2.2.2.1.2.2.2.1.2.2.1.1=11),()),
 ()))
 some o
 else
 bif decide (x.2.1.1=10) then
 some
 ((x.1.1,x.1.2.1,x.1.2.2.1,x.1.2.2.2.1,x.1.2.2.2.2.1,
 x.1.2.2.2.2.2.1,x.1.2.2.2.2.2.2.1,
 x.1.2.2.2.2.2.2.2.1,
 [(x.2.1.2.2.2.2.2.2.2.2.2.2.2.2.2.1,
 x.2.1.2.2.2.2.2.2.2.2.2.2.2.2.2.2.1,())],
 x.1.2.2.2.2.2.2.2.2.2),
 ())
 else
 bif decide (x.2.1.1=11) then
 some
 ((x.1.1,x.1.2.1,x.1.2.2.1,x.1.2.2.2.1,x.1.2.2.2.2.1,
 x.1.2.2.2.2.2.1,x.1.2.2.2.2.2.2.1,
 x.1.2.2.2.2.2.2.2.1,x.1.2.2.2.2.2.2.2.2.1,
 x.1.2.2.2.2.2.2.2.2.2.1,
 x.1.2.2.2.2.2.2.2.2.2.2.1,
 x.1.2.2.2.2.2.2.2.2.2.2.2.1,
 [x.2.1.2.2.2.2.2.2.2.2.2.2.2.2.2.2.2.1],
 x.1.2.2.2.2.2.2.2.2.2.2.2.2.2),
 ())
 else
 bif decide (x.2.1.1=9) then
 (F54 x).bind
 fun b=>
 some b
 else some (x.1,())
 else
 bif decide (x.2.1.1=10) then
 some
 ((x.1.1,x.1.2.1,x.1.2.2.1,x.1.2.2.2.1,x.1.2.2.2.2.1,
 x.1.2.2.2.2.2.1,x.1.2.2.2.2.2.2.1,
 x.1.2.2.2.2.2.2.2.1,
 [(x.2.1.2.2.2.2.2.2.2.2.2.2.2.2.2.1,
 x.2.1.2.2.2.2.2.2.2.2.2.2.2.2.2.2.1,())],
 x.1.2.2.2.2.2.2.2.2.2),
 ())
 else
 bif decide (x.2.1.1=11) then
 some
 ((x.1.1,x.1.2.1,x.1.2.2.1,x.1.2.2.2.1,x.1.2.2.2.2.1,
 x.1.2.2.2.2.2.1,x.1.2.2.2.2.2.2.1,
 x.1.2.2.2.2.2.2.2.1,x.1.2.2.2.2.2.2.2.2.1,
 x.1.2.2.2.2.2.2.2.2.2.1,x.1.2.2.2.2.2.2.2.2.2.2.1,
 x.1.2.2.2.2.2.2.2.2.2.2.2.1,
 [x.2.1.2.2.2.2.2.2.2.2.2.2.2.2.2.2.2.1],
 x.1.2.2.2.2.2.2.2.2.2.2.2.2.2),
 ())
 else
 bif decide (x.2.1.1=9) then
 (F54 x).bind
 fun b=>
 some b
 else some (x.1,())
def S31:Sig:=⟨P31,R31,F31⟩
noncomputable def E31:Env:={ tab:=tab.opt { flats:=[(93,L93)],owns:=[87],frzs:=[89,90,91] },nt:=110,Γ:=zaj [(54,[S54])],joins:=zac [(8,⟨[⟨.fld 0 11,.bool,.pv⟩],[0],[.site 0]++hL (.fld 0) 0 11++[.fld 0 12,.fld 0 13,.row 3,.row 2]⟩)],loops:=zac [] }
theorem zsu (x:L93D×TMD×Unit):afun E31 Tryz.f31 P31 R31 x=F31 x:=by kernel_rfl
def F12 (x:L93D×Int×TMD×Unit):Option (L93D×Unit):=
 Option.bind (List.head? x.1.2.2.1)
 fun b=>
 (F29 (b,x.2)).bind
 fun b=>
 bif b.2.1 then
 (F31 ((x.1.1,x.1.2.1,[b.2.2.1],x.1.2.2.2),b.1,())).bind
 fun b=>
 some b
 else
 Option.bind (List.head? x.1.2.2.2.1)
 fun b_1=>
 (F29 (b_1,x.2)).bind
 fun b_2=>
 bif b_2.2.1 then
 Option.bind
 (F30
 ((x.1.1,x.1.2.1,[b.2.2.1],[b_2.2.2.1],x.1.2.2.2.2),b_2.1,
 ()))
 fun b=>
 some b
 else
 some ((x.1.1,x.1.2.1,[b.2.2.1],[b_2.2.2.1],x.1.2.2.2.2),())
def S12:Sig:=⟨P12,R12,F12⟩
noncomputable def E12:Env:={ tab:=tab.opt { flats:=[(93,L93)],owns:=[87],frzs:=[89,90,91] },nt:=37,Γ:=zaj [(29,[S29]),(30,[S30]),(31,[S31])],joins:=zac [],loops:=zac [],unr:=zac [(3,3)] }
theorem zsO (x:L93D×Int×TMD×Unit):afun E12 Tryz.f12 P12 R12 x=F12 x:=by kernel_rfl
def F12a (x:Int×TMD×Unit):Option (Unit):=
 some ()
def S12a:Sig:=⟨P12a,R12a,F12a⟩
noncomputable def E12a:Env:={ tab:=tab.opt { flats:=[(93,L93)],owns:=[87],frzs:=[89,90,91] },nt:=37,Γ:=zaj [(29,[S29]),(30,[S30]),(31,[S31])],joins:=zac [],loops:=zac [],unr:=zac [(3,3)] }
theorem zoT (x:Int×TMD×Unit):afun E12a Tryz.f12 P12a R12a x=F12a x:=by kernel_rfl
def F32 (x:T27D×Unit):Option (T27D×Unit):=
 some x
def S32:Sig:=⟨P32,R32,F32⟩
noncomputable def E32:Env:={ tab:=tab.opt { flats:=[(93,L93)],owns:=[87],frzs:=[89,90,91] },nt:=4,Γ:=zaj [],joins:=zac [],loops:=zac [] }
theorem zst (x:T27D×Unit):afun E32 Tryz.f32 P32 R32 x=F32 x:=by kernel_rfl
def F13 (x:TMD×Unit):Option (TMD×Unit):=
 (F32 (x.1.2.2.1,())).bind
 fun b=>
 some ((x.1.1,x.1.2.1,b.1,x.1.2.2.2),())
def S13:Sig:=⟨P13,R13,F13⟩
noncomputable def E13:Env:={ tab:=tab.opt { flats:=[(93,L93)],owns:=[87],frzs:=[89,90,91] },nt:=47,Γ:=zaj [(32,[S32])],joins:=zac [],loops:=zac [] }
theorem zsN (x:TMD×Unit):afun E13 Tryz.f13 P13 R13 x=F13 x:=by kernel_rfl
def F55 (x:Int×Unit):Option (Int×Unit):=
 bif decide (maxI 0 (minI x.1 12)=Int.ofNat 0) then some (0,())
 else
 bif decide (maxI 0 (minI x.1 12)=Int.ofNat (0+1)) then some (0,())
 else
 bif decide (maxI 0 (minI x.1 12)=Int.ofNat (0+1+1)) then some (8,())
 else
 bif decide (maxI 0 (minI x.1 12)=Int.ofNat (0+1+1+1)) then some (8,())
 else
 bif decide (maxI 0 (minI x.1 12)=Int.ofNat (0+1+1+1+1)) then some (9,())
 else
 bif decide (maxI 0 (minI x.1 12)=Int.ofNat (0+1+1+1+1+1)) then some (10,())
 else
 bif decide (maxI 0 (minI x.1 12)=Int.ofNat (0+1+1+1+1+1+1)) then some (11,())
 else
 bif decide (maxI 0 (minI x.1 12)=Int.ofNat (0+1+1+1+1+1+1+1)) then
 some (12,())
 else
 bif decide (maxI 0 (minI x.1 12)=Int.ofNat (0+1+1+1+1+1+1+1+1)) then
 some (0,())
 else
 bif decide (maxI 0 (minI x.1 12)=Int.ofNat (0+1+1+1+1+1+1+1+1+1)) then
 some (0,())
 else
 bif decide (maxI 0 (minI x.1 12)=Int.ofNat (0+1+1+1+1+1+1+1+1+1+1)) then
 some (0,())
 else
 bif
 decide
 (maxI 0 (minI x.1 12)=Int.ofNat (0+1+1+1+1+1+1+1+1+1+1+1)) then
 some (0,())
 else
 bif
 decide
 (maxI 0 (minI x.1 12) =
 Int.ofNat (0+1+1+1+1+1+1+1+1+1+1+1+1)) then
 some (0,())
 else none
def S55:Sig:=⟨P55,R55,F55⟩
noncomputable def E55:Env:={ tab:=tab.opt { flats:=[(93,L93)],owns:=[87],frzs:=[89,90,91] },nt:=8,Γ:=zaj [],joins:=zac [],loops:=zac [] }
theorem zr6 (x:Int×Unit):afun E55 Tryz.f55 P55 R55 x=F55 x:=by kernel_rfl
def F33 (x:Y58D×Int×TMD×Unit):Option (Y58D×Bool×Unit):=
 bif !x.1.2.2.2.2.2.2.2.1 then some (x.1,false,())
 else
 bif decide (x.2.1 < wrap64 (4*x.1.2.1)) then some (x.1,false,())
 else
 bif
 decide
 (wrap64 (wrap64 (4*x.1.2.1)+x.1.2.2.1)≤
 x.2.1) then
 some (x.1,false,())
 else
 (F53 x.2.2).bind fun b=>
 bif !b.1 then some (x.1,false,())
 else
 bif !decide (x.2.2.1.2.1=x.1.2.2.2.2.1) then some (x.1,false,())
 else
 (F55 (x.1.2.2.2.2.2.2.2.2.2.1.1,())).bind fun b=>
 bif !decide (x.2.2.1.1=b.1) then some (x.1,false,())
 else
 bif decide (x.2.2.1.1=8) then
 bif decide (x.2.2.1.2.2.2.2.2.2.2.2.2.1=14) then
 Option.bind
 (bif decide (0≤x.2.2.1.2.2.2.2.2.2.2.2.2.2.1) then
 bif
 decide
 (x.2.2.1.2.2.2.2.2.2.2.2.2.2.1 < x.1.2.2.1) then
 some (Sum.inl (x.2.2.1.2.2.2.2.2.2.2.2.2.2.1,()))
 else
 Option.bind
 (remO (wrap64 (x.1.2.2.2.2.2.1+1)) x.1.2.2.1)
 fun b=>some (Sum.inl (b,()))
 else
 Option.bind
 (remO (wrap64 (x.1.2.2.2.2.2.1+1)) x.1.2.2.1)
 fun b=>some (Sum.inl (b,())))
 fun o=>
 Sum.elim
 (fun (x_1:Int×Unit)=>
 some
 ((x.1.1,x.1.2.1,x.1.2.2.1,x.1.2.2.2.1,
 x.1.2.2.2.2.1,x_1.1,x.1.2.2.2.2.2.2.1,
 x.1.2.2.2.2.2.2.2.1,true,
 x.1.2.2.2.2.2.2.2.2.2),
 false,()))
 some o
 else
 some
 ((x.1.1,x.1.2.1,x.1.2.2.1,x.1.2.2.2.1,x.1.2.2.2.2.1,
 x.1.2.2.2.2.2.1,x.1.2.2.2.2.2.2.1,false,
 x.1.2.2.2.2.2.2.2.2),
 true,())
 else
 some
 ((x.1.1,x.1.2.1,x.1.2.2.1,x.1.2.2.2.1,x.1.2.2.2.2.1,
 x.1.2.2.2.2.2.1,x.1.2.2.2.2.2.2.1,false,
 x.1.2.2.2.2.2.2.2.2),
 true,())
def S33:Sig:=⟨P33,R33,F33⟩
noncomputable def E33:Env:={ tab:=tab.opt { flats:=[(93,L93)],owns:=[87],frzs:=[89,90,91] },nt:=82,Γ:=zaj [(53,[S53]),(55,[S55])],joins:=zac [(7,⟨[⟨.fld 1000 5,(.int .i64),.pv⟩],[3,6],[.site 3000]++hL (.fld 3000) 0 10++[.site 1000]++hL (.fld 1000) 0 5++hL (.fld 1000) 6 4⟩)],loops:=zac [] }
theorem zss (x:Y58D×Int×TMD×Unit):afun E33 Tryz.f33 P33 R33 x=F33 x:=by kernel_rfl
def F34 (x:Y61D×TMD×Unit):Option (Y61D×Unit):=
 bif decide (x.2.1.1=12) then
 some
 ((x.1.1,x.1.2.1,x.1.2.2.1,x.1.2.2.2.1,x.1.2.2.2.2.1,
 x.1.2.2.2.2.2.1,decide (x.2.1.1=12),
 x.2.1.2.2.2.2.2.2.2.2.2.2.2.2.2.2.2.2.1,
 x.1.2.2.2.2.2.2.2.2.1,false,false,[],false,[],0,
 x.1.2.2.2.2.2.2.2.2.2.2.2.2.2.2.2),
 ())
 else
 bif decide (x.1.2.2.2.2.2.1.2.2.2.1.2.2.1.1=12) then
 some
 ((x.1.1,x.1.2.1,x.1.2.2.1,x.1.2.2.2.1,x.1.2.2.2.2.1,
 x.1.2.2.2.2.2.1,decide (x.2.1.1=12),x.1.2.2.2.2.2.2.2.1,0,false,
 false,[],false,[],0,false,x.1.2.2.2.2.2.2.2.2.2.2.2.2.2.2.2.2),
 ())
 else
 some
 ((x.1.1,x.1.2.1,x.1.2.2.1,x.1.2.2.2.1,x.1.2.2.2.2.1,
 x.1.2.2.2.2.2.1,decide (x.2.1.1=12),x.1.2.2.2.2.2.2.2.1,
 x.1.2.2.2.2.2.2.2.2.1,false,false,[],false,[],0,
 x.1.2.2.2.2.2.2.2.2.2.2.2.2.2.2.2),
 ())
def S34:Sig:=⟨P34,R34,F34⟩
noncomputable def E34:Env:={ tab:=tab.opt { flats:=[(93,L93)],owns:=[87],frzs:=[89,90,91] },nt:=29,Γ:=zaj [],joins:=zac [],loops:=zac [] }
theorem zsr (x:Y61D×TMD×Unit):afun E34 Tryz.f34 P34 R34 x=F34 x:=by kernel_rfl
def F56 (x:Y61D×TMD×Unit):Option (Y61D×Unit):=
 Option.bind
 (zaT (Int×List T70D×Int×Unit)
 (Int×List T70D×Unit⊕(Int×List UInt8×List UInt8×Int×((Int×Int×Int×Int×Int×Int×Int×Bool×Bool×(Int×Int×(Int×Int×Int×Int×Int×Int×Int×Int×Bool×List T25D×T25D×Unit)×(Int×Int×(Int×List UInt8×List UInt8×List UInt8×Int×Int×Int×List
 T96D×List
 T48D×List
 T48D×Int×Int×Int×Bool×List
 T70D×List
 (Int×Int×(Int×Int×Bool×Int×List
 (List
 UInt8×(Int×Int×Int×Int×List
 UInt8×Int×Bool×Unit)×Unit)×Y22D)×Unit)×List zai×Unit)×Unit)×Int×List UInt8×List UInt8×Int×Int×Int×Int×(Int×Int×Bool×Int×List
 T70D×Y22D)×List
 (Int×List
 T70D×Unit)×List
 T70D×Bool×(Int×Int×List
 (Int×Int×(Int×Int×Bool×Int×List
 (List UInt8×(Int×Int×Int×Int×List
 UInt8×Int×Bool×Unit)×Unit)×Y22D)×Unit)×List zai×Unit)×T53D×Unit)×Unit)×(Int×Int×Int×Int×Int×Int×Int×Bool×Bool×(Int×Int×(Int×Int×Int×Int×Int×Int×Int×Int×Bool×List T25D×T25D×Unit)×(Int×Int×(Int×List UInt8×List UInt8×List UInt8×Int×Int×Int×List
 T96D×List
 T48D×List
 T48D×Int×Int×Int×Bool×List
 T70D×List
 (Int×Int×(Int×Int×Bool×Int×List
 (List
 UInt8×(Int×Int×Int×Int×List
 UInt8×Int×Bool×Unit)×Unit)×Y22D)×Unit)×List
 zai×Unit)×Unit)×Int×List UInt8×List UInt8×Int×Int×Int×Int×(Int×Int×Bool×Int×List
 T70D×Y22D)×List
 (Int×List
 T70D×Unit)×List
 T70D×Bool×(Int×Int×List
 (Int×Int×(Int×Int×Bool×Int×List
 (List UInt8×(Int×Int×Int×Int×List
 UInt8×Int×Bool×Unit)×Unit)×Y22D)×Unit)×List zai×Unit)×T53D×Unit)×Unit)×Unit)×(Int×Int×(Int×Int×Int×Int×Int×Int×Int×Int×Bool×List T25D×T25D×Unit)×(Int×Int×(Int×List UInt8×List UInt8×List UInt8×Int×Int×Int×List T96D×List T48D×List T48D×Int×Int×Int×Bool×List
 T70D×List
 (Int×Int×(Int×Int×Bool×Int×List
 T70D×Y22D)×Unit)×List zai×Unit)×Unit)×Int×List UInt8×List UInt8×Int×Int×Int×Int×(Int×Int×Bool×Int×List
 T70D×Y22D)×List
 (Int×List
 T70D×Unit)×List
 T70D×Bool×(Int×Int×List
 (Int×Int×(Int×Int×Bool×Int×List
 T70D×Y22D)×Unit)×List zai×Unit)×T53D×Unit)×Bool×T53D×Int×Bool×Bool×List T70D×Bool×List
 T70D×Int×Bool×Bool×Bool×(Int×Int×List
 (Int×Int×(Int×Int×Bool×Int×List
 T70D×Y22D)×Unit)×List zai×Unit)×Bool×Unit)×Unit)
 (fun (x_1 :
 Int×List T70D×Int×Unit)=>
 bif
 decide
 (x_1.2.2.1 <
 Int.ofNat (List.length x.2.1.2.2.2.2.2.2.2.2.2.2.2.2.1)) then
 (idx x.2.1.2.2.2.2.2.2.2.2.2.2.2.2.1 x_1.2.2.1).bind
 fun b=>
 bif
 decide
 (64 <
 wrap64
 (Int.ofNat (List.length x_1.2.1)+Int.ofNat (List.length b.2.1))) then
 (idx x.2.1.2.2.2.2.2.2.2.2.2.2.2.2.1 x_1.2.2.1).bind
 fun b=>
 some (Sum.inr (Sum.inl (wrap64 (b.1 - 1),x_1.2.1,())))
 else
 (idx x.2.1.2.2.2.2.2.2.2.2.2.2.2.2.1 x_1.2.2.1).bind
 fun b=>
 (appO x_1.2.1 b.2.1).bind
 fun b=>
 some (Sum.inl (x_1.1,b,wrap64 (x_1.2.2.1+1),()))
 else some (Sum.inr (Sum.inl (x_1.1,x_1.2.1,()))))
 big (wrap64 (x.2.1.2.2.2.2.2.2.2.1 - 1),[],0,()))
 fun o=>
 Sum.elim
 (fun (x_1:Int×List T70D×Unit)=>
 bif decide (x.1.2.2.2.2.2.2.2.1.2.2.2.2.2.2.2.1 < x_1.1) then
 some
 ((x.1.1,x.1.2.1,x.1.2.2.1,x.1.2.2.2.1,x.1.2.2.2.2.1,
 x.1.2.2.2.2.2.1,x.1.2.2.2.2.2.2.1,x.1.2.2.2.2.2.2.2.1,
 x.1.2.2.2.2.2.2.2.2.1,x.1.2.2.2.2.2.2.2.2.2.1,
 x.1.2.2.2.2.2.2.2.2.2.2.1,
 x.1.2.2.2.2.2.2.2.2.2.2.2.1,true,x_1.2.1,x_1.1,
 x.1.2.2.2.2.2.2.2.2.2.2.2.2.2.2.2),
 ())
 else some (x.1,()))
 some o
def S56:Sig:=⟨P56,R56,F56⟩
noncomputable def E56:Env:={ tab:=tab.opt { flats:=[(93,L93)],owns:=[87],frzs:=[89,90,91] },nt:=55,Γ:=zaj [],joins:=zac [(10,⟨[⟨.slot 5,(.int .i64),.pv⟩,⟨.slot 6,(.slice T70),.own false⟩],[2,4],[.site 3000]++hL (.fld 3000) 0 20++[.site 1000]++hL (.fld 1000) 0 20⟩)],loops:=zac [(4,zaI ⟨[⟨.slot 5,(.int .i64),.pv⟩,⟨.slot 6,(.slice T70),.own false⟩,⟨.slot 14,(.int .i64),.pv⟩],[2,3,4,13],[.site 3000]++hL (.fld 3000) 0 20++[.site 2000]++hL (.fld 2000) 0 17++[.site 1000]++hL (.fld 1000) 0 20⟩)] }
theorem zr5 (x:Y61D×TMD×Unit):afun E56 Tryz.f56 P56 R56 x=F56 x:=by kernel_rfl
def F35 (x:Y61D×TMD×Unit):Option (Y61D×Unit):=
 Option.bind
 (bif decide (x.2.1.2.2.2.2.2.2.2.2.2.1=9) then
 bif decide (x.2.1.1=9) then some (Sum.inl (0,true,()))
 else
 bif decide (x.2.1.1=10) then some (Sum.inl (0,true,()))
 else
 some
 (Sum.inl
 (x.1.2.2.2.2.2.2.2.2.1,
 x.1.2.2.2.2.2.2.2.2.2.2.2.2.2.2.2.1,()))
 else
 some
 (Sum.inl
 (x.1.2.2.2.2.2.2.2.2.1,
 x.1.2.2.2.2.2.2.2.2.2.2.2.2.2.2.2.1,())))
 fun o=>
 Sum.elim
 (fun (x_1:Int×Bool×Unit)=>
 bif !decide (x.2.1.2.2.2.2.2.2.2.2.2.1=0) then
 some
 ((x.1.1,x.1.2.1,x.1.2.2.1,x.1.2.2.2.1,x.1.2.2.2.2.1,
 x.1.2.2.2.2.2.1,x.1.2.2.2.2.2.2.1,x.1.2.2.2.2.2.2.2.1,
 x_1.1,x.1.2.2.2.2.2.2.2.2.2.1,
 x.1.2.2.2.2.2.2.2.2.2.2.1,
 x.1.2.2.2.2.2.2.2.2.2.2.2.1,
 x.1.2.2.2.2.2.2.2.2.2.2.2.2.1,
 x.1.2.2.2.2.2.2.2.2.2.2.2.2.2.1,
 x.1.2.2.2.2.2.2.2.2.2.2.2.2.2.2.1,x_1.2.1,
 x.1.2.2.2.2.2.2.2.2.2.2.2.2.2.2.2.2),
 ())
 else
 Option.bind
 (bif decide (x.2.1.1=8) then
 Option.bind
 (bif decide (x.2.1.2.2.2.2.2.2.2.2.2.2.2.1.1=0) then
 bif decide (x.1.2.2.2.2.2.1.2.2.2.1.2.2.1.1=10) then
 some (Sum.inl (true,()))
 else
 some
 (Sum.inl (x.1.2.2.2.2.2.2.2.2.2.2.2.2.2.2.2.2.1,()))
 else
 some
 (Sum.inl (x.1.2.2.2.2.2.2.2.2.2.2.2.2.2.2.2.2.1,())))
 fun o=>
 Sum.elim
 (fun (x_2:Bool×Unit)=>
 bif decide (x.2.1.2.2.2.2.2.2.2.2.2.2.2.1.1=0) then
 bif decide (x.1.2.2.2.2.2.1.2.2.2.1.2.2.1.1=11) then
 some
 (Sum.inl
 (0,[],[],0,
 ((0,0,0,0,0,0,0,false,false,
 (0,0,(0,0,0,0,0,0,0,0,false,[],(0,0,[],()),()),
 (0,0,(0,[],[],[],0,0,0,[],[],[],0,0,0,false,[],[],[],()),
 ()),
 0,[],[],0,0,0,0,(0,0,false,0,[],0,0,()),[],[],false,
 (0,0,[],[],()),(0,0,0,[],[],0,[],0,0,0,()),
 ()),
 ()),
 (0,0,0,0,0,0,0,false,false,
 (0,0,(0,0,0,0,0,0,0,0,false,[],(0,0,[],()),()),
 (0,0,(0,[],[],[],0,0,0,[],[],[],0,0,0,false,[],[],[],()),
 ()),
 0,[],[],0,0,0,0,(0,0,false,0,[],0,0,()),[],[],false,
 (0,0,[],[],()),(0,0,0,[],[],0,[],0,0,0,()),
 ()),
 ()),
 ()),
 (0,0,(0,0,0,0,0,0,0,0,false,[],(0,0,[],()),()),
 (0,0,(0,[],[],[],0,0,0,[],[],[],0,0,0,false,[],[],[],()),
 ()),
 0,[],[],0,0,0,0,(0,0,false,0,[],0,0,()),[],[],false,
 (0,0,[],[],()),(0,0,0,[],[],0,[],0,0,0,()),()),
 false,(0,0,0,[],[],0,[],0,0,0,()),0,false,false,[],false,[],0,
 false,false,false,(0,0,[],[],()),false,x_1.1,
 x.1.2.2.2.2.2.2.2.2.2.1,
 x.1.2.2.2.2.2.2.2.2.2.2.1,
 x.1.2.2.2.2.2.2.2.2.2.2.2.1,x_2.1,
 x.1.2.2.2.2.2.2.2.2.2.2.2.2.2.2.2.2.2.1,
 x.1.2.2.2.2.2.2.2.2.2.2.2.2.2.2.2.2.2.2.1,true,
 ()))
 else
 some
 (Sum.inl
 (0,[],[],0,
 ((0,0,0,0,0,0,0,false,false,
 (0,0,(0,0,0,0,0,0,0,0,false,[],(0,0,[],()),()),
 (0,0,(0,[],[],[],0,0,0,[],[],[],0,0,0,false,[],[],[],()),
 ()),
 0,[],[],0,0,0,0,(0,0,false,0,[],0,0,()),[],[],false,
 (0,0,[],[],()),(0,0,0,[],[],0,[],0,0,0,()),
 ()),
 ()),
 (0,0,0,0,0,0,0,false,false,
 (0,0,(0,0,0,0,0,0,0,0,false,[],(0,0,[],()),()),
 (0,0,(0,[],[],[],0,0,0,[],[],[],0,0,0,false,[],[],[],()),
 ()),
 0,[],[],0,0,0,0,(0,0,false,0,[],0,0,()),[],[],false,
 (0,0,[],[],()),(0,0,0,[],[],0,[],0,0,0,()),
 ()),
 ()),
 ()),
 (0,0,(0,0,0,0,0,0,0,0,false,[],(0,0,[],()),()),
 (0,0,(0,[],[],[],0,0,0,[],[],[],0,0,0,false,[],[],[],()),
 ()),
 0,[],[],0,0,0,0,(0,0,false,0,[],0,0,()),[],[],false,
 (0,0,[],[],()),(0,0,0,[],[],0,[],0,0,0,()),()),
 false,(0,0,0,[],[],0,[],0,0,0,()),0,false,false,[],false,[],0,
 false,false,false,(0,0,[],[],()),false,x_1.1,
 x.1.2.2.2.2.2.2.2.2.2.1,
 x.1.2.2.2.2.2.2.2.2.2.2.1,
 x.1.2.2.2.2.2.2.2.2.2.2.2.1,x_2.1,
 x.1.2.2.2.2.2.2.2.2.2.2.2.2.2.2.2.2.2))
 else
 some
 (Sum.inl
 (0,[],[],0,
 ((0,0,0,0,0,0,0,false,false,
 (0,0,(0,0,0,0,0,0,0,0,false,[],(0,0,[],()),()),
 (0,0,(0,[],[],[],0,0,0,[],[],[],0,0,0,false,[],[],[],()),
 ()),
 0,[],[],0,0,0,0,(0,0,false,0,[],0,0,()),[],[],false,
 (0,0,[],[],()),(0,0,0,[],[],0,[],0,0,0,()),
 ()),
 ()),
 (0,0,0,0,0,0,0,false,false,
 (0,0,(0,0,0,0,0,0,0,0,false,[],(0,0,[],()),()),
 (0,0,(0,[],[],[],0,0,0,[],[],[],0,0,0,false,[],[],[],()),
 ()),
 0,[],[],0,0,0,0,(0,0,false,0,[],0,0,()),[],[],false,
 (0,0,[],[],()),(0,0,0,[],[],0,[],0,0,0,()),
 ()),
 ()),
 ()),
 (0,0,(0,0,0,0,0,0,0,0,false,[],(0,0,[],()),()),
 (0,0,(0,[],[],[],0,0,0,[],[],[],0,0,0,false,[],[],[],()),
 ()),
 0,[],[],0,0,0,0,(0,0,false,0,[],0,0,()),[],[],false,
 (0,0,[],[],()),(0,0,0,[],[],0,[],0,0,0,()),()),
 false,(0,0,0,[],[],0,[],0,0,0,()),0,false,false,[],false,[],0,
 false,false,false,(0,0,[],[],()),false,x_1.1,
 x.1.2.2.2.2.2.2.2.2.2.1,
 x.1.2.2.2.2.2.2.2.2.2.2.1,
 x.1.2.2.2.2.2.2.2.2.2.2.2.1,x_2.1,
 x.1.2.2.2.2.2.2.2.2.2.2.2.2.2.2.2.2.2)))
 some o
 else
 bif decide (x.2.1.1=9) then
 Option.bind
 (F56
 ((x.1.1,x.1.2.1,x.1.2.2.1,x.1.2.2.2.1,x.1.2.2.2.2.1,
 x.1.2.2.2.2.2.1,x.1.2.2.2.2.2.2.1,
 x.1.2.2.2.2.2.2.2.1,x_1.1,x.1.2.2.2.2.2.2.2.2.2.1,
 x.1.2.2.2.2.2.2.2.2.2.2.1,
 x.1.2.2.2.2.2.2.2.2.2.2.2.1,
 x.1.2.2.2.2.2.2.2.2.2.2.2.2.1,
 x.1.2.2.2.2.2.2.2.2.2.2.2.2.2.1,
 x.1.2.2.2.2.2.2.2.2.2.2.2.2.2.2.1,x_1.2.1,
 x.1.2.2.2.2.2.2.2.2.2.2.2.2.2.2.2.2),
 x.2))
 fun b=>
 some (Sum.inr b)
 else
 bif decide (x.2.1.1=10) then
 some
 (Sum.inl
 (0,[],[],0,
 ((0,0,0,0,0,0,0,false,false,
 (0,0,(0,0,0,0,0,0,0,0,false,[],(0,0,[],()),()),
 (0,0,(0,[],[],[],0,0,0,[],[],[],0,0,0,false,[],[],[],()),
 ()),
 0,[],[],0,0,0,0,(0,0,false,0,[],0,0,()),[],[],false,
 (0,0,[],[],()),(0,0,0,[],[],0,[],0,0,0,()),()),
 ()),
 (0,0,0,0,0,0,0,false,false,
 (0,0,(0,0,0,0,0,0,0,0,false,[],(0,0,[],()),()),
 (0,0,(0,[],[],[],0,0,0,[],[],[],0,0,0,false,[],[],[],()),
 ()),
 0,[],[],0,0,0,0,(0,0,false,0,[],0,0,()),[],[],false,
 (0,0,[],[],()),(0,0,0,[],[],0,[],0,0,0,()),()),
 ()),
 ()),
 (0,0,(0,0,0,0,0,0,0,0,false,[],(0,0,[],()),()),
 (0,0,(0,[],[],[],0,0,0,[],[],[],0,0,0,false,[],[],[],()),
 ()),
 0,[],[],0,0,0,0,(0,0,false,0,[],0,0,()),[],[],false,
 (0,0,[],[],()),(0,0,0,[],[],0,[],0,0,0,()),()),
 false,(0,0,0,[],[],0,[],0,0,0,()),0,false,false,[],false,[],0,false,
 false,false,(0,0,[],[],()),false,x_1.1,true,
 x.2.1.2.2.2.2.2.2.2.2.2.2.2.2.2.2.1,
 x.2.1.2.2.2.2.2.2.2.2.2.2.2.2.2.1,
 x.1.2.2.2.2.2.2.2.2.2.2.2.2.2.2.2.2))
 else
 bif decide (x.2.1.1=11) then
 some
 (Sum.inl
 (0,[],[],0,
 ((0,0,0,0,0,0,0,false,false,
 (0,0,(0,0,0,0,0,0,0,0,false,[],(0,0,[],()),()),
 (0,0,(0,[],[],[],0,0,0,[],[],[],0,0,0,false,[],[],[],()),
 ()),
 0,[],[],0,0,0,0,(0,0,false,0,[],0,0,()),[],[],false,
 (0,0,[],[],()),(0,0,0,[],[],0,[],0,0,0,()),()),
 ()),
 (0,0,0,0,0,0,0,false,false,
 (0,0,(0,0,0,0,0,0,0,0,false,[],(0,0,[],()),()),
 (0,0,(0,[],[],[],0,0,0,[],[],[],0,0,0,false,[],[],[],()),
 ()),
 0,[],[],0,0,0,0,(0,0,false,0,[],0,0,()),[],[],false,
 (0,0,[],[],()),(0,0,0,[],[],0,[],0,0,0,()),()),
 ()),
 ()),
 (0,0,(0,0,0,0,0,0,0,0,false,[],(0,0,[],()),()),
 (0,0,(0,[],[],[],0,0,0,[],[],[],0,0,0,false,[],[],[],()),
 ()),
 0,[],[],0,0,0,0,(0,0,false,0,[],0,0,()),[],[],false,
 (0,0,[],[],()),(0,0,0,[],[],0,[],0,0,0,()),()),
 false,(0,0,0,[],[],0,[],0,0,0,()),0,false,false,[],false,[],0,
 false,false,false,(0,0,[],[],()),false,x_1.1,
 x.1.2.2.2.2.2.2.2.2.2.1,
 x.1.2.2.2.2.2.2.2.2.2.2.1,
 x.1.2.2.2.2.2.2.2.2.2.2.2.1,
 x.1.2.2.2.2.2.2.2.2.2.2.2.2.2.2.2.2.1,true,
 x.2.1.2.2.2.2.2.2.2.2.2.2.2.2.2.2.2.1,
 x.1.2.2.2.2.2.2.2.2.2.2.2.2.2.2.2.2.2.2.2))
 else
 bif decide (x.2.1.1=12) then
 some
 (Sum.inl
 (0,[],[],0,
 ((0,0,0,0,0,0,0,false,false,
 (0,0,(0,0,0,0,0,0,0,0,false,[],(0,0,[],()),()),
 (0,0,(0,[],[],[],0,0,0,[],[],[],0,0,0,false,[],[],[],()),
 ()),
 0,[],[],0,0,0,0,(0,0,false,0,[],0,0,()),[],[],false,
 (0,0,[],[],()),(0,0,0,[],[],0,[],0,0,0,()),
 ()),
 ()),
 (0,0,0,0,0,0,0,false,false,
 (0,0,(0,0,0,0,0,0,0,0,false,[],(0,0,[],()),()),
 (0,0,(0,[],[],[],0,0,0,[],[],[],0,0,0,false,[],[],[],()),
 ()),
 0,[],[],0,0,0,0,(0,0,false,0,[],0,0,()),[],[],false,
 (0,0,[],[],()),(0,0,0,[],[],0,[],0,0,0,()),
 ()),
 ()),
 ()),
 (0,0,(0,0,0,0,0,0,0,0,false,[],(0,0,[],()),()),
 (0,0,(0,[],[],[],0,0,0,[],[],[],0,0,0,false,[],[],[],()),
 ()),
 0,[],[],0,0,0,0,(0,0,false,0,[],0,0,()),[],[],false,
 (0,0,[],[],()),(0,0,0,[],[],0,[],0,0,0,()),()),
 false,(0,0,0,[],[],0,[],0,0,0,()),0,false,false,[],false,[],0,
 false,false,false,(0,0,[],[],()),false,
 maxI x.2.1.2.2.2.2.2.2.2.1 1,
 x.1.2.2.2.2.2.2.2.2.2.1,
 x.1.2.2.2.2.2.2.2.2.2.2.1,
 x.1.2.2.2.2.2.2.2.2.2.2.2.1,
 x.1.2.2.2.2.2.2.2.2.2.2.2.2.2.2.2.2))
 else
 some
 (Sum.inl
 (0,[],[],0,
 ((0,0,0,0,0,0,0,false,false,
 (0,0,(0,0,0,0,0,0,0,0,false,[],(0,0,[],()),()),
 (0,0,(0,[],[],[],0,0,0,[],[],[],0,0,0,false,[],[],[],()),
 ()),
 0,[],[],0,0,0,0,(0,0,false,0,[],0,0,()),[],[],false,
 (0,0,[],[],()),(0,0,0,[],[],0,[],0,0,0,()),
 ()),
 ()),
 (0,0,0,0,0,0,0,false,false,
 (0,0,(0,0,0,0,0,0,0,0,false,[],(0,0,[],()),()),
 (0,0,(0,[],[],[],0,0,0,[],[],[],0,0,0,false,[],[],[],()),
 ()),
 0,[],[],0,0,0,0,(0,0,false,0,[],0,0,()),[],[],false,
 (0,0,[],[],()),(0,0,0,[],[],0,[],0,0,0,()),
 ()),
 ()),
 ()),
 (0,0,(0,0,0,0,0,0,0,0,false,[],(0,0,[],()),()),
 (0,0,(0,[],[],[],0,0,0,[],[],[],0,0,0,false,[],[],[],()),
 ()),
 0,[],[],0,0,0,0,(0,0,false,0,[],0,0,()),[],[],false,
 (0,0,[],[],()),(0,0,0,[],[],0,[],0,0,0,()),()),
 false,(0,0,0,[],[],0,[],0,0,0,()),0,false,false,[],false,[],0,
 false,false,false,(0,0,[],[],()),false,x_1.1,
 x.1.2.2.2.2.2.2.2.2.2.1,
 x.1.2.2.2.2.2.2.2.2.2.2.1,
 x.1.2.2.2.2.2.2.2.2.2.2.2.1,
 x.1.2.2.2.2.2.2.2.2.2.2.2.2.2.2.2.2)))
 fun o=>
 Sum.elim
 (fun (x_2 :
 Int×List UInt8×List UInt8×Int×((Int×Int×Int×Int×Int×Int×Int×Bool×Bool×(Int×Int×(Int×Int×Int×Int×Int×Int×Int×Int×Bool×List T25D×T25D×Unit)×(Int×Int×(Int×List UInt8×List UInt8×List UInt8×Int×Int×Int×List
 T96D×List
 T48D×List
 T48D×Int×Int×Int×Bool×List
 (List UInt8×(Int×Int×Int×Int×List
 UInt8×Int×Bool×Unit)×Unit)×List
 (Int×Int×(Int×Int×Bool×Int×List
 (List
 UInt8×(Int×Int×Int×Int×List
 UInt8×Int×Bool×Unit)×Unit)×Y22D)×Unit)×List
 zai×Unit)×Unit)×Int×List UInt8×List UInt8×Int×Int×Int×Int×(Int×Int×Bool×Int×List
 T70D×Y22D)×List
 (Int×List
 T70D×Unit)×List
 T70D×Bool×(Int×Int×List
 (Int×Int×(Int×Int×Bool×Int×List
 (List
 UInt8×(Int×Int×Int×Int×List
 UInt8×Int×Bool×Unit)×Unit)×Y22D)×Unit)×List
 zai×Unit)×T53D×Unit)×Unit)×(Int×Int×Int×Int×Int×Int×Int×Bool×Bool×(Int×Int×(Int×Int×Int×Int×Int×Int×Int×Int×Bool×List T25D×T25D×Unit)×(Int×Int×(Int×List UInt8×List UInt8×List UInt8×Int×Int×Int×List
 T96D×List
 T48D×List
 T48D×Int×Int×Int×Bool×List
 (List UInt8×(Int×Int×Int×Int×List
 UInt8×Int×Bool×Unit)×Unit)×List
 (Int×Int×(Int×Int×Bool×Int×List
 (List
 UInt8×(Int×Int×Int×Int×List
 UInt8×Int×Bool×Unit)×Unit)×Y22D)×Unit)×List
 zai×Unit)×Unit)×Int×List UInt8×List UInt8×Int×Int×Int×Int×(Int×Int×Bool×Int×List
 T70D×Y22D)×List
 (Int×List
 T70D×Unit)×List
 T70D×Bool×(Int×Int×List
 (Int×Int×(Int×Int×Bool×Int×List
 (List
 UInt8×(Int×Int×Int×Int×List
 UInt8×Int×Bool×Unit)×Unit)×Y22D)×Unit)×List
 zai×Unit)×T53D×Unit)×Unit)×Unit)×(Int×Int×(Int×Int×Int×Int×Int×Int×Int×Int×Bool×List T25D×T25D×Unit)×(Int×Int×(Int×List UInt8×List UInt8×List UInt8×Int×Int×Int×List T96D×List
 T48D×List
 T48D×Int×Int×Int×Bool×List
 T70D×List
 (Int×Int×(Int×Int×Bool×Int×List
 (List UInt8×(Int×Int×Int×Int×List
 UInt8×Int×Bool×Unit)×Unit)×Y22D)×Unit)×List zai×Unit)×Unit)×Int×List UInt8×List UInt8×Int×Int×Int×Int×(Int×Int×Bool×Int×List
 T70D×Y22D)×List
 (Int×List
 T70D×Unit)×List
 T70D×Bool×(Int×Int×List
 (Int×Int×(Int×Int×Bool×Int×List
 T70D×Y22D)×Unit)×List zai×Unit)×T53D×Unit)×Bool×T53D×Int×Bool×Bool×List
 T70D×Bool×List
 T70D×Int×Bool×Bool×Bool×(Int×Int×List
 (Int×Int×(Int×Int×Bool×Int×List
 T70D×Y22D)×Unit)×List zai×Unit)×Bool×Int×Bool×Bool×List
 T70D×Bool×Bool×(Int×Int×List
 (Int×Int×(Int×Int×Bool×Int×List
 (List UInt8×(Int×Int×Int×Int×List
 UInt8×Int×Bool×Unit)×Unit)×Y22D)×Unit)×List zai×Unit)×Bool×Unit)=>
 some
 ((x.1.1,x.1.2.1,x.1.2.2.1,x.1.2.2.2.1,x.1.2.2.2.2.1,
 x.1.2.2.2.2.2.1,x.1.2.2.2.2.2.2.1,
 x.1.2.2.2.2.2.2.2.1,
 x_2.2.2.2.2.2.2.2.2.2.2.2.2.2.2.2.2.2.2.2.2.1,
 x_2.2.2.2.2.2.2.2.2.2.2.2.2.2.2.2.2.2.2.2.2.2.1,
 x_2.2.2.2.2.2.2.2.2.2.2.2.2.2.2.2.2.2.2.2.2.2.2.1,
 x_2.2.2.2.2.2.2.2.2.2.2.2.2.2.2.2.2.2.2.2.2.2.2.2.1,
 x.1.2.2.2.2.2.2.2.2.2.2.2.2.1,
 x.1.2.2.2.2.2.2.2.2.2.2.2.2.2.1,
 x.1.2.2.2.2.2.2.2.2.2.2.2.2.2.2.1,x_1.2.1,
 x_2.2.2.2.2.2.2.2.2.2.2.2.2.2.2.2.2.2.2.2.2.2.2.2.2),
 ()))
 some o)
 some o
def S35:Sig:=⟨P35,R35,F35⟩
noncomputable def E35:Env:={ tab:=tab.opt { flats:=[(93,L93)],owns:=[87],frzs:=[89,90,91] },nt:=81,Γ:=zaj [(56,[S56])],joins:=zac [(3,⟨[⟨.fld 1000 8,(.int .i64),.pv⟩,⟨.fld 1000 15,.bool,.pv⟩],[2,3,4],[.site 3000]++hL (.fld 3000) 0 20++[.site 2000]++hL (.fld 2000) 0 17++[.site 1000]++hL (.fld 1000) 0 8++hL (.fld 1000) 9 6++hL (.fld 1000) 16 4⟩),(9,⟨[⟨.fld 1000 16,.bool,.pv⟩],[2,3,4],[.site 3000]++hL (.fld 3000) 0 20++[.site 2000]++hL (.fld 2000) 0 17++[.site 1000]++hL (.fld 1000) 0 16++[.fld 1000 17,.fld 1000 18,.fld 1000 19]⟩),(19,⟨[⟨.fld 3000 0,(.int .i64),.pv⟩,⟨.fld 3000 1,.str,.pv⟩,⟨.fld 3000 2,.str,.pv⟩,⟨.fld 3000 3,(.int .i64),.pv⟩,⟨.fld 3000 4,Y59,.pv⟩,⟨.fld 3000 5,TM,.pv⟩,⟨.fld 3000 6,.bool,.pv⟩,⟨.fld 3000 7,T53,.pv⟩,⟨.fld 3000 8,(.int .i64),.pv⟩,⟨.fld 3000 9,.bool,.pv⟩,⟨.fld 3000 10,.bool,.pv⟩,⟨.fld 3000 11,(.slice T70),.own false⟩,⟨.fld 3000 12,.bool,.pv⟩,⟨.fld 3000 13,(.slice T70),.own false⟩,⟨.fld 3000 14,(.int .i64),.pv⟩,⟨.fld 3000 15,.bool,.pv⟩,⟨.fld 3000 16,.bool,.pv⟩,⟨.fld 3000 17,.bool,.pv⟩,⟨.fld 3000 18,T55,.pv⟩,⟨.fld 3000 19,.bool,.pv⟩,⟨.fld 1000 8,(.int .i64),.pv⟩,⟨.fld 1000 9,.bool,.pv⟩,⟨.fld 1000 10,.bool,.pv⟩,⟨.fld 1000 11,(.slice T70),.pv⟩,⟨.fld 1000 16,.bool,.pv⟩,⟨.fld 1000 17,.bool,.pv⟩,⟨.fld 1000 18,T55,.pv⟩,⟨.fld 1000 19,.bool,.pv⟩],[2,4],[.site 3000,.site 1000]++hL (.fld 1000) 0 8++hL (.fld 1000) 12 4⟩)],loops:=zac [] }
theorem zsq (x:Y61D×TMD×Unit):afun E35 Tryz.f35 P35 R35 x=F35 x:=by kernel_rfl
def F14 (x:Y61D×Int×TMD×Unit):Option (Y61D×Unit):=
 zaT
 (Int×Int×List UInt8×List UInt8×Int×((Int×Int×Int×Int×Int×Int×Int×Bool×Bool×(Int×Int×(Int×Int×Int×Int×Int×Int×Int×Int×Bool×List T25D×T25D×Unit)×(Int×Int×(Int×List UInt8×List UInt8×List UInt8×Int×Int×Int×List
 T96D×List
 T48D×List
 T48D×Int×Int×Int×Bool×List
 T70D×List
 (Int×Int×(Int×Int×Bool×Int×List
 (List UInt8×(Int×Int×Int×Int×List
 UInt8×Int×Bool×Unit)×Unit)×Y22D)×Unit)×List zai×Unit)×Unit)×Int×List UInt8×List UInt8×Int×Int×Int×Int×(Int×Int×Bool×Int×List
 T70D×Y22D)×List
 (Int×List
 T70D×Unit)×List
 T70D×Bool×(Int×Int×List
 (Int×Int×(Int×Int×Bool×Int×List
 T70D×Y22D)×Unit)×List zai×Unit)×T53D×Unit)×Unit)×(Int×Int×Int×Int×Int×Int×Int×Bool×Bool×(Int×Int×(Int×Int×Int×Int×Int×Int×Int×Int×Bool×List T25D×T25D×Unit)×(Int×Int×(Int×List UInt8×List UInt8×List UInt8×Int×Int×Int×List
 T96D×List
 T48D×List
 T48D×Int×Int×Int×Bool×List
 T70D×List
 (Int×Int×(Int×Int×Bool×Int×List
 (List UInt8×(Int×Int×Int×Int×List
 UInt8×Int×Bool×Unit)×Unit)×Y22D)×Unit)×List zai×Unit)×Unit)×Int×List UInt8×List UInt8×Int×Int×Int×Int×(Int×Int×Bool×Int×List
 T70D×Y22D)×List
 (Int×List
 T70D×Unit)×List
 T70D×Bool×(Int×Int×List
 (Int×Int×(Int×Int×Bool×Int×List
 (List UInt8×(Int×Int×Int×Int×List
 UInt8×Int×Bool×Unit)×Unit)×Y22D)×Unit)×List zai×Unit)×T53D×Unit)×Unit)×Unit)×(Int×Int×(Int×Int×Int×Int×Int×Int×Int×Int×Bool×List T25D×T25D×Unit)×(Int×Int×(Int×List UInt8×List UInt8×List UInt8×Int×Int×Int×List T96D×List T48D×List T48D×Int×Int×Int×Bool×List
 T70D×List
 (Int×Int×(Int×Int×Bool×Int×List
 T70D×Y22D)×Unit)×List zai×Unit)×Unit)×Int×List UInt8×List UInt8×Int×Int×Int×Int×(Int×Int×Bool×Int×List
 T70D×Y22D)×List
 (Int×List
 T70D×Unit)×List
 T70D×Bool×(Int×Int×List
 (Int×Int×(Int×Int×Bool×Int×List
 T70D×Y22D)×Unit)×List zai×Unit)×T53D×Unit)×Bool×T53D×Int×Bool×Bool×List T70D×Bool×List T70D×Int×Bool×Bool×Bool×(Int×Int×List
 (Int×Int×(Int×Int×Bool×Int×List
 T70D×Y22D)×Unit)×List zai×Unit)×Bool×((Int×Int×Int×Int×Int×Int×Int×Bool×Bool×(Int×Int×(Int×Int×Int×Int×Int×Int×Int×Int×Bool×List
 T25D×T25D×Unit)×(Int×Int×(Int×List UInt8×List UInt8×List UInt8×Int×Int×Int×List
 (List UInt8×Int×Int×Int×List
 UInt8×Unit)×List
 (Int×List UInt8×List UInt8×List
 UInt8×Int×Unit)×List
 (Int×List UInt8×List
 UInt8×List
 UInt8×Int×Unit)×Int×Int×Int×Bool×List
 (List
 UInt8×(Int×Int×Int×Int×List
 UInt8×Int×Bool×Unit)×Unit)×List
 (Int×Int×(Int×Int×Bool×Int×List
 (List
 UInt8×(Int×Int×Int×Int×List
 UInt8×Int×Bool×Unit)×Unit)×Y22D)×Unit)×List
 zai×Unit)×Unit)×Int×List UInt8×List UInt8×Int×Int×Int×Int×(Int×Int×Bool×Int×List
 (List UInt8×(Int×Int×Int×Int×List
 UInt8×Int×Bool×Unit)×Unit)×Y22D)×List
 (Int×List
 (List UInt8×(Int×Int×Int×Int×List
 UInt8×Int×Bool×Unit)×Unit)×Unit)×List
 (List UInt8×(Int×Int×Int×Int×List
 UInt8×Int×Bool×Unit)×Unit)×Bool×(Int×Int×List
 (Int×Int×(Int×Int×Bool×Int×List
 (List
 UInt8×(Int×Int×Int×Int×List
 UInt8×Int×Bool×Unit)×Unit)×Y22D)×Unit)×List
 zai×Unit)×(Int×Int×Int×List
 UInt8×List
 UInt8×Int×List
 UInt8×zai)×Unit)×Unit)×(Int×Int×Int×Int×Int×Int×Int×Bool×Bool×(Int×Int×(Int×Int×Int×Int×Int×Int×Int×Int×Bool×List
 T25D×T25D×Unit)×(Int×Int×(Int×List UInt8×List UInt8×List UInt8×Int×Int×Int×List
 (List UInt8×Int×Int×Int×List
 UInt8×Unit)×List
 (Int×List UInt8×List
 UInt8×List
 UInt8×Int×Unit)×List
 (Int×List
 UInt8×List
 UInt8×List
 UInt8×Int×Unit)×Int×Int×Int×Bool×List
 (List
 UInt8×(Int×Int×Int×Int×List
 UInt8×Int×Bool×Unit)×Unit)×List
 (Int×Int×(Int×Int×Bool×Int×List
 (List
 UInt8×(Int×Int×Int×Int×List
 UInt8×Int×Bool×Unit)×Unit)×Y22D)×Unit)×List
 zai×Unit)×Unit)×Int×List UInt8×List UInt8×Int×Int×Int×Int×(Int×Int×Bool×Int×List
 (List
 UInt8×(Int×Int×Int×Int×List
 UInt8×Int×Bool×Unit)×Unit)×Y22D)×List
 (Int×List
 (List UInt8×(Int×Int×Int×Int×List
 UInt8×Int×Bool×Unit)×Unit)×Unit)×List
 (List UInt8×(Int×Int×Int×Int×List
 UInt8×Int×Bool×Unit)×Unit)×Bool×(Int×Int×List
 (Int×Int×(Int×Int×Bool×Int×List
 (List
 UInt8×(Int×Int×Int×Int×List
 UInt8×Int×Bool×Unit)×Unit)×Y22D)×Unit)×List
 zai×Unit)×(Int×Int×Int×List
 UInt8×List
 UInt8×Int×List
 UInt8×zai)×Unit)×Unit)×Unit)×Unit)
 ((Int×List UInt8×List UInt8×Int×((Int×Int×Int×Int×Int×Int×Int×Bool×Bool×(Int×Int×(Int×Int×Int×Int×Int×Int×Int×Int×Bool×List T25D×T25D×Unit)×(Int×Int×(Int×List UInt8×List UInt8×List UInt8×Int×Int×Int×List
 T96D×List
 T48D×List
 T48D×Int×Int×Int×Bool×List
 T70D×List
 (Int×Int×(Int×Int×Bool×Int×List
 (List UInt8×(Int×Int×Int×Int×List
 UInt8×Int×Bool×Unit)×Unit)×Y22D)×Unit)×List zai×Unit)×Unit)×Int×List UInt8×List UInt8×Int×Int×Int×Int×(Int×Int×Bool×Int×List
 T70D×Y22D)×List
 (Int×List
 T70D×Unit)×List
 T70D×Bool×(Int×Int×List
 (Int×Int×(Int×Int×Bool×Int×List
 T70D×Y22D)×Unit)×List zai×Unit)×T53D×Unit)×Unit)×(Int×Int×Int×Int×Int×Int×Int×Bool×Bool×(Int×Int×(Int×Int×Int×Int×Int×Int×Int×Int×Bool×List T25D×T25D×Unit)×(Int×Int×(Int×List UInt8×List UInt8×List UInt8×Int×Int×Int×List
 T96D×List
 T48D×List
 T48D×Int×Int×Int×Bool×List
 T70D×List
 (Int×Int×(Int×Int×Bool×Int×List
 (List UInt8×(Int×Int×Int×Int×List
 UInt8×Int×Bool×Unit)×Unit)×Y22D)×Unit)×List zai×Unit)×Unit)×Int×List UInt8×List UInt8×Int×Int×Int×Int×(Int×Int×Bool×Int×List
 T70D×Y22D)×List
 (Int×List
 T70D×Unit)×List
 T70D×Bool×(Int×Int×List
 (Int×Int×(Int×Int×Bool×Int×List
 (List UInt8×(Int×Int×Int×Int×List
 UInt8×Int×Bool×Unit)×Unit)×Y22D)×Unit)×List zai×Unit)×T53D×Unit)×Unit)×Unit)×(Int×Int×(Int×Int×Int×Int×Int×Int×Int×Int×Bool×List T25D×T25D×Unit)×(Int×Int×(Int×List UInt8×List UInt8×List UInt8×Int×Int×Int×List T96D×List T48D×List T48D×Int×Int×Int×Bool×List
 T70D×List
 (Int×Int×(Int×Int×Bool×Int×List
 T70D×Y22D)×Unit)×List zai×Unit)×Unit)×Int×List UInt8×List UInt8×Int×Int×Int×Int×(Int×Int×Bool×Int×List
 T70D×Y22D)×List
 (Int×List
 T70D×Unit)×List
 T70D×Bool×(Int×Int×List
 (Int×Int×(Int×Int×Bool×Int×List
 T70D×Y22D)×Unit)×List zai×Unit)×T53D×Unit)×Bool×T53D×Int×Bool×Bool×List T70D×Bool×List T70D×Int×Bool×Bool×Bool×(Int×Int×List
 (Int×Int×(Int×Int×Bool×Int×List
 T70D×Y22D)×Unit)×List zai×Unit)×Bool×Unit)×Unit)
 (fun (x_1 :
 Int×Int×List UInt8×List UInt8×Int×((Int×Int×Int×Int×Int×Int×Int×Bool×Bool×(Int×Int×(Int×Int×Int×Int×Int×Int×Int×Int×Bool×List T25D×T25D×Unit)×(Int×Int×(Int×List UInt8×List UInt8×List UInt8×Int×Int×Int×List
 T96D×List
 T48D×List
 T48D×Int×Int×Int×Bool×List
 T70D×List
 (Int×Int×(Int×Int×Bool×Int×List
 (List
 UInt8×(Int×Int×Int×Int×List
 UInt8×Int×Bool×Unit)×Unit)×Y22D)×Unit)×List
 zai×Unit)×Unit)×Int×List UInt8×List UInt8×Int×Int×Int×Int×(Int×Int×Bool×Int×List
 T70D×Y22D)×List
 (Int×List
 T70D×Unit)×List
 T70D×Bool×(Int×Int×List
 (Int×Int×(Int×Int×Bool×Int×List
 (List UInt8×(Int×Int×Int×Int×List
 UInt8×Int×Bool×Unit)×Unit)×Y22D)×Unit)×List zai×Unit)×T53D×Unit)×Unit)×(Int×Int×Int×Int×Int×Int×Int×Bool×Bool×(Int×Int×(Int×Int×Int×Int×Int×Int×Int×Int×Bool×List T25D×T25D×Unit)×(Int×Int×(Int×List UInt8×List UInt8×List UInt8×Int×Int×Int×List
 T96D×List
 T48D×List
 T48D×Int×Int×Int×Bool×List
 T70D×List
 (Int×Int×(Int×Int×Bool×Int×List
 (List
 UInt8×(Int×Int×Int×Int×List
 UInt8×Int×Bool×Unit)×Unit)×Y22D)×Unit)×List
 zai×Unit)×Unit)×Int×List UInt8×List UInt8×Int×Int×Int×Int×(Int×Int×Bool×Int×List
 T70D×Y22D)×List
 (Int×List
 T70D×Unit)×List
 T70D×Bool×(Int×Int×List
 (Int×Int×(Int×Int×Bool×Int×List
 (List UInt8×(Int×Int×Int×Int×List
 UInt8×Int×Bool×Unit)×Unit)×Y22D)×Unit)×List zai×Unit)×T53D×Unit)×Unit)×Unit)×(Int×Int×(Int×Int×Int×Int×Int×Int×Int×Int×Bool×List T25D×T25D×Unit)×(Int×Int×(Int×List UInt8×List UInt8×List UInt8×Int×Int×Int×List T96D×List T48D×List
 T48D×Int×Int×Int×Bool×List
 T70D×List
 (Int×Int×(Int×Int×Bool×Int×List
 T70D×Y22D)×Unit)×List zai×Unit)×Unit)×Int×List UInt8×List UInt8×Int×Int×Int×Int×(Int×Int×Bool×Int×List
 T70D×Y22D)×List
 (Int×List
 T70D×Unit)×List
 T70D×Bool×(Int×Int×List
 (Int×Int×(Int×Int×Bool×Int×List
 T70D×Y22D)×Unit)×List zai×Unit)×T53D×Unit)×Bool×T53D×Int×Bool×Bool×List
 T70D×Bool×List
 T70D×Int×Bool×Bool×Bool×(Int×Int×List
 (Int×Int×(Int×Int×Bool×Int×List
 T70D×Y22D)×Unit)×List zai×Unit)×Bool×((Int×Int×Int×Int×Int×Int×Int×Bool×Bool×(Int×Int×(Int×Int×Int×Int×Int×Int×Int×Int×Bool×List
 T25D×T25D×Unit)×(Int×Int×(Int×List UInt8×List UInt8×List UInt8×Int×Int×Int×List
 (List
 UInt8×Int×Int×Int×List
 UInt8×Unit)×List
 (Int×List
 UInt8×List
 UInt8×List
 UInt8×Int×Unit)×List
 (Int×List
 UInt8×List
 UInt8×List
 UInt8×Int×Unit)×Int×Int×Int×Bool×List
 (List
 UInt8×(Int×Int×Int×Int×List
 UInt8×Int×Bool×Unit)×Unit)×List
 (Int×Int×(Int×Int×Bool×Int×List
 (List
 UInt8×(Int×Int×Int×Int×List
 UInt8×Int×Bool×Unit)×Unit)×Y22D)×Unit)×List
 zai×Unit)×Unit)×Int×List UInt8×List UInt8×Int×Int×Int×Int×(Int×Int×Bool×Int×List
 (List
 UInt8×(Int×Int×Int×Int×List
 UInt8×Int×Bool×Unit)×Unit)×Y22D)×List
 (Int×List
 (List
 UInt8×(Int×Int×Int×Int×List
 UInt8×Int×Bool×Unit)×Unit)×Unit)×List
 (List UInt8×(Int×Int×Int×Int×List
 UInt8×Int×Bool×Unit)×Unit)×Bool×(Int×Int×List
 (Int×Int×(Int×Int×Bool×Int×List
 (List
 UInt8×(Int×Int×Int×Int×List
 UInt8×Int×Bool×Unit)×Unit)×Y22D)×Unit)×List
 zai×Unit)×(Int×Int×Int×List
 UInt8×List
 UInt8×Int×List
 UInt8×zai)×Unit)×Unit)×(Int×Int×Int×Int×Int×Int×Int×Bool×Bool×(Int×Int×(Int×Int×Int×Int×Int×Int×Int×Int×Bool×List
 (Int×Int×List
 UInt8×Unit)×(Int×Int×List
 UInt8×Unit)×Unit)×(Int×Int×(Int×List UInt8×List UInt8×List UInt8×Int×Int×Int×List
 (List
 UInt8×Int×Int×Int×List
 UInt8×Unit)×List
 (Int×List
 UInt8×List
 UInt8×List
 UInt8×Int×Unit)×List
 (Int×List
 UInt8×List
 UInt8×List
 UInt8×Int×Unit)×Int×Int×Int×Bool×List
 (List
 UInt8×(Int×Int×Int×Int×List
 UInt8×Int×Bool×Unit)×Unit)×List
 (Int×Int×(Int×Int×Bool×Int×List
 (List
 UInt8×(Int×Int×Int×Int×List
 UInt8×Int×Bool×Unit)×Unit)×Y22D)×Unit)×List
 zai×Unit)×Unit)×Int×List UInt8×List UInt8×Int×Int×Int×Int×(Int×Int×Bool×Int×List
 (List
 UInt8×(Int×Int×Int×Int×List
 UInt8×Int×Bool×Unit)×Unit)×Y22D)×List
 (Int×List
 (List
 UInt8×(Int×Int×Int×Int×List
 UInt8×Int×Bool×Unit)×Unit)×Unit)×List
 (List
 UInt8×(Int×Int×Int×Int×List
 UInt8×Int×Bool×Unit)×Unit)×Bool×(Int×Int×List
 (Int×Int×(Int×Int×Bool×Int×List
 (List
 UInt8×(Int×Int×Int×Int×List
 UInt8×Int×Bool×Unit)×Unit)×Y22D)×Unit)×List
 zai×Unit)×(Int×Int×Int×List
 UInt8×List
 UInt8×Int×List
 UInt8×zai)×Unit)×Unit)×Unit)×Unit)=>
 bif decide (x_1.1 < 2) then
 Option.bind (idxK 2 x_1.1) fun b=>
 Option.bind
 (bif Nat.beq b 0 then
 some x_1.2.2.2.2.2.2.2.2.2.2.2.2.2.2.2.2.2.2.2.2.2.1.1
 else
 bif Nat.beq b (0+1) then
 some x_1.2.2.2.2.2.2.2.2.2.2.2.2.2.2.2.2.2.2.2.2.2.1.2.1
 else none)
 fun b=>
 (F33 (b,x.2)).bind
 fun b=>
 Option.bind (idxK 2 x_1.1) fun b_1=>
 Option.bind
 (bif Nat.beq b_1 0 then
 some
 (b.1,
 x_1.2.2.2.2.2.2.2.2.2.2.2.2.2.2.2.2.2.2.2.2.2.1.2)
 else
 bif Nat.beq b_1 (0+1) then
 some
 (x_1.2.2.2.2.2.2.2.2.2.2.2.2.2.2.2.2.2.2.2.2.2.1.1,
 b.1,
 x_1.2.2.2.2.2.2.2.2.2.2.2.2.2.2.2.2.2.2.2.2.2.1.2.2)
 else none)
 fun b_2=>
 bif b.2.1 then
 bif decide (x_1.1=1) then
 Option.bind
 (F34
 ((x.1.1,x.1.2.1,x.1.2.2.1,x.1.2.2.2.1,b_2,
 x.1.2.2.2.2.2),
 x.2.2))
 fun b=>
 some (Sum.inr b)
 else
 bif b.2.1 then
 Option.bind
 (F35
 ((x.1.1,x.1.2.1,x.1.2.2.1,x.1.2.2.2.1,b_2,
 x.1.2.2.2.2.2),
 x.2.2))
 fun b=>
 some (Sum.inr b)
 else
 some
 (Sum.inl
 (wrap64 (x_1.1+1),x_1.2.1,x_1.2.2.1,x_1.2.2.2.1,
 x_1.2.2.2.2.1,x_1.2.2.2.2.2.1,x_1.2.2.2.2.2.2.1,
 x_1.2.2.2.2.2.2.2.1,x_1.2.2.2.2.2.2.2.2.1,
 x_1.2.2.2.2.2.2.2.2.2.1,
 x_1.2.2.2.2.2.2.2.2.2.2.1,
 x_1.2.2.2.2.2.2.2.2.2.2.2.1,
 x_1.2.2.2.2.2.2.2.2.2.2.2.2.1,
 x_1.2.2.2.2.2.2.2.2.2.2.2.2.2.1,
 x_1.2.2.2.2.2.2.2.2.2.2.2.2.2.2.1,
 x_1.2.2.2.2.2.2.2.2.2.2.2.2.2.2.2.1,
 x_1.2.2.2.2.2.2.2.2.2.2.2.2.2.2.2.2.1,
 x_1.2.2.2.2.2.2.2.2.2.2.2.2.2.2.2.2.2.1,
 x_1.2.2.2.2.2.2.2.2.2.2.2.2.2.2.2.2.2.2.1,
 x_1.2.2.2.2.2.2.2.2.2.2.2.2.2.2.2.2.2.2.2.1,
 x_1.2.2.2.2.2.2.2.2.2.2.2.2.2.2.2.2.2.2.2.2.1,
 b_2,()))
 else
 bif b.2.1 then
 Option.bind
 (F35
 ((x.1.1,x.1.2.1,x.1.2.2.1,x.1.2.2.2.1,b_2,
 x.1.2.2.2.2.2),
 x.2.2))
 fun b=>
 some (Sum.inr b)
 else
 some
 (Sum.inl
 (wrap64 (x_1.1+1),x_1.2.1,x_1.2.2.1,x_1.2.2.2.1,
 x_1.2.2.2.2.1,x_1.2.2.2.2.2.1,x_1.2.2.2.2.2.2.1,
 x_1.2.2.2.2.2.2.2.1,x_1.2.2.2.2.2.2.2.2.1,
 x_1.2.2.2.2.2.2.2.2.2.1,
 x_1.2.2.2.2.2.2.2.2.2.2.1,
 x_1.2.2.2.2.2.2.2.2.2.2.2.1,
 x_1.2.2.2.2.2.2.2.2.2.2.2.2.1,
 x_1.2.2.2.2.2.2.2.2.2.2.2.2.2.1,
 x_1.2.2.2.2.2.2.2.2.2.2.2.2.2.2.1,
 x_1.2.2.2.2.2.2.2.2.2.2.2.2.2.2.2.1,
 x_1.2.2.2.2.2.2.2.2.2.2.2.2.2.2.2.2.1,
 x_1.2.2.2.2.2.2.2.2.2.2.2.2.2.2.2.2.2.1,
 x_1.2.2.2.2.2.2.2.2.2.2.2.2.2.2.2.2.2.2.1,
 x_1.2.2.2.2.2.2.2.2.2.2.2.2.2.2.2.2.2.2.2.1,
 x_1.2.2.2.2.2.2.2.2.2.2.2.2.2.2.2.2.2.2.2.2.1,
 b_2,()))
 else
 some
 (Sum.inr
 ((x.1.1,x.1.2.1,x.1.2.2.1,x.1.2.2.2.1,
 x_1.2.2.2.2.2.2.2.2.2.2.2.2.2.2.2.2.2.2.2.2.2.1,
 x.1.2.2.2.2.2),
 ())))
 big
 (0,0,[],[],0,
 ((0,0,0,0,0,0,0,false,false,
 (0,0,(0,0,0,0,0,0,0,0,false,[],(0,0,[],()),()),
 (0,0,(0,[],[],[],0,0,0,[],[],[],0,0,0,false,[],[],[],()),()),0,[],[],
 0,0,0,0,(0,0,false,0,[],0,0,()),[],[],false,(0,0,[],[],()),
 (0,0,0,[],[],0,[],0,0,0,()),()),
 ()),
 (0,0,0,0,0,0,0,false,false,
 (0,0,(0,0,0,0,0,0,0,0,false,[],(0,0,[],()),()),
 (0,0,(0,[],[],[],0,0,0,[],[],[],0,0,0,false,[],[],[],()),()),0,[],[],
 0,0,0,0,(0,0,false,0,[],0,0,()),[],[],false,(0,0,[],[],()),
 (0,0,0,[],[],0,[],0,0,0,()),()),
 ()),
 ()),
 (0,0,(0,0,0,0,0,0,0,0,false,[],(0,0,[],()),()),
 (0,0,(0,[],[],[],0,0,0,[],[],[],0,0,0,false,[],[],[],()),()),0,[],[],0,
 0,0,0,(0,0,false,0,[],0,0,()),[],[],false,(0,0,[],[],()),
 (0,0,0,[],[],0,[],0,0,0,()),()),
 false,(0,0,0,[],[],0,[],0,0,0,()),0,false,false,[],false,[],0,false,false,false,
 (0,0,[],[],()),false,x.1.2.2.2.2.1,())
def S14:Sig:=⟨P14,R14,F14⟩
noncomputable def E14:Env:={ tab:=tab.opt { flats:=[(93,L93)],owns:=[87],frzs:=[89,90,91] },nt:=41,Γ:=zaj [(33,[S33]),(34,[S34]),(35,[S35])],joins:=zac [],loops:=zac [(2,zaI ⟨[⟨.slot 10,(.int .i64),.pv⟩,⟨.fld 3000 0,(.int .i64),.pv⟩,⟨.fld 3000 1,.str,.pv⟩,⟨.fld 3000 2,.str,.pv⟩,⟨.fld 3000 3,(.int .i64),.pv⟩,⟨.fld 3000 4,Y59,.pv⟩,⟨.fld 3000 5,TM,.pv⟩,⟨.fld 3000 6,.bool,.pv⟩,⟨.fld 3000 7,T53,.pv⟩,⟨.fld 3000 8,(.int .i64),.pv⟩,⟨.fld 3000 9,.bool,.pv⟩,⟨.fld 3000 10,.bool,.pv⟩,⟨.fld 3000 11,(.slice T70),.own false⟩,⟨.fld 3000 12,.bool,.pv⟩,⟨.fld 3000 13,(.slice T70),.own false⟩,⟨.fld 3000 14,(.int .i64),.pv⟩,⟨.fld 3000 15,.bool,.pv⟩,⟨.fld 3000 16,.bool,.pv⟩,⟨.fld 3000 17,.bool,.pv⟩,⟨.fld 3000 18,T55,.pv⟩,⟨.fld 3000 19,.bool,.pv⟩,⟨.fld 1000 4,Y59,.pv⟩],[1,3,5,6],[.site 3000,.site 2000]++hL (.fld 2000) 0 17++[.site 1000]++hL (.fld 1000) 0 4++hL (.fld 1000) 5 15⟩)] }
theorem zsM (x:Y61D×Int×TMD×Unit):afun E14 Tryz.f14 P14 R14 x=F14 x:=by kernel_rfl
def F15 (x:L93D×Unit):Option (T53D×Bool×L93D×Unit):=
 bif !x.1.2.2.2.2.2.1 then some ((0,0,0,[],[],0,[],0,0,0,()),false,x)
 else some (x.1.2.2.2.2.2.2.1,true,x)
def S15:Sig:=⟨P15,R15,F15⟩
noncomputable def E15:Env:={ tab:=tab.opt { flats:=[(93,L93)],owns:=[87],frzs:=[89,90,91] },nt:=18,Γ:=zaj [],joins:=zac [],loops:=zac [] }
theorem zsL (x:L93D×Unit):afun E15 Tryz.f15 P15 R15 x=F15 x:=by kernel_rfl
def F15a (x:Unit):Option (T53D×Bool×Unit):=some ((0,0,0,[],[],0,[],0,0,0,()),false,())
def S15a:Sig:=⟨P15a,R15a,F15a⟩
noncomputable def E15a:Env:={ tab:=tab.opt { flats:=[(93,L93)],owns:=[87],frzs:=[89,90,91] },nt:=18,Γ:=zaj [],joins:=zac [],loops:=zac [] }
theorem zor (x:Unit):afun E15a Tryz.f15 P15a R15a x=F15a x:=by kernel_rfl
def F16 (x:L93D×Unit):Option (Bool×L93D×Unit):=
 some (x.1.2.2.2.2.2.2.2.2.2.2.2.2.2.1,x)
def S16:Sig:=⟨P16,R16,F16⟩
noncomputable def E16:Env:={ tab:=tab.opt { flats:=[(93,L93)],owns:=[87],frzs:=[89,90,91] },nt:=11,Γ:=zaj [],joins:=zac [],loops:=zac [] }
theorem zsK (x:L93D×Unit):afun E16 Tryz.f16 P16 R16 x=F16 x:=by kernel_rfl
def F16a (x:Unit):Option (Bool×Unit):=some (false,())
def S16a:Sig:=⟨P16a,R16a,F16a⟩
noncomputable def E16a:Env:={ tab:=tab.opt { flats:=[(93,L93)],owns:=[87],frzs:=[89,90,91] },nt:=11,Γ:=zaj [],joins:=zac [],loops:=zac [] }
theorem zoj (x:Unit):afun E16a Tryz.f16 P16a R16a x=F16a x:=by kernel_rfl
def F17 (x:L93D×Int×Unit):Option (Int×L93D×Unit):=
 bif decide (x.2.1 < 0) then some (1,x.1,())
 else
 bif decide (2 < x.2.1) then some (1,x.1,())
 else some (0,(x.1.1,x.2.1,x.1.2.2),())
def S17:Sig:=⟨P17,R17,F17⟩
noncomputable def E17:Env:={ tab:=tab.opt { flats:=[(93,L93)],owns:=[87],frzs:=[89,90,91] },nt:=19,Γ:=zaj [],joins:=zac [],loops:=zac [] }
theorem zsJ (x:L93D×Int×Unit):afun E17 Tryz.f17 P17 R17 x=F17 x:=by kernel_rfl
def F17a (x:Int×Unit):Option (Int×Unit):=some (1,())
def S17a:Sig:=⟨P17a,R17a,F17a⟩
noncomputable def E17a:Env:={ tab:=tab.opt { flats:=[(93,L93)],owns:=[87],frzs:=[89,90,91] },nt:=19,Γ:=zaj [],joins:=zac [],loops:=zac [] }
theorem zoa (x:Int×Unit):afun E17a Tryz.f17 P17a R17a x=F17a x:=by kernel_rfl
def F3 (x:Y24D×List Y64D×Unit):Option (Bool×Unit):=
 (F4 ()).bind fun b=>
 bif !b.1 then (F4 ()).bind fun b=>some b
 else
 (F5 (x.2.1,60,())).bind fun b=>
 bif !b.1 then (F4 ()).bind fun b=>some b
 else
 (F6 (x.1.1,x.1.2.1,x.1.2.2.1,x.1.2.2.2.1,0,())).bind
 fun b=>
 bif !b.1 then (F4 ()).bind fun b=>some b
 else
 (F7 (x.1,0,())).bind
 fun b=>
 bif b.1.1 then
 (F8 (x.1.1,x.1.2.1,x.1.2.2.1,x.1.2.2.2.1,0,())).bind
 fun b_1=>
 zaT
 (Int×Int×Int×List UInt8×List UInt8×Int×((Int×Int×Int×Int×Int×Int×Int×Bool×Bool×(Int×Int×(Int×Int×Int×Int×Int×Int×Int×Int×Bool×List
 T25D×T25D×Unit)×(Int×Int×(Int×List UInt8×List UInt8×List UInt8×Int×Int×Int×List
 T96D×List
 T48D×List
 T48D×Int×Int×Int×Bool×List
 (List UInt8×(Int×Int×Int×Int×List
 UInt8×Int×Bool×Unit)×Unit)×List
 (Int×Int×(Int×Int×Bool×Int×List
 (List
 UInt8×(Int×Int×Int×Int×List
 UInt8×Int×Bool×Unit)×Unit)×Y22D)×Unit)×List
 zai×Unit)×Unit)×Int×List UInt8×List UInt8×Int×Int×Int×Int×(Int×Int×Bool×Int×List
 T70D×Y22D)×List
 (Int×List
 T70D×Unit)×List
 T70D×Bool×(Int×Int×List
 (Int×Int×(Int×Int×Bool×Int×List
 (List
 UInt8×(Int×Int×Int×Int×List
 UInt8×Int×Bool×Unit)×Unit)×Y22D)×Unit)×List
 zai×Unit)×T53D×Unit)×Unit)×(Int×Int×Int×Int×Int×Int×Int×Bool×Bool×(Int×Int×(Int×Int×Int×Int×Int×Int×Int×Int×Bool×List
 T25D×T25D×Unit)×(Int×Int×(Int×List UInt8×List UInt8×List UInt8×Int×Int×Int×List
 T96D×List
 T48D×List
 T48D×Int×Int×Int×Bool×List
 (List UInt8×(Int×Int×Int×Int×List
 UInt8×Int×Bool×Unit)×Unit)×List
 (Int×Int×(Int×Int×Bool×Int×List
 (List
 UInt8×(Int×Int×Int×Int×List
 UInt8×Int×Bool×Unit)×Unit)×Y22D)×Unit)×List
 zai×Unit)×Unit)×Int×List UInt8×List UInt8×Int×Int×Int×Int×(Int×Int×Bool×Int×List
 T70D×Y22D)×List
 (Int×List
 T70D×Unit)×List
 T70D×Bool×(Int×Int×List
 (Int×Int×(Int×Int×Bool×Int×List
 (List
 UInt8×(Int×Int×Int×Int×List
 UInt8×Int×Bool×Unit)×Unit)×Y22D)×Unit)×List
 zai×Unit)×T53D×Unit)×Unit)×Unit)×(Int×Int×(Int×Int×Int×Int×Int×Int×Int×Int×Bool×List T25D×T25D×Unit)×(Int×Int×(Int×List UInt8×List UInt8×List UInt8×Int×Int×Int×List
 T96D×List
 T48D×List
 T48D×Int×Int×Int×Bool×List
 T70D×List
 (Int×Int×(Int×Int×Bool×Int×List
 (List UInt8×(Int×Int×Int×Int×List
 UInt8×Int×Bool×Unit)×Unit)×Y22D)×Unit)×List zai×Unit)×Unit)×Int×List UInt8×List UInt8×Int×Int×Int×Int×(Int×Int×Bool×Int×List
 T70D×Y22D)×List
 (Int×List
 T70D×Unit)×List
 T70D×Bool×(Int×Int×List
 (Int×Int×(Int×Int×Bool×Int×List
 T70D×Y22D)×Unit)×List zai×Unit)×T53D×Unit)×Bool×T53D×Int×Bool×Bool×List
 T70D×Bool×List
 T70D×Int×Bool×Bool×Bool×(Int×Int×List
 (Int×Int×(Int×Int×Bool×Int×List
 T70D×Y22D)×Unit)×List zai×Unit)×Bool×Y24D×Int×List
 (Int×Int×Int×Int×Int×Int×Int×Bool×(Int×Int×(Int×Int×Int×Int×Int×Int×Int×Int×Bool×List
 (Int×Int×List
 UInt8×Unit)×(Int×Int×List
 UInt8×Unit)×Unit)×(Int×Int×(Int×List UInt8×List
 UInt8×List
 UInt8×Int×Int×Int×List
 (List
 UInt8×Int×Int×Int×List
 UInt8×Unit)×List
 (Int×List
 UInt8×List
 UInt8×List
 UInt8×Int×Unit)×List
 (Int×List
 UInt8×List
 UInt8×List
 UInt8×Int×Unit)×Int×Int×Int×Bool×List
 (List
 UInt8×(Int×Int×Int×Int×List
 UInt8×Int×Bool×Unit)×Unit)×List
 (Int×Int×(Int×Int×Bool×Int×List
 (List
 UInt8×(Int×Int×Int×Int×List
 UInt8×Int×Bool×Unit)×Unit)×Y22D)×Unit)×List
 zai×Unit)×Unit)×Int×List UInt8×List UInt8×Int×Int×Int×Int×(Int×Int×Bool×Int×List
 (List
 UInt8×(Int×Int×Int×Int×List
 UInt8×Int×Bool×Unit)×Unit)×Y22D)×List
 (Int×List
 (List
 UInt8×(Int×Int×Int×Int×List
 UInt8×Int×Bool×Unit)×Unit)×Unit)×List
 (List
 UInt8×(Int×Int×Int×Int×List
 UInt8×Int×Bool×Unit)×Unit)×Bool×(Int×Int×List
 (Int×Int×(Int×Int×Bool×Int×List
 (List
 UInt8×(Int×Int×Int×Int×List
 UInt8×Int×Bool×Unit)×Unit)×Y22D)×Unit)×List
 zai×Unit)×(Int×Int×Int×List
 UInt8×List
 UInt8×Int×List
 UInt8×zai)×Unit)×Unit)×List
 (Int×Int×Int×Int×Int×Int×Int×Bool×(Int×Int×(Int×Int×Int×Int×Int×Int×Int×Int×Bool×List
 (Int×Int×List
 UInt8×Unit)×(Int×Int×List
 UInt8×Unit)×Unit)×(Int×Int×(Int×List
 UInt8×List
 UInt8×List
 UInt8×Int×Int×Int×List
 (List
 UInt8×Int×Int×Int×List
 UInt8×Unit)×List
 (Int×List
 UInt8×List
 UInt8×List
 UInt8×Int×Unit)×List
 (Int×List
 UInt8×List
 UInt8×List
 UInt8×Int×Unit)×Int×Int×Int×Bool×List
 (List
 UInt8×(Int×Int×Int×Int×List
 UInt8×Int×Bool×Unit)×Unit)×List
 (Int×Int×(Int×Int×Bool×Int×List
 (List
 UInt8×(Int×Int×Int×Int×List
 UInt8×Int×Bool×Unit)×Unit)×Y22D)×Unit)×List
 zai×Unit)×Unit)×Int×List UInt8×List UInt8×Int×Int×Int×Int×(Int×Int×Bool×Int×List
 (List
 UInt8×(Int×Int×Int×Int×List
 UInt8×Int×Bool×Unit)×Unit)×Y22D)×List
 (Int×List
 (List
 UInt8×(Int×Int×Int×Int×List
 UInt8×Int×Bool×Unit)×Unit)×Unit)×List
 (List
 UInt8×(Int×Int×Int×Int×List
 UInt8×Int×Bool×Unit)×Unit)×Bool×(Int×Int×List
 (Int×Int×(Int×Int×Bool×Int×List
 (List
 UInt8×(Int×Int×Int×Int×List
 UInt8×Int×Bool×Unit)×Unit)×Y22D)×Unit)×List
 zai×Unit)×(Int×Int×Int×List
 UInt8×List
 UInt8×Int×List
 UInt8×zai)×Unit)×Unit)×(Int×Int×(Int×Int×Int×Int×Int×Int×Int×Int×Bool×List
 T25D×T25D×Unit)×(Int×Int×(Int×List UInt8×List UInt8×List UInt8×Int×Int×Int×List
 (List
 UInt8×Int×Int×Int×List
 UInt8×Unit)×List
 (Int×List
 UInt8×List
 UInt8×List
 UInt8×Int×Unit)×List
 (Int×List
 UInt8×List
 UInt8×List
 UInt8×Int×Unit)×Int×Int×Int×Bool×List
 (List
 UInt8×(Int×Int×Int×Int×List
 UInt8×Int×Bool×Unit)×Unit)×List
 (Int×Int×(Int×Int×Bool×Int×List
 (List
 UInt8×(Int×Int×Int×Int×List
 UInt8×Int×Bool×Unit)×Unit)×Y22D)×Unit)×List
 zai×Unit)×Unit)×Int×List UInt8×List UInt8×Int×Int×Int×Int×(Int×Int×Bool×Int×List
 (List
 UInt8×(Int×Int×Int×Int×List
 UInt8×Int×Bool×Unit)×Unit)×Y22D)×List
 (Int×List
 (List
 UInt8×(Int×Int×Int×Int×List
 UInt8×Int×Bool×Unit)×Unit)×Unit)×List
 (List UInt8×(Int×Int×Int×Int×List
 UInt8×Int×Bool×Unit)×Unit)×Bool×(Int×Int×List
 (Int×Int×(Int×Int×Bool×Int×List
 (List
 UInt8×(Int×Int×Int×Int×List
 UInt8×Int×Bool×Unit)×Unit)×Y22D)×Unit)×List
 zai×Unit)×(Int×Int×Int×List
 UInt8×List
 UInt8×Int×List
 UInt8×zai)×Unit)×Bool×T53D×Int×List
 (List
 T70D×Bool×Unit)×List
 (List
 T70D×Int×Unit)×Bool×Bool×List
 (Int×Int×List
 (Int×Int×(Int×Int×Bool×Int×List
 (List
 UInt8×(Int×Int×Int×Int×List
 UInt8×Int×Bool×Unit)×Unit)×Y22D)×Unit)×List
 zai×Unit)×Bool×Unit)
 (Bool×Unit)
 (fun (x_1 :
 Int×Int×Int×List UInt8×List UInt8×Int×((Int×Int×Int×Int×Int×Int×Int×Bool×Bool×(Int×Int×(Int×Int×Int×Int×Int×Int×Int×Int×Bool×List
 T25D×T25D×Unit)×(Int×Int×(Int×List UInt8×List UInt8×List UInt8×Int×Int×Int×List
 T96D×List
 T48D×List
 T48D×Int×Int×Int×Bool×List
 (List
 UInt8×(Int×Int×Int×Int×List
 UInt8×Int×Bool×Unit)×Unit)×List
 (Int×Int×(Int×Int×Bool×Int×List
 (List
 UInt8×(Int×Int×Int×Int×List
 UInt8×Int×Bool×Unit)×Unit)×Y22D)×Unit)×List
 zai×Unit)×Unit)×Int×List UInt8×List UInt8×Int×Int×Int×Int×(Int×Int×Bool×Int×List
 (List UInt8×(Int×Int×Int×Int×List
 UInt8×Int×Bool×Unit)×Unit)×Y22D)×List
 (Int×List
 (List UInt8×(Int×Int×Int×Int×List
 UInt8×Int×Bool×Unit)×Unit)×Unit)×List
 T70D×Bool×(Int×Int×List
 (Int×Int×(Int×Int×Bool×Int×List
 (List
 UInt8×(Int×Int×Int×Int×List
 UInt8×Int×Bool×Unit)×Unit)×Y22D)×Unit)×List
 zai×Unit)×(Int×Int×Int×List UInt8×List UInt8×Int×List
 UInt8×zai)×Unit)×Unit)×(Int×Int×Int×Int×Int×Int×Int×Bool×Bool×(Int×Int×(Int×Int×Int×Int×Int×Int×Int×Int×Bool×List
 T25D×T25D×Unit)×(Int×Int×(Int×List UInt8×List UInt8×List UInt8×Int×Int×Int×List
 T96D×List
 T48D×List
 T48D×Int×Int×Int×Bool×List
 (List
 UInt8×(Int×Int×Int×Int×List
 UInt8×Int×Bool×Unit)×Unit)×List
 (Int×Int×(Int×Int×Bool×Int×List
 (List
 UInt8×(Int×Int×Int×Int×List
 UInt8×Int×Bool×Unit)×Unit)×Y22D)×Unit)×List
 zai×Unit)×Unit)×Int×List UInt8×List UInt8×Int×Int×Int×Int×(Int×Int×Bool×Int×List
 (List UInt8×(Int×Int×Int×Int×List
 UInt8×Int×Bool×Unit)×Unit)×Y22D)×List
 (Int×List
 (List UInt8×(Int×Int×Int×Int×List
 UInt8×Int×Bool×Unit)×Unit)×Unit)×List
 T70D×Bool×(Int×Int×List
 (Int×Int×(Int×Int×Bool×Int×List
 (List
 UInt8×(Int×Int×Int×Int×List
 UInt8×Int×Bool×Unit)×Unit)×Y22D)×Unit)×List
 zai×Unit)×(Int×Int×Int×List UInt8×List UInt8×Int×List
 UInt8×zai)×Unit)×Unit)×Unit)×(Int×Int×(Int×Int×Int×Int×Int×Int×Int×Int×Bool×List T25D×T25D×Unit)×(Int×Int×(Int×List UInt8×List UInt8×List UInt8×Int×Int×Int×List
 T96D×List
 T48D×List
 T48D×Int×Int×Int×Bool×List
 T70D×List
 (Int×Int×(Int×Int×Bool×Int×List
 (List
 UInt8×(Int×Int×Int×Int×List
 UInt8×Int×Bool×Unit)×Unit)×Y22D)×Unit)×List
 zai×Unit)×Unit)×Int×List UInt8×List UInt8×Int×Int×Int×Int×(Int×Int×Bool×Int×List
 T70D×Y22D)×List
 (Int×List
 T70D×Unit)×List
 T70D×Bool×(Int×Int×List
 (Int×Int×(Int×Int×Bool×Int×List
 (List UInt8×(Int×Int×Int×Int×List
 UInt8×Int×Bool×Unit)×Unit)×Y22D)×Unit)×List zai×Unit)×T53D×Unit)×Bool×T53D×Int×Bool×Bool×List
 T70D×Bool×List
 T70D×Int×Bool×Bool×Bool×(Int×Int×List
 (Int×Int×(Int×Int×Bool×Int×List
 T70D×Y22D)×Unit)×List zai×Unit)×Bool×Y24D×Int×List
 (Int×Int×Int×Int×Int×Int×Int×Bool×(Int×Int×(Int×Int×Int×Int×Int×Int×Int×Int×Bool×List
 (Int×Int×List
 UInt8×Unit)×(Int×Int×List
 UInt8×Unit)×Unit)×(Int×Int×(Int×List
 UInt8×List
 UInt8×List
 UInt8×Int×Int×Int×List
 (List
 UInt8×Int×Int×Int×List
 UInt8×Unit)×List
 (Int×List
 UInt8×List
 UInt8×List
 UInt8×Int×Unit)×List
 (Int×List
 UInt8×List
 UInt8×List
 UInt8×Int×Unit)×Int×Int×Int×Bool×List
 (List
 UInt8×(Int×Int×Int×Int×List
 UInt8×Int×Bool×Unit)×Unit)×List
 (Int×Int×(Int×Int×Bool×Int×List
 (List
 UInt8×(Int×Int×Int×Int×List
 UInt8×Int×Bool×Unit)×Unit)×Y22D)×Unit)×List
 zai×Unit)×Unit)×Int×List UInt8×List
 UInt8×Int×Int×Int×Int×(Int×Int×Bool×Int×List
 (List
 UInt8×(Int×Int×Int×Int×List
 UInt8×Int×Bool×Unit)×Unit)×Y22D)×List
 (Int×List
 (List
 UInt8×(Int×Int×Int×Int×List
 UInt8×Int×Bool×Unit)×Unit)×Unit)×List
 (List
 UInt8×(Int×Int×Int×Int×List
 UInt8×Int×Bool×Unit)×Unit)×Bool×(Int×Int×List
 (Int×Int×(Int×Int×Bool×Int×List
 (List
 UInt8×(Int×Int×Int×Int×List
 UInt8×Int×Bool×Unit)×Unit)×Y22D)×Unit)×List
 zai×Unit)×(Int×Int×Int×List
 UInt8×List
 UInt8×Int×List
 UInt8×zai)×Unit)×Unit)×List
 (Int×Int×Int×Int×Int×Int×Int×Bool×(Int×Int×(Int×Int×Int×Int×Int×Int×Int×Int×Bool×List
 (Int×Int×List
 UInt8×Unit)×(Int×Int×List
 UInt8×Unit)×Unit)×(Int×Int×(Int×List
 UInt8×List
 UInt8×List
 UInt8×Int×Int×Int×List
 (List
 UInt8×Int×Int×Int×List
 UInt8×Unit)×List
 (Int×List
 UInt8×List
 UInt8×List
 UInt8×Int×Unit)×List
 (Int×List
 UInt8×List
 UInt8×List
 UInt8×Int×Unit)×Int×Int×Int×Bool×List
 (List
 UInt8×(Int×Int×Int×Int×List
 UInt8×Int×Bool×Unit)×Unit)×List
 (Int×Int×(Int×Int×Bool×Int×List
 (List
 UInt8×(Int×Int×Int×Int×List
 UInt8×Int×Bool×Unit)×Unit)×Y22D)×Unit)×List
 zai×Unit)×Unit)×Int×List
 UInt8×List
 UInt8×Int×Int×Int×Int×(Int×Int×Bool×Int×List
 (List
 UInt8×(Int×Int×Int×Int×List
 UInt8×Int×Bool×Unit)×Unit)×Y22D)×List
 (Int×List
 (List
 UInt8×(Int×Int×Int×Int×List
 UInt8×Int×Bool×Unit)×Unit)×Unit)×List
 (List
 UInt8×(Int×Int×Int×Int×List
 UInt8×Int×Bool×Unit)×Unit)×Bool×(Int×Int×List
 (Int×Int×(Int×Int×Bool×Int×List
 (List
 UInt8×(Int×Int×Int×Int×List
 UInt8×Int×Bool×Unit)×Unit)×Y22D)×Unit)×List
 zai×Unit)×(Int×Int×Int×List
 UInt8×List
 UInt8×Int×List
 UInt8×zai)×Unit)×Unit)×(Int×Int×(Int×Int×Int×Int×Int×Int×Int×Int×Bool×List
 (Int×Int×List
 UInt8×Unit)×(Int×Int×List
 UInt8×Unit)×Unit)×(Int×Int×(Int×List UInt8×List UInt8×List UInt8×Int×Int×Int×List
 (List
 UInt8×Int×Int×Int×List
 UInt8×Unit)×List
 (Int×List
 UInt8×List
 UInt8×List
 UInt8×Int×Unit)×List
 (Int×List
 UInt8×List
 UInt8×List
 UInt8×Int×Unit)×Int×Int×Int×Bool×List
 (List
 UInt8×(Int×Int×Int×Int×List
 UInt8×Int×Bool×Unit)×Unit)×List
 (Int×Int×(Int×Int×Bool×Int×List
 (List
 UInt8×(Int×Int×Int×Int×List
 UInt8×Int×Bool×Unit)×Unit)×Y22D)×Unit)×List
 zai×Unit)×Unit)×Int×List UInt8×List UInt8×Int×Int×Int×Int×(Int×Int×Bool×Int×List
 (List
 UInt8×(Int×Int×Int×Int×List
 UInt8×Int×Bool×Unit)×Unit)×Y22D)×List
 (Int×List
 (List
 UInt8×(Int×Int×Int×Int×List
 UInt8×Int×Bool×Unit)×Unit)×Unit)×List
 (List
 UInt8×(Int×Int×Int×Int×List
 UInt8×Int×Bool×Unit)×Unit)×Bool×(Int×Int×List
 (Int×Int×(Int×Int×Bool×Int×List
 (List
 UInt8×(Int×Int×Int×Int×List
 UInt8×Int×Bool×Unit)×Unit)×Y22D)×Unit)×List
 zai×Unit)×(Int×Int×Int×List
 UInt8×List
 UInt8×Int×List
 UInt8×zai)×Unit)×Bool×T53D×Int×List
 (List
 T70D×Bool×Unit)×List
 (List
 (List UInt8×(Int×Int×Int×Int×List
 UInt8×Int×Bool×Unit)×Unit)×Int×Unit)×Bool×Bool×List
 (Int×Int×List
 (Int×Int×(Int×Int×Bool×Int×List
 (List
 UInt8×(Int×Int×Int×Int×List
 UInt8×Int×Bool×Unit)×Unit)×Y22D)×Unit)×List
 zai×Unit)×Bool×Unit)=>
 bif decide (x_1.2.1 < Int.ofNat (List.length x.2.1)) then
 Option.bind
 ((idx x.2.1 x_1.2.1).bind
 fun b=>
 bif decide (zax b.1=zax (UInt8.ofNat 0)) then
 Option.bind
 (F9
 (x_1.2.2.2.2.2.2.2.2.2.2.2.2.2.2.2.2.2.2.2.2.2.2,
 ()))
 fun b=>
 Option.bind
 (F10
 ((x_1.2.2.1,x_1.2.2.2.1,x_1.2.2.2.2.1,
 x_1.2.2.2.2.2.1,x_1.2.2.2.2.2.2.1,
 x_1.2.2.2.2.2.2.2.1,x_1.2.2.2.2.2.2.2.2.1,
 x_1.2.2.2.2.2.2.2.2.2.1,
 x_1.2.2.2.2.2.2.2.2.2.2.1,
 x_1.2.2.2.2.2.2.2.2.2.2.2.1,
 x_1.2.2.2.2.2.2.2.2.2.2.2.2.1,
 x_1.2.2.2.2.2.2.2.2.2.2.2.2.2.1,
 x_1.2.2.2.2.2.2.2.2.2.2.2.2.2.2.1,
 x_1.2.2.2.2.2.2.2.2.2.2.2.2.2.2.2.1,
 x_1.2.2.2.2.2.2.2.2.2.2.2.2.2.2.2.2.1,
 x_1.2.2.2.2.2.2.2.2.2.2.2.2.2.2.2.2.2.1,
 x_1.2.2.2.2.2.2.2.2.2.2.2.2.2.2.2.2.2.2.1,
 x_1.2.2.2.2.2.2.2.2.2.2.2.2.2.2.2.2.2.2.2.1,
 x_1.2.2.2.2.2.2.2.2.2.2.2.2.2.2.2.2.2.2.2.2.1,
 x_1.2.2.2.2.2.2.2.2.2.2.2.2.2.2.2.2.2.2.2.2.2.1,
 ()),
 ()))
 fun b_2=>
 (quoO IntKind.i64 b.1.2.1 4).bind fun b_3=>
 Option.bind
 (bif b.2.1 then
 bif !decide (b_3=0) then
 bif !decide (b_3=1) then
 some (Sum.inr (Sum.inr (Sum.inr (false,()))))
 else some (Sum.inl ())
 else some (Sum.inl ())
 else some (Sum.inl ()))
 fun o=>
 Sum.elim
 (fun (_z:Unit)=>
 bif b.2.1 then
 bif !decide (x_1.1=0) then
 bif
 !decide
 (wrap64
 (wrap64 (2*b.1.2.2.1.2.1) +
 b_3) =
 x_1.1) then
 some (Sum.inr (Sum.inr (false,())))
 else
 bif b.2.1 then
 some
 (Sum.inl
 (wrap64
 (wrap64 (2*b.1.2.2.1.2.1) +
 b_3),
 b_2.1.1,b_2.1.2.1,b_2.1.2.2.1,
 b_2.1.2.2.2.1,b_2.1.2.2.2.2.1,
 b_2.1.2.2.2.2.2.1,
 b_2.1.2.2.2.2.2.2.1,
 b_2.1.2.2.2.2.2.2.2.1,
 b_2.1.2.2.2.2.2.2.2.2.1,
 b_2.1.2.2.2.2.2.2.2.2.2.1,
 b_2.1.2.2.2.2.2.2.2.2.2.2.1,
 b_2.1.2.2.2.2.2.2.2.2.2.2.2.1,
 b_2.1.2.2.2.2.2.2.2.2.2.2.2.2.1,
 b_2.1.2.2.2.2.2.2.2.2.2.2.2.2.2.1,
 b_2.1.2.2.2.2.2.2.2.2.2.2.2.2.2.2.1,
 b_2.1.2.2.2.2.2.2.2.2.2.2.2.2.2.2.2.1,
 b_2.1.2.2.2.2.2.2.2.2.2.2.2.2.2.2.2.2.1,
 b_2.1.2.2.2.2.2.2.2.2.2.2.2.2.2.2.2.2.2.1,
 b_2.1.2.2.2.2.2.2.2.2.2.2.2.2.2.2.2.2.2.2.1,
 b_2.1.2.2.2.2.2.2.2.2.2.2.2.2.2.2.2.2.2.2.2.1,
 b.2.2.1))
 else
 some
 (Sum.inl
 (x_1.1,b_2.1.1,b_2.1.2.1,b_2.1.2.2.1,
 b_2.1.2.2.2.1,b_2.1.2.2.2.2.1,
 b_2.1.2.2.2.2.2.1,
 b_2.1.2.2.2.2.2.2.1,
 b_2.1.2.2.2.2.2.2.2.1,
 b_2.1.2.2.2.2.2.2.2.2.1,
 b_2.1.2.2.2.2.2.2.2.2.2.1,
 b_2.1.2.2.2.2.2.2.2.2.2.2.1,
 b_2.1.2.2.2.2.2.2.2.2.2.2.2.1,
 b_2.1.2.2.2.2.2.2.2.2.2.2.2.2.1,
 b_2.1.2.2.2.2.2.2.2.2.2.2.2.2.2.1,
 b_2.1.2.2.2.2.2.2.2.2.2.2.2.2.2.2.1,
 b_2.1.2.2.2.2.2.2.2.2.2.2.2.2.2.2.2.1,
 b_2.1.2.2.2.2.2.2.2.2.2.2.2.2.2.2.2.2.1,
 b_2.1.2.2.2.2.2.2.2.2.2.2.2.2.2.2.2.2.2.1,
 b_2.1.2.2.2.2.2.2.2.2.2.2.2.2.2.2.2.2.2.2.1,
 b_2.1.2.2.2.2.2.2.2.2.2.2.2.2.2.2.2.2.2.2.2.1,
 b.2.2.1))
 else
 bif b.2.1 then
 some
 (Sum.inl
 (wrap64
 (wrap64 (2*b.1.2.2.1.2.1) +
 b_3),
 b_2.1.1,b_2.1.2.1,b_2.1.2.2.1,
 b_2.1.2.2.2.1,b_2.1.2.2.2.2.1,
 b_2.1.2.2.2.2.2.1,
 b_2.1.2.2.2.2.2.2.1,
 b_2.1.2.2.2.2.2.2.2.1,
 b_2.1.2.2.2.2.2.2.2.2.1,
 b_2.1.2.2.2.2.2.2.2.2.2.1,
 b_2.1.2.2.2.2.2.2.2.2.2.2.1,
 b_2.1.2.2.2.2.2.2.2.2.2.2.2.1,
 b_2.1.2.2.2.2.2.2.2.2.2.2.2.2.1,
 b_2.1.2.2.2.2.2.2.2.2.2.2.2.2.2.1,
 b_2.1.2.2.2.2.2.2.2.2.2.2.2.2.2.2.1,
 b_2.1.2.2.2.2.2.2.2.2.2.2.2.2.2.2.2.1,
 b_2.1.2.2.2.2.2.2.2.2.2.2.2.2.2.2.2.2.1,
 b_2.1.2.2.2.2.2.2.2.2.2.2.2.2.2.2.2.2.2.1,
 b_2.1.2.2.2.2.2.2.2.2.2.2.2.2.2.2.2.2.2.2.1,
 b_2.1.2.2.2.2.2.2.2.2.2.2.2.2.2.2.2.2.2.2.2.1,
 b.2.2.1))
 else
 some
 (Sum.inl
 (x_1.1,b_2.1.1,b_2.1.2.1,b_2.1.2.2.1,
 b_2.1.2.2.2.1,b_2.1.2.2.2.2.1,
 b_2.1.2.2.2.2.2.1,
 b_2.1.2.2.2.2.2.2.1,
 b_2.1.2.2.2.2.2.2.2.1,
 b_2.1.2.2.2.2.2.2.2.2.1,
 b_2.1.2.2.2.2.2.2.2.2.2.1,
 b_2.1.2.2.2.2.2.2.2.2.2.2.1,
 b_2.1.2.2.2.2.2.2.2.2.2.2.2.1,
 b_2.1.2.2.2.2.2.2.2.2.2.2.2.2.1,
 b_2.1.2.2.2.2.2.2.2.2.2.2.2.2.2.1,
 b_2.1.2.2.2.2.2.2.2.2.2.2.2.2.2.2.1,
 b_2.1.2.2.2.2.2.2.2.2.2.2.2.2.2.2.2.1,
 b_2.1.2.2.2.2.2.2.2.2.2.2.2.2.2.2.2.2.1,
 b_2.1.2.2.2.2.2.2.2.2.2.2.2.2.2.2.2.2.2.1,
 b_2.1.2.2.2.2.2.2.2.2.2.2.2.2.2.2.2.2.2.2.1,
 b_2.1.2.2.2.2.2.2.2.2.2.2.2.2.2.2.2.2.2.2.2.1,
 b.2.2.1))
 else
 bif b.2.1 then
 some
 (Sum.inl
 (wrap64
 (wrap64 (2*b.1.2.2.1.2.1) +
 b_3),
 b_2.1.1,b_2.1.2.1,b_2.1.2.2.1,
 b_2.1.2.2.2.1,b_2.1.2.2.2.2.1,
 b_2.1.2.2.2.2.2.1,
 b_2.1.2.2.2.2.2.2.1,
 b_2.1.2.2.2.2.2.2.2.1,
 b_2.1.2.2.2.2.2.2.2.2.1,
 b_2.1.2.2.2.2.2.2.2.2.2.1,
 b_2.1.2.2.2.2.2.2.2.2.2.2.1,
 b_2.1.2.2.2.2.2.2.2.2.2.2.2.1,
 b_2.1.2.2.2.2.2.2.2.2.2.2.2.2.1,
 b_2.1.2.2.2.2.2.2.2.2.2.2.2.2.2.1,
 b_2.1.2.2.2.2.2.2.2.2.2.2.2.2.2.2.1,
 b_2.1.2.2.2.2.2.2.2.2.2.2.2.2.2.2.2.1,
 b_2.1.2.2.2.2.2.2.2.2.2.2.2.2.2.2.2.2.1,
 b_2.1.2.2.2.2.2.2.2.2.2.2.2.2.2.2.2.2.2.1,
 b_2.1.2.2.2.2.2.2.2.2.2.2.2.2.2.2.2.2.2.2.1,
 b_2.1.2.2.2.2.2.2.2.2.2.2.2.2.2.2.2.2.2.2.2.1,
 b.2.2.1))
 else
 some
 (Sum.inl
 (x_1.1,b_2.1.1,b_2.1.2.1,b_2.1.2.2.1,
 b_2.1.2.2.2.1,b_2.1.2.2.2.2.1,
 b_2.1.2.2.2.2.2.1,
 b_2.1.2.2.2.2.2.2.1,
 b_2.1.2.2.2.2.2.2.2.1,
 b_2.1.2.2.2.2.2.2.2.2.1,
 b_2.1.2.2.2.2.2.2.2.2.2.1,
 b_2.1.2.2.2.2.2.2.2.2.2.2.1,
 b_2.1.2.2.2.2.2.2.2.2.2.2.2.1,
 b_2.1.2.2.2.2.2.2.2.2.2.2.2.2.1,
 b_2.1.2.2.2.2.2.2.2.2.2.2.2.2.2.1,
 b_2.1.2.2.2.2.2.2.2.2.2.2.2.2.2.2.1,
 b_2.1.2.2.2.2.2.2.2.2.2.2.2.2.2.2.2.1,
 b_2.1.2.2.2.2.2.2.2.2.2.2.2.2.2.2.2.2.1,
 b_2.1.2.2.2.2.2.2.2.2.2.2.2.2.2.2.2.2.2.1,
 b_2.1.2.2.2.2.2.2.2.2.2.2.2.2.2.2.2.2.2.2.1,
 b_2.1.2.2.2.2.2.2.2.2.2.2.2.2.2.2.2.2.2.2.2.1,
 b.2.2.1)))
 some o
 else
 bif decide (zax b.1=zax (UInt8.ofNat 2)) then
 Option.bind
 (F11
 ((x_1.2.2.1,x_1.2.2.2.1,x_1.2.2.2.2.1,
 x_1.2.2.2.2.2.1,x_1.2.2.2.2.2.2.1,
 x_1.2.2.2.2.2.2.2.1,x_1.2.2.2.2.2.2.2.2.1,
 x_1.2.2.2.2.2.2.2.2.2.1,
 x_1.2.2.2.2.2.2.2.2.2.2.1,
 x_1.2.2.2.2.2.2.2.2.2.2.2.1,
 x_1.2.2.2.2.2.2.2.2.2.2.2.2.1,
 x_1.2.2.2.2.2.2.2.2.2.2.2.2.2.1,
 x_1.2.2.2.2.2.2.2.2.2.2.2.2.2.2.1,
 x_1.2.2.2.2.2.2.2.2.2.2.2.2.2.2.2.1,
 x_1.2.2.2.2.2.2.2.2.2.2.2.2.2.2.2.2.1,
 x_1.2.2.2.2.2.2.2.2.2.2.2.2.2.2.2.2.2.1,
 x_1.2.2.2.2.2.2.2.2.2.2.2.2.2.2.2.2.2.2.1,
 x_1.2.2.2.2.2.2.2.2.2.2.2.2.2.2.2.2.2.2.2.1,
 x_1.2.2.2.2.2.2.2.2.2.2.2.2.2.2.2.2.2.2.2.2.1,
 x_1.2.2.2.2.2.2.2.2.2.2.2.2.2.2.2.2.2.2.2.2.2.1,
 ()),
 b,()))
 fun b=>
 (F13 b.1.2.2.2).bind
 fun b_2=>
 Option.bind
 (F12
 (x_1.2.2.2.2.2.2.2.2.2.2.2.2.2.2.2.2.2.2.2.2.2.2,
 b.1.2.1,b_2))
 fun b_3=>
 Option.bind
 (F14
 ((x_1.2.2.1,x_1.2.2.2.1,x_1.2.2.2.2.1,
 x_1.2.2.2.2.2.1,x_1.2.2.2.2.2.2.1,
 x_1.2.2.2.2.2.2.2.1,
 x_1.2.2.2.2.2.2.2.2.1,
 x_1.2.2.2.2.2.2.2.2.2.1,
 x_1.2.2.2.2.2.2.2.2.2.2.1,
 x_1.2.2.2.2.2.2.2.2.2.2.2.1,
 x_1.2.2.2.2.2.2.2.2.2.2.2.2.1,
 x_1.2.2.2.2.2.2.2.2.2.2.2.2.2.1,
 x_1.2.2.2.2.2.2.2.2.2.2.2.2.2.2.1,
 x_1.2.2.2.2.2.2.2.2.2.2.2.2.2.2.2.1,
 x_1.2.2.2.2.2.2.2.2.2.2.2.2.2.2.2.2.1,
 x_1.2.2.2.2.2.2.2.2.2.2.2.2.2.2.2.2.2.1,
 x_1.2.2.2.2.2.2.2.2.2.2.2.2.2.2.2.2.2.2.1,
 x_1.2.2.2.2.2.2.2.2.2.2.2.2.2.2.2.2.2.2.2.1,
 x_1.2.2.2.2.2.2.2.2.2.2.2.2.2.2.2.2.2.2.2.2.1,
 x_1.2.2.2.2.2.2.2.2.2.2.2.2.2.2.2.2.2.2.2.2.2.1,
 ()),
 b.1.2.1,b.1.2.2.2))
 fun b=>
 bif !b.1.2.2.2.2.1.1.2.2.2.2.2.2.2.1 then
 bif !b.1.2.2.2.2.1.2.1.2.2.2.2.2.2.2.1 then
 some
 (Sum.inl
 (0,b.1.1,b.1.2.1,b.1.2.2.1,
 b.1.2.2.2.1,b.1.2.2.2.2.1,
 b.1.2.2.2.2.2.1,b.1.2.2.2.2.2.2.1,
 b.1.2.2.2.2.2.2.2.1,
 b.1.2.2.2.2.2.2.2.2.1,
 b.1.2.2.2.2.2.2.2.2.2.1,
 b.1.2.2.2.2.2.2.2.2.2.2.1,
 b.1.2.2.2.2.2.2.2.2.2.2.2.1,
 b.1.2.2.2.2.2.2.2.2.2.2.2.2.1,
 b.1.2.2.2.2.2.2.2.2.2.2.2.2.2.1,
 b.1.2.2.2.2.2.2.2.2.2.2.2.2.2.2.1,
 b.1.2.2.2.2.2.2.2.2.2.2.2.2.2.2.2.1,
 b.1.2.2.2.2.2.2.2.2.2.2.2.2.2.2.2.2.1,
 b.1.2.2.2.2.2.2.2.2.2.2.2.2.2.2.2.2.2.1,
 b.1.2.2.2.2.2.2.2.2.2.2.2.2.2.2.2.2.2.2.1,
 b.1.2.2.2.2.2.2.2.2.2.2.2.2.2.2.2.2.2.2.2.1,
 b_3.1))
 else
 some
 (Sum.inl
 (x_1.1,b.1.1,b.1.2.1,b.1.2.2.1,
 b.1.2.2.2.1,b.1.2.2.2.2.1,
 b.1.2.2.2.2.2.1,b.1.2.2.2.2.2.2.1,
 b.1.2.2.2.2.2.2.2.1,
 b.1.2.2.2.2.2.2.2.2.1,
 b.1.2.2.2.2.2.2.2.2.2.1,
 b.1.2.2.2.2.2.2.2.2.2.2.1,
 b.1.2.2.2.2.2.2.2.2.2.2.2.1,
 b.1.2.2.2.2.2.2.2.2.2.2.2.2.1,
 b.1.2.2.2.2.2.2.2.2.2.2.2.2.2.1,
 b.1.2.2.2.2.2.2.2.2.2.2.2.2.2.2.1,
 b.1.2.2.2.2.2.2.2.2.2.2.2.2.2.2.2.1,
 b.1.2.2.2.2.2.2.2.2.2.2.2.2.2.2.2.2.1,
 b.1.2.2.2.2.2.2.2.2.2.2.2.2.2.2.2.2.2.1,
 b.1.2.2.2.2.2.2.2.2.2.2.2.2.2.2.2.2.2.2.1,
 b.1.2.2.2.2.2.2.2.2.2.2.2.2.2.2.2.2.2.2.2.1,
 b_3.1))
 else
 some
 (Sum.inl
 (x_1.1,b.1.1,b.1.2.1,b.1.2.2.1,
 b.1.2.2.2.1,b.1.2.2.2.2.1,
 b.1.2.2.2.2.2.1,b.1.2.2.2.2.2.2.1,
 b.1.2.2.2.2.2.2.2.1,
 b.1.2.2.2.2.2.2.2.2.1,
 b.1.2.2.2.2.2.2.2.2.2.1,
 b.1.2.2.2.2.2.2.2.2.2.2.1,
 b.1.2.2.2.2.2.2.2.2.2.2.2.1,
 b.1.2.2.2.2.2.2.2.2.2.2.2.2.1,
 b.1.2.2.2.2.2.2.2.2.2.2.2.2.2.1,
 b.1.2.2.2.2.2.2.2.2.2.2.2.2.2.2.1,
 b.1.2.2.2.2.2.2.2.2.2.2.2.2.2.2.2.1,
 b.1.2.2.2.2.2.2.2.2.2.2.2.2.2.2.2.2.1,
 b.1.2.2.2.2.2.2.2.2.2.2.2.2.2.2.2.2.2.1,
 b.1.2.2.2.2.2.2.2.2.2.2.2.2.2.2.2.2.2.2.1,
 b.1.2.2.2.2.2.2.2.2.2.2.2.2.2.2.2.2.2.2.2.1,
 b_3.1))
 else some (Sum.inl (x_1.1,x_1.2.2)))
 fun o=>
 Sum.elim
 (fun (x :
 Int×Int×List UInt8×List UInt8×Int×((Int×Int×Int×Int×Int×Int×Int×Bool×Bool×(Int×Int×(Int×Int×Int×Int×Int×Int×Int×Int×Bool×List
 T25D×T25D×Unit)×(Int×Int×(Int×List UInt8×List UInt8×List UInt8×Int×Int×Int×List
 (List UInt8×Int×Int×Int×List
 UInt8×Unit)×List
 (Int×List UInt8×List UInt8×List
 UInt8×Int×Unit)×List
 (Int×List UInt8×List
 UInt8×List
 UInt8×Int×Unit)×Int×Int×Int×Bool×List
 (List
 UInt8×(Int×Int×Int×Int×List
 UInt8×Int×Bool×Unit)×Unit)×List
 (Int×Int×(Int×Int×Bool×Int×List
 (List
 UInt8×(Int×Int×Int×Int×List
 UInt8×Int×Bool×Unit)×Unit)×Y22D)×Unit)×List
 zai×Unit)×Unit)×Int×List UInt8×List UInt8×Int×Int×Int×Int×(Int×Int×Bool×Int×List
 (List UInt8×(Int×Int×Int×Int×List
 UInt8×Int×Bool×Unit)×Unit)×Y22D)×List
 (Int×List
 (List UInt8×(Int×Int×Int×Int×List
 UInt8×Int×Bool×Unit)×Unit)×Unit)×List
 (List UInt8×(Int×Int×Int×Int×List
 UInt8×Int×Bool×Unit)×Unit)×Bool×(Int×Int×List
 (Int×Int×(Int×Int×Bool×Int×List
 (List
 UInt8×(Int×Int×Int×Int×List
 UInt8×Int×Bool×Unit)×Unit)×Y22D)×Unit)×List
 zai×Unit)×(Int×Int×Int×List
 UInt8×List
 UInt8×Int×List
 UInt8×zai)×Unit)×Unit)×(Int×Int×Int×Int×Int×Int×Int×Bool×Bool×(Int×Int×(Int×Int×Int×Int×Int×Int×Int×Int×Bool×List
 T25D×T25D×Unit)×(Int×Int×(Int×List UInt8×List UInt8×List UInt8×Int×Int×Int×List
 (List UInt8×Int×Int×Int×List
 UInt8×Unit)×List
 (Int×List UInt8×List
 UInt8×List
 UInt8×Int×Unit)×List
 (Int×List
 UInt8×List
 UInt8×List
 UInt8×Int×Unit)×Int×Int×Int×Bool×List
 (List
 UInt8×(Int×Int×Int×Int×List
 UInt8×Int×Bool×Unit)×Unit)×List
 (Int×Int×(Int×Int×Bool×Int×List
 (List
 UInt8×(Int×Int×Int×Int×List
 UInt8×Int×Bool×Unit)×Unit)×Y22D)×Unit)×List
 zai×Unit)×Unit)×Int×List UInt8×List UInt8×Int×Int×Int×Int×(Int×Int×Bool×Int×List
 (List
 UInt8×(Int×Int×Int×Int×List
 UInt8×Int×Bool×Unit)×Unit)×Y22D)×List
 (Int×List
 (List UInt8×(Int×Int×Int×Int×List
 UInt8×Int×Bool×Unit)×Unit)×Unit)×List
 (List UInt8×(Int×Int×Int×Int×List
 UInt8×Int×Bool×Unit)×Unit)×Bool×(Int×Int×List
 (Int×Int×(Int×Int×Bool×Int×List
 (List
 UInt8×(Int×Int×Int×Int×List
 UInt8×Int×Bool×Unit)×Unit)×Y22D)×Unit)×List
 zai×Unit)×(Int×Int×Int×List
 UInt8×List
 UInt8×Int×List
 UInt8×zai)×Unit)×Unit)×Unit)×(Int×Int×(Int×Int×Int×Int×Int×Int×Int×Int×Bool×List T25D×T25D×Unit)×(Int×Int×(Int×List UInt8×List UInt8×List UInt8×Int×Int×Int×List
 T96D×List
 T48D×List
 T48D×Int×Int×Int×Bool×List
 T70D×List
 (Int×Int×(Int×Int×Bool×Int×List
 (List
 UInt8×(Int×Int×Int×Int×List
 UInt8×Int×Bool×Unit)×Unit)×Y22D)×Unit)×List
 zai×Unit)×Unit)×Int×List UInt8×List UInt8×Int×Int×Int×Int×(Int×Int×Bool×Int×List
 T70D×Y22D)×List
 (Int×List
 T70D×Unit)×List
 T70D×Bool×(Int×Int×List
 (Int×Int×(Int×Int×Bool×Int×List
 (List
 UInt8×(Int×Int×Int×Int×List
 UInt8×Int×Bool×Unit)×Unit)×Y22D)×Unit)×List zai×Unit)×T53D×Unit)×Bool×T53D×Int×Bool×Bool×List
 T70D×Bool×List
 T70D×Int×Bool×Bool×Bool×(Int×Int×List
 (Int×Int×(Int×Int×Bool×Int×List
 (List UInt8×(Int×Int×Int×Int×List
 UInt8×Int×Bool×Unit)×Unit)×Y22D)×Unit)×List zai×Unit)×Bool×Y24D×Int×List
 (Int×Int×Int×Int×Int×Int×Int×Bool×(Int×Int×(Int×Int×Int×Int×Int×Int×Int×Int×Bool×List
 (Int×Int×List
 UInt8×Unit)×(Int×Int×List
 UInt8×Unit)×Unit)×(Int×Int×(Int×List
 UInt8×List
 UInt8×List
 UInt8×Int×Int×Int×List
 (List
 UInt8×Int×Int×Int×List
 UInt8×Unit)×List
 (Int×List
 UInt8×List
 UInt8×List
 UInt8×Int×Unit)×List
 (Int×List
 UInt8×List
 UInt8×List
 UInt8×Int×Unit)×Int×Int×Int×Bool×List
 (List
 UInt8×(Int×Int×Int×Int×List
 UInt8×Int×Bool×Unit)×Unit)×List
 (Int×Int×(Int×Int×Bool×Int×List
 (List
 UInt8×(Int×Int×Int×Int×List
 UInt8×Int×Bool×Unit)×Unit)×Y22D)×Unit)×List
 zai×Unit)×Unit)×Int×List
 UInt8×List
 UInt8×Int×Int×Int×Int×(Int×Int×Bool×Int×List
 (List
 UInt8×(Int×Int×Int×Int×List
 UInt8×Int×Bool×Unit)×Unit)×Y22D)×List
 (Int×List
 (List
 UInt8×(Int×Int×Int×Int×List
 UInt8×Int×Bool×Unit)×Unit)×Unit)×List
 (List
 UInt8×(Int×Int×Int×Int×List
 UInt8×Int×Bool×Unit)×Unit)×Bool×(Int×Int×List
 (Int×Int×(Int×Int×Bool×Int×List
 (List
 UInt8×(Int×Int×Int×Int×List
 UInt8×Int×Bool×Unit)×Unit)×Y22D)×Unit)×List
 zai×Unit)×(Int×Int×Int×List
 UInt8×List
 UInt8×Int×List
 UInt8×zai)×Unit)×Unit)×List
 (Int×Int×Int×Int×Int×Int×Int×Bool×(Int×Int×(Int×Int×Int×Int×Int×Int×Int×Int×Bool×List
 (Int×Int×List
 UInt8×Unit)×(Int×Int×List
 UInt8×Unit)×Unit)×(Int×Int×(Int×List
 UInt8×List
 UInt8×List
 UInt8×Int×Int×Int×List
 (List
 UInt8×Int×Int×Int×List
 UInt8×Unit)×List
 (Int×List
 UInt8×List
 UInt8×List
 UInt8×Int×Unit)×List
 (Int×List
 UInt8×List
 UInt8×List
 UInt8×Int×Unit)×Int×Int×Int×Bool×List
 (List
 UInt8×(Int×Int×Int×Int×List
 UInt8×Int×Bool×Unit)×Unit)×List
 (Int×Int×(Int×Int×Bool×Int×List
 (List
 UInt8×(Int×Int×Int×Int×List
 UInt8×Int×Bool×Unit)×Unit)×Y22D)×Unit)×List
 zai×Unit)×Unit)×Int×List
 UInt8×List
 UInt8×Int×Int×Int×Int×(Int×Int×Bool×Int×List
 (List
 UInt8×(Int×Int×Int×Int×List
 UInt8×Int×Bool×Unit)×Unit)×Y22D)×List
 (Int×List
 (List
 UInt8×(Int×Int×Int×Int×List
 UInt8×Int×Bool×Unit)×Unit)×Unit)×List
 (List
 UInt8×(Int×Int×Int×Int×List
 UInt8×Int×Bool×Unit)×Unit)×Bool×(Int×Int×List
 (Int×Int×(Int×Int×Bool×Int×List
 (List
 UInt8×(Int×Int×Int×Int×List
 UInt8×Int×Bool×Unit)×Unit)×Y22D)×Unit)×List
 zai×Unit)×(Int×Int×Int×List
 UInt8×List
 UInt8×Int×List
 UInt8×zai)×Unit)×Unit)×(Int×Int×(Int×Int×Int×Int×Int×Int×Int×Int×Bool×List
 (Int×Int×List
 UInt8×Unit)×(Int×Int×List
 UInt8×Unit)×Unit)×(Int×Int×(Int×List UInt8×List UInt8×List UInt8×Int×Int×Int×List
 (List
 UInt8×Int×Int×Int×List
 UInt8×Unit)×List
 (Int×List
 UInt8×List
 UInt8×List
 UInt8×Int×Unit)×List
 (Int×List
 UInt8×List
 UInt8×List
 UInt8×Int×Unit)×Int×Int×Int×Bool×List
 (List
 UInt8×(Int×Int×Int×Int×List
 UInt8×Int×Bool×Unit)×Unit)×List
 (Int×Int×(Int×Int×Bool×Int×List
 (List
 UInt8×(Int×Int×Int×Int×List
 UInt8×Int×Bool×Unit)×Unit)×Y22D)×Unit)×List
 zai×Unit)×Unit)×Int×List UInt8×List UInt8×Int×Int×Int×Int×(Int×Int×Bool×Int×List
 (List
 UInt8×(Int×Int×Int×Int×List
 UInt8×Int×Bool×Unit)×Unit)×Y22D)×List
 (Int×List
 (List
 UInt8×(Int×Int×Int×Int×List
 UInt8×Int×Bool×Unit)×Unit)×Unit)×List
 (List
 UInt8×(Int×Int×Int×Int×List
 UInt8×Int×Bool×Unit)×Unit)×Bool×(Int×Int×List
 (Int×Int×(Int×Int×Bool×Int×List
 (List
 UInt8×(Int×Int×Int×Int×List
 UInt8×Int×Bool×Unit)×Unit)×Y22D)×Unit)×List
 zai×Unit)×(Int×Int×Int×List
 UInt8×List
 UInt8×Int×List
 UInt8×zai)×Unit)×Bool×T53D×Int×List
 (List
 (List UInt8×(Int×Int×Int×Int×List
 UInt8×Int×Bool×Unit)×Unit)×Bool×Unit)×List
 (List
 (List UInt8×(Int×Int×Int×Int×List
 UInt8×Int×Bool×Unit)×Unit)×Int×Unit)×Bool×Bool×List
 (Int×Int×List
 (Int×Int×(Int×Int×Bool×Int×List
 (List
 UInt8×(Int×Int×Int×Int×List
 UInt8×Int×Bool×Unit)×Unit)×Y22D)×Unit)×List
 zai×Unit)×Bool×Unit)=>
 some (Sum.inl (x.1,wrap64 (x_1.2.1+1),x.2)))
 some o
 else
 Option.map Sum.inr
 ((F9a ()).bind
 fun b=>
 Option.bind
 (F12a
 (4,
 (0,0,(0,0,0,0,0,0,0,0,false,[],(0,0,[],()),()),
 (0,0,
 (0,[],[],[],0,0,0,[],[],[],0,0,0,false,[],[],[],()),
 ()),
 0,[],[],0,0,0,0,(0,0,false,0,[],0,0,()),[],[],false,
 (0,0,[],[],()),(0,0,0,[],[],0,[],0,0,0,()),
 ()),
 ()))
 fun _z=>
 (F15a ()).bind
 fun b_2=>
 bif !b.2.1 then
 bif !b_2.2.1 then
 (F16a ()).bind fun b=>
 bif !b.1 then
 (F17a (0,())).bind fun b=>
 some (decide (b.1=1),())
 else some (false,())
 else some (false,())
 else some (false,())))
 big
 (0,0,b_1.1.1,b_1.1.2.1,b_1.1.2.2.1,b_1.1.2.2.2.1,
 b_1.1.2.2.2.2.1,b_1.1.2.2.2.2.2.1,
 b_1.1.2.2.2.2.2.2.1,b_1.1.2.2.2.2.2.2.2.1,
 b_1.1.2.2.2.2.2.2.2.2.1,b_1.1.2.2.2.2.2.2.2.2.2.1,
 b_1.1.2.2.2.2.2.2.2.2.2.2.1,
 b_1.1.2.2.2.2.2.2.2.2.2.2.2.1,
 b_1.1.2.2.2.2.2.2.2.2.2.2.2.2.1,
 b_1.1.2.2.2.2.2.2.2.2.2.2.2.2.2.1,
 b_1.1.2.2.2.2.2.2.2.2.2.2.2.2.2.2.1,
 b_1.1.2.2.2.2.2.2.2.2.2.2.2.2.2.2.2.1,
 b_1.1.2.2.2.2.2.2.2.2.2.2.2.2.2.2.2.2.1,
 b_1.1.2.2.2.2.2.2.2.2.2.2.2.2.2.2.2.2.2.1,
 b_1.1.2.2.2.2.2.2.2.2.2.2.2.2.2.2.2.2.2.2.1,
 b_1.1.2.2.2.2.2.2.2.2.2.2.2.2.2.2.2.2.2.2.2.1,
 b.1.2)
 else
 (F8 (x.1.1,x.1.2.1,x.1.2.2.1,x.1.2.2.2.1,0,())).bind
 fun _z=>
 none
def S3:Sig:=⟨P3,R3,F3⟩
noncomputable def E3:Env:={ tab:=tab.opt { flats:=[(93,L93)],owns:=[87],frzs:=[89,90,91] },nt:=167,Γ:=zaj [(4,[S4]),(5,[S5]),(6,[S6]),(7,[S7]),(8,[S8]),(9,[S9,S9a]),(10,[S10]),(11,[S11]),(12,[S12,S12a]),(13,[S13]),(14,[S14]),(15,[S15,S15a]),(16,[S16,S16a]),(17,[S17,S17a])],joins:=zac [(17,⟨[],[1,5,7,8,11,12,13,55,56],[.site 12006000,.fld 12006000 0,.fld 12006000 1,.fld 12006000 2,.site 4010000]++hL (.fld 4010000) 0 20++[.site 3002001]++hL (.fld 3002001) 0 14++[.row 12002083,.row 12002082]⟩),(28,⟨[⟨.slot 8,(.int .i64),.pv⟩,⟨.fld 4010000 0,(.int .i64),.pv⟩,⟨.fld 4010000 1,.str,.pv⟩,⟨.fld 4010000 2,.str,.pv⟩,⟨.fld 4010000 3,(.int .i64),.pv⟩,⟨.fld 4010000 4,Y59,.pv⟩,⟨.fld 4010000 5,TM,.pv⟩,⟨.fld 4010000 6,.bool,.pv⟩,⟨.fld 4010000 7,T53,.pv⟩,⟨.fld 4010000 8,(.int .i64),.pv⟩,⟨.fld 4010000 9,.bool,.pv⟩,⟨.fld 4010000 10,.bool,.pv⟩,⟨.fld 4010000 11,(.slice T70),.pv⟩,⟨.fld 4010000 12,.bool,.pv⟩,⟨.fld 4010000 13,(.slice T70),.pv⟩,⟨.fld 4010000 14,(.int .i64),.pv⟩,⟨.fld 4010000 15,.bool,.pv⟩,⟨.fld 4010000 16,.bool,.pv⟩,⟨.fld 4010000 17,.bool,.pv⟩,⟨.fld 4010000 18,T55,.pv⟩,⟨.fld 4010000 19,.bool,.pv⟩,⟨.fld 3002001 0,Y24,.pv⟩,⟨.fld 3002001 1,(.int .i64),.pv⟩,⟨.fld 3002001 2,(.ptr Y123),.own false⟩,⟨.fld 3002001 3,(.ptr Y123),.own false⟩,⟨.fld 3002001 4,TM,.pv⟩,⟨.fld 3002001 5,.bool,.pv⟩,⟨.fld 3002001 6,T53,.pv⟩,⟨.fld 3002001 7,(.int .i64),.pv⟩,⟨.fld 3002001 8,(.ptr Y136),.pv⟩,⟨.fld 3002001 9,(.ptr Y145),.pv⟩,⟨.fld 3002001 10,.bool,.pv⟩,⟨.fld 3002001 11,.bool,.pv⟩,⟨.fld 3002001 12,(.ptr T55),.pv⟩,⟨.fld 3002001 13,.bool,.pv⟩],[1,5,7,55,56],[.site 4010000,.site 3002001]⟩)],loops:=zac [(7,zaI ⟨[⟨.slot 8,(.int .i64),.pv⟩,⟨.slot 56,(.int .i64),.pv⟩,⟨.fld 4010000 0,(.int .i64),.pv⟩,⟨.fld 4010000 1,.str,.pv⟩,⟨.fld 4010000 2,.str,.pv⟩,⟨.fld 4010000 3,(.int .i64),.pv⟩,⟨.fld 4010000 4,Y59,.pv⟩,⟨.fld 4010000 5,TM,.pv⟩,⟨.fld 4010000 6,.bool,.pv⟩,⟨.fld 4010000 7,T53,.pv⟩,⟨.fld 4010000 8,(.int .i64),.pv⟩,⟨.fld 4010000 9,.bool,.pv⟩,⟨.fld 4010000 10,.bool,.pv⟩,⟨.fld 4010000 11,(.slice T70),.pv⟩,⟨.fld 4010000 12,.bool,.pv⟩,⟨.fld 4010000 13,(.slice T70),.pv⟩,⟨.fld 4010000 14,(.int .i64),.pv⟩,⟨.fld 4010000 15,.bool,.pv⟩,⟨.fld 4010000 16,.bool,.pv⟩,⟨.fld 4010000 17,.bool,.pv⟩,⟨.fld 4010000 18,T55,.pv⟩,⟨.fld 4010000 19,.bool,.pv⟩,⟨.fld 3002001 0,Y24,.pv⟩,⟨.fld 3002001 1,(.int .i64),.pv⟩,⟨.fld 3002001 2,(.ptr Y123),.own false⟩,⟨.fld 3002001 3,(.ptr Y123),.own false⟩,⟨.fld 3002001 4,TM,.pv⟩,⟨.fld 3002001 5,.bool,.pv⟩,⟨.fld 3002001 6,T53,.pv⟩,⟨.fld 3002001 7,(.int .i64),.pv⟩,⟨.fld 3002001 8,(.ptr Y136),.pv⟩,⟨.fld 3002001 9,(.ptr Y145),.pv⟩,⟨.fld 3002001 10,.bool,.pv⟩,⟨.fld 3002001 11,.bool,.pv⟩,⟨.fld 3002001 12,(.ptr T55),.pv⟩,⟨.fld 3002001 13,.bool,.pv⟩],[1,5,7,55],[.site 4010000,.site 3002001]⟩)] }
theorem zuX (x:Y24D×List Y64D×Unit):afun E3 Tryz.f3 P3 R3 x=F3 x:=by kernel_rfl
end
end Go.Proofs.YtpfjaaofpcbejaaGreat

