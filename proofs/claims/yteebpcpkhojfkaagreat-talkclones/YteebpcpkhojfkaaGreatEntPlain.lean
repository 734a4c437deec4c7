/-
 Plain laws of what lies below,as this seat reaches them (by a program of the bench: port.py).
-/
import Derived.Test.YteebpcpkhojfkaaGreatCmdLawP
import Derived.Test.YteebpcpkhojfkaaGreatSxS
namespace Go.Proofs.YteebpcpkhojfkaaGreat
open Go.Sx Go Classical
set_option maxRecDepth 10000
abbrev Ent:Type:=Int×Int×List UInt8×Unit
def Num (n:Int):Prop:=1≤n∧n≤1099511627776
def jw (e:Ent):Prop:=Num e.1∧Num e.2.1∧e.2.2.1.length≤12000
theorem O9 (n:Int):wz (n,())=some (decide (Num n),()):=by
 unfold wz Num;by_cases h:1≤n<;>simp[h]
theorem CW (n:Int):wB (n,())=some (decide (Num n),()):=by
 unfold wB Num;by_cases h:1≤n<;>simp[h]
theorem ZP (e:Ent):wC (e,())=some (decide (jw e),()):=by
 obtain⟨a,b,s,⟨⟩⟩:=e;unfold wC jw;simp only[O9,Option.bind_some];by_cases h1:Num a<;>by_cases h2:Num b<;>simp[h1,h2]<;>omega
theorem Px (e:Ent):yK (e,())=some (decide (jw e),()):=by
 obtain⟨a,b,s,⟨⟩⟩:=e;unfold yK jw;simp only[CW,Option.bind_some];by_cases h1:Num a<;>by_cases h2:Num b<;>simp[h1,h2]<;>omega
noncomputable def kZ:Int→Int→List Ent→Bool
 | _,_,[]=>true
 | i,t,e::r=>bif decide (jw e∧e.1-1=i∧t≤e.2.1) then kZ e.1 e.2.1 r else false
def zL (l:List Ent):Int×Int×Int×Unit→Option ((Int×Int×Int×Unit)⊕(Bool×Unit)):=fun x_1=>
   bif decide (x_1.snd.snd.fst<Int.ofNat (List.length l)) then
    Option.bind (idx l x_1.snd.snd.fst) fun(b:Ent)=>
     Option.bind (wC (b,())) fun(b_1:Bool×Unit)=>
      bif !b_1.fst then some (Sum.inr (false,()))
      else
       bif !decide (wrap64 (b.fst-1)=x_1.fst) then some (Sum.inr (false,()))
       else
        bif decide (b.snd.fst<x_1.snd.fst) then some (Sum.inr (false,()))
        else some (Sum.inl (b.fst,b.snd.fst,wrap64 (x_1.snd.snd.fst+1),()))
   else some (Sum.inr (true,()))
theorem ZC (l:List Ent) (i t:Int):zL l (i,t,(l.length:Int),())=some (.inr (true,())):=by
 unfold zL;simp
theorem zai (l:List Ent) (k:Nat) (hlt:k<l.length) (hk:k<9223372036854775807) (i t:Int):zL l (i,t,(k:Int),()) =
  bif decide (jw l[k]∧(l[k]).1-1=i∧t≤(l[k]).2.1) then some (.inl ((l[k]).1,(l[k]).2.1,((k+1:Nat):Int),())) else some (.inr (false,())):=by
 unfold zL;simp only[aB,hlt,decide_true,cond_true,aP,List.getElem?_eq_getElem hlt,Option.bind_some,ZP,aT hk];by_cases h1:jw l[k]
 ·have e1:wrap64 ((l[k]).1-1)=(l[k]).1-1:=iZ (by have:=h1.1.1;omega) (by have:=h1.1.2;omega);simp only[h1,decide_true,Bool.not_true,cond_false,e1,true_and];by_cases h2:(l[k]).1-1=i
  ·simp only[h2,decide_true,Bool.not_true,cond_false,true_and];by_cases h3:(l[k]).2.1<t
   ·have:¬ t≤(l[k]).2.1:=by omega
    simp only[h3,this,decide_true,decide_false,cond_true,cond_false]
   ·have h3':t≤(l[k]).2.1:=by omega
    simp only[h3,h3',decide_false,decide_true,cond_false,cond_true]
  ·simp only[h2,false_and,decide_false,Bool.not_false,cond_true,cond_false]
 ·simp only[h1,false_and,decide_false,Bool.not_false,cond_true,cond_false]
theorem zdX (l:List Ent) (hl:l.length≤9223372036854775806) (i t:Int):Ou (i,t,l,())=some (kZ i t l,()):=by
 have main:∀ (d k m:Nat) (i t:Int),k+d=l.length→d<m→iter (zL l) m (i,t,(k:Int),())=some (kZ i t (l.drop k),()):=by
  intro d;induction d with
  | zero=>
   intro k m i t hk hm;cases m with
   | zero=>omega
   | succ m=>
    have:k=l.length:=by omega
    subst this;simp only[iter,ZC,List.drop_length,kZ,Option.bind_some,Sum.elim_inr]
  | succ d ih=>
   intro k m i t hk hm;cases m with
   | zero=>omega
   | succ m=>
    have hlt:k<l.length:=by omega
    have:=ih (k+1) m (l[k]).1 (l[k]).2.1 (by omega) (by omega);rw[List.drop_eq_getElem_cons hlt];simp only[iter,zai l k hlt (by omega),kZ];cases decide (jw l[k]∧(l[k]).1-1=i∧t≤(l[k]).2.1) with
    | true=>exact this
    | false=>rfl
 exact main l.length 0 big i t (by omega) (by rw[jv];omega)
def zN (index:Int) (l:List Ent):Int×Int×Unit→Option ((Int×Int×Unit)⊕(Bool×Unit)):=fun x_1=>
   bif decide (x_1.snd.fst<Int.ofNat (List.length l)) then
    Option.bind (idx l x_1.snd.fst) fun(b:Ent)=>
     Option.bind (yK (b,())) fun(b:Bool×Unit)=>
      bif !b.fst then some (Sum.inr (false,()))
      else
       Option.bind (idx l x_1.snd.fst) fun(b:Ent)=>
        bif decide (b.snd.fst<x_1.fst) then some (Sum.inr (false,()))
        else
         Option.bind
          (bif decide (x_1.snd.fst=0) then
           bif decide (index<0) then some (Sum.inr (Sum.inr (false,())))
           else
            bif decide (1099511627776≤index) then some (Sum.inr (Sum.inr (false,())))
            else
             Option.bind (idx l x_1.snd.fst) fun(b:Ent)=>
              bif !decide (b.fst=wrap64 (index+1)) then
               some (Sum.inr (Sum.inr (false,())))
              else
               bif decide (0<x_1.snd.fst) then
                Option.bind (idx l x_1.snd.fst) fun(b:Ent)=>
                 Option.bind (idx l (wrap64 (x_1.snd.fst-1)))
                  fun(b_1:Ent)=>
                  bif !decide (b.fst=wrap64 (b_1.fst+1)) then
                   some (Sum.inr (Sum.inr (false,())))
                  else some (Sum.inl ())
               else some (Sum.inl ())
          else
           bif decide (0<x_1.snd.fst) then
            Option.bind (idx l x_1.snd.fst) fun(b:Ent)=>
             Option.bind (idx l (wrap64 (x_1.snd.fst-1)))
              fun(b_1:Ent)=>
              bif !decide (b.fst=wrap64 (b_1.fst+1)) then
               some (Sum.inr (Sum.inr (false,())))
              else some (Sum.inl ())
           else some (Sum.inl ()))
          fun(o:Unit⊕(Int×Int×Unit)⊕Bool×Unit)=>
          Sum.elim
           (fun(_x_2:Unit)=>Option.bind (idx l x_1.snd.fst) fun(b:Ent)=>some (Sum.inl (b.snd.fst,wrap64 (x_1.snd.fst+1),())))
           (fun(val:(Int×Int×Unit)⊕Bool×Unit)=>some val) o
   else some (Sum.inr (true,()))
theorem ZF (index:Int) (l:List Ent) (t:Int):zN index l (t,(l.length:Int),())=some (.inr (true,())):=by
 unfold zN;simp
def prev (index:Int) (l:List Ent) (k:Nat):Int:=match k with
 | 0=>index
 | k+1=>(l.getD k (0,0,[],())).1
theorem zal (index:Int) (l:List Ent) (k:Nat) (hlt:k<l.length) (hk:k<9223372036854775807) (hp:0<k→Num (prev index l k)) (t:Int):zN index l (t,(k:Int),()) =
  bif decide (jw l[k]∧(l[k]).1-1=prev index l k∧t≤(l[k]).2.1) then some (.inl ((l[k]).2.1,((k+1:Nat):Int),())) else some (.inr (false,())):=by
 unfold zN;simp only[aB,hlt,decide_true,cond_true,aP,List.getElem?_eq_getElem hlt,Option.bind_some,Px,aT hk];by_cases h1:jw l[k]
 ·simp only[h1,decide_true,Bool.not_true,cond_false,true_and];have hr:=h1.1;unfold Num at hr;by_cases h3:(l[k]).2.1<t
  ·have:¬ t≤(l[k]).2.1:=by omega
   simp only[h3,this,and_false,decide_true,decide_false,cond_true,cond_false]
  ·have h3':t≤(l[k]).2.1:=by omega
   simp only[h3,h3',and_true,decide_false,cond_false];cases k with
   | zero=>
    simp only[prev,Int.natCast_zero,decide_true,cond_true,Int.lt_irrefl,decide_false,cond_false];by_cases c1:index<0
    ·have:¬ ((l[0]).1-1=index):=by omega
     simp[c1,this]
    ·by_cases c2:1099511627776≤index
     ·have:¬ ((l[0]).1-1=index):=by omega
      simp[c1,c2,this]
     ·have e:wrap64 (index+1)=index+1:=iZ (by omega) (by omega);by_cases c3:(l[0]).1=index+1
      ·have:(l[0]).1-1=index:=by omega
       simp[c1,c2,e,c3]
      ·have:¬ ((l[0]).1-1=index):=by omega
       simp[c1,c2,e,c3,this]
   | succ j=>
    have hj:j<l.length:=by omega
    have hp':Num (l[j]).1:=by simpa[prev,List.getD_eq_getElem?_getD,List.getElem?_eq_getElem hj] using hp (by omega)
    have e0:decide (((j+1:Nat):Int)=0)=false:=decide_eq_false (by omega);have e1:decide ((0:Int)<((j+1:Nat):Int))=true:=decide_eq_true (by omega);have e2:wrap64 (((j+1:Nat):Int)-1)=(j:Int):=by rw[iZ (by omega) (by omega)];omega
    have e3:wrap64 ((l[j]).1+1)=(l[j]).1+1:=iZ (by have:=hp'.1;omega) (by have:=hp'.2;omega);have e4:prev index l (j+1)=(l[j]).1:=by simp[prev,List.getD_eq_getElem?_getD,List.getElem?_eq_getElem hj]
    simp only[e0,e1,e2,e4,aP,List.getElem?_eq_getElem hj,Option.bind_some,cond_true,cond_false,e3];by_cases c3:(l[j+1]).1=(l[j]).1+1
    ·have:(l[j+1]).1-1=(l[j]).1:=by omega
     simp only[c3,decide_true,Bool.not_true,cond_false,Option.bind_some,Sum.elim_inl];have:(l[j]).1+1-1=(l[j]).1:=by omega
     simp only[this,decide_true,cond_true]
    ·have:¬ ((l[j+1]).1-1=(l[j]).1):=by omega
     simp only[c3,this,decide_false,Bool.not_false,cond_true,cond_false,Option.bind_some,Sum.elim_inr]
 ·simp only[h1,false_and,decide_false,Bool.not_false,cond_true,cond_false]
theorem zbo (index:Int) (l:List Ent) (hl:l.length≤9223372036854775806) (t:Int):OA (index,t,l,())=some (kZ index t l,()):=by
 have main:∀ (d k m:Nat) (t:Int),k+d=l.length→d<m→(0<k→Num (prev index l k))→iter (zN index l) m (t,(k:Int),())=some (kZ (prev index l k) t (l.drop k),()):=by
  intro d;induction d with
  | zero=>
   intro k m t hk hm _;cases m with
   | zero=>omega
   | succ m=>
    have:k=l.length:=by omega
    subst this;simp only[iter,ZF,List.drop_length,kZ,Option.bind_some,Sum.elim_inr]
  | succ d ih=>
   intro k m t hk hm hp;cases m with
   | zero=>omega
   | succ m=>
    have hlt:k<l.length:=by omega
    have e4:prev index l (k+1)=(l[k]).1:=by simp[prev,List.getD_eq_getElem?_getD,List.getElem?_eq_getElem hlt]
    rw[List.drop_eq_getElem_cons hlt];simp only[iter,zal index l k hlt (by omega) hp,kZ];by_cases hc:jw l[k]∧(l[k]).1-1=prev index l k∧t≤(l[k]).2.1
    ·have:=ih (k+1) m (l[k]).2.1 (by omega) (by omega) (fun _=>by rw[e4];exact hc.1.1);rw[e4] at this;simp only[hc,and_self,decide_true,cond_true,Option.bind_some,Sum.elim_inl];exact this
    ·simp only[hc,decide_false,cond_false,Option.bind_some,Sum.elim_inr]
 exact main l.length 0 big t (by omega) (by rw[jv];omega) (fun h=>absurd h (by omega))
theorem zbf (x:Ent×Unit):yN x=mr x:=by
 unfold yN mr;simp only[O9,CW]
theorem Uj (x:Ent×Unit):∃ b,mr x=some (b,()):=by
 unfold mr;simp only[CW,Option.bind_some];cases decide (x.fst.fst=0)<;>cases decide (x.fst.snd.fst=0)<;>cases decide (Num x.fst.fst)<;>cases decide (Num x.fst.snd.fst)<;>exact⟨_,rfl⟩
theorem U2 (a b:Ent):BO (a,b,())=some (decide (a=b),()):=by
 obtain⟨a1,a2,a3,⟨⟩⟩:=a;obtain⟨b1,b2,b3,⟨⟩⟩:=b;unfold BO;by_cases h1:a1=b1<;>by_cases h2:a2=b2<;>by_cases h3:a3=b3<;>simp[h1,h2,h3]
theorem zfM (a b:Ent):Gy (a,b,())=some (decide (a=b),()):=by
 rw[←U2];rfl
def uI (a b:List Ent) (f:Ent×Ent×Unit→Option (Bool×Unit)):Int×Unit→Option ((Int×Unit)⊕(Bool×Unit)):=fun x_1=>
        bif decide (x_1.fst<Int.ofNat (List.length a)) then
         Option.bind (idx a x_1.fst) fun(x:Ent)=>
          Option.bind (idx b x_1.fst) fun(y:Ent)=>
           Option.bind (f (x,y,())) fun(b:Bool×Unit)=>
            bif !b.fst then some (Sum.inr (false,()))
            else some (Sum.inl (wrap64 (x_1.fst+1),()))
        else some (Sum.inr (true,()))
theorem OM (a b:List Ent) (f:Ent×Ent×Unit→Option (Bool×Unit)) (hf:∀ x y,f (x,y,())=some (decide (x=y),())) (hl:a.length=b.length) (ha:a.length≤9223372036854775806) :
  ∀ (d k m:Nat),k+d=a.length→d<m→iter (uI a b f) m ((k:Int),())=some (decide (a.drop k=b.drop k),()):=by
 intro d;induction d with
 | zero=>
  intro k m hk hm;cases m with
  | zero=>omega
  | succ m=>
   have:k=a.length:=by omega
   have e:uI a b f ((k:Int),())=some (.inr (true,())):=by
    unfold uI;have:¬ k<a.length:=by omega
    simp only[aB,this,decide_false,cond_false]
   have e2:a.drop k=[]:=List.drop_of_length_le (by omega);have e3:b.drop k=[]:=List.drop_of_length_le (by omega);simp only[iter,e,e2,e3,decide_true,Option.bind_some,Sum.elim_inr]
 | succ d ih=>
  intro k m hk hm;cases m with
  | zero=>omega
  | succ m=>
   have h1:k<a.length:=by omega
   have h2:k<b.length:=by omega
   have:=ih (k+1) m (by omega) (by omega);rw[List.drop_eq_getElem_cons h1,List.drop_eq_getElem_cons h2];by_cases h:a[k]=b[k]
   ·have e:uI a b f ((k:Int),())=some (.inl (((k+1:Nat):Int),())):=by
     unfold uI;simp only[aB,h1,decide_true,cond_true,aP,List.getElem?_eq_getElem h1,List.getElem?_eq_getElem h2,Option.bind_some,hf,h,Bool.not_true,cond_false,aT (show k<9223372036854775807 by omega)]
    simp only[iter,e,Option.bind_some,Sum.elim_inl];rw[this];have:(a[k]::a.drop (k+1)=b[k]::b.drop (k+1))=(a.drop (k+1)=b.drop (k+1)):=by rw[List.cons.injEq];simp[h]
    simp only[this]
   ·have e:uI a b f ((k:Int),())=some (.inr (false,())):=by
     unfold uI;simp only[aB,h1,decide_true,cond_true,aP,List.getElem?_eq_getElem h1,List.getElem?_eq_getElem h2,Option.bind_some,hf,h,decide_false,Bool.not_false]
    have hn:¬ (a[k]::a.drop (k+1)=b[k]::b.drop (k+1)):=fun hh=>h (List.cons.inj hh).1;simp only[iter,e,hn,decide_false,Option.bind_some,Sum.elim_inr]
theorem Tu (a b:List Ent):decide (Int.ofNat a.length=Int.ofNat b.length)=decide (a.length=b.length):=by
 rw[decide_eq_decide];exact Int.ofNat_inj
theorem zam (a b:List Ent) (ha:a.length≤9223372036854775806):G5 (a,b,())=some (decide (a=b),()):=by
 unfold G5;simp only[Tu];by_cases h:a.length=b.length
 ·simp only[h,decide_true,Bool.not_true,cond_false];rw[←h];exact OM a b BO U2 h ha a.length 0 big (by omega) (by rw[jv];omega)
 ·have:¬ a=b:=fun e=>h (by rw[e]);simp only[h,this,decide_false,Bool.not_false,cond_true]
theorem same_eq (a b:List Ent) (ha:a.length≤9223372036854775806):GU (a,b,())=some (decide (a=b),()):=by
 unfold GU Me;simp only[Tu];by_cases h:a.length=b.length
 ·simp only[h,decide_true,Bool.not_true,cond_false];rw[←h];exact aK (OM a b Gy zfM h ha a.length 0 big (by omega) (by rw[jv];omega)) rfl
 ·have:¬ a=b:=fun e=>h (by rw[e]);simp only[h,this,decide_false,Bool.not_false,cond_true,Option.bind_some]
def UF (l:List Ent) (n:Int):Int×Int×Unit→Option ((Int×Int×Unit)⊕(Bool×Unit)):=fun(x_1:Int×Int×Unit)=>
   bif decide (x_1.snd.fst<Int.ofNat (List.length l)) then
    Option.bind (idx l x_1.snd.fst) fun(b:Ent)=>
     bif decide (n≤x_1.snd.fst) then some (Sum.inr (false,()))
     else
      bif decide (40000<wrap64 (x_1.fst+Int.ofNat (List.length b.snd.snd.fst))) then
       some (Sum.inr (false,()))
      else
       some
        (Sum.inl
         (wrap64 (x_1.fst+Int.ofNat (List.length b.snd.snd.fst)),
          wrap64 (x_1.snd.fst+1),()))
   else some (Sum.inr (true,()))
theorem zeq (l:List Ent) (q:Nat) (hl:l.length≤9223372036854775806):∃ b,F88 (l,(q:Int),())=some (b,())∧(b=true→l.length≤q):=by
 obtain⟨r,h,hq⟩:=rU (step:=UF l q) (I:=fun t=>∃ (i:Nat) (a:Int),i≤l.length∧i≤q∧t=(a,(i:Int),())) (μ:=fun t=>l.length-t.2.1.toNat) (Q:=fun _ r=>r.1=true→l.length≤q) (fun t ht=>by
    obtain⟨i,a,hi,h40,rfl⟩:=ht;unfold UF;by_cases h:i<l.length
    ·simp only[aB,h,decide_true,cond_true,aP,List.getElem?_eq_getElem h,Option.bind_some];by_cases hn:(q:Int)≤(i:Int)
     ·simp only[hn,decide_true,cond_true];exact .inl ⟨_,rfl,fun h=>Bool.noConfusion h⟩
     ·simp only[hn,decide_false,cond_false];cases decide (40000<wrap64 (a+Int.ofNat (l[i].2.2.1).length)) with
      | true=>exact .inl ⟨_,rfl,fun h=>Bool.noConfusion h⟩
      | false=>right;rw[aT (show i<9223372036854775807 by omega)];exact⟨_,rfl,⟨i+1,_,h,by omega,rfl⟩,by simp only[Int.toNat_natCast];omega,fun _ h=>h⟩
    ·left;have:i=l.length:=by omega
     subst this;exact⟨(true,()),by simp,fun _=>h40⟩) (n:=big) (t:=(0,0,())) ⟨0,0,Nat.zero_le _,Nat.zero_le _,rfl⟩ (by rw[jv];simp;omega)
 obtain⟨b,⟨⟩⟩:=r;exact⟨b,h,hq⟩
end Go.Proofs.YteebpcpkhojfkaaGreat
