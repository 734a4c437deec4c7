/-
 Plain laws of what lies below,as this seat reaches them (by a program of the bench: port.py).
-/
import Derived.Test.YteebpcpkhojfkaaGreatRmsgPlain
import Derived.Test.YteebpcpkhojfkaaGreatSxS
namespace Go.Proofs.YteebpcpkhojfkaaGreat
open Go.Sx Go Classical
set_option maxRecDepth 10000
theorem zdr (n:Int):Ci (n,())=some (decide (0≤n∧n<3),()):=by
 unfold Ci;by_cases h:0≤n<;>simp[h]
def eG (n:Int):Prop:=0≤n∧n≤1099511627776
theorem zak (n:Int):uw (n,())=some (decide (eG n),()):=by
 unfold uw eG;by_cases h:0≤n<;>simp[h]
theorem zav (l:List Int) (hl:l.length≤9223372036854775806):GX (l,())=some (decide (∀ n∈l,eG n),()):=by
 unfold GX;have:=rV (step:=fun(x_1:Int×Unit)=>
   bif decide (x_1.fst<Int.ofNat (List.length l)) then
    Option.bind (idx l x_1.fst) fun(b:Int)=>
     bif decide (b<0) then some (Sum.inr (false,()))
     else
      bif decide (1099511627776<b) then some (Sum.inr (false,()))
      else some (Sum.inl (wrap64 (x_1.fst+1),()))
   else some (Sum.inr (true,()))) (mk:=fun i=>((i:Int),())) (n:=l.length) (fun i=>decide (∃ n,l[i]? = some n∧eG n)) (rt:=(true,())) (rf:=(false,())) (by omega) (fun i hi=>by
    simp only[aB,hi,decide_true,cond_true,aP,List.getElem?_eq_getElem hi,Option.bind_some,aT (show i<9223372036854775807 by omega),Option.some.injEq,exists_eq_left'];unfold eG;by_cases h1:l[i]<0
    ·have:¬ (0≤l[i]∧l[i]≤1099511627776):=by omega
     simp only[h1,this,decide_true,decide_false,cond_true,cond_false]
    ·by_cases h2:1099511627776<l[i]
     ·have:¬ (0≤l[i]∧l[i]≤1099511627776):=by omega
      simp only[h1,h2,this,decide_true,decide_false,cond_true,cond_false]
     ·have:(0≤l[i]∧l[i]≤1099511627776):=by omega
      simp only[h1,h2,this,decide_true,decide_false,cond_true,cond_false,and_self]) (by simp)
 refine Eq.trans this ?_;have e:((List.range l.length).all fun i=>decide (∃ n,l[i]? = some n∧eG n))=decide (∀ n∈l,eG n):=by
  rw[Bool.eq_iff_iff,List.all_eq_true,decide_eq_true_iff];constructor
  ·intro h n hn;obtain⟨i,hi,rfl⟩:=List.getElem_of_mem hn;obtain⟨m,h1,h2⟩:=of_decide_eq_true (h i (List.mem_range.2 hi));rw[List.getElem?_eq_getElem hi] at h1;rw[Option.some.inj h1];exact h2
  ·intro h i hi;have hi:=List.mem_range.1 hi;exact decide_eq_true ⟨_,List.getElem?_eq_getElem hi,h _ (List.getElem_mem hi)⟩
 rw[e];cases decide (∀ n∈l,eG n)<;>rfl
noncomputable def ve (m:Msg):Option (Bool×Unit):=aC (Int×Unit) (Bool×Unit)
                 (fun(x_1:Int×Unit)=>
                  bif decide (x_1.fst<Int.ofNat (List.length m.2.2.2.2.2.2.2.2.2.1)) then
                   Option.bind (idx m.2.2.2.2.2.2.2.2.2.1 x_1.fst)
                    fun(b:Ent)=>
                    bif decide (m.2.2.2.1<b.snd.fst) then
                     some (Sum.inr (false,()))
                    else some (Sum.inl (wrap64 (x_1.fst+1),()))
                  else
                   Option.map Sum.inr
                    (bif !decide (m.1=7) then some (true,())
                    else
                     Option.bind (mr m.2.2.2.2.2.2.2.2.2.2)
                      fun(b:Bool×Unit)=>
                      bif b.fst then
                       some
                        (decide (0<m.2.2.2.2.2.2.2.2.2.2.1.1),
                         ())
                      else some (false,())))
                 big (0,())
theorem zdd (m:Msg) (hl:m.2.2.2.2.2.2.2.2.2.1.length≤9223372036854775806):∃ b,ve m=some (b,()):=by
 unfold ve;obtain⟨a1,a2,a3,a4,a5,a6,a7,a8,a9,l,s,⟨⟩⟩:=m;have hl':l.length≤9223372036854775806:=hl;obtain⟨sb,hs⟩:=Uj (s,());obtain⟨r,h,_⟩:=rU (T:=Int×Unit) (R:=Bool×Unit) (step:=fun(x_1:Int×Unit)=>
   bif decide (x_1.fst<Int.ofNat (List.length l)) then
    Option.bind (idx l x_1.fst) fun(b:Ent)=>
     bif decide (a4<b.snd.fst) then some (Sum.inr (false,()))
     else some (Sum.inl (wrap64 (x_1.fst+1),()))
   else Option.map Sum.inr
    (bif !decide (a1=7) then some (true,())
    else Option.bind (mr (s,())) fun(b:Bool×Unit)=>bif b.fst then some (decide (0<s.1),()) else some (false,()))) (I:=fun t=>∃ (i:Nat),i≤l.length∧t=((i:Int),())) (μ:=fun t=>l.length-t.1.toNat) (Q:=fun _ _=>True) (fun t ht=>by
    obtain⟨i,hi,rfl⟩:=ht;by_cases h:i<l.length
    ·simp only[aB,h,decide_true,cond_true,aP,List.getElem?_eq_getElem h,Option.bind_some];cases decide (a4<(l[i]).2.1) with
     | true=>exact .inl ⟨_,rfl,trivial⟩
     | false=>right;rw[aT (show i<9223372036854775807 by omega)];exact⟨_,rfl,⟨i+1,h,rfl⟩,by simp only[Int.toNat_natCast];omega,fun _ h=>h⟩
    ·left;have:i=l.length:=by omega
     subst this;simp only[aB,Nat.lt_irrefl,decide_false,cond_false,hs,Option.bind_some];cases decide (a1=7) with
     | false=>exact⟨_,rfl,trivial⟩
     | true=>cases sb<;>exact⟨_,rfl,trivial⟩) (n:=big) (t:=(0,())) ⟨0,Nat.zero_le _,rfl⟩ (by rw[jv];simp;omega)
 obtain⟨b,⟨⟩⟩:=r;exact⟨b,h⟩
def OkM (m:Msg):Prop:=(1≤m.1∧m.1≤7)∧jy m=m∧(0≤m.2.1∧m.2.1<3)∧(0≤m.2.2.1∧m.2.2.1<3)∧¬ m.2.1=m.2.2.1∧¬ m.2.2.2.1<1∧
 (eG m.2.2.2.1∧eG m.2.2.2.2.1∧eG m.2.2.2.2.2.1∧eG m.2.2.2.2.2.2.1∧eG m.2.2.2.2.2.2.2.1)∧¬ 4<Int.ofNat m.2.2.2.2.2.2.2.2.2.1.length∧kZ m.2.2.2.2.1 m.2.2.2.2.2.1 m.2.2.2.2.2.2.2.2.2.1=true
theorem noM {m:Msg} (h:¬ OkM m):(bif decide (OkM m) then ve m else some (false,()))=some (false,()):=by
 rw[decide_eq_false h];rfl
theorem zcK (m:Msg):(jy m).2.2.2.2.2.2.2.2.2.1.length≤m.2.2.2.2.2.2.2.2.2.1.length:=by
 unfold jy;split
 ·exact Nat.zero_le _
 ·split
  ·exact Nat.zero_le _
  ·split
   ·exact Nat.le_refl _
   ·split<;>exact Nat.zero_le _
theorem QW (m:Msg) (hl:m.2.2.2.2.2.2.2.2.2.1.length≤9223372036854775806):F71 (m,())=bif decide (OkM m) then ve m else some (false,()):=by
 by_cases hk:1≤m.1∧m.1≤7
 case neg=>obtain⟨z,hz⟩:=zcJ m hk;rw[noM (fun h=>hk h.1)];unfold F71;simp only[hz,Option.bind_some,Bool.not_false,cond_true]
 have hkl:=zcK m;unfold F71;simp only[zaC m hk,Option.bind_some,Bool.not_true,cond_false,Jv (jy m) m (by omega),zdr,zav [_,_,_,_,_] (by simp),zdX _ hl,zbf];by_cases h2:jy m=m
 case neg=>rw[noM (fun h=>h2 h.2.1)];simp only[h2,decide_false,Bool.not_false,cond_true]
 simp only[h2,decide_true,Bool.not_true,cond_false];by_cases h3:0≤m.2.1∧m.2.1<3
 case neg=>rw[noM (fun h=>h3 h.2.2.1)];simp only[h3,decide_false,Bool.not_false,cond_true]
 simp only[h3,and_self,decide_true,Bool.not_true,cond_false];by_cases h4:0≤m.2.2.1∧m.2.2.1<3
 case neg=>rw[noM (fun h=>h4 h.2.2.2.1)];simp only[h4,decide_false,Bool.not_false,cond_true]
 simp only[h4,and_self,decide_true,Bool.not_true,cond_false];by_cases h5:m.2.1=m.2.2.1
 case pos=>rw[noM (fun h=>h.2.2.2.2.1 h5)];simp only[h5,decide_true,cond_true]
 simp only[h5,decide_false,cond_false];by_cases h6:m.2.2.2.1<1
 case pos=>rw[noM (fun h=>h.2.2.2.2.2.1 h6)];simp only[h6,decide_true,cond_true]
 simp only[h6,decide_false,cond_false];have e7:(∀ n∈[m.2.2.2.1,m.2.2.2.2.1,m.2.2.2.2.2.1,m.2.2.2.2.2.2.1,m.2.2.2.2.2.2.2.1],eG n)↔(eG m.2.2.2.1∧eG m.2.2.2.2.1∧eG m.2.2.2.2.2.1∧eG m.2.2.2.2.2.2.1∧eG m.2.2.2.2.2.2.2.1):=by simp
 by_cases h7:(eG m.2.2.2.1∧eG m.2.2.2.2.1∧eG m.2.2.2.2.2.1∧eG m.2.2.2.2.2.2.1∧eG m.2.2.2.2.2.2.2.1)
 case neg=>rw[noM (fun h=>h7 h.2.2.2.2.2.2.1),decide_eq_false (fun h=>h7 (e7.1 h))];simp only[Bool.not_false,cond_true]
 rw[decide_eq_true (e7.2 h7)];simp only[Bool.not_true,cond_false];by_cases h8:4<Int.ofNat m.2.2.2.2.2.2.2.2.2.1.length
 case pos=>rw[noM (fun h=>h.2.2.2.2.2.2.2.1 h8)];simp only[h8,decide_true,cond_true]
 simp only[h8,decide_false,cond_false];cases h9:kZ m.2.2.2.2.1 m.2.2.2.2.2.1 m.2.2.2.2.2.2.2.2.2.1 with
 | false=>rw[noM (fun h=>Bool.noConfusion (h9.symm.trans h.2.2.2.2.2.2.2.2))];simp only[Bool.not_false,cond_true]
 | true=>
  have:OkM m:=⟨hk,h2,h3,h4,h5,h6,h7,h8,h9⟩
  rw[decide_eq_true this];simp only[Bool.not_true,cond_false,cond_true];rfl
theorem Zi (m:Msg) (hl:m.2.2.2.2.2.2.2.2.2.1.length≤9223372036854775806):F34 (m,())=bif decide (OkM m) then ve m else some (false,()):=by
 unfold F34;by_cases k1:m.1<1
 case pos=>rw[noM (fun h=>by have:=h.1.1;omega)];simp only[k1,decide_true,cond_true]
 by_cases k2:7<m.1
 case pos=>rw[noM (fun h=>by have:=h.1.2;omega)];simp only[k1,k2,decide_false,cond_false,decide_true,cond_true]
 have hk:1≤m.1∧m.1≤7:=by omega
 simp only[k1,k2,decide_false,cond_false,zak,Option.bind_some,zaX m hk,zbo _ _ hl];by_cases k3:m.2.1<0
 case pos=>rw[noM (fun h=>by have:=h.2.2.1.1;omega)];simp only[k3,decide_true,cond_true]
 by_cases k4:2<m.2.1
 case pos=>rw[noM (fun h=>by have:=h.2.2.1.2;omega)];simp only[k3,k4,decide_false,cond_false,decide_true,cond_true]
 by_cases k5:m.2.2.1<0
 case pos=>rw[noM (fun h=>by have:=h.2.2.2.1.1;omega)];simp only[k3,k4,k5,decide_false,cond_false,decide_true,cond_true]
 by_cases k6:2<m.2.2.1
 case pos=>rw[noM (fun h=>by have:=h.2.2.2.1.2;omega)];simp only[k3,k4,k5,k6,decide_false,cond_false,decide_true,cond_true]
 simp only[k3,k4,k5,k6,decide_false,cond_false];by_cases h5:m.2.1=m.2.2.1
 case pos=>rw[noM (fun h=>h.2.2.2.2.1 h5)];simp only[h5,decide_true,cond_true]
 simp only[h5,decide_false,cond_false];by_cases h6:m.2.2.2.1<1
 case pos=>rw[noM (fun h=>h.2.2.2.2.2.1 h6)];simp only[h6,decide_true,cond_true]
 simp only[h6,decide_false,cond_false];by_cases a1:eG m.2.2.2.1
 case neg=>rw[noM (fun h=>a1 h.2.2.2.2.2.2.1.1)];simp only[a1,decide_false,Bool.not_false,cond_true]
 by_cases a2:eG m.2.2.2.2.1
 case neg=>rw[noM (fun h=>a2 h.2.2.2.2.2.2.1.2.1)];simp only[a1,a2,decide_true,Bool.not_true,cond_false,decide_false,Bool.not_false,cond_true]
 by_cases a3:eG m.2.2.2.2.2.1
 case neg=>rw[noM (fun h=>a3 h.2.2.2.2.2.2.1.2.2.1)];simp only[a1,a2,a3,decide_true,Bool.not_true,cond_false,decide_false,Bool.not_false,cond_true]
 by_cases a4:eG m.2.2.2.2.2.2.1
 case neg=>rw[noM (fun h=>a4 h.2.2.2.2.2.2.1.2.2.2.1)];simp only[a1,a2,a3,a4,decide_true,Bool.not_true,cond_false,decide_false,Bool.not_false,cond_true]
 by_cases a5:eG m.2.2.2.2.2.2.2.1
 case neg=>rw[noM (fun h=>a5 h.2.2.2.2.2.2.1.2.2.2.2)];simp only[a1,a2,a3,a4,a5,decide_true,Bool.not_true,cond_false,decide_false,Bool.not_false,cond_true]
 simp only[a1,a2,a3,a4,a5,decide_true,Bool.not_true,cond_false];by_cases h2:jy m=m
 case neg=>rw[noM (fun h=>h2 h.2.1)];simp only[h2,decide_false,Bool.not_false,cond_true]
 simp only[h2,decide_true,Bool.not_true,cond_false];by_cases h8:4<Int.ofNat m.2.2.2.2.2.2.2.2.2.1.length
 case pos=>rw[noM (fun h=>h.2.2.2.2.2.2.2.1 h8)];simp only[h8,decide_true,cond_true]
 simp only[h8,decide_false,cond_false];cases h9:kZ m.2.2.2.2.1 m.2.2.2.2.2.1 m.2.2.2.2.2.2.2.2.2.1 with
 | false=>rw[noM (fun h=>Bool.noConfusion (h9.symm.trans h.2.2.2.2.2.2.2.2))];simp only[Bool.not_false,cond_true]
 | true=>
  have:OkM m:=⟨hk,h2,⟨by omega,by omega⟩,⟨by omega,by omega⟩,h5,h6,⟨a1,a2,a3,a4,a5⟩,h8,h9⟩
  rw[decide_eq_true this];simp only[Bool.not_true,cond_false,cond_true];rfl
theorem zbm (m:Msg) (hl:m.2.2.2.2.2.2.2.2.2.1.length≤9223372036854775806):∃ b,F71 (m,())=some (b,())∧F34 (m,())=some (b,()):=by
 rw[QW m hl,Zi m hl];obtain⟨b,h⟩:=zdd m hl;cases decide (OkM m) with
 | true=>exact⟨b,h,h⟩
 | false=>exact⟨false,rfl,rfl⟩
theorem zdF (m:Msg) (hl:m.2.2.2.2.2.2.2.2.2.1.length≤9223372036854775806):∃ b,F24 (m,())=some (b,()):=by
 unfold F24;obtain⟨b,h,_⟩:=zeq m.2.2.2.2.2.2.2.2.2.1 6 hl;have h':F88 (m.2.2.2.2.2.2.2.2.2.1,6,())=some (b,()):=h;simp only[h',Option.bind_some];cases b<;>exact⟨_,rfl⟩
end Go.Proofs.YteebpcpkhojfkaaGreat
