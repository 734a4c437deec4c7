/-
 Plain laws of what lies below,as this seat reaches them (by a program of the bench: port.py).
-/
import Derived.Test.YteebpcpkhojfkaaGreatRmsgLawB
import Derived.Test.YteebpcpkhojfkaaGreatSxS
namespace Go.Proofs.YteebpcpkhojfkaaGreat
open Go.Sx Go Classical
set_option maxRecDepth 10000
theorem Dh:∀ {i t:Int} {l:List Ent},kZ i t l=true→∀ e∈l,jw e
 | _,_,[],_,e,h=>by simp at h
 | i,t,x::r,hr,e,h=>by
  unfold kZ at hr;cases hd:decide (jw x∧x.1-1=i∧t≤x.2.1) with
  | false=>rw[hd] at hr;cases hr
  | true=>
   rw[hd] at hr;rcases List.mem_cons.1 h with rfl|h
   ·exact(of_decide_eq_true hd).1
   ·exact Dh hr e h
theorem zbb (m:Msg) (hl:m.2.2.2.2.2.2.2.2.2.1.length≤9223372036854775806) (h:ve m=some (true,())) (h7:m.1=7):oV m.2.2.2.2.2.2.2.2.2.2.1=true:=by
 unfold ve at h;obtain⟨a1,a2,a3,a4,a5,a6,a7,a8,a9,l,s,⟨⟩⟩:=m;have hl':l.length≤9223372036854775806:=hl;have hs:=IX s;obtain⟨r,h1,h2⟩:=rU (T:=Int×Unit) (R:=Bool×Unit) (step:=fun(x_1:Int×Unit)=>
   bif decide (x_1.fst<Int.ofNat (List.length l)) then
    Option.bind (idx l x_1.fst) fun(b:Ent)=>
     bif decide (a4<b.snd.fst) then some (Sum.inr (false,()))
     else some (Sum.inl (wrap64 (x_1.fst+1),()))
   else Option.map Sum.inr
    (bif !decide (a1=7) then some (true,())
    else Option.bind (mr (s,())) fun(b:Bool×Unit)=>bif b.fst then some (decide (0<s.1),()) else some (false,()))) (I:=fun t=>∃ (i:Nat),i≤l.length∧t=((i:Int),())) (μ:=fun t=>l.length-t.1.toNat) (Q:=fun _ r=>r=(true,())→oV s=true) (fun t ht=>by
    obtain⟨i,hi,rfl⟩:=ht;by_cases h:i<l.length
    ·simp only[aB,h,decide_true,cond_true,aP,List.getElem?_eq_getElem h,Option.bind_some];cases decide (a4<(l[i]).2.1) with
     | true=>exact .inl ⟨_,rfl,fun h=>by cases h⟩
     | false=>right;rw[aT (show i<9223372036854775807 by omega)];exact⟨_,rfl,⟨i+1,h,rfl⟩,by simp only[Int.toNat_natCast];omega,fun _ h=>h⟩
    ·left;have:i=l.length:=by omega
     subst this;have h7:a1=7:=h7;simp only[aB,Nat.lt_irrefl,decide_false,cond_false,hs,Option.bind_some,h7,decide_true,Bool.not_true];cases hb:oV s with
     | true=>exact⟨_,rfl,fun _=>rfl⟩
     | false=>exact⟨_,rfl,fun h=>by cases h⟩) (n:=big) (t:=(0,())) ⟨0,Nat.zero_le _,rfl⟩ (by rw[jv];simp;omega)
 have e:r=(true,()):=Option.some.inj (h1.symm.trans h);exact h2 e
theorem H5 {m:Msg} (hl:m.2.2.2.2.2.2.2.2.2.1.length≤9223372036854775806) (h:qZ m=true):OkM m∧(m.1=7→oV m.2.2.2.2.2.2.2.2.2.2.1=true):=by
 have h1:=(Eg m hl).1;rw[h,QW m hl] at h1;cases hd:decide (OkM m) with
 | false=>rw[hd] at h1;cases h1
 | true=>rw[hd] at h1;exact⟨of_decide_eq_true hd,zbb m hl h1⟩
theorem Pv {m:Msg} (h:OkM m):(m.1=7→m.2.2.2.2.2.2.2.2.2.1=[])∧(m.1≠7→m.2.2.2.2.2.2.2.2.2.2.1=WM):=by
 have hk:=h.2.1;have h1:=h.1;unfold jy at hk;constructor
 ·intro h7;rw[if_neg (by omega),if_neg (by omega),if_neg (by omega),if_neg (by omega)] at hk;rw[←hk]
 ·intro h7;rcases Iw h1.1 h1.2 with c|c|c|c|c|c|c
  ·rw[if_pos (by omega)] at hk;rw[←hk]
  ·rw[if_neg (by omega),if_pos (by omega)] at hk;rw[←hk]
  ·rw[if_pos (by omega)] at hk;rw[←hk]
  ·rw[if_neg (by omega),if_pos (by omega)] at hk;rw[←hk]
  ·rw[if_neg (by omega),if_neg (by omega),if_pos (by omega)] at hk;rw[←hk]
  ·rw[if_neg (by omega),if_neg (by omega),if_neg (by omega),if_pos (by omega)] at hk;rw[←hk]
  ·exact absurd c h7
theorem TQ (i t:Int) (s:List UInt8):lS (i,t,s,())=ak i++ak t++aZ s:=by
 simp only[lS,aF,dQ,List.append_nil,List.append_assoc]
theorem RN (e:Ent):(lS e).length=20+e.2.2.1.length:=by
 obtain⟨i,t,s,⟨⟩⟩:=e;rw[TQ];simp only[List.length_append,bu,dZ];omega
theorem Q3 (i t:Int) (s:List UInt8) (h:s.length≤100000):BQ (i,t,s,())=some (lS (i,t,s,()),()):=by
 have h1:kD (i,())=some (ak i,()):=Dj i;have h2:kD (t,())=some (ak t,()):=Dj t;have h3:F56 (s,())=some (aZ s,()):=iY s (by omega);unfold BQ;simp only[h1,h2,Option.bind_some];rw[mM (by simp only[bu];omega)];simp only[h3,Option.bind_some];rw[mM (by simp only[List.length_append,bu,dZ];omega),TQ];rfl
theorem zdh (e:Ent) (hr:jw e):G7 (e,())=some (lS e,()):=by
 obtain⟨i,t,s,⟨⟩⟩:=e;have hl:s.length≤12000:=hr.2.2;unfold G7;simp only[Px,decide_eq_true hr,Option.bind_some,Bool.not_true,cond_false,Q3 i t s (by omega)]
theorem Ih {e:Ent} (h:oV e=true):e.2.2.1.length≤50000:=by
 obtain⟨i,t,s,⟨⟩⟩:=e;have h1:=IX (i,t,s,());rw[h] at h1;unfold mr at h1;simp only[CW,Option.bind_some] at h1;show s.length≤50000;by_cases c0:s.length≤50000
 ·exact c0
 ·exfalso;have d0:decide (Int.ofNat s.length≤50000)=false:=decide_eq_false (by simp only[Int.ofNat_eq_natCast];omega);have d1:decide (Int.ofNat s.length=0)=false:=decide_eq_false (by simp only[Int.ofNat_eq_natCast];omega);simp only[d0,d1] at h1;by_cases c1:i=0<;>by_cases c2:t=0<;>by_cases c3:Num i<;>by_cases c4:Num t<;>simp[c1,c2,c3,c4] at h1
theorem zch (e:Ent) (hr:oV e=true):G6 (e,())=some (lS e,()):=by
 have hl:=Ih hr;obtain⟨i,t,s,⟨⟩⟩:=e;have hl:s.length≤50000:=hl;unfold G6;simp only[IX,hr,Option.bind_some,Bool.not_true,cond_false,Q3 i t s (by omega)]
def KF (m:Msg):WO:=(m.1,m.2.1,m.2.2.1,m.2.2.2.1,m.2.2.2.2.1,m.2.2.2.2.2.1,m.2.2.2.2.2.2.1,m.2.2.2.2.2.2.2.1,m.2.2.2.2.2.2.2.2.1,m.2.2.2.2.2.2.2.2.2.1,())
def Aw (k:Int) (e:Ent):List UInt8:=bif decide (k=7) then lS e else[]
def Bd (m:Msg):List UInt8:=headB (KF m)++Aw m.1 m.2.2.2.2.2.2.2.2.2.2.1
theorem TE (a1 a2 a3 a4 a5 a6 a7 a8:Int) (a9:Bool) (l:List Ent):headB (a1,a2,a3,a4,a5,a6,a7,a8,a9,l,())=bG a1++bG a2++bG a3++ak a4++ak a5++ak a6++ak a7++ak a8++je a9++countB l.length++l.flatMap lS:=by
 simp only[headB,aF,dQ,iO,List.append_nil,List.append_assoc]
theorem zcR {l:List Ent} (hr:∀ e∈l,jw e):(l.flatMap lS).length≤l.length*12020:=qm fun e he=>by
 rw[RN];have:=(hr e he).2.2;omega
theorem Td {m:Msg} (h:OkM m) (hs:m.1=7→oV m.2.2.2.2.2.2.2.2.2.2.1=true):(Bd m).length≤60000:=by
 have h1:=zcR (Dh h.2.2.2.2.2.2.2.2);have h2:=Pv h;have h4:=h.2.2.2.2.2.2.2.1;obtain⟨a1,a2,a3,a4,a5,a6,a7,a8,a9,l,s,⟨⟩⟩:=m;unfold Bd KF Aw;rw[TE];simp only[List.length_append,kJ,bu,fK,kG,Int.ofNat_eq_natCast] at *;by_cases h7:a1=7
 ·have h5:=h2.1 h7;have h6:=Ih (hs h7);rw[decide_eq_true h7,cond_true,RN];subst h5;simp only[List.flatMap_nil,List.length_nil] at *;omega
 ·rw[decide_eq_false h7,cond_false];simp only[List.length_nil];omega
end Go.Proofs.YteebpcpkhojfkaaGreat
