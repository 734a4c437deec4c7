/-
 Plain laws of what lies below,as this seat reaches them (by a program of the bench: port.py).
-/
import Derived.Test.YtlegpimppfabgaaGreatRmsgLawB
import Derived.Test.YtlegpimppfabgaaGreatSxS
namespace Go.Proofs.YtlegpimppfabgaaGreat
open Go.Sx Go Classical
set_option maxRecDepth 10000
theorem OG:∀ {i t:Int} {l:List Ent},kW i t l=true→∀ e∈l,lD e
 | _,_,[],_,e,h=>by simp at h
 | i,t,x::r,hr,e,h=>by
  unfold kW at hr;cases hd:decide (lD x∧x.1-1=i∧t≤x.2.1) with
  | false=>rw[hd] at hr;cases hr
  | true=>
   rw[hd] at hr;rcases List.mem_cons.1 h with rfl|h
   ·exact(of_decide_eq_true hd).1
   ·exact OG hr e h
theorem Zu (m:Msg) (hl:m.2.2.2.2.2.2.2.2.2.1.length≤9223372036854775806) (h:um m=some (true,())) (h7:m.1=7):ug m.2.2.2.2.2.2.2.2.2.2.1=true:=by
 unfold um at h;obtain⟨a1,a2,a3,a4,a5,a6,a7,a8,a9,l,s,⟨⟩⟩:=m;have hl':l.length≤9223372036854775806:=hl;have hs:=Pj s;obtain⟨r,h1,h2⟩:=qL (T:=Int×Unit) (R:=Bool×Unit) (step:=fun(x_1:Int×Unit)=>
   bif decide (x_1.fst<Int.ofNat (List.length l)) then
    Option.bind (idx l x_1.fst) fun(b:Ent)=>
     bif decide (a4<b.snd.fst) then some (Sum.inr (false,()))
     else some (Sum.inl (wrap64 (x_1.fst+1),()))
   else Option.map Sum.inr
    (bif !decide (a1=7) then some (true,())
    else Option.bind (mg (s,())) fun(b:Bool×Unit)=>bif b.fst then some (decide (0<s.1),()) else some (false,()))) (I:=fun t=>∃ (i:Nat),i≤l.length∧t=((i:Int),())) (μ:=fun t=>l.length-t.1.toNat) (Q:=fun _ r=>r=(true,())→ug s=true) (fun t ht=>by
    obtain⟨i,hi,rfl⟩:=ht;by_cases h:i<l.length
    ·simp only[ax,h,decide_true,cond_true,aI,List.getElem?_eq_getElem h,Option.bind_some];cases decide (a4<(l[i]).2.1) with
     | true=>exact .inl ⟨_,rfl,fun h=>by cases h⟩
     | false=>right;rw[aP (show i<9223372036854775807 by omega)];exact⟨_,rfl,⟨i+1,h,rfl⟩,by simp only[Int.toNat_natCast];omega,fun _ h=>h⟩
    ·left;have:i=l.length:=by omega
     subst this;have h7:a1=7:=h7;simp only[ax,Nat.lt_irrefl,decide_false,cond_false,hs,Option.bind_some,h7,decide_true,Bool.not_true];cases hb:ug s with
     | true=>exact⟨_,rfl,fun _=>rfl⟩
     | false=>exact⟨_,rfl,fun h=>by cases h⟩) (n:=big) (t:=(0,())) ⟨0,Nat.zero_le _,rfl⟩ (by rw[ji];simp;omega)
 have e:r=(true,()):=Option.some.inj (h1.symm.trans h);exact h2 e
theorem XZ {m:Msg} (hl:m.2.2.2.2.2.2.2.2.2.1.length≤9223372036854775806) (h:rX m=true):OkM m∧(m.1=7→ug m.2.2.2.2.2.2.2.2.2.2.1=true):=by
 have h1:=(Jp m hl).1;rw[h,PE m hl] at h1;cases hd:decide (OkM m) with
 | false=>rw[hd] at h1;cases h1
 | true=>rw[hd] at h1;exact⟨of_decide_eq_true hd,Zu m hl h1⟩
theorem XX {m:Msg} (h:OkM m):(m.1=7→m.2.2.2.2.2.2.2.2.2.1=[])∧(m.1≠7→m.2.2.2.2.2.2.2.2.2.2.1=UT):=by
 have hk:=h.2.1;have h1:=h.1;unfold jD at hk;constructor
 ·intro h7;rw[if_neg (by omega),if_neg (by omega),if_neg (by omega),if_neg (by omega)] at hk;rw[←hk]
 ·intro h7;rcases He h1.1 h1.2 with c|c|c|c|c|c|c
  ·rw[if_pos (by omega)] at hk;rw[←hk]
  ·rw[if_neg (by omega),if_pos (by omega)] at hk;rw[←hk]
  ·rw[if_pos (by omega)] at hk;rw[←hk]
  ·rw[if_neg (by omega),if_pos (by omega)] at hk;rw[←hk]
  ·rw[if_neg (by omega),if_neg (by omega),if_pos (by omega)] at hk;rw[←hk]
  ·rw[if_neg (by omega),if_neg (by omega),if_neg (by omega),if_pos (by omega)] at hk;rw[←hk]
  ·exact absurd c h7
theorem Yy {e:Ent} (h:ug e=true):e.2.2.1.length≤50000:=by
 obtain⟨i,t,s,⟨⟩⟩:=e;have h1:=Pj (i,t,s,());rw[h] at h1;unfold mg at h1;simp only[Bz,Option.bind_some] at h1;show s.length≤50000;by_cases c0:s.length≤50000
 ·exact c0
 ·exfalso;have d0:decide (Int.ofNat s.length≤50000)=false:=decide_eq_false (by simp only[Int.ofNat_eq_natCast];omega);have d1:decide (Int.ofNat s.length=0)=false:=decide_eq_false (by simp only[Int.ofNat_eq_natCast];omega);simp only[d0,d1] at h1;by_cases c1:i=0<;>by_cases c2:t=0<;>by_cases c3:Num i<;>by_cases c4:Num t<;>simp[c1,c2,c3,c4] at h1
end Go.Proofs.YtlegpimppfabgaaGreat
