/-
 Plain laws of what lies below,as this seat reaches them (by a program of the bench: port.py).
-/
import Derived.Test.YteebpcpkhojfkaaGreatOctPro
import Derived.Test.YteebpcpkhojfkaaGreatSxS
namespace Go.Proofs.YteebpcpkhojfkaaGreat
open Go.Sx Go Classical
set_option maxRecDepth 10000
theorem P7 (v:Nat):∀ k,di (v:Int) (k+1)=di ((v/256:Nat):Int) k++[byteAt (v:Int) 0]
 | 0=>rfl
 | k+1=>by
  have e:byteAt (v:Int) (k+1)=byteAt ((v/256:Nat):Int) k:=by unfold byteAt;rw[Int.pow_succ,Int.mul_comm,←Int.ediv_ediv_of_nonneg (by omega:(0:Int)≤256)];rfl
  calc di (v:Int) (k+1+1)=byteAt (v:Int) (k+1)::di (v:Int) (k+1):=rfl
   _=byteAt ((v/256:Nat):Int) k::(di ((v/256:Nat):Int) k++[byteAt (v:Int) 0]):=by rw[e,P7 v k]
   _=_:=rfl
def o8 (l:List UInt8):Nat:=l.foldl (fun a b=>a*256+b.toNat) 0
theorem zaw (l:List UInt8) (b:UInt8):o8 (l++[b])=o8 l*256+b.toNat:=by simp[o8]
theorem RP (l:List UInt8) (h:l.length≤8):dec l=((o8 l:Nat):Int):=by
 refine J5 l 0 ?_;rw[Nat.zero_add,Nat.one_mul];exact Nat.pow_le_pow_right (n:=256) (by decide) h
theorem P5:∀ (n:Nat) (l:List UInt8),l.length=n→di ((o8 l:Nat):Int) n=l
 | 0,l,h=>by rw[List.length_eq_zero_iff.1 h];rfl
 | n+1,l,h=>by
  have hne:l≠[]:=by intro e;rw[e] at h;simp at h
  have hl:=(List.dropLast_concat_getLast hne).symm;generalize hb:l.getLast hne=b at hl;generalize hd:l.dropLast=d at hl;have hlen:d.length=n:=by rw[←hd];simp;omega
  subst hl;have hbt:=b.toNat_lt;rw[P7,zaw];have e1:(o8 d*256+b.toNat)/256=o8 d:=by omega
  have e2:byteAt ((o8 d*256+b.toNat:Nat):Int) 0=b:=by
   unfold byteAt Sx.byteOf;have:(((o8 d*256+b.toNat:Nat):Int)/256 ^ 0 % 256).toNat=b.toNat:=by rw[Int.pow_zero,Int.ediv_one];omega
   rw[this];simp
  rw[e1,e2,P5 n d hlen]
theorem Jq (l:List UInt8) (n:Nat) (hn:n≤8) (h:l.length=n):di (dec l) n=l:=by
 rw[RP l (by omega),P5 n l h]
theorem zes (l:List UInt8) (n:Nat) (hn:n≤8) (h:l.length=n):dec l<256 ^ n:=by
 rw[←Jq l n hn h,RP l (by omega),TS _ n hn];have:o8 l % 256 ^ n<256 ^ n:=Nat.mod_lt _ (Nat.pow_pos (by decide))
 exact_mod_cast this
theorem Df (s:In) (n:Nat) (h1:(dR s n).2.2.1=false) (h0:s.2.1=false):(dR s n).1.length=n∧s.1=(dR s n).1++(dR s n).2.1:=by
 obtain⟨b,f,⟨⟩⟩:=s;have:f=false:=h0;subst this;unfold dR at *;by_cases hn:n≤b.length
 ·simp[hn]
 ·simp[hn] at h1
theorem zn (s:In) (n:Nat) (h:s.2.1=true):(dR s n).2.2.1=true:=by
 unfold dR;rw[h];exact h
theorem Ig (s:In) (n:Nat):(dR s n).2.1.length≤s.1.length:=by
 unfold dR;cases s.2.1 with
 | true=>exact Nat.le_refl _
 | false=>
  by_cases hn:n≤s.1.length
  ·simp[hn]
  ·simp[hn]
structure Codec {α:Type} (enc:α→List UInt8) (g:In→α×In) (ok:α→Prop):Prop where
 rt:∀ v r,ok v→g (enc v++r,false,())=(v,(r,false,()))
 fine:∀ s,Fine s→Fine (g s).2
 bad:∀ s,s.2.1=true→(g s).2.2.1=true
 ex:∀ s,s.2.1=false→(g s).2.2.1=false→ok (g s).1∧s.1=enc (g s).1++(g s).2.1
 len:∀ s,(g s).2.1.length≤s.1.length
theorem Codec.ex' {α:Type} {enc:α→List UInt8} {g:In→α×In} {ok:α→Prop} (c:Codec enc g ok) {s:In} (h:(g s).2.2.1=false):s.2.1=false∧ok (g s).1∧s.1=enc (g s).1++(g s).2.1:=by
 have h0:s.2.1=false:=by
  cases hb:s.2.1 with
  | false=>rfl
  | true=>rw[c.bad s hb] at h;cases h
 exact⟨h0,c.ex s h0 h⟩
def In64 (n:Int):Prop:= -9223372036854775808≤n∧n≤9223372036854775807
def ak (n:Int):List UInt8:=di (IntKind.wrap .u64 n) 8
def nZ (s:In):Int×In:=(wrap64 (dI s 8).1,(dI s 8).2)
theorem zcr (n:Int) (r:List UInt8):dI (di (IntKind.wrap .u64 n) 8++r,false,()) 8=(IntKind.wrap .u64 n,(r,false,())):=by
 have hw:=uA n;obtain⟨w,hm⟩:∃ w:Nat,IntKind.wrap .u64 n=(w:Int):=⟨(IntKind.wrap .u64 n).toNat,by omega⟩
 rw[hm,Rk w 8 (by omega),Nat.mod_eq_of_lt (by omega)]
theorem wrap_wrap {x:Int} (h1:0≤x) (h2:x<18446744073709551616):IntKind.wrap .u64 (wrap64 x)=x:=by
 rw[uA];show(IntKind.wrap .i64 x) % _=x;simp only[IntKind.wrap,IntKind.bits,IntKind.signed];simp;omega
theorem wrap64_in (x:Int):In64 (wrap64 x):=by
 unfold In64;show _≤IntKind.wrap .i64 x∧IntKind.wrap .i64 x≤_;simp only[IntKind.wrap,IntKind.bits,IntKind.signed];simp;omega
theorem yx:Codec ak nZ In64 where
 rt:=fun v r h=>by unfold nZ ak;rw[zcr,za1 h.1 h.2]
 fine:=fun s h=>h.num 8
 bad:=fun s h=>zn s 8 h
 ex:=fun s h0 h1=>by have h:=Df s 8 h1 h0;refine⟨wrap64_in _,?_⟩;have hb:=Qo s 8;unfold nZ ak;rw[wrap_wrap hb.1 hb.2];show s.1=di (dec (dR s 8).1) 8++(dR s 8).2.1;rw[Jq _ 8 (by omega) h.1];exact h.2
 len:=fun s=>Ig s 8
theorem bu (n:Int):(ak n).length=8:=rO _ 8
def vJ (b:UInt8):List UInt8:=[b]
def tC (s:In):UInt8×In:=(Sx.byteOf (IntKind.wrap .u8 (dI s 1).1),(dI s 1).2)
theorem QC (b:UInt8):Sx.byteOf (IntKind.wrap .u8 (dec [b]))=b:=by
 have hb:=b.toNat_lt;have:dec [b]=((b.toNat:Nat):Int):=by simp[dec,lG]
 rw[this,zY];unfold Sx.byteOf;have e:(((b.toNat:Nat):Int) % 256).toNat=b.toNat:=by omega
 rw[e];simp
theorem byteC:Codec vJ tC (fun _=>True) where
 rt:=fun v r _=>by have h:dR ([v]++r,false,()) 1=([v],(r,false,())):=IR [v] r;unfold tC vJ dI;rw[h];simp only[QC]
 fine:=fun s h=>h.num 1
 bad:=fun s h=>zn s 1 h
 ex:=fun s h0 h1=>by have h:=Df s 1 h1 h0;refine⟨trivial,?_⟩;obtain⟨b,hb⟩:=List.length_eq_one_iff.1 h.1;have h2:=h.2;show s.1=[Sx.byteOf (IntKind.wrap .u8 (dec (dR s 1).1))]++(dR s 1).2.1;rw[hb,QC];rw[hb] at h2;exact h2
 len:=fun s=>Ig s 1
def dQ (_:Unit):List UInt8:=[]
def ED (s:In):Unit×In:=((),s)
theorem KO:Codec dQ ED (fun _=>True) where
 rt:=fun _v _r _=>rfl
 fine:=fun _s h=>h
 bad:=fun _s h=>h
 ex:=fun _s _h0 _h1=>⟨trivial,rfl⟩
 len:=fun _s=>Nat.le_refl _
def aF {α β:Type} (e:α→List UInt8) (f:β→List UInt8) (x:α×β):List UInt8:=e x.1++f x.2
def jW {α β:Type} (g:In→α×In) (h:In→β×In) (s:In):(α×β)×In:=(((g s).1,(h (g s).2).1),(h (g s).2).2)
def lK {α β:Type} (p:α→Prop) (q:β→Prop) (x:α×β):Prop:=p x.1∧q x.2
theorem mW {α β:Type} {e:α→List UInt8} {f:β→List UInt8} {g:In→α×In} {h:In→β×In} {p:α→Prop} {q:β→Prop} (c:Codec e g p) (d:Codec f h q):Codec (aF e f) (jW g h) (lK p q) where
 rt:=fun v r hv=>by unfold jW aF;rw[List.append_assoc,c.rt v.1 _ hv.1,d.rt v.2 _ hv.2]
 fine:=fun s hs=>d.fine _ (c.fine _ hs)
 bad:=fun s hs=>d.bad _ (c.bad _ hs)
 ex:=fun s h0 h1=>by obtain⟨h2,h3,h4⟩:=d.ex' h1;obtain⟨_,h5,h6⟩:=c.ex' h2;refine⟨⟨h5,h3⟩,?_⟩;rw[h6,h4];unfold aF jW;rw[List.append_assoc]
 len:=fun s=>Nat.le_trans (d.len _) (c.len _)
theorem Codec.map {α β:Type} {e:α→List UInt8} {g:In→α×In} {p:α→Prop} (c:Codec e g p) (to:α→β) (back:β→α) (q:β→Prop) (h1:∀ a,p a→back (to a)=a∧q (to a)) (h2:∀ b,q b→p (back b)∧to (back b)=b) :
  Codec (fun b=>e (back b)) (fun s=>(to (g s).1,(g s).2)) q where
 rt:=fun v r hv=>by rw[c.rt (back v) r (h2 v hv).1,(h2 v hv).2]
 fine:=fun s h=>c.fine s h
 bad:=fun s h=>c.bad s h
 ex:=fun s h0 h=>by obtain⟨h3,h4⟩:=c.ex s h0 h;exact⟨(h1 _ h3).2,by rw[(h1 _ h3).1];exact h4⟩
 len:=fun s=>c.len s
def je (b:Bool):List UInt8:=[bif b then UInt8.ofNat 1 else UInt8.ofNat 0]
def countB (n:Nat):List UInt8:=di (IntKind.wrap .u64 (n:Int)) 4
theorem zaP (n:Nat) (h:n<18446744073709551616):countB n=di (n:Int) 4:=by
 unfold countB;rw[uO (by omega) (by omega)]
theorem zaO (s:In) (m:Int) (h:s.2.1=true):(iD s m).2.2.1=true:=by
 unfold iD;cases decide (0≤m∧(dI s 4).1≤m∧(dI s 4).1≤((dI s 4).2.1.length:Int)) with
 | true=>exact zn s 4 h
 | false=>rfl
theorem zbP (s:In) (m:Int) (h0:s.2.1=false) (h1:(iD s m).2.2.1=false):s.1=countB (iD s m).1.toNat++(iD s m).2.1∧(iD s m).1≤m∧(iD s m).1.toNat≤(iD s m).2.1.length∧(iD s m).1.toNat<4294967296:=by
 unfold iD at *;by_cases h:(0≤m∧(dI s 4).1≤m∧(dI s 4).1≤((dI s 4).2.1.length:Int))
 ·rw[decide_eq_true h] at h1 ⊢;simp only[cond_true] at h1 ⊢;have h2:=Df s 4 h1 h0;have hb:=Qo s 4;have hlt:(dI s 4).1<256 ^ 4:=zes _ 4 (by omega) h2.1;refine⟨?_,h.2.1,by omega,by omega⟩;rw[zaP _ (by omega),Int.toNat_of_nonneg hb.1];show s.1=di (dec (dR s 4).1) 4++(dR s 4).2.1;rw[Jq _ 4 (by omega) h2.1];exact h2.2
 ·rw[decide_eq_false h] at h1;cases h1
def sJ (s:In):List UInt8×In:=Ar s 60000
theorem Zy (s:List UInt8):aZ s=countB s.length++s:=rfl
theorem xP:Codec aZ sJ (fun s=>s.length≤60000) where
 rt:=fun v r h=>Z8 v r (by omega) 60000 (by omega)
 fine:=fun s h=>h.text _
 bad:=fun s h=>zn _ _ (zaO s _ h)
 ex:=fun s h0 h1=>by
  unfold sJ Ar at *;have hc:(iD s 60000).2.2.1=false:=by
   cases hb:(iD s 60000).2.2.1 with
   | false=>rfl
   | true=>rw[zn _ _ hb] at h1;cases h1
  have h2:=Df _ _ h1 hc;have h3:=zbP s 60000 h0 hc;refine⟨by omega,?_⟩;rw[Zy,h2.1,List.append_assoc,←h2.2];exact h3.1
 len:=fun s=>Nat.le_trans (Ig _ _) (zaN s _)
def iO {α:Type} (e:α→List UInt8) (l:List α):List UInt8:=countB l.length++l.flatMap e
theorem jk {α:Type} (e:α→List UInt8) (h:∀ v,1≤(e v).length):∀ l:List α,l.length≤(l.flatMap e).length
 | []=>Nat.le_refl _
 | v::l=>by have:=h v;have:=jk e h l;simp only[List.flatMap_cons,List.length_cons,List.length_append];omega
theorem qm {α:Type} {e:α→List UInt8} {n:Nat}:∀ {l:List α},(∀ v∈l,(e v).length≤n)→(l.flatMap e).length≤l.length*n
 | [],_=>by simp
 | v::l,h=>by have h1:=h v (List.mem_cons_self ..);have h2:=qm (l:=l) fun w hw=>h w (List.mem_cons_of_mem _ hw);simp only[List.flatMap_cons,List.length_cons,List.length_append,Nat.succ_mul];omega
theorem kG (n:Nat):(countB n).length=4:=rO _ 4
end Go.Proofs.YteebpcpkhojfkaaGreat
