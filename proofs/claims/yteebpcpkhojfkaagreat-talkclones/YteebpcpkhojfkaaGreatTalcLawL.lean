/-
 Talk: all that a message's lists hold is changed: that ends.
-/
import Derived.Test.YteebpcpkhojfkaaGreatTalcLawK
namespace Go.Proofs.YteebpcpkhojfkaaGreat
open Go.Sx Go Classical
set_option maxRecDepth 10000
theorem qB {α:Type} {i n:Nat} {A B:α} (h:i<n):(bif decide ((i:Int)<Int.ofNat n) then A else B)=A:=by
 rw[show decide ((i:Int)<Int.ofNat n)=true from decide_eq_true (Int.ofNat_lt.2 h)];rfl
theorem TW {α:Type} {n:Nat} {A B:α}:(bif decide ((n:Int)<Int.ofNat n) then A else B)=B:=by
 rw[show decide ((n:Int)<Int.ofNat n)=false from decide_eq_false (Int.lt_irrefl _)];rfl
theorem rY {T:Type} {X:Option Unit} (h:X=some ()):Option.map (Sum.inr:Unit→T⊕Unit) X=some (.inr ()):=by rw[h];rfl
theorem Vp {A R:Type} {n:Nat} {step:Int×A→Option ((Int×A)⊕R)} (I:A→Prop) (Q:R→Prop) (hn:n<18446744073709551616) (h:∀ (i:Nat) (a:A),i<n→I a→∃ a',step ((i:Int),a)=some (.inl (((i+1:Nat):Int),a'))∧I a')
  (hK:∀ a,I a→∃ r,step ((n:Int),a)=some (.inr r)∧Q r) (a:A) (ha:I a):∃ r,iter step big (0,a)=some r∧Q r:=by
 refine rU (step:=step) (I:=fun t=>∃ i:Nat,i≤n∧t.1=(i:Int)∧I t.2) (μ:=fun t=>n-t.1.toNat) (Q:=fun _ r=>Q r) ?_ (n:=big) (t:=(0,a)) ⟨0,Nat.zero_le _,rfl,ha⟩ ?_
 ·rintro⟨t1,t2⟩ ⟨i,h1,h2,h3⟩;obtain rfl:t1=(i:Int):=h2;rcases Nat.lt_or_ge i n with hi|hi
  ·obtain⟨a',q1,q2⟩:=h i t2 hi h3;refine .inr ⟨_,q1,⟨i+1,hi,rfl,q2⟩,?_,fun r hr=>hr⟩;show n-((i+1:Nat):Int).toNat<n-((i:Nat):Int).toNat;rw[Int.toNat_natCast,Int.toNat_natCast];omega
  ·obtain rfl:i=n:=by omega
   obtain⟨r,q1,q2⟩:=hK t2 h3;exact .inl ⟨r,q1,q2⟩
 ·rw[jv];show n-(0:Int).toNat<_;omega
theorem spin {A:Type} {n:Nat} {step:Int×A→Option ((Int×A)⊕Unit)} (I:A→Prop) (hn:n<18446744073709551616) (h:∀ (i:Nat) (a:A),i<n→I a→∃ a',step ((i:Int),a)=some (.inl (((i+1:Nat):Int),a'))∧I a')
  (hK:∀ a,I a→step ((n:Int),a)=some (.inr ())) (a:A) (ha:I a):iter step big (0,a)=some ():=by
 obtain⟨r,h1,_⟩:=Vp (step:=step) I (fun _=>True) hn h (fun a ha=>⟨(),hK a ha,trivial⟩) a ha;exact h1
theorem DC {V R:Type} {l:List V} {i n:Nat} (hl:l.length=n) (hi:i<n) (hn:n≤9223372036854775806) (g:V→V) :
  ∃ a':List V×Unit,(Option.bind (bC l (i:Int)) fun b=>Option.bind l[b]? fun v=>some (Sum.inl (wrap64 ((i:Int)+1),List.set l b (g v),())):Option ((Int×List V×Unit)⊕R))=some (.inl (((i+1:Nat):Int),a'))∧a'.1.length=n:=by
 obtain⟨v,hv⟩:∃ v,l[i]? = some v:=⟨_,List.getElem?_eq_getElem (by omega)⟩
 refine⟨(l.set i (g v),()),?_,by simp[hl]⟩;simp only[jO (show i<l.length by omega),hv,Option.bind_some,aT (show i<9223372036854775807 by omega)]
theorem zaJ {V R:Type} {l:List V} {i n:Nat} (hl:l.length=n) (hi:i<n) (hn:n≤9223372036854775806) (g:V→V) :
  ∃ a':List V×Unit,(Option.bind (bC l (i:Int)) fun b=>Option.bind l[b]? fun v=>Option.bind (bC l (i:Int)) fun b_1=>Option.bind l[b_1]? fun _z=>some (Sum.inl (wrap64 ((i:Int)+1),List.set l b_1 (g v),())):Option ((Int×List V×Unit)⊕R))=some (.inl (((i+1:Nat):Int),a'))∧a'.1.length=n:=by
 obtain⟨v,hv⟩:∃ v,l[i]? = some v:=⟨_,List.getElem?_eq_getElem (by omega)⟩
 refine⟨(l.set i (g v),()),?_,by simp[hl]⟩;simp only[jO (show i<l.length by omega),hv,Option.bind_some,aT (show i<9223372036854775807 by omega)]
abbrev DS (V:Type):=Int×(List V×Int)×Unit
theorem Jh {V W:Type} (u:V→V) (get:V→List W) (put:V→List W→V) (Z body:List V→Int→Int→Nat→V→Option (DS V⊕(DS V⊕Unit)))
  (g1:∀ v,get (u v)=get v) (g2:∀ v s,get (put v s)=s) (g3:∀ v,put v (get v)=v) {n i M:Nat} (hi:i<n) (hn:n≤9223372036854775806) (hM':M≤9223372036854775806)
  (hbody:∀ (l:List V) (v:V) (j:Nat) (k:Int),l.length=n→l[i]? = some v→j<(get v).length→(get v).length≤M→∃ s':List W,s'.length=(get v).length∧body l k (j:Int) i v=some (.inl (((j+1:Nat):Int),(l.set i (put v s'),Int.ofNat (Int.toNat k)),())))
  (a:(List V×Int)×Unit) (ha:a.1.1.length=n∧Int.toNat a.1.2=n∧∀ e∈a.1.1,(get e).length≤M) :
  ∃ a':(List V×Int)×Unit,(Option.bind (bC a.1.1 (i:Int)) fun b=>Option.bind a.1.1[b]? fun b_1=>
   Option.bind (Option.bind (bC (List.set a.1.1 b (u b_1)) (i:Int)) fun b_2=>Option.bind (List.set a.1.1 b (u b_1))[b_2]? fun b_3=>
    bif decide (Int.toNat a.1.2≤b_2) then some (Sum.inl (Int.ofNat (List.length (get b_3)),0,(List.set a.1.1 b (u b_1),Int.ofNat (Int.toNat a.1.2)),()))
    else Option.map Sum.inl (Option.bind (List.set a.1.1 b (u b_1))[b_2]? fun b_4=>some (Int.ofNat (List.length (get b_3)),0,(List.set (List.set a.1.1 b (u b_1)) b_2 (put b_4 (get b_3)),Int.ofNat (Int.toNat a.1.2)),())))
   fun o=>Sum.elim (fun(x:Int×Int×(List V×Int)×Unit)=>aC (DS V) (DS V⊕Unit)
    (fun(y:DS V)=>bif decide (y.1<x.1) then Option.bind (bC y.2.1.1 (i:Int)) fun b=>Option.bind y.2.1.1[b]? fun b_2=>bif decide (Int.toNat y.2.1.2≤b) then Z y.2.1.1 y.2.1.2 y.1 b b_2 else body y.2.1.1 y.2.1.2 y.1 b b_2
     else some (Sum.inr (Sum.inl (wrap64 ((i:Int)+1),(y.2.1.1,Int.ofNat (Int.toNat y.2.1.2)),())))) big (x.2.1,(x.2.2.1.1,Int.ofNat (Int.toNat x.2.2.1.2)),())) some o:Option (DS V⊕Unit))=some (.inl (((i+1:Nat):Int),a'))∧(a'.1.1.length=n∧Int.toNat a'.1.2=n∧∀ e∈a'.1.1,(get e).length≤M):=by
 obtain⟨⟨l,k⟩,⟨⟩⟩:=a;obtain⟨hl,hk,hM⟩:=ha;have hl:l.length=n:=hl;have hk:Int.toNat k=n:=hk;have hM:∀ e∈l,(get e).length≤M:=hM;obtain⟨v,hv⟩:∃ v,l[i]? = some v:=⟨_,List.getElem?_eq_getElem (by omega)⟩
 have hvM:=hM v (List.mem_of_getElem? hv);have hl':(l.set i (u v)).length=n:=by simp[hl]
 have hv':(l.set i (u v))[i]? = some (u v):=by rw[List.getElem?_set_self (by omega)]
 have hset:(l.set i (u v)).set i (put (u v) (get (u v)))=l.set i (u v):=DT (by rw[g3];exact hv');have hle:decide (n≤i)=false:=decide_eq_false (by omega);have hmem:∀ {l:List V} {z:V},(∀ e∈l,(get e).length≤M)→(get z).length≤M→∀ e∈l.set i z,(get e).length≤M:=fun h hz e he=>(List.mem_or_eq_of_mem_set he).elim (h e) fun e=>e▸hz;obtain⟨r,q1,a',rfl,q3⟩:=Vp (A:=(List V×Int)×Unit) (R:=DS V⊕Unit) (n:=(get (u v)).length) (step:=fun(y:DS V)=>bif decide (y.1<Int.ofNat (get (u v)).length) then Option.bind (bC y.2.1.1 (i:Int)) fun b=>Option.bind y.2.1.1[b]? fun b_2=>bif decide (Int.toNat y.2.1.2≤b) then Z y.2.1.1 y.2.1.2 y.1 b b_2 else body y.2.1.1 y.2.1.2 y.1 b b_2
     else some (Sum.inr (Sum.inl (wrap64 ((i:Int)+1),(y.2.1.1,Int.ofNat (Int.toNat y.2.1.2)),()))))
  (fun a=>a.1.1.length=n∧Int.toNat a.1.2=n∧(∀ e∈a.1.1,(get e).length≤M)∧∃ z,a.1.1[i]? = some z∧(get z).length=(get (u v)).length)
  (fun r=>∃ a':(List V×Int)×Unit,r=.inl (((i+1:Nat):Int),a')∧(a'.1.1.length=n∧Int.toNat a'.1.2=n∧∀ e∈a'.1.1,(get e).length≤M)) (by rw[g1];omega) (fun j a hj ha=>by
   obtain⟨⟨l,k⟩,⟨⟩⟩:=a;obtain⟨c1,c2,c3,z,c4,c5⟩:=ha;have c1:l.length=n:=c1;have c2:Int.toNat k=n:=c2;obtain⟨s',d1,d2⟩:=hbody l z j k c1 c4 (by rw[c5];exact hj) (c3 z (List.mem_of_getElem? c4));refine⟨((l.set i (put z s'),Int.ofNat (Int.toNat k)),()),(qB hj).trans ?_,by simp[c1],by rw[←c2];rfl,hmem c3 (by rw[g2,d1];exact c3 z (List.mem_of_getElem? c4)),put z s',by rw[List.getElem?_set_self (by omega)],by rw[g2,d1,c5]⟩;have c4:l[i]? = some z:=c4;simp only[jO (show i<l.length by omega),c4,Option.bind_some,c2,hle,cond_false];rw[c2] at d2;exact d2) (fun a ha=>by
   obtain⟨⟨l,k⟩,⟨⟩⟩:=a;obtain⟨c1,c2,c3,_⟩:=ha;refine⟨_,TW,((l,Int.ofNat (Int.toNat k)),()),?_,c1,c2,c3⟩;rw[aT (show i<9223372036854775807 by omega)]) ((l.set i (u v),Int.ofNat (Int.toNat k)),()) ⟨hl',hk,hmem hM (by rw[g1];exact hvM),u v,hv',rfl⟩
 refine⟨a',?_,q3⟩;simp only[jO (show i<l.length by omega),hv,Option.bind_some];simp only[jO (show i<(l.set i (u v)).length by omega),hv',Option.bind_some,hk,hle,cond_false,Option.map_some,Sum.elim_inl,hset];rw[hk] at q1;exact q1
theorem zcb (x:Bv×Unit) (h11:x.1.2.2.2.2.2.2.2.2.2.2.2.1.length≤bZ) (h11':∀ e∈x.1.2.2.2.2.2.2.2.2.2.2.2.1,e.2.2.1.length≤140737488355000) (h14:x.1.2.2.2.2.2.2.2.2.2.2.2.2.2.2.1.length≤140737488355000) (h25:x.1.2.2.2.2.2.2.2.2.2.2.2.2.2.2.2.2.2.2.2.2.2.2.2.2.2.1.length≤bZ) (h31:x.1.2.2.2.2.2.2.2.2.2.2.2.2.2.2.2.2.2.2.2.2.2.2.2.2.2.2.2.2.2.2.2.1.length≤bZ) (h32:x.1.2.2.2.2.2.2.2.2.2.2.2.2.2.2.2.2.2.2.2.2.2.2.2.2.2.2.2.2.2.2.2.2.1.length≤2000000000000) (h32':∀ e∈x.1.2.2.2.2.2.2.2.2.2.2.2.2.2.2.2.2.2.2.2.2.2.2.2.2.2.2.2.2.2.2.2.2.1,e.2.2.1.2.2.2.2.1.length≤bZ) (h45:x.1.2.2.2.2.2.2.2.2.2.2.2.2.2.2.2.2.2.2.2.2.2.2.2.2.2.2.2.2.2.2.2.2.2.2.2.2.2.2.2.2.2.2.2.2.2.1.length≤bZ) (h48:x.1.2.2.2.2.2.2.2.2.2.2.2.2.2.2.2.2.2.2.2.2.2.2.2.2.2.2.2.2.2.2.2.2.2.2.2.2.2.2.2.2.2.2.2.2.2.2.2.2.1.length≤bZ) (h48':∀ e∈x.1.2.2.2.2.2.2.2.2.2.2.2.2.2.2.2.2.2.2.2.2.2.2.2.2.2.2.2.2.2.2.2.2.2.2.2.2.2.2.2.2.2.2.2.2.2.2.2.2.1,e.2.1.length≤bZ) (h54:x.1.2.2.2.2.2.2.2.2.2.2.2.2.2.2.2.2.2.2.2.2.2.2.2.2.2.2.2.2.2.2.2.2.2.2.2.2.2.2.2.2.2.2.2.2.2.2.2.2.2.2.2.2.2.2.1.length≤bZ):F22 x=some ():=by
 have hb:=J6;unfold F22;refine spin (n:=x.1.2.2.2.2.2.2.2.2.2.2.2.1.length) (fun a=>a.1.1.length=x.1.2.2.2.2.2.2.2.2.2.2.2.1.length∧Int.toNat a.1.2=x.1.2.2.2.2.2.2.2.2.2.2.2.1.length∧∀ e∈a.1.1,(e.2.2.1).length≤140737488355000) (by omega) (fun i a hi ha=> ?_) (fun a ha=>TW.trans (rY ?_)) _ ⟨rfl,rfl,h11'⟩
 ·obtain⟨a',q1,q2⟩:=Jh (M:=140737488355000) (fun v=>(77,v.2)) (fun v=>v.2.2.1) (fun v s=>(v.1,v.2.1,s,v.2.2.2)) (fun l k j b v=>Option.bind (idx v.2.2.1 j) fun _z=>Option.bind (idx v.2.2.1 j) fun _z=>none) (fun l k j b v=>Option.bind (bC v.2.2.1 j) fun b_3=>Option.bind v.2.2.1[b_3]? fun b_4=>Option.bind (bC v.2.2.1 j) fun b_5=>Option.bind v.2.2.1[b_5]? fun _z=>Option.map Sum.inl (Option.bind l[b]? fun b_6=>some (wrap64 (j+1),(List.set l b (b_6.1,b_6.2.1,List.set v.2.2.1 b_5 (Sx.byteOf (IntKind.wrap IntKind.u8 (ay b_4+ay (UInt8.ofNat 1)))),b_6.2.2.2),Int.ofNat (Int.toNat k)),()))) (fun _=>rfl) (fun _ _=>rfl) (fun _=>rfl) hi (by omega) (by omega) (fun l v j k hl hv hj hM=>by
   obtain⟨w,hw⟩:∃ w,(v.2.2.1)[j]? = some w:=⟨_,List.getElem?_eq_getElem hj⟩
   refine⟨(v.2.2.1).set j (Sx.byteOf (IntKind.wrap IntKind.u8 (ay w+ay (UInt8.ofNat 1)))),by simp,?_⟩;have hM:(v.2.2.1).length≤140737488355000:=hM;simp only[jO hj,hw,Option.bind_some,hv,Option.map_some,aT (show j<9223372036854775807 by omega)]) a ha
  exact⟨a',(qB hi).trans q1,q2⟩
 refine spin (n:=x.1.2.2.2.2.2.2.2.2.2.2.2.2.2.2.1.length) (fun a=>a.1.length=x.1.2.2.2.2.2.2.2.2.2.2.2.2.2.2.1.length) (by omega) (fun i a hi ha=> ?_) (fun a ha=>TW.trans (rY ?_)) _ rfl
 ·obtain⟨a',q1,q2⟩:=zaJ (l:=a.1) ha hi (by omega) _;exact⟨a',(qB hi).trans q1,q2⟩
 refine spin (n:=x.1.2.2.2.2.2.2.2.2.2.2.2.2.2.2.2.2.2.2.2.2.2.2.2.2.2.1.length) (fun a=>a.1.length=x.1.2.2.2.2.2.2.2.2.2.2.2.2.2.2.2.2.2.2.2.2.2.2.2.2.2.1.length) (by omega) (fun i a hi ha=> ?_) (fun a ha=>TW.trans (rY ?_)) _ rfl
 ·obtain⟨a',q1,q2⟩:=DC (l:=a.1) ha hi (by omega) _;exact⟨a',(qB hi).trans q1,q2⟩
 refine spin (n:=x.1.2.2.2.2.2.2.2.2.2.2.2.2.2.2.2.2.2.2.2.2.2.2.2.2.2.2.2.2.2.2.2.1.length) (fun a=>a.1.length=x.1.2.2.2.2.2.2.2.2.2.2.2.2.2.2.2.2.2.2.2.2.2.2.2.2.2.2.2.2.2.2.2.1.length) (by omega) (fun i a hi ha=> ?_) (fun a ha=>TW.trans (rY ?_)) _ rfl
 ·obtain⟨a',q1,q2⟩:=DC (l:=a.1) ha hi (by omega) _;exact⟨a',(qB hi).trans q1,q2⟩
 refine spin (n:=x.1.2.2.2.2.2.2.2.2.2.2.2.2.2.2.2.2.2.2.2.2.2.2.2.2.2.2.2.2.2.2.2.2.1.length) (fun a=>a.1.1.length=x.1.2.2.2.2.2.2.2.2.2.2.2.2.2.2.2.2.2.2.2.2.2.2.2.2.2.2.2.2.2.2.2.2.1.length∧Int.toNat a.1.2=x.1.2.2.2.2.2.2.2.2.2.2.2.2.2.2.2.2.2.2.2.2.2.2.2.2.2.2.2.2.2.2.2.2.1.length∧∀ e∈a.1.1,(e.2.2.1.2.2.2.2.1).length≤bZ) (by omega) (fun i a hi ha=> ?_) (fun a ha=>TW.trans (rY ?_)) _ ⟨rfl,rfl,h32'⟩
 ·obtain⟨a',q1,q2⟩:=Jh (M:=bZ) (fun v=>(v.1,99,v.2.2)) (fun v=>v.2.2.1.2.2.2.2.1) (fun v s=>(v.1,v.2.1,(v.2.2.1.1,v.2.2.1.2.1,v.2.2.1.2.2.1,v.2.2.1.2.2.2.1,s,v.2.2.1.2.2.2.2.2),v.2.2.2)) (fun l k j b v=>Option.bind (idx v.2.2.1.2.2.2.2.1 j) fun _z=>none) (fun l k j b v=>Option.bind (bC v.2.2.1.2.2.2.2.1 j) fun b_3=>Option.bind v.2.2.1.2.2.2.2.1[b_3]? fun b_4=>Option.map Sum.inl (Option.bind l[b]? fun b_5=>some (wrap64 (j+1),(List.set l b (b_5.1,b_5.2.1,(b_5.2.2.1.1,b_5.2.2.1.2.1,b_5.2.2.1.2.2.1,b_5.2.2.1.2.2.2.1,(List.set v.2.2.1.2.2.2.2.1 b_3 ([99,104,97,110,103,101,100],b_4.2)),b_5.2.2.1.2.2.2.2.2),b_5.2.2.2),Int.ofNat (Int.toNat k)),()))) (fun _=>rfl) (fun _ _=>rfl) (fun _=>rfl) hi (by omega) (by omega) (fun l v j k hl hv hj hM=>by
   obtain⟨w,hw⟩:∃ w,(v.2.2.1.2.2.2.2.1)[j]? = some w:=⟨_,List.getElem?_eq_getElem hj⟩
   refine⟨(v.2.2.1.2.2.2.2.1).set j ([99,104,97,110,103,101,100],w.2),by simp,?_⟩;have hM:(v.2.2.1.2.2.2.2.1).length≤bZ:=hM;simp only[jO hj,hw,Option.bind_some,hv,Option.map_some,aT (show j<9223372036854775807 by omega)]) a ha
  exact⟨a',(qB hi).trans q1,q2⟩
 refine spin (n:=x.1.2.2.2.2.2.2.2.2.2.2.2.2.2.2.2.2.2.2.2.2.2.2.2.2.2.2.2.2.2.2.2.2.2.2.2.2.2.2.2.2.2.2.2.2.2.1.length) (fun a=>a.1.length=x.1.2.2.2.2.2.2.2.2.2.2.2.2.2.2.2.2.2.2.2.2.2.2.2.2.2.2.2.2.2.2.2.2.2.2.2.2.2.2.2.2.2.2.2.2.2.1.length) (by omega) (fun i a hi ha=> ?_) (fun a ha=>TW.trans (rY ?_)) _ rfl
 ·obtain⟨a',q1,q2⟩:=DC (l:=a.1) ha hi (by omega) _;exact⟨a',(qB hi).trans q1,q2⟩
 refine spin (n:=x.1.2.2.2.2.2.2.2.2.2.2.2.2.2.2.2.2.2.2.2.2.2.2.2.2.2.2.2.2.2.2.2.2.2.2.2.2.2.2.2.2.2.2.2.2.2.2.2.2.1.length) (fun a=>a.1.1.length=x.1.2.2.2.2.2.2.2.2.2.2.2.2.2.2.2.2.2.2.2.2.2.2.2.2.2.2.2.2.2.2.2.2.2.2.2.2.2.2.2.2.2.2.2.2.2.2.2.2.1.length∧Int.toNat a.1.2=x.1.2.2.2.2.2.2.2.2.2.2.2.2.2.2.2.2.2.2.2.2.2.2.2.2.2.2.2.2.2.2.2.2.2.2.2.2.2.2.2.2.2.2.2.2.2.2.2.2.1.length∧∀ e∈a.1.1,(e.2.1).length≤bZ) (by omega) (fun i a hi ha=> ?_) (fun a ha=>TW.trans (rY ?_)) _ ⟨rfl,rfl,h48'⟩
 ·obtain⟨a',q1,q2⟩:=Jh (M:=bZ) (fun v=>(99,v.2)) (fun v=>v.2.1) (fun v s=>(v.1,s,v.2.2)) (fun l k j b v=>Option.bind (idx v.2.1 j) fun _z=>none) (fun l k j b v=>Option.bind (bC v.2.1 j) fun b_3=>Option.bind v.2.1[b_3]? fun b_4=>Option.map Sum.inl (Option.bind l[b]? fun b_5=>some (wrap64 (j+1),(List.set l b (b_5.1,(List.set v.2.1 b_3 ([99,104,97,110,103,101,100],b_4.2)),b_5.2.2),Int.ofNat (Int.toNat k)),()))) (fun _=>rfl) (fun _ _=>rfl) (fun _=>rfl) hi (by omega) (by omega) (fun l v j k hl hv hj hM=>by
   obtain⟨w,hw⟩:∃ w,(v.2.1)[j]? = some w:=⟨_,List.getElem?_eq_getElem hj⟩
   refine⟨(v.2.1).set j ([99,104,97,110,103,101,100],w.2),by simp,?_⟩;have hM:(v.2.1).length≤bZ:=hM;simp only[jO hj,hw,Option.bind_some,hv,Option.map_some,aT (show j<9223372036854775807 by omega)]) a ha
  exact⟨a',(qB hi).trans q1,q2⟩
 refine spin (n:=x.1.2.2.2.2.2.2.2.2.2.2.2.2.2.2.2.2.2.2.2.2.2.2.2.2.2.2.2.2.2.2.2.2.2.2.2.2.2.2.2.2.2.2.2.2.2.2.2.2.2.2.2.2.2.2.1.length) (fun a=>a.1.length=x.1.2.2.2.2.2.2.2.2.2.2.2.2.2.2.2.2.2.2.2.2.2.2.2.2.2.2.2.2.2.2.2.2.2.2.2.2.2.2.2.2.2.2.2.2.2.2.2.2.2.2.2.2.2.2.1.length) (by omega) (fun i a hi ha=> ?_) (fun a ha=>TW) _ rfl
 ·obtain⟨a',q1,q2⟩:=DC (l:=a.1) ha hi (by omega) _;exact⟨a',(qB hi).trans q1,q2⟩
end Go.Proofs.YteebpcpkhojfkaaGreat
