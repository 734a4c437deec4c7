/-
 Sx: a symbolic executor for the model,proved sound,part 4 of 4: an AI agent's own work.
-/
import Derived.Test.YtlegpimppfabgaaGreatSxR
import Derived.ProofKit
import Derived.OpenShut
import Derived.JoinedCond
import Derived.SizedLaws
open Bool (and_eq_true false_eq_true noConfusion)
open Int (ofNat)
open Go.IntKind (wrap)
open List (append_nil cons_append getElem?_cons_zero getElem?_eq_getElem getElem?_map length length_append length_cons map_cons mem_append mem_append_left mem_append_right mem_cons mem_cons_of_mem mem_cons_self mem_filter mem_map nodup_append pairwise_cons range range')
open Nat (add_zero beq ble blt eq_of_beq_eq_true le_of_ble_eq_true le_refl le_trans zero_add)
open Option (bind_some map_some)
open UInt8 (lt_irrefl not_lt)
open Go.Value (okWide pointer)
namespace Go.Sx
theorem OJ {o:Own}:∀ {m:List (Own×Own)} {base:Own→Option Own},lookO m base o≠base o→∃ t,(o,t)∈m
 | [],_,h=>absurd rfl h
 | (x,y)::r,base,h=>by
  unfold lookO at h;by_cases e:o=x
  ·exact⟨y,by simp[e]⟩
  ·rw[if_neg e] at h;obtain⟨t,ht⟩:=OJ h;exact⟨t,by simp[ht]⟩
def shO (id:Nat) (sites:List Own):Own→Own
 | .row k=>.row (id+k)
 | .site k=>cond (blt k 81) (.site (id+k)) (sites.getD ((k-81)/20) (.site 0))
def Af (H:HLoc→SV) (s:SV):Prop:=∃ st off b o,s=.adr st off∧H (.site st)=.obj bU∧H (.fld st 0)=.adr b o
theorem YE {H:HLoc→SV} {mk:Nat→HLoc} {b o:Nat} (hb:H (mk 0)=.adr b o) {os:List Bool} {fp fp':List HLoc} {q:(lay bU).den×HW} (h:(iP mk os (lay bU) 0).run H fp=some (q,fp')):False:=by
 have h:((cond (hdB os) (cond (pbO os 1) (DY bU (H (mk 0))) (rJ (dpO os 1) bU (H (mk 0)))) (gZ bU (H (mk 0)))).bind fun p=>(iP mk (tlB os) Ty.unit 1).bind fun q=>Rd.ret (((p.1,q.1):bU.den×Unit),p.2++q.2)).run H (mk 0::fp)=some (q,fp'):=h;rw[hb] at h;obtain⟨y,fp1,k1,_⟩:=ah h;have e:(cond (hdB os) (cond (pbO os 1) (DY bU (SV.adr b o)) (rJ (dpO os 1) bU (SV.adr b o))) (gZ bU (SV.adr b o)))=Rd.fail:=by cases hdB os<;>cases pbO os 1<;>rfl
 rw[e] at k1;exact ae k1
theorem yx {H:HLoc→SV} {p:PS} {ps:List PS} {s:SV} {svs:List SV} {q:(bK (p::ps)).den×HW×List HLoc} {fp fp':List HLoc} (h:(df (p::ps) (s::svs)).run H fp=some (q,fp')) :
  (∃ q' fp1 fp2,(df ps svs).run H fp1=some (q',fp2))∧((∃ f d n,s=.fn f d n∧nT p=n)∨(Af H s∧nT p=1)∨((∀ f d n,s≠.fn f d n)∧¬ Af H s∧nT p=0)):=by
 cases p with
 | pure t=>
  rw[Ic] at h;obtain⟨y,fp1,k1,h⟩:=ah h;obtain⟨z,fp2,k2,h⟩:=ah h;refine⟨⟨_,_,_,k2⟩,.inr (.inr ⟨fun f d n e=> ?_,fun⟨_,_,_,_,e,_⟩=> ?_,rfl⟩)⟩
  ·subst e;exact(ae k1).elim
  ·subst e;exact(ae k1).elim
 | lent t=>
  rw[Ig] at h;obtain⟨y,fp1,k1,h⟩:=ah h;obtain⟨z,fp2,k2,h⟩:=ah h;refine⟨⟨_,_,_,k2⟩,.inr (.inr ⟨fun f d n e=> ?_,fun⟨_,_,_,_,e,_⟩=> ?_,rfl⟩)⟩
  ·subst e;exact(ae k1).elim
  ·subst e;exact(ae k1).elim
 | rptr t=>
  rw[Ib] at h;obtain⟨y,fp1,k1,h⟩:=ah h;obtain⟨z,fp2,k2,h⟩:=ah h;refine⟨⟨_,_,_,k2⟩,.inr (.inr ⟨fun f d n e=> ?_,fun⟨st,off,b,o,e,hb,hf⟩=> ?_,rfl⟩)⟩
  ·subst e;exact(ae k1).elim
  ·subst e;simp only[wK] at k1;cases ho:beq off 0 with
   | false=>rw[ho] at k1;exact(ae k1).elim
   | true=>rw[ho] at k1;simp only[cond_true,Rd.run,hb] at k1;exact(ae k1).elim
 | box=>obtain⟨z,hw,d⟩:=q;obtain⟨st,b,o,svs',fp1,fp2,z2,hw2,d2,rfl,rfl,hobj,hfld,k3,rfl,rfl,rfl⟩:=GN h;exact⟨⟨_,_,_,k3⟩,.inr (.inl ⟨⟨st,0,b,o,rfl,hobj,hfld⟩,rfl⟩)⟩
 | row e=>obtain⟨z,hw,d⟩:=q;obtain⟨q,l,fp1,fp2,z2,d2,rfl,_,k3,rfl,rfl⟩:=GM h;exact⟨⟨_,_,_,k3⟩,.inr (.inr ⟨fun f d n e=>(by cases e),fun⟨_,_,_,_,e,_⟩=>(by cases e),rfl⟩)⟩
 | agg t os=>
  rw[I4] at h;cases s<;>first|exact(ae h).elim|skip
  rename_i d t';simp only at h;cases hb:t'.beq t with
  | false=>rw[hb] at h;exact(ae h).elim
  | true=>rw[hb] at h;obtain⟨y,fp1,k1,h⟩:=ah (show(Rd.bind _ _).run H _=_ from h);obtain⟨dd,fp2,k2,h⟩:=ah h;obtain⟨z,fp3,k3,h⟩:=ah h;exact⟨⟨_,_,_,k3⟩,.inr (.inr ⟨fun f d n e=>(by cases e),fun⟨_,_,_,_,e,_⟩=>(by cases e),rfl⟩)⟩
 | nilp=>rw[Ie] at h;cases s<;>first|exact(ae h).elim|exact⟨⟨_,_,_,h⟩,.inr (.inr ⟨fun f d n e=>(by cases e),fun⟨_,_,_,_,e,_⟩=>(by cases e),rfl⟩)⟩
 | fnc f n=>
  rw[IZ] at h;cases s<;>first|exact(ae h).elim|skip
  rename_i f' d n';simp only at h;cases hb:cond (beq f f') (beq n n') false with
  | false=>rw[hb] at h;exact(ae h).elim
  | true=>rw[hb] at h;obtain⟨_,hb2⟩:=az hb;exact⟨⟨_,_,_,h⟩,.inl ⟨f',d,n',rfl,eq_of_beq_eq_true hb2⟩⟩
 | obj t os=>
  rw[IY] at h;cases s<;>first|exact(ae h).elim|skip
  case own q'=>
   simp only at h;cases hoe:cond (List.isEmpty os) (structEnd (lay t)) false with
   | false=>rw[hoe] at h;exact(ae h).elim
   | true=>
    rw[hoe] at h;simp only[cond_true,Rd.run] at h;split at h
    case h_2=>exact(ae h).elim
    rename_i pub e l hrow;cases pub with
    | true=>exact(ae h).elim
    | false=>simp only[cond_false] at h;obtain⟨x0,hx0,h⟩:=bP h;obtain⟨y,fp1,k1,h⟩:=ah h;obtain⟨z,fp2,k2,h⟩:=ah h;exact⟨⟨_,_,_,k2⟩,.inr (.inr ⟨fun f d n e=>(by cases e),fun⟨_,_,_,_,e,_⟩=>(by cases e),rfl⟩)⟩
  rename_i st off;simp only at h;cases hoff:beq off 0 with
  | false=>rw[hoff] at h;exact(ae h).elim
  | true=>
   rw[hoff] at h;simp only[cond,Rd.run] at h;split at h
   ·rename_i t' hobj;cases hb:t'.beq t with
    | false=>rw[hb] at h;exact(ae h).elim
    | true=>rw[hb] at h;obtain⟨y,fp1,k1,h⟩:=ah h;obtain⟨d,fp2,k2,h⟩:=ah h;obtain⟨z,fp3,k3,h⟩:=ah h;obtain rfl:=Ty.beq_eq hb;refine⟨⟨_,_,_,k3⟩,.inr (.inr ⟨fun f d n e=>(by cases e),fun⟨st',off',b,o,e,h1,h2⟩=> ?_,rfl⟩)⟩;cases e;rw[hobj] at h1;cases h1;exact YE (mk:=.fld st) h2 k1
   ·exact(ae h).elim
theorem QW {H:HLoc→SV} {vs:List SV} {uvs:List Value} {R:List Value} (hR:∀ (ps:List PS) q fp1 fp2,(df ps vs).run H fp1=some (q,fp2)→unf 0 ps uvs=R):∀ {cs:List SV} {caps:List Value} {ps:List PS} {q:(bK ps).den×HW×List HLoc} {fp fp':List HLoc},
  cs.length=caps.length→(df ps (cs++vs)).run H fp=some (q,fp')→unf cs.length ps (caps++uvs)=R
 | [],caps,ps,q,fp,fp',hl,h=>by
  obtain rfl:caps=[]:=by cases caps with|nil=>rfl|cons=>simp at hl
  exact hR ps _ _ _ h
 | c::cs,[],_,_,_,_,hl,_=>by simp at hl
 | c::cs,u::caps,ps,q,fp,fp',hl,h=>by
  cases ps with
  | nil=>rw[show c::cs++vs=c::(cs++vs) from rfl,vC] at h;exact(ae h).elim
  | cons p ps=>obtain⟨⟨q',fp1,fp2,k⟩,_⟩:=yx h;exact QW hR (ps:=ps) (by simpa using hl) k
theorem Rh:∀ {cs:List SV} {caps:List Value} {svs:List SV} {vs:List Value},xu cs=true→cs.length=caps.length→qF svs vs→qF (cs++svs) (caps++vs)
 | [],caps,svs,vs,_,hl,h=>by
  obtain rfl:caps=[]:=by cases caps with|nil=>rfl|cons=>simp at hl
  exact h
 | c::cs,[],_,_,_,hl,_=>by simp at hl
 | c::cs,u::caps,svs,vs,hn,hl,h=>by have:∀ {x:Prop},(xu cs=true→x)→xu (c::cs)=true→x:=fun f hx=>f (by cases c<;>first|exact hx|exact noConfusion hx);have ih:=this (fun hn=>Rh hn (by simpa using hl) h) hn;cases c<;>first|exact ih|exact noConfusion hn
theorem Dh {C:Ctx} {g:Gh} {S:Nat→SV} {H:HLoc→SV} {a:Act} {w:World} (hs:SimG C g S H a w):∀ {svs:List SV} {vs:List Value} {us:List SV} {fp fp':List HLoc},(oM svs).run H fp=some (us,fp')→svs.length=vs.length→
  (∀ (i:Nat) (s:SV) (x:Value),svs[i]? = some s→vs[i]? = some x→SR g (view g.fl w) s x∧aG H s)→
  ∃ uvs:List Value,us.length=uvs.length∧qF us uvs∧(∀ (i:Nat) (s:SV) (x:Value),us[i]? = some s→uvs[i]? = some x→SR g (view g.fl w) s x∧aG H s)∧(∀ (ps:List PS) q fp1 fp2,(df ps us).run H fp1=some (q,fp2)→unf 0 ps uvs=vs)
 | [],vs,us,fp,fp',h,hl,_=>by
  obtain⟨e,_⟩:=af h;subst e;obtain rfl:vs=[]:=by cases vs with|nil=>rfl|cons=>simp at hl
  exact⟨[],rfl,trivial,fun i s x h1=>by simp at h1,fun ps _ _ _ _=>by cases ps<;>rfl⟩
 | s::svs,[],_,_,_,_,hl,_=>by simp at hl
 | s::svs,v::vs,us,fp,fp',h,hl,hv=>by
  obtain⟨v1,v2⟩:=hv 0 s v rfl rfl;have tl:=fun(i:Nat) (s':SV) (x:Value) (h1:svs[i]? = some s') (h2:vs[i]? = some x)=>hv (i+1) s' x (by simpa using h1) (by simpa using h2);have plain:(∀ f d n,s≠.fn f d n)→¬ Af H s→∀ {fp:List HLoc},((oM svs).bind fun q=>Rd.ret (s::q)).run H fp=some (us,fp')→∃ uvs:List Value,us.length=uvs.length∧qF us uvs∧(∀ (i:Nat) (s:SV) (x:Value),us[i]? = some s→uvs[i]? = some x→SR g (view g.fl w) s x∧aG H s)∧(∀ (ps:List PS) q fp1 fp2,(df ps us).run H fp1=some (q,fp2)→unf 0 ps uvs=v::vs):=by
   intro hne hnb fp h;obtain⟨us',fp1,k1,h⟩:=ah h;obtain⟨e,_⟩:=af h;subst e;obtain⟨uvs,a1,a2,a3,a4⟩:=Dh hs k1 (by simpa using hl) tl;refine⟨v::uvs,by simp[a1],?_,fun i s' x h1 h2=> ?_,fun ps q fp1 fp2 hc=> ?_⟩
   ·cases s<;>first|exact a2|exact absurd rfl (hne _ _ _)
   ·cases i with
    | zero=>simp only[getElem?_cons_zero,Option.some.injEq] at h1 h2;subst h1;subst h2;exact⟨v1,v2⟩
    | succ i=>exact a3 i s' x (by simpa using h1) (by simpa using h2)
   ·cases ps with
    | nil=>rw[vC] at hc;exact(ae hc).elim
    | cons p ps=>
     obtain⟨⟨q',fp3,fp4,k⟩,hcap⟩:=yx hc;rcases hcap with⟨f,d,n,e,_⟩|⟨hb,_⟩|⟨_,_,hcap⟩
     ·exact absurd e (hne f d n)
     ·exact absurd hb hnb
     ·show v::unf (nT p) ps uvs=_;rw[hcap,a4 ps _ _ _ k]
  cases s with
  | fn f d n=>
   obtain⟨cs,fp1,k1,h⟩:=ah (show((sO d n 0).bind _).run H fp=_ from h);have hcs:=Jl k1;cases hn:xu cs with
   | false=>rw[hn] at h;exact(ae h).elim
   | true=>
    rw[hn] at h;obtain⟨us',fp2,k2,h⟩:=ah (show((oM svs).bind _).run H fp1=_ from h);obtain⟨e,_⟩:=af h;subst e;obtain⟨uvs,a1,a2,a3,a4⟩:=Dh hs k2 (by simpa using hl) tl;have hcl:cs.length=n:=by rw[hcs];simp
    have hv1:v=.func (.func f) #[] ((range n).map (g.cv d)).toArray:=v1;refine⟨v::((range n).map (g.cv d)++uvs),by simp[a1,hcl],⟨⟨?_,by simp⟩,Rh hn (by simp[hcl]) a2⟩,fun i s' x h1 h2=> ?_,fun ps q fp3 fp4 hc=> ?_⟩
    ·rw[hv1,List.take_left' (by simp)]
    ·cases i with
     | zero=>simp only[getElem?_cons_zero,Option.some.injEq] at h1 h2;subst h1;subst h2;exact⟨v1,v2⟩
     | succ i=>
      simp only[List.getElem?_cons_succ] at h1 h2;by_cases hi:i<n
      ·rw[List.getElem?_append_left (by omega)] at h1;rw[List.getElem?_append_left (by simpa using hi)] at h2;rw[hcs,getElem?_map] at h1;rw[getElem?_map] at h2;obtain⟨k,hk1,rfl⟩:=Option.map_eq_some_iff.1 h1;have hk2:(range n)[i]? = some k:=by rw[List.range_eq_range'];exact hk1
       rw[hk2] at h2;simp only[map_some,Option.some.injEq] at h2;subst h2;exact⟨hs.comps d k,hs.refC d k⟩
      ·rw[List.getElem?_append_right (by omega)] at h1;rw[List.getElem?_append_right (by simp;omega)] at h2;simp only[List.length_map,List.length_range] at h2;rw[hcl] at h1;exact a3 _ s' x h1 h2
    ·cases ps with
     | nil=>rw[vC] at hc;exact(ae hc).elim
     | cons p ps=>
      obtain⟨⟨q',fp3,fp4,k⟩,hcap⟩:=yx hc;rcases hcap with⟨f',d',n',e,hcap⟩|⟨⟨_,_,_,_,e,_⟩,_⟩|⟨hne,_⟩
      ·cases e;show v::unf (nT p) ps _=_;have:=QW (R:=vs) a4 (cs:=cs) (caps:=(range n).map (g.cv d)) (ps:=ps) (by simp[hcl]) k;rw[hcap,←hcl];rw[hcl] at this ⊢;rw[this]
      ·cases e
      ·exact absurd rfl (hne f d n)
  | adr st off=>
   simp only[oM,Rd.run] at h;cases hbx:KW (H (.site st)) with
   | false=>rw[hbx] at h;exact plain (fun f d n e=>by cases e) (fun⟨st',off',b,o,e,h1,_⟩=>by cases e;rw[h1] at hbx;have:KW (.obj bU)=true:=rfl;rw[this] at hbx;exact noConfusion hbx) h
   | true=>
    rw[hbx] at h;have hobj:H (.site st)=.obj bU:=by
     cases hw:H (.site st) with
     | obj t=>rw[hw] at hbx;rw[Ty.beq_eq (show t.beq bU=true from hbx)]
     | _=>rw[hw] at hbx;exact noConfusion hbx
    simp only[Rd.run] at h;have no:(∀ b o,H (.fld st 0)≠.adr b o)→¬ Af H (.adr st off):=fun hn ⟨st',off',b,o,e,_,h2⟩=>by cases e;exact hn b o h2
    split at h
    ·rename_i b o hfld;obtain⟨us',fp1,k1,h⟩:=ah h;obtain⟨e,_⟩:=af h;subst e;obtain⟨uvs,a1,a2,a3,a4⟩:=Dh hs k1 (by simpa using hl) tl;have hp:SR g (view g.fl w) (.adr b o) (.pointer (some ⟨g.st b,o,none⟩)):=rfl;have hrf:=hs.refF st 0;rw[hfld] at hrf;have hB:Af H (.adr st off):=⟨st,off,b,o,rfl,hobj,hfld⟩
     refine⟨v::.pointer (some ⟨g.st b,o,none⟩)::uvs,by simp[a1],a2,fun i s' x h1 h2=> ?_,fun ps q fp1 fp2 hc=> ?_⟩
     ·match i with
      | 0=>simp only[getElem?_cons_zero,Option.some.injEq] at h1 h2;subst h1;subst h2;exact⟨v1,v2⟩
      | 1=>simp only[List.getElem?_cons_succ,getElem?_cons_zero,Option.some.injEq] at h1 h2;subst h1;subst h2;exact⟨hp,hrf⟩
      | i+2=>exact a3 i s' x (by simpa using h1) (by simpa using h2)
     ·cases ps with
      | nil=>rw[vC] at hc;exact(ae hc).elim
      | cons p ps=>
       obtain⟨⟨q',fp3,fp4,k⟩,hcap⟩:=yx hc;rcases hcap with⟨f,d,n,e,_⟩|⟨_,hcap⟩|⟨_,hnb,_⟩
       ·cases e
       ·show v::unf (nT p) ps _=_;rw[hcap];cases ps with
        | nil=>rw[vC] at k;exact(ae k).elim
        | cons p2 ps=>obtain⟨⟨q'',fp5,fp6,k2⟩,_⟩:=yx k;show v::unf 0 ps uvs=_;rw[a4 ps _ _ _ k2]
       ·exact absurd hB hnb
    ·rename_i hn;exact plain (fun f d n e=>by cases e) (no hn) h
  | _=>exact plain (fun f d n e=>by cases e) (fun⟨_,_,_,_,e,_⟩=>by cases e) h
theorem lU.flat {T:Own→Own→Prop} {fl fl2:Nat→Nat} {own:Nat→Option Own} {w:World} (hf:∀ b,own b≠none→fl2 b=fl b) {v:Value} {t:Own} {pub:Bool} {e:Ty} {l:List e.den} (he:bu e=true) (h:lU T fl own w v t pub e l):lU T fl2 own w v t pub e l:=by
 rcases h with h|⟨o,h1,h|⟨b,cap,cs,k1,k2,k3,k4,k5,k6,k7⟩⟩
 ·exact .inl h
 ·exact .inr ⟨o,h1,.inl h⟩
 ·exact .inr ⟨o,h1,.inr ⟨b,cap,cs,k1,k2,k3,k4,k5,(hf b (by rw[k5];simp)).trans k6,fun i x hx=>let ⟨c,q1,q2⟩:=k7 i x hx;⟨c,q1,q2.flat he⟩⟩⟩
theorem jy.flat {T:Own→Own→Prop} {fl fl2:Nat→Nat} {own:Nat→Option Own} {w:World} (hf:∀ b,own b≠none→fl2 b=fl b) {rid:Nat}:∀ {t:Ty} {os:List Bool} {cs:List Value} {x:t.den} {i:Nat},uD os t=true→jy T fl own w rid os t cs x i→jy T fl2 own w rid os t cs x i:=by
 intro t;induction t with
 | pair A B _ hB=>
  rintro os cs x i h ⟨c1,c2,h1,h2,h3⟩;obtain⟨f1,f2⟩:=az h;refine⟨c1,c2,h1,?_,hB f2 h3⟩;cases hb:hdB os with
  | false=>
   rw[hb] at h2 f1;have h2:aJ (view fl w) A c1 x.1:=by cases A<;>exact h2
   have:=h2.flat (iv':=view fl2 w) f1;cases A<;>exact this
  | true=>
   rw[hb] at h2 f1;cases A<;>first|exact h2.elim|exact noConfusion f1|skip
   obtain⟨v,q1,q2⟩:=h2;have hd:∀ dp e,bu e=true→dpF dp e=false:=fun dp e he=>by
    cases dp with
    | false=>rfl
    | true=>
     unfold dpF;simp only[cond_true];split
     ·rename_i p hp;rw[OB hp] at he;exact noConfusion he
     ·rfl
   have q2':=q2;unfold jZ at q2';rw[hd _ _ f1] at q2';exact⟨v,q1,jZ.row (hd _ _ f1) (lU.flat hf f1 q2')⟩
 | unit=>intro os cs x i _ h;exact h
 | _=>intro os cs x i _ h;exact h.elim
theorem pF.flat {T:Own→Own→Prop} {fl fl2:Nat→Nat} {own:Nat→Option Own} {w:World} (hf:∀ b,own b≠none→fl2 b=fl b) {t:Own} {rid:Nat} {os:List Bool} {ty:Ty} {v:Value} {x:(lay ty).den} (ho:uD os (lay ty)=true) (h:pF T fl own w t rid os ty v x):pF T fl2 own w t rid os ty v x:=by
 obtain⟨b,cs,o,h1,h2,h3,h4,h5,h6⟩:=h;exact⟨b,cs,o,h1,h2,h3,h4,(hf b (by rw[h4];simp)).trans h5,h6.flat hf ho⟩
theorem ve.flat {T:Own→Own→Prop} {fl fl2:Nat→Nat} {own:Nat→Option Own} {w:World} (hf:∀ b,own b≠none→fl2 b=fl b) {t:Own} {v p:Value} (h:ve T fl own w t v p):ve T fl2 own w t v p:=by
 obtain⟨b,o,h1,h2,h3,h4,h5⟩:=h;exact⟨b,o,h1,h2,h3,h4,(hf b (by rw[h4];simp)).trans h5⟩
theorem pz.flat {T:Own→Own→Prop} {fl fl2:Nat→Nat} {own:Nat→Option Own} {w:World} (hf:∀ b,own b≠none→fl2 b=fl b) {base:Nat} {r:RS} {v:Value} {x:r.ty.den} (hr:UV r=true) (h:pz T fl own w base r v x):pz T fl2 own w base r v x:=by
 cases r with
 | pure t=>obtain⟨cs,h1,h2⟩:=h;exact⟨cs,h1.flat hr,h2⟩
 | own pub e=>exact lU.flat hf hr h
 | newobj t os=>exact pF.flat hf hr h
 | maybe t os=>exact h.imp id fun h=>⟨h.1,pF.flat hf hr h.2⟩
 | deep e=>exact noConfusion hr
 | agg t os=>obtain⟨cs,h1,h2⟩:=h;exact⟨cs,h1,h2.flat hf hr⟩
theorem nH.flat {T:Own→Own→Prop} {fl fl2:Nat→Nat} {own:Nat→Option Own} {w:World} {ps:List PS} {k k':(dX ps).den→Prop}:∀ {rs:List RS} {i:Nat} {vs:List Value} {x:(iD rs ps).den},MG rs=true→(∀ b,own b≠none→fl2 b=fl b)→(∀ z,k z→k' z)→nH T fl own w i rs ps vs x k→nH T fl2 own w i rs ps vs x k'
 | [],_,_,_,_,_,hk,⟨h1,h2⟩=>⟨h1,hk _ h2⟩
 | r::rs,i,v::vs,x,hr,hf,hk,⟨h1,h2⟩=>by obtain⟨f1,f2⟩:=az hr;exact⟨h1.flat hf f1,nH.flat f2 hf hk h2⟩
 | _::_,_,[],_,_,_,_,h=>h.elim
theorem iK.flat {T:Own→Own→Prop} {fl fl2:Nat→Nat} {own:Nat→Option Own} {w:World}:∀ {ps:List PS} {j:Nat} {vs:List Value} {x:(dX ps).den},MH ps=true→(∀ b,own b≠none→fl2 b=fl b)→iK T fl own w j ps vs x→iK T fl2 own w j ps vs x
 | [],_,_,_,_,_,_=>trivial
 | .pure _::r,_,_::_,_,hp,hf,h=>iK.flat (ps:=r) (az hp).2 hf h
 | .lent _::r,_,_::_,_,hp,hf,h=>iK.flat (ps:=r) (az hp).2 hf h
 | .lent _::_,_,[],_,_,_,h=>h.elim
 | .rptr _::r,_,_::_,_,hp,hf,h=>iK.flat (ps:=r) (az hp).2 hf h
 | .rptr _::_,_,[],_,_,_,h=>h.elim
 | .nilp::r,_,_::_,_,hp,hf,h=>iK.flat (ps:=r) (az hp).2 hf h
 | .agg _ _::r,_,_::_,_,hp,hf,h=>iK.flat (ps:=r) (az hp).2 hf h
 | .agg _ _::_,_,[],_,_,_,h=>h.elim
 | .fnc _ _::r,_,_::_,_,hp,hf,h=>iK.flat (ps:=r) (az hp).2 hf h
 | .row _::r,_,_::_,_,hp,hf,⟨h1,h2⟩=>⟨h1.flat hf (az hp).1,iK.flat (ps:=r) (az hp).2 hf h2⟩
 | .row _::_,_,[],_,_,_,h=>h.elim
 | .box::r,_,_::_,_,hp,hf,⟨⟨p,rest,h1,h1'⟩,h2⟩=>⟨⟨p,rest,h1,h1'.flat hf⟩,iK.flat (ps:=r) (az hp).2 hf h2⟩
 | .obj _ _::r,_,_::_,_,hp,hf,⟨h1,h2⟩=>⟨h1.flat hf (az hp).1,iK.flat (ps:=r) (az hp).2 hf h2⟩
 | .box::_,_,[],_,_,_,h=>h.elim
 | .fnc _ _::_,_,[],_,_,_,h=>h.elim
 | .pure _::_,_,[],_,_,_,h=>h.elim
 | .obj _ _::_,_,[],_,_,_,h=>h.elim
 | .nilp::_,_,[],_,_,_,h=>h.elim
theorem Ql {l:HLoc}:∀ {hw:HW} {H:HLoc→SV},puts H hw l=jd l (H l) hw
 | [],_=>rfl
 | (m,u)::r,H=>by show puts (ak H m u) r l=jd l (cond (l.beq m) u (H l)) r;rw[Ql];rfl
theorem PH {l:HLoc}:∀ {hw:HW} {v v':SV},l∈au hw→jd l v hw=jd l v' hw
 | [],_,_,h=>by simp[au] at h
 | (m,u)::r,v,v',h=>by
  show jd l (cond (l.beq m) u v) r=jd l (cond (l.beq m) u v') r;cases hb:l.beq m with
  | true=>rfl
  | false=>
   rcases mem_cons.1 (show l∈m::au r from h) with e|h
   ·rw[e,HLoc.beq_refl] at hb;exact noConfusion hb
   ·exact PH h
theorem Qx {l:HLoc}:∀ {hw:HW} {v:SV},l ∉ au hw→jd l v hw=v
 | [],_,_=>rfl
 | (m,u)::r,v,h=>by
  show jd l (cond (l.beq m) u v) r=v;have h1:l≠m∧l ∉ au r:=by simpa[au,not_or] using h
  rw[HLoc.beq_ne h1.1];exact Qx h1.2
theorem Hz {l m:HLoc} (hm:m≠l):∀ {hw:HW} {H H':HLoc→SV},H m=H' m→puts H (oO l hw) m=puts H' hw m
 | [],_,_,h=>h
 | (k,u)::r,H,H',h=>by
  simp only[oO];cases hb:l.beq k with
  | true=>obtain rfl:=HLoc.beq_eq hb;show puts H (oO l r) m=puts (ak H' l u) r m;exact Hz hm (by rw[ay _ _ hm];exact h)
  | false=>
   show puts (ak H k u) (oO l r) m=puts (ak H' k u) r m;refine Hz hm ?_;by_cases e:m=k
   ·subst e;rw[aK,aK]
   ·rw[ay _ _ e,ay _ _ e];exact h
theorem GG {l:HLoc}:∀ {hw:HW} {H:HLoc→SV},puts H (oO l hw) l=H l
 | [],_=>rfl
 | (k,u)::r,H=>by
  simp only[oO];cases hb:l.beq k with
  | true=>exact GG (hw:=r)
  | false=>show puts (ak H k u) (oO l r) l=H l;rw[GG (hw:=r),ay _ _ fun e=>by rw[e,HLoc.beq_refl] at hb;exact noConfusion hb]
theorem RP {H:HLoc→SV}:∀ {ls:List HLoc} {hw hw':HW} {fp fp':List HLoc},(Ef ls hw).run H fp=some (hw',fp')→puts H hw'=puts H hw
 | [],hw,hw',fp,fp',h=>by obtain⟨e,_⟩:=af h;rw[e]
 | l::ls,hw,hw',fp,fp',h=>by
  simp only[Ef,Rd.run] at h;cases hb:vW (H l) (jd l .bot hw) with
  | false=>rw[hb] at h;exact(ae h).elim
  | true=>
   rw[hb] at h;rw[RP h];have hv:=O9 hb;funext m;by_cases e:m=l
   ·subst e;rw[GG,Ql];by_cases hm:m∈au hw
    ·rw[PH (v':=.bot) hm];exact hv.symm
    ·rw[Qx hm]
   ·exact Hz e rfl
theorem zdJ {P:Program} {tab:Tab} {Γ:FuncId→List Sig} (hF:∀ f sg,sg∈Γ f→FOk P f sg):uu P tab Γ:=by
 intro C g S H a w id f svs0 vs0 v hw fp0 fp' o hs hlen0 hv0 h K Q hK;unfold Le at h;obtain⟨svs,fp,hfl0,h⟩:=ah h;obtain⟨vs,hlen,hcap,hv,hunf⟩:=Dh hs hfl0 hlen0 hv0;split at h
 ·rename_i sg hsg;have hfo:=hF f sg (OI hsg);obtain⟨⟨v0,hw0⟩,fpA,hA,h0⟩:=ah h;clear h;obtain⟨hwB,fpB,hdr,h0⟩:=ah h0;obtain⟨e0,_⟩:=af h0;cases e0;rw[RP hdr] at hK;have h:=hA;unfold Uf at h;obtain⟨⟨x,pubs,drops⟩,fp1,k1,h⟩:=ah h;obtain⟨ks,fp1',k1',h⟩:=ah h;obtain⟨ls,fp1'',k1'',h⟩:=ah h;have hks:=zaB k1';have hls:=zaw k1'';cases hcnd:cond (mY drops) (cond (jJ ks (au pubs)) (jJ ls drops) false) false with
  | false=>simp only[hcnd,cond_false] at h;exact(ae h).elim
  | true=>
   simp only[hcnd,cond_true] at h;obtain⟨hnd,hcnd⟩:=az hcnd;obtain⟨hdj,hld⟩:=az hcnd;obtain⟨y,hy,h⟩:=bP h;obtain⟨⟨v1,ws1,z⟩,fp2,k2,h⟩:=ah h;obtain⟨ws2,fp3,k3,h⟩:=ah h;cases hnd2:mY (au (ws1++ws2)) with
   | false=>simp only[hnd2,cond] at h;exact(ae h).elim
   | true=>
    simp only[hnd2,cond] at h;obtain⟨e,_⟩:=af h;cases e;obtain⟨fn,c1,c2,c3⟩:=hfo.code;refine⟨Oi c1 c2 c3 _ _,?_⟩;rw[←hunf sg.ps _ _ _ k1];obtain⟨p1,p2,m,m1,m2⟩:=zbY hs (i:=0) k1 hlen hcap hv;obtain⟨fl,own1,ho1,q1,q2⟩:∃ fl own,own=g.own∧SimG C { g with fl:=fl,own:=own } S (puts H pubs) a w∧(view g.fl w).le (view fl w):=
     let ⟨fl,k1,k2⟩:=hs.pubsO p1;⟨fl,g.own,rfl,k1,k2⟩
    have hargs:=m2 (fun y h=>h) p1 (fun l hl=>qX hdj l (by rw[hks];exact hl)) q1 q2 (fun o t=>(o,t)∈m) (fun p hp=>hp) fun o t ht hl=>qX hld _ (by rw[hls];exact hl) (by rw[m1];exact mem_map.2 ⟨(o,t),ht,rfl⟩);let ownC:Nat→Option Own:=fun b=>(own1 b).bind (lookO m fun _=>none);have hnm:=IE (m:=m) (by rw[←m1];exact yB hnd);have hC:∀ b,ownC b≠none→∃ o t,own1 b=some o∧(o,t)∈m:=fun b hb=>by
     cases ho:own1 b with
     | none=>simp[ownC,ho] at hb
     | some o=>simp only[ownC,ho,bind_some] at hb;obtain⟨t,ht⟩:=OJ hb;exact⟨o,t,rfl,ht⟩
    have hownlt:∀ b,ownC b≠none→b<w.heap.size∧(C.w0.heap.size≤b∨C.M b):=fun b hb=>by obtain⟨o,t,h1,_⟩:=hC b hb;exact q1.own b (by show own1 b≠none;rw[h1];simp)
    refine Calls.mono (hfo.call (w:=w) (fl:=fl) (own:=ownC) (vs:=vs) (x:=x) (y:=y) (fun b hb=>(hownlt b hb).1) (hargs.relab (Relab.same fun o t ht=>⟨t,rfl,fun b hb=>by simp only[ownC,hb,bind_some];exact Ci hnm (o,t) ht⟩) fun b o' t' h1 h2=>hC b (by rw[h1];exact fun h=>by cases h)) hy) ?_;rintro e w' ⟨rs,fl',own',rfl,hext,hfl,hle,hown',hres⟩;obtain⟨flB,fl2,pubsB,hpB,p1B,q1B,hflB,hleB,hresB⟩:∃ (flB fl2:Nat→Nat) (pubsB:HW),zF sg drops pubs=pubsB∧bC H pubsB∧SimG C { g with fl:=flB,own:=own1 } S (puts H pubsB) a w∧(∀ b,b<w.heap.size→ownC b=none→fl2 b=flB b)∧(view flB w).le (view fl2 w')∧nH Eq fl2 own' w' 0 sg.rs sg.ps rs y fun z=>iK Eq fl2 own' w' 0 sg.ps vs z:=by
     cases hl:cond (UR sg) (jJ drops (au pubs)) false with
     | false=>exact⟨fl,fl',pubs,by unfold zF;rw[hl];rfl,p1,q1,hfl,hle,hres⟩
     | true=>
      obtain⟨hll,_⟩:=az hl;obtain⟨hl1,hl2⟩:=az hll;refine⟨g.fl,fun b=>if b<w.heap.size∧ownC b=none then g.fl b else fl' b,[],by unfold zF;rw[hl];rfl,trivial,by rw[ho1];exact hs,fun b h1 h2=>if_pos ⟨h1,h2⟩,?_,?_⟩
      ·intro k o v hv;obtain⟨hlt,hc⟩:=Ip.1 hv;have hk:k<w.heap.size:=World.block_lt_of_cell? (a:=⟨k,o,none⟩) w hc;by_cases hn:ownC k=none
       ·refine Ip.2 ⟨?_,(World.cell?_of_block (a:=⟨k,o,none⟩) (hext.block k hk (by rw[hn];simp))).trans hc⟩;show o<(if k<w.heap.size∧ownC k=none then g.fl k else fl' k);rw[if_pos ⟨hk,hn⟩];exact hlt
       ·obtain⟨h1,h2⟩:=Ip.1 (hle k o v (q2 k o v hv));refine Ip.2 ⟨?_,h2⟩;show o<(if k<w.heap.size∧ownC k=none then g.fl k else fl' k);rw[if_neg fun h=>hn h.2];exact h1
      ·have hf:∀ b,own' b≠none→(if b<w.heap.size∧ownC b=none then g.fl b else fl' b)=fl' b:=fun b hb=>if_neg fun h=>by
        rcases(hown' b hb).2 with h1|h1
        ·omega
        ·exact h1 h.2
       exact nH.flat hl1 hf (fun z hz=>iK.flat hl2 hf hz) hres
    let sites:=aV sg.ps svs;let sh:=shO id sites;let own2:Nat→Option Own:=fun b=>match own' b with
     | some o=>some (sh o)
     | none=>match ownC b with
      | some _=>none
      | none=>own1 b
    have hd:=q1B.drops (m:=m);rw[←m1] at hd;have keep:∀ b o,own1 b=some o→(∀ t,(o,t) ∉ m)→ownC b=none∧own2 b=some o∧w'.heap[b]? = w.heap[b]?∧fl2 b=flB b:=fun b o hb hm=>by
     have hn:ownC b=none:=by
      cases hc:ownC b with
      | none=>rfl
      | some u=>obtain⟨o',t,h1,h2⟩:=hC b (by rw[hc];simp);rw[hb] at h1;cases h1;exact absurd h2 (hm t)
     have hlt:=(q1B.own b (by show own1 b≠none;rw[hb];simp)).1;have hn':own' b=none:=by
      cases hc:own' b with
      | none=>rfl
      | some u=>
       rcases(hown' b (by rw[hc];simp)).2 with h|h
       ·omega
       ·exact absurd hn h
     exact⟨hn,by simp only[own2,hn',hn,hb],hext.block b hlt (by rw[hn];simp),hflB b hlt hn⟩
    have hdrop:∀ o t,(o,t)∈m→dK o∈drops:=fun o t h=>by rw[m1];exact mem_map.2 ⟨(o,t),h,rfl⟩
    have hbd:∀ b,b<C.w0.heap.size→¬ C.M b→ownC b=none:=fun b h1 h2=>by
     cases hc:ownC b with
     | none=>rfl
     | some u=>
      rcases(hownlt b (by rw[hc];simp)).2 with h|h
      ·omega
      ·exact absurd h h2
    have hw0:=q1B.ext.size;have hg:SimG C { g with fl:=fl2,own:=own2 } S (puts (puts H pubsB) (kC drops)) a w':=by
     refine hd.grow (GAgree.same rfl rfl rfl) hleB (fun n t hn ho=> ?_) (fun r b hr ho=> ?_) (fun b hb=> ?_) (fun b h1 h2=> ?_) ?_
     ·have:=keep (g.st n) (.site n) ho fun t hm=>by
       have:=vJ (H:=puts H pubsB) (hdrop _ _ hm);rw[show dK (.site n)=HLoc.site n from rfl] at this;rw[this] at hn;cases hn
      exact⟨this.2.2.1,this.2.1,this.2.2.2⟩
     ·have:=keep b (.row r) ho fun t hm=>by
       have:=vJ (H:=puts H pubsB) (hdrop _ _ hm);rw[show dK (.row r)=HLoc.row r from rfl] at this;rcases hr with⟨_,_,_,hr⟩|⟨_,_,_,_,hr⟩<;>(rw[this] at hr;cases hr)
      exact⟨this.2.2.1,this.2.1,this.2.2.2⟩
     ·have hb:own2 b≠none:=hb;cases hc:own' b with
      | some u=>
       have h1:=hown' b (by rw[hc];simp);refine⟨h1.1,?_⟩;rcases h1.2 with h|h
       ·exact .inl (by omega)
       ·exact(hownlt b h).2
      | none=>
       cases hc2:ownC b with
       | some u=>simp only[own2,hc,hc2] at hb;exact absurd rfl hb
       | none=>simp only[own2,hc,hc2] at hb;have h1:=q1B.own b hb;exact⟨Nat.lt_of_lt_of_le h1.1 hext.size,h1.2⟩
     ·show fl2 b=C.fl0 b;rw[hflB b (by omega) (hbd b h1 h2)];exact q1B.old b h1 h2
     ·refine⟨hext.os.trans q1B.ext.os,hext.tape.trans q1B.ext.tape,hext.output.trans q1B.ext.output,le_trans hw0 hext.size,fun b h1 h2=> ?_⟩;rw[hext.block b (by omega) (by rw[hbd b h1 h2];simp)];exact q1B.ext.block b h1 h2
    have hsh:∀ k,sh (.row k)=.row (id+k):=fun k=>rfl;have hsb:∀ k,k<81→sh (.site k)=.site (id+k):=fun k hk=>by have hb:blt k 81=true:=Nat.ble_eq_true_of_le hk;simp only[sh,shO,hb,cond]
    have hrel:Relab Eq (fun o t=>o=sh t) fl2 fl2 own' own2 w':=Relab.same fun o t ht=>by subst ht;exact⟨sh o,rfl,fun b hb=>by simp only[own2,hb]⟩
    have hres2:=hresB.relab (own':=own2) (k':=fun z=>iK (fun o t=>o=sh t) fl2 own2 w' 0 sg.ps vs z) hrel fun z hz=>hz.relab hrel;have hnW:=yB hnd2;rw[fG] at hnW;obtain⟨w1,w2,w3⟩:=nodup_append.1 hnW;have hbot0:∀ l,H l=.bot→puts (puts H pubsB) (kC drops) l=.bot:=fun l hl=>by rw[cZ (by rw[Ir];exact fun hm=>p2 l hm hl)];exact CW hl p1B
    obtain⟨g1,a1,a2,a3,a4,a5,a6⟩:=Zb (T:=fun o t=>o=sh t) (fun o t h=>h) hsh hsb k2 hg hres2 (fun l hl hn=>hbot0 l (XZ k2 l hl hn)) w1 hfo.few;have hbk:=YO k3;have hsites:=YK k1;have hres3:iK (fun o t=>o=sh t) g1.fl g1.own w' 0 sg.ps vs z:=by rw[a1.fl,a1.own];exact a6
    obtain⟨g2,b1,b2,b3⟩:=zb3 (T:=fun o t=>o=sh t) (fun o t h=>h) hsh (j:=0) (g0:=g) (iv0:=view g.fl w) k3 a2 hres3 (fun k s hk=>by
      have hb:blt (81+20*(0+k)) 81=false:=by
       cases hb:blt (81+20*(0+k)) 81 with
       | false=>rfl
       | true=>have:81+20*(0+k)<81:=le_of_ble_eq_true hb;omega
      simp only[sh,shO,hb,cond];rw[show(81+20*(0+k)-81)/20=k from by omega,List.getD_eq_getElem?_getD,hk];rfl) hlen (fun k s v' h1 h2=>(hv k s v' h1 h2).1) (fun s hs'=>by
      have hl:HLoc.site s∈drops:=hsites (.site s) hs';have hu:puts (puts H pubsB) (kC drops) (.site s)≠.bot:=by rw[vJ hl];exact SV.noConfusion
      exact a1.ag.st s hu) (fun q hq=>by
      have hl:=hsites (.row q) hq;have hl:HLoc.row q∈drops:=hl;have hnl:HLoc.row q ∉ au ws1:=fun hm=>w3 _ hm _ (Il k3 q hq) rfl;have hu:puts (puts H pubsB) (kC drops) (.row q)=.und:=vJ hl;exact⟨p2 _ hl,by rw[cZ hnl];exact hu,a1.ag.hd q (by rw[hu];exact SV.noConfusion)⟩) (fun l hl=>by
      have hnl:l ∉ au ws1:=fun hm=>w3 l hm l hl rfl;obtain⟨d2,_⟩:=hbk l hl;refine⟨fun r e hb=>by rw[cZ hnl];exact hbot0 l hb,fun n e=> ?_⟩;rw[cZ hnl];have:=hsites (.site n) (d2 n e);rw[e];exact vJ this) w2
    have eP:puts H (zF sg drops pubs++(kC drops++(ws1++ws2)))=puts (puts (puts (puts H pubsB) (kC drops)) ws1) ws2:=by rw[gX,gX,gX,hpB]
    refine hK (oQ rs) w' g2 (by rw[eP];exact b2) ?_ ?_
    ·exact SR.change b1.ag (by rw[b1.fl];exact IV.le.refl _) a5 a4
    ·rw[eP];have live:∀ l,puts (puts (puts H pubsB) (kC drops)) ws1 l≠.bot→puts (puts (puts (puts H pubsB) (kC drops)) ws1) ws2 l≠.bot:=fun l hl=>vH b3 hl;cases v0<;>first|exact trivial|exact live _ a5|exact fun i hi=>live _ (a5 i hi)|exact fun i q hi=>live _ (a5 i q hi)
 ·exact(ae h).elim
section
variable {C:Ctx} {a:Act} {w:World}
theorem GAgree.trans {H H':HLoc→SV} {g g' g'':Gh} (h:GAgree H g g') (h':GAgree H' g' g'') (hH:∀ l,H l≠.bot→H' l≠.bot):GAgree H g g'':=
 ⟨fun n hn=>(h'.st n (hH _ hn)).trans (h.st n hn),fun r hr=>(h'.hd r (hH _ hr)).trans (h.hd r hr),fun d i hd=>(h'.cv d i (hH _ hd)).trans (h.cv d i hd),h'.lv.trans h.lv⟩
theorem zcr {g:Gh} {s:St} {c d j sl:Nat} {v:SV} {val:Value} (hs:SimG C g s.S s.H a w) (hv:SR g (view g.fl w) v val) (hr:aG s.H v) (hne:v≠.bot) (h0:c=0→a.tmps.getD sl undef=val) (hc:c≠0→s.H (.comp d j)=.bot) :
  ∃ g1,g1.fl=g.fl∧g1.own=g.own∧SimG C g1 (kE s c d j sl v).S (kE s c d j sl v).H a w∧(∀ l,s.H l≠.bot→(kE s c d j sl v).H l=s.H l)∧(∀ l,(c≠0→l≠.comp d j)→(kE s c d j sl v).H l=s.H l)∧GAgree s.H g g1∧
   (c≠0→(kE s c d j sl v).H (.comp d j)≠.bot∧g1.cv d j=val)∧(kE s c d j sl v).lkH=s.lkH∧(kE s c d j sl v).lkS=s.lkS:=by
 cases c with
 | zero=>exact⟨g,rfl,rfl,hs.reslot (by rw[h0 rfl];exact hv) hr,fun _ _=>rfl,fun _ _=>rfl,GAgree.refl _ _,fun h=>absurd rfl h,rfl,rfl⟩
 | succ c=>
  have hb:=hc (by simp);refine⟨{ g with cv:=fun d' i'=>if d'=d∧i'=j then val else g.cv d' i' },rfl,rfl,hs.setComp (d:=d) (i:=j) (val:=val) hb hne hr hv,fun l hl=> ?_,fun l hl=> ?_,⟨fun _ _=>rfl,fun _ _=>rfl,fun d' k' hne'=> ?_,rfl⟩,fun _=>⟨?_,by simp⟩,rfl,rfl⟩
  ·exact ay _ _ fun e=>hl (e▸hb)
  ·exact ay _ _ (hl (by simp))
  ·by_cases e:d'=d∧k'=j
   ·obtain⟨rfl,rfl⟩:=e;exact absurd hb hne'
   ·simp[e]
  ·show ak s.H (.comp d j) v (.comp d j)≠.bot;rw[aK];exact hne
def uM:PS→Option Ty
 | .obj t _=>some t
 | .box=>some bU
 | _=>none
def XH (i:Nat) (l:HLoc):Prop:=(∃ n,n<i∧(l=.site n∨∃ k,l=.fld n k))∨∃ k,k<i∧l=.comp 999 k
structure InitOk (C:Ctx) (a:Act) (w:World) (g:Gh) (s:St) (c d j i:Nat) (ps:List PS) (vs:List Value) (s':St) (g':Gh):Prop where
 fl:g'.fl=g.fl
 own:g'.own=g.own
 sim:SimG C g' s'.S s'.H a w
 live:∀ l,s.H l≠.bot→s'.H l=s.H l
 ag:GAgree s.H g g'
 cap:∀ k v,k<c→vs[k]? = some v→s'.H (.comp d (j+k))≠.bot∧g'.cv d (j+k)=v
 lkS:s'.lkS=s.lkS
 lkH:∀ l∈s'.lkH,l∈s.lkH∨(∃ k,l=.comp 999 k∧s'.H l=.adr k 0∧HLoc.site k∈s'.lkH)∨∃ n t,l=.site n∧s'.H l=.obj t
 lkI:∀ l∈s.lkH,l∈s'.lkH
 keep:c=0∨d≠999→∀ l,XH i l→s'.H l=s.H l
 pins:∀ k p t v,ps[k]? = some p→uM p=some t→vs[k]? = some v→HLoc.comp 999 (i+k)∈s'.lkH∧s'.H (.comp 999 (i+k))=.adr (i+k) 0∧g'.cv 999 (i+k)=v∧s'.H (.site (i+k))=.obj t
theorem zbK:∀ {ps:List PS} {c d j sl i:Nat} {vs:List Value} {x:(bK ps).den} {g:Gh} {s:St},lQ c ps=true→SimG C g s.S s.H a w→jA Eq g.fl g.own w i ps vs x→(∀ k v,(unf c ps vs)[k]? = some v→a.tmps.getD (sl+k) undef=v)→
  i+ps.length≤900→(∀ r,i*100≤r→s.H (.row r)=.bot)→(∀ n,i≤n→s.H (.site n)=.bot∧∀ k,s.H (.fld n k)=.bot)→(∀ e k,i≤e→e<999→s.H (.comp e k)=.bot)→(c≠0→d<i∧∀ k,j≤k→s.H (.comp d k)=.bot)→(∀ k,i≤k→s.H (.comp 999 k)=.bot)→(lvU g.fl (fun b=>∃ o t',g.own b=some o∧o=t') w).le (Ar C)→
  ∃ g',InitOk C a w g s c d j i ps vs (ik s c d j sl i ps x) g':=by
 intro ps;induction ps with
 | nil=>intro c d j sl i vs x g s hp hs _ _ _ _ _ _ _ _ _;obtain rfl:=eq_of_beq_eq_true hp;exact⟨g,rfl,rfl,hs,fun _ _=>rfl,GAgree.refl _ _,fun k v hk=>by omega,rfl,fun l hl=>.inl hl,fun l hl=>hl,fun _ _ _=>rfl,fun k p t v hk=>by simp at hk⟩
 | cons p ps ih=>
  intro c d j sl i vs x g s hp hs hx hv hi hr hn hcb hcd h9 hLV;cases vs with
  | nil=>cases p<;>exact hx.elim
  | cons v vs=>
   have rest:∀ {s0 s1:St} {g0 g1:Gh} {sv:SV} {x':(bK ps).den},nT p=0→lQ (c-1) ps=true→s1=kE s0 c d j sl sv→SimG C g0 s0.S s0.H a w→g0.fl=g.fl→g0.own=g.own→GAgree s.H g g0→(∀ l,s.H l≠.bot→s0.H l=s.H l)→
     (∀ l,(∀ r,i*100≤r→r<(i+1)*100→l≠.row r)→l≠.site i→(∀ k,l≠.fld i k)→l≠.comp 999 i→(∀ k,l≠.comp i k)→s0.H l=s.H l)→SR g0 (view g0.fl w) sv v→aG s0.H sv→sv≠.bot→jA Eq g0.fl g0.own w (i+1) ps vs x'→s0.lkS=s.lkS→(∀ l∈s.lkH,l∈s0.lkH)→
     (∀ l∈s0.lkH,l∈s.lkH∨(∃ k,l=.comp 999 k∧s0.H l=.adr k 0∧HLoc.site k∈s0.lkH)∨∃ n t,l=.site n∧s0.H l=.obj t)→
     (∀ t,uM p=some t→HLoc.comp 999 i∈s0.lkH∧s0.H (.comp 999 i)=.adr i 0∧g0.cv 999 i=v∧s0.H (.site i)=.obj t)→
     ∃ g',InitOk C a w g s c d j i (p::ps) (v::vs) (ik s1 (c-1) d (j+1) (oU c sl) (i+1) ps x') g':=by
    intro s0 s1 g0 g1 sv x' hcap0 hp' hs1 h1 h2 h3 h4 h5 h6 h7 h8 h9' h10 h11 h12 h13 h14;have hlt:i<999:=by simp at hi;omega
    have hcomp:c≠0→s0.H (.comp d j)=.bot:=fun hc=>by rw[h6 _ (fun _ _ _=>by simp) (by simp) (fun _=>by simp) (by simp;have:=(hcd hc).1;omega) (fun _=>by simp;have:=(hcd hc).1;omega)];exact(hcd hc).2 j (le_refl _)
    obtain⟨g1,a1,a2,a3,a4,a5,a6,a7,a8,a9⟩:=zcr (c:=c) (d:=d) (j:=j) (sl:=sl) h1 h7 h8 h9' (fun hc=>by subst hc;exact hv 0 v (by simp[unf])) hcomp;rw[←hs1] at a3 a4 a5 a7 a8 a9;obtain⟨g',b⟩:=ih (c:=c-1) (d:=d) (j:=j+1) (sl:=oU c sl) (i:=i+1) (vs:=vs) (x:=x') (g:=g1) (s:=s1) hp' a3 (by rw[a1,a2];exact h10) (fun k u hk=>by
      cases c with
      | zero=>have:=hv (k+1) u (by simp only[unf];simpa[hcap0] using hk);rwa[show sl+(k+1)=sl+1+k from by omega] at this
      | succ c=>exact hv k u (by simpa[unf] using hk)) (by simp at hi;omega)
     (fun r hr'=>by rw[a5 _ (fun _=>by simp),h6 _ (fun r' _ h e=>by simp at e;omega) (by simp) (fun _=>by simp) (by simp) (fun _=>by simp)];exact hr r (by omega))
     (fun n hn'=>⟨by rw[a5 _ (fun _=>by simp),h6 _ (fun _ _ _=>by simp) (by simp;omega) (fun _=>by simp) (by simp) (fun _=>by simp)];exact(hn n (by omega)).1,
      fun k=>by rw[a5 _ (fun _=>by simp),h6 _ (fun _ _ _=>by simp) (by simp) (fun _=>by simp;omega) (by simp) (fun _=>by simp)];exact(hn n (by omega)).2 k⟩)
     (fun e k h1' h2'=>by rw[a5 _ (fun hc=>by have:=(hcd hc).1;simp;omega),h6 _ (fun _ _ _=>by simp) (by simp) (fun _=>by simp) (by simp;omega) (fun _=>by simp;omega)];exact hcb e k (by omega) h2')
     (fun hc=>⟨by have:=(hcd (by omega)).1;omega,fun k hk=>by
      have hc':c≠0:=by omega
      rw[a5 _ (fun _=>by simp;omega),h6 _ (fun _ _ _=>by simp) (by simp) (fun _=>by simp) (by simp;have:=(hcd hc').1;omega) (fun _=>by simp;have:=(hcd hc').1;omega)];exact(hcd hc').2 k (by omega)⟩)
     (fun k hk=>by rw[a5 _ (fun hc=>by have:=(hcd hc).1;simp;omega),h6 _ (fun _ _ _=>by simp) (by simp) (fun _=>by simp) (by simp;omega) (fun _=>by simp;omega)];exact h9 k (by omega)) (by rw[a1,a2,h2,h3];exact hLV)
    have live1:∀ l,s.H l≠.bot→s1.H l=s.H l:=fun l hl=>(a4 l (by rw[h5 l hl];exact hl)).trans (h5 l hl);refine⟨g',b.fl.trans (a1.trans h2),b.own.trans (a2.trans h3),b.sim,fun l hl=>(b.live l (by rw[live1 l hl];exact hl)).trans (live1 l hl),?_,?_,b.lkS.trans (a9.trans h11),?_,fun l hl=>b.lkI l (by rw[a8];exact h12 l hl),fun hd l hl=> ?_,?_⟩
    ·exact(h4.trans a6 fun l hl=>by rw[h5 l hl];exact hl).trans b.ag fun l hl=>by rw[live1 l hl];exact hl
    ·intro k u hk hu;cases k with
     | zero=>simp only[getElem?_cons_zero,Option.some.injEq] at hu;subst hu;obtain⟨q1,q2⟩:=a7 (by omega);show(ik s1 (c-1) d (j+1) (oU c sl) (i+1) ps x').H (.comp d j)≠.bot∧g'.cv d j=v;rw[b.live _ q1,b.ag.cv _ _ q1];exact⟨q1,q2⟩
     | succ k=>have:=b.cap k u (by omega) (by simpa using hu);rwa[show j+1+k=j+(k+1) from by omega] at this
    ·intro l hl;rcases b.lkH l hl with hl|hl
     ·rw[a8] at hl;rcases h13 l hl with hl|⟨k,rfl,q1,q2⟩|⟨n,t,rfl,q1⟩
      ·exact .inl hl
      ·have e1:s1.H (.comp 999 k)=s0.H (.comp 999 k):=a4 _ (by rw[q1];exact SV.noConfusion);have e2:=b.live (.comp 999 k) (by rw[e1,q1];exact SV.noConfusion);exact .inr (.inl ⟨k,rfl,by rw[e2,e1,q1],b.lkI _ (by rw[a8];exact q2)⟩)
      ·have e1:s1.H (.site n)=s0.H (.site n):=a4 _ (by rw[q1];exact SV.noConfusion);have e2:=b.live (.site n) (by rw[e1,q1];exact SV.noConfusion);exact .inr (.inr ⟨n,t,rfl,by rw[e2,e1,q1]⟩)
     ·exact .inr hl
    ·have hl2:XH (i+1) l:=by
      rcases hl with⟨n,hn1,hn2⟩|⟨k,hk1,hk2⟩
      ·exact .inl ⟨n,by omega,hn2⟩
      ·exact .inr ⟨k,by omega,hk2⟩
     rw[b.keep (hd.imp (fun h=>by omega) id) l hl2,a5 l (fun hc=> ?_)]
     ·rcases hl with⟨n,hn1,rfl|⟨k,rfl⟩⟩|⟨k,hk1,rfl⟩
      ·exact h6 _ (fun _ _ _=>by simp) (by simp;omega) (fun _=>by simp) (by simp) (fun _=>by simp)
      ·exact h6 _ (fun _ _ _=>by simp) (by simp) (fun _=>by simp;omega) (by simp) (fun _=>by simp)
      ·exact h6 _ (fun _ _ _=>by simp) (by simp) (fun _=>by simp) (by simp;omega) (fun _=>by simp;omega)
     ·rcases hl with⟨n,hn1,rfl|⟨k,rfl⟩⟩|⟨k,hk1,rfl⟩
      ·simp
      ·simp
      ·have:=(hcd hc).1;simp;omega
    ·intro k p' t u hk hob hu;cases k with
     | zero=>simp only[getElem?_cons_zero,Option.some.injEq] at hk hu;subst hu;subst hk;obtain⟨q1,q2,q3,q4⟩:=h14 t hob;have e1:s1.H (.comp 999 i)=s0.H (.comp 999 i):=a4 _ (by rw[q2];exact SV.noConfusion);have e2:=b.live (.comp 999 i) (by rw[e1,q2];exact SV.noConfusion);have f1:s1.H (.site i)=s0.H (.site i):=a4 _ (by rw[q4];exact SV.noConfusion);have f2:=b.live (.site i) (by rw[f1,q4];exact SV.noConfusion);refine⟨b.lkI _ (by rw[a8];exact q1),e2.trans (e1.trans q2),?_,f2.trans (f1.trans q4)⟩;exact(b.ag.cv 999 i (by rw[e1,q2];exact SV.noConfusion)).trans ((a6.cv 999 i (by rw[q2];exact SV.noConfusion)).trans q3)
     | succ k=>have:=b.pins k p' t u (by simpa using hk) hob (by simpa using hu);rwa[show i+1+k=i+(k+1) from by omega] at this
   cases p with
   | pure t=>obtain⟨h1,h2⟩:=hx;exact rest (s0:=s) (g1:=g) (sv:=.pv t x.1) (x':=x.2) rfl hp rfl hs rfl rfl (GAgree.refl _ _) (fun _ _=>rfl) (fun _ _ _ _ _ _=>rfl) h1 trivial SV.noConfusion h2 rfl (fun _ h=>h) (fun _ h=>.inl h) fun t e=>by cases e
   | lent t=>obtain⟨h1,h2⟩:=hx;exact rest (s0:=s) (g1:=g) (sv:=.lv t x.1) (x':=x.2) rfl hp rfl hs rfl rfl (GAgree.refl _ _) (fun _ _=>rfl) (fun _ _ _ _ _ _=>rfl) (by show bM g.lv t v x.1;rw[hs.lv];exact h1.mono hLV) trivial SV.noConfusion h2 rfl (fun _ h=>h) (fun _ h=>.inl h) fun t e=>by cases e
   | rptr t=>obtain⟨⟨b,o,cs,hv,hC,hsg⟩,h2⟩:=hx;exact rest (s0:=s) (g1:=g) (sv:=.lel t x.1 0) (x':=x.2) rfl hp rfl hs rfl rfl (GAgree.refl _ _) (fun _ _=>rfl) (fun _ _ _ _ _ _=>rfl) ⟨b,o,cs,hv,hC,by rw[hs.lv];exact hsg.mono hLV⟩ trivial SV.noConfusion h2 rfl (fun _ h=>h) (fun _ h=>.inl h) fun t e=>by cases e
   | row e=>
    obtain⟨h1,h2⟩:=hx;have hbot:s.H (.row (i*100))=.bot:=hr _ (le_refl _);have hA:GAgree s.H g { g with hd:=aA g.hd (i*100) v }:=⟨fun _ _=>rfl,fun r' hr'=>bn _ _ fun e=>hr' (e▸hbot),fun _ _ _=>rfl,rfl⟩
    have hg:=hs.grow hA (IV.le.refl _) (fun _ _ _ h=>⟨rfl,h,rfl⟩) (fun _ _ _ h=>⟨rfl,h,rfl⟩) hs.own hs.old hs.ext;have hrow:=hg.setRow (r:=i*100) (pub:=false) (e:=e) (l:=x.1) (zdf.2 (by
     show iq g.fl g.own w (aA g.hd (i*100) v (i*100)) _ _ _ _;rw[bJ];rcases h1 with h1|⟨o,rfl,h1⟩
     ·exact .inl h1
     ·exact h1))
    have lives:∀ l,s.H l≠.bot→ak s.H (.row (i*100)) (.row false e x.1) l=s.H l:=fun l hl=>ay _ _ fun e=>hl (e▸hbot);refine rest (s0:={ s with H:=ak s.H (.row (i*100)) (.row false e x.1) }) (g0:={ g with hd:=aA g.hd (i*100) v }) (g1:=g) (sv:=.hdr (i*100)) (x':=x.2) rfl hp rfl hrow rfl rfl hA lives ?_ ?_ ?_ SV.noConfusion h2 rfl (fun l hl=>hl) (fun l hl=>.inl hl) fun t' e=>by cases e
    ·intro l l1 l2 l3 l4 l5;exact ay _ _ (l1 (i*100) (le_refl _) (by omega))
    ·show v=aA g.hd (i*100) v (i*100);rw[bJ]
    ·show ak s.H (.row (i*100)) (.row false e x.1) (.row (i*100))≠.bot;rw[aK];exact SV.noConfusion
   | agg t os=>
    obtain⟨⟨cs,rfl,hF⟩,h2⟩:=hx;simp only[lQ] at hp;obtain⟨hp1,hp2⟩:=az hp;have hlen:os.length≤100:=le_of_ble_eq_true hp1;have hlt:i<999:=by simp at hi;omega
    have hta:t.agg=true:=by cases t<;>first|rfl|exact hF.elim
    have hmem:∀ l,l∈au (aZ (.comp i) (i*100) os t x.1 0)→(∃ k,l=.comp i k)∨∃ r,l=.row r∧i*100≤r∧r<(i+1)*100:=fun l hl=>by
     rcases jQ hl with⟨k,hk⟩|⟨k,hk1,hk⟩
     ·exact .inl ⟨_,hk⟩
     ·have:k<os.length:=(List.getElem?_eq_some_iff.1 hk1).1;exact .inr ⟨_,hk,by omega,by omega⟩
    have hbot:∀ l∈au (aZ (.comp i) (i*100) os t x.1 0),s.H l=.bot:=fun l hl=>by
     rcases hmem l hl with⟨k,rfl⟩|⟨r,rfl,h1,_⟩
     ·exact hcb i k (le_refl _) hlt
     ·exact hr r h1
    obtain⟨g0,n1,n2,n3,n4,n5⟩:=O6 (T:=Eq) (sh:=fun o=>o) (id:=0) (rid:=i*100) (d:=i) (fun o t h=>h) (fun k=>by simp) hs hF (by rw[zero_add];exact hbot);rw[zero_add] at n2 n5;have hsame:∀ l,l ∉ au (aZ (.comp i) (i*100) os t x.1 0)→puts s.H (aZ (.comp i) (i*100) os t x.1 0) l=s.H l:=fun l hl=>cZ hl;refine rest (s0:={ s with H:=puts s.H (aZ (.comp i) (i*100) os t x.1 0) }) (g0:=g0) (g1:=g) (sv:=.agg i t) (x':=x.2) rfl hp2 rfl n2 n1.fl n1.own n1.ag (fun l hl=>hsame l fun hm=>hl (hbot l hm)) ?_ ⟨hta,by rw[n3],n4⟩ (fun k hk=>by have:=n5 k hk;rwa[zero_add] at this) SV.noConfusion (by rw[n1.fl,n1.own];exact h2) rfl (fun l hl=>hl) (fun l hl=>.inl hl) fun t' e=>by cases e
    intro l l1 l2 l3 l4 l5;refine hsame l fun hm=> ?_;rcases hmem l hm with⟨k,hk⟩|⟨r,hk,q1,q2⟩
    ·exact l5 k hk
    ·exact l1 r q1 q2 hk
   | nilp=>obtain⟨h1,h2⟩:=hx;exact rest (s0:=s) (g1:=g) (sv:=.nilp) (x':=x) rfl hp rfl hs rfl rfl (GAgree.refl _ _) (fun _ _=>rfl) (fun _ _ _ _ _ _=>rfl) h1 trivial SV.noConfusion h2 rfl (fun _ h=>h) (fun _ h=>.inl h) fun t e=>by cases e
   | fnc f n=>
    simp only[lQ] at hp;obtain⟨hp1,hp2⟩:=az hp;obtain rfl:=eq_of_beq_eq_true hp1;obtain⟨⟨h1,h1'⟩,h2⟩:=hx;have h0:a.tmps.getD sl undef=v:=hv 0 v rfl;obtain⟨g',b⟩:=ih (c:=n) (d:=i) (j:=0) (sl:=sl+1) (i:=i+1) (vs:=vs) (x:=x) (g:=g) (s:=s) hp2 hs h2 (fun k u hk=>by
      have:=hv (k+1) u (by simpa[unf,nT] using hk);rwa[show sl+(k+1)=sl+1+k from by omega] at this) (by simp at hi;omega) (fun r h=>hr r (by omega)) (fun n h=>hn n (by omega)) (fun e k h h'=>hcb e k (by omega) h')
     (fun _=>⟨by omega,fun k _=>hcb i k (le_refl _) (by simp at hi;omega)⟩) (fun k h=>h9 k (by omega)) hLV
    have hcap:∀ k,k<n→(ik s n i 0 (sl+1) (i+1) ps x).H (.comp i k)≠.bot∧g'.cv i k=vs.getD k undef:=fun k hk=>by have:=b.cap k (vs.getD k undef) hk (by rw[List.getD_eq_getElem?_getD,getElem?_eq_getElem (by omega)];rfl);rwa[zero_add] at this
    have hsl:=b.sim.reslot (n:=sl) (v:=.fn f i n) (by
     rw[h0,h1];show _=Value.func (.func f) #[] ((range n).map (g'.cv i)).toArray;congr 2;apply List.ext_getElem?;intro k;by_cases hk:k<n
     ·rw[List.getElem?_take_of_lt hk,getElem?_map,List.getElem?_range hk];simp only[map_some];rw[(hcap k hk).2,List.getD_eq_getElem?_getD,getElem?_eq_getElem (by omega)];rfl
     ·rw[List.getElem?_eq_none (by simp;omega),List.getElem?_eq_none (by simp;omega)]) fun k hk=>(hcap k hk).1
    refine⟨g',b.fl,b.own,hsl,b.live,b.ag,fun k v hk=>by omega,b.lkS,b.lkH,b.lkI,fun _ l hl=>b.keep (.inr (by simp at hi;omega)) l (hl.imp (fun⟨n,h1,h2⟩=>⟨n,by omega,h2⟩) fun⟨k,h1,h2⟩=>⟨k,by omega,h2⟩),fun k p t u hk hob hu=> ?_⟩;cases k with
    | zero=>simp at hk;subst hk;cases hob
    | succ k=>have:=b.pins k p t u (by simpa using hk) hob (by simpa using hu);rwa[show i+1+k=i+(k+1) from by omega] at this
   | box=>
    obtain⟨⟨pv,rest',rfl,bb,o,rfl,hval,hblk,hob,hfl⟩,h2⟩:=hx;cases ps with
    | nil=>exact noConfusion hp
    | cons q ps=>
    cases q<;>first|exact noConfusion hp|skip
    rename_i tq osq;have hp':cond (beq c 0) (lQ 1 (.obj tq osq::ps)) false=true:=hp;obtain⟨hp1,hp2⟩:=az hp';obtain rfl:=eq_of_beq_eq_true hp1;have hi':i+1+(PS.obj tq osq::ps).length≤900:=by simp at hi ⊢;omega
    have hlt:i<999:=by simp at hi;omega
    have h0:a.tmps.getD sl undef=v:=hv 0 v rfl;obtain⟨g',b⟩:=ih (c:=1) (d:=i) (j:=0) (sl:=sl+1) (i:=i+1) (vs:=pv::rest') (x:=x) (g:=g) (s:=s) hp2 hs h2 (fun k u hk=>by
      have:=hv (k+1) u (by simpa[unf,nT] using hk);rwa[show sl+(k+1)=sl+1+k from by omega] at this) hi' (fun r h=>hr r (by omega)) (fun n h=>hn n (by omega)) (fun e k h h'=>hcb e k (by omega) h')
     (fun _=>⟨by omega,fun k _=>hcb i k (le_refl _) (by omega)⟩) (fun k h=>h9 k (by omega)) hLV
    obtain⟨z1,z2,z3,z4⟩:=b.pins 0 (.obj tq osq) tq pv rfl rfl rfl;rw[add_zero] at z1 z2 z3 z4;have kp:=fun l hl=>b.keep (.inr (by omega)) l hl;have s1:(ik s 1 i 0 (sl+1) (i+1) (.obj tq osq::ps) x).H (.site i)=.bot:=(kp _ (.inl ⟨i,by omega,.inl rfl⟩)).trans (hn i (le_refl _)).1;have s2:(ik s 1 i 0 (sl+1) (i+1) (.obj tq osq::ps) x).H (.comp 999 i)=.bot:=(kp _ (.inr ⟨i,by omega,rfl⟩)).trans (h9 i (le_refl _));have hpv:pv=.pointer (some ⟨g'.st (i+1),0,none⟩):=by have:=b.sim.comps 999 (i+1);rw[z2] at this;rw[←z3];exact this
    show ∃ g',InitOk C a w g s 0 d j i _ _ { ik s 1 i 0 (sl+1) (i+1) (.obj tq osq::ps) x with S:=jL (ik s 1 i 0 (sl+1) (i+1) (.obj tq osq::ps) x).S sl (.adr i 0),H:=ak (ak (ak (ik s 1 i 0 (sl+1) (i+1) (.obj tq osq::ps) x).H (.fld i 0) (.adr (i+1) 0)) (.site i) (.obj bU)) (.comp 999 i) (.adr i 0),lkH:=.comp 999 i::.site i::(ik s 1 i 0 (sl+1) (i+1) (.obj tq osq::ps) x).lkH } g';generalize ik s 1 i 0 (sl+1) (i+1) (.obj tq osq::ps) x=s' at *;have hA:GAgree s'.H g' { g' with st:=aA g'.st i bb }:=⟨fun n hn'=>bn _ _ fun e=>hn' (e▸s1),fun _ _=>rfl,fun _ _ _=>rfl,rfl⟩
    have hg:=b.sim.grow hA (IV.le.refl _) (fun n t hn' h=>⟨rfl,h,rfl⟩) (fun _ _ _ h=>⟨rfl,h,rfl⟩) b.sim.own b.sim.old b.sim.ext;have hf:=hg.setFld (n:=i) (i:=0) (v:=.adr (i+1) 0) (fun t'=>by rw[s1];exact SV.noConfusion) SV.noConfusion (by show s'.H (.site (i+1))≠.bot;rw[z4];exact SV.noConfusion);have hsite:=hf.setSite (n:=i) (t:=bU) ⟨[pv],by
     show Blk w (aA g'.st i bb i) [pv];rw[bJ];exact hblk,by
     show g'.own (aA g'.st i bb i)=_;rw[bJ,b.own];exact hob,by
     show g'.fl (aA g'.st i bb i)=0;rw[bJ,b.fl];exact hfl,pv,rfl,by rw[hpv];rfl,by
     show SR { g' with st:=aA g'.st i bb } _ (ak s'.H (.fld i 0) (.adr (i+1) 0) (.fld i 0)) pv;rw[aK];show pv=pointer (some ⟨aA g'.st i bb (i+1),0,none⟩);rw[bn _ _ (by omega)];exact hpv⟩
    have hcbot:ak (ak s'.H (.fld i 0) (.adr (i+1) 0)) (.site i) (.obj bU) (.comp 999 i)=.bot:=by rw[ay _ _ (by simp),ay _ _ (by simp)];exact s2
    have hcomp:=hsite.setComp (d:=999) (i:=i) (v:=.adr i 0) (val:=v) hcbot SV.noConfusion (by show ak (ak s'.H (.fld i 0) (.adr (i+1) 0)) (.site i) (.obj bU) (.site i)≠.bot;rw[aK];exact SV.noConfusion) (by show v=pointer (some ⟨aA g'.st i bb i,0,none⟩);rw[bJ];exact hval);have hslot:=hcomp.reslot (n:=sl) (v:=.adr i 0) (by
     rw[h0];show v=pointer (some ⟨aA g'.st i bb i,0,none⟩);rw[bJ];exact hval) (by
     show ak (ak (ak s'.H (.fld i 0) (.adr (i+1) 0)) (.site i) (.obj bU)) (.comp 999 i) (.adr i 0) (.site i)≠.bot;rw[ay _ _ (by simp),aK];exact SV.noConfusion)
    have hsi:ak (ak (ak s'.H (.fld i 0) (.adr (i+1) 0)) (.site i) (.obj bU)) (.comp 999 i) (.adr i 0) (.site i)=.obj bU:=by rw[ay _ _ (show HLoc.site i≠.comp 999 i by simp),aK]
    have same:∀ l,l≠.fld i 0→l≠.site i→l≠.comp 999 i→ak (ak (ak s'.H (.fld i 0) (.adr (i+1) 0)) (.site i) (.obj bU)) (.comp 999 i) (.adr i 0) l=s'.H l:=fun l l1 l2 l3=>by rw[ay _ _ l3,ay _ _ l2,ay _ _ l1]
    refine⟨{ g' with st:=aA g'.st i bb,cv:=fun d' i'=>if d'=999∧i'=i then v else g'.cv d' i' },b.fl,b.own,hslot,fun l hl=> ?_,?_,fun k u hk=>by omega,b.lkS,fun l hl=> ?_,fun l hl=>mem_cons_of_mem _ (mem_cons_of_mem _ (b.lkI l hl)),fun _ l hl=> ?_,fun k p t u hk hob' hu=> ?_⟩
    ·refine(same l (fun e=>hl (by rw[e];exact(hn i (le_refl _)).2 0)) (fun e=>hl (by rw[e];exact(hn i (le_refl _)).1)) (fun e=>hl (by rw[e];exact h9 i (le_refl _)))).trans (b.live l hl)
    ·refine⟨fun n hn'=> ?_,fun r hr'=>b.ag.hd r hr',fun d' k' hne=> ?_,b.ag.lv⟩
     ·show aA g'.st i bb n=_;rw[bn _ _ (fun e=>hn' (by rw[e];exact(hn i (le_refl _)).1))];exact b.ag.st n hn'
     ·have:¬ (d'=999∧k'=i):=fun⟨e1,e2⟩=>hne (by rw[e1,e2];exact h9 i (le_refl _));show(if d'=999∧k'=i then v else g'.cv d' k')=_;rw[if_neg this];exact b.ag.cv d' k' hne
    ·rcases mem_cons.1 hl with rfl|hl
     ·exact .inr (.inl ⟨i,rfl,aK _ _ _,by simp⟩)
     ·rcases mem_cons.1 hl with rfl|hl
      ·exact .inr (.inr ⟨i,bU,rfl,hsi⟩)
      ·rcases b.lkH l hl with hl|⟨k,rfl,q1,q2⟩|⟨n,t,rfl,q1⟩
       ·exact .inl hl
       ·exact .inr (.inl ⟨k,rfl,(same _ (by simp) (by simp) (fun e=>by rw[e,s2] at q1;cases q1)).trans q1,mem_cons_of_mem _ (mem_cons_of_mem _ q2)⟩)
       ·exact .inr (.inr ⟨n,t,rfl,(same _ (by simp) (fun e=>by rw[e,s1] at q1;cases q1) (by simp)).trans q1⟩)
    ·refine(same l ?_ ?_ ?_).trans (kp l (hl.imp (fun⟨n,h1,h2⟩=>⟨n,by omega,h2⟩) fun⟨k,h1,h2⟩=>⟨k,by omega,h2⟩))
     ·rintro rfl;rcases hl with⟨n,h1,h|⟨k,h⟩⟩|⟨k,h1,h⟩<;>cases h;omega
     ·rintro rfl;rcases hl with⟨n,h1,h|⟨k,h⟩⟩|⟨k,h1,h⟩<;>cases h;omega
     ·rintro rfl;rcases hl with⟨n,h1,h|⟨k,h⟩⟩|⟨k,h1,h⟩<;>cases h;omega
    ·cases k with
     | zero=>simp only[getElem?_cons_zero,Option.some.injEq] at hk hu;subst hk;subst hu;cases hob';rw[add_zero];exact⟨by simp,aK _ _ _,by simp,hsi⟩
     | succ k=>obtain⟨y1,y2,y3,y4⟩:=b.pins k p t u (by simpa using hk) hob' (by simpa using hu);rw[show i+1+k=i+(k+1) from by omega] at y1 y2 y3 y4;refine⟨mem_cons_of_mem _ (mem_cons_of_mem _ y1),(same _ (by simp) (by simp) (by simp)).trans y2,?_,(same _ (by simp) (by simp) (by simp)).trans y4⟩;show(if 999=999∧i+(k+1)=i then v else g'.cv 999 (i+(k+1)))=u;rw[if_neg (by omega)];exact y3
   | obj t os=>
    obtain⟨⟨b,cs,o,rfl,hval,hblk,hob,hfl,hF⟩,h2⟩:=hx;simp only[lQ] at hp;obtain⟨hp1,hp2⟩:=az hp;have hlen:os.length≤100:=le_of_ble_eq_true hp1;have hlt:i<999:=by simp at hi;omega
    have hbot:s.H (.site i)=.bot:=(hn i (le_refl _)).1;have hA:GAgree s.H g { g with st:=aA g.st i b }:=⟨fun n hn'=>bn _ _ fun e=>hn' (e▸hbot),fun _ _=>rfl,fun _ _ _=>rfl,rfl⟩
    have hg:=hs.grow hA (IV.le.refl _) (fun n t hn' h=>⟨rfl,h,rfl⟩) (fun _ _ _ h=>⟨rfl,h,rfl⟩) hs.own hs.old hs.ext;have hfrow:∀ r,HLoc.row r∈au (aZ (.fld i) (i*100) os (lay t) x.1 0)→i*100≤r∧r<(i+1)*100:=fun r hr'=>by
     rcases jQ hr' with⟨k,hk⟩|⟨k,hk1,hk⟩
     ·cases hk
     ·simp only[HLoc.row.injEq] at hk;have:k<os.length:=(List.getElem?_eq_some_iff.1 hk1).1;omega
    obtain⟨hd',q1,q2,q3⟩:=Iu (T:=Eq) (sh:=fun o=>o) (id:=0) (rid:=i*100) (n:=i) (fun o t h=>h) (fun k=>by simp) hg (fun t'=>by rw[hbot];exact SV.noConfusion) hF fun r hr'=>by rw[zero_add] at hr';exact hr r (hfrow r hr').1
    rw[zero_add] at q2 q3;have hfin:=q2.setSite (n:=i) (t:=t) ⟨cs,by
     show Blk w (aA g.st i b i) cs;rw[bJ];exact hblk,by
     show g.own (aA g.st i b i)=_;rw[bJ];exact hob,by
     show g.fl (aA g.st i b i)=0;rw[bJ];exact hfl,BM.2 q3⟩
    have eP:ak (puts s.H (aZ (.fld i) (i*100) os (lay t) x.1 0)) (.site i) (.obj t)=puts s.H (aZ (.fld i) (i*100) os (lay t) x.1 0++[(.site i,.obj t)]):=by rw[gX];rfl
    rw[eP] at hfin;have hout:∀ l,(∀ r,i*100≤r→r<(i+1)*100→l≠.row r)→l≠.site i→(∀ k,l≠.fld i k)→puts s.H (aZ (.fld i) (i*100) os (lay t) x.1 0++[(.site i,.obj t)]) l=s.H l:=fun l l1 l2 l3=>by
     apply cZ;rw[fG,mem_append,not_or];refine⟨fun hm=> ?_,by simpa[au] using l2⟩;rcases jQ hm with⟨k,hk⟩|⟨k,hk1,hk⟩
     ·exact l3 _ hk
     ·rw[hk] at hm;exact l1 _ (hfrow _ hm).1 (hfrow _ hm).2 hk
    have h9i:puts s.H (aZ (.fld i) (i*100) os (lay t) x.1 0++[(.site i,.obj t)]) (.comp 999 i)=.bot:=by rw[hout _ (fun _ _ _=>by simp) (by simp) (fun _=>by simp)];exact h9 i (le_refl _)
    have hsite:puts s.H (aZ (.fld i) (i*100) os (lay t) x.1 0++[(.site i,.obj t)]) (.site i)=.obj t:=by rw[←eP,aK]
    have hfin2:=hfin.setComp (d:=999) (i:=i) (v:=.adr i 0) (val:=.pointer (some ⟨b,0,none⟩)) h9i SV.noConfusion (by simp only[aG];rw[hsite];exact SV.noConfusion) (by show _=pointer (some ⟨aA g.st i b i,0,none⟩);rw[bJ]);have hs2:ak (puts s.H (aZ (.fld i) (i*100) os (lay t) x.1 0++[(.site i,.obj t)])) (.comp 999 i) (.adr i 0) (.site i)=.obj t:=by rw[ay _ _ (by simp),hsite]
    have lives:∀ l,s.H l≠.bot→ak (puts s.H (aZ (.fld i) (i*100) os (lay t) x.1 0++[(.site i,.obj t)])) (.comp 999 i) (.adr i 0) l=s.H l:=fun l hl=>by rw[ay _ _ (fun e=>hl (by rw[e];exact h9 i (le_refl _))),hout l (fun r h1 _ e=>hl (by rw[e];exact hr r h1)) (fun e=>hl (by rw[e];exact hbot)) fun k e=>hl (by rw[e];exact(hn i (le_refl _)).2 k)]
    refine rest (s0:={ s with H:=ak (puts s.H (aZ (.fld i) (i*100) os (lay t) x.1 0++[(.site i,.obj t)])) (.comp 999 i) (.adr i 0),lkH:=.comp 999 i::.site i::s.lkH }) (g0:={ g with st:=aA g.st i b,hd:=hd',cv:=fun d' i'=>if d'=999∧i'=i then .pointer (some ⟨b,0,none⟩) else g.cv d' i' }) (g1:=g) (sv:=.adr i 0) (x':=x.2) rfl hp2 rfl hfin2 rfl rfl ?_ lives ?_ ?_ ?_ SV.noConfusion h2 rfl (fun l hl=>by simp[hl]) (fun l hl=> ?_) fun t' e=> ?_
    ·refine⟨hA.st,fun r hr'=>q1 r hr',fun d' k' hne=> ?_,rfl⟩;by_cases e:d'=999∧k'=i
     ·obtain⟨rfl,rfl⟩:=e;exact absurd (h9 _ (le_refl _)) hne
     ·simp[e]
    ·intro l l1 l2 l3 l4 l5;show ak _ _ _ l=_;rw[ay _ _ l4];exact hout l l1 l2 l3
    ·show _=pointer (some ⟨aA g.st i b i,0,none⟩);rw[bJ];exact hval
    ·intro e;exact SV.noConfusion (hs2.symm.trans e)
    ·rcases mem_cons.1 hl with rfl|hl
     ·exact .inr (.inl ⟨i,rfl,aK _ _ _,by simp⟩)
     ·rcases mem_cons.1 hl with rfl|hl
      ·exact .inr (.inr ⟨i,t,rfl,hs2⟩)
      ·exact .inl hl
    ·cases e;exact⟨by simp,aK _ _ _,by simp[hval],hs2⟩
end
section
variable {C:Ctx} {g:Gh} {S:Nat→SV} {H:HLoc→SV} {a:Act} {w:World}
theorem jy.nodes {T:Own→Own→Prop} {fl:Nat→Nat} {own:Nat→Option Own} {rid:Nat} {k v:Ty} {cs:List Value} {x:(jT k v).den} {i:Nat} (h:jy T fl own w rid [] (jT k v) cs x i) :
  ∃ ck cv pl ph,cs=ck++(cv++[pl,ph,.int .i64 x.2.2.2.1,.int .i64 x.2.2.2.2.1])∧aJ (view fl w) k ck x.1.1∧aJ (view fl w) v cv x.1.2.1∧sU (view fl w) (aJ (view fl w) k) (aJ (view fl w) v) x.2.1 pl∧sU (view fl w) (aJ (view fl w) k) (aJ (view fl w) v) x.2.2.1 ph:=by
 obtain⟨c1,c2,rfl,h1,d1,d2,rfl,h2,e1,e2,rfl,h3,f1,f2,rfl,h4,g1,g2,rfl,h5,h6⟩:=h;obtain⟨ck,r1,rfl,q1,cv,r2,rfl,q2,q3⟩:=(show aJ (view fl w) (.pair k (.pair v .unit)) c1 x.1 from h1)
 obtain rfl:r2=[]:=q3;obtain⟨pl,rfl,q4⟩:=(show aJ (view fl w) (.tree k v) d1 x.2.1 from h2)
 obtain⟨ph,rfl,q5⟩:=(show aJ (view fl w) (.tree k v) e1 x.2.2.1 from h3)
 obtain rfl:f1=[.int .i64 x.2.2.2.1]:=h4;obtain rfl:g1=[.int .i64 x.2.2.2.2.1]:=h5;obtain rfl:g2=[]:=h6;exact⟨ck,cv,pl,ph,by simp,q1,q2,q4,q5⟩
structure EndOk (T:Own→Own→Prop) (fl fl2:Nat→Nat) (own own2:Nat→Option Own) (w:World) (fz:List Nat):Prop where
 rel:Relab T Eq fl fl2 own own2 w
 fz:∀ n∈fz,∀ b cs,own b=some (.site n)→Blk w b cs→fl2 b=cs.length
def Aa (C:Ctx) (g:Gh) (S:Nat→SV) (H:HLoc→SV) (a:Act) (w:World) (base:Nat) (r:RS) (val:Value) (x:r.ty.den) (pubs:HW) (drops keeps:List HLoc):Prop:=
 bC H pubs∧∃ (m:List (Own×Own)) (fz:List Nat),drops=(m.map fun p=>dK p.1)++fz.map HLoc.site∧
   ∀ {hw:HW} {fl:Nat→Nat} {own:Nat→Option Own},(∀ y∈pubs,y∈hw)→bC H hw→(∀ l∈keeps,l ∉ au hw)→SimG C { g with fl:=fl,own:=own } S (puts H hw) a w→(view g.fl w).le (view fl w)→
   ∀ {T:Own→Own→Prop} {fl2:Nat→Nat} {own2:Nat→Option Own},(∀ p∈m,T p.1 p.2)→EndOk T fl fl2 own own2 w fz→pz Eq fl2 own2 w base r val x
theorem Qq (_hs:SimG C g S H a w) {t:Ty} {os:List Bool} {v:SV} {val:Value} {x:(lay t).den} {pubs:HW} {drops keeps:List HLoc} {fp fp':List HLoc} (h:(zg t os v).run H fp=some ((x,pubs,drops,keeps),fp'))
  (hv:SR g (view g.fl w) v val) (hr:aG H v) (base:Nat):Aa C g S H a w base (.newobj t os) val x pubs drops keeps:=by
 simp only[zg] at h;split at h
 ·rename_i s off;cases hoff:beq off 0 with
  | false=>rw[hoff] at h;exact(ae h).elim
  | true=>
   rw[hoff] at h;simp only[cond,Rd.run] at h;split at h
   ·rename_i t' hobj;cases hb:t'.beq t with
    | false=>rw[hb] at h;exact(ae h).elim
    | true=>
     rw[hb] at h;obtain rfl:=Ty.beq_eq hb;obtain⟨⟨y,hw1⟩,fp1,k1,h⟩:=ah (show((iP (.fld s) os (lay t') 0).bind _).run H _=_ from h);obtain⟨d,fp2,k2,h⟩:=ah h;obtain⟨e,_⟩:=af h;cases e;obtain⟨m1,d1,d2'⟩:=ug (rid:=base+1) k2;have hG:=fun T (hT:∀ p∈m1,T p.1 p.2)=>tX (C:=C) (g:=g) (S:=S) (a:=a) (w:=w) (T:=T) (rid:=base+1) (os:=os) k1 fun k hk=>by
      rcases d2' k hk with⟨r,e1,e2⟩|e1
      ·exact .inl ⟨r,e1,hT _ e2⟩
      ·exact .inr e1
     refine⟨(hG (fun _ _=>True) fun _ _=>trivial).1,(.site s,.site base)::m1,[],by rw[d1];simp[dK],fun{hw fl own} hsub hp hk hs' hle T fl2 own2 hT hE=> ?_⟩;have hobj':puts H hw (.site s)=.obj t':=by rw[lZ hp];exact hobj
     obtain⟨cs,h1,h2,h3,h4⟩:=hs'.sites s t' hobj';have hF:(fun i=>puts H hw (.fld s i))=fun i=>H (.fld s i):=funext fun i=>pV hp;rw[BM,hF] at h4;have hval:val=.pointer (some ⟨g.st s,0,none⟩):=by obtain rfl:=eq_of_beq_eq_true hoff;exact hv
     have hkk:pbO os (aH (lay t'))=false→∀ k r,(os.take (aH (lay t')))[k]? = some true→iE (H (.fld s (0+k))) r→HLoc.row r ∉ au hw:=fun hpb k r g1 g2=>hk _ (by
      rw[hpb];show HLoc.row r∈d;rcases d2' k g1 with⟨r',e1,e2⟩|e1
      ·obtain rfl:=e1.inj g2;rw[d1];exact mem_map.2 ⟨_,e2,rfl⟩
      ·exact(g2.nil e1).elim)
     have hO:pF T fl own w (.site base) (base+1) os t' val y:=⟨g.st s,cs,.site s,hT (.site s,.site base) (by simp),hval,h1,h2,h3,(hG T fun p hp=>hT p (by simp[hp])).2 hsub hp hkk hs' h4⟩
     exact hO.relab hE.rel
   ·exact(ae h).elim
 ·exact(ae h).elim
theorem zcu (hs:SimG C g S H a w) {r:RS} {v:SV} {val:Value} {x:r.ty.den} {pubs:HW} {drops keeps:List HLoc} {fp fp':List HLoc} (h:(su r v).run H fp=some ((x,pubs,drops,keeps),fp'))
  (hv:SR g (view g.fl w) v val) (hr:aG H v) (base:Nat):Aa C g S H a w base r val x pubs drops keeps:=by
 cases r with
 | pure t=>
  have plain:((jM t v).bind fun p=>Rd.ret (p.1,p.2,([]:List HLoc),([]:List HLoc))).run H fp=some ((x,pubs,drops,keeps),fp')→Aa C g S H a w base (.pure t) val x pubs drops keeps:=fun h=>by obtain⟨⟨y,hw1⟩,fp1,k1,h⟩:=ah h;obtain⟨e,_⟩:=af h;cases e;obtain⟨p1,p2⟩:=oz hs k1 hv hr;exact⟨p1,[],[],rfl,fun hsub hp hk hs' hle _ _ _ _ hE=>bM.mono hE.rel.le (p2 _ _ ((hs'.rowsRd hp).sub hsub) hle)⟩
  simp only[su] at h;split at h
  ·rename_i s off k v';cases hoff:beq off 0 with
   | false=>rw[hoff] at h;exact(ae h).elim
   | true=>
    rw[hoff] at h;simp only[cond,Rd.run] at h;split at h
    ·rename_i t' hobj;cases hb:t'.beq (jT k v') with
     | false=>rw[hb] at h;exact(ae h).elim
     | true=>
      rw[hb] at h;obtain rfl:=Ty.beq_eq hb;obtain⟨⟨y,hw1⟩,fp1,k1,h⟩:=ah (show((iP (.fld s) [] (jT k v') 0).bind _).run H _=_ from h);obtain⟨e,_⟩:=af h;cases e;have hG:=tX (C:=C) (g:=g) (S:=S) (a:=a) (w:=w) (T:=fun _ _=>True) (rid:=0) (os:=[]) k1 fun k hk=>by simp at hk
      refine⟨hG.1,[],[s],rfl,fun{hw fl own} hsub hp hk hs' hle T fl2 own2 _ hE=> ?_⟩;have hobj':puts H hw (.site s)=.obj (jT k v'):=by rw[lZ hp];exact hobj
      obtain⟨cs,h1,h2,h3,h4⟩:=hs'.sites s _ hobj';have hF:(fun i=>puts H hw (.fld s i))=fun i=>H (.fld s i):=funext fun i=>pV hp;rw[BM,hF] at h4;have hX:=hG.2 hsub hp (fun hpb=>noConfusion hpb) hs' h4;obtain⟨ck,cv,pl,ph,rfl,q1,q2,q3,q4⟩:=hX.nodes;have hval:val=.pointer (some ⟨g.st s,0,none⟩):=by obtain rfl:=eq_of_beq_eq_true hoff;exact hv
      have hfl:=hE.fz s (by simp) _ _ h2 h1;have hle2:=hE.rel.le;refine⟨[val],⟨val,rfl,g.st s,0,ck,cv,pl,ph,hval,q1.mono hle2,q2.mono hle2,sU.mono hle2 (fun _ _ h=>h.mono hle2) (fun _ _ h=>h.mono hle2) q3,sU.mono hle2 (fun _ _ h=>h.mono hle2) (fun _ _ h=>h.mono hle2) q4,fun j u hj=> ?_⟩,rfl⟩;rw[Ip,zero_add];have hlt:=(List.getElem?_eq_some_iff.1 hj).1;have hfl:fl2 (g.st s)=_:=hfl;rw[hfl];exact⟨hlt,by rw[h1.cell];exact hj⟩
    ·exact(ae h).elim
  ·exact plain h
 | own pub e=>
  simp only[su] at h;split at h
  ·obtain⟨e,_⟩:=af h;cases e;exact⟨trivial,[],[],rfl,fun _ _ _ _ _ _ _ _ _ _=>.inl ⟨hv,rfl⟩⟩
  ·rename_i r;simp only[Rd.run] at h;split at h
   ·rename_i p e' l hrow;cases hp:cond p pub true with
    | false=>rw[hp] at h;exact(ae h).elim
    | true=>
     rw[hp] at h;obtain⟨y,fp1,k1,h⟩:=ah h;obtain⟨k1,_⟩:=aS k1;obtain⟨e1,_⟩:=af h;cases e1;obtain⟨he,rfl⟩:=dm k1;cases he;refine⟨?_,[(.row r,.row base)],[],rfl,fun{hw fl own} hsub hpb hk hs' hle T fl2 own2 hT hE=> ?_⟩
     ·cases pub<;>cases p<;>first|trivial|exact⟨⟨r,false,e,l,rfl,rfl,.inl hrow⟩,trivial⟩
     ·have hval:val=g.hd r:=hv;have hrow':puts H hw (.row r)=.row pub e l:=by
       cases pub with
       | true=>
        refine vM hpb ?_;cases p with
        | true=>exact .inl hrow
        | false=>exact .inr (hsub _ (by simp))
       | false=>
        have hpf:p=false:=by cases p<;>simp_all
        rw[cZ (hk _ (by simp)),hrow,hpf]
      have hR:lU T fl own w val (.row base) pub e l:=.inr ⟨.row r,hT (.row r,.row base) (by simp),by rw[hval];exact hs'.rows r pub e l hrow'⟩;exact hR.relab hE.rel
   ·exact(ae h).elim
  ·exact(ae h).elim
 | deep e=>
  simp only[su] at h;split at h
  ·obtain⟨e,_⟩:=af h;cases e;exact⟨trivial,[],[],rfl,fun _ _ _ _ _ _ _ _ _ _=>.inl ⟨hv,rfl⟩⟩
  ·rename_i r;simp only[Rd.run] at h;split at h
   ·rename_i e' l n hh hrow;cases hh with
    | some _=>exact(ae h).elim
    | none=>
     simp only[Rd.run] at h;cases hn:decide (n=length l) with
     | false=>rw[hn] at h;simp at h
     | true=>
      rw[hn] at h;simp only[cond_true] at h;obtain rfl:=of_decide_eq_true hn;obtain⟨y,fp1,k1,h⟩:=ah h;obtain⟨k1,_⟩:=aS k1;obtain⟨e1,_⟩:=af h;cases e1;obtain⟨he,rfl⟩:=dm k1;cases he;refine⟨trivial,[(.row r,.row base)],[],rfl,fun{hw fl own} hsub hpb hk hs' hle T fl2 own2 hT hE=> ?_⟩;have hval:val=g.hd r:=hv;have hrow':puts H hw (.row r)=.deep e l (length l) none:=by rw[cZ (hk _ (by simp)),hrow]
      have hR:rY T fl own w val (.row base) e l:=.inr ⟨.row r,hT (.row r,.row base) (by simp),by rw[hval];exact hs'.deeps r e l _ none hrow'⟩;exact hR.relab hE.rel
   ·exact(ae h).elim
  ·exact(ae h).elim
 | agg t os=>
  simp only[su] at h;split at h
  ·rename_i d t';cases hb:t'.beq t with
   | false=>rw[hb] at h;exact(ae h).elim
   | true=>
    rw[hb] at h;simp only[cond_true] at h;obtain rfl:=Ty.beq_eq hb;obtain⟨⟨y,hw1⟩,fp1,k1,h⟩:=ah h;obtain⟨dd,fp2,k2,h⟩:=ah h;obtain⟨e,_⟩:=af h;cases e;obtain⟨m1,d1,d2'⟩:=ug (rid:=base) k2;have hG:=fun T (hT:∀ p∈m1,T p.1 p.2)=>tX (C:=C) (g:=g) (S:=S) (a:=a) (w:=w) (T:=T) (rid:=base) (os:=os) k1 fun k hk=>by
     rcases d2' k hk with⟨r,e1,e2⟩|e1
     ·exact .inl ⟨r,e1,hT _ e2⟩
     ·exact .inr e1
    refine⟨(hG (fun _ _=>True) fun _ _=>trivial).1,m1,[],by rw[d1];simp,fun{hw fl own} hsub hp hk hs' hle T fl2 own2 hT hE=> ?_⟩;obtain⟨v1,v2,v3⟩:=hv;have hF:=qR hs (d:=d) v3;have hF':=dF.change (H:=H) (GAgree.same (g:=g) (g':={ g with fl:=fl,own:=own }) rfl rfl rfl) hle (fun i=>hs.refC d i) hF;have hkk:pbO os (aH t')=false→∀ k r,(os.take (aH t'))[k]? = some true→iE (H (.comp d (0+k))) r→HLoc.row r ∉ au hw:=fun hpb k r g1 g2=>hk _ (by
     rw[hpb];simp only[cond_false];rcases d2' k g1 with⟨r',e1,e2⟩|e1
     ·obtain rfl:=e1.inj g2;rw[d1];exact mem_map.2 ⟨_,e2,rfl⟩
     ·exact(g2.nil e1).elim)
    exact⟨_,v2,((hG T fun p hp=>hT p hp).2 hsub hp hkk hs' hF').relab hE.rel⟩
  ·exact(ae h).elim
 | newobj t os=>exact Qq hs h hv hr base
 | maybe t os=>
  have some1:((zg t os v).bind fun q=>Rd.ret ((true,q.1),q.2)).run H fp=some ((x,pubs,drops,keeps),fp')→Aa C g S H a w base (.maybe t os) val x pubs drops keeps:=fun h=>by obtain⟨⟨y,p1,p2,p3⟩,fp1,k1,h⟩:=ah h;obtain⟨e,_⟩:=af h;cases e;obtain⟨q1,m,fz,q2,q3⟩:=Qq hs k1 hv hr base;exact⟨q1,m,fz,q2,fun a1 a2 a3 a4 a5 _ _ _ a6 a7=>.inr ⟨rfl,q3 a1 a2 a3 a4 a5 a6 a7⟩⟩
  simp only[su] at h;split at h
  ·obtain⟨e,_⟩:=af h;cases e;exact⟨trivial,[],[],rfl,fun _ _ _ _ _ _ _ _ _ _=>.inl ⟨rfl,hv⟩⟩
  ·exact some1 h
theorem Zj (_hs:SimG C g S H a w) {z0:SV}:∀ {ps:List PS} {i j:Nat} {vs:List Value} {x:(dX ps).den} {pubs:HW} {drops keeps:List HLoc} {fp fp':List HLoc},(kN z0 i ps).run H fp=some ((x,pubs,drops,keeps),fp')→vs.length=ps.length→
  (∀ (k:Nat) (p:PS) (t:Ty) (v:Value),ps[k]? = some p→uM p=some t→vs[k]? = some v→v=pointer (some ⟨g.st (i+k),0,none⟩))→(∀ q v,z0=.hdr q→i=0→vs[0]? = some v→v=g.hd q)→
  bC H pubs∧∃ m:List (Own×Own),drops=(m.map fun p=>dK p.1)∧
   ∀ {hw:HW} {fl:Nat→Nat} {own:Nat→Option Own},(∀ y∈pubs,y∈hw)→bC H hw→(∀ l∈keeps,l ∉ au hw)→SimG C { g with fl:=fl,own:=own } S (puts H hw) a w→(view g.fl w).le (view fl w)→
   ∀ {T:Own→Own→Prop} {fl2:Nat→Nat} {own2:Nat→Option Own},(∀ p∈m,T p.1 p.2)→Relab T Eq fl fl2 own own2 w→iK Eq fl2 own2 w j ps vs x:=by
 intro ps;induction ps with
 | nil=>intro i j vs x pubs drops keeps fp fp' h hl _ _;obtain⟨e,_⟩:=af h;cases e;exact⟨trivial,[],rfl,fun _ _ _ _ _ _ _ _ _ _=>trivial⟩
 | cons p ps ih=>
  intro i j vs x pubs drops keeps fp fp' h hl hp0 hz0;cases vs with
  | nil=>simp at hl
  | cons v vs=>
   have hp1:∀ (k:Nat) (p:PS) (t:Ty) (v:Value),ps[k]? = some p→uM p=some t→vs[k]? = some v→v=pointer (some ⟨g.st (i+1+k),0,none⟩):=fun k p t v h1 ho h2=>by have:=hp0 (k+1) p t v (by simpa using h1) ho (by simpa using h2);rwa[show i+(k+1)=i+1+k from by omega] at this
   have hz1:∀ q v,z0=.hdr q→i+1=0→vs[0]? = some v→v=g.hd q:=fun q v _ h=>absurd h (Nat.succ_ne_zero i);cases p with
   | pure t=>exact ih (i:=i+1) (j:=j) (vs:=vs) h (by simpa using hl) hp1 hz1
   | lent t=>exact ih (i:=i+1) (j:=j) (vs:=vs) h (by simpa using hl) hp1 hz1
   | rptr t=>exact ih (i:=i+1) (j:=j) (vs:=vs) h (by simpa using hl) hp1 hz1
   | agg t os=>exact ih (i:=i+1) (j:=j) (vs:=vs) h (by simpa using hl) hp1 hz1
   | nilp=>exact ih (i:=i+1) (j:=j) (vs:=vs) h (by simpa using hl) hp1 hz1
   | fnc f n=>exact ih (i:=i+1) (j:=j) (vs:=vs) h (by simpa using hl) hp1 hz1
   | box=>
    simp only[kN,Rd.run] at h;split at h
    ·rename_i t' hobj;cases hb:t'.beq bU with
     | false=>rw[hb] at h;exact(ae h).elim
     | true=>
      rw[hb] at h;obtain rfl:=Ty.beq_eq hb;simp only[cond,Rd.run] at h;split at h
      ·rename_i b o hfld;cases hc:cond (Dy ps) (cond (beq b (i+1)) (beq o 0) false) false with
       | false=>simp only[cond] at hc;rw[hc] at h;exact(ae h).elim
       | true=>
        obtain⟨e0,e3⟩:=az hc;obtain⟨e1,e2⟩:=az e3;obtain rfl:=eq_of_beq_eq_true e1;obtain rfl:=eq_of_beq_eq_true e2;simp only[cond] at hc;rw[hc] at h;obtain⟨⟨z,hw2,d2,ke2⟩,fp3,k3,h⟩:=ah h;obtain⟨e,_⟩:=af h;cases e;obtain⟨q1,m,q3,q4⟩:=ih (i:=i+1) (j:=j+1) (vs:=vs) k3 (by simpa using hl) hp1 hz1;refine⟨q1,(.site i,.site (81+20*j))::m,by rw[q3];simp[dK],fun{hw fl own} hsub hp hke hs' hle T fl2 own2 hT hE=>⟨?_,q4 hsub hp hke hs' hle (fun p hp=>hT p (by simp[hp])) hE⟩⟩;have hobj':puts H hw (.site i)=.obj bU:=by rw[lZ hp];exact hobj
        obtain⟨cs,h1,h2,h3,h4⟩:=hs'.sites i bU hobj';obtain⟨c,rfl,-,h5⟩:=h4;have h5:SR { g with fl:=fl,own:=own } (view fl w) (puts H hw (.fld i 0)) c:=h5;rw[pV hp,hfld] at h5;have h5:c=pointer (some ⟨g.st (i+1),0,none⟩):=h5;have hval:=hp0 0 .box bU v rfl rfl rfl;rw[add_zero] at hval;cases ps with
        | nil=>exact noConfusion e0
        | cons q ps=>
        cases vs with
        | nil=>simp at hl
        | cons pv rest=>
        have hq:∃ t os,q=.obj t os:=by cases q<;>first|exact noConfusion e0|exact⟨_,_,rfl⟩
        obtain⟨t,os,rfl⟩:=hq;have hpv:=hp1 0 (.obj t os) t pv rfl rfl rfl;rw[add_zero] at hpv;have hO:ve T fl own w (.site (81+20*j)) v pv:=⟨g.st i,.site i,hT (.site i,.site (81+20*j)) (by simp),hval,by rw[hpv,←h5];exact h1,h2,h3⟩
        exact⟨pv,rest,rfl,hO.relab hE⟩
      ·exact(ae h).elim
    ·exact(ae h).elim
   | row e=>
    simp only[kN] at h;cases hi:beq i 0 with
    | false=>rw[hi] at h;exact(ae h).elim
    | true=>
     rw[hi] at h;have hi:=eq_of_beq_eq_true hi;cases z0<;>first|exact(ae h).elim|skip
     rename_i q;simp only[cond,Rd.run] at h;split at h
     ·rename_i pub e' l hrow;cases pub with
      | true=>exact(ae h).elim
      | false=>
       obtain⟨y,fp1,k1,h⟩:=ah (show((Rd.ofO (bi (.slice e') (.slice e) l)).bind _).run H _=_ from h);obtain⟨⟨z,hw2,d2,ke2⟩,fp3,k3,h⟩:=ah h;obtain⟨e1,_⟩:=af h;obtain⟨k1,_⟩:=aS k1;obtain⟨he,hy⟩:=dm k1;cases he;cases hy;cases e1;obtain⟨q1,m,q3,q4⟩:=ih (i:=i+1) (j:=j+1) (vs:=vs) k3 (by simpa using hl) hp1 hz1;refine⟨q1,(.row q,.site (81+20*j))::m,by rw[q3];simp[dK],fun{hw fl own} hsub hp hke hs' hle T fl2 own2 hT hE=>⟨?_,q4 hsub hp (fun l hl=>hke l (mem_cons_of_mem _ hl)) hs' hle (fun p hp=>hT p (by simp[hp])) hE⟩⟩;have hrow':puts H hw (.row q)=.row false e l:=by rw[cZ (hke (.row q) (mem_cons_self ..))];exact hrow
       have h1:=zdf.1 (hs'.rows q false e l hrow');have hv:v=g.hd q:=hz0 q v rfl hi rfl;rw[hv];have hR:lU T fl own w (g.hd q) (.site (81+20*j)) false e l:=.inr ⟨.row q,hT (.row q,.site (81+20*j)) (by simp),h1⟩;exact hR.relab hE
     ·exact(ae h).elim
   | obj t os=>
    simp only[kN,Rd.run] at h;split at h
    ·rename_i t' hobj;cases hb:t'.beq t with
     | false=>rw[hb] at h;exact(ae h).elim
     | true=>
      rw[hb] at h;obtain rfl:=Ty.beq_eq hb;obtain⟨⟨y,hw1⟩,fp1,k1,h⟩:=ah (show((iP (.fld i) os (lay t') 0).bind _).run H _=_ from h);obtain⟨d,fp2,k2,h⟩:=ah h;obtain⟨⟨z,hw2,d2,ke2⟩,fp3,k3,h⟩:=ah h;obtain⟨e,_⟩:=af h;cases e;obtain⟨m1,d1,d2'⟩:=ug (rid:=80+20*j) k2;have hG:=fun T (hT:∀ p∈m1,T p.1 p.2)=>tX (C:=C) (g:=g) (S:=S) (a:=a) (w:=w) (T:=T) (rid:=80+20*j) (os:=os) k1 fun k hk=>by
       rcases d2' k hk with⟨r,e1,e2⟩|e1
       ·exact .inl ⟨r,e1,hT _ e2⟩
       ·exact .inr e1
      obtain⟨q1,m,q3,q4⟩:=ih (i:=i+1) (j:=j+1) (vs:=vs) k3 (by simpa using hl) hp1 hz1;refine⟨bC.append.2 ⟨(hG (fun _ _=>True) fun _ _=>trivial).1,q1⟩,(.site i,.site (81+20*j))::(m1++m),by rw[d1,q3];simp[dK],fun{hw fl own} hsub hp hke hs' hle T fl2 own2 hT hE=>⟨?_,q4 (fun y hy=>hsub y (mem_append_right _ hy)) hp (fun l hl=>hke l (mem_append_right _ hl)) hs' hle (fun p hp=>hT p (by simp[hp])) hE⟩⟩;have hobj':puts H hw (.site i)=.obj t':=by rw[lZ hp];exact hobj
      obtain⟨cs,h1,h2,h3,h4⟩:=hs'.sites i t' hobj';have hF:(fun k=>puts H hw (.fld i k))=fun k=>H (.fld i k):=funext fun k=>pV hp;rw[BM,hF] at h4;have hval:=hp0 0 (.obj t' os) t' v rfl rfl rfl;have hkk:pbO os (aH (lay t'))=false→∀ k r,(os.take (aH (lay t')))[k]? = some true→iE (H (.fld i (0+k))) r→HLoc.row r ∉ au hw:=fun hpb k r g1 g2=>hke _ (mem_append_left _ (by
       rw[hpb];show HLoc.row r∈d;rcases d2' k g1 with⟨r',e1,e2⟩|e1
       ·obtain rfl:=e1.inj g2;rw[d1];exact mem_map.2 ⟨_,e2,rfl⟩
       ·exact(g2.nil e1).elim))
      have hO:pF T fl own w (.site (81+20*j)) (80+20*j) os t' v y:=⟨g.st i,cs,.site i,hT (.site i,.site (81+20*j)) (by simp),hval,h1,h2,h3,(hG T fun p hp=>hT p (by simp[hp])).2 (fun y hy=>hsub y (mem_append_left _ hy)) hp hkk hs' h4⟩
      exact hO.relab hE
    ·exact(ae h).elim
def XG (P:Program) (a:Act) (w:World):ResultVar→Value→Prop
 | .tmp t,v=>v=a.tmps.getD t undef
 | .cell c t,v=>((do loadVar t (←asAddr (a.tmps.getD c undef))):Sem Value).run P w=.ok v w
def Em (P:Program) (a:Act) (w:World):List ResultVar→List Value→Prop
 | [],vs=>vs=[]
 | r::rs,v::vs=>XG P a w r v∧Em P a w rs vs
 | _::_,[]=>False
theorem zcv {P:Program} {tab:Tab} (hTab:TabOk P tab) {s:St} (hS:s.S=S) (hs:SimG C g S H a w) {r:RS} {v:ResultVar} {x:r.ty.den} {pubs:HW} {drops keeps:List HLoc} {fp fp':List HLoc} (h:(xg tab s r v).run H fp=some ((x,pubs,drops,keeps),fp')) (base:Nat) :
  ∃ val,XG P a w v val∧Aa C g S H a w base r val x pubs drops keeps:=by
 cases v with
 | tmp t=>rw[show xg tab s r (.tmp t)=su r (s.S t) from rfl,hS] at h;exact⟨_,rfl,zcu hs h (hs.slots t) (hs.refS t) base⟩
 | cell c tid=>
  cases r with
  | pure t=>
   simp only[xg,hS] at h;split at h
   ·rename_i b off hb;cases hq:cond (beq off 0) (LP tab tid t) false with
    | false=>rw[hq] at h;exact(ae h).elim
    | true=>
     rw[hq] at h;obtain⟨h0,h1⟩:=az hq;obtain rfl:=eq_of_beq_eq_true h0;have ht:tl tab tid=some t:=by
      unfold LP at h1;cases hu:tl tab tid with
      | none=>rw[hu] at h1;exact noConfusion h1
      | some u=>rw[hu] at h1;rw[Ty.beq_eq h1]
     simp only[cond,Rd.run] at h;split at h
     ·rename_i t' hobj;obtain⟨⟨y,hw1⟩,fp1,k0,h⟩:=ah (show((LU b t t').bind _).run H _=_ from h);obtain⟨e,_⟩:=af h;cases e;obtain⟨cs,hblk,h2,h3,h4⟩:=hs.sites b t' hobj;have hlenF:∀ {t:Ty} {cs:List Value} {i:Nat},dF (fun i=>H (.fld b i)) g (view g.fl w) t cs i→cs.length=t.size:=by
       intro t;induction t with
       | pair A B _ hB=>rintro cs i ⟨c1,c2,rfl,q1,_,_,q4⟩;rw[length_append,q1,hB q4];rfl
       | unit=>intro cs i q;rw[show cs=[] from q];rfl
       | _=>intro cs i q;exact q.elim
      have hv:a.tmps.getD c undef=.pointer (some ⟨g.st b,0,none⟩):=by have:=hs.slots c;rw[hb] at this;exact this
      obtain⟨p1,hlen,p3⟩:bC H hw1∧cs.length=t.size∧∀ {hw:HW} {fl:Nat→Nat} {own:Nat→Option Own},(∀ y∈hw1,y∈hw)→bC H hw→SimG C { g with fl:=fl,own:=own } S (puts H hw) a w→(view g.fl w).le (view fl w)→aJ (view fl w) t cs y:=by
       unfold LU at k0;cases hb':t'.beq t with
       | true=>
        rw[hb'] at k0;obtain rfl:=Ty.beq_eq hb';obtain⟨p1,p2⟩:=qU k0;have hag:t'.agg=true:=by cases t'<;>first|rfl|exact(ae k0).elim
        unfold dV at h4;rw[hag] at h4;exact⟨p1,hlenF h4,fun{hw fl own} hsub hp hs' hle=>p2 _ _ _ ((hs'.rowsRd hp).sub hsub) (dF.change (H:=H) (GAgree.same (g:=g) (g':={ g with fl:=fl,own:=own }) rfl rfl rfl) hle (fun i=>hs.refF b i) h4)⟩
       | false=>
        rw[hb'] at k0;simp only[cond_false] at k0;cases hsz:cond t.agg (beq t'.size t.size) false with
        | false=>rw[hsz] at k0;exact(ae k0).elim
        | true=>
         rw[hsz] at k0;have hsz:=eq_of_beq_eq_true (az hsz).2;obtain⟨⟨y0,hw2⟩,fp2,k1,k0⟩:=ah (show((gather (.fld b) t' 0).bind _).run H _=_ from k0);obtain⟨y1,fp3,k2,k0⟩:=ah k0;obtain⟨k2,_⟩:=aS k2;obtain⟨e,_⟩:=af k0;cases e;obtain⟨p1,p2⟩:=qU k1;have hag:t'.agg=true:=by cases t'<;>first|rfl|exact(ae k1).elim
         unfold dV at h4;rw[hag] at h4;exact⟨p1,(hlenF h4).trans hsz,fun{hw fl own} hsub hp hs' hle=>yY (p2 _ _ _ ((hs'.rowsRd hp).sub hsub) (dF.change (H:=H) (GAgree.same (g:=g) (g':={ g with fl:=fl,own:=own }) rfl rfl rfl) hle (fun i=>hs.refF b i) h4)) k2⟩
      refine⟨mkV t cs,?_,p1,[],[],rfl,fun{hw fl own} hsub hp hk hs' hle _ _ _ _ hE=>bM.mono hE.rel.le ⟨cs,p3 hsub hp hs' hle,rfl⟩⟩;show((do loadVar tid (←asAddr (a.tmps.getD c undef))):Sem Value).run P w=_;rw[hv];have:=jD (w:=w) (b:=g.st b) (o:=0) (hTab.tys ht).w hlen (fun j v hj=>by rw[hblk.cell,zero_add];exact hj);simpa[asAddr] using this
     ·exact(ae h).elim
   ·exact(ae h).elim
  | agg t os=>
   simp only[xg,hS] at h;split at h
   ·rename_i b off hb;cases hq:cond (beq off 0) (tyZ tab tid t) false with
    | false=>rw[hq] at h;exact(ae h).elim
    | true=>
     rw[hq] at h;obtain⟨h0,h1⟩:=az hq;obtain rfl:=eq_of_beq_eq_true h0;have ht:∃ u,tl tab tid=some u∧u.agg=true∧u.size=t.size:=by
      unfold tyZ at h1;cases hu:tl tab tid with
      | none=>rw[hu] at h1;exact noConfusion h1
      | some u=>rw[hu] at h1;exact⟨u,rfl,(az h1).1,eq_of_beq_eq_true (az h1).2⟩
     obtain⟨u,ht,hua,hus⟩:=ht;simp only[cond,Rd.run] at h;split at h
     ·rename_i t' hobj;cases hb':t'.beq t with
      | false=>rw[hb'] at h;exact(ae h).elim
      | true=>
       rw[hb'] at h;obtain rfl:=Ty.beq_eq hb';obtain⟨⟨y,hw1⟩,fp1,k1,h⟩:=ah (show((iP (.fld b) os t' 0).bind _).run H _=_ from h);obtain⟨dd,fp2,k2,h⟩:=ah h;obtain⟨e,_⟩:=af h;cases e;obtain⟨cs,hblk,h2,h3,h4⟩:=hs.sites b t' hobj;have hag:t'.agg=true:=by cases t'<;>first|rfl|exact(ae k1).elim
       unfold dV at h4;rw[hag] at h4;have hlen:cs.length=t'.size:=by
        have:∀ {t:Ty} {cs:List Value} {i:Nat},dF (fun i=>H (.fld b i)) g (view g.fl w) t cs i→cs.length=t.size:=by
         intro t;induction t with
         | pair A B _ hB=>rintro cs i ⟨c1,c2,rfl,q1,_,_,q4⟩;rw[length_append,q1,hB q4];rfl
         | unit=>intro cs i q;rw[show cs=[] from q];rfl
         | _=>intro cs i q;exact q.elim
        exact this h4
       have hv:a.tmps.getD c undef=.pointer (some ⟨g.st b,0,none⟩):=by have:=hs.slots c;rw[hb] at this;exact this
       obtain⟨m1,d1,d2'⟩:=ug (rid:=base) k2;have hG:=fun T (hT:∀ p∈m1,T p.1 p.2)=>tX (C:=C) (g:=g) (S:=S) (a:=a) (w:=w) (T:=T) (rid:=base) (os:=os) k1 fun k hk=>by
        rcases d2' k hk with⟨r,e1,e2⟩|e1
        ·exact .inl ⟨r,e1,hT _ e2⟩
        ·exact .inr e1
       refine⟨mkV t' cs,?_,(hG (fun _ _=>True) fun _ _=>trivial).1,m1,[],by rw[d1];simp,fun{hw fl own} hsub hp hk hs' hle T fl2 own2 hT hE=>⟨cs,by simp[mkV,hag],?_⟩⟩
       rotate_left
       ·have hF':=dF.change (H:=H) (GAgree.same (g:=g) (g':={ g with fl:=fl,own:=own }) rfl rfl rfl) hle (fun i=>hs.refF b i) h4;have hkk:pbO os (aH t')=false→∀ k r,(os.take (aH t'))[k]? = some true→iE (H (.fld b (0+k))) r→HLoc.row r ∉ au hw:=fun hpb k r g1 g2=>hk _ (by
         rw[hpb];simp only[cond_false];rcases d2' k g1 with⟨r',e1,e2⟩|e1
         ·obtain rfl:=e1.inj g2;rw[d1];exact mem_map.2 ⟨_,e2,rfl⟩
         ·exact(g2.nil e1).elim)
        exact((hG T fun p hp=>hT p hp).2 hsub hp hkk hs' hF').relab hE.rel
       show((do loadVar tid (←asAddr (a.tmps.getD c undef))):Sem Value).run P w=_;rw[hv];have:=jD (w:=w) (b:=g.st b) (o:=0) (hTab.tys ht).w (hlen.trans hus.symm) (fun j v hj=>by rw[hblk.cell,zero_add];exact hj);rw[show mkV t' cs=mkV u cs by unfold mkV;rw[hag,hua]];simpa[asAddr] using this
     ·exact(ae h).elim
   ·exact(ae h).elim
  | _=>exact(ae h).elim
theorem SS {P:Program} {tab:Tab} (hTab:TabOk P tab) {s:St} (hS:s.S=S) (hs:SimG C g S H a w) {ps:List PS} {vs:List Value} {kR:Rd ((dX ps).den×HW×List HLoc×List HLoc)} {Q:(dX ps).den→HW→List HLoc→List HLoc→Prop}
  (hk:∀ {x:(dX ps).den} {pubs:HW} {drops keeps:List HLoc} {fp fp':List HLoc},kR.run H fp=some ((x,pubs,drops,keeps),fp')→Q x pubs drops keeps):∀ {rs:List RS} {vars:List ResultVar} {i:Nat} {x:(iD rs ps).den} {pubs:HW} {drops keeps:List HLoc} {fp fp':List HLoc},
  (outs tab s ps rs vars kR).run H fp=some ((x,pubs,drops,keeps),fp')→∃ vals z pubs1 pubs2 drops1 drops2 keeps1 keeps2,Em P a w vars vals∧Q z pubs2 drops2 keeps2∧pubs=pubs1++pubs2∧drops=drops1++drops2∧keeps=keeps1++keeps2∧bC H pubs1∧
   ∃ (m:List (Own×Own)) (fz:List Nat),(∀ l,l∈drops1↔(∃ p∈m,l=dK p.1)∨∃ n∈fz,l=.site n)∧(drops1.Nodup→(m.map fun p=>dK p.1).Nodup∧∀ p∈m,∀ n∈fz,dK p.1≠HLoc.site n)∧
   ∀ {hw:HW} {fl:Nat→Nat} {own:Nat→Option Own},(∀ y∈pubs1,y∈hw)→bC H hw→(∀ l∈keeps1,l ∉ au hw)→SimG C { g with fl:=fl,own:=own } S (puts H hw) a w→(view g.fl w).le (view fl w)→
   ∀ {T:Own→Own→Prop} {fl2:Nat→Nat} {own2:Nat→Option Own} {K:(dX ps).den→Prop},(∀ p∈m,T p.1 p.2)→EndOk T fl fl2 own own2 w fz→K z→nH Eq fl2 own2 w i rs ps vals x K
 | [],[],i,x,pubs,drops,keeps,fp,fp',h=>⟨[],x,[],pubs,[],drops,[],keeps,rfl,hk h,rfl,rfl,rfl,trivial,[],[],fun l=>by simp,fun _=>by simp,fun _ _ _ _ _ _ _ _ _ _ _ hK=>⟨rfl,hK⟩⟩
 | [],v::vars,i,x,pubs,drops,keeps,fp,fp',h=>(ae h).elim
 | r::rs,[],i,x,pubs,drops,keeps,fp,fp',h=>(ae h).elim
 | r::rs,v::vars,i,x,pubs,drops,keeps,fp,fp',h=>by
  obtain⟨⟨y,pu1,dr1,ke1⟩,fp2,k2,h⟩:=ah (show((xg tab s r v).bind _).run H fp=_ from h);obtain⟨⟨z,pu2,dr2,ke2⟩,fp3,k3,h⟩:=ah h;obtain⟨e,_⟩:=af h;cases e;obtain⟨val,hval,p1,m1,fz1,e1,q1⟩:=zcv hTab hS hs k2 (1+20*i);obtain⟨vals,zz,a1,a2,b1,b2,c1,c2,hvals,hQ,e2,e3,e4,p2,m2,fz2,d1,d2,q2⟩:=SS hTab hS hs (vs:=vs) hk (i:=i+1) k3;refine⟨val::vals,zz,pu1++a1,a2,dr1++b1,b2,ke1++c1,c2,⟨hval,hvals⟩,hQ,by rw[e2,List.append_assoc],by rw[e3,List.append_assoc],by rw[e4,List.append_assoc],bC.append.2 ⟨p1,p2⟩,m1++m2,fz1++fz2,fun l=> ?_,fun hnd=> ?_,fun{hw fl own} hsub hp hke hs' hle T fl2 own2 K hT hE hK=>⟨?_,?_⟩⟩
  ·rw[mem_append,e1,mem_append,d1 l];simp only[mem_map,mem_append];constructor
   ·rintro((⟨p,h1,rfl⟩|⟨n,h1,rfl⟩)|⟨p,h1,rfl⟩|⟨n,h1,rfl⟩)
    ·exact .inl ⟨p,.inl h1,rfl⟩
    ·exact .inr ⟨n,.inl h1,rfl⟩
    ·exact .inl ⟨p,.inr h1,rfl⟩
    ·exact .inr ⟨n,.inr h1,rfl⟩
   ·rintro(⟨p,h1|h1,rfl⟩|⟨n,h1|h1,rfl⟩)
    ·exact .inl (.inl ⟨p,h1,rfl⟩)
    ·exact .inr (.inl ⟨p,h1,rfl⟩)
    ·exact .inl (.inr ⟨n,h1,rfl⟩)
    ·exact .inr (.inr ⟨n,h1,rfl⟩)
  ·obtain⟨n1,n2,n3⟩:=nodup_append.1 hnd;obtain⟨r1,r2⟩:=d2 n2;rw[e1] at n1;obtain⟨s1,s2,s3⟩:=nodup_append.1 n1;have in1:∀ p∈m1,dK p.1∈dr1:=fun p hp=>by rw[e1];exact mem_append_left _ (mem_map.2 ⟨p,hp,rfl⟩)
   have in2:∀ n∈fz1,HLoc.site n∈dr1:=fun p hp=>by rw[e1];exact mem_append_right _ (mem_map.2 ⟨p,hp,rfl⟩)
   have in3:∀ p∈m2,dK p.1∈b1:=fun p hp=>(d1 _).2 (.inl ⟨p,hp,rfl⟩);have in4:∀ n∈fz2,HLoc.site n∈b1:=fun n hn=>(d1 _).2 (.inr ⟨n,hn,rfl⟩);refine⟨?_,fun p hp n hn=> ?_⟩
   ·rw[List.map_append,nodup_append];refine⟨s1,r1,fun u hu v hv=> ?_⟩;obtain⟨p,hp,rfl⟩:=mem_map.1 hu;obtain⟨q,hq,rfl⟩:=mem_map.1 hv;exact n3 _ (in1 p hp) _ (in3 q hq)
   ·rcases mem_append.1 hp with hp|hp<;>rcases mem_append.1 hn with hn|hn
    ·exact s3 _ (mem_map.2 ⟨p,hp,rfl⟩) _ (mem_map.2 ⟨n,hn,rfl⟩)
    ·exact n3 _ (in1 p hp) _ (in4 n hn)
    ·exact fun e=>n3 _ (in2 n hn) _ (in3 p hp) e.symm
    ·exact r2 p hp n hn
  ·exact q1 (fun y hy=>hsub y (mem_append_left _ hy)) hp (fun l hl=>hke l (mem_append_left _ hl)) hs' hle (fun p hp=>hT p (mem_append_left _ hp)) ⟨hE.rel,fun n hn=>hE.fz n (mem_append_left _ hn)⟩
  ·exact q2 (fun y hy=>hsub y (mem_append_right _ hy)) hp (fun l hl=>hke l (mem_append_right _ hl)) hs' hle (fun p hp=>hT p (mem_append_right _ hp)) ⟨hE.rel,fun n hn=>hE.fz n (mem_append_right _ hn)⟩ hK
end
theorem mP {T:Own→Own→Prop} {fl:Nat→Nat} {own:Nat→Option Own} {w:World}:∀ {ps:List PS} {i:Nat} {vs:List Value} {x:(bK ps).den},jA T fl own w i ps vs x→vs.length=ps.length
 | [],_,_,_,h=>by rw[show _=[] from h];rfl
 | .pure _::r,_,[],_,h=>h.elim
 | .obj _ _::r,_,[],_,h=>h.elim
 | .nilp::r,_,[],_,h=>h.elim
 | .fnc _ _::r,_,[],_,h=>h.elim
 | .box::r,_,[],_,h=>h.elim
 | .row _::r,_,[],_,h=>h.elim
 | .lent _::r,_,[],_,h=>h.elim
 | .rptr _::r,_,[],_,h=>h.elim
 | .rptr _::r,_,v::vs,_,⟨_,h⟩=>by simp[mP h]
 | .agg _ _::r,_,[],_,h=>h.elim
 | .agg _ _::r,_,v::vs,_,⟨_,h⟩=>by simp[mP h]
 | .lent _::r,_,v::vs,_,⟨_,h⟩=>by simp[mP h]
 | .pure _::r,_,v::vs,_,⟨_,h⟩=>by simp[mP h]
 | .obj _ _::r,_,v::vs,_,⟨_,h⟩=>by simp[mP h]
 | .nilp::r,_,v::vs,_,⟨_,h⟩=>by simp[mP h]
 | .fnc _ _::r,_,v::vs,_,⟨_,h⟩=>by simp[mP h]
 | .box::r,_,v::vs,_,⟨_,h⟩=>by simp[mP h]
 | .row _::r,_,v::vs,_,⟨_,h⟩=>by simp[mP h]
def wJ:Nat→List PS→Nat
 | _,[]=>0
 | 0,p::r=>wJ (nT p) r+1
 | c+1,_::r=>wJ c r
theorem Js:∀ {ps:List PS} {c:Nat} {vs:List Value},(unf c ps vs).length≤wJ c ps
 | [],c,vs=>by cases c<;>simp[unf]
 | p::r,0,[]=>by simp[unf]
 | p::r,0,v::vs=>by simp only[unf,wJ,length_cons];exact Nat.succ_le_succ Js
 | p::r,c+1,[]=>by simp[unf]
 | p::r,c+1,v::vs=>Js (ps:=r)
theorem za0 {P:Program} {w:World} {fn:Func} {a:Act} {vals:List Value} (h:Em P a w fn.results.toList vals):(Go.results fn a.tmps).run P w=.ok (oQ vals) w:=by
 have hm:∀ {q:ResultVar→Sem Value} (_:∀ t,q (.tmp t)=pure (a.tmps.getD t undef)) (_:∀ c t,q (.cell c t)=do loadVar t (←asAddr (a.tmps.getD c undef))) {l:List ResultVar} {vals:List Value},Em P a w l vals→(l.mapM q).run P w=.ok vals w:=by
  intro q hq hq2 l;induction l with
  | nil=>intro vals h;rw[show vals=[] from h];rfl
  | cons r l ih=>
   intro vals h;cases vals with
   | nil=>exact h.elim
   | cons v vals=>
    obtain⟨h1,h2⟩:=h;cases r with
    | tmp t=>simp only[List.mapM_cons,Sem.run_bind,hq,Sem.run_pure,Result.andThen_ok,ih h2];rw[show v=_ from h1]
    | cell c t=>
     have h1:(q (.cell c t)).run P w=.ok v w:=by rw[hq2];exact h1
     rw[List.mapM_cons,Sem.run_bind,h1,Result.andThen_ok,Sem.run_bind,ih h2];rfl
 have e:∀ {l:List Value},(if h:l.toArray.size=1 then l.toArray[0] else Value.tuple l.toArray)=oQ l:=by
  intro l
  match l with
  | []=>rfl
  | [v]=>rfl
  | u::v::l=>simp[oQ]
 unfold Go.results;rw[Array.mapM_eq_mapM_toList];simp only[Sem.run_bind,Sem.run_map];rw[hm (fun t=>rfl) (fun c t=>rfl) h];simp only[Result.andThen_ok,Sem.run_pure,e]
theorem cell_lt {w:World} {b o:Nat} {v:Value} (h:w.cell? ⟨b,o,none⟩=some v):o<cellsOf w b:=by
 unfold cellsOf;simp only[World.cell?] at h;split
 ·rename_i c el fz hb;rw[hb] at h;simp at h;exact(Array.getElem?_eq_some_iff.1 h).1
 ·rename_i hb;cases hx:w.heap[b]? with
  | none=>rw[hx] at h;simp at h
  | some y=>
   rw[hx] at h;cases y with
   | cells c el fz=>exact absurd hx (hb c el fz)
   | _=>simp at h
def Ak (ps:List PS) (vs:List Value) (d i:Nat):Option Value:=
 if d=999 then
  match (ps[i]?).bind uM with
  | some _=>vs[i]?
  | none=>none
 else none
theorem Qp {ps:List PS} {vs:List Value} {d i:Nat} {v:Value} (h:Ak ps vs d i=some v):d=999∧∃ p t,ps[i]? = some p∧uM p=some t∧vs[i]? = some v:=by
 unfold Ak at h;split at h
 ·rename_i hd;split at h
  ·rename_i t hp;obtain⟨p,h1,h2⟩:=Option.bind_eq_some_iff.1 hp;exact⟨hd,p,t,h1,h2,h⟩
  ·simp at h
 ·simp at h
theorem JP {P:Program} {E:Env} {f:FuncId} {fn:Func} {ps:List PS} {rs:List RS} {F:(bK ps).den→Option (iD rs ps).den} (hTab:TabOk P E.tab) (hΓ:∀ f sg,sg∈E.Γ f→FOk P f sg) (hm:P.follows .mixedOrders=true)
  (h1 : P.funcs[f]? = some fn) (hnt : beq E.nt fn.ntmps = true) (hname : (fn.name == "runtime.NumGoroutine") = false) (hbody : fn.body.isNone = false) (hps : lQ 0 ps = true) (hpl : ble ps.length 900 = true) (hsl : ble (wJ 0 ps) fn.ntmps = true) (hrs : ble rs.length 4 = true)
  (hF:∀ x y,F x=some y→uP E fn ps rs x=some y):FOk P f ⟨ps,rs,F⟩:=by
 refine⟨le_of_ble_eq_true hrs,⟨fn,h1,hbody,hname⟩,?_⟩;intro w fl own vs x y hown hargs hy;have hA:=hF x y hy;unfold uP at hA;split at hA
 ·simp at hA
 rename_i c hc;have hnt:=eq_of_beq_eq_true hnt;have hlen:=mP hargs;refine calls_of_wp h1 hc ?_;have hsz:(unf 0 ps vs).toArray.size≤fn.ntmps:=le_trans (by simpa using Js) (le_of_ble_eq_true hsl);generalize hact:({ tmps:=(unf 0 ps vs).toArray++Array.replicate (fn.ntmps-(unf 0 ps vs).toArray.size) undef,defers:=[] }:Act)=act;have hasz:act.tmps.size=E.nt:=by rw[←hact,hnt];simp at hsz ⊢;omega
 have hslot:∀ k v,(unf 0 ps vs)[k]? = some v→act.tmps.getD (0+k) undef=v:=fun k v hk=>by rw[zero_add,←hact];have hk':=(List.getElem?_eq_some_iff.1 hk).1;rw[Array.getD_eq_getD_getElem?,Array.getElem?_append_left (by simpa using hk')];simp[hk]
 let C0:Ctx:={ w0:=w,fl0:=fl,M:=fun b=>own b≠none }
 let g0:Gh:={ fl:=fl,own:=own,st:=fun _=>0,hd:=fun _=>undef,cv:=fun _ _=>undef,lv:=Ar C0 }
 have hs0:SimG C0 g0 St.empty.S St.empty.H act w:=
  { defers:=by rw[←hact],slots:=fun _=>trivial,comps:=fun _ _=>trivial,sites:=fun n t h=>(by cases h),rows:=fun r p e l h=>(by cases h),deeps:=fun _ _ _ _ _ h=>(by cases h),refR:=fun _=>trivial,refS:=fun _=>trivial,refC:=fun _ _=>trivial,refF:=fun _ _=>trivial,
    own:=fun b hb=>⟨hown b hb,.inr hb⟩,old:=fun _ _ _=>rfl,ext:=⟨rfl,rfl,rfl,le_refl _,fun _ _ _=>rfl⟩,iv:=IV.le.refl _,lv:=rfl,pin:=fun d i v h=>(by cases h),low:=fun n h=>absurd h (Nat.not_lt_zero n) }
 obtain⟨g1,hI⟩:=zbK (a:=act) (sl:=0) (x:=x) hps hs0 hargs hslot (by rw[zero_add];exact le_of_ble_eq_true hpl) (fun _ _=>rfl) (fun _ _=>⟨rfl,fun _=>rfl⟩) (fun _ _ _ _=>rfl) (fun h=>absurd rfl h) (fun _ _=>rfl) (Jk (IV.le.refl _) fun b hb=>by
   cases ho:own b with
   | none=>exact absurd ho hb
   | some o=>exact⟨o,o,ho,rfl⟩)
 generalize hst:ik St.empty 0 0 0 0 0 ps x=s0 at hA hI;let C1:Ctx:={ w0:=w,fl0:=fl,M:=fun b=>own b≠none,pin:=Ak ps vs,lo:=E.lo,p0:=fun n=>act.tmps.getD n undef }
 have hs1:SimG C1 g1 s0.S s0.H act w:=by
  have h:=hI.sim
  exact{ defers:=h.defers,slots:=h.slots,comps:=h.comps,sites:=h.sites,rows:=h.rows,deeps:=h.deeps,refR:=h.refR,refS:=h.refS,refC:=h.refC,refF:=h.refF,own:=h.own,old:=h.old,ext:=h.ext,iv:=h.iv,lv:=h.lv,
          pin:=fun d i v hp=>by obtain⟨rfl,p,t,p1,p0,p2⟩:=Qp hp;obtain⟨_,q2,q3,_⟩:=hI.pins i p t v p1 p0 p2;rw[zero_add] at q2 q3;exact⟨by rw[q2];exact SV.noConfusion,q3⟩,
          low:=fun n _=>rfl }
 have hlk:LkC C1 s0:=by
  refine⟨⟨fun n hn=> ?_,fun l hl=> ?_⟩,fun d i v hp=> ?_⟩
  ·rw[hI.lkS] at hn;exact absurd hn (by simp[St.empty])
  ·rcases hI.lkH l hl with hl|⟨k,rfl,q1,q2⟩|⟨n,t,rfl,q1⟩
   ·exact absurd hl (by simp[St.empty])
   ·rw[q1];exact Rj.2 q2
   ·rw[q1];rfl
  ·obtain⟨rfl,p,t,p1,p0,p2⟩:=Qp hp;have:=(hI.pins i p t v p1 p0 p2).1;rwa[zero_add] at this
 refine zb7 hTab (zdJ (tab:=E.tab) hΓ) hm c hA ⟨⟨hasz,le_refl _⟩,g1,hs1⟩ hlk fun e a' w' s' hs' hkeep hk=> ?_;obtain⟨_,g,hs'⟩:=hs';have main:finish E.tab E.lo fn ps rs s'=some y→a'.defers=[]∧∃ v,(Go.results fn a'.tmps).run P w'=.ok v w'∧(fun e w'=>∃ rv fl' own',e=Ending.returned (oQ rv)∧Ext w (fun b=>own b≠none) w'∧(∀ b,b<w.heap.size→own b=none→fl' b=fl b)∧(view fl w).le (view fl' w')∧
   (∀ b,own' b≠none→b<w'.heap.size∧(w.heap.size≤b∨own b≠none))∧nH Eq fl' own' w' 0 rs ps rv y fun z=>iK Eq fl' own' w' 0 ps vs z) (.returned v) w':=by
  intro hfin;unfold finish at hfin;rw[Rd.runC_eq] at hfin;obtain⟨⟨⟨y',pubs,drops,keeps⟩,fp⟩,h2,h3⟩:=Option.bind_eq_some_iff.1 hfin;simp only[force_eq] at h3;cases hb:cond (mY drops) (jJ keeps (au pubs)) false with
  | false=>rw[hb] at h3;simp at h3
  | true=>
   rw[hb] at h3;simp only[cond,Option.some.injEq] at h3;subst h3;obtain⟨b1,b2⟩:=az hb;have hnd:=yB b1;have hpt:∀ (k:Nat) (p:PS) (t:Ty) (v:Value),ps[k]? = some p→uM p=some t→vs[k]? = some v→v=pointer (some ⟨g.st (0+k),0,none⟩):=fun k p t v p1 p0 p2=>by obtain⟨q1,q2,_,_⟩:=hI.pins k p t v p1 p0 p2;rw[zero_add] at q1 q2 ⊢;have e1:s'.H (.comp 999 k)=.adr k 0:=(hkeep.H _ q1).trans q2;have e2:=hs'.comps 999 k;rw[e1] at e2;have e3:=(hs'.pin 999 k v (by show Ak ps vs 999 k=some v;simp only[Ak,if_true,p1,bind_some,p0,p2])).2;rw[←e3];exact e2
   have hz0:∀ q v,(cond (ble 1 E.lo) (s'.S 0) .bot:SV)=.hdr q→(0:Nat)=0→vs[0]? = some v→v=g.hd q:=fun q v hq _ hv=>by
    cases hlo:ble 1 E.lo with
    | false=>rw[hlo] at hq;cases hq
    | true=>
     rw[hlo] at hq;have hq:s'.S 0=.hdr q:=hq;have h1:=hs'.slots 0;rw[hq] at h1;have h2:=hs'.low 0 (le_of_ble_eq_true hlo);have h3:(unf 0 ps vs)[0]? = some v:=by
      cases vs with
      | nil=>simp at hv
      | cons u us=>
       cases ps with
       | nil=>simp at hlen
       | cons p ps=>simpa[unf] using hv
     have h4:=hslot 0 v h3;rw[zero_add] at h4;have h5:a'.tmps.getD 0 undef=g.hd q:=h1;rw[←h4,←h5];exact h2.symm
   obtain⟨vals,z,pu1,pu2,dr1,dr2,ke1,ke2,hvars,⟨r1,m2,r3,r4⟩,e1,e2,e3,p1,m1,fz,d1,d2,q1⟩:=SS (s:=s') (vs:=vs) hTab rfl hs' (fun h=>Zj hs' (j:=0) h hlen hpt hz0) (i:=0) h2;obtain⟨fl1,own1,hs2,hle⟩:=hs'.pubs (hw:=pubs) (by rw[e1];exact bC.append.2 ⟨p1,r1⟩);have hPubs:bC s'.H pubs:=by rw[e1];exact bC.append.2 ⟨p1,r1⟩
   rw[e2] at hnd;obtain⟨n1,n2,n3⟩:=nodup_append.1 hnd;obtain⟨d3,d4⟩:=d2 n1;rw[r3] at n2 n3;have hmN:((m1++m2).map fun p=>p.1).Nodup:=by apply IE;rw[List.map_append,nodup_append];refine⟨d3,n2,fun u hu v hv=> ?_⟩;obtain⟨p,hp,rfl⟩:=mem_map.1 hu;exact n3 _ ((d1 _).2 (.inl ⟨p,hp,rfl⟩)) _ hv
   have hmz:∀ p∈m1++m2,∀ n∈fz,p.1≠Own.site n:=fun p hp n hn e=>by
    rcases mem_append.1 hp with hp|hp
    ·exact d4 p hp n hn (by rw[e];rfl)
    ·exact n3 _ ((d1 _).2 (.inr ⟨n,hn,rfl⟩)) (dK p.1) (mem_map.2 ⟨p,hp,rfl⟩) (by rw[e];rfl)
   let fl2:Nat→Nat:=open Classical in fun b=>if ∃ n∈fz,own1 b=some (.site n) then cellsOf w' b else fl1 b
   let own2:Nat→Option Own:=fun b=>(own1 b).bind (lookO (m1++m2) fun _=>none);have hE:EndOk (fun o t=>(o,t)∈m1++m2) fl1 fl2 own1 own2 w' fz:=by
    refine⟨⟨fun b o v hv=> ?_,fun o t ht=>⟨t,rfl,fun b hb=>⟨?_,?_⟩⟩⟩,fun n hn b cs hb hblk=> ?_⟩
    ·rw[Ip] at hv ⊢;refine⟨?_,hv.2⟩;by_cases hz:∃ n∈fz,own1 b=some (.site n)
     ·simp only[fl2,if_pos hz];exact cell_lt hv.2
     ·simp only[fl2,if_neg hz];exact hv.1
    ·simp only[own2,hb,bind_some];exact Ci hmN (o,t) ht
    ·have hz:¬ ∃ n∈fz,own1 b=some (.site n):=by
      rintro⟨n,hn,hb'⟩;rw[hb] at hb';exact hmz _ ht n hn (Option.some.inj hb')
     simp only[fl2,if_neg hz]
    ·have hz:∃ n∈fz,own1 b=some (.site n):=⟨n,hn,hb⟩
     simp only[fl2,if_pos hz];obtain⟨el,fz',hh,_⟩:=hblk;simp[cellsOf,hh]
   have hown1:∀ b,own1 b≠none→b<w'.heap.size∧(w.heap.size≤b∨own b≠none):=fun b hb=>hs2.own b hb;refine⟨hs'.defers,_,za0 hvars,vals,fl2,own2,rfl,hs2.ext,fun b hb hn=> ?_,hs2.iv.trans hE.rel.le,fun b hb=> ?_,?_⟩
   ·have h0:own1 b=none:=by
     cases ho:own1 b with
     | none=>rfl
     | some o=>
      rcases(hown1 b (by rw[ho];simp)).2 with h|h
      ·omega
      ·exact absurd hn h
    have hz:¬ ∃ n∈fz,own1 b=some (.site n):=by rintro⟨n,_,h⟩;rw[h0] at h;cases h
    simp only[fl2,if_neg hz];exact hs2.old b hb (fun h=>h hn)
   ·refine hown1 b fun h=>hb ?_;simp only[own2,h];rfl
   ·refine q1 (hw:=pubs) (fun y hy=>by rw[e1];exact mem_append_left _ hy) hPubs (fun l hl=>qX b2 l (by rw[e3];exact mem_append_left _ hl)) hs2 hle (T:=fun o t=>(o,t)∈m1++m2) (fun p hp=>mem_append_left _ hp) hE ?_;exact r4 (hw:=pubs) (fun y hy=>by rw[e1];exact mem_append_right _ hy) hPubs (fun l hl=>qX b2 l (by rw[e3];exact mem_append_right _ hl)) hs2 hle (T:=fun o t=>(o,t)∈m1++m2) (fun p hp=>mem_append_right _ hp) hE.rel
 cases e with
 | normal=>exact main hk
 | ret=>exact main hk
 | _=>exact absurd hk (by simp)
theorem dQ.flat {iv iv':IV} {Q Q':(u:Ty)→Value→List u.den→Prop}:∀ {t:Ty} {p:Nat×Ty} {cs:List Value} {x:t.den},slF t=some p→(∀ v y,Q p.2 v y→Q' p.2 v y)→dQ iv Q t cs x→dQ iv' Q' t cs x:=by
 intro t;induction t with
 | slice e=>intro p cs x hp hq h;cases hp;obtain⟨v,h1,h2,h3⟩:=h;exact⟨v,h1,h2,hq _ _ h3⟩
 | pair a b ha hb=>
  rintro p cs x hp hq ⟨c1,c2,h1,h2,h3⟩;simp only[slF] at hp;have fl:∀ {t:Ty} {cs:List Value} {x:t.den},bu t=true→dQ iv Q t cs x→dQ iv' Q' t cs x:=by
   intro t;induction t with
   | slice e _=>intro cs x h;exact noConfusion h
   | pair a b ha hb=>rintro cs x h ⟨c1,c2,h1,h2,h3⟩;obtain⟨f1,f2⟩:=az h;exact⟨c1,c2,h1,ha f1 h2,hb f2 h3⟩
   | tree k v _ _=>intro cs x h;exact noConfusion h
   | ptr e _=>intro cs x h;exact noConfusion h
   | _=>intro cs x _ h;exact h
  split at hp
  ·rename_i q hqa;cases hf:bu b with
   | false=>rw[hf] at hp;cases hp
   | true=>rw[hf] at hp;cases hp;exact⟨c1,c2,h1,ha hqa hq h2,fl hf h3⟩
  ·cases hf:bu a with
   | false=>rw[hf] at hp;cases hp
   | true=>
    rw[hf] at hp;simp only[cond_true] at hp;cases hqb:slF b with
    | none=>rw[hqb] at hp;cases hp
    | some q=>rw[hqb] at hp;cases hp;exact⟨c1,c2,h1,fl hf h2,hb hqb hq h3⟩
 | _=>intro p cs x hp;cases hp
section
variable {T:Own→Own→Prop} {fl fl2:Nat→Nat} {own:Nat→Option Own} {w:World} (hf:∀ b,own b≠none→fl2 b=fl b)
include hf
theorem gI.flat {v:Value} {o:Own} {e:Ty} {l:List e.den} {bo:Option Nat} (he:bu e=true) (h:gI fl own w v o e l bo):gI fl2 own w v o e l bo:=by
 rcases h with h|⟨b,cap,cs,h1,h2,h3,h4,h5,h6,h7,h8⟩
 ·exact .inl h
 ·exact .inr ⟨b,cap,cs,h1,h2,h3,h4,h5,(hf b (by rw[h5];simp)).trans h6,fun i x hx=>let ⟨c,q1,q2⟩:=h7 i x hx;⟨c,q1,q2.flat he⟩,h8⟩
theorem rY.flat {v:Value} {t:Own} {e:Ty} {p:Nat×Ty} {l:List e.den} (hp:slF e=some p) (he:bu p.2=true) (h:rY T fl own w v t e l):rY T fl2 own w v t e l:=by
 rcases h with h|⟨o,ho,h1,h2,h⟩
 ·exact .inl h
 ·refine .inr ⟨o,ho,h1,h2,?_⟩;rcases h with h|⟨b,cap,cs,bs,k1,k2,k3,k4,k5,k6,k7,k8,k9⟩
  ·exact .inl h
  ·refine .inr ⟨b,cap,cs,bs,k1,k2,k3,k4,k5,(hf b (by rw[k5];simp)).trans k6,fun i c hc=>⟨(k7 i c hc).1,(k7 i c hc).2.1,(hf c (by rw[(k7 i c hc).2.1];simp)).trans (k7 i c hc).2.2⟩,k8,fun i x hx=> ?_⟩;obtain⟨c,c1,c2⟩:=k9 i x hx;refine⟨c,c1,c2.flat hp fun v y hq=> ?_⟩;rcases hq with hq|⟨q1,q2,q3⟩|⟨_,q2,_⟩
   ·exact .inl hq
   ·exact .inr (.inl ⟨q1,q2,gI.flat hf he q3⟩)
   ·exact absurd (List.getElem?_eq_some_iff.1 hx).1 (by omega)
end
def KZ (dp:Bool) (e:Ty):Bool:=cond (dpF dp e) (match slF e with|some p=>bu p.2|none=>false) (bu e)
def zfb (dp:Bool):Ty→Bool
 | .slice e=>KZ dp e
 | _=>false
def KY:List Bool→Ty→Bool
 | os,.pair a b=>cond (cond (hdB os) (zfb (dpO os (aH b+1)) a) (bu a)) (KY (tlB os) b) false
 | _,_=>true
def TW:RS→Bool
 | .pure t=>bu t
 | .own _ e=>bu e
 | .deep e=>match slF e with|some p=>bu p.2|none=>false
 | .agg t os=>KY os t
 | _=>false
theorem jy.free {T:Own→Own→Prop} {fl fl2:Nat→Nat} {own:Nat→Option Own} {w:World} (hf:∀ b,own b≠none→fl2 b=fl b) {rid:Nat}:∀ {t:Ty} {os:List Bool} {cs:List Value} {x:t.den} {i:Nat},KY os t=true→jy T fl own w rid os t cs x i→jy T fl2 own w rid os t cs x i:=by
 intro t;induction t with
 | pair A B _ hB=>
  rintro os cs x i h ⟨c1,c2,h1,h2,h3⟩;obtain⟨f1,f2⟩:=az h;refine⟨c1,c2,h1,?_,hB f2 h3⟩;cases hb:hdB os with
  | false=>
   rw[hb] at h2 f1;have h2:aJ (view fl w) A c1 x.1:=by cases A<;>exact h2
   have:=h2.flat (iv':=view fl2 w) f1;cases A<;>exact this
  | true=>
   rw[hb] at h2 f1;cases A<;>first|exact h2.elim|exact noConfusion f1|skip
   rename_i e _;obtain⟨v,q1,q2⟩:=h2;refine⟨v,q1,?_⟩;have f1:KZ (dpO os (aH B+1)) e=true:=f1;unfold KZ at f1;unfold jZ at q2 ⊢;cases hd:dpF (dpO os (aH B+1)) e with
   | false=>rw[hd] at f1 q2;exact lU.flat hf f1 q2
   | true=>
    rw[hd] at f1 q2;cases hs:slF e with
    | none=>rw[hs] at f1;exact noConfusion f1
    | some p=>rw[hs] at f1;exact rY.flat hf hs f1 q2
 | unit=>intro os cs x i _ h;exact h
 | _=>intro os cs x i _ h;exact h.elim
theorem pz.free {T:Own→Own→Prop} {fl fl2:Nat→Nat} {own:Nat→Option Own} {w:World} (hf:∀ b,own b≠none→fl2 b=fl b) {base:Nat} {r:RS} {v:Value} {x:r.ty.den} (hr:TW r=true) (h:pz T fl own w base r v x):pz T fl2 own w base r v x:=by
 cases r with
 | pure t=>obtain⟨cs,h1,h2⟩:=h;exact⟨cs,h1.flat hr,h2⟩
 | own pub e=>exact lU.flat hf hr h
 | deep e=>
  have hr:(match slF e with|some p=>bu p.2|none=>false)=true:=hr;cases hs:slF e with
  | none=>rw[hs] at hr;exact noConfusion hr
  | some p=>rw[hs] at hr;exact rY.flat hf hs hr h
 | agg t os=>obtain⟨cs,h1,h2⟩:=h;exact⟨cs,h1,h2.free hf hr⟩
 | _=>exact noConfusion hr
theorem FOk.lend1 {P:Program} {f:FuncId} {t:Ty} {r:RS} {F:(bK [.pure t]).den→Option (iD [r] [.pure t]).den} (h:FOk P f ⟨[.pure t],[r],F⟩) (hr:TW r=true):FOk P f ⟨[.lent t],[r],F⟩ where
 few:=h.few
 code:=h.code
 call:=by
  intro w fl own vs x y hlt ha hy
  match vs,ha with
  | v::vs,⟨h1,h2⟩=>
  have h2:vs=[]:=h2;subst h2
  classical
  have hv:bM (view (fun b=>if own b=none then cellsOf w b else fl b) w) t v x.1:=h1.mono fun b o u hu=>by
   unfold lvU at hu;split at hu
   ·rename_i hm;obtain⟨o',t',hm,_⟩:=hm;obtain⟨q1,q2⟩:=Ip.1 hu;exact Ip.2 ⟨by rw[if_neg (by rw[hm];simp)];exact q1,q2⟩
   ·rename_i hm;have hn:own b=none:=by
     cases ho:own b with
     | none=>rfl
     | some o'=>exact absurd ⟨o',o',ho,rfl⟩ hm
    exact Ip.2 ⟨by rw[if_pos hn];exact cell_lt hu,hu⟩
  refine Calls.mono (h.call (fl:=fun b=>if own b=none then cellsOf w b else fl b) (own:=own) (vs:=[v]) (x:=x) hlt ⟨hv,rfl⟩ hy) ?_;rintro e w' ⟨rs,fl',own',rfl,hext,hfl,hle,hown',hres⟩;refine⟨rs,fun b=>if b<w.heap.size∧own b=none then fl b else fl' b,own',rfl,hext,fun b h1 h2=>if_pos ⟨h1,h2⟩,?_,hown',?_⟩
  ·intro k o v hv;obtain⟨hlt',hc⟩:=Ip.1 hv;have hk:k<w.heap.size:=World.block_lt_of_cell? (a:=⟨k,o,none⟩) w hc;by_cases hn:own k=none
   ·refine Ip.2 ⟨?_,(World.cell?_of_block (a:=⟨k,o,none⟩) (hext.block k hk (by rw[hn];simp))).trans hc⟩;show o<(if k<w.heap.size∧own k=none then fl k else fl' k);rw[if_pos ⟨hk,hn⟩];exact hlt'
   ·obtain⟨h1,h2⟩:=Ip.1 (hle k o v (Ip.2 ⟨by rw[if_neg hn];exact hlt',hc⟩));refine Ip.2 ⟨?_,h2⟩;show o<(if k<w.heap.size∧own k=none then fl k else fl' k);rw[if_neg fun h=>hn h.2];exact h1
  ·have hf:∀ b,own' b≠none→(if b<w.heap.size∧own b=none then fl b else fl' b)=fl' b:=fun b hb=>if_neg fun h=>by
    rcases(hown' b hb).2 with h1|h1
    ·omega
    ·exact h1 h.2
   match rs,hres with
   | v1::rs,⟨q1,q2⟩=>exact⟨q1.free hf hr,q2.1,trivial⟩
end Go.Sx
namespace Go.Sx
open Go.ChangeShapes Go.WideShapes Go.RowKit
def Fit:(t:Ty)→t.den→Prop
 | .int k,x=>k.min≤(x:Int)∧(x:Int)≤k.max
 | .u8,_=>True
 | .bool,_=>True
 | .str,x=>(x:List UInt8).length≤Go.maxLen
 | .unit,_=>True
 | .pair a b,x=>Fit a x.1∧Fit b x.2
 | .slice e,l=>(l:List e.den).length≤Go.maxLen∧∀ x∈(l:List e.den),Fit e x
 | .tree _ _,_=>False
 | .ptr _,_=>False
def DR {H:Type}:(t:Ty)→DataW H→t.den→Prop
 | .int k,d,x=>d=.lit (.int k x)
 | .u8,d,x=>d=.lit (.int .u8 (UInt8.toNat x:Nat))
 | .bool,d,x=>d=.lit (.bool x)
 | .str,d,x=>d=.lit (.string x)
 | .unit,d,_=>d=.agg []
 | .pair a b,d,x=>∃ d1 ds,d=.agg (d1::ds)∧DR a d1 x.1∧DR b (.agg ds) x.2
 | .slice e,d,l=>(d=.nil∧l=[])∨∃ elems spare,d=.slice elems spare∧elems.length=(l:List e.den).length∧∀ (i:Nat) (y:DataW H) (x:e.den),elems[i]? = some y→(l:List e.den)[i]? = some x→DR e y x
 | .tree _ _,_,_=>False
 | .ptr _,_,_=>False
def dR:Ty→Bool
 | .pair a b=>cond (dR a) (dR b) false
 | .slice e=>cond (beq e.size 0) false (dR e)
 | .tree _ _=>false
 | .ptr _=>false
 | _=>true
section
variable {H:Type} {enc:TypeId×Value→H} {P:Program} {tab:Tab} {w:World} {sp:Nat→Bool} {held:Bool}
theorem TyOk.cells {t:TypeId} {ty:Ty} (h:TyOk P tab t ty):P.cellsOf t=ty.size:=by
 obtain⟨i,h1,h2,_⟩:=h.info;simp[Program.cellsOf,h1,h2]
theorem cell_spot {w:World} {a:Addr} {v:Value} (h:w.cell? a=some v):a.spot=none:=by
 unfold World.cell? at h;split at h
 ·split at h
  ·simp at h
  ·rename_i hs;simpa using hs
 ·simp at h
theorem I7 {w:World} {base n:Nat} {a:Addr} {cs:List Value} (h:w.cells? base a n=some cs):cs.length=n∧∀ i,i<n→w.cell? (a.add i)=cs[i]?:=by
 unfold World.cells? at h;split at h
 ·refine⟨by simpa using mapM_some_length h,fun i hi=> ?_⟩;exact mapM_some_get h i i (by simp[hi])
 ·simp at h
theorem CO (hTab:TabOk P tab) {t:TypeId} {ty:Ty} (hT:TyOk P tab t ty) (ha:ty.agg=true) {fuel:Nat} {cs:List Value} {x:DataW H×List MemPlace} (h:DataW.trod enc P w 0 sp held fuel t cs=some x) :
  ∃ (fs:List Field) (xs:List (DataW H×List MemPlace)) (n:Nat),bY tab fs ty 0=true∧fuel=n+1∧x=(.agg (xs.map (·.1)),xs.flatMap (·.2))∧cs.length=P.cellsOf t∧xs.length=fs.length∧
   ∀ (i:Nat) (f:Field),fs[i]? = some f→DataW.trod enc P w 0 sp held n f.type ((cs.drop f.offset).take (P.cellsOf f.type))=xs[i]?:=by
 rcases hT.two ha with⟨fs,hu,hf,_⟩|⟨et,e,n,hu,_,het,_,rfl,hf⟩
 ·obtain⟨xs,n,rfl,rfl,h3,h4,h5⟩:=DataW.trod_struct hu h;exact⟨fs.toList,xs,n,hf,rfl,rfl,h3,by simpa using h4,fun i f hi=>h5 i f (by simpa using hi)⟩
 ·obtain⟨xs,m,rfl,rfl,h3,h4,h5⟩:=DataW.trod_array hu h;refine⟨_,xs,m,hf,rfl,rfl,h3,by simp[mr,h4],fun i f hi=> ?_⟩;simp only[mr,getElem?_map,Option.map_eq_some_iff] at hi;obtain⟨j,hj,rfl⟩:=hi;obtain⟨hl,rfl⟩:=List.getElem?_eq_some_iff.1 hj;simp only[List.getElem_range];have:=h5 i (by simpa using hl);rwa[show P.cellsOf et=e.size from(hTab.tys het).cells] at this ⊢
theorem zcf (hTab:TabOk P tab):∀ {ty:Ty},
  (∀ {t:TypeId} {fuel:Nat} {cs:List Value} {x:DataW H×List MemPlace},tl tab t=some ty→dR ty=true→DataW.trod enc P w 0 sp held fuel t cs=some x→∃ y:ty.den,aJ (view (cellsOf w) w) ty cs y∧DR ty x.1 y∧Fit ty y)∧
  (∀ {fs:List Field} {off fuel:Nat} {cs:List Value} {xs:List (DataW H×List MemPlace)},ty.agg=true→dR ty=true→bY tab fs ty off=true→cs.length=off+ty.size→xs.length=fs.length→
   (∀ (i:Nat) (f:Field),fs[i]? = some f→DataW.trod enc P w 0 sp held fuel f.type ((cs.drop f.offset).take (P.cellsOf f.type))=xs[i]?)→∃ y:ty.den,aJ (view (cellsOf w) w) ty (cs.drop off) y∧DR ty (.agg (xs.map (·.1))) y∧Fit ty y):=by
 intro ty;have structs:ty.agg=true→(∀ {fs:List Field} {off fuel:Nat} {cs:List Value} {xs:List (DataW H×List MemPlace)},ty.agg=true→dR ty=true→bY tab fs ty off=true→cs.length=off+ty.size→xs.length=fs.length→
   (∀ (i:Nat) (f:Field),fs[i]? = some f→DataW.trod enc P w 0 sp held fuel f.type ((cs.drop f.offset).take (P.cellsOf f.type))=xs[i]?)→∃ y:ty.den,aJ (view (cellsOf w) w) ty (cs.drop off) y∧DR ty (.agg (xs.map (·.1))) y∧Fit ty y)→
   ∀ {t:TypeId} {fuel:Nat} {cs:List Value} {x:DataW H×List MemPlace},tl tab t=some ty→dR ty=true→DataW.trod enc P w 0 sp held fuel t cs=some x→∃ y:ty.den,aJ (view (cellsOf w) w) ty cs y∧DR ty x.1 y∧Fit ty y:=by
  intro ha hB t fuel cs x ht hp h;have hT:=hTab.tys ht;obtain⟨fs,xs,n,hf,rfl,rfl,h3,h4,h5⟩:=CO hTab hT ha h;obtain⟨y,k1,k2,k3⟩:=hB (fs:=fs) (off:=0) (fuel:=n) (cs:=cs) (xs:=xs) ha hp hf (by rw[h3,hT.cells,zero_add]) h4 h5;exact⟨y,by simpa using k1,k2,k3⟩
 induction ty with
 | int k=>refine⟨fun ht _ h=> ?_,fun h=>noConfusion h⟩;obtain⟨n,rfl,rfl,hw⟩:=DataW.trod_int (hTab.tys ht).int h;simp only[Lit.wf,and_eq_true,decide_eq_true_eq] at hw;exact⟨n,rfl,rfl,hw⟩
 | u8=>
  refine⟨fun ht _ h=> ?_,fun h=>noConfusion h⟩;obtain⟨n,rfl,rfl,hw⟩:=DataW.trod_int (hTab.tys ht).u8 h;simp only[Lit.wf,and_eq_true,IntKind.min,IntKind.max,IntKind.signed,IntKind.bits] at hw;obtain⟨m,rfl⟩:∃ m:Nat,n=m:=⟨n.toNat,by have:=hw.1;simp at this;omega⟩
  have hm:m<256:=by have:=hw.2;simp at this;omega
  refine⟨UInt8.ofNat m,?_,?_,trivial⟩
  ·show[Value.int .u8 (m:Int)]=[.int .u8 ((UInt8.ofNat m).toNat:Nat)];rw[show(UInt8.ofNat m).toNat=m from by simp;omega]
  ·show DataW.lit (.int .u8 (m:Int))=.lit (.int .u8 ((UInt8.ofNat m).toNat:Nat));rw[show(UInt8.ofNat m).toNat=m from by simp;omega]
 | bool=>refine⟨fun ht _ h=> ?_,fun h=>noConfusion h⟩;obtain⟨b,rfl,rfl⟩:=DataW.trod_bool (hTab.tys ht).bool h;exact⟨b,rfl,rfl,trivial⟩
 | str=>refine⟨fun ht _ h=> ?_,fun h=>noConfusion h⟩;obtain⟨s,rfl,rfl,hs⟩:=DataW.trod_string (hTab.tys ht).str h;exact⟨s.data.toList,⟨s,rfl,rfl⟩,rfl,by show s.data.toList.length≤_;rw[Array.length_toList];exact hs⟩
 | unit=>
  have hB:∀ {fs:List Field} {off fuel:Nat} {cs:List Value} {xs:List (DataW H×List MemPlace)},Ty.unit.agg=true→dR .unit=true→bY tab fs .unit off=true→cs.length=off+Ty.unit.size→xs.length=fs.length→
   (∀ (i:Nat) (f:Field),fs[i]? = some f→DataW.trod enc P w 0 sp held fuel f.type ((cs.drop f.offset).take (P.cellsOf f.type))=xs[i]?)→∃ y:Ty.unit.den,aJ (view (cellsOf w) w) .unit (cs.drop off) y∧DR .unit (.agg (xs.map (·.1))) y∧Fit .unit y:=by
   intro fs off fuel cs xs _ _ hf hl hx _;cases fs with
   | cons f fs=>exact noConfusion hf
   | nil=>have:xs=[]:=List.eq_nil_of_length_eq_zero hx;subst this;exact⟨(),List.drop_eq_nil_of_le (by simp[hl,Ty.size]),rfl,trivial⟩
  exact⟨structs rfl hB,hB⟩
 | pair A B hA hB=>
  have hA:=hA (fun ha=>by intro hB' t fuel cs x ht hp h;have hT:=hTab.tys ht;obtain⟨fs,xs,n,hf,rfl,rfl,h3,h4,h5⟩:=CO hTab hT ha h;obtain⟨y,k1,k2,k3⟩:=hB' (fs:=fs) (off:=0) (fuel:=n) (cs:=cs) (xs:=xs) ha hp hf (by rw[h3,hT.cells,zero_add]) h4 h5;exact⟨y,by simpa using k1,k2,k3⟩);have hB:=hB (fun ha=>by intro hB' t fuel cs x ht hp h;have hT:=hTab.tys ht;obtain⟨fs,xs,n,hf,rfl,rfl,h3,h4,h5⟩:=CO hTab hT ha h;obtain⟨y,k1,k2,k3⟩:=hB' (fs:=fs) (off:=0) (fuel:=n) (cs:=cs) (xs:=xs) ha hp hf (by rw[h3,hT.cells,zero_add]) h4 h5;exact⟨y,by simpa using k1,k2,k3⟩);have hP:∀ {fs:List Field} {off fuel:Nat} {cs:List Value} {xs:List (DataW H×List MemPlace)},(Ty.pair A B).agg=true→dR (.pair A B)=true→bY tab fs (.pair A B) off=true→cs.length=off+(Ty.pair A B).size→xs.length=fs.length→
   (∀ (i:Nat) (f:Field),fs[i]? = some f→DataW.trod enc P w 0 sp held fuel f.type ((cs.drop f.offset).take (P.cellsOf f.type))=xs[i]?)→∃ y:(Ty.pair A B).den,aJ (view (cellsOf w) w) (.pair A B) (cs.drop off) y∧DR (.pair A B) (.agg (xs.map (·.1))) y∧Fit (.pair A B) y:=by
   intro fs off fuel cs xs _ hp hf hl hx hget;cases fs with
   | nil=>exact noConfusion hf
   | cons f fs=>
    cases xs with
    | nil=>simp at hx
    | cons x xs=>
     obtain⟨fd,ft,k1,k2,k3,k4,k5,k6⟩:=tN (f:=0) (n:=0) hf rfl;simp only[getElem?_cons_zero,Option.some.injEq] at k1;subst k1;simp only[dN,Option.some.injEq] at k4;subst k4;rw[add_zero] at k2;simp only[bY] at hf;have hrest:bY tab fs B (off+A.size)=true:=by
      obtain⟨_,h2⟩:=az hf;obtain⟨_,h4⟩:=az h2;have h5:beq A.size 0=false:=by cases hz:beq A.size 0 with|false=>rfl|true=>rw[hz] at h4;exact noConfusion h4
      rw[h5] at h4
      have h6 : decide (f.name = "_") = false := decide_eq_false k6
      simpa only[h6,cond] using h4
     simp only[dR] at hp;obtain⟨hp1,hp2⟩:=az hp;have h0:=hget 0 f rfl;rw[(hTab.tys k3).cells,k2] at h0;simp only[Ty.size] at hl;obtain⟨y1,a1,a2,a3⟩:=hA.1 k3 hp1 h0;have hBa:B.agg=true:=by cases B<;>first|rfl|(cases fs<;>exact noConfusion hrest)
     obtain⟨y2,b1,b2,b3⟩:=hB.2 (fs:=fs) (off:=off+A.size) (fuel:=fuel) (cs:=cs) (xs:=xs) hBa hp2 hrest (by omega) (by simpa using hx) (fun i f' hi=>hget (i+1) f' (by simpa using hi));refine⟨(y1,y2),⟨_,_,?_,a1,b1⟩,⟨x.1,xs.map (·.1),rfl,a2,b2⟩,a3,b3⟩;rw[←List.drop_drop,List.take_append_drop]
  exact⟨structs rfl hP,hP⟩
 | slice e he=>
  have he:=he (fun ha=>by intro hB' t fuel cs x ht hp h;have hT:=hTab.tys ht;obtain⟨fs,xs,n,hf,rfl,rfl,h3,h4,h5⟩:=CO hTab hT ha h;obtain⟨y,k1,k2,k3⟩:=hB' (fs:=fs) (off:=0) (fuel:=n) (cs:=cs) (xs:=xs) ha hp hf (by rw[h3,hT.cells,zero_add]) h4 h5;exact⟨y,by simpa using k1,k2,k3⟩);refine⟨fun{t fuel cs x} ht hp h=> ?_,fun h=>noConfusion h⟩;have hT:=hTab.tys ht;obtain⟨et,hu,het⟩:=hT.slice;simp only[dR] at hp;have hsz:e.size≠0∧dR e=true:=by
   cases hz:beq e.size 0 with
   | true=>rw[hz] at hp;exact noConfusion hp
   | false=>rw[hz] at hp;exact⟨fun e0=>by rw[e0] at hz;exact noConfusion hz,hp⟩
  have hc:=(hTab.tys het).cells;rcases DataW.trod_slice hu h with⟨rfl,rfl⟩|⟨a,len,cap,elems,rest,n,rfl,rfl,rfl,_,h3,h4,h5,h6,_⟩
  ·exact⟨[],⟨none,0,0,rfl,rfl,le_refl _,fun _=>rfl,fun i x hx=>by simp at hx⟩,.inl ⟨rfl,rfl⟩,Nat.zero_le _,fun x hx=>by simp at hx⟩
  ·have one:∀ i,i<len→∃ y:e.den,(∃ cs',w.cells? 0 (a.add (i*e.size)) e.size=some cs'∧aJ (view (cellsOf w) w) e cs' y)∧(∃ z,elems[i]? = some z∧DR e z.1 y)∧Fit e y:=fun i hi=>by
    have h:=h6 i hi;rw[hc] at h;rw[getElem?_eq_getElem (by omega)] at h;obtain⟨cs',q1,q2⟩:=Option.bind_eq_some_iff.1 h;obtain⟨y,r1,r2,r3⟩:=he.1 het hsz.2 q2;exact⟨y,⟨cs',q1,r1⟩,⟨_,getElem?_eq_getElem (by omega),r2⟩,r3⟩
   have all:∃ l:List e.den,l.length=len∧∀ i y,l[i]? = some y→(∃ cs',w.cells? 0 (a.add (i*e.size)) e.size=some cs'∧aJ (view (cellsOf w) w) e cs' y)∧(∃ z,elems[i]? = some z∧DR e z.1 y)∧Fit e y:=by
    clear h6;have:∀ n,n≤len→∃ l:List e.den,l.length=n∧∀ i y,l[i]? = some y→(∃ cs',w.cells? 0 (a.add (i*e.size)) e.size=some cs'∧aJ (view (cellsOf w) w) e cs' y)∧(∃ z,elems[i]? = some z∧DR e z.1 y)∧Fit e y:=by
     intro n;induction n with
     | zero=>intro _;exact⟨[],rfl,fun i y h=>by simp at h⟩
     | succ n ih=>
      intro hn;obtain⟨l,l1,l2⟩:=ih (by omega);obtain⟨y,hy⟩:=one n (by omega);refine⟨l++[y],by simp[l1],fun i z hz=> ?_⟩;by_cases hi:i<n
      ·rw[List.getElem?_append_left (by omega)] at hz;exact l2 i z hz
      ·have hlt:=(List.getElem?_eq_some_iff.1 hz).1;simp[l1] at hlt;have:i=n:=by omega
       subst this;rw[List.getElem?_append_right (by omega),l1,Nat.sub_self] at hz;simp at hz;subst hz;exact hy
    exact this len (le_refl _)
   obtain⟨l,l1,l2⟩:=all;refine⟨l,⟨some a,len,cap,rfl,l1.symm,h3,fun h=>(by cases h),fun i x hx=> ?_⟩,.inr ⟨elems.map (·.1),rest.map (·.1),rfl,by simp[h5,l1],fun i y x hy hx=> ?_⟩,by show l.length≤_;omega,fun x hx=> ?_⟩
   ·obtain⟨⟨cs',q1,q2⟩,_,_⟩:=l2 i x hx;obtain⟨r1,r2⟩:=I7 q1;have h0:=r2 0 (by omega);rw[getElem?_eq_getElem (by omega)] at h0;have hs0:a.spot=none:=by
     obtain⟨y0,⟨cs0,q0,_⟩,_,_⟩:=one 0 (by have:=(List.getElem?_eq_some_iff.1 hx).1;omega);have:=(I7 q0).2 0 (by omega);rw[getElem?_eq_getElem (by have:=(I7 q0).1;omega)] at this;have:=cell_spot this;simpa[Addr.add] using this
    obtain⟨ab,ao,as⟩:=a;simp only at hs0;subst hs0;refine⟨ab,ao,cs',rfl,fun j v hj=> ?_,q2⟩;have hjl:=(List.getElem?_eq_some_iff.1 hj).1;have hcj:=r2 j (by omega);rw[addr_add,addr_add,hj] at hcj;rw[Ip];exact⟨cell_lt hcj,hcj⟩
   ·obtain⟨_,⟨z,q1,q2⟩,_⟩:=l2 i x hx;rw[getElem?_map,q1] at hy;simp at hy;subst hy;exact q2
   ·obtain⟨i,hi,rfl⟩:=List.getElem_of_mem hx;exact(l2 i _ (getElem?_eq_getElem hi)).2.2
 | tree k v=>exact⟨fun _ hp=>noConfusion hp,fun h=>noConfusion h⟩
 | ptr e=>exact⟨fun _ hp=>noConfusion hp,fun h=>noConfusion h⟩
end
section
variable {H:Type} {enc:TypeId×Value→H} {P:Program} {tab:Tab} {w:World}
theorem zat {t:TypeId} {ty:Ty} (hT:TyOk P tab t ty) (hp:dR ty=true) {r:Reach} {base:Nat} {v:Value} (h:okWide P w r base t v):v=mkV ty v.cells.toList:=by
 cases ha:ty.agg with
 | true=>
  have:∃ cs,v=.agg cs:=by
   rcases hT.two ha with⟨fs,hu,_⟩|⟨et,e,n,hu,_⟩
   ·simp only[okWide,hu] at h;obtain⟨cs,rfl,_⟩:=h;exact⟨cs,rfl⟩
   ·simp only[okWide,hu] at h;obtain⟨cs,rfl,_⟩:=h;exact⟨cs,rfl⟩
  obtain⟨cs,rfl⟩:=this;simp[mkV,ha,Value.cells]
 | false=>
  have hc:∀ {x:Value},Cell.okWide P w r base t x→(P.underlying t=some .bool∨(∃ k,P.underlying t=some (.int k))∨P.underlying t=some .string∨∃ e,P.underlying t=some (.slice e))→x=mkV ty x.cells.toList:=by intro x hx hu;rcases hu with hu|⟨k,hu⟩|hu|⟨e,hu⟩<;>cases x<;>simp[Cell.okWide,Cell.ok,hu] at hx<;>simp[mkV,ha,Value.cells]
  have hu:P.underlying t=some .bool∨(∃ k,P.underlying t=some (.int k))∨P.underlying t=some .string∨∃ e,P.underlying t=some (.slice e):=by
   cases ty with
   | int k=>exact .inr (.inl ⟨k,hT.int⟩)
   | u8=>exact .inr (.inl ⟨_,hT.u8⟩)
   | bool=>exact .inl hT.bool
   | str=>exact .inr (.inr (.inl hT.str))
   | slice e=>exact .inr (.inr (.inr ⟨_,hT.slice.choose_spec.1⟩))
   | tree k v=>exact noConfusion hp
   | ptr e=>exact noConfusion hp
   | unit=>exact noConfusion ha
   | pair a b=>exact noConfusion ha
  refine hc ?_ hu;unfold okWide at h;rcases hu with hu|⟨k,hu⟩|hu|⟨e,hu⟩<;>rw[hu] at h<;>exact h
def dY:List Ty→List PS
 | []=>[]
 | t::r=>.pure t::dY r
theorem PR:∀ {tys:List Ty} {vs:List Value},vs.length=tys.length→unf 0 (dY tys) vs=vs
 | [],vs,h=>by rw[List.eq_nil_of_length_eq_zero h];rfl
 | t::r,[],h=>by simp at h
 | t::r,v::vs,h=>by show v::unf 0 (dY r) vs=_;rw[PR (by simpa using h)]
def mX (P:Program) (tab:Tab):List TypeId→List Ty→Bool
 | [],[]=>true
 | t::ts,ty::tys=>(match tl tab t with|some c=>c.beq ty|none=>false) && dR ty && P.readableRec t && blt t P.types.size && mX P tab ts tys
 | _,_=>false
theorem yf {t:TypeId} {ts:List TypeId} {ty:Ty} {tys:List Ty} (h:mX P tab (t::ts) (ty::tys)=true):tl tab t=some ty∧dR ty=true∧P.readableRec t=true∧t<P.types.size∧mX P tab ts tys=true:=by
 simp only[mX,and_eq_true] at h;obtain⟨⟨⟨⟨h1,h2⟩,h3⟩,h4⟩,h5⟩:=h;refine⟨?_,h2,h3,le_of_ble_eq_true h4,h5⟩;split at h1
 ·rename_i c hc;rw[hc,Ty.beq_eq h1]
 ·exact noConfusion h1
theorem Tq (hTab:TabOk P tab) {base:Nat}:∀ {ts:List TypeId} {tys:List Ty} {vs:List Value} {ds:List (DataW H)} {ps:List MemPlace} {i:Nat},mX P tab ts tys=true→DataW.TrodAll enc P w 0 (fun _=>true) true ts vs ds ps→
  (∀ (j:Nat) (t:TypeId) (v:Value),ts[j]? = some t→vs[j]? = some v→okWide P w .any base t v)→
  ∃ x:(bK (dY tys)).den,jA Eq (cellsOf w) (fun _=>none) w i (dY tys) vs x∧DR (bK (dY tys)) (.agg ds) x∧Fit (bK (dY tys)) x
 | [],[],vs,ds,ps,i,_,h,_=>by obtain⟨rfl,rfl,rfl⟩:=trodAll_nil h;exact⟨(),rfl,rfl,trivial⟩
 | [],_::_,_,_,_,_,hp,_,_=>noConfusion hp
 | _::_,[],_,_,_,_,hp,_,_=>noConfusion hp
 | t::ts,ty::tys,vs,ds,ps,i,hp,h,hv=>by obtain⟨v,vs1,d,ds1,p,q,rfl,rfl,rfl,⟨fuel,h1⟩,h2⟩:=trodAll_cons h;obtain⟨p1,p2,_,_,p5⟩:=yf hp;obtain⟨y,a1,a2,a3⟩:=(zcf hTab).1 p1 p2 h1;obtain⟨x,b1,b2,b3⟩:=Tq hTab (i:=i+1) p5 h2 fun j t' v' h3 h4=>hv (j+1) t' v' (by simpa using h3) (by simpa using h4);have hm:=zat (hTab.tys p1) p2 (hv 0 t v rfl rfl);exact⟨(y,x),⟨⟨_,a1,hm⟩,b1⟩,⟨d,ds1,rfl,a2,b2⟩,a3,b3⟩
theorem stays {W W':World} (hl:laidOutB P=true) (hb:Below W.heap.size W W'):∀ {ts:List TypeId} {tys:List Ty} {vs:List Value} {ds:List (DataW H)} {ps:List MemPlace},mX P tab ts tys=true→DataW.TrodAll enc P W 0 (fun _=>true) true ts vs ds ps→(∀ x∈ps,x.block<W.heap.size)→
  DataW.TrodAll enc P W' 0 (fun b=>decide (b<W.heap.size)) true ts vs ds ps
 | [],[],vs,ds,ps,_,h,_=>by obtain⟨rfl,rfl,rfl⟩:=trodAll_nil h;exact trodAll_mk0
 | [],_::_,_,_,_,hp,_,_=>noConfusion hp
 | _::_,[],_,_,_,hp,_,_=>noConfusion hp
 | t::ts,ty::tys,vs,ds,ps,hp,h,hlt=>by obtain⟨v,vs1,d,ds1,p,q,rfl,rfl,rfl,h1,h2⟩:=trodAll_cons h;obtain⟨_,_,p3,p4,p5⟩:=yf hp;exact⟨_,_,Below.trod hl p3 p4 h1 hb fun x hx=>hlt x (by simp[hx]),stays hl hb p5 h2 fun x hx=>hlt x (by simp[hx]),rfl⟩
theorem zbF {s:ChangeSpec} {f:FuncId} {fn:Func} {tys:List Ty} {tb:TypeId} {F:(bK (dY tys)).den→Option (iD [.pure .bool] (dY tys)).den} (hTab:TabOk P tab) (hF:FOk P f ⟨dY tys,[.pure .bool],F⟩) (hl:laidOutB P=true)
  (hpars:mX P tab fn.params.toList tys=true) (hres:fn.resultTypes = #[tb]) (htb:P.underlying tb=some .bool) (hvars:s.vars=[]) (hspec:∀ (H:Type) (ds:List (DataW H)),ds.length=tys.length→s.fn H ds = { results:=[.lit (.bool true)],args:=ds })
  {K:List (DataW H)→Prop} (hlaw:∀ (ds:List (DataW H)) (x:(bK (dY tys)).den),DR (bK (dY tys)) (.agg ds) x→Fit (bK (dY tys)) x→K ds→∃ y,F x=some (true,y))
  {W:World} {base:Nat} {args:Array Value} {ds gs:List (DataW H)} {before:List MemPlace} (hval:∀ (j:Nat) (t:TypeId) (v:Value),fn.params[j]? = some t→args[j]? = some v→okWide P W .any base t v)
  (hW:DataW.Whole enc P fn.params.toList s.vars false W args.toList ds gs before) (hK:K (ds++gs)) :
  Calls P f args W fun e W'=>∃ v,e=.returned v∧s.post enc P fn false true false false W args v W':=by
 have hW':=hW;obtain⟨p,q,hA,hV,rfl,hfz,hnd⟩:=hW;rw[hvars] at hV;obtain⟨rfl,rfl⟩:=trodVars_none hV;rw[append_nil] at hK;obtain⟨x,a1,a2,a3⟩:=Tq hTab (i:=0) (base:=base) hpars hA fun j t v h1 h2=>hval j t v (by simpa using h1) (by simpa using h2);obtain⟨y,hy⟩:=hlaw ds x a2 a3 hK;have hlen:args.toList.length=tys.length:=by
  have:∀ {tys:List Ty},(dY tys).length=tys.length:=by intro tys;induction tys with|nil=>rfl|cons t r ih=>simp[dY,ih]
  rw[mP a1,this]
 have hc:=hF.call (w:=W) (fl:=cellsOf W) (own:=fun _=>none) (fun b h=>absurd rfl h) a1 hy;rw[show(unf 0 (dY tys) args.toList).toArray=args from by rw[PR hlen]] at hc;refine hc.mono ?_;rintro e W' ⟨rs,fl',own',rfl,hext,_,_,_,hr⟩;have hb:Below W.heap.size W W':=⟨hext.os,hext.tape,hext.output,hext.size,fun k hk=>hext.block k hk fun h=>h rfl⟩
 cases rs with
 | nil=>exact hr.elim
 | cons v rs=>
  obtain⟨h1,h2,_⟩:=hr;have h2:rs=[]:=h2;subst h2;have hv:v=.bool true:=pK h1;subst hv;have hlt:∀ x∈p,x.block<W.heap.size:=fun x hx=>by simpa using hW'.lt x (by simpa using hx)
  have hds:ds.length=tys.length:=by
   have:∀ {ts:List TypeId} {tys:List Ty} {vs:List Value} {ds:List (DataW H)} {ps:List MemPlace},mX P tab ts tys=true→DataW.TrodAll enc P W 0 (fun _=>true) true ts vs ds ps→ds.length=tys.length:=by
    intro ts;induction ts with
    | nil=>intro tys vs ds ps hp h;cases tys with
     | nil=>obtain⟨_,rfl,_⟩:=trodAll_nil h;rfl
     | cons=>exact noConfusion hp
    | cons t ts ih=>intro tys vs ds ps hp h;cases tys with
     | nil=>exact noConfusion hp
     | cons ty tys=>obtain⟨_,_,_,_,_,_,_,rfl,_,_,h2⟩:=trodAll_cons h;have:=ih (yf hp).2.2.2.2 h2;simp[this]
   exact this hpars hA
  refine⟨_,rfl,ds,[],p++[],[],p,[],hW',?_,?_,?_,hb.frame _,fun h=>by cases h⟩
  ·rw[hres,append_nil,hspec H ds hds];exact⟨[],[],shut_bool htb _,trodAll_mk0,rfl⟩
  ·rw[append_nil,hspec H ds hds];exact stays hl hb hpars hA hlt
  ·rw[hvars,append_nil,hspec H ds hds];exact rfl
end
def rM:List (FuncId×List Sig)→FuncId→List Sig
 | [],_=>[]
 | (a,s)::r,f=>cond (beq a f) s (rM r f)
def mi {α:Type}:List (Nat×α)→Nat→Option α
 | [],_=>none
 | (a,s)::r,f=>cond (beq a f) (some s) (mi r f)
def SOk (P:Program) (f:FuncId):List Sig→Prop
 | []=>True
 | s::r=>FOk P f s∧SOk P f r
def GOk (P:Program):List (FuncId×List Sig)→Prop
 | []=>True
 | (f,s)::r=>SOk P f s∧GOk P r
theorem SOk.mem {P:Program} {f:FuncId}:∀ {l:List Sig},SOk P f l→∀ sg∈l,FOk P f sg
 | [],_,_,h=>by simp at h
 | s::r,⟨h1,h2⟩,sg,h=>by
  rcases mem_cons.1 h with rfl|h
  ·exact h1
  ·exact SOk.mem h2 sg h
theorem GOk.look {P:Program}:∀ {l:List (FuncId×List Sig)},GOk P l→∀ f sg,sg∈rM l f→FOk P f sg
 | [],_,_,_,h=>by simp[rM] at h
 | (a,s)::r,⟨h1,h2⟩,f,sg,h=>by
  simp only[rM] at h;cases hb:beq a f with
  | true=>rw[hb] at h;obtain rfl:=eq_of_beq_eq_true hb;exact h1.mem sg h
  | false=>rw[hb] at h;exact GOk.look h2 f sg h
theorem zt.cons {P:Program} {tab:Tab} {t:TypeId} {ty:Ty} {r:List (TypeId×Ty)} (h1:(P.info? t).map (fun i=>(i.size,i.zero,ble i.bytes (iG ty)))=some (ty.size,some (mkV ty (zeroCells ty)),true))
  (h2:jv P tab t ty=true) (h3:cond ty.agg (P.stoodInHeld t || P.eqGuardType P.depth t) false=false) (h:zt P tab r):zt P tab ((t,ty)::r):=⟨h1,h2,h3,h⟩
theorem zx.cons {P:Program} {t:TypeId} {r:List TypeId} (h1:P.underlying t=some (.pointer (P.pointee t))) (h2:(P.info? t).map (fun i=>(i.size,i.zero))=some (1,some (.pointer none))) (h:zx P r):zx P (t::r):=⟨⟨h1,h2⟩,h⟩
noncomputable def big:Nat:=Classical.choose (⟨18446744073709551616,rfl⟩:∃ n:Nat,n=18446744073709551616)
theorem iT:big=18446744073709551616:=Classical.choose_spec (⟨18446744073709551616,rfl⟩:∃ n:Nat,n=18446744073709551616)
noncomputable def aU (σ:Shape):LoopH:=⟨σ,[],fun _=>big⟩
abbrev wrap64 (x:Int):Int:=wrap .i64 x
abbrev aO (T R:Type) (step:T→Option (T⊕R)) (n:Nat) (t:T):Option R:=iter step n t
noncomputable abbrev qC (R:Type) (x y:Option R):Option R:=both x y
theorem pW {T R:Type} {step:T→Option (T⊕R)} {I:T→Prop} {μ:T→Nat} {Q:T→R→Prop}
  (h:∀ t,I t→(∃ r,step t=some (.inr r)∧Q t r)∨∃ t',step t=some (.inl t')∧I t'∧μ t'<μ t∧∀ r,Q t' r→Q t r):∀ {n:Nat} {t:T},I t→μ t<n→∃ r,iter step n t=some r∧Q t r
 | 0,_,_,hn=>by omega
 | n+1,t,ht,hn=>by
  rcases h t ht with⟨r,h1,h2⟩|⟨t',h1,h2,h3,h4⟩
  ·exact⟨r,by simp[iter,h1],h2⟩
  ·obtain⟨r,k1,k2⟩:=pW h (n:=n) h2 (by omega);exact⟨r,by simp[iter,h1,k1],h4 r k2⟩
theorem wrap_i64 {x:Int} (h1 : -9223372036854775808≤x) (h2:x≤9223372036854775807):wrap .i64 x=x:=by
 simp only[wrap,IntKind.bits,IntKind.signed];simp;omega
theorem NY (tab:Tab) (d:List TypeId):∀ (fs:List Field) (ty:Ty) (off:Nat),bY { tab with deeps:=d } fs ty off=bY tab fs ty off
 | [],ty,off=>by cases ty<;>rfl
 | f::fs,ty,off=>by
  cases ty<;>first
   | rfl
   | (simp only[bY,NY tab d fs];rfl)
theorem X4 (P:Program) (tab:Tab) (d:List TypeId) (t:TypeId) (ty:Ty):jv P { tab with deeps:=d } t ty=jv P tab t ty:=by
 unfold jv;cases P.underlying t with
 | none=>rfl
 | some u=>cases u<;>cases ty<;>first|rfl|exact NY tab d _ _ _
theorem TyOk.deeps {P:Program} {tab:Tab} {t:TypeId} {ty:Ty} (d:List TypeId) (h:TyOk P tab t ty):TyOk P { tab with deeps:=d } t ty:=⟨h.info,(X4 P tab d t ty).trans h.desc,h.eqs⟩
theorem oJ.deeps {P:Program} {tab:Tab} (d:List TypeId):∀ {l:List (TypeId×TypeId×Nat)},oJ P tab l→oJ P { tab with deeps:=d } l
 | [],h=>h
 | (_,_,_)::_,⟨h1,h2⟩=>⟨h1,oJ.deeps d h2⟩
theorem TabOk.deeps {P:Program} {tab:Tab} (h:TabOk P tab) (d:List TypeId):TabOk P { tab with deeps:=d }:=⟨fun ht=>(h.tys ht).deeps d,h.ptrs,h.arrs.deeps d,h.sames⟩
structure Opts where
 deeps:List TypeId:=[]
 flats:List (TypeId×Ty):=[]
 owns:List TypeId:=[]
 frzs:List TypeId:=[]
 vecs:List TypeId:=[]
 sames:List (FuncId×Ty):=[]
abbrev Tab.opt (tab:Tab) (o:Opts):Tab:={ tys:=tab.tys,ptrs:=tab.ptrs,arrs:=tab.arrs,deeps:=o.deeps,flats:=o.flats,owns:=o.owns,frzs:=o.frzs,vecs:=o.vecs,sames:=o.sames }
theorem Ob (tab:Tab) (o:Opts):∀ (fs:List Field) (ty:Ty) (off:Nat),bY (tab.opt o) fs ty off=bY tab fs ty off
 | [],ty,off=>by cases ty<;>rfl
 | f::fs,ty,off=>by
  cases ty<;>first
   | rfl
   | (simp only[bY,Ob tab o fs];rfl)
theorem YJ (P:Program) (tab:Tab) (o:Opts) (t:TypeId) (ty:Ty):jv P (tab.opt o) t ty=jv P tab t ty:=by
 unfold jv;cases P.underlying t with
 | none=>rfl
 | some u=>cases u<;>cases ty<;>first|rfl|exact Ob tab o _ _ _
theorem oJ.opt {P:Program} {tab:Tab} (o:Opts):∀ {l:List (TypeId×TypeId×Nat)},oJ P tab l→oJ P (tab.opt o) l
 | [],h=>h
 | (_,_,_)::_,⟨h1,h2⟩=>⟨h1,oJ.opt o h2⟩
def JR (P:Program):List (FuncId×Ty)→Prop
 | []=>True
 | (f,t)::r=>Kw P f t∧JR P r
theorem JR.get {P:Program}:∀ {l:List (FuncId×Ty)},JR P l→∀ {f:FuncId} {t:Ty},rG l f=some t→Kw P f t
 | [],_,_,_,h=>by simp[rG] at h
 | (g,u)::r,⟨h1,h2⟩,f,t,h=>by
  rw[rG] at h;cases hb:beq g f with
  | true=>rw[hb] at h;obtain rfl:=Option.some.inj h;rw[←eq_of_beq_eq_true hb];exact h1
  | false=>rw[hb] at h;exact JR.get h2 h
theorem TabOk.opt {P:Program} {tab:Tab} (h:TabOk P tab) (o:Opts) (hs:JR P o.sames:=by trivial):TabOk P (tab.opt o):=
 ⟨fun ht=>⟨(h.tys ht).info,(YJ P tab o _ _).trans (h.tys ht).desc,(h.tys ht).eqs⟩,h.ptrs,h.arrs.opt o,fun h=>hs.get h⟩
theorem eU {x:Int} (h1 : -9223372036854775808≤x) (h2:x≤9223372036854775807):wrap64 x=x:=wrap_i64 h1 h2
theorem aX {i:Nat} (h:i<9223372036854775807):wrap64 ((i:Int)+1)=((i+1:Nat):Int):=by
 rw[eU (by omega) (by omega)];rfl
theorem aN {α:Type} (l:List α) (i:Nat):idx l (i:Int)=l[i]?:=by simp[idx]
theorem Qu {α:Type} (l:List α):ofNat l.length=(l.length:Int):=rfl
theorem aC {α:Type} (l:List α) (i:Nat):decide ((i:Int)<ofNat l.length)=decide (i<l.length):=by
 rw[decide_eq_decide];exact Int.ofNat_lt
theorem zcW {α:Type} {l x:List α} (h:l.length+x.length≤140737488355000):uN l x=some (l++x):=by
 have:ble (l.length+x.length) EM=true:=Nat.ble_eq_true_of_le h;simp[uN,this]
theorem iR {α:Type} {l x:List α} (h:l.length+x.length≤bI):bF l x=some (l++x):=by
 unfold bF;rw[Nat.ble_eq_true_of_le h];rfl
theorem zaP {R:Type} (x:Option R):both x x=x:=by simp[both]
theorem yZ (a b:Bool):(a == b)=decide (a=b):=by cases a<;>cases b<;>rfl
theorem aF {α β:Type} {x:Option α} {a:α} {f:α→Option β} {r:Option β} (h:x=some a) (h2:f a=r):Option.bind x f=r:=by rw[h];exact h2
theorem zaC {T R:Type} {step:T→Option (T⊕R)} {mk:Nat→T} {n:Nat} (t:Nat→Option R) {r0:R} (h:∀ i,i<n→step (mk i)=some (match t i with|none=>.inl (mk (i+1))|some r=>.inr r)) (hK:step (mk n)=some (.inr r0)) :
  ∀ {d i m:Nat},i+d=n→d<m→iter step m (mk i)=some (((range' i d).findSome? t).getD r0):=by
 intro d;induction d with
 | zero=>
  intro i m hi hm;cases m with
  | zero=>omega
  | succ m=>rw[add_zero] at hi;subst hi;simp[iter,hK]
 | succ d ih=>
  intro i m hi hm;cases m with
  | zero=>omega
  | succ m=>
   have h0:=h i (by omega);simp only[iter,h0,bind_some,List.range'_succ,List.findSome?_cons];cases ht:t i with
   | none=>simp only[Sum.elim_inl];exact ih (by omega) (by omega)
   | some r=>simp
theorem qW {T R:Type} {step:T→Option (T⊕R)} {mk:Nat→T} {n:Nat} (p:Nat→Bool) {rt rf:R} (hn:n≤9223372036854775807) (h:∀ i,i<n→step (mk i)=some (cond (p i) (.inl (mk (i+1))) (.inr rf))) (hK:step (mk n)=some (.inr rt)) :
  iter step big (mk 0)=some (cond ((range n).all p) rt rf):=by
 have hb:n<big:=by rw[iT];omega
 have:=zaC (t:=fun i=>cond (p i) none (some rf)) (r0:=rt) (fun i hi=>by rw[h i hi];cases p i<;>rfl) hK (d:=n) (i:=0) (m:=big) (by omega) hb;rw[this,List.range_eq_range'];congr 1;generalize range' 0 n=l;induction l with
 | nil=>rfl
 | cons a l ih=>
  simp only[List.findSome?_cons,List.all_cons];cases p a with
  | true=>simpa using ih
  | false=>rfl
theorem IJ {T V A R:Type} {step:T→Option (T⊕R)} {mk:Nat→A→T} {l:List V} {g:A→V→A} {K:A→R} (Inv:Nat→A→Prop) (hn:l.length≤9223372036854775807) (h:∀ i a v,l[i]? = some v→Inv i a→step (mk i a)=some (.inl (mk (i+1) (g a v)))∧Inv (i+1) (g a v))
  (hK:∀ a,Inv l.length a→step (mk l.length a)=some (.inr (K a))) {a:A} (ha:Inv 0 a):iter step big (mk 0 a)=some (K (l.foldl g a)):=by
 have main:∀ {d i m:Nat} {a:A},i+d=l.length→d<m→Inv i a→iter step m (mk i a)=some (K ((l.drop i).foldl g a)):=by
  intro d;induction d with
  | zero=>
   intro i m a hi hm ha;cases m with
   | zero=>omega
   | succ m=>rw[add_zero] at hi;subst hi;simp[iter,hK a ha]
  | succ d ih=>
   intro i m a hi hm ha;cases m with
   | zero=>omega
   | succ m=>
    have hlt:i<l.length:=by omega
    obtain⟨h1,h2⟩:=h i a l[i] (getElem?_eq_getElem hlt) ha;simp only[iter,h1,bind_some,Sum.elim_inl];rw[ih (by omega) (by omega) h2,List.drop_eq_getElem_cons hlt];rfl
 have:=main (d:=l.length) (i:=0) (m:=big) (a:=a) (by omega) (by rw[iT];omega) ha;simpa using this
end Go.Sx
namespace Go.Sx
open Go.ChangeShapes Go.WideShapes Go.RowKit
def gU:(t:Ty)→t.den→Prop
 | .int k,x=>k.min≤(x:Int)∧(x:Int)≤k.max
 | .u8,_=>True
 | .bool,_=>True
 | .str,x=>(x:List UInt8).length≤140737488351232
 | .unit,_=>True
 | .pair a b,x=>gU a x.1∧gU b x.2
 | .slice e,l=>(l:List e.den).length≤140737488351232∧∀ x∈(l:List e.den),gU e x
 | .tree _ _,_=>False
 | .ptr _,_=>False
def wB (P:Program):List (TypeId×Ty)→Bool
 | []=>true
 | (t,ty)::r=>cond (cond (beq ty.size 0) true (ble 1 (P.bytesOf t))) (wB P r) false
theorem PV {P:Program} {t:TypeId} {ty:Ty}:∀ {l:List (TypeId×Ty)},wB P l=true→tlL l t=some ty→ty.size≠0→1≤P.bytesOf t
 | [],_,h,_=>by simp[tlL] at h
 | (a,u)::r,h,ht,h0=>by
  simp only[wB] at h;obtain⟨h1,h2⟩:=az h;simp only[tlL] at ht;cases hb:beq a t with
  | true=>
   rw[hb] at ht;obtain rfl:=eq_of_beq_eq_true hb;obtain rfl:=Option.some.inj ht;cases hz:beq u.size 0 with
   | true=>exact absurd (eq_of_beq_eq_true hz) h0
   | false=>rw[hz] at h1;exact le_of_ble_eq_true h1
  | false=>rw[hb] at ht;exact PV h2 ht h0
theorem Zm {n b m:Nat} (hb:1≤b) (h:n*b≤m):n≤m:=le_trans (Nat.le_mul_of_pos_right n hb) h
section
variable {H:Type} {P:Program} {tab:Tab}
theorem vV {t:TypeId} {ty:Ty} (hT:TyOk P tab t ty) (ha:ty.agg=true):∃ fs:List Field,bY tab fs ty 0=true∧∀ (ds:List (DataW H)) (n:Nat),n∈DataW.weightsEach P (fs.map (·.type)) ds→n∈(DataW.agg ds).weights P t:=by
 rcases hT.two ha with⟨fs,hu,hf,_⟩|⟨et,e,m,hu,_,het,_,rfl,hf⟩
 ·exact⟨fs.toList,hf,fun ds n hn=>by simp only[DataW.weights,hu];exact hn⟩
 ·refine⟨_,hf,fun ds n hn=> ?_⟩;simp only[DataW.weights,hu];have:∀ {is:List Nat} {ds:List (DataW H)},n∈DataW.weightsEach P ((mr et e.size is).map (·.type)) ds→n∈DataW.weightsAll P et ds:=by
   intro is;induction is with
   | nil=>intro ds h;simp[mr,DataW.weightsEach] at h
   | cons i is ih=>
    intro ds h;cases ds with
    | nil=>simp[mr,DataW.weightsEach] at h
    | cons d ds=>
     simp only[mr,map_cons,DataW.weightsEach,DataW.weightsAll,mem_append] at h ⊢;rcases h with h|h
     ·exact .inl h
     ·exact .inr (ih h)
  exact this hn
theorem zfg (hTab:TabOk P tab) (hpos:wB P tab.tys=true):∀ {ty:Ty},
  (∀ {t:TypeId} {d:DataW H} {x:ty.den},tl tab t=some ty→dR ty=true→DR ty d x→(∀ n∈d.weights P t,n≤reachBytes)→Fit ty x→gU ty x)∧
  (∀ {fs:List Field} {off:Nat} {ds:List (DataW H)} {x:ty.den},ty.agg=true→dR ty=true→bY tab fs ty off=true→DR ty (.agg ds) x→(∀ n∈DataW.weightsEach P (fs.map (·.type)) ds,n≤reachBytes)→Fit ty x→gU ty x):=by
 intro ty;have structs:ty.agg=true→(∀ {fs:List Field} {off:Nat} {ds:List (DataW H)} {x:ty.den},ty.agg=true→dR ty=true→bY tab fs ty off=true→DR ty (.agg ds) x→(∀ n∈DataW.weightsEach P (fs.map (·.type)) ds,n≤reachBytes)→Fit ty x→gU ty x)→
   ∀ {t:TypeId} {d:DataW H} {x:ty.den},tl tab t=some ty→dR ty=true→DR ty d x→(∀ n∈d.weights P t,n≤reachBytes)→Fit ty x→gU ty x:=by
  intro ha hB t d x ht hp hd hw hf;have hT:=hTab.tys ht;obtain⟨fs,hc,hu⟩:=vV (H:=H) hT ha;have hagg:∃ ds,d=.agg ds:=by
   cases ty<;>first|exact noConfusion ha|skip
   ·exact⟨[],hd⟩
   ·obtain⟨d1,ds,h,_⟩:=hd;exact⟨d1::ds,h⟩
  obtain⟨ds,rfl⟩:=hagg;exact hB (fs:=fs) (off:=0) ha hp hc hd (fun n hn=>hw n (hu _ n hn)) hf
 induction ty with
 | int k=>exact⟨fun _ _ _ _ h=>h,fun h=>noConfusion h⟩
 | u8=>exact⟨fun _ _ _ _ h=>h,fun h=>noConfusion h⟩
 | bool=>exact⟨fun _ _ _ _ h=>h,fun h=>noConfusion h⟩
 | str=>refine⟨fun{t d x} _ _ hd hw _=> ?_,fun h=>noConfusion h⟩;obtain rfl:d=.lit (.string x):=hd;have:=hw (length x) (by simp[DataW.weights]);exact le_trans this (by decide)
 | unit=>exact⟨fun _ _ _ _ _=>trivial,fun _ _ _ _ _ _=>trivial⟩
 | pair A B hA hB=>
  have wrapS:∀ {ty:Ty},(ty.agg=true→((∀ {fs:List Field} {off:Nat} {ds:List (DataW H)} {x:ty.den},ty.agg=true→dR ty=true→bY tab fs ty off=true→DR ty (.agg ds) x→(∀ n∈DataW.weightsEach P (fs.map (·.type)) ds,n≤reachBytes)→Fit ty x→gU ty x)→
   ∀ {t:TypeId} {d:DataW H} {x:ty.den},tl tab t=some ty→dR ty=true→DR ty d x→(∀ n∈d.weights P t,n≤reachBytes)→Fit ty x→gU ty x)):=by
   intro ty ha hB t d x ht hp hd hw hf;have hT:=hTab.tys ht;obtain⟨fs,hc,hu⟩:=vV (H:=H) hT ha;have hagg:∃ ds,d=.agg ds:=by
    cases ty<;>first|exact noConfusion ha|skip
    ·exact⟨[],hd⟩
    ·obtain⟨d1,ds,h,_⟩:=hd;exact⟨d1::ds,h⟩
   obtain⟨ds,rfl⟩:=hagg;exact hB (fs:=fs) (off:=0) ha hp hc hd (fun n hn=>hw n (hu _ n hn)) hf
  have hA:=hA wrapS;have hB:=hB wrapS;have hP:∀ {fs:List Field} {off:Nat} {ds:List (DataW H)} {x:(Ty.pair A B).den},(Ty.pair A B).agg=true→dR (.pair A B)=true→bY tab fs (.pair A B) off=true→DR (.pair A B) (.agg ds) x→(∀ n∈DataW.weightsEach P (fs.map (·.type)) ds,n≤reachBytes)→Fit (.pair A B) x→gU (.pair A B) x:=by
   intro fs off ds x _ hp hc hd hw hf;obtain⟨d1,ds',h1,h2,h3⟩:=hd;cases h1;cases fs with
   | nil=>exact noConfusion hc
   | cons f fs=>
    obtain⟨fd,ft,k1,k2,k3,k4,k5,k6⟩:=tN (f:=0) (n:=0) hc rfl;simp only[getElem?_cons_zero,Option.some.injEq] at k1;subst k1;simp only[dN,Option.some.injEq] at k4;subst k4;simp only[bY] at hc;have hrest:bY tab fs B (off+A.size)=true:=by
     obtain⟨_,h2⟩:=az hc;obtain⟨_,h4⟩:=az h2;have h5:beq A.size 0=false:=by cases hz:beq A.size 0 with|false=>rfl|true=>rw[hz] at h4;exact noConfusion h4
     rw[h5] at h4
     have h6 : decide (f.name = "_") = false := decide_eq_false k6
     simpa only[h6,cond] using h4
    have hBa:B.agg=true:=by cases B<;>first|rfl|(cases fs<;>exact noConfusion hrest)
    simp only[dR] at hp;obtain⟨hp1,hp2⟩:=az hp;exact⟨hA.1 k3 hp1 h2 (fun n hn=>hw n (by simp only[map_cons,DataW.weightsEach,mem_append];exact .inl hn)) hf.1,
     hB.2 hBa hp2 hrest h3 (fun n hn=>hw n (by simp only[map_cons,DataW.weightsEach,mem_append];exact .inr hn)) hf.2⟩
  exact⟨structs rfl hP,hP⟩
 | slice e he=>
  have he:=he (fun ha=>by
   intro hB t d x ht hp hd hw hf;have hT:=hTab.tys ht;obtain⟨fs,hc,hu⟩:=vV (H:=H) hT ha;have hagg:∃ ds,d=.agg ds:=by
    cases e<;>first|exact noConfusion ha|skip
    ·exact⟨[],hd⟩
    ·obtain⟨d1,ds,h,_⟩:=hd;exact⟨d1::ds,h⟩
   obtain⟨ds,rfl⟩:=hagg;exact hB (fs:=fs) (off:=0) ha hp hc hd (fun n hn=>hw n (hu _ n hn)) hf)
  refine⟨fun{t d x} ht hp hd hw hf=> ?_,fun h=>noConfusion h⟩;obtain⟨et,hu,het⟩:=(hTab.tys ht).slice;simp only[dR] at hp;have hsz:e.size≠0∧dR e=true:=by
   cases hz:beq e.size 0 with
   | true=>rw[hz] at hp;exact noConfusion hp
   | false=>rw[hz] at hp;exact⟨fun e0=>by rw[e0] at hz;exact noConfusion hz,hp⟩
  rcases hd with⟨rfl,rfl⟩|⟨elems,spare,rfl,hl,hel⟩
  ·exact⟨Nat.zero_le _,fun x hx=>by simp at hx⟩
  ·simp only[DataW.weights,hu] at hw;have h1:=hw _ (mem_cons_self);have h2:=Zm (PV hpos het hsz.1) h1;refine⟨by rw[←hl];exact le_trans (le_trans (Nat.le_add_right _ _) h2) (by decide),fun y hy=> ?_⟩;obtain⟨i,hi,rfl⟩:=List.getElem_of_mem hy;have hil:i<elems.length:=by rw[hl];exact hi
   refine he.1 het hsz.2 (hel i elems[i] _ (getElem?_eq_getElem hil) (getElem?_eq_getElem hi)) (fun n hn=>hw n ?_) (hf.2 _ hy);have all:∀ {l:List (DataW H)} {d:DataW H},d∈l→∀ n∈d.weights P et,n∈DataW.weightsAll P et l:=by
    intro l;induction l with
    | nil=>intro d hd;simp at hd
    | cons z l ih=>
     intro d hd n hn;simp only[DataW.weightsAll,mem_append];rcases mem_cons.1 hd with rfl|hd
     ·exact .inl hn
     ·exact .inr (ih hd n hn)
   simp only[mem_cons,mem_append];exact .inr (.inl (all (List.getElem_mem hil) n hn))
 | tree k v=>exact⟨fun _ hp=>noConfusion hp,fun h=>noConfusion h⟩
 | ptr e=>exact⟨fun _ hp=>noConfusion hp,fun h=>noConfusion h⟩
theorem TY (hTab:TabOk P tab) (hpos:wB P tab.tys=true):∀ {ts:List TypeId} {tys:List Ty} {ds:List (DataW H)} {x:(bK (dY tys)).den},mX P tab ts tys=true→DR (bK (dY tys)) (.agg ds) x→(∀ n∈DataW.weightsEach P ts ds,n≤reachBytes)→Fit (bK (dY tys)) x→gU (bK (dY tys)) x
 | [],[],_,_,_,_,_,_=>trivial
 | [],_::_,_,_,hp,_,_,_=>noConfusion hp
 | _::_,[],_,_,hp,_,_,_=>noConfusion hp
 | t::ts,ty::tys,ds,x,hp,hd,hw,hf=>by
  obtain⟨d1,ds',h1,h2,h3⟩:=(show ∃ d1 ds',DataW.agg ds=.agg (d1::ds')∧DR ty d1 x.1∧DR (bK (dY tys)) (.agg ds') x.2 from hd)
  cases h1;obtain⟨p1,p2,_,_,p5⟩:=yf hp;exact⟨(zfg hTab hpos).1 p1 p2 h2 (fun n hn=>hw n (by simp only[DataW.weightsEach,mem_append];exact .inl hn)) hf.1,
   TY hTab hpos p5 h3 (fun n hn=>hw n (by simp only[DataW.weightsEach,mem_append];exact .inr hn)) hf.2⟩
end
def Aq:Ty→Nat
 | .int .i64=>8
 | .u8=>1
 | .bool=>1
 | .str=>16
 | .slice _=>24
 | .pair a b=>Aq a+Aq b
 | _=>0
def kG:(t:Ty)→t.den→Prop
 | .pair a b,x=>kG a x.1∧kG b x.2
 | .slice e,l=>(l:List e.den).length*Aq e≤140737488351232∧∀ x∈(l:List e.den),kG e x
 | .tree _ _,_=>False
 | .ptr _,_=>False
 | _,_=>True
def wC (P:Program):List (TypeId×Ty)→Bool
 | []=>true
 | (t,ty)::r=>cond (ble (Aq ty) (P.bytesOf t)) (wC P r) false
theorem PW {P:Program} {t:TypeId} {ty:Ty}:∀ {l:List (TypeId×Ty)},wC P l=true→tlL l t=some ty→Aq ty≤P.bytesOf t
 | [],_,h=>by simp[tlL] at h
 | (a,u)::r,h,ht=>by
  simp only[wC] at h;obtain⟨h1,h2⟩:=az h;simp only[tlL] at ht;cases hb:beq a t with
  | true=>rw[hb] at ht;obtain rfl:=eq_of_beq_eq_true hb;obtain rfl:=Option.some.inj ht;exact le_of_ble_eq_true h1
  | false=>rw[hb] at ht;exact PW h2 ht
section
variable {H:Type} {P:Program} {tab:Tab}
theorem fitM (hTab:TabOk P tab) (hpos:wC P tab.tys=true):∀ {ty:Ty},
  (∀ {t:TypeId} {d:DataW H} {x:ty.den},tl tab t=some ty→dR ty=true→DR ty d x→(∀ n∈d.weights P t,n≤reachBytes)→Fit ty x→kG ty x)∧
  (∀ {fs:List Field} {off:Nat} {ds:List (DataW H)} {x:ty.den},ty.agg=true→dR ty=true→bY tab fs ty off=true→DR ty (.agg ds) x→(∀ n∈DataW.weightsEach P (fs.map (·.type)) ds,n≤reachBytes)→Fit ty x→kG ty x):=by
 intro ty;have structs:ty.agg=true→(∀ {fs:List Field} {off:Nat} {ds:List (DataW H)} {x:ty.den},ty.agg=true→dR ty=true→bY tab fs ty off=true→DR ty (.agg ds) x→(∀ n∈DataW.weightsEach P (fs.map (·.type)) ds,n≤reachBytes)→Fit ty x→kG ty x)→
   ∀ {t:TypeId} {d:DataW H} {x:ty.den},tl tab t=some ty→dR ty=true→DR ty d x→(∀ n∈d.weights P t,n≤reachBytes)→Fit ty x→kG ty x:=by
  intro ha hB t d x ht hp hd hw hf;have hT:=hTab.tys ht;obtain⟨fs,hc,hu⟩:=vV (H:=H) hT ha;have hagg:∃ ds,d=.agg ds:=by
   cases ty<;>first|exact noConfusion ha|skip
   ·exact⟨[],hd⟩
   ·obtain⟨d1,ds,h,_⟩:=hd;exact⟨d1::ds,h⟩
  obtain⟨ds,rfl⟩:=hagg;exact hB (fs:=fs) (off:=0) ha hp hc hd (fun n hn=>hw n (hu _ n hn)) hf
 induction ty with
 | int k=>exact⟨fun _ _ _ _ _=>trivial,fun h=>noConfusion h⟩
 | u8=>exact⟨fun _ _ _ _ h=>h,fun h=>noConfusion h⟩
 | bool=>exact⟨fun _ _ _ _ h=>h,fun h=>noConfusion h⟩
 | str=>refine⟨fun{t d x} _ _ hd hw _=> ?_,fun h=>noConfusion h⟩;obtain rfl:d=.lit (.string x):=hd;trivial
 | unit=>exact⟨fun _ _ _ _ _=>trivial,fun _ _ _ _ _ _=>trivial⟩
 | pair A B hA hB=>
  have wrapS:∀ {ty:Ty},(ty.agg=true→((∀ {fs:List Field} {off:Nat} {ds:List (DataW H)} {x:ty.den},ty.agg=true→dR ty=true→bY tab fs ty off=true→DR ty (.agg ds) x→(∀ n∈DataW.weightsEach P (fs.map (·.type)) ds,n≤reachBytes)→Fit ty x→kG ty x)→
   ∀ {t:TypeId} {d:DataW H} {x:ty.den},tl tab t=some ty→dR ty=true→DR ty d x→(∀ n∈d.weights P t,n≤reachBytes)→Fit ty x→kG ty x)):=by
   intro ty ha hB t d x ht hp hd hw hf;have hT:=hTab.tys ht;obtain⟨fs,hc,hu⟩:=vV (H:=H) hT ha;have hagg:∃ ds,d=.agg ds:=by
    cases ty<;>first|exact noConfusion ha|skip
    ·exact⟨[],hd⟩
    ·obtain⟨d1,ds,h,_⟩:=hd;exact⟨d1::ds,h⟩
   obtain⟨ds,rfl⟩:=hagg;exact hB (fs:=fs) (off:=0) ha hp hc hd (fun n hn=>hw n (hu _ n hn)) hf
  have hA:=hA wrapS;have hB:=hB wrapS;have hP:∀ {fs:List Field} {off:Nat} {ds:List (DataW H)} {x:(Ty.pair A B).den},(Ty.pair A B).agg=true→dR (.pair A B)=true→bY tab fs (.pair A B) off=true→DR (.pair A B) (.agg ds) x→(∀ n∈DataW.weightsEach P (fs.map (·.type)) ds,n≤reachBytes)→Fit (.pair A B) x→kG (.pair A B) x:=by
   intro fs off ds x _ hp hc hd hw hf;obtain⟨d1,ds',h1,h2,h3⟩:=hd;cases h1;cases fs with
   | nil=>exact noConfusion hc
   | cons f fs=>
    obtain⟨fd,ft,k1,k2,k3,k4,k5,k6⟩:=tN (f:=0) (n:=0) hc rfl;simp only[getElem?_cons_zero,Option.some.injEq] at k1;subst k1;simp only[dN,Option.some.injEq] at k4;subst k4;simp only[bY] at hc;have hrest:bY tab fs B (off+A.size)=true:=by
     obtain⟨_,h2⟩:=az hc;obtain⟨_,h4⟩:=az h2;have h5:beq A.size 0=false:=by cases hz:beq A.size 0 with|false=>rfl|true=>rw[hz] at h4;exact noConfusion h4
     rw[h5] at h4
     have h6 : decide (f.name = "_") = false := decide_eq_false k6
     simpa only[h6,cond] using h4
    have hBa:B.agg=true:=by cases B<;>first|rfl|(cases fs<;>exact noConfusion hrest)
    simp only[dR] at hp;obtain⟨hp1,hp2⟩:=az hp;exact⟨hA.1 k3 hp1 h2 (fun n hn=>hw n (by simp only[map_cons,DataW.weightsEach,mem_append];exact .inl hn)) hf.1,
     hB.2 hBa hp2 hrest h3 (fun n hn=>hw n (by simp only[map_cons,DataW.weightsEach,mem_append];exact .inr hn)) hf.2⟩
  exact⟨structs rfl hP,hP⟩
 | slice e he=>
  have he:=he (fun ha=>by
   intro hB t d x ht hp hd hw hf;have hT:=hTab.tys ht;obtain⟨fs,hc,hu⟩:=vV (H:=H) hT ha;have hagg:∃ ds,d=.agg ds:=by
    cases e<;>first|exact noConfusion ha|skip
    ·exact⟨[],hd⟩
    ·obtain⟨d1,ds,h,_⟩:=hd;exact⟨d1::ds,h⟩
   obtain⟨ds,rfl⟩:=hagg;exact hB (fs:=fs) (off:=0) ha hp hc hd (fun n hn=>hw n (hu _ n hn)) hf)
  refine⟨fun{t d x} ht hp hd hw hf=> ?_,fun h=>noConfusion h⟩;obtain⟨et,hu,het⟩:=(hTab.tys ht).slice;simp only[dR] at hp;have hsz:e.size≠0∧dR e=true:=by
   cases hz:beq e.size 0 with
   | true=>rw[hz] at hp;exact noConfusion hp
   | false=>rw[hz] at hp;exact⟨fun e0=>by rw[e0] at hz;exact noConfusion hz,hp⟩
  rcases hd with⟨rfl,rfl⟩|⟨elems,spare,rfl,hl,hel⟩
  ·exact⟨by simp,fun x hx=>by simp at hx⟩
  ·simp only[DataW.weights,hu] at hw;have h1:=hw _ (mem_cons_self);have h2:=le_trans (Nat.mul_le_mul_left _ (PW hpos het)) h1;refine⟨by rw[←hl];exact le_trans (le_trans (Nat.mul_le_mul_right _ (Nat.le_add_right _ _)) h2) (by decide),fun y hy=> ?_⟩;obtain⟨i,hi,rfl⟩:=List.getElem_of_mem hy;have hil:i<elems.length:=by rw[hl];exact hi
   refine he.1 het hsz.2 (hel i elems[i] _ (getElem?_eq_getElem hil) (getElem?_eq_getElem hi)) (fun n hn=>hw n ?_) (hf.2 _ hy);have all:∀ {l:List (DataW H)} {d:DataW H},d∈l→∀ n∈d.weights P et,n∈DataW.weightsAll P et l:=by
    intro l;induction l with
    | nil=>intro d hd;simp at hd
    | cons z l ih=>
     intro d hd n hn;simp only[DataW.weightsAll,mem_append];rcases mem_cons.1 hd with rfl|hd
     ·exact .inl hn
     ·exact .inr (ih hd n hn)
   simp only[mem_cons,mem_append];exact .inr (.inl (all (List.getElem_mem hil) n hn))
 | tree k v=>exact⟨fun _ hp=>noConfusion hp,fun h=>noConfusion h⟩
 | ptr e=>exact⟨fun _ hp=>noConfusion hp,fun h=>noConfusion h⟩
theorem UW (hTab:TabOk P tab) (hpos:wC P tab.tys=true):∀ {ts:List TypeId} {tys:List Ty} {ds:List (DataW H)} {x:(bK (dY tys)).den},mX P tab ts tys=true→DR (bK (dY tys)) (.agg ds) x→(∀ n∈DataW.weightsEach P ts ds,n≤reachBytes)→Fit (bK (dY tys)) x→kG (bK (dY tys)) x
 | [],[],_,_,_,_,_,_=>trivial
 | [],_::_,_,_,hp,_,_,_=>noConfusion hp
 | _::_,[],_,_,hp,_,_,_=>noConfusion hp
 | t::ts,ty::tys,ds,x,hp,hd,hw,hf=>by
  obtain⟨d1,ds',h1,h2,h3⟩:=(show ∃ d1 ds',DataW.agg ds=.agg (d1::ds')∧DR ty d1 x.1∧DR (bK (dY tys)) (.agg ds') x.2 from hd)
  cases h1;obtain⟨p1,p2,_,_,p5⟩:=yf hp;exact⟨(fitM hTab hpos).1 p1 p2 h2 (fun n hn=>hw n (by simp only[DataW.weightsEach,mem_append];exact .inl hn)) hf.1,
   UW hTab hpos p5 h3 (fun n hn=>hw n (by simp only[DataW.weightsEach,mem_append];exact .inr hn)) hf.2⟩
theorem zaA {enc:TypeId×Value→H} {s:ChangeSpec} {f:FuncId} {fn:Func} {tys:List Ty} {tb:TypeId} {F:(bK (dY tys)).den→Option (iD [.pure .bool] (dY tys)).den} (hTab:TabOk P tab) (hpos:wB P tab.tys=true) (hmin:wC P tab.tys=true) (hF:FOk P f ⟨dY tys,[.pure .bool],F⟩) (hl:laidOutB P=true)
  (hpars:mX P tab fn.params.toList tys=true) (hres:fn.resultTypes = #[tb]) (htb:P.underlying tb=some .bool) (hvars:s.vars=[]) (hspec:∀ (H:Type) (ds:List (DataW H)),ds.length=tys.length→s.fn H ds = { results:=[.lit (.bool true)],args:=ds })
  (hlaw:∀ (x:(bK (dY tys)).den),gU (bK (dY tys)) x→kG (bK (dY tys)) x→∃ y,F x=some (true,y))
  {W:World} {base:Nat} {args:Array Value} {ds gs:List (DataW H)} {before:List MemPlace} (hval:∀ (j:Nat) (t:TypeId) (v:Value),fn.params[j]? = some t→args[j]? = some v→okWide P W .any base t v)
  (hW:DataW.Whole enc P fn.params.toList s.vars false W args.toList ds gs before) (hz:(DataW.weightsEach P (fn.params.toList++s.plain.varTypes P) (ds++gs)).all (· ≤ reachBytes)=true) :
  Calls P f args W fun e W'=>∃ v,e=.returned v∧s.post enc P fn false true false false W args v W':=by
 have hgs:gs=[]:=by obtain⟨p,q,_,hV,_⟩:=hW;rw[hvars] at hV;exact(trodVars_none hV).1
 have hvt:s.plain.varTypes P=[]:=by simp[ChangeSpec.plain,DataSpec.varTypes,hvars]
 rw[hgs,hvt,append_nil,append_nil] at hz;exact zbF (s:=s) (tb:=tb) (tys:=tys) (F:=F) (K:=fun l=>∀ n∈DataW.weightsEach P fn.params.toList l,n≤reachBytes) hTab hF hl hpars hres htb hvars hspec
  (fun ds x hd hx hk=>hlaw x (TY hTab hpos hpars hd hk hx) (UW hTab hmin hpars hd hk hx)) hval hW (fun n hn=>by rw[hgs,append_nil] at hn;simpa using List.all_eq_true.1 hz n hn)
end
theorem tY (a:List UInt8):aY a []=false:=by cases a<;>rfl
theorem tV (a b:UInt8) (x y:List UInt8):aY (a::x) (b::y)=(decide (a<b) || (a == b && aY x y)):=rfl
theorem vk:∀ a:List UInt8,aY a a=false
 | []=>rfl
 | a::x=>by rw[tV,vk x];simp[lt_irrefl]
theorem GX (p:List UInt8) (x y:List UInt8):aY (p++x) (p++y)=aY x y:=by
 induction p with
 | nil=>rfl
 | cons a p ih=>rw[cons_append,cons_append,tV,ih];simp[lt_irrefl]
theorem Cb:∀ a b:List UInt8,aY a b=true∨a=b∨aY b a=true
 | [],[]=>.inr (.inl rfl)
 | [],b::y=>.inl rfl
 | a::x,[]=>.inr (.inr rfl)
 | a::x,b::y=>by
  rw[tV,tV];by_cases h:a<b
  ·simp[h]
  ·by_cases h2:b<a
   ·simp[h2]
   ·have e:a=b:=UInt8.le_antisymm (not_lt.1 h2) (not_lt.1 h);subst e;rcases Cb x y with h3|h3|h3<;>simp[h3,lt_irrefl]
theorem xY:∀ {a b:List UInt8},aY a b=true→aY b a=false
 | [],[],h=>by simp[tY] at h
 | [],b::y,_=>tY _
 | a::x,[],h=>by simp[tY] at h
 | a::x,b::y,h=>by
  rw[tV] at h ⊢;simp only[Bool.or_eq_true,decide_eq_true_eq,and_eq_true,beq_iff_eq] at h;rcases h with h|⟨rfl,h⟩
  ·have h1:¬ b<a:=UInt8.lt_asymm h;have h2:¬ b=a:=fun e=>by rw[e] at h;exact lt_irrefl _ h
   simp[h1,h2]
  ·simp[lt_irrefl,xY h]
theorem Oz:∀ {a b c:List UInt8},aY a b=true→aY b c=true→aY a c=true
 | _,_,[],_,h=>by simp[tY] at h
 | _,[],_::_,h,_=>by simp[tY] at h
 | [],_::_,_::_,_,_=>rfl
 | a::x,b::y,c::z,h,h'=>by
  rw[tV] at h h' ⊢;simp only[Bool.or_eq_true,decide_eq_true_eq,and_eq_true,beq_iff_eq] at h h' ⊢;rcases h with h|⟨rfl,h⟩
  ·rcases h' with h'|⟨rfl,h'⟩
   ·exact .inl (UInt8.lt_trans h h')
   ·exact .inl h
  ·rcases h' with h'|⟨rfl,h'⟩
   ·exact .inl h'
   ·exact .inr ⟨rfl,Oz h h'⟩
theorem QZ (k e:List UInt8):(!(aY e k || decide (e=k)))=aY k e:=by
 rcases Cb k e with h|rfl|h
 ·have h1:=xY h;have h2:e≠k:=fun x=>by subst x;rw[vk] at h;exact noConfusion h
  simp[h,h1,h2]
 ·simp[vk]
 ·have h1:=xY h;simp[h,h1]
theorem BO {α:Type} {l:List α} {n:Nat} (h:n≤l.length):gY l (ofNat n) (l.length:Int)=some (l.drop n):=by
 unfold gY;have:(0:Int)≤ofNat n∧ofNat n≤(l.length:Int)∧(l.length:Int)≤(l.length:Int):=⟨by simp,by simp;exact h,by omega⟩
 simp only[this];simp
theorem xZ {α:Type} {l:List α} {n:Nat} (h:n≤l.length):gY l 0 (ofNat n)=some (l.take n):=by
 unfold gY;have:(0:Int)≤0∧(0:Int)≤ofNat n∧ofNat n≤(l.length:Int):=⟨by omega,by simp,by simp;exact h⟩
 simp only[this];simp
def begins (s p:List UInt8):Bool:=decide (s.take p.length=p)
theorem zc7 {s p:List UInt8}:begins s p=true↔∃ r,s=p++r:=by
 unfold begins;rw[decide_eq_true_eq];constructor
 ·intro h;exact⟨s.drop p.length,by conv=>lhs;rw[←List.take_append_drop p.length s,h]⟩
 ·rintro⟨r,rfl⟩;simp
theorem Ij {s p:List UInt8} (h:¬ p.length≤s.length):begins s p=false:=by
 unfold begins;rw[decide_eq_false_iff_not];intro e;have:=congrArg length e;simp at this;omega
section
variable {K V:Type}
abbrev KV (K V:Type):Type:=K×V×Unit
structure LO (lt:K→K→Bool):Prop where
 irr:∀ a,lt a a=false
 trans:∀ {a b c},lt a b=true→lt b c=true→lt a c=true
 tri:∀ a b,lt a b=true∨a=b∨lt b a=true
theorem LO.asymm {lt:K→K→Bool} (L:LO lt) {a b:K} (h:lt a b=true):lt b a=false:=by
 cases hb:lt b a with
 | false=>rfl
 | true=>have:=L.trans h hb;rw[L.irr] at this;exact this.symm
theorem LO.ne {lt:K→K→Bool} (L:LO lt) {a b:K} (h:lt a b=true):a≠b:=fun e=>by
 subst e;rw[L.irr] at h;exact noConfusion h
theorem LO.eq {lt:K→K→Bool} (L:LO lt) {a b:K} (h:lt a b=false) (h2:lt b a=false):a=b:=by
 rcases L.tri a b with h3|h3|h3
 ·rw[h] at h3;exact noConfusion h3
 ·exact h3
 ·rw[h2] at h3;exact noConfusion h3
def toL:Tree K V→List (KV K V)
 | .leaf=>[]
 | .node k v l h _ _=>toL l++(k,v,())::toL h
def cnt:Tree K V→Int
 | .leaf=>0
 | .node _ _ _ _ n _=>n
def dep:Tree K V→Int
 | .leaf=>0
 | .node _ _ _ _ _ d=>d
def mkT (p:KV K V) (l h:Tree K V):Tree K V:=.node p.1 p.2.1 l h (cnt l+cnt h+1) (max (dep l) (dep h)+1)
theorem yN:dep (.leaf:Tree K V)=0:=rfl
theorem ui (k:K) (v:V) (l h:Tree K V) (n d:Int):dep (.node k v l h n d)=d:=rfl
theorem zbZ (k:K) (v:V) (l h:Tree K V) (n d:Int):cnt (.node k v l h n d)=n:=rfl
theorem wz (p:KV K V) (l h:Tree K V):toL (mkT p l h)=toL l++p::toL h:=rfl
theorem jH (p:KV K V) (l h:Tree K V):dep (mkT p l h)=max (dep l) (dep h)+1:=rfl
theorem Ua (p:KV K V) (l h:Tree K V):cnt (mkT p l h)=cnt l+cnt h+1:=rfl
def Avl:Tree K V→Prop
 | .leaf=>True
 | .node _ _ l h n d=>Avl l∧Avl h∧n=cnt l+cnt h+1∧d=max (dep l) (dep h)+1∧dep l≤dep h+1∧dep h≤dep l+1
theorem Avl.len:∀ {t:Tree K V},Avl t→cnt t=((toL t).length:Int)
 | .leaf,_=>rfl
 | .node k v l h n d,⟨h1,h2,h3,_⟩=>by
  have a:=h1.len;have b:=h2.len;simp only[zbZ,toL,length_append,length_cons];rw[h3,a,b]
  push_cast
  omega
theorem Avl.dep0:∀ {t:Tree K V},Avl t→0≤dep t
 | .leaf,_=>Int.le_refl 0
 | .node k v l h n d,⟨h1,h2,_,h4,_⟩=>by have a:=h1.dep0;simp only[ui];omega
theorem Avl.mk {p:KV K V} {l h:Tree K V} (h1:Avl l) (h2:Avl h) (h3:dep l≤dep h+1) (h4:dep h≤dep l+1):Avl (mkT p l h):=⟨h1,h2,rfl,rfl,h3,h4⟩
theorem Avl.many:∀ (k:Nat) {t:Tree K V},Avl t→2*(k:Int)+1≤dep t→2 ^ k≤(toL t).length
 | k,.leaf,_,h=>by simp only[yN] at h;omega
 | 0,.node _ _ l h n d,_,_=>by simp only[toL,length_append,length_cons];omega
 | k+1,.node _ _ l h n d,⟨h1,h2,h3,h4,h5,h6⟩,hd=>by simp only[ui] at hd;have a:=h1.many k (by omega);have b:=h2.many k (by omega);simp only[toL,length_append,length_cons];rw[Nat.pow_succ];omega
def qB (p:KV K V) (l h:Tree K V):Tree K V:=
 bif decide (dep h+1<dep l) then
  match l with
  | .leaf=>mkT p .leaf h
  | .node k v ll lh n d=>
   bif decide (dep lh≤dep ll) then mkT (k,v,()) ll (mkT p lh h)
   else match lh with
    | .leaf=>mkT p (.node k v ll .leaf n d) h
    | .node mk mv ml mh _ _=>mkT (mk,mv,()) (mkT (k,v,()) ll ml) (mkT p mh h)
 else bif decide (dep l+1<dep h) then
  match h with
  | .leaf=>mkT p l .leaf
  | .node k v hl hh n d=>
   bif decide (dep hl≤dep hh) then mkT (k,v,()) (mkT p l hl) hh
   else match hl with
    | .leaf=>mkT p l (.node k v .leaf hh n d)
    | .node mk mv ml mh _ _=>mkT (mk,mv,()) (mkT p l ml) (mkT (k,v,()) mh hh)
 else mkT p l h
theorem CP (p:KV K V) (l h:Tree K V):toL (qB p l h)=toL l++p::toL h:=by
 unfold qB;cases decide (dep h+1<dep l) with
 | true=>
  cases l with
  | leaf=>rfl
  | node k v ll lh n d=>
   simp only[cond_true];cases decide (dep lh≤dep ll) with
   | true=>simp[wz,toL]
   | false=>
    cases lh with
    | leaf=>rfl
    | node mk mv ml mh a b=>simp[wz,toL]
 | false=>
  simp only[cond_false];cases decide (dep l+1<dep h) with
  | true=>
   cases h with
   | leaf=>rfl
   | node k v hl hh n d=>
    simp only[cond_true];cases decide (dep hl≤dep hh) with
    | true=>simp[wz,toL]
    | false=>
     cases hl with
     | leaf=>rfl
     | node mk mv ml mh a b=>simp[wz,toL]
  | false=>rfl
theorem Avl.even {p:KV K V} {l h:Tree K V} (g1:Avl l) (g2:Avl h) (h1:dep l≤dep h+2) (h2:dep h≤dep l+2) :
  Avl (qB p l h)∧max (dep l) (dep h)≤dep (qB p l h)∧dep (qB p l h)≤max (dep l) (dep h)+1∧(dep l≤dep h+1→dep h≤dep l+1→dep (qB p l h)=max (dep l) (dep h)+1):=by
 unfold qB;by_cases hl:dep h+1<dep l
 ·simp only[hl,decide_true,cond_true];cases l with
  | leaf=>have:=g2.dep0;simp only[yN] at hl;omega
  | node k v ll lh n d=>
   obtain⟨a1,a2,a3,a4,a5,a6⟩:=g1;simp only[ui] at hl h1 h2 ⊢;by_cases hc:dep lh≤dep ll
   ·simp only[hc,decide_true,cond_true,jH];exact⟨.mk a1 (.mk a2 g2 (by omega) (by omega)) (by rw[jH];omega) (by rw[jH];omega),by omega,by omega,by omega⟩
   ·simp only[hc,decide_false,cond_false];cases lh with
    | leaf=>have:=a1.dep0;simp only[yN] at hc;omega
    | node mk mv ml mh n' d'=>obtain⟨b1,b2,b3,b4,b5,b6⟩:=a2;simp only[ui] at hc a4 a5 a6;simp only[jH];exact⟨.mk (.mk a1 b1 (by omega) (by omega)) (.mk b2 g2 (by omega) (by omega)) (by simp only[jH];omega) (by simp only[jH];omega),by omega,by omega,by omega⟩
 ·simp only[hl,decide_false,cond_false];by_cases hr:dep l+1<dep h
  ·simp only[hr,decide_true,cond_true];cases h with
   | leaf=>have:=g1.dep0;simp only[yN] at hr;omega
   | node k v hl' hh n d=>
    obtain⟨a1,a2,a3,a4,a5,a6⟩:=g2;simp only[ui] at hl hr h1 h2 ⊢;by_cases hc:dep hl'≤dep hh
    ·simp only[hc,decide_true,cond_true,jH];exact⟨.mk (.mk g1 a1 (by omega) (by omega)) a2 (by rw[jH];omega) (by rw[jH];omega),by omega,by omega,by omega⟩
    ·simp only[hc,decide_false,cond_false];cases hl' with
     | leaf=>have:=a2.dep0;simp only[yN] at hc;omega
     | node mk mv ml mh n' d'=>obtain⟨b1,b2,b3,b4,b5,b6⟩:=a1;simp only[ui] at hc a4 a5 a6;simp only[jH];exact⟨.mk (.mk g1 b1 (by omega) (by omega)) (.mk b2 a2 (by omega) (by omega)) (by simp only[jH];omega) (by simp only[jH];omega),by omega,by omega,by omega⟩
  ·simp only[hr,decide_false,cond_false,jH];exact⟨.mk g1 g2 (by omega) (by omega),by omega,by omega,fun _ _=>trivial⟩
variable (lt:K→K→Bool)
def kD (p:KV K V):Tree K V→Tree K V
 | .leaf=>mkT p .leaf .leaf
 | .node k v l h _ _=>bif lt p.1 k then qB (k,v,()) (kD p l) h else bif lt k p.1 then qB (k,v,()) l (kD p h) else mkT p l h
def Sorted (l:List (KV K V)):Prop:=l.Pairwise fun a b=>lt a.1 b.1=true
variable {lt}
theorem Avl.put {p:KV K V}:∀ {t:Tree K V},Avl t→Avl (kD lt p t)∧dep t≤dep (kD lt p t)∧dep (kD lt p t)≤dep t+1
 | .leaf,_=>⟨⟨trivial,trivial,rfl,rfl,(by decide:(0:Int)≤0+1),(by decide:(0:Int)≤0+1)⟩,(by decide:(0:Int)≤1),(by decide:(1:Int)≤0+1)⟩
 | .node k v l h n d,⟨h1,h2,h3,h4,h5,h6⟩=>by
  obtain⟨a1,a2,a3⟩:=h1.put (p:=p);obtain⟨b1,b2,b3⟩:=h2.put (p:=p);simp only[kD,ui];cases lt p.1 k with
  | true=>
   obtain⟨c1,c2,c3,c4⟩:=Avl.even (p:=(k,v,())) a1 h2 (by omega) (by omega);refine⟨c1,?_,?_⟩
   ·simp only[cond_true];by_cases hh:dep (kD lt p l)≤dep h+1
    ·have:=c4 hh (by omega);omega
    ·omega
   ·simp only[cond_true];by_cases hh:dep (kD lt p l)≤dep h+1
    ·have:=c4 hh (by omega);omega
    ·omega
  | false=>
   simp only[cond_false];cases lt k p.1 with
   | true=>
    obtain⟨c1,c2,c3,c4⟩:=Avl.even (p:=(k,v,())) h1 b1 (by omega) (by omega);refine⟨c1,?_,?_⟩
    ·simp only[cond_true];by_cases hh:dep (kD lt p h)≤dep l+1
     ·have:=c4 (by omega) hh;omega
     ·omega
    ·simp only[cond_true];by_cases hh:dep (kD lt p h)≤dep l+1
     ·have:=c4 (by omega) hh;omega
     ·omega
   | false=>simp only[cond_false,jH];exact⟨.mk h1 h2 h5 h6,by omega,by omega⟩
theorem Sorted.split {l h:List (KV K V)} {p:KV K V}:Sorted lt (l++p::h)↔Sorted lt l∧Sorted lt h∧(∀ a∈l,lt a.1 p.1=true)∧(∀ a∈h,lt p.1 a.1=true)∧(∀ a∈l,∀ b∈h,lt a.1 b.1=true):=by
 unfold Sorted;rw[List.pairwise_append,pairwise_cons];constructor
 ·rintro⟨h1,⟨h2,h3⟩,h4⟩;exact⟨h1,h3,fun a ha=>h4 a ha p (mem_cons_self ..),h2,fun a ha b hb=>h4 a ha b (mem_cons_of_mem _ hb)⟩
 ·rintro⟨h1,h2,h3,h4,h5⟩;refine⟨h1,⟨h4,h2⟩,fun a ha b hb=> ?_⟩;rcases mem_cons.1 hb with rfl|hb
  ·exact h3 a ha
  ·exact h5 a ha b hb
theorem Sorted.filter {l:List (KV K V)} (h:Sorted lt l) (p:KV K V→Bool):Sorted lt (l.filter p):=List.Pairwise.sublist List.filter_sublist h
def EF (lt:K→K→Bool) (p:KV K V) (l:List (KV K V)):List (KV K V):=l.filter (fun e=>lt e.1 p.1)++p::l.filter (fun e=>lt p.1 e.1)
theorem Dz {α:Type} {p:α→Bool} {l:List α} (h:∀ a∈l,p a=true):l.filter p=l:=List.filter_eq_self.2 h
theorem Di {α:Type} {p:α→Bool} {l:List α} (h:∀ a∈l,p a=false):l.filter p=[]:=List.filter_eq_nil_iff.2 fun a ha=>by rw[h a ha];exact noConfusion
theorem Jt (L:LO lt) {p:KV K V}:∀ {t:Tree K V},Sorted lt (toL t)→toL (kD lt p t)=EF lt p (toL t)
 | .leaf,_=>rfl
 | .node k v l h n d,hs=>by
  simp only[toL] at hs;obtain⟨s1,s2,s3,s4,s5⟩:=Sorted.split.1 hs;have a:=Jt L (p:=p) s1;have b:=Jt L (p:=p) s2;unfold EF at a b ⊢;simp only[kD,toL,List.filter_append,List.filter_cons];cases h1:lt p.1 k with
  | true=>have h2:=L.asymm h1;have e1:(toL h).filter (fun e=>lt e.1 p.1)=[]:=Di fun e he=>L.asymm (L.trans h1 (s4 e he));have e2:(toL h).filter (fun e=>lt p.1 e.1)=toL h:=Dz fun e he=>L.trans h1 (s4 e he);simp only[cond_true,CP,a,h2,if_false,if_true,e1,e2,false_eq_true,append_nil,List.append_assoc,cons_append]
  | false=>
   simp only[cond_false];cases h2:lt k p.1 with
   | true=>have e1:(toL l).filter (fun e=>lt e.1 p.1)=toL l:=Dz fun e he=>L.trans (s3 e he) h2;have e2:(toL l).filter (fun e=>lt p.1 e.1)=[]:=Di fun e he=>L.asymm (L.trans (s3 e he) h2);simp only[cond_true,CP,b,if_false,if_true,e1,e2,false_eq_true,List.nil_append,List.append_assoc,cons_append]
   | false=>have:=L.eq h1 h2;subst this;have e1:(toL l).filter (fun e=>lt e.1 p.1)=toL l:=Dz s3;have e2:(toL l).filter (fun e=>lt p.1 e.1)=[]:=Di fun e he=>L.asymm (s3 e he);have e3:(toL h).filter (fun e=>lt e.1 p.1)=[]:=Di fun e he=>L.asymm (s4 e he);have e4:(toL h).filter (fun e=>lt p.1 e.1)=toL h:=Dz s4;simp only[cond_false,wz,if_false,e1,e2,e3,e4,false_eq_true,List.nil_append,append_nil]
theorem Sorted.put (L:LO lt) {p:KV K V} {l:List (KV K V)} (h:Sorted lt l):Sorted lt (EF lt p l):=by
 unfold EF;rw[Sorted.split];refine⟨h.filter _,h.filter _,fun a ha=>(mem_filter.1 ha).2,fun a ha=>(mem_filter.1 ha).2,fun a ha b hb=>L.trans (mem_filter.1 ha).2 (mem_filter.1 hb).2⟩
theorem Ja {p:KV K V}:∀ t:Tree K V,(toL (kD lt p t)).length≤(toL t).length+1
 | .leaf=>le_refl _
 | .node k v l h n d=>by
  have a:=Ja (p:=p) l;have b:=Ja (p:=p) h;simp only[kD];cases lt p.1 k with
  | true=>simp only[cond_true,CP,toL,length_append,length_cons];omega
  | false=>
   cases lt k p.1 with
   | true=>simp only[cond_true,cond_false,CP,toL,length_append,length_cons];omega
   | false=>simp only[cond_false,wz,toL,length_append,length_cons];omega
def Sm (t:Tree K V):Prop:=0≤cnt t∧0≤dep t∧dep t≤cnt t
theorem Sm.mk {p:KV K V} {l h:Tree K V} (a:Sm l) (b:Sm h):Sm (mkT p l h):=by
 obtain⟨a1,a2,a3⟩:=a;obtain⟨b1,b2,b3⟩:=b;exact⟨by rw[Ua];omega,by rw[jH];omega,by rw[Ua,jH];omega⟩
def AC (lt:K→K→Bool) (t:Tree K V) (n:Nat):Prop:=Avl t∧Sorted lt (toL t)∧(toL t).length≤n
theorem AC.leaf:AC lt (.leaf:Tree K V) 0:=⟨trivial,List.Pairwise.nil,le_refl _⟩
theorem AC.put (L:LO lt) {t:Tree K V} {n:Nat} {p:KV K V} (h:AC lt t n):AC lt (kD lt p t) (n+1):=
 ⟨h.1.put.1,by rw[Jt L h.2.1];exact h.2.1.put L,le_trans (Ja t) (Nat.succ_le_succ h.2.2)⟩
theorem AC.mono {t:Tree K V} {n m:Nat} (h:AC lt t n) (hn:n≤m):AC lt t m:=⟨h.1,h.2.1,le_trans h.2.2 hn⟩
theorem Sorted.ext (L:LO lt):∀ {a b:List (KV K V)},Sorted lt a→Sorted lt b→(∀ e,e∈a↔e∈b)→a=b
 | [],[],_,_,_=>rfl
 | [],y::b,_,_,h=>absurd ((h y).2 (mem_cons_self ..)) (List.not_mem_nil)
 | x::a,[],_,_,h=>absurd ((h x).1 (mem_cons_self ..)) (List.not_mem_nil)
 | x::a,y::b,ha,hb,h=>by
  obtain⟨a1,a2⟩:=pairwise_cons.1 ha;obtain⟨b1,b2⟩:=pairwise_cons.1 hb;have e:x=y:=by
   rcases mem_cons.1 ((h x).1 (mem_cons_self ..)) with e|hx
   ·exact e
   ·rcases mem_cons.1 ((h y).2 (mem_cons_self ..)) with e|hy
    ·exact e.symm
    ·have:=L.asymm (a1 y hy);rw[b1 x hx] at this;exact noConfusion this
  subst e;congr 1;refine Sorted.ext L a2 b2 fun e=>⟨fun he=> ?_,fun he=> ?_⟩
  ·rcases mem_cons.1 ((h e).1 (mem_cons_of_mem _ he)) with rfl|h1
   ·have:=a1 e he;rw[L.irr] at this;exact noConfusion this
   ·exact h1
  ·rcases mem_cons.1 ((h e).2 (mem_cons_of_mem _ he)) with rfl|h1
   ·have:=b1 e he;rw[L.irr] at this;exact noConfusion this
   ·exact h1
theorem Sorted.at (L:LO lt) {l:List (KV K V)} (hs:Sorted lt l) {i j:Nat} {p q:KV K V} (hi:l[i]? = some p) (hj:l[j]? = some q):lt p.1 q.1=decide (i<j):=by
 obtain⟨h1,rfl⟩:=List.getElem?_eq_some_iff.1 hi;obtain⟨h2,rfl⟩:=List.getElem?_eq_some_iff.1 hj;have key:=List.pairwise_iff_getElem.1 hs;by_cases h:i<j
 ·rw[decide_eq_true h];exact key i j h1 h2 h
 ·rw[decide_eq_false h];by_cases h':i=j
  ·subst h';exact L.irr _
  ·exact L.asymm (key j i h2 h1 (by omega))
end
theorem LO.str:LO aY:=⟨vk,Oz,Cb⟩
def ltI (a b:Int):Bool:=decide (a<b)
theorem LO.int:LO ltI:=⟨fun a=>by simp[ltI],fun h h'=>by simp only[ltI,decide_eq_true_eq] at *;omega,fun a b=>by simp only[ltI,decide_eq_true_eq];omega⟩
theorem lI {α:Type} (l:List α) (i:Nat) (h:i<l.length):dB l (i:Int)=some i:=by
 unfold dB;have:(0:Int)≤(i:Int)∧(i:Int)<(l.length:Int):=⟨by omega,by omega⟩
 simp only[this,and_self,decide_true,cond_true,Int.toNat_natCast]
end Go.Sx
