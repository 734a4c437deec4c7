/-
 Sx: a symbolic executor for the model,proved sound,part 2 of 4: an AI agent's own work.
-/
import Derived.Test.YtlegpimppfabgaaGreatSxP
import Derived.Laws.Slices
import Derived.Laws.Strings
import Derived.Laws.AppendOwn
import Derived.Laws.MakeOwn
import Derived.Lib.ConvBytes
open Array (ext' map toList_map)
open Bool (noConfusion)
open Go.Instr (alloc box build buildSlice extract fill index indexAt loadAt makeFunc slice sliceAt sliceBounds storeAt sureAddr)
open Int (ofNat)
open List (append_assoc append_nil drop_drop eq_nil_of_length_eq_zero ext_getElem? flatten_cons getD getElem?_append_left getElem?_append_right getElem?_cons_zero getElem?_drop getElem?_eq_getElem getElem?_eq_none getElem?_map getElem?_of_mem getElem?_take_of_lt getElem_mem head? length_append length_cons length_drop length_map length_replicate length_take map_cons map_map map_nil map_take mem_append mem_cons mem_map mem_of_getElem? mem_replicate nil_append range replicate take_append_drop)
open Nat (add_assoc add_mul add_zero beq beq_refl ble blt eq_of_beq_eq_true le_of_ble_eq_true le_refl le_trans min_eq_left mul_le_mul mul_le_mul_right one_mul sub_mul zero_add)
open Option (map_eq_some_iff map_some)
open Go.Result (andThen_ok)
open Go.Sem (run_bind run_pure)
open Go.Value (int pointer)
open Go.World (block_lt_of_cell? cell?_drew cell?_of_block drew_eq)
namespace Go.Sx
section
variable {P:Program} {tab:Tab} {C:Ctx} {g:Gh} {S:Nat→SV} {H:HLoc→SV} {a:Act} {w:World}
theorem PM {F:Nat→SV} {iv:IV} {i o:Nat} {ft:Ty}:∀ {t:Ty} {k off:Nat} {cs:List Value},iO t k off=some (i,o,ft)→dF F g iv t cs k→
  ∃ c1 c c2,cs=c1++(c++c2)∧c1.length+o=off∧c.length=ft.size∧(∀ x∈c,oneC x=true)∧SR g iv (F i) (mkV ft c)∧k≤i:=by
 intro t;induction t with
 | pair A B hA hB=>
  rintro k off cs h ⟨d1,d2,rfl,h1,h2,h3,h4⟩;simp only[iO] at h;cases hb:blt off A.size with
  | true=>rw[hb] at h;simp only[cond,Option.some.injEq,Prod.mk.injEq] at h;obtain⟨rfl,rfl,rfl⟩:=h;exact⟨[],d1,d2,rfl,by simp,h1,h2,h3,le_refl _⟩
  | false=>
   rw[hb] at h;obtain⟨c1,c,c2,rfl,k1,k2,k3,k4,k5⟩:=hB h h4;have hge:¬ off<A.size:=fun hlt=>by have hx:blt off A.size=true:=Nat.ble_eq_true_of_le hlt;rw[hx] at hb;exact noConfusion hb
   exact⟨d1++c1,c,c2,by simp,by rw[length_append,h1];omega,k2,k3,k4,by omega⟩
 | _=>intro k off cs h;simp[iO] at h
theorem o7 {c1 c c2:List Value} {j:Nat} {v:Value} (h:c[j]? = some v):(c1++(c++c2))[c1.length+j]? = some v:=by
 have hj:j<c.length:=(List.getElem?_eq_some_iff.1 h).1;rw[getElem?_append_right (by omega),show c1.length+j-c1.length=j from by omega,getElem?_append_left hj];exact h
theorem IG (hTab:TabOk P tab) (hs:SimG C g S H a w) {t:TypeId} {u:Ty} (ht:tla tab t=some u) {x:SV} {vx:Value} {v:SV} {hw:HW} {fp fp':List HLoc}
  (h:(jB u x).run H fp=some ((v,hw),fp')) (hx:SR g (view g.fl w) x vx):dw C S H a ((loadAt t vx).run P w) v hw:=by
 have hT:=(hTab.w ht).1;have ld:∀ (b o:Nat),(loadAt t (.pointer (some ⟨b,o,none⟩))).run P w=(loadVar t ⟨b,o,none⟩).run P w:=fun b o=>by simp[loadAt,sureAddr]
 cases x with
 | adr s off=>
  rw[show vx=_ from hx,ld];simp only[jB,Rd.run] at h;split at h
  ·rename_i ot hot;obtain⟨cs,hblk,h2,h3,h4⟩:=hs.sites s ot hot;unfold dV at h4;cases ha:ot.agg with
   | true=>
    rw[ha] at h h4;simp only[cond_true] at h h4;cases hc:cond (beq off 0) (ot.beq u) false with
    | true=>
     rw[hc] at h;obtain⟨e0,e1⟩:=az hc;obtain rfl:=Ty.beq_eq e1;obtain rfl:=eq_of_beq_eq_true e0;obtain⟨⟨y,hw1⟩,fp1,k1,k2⟩:=ah h;obtain⟨e,_⟩:=af k2;cases e;obtain⟨p1,p2⟩:=qU k1;have hlen:cs.length=ot.size:=by
      have:∀ {t:Ty} {cs:List Value} {i:Nat},dF (fun i=>H (.fld s i)) g (view g.fl w) t cs i→cs.length=t.size:=by
       intro t;induction t with
       | pair A B _ hB=>rintro cs i ⟨c1,c2,rfl,q1,_,_,q4⟩;rw[length_append,q1,hB q4];rfl
       | unit=>intro cs i q;rw[show cs=[] from q];rfl
       | _=>intro cs i q;exact q.elim
      exact this h4
     refine .pubs hs p1 (jD hT hlen (fun j v hj=>by rw[hblk.cell,zero_add];exact hj)) (fun _=>trivial) fun fl own _ hR hle=> ?_;exact⟨cs,p2 _ _ _ hR (dF.change (H:=H) (GAgree.same (g:=g) (g':={ g with fl:=fl,own:=own }) rfl rfl rfl) hle (fun i=>hs.refF s i) h4),rfl⟩
    | false=>
     rw[hc] at h;simp only[cond_false] at h;split at h
     ·rename_i i o ft hf;obtain⟨c1,c,c2,rfl,q1,q2,q3,q4,_⟩:=PM hf h4;cases hc2:cond (beq o 0) (ft.beq u) false with
      | true=>rw[hc2] at h;obtain⟨e0,e1⟩:=az hc2;obtain rfl:=Ty.beq_eq e1;obtain rfl:=eq_of_beq_eq_true e0;change((fits ft (H (.fld s i))).bind fun _=>Rd.ret (H (.fld s i),[])).run H (_::_)=_ at h;obtain⟨_,fp1,k1,k2⟩:=ah h;obtain⟨e,_⟩:=af k2;cases e;refine .plain hs (jD hT (cs:=c) q2 fun j v hj=> ?_) q4 (hs.refF s i);rw[hblk.cell,←q1,add_zero];exact o7 hj
      | false=>rw[hc2] at h;change((gZ ft (H (.fld s i))).bind fun p=>(Rd.ofO (sub ft p.1 o u)).bind fun y=>Rd.ret (SV.pv u y,p.2)).run H (_::_)=_ at h;obtain⟨⟨p,hw1⟩,fp1,k1,k2⟩:=ah h;obtain⟨y,fp2,k3,k4⟩:=ah k2;obtain⟨k3,_⟩:=aS k3;obtain⟨e,_⟩:=af k4;cases e;obtain⟨p1,p2⟩:=vK k1;obtain⟨fl,own,m1,m2⟩:=hs.pubs p1;have hV:=(p2 _ _ _ (m1.rowsRd p1) (SR.change (H:=H) (GAgree.same (g:=g) (g':={ g with fl:=fl,own:=own }) rfl rfl rfl) m2 (hs.refF s i) q4)).cells;rw[iw q2 q3] at hV;obtain⟨d1,d,d2,hd,hd1,hd2⟩:=ru hV k3;simp only at hd;subst hd;refine⟨_,w,_,jD hT (cs:=d) hd2.length (fun j v hj=> ?_),m1,⟨d,hd2,rfl⟩,trivial⟩;rw[hblk.cell,←q1,←hd1];have:=o7 (c1:=c1++d1) (c:=d) (c2:=d2++c2) hj;simpa using this
     ·exact(ae h).elim
   | false=>
    rw[ha] at h h4;simp only[cond_false] at h h4;cases hc:cond (beq off 0) (ot.beq u) false with
    | true=>rw[hc] at h;obtain⟨e0,e1⟩:=az hc;obtain rfl:=Ty.beq_eq e1;obtain rfl:=eq_of_beq_eq_true e0;change((fits ot (H (.fld s 0))).bind fun _=>Rd.ret (H (.fld s 0),[])).run H (_::_)=_ at h;obtain⟨_,fp1,k1,k2⟩:=ah h;obtain⟨e,_⟩:=af k2;cases e;obtain⟨c,rfl,q1,q2⟩:=h4;refine .plain hs (val:=c) ?_ q2 (hs.refF s 0);have:=jD hT (w:=w) (b:=g.st s) (o:=0) (cs:=[c]) (by simp[oq ha]) (fun j v hj=>by rw[hblk.cell,zero_add];exact hj);rw[this];simp[mkV,ha]
    | false=>rw[hc] at h;exact(ae h).elim
  ·exact(ae h).elim
 | elt t' y off=>simp only[jB] at h;obtain⟨z,fp1,k1,k2⟩:=ah h;obtain⟨k1,_⟩:=aS k1;obtain⟨e,_⟩:=af k2;cases e;obtain⟨bl,o,cs,rfl,h2,h3⟩:=hx;obtain⟨d1,d,d2,rfl,hd1,hd2⟩:=ru h2 k1;rw[ld];refine .plain hs (jD hT (cs:=d) hd2.length fun j v hj=> ?_) ⟨d,hd2,rfl⟩ trivial;have:=P9 h3 (off+j) v (by rw[←hd1];exact o7 hj);rwa[←add_assoc] at this
 | lel t' y off=>simp only[jB] at h;obtain⟨z,fp1,k1,k2⟩:=ah h;obtain⟨k1,_⟩:=aS k1;obtain⟨e,_⟩:=af k2;cases e;obtain⟨bl,o,cs,rfl,h2,h3⟩:=hx;obtain⟨d1,d,d2,rfl,hd1,hd2⟩:=ru h2 k1;rw[ld];refine .plain hs (jD hT (cs:=d) hd2.length fun j v hj=> ?_) ⟨d,hd2,rfl⟩ trivial;have:=hs.lvCell (h3 (off+j) v (by rw[←hd1];exact o7 hj));rwa[←add_assoc] at this
 | oel r i off sz=>
  simp only[jB,Rd.run] at h;split at h
  ·rename_i pub e l hrow;cases hz:beq e.size sz with
   | false=>rw[hz] at h;exact(ae h).elim
   | true=>
    rw[hz] at h;obtain rfl:=eq_of_beq_eq_true hz;obtain⟨y,hy,h⟩:=bP h;obtain⟨z,fp1,k1,k2⟩:=ah h;obtain⟨k1,_⟩:=aS k1;obtain⟨e',_⟩:=af k2;cases e';obtain⟨bl,len,cap,hh,rfl⟩:=hx;rcases hs.rows r pub e l hrow with⟨h1,h2⟩|⟨b,cap',cs,h1,h2,h3,h4,h5,h6,h7⟩
    ·rw[h1] at hh;cases hh
    ·rw[h1] at hh;cases hh;obtain⟨c,hc1,hc2⟩:=h7 i y hy;obtain⟨d1,d,d2,rfl,hd1,hd2⟩:=ru hc2 k1;rw[ld];refine .plain hs (jD hT (cs:=d) hd2.length fun j v hj=> ?_) ⟨d,hd2,rfl⟩ trivial;rw[h3.cell,add_assoc,←hd1];exact hc1 _ _ (o7 hj)
  ·exact(ae h).elim
 | _=>exact(ae h).elim
theorem fH {α:Type} {l:HLoc} {k:Rd α} {fp fp':List HLoc} {y:α} (h:(fresh l k).run H fp=some (y,fp')):H l=.bot∧k.run H (l::fp)=some (y,fp'):=by
 unfold fresh at h;simp only[Rd.run] at h;split at h
 ·rename_i hb;exact⟨hb,h⟩
 ·exact(ae h).elim
theorem BP (hTab:TabOk P tab) (hs:SimG C g S H a w) {id:Nat} {t:TypeId} {u:Ty} (ht:tla tab t=some u) {x:SV} {vx:Value} {v:SV} {hw:HW} {fp fp':List HLoc}
  (h:(qh id u x).run H fp=some ((v,hw),fp')) (hx:SR g (view g.fl w) x vx):dw C S H a ((loadAt t vx).run P w) v hw:=by
 unfold qh at h;split at h
 case h_2=>exact IG hTab hs ht h hx
 rename_i r i off sz;simp only[Rd.run] at h;split at h
 case h_2=>exact IG hTab hs ht h hx
 rename_i e l n hh hrow;have hT:=(hTab.w ht).1;have ld:∀ (b o:Nat),(loadAt t (.pointer (some ⟨b,o,none⟩))).run P w=(loadVar t ⟨b,o,none⟩).run P w:=fun b o=>by simp[loadAt,sureAddr]
 cases hz:beq e.size sz with
 | false=>rw[hz] at h;exact(ae h).elim
 | true=>
  rw[hz] at h;obtain rfl:=eq_of_beq_eq_true hz;obtain⟨x,hi,h⟩:=bP h;obtain⟨bl,len,cap0,hbl,rfl⟩:=hx;rw[ld];obtain⟨d1,d2,hD⟩:=hs.deeps r e l n hh hrow;rcases hD with⟨_,h2⟩|⟨b,cap,cs,bs,k1,k2,k3,k4,k5,k6,k7,k8,k9⟩
  ·rw[h2] at hi;simp at hi
  obtain rfl:bl=b:=by rw[k1] at hbl;cases hbl;rfl
  obtain⟨c,c1,c2⟩:=k9 i x hi;cases hu:bu u with
  | true=>rw[hu] at h;obtain⟨y,fp1,q1,h⟩:=ah h;obtain⟨q1,_⟩:=aS q1;obtain⟨e1,_⟩:=af h;cases e1;obtain⟨p1,p,p2,rfl,p3,p4⟩:=c2.getFlat hu q1;refine .plain hs (jD hT (cs:=p) p4.length fun j v hj=> ?_) ⟨p,p4,rfl⟩ trivial;rw[k3.cell,add_assoc,←p3];exact c1 _ _ (o7 hj)
  | false=>
   rw[hu] at h;simp only[cond_false,Rd.run] at h;cases hn:decide (n≤i) with
   | true=>
    rw[hn] at h;simp only[cond_true] at h;obtain⟨y,fp1,q1,h⟩:=ah h;obtain⟨q1,_⟩:=aS q1;obtain⟨e1,_⟩:=af h;cases e1;have hni:=of_decide_eq_true hn;have hc:=c2.crep fun u' v' y' hq=>by
     rcases hq with⟨hq,_⟩|⟨_,hq,_⟩|⟨_,_,hq,_⟩
     ·have:=d2 i v' hq;omega
     ·omega
     ·exact hq
    obtain⟨p1,p,p2,rfl,p3,p4⟩:=ru hc q1;refine .plain hs (jD hT (cs:=p) p4.length fun j v hj=> ?_) ⟨p,p4,rfl⟩ trivial;rw[k3.cell,add_assoc,←p3];exact c1 _ _ (o7 hj)
   | false=>
    rw[hn] at h;simp only[cond_false] at h;have hin:i<n:=Nat.lt_of_not_le (of_decide_eq_false hn);obtain⟨u,rfl⟩:∃ u',u=.slice u':=by cases u<;>first|exact(ae h).elim|exact⟨_,rfl⟩
    cases hh with
    | some p=>
     obtain⟨j,q⟩:=p;simp only[Rd.run] at h;cases hji:decide (j=i) with
     | false=>rw[hji] at h;simp at h
     | true=>
      rw[hji] at h;have hij:j=i:=of_decide_eq_true hji;simp only[cond_true] at h;cases hsl:lM e off u with
      | false=>rw[hsl] at h;exact(ae h).elim
      | true=>
       rw[hsl] at h;obtain⟨e1,_⟩:=af h;cases e1;obtain⟨y0,hy0⟩:=CQ x (Dp hsl);obtain⟨p1,v,p2,rfl,p3,p4,p5⟩:=c2.getSl hy0;have hv:v=g.hd q:=by
        rcases p5 with⟨h,_⟩|⟨h,_⟩|⟨h,_⟩
        ·simp only[fB,map_some,Option.some.injEq,Prod.mk.injEq] at h;exact h.2.symm
        ·exact absurd (by rw[←hij];rfl) (h (g.hd q))
        ·exact absurd (by rw[←hij];rfl) (h (g.hd q))
       refine .plain hs (val:=v) ?_ hv (by have:=hs.refR r;rw[hrow] at this;exact this j q rfl);have:=jD (P:=P) hT (w:=w) (b:=bl) (o:=i*e.size+off) (cs:=[v]) rfl fun k u hk=>by
        cases k with
        | zero=>simp only[getElem?_cons_zero,Option.some.injEq] at hk;subst hk;rw[k3.cell,add_assoc,←p3];exact c1 _ _ (by simp)
        | succ k=>simp at hk
       rw[this];rfl
    | none=>
     simp only at h;obtain⟨y,fp1,q1,h⟩:=ah h;obtain⟨q1,_⟩:=aS q1;cases hsl:lM e off u with
     | false=>rw[hsl] at h;exact(ae h).elim
     | true=>
      rw[hsl] at h;obtain⟨hid,h⟩:=fH h;obtain⟨e1,_⟩:=af h;cases e1;obtain⟨g',m1,b',cap',m2,m3,m4⟩:=hs.detach hrow hi hin (Dp hsl) q1 hid;have hb':bl=b':=by rw[k1] at m2;cases m2;rfl
      subst hb';refine⟨g'.hd id,w,g',?_,m1,rfl,?_⟩
      ·have:=jD (P:=P) hT (w:=w) (b:=bl) (o:=i*e.size+off) (cs:=[g'.hd id]) rfl fun j v hj=>by
        cases j with
        | zero=>simp only[getElem?_cons_zero,Option.some.injEq] at hj;subst hj;exact m3
        | succ j=>simp at hj
       rw[this];rfl
      ·show puts H _ (.row id)≠.bot;have hne:id≠r:=fun e=>by rw[e,hrow] at hid;cases hid
       simp only[puts];rw[ay _ _ (by simpa using hne),aK];exact SV.noConfusion
theorem TV {α:Type} {l:List α} {i:Int} {x:α} (h:idx l i=some x):0≤i∧i<l.length∧l[i.toNat]? = some x:=by
 unfold idx at h;by_cases h0:0≤i
 ·simp only[h0,decide_true,cond] at h;have:i.toNat<l.length:=(List.getElem?_eq_some_iff.1 h).1;exact⟨h0,by omega,h⟩
 ·simp[h0] at h
theorem run_indexAt {t e:TypeId} {et:Ty} (hu:P.underlying t=some (.slice e)) (hT:TyOk P tab e et) {b o len cap:Nat} {k:IntKind} {i:Int} (h0:0≤i) (h1:i<len) :
  (indexAt t (.slice (some ⟨b,o,none⟩) len cap) (.int k i)).run P w=.ok (.pointer (some ⟨b,o+i.toNat*et.size,none⟩)) w:=by
 have he:P.elem t=e:=by simp[Program.elem,hu]
 have:=run_indexAt_slice (P:=P) w t ⟨b,o,none⟩ len cap k i (by rw[he];exact hu);rw[this,if_pos ⟨h0,h1⟩,he,hT.run_sizeOf];simp[addr_add]
theorem PN (hs:SimG C g S H a w) {b o z:Nat} {n:Int} {v:SV} {hw:HW} {fp fp':List HLoc} {N:Nat} {r:Result Value}
  (hr:∀ j:Nat,j<N→n=(j:Int)→r=.ok (.pointer (some ⟨g.st b,o+j*z,none⟩)) w) (hb:aG H (.adr b 0)):∀ (m j:Nat),j+m=N→(wW b o z n m j).run H fp=some ((v,hw),fp')→dw C S H a r v hw
 | 0,j,_,h=>(ae h).elim
 | m+1,j,hj,h=>by
  unfold wW at h;simp only[Rd.run] at h;by_cases hc:n=ofNat j
  ·rw[decide_eq_true hc] at h;obtain⟨e1,_⟩:=af (show(Rd.ret (SV.adr b (o+j*z),([]:HW))).run H fp=some ((v,hw),fp') from h);cases e1;exact .plain hs (hr j (by omega) hc) rfl hb
  ·rw[decide_eq_false hc] at h;exact PN hs hr hb m (j+1) (by omega) h
theorem YC (hTab:TabOk P tab) (hs:SimG C g S H a w) {t:TypeId} {p:TypeId×Nat} {x i:SV} {vx vi:Value} {v:SV} {hw:HW} {fp fp':List HLoc} (hA:iW tab.arrs t=some p)
  (h:(J5 tab p x i).run H fp=some ((v,hw),fp')) (hx:SR g (view g.fl w) x vx) (hi:SR g (view g.fl w) i vi) (rx:aG H x) :
  dw C S H a ((indexAt t vx vi).run P w) v hw:=by
 obtain⟨et,n⟩:=p;unfold J5 at h;obtain⟨e',he',hu,_⟩:=zo hTab.arrs hA;simp only[he'] at h;split at h
 ·rename_i k hk;obtain⟨kk,rfl⟩:=og hi hk;split at h
  ·rename_i b o;rw[show vx=_ from hx];have run:∀ j:Nat,j<n→k=(j:Int)→(indexAt t (.pointer (some ⟨g.st b,o,none⟩)) (.int kk k)).run P w=.ok (.pointer (some ⟨g.st b,o+j*e'.size,none⟩)) w:=by
    intro j hj hkj;subst hkj;have hlt:(0:Int)≤(j:Int)∧(j:Int)<(n:Int):=⟨by omega,by omega⟩
    simp[indexAt,asIntOf,run_underlying hu,sureAddr,hlt,(hTab.tys he').run_sizeOf,addr_add];intro hh;omega
   have br:∀ {fp:List HLoc},(wW b o e'.size k n 0).run H fp=some ((v,hw),fp')→_:=fun{fp} h=>PN (r:=(indexAt t (.pointer (some ⟨g.st b,o,none⟩)) (.int kk k)).run P w) hs (N:=n) run rx n 0 (by omega) h;simp only[Rd.run] at h;split at h
   ·rename_i ot _;cases hk:Uj ot o (n*e'.size) with
    | false=>rw[hk] at h;exact br h
    | true=>
     rw[hk] at h;obtain⟨j,hj,h⟩:=bP h;obtain⟨e1,_⟩:=af h;cases e1;unfold jf at hj;cases hd:decide (0≤k∧k<(n:Int)) with
     | false=>rw[hd] at hj;cases hj
     | true=>rw[hd] at hj;obtain rfl:=Option.some.inj hj;have hd:=of_decide_eq_true hd;exact .plain hs (run k.toNat (by omega) (by omega)) ⟨by omega,rfl⟩ rx
   ·exact br h
  ·exact(ae h).elim
 ·exact(ae h).elim
theorem QL {t:Ty} {v:SV} {k:Int} {r:SV×HW} {fp fp':List HLoc}:∀ {m j:Nat},(Eg t v k m j).run H fp=some (r,fp')→∃ i,i<j+m∧k=(i:Int)∧(J8 t v i).run H fp=some (r,fp')
 | 0,j,h=>(ae h).elim
 | m+1,j,h=>by
  simp only[Eg,Rd.run] at h;cases hd:decide (k=ofNat j) with
  | true=>rw[hd] at h;exact⟨j,by omega,of_decide_eq_true hd,h⟩
  | false=>rw[hd] at h;obtain⟨i,h1,h2,h3⟩:=QL (m:=m) (j:=j+1) h;exact⟨i,by omega,h2,h3⟩
theorem Oq (e:Ty):∀ {n i:Nat},i<n→fJ (dI e n) i=some (i*e.size)∧dN (dI e n) i=some e
 | n+1,0,_=>⟨by simp[dI,fJ],rfl⟩
 | n+1,i+1,h=>by obtain⟨h1,h2⟩:=Oq e (n:=n) (i:=i) (by omega);exact⟨by simp only[dI,fJ,h1,Option.bind_some];congr 1;rw[add_mul];omega,h2⟩
theorem YB (hTab:TabOk P tab) (hs:SimG C g S H a w) {t:TypeId} {p:TypeId×Nat} {x i:SV} {vx vi:Value} {v:SV} {hw:HW} {fp fp':List HLoc} (hA:iW tab.arrs t=some p)
  (h:(J4 tab p x i).run H fp=some ((v,hw),fp')) (hx:SR g (view g.fl w) x vx) (hi:SR g (view g.fl w) i vi) :
  dw C S H a ((index t vx vi).run P w) v hw:=by
 obtain⟨et,n⟩:=p;unfold J4 at h;obtain⟨e',he',hu,_⟩:=zo hTab.arrs hA;simp only[he'] at h;split at h
 ·rename_i k hk;obtain⟨kk,rfl⟩:=og hi hk;obtain⟨j,hj,rfl,h4⟩:=QL h;clear h;have h:=h4;clear h4;rw[zero_add] at hj;have hlt:(0:Int)≤(j:Int)∧(j:Int)<(n:Int):=⟨by omega,by omega⟩
  obtain⟨ho,ht⟩:=Oq e' hj;have run:∀ {c1 c c2:List Value},c1.length=j*e'.size→c.length=e'.size→(index t (.agg (c1++(c++c2)).toArray) (.int kk (j:Int))).run P w=.ok (mkV e' c) w:=by intro c1 c c2 h1 h2;have:=CS (P:=P) (w:=w) (hTab.tys he') (c1:=c1) (c:=c) (c2:=c2) h2;rw[h1] at this;simp only[index,asIntOf,run_bind,run_pure,andThen_ok,run_underlying hu,hlt,and_self,if_true,Int.toNat_natCast,(hTab.tys he').run_sizeOf,this]
  unfold J8 at h;split at h
  ·rename_i t' y;cases hb:t'.beq (dI e' n) with
   | false=>rw[hb] at h;exact(ae h).elim
   | true=>rw[hb] at h;obtain rfl:=Ty.beq_eq hb;obtain⟨⟨u,z⟩,fp1,h1,h2⟩:=ah h;obtain⟨h1,_⟩:=aS h1;obtain⟨e,_⟩:=af h2;cases e;obtain⟨cs,hcs,rfl⟩:=hx;obtain⟨m,c1,c,c2,k1,k2,rfl,k3,k4⟩:=IQ hcs h1;rw[ho] at k1;rw[ht] at k2;cases k1;cases k2;exact .plain hs (by rw[mkV,Tn];exact run k3 k4.length) ⟨c,k4,rfl⟩ trivial
  ·rename_i d t';cases hb:t'.beq (dI e' n) with
   | false=>rw[hb] at h;exact(ae h).elim
   | true=>rw[hb] at h;obtain rfl:=Ty.beq_eq hb;simp only[cond,ht] at h;change((fits e' (H (.comp d j))).bind fun _=>Rd.ret (H (.comp d j),[])).run H (_::fp)=_ at h;obtain⟨u,fp1,h1,h2⟩:=ah h;obtain⟨e,_⟩:=af h2;cases e;obtain⟨h3,rfl,h4⟩:=hx;obtain⟨c1,c2,k1,k2,k3,k4⟩:=O0 h4 ho ht;rw[zero_add] at k1 k3 k4;refine .plain hs (val:=g.cv d j) ?_ (hs.comps d j) (hs.refC d j);rw[k1,run k2 k4,←k3]
  ·exact(ae h).elim
 ·exact(ae h).elim
theorem RY {d:Nat} {n:Int} {v:SV} {hw:HW} {fp':List HLoc}:∀ {m j:Nat} {fp:List HLoc},(wV d n m j).run H fp=some ((v,hw),fp')→∃ i,j≤i∧i<j+m∧n=ofNat i∧v=.ref d i∧hw=[]
 | 0,j,fp,h=>(ae h).elim
 | m+1,j,fp,h=>by
  simp only[wV,Rd.run] at h;cases hd:decide (n=ofNat j) with
  | true=>rw[hd] at h;obtain⟨e,_⟩:=af (show(Rd.ret (SV.ref d j,([]:HW))).run H fp=_ from h);cases e;exact⟨j,le_refl _,by omega,of_decide_eq_true hd,rfl,rfl⟩
  | false=>rw[hd] at h;obtain⟨i,h1,h2,h3⟩:=RY (show(wV d n m (j+1)).run H fp=_ from h);exact⟨i,by omega,by omega,h3⟩
theorem XV (hTab:TabOk P tab) (hs:SimG C g S H a w) {t:TypeId} {x i:SV} {vx vi:Value} {v:SV} {hw:HW} {fp fp':List HLoc}
  (h:(match tl tab t with
   | some (.slice et)=>match jF i with
    | some n=>match x with
     | .pv (.slice e) l=>cond (e.beq et) (.opt (idx (α:=e.den) l n) fun y=>.ret (.elt e y 0,[])) .fail
     | .vec d m=>cond (beq et.size 1) (wV d n m 0) .fail
     | .hdr r=>.get (.row r) fun w=>match w with
      | .row _ e l=>cond (e.beq et) (.opt (dB (α:=e.den) l n) fun j=>.ret (.oel r j 0 e.size,[])) .fail
      | .deep e l _ _=>cond (e.beq et) (.opt (dB (α:=e.den) l n) fun j=>.ret (.oel r j 0 e.size,[])) .fail
      | _=>.fail
     | _=>.fail
    | none=>.fail
   | _=>.fail:Rd (SV×HW)).run H fp=some ((v,hw),fp')) (hx:SR g (view g.fl w) x vx) (hi:SR g (view g.fl w) i vi) (rx:aG H x) :
  dw C S H a ((indexAt t vx vi).run P w) v hw:=by
 split at h
 ·rename_i et ht;obtain⟨e',hu,he'⟩:=(hTab.tys ht).slice;split at h
  ·rename_i n hn;obtain⟨k,rfl⟩:=og hi hn;split at h
   ·rename_i e l;cases hb:e.beq et with
    | false=>rw[hb] at h;exact(ae h).elim
    | true=>rw[hb] at h;obtain rfl:=Ty.beq_eq hb;obtain⟨y,hy,h⟩:=bP h;obtain⟨e1,_⟩:=af h;cases e1;obtain⟨q0,q1,q2⟩:=TV hy;obtain⟨cs,⟨ad,len,cap,rfl,k2,k3,k4,k5⟩,hval⟩:=hx;have hval:vx=.slice ad len cap:=hval;subst hval;obtain⟨bl,o,c,rfl,m1,m2⟩:=k5 _ _ q2;subst k2;exact .plain hs (run_indexAt hu (hTab.tys he') q0 q1) ⟨bl,_,c,rfl,m2,m1⟩ trivial
   ·rename_i d m;cases hsz:beq et.size 1 with
    | false=>rw[hsz] at h;exact(ae h).elim
    | true=>rw[hsz] at h;have hsz:=eq_of_beq_eq_true hsz;obtain⟨j,_,j2,rfl,rfl,rfl⟩:=RY h;obtain⟨bl,rfl,hc⟩:=hx;have:=run_indexAt (P:=P) (w:=w) (b:=bl) (o:=0) (len:=m) (cap:=m) (k:=k) (i:=ofNat j) hu (hTab.tys he') (Int.natCast_nonneg j) (by simp only[Int.ofNat_eq_natCast];omega);refine .plain hs this ⟨bl,by simp[hsz],hc j (by omega)⟩ (rx j (by omega))
   ·rename_i r;simp only[Rd.run] at h;split at h
    ·rename_i pub e l hrow;cases hb:e.beq et with
     | false=>rw[hb] at h;exact(ae h).elim
     | true=>
      rw[hb] at h;obtain rfl:=Ty.beq_eq hb;obtain⟨j,hj,h⟩:=bP h;obtain⟨e1,_⟩:=af h;cases e1;unfold dB at hj;by_cases hc:0≤n∧n<l.length
      ·simp only[hc,and_self,decide_true,cond,Option.some.injEq] at hj;subst hj;rw[show vx=_ from hx];rcases hs.rows r pub e l hrow with⟨h1,h2⟩|⟨b,cap',cs,h1,h2,h3,h4,h5,h6,h7⟩
       ·subst h2;simp at hc;omega
       ·rw[h1];refine .plain hs (run_indexAt hu (hTab.tys he') hc.1 hc.2) ⟨b,l.length,cap',h1,?_⟩ rx;simp
      ·simp[hc] at hj
    ·rename_i e l nd hh hrow;cases hb:e.beq et with
     | false=>rw[hb] at h;exact(ae h).elim
     | true=>
      rw[hb] at h;obtain rfl:=Ty.beq_eq hb;obtain⟨j,hj,h⟩:=bP h;obtain⟨e1,_⟩:=af h;cases e1;unfold dB at hj;by_cases hc:0≤n∧n<l.length
      ·simp only[hc,and_self,decide_true,cond,Option.some.injEq] at hj;subst hj;rw[show vx=_ from hx];rcases(hs.deeps r e l nd hh hrow).shape with⟨h1,h2⟩|⟨b,cap',h1,h2⟩
       ·subst h2;simp at hc;omega
       ·rw[h1];refine .plain hs (run_indexAt hu (hTab.tys he') hc.1 hc.2) ⟨b,l.length,cap',h1,?_⟩ rx;simp
      ·simp[hc] at hj
    ·exact(ae h).elim
   ·exact(ae h).elim
  ·exact(ae h).elim
 ·exact(ae h).elim
theorem Zt (hTab:TabOk P tab) (hs:SimG C g S H a w) {t:TypeId} {x i:SV} {vx vi:Value} {v:SV} {hw:HW} {fp fp':List HLoc}
  (h:(match tl tab t with
   | some .str=>match jF i,x with
    | some n,.pv .str l=>.opt (idx (α:=UInt8) l n) fun y=>.ret (.pv .u8 y,[])
    | _,_=>.fail
   | _=>.fail:Rd (SV×HW)).run H fp=some ((v,hw),fp')) (hx:SR g (view g.fl w) x vx) (hi:SR g (view g.fl w) i vi) :
  dw C S H a ((index t vx vi).run P w) v hw:=by
 split at h
 ·rename_i ht;have hu:=(hTab.tys ht).str;split at h
  ·rename_i n l hn;obtain⟨k,rfl⟩:=og hi hn;obtain⟨y,hy,h⟩:=bP h;obtain⟨e1,_⟩:=af h;cases e1;obtain⟨q0,q1,q2⟩:=TV hy;obtain⟨s,rfl,rfl⟩:=oh hx;have hlt:n.toNat<s.size:=by have:=(List.getElem?_eq_some_iff.1 q2).1;simpa using this
   have hb:s[n.toNat]? = some y:=by rw[getElem?_pos s n.toNat hlt];have:=(List.getElem?_eq_some_iff.1 q2).2;rw[←this];rfl
   refine .plain hs (val:=.int .u8 (y.toNat:Nat)) ?_ (zL y) trivial;simp[index,asIntOf,run_underlying hu,q0,hb]
  ·exact(ae h).elim
 ·exact(ae h).elim
end
section
variable {P:Program} {tab:Tab} {C:Ctx} {g:Gh} {S:Nat→SV} {H:HLoc→SV} {a:Act} {w:World}
theorem qN {iv:IV} {e:Ty} {v:Value} {l:List e.den} (h:bM iv (.slice e) v l):∃ ad len cap,v=.slice ad len cap∧len=l.length∧len≤cap∧(ad=none→cap=0)∧
  ∀ i (x:e.den),l[i]? = some x→∃ bl o c,ad=some ⟨bl,o,none⟩∧seg iv bl (o+i*e.size) c∧aJ iv e c x:=by
 obtain⟨cs,⟨ad,len,cap,rfl,h2,h3,h4,h5⟩,rfl⟩:=h;exact⟨ad,len,cap,rfl,h2,h3,h4,h5⟩
theorem zbx {iv:IV} {e:Ty} {l:List e.den} {ad:Option Addr} {len cap:Nat} (h2:len=l.length) (h3:len≤cap) (h4:ad=none→cap=0)
  (h5:∀ i (x:e.den),l[i]? = some x→∃ bl o c,ad=some ⟨bl,o,none⟩∧seg iv bl (o+i*e.size) c∧aJ iv e c x):bM iv (.slice e) (.slice ad len cap) l:=
 ⟨[.slice ad len cap],⟨ad,len,cap,rfl,h2,h3,h4,h5⟩,rfl⟩
def yX (ad:Option Addr) (m x size:Nat):Option Addr:=if m=x then ad else ad.map (·.add (x*size))
theorem RQ {iv:IV} {e:Ty} {l:List e.den} {ad:Option Addr} {len cap x y m:Nat} (h:bM iv (.slice e) (.slice ad len cap) l) (h1:x≤y) (h2:y≤m) (h3:m≤cap) (h4:y≤l.length) :
  bM iv (.slice e) (.slice (yX ad m x e.size) (y-x) (m-x)) ((l.take y).drop x):=by
 obtain⟨ad',len',cap',e1,k2,k3,k4,k5⟩:=qN h;cases e1;refine zbx (by simp;omega) (by omega) ?_ ?_
 ·intro hn;unfold yX at hn;split at hn
  ·have:=k4 hn;omega
  ·simp at hn;have:=k4 hn;omega
 ·intro i z hz;have hz':l[x+i]? = some z:=by
   rw[getElem?_drop,List.getElem?_take] at hz;split at hz
   ·exact hz
   ·exact absurd hz (by simp)
  have hlt:x+i<y:=by
   rw[getElem?_drop,List.getElem?_take] at hz;split at hz
   ·assumption
   ·exact absurd hz (by simp)
  obtain⟨bl,o,c,rfl,m1,m2⟩:=k5 _ _ hz';refine⟨bl,o+x*e.size,c,?_,?_,m2⟩
  ·unfold yX;rw[if_neg (by omega)];simp[addr_add]
  ·rwa[add_mul,←add_assoc] at m1
theorem vg {k:IntKind} {i:Int} {y:Nat} {code:BoundsCode} (h0:0≤i) (h1:i≤y):(Instr.sliceBound (.int k i) y code).run P w=.ok i.toNat w:=run_sliceBound w k i y code h0 h1
theorem Ce {α:Type} {l r:List α} {x y:Int} (h:gY l x y=some r):0≤x∧x≤y∧y≤l.length∧r=(l.take y.toNat).drop x.toNat:=by
 unfold gY at h;by_cases hc:0≤x∧x≤y∧y≤l.length
 ·simp only[hc,and_self,decide_true,cond,Option.some.injEq] at h;exact⟨hc.1,hc.2.1,hc.2.2,h.symm⟩
 ·simp[hc] at h
theorem Ii {iv:IV} {α:Type} {l:List α} {lo hi mx:Option SV} {vlo vhi vmx:Option Value} {cap:Nat} {isS:Bool} {k:List α→Rd (SV×HW)} {fp fp':List HLoc} {r:SV×HW}
  (h:(zn l lo hi mx k).run H fp=some (r,fp')) (hcap:l.length≤cap)
  (hlo:∀ s,lo=some s→∃ v,vlo=some v∧SR g iv s v) (hlo':lo=none→vlo=none) (hhi:∀ s,hi=some s→∃ v,vhi=some v∧SR g iv s v) (hhi':hi=none→vhi=none)
  (hmx:∀ s,mx=some s→∃ v,vmx=some v∧SR g iv s v) (hmx':mx=none→vmx=none) :
  ∃ x y m l',x≤y∧y≤m∧m≤cap∧y≤l.length∧l'=(l.take y).drop x∧(sliceBounds isS l.length cap vlo vhi vmx).run P w=.ok (x,y,m) w∧(∃ fp1,(k l').run H fp1=some (r,fp'))∧(mx=none→m=cap):=by
 unfold zn at h;split at h
 ·exact(ae h).elim
 ·rename_i x hx;have hl:(vlo=none∧x=0)∨∃ kk,vlo=some (.int kk x):=by
   cases lo with
   | none=>left;simp only[VW,Option.some.injEq] at hx;exact⟨hlo' rfl,hx.symm⟩
   | some s=>obtain⟨v,rfl,hv⟩:=hlo s rfl;obtain⟨kk,rfl⟩:=og hv hx;exact .inr ⟨kk,rfl⟩
  split at h
  ·obtain⟨l',hl',h⟩:=bP h;obtain⟨q0,q1,q2,rfl⟩:=Ce hl';refine⟨x.toNat,l.length,cap,(l.take l.length).drop x.toNat,by omega,hcap,le_refl _,le_refl _,rfl,?_,⟨fp,by simpa using h⟩,fun _=>rfl⟩;rw[hhi' rfl,hmx' rfl];rcases hl with⟨rfl,rfl⟩|⟨kk,rfl⟩
   ·rfl
   ·simp[sliceBounds,vg q0 q1]
  ·rename_i h';split at h
   ·rename_i y hy;obtain⟨l',hl',h⟩:=bP h;obtain⟨q0,q1,q2,rfl⟩:=Ce hl';obtain⟨v,rfl,hv⟩:=hhi _ rfl;obtain⟨kk,rfl⟩:=og hv hy;refine⟨x.toNat,y.toNat,cap,(l.take y.toNat).drop x.toNat,by omega,by omega,le_refl _,by omega,rfl,?_,⟨fp,h⟩,fun _=>rfl⟩;rw[hmx' rfl];have h2:=vg (P:=P) (w:=w) (k:=kk) (i:=y) (y:=cap) (code:=if isS=true then .sliceAcap else .sliceAlen) (by omega) (by omega);rcases hl with⟨rfl,rfl⟩|⟨kk',rfl⟩
    ·simp[sliceBounds,h2]
    ·simp[sliceBounds,h2,vg (P:=P) (w:=w) (k:=kk') (i:=x) (y:=y.toNat) q0 (by omega)]
   ·exact(ae h).elim
  ·split at h
   ·rename_i y m' hy hm;obtain⟨l1,hl1,h⟩:=bP h;obtain⟨l',hl',h⟩:=bP h;obtain⟨p0,p1,p2,rfl⟩:=Ce hl1;obtain⟨q0,q1,q2,rfl⟩:=Ce hl';obtain⟨v,rfl,hv⟩:=hhi _ rfl;obtain⟨kk,rfl⟩:=og hv hy;obtain⟨v',rfl,hv'⟩:=hmx _ rfl;obtain⟨kk',rfl⟩:=og hv' hm;simp at q2;refine⟨x.toNat,y.toNat,m'.toNat,(((l.take m'.toNat).drop (0:Int).toNat).take y.toNat).drop x.toNat,by omega,by omega,by omega,by omega,?_,?_,⟨fp,h⟩,fun e=>by simp at e⟩
    ·simp[List.take_take,min_eq_left (show y.toNat≤m'.toNat by omega)]
    have h2:=vg (P:=P) (w:=w) (k:=kk') (i:=m') (y:=cap) (code:=if isS=true then .slice3Acap else .slice3Alen) (by omega) (by omega);have h3:=vg (P:=P) (w:=w) (k:=kk) (i:=y) (y:=m'.toNat) (code:=.slice3B) (by omega) (by omega);rcases hl with⟨rfl,rfl⟩|⟨k3,rfl⟩
    ·simp[sliceBounds,h2,h3]
    ·simp[sliceBounds,h2,h3,vg (P:=P) (w:=w) (k:=k3) (i:=x) (y:=y.toNat) q0 (by omega)]
   ·exact(ae h).elim
  ·exact(ae h).elim
theorem Y0 (hTab:TabOk P tab) (hs:SimG C g S H a w) {t:TypeId} {x:SV} {vx:Value} {lo hi mx:Option Operand} {v:SV} {hw:HW} {fp fp':List HLoc}
  (h:(JJ tab t (lo.map (evS S)) (hi.map (evS S)) (mx.map (evS S)) x).run H fp=some ((v,hw),fp')) (hx:SR g (view g.fl w) x vx) :
  dw C S H a ((sliceAt t vx (lo.map a.eval) (hi.map a.eval) (mx.map a.eval)).run P w) v hw:=by
 have hop:∀ o:Option Operand,(∀ s,o.map (evS S)=some s→∃ v,o.map a.eval=some v∧SR g (view g.fl w) s v)∧(o.map (evS S)=none→o.map a.eval=none):=by
  intro o;cases o with
  | none=>exact⟨fun s e=>by simp at e,fun _=>rfl⟩
  | some o=>exact⟨fun s e=>by simp only[map_some,Option.some.injEq] at e;subst e;exact⟨_,rfl,(hs.ev o).1⟩,fun e=>by simp at e⟩
 unfold JJ at h;split at h
 ·rename_i ht;have hu:=(hTab.tys ht).str;split at h
  ·rename_i l _ hmx;obtain⟨s,rfl,rfl⟩:=oh hx;have hmxn:mx=none:=by cases mx<;>simp_all
   subst hmxn;obtain⟨x',y,m,l',q1,q2,q3,q4,rfl,q6,⟨fp1,q7⟩,q8⟩:=Ii (P:=P) (w:=w) (g:=g) (iv:=view g.fl w) (isS:=false) (cap:=s.data.toList.length) h (le_refl _) (hop lo).1 (hop lo).2 (hop hi).1 (hop hi).2 (fun s e=>by simp at e) (fun _=>rfl);obtain⟨e,_⟩:=af q7;cases e;have hsz:s.data.toList.length=s.size:=by simp
   rw[hsz] at q6;refine .plain hs (val:=.string (s.extract x' y)) ?_ (zi _ ?_) trivial
   ·simp only[sliceAt,run_bind,run_underlying hu,andThen_ok,slice,Option.map_none,Option.isSome_none,Bool.false_eq_true,if_false,q6,run_pure]
   ·rw[ByteArray.data_extract,Array.toList_extract];simp[List.extract_eq_take_drop,List.drop_take]
  ·exact(ae h).elim
 ·rename_i et ht;obtain⟨e',hu,he'⟩:=(hTab.tys ht).slice;have run:∀ {ad:Option Addr} {len cap x y m:Nat},(sliceBounds true len cap (lo.map a.eval) (hi.map a.eval) (mx.map a.eval)).run P w=.ok (x,y,m) w→
    (sliceAt t (.slice ad len cap) (lo.map a.eval) (hi.map a.eval) (mx.map a.eval)).run P w=.ok (.slice (yX ad m x et.size) (y-x) (m-x)) w:=by
   intro ad len cap x y m hb;simp only[sliceAt,run_bind,run_underlying hu,andThen_ok,slice,hb,(hTab.tys he').run_sizeOf,run_pure,yX]
  split at h
  ·rename_i e l;cases hb:e.beq et with
   | false=>rw[hb] at h;exact(ae h).elim
   | true=>rw[hb] at h;obtain rfl:=Ty.beq_eq hb;obtain⟨ad,len,cap,rfl,k2,k3,k4,k5⟩:=qN hx;subst k2;obtain⟨x',y,m,l',q1,q2,q3,q4,rfl,q6,⟨fp1,q7⟩,q8⟩:=Ii (P:=P) (w:=w) (g:=g) (iv:=view g.fl w) (isS:=true) (cap:=cap) h k3 (hop lo).1 (hop lo).2 (hop hi).1 (hop hi).2 (hop mx).1 (hop mx).2;obtain⟨e1,_⟩:=af q7;cases e1;exact .plain hs (run q6) (RQ hx q1 q2 q3 q4) trivial
  ·rename_i r;simp only[Rd.run] at h;split at h
   ·rename_i pub e l hrow;cases hb:e.beq et with
    | false=>rw[hb] at h;exact(ae h).elim
    | true=>
     rw[hb] at h;obtain rfl:=Ty.beq_eq hb;rw[show vx=_ from hx];have hcap:∃ ad cap,g.hd r=.slice ad l.length cap∧l.length≤cap:=by
      rcases hs.rows r pub e l hrow with⟨h1,h2⟩|⟨b,cap',cs,h1,h2,_⟩
      ·subst h2;exact⟨none,0,h1,le_refl _⟩
      ·exact⟨_,_,h1,h2⟩
     obtain⟨ad,cap,hd,hle⟩:=hcap;obtain⟨x',y,m,l',q1,q2,q3,q4,rfl,q6,⟨fp1,q7⟩,q8⟩:=Ii (P:=P) (w:=w) (g:=g) (iv:=view g.fl w) (isS:=true) (cap:=cap) h hle (hop lo).1 (hop lo).2 (hop hi).1 (hop hi).2 (hop mx).1 (hop mx).2;obtain⟨e1,_⟩:=af q7;simp only[Prod.mk.injEq] at e1;obtain⟨rfl,rfl⟩:=e1;have hp:bC H (cond pub [] [(HLoc.row r,SV.row true e l)]):=by
      cases pub with
      | true=>trivial
      | false=>exact⟨⟨r,false,e,l,rfl,rfl,.inl hrow⟩,trivial⟩
     refine .pubs hs hp (by rw[hd];exact run q6) (fun _=>trivial) fun fl own _ hR hle'=> ?_;have hv:=hR r e l (by cases pub with
      | true=>exact .inl hrow
      | false=>exact .inr (by simp))
     simp only[hd] at hv;exact RQ hv q1 q2 q3 q4
   ·exact(ae h).elim
  ·exact(ae h).elim
 ·exact(ae h).elim
end
section
variable {P:Program} {tab:Tab} {C:Ctx} {g:Gh} {S:Nat→SV} {H:HLoc→SV} {a:Act} {w:World}
theorem SimG.newRow (hs:SimG C g S H a w) {id:Nat} (hid:H (.row id)=.bot) (cs:List Value) (el:TypeId) (fz:Nat×Nat) (hf:xA fz cs.length) {e:Ty} {l:List e.den} {cap:Nat} (hl:l.length≤cap)
  (hc:cs.length=cap*e.size) (pub:Bool) (hE:kQ (view g.fl w) e l cs) :
  ∃ g',SimG C g' S (ak H (.row id) (.row pub e l)) a (w.alloc (.cells cs.toArray el fz))∧g'.hd id=.slice (some ⟨w.heap.size,0,none⟩) l.length cap:=by
 have h1:=hs.newBlk cs.toArray el fz (cond pub (l.length*e.size) 0) (.row id);have hA:GAgree H { g with fl:=aA g.fl w.heap.size (cond pub (l.length*e.size) 0),own:=aA g.own w.heap.size (some (.row id)) }
   { g with fl:=aA g.fl w.heap.size (cond pub (l.length*e.size) 0),own:=aA g.own w.heap.size (some (.row id)),hd:=aA g.hd id (.slice (some ⟨w.heap.size,0,none⟩) l.length cap) }:=
  ⟨fun _ _=>rfl,fun r hr=>by have:r≠id:=fun e=>hr (e▸hid);exact bn _ _ this,fun _ _ _=>rfl,rfl⟩
 have h2:=h1.grow hA (IV.le.refl _) (fun _ _ _ h=>⟨rfl,h,rfl⟩) (fun _ _ _ h=>⟨rfl,h,rfl⟩) h1.own h1.old h1.ext;refine⟨_,h2.setRow (.inr ⟨w.heap.size,cap,cs,by simp,hl,Blk.new w cs el fz hf,hc,by simp,by simp,?_⟩),by simp⟩;refine hE.mono fun k o v hv=> ?_;obtain⟨q1,q2⟩:=Ip.1 hv;have hk:k<w.heap.size:=block_lt_of_cell? (a:=⟨k,o,none⟩) w q2;refine Ip.2 ⟨by dsimp only;rw[bn _ _ (show k≠w.heap.size by omega)];exact q1,?_⟩;exact(cell?_of_block (a:=⟨k,o,none⟩) (RowKit.Below.heap_alloc w _ k hk)).trans q2
theorem dw.row {g':Gh} {w':World} {run:Result Value} {id:Nat} {pub:Bool} {e:Ty} {l:List e.den} {hw:HW} (hs:SimG C g' S (puts H hw) a w') (hrun:run=.ok (g'.hd id) w')
  (hh:puts H hw (.row id)=.row pub e l):dw C S H a run (.hdr id) hw:=
 ⟨_,w',g',hrun,hs,rfl,by simp only[aG];rw[hh];exact SV.noConfusion⟩
theorem SA (off:Nat):∀ (vs:List Value) (k:Nat) (pre mid rest:List Value),pre.length=off+k→mid.length=vs.length→
  (vs.zipIdx k).foldl (fun(cs:Array Value) (p:Value×Nat)=>cs.setIfInBounds (off+p.2) p.1) (pre++(mid++rest)).toArray=(pre++(vs++rest)).toArray
 | [],k,pre,mid,rest,_,h2=>by have:mid=[]:=eq_nil_of_length_eq_zero h2;subst this;rfl
 | v::vs,k,pre,m::mid,rest,h1,h2=>by
  have ih:=SA off vs (k+1) (pre++[v]) mid rest (by simp[h1];omega) (by simpa using h2);simp only[List.zipIdx_cons,List.foldl_cons];have e:(pre++(m::mid++rest)).toArray.setIfInBounds (off+k) v=((pre++[v])++(mid++rest)).toArray:=by apply ext';rw[←h1];simp
  rw[e,ih];simp
def oC (segs:List (List Value)):List (Nat×Value)→List (List Value)
 | []=>segs
 | (i,v)::r=>oC (segs.set i v.cells.toList) r
theorem Q4:∀ (segs:List (List Value)) (i:Nat) (s:List Value) (h:i<segs.length),(segs.set i s).flatten=(segs.take i).flatten++(s++(segs.drop (i+1)).flatten)∧segs.flatten=(segs.take i).flatten++(segs[i]++(segs.drop (i+1)).flatten)
 | x::r,0,s,h=>by simp
 | x::r,i+1,s,h=>by obtain⟨h1,h2⟩:=Q4 r i s (by simpa using h);simp only[List.set_cons_succ,flatten_cons,List.take_succ_cons,List.drop_succ_cons,append_assoc,List.getElem_cons_succ];exact⟨by rw[h1],by rw[←h2]⟩
theorem Ya (segs:List (List Value)) (i j:Nat) (s:List Value) (hs:∀ h:i<segs.length,s.length=segs[i].length):((segs.set i s).take j).flatten.length=(segs.take j).flatten.length:=by
 simp only[List.length_flatten];congr 1;rw[map_take,map_take,List.map_set];congr 1;by_cases h:i<segs.length
 ·rw[hs h];apply ext_getElem?;intro n;rw[List.getElem?_set];split
  ·subst_vars
   simp[h]
  ·rfl
 ·rw[List.set_eq_of_length_le (by simpa using h)]
theorem IP (place:Nat→Option (Nat×Nat)):∀ (parts:List (Nat×Value)) (segs:List (List Value)),
  (∀ i v,(i,v)∈parts→∃ h:i<segs.length,place i=some ((segs.take i).flatten.length,segs[i].length)∧v.cells.size=segs[i].length)→
  fill place segs.flatten.toArray parts=some (oC segs parts).flatten.toArray
 | [],segs,_=>rfl
 | (i,v)::r,segs,h=>by
  obtain⟨hi,hp,hv⟩:=h i v (by simp);obtain⟨e1,e2⟩:=Q4 segs i v.cells.toList hi;simp only[fill,hp];have hcond:(decide (v.cells.size≠segs[i].length) || decide ((segs.take i).flatten.length+v.cells.size>segs.flatten.toArray.size))=false:=by rw[e2];simp[hv]
  rw[if_neg (by rw[Bool.or_eq_false_iff] at hcond;simp only[decide_eq_false_iff_not] at hcond;simp only[Bool.or_eq_true,decide_eq_true_eq];exact fun h=>h.elim hcond.1 hcond.2)];have hset:v.cells.zipIdx.foldl (fun(cs:Array Value) (x:Value×Nat)=>match x with|(c,j)=>cs.setIfInBounds ((segs.take i).flatten.length+j) c) segs.flatten.toArray=(segs.set i v.cells.toList).flatten.toArray:=by rw[←Array.foldl_toList,Array.toList_zipIdx,e1,e2];exact SA _ v.cells.toList 0 _ _ _ rfl (by simp[hv])
  rw[hset];refine IP place r (segs.set i v.cells.toList) fun j u hj=> ?_;obtain⟨hj',hp',hu⟩:=h j u (by simp[hj]);have hlen:∀ h:i<segs.length,v.cells.toList.length=segs[i].length:=fun _=>by simp[hv]
  refine⟨by simpa using hj',?_,?_⟩
  ·rw[hp',Ya segs i j _ hlen];congr 2;rw[List.getElem_set];split
   ·subst_vars;simp[hv]
   ·rfl
  ·rw[hu,List.getElem_set];split
   ·subst_vars;simp[hv]
   ·rfl
theorem zaO {e:Ty} (hs:SimG C g S H a w):∀ {parts:List (Nat×Operand)} {i:Nat} {fp fp':List HLoc} {xs:List e.den} {hw:HW},
  (zl e (parts.map fun p=>(p.1,evS S p.2)) i).run H fp=some ((xs,hw),fp')→
  bC H hw∧xs.length=parts.length∧(∀ j p,parts[j]? = some p→p.1=i+j)∧∀ fl own,l9 H hw { g with fl:=fl,own:=own } (view fl w)→(view g.fl w).le (view fl w)→
   ∀ (j:Nat) p (x:e.den),parts[j]? = some p→xs[j]? = some x→bM (view fl w) e (a.eval p.2) x:=by
 intro parts;induction parts with
 | nil=>intro i fp fp' xs hw h;obtain⟨e1,_⟩:=af h;cases e1;exact⟨trivial,rfl,fun j p hj=>by simp at hj,fun _ _ _ _ j p _ hj=>by simp at hj⟩
 | cons p r ih=>
  intro i fp fp' xs hw h;simp only[map_cons,zl] at h;cases hb:beq i p.1 with
  | false=>rw[hb] at h;exact(ae h).elim
  | true=>
   rw[hb] at h;obtain⟨⟨x,hw1⟩,fp1,k1,k2⟩:=ah h;obtain⟨⟨ys,hw2⟩,fp2,k3,k4⟩:=ah k2;obtain⟨e1,_⟩:=af k4;cases e1;obtain⟨q1,q2,q3,q4⟩:=ih k3;obtain⟨p1,p2⟩:=oz hs k1 (hs.ev p.2).1 (hs.ev p.2).2;refine⟨bC.append.2 ⟨p1,q1⟩,by simp[q2],fun j p' hj=> ?_,fun fl own hR hle j p' z hj hz=> ?_⟩
   ·cases j with
    | zero=>simp only[getElem?_cons_zero,Option.some.injEq] at hj;subst hj;rw[eq_of_beq_eq_true hb];rfl
    | succ j=>have:=q3 j p' (by simpa using hj);omega
   ·cases j with
    | zero=>simp only[getElem?_cons_zero,Option.some.injEq] at hj hz;subst hj hz;exact p2 fl own (hR.sub fun _ hm=>List.mem_append_left _ hm) hle
    | succ j=>exact q4 fl own (hR.sub fun _ hm=>List.mem_append_right _ hm) hle j p' z (by simpa using hj) (by simpa using hz)
theorem yw {iv:IV} {e:Ty}:∀ {xs:List e.den} {css:List (List Value)} (rest:List Value),xs.length=css.length→(∀ (j:Nat) (x:e.den) (c:List Value),xs[j]? = some x→css[j]? = some c→aJ iv e c x)→kQ iv e xs (css.flatten++rest)
 | [],css,rest,hl,h=>fun i x hx=>by simp at hx
 | x::xs,c::css,rest,hl,h=>fun i y hy=>by
  have hc:aJ iv e c x:=h 0 x c rfl rfl;cases i with
  | zero=>simp only[getElem?_cons_zero,Option.some.injEq] at hy;subst hy;refine⟨c,fun j v hj=> ?_,hc⟩;have hjl:j<c.length:=(List.getElem?_eq_some_iff.1 hj).1;simp only[Nat.zero_mul,zero_add,flatten_cons,append_assoc];rw[getElem?_append_left hjl];exact hj
  | succ i=>obtain⟨d,hd1,hd2⟩:=yw (xs:=xs) (css:=css) rest (by simpa using hl) (fun j z cz h1 h2=>h (j+1) z cz (by simpa using h1) (by simpa using h2)) i y (by simpa using hy);refine⟨d,fun j v hj=> ?_,hd2⟩;have:=hd1 j v hj;simp only[flatten_cons,append_assoc];have hcl:=hc.length;rw[getElem?_append_right (by rw[add_mul,hcl];omega)];rwa[show(i+1)*e.size+j-c.length=i*e.size+j from by rw[add_mul,hcl];omega]
theorem jE {n:Nat}:∀ {css:List (List Value)},(∀ c∈css,c.length=n)→css.flatten.length=css.length*n
 | [],_=>by simp
 | c::css,h=>by have:=jE (n:=n) (css:=css) fun d hd=>h d (by simp[hd]);have hc:=h c (by simp);simp only[flatten_cons,length_append,length_cons,this,hc,add_mul];omega
theorem OE:∀ (parts:List (Nat×Value)) (i:Nat) (done rest:List (List Value)),done.length=i→rest.length=parts.length→(∀ (j:Nat) p,parts[j]? = some p→p.1=i+j)→
  oC (done++rest) parts=done++parts.map fun p=>p.2.cells.toList
 | [],i,done,rest,_,h2,_=>by have:rest=[]:=eq_nil_of_length_eq_zero h2;subst this;simp[oC]
 | (k,v)::r,i,done,x::rest,h1,h2,h3=>by
  have hk:k=i:=by have:=h3 0 (k,v) rfl;simpa using this
  subst hk;have e:(done++x::rest).set k v.cells.toList=(done++[v.cells.toList])++rest:=by rw[←h1];simp
  simp only[oC,e];rw[OE r (k+1) (done++[v.cells.toList]) rest (by simp[h1]) (by simpa using h2) (fun j p hj=>by have:=h3 (j+1) p (by simpa using hj);omega)];simp
theorem I8 (z:List Value) (hz:z≠[]):∀ (n:Nat),((Array.range (n*z.length)).map (fun i=>z.toArray[i % z.toArray.size]!))=(replicate n z).flatten.toArray:=by
 intro n;induction n with
 | zero=>simp
 | succ n ih=>
  have hlen:0<z.length:=List.length_pos_iff.2 hz;apply ext';have ih':=congrArg Array.toList ih;simp only[toList_map,Array.toList_range,List.size_toArray] at ih' ⊢;rw[add_mul,one_mul,List.range_add,List.map_append,ih'];rw[List.replicate_succ',List.flatten_append];simp only[flatten_cons,List.flatten_nil,append_nil];congr 1;rw[map_map];apply ext_getElem?;intro j;by_cases hj:j<z.length
  ·simp[hj,Nat.mod_eq_of_lt hj]
  ·simp[hj]
theorem yc (H:HLoc→SV) (hw:HW) (l:HLoc) (v:SV):puts H (hw++[(l,v)])=ak (puts H hw) l v:=by rw[gX];rfl
theorem CW {hw:HW} {l:HLoc} (hl:H l=.bot) (hp:bC H hw):puts H hw l=.bot:=by
 have:∀ {hw:HW} {H:HLoc→SV},H l=.bot→bC H hw→puts H hw l=.bot:=by
  intro hw;induction hw with
  | nil=>intro H h _;exact h
  | cons x r ih=>
   rintro H h ⟨⟨rr,p,e,y,h1,h2,h3⟩,hr⟩;obtain⟨k,v⟩:=x;simp only at h1 h2 h3;subst h1 h2;simp only[puts];refine ih ?_ (bC.upd h3 hr);rw[ay]
   ·exact h
   ·intro e';rw[e'] at h;exact h3.ne_bot h
 exact this hl hp
theorem GI {t e':TypeId} {e:Ty} (hu:P.underlying t=some (.slice e')) (hE:TyOk P tab e' e) {len:Nat} {parts:Array (Nat×Operand)} (hlen:len=parts.toList.length) (hsz:len*e.size≤16777216)
  (q3:∀ j p,parts.toList[j]? = some p→p.1=0+j) (hvs:∀ p∈parts.toList,(a.eval p.2).cells.toList.length=e.size) :
  (buildSlice t len (parts.map fun(i,x)=>(i,a.eval x))).run P w =
   .ok (.slice (some ⟨w.heap.size,0,none⟩) len len) (w.alloc (.cells (parts.toList.map fun p=>(a.eval p.2).cells.toList).flatten.toArray e')):=by
 have hz:(zeroCells e).length=e.size:=(kK (iv:=fun _ _=>none)).length;have hfill:fill (fun i=>some (i*e.size,e.size)) (replicate len (zeroCells e)).flatten.toArray (parts.map fun(i,x)=>(i,a.eval x)).toList =
   some (parts.toList.map fun p=>(a.eval p.2).cells.toList).flatten.toArray:=by
  rw[IP]
  ·rw[toList_map];have:=OE (parts.toList.map fun p=>(p.1,a.eval p.2)) 0 [] (replicate len (zeroCells e)) rfl (by simp[hlen]) (fun j p hj=>by
    rw[getElem?_map] at hj;obtain⟨p',hp',rfl⟩:=map_eq_some_iff.1 hj;exact q3 j p' hp')
   simp only[nil_append] at this;rw[this,map_map];rfl
  ·intro i u hm;simp only[toList_map,mem_map] at hm;obtain⟨p,hp,hpe⟩:=hm;cases hpe;obtain⟨j,hj⟩:=getElem?_of_mem hp;have hij:=q3 j p hj;have hjl:j<parts.toList.length:=(List.getElem?_eq_some_iff.1 hj).1;have hil:p.1<len:=by omega
   refine⟨by simpa using hil,?_,?_⟩
   ·simp only[List.getElem_replicate,hz,List.take_replicate,List.length_flatten,List.map_replicate,List.sum_replicate_nat,min_eq_left (Nat.le_of_lt hil)]
   ·simp only[List.getElem_replicate,hz];have:=hvs p hp;simpa using this
 have hcells:(Array.range (len*e.size)).map (fun x=>(if len*e.size=0 then #[] else(zeroCells e).toArray)[x % (if len*e.size=0 then #[] else(zeroCells e).toArray).size]!)=(replicate len (zeroCells e)).flatten.toArray:=by
  by_cases h0:len*e.size=0
  ·rw[h0];have hlz:(replicate len (zeroCells e)).flatten.length=0:=by rw[jE (n:=e.size) (by intro c hc;rw[(mem_replicate.1 hc).2];exact hz)];simpa using h0
   rw[eq_nil_of_length_eq_zero hlz];simp
  ·rw[if_neg h0,←hz];exact I8 (zeroCells e) (fun e0=>by rw[e0] at hz;simp at hz;rw[←hz] at h0;simp at h0) len
 simp only[buildSlice,run_bind,run_underlying hu,andThen_ok,hE.run_sizeOf];rw[if_neg (show ¬ len*e.size>2 ^ 24 by omega)];by_cases h0:len*e.size=0
 ·simp only[if_pos h0] at hcells ⊢;simp only[run_bind,run_pure,andThen_ok,hcells,hfill,newRow,run_newObj];rfl
 ·simp only[if_neg h0] at hcells ⊢;simp only[run_bind,hE.run_zero,run_pure,andThen_ok,iw hz (kK (iv:=fun _ _=>none)).ones,hcells,hfill,newRow,run_newObj];rfl
theorem H9 {mk:Nat→HLoc}:∀ {t:Ty} {i:Nat} {fp fp':List HLoc} {x:t.den} {qo:Option Nat},(vZ mk t i).run H fp=some ((x,qo),fp')→
  (∀ r,qo=some r→∃ e l,H (.row r)=.row false e l)∧∀ g iv cs,dF (fun j=>H (mk j)) g iv t cs i→dQ iv (fun u v y=>(v=.slice none 0 0∧y=[])∨∃ r,qo=some r∧v=g.hd r∧H (.row r)=.row false u y) t cs x:=by
 intro t;induction t with
 | unit=>intro i fp fp' x qo h;obtain⟨h2,_⟩:=af h;cases h2;exact⟨fun r h=>(by cases h),fun g iv cs hc=>hc⟩
 | pair a b ha hb=>
  intro i fp fp' x qo h;simp only[vZ,Rd.run] at h;obtain⟨⟨y,q0⟩,fp1,h1,h⟩:=ah h;obtain⟨i1,i2⟩:=hb h1;generalize hv:H (mk i)=vv at h;cases vv with
  | nils=>
   obtain⟨u,rfl⟩:∃ u,a=.slice u:=by cases a<;>first|exact(ae h).elim|exact⟨_,rfl⟩
   obtain⟨e1,_⟩:=af h;cases e1;refine⟨i1,fun g iv cs ⟨c1,c2,e,k1,k2,k3,k4⟩=>⟨c1,c2,e,?_,i2 g iv c2 k4⟩⟩;dsimp only at k3;rw[hv] at k3;have hm:=ja (t:=.slice u) rfl k1;exact⟨mkV (.slice u) c1,hm,by rw[show mkV (.slice u) c1=_ from k3];rfl,.inl ⟨k3,rfl⟩⟩
  | hdr r=>
   obtain⟨u,rfl⟩:∃ u,a=.slice u:=by cases a<;>first|exact(ae h).elim|exact⟨_,rfl⟩
   simp only[Rd.run] at h;split at h
   ·rename_i p e l hrow;cases p with
    | true=>exact(ae h).elim
    | false=>
     simp only[cond_false] at h;obtain⟨z,fp2,h2,h⟩:=ah h;obtain⟨h2,_⟩:=aS h2;obtain⟨he,rfl⟩:=dm h2;cases he;cases q0 with
     | some _=>exact(ae h).elim
     | none=>obtain⟨e1,_⟩:=af h;cases e1;refine⟨fun r' h=>by cases h;exact⟨_,_,hrow⟩,fun g iv cs ⟨c1,c2,e,k1,k2,k3,k4⟩=>⟨c1,c2,e,?_,(i2 g iv c2 k4).mono (IV.le.refl _) fun u v y hq=>hq.imp id fun⟨r,h,_⟩=>by cases h⟩⟩;dsimp only at k3;rw[hv] at k3;have hm:=ja (t:=.slice u) rfl k1;refine⟨mkV (.slice u) c1,hm,?_,.inr ⟨r,rfl,k3,hrow⟩⟩;exact k2 _ (by rw[hm];simp[mkV,Ty.agg])
   ·exact(ae h).elim
  | pv t x'=>
   cases hf:bu a with
   | false=>rw[hf] at h;exact(ae h).elim
   | true=>rw[hf] at h;simp only[cond_true] at h;obtain⟨z,fp2,h2,h⟩:=ah h;obtain⟨h2,_⟩:=aS h2;obtain⟨e1,_⟩:=af h;cases e1;refine⟨i1,fun g iv cs ⟨c1,c2,e,k1,k2,k3,k4⟩=>⟨c1,c2,e,?_,i2 g iv c2 k4⟩⟩;dsimp only at k3;rw[hv] at k3;have hc:=(jP h2 k3).cells;rw[iw k1 k2] at hc;exact(mO hf).2 hc
  | _=>exact(ae h).elim
 | _=>intro i fp fp' x qo h;exact(ae h).elim
def Vp (H:HLoc→SV):Option Nat→HLoc→SV
 | none=>H
 | some r=>ak H (.row r) .und
theorem SimG.newDeep (hs:SimG C g S H a w) {id:Nat} (hid:H (.row id)=.bot) (cs:List Value) (el:TypeId) {e:Ty} {x:e.den} (hc:cs.length=e.size) {ro:Option Nat} (hro:∀ r,ro=some r→∃ u y,H (.row r)=.row false u y)
  (hH:dQ (view g.fl w) (fun u v y=>(v=.slice none 0 0∧y=[])∨∃ r,ro=some r∧v=g.hd r∧H (.row r)=.row false u y) e cs x) (hsl:ro≠none→∃ p,slF e=some p) :
  ∃ g',SimG C g' S (ak (Vp H ro) (.row id) (.deep e [x] 1 none)) a (w.alloc (.cells cs.toArray el))∧g'.hd id=.slice (some ⟨w.heap.size,0,none⟩) 1 1:=by
 have hVle:∀ f,(view g.fl w).le (view (aA g.fl w.heap.size f) (w.alloc (.cells cs.toArray el))):=fun f k p v hv=>by obtain⟨q1,q2⟩:=Ip.1 hv;have hk:k<w.heap.size:=block_lt_of_cell? (a:=⟨k,p,none⟩) w q2;exact Ip.2 ⟨by rw[bn _ _ (show k≠w.heap.size by omega)];exact q1,(cell?_of_block (a:=⟨k,p,none⟩) (RowKit.Below.heap_alloc w _ k hk)).trans q2⟩
 have hblk:∀ k cs',k<w.heap.size→Blk w k cs'→Blk (w.alloc (.cells cs.toArray el)) k cs':=fun k cs' hk h=>Blk.heap (RowKit.Below.heap_alloc w _ k hk) cs' h;have key:∀ {H1:HLoc→SV} {own1:Nat→Option Own} {bo:Option Nat},SimG C { g with own:=own1 } S H1 a w→H1 (.row id)=.bot→(∀ b,bo=some b→own1 b=some (.row id)∧g.fl b=0∧b<w.heap.size)→
   dQ (view g.fl w) (fun u v y=>gI g.fl own1 w v (.row id) u y bo) e cs x→∃ g',SimG C g' S (ak H1 (.row id) (.deep e [x] 1 none)) a (w.alloc (.cells cs.toArray el))∧g'.hd id=.slice (some ⟨w.heap.size,0,none⟩) 1 1:=by
  intro H1 own1 bo hs1 hid1 hbo hR;have h1:=hs1.newBlk cs.toArray el (0,0) 0 (.row id);have hA:GAgree H1 { g with fl:=aA g.fl w.heap.size 0,own:=aA own1 w.heap.size (some (.row id)) }
    { g with fl:=aA g.fl w.heap.size 0,own:=aA own1 w.heap.size (some (.row id)),hd:=aA g.hd id (.slice (some ⟨w.heap.size,0,none⟩) 1 1) }:=
   ⟨fun _ _=>rfl,fun r hr=>bn _ _ fun e=>hr (e▸hid1),fun _ _ _=>rfl,rfl⟩
  have h2:=h1.grow hA (IV.le.refl _) (fun _ _ _ h=>⟨rfl,h,rfl⟩) (fun _ _ _ h=>⟨rfl,h,rfl⟩) h1.own h1.old h1.ext;refine⟨_,h2.setDeep (r:=id) (e:=e) (l:=[x]) (n:=1) (h:=none) ⟨le_refl _,fun k z hk=>by simp[fB] at hk,.inr ⟨w.heap.size,1,cs,fun i=>if i=0 then bo else none,by simp,by simp,Blk.new w cs el (0,0) (xA.zero _),by simpa using hc,by simp,by simp,fun i c hi=> ?_,fun i j c hi hj=> ?_,fun i y hi=> ?_⟩⟩ (fun _ _ h=>by cases h),by simp⟩
  ·dsimp only at hi;split at hi
   ·obtain⟨q1,q2,q3⟩:=hbo c hi;have hne:c≠w.heap.size:=by omega
    exact⟨hne,(bn _ _ hne).trans q1,(bn _ _ hne).trans q2⟩
   ·cases hi
  ·dsimp only at hi hj;split at hi
   ·split at hj
    ·omega
    ·cases hj
   ·cases hi
  ·cases i with
   | succ i=>simp at hi
   | zero=>
    simp only[getElem?_cons_zero,Option.some.injEq] at hi;subst hi;refine⟨cs,fun j v hj=>by simpa using hj,hR.mono (hVle 0) fun u v y hq=>.inr (.inl ⟨fun _ h=>by simp[fB] at h,by omega,?_⟩)⟩;simp only[if_true];exact hq.to (hVle 0) fun b hb=>by
     obtain⟨q1,q2,q3⟩:=hbo b hb;have hne:b≠w.heap.size:=by omega
     exact⟨fun cs'=>hblk b cs' q3,(bn _ _ hne).trans q1,(bn _ _ hne).trans q2⟩
 cases ro with
 | none=>
  refine key (bo:=none) hs hid (fun b h=>by cases h) (hH.mono (IV.le.refl _) fun u v y hq=> ?_);rcases hq with⟨h1,h2⟩|⟨r,h,_⟩
  ·exact .inl ⟨h1,h2,rfl⟩
  ·cases h
 | some r=>
  obtain⟨u,y,hr⟩:=hro r rfl;obtain⟨⟨off,u'⟩,hp⟩:=hsl (by simp);obtain⟨bo,hB,hbo⟩:=iq.rowB (hs.rows r false u y hr);have hri:r≠id:=fun e=>by rw[e,hid] at hr;cases hr
  have hd:=hs.drop (l:=.row r) (.inr ⟨r,rfl⟩);have hid1:ak H (.row r) .und (.row id)=.bot:=by rw[ay _ _ (by simpa using fun e=>hri e.symm)];exact hid
  let own1:Nat→Option Own:=fun c=>if bo=some c then some (.row id) else g.own c
  have ht:=hd.turnAll (o:=.row r) (fl':=g.fl) (own':=own1) (w':=w) lF (fun _ _ _=>rfl) (fun c hc=>if_neg fun h=>hc (hbo c h).1) (fun _ _=>rfl) rfl ⟨rfl,rfl,rfl⟩ fun _ _ _ _ hp hv=>⟨hp,hv⟩
  have hsub:∃ y0,sub e x off (.slice u')=some y0:=CQ x hp;obtain⟨y0,hy0⟩:=hsub;obtain⟨c1,v,c2,e1,e2,e3,e4⟩:=hH.getSl hy0;rcases e4 with⟨q1,q2⟩|⟨r',q0,q1,q2⟩
  ·exact key (bo:=none) ht hid1 (fun b h=>by cases h) (hH.newQ hp hy0 e1 e2 (.inl ⟨q1,q2,rfl⟩))
  ·cases q0;rw[hr] at q2;cases q2;refine key (bo:=bo) ht hid1 (fun b h=>⟨if_pos h,(hbo b h).2,hs.unbo (hbo b h).1⟩) (hH.newQ hp hy0 e1 e2 ?_);rw[q1];exact hB.to (IV.le.refl _) fun b h=>⟨fun _ h=>h,if_pos h,(hbo b h).2⟩
theorem YM {t e':TypeId} {e:Ty} (hu:P.underlying t=some (.slice e')) (hE:TyOk P tab e' e) (hs:SimG C g S H a w) {id len:Nat} {parts:Array (Nat×Operand)} {v:SV} {hw:HW} {fp fp':List HLoc}
  (h:(DW id e len (parts.toList.map fun p=>(p.1,evS S p.2))).run H fp=some ((v,hw),fp')):dw C S H a ((buildSlice t len (parts.map fun(i,x)=>(i,a.eval x))).run P w) v hw:=by
 unfold DW at h;split at h
 case h_2=>exact(ae h).elim
 rename_i d t' hpl;obtain⟨o,hpl',ho⟩:∃ o,parts.toList=[(0,o)]∧evS S o=.agg d t':=by
  cases hL:parts.toList with
  | nil=>rw[hL] at hpl;simp at hpl
  | cons p r=>
   rw[hL] at hpl;cases r with
   | cons _ _=>simp at hpl
   | nil=>simp only[map_cons,map_nil,List.cons.injEq,Prod.mk.injEq,and_true] at hpl;exact⟨p.2,by rw[←hpl.1],hpl.2⟩
 cases hb:cond (beq len 1) (cond (t'.beq e) (ble e.size 16777216) false) false with
 | false=>rw[hb] at h;exact(ae h).elim
 | true=>
  rw[hb] at h;simp only[cond_true] at h;obtain⟨b1,b2⟩:=az hb;obtain⟨b2,b3⟩:=az b2;obtain rfl:=eq_of_beq_eq_true b1;obtain rfl:=Ty.beq_eq b2;have hsz:=le_of_ble_eq_true b3;obtain⟨⟨x,ro⟩,fp1,k1,h⟩:=ah h;obtain⟨g1,g2⟩:=H9 k1;obtain⟨hid,h⟩:=fH h;obtain⟨hSR,_⟩:=hs.ev o;rw[ho] at hSR;obtain⟨s1,s2,s3⟩:=hSR;have hH:=g2 g (view g.fl w) _ (qR hs (d:=d) s3);have hc:(a.eval o).cells.toList=fK (g.cv d) t' 0:=by rw[s2];rfl
  have hlen:=hH.length;have hrun:=GI (P:=P) (a:=a) (w:=w) (t:=t) (len:=1) (parts:=parts) hu hE (by rw[hpl'];rfl) (by omega) (fun j p hj=>by
   rw[hpl'] at hj;cases j with
   | zero=>simp only[getElem?_cons_zero,Option.some.injEq] at hj;subst hj;rfl
   | succ j=>simp at hj) (fun p hp=>by rw[hpl'] at hp;simp at hp;subst hp;rw[hc];exact hlen)
  rw[hpl'] at hrun;simp only[map_cons,map_nil,flatten_cons,List.flatten_nil,append_nil,hc] at hrun;have fin:∀ {hw':HW},(ro≠none→∃ p,slF t'=some p)→puts H hw'=ak (Vp H ro) (.row id) (.deep t' [x] 1 none)→v=.hdr id→hw=hw'→dw C S H a ((buildSlice t 1 (parts.map fun(i,x)=>(i,a.eval x))).run P w) v hw:=by rintro hw' hsl hp rfl rfl;obtain⟨g',n1,n2⟩:=hs.newDeep hid (fK (g.cv d) t' 0) e' hlen g1 hH hsl;rw[←hp] at n1;exact⟨_,_,g',hrun,n1,n2.symm,by simp only[aG];rw[hp,aK];exact SV.noConfusion⟩
  cases ro with
  | none=>obtain⟨e1,_⟩:=af h;cases e1;exact fin (fun h=>absurd rfl h) rfl rfl rfl
  | some r=>
   simp only at h;cases hsl:slF t' with
   | none=>rw[hsl] at h;exact(ae h).elim
   | some p=>rw[hsl] at h;obtain⟨e1,_⟩:=af h;cases e1;exact fin (fun _=>⟨p,hsl⟩) rfl rfl rfl
theorem XQ (hTab:TabOk P tab) (hs:SimG C g S H a w) {id:Nat} {t:TypeId} {len:Nat} {parts:Array (Nat×Operand)} {v:SV} {hw:HW} {fp fp':List HLoc} {VV:Rd (SV×HW)}
  (hV:∀ {e:Ty} {e':TypeId},P.underlying t=some (.slice e')→TyOk P tab e' e→e.size=1→VV.run H fp=some ((v,hw),fp')→dw C S H a ((buildSlice t len (parts.map fun(i,x)=>(i,a.eval x))).run P w) v hw)
  (h:(match tl tab t with
   | some (.slice e)=>cond (nz t tab.vecs) (cond (beq e.size 1) VV .fail) <| cond (nz t tab.deeps) (DW id e len (parts.toList.map fun p=>(p.1,evS S p.2))) <| cond (beq len parts.toList.length) (cond (ble (len*e.size) 16777216)
     ((zl e (parts.toList.map fun p=>(p.1,evS S p.2)) 0).bind fun q=>fresh (.row id) (.ret (.hdr id,q.2++[(.row id,.row false e q.1)]))) .fail) .fail
   | _=>.fail:Rd (SV×HW)).run H fp=some ((v,hw),fp')) :
  dw C S H a ((buildSlice t len (parts.map fun(i,x)=>(i,a.eval x))).run P w) v hw:=by
 split at h
 ·rename_i e ht;obtain⟨e',hu,he'⟩:=(hTab.tys ht).slice;have hE:=hTab.tys he';cases hmv:nz t tab.vecs with
  | true=>
   rw[hmv] at h;simp only[cond_true] at h;cases hsz:beq e.size 1 with
   | false=>rw[hsz] at h;exact(ae h).elim
   | true=>rw[hsz] at h;exact hV hu hE (eq_of_beq_eq_true hsz) h
  | false=>
  rw[hmv] at h;simp only[cond_false] at h;cases hmt:nz t tab.deeps with
  | true=>rw[hmt] at h;exact YM hu hE hs h
  | false=>
  rw[hmt] at h;simp only[cond_false] at h;cases hb:beq len parts.toList.length with
  | false=>rw[hb] at h;exact(ae h).elim
  | true=>
   rw[hb] at h;cases hb2:ble (len*e.size) 16777216 with
   | false=>rw[hb2] at h;exact(ae h).elim
   | true=>
    rw[hb2] at h;have hlen:=eq_of_beq_eq_true hb;have hsz:=le_of_ble_eq_true hb2;obtain⟨⟨xs,hw1⟩,fp1,k1,k2⟩:=ah h;obtain⟨hid,k3⟩:=fH k2;obtain⟨e1,_⟩:=af k3;cases e1;obtain⟨q1,q2,q3,q4⟩:=zaO hs k1;obtain⟨fl,own,m1,m2⟩:=hs.pubs q1;have hR:=m1.rowsRd q1;have hz:(zeroCells e).length=e.size:=(kK (iv:=view fl w)).length;have hvs:∀ p∈parts.toList,(a.eval p.2).cells.toList.length=e.size:=by
     intro p hp;obtain⟨j,hj⟩:=getElem?_of_mem hp;have hj':j<xs.length:=by rw[q2];exact(List.getElem?_eq_some_iff.1 hj).1
     exact(q4 fl own hR m2 j p xs[j] hj (getElem?_eq_getElem hj')).cells.length
    have hrun:=GI (P:=P) (a:=a) (w:=w) hu hE hlen hsz q3 hvs;have hflat:(parts.toList.map fun p=>(a.eval p.2).cells.toList).flatten.length=len*e.size:=by rw[jE (n:=e.size) (by intro c hc;obtain⟨p,hp,rfl⟩:=mem_map.1 hc;exact hvs p hp),length_map,hlen]
    have hElems:kQ (view fl w) e xs (parts.toList.map fun p=>(a.eval p.2).cells.toList).flatten:=by have:=yw (iv:=view fl w) (e:=e) (xs:=xs) (css:=parts.toList.map fun p=>(a.eval p.2).cells.toList) [] (by simp[q2]) (fun j x c h1 h2=>by rw[getElem?_map] at h2;obtain⟨p,hp,rfl⟩:=map_eq_some_iff.1 h2;exact(q4 fl own hR m2 j p x hp h1).cells);simpa using this
    obtain⟨g',n1,n2⟩:=m1.newRow (id:=id) (CW hid q1) _ e' (0,0) (xA.zero _) (cap:=len) (by rw[q2,hlen];exact le_refl _) hflat false hElems;rw[←yc] at n1;refine dw.row (pub:=false) (e:=e) (l:=xs) n1 ?_ (by rw[yc,aK]);rw[hrun,n2,q2,hlen]
 ·exact(ae h).elim
end
section
variable {P:Program} {tab:Tab} {C:Ctx} {g:Gh} {S:Nat→SV} {H:HLoc→SV} {a:Act} {w:World}
theorem flat_get {n:Nat}:∀ {css:List (List Value)} {j:Nat} {v:Value},(∀ c∈css,c.length=n)→css.flatten[j]? = some v→∃ i c r,j=i*n+r∧css[i]? = some c∧c[r]? = some v
 | [],j,v,_,h=>by simp at h
 | c::css,j,v,hl,h=>by
  have hc:=hl c (by simp);by_cases hj:j<c.length
  ·rw[flatten_cons,getElem?_append_left hj] at h;exact⟨0,c,j,by simp,rfl,h⟩
  ·rw[flatten_cons,getElem?_append_right (by omega)] at h;obtain⟨i,d,r,h1,h2,h3⟩:=flat_get (n:=n) (fun d hd=>hl d (by simp[hd])) h;exact⟨i+1,d,r,by rw[add_mul];omega,by simpa using h2,h3⟩
theorem Hq {iv:IV} {e:Ty} {l:List e.den} {w:World} {b o:Nat} (h:∀ (i:Nat) (x:e.den),l[i]? = some x→∃ c,(∀ j v,c[j]? = some v→w.cell? ⟨b,o+i*e.size+j,none⟩=some v)∧aJ iv e c x) :
  ∃ css:List (List Value),css.length=l.length∧(∀ (j:Nat) (x:e.den) (c:List Value),l[j]? = some x→css[j]? = some c→aJ iv e c x)∧(∀ c∈css,c.length=e.size)∧
   (loadCells ⟨b,o,none⟩ (l.length*e.size)).run P w=.ok css.flatten.toArray w:=by
 have h':∀ i:Nat,∃ c:List Value,∀ x:e.den,l[i]? = some x→(∀ j v,c[j]? = some v→w.cell? ⟨b,o+i*e.size+j,none⟩=some v)∧aJ iv e c x:=by
  intro i;cases hi:l[i]? with
  | none=>exact⟨[],fun x hx=>by simp at hx⟩
  | some x=>obtain⟨c,h1,h2⟩:=h i x hi;exact⟨c,fun y hy=>by cases hy;exact⟨h1,h2⟩⟩
 have hget:∀ (j:Nat) (c:List Value),((range l.length).map fun i=>Classical.choose (h' i))[j]? = some c→∃ x,l[j]? = some x∧(∀ k v,c[k]? = some v→w.cell? ⟨b,o+j*e.size+k,none⟩=some v)∧aJ iv e c x:=by
  intro j c hc;rw[getElem?_map] at hc;obtain⟨i,hi,rfl⟩:=map_eq_some_iff.1 hc;have hjl:j<l.length:=by have:=(List.getElem?_eq_some_iff.1 hi).1;simpa using this
  have hij:i=j:=by rw[List.getElem?_range hjl] at hi;exact(Option.some.inj hi).symm
  subst hij;have:=Classical.choose_spec (h' i) l[i] (getElem?_eq_getElem hjl);exact⟨l[i],getElem?_eq_getElem hjl,this.1,this.2⟩
 have hlen:∀ c∈(range l.length).map fun i=>Classical.choose (h' i),c.length=e.size:=by intro c hc;obtain⟨j,hj⟩:=getElem?_of_mem hc;obtain⟨x,_,_,hr⟩:=hget j c hj;exact hr.length
 refine⟨_,by simp,?_,hlen,?_⟩
 ·intro j x c h1 h2;obtain⟨y,hy,_,hr⟩:=hget j c h2;rw[h1] at hy;cases hy;exact hr
 ·have:=run_loadCells_list (P:=P) w ⟨b,o,none⟩ ((range l.length).map fun i=>Classical.choose (h' i)).flatten (fun j v hj=>by
   rw[addr_add];obtain⟨i,c,r,rfl,h2,h3⟩:=flat_get hlen hj;obtain⟨x,_,hk,_⟩:=hget i c h2;rw[←add_assoc];exact hk r v h3)
  rw[jE hlen] at this;simpa using this
structure SrcOk (P:Program) (iv:IV) (w:World) (e:Ty) (vx:Value) (xs:List e.den):Prop where
 len:(Builtin.lenOf vx).run P w=.ok xs.length w
 cells:∃ css:List (List Value),css.length=xs.length∧(∀ (j:Nat) (x:e.den) (c:List Value),xs[j]? = some x→css[j]? = some c→aJ iv e c x)∧(∀ c∈css,c.length=e.size)∧
  (Builtin.firstCells e.size xs.length vx).run P w=.ok css.flatten.toArray w
theorem SC (hs:SimG C g S H a w) {r:Nat} {pub:Bool} {e:Ty} {l:List e.den} (hrow:H (.row r)=.row pub e l):SrcOk P (view g.fl w) w e (g.hd r) l:=by
 rcases hs.rows r pub e l hrow with⟨h1,rfl⟩|⟨b,cap,cs,h1,h2,h3,h4,h5,h6,h7⟩
 ·rw[h1];exact⟨rfl,[],rfl,fun j x c hx=>by simp at hx,fun c hc=>by simp at hc,rfl⟩
 ·rw[h1];refine⟨rfl,?_⟩;obtain⟨css,k1,k2,k3,k4⟩:=Hq (P:=P) (iv:=view g.fl w) (e:=e) (l:=l) (w:=w) (b:=b) (o:=0) (fun i x hx=>by
   obtain⟨c,c1,c2⟩:=h7 i x hx;exact⟨c,fun j v hj=>by rw[h3.cell,zero_add];exact c1 j v hj,c2⟩)
  exact⟨css,k1,k2,k3,k4⟩
theorem Qw (hs:SimG C g S H a w) {e:Ty} {x:SV} {vx:Value} {xs:List e.den} {fp fp':List HLoc} (h:(listOf e x).run H fp=some (xs,fp')) (hx:SR g (view g.fl w) x vx) :
  SrcOk P (view g.fl w) w e vx xs:=by
 cases x with
 | nils=>obtain⟨e1,_⟩:=af h;subst e1;rw[show vx=_ from hx];exact⟨rfl,[],rfl,fun j x c hx=>by simp at hx,fun c hc=>by simp at hc,rfl⟩
 | pv t y=>
  obtain⟨h1,_⟩:=aS h;have hv:=jP h1 hx;obtain⟨ad,len,cap,rfl,k2,k3,k4,k5⟩:=qN hv;subst k2;refine⟨rfl,?_⟩;cases ad with
  | none=>
   have hxs:xs=[]:=by
    cases xs with
    | nil=>rfl
    | cons x r=>obtain⟨bl,o,c,hn,_⟩:=k5 0 x rfl;cases hn
   subst hxs;exact⟨[],rfl,fun j x c hx=>by simp at hx,fun c hc=>by simp at hc,rfl⟩
  | some ad=>
   obtain⟨bl,o,sp⟩:=ad;by_cases hxs:xs=[]
   ·subst hxs;refine⟨[],rfl,fun j x c hx=>by simp at hx,fun c hc=>by simp at hc,?_⟩;simp[Builtin.firstCells,loadCells,loadCellsFrom]
   ·obtain⟨x0,r0,hx0⟩:∃ x0 r0,xs=x0::r0:=by cases xs with|nil=>exact absurd rfl hxs|cons x r=>exact⟨x,r,rfl⟩
    have hsp:sp=none:=by obtain⟨bl',o',c,hn,_⟩:=k5 0 x0 (by rw[hx0];rfl);cases hn;rfl
    subst hsp;exact Hq (P:=P) (iv:=view g.fl w) (e:=e) (l:=xs) (w:=w) (b:=bl) (o:=o) (fun i x hx=>by obtain⟨bl',o',c,hn,c1,c2⟩:=k5 i x hx;cases hn;exact⟨c,fun j v hj=>P9 c1 j v hj,c2⟩)
 | lv t y=>
  simp only[listOf] at h;cases hf:bu e with
  | false=>rw[hf] at h;exact(ae h).elim
  | true=>
  rw[hf] at h;obtain⟨h1,_⟩:=aS h;have hv:=jP h1 (show bM g.lv _ _ _ from hx);obtain⟨ad,len,cap,rfl,k2,k3,k4,k5⟩:=qN hv;subst k2;refine⟨rfl,?_⟩;cases ad with
  | none=>
   have hxs:xs=[]:=by
    cases xs with
    | nil=>rfl
    | cons x r=>obtain⟨bl,o,c,hn,_⟩:=k5 0 x rfl;cases hn
   subst hxs;exact⟨[],rfl,fun j x c hx=>by simp at hx,fun c hc=>by simp at hc,rfl⟩
  | some ad=>
   obtain⟨bl,o,sp⟩:=ad;by_cases hxs:xs=[]
   ·subst hxs;refine⟨[],rfl,fun j x c hx=>by simp at hx,fun c hc=>by simp at hc,?_⟩;simp[Builtin.firstCells,loadCells,loadCellsFrom]
   ·obtain⟨x0,r0,hx0⟩:∃ x0 r0,xs=x0::r0:=by cases xs with|nil=>exact absurd rfl hxs|cons x r=>exact⟨x,r,rfl⟩
    have hsp:sp=none:=by obtain⟨bl',o',c,hn,_⟩:=k5 0 x0 (by rw[hx0];rfl);cases hn;rfl
    subst hsp;exact Hq (P:=P) (iv:=view g.fl w) (e:=e) (l:=xs) (w:=w) (b:=bl) (o:=o) (fun i x hx=>by obtain⟨bl',o',c,hn,c1,c2⟩:=k5 i x hx;cases hn;exact⟨c,fun j v hj=>hs.lvCell (c1 j v hj),c2.flat hf⟩)
 | hdr r=>
  simp only[listOf,Rd.run] at h;split at h
  ·rename_i p e' l hrow;obtain⟨h1,_⟩:=aS h;obtain⟨he,rfl⟩:=dm h1;cases he;rw[show vx=_ from hx];exact SC hs hrow
  ·exact(ae h).elim
 | _=>exact(ae h).elim
theorem Hg {α:Type} (f:α→Value):∀ l:List α,(l.map fun b=>[f b]).flatten=l.map f
 | []=>rfl
 | x::r=>by simp[Hg f r]
theorem Cc (hs:SimG C g S H a w) {e:Ty} {x:SV} {vx:Value} {xs:List e.den} {fp fp':List HLoc} (h:(DL e x).run H fp=some (xs,fp')) (hx:SR g (view g.fl w) x vx) :
  SrcOk P (view g.fl w) w e vx xs:=by
 unfold DL at h;split at h
 ·rename_i y;obtain⟨h1,_⟩:=aS h;obtain⟨he,rfl⟩:=dm h1;cases he;obtain⟨s,rfl,rfl⟩:=oh hx;have hl:s.data.toList.length=s.size:=by simp
  refine⟨by simp[Builtin.lenOf],s.data.toList.map fun b=>[.int .u8 (b.toNat:Nat)],by simp,?_,?_,?_⟩
  ·intro j x c h1 h2;rw[getElem?_map] at h2;have h1':s.data.toList[j]? = some x:=h1;rw[h1'] at h2;simp only[map_some,Option.some.injEq] at h2;subst h2;rfl
  ·intro c hc;obtain⟨b,_,rfl⟩:=mem_map.1 hc;rfl
  ·have hd:(s.extract 0 s.data.toList.length).data=s.data:=by simp
   show Result.ok ((s.extract 0 s.data.toList.length).data.map fun b=>int .u8 (b.toNat:Nat)) w=_;rw[hd];congr 1;apply ext';rw[toList_map];exact(Hg _ _).symm
 ·exact Qw hs h hx
theorem zcX {α:Type} {l x r:List α} (h:bF l x=some r):r=l++x∧l.length+x.length≤34359738368:=by
 unfold bF at h;cases hb:ble (l.length+x.length) bI with
 | false=>rw[hb] at h;exact absurd h (by simp)
 | true=>rw[hb] at h;exact⟨(Option.some.inj h).symm,le_of_ble_eq_true hb⟩
theorem RH:∀ e:Ty,1≤xx e
 | .int _|.u8|.bool|.str|.unit|.slice _|.tree _ _|.ptr _=>by simp[xx]
 | .pair a b=>by have:=RH a;simp only[xx];omega
theorem JE (e:Ty):1≤iG e∧iG e≤6144:=by
 have h:=RH e;cases e<;>simp only[iG]<;>omega
theorem zcY {α:Type} {l x r:List α} (h:o9 l x=some r):r=l++x∧l.length+x.length≤2000000000000:=by
 unfold o9 at h;cases hb:ble (l.length+x.length) MC with
 | false=>rw[hb] at h;exact absurd h (by simp)
 | true=>rw[hb] at h;exact⟨(Option.some.inj h).symm,le_of_ble_eq_true hb⟩
theorem JM:∀ {e:Ty} {l x r:List e.den},EO e l x=some r→r=l++x∧((l.length+x.length)+(l.length+x.length)/4+512)*iG e≤281474976710656:=by
 intro e l x r h;have gen:cond (cond (ble 101 (iG e)) (ble (iG e) 112) false) (o9 l x) (bF l x)=some r→r=l++x∧((l.length+x.length)+(l.length+x.length)/4+512)*iG e≤281474976710656:=fun h=>by
  cases hc:cond (ble 101 (iG e)) (ble (iG e) 112) false with
  | true=>
   rw[hc] at h;obtain⟨h1,h2⟩:=zcY h;have h3:iG e≤112:=by
    cases ha:ble 101 (iG e) with
    | true=>rw[ha] at hc;exact le_of_ble_eq_true hc
    | false=>rw[ha] at hc;exact noConfusion hc
   have h4:(l.length+x.length)+(l.length+x.length)/4+512≤2500000000512:=by omega
   exact⟨h1,le_trans (mul_le_mul h4 h3) (by decide)⟩
  | false=>
   rw[hc] at h;obtain⟨h1,h2⟩:=zcX h;have h4:(l.length+x.length)+(l.length+x.length)/4+512≤42949673472:=by omega
   exact⟨h1,le_trans (mul_le_mul h4 (JE e).2) (by decide)⟩
 cases e<;>first|exact gen h|skip
 replace h:uN l x=some r:=h;unfold uN at h;cases hb:ble (l.length+x.length) EM with
 | false=>rw[hb] at h;exact absurd h (by simp)
 | true=>rw[hb] at h;have h2:=le_of_ble_eq_true hb;simp only[EM] at h2;exact⟨(Option.some.inj h).symm,by simp only[iG];omega⟩
theorem QF (n:Nat):∀ (k c:Nat),c≤n+n/4+512→Builtin.growBy n k c≤n+n/4+512
 | 0,c,h=>h
 | k+1,c,h=>by
  unfold Builtin.growBy;split
  ·exact h
  ·exact QF n k _ (by omega)
theorem zdI {n old:Nat} (h:old<n):Builtin.nextslicecap n old≤n+n/4+512:=by
 unfold Builtin.nextslicecap;split
 ·omega
 ·split
  ·omega
  ·exact QF n 4 old (by omega)
theorem XR (z:List Value):∀ n:Nat,Builtin.zeroCells z.toArray n=(replicate n z).flatten.toArray:=by
 intro n;by_cases hz:z=[]
 ·subst hz;apply ext';simp[Builtin.zeroCells]
 ·exact I8 z hz n
theorem xU {t u et:TypeId} {e:Ty} (hu:P.underlying t=some (.slice et)) (hE:TyOk P tab et e) (hxt:P.underlying u=some .string∨∃ eu,P.underlying u=some (.slice eu))
  {base:Option Addr} {n cap m:Nat} {vx:Value} {cs:List Value} (hlen:(Builtin.lenOf vx).run P w=.ok m w) (hcs:(Builtin.firstCells e.size m vx).run P w=.ok cs.toArray w) (hfit:n+m≤cap) (ty:TypeId) :
  (Builtin.append_ #[t,u] ty #[.slice base n cap,vx]).run P w=(match base with|some ad=>(storeCells (ad.add (n*e.size)) cs).run P w|none=>.ok () w).andThen fun _ w'=>.ok (.slice base (n+m) cap) w':=by
 rcases hxt with hxt|⟨eu,hxt⟩<;>cases base<;>simp[Builtin.append_,run_underlying hu,run_underlying hxt,hE.run_sizeOf,hlen,hcs,hfit]
theorem GH {t u et:TypeId} {e:Ty} (hu:P.underlying t=some (.slice et)) (hE:TyOk P tab et e) (hxt:P.underlying u=some .string∨∃ eu,P.underlying u=some (.slice eu))
  {base:Option Addr} {n cap m:Nat} {vx:Value} {cs old:List Value} (hlen:(Builtin.lenOf vx).run P w=.ok m w) (hcs:(Builtin.firstCells e.size m vx).run P w.drew=.ok cs.toArray w.drew)
  (hold:(Builtin.firstCells e.size n (.slice base n cap)).run P w.drew=.ok old.toArray w.drew) (hfit:cap<n+m) (hb:((n+m)+(n+m)/4+512)*iG e≤281474976710656) (ty:TypeId) :
  ∃ c,n+m≤c∧(Builtin.append_ #[t,u] ty #[.slice base n cap,vx]).run P w =
   .ok (.slice (some ⟨w.heap.size,0,none⟩) (n+m) c) (w.drew.alloc (.cells (old++cs++(replicate (c-(n+m)) (zeroCells e)).flatten).toArray et)):=by
 obtain⟨i,hi,hs,hz,hby⟩:=hE.info;have hzl:(zeroCells e).length=e.size:=(kK (iv:=fun _ _=>none)).length;have hzc:(mkV e (zeroCells e)).cells=(zeroCells e).toArray:=iw hzl (kK (iv:=fun _ _=>none)).ones;have h1:¬ (n+m≤cap):=by omega
 have h3:¬ (281474976710656<Builtin.nextslicecap (n+m) cap*i.bytes):=by have hc:=zdI hfit;have:Builtin.nextslicecap (n+m) cap*i.bytes≤((n+m)+(n+m)/4+512)*iG e:=mul_le_mul hc hby;omega
 have h1b:=(JE e).1;have hnm:(n+m)+(n+m)/4+512≤((n+m)+(n+m)/4+512)*iG e:=Nat.le_mul_of_pos_right _ h1b;have h63:¬ (9223372036854775807<((n:Int)+(m:Int))):=by omega
 refine⟨grownCap w (n+m) cap et,grownCap_ge w (n+m) cap et,?_⟩;have hzz:Builtin.zeroCells (zeroCells e).toArray (grownCap w (n+m) cap et-(n+m))=(replicate (grownCap w (n+m) cap et-(n+m)) (zeroCells e)).flatten.toArray:=XR _ _;have hrun:(Builtin.append_ #[t,u] ty #[.slice base n cap,vx]).run P w =
   .ok (.slice (some ⟨w.heap.size,0,none⟩) (n+m) (grownCap w (n+m) cap et)) (w.drew.alloc (.cells (old.toArray++cs.toArray++Builtin.zeroCells (zeroCells e).toArray (grownCap w (n+m) cap et-(n+m))) et)):=by
  rcases hxt with hxt|⟨eu,hxt⟩
  ·simp[Builtin.append_,run_underlying hu,run_underlying hxt,sizeOf,typeInfo,zeroValue,hi,hz,hzc,hs,hlen,h1,h63,h3,Question.forced,hold,hcs,newRow,grownCap];congr 2;apply ext';simp
  ·simp[Builtin.append_,run_underlying hu,run_underlying hxt,sizeOf,typeInfo,zeroValue,hi,hz,hzc,hs,hlen,h1,h63,h3,Question.forced,hold,hcs,newRow,grownCap];congr 2;apply ext';simp
 rw[hrun,hzz];congr 2;simp
end
section
variable {P:Program} {tab:Tab} {C:Ctx} {g:Gh} {S:Nat→SV} {H:HLoc→SV} {a:Act} {w:World}
theorem SimG.drew (hs:SimG C g S H a w):SimG C g S H a w.drew:=
 hs.grow (GAgree.refl _ _) (IV.le.refl _) (fun _ _ _ h=>⟨rfl,h,rfl⟩) (fun _ _ _ h=>⟨rfl,h,rfl⟩) hs.own hs.old ⟨hs.ext.os,hs.ext.tape,hs.ext.output,hs.ext.size,hs.ext.block⟩
theorem SimG.nilRow (hs:SimG C g S H a w) {id:Nat} (hid:H (.row id)=.bot) (pub:Bool) (e:Ty) :
  ∃ g',SimG C g' S (ak H (.row id) (.row pub e [])) a w∧g'.hd id=.slice none 0 0:=by
 have hA:GAgree H g { g with hd:=aA g.hd id (.slice none 0 0) }:=⟨fun _ _=>rfl,fun r hr=>by have:r≠id:=fun e=>hr (e▸hid);exact bn _ _ this,fun _ _ _=>rfl,rfl⟩
 have h2:=hs.grow hA (IV.le.refl _) (fun _ _ _ h=>⟨rfl,h,rfl⟩) (fun _ _ _ h=>⟨rfl,h,rfl⟩) hs.own hs.old hs.ext;exact⟨_,h2.setRow (.inl ⟨by simp,rfl⟩),by simp⟩
theorem kQ.append {iv:IV} {e:Ty} {l xs:List e.den} {c0:List Value} {css:List (List Value)} {rest:List Value} (h:kQ iv e l c0) (h0:c0.length=l.length*e.size) (hl:xs.length=css.length)
  (hx:∀ (j:Nat) (x:e.den) (c:List Value),xs[j]? = some x→css[j]? = some c→aJ iv e c x):kQ iv e (l++xs) (c0++(css.flatten++rest)):=by
 intro i x hi;by_cases hlt:i<l.length
 ·rw[getElem?_append_left hlt] at hi;obtain⟨c,c1,c2⟩:=h i x hi;refine⟨c,fun j v hj=> ?_,c2⟩;have hjl:j<e.size:=by rw[←c2.length];exact(List.getElem?_eq_some_iff.1 hj).1
  have:(i+1)*e.size≤l.length*e.size:=mul_le_mul_right _ hlt;rw[add_mul,one_mul] at this;rw[getElem?_append_left (by omega)];exact c1 j v hj
 ·rw[getElem?_append_right (by omega)] at hi;obtain⟨c,c1,c2⟩:=yw rest hl hx _ x hi;refine⟨c,fun j v hj=> ?_,c2⟩;have:=c1 j v hj;have hge:l.length*e.size≤i*e.size:=mul_le_mul_right _ (by omega);rw[getElem?_append_right (by omega),h0];rwa[show i*e.size+j-l.length*e.size=(i-l.length)*e.size+j from by rw[sub_mul];omega]
theorem kQ.take {iv:IV} {e:Ty} {l:List e.den} {cs:List Value} (h:kQ iv e l cs):kQ iv e l (cs.take (l.length*e.size)):=by
 intro i x hi;obtain⟨c,c1,c2⟩:=h i x hi;refine⟨c,fun j v hj=> ?_,c2⟩;have hlt:i<l.length:=(List.getElem?_eq_some_iff.1 hi).1;have hjl:j<e.size:=by rw[←c2.length];exact(List.getElem?_eq_some_iff.1 hj).1
 have:(i+1)*e.size≤l.length*e.size:=mul_le_mul_right _ hlt;rw[add_mul,one_mul] at this;rw[getElem?_take_of_lt (by omega)];exact c1 j v hj
theorem Yj {α:Type} {l:List α} {sz:Nat} {R:Nat→List Value→α→Prop} {w:World} {b o:Nat} (h:∀ (i:Nat) (x:α),l[i]? = some x→∃ c,(∀ j v,c[j]? = some v→w.cell? ⟨b,o+i*sz+j,none⟩=some v)∧c.length=sz∧R i c x) :
  ∃ css:List (List Value),css.length=l.length∧(∀ (j:Nat) (x:α) (c:List Value),l[j]? = some x→css[j]? = some c→R j c x)∧(∀ c∈css,c.length=sz)∧
   (loadCells ⟨b,o,none⟩ (l.length*sz)).run P w=.ok css.flatten.toArray w:=by
 have h':∀ i:Nat,∃ c:List Value,∀ x:α,l[i]? = some x→(∀ j v,c[j]? = some v→w.cell? ⟨b,o+i*sz+j,none⟩=some v)∧c.length=sz∧R i c x:=by
  intro i;cases hi:l[i]? with
  | none=>exact⟨[],fun x hx=>by simp at hx⟩
  | some x=>obtain⟨c,h1,h2⟩:=h i x hi;exact⟨c,fun y hy=>by cases hy;exact⟨h1,h2⟩⟩
 have hget:∀ (j:Nat) (c:List Value),((range l.length).map fun i=>Classical.choose (h' i))[j]? = some c→∃ x,l[j]? = some x∧(∀ k v,c[k]? = some v→w.cell? ⟨b,o+j*sz+k,none⟩=some v)∧c.length=sz∧R j c x:=by
  intro j c hc;rw[getElem?_map] at hc;obtain⟨i,hi,rfl⟩:=map_eq_some_iff.1 hc;have hjl:j<l.length:=by have:=(List.getElem?_eq_some_iff.1 hi).1;simpa using this
  have hij:i=j:=by rw[List.getElem?_range hjl] at hi;exact(Option.some.inj hi).symm
  subst hij;have:=Classical.choose_spec (h' i) l[i] (getElem?_eq_getElem hjl);exact⟨l[i],getElem?_eq_getElem hjl,this.1,this.2⟩
 have hlen:∀ c∈(range l.length).map fun i=>Classical.choose (h' i),c.length=sz:=by intro c hc;obtain⟨j,hj⟩:=getElem?_of_mem hc;obtain⟨x,_,_,hr,_⟩:=hget j c hj;exact hr
 refine⟨_,by simp,?_,hlen,?_⟩
 ·intro j x c h1 h2;obtain⟨y,hy,_,_,hr⟩:=hget j c h2;rw[h1] at hy;cases hy;exact hr
 ·have:=run_loadCells_list (P:=P) w ⟨b,o,none⟩ ((range l.length).map fun i=>Classical.choose (h' i)).flatten (fun j v hj=>by
   rw[addr_add];obtain⟨i,c,r,rfl,h2,h3⟩:=flat_get hlen hj;obtain⟨x,_,hk,_⟩:=hget i c h2;rw[←add_assoc];exact hk r v h3)
  rw[jE hlen] at this;simpa using this
theorem fO.src {fl:Nat→Nat} {own:Nat→Option Own} {v:Value} {o:Own} {e:Ty} {l:List e.den} {n:Nat} {hv:Option (Nat×Value)} (h:fO fl own w v o e l n hv) :
  (Builtin.lenOf v).run P w=.ok l.length w∧∃ (css:List (List Value)) (bs:Nat→Option Nat),css.length=l.length∧(∀ (j:Nat) (x:e.den) (c:List Value),l[j]? = some x→css[j]? = some c→dQ (view fl w) (lV fl own w o n hv j (bs j)) e c x)∧(∀ c∈css,c.length=e.size)∧
   (Builtin.firstCells e.size l.length v).run P w=.ok css.flatten.toArray w∧(∀ i c,bs i=some c→own c=some o∧fl c=0)∧∀ i j c,bs i=some c→bs j=some c→i=j:=by
 rcases h.2.2 with⟨h1,h2⟩|⟨b,cap,cs,bs,k1,k2,k3,k4,k5,k6,k7,k8,k9⟩
 ·rw[h1];subst h2;exact⟨rfl,[],fun _=>none,rfl,fun j x c hx=>by simp at hx,fun c hc=>by simp at hc,rfl,(fun i c h=>by cases h),(fun i j c h=>by cases h)⟩
 ·rw[k1];refine⟨rfl,?_⟩;obtain⟨css,q1,q2,q3,q4⟩:=Yj (P:=P) (sz:=e.size) (l:=l) (w:=w) (b:=b) (o:=0) (R:=fun i c x=>dQ (view fl w) (lV fl own w o n hv i (bs i)) e c x) (fun i x hx=>by
   obtain⟨c,c1,c2⟩:=k9 i x hx;exact⟨c,fun j v hj=>by rw[k3.cell,zero_add];exact c1 j v hj,c2.length,c2⟩)
  exact⟨css,bs,q1,q2,q3,q4,fun i c hc=>(k7 i c hc).2,k8⟩
def lN (r id:Nat) (own:Nat→Option Own) (c:Nat):Option Own:=
 match own c with
 | some (.row k)=>cond (beq k r) (some (.row id)) (some (.row k))
 | o=>o
theorem Jw {r id:Nat} {own:Nat→Option Own} {c:Nat} (h:own c=some (.row r)):lN r id own c=some (.row id):=by
 simp only[lN,h,beq_refl,cond_true]
theorem yR {r id:Nat} {own:Nat→Option Own} {c:Nat} (h:own c≠some (.row r)):lN r id own c=own c:=by
 unfold lN;split
 ·rename_i k hk;cases hb:beq k r with
  | true=>exact absurd (by rw[hk,eq_of_beq_eq_true hb]) h
  | false=>exact hk.symm
 ·rfl
theorem SimG.rename (hs:SimG C g S H a w) {r id:Nat} (hd:¬ kP H r):SimG C { g with own:=lN r id g.own } S H a w:=
 hs.turnAll (o:=.row r) (fl':=g.fl) (own':=lN r id g.own) (w':=w) hd (fun _ _ _=>rfl) (fun _ hc=>yR hc) (fun _ _=>rfl) rfl ⟨rfl,rfl,rfl⟩ fun _ _ _ _ hp hv=>⟨hp,hv⟩
theorem SimG.joined (hs:SimG C g S H a w) {r q id:Nat} (hqr:q≠r) (hr:¬ kP H r) (hq:¬ kP H q) (hid:H (.row id)=.bot) (hir:id≠r) (hiq:id≠q) {e:Ty} {l xs:List e.den} {b cap:Nat} {cs:List Value} {bs bs2:Nat→Option Nat}
  (hcap:(l++xs).length≤cap) (hblk:Blk w b cs) (hlen:cs.length=cap*e.size) (hb:g.own b=some (.row r)∨g.own b=some (.row id)) (hf:g.fl b=0)
  (h1:∀ i c,bs i=some c→c≠b∧g.own c=some (.row r)∧g.fl c=0) (h2:∀ i c,bs2 i=some c→g.own c=some (.row q)∧g.fl c=0)
  (h3:∀ i j c,bs i=some c→bs j=some c→i=j) (h4:∀ i j c,bs2 i=some c→bs2 j=some c→i=j)
  (h5:∀ i x,(l++xs)[i]? = some x→∃ c,(∀ j v,c[j]? = some v→cs[i*e.size+j]? = some v)∧dQ (view g.fl w) (fun u v y=>if i<l.length then gI g.fl g.own w v (.row r) u y (bs i) else gI g.fl g.own w v (.row q) u y (bs2 (i-l.length))) e c x) :
  ∃ g',SimG C g' S (ak H (.row id) (.deep e (l++xs) (l.length+xs.length) none)) a w∧g'.hd id=.slice (some ⟨b,0,none⟩) (l++xs).length cap:=by
 have hs2:=(hs.rename (id:=id) hr).rename (id:=id) hq;have hren:∀ c,(g.own c=some (.row r)∨g.own c=some (.row q)∨g.own c=some (.row id))→lN q id (lN r id g.own) c=some (.row id):=by
  rintro c (h|h|h)
  ·rw[yR,Jw h];rw[Jw h];simpa using hiq
  ·rw[Jw];rw[yR,h];rw[h];simpa using hqr
  ·have e1:lN r id g.own c=some (.row id):=by rw[yR,h];rw[h];simpa using hir
   rw[yR,e1];rw[e1];simpa using hiq
 have hA:GAgree H { g with own:=lN q id (lN r id g.own) } { g with own:=lN q id (lN r id g.own),hd:=aA g.hd id (.slice (some ⟨b,0,none⟩) (l++xs).length cap) }:=
  ⟨fun _ _=>rfl,fun k hk=>bn _ _ fun e=>hk (e▸hid),fun _ _ _=>rfl,rfl⟩
 have hs3:=SimG.grow hs2 hA (IV.le.refl _) (fun _ _ _ h=>⟨rfl,h,rfl⟩) (fun _ _ _ h=>⟨rfl,h,rfl⟩) hs2.own hs2.old hs2.ext;have hne:∀ i j c,bs i=some c→bs2 j=some c→False:=fun i j c k1 k2=>by have:=(h1 i c k1).2.1;rw[(h2 j c k2).1] at this;cases this;exact hqr rfl
 refine⟨_,hs3.setDeep (r:=id) (h:=none) ⟨by simp,fun k z hk=>by simp[fB] at hk,.inr ⟨b,cap,cs,fun i=>if i<l.length then bs i else bs2 (i-l.length),by simp,hcap,hblk,hlen,?_,hf,fun i c hc=> ?_,fun i j c hi hj=> ?_,fun i x hi=> ?_⟩⟩ (fun _ _ h=>by cases h),by simp⟩
 ·exact hren b (hb.imp (fun h=>h) .inr)
 ·dsimp only at hc;split at hc
  ·obtain⟨q1,q2,q3⟩:=h1 i c hc;exact⟨q1,hren c (.inl q2),q3⟩
  ·obtain⟨q2,q3⟩:=h2 _ c hc;refine⟨fun e=> ?_,hren c (.inr (.inl q2)),q3⟩;rw[e] at q2;rcases hb with hb|hb<;>(rw[q2] at hb;cases hb)
   ·exact hqr rfl
   ·exact hiq rfl
 ·dsimp only at hi hj;split at hi<;>split at hj
  ·exact h3 i j c hi hj
  ·exact(hne _ _ c hi hj).elim
  ·exact(hne _ _ c hj hi).elim
  ·have:=h4 _ _ c hi hj;omega
 ·obtain⟨c,c1,c2⟩:=h5 i x hi;have hil:i<l.length+xs.length:=by have:=(List.getElem?_eq_some_iff.1 hi).1;simpa using this
  refine⟨c,c1,c2.mono (IV.le.refl _) fun u v y hq=>.inr (.inl ⟨fun _ h=>by simp[fB] at h,hil,?_⟩)⟩;by_cases hlt:i<l.length
  ·simp only[if_pos hlt] at hq ⊢;exact hq.to (IV.le.refl _) fun c hc=>⟨fun _ h=>h,hren c (.inl (h1 i c hc).2.1),(h1 i c hc).2.2⟩
  ·simp only[if_neg hlt] at hq ⊢;exact hq.to (IV.le.refl _) fun c hc=>⟨fun _ h=>h,hren c (.inr (.inl (h2 _ c hc).1)),(h2 _ c hc).2⟩
theorem lV.own {fl:Nat→Nat} {own:Nat→Option Own} {w:World} {o:Own} {n:Nat} {i:Nat} {bo:Option Nat} {u:Ty} {v:Value} {y:List u.den} (h:lV fl own w o n none i bo u v y) (hi:i<n):gI fl own w v o u y bo:=by
 rcases h with⟨h,_⟩|⟨_,_,h⟩|⟨_,h,_⟩
 ·cases h
 ·exact h
 ·omega
theorem JI {n:Nat}:∀ {css:List (List Value)} {rest:List Value} {i:Nat} {c:List Value},(∀ c∈css,c.length=n)→css[i]? = some c→∀ j v,c[j]? = some v→(css.flatten++rest)[i*n+j]? = some v
 | [],rest,i,c,_,h=>by simp at h
 | d::css,rest,i,c,hl,h=>fun j v hj=>by
  have hd:=hl d (by simp);cases i with
  | zero=>simp only[getElem?_cons_zero,Option.some.injEq] at h;subst h;have:=(List.getElem?_eq_some_iff.1 hj).1;simp only[Nat.zero_mul,zero_add,flatten_cons,append_assoc];rw[getElem?_append_left this];exact hj
  | succ i=>have ih:=JI (rest:=rest) (fun c hc=>hl c (by simp[hc])) (show css[i]? = some c by simpa using h) j v hj;simp only[flatten_cons,append_assoc];rw[getElem?_append_right (by rw[hd,add_mul];omega),hd,show(i+1)*n+j-n=i*n+j from by rw[add_mul];omega];exact ih
theorem zcV {t u et:TypeId} {e:Ty} (hut:P.underlying t=some (.slice et)) (hE:TyOk P tab et e) (hxt:P.underlying u=some .string∨∃ eu,P.underlying u=some (.slice eu)) (hs:SimG C g S H a w) {r q id:Nat} {l xs:List e.den}
  (hr:H (.row r)=.deep e l l.length none) (hq:H (.row q)=.deep e xs xs.length none) (hqr:q≠r) (hid:H (.row id)=.bot) (hle:((l.length+xs.length)+(l.length+xs.length)/4+512)*iG e≤281474976710656) (ty:TypeId) :
  dw C S H a ((Builtin.append_ #[t,u] ty #[g.hd r,g.hd q]).run P w) (.hdr id) [(.row q,.und),(.row r,.und),(.row id,.deep e (l++xs) (l.length+xs.length) none)]:=by
 have hir:id≠r:=fun e=>by rw[e,hr] at hid;cases hid
 have hiq:id≠q:=fun e=>by rw[e,hq] at hid;cases hid
 have hdrop:=(hs.drop (l:=.row q) (.inr ⟨q,rfl⟩)).drop (l:=.row r) (.inr ⟨r,rfl⟩);have hr2:¬ kP (ak (ak H (.row q) .und) (.row r) .und) r:=lF;have hq2:¬ kP (ak (ak H (.row q) .und) (.row r) .und) q:=by rw[Iq _ _ _ (by simpa using hqr)];exact lF
 have hid2:ak (ak H (.row q) .und) (.row r) .und (.row id)=.bot:=by rw[ay _ _ (by simpa using hir),ay _ _ (by simpa using hiq)];exact hid
 have fin:∀ {g':Gh} {w':World} {run:Result Value},SimG C g' S (ak (ak (ak H (.row q) .und) (.row r) .und) (.row id) (.deep e (l++xs) (l.length+xs.length) none)) a w'→run=.ok (g'.hd id) w'→dw C S H a run (.hdr id) [(.row q,.und),(.row r,.und),(.row id,.deep e (l++xs) (l.length+xs.length) none)]:=
  fun{g' w' run} h1 h2=>⟨_,w',g',h2,h1,rfl,by simp only[aG,puts];rw[aK];exact SV.noConfusion⟩
 obtain⟨hlenq,css,bs2,c1,c2,c3,c4,c5,c6⟩:=(hs.deeps q e xs xs.length none hq).src (P:=P);obtain⟨_,cssd,bs2d,d1,d2,d3,d4,d5,d6⟩:=(hs.drew.deeps q e xs xs.length none hq).src (P:=P);have hzl:(zeroCells e).length=e.size:=(kK (iv:=view g.fl w)).length;have hD:=(hs.deeps r e l l.length none hr).2.2;have grow:∀ {base:Option Addr} {cap:Nat} {c0:List Value} {bs:Nat→Option Nat},g.hd r=.slice base l.length cap→cap<l.length+xs.length→(Builtin.firstCells e.size l.length (g.hd r)).run P w.drew=.ok c0.toArray w.drew→c0.length=l.length*e.size→
   (∀ i c,bs i=some c→g.own c=some (.row r)∧g.fl c=0)→(∀ i j c,bs i=some c→bs j=some c→i=j)→
   (∀ i x,l[i]? = some x→∃ c,(∀ j v,c[j]? = some v→c0[i*e.size+j]? = some v)∧dQ (view g.fl w.drew) (fun u v y=>gI g.fl g.own w.drew v (.row r) u y (bs i)) e c x)→
   dw C S H a ((Builtin.append_ #[t,u] ty #[g.hd r,g.hd q]).run P w) (.hdr id) [(.row q,.und),(.row r,.und),(.row id,.deep e (l++xs) (l.length+xs.length) none)]:=by
  intro base cap c0 bs hh hcap hc0 hc0l b1 b2 b3;rw[hh] at hc0 ⊢;obtain⟨c,q1,q2⟩:=GH (ty:=ty) (old:=c0) hut hE hxt hlenq d4 hc0 hcap hle;have hlen:(c0++(cssd.flatten++(replicate (c-(l.length+xs.length)) (zeroCells e)).flatten)).length=c*e.size:=by rw[length_append,length_append,jE d3,jE (n:=e.size) (by intro d hd;rw[(mem_replicate.1 hd).2];exact hzl),length_replicate,d1,hc0l,←add_mul,←add_mul];congr 1;omega
  generalize hrest:(replicate (c-(l.length+xs.length)) (zeroCells e)).flatten=rest at hlen q2;have hnew:=hdrop.drew.newBlk (c0++(cssd.flatten++rest)).toArray et (0,0) 0 (.row id);have hlt:∀ c,g.own c≠none→c<w.drew.heap.size:=fun c hc=>(hs.own c hc).1;have hVle:(view g.fl w.drew).le (view (aA g.fl w.drew.heap.size 0) (w.drew.alloc (.cells (c0++(cssd.flatten++rest)).toArray et (0,0)))):=fun k p v hv=>by obtain⟨q1,q2⟩:=Ip.1 hv;have hk:k<w.drew.heap.size:=block_lt_of_cell? (a:=⟨k,p,none⟩) w.drew q2;exact Ip.2 ⟨by rw[bn _ _ (show k≠w.drew.heap.size by omega)];exact q1,(cell?_of_block (a:=⟨k,p,none⟩) (RowKit.Below.heap_alloc w.drew _ k hk)).trans q2⟩
  have hto:∀ {v:Value} {o:Own} {u:Ty} {y:List u.den} {bo:Option Nat},gI g.fl g.own w.drew v o u y bo→(∀ c,bo=some c→g.own c=some o∧g.fl c=0)→gI (aA g.fl w.drew.heap.size 0) (aA g.own w.drew.heap.size (some (.row id))) (w.drew.alloc (.cells (c0++(cssd.flatten++rest)).toArray et (0,0))) v o u y bo:=fun h hb=>
   h.to hVle fun c hc=>by
    obtain⟨k1,k2⟩:=hb c hc;have hk:=hlt c (by rw[k1];simp);have hne:c≠w.drew.heap.size:=by omega
    exact⟨fun cs'=>Blk.heap (RowKit.Below.heap_alloc w.drew _ c hk) cs',(bn _ _ hne).trans k1,(bn _ _ hne).trans k2⟩
  have hown:∀ {c:Nat} {o:Own},g.own c=some o∧g.fl c=0→c≠w.drew.heap.size∧aA g.own w.drew.heap.size (some (.row id)) c=some o∧aA g.fl w.drew.heap.size 0 c=0:=fun{c o} h=>by
   have hk:=hlt c (by rw[h.1];simp);have hne:c≠w.drew.heap.size:=by omega
   exact⟨hne,(bn _ _ hne).trans h.1,(bn _ _ hne).trans h.2⟩
  obtain⟨g',n1,n2⟩:=hnew.joined hqr hr2 hq2 hid2 hir hiq (e:=e) (l:=l) (xs:=xs) (b:=w.drew.heap.size) (cap:=c) (cs:=c0++(cssd.flatten++rest)) (bs:=bs) (bs2:=bs2d) (by simp;omega) (Blk.new _ _ _ _ (xA.zero _)) hlen (.inr (bJ _ _ _)) (bJ _ _ _)
   (fun i c hc=>hown (b1 i c hc)) (fun i c hc=>(hown (d5 i c hc)).2) b2 d6 (fun i x hi=>by
    by_cases hlt':i<l.length
    ·rw[getElem?_append_left hlt'] at hi;obtain⟨c',m1,m2⟩:=b3 i x hi;refine⟨c',fun j v hj=> ?_,m2.mono hVle fun u v y hq=> ?_⟩
     ·have:=m1 j v hj;rw[getElem?_append_left (List.getElem?_eq_some_iff.1 this).1];exact this
     ·simp only[if_pos hlt'];exact hto hq (b1 i)
    ·rw[getElem?_append_right (by omega)] at hi;have hjl:i-l.length<cssd.length:=by rw[d1];exact(List.getElem?_eq_some_iff.1 hi).1
     refine⟨cssd[i-l.length],fun j v hj=> ?_,(d2 _ x _ hi (getElem?_eq_getElem hjl)).mono hVle fun u v y hq=> ?_⟩
     ·have:=JI (rest:=rest) d3 (getElem?_eq_getElem hjl) j v hj;rw[getElem?_append_right (by rw[hc0l];have:l.length*e.size≤i*e.size:=mul_le_mul_right _ (by omega);omega),hc0l];rwa[show i*e.size+j-l.length*e.size=(i-l.length)*e.size+j from by rw[sub_mul];have:l.length*e.size≤i*e.size:=mul_le_mul_right _ (by omega);omega]
     ·simp only[if_neg hlt'];exact hto (lV.own hq (by rw[←d1];exact hjl)) (d5 _))
  refine fin n1 ?_;rw[q2,n2];simp only[length_append,append_assoc];rfl
 rcases hD with⟨h1,h2⟩|⟨b,cap,cs,bs,k1,k2,k3,k4,k5,k6,k7,k8,k9⟩
 ·subst h2;by_cases h0:xs.length=0
  ·have hxs:xs=[]:=eq_nil_of_length_eq_zero h0;subst hxs;have:=xU (P:=P) (ty:=ty) hut hE hxt (base:=none) (n:=0) (cap:=0) hlenq c4 (by simp);have hA:GAgree (ak (ak H (.row q) .und) (.row r) .und) g { g with hd:=aA g.hd id (.slice none 0 0) }:=⟨fun _ _=>rfl,fun k hk=>bn _ _ fun e=>hk (e▸hid2),fun _ _ _=>rfl,rfl⟩
   have hs2:=hdrop.grow hA (IV.le.refl _) (fun _ _ _ h=>⟨rfl,h,rfl⟩) (fun _ _ _ h=>⟨rfl,h,rfl⟩) hdrop.own hdrop.old hdrop.ext;refine fin (hs2.setDeep (r:=id) (e:=e) (l:=[]) (n:=0) (h:=none) ⟨le_refl _,fun k z hk=>by simp[fB] at hk,.inl ⟨by simp,rfl⟩⟩ fun _ _ h=>by cases h) ?_;rw[h1,this];simp
  ·exact grow (base:=none) (cap:=0) (c0:=[]) (bs:=fun _=>none) h1 (by simp;omega) (by rw[h1];rfl) (by simp) (fun i c h=>by cases h) (fun i j c h=>by cases h) fun i x hi=>by simp at hi
 ·by_cases hfit:l.length+xs.length≤cap
  ·
   have hrun:=xU (P:=P) (ty:=ty) hut hE hxt (base:=some ⟨b,0,none⟩) (n:=l.length) hlenq c4 hfit;have hfl:css.flatten.length=xs.length*e.size:=by rw[jE c3,c1]
   have hmul:(l.length+xs.length)*e.size≤cap*e.size:=mul_le_mul_right _ hfit;rw[add_mul] at hmul;have hcs:cs=cs.take (l.length*e.size)++((cs.drop (l.length*e.size)).take (xs.length*e.size)++cs.drop (l.length*e.size+xs.length*e.size)):=by rw[←drop_drop,take_append_drop,take_append_drop]
   have hL1:(cs.take (l.length*e.size)).length=l.length*e.size:=by rw[length_take];omega
   have hL2:((cs.drop (l.length*e.size)).take (xs.length*e.size)).length=css.flatten.length:=by rw[length_take,length_drop];omega
   have k3':=k3;rw[hcs] at k3';have hblk:=Blk.setCells k3' hL1 hL2;have hst:(storeCells ((⟨b,0,none⟩:Addr).add (l.length*e.size)) css.flatten).run P w=.ok () (w.setCells b (l.length*e.size) css.flatten):=by
    rw[addr_add,zero_add];have:=run_storeCells_cells (P:=P) b (l.length*e.size) css.flatten 0 w (fun j hj=>by
     rw[k3.cell];have:l.length*e.size+0+j<cs.length:=by omega
     rw[getElem?_eq_getElem this];rfl) (fun j hj=>k3.frozen _ (by omega)) (fun y hy=>by
     obtain⟨d,hd1,hd2⟩:=List.mem_flatten.1 hy;obtain⟨k,hk⟩:=getElem?_of_mem hd1;have hkl:k<xs.length:=by rw[←c1];exact(List.getElem?_eq_some_iff.1 hk).1
     have:=(c2 k xs[k] d (getElem?_eq_getElem hkl) hk).ones y hd2;cases y<;>first|rfl|(simp[oneC] at this))
    simpa using this
   have hs2:=hdrop.turnSet (b:=b) (o:=l.length*e.size) (vs:=css.flatten) hr2 k5 k6;have hV:(view g.fl w).le (view g.fl (w.setCells b (l.length*e.size) css.flatten)):=vI k6;have hbq:∀ i c,bs2 i=some c→c≠b:=fun i c hc e=>by have:=(c5 i c hc).1;rw[e,k5] at this;cases this;exact hqr rfl
   obtain⟨g',n1,n2⟩:=hs2.joined hqr hr2 hq2 hid2 hir hiq (e:=e) (l:=l) (xs:=xs) (b:=b) (cap:=cap) (bs:=bs) (bs2:=bs2) (by simpa using hfit) hblk (by
     simp only[length_append,hL1,hfl,length_drop];omega) (.inl k5) k6 k7 c5 k8 c6 (fun i x hi=>by
    by_cases hlt':i<l.length
    ·rw[getElem?_append_left hlt'] at hi;obtain⟨c',m1,m2⟩:=k9 i x hi;refine⟨c',fun j v hj=> ?_,m2.mono hV fun u v y hq=> ?_⟩
     ·have:=m1 j v hj;have hjl:j<e.size:=by rw[←m2.length];exact(List.getElem?_eq_some_iff.1 hj).1
      have hm:(i+1)*e.size≤l.length*e.size:=mul_le_mul_right _ hlt';rw[add_mul,one_mul] at hm;rw[getElem?_append_left (by omega),getElem?_take_of_lt (by omega)];exact this
     ·simp only[if_pos hlt'];exact(lV.own hq hlt').to hV fun c hc=>⟨Blk.set_ne (k7 i c hc).1,(k7 i c hc).2⟩
    ·rw[getElem?_append_right (by omega)] at hi;have hjl:i-l.length<css.length:=by rw[c1];exact(List.getElem?_eq_some_iff.1 hi).1
     refine⟨css[i-l.length],fun j v hj=> ?_,(c2 _ x _ hi (getElem?_eq_getElem hjl)).mono hV fun u v y hq=> ?_⟩
     ·have:=JI (rest:=cs.drop (l.length*e.size+xs.length*e.size)) c3 (getElem?_eq_getElem hjl) j v hj;rw[getElem?_append_right (by rw[hL1];have:l.length*e.size≤i*e.size:=mul_le_mul_right _ (by omega);omega),hL1];rwa[show i*e.size+j-l.length*e.size=(i-l.length)*e.size+j from by rw[sub_mul];have:l.length*e.size≤i*e.size:=mul_le_mul_right _ (by omega);omega]
     ·simp only[if_neg hlt'];exact(lV.own hq (by rw[←c1];exact hjl)).to hV fun c hc=>⟨Blk.set_ne (hbq _ c hc),c5 _ c hc⟩)
   refine fin n1 ?_;rw[k1,hrun];simp only[hst,andThen_ok,n2,length_append]
  ·refine grow (base:=some ⟨b,0,none⟩) (cap:=cap) (c0:=cs.take (l.length*e.size)) (bs:=bs) k1 (by omega) ?_ (by rw[length_take,k4];exact min_eq_left (mul_le_mul_right _ k2)) (fun i c hc=>(k7 i c hc).2) k8 fun i x hi=> ?_
   ·rw[k1];have hlc:l.length*e.size≤cap*e.size:=mul_le_mul_right _ k2;have:=run_loadCells_list (P:=P) w.drew ⟨b,0,none⟩ (cs.take (l.length*e.size)) (fun j v hj=>by
     rw[addr_add,zero_add,cell?_drew,k3.cell];have hjl:j<l.length*e.size:=by have:=(List.getElem?_eq_some_iff.1 hj).1;rw[length_take] at this;omega
     rwa[getElem?_take_of_lt hjl] at hj)
    rw[length_take,min_eq_left (by omega)] at this;exact this
   ·have hil:i<l.length:=(List.getElem?_eq_some_iff.1 hi).1;obtain⟨c,m1,m2⟩:=k9 i x hi;refine⟨c,fun j v hj=> ?_,m2.mono (fun _ _ _ h=>h) fun u v y hq=> ?_⟩
    ·have hjl:j<e.size:=by rw[←m2.length];exact(List.getElem?_eq_some_iff.1 hj).1
     have hm:(i+1)*e.size≤l.length*e.size:=mul_le_mul_right _ hil;rw[add_mul,one_mul] at hm;rw[getElem?_take_of_lt (by omega)];exact m1 j v hj
    ·exact lV.own hq hil
theorem OY (hTab:TabOk P tab) (hs:SimG C g S H a w) {id:Nat} {t u:TypeId} (hu:(∃ e,tl tab u=some (.slice e))∨tl tab u=some .str) {s x:SV} {vs vx:Value} {v:SV} {hw:HW} {fp fp':List HLoc}
  (h:(DI tab id t s x).run H fp=some ((v,hw),fp')) (hsv:SR g (view g.fl w) s vs) (hx:SR g (view g.fl w) x vx) (ty:TypeId) :
  dw C S H a ((Builtin.append_ #[t,u] ty #[vs,vx]).run P w) v hw:=by
 have hxt:P.underlying u=some .string∨∃ eu,P.underlying u=some (.slice eu):=by
  rcases hu with⟨e,hu⟩|hu
  ·obtain⟨eu,h1,_⟩:=(hTab.tys hu).slice;exact .inr ⟨eu,h1⟩
  ·exact .inl (hTab.tys hu).str
 unfold DI at h;split at h
 ·rename_i e ht;obtain⟨et,hut,het⟩:=(hTab.tys ht).slice;have hE:=hTab.tys het;split at h
  ·
   rw[show vs=_ from hsv];obtain⟨xs,fp1,k1,h⟩:=ah h;obtain⟨l,hl,h⟩:=bP h;obtain⟨hid,h⟩:=fH h;obtain⟨e1,_⟩:=af h;cases e1;obtain⟨rfl,hle⟩:=JM hl;have hsrc:=Cc (P:=P) hs k1 hx;have hsrcd:=Cc (P:=P) hs.drew k1 hx;by_cases h0:l.length=0
   ·have hx0:l=[]:=eq_nil_of_length_eq_zero h0;subst hx0;obtain⟨css,c1,c2,c3,c4⟩:=hsrc.cells;have:=xU (ty:=ty) hut hE hxt (base:=none) (n:=0) (cap:=0) hsrc.len c4 (by simp);obtain⟨g',n1,n2⟩:=hs.nilRow hid false e;exact dw.row (pub:=false) (e:=e) (l:=[]) (hw:=[(.row id,.row false e [])]) n1 (by rw[n2,this];rfl) (aK _ _ _)
   ·obtain⟨css,c1,c2,c3,c4⟩:=hsrcd.cells;obtain⟨c,q1,q2⟩:=GH (ty:=ty) (old:=[]) hut hE hxt (base:=none) (n:=0) (cap:=0) hsrc.len c4 rfl (by omega) (by simpa using hle);have hzl:(zeroCells e).length=e.size:=(kK (iv:=view g.fl w)).length;have hlen:(css.flatten++(replicate (c-(0+l.length)) (zeroCells e)).flatten).length=c*e.size:=by
     rw[length_append,jE c3,jE (n:=e.size) (by intro d hd;rw[(mem_replicate.1 hd).2];exact hzl),length_replicate,c1,←add_mul];congr 1;omega
    obtain⟨g',n1,n2⟩:=hs.drew.newRow hid (css.flatten++(replicate (c-(0+l.length)) (zeroCells e)).flatten) et (0,0) (xA.zero _) (e:=e) (l:=l) (cap:=c) (by omega) hlen false (yw _ c1.symm c2);refine dw.row (pub:=false) (e:=e) (l:=l) (hw:=[(.row id,.row false e l)]) n1 ?_ (aK _ _ _);rw[q2,n2];simp only[zero_add,nil_append];rfl
  ·rename_i r;simp only[Rd.run] at h;split at h
   ·rename_i pub e' l hrow;obtain⟨l0,fp1,k0,h⟩:=ah h;obtain⟨k0,_⟩:=aS k0;obtain⟨he,rfl⟩:=dm k0;cases he;obtain⟨xs,fp2,k1,h⟩:=ah h;obtain⟨l1,hl,h⟩:=bP h;obtain⟨hid,h⟩:=fH h;obtain⟨e1,_⟩:=af h;cases e1;obtain⟨rfl,hle⟩:=JM hl;rw[show vs=_ from hsv];have hsrc:=Cc (P:=P) hs k1 hx;have hsrcd:=Cc (P:=P) hs.drew k1 hx;have hold:=SC (P:=P) hs.drew hrow;have hdrop:=hs.drop (l:=.row r) (.inr ⟨r,rfl⟩);have hne:r≠id:=fun e=>by rw[e,hid] at hrow;cases hrow
    have hid':ak H (.row r) .und (.row id)=.bot:=by rw[ay _ _ (by simpa using fun e=>hne e.symm)];exact hid
    have hzl:(zeroCells e).length=e.size:=(kK (iv:=view g.fl w)).length;have grow:∀ {base:Option Addr} {cap:Nat},g.hd r=.slice base l.length cap→cap<l.length+xs.length→∀ {c0:List Value},(Builtin.firstCells e.size l.length (g.hd r)).run P w.drew=.ok c0.toArray w.drew→
      kQ (view g.fl w) e l c0→c0.length=l.length*e.size→dw C S H a ((Builtin.append_ #[t,u] ty #[g.hd r,vx]).run P w) (.hdr id) [(.row r,.und),(.row id,.row pub e (l++xs))]:=by
     intro base cap hh hcap c0 hc0 hel hc0l;obtain⟨css,c1,c2,c3,c4⟩:=hsrcd.cells;rw[hh] at hc0 ⊢;obtain⟨c,q1,q2⟩:=GH (ty:=ty) (old:=c0) hut hE hxt hsrc.len c4 hc0 hcap hle;have hlen:(c0++(css.flatten++(replicate (c-(l.length+xs.length)) (zeroCells e)).flatten)).length=c*e.size:=by rw[length_append,length_append,jE c3,jE (n:=e.size) (by intro d hd;rw[(mem_replicate.1 hd).2];exact hzl),length_replicate,c1,hc0l,←add_mul,←add_mul];congr 1;omega
     obtain⟨g',n1,n2⟩:=hdrop.drew.newRow hid' (c0++(css.flatten++(replicate (c-(l.length+xs.length)) (zeroCells e)).flatten)) et (0,0) (xA.zero _) (e:=e) (l:=l++xs) (cap:=c) (by simp;omega) hlen pub (hel.append hc0l c1.symm c2);refine dw.row (pub:=pub) (e:=e) (l:=l++xs) (hw:=[(.row r,.und),(.row id,.row pub e (l++xs))]) n1 ?_ (aK _ _ _);rw[q2,n2];simp only[length_append,append_assoc];rfl
    rcases hs.rows r pub e l hrow with⟨h1,h2⟩|⟨b,cap,cs,h1,h2,h3,h4,h5,h6,h7⟩
    ·subst h2;by_cases h0:xs.length=0
     ·have hxs:xs=[]:=eq_nil_of_length_eq_zero h0;subst hxs;obtain⟨css,c1,c2,c3,c4⟩:=hsrc.cells;have:=xU (ty:=ty) hut hE hxt (base:=none) (n:=0) (cap:=0) hsrc.len c4 (by simp);obtain⟨g',n1,n2⟩:=hdrop.nilRow hid' pub e;rw[h1];exact dw.row (pub:=pub) (e:=e) (l:=[]) (hw:=[(.row r,.und),(.row id,.row pub e [])]) n1 (by rw[n2,this];rfl) (aK _ _ _)
     ·exact grow (c0:=[]) h1 (by simp;omega) (by rw[h1];rfl) (fun i x hx=>by simp at hx) (by simp)
    ·by_cases hfit:l.length+xs.length≤cap
     ·
      obtain⟨css,c1,c2,c3,c4⟩:=hsrc.cells;rw[h1];have hrun:=xU (ty:=ty) hut hE hxt (base:=some ⟨b,0,none⟩) (n:=l.length) hsrc.len c4 hfit;have hfl:css.flatten.length=xs.length*e.size:=by rw[jE c3,c1]
      have hmul:(l.length+xs.length)*e.size≤cap*e.size:=mul_le_mul_right _ hfit;rw[add_mul] at hmul;have hcs:cs=cs.take (l.length*e.size)++((cs.drop (l.length*e.size)).take (xs.length*e.size)++cs.drop (l.length*e.size+xs.length*e.size)):=by rw[←drop_drop,take_append_drop,take_append_drop]
      have hL1:(cs.take (l.length*e.size)).length=l.length*e.size:=by rw[length_take];omega
      have hL2:((cs.drop (l.length*e.size)).take (xs.length*e.size)).length=css.flatten.length:=by rw[length_take,length_drop];omega
      rw[hcs] at h3;have hblk:=Blk.setCells h3 hL1 hL2;have hst:(storeCells ((⟨b,0,none⟩:Addr).add (l.length*e.size)) css.flatten).run P w=.ok () (w.setCells b (l.length*e.size) css.flatten):=by
       rw[addr_add,zero_add];have:=run_storeCells_cells (P:=P) b (l.length*e.size) css.flatten 0 w (fun j hj=>by
        rw[h3.cell,←hcs];have:l.length*e.size+0+j<cs.length:=by omega
        rw[getElem?_eq_getElem this];rfl) (fun j hj=>h3.frozen _ (by rw[←hcs];omega)) (fun y hy=>by
        obtain⟨d,hd1,hd2⟩:=List.mem_flatten.1 hy;obtain⟨k,hk⟩:=getElem?_of_mem hd1;have hkl:k<xs.length:=by rw[←c1];exact(List.getElem?_eq_some_iff.1 hk).1
        have:=(c2 k xs[k] d (getElem?_eq_getElem hkl) hk).ones y hd2;cases y<;>first|rfl|(simp[oneC] at this))
       simpa using this
      have hturn:=hdrop.turn (b:=b) (o:=.row r) (o':=.row id) (f:=cond pub ((l++xs).length*e.size) 0) (w':=w.setCells b (l.length*e.size) css.flatten) h5
       lF (fun k hk=>mJ b _ _ _ k hk) (size_setCells b _ _ _) ⟨(lD b _ _ _).1,(lD b _ _ _).2.1,(lD b _ _ _).2.2.1⟩
       (fun q v hq hv=>by
        rw[h6] at hq;cases pub with
        | false=>simp at hq
        | true=>simp only[cond] at hq ⊢;refine⟨by rw[length_append,add_mul];omega,?_⟩;rw[h3.cell,getElem?_append_left (by omega)] at hv;rw[hblk.cell,getElem?_append_left (by omega)];exact hv)
      have hA:GAgree (ak H (.row r) .und) { g with fl:=aA g.fl b (cond pub ((l++xs).length*e.size) 0),own:=aA g.own b (some (.row id)) }
        { g with fl:=aA g.fl b (cond pub ((l++xs).length*e.size) 0),own:=aA g.own b (some (.row id)),hd:=aA g.hd id (.slice (some ⟨b,0,none⟩) (l.length+xs.length) cap) }:=
       ⟨fun _ _=>rfl,fun k hk=>by have:k≠id:=fun e=>hk (e▸hid');exact bn _ _ this,fun _ _ _=>rfl,rfl⟩
      have h2':=hturn.grow hA (IV.le.refl _) (fun _ _ _ h=>⟨rfl,h,rfl⟩) (fun _ _ _ h=>⟨rfl,h,rfl⟩) hturn.own hturn.old hturn.ext;have hiv:(view g.fl w).le (view (aA g.fl b (cond pub ((l++xs).length*e.size) 0)) (w.setCells b (l.length*e.size) css.flatten)):=by
       intro k o v hv;obtain⟨hlt,hv⟩:=Ip.1 hv;by_cases hk:k=b
       ·subst hk;rw[h6] at hlt;cases pub with
        | false=>simp at hlt
        | true=>simp only[cond] at hlt ⊢;refine Ip.2 ⟨by rw[bJ,length_append,add_mul];omega,?_⟩;rw[h3.cell,getElem?_append_left (by omega)] at hv;rw[hblk.cell,getElem?_append_left (by omega)];exact hv
       ·refine Ip.2 ⟨by rw[bn _ _ hk];exact hlt,?_⟩;exact(cell?_of_block (a:=⟨k,o,none⟩) (mJ b _ _ _ k hk)).trans hv
      have hrowOk:=h2'.setRow (r:=id) (pub:=pub) (e:=e) (l:=l++xs) (.inr ⟨b,cap,_,by simp[length_append],by simp;omega,hblk,by simp only[length_append,hL1,hfl,length_drop];omega,by simp,by simp,kQ.mono hiv (h7.take.append hL1 c1.symm c2)⟩);refine dw.row (pub:=pub) (e:=e) (l:=l++xs) (hw:=[(.row r,.und),(.row id,.row pub e (l++xs))]) hrowOk ?_ (aK _ _ _);rw[hrun];simp only[hst,andThen_ok,bJ]
     ·refine grow (c0:=cs.take (l.length*e.size)) h1 (by omega) ?_ h7.take (by rw[length_take,h4];exact min_eq_left (mul_le_mul_right _ h2));rw[h1];have hlc:l.length*e.size≤cap*e.size:=mul_le_mul_right _ h2;have:=run_loadCells_list (P:=P) w.drew ⟨b,0,none⟩ (cs.take (l.length*e.size)) (fun j v hj=>by
       rw[addr_add,zero_add,cell?_drew,h3.cell];have hjl:j<l.length*e.size:=by have:=(List.getElem?_eq_some_iff.1 hj).1;rw[length_take] at this;omega
       rwa[getElem?_take_of_lt hjl] at hj)
      rw[length_take,min_eq_left (by omega)] at this;exact this
   ·rename_i e' l n hh hrow;split at h
    ·rename_i q;simp only[Rd.run] at h;split at h
     ·rename_i e2 l2 n2 h2 hrowq;cases h2 with
      | some _=>exact(ae h).elim
      | none=>
       simp only at h;cases hb:beq q r with
       | true=>rw[hb] at h;exact(ae h).elim
       | false=>
        rw[hb] at h;simp only[cond_false] at h;obtain⟨l0,fp1,k0,h⟩:=ah h;obtain⟨k0,_⟩:=aS k0;obtain⟨he,rfl⟩:=dm k0;cases he;obtain⟨xs,fp2,k1,h⟩:=ah h;obtain⟨k1,_⟩:=aS k1;obtain⟨he2,rfl⟩:=dm k1;cases he2;replace h:=(show _=_ from h)
        cases hb1:decide (n=List.length l) with
        | false=>rw[hb1] at h;simp[Rd.run] at h
        | true=>
         cases hb2:decide (n2=List.length l2) with
         | false=>rw[hb1,hb2] at h;simp[Rd.run] at h
         | true=>rw[hb1,hb2] at h;obtain rfl:=of_decide_eq_true hb1;obtain rfl:=of_decide_eq_true hb2;obtain⟨l1,hl,h⟩:=bP (show(Rd.opt _ _).run H _=_ from h);obtain⟨hid,h⟩:=fH h;obtain⟨e1,_⟩:=af h;cases e1;obtain⟨rfl,hle⟩:=JM hl;rw[show vs=_ from hsv,show vx=_ from hx];exact zcV hut hE hxt hs hrow hrowq (fun e=>by rw[e,beq_refl] at hb;exact noConfusion hb) hid hle ty
     ·exact(ae h).elim
    ·exact(ae h).elim
   ·exact(ae h).elim
  ·exact(ae h).elim
 ·exact(ae h).elim
end
section
variable {P:Program} {tab:Tab} {C:Ctx} {g:Gh} {S:Nat→SV} {H:HLoc→SV} {a:Act} {w:World}
theorem XU (hTab:TabOk P tab) (hs:SimG C g S H a w) {id:Nat} {t:TypeId} {l c:SV} {vl vc:Value} {v:SV} {hw:HW} {fp fp':List HLoc}
  (h:(match tl tab t with
   | some (.slice e)=>match jF l,jF c with
    | some n,some m=>.opt (mkO e.dflt n m) fun xs=>fresh (.row id) (.ret (.hdr id,[(.row id,.row false e xs)]))
    | _,_=>.fail
   | _=>.fail:Rd (SV×HW)).run H fp=some ((v,hw),fp')) (hl:SR g (view g.fl w) l vl) (hc:SR g (view g.fl w) c vc) :
  dw C S H a ((Instr.makeSlice t vl vc).run P w) v hw:=by
 split at h
 ·rename_i e ht;obtain⟨et,hut,het⟩:=(hTab.tys ht).slice;have hE:=hTab.tys het;obtain⟨i,hi,hsz,hz,hby⟩:=hE.info;split at h
  ·rename_i n m hn hm;obtain⟨kl,rfl⟩:=og hl hn;obtain⟨kc,rfl⟩:=og hc hm;obtain⟨xs,hx,h⟩:=bP h;obtain⟨hid,h⟩:=fH h;obtain⟨e1,_⟩:=af h;cases e1;unfold mkO at hx;by_cases hb:0≤n∧n≤m∧m≤(bI:Int)
   ·simp only[hb,and_self,decide_true,cond,Option.some.injEq] at hx;subst hx;have hcap:m≤34359738368:=by have:=hb.2.2;simpa[bI] using this
    have hbytes:i.bytes*m≤281474976710656:=by
     have h1:i.bytes*m.toNat≤6144*34359738368:=mul_le_mul (le_trans hby (JE e).2) (by omega);have h2:(i.bytes:Int)*m=((i.bytes*m.toNat:Nat):Int):=by rw[Int.natCast_mul,Int.toNat_of_nonneg (by omega)]
     rw[h2];omega
    have hr:=run_make (P:=P) w t et i _ hut hi hz kl kc n m hb.1 hb.2.1 hbytes (by omega);have hzl:(zeroCells e).length=e.size:=(kK (iv:=view g.fl w)).length;have hzc:(mkV e (zeroCells e)).cells=(zeroCells e).toArray:=iw hzl (kK (iv:=view g.fl w)).ones;have hmade:madeCells (mkV e (zeroCells e)).cells (m.toNat*i.size)=(replicate m.toNat (zeroCells e)).flatten.toArray:=by
     rw[hzc,hsz];by_cases h0:zeroCells e=[]
     ·rw[h0] at hzl ⊢;apply ext';simp at hzl;simp[madeCells,←hzl]
     ·have:=I8 (zeroCells e) h0 m.toNat;rw[hzl] at this;unfold madeCells;simpa using this
    obtain⟨g',n1,n2⟩:=hs.newRow hid ((replicate m.toNat (zeroCells e)).flatten) et (0,0) (xA.zero _) (e:=e) (l:=replicate n.toNat e.dflt) (cap:=m.toNat) (by simp;omega)
     (by rw[jE (n:=e.size) (by intro d hd;rw[(mem_replicate.1 hd).2];exact hzl),length_replicate]) false (by
      have hsplit:(replicate m.toNat (zeroCells e)).flatten=(replicate n.toNat (zeroCells e)).flatten++(replicate (m.toNat-n.toNat) (zeroCells e)).flatten:=by rw[←List.flatten_append,List.replicate_append_replicate];congr 2;omega
      rw[hsplit];refine yw _ (by simp) fun j x d h1 h2=> ?_;have hx:x=e.dflt:=(mem_replicate.1 (mem_of_getElem? h1)).2;have hd:d=zeroCells e:=(mem_replicate.1 (mem_of_getElem? h2)).2;subst hx hd;exact kK)
    refine dw.row (pub:=false) (e:=e) (l:=replicate n.toNat e.dflt) (hw:=[(.row id,.row false e (replicate n.toNat e.dflt))]) n1 ?_ (aK _ _ _);rw[hr,n2,hmade];simp
   ·simp[hb] at hx
  ·exact(ae h).elim
 ·exact(ae h).elim
theorem zbC (hTab:TabOk P tab) (hs:SimG C g S H a w) {t:TypeId} {x:SV} {vx:Value} {n:Int} {fp fp':List HLoc} (h:(KU tab t x).run H fp=some (n,fp')) (hx:SR g (view g.fl w) x vx) (ty:TypeId) :
  (Builtin.len_ #[t] ty #[vx]).run P w=.ok (.int .i64 n) w:=by
 unfold KU at h;split at h
 ·rename_i ht;have hu:=(hTab.tys ht).str;split at h
  ·obtain⟨e,_⟩:=af h;subst e;obtain⟨s,rfl,rfl⟩:=oh hx;simp[Builtin.len_,run_underlying hu,goInt]
  ·exact(ae h).elim
 ·rename_i et ht;obtain⟨e',hu,_⟩:=(hTab.tys ht).slice;have sl:∀ {ad:Option Addr} {m cap:Nat},(Builtin.len_ #[t] ty #[.slice ad m cap]).run P w=.ok (.int .i64 (m:Int)) w:=by
   intro ad m cap;simp[Builtin.len_,run_underlying hu,goInt]
  split at h
  ·obtain⟨e,_⟩:=af h;subst e;rw[show vx=_ from hx,sl];rfl
  ·obtain⟨e,_⟩:=af h;subst e;obtain⟨bl,rfl,_⟩:=hx;rw[sl];rfl
  ·obtain⟨e,_⟩:=af h;subst e;obtain⟨ad,m,cap,rfl,k2,_⟩:=qN hx;rw[sl,k2];rfl
  ·obtain⟨e,_⟩:=af h;subst e;obtain⟨ad,m,cap,rfl,k2,_⟩:=qN (show bM g.lv _ _ _ from hx);rw[sl,k2];rfl
  ·rename_i r;simp only[Rd.run] at h;split at h
   ·rename_i p e l hrow;obtain⟨e1,_⟩:=af h;subst e1;rw[show vx=_ from hx];rcases hs.rows r p e l hrow with⟨h1,rfl⟩|⟨b,cap,cs,h1,_⟩
    ·rw[h1,sl];rfl
    ·rw[h1,sl];rfl
   ·rename_i e l nd hh hrow;obtain⟨e1,_⟩:=af h;subst e1;rw[show vx=_ from hx];rcases(hs.deeps r e l nd hh hrow).shape with⟨h1,rfl⟩|⟨b,cap,h1,_⟩
    ·rw[h1,sl];rfl
    ·rw[h1,sl];rfl
   ·exact(ae h).elim
  ·exact(ae h).elim
 ·exact(ae h).elim
theorem RG {f:Int→Int→Int} {F:Value→Value→Sem Value} {k:IntKind} (hF:∀ x y,(F (.int k x) (.int k y)).run P w=.ok (.int k (f x y)) w):∀ {r:List Operand} {x:Int} {v:SV} {hw:HW} {fp fp':List HLoc},
  SimG C g S H a w→(zX f k x (r.map (evS S))).run H fp=some ((v,hw),fp')→∃ z,v=.pv (.int k) z∧hw=[]∧((r.map a.eval).foldlM F (.int k x):Sem Value).run P w=.ok (.int k z) w:=by
 intro r;induction r with
 | nil=>intro x v hw fp fp' _ h;obtain⟨e,_⟩:=af h;cases e;exact⟨x,rfl,rfl,rfl⟩
 | cons o r ih=>
  intro x v hw fp fp' hs h;simp only[map_cons] at h ⊢;have ho:=(hs.ev o).1;generalize evS S o=so at h ho;cases so<;>first|exact(ae h).elim|skip
  rename_i t y;cases t<;>first|exact(ae h).elim|skip
  rename_i k';change(cond (nS k k') (zX f k (f x y) (r.map (evS S))) .fail).run H fp=_ at h;cases hk:nS k k' with
  | false=>rw[hk] at h;exact(ae h).elim
  | true=>rw[hk] at h;obtain rfl:=vY hk;obtain⟨z,h1,h2,h3⟩:=ih hs h;have hy:=lH ho;refine⟨z,h1,h2,?_⟩;rw[hy];simp only[List.foldlM_cons,run_bind,hF,andThen_ok];exact h3
theorem XT (hs:SimG C g S H a w) {x:SV} {v:SV} {hw:HW} {fp fp':List HLoc}
  (h:(match x with
   | .adr s o=>.ret (.adr s o,[])
   | .elt t y o=>.ret (.elt t y o,[])
   | .lel t y o=>.ret (.lel t y o,[])
   | .oel r i o z=>.ret (.oel r i o z,[])
   | .sel b o z n j=>.ret (.sel b o z n j,[])
   | .pv (.tree k v) y=>.opt (uz k v y) fun _=>.ret (.pv (.tree k v) y,[])
   | .pv (.ptr e) l=>.opt (head? (α:=e.den) l) fun y=>.ret (.elt e y 0,[])
   | .own r=>.get (.row r) fun w=>match w with
    | .row _ e l=>.opt (head? l) fun _=>.ret (.oel r 0 0 e.size,[])
    | .deep e l _ _=>.opt (head? l) fun _=>.ret (.oel r 0 0 e.size,[])
    | _=>.fail
   | .ref d j=>.ret (.ref d j,[])
   | _=>.fail:Rd (SV×HW)).run H fp=some ((v,hw),fp')) {vx:Value} (hx:SR g (view g.fl w) x vx) (rx:aG H x):(SR g (view g.fl w) v vx∧aG H v)∧hw=[]∧∃ ad,vx=.pointer (some ad):=by
 split at h
 ·obtain⟨e,_⟩:=af h;cases e;exact⟨⟨hx,rx⟩,rfl,_,hx⟩
 ·obtain⟨e,_⟩:=af h;cases e;obtain⟨bl,o,cs,h1,_⟩:=id hx;exact⟨⟨hx,rx⟩,rfl,_,h1⟩
 ·obtain⟨e,_⟩:=af h;cases e;obtain⟨bl,o,cs,h1,_⟩:=id hx;exact⟨⟨hx,rx⟩,rfl,_,h1⟩
 ·obtain⟨e,_⟩:=af h;cases e;obtain⟨bl,l,c,_,h1⟩:=id hx;exact⟨⟨hx,rx⟩,rfl,_,h1⟩
 ·obtain⟨e,_⟩:=af h;cases e;obtain⟨_,h1⟩:=id hx;exact⟨⟨hx,rx⟩,rfl,_,h1⟩
 ·rename_i k v' y;obtain⟨z,hz,h⟩:=bP h;obtain⟨e,_⟩:=af h;cases e;refine⟨⟨hx,rx⟩,rfl,?_⟩;obtain⟨cs,⟨p,rfl,hp⟩,hval⟩:=hx;have hval:vx=p:=hval;subst hval;cases y with
  | leaf=>simp[uz] at hz
  | node ka va l hh nn d=>obtain⟨bl,o,_,_,_,_,h1,_⟩:=hp;exact⟨_,h1⟩
 ·obtain⟨y,hy,h⟩:=bP h;obtain⟨e1,_⟩:=af h;cases e1;obtain⟨bl,o,cs,rfl,k1,k2⟩:=SL hx hy;exact⟨⟨⟨bl,o,cs,rfl,k1,k2⟩,trivial⟩,rfl,_,rfl⟩
 ·rename_i r;simp only[Rd.run] at h;split at h
  ·rename_i pb e l hr;obtain⟨y,hy,h⟩:=bP h;obtain⟨e1,_⟩:=af h;cases e1;obtain⟨b,rfl,h1⟩:=yK hs hx (.inl ⟨_,_,_,_,hr,hy⟩);exact⟨⟨⟨b,1,1,h1,by simp⟩,rx⟩,rfl,_,rfl⟩
  ·rename_i e l nn hh hr;obtain⟨y,hy,h⟩:=bP h;obtain⟨e1,_⟩:=af h;cases e1;obtain⟨b,rfl,h1⟩:=yK hs hx (.inr ⟨_,_,_,_,_,hr,hy⟩);exact⟨⟨⟨b,1,1,h1,by simp⟩,rx⟩,rfl,_,rfl⟩
  ·exact(ae h).elim
 ·obtain⟨e,_⟩:=af h;cases e;obtain⟨bl,h1,_⟩:=id hx;exact⟨⟨hx,rx⟩,rfl,_,h1⟩
 ·exact(ae h).elim
theorem Yc {e:Ty} (he:e=.u8) {vx:Value} {xs:List e.den} (hsl:∃ ad n c,vx=.slice ad n c) (hsrc:SrcOk P (view g.fl w) w e vx xs) :
  ∃ s:ByteArray,(Conv.bytesToString vx).run P w=.ok (.string s) w∧s.data.toList=(he▸xs:List Ty.u8.den):=by
 subst he;obtain⟨ad,n,c,rfl⟩:=hsl;have hn:n=xs.length:=by have:=hsrc.len;simp[Builtin.lenOf] at this;exact this
 subst hn;obtain⟨css,c1,c2,c3,c4⟩:=hsrc.cells;have hflat:css.flatten=(xs.map fun b:UInt8=>((b.toNat:Nat):Int)).map (int .u8):=by
  have:css=xs.map fun b:UInt8=>[int .u8 ((b.toNat:Nat):Int)]:=by
   apply ext_getElem?;intro j;rw[getElem?_map];cases hj:(xs:List UInt8)[j]? with
   | none=>rw[getElem?_eq_none (by rw[c1];exact List.getElem?_eq_none_iff.1 hj)];rfl
   | some x=>
    have hjl:j<css.length:=by rw[c1];exact(List.getElem?_eq_some_iff.1 hj).1
    have hc:=c2 j x css[j] hj (getElem?_eq_getElem hjl);rw[getElem?_eq_getElem hjl];have hc:css[j]=[.int .u8 ((UInt8.toNat x:Nat):Int)]:=hc;rw[hc];rfl
  rw[this,Hg,map_map];rfl
 have fold:∀ (l:List UInt8) (s:ByteArray),((l.map fun b:UInt8=>((b.toNat:Nat):Int)).foldl (fun r n=>r.push (UInt8.ofNat n.toNat)) s).data.toList=s.data.toList++l:=by
  intro l;induction l with
  | nil=>intro s;simp
  | cons b l ih=>intro s;simp only[map_cons,List.foldl_cons,ih];simp
 cases ad with
 | none=>
  have hx:xs=[]:=by
   have h4:(Result.ok (#[]:Array Value) w:Result (Array Value))=.ok css.flatten.toArray w:=c4;simp only[Result.ok.injEq,and_true] at h4;have:css.flatten=[]:=by have:=congrArg Array.toList h4;simpa using this.symm
   rw[hflat] at this;simpa using this
  subst hx;exact⟨ByteArray.empty,rfl,rfl⟩
 | some ad=>have h4:(loadCells ad (xs.length*Ty.u8.size)).run P w=.ok css.flatten.toArray w:=c4;simp only[Ty.size,Nat.mul_one] at h4;rw[hflat] at h4;exact⟨_,run_bytesToString w ad xs.length c _ h4,by rw[fold];rfl⟩
end
section
variable {P:Program} {tab:Tab} {C:Ctx} {g:Gh} {S:Nat→SV} {H:HLoc→SV} {a:Act} {w:World}
def zsv:Ty→List SV
 | .pair a b=>oH a::zsv b
 | _=>[]
def psv:(t:Ty)→t.den→List SV
 | .pair a b,x=>.pv a x.1::psv b x.2
 | _,_=>[]
theorem OT (mk:Nat→HLoc):∀ (t:Ty) (i:Nat),uh mk t i=bg mk i (zsv t):=by
 intro t;induction t with
 | pair a b ha hb=>intro i;simp only[uh,zsv,bg,hb]
 | _=>intro i;rfl
theorem Ho (mk:Nat→HLoc):∀ (t:Ty) (x:t.den) (i:Nat),vS mk t x i=bg mk i (psv t x):=by
 intro t;induction t with
 | pair a b ha hb=>intro x i;simp only[vS,psv,bg,hb]
 | _=>intro x i;rfl
def lsv:(t:Ty)→t.den→List SV
 | .pair a b,x=>lvP a x.1::lsv b x.2
 | _,_=>[]
theorem OU (mk:Nat→HLoc):∀ (t:Ty) (x:t.den) (i:Nat),yM mk t x i=bg mk i (lsv t x):=by
 intro t;induction t with
 | pair a b ha hb=>intro x i;simp only[yM,lsv,bg,hb]
 | _=>intro x i;rfl
theorem Jm {mk:Nat→HLoc}:∀ {vs:List SV} {i:Nat} {p:HLoc×SV},p∈bg mk i vs→∃ k v,p=(mk (i+k),v)∧vs[k]? = some v
 | [],i,p,h=>by simp[bg] at h
 | v::vs,i,p,h=>by
  simp only[bg,mem_cons] at h;rcases h with rfl|h
  ·exact⟨0,v,rfl,rfl⟩
  ·obtain⟨k,u,rfl,hk⟩:=Jm h;exact⟨k+1,u,by rw[add_assoc,Nat.add_comm 1 k],by simpa using hk⟩
theorem Jy {n:Nat}:∀ {vs:List SV} {i k:Nat} {H:HLoc→SV},k<i→puts H (bg (.fld n) i vs) (.fld n k)=H (.fld n k)
 | [],i,k,H,_=>rfl
 | v::vs,i,k,H,h=>by simp only[bg,puts];rw[Jy (show k<i+1 by omega),ay _ _ (by simp;omega)]
theorem CV {n:Nat}:∀ {vs:List SV} {i k:Nat} {v:SV} {H:HLoc→SV},vs[k]? = some v→puts H (bg (.fld n) i vs) (.fld n (i+k))=v
 | [],i,k,v,H,h=>by simp at h
 | u::vs,i,0,v,H,h=>by simp only[getElem?_cons_zero,Option.some.injEq] at h;subst h;simp only[bg,puts,add_zero];rw[Jy (show i<i+1 by omega),aK]
 | u::vs,i,k+1,v,H,h=>by simp only[bg,puts];have:=CV (n:=n) (i:=i+1) (k:=k) (H:=ak H (.fld n i) u) (by simpa using h);rwa[show i+1+k=i+(k+1) from by omega] at this
def iy (g:Gh) (iv:IV):Ty→List SV→List Value→Prop
 | .pair a b,v::vs,cs=>∃ c1 c2,cs=c1++c2∧c1.length=a.size∧(∀ c∈c1,oneC c=true)∧SR g iv v (mkV a c1)∧iy g iv b vs c2
 | .unit,[],cs=>cs=[]
 | _,_,_=>False
theorem iy.ok {g:Gh} {iv:IV} {F:Nat→SV}:∀ {t:Ty} {vs:List SV} {cs:List Value} {i:Nat},iy g iv t vs cs→(∀ k v,vs[k]? = some v→F (i+k)=v)→dF F g iv t cs i:=by
 intro t;induction t with
 | pair A B _ hB=>
  intro vs cs i h hF;cases vs with
  | nil=>exact h.elim
  | cons v vs=>obtain⟨c1,c2,h1,h2,h3,h4,h5⟩:=h;have h0:=hF 0 v rfl;refine⟨c1,c2,h1,h2,h3,by rw[←add_zero i,h0];exact h4,hB h5 fun k u hk=> ?_⟩;have:=hF (k+1) u (by simpa using hk);rwa[show i+(k+1)=i+1+k from by omega] at this
 | unit=>
  intro vs cs i h _;cases vs with
  | nil=>exact h
  | cons v vs=>exact h.elim
 | _=>intro vs cs i h _;cases vs<;>exact h.elim
theorem iy.length {g:Gh} {iv:IV}:∀ {t:Ty} {vs:List SV} {cs:List Value},iy g iv t vs cs→cs.length=t.size:=by
 intro t;induction t with
 | pair A B _ hB=>
  intro vs cs h;cases vs with
  | nil=>exact h.elim
  | cons v vs=>obtain⟨c1,c2,rfl,h2,_,_,h5⟩:=h;rw[length_append,h2,hB h5];rfl
 | unit=>intro vs cs h;cases vs with
  | nil=>rw[show cs=[] from h];rfl
  | cons v vs=>exact h.elim
 | _=>intro vs cs h;cases vs<;>exact h.elim
theorem iy.ones {g:Gh} {iv:IV}:∀ {t:Ty} {vs:List SV} {cs:List Value},iy g iv t vs cs→∀ c∈cs,oneC c=true:=by
 intro t;induction t with
 | pair A B _ hB=>
  intro vs cs h;cases vs with
  | nil=>exact h.elim
  | cons v vs=>obtain⟨c1,c2,rfl,_,h3,_,h5⟩:=h;exact fun c hc=>(mem_append.1 hc).elim (h3 c) (hB h5 c)
 | unit=>intro vs cs h;cases vs with
  | nil=>rw[show cs=[] from h];intro c hc;simp at hc
  | cons v vs=>exact h.elim
 | _=>intro vs cs h;cases vs<;>exact h.elim
theorem Io {g:Gh} {iv:IV} (t:Ty):SR g iv (oH t) (mkV t (zeroCells t)):=by
 cases t<;>first|exact⟨_,kK,rfl⟩|rfl
theorem vG (t:Ty):oH t≠.bot∧∀ H,aG H (oH t):=by cases t<;>exact⟨SV.noConfusion,fun _=>trivial⟩
theorem lG {iv:IV} (t:Ty):(zeroCells t).length=t.size∧∀ c∈zeroCells t,oneC c=true:=⟨(kK (iv:=iv)).length,(kK (iv:=iv)).ones⟩
theorem O1 {g:Gh} {iv:IV}:∀ {t:Ty},structEnd t=true→iy g iv t (zsv t) (zeroCells t):=by
 intro t;induction t with
 | pair A B _ hB=>intro h;exact⟨_,_,rfl,(lG (iv:=iv) A).1,(lG (iv:=iv) A).2,Io A,hB h⟩
 | unit=>intro _;exact rfl
 | _=>intro h;exact noConfusion h
theorem HY {g:Gh} {iv:IV}:∀ {t:Ty} {x:t.den} {cs:List Value},structEnd t=true→aJ iv t cs x→iy g iv t (psv t x) cs:=by
 intro t;induction t with
 | pair A B _ hB=>rintro x cs h ⟨c1,c2,rfl,h1,h2⟩;exact⟨c1,c2,rfl,h1.length,h1.ones,⟨c1,h1,rfl⟩,hB h h2⟩
 | unit=>intro x cs _ h;exact h
 | _=>intro x cs h;exact noConfusion h
theorem TU {g:Gh} {iv:IV} {t:Ty} {x:t.den} {cs:List Value} (h:aJ g.lv t cs x):SR g iv (lvP t x) (mkV t cs):=by
 unfold lvP;cases hf:bu t with
 | true=>exact⟨cs,h.flat hf,rfl⟩
 | false=>exact⟨cs,h,rfl⟩
theorem J3 (t:Ty) (x:t.den):lvP t x≠.bot∧∀ H,aG H (lvP t x):=by
 unfold lvP;cases bu t<;>exact⟨SV.noConfusion,fun _=>trivial⟩
theorem Pz {g:Gh} {iv:IV}:∀ {t:Ty} {x:t.den} {cs:List Value},structEnd t=true→aJ g.lv t cs x→iy g iv t (lsv t x) cs:=by
 intro t;induction t with
 | pair A B _ hB=>rintro x cs h ⟨c1,c2,rfl,h1,h2⟩;exact⟨c1,c2,rfl,h1.length,h1.ones,TU h1,hB h h2⟩
 | unit=>intro x cs _ h;exact h
 | _=>intro x cs h;exact noConfusion h
theorem SimG.putFlds {n:Nat}:∀ {ws:HW} {H:HLoc→SV},SimG C g S H a w→(∀ t,H (.site n)≠.obj t)→(∀ p∈ws,∃ i,p.1=.fld n i∧p.2≠.bot∧aG H p.2)→SimG C g S (puts H ws) a w
 | [],H,hs,_,_=>hs
 | (l,v)::r,H,hs,hn,hw=>by obtain⟨i,hl,hv,hr⟩:=hw (l,v) (by simp);simp only at hl hv hr;subst hl;show SimG C g S (puts (ak H (.fld n i) v) r) a w;refine SimG.putFlds (n:=n) (ws:=r) (H:=ak H (.fld n i) v) (hs.setFld hn hv hr) (fun t=>by rw[ay _ _ (by simp)];exact hn t) fun p hp=> ?_;obtain⟨j,h1,h2,h3⟩:=hw p (by simp[hp]);exact⟨j,h1,h2,h3.upd hv⟩
theorem CU {l:HLoc}:∀ {ws:HW} {H:HLoc→SV},puts H ws l=H l∨∃ p∈ws,p.1=l∧p.2=puts H ws l
 | [],H=>.inl rfl
 | (k,v)::r,H=>by
  simp only[puts];rcases CU (l:=l) (ws:=r) (H:=ak H k v) with h|⟨p,hp,h1,h2⟩
  ·by_cases e:l=k
   ·subst e;right;exact⟨(l,v),by simp,rfl,by rw[h,aK]⟩
   ·left;rw[h,ay _ _ e]
  ·exact .inr ⟨p,by simp[hp],h1,h2⟩
theorem SimG.newObj (hs:SimG C g S H a w) {id:Nat} (hid:H (.site id)=.bot) {cs:List Value} (el:TypeId) {t:Ty} {ws:HW} (hws:∀ p∈ws,∃ i,p.1=.fld id i∧p.2≠.bot∧aG H p.2)
  (hobj:dV (fun i=>puts H ws (.fld id i)) g (view g.fl w) t cs) :
  ∃ g',SimG C g' S (puts H (ws++[(.site id,.obj t)])) a (w.alloc (.cells cs.toArray el))∧g'.st id=w.heap.size:=by
 have h1:=hs.newBlk cs.toArray el (0,0) 0 (.site id);have hA:GAgree H { g with fl:=aA g.fl w.heap.size 0,own:=aA g.own w.heap.size (some (.site id)) }
   { g with fl:=aA g.fl w.heap.size 0,own:=aA g.own w.heap.size (some (.site id)),st:=aA g.st id w.heap.size }:=
  ⟨fun r hr=>by have:r≠id:=fun e=>hr (e▸hid);exact bn _ _ this,fun _ _=>rfl,fun _ _ _=>rfl,rfl⟩
 have hA0:GAgree H g { g with fl:=aA g.fl w.heap.size 0,own:=aA g.own w.heap.size (some (.site id)),st:=aA g.st id w.heap.size }:=
  ⟨fun r hr=>by have:r≠id:=fun e=>hr (e▸hid);exact bn _ _ this,fun _ _=>rfl,fun _ _ _=>rfl,rfl⟩
 have h2:=h1.grow hA (IV.le.refl _) (fun n t hn ho=>by
   have:n≠id:=fun e=>by rw[e,hid] at hn;cases hn
   exact⟨rfl,ho,rfl⟩) (fun _ _ _ h=>⟨rfl,h,rfl⟩) h1.own h1.old h1.ext
 have h3:=h2.putFlds (n:=id) (ws:=ws) (fun t e=>by rw[hid] at e;cases e) hws;have hiv:(view g.fl w).le (view (aA g.fl w.heap.size 0) (w.alloc (.cells cs.toArray el))):=by intro k o v hv;obtain⟨q1,q2⟩:=Ip.1 hv;have hk:k<w.heap.size:=block_lt_of_cell? (a:=⟨k,o,none⟩) w q2;refine Ip.2 ⟨by rw[bn _ _ (show k≠w.heap.size by omega)];exact q1,?_⟩;exact(cell?_of_block (a:=⟨k,o,none⟩) (RowKit.Below.heap_alloc w _ k hk)).trans q2
 refine⟨{ g with fl:=aA g.fl w.heap.size 0,own:=aA g.own w.heap.size (some (.site id)),st:=aA g.st id w.heap.size },?_,bJ _ _ _⟩;rw[yc];refine h3.setSite ⟨cs,?_,by simp,by simp,?_⟩
 ·dsimp only;rw[bJ];exact Blk.new w cs el (0,0) (xA.zero _)
 ·refine dV.change (H:=H) hA0 hiv (fun i=> ?_) hobj;rcases CU (l:=.fld id i) (ws:=ws) (H:=H) with h|⟨p,hp,h1,h2⟩
  ·rw[h];exact hs.refF id i
  ·rw[←h2];obtain⟨_,_,_,hr⟩:=hws p hp;exact hr
theorem dw.site {g':Gh} {w':World} {run:Result Value} {id b:Nat} {t:Ty} {hw:HW} (hs:SimG C g' S (puts H (hw++[(.site id,.obj t)])) a w') (hb:g'.st id=b) (hrun:run=.ok (.pointer (some ⟨b,0,none⟩)) w') :
  dw C S H a run (.adr id 0) (hw++[(.site id,.obj t)]):=
 ⟨_,w',g',hrun,hs,by show _=pointer _;rw[hb],by simp only[aG];rw[yc,aK];exact SV.noConfusion⟩
end
section
variable {P:Program} {tab:Tab} {C:Ctx} {g:Gh} {S:Nat→SV} {H:HLoc→SV} {a:Act} {w:World}
theorem Oc {tab:Tab}:∀ {fs:List Field} {t:Ty} {off:Nat},bY tab fs t off=true→structEnd t=true:=by
 intro fs;induction fs with
 | nil=>intro t off h;cases t<;>first|exact noConfusion h|rfl
 | cons f fs ih=>
  intro t off h;cases t<;>first|exact noConfusion h|skip
  rename_i A B;simp only[bY] at h;obtain⟨_,h2⟩:=az h;obtain⟨_,h4⟩:=az h2;have h5:beq A.size 0=false:=by cases hz:beq A.size 0 with|false=>rfl|true=>rw[hz] at h4;exact noConfusion h4
  rw[h5] at h4
  have h6 : decide (f.name = "_") = false := by cases hz : decide (f.name = "_") with | false => rfl | true => simp only [cond, hz] at h4; exact noConfusion h4
  simp only[h6,cond] at h4;show Go.Sx.structEnd B=true;exact ih h4
theorem TyOk.structEnd {t:TypeId} {ty:Ty} (h:TyOk P tab t ty) (ha:ty.agg=true):Go.Sx.structEnd ty=true:=by
 rcases h.two ha with⟨fs,_,hc,_⟩|⟨et,e,n,_,_,_,_,_,hc⟩
 ·exact Oc hc
 ·exact Oc hc
def kF (g:Gh) (iv:IV) (t:Ty) (vs:List SV) (cs:List Value):Prop:=
 cond t.agg (iy g iv t vs cs) (∃ v c,vs=[v]∧cs=[c]∧oneC c=true∧SR g iv v c)
theorem TabOk.ends (hTab:TabOk P tab) {t:TypeId} {ty:Ty} (h:tla tab t=some ty) (ha:ty.agg=true):Go.Sx.structEnd ty=true:=by
 rcases(hTab.w h).2 with h|⟨_,e,n,_,_,rfl,_⟩|h
 ·exact h.1.structEnd ha
 ·exact JK e n
 ·rw[h] at ha;exact noConfusion ha
theorem kF.cells {g:Gh} {iv:IV} {t:Ty} {vs:List SV} {cs:List Value} {n:Nat} {H:HLoc→SV} (h:kF g iv t vs cs):dV (fun i=>puts H (bg (.fld n) 0 vs) (.fld n i)) g iv t cs:=by
 unfold kF at h;unfold dV;cases ha:t.agg with
 | true=>rw[ha] at h;exact h.ok fun k v hk=>by rw[zero_add];have:=CV (n:=n) (i:=0) (H:=H) hk;rwa[zero_add] at this
 | false=>rw[ha] at h;obtain⟨v,c,rfl,rfl,h1,h2⟩:=h;refine⟨c,rfl,h1,?_⟩;have:=CV (n:=n) (i:=0) (H:=H) (vs:=[v]) (k:=0) (v:=v) rfl;rw[show(fun i=>puts H (bg (HLoc.fld n) 0 [v]) (HLoc.fld n i)) 0=v from this];exact h2
theorem kF.len {g:Gh} {iv:IV} {t:Ty} {vs:List SV} {cs:List Value} (h:kF g iv t vs cs):cs.length=t.size∧∀ c∈cs,oneC c=true:=by
 unfold kF at h;cases ha:t.agg with
 | true=>rw[ha] at h;exact⟨iy.length h,iy.ones h⟩
 | false=>rw[ha] at h;obtain⟨v,c,_,rfl,h1,_⟩:=h;exact⟨by simp[oq ha],by simpa using h1⟩
def iV (H:HLoc→SV) (vs:List SV):Prop:=∀ v∈vs,v≠.bot∧aG H v
theorem iV.fld {n i:Nat} {vs:List SV} (h:iV H vs):∀ p∈bg (.fld n) i vs,∃ j,p.1=.fld n j∧p.2≠.bot∧aG H p.2:=by
 intro p hp;obtain⟨k,v,rfl,hk⟩:=Jm hp;exact⟨_,rfl,h v (mem_of_getElem? hk)⟩
theorem Rn:∀ (t:Ty) (x:t.den),iV H (lsv t x):=by
 intro t;induction t with
 | pair A B _ hB=>
  intro x v hv;simp only[lsv,mem_cons] at hv;rcases hv with rfl|hv
  ·exact⟨(J3 A x.1).1,(J3 A x.1).2 _⟩
  ·exact hB x.2 v hv
 | _=>intro x v hv;simp[lsv] at hv
theorem Jh:∀ (t:Ty) (x:t.den),iV H (psv t x):=by
 intro t;induction t with
 | pair A B _ hB=>
  intro x v hv;simp only[psv,mem_cons] at hv;rcases hv with rfl|hv
  ·exact⟨SV.noConfusion,trivial⟩
  ·exact hB x.2 v hv
 | _=>intro x v hv;simp[psv] at hv
theorem QV:∀ (t:Ty),iV H (zsv t):=by
 intro t;induction t with
 | pair A B _ hB=>
  intro v hv;simp only[zsv,mem_cons] at hv;rcases hv with rfl|hv
  ·exact⟨(vG A).1,(vG A).2 H⟩
  ·exact hB v hv
 | _=>intro v hv;simp[zsv] at hv
theorem RU (hs:SimG C g S H a w) {d:Nat} {dst:Nat→HLoc}:∀ {t:Ty} {i:Nat} {ws:HW} {fp fp':List HLoc},(zZ (.comp d) dst t i).run H fp=some (ws,fp')→kz (g.cv d) t i→
  ∃ vs,ws=bg dst i vs∧iy g (view g.fl w) t vs (fK (g.cv d) t i)∧iV H vs:=by
 intro t;induction t with
 | pair A B _ hB=>
  intro i ws fp fp' h hk;simp only[zZ,Rd.run] at h;obtain⟨_,fp1,k1,h⟩:=ah h;obtain⟨ws',fp2,k2,h⟩:=ah h;obtain⟨e,_⟩:=af h;subst e;obtain⟨h1,h2,h3,h4⟩:=hk;obtain⟨vs,rfl,q2,q3⟩:=hB k2 h4;have hfit:=qf hs k1 (hs.comps d i);refine⟨H (.comp d i)::vs,rfl,⟨_,_,rfl,h2,h3,by rw[←h1];exact hs.comps d i,q2⟩,fun v hv=> ?_⟩;rcases mem_cons.1 hv with rfl|hv
  ·exact⟨hfit.1,hs.refC d i⟩
  ·exact q3 v hv
 | unit=>intro i ws fp fp' h _;obtain⟨e,_⟩:=af h;subst e;exact⟨[],rfl,rfl,fun v hv=>by simp at hv⟩
 | _=>intro i ws fp fp' h;exact(ae h).elim
theorem O5 {t:Ty}:gK t 0=some .unit:=by cases t<;>rfl
theorem iy.app {iv:IV}:∀ {u:Ty} {n:Nat} {st:Ty} {vs vs':List SV} {c c':List Value},gK u n=some st→iy g iv st vs c→iy g iv (wU u n) vs' c'→iy g iv u (vs++vs') (c++c'):=by
 intro u;induction u with
 | pair A B _ hB=>
  intro n st vs vs' c c' h h1 h2;cases n with
  | zero=>
   simp only[gK,Option.some.injEq] at h;subst h;cases vs with
   | nil=>rw[show c=[] from h1];simpa[wU] using h2
   | cons=>exact h1.elim
  | succ n=>
   simp only[gK] at h;cases hb:ble A.size (n+1) with
   | false=>rw[hb] at h;exact absurd h (by simp)
   | true=>
    rw[hb] at h;obtain⟨s,hs,h⟩:=Option.bind_eq_some_iff.1 (show(gK B (n+1-A.size)).bind _=_ from h);obtain rfl:=Option.some.inj h;cases vs with
    | nil=>exact h1.elim
    | cons v vs=>obtain⟨c1,c2,rfl,k1,k2,k3,k4⟩:=h1;exact⟨c1,c2++c',by simp,k1,k2,k3,hB hs k4 h2⟩
 | _=>
  intro n st vs vs' c c' h h1 h2;cases n with
  | zero=>
   rw[O5] at h;obtain rfl:=Option.some.inj h;cases vs with
   | nil=>rw[show c=[] from h1];simpa[wU] using h2
   | cons=>exact h1.elim
  | succ n=>exact absurd h (by simp[gK])
theorem ZY:∀ {t:Ty} {n:Nat} {st:Ty},gK t n=some st→structEnd st=true:=by
 intro t;induction t with
 | pair A B _ hB=>
  intro n st h;cases n with
  | zero=>simp only[gK,Option.some.injEq] at h;subst h;rfl
  | succ n=>
   simp only[gK] at h;cases hb:ble A.size (n+1) with
   | false=>rw[hb] at h;exact absurd h (by simp)
   | true=>rw[hb] at h;obtain⟨s,hs,h⟩:=Option.bind_eq_some_iff.1 (show(gK B (n+1-A.size)).bind _=_ from h);obtain rfl:=Option.some.inj h;exact(hB hs:structEnd s=true)
 | _=>
  intro n st h;cases n with
  | zero=>rw[O5] at h;obtain rfl:=Option.some.inj h;rfl
  | succ n=>exact absurd h (by simp[gK])
theorem OQ {mk:Nat→HLoc}:∀ {vs vs':List SV} {i:Nat},bg mk i (vs++vs')=bg mk i vs++bg mk (i+vs.length) vs'
 | [],vs',i=>rfl
 | v::vs,vs',i=>by simp only[List.cons_append,bg,length_cons];rw[OQ,show i+1+vs.length=i+(vs.length+1) from by omega]
theorem zcs:∀ (t:Ty) (x:t.den),(psv t x).length=nfT t:=by
 intro t;induction t with
 | pair A B _ hB=>intro x;simp[psv,nfT,hB]
 | _=>intro x;rfl
theorem QJ (hs:SimG C g S H a w) {d:Nat} {dst:Nat→HLoc}:∀ {t u:Ty} {i k:Nat} {ws:HW} {fp fp':List HLoc},(rE (.comp d) dst t u i k).run H fp=some (ws,fp')→kz (g.cv d) t i→
  ∃ vs,ws=bg dst k vs∧iy g (view g.fl w) u vs (fK (g.cv d) t i)∧iV H vs:=by
 intro t;induction t with
 | pair A B _ hB=>
  intro u i k ws fp fp' h hk;simp only[rE,Rd.run] at h;obtain⟨h1,h2,h3,h4⟩:=hk;split at h
  case h_2=>exact(ae h).elim
  rename_i st hst;cases hb:st.beq (.pair A .unit) with
  | true=>
   rw[hb] at h;obtain rfl:=Ty.beq_eq hb;obtain⟨_,fp1,k1,h⟩:=ah (show((fits A (H (.comp d i))).bind _).run H _=_ from h);obtain⟨ws',fp2,k2,h⟩:=ah h;obtain⟨e,_⟩:=af h;subst e;obtain⟨vs,rfl,q2,q3⟩:=hB k2 h4;have hfit:=qf hs k1 (hs.comps d i);refine⟨H (.comp d i)::vs,rfl,?_,fun v hv=> ?_⟩
   ·exact iy.app (vs:=[H (.comp d i)]) hst ⟨_,[],by simp,h2,h3,by rw[←h1];exact hs.comps d i,rfl⟩ q2
   ·rcases mem_cons.1 hv with rfl|hv
    ·exact⟨hfit.1,hs.refC d i⟩
    ·exact q3 v hv
  | false=>
   rw[hb] at h;simp only[cond_false] at h;split at h
   case h_2=>exact(ae h).elim
   rename_i c x hv;obtain⟨y,fp1,k1,h⟩:=ah h;obtain⟨ws',fp2,k2,h⟩:=ah h;obtain⟨e,_⟩:=af h;subst e;obtain⟨k1,_⟩:=aS k1;obtain⟨vs,rfl,q2,q3⟩:=hB k2 h4;have hc:=hs.comps d i;rw[hv] at hc;refine⟨psv st y++vs,?_,?_,fun v hv=> ?_⟩
   ·rw[Ho,OQ,zcs]
   ·exact iy.app hst (HY (ZY hst) (vT (bM.cells hc) k1)) q2
   ·rcases mem_append.1 hv with hv|hv
    ·exact Jh _ _ v hv
    ·exact q3 v hv
 | unit=>
  intro u i k ws fp fp' h _;cases u<;>first|exact(ae h).elim|skip
  obtain⟨e,_⟩:=af h;subst e;exact⟨[],rfl,rfl,fun v hv=>by simp at hv⟩
 | _=>intro u i k ws fp fp' h;exact(ae h).elim
theorem Qo (hs:SimG C g S H a w) {ty:Ty} (hT:ty.agg=true→Go.Sx.structEnd ty=true) {s:Nat} {v:SV} {val:Value} {ws:HW} {fp fp':List HLoc} (h:(putObj s ty v).run H fp=some (ws,fp')) (hv:SR g (view g.fl w) v val) (hr:aG H v) :
  ∃ vs,ws=bg (.fld s) 0 vs∧kF g (view g.fl w) ty vs val.cells.toList∧iV H vs:=by
 unfold putObj at h;cases ha:ty.agg with
 | true=>
  rw[ha] at h;simp only[cond_true] at h;have hend:=hT ha;split at h
  ·obtain⟨y,fp1,k1,h⟩:=ah h;obtain⟨k1,_⟩:=aS k1;obtain⟨e,_⟩:=af h;subst e;refine⟨psv ty y,Ho _ _ _ _,?_,Jh _ _⟩;unfold kF;rw[ha];exact HY hend (vT (bM.cells hv) k1)
  ·obtain⟨y,fp1,k1,h⟩:=ah h;obtain⟨k1,_⟩:=aS k1;obtain⟨e,_⟩:=af h;subst e;refine⟨lsv ty y,OU _ _ _ _,?_,Rn _ _⟩;unfold kF;rw[ha];exact Pz hend (vT (bM.cells hv) k1)
  ·rename_i d t';cases hb:t'.beq ty with
   | false=>rw[hb] at h;obtain⟨h1,rfl,h3⟩:=hv;obtain⟨vs,q1,q2,q3⟩:=QJ hs (show(rE (.comp d) (.fld s) t' ty 0 0).run H fp=_ from h) h3;refine⟨vs,q1,?_,q3⟩;unfold kF;rw[ha];exact q2
   | true=>rw[hb] at h;obtain rfl:=Ty.beq_eq hb;obtain⟨h1,rfl,h3⟩:=hv;obtain⟨vs,q1,q2,q3⟩:=RU hs h h3;refine⟨vs,q1,?_,q3⟩;unfold kF;rw[ha];exact q2
  ·exact(ae h).elim
 | false=>rw[ha] at h;simp only[cond_false] at h;obtain⟨_,fp1,k1,h⟩:=ah h;obtain⟨e,_⟩:=af h;subst e;obtain⟨q1,q2,q3,q4⟩:=qf hs k1 hv;refine⟨[v],rfl,?_,fun u hu=>by simp at hu;subst hu;exact⟨q1,hr⟩⟩;unfold kF;rw[ha];have:=ja ha q3;rw[←q2] at this;refine⟨v,val,rfl,this,?_,hv⟩;exact q4 val (by rw[this];simp)
theorem ZO (hTab:TabOk P tab) (hs:SimG C g S H a w) {id:Nat} {t:TypeId} {v:SV} {hw:HW} {fp fp':List HLoc}
  (h:(match tl tab t with
   | some ty=>fresh (.site id) (.ret (.adr id 0,cond ty.agg (uh (.fld id) (flT tab t ty) 0) [(.fld id 0,oH ty)]++[(.site id,.obj (cond ty.agg (flT tab t ty) ty))]))
   | none=>.fail:Rd (SV×HW)).run H fp=some ((v,hw),fp')):dw C S H a ((alloc t true (.tuple #[])).run P w) v hw:=by
 split at h
 ·rename_i ty ht;have hT:=hTab.tys ht;obtain⟨hid,h⟩:=fH h;obtain⟨e,_⟩:=af h;cases e;obtain⟨vs,hvs,hL,hG⟩:∃ vs,(cond ty.agg (uh (.fld id) (flT tab t ty) 0) [(.fld id 0,oH ty)])=bg (.fld id) 0 vs∧kF g (view g.fl w) (cond ty.agg (flT tab t ty) ty) vs (zeroCells ty)∧iV H vs:=by
   cases ha:ty.agg with
   | true=>obtain⟨f1,f2,f3,f4⟩:=J7 (tab:=tab) (t:=t) ha (hT.structEnd ha);refine⟨zsv (flT tab t ty),OT _ _ _,?_,QV _⟩;rw[cond_true];unfold kF;rw[f1,←f4];exact O1 f2
   | false=>
    refine⟨[oH ty],rfl,?_,fun u hu=>by simp at hu;subst hu;exact⟨(vG ty).1,(vG ty).2 H⟩⟩;simp only[cond_false];unfold kF;rw[ha];have hz:=lG (iv:=view g.fl w) ty;have h1:=ja ha hz.1;have hm:mkV ty (zeroCells ty)∈zeroCells ty:=by have:=List.mem_singleton.2 (rfl:mkV ty (zeroCells ty)=mkV ty (zeroCells ty));rw[←h1] at this;exact this
    exact⟨_,_,rfl,h1,hz.2 _ hm,Io ty⟩
  rw[hvs];obtain⟨g',n1,n2⟩:=hs.newObj hid t (hG.fld (n:=id) (i:=0)) (hL.cells (n:=id) (H:=H));refine dw.site n1 n2 ?_;have hz:=lG (iv:=view g.fl w) ty;simp only[alloc,run_bind,hT.run_zero,andThen_ok,newVar,newRow,run_pure,run_newObj,iw hz.1 hz.2];rfl
 ·exact(ae h).elim
theorem YR (hTab:TabOk P tab) (hs:SimG C g S H a w) {id:Nat} {t:TypeId} {p:TypeId×Nat} {v:SV} {hw:HW} {fp fp':List HLoc} (hA:iW tab.arrs t=some p)
  (h:(Kr tab id p).run H fp=some ((v,hw),fp')):dw C S H a ((alloc t true (.tuple #[])).run P w) v hw:=by
 obtain⟨et,n⟩:=p;unfold Kr at h;obtain⟨e',he',hu,hz0⟩:=zo hTab.arrs hA;simp only[he'] at h;cases hn:blt 0 n with
 | false=>rw[hn] at h;exact(ae h).elim
 | true=>
  rw[hn] at h;obtain⟨hid,h⟩:=fH h;obtain⟨e,_⟩:=af h;cases e;have ha:(dI e' n).agg=true:=by cases n<;>rfl
  have hL:kF g (view g.fl w) (dI e' n) (zsv (dI e' n)) (zeroCells (dI e' n)):=by unfold kF;rw[ha];exact O1 (JK e' n)
  have hG:iV H (zsv (dI e' n)):=QV _;rw[OT];obtain⟨g',n1,n2⟩:=hs.newObj hid t (hG.fld (n:=id) (i:=0)) (hL.cells (n:=id) (H:=H));refine dw.site n1 n2 ?_;have hz:=lG (iv:=view g.fl w) (dI e' n);obtain⟨i,hi,hzi⟩:=map_eq_some_iff.1 hz0;simp only[Prod.mk.injEq] at hzi;have hzi:=hzi.2;have hrun:(zeroValue t).run P w=.ok (mkV (dI e' n) (zeroCells (dI e' n))) w:=by simp[zeroValue,typeInfo,hi,hzi]
  simp only[alloc,run_bind,hrun,andThen_ok,newVar,newRow,run_pure,run_newObj,iw hz.1 hz.2];rfl
theorem zb1 (hTab:TabOk P tab) (hs:SimG C g S H a w) {id:Nat} {t:TypeId} {x:SV} {vx:Value} {v:SV} {hw:HW} {fp fp':List HLoc}
  (h:(match tla tab t with
   | some ty=>fresh (.site id) ((putObj id (cond ty.agg (flT tab t ty) ty) x).bind fun ws=>.ret (.adr id 0,ws++[(.site id,.obj (cond ty.agg (flT tab t ty) ty))]))
   | none=>.fail:Rd (SV×HW)).run H fp=some ((v,hw),fp')) (hx:SR g (view g.fl w) x vx) (rx:aG H x):dw C S H a ((box t vx).run P w) v hw:=by
 split at h
 ·rename_i ty ht;have hT:=hTab.ends ht;obtain⟨hid,h⟩:=fH h;obtain⟨ws,fp1,k1,h⟩:=ah h;obtain⟨e,_⟩:=af h;cases e;have hT':(cond ty.agg (flT tab t ty) ty).agg=true→Go.Sx.structEnd (cond ty.agg (flT tab t ty) ty)=true:=by
   cases ha:ty.agg with
   | true=>rw[cond_true];exact fun _=>(J7 ha (hT ha)).2.1
   | false=>rw[cond_false];exact hT
  obtain⟨vs,rfl,hL,hG⟩:=Qo hs hT' k1 hx rx;obtain⟨g',n1,n2⟩:=hs.newObj hid t (hG.fld (n:=id) (i:=0)) (hL.cells (n:=id) (H:=H));refine dw.site n1 n2 ?_;simp only[box,newVar,newRow,run_bind,run_pure,run_newObj,andThen_ok];rfl
 ·exact(ae h).elim
theorem YG {F:Nat→SV} {iv:IV} {i o:Nat} {ft:Ty}:∀ {t:Ty} {k off:Nat} {cs:List Value},iO t k off=some (i,o,ft)→dF F g iv t cs k→
  ∃ c1 c c2,cs=c1++(c++c2)∧c1.length+o=off∧c.length=ft.size∧(∀ x∈c,oneC x=true)∧SR g iv (F i) (mkV ft c)∧k≤i∧
   ∀ (d:List Value) (nv:SV),d.length=ft.size→(∀ x∈d,oneC x=true)→SR g iv nv (mkV ft d)→dF (fun j=>if j=i then nv else F j) g iv t (c1++(d++c2)) k:=by
 intro t;induction t with
 | pair A B hA hB=>
  rintro k off cs h ⟨d1,d2,rfl,h1,h2,h3,h4⟩;simp only[iO] at h;cases hb:blt off A.size with
  | true=>rw[hb] at h;simp only[cond,Option.some.injEq,Prod.mk.injEq] at h;obtain⟨rfl,rfl,rfl⟩:=h;refine⟨[],d1,d2,rfl,by simp,h1,h2,h3,le_refl _,fun d nv q1 q2 q3=>⟨d,d2,rfl,q1,q2,by simpa using q3,?_⟩⟩;refine dF.congr (fun j _=> ?_) h4;rw[if_neg (by omega)]
  | false=>
   rw[hb] at h;obtain⟨c1,c,c2,rfl,k1,k2,k3,k4,k5,k6⟩:=hB h h4;have hge:¬ off<A.size:=fun hlt=>by have hx:blt off A.size=true:=Nat.ble_eq_true_of_le hlt;rw[hx] at hb;exact noConfusion hb
   refine⟨d1++c1,c,c2,by simp,by rw[length_append,h1];omega,k2,k3,k4,by omega,fun d nv q1 q2 q3=> ?_⟩;rw[append_assoc];refine⟨d1,c1++(d++c2),rfl,h1,h2,?_,k6 d nv q1 q2 q3⟩;dsimp only;rw[if_neg (by omega)];exact h3
 | _=>intro k off cs h;simp[iO] at h
theorem Qn {l:HLoc} {v:SV}:∀ {ws:HW} {H:HLoc→SV},(∀ p∈ws,p.1≠l)→puts (ak H l v) ws=ak (puts H ws) l v
 | [],H,_=>rfl
 | (k,u)::r,H,h=>by simp only[puts];rw[Iq _ _ _ (fun e=>h (k,u) (by simp) e.symm)];exact Qn fun p hp=>h p (by simp[hp])
theorem SimG.turnObj (hs:SimG C g S H a w) {s:Nat} {t:Ty} (hobj:H (.site s)=.obj t) {cs':List Value} {ws:HW} {k:Nat} {vs:List Value} (hws:∀ p∈ws,∃ i,p.1=.fld s i∧p.2≠.bot∧aG H p.2)
  (hblk:Blk (w.setCells (g.st s) k vs) (g.st s) cs') (hc:dV (fun i=>puts H ws (.fld s i)) g (view g.fl w) t cs') :
  ∃ g',SimG C g' S (puts H ws) a (w.setCells (g.st s) k vs):=by
 obtain⟨cs0,_,hown,hfl,_⟩:=hs.sites s t hobj;have hd:=hs.drop (l:=.site s) (.inl ⟨s,rfl⟩);have ht:=hd.turn (b:=g.st s) (o:=.site s) (o':=.site s) (f:=0) (w':=w.setCells (g.st s) k vs) hown (fun u=>by rw[aK];exact SV.noConfusion)
  (fun q hq=>mJ _ _ _ _ q hq) (size_setCells _ _ _ _) ⟨(lD _ _ _ _).1,(lD _ _ _ _).2.1,(lD _ _ _ _).2.2.1⟩ (fun q v hq _=>by rw[hfl] at hq;omega)
 have hp:=ht.putFlds (n:=s) (ws:=ws) (fun u=>by rw[aK];exact SV.noConfusion) (fun p hp=>by obtain⟨i,h1,h2,h3⟩:=hws p hp;exact⟨i,h1,h2,h3.upd SV.noConfusion⟩);have hne:∀ p∈ws,p.1≠HLoc.site s:=fun p hp=>by obtain⟨i,h1,_⟩:=hws p hp;rw[h1];simp
 rw[Qn hne] at hp;have hiv:(view g.fl w).le (view (aA g.fl (g.st s) 0) (w.setCells (g.st s) k vs)):=by
  intro q o v hv;obtain⟨q1,q2⟩:=Ip.1 hv;by_cases hq:q=g.st s
  ·subst hq;rw[hfl] at q1;omega
  ·exact Ip.2 ⟨by rw[bn _ _ hq];exact q1,(cell?_of_block (a:=⟨q,o,none⟩) (mJ _ _ _ _ q hq)).trans q2⟩
 have:=hp.setSite (n:=s) (t:=t) ⟨cs',hblk,by simp,by simp,by
  have hF:(fun i=>ak (puts H ws) (.site s) .und (.fld s i))=fun i=>puts H ws (.fld s i):=funext fun i=>ay _ _ (by simp);rw[hF];refine dV.change (H:=H) (GAgree.same (g:=g) (g':={ g with fl:=aA g.fl (g.st s) 0,own:=aA g.own (g.st s) (some (.site s)) }) rfl rfl rfl) hiv (fun i=> ?_) hc;rcases CU (l:=.fld s i) (ws:=ws) (H:=H) with h|⟨p,hp,h1,h2⟩
  ·rw[h];exact hs.refF s i
  ·rw[←h2];obtain⟨_,_,_,hr⟩:=hws p hp;exact hr⟩
 rw[BZ,ZQ] at this
 ·exact⟨_,this⟩
 ·rcases CU (l:=.site s) (ws:=ws) (H:=H) with h|⟨p,hp,h1,_⟩
  ·rw[h,hobj]
  ·exact absurd h1 (hne p hp)
end
section
variable {P:Program} {tab:Tab} {C:Ctx} {g:Gh} {S:Nat→SV} {H:HLoc→SV} {a:Act} {w:World}
theorem lZ {hw:HW} {s:Nat} (hp:bC H hw):puts H hw (.site s)=H (.site s):=by
 have:∀ {hw:HW} {H:HLoc→SV},bC H hw→puts H hw (.site s)=H (.site s):=by
  intro hw;induction hw with
  | nil=>intro H _;rfl
  | cons x r ih=>rintro H ⟨⟨rr,p,e,y,h1,h2,h3⟩,hr⟩;obtain⟨k,v⟩:=x;simp only at h1 h2 h3;subst h1 h2;simp only[puts];rw[ih (bC.upd h3 hr),ay _ _ (by simp)]
 exact this hp
theorem pV {hw:HW} {s i:Nat} (hp:bC H hw):puts H hw (.fld s i)=H (.fld s i):=by
 have:∀ {hw:HW} {H:HLoc→SV},bC H hw→puts H hw (.fld s i)=H (.fld s i):=by
  intro hw;induction hw with
  | nil=>intro H _;rfl
  | cons x r ih=>rintro H ⟨⟨rr,p,e,y,h1,h2,h3⟩,hr⟩;obtain⟨k,v⟩:=x;simp only at h1 h2 h3;subst h1 h2;simp only[puts];rw[ih (bC.upd h3 hr),ay _ _ (by simp)]
 exact this hp
theorem dF.length {F:Nat→SV} {iv:IV}:∀ {t:Ty} {cs:List Value} {i:Nat},dF F g iv t cs i→cs.length=t.size:=by
 intro t;induction t with
 | pair A B _ hB=>rintro cs i ⟨c1,c2,rfl,q1,_,_,q4⟩;rw[length_append,q1,hB q4];rfl
 | unit=>intro cs i q;rw[show cs=[] from q];rfl
 | _=>intro cs i q;exact q.elim
theorem dV.length {F:Nat→SV} {iv:IV} {t:Ty} {cs:List Value} (h:dV F g iv t cs):cs.length=t.size:=by
 unfold dV at h;cases ha:t.agg with
 | true=>rw[ha] at h;exact dF.length h
 | false=>rw[ha] at h;obtain⟨c,rfl,_⟩:=h;simp[oq ha]
theorem Pv {hw:HW} {r:Nat} (hp:bC H hw) (hm:dA (.row r) (au hw)=false):puts H hw (.row r)=H (.row r):=by
 have:∀ {hw:HW} {H:HLoc→SV},bC H hw→dA (.row r) (au hw)=false→puts H hw (.row r)=H (.row r):=by
  intro hw;induction hw with
  | nil=>intro H _ _;rfl
  | cons x t ih=>
   rintro H ⟨⟨rr,p,e,y,h1,h2,h3⟩,hr⟩ hm;obtain⟨k,v⟩:=x;simp only at h1 h2 h3;subst h1 h2;simp only[au,dA] at hm;cases hb:(HLoc.row r).beq (.row rr) with
   | true=>rw[hb] at hm;exact noConfusion hm
   | false=>
    rw[hb] at hm;simp only[puts];have hne:HLoc.row r≠.row rr:=fun e=>by rw[e,HLoc.beq_refl] at hb;exact noConfusion hb
    rw[ih (bC.upd h3 hr) hm,ay _ _ hne]
 exact this hp hm
def wZ (C:Ctx) (S:Nat→SV) (H:HLoc→SV) (a:Act) (run:Result Unit) (hw:HW):Prop:=∃ w' g',run=.ok () w'∧SimG C g' S (puts H hw) a w'
theorem Jb (hs:SimG C g S H a w) {t:TypeId} {u:Ty} (hT:TyW P t u) {s:Nat} {ot:Ty} (hobj:H (.site s)=.obj ot) (ha:ot.agg=true) {off i o:Nat} {ft:Ty} (hf:iO ot 0 off=some (i,o,ft))
  {vv:Value} (hvl:vv.cells.toList.length=u.size) (hvo:∀ x∈vv.cells.toList,oneC x=true) {nv:SV} (hnv:nv≠.bot) (hrv:aG H nv)
  (hnew:∀ D:List Value,D.length=ft.size→(∀ x∈D,oneC x=true)→SR g (view g.fl w) (H (.fld s i)) (mkV ft D)→
   ∃ e1 e e2,D=e1++(e++e2)∧e1.length=o∧e.length=u.size∧SR g (view g.fl w) nv (mkV ft (e1++(vv.cells.toList++e2)))) :
  ∃ w' g',(storeVar t ⟨g.st s,off,none⟩ vv).run P w=.ok () w'∧SimG C g' S (puts H [(.fld s i,nv)]) a w':=by
 obtain⟨cs,hblk,h2,h3,h4⟩:=hs.sites s ot hobj;have h4':=h4;unfold dV at h4;rw[ha] at h4;simp only[cond_true] at h4;obtain⟨c1,c,c2,rfl,k1,k2,k3,k4,_,k6⟩:=YG hf h4;obtain⟨e1,e,e2,rfl,m1,m2,m3⟩:=hnew c k2 k3 k4;have hb:Blk w (g.st s) ((c1++e1)++(e++(e2++c2))):=by simpa using hblk
 have hl:(c1++e1).length=off:=by rw[length_append];omega
 have hrun:=tK (P:=P) hT (v:=vv) (cs:=vv.cells.toList) (by simp) hvl hvo hb m2;rw[hl] at hrun;have hdl:(e1++(vv.cells.toList++e2)).length=ft.size:=by simp only[length_append] at k2 ⊢;omega
 have hdo:∀ x∈e1++(vv.cells.toList++e2),oneC x=true:=by
  intro x hx;simp only[mem_append] at hx;rcases hx with hx|hx|hx
  ·exact k3 x (by simp[hx])
  ·exact hvo x hx
  ·exact k3 x (by simp[hx])
 have hblk':=Blk.setCells (vs:=vv.cells.toList) (o:=off) hb hl (by rw[m2,hvl]);have hc:dV (fun j=>puts H [(HLoc.fld s i,nv)] (.fld s j)) g (view g.fl w) ot (c1++((e1++(vv.cells.toList++e2))++c2)):=by
  unfold dV;rw[ha];refine dF.congr (fun j _=> ?_) (k6 _ nv hdl hdo m3);simp only[zero_add,puts];by_cases hj:j=i
  ·subst hj;rw[aK,if_pos rfl]
  ·rw[ay _ _ (by simpa using hj),if_neg hj]
 obtain⟨g',n1⟩:=hs.turnObj hobj (cs':=c1++((e1++(vv.cells.toList++e2))++c2)) (ws:=[(.fld s i,nv)]) (k:=off) (vs:=vv.cells.toList)
  (fun p hp=>by simp at hp;subst hp;exact⟨i,rfl,hnv,hrv⟩) (by simpa using hblk') hc
 exact⟨_,g',hrun,n1⟩
theorem yh (hTab:TabOk P tab) (hs:SimG C g S H a w) {t:TypeId} {u:Ty} (ht:tla tab t=some u) {x v:SV} {vx vv:Value} {hw:HW} {fp fp':List HLoc}
  (h:(qH u x v).run H fp=some (hw,fp')) (hx:SR g (view g.fl w) x vx) (hv:SR g (view g.fl w) v vv) (rv:aG H v) :
  wZ C S H a ((storeAt t vx vv).run P w) hw:=by
 have hT:=(hTab.w ht).1;have hE:=hTab.ends ht;have st:∀ (b o:Nat),(storeAt t (.pointer (some ⟨b,o,none⟩)) vv).run P w=(storeVar t ⟨b,o,none⟩ vv).run P w:=fun b o=>by simp[storeAt,sureAddr]
 unfold qH at h;split at h
 ·rename_i s off;rw[show vx=_ from hx,st];simp only[Rd.run] at h;split at h
  ·rename_i ot hobj;cases hc:cond (beq off 0) (ot.beq u) false with
   | true=>
    rw[hc] at h;obtain⟨e0,e1⟩:=az hc;obtain rfl:=Ty.beq_eq e1;obtain rfl:=eq_of_beq_eq_true e0;obtain⟨vs,rfl,hL,hG⟩:=Qo hs hE h hv rv;obtain⟨cs,hblk,h2,h3,h4⟩:=hs.sites s ot hobj;have hb:Blk w (g.st s) ([]++(cs++[])):=by simpa using hblk
    have hrun:=tK (P:=P) hT (v:=vv) (cs:=vv.cells.toList) (by simp) hL.len.1 hL.len.2 hb h4.length;have hblk':=Blk.setCells (vs:=vv.cells.toList) (o:=0) hb rfl (by rw[h4.length,hL.len.1]);obtain⟨g',n1⟩:=hs.turnObj hobj (ws:=bg (.fld s) 0 vs) (k:=0) (vs:=vv.cells.toList) (cs':=vv.cells.toList) hG.fld (by simpa using hblk') hL.cells;exact⟨_,g',hrun,n1⟩
   | false=>
    rw[hc] at h;cases ha:ot.agg with
    | false=>rw[ha] at h;exact(ae h).elim
    | true=>
     rw[ha] at h;simp only[cond_true,cond_false] at h;split at h
     ·rename_i i o ft hf;cases hc2:cond (beq o 0) (ft.beq u) false with
      | true=>
       rw[hc2] at h;obtain⟨e0,e1⟩:=az hc2;obtain rfl:=Ty.beq_eq e1;obtain rfl:=eq_of_beq_eq_true e0;simp only[cond_true] at h;cases hu:ft.agg with
       | true=>
        rw[hu] at h;obtain⟨⟨y,hw1⟩,fp1,k1,h⟩:=ah h;obtain⟨e,_⟩:=af h;subst e;obtain⟨p1,p2⟩:=oz hs k1 hv rv;obtain⟨fl,own,m1,m2⟩:=hs.pubs p1;have hV:=p2 fl own (m1.rowsRd p1) m2;obtain⟨w',g',q1,q2⟩:=Jb (g:={ g with fl:=fl,own:=own }) m1 hT (s:=s) (ot:=ot) (by rw[lZ p1];exact hobj) ha hf (vv:=vv) hV.cells.length hV.cells.ones (nv:=.pv ft y) SV.noConfusion trivial
         (fun D hD _ _=>⟨[],D,[],by simp,rfl,hD,by simp only[nil_append,append_nil];exact⟨_,hV.cells,rfl⟩⟩)
        rw[←gX] at q2;exact⟨w',g',q1,q2⟩
       | false=>rw[hu] at h;obtain⟨_,fp1,k1,h⟩:=ah h;obtain⟨e,_⟩:=af h;subst e;obtain⟨f1,f2,f3,f4⟩:=qf hs k1 hv;exact Jb hs hT hobj ha hf f3 f4 f1 rv (fun D hD _ _=>⟨[],D,[],by simp,rfl,hD,by simp only[nil_append,append_nil];rw[←f2];exact hv⟩)
      | false=>
       rw[hc2] at h;change((gZ ft (H (.fld s i))).bind fun p=>(jM u v).bind fun q=>(Rd.ofO (dS ft p.1 o u q.1)).bind fun y=>Rd.ret (p.2++q.2++[(HLoc.fld s i,SV.pv ft y)])).run H (_::_)=_ at h;obtain⟨⟨p,hw1⟩,fp1,k1,h⟩:=ah h;obtain⟨⟨q,hw2⟩,fp2,k2,h⟩:=ah h;obtain⟨y,fp3,k3,h⟩:=ah h;obtain⟨k3,_⟩:=aS k3;obtain⟨e,_⟩:=af h;subst e;obtain⟨p1,p2⟩:=vK k1;obtain⟨q1,q2⟩:=oz hs k2 hv rv;have hP:bC H (hw1++hw2):=bC.append.2 ⟨p1,q1⟩;obtain⟨fl,own,m1,m2⟩:=hs.pubs hP;have hR:=m1.rowsRd hP;have hV:=q2 fl own (hR.sub fun _ hm=>List.mem_append_right _ hm) m2;obtain⟨w',g',r1,r2⟩:=Jb (g:={ g with fl:=fl,own:=own }) m1 hT (s:=s) (ot:=ot) (by rw[lZ hP];exact hobj) ha hf (vv:=vv) hV.cells.length hV.cells.ones (nv:=.pv ft y) SV.noConfusion trivial
        (fun D hD hO hSR=>by rw[pV hP] at hSR;have hF:=(p2 _ _ _ (hR.sub fun _ hm=>List.mem_append_left _ hm) hSR).cells;rw[iw hD hO] at hF;obtain⟨d1,d,d2,hd,l1,l2,l3⟩:=PZ hV.cells hF k3;exact⟨d1,d,d2,by simpa using hd,l1,l2,⟨_,l3,rfl⟩⟩)
       rw[←gX] at r2;exact⟨w',g',r1,r2⟩
     ·exact(ae h).elim
  ·exact(ae h).elim
 ·rename_i r i off sz;simp only[Rd.run] at h;split at h
  ·rename_i e l hrow;cases hz:beq e.size sz with
   | false=>rw[hz] at h;exact(ae h).elim
   | true=>
    rw[hz] at h;obtain rfl:=eq_of_beq_eq_true hz;obtain⟨y,hy,h⟩:=bP h;obtain⟨⟨q,hw1⟩,fp1,k1,h⟩:=ah h;obtain⟨z,fp2,k2,h⟩:=ah h;obtain⟨k2,_⟩:=aS k2;cases hm:dA (.row r) (au hw1) with
    | true=>rw[hm] at h;exact(ae h).elim
    | false=>
     rw[hm] at h;obtain⟨e1,_⟩:=af h;subst e1;obtain⟨p1,p2⟩:=vK k1;obtain⟨fl,own,m1,m2⟩:=hs.pubs p1;have hV:=(p2 _ _ _ (m1.rowsRd p1) (SR.change (H:=H) (GAgree.same (g:=g) (g':={ g with fl:=fl,own:=own }) rfl rfl rfl) m2 rv hv)).cells;have hrow':puts H hw1 (.row r)=.row false e l:=by rw[Pv p1 hm];exact hrow
     obtain⟨bl,len,cap0,hh,rfl⟩:=hx;rcases m1.rows r false e l hrow' with⟨h1,h2⟩|⟨b,cap,cs,h1,h2,h3,h4,h5,h6,h7⟩
     ·have h1:g.hd r=_:=h1;rw[h1] at hh;cases hh
     ·have h1:g.hd r=_:=h1;have hbl:bl=b:=by rw[h1] at hh;cases hh;rfl
      rw[hbl];obtain⟨c,hc1,hc2⟩:=h7 i y hy;obtain⟨d1,d,d2,rfl,l1,l2,l3⟩:=PZ hV hc2 k2;have hi:i<l.length:=(List.getElem?_eq_some_iff.1 hy).1;have hmul:(i+1)*e.size≤cap*e.size:=mul_le_mul_right _ (by omega);rw[add_mul,one_mul] at hmul;have hcl:=hc2.length;have hcs:cs=(cs.take (i*e.size)++d1)++(d++(d2++cs.drop (i*e.size+e.size))):=by
       have e1:cs=cs.take (i*e.size)++((cs.drop (i*e.size)).take e.size++cs.drop (i*e.size+e.size)):=by rw[←drop_drop,take_append_drop,take_append_drop]
       have e2:(cs.drop (i*e.size)).take e.size=d1++(d++d2):=by
        apply ext_getElem?;intro k;by_cases hk:k<e.size
        ·rw[getElem?_take_of_lt hk,getElem?_drop];have hk':k<(d1++(d++d2)).length:=by rw[hcl];exact hk
         rw[hc1 k _ (getElem?_eq_getElem hk'),getElem?_eq_getElem hk']
        ·rw[getElem?_eq_none (by rw[length_take];omega),getElem?_eq_none (by rw[hcl];omega)]
       conv=>lhs;rw[e1,e2]
       simp
      have hL:(cs.take (i*e.size)++d1).length=i*e.size+off:=by rw[length_append,length_take,l1,h4];congr 1;omega
      have h3':=h3;rw[hcs] at h3';have hrun:=tK (P:=P) hT (v:=vv) (cs:=vv.cells.toList) (by simp) hV.length hV.ones h3' l2;rw[hL] at hrun;have hblk':=Blk.setCells (vs:=vv.cells.toList) (o:=i*e.size+off) h3' hL (by rw[l2,hV.length]);have hd:=m1.drop (l:=.row r) (.inr ⟨r,rfl⟩);have hturn:=hd.turn (b:=b) (o:=.row r) (o':=.row r) (f:=0) (w':=w.setCells b (i*e.size+off) vv.cells.toList) h5 lF
       (fun k hk=>mJ b _ _ _ k hk) (size_setCells b _ _ _) ⟨(lD b _ _ _).1,(lD b _ _ _).2.1,(lD b _ _ _).2.2.1⟩ (fun q v hq _=>by rw[h6] at hq;simp at hq)
      have hiv:(view fl w).le (view (aA fl b 0) (w.setCells b (i*e.size+off) vv.cells.toList)):=by
       intro k o v hv;obtain⟨hlt,hv⟩:=Ip.1 hv;by_cases hk:k=b
       ·subst hk;have h6:fl k=_:=h6;rw[h6] at hlt;simp at hlt
       ·exact Ip.2 ⟨by rw[bn _ _ hk];exact hlt,(cell?_of_block (a:=⟨k,o,none⟩) (mJ b _ _ _ k hk)).trans hv⟩
      have hE:kQ (view fl w) e (l.set i z) ((cs.take (i*e.size)++d1)++(vv.cells.toList++(d2++cs.drop (i*e.size+e.size)))):=by
       intro j x hj;rw[List.getElem?_set] at hj;split at hj
       ·rename_i hij;subst hij;simp only[Option.some.injEq] at hj;subst hj;refine⟨_,fun k v hk=> ?_,l3⟩;have htl:(cs.take (i*e.size)).length=i*e.size:=by rw[length_take];omega
        have:=o7 (c1:=cs.take (i*e.size)) (c:=d1++(vv.cells.toList++d2)) (c2:=cs.drop (i*e.size+e.size)) hk;rw[htl] at this;simpa using this
       ·rename_i hij;obtain⟨c',c1',c2'⟩:=h7 j x hj;refine⟨c',fun k v hk=> ?_,c2'⟩;have:=c1' k v hk;have hkl:k<e.size:=by rw[←c2'.length];exact(List.getElem?_eq_some_iff.1 hk).1
        rw[←this];have hvl:=hV.length;rcases Nat.lt_or_gt_of_ne hij with hlt|hgt
        ·
         have hm:(i+1)*e.size≤j*e.size:=mul_le_mul_right _ hlt;rw[add_mul,one_mul] at hm;have hlen2:(d1++(vv.cells.toList++d2)).length=e.size:=by rw[←hcl];simp[l2,hvl]
         have htl:(cs.take (i*e.size)).length=i*e.size:=by rw[length_take];omega
         rw[show(cs.take (i*e.size)++d1)++(vv.cells.toList++(d2++cs.drop (i*e.size+e.size)))=(cs.take (i*e.size)++(d1++(vv.cells.toList++d2)))++cs.drop (i*e.size+e.size) from by simp];rw[getElem?_append_right (by rw[length_append,htl,hlen2];omega),getElem?_drop];congr 1;rw[length_append,htl,hlen2];omega
        ·have hm:(j+1)*e.size≤i*e.size:=mul_le_mul_right _ hgt;rw[add_mul,one_mul] at hm;have htl:(cs.take (i*e.size)).length=i*e.size:=by rw[length_take];omega
         rw[append_assoc,getElem?_append_left (by omega),getElem?_take_of_lt (by omega)]
      have hfin:=hturn.setRow (r:=r) (pub:=false) (e:=e) (l:=l.set i z) (.inr ⟨b,cap,_,by rw[List.length_set];exact h1,by rw[List.length_set];exact h2,hblk',by rw[hcs] at h4;simp only[length_append] at h4 ⊢;rw[l2] at h4;rw[hV.length];exact h4,by simp,by simp,hE.mono hiv⟩);rw[BZ] at hfin;rw[st];exact⟨_,_,hrun,by rw[yc];exact hfin⟩
  ·exact(ae h).elim
 ·exact(ae h).elim
theorem G6 (hTab:TabOk P tab) (hs:SimG C g S H a w) {t:TypeId} {u:Ty} (ht:tla tab t=some u) {x v:SV} {vx vv:Value} {hw:HW} {fp fp':List HLoc}
  (h:(zf u x v).run H fp=some (hw,fp')) (hx:SR g (view g.fl w) x vx) (hv:SR g (view g.fl w) v vv) (rv:aG H v) :
  wZ C S H a ((storeAt t vx vv).run P w) hw:=by
 unfold zf at h;split at h
 case h_2=>exact yh hTab hs ht h hx hv rv
 rename_i r i off sz;simp only[Rd.run] at h;split at h
 case h_2=>exact yh hTab hs ht h hx hv rv
 rename_i e l n hh hrow;have hT:=(hTab.w ht).1;have st:∀ (b o:Nat),(storeAt t (.pointer (some ⟨b,o,none⟩)) vv).run P w=(storeVar t ⟨b,o,none⟩ vv).run P w:=fun b o=>by simp[storeAt,sureAddr]
 cases hz:beq e.size sz with
 | false=>rw[hz] at h;exact(ae h).elim
 | true=>
  rw[hz] at h;obtain rfl:=eq_of_beq_eq_true hz;obtain⟨x,hi,h⟩:=bP h;obtain⟨bl,len,cap0,hbl,rfl⟩:=hx;rw[st];split at h
  ·
   rename_i t' q _;simp only[Rd.run] at h;split at h
   ·rename_i p e' l' hq;cases hp:cond p true (beq q r) with
    | true=>rw[hp] at h;exact(ae h).elim
    | false=>
     have hpf:p=false:=by cases p<;>first|rfl|exact noConfusion hp
     subst hpf;rw[hp] at h;simp only[cond_false] at h;obtain⟨y,fp1,k1,h⟩:=ah h;obtain⟨k1,_⟩:=aS k1;obtain⟨he,rfl⟩:=dm k1;cases he;obtain⟨z,fp2,k2,h⟩:=ah h;obtain⟨k2,_⟩:=aS k2;cases hsl:lM e off t' with
     | false=>rw[hsl] at h;exact(ae h).elim
     | true=>
      rw[hsl] at h;simp only[cond_true] at h;cases hn:decide (i≤n) with
      | false=>rw[hn] at h;simp[Rd.run] at h
      | true=>
       rw[hn] at h;simp only[Rd.run,cond_true] at h;have key:(∀ k q,hh=some (k,q)→k=i)∧hw=[(.row q,.und),(.row r,.und),(.row r,.deep e (l.set i z) (oW n (i+1)) none)]:=by
        cases hh with
        | none=>simp only[wu] at h;obtain⟨e1,_⟩:=af h;exact⟨fun k q h=>(by cases h),e1⟩
        | some p=>
         obtain⟨k,q'⟩:=p;simp only[wu,Rd.run] at h;cases hk:decide (k=i) with
         | false=>rw[hk] at h;simp at h
         | true=>rw[hk] at h;simp only[cond_true,Option.some.injEq,Prod.mk.injEq] at h;exact⟨fun k' q'' h'=>by cases h';exact of_decide_eq_true hk,h.1.symm⟩
       obtain⟨hhole,rfl⟩:=key;rw[show vv=_ from hv];obtain⟨w',g',q1,q2⟩:=hs.attach (P:=P) hrow hi (of_decide_eq_true hn) hhole (Dp hsl) hq k2 hT hbl;exact⟨w',g',q1,q2⟩
   ·exact(ae h).elim
  ·rename_i t' y;cases hf:bu u with
   | false=>rw[hf] at h;exact(ae h).elim
   | true=>rw[hf] at h;simp only[cond_true] at h;obtain⟨y',fp1,k1,h⟩:=ah h;obtain⟨k1,_⟩:=aS k1;obtain⟨z,fp2,k2,h⟩:=ah h;obtain⟨k2,_⟩:=aS k2;obtain⟨e1,_⟩:=af h;subst e1;have hV:=(jP k1 hv).cells;obtain⟨w',q1,q2⟩:=hs.setD (P:=P) hrow hi hf hV k2 hT rfl hbl;exact⟨w',g,q1,q2⟩
  ·rename_i d t' _;cases hc:cond (t'.beq u) (LQ e off u) false with
   | false=>rw[hc] at h;exact(ae h).elim
   | true=>
    rw[hc] at h;simp only[cond_true] at h;obtain⟨hb,hsin⟩:=az hc;obtain rfl:=Ty.beq_eq hb;obtain⟨⟨y,qo⟩,fp1,k1,h⟩:=ah h;obtain⟨z,fp2,k2,h⟩:=ah h;obtain⟨k2,_⟩:=aS k2;obtain⟨pu,hpu,hsl⟩:∃ pu,slF t'=some pu∧slF e=some (off+pu.1,pu.2):=by
     unfold LQ at hsin;split at hsin
     ·rename_i p hp;exact⟨p,hp,Dp hsin⟩
     ·exact noConfusion hsin
    cases hn:decide (i≤n) with
    | false=>rw[hn] at h;simp[Rd.run] at h
    | true=>
     rw[hn] at h;simp only[Rd.run,cond_true] at h;have key:(∀ k q,hh=some (k,q)→k=i)∧hw=Vo qo++[(.row r,.und),(.row r,.deep e (l.set i z) (oW n (i+1)) none)]:=by
      cases hh with
      | none=>simp only[wu] at h;obtain⟨e1,_⟩:=af h;exact⟨fun k q h=>(by cases h),e1⟩
      | some p=>
       obtain⟨k,q'⟩:=p;simp only[wu,Rd.run] at h;cases hk:decide (k=i) with
       | false=>rw[hk] at h;simp at h
       | true=>rw[hk] at h;simp only[cond_true,Option.some.injEq,Prod.mk.injEq] at h;exact⟨fun k' q'' h'=>by cases h';exact of_decide_eq_true hk,h.1.symm⟩
     obtain⟨hhole,rfl⟩:=key;obtain⟨g1,g2⟩:=H9 k1;obtain⟨s1,rfl,s3⟩:=hv;have hH:=g2 g (view g.fl w) _ (qR hs (d:=d) s3);have hin:=of_decide_eq_true hn;cases qo with
     | none=>
      obtain⟨w',g',q1,q2⟩:=hs.attachS (P:=P) (q:=r+1) (bo:=none) (by omega) hrow hi hin hhole hpu hsl (hH.mono (IV.le.refl _) fun u v y hq=>by
       rcases hq with⟨h1,h2⟩|⟨_,h,_⟩
       ·exact .inl ⟨h1,h2,rfl⟩
       ·cases h) (fun c h=>by cases h) (.inl rfl) k2 hT (vv:=.agg (fK (g.cv d) t' 0).toArray) rfl hbl
      exact⟨w',g',q1,q2⟩
     | some q=>
      obtain⟨u',y',hq⟩:=g1 q rfl;have hrq:q≠r:=fun e=>by rw[e,hrow] at hq;cases hq
      obtain⟨bo,hB,hbo⟩:=iq.rowB (hs.rows q false u' y' hq);have hd:=hs.drop (l:=.row q) (.inr ⟨q,rfl⟩);have hrow1:ak H (.row q) .und (.row r)=.deep e l n hh:=by rw[ay _ _ (by simpa using fun e=>hrq e.symm)];exact hrow
      obtain⟨y0,hy0⟩:=CQ y (show slF t'=some (pu.1,pu.2) from hpu);obtain⟨c1,v,c2,e1,e2,e3,e4⟩:=hH.getSl hy0;rcases e4 with⟨q1,q2⟩|⟨r',q0,q1,q2⟩
      ·obtain⟨w',g',q1,q2⟩:=hd.attachS (P:=P) (q:=q) (bo:=none) hrq hrow1 hi hin hhole hpu hsl (hH.newQ hpu hy0 e1 e2 (.inl ⟨q1,q2,rfl⟩)) (fun c h=>by cases h) (.inl rfl) k2 hT (vv:=.agg (fK (g.cv d) t' 0).toArray) rfl hbl;exact⟨w',g',q1,q2⟩
      ·cases q0;rw[hq] at q2;cases q2;obtain⟨w',g',q1,q2⟩:=hd.attachS (P:=P) (q:=q) (bo:=bo) hrq hrow1 hi hin hhole hpu hsl (hH.newQ hpu hy0 e1 e2 (by rw[q1];exact hB)) (fun c h=>⟨(hbo c h).1,(hbo c h).2⟩) (.inr lF) k2 hT (vv:=.agg (fK (g.cv d) t' 0).toArray) rfl hbl;exact⟨w',g',q1,q2⟩
  ·exact(ae h).elim
end
section
variable {P:Program} {tab:Tab} {C:Ctx} {g:Gh} {S:Nat→SV} {H:HLoc→SV} {a:Act} {w:World}
theorem SimG.setComps {d:Nat}:∀ {ty:Ty} {vs:List SV} {cs:List Value} {i:Nat} {g:Gh} {H:HLoc→SV},SimG C g S H a w→iy g (view g.fl w) ty vs cs→(∀ k,k<vs.length→H (.comp d (i+k))=.bot)→iV H vs→
  ∃ cv',SimG C { g with cv:=cv' } S (puts H (bg (.comp d) i vs)) a w∧fK (cv' d) ty i=cs∧kz (cv' d) ty i∧(∀ d' k',d'≠d∨k'<i→cv' d' k'=g.cv d' k'):=by
 intro ty;induction ty with
 | pair A B _ hB=>
  intro vs cs i g H hs hF hbot hG;cases vs with
  | nil=>exact hF.elim
  | cons v vs=>
   obtain⟨c1,c2,rfl,h2,h3,h4,h5⟩:=hF;obtain⟨hv,hr⟩:=hG v (by simp);have h1:=hs.setComp (d:=d) (i:=i) (val:=mkV A c1) (by simpa using hbot 0 (by simp)) hv hr h4;have hA:GAgree H g { g with cv:=fun d' i'=>if d'=d∧i'=i then mkV A c1 else g.cv d' i' }:=
    ⟨fun _ _=>rfl,fun _ _=>rfl,fun d' k' hne=>by
     by_cases e:d'=d∧k'=i
     ·obtain⟨rfl,rfl⟩:=e;exact absurd (by simpa using hbot 0 (by simp)) hne
     ·simp[e],rfl⟩
   have hF':iy { g with cv:=fun d' i'=>if d'=d∧i'=i then mkV A c1 else g.cv d' i' } (view g.fl w) B vs c2:=by
    have:∀ {B:Ty} {vs:List SV} {c2:List Value},(∀ v∈vs,aG H v)→iy g (view g.fl w) B vs c2→iy { g with cv:=fun d' i'=>if d'=d∧i'=i then mkV A c1 else g.cv d' i' } (view g.fl w) B vs c2:=by
     intro B;induction B with
     | pair A' B' _ ih=>
      intro vs c2 hr hf;cases vs with
      | nil=>exact hf.elim
      | cons u us=>obtain⟨x1,x2,q1,q2,q3,q4,q5⟩:=hf;exact⟨x1,x2,q1,q2,q3,SR.change hA (IV.le.refl _) (hr u (by simp)) q4,ih (fun v hv=>hr v (by simp[hv])) q5⟩
     | unit=>intro vs c2 _ hf;cases vs with
      | nil=>exact hf
      | cons u us=>exact hf.elim
     | _=>intro vs c2 _ hf;cases vs<;>exact hf.elim
    exact this (fun v hv=>(hG v (by simp[hv])).2) h5
   obtain⟨cv',k1,k2,k3,k4⟩:=hB (i:=i+1) h1 hF' (fun k hk=>by rw[ay _ _ (by simp;omega)];have:=hbot (k+1) (by simpa using hk);rwa[show i+(k+1)=i+1+k from by omega] at this) (fun u hu=>⟨(hG u (by simp[hu])).1,(hG u (by simp[hu])).2.upd hv⟩);have hcvi:cv' d i=mkV A c1:=by rw[k4 d i (.inr (by omega))];simp
   have hcells:(mkV A c1).cells=c1.toArray:=iw h2 h3;refine⟨cv',k1,?_,?_,fun d' k' hdk=> ?_⟩
   ·simp only[fK,hcvi,hcells,k2]
   ·simp only[kz,hcvi,hcells];exact⟨trivial,h2,h3,k3⟩
   ·rw[k4 d' k' (by omega)];have:¬ (d'=d∧k'=i):=by omega
    simp[this]
 | unit=>
  intro vs cs i g H hs hF _ _;cases vs with
  | nil=>exact⟨g.cv,hs,by rw[show cs=[] from hF];rfl,trivial,fun _ _ _=>rfl⟩
  | cons v vs=>exact hF.elim
 | _=>intro vs cs i g H _ hF;cases vs<;>exact hF.elim
theorem IX (hs:SimG C g S H a w) {src dst:Nat→HLoc} (hr:∀ i,aG H (H (src i))):∀ {t:Ty} {i:Nat} {cs:List Value} {ws:HW} {fp fp':List HLoc},(uo src dst t i).run H fp=some (ws,fp')→dF (fun j=>H (src j)) g (view g.fl w) t cs i→
  ∃ vs,ws=bg dst i vs∧iy g (view g.fl w) t vs cs∧iV H vs∧vs.length=nf t∧∀ k,k<vs.length→H (dst (i+k))=.bot:=by
 intro t;induction t with
 | pair A B _ hB=>
  intro i cs ws fp fp' h hc;simp only[uo] at h;obtain⟨hbot,h⟩:=fH h;simp only[Rd.run] at h;obtain⟨_,fp1,k1,h⟩:=ah h;obtain⟨ws2,fp2,k2,h⟩:=ah h;obtain⟨e,_⟩:=af h;subst e;obtain⟨c1,c2,rfl,h2,h3,h4,h5⟩:=hc;obtain⟨vs,rfl,q2,q3,q4,q5⟩:=hB k2 h5;have hfit:=qf hs k1 h4;refine⟨H (src i)::vs,rfl,⟨c1,c2,rfl,h2,h3,h4,q2⟩,fun v hv=> ?_,by simp[nf,q4],fun k hk=> ?_⟩
  ·rcases mem_cons.1 hv with rfl|hv
   ·exact⟨hfit.1,hr i⟩
   ·exact q3 v hv
  ·cases k with
   | zero=>exact hbot
   | succ k=>have:=q5 k (by simpa using hk);rwa[show i+1+k=i+(k+1) from by omega] at this
 | unit=>intro i cs ws fp fp' h hc;obtain⟨e,_⟩:=af h;subst e;exact⟨[],rfl,hc,fun v hv=>by simp at hv,rfl,fun k hk=>by simp at hk⟩
 | _=>intro i cs ws fp fp' h;exact(ae h).elim
theorem Qm {d:Nat}:∀ {vs:List SV} {i k:Nat} {H:HLoc→SV},k<i→puts H (bg (.comp d) i vs) (.comp d k)=H (.comp d k)
 | [],i,k,H,_=>rfl
 | v::vs,i,k,H,h=>by simp only[bg,puts];rw[Qm (show k<i+1 by omega),ay _ _ (by simp;omega)]
theorem BR {d:Nat}:∀ {vs:List SV} {i k:Nat} {v:SV} {H:HLoc→SV},vs[k]? = some v→puts H (bg (.comp d) i vs) (.comp d (i+k))=v
 | [],i,k,v,H,h=>by simp at h
 | u::vs,i,0,v,H,h=>by simp only[getElem?_cons_zero,Option.some.injEq] at h;subst h;simp only[bg,puts,add_zero];rw[Qm (show i<i+1 by omega),aK]
 | u::vs,i,k+1,v,H,h=>by simp only[bg,puts];have:=BR (d:=d) (i:=i+1) (k:=k) (H:=ak H (.comp d i) u) (by simpa using h);rwa[show i+1+k=i+(k+1) from by omega] at this
theorem II (hTab:TabOk P tab) (hs:SimG C g S H a w) {id:Nat} {t:TypeId} {u:Ty} (ht:tla tab t=some u) {x:SV} {vx:Value} {v:SV} {hw:HW} {fp fp':List HLoc}
  (h:(o5 id u x).run H fp=some ((v,hw),fp')) (hx:SR g (view g.fl w) x vx):dw C S H a ((loadAt t vx).run P w) v hw:=by
 unfold o5 at h;split at h
 case h_2=>exact BP hTab hs ht h hx
 rename_i s off;simp only[Rd.run] at h;split at h
 case h_2=>exact BP hTab hs ht h hx
 rename_i ot hot;cases hc:cond ot.agg (cond (beq off 0) (ot.beq u) false) false with
 | false=>rw[hc] at h;simp only[cond_false] at h;exact BP hTab hs ht h hx
 | true=>
  rw[hc] at h;obtain⟨ha,hc⟩:=az hc;obtain⟨e0,e1⟩:=az hc;obtain rfl:=Ty.beq_eq e1;obtain rfl:=eq_of_beq_eq_true e0;obtain⟨b,fp1,k1,h⟩:=ah h;cases b with
  | false=>simp only[cond_false] at h;exact BP hTab hs ht h hx
  | true=>
   obtain⟨ws,fp2,k2,h⟩:=ah h;obtain⟨e,_⟩:=af h;cases e;have hT:=(hTab.w ht).1;obtain⟨cs,hblk,h2,h3,h4⟩:=hs.sites s ot hot;unfold dV at h4;rw[ha] at h4;simp only[cond_true] at h4;obtain⟨vs,rfl,q2,q3,q4,q5⟩:=IX hs (fun i=>hs.refF s i) k2 h4;obtain⟨cv',n1,n2,n3,_⟩:=SimG.setComps (d:=id) (i:=0) hs q2 q5 q3;have hlen:cs.length=ot.size:=q2.length;refine⟨mkV ot cs,w,_,?_,n1,⟨ha,by rw[n2];simp[mkV,ha],n3⟩,fun i hi=> ?_⟩
   ·rw[show vx=_ from hx];have:=jD (P:=P) (w:=w) (b:=g.st s) (o:=0) hT hlen (fun j v hj=>by rw[hblk.cell,zero_add];exact hj);rw[←this];simp[loadAt,sureAddr]
   ·rw[←q4] at hi;have:=BR (d:=id) (i:=0) (k:=i) (H:=H) (getElem?_eq_getElem hi);rw[zero_add] at this;rw[this];exact(q3 _ (getElem_mem hi)).1
def jb (i:Nat):List (Nat×Operand)→Option Operand
 | []=>none
 | (j,v)::r=>cond (beq j i) (some v) (jb i r)
theorem H5 (i:Nat):∀ parts:List (Nat×Operand),partAt i (parts.map fun p=>(p.1,evS S p.2))=(jb i parts).map (evS S)
 | []=>rfl
 | (j,v)::r=>by
  simp only[map_cons,partAt,jb];cases beq j i with
  | true=>rfl
  | false=>exact H5 i r
def kS (a:Act) (parts:List (Nat×Operand)):Ty→Nat→List (List Value)
 | .pair A B,i=>(match jb i parts with|some o=>(a.eval o).cells.toList|none=>zeroCells A)::kS a parts B (i+1)
 | _,_=>[]
theorem QK (hs:SimG C g S H a w) {id:Nat} {parts:List (Nat×Operand)}:∀ {ty:Ty} {i:Nat} {fp fp':List HLoc} {hw:HW} {vs:List SV},
  (ni id (parts.map fun p=>(p.1,evS S p.2)) ty i).run H fp=some ((hw,vs),fp')→
  bC H hw∧(∀ k,k<vs.length→H (.comp id (i+k))=.bot)∧iV H vs∧vs.length=nf ty∧∀ fl own,l9 H hw { g with fl:=fl,own:=own } (view fl w)→(view g.fl w).le (view fl w)→
   iy { g with fl:=fl,own:=own } (view fl w) ty vs (kS a parts ty i).flatten:=by
 intro ty;induction ty with
 | pair A B _ hB=>
  intro i fp fp' hw vs h;simp only[ni] at h;obtain⟨hbot,h⟩:=fH h;obtain⟨⟨v,hw1⟩,fp1,k1,h⟩:=ah h;obtain⟨⟨hw2,vs'⟩,fp2,k2,h⟩:=ah h;obtain⟨e,_⟩:=af h;cases e;obtain⟨q1,q2,q3,q4,q5⟩:=hB k2;have hfield:bC H hw1∧v≠.bot∧aG H v∧∀ fl own,l9 H hw1 { g with fl:=fl,own:=own } (view fl w)→(view g.fl w).le (view fl w)→
    ∃ c,(match jb i parts with|some o=>(a.eval o).cells.toList|none=>zeroCells A)=c∧c.length=A.size∧(∀ x∈c,oneC x=true)∧SR { g with fl:=fl,own:=own } (view fl w) v (mkV A c):=by
   rw[H5] at k1;cases hp:jb i parts with
   | none=>rw[hp] at k1;obtain⟨e,_⟩:=af k1;cases e;refine⟨trivial,(vG A).1,(vG A).2 H,fun fl own _ _=>⟨_,rfl,(lG (iv:=view fl w) A).1,(lG (iv:=view fl w) A).2,Io A⟩⟩
   | some o=>
    rw[hp] at k1;simp only[map_some] at k1;obtain⟨ho,hro⟩:=hs.ev o;have plain:∀ {sv:SV},evS S o=sv→((fits A sv).bind fun _=>Rd.ret (sv,([]:HW))).run H (HLoc.comp id i::fp)=some ((v,hw1),fp1)→bC H hw1∧v≠.bot∧aG H v∧∀ fl own,l9 H hw1 { g with fl:=fl,own:=own } (view fl w)→(view g.fl w).le (view fl w)→
      ∃ c,(a.eval o).cells.toList=c∧c.length=A.size∧(∀ x∈c,oneC x=true)∧SR { g with fl:=fl,own:=own } (view fl w) v (mkV A c):=by
     intro sv hsv hk;obtain⟨_,fp3,m1,m2⟩:=ah hk;obtain⟨e,_⟩:=af m2;cases e;rw[hsv] at ho hro;obtain⟨f1,f2,f3,f4⟩:=qf hs m1 ho;exact⟨trivial,f1,hro,fun fl own _ hle=>⟨_,rfl,f3,f4,by rw[←f2];exact SR.change (H:=H) (GAgree.same (g:=g) (g':={ g with fl:=fl,own:=own }) rfl rfl rfl) hle hro ho⟩⟩
    unfold Ea at k1;split at k1
    ·rename_i d t hsv;obtain⟨b,fp3,_,k1⟩:=ah k1;cases b with
     | true=>
      rw[cond_true] at k1;cases hcc:cond A.agg (beq t.size A.size) false with
      | false=>rw[hcc] at k1;exact(ae k1).elim
      | true=>rw[hcc] at k1;obtain⟨e,_⟩:=af k1;cases e;obtain⟨c1,c2⟩:=az hcc;have ho':=ho;have hro':=hro;rw[hsv] at ho';rw[hsv] at hro';obtain⟨f2,f3,f4⟩:=JO ho' c1 (eq_of_beq_eq_true c2);exact⟨trivial,by rw[hsv];exact SV.noConfusion,hro,fun fl own _ hle=>⟨_,rfl,f3,f4,by rw[←f2];exact SR.change (H:=H) (GAgree.same (g:=g) (g':={ g with fl:=fl,own:=own }) rfl rfl rfl) hle hro ho⟩⟩
     | false=>
     rw[cond_false] at k1;obtain⟨⟨y,hwy⟩,fp3,m1,m2⟩:=ah k1;obtain⟨e,_⟩:=af m2;cases e;obtain⟨p1,p2⟩:=oz hs m1 ho hro;exact⟨p1,SV.noConfusion,trivial,fun fl own hR hle=>⟨_,rfl,(p2 fl own hR hle).cells.length,(p2 fl own hR hle).cells.ones,⟨_,(p2 fl own hR hle).cells,rfl⟩⟩⟩
    ·exact plain rfl k1
  obtain⟨f1,f2,f3,f4⟩:=hfield;refine⟨bC.append.2 ⟨f1,q1⟩,fun k hk=> ?_,fun u hu=> ?_,by simp[nf,q4],fun fl own hR hle=> ?_⟩
  ·cases k with
   | zero=>exact hbot
   | succ k=>have:=q2 k (by simpa using hk);rwa[show i+1+k=i+(k+1) from by omega] at this
  ·rcases mem_cons.1 hu with rfl|hu
   ·exact⟨f2,f3⟩
   ·exact q3 u hu
  ·obtain⟨c,c1,c2,c3,c4⟩:=f4 fl own (hR.sub fun _ hm=>List.mem_append_left _ hm) hle;refine⟨c,(kS a parts B (i+1)).flatten,?_,c2,c3,c4,q5 fl own (hR.sub fun _ hm=>List.mem_append_right _ hm) hle⟩;simp only[kS,flatten_cons,←c1]
 | unit=>intro i fp fp' hw vs h;obtain⟨e,_⟩:=af h;cases e;exact⟨trivial,fun k hk=>by simp at hk,fun u hu=>by simp at hu,rfl,fun _ _ _ _=>rfl⟩
 | _=>intro i fp fp' hw vs h;exact(ae h).elim
def dH:Ty→List (List Value)
 | .pair A B=>zeroCells A::dH B
 | _=>[]
theorem O3:∀ {t:Ty},structEnd t=true→(dH t).flatten=zeroCells t:=by
 intro t;induction t with
 | pair A B _ hB=>intro h;simp only[dH,flatten_cons,hB h,zeroCells]
 | unit=>intro _;rfl
 | _=>intro h;exact noConfusion h
theorem Px (hTab:TabOk P tab):∀ {fs:List Field} {ty:Ty} {off:Nat},bY tab fs ty off=true→
  ∃ ps:List (Nat×Nat),((fs.mapM fun f=>do pure (f.offset,←sizeOf f.type)):Sem (List (Nat×Nat))).run P w=.ok ps w∧ps.length=(dH ty).length∧∀ i (h:i<(dH ty).length),ps[i]? = some (off+((dH ty).take i).flatten.length,(dH ty)[i].length):=by
 intro fs;induction fs with
 | nil=>intro ty off h;cases ty<;>first|exact noConfusion h|exact⟨[],rfl,rfl,fun i h=>by simp[dH] at h⟩
 | cons f fs ih=>
  intro ty off h;cases ty<;>first|exact noConfusion h|skip
  rename_i A B;obtain⟨fd,ft,k1,k2,k3,k4,k5,k6⟩:=tN (f:=0) (n:=0) h rfl;simp only[getElem?_cons_zero,Option.some.injEq] at k1;subst k1;simp only[dN,Option.some.injEq] at k4;subst k4;simp only[bY] at h;obtain⟨_,h2⟩:=az h;obtain⟨_,h4⟩:=az h2;have h5:beq A.size 0=false:=by cases hz:beq A.size 0 with|false=>rfl|true=>rw[hz] at h4;exact noConfusion h4
  rw[h5] at h4
  have h6 : decide (f.name = "_") = false := decide_eq_false k6
  simp only[h6,cond] at h4;obtain⟨ps,q1,q2,q3⟩:=ih h4;have hz:=(lG (iv:=fun _ _=>none) A).1;refine⟨(f.offset,A.size)::ps,?_,by simp[dH,q2],fun i hi=> ?_⟩
  ·simp only[List.mapM_cons,run_bind,(hTab.tys k3).run_sizeOf,andThen_ok,run_pure,q1]
  ·cases i with
   | zero=>simp[dH,k2,hz]
   | succ i=>
    have hi':i<(dH B).length:=by simpa[dH] using hi
    have:=q3 i hi';simp only[List.getElem?_cons_succ,this,dH,List.take_succ_cons,flatten_cons,length_append,hz,List.getElem_cons_succ];congr 2;omega
theorem QS {n:Nat}:∀ {r:List Nat},Eh n r=true→∀ y∈r,n≠y
 | [],_,y,hy=>by simp at hy
 | a::r,h,y,hy=>by
  simp only[Eh] at h;cases hb:beq a n with
  | true=>rw[hb] at h;exact noConfusion h
  | false=>
   rw[hb] at h;rcases mem_cons.1 hy with rfl|hy
   ·exact fun e=>by rw[e] at hb;simp at hb
   ·exact QS h y hy
theorem OG {x:Nat} {r:List Nat} (h:rising (x::r)=true):rising r=true∧∀ y∈r,x≠y:=by
 simp only[rising] at h;obtain⟨h1,h2⟩:=az h;exact⟨h2,QS h1⟩
theorem Py {i:Nat}:∀ {parts:List (Nat×Operand)},(∀ p∈parts,p.1≠i)→jb i parts=none
 | [],_=>rfl
 | (j,v)::r,h=>by
  have hj:beq j i=false:=by cases hb:beq j i with|false=>rfl|true=>exact absurd (eq_of_beq_eq_true hb) (h (j,v) (by simp))
  simp only[jb,hj,cond];exact Py fun p hp=>h p (by simp[hp])
theorem OD:∀ {parts:List (Nat×Operand)} {segs:List (List Value)},rising (parts.map fun p=>p.1)=true→∀ j,j<segs.length→
  (oC segs (parts.map fun p=>(p.1,a.eval p.2)))[j]? = some (match jb j parts with|some o=>(a.eval o).cells.toList|none=>segs.getD j [])
 | [],segs,_,j,hj=>by simp[oC,jb,getD,hj]
 | (k,v)::r,segs,h,j,hj=>by
  simp only[map_cons] at h;obtain⟨h1,h2⟩:=OG h;simp only[map_cons,oC];have ih:=OD (parts:=r) (segs:=segs.set k (a.eval v).cells.toList) h1 j (by simpa using hj);rw[ih];simp only[jb];cases hb:beq k j with
  | true=>
   obtain rfl:=eq_of_beq_eq_true hb;have hn:jb k r=none:=Py fun p hp e=>by have:=h2 p.1 (mem_map.2 ⟨p,hp,rfl⟩);omega
   simp only[hn,cond];simp[getD,hj]
  | false=>
   have hne:k≠j:=fun e=>by rw[e] at hb;simp at hb
   simp only[cond];congr 1;cases jb j r with
   | some o=>rfl
   | none=>simp[getD,hne]
theorem OC:∀ {parts:List (Nat×Value)} {segs:List (List Value)},(oC segs parts).length=segs.length
 | [],_=>rfl
 | (k,v)::r,segs=>by simp only[oC];rw[OC];simp
theorem Y7 {parts:List (Nat×Operand)}:∀ {ty:Ty} {i j:Nat},j<(dH ty).length→(kS a parts ty i)[j]? = some (match jb (i+j) parts with|some o=>(a.eval o).cells.toList|none=>(dH ty).getD j []):=by
 intro ty;induction ty with
 | pair A B _ hB=>
  intro i j hj;cases j with
  | zero=>simp only[kS,getElem?_cons_zero,add_zero,dH];congr 1
  | succ j=>have:=hB (i:=i+1) (j:=j) (by simpa[dH] using hj);simp only[kS,List.getElem?_cons_succ,this,dH];rw[show i+1+j=i+(j+1) from by omega];rfl
 | _=>intro i j hj;simp[dH] at hj
theorem Y6 {parts:List (Nat×Operand)}:∀ {ty:Ty} {i:Nat},(kS a parts ty i).length=(dH ty).length:=by
 intro ty;induction ty with
 | pair A B _ hB=>intro i;simp only[kS,dH,length_cons,hB]
 | _=>intro i;rfl
theorem PP (e:Ty):∀ {n i:Nat} (h:i<(dH (dI e n)).length),((dH (dI e n)).take i).flatten.length=i*e.size∧(dH (dI e n))[i].length=e.size
 | 0,i,h=>by simp[dI,dH] at h
 | n+1,0,h=>by have hz:=(lG (iv:=fun _ _=>none) e).1;exact⟨by simp,hz⟩
 | n+1,i+1,h=>by have hz:=(lG (iv:=fun _ _=>none) e).1;obtain⟨h1,h2⟩:=PP e (n:=n) (i:=i) (by simpa[dI,dH] using h);simp only[dI,dH,List.take_succ_cons,flatten_cons,length_append,hz,List.getElem_cons_succ];exact⟨by rw[h1,add_mul];omega,h2⟩
theorem Y5 (a:Act):∀ {ty:Ty} {i:Nat},kS a [] ty i=dH ty:=by
 intro ty;induction ty with
 | pair A B _ hB=>intro i;simp only[kS,dH,hB];rfl
 | _=>intro i;rfl
theorem YN (hTab:TabOk P tab) (hs:SimG C g S H a w) {id:Nat} {t:TypeId} {ty:Ty} (ht:tla tab t=some ty) (ha:ty.agg=true) {v:SV} {hw:HW} {fp fp':List HLoc}
  (h:((ni id [] (flT tab t ty) 0).bind fun q=>.ret (.agg id (flT tab t ty),q.1++bg (.comp id) 0 q.2):Rd (SV×HW)).run H fp=some ((v,hw),fp')) :
  dw C S H a ((build t #[]).run P w) v hw:=by
 have hT:=(hTab.w ht).1;have hend:=hTab.ends ht ha;obtain⟨f1,f2,f3,f4⟩:=J7 (tab:=tab) (t:=t) ha hend;obtain⟨⟨hw1,vs⟩,fp1,k1,h⟩:=ah h;obtain⟨e,_⟩:=af h;cases e;obtain⟨q1,q2,q3,q4,q5⟩:=QK (parts:=[]) hs k1;obtain⟨fl,own,m1,m2⟩:=hs.pubs q1;have hF:=q5 fl own (m1.rowsRd q1) m2;have hcomp:∀ k,k<vs.length→puts H hw1 (.comp id (0+k))=.bot:=fun k hk=>CW (q2 k hk) q1;have hG:iV (puts H hw1) vs:=by
  have:∀ {hw:HW} {H:HLoc→SV},bC H hw→iV H vs→iV (puts H hw) vs:=by
   intro hw;induction hw with
   | nil=>intro H _ h;exact h
   | cons x r ih=>rintro H ⟨⟨rr,p,e,y,h1,h2,h3⟩,hr⟩ hg;obtain⟨k,u⟩:=x;simp only at h1 h2 h3;subst h1 h2;exact ih (bC.upd h3 hr) fun z hz=>⟨(hg z hz).1,(hg z hz).2.upd SV.noConfusion⟩
  exact this q1 q3
 obtain⟨cv',n1,n2,n3,_⟩:=SimG.setComps (d:=id) (i:=0) m1 hF hcomp hG;rw[←gX] at n1;have hz:=lG (iv:=view fl w) ty;have hseg:(kS a [] (flT tab t ty) 0).flatten=zeroCells ty:=by rw[Y5,O3 f2,f4]
 refine⟨.agg (zeroCells ty).toArray,w,_,?_,n1,⟨f1,by rw[n2,hseg],n3⟩,?_⟩
 ·rcases(hTab.w ht).2 with hO|⟨et,e,n,_,he,rfl,hu⟩|hN
  ·obtain⟨hO,hON⟩:=hO;obtain⟨fs,hu,hc⟩:=hO.struct ha hON;obtain⟨ps,p1,p2,p3⟩:=Px (P:=P) (w:=w) hTab hc;have hplaces:(fs.mapM fun f=>do pure (f.offset,←sizeOf f.type):Sem (Array (Nat×Nat))).run P w=.ok ps.toArray w:=by
    rw[Array.mapM_eq_mapM_toList];simp only[Sem.run_map,p1,andThen_ok]
   simp only[build,run_bind,hT.run_zero,andThen_ok,run_underlying hu,hplaces,iw hz.1 hz.2,fill,run_pure]
  ·simp only[build,run_bind,hT.run_zero,andThen_ok,run_underlying hu,(hTab.tys he).run_sizeOf,iw hz.1 hz.2,fill,run_pure]
  ·rw[hN] at ha;exact noConfusion ha
 ·intro i hi;have hiv:i<vs.length:=by rw[q4];exact hi
  rw[gX];have:∀ {vs:List SV} {j k:Nat} {v:SV} {H:HLoc→SV},vs[k]? = some v→puts H (bg (.comp id) j vs) (.comp id (j+k))=v:=by
   intro vs;induction vs with
   | nil=>intro j k v H h;simp at h
   | cons u us ih=>
    intro j k v H h;have lt:∀ {us:List SV} {j' m:Nat} {H:HLoc→SV},m<j'→puts H (bg (.comp id) j' us) (.comp id m)=H (.comp id m):=by
     intro us;induction us with
     | nil=>intro j' m H _;rfl
     | cons x xs ihx=>intro j' m H hm;simp only[bg,puts];rw[ihx (show m<j'+1 by omega),ay _ _ (by simp;omega)]
    cases k with
    | zero=>simp only[getElem?_cons_zero,Option.some.injEq] at h;subst h;simp only[bg,puts,add_zero];rw[lt (show j<j+1 by omega),aK]
    | succ k=>simp only[bg,puts];have:=ih (j:=j+1) (k:=k) (H:=ak H (.comp id j) u) (by simpa using h);rwa[show j+1+k=j+(k+1) from by omega] at this
  have hget:=this (j:=0) (H:=puts H hw1) (getElem?_eq_getElem hiv);rw[zero_add] at hget;rw[hget];exact(hG vs[i] (getElem_mem hiv)).1
theorem ZG (hTab:TabOk P tab) (hs:SimG C g S H a w) {id:Nat} {t:TypeId} {parts:Array (Nat×Operand)} {v:SV} {hw:HW} {fp fp':List HLoc}
  (h:(match tla tab t with
   | some ty=>cond ty.agg (cond (rising (parts.toList.map fun p=>p.1)) ((ni id (parts.toList.map fun p=>(p.1,evS S p.2)) ty 0).bind fun q=>.ret (.agg id ty,q.1++bg (.comp id) 0 q.2)) .fail) .fail
   | none=>.fail:Rd (SV×HW)).run H fp=some ((v,hw),fp'))
  (hin:∀ ty,tla tab t=some ty→∀ p∈parts.toList,p.1<nf ty∧∀ ft,dN ty p.1=some ft→(a.eval p.2).cells.toList.length=ft.size) :
  dw C S H a ((build t (parts.map fun(i,x)=>(i,a.eval x))).run P w) v hw:=by
 split at h
 ·rename_i ty ht;have hT:=(hTab.w ht).1;cases ha:ty.agg with
  | false=>rw[ha] at h;exact(ae h).elim
  | true=>
   rw[ha] at h;cases hr:rising (parts.toList.map fun p=>p.1) with
   | false=>rw[hr] at h;exact(ae h).elim
   | true=>
    rw[hr] at h;obtain⟨⟨hw1,vs⟩,fp1,k1,h⟩:=ah h;obtain⟨e,_⟩:=af h;cases e;obtain⟨q1,q2,q3,q4,q5⟩:=QK hs k1;obtain⟨fl,own,m1,m2⟩:=hs.pubs q1;have hF:=q5 fl own (m1.rowsRd q1) m2;have hcomp:∀ k,k<vs.length→puts H hw1 (.comp id (0+k))=.bot:=fun k hk=>CW (q2 k hk) q1;have hG:iV (puts H hw1) vs:=by
     have:∀ {hw:HW} {H:HLoc→SV},bC H hw→iV H vs→iV (puts H hw) vs:=by
      intro hw;induction hw with
      | nil=>intro H _ h;exact h
      | cons x r ih=>rintro H ⟨⟨rr,p,e,y,h1,h2,h3⟩,hr⟩ hg;obtain⟨k,u⟩:=x;simp only at h1 h2 h3;subst h1 h2;exact ih (bC.upd h3 hr) fun z hz=>⟨(hg z hz).1,(hg z hz).2.upd SV.noConfusion⟩
     exact this q1 q3
    obtain⟨cv',n1,n2,n3,_⟩:=SimG.setComps (d:=id) (i:=0) m1 hF hcomp hG;rw[←gX] at n1;have hz:=lG (iv:=view fl w) ty;have hend:=hTab.ends ht ha;have hnf:∀ {ty:Ty},(dH ty).length=nf ty:=by
     intro ty;induction ty with
     | pair A B _ hB=>simp only[dH,nf,length_cons,hB]
     | _=>rfl
    have hfill:∀ place:Nat→Option (Nat×Nat),(∀ i (h:i<(dH ty).length),place i=some (((dH ty).take i).flatten.length,(dH ty)[i].length))→fill place (zeroCells ty).toArray (parts.map fun(i,x)=>(i,a.eval x)).toList=some (kS a parts.toList ty 0).flatten.toArray:=by
     intro place p3;rw[←O3 hend,IP]
     ·congr 3;apply ext_getElem?;intro j;have hm:(parts.map fun(i,x)=>(i,a.eval x)).toList=parts.toList.map fun p=>(p.1,a.eval p.2):=by rw[toList_map]
      rw[hm];by_cases hj:j<(dH ty).length
      ·rw[OD hr j hj,Y7 hj,zero_add]
      ·rw[getElem?_eq_none (by rw[OC];omega),getElem?_eq_none (by rw[Y6];omega)]
     ·intro i u hm;rw[toList_map] at hm;obtain⟨p,hp,hpe⟩:=mem_map.1 hm;cases hpe;obtain⟨b1,b2⟩:=hin ty ht p hp;have hi:p.1<(dH ty).length:=by rw[hnf];exact b1
      refine⟨hi,?_,?_⟩
      ·exact p3 p.1 hi
      ·have hft:∀ {ty:Ty} {k:Nat} (hk:k<(dH ty).length),∃ ft,dN ty k=some ft∧(dH ty)[k]=zeroCells ft:=by
        intro ty;induction ty with
        | pair A B _ hB=>
         intro k hk;cases k with
         | zero=>exact⟨A,rfl,rfl⟩
         | succ k=>obtain⟨ft,e1,e2⟩:=hB (k:=k) (by simpa[dH] using hk);exact⟨ft,e1,by simpa[dH] using e2⟩
        | _=>intro k hk;simp[dH] at hk
       obtain⟨ft,e1,e2⟩:=hft hi;rw[e2,(lG (iv:=view fl w) ft).1,←b2 ft e1];simp
    refine⟨.agg (kS a parts.toList ty 0).flatten.toArray,w,_,?_,n1,⟨ha,by rw[n2],n3⟩,?_⟩
    ·rcases(hTab.w ht).2 with hO|⟨et,e,n,_,he,rfl,hu⟩|hN
     ·obtain⟨hO,hON⟩:=hO;obtain⟨fs,hu,hc⟩:=hO.struct ha hON;obtain⟨ps,p1,p2,p3⟩:=Px (P:=P) (w:=w) hTab hc;have hplaces:(fs.mapM fun f=>do pure (f.offset,←sizeOf f.type):Sem (Array (Nat×Nat))).run P w=.ok ps.toArray w:=by
       rw[Array.mapM_eq_mapM_toList];simp only[Sem.run_map,p1,andThen_ok]
      simp only[build,run_bind,hT.run_zero,andThen_ok,run_underlying hu,hplaces,iw hz.1 hz.2,hfill (ps.toArray[·]?) (fun i hi=>by have:=p3 i hi;simpa using this),run_pure]
     ·simp only[build,run_bind,hT.run_zero,andThen_ok,run_underlying hu,(hTab.tys he).run_sizeOf,iw hz.1 hz.2,hfill (fun i=>some (i*e.size,e.size)) (fun i hi=>by obtain⟨h1,h2⟩:=PP e hi;rw[h1,h2]),run_pure]
     ·rw[hN] at ha;exact noConfusion ha
    ·intro i hi;have hiv:i<vs.length:=by rw[q4];exact hi
     rw[gX];have:∀ {vs:List SV} {j k:Nat} {v:SV} {H:HLoc→SV},vs[k]? = some v→puts H (bg (.comp id) j vs) (.comp id (j+k))=v:=by
      intro vs;induction vs with
      | nil=>intro j k v H h;simp at h
      | cons u us ih=>
       intro j k v H h;have lt:∀ {us:List SV} {j' m:Nat} {H:HLoc→SV},m<j'→puts H (bg (.comp id) j' us) (.comp id m)=H (.comp id m):=by
        intro us;induction us with
        | nil=>intro j' m H _;rfl
        | cons x xs ihx=>intro j' m H hm;simp only[bg,puts];rw[ihx (show m<j'+1 by omega),ay _ _ (by simp;omega)]
       cases k with
       | zero=>simp only[getElem?_cons_zero,Option.some.injEq] at h;subst h;simp only[bg,puts,add_zero];rw[lt (show j<j+1 by omega),aK]
       | succ k=>simp only[bg,puts];have:=ih (j:=j+1) (k:=k) (H:=ak H (.comp id j) u) (by simpa using h);rwa[show j+1+k=j+(k+1) from by omega] at this
     have hget:=this (j:=0) (H:=puts H hw1) (getElem?_eq_getElem hiv);rw[zero_add] at hget;rw[hget];exact(hG vs[i] (getElem_mem hiv)).1
 ·exact(ae h).elim
end
section
variable {P:Program} {tab:Tab} {C:Ctx} {g:Gh} {S:Nat→SV} {H:HLoc→SV} {a:Act} {w:World}
theorem TyOk.some {t:TypeId} {ty:Ty} (h:TyOk P tab t ty):∃ u,P.underlying t=some u:=by
 have hd:=h.desc;unfold jv at hd;cases hu:P.underlying t with
 | none=>rw[hu] at hd;exact noConfusion hd
 | some d=>exact⟨d,rfl⟩
theorem X7 (w:World) (e:TypeId) (s:ByteArray):Lib.bytesWorld w e s=w.drew.alloc (.cells (Lib.bytesCells w e s) e ((Lib.bytesCells w e s).size,(Lib.bytesCells w e s).size+1)):=by
 unfold Lib.bytesWorld World.freeze World.alloc;simp only[Nat.one_ne_zero,if_false];congr 1;apply Array.ext_getElem?;intro i;rw[Array.getElem?_modify];by_cases h:w.heap.size=i
 ·subst h;simp[World.drew,-drew_eq]
 ·simp only[h,if_false,Array.getElem?_push];have h':¬ i=w.heap.size:=fun e=>h e.symm;simp[h',World.drew,-drew_eq]
theorem Yf {iv:IV} {e:Ty} {x:SV} {vx:Value} {xs:List e.den} {fp fp':List HLoc} (hs:SimG C g S H a w) (h:(listOf e x).run H fp=some (xs,fp')) (hx:SR g iv x vx):∃ ad n c,vx=.slice ad n c:=by
 cases x with
 | nils=>exact⟨none,0,0,hx⟩
 | pv t y=>obtain⟨h1,_⟩:=aS h;obtain⟨ad,len,cap,rfl,_⟩:=qN (jP h1 hx);exact⟨_,_,_,rfl⟩
 | lv t y=>
  simp only[listOf] at h;cases hf:bu e with
  | false=>rw[hf] at h;exact(ae h).elim
  | true=>rw[hf] at h;obtain⟨h1,_⟩:=aS h;obtain⟨ad,len,cap,rfl,_⟩:=qN (jP h1 hx);exact⟨_,_,_,rfl⟩
 | hdr r=>
  simp only[listOf,Rd.run] at h;split at h
  ·rename_i p e' l hrow;rw[show vx=_ from hx];rcases hs.rows r p e' l hrow with⟨h1,_⟩|⟨b,cap,cs,h1,_⟩
   ·exact⟨_,_,_,h1⟩
   ·exact⟨_,_,_,h1⟩
  ·exact(ae h).elim
 | _=>exact(ae h).elim
theorem zaI (hTab:TabOk P tab) (hs:SimG C g S H a w) {id:Nat} {s d:TypeId} {x:SV} {vx:Value} {v:SV} {hw:HW} {fp fp':List HLoc}
  (h:(match tl tab s,tl tab d with
   | some a,some b=>Ld (beq s d) id a b x
   | _,_=>.fail:Rd (SV×HW)).run H fp=some ((v,hw),fp')) (hx:SR g (view g.fl w) x vx) :
  dw C S H a ((convert s d vx).run P w) v hw:=by
 split at h
 ·rename_i A B hA hB;have hTA:=hTab.tys hA;have hTB:=hTab.tys hB;obtain⟨u,hu⟩:=hTA.some;unfold Ld at h;split at h
  ·obtain⟨e,_⟩:=af h;cases e;obtain rfl:=lH hx;exact dw.plain hs (by simp[convert,run_underlying hu,run_underlying hTB.int,Conv.intToInt]) (kT _ _) trivial
  ·obtain⟨e,_⟩:=af h;cases e;obtain rfl:=pX hx;exact dw.plain hs (by simp[convert,run_underlying hu,run_underlying hTB.int,Conv.intToInt,aB]) (kT _ _) trivial
  ·obtain⟨e,_⟩:=af h;cases e;obtain rfl:=lH hx;exact dw.plain hs (by simp[convert,run_underlying hu,run_underlying hTB.u8,Conv.intToInt]) (zh _) trivial
  ·obtain⟨e,_⟩:=af h;cases e;obtain rfl:=pX hx;exact dw.plain hs (by simp[convert,run_underlying hu,run_underlying hTB.u8,Conv.intToInt,aB]) (zh _) trivial
  ·obtain⟨e,_⟩:=af h;cases e;obtain⟨st,rfl,hst⟩:=oh hx;exact dw.plain hs (by cases u<;>simp[convert,run_underlying hu,run_underlying hTB.str]) (zi _ hst) trivial
  ·rename_i y;obtain⟨hid,h⟩:=fH h;obtain⟨e,_⟩:=af h;cases e;obtain⟨st,rfl,hst⟩:=oh hx;obtain⟨et,het,hte⟩:=hTB.slice;have hE:=(hTab.tys hte).u8;have hrun:=Lib.run_convert_string_bytes (P:=P) w s d et st hu het hE;have hcap:st.size≤grownCap w st.size 0 et:=grownCap_ge w st.size 0 et;have hsz:st.size=y.length:=by rw[←hst];simp
   have hcells:(Lib.bytesCells w et st).toList=(y.map fun b:UInt8=>int .u8 (b.toNat:Nat))++replicate (grownCap w st.size 0 et-st.size) (.int .u8 0):=by simp[Lib.bytesCells,←hst]
   have hlen:(Lib.bytesCells w et st).toList.length=grownCap w st.size 0 et:=by rw[hcells];simp only[length_append,length_map,length_replicate];omega
   obtain⟨g',n1,n2⟩:=hs.drew.newRow hid (Lib.bytesCells w et st).toList et ((Lib.bytesCells w et st).size,(Lib.bytesCells w et st).size+1) (.inr (by simp)) (e:=.u8) (l:=y) (cap:=grownCap w st.size 0 et) (by omega) (by rw[hlen];simp[Ty.size]) false (by
     intro i x hx;refine⟨[.int .u8 ((UInt8.toNat x:Nat):Int)],fun j v hj=> ?_,rfl⟩;have hi:i<y.length:=(List.getElem?_eq_some_iff.1 hx).1;cases j with
     | zero=>simp only[getElem?_cons_zero,Option.some.injEq] at hj;subst hj;rw[hcells];simp only[Ty.size,Nat.mul_one,add_zero];rw[getElem?_append_left (by simpa using hi),getElem?_map,hx];rfl
     | succ j=>simp at hj)
   refine dw.row (pub:=false) (e:=.u8) (l:=y) (hw:=[(.row id,.row false .u8 y)]) (w':=Lib.bytesWorld w et st) (g':=g') ?_ ?_ (aK _ _ _)
   ·rw[X7];have n1:=n1;rw[Array.toArray_toList] at n1;exact n1
   ·rw[hrun,n2,hsz];simp[World.drew,-drew_eq]
  ·rename_i hnp;obtain⟨l,fp1,k1,h⟩:=ah h;obtain⟨e,_⟩:=af h;cases e;obtain⟨et,het,hte⟩:=hTA.slice;have hE:=(hTab.tys hte).u8;obtain⟨ad,n,c,hvx⟩:=Yf hs k1 hx;obtain⟨st,r1,r2⟩:=Yc (P:=P) rfl ⟨ad,n,c,hvx⟩ (Qw hs k1 hx);refine dw.plain hs (val:=.string st) ?_ (zi st r2) trivial;rw[←r1,hvx];cases ad<;>simp[convert,run_underlying het,run_underlying hTB.str,run_underlying hE]
  ·rename_i r;obtain⟨et,het,hte⟩:=hTA.slice;have hE:=(hTab.tys hte).u8;cases hsd:beq s d with
   | false=>rw[hsd] at h;exact(ae h).elim
   | true=>
    rw[hsd] at h;obtain rfl:=eq_of_beq_eq_true hsd;simp only[cond_true,Rd.run] at h;split at h
    ·rename_i p e' l hrow;simp only[Rd.run] at h;cases hl:List.isEmpty l with
     | true=>rw[hl] at h;exact absurd h (by simp)
     | false=>
      rw[hl] at h;obtain⟨e,_⟩:=af (H:=H) h;cases e;rcases hs.rows r p e' l hrow with⟨_,h2⟩|⟨b,cap,cs,h1,h2,h3,h4,h5,h6,h7⟩
      ·rw[h2] at hl;exact noConfusion hl
      ·have hvx:vx=g.hd r:=hx;have h3':=h3;obtain⟨el,fz,hb,hf⟩:=h3';have hlt:=hs.own b (by rw[h5];simp);have hs':SimG C g S H a (w.freeze ⟨b,cs.length,none⟩ 1):=by
        refine hs.mark (fun _ _=>Blk.freeze_cell _ _) (fun k ds hk=>h3.freeze k ds hk) (by simp[World.freeze]) ?_;refine⟨hs.ext.os,hs.ext.tape,hs.ext.output,by simpa[World.freeze] using hs.ext.size,fun k hk hM=> ?_⟩;rw[←hs.ext.block k hk hM];have:b≠k:=by
         rintro rfl;rcases hlt.2 with h|h
         ·omega
         ·exact hM h
        simp[World.freeze,Array.getElem?_modify,this]
       refine⟨g.hd r,_,g,?_,hs',rfl,?_⟩
       ·have hsh:w.shape? b=some (el,cs.length):=by simp[World.shape?,hb]
        rw[hvx,h1];simp[convert,run_underlying het,run_underlying hE,markStringish,hsh]
       ·show H (.row r)≠.bot;rw[hrow];exact SV.noConfusion
    ·exact(ae h).elim
  ·exact(ae h).elim
 ·exact(ae h).elim
theorem Yh (hs:SimG C g S H a w) {x:SV} {i:Nat} {vx:Value} {v:SV} {hw:HW} {fp fp':List HLoc}
  (h:(match x with
   | .tup d n=>cond (blt i n) (.get (.comp d i) fun v=>.ret (v,[])) .fail
   | _=>.fail:Rd (SV×HW)).run H fp=some ((v,hw),fp')) (hx:SR g (view g.fl w) x vx) :
  dw C S H a ((extract vx i).run P w) v hw:=by
 split at h
 ·rename_i d n;cases hb:blt i n with
  | false=>rw[hb] at h;exact(ae h).elim
  | true=>rw[hb] at h;simp only[cond,Rd.run,Option.some.injEq,Prod.mk.injEq] at h;obtain⟨⟨rfl,rfl⟩,_⟩:=h;have hlt:i<n:=le_of_ble_eq_true hb;rw[show vx=_ from hx];refine dw.plain hs (val:=g.cv d i) ?_ (hs.comps d i) (hs.refC d i);simp[extract,hlt]
 ·exact(ae h).elim
end
section
variable {P:Program} {tab:Tab} {C:Ctx} {g:Gh} {S:Nat→SV} {H:HLoc→SV} {a:Act} {w:World}
theorem dF.shift {F:Nat→SV} {iv:IV} {n:Nat}:∀ {t:Ty} {cs:List Value} {i:Nat},dF F g iv t cs (n+i)↔dF (fun j=>F (n+j)) g iv t cs i:=by
 intro t;induction t with
 | pair A B _ hB=>
  intro cs i;constructor
  ·rintro⟨c1,c2,h1,h2,h3,h4,h5⟩;exact⟨c1,c2,h1,h2,h3,h4,hB.1 (by rwa[add_assoc] at h5)⟩
  ·rintro⟨c1,c2,h1,h2,h3,h4,h5⟩;exact⟨c1,c2,h1,h2,h3,h4,by rw[add_assoc];exact hB.2 h5⟩
 | unit=>intro cs i;exact Iff.rfl
 | _=>intro cs i;exact Iff.rfl
theorem dF.ones {F:Nat→SV} {iv:IV}:∀ {t:Ty} {cs:List Value} {i:Nat},dF F g iv t cs i→∀ c∈cs,oneC c=true:=by
 intro t;induction t with
 | pair A B _ hB=>rintro cs i ⟨c1,c2,rfl,_,h3,_,h5⟩ c hc;exact(mem_append.1 hc).elim (h3 c) (hB h5 c)
 | unit=>intro cs i h c hc;rw[show cs=[] from h] at hc;simp at hc
 | _=>intro cs i h;exact h.elim
theorem za4:∀ {t:Ty} {n:Nat} {st:Ty},gK t n=some st→st.agg=true∧structEnd st=true∧st.size=n∧
  ∀ {F:Nat→SV} {iv:IV} {cs:List Value} {k:Nat},dF F g iv t cs k→∃ c c2,cs=c++c2∧c.length=n∧dF F g iv st c k∧
   ∀ (F':Nat→SV) (d:List Value),dF F' g iv st d k→(∀ j,k+nf st≤j→F' j=F j)→dF F' g iv t (d++c2) k:=by
 intro t;induction t with
 | pair A B _ hB=>
  intro n st h;cases n with
  | zero=>simp only[gK,Option.some.injEq] at h;subst h;refine⟨rfl,rfl,rfl,fun{F iv cs k} hc=>⟨[],cs,rfl,rfl,rfl,fun F' d hd hF=> ?_⟩⟩;rw[show d=[] from hd,nil_append];exact dF.congr (fun j _=>hF (k+j) (by simp[nf])) hc
  | succ n=>
   simp only[gK] at h;cases hb:ble A.size (n+1) with
   | false=>rw[hb] at h;exact absurd h (by simp)
   | true=>rw[hb] at h;obtain⟨s,hs,h⟩:=Option.bind_eq_some_iff.1 (show(gK B (n+1-A.size)).bind _=_ from h);obtain rfl:=Option.some.inj h;have hle:=le_of_ble_eq_true hb;obtain⟨q1,q2,q3,q4⟩:=hB hs;refine⟨rfl,q2,by simp only[Ty.size,q3];omega,fun{F iv cs k} hc=> ?_⟩;obtain⟨c1,c2,rfl,h2,h3,h4,h5⟩:=hc;obtain⟨c,d2,rfl,k1,k2,k3⟩:=q4 h5;refine⟨c1++c,d2,by simp,by rw[length_append];omega,⟨c1,c,rfl,h2,h3,h4,k2⟩,fun F' d hd hF=> ?_⟩;obtain⟨e1,e2,rfl,m2,m3,m4,m5⟩:=hd;rw[append_assoc];exact⟨e1,e2++d2,rfl,m2,m3,m4,k3 F' e2 m5 fun j hj=>hF j (by simp only[nf];omega)⟩
 | unit=>
  intro n st h;cases n with
  | zero=>simp only[gK,Option.some.injEq] at h;subst h;exact⟨rfl,rfl,rfl,fun{F iv cs k} hc=>⟨[],cs,rfl,rfl,rfl,fun F' d hd hF=>by rw[show d=[] from hd];exact hc⟩⟩
  | succ n=>exact absurd h (by simp[gK])
 | _=>
  intro n st h;cases n with
  | zero=>simp only[gK,Option.some.injEq] at h;subst h;exact⟨rfl,rfl,rfl,fun{F iv cs k} hc=>hc.elim⟩
  | succ n=>exact absurd h (by simp[gK])
theorem Iw:∀ {t:Ty} {i off n:Nat} {p:Nat×Ty},rD t i off n=some p→p.2.agg=true∧structEnd p.2=true∧p.2.size=n∧i≤p.1∧
  ∀ {F:Nat→SV} {iv:IV} {cs:List Value},dF F g iv t cs i→∃ c1 c c2,cs=c1++(c++c2)∧c1.length=off∧c.length=n∧dF F g iv p.2 c p.1∧
   ∀ (F':Nat→SV) (d:List Value),dF F' g iv p.2 d p.1→(∀ j,j<p.1∨p.1+nf p.2≤j→F' j=F j)→dF F' g iv t (c1++(d++c2)) i:=by
 intro t;induction t with
 | pair A B _ hB=>
  intro i off n p h;simp only[rD] at h;cases h0:beq off 0 with
  | true=>rw[h0] at h;obtain rfl:=eq_of_beq_eq_true h0;obtain⟨s,hs,h⟩:=Option.bind_eq_some_iff.1 (show(gK (.pair A B) n).bind _=_ from h);obtain rfl:=Option.some.inj h;obtain⟨q1,q2,q3,q4⟩:=za4 (g:=g) hs;refine⟨q1,q2,q3,le_refl _,fun{F iv cs} hc=> ?_⟩;obtain⟨c,c2,rfl,k1,k2,k3⟩:=q4 hc;exact⟨[],c,c2,rfl,rfl,k1,k2,fun F' d hd hF=>k3 F' d hd fun j hj=>hF j (.inr hj)⟩
  | false=>
   rw[h0] at h;cases hb:ble A.size off with
   | false=>rw[hb] at h;exact absurd h (by simp)
   | true=>rw[hb] at h;have hle:=le_of_ble_eq_true hb;obtain⟨q1,q2,q3,q5,q4⟩:=hB (show rD B (i+1) (off-A.size) n=some p from h);refine⟨q1,q2,q3,by omega,fun{F iv cs} hc=> ?_⟩;obtain⟨e1,e2,rfl,h2,h3,h4,h5⟩:=hc;obtain⟨c1,c,c2,rfl,k0,k1,k2,k3⟩:=q4 h5;refine⟨e1++c1,c,c2,by simp,by rw[length_append];omega,k1,k2,fun F' d hd hF=> ?_⟩;rw[append_assoc];exact⟨e1,c1++(d++c2),rfl,h2,h3,by rw[hF i (.inl (by omega))];exact h4,k3 F' d hd hF⟩
 | _=>intro i off n p h;exact absurd h (by simp[rD])
theorem Q3 {t:Ty} {off:Nat} {u:Ty} {p:Nat×Ty} (h:D5 t off u=some p):t.agg=true∧u.agg=true∧rD t 0 off u.size=some p:=by
 unfold D5 at h;cases hc:cond t.agg (cond u.agg (ble 1 u.size) false) false with
 | false=>rw[hc] at h;exact absurd h (by simp)
 | true=>
  rw[hc] at h;obtain⟨h1,h2⟩:=az hc;obtain⟨h2,_⟩:=az h2;simp only[cond_true] at h;split at h
  ·rename_i q hq;cases hd:cond (t.beq u) true (q.2.beq (.pair u .unit)) with
   | true=>rw[hd] at h;exact absurd h (by simp)
   | false=>rw[hd] at h;obtain rfl:=Option.some.inj h;exact⟨h1,h2,hq⟩
  ·exact absurd h (by simp)
theorem XW {i o d:Nat} {ft:Ty}:∀ {t:Ty} {k off:Nat},iO t k off=some (i,o,ft)→o+d<ft.size→iO t k (off+d)=some (i,o+d,ft):=by
 intro t;induction t with
 | pair A B _ hB=>
  intro k off h hd;simp only[iO] at h ⊢;cases hb:blt off A.size with
  | true=>rw[hb] at h;simp only[cond_true,Option.some.injEq,Prod.mk.injEq] at h;obtain⟨rfl,rfl,rfl⟩:=h;rw[show blt (off+d) A.size=true from Nat.ble_eq_true_of_le hd];rfl
  | false=>
   rw[hb] at h;have hge:A.size≤off:=by apply Nat.le_of_not_lt;intro hlt;rw[show blt off A.size=true from Nat.ble_eq_true_of_le hlt] at hb;exact noConfusion hb
   rw[show blt (off+d) A.size=false from by
    cases hc:blt (off+d) A.size with
    | false=>rfl
    | true=>have:off+d<A.size:=le_of_ble_eq_true hc;omega]
   simp only[cond_false] at h ⊢;rw[show off+d-A.size=off-A.size+d from by omega];exact hB h hd
 | _=>intro k off h;simp[iO] at h
theorem SB {t u ft:Ty} {o z n j i o':Nat} (h:ED t u o z n=some (i,o',ft)) (hj:j<n):t.agg=true∧t.beq u=false∧ft.beq u=false∧iO t 0 (o+j*z)=some (i,o'+j*z,ft):=by
 unfold ED at h;cases ha:t.agg with
 | false=>rw[ha] at h;cases h
 | true=>
  rw[ha] at h;simp only[cond_true] at h;split at h
  ·rename_i q hq;cases hc:cond (t.beq u) true (q.2.2.beq u) with
   | true=>rw[hc] at h;cases h
   | false=>
    rw[hc] at h;cases hb:blt (q.2.1+(n-1)*z) q.2.2.size with
    | false=>rw[hb] at h;cases h
    | true=>
     rw[hb] at h;obtain rfl:=Option.some.inj h;have hlt:o'+(n-1)*z<ft.size:=le_of_ble_eq_true hb;have hle:j*z≤(n-1)*z:=mul_le_mul_right z (by omega);cases hb1:t.beq u with
     | true=>rw[hb1] at hc;exact noConfusion hc
     | false=>rw[hb1] at hc;exact⟨rfl,rfl,hc,XW hq (by omega)⟩
  ·cases h
theorem P7 {ft:Ty} {x:ft.den} {o z j:Nat} {u:Ty}:∀ {m i:Nat},i≤j→j<i+m→DN ft x o z j u m i=sub ft x (o+j*z) u
 | 0,i,h1,h2=>by omega
 | m+1,i,h1,h2=>by
  simp only[DN];by_cases h:j=i
  ·subst h;rw[beq_refl];rfl
  ·rw[show beq j i=false from by cases hb:beq j i with|false=>rfl|true=>exact absurd (eq_of_beq_eq_true hb) h];exact P7 (by omega) (by omega)
theorem P8 {ft:Ty} {x:ft.den} {o z j:Nat} {u:Ty} {y:u.den}:∀ {m i:Nat},i≤j→j<i+m→DT ft x o z j u y m i=dS ft x (o+j*z) u y
 | 0,i,h1,h2=>by omega
 | m+1,i,h1,h2=>by
  simp only[DT];by_cases h:j=i
  ·subst h;rw[beq_refl];rfl
  ·rw[show beq j i=false from by cases hb:beq j i with|false=>rfl|true=>exact absurd (eq_of_beq_eq_true hb) h];exact P8 (by omega) (by omega)
theorem zaz {u:Ty} {b o z n j:Nat} {v:SV} {hw:HW} {fp fp':List HLoc} (h:(Ed u b o z n j).run H fp=some ((v,hw),fp')) (hj:j<n):(jB u (.adr b (o+j*z))).run H fp=some ((v,hw),fp'):=by
 unfold Ed at h;simp only[Rd.run] at h;simp only[jB,Rd.run];split at h
 case h_2=>exact(ae h).elim
 rename_i t ht;split at h
 case h_2=>exact(ae h).elim
 rename_i q hq;obtain⟨i,o',ft⟩:=q;obtain⟨a1,a2,a3,a4⟩:=SB hq hj;simp only[a1,a2,a3,a4,cond_true,show ∀ c:Bool,cond c false false=false from fun c=>by cases c<;>rfl,cond_false,Rd.run];simp only[Rd.run] at h;split at h
 case h_2=>exact(ae h).elim
 rename_i ft' x hv;cases hb:ft'.beq ft with
 | false=>rw[hb] at h;exact(ae h).elim
 | true=>rw[hb] at h;obtain rfl:=Ty.beq_eq hb;obtain⟨y,hy,h⟩:=bP h;rw[P7 (Nat.zero_le _) (by omega)] at hy;obtain⟨e,e'⟩:=af h;cases e;subst e';simp only[hv,gZ,Hr,Rd.ofO,Rd.bind,hy,Rd.run]
theorem Z6 {u:Ty} {b o z n j:Nat} {v:SV} {hw:HW} {fp fp':List HLoc} (h:(KA u b o z n j v).run H fp=some (hw,fp')) (hj:j<n):(qH u (.adr b (o+j*z)) v).run H fp=some (hw,fp'):=by
 unfold KA at h;simp only[Rd.run] at h;simp only[qH,Rd.run];split at h
 case h_2=>exact(ae h).elim
 rename_i t ht;split at h
 case h_2=>exact(ae h).elim
 rename_i q hq;obtain⟨i,o',ft⟩:=q;obtain⟨a1,a2,a3,a4⟩:=SB hq hj;simp only[a1,a2,a3,a4,cond_true,show ∀ c:Bool,cond c false false=false from fun c=>by cases c<;>rfl,cond_false,Rd.run];simp only[Rd.run] at h;split at h
 case h_2=>exact(ae h).elim
 rename_i ft' x hv;cases hb:ft'.beq ft with
 | false=>rw[hb] at h;exact(ae h).elim
 | true=>rw[hb] at h;obtain rfl:=Ty.beq_eq hb;obtain⟨p,fp1,k1,h⟩:=ah h;obtain⟨y,hy,h⟩:=bP h;rw[P8 (Nat.zero_le _) (by omega)] at hy;obtain⟨e,e'⟩:=af h;subst e;subst e';simp only[hv,gZ,Hr,Rd.ofO,Rd.bind];rw[yO,k1];simp only[Option.bind_some,hy,Rd.bind,Rd.run,nil_append]
theorem zay (hTab:TabOk P tab) (hs:SimG C g S H a w) {id:Nat} {t:TypeId} {u:Ty} (ht:tla tab t=some u) {x:SV} {vx:Value} {v:SV} {hw:HW} {fp fp':List HLoc}
  (h:(oZ id u x).run H fp=some ((v,hw),fp')) (hx:SR g (view g.fl w) x vx):dw C S H a ((loadAt t vx).run P w) v hw:=by
 unfold oZ at h;have hT:=(hTab.w ht).1;have ld:∀ (b o:Nat),(loadAt t (.pointer (some ⟨b,o,none⟩))).run P w=(loadVar t ⟨b,o,none⟩).run P w:=fun b o=>by simp[loadAt,sureAddr]
 split at h
 ·rename_i s off;simp only[Rd.run] at h;split at h
  case h_2=>exact II hTab hs ht h hx
  rename_i ot hot;split at h
  case h_2=>exact II hTab hs ht h hx
  rename_i p hp;obtain⟨hta,hua,hp⟩:=Q3 hp;obtain⟨q1,q2,q3,_,q4⟩:=Iw (g:=g) hp;obtain⟨cs,hblk,h2,h3,h4⟩:=hs.sites s ot hot;unfold dV at h4;rw[hta] at h4;simp only[cond_true] at h4;obtain⟨c1,c,c2,rfl,k1,k2,k3,_⟩:=q4 h4;have k3:=dF.shift.1 (show dF (fun j=>H (.fld s j)) g (view g.fl w) p.2 c (p.1+0) from k3);have hrun:(loadVar t ⟨g.st s,off,none⟩).run P w=.ok (mkV u c) w:=jD hT k2 fun j v hj=>by rw[hblk.cell,←k1];exact o7 hj
  obtain⟨b,fp1,_,h⟩:=ah h;rw[show vx=_ from hx,ld];cases b with
  | true=>obtain⟨ws,fp2,m1,h⟩:=ah (show((uo (fun k=>.fld s (p.1+k)) (.comp id) p.2 0).bind _).run H _=_ from h);obtain⟨e,_⟩:=af h;cases e;obtain⟨vs,rfl,r2,r3,r4,r5⟩:=IX hs (src:=fun k=>.fld s (p.1+k)) (fun i=>hs.refF s _) m1 k3;obtain⟨cv',n1,n2,n3,_⟩:=SimG.setComps (d:=id) (i:=0) hs r2 r5 r3;refine⟨mkV u c,w,_,hrun,n1,⟨q1,by rw[n2];simp[mkV,hua],n3⟩,fun i hi=> ?_⟩;rw[←r4] at hi;have:=BR (d:=id) (i:=0) (k:=i) (H:=H) (getElem?_eq_getElem hi);rw[zero_add] at this;rw[this];exact(r3 _ (getElem_mem hi)).1
  | false=>obtain⟨⟨y,hw1⟩,fp2,m1,h⟩:=ah (show((gather (fun k=>.fld s (p.1+k)) p.2 0).bind _).run H _=_ from h);obtain⟨z,fp3,m2,h⟩:=ah h;obtain⟨e,_⟩:=af h;cases e;obtain⟨m2,_⟩:=aS m2;obtain⟨p1,p2⟩:=qU m1;refine .pubs hs p1 hrun (fun _=>trivial) fun fl own _ hR hle=> ?_;exact⟨c,yY (p2 _ _ _ hR (dF.change (H:=H) (GAgree.same (g:=g) (g':={ g with fl:=fl,own:=own }) rfl rfl rfl) hle (fun i=>hs.refF s _) k3)) m2,rfl⟩
 ·rename_i d j;cases hua:u.agg with
  | true=>rw[hua] at h;exact(ae h).elim
  | false=>
   rw[hua] at h;simp only[cond_false,Rd.run] at h;obtain⟨_,fp1,m1,h⟩:=ah h;obtain⟨e,_⟩:=af h;cases e;obtain⟨bl,rfl,hcell⟩:=hx;obtain⟨f1,f2,f3,f4⟩:=qf hs m1 (hs.comps d j);have hone:=ja hua f3;rw[←f2] at hone;refine .plain hs (val:=g.cv d j) ?_ (hs.comps d j) (hs.refC d j);rw[ld];have:=jD hT (w:=w) (b:=bl) (o:=j) (cs:=[g.cv d j]) (by rw[←hone];exact f3) (fun i v hi=>by
    cases i with
    | zero=>simp only[getElem?_cons_zero,Option.some.injEq] at hi;subst hi;exact(Ip.1 hcell).2
    | succ i=>simp at hi)
   rw[this];simp[mkV,hua]
 ·obtain⟨hj,rfl⟩:=hx;exact IG hTab hs ht (zaz h hj) (show SR g (view g.fl w) (.adr _ _) _ from rfl)
 ·exact II hTab hs ht h hx
theorem PX (hTab:TabOk P tab) (hs:SimG C g S H a w) {t:TypeId} {u:Ty} (ht:tla tab t=some u) {x v:SV} {vx vv:Value} {hw:HW} {fp fp':List HLoc}
  (h:(EC u x v).run H fp=some (hw,fp')) (hx:SR g (view g.fl w) x vx) (hv:SR g (view g.fl w) v vv) (rv:aG H v) :
  wZ C S H a ((storeAt t vx vv).run P w) hw:=by
 unfold EC at h;split at h
 case h_2=>obtain⟨hj,rfl⟩:=hx;exact yh hTab hs ht (Z6 h hj) (show SR g (view g.fl w) (.adr _ _) _ from rfl) hv rv
 case h_3=>exact G6 hTab hs ht h hx hv rv
 rename_i s off;simp only[Rd.run] at h;split at h
 case h_2=>exact G6 hTab hs ht h hx hv rv
 rename_i ot hot;split at h
 case h_2=>exact G6 hTab hs ht h hx hv rv
 rename_i p hp;obtain⟨hta,hua,hp⟩:=Q3 hp;obtain⟨q1,q2,q3,_,q4⟩:=Iw (g:=g) hp;obtain⟨cs,hblk,h2,h3,h4⟩:=hs.sites s ot hot;unfold dV at h4;rw[hta] at h4;simp only[cond_true] at h4;obtain⟨c1,c,c2,rfl,k1,k2,_,k4⟩:=q4 h4;have hT:=(hTab.w ht).1;have fin:∀ {vs:List SV},hw=bg (fun k=>.fld s (p.1+k)) 0 vs→iy g (view g.fl w) p.2 vs vv.cells.toList→iV H vs→wZ C S H a ((storeAt t vx vv).run P w) hw:=by
  intro vs hhw hL hG;have hlen:vv.cells.toList.length=u.size:=by rw[hL.length,q3]
  have hb:Blk w (g.st s) (c1++(c++c2)):=hblk;have hrun:=tK (P:=P) hT (v:=vv) (cs:=vv.cells.toList) (by simp) hlen hL.ones hb (by rw[k2]);have hblk':=Blk.setCells (vs:=vv.cells.toList) (o:=off) hb k1 (by rw[k2,hlen]);have hsh:∀ {vs:List SV} {i j:Nat},bg (fun k=>HLoc.fld s (i+k)) j vs=bg (.fld s) (i+j) vs:=by
   intro vs;induction vs with
   | nil=>intro i j;rfl
   | cons v vs ih=>intro i j;simp only[bg];rw[ih];rfl
  rw[hsh,add_zero] at hhw;subst hhw;have hLn:vs.length=nf p.2:=by
   have:∀ {t:Ty} {vs:List SV} {cs:List Value},iy g (view g.fl w) t vs cs→vs.length=nf t:=by
    intro t;induction t with
    | pair A B _ hB=>intro vs cs h;cases vs with
     | nil=>exact h.elim
     | cons v vs=>obtain⟨_,_,_,_,_,_,h5⟩:=h;simp[nf,hB h5]
    | unit=>intro vs cs h;cases vs with
     | nil=>rfl
     | cons v vs=>exact h.elim
    | _=>intro vs cs h;cases vs<;>exact h.elim
   exact this hL
  have hc:dV (fun j=>puts H (bg (.fld s) p.1 vs) (.fld s j)) g (view g.fl w) ot (c1++(vv.cells.toList++c2)):=by
   unfold dV;rw[hta];refine k4 _ _ (hL.ok fun k u hk=>CV hk) fun j hj=> ?_;rcases hj with hj|hj
   ·exact Jy hj
   ·have:∀ {vs:List SV} {i:Nat} {H:HLoc→SV},i+vs.length≤j→puts H (bg (.fld s) i vs) (.fld s j)=H (.fld s j):=by
     intro vs;induction vs with
     | nil=>intro i H _;rfl
     | cons v vs ih=>intro i H hle;simp only[bg,puts];simp only[length_cons] at hle;rw[ih (by omega),ay _ _ (by simp;omega)]
    exact this (by omega)
  obtain⟨g',n1⟩:=hs.turnObj hot (ws:=bg (.fld s) p.1 vs) (k:=off) (vs:=vv.cells.toList) (cs':=c1++(vv.cells.toList++c2)) (fun q hq=>by obtain⟨k,u,rfl,hk⟩:=Jm hq;exact⟨p.1+k,rfl,hG u (mem_of_getElem? hk)⟩) hblk' hc;refine⟨_,g',?_,n1⟩;rw[show vx=_ from hx];rw[k1] at hrun;simpa[storeAt,sureAddr] using hrun
 split at h
 ·rename_i d t';cases hb:t'.beq p.2 with
  | false=>rw[hb] at h;obtain⟨h5,rfl,h6⟩:=hv;obtain⟨vs,r1,r2,r3⟩:=QJ hs (show(rE (.comp d) (fun k=>.fld s (p.1+k)) t' p.2 0 0).run H _=_ from h) h6;exact fin r1 (by simpa[Value.cells] using r2) r3
  | true=>rw[hb] at h;obtain rfl:=Ty.beq_eq hb;obtain⟨h5,rfl,h6⟩:=hv;obtain⟨vs,r1,r2,r3⟩:=RU hs h h6;exact fin r1 (by simpa[Value.cells] using r2) r3
 ·obtain⟨y,fp1,m1,h⟩:=ah h;obtain⟨m1,_⟩:=aS m1;obtain⟨e,_⟩:=af h;exact fin (vs:=psv p.2 y) (by rw[e,Ho]) (HY q2 (vT (bM.cells hv) m1)) (Jh _ _)
 ·obtain⟨y,fp1,m1,h⟩:=ah h;obtain⟨m1,_⟩:=aS m1;obtain⟨e,_⟩:=af h;exact fin (vs:=lsv p.2 y) (by rw[e,OU]) (Pz q2 (vT (bM.cells hv) m1)) (Rn _ _)
 ·exact(ae h).elim
theorem SimG.siteRow (hs:SimG C g S H a w) {s id:Nat} {t:Ty} (hobj:H (.site s)=.obj t) (hid:H (.row id)=.bot) :
  ∃ g',SimG C g' S (ak H (.site s) .und) a w∧GAgree H g g'∧g'.st=g.st∧view g'.fl w=view g.fl w∧g'.hd id=.slice (some ⟨g.st s,0,none⟩) 1 1∧g'.own (g.st s)=some (.row id)∧g'.fl (g.st s)=0∧
   ∃ cs,Blk w (g.st s) cs∧dV (fun i=>H (.fld s i)) g (view g.fl w) t cs:=by
 obtain⟨cs,hblk,h2,h3,h4⟩:=hs.sites s t hobj;have hd:=hs.drop (l:=.site s) (.inl ⟨s,rfl⟩);have ht:=hd.turn (b:=g.st s) (o:=.site s) (o':=.row id) (f:=0) (w':=w) h2 (fun u=>by rw[aK];exact SV.noConfusion) (fun _ _=>rfl) rfl ⟨rfl,rfl,rfl⟩ (fun q v hq _=>by rw[h3] at hq;omega);have hid1:ak H (.site s) .und (.row id)=.bot:=by rw[ay _ _ (by simp)];exact hid
 have hA:GAgree (ak H (.site s) .und) { g with fl:=aA g.fl (g.st s) 0,own:=aA g.own (g.st s) (some (.row id)) }
   { g with fl:=aA g.fl (g.st s) 0,own:=aA g.own (g.st s) (some (.row id)),hd:=aA g.hd id (.slice (some ⟨g.st s,0,none⟩) 1 1) }:=
  ⟨fun _ _=>rfl,fun r hr=>bn _ _ fun e=>hr (e▸hid1),fun _ _ _=>rfl,rfl⟩
 have hg:=ht.grow hA (IV.le.refl _) (fun _ _ _ h=>⟨rfl,h,rfl⟩) (fun _ _ _ h=>⟨rfl,h,rfl⟩) ht.own ht.old ht.ext;have hfl:aA g.fl (g.st s) 0=g.fl:=by
  funext k;by_cases hk:k=g.st s
  ·subst hk;rw[bJ,h3]
  ·rw[bn _ _ hk]
 exact⟨_,hg,⟨fun _ _=>rfl,fun r hr=>bn _ _ fun e=>hr (e▸hid),fun _ _ _=>rfl,rfl⟩,rfl,by dsimp only;rw[hfl],bJ _ _ _,bJ _ _ _,bJ _ _ _,cs,hblk,h4⟩
theorem Je (H:HLoc→SV) (l m:HLoc) (u v:SV):puts H [(l,u),(m,v)]=ak (ak H l u) m v:=rfl
theorem Zi (hs:SimG C g S H a w) {s id:Nat} {e:Ty} {ws:HW} {fp fp':List HLoc} (h:(Jz id s e).run H fp=some (ws,fp')) :
  ∃ g',SimG C g' S (puts H ws) a w∧g'.st=g.st∧SR g' (view g'.fl w) (.own id) (.pointer (some ⟨g.st s,0,none⟩))∧((∃ x,puts H ws (.row id)=.row false e [x])∨∃ x,puts H ws (.row id)=.deep e [x] 1 none)∧
   ∀ p,p≠s→puts H ws (.site p)=H (.site p):=by
 simp only[Jz,Rd.run] at h;split at h
 case h_2=>exact(ae h).elim
 rename_i t hobj;cases hc:cond t.agg e.agg false with
 | false=>rw[hc] at h;exact(ae h).elim
 | true=>
  rw[hc] at h;obtain⟨ha,hea⟩:=az hc;simp only[cond_true] at h;obtain⟨hid,h⟩:=fH h;split at h
  ·rename_i sl hsl;obtain⟨⟨y,qo⟩,fp1,k1,h⟩:=ah h;obtain⟨x,fp2,k2,h⟩:=ah h;obtain⟨k2,_⟩:=aS k2;obtain⟨he,rfl⟩:=dm k2;subst he;cases qo with
   | some _=>exact(ae h).elim
   | none=>
    obtain⟨e1,_⟩:=af h;subst e1;obtain⟨g',m1,m2,m3,m4,m5,m6,m7,cs,hblk,hcells⟩:=hs.siteRow hobj hid;unfold dV at hcells;rw[ha] at hcells;have hR:=(H9 k1).2 g (view g.fl w) cs hcells;have hdeep:fO g'.fl g'.own w (g'.hd id) (.row id) t [y] 1 (fB g'.hd none):=by
     refine⟨le_refl _,fun k z hk=>by simp[fB] at hk,.inr ⟨g.st s,1,cs,fun _=>none,m5,by simp,hblk,by simpa using hR.length,m6,m7,fun i c hi=>by simp at hi,fun i j c hi=>by simp at hi,fun i z hi=> ?_⟩⟩;cases i with
     | succ i=>simp at hi
     | zero=>
      simp only[getElem?_cons_zero,Option.some.injEq] at hi;subst hi;refine⟨cs,fun j v hj=>by simpa using hj,hR.mono (by rw[m4];exact IV.le.refl _) fun u v y hq=>.inr (.inl ⟨fun _ h=>by simp[fB] at h,by omega,?_⟩)⟩;rcases hq with⟨q1,q2⟩|⟨r,q,_⟩
      ·exact .inl ⟨q1,q2,rfl⟩
      ·cases q
    have hn:=m1.setDeep (r:=id) (e:=t) (l:=[y]) (n:=1) (h:=none) hdeep (fun _ _ h=>by cases h);refine⟨g',by rw[Je];exact hn,m3,.inr ⟨g.st s,rfl,m5⟩,.inr ⟨y,by rw[Je,aK]⟩,fun p hp=> ?_⟩;rw[Je,ay _ _ (by simp),ay _ _ (by simpa using hp)]
  ·obtain⟨⟨y,hw1⟩,fp1,k1,h⟩:=ah h;obtain⟨x,fp2,k2,h⟩:=ah h;obtain⟨k2,_⟩:=aS k2;obtain⟨e1,_⟩:=af h;subst e1;obtain⟨p1,p2⟩:=qU k1;obtain⟨fl,own,n1,n2⟩:=hs.pubs p1;have hobj':puts H hw1 (.site s)=.obj t:=by rw[lZ p1];exact hobj
   have hid':puts H hw1 (.row id)=.bot:=by
    cases hm:dA (.row id) (au hw1) with
    | false=>rw[Pv p1 hm];exact hid
    | true=>
     exfalso;have:∀ {hw:HW} {H:HLoc→SV},bC H hw→H (.row id)=.bot→dA (.row id) (au hw)=false:=by
      intro hw;induction hw with
      | nil=>intro H _ _;rfl
      | cons p r ih=>
       obtain⟨l,v⟩:=p;rintro H ⟨⟨rr,pb,e',x',h1,h2,h3⟩,hr⟩ hb;subst h1 h2;have hne:rr≠id:=fun e=>by subst e;exact h3.ne_bot hb
       simp only[au,dA];rw[HLoc.beq_ne (by simpa using fun e=>hne e.symm),cond_false];exact ih (bC.upd h3 hr) (by rw[ay _ _ (by simpa using fun e=>hne e.symm)];exact hb)
     rw[this p1 hid] at hm;exact noConfusion hm
   obtain⟨g',m1,m2,m3,m4,m5,m6,m7,cs,hblk,hcells⟩:=n1.siteRow hobj' hid';unfold dV at hcells;rw[ha] at hcells;have hF:(fun i=>puts H hw1 (.fld s i))=fun i=>H (.fld s i):=funext fun i=>pV p1;rw[hF] at hcells;have hR:=vT (p2 _ _ _ (n1.rowsRd p1) hcells) k2;have hrow:qE g' w id false e [x]:=by
    refine .inr ⟨g.st s,1,cs,m5,by simp,hblk,by simpa using hR.length,m6,m7,fun i z hi=> ?_⟩;cases i with
    | succ i=>simp at hi
    | zero=>simp only[getElem?_cons_zero,Option.some.injEq] at hi;subst hi;exact⟨cs,fun j v hj=>by simpa using hj,by rw[m4];exact hR⟩
   have hn:=m1.setRow hrow;have eP:puts H (hw1++[(.site s,.und),(.row id,.row false e [x])])=ak (ak (puts H hw1) (.site s) .und) (.row id) (.row false e [x]):=by rw[gX];rfl
   refine⟨g',by rw[eP];exact hn,m3,.inr ⟨g.st s,rfl,m5⟩,.inl ⟨x,by rw[eP,aK]⟩,fun p hp=> ?_⟩;rw[eP,ay _ _ (by simp),ay _ _ (by simpa using hp),lZ p1]
theorem Zx (hs:SimG C g S H a w) {s off:Nat} {e:Ty} {y:e.den} {ws:HW} {fp fp':List HLoc} (h:(JG s off e).run H fp=some ((y,ws),fp')) :
  ∃ g',SimG C g' S (puts H ws) a w∧g'.st=g.st∧SR g' (view g'.fl w) (.pv (.ptr e) [y]) (.pointer (some ⟨g.st s,off,none⟩))∧∀ p,p≠s→puts H ws (.site p)=H (.site p):=by
 simp only[JG,Rd.run] at h;split at h
 case h_2=>exact(ae h).elim
 rename_i t hobj;cases ha:t.agg with
 | false=>rw[ha] at h;exact(ae h).elim
 | true=>
  rw[ha] at h;obtain⟨⟨z,hw1⟩,fp1,k1,h⟩:=ah (show((gather (.fld s) t 0).bind _).run H _=_ from h);obtain⟨y',fp2,k2,h⟩:=ah h;obtain⟨k2,_⟩:=aS k2;obtain⟨e1,_⟩:=af h;cases e1;obtain⟨p1,p2⟩:=qU k1;obtain⟨fl,own,n1,n2⟩:=hs.pubs p1;have hobj':puts H hw1 (.site s)=.obj t:=by rw[lZ p1];exact hobj
  obtain⟨cs,hblk,h2,h3,h4⟩:=n1.sites s t hobj';unfold dV at h4;rw[ha] at h4;have hF:(fun i=>puts H hw1 (.fld s i))=fun i=>H (.fld s i):=funext fun i=>pV p1;rw[hF] at h4;have hC:=p2 _ _ _ (n1.rowsRd p1) h4;have h3:fl (g.st s)=0:=h3;have hd:=n1.drop (l:=.site s) (.inl ⟨s,rfl⟩);have ht:=hd.turn (b:=g.st s) (o:=.site s) (o':=.site s) (f:=cs.length) (w':=w) h2 (fun u=>by rw[aK];exact SV.noConfusion) (fun _ _=>rfl) rfl ⟨rfl,rfl,rfl⟩ (fun q v hq _=>by have hq:q<fl (g.st s):=hq;omega);have hle:(view fl w).le (view (aA fl (g.st s) cs.length) w):=by
   intro k q v hv;obtain⟨q1,q2⟩:=Ip.1 hv;refine Ip.2 ⟨?_,q2⟩;by_cases hk:k=g.st s
   ·subst hk;omega
   ·rw[bn _ _ hk];exact q1
  obtain⟨c1,c,c2,rfl,q1,q2⟩:=ru hC k2;have eP:puts H (hw1++[(.site s,.und)])=ak (puts H hw1) (.site s) .und:=by rw[gX];rfl
  rw[←eP] at ht;refine⟨_,ht,rfl,?_,fun p hp=> ?_⟩
  ·refine⟨[.pointer (some ⟨g.st s,off,none⟩)],⟨_,rfl,.inr ⟨g.st s,off,c,y,rfl,rfl,fun j v hj=> ?_,q2.mono hle⟩⟩,rfl⟩;refine Ip.2 ⟨?_,?_⟩
   ·dsimp only;rw[bJ,length_append,length_append];have:=(List.getElem?_eq_some_iff.1 hj).1;omega
   ·rw[hblk.cell,←q1];exact o7 hj
  ·rw[eP,ay _ _ (by simpa using hp),lZ p1]
theorem SN {u:Ty} (hu:u.agg=false) {s:Nat} {x:SV} {l:HLoc} {fp fp':List HLoc} (h:(EG u s x).run H fp=some (l,fp')) :
  ∃ p o,x=.adr p o∧p≠s∧∀ (H':HLoc→SV) (v:SV),H' (.site p)=H (.site p)→(∀ fp,∃ fp',(fits u v).run H' fp=some ((),fp'))→∀ fp,∃ fp',(qH u x v).run H' fp=some ([(l,v)],fp'):=by
 cases x with
 | adr p o=>
  simp only[EG] at h;cases hps:beq p s with
  | true=>rw[hps] at h;exact(ae h).elim
  | false=>
   rw[hps] at h;simp only[cond_false,Rd.run] at h;refine⟨p,o,rfl,fun e=>by subst e;rw[beq_refl] at hps;exact noConfusion hps,fun H' v hH hf fp=> ?_⟩;split at h
   case h_2=>exact(ae h).elim
   rename_i t hobj;rw[hobj] at hH;cases ha:t.agg with
   | true=>
    rw[ha] at h;simp only[cond_true] at h;split at h
    case h_2=>exact(ae h).elim
    rename_i q hq;obtain⟨i,o',ft⟩:=q;cases hc:cond (beq o' 0) (ft.beq u) false with
    | false=>rw[hc] at h;exact(ae h).elim
    | true=>
     rw[hc] at h;obtain⟨e,_⟩:=af h;subst e;have htu:t.beq u=false:=by cases t<;>first|exact noConfusion ha|(cases u<;>first|rfl|exact noConfusion hu)
     obtain⟨fp2,hf2⟩:=hf (.site p::fp);refine⟨fp2,?_⟩;have hc0:cond (beq o 0) (t.beq u) false=false:=by rw[htu];cases beq o 0<;>rfl
     simp only[qH,Rd.run,hH,hc0,cond_false,ha,cond_true,hq,hc,hu];rw[yO,hf2];rfl
   | false=>
    rw[ha] at h;simp only[cond_false] at h;cases hc:cond (beq o 0) (t.beq u) false with
    | false=>rw[hc] at h;exact(ae h).elim
    | true=>rw[hc] at h;obtain⟨e,_⟩:=af h;subst e;obtain⟨_,e2⟩:=az hc;obtain rfl:=Ty.beq_eq e2;obtain⟨fp2,hf2⟩:=hf (.site p::fp);refine⟨fp2,?_⟩;simp only[qH,Rd.run,hH,hc,cond_true,putObj,ha,cond_false];rw[yO,hf2];rfl
 | _=>exact(ae h).elim
theorem YY (hTab:TabOk P tab) (hs:SimG C g S H a w) {id:Nat} {t:TypeId} {u:Ty} (ht:tla tab t=some u) {x v:SV} {vx vv:Value} {hw:HW} {fp fp':List HLoc}
  (h:(KC tab id t u x v).run H fp=some (hw,fp')) (hx:SR g (view g.fl w) x vx) (hv:SR g (view g.fl w) v vv) (rv:aG H v) :
  wZ C S H a ((storeAt t vx vv).run P w) hw:=by
 unfold KC at h;split at h
 case h_2=>exact PX hTab hs ht h hx hv rv
 rename_i e s off;cases ho:nz t tab.owns with
 | true=>
  rw[ho] at h;simp only[cond_true] at h;cases hoff:beq off 0 with
  | false=>rw[hoff] at h;exact(ae h).elim
  | true=>
   rw[hoff] at h;obtain rfl:=eq_of_beq_eq_true hoff;simp only[cond_true] at h;obtain⟨l,fp1,k1,h⟩:=ah h;obtain⟨ws,fp2,k2,h⟩:=ah h;obtain⟨e1,_⟩:=af h;subst e1;obtain⟨p,o,rfl,hps,k3⟩:=SN rfl k1;obtain⟨g',n1,n2,n3,n4,n5⟩:=Zi hs k2;have hrow:aG (puts H ws) (.own id):=by rcases n4 with⟨z,n4⟩|⟨z,n4⟩<;>simp only[aG,n4]<;>exact SV.noConfusion
   obtain⟨fp3,k4⟩:=k3 (puts H ws) (.own id) (n5 p hps) (fun fp=>by rcases n4 with⟨z,n4⟩|⟨z,n4⟩<;>exact⟨.row id::fp,by simp only[fits,Rd.run,n4,Ty.beq_refl,cond_true]⟩) [];have hvv:vv=.pointer (some ⟨g.st s,0,none⟩):=hv;subst hvv;have hst:=yh (P:=P) hTab n1 ht k4 (vx:=vx) (by rw[show vx=_ from hx];show _=pointer _;rw[n2]) n3 hrow;obtain⟨w',g2,r1,r2⟩:=hst;exact⟨w',g2,r1,by rw[gX];exact r2⟩
 | false=>
  rw[ho] at h;simp only[cond_false] at h;cases hf:nz t tab.frzs with
  | false=>rw[hf] at h;simp only[cond_false] at h;exact PX hTab hs ht h hx hv rv
  | true=>rw[hf] at h;simp only[cond_true] at h;obtain⟨l,fp1,k1,h⟩:=ah h;obtain⟨⟨y,ws⟩,fp2,k2,h⟩:=ah h;obtain⟨e1,_⟩:=af h;subst e1;obtain⟨p,o,rfl,hps,k3⟩:=SN rfl k1;obtain⟨g',n1,n2,n3,n5⟩:=Zx hs k2;obtain⟨fp3,k4⟩:=k3 (puts H ws) (.pv (.ptr e) [y]) (n5 p hps) (fun fp=>⟨fp,by simp only[fits,Ty.beq_refl,cond_true,Rd.run]⟩) [];have hvv:vv=.pointer (some ⟨g.st s,off,none⟩):=hv;subst hvv;have hst:=yh (P:=P) hTab n1 ht k4 (vx:=vx) (by rw[show vx=_ from hx];show _=pointer _;rw[n2]) n3 trivial;obtain⟨w',g2,r1,r2⟩:=hst;exact⟨w',g2,r1,by rw[gX];exact r2⟩
theorem Yg (hTab:TabOk P tab) (hs:SimG C g S H a w) {s:TypeId} {f n id d:Nat} {ty t ft:Ty} (ht:tls tab s=some ty) (hf:fJ ty f=some n) (hft:dN ty f=some ft) {vx:Value} {v:SV} {hw:HW} {fp fp':List HLoc}
  (h:(JH id d t n ft).run H fp=some ((v,hw),fp')) (hx:SR g (view g.fl w) (.agg d t) vx):dw C S H a ((Instr.field s vx f).run P w) v hw:=by
 obtain⟨h1,rfl,h3⟩:=hx;have hF:=qR hs (d:=d) h3;unfold JH at h;split at h
 case h_2=>exact(ae h).elim
 rename_i q hq;obtain⟨i,o,c⟩:=q;obtain⟨c1,cc,c2,hcs,q1,q2,q3,q4,_⟩:=PM hq hF;cases hc:cond (beq o 0) (c.beq ft) false with
 | true=>simp only[hc] at h;obtain⟨e0,e1⟩:=az hc;obtain rfl:=Ty.beq_eq e1;obtain rfl:=eq_of_beq_eq_true e0;obtain⟨_,fp1,k1,h⟩:=ah (show((fits c (H (.comp d i))).bind fun _=>Rd.ret (H (.comp d i),[])).run H (_::fp)=_ from h);obtain⟨e,_⟩:=af h;cases e;refine .plain hs (val:=mkV c cc) ?_ q4 (hs.refC d i);rw[hcs];exact tZ hTab ht hf hft (by omega) q2
 | false=>
  simp only[hc,cond_false] at h;cases hle:ble (o+ft.size) c.size with
  | true=>
   simp only[hle,cond_true,Rd.run] at h;split at h
   ·rename_i c' x hv;cases hb:c'.beq c with
    | false=>rw[hb] at h;exact(ae h).elim
    | true=>rw[hb] at h;obtain rfl:=Ty.beq_eq hb;obtain⟨y,fp1,k1,h⟩:=ah (show((Rd.ofO (sub c' x o ft)).bind _).run H _=_ from h);obtain⟨k1,_⟩:=aS k1;obtain⟨e,_⟩:=af h;cases e;rw[hv] at q4;have hC:=bM.cells q4;rw[iw q2 q3] at hC;obtain⟨d1,dd,d2,hdd,m1,m2⟩:=ru hC k1;simp only at hdd;subst hdd;refine .plain hs (val:=mkV ft dd) ?_ ⟨dd,m2,rfl⟩ trivial;rw[hcs];have:=tZ (P:=P) (w:=w) hTab ht hf hft (c1:=c1++d1) (c:=dd) (c2:=d2++c2) (by rw[length_append];omega) m2.length;simpa using this
   ·rename_i c' x hv;cases hb:c'.beq c with
    | false=>rw[hb] at h;exact(ae h).elim
    | true=>rw[hb] at h;obtain rfl:=Ty.beq_eq hb;obtain⟨y,fp1,k1,h⟩:=ah (show((Rd.ofO (sub c' x o ft)).bind _).run H _=_ from h);obtain⟨k1,_⟩:=aS k1;obtain⟨e,_⟩:=af h;cases e;rw[hv] at q4;have hC:=bM.cells (show bM g.lv c' (mkV c' cc) x from q4);rw[iw q2 q3] at hC;obtain⟨d1,dd,d2,hdd,m1,m2⟩:=ru hC k1;simp only at hdd;subst hdd;refine .plain hs (val:=mkV ft dd) ?_ (TU m2) ((J3 ft y).2 H);rw[hcs];have:=tZ (P:=P) (w:=w) hTab ht hf hft (c1:=c1++d1) (c:=dd) (c2:=d2++c2) (by rw[length_append];omega) m2.length;simpa using this
   ·exact(ae h).elim
  | false=>
   simp only[hle,cond_false] at h;cases hfa:ft.agg with
   | false=>rw[hfa] at h;exact(ae h).elim
   | true=>
    rw[hfa] at h;simp only[cond_true] at h;split at h
    case h_2=>exact(ae h).elim
    rename_i p hp;obtain⟨r1,r2,r3,_,r4⟩:=Iw (g:=g) hp;obtain⟨e1,e,e2,hes,k1,k2,k3,_⟩:=r4 hF;have k3:=dF.shift.1 (show dF (fun j=>H (.comp d j)) g (view g.fl w) p.2 e (p.1+0) from k3);obtain⟨ws,fp2,m1,h⟩:=ah h;obtain⟨e0,_⟩:=af h;cases e0;obtain⟨vs,rfl,s2,s3,s4,s5⟩:=IX hs (src:=fun k=>.comp d (p.1+k)) (fun i=>hs.refC d _) m1 k3;obtain⟨cv',n1,n2,n3,_⟩:=SimG.setComps (d:=id) (i:=0) hs s2 s5 s3;refine⟨mkV ft e,w,_,?_,n1,⟨r1,by rw[n2];simp[mkV,hfa],n3⟩,fun i hi=> ?_⟩
    ·rw[hes];exact tZ hTab ht hf hft k1 k2
    ·rw[←s4] at hi;have:=BR (d:=id) (i:=0) (k:=i) (H:=H) (getElem?_eq_getElem hi);rw[zero_add] at this;rw[this];exact(s3 _ (getElem_mem hi)).1
end
section
variable {P:Program} {tab:Tab} {C:Ctx} {g:Gh} {S:Nat→SV} {H:HLoc→SV} {a:Act} {w:World}
theorem JY:∀ t:Ty,nfT t=nf t:=by
 intro t;induction t with
 | pair A B _ hB=>simp[nfT,nf,hB]
 | _=>rfl
theorem QT {n:Nat}:∀ {l:List Nat},wX n l=true→∀ x∈l,x<n
 | [],_,x,hx=>by simp at hx
 | a::r,h,x,hx=>by
  simp only[wX] at h;cases hb:blt a n with
  | false=>rw[hb] at h;exact noConfusion h
  | true=>
   rw[hb] at h;rcases mem_cons.1 hx with rfl|hx
   ·exact le_of_ble_eq_true hb
   ·exact QT h x hx
theorem Oj:∀ {parts:List (Nat×Operand)},rising (parts.map fun p=>p.1)=true→∀ p∈parts,jb p.1 parts=some p.2
 | [],_,p,hp=>by simp at hp
 | (j,v)::r,h,p,hp=>by
  simp only[map_cons] at h;obtain⟨h1,h2⟩:=OG h;rcases mem_cons.1 hp with rfl|hp
  ·simp[jb]
  ·have hlt:=h2 p.1 (mem_map.2 ⟨p,hp,rfl⟩);have hb:beq j p.1=false:=by cases hb:beq j p.1 with|false=>rfl|true=>have:=eq_of_beq_eq_true hb;omega
   simp only[jb,hb,cond];exact Oj h1 p hp
theorem zbq (hs:SimG C g S H a w) {A:Ty} {o:Operand} {r:SV×HW} {fp fp':List HLoc} (h:(Ea A (evS S o)).run H fp=some (r,fp')):(a.eval o).cells.toList.length=A.size:=by
 obtain⟨ho,hro⟩:=hs.ev o;have plain:((fits A (evS S o)).bind fun _=>Rd.ret (evS S o,([]:HW))).run H fp=some (r,fp')→(a.eval o).cells.toList.length=A.size:=by intro hk;obtain⟨_,fp3,m1,m2⟩:=ah hk;exact(qf hs m1 ho).2.2.1
 unfold Ea at h;split at h
 ·rename_i d t hsv;obtain⟨b,fp3,_,h⟩:=ah h;cases b with
  | true=>
   rw[cond_true] at h;cases hcc:cond A.agg (beq t.size A.size) false with
   | false=>rw[hcc] at h;exact(ae h).elim
   | true=>obtain⟨c1,c2⟩:=az hcc;rw[hsv] at ho;exact(JO ho c1 (eq_of_beq_eq_true c2)).2.1
  | false=>
  rw[cond_false] at h;obtain⟨⟨y,hwy⟩,fp3,m1,m2⟩:=ah h;obtain⟨p1,p2⟩:=oz hs m1 ho hro;obtain⟨fl,own,k1,k2⟩:=hs.pubs p1;exact(p2 fl own (k1.rowsRd p1) k2).cells.length
 ·exact plain h
theorem ZH (hs:SimG C g S H a w) {id:Nat} {parts:List (Nat×Operand)}:∀ {ty:Ty} {i:Nat} {fp fp':List HLoc} {q:HW×List SV},
  (ni id (parts.map fun p=>(p.1,evS S p.2)) ty i).run H fp=some (q,fp')→
  ∀ j o ft,jb (i+j) parts=some o→dN ty j=some ft→(a.eval o).cells.toList.length=ft.size:=by
 intro ty;induction ty with
 | pair A B _ hB=>
  intro i fp fp' q h j o ft hp hf;simp only[ni] at h;obtain⟨hbot,h⟩:=fH h;obtain⟨⟨v,hw1⟩,fp1,k1,h⟩:=ah h;obtain⟨q2,fp2,k2,h⟩:=ah h;cases j with
  | zero=>simp only[dN,Option.some.injEq] at hf;subst hf;rw[add_zero] at hp;rw[H5,hp] at k1;exact zbq hs k1
  | succ j=>exact hB k2 j o ft (by rwa[show i+1+j=i+(j+1) from by omega]) hf
 | _=>intro i fp fp' q h j o ft _ hf;simp[dN] at hf
theorem YL (hTab:TabOk P tab) (hs:SimG C g S H a w) {id:Nat} {t:TypeId} {parts:Array (Nat×Operand)} {v:SV} {hw:HW} {fp fp':List HLoc}
  (h:(match tla tab t with
   | some ty=>cond ty.agg (cond parts.toList.isEmpty ((ni id [] (flT tab t ty) 0).bind fun q=>.ret (.agg id (flT tab t ty),q.1++bg (.comp id) 0 q.2)) <| cond (cond (rising (parts.toList.map fun p=>p.1)) (wX (nfT ty) (parts.toList.map fun p=>p.1)) false) ((ni id (parts.toList.map fun p=>(p.1,evS S p.2)) ty 0).bind fun q=>.ret (.agg id ty,q.1++bg (.comp id) 0 q.2)) .fail) .fail
   | none=>.fail:Rd (SV×HW)).run H fp=some ((v,hw),fp')) :
  dw C S H a ((build t (parts.map fun(i,x)=>(i,a.eval x))).run P w) v hw:=by
 split at h
 ·rename_i ty ht;cases ha:ty.agg with
  | false=>rw[ha] at h;exact(ae h).elim
  | true=>
   rw[ha] at h;cases hem:parts.toList.isEmpty with
   | true=>
    rw[hem] at h;obtain rfl:parts = #[]:=by
     obtain⟨l⟩:=parts;cases l with
     | nil=>rfl
     | cons _ _=>exact noConfusion hem
    have h0:=YN hTab hs ht ha h;simpa only[List.map_toArray,map_nil] using h0
   | false=>
   rw[hem] at h;simp only[cond_true,cond_false] at h;cases hr:cond (rising (parts.toList.map fun p=>p.1)) (wX (nfT ty) (parts.toList.map fun p=>p.1)) false with
   | false=>rw[hr] at h;exact(ae h).elim
   | true=>
    rw[hr] at h;obtain⟨h1,h2⟩:=az hr;refine ZG hTab hs (id:=id) (t:=t) (fp:=fp) (fp':=fp') ?_ fun ty' ht' p hp=> ?_
    ·rw[ht];simp only[ha,h1,cond];exact h
    ·rw[ht] at ht';obtain rfl:=Option.some.inj ht';have hlt:=QT h2 p.1 (mem_map.2 ⟨p,hp,rfl⟩);rw[JY] at hlt;refine⟨hlt,fun ft hft=> ?_⟩;obtain⟨q,fp1,k1,_⟩:=ah h;exact ZH hs k1 p.1 p.2 ft (by rw[zero_add];exact Oj h1 p hp) hft
 ·exact(ae h).elim
def jC (P:Program) (C:Ctx) (S:Nat→SV) (H:HLoc→SV) (a:Act) (w:World) (o:Oper) (v:SV) (hw:HW):Prop:=
 ∀ (K:Act→World→Prop) (Q:Exit→Act→World→Prop),(∀ val w' g',SimG C g' S (puts H hw) a w'→SR g' (view g'.fl w') v val→aG (puts H hw) v→K (a.put o.dst val) w')→o.wp P a w K Q
theorem Done.op {o:Oper} {v:SV} {hw:HW} (h:Done C S H a ((execOp a.eval o).run P w) v hw):jC P C S H a w o v hw:=by
 intro K Q hk;obtain⟨nx,val,w',g',h1,h2,h3,h4,h5⟩:=h;unfold Oper.wp;rw[h1];rcases h2 with rfl|⟨rfl,rfl⟩
 ·exact hk val w' g' h3 h4 h5
 ·exact hk undef w' g' h3 h4 h5
theorem wZ.lift {s:Sem Unit} {hw:HW} (h:wZ C S H a (s.run P w) hw):Done C S H a ((do s;pure Next.skip:Sem Next).run P w) .bot hw:=by
 obtain⟨w',g',h1,h2⟩:=h;exact⟨.skip,undef,w',g',by simp[h1],.inr ⟨rfl,rfl⟩,h2,trivial,trivial⟩
theorem ZF (hTab:TabOk P tab) (hs:SimG C g S H a w) {id:Nat} {b:Builtin} {ts:Array TypeId} {args:Array Operand} {ty:TypeId} {cn:Array Bool} {v:SV} {hw:HW} {fp fp':List HLoc}
  (h:(Jr tab id b ts.toList (args.toList.map (evS S))).run H fp=some ((v,hw),fp')):Done C S H a ((builtin b ts ty cn (args.map a.eval)).run P w) v hw:=by
 obtain⟨ts⟩:=ts;obtain⟨args⟩:=args;simp only at h;unfold Jr at h;generalize hvs:args.map (evS S)=vs at h;split at h
 ·
  rename_i x;obtain⟨o,rfl,ho⟩:∃ o,args=[o]∧evS S o=x:=by
   match args,hvs with
   | [o],e=>simp at e;exact⟨o,rfl,e⟩
  split at h
  ·rename_i t;obtain⟨n,fp1,k1,h⟩:=ah h;obtain⟨e,_⟩:=af h;cases e;subst ho;have:=zbC (P:=P) hTab hs k1 (hs.ev o).1 ty;rw[show(map a.eval { toList:=[o] }:Array Value) = #[a.eval o] by simp];exact dw.lift (s:=Builtin.len_ #[t] ty #[a.eval o]) (dw.plain (v:=.pv (.int .i64) n) hs this (kT _ _) trivial)
  ·exact(ae h).elim
 ·rename_i s x;obtain⟨o,p,rfl,ho,hp⟩:∃ o p,args=[o,p]∧evS S o=s∧evS S p=x:=by
   match args,hvs with
   | [o,p],e=>simp at e;exact⟨o,p,rfl,e⟩
  subst ho hp;split at h
  ·rename_i t u;split at h
   ·rename_i e hu;rw[show(map a.eval { toList:=[o,p] }:Array Value) = #[a.eval o,a.eval p] by simp];exact dw.lift (s:=Builtin.append_ #[t,u] ty #[a.eval o,a.eval p]) (OY hTab hs (.inl ⟨e,hu⟩) h (hs.ev o).1 (hs.ev p).1 ty)
   ·rename_i hu;rw[show(map a.eval { toList:=[o,p] }:Array Value) = #[a.eval o,a.eval p] by simp];exact dw.lift (s:=Builtin.append_ #[t,u] ty #[a.eval o,a.eval p]) (OY hTab hs (.inr hu) h (hs.ev o).1 (hs.ev p).1 ty)
   ·exact(ae h).elim
  ·exact(ae h).elim
 ·rename_i k x r;obtain⟨o,r',rfl,ho,hr⟩:∃ o r',args=o::r'∧evS S o=.pv (.int k) x∧r'.map (evS S)=r:=by
   match args,hvs with
   | o::r',e=>simp at e;exact⟨o,r',rfl,e⟩
  subst hr;obtain⟨z,rfl,rfl,hz⟩:=RG (F:=Builtin.max2) (f:=eQ) (P:=P) (w:=w) (fun x y=>by
   simp only[Builtin.max2,eQ];by_cases hxy:x<y
   ·have hyx:y>x:=hxy;simp[hxy]
   ·have hyx:¬ y>x:=hxy;simp[hxy]) hs h
  have hv:=lH (ho▸(hs.ev o).1);refine dw.lift (s:=Builtin.max_ ts.toArray ty ((o::r').toArray.map a.eval)) (dw.plain hs (val:=.int k z) ?_ (kT _ _) trivial);rw[←hz];simp[Builtin.max_,hv]
 ·rename_i k x r;obtain⟨o,r',rfl,ho,hr⟩:∃ o r',args=o::r'∧evS S o=.pv (.int k) x∧r'.map (evS S)=r:=by
   match args,hvs with
   | o::r',e=>simp at e;exact⟨o,r',rfl,e⟩
  subst hr;obtain⟨z,rfl,rfl,hz⟩:=RG (F:=Builtin.min2) (f:=fQ) (P:=P) (w:=w) (fun x y=>by
   simp only[Builtin.min2,fQ];by_cases hxy:y<x
   ·simp[hxy]
   ·simp[hxy]) hs h
  have hv:=lH (ho▸(hs.ev o).1);refine dw.lift (s:=Builtin.min_ ts.toArray ty ((o::r').toArray.map a.eval)) (dw.plain hs (val:=.int k z) ?_ (kT _ _) trivial);rw[←hz];simp[Builtin.min_,hv]
 ·exact(ae h).elim
def uu (P:Program) (_tab:Tab) (Γ:FuncId→List Sig):Prop:=
 ∀ {C:Ctx} {g:Gh} {S:Nat→SV} {H:HLoc→SV} {a:Act} {w:World} {id:Nat} {f:FuncId} {svs:List SV} {vs:List Value} {v:SV} {hw:HW} {fp fp':List HLoc} {o:Oper},
  SimG C g S H a w→svs.length=vs.length→(∀ (i:Nat) (s:SV) (x:Value),svs[i]? = some s→vs[i]? = some x→SR g (view g.fl w) s x∧aG H s)→(Le Γ id f svs).run H fp=some ((v,hw),fp')→
  ∀ (K:Act→World→Prop) (Q:Exit→Act→World→Prop),(∀ val w' g',SimG C g' S (puts H hw) a w'→SR g' (view g'.fl w') v val→aG (puts H hw) v→K (a.put o.dst val) w')→
   ((callFunc f vs.toArray).run P w=.ok (.enter f vs.toArray) w∧Calls P f vs.toArray w fun
   | .returned v,w''=>K (a.put o.dst v) w''
   | .panicked chain,w''=>Q (.panic chain) a w''
   | .outgrown,_=>LetsOut Q)
theorem Jl {d:Nat}:∀ {n i:Nat} {vs:List SV} {fp fp':List HLoc},(sO d n i).run H fp=some (vs,fp')→vs=(List.range' i n).map fun k=>H (.comp d k):=by
 intro n;induction n with
 | zero=>intro i vs fp fp' h;obtain⟨e,_⟩:=af h;exact e
 | succ n ih=>intro i vs fp fp' h;simp only[sO,Rd.run] at h;obtain⟨vs',fp1,k1,h⟩:=ah h;obtain⟨e,_⟩:=af h;rw[e,ih k1];rfl
theorem IL {id:Nat}:∀ {svs:List SV} {i:Nat} {fp fp':List HLoc} {u:Unit},(um id i svs).run H fp=some (u,fp')→∀ k s,svs[k]? = some s→H (.comp id (i+k))=.bot∧s≠.bot
 | [],i,fp,fp',u,_,k,s,hk=>by simp at hk
 | v::vs,i,fp,fp',u,h,k,s,hk=>by
  have main:v≠.bot→(fresh (.comp id i) (um id (i+1) vs)).run H fp=some (u,fp')→H (.comp id (i+k))=.bot∧s≠.bot:=by
   intro hv h;obtain⟨h1,h2⟩:=fH h;cases k with
   | zero=>simp only[getElem?_cons_zero,Option.some.injEq] at hk;subst hk;exact⟨h1,hv⟩
   | succ k=>have:=IL h2 k s (by simpa using hk);rwa[show i+1+k=i+(k+1) from by omega] at this
  cases v<;>first
   | exact(ae h).elim
   | exact main SV.noConfusion h
theorem RX {id:Nat}:∀ {svs:List SV} {vals:List Value} {i:Nat} {g:Gh} {H:HLoc→SV},SimG C g S H a w→svs.length=vals.length→
  (∀ (k:Nat) (s:SV) (v:Value),svs[k]? = some s→vals[k]? = some v→SR g (view g.fl w) s v∧aG H s)→(∀ (k:Nat) (s:SV),svs[k]? = some s→H (.comp id (i+k))=.bot∧s≠.bot)→
  ∃ cv',SimG C { g with cv:=cv' } S (puts H (bg (.comp id) i svs)) a w∧(∀ (k:Nat) (v:Value),vals[k]? = some v→cv' id (i+k)=v)∧(∀ d k,d≠id∨k<i→cv' d k=g.cv d k)∧(∀ k,k<svs.length→puts H (bg (.comp id) i svs) (.comp id (i+k))≠.bot):=by
 intro svs;induction svs with
 | nil=>intro vals i g H hs hl _ _;exact⟨g.cv,hs,fun k v hk=>by cases vals with|nil=>simp at hk|cons=>simp at hl,fun _ _ _=>rfl,fun k hk=>by simp at hk⟩
 | cons s svs ih=>
  intro vals i g H hs hl hv hb;cases vals with
  | nil=>simp at hl
  | cons v vals=>
   obtain⟨v1,v2⟩:=hv 0 s v rfl rfl;obtain⟨b1,b2⟩:=hb 0 s rfl;rw[add_zero] at b1;have h1:=hs.setComp (d:=id) (i:=i) (val:=v) b1 b2 v2 v1;have hA:GAgree H g { g with cv:=fun d' i'=>if d'=id∧i'=i then v else g.cv d' i' }:=
    ⟨fun _ _=>rfl,fun _ _=>rfl,fun d' k' hne=>by
     by_cases e:d'=id∧k'=i
     ·obtain⟨rfl,rfl⟩:=e;exact absurd b1 hne
     ·simp[e],rfl⟩
   obtain⟨cv',c1,c2,c3,c4⟩:=ih (vals:=vals) (i:=i+1) h1 (by simpa using hl) (fun k s' v' e1 e2=>by
     obtain⟨q1,q2⟩:=hv (k+1) s' v' (by simpa using e1) (by simpa using e2);exact⟨SR.change hA (IV.le.refl _) q2 q1,aG.upd b2 q2⟩) (fun k s' e1=>by
     obtain⟨q1,q2⟩:=hb (k+1) s' (by simpa using e1);rw[ay _ _ (by simp;omega),show i+1+k=i+(k+1) from by omega];exact⟨q1,q2⟩)
   refine⟨cv',c1,fun k u hk=> ?_,fun d k hd=> ?_,fun k hk=> ?_⟩
   ·cases k with
    | zero=>simp only[getElem?_cons_zero,Option.some.injEq] at hk;subst hk;rw[add_zero,c3 id i (.inr (by omega))];simp
    | succ k=>have:=c2 k u (by simpa using hk);rwa[show i+1+k=i+(k+1) from by omega] at this
   ·rw[c3 d k (by omega)];have:¬ (d=id∧k=i):=by omega
    simp[this]
   ·cases k with
    | zero=>
     simp only[bg,puts,add_zero];have lt:∀ {us:List SV} {j' m:Nat} {H:HLoc→SV},m<j'→puts H (bg (.comp id) j' us) (.comp id m)=H (.comp id m):=by
      intro us;induction us with
      | nil=>intro j' m H _;rfl
      | cons x xs ihx=>intro j' m H hm;simp only[bg,puts];rw[ihx (show m<j'+1 by omega),ay _ _ (by simp;omega)]
     rw[lt (show i<i+1 by omega),aK];exact b2
    | succ k=>have:=c4 k (by simpa using hk);simp only[bg,puts];rwa[show i+1+k=i+(k+1) from by omega] at this
theorem X0 (hs:SimG C g S H a w) {id:Nat} {fn:Fn} {first captured:Array Operand} {v:SV} {hw:HW} {fp fp':List HLoc}
  (h:(match fn with
  | .func f=>cond (beq first.toList.length 0) ((um id 0 (captured.toList.map (evS S))).bind fun _=>.ret (.fn f id captured.toList.length,bg (.comp id) 0 (captured.toList.map (evS S)))) .fail
  | _=>.fail:Rd (SV×HW)).run H fp=some ((v,hw),fp')):dw C S H a ((makeFunc fn (first.map a.eval) (captured.map a.eval)).run P w) v hw:=by
 split at h
 ·rename_i f;cases hf:beq first.toList.length 0 with
  | false=>rw[hf] at h;exact(ae h).elim
  | true=>
   rw[hf] at h;obtain⟨u,fp1,k1,h⟩:=ah (show((um id 0 (captured.toList.map (evS S))).bind _).run H fp=_ from h);obtain⟨e,_⟩:=af h;cases e;have hfr:=IL k1;obtain⟨cv',c1,c2,c3,c4⟩:=RX (vals:=captured.toList.map a.eval) hs (by simp) (fun k s v h1 h2=>by rw[getElem?_map] at h1 h2;obtain⟨o,ho,rfl⟩:=map_eq_some_iff.1 h1;rw[ho] at h2;simp only[map_some,Option.some.injEq] at h2;subst h2;exact hs.ev o) hfr;have hfirst:first = #[]:=by have:=eq_of_beq_eq_true hf;simpa using this
   refine⟨.func (.func f) #[] (captured.map a.eval),w,_,by simp[makeFunc,hfirst],c1,?_,fun i hi=> ?_⟩
   ·show Value.func (.func f) #[] (captured.map a.eval)=.func (.func f) #[] ((range captured.toList.length).map (cv' id)).toArray;congr 1;apply ext';simp only[toList_map];apply ext_getElem?;intro k;rw[getElem?_map,getElem?_map];by_cases hk:k<captured.toList.length
    ·rw[List.getElem?_range hk];have:=c2 k (a.eval captured.toList[k]) (by rw[getElem?_map,getElem?_eq_getElem hk];rfl);rw[zero_add] at this;rw[getElem?_eq_getElem hk];simp[this]
    ·rw[getElem?_eq_none (by omega),getElem?_eq_none (by simpa using hk)];rfl
   ·have:=c4 i (by simpa using hi);rwa[zero_add] at this
 ·exact(ae h).elim
theorem RI (hs:SimG C g S H a w):∀ {parts:List (Nat×Operand)} {i:Nat} {fp fp':List HLoc} {u:Unit},(Jq.fitsL (parts.map fun p=>(p.1,evS S p.2)) i).run H fp=some (u,fp')→
  (∀ j p,parts[j]? = some p→p.1=i+j)∧∀ p∈parts,(a.eval p.2).cells.toList=[a.eval p.2]
 | [],i,fp,fp',u,_=>⟨fun j p h=>by simp at h,fun p h=>by simp at h⟩
 | (j,o)::r,i,fp,fp',u,h=>by
  simp only[map_cons,Jq.fitsL] at h;cases hb:beq i j with
  | false=>rw[hb] at h;exact(ae h).elim
  | true=>
   rw[hb] at h;obtain⟨_,fp1,k1,h⟩:=ah (show((fits bU (evS S o)).bind _).run H fp=_ from h);obtain⟨q1,q2⟩:=RI hs h;obtain⟨_,f2,f3,_⟩:=qf hs k1 (hs.ev o).1;have:=ja (t:=bU) rfl f3;rw[←f2] at this;refine⟨fun k p hk=> ?_,fun p hp=> ?_⟩
   ·cases k with
    | zero=>simp only[getElem?_cons_zero,Option.some.injEq] at hk;subst hk;exact(eq_of_beq_eq_true hb).symm
    | succ k=>have:=q1 k p (by simpa using hk);omega
   ·rcases mem_cons.1 hp with rfl|hp
    ·exact this
    ·exact q2 p hp
theorem X8 (hs:SimG C g S H a w) {id len:Nat} {t e':TypeId} {e:Ty} {parts:Array (Nat×Operand)} {v:SV} {hw:HW} {fp fp':List HLoc} (hu:P.underlying t=some (.slice e')) (hE:TyOk P tab e' e) (hsz:e.size=1)
  (h:(Jq id (parts.toList.map fun p=>(p.1,evS S p.2)) len).run H fp=some ((v,hw),fp')):dw C S H a ((buildSlice t len (parts.map fun(i,x)=>(i,a.eval x))).run P w) v hw:=by
 unfold Jq at h;cases hc:cond (beq len (parts.toList.map fun p=>(p.1,evS S p.2)).length) (ble len 1000) false with
 | false=>rw[hc] at h;exact(ae h).elim
 | true=>
  rw[hc] at h;obtain⟨c1,c2⟩:=az hc;have hlen:len=parts.toList.length:=by have:=eq_of_beq_eq_true c1;rwa[length_map] at this
  have hle:=le_of_ble_eq_true c2;obtain⟨_,fp1,k1,h⟩:=ah (show((Jq.fitsL _ 0).bind _).run H fp=_ from h);obtain⟨_,fp2,k2,h⟩:=ah h;obtain⟨e1,_⟩:=af h;cases e1;obtain⟨q1,q2⟩:=RI hs k1;have hrun:=GI (P:=P) (a:=a) (w:=w) hu hE hlen (by rw[hsz];omega) q1 (fun p hp=>by rw[q2 p hp,hsz];rfl);have hmm:∀ {l:List (Nat×Operand)},(l.map fun p=>(p.1,evS S p.2)).map (fun p=>p.2)=l.map fun p=>evS S p.2:=fun{l}=>by rw[map_map];rfl
  rw[hmm] at k2 ⊢;have hflat:(parts.toList.map fun p=>(a.eval p.2).cells.toList).flatten=parts.toList.map fun p=>a.eval p.2:=by
   have:∀ {l:List (Nat×Operand)},(∀ p∈l,(a.eval p.2).cells.toList=[a.eval p.2])→(l.map fun p=>(a.eval p.2).cells.toList).flatten=l.map fun p=>a.eval p.2:=by
    intro l;induction l with
    | nil=>intro _;rfl
    | cons p l ih=>intro h;simp only[map_cons,flatten_cons,h p (by simp),ih fun q hq=>h q (by simp[hq])];rfl
   exact this q2
  rw[hflat] at hrun;have hn:=hs.newBlk (parts.toList.map fun p=>a.eval p.2).toArray e' (0,0) len (.row id);have hb:=Blk.new w (parts.toList.map fun p=>a.eval p.2) e' (0,0) (xA.zero _);have hle2:(view g.fl w).le (view (aA g.fl w.heap.size len) (w.alloc (.cells (parts.toList.map fun p=>a.eval p.2).toArray e'))):=by intro k o v hv;obtain⟨q1,q2⟩:=Ip.1 hv;have hk:k<w.heap.size:=block_lt_of_cell? (a:=⟨k,o,none⟩) w q2;exact Ip.2 ⟨by rw[bn _ _ (show k≠w.heap.size by omega)];exact q1,(cell?_of_block (a:=⟨k,o,none⟩) (RowKit.Below.heap_alloc w _ k hk)).trans q2⟩
  obtain⟨cv',m1,m2,m3,m4⟩:=RX (svs:=parts.toList.map fun p=>evS S p.2) (vals:=parts.toList.map fun p=>a.eval p.2) (i:=0) hn (by simp) (fun k s v h1 h2=>by rw[getElem?_map] at h1 h2;obtain⟨p,hp,rfl⟩:=map_eq_some_iff.1 h1;rw[hp] at h2;simp only[map_some,Option.some.injEq] at h2;subst h2;exact⟨SR.change (H:=H) (GAgree.same (g:=g) rfl rfl rfl) hle2 (hs.ev p.2).2 (hs.ev p.2).1,(hs.ev p.2).2⟩) (IL k2);refine⟨_,_,_,hrun,m1,⟨w.heap.size,rfl,fun j hj=> ?_⟩,fun j hj=> ?_⟩
  ·refine Ip.2 ⟨by dsimp only;rw[bJ];exact hj,?_⟩;rw[hb.cell];have hj':j<(parts.toList.map fun p=>a.eval p.2).length:=by rw[length_map];omega
   have:=m2 j _ (getElem?_eq_getElem hj');rw[zero_add] at this;exact(getElem?_eq_getElem hj').trans (congrArg some this.symm)
  ·have:=m4 j (by rw[length_map];omega);rwa[zero_add] at this
theorem Z9 (_hs:SimG C g S H a w) {n:Nat} {s:SV} {v:Value} (h:wE n s=true) (hv:SR g (view g.fl w) s v):∃ cs:List Value,v=.agg cs.toArray∧cs.length=n∧∀ c∈cs,oneC c=true:=by
 cases s<;>first|exact noConfusion h|skip
 ·rename_i t x;simp only[wE] at h;cases ha:t.agg with
  | false=>rw[ha] at h;exact noConfusion h
  | true=>rw[ha] at h;obtain⟨cs,hc,rfl⟩:=hv;exact⟨cs,by simp[mkV,ha],by rw[hc.length];exact eq_of_beq_eq_true h,hc.ones⟩
 ·rename_i t x;simp only[wE] at h;cases ha:t.agg with
  | false=>rw[ha] at h;exact noConfusion h
  | true=>rw[ha] at h;obtain⟨cs,hc,rfl⟩:=hv;exact⟨cs,by simp[mkV,ha],by rw[hc.length];exact eq_of_beq_eq_true h,hc.ones⟩
 ·rename_i d t;obtain⟨_,rfl,h3⟩:=hv;obtain⟨k1,k2⟩:=Ud h3;exact⟨_,rfl,k1.trans (eq_of_beq_eq_true h),k2⟩
theorem Oi {P : Program} {f : FuncId} {fn : Func} (h1 : P.funcs[f]? = some fn) (h2 : fn.body.isNone = false) (h3 : (fn.name == "runtime.NumGoroutine") = false) (args : Array Value) (w : World) : (callFunc f args).run P w = .ok (.enter f args) w := by
 have h3' : fn.name ≠ "runtime.NumGoroutine" := by simpa using h3
 have h2':fn.body≠none:=fun e=>by rw[e] at h2;exact noConfusion h2
 simp[callFunc,h1,h2',h3']
theorem zab (hTab:TabOk P tab) (hs:SimG C g S H a w) {fn:FuncId} {st:Ty} (hst:rG tab.sames fn=some st) {o1 f:Operand} (hsz:wE st.size (evS S o1)=true) {d:Nat} (hfv:a.eval f=.func (.func fn) #[] ((range 0).map (g.cv d)).toArray)
  {dst:Option Tmp} {argTypes:Array TypeId} {type:TypeId} {pos:_} {after:_} {guard:_} :
  jC P C S H a w ⟨dst,.call ⟨.value f,#[o1],argTypes⟩,type,pos,after,guard⟩ (evS S o1) []:=by
 intro K Q hk;obtain⟨hv,rv⟩:=hs.ev o1;obtain⟨cs,hval,hl,hone⟩:=Z9 hs hsz hv;obtain⟨⟨fn',c1,c2,c3⟩,hsame⟩:=hTab.sames hst;have hex:(execOp a.eval ⟨dst,.call ⟨.value f,#[o1],argTypes⟩,type,pos,after,guard⟩).run P w=.ok (.enter fn #[a.eval o1]) w:=by have:=Oi (P:=P) (w:=w) (f:=fn) c1 c2 c3 #[a.eval o1];rw[←this];simp only[execOp,resolve,hfv,Deferred.ofValue,run_bind,run_pure,andThen_ok,invoke];congr 1;congr 1;apply ext';simp
 unfold Oper.wp;rw[hex,hval];refine Calls.mono (hsame hl hone) ?_;rintro e w' ⟨rfl,hext⟩;have hb:∀ b,b<w.heap.size→w'.heap[b]? = w.heap[b]?:=fun b h=>hext.block b h (fun h=>h);have hlt:∀ b,g.own b≠none→b<w.heap.size:=fun b h=>(hs.own b h).1;have hle:(view g.fl w).le (view g.fl w'):=by intro k o v hv;obtain⟨q1,q2⟩:=Ip.1 hv;exact Ip.2 ⟨q1,(cell?_of_block (a:=⟨k,o,none⟩) (hb k (block_lt_of_cell? (a:=⟨k,o,none⟩) w q2))).trans q2⟩
 have hs':SimG C g S H a w':=hs.grow (GAgree.refl H g) hle (fun n t hn ho=>⟨hb _ (hlt _ (by rw[ho];simp)),ho,rfl⟩) (fun r b _ ho=>⟨hb _ (hlt _ (by rw[ho];simp)),ho,rfl⟩)
  (fun b h=>⟨Nat.lt_of_lt_of_le (hs.own b h).1 hext.size,(hs.own b h).2⟩) hs.old
  ⟨hext.os.trans hs.ext.os,hext.tape.trans hs.ext.tape,hext.output.trans hs.ext.output,le_trans hs.ext.size hext.size,fun b h1 h2=>(hb b (Nat.lt_of_lt_of_le h1 hs.ext.size)).trans (hs.ext.block b h1 h2)⟩
 have:=hk (a.eval o1) w' g hs' (SR.change (GAgree.refl H g) hle rv hv) rv;rw[hval] at this;exact this
theorem zb6 (hTab:TabOk P tab) {Γ:FuncId→List Sig} (hΓ:uu P tab Γ) (hs:SimG C g S H a w) {id:Nat} {o:Oper} {v:SV} {hw:HW} {fp fp':List HLoc}
  (h:(aop tab Γ id (evS S) o.op).run H fp=some ((v,hw),fp')):jC P C S H a w o v hw:=by
 obtain⟨dst,op,type,pos,after,guard⟩:=o;simp only at h;unfold aop at h;split at h
 ·rename_i x;obtain⟨e,_⟩:=af h;cases e;exact Done.op (Done.pure hs (by simp[execOp]) (hs.ev x).1 (hs.ev x).2)
 ·rename_i x;obtain⟨e,_⟩:=af h;cases e;exact Done.op (Done.pure hs (by simp[execOp]) (hs.ev x).1 (hs.ev x).2)
 ·rename_i c x y;split at h
  ·rename_i b hb;have hc:=pK (hb▸(hs.ev c).1);cases b with
   | true=>obtain⟨e,_⟩:=af (show(Rd.ret (evS S x,[])).run H fp=some ((v,hw),fp') from h);cases e;exact Done.op (Done.pure hs (by simp[execOp,hc,asBool]) (hs.ev x).1 (hs.ev x).2)
   | false=>obtain⟨e,_⟩:=af (show(Rd.ret (evS S y,[])).run H fp=some ((v,hw),fp') from h);cases e;exact Done.op (Done.pure hs (by simp[execOp,hc,asBool]) (hs.ev y).1 (hs.ev y).2)
  ·exact(ae h).elim
 ·split at h
  ·rename_i p hA;exact Done.op (dw.lift (YR hTab hs hA h))
  ·exact Done.op (dw.lift (ZO hTab hs h))
 ·rename_i t x;exact Done.op (dw.lift (zb1 hTab hs h (hs.ev x).1 (hs.ev x).2))
 ·exact Done.op (dw.lift (YL hTab hs h))
 ·exact Done.op (dw.lift (XQ hTab hs (fun hu hE hsz h=>X8 hs hu hE hsz h) h))
 ·rename_i t x;split at h
  ·rename_i ty ht;exact Done.op (dw.lift (zay hTab hs ht h (hs.ev x).1))
  ·exact(ae h).elim
 ·rename_i t x y;split at h
  ·rename_i ty ht;obtain⟨ws,fp1,k1,h⟩:=ah h;obtain⟨e,_⟩:=af h;cases e;exact Done.op (wZ.lift (YY hTab hs ht k1 (hs.ev x).1 (hs.ev y).1 (hs.ev y).2))
  ·exact(ae h).elim
 ·rename_i x;obtain⟨⟨n1,n2⟩,rfl,ad,had⟩:=XT hs h (hs.ev x).1 (hs.ev x).2;exact Done.op (Done.pure hs (by simp[execOp,had]) n1 n2)
 ·rename_i op xt x y z;exact Done.op (dw.lift (ZI hTab hs h (hs.ev x).1 (hs.ev y).1 (hs.ev x).2 (hs.ev y).2 x y))
 ·rename_i op t x;exact Done.op (dw.lift (ZT hs h (hs.ev x).1))
 ·rename_i s d x;exact Done.op (dw.lift (zaI hTab hs h (hs.ev x).1))
 ·rename_i t x lo hi mx;exact Done.op (dw.lift (Y0 hTab hs h (hs.ev x).1))
 ·rename_i s x f;exact Done.op (dw.lift (XX hTab hs h (hs.ev x).1 (hs.ev x).2))
 ·rename_i s x f;refine Done.op (dw.lift (Zy (FF:=MB id f) hTab hs h (hs.ev x).1 (fun{d t ty fp} ht he h=> ?_)));unfold MB at h;split at h
  case h_2=>exact(ae h).elim
  rename_i n hn;split at h
  case h_2=>exact(ae h).elim
  rename_i ft hft;exact Yg hTab hs ht hn hft h (he▸(hs.ev x).1)
 ·rename_i t x i;split at h
  ·rename_i p hA;exact Done.op (dw.lift (YC hTab hs hA h (hs.ev x).1 (hs.ev i).1 (hs.ev x).2))
  ·exact Done.op (dw.lift (XV hTab hs h (hs.ev x).1 (hs.ev i).1 (hs.ev x).2))
 ·rename_i t x i;split at h
  ·rename_i p hA;exact Done.op (dw.lift (YB hTab hs hA h (hs.ev x).1 (hs.ev i).1))
  ·exact Done.op (dw.lift (Zt hTab hs h (hs.ev x).1 (hs.ev i).1))
 ·rename_i x i;exact Done.op (dw.lift (Yh hs h (hs.ev x).1))
 ·rename_i t l c;exact Done.op (dw.lift (XU hTab hs h (hs.ev l).1 (hs.ev c).1))
 ·rename_i fn first captured
  exact Done.op (dw.lift (X0 hs h))
 ·rename_i c;obtain⟨callee,args,argTypes⟩:=c;simp only at h;split at h
  ·rename_i b;refine Done.op ?_;simp only[execOp,resolve,run_bind,run_pure,andThen_ok,invoke];exact ZF (P:=P) hTab hs h
  ·rename_i f;split at h
   ·rename_i fn d n hf;unfold Ue at h;split at h
    ·rename_i st hst;split at h
     case h_2=>exact(ae h).elim
     rename_i sv hargs;cases hcc:cond (beq n 0) (wE st.size sv) false with
     | false=>rw[hcc] at h;exact(ae h).elim
     | true=>
      rw[hcc] at h;obtain⟨e,_⟩:=af h;cases e;obtain⟨c1,c2⟩:=az hcc;obtain rfl:=eq_of_beq_eq_true c1;have hfv:=(hs.ev f).1;rw[hf] at hfv;have hfv:a.eval f=.func (.func fn) #[] ((range 0).map (g.cv d)).toArray:=hfv;obtain⟨o1,ho,rfl⟩:∃ o1,args = #[o1]∧evS S o1=v:=by
       cases hl:args.toList with
       | nil=>rw[hl] at hargs;simp at hargs
       | cons o r=>
        rw[hl] at hargs;cases r with
        | cons _ _=>simp at hargs
        | nil=>simp only[map_cons,map_nil,List.cons.injEq,and_true] at hargs;exact⟨o,by apply ext';simp[hl],hargs⟩
      subst ho;exact zab hTab hs hst c2 hfv
    obtain⟨cs,fp1,k1,h⟩:=ah h;have hcs:=Jl k1;have hfv:=(hs.ev f).1;rw[hf] at hfv;have hfv:a.eval f=.func (.func fn) #[] ((range n).map (g.cv d)).toArray:=hfv;intro K Q hk;have hcall:=hΓ (o:=⟨dst,.call ⟨.value f,args,argTypes⟩,type,pos,after,guard⟩) (vs:=args.toList.map a.eval++(range n).map (g.cv d)) hs (by rw[hcs];simp) (fun i s x h1 h2=>by
     by_cases hi:i<args.toList.length
     ·rw[getElem?_append_left (by simpa using hi),getElem?_map] at h1 h2;obtain⟨y,hy,rfl⟩:=map_eq_some_iff.1 h1;rw[hy] at h2;simp only[map_some,Option.some.injEq] at h2;subst h2;exact hs.ev y
     ·rw[getElem?_append_right (by simp at hi ⊢;omega)] at h1 h2;simp only[length_map] at h1 h2;rw[hcs,getElem?_map] at h1;rw[getElem?_map] at h2;obtain⟨k,hk1,rfl⟩:=map_eq_some_iff.1 h1;have hk2:(range n)[i-args.toList.length]? = some k:=by rw[List.range_eq_range'];exact hk1
      rw[hk2] at h2;simp only[map_some,Option.some.injEq] at h2;subst h2;exact⟨hs.comps d k,hs.refC d k⟩) h K Q hk
    obtain⟨c1,c2⟩:=hcall;unfold Oper.wp;have hex:(execOp a.eval ⟨dst,.call ⟨.value f,args,argTypes⟩,type,pos,after,guard⟩).run P w=.ok (.enter fn (args.toList.map a.eval++(range n).map (g.cv d)).toArray) w:=by rw[←c1];simp only[execOp,resolve,hfv,Deferred.ofValue,run_bind,run_pure,andThen_ok,invoke];congr 1;congr 1;apply ext';simp
    rw[hex];exact c2
   ·exact(ae h).elim
  ·exact(ae h).elim
 ·exact(ae h).elim
end
end Go.Sx
