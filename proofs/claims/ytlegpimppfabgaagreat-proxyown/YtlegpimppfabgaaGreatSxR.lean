/-
 Sx: a symbolic executor for the model,proved sound,part 3 of 4: an AI agent's own work.
-/
import Derived.Test.YtlegpimppfabgaaGreatSxQ
import Derived.Deep.LoopGhost
open Bool (noConfusion)
open Int (toNat)
open List (getElem?_cons_zero getElem?_map head? isEmpty length map_cons mem_append mem_append_left mem_append_right mem_cons mem_cons_of_mem mem_cons_self mem_map mem_singleton nodup_cons not_mem_nil range')
open Nat (add_zero beq eq_of_beq_eq_true le_refl one_mul zero_add)
open Option (bind_eq_some_iff bind_some map map_eq_some_iff map_some)
open Sum (inl)
namespace Go.Sx
def jG (ops:List Oper) (S:Nat→SV) (o:Oper):Option Bool:=
 match o.guard with
 | none=>some true
 | some (j,want)=>match (ops[j]?).bind (·.dst) with
  | none=>none
  | some g=>match S g with
   | .pv .bool b=>some (b == want)
   | .und=>some false
   | _=>none
structure Res where
 S:Nat→SV
 H:HLoc→SV
 rd:List HLoc
 wr:List HLoc
 sh:List HLoc
 kp:List HLoc
def stp (tab:Tab) (Γ:FuncId→List Sig) (rid:Nat) (ops:List Oper) (i:Nat) (o:Oper) (S:Nat→SV) (H:HLoc→SV):Option Res:=
 match jG ops S o with
 | none=>none
 | some false=>some ⟨fP S o.dst .und,H,[],[],[],[]⟩
 | some true=>((aop tab Γ ((rid*1000+i+1)*1000) (evS S) o.op).run H []).map fun p=>⟨fP S o.dst p.1.1,puts H p.1.2,p.2,au p.1.2,nN (evS S) o.op p.1.1,o6 (evS S) o.op⟩
theorem force_eq {R:Type}:∀ (hw:HW) (k:HW→Option R),force hw k=k hw
 | [],k=>rfl
 | (l,v)::r,k=>by rw[force,force_eq r]
theorem BX (S:Nat→SV) {n:Nat} {v:SV} (h:S n=v):jL S n v=S:=by
 funext m;by_cases e:m=n
 ·subst e;rw[pM];exact h.symm
 ·rw[kL _ _ e]
theorem zby {n:Nat}:∀ {l:List Nat},lq n l=true↔n∈l
 | []=>by simp[lq]
 | m::r=>by
  rw[lq];cases hb:beq n m with
  | true=>simp[eq_of_beq_eq_true hb]
  | false=>
   have hne:n≠m:=fun e=>by subst e;simp at hb
   simp[hne,zby (l:=r)]
theorem Rj {n:HLoc}:∀ {l:List HLoc},dA n l=true↔n∈l
 | []=>by simp[dA]
 | m::r=>by
  rw[dA];cases hb:n.beq m with
  | true=>simp[HLoc.beq_eq hb]
  | false=>
   have hne:n≠m:=fun e=>by subst e;simp[HLoc.beq_refl] at hb
   simp[hne,Rj (l:=r)]
theorem cZ:∀ {hw:HW} {H:HLoc→SV} {l:HLoc},l ∉ au hw→puts H hw l=H l
 | [],_,_,_=>rfl
 | (m,v)::r,H,l,h=>by simp only[au,mem_cons,not_or] at h;rw[puts,cZ h.2,ay _ _ h.1]
theorem Ru {l:HLoc}:∀ {hw:HW} {H:HLoc→SV},jd l (H l) hw=puts H hw l
 | [],_=>rfl
 | (m,u)::r,H=>by have:=Ru (l:=l) (hw:=r) (H:=ak H m u);simp only[jd,puts];rw[←this];rfl
theorem Qy {l:HLoc}:∀ {hw:HW} {v v':SV},l∈au hw→jd l v hw=jd l v' hw
 | (m,u)::r,v,v',h=>by
  simp only[jd];cases hb:l.beq m with
  | true=>rfl
  | false=>
   simp only[au,mem_cons] at h;rcases h with rfl|h
   ·rw[HLoc.beq_refl] at hb;exact noConfusion hb
   ·exact Qy h
theorem O9 {u v:SV} (h:vW u v=true):v=u:=by
 cases u<;>cases v<;>simp only[vW] at h<;>first|exact noConfusion h|skip
 ·obtain⟨h1,h2⟩:=az h;rw[eq_of_beq_eq_true h1,eq_of_beq_eq_true h2]
 ·rw[Ty.beq_eq h]
theorem IM {H:HLoc→SV} {lk:List HLoc} {all:HW}:∀ {hw:HW},rQ H lk all hw=true→∀ l∈lk,l∈au hw→vW (H l) (jd l .bot all)=true
 | [],_,_,_,h=>by simp[au] at h
 | (m,v)::r,h,l,hl,hm=>by
  simp only[rQ] at h;simp only[au,mem_cons] at hm;cases hk:dA m lk with
  | true=>
   rw[hk] at h;obtain⟨h1,h2⟩:=az h;rcases hm with rfl|hm
   ·exact h1
   ·exact IM h2 l hl hm
  | false=>
   rw[hk] at h;rcases hm with rfl|hm
   ·rw[Rj.2 hl] at hk;exact noConfusion hk
   ·exact IM h l hl hm
theorem zbP {H:HLoc→SV} {lk:List HLoc} {hw:HW} (h:rQ H lk hw hw=true):∀ l∈lk,puts H hw l=H l:=by
 intro l hl;by_cases hm:l∈au hw
 ·rw[←Ru,Qy hm (v':=.bot)];exact O9 (IM h l hl hm)
 ·exact cZ hm
theorem RD {lk:List HLoc}:∀ {hw:HW},zU lk hw=true→∀ l∈lk,l ∉ au hw
 | [],_,l,_=>by simp[au]
 | (m,v)::r,h,l,hl=>by
  simp only[zU] at h;cases hb:dA m lk with
  | true=>rw[hb] at h;exact noConfusion h
  | false=>rw[hb] at h;simp only[au,mem_cons,not_or];refine⟨fun e=> ?_,RD h l hl⟩;subst e;rw[Rj.2 hl] at hb;exact noConfusion hb
theorem RF {lk:List Nat} {d:Option Tmp} (h:rU lk d=true) (S:Nat→SV) (v:SV):∀ n∈lk,fP S d v n=S n:=by
 intro n hn;cases d with
 | none=>rfl
 | some d=>
  simp only[rU] at h;cases hb:lq d lk with
  | true=>rw[hb] at h;exact noConfusion h
  | false=>refine kL _ _ fun e=> ?_;subst e;rw[zby.2 hn] at hb;exact noConfusion hb
section
variable {tab:Tab} {Γ:FuncId→List Sig} {rid:Nat} {ops:List Oper}
theorem YX {R:Type} {i:Nat} {o:Oper} {s:St} {tr:Trace} {k:St→Trace→Option R} {r:R} (h:Kz tab Γ rid ops i o s tr k=some r) :
  ∃ q tr',stp tab Γ rid ops i o s.S s.H=some q∧(∀ n∈s.lkS,q.S n=s.S n)∧(∀ l∈s.lkH,q.H l=s.H l)∧k { s with S:=q.S,H:=q.H } tr'=some r∧
   (tr'=⟨i,q.rd,q.wr,q.sh,q.kp⟩::tr∨(tr'=tr∧q.rd=[]∧q.wr=[])):=by
 have go:∀ S0,S0=s.S→jG ops s.S o=some true→((aop tab Γ ((rid*1000+i+1)*1000) (evS S0) o.op).runC s.H [] fun p fp=>
   force p.2 fun hw=>cond (rQ s.H s.lkH hw hw) (cond (rU s.lkS o.dst) (k { s with S:=fP S0 o.dst p.1,H:=puts s.H hw } (⟨i,fp,au hw,nN (evS S0) o.op p.1,o6 (evS S0) o.op⟩::tr)) none) none)=some r→
   ∃ q tr',stp tab Γ rid ops i o s.S s.H=some q∧(∀ n∈s.lkS,q.S n=s.S n)∧(∀ l∈s.lkH,q.H l=s.H l)∧k { s with S:=q.S,H:=q.H } tr'=some r∧
   (tr'=⟨i,q.rd,q.wr,q.sh,q.kp⟩::tr∨(tr'=tr∧q.rd=[]∧q.wr=[])):=by
  rintro S0 rfl hg h;rw[Rd.runC_eq] at h;obtain⟨⟨⟨v,hw⟩,fp⟩,h1,h2⟩:=bind_eq_some_iff.1 h;simp only[force_eq] at h2;cases hf:rQ s.H s.lkH hw hw with
  | false=>rw[hf] at h2;simp at h2
  | true=>
   rw[hf] at h2;cases hd:rU s.lkS o.dst with
   | false=>rw[hd] at h2;simp at h2
   | true=>rw[hd] at h2;refine⟨⟨fP s.S o.dst v,puts s.H hw,fp,au hw,nN (evS s.S) o.op v,o6 (evS s.S) o.op⟩,_,?_,RF hd _ _,fun l hl=>zbP hf l hl,h2,.inl rfl⟩;simp only[stp,hg,h1,map_some]
 have pass:∀ S0,S0=s.S→jG ops s.S o=some false→(cond (rU s.lkS o.dst) (k { s with S:=fP S0 o.dst .und } tr) none)=some r→
   ∃ q tr',stp tab Γ rid ops i o s.S s.H=some q∧(∀ n∈s.lkS,q.S n=s.S n)∧(∀ l∈s.lkH,q.H l=s.H l)∧k { s with S:=q.S,H:=q.H } tr'=some r∧
   (tr'=⟨i,q.rd,q.wr,q.sh,q.kp⟩::tr∨(tr'=tr∧q.rd=[]∧q.wr=[])):=by
  rintro S0 rfl hg h;cases hd:rU s.lkS o.dst with
  | false=>rw[hd] at h;simp at h
  | true=>rw[hd] at h;exact⟨⟨fP s.S o.dst .und,s.H,[],[],[],[]⟩,tr,by simp only[stp,hg],RF hd _ _,fun _ _=>rfl,h,.inr ⟨rfl,rfl,rfl⟩⟩
 unfold Kz at h;simp only at h;split at h
 ·rename_i hgd;exact go s.S rfl (by simp[jG,hgd]) h
 ·rename_i j want hgd;split at h
  ·simp at h
  ·rename_i g hj;split at h
   ·rename_i b hb;cases b with
    | true=>
     cases want with
     | true=>exact go _ (BX _ hb) (by simp[jG,hgd,hj,hb]) h
     | false=>exact pass _ (BX _ hb) (by simp[jG,hgd,hj,hb]) h
    | false=>
     cases want with
     | true=>exact pass _ (BX _ hb) (by simp[jG,hgd,hj,hb]) h
     | false=>exact go _ (BX _ hb) (by simp[jG,hgd,hj,hb]) h
   ·rename_i hb;exact pass _ rfl (by simp[jG,hgd,hj,hb]) h
   ·simp at h
structure En where
 i:Nat
 o:Oper
 rd:List HLoc
 wr:List HLoc
 sh:List HLoc
 kp:List HLoc
def RunT (tab:Tab) (Γ:FuncId→List Sig) (rid:Nat) (ops:List Oper):List En→(Nat→SV)→(HLoc→SV)→(Nat→SV)→(HLoc→SV)→Prop
 | [],S,H,S',H'=>S'=S∧H'=H
 | e::r,S,H,S',H'=>∃ S1 H1,stp tab Γ rid ops e.i e.o S H=some ⟨S1,H1,e.rd,e.wr,e.sh,e.kp⟩∧RunT tab Γ rid ops r S1 H1 S' H'
def xQ:List En→Nat→List Oper→Prop
 | [],_,[]=>True
 | e::r,i,o::os=>e.i=i∧e.o=o∧xQ r (i+1) os
 | _,_,_=>False
def En.st (e:En):Step:=⟨e.i,e.rd,e.wr,e.sh,e.kp⟩
structure Apart (x y:Step):Prop where
 wr:∀ l∈x.wr,l∈y.rd→l∈x.kp∧l∈y.sh
 ww:∀ l∈x.wr,l ∉ y.wr
 rw:∀ l∈y.wr,l∈x.rd→l∈y.kp∧l∈x.sh
theorem JA {kp rd sh:List HLoc}:∀ {wr:List HLoc},xq kp rd sh wr=true→∀ l∈wr,l∈rd→l∈kp∧l∈sh
 | [],_,l,hl,_=>by simp at hl
 | m::r,h,l,hl,hr=>by
  simp only[xq] at h;rcases mem_cons.1 hl with rfl|hl
  ·rw[Rj.2 hr] at h;obtain⟨h1,h2⟩:=az h;exact⟨Rj.1 h1,Rj.1 (az h2).1⟩
  ·refine JA ?_ l hl hr;cases hb:dA m rd with
   | false=>rw[hb] at h;exact h
   | true=>rw[hb] at h;exact(az (az h).2).2
theorem qX:∀ {a b:List HLoc},jJ a b=true→∀ l∈a,l ∉ b
 | [],_,_,l,hl=>by simp at hl
 | m::r,b,h,l,hl=>by
  simp only[jJ] at h;cases hb:dA m b with
  | true=>rw[hb] at h;exact noConfusion h
  | false=>
   rw[hb] at h;rcases mem_cons.1 hl with rfl|hl
   ·intro hm;rw[Rj.2 hm] at hb;exact noConfusion hb
   ·exact qX h l hl
theorem zaS {x y:Step} (h:Ko x y=true):Apart x y:=by
 unfold Ko at h;split at h
 ·rename_i h1 h2;exact⟨by simp[h1],by simp[h1],by simp[h2]⟩
 ·obtain⟨h1,h2⟩:=az h;obtain⟨h2,h3⟩:=az h2;exact⟨JA h1,qX h2,JA h3⟩
theorem QR {x y:Step} (h:(x.rd=[]∧x.wr=[])∨(y.rd=[]∧y.wr=[])):Apart x y:=by
 rcases h with⟨h1,h2⟩|⟨h1,h2⟩
 ·exact⟨by simp[h2],by simp[h2],by simp[h1]⟩
 ·exact⟨by simp[h1],by simp[h2],by simp[h2]⟩
def Ok2 (bf:List Nat) (x y:Step):Prop:=(bf.getD y.i 0).testBit x.i=true∨Apart x y
theorem OZ {bf:List Nat} {y:Step}:∀ {tr:Trace},Dn bf y tr=true→∀ x∈tr,Ok2 bf x y
 | [],_,x,hx=>by simp at hx
 | t::r,h,x,hx=>by
  simp only[Dn] at h;obtain⟨h1,h2⟩:=az h;rcases mem_cons.1 hx with rfl|hx
  ·cases hb:(bf.getD y.i 0).testBit x.i with
   | true=>exact .inl hb
   | false=>rw[hb] at h1;exact .inr (zaS h1)
  ·exact OZ h2 x hx
theorem Oh {bf:List Nat}:∀ {ne tr:Trace},uj bf (ne++tr)=true→uj bf tr=true
 | [],_,h=>h
 | y::r,tr,h=>by simp only[List.cons_append,uj] at h;exact Oh (az h).2
theorem OA {R:Type}:∀ {os:List Oper} {i:Nat} {s:St} {tr:Trace} {k:St→Trace→Option R} {r:R},y9 tab Γ rid ops os i s tr k=some r→
  ∃ es S' H' tr',RunT tab Γ rid ops es s.S s.H S' H'∧xQ es i os∧(∀ n∈s.lkS,S' n=s.S n)∧(∀ l∈s.lkH,H' l=s.H l)∧k { s with S:=S',H:=H' } tr'=some r∧
   (∃ ne,tr'=ne++tr)∧∀ bf,uj bf tr'=true→es.Pairwise (fun x y=>Ok2 bf x.st y.st)∧∀ e∈es,∀ t∈tr,Ok2 bf t e.st:=by
 intro os;induction os with
 | nil=>intro i s tr k r h;exact⟨[],s.S,s.H,tr,⟨rfl,rfl⟩,trivial,fun _ _=>rfl,fun _ _=>rfl,h,⟨[],rfl⟩,fun bf _=>⟨List.Pairwise.nil,by simp⟩⟩
 | cons o os ih=>
  intro i s tr k r h;simp only[y9] at h;obtain⟨q,tr1,h1,h2,h3,h4,h5⟩:=YX h;obtain⟨es,S',H',tr',k1,k2,k3,k4,k5,⟨ne,k6⟩,k7⟩:=ih h4;refine⟨⟨i,o,q.rd,q.wr,q.sh,q.kp⟩::es,S',H',tr',⟨q.S,q.H,h1,k1⟩,⟨rfl,rfl,k2⟩,fun n hn=>(k3 n hn).trans (h2 n hn),fun l hl=>(k4 l hl).trans (h3 l hl),k5,?_⟩;rcases h5 with rfl|⟨rfl,e1,e2⟩
  ·refine⟨⟨ne++[⟨i,q.rd,q.wr,q.sh,q.kp⟩],by rw[k6];simp⟩,fun bf hbf=> ?_⟩;obtain⟨m1,m2⟩:=k7 bf hbf;rw[k6] at hbf;have ht:=Oh hbf;simp only[uj] at ht;refine⟨List.Pairwise.cons (fun y hy=>m2 y hy _ (by simp[En.st])) m1,fun e he t htr=> ?_⟩;rcases mem_cons.1 he with rfl|he
   ·exact OZ (az ht).1 t htr
   ·exact m2 e he t (by simp[htr])
  ·refine⟨⟨ne,k6⟩,fun bf hbf=> ?_⟩;obtain⟨m1,m2⟩:=k7 bf hbf;refine⟨List.Pairwise.cons (fun y hy=>.inr (QR (.inl ⟨e1,e2⟩))) m1,fun e he t htr=> ?_⟩;rcases mem_cons.1 he with rfl|he
   ·exact .inr (QR (.inr ⟨e1,e2⟩))
   ·exact m2 e he t htr
theorem yJ {α:Type} {H:HLoc→SV}:∀ {m:Rd α} {fp fp':List HLoc} {x:α},m.run H fp=some (x,fp')→∀ l∈fp,l∈fp':=by
 intro m;induction m with
 | ret a=>intro fp fp' x h l hl;obtain⟨_,e⟩:=af h;rw[e];exact hl
 | fail=>intro fp fp' x h;exact(ae h).elim
 | get l k ih=>intro fp fp' x h l' hl;exact ih _ h l' (mem_cons_of_mem _ hl)
 | br b x y hx hy=>
  intro fp fp' z h l hl;cases b with
  | true=>exact hx h l hl
  | false=>exact hy h l hl
 | opt o k ih=>intro fp fp' x h l hl;obtain⟨b,rfl,h⟩:=bP h;exact ih _ h l hl
theorem zac {α:Type} {H H':HLoc→SV}:∀ {m:Rd α} {fp fp':List HLoc} {x:α},m.run H fp=some (x,fp')→(∀ l∈fp',H' l=H l)→m.run H' fp=some (x,fp'):=by
 intro m;induction m with
 | ret a=>intro fp fp' x h _;exact h
 | fail=>intro fp fp' x h;exact(ae h).elim
 | get l k ih=>intro fp fp' x h ha;simp only[Rd.run] at h ⊢;rw[ha l (yJ h l (by simp))];exact ih _ h ha
 | br b x y hx hy=>
  intro fp fp' z h ha;cases b with
  | true=>exact hx h ha
  | false=>exact hy h ha
 | opt o k ih=>intro fp fp' x h ha;obtain⟨b,rfl,h⟩:=bP h;exact ih _ h ha
def VT (r:Nat) (w:SV):Rd (SV×HW):=match w with
 | .row _ e l=>.opt (head? l) fun _=>.ret (.oel r 0 0 e.size,[])
 | .deep e l _ _=>.opt (head? l) fun _=>.ret (.oel r 0 0 e.size,[])
 | _=>.fail
theorem zbt {r:Nat} {w:SV} {H:HLoc→SV} {fp:List HLoc}:(VT r w).run H fp=match shp w with|some (e,false)=>some ((.oel r 0 0 e.size,[]),fp)|_=>none:=by
 cases w<;>try rfl
 case row p e l=>cases l<;>rfl
 case deep e l n h=>cases l<;>rfl
def EK (e:Ty) (w:SV):Rd Unit:=match w with
 | .row _ e' _=>cond (e'.beq e) (.ret ()) .fail
 | .deep e' _ _ _=>cond (e'.beq e) (.ret ()) .fail
 | _=>.fail
theorem RJ {e:Ty} {w:SV} {H:HLoc→SV} {fp:List HLoc}:(EK e w).run H fp=match shp w with|some (e',_)=>cond (e'.beq e) (some ((),fp)) none|_=>none:=by
 cases w<;>try rfl
 case row p e' l=>simp only[EK,shp];cases e'.beq e<;>rfl
 case deep e' l n h=>simp only[EK,shp];cases e'.beq e<;>rfl
theorem zbR {H:HLoc→SV} {t:Ty} {r:Nat} {fp fp':List HLoc} (h:(fits t (.own r)).run H fp=some ((),fp')):fp'=.row r::fp∧∀ H':HLoc→SV,shp (H' (.row r))=shp (H (.row r))→(fits t (.own r)).run H' fp=some ((),fp'):=by
 cases t with
 | ptr e=>
  have q:∀ K:HLoc→SV,(fits (.ptr e) (.own r)).run K fp=(EK e (K (.row r))).run K (.row r::fp):=fun K=>rfl;rw[q,RJ] at h;refine⟨?_,fun H' hs=>by rw[q,RJ,hs];exact h⟩;cases hs:shp (H (.row r)) with
  | none=>rw[hs] at h;simp at h
  | some z=>
   obtain⟨e',b⟩:=z;rw[hs] at h;simp only at h;cases hb:e'.beq e with
   | false=>rw[hb] at h;simp at h
   | true=>rw[hb] at h;simp at h;exact h.symm
 | _=>exact(ae h).elim
theorem ldF {H H':HLoc→SV} {l:HLoc} {t:Ty} {fp fp':List HLoc} {r:Nat} {hw:HW} (h:(Rd.get l fun v=>(fits t v).bind fun _=>Rd.ret (v,([]:HW))).run H fp=some ((.own r,hw),fp')) (ha:∀ l∈fp',H' l=H l∨(l∈[HLoc.row r]∧shp (H' l)=shp (H l))) (hl:l≠.row r) :
  (Rd.get l fun v=>(fits t v).bind fun _=>Rd.ret (v,([]:HW))).run H' fp=some ((.own r,hw),fp'):=by
 simp only[Rd.run] at h ⊢;obtain⟨_,fp1,h1,h2⟩:=ah h;obtain⟨h3,h4⟩:=af h2;have hv:H l=.own r:=(Prod.mk.inj h3).1.symm;rw[hv] at h1;obtain⟨e1,k⟩:=zbR h1;have hm:HLoc.row r∈fp':=by rw[h4,e1];simp
 have hl':H' l=H l:=(ha l (by rw[h4,e1];simp)).elim id fun q=>absurd (by simpa using q.1) hl;rw[hl',hv,yO,k H' ((ha _ hm).elim (fun e=>by rw[e]) fun q=>q.2)];simp only[bind_some,Rd.run];rw[h4,(Prod.mk.inj h3).2]
theorem zbD {H H':HLoc→SV} {id:Nat} {u:Ty} {a:SV} {fp fp':List HLoc} {r:Nat} {hw:HW} (h:(oZ id u a).run H fp=some ((.own r,hw),fp')) (ha:∀ l∈fp',H' l=H l∨(l∈[HLoc.row r]∧shp (H' l)=shp (H l))) :
  (oZ id u a).run H' fp=some ((.own r,hw),fp'):=by
 have keep:∀ l∈fp',l≠.row r→H' l=H l:=fun l hl hn=>(ha l hl).elim (fun e=>e) fun q=>absurd (by simpa using q.1) hn;have no:∀ {x:SV} {hw':HW} {fp:List HLoc},(Rd.ret (x,hw')).run H fp=some ((SV.own r,hw),fp')→x≠.own r→False:=fun e k=>k (Prod.mk.inj (af e).1).1.symm;have at':∀ {fp0:List HLoc} {s off:Nat},(jB u (.adr s off)).run H fp0=some ((.own r,hw),fp')→(jB u (.adr s off)).run H' fp0=some ((.own r,hw),fp'):=by
  intro fp0 s off h;simp only[jB,Rd.run] at h ⊢;rw[keep (.site s) (yJ h _ (by simp)) (by simp)];cases hS:H (.site s)<;>simp only[hS] at h ⊢ <;> try (exact(ae h).elim)
  case obj t=>
   cases hg:t.agg with
   | true=>
    rw[hg] at h;simp only[cond_true] at h ⊢;cases hb:cond (beq off 0) (t.beq u) false with
    | true=>rw[hb] at h;obtain⟨_,_,_,h⟩:=ah h;exact(no h (by simp)).elim
    | false=>
     rw[hb] at h;simp only[cond_false] at h ⊢;split at h
     ·rename_i i o ft _;cases hc:cond (beq o 0) (ft.beq u) false with
      | true=>rw[hc] at h;simp only[cond_true] at h ⊢;exact ldF h ha (by simp)
      | false=>rw[hc] at h;simp only[cond_false,Rd.run] at h;obtain⟨_,_,_,h⟩:=ah h;obtain⟨_,_,_,h⟩:=ah h;exact(no h (by simp)).elim
     ·exact(ae h).elim
   | false=>
    rw[hg] at h;simp only[cond_false] at h ⊢;cases hb:cond (beq off 0) (t.beq u) false with
    | true=>rw[hb] at h;simp only[cond_true] at h ⊢;exact ldF h ha (by simp)
    | false=>rw[hb] at h;exact(ae h).elim
 have lv':∀ {fp0:List HLoc} {s off:Nat},(o5 id u (.adr s off)).run H fp0=some ((.own r,hw),fp')→(o5 id u (.adr s off)).run H' fp0=some ((.own r,hw),fp'):=by
  intro fp0 s off h;simp only[o5,qh,Rd.run] at h ⊢;rw[keep (.site s) (yJ h _ (by simp)) (by simp)];cases hS:H (.site s)<;>simp only[hS] at h ⊢ <;> try (exact at' h)
  case obj t=>
   cases hb:cond t.agg (cond (beq off 0) (t.beq u) false) false with
   | false=>rw[hb] at h;exact at' h
   | true=>
    rw[hb] at h;exfalso;obtain⟨b,fp1,_,h⟩:=ah h;obtain⟨h1,h2⟩:=az hb;obtain⟨h2,h3⟩:=az h2;cases b with
    | true=>obtain⟨_,_,_,h⟩:=ah h;exact no h (by simp)
    | false=>simp only[cond_false,jB,Rd.run,hS,h1,h2,h3,cond_true] at h;obtain⟨_,_,_,h⟩:=ah h;exact no h (by simp)
 cases a with
 | adr s off=>
  simp only[oZ,Rd.run] at h ⊢;rw[keep (.site s) (yJ h _ (by simp)) (by simp)];cases hS:H (.site s)<;>simp only[hS] at h ⊢ <;> try (exact lv' h)
  case obj t=>
   split at h
   ·exfalso;obtain⟨b,fp1,_,h⟩:=ah h;cases b with
    | true=>obtain⟨_,_,_,h⟩:=ah h;exact no h (by simp)
    | false=>obtain⟨_,_,_,h⟩:=ah h;obtain⟨_,_,_,h⟩:=ah h;exact no h (by simp)
   ·exact lv' h
 | ref d j=>
  simp only[oZ] at h ⊢;cases hu:u.agg with
  | true=>rw[hu] at h;exact(ae h).elim
  | false=>rw[hu] at h;simp only[cond_false] at h ⊢;exact ldF h ha (by simp)
 | sel b o z n j=>
  exfalso;simp only[oZ,Ed,Rd.run] at h;cases hS:H (.site b)<;>simp only[hS] at h<;>try (exact(ae h).elim)
  split at h
  ·simp only[Rd.run] at h;split at h
   ·rename_i q _ _ ft x _;cases hb:ft.beq q.2.2 with
    | false=>rw[hb] at h;exact(ae h).elim
    | true=>rw[hb] at h;obtain⟨_,_,h⟩:=bP h;exact no h (by simp)
   ·exact(ae h).elim
  ·exact(ae h).elim
 | elt t x off=>exfalso;obtain⟨_,_,_,h⟩:=ah (show((Rd.ofO (sub t x off u)).bind fun y=>Rd.ret (SV.pv u y,([]:HW))).run H fp=_ from h);exact no h (by simp)
 | lel t x off=>exfalso;obtain⟨_,_,_,h⟩:=ah (show((Rd.ofO (sub t x off u)).bind fun y=>Rd.ret (SV.pv u y,([]:HW))).run H fp=_ from h);exact no h (by simp)
 | oel q i off sz=>
  exfalso;simp only[oZ,o5,qh,Rd.run] at h;have el:∀ {fp0:List HLoc},(jB u (.oel q i off sz)).run H fp0=some ((.own r,hw),fp')→False:=by
   intro fp0 h;simp only[jB,Rd.run] at h;cases hH:H (.row q)<;>simp only[hH] at h<;>try (exact(ae h).elim)
   case row p e l=>
    cases hb:beq e.size sz with
    | false=>rw[hb] at h;exact(ae h).elim
    | true=>rw[hb] at h;obtain⟨x,_,h⟩:=bP h;obtain⟨y,_,_,h⟩:=ah h;exact no h (by simp)
  cases hH:H (.row q)<;>simp only[hH] at h<;>try (exact el h)
  case deep e l n hh=>
   cases hb:beq e.size sz with
   | false=>rw[hb] at h;exact(ae h).elim
   | true=>
    rw[hb] at h;obtain⟨x,_,h⟩:=bP h;cases hf:bu u with
    | true=>rw[hf] at h;obtain⟨y,_,_,h⟩:=ah h;exact no h (by simp)
    | false=>
     rw[hf] at h;simp only[cond,Rd.run] at h;cases hd:decide (n≤i) with
     | true=>rw[hd] at h;obtain⟨y,_,_,h⟩:=ah h;exact no h (by simp)
     | false=>
      rw[hd] at h;cases u with
      | slice u=>
       cases hh with
       | none=>
        obtain⟨y,_,_,h⟩:=ah h;cases hc:lM e off u with
        | false=>rw[hc] at h;exact(ae h).elim
        | true=>
         rw[hc] at h;simp only[cond,fresh,Rd.run] at h;cases hn:H (.row id)<;>simp only[hn] at h<;>try (exact(ae h).elim)
         exact no h (by simp)
       | some jq=>
        obtain⟨j,q'⟩:=jq;simp only[Rd.run] at h;cases hj:decide (j=i) with
        | false=>rw[hj] at h;exact absurd h (by simp[Rd.run])
        | true=>
         rw[hj] at h;cases hc:lM e off u with
         | false=>rw[hc] at h;exact absurd h (by simp[Rd.run])
         | true=>rw[hc] at h;exact no (fp:=HLoc.row q::fp) h (by simp)
      | _=>exact(ae h).elim
 | _=>exact(ae h).elim
theorem zdN {ev:Operand→SV} {id:Nat} {o:Op} {H H':HLoc→SV} {p:SV×HW} {fp:List HLoc} (h:(aop tab Γ id ev o).run H []=some (p,fp)) (ha:∀ l∈fp,H' l=H l∨(l∈nN ev o p.1∧shp (H' l)=shp (H l))) :
  (aop tab Γ id ev o).run H' []=some (p,fp):=by
 by_cases hs:nN ev o p.1=[]
 ·exact zac h fun l hl=>(ha l hl).elim (fun q=>q) fun q=>by rw[hs] at q;simp at q
 ·cases o<;>try (exact absurd rfl hs)
  case nilCheck x=>
   cases hx:ev x<;>simp only[nN,hx] at hs ha<;>try (exact absurd trivial hs)
   case own r=>
    have e:∀ K:HLoc→SV,(aop tab Γ id ev (.nilCheck x)).run K []=(VT r (K (.row r))).run K [.row r]:=fun K=>by simp only[aop,hx,Rd.run];rfl
    have hm:=ha (.row r) (by rw[e] at h;exact yJ h _ (by simp));have hsh:shp (H' (.row r))=shp (H (.row r)):=hm.elim (fun e=>by rw[e]) fun q=>q.2;rw[e,zbt] at h ⊢;rw[hsh];exact h
  case load t a=>
   obtain⟨v,hw⟩:=p;cases v<;>simp only[nN] at hs ha<;>try (exact absurd trivial hs)
   case own r=>
    simp only[aop] at h ⊢;split at h
    ·exact zbD h ha
    ·exact(ae h).elim
theorem zbE {r i off sz:Nat} {u:Ty} {H:HLoc→SV} {v:SV} {hw:HW} {fp fp':List HLoc} (h:(jB u (.oel r i off sz)).run H fp=some ((v,hw),fp')):hw=[]:=by
 simp only[jB,Rd.run] at h;cases hH:H (.row r)<;>simp only[hH] at h<;>try (exact(ae h).elim)
 case row p e l=>
  cases hb:beq e.size sz with
  | false=>rw[hb] at h;exact(ae h).elim
  | true=>rw[hb] at h;obtain⟨x,_,h⟩:=bP h;obtain⟨y,_,_,h⟩:=ah h;exact(Prod.mk.inj (af h).1).2
theorem Ub {ev:Operand→SV} {id:Nat} {o:Op} {H:HLoc→SV} {v:SV} {hw:HW} {fp:List HLoc} (h:(aop tab Γ id ev o).run H []=some ((v,hw),fp)):∀ l∈o6 ev o,shp (puts H hw l)=shp (H l):=by
 intro l hl;cases o<;>first|(simp[o6] at hl;done)|skip
 case load t a=>
  cases hx:ev a<;>simp only[o6,hx] at hl<;>first|(simp at hl;done)|skip
  case oel r i off sz=>
   obtain rfl:l=.row r:=by simpa using hl
   have nowr:hw=[]→shp (puts H hw (.row r))=shp (H (.row r)):=by rintro rfl;rfl
   simp only[aop,hx] at h;split at h
   ·rename_i ty _;simp only[oZ,o5,qh,Rd.run] at h;cases hH:H (.row r)<;>simp only[hH] at h<;>try (rw[←hH];exact nowr (zbE h))
    case deep e l n hh=>
     cases hb:beq e.size sz with
     | false=>rw[hb] at h;exact(ae h).elim
     | true=>
      rw[hb] at h;obtain⟨x,_,h⟩:=bP h;cases hf:bu ty with
      | true=>rw[hf] at h;obtain⟨y,_,_,h⟩:=ah h;rw[←hH];exact nowr (Prod.mk.inj (af h).1).2
      | false=>
       rw[hf] at h;simp only[cond,Rd.run] at h;cases hd:decide (n≤i) with
       | true=>rw[hd] at h;obtain⟨y,_,_,h⟩:=ah h;rw[←hH];exact nowr (Prod.mk.inj (af h).1).2
       | false=>
        rw[hd] at h;cases ty with
        | slice u=>
         cases hh with
         | none=>
          obtain⟨y,_,_,h⟩:=ah h;cases hc:lM e off u with
          | false=>rw[hc] at h;exact(ae h).elim
          | true=>
           rw[hc] at h;simp only[cond,fresh,Rd.run] at h;cases hn:H (.row id)<;>simp only[hn] at h<;>try (exact(ae h).elim)
           have hw':=(Prod.mk.inj (af h).1).2;rw[hw'];simp only[puts,aK,shp]
         | some jq=>
          obtain⟨j,q⟩:=jq;simp only[Rd.run] at h;cases hj:decide (j=i) with
          | false=>rw[hj] at h;exact absurd h (by simp[Rd.run])
          | true=>
           rw[hj] at h;cases hc:lM e off u with
           | false=>rw[hc] at h;exact absurd h (by simp[Rd.run])
           | true=>rw[hc] at h;rw[←hH];exact nowr (Prod.mk.inj (af (H:=H) (fp:=[HLoc.row r]) h).1).2
        | _=>exact(ae h).elim
   ·exact(ae h).elim
theorem zaU {ev ev':Operand→SV} {id:Nat} {o:Op} (h:∀ x∈o.operands,ev x=ev' x):aop tab Γ id ev o=aop tab Γ id ev' o:=by
 have pairs:∀ ps:Array (Nat×Operand),(∀ x∈(ps.toList.map (·.2)),ev x=ev' x)→(ps.toList.map fun p=>(p.1,ev p.2))=ps.toList.map fun p=>(p.1,ev' p.2):=fun ps hp=>List.map_congr_left fun p hm=>by rw[hp p.2 (mem_map.2 ⟨p,hm,rfl⟩)]
 cases o<;>simp only[Op.operands] at h<;>simp only[aop]
 case build t ps=>rw[pairs ps fun x hx=>h x (by simpa using hx)]
 case buildSlice t n ps=>rw[pairs ps fun x hx=>h x (by simpa using hx)]
 case call c=>
  obtain⟨callee,args,ats⟩:=c;simp only[Call.operands] at h;have hargs:args.toList.map ev=args.toList.map ev':=List.map_congr_left fun x hx=>h x (by simp;right;simpa using hx);cases callee with
  | builtin b=>simp only[hargs]
  | value f=>simp only[hargs,h f (by simp)]
  | invoke r m=>rfl
 case makeFunc fn first captured=>have hc:captured.toList.map ev=captured.toList.map ev':=List.map_congr_left fun x hx=>h x (by simp;right;simpa using hx);rw[hc]
 case slice t x lo hi mx=>cases lo<;>cases hi<;>cases mx<;>simp_all
 all_goals first|rfl|(simp_all;done)
theorem Y1 {ev ev':Operand→SV} {o:Op} {v:SV} (h:∀ x∈o.operands,ev x=ev' x):nN ev o v=nN ev' o v:=by
 cases o<;>try rfl
 case nilCheck x=>simp only[nN,h x (by simp[Op.operands])]
theorem Zp {ev ev':Operand→SV} {o:Op} (h:∀ x∈o.operands,ev x=ev' x):o6 ev o=o6 ev' o:=by
 cases o<;>try rfl
 case load t a=>simp only[o6,h a (by simp[Op.operands])]
theorem zcN {S:Nat→SV} {d:Option Tmp} {v:SV} {x:Operand} (h:∀ n,d=some n→x≠.tmp n):evS (fP S d v) x=evS S x:=by
 cases d with
 | none=>rfl
 | some n=>
  cases x with
  | tmp t=>exact kL _ _ fun e=>h n rfl (e▸rfl)
  | _=>rfl
theorem Qv {o:Oper} {d:Nat} (h:d ∉ looks ops o):(∀ x∈o.op.operands,x≠.tmp d)∧∀ j want g,o.guard=some (j,want)→(ops[j]?).bind (·.dst)=some g→g≠d:=by
 unfold looks at h;rw[mem_append,not_or] at h;refine⟨fun x hx e=> ?_,fun j want g hg hj e=> ?_⟩
 ·subst e;exact h.1 (List.mem_filterMap.2 ⟨.tmp d,by simpa using hx,rfl⟩)
 ·subst e;apply h.2;rw[hg];simp[hj]
theorem PK {S:Nat→SV} {o:Oper} {d:Option Tmp} {v:SV} (h:∀ n,d=some n→n ∉ looks ops o):jG ops (fP S d v) o=jG ops S o:=by
 cases d with
 | none=>rfl
 | some n=>
  have:=(Qv (h n rfl)).2;unfold jG;cases hg:o.guard with
  | none=>rfl
  | some p=>
   obtain⟨j,want⟩:=p;simp only;cases hj:(ops[j]?).bind (·.dst) with
   | none=>rfl
   | some g=>simp only[fP];rw[kL _ _ (this j want g hg hj)]
theorem zaq {S:Nat→SV} {d e:Option Tmp} {u v:SV} (h:∀ n,d=some n→e≠some n):fP (fP S d u) e v=fP (fP S e v) d u:=by
 cases d with
 | none=>rfl
 | some n=>
  cases e with
  | none=>rfl
  | some m=>
   have hne:n≠m:=fun e=>h n rfl (by rw[e]);funext k;simp only[fP];by_cases h1:k=m
   ·subst h1;rw[pM,kL _ _ (Ne.symm hne),pM]
   ·rw[kL _ _ h1];by_cases h2:k=n
    ·subst h2;rw[pM,pM]
    ·rw[kL _ _ h2,kL _ _ h2,kL _ _ h1]
theorem Jg:∀ {hw:HW} {H H':HLoc→SV} {l:HLoc},l∈au hw→puts H hw l=puts H' hw l
 | [],_,_,l,h=>by simp[au] at h
 | (m,v)::r,H,H',l,h=>by
  simp only[puts];by_cases hl:l∈au r
  ·exact Jg hl
  ·simp only[au,mem_cons] at h;rcases h with rfl|h
   ·rw[cZ hl,cZ hl,aK,aK]
   ·exact absurd h hl
theorem zao {H:HLoc→SV} {a b:HW} (h:∀ l∈au a,l ∉ au b):puts (puts H a) b=puts (puts H b) a:=by
 funext l;by_cases hb:l∈au b
 ·have ha:l ∉ au a:=fun ha=>h l ha hb;rw[cZ ha];exact Jg hb
 ·rw[cZ hb];by_cases ha:l∈au a
  ·exact Jg ha
  ·rw[cZ ha,cZ ha,cZ hb]
structure ApS (ops:List Oper) (x y:Oper):Prop where
 rw:∀ n,x.dst=some n→n ∉ looks ops y
 ww:∀ n,x.dst=some n→y.dst≠some n
 wr:∀ n,y.dst=some n→n ∉ looks ops x
theorem zaT {x y:Oper} (h:Kq ops x y=true):ApS ops x y:=by
 unfold Kq at h;obtain⟨h1,h2⟩:=az h;refine⟨fun n hn hm=> ?_,fun n hn hm=> ?_,fun n hn hm=> ?_⟩
 ·rw[hn] at h1;simp only[zby.2 hm,cond] at h1;exact noConfusion h1
 ·rw[hn,hm] at h1;simp only at h1;cases hb:lq n (looks ops y) with
  | true=>rw[hb] at h1;exact noConfusion h1
  | false=>rw[hb] at h1;simp at h1
 ·rw[hn] at h2;simp only[zby.2 hm,cond] at h2;exact noConfusion h2
theorem za6 {x y:En} (hap:ApS ops x.o y.o) (hA:Apart x.st y.st) {S S1 S2:Nat→SV} {H H1 H2:HLoc→SV}
  (h1:stp tab Γ rid ops x.i x.o S H=some ⟨S1,H1,x.rd,x.wr,x.sh,x.kp⟩) (h2:stp tab Γ rid ops y.i y.o S1 H1=some ⟨S2,H2,y.rd,y.wr,y.sh,y.kp⟩) :
  ∃ S' H',stp tab Γ rid ops y.i y.o S H=some ⟨S',H',y.rd,y.wr,y.sh,y.kp⟩∧stp tab Γ rid ops x.i x.o S' H'=some ⟨S2,H2,x.rd,x.wr,x.sh,x.kp⟩:=by
 have form:∀ {e:En} {S S1:Nat→SV} {H H1:HLoc→SV},stp tab Γ rid ops e.i e.o S H=some ⟨S1,H1,e.rd,e.wr,e.sh,e.kp⟩→
   ∃ v hw,S1=fP S e.o.dst v∧H1=puts H hw∧e.wr=au hw∧(∀ l∈e.kp,shp (puts H hw l)=shp (H l))∧∀ S' H',jG ops S' e.o=jG ops S e.o→(∀ z∈e.o.op.operands,evS S z=evS S' z)→(∀ l∈e.rd,H' l=H l∨(l∈e.sh∧shp (H' l)=shp (H l)))→
    stp tab Γ rid ops e.i e.o S' H'=some ⟨fP S' e.o.dst v,puts H' hw,e.rd,e.wr,e.sh,e.kp⟩∧∀ l∈e.kp,shp (puts H' hw l)=shp (H' l):=by
  intro e S S1 H H1 h;unfold stp at h;split at h
  ·simp at h
  ·rename_i hg;simp only[Option.some.injEq,Res.mk.injEq] at h;obtain⟨a1,a2,a3,a4,a5,a6⟩:=h;refine⟨.und,[],a1.symm,a2.symm,a4.symm,fun _ _=>rfl,fun S' H' hg' _ _=>⟨?_,fun _ _=>rfl⟩⟩;simp only[stp,hg',hg];rw[←a3,←a4,←a5,←a6];rfl
  ·rename_i hg;obtain⟨⟨⟨v,hw⟩,fp⟩,h3,h4⟩:=map_eq_some_iff.1 h;simp only[Res.mk.injEq] at h4;obtain⟨a1,a2,a3,a4,a5,a6⟩:=h4;refine⟨v,hw,a1.symm,a2.symm,a4.symm,fun l hl=>Ub h3 l (by rw[a6];exact hl),fun S' H' hg' hev hH=> ?_⟩;have hr:=zdN (H':=H') h3 fun l hl=>(hH l (by rw[←a3];exact hl)).imp id fun q=>⟨by rw[a5];exact q.1,q.2⟩
   refine⟨?_,fun l hl=>Ub hr l (by rw[a6];exact hl)⟩;simp only[stp,hg',hg];rw[←zaU hev,hr,map_some,←Y1 hev,←Zp hev];simp[a3,a4,a5,a6]
 obtain⟨v1,hw1,rfl,rfl,e1,s1,f1⟩:=form h1;obtain⟨v2,hw2,rfl,rfl,e2,s2,f2⟩:=form h2;have look:∀ {o:Oper} {d:Option Tmp} {v:SV} {S:Nat→SV},(∀ n,d=some n→n ∉ looks ops o)→∀ z∈o.op.operands,evS (fP S d v) z=evS S z:=by intro o d v S hd z hz;exact zcN fun n hn=>(Qv (hd n hn)).1 z hz
 obtain⟨g2,s2'⟩:=f2 S H (PK hap.rw).symm (fun z hz=>look hap.rw z hz) (fun l hl=>by
  by_cases hm:l∈au hw1
  ·obtain⟨q1,q2⟩:=hA.wr l (show l∈x.wr by rw[e1];exact hm) hl;exact .inr ⟨q2,(s1 l q1).symm⟩
  ·exact .inl (cZ hm).symm)
 obtain⟨g1,_⟩:=f1 (fP S y.o.dst v2) (puts H hw2) (PK hap.wr) (fun z hz=>(look hap.wr z hz).symm) (fun l hl=>by
  by_cases hm:l∈au hw2
  ·obtain⟨q1,q2⟩:=hA.rw l (show l∈y.wr by rw[e2];exact hm) hl;exact .inr ⟨q2,s2' l q1⟩
  ·exact .inl (cZ hm))
 refine⟨_,_,g2,?_⟩;rw[g1,zaq hap.ww,zao (a:=hw1) (b:=hw2) (fun l hl=>by rw[←e2];exact hA.ww l (show l∈x.wr by rw[e1];exact hl))]
theorem RunT.front {x:En} {post:List En}:∀ {pre:List En} {S S':Nat→SV} {H H':HLoc→SV},(∀ p∈pre,ApS ops p.o x.o∧Apart p.st x.st)→RunT tab Γ rid ops (pre++x::post) S H S' H'→
  ∃ S1 H1,stp tab Γ rid ops x.i x.o S H=some ⟨S1,H1,x.rd,x.wr,x.sh,x.kp⟩∧RunT tab Γ rid ops (pre++post) S1 H1 S' H'
 | [],_,_,_,_,_,h=>h
 | p::pre,S,S',H,H',hp,⟨S1,H1,h1,h2⟩=>by obtain⟨S2,H2,h3,h4⟩:=RunT.front (fun q hq=>hp q (by simp[hq])) h2;obtain⟨q1,q2⟩:=hp p (by simp);obtain⟨S3,H3,h5,h6⟩:=za6 q1 q2 h1 h3;exact⟨S3,H3,h5,S2,H2,h6,h4⟩
end
section
variable {P:Program} {tab:Tab} {Γ:FuncId→List Sig} {rid:Nat} {C:Ctx} {g:Gh} {S:Nat→SV} {H:HLoc→SV} {a:Act} {w:World}
def jk (nt:Nat×Nat) (C:Ctx) (S:Nat→SV) (H:HLoc→SV) (a:Act) (w:World):Prop:=(a.tmps.size=nt.1∧C.lo≤nt.2)∧∃ g,SimG C g S H a w
theorem size_put (a:Act) (d:Option Tmp) (v:Value):(a.put d v).tmps.size=a.tmps.size:=by cases d<;>simp[Act.put]
theorem QE {ops:Array Oper} (hs:SimG C g S H a w) {o:Oper} {b:Bool} (h:jG ops.toList S o=some b):Region.wanted o (yielded ops a.tmps)=b:=by
 unfold jG at h;unfold Region.wanted;cases hg:o.guard with
 | none=>rw[hg] at h;simpa using h
 | some p=>
  obtain⟨j,want⟩:=p;rw[hg] at h;simp only[Array.getElem?_toList] at h;simp only[yielded];cases hj:(ops[j]?).bind (·.dst) with
  | none=>rw[hj] at h;simp at h
  | some d=>
   rw[hj] at h;simp only at h;simp only[bind_some];have hd:=hs.slots d;split at h
   ·rename_i x hx;rw[hx] at hd;have hv:=pK hd;have:a.tmps[d]? = some (.bool x):=by
     rw[Array.getD_eq_getD_getElem?] at hv;cases ht:a.tmps[d]? with
     | none=>rw[ht] at hv;exact absurd hv (by simp[undef])
     | some y=>rw[ht] at hv;simp at hv;rw[hv]
    rw[this];simp only[Option.some.injEq] at h;rw[←h];cases x<;>cases want<;>rfl
   ·rename_i hx;rw[hx] at hd;have hv:a.tmps.getD d undef=undef:=hd;rw[Array.getD_eq_getD_getElem?] at hv;simp only[Option.some.injEq] at h;rw[←h];cases ht:a.tmps[d]? with
    | none=>rfl
    | some y=>rw[ht] at hv;simp at hv;rw[hv];rfl
   ·simp at h
theorem TF (hTab:TabOk P tab) (hΓ:uu P tab Γ) {ops:Array Oper} (hs:SimG C g S H a w) {i:Nat} {o:Oper} (ho:ops[i]? = some o) (hd:∀ d,o.dst=some d→d<a.tmps.size∧C.lo≤d) {q:Res}
  (h:stp tab Γ rid ops.toList i o S H=some q) {Q:Exit→Act→World→Prop} {K:Act→World→Prop} (hk:∀ a' w' g',a'.tmps.size=a.tmps.size→SimG C g' q.S q.H a' w'→K a' w'):wpOp P ops Q i K a w:=by
 unfold stp at h;unfold wpOp;simp only[ho];split at h
 ·simp at h
 ·rename_i hg;obtain rfl:=Option.some.inj h;rw[QE hs hg];simp only[Bool.false_eq_true,if_false];exact hk _ w g (size_put _ _ _) (hs.put o.dst trivial rfl hd)
 ·rename_i hg;obtain⟨⟨⟨v,hw⟩,fp⟩,h1,rfl⟩:=map_eq_some_iff.1 h;rw[QE hs hg];simp only[if_true];exact .inl (zb6 hTab hΓ hs h1 K Q fun val w' g' k1 k2 k3=>hk _ w' g' (size_put _ _ _) (k1.put o.dst k3 k2 hd))
theorem Jn {nt:Nat×Nat}:∀ {ops:List Oper},uF nt ops=true→∀ o∈ops,∀ d,o.dst=some d→d<nt.1∧nt.2≤d
 | [],_,o,ho=>by simp at ho
 | x::r,h,o,ho=>by
  simp only[uF] at h;obtain⟨h1,h2⟩:=az h;rcases mem_cons.1 ho with rfl|ho
  ·intro d hd;rw[hd] at h1;obtain⟨h3,h4⟩:=az h1;exact⟨Nat.le_of_ble_eq_true h4,Nat.le_of_ble_eq_true h3⟩
  ·exact Jn h2 o ho
theorem xQ.get {ops:List Oper}:∀ {es:List En} {i:Nat} {os:List Oper},xQ es i os→(∀ k o,os[k]? = some o→ops[i+k]? = some o)→∀ e∈es,ops[e.i]? = some e.o
 | [],_,_,_,_,e,he=>by simp at he
 | x::r,i,[],h,_,_,_=>h.elim
 | x::r,i,o::os,⟨h1,h2,h3⟩,hk,e,he=>by
  rcases mem_cons.1 he with rfl|he
  ·rw[h1,h2];exact hk 0 o rfl
  ·exact xQ.get h3 (fun k o' h=>by have:=hk (k+1) o' h;rwa[show i+(k+1)=i+1+k from by omega] at this) e he
theorem O4 (hTab:TabOk P tab) (hΓ:uu P tab Γ) {ops:Array Oper} {nt:Nat×Nat} (hd:uF nt ops.toList=true) {Q:Exit→Act→World→Prop}:∀ {es:List En} {i:Nat} {os:List Oper} {S S':Nat→SV} {H H':HLoc→SV} {a:Act} {w:World},
  xQ es i os→(∀ k o,os[k]? = some o→ops[i+k]? = some o)→RunT tab Γ rid ops.toList es S H S' H'→jk nt C S H a w→(∀ a' w',jk nt C S' H' a' w'→Q .normal a' w')→
  wpOps P ops Q (range' i os.length) a w
 | [],i,[],S,S',H,H',a,w,_,_,⟨h1,h2⟩,hs,hq=>hq a w (by rw[h1,h2];exact hs)
 | [],i,o::os,S,S',H,H',a,w,h,_,_,_,_=>h.elim
 | x::r,i,[],S,S',H,H',a,w,h,_,_,_,_=>h.elim
 | x::r,i,o::os,S,S',H,H',a,w,⟨e1,e2,e3⟩,hk,⟨S1,H1,h1,h2⟩,⟨hn,g,hs⟩,hq=>by have ho:ops[i]? = some o:=hk 0 o rfl;rw[List.length_cons,List.range'_succ,wpOps_cons];rw[e1,e2] at h1;refine TF hTab hΓ hs ho (fun d hd'=>by rw[hn.1];exact let q:=Jn hd o (Array.mem_toList_iff.2 (Array.mem_of_getElem? ho)) d hd';⟨q.1,Nat.le_trans hn.2 q.2⟩) h1 fun a' w' g' hz hs'=> ?_;exact O4 hTab hΓ hd e3 (fun k o' h=>by have:=hk (k+1) o' h;rwa[show i+(k+1)=i+1+k from by omega] at this) h2 ⟨⟨by rw[hz,hn.1],hn.2⟩,g',hs'⟩ hq
theorem QN (e:Edge):Region.binds .any e=oI e:=by
 unfold Region.binds oI;cases e.ground<;>rfl
theorem Oa:∀ {ops:List Oper} {i k:Nat} {o:Oper},yt ops i=true→ops[k]? = some o→∀ e∈o.after,oI e=true→e.on<i+k
 | [],_,_,_,_,h=>by simp at h
 | x::r,i,k,o,h,hk=>by
  simp only[yt] at h;obtain⟨h1,h2⟩:=az h;cases k with
  | zero=>simp only[getElem?_cons_zero,Option.some.injEq] at hk;subst hk;intro e he hb;have h1:=List.all_eq_true.1 h1 e (by simpa using he);rw[hb] at h1;have:e.on<i:=Nat.le_of_ble_eq_true h1;omega
  | succ k=>intro e he hb;have:=Oa h2 (k:=k) (by simpa using hk) e he hb;omega
theorem PL {acc:List Nat} {x:Nat}:∀ {es:List Edge} {s:Nat},(es.foldl (fun s e=>cond (oI e) (s ||| 2 ^ e.on ||| acc.getD e.on 0) s) s).testBit x=true→
  s.testBit x=true∨∃ e∈es,oI e=true∧(x=e.on∨(acc.getD e.on 0).testBit x=true)
 | [],s,h=>.inl h
 | e::es,s,h=>by
  simp only[List.foldl_cons] at h;rcases PL h with h|⟨e',he,hb,hx⟩
  ·cases hb:oI e with
   | false=>rw[hb] at h;exact .inl h
   | true=>
    rw[hb] at h;simp only[cond,Nat.testBit_or,Bool.or_eq_true] at h;rcases h with(h|h)|h
    ·exact .inl h
    ·rw[Nat.testBit_two_pow] at h;exact .inr ⟨e,by simp,hb,.inl (by simpa using(of_decide_eq_true h).symm)⟩
    ·exact .inr ⟨e,by simp,hb,.inr h⟩
  ·exact .inr ⟨e',by simp[he],hb,hx⟩
theorem Ik:∀ {os:List Oper} {acc:List Nat} {i:Nat},i<acc.length→(before os acc)[i]? = acc[i]?
 | [],acc,i,_=>rfl
 | o::os,acc,i,h=>by rw[before,Ik (by simp;omega),List.getElem?_append_left h]
theorem OW:∀ {os:List Oper} {acc:List Nat} {k x:Nat} {o:Oper},os[k]? = some o→((before os acc).getD (acc.length+k) 0).testBit x=true→
  ∃ e∈o.after,oI e=true∧(x=e.on∨((before os acc).getD e.on 0).testBit x=true)
 | [],_,_,_,_,h,_=>by simp at h
 | y::os,acc,k,x,o,h,hx=>by
  cases k with
  | zero=>
   simp only[getElem?_cons_zero,Option.some.injEq] at h;subst h;have hget:(before (y::os) acc).getD acc.length 0=y.after.toList.foldl (fun s e=>cond (oI e) (s ||| 2 ^ e.on ||| acc.getD e.on 0) s) 0:=by rw[before,List.getD_eq_getElem?_getD,Ik (by simp),List.getElem?_append_right (le_refl _)];simp
   rw[add_zero,hget] at hx;rcases PL hx with h0|⟨e,he,hb,h0⟩
   ·simp at h0
   ·refine⟨e,by simpa using he,hb,h0.imp id fun h1=> ?_⟩;by_cases hlt:e.on<acc.length
    ·rw[before,List.getD_eq_getElem?_getD,Ik (by simp;omega),List.getElem?_append_left hlt,←List.getD_eq_getElem?_getD];exact h1
    ·rw[List.getD_eq_getElem?_getD,List.getElem?_eq_none (by omega)] at h1;simp at h1
  | succ k=>rw[before] at hx ⊢;exact OW (acc:=acc++[_]) (k:=k) (by simpa using h) (by rw[List.length_append,List.length_singleton];rwa[show acc.length+1+k=acc.length+(k+1) from by omega])
theorem Ox {ops:List Oper} {b:Nat} {y:Oper}:∀ {l:List Oper} {i j:Nat} {x:Oper},CB ops b y l i=true→l[j]? = some x→b.testBit (i+j)=true∨ApS ops x y
 | [],_,_,_,_,h=>by simp at h
 | z::r,i,j,x,h,hx=>by
  simp only[CB] at h;obtain⟨h1,h2⟩:=az h;cases j with
  | zero=>
   simp only[getElem?_cons_zero,Option.some.injEq] at hx;subst hx;cases hb:b.testBit i with
   | true=>exact .inl rfl
   | false=>rw[hb] at h1;exact .inr (zaT h1)
  | succ j=>rw[show i+(j+1)=i+1+j from by omega];exact Ox h2 (by simpa using hx)
theorem Oy {ops:List Oper} {bf:List Nat}:∀ {os done:List Oper} {i k j:Nat} {x y:Oper},CE ops bf os done i=true→done.length=i→os[k]? = some y→j<i+k→(done++os)[j]? = some x→
  (bf.getD (i+k) 0).testBit j=true∨ApS ops x y
 | [],_,_,_,_,_,_,_,_,h,_,_=>by simp at h
 | z::r,done,i,k,j,x,y,h,hl,hk,hj,hx=>by
  simp only[CE] at h;obtain⟨h1,h2⟩:=az h;cases k with
  | zero=>simp only[getElem?_cons_zero,Option.some.injEq] at hk;subst hk;rw[List.getElem?_append_left (by omega)] at hx;have:=Ox h1 hx;simpa using this
  | succ k=>have:=Oy (k:=k) (j:=j) (x:=x) (y:=y) h2 (by simp;omega) (by simpa using hk) (by omega) (by simpa using hx);rwa[show i+1+k=i+(k+1) from by omega] at this
def Ok3 (ops:List Oper) (bf:List Nat) (x y:En):Prop:=x.i<y.i∧((bf.getD y.i 0).testBit x.i=true∨(ApS ops x.o y.o∧Apart x.st y.st))
theorem QG {l:Array Bool} {i:Nat} (h:i<l.size) (d d':Bool):l.getD i d=l.getD i d':=by simp[h]
theorem zaZ (hTab:TabOk P tab) (hΓ:uu P tab Γ) {ops:Array Oper} {nt:Nat×Nat} (hd:uF nt ops.toList=true) (hp:yt ops.toList 0=true) {Q:Exit→Act→World→Prop} {S':Nat→SV} {H':HLoc→SV}
  (hq:∀ a' w',jk nt C S' H' a' w'→Q .normal a' w'):∀ (fuel:Nat) {L:List En} {listed:Array Bool} {S:Nat→SV} {H:HLoc→SV} {a:Act} {w:World},
  L.length≤fuel→RunT tab Γ rid ops.toList L S H S' H'→L.Pairwise (Ok3 ops.toList (before ops.toList []))→(∀ e∈L,ops[e.i]? = some e.o)→listed.size=ops.size→
  (∀ i,i<ops.size→(listed.getD i true=false↔∃ e∈L,e.i=i))→(∀ i,listed.getD i false=true→∀ x,((before ops.toList []).getD i 0).testBit x=true→listed.getD x false=true)→
  jk nt C S H a w→wpAny P .any ops Q fuel listed a w:=by
 intro fuel;induction fuel with
 | zero=>
  intro L listed S H a w hl hr _ _ hsz hls _ hs;obtain rfl:L=[]:=by cases L with|nil=>rfl|cons x r=>simp at hl
  obtain⟨rfl,rfl⟩:=hr;refine⟨?_,hq a w hs⟩;cases hr:Region.ready .any ops listed with
  | nil=>rfl
  | cons i r=>
   have hi:i∈Region.ready .any ops listed:=by rw[hr];simp
   obtain⟨h1,o,ho,_⟩:=mem_ready.1 hi;obtain⟨e,he,_⟩:=(hls i (Array.getElem?_eq_some_iff.1 ho).1).1 h1;simp at he
 | succ fuel ih=>
  intro L listed S H a w hl hr hpw hop hsz hls hcl hs;constructor
  ·intro hnil;cases L with
   | nil=>obtain⟨rfl,rfl⟩:=hr;exact hq a w hs
   | cons x r=>
    exfalso;have hx:=hop x (by simp);have hlt:=(Array.getElem?_eq_some_iff.1 hx).1;have:x.i∈Region.ready .any ops listed:=by
     rw[mem_ready];refine⟨(hls x.i hlt).2 ⟨x,by simp,rfl⟩,x.o,hx,fun e he hbe=> ?_⟩;have h1:=Oa hp (k:=x.i) (by simpa using hx) e he (by rw[←QN];exact hbe);rw[zero_add] at h1;have hlt':e.on<ops.size:=by omega
     rw[QG (by omega) false true];cases hb:listed.getD e.on true with
     | true=>rfl
     | false=>
      obtain⟨y,hy,hye⟩:=(hls e.on hlt').1 hb;rcases mem_cons.1 hy with rfl|hy
      ·omega
      ·have:=(List.rel_of_pairwise_cons hpw hy).1;omega
    rw[hnil] at this;simp at this
  ·intro i hi;obtain⟨h1,o,ho,hall⟩:=mem_ready.1 hi;have hlt:=(Array.getElem?_eq_some_iff.1 ho).1;obtain⟨x,hx,rfl⟩:=(hls i hlt).1 h1;have hox:=hop x hx;rw[ho] at hox;obtain rfl:=Option.some.inj hox;have hbits:∀ y,((before ops.toList []).getD x.i 0).testBit y=true→listed.getD y false=true:=by
    intro y hy;obtain⟨e,he,hb,hye⟩:=OW (os:=ops.toList) (acc:=[]) (k:=x.i) (by simpa using ho) (by simpa using hy);rw[←QN] at hb;have hon:=hall e he hb;rcases hye with rfl|hye
    ·exact hon
    ·exact hcl e.on hon y hye
   obtain⟨pre,post,rfl⟩:=List.append_of_mem hx;obtain⟨p1,p2,p3⟩:=List.pairwise_append.1 hpw;have hfront:=RunT.front (pre:=pre) (fun p hp'=>by
    have h3:=(p3 p hp' x (by simp)).2;rcases h3 with h3|h3
    ·exfalso;have h4:=hbits p.i h3;have hplt:=(Array.getElem?_eq_some_iff.1 (hop p (by simp[hp']))).1;have h5:=(hls p.i hplt).2 ⟨p,by simp[hp'],rfl⟩;rw[QG (by omega) true false,h4] at h5;exact noConfusion h5
    ·exact h3) hr
   obtain⟨S1,H1,k1,k2⟩:=hfront;obtain⟨hn,g,hg⟩:=hs;refine TF hTab hΓ hg ho (fun d hd'=>by rw[hn.1];exact let q:=Jn hd x.o (Array.mem_toList_iff.2 (Array.mem_of_getElem? ho)) d hd';⟨q.1,Nat.le_trans hn.2 q.2⟩) k1 fun a' w' g' hz hs'=> ?_;have hpx:∀ e∈pre++post,e.i≠x.i:=by
    intro e he;rcases mem_append.1 he with he|he
    ·have:=(p3 e he x (by simp)).1;omega
    ·have:=(List.rel_of_pairwise_cons p2 he).1;omega
   refine ih (L:=pre++post) (by simp at hl ⊢;omega) k2 (List.pairwise_append.2 ⟨p1,(List.pairwise_cons.1 p2).2,fun y hy z hz'=>p3 y hy z (by simp[hz'])⟩) (fun e he=>hop e (by
     rcases mem_append.1 he with he|he
     ·simp[he]
     ·simp[he])) (by simpa using hsz) (fun j hj=> ?_) (fun j hj y hy=> ?_) ⟨⟨by rw[hz,hn.1],hn.2⟩,g',hs'⟩
   ·by_cases hjx:x.i=j
    ·subst hjx;constructor
     ·intro h;simp[hsz,hj] at h
     ·rintro⟨e,he,hei⟩;exact absurd hei (hpx e he)
    ·rw[getD_set_ne true hjx,hls j hj];constructor
     ·rintro⟨e,he,rfl⟩;refine⟨e,?_,rfl⟩;rcases mem_append.1 he with he|he
      ·simp[he]
      ·rcases mem_cons.1 he with rfl|he
       ·exact absurd rfl hjx
       ·simp[he]
     ·rintro⟨e,he,rfl⟩;refine⟨e,?_,rfl⟩;rcases mem_append.1 he with he|he
      ·simp[he]
      ·simp[he]
   ·by_cases hjx:x.i=j
    ·subst hjx;exact getD_set_true (hbits y hy)
    ·rw[getD_set_ne false hjx] at hj;exact getD_set_true (hcl j hj y hy)
theorem xQ.pairwise:∀ {es:List En} {i:Nat} {os:List Oper},xQ es i os→(∀ e∈es,i≤e.i)∧es.Pairwise (fun x y=>x.i<y.i)
 | [],_,_,_=>⟨by simp,List.Pairwise.nil⟩
 | x::r,i,[],h=>h.elim
 | x::r,i,o::os,⟨h1,h2,h3⟩=>by
  obtain⟨k1,k2⟩:=xQ.pairwise h3;refine⟨fun e he=> ?_,List.Pairwise.cons (fun y hy=>by have:=k1 y hy;omega) k2⟩;rcases mem_cons.1 he with rfl|he
  ·omega
  ·have:=k1 e he;omega
theorem xQ.len:∀ {es:List En} {i:Nat} {os:List Oper},xQ es i os→es.length=os.length∧∀ k,k<os.length→∃ e∈es,e.i=i+k
 | [],_,[],_=>⟨rfl,fun k h=>by simp at h⟩
 | [],_,_::_,h=>h.elim
 | x::r,i,[],h=>h.elim
 | x::r,i,o::os,⟨h1,h2,h3⟩=>by
  obtain⟨k1,k2⟩:=xQ.len h3;refine⟨by simp[k1],fun k hk=> ?_⟩;cases k with
  | zero=>exact⟨x,by simp,h1⟩
  | succ k=>obtain⟨e,he,hei⟩:=k2 k (by simpa using hk);exact⟨e,by simp[he],by omega⟩
theorem ZL (hTab:TabOk P tab) (hΓ:uu P tab Γ) (hm:P.follows .mixedOrders=true) {nt:Nat×Nat} {id id':Nat} {ops:Array Oper} {draw:Bool} {R:Type} {s:St} {k:St→Option R} {r:R}
  (h:JL tab nt Γ id ops.toList draw s k=some r) (hs:jk nt C s.S s.H a w) {Q:Exit→Act→World→Prop}
  (hq:∀ a' w' S' H',jk nt C S' H' a' w'→(∀ n∈s.lkS,S' n=s.S n)→(∀ l∈s.lkH,H' l=s.H l)→k { s with S:=S',H:=H' }=some r→Q .normal a' w'):(Code.region id' ops draw).wp P Q a w:=by
 unfold JL at h;cases hd:uF nt ops.toList with
 | false=>rw[hd] at h;simp at h
 | true=>
  rw[hd] at h;cases draw with
  | false=>obtain⟨es,S',H',tr',k1,k2,k3,k4,k5,_,_⟩:=OA (by simpa using h);apply wp_region;have:=O4 hTab hΓ hd (Q:=Q) k2 (fun k o h=>by simpa using h) k1 hs fun a' w' hs'=>hq a' w' S' H' hs' k3 k4 k5;rwa[Array.length_toList,←List.range_eq_range'] at this
  | true=>
   simp only[cond] at h;split at h<;>try (simp at h;done)
   rename_i hp;split at h<;>try (simp at h;done)
   rename_i hS;obtain⟨es,S',H',tr',k1,k2,k3,k4,k5,_,k7⟩:=OA h;split at k5<;>try (simp at k5;done)
   rename_i hT;obtain⟨m1,_⟩:=k7 _ hT;apply wp_region_any hm;obtain⟨hn,g,hg⟩:=hs;have hget:=k2.get (ops:=ops.toList) (fun k o h=>by simpa using h);obtain⟨e1,e2⟩:=k2.len;have hpw:=k2.pairwise;refine zaZ hTab hΓ hd hp (fun a' w' hs'=>hq a' w' S' H' hs' k3 k4 k5) ops.size (L:=es) (by rw[e1];simp) k1 ?_ (fun e he=>by simpa using hget e he) (by simp) ?_ ?_ ⟨hn,g,hg.drew⟩
   ·refine(hpw.2.and m1).imp_of_mem fun{x y} hx hy hxy=>⟨hxy.1,?_⟩
    have hxo:=hget x hx;have hyo:=hget y hy;rcases hxy.2 with h1|h1
    ·exact .inl h1
    ·have:=Oy (done:=[]) (i:=0) (k:=y.i) (j:=x.i) hS rfl hyo (by have:=hxy.1;omega) (by simpa using hxo);rw[zero_add] at this;exact this.imp (fun h=>h) fun h2=>⟨h2,h1⟩
   ·intro i hi;constructor
    ·intro _;obtain⟨e,he,hei⟩:=e2 i (by simpa using hi);exact⟨e,he,by omega⟩
    ·intro _;simp[hi]
   ·intro i hi;exfalso;by_cases h:i<ops.size
    ·simp[h] at hi
    ·simp[h] at hi
end
def nY:Ty→List Value→Nat→List Value
 | .pair a _,cs,0=>cs.take a.size
 | .pair a b,cs,i+1=>nY b (cs.drop a.size) i
 | _,_,_=>[]
def Sj:Ty→List Value→Prop
 | .pair a b,cs=>∃ c1 c2,cs=c1++c2∧c1.length=a.size∧(∀ c∈c1,oneC c=true)∧Sj b c2
 | .unit,cs=>cs=[]
 | _,_=>False
section
variable {C:Ctx} {g:Gh} {S:Nat→SV} {H:HLoc→SV} {a:Act} {w:World}
theorem zcc {F:Nat→SV} {iv:IV}:∀ {t:Ty} {cs:List Value} {i:Nat},dF F g iv t cs i↔Sj t cs∧∀ j A,dN t j=some A→SR g iv (F (i+j)) (mkV A (nY t cs j)):=by
 intro t;induction t with
 | pair A B _ hB=>
  intro cs i;constructor
  ·rintro⟨c1,c2,rfl,h2,h3,h4,h5⟩;obtain⟨k1,k2⟩:=hB.1 h5;refine⟨⟨c1,c2,rfl,h2,h3,k1⟩,fun j D hj=> ?_⟩;cases j with
   | zero=>simp only[dN,Option.some.injEq] at hj;subst hj;simp only[nY,←h2,List.take_left];exact h4
   | succ j=>simp only[dN] at hj;simp only[nY,←h2,List.drop_left];have:=k2 j D hj;rwa[show i+1+j=i+(j+1) from by omega] at this
  ·rintro⟨⟨c1,c2,rfl,h2,h3,k1⟩,hF⟩;refine⟨c1,c2,rfl,h2,h3,?_,hB.2 ⟨k1,fun j D hj=> ?_⟩⟩
   ·have:=hF 0 A rfl;simpa only[nY,←h2,List.take_left,add_zero] using this
   ·have:=hF (j+1) D hj;simp only[nY,←h2,List.drop_left] at this;rwa[show i+1+j=i+(j+1) from by omega]
 | unit=>intro cs i;exact⟨fun h=>⟨h,fun j D hj=>by simp[dN] at hj⟩,fun h=>h.1⟩
 | _=>intro cs i;exact⟨fun h=>h.elim,fun h=>h.1.elim⟩
theorem dV.remap {F F':Nat→SV} {iv:IV} {t:Ty} {cs:List Value} (h:dV F g iv t cs)
  (hF:∀ j A,(dN t j=some A→SR g iv (F j) (mkV A (nY t cs j))→SR g iv (F' j) (mkV A (nY t cs j)))) (h0:t.agg=false→SR g iv (F 0) (cs.headD undef)→SR g iv (F' 0) (cs.headD undef)):dV F' g iv t cs:=by
 unfold dV at h ⊢;cases ht:t.agg with
 | true=>rw[ht] at h;obtain⟨k1,k2⟩:=zcc.1 h;exact zcc.2 ⟨k1,fun j A hj=>by have:=k2 j A hj;rw[zero_add] at this ⊢;exact hF j A hj this⟩
 | false=>rw[ht] at h;obtain⟨c,h1,h2,h3⟩:=h;exact⟨c,h1,h2,by have:=h0 ht;rw[h1] at this;exact this h3⟩
theorem SimG.forget (hs:SimG C g S H a w) {S':Nat→SV} {H':HLoc→SV} (hS:∀ n,S' n=S n∨S' n=.bot) (hH:∀ l,H' l=H l∨H' l=.bot) (rS:∀ n,aG H' (S' n))
  (rC:∀ d i,aG H' (H' (.comp d i))) (rF:∀ n i,aG H' (H' (.fld n i))) (rR:∀ r,aG H' (H' (.row r))) (rP:∀ d i v,C.pin d i=some v→H' (.comp d i)≠.bot):SimG C g S' H' a w where
 defers:=hs.defers
 slots n:=by rcases hS n with h|h<;>rw[h];exact hs.slots n;trivial
 comps d i:=by rcases hH (.comp d i) with h|h<;>rw[h];exact hs.comps d i;trivial
 sites n t hn:=by
  rcases hH (.site n) with h|h
  ·rw[h] at hn;obtain⟨cs,h1,h2,h3,h4⟩:=hs.sites n t hn;refine⟨cs,h1,h2,h3,h4.remap (fun j A _ hv=> ?_) fun _ hv=> ?_⟩
   ·rcases hH (.fld n j) with h|h<;>simp only[h];exact hv;trivial
   ·rcases hH (.fld n 0) with h|h<;>simp only[h];exact hv;trivial
  ·rw[h] at hn;cases hn
 rows r p e l hr:=by
  rcases hH (.row r) with h|h
  ·rw[h] at hr;exact hs.rows r p e l hr
  ·rw[h] at hr;cases hr
 deeps r e l n hh hr:=by
  rcases hH (.row r) with h|h
  ·rw[h] at hr;exact hs.deeps r e l n hh hr
  ·rw[h] at hr;cases hr
 refR:=rR
 refS:=rS
 refC:=rC
 refF:=rF
 own:=hs.own
 old:=hs.old
 ext:=hs.ext
 iv:=hs.iv
 lv:=hs.lv
 pin d i v h:=⟨rP d i v h,(hs.pin d i v h).2⟩
 low:=hs.low
theorem aG.bot:aG H .bot:=trivial
theorem SimG.reslot (hs:SimG C g S H a w) {n:Nat} {v:SV} (hv:SR g (view g.fl w) v (a.tmps.getD n undef)) (hr:aG H v):SimG C g (jL S n v) H a w:=by
 refine{ hs with slots:=fun m=> ?_,refS:=fun m=> ?_ }
 ·by_cases e:m=n
  ·subst e;rw[pM];exact hv
  ·rw[kL _ _ e];exact hs.slots m
 ·by_cases e:m=n
  ·subst e;rw[pM];exact hr
  ·rw[kL _ _ e];exact hs.refS m
theorem SimG.refld (hs:SimG C g S H a w) {n i:Nat} {v:SV} (hv:∀ t,H (.site n)=.obj t→∀ cs,Blk w (g.st n) cs→(∀ A,dN t i=some A→SR g (view g.fl w) v (mkV A (nY t cs i)))∧(t.agg=false→i=0→SR g (view g.fl w) v (cs.headD undef)))
  (hne:v≠.bot) (hr:aG H v):SimG C g S (ak H (.fld n i) v) a w:=by
 have hx:∀ l,l≠HLoc.fld n i→ak H (.fld n i) v l=H l:=fun l h=>ay _ _ h;refine{ hs with comps:=fun d j=> ?_,sites:=fun m t hm=> ?_,rows:=fun r p e x hr'=> ?_,deeps:=fun r e x n hh hr=> ?_,refR:=fun r=> ?_,refS:=fun n=>aG.upd hne (hs.refS n),refC:=fun d j=> ?_,refF:=fun m j=> ?_,pin:=fun pd pi pv ph=>⟨fF hne (hs.pin pd pi pv ph).1,(hs.pin pd pi pv ph).2⟩ }
 ·rw[hx _ (by simp)];exact hs.comps d j
 ·rw[hx _ (by simp)] at hm;obtain⟨cs,h1,h2,h3,h4⟩:=hs.sites m t hm;refine⟨cs,h1,h2,h3,h4.remap (fun j A hj h=> ?_) fun ha h=> ?_⟩
  ·by_cases e:HLoc.fld m j=.fld n i
   ·cases e;simp only[aK];exact(hv t hm cs h1).1 A hj
   ·simp only[hx _ e];exact h
  ·by_cases e:HLoc.fld m 0=.fld n i
   ·cases e;simp only[aK];exact(hv t hm cs h1).2 ha rfl
   ·simp only[hx _ e];exact h
 ·rw[hx _ (by simp)] at hr';exact hs.rows r p e x hr'
 ·rw[hx _ (by simp)] at hr;exact hs.deeps r e x n hh hr
 ·rw[hx _ (by simp)];exact aG.upd hne (hs.refR r)
 ·rw[hx _ (by simp)];exact aG.upd hne (hs.refC d j)
 ·by_cases e:HLoc.fld m j=.fld n i
  ·rw[e,aK];exact aG.upd hne hr
  ·rw[hx _ e];exact aG.upd hne (hs.refF m j)
open Classical in
noncomputable def lookO:List (Own×Own)→(Own→Option Own)→Own→Option Own
 | [],base,o=>base o
 | (x,y)::r,base,o=>if o=x then some y else lookO r base o
theorem Ci {base:Own→Option Own}:∀ {m:List (Own×Own)},(m.map fun p=>p.1).Nodup→∀ p∈m,lookO m base p.1=some p.2
 | [],_,p,hp=>by simp at hp
 | (x,y)::r,h,p,hp=>by
  simp only[map_cons,nodup_cons] at h;unfold lookO;rcases mem_cons.1 hp with rfl|hp
  ·simp
  ·have:p.1≠x:=fun e=>h.1 (e▸mem_map.2 ⟨p,hp,rfl⟩);rw[if_neg this];exact Ci h.2 p hp
theorem PE {base:Own→Option Own} {o:Own}:∀ {m:List (Own×Own)},(∀ p∈m,p.1≠o)→lookO m base o=base o
 | [],_=>rfl
 | (x,y)::r,h=>by unfold lookO;rw[if_neg fun e=>h (x,y) (by simp) e.symm];exact PE fun p hp=>h p (by simp[hp])
theorem zdf {r:Nat} {pub:Bool} {e:Ty} {l:List e.den}:qE g w r pub e l↔iq g.fl g.own w (g.hd r) (.row r) pub e l:=Iff.rfl
theorem iq.relabel {fl:Nat→Nat} {own own':Nat→Option Own} {v:Value} {o o':Own} {pub:Bool} {e:Ty} {l:List e.den} (h:iq fl own w v o pub e l) (ho:∀ b,own b=some o→own' b=some o'):iq fl own' w v o' pub e l:=by
 rcases h with h|⟨b,cap,cs,h1,h2,h3,h4,h5,h6,h7⟩
 ·exact .inl h
 ·exact .inr ⟨b,cap,cs,h1,h2,h3,h4,ho b h5,h6,h7⟩
theorem iq.oneC {fl:Nat→Nat} {own:Nat→Option Own} {v:Value} {o:Own} {pub:Bool} {e:Ty} {l:List e.den} (h:iq fl own w v o pub e l):∃ ad n c,v=.slice ad n c:=by
 rcases h with⟨h,_⟩|⟨b,cap,cs,h1,_⟩
 ·exact⟨_,_,_,h⟩
 ·exact⟨_,_,_,h1⟩
end
def dK:Own→HLoc
 | .site n=>.site n
 | .row r=>.row r
theorem yB:∀ {l:List HLoc},mY l=true→l.Nodup
 | [],_=>List.nodup_nil
 | a::r,h=>by
  simp only[mY] at h;cases hb:dA a r with
  | true=>rw[hb] at h;exact noConfusion h
  | false=>rw[hb] at h;exact nodup_cons.2 ⟨fun hm=>by rw[Rj.2 hm] at hb;exact noConfusion hb,yB h⟩
theorem IE {m:List (Own×Own)} (h:(m.map fun p=>dK p.1).Nodup):(m.map fun p=>p.1).Nodup:=by
 have:(m.map fun p=>dK p.1)=(m.map fun p=>p.1).map dK:=by rw[List.map_map];rfl
 rw[this] at h;exact List.Pairwise.imp (fun hne e=>hne (congrArg dK e)) (List.pairwise_map.1 h)
theorem Blk.uniq {w:World} {b:Nat} {cs cs':List Value} (h:Blk w b cs) (h':Blk w b cs'):cs=cs':=by
 obtain⟨_,_,h,_⟩:=h;obtain⟨_,_,h',_⟩:=h';rw[h] at h';simp only[Option.some.injEq,Obj.cells.injEq] at h';simpa using congrArg Array.toList h'.1
def Cj (t:Ty) (cs:List Value) (i:Nat):Value:=
 cond t.agg (match dN t i with|some A=>mkV A (nY t cs i)|none=>undef) (cs.headD undef)
theorem Zz:∀ {t:Ty} {i:Nat},i<nf t→∃ A,dN t i=some A:=by
 intro t;induction t with
 | pair A B _ hB=>
  intro i h;cases i with
  | zero=>exact⟨A,rfl⟩
  | succ i=>exact hB (i:=i) (by simp[nf] at h;omega)
 | _=>intro i h;simp[nf] at h
def Has (st:Nat→Nat) (H:HLoc→SV) (a:Act) (w:World):Place→Value→Prop
 | .slot n,v=>v=a.tmps.getD n undef
 | .fld s i,v=>∃ t cs,H (.site s)=.obj t∧Blk w (st s) cs∧v=Cj t cs i
def CF1 (fl:Nat→Nat) (own:Nat→Option Own) (w:World) (rid:Nat) (c:Carry) (val:Value) (x:c.t.den) (m:List (Own×Own)):Prop:=
 match c with
 | ⟨_,t,.pv⟩=>m=[]∧bM (view fl w) t val x
 | ⟨_,.slice e,.own pub⟩=>((val=.slice none 0 0∧x=[])∧m=[])∨∃ r,m=[(.row r,.row rid)]∧iq fl own w val (.row r) pub e x
 | ⟨_,.ptr e,.own pub⟩=>∃ h,nI val h∧(((h=.slice none 0 0∧x=[])∧m=[])∨∃ r,m=[(.row r,.row rid)]∧iq fl own w h (.row r) pub e x)
 | ⟨_,_,.own _⟩=>False
 | ⟨_,.pair (.ptr e) (.int _),.deep⟩=>(∀ p∈m,∃ r,p=(.row r,.row rid))∧∃ h,nI val h∧∀ own':Nat→Option Own,(∀ p∈m,∀ b,own b=some p.1→own' b=some p.2)→fO fl own' w h (.row rid) e x.1 (toNat x.2) none
 | ⟨_,.pair (.slice e) (.int _),.deep⟩=>(∀ p∈m,∃ r,p=(.row r,.row rid))∧∀ own':Nat→Option Own,(∀ p∈m,∀ b,own b=some p.1→own' b=some p.2)→fO fl own' w val (.row rid) e x.1 (toNat x.2) none
 | ⟨_,_,.deep⟩=>False
def CF (fl:Nat→Nat) (own:Nat→Option Own) (w:World) (P:Place→Value→Prop):Nat→(cs:List Carry)→(gB cs).den→List (Own×Own)→Prop
 | _,[],_,m=>m=[]
 | rid,c::r,x,m=>∃ val m1 m2,m=m1++m2∧P c.p val∧CF1 fl own w rid c val x.1 m1∧CF fl own w P (rid+1) r x.2 m2
def CG1 (fl:Nat→Nat) (own:Nat→Option Own) (w:World) (rid:Nat) (c:Carry) (val:Value) (x:c.t.den):Prop:=
 match c with
 | ⟨_,t,.pv⟩=>bM (view fl w) t val x
 | ⟨_,.slice e,.own pub⟩=>iq fl own w val (.row rid) pub e x
 | ⟨_,.ptr e,.own pub⟩=>∃ h,nI val h∧iq fl own w h (.row rid) pub e x
 | ⟨_,_,.own _⟩=>False
 | ⟨_,.pair (.ptr e) (.int _),.deep⟩=>∃ h,nI val h∧fO fl own w h (.row rid) e x.1 (toNat x.2) none
 | ⟨_,.pair (.slice e) (.int _),.deep⟩=>fO fl own w val (.row rid) e x.1 (toNat x.2) none
 | ⟨_,_,.deep⟩=>False
def CG (fl:Nat→Nat) (own:Nat→Option Own) (w:World) (P:Place→Value→Prop):Nat→(cs:List Carry)→(gB cs).den→Prop
 | _,[],_=>True
 | rid,c::r,x=>∃ val,P c.p val∧CG1 fl own w rid c val x.1∧CG fl own w P (rid+1) r x.2
section
variable {C:Ctx} {g:Gh} {S:Nat→SV} {H:HLoc→SV} {a:Act} {w:World}
theorem CF.change {fl:Nat→Nat} {own own':Nat→Option Own} {P P':Place→Value→Prop}:∀ {cs:List Carry} {rid:Nat} {x:(gB cs).den} {m:List (Own×Own)},CF fl own w P rid cs x m→(∀ c∈cs,∀ v,P c.p v→P' c.p v)→
  (∀ p∈m,∀ b,own b=some p.1→own' b=some p.2)→CG fl own' w P' rid cs x:=by
 intro cs;induction cs with
 | nil=>intro rid x m _ _ _;trivial
 | cons c r ih=>
  rintro rid x m ⟨val,m1,m2,rfl,h1,h2,h3⟩ hP ho;refine⟨val,hP c (by simp) val h1,?_,ih h3 (fun c' hc=>hP c' (by simp[hc])) fun p hp=>ho p (by simp[hp])⟩;obtain⟨pl,t,md⟩:=c;cases md with
  | pv=>exact h2.2
  | own pub=>
   cases t with
   | slice e=>
    rcases h2 with⟨h,_⟩|⟨r',rfl,h⟩
    ·exact .inl h
    ·exact h.relabel fun b hb=>ho (.row r',.row rid) (by simp) b hb
   | ptr e=>
    obtain⟨hh,hp,h2⟩:=h2;refine⟨hh,hp,?_⟩;rcases h2 with⟨h,_⟩|⟨r',rfl,h⟩
    ·exact .inl h
    ·exact h.relabel fun b hb=>ho (.row r',.row rid) (by simp) b hb
   | _=>exact h2.elim
  | deep=>
   cases t with
   | pair A B=>cases A<;>cases B<;>first|exact h2.elim|exact h2.2 own' fun p hp=>ho p (by simp[hp])|(obtain⟨_,hh,hp,h2⟩:=h2;exact⟨hh,hp,h2 own' fun p hp=>ho p (by simp[hp])⟩)
   | _=>exact h2.elim
theorem CF.mem {fl:Nat→Nat} {own:Nat→Option Own} {P:Place→Value→Prop}:∀ {cs:List Carry} {rid:Nat} {x:(gB cs).den} {m:List (Own×Own)},CF fl own w P rid cs x m→∀ p∈m,∃ r k,p=(.row r,.row k):=by
 intro cs;induction cs with
 | nil=>intro rid x m h p hp;rw[show m=[] from h] at hp;simp at hp
 | cons c r ih=>
  rintro rid x m ⟨val,m1,m2,rfl,h1,h2,h3⟩ p hp;rcases mem_append.1 hp with hp|hp
  ·obtain⟨pl,t,md⟩:=c;cases md with
   | pv=>rw[h2.1] at hp;simp at hp
   | own pub=>
    cases t with
    | slice e=>
     rcases h2 with⟨_,rfl⟩|⟨r',rfl,_⟩
     ·simp at hp
     ·simp at hp;exact⟨_,_,hp⟩
    | ptr e=>
     obtain⟨_,_,h2⟩:=h2;rcases h2 with⟨_,rfl⟩|⟨r',rfl,_⟩
     ·simp at hp
     ·simp at hp;exact⟨_,_,hp⟩
    | _=>exact h2.elim
   | deep=>
    cases t with
    | pair A B=>cases A<;>cases B<;>first|exact h2.elim|(obtain⟨r,e⟩:=h2.1 p hp;exact⟨_,_,e⟩)
    | _=>exact h2.elim
  ·exact ih h3 p hp
theorem zbX (hs:SimG C g S H a w) {c:Carry} {v:SV} {val:Value} {x:c.t.den} {pubs:HW} {drops keeps:List HLoc} {fp fp':List HLoc} (h:(Lc c v).run H fp=some ((x,pubs,drops,keeps),fp'))
  (hv:SR g (view g.fl w) v val) (hr:aG H v) (rid:Nat):bC H pubs∧∀ {hw:HW} {fl:Nat→Nat} {own:Nat→Option Own},(∀ y∈pubs,y∈hw)→bC H hw→(∀ l∈keeps,l ∉ au hw)→SimG C { g with fl:=fl,own:=own } S (puts H hw) a w→(view g.fl w).le (view fl w)→
   ∃ m,drops=m.map (fun p=>dK p.1)∧CF1 fl own w rid c val x m:=by
 obtain⟨pl,t,md⟩:=c;unfold Lc at h;cases md with
 | pv=>simp only at h;obtain⟨⟨y,hw1⟩,fp1,k1,h⟩:=ah h;obtain⟨e,_⟩:=af h;cases e;obtain⟨p1,p2⟩:=oz hs k1 hv hr;exact⟨p1,fun hsub hp hk hs' hle=>⟨[],rfl,rfl,p2 _ _ ((hs'.rowsRd hp).sub hsub) hle⟩⟩
 | own pub=>
  simp only at h;split at h
  ·obtain⟨⟨y,hw1⟩,fp1,k1,h⟩:=ah h;obtain⟨e,_⟩:=af h;cases e;cases t<;>first|exact(ae k1).elim|skip
   obtain⟨e1,_⟩:=af k1;cases e1;exact⟨trivial,fun _ _ _ _ _=>⟨[],rfl,.inl ⟨⟨hv,rfl⟩,rfl⟩⟩⟩
  ·rename_i r;simp only[Rd.run] at h;split at h
   ·rename_i p e l hrow;cases hp:cond p pub true with
    | false=>rw[hp] at h;exact(ae h).elim
    | true=>
     rw[hp] at h;obtain⟨y,fp1,k1,h⟩:=ah h;obtain⟨k1,_⟩:=aS k1;obtain⟨e1,_⟩:=af h;cases e1;obtain⟨he,rfl⟩:=dm k1;subst he;refine⟨?_,fun{hw fl own} hsub hpb hk hs' hle=>⟨[(.row r,.row rid)],rfl,.inr ⟨r,rfl,?_⟩⟩⟩
     ·cases pub<;>cases p<;>first|trivial|exact⟨⟨r,false,e,l,rfl,rfl,.inl hrow⟩,trivial⟩
     ·have hval:val=g.hd r:=hv;rw[hval];have hrow':puts H hw (.row r)=.row pub e l:=by
       cases pub with
       | true=>
        refine vM hpb ?_;cases p with
        | true=>exact .inl hrow
        | false=>exact .inr (hsub _ (by simp))
       | false=>
        have hpf:p=false:=by cases p<;>simp_all
        rw[cZ (hk _ (by simp)),hrow,hpf]
      exact hs'.rows r pub e l hrow'
   ·exact(ae h).elim
  ·cases pub with
   | true=>exact(ae h).elim
   | false=>
    simp only[cond_false] at h;cases t<;>first|exact(ae h).elim|skip
    obtain⟨e1,_⟩:=af h;cases e1;exact⟨trivial,fun _ _ _ _ _=>⟨[],rfl,_,.inl ⟨hv,rfl⟩,.inl ⟨⟨rfl,rfl⟩,rfl⟩⟩⟩
  ·rename_i r;simp only[Rd.run] at h;split at h
   ·rename_i p e l hrow;cases hp:cond p true pub with
    | true=>rw[hp] at h;exact(ae h).elim
    | false=>
     rw[hp] at h;obtain⟨y,fp1,k1,h⟩:=ah (show((Rd.ofO (bi (.ptr e) t l)).bind _).run H _=_ from h);obtain⟨k1,_⟩:=aS k1;obtain⟨e1,_⟩:=af h;cases e1;obtain⟨he,rfl⟩:=dm k1;subst he;have hpf:p=false:=by cases p<;>first|rfl|exact noConfusion hp
     subst hpf;have hpf:pub=false:=hp;subst hpf;refine⟨trivial,fun{hw fl own} hsub hpb hk hs' hle=>⟨[(.row r,.row rid)],rfl,g.hd r,hv,.inr ⟨r,rfl,?_⟩⟩⟩;have hrow':puts H hw (.row r)=.row false e l:=by rw[cZ (hk _ (by simp)),hrow]
     exact hs'.rows r false e l hrow'
   ·exact(ae h).elim
  ·exact(ae h).elim
 | deep=>
  simp only at h;split at h
  ·
   cases t with
   | pair A B=>
    cases A<;>cases B<;>first|exact(ae h).elim|skip
    obtain⟨e1,_⟩:=af h;cases e1;exact⟨trivial,fun _ _ _ _ _=>⟨[],rfl,fun p hp=>(by simp at hp),fun own' _=>⟨le_refl _,fun k x h=>(by cases h),.inl ⟨hv,rfl⟩⟩⟩⟩
   | _=>exact(ae h).elim
  ·
   cases t with
   | pair A B=>
    cases A<;>cases B<;>first|exact(ae h).elim|skip
    obtain⟨e1,_⟩:=af h;cases e1;exact⟨trivial,fun _ _ _ _ _=>⟨[],rfl,fun p hp=>(by simp at hp),_,.inl ⟨hv,rfl⟩,fun own' _=>⟨le_refl _,fun k x h=>(by cases h),.inl ⟨rfl,rfl⟩⟩⟩⟩
   | _=>exact(ae h).elim
  ·rename_i r;simp only[Rd.run] at h;have hval:nI val (g.hd r):=hv;split at h
   ·rename_i p e l hrow;cases p with
    | true=>exact(ae h).elim
    | false=>
     simp only[cond_false] at h;obtain⟨y,fp1,k1,h⟩:=ah h;obtain⟨k1,_⟩:=aS k1;obtain⟨e1,_⟩:=af h;cases e1;obtain⟨he,rfl⟩:=dm k1;subst he;refine⟨trivial,fun{hw fl own} _ hpb hk hs' hle=>⟨[(.row r,.row rid)],rfl,fun p hp=>⟨r,by simpa using hp⟩,_,hval,fun own' ho=> ?_⟩⟩;have hrow':puts H hw (.row r)=.row false e l:=by rw[cZ (hk _ (by simp)),hrow]
     exact iq.deep0 ((zdf.1 (hs'.rows r false e l hrow')).relabel fun b hb=>ho (.row r,.row rid) (by simp) b hb)
   ·rename_i e l n hh hrow;cases hh with
    | none=>
     simp only at h;obtain⟨y,fp1,k1,h⟩:=ah h;obtain⟨k1,_⟩:=aS k1;obtain⟨e1,_⟩:=af h;cases e1;obtain⟨he,rfl⟩:=dm k1;subst he;refine⟨trivial,fun{hw fl own} _ hpb hk hs' hle=>⟨[(.row r,.row rid)],rfl,fun p hp=>⟨r,by simpa using hp⟩,_,hval,fun own' ho=> ?_⟩⟩;have hrow':puts H hw (.row r)=.deep e l n none:=by rw[cZ (hk _ (by simp)),hrow]
     exact(hs'.deeps r e l n none hrow').frame (IV.le.refl _) fun b hb=>⟨fun _ h=>h,ho (.row r,.row rid) (by simp) b hb,rfl⟩
    | some p=>
     obtain⟨i,q⟩:=p;simp only[Rd.run] at h;split at h
     ·rename_i pb u l' hq;cases pb with
      | true=>exact(ae h).elim
      | false=>
       simp only[cond_false] at h;obtain⟨x0,hi,h⟩:=bP h;split at h
       ·rename_i f hf;obtain⟨y,fp1,k1,h⟩:=ah h;obtain⟨k1,_⟩:=aS k1;obtain⟨he,rfl⟩:=dm k1;cases he;obtain⟨z,fp2,k2,h⟩:=ah h;obtain⟨k2,_⟩:=aS k2;obtain⟨y,fp3,k3,h⟩:=ah h;obtain⟨k3,_⟩:=aS k3;obtain⟨e1,_⟩:=af h;cases e1;obtain⟨he,rfl⟩:=dm k3;subst he;have hqr:q≠r:=fun e=>by rw[e,hrow] at hq;cases hq
        refine⟨trivial,fun{hw fl own} _ hpb hk hs' hle=>⟨[(.row r,.row rid),(.row q,.row rid)],rfl,fun p hp=> ?_,_,hval,fun own' ho=> ?_⟩⟩
        ·simp at hp;rcases hp with hp|hp
         ·exact⟨r,hp⟩
         ·exact⟨q,hp⟩
        ·have hrow':puts H hw (.row r)=.deep e l n (some (i,q)):=by rw[cZ (hk _ (by simp)),hrow]
         have hq':puts H hw (.row q)=.row false f.2 l':=by rw[cZ (hk _ (by simp)),hq]
         exact fO.fill hqr (hs'.deeps r e l n _ hrow') hi (off:=f.1) (u:=f.2) (by rw[hf]) (zdf.1 (hs'.rows q false _ l' hq')) k2 (fun b hb=>ho (.row r,.row rid) (by simp) b hb) fun b hb=>ho (.row q,.row rid) (by simp) b hb
       ·exact(ae h).elim
     ·exact(ae h).elim
   ·exact(ae h).elim
  ·rename_i r;simp only[Rd.run] at h;have hval:val=g.hd r:=hv;split at h
   ·rename_i p e l hrow;cases p with
    | true=>exact(ae h).elim
    | false=>
     simp only[cond_false] at h;obtain⟨y,fp1,k1,h⟩:=ah h;obtain⟨k1,_⟩:=aS k1;obtain⟨e1,_⟩:=af h;cases e1;obtain⟨he,rfl⟩:=dm k1;subst he;refine⟨trivial,fun{hw fl own} _ hpb hk hs' hle=>⟨[(.row r,.row rid)],rfl,fun p hp=>⟨r,by simpa using hp⟩,fun own' ho=> ?_⟩⟩;have hrow':puts H hw (.row r)=.row false e l:=by rw[cZ (hk _ (by simp)),hrow]
     rw[hval];exact iq.deep0 ((zdf.1 (hs'.rows r false e l hrow')).relabel fun b hb=>ho (.row r,.row rid) (by simp) b hb)
   ·rename_i e l n hh hrow;cases hh with
    | none=>
     simp only at h;obtain⟨y,fp1,k1,h⟩:=ah h;obtain⟨k1,_⟩:=aS k1;obtain⟨e1,_⟩:=af h;cases e1;obtain⟨he,rfl⟩:=dm k1;subst he;refine⟨trivial,fun{hw fl own} _ hpb hk hs' hle=>⟨[(.row r,.row rid)],rfl,fun p hp=>⟨r,by simpa using hp⟩,fun own' ho=> ?_⟩⟩;have hrow':puts H hw (.row r)=.deep e l n none:=by rw[cZ (hk _ (by simp)),hrow]
     rw[hval];exact(hs'.deeps r e l n none hrow').frame (IV.le.refl _) fun b hb=>⟨fun _ h=>h,ho (.row r,.row rid) (by simp) b hb,rfl⟩
    | some p=>
     obtain⟨i,q⟩:=p;simp only[Rd.run] at h;split at h
     ·rename_i pb u l' hq;cases pb with
      | true=>exact(ae h).elim
      | false=>
       simp only[cond_false] at h;obtain⟨x0,hi,h⟩:=bP h;split at h
       ·rename_i f hf;obtain⟨y,fp1,k1,h⟩:=ah h;obtain⟨k1,_⟩:=aS k1;obtain⟨he,rfl⟩:=dm k1;cases he;obtain⟨z,fp2,k2,h⟩:=ah h;obtain⟨k2,_⟩:=aS k2;obtain⟨y,fp3,k3,h⟩:=ah h;obtain⟨k3,_⟩:=aS k3;obtain⟨e1,_⟩:=af h;cases e1;obtain⟨he,rfl⟩:=dm k3;subst he;have hqr:q≠r:=fun e=>by rw[e,hrow] at hq;cases hq
        refine⟨trivial,fun{hw fl own} _ hpb hk hs' hle=>⟨[(.row r,.row rid),(.row q,.row rid)],rfl,fun p hp=> ?_,fun own' ho=> ?_⟩⟩
        ·simp at hp;rcases hp with hp|hp
         ·exact⟨r,hp⟩
         ·exact⟨q,hp⟩
        ·have hrow':puts H hw (.row r)=.deep e l n (some (i,q)):=by rw[cZ (hk _ (by simp)),hrow]
         have hq':puts H hw (.row q)=.row false f.2 l':=by rw[cZ (hk _ (by simp)),hq]
         rw[hval];exact fO.fill hqr (hs'.deeps r e l n _ hrow') hi (off:=f.1) (u:=f.2) (by rw[hf]) (zdf.1 (hs'.rows q false _ l' hq')) k2 (fun b hb=>ho (.row r,.row rid) (by simp) b hb) fun b hb=>ho (.row q,.row rid) (by simp) b hb
       ·exact(ae h).elim
     ·exact(ae h).elim
   ·exact(ae h).elim
  ·exact(ae h).elim
theorem zdF (hs:SimG C g S H a w) {p:Place} {s:St} (hS:s.S=S) {v:SV} {fp fp':List HLoc} (h:(JW s p).run H fp=some (v,fp')):∃ val,Has g.st H a w p val∧SR g (view g.fl w) v val∧aG H v:=by
 cases p with
 | slot n=>obtain⟨e,_⟩:=af h;cases e;rw[hS];exact⟨_,rfl,hs.slots n,hs.refS n⟩
 | fld s' i=>
  simp only[JW,Rd.run] at h;split at h
  ·rename_i t ht;cases hb:cond t.agg (Nat.blt i (nfT t)) (beq i 0) with
   | false=>rw[hb] at h;exact(ae h).elim
   | true=>
    rw[hb] at h;simp only[cond,Rd.run,Option.some.injEq,Prod.mk.injEq] at h;obtain⟨rfl,_⟩:=h;obtain⟨cs,h1,h2,h3,h4⟩:=hs.sites s' t ht;refine⟨_,⟨t,cs,ht,h1,rfl⟩,?_,hs.refF s' i⟩;unfold Cj;unfold dV at h4;cases ha:t.agg with
    | true=>
     rw[ha] at h4 hb;have hlt:i<nf t:=by rw[←JY];exact Nat.le_of_ble_eq_true hb
     obtain⟨A,hA⟩:=Zz hlt;obtain⟨_,k2⟩:=zcc.1 h4;have:=k2 i A hA;simpa[hA] using this
    | false=>rw[ha] at h4 hb;obtain⟨c,h5,h6,h7⟩:=h4;have:i=0:=eq_of_beq_eq_true hb;subst this;simpa[h5] using h7
  ·exact(ae h).elim
theorem zcP (hs:SimG C g S H a w) {s:St} (hS:s.S=S):∀ {cs:List Carry} {rid:Nat} {x:(gB cs).den} {pubs:HW} {drops keeps:List HLoc} {fp fp':List HLoc},(coll s cs).run H fp=some ((x,pubs,drops,keeps),fp')→
  bC H pubs∧∀ {hw:HW} {fl:Nat→Nat} {own:Nat→Option Own},(∀ y∈pubs,y∈hw)→bC H hw→(∀ l∈keeps,l ∉ au hw)→SimG C { g with fl:=fl,own:=own } S (puts H hw) a w→(view g.fl w).le (view fl w)→
   ∃ m,drops=m.map (fun p=>dK p.1)∧CF fl own w (Has g.st H a w) rid cs x m:=by
 intro cs;induction cs with
 | nil=>intro rid x pubs drops keeps fp fp' h;obtain⟨e,_⟩:=af h;cases e;exact⟨trivial,fun _ _ _ _ _=>⟨[],rfl,rfl⟩⟩
 | cons c r ih=>intro rid x pubs drops keeps fp fp' h;simp only[coll] at h;obtain⟨v,fp1,k1,h⟩:=ah h;obtain⟨⟨x1,p1,d1,q1⟩,fp2,k2,h⟩:=ah h;obtain⟨⟨x2,p2,d2,q2⟩,fp3,k3,h⟩:=ah h;obtain⟨e,_⟩:=af h;cases e;obtain⟨val,v1,v2,v3⟩:=zdF hs hS k1;obtain⟨c1,c2⟩:=zbX hs k2 v2 v3 rid;obtain⟨i1,i2⟩:=ih (rid:=rid+1) k3;refine⟨bC.append.2 ⟨c1,i1⟩,fun hsub hp hk hs' hle=> ?_⟩;obtain⟨m1,e1,f1⟩:=c2 (fun y hy=>hsub y (mem_append_left _ hy)) hp (fun l hl=>hk l (mem_append_left _ hl)) hs' hle;obtain⟨m2,e2,f2⟩:=i2 (fun y hy=>hsub y (mem_append_right _ hy)) hp (fun l hl=>hk l (mem_append_right _ hl)) hs' hle;exact⟨m1++m2,by simp[e1,e2],val,m1,m2,rfl,v1,f1,f2⟩
theorem zbm:∀ {cs:List Carry} {rid:Nat} {x:(gB cs).den} {g:Gh} {s:St},SimG C g s.S s.H a w→CG g.fl g.own w (Has g.st s.H a w) rid cs x→(∀ k,k<cs.length→s.H (.row (rid+k))=.bot)→
  ∃ g',SimG C g' (oL s rid cs x).S (oL s rid cs x).H a w:=by
 intro cs;induction cs with
 | nil=>intro rid x g s hs _ _;exact⟨g,hs⟩
 | cons c r ih=>
  rintro rid x g s hs ⟨val,h1,h2,h3⟩ hf;simp only[oL];have place:∀ {g:Gh} {s:St} {v:SV},SimG C g s.S s.H a w→Has g.st s.H a w c.p val→SR g (view g.fl w) v val→aG s.H v→v≠.bot→SimG C g (ig s c.p v).S (ig s c.p v).H a w:=by
   intro g s v hs hh hv hr hne;cases hp:c.p with
   | slot n=>rw[hp] at hh;exact hs.reslot (by rw[←show val=a.tmps.getD n undef from hh];exact hv) hr
   | fld s' i=>
    rw[hp] at hh;obtain⟨t,cs,q1,q2,q3⟩:=hh;refine hs.refld (fun t' ht' cs' hcs'=> ?_) hne hr;rw[q1] at ht';cases ht';obtain rfl:=q2.uniq hcs';refine⟨fun A hA=> ?_,fun ha hi=> ?_⟩
    ·have hag:t.agg=true:=by cases t<;>first|rfl|(simp[dN] at hA)
     rw[q3] at hv;simpa[Cj,hag,hA] using hv
    ·rw[q3] at hv;simpa[Cj,ha] using hv
  have Has_pl:∀ {s:St} {st:Nat→Nat} {p p':Place} {v:SV} {val:Value},Has st s.H a w p val→Has st (ig s p' v).H a w p val:=by
   intro s st p p' v val h;cases p with
   | slot n=>exact h
   | fld s' i=>
    obtain⟨t,cs,q1,q2⟩:=h;refine⟨t,cs,?_,q2⟩;cases p' with
    | slot n=>exact q1
    | fld s'' j=>simp only[ig];rw[ay _ _ (by simp)];exact q1
  have row_pl:∀ {s:St} {p':Place} {v:SV} {k:Nat},(ig s p' v).H (.row k)=s.H (.row k):=by
   intro s p' v k;cases p' with
   | slot n=>rfl
   | fld s'' j=>simp only[ig];rw[ay _ _ (by simp)]
  have CG_mono:∀ {fl:Nat→Nat} {own:Nat→Option Own} {P P':Place→Value→Prop},(∀ p v,P p v→P' p v)→∀ {cs:List Carry} {rid:Nat} {x:(gB cs).den},CG fl own w P rid cs x→CG fl own w P' rid cs x:=by
   intro fl own P P' hP cs;induction cs with
   | nil=>intro rid x h;trivial
   | cons c r ih=>rintro rid x ⟨v,a1,a2,a3⟩;exact⟨v,hP _ _ a1,a2,ih a3⟩
  obtain⟨pl,t,md⟩:=c;cases md with
  | pv=>have:=place (v:=.pv t x.1) hs h1 h2 trivial SV.noConfusion;refine ih this (CG_mono (fun p v h=>Has_pl h) h3) fun k hk=> ?_;show(ig s pl _).H _=_;rw[row_pl];have:=hf (k+1) (by simpa using hk);rwa[show rid+(k+1)=rid+1+k from by omega] at this
  | own pub=>
   cases t with
   | slice e=>
    have hbot:s.H (.row rid)=.bot:=hf 0 (by simp);have hA:GAgree s.H g { g with hd:=aA g.hd rid val }:=⟨fun _ _=>rfl,fun r' hr'=>bn _ _ fun e=>hr' (e▸hbot),fun _ _ _=>rfl,rfl⟩
    have hg:=hs.grow hA (IV.le.refl _) (fun _ _ _ h=>⟨rfl,h,rfl⟩) (fun _ _ _ h=>⟨rfl,h,rfl⟩) hs.own hs.old hs.ext;have hrow:=hg.setRow (r:=rid) (pub:=pub) (e:=e) (l:=x.1) (zdf.2 (by show iq g.fl g.own w (aA g.hd rid val rid) _ _ _ _;rw[bJ];exact h2));have:=place (s:={ s with H:=ak s.H (.row rid) (.row pub e x.1) }) (v:=.hdr rid) hrow (by
      cases pl with
      | slot n=>exact h1
      | fld s' i=>obtain⟨t,cs,q1,q2⟩:=h1;exact⟨t,cs,by dsimp only;rw[ay _ _ (by simp)];exact q1,q2⟩) (by simp[SR]) (by simp only[aG];rw[aK];exact SV.noConfusion) SV.noConfusion
    refine ih this (CG_mono (fun p v h=> ?_) h3) fun k hk=> ?_
    ·refine Has_pl ?_;cases p with
     | slot n=>exact h
     | fld s' i=>obtain⟨t,cs,q1,q2⟩:=h;exact⟨t,cs,by dsimp only;rw[ay _ _ (by simp)];exact q1,q2⟩
    ·show(ig _ pl _).H _=_;rw[row_pl];dsimp only;rw[ay _ _ (by simp;omega)];have:=hf (k+1) (by simpa using hk);rwa[show rid+(k+1)=rid+1+k from by omega] at this
   | ptr e=>
    obtain⟨hh,hph,h2⟩:=h2;have hbot:s.H (.row rid)=.bot:=hf 0 (by simp);have hA:GAgree s.H g { g with hd:=aA g.hd rid hh }:=⟨fun _ _=>rfl,fun r' hr'=>bn _ _ fun e=>hr' (e▸hbot),fun _ _ _=>rfl,rfl⟩
    have hg:=hs.grow hA (IV.le.refl _) (fun _ _ _ h=>⟨rfl,h,rfl⟩) (fun _ _ _ h=>⟨rfl,h,rfl⟩) hs.own hs.old hs.ext;have hrow:=hg.setRow (r:=rid) (pub:=pub) (e:=e) (l:=x.1) (zdf.2 (by show iq g.fl g.own w (aA g.hd rid hh rid) _ _ _ _;rw[bJ];exact h2));have:=place (s:={ s with H:=ak s.H (.row rid) (.row pub e x.1) }) (v:=.own rid) hrow (by
      cases pl with
      | slot n=>exact h1
      | fld s' i=>obtain⟨t,cs,q1,q2⟩:=h1;exact⟨t,cs,by dsimp only;rw[ay _ _ (by simp)];exact q1,q2⟩) (by show nI val (aA g.hd rid hh rid);rw[bJ];exact hph) (by simp only[aG];rw[aK];exact SV.noConfusion) SV.noConfusion
    refine ih this (CG_mono (fun p v h=> ?_) h3) fun k hk=> ?_
    ·refine Has_pl ?_;cases p with
     | slot n=>exact h
     | fld s' i=>obtain⟨t,cs,q1,q2⟩:=h;exact⟨t,cs,by dsimp only;rw[ay _ _ (by simp)];exact q1,q2⟩
    ·show(ig _ pl _).H _=_;rw[row_pl];dsimp only;rw[ay _ _ (by simp;omega)];have:=hf (k+1) (by simpa using hk);rwa[show rid+(k+1)=rid+1+k from by omega] at this
   | _=>exact h2.elim
  | deep=>
   have ht:(∃ e k,t=.pair (.slice e) (.int k))∨∃ e k,t=.pair (.ptr e) (.int k):=by
    cases t with
    | pair A B=>cases A<;>cases B<;>first|exact h2.elim|exact .inl ⟨_,_,rfl⟩|exact .inr ⟨_,_,rfl⟩
    | _=>exact h2.elim
   rcases ht with⟨e,k,rfl⟩|⟨e,k,rfl⟩
   ·have h2:fO g.fl g.own w val (.row rid) e x.1.1 (toNat x.1.2) none:=h2;have hbot:s.H (.row rid)=.bot:=hf 0 (by simp);have hA:GAgree s.H g { g with hd:=aA g.hd rid val }:=⟨fun _ _=>rfl,fun r' hr'=>bn _ _ fun e=>hr' (e▸hbot),fun _ _ _=>rfl,rfl⟩
    have hg:=hs.grow hA (IV.le.refl _) (fun _ _ _ h=>⟨rfl,h,rfl⟩) (fun _ _ _ h=>⟨rfl,h,rfl⟩) hs.own hs.old hs.ext;have hrow:=hg.setDeep (r:=rid) (e:=e) (l:=x.1.1) (n:=toNat x.1.2) (h:=none) (by show fO g.fl g.own w (aA g.hd rid val rid) _ _ _ _ _;rw[bJ];exact h2) fun _ _ h=>by cases h
    have:=place (s:={ s with H:=ak s.H (.row rid) (.deep e x.1.1 (toNat x.1.2) none) }) (v:=.hdr rid) hrow (by
      cases pl with
      | slot n=>exact h1
      | fld s' i=>obtain⟨t,cs,q1,q2⟩:=h1;exact⟨t,cs,by dsimp only;rw[ay _ _ (by simp)];exact q1,q2⟩) (by simp[SR]) (by simp only[aG];rw[aK];exact SV.noConfusion) SV.noConfusion
    refine ih this (CG_mono (fun p v h=> ?_) h3) fun k hk=> ?_
    ·refine Has_pl ?_;cases p with
     | slot n=>exact h
     | fld s' i=>obtain⟨t,cs,q1,q2⟩:=h;exact⟨t,cs,by dsimp only;rw[ay _ _ (by simp)];exact q1,q2⟩
    ·show(ig _ pl _).H _=_;rw[row_pl];dsimp only;rw[ay _ _ (by simp;omega)];have:=hf (k+1) (by simpa using hk);rwa[show rid+(k+1)=rid+1+k from by omega] at this
   ·obtain⟨hh,hph,h2⟩:=h2;have h2:fO g.fl g.own w hh (.row rid) e x.1.1 (toNat x.1.2) none:=h2;have hbot:s.H (.row rid)=.bot:=hf 0 (by simp);have hA:GAgree s.H g { g with hd:=aA g.hd rid hh }:=⟨fun _ _=>rfl,fun r' hr'=>bn _ _ fun e=>hr' (e▸hbot),fun _ _ _=>rfl,rfl⟩
    have hg:=hs.grow hA (IV.le.refl _) (fun _ _ _ h=>⟨rfl,h,rfl⟩) (fun _ _ _ h=>⟨rfl,h,rfl⟩) hs.own hs.old hs.ext;have hrow:=hg.setDeep (r:=rid) (e:=e) (l:=x.1.1) (n:=toNat x.1.2) (h:=none) (by show fO g.fl g.own w (aA g.hd rid hh rid) _ _ _ _ _;rw[bJ];exact h2) fun _ _ h=>by cases h
    have:=place (s:={ s with H:=ak s.H (.row rid) (.deep e x.1.1 (toNat x.1.2) none) }) (v:=.own rid) hrow (by
      cases pl with
      | slot n=>exact h1
      | fld s' i=>obtain⟨t,cs,q1,q2⟩:=h1;exact⟨t,cs,by dsimp only;rw[ay _ _ (by simp)];exact q1,q2⟩) (by show nI val (aA g.hd rid hh rid);rw[bJ];exact hph) (by simp only[aG];rw[aK];exact SV.noConfusion) SV.noConfusion
    refine ih this (CG_mono (fun p v h=> ?_) h3) fun k hk=> ?_
    ·refine Has_pl ?_;cases p with
     | slot n=>exact h
     | fld s' i=>obtain⟨t,cs,q1,q2⟩:=h;exact⟨t,cs,by dsimp only;rw[ay _ _ (by simp)];exact q1,q2⟩
    ·show(ig _ pl _).H _=_;rw[row_pl];dsimp only;rw[ay _ _ (by simp;omega)];have:=hf (k+1) (by simpa using hk);rwa[show rid+(k+1)=rid+1+k from by omega] at this
def AL (s:St):Prop:=(∀ n∈s.lkS,qi s.lkH (s.S n)=true)∧∀ l∈s.lkH,qi s.lkH (s.H l)=true
structure Keep (s s':St):Prop where
 lkS:s'.lkS=s.lkS
 lkH:s'.lkH=s.lkH
 S:∀ n∈s.lkS,s'.S n=s.S n
 H:∀ l∈s.lkH,s'.H l=s.H l
theorem Keep.refl (s:St):Keep s s:=⟨rfl,rfl,fun _ _=>rfl,fun _ _=>rfl⟩
theorem Keep.trans {s t u:St} (h:Keep s t) (h':Keep t u):Keep s u:=
 ⟨h'.lkS.trans h.lkS,h'.lkH.trans h.lkH,fun n hn=>(h'.S n (h.lkS▸hn)).trans (h.S n hn),fun l hl=>(h'.H l (h.lkH▸hl)).trans (h.H l hl)⟩
theorem AL.keep {s s':St} (h:AL s) (hk:Keep s s'):AL s':=
 ⟨fun n hn=>by rw[hk.lkS] at hn;rw[hk.lkH,hk.S n hn];exact h.1 n hn,fun l hl=>by rw[hk.lkH] at hl ⊢;rw[hk.H l hl];exact h.2 l hl⟩
theorem y7 {ks:List HLoc} {d:Nat}:∀ {n:Nat},sS ks d n=true→∀ i,i<n→HLoc.comp d i∈ks
 | 0,_,i,hi=>by omega
 | n+1,h,i,hi=>by
  simp only[sS] at h;obtain⟨h1,h2⟩:=az h;by_cases e:i=n
  ·subst e;exact Rj.1 h1
  ·exact y7 h2 i (by omega)
theorem Tz {ks:List HLoc} {d:Nat}:∀ {n:Nat},(∀ i,i<n→HLoc.comp d i∈ks)→sS ks d n=true
 | 0,_=>rfl
 | n+1,h=>by simp only[sS,Rj.2 (h n (by omega)),cond];exact Tz fun i hi=>h i (by omega)
theorem OL {ks ks':List HLoc} (h:∀ l∈ks,l∈ks') {v:SV} (hv:qi ks v=true):qi ks' v=true:=by
 cases v<;>first|exact hv|(exact Rj.2 (h _ (Rj.1 hv)))|(exact Tz fun i hi=>h _ (y7 hv i hi))|skip
 rename_i e l n hh;cases hh with
 | none=>rfl
 | some p=>obtain⟨i,q⟩:=p;exact Rj.2 (h _ (Rj.1 hv))
theorem OM {S:Nat→SV} {ks:List HLoc}:∀ {l:List Nat},C9 S ks l=true→∀ n∈l,qi ks (S n)=true
 | [],_,n,hn=>by simp at hn
 | m::r,h,n,hn=>by
  simp only[C9] at h;obtain⟨h1,h2⟩:=az h;rcases mem_cons.1 hn with rfl|hn
  ·exact h1
  ·exact OM h2 n hn
theorem OO {H:HLoc→SV} {ks:List HLoc}:∀ {l:List HLoc},Dc H ks l=true→∀ n∈l,qi ks (H n)=true
 | [],_,n,hn=>by simp at hn
 | m::r,h,n,hn=>by
  simp only[Dc] at h;obtain⟨h1,h2⟩:=az h;rcases mem_cons.1 hn with rfl|hn
  ·exact h1
  ·exact OO h2 n hn
theorem AL.lock {s:St} (h:AL s) {rid:Nat} {σ:Shape} (hk:jV s rid σ=true):AL (lock s σ):=by
 unfold jV at hk;obtain⟨h1,h2⟩:=az hk;obtain⟨h2,h3⟩:=az h2;refine⟨fun n hn=> ?_,fun l hl=> ?_⟩
 ·rcases mem_append.1 hn with hn|hn
  ·exact OM h1 n hn
  ·exact OL (fun l hl=>mem_append_right _ hl) (h.1 n hn)
 ·rcases mem_append.1 hl with hl|hl
  ·exact OO h2 l hl
  ·exact OL (fun l hl=>mem_append_right _ hl) (h.2 l hl)
theorem CZ {ks:List HLoc} {v:SV} (hk:qi ks v=true) (hr:aG H v):aG (je H ks) v:=by
 have here:∀ {l},dA l ks=true→je H ks l=H l:=fun h=>by simp[je,h]
 cases v with
 | adr s o=>simp only[aG];rw[here hk];exact hr
 | hdr r=>simp only[aG];rw[here hk];exact hr
 | oel r i o z=>simp only[aG];rw[here hk];exact hr
 | sel s o z n j=>simp only[aG];rw[here hk];exact hr
 | tup d n=>have:n=0:=eq_of_beq_eq_true hk;subst this;intro i hi;omega
 | fn f d n=>intro i hi;rw[here (Rj.2 (y7 hk i hi))];exact hr i hi
 | agg d t=>intro i hi;rw[here (Rj.2 (y7 hk i (by rw[JY];exact hi)))];exact hr i hi
 | own r=>simp only[aG];rw[here hk];exact hr
 | cpy d i t=>simp only[aG];rw[here hk];exact hr
 | ref d j=>simp only[aG];rw[here hk];exact hr
 | vec d n=>intro i hi;rw[here (Rj.2 (y7 hk i hi))];exact hr i hi
 | deep e l n hh=>intro i q hq;subst hq;rw[here hk];exact hr i q rfl
 | _=>trivial
theorem Ih {lkS:List Nat} {lkH:List HLoc}:∀ {cs:List Carry} {rid:Nat},uk lkS lkH rid cs=true→
  (∀ k,k<cs.length→HLoc.row (rid+k) ∉ lkH)∧∀ c∈cs,match c.p with|.slot n=>n ∉ lkS|.fld a i=>HLoc.fld a i ∉ lkH∧HLoc.site a∈lkH
 | [],_,_=>⟨fun k h=>by simp at h,fun c hc=>by simp at hc⟩
 | c::r,rid,h=>by
  simp only[uk] at h;obtain⟨h1,h2⟩:=az h;obtain⟨k1,k2⟩:=Ih h2;cases hb:dA (.row rid) lkH with
  | true=>rw[hb] at h1;exact noConfusion h1
  | false=>
   rw[hb] at h1;refine⟨fun k hk hm=> ?_,fun c' hc'=> ?_⟩
   ·cases k with
    | zero=>rw[add_zero,←Rj,hb] at hm;exact noConfusion hm
    | succ k=>exact k1 k (by simpa using hk) (by rwa[show rid+1+k=rid+(k+1) from by omega])
   ·rcases mem_cons.1 hc' with rfl|hc'
    ·split
     ·rename_i n hp;rw[hp] at h1;intro hm;simp[zby.2 hm] at h1
     ·rename_i s i hp;rw[hp] at h1;simp only[cond] at h1;cases hf:dA (.fld s i) lkH with
      | true=>rw[hf] at h1;exact noConfusion h1
      | false=>rw[hf] at h1;exact⟨fun hm=>by rw[Rj.2 hm] at hf;exact noConfusion hf,Rj.1 h1⟩
    ·exact k2 c' hc'
end
section
variable {P:Program} {C:Ctx} {g:Gh} {a:Act} {w:World}
theorem zc6 {s:St} {p:Place} {v:SV}:(ig s p v).lkS=s.lkS∧(ig s p v).lkH=s.lkH:=by cases p<;>exact⟨rfl,rfl⟩
theorem Zh {lkS:List Nat} {lkH:List HLoc}:∀ {cs:List Carry} {rid:Nat} {s:St} {x:(gB cs).den},uk lkS lkH rid cs=true→
  (oL s rid cs x).lkS=s.lkS∧(oL s rid cs x).lkH=s.lkH∧(∀ n∈lkS,(oL s rid cs x).S n=s.S n)∧∀ l∈lkH,(oL s rid cs x).H l=s.H l:=by
 intro cs;induction cs with
 | nil=>intro rid s x _;exact⟨rfl,rfl,fun _ _=>rfl,fun _ _=>rfl⟩
 | cons c r ih=>
  intro rid s x h;obtain⟨h1,h2⟩:=Ih h;have ht:uk lkS lkH (rid+1) r=true:=by simp only[uk] at h;exact(az h).2
  simp only[oL];obtain⟨k1,k2,k3,k4⟩:=ih (s:=xe s rid c x.1) (x:=x.2) ht;have hc:=h2 c (by simp);have hrid:=h1 0 (by simp);rw[add_zero] at hrid;have pl:∀ (s:St) (v:SV),(ig s c.p v).lkS=s.lkS∧(ig s c.p v).lkH=s.lkH∧(∀ n∈lkS,(ig s c.p v).S n=s.S n)∧∀ l∈lkH,(ig s c.p v).H l=s.H l:=by
   intro s v;refine⟨zc6.1,zc6.2,fun n hn=> ?_,fun l hl=> ?_⟩
   ·cases hp:c.p with
    | slot m=>rw[hp] at hc;exact kL _ _ fun e=>hc (e▸hn)
    | fld s' i=>rfl
   ·cases hp:c.p with
    | slot m=>rfl
    | fld s' i=>rw[hp] at hc;exact ay _ _ fun e=>hc.1 (e▸hl)
  have one:(xe s rid c x.1).lkS=s.lkS∧(xe s rid c x.1).lkH=s.lkH∧(∀ n∈lkS,(xe s rid c x.1).S n=s.S n)∧∀ l∈lkH,(xe s rid c x.1).H l=s.H l:=by
   obtain⟨p,t,md⟩:=c;cases md with
   | pv=>exact pl s _
   | own pub=>
    cases t with
    | slice e=>obtain⟨a1,a2,a3,a4⟩:=pl { s with H:=ak s.H (.row rid) (.row pub e x.1) } (.hdr rid);refine⟨a1,a2,a3,fun l hl=>(a4 l hl).trans ?_⟩;exact ay _ _ fun e=>hrid (e▸hl)
    | ptr e=>obtain⟨a1,a2,a3,a4⟩:=pl { s with H:=ak s.H (.row rid) (.row pub e x.1) } (.own rid);refine⟨a1,a2,a3,fun l hl=>(a4 l hl).trans ?_⟩;exact ay _ _ fun e=>hrid (e▸hl)
    | _=>exact⟨rfl,rfl,fun _ _=>rfl,fun _ _=>rfl⟩
   | deep=>
    cases t with
    | pair A B=>
     cases A<;>cases B<;>first
      | exact⟨rfl,rfl,fun _ _=>rfl,fun _ _=>rfl⟩
      | (rename_i e _
         obtain⟨a1,a2,a3,a4⟩:=pl { s with H:=ak s.H (.row rid) (.deep e x.1.1 (toNat x.1.2) none) } (.hdr rid);refine⟨a1,a2,a3,fun l hl=>(a4 l hl).trans ?_⟩;exact ay _ _ fun e=>hrid (e▸hl))
      | (rename_i e _
         obtain⟨a1,a2,a3,a4⟩:=pl { s with H:=ak s.H (.row rid) (.deep e x.1.1 (toNat x.1.2) none) } (.own rid);refine⟨a1,a2,a3,fun l hl=>(a4 l hl).trans ?_⟩;exact ay _ _ fun e=>hrid (e▸hl))
    | _=>exact⟨rfl,rfl,fun _ _=>rfl,fun _ _=>rfl⟩
  exact⟨k1.trans one.1,k2.trans one.2.1,fun n hn=>(k3 n hn).trans (one.2.2.1 n hn),fun l hl=>(k4 l hl).trans (one.2.2.2 l hl)⟩
theorem Rw {S:Nat→SV} {ks:List Nat} {n:Nat} (h:n∈ks):lL S ks n=S n:=by simp[lL,zby.2 h]
theorem vP {H:HLoc→SV} {ks:List HLoc} {l:HLoc} (h:l∈ks):je H ks l=H l:=by simp[je,Rj.2 h]
theorem yD {H:HLoc→SV} {ks:List HLoc} {l:HLoc} (h:l ∉ ks):je H ks l=.bot:=by
 unfold je;cases hb:dA l ks with
 | true=>exact absurd (Rj.1 hb) h
 | false=>rfl
theorem Ol {s:St} {rid:Nat} {σ:Shape} {x:(gB σ.cs).den} (hk:jV s rid σ=true):(restore s rid σ x).lkS=s.lkS∧(restore s rid σ x).lkH=s.lkH∧
  (∀ n∈σ.keepS++s.lkS,(restore s rid σ x).S n=s.S n)∧∀ l∈σ.keepH++s.lkH,(restore s rid σ x).H l=s.H l:=by
 unfold jV at hk;obtain⟨_,hk⟩:=az hk;obtain⟨_,hc⟩:=az hk;obtain⟨h1,h2,h3,h4⟩:=Zh (s:={ s with S:=lL s.S (σ.keepS++s.lkS),H:=je s.H (σ.keepH++s.lkH) }) (x:=x) hc;exact⟨h1,h2,fun n hn=>(h3 n hn).trans (Rw hn),fun l hl=>(h4 l hl).trans (vP hl)⟩
theorem Keep.rest {s:St} {rid:Nat} {σ:Shape} {x:(gB σ.cs).den} (hk:jV s rid σ=true):Keep s (restore s rid σ x):=by
 obtain⟨h1,h2,h3,h4⟩:=Ol (x:=x) hk;exact⟨h1,h2,fun n hn=>h3 n (mem_append_right _ hn),fun l hl=>h4 l (mem_append_right _ hl)⟩
theorem Keep.lock_restore {s:St} {rid:Nat} {σ:Shape} {x:(gB σ.cs).den} (hk:jV s rid σ=true):Keep (lock s σ) (lock (restore s rid σ x) σ):=by
 obtain⟨h1,h2,h3,h4⟩:=Ol (x:=x) hk;exact⟨by simp only[lock,h1],by simp only[lock,h2],h3,h4⟩
theorem Keep.unlock {s s':St} {σ:Shape} (h:Keep (lock s σ) s'):Keep s { s' with lkS:=s.lkS,lkH:=s.lkH }:=
 ⟨rfl,rfl,fun n hn=>h.S n (mem_append_right _ hn),fun l hl=>h.H l (mem_append_right _ hl)⟩
structure LkC (C:Ctx) (s:St):Prop where
 lk:AL s
 pin:∀ d i v,C.pin d i=some v→HLoc.comp d i∈s.lkH
theorem LkC.keep {s s':St} (h:LkC C s) (hk:Keep s s'):LkC C s':=⟨h.lk.keep hk,fun d i v hp=>by rw[hk.lkH];exact h.pin d i v hp⟩
theorem LkC.lock {s:St} (h:LkC C s) {rid:Nat} {σ:Shape} (hk:jV s rid σ=true):LkC C (lock s σ):=⟨h.lk.lock hk,fun d i v hp=>mem_append_right _ (h.pin d i v hp)⟩
theorem Hw {nt:Nat×Nat} {s s':St} {rid:Nat} {σ:Shape} {x:(gB σ.cs).den} (hk:jV s rid σ=true) (hl:LkC C s) (hkeep:Keep (lock s σ) s') (hs:jk nt C s'.S s'.H a w) (hx:collect s' σ.cs=some x) :
  jk nt C (restore s rid σ x).S (restore s rid σ x).H a w:=by
 obtain⟨hn,g,hs⟩:=hs;refine⟨hn,?_⟩;unfold collect at hx;rw[Rd.runC_eq] at hx;obtain⟨⟨⟨x',pubs,drops,keeps⟩,fp⟩,h1,h2⟩:=bind_eq_some_iff.1 hx;simp only[force_eq] at h2;cases hb:cond (cond (zU s'.lkH pubs) (jJ drops s'.lkH) false) (cond (mY drops) (jJ keeps (au pubs)) false) false with
 | false=>rw[hb] at h2;simp at h2
 | true=>
  rw[hb] at h2;simp only[cond,Option.some.injEq] at h2;subst h2;obtain⟨b1,b2⟩:=az hb;obtain⟨b1,b3⟩:=az b1;obtain⟨b2,b4⟩:=az b2;obtain⟨p1,p2⟩:=zcP hs rfl (rid:=rid) h1;obtain⟨fl,own,q1,q2⟩:=hs.pubs p1;obtain⟨m,m1,m2⟩:=p2 (fun y hy=>hy) p1 (qX b4) q1 q2;have hkH:s'.lkH=σ.keepH++s.lkH:=hkeep.lkH;have hkS:s'.lkS=σ.keepS++s.lkS:=hkeep.lkS;have hll:=hl.lk.lock hk;have hput:∀ l∈σ.keepH++s.lkH,puts s'.H pubs l=s.H l:=fun l hl=>by rw[cZ (RD b1 l (hkH▸hl))];exact hkeep.H l hl
  have hSk:∀ n∈σ.keepS++s.lkS,s'.S n=s.S n:=fun n hn=>hkeep.S n hn;have eS:lL s.S (σ.keepS++s.lkS)=lL s'.S (σ.keepS++s.lkS):=by
   funext n;unfold lL;cases hm:lq n (σ.keepS++s.lkS) with
   | true=>exact(hSk n (zby.1 hm)).symm
   | false=>rfl
  have eH:je s.H (σ.keepH++s.lkH)=je (puts s'.H pubs) (σ.keepH++s.lkH):=by
   funext l;unfold je;cases hm:dA l (σ.keepH++s.lkH) with
   | true=>exact(hput l (Rj.1 hm)).symm
   | false=>rfl
  have hf:SimG C { g with fl:=fl,own:=own } (lL s.S (σ.keepS++s.lkS)) (je s.H (σ.keepH++s.lkH)) a w:=by
   rw[eS,eH];refine q1.forget (fun n=> ?_) (fun l=> ?_) (fun n=> ?_) (fun d i=> ?_) (fun n i=> ?_) (fun r=> ?_) fun d i v hp=>by rw[vP (mem_append_right _ (hl.pin d i v hp))];exact(q1.pin d i v hp).1
   ·unfold lL;cases lq n (σ.keepS++s.lkS)<;>simp
   ·unfold je;cases dA l (σ.keepH++s.lkH)<;>simp
   ·by_cases hm:n∈σ.keepS++s.lkS
    ·rw[Rw hm];exact CZ (by rw[hSk n hm];exact hll.1 n hm) (q1.refS n)
    ·have:lL s'.S (σ.keepS++s.lkS) n=.bot:=by
      unfold lL;cases hb:lq n (σ.keepS++s.lkS) with
      | true=>exact absurd (zby.1 hb) hm
      | false=>rfl
     rw[this];trivial
   ·by_cases hm:HLoc.comp d i∈σ.keepH++s.lkH
    ·rw[vP hm];exact CZ (by rw[hput _ hm];exact hll.2 _ hm) (q1.refC d i)
    ·rw[yD hm];trivial
   ·by_cases hm:HLoc.fld n i∈σ.keepH++s.lkH
    ·rw[vP hm];exact CZ (by rw[hput _ hm];exact hll.2 _ hm) (q1.refF n i)
    ·rw[yD hm];trivial
   ·by_cases hm:HLoc.row r∈σ.keepH++s.lkH
    ·rw[vP hm];exact CZ (by rw[hput _ hm];exact hll.2 _ hm) (q1.refR r)
    ·rw[yD hm];trivial
  have hdrop:∀ p∈m,dK p.1 ∉ σ.keepH++s.lkH:=fun p hp=>by
   have:dK p.1∈drops:=by rw[m1];exact mem_map.2 ⟨p,hp,rfl⟩
   rw[←hkH];exact qX b3 _ this
  have hnd:(m.map fun p=>p.1).Nodup:=IE (by rw[←m1];exact yB b2);let base:Own→Option Own:=fun o=>some o;let own2:Nat→Option Own:=fun b=>(own b).bind (lookO m base);have hkeepL:∀ o,dK o∈σ.keepH++s.lkH→lookO m base o=some o:=fun o ho=>PE fun p hp e=>hdrop p hp (e▸ho);have hmem:∀ l,je s.H (σ.keepH++s.lkH) l≠.bot→l∈σ.keepH++s.lkH:=fun l hl=>Classical.byContradiction fun hm=>hl (yD hm);have hg:SimG C { g with fl:=fl,own:=own2 } (lL s.S (σ.keepS++s.lkS)) (je s.H (σ.keepH++s.lkH)) a w:=by
   refine hf.grow (GAgree.same rfl rfl rfl) (IV.le.refl _) (fun n t hn ho=>⟨rfl,?_,rfl⟩) (fun r b hr ho=>⟨rfl,?_,rfl⟩) (fun b hb=>hf.own b fun e=>hb (by have e:own b=none:=e;simp[own2,e])) hf.old hf.ext
   ·have ho:own (g.st n)=some (.site n):=ho;simp only[own2,ho,bind_some];exact hkeepL (.site n) (hmem (.site n) (by rw[hn];exact SV.noConfusion))
   ·have ho:own b=some (.row r):=ho;simp only[own2,ho,bind_some];exact hkeepL (.row r) (hmem (.row r) (by rcases hr with⟨p,e,l,hr⟩|⟨e,l,n,h,hr⟩<;>rw[hr]<;>exact SV.noConfusion))
  have hkk:=hk;unfold jV at hkk;obtain⟨_,hkk⟩:=az hkk;obtain⟨_,hc⟩:=az hkk;obtain⟨c1,c2⟩:=Ih hc;have hCG:CG fl own2 w (Has g.st (je s.H (σ.keepH++s.lkH)) a w) rid σ.cs x':=by
   refine m2.change (fun c hcm v hv=> ?_) fun p hp b hb=> ?_
   ·have:=c2 c hcm;cases hpl:c.p with
    | slot n=>rw[hpl] at hv;exact hv
    | fld s'' i=>rw[hpl] at hv this;obtain⟨t,cs,e1,e2⟩:=hv;refine⟨t,cs,?_,e2⟩;rw[vP this.2];exact(hkeep.H _ this.2).symm.trans e1
   ·simp only[own2,hb,bind_some];exact Ci hnd p hp
  obtain⟨g',hfin⟩:=zbm (g:={ g with fl:=fl,own:=own2 }) (s:={ s with S:=lL s.S (σ.keepS++s.lkS),H:=je s.H (σ.keepH++s.lkH) }) hg hCG fun k hk'=>yD (c1 k hk');exact⟨g',hfin⟩
def zD (P:Program) (E:Env) (c:Code):Prop:=
 ∀ {C:Ctx} {R:Type} {s:St} {k:Exit→St→Option R} {r:R} {a:Act} {w:World} {Q:Exit→Act→World→Prop},fC E c s k=some r→jk (E.nt,E.lo) C s.S s.H a w→LkC C s→
  (∀ e a' w' s',jk (E.nt,E.lo) C s'.S s'.H a' w'→Keep s s'→k e s'=some r→Q e a' w')→c.wp P Q a w
theorem za9 {E:Env} {x y:Code} (hx:zD P E x) (hy:zD P E y) {R:Type} {s:St} {k:Exit→St→Option R} {r:R} {Q:Exit→Act→World→Prop} {σ:Shape} {rid:Nat}
  (h:cond (jV s rid σ) (Option.bind (fC E x (R:=(gB σ.cs).den⊕R) (lock s σ) fun e s'=>match e with
    | .normal=>map inl (collect s' σ.cs)
    | e=>map Sum.inr (k e { s' with lkS:=s.lkS,lkH:=s.lkH }))
    fun o=>Sum.elim (fun x=>fC E y (restore s rid σ x) k) some o) none=some r) (hs:jk (E.nt,E.lo) C s.S s.H a w) (hl:LkC C s)
  (hq:∀ e a' w' s',jk (E.nt,E.lo) C s'.S s'.H a' w'→Keep s s'→k e s'=some r→Q e a' w'):(Code.seq x y).wp P Q a w:=by
 cases hk:jV s rid σ with
 | false=>rw[hk] at h;simp at h
 | true=>
  rw[hk] at h;obtain⟨o,h1,h2⟩:=bind_eq_some_iff.1 (show Option.bind _ _=_ from h);refine wp_seq (hx h1 hs (hl.lock hk) fun e a' w' s' hs' hkeep he=> ?_);have other:(∀ z,o=inl z→False)→(∃ z,o=Sum.inr z∧k e { s' with lkS:=s.lkS,lkH:=s.lkH }=some z)→Q e a' w':=by rintro _ ⟨z,rfl,hz⟩;obtain rfl:z=r:=Option.some.inj h2;exact hq e a' w' { s' with lkS:=s.lkS,lkH:=s.lkH } hs' hkeep.unlock hz
  cases e with
  | normal=>obtain⟨x',h3,rfl⟩:=map_eq_some_iff.1 he;exact hy h2 (Hw hk hl hkeep hs' h3) (hl.keep (Keep.rest hk)) fun e a'' w'' s'' h4 h5 h6=>hq e a'' w'' s'' h4 ((Keep.rest hk).trans h5) h6
  | _=>obtain⟨z,h3,rfl⟩:=map_eq_some_iff.1 he;exact other (fun _ e=>by cases e) ⟨z,rfl,h3⟩
theorem zcB {E:Env} {body:Code} (hb:zD P E body) {R:Type} {s:St} {k:Exit→St→Option R} {r:R} {Q:Exit→Act→World→Prop} {σ:Shape} {rid:Nat}
  (hk:jV s rid σ=true) (hl:LkC C s) (hq:∀ e a' w' s',jk (E.nt,E.lo) C s'.S s'.H a' w'→Keep s s'→k e s'=some r→Q e a' w') {n:Nat} {x:(gB σ.cs).den}
  (h:iter (fun x=>fC E body (R:=(gB σ.cs).den⊕R) (lock (restore s rid σ x) σ) fun e s'=>match e with
     | .normal=>map inl (collect s' σ.cs)
     | e=>map Sum.inr (k e { s' with lkS:=s.lkS,lkH:=s.lkH })) n x=some r)
  (hs:jk (E.nt,E.lo) C (restore s rid σ x).S (restore s rid σ x).H a w):(Code.loop body).wp P Q a w:=by
 generalize hst:(fun x=>fC E body (R:=(gB σ.cs).den⊕R) (lock (restore s rid σ x) σ) fun e s'=>match e with
     | .normal=>map inl (collect s' σ.cs)
     | e=>map Sum.inr (k e { s' with lkS:=s.lkS,lkH:=s.lkH }))=step at h
 let I:Nat→Act→World→Prop:=fun n a w=>∃ x,iter step n x=some r∧jk (E.nt,E.lo) C (restore s rid σ x).S (restore s rid σ x).H a w;refine wp_loop_ghost I n ⟨x,h,hs⟩ fun n a w ⟨x,h1,h2⟩=> ?_;cases n with
 | zero=>simp[iter] at h1
 | succ m=>
  simp only[iter] at h1;obtain⟨o,h3,h4⟩:=bind_eq_some_iff.1 h1;rw[←hst] at h3;refine hb h3 h2 ((hl.lock hk).keep (Keep.lock_restore hk)) fun e a' w' s' hs' hkeep he=> ?_;have hkeep':Keep (lock s σ) s':=(Keep.lock_restore hk).trans hkeep;cases e with
  | normal=>obtain⟨x',h5,rfl⟩:=map_eq_some_iff.1 he;exact⟨m,Nat.lt_succ_self m,x',h4,Hw hk hl hkeep' hs' h5⟩
  | _=>obtain⟨z,h5,rfl⟩:=map_eq_some_iff.1 he;obtain rfl:z=r:=Option.some.inj h4;exact hq _ a' w' { s' with lkS:=s.lkS,lkH:=s.lkH } hs' hkeep'.unlock h5
theorem ZR {E:Env} {body:Code} (hb:zD P E body) {R:Type} {s:St} {k:Exit→St→Option R} {r:R} {Q:Exit→Act→World→Prop} {b0:Nat} (hl:LkC C s)
  (hq:∀ e a' w' s',jk (E.nt,E.lo) C s'.S s'.H a' w'→Keep s s'→k e s'=some r→Q e a' w') {n:Nat} (h:wo (fun s k=>fC E body s k) b0 n s k=some r) (hs:jk (E.nt,E.lo) C s.S s.H a w):(Code.loop body).wp P Q a w:=by
 let I:Nat→Act→World→Prop:=fun n a w=>∃ s1,wo (fun s k=>fC E body s k) b0 n s1 k=some r∧jk (E.nt,E.lo) C s1.S s1.H a w∧Keep s s1;refine wp_loop_ghost I n ⟨s,h,hs,Keep.refl s⟩ fun n a w ⟨s1,h1,h2,h3⟩=> ?_;cases n with
 | zero=>simp[wo] at h1
 | succ m=>
  simp only[wo] at h1;have hk1:Keep s { s1 with base:=b0*64+(m+1)*10000000000000000 }:=⟨h3.lkS,h3.lkH,h3.S,h3.H⟩
  refine hb h1 h2 (hl.keep hk1) fun e a' w' s' hs' hkeep he=> ?_;have hkeep':=hk1.trans hkeep;cases e with
  | normal=>exact⟨m,Nat.lt_succ_self m,s',he,hs',hkeep'⟩
  | _=>exact hq _ a' w' { s' with base:=b0 } hs' ⟨hkeep'.lkS,hkeep'.lkH,hkeep'.S,hkeep'.H⟩ he
theorem both_ok {R:Type} {x y:Option R} {r:R} (h:both x y=some r):x=some r∧y=some r:=by
 unfold both at h;split at h
 ·rename_i e;exact⟨h,e▸h⟩
 ·simp at h
theorem zb7 {E:Env} (hTab:TabOk P E.tab) (hΓ:uu P E.tab E.Γ) (hm:P.follows .mixedOrders=true) (c:Code):zD P E c:=by
 induction c with
 | skip=>intro C R s k r a w Q h hs _ hq;exact wp_skip (hq _ _ _ s hs (Keep.refl s) (by simpa[fC] using h))
 | region id ops draw=>intro C R s k r a w Q h hs _ hq;rw[fC] at h;exact ZL hTab hΓ hm h hs fun a' w' S' H' h1 h2 h3 h4=>hq .normal a' w' { s with S:=S',H:=H' } h1 ⟨rfl,rfl,h2,h3⟩ h4
 | seq x y hx hy=>
  intro C R s k r a w Q h hs hl hq;rw[fC] at h;split at h
  ·refine wp_seq (hx h hs hl fun e a' w' s' hs' hkeep he=> ?_);cases e with
   | normal=>exact hy he hs' (hl.keep hkeep) fun e a'' w'' s'' h4 h5 h6=>hq e a'' w'' s'' h4 (hkeep.trans h5) h6
   | _=>exact hq _ a' w' s' hs' hkeep he
  ·exact za9 hx hy h hs hl hq
 | cond o x y hx hy=>
  intro C R s k r a w Q h hs hl hq;rw[fC] at h;split at h
  ·rename_i b hb;have hv:=hs.2.elim fun g hg=>pK (hb▸(hg.ev o).1);refine wp_cond hv ?_;cases b with
   | true=>exact hx h hs hl hq
   | false=>exact hy h hs hl hq
  ·rename_i hb;have hv:∃ b,a.eval o=.bool b:=hs.2.elim fun g hg=>by have:=(hg.ev o).1;rw[hb] at this;exact this
   obtain⟨b,hv⟩:=hv;obtain⟨h1,h2⟩:=both_ok h;refine wp_cond hv ?_;cases b with
   | true=>exact hx h1 hs hl hq
   | false=>exact hy h2 hs hl hq
  ·simp at h
 | block id body hb=>
  intro C R s k r a w Q h hs hl hq;rw[fC] at h;refine wp_block (hb h hs hl fun e a' w' s' hs' hkeep he=> ?_);cases e with
  | exit j=>
   simp only[Exit.inBlock];cases hj:beq j id with
   | true=>simp only[hj,_root_.cond] at he;rw[if_pos (eq_of_beq_eq_true hj)];exact hq .normal a' w' s' hs' hkeep he
   | false=>simp only[hj,_root_.cond] at he;rw[if_neg (fun e=>by subst e;simp at hj)];exact hq (.exit j) a' w' s' hs' hkeep he
  | _=>exact hq _ a' w' s' hs' hkeep he
 | loop body hb=>
  intro C R s k r a w Q h hs hl hq;rw[fC] at h;split at h
  ·exact ZR hb hl hq h hs
  split at h
  ·simp at h
  ·rename_i lh hlh;cases hk:jV s (50000000+lJ body*1000+s.base) lh.σ with
   | false=>rw[hk] at h;simp at h
   | true=>rw[hk] at h;simp only[_root_.cond] at h;obtain⟨y0,_,h⟩:=bind_eq_some_iff.1 h;obtain⟨x0,h2,h⟩:=bind_eq_some_iff.1 h;exact zcB hb hk hl hq h (Hw hk hl (Keep.refl _) (s':=lock s lh.σ) hs h2)
 | exit id=>intro C R s k r a w Q h hs _ hq;exact wp_exit (hq _ _ _ s hs (Keep.refl s) (by simpa[fC] using h))
 | ret=>intro C R s k r a w Q h hs _ hq;exact wp_ret (hq _ _ _ s hs (Keep.refl s) (by simpa[fC] using h))
 | _=>intro C R s k r a w Q h;simp[fC] at h
end
section
variable (T:Own→Own→Prop) (fl:Nat→Nat) (own:Nat→Option Own) (w:World)
def lU (v:Value) (t:Own) (pub:Bool) (e:Ty) (l:List e.den):Prop:=
 (v=.slice none 0 0∧l=[])∨∃ o,T o t∧iq fl own w v o pub e l
def rY (v:Value) (t:Own) (e:Ty) (l:List e.den):Prop:=
 (v=.slice none 0 0∧l=[])∨∃ o,T o t∧fO fl own w v o e l l.length none
def jZ (v:Value) (t:Own) (pb dp:Bool) (e:Ty) (l:List e.den):Prop:=cond (dpF dp e) (rY T fl own w v t e l) (lU T fl own w v t pb e l)
def NG (t:Own) (pb dp:Bool):Bool→(a:Ty)→List Value→a.den→Prop
 | true,.slice e,c,x=>∃ v,c=[v]∧jZ T fl own w v t pb dp e x
 | true,.ptr e,c,x=>∃ v h,c=[v]∧nI v h∧jZ T fl own w h t pb dp e x
 | true,_,_,_=>False
 | false,a,c,x=>aJ (view fl w) a c x
def jy (rid:Nat):List Bool→(t:Ty)→List Value→t.den→Nat→Prop
 | os,.pair a b,cs,x,i=>∃ c1 c2,cs=c1++c2∧NG T fl own w (.row (rid+i)) (pbO os (aH b+1)) (dpO os (aH b+1)) (hdB os) a c1 x.1∧jy rid (tlB os) b c2 x.2 (i+1)
 | _,.unit,cs,_,_=>cs=[]
 | _,_,_,_,_=>False
def pF (t:Own) (rid:Nat) (os:List Bool) (ty:Ty) (v:Value) (x:(lay ty).den):Prop:=
 ∃ b cs o,T o t∧v=.pointer (some ⟨b,0,none⟩)∧Blk w b cs∧own b=some o∧fl b=0∧jy T fl own w rid os (lay ty) cs x 0
def ve (t:Own) (v p:Value):Prop:=∃ b o,T o t∧v=.pointer (some ⟨b,0,none⟩)∧Blk w b [p]∧own b=some o∧fl b=0
def jA:Nat→(ps:List PS)→List Value→(bK ps).den→Prop
 | _,[],vs,_=>vs=[]
 | i,.pure t::r,v::vs,x=>bM (view fl w) t v x.1∧jA (i+1) r vs x.2
 | i,.lent t::r,v::vs,x=>bM (lvU fl (fun b=>∃ o t',own b=some o∧T o t') w) t v x.1∧jA (i+1) r vs x.2
 | i,.rptr t::r,v::vs,x=>(∃ b o cs,v=.pointer (some ⟨b,o,none⟩)∧aJ (view fl w) t cs x.1∧seg (lvU fl (fun b=>∃ o t',own b=some o∧T o t') w) b o cs)∧jA (i+1) r vs x.2
 | i,.obj t os::r,v::vs,x=>pF T fl own w (.site i) (i*100) os t v x.1∧jA (i+1) r vs x.2
 | i,.agg t os::r,v::vs,x=>(∃ cs,v=.agg cs.toArray∧jy T fl own w (i*100) os t cs x.1 0)∧jA (i+1) r vs x.2
 | i,.nilp::r,v::vs,x=>v=.pointer none∧jA (i+1) r vs x
 | i,.fnc f n::r,v::vs,x=>(v=.func (.func f) #[] (vs.take n).toArray∧n≤vs.length)∧jA (i+1) r vs x
 | i,.box::r,v::vs,x=>(∃ p rest,vs=p::rest∧ve T fl own w (.site i) v p)∧jA (i+1) r vs x
 | i,.row e::r,v::vs,x=>lU T fl own w v (.row (i*100)) false e x.1∧jA (i+1) r vs x.2
 | _,_,_,_=>False
def pz (base:Nat):(r:RS)→Value→r.ty.den→Prop
 | .pure t,v,x=>bM (view fl w) t v x
 | .own pub e,v,l=>lU T fl own w v (.row base) pub e l
 | .newobj t os,v,x=>pF T fl own w (.site base) (base+1) os t v x
 | .deep e,v,l=>rY T fl own w v (.row base) e l
 | .agg t os,v,x=>∃ cs,v=.agg cs.toArray∧jy T fl own w base os t cs x 0
 | .maybe t os,v,x=>(x.1=false∧v=.pointer none)∨(x.1=true∧pF T fl own w (.site base) (base+1) os t v x.2)
def nH:Nat→(rs:List RS)→(ps:List PS)→List Value→(iD rs ps).den→((dX ps).den→Prop)→Prop
 | _,[],_,vs,x,k=>vs=[]∧k x
 | i,r::rs,ps,v::vs,x,k=>pz T fl own w (1+20*i) r v x.1∧nH (i+1) rs ps vs x.2 k
 | _,_,_,_,_,_=>False
def iK:Nat→(ps:List PS)→List Value→(dX ps).den→Prop
 | _,[],_,_=>True
 | j,.obj t os::r,v::vs,x=>pF T fl own w (.site (81+20*j)) (80+20*j) os t v x.1∧iK (j+1) r vs x.2
 | j,.pure _::r,_::vs,x=>iK j r vs x
 | j,.lent _::r,_::vs,x=>iK j r vs x
 | j,.rptr _::r,_::vs,x=>iK j r vs x
 | j,.agg _ _::r,_::vs,x=>iK j r vs x
 | j,.nilp::r,_::vs,x=>iK j r vs x
 | j,.fnc _ _::r,_::vs,x=>iK j r vs x
 | j,.box::r,v::vs,x=>(∃ p rest,vs=p::rest∧ve T fl own w (.site (81+20*j)) v p)∧iK (j+1) r vs x
 | j,.row e::r,v::vs,x=>lU T fl own w v (.site (81+20*j)) false e x.1∧iK (j+1) r vs x.2
 | _,_,_,_=>False
end
section
variable {T T':Own→Own→Prop} {fl fl':Nat→Nat} {own own':Nat→Option Own} {w:World}
structure Relab (T T':Own→Own→Prop) (fl fl':Nat→Nat) (own own':Nat→Option Own) (w:World):Prop where
 le:(view fl w).le (view fl' w)
 lab:∀ o t,T o t→∃ o',T' o' t∧∀ b,own b=some o→own' b=some o'∧fl' b=fl b
theorem Relab.same (h:∀ o t,T o t→∃ o',T' o' t∧∀ b,own b=some o→own' b=some o'):Relab T T' fl fl own own' w:=
 ⟨IV.le.refl _,fun o t ht=>let ⟨o',h1,h2⟩:=h o t ht;⟨o',h1,fun b hb=>⟨h2 b hb,rfl⟩⟩⟩
theorem iq.relabel' {v:Value} {o o':Own} {pub:Bool} {e:Ty} {l:List e.den} (h:iq fl own w v o pub e l) (hle:(view fl w).le (view fl' w)) (ho:∀ b,own b=some o→own' b=some o'∧fl' b=fl b):iq fl' own' w v o' pub e l:=by
 rcases h with h|⟨b,cap,cs,h1,h2,h3,h4,h5,h6,h7⟩
 ·exact .inl h
 ·exact .inr ⟨b,cap,cs,h1,h2,h3,h4,(ho b h5).1,(ho b h5).2.trans h6,h7.mono hle⟩
theorem lU.relab (h:Relab T T' fl fl' own own' w) {v:Value} {t:Own} {pub:Bool} {e:Ty} {l:List e.den} (hr:lU T fl own w v t pub e l):lU T' fl' own' w v t pub e l:=by
 rcases hr with hr|⟨o,h1,h2⟩
 ·exact .inl hr
 ·obtain⟨o',h3,h4⟩:=h.lab o t h1;exact .inr ⟨o',h3,h2.relabel' h.le h4⟩
theorem rY.relab (h:Relab T T' fl fl' own own' w) {v:Value} {t:Own} {e:Ty} {l:List e.den} (hr:rY T fl own w v t e l):rY T' fl' own' w v t e l:=by
 rcases hr with hr|⟨o,h1,h2⟩
 ·exact .inl hr
 ·obtain⟨o',h3,h4⟩:=h.lab o t h1;exact .inr ⟨o',h3,h2.frame h.le fun b hb=>⟨fun _ h=>h,(h4 b hb).1,(h4 b hb).2⟩⟩
theorem jZ.relab (h:Relab T T' fl fl' own own' w) {v:Value} {t:Own} {pb dp:Bool} {e:Ty} {l:List e.den} (hr:jZ T fl own w v t pb dp e l):jZ T' fl' own' w v t pb dp e l:=by
 unfold jZ at hr ⊢;cases hd:dpF dp e with
 | true=>rw[hd] at hr;exact rY.relab h hr
 | false=>rw[hd] at hr;exact lU.relab h hr
theorem jZ.nil {v:Value} {t:Own} {pb dp:Bool} {e:Ty} {l:List e.den} (h:v=.slice none 0 0∧l=[]):jZ T fl own w v t pb dp e l:=by
 unfold jZ;cases hd:dpF dp e with
 | true=>exact .inl h
 | false=>exact .inl h
theorem jZ.row {v:Value} {t:Own} {pb dp:Bool} {e:Ty} {l:List e.den} (hd:dpF dp e=false) (h:lU T fl own w v t pb e l):jZ T fl own w v t pb dp e l:=by
 unfold jZ;rw[hd];exact h
theorem jZ.deep {v:Value} {t:Own} {pb dp:Bool} {e:Ty} {l:List e.den} (hd:dpF dp e=true) (h:rY T fl own w v t e l):jZ T fl own w v t pb dp e l:=by
 unfold jZ;rw[hd];exact h
theorem TZ {e:Ty}:∀ {os:List Bool} {n:Nat},pbO os n=true→dpF (dpO os n) e=false
 | [],_,_=>rfl
 | b::r,0,h=>by cases b<;>first|rfl|exact noConfusion h
 | _::r,n+1,h=>TZ (os:=r) (n:=n) h
theorem NG.relab (h:Relab T T' fl fl' own own' w) {t:Own} {pb dp o:Bool} {a:Ty} {c:List Value} {x:a.den} (hr:NG T fl own w t pb dp o a c x):NG T' fl' own' w t pb dp o a c x:=by
 cases o with
 | false=>cases a<;>exact aJ.mono h.le hr
 | true=>
  cases a<;>first|exact hr.elim|skip
  ·obtain⟨v,h1,h2⟩:=hr;exact⟨v,h1,h2.relab h⟩
  ·obtain⟨v,hh,h1,h2,h3⟩:=hr;exact⟨v,hh,h1,h2,h3.relab h⟩
theorem jy.relab (h:Relab T T' fl fl' own own' w) {rid:Nat}:∀ {t:Ty} {os:List Bool} {cs:List Value} {x:t.den} {i:Nat},jy T fl own w rid os t cs x i→jy T' fl' own' w rid os t cs x i:=by
 intro t;induction t with
 | pair A B _ hB=>rintro os cs x i ⟨c1,c2,h1,h2,h3⟩;exact⟨c1,c2,h1,h2.relab h,hB h3⟩
 | unit=>intro os cs x i h;exact h
 | _=>intro os cs x i h;exact h.elim
theorem pF.relab (h:Relab T T' fl fl' own own' w) {t:Own} {rid:Nat} {os:List Bool} {ty:Ty} {v:Value} {x:(lay ty).den} (hr:pF T fl own w t rid os ty v x):pF T' fl' own' w t rid os ty v x:=by
 obtain⟨b,cs,o,h1,h2,h3,h4,h5,h7⟩:=hr;obtain⟨o',h8,h9⟩:=h.lab o t h1;exact⟨b,cs,o',h8,h2,h3,(h9 b h4).1,(h9 b h4).2.trans h5,h7.relab h⟩
theorem ve.relab (h:Relab T T' fl fl' own own' w) {t:Own} {v p:Value} (hr:ve T fl own w t v p):ve T' fl' own' w t v p:=by
 obtain⟨b,o,h1,h2,h3,h4,h5⟩:=hr;obtain⟨o',h8,h9⟩:=h.lab o t h1;exact⟨b,o',h8,h2,h3,(h9 b h4).1,(h9 b h4).2.trans h5⟩
theorem vO {M:Nat→Prop}:(view fl w).le (lvU fl M w):=fun b o v h=>by
 unfold lvU;split
 ·exact h
 ·exact(Ip.1 h).2
theorem Jk {M M':Nat→Prop} (hle:(view fl w).le (view fl' w)) (hM:∀ b,M' b→M b):(lvU fl M w).le (lvU fl' M' w):=fun b o v h=>by
 unfold lvU at h ⊢;by_cases h':M' b
 ·rw[if_pos (hM b h')] at h;rw[if_pos h'];exact hle _ _ _ h
 ·rw[if_neg h'];split at h
  ·exact(Ip.1 h).2
  ·exact h
theorem jA.relab (h:Relab T T' fl fl' own own' w) (hM:∀ b o' t',own' b=some o'→T' o' t'→∃ o t,own b=some o∧T o t):∀ {ps:List PS} {i:Nat} {vs:List Value} {x:(bK ps).den},jA T fl own w i ps vs x→jA T' fl' own' w i ps vs x
 | [],_,_,_,hr=>hr
 | .lent _::_,_,_::_,_,⟨h1,h2⟩=>⟨h1.mono (Jk h.le fun b ⟨o,t,h1,h2⟩=>hM b o t h1 h2),jA.relab h hM h2⟩
 | .lent _::_,_,[],_,hr=>hr.elim
 | .rptr _::_,_,_::_,_,⟨⟨b,o,cs,hv,hC,hsg⟩,h2⟩=>⟨⟨b,o,cs,hv,hC.mono h.le,hsg.mono (Jk h.le fun b ⟨o,t,h1,h2⟩=>hM b o t h1 h2)⟩,jA.relab h hM h2⟩
 | .rptr _::_,_,[],_,hr=>hr.elim
 | .pure _::_,_,_::_,_,⟨h1,h2⟩=>⟨h1.mono h.le,jA.relab h hM h2⟩
 | .obj _ _::_,_,_::_,_,⟨h1,h2⟩=>⟨h1.relab h,jA.relab h hM h2⟩
 | .nilp::_,_,_::_,_,⟨h1,h2⟩=>⟨h1,jA.relab h hM h2⟩
 | .agg _ _::_,_,_::_,_,⟨⟨cs,h1,h1'⟩,h2⟩=>⟨⟨cs,h1,h1'.relab h⟩,jA.relab h hM h2⟩
 | .agg _ _::_,_,[],_,hr=>hr.elim
 | .fnc _ _::_,_,_::_,_,⟨h1,h2⟩=>⟨h1,jA.relab h hM h2⟩
 | .box::_,_,_::_,_,⟨⟨p,rest,h1,h1'⟩,h2⟩=>⟨⟨p,rest,h1,h1'.relab h⟩,jA.relab h hM h2⟩
 | .row _::_,_,_::_,_,⟨h1,h2⟩=>⟨h1.relab h,jA.relab h hM h2⟩
 | .row _::_,_,[],_,hr=>hr.elim
 | .box::_,_,[],_,hr=>hr.elim
 | .fnc _ _::_,_,[],_,hr=>hr.elim
 | .pure _::_,_,[],_,hr=>hr.elim
 | .obj _ _::_,_,[],_,hr=>hr.elim
 | .nilp::_,_,[],_,hr=>hr.elim
theorem pz.relab (h:Relab T T' fl fl' own own' w) {base:Nat} {r:RS} {v:Value} {x:r.ty.den} (hr:pz T fl own w base r v x):pz T' fl' own' w base r v x:=by
 cases r with
 | pure t=>exact bM.mono h.le hr
 | own pub e=>exact lU.relab h hr
 | newobj t os=>exact pF.relab h hr
 | maybe t os=>exact hr.imp id fun hr=>⟨hr.1,pF.relab h hr.2⟩
 | deep e=>exact rY.relab h hr
 | agg t os=>obtain⟨cs,h1,h2⟩:=hr;exact⟨cs,h1,h2.relab h⟩
theorem nH.relab (h:Relab T T' fl fl' own own' w) {ps:List PS} {k k':(dX ps).den→Prop} (hk:∀ x,k x→k' x):∀ {rs:List RS} {i:Nat} {vs:List Value} {x:(iD rs ps).den},nH T fl own w i rs ps vs x k→nH T' fl' own' w i rs ps vs x k'
 | [],_,_,_,⟨h1,h2⟩=>⟨h1,hk _ h2⟩
 | _::_,_,_::_,_,⟨h1,h2⟩=>⟨h1.relab h,nH.relab h hk h2⟩
 | _::_,_,[],_,hr=>hr.elim
theorem iK.relab (h:Relab T T' fl fl' own own' w):∀ {ps:List PS} {j:Nat} {vs:List Value} {x:(dX ps).den},iK T fl own w j ps vs x→iK T' fl' own' w j ps vs x
 | [],_,_,_,_=>trivial
 | .pure _::r,_,_::_,_,hr=>iK.relab (ps:=r) h hr
 | .lent _::r,_,_::_,_,hr=>iK.relab (ps:=r) h hr
 | .rptr _::r,_,_::_,_,hr=>iK.relab (ps:=r) h hr
 | .rptr _::_,_,[],_,hr=>hr.elim
 | .agg _ _::r,_,_::_,_,hr=>iK.relab (ps:=r) h hr
 | .agg _ _::_,_,[],_,hr=>hr.elim
 | .lent _::_,_,[],_,hr=>hr.elim
 | .nilp::r,_,_::_,_,hr=>iK.relab (ps:=r) h hr
 | .fnc _ _::r,_,_::_,_,hr=>iK.relab (ps:=r) h hr
 | .box::r,_,_::_,_,⟨⟨p,rest,h1,h1'⟩,h2⟩=>⟨⟨p,rest,h1,h1'.relab h⟩,iK.relab (ps:=r) h h2⟩
 | .row _::r,_,_::_,_,⟨h1,h2⟩=>⟨h1.relab h,iK.relab (ps:=r) h h2⟩
 | .row _::_,_,[],_,hr=>hr.elim
 | .box::_,_,[],_,hr=>hr.elim
 | .fnc _ _::_,_,[],_,hr=>hr.elim
 | .obj _ _::_,_,_::_,_,⟨h1,h2⟩=>⟨h1.relab h,iK.relab h h2⟩
 | .pure _::_,_,[],_,hr=>hr.elim
 | .obj _ _::_,_,[],_,hr=>hr.elim
 | .nilp::_,_,[],_,hr=>hr.elim
theorem lU.mono (h:∀ o t,T o t→T' o t) {v:Value} {t:Own} {pub:Bool} {e:Ty} {l:List e.den} (hr:lU T fl own w v t pub e l):lU T' fl own w v t pub e l:=
 hr.relab (Relab.same fun o t ht=>⟨o,h o t ht,fun _ hb=>hb⟩)
def nT:PS→Nat
 | .fnc _ n=>n
 | .box=>1
 | _=>0
def unf:Nat→List PS→List Value→List Value
 | _,[],_=>[]
 | _,_::_,[]=>[]
 | 0,p::r,v::vs=>v::unf (nT p) r vs
 | c+1,_::r,_::vs=>unf c r vs
def oQ:List Value→Value
 | [v]=>v
 | vs=>.tuple vs.toArray
structure FOk (P:Program) (f:FuncId) (sg:Sig):Prop where
 few:sg.rs.length≤4
 code : ∃ fn, P.funcs[f]? = some fn ∧ fn.body.isNone = false ∧ (fn.name == "runtime.NumGoroutine") = false
 call:∀ {w:World} {fl:Nat→Nat} {own:Nat→Option Own} {vs:List Value} {x:(bK sg.ps).den} {y:(iD sg.rs sg.ps).den},(∀ b,own b≠none→b<w.heap.size)→jA Eq fl own w 0 sg.ps vs x→sg.F x=some y→
  Calls P f (unf 0 sg.ps vs).toArray w fun e w'=>∃ rs fl' own',e=.returned (oQ rs)∧Ext w (fun b=>own b≠none) w'∧(∀ b,b<w.heap.size→own b=none→fl' b=fl b)∧(view fl w).le (view fl' w')∧
   (∀ b,own' b≠none→b<w'.heap.size∧(w.heap.size≤b∨own b≠none))∧nH Eq fl' own' w' 0 sg.rs sg.ps rs y fun z=>iK Eq fl' own' w' 0 sg.ps vs z
end
section
variable {C:Ctx} {g:Gh} {S:Nat→SV} {H:HLoc→SV} {a:Act} {w:World}
theorem zfa {os:List Bool}:hdB os=true↔os[0]? = some true:=by cases os<;>simp[hdB]
theorem zcg {os:List Bool} (k:Nat):(tlB os)[k]? = os[k+1]?:=by cases os<;>simp[tlB]
def iE (v:SV) (r:Nat):Prop:=v=.hdr r∨v=.own r
def uG (v:SV):Prop:=v=.nils∨v=.nilp
theorem iE.inj {v:SV} {r r':Nat} (h:iE v r) (h':iE v r'):r=r':=by
 rcases h with rfl|rfl<;>rcases h' with h'|h'<;>cases h'<;>rfl
theorem iE.nil {v:SV} {r:Nat} (h:iE v r) (h':uG v):False:=by
 rcases h with rfl|rfl<;>rcases h' with h'|h'<;>cases h'
theorem iE.ref {v:SV} {r:Nat} (h:iE v r) (hr:aG H v):H (.row r)≠.bot:=by
 rcases h with rfl|rfl<;>exact hr
theorem ug {mk:Nat→HLoc} {rid:Nat}:∀ {os:List Bool} {i:Nat} {fp fp' d:List HLoc},(fM mk os i).run H fp=some (d,fp')→
  ∃ m:List (Own×Own),d=m.map (fun p=>dK p.1)∧∀ k,os[k]? = some true→(∃ r,iE (H (mk (i+k))) r∧(Own.row r,Own.row (rid+(i+k)))∈m)∨uG (H (mk (i+k)))
 | [],i,fp,fp',d,h=>by obtain⟨e,_⟩:=af h;subst e;exact⟨[],rfl,fun k hk=>by simp at hk⟩
 | o::os,i,fp,fp',d,h=>by
  simp only[fM] at h;have shift:∀ {d':List HLoc} {fp1 fp2:List HLoc},(fM mk os (i+1)).run H fp1=some (d',fp2)→∃ m:List (Own×Own),d'=m.map (fun p=>dK p.1)∧∀ k,os[k]? = some true→
    (∃ r,iE (H (mk (i+(k+1)))) r∧(Own.row r,Own.row (rid+(i+(k+1))))∈m)∨uG (H (mk (i+(k+1)))):=by
   intro d' fp1 fp2 h;obtain⟨m,h1,h2⟩:=ug h;refine⟨m,h1,fun k hk=> ?_⟩;have:=h2 k hk;rwa[show i+1+k=i+(k+1) from by omega] at this
  cases o with
  | false=>
   obtain⟨m,h1,h2⟩:=shift h;refine⟨m,h1,fun k hk=> ?_⟩;cases k with
   | zero=>simp at hk
   | succ k=>exact h2 k (by simpa using hk)
  | true=>
   simp only[cond,Rd.run] at h;have row:∀ {r:Nat},iE (H (mk i)) r→((fM mk os (i+1)).bind fun d=>Rd.ret (HLoc.row r::d)).run H (mk i::fp)=some (d,fp')→∃ m:List (Own×Own),d=m.map (fun p=>dK p.1)∧∀ k,(true::os)[k]? = some true→(∃ r,iE (H (mk (i+k))) r∧(Own.row r,Own.row (rid+(i+k)))∈m)∨uG (H (mk (i+k))):=by
    intro r hr h;obtain⟨d',fp1,k1,h⟩:=ah h;obtain⟨e,_⟩:=af h;subst e;obtain⟨m,h1,h2⟩:=shift k1;refine⟨(.row r,.row (rid+i))::m,by simp[h1,dK],fun k hk=> ?_⟩;cases k with
    | zero=>exact .inl ⟨r,by simpa using hr,by simp⟩
    | succ k=>
     rcases h2 k (by simpa using hk) with⟨r',q1,q2⟩|q
     ·exact .inl ⟨r',q1,by simp[q2]⟩
     ·exact .inr q
   have nil:uG (H (mk i))→(fM mk os (i+1)).run H (mk i::fp)=some (d,fp')→∃ m:List (Own×Own),d=m.map (fun p=>dK p.1)∧∀ k,(true::os)[k]? = some true→(∃ r,iE (H (mk (i+k))) r∧(Own.row r,Own.row (rid+(i+k)))∈m)∨uG (H (mk (i+k))):=by
    intro hr h;obtain⟨m,h1,h2⟩:=shift h;refine⟨m,h1,fun k hk=> ?_⟩;cases k with
    | zero=>exact .inr (by simpa using hr)
    | succ k=>exact h2 k (by simpa using hk)
   split at h
   ·rename_i r hr;exact row (.inl hr) h
   ·rename_i r hr;exact row (.inr hr) h
   ·rename_i hr;exact nil (.inl hr) h
   ·rename_i hr;exact nil (.inr hr) h
   ·exact(ae h).elim
theorem yu (hs:SimG C g S H a w) {n:Nat}:∀ {os:List Bool} {i:Nat} {fp fp' d:List HLoc},(fM (.fld n) os i).run H fp=some (d,fp')→∀ l∈d,H l≠.bot
 | [],i,fp,fp',d,h=>by obtain⟨e,_⟩:=af h;subst e;simp
 | o::os,i,fp,fp',d,h=>by
  simp only[fM] at h;cases o with
  | false=>exact yu hs (show(fM (.fld n) os (i+1)).run H fp=_ from h)
  | true=>
   simp only[cond,Rd.run] at h;have row:∀ {r:Nat},iE (H (.fld n i)) r→((fM (.fld n) os (i+1)).bind fun d=>Rd.ret (HLoc.row r::d)).run H (.fld n i::fp)=some (d,fp')→∀ l∈d,H l≠.bot:=by
    intro r hr h;obtain⟨d',fp1,k1,h⟩:=ah h;obtain⟨e,_⟩:=af h;subst e;intro l hl;rcases mem_cons.1 hl with rfl|hl
    ·exact hr.ref (hs.refF n i)
    ·exact yu hs k1 l hl
   split at h
   ·rename_i r hr;exact row (.inl hr) h
   ·rename_i r hr;exact row (.inr hr) h
   ·exact yu hs h
   ·exact yu hs h
   ·exact(ae h).elim
theorem yg (hs:SimG C g S H a w) {n:Nat}:∀ {os:List Bool} {i:Nat} {fp fp' d:List HLoc},(fM (.comp n) os i).run H fp=some (d,fp')→∀ l∈d,H l≠.bot
 | [],i,fp,fp',d,h=>by obtain⟨e,_⟩:=af h;subst e;simp
 | o::os,i,fp,fp',d,h=>by
  simp only[fM] at h;cases o with
  | false=>exact yg hs (show(fM (.comp n) os (i+1)).run H fp=_ from h)
  | true=>
   simp only[cond,Rd.run] at h;have row:∀ {r:Nat},iE (H (.comp n i)) r→((fM (.comp n) os (i+1)).bind fun d=>Rd.ret (HLoc.row r::d)).run H (.comp n i::fp)=some (d,fp')→∀ l∈d,H l≠.bot:=by
    intro r hr h;obtain⟨d',fp1,k1,h⟩:=ah h;obtain⟨e,_⟩:=af h;subst e;intro l hl;rcases mem_cons.1 hl with rfl|hl
    ·exact hr.ref (hs.refC n i)
    ·exact yg hs k1 l hl
   split at h
   ·rename_i r hr;exact row (.inl hr) h
   ·rename_i r hr;exact row (.inr hr) h
   ·exact yg hs h
   ·exact yg hs h
   ·exact(ae h).elim
theorem zar {hw:HW} {d i:Nat} (hp:bC H hw):puts H hw (.comp d i)=H (.comp d i):=by
 have:∀ {hw:HW} {H:HLoc→SV},bC H hw→puts H hw (.comp d i)=H (.comp d i):=by
  intro hw;induction hw with
  | nil=>intro H _;rfl
  | cons p r ih=>obtain⟨l,v⟩:=p;rintro H ⟨⟨rr,pb,e',x',h1,h2,h3⟩,hr⟩;subst h1 h2;simp only[puts];rw[ih (bC.upd h3 hr),ay _ _ (by simp)]
 exact this hp
theorem zdj {os:List Bool} {n:Nat}:pbO (tlB os) n=pbO os (n+1):=by cases os<;>rfl
theorem Su {os:List Bool} {n k:Nat}:(os.take (n+1))[k+1]? = ((tlB os).take n)[k]?:=by
 cases os with
 | nil=>simp[tlB]
 | cons b r=>simp[tlB]
theorem zdQ {os:List Bool} {n:Nat} {b:Bool}:(os.take (n+1))[0]? = some b↔os[0]? = some b:=by
 cases os<;>simp
theorem TD {os:List Bool} {n k:Nat} {b:Bool} (h:(os.take n)[k]? = some b):os[k]? = some b:=by
 rw[List.getElem?_take] at h;split at h
 ·exact h
 ·exact absurd h (by simp)
theorem tX {T:Own→Own→Prop} {mk:Nat→HLoc} {rid:Nat}:∀ {t:Ty} {os:List Bool} {i:Nat} {fp fp':List HLoc} {x:t.den} {pubs:HW},
  (iP mk os t i).run H fp=some ((x,pubs),fp')→(∀ k,(os.take (aH t))[k]? = some true→(∃ r,iE (H (mk (i+k))) r∧T (.row r) (.row (rid+(i+k))))∨uG (H (mk (i+k))))→
  bC H pubs∧∀ {hw:HW} {fl:Nat→Nat} {own:Nat→Option Own} {cs:List Value},(∀ y∈pubs,y∈hw)→bC H hw→(pbO os (aH t)=false→∀ k r,(os.take (aH t))[k]? = some true→iE (H (mk (i+k))) r→HLoc.row r ∉ au hw)→SimG C { g with fl:=fl,own:=own } S (puts H hw) a w→dF (fun j=>H (mk j)) { g with fl:=fl,own:=own } (view fl w) t cs i→
   jy T fl own w rid os t cs x i:=by
 intro t;induction t with
 | unit=>intro os i fp fp' x pubs h1 _;cases os<;>(obtain⟨e,_⟩:=af h1;cases e;exact⟨trivial,fun _ _ _ _ hc=>hc⟩)
 | pair A B _ hB=>
  intro os i fp fp' x pubs h1 h2;simp only[iP,Rd.run] at h1;obtain⟨⟨p,hw1⟩,fp1,k1,h1⟩:=ah h1;obtain⟨⟨q,hw2⟩,fp2,k2,h1⟩:=ah h1;obtain⟨e,_⟩:=af h1;cases e;obtain⟨q1,q2⟩:=hB (os:=tlB os) k2 fun k hk=>by have:=h2 (k+1) (show(os.take (aH B+1))[k+1]? = some true by rw[Su];exact hk);rwa[show i+1+k=i+(k+1) from by omega]
  have rest:∀ {hw:HW},(pbO os (aH B+1)=false→∀ k r,(os.take (aH B+1))[k]? = some true→iE (H (mk (i+k))) r→HLoc.row r ∉ au hw)→(pbO (tlB os) (aH B)=false→∀ k r,((tlB os).take (aH B))[k]? = some true→iE (H (mk (i+1+k))) r→HLoc.row r ∉ au hw):=fun hk hp k r h3 h4=>hk (by rw[←zdj];exact hp) (k+1) r (by rw[Su];exact h3) (by rwa[show i+(k+1)=i+1+k from by omega]);have told:(gZ A (H (mk i))).run H (mk i::fp)=some ((p,hw1),fp1)→(hdB os=true→pbO os (aH B+1)=true)→(hdB os=true→∃ e,A=.slice e)→bC H (hw1++hw2)∧∀ {hw:HW} {fl:Nat→Nat} {own:Nat→Option Own} {cs:List Value},(∀ y∈hw1++hw2,y∈hw)→bC H hw→(pbO os (aH (.pair A B))=false→∀ k r,(os.take (aH (.pair A B)))[k]? = some true→iE (H (mk (i+k))) r→HLoc.row r ∉ au hw)→SimG C { g with fl:=fl,own:=own } S (puts H hw) a w→dF (fun j=>H (mk j)) { g with fl:=fl,own:=own } (view fl w) (.pair A B) cs i→
   jy T fl own w rid os (.pair A B) cs (p,q) i:=by
   intro k1 hpb hsl;obtain⟨p1,p2⟩:=vK k1;refine⟨bC.append.2 ⟨p1,q1⟩,fun{hw fl own cs} hsub hp hkp hs hc=> ?_⟩;obtain⟨c1,c2,rfl,hl,ho,hsr,hr⟩:=hc;refine⟨c1,c2,rfl,?_,q2 (fun y hy=>hsub y (mem_append_right _ hy)) hp (rest hkp) hs hr⟩;have hsr:SR { g with fl:=fl,own:=own } (view fl w) (H (mk i)) (mkV A c1):=hsr;have hV:=p2 _ _ _ ((hs.rowsRd hp).sub fun y hy=>hsub y (mem_append_left _ hy)) hsr;have hC:=hV.cells;rw[iw hl ho] at hC;cases hb:hdB os with
   | false=>
    have hC:aJ (view fl w) A c1 p:=by simpa using hC
    cases A<;>exact hC
   | true=>
    have hdF:=fun e=>TZ (e:=e) (hpb hb);rw[hpb hb];have h0:=h2 0 (zdQ.2 (zfa.1 hb));rw[add_zero] at h0;rcases h0 with⟨r,hr',hT⟩|hn
    ·rcases hr' with hr'|hr'
     case inr=>rw[hr'] at k1;exact(ae k1).elim
     rw[hr'] at k1 hsr;simp only[gZ,Rd.run] at k1;split at k1
     ·rename_i pb e l hrow;obtain⟨y,fp3,k3,k4⟩:=ah k1;obtain⟨k3,_⟩:=aS k3;obtain⟨e1,_⟩:=af k4;cases e1;obtain⟨he,rfl⟩:=dm k3;subst he;have hrow':puts H hw (.row r)=.row true e l:=vM hp (by
       cases pb with
       | true=>exact .inl hrow
       | false=>exact .inr (hsub _ (by simp)))
      have hrow2:=hs.rows r true e l hrow';have hval:mkV (.slice e) c1=g.hd r:=hsr;have hc1:=ja (t:=.slice e) rfl hl;refine⟨mkV (.slice e) c1,hc1,jZ.row (hdF _) (.inr ⟨.row r,hT,?_⟩)⟩;rw[hval];exact hrow2
     ·rename_i e l nd hh hrow;cases hh with
      | some _=>exact(ae k1).elim
      | none=>
      obtain⟨y,fp3,k3,k4⟩:=ah k1;obtain⟨k3,_⟩:=aS k3;obtain⟨e1,_⟩:=af k4;cases e1;obtain⟨he,rfl⟩:=dm k3;subst he;have hrow':puts H hw (.row r)=.row true e l:=vM hp (.inr (hsub _ (by simp)));have hrow2:=hs.rows r true e l hrow';have hval:mkV (.slice e) c1=g.hd r:=hsr;have hc1:=ja (t:=.slice e) rfl hl;refine⟨mkV (.slice e) c1,hc1,jZ.row (hdF _) (.inr ⟨.row r,hT,?_⟩)⟩;rw[hval];exact hrow2
     ·exact(ae k1).elim
    ·rcases hn with hn|hn
     ·rw[hn] at k1 hsr;cases A<;>simp only[gZ] at k1<;>first|exact(ae k1).elim|skip
      obtain⟨e1,_⟩:=af k1;cases e1;exact⟨mkV (.slice _) c1,ja (t:=.slice _) rfl hl,jZ.nil ⟨hsr,rfl⟩⟩
     ·rw[hn] at k1;obtain⟨e,rfl⟩:=hsl hb;exact(ae k1).elim
  cases hb:hdB os with
  | false=>rw[hb] at k1;exact told k1 (fun h=>by rw[hb] at h;exact noConfusion h) fun h=>by rw[hb] at h;exact noConfusion h
  | true=>
   rw[hb] at k1;cases hpb:pbO os (aH B+1) with
   | true=>
    rw[hpb] at k1;have k1:(DY A (H (mk i))).run H (mk i::fp)=some ((p,hw1),fp1):=k1;have hsl:∃ e,A=.slice e:=by cases A<;>first|exact(ae k1).elim|exact⟨_,rfl⟩
    exact told (by obtain⟨e,rfl⟩:=hsl;exact k1) (fun _=>hpb) fun _=>hsl
   | false=>
    rw[hpb] at k1;have k1:(rJ (dpO os (aH B+1)) A (H (mk i))).run H (mk i::fp)=some ((p,hw1),fp1):=k1;have h0:=h2 0 (zdQ.2 (zfa.1 hb));rw[add_zero] at h0;rcases h0 with⟨r,hr',hT⟩|hn
    ·rcases hr' with hr'|hr'
     case inr=>
      rw[hr'] at k1;simp only[rJ,Rd.run] at k1;split at k1
      ·rename_i pb e l hrow;cases hpd:cond pb true (dpF (dpO os (aH B+1)) e) with
       | true=>rw[hpd] at k1;exact(ae k1).elim
       | false=>
        have hpf:pb=false:=by cases pb<;>first|rfl|exact noConfusion hpd
        subst hpf;have hdf:dpF (dpO os (aH B+1)) e=false:=hpd;rw[hpd] at k1;simp only[cond_false] at k1;obtain⟨y,fp3,k3,k4⟩:=ah k1;obtain⟨k3,_⟩:=aS k3;obtain⟨e1,_⟩:=af k4;cases e1;obtain⟨he,rfl⟩:=dm k3;subst he;refine⟨q1,fun{hw fl own cs} hsub hp hkp hs hc=> ?_⟩;obtain⟨c1,c2,rfl,hl,ho,hsr,hr⟩:=hc;refine⟨c1,c2,rfl,?_,q2 (fun y hy=>hsub y hy) hp (rest hkp) hs hr⟩;have hsr:SR { g with fl:=fl,own:=own } (view fl w) (H (mk i)) (mkV (.ptr e) c1):=hsr;rw[hr'] at hsr;rw[hpb,hb];have hnot:HLoc.row r ∉ au hw:=hkp hpb 0 r (zdQ.2 (zfa.1 hb)) (by rw[add_zero];exact .inr hr');have hrow':puts H hw (.row r)=.row false e l:=by rw[cZ hnot,hrow]
        exact⟨mkV (.ptr e) c1,g.hd r,ja (t:=.ptr e) rfl hl,hsr,jZ.row hdf (.inr ⟨.row r,hT,hs.rows r false e l hrow'⟩)⟩
      ·rename_i e l n hh hrow;cases hh with
       | some _=>exact(ae k1).elim
       | none=>
        simp only at k1;cases hdf:dpF (dpO os (aH B+1)) e with
        | false=>rw[hdf] at k1;exact(ae k1).elim
        | true=>
         rw[hdf] at k1;simp only[cond_true,Rd.run] at k1;cases hn:decide (n=length l) with
         | false=>rw[hn] at k1;simp at k1
         | true=>
          rw[hn] at k1;obtain rfl:=of_decide_eq_true hn;simp only[cond_true] at k1;obtain⟨y,fp3,k3,k4⟩:=ah k1;obtain⟨k3,_⟩:=aS k3;obtain⟨e1,_⟩:=af k4;cases e1;obtain⟨he,rfl⟩:=dm k3;subst he;refine⟨q1,fun{hw fl own cs} hsub hp hkp hs hc=> ?_⟩;obtain⟨c1,c2,rfl,hl,ho,hsr,hr⟩:=hc;refine⟨c1,c2,rfl,?_,q2 (fun y hy=>hsub y hy) hp (rest hkp) hs hr⟩;have hsr:SR { g with fl:=fl,own:=own } (view fl w) (H (mk i)) (mkV (.ptr e) c1):=hsr;rw[hr'] at hsr;rw[hpb,hb];have hnot:HLoc.row r ∉ au hw:=hkp hpb 0 r (zdQ.2 (zfa.1 hb)) (by rw[add_zero];exact .inr hr');have hrow':puts H hw (.row r)=.deep e l l.length none:=by rw[cZ hnot,hrow]
          exact⟨mkV (.ptr e) c1,g.hd r,ja (t:=.ptr e) rfl hl,hsr,jZ.deep hdf (.inr ⟨.row r,hT,hs.deeps r e l _ none hrow'⟩)⟩
      ·exact(ae k1).elim
     rw[hr'] at k1;simp only[rJ,Rd.run] at k1;split at k1
     ·rename_i pb e l hrow;cases hpd:cond pb true (dpF (dpO os (aH B+1)) e) with
      | true=>rw[hpd] at k1;exact(ae k1).elim
      | false=>
       have hpf:pb=false:=by cases pb<;>first|rfl|exact noConfusion hpd
       subst hpf;have hdf:dpF (dpO os (aH B+1)) e=false:=hpd;rw[hpd] at k1;simp only[cond_false] at k1;obtain⟨y,fp3,k3,k4⟩:=ah k1;obtain⟨k3,_⟩:=aS k3;obtain⟨e1,_⟩:=af k4;cases e1;obtain⟨he,rfl⟩:=dm k3;subst he;refine⟨q1,fun{hw fl own cs} hsub hp hkp hs hc=> ?_⟩;obtain⟨c1,c2,rfl,hl,ho,hsr,hr⟩:=hc;refine⟨c1,c2,rfl,?_,q2 (fun y hy=>hsub y hy) hp (rest hkp) hs hr⟩;have hsr:SR { g with fl:=fl,own:=own } (view fl w) (H (mk i)) (mkV (.slice e) c1):=hsr;rw[hr'] at hsr;rw[hpb,hb];have hnot:HLoc.row r ∉ au hw:=hkp hpb 0 r (zdQ.2 (zfa.1 hb)) (by rw[add_zero];exact .inl hr');have hrow':puts H hw (.row r)=.row false e l:=by rw[cZ hnot,hrow]
       have hrow2:=hs.rows r false e l hrow';have hval:mkV (.slice e) c1=g.hd r:=hsr;have hc1:=ja (t:=.slice e) rfl hl;refine⟨mkV (.slice e) c1,hc1,jZ.row hdf (.inr ⟨.row r,hT,?_⟩)⟩;rw[hval];exact hrow2
     ·rename_i e l n hh hrow;cases hh with
      | some _=>exact(ae k1).elim
      | none=>
       simp only at k1;cases hdf:dpF (dpO os (aH B+1)) e with
       | false=>rw[hdf] at k1;exact(ae k1).elim
       | true=>
        rw[hdf] at k1;simp only[cond_true,Rd.run] at k1;cases hn:decide (n=length l) with
        | false=>rw[hn] at k1;simp at k1
        | true=>
         rw[hn] at k1;obtain rfl:=of_decide_eq_true hn;simp only[cond_true] at k1;obtain⟨y,fp3,k3,k4⟩:=ah k1;obtain⟨k3,_⟩:=aS k3;obtain⟨e1,_⟩:=af k4;cases e1;obtain⟨he,rfl⟩:=dm k3;subst he;refine⟨q1,fun{hw fl own cs} hsub hp hkp hs hc=> ?_⟩;obtain⟨c1,c2,rfl,hl,ho,hsr,hr⟩:=hc;refine⟨c1,c2,rfl,?_,q2 (fun y hy=>hsub y hy) hp (rest hkp) hs hr⟩;have hsr:SR { g with fl:=fl,own:=own } (view fl w) (H (mk i)) (mkV (.slice e) c1):=hsr;rw[hr'] at hsr;rw[hpb,hb];have hnot:HLoc.row r ∉ au hw:=hkp hpb 0 r (zdQ.2 (zfa.1 hb)) (by rw[add_zero];exact .inl hr');have hrow':puts H hw (.row r)=.deep e l l.length none:=by rw[cZ hnot,hrow]
         have hrow2:=hs.deeps r e l _ none hrow';have hval:mkV (.slice e) c1=g.hd r:=hsr;have hc1:=ja (t:=.slice e) rfl hl;refine⟨mkV (.slice e) c1,hc1,jZ.deep hdf (.inr ⟨.row r,hT,?_⟩)⟩;rw[hval];exact hrow2
     ·exact(ae k1).elim
    ·rcases hn with hn|hn
     case inr=>
      rw[hn] at k1;cases A<;>simp only[rJ] at k1<;>first|exact(ae k1).elim|skip
      obtain⟨e1,_⟩:=af k1;cases e1;refine⟨q1,fun{hw fl own cs} hsub hp hkp hs hc=> ?_⟩;obtain⟨c1,c2,rfl,hl,ho,hsr,hr⟩:=hc;refine⟨c1,c2,rfl,?_,q2 (fun y hy=>hsub y hy) hp (rest hkp) hs hr⟩;rw[hb];have hsr:SR { g with fl:=fl,own:=own } (view fl w) (H (mk i)) (mkV (.ptr _) c1):=hsr;rw[hn] at hsr;exact⟨mkV (.ptr _) c1,.slice none 0 0,ja (t:=.ptr _) rfl hl,.inl ⟨hsr,rfl⟩,jZ.nil ⟨rfl,rfl⟩⟩
     rw[hn] at k1;cases A<;>simp only[rJ] at k1<;>first|exact(ae k1).elim|skip
     obtain⟨e1,_⟩:=af k1;cases e1;refine⟨q1,fun{hw fl own cs} hsub hp hkp hs hc=> ?_⟩;obtain⟨c1,c2,rfl,hl,ho,hsr,hr⟩:=hc;refine⟨c1,c2,rfl,?_,q2 (fun y hy=>hsub y hy) hp (rest hkp) hs hr⟩;rw[hb];have hsr:SR { g with fl:=fl,own:=own } (view fl w) (H (mk i)) (mkV (.slice _) c1):=hsr;rw[hn] at hsr;exact⟨mkV (.slice _) c1,ja (t:=.slice _) rfl hl,jZ.nil ⟨hsr,rfl⟩⟩
 | _=>intro os i fp fp' x pubs h1;cases os<;>exact(ae h1).elim
theorem zaK:df [] []=.ret ((),[],[]):=rfl
theorem vC {v:SV} {vs:List SV}:df [] (v::vs)=.fail:=rfl
theorem Ic {t:Ty} {r:List PS} {v:SV} {vs:List SV}:df (.pure t::r) (v::vs)=(jM t v).bind fun p=>(df r vs).bind fun q=>.ret ((p.1,q.1),p.2++q.2.1,q.2.2):=rfl
theorem pJ {p:PS} {r:List PS}:df (p::r) []=.fail:=by cases p<;>rfl
theorem IY {t:Ty} {own:List Bool} {r:List PS} {v:SV} {vs:List SV}:df (.obj t own::r) (v::vs)=match v with
   | .adr s off=>cond (beq off 0) (.get (.site s) fun w=>match w with
    | .obj t'=>cond (t'.beq t) ((iP (.fld s) own (lay t) 0).bind fun p=>(fM (.fld s) (own.take (aH (lay t))) 0).bind fun d=>(df r vs).bind fun q=>.ret ((p.1,q.1),p.2++q.2.1,HLoc.site s::d++q.2.2)) .fail
    | _=>.fail) .fail
   | .own q=>cond (cond (isEmpty own) (structEnd (lay t)) false) (.get (.row q) fun w=>match w with
    | .row pub e l=>cond pub .fail (.opt (head? l) fun x=>(Rd.ofO (bi e (lay t) x)).bind fun y=>(df r vs).bind fun z=>.ret ((y,z.1),z.2.1,HLoc.row q::z.2.2))
    | _=>.fail) .fail
   | _=>.fail:=rfl
theorem I4 {t:Ty} {own:List Bool} {r:List PS} {v:SV} {vs:List SV}:df (.agg t own::r) (v::vs)=match v with
   | .agg d t'=>cond (t'.beq t) ((iP (.comp d) own t 0).bind fun p=>(fM (.comp d) (own.take (aH t)) 0).bind fun dd=>(df r vs).bind fun q=>.ret ((p.1,q.1),p.2++q.2.1,dd++q.2.2)) .fail
   | _=>.fail:=rfl
theorem Ie {r:List PS} {v:SV} {vs:List SV}:df (.nilp::r) (v::vs)=match v with
   | .nilp=>df r vs
   | _=>.fail:=rfl
theorem IZ {f:FuncId} {n:Nat} {r:List PS} {v:SV} {vs:List SV}:df (.fnc f n::r) (v::vs)=match v with
   | .fn g _ m=>cond (cond (beq f g) (beq n m) false) (df r vs) .fail
   | _=>.fail:=rfl
theorem zaL {r:List PS} {v:SV} {vs:List SV}:df (.box::r) (v::vs)=match v with
   | .adr s off=>cond (beq off 0) (.get (.site s) fun w=>match w with
    | .obj t'=>cond (t'.beq bU) (.get (.fld s 0) fun p=>match p,vs with
     | .adr b o,.adr b' o'::_=>cond (cond (beq b b') (beq o o') false) ((df r vs).bind fun q=>.ret (q.1,q.2.1,HLoc.site s::q.2.2)) .fail
     | _,_=>.fail) .fail
    | _=>.fail) .fail
   | _=>.fail:=rfl
theorem zaJ {e:Ty} {r:List PS} {v:SV} {vs:List SV}:df (.row e::r) (v::vs)=match v with
   | .hdr q=>.get (.row q) fun w=>match w with
    | .row pub e' l=>cond pub .fail ((Rd.ofO (bi (.slice e') (.slice e) l)).bind fun y=>(df r vs).bind fun z=>.ret ((y,z.1),z.2.1,HLoc.row q::z.2.2))
    | _=>.fail
   | _=>.fail:=rfl
theorem GM {H:HLoc→SV} {e:Ty} {r:List PS} {s:SV} {svs:List SV} {x:(bK (.row e::r)).den} {pubs:HW} {drops:List HLoc} {fp fp':List HLoc} (h:(df (.row e::r) (s::svs)).run H fp=some ((x,pubs,drops),fp')) :
  ∃ q l fp1 fp2 z d2,s=.hdr q∧H (.row q)=.row false e l∧(df r svs).run H fp1=some ((z,pubs,d2),fp2)∧x=(l,z)∧drops=HLoc.row q::d2:=by
 rw[zaJ] at h;cases s<;>first|exact(ae h).elim|skip
 rename_i q;simp only[Rd.run] at h;split at h
 ·rename_i pub e' l hrow;cases pub with
  | true=>exact(ae h).elim
  | false=>obtain⟨y,fp1,k1,h⟩:=ah (show((Rd.ofO (bi (.slice e') (.slice e) l)).bind _).run H _=_ from h);obtain⟨⟨z,hw2,d2⟩,fp2,k2,h⟩:=ah h;obtain⟨e1,_⟩:=af h;obtain⟨k1,_⟩:=aS k1;obtain⟨he,hy⟩:=dm k1;cases he;cases hy;cases e1;exact⟨q,_,_,_,z,d2,rfl,hrow,k2,rfl,rfl⟩
 ·exact(ae h).elim
theorem zcD {t:Ty} (h:t.agg=true):lay t=t:=by cases t<;>simp_all [Ty.agg,lay]
theorem zcC {t:Ty} (h:t.agg=false):lay t=.pair t .unit:=by cases t<;>simp_all [Ty.agg,lay]
theorem BM {F:Nat→SV} {g:Gh} {iv:IV} {t:Ty} {cs:List Value}:dV F g iv t cs↔dF F g iv (lay t) cs 0:=by
 unfold dV;cases h:t.agg with
 | true=>rw[zcD h];exact Iff.rfl
 | false=>
  rw[zcC h];constructor
  ·rintro⟨c,rfl,h2,h3⟩;exact⟨[c],[],rfl,by rw[oq h];rfl,by simpa using h2,by simpa[mkV,h] using h3,rfl⟩
  ·rintro⟨c1,c2,rfl,h2,h3,h4,h5⟩;rw[oq h] at h2;have h5:c2=[]:=h5;subst h5
   match c1,h2 with
   | [c],_=>exact⟨c,rfl,h3 c (by simp),by simpa[mkV,h] using h4⟩
def qF:List SV→List Value→Prop
 | .fn f _ n::svs,v::vs=>(v=.func (.func f) #[] (vs.take n).toArray∧n≤vs.length)∧qF svs vs
 | _::svs,_::vs=>qF svs vs
 | _,_=>True
theorem qF.tail {s:SV} {svs:List SV} {v:Value} {vs:List Value} (h:qF (s::svs) (v::vs)):qF svs vs:=by
 cases s<;>first|exact h.2|exact h
def jX (H:HLoc→SV) (mk:Nat→HLoc):List Bool→Nat→List HLoc
 | [],_=>[]
 | o::os,i=>cond o (match H (mk i) with
  | .hdr r=>.row r::jX H mk os (i+1)
  | .own r=>.row r::jX H mk os (i+1)
  | _=>jX H mk os (i+1)) (jX H mk os (i+1))
def qA (H:HLoc→SV):List PS→List SV→List HLoc
 | .obj t own::r,.adr s _::vs=>cond (pbO own (aH (lay t))) [] (jX H (.fld s) own 0)++qA H r vs
 | .obj _ _::r,.own q::vs=>HLoc.row q::qA H r vs
 | .agg t own::r,.agg d _::vs=>cond (pbO own (aH t)) [] (jX H (.comp d) own 0)++qA H r vs
 | .row _::r,.hdr q::vs=>HLoc.row q::qA H r vs
 | _::r,_::vs=>qA H r vs
 | _,_=>[]
theorem Qa {mk:Nat→HLoc} {os:List Bool}:∀ {i:Nat} {fp fp' d:List HLoc},(qw mk os i).run H fp=some (d,fp')→d=jX H mk os i:=by
 induction os with
 | nil=>intro i fp fp' d h;obtain⟨e,_⟩:=af h;subst e;rfl
 | cons o os ih=>
  intro i fp fp' d h;cases o with
  | false=>exact ih (show(qw mk os (i+1)).run H fp=_ from h)
  | true=>
   simp only[qw,cond,Rd.run] at h;obtain⟨d',fp1,k1,h⟩:=ah h;have ih:=ih k1;simp only[jX,cond];split at h
   ·rename_i r hr;obtain⟨e,_⟩:=af h;subst e;rw[hr];show _=HLoc.row r::jX H mk os (i+1);rw[←ih]
   ·rename_i r hr;obtain⟨e,_⟩:=af h;subst e;rw[hr];show _=HLoc.row r::jX H mk os (i+1);rw[←ih]
   ·rename_i hr hr';obtain⟨e,_⟩:=af h;split
    ·rename_i r hr2;exact absurd hr2 (hr r)
    ·rename_i r hr2;exact absurd hr2 (hr' r)
    ·subst e;exact ih
theorem Iy {mk:Nat→HLoc}:∀ {os:List Bool} {i k r:Nat},os[k]? = some true→iE (H (mk (i+k))) r→HLoc.row r∈jX H mk os i
 | [],_,_,_,h,_=>by simp at h
 | o::os,i,0,r,h,h2=>by simp only[getElem?_cons_zero,Option.some.injEq] at h;subst h;rw[add_zero] at h2;rcases h2 with h2|h2<;>(simp only[jX,cond,h2];exact mem_cons_self ..)
 | o::os,i,k+1,r,h,h2=>by
  have ih:=Iy (mk:=mk) (os:=os) (i:=i+1) (k:=k) (r:=r) (by simpa using h) (by rwa[show i+1+k=i+(k+1) from by omega]);simp only[jX];cases o with
  | false=>exact ih
  | true=>
   simp only[cond];split
   ·exact mem_cons_of_mem _ ih
   ·exact mem_cons_of_mem _ ih
   ·exact ih
theorem zaB {ps:List PS}:∀ {svs:List SV} {fp fp' ks:List HLoc},(keepA ps svs).run H fp=some (ks,fp')→ks=qA H ps svs:=by
 induction ps with
 | nil=>intro svs fp fp' ks h;obtain⟨e,_⟩:=af (show(Rd.ret ([]:List HLoc)).run H _=_ from h);subst e;cases svs<;>rfl
 | cons p r ih=>
  intro svs fp fp' ks h;cases svs with
  | nil=>cases p<;>(obtain⟨e,_⟩:=af (show(Rd.ret ([]:List HLoc)).run H _=_ from h);subst e;rfl)
  | cons v vs=>
   cases p with
   | obj t own=>
    cases v with
    | adr s off=>
     obtain⟨d,fp1,k1,h⟩:=ah (show((cond (pbO own (aH (lay t))) (Rd.ret []) (qw (.fld s) own 0)).bind _).run H fp=_ from h);obtain⟨q,fp2,k2,h⟩:=ah h;obtain⟨e,_⟩:=af h;subst e;have ih:=ih k2;show _=cond (pbO own (aH (lay t))) [] (jX H (.fld s) own 0)++qA H r vs;cases hp:pbO own (aH (lay t)) with
     | true=>rw[hp] at k1;obtain⟨e,_⟩:=af k1;rw[←e,ih];rfl
     | false=>rw[hp] at k1;rw[Qa k1,ih];rfl
    | own q=>obtain⟨z,fp1,k1,h⟩:=ah (show((keepA r vs).bind _).run H fp=_ from h);obtain⟨e,_⟩:=af h;subst e;rw[ih k1];rfl
    | _=>exact ih h
   | agg t own=>
    cases v with
    | agg d u=>
     obtain⟨dd,fp1,k1,h⟩:=ah (show((cond (pbO own (aH t)) (Rd.ret []) (qw (.comp d) own 0)).bind _).run H fp=_ from h);obtain⟨q,fp2,k2,h⟩:=ah h;obtain⟨e,_⟩:=af h;subst e;have ih:=ih k2;show _=cond (pbO own (aH t)) [] (jX H (.comp d) own 0)++qA H r vs;cases hp:pbO own (aH t) with
     | true=>rw[hp] at k1;obtain⟨e,_⟩:=af k1;rw[←e,ih];rfl
     | false=>rw[hp] at k1;rw[Qa k1,ih];rfl
    | _=>exact ih h
   | row e=>
    cases v with
    | hdr q=>obtain⟨z,fp1,k1,h⟩:=ah (show((keepA r vs).bind _).run H fp=_ from h);obtain⟨e,_⟩:=af h;subst e;rw[ih k1];rfl
    | _=>exact ih h
   | _=>have:=ih h;cases v<;>exact this
theorem GN {r:List PS} {s:SV} {svs:List SV} {x:(bK r).den} {pubs:HW} {drops:List HLoc} {fp fp':List HLoc} (h:(df (.box::r) (s::svs)).run H fp=some ((x,pubs,drops),fp')) :
  ∃ st b o svs' fp1 fp2 z hw2 d2,s=.adr st 0∧svs=.adr b o::svs'∧H (.site st)=.obj bU∧H (.fld st 0)=.adr b o∧(df r svs).run H fp1=some ((z,hw2,d2),fp2)∧x=z∧pubs=hw2∧drops=HLoc.site st::d2:=by
 rw[zaL] at h;cases s<;>first|exact(ae h).elim|skip
 rename_i st off;simp only at h;cases hoff:beq off 0 with
 | false=>rw[hoff] at h;exact(ae h).elim
 | true=>
  rw[hoff] at h;obtain rfl:=eq_of_beq_eq_true hoff;simp only[cond,Rd.run] at h;split at h
  ·rename_i t' hobj;cases hb:t'.beq bU with
   | false=>rw[hb] at h;exact(ae h).elim
   | true=>
    rw[hb] at h;obtain rfl:=Ty.beq_eq hb;simp only[Rd.run] at h;split at h
    ·rename_i b o b' o' svs' hfld;cases hc:cond (beq b b') (beq o o') false with
     | false=>simp only[cond] at hc;rw[hc] at h;exact(ae h).elim
     | true=>obtain⟨e1,e2⟩:=az hc;obtain rfl:=eq_of_beq_eq_true e1;obtain rfl:=eq_of_beq_eq_true e2;simp only[cond] at hc;rw[hc] at h;obtain⟨⟨z,hw2,d2⟩,fp3,k3,h⟩:=ah h;obtain⟨e,_⟩:=af h;cases e;exact⟨st,b,o,svs',_,_,z,hw2,d2,rfl,rfl,hobj,hfld,k3,rfl,rfl,rfl⟩
    ·exact(ae h).elim
  ·exact(ae h).elim
def wR (H:HLoc→SV):SV→List HLoc
 | .hdr r=>[.row r]
 | .adr s _=>[.site s]
 | .agg d t=>wS ((range' 0 (aH t)).map fun k=>H (.comp d k))
 | _=>[]
def zO (H:HLoc→SV):List PS→List SV→List HLoc
 | .lent _::r,v::vs=>wR H v++zO H r vs
 | .rptr _::r,v::vs=>wR H v++zO H r vs
 | _::r,_::vs=>zO H r vs
 | _,_=>[]
theorem IK {r:Nat}:∀ {vs:List SV} {k:Nat},vs[k]? = some (.hdr r)→HLoc.row r∈wS vs
 | [],k,h=>by simp at h
 | v::vs,0,h=>by simp only[getElem?_cons_zero,Option.some.injEq] at h;subst h;exact mem_cons_self ..
 | v::vs,k+1,h=>by
  have ih:=IK (vs:=vs) (k:=k) (by simpa using h);simp only[wS];split
  ·exact mem_cons_of_mem _ ih
  ·exact ih
theorem QB {v:SV} {fp fp' ls:List HLoc} (h:(KX v).run H fp=some (ls,fp')):ls=wR H v:=by
 cases v with
 | hdr r=>exact(af h).1
 | agg d t=>obtain⟨vs,fp1,k1,h⟩:=ah (show((sO d (aH t) 0).bind _).run H fp=_ from h);obtain⟨e,_⟩:=af h;rw[e,Jl k1];rfl
 | _=>exact(af h).1
theorem zaw {ps:List PS}:∀ {svs:List SV} {fp fp' ls:List HLoc},(KT ps svs).run H fp=some (ls,fp')→ls=zO H ps svs:=by
 induction ps with
 | nil=>intro svs fp fp' ls h;obtain⟨e,_⟩:=af (show(Rd.ret ([]:List HLoc)).run H _=_ from h);subst e;cases svs<;>rfl
 | cons p r ih=>
  intro svs fp fp' ls h;cases svs with
  | nil=>cases p<;>(obtain⟨e,_⟩:=af (show(Rd.ret ([]:List HLoc)).run H _=_ from h);subst e;rfl)
  | cons v vs=>
   obtain⟨d,fp1,k1,h⟩:=ah (show(Rd.bind _ _).run H fp=_ from h);obtain⟨q,fp2,k2,h⟩:=ah h;obtain⟨e,_⟩:=af h;subst e;have ih:=ih k2;cases p with
   | lent t=>rw[QB k1,ih];rfl
   | rptr t=>rw[QB k1,ih];rfl
   | _=>obtain⟨e,_⟩:=af (show(Rd.ret ([]:List HLoc)).run H _=_ from k1);subst e;exact ih
theorem Ig {t:Ty} {r:List PS} {v:SV} {vs:List SV}:df (.lent t::r) (v::vs)=(Eb t v).bind fun p=>(df r vs).bind fun q=>.ret ((p,q.1),q.2.1,q.2.2):=rfl
theorem Ib {t:Ty} {r:List PS} {v:SV} {vs:List SV}:df (.rptr t::r) (v::vs)=(wK t v).bind fun p=>(df r vs).bind fun q=>.ret ((p,q.1),q.2.1,q.2.2):=rfl
theorem SimG.lv_le (hs:SimG C g S H a w) {M:Nat→Prop} (hM:∀ b,M b→g.own b≠none):g.lv.le (lvU g.fl M w):=fun b o v h=>by
 have hc:=hs.lvCell h;rw[hs.lv] at h;unfold Ar lvU at h;split at h
 ·exact vO _ _ _ (hs.iv _ _ _ h)
 ·rename_i hb;have hlt:b<C.w0.heap.size:=World.block_lt_of_cell? (a:=⟨b,o,none⟩) C.w0 h;unfold lvU;rw[if_neg fun hm=>by
   rcases(hs.own b (hM b hm)).2 with h|h
   ·omega
   ·exact hb h]
  exact hc
theorem qE.lent {M:Nat→Prop} {r:Nat} {pub:Bool} {e:Ty} {l:List e.den} (h:qE g w r pub e l) (hM:∀ b,M b→g.own b≠some (.row r)):bM (lvU g.fl M w) (.slice e) (g.hd r) l:=by
 rcases h with⟨h1,h2⟩|⟨b,cap,cs,h1,h2,h3,h4,h5,h6,h7⟩
 ·subst h2;exact⟨[.slice none 0 0],⟨none,0,0,rfl,rfl,le_refl _,fun _=>rfl,fun i x hx=>by simp at hx⟩,by rw[h1];rfl⟩
 ·refine⟨[g.hd r],⟨some ⟨b,0,none⟩,l.length,cap,by rw[h1],rfl,h2,fun e=>by simp at e,fun i x hx=> ?_⟩,rfl⟩;obtain⟨c,hc1,hc2⟩:=h7 i x hx;refine⟨b,0,c,rfl,fun j v hj=> ?_,hc2.mono vO⟩;unfold lvU;rw[if_neg fun hm=>hM b hm h5,zero_add,h3.cell];exact hc1 j v hj
theorem gI.lent {M:Nat→Prop} {fl:Nat→Nat} {own:Nat→Option Own} {v:Value} {o:Own} {e:Ty} {l:List e.den} {bo:Option Nat} (h:gI fl own w v o e l bo) (hM:∀ b,M b→own b≠some o):bM (lvU fl M w) (.slice e) v l:=by
 rcases h with⟨h1,h2,_⟩|⟨b,cap,cs,h1,h2,h3,h4,h5,h6,h7,h8⟩
 ·subst h2;exact⟨[.slice none 0 0],⟨none,0,0,rfl,rfl,le_refl _,fun _=>rfl,fun i x hx=>by simp at hx⟩,by rw[h1];rfl⟩
 ·refine⟨[v],⟨some ⟨b,0,none⟩,l.length,cap,by rw[h1],rfl,h2,fun e=>by simp at e,fun i x hx=> ?_⟩,rfl⟩;obtain⟨c,hc1,hc2⟩:=h7 i x hx;refine⟨b,0,c,rfl,fun j v hj=> ?_,hc2.mono vO⟩;unfold lvU;rw[if_neg fun hm=>hM b hm h5,zero_add,h3.cell];exact hc1 j v hj
theorem fO.lent {M:Nat→Prop} {fl:Nat→Nat} {own:Nat→Option Own} {v:Value} {o:Own} {e:Ty} {l:List e.den} {n:Nat} (h:fO fl own w v o e l n none) (hM:∀ b,M b→own b≠some o):bM (lvU fl M w) (.slice e) v l:=by
 obtain⟨_,_,h⟩:=h;rcases h with⟨h1,h2⟩|⟨b,cap,cs,bs,k1,k2,k3,k4,k5,k6,k7,k8,k9⟩
 ·subst h2;exact⟨[.slice none 0 0],⟨none,0,0,rfl,rfl,le_refl _,fun _=>rfl,fun i x hx=>by simp at hx⟩,by rw[h1];rfl⟩
 ·refine⟨[v],⟨some ⟨b,0,none⟩,l.length,cap,by rw[k1],rfl,k2,fun e=>by simp at e,fun i x hx=> ?_⟩,rfl⟩;obtain⟨c,c1,c2⟩:=k9 i x hx;refine⟨b,0,c,rfl,fun j v hj=> ?_,dQ.crep (fun u v y hq=> ?_) (c2.mono vO fun _ _ _ hq=>hq)⟩
  ·unfold lvU;rw[if_neg fun hm=>hM b hm k5,zero_add,k3.cell];exact c1 j v hj
  ·rcases hq with⟨hq,_⟩|⟨_,_,hq⟩|⟨_,_,hq,_⟩
   ·exact absurd hq (by simp)
   ·exact hq.lent hM
   ·exact hq.mono vO
theorem Rq {iv iv2:IV} (h1:iv.le iv2) (h2:g.lv.le iv2) (t:Ty) {s:SV} {v:Value} {y:t.den} {fp fp':List HLoc} (h:(wQ t s).run H fp=some (y,fp')) (hv:SR g iv s v)
  (hr:∀ r pub e l,s=.hdr r→jY H (.row r) pub e l→bM iv2 (.slice e) (g.hd r) l):bM iv2 t v y:=by
 cases s with
 | pv t' x=>obtain⟨h,_⟩:=aS h;exact(jP h hv).mono h1
 | lv t' x=>obtain⟨h,_⟩:=aS h;exact(jP h hv).mono h2
 | nils=>
  cases t<;>simp only[wQ] at h<;>first|exact(ae h).elim|skip
  obtain⟨h,_⟩:=af h;subst h;rw[show v=_ from hv];exact⟨[.slice none 0 0],⟨none,0,0,rfl,rfl,le_refl _,fun _=>rfl,fun i x hx=>by simp at hx⟩,rfl⟩
 | hdr r=>
  simp only[wQ,Rd.run] at h;split at h
  ·rename_i pub e l hrow;obtain⟨h,_⟩:=aS h;rw[show v=_ from hv];exact jP h (hr r pub e l rfl (.inl hrow))
  ·rename_i e l n hh hrow;split at h
   ·obtain⟨h,_⟩:=aS h;rw[show v=_ from hv];exact jP h (hr r false e l rfl (.inr ⟨rfl,n,hrow⟩))
   ·exact(ae h).elim
  ·exact(ae h).elim
 | _=>exact(ae h).elim
theorem Ro {mk:Nat→HLoc} {iv iv2:IV} (h1:iv.le iv2) (h2:g.lv.le iv2):∀ {t:Ty} {i:Nat} {cs:List Value} {x:t.den} {fp fp':List HLoc},(wP mk t i).run H fp=some (x,fp')→
  dF (fun j=>H (mk j)) g iv t cs i→(∀ k r pub e l,k<aH t→H (mk (i+k))=.hdr r→jY H (.row r) pub e l→bM iv2 (.slice e) (g.hd r) l)→aJ iv2 t cs x:=by
 intro t;induction t with
 | unit=>intro i cs x fp fp' h hc _;exact hc
 | pair A B _ hB=>intro i cs x fp fp' h hc hr;simp only[wP,Rd.run] at h;obtain⟨p,fp1,k1,h⟩:=ah h;obtain⟨q,fp2,k2,h⟩:=ah h;obtain⟨e,_⟩:=af h;cases e;obtain⟨c1,c2,rfl,hl,ho,hsr,hcr⟩:=hc;have:=(Rq h1 h2 A k1 hsr fun r pub e l e1 e2=>hr 0 r pub e l (Nat.succ_pos _) e1 e2).cells;rw[iw hl ho] at this;exact⟨c1,c2,rfl,this,hB k2 hcr fun k r pub e l hk e1 e2=>hr (k+1) r pub e l (Nat.succ_lt_succ hk) (by rwa[show i+(k+1)=i+1+k from by omega]) e2⟩
 | _=>intro i cs x fp fp' h;exact(ae h).elim
theorem Jf:∀ {hw:HW} {H:HLoc→SV},bC H hw→∀ {r:Nat} {pub:Bool} {e:Ty} {l:List e.den},jY H (.row r) pub e l→∃ pub',jY (puts H hw) (.row r) pub' e l
 | [],_,_,_,_,_,_,h=>⟨_,h⟩
 | (k,v)::rest,H,⟨⟨rr,p,e',x,h1,h2,h3⟩,hr⟩,r,pub,e,l,h=>by
  subst h1 h2;by_cases er:r=rr
  ·subst er;cases h3.uniq h;exact Jf (hw:=rest) (bC.upd h3 hr) (pub:=true) (.inl (by rw[aK]))
  ·exact Jf (hw:=rest) (bC.upd h3 hr) (pub:=pub) (by unfold jY;rw[ay _ _ (by simpa using er)];exact h)
theorem zbA (hs:SimG C g S H a w) {t:Ty} {s:SV} {v:Value} {y:t.den} {fp fp':List HLoc} (h:(Eb t s).run H fp=some (y,fp')) (hv:SR g (view g.fl w) s v) {hw:HW} {fl:Nat→Nat} {own:Nat→Option Own} (hp:bC H hw)
  (hs':SimG C { g with fl:=fl,own:=own } S (puts H hw) a w) (hle:(view g.fl w).le (view fl w)) {M:Nat→Prop} (hM:∀ b,M b→own b≠none) (hM':∀ r b,HLoc.row r∈wR H s→M b→own b≠some (.row r)):bM (lvU fl M w) t v y:=by
 have h1:(view g.fl w).le (lvU fl M w):=hle.trans vO;have h2:g.lv.le (lvU fl M w):=hs'.lv_le hM;have hrow:∀ r pub e l,jY H (.row r) pub e l→HLoc.row r∈wR H s→bM (lvU fl M w) (.slice e) (g.hd r) l:=fun r pub e l hr hm=>by
  obtain⟨pub',hr'|⟨_,n,hr'⟩⟩:=Jf hp hr
  ·exact(hs'.rows r pub' e l hr').lent (M:=M) fun b hb=>hM' r b hm hb
  ·exact(hs'.deeps r e l n none hr').lent (M:=M) fun b hb=>hM' r b hm hb
 by_cases hag:∃ d t',s=.agg d t'
 ·obtain⟨d,t',rfl⟩:=hag;simp only[Eb] at h;cases hb:t'.beq t with
  | false=>
   rw[hb] at h;cases ha:t.agg with
   | false=>rw[ha] at h;exact(ae h).elim
   | true=>
   rw[ha] at h;obtain⟨z,fp1,k1,h⟩:=ah (show((wP (.comp d) t' 0).bind _).run H fp=_ from h);obtain⟨h,_⟩:=aS h;obtain⟨e1,rfl,e3⟩:=hv;refine⟨_,yY (Ro (mk:=.comp d) (g:=g) h1 h2 k1 (qR hs e3) fun k r pub e l hk q1 q2=>hrow r pub e l q2 (IK (k:=k) (by rw[getElem?_map,List.getElem?_range' hk,map_some,one_mul,q1]))) h,?_⟩;simp[mkV,ha]
  | true=>rw[hb] at h;obtain rfl:=Ty.beq_eq hb;obtain⟨e1,rfl,e3⟩:=hv;refine⟨_,Ro (mk:=.comp d) (g:=g) h1 h2 h (qR hs e3) fun k r pub e l hk q1 q2=>hrow r pub e l q2 (IK (k:=k) (by rw[getElem?_map,List.getElem?_range' hk,map_some,one_mul,q1])),?_⟩;simp[mkV,e1]
 ·have h:(wQ t s).run H fp=some (y,fp'):=by
   cases s<;>first|exact h|exact absurd ⟨_,_,rfl⟩ hag
  exact Rq (g:=g) h1 h2 t h hv fun r pub e l q1 q2=>hrow r pub e l q2 (by subst q1;exact List.mem_singleton_self _)
theorem zbB {mk:Nat→HLoc} {iv:IV}:∀ {t:Ty} {i:Nat} {cs:List Value} {x:t.den} {fp fp':List HLoc},(Ec mk t i).run H fp=some (x,fp')→
  dF (fun j=>H (mk j)) g iv t cs i→aJ iv t cs x:=by
 intro t;induction t with
 | unit=>intro i cs x fp fp' h hc;exact hc
 | pair A B _ hB=>
  intro i cs x fp fp' h hc;simp only[Ec,Rd.run] at h;obtain⟨p,fp1,k1,h⟩:=ah h;obtain⟨q,fp2,k2,h⟩:=ah h;obtain⟨e,_⟩:=af h;cases e;obtain⟨c1,c2,rfl,hl,ho,hsr,hcr⟩:=hc;unfold UT at k1;split at k1
  ·rename_i t' y hy;obtain⟨k1,_⟩:=aS k1;have hsr:SR g iv (H (mk i)) (mkV A c1):=hsr;rw[hy] at hsr;have:=(jP k1 hsr).cells;rw[iw hl ho] at this;exact⟨c1,c2,rfl,this,hB k2 hcr⟩
  ·exact(ae k1).elim
 | _=>intro i cs x fp fp' h;exact(ae h).elim
theorem dF.pref {F:Nat→SV} {iv:IV}:∀ {e t:Ty} {cs:List Value} {i:Nat},uy e t=true→dF F g iv t cs i→∃ c1 c2,cs=c1++c2∧dF F g iv e c1 i:=by
 intro e;induction e with
 | unit=>intro t cs i _ _;exact⟨[],cs,rfl,rfl⟩
 | pair A B _ hB=>
  intro t cs i h hf;cases t with
  | pair c d=>simp only[uy] at h;obtain⟨h1,h2⟩:=az h;obtain rfl:=Ty.beq_eq h1;obtain⟨c1,c2,rfl,k1,k2,k3,k4⟩:=hf;obtain⟨d1,d2,rfl,k5⟩:=hB h2 k4;exact⟨c1++d1,d2,by simp,c1,d1,rfl,k1,k2,k3,k5⟩
  | _=>simp[uy] at h
 | _=>intro t cs i h;simp[uy] at h
theorem Qk:∀ {hw:HW} {H:HLoc→SV},bC H hw→∀ n,puts H hw (.site n)=H (.site n)
 | [],_,_,_=>rfl
 | (k,v)::rest,H,⟨⟨rr,p,e',x,h1,h2,h3⟩,hr⟩,n=>by subst h1 h2;exact(Qk (hw:=rest) (bC.upd h3 hr) n).trans (ay _ _ (by simp))
theorem zba (hs:SimG C g S H a w) {e:Ty} {s:SV} {v:Value} {y:e.den} {fp fp':List HLoc} (h:(wK e s).run H fp=some (y,fp')) (hv:SR g (view g.fl w) s v) {hw:HW} {fl:Nat→Nat} {own:Nat→Option Own} (hp:bC H hw)
  (hs':SimG C { g with fl:=fl,own:=own } S (puts H hw) a w) (hle:(view g.fl w).le (view fl w)) {M:Nat→Prop} (hM:∀ b,M b→own b≠none) (hMs:∀ r b,HLoc.site r∈wR H s→M b→own b≠some (.site r)):∃ b o cs,v=.pointer (some ⟨b,o,none⟩)∧aJ (view fl w) e cs y∧seg (lvU fl M w) b o cs:=by
 have h2:g.lv.le (lvU fl M w):=hs'.lv_le hM;cases s with
 | adr d o=>
  simp only[wK] at h;cases ho:beq o 0 with
  | false=>rw[ho] at h;exact(ae h).elim
  | true=>
  rw[ho] at h;obtain rfl:=eq_of_beq_eq_true ho;simp only[cond_true,Rd.run] at h;split at h
  ·rename_i t' hst;cases hc:cond t'.agg (uy e t') false with
   | false=>rw[hc] at h;exact(ae h).elim
   | true=>
   rw[hc] at h;obtain⟨ha,hpf⟩:=az hc;obtain⟨cs,hblk,how,hfl,hcells⟩:=hs.sites d t' hst;unfold dV at hcells;rw[ha] at hcells;obtain⟨c1,c2,rfl,hF⟩:=dF.pref hpf hcells;have hown:own (g.st d)=some (.site d):=by
    have hsite:puts H hw (.site d)=.obj t':=by rw[Qk hp];exact hst
    obtain⟨_,_,h4,_⟩:=hs'.sites d t' hsite;exact h4
   refine⟨g.st d,0,c1,hv,(zbB (mk:=.fld d) (g:=g) h hF).mono hle,fun j x hj=> ?_⟩;unfold lvU;rw[if_neg fun hm=>hMs d (g.st d) (List.mem_singleton_self _) hm hown,zero_add,hblk.cell];rw[List.getElem?_append_left (List.getElem?_eq_some_iff.1 hj).1];exact hj
  ·exact(ae h).elim
 | lel t x o=>
  simp only[wK] at h;cases ho:beq o 0 with
  | false=>rw[ho] at h;exact(ae h).elim
  | true=>
  rw[ho] at h;obtain rfl:=eq_of_beq_eq_true ho;obtain⟨h,_⟩:=aS h;obtain⟨et,rfl⟩:=dm h;subst et;obtain⟨b,o,cs,q1,q2,q3⟩:=hv;exact⟨b,o,cs,q1,q2.mono hle,q3.mono h2⟩
 | _=>exact(ae h).elim
theorem jy.pure {T:Own→Own→Prop} {fl:Nat→Nat} {own:Nat→Option Own} {rid:Nat}:∀ {t:Ty} {cs:List Value} {x:t.den} {i:Nat},structEnd t=true→aJ (view fl w) t cs x→jy T fl own w rid [] t cs x i:=by
 intro t;induction t with
 | pair A B _ hB=>rintro cs x i h ⟨c1,c2,h1,h2,h3⟩;exact⟨c1,c2,h1,by cases A<;>exact h2,hB h h3⟩
 | unit=>intro cs x i _ h;exact h
 | _=>intro cs x i h;exact noConfusion h
theorem zas (hs:SimG C g S H a w) {r:Nat} {v:Value} {e:Ty} {l:List e.den} {x:e.den} (hv:SR g (view g.fl w) (.own r) v) (hr:H (.row r)=.row false e l) (hx:head? l=some x) :
  ∃ b cs,v=.pointer (some ⟨b,0,none⟩)∧g.hd r=.slice (some ⟨b,0,none⟩) 1 1∧Blk w b cs∧g.own b=some (.row r)∧g.fl b=0∧aJ (view g.fl w) e cs x∧l=[x]:=by
 obtain⟨b,h1,h2⟩:=yK hs hv (.inl ⟨_,_,_,_,hr,hx⟩);rcases hs.rows r false e l hr with⟨h3,_⟩|⟨b',cap,cs,h3,h4,h5,h6,h7,h8,h9⟩
 ·rw[h2] at h3;exact Value.noConfusion h3 fun e=>by simp at e
 ·rw[h2] at h3;injection h3 with e1 e2 e3;cases e1;subst e3;have hl:l=[x]:=by
   cases l with
   | nil=>simp at hx
   | cons y l=>
    simp only[List.head?_cons,Option.some.injEq] at hx;cases l with
    | nil=>rw[hx]
    | cons _ _=>simp at e2
  subst hl;obtain⟨c,k1,k2⟩:=h9 0 x rfl;have hc:c=cs:=by
   apply List.ext_getElem?;intro j;have hlc:=k2.length;cases hj:c[j]? with
   | some z=>have:=k1 j z hj;rw[Nat.zero_mul,zero_add] at this;exact this.symm
   | none=>have:=List.getElem?_eq_none_iff.1 hj;exact(List.getElem?_eq_none_iff.2 (by omega)).symm
  subst hc;exact⟨b,c,h1,h2,h5,h7,h8,k2,rfl⟩
theorem zbY (hs:SimG C g S H a w):∀ {ps:List PS} {svs:List SV} {vs:List Value} {i:Nat} {x:(bK ps).den} {pubs:HW} {drops:List HLoc} {fp fp':List HLoc},
  (df ps svs).run H fp=some ((x,pubs,drops),fp')→svs.length=vs.length→qF svs vs→(∀ (j:Nat) (s:SV) (v:Value),svs[j]? = some s→vs[j]? = some v→SR g (view g.fl w) s v∧aG H s)→
  bC H pubs∧(∀ l∈drops,H l≠.bot)∧∃ m:List (Own×Own),drops=m.map (fun p=>dK p.1)∧∀ {hw:HW} {fl:Nat→Nat} {own:Nat→Option Own},(∀ y∈pubs,y∈hw)→bC H hw→(∀ l∈qA H ps svs,l ∉ au hw)→SimG C { g with fl:=fl,own:=own } S (puts H hw) a w→(view g.fl w).le (view fl w)→
   ∀ T:Own→Own→Prop,(∀ p∈m,T p.1 p.2)→(∀ o t,T o t→dK o ∉ zO H ps svs)→jA T fl own w i ps vs x:=by
 intro ps;induction ps with
 | nil=>
  intro svs vs i x pubs drops fp fp' h hl _ _;cases svs with
  | cons=>rw[vC] at h;exact(ae h).elim
  | nil=>rw[zaK] at h;obtain⟨e,_⟩:=af h;cases e;exact⟨trivial,by simp,[],rfl,fun _ _ _ _ _ T _ _=>by cases vs with|nil=>rfl|cons=>simp at hl⟩
 | cons p ps ih=>
  intro svs vs i x pubs drops fp fp' h hl hcap hv;cases p with
  | pure t=>
   cases svs with
   | nil=>rw[pJ] at h;exact(ae h).elim
   | cons s svs=>
    cases vs with
    | nil=>simp at hl
    | cons v vs=>rw[Ic] at h;obtain⟨⟨y,hw1⟩,fp1,k1,h⟩:=ah h;obtain⟨⟨z,hw2,d2⟩,fp2,k2,h⟩:=ah h;obtain⟨e,_⟩:=af h;cases e;obtain⟨v1,v2⟩:=hv 0 s v rfl rfl;obtain⟨p1,p2⟩:=oz hs k1 v1 v2;obtain⟨q1,q4,m,q2,q3⟩:=ih (i:=i+1) k2 (by simpa using hl) hcap.tail fun j s' v' h1 h2=>hv (j+1) s' v' (by simpa using h1) (by simpa using h2);refine⟨bC.append.2 ⟨p1,q1⟩,q4,m,q2,fun hsub hp hkp hs' hle T hT hL=>⟨?_,q3 (fun y hy=>hsub y (mem_append_right _ hy)) hp (by cases s<;>exact hkp) hs' hle T hT (by cases s<;>exact hL)⟩⟩;exact p2 _ _ ((hs'.rowsRd hp).sub fun y hy=>hsub y (mem_append_left _ hy)) hle
  | lent t=>
   cases svs with
   | nil=>rw[pJ] at h;exact(ae h).elim
   | cons s svs=>
    cases vs with
    | nil=>simp at hl
    | cons v vs=>rw[Ig] at h;obtain⟨y,fp1,k1,h⟩:=ah h;obtain⟨⟨z,hw2,d2⟩,fp2,k2,h⟩:=ah h;obtain⟨e,_⟩:=af h;cases e;obtain⟨v1,v2⟩:=hv 0 s v rfl rfl;obtain⟨q1,q4,m,q2,q3⟩:=ih (i:=i+1) k2 (by simpa using hl) hcap.tail fun j s' v' h1 h2=>hv (j+1) s' v' (by simpa using h1) (by simpa using h2);refine⟨q1,q4,m,q2,fun{hw fl own} hsub hp hkp hs' hle T hT hL=>⟨?_,q3 hsub hp (by cases s<;>exact hkp) hs' hle T hT fun o t ht hm=>hL o t ht (mem_append_right _ hm)⟩⟩;exact zbA hs k1 v1 hp hs' hle (fun b ⟨o,t',h1,_⟩=>by rw[h1];exact fun h=>by cases h) fun r b hr ⟨o,t',h1,h2⟩ h3=>by rw[h3] at h1;cases h1;exact hL (.row r) t' h2 (mem_append_left _ hr)
  | rptr t=>
   cases svs with
   | nil=>rw[pJ] at h;exact(ae h).elim
   | cons s svs=>
    cases vs with
    | nil=>simp at hl
    | cons v vs=>rw[Ib] at h;obtain⟨y,fp1,k1,h⟩:=ah h;obtain⟨⟨z,hw2,d2⟩,fp2,k2,h⟩:=ah h;obtain⟨e,_⟩:=af h;cases e;obtain⟨v1,v2⟩:=hv 0 s v rfl rfl;obtain⟨q1,q4,m,q2,q3⟩:=ih (i:=i+1) k2 (by simpa using hl) hcap.tail fun j s' v' h1 h2=>hv (j+1) s' v' (by simpa using h1) (by simpa using h2);refine⟨q1,q4,m,q2,fun{hw fl own} hsub hp hkp hs' hle T hT hL=>⟨?_,q3 hsub hp (by cases s<;>exact hkp) hs' hle T hT fun o t ht hm=>hL o t ht (mem_append_right _ hm)⟩⟩;exact zba hs k1 v1 hp hs' hle (fun b ⟨o,t',h1,_⟩=>by rw[h1];exact fun h=>by cases h) fun r b hr ⟨o,t',h1,h2⟩ h3=>by rw[h3] at h1;cases h1;exact hL (.site r) t' h2 (mem_append_left _ hr)
  | agg t os=>
   cases svs with
   | nil=>rw[pJ] at h;exact(ae h).elim
   | cons s svs=>
    cases vs with
    | nil=>simp at hl
    | cons v vs=>
     rw[I4] at h;cases s<;>first|exact(ae h).elim|skip
     rename_i d t';simp only at h;cases hb:t'.beq t with
     | false=>rw[hb] at h;exact(ae h).elim
     | true=>
      rw[hb] at h;obtain rfl:=Ty.beq_eq hb;obtain⟨⟨y,hw1⟩,fp1,k1,h⟩:=ah (show((iP (.comp d) os t' 0).bind _).run H _=_ from h);obtain⟨dd,fp2,k2,h⟩:=ah h;obtain⟨⟨z,hw2,d2⟩,fp3,k3,h⟩:=ah h;obtain⟨e,_⟩:=af h;cases e;obtain⟨v1,v2⟩:=hv 0 _ v rfl rfl;obtain⟨q1,q4,m,q2,q3⟩:=ih (i:=i+1) k3 (by simpa using hl) hcap.tail fun j s' v' h1 h2=>hv (j+1) s' v' (by simpa using h1) (by simpa using h2);obtain⟨m1,d1,d2'⟩:=ug (rid:=i*100) k2;have hG:=fun T (hT:∀ p∈m1,T p.1 p.2)=>tX (C:=C) (g:=g) (S:=S) (a:=a) (w:=w) (T:=T) (rid:=i*100) (os:=os) k1 fun k hk=>by
       rcases d2' k hk with⟨r,e1,e2⟩|e1
       ·exact .inl ⟨r,e1,hT _ e2⟩
       ·exact .inr e1
      refine⟨bC.append.2 ⟨(hG (fun _ _=>True) fun _ _=>trivial).1,q1⟩,fun l hl=>(by
       rcases mem_append.1 hl with hl|hl
       ·exact yg hs k2 l hl
       ·exact q4 l hl),m1++m,by rw[d1,q2,List.map_append],fun{hw fl own} hsub hp hkp hs' hle T hT hL=>⟨?_,q3 (fun y hy=>hsub y (mem_append_right _ hy)) hp (fun l hl=>hkp l (mem_append_right _ hl)) hs' hle T (fun p hp=>hT p (by simp[hp])) hL⟩⟩
      obtain⟨_,e2,e3⟩:=SR.change (H:=H) (GAgree.same (g:=g) (g':={ g with fl:=fl,own:=own }) rfl rfl rfl) hle v2 v1;refine⟨_,e2,(hG T fun p hp=>hT p (by simp[hp])).2 (fun y hy=>hsub y (mem_append_left _ hy)) hp (fun hpb k r h1 h2=>hkp _ (mem_append_left _ (by rw[hpb];exact Iy (TD h1) h2))) hs' ?_⟩;have hF:(fun i=>puts H hw (.comp d i))=fun i=>H (.comp d i):=funext fun i=>zar hp;have:=qR hs' (d:=d) e3;rw[hF] at this;exact this
  | nilp=>
   cases svs with
   | nil=>rw[pJ] at h;exact(ae h).elim
   | cons s svs=>
    cases vs with
    | nil=>simp at hl
    | cons v vs=>
     rw[Ie] at h;cases s<;>first|exact(ae h).elim|skip
     obtain⟨v1,v2⟩:=hv 0 _ v rfl rfl;obtain⟨q1,q4,m,q2,q3⟩:=ih (i:=i+1) h (by simpa using hl) hcap.tail fun j s' v' h1 h2=>hv (j+1) s' v' (by simpa using h1) (by simpa using h2);exact⟨q1,q4,m,q2,fun hsub hp hkp hs' hle T hT hL=>⟨v1,q3 hsub hp hkp hs' hle T hT hL⟩⟩
  | fnc f n=>
   cases svs with
   | nil=>rw[pJ] at h;exact(ae h).elim
   | cons s svs=>
    cases vs with
    | nil=>simp at hl
    | cons v vs=>
     rw[IZ] at h;cases s<;>first|exact(ae h).elim|skip
     rename_i f' d n';simp only at h;cases hb:cond (beq f f') (beq n n') false with
     | false=>rw[hb] at h;exact(ae h).elim
     | true=>rw[hb] at h;obtain⟨hb1,hb2⟩:=az hb;obtain rfl:=eq_of_beq_eq_true hb1;obtain rfl:=eq_of_beq_eq_true hb2;obtain⟨q1,q4,m,q2,q3⟩:=ih (i:=i+1) h (by simpa using hl) hcap.tail fun j s' v' h1 h2=>hv (j+1) s' v' (by simpa using h1) (by simpa using h2);exact⟨q1,q4,m,q2,fun hsub hp hkp hs' hle T hT hL=>⟨hcap.1,q3 hsub hp hkp hs' hle T hT hL⟩⟩
  | box=>
   cases svs with
   | nil=>rw[pJ] at h;exact(ae h).elim
   | cons s svs=>
    cases vs with
    | nil=>simp at hl
    | cons v vs=>
     obtain⟨st,b,o,svs',fp1,fp2,z,hw2,d2,rfl,rfl,hobj,hfld,k3,rfl,rfl,rfl⟩:=GN h;obtain⟨v1,v2⟩:=hv 0 _ v rfl rfl;obtain⟨q1,q4,m,q2,q3⟩:=ih (i:=i+1) k3 (by simpa using hl) hcap.tail fun j s' v' h1 h2=>hv (j+1) s' v' (by simpa using h1) (by simpa using h2);refine⟨q1,fun l hl=>(by
      rcases mem_cons.1 hl with rfl|hl
      ·rw[hobj];exact SV.noConfusion
      ·exact q4 l hl),(.site st,.site i)::m,by rw[q2,map_cons];rfl,fun{hw fl own} hsub hp hkp hs' hle T hT hL=>⟨?_,q3 hsub hp hkp hs' hle T (fun p hp=>hT p (by simp[hp])) hL⟩⟩
     have hobj':puts H hw (.site st)=.obj bU:=by rw[lZ hp];exact hobj
     obtain⟨cs,h1,h2,h3,h4⟩:=hs'.sites st bU hobj';obtain⟨c,rfl,-,h5⟩:=h4;have h5:SR { g with fl:=fl,own:=own } (view fl w) (puts H hw (.fld st 0)) c:=h5;rw[pV hp,hfld] at h5;cases vs with
     | nil=>simp at hl
     | cons p rest=>obtain⟨w1,_⟩:=hv 1 (.adr b o) p rfl rfl;have e:p=c:=(show p=Value.pointer (some ⟨g.st b,o,none⟩) from w1).trans (show c=Value.pointer (some ⟨g.st b,o,none⟩) from h5).symm;subst e;exact⟨p,rest,rfl,g.st st,.site st,hT (.site st,.site i) (by simp),v1,h1,h2,h3⟩
  | row e=>
   cases svs with
   | nil=>rw[pJ] at h;exact(ae h).elim
   | cons s svs=>
    cases vs with
    | nil=>simp at hl
    | cons v vs=>
     obtain⟨q,l,fp1,fp2,z,d2,rfl,hrow,k3,rfl,rfl⟩:=GM h;obtain⟨v1,v2⟩:=hv 0 _ v rfl rfl;obtain⟨q1,q4,m,q2,q3⟩:=ih (i:=i+1) k3 (by simpa using hl) hcap.tail fun j s' v' h1 h2=>hv (j+1) s' v' (by simpa using h1) (by simpa using h2);refine⟨q1,fun l hl=>(by
      rcases mem_cons.1 hl with rfl|hl
      ·rw[hrow];exact SV.noConfusion
      ·exact q4 l hl),(.row q,.row (i*100))::m,by rw[q2,map_cons];rfl,fun{hw fl own} hsub hp hkp hs' hle T hT hL=>⟨?_,q3 hsub hp (fun l hl=>hkp l (mem_cons_of_mem _ hl)) hs' hle T (fun p hp=>hT p (by simp[hp])) hL⟩⟩
     have hrow':puts H hw (.row q)=.row false e l:=by rw[cZ (hkp (.row q) (mem_cons_self ..))];exact hrow
     have h1:=zdf.1 (hs'.rows q false e l hrow');rw[show v=g.hd q from v1];exact .inr ⟨.row q,hT (.row q,.row (i*100)) (by simp),h1⟩
  | obj t os=>
   cases svs with
   | nil=>rw[pJ] at h;exact(ae h).elim
   | cons s svs=>
    cases vs with
    | nil=>simp at hl
    | cons v vs=>
     rw[IY] at h;cases s<;>first|exact(ae h).elim|skip
     case own q=>
      simp only at h;cases hoe:cond (isEmpty os) (structEnd (lay t)) false with
      | false=>rw[hoe] at h;exact(ae h).elim
      | true=>
       rw[hoe] at h;obtain⟨ho1,ho2⟩:=az hoe;obtain rfl:os=[]:=List.isEmpty_iff.1 ho1;simp only[cond_true,Rd.run] at h;split at h
       case h_2=>exact(ae h).elim
       rename_i pub e l hrow;cases pub with
       | true=>exact(ae h).elim
       | false=>
        simp only[cond_false] at h;obtain⟨x0,hx0,h⟩:=bP h;obtain⟨y,fp1,k1,h⟩:=ah h;obtain⟨⟨z,hw2,d2⟩,fp2,k2,h⟩:=ah h;obtain⟨e1,_⟩:=af h;obtain⟨k1,_⟩:=aS k1;obtain⟨he,hy⟩:=dm k1;subst he;cases hy;cases e1;obtain⟨v1,v2⟩:=hv 0 _ v rfl rfl;obtain⟨q1,q4,m,q2,q3⟩:=ih (i:=i+1) k2 (by simpa using hl) hcap.tail fun j s' v' h1 h2=>hv (j+1) s' v' (by simpa using h1) (by simpa using h2);refine⟨q1,fun l hl=>(by
         rcases mem_cons.1 hl with rfl|hl
         ·rw[hrow];exact SV.noConfusion
         ·exact q4 l hl),(.row q,.site i)::m,by rw[q2,map_cons];rfl,fun{hw fl own} hsub hp hkp hs' hle T hT hL=>⟨?_,q3 hsub hp (fun l hl=>hkp l (mem_cons_of_mem _ hl)) hs' hle T (fun p hp=>hT p (by simp[hp])) hL⟩⟩
        have hrow':puts H hw (.row q)=.row false (lay t) l:=by rw[cZ (hkp (.row q) (mem_cons_self ..))];exact hrow
        obtain⟨b,cs,r1,_,r3,r4,r5,r6,_⟩:=zas hs' (v:=v) v1 hrow' hx0;exact⟨b,cs,.row q,hT (.row q,.site i) (by simp),r1,r3,r4,r5,jy.pure ho2 r6⟩
     rename_i st off;simp only at h;cases hoff:beq off 0 with
     | false=>rw[hoff] at h;exact(ae h).elim
     | true=>
      rw[hoff] at h;simp only[cond,Rd.run] at h;split at h
      ·rename_i t' hobj;cases hb:t'.beq t with
       | false=>rw[hb] at h;exact(ae h).elim
       | true=>
        rw[hb] at h;obtain rfl:=Ty.beq_eq hb;simp only[cond] at h;obtain⟨⟨y,hw1⟩,fp1,k1,h⟩:=ah h;obtain⟨d,fp2,k2,h⟩:=ah h;obtain⟨⟨z,hw2,d2⟩,fp3,k3,h⟩:=ah h;obtain⟨e,_⟩:=af h;cases e;obtain⟨v1,v2⟩:=hv 0 _ v rfl rfl;obtain⟨q1,q4,m,q2,q3⟩:=ih (i:=i+1) k3 (by simpa using hl) hcap.tail fun j s' v' h1 h2=>hv (j+1) s' v' (by simpa using h1) (by simpa using h2);obtain⟨m1,d1,d2'⟩:=ug (rid:=i*100) k2;have hG:=fun T (hT:∀ p∈m1,T p.1 p.2)=>tX (C:=C) (g:=g) (S:=S) (a:=a) (w:=w) (T:=T) (rid:=i*100) (os:=os) k1 fun k hk=>by
         rcases d2' k hk with⟨r,e1,e2⟩|e1
         ·exact .inl ⟨r,e1,hT _ e2⟩
         ·exact .inr e1
        refine⟨bC.append.2 ⟨(hG (fun _ _=>True) fun _ _=>trivial).1,q1⟩,fun l hl=>(by
         rcases mem_cons.1 hl with rfl|hl
         ·rw[hobj];exact SV.noConfusion
         ·rcases mem_append.1 hl with hl|hl
          ·exact yu hs k2 l hl
          ·exact q4 l hl),(.site st,.site i)::(m1++m),by rw[d1,q2,map_cons,List.map_append];rfl,fun{hw fl own} hsub hp hkp hs' hle T hT hL=>⟨?_,q3 (fun y hy=>hsub y (mem_append_right _ hy)) hp (fun l hl=>hkp l (mem_append_right _ hl)) hs' hle T (fun p hp=>hT p (by simp[hp])) hL⟩⟩
        have hobj':puts H hw (.site st)=.obj t':=by rw[lZ hp];exact hobj
        obtain⟨cs,h1,h2,h3,h4⟩:=hs'.sites st t' hobj';have hval:v=.pointer (some ⟨g.st st,0,none⟩):=by obtain rfl:=eq_of_beq_eq_true hoff;exact v1
        refine⟨g.st st,cs,.site st,hT (.site st,.site i) (by simp),hval,h1,h2,h3,(hG T fun p hp=>hT p (by simp[hp])).2 (fun y hy=>hsub y (mem_append_left _ hy)) hp (fun hpb k r h1 h2=>hkp _ (mem_append_left _ (by rw[hpb];exact Iy (TD h1) h2))) hs' ?_⟩;have hF:(fun i=>puts H hw (.fld st i))=fun i=>H (.fld st i):=funext fun i=>pV hp;rw[BM,hF] at h4;exact h4
      ·exact(ae h).elim
end
section
variable {C:Ctx} {g:Gh} {S:Nat→SV} {H:HLoc→SV} {a:Act} {w:World}
def Lp (H:HLoc→SV) (g:Gh) (hd':Nat→Value):Prop:=∀ r,H (.row r)≠.bot→hd' r=g.hd r
theorem fG:∀ (a b:HW),au (a++b)=au a++au b
 | [],_=>rfl
 | (l,v)::r,b=>by simp[au,fG r b]
theorem yE {rid:Nat}:∀ {os:List Bool} {i:Nat} {fp fp':List HLoc} {u:Unit},(jW rid os i).run H fp=some (u,fp')→∀ k,os[k]? = some true→H (.row (rid+(i+k)))=.bot
 | [],_,_,_,_,_,k,hk=>by simp at hk
 | o::os,i,fp,fp',u,h,k,hk=>by
  simp only[jW] at h;cases o with
  | false=>
   cases k with
   | zero=>simp at hk
   | succ k=>have:=yE (show(jW rid os (i+1)).run H fp=_ from h) k (by simpa using hk);rwa[show i+1+k=i+(k+1) from by omega] at this
  | true=>
   obtain⟨h1,h2⟩:=fH (show(fresh (.row (rid+i)) (jW rid os (i+1))).run H fp=_ from h);cases k with
   | zero=>exact h1
   | succ k=>have:=yE h2 k (by simpa using hk);rwa[show i+1+k=i+(k+1) from by omega] at this
theorem jQ {mk:Nat→HLoc} {rid:Nat}:∀ {t:Ty} {os:List Bool} {x:t.den} {i:Nat} {l:HLoc},l∈au (aZ mk rid os t x i)→(∃ k,l=mk (i+k))∨∃ k,os[k]? = some true∧l=.row (rid+(i+k)):=by
 intro t;induction t with
 | pair A B _ hB=>
  intro os x i l hl;simp only[aZ,fG,mem_append] at hl;rcases hl with hl|hl
  ·unfold gJ at hl;cases hb:hdB os with
   | false=>rw[hb] at hl;simp only[cond,au,mem_singleton] at hl;exact .inl ⟨0,hl⟩
   | true=>
    rw[hb] at hl;simp only[cond] at hl;split at hl
    ·simp only[au,mem_cons,not_mem_nil,or_false] at hl;rcases hl with rfl|rfl
     ·exact .inr ⟨0,zfa.1 hb,rfl⟩
     ·exact .inl ⟨0,rfl⟩
    ·simp only[au,mem_cons,not_mem_nil,or_false] at hl;rcases hl with rfl|rfl
     ·exact .inr ⟨0,zfa.1 hb,rfl⟩
     ·exact .inl ⟨0,rfl⟩
    ·simp only[au,mem_singleton] at hl;exact .inl ⟨0,hl⟩
  ·rcases hB hl with⟨k,rfl⟩|⟨k,hk,rfl⟩
   ·exact .inl ⟨k+1,by congr 1;omega⟩
   ·exact .inr ⟨k+1,by rw[←zcg];exact hk,by congr 1;omega⟩
 | _=>intro os x i l hl;simp[aZ,au] at hl
def kY (fl:Nat→Nat) (own:Nat→Option Own) (w:World) (v:Value) (o:Own) (pb dp:Bool) (e:Ty) (l:List e.den):Prop:=cond (dpF dp e) (fO fl own w v o e l l.length none) (iq fl own w v o pb e l)
theorem jZ.v {T:Own→Own→Prop} {fl:Nat→Nat} {own:Nat→Option Own} {v:Value} {t o':Own} {pb dp:Bool} {e:Ty} {l:List e.den} (h:jZ T fl own w v t pb dp e l) (ho:∀ o,T o t→o=o'):kY fl own w v o' pb dp e l:=by
 unfold jZ at h;unfold kY;cases hd:dpF dp e with
 | true=>
  rw[hd] at h;rcases h with⟨h1,h2⟩|⟨o,h1,h2⟩
  ·refine⟨by rw[h2];exact le_refl _,fun k x hk=>(by cases hk),.inl ⟨h1,h2⟩⟩
  ·rw[←ho o h1];exact h2
 | false=>
  rw[hd] at h;rcases h with h|⟨o,h1,h2⟩
  ·exact .inl h
  ·rw[←ho o h1];exact h2
theorem kY.one {fl:Nat→Nat} {own:Nat→Option Own} {v:Value} {o:Own} {pb dp:Bool} {e:Ty} {l:List e.den} (h:kY fl own w v o pb dp e l):oneC v=true:=by
 unfold kY at h;cases hd:dpF dp e with
 | true=>rw[hd] at h;obtain⟨_,_,⟨h,_⟩|⟨b,cap,cs,bs,h,_⟩⟩:=h<;>(rw[h];rfl)
 | false=>rw[hd] at h;obtain⟨ad,n,c,rfl⟩:=iq.oneC h;rfl
theorem oD {dp pb:Bool} {e:Ty} {l:List e.den}:oP dp pb e l≠.bot:=by
 unfold oP;cases dpF dp e<;>exact SV.noConfusion
theorem SimG.setRowD (hs:SimG C g S H a w) {r:Nat} {pb dp:Bool} {e:Ty} {l:List e.den} (h:kY g.fl g.own w (g.hd r) (.row r) pb dp e l):SimG C g S (ak H (.row r) (oP dp pb e l)) a w:=by
 unfold kY at h;unfold oP;cases hd:dpF dp e with
 | true=>rw[hd] at h;exact hs.setDeep (h:=none) h fun i q hq=>(by cases hq)
 | false=>rw[hd] at h;exact hs.setRow (zdf.2 h)
theorem Iu {T:Own→Own→Prop} {sh:Own→Own} (hT:∀ o t,T o t→o=sh t) {id rid n:Nat} (hsh:∀ k,sh (.row k)=.row (id+k)):∀ {t:Ty} {os:List Bool} {cs:List Value} {x:t.den} {i:Nat} {g:Gh} {H:HLoc→SV},SimG C g S H a w→(∀ t,H (.site n)≠.obj t)→
  jy T g.fl g.own w rid os t cs x i→(∀ r,HLoc.row r∈au (aZ (.fld n) (id+rid) os t x i)→H (.row r)=.bot)→
  ∃ hd',Lp H g hd'∧SimG C { g with hd:=hd' } S (puts H (aZ (.fld n) (id+rid) os t x i)) a w∧dF (fun j=>puts H (aZ (.fld n) (id+rid) os t x i) (.fld n j)) { g with hd:=hd' } (view g.fl w) t cs i:=by
 intro t;induction t with
 | unit=>intro os cs x i g H hs _ hx _;exact⟨g.hd,fun _ _=>rfl,hs,hx⟩
 | pair A B _ hB=>
  rintro os cs x i g H hs hn ⟨c1,c2,rfl,h1,h2⟩ hf;have hf':∀ r,HLoc.row r∈au (aZ (.fld n) (id+rid) (tlB os) B x.2 (i+1))→H (.row r)=.bot:=fun r hr=>hf r (by simp only[aZ,fG];exact mem_append_right _ hr);have rest:∀ {g1:Gh} {H1:HLoc→SV} {v:SV},g1.fl=g.fl→g1.own=g.own→Lp H g g1.hd→g1.st=g.st→g1.cv=g.cv→SimG C g1 S H1 a w→(∀ t,H1 (.site n)≠.obj t)→H1=puts H (gJ (.fld n) (id+rid) (pbO os (aH B+1)) (dpO os (aH B+1)) (hdB os) A x.1 i)→(∀ l,l ∉ au (gJ (.fld n) (id+rid) (pbO os (aH B+1)) (dpO os (aH B+1)) (hdB os) A x.1 i)→H1 l=H l)→
    (∀ r,HLoc.row r∈au (aZ (.fld n) (id+rid) (tlB os) B x.2 (i+1))→H1 (.row r)=.bot)→H1 (.fld n i)=v→v≠.bot→(∀ r,H (.row r)≠.bot→H1 (.row r)≠.bot)→SR g1 (view g.fl w) v (mkV A c1)→c1.length=A.size→(∀ c∈c1,oneC c=true)→
    ∃ hd',Lp H g hd'∧SimG C { g with hd:=hd' } S (puts H (aZ (.fld n) (id+rid) os (.pair A B) x i)) a w∧dF (fun j=>puts H (aZ (.fld n) (id+rid) os (.pair A B) x i) (.fld n j)) { g with hd:=hd' } (view g.fl w) (.pair A B) (c1++c2) i:=by
   intro g1 H1 v e1 e2 e3 e4 e5 hs1 hn1 hH1 _ hf1 hv hvne hrow hsr hl ho;obtain⟨hd',k1,k2,k3⟩:=hB (g:=g1) (H:=H1) (os:=tlB os) (x:=x.2) (i:=i+1) hs1 hn1 (by rw[e1,e2];exact h2) hf1;have e6:g1.lv=g.lv:=hs1.lv.trans hs.lv.symm;have eg:({ g1 with hd:=hd' }:Gh) = { g with hd:=hd' }:=by clear hs1 hs k2 k3 hsr h1 h2 hB;cases g;cases g1;simp_all
   have eP:puts H (aZ (.fld n) (id+rid) os (.pair A B) x i)=puts H1 (aZ (.fld n) (id+rid) (tlB os) B x.2 (i+1)):=by rw[hH1,←gX];rfl
   rw[eg] at k2 k3;refine⟨hd',fun r hr=>(k1 r (hrow r hr)).trans (e3 r hr),by rw[eP];exact k2,c1,c2,rfl,hl,ho,?_,?_⟩
   ·have hnot:HLoc.fld n i ∉ au (aZ (.fld n) (id+rid) (tlB os) B x.2 (i+1)):=by
     intro hm;rcases jQ hm with⟨k,hk⟩|⟨k,_,hk⟩
     ·simp at hk;omega
     ·cases hk
    show SR _ _ (puts H (aZ (.fld n) (id+rid) os (.pair A B) x i) (.fld n i)) _;rw[eP,cZ hnot,hv];have hA:GAgree H1 g1 { g with hd:=hd' }:=⟨fun m _=>by rw[e4],fun r hr=>k1 r hr,fun d i _=>by rw[e5],e6.symm⟩
    have hr1:aG H1 v:=by have:=hs1.refF n i;rw[hv] at this;exact this
    exact SR.change hA (IV.le.refl _) hr1 hsr
   ·rw[eP];rw[e1] at k3;exact k3
  have hx1:∀ l,l≠HLoc.fld n i→∀ v,ak H (.fld n i) v l=H l:=fun l h v=>ay _ _ h;cases hb:hdB os with
  | false=>
   rw[hb] at h1;have hC:aJ (view g.fl w) A c1 x.1:=by cases A<;>exact h1
   have hs1:=hs.setFld (n:=n) (i:=i) (v:=.pv A x.1) hn SV.noConfusion trivial;refine rest (g1:=g) (v:=.pv A x.1) rfl rfl (fun _ _=>rfl) rfl rfl hs1 (fun t=>by rw[hx1 _ (by simp)];exact hn t) (by rw[hb];rfl) (fun l hl=> ?_) (fun k hk=>by rw[hx1 _ (by simp)];exact hf' k hk) (aK _ _ _) SV.noConfusion (fun r hr=>by rw[hx1 _ (by simp)];exact hr)
    ⟨c1,hC,rfl⟩ hC.length hC.ones
   rw[hb] at hl;exact hx1 l (fun e=>hl (by simp[gJ,au,e])) _
  | true=>
   rw[hb] at h1;cases A<;>first|exact h1.elim|skip
   case slice e _=>
    obtain⟨v,rfl,hr⟩:=h1;have hbot:H (.row (id+rid+i))=.bot:=hf _ (by simp only[aZ,fG,hb,gJ,cond,au];simp);have hA:GAgree H g { g with hd:=aA g.hd (id+rid+i) v }:=⟨fun _ _=>rfl,fun r' hr'=>bn _ _ fun e=>hr' (e▸hbot),fun _ _ _=>rfl,rfl⟩
    have hg:=hs.grow hA (IV.le.refl _) (fun _ _ _ h=>⟨rfl,h,rfl⟩) (fun _ _ _ h=>⟨rfl,h,rfl⟩) hs.own hs.old hs.ext;have hR:kY g.fl g.own w v (.row (id+rid+i)) (pbO os (aH B+1)) (dpO os (aH B+1)) e x.1:=
     hr.v fun o ho=>by rw[hT _ _ ho,hsh,show id+(rid+i)=id+rid+i from by omega]
    have hrow:=hg.setRowD (r:=id+rid+i) (pb:=pbO os (aH B+1)) (dp:=dpO os (aH B+1)) (e:=e) (l:=x.1) (by show kY g.fl g.own w (aA g.hd (id+rid+i) v (id+rid+i)) _ _ _ _ _;rw[bJ];exact hR);have hs1:=hrow.setFld (n:=n) (i:=i) (v:=.hdr (id+rid+i)) (fun t=>by rw[ay _ _ (by simp)];exact hn t) SV.noConfusion (by simp only[aG];rw[aK];exact oD);have hone:oneC v=true:=hR.one;refine rest (g1:={ g with hd:=aA g.hd (id+rid+i) v }) (v:=.hdr (id+rid+i)) rfl rfl (fun r hr=>hA.hd r hr) rfl rfl hs1 (fun t=> ?_) (by rw[hb];rfl) (fun l hl=> ?_) (fun k hk=> ?_) (aK _ _ _) SV.noConfusion (fun r hr=> ?_) ?_ rfl (by simpa using hone)
    ·rw[ay _ _ (by simp),ay _ _ (by simp)];exact hn t
    ·rw[hb] at hl;simp only[gJ,cond,au,mem_cons,not_mem_nil,or_false,not_or] at hl;rw[ay _ _ hl.2,ay _ _ hl.1]
    ·rw[ay _ _ (by simp),ay _ _ (by
      rcases jQ hk with⟨j,hj⟩|⟨j,_,hj⟩
      ·cases hj
      ·simp only[HLoc.row.injEq] at hj;simp;omega)];exact hf' k hk
    ·rw[ay _ _ (by simp)];exact fF oD hr
    ·show mkV (.slice e) [v]=aA g.hd (id+rid+i) v (id+rid+i);rw[bJ];rfl
   case ptr e _=>
    obtain⟨v,hh,rfl,hph,hr⟩:=h1;have hbot:H (.row (id+rid+i))=.bot:=hf _ (by simp only[aZ,fG,hb,gJ,cond,au];simp);have hA:GAgree H g { g with hd:=aA g.hd (id+rid+i) hh }:=⟨fun _ _=>rfl,fun r' hr'=>bn _ _ fun e=>hr' (e▸hbot),fun _ _ _=>rfl,rfl⟩
    have hg:=hs.grow hA (IV.le.refl _) (fun _ _ _ h=>⟨rfl,h,rfl⟩) (fun _ _ _ h=>⟨rfl,h,rfl⟩) hs.own hs.old hs.ext;have hR:kY g.fl g.own w hh (.row (id+rid+i)) (pbO os (aH B+1)) (dpO os (aH B+1)) e x.1:=
     hr.v fun o ho=>by rw[hT _ _ ho,hsh,show id+(rid+i)=id+rid+i from by omega]
    have hrow:=hg.setRowD (r:=id+rid+i) (pb:=pbO os (aH B+1)) (dp:=dpO os (aH B+1)) (e:=e) (l:=x.1) (by show kY g.fl g.own w (aA g.hd (id+rid+i) hh (id+rid+i)) _ _ _ _ _;rw[bJ];exact hR);have hs1:=hrow.setFld (n:=n) (i:=i) (v:=.own (id+rid+i)) (fun t=>by rw[ay _ _ (by simp)];exact hn t) SV.noConfusion (by simp only[aG];rw[aK];exact oD);have hone:oneC v=true:=by rcases hph with⟨h,_⟩|⟨b,h,_⟩<;>(rw[h];rfl)
    refine rest (g1:={ g with hd:=aA g.hd (id+rid+i) hh }) (v:=.own (id+rid+i)) rfl rfl (fun r hr=>hA.hd r hr) rfl rfl hs1 (fun t=> ?_) (by rw[hb];rfl) (fun l hl=> ?_) (fun k hk=> ?_) (aK _ _ _) SV.noConfusion (fun r hr=> ?_) ?_ rfl (by simpa using hone)
    ·rw[ay _ _ (by simp),ay _ _ (by simp)];exact hn t
    ·rw[hb] at hl;simp only[gJ,cond,au,mem_cons,not_mem_nil,or_false,not_or] at hl;rw[ay _ _ hl.2,ay _ _ hl.1]
    ·rw[ay _ _ (by simp),ay _ _ (by
      rcases jQ hk with⟨j,hj⟩|⟨j,_,hj⟩
      ·cases hj
      ·simp only[HLoc.row.injEq] at hj;simp;omega)];exact hf' k hk
    ·rw[ay _ _ (by simp)];exact fF oD hr
    ·show nI v (aA g.hd (id+rid+i) hh (id+rid+i));rw[bJ];exact hph
 | _=>intro os cs x i g H hs _ hx _;cases os<;>exact hx.elim
structure NewG (H:HLoc→SV) (g g':Gh):Prop where
 fl:g'.fl=g.fl
 own:g'.own=g.own
 ag:GAgree H g g'
theorem NewG.refl (H:HLoc→SV) (g:Gh):NewG H g g:=⟨rfl,rfl,GAgree.refl H g⟩
theorem NewG.trans {H H':HLoc→SV} {g g' g'':Gh} (h:NewG H g g') (h':NewG H' g' g'') (hH:∀ l,H l≠.bot→H' l≠.bot):NewG H g g'':=
 ⟨h'.fl.trans h.fl,h'.own.trans h.own,⟨fun n hn=>(h'.ag.st n (hH _ hn)).trans (h.ag.st n hn),fun r hr=>(h'.ag.hd r (hH _ hr)).trans (h.ag.hd r hr),fun d i hd=>(h'.ag.cv d i (hH _ hd)).trans (h.ag.cv d i hd),h'.ag.lv.trans h.ag.lv⟩⟩
theorem O6 {T:Own→Own→Prop} {sh:Own→Own} (hT:∀ o t,T o t→o=sh t) {id rid d:Nat} (hsh:∀ k,sh (.row k)=.row (id+k)):∀ {t:Ty} {os:List Bool} {cs:List Value} {x:t.den} {i:Nat} {g:Gh} {H:HLoc→SV},SimG C g S H a w→
  jy T g.fl g.own w rid os t cs x i→(∀ l∈au (aZ (.comp d) (id+rid) os t x i),H l=.bot)→
  ∃ g',NewG H g g'∧SimG C g' S (puts H (aZ (.comp d) (id+rid) os t x i)) a w∧fK (g'.cv d) t i=cs∧kz (g'.cv d) t i∧∀ k,k<nf t→puts H (aZ (.comp d) (id+rid) os t x i) (.comp d (i+k))≠.bot:=by
 intro t;induction t with
 | unit=>intro os cs x i g H hs hx _;exact⟨g,NewG.refl _ _,hs,(show cs=[] from hx).symm,trivial,fun k hk=>by simp[nf] at hk⟩
 | pair A B _ hB=>
  rintro os cs x i g H hs ⟨c1,c2,rfl,h1,h2⟩ hf;have rest:∀ {g1:Gh} {H1:HLoc→SV} {v:SV},NewG H g g1→(∀ l,H l≠.bot→H1 l≠.bot)→SimG C g1 S H1 a w→H1=puts H (gJ (.comp d) (id+rid) (pbO os (aH B+1)) (dpO os (aH B+1)) (hdB os) A x.1 i)→H1 (.comp d i)=v→v≠.bot→g1.cv d i=mkV A c1→c1.length=A.size→(∀ c∈c1,oneC c=true)→
    (∀ l,l ∉ au (gJ (.comp d) (id+rid) (pbO os (aH B+1)) (dpO os (aH B+1)) (hdB os) A x.1 i)→H1 l=H l)→
    ∃ g',NewG H g g'∧SimG C g' S (puts H (aZ (.comp d) (id+rid) os (.pair A B) x i)) a w∧fK (g'.cv d) (.pair A B) i=c1++c2∧kz (g'.cv d) (.pair A B) i∧∀ k,k<nf (.pair A B)→puts H (aZ (.comp d) (id+rid) os (.pair A B) x i) (.comp d (i+k))≠.bot:=by
   intro g1 H1 v e1 e2 hs1 hH1 hv hne hcv hl ho hsame;have hm1:∀ l∈au (gJ (.comp d) (id+rid) (pbO os (aH B+1)) (dpO os (aH B+1)) (hdB os) A x.1 i),l=.comp d i∨l=.row (id+rid+i):=by
    intro l hl;unfold gJ at hl;cases hb:hdB os with
    | false=>rw[hb] at hl;simp only[cond,au,mem_singleton] at hl;exact .inl hl
    | true=>
     rw[hb] at hl;simp only[cond] at hl;split at hl
     ·simp only[au,mem_cons,not_mem_nil,or_false] at hl;exact hl.symm
     ·simp only[au,mem_cons,not_mem_nil,or_false] at hl;exact hl.symm
     ·simp only[au,mem_singleton] at hl;exact .inl hl
   have far:∀ l∈au (aZ (.comp d) (id+rid) (tlB os) B x.2 (i+1)),l ∉ au (gJ (.comp d) (id+rid) (pbO os (aH B+1)) (dpO os (aH B+1)) (hdB os) A x.1 i):=fun l hl hm=>by
    rcases hm1 l hm with rfl|rfl
    ·rcases jQ hl with⟨k,hk⟩|⟨k,_,hk⟩
     ·simp at hk;omega
     ·cases hk
    ·rcases jQ hl with⟨k,hk⟩|⟨k,_,hk⟩
     ·cases hk
     ·simp at hk;omega
   obtain⟨g',k1,k2,k3,k4,k5⟩:=hB (g:=g1) (H:=H1) (os:=tlB os) (x:=x.2) (i:=i+1) hs1 (by rw[e1.fl,e1.own];exact h2) (fun l hl=>by rw[hsame l (far l hl)];exact hf l (by simp only[aZ,fG];exact mem_append_right _ hl));have eP:puts H (aZ (.comp d) (id+rid) os (.pair A B) x i)=puts H1 (aZ (.comp d) (id+rid) (tlB os) B x.2 (i+1)):=by rw[hH1,←gX];rfl
   have hcv':g'.cv d i=mkV A c1:=by rw[k1.ag.cv d i (by rw[hv];exact hne),hcv]
   have hcc:(mkV A c1).cells.toList=c1:=by rw[iw hl ho]
   refine⟨g',e1.trans k1 e2,by rw[eP];exact k2,?_,?_,fun k hk=> ?_⟩
   ·simp only[fK];rw[hcv',hcc,k3]
   ·simp only[kz];rw[hcv',hcc];exact⟨rfl,hl,ho,k4⟩
   ·rw[eP];cases k with
    | zero=>
     show puts H1 (aZ (.comp d) (id+rid) (tlB os) B x.2 (i+1)) (.comp d i)≠.bot;rw[cZ (fun hm=>far _ hm (by
      unfold gJ;cases hb:hdB os with
      | false=>simp[cond,au]
      | true=>simp only[cond];split<;>simp[au]))]
     rw[hv];exact hne
    | succ k=>rw[show i+(k+1)=i+1+k from by omega];exact k5 k (by simp[nf] at hk;omega)
  have hci:H (.comp d i)=.bot:=hf _ (by
   simp only[aZ,fG];refine mem_append_left _ ?_;unfold gJ;cases hb:hdB os with
   | false=>simp[cond,au]
   | true=>simp only[cond];split<;>simp[au])
  cases hb:hdB os with
  | false=>
   rw[hb] at h1;have hC:aJ (view g.fl w) A c1 x.1:=by cases A<;>exact h1
   have hs1:=hs.setComp (d:=d) (i:=i) (v:=.pv A x.1) (val:=mkV A c1) hci SV.noConfusion trivial ⟨c1,hC,rfl⟩;refine rest (g1:={ g with cv:=fun d' i'=>if d'=d∧i'=i then mkV A c1 else g.cv d' i' }) (H1:=ak H (.comp d i) (.pv A x.1)) (v:=.pv A x.1) ⟨rfl,rfl,⟨fun _ _=>rfl,fun _ _=>rfl,fun d' i' hne=> ?_,rfl⟩⟩ (fun l hl=>fF SV.noConfusion hl) hs1 (by rw[hb];rfl) (aK _ _ _) SV.noConfusion (by simp) hC.length hC.ones fun l hl=> ?_
   ·by_cases e:d'=d∧i'=i
    ·obtain⟨rfl,rfl⟩:=e;exact absurd hci hne
    ·simp[e]
   ·rw[hb] at hl;exact ay _ _ fun e=>hl (by simp[gJ,au,e])
  | true=>
   rw[hb] at h1;cases A<;>first|exact h1.elim|skip
   case slice e _=>
    obtain⟨v,rfl,hr⟩:=h1;have hbot:H (.row (id+rid+i))=.bot:=hf _ (by simp only[aZ,fG,hb,gJ,cond,au];simp);have hA:GAgree H g { g with hd:=aA g.hd (id+rid+i) v }:=⟨fun _ _=>rfl,fun r' hr'=>bn _ _ fun e=>hr' (e▸hbot),fun _ _ _=>rfl,rfl⟩
    have hg:=hs.grow hA (IV.le.refl _) (fun _ _ _ h=>⟨rfl,h,rfl⟩) (fun _ _ _ h=>⟨rfl,h,rfl⟩) hs.own hs.old hs.ext;have hR:kY g.fl g.own w v (.row (id+rid+i)) (pbO os (aH B+1)) (dpO os (aH B+1)) e x.1:=
     hr.v fun o ho=>by rw[hT _ _ ho,hsh,show id+(rid+i)=id+rid+i from by omega]
    have hone:oneC v=true:=hR.one;have hrow:=hg.setRowD (r:=id+rid+i) (pb:=pbO os (aH B+1)) (dp:=dpO os (aH B+1)) (e:=e) (l:=x.1) (by show kY g.fl g.own w (aA g.hd (id+rid+i) v (id+rid+i)) _ _ _ _ _;rw[bJ];exact hR);have hcr:ak H (.row (id+rid+i)) (oP (dpO os (aH B+1)) (pbO os (aH B+1)) e x.1) (.comp d i)=.bot:=by rw[ay _ _ (by simp)];exact hci
    have hs1:=hrow.setComp (d:=d) (i:=i) (v:=.hdr (id+rid+i)) (val:=v) hcr SV.noConfusion (by simp only[aG];rw[aK];exact oD) (by simp[SR]);refine rest (g1:={ g with hd:=aA g.hd (id+rid+i) v,cv:=fun d' i'=>if d'=d∧i'=i then v else g.cv d' i' }) (H1:=ak (ak H (.row (id+rid+i)) (oP (dpO os (aH B+1)) (pbO os (aH B+1)) e x.1)) (.comp d i) (.hdr (id+rid+i))) (v:=.hdr (id+rid+i)) ⟨rfl,rfl,⟨fun _ _=>rfl,fun r hr=>hA.hd r hr,fun d' i' hne=> ?_,rfl⟩⟩ (fun l hl=>fF SV.noConfusion (fF oD hl)) hs1 (by rw[hb];rfl) (aK _ _ _) SV.noConfusion (by simp[mkV,Ty.agg]) rfl (by simpa using hone) fun l hl=> ?_
    ·by_cases e':d'=d∧i'=i
     ·obtain⟨rfl,rfl⟩:=e';exact absurd hci hne
     ·simp[e']
    ·rw[hb] at hl;simp only[gJ,cond,au,mem_cons,not_mem_nil,or_false,not_or] at hl;rw[ay _ _ hl.2,ay _ _ hl.1]
   case ptr e _=>
    obtain⟨v,hh,rfl,hph,hr⟩:=h1;have hbot:H (.row (id+rid+i))=.bot:=hf _ (by simp only[aZ,fG,hb,gJ,cond,au];simp);have hA:GAgree H g { g with hd:=aA g.hd (id+rid+i) hh }:=⟨fun _ _=>rfl,fun r' hr'=>bn _ _ fun e=>hr' (e▸hbot),fun _ _ _=>rfl,rfl⟩
    have hg:=hs.grow hA (IV.le.refl _) (fun _ _ _ h=>⟨rfl,h,rfl⟩) (fun _ _ _ h=>⟨rfl,h,rfl⟩) hs.own hs.old hs.ext;have hR:kY g.fl g.own w hh (.row (id+rid+i)) (pbO os (aH B+1)) (dpO os (aH B+1)) e x.1:=
     hr.v fun o ho=>by rw[hT _ _ ho,hsh,show id+(rid+i)=id+rid+i from by omega]
    have hone:oneC v=true:=by rcases hph with⟨h,_⟩|⟨b,h,_⟩<;>(rw[h];rfl)
    have hrow:=hg.setRowD (r:=id+rid+i) (pb:=pbO os (aH B+1)) (dp:=dpO os (aH B+1)) (e:=e) (l:=x.1) (by show kY g.fl g.own w (aA g.hd (id+rid+i) hh (id+rid+i)) _ _ _ _ _;rw[bJ];exact hR);have hcr:ak H (.row (id+rid+i)) (oP (dpO os (aH B+1)) (pbO os (aH B+1)) e x.1) (.comp d i)=.bot:=by rw[ay _ _ (by simp)];exact hci
    have hs1:=hrow.setComp (d:=d) (i:=i) (v:=.own (id+rid+i)) (val:=v) hcr SV.noConfusion (by simp only[aG];rw[aK];exact oD) (by show nI v (aA g.hd (id+rid+i) hh (id+rid+i));rw[bJ];exact hph);refine rest (g1:={ g with hd:=aA g.hd (id+rid+i) hh,cv:=fun d' i'=>if d'=d∧i'=i then v else g.cv d' i' }) (H1:=ak (ak H (.row (id+rid+i)) (oP (dpO os (aH B+1)) (pbO os (aH B+1)) e x.1)) (.comp d i) (.own (id+rid+i))) (v:=.own (id+rid+i)) ⟨rfl,rfl,⟨fun _ _=>rfl,fun r hr=>hA.hd r hr,fun d' i' hne=> ?_,rfl⟩⟩ (fun l hl=>fF SV.noConfusion (fF oD hl)) hs1 (by rw[hb];rfl) (aK _ _ _) SV.noConfusion (by simp[mkV,Ty.agg]) rfl (by simpa using hone) fun l hl=> ?_
    ·by_cases e':d'=d∧i'=i
     ·obtain⟨rfl,rfl⟩:=e';exact absurd hci hne
     ·simp[e']
    ·rw[hb] at hl;simp only[gJ,cond,au,mem_cons,not_mem_nil,or_false,not_or] at hl;rw[ay _ _ hl.2,ay _ _ hl.1]
 | _=>intro os cs x i g H _ h;cases os<;>exact h.elim
end
section
variable {C:Ctx} {S:Nat→SV} {a:Act} {w:World}
def kV (H:HLoc→SV) (ws:HW):Prop:=∀ l∈au ws,(∀ n i,l≠.fld n i)→H l=.bot
def rW (ws:HW):Prop:=∀ p∈ws,p.2≠.bot
theorem vH:∀ {ws:HW} {H:HLoc→SV} {l:HLoc},rW ws→H l≠.bot→puts H ws l≠.bot
 | [],_,_,_,h=>h
 | (m,v)::r,H,l,hn,h=>vH (ws:=r) (fun p hp=>hn p (by simp[hp])) (fF (hn (m,v) (by simp)) h)
theorem BJ {mk:Nat→HLoc} {rid:Nat}:∀ {t:Ty} {os:List Bool} {x:t.den} {i:Nat},rW (aZ mk rid os t x i):=by
 intro t;induction t with
 | pair A B _ hB=>
  intro os x i p hp;simp only[aZ,mem_append] at hp;rcases hp with hp|hp
  ·unfold gJ at hp;cases hb:hdB os with
   | false=>rw[hb] at hp;simp only[cond,mem_singleton] at hp;subst hp;exact SV.noConfusion
   | true=>
    rw[hb] at hp;simp only[cond] at hp;split at hp
    ·simp only[mem_cons,not_mem_nil,or_false] at hp;rcases hp with rfl|rfl
     ·exact oD
     ·exact SV.noConfusion
    ·simp only[mem_cons,not_mem_nil,or_false] at hp;rcases hp with rfl|rfl
     ·exact oD
     ·exact SV.noConfusion
    ·simp only[mem_singleton] at hp;subst hp;exact SV.noConfusion
  ·exact hB p hp
 | _=>intro os x i p hp;simp[aZ] at hp
theorem Qd {T:Own→Own→Prop} {sh:Own→Own} (hT:∀ o t,T o t→o=sh t) {id base:Nat} (hsh:∀ k,sh (.row k)=.row (id+k)) (hsb:sh (.site base)=.site (id+base)) {t:Ty} {os:List Bool} {x:(lay t).den} {v:SV} {ws:HW} {H0:HLoc→SV} {fp fp':List HLoc}
  (h:(resV (id+base) (.newobj t os) x).run H0 fp=some ((v,ws),fp')) {g:Gh} {H:HLoc→SV} (hs:SimG C g S H a w) {val:Value} (hr:pz T g.fl g.own w base (.newobj t os) val x) (hf:kV H ws) :
  ∃ g',NewG H g g'∧SimG C g' S (puts H ws) a w∧SR g' (view g'.fl w) v val∧aG (puts H ws) v∧rW ws∧v≠.bot:=by
 obtain⟨_,h⟩:=fH h;obtain⟨_,fp1,k1,h⟩:=ah h;obtain⟨e1,_⟩:=af h;cases e1;obtain⟨b,cs,o,ho,hval,hblk,hob,hfl,hF⟩:=hr;have hbot:H (.site (id+base))=.bot:=hf _ (by rw[fG];simp[au]) (fun _ _=>by simp);have hA:GAgree H g { g with st:=aA g.st (id+base) b }:=⟨fun n hn=>bn _ _ fun e=>hn (e▸hbot),fun _ _=>rfl,fun _ _ _=>rfl,rfl⟩
 have hg:=hs.grow hA (IV.le.refl _) (fun n t hn h=>by
   have:n≠id+base:=fun e=>by rw[e,hbot] at hn;cases hn
   exact⟨rfl,h,rfl⟩) (fun _ _ _ h=>⟨rfl,h,rfl⟩) hs.own hs.old hs.ext
 obtain⟨hd',k2,k3,k4⟩:=Iu (n:=id+base) hT hsh hg (fun t'=>by rw[hbot];exact SV.noConfusion) hF fun r hr=>hf _ (by rw[fG];exact mem_append_left _ hr) (fun _ _=>by simp);have hsite:puts H (aZ (.fld (id+base)) (id+(base+1)) os (lay t) x 0) (.site (id+base))=.bot:=by rw[cZ,hbot];intro hm;rcases jQ hm with⟨k,hk⟩|⟨k,_,hk⟩<;>cases hk
 have hfin:=k3.setSite (n:=id+base) (t:=t) ⟨cs,by
   show Blk w (aA g.st (id+base) b (id+base)) cs;rw[bJ];exact hblk,by
   show g.own (aA g.st (id+base) b (id+base))=_;rw[bJ,hob,hT _ _ ho,hsb],by
   show g.fl (aA g.st (id+base) b (id+base))=0;rw[bJ];exact hfl,by
   exact BM.2 k4⟩
 refine⟨{ g with st:=aA g.st (id+base) b,hd:=hd' },⟨rfl,rfl,⟨hA.st,fun r hr=>k2 r hr,fun _ _ _=>rfl,rfl⟩⟩,by rw[gX];exact hfin,?_,?_,?_,SV.noConfusion⟩
 ·show val=.pointer (some ⟨aA g.st (id+base) b (id+base),0,none⟩);rw[bJ];exact hval
 ·show puts H _ _≠_;rw[gX];simp only[puts];rw[aK];exact SV.noConfusion
 ·intro p hp;rcases mem_append.1 hp with hp|hp
  ·exact BJ p hp
  ·simp at hp;subst hp;exact SV.noConfusion
theorem SE {T:Own→Own→Prop} {sh:Own→Own} (hT:∀ o t,T o t→o=sh t) {id base:Nat} (hsh:∀ k,sh (.row k)=.row (id+k)) (hsb:sh (.site base)=.site (id+base)) {r:RS} {x:r.ty.den} {v:SV} {ws:HW} {H0:HLoc→SV} {fp fp':List HLoc}
  (h:(resV (id+base) r x).run H0 fp=some ((v,ws),fp')) {g:Gh} {H:HLoc→SV} (hs:SimG C g S H a w) {val:Value} (hr:pz T g.fl g.own w base r val x) (hf:kV H ws) :
  ∃ g',NewG H g g'∧SimG C g' S (puts H ws) a w∧SR g' (view g'.fl w) v val∧aG (puts H ws) v∧rW ws∧v≠.bot:=by
 cases r with
 | pure t=>obtain⟨e,_⟩:=af h;cases e;exact⟨g,NewG.refl H g,hs,hr,trivial,fun p hp=>by simp at hp,SV.noConfusion⟩
 | own pub e=>
  obtain⟨_,h⟩:=fH h;obtain⟨e1,_⟩:=af h;cases e1;have hbot:H (.row (id+base))=.bot:=hf _ (by simp[au]) (fun _ _=>by simp);have hA:GAgree H g { g with hd:=aA g.hd (id+base) val }:=⟨fun _ _=>rfl,fun r' hr'=>bn _ _ fun e=>hr' (e▸hbot),fun _ _ _=>rfl,rfl⟩
  have hg:=hs.grow hA (IV.le.refl _) (fun _ _ _ h=>⟨rfl,h,rfl⟩) (fun _ _ _ h=>⟨rfl,h,rfl⟩) hs.own hs.old hs.ext;have hR:iq g.fl g.own w val (.row (id+base)) pub e x:=by
   rcases hr with hr|⟨o,ho,hr⟩
   ·exact .inl hr
   ·rw[hT _ _ ho,hsh] at hr;exact hr
  have hrow:=hg.setRow (r:=id+base) (pub:=pub) (e:=e) (l:=x) (zdf.2 (by show iq g.fl g.own w (aA g.hd (id+base) val (id+base)) _ _ _ _;rw[bJ];exact hR));refine⟨{ g with hd:=aA g.hd (id+base) val },⟨rfl,rfl,hA⟩,hrow,?_,?_,?_,SV.noConfusion⟩
  ·show val=aA g.hd (id+base) val (id+base);rw[bJ]
  ·show puts H _ _≠_;simp only[puts];rw[aK];exact SV.noConfusion
  ·intro p hp;simp at hp;subst hp;exact SV.noConfusion
 | newobj t os=>exact Qd hT hsh hsb h hs hr hf
 | maybe t os=>
  obtain⟨b,y⟩:=x;rcases hr with⟨rfl,hv⟩|⟨rfl,hr⟩
  ·obtain⟨e,_⟩:=af (show(Rd.ret (SV.nilp,([]:HW))).run H0 fp=_ from h);cases e;exact⟨g,NewG.refl H g,hs,hv,trivial,fun p hp=>by simp at hp,SV.noConfusion⟩
  ·exact Qd hT hsh hsb (show(resV (id+base) (.newobj t os) y).run H0 fp=_ from h) hs hr hf
 | deep e=>
  obtain⟨_,h⟩:=fH h;obtain⟨e1,_⟩:=af h;cases e1;have hbot:H (.row (id+base))=.bot:=hf _ (by simp[au]) (fun _ _=>by simp);have hA:GAgree H g { g with hd:=aA g.hd (id+base) val }:=⟨fun _ _=>rfl,fun r' hr'=>bn _ _ fun e=>hr' (e▸hbot),fun _ _ _=>rfl,rfl⟩
  have hg:=hs.grow hA (IV.le.refl _) (fun _ _ _ h=>⟨rfl,h,rfl⟩) (fun _ _ _ h=>⟨rfl,h,rfl⟩) hs.own hs.old hs.ext;have hR:fO g.fl g.own w val (.row (id+base)) e x (length x) none:=by
   rcases hr with⟨h1,h2⟩|⟨o,ho,hr⟩
   ·subst h2;exact⟨le_refl _,fun k x h=>(by cases h),.inl ⟨h1,rfl⟩⟩
   ·rw[hT _ _ ho,hsh] at hr;exact hr
  have hrow:=hg.setDeep (r:=id+base) (e:=e) (l:=x) (n:=length x) (h:=none) (by show fO g.fl g.own w (aA g.hd (id+base) val (id+base)) _ _ _ _ _;rw[bJ];exact hR) fun _ _ h=>by cases h
  refine⟨{ g with hd:=aA g.hd (id+base) val },⟨rfl,rfl,hA⟩,hrow,?_,?_,?_,SV.noConfusion⟩
  ·show val=aA g.hd (id+base) val (id+base);rw[bJ]
  ·show puts H _ _≠_;simp only[puts];rw[aK];exact SV.noConfusion
  ·intro p hp;simp at hp;subst hp;exact SV.noConfusion
 | agg t os=>
  obtain⟨_,fp1,k1,h⟩:=ah h;obtain⟨_,fp2,k2,h⟩:=ah h;obtain⟨e1,_⟩:=af h;cases e1;obtain⟨cs,rfl,hF⟩:=hr;have hagg:t.agg=true:=by cases t<;>first|rfl|(cases os<;>exact hF.elim)
  obtain⟨g',n1,n2,n3,n4,n5⟩:=O6 (d:=id+base) hT hsh hs hF (fun l hl=>hf l hl fun n i e=>by subst e;rcases jQ hl with⟨k,hk⟩|⟨k,_,hk⟩<;>cases hk);refine⟨g',n1,n2,⟨hagg,by rw[n3],n4⟩,fun i hi=> ?_,BJ,SV.noConfusion⟩;have:=n5 i hi;rwa[zero_add] at this
theorem zbb {T:Own→Own→Prop} {sh:Own→Own} (hT:∀ o t,T o t→o=sh t) {id:Nat} (hsh:∀ k,sh (.row k)=.row (id+k)) (hsb:∀ k,k<81→sh (.site k)=.site (id+k)) {ps:List PS} {P:(dX ps).den→Prop} {H0:HLoc→SV} :
  ∀ {rs:List RS} {i:Nat} {x:(iD rs ps).den} {q:HW×(dX ps).den} {fp fp':List HLoc} {g:Gh} {H:HLoc→SV} {vals:List Value},(wL id ps rs x i).run H0 fp=some (q,fp')→SimG C g S H a w→nH T g.fl g.own w i rs ps vals x P→kV H q.1→(au q.1).Nodup→i+rs.length≤4→
   ∃ g',NewG H g g'∧SimG C g' S (puts H q.1) a w∧rW q.1∧(∀ j v,vals[j]? = some v→g'.cv id (i+j)=v)∧vals.length=rs.length∧(∀ j,j<rs.length→puts H q.1 (.comp id (i+j))≠.bot)∧P q.2:=by
 intro rs;induction rs with
 | nil=>intro i x q fp fp' g H vals h hs hr _ _ _;obtain⟨e,_⟩:=af h;subst e;obtain⟨rfl,hP⟩:=hr;exact⟨g,NewG.refl H g,hs,fun p hp=>by simp at hp,fun j v hj=>by simp at hj,rfl,fun j hj=>by simp at hj,hP⟩
 | cons r rs ih=>
  intro i x q fp fp' g H vals h hs hr hf hnd hle;obtain⟨_,h⟩:=fH h;obtain⟨⟨v,ws⟩,fp1,k1,h⟩:=ah h;obtain⟨⟨ws2,z⟩,fp2,k2,h⟩:=ah h;obtain⟨e,_⟩:=af h;subst e;cases vals with
  | nil=>exact hr.elim
  | cons val vals=>
   obtain⟨hr1,hr2⟩:=hr;rw[show id+1+20*i=id+(1+20*i) from by omega] at k1;simp only[fG,au] at hnd hf;obtain⟨n1,n2,n3⟩:=List.nodup_append.1 hnd;obtain⟨n4,n5⟩:=nodup_cons.1 n2;obtain⟨g1,a1,a2,a3,a4,a5,a6⟩:=SE hT hsh (hsb _ (by simp at hle;omega)) k1 hs hr1 fun l hl hn=>hf l (by simp[fG,au,hl]) hn;have hcomp:puts H ws (.comp id i)=.bot:=by rw[cZ (fun hm=>n3 _ hm _ (by simp) rfl)];exact hf _ (by simp[fG,au]) (fun _ _=>by simp)
   have hs2:=a2.setComp (d:=id) (i:=i) hcomp a6 a4 a3;have e2:puts H (ws++(HLoc.comp id i,v)::ws2)=puts (ak (puts H ws) (.comp id i) v) ws2:=by rw[gX];rfl
   have hA2:NewG (puts H ws) g1 { g1 with cv:=fun d' i'=>if d'=id∧i'=i then val else g1.cv d' i' }:=
    ⟨rfl,rfl,⟨fun _ _=>rfl,fun _ _=>rfl,fun d' i' hne=>by
     by_cases e:d'=id∧i'=i
     ·obtain⟨rfl,rfl⟩:=e;exact absurd hcomp hne
     ·simp[e],rfl⟩⟩
   obtain⟨g',b1,b2,b3,b4,b5,b6,b7⟩:=ih (vals:=vals) k2 hs2 (by rw[show({ g1 with cv:=fun d' i'=>if d'=id∧i'=i then val else g1.cv d' i' }:Gh).fl=g.fl from a1.fl,show({ g1 with cv:=fun d' i'=>if d'=id∧i'=i then val else g1.cv d' i' }:Gh).own=g.own from a1.own];exact hr2)
    (fun l hl hn=>by
     have hlc:l≠HLoc.comp id i:=fun e=>by subst e;exact n4 hl
     rw[ay _ _ hlc,cZ (fun hm=>n3 l hm l (by simp[hl]) rfl)];exact hf l (by simp[fG,au,hl]) hn) n5 (by simp at hle;omega)
   have hcv:g'.cv id i=val:=by rw[b1.ag.cv id i (by rw[aK];exact a6)];simp
   have live1:∀ l,H l≠.bot→ak (puts H ws) (.comp id i) v l≠.bot:=fun l hl=>fF a6 (vH a5 hl);refine⟨g',(a1.trans hA2 fun l hl=>vH a5 hl).trans b1 live1,by rw[e2];exact b2,?_,?_,by simp[b5],?_,b7⟩
   ·intro p hp;rcases mem_append.1 hp with hp|hp
    ·exact a5 p hp
    ·rcases mem_cons.1 hp with rfl|hp
     ·exact a6
     ·exact b3 p hp
   ·intro j u hj;cases j with
    | zero=>simp at hj;subst hj;exact hcv
    | succ j=>rw[show i+(j+1)=i+1+j from by omega];exact b4 j u (by simpa using hj)
   ·intro j hj;rw[e2];cases j with
    | zero=>exact vH b3 (by rw[add_zero,aK];exact a6)
    | succ j=>rw[show i+(j+1)=i+1+j from by omega];exact b6 j (by simpa using hj)
theorem Zb {T:Own→Own→Prop} {sh:Own→Own} (hT:∀ o t,T o t→o=sh t) {id:Nat} (hsh:∀ k,sh (.row k)=.row (id+k)) (hsb:∀ k,k<81→sh (.site k)=.site (id+k)) {ps:List PS} {P:(dX ps).den→Prop} {H0:HLoc→SV}
  {rs:List RS} {x:(iD rs ps).den} {v:SV} {ws:HW} {z:(dX ps).den} {fp fp':List HLoc} {g:Gh} {H:HLoc→SV} {vals:List Value} (h:(results id ps rs x).run H0 fp=some ((v,ws,z),fp')) (hs:SimG C g S H a w) (hr:nH T g.fl g.own w 0 rs ps vals x P)
  (hf:kV H ws) (hnd:(au ws).Nodup) (hle:rs.length≤4) :
  ∃ g',NewG H g g'∧SimG C g' S (puts H ws) a w∧rW ws∧SR g' (view g'.fl w) v (oQ vals)∧aG (puts H ws) v∧P z:=by
 have many:rs.length≠1→((wL id ps rs x 0).bind fun q=>Rd.ret (SV.tup id rs.length,q.1,q.2)).run H0 fp=some ((v,ws,z),fp')→
   ∃ g',NewG H g g'∧SimG C g' S (puts H ws) a w∧rW ws∧SR g' (view g'.fl w) v (oQ vals)∧aG (puts H ws) v∧P z:=by
  intro h1 h;obtain⟨⟨ws',z'⟩,fp1,k1,h⟩:=ah h;obtain⟨e,_⟩:=af h;cases e;obtain⟨g',b1,b2,b3,b4,b5,b6,b7⟩:=zbb hT hsh hsb k1 hs hr hf hnd (by omega);refine⟨g',b1,b2,b3,?_,fun i hi=>by have:=b6 i hi;rwa[zero_add] at this,b7⟩;have hret:oQ vals=.tuple vals.toArray:=by
   match vals,b5 with
   | [],_=>rfl
   | [v],e=>exact absurd e.symm h1
   | _::_::_,_=>rfl
  show oQ vals=_;rw[hret];congr 2;apply List.ext_getElem?;intro j;rw[getElem?_map];by_cases hj:j<rs.length
  ·have hj':j<vals.length:=by omega
   rw[List.getElem?_range hj,List.getElem?_eq_getElem hj'];have:=b4 j _ (List.getElem?_eq_getElem hj');rw[zero_add] at this;simp[this]
  ·rw[List.getElem?_eq_none (by omega),List.getElem?_eq_none (by simp;omega)];rfl
 match rs,x,h,hr,many with
 | [],x,h,hr,many=>exact many (by simp) h
 | [r],x,h,hr,many=>
  obtain⟨⟨v1,ws1⟩,fp1,k1,h⟩:=ah h;obtain⟨e,_⟩:=af h;cases e
  match vals,hr with
  | [],hr=>exact hr.elim
  | [val],⟨hr1,_,hP⟩=>obtain⟨g',a1,a2,a3,a4,a5,a6⟩:=SE (base:=1+20*0) hT hsh (hsb _ (by omega)) k1 hs hr1 hf;exact⟨g',a1,a2,a5,a3,a4,hP⟩
  | _::_::_,⟨_,h2,_⟩=>simp at h2
 | r1::r2::rs,x,h,hr,many=>exact many (by simp) h
end
section
variable {C:Ctx} {S:Nat→SV} {a:Act} {w:World}
def aV:List PS→List SV→List Own
 | .obj _ _::r,.adr s _::vs=>.site s::aV r vs
 | .obj _ _::r,.own q::vs=>.row q::aV r vs
 | .agg _ _::r,_::vs=>aV r vs
 | .pure _::r,_::vs=>aV r vs
 | .lent _::r,_::vs=>aV r vs
 | .rptr _::r,_::vs=>aV r vs
 | .nilp::r,_::vs=>aV r vs
 | .fnc _ _::r,_::vs=>aV r vs
 | .box::r,.adr s _::vs=>.site s::aV r vs
 | .row _::r,.hdr q::vs=>.row q::aV r vs
 | _,_=>[]
theorem GV {H:HLoc→SV} {r:List PS} {rid:Nat} {s:SV} {svs:List SV} {x:(dX r).den} {ws:HW} {fp fp':List HLoc} (h:(eX rid (.box::r) (s::svs) x).run H fp=some (ws,fp')) :
  ∃ st off b2 o2 svs' ws2 fp1 fp2,s=.adr st off∧svs=.adr b2 o2::svs'∧(eX (rid+20) r (.adr b2 o2::svs') x).run H fp1=some (ws2,fp2)∧ws=(HLoc.fld st 0,SV.adr b2 o2)::(HLoc.site st,SV.obj bU)::ws2∧Own.site b2∈aV r (.adr b2 o2::svs')∧HLoc.site b2∈au ws2:=by
 cases s with
 | adr st off=>
  cases svs with
  | nil=>exact(ae (show(Rd.fail:Rd HW).run H fp=_ from h)).elim
  | cons s2 svs'=>
   cases s2 with
   | adr b2 o2=>
    have h:(cond (Dy r) ((eX (rid+20) r (.adr b2 o2::svs') x).bind fun ws=>Rd.ret ((HLoc.fld st 0,SV.adr b2 o2)::(HLoc.site st,SV.obj bU)::ws)) .fail).run H fp=some (ws,fp'):=h;cases r with
    | nil=>exact(ae (show(Rd.fail:Rd HW).run H fp=_ from h)).elim
    | cons q r=>
     cases q with
     | obj t os=>obtain⟨ws2,fp1,k1,h⟩:=ah (show((eX (rid+20) (.obj t os::r) (.adr b2 o2::svs') x).bind _).run H fp=some (ws,fp') from h);obtain⟨e,_⟩:=af h;refine⟨st,off,b2,o2,svs',ws2,_,_,rfl,rfl,k1,e.symm▸rfl,by simp[aV],?_⟩;obtain⟨_,fp3,_,h⟩:=ah (show((jW (rid+20) os 0).bind fun _=>(eX (rid+20+20) r svs' x.2).bind fun ws=>Rd.ret (aZ (.fld b2) (rid+20) os (lay t) x.1 0++(HLoc.site b2,SV.obj t)::ws)).run H fp=some (ws2,fp1) from k1);obtain⟨ws3,fp4,_,h⟩:=ah h;obtain⟨e,_⟩:=af h;subst e;simp[fG,au]
     | _=>exact(ae (show(Rd.fail:Rd HW).run H fp=_ from h)).elim
   | _=>exact(ae (show(Rd.fail:Rd HW).run H fp=_ from h)).elim
 | _=>exact(ae (show(Rd.fail:Rd HW).run H fp=_ from h)).elim
theorem GR {H:HLoc→SV} {e:Ty} {r:List PS} {rid:Nat} {s:SV} {svs:List SV} {x:(dX (.row e::r)).den} {ws:HW} {fp fp':List HLoc} (h:(eX rid (.row e::r) (s::svs) x).run H fp=some (ws,fp')) :
  ∃ q ws2 fp1 fp2,s=.hdr q∧(eX (rid+20) r svs x.2).run H fp1=some (ws2,fp2)∧ws=(HLoc.row q,SV.row false e x.1)::ws2:=by
 cases s with
 | hdr q=>obtain⟨ws2,fp1,k1,h⟩:=ah (show((eX (rid+20) r svs x.2).bind _).run H fp=some (ws,fp') from h);obtain⟨e,_⟩:=af h;exact⟨q,ws2,_,_,rfl,k1,e⟩
 | _=>exact(ae (show(Rd.fail:Rd HW).run H fp=_ from h)).elim
theorem GU {H:HLoc→SV} {t:Ty} {os:List Bool} {r:List PS} {rid q:Nat} {svs:List SV} {x:(dX (.obj t os::r)).den} {ws:HW} {fp fp':List HLoc} (h:(eX rid (.obj t os::r) (.own q::svs) x).run H fp=some (ws,fp')) :
  ∃ ws2 fp1 fp2,os=[]∧(eX (rid+20) r svs x.2).run H fp1=some (ws2,fp2)∧ws=(HLoc.row q,SV.row false (lay t) [x.1])::ws2:=by
 have h:(cond (isEmpty os) ((eX (rid+20) r svs x.2).bind fun ws=>Rd.ret ((HLoc.row q,SV.row false (lay t) [x.1])::ws)) .fail).run H fp=some (ws,fp'):=h;cases ho:isEmpty os with
 | false=>rw[ho] at h;exact(ae h).elim
 | true=>rw[ho] at h;obtain⟨ws2,fp1,k1,h⟩:=ah (show((eX (rid+20) r svs x.2).bind _).run H fp=some (ws,fp') from h);obtain⟨e,_⟩:=af h;exact⟨ws2,_,_,List.isEmpty_iff.1 ho,k1,e⟩
theorem jy.crep {T:Own→Own→Prop} {fl:Nat→Nat} {own:Nat→Option Own} {w:World} {rid:Nat}:∀ {t:Ty} {cs:List Value} {x:t.den} {i:Nat},jy T fl own w rid [] t cs x i→aJ (view fl w) t cs x:=by
 intro t;induction t with
 | pair A B _ hB=>rintro cs x i ⟨c1,c2,h1,h2,h3⟩;exact⟨c1,c2,h1,by cases A<;>exact h2,hB h3⟩
 | unit=>intro cs x i h;exact h
 | _=>intro cs x i h;exact h.elim
theorem Il {H:HLoc→SV}:∀ {ps:List PS} {rid:Nat} {svs:List SV} {x:(dX ps).den} {ws:HW} {fp fp':List HLoc},(eX rid ps svs x).run H fp=some (ws,fp')→∀ q,Own.row q∈aV ps svs→HLoc.row q∈au ws:=by
 intro ps;induction ps with
 | nil=>intro rid svs x ws fp fp' h q hq;simp[aV] at hq
 | cons p ps ih=>
  intro rid svs x ws fp fp' h q hq;cases svs with
  | nil=>cases p<;>simp[aV] at hq
  | cons s svs=>
   cases p with
   | pure t=>exact ih (svs:=svs) (x:=x) h q (by simpa[aV] using hq)
   | lent t=>exact ih (svs:=svs) (x:=x) h q (by simpa[aV] using hq)
   | rptr t=>exact ih (svs:=svs) (x:=x) h q (by simpa[aV] using hq)
   | nilp=>exact ih (svs:=svs) (x:=x) h q (by simpa[aV] using hq)
   | agg t os=>exact ih (svs:=svs) (x:=x) h q (by simpa[aV] using hq)
   | fnc f n=>exact ih (svs:=svs) (x:=x) h q (by simpa[aV] using hq)
   | box=>obtain⟨st,off,b2,o2,svs',ws2,fp1,fp2,rfl,rfl,k2,rfl,hmem,hin⟩:=GV h;have:=ih k2 q (by simpa[aV] using hq);simp[au,this]
   | row e=>
    obtain⟨q',ws2,fp1,fp2,rfl,k2,rfl⟩:=GR h;simp only[aV,mem_cons,Own.row.injEq] at hq;rcases hq with rfl|hq
    ·simp[au]
    ·have:=ih k2 q hq;simp[au,this]
   | obj t os=>
    cases s with
    | adr st off=>have h:((jW rid os 0).bind fun _=>(eX (rid+20) ps svs x.2).bind fun ws=>Rd.ret (aZ (.fld st) rid os (lay t) x.1 0++(HLoc.site st,SV.obj t)::ws)).run H fp=some (ws,fp'):=h;obtain⟨_,fp1,k1,h⟩:=ah h;obtain⟨ws2,fp2,k2,h⟩:=ah h;obtain⟨e,_⟩:=af h;subst e;have:=ih k2 q (by simpa[aV] using hq);simp[fG,au,this]
    | own q'=>
     obtain⟨ws2,fp1,fp2,_,k2,rfl⟩:=GU h;simp only[aV,mem_cons,Own.row.injEq] at hq;rcases hq with rfl|hq
     ·simp[au]
     ·have:=ih k2 q hq;simp[au,this]
    | _=>exact(ae (show(Rd.fail:Rd HW).run H fp=_ from h)).elim
theorem zb3 {T:Own→Own→Prop} {sh:Own→Own} (hT:∀ o t,T o t→o=sh t) {id:Nat} (hsh:∀ k,sh (.row k)=.row (id+k)) {H0:HLoc→SV} {g0:Gh} {iv0:IV} :
  ∀ {ps:List PS} {svs:List SV} {vs:List Value} {j:Nat} {x:(dX ps).den} {ws:HW} {fp fp':List HLoc} {g:Gh} {H:HLoc→SV},(eX (id+80+20*j) ps svs x).run H0 fp=some (ws,fp')→SimG C g S H a w→iK T g.fl g.own w j ps vs x→
   (∀ k s,(aV ps svs)[k]? = some s→sh (.site (81+20*(j+k)))=s)→svs.length=vs.length→(∀ (k:Nat) (s:SV) (v:Value),svs[k]? = some s→vs[k]? = some v→SR g0 iv0 s v)→(∀ s,Own.site s∈aV ps svs→g.st s=g0.st s)→(∀ q,Own.row q∈aV ps svs→H0 (.row q)≠.bot∧H (.row q)=.und∧g.hd q=g0.hd q)→
   (∀ l∈au ws,(∀ r,l=.row r→H0 l=.bot→H l=.bot)∧(∀ n,l=.site n→H l=.und))→(au ws).Nodup→
   ∃ g',NewG H g g'∧SimG C g' S (puts H ws) a w∧rW ws:=by
 intro ps;induction ps with
 | nil=>intro svs vs j x ws fp fp' g H h hs _ _ _ _ _ _ _ _;obtain⟨e,_⟩:=af (show(Rd.ret ([]:HW)).run H0 fp=_ from h);subst e;exact⟨g,NewG.refl H g,hs,fun p hp=>by simp at hp⟩
 | cons p ps ih=>
  intro svs vs j x ws fp fp' g H h hs hx hss hl hv hst hrt hf hnd;cases svs with
  | nil=>cases p<;>exact(ae (show(Rd.fail:Rd HW).run H0 fp=_ from h)).elim
  | cons s svs=>
   cases vs with
   | nil=>simp at hl
   | cons v vs=>
    cases p with
    | pure t=>exact ih (svs:=svs) (vs:=vs) (j:=j) (x:=x) h hs hx hss (by simpa using hl) (fun k s' v' h1 h2=>hv (k+1) s' v' (by simpa using h1) (by simpa using h2)) hst hrt hf hnd
    | lent t=>exact ih (svs:=svs) (vs:=vs) (j:=j) (x:=x) h hs hx hss (by simpa using hl) (fun k s' v' h1 h2=>hv (k+1) s' v' (by simpa using h1) (by simpa using h2)) hst hrt hf hnd
    | rptr t=>exact ih (svs:=svs) (vs:=vs) (j:=j) (x:=x) h hs hx hss (by simpa using hl) (fun k s' v' h1 h2=>hv (k+1) s' v' (by simpa using h1) (by simpa using h2)) hst hrt hf hnd
    | agg t os=>exact ih (svs:=svs) (vs:=vs) (j:=j) (x:=x) h hs hx hss (by simpa using hl) (fun k s' v' h1 h2=>hv (k+1) s' v' (by simpa using h1) (by simpa using h2)) hst hrt hf hnd
    | fnc f n=>exact ih (svs:=svs) (vs:=vs) (j:=j) (x:=x) h hs hx hss (by simpa using hl) (fun k s' v' h1 h2=>hv (k+1) s' v' (by simpa using h1) (by simpa using h2)) hst hrt hf hnd
    | nilp=>exact ih (svs:=svs) (vs:=vs) (j:=j) (x:=x) h hs hx hss (by simpa using hl) (fun k s' v' h1 h2=>hv (k+1) s' v' (by simpa using h1) (by simpa using h2)) hst hrt hf hnd
    | box=>
     obtain⟨st,off,b2,o2,svs',ws2,fp1,fp2,rfl,rfl,k2,rfl,hmem,hin⟩:=GV h;obtain⟨⟨p,rest,rfl,b,o,ho,hval,hblk,hob,hfl⟩,hx2⟩:=hx;simp only[au] at hnd;obtain⟨n1,n2⟩:=nodup_cons.1 hnd;obtain⟨n3,n4⟩:=nodup_cons.1 n2;have hsite:H (.site st)=.und:=(hf (.site st) (by simp[au])).2 st rfl;have hb:b=g.st st:=by have h1:v=.pointer (some ⟨g0.st st,off,none⟩):=hv 0 _ _ rfl rfl;rw[hst st (by simp[aV])];rw[hval] at h1;simpa using(by simpa using h1:b=g0.st st∧0=off).1
     subst hb;have hp:p=Value.pointer (some ⟨g.st b2,o2,none⟩):=by rw[hst b2 (by simp[aV,hmem])];exact hv 1 (.adr b2 o2) p rfl rfl
     have hlive2:H (.site b2)≠.bot:=by rw[(hf (.site b2) (by simp[au,hin])).2 b2 rfl];exact SV.noConfusion
     have hs1:=hs.setFld (n:=st) (i:=0) (v:=.adr b2 o2) (fun t'=>by rw[hsite];exact SV.noConfusion) SV.noConfusion hlive2;have hfin:=hs1.setSite (n:=st) (t:=bU) ⟨[p],hblk,by show g.own (g.st st)=_;rw[hob,hT _ _ ho];have:=hss 0 (.site st) (by simp[aV]);rw[add_zero] at this;rw[this],hfl,p,rfl,by rw[hp];rfl,by show SR g (view g.fl w) (ak H (.fld st 0) (.adr b2 o2) (.fld st 0)) p;rw[aK];exact hp⟩;have live1:∀ l,H l≠.bot→ak (ak H (.fld st 0) (.adr b2 o2)) (.site st) (.obj bU) l≠.bot:=fun l hl=>fF SV.noConfusion (fF SV.noConfusion hl);obtain⟨g',c1,c2,c3⟩:=ih (svs:=.adr b2 o2::svs') (vs:=p::rest) (j:=j+1) (x:=x) (by rw[show id+80+20*(j+1)=id+80+20*j+20 from by omega];exact k2) hfin hx2
      (fun k s' hk=>by have:=hss (k+1) s' (by simpa[aV] using hk);rwa[show j+(k+1)=j+1+k from by omega] at this) (by simpa using hl) (fun k s' v' h1 h2=>hv (k+1) s' v' (by simpa using h1) (by simpa using h2))
      (fun s' hs'=>hst s' (by simp[aV,hs'])) (fun q hq=>by
       obtain⟨y1,y2,y3⟩:=hrt q (by simp[aV,hq]);exact⟨y1,by rw[ay _ _ (by simp),ay _ _ (by simp)];exact y2,y3⟩) (fun l hl'=>by
       have e1:l≠HLoc.site st:=fun e=>by subst e;exact n3 hl'
       have e2:l≠HLoc.fld st 0:=fun e=>by subst e;exact n1 (mem_cons_of_mem _ hl')
       rw[ay _ _ e1,ay _ _ e2];exact hf l (by simp[au,hl'])) n4
     refine⟨g',NewG.trans (g':=g) (H':=ak (ak H (.fld st 0) (.adr b2 o2)) (.site st) (.obj bU)) (NewG.refl H g) c1 live1,c2,?_⟩;intro q hq;rcases mem_cons.1 hq with rfl|hq
     ·exact SV.noConfusion
     ·rcases mem_cons.1 hq with rfl|hq
      ·exact SV.noConfusion
      ·exact c3 q hq
    | row e=>
     obtain⟨q,ws2,fp1,fp2,rfl,k2,rfl⟩:=GR h;obtain⟨hrow,hx2⟩:=hx;simp only[au] at hnd;obtain⟨n1,n2⟩:=nodup_cons.1 hnd;obtain⟨y1,y2,y3⟩:=hrt q (by simp[aV]);have hval:v=g.hd q:=by rw[y3];exact hv 0 _ _ rfl rfl
     have hro:qE g w q false e x.1:=zdf.2 (by
      rcases hrow with⟨h1,h2⟩|⟨o,ho,h1⟩
      ·exact .inl ⟨hval▸h1,h2⟩
      ·have:=hss 0 (.row q) (by simp[aV]);rw[add_zero] at this;rw[←hval,←this,←hT _ _ ho];exact h1)
     have hfin:=hs.setRow hro;have live1:∀ l,H l≠.bot→ak H (.row q) (.row false e x.1) l≠.bot:=fun l hl=>fF SV.noConfusion hl;have hin:∀ q',Own.row q'∈aV ps svs→q'≠q:=fun q' hq' e=>n1 (by subst e;exact Il k2 _ hq');obtain⟨g',c1,c2,c3⟩:=ih (svs:=svs) (vs:=vs) (j:=j+1) (x:=x.2) (by rw[show id+80+20*(j+1)=id+80+20*j+20 from by omega];exact k2) hfin hx2
      (fun k s' hk=>by have:=hss (k+1) s' (by simpa[aV] using hk);rwa[show j+(k+1)=j+1+k from by omega] at this) (by simpa using hl) (fun k s' v' h1 h2=>hv (k+1) s' v' (by simpa using h1) (by simpa using h2))
      (fun s' hs'=>hst s' (by simp[aV,hs'])) (fun q' hq'=>by
       obtain⟨z1,z2,z3⟩:=hrt q' (by simp[aV,hq']);exact⟨z1,by rw[ay _ _ (by simp;exact hin q' hq')];exact z2,z3⟩) (fun l hl'=>by
       have e1:l≠HLoc.row q:=fun e=>by subst e;exact n1 hl'
       rw[ay _ _ e1];exact hf l (by simp[au,hl'])) n2
     refine⟨g',NewG.trans (g':=g) (H':=ak H (.row q) (.row false e x.1)) (NewG.refl H g) c1 live1,c2,?_⟩;intro p hp;rcases mem_cons.1 hp with rfl|hp
     ·exact SV.noConfusion
     ·exact c3 p hp
    | obj t os=>
     cases s with
     | adr st off=>
      have h:((jW (id+80+20*j) os 0).bind fun _=>(eX (id+80+20*j+20) ps svs x.2).bind fun ws=>Rd.ret (aZ (.fld st) (id+80+20*j) os (lay t) x.1 0++(HLoc.site st,SV.obj t)::ws)).run H0 fp=some (ws,fp'):=h;obtain⟨_,fp1,k1,h⟩:=ah h;obtain⟨ws2,fp2,k2,h⟩:=ah h;obtain⟨e,_⟩:=af h;subst e;obtain⟨⟨b,cs,o,ho,hval,hblk,hob,hfl,hF⟩,hx2⟩:=hx;simp only[fG,au] at hnd;obtain⟨n1,n2,n3⟩:=List.nodup_append.1 hnd;obtain⟨n4,n5⟩:=nodup_cons.1 n2;have hsite:H (.site st)=.und:=(hf (.site st) (by simp[fG,au])).2 st rfl;rw[show id+80+20*j=id+(80+20*j) from by omega] at k1 n1 n3 ⊢;have hfresh:∀ r,HLoc.row r∈au (aZ (.fld st) (id+(80+20*j)) os (lay t) x.1 0)→H0 (.row r)=.bot:=fun r hr=>by
       rcases jQ hr with⟨k,hk⟩|⟨k,hk1,hk⟩
       ·cases hk
       ·rw[hk];exact yE k1 k hk1
      obtain⟨hd',q1,q2,q3⟩:=Iu (n:=st) hT hsh hs (fun t'=>by rw[hsite];exact SV.noConfusion) hF fun r hr=>(hf (.row r) (by rw[fG,show id+80+20*j=id+(80+20*j) from by omega];exact mem_append_left _ hr)).1 r rfl (hfresh r hr);have hb:b=g.st st:=by have h1:v=.pointer (some ⟨g0.st st,off,none⟩):=hv 0 _ _ rfl rfl;rw[hst st (by simp[aV])];rw[hval] at h1;simpa using(by simpa using h1:b=g0.st st∧0=off).1
      subst hb;have hfin:=q2.setSite (n:=st) (t:=t) ⟨cs,hblk,by show g.own (g.st st)=_;rw[hob,hT _ _ ho];have:=hss 0 (.site st) (by simp[aV]);rw[add_zero] at this;rw[this],hfl,BM.2 q3⟩;have live1:∀ l,H l≠.bot→ak (puts H (aZ (.fld st) (id+(80+20*j)) os (lay t) x.1 0)) (.site st) (.obj t) l≠.bot:=fun l hl=>fF SV.noConfusion (vH BJ hl);obtain⟨g',b1,b2,b3⟩:=ih (svs:=svs) (vs:=vs) (j:=j+1) (x:=x.2) (by rw[show id+80+20*(j+1)=id+80+20*j+20 from by omega];exact k2) hfin hx2
       (fun k s' hk=>by have:=hss (k+1) s' (by simpa[aV] using hk);rwa[show j+(k+1)=j+1+k from by omega] at this) (by simpa using hl) (fun k s' v' h1 h2=>hv (k+1) s' v' (by simpa using h1) (by simpa using h2))
       (fun s' hs'=>hst s' (by simp[aV,hs'])) (fun q hq=>by
        obtain⟨y1,y2,y3⟩:=hrt q (by simp[aV,hq]);have e2:HLoc.row q ∉ au (aZ (.fld st) (id+(80+20*j)) os (lay t) x.1 0):=fun hm=>y1 (hfresh q hm);exact⟨y1,by rw[ay _ _ (by simp),cZ e2];exact y2,(q1 q (by rw[y2];exact SV.noConfusion)).trans y3⟩) (fun l hl'=>by
        have e1:l≠HLoc.site st:=fun e=>by subst e;exact n4 hl'
        have e2:l ∉ au (aZ (.fld st) (id+(80+20*j)) os (lay t) x.1 0):=fun hm=>n3 l hm l (by simp[hl']) rfl;rw[ay _ _ e1,cZ e2];exact hf l (by simp[fG,au,hl'])) n5
      refine⟨g',NewG.trans (g':={ g with hd:=hd' }) (H':=ak (puts H (aZ (.fld st) (id+(80+20*j)) os (lay t) x.1 0)) (.site st) (.obj t)) ⟨rfl,rfl,⟨fun _ _=>rfl,fun r hr=>q1 r hr,fun _ _ _=>rfl,rfl⟩⟩ b1 live1,by rw[gX];exact b2,?_⟩;intro p hp;rcases mem_append.1 hp with hp|hp
      ·exact BJ p hp
      ·rcases mem_cons.1 hp with rfl|hp
       ·exact SV.noConfusion
       ·exact b3 p hp
     | own q=>
      obtain⟨ws2,fp1,fp2,rfl,k2,rfl⟩:=GU h;obtain⟨⟨b,cs,o,ho,hval,hblk,hob,hfl,hF⟩,hx2⟩:=hx;simp only[au] at hnd;obtain⟨n1,n2⟩:=nodup_cons.1 hnd;obtain⟨y1,y2,y3⟩:=hrt q (by simp[aV]);have hph:nI v (g.hd q):=by rw[y3];exact hv 0 (.own q) v rfl rfl
      have hC:=hF.crep;have hro:qE g w q false (lay t) [x.1]:=by
       rcases hph with⟨h1,_⟩|⟨b',h1,h2⟩
       ·rw[hval] at h1;exact Value.noConfusion h1 fun e=>by simp at e
       ·rw[hval] at h1;have hbb:b=b':=by simpa using h1
        subst hbb;refine .inr ⟨b,1,cs,h2,le_refl _,hblk,by rw[hC.length,one_mul],?_,hfl,fun i z hi=> ?_⟩
        ·rw[hob,hT _ _ ho];have:=hss 0 (.row q) (by simp[aV]);rw[add_zero] at this;rw[this]
        ·cases i with
         | succ i=>simp at hi
         | zero=>simp only[getElem?_cons_zero,Option.some.injEq] at hi;subst hi;exact⟨cs,fun j v hj=>by simpa using hj,hC⟩
      have hfin:=hs.setRow hro;have live1:∀ l,H l≠.bot→ak H (.row q) (.row false (lay t) [x.1]) l≠.bot:=fun l hl=>fF SV.noConfusion hl;have hin:∀ q',Own.row q'∈aV ps svs→q'≠q:=fun q' hq' e=>n1 (by subst e;exact Il k2 _ hq');obtain⟨g',c1,c2,c3⟩:=ih (svs:=svs) (vs:=vs) (j:=j+1) (x:=x.2) (by rw[show id+80+20*(j+1)=id+80+20*j+20 from by omega];exact k2) hfin hx2
       (fun k s' hk=>by have:=hss (k+1) s' (by simpa[aV] using hk);rwa[show j+(k+1)=j+1+k from by omega] at this) (by simpa using hl) (fun k s' v' h1 h2=>hv (k+1) s' v' (by simpa using h1) (by simpa using h2))
       (fun s' hs'=>hst s' (by simp[aV,hs'])) (fun q' hq'=>by
        obtain⟨z1,z2,z3⟩:=hrt q' (by simp[aV,hq']);exact⟨z1,by rw[ay _ _ (by simp;exact hin q' hq')];exact z2,z3⟩) (fun l hl'=>by
        have e1:l≠HLoc.row q:=fun e=>by subst e;exact n1 hl'
        rw[ay _ _ e1];exact hf l (by simp[au,hl'])) n2
      refine⟨g',NewG.trans (g':=g) (H':=ak H (.row q) (.row false (lay t) [x.1])) (NewG.refl H g) c1 live1,c2,?_⟩;intro p hp;rcases mem_cons.1 hp with rfl|hp
      ·exact SV.noConfusion
      ·exact c3 p hp
     | _=>exact(ae (show(Rd.fail:Rd HW).run H0 fp=_ from h)).elim
theorem OI:∀ {l:List Sig} {vs:List SV} {sg:Sig},yU l vs=some sg→sg∈l
 | [],_,_,h=>by simp[yU] at h
 | s::r,vs,sg,h=>by
  simp only[yU] at h;cases hb:kM s.ps vs with
  | true=>rw[hb] at h;simp at h;simp[h]
  | false=>rw[hb] at h;exact mem_cons_of_mem _ (OI h)
theorem Ir:∀ l:List HLoc,au (kC l)=l
 | []=>rfl
 | a::r=>by simp[kC,au,Ir r]
theorem vJ:∀ {l:List HLoc} {H:HLoc→SV} {x:HLoc},x∈l→puts H (kC l) x=.und
 | a::r,H,x,h=>by
  simp only[kC,puts];by_cases hx:x∈r
  ·exact vJ hx
  ·rw[cZ (by rw[Ir];exact hx)];rcases mem_cons.1 h with rfl|h
   ·exact aK _ _ _
   ·exact absurd h hx
theorem SimG.drops:∀ {m:List (Own×Own)} {g:Gh} {H:HLoc→SV},SimG C g S H a w→SimG C g S (puts H (kC (m.map fun p=>dK p.1))) a w
 | [],_,_,hs=>hs
 | p::r,g,H,hs=>by
  have:SimG C g S (ak H (dK p.1) .und) a w:=hs.drop (by
   cases p.1 with
   | site n=>exact .inl ⟨n,rfl⟩
   | row n=>exact .inr ⟨n,rfl⟩)
  exact SimG.drops (m:=r) this
theorem YK {H:HLoc→SV}:∀ {ps:List PS} {svs:List SV} {q:(bK ps).den×HW×List HLoc} {fp fp':List HLoc},(df ps svs).run H fp=some (q,fp')→∀ s∈aV ps svs,dK s∈q.2.2:=by
 intro ps;induction ps with
 | nil=>intro svs q fp fp' _ s hs;simp[aV] at hs
 | cons p ps ih=>
  intro svs q fp fp' h s hs;cases svs with
  | nil=>cases p<;>simp[aV] at hs
  | cons v svs=>
   cases p with
   | pure t=>rw[Ic] at h;obtain⟨y,fp1,k1,h⟩:=ah h;obtain⟨z,fp2,k2,h⟩:=ah h;obtain⟨e,_⟩:=af h;subst e;exact ih k2 s (by simpa[aV] using hs)
   | lent t=>rw[Ig] at h;obtain⟨y,fp1,k1,h⟩:=ah h;obtain⟨z,fp2,k2,h⟩:=ah h;obtain⟨e,_⟩:=af h;subst e;exact ih k2 s (by simpa[aV] using hs)
   | rptr t=>rw[Ib] at h;obtain⟨y,fp1,k1,h⟩:=ah h;obtain⟨z,fp2,k2,h⟩:=ah h;obtain⟨e,_⟩:=af h;subst e;exact ih k2 s (by simpa[aV] using hs)
   | nilp=>
    rw[Ie] at h;cases v<;>first|exact(ae h).elim|skip
    exact ih h s (by simpa[aV] using hs)
   | agg t os=>
    rw[I4] at h;cases v<;>first|exact(ae h).elim|skip
    rename_i d t';simp only at h;cases hb:t'.beq t with
    | false=>rw[hb] at h;exact(ae h).elim
    | true=>rw[hb] at h;obtain⟨y,fp1,k1,h⟩:=ah (show(Rd.bind _ _).run H _=_ from h);obtain⟨dd,fp2,k2,h⟩:=ah h;obtain⟨z,fp3,k3,h⟩:=ah h;obtain⟨e,_⟩:=af h;subst e;have:=ih k3 s (by simpa[aV] using hs);simp[this]
   | fnc f n=>
    rw[IZ] at h;cases v<;>first|exact(ae h).elim|skip
    rename_i f' d n';simp only at h;cases hb:cond (beq f f') (beq n n') false with
    | false=>rw[hb] at h;exact(ae h).elim
    | true=>rw[hb] at h;exact ih h s (by simpa[aV] using hs)
   | box=>
    obtain⟨z,hw,d⟩:=q;obtain⟨st,b,o,svs',fp1,fp2,z2,hw2,d2,rfl,rfl,_,_,k3,rfl,rfl,rfl⟩:=GN h;simp only[aV,mem_cons] at hs;rcases hs with rfl|hs
    ·simp[dK]
    ·have:=ih k3 s hs;simp[this]
   | row e=>
    obtain⟨z,hw,d⟩:=q;obtain⟨q,l,fp1,fp2,z2,d2,rfl,_,k3,rfl,rfl⟩:=GM h;simp only[aV,mem_cons] at hs;rcases hs with rfl|hs
    ·simp[dK]
    ·have:=ih k3 s hs;simp[this]
   | obj t os=>
    rw[IY] at h;cases v<;>first|exact(ae h).elim|skip
    case own q'=>
     simp only at h;cases hoe:cond (isEmpty os) (structEnd (lay t)) false with
     | false=>rw[hoe] at h;exact(ae h).elim
     | true=>
      rw[hoe] at h;simp only[cond_true,Rd.run] at h;split at h
      case h_2=>exact(ae h).elim
      rename_i pub e l hrow;cases pub with
      | true=>exact(ae h).elim
      | false=>
       simp only[cond_false] at h;obtain⟨x0,hx0,h⟩:=bP h;obtain⟨y,fp1,k1,h⟩:=ah h;obtain⟨z,fp2,k2,h⟩:=ah h;obtain⟨e1,_⟩:=af h;subst e1;simp only[aV,mem_cons] at hs;rcases hs with rfl|hs
       ·simp[dK]
       ·have:=ih k2 s hs;simp[this]
    rename_i st off;simp only at h;cases hoff:beq off 0 with
    | false=>rw[hoff] at h;exact(ae h).elim
    | true=>
     rw[hoff] at h;simp only[cond,Rd.run] at h;split at h
     ·rename_i t' hobj;cases hb:t'.beq t with
      | false=>rw[hb] at h;exact(ae h).elim
      | true=>
       rw[hb] at h;simp only[cond] at h;obtain⟨y,fp1,k1,h⟩:=ah h;obtain⟨d,fp2,k2,h⟩:=ah h;obtain⟨z,fp3,k3,h⟩:=ah h;obtain⟨e,_⟩:=af h;subst e;simp only[aV,mem_cons] at hs;rcases hs with rfl|hs
       ·simp[dK]
       ·have:=ih k3 s hs;simp[this]
     ·exact(ae h).elim
end
section
variable {C:Ctx} {S:Nat→SV} {a:Act} {w:World}
theorem Yb {H:HLoc→SV} {n rid:Nat} {t:Ty} {os:List Bool} {x:t.den} {fp fp':List HLoc} {u:Unit} (h:(jW rid os 0).run H fp=some (u,fp')):kV H (aZ (.fld n) rid os t x 0):=by
 intro l hl hn;rcases jQ hl with⟨k,rfl⟩|⟨k,hk,rfl⟩
 ·exact absurd rfl (hn _ _)
 ·exact yE h k hk
theorem kV.append {H:HLoc→SV} {a b:HW} (h1:kV H a) (h2:kV H b):kV H (a++b):=by
 intro l hl hn;rw[fG] at hl;rcases mem_append.1 hl with hl|hl
 ·exact h1 l hl hn
 ·exact h2 l hl hn
theorem kV.one {H:HLoc→SV} {l:HLoc} {v:SV} (h:H l=.bot):kV H [(l,v)]:=by
 intro m hm _;simp only[au,mem_singleton] at hm;rw[hm];exact h
theorem Om {H:HLoc→SV} {rid:Nat} {t:Ty} {os:List Bool} {x:(lay t).den} {q:SV×HW} {fp fp':List HLoc} (h:(resV rid (.newobj t os) x).run H fp=some (q,fp')):kV H q.2:=by
 obtain⟨h1,h⟩:=fH h;obtain⟨_,fp1,k1,h⟩:=ah h;obtain⟨e,_⟩:=af h;subst e;exact(Yb k1).append (kV.one h1)
theorem QH {H:HLoc→SV} {rid:Nat}:∀ {n i:Nat} {fp fp':List HLoc} {u:Unit},(J6 rid n i).run H fp=some (u,fp')→∀ k,k<n→H (.comp rid (i+k))=.bot
 | 0,_,_,_,_,_,k,hk=>by omega
 | n+1,i,fp,fp',u,h,k,hk=>by
  obtain⟨h1,h2⟩:=fH h;cases k with
  | zero=>exact h1
  | succ k=>have:=QH h2 k (by omega);rwa[show i+1+k=i+(k+1) from by omega] at this
theorem Z7 {d rid:Nat}:∀ {t:Ty} {os:List Bool} {x:t.den} {i:Nat} {l:HLoc},l∈au (aZ (.comp d) rid os t x i)→∀ k,l=.comp d (i+k)→k<aH t:=by
 intro t;induction t with
 | pair A B _ hB=>
  intro os x i l hl k hk;subst hk;simp only[aZ,fG,mem_append] at hl;rcases hl with hl|hl
  ·have:k=0:=by
    unfold gJ at hl;cases hb:hdB os with
    | false=>rw[hb] at hl;simp only[cond,au,mem_singleton,HLoc.comp.injEq] at hl;omega
    | true=>
     rw[hb] at hl;simp only[cond] at hl;split at hl
     ·simp[au] at hl;omega
     ·simp[au] at hl;omega
     ·simp[au] at hl;omega
   subst this;simp[aH]
  ·cases k with
   | zero=>simp[aH]
   | succ k=>have:=hB hl k (by congr 1;omega);simp only[aH];omega
 | _=>intro os x i l hl;simp[aZ,au] at hl
theorem Pi {H:HLoc→SV} {rid:Nat} {r:RS} {x:r.ty.den} {q:SV×HW} {fp fp':List HLoc} (h:(resV rid r x).run H fp=some (q,fp')):kV H q.2:=by
 cases r with
 | pure t=>obtain⟨e,_⟩:=af h;subst e;intro l hl;simp[au] at hl
 | own pub e=>obtain⟨h1,h⟩:=fH h;obtain⟨e,_⟩:=af h;subst e;exact kV.one h1
 | deep e=>obtain⟨h1,h⟩:=fH h;obtain⟨e,_⟩:=af h;subst e;exact kV.one h1
 | agg t os=>
  obtain⟨_,fp1,k1,h⟩:=ah h;obtain⟨_,fp2,k2,h⟩:=ah h;obtain⟨e,_⟩:=af h;subst e;intro l hl _;have hlen:=Z7 hl;rcases jQ hl with⟨k,rfl⟩|⟨k,hk,rfl⟩
  ·exact QH k2 k (hlen k rfl)
  ·exact yE k1 k hk
 | newobj t os=>exact Om h
 | maybe t os=>
  obtain⟨b,y⟩:=x;cases b with
  | false=>obtain⟨e,_⟩:=af (show(Rd.ret (SV.nilp,([]:HW))).run H fp=_ from h);subst e;intro l hl;simp[au] at hl
  | true=>exact Om (show(resV rid (.newobj t os) y).run H fp=_ from h)
theorem Yv {H:HLoc→SV} {id:Nat} {ps:List PS}:∀ {rs:List RS} {i:Nat} {x:(iD rs ps).den} {q:HW×(dX ps).den} {fp fp':List HLoc},(wL id ps rs x i).run H fp=some (q,fp')→kV H q.1:=by
 intro rs;induction rs with
 | nil=>intro i x q fp fp' h;obtain⟨e,_⟩:=af h;subst e;intro l hl;simp[au] at hl
 | cons r rs ih=>intro i x q fp fp' h;obtain⟨h1,h⟩:=fH h;obtain⟨p,fp1,k1,h⟩:=ah h;obtain⟨q2,fp2,k2,h⟩:=ah h;obtain⟨e,_⟩:=af h;subst e;exact(Pi k1).append (kV.append (a:=[_]) (kV.one h1) (ih k2))
theorem XZ {H:HLoc→SV} {id:Nat} {ps:List PS} {rs:List RS} {x:(iD rs ps).den} {q:SV×HW×(dX ps).den} {fp fp':List HLoc} (h:(results id ps rs x).run H fp=some (q,fp')):kV H q.2.1:=by
 have many:((wL id ps rs x 0).bind fun q=>Rd.ret (SV.tup id rs.length,q.1,q.2)).run H fp=some (q,fp')→kV H q.2.1:=by intro h;obtain⟨q2,fp1,k1,h⟩:=ah h;obtain⟨e,_⟩:=af h;subst e;exact Yv k1
 match rs,x,h,many with
 | [],x,h,many=>exact many h
 | [r],x,h,many=>obtain⟨p,fp1,k1,h⟩:=ah h;obtain⟨e,_⟩:=af h;subst e;exact Pi k1
 | r1::r2::rs,x,h,many=>exact many h
theorem YO {H:HLoc→SV}:∀ {ps:List PS} {rid:Nat} {svs:List SV} {x:(dX ps).den} {ws:HW} {fp fp':List HLoc},(eX rid ps svs x).run H fp=some (ws,fp')→
  ∀ l∈au ws,(∀ n,l=.site n→Own.site n∈aV ps svs)∧∀ d i,l≠.comp d i:=by
 intro ps;induction ps with
 | nil=>intro rid svs x ws fp fp' h;obtain⟨e,_⟩:=af (show(Rd.ret ([]:HW)).run H fp=_ from h);subst e;intro l hl;simp[au] at hl
 | cons p ps ih=>
  intro rid svs x ws fp fp' h;cases svs with
  | nil=>cases p<;>exact(ae (show(Rd.fail:Rd HW).run H fp=_ from h)).elim
  | cons s svs=>
   cases p with
   | pure t=>exact ih (svs:=svs) (x:=x) h
   | lent t=>exact ih (svs:=svs) (x:=x) h
   | rptr t=>exact ih (svs:=svs) (x:=x) h
   | nilp=>exact ih (svs:=svs) (x:=x) h
   | agg t os=>exact ih (svs:=svs) (x:=x) h
   | fnc f n=>exact ih (svs:=svs) (x:=x) h
   | box=>
    obtain⟨st,off,b2,o2,svs',ws2,fp1,fp2,rfl,rfl,k2,rfl,hmem,hin⟩:=GV h;intro l hl;simp only[au,mem_cons] at hl;rcases hl with rfl|rfl|hl
    ·exact⟨fun n e=>(by cases e),fun d i e=>(by cases e)⟩
    ·exact⟨fun n e=>(by cases e;simp[aV]),fun d i e=>(by cases e)⟩
    ·obtain⟨a2,a3⟩:=ih k2 l hl;exact⟨fun n e=>by simp[aV,a2 n e],a3⟩
   | row e=>
    obtain⟨q,ws2,fp1,fp2,rfl,k2,rfl⟩:=GR h;intro l hl;simp only[au,mem_cons] at hl;rcases hl with rfl|hl
    ·exact⟨fun n e=>(by cases e),fun d i e=>(by cases e)⟩
    ·obtain⟨a2,a3⟩:=ih k2 l hl;exact⟨fun n e=>by simp[aV,a2 n e],a3⟩
   | obj t os=>
    cases s with
    | adr st off=>
     have h:((jW rid os 0).bind fun _=>(eX (rid+20) ps svs x.2).bind fun ws=>Rd.ret (aZ (.fld st) rid os (lay t) x.1 0++(HLoc.site st,SV.obj t)::ws)).run H fp=some (ws,fp'):=h;obtain⟨_,fp1,k1,h⟩:=ah h;obtain⟨ws2,fp2,k2,h⟩:=ah h;obtain⟨e,_⟩:=af h;subst e;intro l hl;simp only[fG,au,mem_append,mem_cons] at hl;rcases hl with hl|rfl|hl
     ·refine⟨fun n e=> ?_,fun d i e=> ?_⟩
      ·rcases jQ hl with⟨k,hk⟩|⟨k,_,hk⟩<;>rw[e] at hk<;>cases hk
      ·rcases jQ hl with⟨k,hk⟩|⟨k,_,hk⟩<;>rw[e] at hk<;>cases hk
     ·exact⟨fun n e=>(by cases e;simp[aV]),fun d i e=>(by cases e)⟩
     ·obtain⟨a2,a3⟩:=ih k2 l hl;exact⟨fun n e=>by simp[aV,a2 n e],a3⟩
    | own q=>
     obtain⟨ws2,fp1,fp2,_,k2,rfl⟩:=GU h;intro l hl;simp only[au,mem_cons] at hl;rcases hl with rfl|hl
     ·exact⟨fun n e=>(by cases e),fun d i e=>(by cases e)⟩
     ·obtain⟨a2,a3⟩:=ih k2 l hl;exact⟨fun n e=>by simp[aV,a2 n e],a3⟩
    | _=>exact(ae (show(Rd.fail:Rd HW).run H fp=_ from h)).elim
end
end Go.Sx
