/-
 Sx: a symbolic executor for the model,proved sound,part 3 of 4: an AI agent's own work.
-/
import Derived.Test.YtlegpimppfabgaaGreatSxQ
import Derived.Deep.LoopGhost
namespace Go.Sx
def ig (ops:List Oper) (S:Nat→SV) (o:Oper):Option Bool:=
 match o.guard with
 | none=>some true
 | some (j,want)=>match (ops[j]?).bind (·.dst) with
  | none=>none
  | some g=>match S g with
   | .pv .bool b=>some (b == want)
   | .und=>some false
   | _=>none
structure Res where
 S:Nat→SV
 H:HLoc→SV
 rd:List HLoc
 wr:List HLoc
def stp (tab:Tab) (Γ:FuncId→List Sig) (rid:Nat) (ops:List Oper) (i:Nat) (o:Oper) (S:Nat→SV) (H:HLoc→SV):Option Res:=
 match ig ops S o with
 | none=>none
 | some false=>some ⟨dS S o.dst .und,H,[],[]⟩
 | some true=>((aop tab Γ ((rid*1000+i+1)*1000) (evS S) o.op).run H []).map fun p=>⟨dS S o.dst p.1.1,puts H p.1.2,p.2,ak p.1.2⟩
theorem force_eq {R:Type}:∀ (hw:HW) (k:HW→Option R),force hw k=k hw
 | [],k=>rfl
 | (l,v)::r,k=>by rw [force,force_eq r]
theorem yQ (S:Nat→SV) {n:Nat} {v:SV} (h:S n=v):iy S n v=S:=by
 funext m
 by_cases e:m=n
 ·subst e;rw [mQ];exact h.symm
 ·rw [jc _ _ e]
theorem zc4 {n:Nat}:∀ {l:List Nat},jv n l=true↔n∈l
 | []=>by simp [jv]
 | m::r=>by
  rw [jv]
  cases hb:Nat.beq n m with
  | true=>simp [Nat.eq_of_beq_eq_true hb]
  | false=>
   have hne:n≠m:=fun e=>by subst e;simp at hb
   simp [hne,zc4 (l:=r)]
theorem KX {n:HLoc}:∀ {l:List HLoc},cu n l=true↔n∈l
 | []=>by simp [cu]
 | m::r=>by
  rw [cu]
  cases hb:n.beq m with
  | true=>simp [HLoc.beq_eq hb]
  | false=>
   have hne:n≠m:=fun e=>by subst e;simp [HLoc.beq_refl] at hb
   simp [hne,KX (l:=r)]
theorem bJ:∀ {hw:HW} {H:HLoc→SV} {l:HLoc},l ∉ ak hw→puts H hw l=H l
 | [],_,_,_=>rfl
 | (m,v)::r,H,l,h=>by
  simp only [ak,List.mem_cons,not_or] at h
  rw [puts,bJ h.2,aA _ _ h.1]
theorem Lh {l:HLoc}:∀ {hw:HW} {H:HLoc→SV},gB l (H l) hw=puts H hw l
 | [],_=>rfl
 | (m,u)::r,H=>by
  have:=Lh (l:=l) (hw:=r) (H:=aj H m u)
  simp only [gB,puts]
  rw [←this]
  rfl
theorem J7 {l:HLoc}:∀ {hw:HW} {v v':SV},l∈ak hw→gB l v hw=gB l v' hw
 | (m,u)::r,v,v',h=>by
  simp only [gB]
  cases hb:l.beq m with
  | true=>rfl
  | false=>
   simp only [ak,List.mem_cons] at h
   rcases h with rfl | h
   ·rw [HLoc.beq_refl] at hb;exact Bool.noConfusion hb
   ·exact J7 h
theorem Jg {u v:SV} (h:rZ u v=true):v=u:=by
 cases u <;> cases v <;> simp only [rZ] at h <;> first | exact Bool.noConfusion h | skip
 ·obtain⟨h1,h2⟩:=aF h
  rw [Nat.eq_of_beq_eq_true h1,Nat.eq_of_beq_eq_true h2]
 ·rw [Ty.beq_eq h]
theorem DD {H:HLoc→SV} {lk:List HLoc} {all:HW}:∀ {hw:HW},oC H lk all hw=true→∀ l∈lk,l∈ak hw→rZ (H l) (gB l .bot all)=true
 | [],_,_,_,h=>by simp [ak] at h
 | (m,v)::r,h,l,hl,hm=>by
  simp only [oC] at h
  simp only [ak,List.mem_cons] at hm
  cases hk:cu m lk with
  | true=>
   rw [hk] at h
   obtain⟨h1,h2⟩:=aF h
   rcases hm with rfl | hm
   ·exact h1
   ·exact DD h2 l hl hm
  | false=>
   rw [hk] at h
   rcases hm with rfl | hm
   ·rw [KX.2 hl] at hk;exact Bool.noConfusion hk
   ·exact DD h l hl hm
theorem zdg {H:HLoc→SV} {lk:List HLoc} {hw:HW} (h:oC H lk hw hw=true):∀ l∈lk,puts H hw l=H l:=by
 intro l hl
 by_cases hm:l∈ak hw
 ·rw [←Lh,J7 hm (v':=.bot)]
  exact Jg (DD h l hl hm)
 ·exact bJ hm
theorem Ll {lk:List HLoc}:∀ {hw:HW},wW lk hw=true→∀ l∈lk,l ∉ ak hw
 | [],_,l,_=>by simp [ak]
 | (m,v)::r,h,l,hl=>by
  simp only [wW] at h
  cases hb:cu m lk with
  | true=>rw [hb] at h;exact Bool.noConfusion h
  | false=>
   rw [hb] at h
   simp only [ak,List.mem_cons,not_or]
   refine⟨fun e=> ?_,Ll h l hl⟩
   subst e
   rw [KX.2 hl] at hb
   exact Bool.noConfusion hb
theorem Lm {lk:List Nat} {d:Option Tmp} (h:oD lk d=true) (S:Nat→SV) (v:SV):∀ n∈lk,dS S d v n=S n:=by
 intro n hn
 cases d with
 | none=>rfl
 | some d=>
  simp only [oD] at h
  cases hb:jv d lk with
  | true=>rw [hb] at h;exact Bool.noConfusion h
  | false=>
   refine jc _ _ fun e=> ?_
   subst e
   rw [zc4.2 hn] at hb
   exact Bool.noConfusion hb
section
variable {tab:Tab} {Γ:FuncId→List Sig} {rid:Nat} {ops:List Oper}
theorem YF {R:Type} {i:Nat} {o:Oper} {s:St} {tr:Trace} {k:St→Trace→Option R} {r:R} (h:Fj tab Γ rid ops i o s tr k=some r) :
  ∃ q tr',stp tab Γ rid ops i o s.S s.H=some q∧(∀ n∈s.lkS,q.S n=s.S n)∧(∀ l∈s.lkH,q.H l=s.H l)∧k { s with S:=q.S,H:=q.H } tr'=some r∧
   (tr'=⟨i,q.rd,q.wr⟩::tr∨(tr'=tr∧q.rd=[]∧q.wr=[])):=by
 have go:∀ S0,S0=s.S→ig ops s.S o=some true→((aop tab Γ ((rid*1000+i+1)*1000) (evS S0) o.op).runC s.H [] fun p fp=>
   force p.2 fun hw=>cond (oC s.H s.lkH hw hw) (cond (oD s.lkS o.dst) (k { s with S:=dS S0 o.dst p.1,H:=puts s.H hw } (⟨i,fp,ak hw⟩::tr)) none) none)=some r→
   ∃ q tr',stp tab Γ rid ops i o s.S s.H=some q∧(∀ n∈s.lkS,q.S n=s.S n)∧(∀ l∈s.lkH,q.H l=s.H l)∧k { s with S:=q.S,H:=q.H } tr'=some r∧
   (tr'=⟨i,q.rd,q.wr⟩::tr∨(tr'=tr∧q.rd=[]∧q.wr=[])):=by
  rintro S0 rfl hg h
  rw [Rd.runC_eq] at h
  obtain⟨⟨⟨v,hw⟩,fp⟩,h1,h2⟩:=Option.bind_eq_some_iff.1 h
  simp only [force_eq] at h2
  cases hf:oC s.H s.lkH hw hw with
  | false=>rw [hf] at h2;simp at h2
  | true=>
   rw [hf] at h2
   cases hd:oD s.lkS o.dst with
   | false=>rw [hd] at h2;simp at h2
   | true=>
    rw [hd] at h2
    refine⟨⟨dS s.S o.dst v,puts s.H hw,fp,ak hw⟩,_,?_,Lm hd _ _,fun l hl=>zdg hf l hl,h2,.inl rfl⟩
    simp only [stp,hg,h1,Option.map_some]
 have pass:∀ S0,S0=s.S→ig ops s.S o=some false→(cond (oD s.lkS o.dst) (k { s with S:=dS S0 o.dst .und } tr) none)=some r→
   ∃ q tr',stp tab Γ rid ops i o s.S s.H=some q∧(∀ n∈s.lkS,q.S n=s.S n)∧(∀ l∈s.lkH,q.H l=s.H l)∧k { s with S:=q.S,H:=q.H } tr'=some r∧
   (tr'=⟨i,q.rd,q.wr⟩::tr∨(tr'=tr∧q.rd=[]∧q.wr=[])):=by
  rintro S0 rfl hg h
  cases hd:oD s.lkS o.dst with
  | false=>rw [hd] at h;simp at h
  | true=>
   rw [hd] at h
   exact⟨⟨dS s.S o.dst .und,s.H,[],[]⟩,tr,by simp only [stp,hg],Lm hd _ _,fun _ _=>rfl,h,.inr ⟨rfl,rfl,rfl⟩⟩
 unfold Fj at h
 simp only at h
 split at h
 ·rename_i hgd
  exact go s.S rfl (by simp [ig,hgd]) h
 ·rename_i j want hgd
  split at h
  ·simp at h
  ·rename_i g hj
   split at h
   ·rename_i b hb
    cases b with
    | true=>
     cases want with
     | true=>exact go _ (yQ _ hb) (by simp [ig,hgd,hj,hb]) h
     | false=>exact pass _ (yQ _ hb) (by simp [ig,hgd,hj,hb]) h
    | false=>
     cases want with
     | true=>exact pass _ (yQ _ hb) (by simp [ig,hgd,hj,hb]) h
     | false=>exact go _ (yQ _ hb) (by simp [ig,hgd,hj,hb]) h
   ·rename_i hb
    exact pass _ rfl (by simp [ig,hgd,hj,hb]) h
   ·simp at h
structure En where
 i:Nat
 o:Oper
 rd:List HLoc
 wr:List HLoc
def RunT (tab:Tab) (Γ:FuncId→List Sig) (rid:Nat) (ops:List Oper):List En→(Nat→SV)→(HLoc→SV)→(Nat→SV)→(HLoc→SV)→Prop
 | [],S,H,S',H'=>S'=S∧H'=H
 | e::r,S,H,S',H'=>∃ S1 H1,stp tab Γ rid ops e.i e.o S H=some ⟨S1,H1,e.rd,e.wr⟩∧RunT tab Γ rid ops r S1 H1 S' H'
def ve:List En→Nat→List Oper→Prop
 | [],_,[]=>True
 | e::r,i,o::os=>e.i=i∧e.o=o∧ve r (i+1) os
 | _,_,_=>False
def En.st (e:En):Step:=⟨e.i,e.rd,e.wr⟩
structure Apart (x y:Step):Prop where
 wr:∀ l∈x.wr,l ∉ y.rd
 ww:∀ l∈x.wr,l ∉ y.wr
 rw:∀ l∈y.wr,l ∉ x.rd
theorem lJ:∀ {a b:List HLoc},gI a b=true→∀ l∈a,l ∉ b
 | [],_,_,l,hl=>by simp at hl
 | m::r,b,h,l,hl=>by
  simp only [gI] at h
  cases hb:cu m b with
  | true=>rw [hb] at h;exact Bool.noConfusion h
  | false=>
   rw [hb] at h
   rcases List.mem_cons.1 hl with rfl | hl
   ·intro hm;rw [KX.2 hm] at hb;exact Bool.noConfusion hb
   ·exact lJ h l hl
theorem zbQ {x y:Step} (h:EZ x y=true):Apart x y:=by
 unfold EZ at h
 split at h
 ·rename_i h1 h2
  exact⟨by simp [h1],by simp [h1],by simp [h2]⟩
 ·obtain⟨h1,h2⟩:=aF h
  obtain⟨h2,h3⟩:=aF h2
  exact⟨lJ h1,lJ h2,lJ h3⟩
theorem KA {x y:Step} (h:(x.rd=[]∧x.wr=[])∨(y.rd=[]∧y.wr=[])):Apart x y:=by
 rcases h with ⟨h1,h2⟩ | ⟨h1,h2⟩
 ·exact⟨by simp [h2],by simp [h2],by simp [h1]⟩
 ·exact⟨by simp [h1],by simp [h2],by simp [h2]⟩
def Ok2 (bf:List Nat) (x y:Step):Prop:=(bf.getD y.i 0).testBit x.i=true∨Apart x y
theorem I8 {bf:List Nat} {y:Step}:∀ {tr:Trace},zA bf y tr=true→∀ x∈tr,Ok2 bf x y
 | [],_,x,hx=>by simp at hx
 | t::r,h,x,hx=>by
  simp only [zA] at h
  obtain⟨h1,h2⟩:=aF h
  rcases List.mem_cons.1 hx with rfl | hx
  ·cases hb:(bf.getD y.i 0).testBit x.i with
   | true=>exact .inl hb
   | false=>rw [hb] at h1;exact .inr (zbQ h1)
  ·exact I8 h2 x hx
theorem Ig {bf:List Nat}:∀ {ne tr:Trace},pY bf (ne++tr)=true→pY bf tr=true
 | [],_,h=>h
 | y::r,tr,h=>by
  simp only [List.cons_append,pY] at h
  exact Ig (aF h).2
theorem Iz {R:Type}:∀ {os:List Oper} {i:Nat} {s:St} {tr:Trace} {k:St→Trace→Option R} {r:R},wE tab Γ rid ops os i s tr k=some r→
  ∃ es S' H' tr',RunT tab Γ rid ops es s.S s.H S' H'∧ve es i os∧(∀ n∈s.lkS,S' n=s.S n)∧(∀ l∈s.lkH,H' l=s.H l)∧k { s with S:=S',H:=H' } tr'=some r∧
   (∃ ne,tr'=ne++tr)∧∀ bf,pY bf tr'=true→es.Pairwise (fun x y=>Ok2 bf x.st y.st)∧∀ e∈es,∀ t∈tr,Ok2 bf t e.st:=by
 intro os
 induction os with
 | nil=>
  intro i s tr k r h
  exact⟨[],s.S,s.H,tr,⟨rfl,rfl⟩,trivial,fun _ _=>rfl,fun _ _=>rfl,h,⟨[],rfl⟩,fun bf _=>⟨List.Pairwise.nil,by simp⟩⟩
 | cons o os ih=>
  intro i s tr k r h
  simp only [wE] at h
  obtain⟨q,tr1,h1,h2,h3,h4,h5⟩:=YF h
  obtain⟨es,S',H',tr',k1,k2,k3,k4,k5,⟨ne,k6⟩,k7⟩:=ih h4
  refine⟨⟨i,o,q.rd,q.wr⟩::es,S',H',tr',⟨q.S,q.H,h1,k1⟩,⟨rfl,rfl,k2⟩,fun n hn=>(k3 n hn).trans (h2 n hn),fun l hl=>(k4 l hl).trans (h3 l hl),k5,?_⟩
  rcases h5 with rfl | ⟨rfl,e1,e2⟩
  ·refine⟨⟨ne++[⟨i,q.rd,q.wr⟩],by rw [k6];simp⟩,fun bf hbf=> ?_⟩
   obtain⟨m1,m2⟩:=k7 bf hbf
   rw [k6] at hbf
   have ht:=Ig hbf
   simp only [pY] at ht
   refine⟨List.Pairwise.cons (fun y hy=>m2 y hy _ (by simp [En.st])) m1,fun e he t htr=> ?_⟩
   rcases List.mem_cons.1 he with rfl | he
   ·exact I8 (aF ht).1 t htr
   ·exact m2 e he t (by simp [htr])
  ·refine⟨⟨ne,k6⟩,fun bf hbf=> ?_⟩
   obtain⟨m1,m2⟩:=k7 bf hbf
   refine⟨List.Pairwise.cons (fun y hy=>.inr (KA (.inl ⟨e1,e2⟩))) m1,fun e he t htr=> ?_⟩
   rcases List.mem_cons.1 he with rfl | he
   ·exact .inr (KA (.inr ⟨e1,e2⟩))
   ·exact m2 e he t htr
theorem zb0 {α:Type} {H:HLoc→SV}:∀ {m:Rd α} {fp fp':List HLoc} {x:α},m.run H fp=some (x,fp')→∀ l∈fp,l∈fp':=by
 intro m
 induction m with
 | ret a=>intro fp fp' x h l hl;obtain⟨_,e⟩:=ah h;rw [e];exact hl
 | fail=>intro fp fp' x h;exact (ae h).elim
 | get l k ih=>intro fp fp' x h l' hl;exact ih _ h l' (List.mem_cons_of_mem _ hl)
 | br b x y hx hy=>
  intro fp fp' z h l hl
  cases b with
  | true=>exact hx h l hl
  | false=>exact hy h l hl
 | opt o k ih=>
  intro fp fp' x h l hl
  obtain⟨b,rfl,h⟩:=bI h
  exact ih _ h l hl
theorem ZT {α:Type} {H H':HLoc→SV}:∀ {m:Rd α} {fp fp':List HLoc} {x:α},m.run H fp=some (x,fp')→(∀ l∈fp',H' l=H l)→m.run H' fp=some (x,fp'):=by
 intro m
 induction m with
 | ret a=>intro fp fp' x h _;exact h
 | fail=>intro fp fp' x h;exact (ae h).elim
 | get l k ih=>
  intro fp fp' x h ha
  simp only [Rd.run] at h ⊢
  rw [ha l (zb0 h l (by simp))]
  exact ih _ h ha
 | br b x y hx hy=>
  intro fp fp' z h ha
  cases b with
  | true=>exact hx h ha
  | false=>exact hy h ha
 | opt o k ih=>
  intro fp fp' x h ha
  obtain⟨b,rfl,h⟩:=bI h
  exact ih _ h ha
theorem zbS {ev ev':Operand→SV} {id:Nat} {o:Op} (h:∀ x∈o.operands,ev x=ev' x):aop tab Γ id ev o=aop tab Γ id ev' o:=by
 have pairs:∀ ps:Array (Nat×Operand),(∀ x∈(ps.toList.map (·.2)),ev x=ev' x)→(ps.toList.map fun p=>(p.1,ev p.2))=ps.toList.map fun p=>(p.1,ev' p.2):=fun ps hp=>
  List.map_congr_left fun p hm=>by rw [hp p.2 (List.mem_map.2 ⟨p,hm,rfl⟩)]
 cases o <;> simp only [Op.operands] at h <;> simp only [aop]
 case build t ps=>rw [pairs ps fun x hx=>h x (by simpa using hx)]
 case buildSlice t n ps=>rw [pairs ps fun x hx=>h x (by simpa using hx)]
 case call c=>
  obtain⟨callee,args,ats⟩:=c
  simp only [Call.operands] at h
  have hargs:args.toList.map ev=args.toList.map ev':=List.map_congr_left fun x hx=>h x (by simp;right;simpa using hx)
  cases callee with
  | builtin b=>simp only [hargs]
  | value f=>simp only [hargs,h f (by simp)]
  | invoke r m=>rfl
 case makeFunc fn first captured=>
  have hc:captured.toList.map ev=captured.toList.map ev':=List.map_congr_left fun x hx=>h x (by simp;right;simpa using hx)
  rw [hc]
 case slice t x lo hi mx=>cases lo <;> cases hi <;> cases mx <;> simp_all
 all_goals first | rfl | (simp_all;done)
theorem zd3 {S:Nat→SV} {d:Option Tmp} {v:SV} {x:Operand} (h:∀ n,d=some n→x≠.tmp n):evS (dS S d v) x=evS S x:=by
 cases d with
 | none=>rfl
 | some n=>
  cases x with
  | tmp t=>exact jc _ _ fun e=>h n rfl (e▸rfl)
  | _=>rfl
theorem J4 {o:Oper} {d:Nat} (h:d ∉ looks ops o):(∀ x∈o.op.operands,x≠.tmp d)∧∀ j want g,o.guard=some (j,want)→(ops[j]?).bind (·.dst)=some g→g≠d:=by
 unfold looks at h
 rw [List.mem_append,not_or] at h
 refine⟨fun x hx e=> ?_,fun j want g hg hj e=> ?_⟩
 ·subst e
  exact h.1 (List.mem_filterMap.2 ⟨.tmp d,by simpa using hx,rfl⟩)
 ·subst e
  apply h.2
  rw [hg]
  simp [hj]
theorem Ju {S:Nat→SV} {o:Oper} {d:Option Tmp} {v:SV} (h:∀ n,d=some n→n ∉ looks ops o):ig ops (dS S d v) o=ig ops S o:=by
 cases d with
 | none=>rfl
 | some n=>
  have:=(J4 (h n rfl)).2
  unfold ig
  cases hg:o.guard with
  | none=>rfl
  | some p=>
   obtain⟨j,want⟩:=p
   simp only
   cases hj:(ops[j]?).bind (·.dst) with
   | none=>rfl
   | some g=>
    simp only [dS]
    rw [jc _ _ (this j want g hg hj)]
theorem zbj {S:Nat→SV} {d e:Option Tmp} {u v:SV} (h:∀ n,d=some n→e≠some n):dS (dS S d u) e v=dS (dS S e v) d u:=by
 cases d with
 | none=>rfl
 | some n=>
  cases e with
  | none=>rfl
  | some m=>
   have hne:n≠m:=fun e=>h n rfl (by rw [e])
   funext k
   simp only [dS]
   by_cases h1:k=m
   ·subst h1;rw [mQ,jc _ _ (Ne.symm hne),mQ]
   ·rw [jc _ _ h1]
    by_cases h2:k=n
    ·subst h2;rw [mQ,mQ]
    ·rw [jc _ _ h2,jc _ _ h2,jc _ _ h1]
theorem D7:∀ {hw:HW} {H H':HLoc→SV} {l:HLoc},l∈ak hw→puts H hw l=puts H' hw l
 | [],_,_,l,h=>by simp [ak] at h
 | (m,v)::r,H,H',l,h=>by
  simp only [puts]
  by_cases hl:l∈ak r
  ·exact D7 hl
  ·simp only [ak,List.mem_cons] at h
   rcases h with rfl | h
   ·rw [bJ hl,bJ hl,aK,aK]
   ·exact absurd h hl
theorem zbi {H:HLoc→SV} {a b:HW} (h:∀ l∈ak a,l ∉ ak b):puts (puts H a) b=puts (puts H b) a:=by
 funext l
 by_cases hb:l∈ak b
 ·have ha:l ∉ ak a:=fun ha=>h l ha hb
  rw [bJ ha];exact D7 hb
 ·rw [bJ hb]
  by_cases ha:l∈ak a
  ·exact D7 ha
  ·rw [bJ ha,bJ ha,bJ hb]
structure ApS (ops:List Oper) (x y:Oper):Prop where
 rw:∀ n,x.dst=some n→n ∉ looks ops y
 ww:∀ n,x.dst=some n→y.dst≠some n
 wr:∀ n,y.dst=some n→n ∉ looks ops x
theorem zbR {x y:Oper} (h:E5 ops x y=true):ApS ops x y:=by
 unfold E5 at h
 obtain⟨h1,h2⟩:=aF h
 refine⟨fun n hn hm=> ?_,fun n hn hm=> ?_,fun n hn hm=> ?_⟩
 ·rw [hn] at h1;simp only [zc4.2 hm,cond] at h1;exact Bool.noConfusion h1
 ·rw [hn,hm] at h1
  simp only at h1
  cases hb:jv n (looks ops y) with
  | true=>rw [hb] at h1;exact Bool.noConfusion h1
  | false=>rw [hb] at h1;simp at h1
 ·rw [hn] at h2;simp only [zc4.2 hm,cond] at h2;exact Bool.noConfusion h2
theorem zbY {x y:En} (hap:ApS ops x.o y.o) (hA:Apart x.st y.st) {S S1 S2:Nat→SV} {H H1 H2:HLoc→SV}
  (h1:stp tab Γ rid ops x.i x.o S H=some ⟨S1,H1,x.rd,x.wr⟩) (h2:stp tab Γ rid ops y.i y.o S1 H1=some ⟨S2,H2,y.rd,y.wr⟩) :
  ∃ S' H',stp tab Γ rid ops y.i y.o S H=some ⟨S',H',y.rd,y.wr⟩∧stp tab Γ rid ops x.i x.o S' H'=some ⟨S2,H2,x.rd,x.wr⟩:=by
 have form:∀ {e:En} {S S1:Nat→SV} {H H1:HLoc→SV},stp tab Γ rid ops e.i e.o S H=some ⟨S1,H1,e.rd,e.wr⟩→
   ∃ v hw,S1=dS S e.o.dst v∧H1=puts H hw∧e.wr=ak hw∧∀ S' H',ig ops S' e.o=ig ops S e.o→(∀ z∈e.o.op.operands,evS S z=evS S' z)→(∀ l∈e.rd,H' l=H l)→
    stp tab Γ rid ops e.i e.o S' H'=some ⟨dS S' e.o.dst v,puts H' hw,e.rd,e.wr⟩:=by
  intro e S S1 H H1 h
  unfold stp at h
  split at h
  ·simp at h
  ·rename_i hg
   simp only [Option.some.injEq,Res.mk.injEq] at h
   obtain⟨a1,a2,a3,a4⟩:=h
   refine⟨.und,[],a1.symm,a2.symm,a4.symm,fun S' H' hg' _ _=> ?_⟩
   simp only [stp,hg',hg]
   rw [←a3,←a4];rfl
  ·rename_i hg
   obtain⟨⟨⟨v,hw⟩,fp⟩,h3,h4⟩:=Option.map_eq_some_iff.1 h
   simp only [Res.mk.injEq] at h4
   obtain⟨a1,a2,a3,a4⟩:=h4
   refine⟨v,hw,a1.symm,a2.symm,a4.symm,fun S' H' hg' hev hH=> ?_⟩
   simp only [stp,hg',hg]
   rw [←zbS hev,ZT h3 (by rw [a3];exact hH)]
   simp [a3,a4]
 obtain⟨v1,hw1,rfl,rfl,e1,f1⟩:=form h1
 obtain⟨v2,hw2,rfl,rfl,e2,f2⟩:=form h2
 have look:∀ {o:Oper} {d:Option Tmp} {v:SV} {S:Nat→SV},(∀ n,d=some n→n ∉ looks ops o)→∀ z∈o.op.operands,evS (dS S d v) z=evS S z:=by
  intro o d v S hd z hz
  exact zd3 fun n hn=>(J4 (hd n hn)).1 z hz
 have g2:=f2 S H (Ju hap.rw).symm (fun z hz=>look hap.rw z hz) (fun l hl=>(bJ fun hm=>hA.wr l (show l∈x.wr by rw [e1];exact hm) hl).symm)
 have g1:=f1 (dS S y.o.dst v2) (puts H hw2) (Ju hap.wr) (fun z hz=>(look hap.wr z hz).symm) (fun l hl=>bJ fun hm=>hA.rw l (show l∈y.wr by rw [e2];exact hm) hl)
 refine⟨_,_,g2,?_⟩
 rw [g1,zbj hap.ww,zbi (a:=hw1) (b:=hw2) (fun l hl=>by rw [←e2];exact hA.ww l (show l∈x.wr by rw [e1];exact hl))]
theorem RunT.front {x:En} {post:List En}:∀ {pre:List En} {S S':Nat→SV} {H H':HLoc→SV},(∀ p∈pre,ApS ops p.o x.o∧Apart p.st x.st)→RunT tab Γ rid ops (pre++x::post) S H S' H'→
  ∃ S1 H1,stp tab Γ rid ops x.i x.o S H=some ⟨S1,H1,x.rd,x.wr⟩∧RunT tab Γ rid ops (pre++post) S1 H1 S' H'
 | [],_,_,_,_,_,h=>h
 | p::pre,S,S',H,H',hp,⟨S1,H1,h1,h2⟩=>by
  obtain⟨S2,H2,h3,h4⟩:=RunT.front (fun q hq=>hp q (by simp [hq])) h2
  obtain⟨q1,q2⟩:=hp p (by simp)
  obtain⟨S3,H3,h5,h6⟩:=zbY q1 q2 h1 h3
  exact⟨S3,H3,h5,S2,H2,h6,h4⟩
end
end Go.Sx
namespace Go.Sx
section
variable {P:Program} {tab:Tab} {Γ:FuncId→List Sig} {rid:Nat} {C:Ctx} {g:Gh} {S:Nat→SV} {H:HLoc→SV} {a:Act} {w:World}
def gK (nt:Nat×Nat) (C:Ctx) (S:Nat→SV) (H:HLoc→SV) (a:Act) (w:World):Prop:=(a.tmps.size=nt.1∧C.lo≤nt.2)∧∃ g,SimG C g S H a w
theorem size_put (a:Act) (d:Option Tmp) (v:Value):(a.put d v).tmps.size=a.tmps.size:=by cases d <;> simp [Act.put]
theorem Kq {ops:Array Oper} (hs:SimG C g S H a w) {o:Oper} {b:Bool} (h:ig ops.toList S o=some b):Region.wanted o (yielded ops a.tmps)=b:=by
 unfold ig at h
 unfold Region.wanted
 cases hg:o.guard with
 | none=>rw [hg] at h;simpa using h
 | some p=>
  obtain⟨j,want⟩:=p
  rw [hg] at h
  simp only [Array.getElem?_toList] at h
  simp only [yielded]
  cases hj:(ops[j]?).bind (·.dst) with
  | none=>rw [hj] at h;simp at h
  | some d=>
   rw [hj] at h
   simp only at h
   simp only [Option.bind_some]
   have hd:=hs.slots d
   split at h
   ·rename_i x hx
    rw [hx] at hd
    have hv:=mP hd
    have:a.tmps[d]? = some (.bool x):=by
     rw [Array.getD_eq_getD_getElem?] at hv
     cases ht:a.tmps[d]? with
     | none=>rw [ht] at hv;exact absurd hv (by simp [undef])
     | some y=>rw [ht] at hv;simp at hv;rw [hv]
    rw [this]
    simp only [Option.some.injEq] at h
    rw [←h]
    cases x <;> cases want <;> rfl
   ·rename_i hx
    rw [hx] at hd
    have hv:a.tmps.getD d undef=undef:=hd
    rw [Array.getD_eq_getD_getElem?] at hv
    simp only [Option.some.injEq] at h
    rw [←h]
    cases ht:a.tmps[d]? with
    | none=>rfl
    | some y=>rw [ht] at hv;simp at hv;rw [hv];rfl
   ·simp at h
theorem MW (hTab:TabOk P tab) (hΓ:qp P tab Γ) {ops:Array Oper} (hs:SimG C g S H a w) {i:Nat} {o:Oper} (ho:ops[i]? = some o) (hd:∀ d,o.dst=some d→d < a.tmps.size∧C.lo≤d) {q:Res}
  (h:stp tab Γ rid ops.toList i o S H=some q) {Q:Exit→Act→World→Prop} {K:Act→World→Prop} (hk:∀ a' w' g',a'.tmps.size=a.tmps.size→SimG C g' q.S q.H a' w'→K a' w'):wpOp P ops Q i K a w:=by
 unfold stp at h
 unfold wpOp
 simp only [ho]
 split at h
 ·simp at h
 ·rename_i hg
  obtain rfl:=Option.some.inj h
  rw [Kq hs hg]
  simp only [Bool.false_eq_true,if_false]
  exact hk _ w g (size_put _ _ _) (hs.put o.dst trivial rfl hd)
 ·rename_i hg
  obtain⟨⟨⟨v,hw⟩,fp⟩,h1,rfl⟩:=Option.map_eq_some_iff.1 h
  rw [Kq hs hg]
  simp only [if_true]
  exact .inl (zdr hTab hΓ hs h1 K Q fun val w' g' k1 k2 k3=>hk _ w' g' (size_put _ _ _) (k1.put o.dst k3 k2 hd))
theorem Eg {nt:Nat×Nat}:∀ {ops:List Oper},qE nt ops=true→∀ o∈ops,∀ d,o.dst=some d→d < nt.1∧nt.2≤d
 | [],_,o,ho=>by simp at ho
 | x::r,h,o,ho=>by
  simp only [qE] at h
  obtain⟨h1,h2⟩:=aF h
  rcases List.mem_cons.1 ho with rfl | ho
  ·intro d hd
   rw [hd] at h1
   obtain⟨h3,h4⟩:=aF h1
   exact⟨Nat.le_of_ble_eq_true h4,Nat.le_of_ble_eq_true h3⟩
  ·exact Eg h2 o ho
theorem ve.get {ops:List Oper}:∀ {es:List En} {i:Nat} {os:List Oper},ve es i os→(∀ k o,os[k]? = some o→ops[i+k]? = some o)→∀ e∈es,ops[e.i]? = some e.o
 | [],_,_,_,_,e,he=>by simp at he
 | x::r,i,[],h,_,_,_=>h.elim
 | x::r,i,o::os,⟨h1,h2,h3⟩,hk,e,he=>by
  rcases List.mem_cons.1 he with rfl | he
  ·rw [h1,h2];exact hk 0 o rfl
  ·exact ve.get h3 (fun k o' h=>by have:=hk (k+1) o' h;rwa [show i+(k+1)=i+1+k from by omega] at this) e he
theorem Jb (hTab:TabOk P tab) (hΓ:qp P tab Γ) {ops:Array Oper} {nt:Nat×Nat} (hd:qE nt ops.toList=true) {Q:Exit→Act→World→Prop}:∀ {es:List En} {i:Nat} {os:List Oper} {S S':Nat→SV} {H H':HLoc→SV} {a:Act} {w:World},
  ve es i os→(∀ k o,os[k]? = some o→ops[i+k]? = some o)→RunT tab Γ rid ops.toList es S H S' H'→gK nt C S H a w→(∀ a' w',gK nt C S' H' a' w'→Q .normal a' w')→
  wpOps P ops Q (List.range' i os.length) a w
 | [],i,[],S,S',H,H',a,w,_,_,⟨h1,h2⟩,hs,hq=>hq a w (by rw [h1,h2];exact hs)
 | [],i,o::os,S,S',H,H',a,w,h,_,_,_,_=>h.elim
 | x::r,i,[],S,S',H,H',a,w,h,_,_,_,_=>h.elim
 | x::r,i,o::os,S,S',H,H',a,w,⟨e1,e2,e3⟩,hk,⟨S1,H1,h1,h2⟩,⟨hn,g,hs⟩,hq=>by
  have ho:ops[i]? = some o:=hk 0 o rfl
  rw [List.length_cons,List.range'_succ,wpOps_cons]
  rw [e1,e2] at h1
  refine MW hTab hΓ hs ho (fun d hd'=>by rw [hn.1];exact let q:=Eg hd o (Array.mem_toList_iff.2 (Array.mem_of_getElem? ho)) d hd';⟨q.1,Nat.le_trans hn.2 q.2⟩) h1 fun a' w' g' hz hs'=> ?_
  exact Jb hTab hΓ hd e3 (fun k o' h=>by have:=hk (k+1) o' h;rwa [show i+(k+1)=i+1+k from by omega] at this) h2 ⟨⟨by rw [hz,hn.1],hn.2⟩,g',hs'⟩ hq
theorem Ky (e:Edge):Region.binds .any e=lS e:=by
 unfold Region.binds lS
 cases e.ground <;> rfl
theorem H8:∀ {ops:List Oper} {i k:Nat} {o:Oper},vH ops i=true→ops[k]? = some o→∀ e∈o.after,lS e=true→e.on < i+k
 | [],_,_,_,_,h=>by simp at h
 | x::r,i,k,o,h,hk=>by
  simp only [vH] at h
  obtain⟨h1,h2⟩:=aF h
  cases k with
  | zero=>
   simp only [List.getElem?_cons_zero,Option.some.injEq] at hk
   subst hk
   intro e he hb
   have h1:=List.all_eq_true.1 h1 e (by simpa using he)
   rw [hb] at h1
   have:e.on < i:=Nat.le_of_ble_eq_true h1
   omega
  | succ k=>
   intro e he hb
   have:=H8 h2 (k:=k) (by simpa using hk) e he hb
   omega
theorem Jv {acc:List Nat} {x:Nat}:∀ {es:List Edge} {s:Nat},(es.foldl (fun s e=>cond (lS e) (s ||| 2 ^ e.on ||| acc.getD e.on 0) s) s).testBit x=true→
  s.testBit x=true∨∃ e∈es,lS e=true∧(x=e.on∨(acc.getD e.on 0).testBit x=true)
 | [],s,h=>.inl h
 | e::es,s,h=>by
  simp only [List.foldl_cons] at h
  rcases Jv h with h | ⟨e',he,hb,hx⟩
  ·cases hb:lS e with
   | false=>rw [hb] at h;exact .inl h
   | true=>
    rw [hb] at h
    simp only [cond,Nat.testBit_or,Bool.or_eq_true] at h
    rcases h with (h | h) | h
    ·exact .inl h
    ·rw [Nat.testBit_two_pow] at h
     exact .inr ⟨e,by simp,hb,.inl (by simpa using (of_decide_eq_true h).symm)⟩
    ·exact .inr ⟨e,by simp,hb,.inr h⟩
  ·exact .inr ⟨e',by simp [he],hb,hx⟩
theorem Dh:∀ {os:List Oper} {acc:List Nat} {i:Nat},i < acc.length→(before os acc)[i]? = acc[i]?
 | [],acc,i,_=>rfl
 | o::os,acc,i,h=>by
  rw [before,Dh (by simp;omega),List.getElem?_append_left h]
theorem I4:∀ {os:List Oper} {acc:List Nat} {k x:Nat} {o:Oper},os[k]? = some o→((before os acc).getD (acc.length+k) 0).testBit x=true→
  ∃ e∈o.after,lS e=true∧(x=e.on∨((before os acc).getD e.on 0).testBit x=true)
 | [],_,_,_,_,h,_=>by simp at h
 | y::os,acc,k,x,o,h,hx=>by
  cases k with
  | zero=>
   simp only [List.getElem?_cons_zero,Option.some.injEq] at h
   subst h
   have hget:(before (y::os) acc).getD acc.length 0=y.after.toList.foldl (fun s e=>cond (lS e) (s ||| 2 ^ e.on ||| acc.getD e.on 0) s) 0:=by
    rw [before,List.getD_eq_getElem?_getD,Dh (by simp),List.getElem?_append_right (Nat.le_refl _)]
    simp
   rw [Nat.add_zero,hget] at hx
   rcases Jv hx with h0 | ⟨e,he,hb,h0⟩
   ·simp at h0
   ·refine⟨e,by simpa using he,hb,h0.imp id fun h1=> ?_⟩
    by_cases hlt:e.on < acc.length
    ·rw [before,List.getD_eq_getElem?_getD,Dh (by simp;omega),List.getElem?_append_left hlt,←List.getD_eq_getElem?_getD]
     exact h1
    ·rw [List.getD_eq_getElem?_getD,List.getElem?_eq_none (by omega)] at h1
     simp at h1
  | succ k=>
   rw [before] at hx ⊢
   exact I4 (acc:=acc++[_]) (k:=k) (by simpa using h) (by rw [List.length_append,List.length_singleton];rwa [show acc.length+1+k=acc.length+(k+1) from by omega])
theorem Iu {ops:List Oper} {b:Nat} {y:Oper}:∀ {l:List Oper} {i j:Nat} {x:Oper},y5 ops b y l i=true→l[j]? = some x→b.testBit (i+j)=true∨ApS ops x y
 | [],_,_,_,_,h=>by simp at h
 | z::r,i,j,x,h,hx=>by
  simp only [y5] at h
  obtain⟨h1,h2⟩:=aF h
  cases j with
  | zero=>
   simp only [List.getElem?_cons_zero,Option.some.injEq] at hx
   subst hx
   cases hb:b.testBit i with
   | true=>exact .inl rfl
   | false=>rw [hb] at h1;exact .inr (zbR h1)
  | succ j=>
   rw [show i+(j+1)=i+1+j from by omega]
   exact Iu h2 (by simpa using hx)
theorem Iw {ops:List Oper} {bf:List Nat}:∀ {os done:List Oper} {i k j:Nat} {x y:Oper},y7 ops bf os done i=true→done.length=i→os[k]? = some y→j < i+k→(done++os)[j]? = some x→
  (bf.getD (i+k) 0).testBit j=true∨ApS ops x y
 | [],_,_,_,_,_,_,_,_,h,_,_=>by simp at h
 | z::r,done,i,k,j,x,y,h,hl,hk,hj,hx=>by
  simp only [y7] at h
  obtain⟨h1,h2⟩:=aF h
  cases k with
  | zero=>
   simp only [List.getElem?_cons_zero,Option.some.injEq] at hk
   subst hk
   rw [List.getElem?_append_left (by omega)] at hx
   have:=Iu h1 hx
   simpa using this
  | succ k=>
   have:=Iw (k:=k) (j:=j) (x:=x) (y:=y) h2 (by simp;omega) (by simpa using hk) (by omega) (by simpa using hx)
   rwa [show i+1+k=i+(k+1) from by omega] at this
def Ok3 (ops:List Oper) (bf:List Nat) (x y:En):Prop:=x.i < y.i∧((bf.getD y.i 0).testBit x.i=true∨(ApS ops x.o y.o∧Apart x.st y.st))
theorem Kt {l:Array Bool} {i:Nat} (h:i < l.size) (d d':Bool):l.getD i d=l.getD i d':=by simp [h]
theorem zbV (hTab:TabOk P tab) (hΓ:qp P tab Γ) {ops:Array Oper} {nt:Nat×Nat} (hd:qE nt ops.toList=true) (hp:vH ops.toList 0=true) {Q:Exit→Act→World→Prop} {S':Nat→SV} {H':HLoc→SV}
  (hq:∀ a' w',gK nt C S' H' a' w'→Q .normal a' w'):∀ (fuel:Nat) {L:List En} {listed:Array Bool} {S:Nat→SV} {H:HLoc→SV} {a:Act} {w:World},
  L.length≤fuel→RunT tab Γ rid ops.toList L S H S' H'→L.Pairwise (Ok3 ops.toList (before ops.toList []))→(∀ e∈L,ops[e.i]? = some e.o)→listed.size=ops.size→
  (∀ i,i < ops.size→(listed.getD i true=false↔∃ e∈L,e.i=i))→(∀ i,listed.getD i false=true→∀ x,((before ops.toList []).getD i 0).testBit x=true→listed.getD x false=true)→
  gK nt C S H a w→wpAny P .any ops Q fuel listed a w:=by
 intro fuel
 induction fuel with
 | zero=>
  intro L listed S H a w hl hr _ _ hsz hls _ hs
  obtain rfl:L=[]:=by cases L with | nil=>rfl | cons x r=>simp at hl
  obtain⟨rfl,rfl⟩:=hr
  refine⟨?_,hq a w hs⟩
  cases hr:Region.ready .any ops listed with
  | nil=>rfl
  | cons i r=>
   have hi:i∈Region.ready .any ops listed:=by rw [hr];simp
   obtain⟨h1,o,ho,_⟩:=mem_ready.1 hi
   obtain⟨e,he,_⟩:=(hls i (Array.getElem?_eq_some_iff.1 ho).1).1 h1
   simp at he
 | succ fuel ih=>
  intro L listed S H a w hl hr hpw hop hsz hls hcl hs
  constructor
  ·intro hnil
   cases L with
   | nil=>obtain⟨rfl,rfl⟩:=hr;exact hq a w hs
   | cons x r=>
    exfalso
    have hx:=hop x (by simp)
    have hlt:=(Array.getElem?_eq_some_iff.1 hx).1
    have:x.i∈Region.ready .any ops listed:=by
     rw [mem_ready]
     refine⟨(hls x.i hlt).2 ⟨x,by simp,rfl⟩,x.o,hx,fun e he hbe=> ?_⟩
     have h1:=H8 hp (k:=x.i) (by simpa using hx) e he (by rw [←Ky];exact hbe)
     rw [Nat.zero_add] at h1
     have hlt':e.on < ops.size:=by omega
     rw [Kt (by omega) false true]
     cases hb:listed.getD e.on true with
     | true=>rfl
     | false=>
      obtain⟨y,hy,hye⟩:=(hls e.on hlt').1 hb
      rcases List.mem_cons.1 hy with rfl | hy
      ·omega
      ·have:=(List.rel_of_pairwise_cons hpw hy).1;omega
    rw [hnil] at this
    simp at this
  ·intro i hi
   obtain⟨h1,o,ho,hall⟩:=mem_ready.1 hi
   have hlt:=(Array.getElem?_eq_some_iff.1 ho).1
   obtain⟨x,hx,rfl⟩:=(hls i hlt).1 h1
   have hox:=hop x hx
   rw [ho] at hox
   obtain rfl:=Option.some.inj hox
   have hbits:∀ y,((before ops.toList []).getD x.i 0).testBit y=true→listed.getD y false=true:=by
    intro y hy
    obtain⟨e,he,hb,hye⟩:=I4 (os:=ops.toList) (acc:=[]) (k:=x.i) (by simpa using ho) (by simpa using hy)
    rw [←Ky] at hb
    have hon:=hall e he hb
    rcases hye with rfl | hye
    ·exact hon
    ·exact hcl e.on hon y hye
   obtain⟨pre,post,rfl⟩:=List.append_of_mem hx
   obtain⟨p1,p2,p3⟩:=List.pairwise_append.1 hpw
   have hfront:=RunT.front (pre:=pre) (fun p hp'=>by
    have h3:=(p3 p hp' x (by simp)).2
    rcases h3 with h3 | h3
    ·exfalso
     have h4:=hbits p.i h3
     have hplt:=(Array.getElem?_eq_some_iff.1 (hop p (by simp [hp']))).1
     have h5:=(hls p.i hplt).2 ⟨p,by simp [hp'],rfl⟩
     rw [Kt (by omega) true false,h4] at h5
     exact Bool.noConfusion h5
    ·exact h3) hr
   obtain⟨S1,H1,k1,k2⟩:=hfront
   obtain⟨hn,g,hg⟩:=hs
   refine MW hTab hΓ hg ho (fun d hd'=>by rw [hn.1];exact let q:=Eg hd x.o (Array.mem_toList_iff.2 (Array.mem_of_getElem? ho)) d hd';⟨q.1,Nat.le_trans hn.2 q.2⟩) k1 fun a' w' g' hz hs'=> ?_
   have hpx:∀ e∈pre++post,e.i≠x.i:=by
    intro e he
    rcases List.mem_append.1 he with he | he
    ·have:=(p3 e he x (by simp)).1;omega
    ·have:=(List.rel_of_pairwise_cons p2 he).1;omega
   refine ih (L:=pre++post) (by simp at hl ⊢;omega) k2 (List.pairwise_append.2 ⟨p1,(List.pairwise_cons.1 p2).2,fun y hy z hz'=>p3 y hy z (by simp [hz'])⟩) (fun e he=>hop e (by
     rcases List.mem_append.1 he with he | he
     ·simp [he]
     ·simp [he])) (by simpa using hsz) (fun j hj=> ?_) (fun j hj y hy=> ?_) ⟨⟨by rw [hz,hn.1],hn.2⟩,g',hs'⟩
   ·by_cases hjx:x.i=j
    ·subst hjx
     constructor
     ·intro h;simp [hsz,hj] at h
     ·rintro ⟨e,he,hei⟩;exact absurd hei (hpx e he)
    ·rw [getD_set_ne true hjx,hls j hj]
     constructor
     ·rintro ⟨e,he,rfl⟩
      refine⟨e,?_,rfl⟩
      rcases List.mem_append.1 he with he | he
      ·simp [he]
      ·rcases List.mem_cons.1 he with rfl | he
       ·exact absurd rfl hjx
       ·simp [he]
     ·rintro ⟨e,he,rfl⟩
      refine⟨e,?_,rfl⟩
      rcases List.mem_append.1 he with he | he
      ·simp [he]
      ·simp [he]
   ·by_cases hjx:x.i=j
    ·subst hjx;exact getD_set_true (hbits y hy)
    ·rw [getD_set_ne false hjx] at hj
     exact getD_set_true (hcl j hj y hy)
theorem ve.pairwise:∀ {es:List En} {i:Nat} {os:List Oper},ve es i os→(∀ e∈es,i≤e.i)∧es.Pairwise (fun x y=>x.i < y.i)
 | [],_,_,_=>⟨by simp,List.Pairwise.nil⟩
 | x::r,i,[],h=>h.elim
 | x::r,i,o::os,⟨h1,h2,h3⟩=>by
  obtain⟨k1,k2⟩:=ve.pairwise h3
  refine⟨fun e he=> ?_,List.Pairwise.cons (fun y hy=>by have:=k1 y hy;omega) k2⟩
  rcases List.mem_cons.1 he with rfl | he
  ·omega
  ·have:=k1 e he;omega
theorem ve.len:∀ {es:List En} {i:Nat} {os:List Oper},ve es i os→es.length=os.length∧∀ k,k < os.length→∃ e∈es,e.i=i+k
 | [],_,[],_=>⟨rfl,fun k h=>by simp at h⟩
 | [],_,_::_,h=>h.elim
 | x::r,i,[],h=>h.elim
 | x::r,i,o::os,⟨h1,h2,h3⟩=>by
  obtain⟨k1,k2⟩:=ve.len h3
  refine⟨by simp [k1],fun k hk=> ?_⟩
  cases k with
  | zero=>exact⟨x,by simp,h1⟩
  | succ k=>obtain⟨e,he,hei⟩:=k2 k (by simpa using hk);exact⟨e,by simp [he],by omega⟩
theorem ZB (hTab:TabOk P tab) (hΓ:qp P tab Γ) (hm:P.follows .mixedOrders=true) {nt:Nat×Nat} {id id':Nat} {ops:Array Oper} {draw:Bool} {R:Type} {s:St} {k:St→Option R} {r:R}
  (h:EG tab nt Γ id ops.toList draw s k=some r) (hs:gK nt C s.S s.H a w) {Q:Exit→Act→World→Prop}
  (hq:∀ a' w' S' H',gK nt C S' H' a' w'→(∀ n∈s.lkS,S' n=s.S n)→(∀ l∈s.lkH,H' l=s.H l)→k { s with S:=S',H:=H' }=some r→Q .normal a' w'):(Code.region id' ops draw).wp P Q a w:=by
 unfold EG at h
 cases hd:qE nt ops.toList with
 | false=>rw [hd] at h;simp at h
 | true=>
  rw [hd] at h
  cases draw with
  | false=>
   obtain⟨es,S',H',tr',k1,k2,k3,k4,k5,_,_⟩:=Iz (by simpa using h)
   apply wp_region
   have:=Jb hTab hΓ hd (Q:=Q) k2 (fun k o h=>by simpa using h) k1 hs fun a' w' hs'=>hq a' w' S' H' hs' k3 k4 k5
   rwa [Array.length_toList,←List.range_eq_range'] at this
  | true=>
   simp only [cond] at h
   split at h <;> try (simp at h;done)
   rename_i hp
   split at h <;> try (simp at h;done)
   rename_i hS
   obtain⟨es,S',H',tr',k1,k2,k3,k4,k5,_,k7⟩:=Iz h
   split at k5 <;> try (simp at k5;done)
   rename_i hT
   obtain⟨m1,_⟩:=k7 _ hT
   apply wp_region_any hm
   obtain⟨hn,g,hg⟩:=hs
   have hget:=k2.get (ops:=ops.toList) (fun k o h=>by simpa using h)
   obtain⟨e1,e2⟩:=k2.len
   have hpw:=k2.pairwise
   refine zbV hTab hΓ hd hp (fun a' w' hs'=>hq a' w' S' H' hs' k3 k4 k5) ops.size (L:=es) (by rw [e1];simp) k1 ?_ (fun e he=>by simpa using hget e he) (by simp) ?_ ?_ ⟨hn,g,hg.drew⟩
   ·refine (hpw.2.and m1).imp_of_mem fun {x y} hx hy hxy=>⟨hxy.1,?_⟩
    have hxo:=hget x hx
    have hyo:=hget y hy
    rcases hxy.2 with h1 | h1
    ·exact .inl h1
    ·have:=Iw (done:=[]) (i:=0) (k:=y.i) (j:=x.i) hS rfl hyo (by have:=hxy.1;omega) (by simpa using hxo)
     rw [Nat.zero_add] at this
     exact this.imp (fun h=>h) fun h2=>⟨h2,h1⟩
   ·intro i hi
    constructor
    ·intro _
     obtain⟨e,he,hei⟩:=e2 i (by simpa using hi)
     exact⟨e,he,by omega⟩
    ·intro _;simp [hi]
   ·intro i hi
    exfalso
    by_cases h:i < ops.size
    ·simp [h] at hi
    ·simp [h] at hi
end
end Go.Sx
namespace Go.Sx
def lD:Ty→List Value→Nat→List Value
 | .pair a _,cs,0=>cs.take a.size
 | .pair a b,cs,i+1=>lD b (cs.drop a.size) i
 | _,_,_=>[]
def LK:Ty→List Value→Prop
 | .pair a b,cs=>∃ c1 c2,cs=c1++c2∧c1.length=a.size∧(∀ c∈c1,oneC c=true)∧LK b c2
 | .unit,cs=>cs=[]
 | _,_=>False
section
variable {C:Ctx} {g:Gh} {S:Nat→SV} {H:HLoc→SV} {a:Act} {w:World}
theorem zdx {F:Nat→SV} {iv:IV}:∀ {t:Ty} {cs:List Value} {i:Nat},bU F g iv t cs i↔LK t cs∧∀ j A,cZ t j=some A→SR g iv (F (i+j)) (mkV A (lD t cs j)):=by
 intro t
 induction t with
 | pair A B _ hB=>
  intro cs i
  constructor
  ·rintro ⟨c1,c2,rfl,h2,h3,h4,h5⟩
   obtain⟨k1,k2⟩:=hB.1 h5
   refine⟨⟨c1,c2,rfl,h2,h3,k1⟩,fun j D hj=> ?_⟩
   cases j with
   | zero=>
    simp only [cZ,Option.some.injEq] at hj
    subst hj
    simp only [lD,←h2,List.take_left]
    exact h4
   | succ j=>
    simp only [cZ] at hj
    simp only [lD,←h2,List.drop_left]
    have:=k2 j D hj
    rwa [show i+1+j=i+(j+1) from by omega] at this
  ·rintro ⟨⟨c1,c2,rfl,h2,h3,k1⟩,hF⟩
   refine⟨c1,c2,rfl,h2,h3,?_,hB.2 ⟨k1,fun j D hj=> ?_⟩⟩
   ·have:=hF 0 A rfl
    simpa only [lD,←h2,List.take_left,Nat.add_zero] using this
   ·have:=hF (j+1) D hj
    simp only [lD,←h2,List.drop_left] at this
    rwa [show i+1+j=i+(j+1) from by omega]
 | unit=>intro cs i;exact⟨fun h=>⟨h,fun j D hj=>by simp [cZ] at hj⟩,fun h=>h.1⟩
 | _=>intro cs i;exact⟨fun h=>h.elim,fun h=>h.1.elim⟩
theorem dn.remap {F F':Nat→SV} {iv:IV} {t:Ty} {cs:List Value} (h:dn F g iv t cs)
  (hF:∀ j A,(cZ t j=some A→SR g iv (F j) (mkV A (lD t cs j))→SR g iv (F' j) (mkV A (lD t cs j)))) (h0:t.agg=false→SR g iv (F 0) (cs.headD undef)→SR g iv (F' 0) (cs.headD undef)):dn F' g iv t cs:=by
 unfold dn at h ⊢
 cases ht:t.agg with
 | true=>
  rw [ht] at h
  obtain⟨k1,k2⟩:=zdx.1 h
  exact zdx.2 ⟨k1,fun j A hj=>by have:=k2 j A hj;rw [Nat.zero_add] at this ⊢;exact hF j A hj this⟩
 | false=>
  rw [ht] at h
  obtain⟨c,h1,h2,h3⟩:=h
  exact⟨c,h1,h2,by have:=h0 ht;rw [h1] at this;exact this h3⟩
theorem SimG.forget (hs:SimG C g S H a w) {S':Nat→SV} {H':HLoc→SV} (hS:∀ n,S' n=S n∨S' n=.bot) (hH:∀ l,H' l=H l∨H' l=.bot) (rS:∀ n,aH H' (S' n))
  (rC:∀ d i,aH H' (H' (.comp d i))) (rF:∀ n i,aH H' (H' (.fld n i))) (rR:∀ r,aH H' (H' (.row r))) (rP:∀ d i v,C.pin d i=some v→H' (.comp d i)≠.bot):SimG C g S' H' a w where
 defers:=hs.defers
 slots n:=by rcases hS n with h | h <;> rw [h];exact hs.slots n;trivial
 comps d i:=by rcases hH (.comp d i) with h | h <;> rw [h];exact hs.comps d i;trivial
 sites n t hn:=by
  rcases hH (.site n) with h | h
  ·rw [h] at hn
   obtain⟨cs,h1,h2,h3,h4⟩:=hs.sites n t hn
   refine⟨cs,h1,h2,h3,h4.remap (fun j A _ hv=> ?_) fun _ hv=> ?_⟩
   ·rcases hH (.fld n j) with h | h <;> simp only [h];exact hv;trivial
   ·rcases hH (.fld n 0) with h | h <;> simp only [h];exact hv;trivial
  ·rw [h] at hn;cases hn
 rows r p e l hr:=by
  rcases hH (.row r) with h | h
  ·rw [h] at hr;exact hs.rows r p e l hr
  ·rw [h] at hr;cases hr
 deeps r e l n hh hr:=by
  rcases hH (.row r) with h | h
  ·rw [h] at hr;exact hs.deeps r e l n hh hr
  ·rw [h] at hr;cases hr
 refR:=rR
 refS:=rS
 refC:=rC
 refF:=rF
 own:=hs.own
 old:=hs.old
 ext:=hs.ext
 iv:=hs.iv
 lv:=hs.lv
 pin d i v h:=⟨rP d i v h,(hs.pin d i v h).2⟩
 low:=hs.low
theorem aH.bot:aH H .bot:=trivial
theorem SimG.reslot (hs:SimG C g S H a w) {n:Nat} {v:SV} (hv:SR g (view g.fl w) v (a.tmps.getD n undef)) (hr:aH H v):SimG C g (iy S n v) H a w:=by
 refine { hs with slots:=fun m=> ?_,refS:=fun m=> ?_ }
 ·by_cases e:m=n
  ·subst e;rw [mQ];exact hv
  ·rw [jc _ _ e];exact hs.slots m
 ·by_cases e:m=n
  ·subst e;rw [mQ];exact hr
  ·rw [jc _ _ e];exact hs.refS m
theorem SimG.refld (hs:SimG C g S H a w) {n i:Nat} {v:SV} (hv:∀ t,H (.site n)=.obj t→∀ cs,Blk w (g.st n) cs→(∀ A,cZ t i=some A→SR g (view g.fl w) v (mkV A (lD t cs i)))∧(t.agg=false→i=0→SR g (view g.fl w) v (cs.headD undef)))
  (hne:v≠.bot) (hr:aH H v):SimG C g S (aj H (.fld n i) v) a w:=by
 have hx:∀ l,l≠HLoc.fld n i→aj H (.fld n i) v l=H l:=fun l h=>aA _ _ h
 refine { hs with comps:=fun d j=> ?_,sites:=fun m t hm=> ?_,rows:=fun r p e x hr'=> ?_,deeps:=fun r e x n hh hr=> ?_,refR:=fun r=> ?_,refS:=fun n=>aH.upd hne (hs.refS n),refC:=fun d j=> ?_,refF:=fun m j=> ?_,pin:=fun pd pi pv ph=>⟨dM hne (hs.pin pd pi pv ph).1,(hs.pin pd pi pv ph).2⟩ }
 ·rw [hx _ (by simp)];exact hs.comps d j
 ·rw [hx _ (by simp)] at hm
  obtain⟨cs,h1,h2,h3,h4⟩:=hs.sites m t hm
  refine⟨cs,h1,h2,h3,h4.remap (fun j A hj h=> ?_) fun ha h=> ?_⟩
  ·by_cases e:HLoc.fld m j=.fld n i
   ·cases e;simp only [aK];exact (hv t hm cs h1).1 A hj
   ·simp only [hx _ e];exact h
  ·by_cases e:HLoc.fld m 0=.fld n i
   ·cases e;simp only [aK];exact (hv t hm cs h1).2 ha rfl
   ·simp only [hx _ e];exact h
 ·rw [hx _ (by simp)] at hr';exact hs.rows r p e x hr'
 ·rw [hx _ (by simp)] at hr;exact hs.deeps r e x n hh hr
 ·rw [hx _ (by simp)];exact aH.upd hne (hs.refR r)
 ·rw [hx _ (by simp)];exact aH.upd hne (hs.refC d j)
 ·by_cases e:HLoc.fld m j=.fld n i
  ·rw [e,aK];exact aH.upd hne hr
  ·rw [hx _ e];exact aH.upd hne (hs.refF m j)
open Classical in
noncomputable def lookO:List (Own×Own)→(Own→Option Own)→Own→Option Own
 | [],base,o=>base o
 | (x,y)::r,base,o=>if o=x then some y else lookO r base o
theorem yX {base:Own→Option Own}:∀ {m:List (Own×Own)},(m.map fun p=>p.1).Nodup→∀ p∈m,lookO m base p.1=some p.2
 | [],_,p,hp=>by simp at hp
 | (x,y)::r,h,p,hp=>by
  simp only [List.map_cons,List.nodup_cons] at h
  unfold lookO
  rcases List.mem_cons.1 hp with rfl | hp
  ·simp
  ·have:p.1≠x:=fun e=>h.1 (e▸List.mem_map.2 ⟨p,hp,rfl⟩)
   rw [if_neg this]
   exact yX h.2 p hp
theorem Jp {base:Own→Option Own} {o:Own}:∀ {m:List (Own×Own)},(∀ p∈m,p.1≠o)→lookO m base o=base o
 | [],_=>rfl
 | (x,y)::r,h=>by
  unfold lookO
  rw [if_neg fun e=>h (x,y) (by simp) e.symm]
  exact Jp fun p hp=>h p (by simp [hp])
theorem zen {r:Nat} {pub:Bool} {e:Ty} {l:List e.den}:nI g w r pub e l↔fA g.fl g.own w (g.hd r) (.row r) pub e l:=Iff.rfl
theorem fA.relabel {fl:Nat→Nat} {own own':Nat→Option Own} {v:Value} {o o':Own} {pub:Bool} {e:Ty} {l:List e.den} (h:fA fl own w v o pub e l) (ho:∀ b,own b=some o→own' b=some o'):fA fl own' w v o' pub e l:=by
 rcases h with h | ⟨b,cap,cs,h1,h2,h3,h4,h5,h6,h7⟩
 ·exact .inl h
 ·exact .inr ⟨b,cap,cs,h1,h2,h3,h4,ho b h5,h6,h7⟩
theorem fA.oneC {fl:Nat→Nat} {own:Nat→Option Own} {v:Value} {o:Own} {pub:Bool} {e:Ty} {l:List e.den} (h:fA fl own w v o pub e l):∃ ad n c,v=.slice ad n c:=by
 rcases h with ⟨h,_⟩ | ⟨b,cap,cs,h1,_⟩
 ·exact⟨_,_,_,h⟩
 ·exact⟨_,_,_,h1⟩
end
end Go.Sx
namespace Go.Sx
def cO:Own→HLoc
 | .site n=>.site n
 | .row r=>.row r
theorem vN:∀ {l:List HLoc},kN l=true→l.Nodup
 | [],_=>List.nodup_nil
 | a::r,h=>by
  simp only [kN] at h
  cases hb:cu a r with
  | true=>rw [hb] at h;exact Bool.noConfusion h
  | false=>
   rw [hb] at h
   exact List.nodup_cons.2 ⟨fun hm=>by rw [KX.2 hm] at hb;exact Bool.noConfusion hb,vN h⟩
theorem Dv {m:List (Own×Own)} (h:(m.map fun p=>cO p.1).Nodup):(m.map fun p=>p.1).Nodup:=by
 have:(m.map fun p=>cO p.1)=(m.map fun p=>p.1).map cO:=by rw [List.map_map];rfl
 rw [this] at h
 exact List.Pairwise.imp (fun hne e=>hne (congrArg cO e)) (List.pairwise_map.1 h)
theorem Blk.uniq {w:World} {b:Nat} {cs cs':List Value} (h:Blk w b cs) (h':Blk w b cs'):cs=cs':=by
 obtain⟨_,_,h,_⟩:=h
 obtain⟨_,_,h',_⟩:=h'
 rw [h] at h'
 simp only [Option.some.injEq,Obj.cells.injEq] at h'
 simpa using congrArg Array.toList h'.1
def yY (t:Ty) (cs:List Value) (i:Nat):Value:=
 cond t.agg (match cZ t i with | some A=>mkV A (lD t cs i) | none=>undef) (cs.headD undef)
theorem Zq:∀ {t:Ty} {i:Nat},i < nf t→∃ A,cZ t i=some A:=by
 intro t
 induction t with
 | pair A B _ hB=>
  intro i h
  cases i with
  | zero=>exact⟨A,rfl⟩
  | succ i=>exact hB (i:=i) (by simp [nf] at h;omega)
 | _=>intro i h;simp [nf] at h
def Has (st:Nat→Nat) (H:HLoc→SV) (a:Act) (w:World):Place→Value→Prop
 | .slot n,v=>v=a.tmps.getD n undef
 | .fld s i,v=>∃ t cs,H (.site s)=.obj t∧Blk w (st s) cs∧v=yY t cs i
def CF1 (fl:Nat→Nat) (own:Nat→Option Own) (w:World) (rid:Nat) (c:Carry) (val:Value) (x:c.t.den) (m:List (Own×Own)):Prop:=
 match c with
 | ⟨_,t,.pv⟩=>m=[]∧bD (view fl w) t val x
 | ⟨_,.slice e,.own pub⟩=>((val=.slice none 0 0∧x=[])∧m=[])∨∃ r,m=[(.row r,.row rid)]∧fA fl own w val (.row r) pub e x
 | ⟨_,.ptr e,.own pub⟩=>∃ h,kX val h∧(((h=.slice none 0 0∧x=[])∧m=[])∨∃ r,m=[(.row r,.row rid)]∧fA fl own w h (.row r) pub e x)
 | ⟨_,_,.own _⟩=>False
 | ⟨_,.pair (.ptr e) (.int _),.deep⟩=>(∀ p∈m,∃ r,p=(.row r,.row rid))∧∃ h,kX val h∧∀ own':Nat→Option Own,(∀ p∈m,∀ b,own b=some p.1→own' b=some p.2)→dW fl own' w h (.row rid) e x.1 (Int.toNat x.2) none
 | ⟨_,.pair (.slice e) (.int _),.deep⟩=>(∀ p∈m,∃ r,p=(.row r,.row rid))∧∀ own':Nat→Option Own,(∀ p∈m,∀ b,own b=some p.1→own' b=some p.2)→dW fl own' w val (.row rid) e x.1 (Int.toNat x.2) none
 | ⟨_,_,.deep⟩=>False
def CF (fl:Nat→Nat) (own:Nat→Option Own) (w:World) (P:Place→Value→Prop):Nat→(cs:List Carry)→(dZ cs).den→List (Own×Own)→Prop
 | _,[],_,m=>m=[]
 | rid,c::r,x,m=>∃ val m1 m2,m=m1++m2∧P c.p val∧CF1 fl own w rid c val x.1 m1∧CF fl own w P (rid+1) r x.2 m2
def CG1 (fl:Nat→Nat) (own:Nat→Option Own) (w:World) (rid:Nat) (c:Carry) (val:Value) (x:c.t.den):Prop:=
 match c with
 | ⟨_,t,.pv⟩=>bD (view fl w) t val x
 | ⟨_,.slice e,.own pub⟩=>fA fl own w val (.row rid) pub e x
 | ⟨_,.ptr e,.own pub⟩=>∃ h,kX val h∧fA fl own w h (.row rid) pub e x
 | ⟨_,_,.own _⟩=>False
 | ⟨_,.pair (.ptr e) (.int _),.deep⟩=>∃ h,kX val h∧dW fl own w h (.row rid) e x.1 (Int.toNat x.2) none
 | ⟨_,.pair (.slice e) (.int _),.deep⟩=>dW fl own w val (.row rid) e x.1 (Int.toNat x.2) none
 | ⟨_,_,.deep⟩=>False
def CG (fl:Nat→Nat) (own:Nat→Option Own) (w:World) (P:Place→Value→Prop):Nat→(cs:List Carry)→(dZ cs).den→Prop
 | _,[],_=>True
 | rid,c::r,x=>∃ val,P c.p val∧CG1 fl own w rid c val x.1∧CG fl own w P (rid+1) r x.2
section
variable {C:Ctx} {g:Gh} {S:Nat→SV} {H:HLoc→SV} {a:Act} {w:World}
theorem CF.change {fl:Nat→Nat} {own own':Nat→Option Own} {P P':Place→Value→Prop}:∀ {cs:List Carry} {rid:Nat} {x:(dZ cs).den} {m:List (Own×Own)},CF fl own w P rid cs x m→(∀ c∈cs,∀ v,P c.p v→P' c.p v)→
  (∀ p∈m,∀ b,own b=some p.1→own' b=some p.2)→CG fl own' w P' rid cs x:=by
 intro cs
 induction cs with
 | nil=>intro rid x m _ _ _;trivial
 | cons c r ih=>
  rintro rid x m ⟨val,m1,m2,rfl,h1,h2,h3⟩ hP ho
  refine⟨val,hP c (by simp) val h1,?_,ih h3 (fun c' hc=>hP c' (by simp [hc])) fun p hp=>ho p (by simp [hp])⟩
  obtain⟨pl,t,md⟩:=c
  cases md with
  | pv=>exact h2.2
  | own pub=>
   cases t with
   | slice e=>
    rcases h2 with ⟨h,_⟩ | ⟨r',rfl,h⟩
    ·exact .inl h
    ·exact h.relabel fun b hb=>ho (.row r',.row rid) (by simp) b hb
   | ptr e=>
    obtain⟨hh,hp,h2⟩:=h2
    refine⟨hh,hp,?_⟩
    rcases h2 with ⟨h,_⟩ | ⟨r',rfl,h⟩
    ·exact .inl h
    ·exact h.relabel fun b hb=>ho (.row r',.row rid) (by simp) b hb
   | _=>exact h2.elim
  | deep=>
   cases t with
   | pair A B=>
    cases A <;> cases B <;> first | exact h2.elim | exact h2.2 own' fun p hp=>ho p (by simp [hp]) | (obtain⟨_,hh,hp,h2⟩:=h2;exact⟨hh,hp,h2 own' fun p hp=>ho p (by simp [hp])⟩)
   | _=>exact h2.elim
theorem CF.mem {fl:Nat→Nat} {own:Nat→Option Own} {P:Place→Value→Prop}:∀ {cs:List Carry} {rid:Nat} {x:(dZ cs).den} {m:List (Own×Own)},CF fl own w P rid cs x m→∀ p∈m,∃ r k,p=(.row r,.row k):=by
 intro cs
 induction cs with
 | nil=>intro rid x m h p hp;rw [show m=[] from h] at hp;simp at hp
 | cons c r ih=>
  rintro rid x m ⟨val,m1,m2,rfl,h1,h2,h3⟩ p hp
  rcases List.mem_append.1 hp with hp | hp
  ·obtain⟨pl,t,md⟩:=c
   cases md with
   | pv=>rw [h2.1] at hp;simp at hp
   | own pub=>
    cases t with
    | slice e=>
     rcases h2 with ⟨_,rfl⟩ | ⟨r',rfl,_⟩
     ·simp at hp
     ·simp at hp;exact⟨_,_,hp⟩
    | ptr e=>
     obtain⟨_,_,h2⟩:=h2
     rcases h2 with ⟨_,rfl⟩ | ⟨r',rfl,_⟩
     ·simp at hp
     ·simp at hp;exact⟨_,_,hp⟩
    | _=>exact h2.elim
   | deep=>
    cases t with
    | pair A B=>
     cases A <;> cases B <;> first | exact h2.elim | (obtain⟨r,e⟩:=h2.1 p hp;exact⟨_,_,e⟩)
    | _=>exact h2.elim
  ·exact ih h3 p hp
theorem zdj (hs:SimG C g S H a w) {c:Carry} {v:SV} {val:Value} {x:c.t.den} {pubs:HW} {drops keeps:List HLoc} {fp fp':List HLoc} (h:(FX c v).run H fp=some ((x,pubs,drops,keeps),fp'))
  (hv:SR g (view g.fl w) v val) (hr:aH H v) (rid:Nat):aY H pubs∧∀ {hw:HW} {fl:Nat→Nat} {own:Nat→Option Own},(∀ y∈pubs,y∈hw)→aY H hw→(∀ l∈keeps,l ∉ ak hw)→SimG C { g with fl:=fl,own:=own } S (puts H hw) a w→(view g.fl w).le (view fl w)→
   ∃ m,drops=m.map (fun p=>cO p.1)∧CF1 fl own w rid c val x m:=by
 obtain⟨pl,t,md⟩:=c
 unfold FX at h
 cases md with
 | pv=>
  simp only at h
  obtain⟨⟨y,hw1⟩,fp1,k1,h⟩:=bind_some h
  obtain⟨e,_⟩:=ah h
  cases e
  obtain⟨p1,p2⟩:=lK hs k1 hv hr
  exact⟨p1,fun hsub hp hk hs' hle=>⟨[],rfl,rfl,p2 _ _ ((hs'.rowsRd hp).sub hsub) hle⟩⟩
 | own pub=>
  simp only at h
  split at h
  ·obtain⟨⟨y,hw1⟩,fp1,k1,h⟩:=bind_some h
   obtain⟨e,_⟩:=ah h
   cases e
   cases t <;> first | exact (ae k1).elim | skip
   obtain⟨e1,_⟩:=ah k1
   cases e1
   exact⟨trivial,fun _ _ _ _ _=>⟨[],rfl,.inl ⟨⟨hv,rfl⟩,rfl⟩⟩⟩
  ·rename_i r
   simp only [Rd.run] at h
   split at h
   ·rename_i p e l hrow
    cases hp:cond p pub true with
    | false=>rw [hp] at h;exact (ae h).elim
    | true=>
     rw [hp] at h
     obtain⟨y,fp1,k1,h⟩:=bind_some h
     obtain⟨k1,_⟩:=aP k1
     obtain⟨e1,_⟩:=ah h
     cases e1
     obtain⟨he,rfl⟩:=bM k1
     subst he
     refine⟨?_,fun {hw fl own} hsub hpb hk hs' hle=>⟨[(.row r,.row rid)],rfl,.inr ⟨r,rfl,?_⟩⟩⟩
     ·cases pub <;> cases p <;> first | trivial | exact⟨⟨r,false,e,l,rfl,rfl,.inl hrow⟩,trivial⟩
     ·have hval:val=g.hd r:=hv
      rw [hval]
      have hrow':puts H hw (.row r)=.row pub e l:=by
       cases pub with
       | true=>
        refine rO hpb ?_
        cases p with
        | true=>exact .inl hrow
        | false=>exact .inr (hsub _ (by simp))
       | false=>
        have hpf:p=false:=by cases p <;> simp_all
        rw [bJ (hk _ (by simp)),hrow,hpf]
      exact hs'.rows r pub e l hrow'
   ·exact (ae h).elim
  ·cases pub with
   | true=>exact (ae h).elim
   | false=>
    simp only [cond_false] at h
    cases t <;> first | exact (ae h).elim | skip
    obtain⟨e1,_⟩:=ah h
    cases e1
    exact⟨trivial,fun _ _ _ _ _=>⟨[],rfl,_,.inl ⟨hv,rfl⟩,.inl ⟨⟨rfl,rfl⟩,rfl⟩⟩⟩
  ·rename_i r
   simp only [Rd.run] at h
   split at h
   ·rename_i p e l hrow
    cases hp:cond p true pub with
    | true=>rw [hp] at h;exact (ae h).elim
    | false=>
     rw [hp] at h
     obtain⟨y,fp1,k1,h⟩:=bind_some (show ((Rd.ofO (aW (.ptr e) t l)).bind _).run H _=_ from h)
     obtain⟨k1,_⟩:=aP k1
     obtain⟨e1,_⟩:=ah h
     cases e1
     obtain⟨he,rfl⟩:=bM k1
     subst he
     have hpf:p=false:=by cases p <;> first | rfl | exact Bool.noConfusion hp
     subst hpf
     have hpf:pub=false:=hp
     subst hpf
     refine⟨trivial,fun {hw fl own} hsub hpb hk hs' hle=>⟨[(.row r,.row rid)],rfl,g.hd r,hv,.inr ⟨r,rfl,?_⟩⟩⟩
     have hrow':puts H hw (.row r)=.row false e l:=by rw [bJ (hk _ (by simp)),hrow]
     exact hs'.rows r false e l hrow'
   ·exact (ae h).elim
  ·exact (ae h).elim
 | deep=>
  simp only at h
  split at h
  ·
   cases t with
   | pair A B=>
    cases A <;> cases B <;> first | exact (ae h).elim | skip
    obtain⟨e1,_⟩:=ah h
    cases e1
    exact⟨trivial,fun _ _ _ _ _=>⟨[],rfl,fun p hp=>(by simp at hp),fun own' _=>⟨Nat.le_refl _,fun k x h=>(by cases h),.inl ⟨hv,rfl⟩⟩⟩⟩
   | _=>exact (ae h).elim
  ·
   cases t with
   | pair A B=>
    cases A <;> cases B <;> first | exact (ae h).elim | skip
    obtain⟨e1,_⟩:=ah h
    cases e1
    exact⟨trivial,fun _ _ _ _ _=>⟨[],rfl,fun p hp=>(by simp at hp),_,.inl ⟨hv,rfl⟩,fun own' _=>⟨Nat.le_refl _,fun k x h=>(by cases h),.inl ⟨rfl,rfl⟩⟩⟩⟩
   | _=>exact (ae h).elim
  ·rename_i r
   simp only [Rd.run] at h
   have hval:kX val (g.hd r):=hv
   split at h
   ·rename_i p e l hrow
    cases p with
    | true=>exact (ae h).elim
    | false=>
     simp only [cond_false] at h
     obtain⟨y,fp1,k1,h⟩:=bind_some h
     obtain⟨k1,_⟩:=aP k1
     obtain⟨e1,_⟩:=ah h
     cases e1
     obtain⟨he,rfl⟩:=bM k1
     subst he
     refine⟨trivial,fun {hw fl own} _ hpb hk hs' hle=>⟨[(.row r,.row rid)],rfl,fun p hp=>⟨r,by simpa using hp⟩,_,hval,fun own' ho=> ?_⟩⟩
     have hrow':puts H hw (.row r)=.row false e l:=by rw [bJ (hk _ (by simp)),hrow]
     exact fA.deep0 ((zen.1 (hs'.rows r false e l hrow')).relabel fun b hb=>ho (.row r,.row rid) (by simp) b hb)
   ·rename_i e l n hh hrow
    cases hh with
    | none=>
     simp only at h
     obtain⟨y,fp1,k1,h⟩:=bind_some h
     obtain⟨k1,_⟩:=aP k1
     obtain⟨e1,_⟩:=ah h
     cases e1
     obtain⟨he,rfl⟩:=bM k1
     subst he
     refine⟨trivial,fun {hw fl own} _ hpb hk hs' hle=>⟨[(.row r,.row rid)],rfl,fun p hp=>⟨r,by simpa using hp⟩,_,hval,fun own' ho=> ?_⟩⟩
     have hrow':puts H hw (.row r)=.deep e l n none:=by rw [bJ (hk _ (by simp)),hrow]
     exact (hs'.deeps r e l n none hrow').frame (IV.le.refl _) fun b hb=>⟨fun _ h=>h,ho (.row r,.row rid) (by simp) b hb,rfl⟩
    | some p=>
     obtain⟨i,q⟩:=p
     simp only [Rd.run] at h
     split at h
     ·rename_i pb u l' hq
      cases pb with
      | true=>exact (ae h).elim
      | false=>
       simp only [cond_false] at h
       obtain⟨x0,hi,h⟩:=bI h
       split at h
       ·rename_i f hf
        obtain⟨y,fp1,k1,h⟩:=bind_some h
        obtain⟨k1,_⟩:=aP k1
        obtain⟨he,rfl⟩:=bM k1
        cases he
        obtain⟨z,fp2,k2,h⟩:=bind_some h
        obtain⟨k2,_⟩:=aP k2
        obtain⟨y,fp3,k3,h⟩:=bind_some h
        obtain⟨k3,_⟩:=aP k3
        obtain⟨e1,_⟩:=ah h
        cases e1
        obtain⟨he,rfl⟩:=bM k3
        subst he
        have hqr:q≠r:=fun e=>by rw [e,hrow] at hq;cases hq
        refine⟨trivial,fun {hw fl own} _ hpb hk hs' hle=>⟨[(.row r,.row rid),(.row q,.row rid)],rfl,fun p hp=> ?_,_,hval,fun own' ho=> ?_⟩⟩
        ·simp at hp
         rcases hp with hp | hp
         ·exact⟨r,hp⟩
         ·exact⟨q,hp⟩
        ·have hrow':puts H hw (.row r)=.deep e l n (some (i,q)):=by rw [bJ (hk _ (by simp)),hrow]
         have hq':puts H hw (.row q)=.row false f.2 l':=by rw [bJ (hk _ (by simp)),hq]
         exact dW.fill hqr (hs'.deeps r e l n _ hrow') hi (off:=f.1) (u:=f.2) (by rw [hf]) (zen.1 (hs'.rows q false _ l' hq')) k2 (fun b hb=>ho (.row r,.row rid) (by simp) b hb) fun b hb=>ho (.row q,.row rid) (by simp) b hb
       ·exact (ae h).elim
     ·exact (ae h).elim
   ·exact (ae h).elim
  ·rename_i r
   simp only [Rd.run] at h
   have hval:val=g.hd r:=hv
   split at h
   ·rename_i p e l hrow
    cases p with
    | true=>exact (ae h).elim
    | false=>
     simp only [cond_false] at h
     obtain⟨y,fp1,k1,h⟩:=bind_some h
     obtain⟨k1,_⟩:=aP k1
     obtain⟨e1,_⟩:=ah h
     cases e1
     obtain⟨he,rfl⟩:=bM k1
     subst he
     refine⟨trivial,fun {hw fl own} _ hpb hk hs' hle=>⟨[(.row r,.row rid)],rfl,fun p hp=>⟨r,by simpa using hp⟩,fun own' ho=> ?_⟩⟩
     have hrow':puts H hw (.row r)=.row false e l:=by rw [bJ (hk _ (by simp)),hrow]
     rw [hval]
     exact fA.deep0 ((zen.1 (hs'.rows r false e l hrow')).relabel fun b hb=>ho (.row r,.row rid) (by simp) b hb)
   ·rename_i e l n hh hrow
    cases hh with
    | none=>
     simp only at h
     obtain⟨y,fp1,k1,h⟩:=bind_some h
     obtain⟨k1,_⟩:=aP k1
     obtain⟨e1,_⟩:=ah h
     cases e1
     obtain⟨he,rfl⟩:=bM k1
     subst he
     refine⟨trivial,fun {hw fl own} _ hpb hk hs' hle=>⟨[(.row r,.row rid)],rfl,fun p hp=>⟨r,by simpa using hp⟩,fun own' ho=> ?_⟩⟩
     have hrow':puts H hw (.row r)=.deep e l n none:=by rw [bJ (hk _ (by simp)),hrow]
     rw [hval]
     exact (hs'.deeps r e l n none hrow').frame (IV.le.refl _) fun b hb=>⟨fun _ h=>h,ho (.row r,.row rid) (by simp) b hb,rfl⟩
    | some p=>
     obtain⟨i,q⟩:=p
     simp only [Rd.run] at h
     split at h
     ·rename_i pb u l' hq
      cases pb with
      | true=>exact (ae h).elim
      | false=>
       simp only [cond_false] at h
       obtain⟨x0,hi,h⟩:=bI h
       split at h
       ·rename_i f hf
        obtain⟨y,fp1,k1,h⟩:=bind_some h
        obtain⟨k1,_⟩:=aP k1
        obtain⟨he,rfl⟩:=bM k1
        cases he
        obtain⟨z,fp2,k2,h⟩:=bind_some h
        obtain⟨k2,_⟩:=aP k2
        obtain⟨y,fp3,k3,h⟩:=bind_some h
        obtain⟨k3,_⟩:=aP k3
        obtain⟨e1,_⟩:=ah h
        cases e1
        obtain⟨he,rfl⟩:=bM k3
        subst he
        have hqr:q≠r:=fun e=>by rw [e,hrow] at hq;cases hq
        refine⟨trivial,fun {hw fl own} _ hpb hk hs' hle=>⟨[(.row r,.row rid),(.row q,.row rid)],rfl,fun p hp=> ?_,fun own' ho=> ?_⟩⟩
        ·simp at hp
         rcases hp with hp | hp
         ·exact⟨r,hp⟩
         ·exact⟨q,hp⟩
        ·have hrow':puts H hw (.row r)=.deep e l n (some (i,q)):=by rw [bJ (hk _ (by simp)),hrow]
         have hq':puts H hw (.row q)=.row false f.2 l':=by rw [bJ (hk _ (by simp)),hq]
         rw [hval]
         exact dW.fill hqr (hs'.deeps r e l n _ hrow') hi (off:=f.1) (u:=f.2) (by rw [hf]) (zen.1 (hs'.rows q false _ l' hq')) k2 (fun b hb=>ho (.row r,.row rid) (by simp) b hb) fun b hb=>ho (.row q,.row rid) (by simp) b hb
       ·exact (ae h).elim
     ·exact (ae h).elim
   ·exact (ae h).elim
  ·exact (ae h).elim
theorem zeL (hs:SimG C g S H a w) {p:Place} {s:St} (hS:s.S=S) {v:SV} {fp fp':List HLoc} (h:(EN s p).run H fp=some (v,fp')):∃ val,Has g.st H a w p val∧SR g (view g.fl w) v val∧aH H v:=by
 cases p with
 | slot n=>
  obtain⟨e,_⟩:=ah h
  cases e
  rw [hS]
  exact⟨_,rfl,hs.slots n,hs.refS n⟩
 | fld s' i=>
  simp only [EN,Rd.run] at h
  split at h
  ·rename_i t ht
   cases hb:cond t.agg (Nat.blt i (nfT t)) (Nat.beq i 0) with
   | false=>rw [hb] at h;exact (ae h).elim
   | true=>
    rw [hb] at h
    simp only [cond,Rd.run,Option.some.injEq,Prod.mk.injEq] at h
    obtain⟨rfl,_⟩:=h
    obtain⟨cs,h1,h2,h3,h4⟩:=hs.sites s' t ht
    refine⟨_,⟨t,cs,ht,h1,rfl⟩,?_,hs.refF s' i⟩
    unfold yY
    unfold dn at h4
    cases ha:t.agg with
    | true=>
     rw [ha] at h4 hb
     have hlt:i < nf t:=by rw [←EP];exact Nat.le_of_ble_eq_true hb
     obtain⟨A,hA⟩:=Zq hlt
     obtain⟨_,k2⟩:=zdx.1 h4
     have:=k2 i A hA
     simpa [hA] using this
    | false=>
     rw [ha] at h4 hb
     obtain⟨c,h5,h6,h7⟩:=h4
     have:i=0:=Nat.eq_of_beq_eq_true hb
     subst this
     simpa [h5] using h7
  ·exact (ae h).elim
theorem zd5 (hs:SimG C g S H a w) {s:St} (hS:s.S=S):∀ {cs:List Carry} {rid:Nat} {x:(dZ cs).den} {pubs:HW} {drops keeps:List HLoc} {fp fp':List HLoc},(coll s cs).run H fp=some ((x,pubs,drops,keeps),fp')→
  aY H pubs∧∀ {hw:HW} {fl:Nat→Nat} {own:Nat→Option Own},(∀ y∈pubs,y∈hw)→aY H hw→(∀ l∈keeps,l ∉ ak hw)→SimG C { g with fl:=fl,own:=own } S (puts H hw) a w→(view g.fl w).le (view fl w)→
   ∃ m,drops=m.map (fun p=>cO p.1)∧CF fl own w (Has g.st H a w) rid cs x m:=by
 intro cs
 induction cs with
 | nil=>
  intro rid x pubs drops keeps fp fp' h
  obtain⟨e,_⟩:=ah h
  cases e
  exact⟨trivial,fun _ _ _ _ _=>⟨[],rfl,rfl⟩⟩
 | cons c r ih=>
  intro rid x pubs drops keeps fp fp' h
  simp only [coll] at h
  obtain⟨v,fp1,k1,h⟩:=bind_some h
  obtain⟨⟨x1,p1,d1,q1⟩,fp2,k2,h⟩:=bind_some h
  obtain⟨⟨x2,p2,d2,q2⟩,fp3,k3,h⟩:=bind_some h
  obtain⟨e,_⟩:=ah h
  cases e
  obtain⟨val,v1,v2,v3⟩:=zeL hs hS k1
  obtain⟨c1,c2⟩:=zdj hs k2 v2 v3 rid
  obtain⟨i1,i2⟩:=ih (rid:=rid+1) k3
  refine⟨aY.append.2 ⟨c1,i1⟩,fun hsub hp hk hs' hle=> ?_⟩
  obtain⟨m1,e1,f1⟩:=c2 (fun y hy=>hsub y (List.mem_append_left _ hy)) hp (fun l hl=>hk l (List.mem_append_left _ hl)) hs' hle
  obtain⟨m2,e2,f2⟩:=i2 (fun y hy=>hsub y (List.mem_append_right _ hy)) hp (fun l hl=>hk l (List.mem_append_right _ hl)) hs' hle
  exact⟨m1++m2,by simp [e1,e2],val,m1,m2,rfl,v1,f1,f2⟩
theorem zcU:∀ {cs:List Carry} {rid:Nat} {x:(dZ cs).den} {g:Gh} {s:St},SimG C g s.S s.H a w→CG g.fl g.own w (Has g.st s.H a w) rid cs x→(∀ k,k < cs.length→s.H (.row (rid+k))=.bot)→
  ∃ g',SimG C g' (lU s rid cs x).S (lU s rid cs x).H a w:=by
 intro cs
 induction cs with
 | nil=>intro rid x g s hs _ _;exact⟨g,hs⟩
 | cons c r ih=>
  rintro rid x g s hs ⟨val,h1,h2,h3⟩ hf
  simp only [lU]
  have place:∀ {g:Gh} {s:St} {v:SV},SimG C g s.S s.H a w→Has g.st s.H a w c.p val→SR g (view g.fl w) v val→aH s.H v→v≠.bot→SimG C g (eX s c.p v).S (eX s c.p v).H a w:=by
   intro g s v hs hh hv hr hne
   cases hp:c.p with
   | slot n=>
    rw [hp] at hh
    exact hs.reslot (by rw [←show val=a.tmps.getD n undef from hh];exact hv) hr
   | fld s' i=>
    rw [hp] at hh
    obtain⟨t,cs,q1,q2,q3⟩:=hh
    refine hs.refld (fun t' ht' cs' hcs'=> ?_) hne hr
    rw [q1] at ht';cases ht'
    obtain rfl:=q2.uniq hcs'
    refine⟨fun A hA=> ?_,fun ha hi=> ?_⟩
    ·have hag:t.agg=true:=by cases t <;> first | rfl | (simp [cZ] at hA)
     rw [q3] at hv
     simpa [yY,hag,hA] using hv
    ·rw [q3] at hv
     simpa [yY,ha] using hv
  have Has_pl:∀ {s:St} {st:Nat→Nat} {p p':Place} {v:SV} {val:Value},Has st s.H a w p val→Has st (eX s p' v).H a w p val:=by
   intro s st p p' v val h
   cases p with
   | slot n=>exact h
   | fld s' i=>
    obtain⟨t,cs,q1,q2⟩:=h
    refine⟨t,cs,?_,q2⟩
    cases p' with
    | slot n=>exact q1
    | fld s'' j=>simp only [eX];rw [aA _ _ (by simp)];exact q1
  have row_pl:∀ {s:St} {p':Place} {v:SV} {k:Nat},(eX s p' v).H (.row k)=s.H (.row k):=by
   intro s p' v k
   cases p' with
   | slot n=>rfl
   | fld s'' j=>simp only [eX];rw [aA _ _ (by simp)]
  have CG_mono:∀ {fl:Nat→Nat} {own:Nat→Option Own} {P P':Place→Value→Prop},(∀ p v,P p v→P' p v)→∀ {cs:List Carry} {rid:Nat} {x:(dZ cs).den},CG fl own w P rid cs x→CG fl own w P' rid cs x:=by
   intro fl own P P' hP cs
   induction cs with
   | nil=>intro rid x h;trivial
   | cons c r ih=>rintro rid x ⟨v,a1,a2,a3⟩;exact⟨v,hP _ _ a1,a2,ih a3⟩
  obtain⟨pl,t,md⟩:=c
  cases md with
  | pv=>
   have:=place (v:=.pv t x.1) hs h1 h2 trivial SV.noConfusion
   refine ih this (CG_mono (fun p v h=>Has_pl h) h3) fun k hk=> ?_
   show (eX s pl _).H _=_
   rw [row_pl]
   have:=hf (k+1) (by simpa using hk)
   rwa [show rid+(k+1)=rid+1+k from by omega] at this
  | own pub=>
   cases t with
   | slice e=>
    have hbot:s.H (.row rid)=.bot:=hf 0 (by simp)
    have hA:GAgree s.H g { g with hd:=aB g.hd rid val }:=⟨fun _ _=>rfl,fun r' hr'=>aV _ _ fun e=>hr' (e▸hbot),fun _ _ _=>rfl,rfl⟩
    have hg:=hs.grow hA (IV.le.refl _) (fun _ _ _ h=>⟨rfl,h,rfl⟩) (fun _ _ _ h=>⟨rfl,h,rfl⟩) hs.own hs.old hs.ext
    have hrow:=hg.setRow (r:=rid) (pub:=pub) (e:=e) (l:=x.1) (zen.2 (by show fA g.fl g.own w (aB g.hd rid val rid) _ _ _ _;rw [bn];exact h2))
    have:=place (s:={ s with H:=aj s.H (.row rid) (.row pub e x.1) }) (v:=.hdr rid) hrow (by
      cases pl with
      | slot n=>exact h1
      | fld s' i=>
       obtain⟨t,cs,q1,q2⟩:=h1
       exact⟨t,cs,by dsimp only;rw [aA _ _ (by simp)];exact q1,q2⟩) (by simp [SR]) (by simp only [aH];rw [aK];exact SV.noConfusion) SV.noConfusion
    refine ih this (CG_mono (fun p v h=> ?_) h3) fun k hk=> ?_
    ·refine Has_pl ?_
     cases p with
     | slot n=>exact h
     | fld s' i=>
      obtain⟨t,cs,q1,q2⟩:=h
      exact⟨t,cs,by dsimp only;rw [aA _ _ (by simp)];exact q1,q2⟩
    ·show (eX _ pl _).H _=_
     rw [row_pl]
     dsimp only
     rw [aA _ _ (by simp;omega)]
     have:=hf (k+1) (by simpa using hk)
     rwa [show rid+(k+1)=rid+1+k from by omega] at this
   | ptr e=>
    obtain⟨hh,hph,h2⟩:=h2
    have hbot:s.H (.row rid)=.bot:=hf 0 (by simp)
    have hA:GAgree s.H g { g with hd:=aB g.hd rid hh }:=⟨fun _ _=>rfl,fun r' hr'=>aV _ _ fun e=>hr' (e▸hbot),fun _ _ _=>rfl,rfl⟩
    have hg:=hs.grow hA (IV.le.refl _) (fun _ _ _ h=>⟨rfl,h,rfl⟩) (fun _ _ _ h=>⟨rfl,h,rfl⟩) hs.own hs.old hs.ext
    have hrow:=hg.setRow (r:=rid) (pub:=pub) (e:=e) (l:=x.1) (zen.2 (by show fA g.fl g.own w (aB g.hd rid hh rid) _ _ _ _;rw [bn];exact h2))
    have:=place (s:={ s with H:=aj s.H (.row rid) (.row pub e x.1) }) (v:=.own rid) hrow (by
      cases pl with
      | slot n=>exact h1
      | fld s' i=>
       obtain⟨t,cs,q1,q2⟩:=h1
       exact⟨t,cs,by dsimp only;rw [aA _ _ (by simp)];exact q1,q2⟩) (by show kX val (aB g.hd rid hh rid);rw [bn];exact hph) (by simp only [aH];rw [aK];exact SV.noConfusion) SV.noConfusion
    refine ih this (CG_mono (fun p v h=> ?_) h3) fun k hk=> ?_
    ·refine Has_pl ?_
     cases p with
     | slot n=>exact h
     | fld s' i=>
      obtain⟨t,cs,q1,q2⟩:=h
      exact⟨t,cs,by dsimp only;rw [aA _ _ (by simp)];exact q1,q2⟩
    ·show (eX _ pl _).H _=_
     rw [row_pl]
     dsimp only
     rw [aA _ _ (by simp;omega)]
     have:=hf (k+1) (by simpa using hk)
     rwa [show rid+(k+1)=rid+1+k from by omega] at this
   | _=>exact h2.elim
  | deep=>
   have ht:(∃ e k,t=.pair (.slice e) (.int k))∨∃ e k,t=.pair (.ptr e) (.int k):=by
    cases t with
    | pair A B=>cases A <;> cases B <;> first | exact h2.elim | exact .inl ⟨_,_,rfl⟩ | exact .inr ⟨_,_,rfl⟩
    | _=>exact h2.elim
   rcases ht with ⟨e,k,rfl⟩ | ⟨e,k,rfl⟩
   ·have h2:dW g.fl g.own w val (.row rid) e x.1.1 (Int.toNat x.1.2) none:=h2
    have hbot:s.H (.row rid)=.bot:=hf 0 (by simp)
    have hA:GAgree s.H g { g with hd:=aB g.hd rid val }:=⟨fun _ _=>rfl,fun r' hr'=>aV _ _ fun e=>hr' (e▸hbot),fun _ _ _=>rfl,rfl⟩
    have hg:=hs.grow hA (IV.le.refl _) (fun _ _ _ h=>⟨rfl,h,rfl⟩) (fun _ _ _ h=>⟨rfl,h,rfl⟩) hs.own hs.old hs.ext
    have hrow:=hg.setDeep (r:=rid) (e:=e) (l:=x.1.1) (n:=Int.toNat x.1.2) (h:=none) (by show dW g.fl g.own w (aB g.hd rid val rid) _ _ _ _ _;rw [bn];exact h2) fun _ _ h=>by cases h
    have:=place (s:={ s with H:=aj s.H (.row rid) (.deep e x.1.1 (Int.toNat x.1.2) none) }) (v:=.hdr rid) hrow (by
      cases pl with
      | slot n=>exact h1
      | fld s' i=>
       obtain⟨t,cs,q1,q2⟩:=h1
       exact⟨t,cs,by dsimp only;rw [aA _ _ (by simp)];exact q1,q2⟩) (by simp [SR]) (by simp only [aH];rw [aK];exact SV.noConfusion) SV.noConfusion
    refine ih this (CG_mono (fun p v h=> ?_) h3) fun k hk=> ?_
    ·refine Has_pl ?_
     cases p with
     | slot n=>exact h
     | fld s' i=>
      obtain⟨t,cs,q1,q2⟩:=h
      exact⟨t,cs,by dsimp only;rw [aA _ _ (by simp)];exact q1,q2⟩
    ·show (eX _ pl _).H _=_
     rw [row_pl]
     dsimp only
     rw [aA _ _ (by simp;omega)]
     have:=hf (k+1) (by simpa using hk)
     rwa [show rid+(k+1)=rid+1+k from by omega] at this
   ·obtain⟨hh,hph,h2⟩:=h2
    have h2:dW g.fl g.own w hh (.row rid) e x.1.1 (Int.toNat x.1.2) none:=h2
    have hbot:s.H (.row rid)=.bot:=hf 0 (by simp)
    have hA:GAgree s.H g { g with hd:=aB g.hd rid hh }:=⟨fun _ _=>rfl,fun r' hr'=>aV _ _ fun e=>hr' (e▸hbot),fun _ _ _=>rfl,rfl⟩
    have hg:=hs.grow hA (IV.le.refl _) (fun _ _ _ h=>⟨rfl,h,rfl⟩) (fun _ _ _ h=>⟨rfl,h,rfl⟩) hs.own hs.old hs.ext
    have hrow:=hg.setDeep (r:=rid) (e:=e) (l:=x.1.1) (n:=Int.toNat x.1.2) (h:=none) (by show dW g.fl g.own w (aB g.hd rid hh rid) _ _ _ _ _;rw [bn];exact h2) fun _ _ h=>by cases h
    have:=place (s:={ s with H:=aj s.H (.row rid) (.deep e x.1.1 (Int.toNat x.1.2) none) }) (v:=.own rid) hrow (by
      cases pl with
      | slot n=>exact h1
      | fld s' i=>
       obtain⟨t,cs,q1,q2⟩:=h1
       exact⟨t,cs,by dsimp only;rw [aA _ _ (by simp)];exact q1,q2⟩) (by show kX val (aB g.hd rid hh rid);rw [bn];exact hph) (by simp only [aH];rw [aK];exact SV.noConfusion) SV.noConfusion
    refine ih this (CG_mono (fun p v h=> ?_) h3) fun k hk=> ?_
    ·refine Has_pl ?_
     cases p with
     | slot n=>exact h
     | fld s' i=>
      obtain⟨t,cs,q1,q2⟩:=h
      exact⟨t,cs,by dsimp only;rw [aA _ _ (by simp)];exact q1,q2⟩
    ·show (eX _ pl _).H _=_
     rw [row_pl]
     dsimp only
     rw [aA _ _ (by simp;omega)]
     have:=hf (k+1) (by simpa using hk)
     rwa [show rid+(k+1)=rid+1+k from by omega] at this
def xN (s:St):Prop:=(∀ n∈s.lkS,mY s.lkH (s.S n)=true)∧∀ l∈s.lkH,mY s.lkH (s.H l)=true
structure Keep (s s':St):Prop where
 lkS:s'.lkS=s.lkS
 lkH:s'.lkH=s.lkH
 S:∀ n∈s.lkS,s'.S n=s.S n
 H:∀ l∈s.lkH,s'.H l=s.H l
theorem Keep.refl (s:St):Keep s s:=⟨rfl,rfl,fun _ _=>rfl,fun _ _=>rfl⟩
theorem Keep.trans {s t u:St} (h:Keep s t) (h':Keep t u):Keep s u:=
 ⟨h'.lkS.trans h.lkS,h'.lkH.trans h.lkH,fun n hn=>(h'.S n (h.lkS▸hn)).trans (h.S n hn),fun l hl=>(h'.H l (h.lkH▸hl)).trans (h.H l hl)⟩
theorem xN.keep {s s':St} (h:xN s) (hk:Keep s s'):xN s':=
 ⟨fun n hn=>by rw [hk.lkS] at hn;rw [hk.lkH,hk.S n hn];exact h.1 n hn,fun l hl=>by rw [hk.lkH] at hl ⊢;rw [hk.H l hl];exact h.2 l hl⟩
theorem wC {ks:List HLoc} {d:Nat}:∀ {n:Nat},oU ks d n=true→∀ i,i < n→HLoc.comp d i∈ks
 | 0,_,i,hi=>by omega
 | n+1,h,i,hi=>by
  simp only [oU] at h
  obtain⟨h1,h2⟩:=aF h
  by_cases e:i=n
  ·subst e;exact KX.1 h1
  ·exact wC h2 i (by omega)
theorem MQ {ks:List HLoc} {d:Nat}:∀ {n:Nat},(∀ i,i < n→HLoc.comp d i∈ks)→oU ks d n=true
 | 0,_=>rfl
 | n+1,h=>by simp only [oU,KX.2 (h n (by omega)),cond];exact MQ fun i hi=>h i (by omega)
theorem IP {ks ks':List HLoc} (h:∀ l∈ks,l∈ks') {v:SV} (hv:mY ks v=true):mY ks' v=true:=by
 cases v <;> first | exact hv | (exact KX.2 (h _ (KX.1 hv))) | (exact MQ fun i hi=>h _ (wC hv i hi)) | skip
 rename_i e l n hh
 cases hh with
 | none=>rfl
 | some p=>obtain⟨i,q⟩:=p;exact KX.2 (h _ (KX.1 hv))
theorem IQ {S:Nat→SV} {ks:List HLoc}:∀ {l:List Nat},zn S ks l=true→∀ n∈l,mY ks (S n)=true
 | [],_,n,hn=>by simp at hn
 | m::r,h,n,hn=>by
  simp only [zn] at h
  obtain⟨h1,h2⟩:=aF h
  rcases List.mem_cons.1 hn with rfl | hn
  ·exact h1
  ·exact IQ h2 n hn
theorem IR {H:HLoc→SV} {ks:List HLoc}:∀ {l:List HLoc},zo H ks l=true→∀ n∈l,mY ks (H n)=true
 | [],_,n,hn=>by simp at hn
 | m::r,h,n,hn=>by
  simp only [zo] at h
  obtain⟨h1,h2⟩:=aF h
  rcases List.mem_cons.1 hn with rfl | hn
  ·exact h1
  ·exact IR h2 n hn
theorem xN.lock {s:St} (h:xN s) {rid:Nat} {σ:Shape} (hk:iJ s rid σ=true):xN (lock s σ):=by
 unfold iJ at hk
 obtain⟨h1,h2⟩:=aF hk
 obtain⟨h2,h3⟩:=aF h2
 refine⟨fun n hn=> ?_,fun l hl=> ?_⟩
 ·rcases List.mem_append.1 hn with hn | hn
  ·exact IQ h1 n hn
  ·exact IP (fun l hl=>List.mem_append_right _ hl) (h.1 n hn)
 ·rcases List.mem_append.1 hl with hl | hl
  ·exact IR h2 l hl
  ·exact IP (fun l hl=>List.mem_append_right _ hl) (h.2 l hl)
theorem zl {ks:List HLoc} {v:SV} (hk:mY ks v=true) (hr:aH H v):aH (gG H ks) v:=by
 have here:∀ {l},cu l ks=true→gG H ks l=H l:=fun h=>by simp [gG,h]
 cases v with
 | adr s o=>simp only [aH];rw [here hk];exact hr
 | hdr r=>simp only [aH];rw [here hk];exact hr
 | oel r i o z=>simp only [aH];rw [here hk];exact hr
 | sel s o z n j=>simp only [aH];rw [here hk];exact hr
 | tup d n=>
  have:n=0:=Nat.eq_of_beq_eq_true hk
  subst this
  intro i hi;omega
 | fn f d n=>
  intro i hi
  rw [here (KX.2 (wC hk i hi))]
  exact hr i hi
 | agg d t=>
  intro i hi
  rw [here (KX.2 (wC hk i (by rw [EP];exact hi)))]
  exact hr i hi
 | own r=>simp only [aH];rw [here hk];exact hr
 | cpy d i t=>simp only [aH];rw [here hk];exact hr
 | ref d j=>simp only [aH];rw [here hk];exact hr
 | vec d n=>
  intro i hi
  rw [here (KX.2 (wC hk i hi))]
  exact hr i hi
 | deep e l n hh=>
  intro i q hq
  subst hq
  rw [here hk]
  exact hr i q rfl
 | _=>trivial
theorem Dc {lkS:List Nat} {lkH:List HLoc}:∀ {cs:List Carry} {rid:Nat},qf lkS lkH rid cs=true→
  (∀ k,k < cs.length→HLoc.row (rid+k) ∉ lkH)∧∀ c∈cs,match c.p with | .slot n=>n ∉ lkS | .fld a i=>HLoc.fld a i ∉ lkH∧HLoc.site a∈lkH
 | [],_,_=>⟨fun k h=>by simp at h,fun c hc=>by simp at hc⟩
 | c::r,rid,h=>by
  simp only [qf] at h
  obtain⟨h1,h2⟩:=aF h
  obtain⟨k1,k2⟩:=Dc h2
  cases hb:cu (.row rid) lkH with
  | true=>rw [hb] at h1;exact Bool.noConfusion h1
  | false=>
   rw [hb] at h1
   refine⟨fun k hk hm=> ?_,fun c' hc'=> ?_⟩
   ·cases k with
    | zero=>rw [Nat.add_zero,←KX,hb] at hm;exact Bool.noConfusion hm
    | succ k=>exact k1 k (by simpa using hk) (by rwa [show rid+1+k=rid+(k+1) from by omega])
   ·rcases List.mem_cons.1 hc' with rfl | hc'
    ·split
     ·rename_i n hp
      rw [hp] at h1
      intro hm
      simp [zc4.2 hm] at h1
     ·rename_i s i hp
      rw [hp] at h1
      simp only [cond] at h1
      cases hf:cu (.fld s i) lkH with
      | true=>rw [hf] at h1;exact Bool.noConfusion h1
      | false=>
       rw [hf] at h1
       exact⟨fun hm=>by rw [KX.2 hm] at hf;exact Bool.noConfusion hf,KX.1 h1⟩
    ·exact k2 c' hc'
end
end Go.Sx
namespace Go.Sx
section
variable {P:Program} {C:Ctx} {g:Gh} {a:Act} {w:World}
theorem zef {s:St} {p:Place} {v:SV}:(eX s p v).lkS=s.lkS∧(eX s p v).lkH=s.lkH:=by cases p <;> exact⟨rfl,rfl⟩
theorem Zb {lkS:List Nat} {lkH:List HLoc}:∀ {cs:List Carry} {rid:Nat} {s:St} {x:(dZ cs).den},qf lkS lkH rid cs=true→
  (lU s rid cs x).lkS=s.lkS∧(lU s rid cs x).lkH=s.lkH∧(∀ n∈lkS,(lU s rid cs x).S n=s.S n)∧∀ l∈lkH,(lU s rid cs x).H l=s.H l:=by
 intro cs
 induction cs with
 | nil=>intro rid s x _;exact⟨rfl,rfl,fun _ _=>rfl,fun _ _=>rfl⟩
 | cons c r ih=>
  intro rid s x h
  obtain⟨h1,h2⟩:=Dc h
  have ht:qf lkS lkH (rid+1) r=true:=by simp only [qf] at h;exact (aF h).2
  simp only [lU]
  obtain⟨k1,k2,k3,k4⟩:=ih (s:=uq s rid c x.1) (x:=x.2) ht
  have hc:=h2 c (by simp)
  have hrid:=h1 0 (by simp)
  rw [Nat.add_zero] at hrid
  have pl:∀ (s:St) (v:SV),(eX s c.p v).lkS=s.lkS∧(eX s c.p v).lkH=s.lkH∧(∀ n∈lkS,(eX s c.p v).S n=s.S n)∧∀ l∈lkH,(eX s c.p v).H l=s.H l:=by
   intro s v
   refine⟨zef.1,zef.2,fun n hn=> ?_,fun l hl=> ?_⟩
   ·cases hp:c.p with
    | slot m=>
     rw [hp] at hc
     exact jc _ _ fun e=>hc (e▸hn)
    | fld s' i=>rfl
   ·cases hp:c.p with
    | slot m=>rfl
    | fld s' i=>
     rw [hp] at hc
     exact aA _ _ fun e=>hc.1 (e▸hl)
  have one:(uq s rid c x.1).lkS=s.lkS∧(uq s rid c x.1).lkH=s.lkH∧(∀ n∈lkS,(uq s rid c x.1).S n=s.S n)∧∀ l∈lkH,(uq s rid c x.1).H l=s.H l:=by
   obtain⟨p,t,md⟩:=c
   cases md with
   | pv=>exact pl s _
   | own pub=>
    cases t with
    | slice e=>
     obtain⟨a1,a2,a3,a4⟩:=pl { s with H:=aj s.H (.row rid) (.row pub e x.1) } (.hdr rid)
     refine⟨a1,a2,a3,fun l hl=>(a4 l hl).trans ?_⟩
     exact aA _ _ fun e=>hrid (e▸hl)
    | ptr e=>
     obtain⟨a1,a2,a3,a4⟩:=pl { s with H:=aj s.H (.row rid) (.row pub e x.1) } (.own rid)
     refine⟨a1,a2,a3,fun l hl=>(a4 l hl).trans ?_⟩
     exact aA _ _ fun e=>hrid (e▸hl)
    | _=>exact⟨rfl,rfl,fun _ _=>rfl,fun _ _=>rfl⟩
   | deep=>
    cases t with
    | pair A B=>
     cases A <;> cases B <;> first
      | exact⟨rfl,rfl,fun _ _=>rfl,fun _ _=>rfl⟩
      | (rename_i e _
         obtain⟨a1,a2,a3,a4⟩:=pl { s with H:=aj s.H (.row rid) (.deep e x.1.1 (Int.toNat x.1.2) none) } (.hdr rid)
         refine⟨a1,a2,a3,fun l hl=>(a4 l hl).trans ?_⟩
         exact aA _ _ fun e=>hrid (e▸hl))
      | (rename_i e _
         obtain⟨a1,a2,a3,a4⟩:=pl { s with H:=aj s.H (.row rid) (.deep e x.1.1 (Int.toNat x.1.2) none) } (.own rid)
         refine⟨a1,a2,a3,fun l hl=>(a4 l hl).trans ?_⟩
         exact aA _ _ fun e=>hrid (e▸hl))
    | _=>exact⟨rfl,rfl,fun _ _=>rfl,fun _ _=>rfl⟩
  exact⟨k1.trans one.1,k2.trans one.2.1,fun n hn=>(k3 n hn).trans (one.2.2.1 n hn),fun l hl=>(k4 l hl).trans (one.2.2.2 l hl)⟩
theorem Lj {S:Nat→SV} {ks:List Nat} {n:Nat} (h:n∈ks):jH S ks n=S n:=by simp [jH,zc4.2 h]
theorem rQ {H:HLoc→SV} {ks:List HLoc} {l:HLoc} (h:l∈ks):gG H ks l=H l:=by simp [gG,KX.2 h]
theorem vO {H:HLoc→SV} {ks:List HLoc} {l:HLoc} (h:l ∉ ks):gG H ks l=.bot:=by
 unfold gG
 cases hb:cu l ks with
 | true=>exact absurd (KX.1 hb) h
 | false=>rfl
theorem Ij {s:St} {rid:Nat} {σ:Shape} {x:(dZ σ.cs).den} (hk:iJ s rid σ=true):(restore s rid σ x).lkS=s.lkS∧(restore s rid σ x).lkH=s.lkH∧
  (∀ n∈σ.keepS++s.lkS,(restore s rid σ x).S n=s.S n)∧∀ l∈σ.keepH++s.lkH,(restore s rid σ x).H l=s.H l:=by
 unfold iJ at hk
 obtain⟨_,hk⟩:=aF hk
 obtain⟨_,hc⟩:=aF hk
 obtain⟨h1,h2,h3,h4⟩:=Zb (s:={ s with S:=jH s.S (σ.keepS++s.lkS),H:=gG s.H (σ.keepH++s.lkH) }) (x:=x) hc
 exact⟨h1,h2,fun n hn=>(h3 n hn).trans (Lj hn),fun l hl=>(h4 l hl).trans (rQ hl)⟩
theorem Keep.rest {s:St} {rid:Nat} {σ:Shape} {x:(dZ σ.cs).den} (hk:iJ s rid σ=true):Keep s (restore s rid σ x):=by
 obtain⟨h1,h2,h3,h4⟩:=Ij (x:=x) hk
 exact⟨h1,h2,fun n hn=>h3 n (List.mem_append_right _ hn),fun l hl=>h4 l (List.mem_append_right _ hl)⟩
theorem Keep.lock_restore {s:St} {rid:Nat} {σ:Shape} {x:(dZ σ.cs).den} (hk:iJ s rid σ=true):Keep (lock s σ) (lock (restore s rid σ x) σ):=by
 obtain⟨h1,h2,h3,h4⟩:=Ij (x:=x) hk
 exact⟨by simp only [lock,h1],by simp only [lock,h2],h3,h4⟩
theorem Keep.unlock {s s':St} {σ:Shape} (h:Keep (lock s σ) s'):Keep s { s' with lkS:=s.lkS,lkH:=s.lkH }:=
 ⟨rfl,rfl,fun n hn=>h.S n (List.mem_append_right _ hn),fun l hl=>h.H l (List.mem_append_right _ hl)⟩
structure LkC (C:Ctx) (s:St):Prop where
 lk:xN s
 pin:∀ d i v,C.pin d i=some v→HLoc.comp d i∈s.lkH
theorem LkC.keep {s s':St} (h:LkC C s) (hk:Keep s s'):LkC C s':=⟨h.lk.keep hk,fun d i v hp=>by rw [hk.lkH];exact h.pin d i v hp⟩
theorem LkC.lock {s:St} (h:LkC C s) {rid:Nat} {σ:Shape} (hk:iJ s rid σ=true):LkC C (lock s σ):=⟨h.lk.lock hk,fun d i v hp=>List.mem_append_right _ (h.pin d i v hp)⟩
theorem CB {nt:Nat×Nat} {s s':St} {rid:Nat} {σ:Shape} {x:(dZ σ.cs).den} (hk:iJ s rid σ=true) (hl:LkC C s) (hkeep:Keep (lock s σ) s') (hs:gK nt C s'.S s'.H a w) (hx:collect s' σ.cs=some x) :
  gK nt C (restore s rid σ x).S (restore s rid σ x).H a w:=by
 obtain⟨hn,g,hs⟩:=hs
 refine⟨hn,?_⟩
 unfold collect at hx
 rw [Rd.runC_eq] at hx
 obtain⟨⟨⟨x',pubs,drops,keeps⟩,fp⟩,h1,h2⟩:=Option.bind_eq_some_iff.1 hx
 simp only [force_eq] at h2
 cases hb:cond (cond (wW s'.lkH pubs) (gI drops s'.lkH) false) (cond (kN drops) (gI keeps (ak pubs)) false) false with
 | false=>rw [hb] at h2;simp at h2
 | true=>
  rw [hb] at h2
  simp only [cond,Option.some.injEq] at h2
  subst h2
  obtain⟨b1,b2⟩:=aF hb
  obtain⟨b1,b3⟩:=aF b1
  obtain⟨b2,b4⟩:=aF b2
  obtain⟨p1,p2⟩:=zd5 hs rfl (rid:=rid) h1
  obtain⟨fl,own,q1,q2⟩:=hs.pubs p1
  obtain⟨m,m1,m2⟩:=p2 (fun y hy=>hy) p1 (lJ b4) q1 q2
  have hkH:s'.lkH=σ.keepH++s.lkH:=hkeep.lkH
  have hkS:s'.lkS=σ.keepS++s.lkS:=hkeep.lkS
  have hll:=hl.lk.lock hk
  have hput:∀ l∈σ.keepH++s.lkH,puts s'.H pubs l=s.H l:=fun l hl=>by
   rw [bJ (Ll b1 l (hkH▸hl))]
   exact hkeep.H l hl
  have hSk:∀ n∈σ.keepS++s.lkS,s'.S n=s.S n:=fun n hn=>hkeep.S n hn
  have eS:jH s.S (σ.keepS++s.lkS)=jH s'.S (σ.keepS++s.lkS):=by
   funext n
   unfold jH
   cases hm:jv n (σ.keepS++s.lkS) with
   | true=>exact (hSk n (zc4.1 hm)).symm
   | false=>rfl
  have eH:gG s.H (σ.keepH++s.lkH)=gG (puts s'.H pubs) (σ.keepH++s.lkH):=by
   funext l
   unfold gG
   cases hm:cu l (σ.keepH++s.lkH) with
   | true=>exact (hput l (KX.1 hm)).symm
   | false=>rfl
  have hf:SimG C { g with fl:=fl,own:=own } (jH s.S (σ.keepS++s.lkS)) (gG s.H (σ.keepH++s.lkH)) a w:=by
   rw [eS,eH]
   refine q1.forget (fun n=> ?_) (fun l=> ?_) (fun n=> ?_) (fun d i=> ?_) (fun n i=> ?_) (fun r=> ?_) fun d i v hp=>by
    rw [rQ (List.mem_append_right _ (hl.pin d i v hp))]
    exact (q1.pin d i v hp).1
   ·unfold jH;cases jv n (σ.keepS++s.lkS) <;> simp
   ·unfold gG;cases cu l (σ.keepH++s.lkH) <;> simp
   ·by_cases hm:n∈σ.keepS++s.lkS
    ·rw [Lj hm]
     exact zl (by rw [hSk n hm];exact hll.1 n hm) (q1.refS n)
    ·have:jH s'.S (σ.keepS++s.lkS) n=.bot:=by
      unfold jH
      cases hb:jv n (σ.keepS++s.lkS) with
      | true=>exact absurd (zc4.1 hb) hm
      | false=>rfl
     rw [this];trivial
   ·by_cases hm:HLoc.comp d i∈σ.keepH++s.lkH
    ·rw [rQ hm]
     exact zl (by rw [hput _ hm];exact hll.2 _ hm) (q1.refC d i)
    ·rw [vO hm];trivial
   ·by_cases hm:HLoc.fld n i∈σ.keepH++s.lkH
    ·rw [rQ hm]
     exact zl (by rw [hput _ hm];exact hll.2 _ hm) (q1.refF n i)
    ·rw [vO hm];trivial
   ·by_cases hm:HLoc.row r∈σ.keepH++s.lkH
    ·rw [rQ hm]
     exact zl (by rw [hput _ hm];exact hll.2 _ hm) (q1.refR r)
    ·rw [vO hm];trivial
  have hdrop:∀ p∈m,cO p.1 ∉ σ.keepH++s.lkH:=fun p hp=>by
   have:cO p.1∈drops:=by rw [m1];exact List.mem_map.2 ⟨p,hp,rfl⟩
   rw [←hkH]
   exact lJ b3 _ this
  have hnd:(m.map fun p=>p.1).Nodup:=Dv (by rw [←m1];exact vN b2)
  let base:Own→Option Own:=fun o=>some o
  let own2:Nat→Option Own:=fun b=>(own b).bind (lookO m base)
  have hkeepL:∀ o,cO o∈σ.keepH++s.lkH→lookO m base o=some o:=fun o ho=>Jp fun p hp e=>hdrop p hp (e▸ho)
  have hmem:∀ l,gG s.H (σ.keepH++s.lkH) l≠.bot→l∈σ.keepH++s.lkH:=fun l hl=>Classical.byContradiction fun hm=>hl (vO hm)
  have hg:SimG C { g with fl:=fl,own:=own2 } (jH s.S (σ.keepS++s.lkS)) (gG s.H (σ.keepH++s.lkH)) a w:=by
   refine hf.grow (GAgree.same rfl rfl rfl) (IV.le.refl _) (fun n t hn ho=>⟨rfl,?_,rfl⟩) (fun r b hr ho=>⟨rfl,?_,rfl⟩) (fun b hb=>hf.own b fun e=>hb (by
    have e:own b=none:=e
    simp [own2,e])) hf.old hf.ext
   ·have ho:own (g.st n)=some (.site n):=ho
    simp only [own2,ho,Option.bind_some]
    exact hkeepL (.site n) (hmem (.site n) (by rw [hn];exact SV.noConfusion))
   ·have ho:own b=some (.row r):=ho
    simp only [own2,ho,Option.bind_some]
    exact hkeepL (.row r) (hmem (.row r) (by rcases hr with ⟨p,e,l,hr⟩ | ⟨e,l,n,h,hr⟩ <;> rw [hr] <;> exact SV.noConfusion))
  have hkk:=hk
  unfold iJ at hkk
  obtain⟨_,hkk⟩:=aF hkk
  obtain⟨_,hc⟩:=aF hkk
  obtain⟨c1,c2⟩:=Dc hc
  have hCG:CG fl own2 w (Has g.st (gG s.H (σ.keepH++s.lkH)) a w) rid σ.cs x':=by
   refine m2.change (fun c hcm v hv=> ?_) fun p hp b hb=> ?_
   ·have:=c2 c hcm
    cases hpl:c.p with
    | slot n=>rw [hpl] at hv;exact hv
    | fld s'' i=>
     rw [hpl] at hv this
     obtain⟨t,cs,e1,e2⟩:=hv
     refine⟨t,cs,?_,e2⟩
     rw [rQ this.2]
     exact (hkeep.H _ this.2).symm.trans e1
   ·simp only [own2,hb,Option.bind_some]
    exact yX hnd p hp
  obtain⟨g',hfin⟩:=zcU (g:={ g with fl:=fl,own:=own2 }) (s:={ s with S:=jH s.S (σ.keepS++s.lkS),H:=gG s.H (σ.keepH++s.lkH) }) hg hCG fun k hk'=>vO (c1 k hk')
  exact⟨g',hfin⟩
def wQ (P:Program) (E:Env) (c:Code):Prop:=
 ∀ {C:Ctx} {R:Type} {s:St} {k:Exit→St→Option R} {r:R} {a:Act} {w:World} {Q:Exit→Act→World→Prop},dL E c s k=some r→gK (E.nt,E.lo) C s.S s.H a w→LkC C s→
  (∀ e a' w' s',gK (E.nt,E.lo) C s'.S s'.H a' w'→Keep s s'→k e s'=some r→Q e a' w')→c.wp P Q a w
theorem zbZ {E:Env} {x y:Code} (hx:wQ P E x) (hy:wQ P E y) {R:Type} {s:St} {k:Exit→St→Option R} {r:R} {Q:Exit→Act→World→Prop} {σ:Shape} {rid:Nat}
  (h:cond (iJ s rid σ) (Option.bind (dL E x (R:=(dZ σ.cs).den⊕R) (lock s σ) fun e s'=>match e with
    | .normal=>Option.map Sum.inl (collect s' σ.cs)
    | e=>Option.map Sum.inr (k e { s' with lkS:=s.lkS,lkH:=s.lkH }))
    fun o=>Sum.elim (fun x=>dL E y (restore s rid σ x) k) some o) none=some r) (hs:gK (E.nt,E.lo) C s.S s.H a w) (hl:LkC C s)
  (hq:∀ e a' w' s',gK (E.nt,E.lo) C s'.S s'.H a' w'→Keep s s'→k e s'=some r→Q e a' w'):(Code.seq x y).wp P Q a w:=by
 cases hk:iJ s rid σ with
 | false=>rw [hk] at h;simp at h
 | true=>
  rw [hk] at h
  obtain⟨o,h1,h2⟩:=Option.bind_eq_some_iff.1 (show Option.bind _ _=_ from h)
  refine wp_seq (hx h1 hs (hl.lock hk) fun e a' w' s' hs' hkeep he=> ?_)
  have other:(∀ z,o=Sum.inl z→False)→(∃ z,o=Sum.inr z∧k e { s' with lkS:=s.lkS,lkH:=s.lkH }=some z)→Q e a' w':=by
   rintro _ ⟨z,rfl,hz⟩
   obtain rfl:z=r:=Option.some.inj h2
   exact hq e a' w' { s' with lkS:=s.lkS,lkH:=s.lkH } hs' hkeep.unlock hz
  cases e with
  | normal=>
   obtain⟨x',h3,rfl⟩:=Option.map_eq_some_iff.1 he
   exact hy h2 (CB hk hl hkeep hs' h3) (hl.keep (Keep.rest hk)) fun e a'' w'' s'' h4 h5 h6=>hq e a'' w'' s'' h4 ((Keep.rest hk).trans h5) h6
  | _=>
   obtain⟨z,h3,rfl⟩:=Option.map_eq_some_iff.1 he
   exact other (fun _ e=>by cases e) ⟨z,rfl,h3⟩
theorem zdU {E:Env} {body:Code} (hb:wQ P E body) {R:Type} {s:St} {k:Exit→St→Option R} {r:R} {Q:Exit→Act→World→Prop} {σ:Shape} {rid:Nat}
  (hk:iJ s rid σ=true) (hl:LkC C s) (hq:∀ e a' w' s',gK (E.nt,E.lo) C s'.S s'.H a' w'→Keep s s'→k e s'=some r→Q e a' w') {n:Nat} {x:(dZ σ.cs).den}
  (h:iter (fun x=>dL E body (R:=(dZ σ.cs).den⊕R) (lock (restore s rid σ x) σ) fun e s'=>match e with
     | .normal=>Option.map Sum.inl (collect s' σ.cs)
     | e=>Option.map Sum.inr (k e { s' with lkS:=s.lkS,lkH:=s.lkH })) n x=some r)
  (hs:gK (E.nt,E.lo) C (restore s rid σ x).S (restore s rid σ x).H a w):(Code.loop body).wp P Q a w:=by
 generalize hst:(fun x=>dL E body (R:=(dZ σ.cs).den⊕R) (lock (restore s rid σ x) σ) fun e s'=>match e with
     | .normal=>Option.map Sum.inl (collect s' σ.cs)
     | e=>Option.map Sum.inr (k e { s' with lkS:=s.lkS,lkH:=s.lkH }))=step at h
 let I:Nat→Act→World→Prop:=fun n a w=>∃ x,iter step n x=some r∧gK (E.nt,E.lo) C (restore s rid σ x).S (restore s rid σ x).H a w
 refine wp_loop_ghost I n ⟨x,h,hs⟩ fun n a w ⟨x,h1,h2⟩=> ?_
 cases n with
 | zero=>simp [iter] at h1
 | succ m=>
  simp only [iter] at h1
  obtain⟨o,h3,h4⟩:=Option.bind_eq_some_iff.1 h1
  rw [←hst] at h3
  refine hb h3 h2 ((hl.lock hk).keep (Keep.lock_restore hk)) fun e a' w' s' hs' hkeep he=> ?_
  have hkeep':Keep (lock s σ) s':=(Keep.lock_restore hk).trans hkeep
  cases e with
  | normal=>
   obtain⟨x',h5,rfl⟩:=Option.map_eq_some_iff.1 he
   exact⟨m,Nat.lt_succ_self m,x',h4,CB hk hl hkeep' hs' h5⟩
  | _=>
   obtain⟨z,h5,rfl⟩:=Option.map_eq_some_iff.1 he
   obtain rfl:z=r:=Option.some.inj h4
   exact hq _ a' w' { s' with lkS:=s.lkS,lkH:=s.lkH } hs' hkeep'.unlock h5
theorem ZG {E:Env} {body:Code} (hb:wQ P E body) {R:Type} {s:St} {k:Exit→St→Option R} {r:R} {Q:Exit→Act→World→Prop} {b0:Nat} (hl:LkC C s)
  (hq:∀ e a' w' s',gK (E.nt,E.lo) C s'.S s'.H a' w'→Keep s s'→k e s'=some r→Q e a' w') {n:Nat} (h:sH (fun s k=>dL E body s k) b0 n s k=some r) (hs:gK (E.nt,E.lo) C s.S s.H a w):(Code.loop body).wp P Q a w:=by
 let I:Nat→Act→World→Prop:=fun n a w=>∃ s1,sH (fun s k=>dL E body s k) b0 n s1 k=some r∧gK (E.nt,E.lo) C s1.S s1.H a w∧Keep s s1
 refine wp_loop_ghost I n ⟨s,h,hs,Keep.refl s⟩ fun n a w ⟨s1,h1,h2,h3⟩=> ?_
 cases n with
 | zero=>simp [sH] at h1
 | succ m=>
  simp only [sH] at h1
  have hk1:Keep s { s1 with base:=b0*64+(m+1)*10000000000000000 }:=⟨h3.lkS,h3.lkH,h3.S,h3.H⟩
  refine hb h1 h2 (hl.keep hk1) fun e a' w' s' hs' hkeep he=> ?_
  have hkeep':=hk1.trans hkeep
  cases e with
  | normal=>exact⟨m,Nat.lt_succ_self m,s',he,hs',hkeep'⟩
  | _=>exact hq _ a' w' { s' with base:=b0 } hs' ⟨hkeep'.lkS,hkeep'.lkH,hkeep'.S,hkeep'.H⟩ he
theorem both_ok {R:Type} {x y:Option R} {r:R} (h:both x y=some r):x=some r∧y=some r:=by
 unfold both at h
 split at h
 ·rename_i e;exact⟨h,e▸h⟩
 ·simp at h
theorem zds {E:Env} (hTab:TabOk P E.tab) (hΓ:qp P E.tab E.Γ) (hm:P.follows .mixedOrders=true) (c:Code):wQ P E c:=by
 induction c with
 | skip=>intro C R s k r a w Q h hs _ hq;exact wp_skip (hq _ _ _ s hs (Keep.refl s) (by simpa [dL] using h))
 | region id ops draw=>
  intro C R s k r a w Q h hs _ hq
  rw [dL] at h
  exact ZB hTab hΓ hm h hs fun a' w' S' H' h1 h2 h3 h4=>hq .normal a' w' { s with S:=S',H:=H' } h1 ⟨rfl,rfl,h2,h3⟩ h4
 | seq x y hx hy=>
  intro C R s k r a w Q h hs hl hq
  rw [dL] at h
  split at h
  ·refine wp_seq (hx h hs hl fun e a' w' s' hs' hkeep he=> ?_)
   cases e with
   | normal=>exact hy he hs' (hl.keep hkeep) fun e a'' w'' s'' h4 h5 h6=>hq e a'' w'' s'' h4 (hkeep.trans h5) h6
   | _=>exact hq _ a' w' s' hs' hkeep he
  ·exact zbZ hx hy h hs hl hq
 | cond o x y hx hy=>
  intro C R s k r a w Q h hs hl hq
  rw [dL] at h
  split at h
  ·rename_i b hb
   have hv:=hs.2.elim fun g hg=>mP (hb▸(hg.ev o).1)
   refine wp_cond hv ?_
   cases b with
   | true=>exact hx h hs hl hq
   | false=>exact hy h hs hl hq
  ·rename_i hb
   have hv:∃ b,a.eval o=.bool b:=hs.2.elim fun g hg=>by have:=(hg.ev o).1;rw [hb] at this;exact this
   obtain⟨b,hv⟩:=hv
   obtain⟨h1,h2⟩:=both_ok h
   refine wp_cond hv ?_
   cases b with
   | true=>exact hx h1 hs hl hq
   | false=>exact hy h2 hs hl hq
  ·simp at h
 | block id body hb=>
  intro C R s k r a w Q h hs hl hq
  rw [dL] at h
  refine wp_block (hb h hs hl fun e a' w' s' hs' hkeep he=> ?_)
  cases e with
  | exit j=>
   simp only [Exit.inBlock]
   cases hj:Nat.beq j id with
   | true=>
    simp only [hj,_root_.cond] at he
    rw [if_pos (Nat.eq_of_beq_eq_true hj)]
    exact hq .normal a' w' s' hs' hkeep he
   | false=>
    simp only [hj,_root_.cond] at he
    rw [if_neg (fun e=>by subst e;simp at hj)]
    exact hq (.exit j) a' w' s' hs' hkeep he
  | _=>exact hq _ a' w' s' hs' hkeep he
 | loop body hb=>
  intro C R s k r a w Q h hs hl hq
  rw [dL] at h
  split at h
  ·exact ZG hb hl hq h hs
  split at h
  ·simp at h
  ·rename_i lh hlh
   cases hk:iJ s (50000000+jE body*1000+s.base) lh.σ with
   | false=>rw [hk] at h;simp at h
   | true=>
    rw [hk] at h
    simp only [_root_.cond] at h
    obtain⟨y0,_,h⟩:=Option.bind_eq_some_iff.1 h
    obtain⟨x0,h2,h⟩:=Option.bind_eq_some_iff.1 h
    exact zdU hb hk hl hq h (CB hk hl (Keep.refl _) (s':=lock s lh.σ) hs h2)
 | exit id=>intro C R s k r a w Q h hs _ hq;exact wp_exit (hq _ _ _ s hs (Keep.refl s) (by simpa [dL] using h))
 | ret=>intro C R s k r a w Q h hs _ hq;exact wp_ret (hq _ _ _ s hs (Keep.refl s) (by simpa [dL] using h))
 | _=>intro C R s k r a w Q h;simp [dL] at h
end
end Go.Sx
namespace Go.Sx
section
variable (T:Own→Own→Prop) (fl:Nat→Nat) (own:Nat→Option Own) (w:World)
def jR (v:Value) (t:Own) (pub:Bool) (e:Ty) (l:List e.den):Prop:=
 (v=.slice none 0 0∧l=[])∨∃ o,T o t∧fA fl own w v o pub e l
def ul (v:Value) (t:Own) (e:Ty) (l:List e.den):Prop:=
 (v=.slice none 0 0∧l=[])∨∃ o,T o t∧dW fl own w v o e l l.length none
def jl (v:Value) (t:Own) (pb dp:Bool) (e:Ty) (l:List e.den):Prop:=cond (dpF dp e) (ul T fl own w v t e l) (jR T fl own w v t pb e l)
def Hq (t:Own) (pb dp:Bool):Bool→(a:Ty)→List Value→a.den→Prop
 | true,.slice e,c,x=>∃ v,c=[v]∧jl T fl own w v t pb dp e x
 | true,.ptr e,c,x=>∃ v h,c=[v]∧kX v h∧jl T fl own w h t pb dp e x
 | true,_,_,_=>False
 | false,a,c,x=>aJ (view fl w) a c x
def iM (rid:Nat):List Bool→(t:Ty)→List Value→t.den→Nat→Prop
 | os,.pair a b,cs,x,i=>∃ c1 c2,cs=c1++c2∧Hq T fl own w (.row (rid+i)) (pbO os (aI b+1)) (dpO os (aI b+1)) (hdB os) a c1 x.1∧iM rid (tlB os) b c2 x.2 (i+1)
 | _,.unit,cs,_,_=>cs=[]
 | _,_,_,_,_=>False
def mF (t:Own) (rid:Nat) (os:List Bool) (ty:Ty) (v:Value) (x:(lay ty).den):Prop:=
 ∃ b cs o,T o t∧v=.pointer (some ⟨b,0,none⟩)∧Blk w b cs∧own b=some o∧fl b=0∧iM T fl own w rid os (lay ty) cs x 0
def qX (t:Own) (v p:Value):Prop:=∃ b o,T o t∧v=.pointer (some ⟨b,0,none⟩)∧Blk w b [p]∧own b=some o∧fl b=0
def gW:Nat→(ps:List PS)→List Value→(bz ps).den→Prop
 | _,[],vs,_=>vs=[]
 | i,.pure t::r,v::vs,x=>bD (view fl w) t v x.1∧gW (i+1) r vs x.2
 | i,.lent t::r,v::vs,x=>bD (lvU fl (fun b=>∃ o t',own b=some o∧T o t') w) t v x.1∧gW (i+1) r vs x.2
 | i,.rptr t::r,v::vs,x=>(∃ b o cs,v=.pointer (some ⟨b,o,none⟩)∧aJ (view fl w) t cs x.1∧seg (lvU fl (fun b=>∃ o t',own b=some o∧T o t') w) b o cs)∧gW (i+1) r vs x.2
 | i,.obj t os::r,v::vs,x=>mF T fl own w (.site i) (i*20) os t v x.1∧gW (i+1) r vs x.2
 | i,.agg t os::r,v::vs,x=>(∃ cs,v=.agg cs.toArray∧iM T fl own w (i*20) os t cs x.1 0)∧gW (i+1) r vs x.2
 | i,.nilp::r,v::vs,x=>v=.pointer none∧gW (i+1) r vs x
 | i,.fnc f n::r,v::vs,x=>(v=.func (.func f) #[] (vs.take n).toArray∧n≤vs.length)∧gW (i+1) r vs x
 | i,.box::r,v::vs,x=>(∃ p rest,vs=p::rest∧qX T fl own w (.site i) v p)∧gW (i+1) r vs x
 | i,.row e::r,v::vs,x=>jR T fl own w v (.row (i*20)) false e x.1∧gW (i+1) r vs x.2
 | _,_,_,_=>False
def o6 (base:Nat):(r:RS)→Value→r.ty.den→Prop
 | .pure t,v,x=>bD (view fl w) t v x
 | .own pub e,v,l=>jR T fl own w v (.row base) pub e l
 | .newobj t os,v,x=>mF T fl own w (.site base) (base+1) os t v x
 | .deep e,v,l=>ul T fl own w v (.row base) e l
 | .agg t os,v,x=>∃ cs,v=.agg cs.toArray∧iM T fl own w base os t cs x 0
 | .maybe t os,v,x=>(x.1=false∧v=.pointer none)∨(x.1=true∧mF T fl own w (.site base) (base+1) os t v x.2)
def kW:Nat→(rs:List RS)→(ps:List PS)→List Value→(fO rs ps).den→((dw ps).den→Prop)→Prop
 | _,[],_,vs,x,k=>vs=[]∧k x
 | i,r::rs,ps,v::vs,x,k=>o6 T fl own w (1+20*i) r v x.1∧kW (i+1) rs ps vs x.2 k
 | _,_,_,_,_,_=>False
def fQ:Nat→(ps:List PS)→List Value→(dw ps).den→Prop
 | _,[],_,_=>True
 | j,.obj t os::r,v::vs,x=>mF T fl own w (.site (81+20*j)) (80+20*j) os t v x.1∧fQ (j+1) r vs x.2
 | j,.pure _::r,_::vs,x=>fQ j r vs x
 | j,.lent _::r,_::vs,x=>fQ j r vs x
 | j,.rptr _::r,_::vs,x=>fQ j r vs x
 | j,.agg _ _::r,_::vs,x=>fQ j r vs x
 | j,.nilp::r,_::vs,x=>fQ j r vs x
 | j,.fnc _ _::r,_::vs,x=>fQ j r vs x
 | j,.box::r,v::vs,x=>(∃ p rest,vs=p::rest∧qX T fl own w (.site (81+20*j)) v p)∧fQ (j+1) r vs x
 | j,.row e::r,v::vs,x=>jR T fl own w v (.site (81+20*j)) false e x.1∧fQ (j+1) r vs x.2
 | _,_,_,_=>False
end
section
variable {T T':Own→Own→Prop} {fl fl':Nat→Nat} {own own':Nat→Option Own} {w:World}
structure Relab (T T':Own→Own→Prop) (fl fl':Nat→Nat) (own own':Nat→Option Own) (w:World):Prop where
 le:(view fl w).le (view fl' w)
 lab:∀ o t,T o t→∃ o',T' o' t∧∀ b,own b=some o→own' b=some o'∧fl' b=fl b
theorem Relab.same (h:∀ o t,T o t→∃ o',T' o' t∧∀ b,own b=some o→own' b=some o'):Relab T T' fl fl own own' w:=
 ⟨IV.le.refl _,fun o t ht=>let ⟨o',h1,h2⟩:=h o t ht;⟨o',h1,fun b hb=>⟨h2 b hb,rfl⟩⟩⟩
theorem fA.relabel' {v:Value} {o o':Own} {pub:Bool} {e:Ty} {l:List e.den} (h:fA fl own w v o pub e l) (hle:(view fl w).le (view fl' w)) (ho:∀ b,own b=some o→own' b=some o'∧fl' b=fl b):fA fl' own' w v o' pub e l:=by
 rcases h with h | ⟨b,cap,cs,h1,h2,h3,h4,h5,h6,h7⟩
 ·exact .inl h
 ·exact .inr ⟨b,cap,cs,h1,h2,h3,h4,(ho b h5).1,(ho b h5).2.trans h6,h7.mono hle⟩
theorem jR.relab (h:Relab T T' fl fl' own own' w) {v:Value} {t:Own} {pub:Bool} {e:Ty} {l:List e.den} (hr:jR T fl own w v t pub e l):jR T' fl' own' w v t pub e l:=by
 rcases hr with hr | ⟨o,h1,h2⟩
 ·exact .inl hr
 ·obtain⟨o',h3,h4⟩:=h.lab o t h1
  exact .inr ⟨o',h3,h2.relabel' h.le h4⟩
theorem ul.relab (h:Relab T T' fl fl' own own' w) {v:Value} {t:Own} {e:Ty} {l:List e.den} (hr:ul T fl own w v t e l):ul T' fl' own' w v t e l:=by
 rcases hr with hr | ⟨o,h1,h2⟩
 ·exact .inl hr
 ·obtain⟨o',h3,h4⟩:=h.lab o t h1
  exact .inr ⟨o',h3,h2.frame h.le fun b hb=>⟨fun _ h=>h,(h4 b hb).1,(h4 b hb).2⟩⟩
theorem jl.relab (h:Relab T T' fl fl' own own' w) {v:Value} {t:Own} {pb dp:Bool} {e:Ty} {l:List e.den} (hr:jl T fl own w v t pb dp e l):jl T' fl' own' w v t pb dp e l:=by
 unfold jl at hr ⊢
 cases hd:dpF dp e with
 | true=>rw [hd] at hr;exact ul.relab h hr
 | false=>rw [hd] at hr;exact jR.relab h hr
theorem jl.nil {v:Value} {t:Own} {pb dp:Bool} {e:Ty} {l:List e.den} (h:v=.slice none 0 0∧l=[]):jl T fl own w v t pb dp e l:=by
 unfold jl
 cases hd:dpF dp e with
 | true=>exact .inl h
 | false=>exact .inl h
theorem jl.row {v:Value} {t:Own} {pb dp:Bool} {e:Ty} {l:List e.den} (hd:dpF dp e=false) (h:jR T fl own w v t pb e l):jl T fl own w v t pb dp e l:=by
 unfold jl;rw [hd];exact h
theorem jl.deep {v:Value} {t:Own} {pb dp:Bool} {e:Ty} {l:List e.den} (hd:dpF dp e=true) (h:ul T fl own w v t e l):jl T fl own w v t pb dp e l:=by
 unfold jl;rw [hd];exact h
theorem Nv {e:Ty}:∀ {os:List Bool} {n:Nat},pbO os n=true→dpF (dpO os n) e=false
 | [],_,_=>rfl
 | b::r,0,h=>by cases b <;> first | rfl | exact Bool.noConfusion h
 | _::r,n+1,h=>Nv (os:=r) (n:=n) h
theorem Hq.relab (h:Relab T T' fl fl' own own' w) {t:Own} {pb dp o:Bool} {a:Ty} {c:List Value} {x:a.den} (hr:Hq T fl own w t pb dp o a c x):Hq T' fl' own' w t pb dp o a c x:=by
 cases o with
 | false=>cases a <;> exact aJ.mono h.le hr
 | true=>
  cases a <;> first | exact hr.elim | skip
  ·obtain⟨v,h1,h2⟩:=hr
   exact⟨v,h1,h2.relab h⟩
  ·obtain⟨v,hh,h1,h2,h3⟩:=hr
   exact⟨v,hh,h1,h2,h3.relab h⟩
theorem iM.relab (h:Relab T T' fl fl' own own' w) {rid:Nat}:∀ {t:Ty} {os:List Bool} {cs:List Value} {x:t.den} {i:Nat},iM T fl own w rid os t cs x i→iM T' fl' own' w rid os t cs x i:=by
 intro t
 induction t with
 | pair A B _ hB=>rintro os cs x i ⟨c1,c2,h1,h2,h3⟩;exact⟨c1,c2,h1,h2.relab h,hB h3⟩
 | unit=>intro os cs x i h;exact h
 | _=>intro os cs x i h;exact h.elim
theorem mF.relab (h:Relab T T' fl fl' own own' w) {t:Own} {rid:Nat} {os:List Bool} {ty:Ty} {v:Value} {x:(lay ty).den} (hr:mF T fl own w t rid os ty v x):mF T' fl' own' w t rid os ty v x:=by
 obtain⟨b,cs,o,h1,h2,h3,h4,h5,h7⟩:=hr
 obtain⟨o',h8,h9⟩:=h.lab o t h1
 exact⟨b,cs,o',h8,h2,h3,(h9 b h4).1,(h9 b h4).2.trans h5,h7.relab h⟩
theorem qX.relab (h:Relab T T' fl fl' own own' w) {t:Own} {v p:Value} (hr:qX T fl own w t v p):qX T' fl' own' w t v p:=by
 obtain⟨b,o,h1,h2,h3,h4,h5⟩:=hr
 obtain⟨o',h8,h9⟩:=h.lab o t h1
 exact⟨b,o',h8,h2,h3,(h9 b h4).1,(h9 b h4).2.trans h5⟩
theorem Eb {M:Nat→Prop}:(view fl w).le (lvU fl M w):=fun b o v h=>by
 unfold lvU
 split
 ·exact h
 ·exact (Dk.1 h).2
theorem Ec {M M':Nat→Prop} (hle:(view fl w).le (view fl' w)) (hM:∀ b,M' b→M b):(lvU fl M w).le (lvU fl' M' w):=fun b o v h=>by
 unfold lvU at h ⊢
 by_cases h':M' b
 ·rw [if_pos (hM b h')] at h
  rw [if_pos h']
  exact hle _ _ _ h
 ·rw [if_neg h']
  split at h
  ·exact (Dk.1 h).2
  ·exact h
theorem gW.relab (h:Relab T T' fl fl' own own' w) (hM:∀ b o' t',own' b=some o'→T' o' t'→∃ o t,own b=some o∧T o t):∀ {ps:List PS} {i:Nat} {vs:List Value} {x:(bz ps).den},gW T fl own w i ps vs x→gW T' fl' own' w i ps vs x
 | [],_,_,_,hr=>hr
 | .lent _::_,_,_::_,_,⟨h1,h2⟩=>⟨h1.mono (Ec h.le fun b ⟨o,t,h1,h2⟩=>hM b o t h1 h2),gW.relab h hM h2⟩
 | .lent _::_,_,[],_,hr=>hr.elim
 | .rptr _::_,_,_::_,_,⟨⟨b,o,cs,hv,hC,hsg⟩,h2⟩=>⟨⟨b,o,cs,hv,hC.mono h.le,hsg.mono (Ec h.le fun b ⟨o,t,h1,h2⟩=>hM b o t h1 h2)⟩,gW.relab h hM h2⟩
 | .rptr _::_,_,[],_,hr=>hr.elim
 | .pure _::_,_,_::_,_,⟨h1,h2⟩=>⟨h1.mono h.le,gW.relab h hM h2⟩
 | .obj _ _::_,_,_::_,_,⟨h1,h2⟩=>⟨h1.relab h,gW.relab h hM h2⟩
 | .nilp::_,_,_::_,_,⟨h1,h2⟩=>⟨h1,gW.relab h hM h2⟩
 | .agg _ _::_,_,_::_,_,⟨⟨cs,h1,h1'⟩,h2⟩=>⟨⟨cs,h1,h1'.relab h⟩,gW.relab h hM h2⟩
 | .agg _ _::_,_,[],_,hr=>hr.elim
 | .fnc _ _::_,_,_::_,_,⟨h1,h2⟩=>⟨h1,gW.relab h hM h2⟩
 | .box::_,_,_::_,_,⟨⟨p,rest,h1,h1'⟩,h2⟩=>⟨⟨p,rest,h1,h1'.relab h⟩,gW.relab h hM h2⟩
 | .row _::_,_,_::_,_,⟨h1,h2⟩=>⟨h1.relab h,gW.relab h hM h2⟩
 | .row _::_,_,[],_,hr=>hr.elim
 | .box::_,_,[],_,hr=>hr.elim
 | .fnc _ _::_,_,[],_,hr=>hr.elim
 | .pure _::_,_,[],_,hr=>hr.elim
 | .obj _ _::_,_,[],_,hr=>hr.elim
 | .nilp::_,_,[],_,hr=>hr.elim
theorem o6.relab (h:Relab T T' fl fl' own own' w) {base:Nat} {r:RS} {v:Value} {x:r.ty.den} (hr:o6 T fl own w base r v x):o6 T' fl' own' w base r v x:=by
 cases r with
 | pure t=>exact bD.mono h.le hr
 | own pub e=>exact jR.relab h hr
 | newobj t os=>exact mF.relab h hr
 | maybe t os=>exact hr.imp id fun hr=>⟨hr.1,mF.relab h hr.2⟩
 | deep e=>exact ul.relab h hr
 | agg t os=>obtain⟨cs,h1,h2⟩:=hr;exact⟨cs,h1,h2.relab h⟩
theorem kW.relab (h:Relab T T' fl fl' own own' w) {ps:List PS} {k k':(dw ps).den→Prop} (hk:∀ x,k x→k' x):∀ {rs:List RS} {i:Nat} {vs:List Value} {x:(fO rs ps).den},kW T fl own w i rs ps vs x k→kW T' fl' own' w i rs ps vs x k'
 | [],_,_,_,⟨h1,h2⟩=>⟨h1,hk _ h2⟩
 | _::_,_,_::_,_,⟨h1,h2⟩=>⟨h1.relab h,kW.relab h hk h2⟩
 | _::_,_,[],_,hr=>hr.elim
theorem fQ.relab (h:Relab T T' fl fl' own own' w):∀ {ps:List PS} {j:Nat} {vs:List Value} {x:(dw ps).den},fQ T fl own w j ps vs x→fQ T' fl' own' w j ps vs x
 | [],_,_,_,_=>trivial
 | .pure _::r,_,_::_,_,hr=>fQ.relab (ps:=r) h hr
 | .lent _::r,_,_::_,_,hr=>fQ.relab (ps:=r) h hr
 | .rptr _::r,_,_::_,_,hr=>fQ.relab (ps:=r) h hr
 | .rptr _::_,_,[],_,hr=>hr.elim
 | .agg _ _::r,_,_::_,_,hr=>fQ.relab (ps:=r) h hr
 | .agg _ _::_,_,[],_,hr=>hr.elim
 | .lent _::_,_,[],_,hr=>hr.elim
 | .nilp::r,_,_::_,_,hr=>fQ.relab (ps:=r) h hr
 | .fnc _ _::r,_,_::_,_,hr=>fQ.relab (ps:=r) h hr
 | .box::r,_,_::_,_,⟨⟨p,rest,h1,h1'⟩,h2⟩=>⟨⟨p,rest,h1,h1'.relab h⟩,fQ.relab (ps:=r) h h2⟩
 | .row _::r,_,_::_,_,⟨h1,h2⟩=>⟨h1.relab h,fQ.relab (ps:=r) h h2⟩
 | .row _::_,_,[],_,hr=>hr.elim
 | .box::_,_,[],_,hr=>hr.elim
 | .fnc _ _::_,_,[],_,hr=>hr.elim
 | .obj _ _::_,_,_::_,_,⟨h1,h2⟩=>⟨h1.relab h,fQ.relab h h2⟩
 | .pure _::_,_,[],_,hr=>hr.elim
 | .obj _ _::_,_,[],_,hr=>hr.elim
 | .nilp::_,_,[],_,hr=>hr.elim
theorem jR.mono (h:∀ o t,T o t→T' o t) {v:Value} {t:Own} {pub:Bool} {e:Ty} {l:List e.den} (hr:jR T fl own w v t pub e l):jR T' fl own w v t pub e l:=
 hr.relab (Relab.same fun o t ht=>⟨o,h o t ht,fun _ hb=>hb⟩)
def lq:PS→Nat
 | .fnc _ n=>n
 | .box=>1
 | _=>0
def unf:Nat→List PS→List Value→List Value
 | _,[],_=>[]
 | _,_::_,[]=>[]
 | 0,p::r,v::vs=>v::unf (lq p) r vs
 | c+1,_::r,_::vs=>unf c r vs
def lZ:List Value→Value
 | [v]=>v
 | vs=>.tuple vs.toArray
structure FOk (P:Program) (f:FuncId) (sg:Sig):Prop where
 few:sg.rs.length≤4
 code : ∃ fn, P.funcs[f]? = some fn ∧ fn.body.isNone = false ∧ (fn.name == "runtime.NumGoroutine") = false
 call:∀ {w:World} {fl:Nat→Nat} {own:Nat→Option Own} {vs:List Value} {x:(bz sg.ps).den} {y:(fO sg.rs sg.ps).den},(∀ b,own b≠none→b < w.heap.size)→gW Eq fl own w 0 sg.ps vs x→sg.F x=some y→
  Calls P f (unf 0 sg.ps vs).toArray w fun e w'=>∃ rs fl' own',e=.returned (lZ rs)∧Ext w (fun b=>own b≠none) w'∧(∀ b,b < w.heap.size→own b=none→fl' b=fl b)∧(view fl w).le (view fl' w')∧
   (∀ b,own' b≠none→b < w'.heap.size∧(w.heap.size≤b∨own b≠none))∧kW Eq fl' own' w' 0 sg.rs sg.ps rs y fun z=>fQ Eq fl' own' w' 0 sg.ps vs z
end
section
variable {C:Ctx} {g:Gh} {S:Nat→SV} {H:HLoc→SV} {a:Act} {w:World}
theorem zfK {os:List Bool}:hdB os=true↔os[0]? = some true:=by cases os <;> simp [hdB]
theorem zdB {os:List Bool} (k:Nat):(tlB os)[k]? = os[k+1]?:=by cases os <;> simp [tlB]
def fD (v:SV) (r:Nat):Prop:=v=.hdr r∨v=.own r
def qG (v:SV):Prop:=v=.nils∨v=.nilp
theorem fD.inj {v:SV} {r r':Nat} (h:fD v r) (h':fD v r'):r=r':=by
 rcases h with rfl | rfl <;> rcases h' with h' | h' <;> cases h' <;> rfl
theorem fD.nil {v:SV} {r:Nat} (h:fD v r) (h':qG v):False:=by
 rcases h with rfl | rfl <;> rcases h' with h' | h' <;> cases h'
theorem fD.ref {v:SV} {r:Nat} (h:fD v r) (hr:aH H v):H (.row r)≠.bot:=by
 rcases h with rfl | rfl <;> exact hr
theorem pU {mk:Nat→HLoc} {rid:Nat}:∀ {os:List Bool} {i:Nat} {fp fp' d:List HLoc},(dR mk os i).run H fp=some (d,fp')→
  ∃ m:List (Own×Own),d=m.map (fun p=>cO p.1)∧∀ k,os[k]? = some true→(∃ r,fD (H (mk (i+k))) r∧(Own.row r,Own.row (rid+(i+k)))∈m)∨qG (H (mk (i+k)))
 | [],i,fp,fp',d,h=>by
  obtain⟨e,_⟩:=ah h
  subst e
  exact⟨[],rfl,fun k hk=>by simp at hk⟩
 | o::os,i,fp,fp',d,h=>by
  simp only [dR] at h
  have shift:∀ {d':List HLoc} {fp1 fp2:List HLoc},(dR mk os (i+1)).run H fp1=some (d',fp2)→∃ m:List (Own×Own),d'=m.map (fun p=>cO p.1)∧∀ k,os[k]? = some true→
    (∃ r,fD (H (mk (i+(k+1)))) r∧(Own.row r,Own.row (rid+(i+(k+1))))∈m)∨qG (H (mk (i+(k+1)))):=by
   intro d' fp1 fp2 h
   obtain⟨m,h1,h2⟩:=pU h
   refine⟨m,h1,fun k hk=> ?_⟩
   have:=h2 k hk
   rwa [show i+1+k=i+(k+1) from by omega] at this
  cases o with
  | false=>
   obtain⟨m,h1,h2⟩:=shift h
   refine⟨m,h1,fun k hk=> ?_⟩
   cases k with
   | zero=>simp at hk
   | succ k=>exact h2 k (by simpa using hk)
  | true=>
   simp only [cond,Rd.run] at h
   have row:∀ {r:Nat},fD (H (mk i)) r→((dR mk os (i+1)).bind fun d=>Rd.ret (HLoc.row r::d)).run H (mk i::fp)=some (d,fp')→∃ m:List (Own×Own),d=m.map (fun p=>cO p.1)∧∀ k,(true::os)[k]? = some true→(∃ r,fD (H (mk (i+k))) r∧(Own.row r,Own.row (rid+(i+k)))∈m)∨qG (H (mk (i+k))):=by
    intro r hr h
    obtain⟨d',fp1,k1,h⟩:=bind_some h
    obtain⟨e,_⟩:=ah h
    subst e
    obtain⟨m,h1,h2⟩:=shift k1
    refine⟨(.row r,.row (rid+i))::m,by simp [h1,cO],fun k hk=> ?_⟩
    cases k with
    | zero=>exact .inl ⟨r,by simpa using hr,by simp⟩
    | succ k=>
     rcases h2 k (by simpa using hk) with ⟨r',q1,q2⟩ | q
     ·exact .inl ⟨r',q1,by simp [q2]⟩
     ·exact .inr q
   have nil:qG (H (mk i))→(dR mk os (i+1)).run H (mk i::fp)=some (d,fp')→∃ m:List (Own×Own),d=m.map (fun p=>cO p.1)∧∀ k,(true::os)[k]? = some true→(∃ r,fD (H (mk (i+k))) r∧(Own.row r,Own.row (rid+(i+k)))∈m)∨qG (H (mk (i+k))):=by
    intro hr h
    obtain⟨m,h1,h2⟩:=shift h
    refine⟨m,h1,fun k hk=> ?_⟩
    cases k with
    | zero=>exact .inr (by simpa using hr)
    | succ k=>exact h2 k (by simpa using hk)
   split at h
   ·rename_i r hr;exact row (.inl hr) h
   ·rename_i r hr;exact row (.inr hr) h
   ·rename_i hr;exact nil (.inl hr) h
   ·rename_i hr;exact nil (.inr hr) h
   ·exact (ae h).elim
theorem vI (hs:SimG C g S H a w) {n:Nat}:∀ {os:List Bool} {i:Nat} {fp fp' d:List HLoc},(dR (.fld n) os i).run H fp=some (d,fp')→∀ l∈d,H l≠.bot
 | [],i,fp,fp',d,h=>by
  obtain⟨e,_⟩:=ah h
  subst e
  simp
 | o::os,i,fp,fp',d,h=>by
  simp only [dR] at h
  cases o with
  | false=>exact vI hs (show (dR (.fld n) os (i+1)).run H fp=_ from h)
  | true=>
   simp only [cond,Rd.run] at h
   have row:∀ {r:Nat},fD (H (.fld n i)) r→((dR (.fld n) os (i+1)).bind fun d=>Rd.ret (HLoc.row r::d)).run H (.fld n i::fp)=some (d,fp')→∀ l∈d,H l≠.bot:=by
    intro r hr h
    obtain⟨d',fp1,k1,h⟩:=bind_some h
    obtain⟨e,_⟩:=ah h
    subst e
    intro l hl
    rcases List.mem_cons.1 hl with rfl | hl
    ·exact hr.ref (hs.refF n i)
    ·exact vI hs k1 l hl
   split at h
   ·rename_i r hr;exact row (.inl hr) h
   ·rename_i r hr;exact row (.inr hr) h
   ·exact vI hs h
   ·exact vI hs h
   ·exact (ae h).elim
theorem vC (hs:SimG C g S H a w) {n:Nat}:∀ {os:List Bool} {i:Nat} {fp fp' d:List HLoc},(dR (.comp n) os i).run H fp=some (d,fp')→∀ l∈d,H l≠.bot
 | [],i,fp,fp',d,h=>by
  obtain⟨e,_⟩:=ah h
  subst e
  simp
 | o::os,i,fp,fp',d,h=>by
  simp only [dR] at h
  cases o with
  | false=>exact vC hs (show (dR (.comp n) os (i+1)).run H fp=_ from h)
  | true=>
   simp only [cond,Rd.run] at h
   have row:∀ {r:Nat},fD (H (.comp n i)) r→((dR (.comp n) os (i+1)).bind fun d=>Rd.ret (HLoc.row r::d)).run H (.comp n i::fp)=some (d,fp')→∀ l∈d,H l≠.bot:=by
    intro r hr h
    obtain⟨d',fp1,k1,h⟩:=bind_some h
    obtain⟨e,_⟩:=ah h
    subst e
    intro l hl
    rcases List.mem_cons.1 hl with rfl | hl
    ·exact hr.ref (hs.refC n i)
    ·exact vC hs k1 l hl
   split at h
   ·rename_i r hr;exact row (.inl hr) h
   ·rename_i r hr;exact row (.inr hr) h
   ·exact vC hs h
   ·exact vC hs h
   ·exact (ae h).elim
theorem zbk {hw:HW} {d i:Nat} (hp:aY H hw):puts H hw (.comp d i)=H (.comp d i):=by
 have:∀ {hw:HW} {H:HLoc→SV},aY H hw→puts H hw (.comp d i)=H (.comp d i):=by
  intro hw
  induction hw with
  | nil=>intro H _;rfl
  | cons p r ih=>
   obtain⟨l,v⟩:=p
   rintro H ⟨⟨rr,pb,e',x',h1,h2,h3⟩,hr⟩
   subst h1 h2
   simp only [puts]
   rw [ih (aY.upd h3 hr),aA _ _ (by simp)]
 exact this hp
theorem zep {os:List Bool} {n:Nat}:pbO (tlB os) n=pbO os (n+1):=by cases os <;> rfl
theorem LP {os:List Bool} {n k:Nat}:(os.take (n+1))[k+1]? = ((tlB os).take n)[k]?:=by
 cases os with
 | nil=>simp [tlB]
 | cons b r=>simp [tlB]
theorem zeW {os:List Bool} {n:Nat} {b:Bool}:(os.take (n+1))[0]? = some b↔os[0]? = some b:=by
 cases os <;> simp
theorem MS {os:List Bool} {n k:Nat} {b:Bool} (h:(os.take n)[k]? = some b):os[k]? = some b:=by
 rw [List.getElem?_take] at h
 split at h
 ·exact h
 ·exact absurd h (by simp)
theorem pI {T:Own→Own→Prop} {mk:Nat→HLoc} {rid:Nat}:∀ {t:Ty} {os:List Bool} {i:Nat} {fp fp':List HLoc} {x:t.den} {pubs:HW},
  (fZ mk os t i).run H fp=some ((x,pubs),fp')→(∀ k,(os.take (aI t))[k]? = some true→(∃ r,fD (H (mk (i+k))) r∧T (.row r) (.row (rid+(i+k))))∨qG (H (mk (i+k))))→
  aY H pubs∧∀ {hw:HW} {fl:Nat→Nat} {own:Nat→Option Own} {cs:List Value},(∀ y∈pubs,y∈hw)→aY H hw→(pbO os (aI t)=false→∀ k r,(os.take (aI t))[k]? = some true→fD (H (mk (i+k))) r→HLoc.row r ∉ ak hw)→SimG C { g with fl:=fl,own:=own } S (puts H hw) a w→bU (fun j=>H (mk j)) { g with fl:=fl,own:=own } (view fl w) t cs i→
   iM T fl own w rid os t cs x i:=by
 intro t
 induction t with
 | unit=>
  intro os i fp fp' x pubs h1 _
  cases os <;> (obtain⟨e,_⟩:=ah h1;cases e;exact⟨trivial,fun _ _ _ _ hc=>hc⟩)
 | pair A B _ hB=>
  intro os i fp fp' x pubs h1 h2
  simp only [fZ,Rd.run] at h1
  obtain⟨⟨p,hw1⟩,fp1,k1,h1⟩:=bind_some h1
  obtain⟨⟨q,hw2⟩,fp2,k2,h1⟩:=bind_some h1
  obtain⟨e,_⟩:=ah h1
  cases e
  obtain⟨q1,q2⟩:=hB (os:=tlB os) k2 fun k hk=>by
   have:=h2 (k+1) (show (os.take (aI B+1))[k+1]? = some true by rw [LP];exact hk)
   rwa [show i+1+k=i+(k+1) from by omega]
  have rest:∀ {hw:HW},(pbO os (aI B+1)=false→∀ k r,(os.take (aI B+1))[k]? = some true→fD (H (mk (i+k))) r→HLoc.row r ∉ ak hw)→(pbO (tlB os) (aI B)=false→∀ k r,((tlB os).take (aI B))[k]? = some true→fD (H (mk (i+1+k))) r→HLoc.row r ∉ ak hw):=fun hk hp k r h3 h4=>
   hk (by rw [←zep];exact hp) (k+1) r (by rw [LP];exact h3) (by rwa [show i+(k+1)=i+1+k from by omega])
  have told:(eU A (H (mk i))).run H (mk i::fp)=some ((p,hw1),fp1)→(hdB os=true→pbO os (aI B+1)=true)→(hdB os=true→∃ e,A=.slice e)→aY H (hw1++hw2)∧∀ {hw:HW} {fl:Nat→Nat} {own:Nat→Option Own} {cs:List Value},(∀ y∈hw1++hw2,y∈hw)→aY H hw→(pbO os (aI (.pair A B))=false→∀ k r,(os.take (aI (.pair A B)))[k]? = some true→fD (H (mk (i+k))) r→HLoc.row r ∉ ak hw)→SimG C { g with fl:=fl,own:=own } S (puts H hw) a w→bU (fun j=>H (mk j)) { g with fl:=fl,own:=own } (view fl w) (.pair A B) cs i→
   iM T fl own w rid os (.pair A B) cs (p,q) i:=by
   intro k1 hpb hsl
   obtain⟨p1,p2⟩:=rM k1
   refine⟨aY.append.2 ⟨p1,q1⟩,fun {hw fl own cs} hsub hp hkp hs hc=> ?_⟩
   obtain⟨c1,c2,rfl,hl,ho,hsr,hr⟩:=hc
   refine⟨c1,c2,rfl,?_,q2 (fun y hy=>hsub y (List.mem_append_right _ hy)) hp (rest hkp) hs hr⟩
   have hsr:SR { g with fl:=fl,own:=own } (view fl w) (H (mk i)) (mkV A c1):=hsr
   have hV:=p2 _ _ _ ((hs.rowsRd hp).sub fun y hy=>hsub y (List.mem_append_left _ hy)) hsr
   have hC:=hV.cells
   rw [fV hl ho] at hC
   cases hb:hdB os with
   | false=>
    have hC:aJ (view fl w) A c1 p:=by simpa using hC
    cases A <;> exact hC
   | true=>
    have hdF:=fun e=>Nv (e:=e) (hpb hb)
    rw [hpb hb]
    have h0:=h2 0 (zeW.2 (zfK.1 hb))
    rw [Nat.add_zero] at h0
    rcases h0 with ⟨r,hr',hT⟩ | hn
    ·rcases hr' with hr' | hr'
     case inr=>rw [hr'] at k1;exact (ae k1).elim
     rw [hr'] at k1 hsr
     simp only [eU,Rd.run] at k1
     split at k1
     ·rename_i pb e l hrow
      obtain⟨y,fp3,k3,k4⟩:=bind_some k1
      obtain⟨k3,_⟩:=aP k3
      obtain⟨e1,_⟩:=ah k4
      cases e1
      obtain⟨he,rfl⟩:=bM k3
      subst he
      have hrow':puts H hw (.row r)=.row true e l:=rO hp (by
       cases pb with
       | true=>exact .inl hrow
       | false=>exact .inr (hsub _ (by simp)))
      have hrow2:=hs.rows r true e l hrow'
      have hval:mkV (.slice e) c1=g.hd r:=hsr
      have hc1:=gu (t:=.slice e) rfl hl
      refine⟨mkV (.slice e) c1,hc1,jl.row (hdF _) (.inr ⟨.row r,hT,?_⟩)⟩
      rw [hval];exact hrow2
     ·rename_i e l nd hh hrow
      cases hh with
      | some _=>exact (ae k1).elim
      | none=>
      obtain⟨y,fp3,k3,k4⟩:=bind_some k1
      obtain⟨k3,_⟩:=aP k3
      obtain⟨e1,_⟩:=ah k4
      cases e1
      obtain⟨he,rfl⟩:=bM k3
      subst he
      have hrow':puts H hw (.row r)=.row true e l:=rO hp (.inr (hsub _ (by simp)))
      have hrow2:=hs.rows r true e l hrow'
      have hval:mkV (.slice e) c1=g.hd r:=hsr
      have hc1:=gu (t:=.slice e) rfl hl
      refine⟨mkV (.slice e) c1,hc1,jl.row (hdF _) (.inr ⟨.row r,hT,?_⟩)⟩
      rw [hval];exact hrow2
     ·exact (ae k1).elim
    ·rcases hn with hn | hn
     ·rw [hn] at k1 hsr
      cases A <;> simp only [eU] at k1 <;> first | exact (ae k1).elim | skip
      obtain⟨e1,_⟩:=ah k1
      cases e1
      exact⟨mkV (.slice _) c1,gu (t:=.slice _) rfl hl,jl.nil ⟨hsr,rfl⟩⟩
     ·rw [hn] at k1
      obtain⟨e,rfl⟩:=hsl hb
      exact (ae k1).elim
  cases hb:hdB os with
  | false=>
   rw [hb] at k1
   exact told k1 (fun h=>by rw [hb] at h;exact Bool.noConfusion h) fun h=>by rw [hb] at h;exact Bool.noConfusion h
  | true=>
   rw [hb] at k1
   cases hpb:pbO os (aI B+1) with
   | true=>
    rw [hpb] at k1
    have k1:(zY A (H (mk i))).run H (mk i::fp)=some ((p,hw1),fp1):=k1
    have hsl:∃ e,A=.slice e:=by cases A <;> first | exact (ae k1).elim | exact⟨_,rfl⟩
    exact told (by obtain⟨e,rfl⟩:=hsl;exact k1) (fun _=>hpb) fun _=>hsl
   | false=>
    rw [hpb] at k1
    have k1:(ou (dpO os (aI B+1)) A (H (mk i))).run H (mk i::fp)=some ((p,hw1),fp1):=k1
    have h0:=h2 0 (zeW.2 (zfK.1 hb))
    rw [Nat.add_zero] at h0
    rcases h0 with ⟨r,hr',hT⟩ | hn
    ·rcases hr' with hr' | hr'
     case inr=>
      rw [hr'] at k1
      simp only [ou,Rd.run] at k1
      split at k1
      ·rename_i pb e l hrow
       cases hpd:cond pb true (dpF (dpO os (aI B+1)) e) with
       | true=>rw [hpd] at k1;exact (ae k1).elim
       | false=>
        have hpf:pb=false:=by cases pb <;> first | rfl | exact Bool.noConfusion hpd
        subst hpf
        have hdf:dpF (dpO os (aI B+1)) e=false:=hpd
        rw [hpd] at k1
        simp only [cond_false] at k1
        obtain⟨y,fp3,k3,k4⟩:=bind_some k1
        obtain⟨k3,_⟩:=aP k3
        obtain⟨e1,_⟩:=ah k4
        cases e1
        obtain⟨he,rfl⟩:=bM k3
        subst he
        refine⟨q1,fun {hw fl own cs} hsub hp hkp hs hc=> ?_⟩
        obtain⟨c1,c2,rfl,hl,ho,hsr,hr⟩:=hc
        refine⟨c1,c2,rfl,?_,q2 (fun y hy=>hsub y hy) hp (rest hkp) hs hr⟩
        have hsr:SR { g with fl:=fl,own:=own } (view fl w) (H (mk i)) (mkV (.ptr e) c1):=hsr
        rw [hr'] at hsr
        rw [hpb,hb]
        have hnot:HLoc.row r ∉ ak hw:=hkp hpb 0 r (zeW.2 (zfK.1 hb)) (by rw [Nat.add_zero];exact .inr hr')
        have hrow':puts H hw (.row r)=.row false e l:=by rw [bJ hnot,hrow]
        exact⟨mkV (.ptr e) c1,g.hd r,gu (t:=.ptr e) rfl hl,hsr,jl.row hdf (.inr ⟨.row r,hT,hs.rows r false e l hrow'⟩)⟩
      ·rename_i e l n hh hrow
       cases hh with
       | some _=>exact (ae k1).elim
       | none=>
        simp only at k1
        cases hdf:dpF (dpO os (aI B+1)) e with
        | false=>rw [hdf] at k1;exact (ae k1).elim
        | true=>
         rw [hdf] at k1
         simp only [cond_true,Rd.run] at k1
         cases hn:decide (n=List.length l) with
         | false=>rw [hn] at k1;simp at k1
         | true=>
          rw [hn] at k1
          obtain rfl:=of_decide_eq_true hn
          simp only [cond_true] at k1
          obtain⟨y,fp3,k3,k4⟩:=bind_some k1
          obtain⟨k3,_⟩:=aP k3
          obtain⟨e1,_⟩:=ah k4
          cases e1
          obtain⟨he,rfl⟩:=bM k3
          subst he
          refine⟨q1,fun {hw fl own cs} hsub hp hkp hs hc=> ?_⟩
          obtain⟨c1,c2,rfl,hl,ho,hsr,hr⟩:=hc
          refine⟨c1,c2,rfl,?_,q2 (fun y hy=>hsub y hy) hp (rest hkp) hs hr⟩
          have hsr:SR { g with fl:=fl,own:=own } (view fl w) (H (mk i)) (mkV (.ptr e) c1):=hsr
          rw [hr'] at hsr
          rw [hpb,hb]
          have hnot:HLoc.row r ∉ ak hw:=hkp hpb 0 r (zeW.2 (zfK.1 hb)) (by rw [Nat.add_zero];exact .inr hr')
          have hrow':puts H hw (.row r)=.deep e l l.length none:=by rw [bJ hnot,hrow]
          exact⟨mkV (.ptr e) c1,g.hd r,gu (t:=.ptr e) rfl hl,hsr,jl.deep hdf (.inr ⟨.row r,hT,hs.deeps r e l _ none hrow'⟩)⟩
      ·exact (ae k1).elim
     rw [hr'] at k1
     simp only [ou,Rd.run] at k1
     split at k1
     ·rename_i pb e l hrow
      cases hpd:cond pb true (dpF (dpO os (aI B+1)) e) with
      | true=>rw [hpd] at k1;exact (ae k1).elim
      | false=>
       have hpf:pb=false:=by cases pb <;> first | rfl | exact Bool.noConfusion hpd
       subst hpf
       have hdf:dpF (dpO os (aI B+1)) e=false:=hpd
       rw [hpd] at k1
       simp only [cond_false] at k1
       obtain⟨y,fp3,k3,k4⟩:=bind_some k1
       obtain⟨k3,_⟩:=aP k3
       obtain⟨e1,_⟩:=ah k4
       cases e1
       obtain⟨he,rfl⟩:=bM k3
       subst he
       refine⟨q1,fun {hw fl own cs} hsub hp hkp hs hc=> ?_⟩
       obtain⟨c1,c2,rfl,hl,ho,hsr,hr⟩:=hc
       refine⟨c1,c2,rfl,?_,q2 (fun y hy=>hsub y hy) hp (rest hkp) hs hr⟩
       have hsr:SR { g with fl:=fl,own:=own } (view fl w) (H (mk i)) (mkV (.slice e) c1):=hsr
       rw [hr'] at hsr
       rw [hpb,hb]
       have hnot:HLoc.row r ∉ ak hw:=hkp hpb 0 r (zeW.2 (zfK.1 hb)) (by rw [Nat.add_zero];exact .inl hr')
       have hrow':puts H hw (.row r)=.row false e l:=by rw [bJ hnot,hrow]
       have hrow2:=hs.rows r false e l hrow'
       have hval:mkV (.slice e) c1=g.hd r:=hsr
       have hc1:=gu (t:=.slice e) rfl hl
       refine⟨mkV (.slice e) c1,hc1,jl.row hdf (.inr ⟨.row r,hT,?_⟩)⟩
       rw [hval];exact hrow2
     ·rename_i e l n hh hrow
      cases hh with
      | some _=>exact (ae k1).elim
      | none=>
       simp only at k1
       cases hdf:dpF (dpO os (aI B+1)) e with
       | false=>rw [hdf] at k1;exact (ae k1).elim
       | true=>
        rw [hdf] at k1
        simp only [cond_true,Rd.run] at k1
        cases hn:decide (n=List.length l) with
        | false=>rw [hn] at k1;simp at k1
        | true=>
         rw [hn] at k1
         obtain rfl:=of_decide_eq_true hn
         simp only [cond_true] at k1
         obtain⟨y,fp3,k3,k4⟩:=bind_some k1
         obtain⟨k3,_⟩:=aP k3
         obtain⟨e1,_⟩:=ah k4
         cases e1
         obtain⟨he,rfl⟩:=bM k3
         subst he
         refine⟨q1,fun {hw fl own cs} hsub hp hkp hs hc=> ?_⟩
         obtain⟨c1,c2,rfl,hl,ho,hsr,hr⟩:=hc
         refine⟨c1,c2,rfl,?_,q2 (fun y hy=>hsub y hy) hp (rest hkp) hs hr⟩
         have hsr:SR { g with fl:=fl,own:=own } (view fl w) (H (mk i)) (mkV (.slice e) c1):=hsr
         rw [hr'] at hsr
         rw [hpb,hb]
         have hnot:HLoc.row r ∉ ak hw:=hkp hpb 0 r (zeW.2 (zfK.1 hb)) (by rw [Nat.add_zero];exact .inl hr')
         have hrow':puts H hw (.row r)=.deep e l l.length none:=by rw [bJ hnot,hrow]
         have hrow2:=hs.deeps r e l _ none hrow'
         have hval:mkV (.slice e) c1=g.hd r:=hsr
         have hc1:=gu (t:=.slice e) rfl hl
         refine⟨mkV (.slice e) c1,hc1,jl.deep hdf (.inr ⟨.row r,hT,?_⟩)⟩
         rw [hval];exact hrow2
     ·exact (ae k1).elim
    ·rcases hn with hn | hn
     case inr=>
      rw [hn] at k1
      cases A <;> simp only [ou] at k1 <;> first | exact (ae k1).elim | skip
      obtain⟨e1,_⟩:=ah k1
      cases e1
      refine⟨q1,fun {hw fl own cs} hsub hp hkp hs hc=> ?_⟩
      obtain⟨c1,c2,rfl,hl,ho,hsr,hr⟩:=hc
      refine⟨c1,c2,rfl,?_,q2 (fun y hy=>hsub y hy) hp (rest hkp) hs hr⟩
      rw [hb]
      have hsr:SR { g with fl:=fl,own:=own } (view fl w) (H (mk i)) (mkV (.ptr _) c1):=hsr
      rw [hn] at hsr
      exact⟨mkV (.ptr _) c1,.slice none 0 0,gu (t:=.ptr _) rfl hl,.inl ⟨hsr,rfl⟩,jl.nil ⟨rfl,rfl⟩⟩
     rw [hn] at k1
     cases A <;> simp only [ou] at k1 <;> first | exact (ae k1).elim | skip
     obtain⟨e1,_⟩:=ah k1
     cases e1
     refine⟨q1,fun {hw fl own cs} hsub hp hkp hs hc=> ?_⟩
     obtain⟨c1,c2,rfl,hl,ho,hsr,hr⟩:=hc
     refine⟨c1,c2,rfl,?_,q2 (fun y hy=>hsub y hy) hp (rest hkp) hs hr⟩
     rw [hb]
     have hsr:SR { g with fl:=fl,own:=own } (view fl w) (H (mk i)) (mkV (.slice _) c1):=hsr
     rw [hn] at hsr
     exact⟨mkV (.slice _) c1,gu (t:=.slice _) rfl hl,jl.nil ⟨hsr,rfl⟩⟩
 | _=>intro os i fp fp' x pubs h1;cases os <;> exact (ae h1).elim
theorem zbF:bK [] []=.ret ((),[],[]):=rfl
theorem qZ {v:SV} {vs:List SV}:bK [] (v::vs)=.fail:=rfl
theorem CY {t:Ty} {r:List PS} {v:SV} {vs:List SV}:bK (.pure t::r) (v::vs)=(iC t v).bind fun p=>(bK r vs).bind fun q=>.ret ((p.1,q.1),p.2++q.2.1,q.2.2):=rfl
theorem mO {p:PS} {r:List PS}:bK (p::r) []=.fail:=by cases p <;> rfl
theorem DL {t:Ty} {own:List Bool} {r:List PS} {v:SV} {vs:List SV}:bK (.obj t own::r) (v::vs)=match v with
   | .adr s off=>cond (Nat.beq off 0) (.get (.site s) fun w=>match w with
    | .obj t'=>cond (t'.beq t) ((fZ (.fld s) own (lay t) 0).bind fun p=>(dR (.fld s) (own.take (aI (lay t))) 0).bind fun d=>(bK r vs).bind fun q=>.ret ((p.1,q.1),p.2++q.2.1,HLoc.site s::d++q.2.2)) .fail
    | _=>.fail) .fail
   | .own q=>cond (cond (List.isEmpty own) (structEnd (lay t)) false) (.get (.row q) fun w=>match w with
    | .row pub e l=>cond pub .fail (.opt (List.head? l) fun x=>(Rd.ofO (aW e (lay t) x)).bind fun y=>(bK r vs).bind fun z=>.ret ((y,z.1),z.2.1,HLoc.row q::z.2.2))
    | _=>.fail) .fail
   | _=>.fail:=rfl
theorem DT {t:Ty} {own:List Bool} {r:List PS} {v:SV} {vs:List SV}:bK (.agg t own::r) (v::vs)=match v with
   | .agg d t'=>cond (t'.beq t) ((fZ (.comp d) own t 0).bind fun p=>(dR (.comp d) (own.take (aI t)) 0).bind fun dd=>(bK r vs).bind fun q=>.ret ((p.1,q.1),p.2++q.2.1,dd++q.2.2)) .fail
   | _=>.fail:=rfl
theorem CZ {r:List PS} {v:SV} {vs:List SV}:bK (.nilp::r) (v::vs)=match v with
   | .nilp=>bK r vs
   | _=>.fail:=rfl
theorem DN {f:FuncId} {n:Nat} {r:List PS} {v:SV} {vs:List SV}:bK (.fnc f n::r) (v::vs)=match v with
   | .fn g _ m=>cond (cond (Nat.beq f g) (Nat.beq n m) false) (bK r vs) .fail
   | _=>.fail:=rfl
theorem zbG {r:List PS} {v:SV} {vs:List SV}:bK (.box::r) (v::vs)=match v with
   | .adr s off=>cond (Nat.beq off 0) (.get (.site s) fun w=>match w with
    | .obj t'=>cond (t'.beq bF) (.get (.fld s 0) fun p=>match p,vs with
     | .adr b o,.adr b' o'::_=>cond (cond (Nat.beq b b') (Nat.beq o o') false) ((bK r vs).bind fun q=>.ret (q.1,q.2.1,HLoc.site s::q.2.2)) .fail
     | _,_=>.fail) .fail
    | _=>.fail) .fail
   | _=>.fail:=rfl
theorem zbE {e:Ty} {r:List PS} {v:SV} {vs:List SV}:bK (.row e::r) (v::vs)=match v with
   | .hdr q=>.get (.row q) fun w=>match w with
    | .row pub e' l=>cond pub .fail ((Rd.ofO (aW (.slice e') (.slice e) l)).bind fun y=>(bK r vs).bind fun z=>.ret ((y,z.1),z.2.1,HLoc.row q::z.2.2))
    | _=>.fail
   | _=>.fail:=rfl
theorem BN {H:HLoc→SV} {e:Ty} {r:List PS} {s:SV} {svs:List SV} {x:(bz (.row e::r)).den} {pubs:HW} {drops:List HLoc} {fp fp':List HLoc} (h:(bK (.row e::r) (s::svs)).run H fp=some ((x,pubs,drops),fp')) :
  ∃ q l fp1 fp2 z d2,s=.hdr q∧H (.row q)=.row false e l∧(bK r svs).run H fp1=some ((z,pubs,d2),fp2)∧x=(l,z)∧drops=HLoc.row q::d2:=by
 rw [zbE] at h
 cases s <;> first | exact (ae h).elim | skip
 rename_i q
 simp only [Rd.run] at h
 split at h
 ·rename_i pub e' l hrow
  cases pub with
  | true=>exact (ae h).elim
  | false=>
   obtain⟨y,fp1,k1,h⟩:=bind_some (show ((Rd.ofO (aW (.slice e') (.slice e) l)).bind _).run H _=_ from h)
   obtain⟨⟨z,hw2,d2⟩,fp2,k2,h⟩:=bind_some h
   obtain⟨e1,_⟩:=ah h
   obtain⟨k1,_⟩:=aP k1
   obtain⟨he,hy⟩:=bM k1
   cases he
   cases hy
   cases e1
   exact⟨q,_,_,_,z,d2,rfl,hrow,k2,rfl,rfl⟩
 ·exact (ae h).elim
theorem zdW {t:Ty} (h:t.agg=true):lay t=t:=by cases t <;> simp_all [Ty.agg,lay]
theorem zdV {t:Ty} (h:t.agg=false):lay t=.pair t .unit:=by cases t <;> simp_all [Ty.agg,lay]
theorem yL {F:Nat→SV} {g:Gh} {iv:IV} {t:Ty} {cs:List Value}:dn F g iv t cs↔bU F g iv (lay t) cs 0:=by
 unfold dn
 cases h:t.agg with
 | true=>rw [zdW h];exact Iff.rfl
 | false=>
  rw [zdV h]
  constructor
  ·rintro ⟨c,rfl,h2,h3⟩
   exact⟨[c],[],rfl,by rw [lI h];rfl,by simpa using h2,by simpa [mkV,h] using h3,rfl⟩
  ·rintro ⟨c1,c2,rfl,h2,h3,h4,h5⟩
   rw [lI h] at h2
   have h5:c2=[]:=h5
   subst h5
   match c1,h2 with
   | [c],_=>exact⟨c,rfl,h3 c (by simp),by simpa [mkV,h] using h4⟩
def nK:List SV→List Value→Prop
 | .fn f _ n::svs,v::vs=>(v=.func (.func f) #[] (vs.take n).toArray∧n≤vs.length)∧nK svs vs
 | _::svs,_::vs=>nK svs vs
 | _,_=>True
theorem nK.tail {s:SV} {svs:List SV} {v:Value} {vs:List Value} (h:nK (s::svs) (v::vs)):nK svs vs:=by
 cases s <;> first | exact h.2 | exact h
def iL (H:HLoc→SV) (mk:Nat→HLoc):List Bool→Nat→List HLoc
 | [],_=>[]
 | o::os,i=>cond o (match H (mk i) with
  | .hdr r=>.row r::iL H mk os (i+1)
  | .own r=>.row r::iL H mk os (i+1)
  | _=>iL H mk os (i+1)) (iL H mk os (i+1))
def nD (H:HLoc→SV):List PS→List SV→List HLoc
 | .obj t own::r,.adr s _::vs=>cond (pbO own (aI (lay t))) [] (iL H (.fld s) own 0)++nD H r vs
 | .obj _ _::r,.own q::vs=>HLoc.row q::nD H r vs
 | .agg t own::r,.agg d _::vs=>cond (pbO own (aI t)) [] (iL H (.comp d) own 0)++nD H r vs
 | .row _::r,.hdr q::vs=>HLoc.row q::nD H r vs
 | _::r,_::vs=>nD H r vs
 | _,_=>[]
theorem JM {mk:Nat→HLoc} {os:List Bool}:∀ {i:Nat} {fp fp' d:List HLoc},(ny mk os i).run H fp=some (d,fp')→d=iL H mk os i:=by
 induction os with
 | nil=>intro i fp fp' d h;obtain⟨e,_⟩:=ah h;subst e;rfl
 | cons o os ih=>
  intro i fp fp' d h
  cases o with
  | false=>exact ih (show (ny mk os (i+1)).run H fp=_ from h)
  | true=>
   simp only [ny,cond,Rd.run] at h
   obtain⟨d',fp1,k1,h⟩:=bind_some h
   have ih:=ih k1
   simp only [iL,cond]
   split at h
   ·rename_i r hr
    obtain⟨e,_⟩:=ah h
    subst e
    rw [hr]
    show _=HLoc.row r::iL H mk os (i+1)
    rw [←ih]
   ·rename_i r hr
    obtain⟨e,_⟩:=ah h
    subst e
    rw [hr]
    show _=HLoc.row r::iL H mk os (i+1)
    rw [←ih]
   ·rename_i hr hr'
    obtain⟨e,_⟩:=ah h
    split
    ·rename_i r hr2;exact absurd hr2 (hr r)
    ·rename_i r hr2;exact absurd hr2 (hr' r)
    ·subst e;exact ih
theorem Du {mk:Nat→HLoc}:∀ {os:List Bool} {i k r:Nat},os[k]? = some true→fD (H (mk (i+k))) r→HLoc.row r∈iL H mk os i
 | [],_,_,_,h,_=>by simp at h
 | o::os,i,0,r,h,h2=>by
  simp only [List.getElem?_cons_zero,Option.some.injEq] at h
  subst h
  rw [Nat.add_zero] at h2
  rcases h2 with h2 | h2 <;> (simp only [iL,cond,h2];exact List.mem_cons_self ..)
 | o::os,i,k+1,r,h,h2=>by
  have ih:=Du (mk:=mk) (os:=os) (i:=i+1) (k:=k) (r:=r) (by simpa using h) (by rwa [show i+1+k=i+(k+1) from by omega])
  simp only [iL]
  cases o with
  | false=>exact ih
  | true=>
   simp only [cond]
   split
   ·exact List.mem_cons_of_mem _ ih
   ·exact List.mem_cons_of_mem _ ih
   ·exact ih
theorem zbw {ps:List PS}:∀ {svs:List SV} {fp fp' ks:List HLoc},(keepA ps svs).run H fp=some (ks,fp')→ks=nD H ps svs:=by
 induction ps with
 | nil=>intro svs fp fp' ks h;obtain⟨e,_⟩:=ah (show (Rd.ret ([]:List HLoc)).run H _=_ from h);subst e;cases svs <;> rfl
 | cons p r ih=>
  intro svs fp fp' ks h
  cases svs with
  | nil=>cases p <;> (obtain⟨e,_⟩:=ah (show (Rd.ret ([]:List HLoc)).run H _=_ from h);subst e;rfl)
  | cons v vs=>
   cases p with
   | obj t own=>
    cases v with
    | adr s off=>
     obtain⟨d,fp1,k1,h⟩:=bind_some (show ((cond (pbO own (aI (lay t))) (Rd.ret []) (ny (.fld s) own 0)).bind _).run H fp=_ from h)
     obtain⟨q,fp2,k2,h⟩:=bind_some h
     obtain⟨e,_⟩:=ah h
     subst e
     have ih:=ih k2
     show _=cond (pbO own (aI (lay t))) [] (iL H (.fld s) own 0)++nD H r vs
     cases hp:pbO own (aI (lay t)) with
     | true=>
      rw [hp] at k1
      obtain⟨e,_⟩:=ah k1
      rw [←e,ih];rfl
     | false=>
      rw [hp] at k1
      rw [JM k1,ih];rfl
    | own q=>
     obtain⟨z,fp1,k1,h⟩:=bind_some (show ((keepA r vs).bind _).run H fp=_ from h)
     obtain⟨e,_⟩:=ah h
     subst e
     rw [ih k1];rfl
    | _=>exact ih h
   | agg t own=>
    cases v with
    | agg d u=>
     obtain⟨dd,fp1,k1,h⟩:=bind_some (show ((cond (pbO own (aI t)) (Rd.ret []) (ny (.comp d) own 0)).bind _).run H fp=_ from h)
     obtain⟨q,fp2,k2,h⟩:=bind_some h
     obtain⟨e,_⟩:=ah h
     subst e
     have ih:=ih k2
     show _=cond (pbO own (aI t)) [] (iL H (.comp d) own 0)++nD H r vs
     cases hp:pbO own (aI t) with
     | true=>
      rw [hp] at k1
      obtain⟨e,_⟩:=ah k1
      rw [←e,ih];rfl
     | false=>
      rw [hp] at k1
      rw [JM k1,ih];rfl
    | _=>exact ih h
   | row e=>
    cases v with
    | hdr q=>
     obtain⟨z,fp1,k1,h⟩:=bind_some (show ((keepA r vs).bind _).run H fp=_ from h)
     obtain⟨e,_⟩:=ah h
     subst e
     rw [ih k1];rfl
    | _=>exact ih h
   | _=>have:=ih h;cases v <;> exact this
theorem BO {r:List PS} {s:SV} {svs:List SV} {x:(bz r).den} {pubs:HW} {drops:List HLoc} {fp fp':List HLoc} (h:(bK (.box::r) (s::svs)).run H fp=some ((x,pubs,drops),fp')) :
  ∃ st b o svs' fp1 fp2 z hw2 d2,s=.adr st 0∧svs=.adr b o::svs'∧H (.site st)=.obj bF∧H (.fld st 0)=.adr b o∧(bK r svs).run H fp1=some ((z,hw2,d2),fp2)∧x=z∧pubs=hw2∧drops=HLoc.site st::d2:=by
 rw [zbG] at h
 cases s <;> first | exact (ae h).elim | skip
 rename_i st off
 simp only at h
 cases hoff:Nat.beq off 0 with
 | false=>rw [hoff] at h;exact (ae h).elim
 | true=>
  rw [hoff] at h
  obtain rfl:=Nat.eq_of_beq_eq_true hoff
  simp only [cond,Rd.run] at h
  split at h
  ·rename_i t' hobj
   cases hb:t'.beq bF with
   | false=>rw [hb] at h;exact (ae h).elim
   | true=>
    rw [hb] at h
    obtain rfl:=Ty.beq_eq hb
    simp only [Rd.run] at h
    split at h
    ·rename_i b o b' o' svs' hfld
     cases hc:cond (Nat.beq b b') (Nat.beq o o') false with
     | false=>simp only [cond] at hc;rw [hc] at h;exact (ae h).elim
     | true=>
      obtain⟨e1,e2⟩:=aF hc
      obtain rfl:=Nat.eq_of_beq_eq_true e1
      obtain rfl:=Nat.eq_of_beq_eq_true e2
      simp only [cond] at hc
      rw [hc] at h
      obtain⟨⟨z,hw2,d2⟩,fp3,k3,h⟩:=bind_some h
      obtain⟨e,_⟩:=ah h
      cases e
      exact⟨st,b,o,svs',_,_,z,hw2,d2,rfl,rfl,hobj,hfld,k3,rfl,rfl,rfl⟩
    ·exact (ae h).elim
  ·exact (ae h).elim
def tX (H:HLoc→SV):SV→List HLoc
 | .hdr r=>[.row r]
 | .adr s _=>[.site s]
 | .agg d t=>tY ((List.range' 0 (aI t)).map fun k=>H (.comp d k))
 | _=>[]
def wV (H:HLoc→SV):List PS→List SV→List HLoc
 | .lent _::r,v::vs=>tX H v++wV H r vs
 | .rptr _::r,v::vs=>tX H v++wV H r vs
 | _::r,_::vs=>wV H r vs
 | _,_=>[]
theorem Dz {r:Nat}:∀ {vs:List SV} {k:Nat},vs[k]? = some (.hdr r)→HLoc.row r∈tY vs
 | [],k,h=>by simp at h
 | v::vs,0,h=>by
  simp only [List.getElem?_cons_zero,Option.some.injEq] at h
  subst h
  exact List.mem_cons_self ..
 | v::vs,k+1,h=>by
  have ih:=Dz (vs:=vs) (k:=k) (by simpa using h)
  simp only [tY]
  split
  ·exact List.mem_cons_of_mem _ ih
  ·exact ih
theorem J8 {v:SV} {fp fp' ls:List HLoc} (h:(FW v).run H fp=some (ls,fp')):ls=tX H v:=by
 cases v with
 | hdr r=>exact (ah h).1
 | agg d t=>
  obtain⟨vs,fp1,k1,h⟩:=bind_some (show ((oQ d (aI t) 0).bind _).run H fp=_ from h)
  obtain⟨e,_⟩:=ah h
  rw [e,Ee k1];rfl
 | _=>exact (ah h).1
theorem zbr {ps:List PS}:∀ {svs:List SV} {fp fp' ls:List HLoc},(FQ ps svs).run H fp=some (ls,fp')→ls=wV H ps svs:=by
 induction ps with
 | nil=>intro svs fp fp' ls h;obtain⟨e,_⟩:=ah (show (Rd.ret ([]:List HLoc)).run H _=_ from h);subst e;cases svs <;> rfl
 | cons p r ih=>
  intro svs fp fp' ls h
  cases svs with
  | nil=>cases p <;> (obtain⟨e,_⟩:=ah (show (Rd.ret ([]:List HLoc)).run H _=_ from h);subst e;rfl)
  | cons v vs=>
   obtain⟨d,fp1,k1,h⟩:=bind_some (show (Rd.bind _ _).run H fp=_ from h)
   obtain⟨q,fp2,k2,h⟩:=bind_some h
   obtain⟨e,_⟩:=ah h
   subst e
   have ih:=ih k2
   cases p with
   | lent t=>rw [J8 k1,ih];rfl
   | rptr t=>rw [J8 k1,ih];rfl
   | _=>obtain⟨e,_⟩:=ah (show (Rd.ret ([]:List HLoc)).run H _=_ from k1);subst e;exact ih
theorem C9 {t:Ty} {r:List PS} {v:SV} {vs:List SV}:bK (.lent t::r) (v::vs)=(Af t v).bind fun p=>(bK r vs).bind fun q=>.ret ((p,q.1),q.2.1,q.2.2):=rfl
theorem CX {t:Ty} {r:List PS} {v:SV} {vs:List SV}:bK (.rptr t::r) (v::vs)=(tu t v).bind fun p=>(bK r vs).bind fun q=>.ret ((p,q.1),q.2.1,q.2.2):=rfl
theorem SimG.lv_le (hs:SimG C g S H a w) {M:Nat→Prop} (hM:∀ b,M b→g.own b≠none):g.lv.le (lvU g.fl M w):=fun b o v h=>by
 have hc:=hs.lvCell h
 rw [hs.lv] at h
 unfold xG lvU at h
 split at h
 ·exact Eb _ _ _ (hs.iv _ _ _ h)
 ·rename_i hb
  have hlt:b < C.w0.heap.size:=World.block_lt_of_cell? (a:=⟨b,o,none⟩) C.w0 h
  unfold lvU
  rw [if_neg fun hm=>by
   rcases (hs.own b (hM b hm)).2 with h | h
   ·omega
   ·exact hb h]
  exact hc
theorem nI.lent {M:Nat→Prop} {r:Nat} {pub:Bool} {e:Ty} {l:List e.den} (h:nI g w r pub e l) (hM:∀ b,M b→g.own b≠some (.row r)):bD (lvU g.fl M w) (.slice e) (g.hd r) l:=by
 rcases h with ⟨h1,h2⟩ | ⟨b,cap,cs,h1,h2,h3,h4,h5,h6,h7⟩
 ·subst h2
  exact⟨[.slice none 0 0],⟨none,0,0,rfl,rfl,Nat.le_refl _,fun _=>rfl,fun i x hx=>by simp at hx⟩,by rw [h1];rfl⟩
 ·refine⟨[g.hd r],⟨some ⟨b,0,none⟩,l.length,cap,by rw [h1],rfl,h2,fun e=>by simp at e,fun i x hx=> ?_⟩,rfl⟩
  obtain⟨c,hc1,hc2⟩:=h7 i x hx
  refine⟨b,0,c,rfl,fun j v hj=> ?_,hc2.mono Eb⟩
  unfold lvU
  rw [if_neg fun hm=>hM b hm h5,Nat.zero_add,h3.cell]
  exact hc1 j v hj
theorem Le {iv iv2:IV} (h1:iv.le iv2) (h2:g.lv.le iv2) (t:Ty) {s:SV} {v:Value} {y:t.den} {fp fp':List HLoc} (h:(tV t s).run H fp=some (y,fp')) (hv:SR g iv s v)
  (hr:∀ r pub e l,s=.hdr r→H (.row r)=.row pub e l→bD iv2 (.slice e) (g.hd r) l):bD iv2 t v y:=by
 cases s with
 | pv t' x=>obtain⟨h,_⟩:=aP h;exact (ja h hv).mono h1
 | lv t' x=>obtain⟨h,_⟩:=aP h;exact (ja h hv).mono h2
 | nils=>
  cases t <;> simp only [tV] at h <;> first | exact (ae h).elim | skip
  obtain⟨h,_⟩:=ah h
  subst h
  rw [show v=_ from hv]
  exact⟨[.slice none 0 0],⟨none,0,0,rfl,rfl,Nat.le_refl _,fun _=>rfl,fun i x hx=>by simp at hx⟩,rfl⟩
 | hdr r=>
  simp only [tV,Rd.run] at h
  split at h
  ·rename_i pub e l hrow
   obtain⟨h,_⟩:=aP h
   rw [show v=_ from hv]
   exact ja h (hr r pub e l rfl hrow)
  ·exact (ae h).elim
 | _=>exact (ae h).elim
theorem Ld {mk:Nat→HLoc} {iv iv2:IV} (h1:iv.le iv2) (h2:g.lv.le iv2):∀ {t:Ty} {i:Nat} {cs:List Value} {x:t.den} {fp fp':List HLoc},(tN mk t i).run H fp=some (x,fp')→
  bU (fun j=>H (mk j)) g iv t cs i→(∀ k r pub e l,k < aI t→H (mk (i+k))=.hdr r→H (.row r)=.row pub e l→bD iv2 (.slice e) (g.hd r) l)→aJ iv2 t cs x:=by
 intro t
 induction t with
 | unit=>intro i cs x fp fp' h hc _;exact hc
 | pair A B _ hB=>
  intro i cs x fp fp' h hc hr
  simp only [tN,Rd.run] at h
  obtain⟨p,fp1,k1,h⟩:=bind_some h
  obtain⟨q,fp2,k2,h⟩:=bind_some h
  obtain⟨e,_⟩:=ah h
  cases e
  obtain⟨c1,c2,rfl,hl,ho,hsr,hcr⟩:=hc
  have:=(Le h1 h2 A k1 hsr fun r pub e l e1 e2=>hr 0 r pub e l (Nat.succ_pos _) e1 e2).cells
  rw [fV hl ho] at this
  exact⟨c1,c2,rfl,this,hB k2 hcr fun k r pub e l hk e1 e2=>hr (k+1) r pub e l (Nat.succ_lt_succ hk) (by rwa [show i+(k+1)=i+1+k from by omega]) e2⟩
 | _=>intro i cs x fp fp' h;exact (ae h).elim
theorem KQ:∀ {hw:HW} {H:HLoc→SV},aY H hw→∀ {r:Nat} {pub:Bool} {e:Ty} {l:List e.den},H (.row r)=.row pub e l→∃ pub',puts H hw (.row r)=.row pub' e l
 | [],_,_,_,_,_,_,h=>⟨_,h⟩
 | (k,v)::rest,H,⟨⟨rr,p,e',x,h1,h2,h3⟩,hr⟩,r,pub,e,l,h=>by
  subst h1 h2
  refine KQ (hw:=rest) (aY.upd h3 hr) (pub:=cond (decide (r=rr)) true pub) ?_
  by_cases er:r=rr
  ·subst er
   cases h3.uniq (.inl h:lX H (.row r) pub e l)
   rw [aK];simp
  ·rw [aA _ _ (by simpa using er),h];simp [er]
theorem zc5 (hs:SimG C g S H a w) {t:Ty} {s:SV} {v:Value} {y:t.den} {fp fp':List HLoc} (h:(Af t s).run H fp=some (y,fp')) (hv:SR g (view g.fl w) s v) {hw:HW} {fl:Nat→Nat} {own:Nat→Option Own} (hp:aY H hw)
  (hs':SimG C { g with fl:=fl,own:=own } S (puts H hw) a w) (hle:(view g.fl w).le (view fl w)) {M:Nat→Prop} (hM:∀ b,M b→own b≠none) (hM':∀ r b,HLoc.row r∈tX H s→M b→own b≠some (.row r)):bD (lvU fl M w) t v y:=by
 have h1:(view g.fl w).le (lvU fl M w):=hle.trans Eb
 have h2:g.lv.le (lvU fl M w):=hs'.lv_le hM
 have hrow:∀ r pub e l,H (.row r)=.row pub e l→HLoc.row r∈tX H s→bD (lvU fl M w) (.slice e) (g.hd r) l:=fun r pub e l hr hm=>by
  obtain⟨pub',hr'⟩:=KQ hp hr
  exact (hs'.rows r pub' e l hr').lent (M:=M) fun b hb=>hM' r b hm hb
 by_cases hag:∃ d t',s=.agg d t'
 ·obtain⟨d,t',rfl⟩:=hag
  simp only [Af] at h
  cases hb:t'.beq t with
  | false=>
   rw [hb] at h
   cases ha:t.agg with
   | false=>rw [ha] at h;exact (ae h).elim
   | true=>
   rw [ha] at h
   obtain⟨z,fp1,k1,h⟩:=bind_some (show ((tN (.comp d) t' 0).bind _).run H fp=_ from h)
   obtain⟨h,_⟩:=aP h
   obtain⟨e1,rfl,e3⟩:=hv
   refine⟨_,zK (Ld (mk:=.comp d) (g:=g) h1 h2 k1 (nU hs e3) fun k r pub e l hk q1 q2=>hrow r pub e l q2 (Dz (k:=k) (by
    rw [List.getElem?_map,List.getElem?_range' hk,Option.map_some,Nat.one_mul,q1]))) h,?_⟩
   simp [mkV,ha]
  | true=>
   rw [hb] at h
   obtain rfl:=Ty.beq_eq hb
   obtain⟨e1,rfl,e3⟩:=hv
   refine⟨_,Ld (mk:=.comp d) (g:=g) h1 h2 h (nU hs e3) fun k r pub e l hk q1 q2=>hrow r pub e l q2 (Dz (k:=k) (by
    rw [List.getElem?_map,List.getElem?_range' hk,Option.map_some,Nat.one_mul,q1])),?_⟩
   simp [mkV,e1]
 ·have h:(tV t s).run H fp=some (y,fp'):=by
   cases s <;> first | exact h | exact absurd ⟨_,_,rfl⟩ hag
  exact Le (g:=g) h1 h2 t h hv fun r pub e l q1 q2=>hrow r pub e l q2 (by subst q1;exact List.mem_singleton_self _)
theorem zc6 {mk:Nat→HLoc} {iv:IV}:∀ {t:Ty} {i:Nat} {cs:List Value} {x:t.den} {fp fp':List HLoc},(Ag mk t i).run H fp=some (x,fp')→
  bU (fun j=>H (mk j)) g iv t cs i→aJ iv t cs x:=by
 intro t
 induction t with
 | unit=>intro i cs x fp fp' h hc;exact hc
 | pair A B _ hB=>
  intro i cs x fp fp' h hc
  simp only [Ag,Rd.run] at h
  obtain⟨p,fp1,k1,h⟩:=bind_some h
  obtain⟨q,fp2,k2,h⟩:=bind_some h
  obtain⟨e,_⟩:=ah h
  cases e
  obtain⟨c1,c2,rfl,hl,ho,hsr,hcr⟩:=hc
  unfold Oh at k1
  split at k1
  ·rename_i t' y hy
   obtain⟨k1,_⟩:=aP k1
   have hsr:SR g iv (H (mk i)) (mkV A c1):=hsr
   rw [hy] at hsr
   have:=(ja k1 hsr).cells
   rw [fV hl ho] at this
   exact⟨c1,c2,rfl,this,hB k2 hcr⟩
  ·exact (ae k1).elim
 | _=>intro i cs x fp fp' h;exact (ae h).elim
theorem bU.pref {F:Nat→SV} {iv:IV}:∀ {e t:Ty} {cs:List Value} {i:Nat},qx e t=true→bU F g iv t cs i→∃ c1 c2,cs=c1++c2∧bU F g iv e c1 i:=by
 intro e
 induction e with
 | unit=>intro t cs i _ _;exact⟨[],cs,rfl,rfl⟩
 | pair A B _ hB=>
  intro t cs i h hf
  cases t with
  | pair c d=>
   simp only [qx] at h
   obtain⟨h1,h2⟩:=aF h
   obtain rfl:=Ty.beq_eq h1
   obtain⟨c1,c2,rfl,k1,k2,k3,k4⟩:=hf
   obtain⟨d1,d2,rfl,k5⟩:=hB h2 k4
   exact⟨c1++d1,d2,by simp,c1,d1,rfl,k1,k2,k3,k5⟩
  | _=>simp [qx] at h
 | _=>intro t cs i h;simp [qx] at h
theorem JS:∀ {hw:HW} {H:HLoc→SV},aY H hw→∀ n,puts H hw (.site n)=H (.site n)
 | [],_,_,_=>rfl
 | (k,v)::rest,H,⟨⟨rr,p,e',x,h1,h2,h3⟩,hr⟩,n=>by
  subst h1 h2
  exact (JS (hw:=rest) (aY.upd h3 hr) n).trans (aA _ _ (by simp))
theorem zb1 (hs:SimG C g S H a w) {e:Ty} {s:SV} {v:Value} {y:e.den} {fp fp':List HLoc} (h:(tu e s).run H fp=some (y,fp')) (hv:SR g (view g.fl w) s v) {hw:HW} {fl:Nat→Nat} {own:Nat→Option Own} (hp:aY H hw)
  (hs':SimG C { g with fl:=fl,own:=own } S (puts H hw) a w) (hle:(view g.fl w).le (view fl w)) {M:Nat→Prop} (hM:∀ b,M b→own b≠none) (hMs:∀ r b,HLoc.site r∈tX H s→M b→own b≠some (.site r)):∃ b o cs,v=.pointer (some ⟨b,o,none⟩)∧aJ (view fl w) e cs y∧seg (lvU fl M w) b o cs:=by
 have h2:g.lv.le (lvU fl M w):=hs'.lv_le hM
 cases s with
 | adr d o=>
  simp only [tu] at h
  cases ho:Nat.beq o 0 with
  | false=>rw [ho] at h;exact (ae h).elim
  | true=>
  rw [ho] at h
  obtain rfl:=Nat.eq_of_beq_eq_true ho
  simp only [cond_true,Rd.run] at h
  split at h
  ·rename_i t' hst
   cases hc:cond t'.agg (qx e t') false with
   | false=>rw [hc] at h;exact (ae h).elim
   | true=>
   rw [hc] at h
   obtain⟨ha,hpf⟩:=aF hc
   obtain⟨cs,hblk,how,hfl,hcells⟩:=hs.sites d t' hst
   unfold dn at hcells
   rw [ha] at hcells
   obtain⟨c1,c2,rfl,hF⟩:=bU.pref hpf hcells
   have hown:own (g.st d)=some (.site d):=by
    have hsite:puts H hw (.site d)=.obj t':=by rw [JS hp];exact hst
    obtain⟨_,_,h4,_⟩:=hs'.sites d t' hsite
    exact h4
   refine⟨g.st d,0,c1,hv,(zc6 (mk:=.fld d) (g:=g) h hF).mono hle,fun j x hj=> ?_⟩
   unfold lvU
   rw [if_neg fun hm=>hMs d (g.st d) (List.mem_singleton_self _) hm hown,Nat.zero_add,hblk.cell]
   rw [List.getElem?_append_left (List.getElem?_eq_some_iff.1 hj).1];exact hj
  ·exact (ae h).elim
 | lel t x o=>
  simp only [tu] at h
  cases ho:Nat.beq o 0 with
  | false=>rw [ho] at h;exact (ae h).elim
  | true=>
  rw [ho] at h
  obtain rfl:=Nat.eq_of_beq_eq_true ho
  obtain⟨h,_⟩:=aP h
  obtain⟨et,rfl⟩:=bM h
  subst et
  obtain⟨b,o,cs,q1,q2,q3⟩:=hv
  exact⟨b,o,cs,q1,q2.mono hle,q3.mono h2⟩
 | _=>exact (ae h).elim
theorem iM.pure {T:Own→Own→Prop} {fl:Nat→Nat} {own:Nat→Option Own} {rid:Nat}:∀ {t:Ty} {cs:List Value} {x:t.den} {i:Nat},structEnd t=true→aJ (view fl w) t cs x→iM T fl own w rid [] t cs x i:=by
 intro t
 induction t with
 | pair A B _ hB=>
  rintro cs x i h ⟨c1,c2,h1,h2,h3⟩
  exact⟨c1,c2,h1,by cases A <;> exact h2,hB h h3⟩
 | unit=>intro cs x i _ h;exact h
 | _=>intro cs x i h;exact Bool.noConfusion h
theorem zbm (hs:SimG C g S H a w) {r:Nat} {v:Value} {e:Ty} {l:List e.den} {x:e.den} (hv:SR g (view g.fl w) (.own r) v) (hr:H (.row r)=.row false e l) (hx:List.head? l=some x) :
  ∃ b cs,v=.pointer (some ⟨b,0,none⟩)∧g.hd r=.slice (some ⟨b,0,none⟩) 1 1∧Blk w b cs∧g.own b=some (.row r)∧g.fl b=0∧aJ (view g.fl w) e cs x∧l=[x]:=by
 obtain⟨b,h1,h2⟩:=vT hs hv (.inl ⟨_,_,_,_,hr,hx⟩)
 rcases hs.rows r false e l hr with ⟨h3,_⟩ | ⟨b',cap,cs,h3,h4,h5,h6,h7,h8,h9⟩
 ·rw [h2] at h3;exact Value.noConfusion h3 fun e=>by simp at e
 ·rw [h2] at h3
  injection h3 with e1 e2 e3
  cases e1
  subst e3
  have hl:l=[x]:=by
   cases l with
   | nil=>simp at hx
   | cons y l=>
    simp only [List.head?_cons,Option.some.injEq] at hx
    cases l with
    | nil=>rw [hx]
    | cons _ _=>simp at e2
  subst hl
  obtain⟨c,k1,k2⟩:=h9 0 x rfl
  have hc:c=cs:=by
   apply List.ext_getElem?
   intro j
   have hlc:=k2.length
   cases hj:c[j]? with
   | some z=>have:=k1 j z hj;rw [Nat.zero_mul,Nat.zero_add] at this;exact this.symm
   | none=>
    have:=List.getElem?_eq_none_iff.1 hj
    exact (List.getElem?_eq_none_iff.2 (by omega)).symm
  subst hc
  exact⟨b,c,h1,h2,h5,h7,h8,k2,rfl⟩
theorem zdk (hs:SimG C g S H a w):∀ {ps:List PS} {svs:List SV} {vs:List Value} {i:Nat} {x:(bz ps).den} {pubs:HW} {drops:List HLoc} {fp fp':List HLoc},
  (bK ps svs).run H fp=some ((x,pubs,drops),fp')→svs.length=vs.length→nK svs vs→(∀ (j:Nat) (s:SV) (v:Value),svs[j]? = some s→vs[j]? = some v→SR g (view g.fl w) s v∧aH H s)→
  aY H pubs∧(∀ l∈drops,H l≠.bot)∧∃ m:List (Own×Own),drops=m.map (fun p=>cO p.1)∧∀ {hw:HW} {fl:Nat→Nat} {own:Nat→Option Own},(∀ y∈pubs,y∈hw)→aY H hw→(∀ l∈nD H ps svs,l ∉ ak hw)→SimG C { g with fl:=fl,own:=own } S (puts H hw) a w→(view g.fl w).le (view fl w)→
   ∀ T:Own→Own→Prop,(∀ p∈m,T p.1 p.2)→(∀ o t,T o t→cO o ∉ wV H ps svs)→gW T fl own w i ps vs x:=by
 intro ps
 induction ps with
 | nil=>
  intro svs vs i x pubs drops fp fp' h hl _ _
  cases svs with
  | cons=>rw [qZ] at h;exact (ae h).elim
  | nil=>
   rw [zbF] at h
   obtain⟨e,_⟩:=ah h
   cases e
   exact⟨trivial,by simp,[],rfl,fun _ _ _ _ _ T _ _=>by cases vs with | nil=>rfl | cons=>simp at hl⟩
 | cons p ps ih=>
  intro svs vs i x pubs drops fp fp' h hl hcap hv
  cases p with
  | pure t=>
   cases svs with
   | nil=>rw [mO] at h;exact (ae h).elim
   | cons s svs=>
    cases vs with
    | nil=>simp at hl
    | cons v vs=>
     rw [CY] at h
     obtain⟨⟨y,hw1⟩,fp1,k1,h⟩:=bind_some h
     obtain⟨⟨z,hw2,d2⟩,fp2,k2,h⟩:=bind_some h
     obtain⟨e,_⟩:=ah h
     cases e
     obtain⟨v1,v2⟩:=hv 0 s v rfl rfl
     obtain⟨p1,p2⟩:=lK hs k1 v1 v2
     obtain⟨q1,q4,m,q2,q3⟩:=ih (i:=i+1) k2 (by simpa using hl) hcap.tail fun j s' v' h1 h2=>hv (j+1) s' v' (by simpa using h1) (by simpa using h2)
     refine⟨aY.append.2 ⟨p1,q1⟩,q4,m,q2,fun hsub hp hkp hs' hle T hT hL=>⟨?_,q3 (fun y hy=>hsub y (List.mem_append_right _ hy)) hp (by cases s <;> exact hkp) hs' hle T hT (by cases s <;> exact hL)⟩⟩
     exact p2 _ _ ((hs'.rowsRd hp).sub fun y hy=>hsub y (List.mem_append_left _ hy)) hle
  | lent t=>
   cases svs with
   | nil=>rw [mO] at h;exact (ae h).elim
   | cons s svs=>
    cases vs with
    | nil=>simp at hl
    | cons v vs=>
     rw [C9] at h
     obtain⟨y,fp1,k1,h⟩:=bind_some h
     obtain⟨⟨z,hw2,d2⟩,fp2,k2,h⟩:=bind_some h
     obtain⟨e,_⟩:=ah h
     cases e
     obtain⟨v1,v2⟩:=hv 0 s v rfl rfl
     obtain⟨q1,q4,m,q2,q3⟩:=ih (i:=i+1) k2 (by simpa using hl) hcap.tail fun j s' v' h1 h2=>hv (j+1) s' v' (by simpa using h1) (by simpa using h2)
     refine⟨q1,q4,m,q2,fun {hw fl own} hsub hp hkp hs' hle T hT hL=>⟨?_,q3 hsub hp (by cases s <;> exact hkp) hs' hle T hT fun o t ht hm=>hL o t ht (List.mem_append_right _ hm)⟩⟩
     exact zc5 hs k1 v1 hp hs' hle (fun b ⟨o,t',h1,_⟩=>by rw [h1];exact fun h=>by cases h) fun r b hr ⟨o,t',h1,h2⟩ h3=>by
      rw [h3] at h1
      cases h1
      exact hL (.row r) t' h2 (List.mem_append_left _ hr)
  | rptr t=>
   cases svs with
   | nil=>rw [mO] at h;exact (ae h).elim
   | cons s svs=>
    cases vs with
    | nil=>simp at hl
    | cons v vs=>
     rw [CX] at h
     obtain⟨y,fp1,k1,h⟩:=bind_some h
     obtain⟨⟨z,hw2,d2⟩,fp2,k2,h⟩:=bind_some h
     obtain⟨e,_⟩:=ah h
     cases e
     obtain⟨v1,v2⟩:=hv 0 s v rfl rfl
     obtain⟨q1,q4,m,q2,q3⟩:=ih (i:=i+1) k2 (by simpa using hl) hcap.tail fun j s' v' h1 h2=>hv (j+1) s' v' (by simpa using h1) (by simpa using h2)
     refine⟨q1,q4,m,q2,fun {hw fl own} hsub hp hkp hs' hle T hT hL=>⟨?_,q3 hsub hp (by cases s <;> exact hkp) hs' hle T hT fun o t ht hm=>hL o t ht (List.mem_append_right _ hm)⟩⟩
     exact zb1 hs k1 v1 hp hs' hle (fun b ⟨o,t',h1,_⟩=>by rw [h1];exact fun h=>by cases h) fun r b hr ⟨o,t',h1,h2⟩ h3=>by
      rw [h3] at h1
      cases h1
      exact hL (.site r) t' h2 (List.mem_append_left _ hr)
  | agg t os=>
   cases svs with
   | nil=>rw [mO] at h;exact (ae h).elim
   | cons s svs=>
    cases vs with
    | nil=>simp at hl
    | cons v vs=>
     rw [DT] at h
     cases s <;> first | exact (ae h).elim | skip
     rename_i d t'
     simp only at h
     cases hb:t'.beq t with
     | false=>rw [hb] at h;exact (ae h).elim
     | true=>
      rw [hb] at h
      obtain rfl:=Ty.beq_eq hb
      obtain⟨⟨y,hw1⟩,fp1,k1,h⟩:=bind_some (show ((fZ (.comp d) os t' 0).bind _).run H _=_ from h)
      obtain⟨dd,fp2,k2,h⟩:=bind_some h
      obtain⟨⟨z,hw2,d2⟩,fp3,k3,h⟩:=bind_some h
      obtain⟨e,_⟩:=ah h
      cases e
      obtain⟨v1,v2⟩:=hv 0 _ v rfl rfl
      obtain⟨q1,q4,m,q2,q3⟩:=ih (i:=i+1) k3 (by simpa using hl) hcap.tail fun j s' v' h1 h2=>hv (j+1) s' v' (by simpa using h1) (by simpa using h2)
      obtain⟨m1,d1,d2'⟩:=pU (rid:=i*20) k2
      have hG:=fun T (hT:∀ p∈m1,T p.1 p.2)=>pI (C:=C) (g:=g) (S:=S) (a:=a) (w:=w) (T:=T) (rid:=i*20) (os:=os) k1 fun k hk=>by
       rcases d2' k hk with ⟨r,e1,e2⟩ | e1
       ·exact .inl ⟨r,e1,hT _ e2⟩
       ·exact .inr e1
      refine⟨aY.append.2 ⟨(hG (fun _ _=>True) fun _ _=>trivial).1,q1⟩,fun l hl=>(by
       rcases List.mem_append.1 hl with hl | hl
       ·exact vC hs k2 l hl
       ·exact q4 l hl),m1++m,by rw [d1,q2,List.map_append],fun {hw fl own} hsub hp hkp hs' hle T hT hL=>⟨?_,q3 (fun y hy=>hsub y (List.mem_append_right _ hy)) hp (fun l hl=>hkp l (List.mem_append_right _ hl)) hs' hle T (fun p hp=>hT p (by simp [hp])) hL⟩⟩
      obtain⟨_,e2,e3⟩:=SR.change (H:=H) (GAgree.same (g:=g) (g':={ g with fl:=fl,own:=own }) rfl rfl rfl) hle v2 v1
      refine⟨_,e2,(hG T fun p hp=>hT p (by simp [hp])).2 (fun y hy=>hsub y (List.mem_append_left _ hy)) hp (fun hpb k r h1 h2=>hkp _ (List.mem_append_left _ (by rw [hpb];exact Du (MS h1) h2))) hs' ?_⟩
      have hF:(fun i=>puts H hw (.comp d i))=fun i=>H (.comp d i):=funext fun i=>zbk hp
      have:=nU hs' (d:=d) e3
      rw [hF] at this
      exact this
  | nilp=>
   cases svs with
   | nil=>rw [mO] at h;exact (ae h).elim
   | cons s svs=>
    cases vs with
    | nil=>simp at hl
    | cons v vs=>
     rw [CZ] at h
     cases s <;> first | exact (ae h).elim | skip
     obtain⟨v1,v2⟩:=hv 0 _ v rfl rfl
     obtain⟨q1,q4,m,q2,q3⟩:=ih (i:=i+1) h (by simpa using hl) hcap.tail fun j s' v' h1 h2=>hv (j+1) s' v' (by simpa using h1) (by simpa using h2)
     exact⟨q1,q4,m,q2,fun hsub hp hkp hs' hle T hT hL=>⟨v1,q3 hsub hp hkp hs' hle T hT hL⟩⟩
  | fnc f n=>
   cases svs with
   | nil=>rw [mO] at h;exact (ae h).elim
   | cons s svs=>
    cases vs with
    | nil=>simp at hl
    | cons v vs=>
     rw [DN] at h
     cases s <;> first | exact (ae h).elim | skip
     rename_i f' d n'
     simp only at h
     cases hb:cond (Nat.beq f f') (Nat.beq n n') false with
     | false=>rw [hb] at h;exact (ae h).elim
     | true=>
      rw [hb] at h
      obtain⟨hb1,hb2⟩:=aF hb
      obtain rfl:=Nat.eq_of_beq_eq_true hb1
      obtain rfl:=Nat.eq_of_beq_eq_true hb2
      obtain⟨q1,q4,m,q2,q3⟩:=ih (i:=i+1) h (by simpa using hl) hcap.tail fun j s' v' h1 h2=>hv (j+1) s' v' (by simpa using h1) (by simpa using h2)
      exact⟨q1,q4,m,q2,fun hsub hp hkp hs' hle T hT hL=>⟨hcap.1,q3 hsub hp hkp hs' hle T hT hL⟩⟩
  | box=>
   cases svs with
   | nil=>rw [mO] at h;exact (ae h).elim
   | cons s svs=>
    cases vs with
    | nil=>simp at hl
    | cons v vs=>
     obtain⟨st,b,o,svs',fp1,fp2,z,hw2,d2,rfl,rfl,hobj,hfld,k3,rfl,rfl,rfl⟩:=BO h
     obtain⟨v1,v2⟩:=hv 0 _ v rfl rfl
     obtain⟨q1,q4,m,q2,q3⟩:=ih (i:=i+1) k3 (by simpa using hl) hcap.tail fun j s' v' h1 h2=>hv (j+1) s' v' (by simpa using h1) (by simpa using h2)
     refine⟨q1,fun l hl=>(by
      rcases List.mem_cons.1 hl with rfl | hl
      ·rw [hobj];exact SV.noConfusion
      ·exact q4 l hl),(.site st,.site i)::m,by rw [q2,List.map_cons];rfl,fun {hw fl own} hsub hp hkp hs' hle T hT hL=>⟨?_,q3 hsub hp hkp hs' hle T (fun p hp=>hT p (by simp [hp])) hL⟩⟩
     have hobj':puts H hw (.site st)=.obj bF:=by rw [jU hp];exact hobj
     obtain⟨cs,h1,h2,h3,h4⟩:=hs'.sites st bF hobj'
     obtain⟨c,rfl,-,h5⟩:=h4
     have h5:SR { g with fl:=fl,own:=own } (view fl w) (puts H hw (.fld st 0)) c:=h5
     rw [mV hp,hfld] at h5
     cases vs with
     | nil=>simp at hl
     | cons p rest=>
      obtain⟨w1,_⟩:=hv 1 (.adr b o) p rfl rfl
      have e:p=c:=(show p=Value.pointer (some ⟨g.st b,o,none⟩) from w1).trans (show c=Value.pointer (some ⟨g.st b,o,none⟩) from h5).symm
      subst e
      exact⟨p,rest,rfl,g.st st,.site st,hT (.site st,.site i) (by simp),v1,h1,h2,h3⟩
  | row e=>
   cases svs with
   | nil=>rw [mO] at h;exact (ae h).elim
   | cons s svs=>
    cases vs with
    | nil=>simp at hl
    | cons v vs=>
     obtain⟨q,l,fp1,fp2,z,d2,rfl,hrow,k3,rfl,rfl⟩:=BN h
     obtain⟨v1,v2⟩:=hv 0 _ v rfl rfl
     obtain⟨q1,q4,m,q2,q3⟩:=ih (i:=i+1) k3 (by simpa using hl) hcap.tail fun j s' v' h1 h2=>hv (j+1) s' v' (by simpa using h1) (by simpa using h2)
     refine⟨q1,fun l hl=>(by
      rcases List.mem_cons.1 hl with rfl | hl
      ·rw [hrow];exact SV.noConfusion
      ·exact q4 l hl),(.row q,.row (i*20))::m,by rw [q2,List.map_cons];rfl,fun {hw fl own} hsub hp hkp hs' hle T hT hL=>⟨?_,q3 hsub hp (fun l hl=>hkp l (List.mem_cons_of_mem _ hl)) hs' hle T (fun p hp=>hT p (by simp [hp])) hL⟩⟩
     have hrow':puts H hw (.row q)=.row false e l:=by rw [bJ (hkp (.row q) (List.mem_cons_self ..))];exact hrow
     have h1:=zen.1 (hs'.rows q false e l hrow')
     rw [show v=g.hd q from v1]
     exact .inr ⟨.row q,hT (.row q,.row (i*20)) (by simp),h1⟩
  | obj t os=>
   cases svs with
   | nil=>rw [mO] at h;exact (ae h).elim
   | cons s svs=>
    cases vs with
    | nil=>simp at hl
    | cons v vs=>
     rw [DL] at h
     cases s <;> first | exact (ae h).elim | skip
     case own q=>
      simp only at h
      cases hoe:cond (List.isEmpty os) (structEnd (lay t)) false with
      | false=>rw [hoe] at h;exact (ae h).elim
      | true=>
       rw [hoe] at h
       obtain⟨ho1,ho2⟩:=aF hoe
       obtain rfl:os=[]:=List.isEmpty_iff.1 ho1
       simp only [cond_true,Rd.run] at h
       split at h
       case h_2=>exact (ae h).elim
       rename_i pub e l hrow
       cases pub with
       | true=>exact (ae h).elim
       | false=>
        simp only [cond_false] at h
        obtain⟨x0,hx0,h⟩:=bI h
        obtain⟨y,fp1,k1,h⟩:=bind_some h
        obtain⟨⟨z,hw2,d2⟩,fp2,k2,h⟩:=bind_some h
        obtain⟨e1,_⟩:=ah h
        obtain⟨k1,_⟩:=aP k1
        obtain⟨he,hy⟩:=bM k1
        subst he
        cases hy
        cases e1
        obtain⟨v1,v2⟩:=hv 0 _ v rfl rfl
        obtain⟨q1,q4,m,q2,q3⟩:=ih (i:=i+1) k2 (by simpa using hl) hcap.tail fun j s' v' h1 h2=>hv (j+1) s' v' (by simpa using h1) (by simpa using h2)
        refine⟨q1,fun l hl=>(by
         rcases List.mem_cons.1 hl with rfl | hl
         ·rw [hrow];exact SV.noConfusion
         ·exact q4 l hl),(.row q,.site i)::m,by rw [q2,List.map_cons];rfl,fun {hw fl own} hsub hp hkp hs' hle T hT hL=>⟨?_,q3 hsub hp (fun l hl=>hkp l (List.mem_cons_of_mem _ hl)) hs' hle T (fun p hp=>hT p (by simp [hp])) hL⟩⟩
        have hrow':puts H hw (.row q)=.row false (lay t) l:=by rw [bJ (hkp (.row q) (List.mem_cons_self ..))];exact hrow
        obtain⟨b,cs,r1,_,r3,r4,r5,r6,_⟩:=zbm hs' (v:=v) v1 hrow' hx0
        exact⟨b,cs,.row q,hT (.row q,.site i) (by simp),r1,r3,r4,r5,iM.pure ho2 r6⟩
     rename_i st off
     simp only at h
     cases hoff:Nat.beq off 0 with
     | false=>rw [hoff] at h;exact (ae h).elim
     | true=>
      rw [hoff] at h
      simp only [cond,Rd.run] at h
      split at h
      ·rename_i t' hobj
       cases hb:t'.beq t with
       | false=>rw [hb] at h;exact (ae h).elim
       | true=>
        rw [hb] at h
        obtain rfl:=Ty.beq_eq hb
        simp only [cond] at h
        obtain⟨⟨y,hw1⟩,fp1,k1,h⟩:=bind_some h
        obtain⟨d,fp2,k2,h⟩:=bind_some h
        obtain⟨⟨z,hw2,d2⟩,fp3,k3,h⟩:=bind_some h
        obtain⟨e,_⟩:=ah h
        cases e
        obtain⟨v1,v2⟩:=hv 0 _ v rfl rfl
        obtain⟨q1,q4,m,q2,q3⟩:=ih (i:=i+1) k3 (by simpa using hl) hcap.tail fun j s' v' h1 h2=>hv (j+1) s' v' (by simpa using h1) (by simpa using h2)
        obtain⟨m1,d1,d2'⟩:=pU (rid:=i*20) k2
        have hG:=fun T (hT:∀ p∈m1,T p.1 p.2)=>pI (C:=C) (g:=g) (S:=S) (a:=a) (w:=w) (T:=T) (rid:=i*20) (os:=os) k1 fun k hk=>by
         rcases d2' k hk with ⟨r,e1,e2⟩ | e1
         ·exact .inl ⟨r,e1,hT _ e2⟩
         ·exact .inr e1
        refine⟨aY.append.2 ⟨(hG (fun _ _=>True) fun _ _=>trivial).1,q1⟩,fun l hl=>(by
         rcases List.mem_cons.1 hl with rfl | hl
         ·rw [hobj];exact SV.noConfusion
         ·rcases List.mem_append.1 hl with hl | hl
          ·exact vI hs k2 l hl
          ·exact q4 l hl),(.site st,.site i)::(m1++m),by rw [d1,q2,List.map_cons,List.map_append];rfl,fun {hw fl own} hsub hp hkp hs' hle T hT hL=>⟨?_,q3 (fun y hy=>hsub y (List.mem_append_right _ hy)) hp (fun l hl=>hkp l (List.mem_append_right _ hl)) hs' hle T (fun p hp=>hT p (by simp [hp])) hL⟩⟩
        have hobj':puts H hw (.site st)=.obj t':=by rw [jU hp];exact hobj
        obtain⟨cs,h1,h2,h3,h4⟩:=hs'.sites st t' hobj'
        have hval:v=.pointer (some ⟨g.st st,0,none⟩):=by
         obtain rfl:=Nat.eq_of_beq_eq_true hoff
         exact v1
        refine⟨g.st st,cs,.site st,hT (.site st,.site i) (by simp),hval,h1,h2,h3,(hG T fun p hp=>hT p (by simp [hp])).2 (fun y hy=>hsub y (List.mem_append_left _ hy)) hp (fun hpb k r h1 h2=>hkp _ (List.mem_append_left _ (by rw [hpb];exact Du (MS h1) h2))) hs' ?_⟩
        have hF:(fun i=>puts H hw (.fld st i))=fun i=>H (.fld st i):=funext fun i=>mV hp
        rw [yL,hF] at h4
        exact h4
      ·exact (ae h).elim
end
end Go.Sx
namespace Go.Sx
section
variable {C:Ctx} {g:Gh} {S:Nat→SV} {H:HLoc→SV} {a:Act} {w:World}
def Gl (H:HLoc→SV) (g:Gh) (hd':Nat→Value):Prop:=∀ r,H (.row r)≠.bot→hd' r=g.hd r
theorem dN:∀ (a b:HW),ak (a++b)=ak a++ak b
 | [],_=>rfl
 | (l,v)::r,b=>by simp [ak,dN r b]
theorem vP {rid:Nat}:∀ {os:List Bool} {i:Nat} {fp fp':List HLoc} {u:Unit},(iK rid os i).run H fp=some (u,fp')→∀ k,os[k]? = some true→H (.row (rid+(i+k)))=.bot
 | [],_,_,_,_,_,k,hk=>by simp at hk
 | o::os,i,fp,fp',u,h,k,hk=>by
  simp only [iK] at h
  cases o with
  | false=>
   cases k with
   | zero=>simp at hk
   | succ k=>
    have:=vP (show (iK rid os (i+1)).run H fp=_ from h) k (by simpa using hk)
    rwa [show i+1+k=i+(k+1) from by omega] at this
  | true=>
   obtain⟨h1,h2⟩:=dO (show (fresh (.row (rid+i)) (iK rid os (i+1))).run H fp=_ from h)
   cases k with
   | zero=>exact h1
   | succ k=>
    have:=vP h2 k (by simpa using hk)
    rwa [show i+1+k=i+(k+1) from by omega] at this
theorem iD {mk:Nat→HLoc} {rid:Nat}:∀ {t:Ty} {os:List Bool} {x:t.den} {i:Nat} {l:HLoc},l∈ak (aT mk rid os t x i)→(∃ k,l=mk (i+k))∨∃ k,os[k]? = some true∧l=.row (rid+(i+k)):=by
 intro t
 induction t with
 | pair A B _ hB=>
  intro os x i l hl
  simp only [aT,dN,List.mem_append] at hl
  rcases hl with hl | hl
  ·unfold eG at hl
   cases hb:hdB os with
   | false=>
    rw [hb] at hl
    simp only [cond,ak,List.mem_singleton] at hl
    exact .inl ⟨0,hl⟩
   | true=>
    rw [hb] at hl
    simp only [cond] at hl
    split at hl
    ·simp only [ak,List.mem_cons,List.not_mem_nil,or_false] at hl
     rcases hl with rfl | rfl
     ·exact .inr ⟨0,zfK.1 hb,rfl⟩
     ·exact .inl ⟨0,rfl⟩
    ·simp only [ak,List.mem_cons,List.not_mem_nil,or_false] at hl
     rcases hl with rfl | rfl
     ·exact .inr ⟨0,zfK.1 hb,rfl⟩
     ·exact .inl ⟨0,rfl⟩
    ·simp only [ak,List.mem_singleton] at hl
     exact .inl ⟨0,hl⟩
  ·rcases hB hl with ⟨k,rfl⟩ | ⟨k,hk,rfl⟩
   ·exact .inl ⟨k+1,by congr 1;omega⟩
   ·exact .inr ⟨k+1,by rw [←zdB];exact hk,by congr 1;omega⟩
 | _=>intro os x i l hl;simp [aT,ak] at hl
def jm (fl:Nat→Nat) (own:Nat→Option Own) (w:World) (v:Value) (o:Own) (pb dp:Bool) (e:Ty) (l:List e.den):Prop:=cond (dpF dp e) (dW fl own w v o e l l.length none) (fA fl own w v o pb e l)
theorem jl.v {T:Own→Own→Prop} {fl:Nat→Nat} {own:Nat→Option Own} {v:Value} {t o':Own} {pb dp:Bool} {e:Ty} {l:List e.den} (h:jl T fl own w v t pb dp e l) (ho:∀ o,T o t→o=o'):jm fl own w v o' pb dp e l:=by
 unfold jl at h
 unfold jm
 cases hd:dpF dp e with
 | true=>
  rw [hd] at h
  rcases h with ⟨h1,h2⟩ | ⟨o,h1,h2⟩
  ·refine⟨by rw [h2];exact Nat.le_refl _,fun k x hk=>(by cases hk),.inl ⟨h1,h2⟩⟩
  ·rw [←ho o h1];exact h2
 | false=>
  rw [hd] at h
  rcases h with h | ⟨o,h1,h2⟩
  ·exact .inl h
  ·rw [←ho o h1];exact h2
theorem jm.one {fl:Nat→Nat} {own:Nat→Option Own} {v:Value} {o:Own} {pb dp:Bool} {e:Ty} {l:List e.den} (h:jm fl own w v o pb dp e l):oneC v=true:=by
 unfold jm at h
 cases hd:dpF dp e with
 | true=>
  rw [hd] at h
  obtain⟨_,_,⟨h,_⟩ | ⟨b,cap,cs,bs,h,_⟩⟩:=h <;> (rw [h];rfl)
 | false=>rw [hd] at h;obtain⟨ad,n,c,rfl⟩:=fA.oneC h;rfl
theorem lM {dp pb:Bool} {e:Ty} {l:List e.den}:lY dp pb e l≠.bot:=by
 unfold lY
 cases dpF dp e <;> exact SV.noConfusion
theorem SimG.setRowD (hs:SimG C g S H a w) {r:Nat} {pb dp:Bool} {e:Ty} {l:List e.den} (h:jm g.fl g.own w (g.hd r) (.row r) pb dp e l):SimG C g S (aj H (.row r) (lY dp pb e l)) a w:=by
 unfold jm at h
 unfold lY
 cases hd:dpF dp e with
 | true=>rw [hd] at h;exact hs.setDeep (h:=none) h fun i q hq=>(by cases hq)
 | false=>rw [hd] at h;exact hs.setRow (zen.2 h)
theorem Dq {T:Own→Own→Prop} {sh:Own→Own} (hT:∀ o t,T o t→o=sh t) {id rid n:Nat} (hsh:∀ k,sh (.row k)=.row (id+k)):∀ {t:Ty} {os:List Bool} {cs:List Value} {x:t.den} {i:Nat} {g:Gh} {H:HLoc→SV},SimG C g S H a w→(∀ t,H (.site n)≠.obj t)→
  iM T g.fl g.own w rid os t cs x i→(∀ r,HLoc.row r∈ak (aT (.fld n) (id+rid) os t x i)→H (.row r)=.bot)→
  ∃ hd',Gl H g hd'∧SimG C { g with hd:=hd' } S (puts H (aT (.fld n) (id+rid) os t x i)) a w∧bU (fun j=>puts H (aT (.fld n) (id+rid) os t x i) (.fld n j)) { g with hd:=hd' } (view g.fl w) t cs i:=by
 intro t
 induction t with
 | unit=>intro os cs x i g H hs _ hx _;exact⟨g.hd,fun _ _=>rfl,hs,hx⟩
 | pair A B _ hB=>
  rintro os cs x i g H hs hn ⟨c1,c2,rfl,h1,h2⟩ hf
  have hf':∀ r,HLoc.row r∈ak (aT (.fld n) (id+rid) (tlB os) B x.2 (i+1))→H (.row r)=.bot:=fun r hr=>hf r (by simp only [aT,dN];exact List.mem_append_right _ hr)
  have rest:∀ {g1:Gh} {H1:HLoc→SV} {v:SV},g1.fl=g.fl→g1.own=g.own→Gl H g g1.hd→g1.st=g.st→g1.cv=g.cv→SimG C g1 S H1 a w→(∀ t,H1 (.site n)≠.obj t)→H1=puts H (eG (.fld n) (id+rid) (pbO os (aI B+1)) (dpO os (aI B+1)) (hdB os) A x.1 i)→(∀ l,l ∉ ak (eG (.fld n) (id+rid) (pbO os (aI B+1)) (dpO os (aI B+1)) (hdB os) A x.1 i)→H1 l=H l)→
    (∀ r,HLoc.row r∈ak (aT (.fld n) (id+rid) (tlB os) B x.2 (i+1))→H1 (.row r)=.bot)→H1 (.fld n i)=v→v≠.bot→(∀ r,H (.row r)≠.bot→H1 (.row r)≠.bot)→SR g1 (view g.fl w) v (mkV A c1)→c1.length=A.size→(∀ c∈c1,oneC c=true)→
    ∃ hd',Gl H g hd'∧SimG C { g with hd:=hd' } S (puts H (aT (.fld n) (id+rid) os (.pair A B) x i)) a w∧bU (fun j=>puts H (aT (.fld n) (id+rid) os (.pair A B) x i) (.fld n j)) { g with hd:=hd' } (view g.fl w) (.pair A B) (c1++c2) i:=by
   intro g1 H1 v e1 e2 e3 e4 e5 hs1 hn1 hH1 _ hf1 hv hvne hrow hsr hl ho
   obtain⟨hd',k1,k2,k3⟩:=hB (g:=g1) (H:=H1) (os:=tlB os) (x:=x.2) (i:=i+1) hs1 hn1 (by rw [e1,e2];exact h2) hf1
   have e6:g1.lv=g.lv:=hs1.lv.trans hs.lv.symm
   have eg:({ g1 with hd:=hd' }:Gh) = { g with hd:=hd' }:=by
    clear hs1 hs k2 k3 hsr h1 h2 hB
    cases g;cases g1;simp_all
   have eP:puts H (aT (.fld n) (id+rid) os (.pair A B) x i)=puts H1 (aT (.fld n) (id+rid) (tlB os) B x.2 (i+1)):=by
    rw [hH1,←fJ];rfl
   rw [eg] at k2 k3
   refine⟨hd',fun r hr=>(k1 r (hrow r hr)).trans (e3 r hr),by rw [eP];exact k2,c1,c2,rfl,hl,ho,?_,?_⟩
   ·have hnot:HLoc.fld n i ∉ ak (aT (.fld n) (id+rid) (tlB os) B x.2 (i+1)):=by
     intro hm
     rcases iD hm with ⟨k,hk⟩ | ⟨k,_,hk⟩
     ·simp at hk;omega
     ·cases hk
    show SR _ _ (puts H (aT (.fld n) (id+rid) os (.pair A B) x i) (.fld n i)) _
    rw [eP,bJ hnot,hv]
    have hA:GAgree H1 g1 { g with hd:=hd' }:=⟨fun m _=>by rw [e4],fun r hr=>k1 r hr,fun d i _=>by rw [e5],e6.symm⟩
    have hr1:aH H1 v:=by have:=hs1.refF n i;rw [hv] at this;exact this
    exact SR.change hA (IV.le.refl _) hr1 hsr
   ·rw [eP];rw [e1] at k3;exact k3
  have hx1:∀ l,l≠HLoc.fld n i→∀ v,aj H (.fld n i) v l=H l:=fun l h v=>aA _ _ h
  cases hb:hdB os with
  | false=>
   rw [hb] at h1
   have hC:aJ (view g.fl w) A c1 x.1:=by cases A <;> exact h1
   have hs1:=hs.setFld (n:=n) (i:=i) (v:=.pv A x.1) hn SV.noConfusion trivial
   refine rest (g1:=g) (v:=.pv A x.1) rfl rfl (fun _ _=>rfl) rfl rfl hs1 (fun t=>by rw [hx1 _ (by simp)];exact hn t) (by rw [hb];rfl) (fun l hl=> ?_) (fun k hk=>by rw [hx1 _ (by simp)];exact hf' k hk) (aK _ _ _) SV.noConfusion (fun r hr=>by rw [hx1 _ (by simp)];exact hr)
    ⟨c1,hC,rfl⟩ hC.length hC.ones
   rw [hb] at hl
   exact hx1 l (fun e=>hl (by simp [eG,ak,e])) _
  | true=>
   rw [hb] at h1
   cases A <;> first | exact h1.elim | skip
   case slice e _=>
    obtain⟨v,rfl,hr⟩:=h1
    have hbot:H (.row (id+rid+i))=.bot:=hf _ (by simp only [aT,dN,hb,eG,cond,ak];simp)
    have hA:GAgree H g { g with hd:=aB g.hd (id+rid+i) v }:=⟨fun _ _=>rfl,fun r' hr'=>aV _ _ fun e=>hr' (e▸hbot),fun _ _ _=>rfl,rfl⟩
    have hg:=hs.grow hA (IV.le.refl _) (fun _ _ _ h=>⟨rfl,h,rfl⟩) (fun _ _ _ h=>⟨rfl,h,rfl⟩) hs.own hs.old hs.ext
    have hR:jm g.fl g.own w v (.row (id+rid+i)) (pbO os (aI B+1)) (dpO os (aI B+1)) e x.1:=
     hr.v fun o ho=>by rw [hT _ _ ho,hsh,show id+(rid+i)=id+rid+i from by omega]
    have hrow:=hg.setRowD (r:=id+rid+i) (pb:=pbO os (aI B+1)) (dp:=dpO os (aI B+1)) (e:=e) (l:=x.1) (by show jm g.fl g.own w (aB g.hd (id+rid+i) v (id+rid+i)) _ _ _ _ _;rw [bn];exact hR)
    have hs1:=hrow.setFld (n:=n) (i:=i) (v:=.hdr (id+rid+i)) (fun t=>by rw [aA _ _ (by simp)];exact hn t) SV.noConfusion (by simp only [aH];rw [aK];exact lM)
    have hone:oneC v=true:=hR.one
    refine rest (g1:={ g with hd:=aB g.hd (id+rid+i) v }) (v:=.hdr (id+rid+i)) rfl rfl (fun r hr=>hA.hd r hr) rfl rfl hs1 (fun t=> ?_) (by rw [hb];rfl) (fun l hl=> ?_) (fun k hk=> ?_) (aK _ _ _) SV.noConfusion (fun r hr=> ?_) ?_ rfl (by simpa using hone)
    ·rw [aA _ _ (by simp),aA _ _ (by simp)];exact hn t
    ·rw [hb] at hl
     simp only [eG,cond,ak,List.mem_cons,List.not_mem_nil,or_false,not_or] at hl
     rw [aA _ _ hl.2,aA _ _ hl.1]
    ·rw [aA _ _ (by simp),aA _ _ (by
      rcases iD hk with ⟨j,hj⟩ | ⟨j,_,hj⟩
      ·cases hj
      ·simp only [HLoc.row.injEq] at hj;simp;omega)];exact hf' k hk
    ·rw [aA _ _ (by simp)];exact dM lM hr
    ·show mkV (.slice e) [v]=aB g.hd (id+rid+i) v (id+rid+i)
     rw [bn];rfl
   case ptr e _=>
    obtain⟨v,hh,rfl,hph,hr⟩:=h1
    have hbot:H (.row (id+rid+i))=.bot:=hf _ (by simp only [aT,dN,hb,eG,cond,ak];simp)
    have hA:GAgree H g { g with hd:=aB g.hd (id+rid+i) hh }:=⟨fun _ _=>rfl,fun r' hr'=>aV _ _ fun e=>hr' (e▸hbot),fun _ _ _=>rfl,rfl⟩
    have hg:=hs.grow hA (IV.le.refl _) (fun _ _ _ h=>⟨rfl,h,rfl⟩) (fun _ _ _ h=>⟨rfl,h,rfl⟩) hs.own hs.old hs.ext
    have hR:jm g.fl g.own w hh (.row (id+rid+i)) (pbO os (aI B+1)) (dpO os (aI B+1)) e x.1:=
     hr.v fun o ho=>by rw [hT _ _ ho,hsh,show id+(rid+i)=id+rid+i from by omega]
    have hrow:=hg.setRowD (r:=id+rid+i) (pb:=pbO os (aI B+1)) (dp:=dpO os (aI B+1)) (e:=e) (l:=x.1) (by show jm g.fl g.own w (aB g.hd (id+rid+i) hh (id+rid+i)) _ _ _ _ _;rw [bn];exact hR)
    have hs1:=hrow.setFld (n:=n) (i:=i) (v:=.own (id+rid+i)) (fun t=>by rw [aA _ _ (by simp)];exact hn t) SV.noConfusion (by simp only [aH];rw [aK];exact lM)
    have hone:oneC v=true:=by rcases hph with ⟨h,_⟩ | ⟨b,h,_⟩ <;> (rw [h];rfl)
    refine rest (g1:={ g with hd:=aB g.hd (id+rid+i) hh }) (v:=.own (id+rid+i)) rfl rfl (fun r hr=>hA.hd r hr) rfl rfl hs1 (fun t=> ?_) (by rw [hb];rfl) (fun l hl=> ?_) (fun k hk=> ?_) (aK _ _ _) SV.noConfusion (fun r hr=> ?_) ?_ rfl (by simpa using hone)
    ·rw [aA _ _ (by simp),aA _ _ (by simp)];exact hn t
    ·rw [hb] at hl
     simp only [eG,cond,ak,List.mem_cons,List.not_mem_nil,or_false,not_or] at hl
     rw [aA _ _ hl.2,aA _ _ hl.1]
    ·rw [aA _ _ (by simp),aA _ _ (by
      rcases iD hk with ⟨j,hj⟩ | ⟨j,_,hj⟩
      ·cases hj
      ·simp only [HLoc.row.injEq] at hj;simp;omega)];exact hf' k hk
    ·rw [aA _ _ (by simp)];exact dM lM hr
    ·show kX v (aB g.hd (id+rid+i) hh (id+rid+i))
     rw [bn];exact hph
 | _=>intro os cs x i g H hs _ hx _;cases os <;> exact hx.elim
structure NewG (H:HLoc→SV) (g g':Gh):Prop where
 fl:g'.fl=g.fl
 own:g'.own=g.own
 ag:GAgree H g g'
theorem NewG.refl (H:HLoc→SV) (g:Gh):NewG H g g:=⟨rfl,rfl,GAgree.refl H g⟩
theorem NewG.trans {H H':HLoc→SV} {g g' g'':Gh} (h:NewG H g g') (h':NewG H' g' g'') (hH:∀ l,H l≠.bot→H' l≠.bot):NewG H g g'':=
 ⟨h'.fl.trans h.fl,h'.own.trans h.own,⟨fun n hn=>(h'.ag.st n (hH _ hn)).trans (h.ag.st n hn),fun r hr=>(h'.ag.hd r (hH _ hr)).trans (h.ag.hd r hr),fun d i hd=>(h'.ag.cv d i (hH _ hd)).trans (h.ag.cv d i hd),h'.ag.lv.trans h.ag.lv⟩⟩
theorem Jd {T:Own→Own→Prop} {sh:Own→Own} (hT:∀ o t,T o t→o=sh t) {id rid d:Nat} (hsh:∀ k,sh (.row k)=.row (id+k)):∀ {t:Ty} {os:List Bool} {cs:List Value} {x:t.den} {i:Nat} {g:Gh} {H:HLoc→SV},SimG C g S H a w→
  iM T g.fl g.own w rid os t cs x i→(∀ l∈ak (aT (.comp d) (id+rid) os t x i),H l=.bot)→
  ∃ g',NewG H g g'∧SimG C g' S (puts H (aT (.comp d) (id+rid) os t x i)) a w∧dQ (g'.cv d) t i=cs∧iO (g'.cv d) t i∧∀ k,k < nf t→puts H (aT (.comp d) (id+rid) os t x i) (.comp d (i+k))≠.bot:=by
 intro t
 induction t with
 | unit=>
  intro os cs x i g H hs hx _
  exact⟨g,NewG.refl _ _,hs,(show cs=[] from hx).symm,trivial,fun k hk=>by simp [nf] at hk⟩
 | pair A B _ hB=>
  rintro os cs x i g H hs ⟨c1,c2,rfl,h1,h2⟩ hf
  have rest:∀ {g1:Gh} {H1:HLoc→SV} {v:SV},NewG H g g1→(∀ l,H l≠.bot→H1 l≠.bot)→SimG C g1 S H1 a w→H1=puts H (eG (.comp d) (id+rid) (pbO os (aI B+1)) (dpO os (aI B+1)) (hdB os) A x.1 i)→H1 (.comp d i)=v→v≠.bot→g1.cv d i=mkV A c1→c1.length=A.size→(∀ c∈c1,oneC c=true)→
    (∀ l,l ∉ ak (eG (.comp d) (id+rid) (pbO os (aI B+1)) (dpO os (aI B+1)) (hdB os) A x.1 i)→H1 l=H l)→
    ∃ g',NewG H g g'∧SimG C g' S (puts H (aT (.comp d) (id+rid) os (.pair A B) x i)) a w∧dQ (g'.cv d) (.pair A B) i=c1++c2∧iO (g'.cv d) (.pair A B) i∧∀ k,k < nf (.pair A B)→puts H (aT (.comp d) (id+rid) os (.pair A B) x i) (.comp d (i+k))≠.bot:=by
   intro g1 H1 v e1 e2 hs1 hH1 hv hne hcv hl ho hsame
   have hm1:∀ l∈ak (eG (.comp d) (id+rid) (pbO os (aI B+1)) (dpO os (aI B+1)) (hdB os) A x.1 i),l=.comp d i∨l=.row (id+rid+i):=by
    intro l hl
    unfold eG at hl
    cases hb:hdB os with
    | false=>rw [hb] at hl;simp only [cond,ak,List.mem_singleton] at hl;exact .inl hl
    | true=>
     rw [hb] at hl
     simp only [cond] at hl
     split at hl
     ·simp only [ak,List.mem_cons,List.not_mem_nil,or_false] at hl
      exact hl.symm
     ·simp only [ak,List.mem_cons,List.not_mem_nil,or_false] at hl
      exact hl.symm
     ·simp only [ak,List.mem_singleton] at hl;exact .inl hl
   have far:∀ l∈ak (aT (.comp d) (id+rid) (tlB os) B x.2 (i+1)),l ∉ ak (eG (.comp d) (id+rid) (pbO os (aI B+1)) (dpO os (aI B+1)) (hdB os) A x.1 i):=fun l hl hm=>by
    rcases hm1 l hm with rfl | rfl
    ·rcases iD hl with ⟨k,hk⟩ | ⟨k,_,hk⟩
     ·simp at hk;omega
     ·cases hk
    ·rcases iD hl with ⟨k,hk⟩ | ⟨k,_,hk⟩
     ·cases hk
     ·simp at hk;omega
   obtain⟨g',k1,k2,k3,k4,k5⟩:=hB (g:=g1) (H:=H1) (os:=tlB os) (x:=x.2) (i:=i+1) hs1 (by rw [e1.fl,e1.own];exact h2) (fun l hl=>by
    rw [hsame l (far l hl)]
    exact hf l (by simp only [aT,dN];exact List.mem_append_right _ hl))
   have eP:puts H (aT (.comp d) (id+rid) os (.pair A B) x i)=puts H1 (aT (.comp d) (id+rid) (tlB os) B x.2 (i+1)):=by
    rw [hH1,←fJ];rfl
   have hcv':g'.cv d i=mkV A c1:=by rw [k1.ag.cv d i (by rw [hv];exact hne),hcv]
   have hcc:(mkV A c1).cells.toList=c1:=by rw [fV hl ho]
   refine⟨g',e1.trans k1 e2,by rw [eP];exact k2,?_,?_,fun k hk=> ?_⟩
   ·simp only [dQ];rw [hcv',hcc,k3]
   ·simp only [iO]
    rw [hcv',hcc]
    exact⟨rfl,hl,ho,k4⟩
   ·rw [eP]
    cases k with
    | zero=>
     show puts H1 (aT (.comp d) (id+rid) (tlB os) B x.2 (i+1)) (.comp d i)≠.bot
     rw [bJ (fun hm=>far _ hm (by
      unfold eG
      cases hb:hdB os with
      | false=>simp [cond,ak]
      | true=>
       simp only [cond]
       split <;> simp [ak]))]
     rw [hv]
     exact hne
    | succ k=>rw [show i+(k+1)=i+1+k from by omega];exact k5 k (by simp [nf] at hk;omega)
  have hci:H (.comp d i)=.bot:=hf _ (by
   simp only [aT,dN]
   refine List.mem_append_left _ ?_
   unfold eG
   cases hb:hdB os with
   | false=>simp [cond,ak]
   | true=>
    simp only [cond]
    split <;> simp [ak])
  cases hb:hdB os with
  | false=>
   rw [hb] at h1
   have hC:aJ (view g.fl w) A c1 x.1:=by cases A <;> exact h1
   have hs1:=hs.setComp (d:=d) (i:=i) (v:=.pv A x.1) (val:=mkV A c1) hci SV.noConfusion trivial ⟨c1,hC,rfl⟩
   refine rest (g1:={ g with cv:=fun d' i'=>if d'=d∧i'=i then mkV A c1 else g.cv d' i' }) (H1:=aj H (.comp d i) (.pv A x.1)) (v:=.pv A x.1) ⟨rfl,rfl,⟨fun _ _=>rfl,fun _ _=>rfl,fun d' i' hne=> ?_,rfl⟩⟩ (fun l hl=>dM SV.noConfusion hl) hs1 (by rw [hb];rfl) (aK _ _ _) SV.noConfusion (by simp) hC.length hC.ones fun l hl=> ?_
   ·by_cases e:d'=d∧i'=i
    ·obtain⟨rfl,rfl⟩:=e;exact absurd hci hne
    ·simp [e]
   ·rw [hb] at hl
    exact aA _ _ fun e=>hl (by simp [eG,ak,e])
  | true=>
   rw [hb] at h1
   cases A <;> first | exact h1.elim | skip
   case slice e _=>
    obtain⟨v,rfl,hr⟩:=h1
    have hbot:H (.row (id+rid+i))=.bot:=hf _ (by simp only [aT,dN,hb,eG,cond,ak];simp)
    have hA:GAgree H g { g with hd:=aB g.hd (id+rid+i) v }:=⟨fun _ _=>rfl,fun r' hr'=>aV _ _ fun e=>hr' (e▸hbot),fun _ _ _=>rfl,rfl⟩
    have hg:=hs.grow hA (IV.le.refl _) (fun _ _ _ h=>⟨rfl,h,rfl⟩) (fun _ _ _ h=>⟨rfl,h,rfl⟩) hs.own hs.old hs.ext
    have hR:jm g.fl g.own w v (.row (id+rid+i)) (pbO os (aI B+1)) (dpO os (aI B+1)) e x.1:=
     hr.v fun o ho=>by rw [hT _ _ ho,hsh,show id+(rid+i)=id+rid+i from by omega]
    have hone:oneC v=true:=hR.one
    have hrow:=hg.setRowD (r:=id+rid+i) (pb:=pbO os (aI B+1)) (dp:=dpO os (aI B+1)) (e:=e) (l:=x.1) (by show jm g.fl g.own w (aB g.hd (id+rid+i) v (id+rid+i)) _ _ _ _ _;rw [bn];exact hR)
    have hcr:aj H (.row (id+rid+i)) (lY (dpO os (aI B+1)) (pbO os (aI B+1)) e x.1) (.comp d i)=.bot:=by rw [aA _ _ (by simp)];exact hci
    have hs1:=hrow.setComp (d:=d) (i:=i) (v:=.hdr (id+rid+i)) (val:=v) hcr SV.noConfusion (by simp only [aH];rw [aK];exact lM) (by simp [SR])
    refine rest (g1:={ g with hd:=aB g.hd (id+rid+i) v,cv:=fun d' i'=>if d'=d∧i'=i then v else g.cv d' i' }) (H1:=aj (aj H (.row (id+rid+i)) (lY (dpO os (aI B+1)) (pbO os (aI B+1)) e x.1)) (.comp d i) (.hdr (id+rid+i))) (v:=.hdr (id+rid+i)) ⟨rfl,rfl,⟨fun _ _=>rfl,fun r hr=>hA.hd r hr,fun d' i' hne=> ?_,rfl⟩⟩ (fun l hl=>dM SV.noConfusion (dM lM hl)) hs1 (by rw [hb];rfl) (aK _ _ _) SV.noConfusion (by simp [mkV,Ty.agg]) rfl (by simpa using hone) fun l hl=> ?_
    ·by_cases e':d'=d∧i'=i
     ·obtain⟨rfl,rfl⟩:=e';exact absurd hci hne
     ·simp [e']
    ·rw [hb] at hl
     simp only [eG,cond,ak,List.mem_cons,List.not_mem_nil,or_false,not_or] at hl
     rw [aA _ _ hl.2,aA _ _ hl.1]
   case ptr e _=>
    obtain⟨v,hh,rfl,hph,hr⟩:=h1
    have hbot:H (.row (id+rid+i))=.bot:=hf _ (by simp only [aT,dN,hb,eG,cond,ak];simp)
    have hA:GAgree H g { g with hd:=aB g.hd (id+rid+i) hh }:=⟨fun _ _=>rfl,fun r' hr'=>aV _ _ fun e=>hr' (e▸hbot),fun _ _ _=>rfl,rfl⟩
    have hg:=hs.grow hA (IV.le.refl _) (fun _ _ _ h=>⟨rfl,h,rfl⟩) (fun _ _ _ h=>⟨rfl,h,rfl⟩) hs.own hs.old hs.ext
    have hR:jm g.fl g.own w hh (.row (id+rid+i)) (pbO os (aI B+1)) (dpO os (aI B+1)) e x.1:=
     hr.v fun o ho=>by rw [hT _ _ ho,hsh,show id+(rid+i)=id+rid+i from by omega]
    have hone:oneC v=true:=by rcases hph with ⟨h,_⟩ | ⟨b,h,_⟩ <;> (rw [h];rfl)
    have hrow:=hg.setRowD (r:=id+rid+i) (pb:=pbO os (aI B+1)) (dp:=dpO os (aI B+1)) (e:=e) (l:=x.1) (by show jm g.fl g.own w (aB g.hd (id+rid+i) hh (id+rid+i)) _ _ _ _ _;rw [bn];exact hR)
    have hcr:aj H (.row (id+rid+i)) (lY (dpO os (aI B+1)) (pbO os (aI B+1)) e x.1) (.comp d i)=.bot:=by rw [aA _ _ (by simp)];exact hci
    have hs1:=hrow.setComp (d:=d) (i:=i) (v:=.own (id+rid+i)) (val:=v) hcr SV.noConfusion (by simp only [aH];rw [aK];exact lM) (by show kX v (aB g.hd (id+rid+i) hh (id+rid+i));rw [bn];exact hph)
    refine rest (g1:={ g with hd:=aB g.hd (id+rid+i) hh,cv:=fun d' i'=>if d'=d∧i'=i then v else g.cv d' i' }) (H1:=aj (aj H (.row (id+rid+i)) (lY (dpO os (aI B+1)) (pbO os (aI B+1)) e x.1)) (.comp d i) (.own (id+rid+i))) (v:=.own (id+rid+i)) ⟨rfl,rfl,⟨fun _ _=>rfl,fun r hr=>hA.hd r hr,fun d' i' hne=> ?_,rfl⟩⟩ (fun l hl=>dM SV.noConfusion (dM lM hl)) hs1 (by rw [hb];rfl) (aK _ _ _) SV.noConfusion (by simp [mkV,Ty.agg]) rfl (by simpa using hone) fun l hl=> ?_
    ·by_cases e':d'=d∧i'=i
     ·obtain⟨rfl,rfl⟩:=e';exact absurd hci hne
     ·simp [e']
    ·rw [hb] at hl
     simp only [eG,cond,ak,List.mem_cons,List.not_mem_nil,or_false,not_or] at hl
     rw [aA _ _ hl.2,aA _ _ hl.1]
 | _=>intro os cs x i g H _ h;cases os <;> exact h.elim
end
end Go.Sx
namespace Go.Sx
section
variable {C:Ctx} {S:Nat→SV} {a:Act} {w:World}
def ji (H:HLoc→SV) (ws:HW):Prop:=∀ l∈ak ws,(∀ n i,l≠.fld n i)→H l=.bot
def oI (ws:HW):Prop:=∀ p∈ws,p.2≠.bot
theorem rE:∀ {ws:HW} {H:HLoc→SV} {l:HLoc},oI ws→H l≠.bot→puts H ws l≠.bot
 | [],_,_,_,h=>h
 | (m,v)::r,H,l,hn,h=>rE (ws:=r) (fun p hp=>hn p (by simp [hp])) (dM (hn (m,v) (by simp)) h)
theorem yJ {mk:Nat→HLoc} {rid:Nat}:∀ {t:Ty} {os:List Bool} {x:t.den} {i:Nat},oI (aT mk rid os t x i):=by
 intro t
 induction t with
 | pair A B _ hB=>
  intro os x i p hp
  simp only [aT,List.mem_append] at hp
  rcases hp with hp | hp
  ·unfold eG at hp
   cases hb:hdB os with
   | false=>rw [hb] at hp;simp only [cond,List.mem_singleton] at hp;subst hp;exact SV.noConfusion
   | true=>
    rw [hb] at hp
    simp only [cond] at hp
    split at hp
    ·simp only [List.mem_cons,List.not_mem_nil,or_false] at hp
     rcases hp with rfl | rfl
     ·exact lM
     ·exact SV.noConfusion
    ·simp only [List.mem_cons,List.not_mem_nil,or_false] at hp
     rcases hp with rfl | rfl
     ·exact lM
     ·exact SV.noConfusion
    ·simp only [List.mem_singleton] at hp;subst hp;exact SV.noConfusion
  ·exact hB p hp
 | _=>intro os x i p hp;simp [aT] at hp
theorem JQ {T:Own→Own→Prop} {sh:Own→Own} (hT:∀ o t,T o t→o=sh t) {id base:Nat} (hsh:∀ k,sh (.row k)=.row (id+k)) (hsb:sh (.site base)=.site (id+base)) {t:Ty} {os:List Bool} {x:(lay t).den} {v:SV} {ws:HW} {H0:HLoc→SV} {fp fp':List HLoc}
  (h:(resV (id+base) (.newobj t os) x).run H0 fp=some ((v,ws),fp')) {g:Gh} {H:HLoc→SV} (hs:SimG C g S H a w) {val:Value} (hr:o6 T g.fl g.own w base (.newobj t os) val x) (hf:ji H ws) :
  ∃ g',NewG H g g'∧SimG C g' S (puts H ws) a w∧SR g' (view g'.fl w) v val∧aH (puts H ws) v∧oI ws∧v≠.bot:=by
 obtain⟨_,h⟩:=dO h
 obtain⟨_,fp1,k1,h⟩:=bind_some h
 obtain⟨e1,_⟩:=ah h
 cases e1
 obtain⟨b,cs,o,ho,hval,hblk,hob,hfl,hF⟩:=hr
 have hbot:H (.site (id+base))=.bot:=hf _ (by rw [dN];simp [ak]) (fun _ _=>by simp)
 have hA:GAgree H g { g with st:=aB g.st (id+base) b }:=⟨fun n hn=>aV _ _ fun e=>hn (e▸hbot),fun _ _=>rfl,fun _ _ _=>rfl,rfl⟩
 have hg:=hs.grow hA (IV.le.refl _) (fun n t hn h=>by
   have:n≠id+base:=fun e=>by rw [e,hbot] at hn;cases hn
   exact⟨rfl,h,rfl⟩) (fun _ _ _ h=>⟨rfl,h,rfl⟩) hs.own hs.old hs.ext
 obtain⟨hd',k2,k3,k4⟩:=Dq (n:=id+base) hT hsh hg (fun t'=>by rw [hbot];exact SV.noConfusion) hF fun r hr=>hf _ (by rw [dN];exact List.mem_append_left _ hr) (fun _ _=>by simp)
 have hsite:puts H (aT (.fld (id+base)) (id+(base+1)) os (lay t) x 0) (.site (id+base))=.bot:=by
  rw [bJ,hbot]
  intro hm
  rcases iD hm with ⟨k,hk⟩ | ⟨k,_,hk⟩ <;> cases hk
 have hfin:=k3.setSite (n:=id+base) (t:=t) ⟨cs,by
   show Blk w (aB g.st (id+base) b (id+base)) cs
   rw [bn];exact hblk,by
   show g.own (aB g.st (id+base) b (id+base))=_
   rw [bn,hob,hT _ _ ho,hsb],by
   show g.fl (aB g.st (id+base) b (id+base))=0
   rw [bn];exact hfl,by
   exact yL.2 k4⟩
 refine⟨{ g with st:=aB g.st (id+base) b,hd:=hd' },⟨rfl,rfl,⟨hA.st,fun r hr=>k2 r hr,fun _ _ _=>rfl,rfl⟩⟩,by rw [fJ];exact hfin,?_,?_,?_,SV.noConfusion⟩
 ·show val=.pointer (some ⟨aB g.st (id+base) b (id+base),0,none⟩)
  rw [bn];exact hval
 ·show puts H _ _≠_
  rw [fJ]
  simp only [puts];rw [aK];exact SV.noConfusion
 ·intro p hp
  rcases List.mem_append.1 hp with hp | hp
  ·exact yJ p hp
  ·simp at hp;subst hp;exact SV.noConfusion
theorem LY {T:Own→Own→Prop} {sh:Own→Own} (hT:∀ o t,T o t→o=sh t) {id base:Nat} (hsh:∀ k,sh (.row k)=.row (id+k)) (hsb:sh (.site base)=.site (id+base)) {r:RS} {x:r.ty.den} {v:SV} {ws:HW} {H0:HLoc→SV} {fp fp':List HLoc}
  (h:(resV (id+base) r x).run H0 fp=some ((v,ws),fp')) {g:Gh} {H:HLoc→SV} (hs:SimG C g S H a w) {val:Value} (hr:o6 T g.fl g.own w base r val x) (hf:ji H ws) :
  ∃ g',NewG H g g'∧SimG C g' S (puts H ws) a w∧SR g' (view g'.fl w) v val∧aH (puts H ws) v∧oI ws∧v≠.bot:=by
 cases r with
 | pure t=>
  obtain⟨e,_⟩:=ah h
  cases e
  exact⟨g,NewG.refl H g,hs,hr,trivial,fun p hp=>by simp at hp,SV.noConfusion⟩
 | own pub e=>
  obtain⟨_,h⟩:=dO h
  obtain⟨e1,_⟩:=ah h
  cases e1
  have hbot:H (.row (id+base))=.bot:=hf _ (by simp [ak]) (fun _ _=>by simp)
  have hA:GAgree H g { g with hd:=aB g.hd (id+base) val }:=⟨fun _ _=>rfl,fun r' hr'=>aV _ _ fun e=>hr' (e▸hbot),fun _ _ _=>rfl,rfl⟩
  have hg:=hs.grow hA (IV.le.refl _) (fun _ _ _ h=>⟨rfl,h,rfl⟩) (fun _ _ _ h=>⟨rfl,h,rfl⟩) hs.own hs.old hs.ext
  have hR:fA g.fl g.own w val (.row (id+base)) pub e x:=by
   rcases hr with hr | ⟨o,ho,hr⟩
   ·exact .inl hr
   ·rw [hT _ _ ho,hsh] at hr;exact hr
  have hrow:=hg.setRow (r:=id+base) (pub:=pub) (e:=e) (l:=x) (zen.2 (by show fA g.fl g.own w (aB g.hd (id+base) val (id+base)) _ _ _ _;rw [bn];exact hR))
  refine⟨{ g with hd:=aB g.hd (id+base) val },⟨rfl,rfl,hA⟩,hrow,?_,?_,?_,SV.noConfusion⟩
  ·show val=aB g.hd (id+base) val (id+base);rw [bn]
  ·show puts H _ _≠_
   simp only [puts];rw [aK];exact SV.noConfusion
  ·intro p hp;simp at hp;subst hp;exact SV.noConfusion
 | newobj t os=>exact JQ hT hsh hsb h hs hr hf
 | maybe t os=>
  obtain⟨b,y⟩:=x
  rcases hr with ⟨rfl,hv⟩ | ⟨rfl,hr⟩
  ·obtain⟨e,_⟩:=ah (show (Rd.ret (SV.nilp,([]:HW))).run H0 fp=_ from h)
   cases e
   exact⟨g,NewG.refl H g,hs,hv,trivial,fun p hp=>by simp at hp,SV.noConfusion⟩
  ·exact JQ hT hsh hsb (show (resV (id+base) (.newobj t os) y).run H0 fp=_ from h) hs hr hf
 | deep e=>
  obtain⟨_,h⟩:=dO h
  obtain⟨e1,_⟩:=ah h
  cases e1
  have hbot:H (.row (id+base))=.bot:=hf _ (by simp [ak]) (fun _ _=>by simp)
  have hA:GAgree H g { g with hd:=aB g.hd (id+base) val }:=⟨fun _ _=>rfl,fun r' hr'=>aV _ _ fun e=>hr' (e▸hbot),fun _ _ _=>rfl,rfl⟩
  have hg:=hs.grow hA (IV.le.refl _) (fun _ _ _ h=>⟨rfl,h,rfl⟩) (fun _ _ _ h=>⟨rfl,h,rfl⟩) hs.own hs.old hs.ext
  have hR:dW g.fl g.own w val (.row (id+base)) e x (List.length x) none:=by
   rcases hr with ⟨h1,h2⟩ | ⟨o,ho,hr⟩
   ·subst h2;exact⟨Nat.le_refl _,fun k x h=>(by cases h),.inl ⟨h1,rfl⟩⟩
   ·rw [hT _ _ ho,hsh] at hr;exact hr
  have hrow:=hg.setDeep (r:=id+base) (e:=e) (l:=x) (n:=List.length x) (h:=none) (by show dW g.fl g.own w (aB g.hd (id+base) val (id+base)) _ _ _ _ _;rw [bn];exact hR) fun _ _ h=>by cases h
  refine⟨{ g with hd:=aB g.hd (id+base) val },⟨rfl,rfl,hA⟩,hrow,?_,?_,?_,SV.noConfusion⟩
  ·show val=aB g.hd (id+base) val (id+base);rw [bn]
  ·show puts H _ _≠_
   simp only [puts];rw [aK];exact SV.noConfusion
  ·intro p hp;simp at hp;subst hp;exact SV.noConfusion
 | agg t os=>
  obtain⟨_,fp1,k1,h⟩:=bind_some h
  obtain⟨_,fp2,k2,h⟩:=bind_some h
  obtain⟨e1,_⟩:=ah h
  cases e1
  obtain⟨cs,rfl,hF⟩:=hr
  have hagg:t.agg=true:=by cases t <;> first | rfl | (cases os <;> exact hF.elim)
  obtain⟨g',n1,n2,n3,n4,n5⟩:=Jd (d:=id+base) hT hsh hs hF (fun l hl=>hf l hl fun n i e=>by
   subst e
   rcases iD hl with ⟨k,hk⟩ | ⟨k,_,hk⟩ <;> cases hk)
  refine⟨g',n1,n2,⟨hagg,by rw [n3],n4⟩,fun i hi=> ?_,yJ,SV.noConfusion⟩
  have:=n5 i hi
  rwa [Nat.zero_add] at this
theorem zb2 {T:Own→Own→Prop} {sh:Own→Own} (hT:∀ o t,T o t→o=sh t) {id:Nat} (hsh:∀ k,sh (.row k)=.row (id+k)) (hsb:∀ k,k < 81→sh (.site k)=.site (id+k)) {ps:List PS} {P:(dw ps).den→Prop} {H0:HLoc→SV} :
  ∀ {rs:List RS} {i:Nat} {x:(fO rs ps).den} {q:HW×(dw ps).den} {fp fp':List HLoc} {g:Gh} {H:HLoc→SV} {vals:List Value},(tC id ps rs x i).run H0 fp=some (q,fp')→SimG C g S H a w→kW T g.fl g.own w i rs ps vals x P→ji H q.1→(ak q.1).Nodup→i+rs.length≤4→
   ∃ g',NewG H g g'∧SimG C g' S (puts H q.1) a w∧oI q.1∧(∀ j v,vals[j]? = some v→g'.cv id (i+j)=v)∧vals.length=rs.length∧(∀ j,j < rs.length→puts H q.1 (.comp id (i+j))≠.bot)∧P q.2:=by
 intro rs
 induction rs with
 | nil=>
  intro i x q fp fp' g H vals h hs hr _ _ _
  obtain⟨e,_⟩:=ah h
  subst e
  obtain⟨rfl,hP⟩:=hr
  exact⟨g,NewG.refl H g,hs,fun p hp=>by simp at hp,fun j v hj=>by simp at hj,rfl,fun j hj=>by simp at hj,hP⟩
 | cons r rs ih=>
  intro i x q fp fp' g H vals h hs hr hf hnd hle
  obtain⟨_,h⟩:=dO h
  obtain⟨⟨v,ws⟩,fp1,k1,h⟩:=bind_some h
  obtain⟨⟨ws2,z⟩,fp2,k2,h⟩:=bind_some h
  obtain⟨e,_⟩:=ah h
  subst e
  cases vals with
  | nil=>exact hr.elim
  | cons val vals=>
   obtain⟨hr1,hr2⟩:=hr
   rw [show id+1+20*i=id+(1+20*i) from by omega] at k1
   simp only [dN,ak] at hnd hf
   obtain⟨n1,n2,n3⟩:=List.nodup_append.1 hnd
   obtain⟨n4,n5⟩:=List.nodup_cons.1 n2
   obtain⟨g1,a1,a2,a3,a4,a5,a6⟩:=LY hT hsh (hsb _ (by simp at hle;omega)) k1 hs hr1 fun l hl hn=>hf l (by simp [dN,ak,hl]) hn
   have hcomp:puts H ws (.comp id i)=.bot:=by
    rw [bJ (fun hm=>n3 _ hm _ (by simp) rfl)]
    exact hf _ (by simp [dN,ak]) (fun _ _=>by simp)
   have hs2:=a2.setComp (d:=id) (i:=i) hcomp a6 a4 a3
   have e2:puts H (ws++(HLoc.comp id i,v)::ws2)=puts (aj (puts H ws) (.comp id i) v) ws2:=by rw [fJ];rfl
   have hA2:NewG (puts H ws) g1 { g1 with cv:=fun d' i'=>if d'=id∧i'=i then val else g1.cv d' i' }:=
    ⟨rfl,rfl,⟨fun _ _=>rfl,fun _ _=>rfl,fun d' i' hne=>by
     by_cases e:d'=id∧i'=i
     ·obtain⟨rfl,rfl⟩:=e;exact absurd hcomp hne
     ·simp [e],rfl⟩⟩
   obtain⟨g',b1,b2,b3,b4,b5,b6,b7⟩:=ih (vals:=vals) k2 hs2 (by rw [show ({ g1 with cv:=fun d' i'=>if d'=id∧i'=i then val else g1.cv d' i' }:Gh).fl=g.fl from a1.fl,show ({ g1 with cv:=fun d' i'=>if d'=id∧i'=i then val else g1.cv d' i' }:Gh).own=g.own from a1.own];exact hr2)
    (fun l hl hn=>by
     have hlc:l≠HLoc.comp id i:=fun e=>by subst e;exact n4 hl
     rw [aA _ _ hlc,bJ (fun hm=>n3 l hm l (by simp [hl]) rfl)]
     exact hf l (by simp [dN,ak,hl]) hn) n5 (by simp at hle;omega)
   have hcv:g'.cv id i=val:=by
    rw [b1.ag.cv id i (by rw [aK];exact a6)]
    simp
   have live1:∀ l,H l≠.bot→aj (puts H ws) (.comp id i) v l≠.bot:=fun l hl=>dM a6 (rE a5 hl)
   refine⟨g',(a1.trans hA2 fun l hl=>rE a5 hl).trans b1 live1,by rw [e2];exact b2,?_,?_,by simp [b5],?_,b7⟩
   ·intro p hp
    rcases List.mem_append.1 hp with hp | hp
    ·exact a5 p hp
    ·rcases List.mem_cons.1 hp with rfl | hp
     ·exact a6
     ·exact b3 p hp
   ·intro j u hj
    cases j with
    | zero=>simp at hj;subst hj;exact hcv
    | succ j=>rw [show i+(j+1)=i+1+j from by omega];exact b4 j u (by simpa using hj)
   ·intro j hj
    rw [e2]
    cases j with
    | zero=>exact rE b3 (by rw [Nat.add_zero,aK];exact a6)
    | succ j=>rw [show i+(j+1)=i+1+j from by omega];exact b6 j (by simpa using hj)
theorem YQ {T:Own→Own→Prop} {sh:Own→Own} (hT:∀ o t,T o t→o=sh t) {id:Nat} (hsh:∀ k,sh (.row k)=.row (id+k)) (hsb:∀ k,k < 81→sh (.site k)=.site (id+k)) {ps:List PS} {P:(dw ps).den→Prop} {H0:HLoc→SV}
  {rs:List RS} {x:(fO rs ps).den} {v:SV} {ws:HW} {z:(dw ps).den} {fp fp':List HLoc} {g:Gh} {H:HLoc→SV} {vals:List Value} (h:(results id ps rs x).run H0 fp=some ((v,ws,z),fp')) (hs:SimG C g S H a w) (hr:kW T g.fl g.own w 0 rs ps vals x P)
  (hf:ji H ws) (hnd:(ak ws).Nodup) (hle:rs.length≤4) :
  ∃ g',NewG H g g'∧SimG C g' S (puts H ws) a w∧oI ws∧SR g' (view g'.fl w) v (lZ vals)∧aH (puts H ws) v∧P z:=by
 have many:rs.length≠1→((tC id ps rs x 0).bind fun q=>Rd.ret (SV.tup id rs.length,q.1,q.2)).run H0 fp=some ((v,ws,z),fp')→
   ∃ g',NewG H g g'∧SimG C g' S (puts H ws) a w∧oI ws∧SR g' (view g'.fl w) v (lZ vals)∧aH (puts H ws) v∧P z:=by
  intro h1 h
  obtain⟨⟨ws',z'⟩,fp1,k1,h⟩:=bind_some h
  obtain⟨e,_⟩:=ah h
  cases e
  obtain⟨g',b1,b2,b3,b4,b5,b6,b7⟩:=zb2 hT hsh hsb k1 hs hr hf hnd (by omega)
  refine⟨g',b1,b2,b3,?_,fun i hi=>by have:=b6 i hi;rwa [Nat.zero_add] at this,b7⟩
  have hret:lZ vals=.tuple vals.toArray:=by
   match vals,b5 with
   | [],_=>rfl
   | [v],e=>exact absurd e.symm h1
   | _::_::_,_=>rfl
  show lZ vals=_
  rw [hret]
  congr 2
  apply List.ext_getElem?
  intro j
  rw [List.getElem?_map]
  by_cases hj:j < rs.length
  ·have hj':j < vals.length:=by omega
   rw [List.getElem?_range hj,List.getElem?_eq_getElem hj']
   have:=b4 j _ (List.getElem?_eq_getElem hj')
   rw [Nat.zero_add] at this
   simp [this]
  ·rw [List.getElem?_eq_none (by omega),List.getElem?_eq_none (by simp;omega)];rfl
 match rs,x,h,hr,many with
 | [],x,h,hr,many=>exact many (by simp) h
 | [r],x,h,hr,many=>
  obtain⟨⟨v1,ws1⟩,fp1,k1,h⟩:=bind_some h
  obtain⟨e,_⟩:=ah h
  cases e
  match vals,hr with
  | [],hr=>exact hr.elim
  | [val],⟨hr1,_,hP⟩=>
   obtain⟨g',a1,a2,a3,a4,a5,a6⟩:=LY (base:=1+20*0) hT hsh (hsb _ (by omega)) k1 hs hr1 hf
   exact⟨g',a1,a2,a5,a3,a4,hP⟩
  | _::_::_,⟨_,h2,_⟩=>simp at h2
 | r1::r2::rs,x,h,hr,many=>exact many (by simp) h
end
end Go.Sx
namespace Go.Sx
section
variable {C:Ctx} {S:Nat→SV} {a:Act} {w:World}
def aQ:List PS→List SV→List Own
 | .obj _ _::r,.adr s _::vs=>.site s::aQ r vs
 | .obj _ _::r,.own q::vs=>.row q::aQ r vs
 | .agg _ _::r,_::vs=>aQ r vs
 | .pure _::r,_::vs=>aQ r vs
 | .lent _::r,_::vs=>aQ r vs
 | .rptr _::r,_::vs=>aQ r vs
 | .nilp::r,_::vs=>aQ r vs
 | .fnc _ _::r,_::vs=>aQ r vs
 | .box::r,.adr s _::vs=>.site s::aQ r vs
 | .row _::r,.hdr q::vs=>.row q::aQ r vs
 | _,_=>[]
theorem BR {H:HLoc→SV} {r:List PS} {rid:Nat} {s:SV} {svs:List SV} {x:(dw r).den} {ws:HW} {fp fp':List HLoc} (h:(dG rid (.box::r) (s::svs) x).run H fp=some (ws,fp')) :
  ∃ st off b2 o2 svs' ws2 fp1 fp2,s=.adr st off∧svs=.adr b2 o2::svs'∧(dG (rid+20) r (.adr b2 o2::svs') x).run H fp1=some (ws2,fp2)∧ws=(HLoc.fld st 0,SV.adr b2 o2)::(HLoc.site st,SV.obj bF)::ws2∧Own.site b2∈aQ r (.adr b2 o2::svs')∧HLoc.site b2∈ak ws2:=by
 cases s with
 | adr st off=>
  cases svs with
  | nil=>exact (ae (show (Rd.fail:Rd HW).run H fp=_ from h)).elim
  | cons s2 svs'=>
   cases s2 with
   | adr b2 o2=>
    have h:(cond (zI r) ((dG (rid+20) r (.adr b2 o2::svs') x).bind fun ws=>Rd.ret ((HLoc.fld st 0,SV.adr b2 o2)::(HLoc.site st,SV.obj bF)::ws)) .fail).run H fp=some (ws,fp'):=h
    cases r with
    | nil=>exact (ae (show (Rd.fail:Rd HW).run H fp=_ from h)).elim
    | cons q r=>
     cases q with
     | obj t os=>
      obtain⟨ws2,fp1,k1,h⟩:=bind_some (show ((dG (rid+20) (.obj t os::r) (.adr b2 o2::svs') x).bind _).run H fp=some (ws,fp') from h)
      obtain⟨e,_⟩:=ah h
      refine⟨st,off,b2,o2,svs',ws2,_,_,rfl,rfl,k1,e.symm▸rfl,by simp [aQ],?_⟩
      obtain⟨_,fp3,_,h⟩:=bind_some (show ((iK (rid+20) os 0).bind fun _=>(dG (rid+20+20) r svs' x.2).bind fun ws=>Rd.ret (aT (.fld b2) (rid+20) os (lay t) x.1 0++(HLoc.site b2,SV.obj t)::ws)).run H fp=some (ws2,fp1) from k1)
      obtain⟨ws3,fp4,_,h⟩:=bind_some h
      obtain⟨e,_⟩:=ah h
      subst e
      simp [dN,ak]
     | _=>exact (ae (show (Rd.fail:Rd HW).run H fp=_ from h)).elim
   | _=>exact (ae (show (Rd.fail:Rd HW).run H fp=_ from h)).elim
 | _=>exact (ae (show (Rd.fail:Rd HW).run H fp=_ from h)).elim
theorem BP {H:HLoc→SV} {e:Ty} {r:List PS} {rid:Nat} {s:SV} {svs:List SV} {x:(dw (.row e::r)).den} {ws:HW} {fp fp':List HLoc} (h:(dG rid (.row e::r) (s::svs) x).run H fp=some (ws,fp')) :
  ∃ q ws2 fp1 fp2,s=.hdr q∧(dG (rid+20) r svs x.2).run H fp1=some (ws2,fp2)∧ws=(HLoc.row q,SV.row false e x.1)::ws2:=by
 cases s with
 | hdr q=>
  obtain⟨ws2,fp1,k1,h⟩:=bind_some (show ((dG (rid+20) r svs x.2).bind _).run H fp=some (ws,fp') from h)
  obtain⟨e,_⟩:=ah h
  exact⟨q,ws2,_,_,rfl,k1,e⟩
 | _=>exact (ae (show (Rd.fail:Rd HW).run H fp=_ from h)).elim
theorem BQ {H:HLoc→SV} {t:Ty} {os:List Bool} {r:List PS} {rid q:Nat} {svs:List SV} {x:(dw (.obj t os::r)).den} {ws:HW} {fp fp':List HLoc} (h:(dG rid (.obj t os::r) (.own q::svs) x).run H fp=some (ws,fp')) :
  ∃ ws2 fp1 fp2,os=[]∧(dG (rid+20) r svs x.2).run H fp1=some (ws2,fp2)∧ws=(HLoc.row q,SV.row false (lay t) [x.1])::ws2:=by
 have h:(cond (List.isEmpty os) ((dG (rid+20) r svs x.2).bind fun ws=>Rd.ret ((HLoc.row q,SV.row false (lay t) [x.1])::ws)) .fail).run H fp=some (ws,fp'):=h
 cases ho:List.isEmpty os with
 | false=>rw [ho] at h;exact (ae h).elim
 | true=>
  rw [ho] at h
  obtain⟨ws2,fp1,k1,h⟩:=bind_some (show ((dG (rid+20) r svs x.2).bind _).run H fp=some (ws,fp') from h)
  obtain⟨e,_⟩:=ah h
  exact⟨ws2,_,_,List.isEmpty_iff.1 ho,k1,e⟩
theorem iM.crep {T:Own→Own→Prop} {fl:Nat→Nat} {own:Nat→Option Own} {w:World} {rid:Nat}:∀ {t:Ty} {cs:List Value} {x:t.den} {i:Nat},iM T fl own w rid [] t cs x i→aJ (view fl w) t cs x:=by
 intro t
 induction t with
 | pair A B _ hB=>
  rintro cs x i ⟨c1,c2,h1,h2,h3⟩
  exact⟨c1,c2,h1,by cases A <;> exact h2,hB h3⟩
 | unit=>intro cs x i h;exact h
 | _=>intro cs x i h;exact h.elim
theorem Di {H:HLoc→SV}:∀ {ps:List PS} {rid:Nat} {svs:List SV} {x:(dw ps).den} {ws:HW} {fp fp':List HLoc},(dG rid ps svs x).run H fp=some (ws,fp')→∀ q,Own.row q∈aQ ps svs→HLoc.row q∈ak ws:=by
 intro ps
 induction ps with
 | nil=>intro rid svs x ws fp fp' h q hq;simp [aQ] at hq
 | cons p ps ih=>
  intro rid svs x ws fp fp' h q hq
  cases svs with
  | nil=>cases p <;> simp [aQ] at hq
  | cons s svs=>
   cases p with
   | pure t=>exact ih (svs:=svs) (x:=x) h q (by simpa [aQ] using hq)
   | lent t=>exact ih (svs:=svs) (x:=x) h q (by simpa [aQ] using hq)
   | rptr t=>exact ih (svs:=svs) (x:=x) h q (by simpa [aQ] using hq)
   | nilp=>exact ih (svs:=svs) (x:=x) h q (by simpa [aQ] using hq)
   | agg t os=>exact ih (svs:=svs) (x:=x) h q (by simpa [aQ] using hq)
   | fnc f n=>exact ih (svs:=svs) (x:=x) h q (by simpa [aQ] using hq)
   | box=>
    obtain⟨st,off,b2,o2,svs',ws2,fp1,fp2,rfl,rfl,k2,rfl,hmem,hin⟩:=BR h
    have:=ih k2 q (by simpa [aQ] using hq)
    simp [ak,this]
   | row e=>
    obtain⟨q',ws2,fp1,fp2,rfl,k2,rfl⟩:=BP h
    simp only [aQ,List.mem_cons,Own.row.injEq] at hq
    rcases hq with rfl | hq
    ·simp [ak]
    ·have:=ih k2 q hq
     simp [ak,this]
   | obj t os=>
    cases s with
    | adr st off=>
     have h:((iK rid os 0).bind fun _=>(dG (rid+20) ps svs x.2).bind fun ws=>Rd.ret (aT (.fld st) rid os (lay t) x.1 0++(HLoc.site st,SV.obj t)::ws)).run H fp=some (ws,fp'):=h
     obtain⟨_,fp1,k1,h⟩:=bind_some h
     obtain⟨ws2,fp2,k2,h⟩:=bind_some h
     obtain⟨e,_⟩:=ah h
     subst e
     have:=ih k2 q (by simpa [aQ] using hq)
     simp [dN,ak,this]
    | own q'=>
     obtain⟨ws2,fp1,fp2,_,k2,rfl⟩:=BQ h
     simp only [aQ,List.mem_cons,Own.row.injEq] at hq
     rcases hq with rfl | hq
     ·simp [ak]
     ·have:=ih k2 q hq
      simp [ak,this]
    | _=>exact (ae (show (Rd.fail:Rd HW).run H fp=_ from h)).elim
theorem zdq {T:Own→Own→Prop} {sh:Own→Own} (hT:∀ o t,T o t→o=sh t) {id:Nat} (hsh:∀ k,sh (.row k)=.row (id+k)) {H0:HLoc→SV} {g0:Gh} {iv0:IV} :
  ∀ {ps:List PS} {svs:List SV} {vs:List Value} {j:Nat} {x:(dw ps).den} {ws:HW} {fp fp':List HLoc} {g:Gh} {H:HLoc→SV},(dG (id+80+20*j) ps svs x).run H0 fp=some (ws,fp')→SimG C g S H a w→fQ T g.fl g.own w j ps vs x→
   (∀ k s,(aQ ps svs)[k]? = some s→sh (.site (81+20*(j+k)))=s)→svs.length=vs.length→(∀ (k:Nat) (s:SV) (v:Value),svs[k]? = some s→vs[k]? = some v→SR g0 iv0 s v)→(∀ s,Own.site s∈aQ ps svs→g.st s=g0.st s)→(∀ q,Own.row q∈aQ ps svs→H0 (.row q)≠.bot∧H (.row q)=.und∧g.hd q=g0.hd q)→
   (∀ l∈ak ws,(∀ r,l=.row r→H0 l=.bot→H l=.bot)∧(∀ n,l=.site n→H l=.und))→(ak ws).Nodup→
   ∃ g',NewG H g g'∧SimG C g' S (puts H ws) a w∧oI ws:=by
 intro ps
 induction ps with
 | nil=>
  intro svs vs j x ws fp fp' g H h hs _ _ _ _ _ _ _ _
  obtain⟨e,_⟩:=ah (show (Rd.ret ([]:HW)).run H0 fp=_ from h)
  subst e
  exact⟨g,NewG.refl H g,hs,fun p hp=>by simp at hp⟩
 | cons p ps ih=>
  intro svs vs j x ws fp fp' g H h hs hx hss hl hv hst hrt hf hnd
  cases svs with
  | nil=>cases p <;> exact (ae (show (Rd.fail:Rd HW).run H0 fp=_ from h)).elim
  | cons s svs=>
   cases vs with
   | nil=>simp at hl
   | cons v vs=>
    cases p with
    | pure t=>
     exact ih (svs:=svs) (vs:=vs) (j:=j) (x:=x) h hs hx hss (by simpa using hl) (fun k s' v' h1 h2=>hv (k+1) s' v' (by simpa using h1) (by simpa using h2)) hst hrt hf hnd
    | lent t=>
     exact ih (svs:=svs) (vs:=vs) (j:=j) (x:=x) h hs hx hss (by simpa using hl) (fun k s' v' h1 h2=>hv (k+1) s' v' (by simpa using h1) (by simpa using h2)) hst hrt hf hnd
    | rptr t=>
     exact ih (svs:=svs) (vs:=vs) (j:=j) (x:=x) h hs hx hss (by simpa using hl) (fun k s' v' h1 h2=>hv (k+1) s' v' (by simpa using h1) (by simpa using h2)) hst hrt hf hnd
    | agg t os=>
     exact ih (svs:=svs) (vs:=vs) (j:=j) (x:=x) h hs hx hss (by simpa using hl) (fun k s' v' h1 h2=>hv (k+1) s' v' (by simpa using h1) (by simpa using h2)) hst hrt hf hnd
    | fnc f n=>
     exact ih (svs:=svs) (vs:=vs) (j:=j) (x:=x) h hs hx hss (by simpa using hl) (fun k s' v' h1 h2=>hv (k+1) s' v' (by simpa using h1) (by simpa using h2)) hst hrt hf hnd
    | nilp=>
     exact ih (svs:=svs) (vs:=vs) (j:=j) (x:=x) h hs hx hss (by simpa using hl) (fun k s' v' h1 h2=>hv (k+1) s' v' (by simpa using h1) (by simpa using h2)) hst hrt hf hnd
    | box=>
     obtain⟨st,off,b2,o2,svs',ws2,fp1,fp2,rfl,rfl,k2,rfl,hmem,hin⟩:=BR h
     obtain⟨⟨p,rest,rfl,b,o,ho,hval,hblk,hob,hfl⟩,hx2⟩:=hx
     simp only [ak] at hnd
     obtain⟨n1,n2⟩:=List.nodup_cons.1 hnd
     obtain⟨n3,n4⟩:=List.nodup_cons.1 n2
     have hsite:H (.site st)=.und:=(hf (.site st) (by simp [ak])).2 st rfl
     have hb:b=g.st st:=by
      have h1:v=.pointer (some ⟨g0.st st,off,none⟩):=hv 0 _ _ rfl rfl
      rw [hst st (by simp [aQ])]
      rw [hval] at h1
      simpa using (by simpa using h1:b=g0.st st∧0=off).1
     subst hb
     have hp:p=Value.pointer (some ⟨g.st b2,o2,none⟩):=by
      rw [hst b2 (by simp [aQ,hmem])]
      exact hv 1 (.adr b2 o2) p rfl rfl
     have hlive2:H (.site b2)≠.bot:=by
      rw [(hf (.site b2) (by simp [ak,hin])).2 b2 rfl];exact SV.noConfusion
     have hs1:=hs.setFld (n:=st) (i:=0) (v:=.adr b2 o2) (fun t'=>by rw [hsite];exact SV.noConfusion) SV.noConfusion hlive2
     have hfin:=hs1.setSite (n:=st) (t:=bF) ⟨[p],hblk,by
      show g.own (g.st st)=_
      rw [hob,hT _ _ ho]
      have:=hss 0 (.site st) (by simp [aQ])
      rw [Nat.add_zero] at this
      rw [this],hfl,p,rfl,by rw [hp];rfl,by
       show SR g (view g.fl w) (aj H (.fld st 0) (.adr b2 o2) (.fld st 0)) p
       rw [aK];exact hp⟩
     have live1:∀ l,H l≠.bot→aj (aj H (.fld st 0) (.adr b2 o2)) (.site st) (.obj bF) l≠.bot:=fun l hl=>dM SV.noConfusion (dM SV.noConfusion hl)
     obtain⟨g',c1,c2,c3⟩:=ih (svs:=.adr b2 o2::svs') (vs:=p::rest) (j:=j+1) (x:=x) (by rw [show id+80+20*(j+1)=id+80+20*j+20 from by omega];exact k2) hfin hx2
      (fun k s' hk=>by have:=hss (k+1) s' (by simpa [aQ] using hk);rwa [show j+(k+1)=j+1+k from by omega] at this) (by simpa using hl) (fun k s' v' h1 h2=>hv (k+1) s' v' (by simpa using h1) (by simpa using h2))
      (fun s' hs'=>hst s' (by simp [aQ,hs'])) (fun q hq=>by
       obtain⟨y1,y2,y3⟩:=hrt q (by simp [aQ,hq])
       exact⟨y1,by rw [aA _ _ (by simp),aA _ _ (by simp)];exact y2,y3⟩) (fun l hl'=>by
       have e1:l≠HLoc.site st:=fun e=>by subst e;exact n3 hl'
       have e2:l≠HLoc.fld st 0:=fun e=>by subst e;exact n1 (List.mem_cons_of_mem _ hl')
       rw [aA _ _ e1,aA _ _ e2]
       exact hf l (by simp [ak,hl'])) n4
     refine⟨g',NewG.trans (g':=g) (H':=aj (aj H (.fld st 0) (.adr b2 o2)) (.site st) (.obj bF)) (NewG.refl H g) c1 live1,c2,?_⟩
     intro q hq
     rcases List.mem_cons.1 hq with rfl | hq
     ·exact SV.noConfusion
     ·rcases List.mem_cons.1 hq with rfl | hq
      ·exact SV.noConfusion
      ·exact c3 q hq
    | row e=>
     obtain⟨q,ws2,fp1,fp2,rfl,k2,rfl⟩:=BP h
     obtain⟨hrow,hx2⟩:=hx
     simp only [ak] at hnd
     obtain⟨n1,n2⟩:=List.nodup_cons.1 hnd
     obtain⟨y1,y2,y3⟩:=hrt q (by simp [aQ])
     have hval:v=g.hd q:=by rw [y3];exact hv 0 _ _ rfl rfl
     have hro:nI g w q false e x.1:=zen.2 (by
      rcases hrow with ⟨h1,h2⟩ | ⟨o,ho,h1⟩
      ·exact .inl ⟨hval▸h1,h2⟩
      ·have:=hss 0 (.row q) (by simp [aQ])
       rw [Nat.add_zero] at this
       rw [←hval,←this,←hT _ _ ho];exact h1)
     have hfin:=hs.setRow hro
     have live1:∀ l,H l≠.bot→aj H (.row q) (.row false e x.1) l≠.bot:=fun l hl=>dM SV.noConfusion hl
     have hin:∀ q',Own.row q'∈aQ ps svs→q'≠q:=fun q' hq' e=>n1 (by subst e;exact Di k2 _ hq')
     obtain⟨g',c1,c2,c3⟩:=ih (svs:=svs) (vs:=vs) (j:=j+1) (x:=x.2) (by rw [show id+80+20*(j+1)=id+80+20*j+20 from by omega];exact k2) hfin hx2
      (fun k s' hk=>by have:=hss (k+1) s' (by simpa [aQ] using hk);rwa [show j+(k+1)=j+1+k from by omega] at this) (by simpa using hl) (fun k s' v' h1 h2=>hv (k+1) s' v' (by simpa using h1) (by simpa using h2))
      (fun s' hs'=>hst s' (by simp [aQ,hs'])) (fun q' hq'=>by
       obtain⟨z1,z2,z3⟩:=hrt q' (by simp [aQ,hq'])
       exact⟨z1,by rw [aA _ _ (by simp;exact hin q' hq')];exact z2,z3⟩) (fun l hl'=>by
       have e1:l≠HLoc.row q:=fun e=>by subst e;exact n1 hl'
       rw [aA _ _ e1]
       exact hf l (by simp [ak,hl'])) n2
     refine⟨g',NewG.trans (g':=g) (H':=aj H (.row q) (.row false e x.1)) (NewG.refl H g) c1 live1,c2,?_⟩
     intro p hp
     rcases List.mem_cons.1 hp with rfl | hp
     ·exact SV.noConfusion
     ·exact c3 p hp
    | obj t os=>
     cases s with
     | adr st off=>
      have h:((iK (id+80+20*j) os 0).bind fun _=>(dG (id+80+20*j+20) ps svs x.2).bind fun ws=>Rd.ret (aT (.fld st) (id+80+20*j) os (lay t) x.1 0++(HLoc.site st,SV.obj t)::ws)).run H0 fp=some (ws,fp'):=h
      obtain⟨_,fp1,k1,h⟩:=bind_some h
      obtain⟨ws2,fp2,k2,h⟩:=bind_some h
      obtain⟨e,_⟩:=ah h
      subst e
      obtain⟨⟨b,cs,o,ho,hval,hblk,hob,hfl,hF⟩,hx2⟩:=hx
      simp only [dN,ak] at hnd
      obtain⟨n1,n2,n3⟩:=List.nodup_append.1 hnd
      obtain⟨n4,n5⟩:=List.nodup_cons.1 n2
      have hsite:H (.site st)=.und:=(hf (.site st) (by simp [dN,ak])).2 st rfl
      rw [show id+80+20*j=id+(80+20*j) from by omega] at k1 n1 n3 ⊢
      have hfresh:∀ r,HLoc.row r∈ak (aT (.fld st) (id+(80+20*j)) os (lay t) x.1 0)→H0 (.row r)=.bot:=fun r hr=>by
       rcases iD hr with ⟨k,hk⟩ | ⟨k,hk1,hk⟩
       ·cases hk
       ·rw [hk];exact vP k1 k hk1
      obtain⟨hd',q1,q2,q3⟩:=Dq (n:=st) hT hsh hs (fun t'=>by rw [hsite];exact SV.noConfusion) hF fun r hr=>(hf (.row r) (by rw [dN,show id+80+20*j=id+(80+20*j) from by omega];exact List.mem_append_left _ hr)).1 r rfl (hfresh r hr)
      have hb:b=g.st st:=by
       have h1:v=.pointer (some ⟨g0.st st,off,none⟩):=hv 0 _ _ rfl rfl
       rw [hst st (by simp [aQ])]
       rw [hval] at h1
       simpa using (by simpa using h1:b=g0.st st∧0=off).1
      subst hb
      have hfin:=q2.setSite (n:=st) (t:=t) ⟨cs,hblk,by
       show g.own (g.st st)=_
       rw [hob,hT _ _ ho]
       have:=hss 0 (.site st) (by simp [aQ])
       rw [Nat.add_zero] at this
       rw [this],hfl,yL.2 q3⟩
      have live1:∀ l,H l≠.bot→aj (puts H (aT (.fld st) (id+(80+20*j)) os (lay t) x.1 0)) (.site st) (.obj t) l≠.bot:=fun l hl=>dM SV.noConfusion (rE yJ hl)
      obtain⟨g',b1,b2,b3⟩:=ih (svs:=svs) (vs:=vs) (j:=j+1) (x:=x.2) (by rw [show id+80+20*(j+1)=id+80+20*j+20 from by omega];exact k2) hfin hx2
       (fun k s' hk=>by have:=hss (k+1) s' (by simpa [aQ] using hk);rwa [show j+(k+1)=j+1+k from by omega] at this) (by simpa using hl) (fun k s' v' h1 h2=>hv (k+1) s' v' (by simpa using h1) (by simpa using h2))
       (fun s' hs'=>hst s' (by simp [aQ,hs'])) (fun q hq=>by
        obtain⟨y1,y2,y3⟩:=hrt q (by simp [aQ,hq])
        have e2:HLoc.row q ∉ ak (aT (.fld st) (id+(80+20*j)) os (lay t) x.1 0):=fun hm=>y1 (hfresh q hm)
        exact⟨y1,by rw [aA _ _ (by simp),bJ e2];exact y2,(q1 q (by rw [y2];exact SV.noConfusion)).trans y3⟩) (fun l hl'=>by
        have e1:l≠HLoc.site st:=fun e=>by subst e;exact n4 hl'
        have e2:l ∉ ak (aT (.fld st) (id+(80+20*j)) os (lay t) x.1 0):=fun hm=>n3 l hm l (by simp [hl']) rfl
        rw [aA _ _ e1,bJ e2]
        exact hf l (by simp [dN,ak,hl'])) n5
      refine⟨g',NewG.trans (g':={ g with hd:=hd' }) (H':=aj (puts H (aT (.fld st) (id+(80+20*j)) os (lay t) x.1 0)) (.site st) (.obj t)) ⟨rfl,rfl,⟨fun _ _=>rfl,fun r hr=>q1 r hr,fun _ _ _=>rfl,rfl⟩⟩ b1 live1,by rw [fJ];exact b2,?_⟩
      intro p hp
      rcases List.mem_append.1 hp with hp | hp
      ·exact yJ p hp
      ·rcases List.mem_cons.1 hp with rfl | hp
       ·exact SV.noConfusion
       ·exact b3 p hp
     | own q=>
      obtain⟨ws2,fp1,fp2,rfl,k2,rfl⟩:=BQ h
      obtain⟨⟨b,cs,o,ho,hval,hblk,hob,hfl,hF⟩,hx2⟩:=hx
      simp only [ak] at hnd
      obtain⟨n1,n2⟩:=List.nodup_cons.1 hnd
      obtain⟨y1,y2,y3⟩:=hrt q (by simp [aQ])
      have hph:kX v (g.hd q):=by rw [y3];exact hv 0 (.own q) v rfl rfl
      have hC:=hF.crep
      have hro:nI g w q false (lay t) [x.1]:=by
       rcases hph with ⟨h1,_⟩ | ⟨b',h1,h2⟩
       ·rw [hval] at h1;exact Value.noConfusion h1 fun e=>by simp at e
       ·rw [hval] at h1
        have hbb:b=b':=by simpa using h1
        subst hbb
        refine .inr ⟨b,1,cs,h2,Nat.le_refl _,hblk,by rw [hC.length,Nat.one_mul],?_,hfl,fun i z hi=> ?_⟩
        ·rw [hob,hT _ _ ho]
         have:=hss 0 (.row q) (by simp [aQ])
         rw [Nat.add_zero] at this
         rw [this]
        ·cases i with
         | succ i=>simp at hi
         | zero=>
          simp only [List.getElem?_cons_zero,Option.some.injEq] at hi
          subst hi
          exact⟨cs,fun j v hj=>by simpa using hj,hC⟩
      have hfin:=hs.setRow hro
      have live1:∀ l,H l≠.bot→aj H (.row q) (.row false (lay t) [x.1]) l≠.bot:=fun l hl=>dM SV.noConfusion hl
      have hin:∀ q',Own.row q'∈aQ ps svs→q'≠q:=fun q' hq' e=>n1 (by subst e;exact Di k2 _ hq')
      obtain⟨g',c1,c2,c3⟩:=ih (svs:=svs) (vs:=vs) (j:=j+1) (x:=x.2) (by rw [show id+80+20*(j+1)=id+80+20*j+20 from by omega];exact k2) hfin hx2
       (fun k s' hk=>by have:=hss (k+1) s' (by simpa [aQ] using hk);rwa [show j+(k+1)=j+1+k from by omega] at this) (by simpa using hl) (fun k s' v' h1 h2=>hv (k+1) s' v' (by simpa using h1) (by simpa using h2))
       (fun s' hs'=>hst s' (by simp [aQ,hs'])) (fun q' hq'=>by
        obtain⟨z1,z2,z3⟩:=hrt q' (by simp [aQ,hq'])
        exact⟨z1,by rw [aA _ _ (by simp;exact hin q' hq')];exact z2,z3⟩) (fun l hl'=>by
        have e1:l≠HLoc.row q:=fun e=>by subst e;exact n1 hl'
        rw [aA _ _ e1]
        exact hf l (by simp [ak,hl'])) n2
      refine⟨g',NewG.trans (g':=g) (H':=aj H (.row q) (.row false (lay t) [x.1])) (NewG.refl H g) c1 live1,c2,?_⟩
      intro p hp
      rcases List.mem_cons.1 hp with rfl | hp
      ·exact SV.noConfusion
      ·exact c3 p hp
     | _=>exact (ae (show (Rd.fail:Rd HW).run H0 fp=_ from h)).elim
theorem IL:∀ {l:List Sig} {vs:List SV} {sg:Sig},wu l vs=some sg→sg∈l
 | [],_,_,h=>by simp [wu] at h
 | s::r,vs,sg,h=>by
  simp only [wu] at h
  cases hb:jd s.ps vs with
  | true=>rw [hb] at h;simp at h;simp [h]
  | false=>rw [hb] at h;exact List.mem_cons_of_mem _ (IL h)
theorem Dn:∀ l:List HLoc,ak (iP l)=l
 | []=>rfl
 | a::r=>by simp [iP,ak,Dn r]
theorem rJ:∀ {l:List HLoc} {H:HLoc→SV} {x:HLoc},x∈l→puts H (iP l) x=.und
 | a::r,H,x,h=>by
  simp only [iP,puts]
  by_cases hx:x∈r
  ·exact rJ hx
  ·rw [bJ (by rw [Dn];exact hx)]
   rcases List.mem_cons.1 h with rfl | h
   ·exact aK _ _ _
   ·exact absurd h hx
theorem SimG.drops:∀ {m:List (Own×Own)} {g:Gh} {H:HLoc→SV},SimG C g S H a w→SimG C g S (puts H (iP (m.map fun p=>cO p.1))) a w
 | [],_,_,hs=>hs
 | p::r,g,H,hs=>by
  have:SimG C g S (aj H (cO p.1) .und) a w:=hs.drop (by
   cases p.1 with
   | site n=>exact .inl ⟨n,rfl⟩
   | row n=>exact .inr ⟨n,rfl⟩)
  exact SimG.drops (m:=r) this
theorem Yv {H:HLoc→SV}:∀ {ps:List PS} {svs:List SV} {q:(bz ps).den×HW×List HLoc} {fp fp':List HLoc},(bK ps svs).run H fp=some (q,fp')→∀ s∈aQ ps svs,cO s∈q.2.2:=by
 intro ps
 induction ps with
 | nil=>intro svs q fp fp' _ s hs;simp [aQ] at hs
 | cons p ps ih=>
  intro svs q fp fp' h s hs
  cases svs with
  | nil=>cases p <;> simp [aQ] at hs
  | cons v svs=>
   cases p with
   | pure t=>
    rw [CY] at h
    obtain⟨y,fp1,k1,h⟩:=bind_some h
    obtain⟨z,fp2,k2,h⟩:=bind_some h
    obtain⟨e,_⟩:=ah h
    subst e
    exact ih k2 s (by simpa [aQ] using hs)
   | lent t=>
    rw [C9] at h
    obtain⟨y,fp1,k1,h⟩:=bind_some h
    obtain⟨z,fp2,k2,h⟩:=bind_some h
    obtain⟨e,_⟩:=ah h
    subst e
    exact ih k2 s (by simpa [aQ] using hs)
   | rptr t=>
    rw [CX] at h
    obtain⟨y,fp1,k1,h⟩:=bind_some h
    obtain⟨z,fp2,k2,h⟩:=bind_some h
    obtain⟨e,_⟩:=ah h
    subst e
    exact ih k2 s (by simpa [aQ] using hs)
   | nilp=>
    rw [CZ] at h
    cases v <;> first | exact (ae h).elim | skip
    exact ih h s (by simpa [aQ] using hs)
   | agg t os=>
    rw [DT] at h
    cases v <;> first | exact (ae h).elim | skip
    rename_i d t'
    simp only at h
    cases hb:t'.beq t with
    | false=>rw [hb] at h;exact (ae h).elim
    | true=>
     rw [hb] at h
     obtain⟨y,fp1,k1,h⟩:=bind_some (show (Rd.bind _ _).run H _=_ from h)
     obtain⟨dd,fp2,k2,h⟩:=bind_some h
     obtain⟨z,fp3,k3,h⟩:=bind_some h
     obtain⟨e,_⟩:=ah h
     subst e
     have:=ih k3 s (by simpa [aQ] using hs)
     simp [this]
   | fnc f n=>
    rw [DN] at h
    cases v <;> first | exact (ae h).elim | skip
    rename_i f' d n'
    simp only at h
    cases hb:cond (Nat.beq f f') (Nat.beq n n') false with
    | false=>rw [hb] at h;exact (ae h).elim
    | true=>
     rw [hb] at h
     exact ih h s (by simpa [aQ] using hs)
   | box=>
    obtain⟨z,hw,d⟩:=q
    obtain⟨st,b,o,svs',fp1,fp2,z2,hw2,d2,rfl,rfl,_,_,k3,rfl,rfl,rfl⟩:=BO h
    simp only [aQ,List.mem_cons] at hs
    rcases hs with rfl | hs
    ·simp [cO]
    ·have:=ih k3 s hs;simp [this]
   | row e=>
    obtain⟨z,hw,d⟩:=q
    obtain⟨q,l,fp1,fp2,z2,d2,rfl,_,k3,rfl,rfl⟩:=BN h
    simp only [aQ,List.mem_cons] at hs
    rcases hs with rfl | hs
    ·simp [cO]
    ·have:=ih k3 s hs;simp [this]
   | obj t os=>
    rw [DL] at h
    cases v <;> first | exact (ae h).elim | skip
    case own q'=>
     simp only at h
     cases hoe:cond (List.isEmpty os) (structEnd (lay t)) false with
     | false=>rw [hoe] at h;exact (ae h).elim
     | true=>
      rw [hoe] at h
      simp only [cond_true,Rd.run] at h
      split at h
      case h_2=>exact (ae h).elim
      rename_i pub e l hrow
      cases pub with
      | true=>exact (ae h).elim
      | false=>
       simp only [cond_false] at h
       obtain⟨x0,hx0,h⟩:=bI h
       obtain⟨y,fp1,k1,h⟩:=bind_some h
       obtain⟨z,fp2,k2,h⟩:=bind_some h
       obtain⟨e1,_⟩:=ah h
       subst e1
       simp only [aQ,List.mem_cons] at hs
       rcases hs with rfl | hs
       ·simp [cO]
       ·have:=ih k2 s hs;simp [this]
    rename_i st off
    simp only at h
    cases hoff:Nat.beq off 0 with
    | false=>rw [hoff] at h;exact (ae h).elim
    | true=>
     rw [hoff] at h
     simp only [cond,Rd.run] at h
     split at h
     ·rename_i t' hobj
      cases hb:t'.beq t with
      | false=>rw [hb] at h;exact (ae h).elim
      | true=>
       rw [hb] at h
       simp only [cond] at h
       obtain⟨y,fp1,k1,h⟩:=bind_some h
       obtain⟨d,fp2,k2,h⟩:=bind_some h
       obtain⟨z,fp3,k3,h⟩:=bind_some h
       obtain⟨e,_⟩:=ah h
       subst e
       simp only [aQ,List.mem_cons] at hs
       rcases hs with rfl | hs
       ·simp [cO]
       ·have:=ih k3 s hs;simp [this]
     ·exact (ae h).elim
end
end Go.Sx
namespace Go.Sx
section
variable {C:Ctx} {S:Nat→SV} {a:Act} {w:World}
theorem XU {H:HLoc→SV} {n rid:Nat} {t:Ty} {os:List Bool} {x:t.den} {fp fp':List HLoc} {u:Unit} (h:(iK rid os 0).run H fp=some (u,fp')):ji H (aT (.fld n) rid os t x 0):=by
 intro l hl hn
 rcases iD hl with ⟨k,rfl⟩ | ⟨k,hk,rfl⟩
 ·exact absurd rfl (hn _ _)
 ·exact vP h k hk
theorem ji.append {H:HLoc→SV} {a b:HW} (h1:ji H a) (h2:ji H b):ji H (a++b):=by
 intro l hl hn
 rw [dN] at hl
 rcases List.mem_append.1 hl with hl | hl
 ·exact h1 l hl hn
 ·exact h2 l hl hn
theorem ji.one {H:HLoc→SV} {l:HLoc} {v:SV} (h:H l=.bot):ji H [(l,v)]:=by
 intro m hm _
 simp only [ak,List.mem_singleton] at hm
 rw [hm];exact h
theorem Ik {H:HLoc→SV} {rid:Nat} {t:Ty} {os:List Bool} {x:(lay t).den} {q:SV×HW} {fp fp':List HLoc} (h:(resV rid (.newobj t os) x).run H fp=some (q,fp')):ji H q.2:=by
 obtain⟨h1,h⟩:=dO h
 obtain⟨_,fp1,k1,h⟩:=bind_some h
 obtain⟨e,_⟩:=ah h
 subst e
 exact (XU k1).append (ji.one h1)
theorem Ku {H:HLoc→SV} {rid:Nat}:∀ {n i:Nat} {fp fp':List HLoc} {u:Unit},(EW rid n i).run H fp=some (u,fp')→∀ k,k < n→H (.comp rid (i+k))=.bot
 | 0,_,_,_,_,_,k,hk=>by omega
 | n+1,i,fp,fp',u,h,k,hk=>by
  obtain⟨h1,h2⟩:=dO h
  cases k with
  | zero=>exact h1
  | succ k=>
   have:=Ku h2 k (by omega)
   rwa [show i+1+k=i+(k+1) from by omega] at this
theorem ZN {d rid:Nat}:∀ {t:Ty} {os:List Bool} {x:t.den} {i:Nat} {l:HLoc},l∈ak (aT (.comp d) rid os t x i)→∀ k,l=.comp d (i+k)→k < aI t:=by
 intro t
 induction t with
 | pair A B _ hB=>
  intro os x i l hl k hk
  subst hk
  simp only [aT,dN,List.mem_append] at hl
  rcases hl with hl | hl
  ·have:k=0:=by
    unfold eG at hl
    cases hb:hdB os with
    | false=>
     rw [hb] at hl
     simp only [cond,ak,List.mem_singleton,HLoc.comp.injEq] at hl
     omega
    | true=>
     rw [hb] at hl
     simp only [cond] at hl
     split at hl
     ·simp [ak] at hl;omega
     ·simp [ak] at hl;omega
     ·simp [ak] at hl;omega
   subst this
   simp [aI]
  ·cases k with
   | zero=>simp [aI]
   | succ k=>
    have:=hB hl k (by congr 1;omega)
    simp only [aI];omega
 | _=>intro os x i l hl;simp [aT,ak] at hl
theorem Jk {H:HLoc→SV} {rid:Nat} {r:RS} {x:r.ty.den} {q:SV×HW} {fp fp':List HLoc} (h:(resV rid r x).run H fp=some (q,fp')):ji H q.2:=by
 cases r with
 | pure t=>obtain⟨e,_⟩:=ah h;subst e;intro l hl;simp [ak] at hl
 | own pub e=>
  obtain⟨h1,h⟩:=dO h
  obtain⟨e,_⟩:=ah h
  subst e
  exact ji.one h1
 | deep e=>
  obtain⟨h1,h⟩:=dO h
  obtain⟨e,_⟩:=ah h
  subst e
  exact ji.one h1
 | agg t os=>
  obtain⟨_,fp1,k1,h⟩:=bind_some h
  obtain⟨_,fp2,k2,h⟩:=bind_some h
  obtain⟨e,_⟩:=ah h
  subst e
  intro l hl _
  have hlen:=ZN hl
  rcases iD hl with ⟨k,rfl⟩ | ⟨k,hk,rfl⟩
  ·exact Ku k2 k (hlen k rfl)
  ·exact vP k1 k hk
 | newobj t os=>exact Ik h
 | maybe t os=>
  obtain⟨b,y⟩:=x
  cases b with
  | false=>obtain⟨e,_⟩:=ah (show (Rd.ret (SV.nilp,([]:HW))).run H fp=_ from h);subst e;intro l hl;simp [ak] at hl
  | true=>exact Ik (show (resV rid (.newobj t os) y).run H fp=_ from h)
theorem Ye {H:HLoc→SV} {id:Nat} {ps:List PS}:∀ {rs:List RS} {i:Nat} {x:(fO rs ps).den} {q:HW×(dw ps).den} {fp fp':List HLoc},(tC id ps rs x i).run H fp=some (q,fp')→ji H q.1:=by
 intro rs
 induction rs with
 | nil=>intro i x q fp fp' h;obtain⟨e,_⟩:=ah h;subst e;intro l hl;simp [ak] at hl
 | cons r rs ih=>
  intro i x q fp fp' h
  obtain⟨h1,h⟩:=dO h
  obtain⟨p,fp1,k1,h⟩:=bind_some h
  obtain⟨q2,fp2,k2,h⟩:=bind_some h
  obtain⟨e,_⟩:=ah h
  subst e
  exact (Jk k1).append (ji.append (a:=[_]) (ji.one h1) (ih k2))
theorem XK {H:HLoc→SV} {id:Nat} {ps:List PS} {rs:List RS} {x:(fO rs ps).den} {q:SV×HW×(dw ps).den} {fp fp':List HLoc} (h:(results id ps rs x).run H fp=some (q,fp')):ji H q.2.1:=by
 have many:((tC id ps rs x 0).bind fun q=>Rd.ret (SV.tup id rs.length,q.1,q.2)).run H fp=some (q,fp')→ji H q.2.1:=by
  intro h
  obtain⟨q2,fp1,k1,h⟩:=bind_some h
  obtain⟨e,_⟩:=ah h
  subst e
  exact Ye k1
 match rs,x,h,many with
 | [],x,h,many=>exact many h
 | [r],x,h,many=>
  obtain⟨p,fp1,k1,h⟩:=bind_some h
  obtain⟨e,_⟩:=ah h
  subst e
  exact Jk k1
 | r1::r2::rs,x,h,many=>exact many h
theorem Yz {H:HLoc→SV}:∀ {ps:List PS} {rid:Nat} {svs:List SV} {x:(dw ps).den} {ws:HW} {fp fp':List HLoc},(dG rid ps svs x).run H fp=some (ws,fp')→
  ∀ l∈ak ws,(∀ n,l=.site n→Own.site n∈aQ ps svs)∧∀ d i,l≠.comp d i:=by
 intro ps
 induction ps with
 | nil=>
  intro rid svs x ws fp fp' h
  obtain⟨e,_⟩:=ah (show (Rd.ret ([]:HW)).run H fp=_ from h)
  subst e
  intro l hl;simp [ak] at hl
 | cons p ps ih=>
  intro rid svs x ws fp fp' h
  cases svs with
  | nil=>cases p <;> exact (ae (show (Rd.fail:Rd HW).run H fp=_ from h)).elim
  | cons s svs=>
   cases p with
   | pure t=>exact ih (svs:=svs) (x:=x) h
   | lent t=>exact ih (svs:=svs) (x:=x) h
   | rptr t=>exact ih (svs:=svs) (x:=x) h
   | nilp=>exact ih (svs:=svs) (x:=x) h
   | agg t os=>exact ih (svs:=svs) (x:=x) h
   | fnc f n=>exact ih (svs:=svs) (x:=x) h
   | box=>
    obtain⟨st,off,b2,o2,svs',ws2,fp1,fp2,rfl,rfl,k2,rfl,hmem,hin⟩:=BR h
    intro l hl
    simp only [ak,List.mem_cons] at hl
    rcases hl with rfl | rfl | hl
    ·exact⟨fun n e=>(by cases e),fun d i e=>(by cases e)⟩
    ·exact⟨fun n e=>(by cases e;simp [aQ]),fun d i e=>(by cases e)⟩
    ·obtain⟨a2,a3⟩:=ih k2 l hl
     exact⟨fun n e=>by simp [aQ,a2 n e],a3⟩
   | row e=>
    obtain⟨q,ws2,fp1,fp2,rfl,k2,rfl⟩:=BP h
    intro l hl
    simp only [ak,List.mem_cons] at hl
    rcases hl with rfl | hl
    ·exact⟨fun n e=>(by cases e),fun d i e=>(by cases e)⟩
    ·obtain⟨a2,a3⟩:=ih k2 l hl
     exact⟨fun n e=>by simp [aQ,a2 n e],a3⟩
   | obj t os=>
    cases s with
    | adr st off=>
     have h:((iK rid os 0).bind fun _=>(dG (rid+20) ps svs x.2).bind fun ws=>Rd.ret (aT (.fld st) rid os (lay t) x.1 0++(HLoc.site st,SV.obj t)::ws)).run H fp=some (ws,fp'):=h
     obtain⟨_,fp1,k1,h⟩:=bind_some h
     obtain⟨ws2,fp2,k2,h⟩:=bind_some h
     obtain⟨e,_⟩:=ah h
     subst e
     intro l hl
     simp only [dN,ak,List.mem_append,List.mem_cons] at hl
     rcases hl with hl | rfl | hl
     ·refine⟨fun n e=> ?_,fun d i e=> ?_⟩
      ·rcases iD hl with ⟨k,hk⟩ | ⟨k,_,hk⟩ <;> rw [e] at hk <;> cases hk
      ·rcases iD hl with ⟨k,hk⟩ | ⟨k,_,hk⟩ <;> rw [e] at hk <;> cases hk
     ·exact⟨fun n e=>(by cases e;simp [aQ]),fun d i e=>(by cases e)⟩
     ·obtain⟨a2,a3⟩:=ih k2 l hl
      exact⟨fun n e=>by simp [aQ,a2 n e],a3⟩
    | own q=>
     obtain⟨ws2,fp1,fp2,_,k2,rfl⟩:=BQ h
     intro l hl
     simp only [ak,List.mem_cons] at hl
     rcases hl with rfl | hl
     ·exact⟨fun n e=>(by cases e),fun d i e=>(by cases e)⟩
     ·obtain⟨a2,a3⟩:=ih k2 l hl
      exact⟨fun n e=>by simp [aQ,a2 n e],a3⟩
    | _=>exact (ae (show (Rd.fail:Rd HW).run H fp=_ from h)).elim
end
end Go.Sx
