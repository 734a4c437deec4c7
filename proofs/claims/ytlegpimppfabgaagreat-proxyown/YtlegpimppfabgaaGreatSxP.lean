/-
 Sx: a symbolic executor for the model,proved sound,part 1 of 4: an AI agent's own work.
-/
import Derived.Orders
import Derived.KernelRfl
import Derived.Below
import Derived.Laws.IdiomCopy
import Derived.Laws.Pointers
import Derived.Laws.StructEq
import Derived.Laws.Small
import Derived.ChangeKeysEq
import Derived.Laws.BytesString
open Bool (noConfusion)
open Go.Instr (field fieldAt)
open Int (ofNat toNat)
open Go.IntKind (wrap)
open List (append_inj getElem?_eq_getElem getElem?_eq_none getElem?_set head? isEmpty length_append length_set length_take map_cons mem_append mem_cons range)
open Nat (add_mul ble ble_eq_true_of_le blt eq_of_beq_eq_true le_of_ble_eq_true le_refl lt_of_lt_of_le mul_le_mul_right one_mul zero_add zero_le)
open Option (bind_eq_some_iff map map_eq_some_iff map_some)
open Go.Result (andThen_ok)
open Go.Sem (run_bind run_pure)
open Go.World (cell?_of_block size_alloc)
namespace Go.Sx
inductive Tree (K V:Type):Type where
 | leaf
 | node (k:K) (v:V) (low high:Tree K V) (n d:Int)
inductive Ty where
 | int (k:IntKind)|u8|bool|str|unit
 | pair (a b:Ty)
 | slice (e:Ty)
 | tree (k v:Ty)
 | ptr (e:Ty)
@[reducible] def Ty.den:Ty→Type
 | .int _=>Int
 | .u8=>UInt8
 | .bool=>Bool
 | .str=>List UInt8
 | .unit=>Unit
 | .pair a b=>a.den×b.den
 | .slice e=>List e.den
 | .tree k v=>Tree k.den v.den
 | .ptr e=>List e.den
def Ty.dflt:(t:Ty)→t.den
 | .int _=>(0:Int)
 | .u8=>(0:UInt8)
 | .bool=>false
 | .str=>([]:List UInt8)
 | .unit=>()
 | .pair a b=>(a.dflt,b.dflt)
 | .slice _=>[]
 | .tree _ _=>Tree.leaf
 | .ptr _=>[]
def nS:IntKind→IntKind→Bool
 | .i8,.i8|.i16,.i16|.i32,.i32|.i64,.i64|.u8,.u8|.u16,.u16|.u32,.u32|.u64,.u64=>true
 | _,_=>false
theorem vY {a b:IntKind} (h:nS a b=true):a=b:=by cases a<;>cases b<;>first|rfl|simp[nS] at h
def Ty.beq:Ty→Ty→Bool
 | .int a,.int b=>nS a b
 | .u8,.u8=>true
 | .bool,.bool=>true
 | .str,.str=>true
 | .unit,.unit=>true
 | .pair a b,.pair c d=>cond (a.beq c) (b.beq d) false
 | .slice a,.slice b=>a.beq b
 | .tree a b,.tree c d=>cond (a.beq c) (b.beq d) false
 | .ptr a,.ptr b=>a.beq b
 | _,_=>false
theorem az {a b:Bool} (h:cond a b false=true):a=true∧b=true:=by cases a<;>simp_all
theorem Ty.beq_eq:∀ {a b:Ty},a.beq b=true→a=b:=by
 intro a;induction a with
 | int k=>intro b h;cases b<;>simp[Ty.beq] at h;rw[vY h]
 | u8=>intro b h;cases b<;>simp[Ty.beq] at h;rfl
 | bool=>intro b h;cases b<;>simp[Ty.beq] at h;rfl
 | str=>intro b h;cases b<;>simp[Ty.beq] at h;rfl
 | unit=>intro b h;cases b<;>simp[Ty.beq] at h;rfl
 | pair x y hx hy=>
  intro b h;cases b<;>simp only[Ty.beq] at h<;>first|exact noConfusion h|skip
  obtain⟨h1,h2⟩:=az h;rw[hx h1,hy h2]
 | slice x hx=>intro b h;cases b<;>simp[Ty.beq] at h;rw[hx h]
 | tree x y hx hy=>
  intro b h;cases b<;>simp only[Ty.beq] at h<;>first|exact noConfusion h|skip
  obtain⟨h1,h2⟩:=az h;rw[hx h1,hy h2]
 | ptr x hx=>intro b h;cases b<;>simp[Ty.beq] at h;rw[hx h]
theorem Ty.beq_refl:∀ t:Ty,t.beq t=true:=by
 intro t;induction t with
 | int k=>cases k<;>rfl
 | pair a b ha hb=>simp only[Ty.beq,ha,cond_true];exact hb
 | slice e h=>exact h
 | tree a b ha hb=>simp only[Ty.beq,ha,cond_true];exact hb
 | ptr e h=>exact h
 | _=>rfl
def Ty.size:Ty→Nat
 | .unit=>0
 | .pair a b=>a.size+b.size
 | _=>1
def Ty.agg:Ty→Bool
 | .unit=>true
 | .pair _ _=>true
 | _=>false
def bi (t t':Ty) (x:t.den):Option t'.den:=
 match h:t.beq t' with
 | true=>some (Ty.beq_eq h▸x)
 | false=>none
inductive HLoc where
 | comp (d i:Nat)
 | site (n:Nat)
 | fld (n i:Nat)
 | row (r:Nat)
def HLoc.beq:HLoc→HLoc→Bool
 | .comp a i,.comp b j=>cond (Nat.beq a b) (Nat.beq i j) false
 | .site a,.site b=>Nat.beq a b
 | .fld a i,.fld b j=>cond (Nat.beq a b) (Nat.beq i j) false
 | .row a,.row b=>Nat.beq a b
 | _,_=>false
theorem HLoc.beq_eq {a b:HLoc} (h:a.beq b=true):a=b:=by
 cases a<;>cases b<;>simp only[HLoc.beq] at h<;>first|exact noConfusion h|skip
 ·obtain⟨h1,h2⟩:=az h;rw[eq_of_beq_eq_true h1,eq_of_beq_eq_true h2]
 ·rw[eq_of_beq_eq_true h]
 ·obtain⟨h1,h2⟩:=az h;rw[eq_of_beq_eq_true h1,eq_of_beq_eq_true h2]
 ·rw[eq_of_beq_eq_true h]
theorem HLoc.beq_refl (a:HLoc):a.beq a=true:=by cases a<;>simp[HLoc.beq]
theorem HLoc.beq_ne {a b:HLoc} (h:a≠b):a.beq b=false:=by
 cases hb:a.beq b with
 | false=>rfl
 | true=>exact absurd (HLoc.beq_eq hb) h
inductive SV where
 | bot
 | und
 | pv (t:Ty) (x:t.den)
 | nils|nilp
 | lv (t:Ty) (x:t.den)
 | adr (s off:Nat)
 | hdr (r:Nat)
 | own (r:Nat)
 | cpy (d i:Nat) (t:Ty)
 | vec (d n:Nat)
 | ref (d j:Nat)
 | elt (t:Ty) (x:t.den) (off:Nat)
 | lel (t:Ty) (x:t.den) (off:Nat)
 | sel (s off z n j:Nat)
 | oel (r i off sz:Nat)
 | tup (d n:Nat)
 | agg (d:Nat) (t:Ty)
 | fn (f:FuncId) (d n:Nat)
 | anyb
 | obj (t:Ty)
 | row (pub:Bool) (e:Ty) (l:List e.den)
 | deep (e:Ty) (l:List e.den) (n:Nat) (h:Option (Nat×Nat))
inductive Rd (α:Type):Type 1 where
 | ret (a:α)
 | fail
 | get (l:HLoc) (k:SV→Rd α)
 | br (b:Bool) (x y:Rd α)
 | opt {β:Type} (o:Option β) (k:β→Rd α)
namespace Rd
def bind {α β:Type}:Rd α→(α→Rd β)→Rd β
 | .ret a,f=>f a
 | .fail,_=>.fail
 | .get l k,f=>.get l fun v=>(k v).bind f
 | .br b x y,f=>.br b (x.bind f) (y.bind f)
 | .opt o k,f=>.opt o fun b=>(k b).bind f
def run {α:Type} (H:HLoc→SV):Rd α→List HLoc→Option (α×List HLoc)
 | .ret a,fp=>some (a,fp)
 | .fail,_=>none
 | .get l k,fp=>(k (H l)).run H (l::fp)
 | .br b x y,fp=>cond b (x.run H fp) (y.run H fp)
 | .opt o k,fp=>o.bind fun b=>(k b).run H fp
def runC {α R:Type} (H:HLoc→SV):Rd α→List HLoc→(α→List HLoc→Option R)→Option R
 | .ret a,fp,k=>k a fp
 | .fail,_,_=>none
 | .get l f,fp,k=>(f (H l)).runC H (l::fp) k
 | .br b x y,fp,k=>cond b (x.runC H fp k) (y.runC H fp k)
 | .opt o f,fp,k=>Option.bind o fun b=>(f b).runC H fp k
theorem runC_eq {α R:Type} (H:HLoc→SV) (m:Rd α):∀ (fp:List HLoc) (k:α→List HLoc→Option R),
  m.runC H fp k=(m.run H fp).bind fun p=>k p.1 p.2:=by
 induction m with
 | ret a=>intro fp k;rfl
 | fail=>intro fp k;rfl
 | get l f ih=>intro fp k;exact ih _ _ _
 | br b x y hx hy=>intro fp k;cases b<;>simp[runC,run,hx,hy]
 | opt o f ih=>intro fp k;cases o<;>simp[runC,run,ih]
end Rd
abbrev HW:=List (HLoc×SV)
def idx {α:Type} (l:List α) (i:Int):Option α:=cond (decide (0≤i)) l[i.toNat]? none
def jf (n:Nat) (i:Int):Option Nat:=cond (decide (0≤i∧i<n)) (some i.toNat) none
def dB {α:Type} (l:List α) (i:Int):Option Nat:=cond (decide (0≤i∧i<l.length)) (some i.toNat) none
def bI:Nat:=34359738368
def bF {α:Type} (l x:List α):Option (List α):=cond (ble (l.length+x.length) bI) (some (l++x)) none
def EM:Nat:=140737488355000
def uN {α:Type} (l x:List α):Option (List α):=cond (ble (l.length+x.length) EM) (some (l++x)) none
def MC:Nat:=2000000000000
def o9 {α:Type} (l x:List α):Option (List α):=cond (ble (l.length+x.length) MC) (some (l++x)) none
def xx:Ty→Nat
 | .str=>16
 | .slice _=>24
 | .pair a b=>xx a+xx b
 | .tree _ _=>2048
 | _=>8
def iG:Ty→Nat
 | .u8=>1
 | e=>min 6144 (xx e)
def EO:(e:Ty)→List e.den→List e.den→Option (List e.den)
 | .u8,l,x=>uN l x
 | e,l,x=>cond (cond (ble 101 (iG e)) (ble (iG e) 112) false) (o9 l x) (bF l x)
def gY {α:Type} (l:List α) (a b:Int):Option (List α):=
 cond (decide (0≤a∧a≤b∧b≤l.length)) (some ((l.take b.toNat).drop a.toNat)) none
def EE (k:IntKind) (x y:Int):Option Int:=cond (decide (y=0)) none (some (k.wrap (x.tdiv y)))
def nP (x y:Int):Option Int:=cond (decide (y=0)) none (some (x.tmod y))
def Aj (k:IntKind) (x y:Int):Option Int:=cond (decide (y<0)) none (some (k.wrap (x*2 ^ (min y.toNat k.bits))))
def Ai (k:IntKind) (x y:Int):Option Int:=cond (decide (y<0)) none (some (x.fdiv (2 ^ (min y.toNat k.bits))))
def UZ (op:BinOp) (k:IntKind) (x y:Int):Int:=
 let a:=BitVec.ofInt k.bits x;let b:=BitVec.ofInt k.bits y
 match op with
 | .and=>k.wrap (a &&& b).toNat
 | .or=>k.wrap (a ||| b).toNat
 | .xor=>k.wrap (a ^^^ b).toNat
 | _=>k.wrap (a &&& ~~~b).toNat
def mkO {α:Type} (d:α) (n c:Int):Option (List α):=cond (decide (0≤n∧n≤c∧c≤bI)) (some (List.replicate n.toNat d)) none
def aY (a b:List UInt8):Bool:=Op.bytesLess a b
def zdC {K V:Type}:Tree K V→Bool
 | .leaf=>true
 | _=>false
def byteOf (n:Int):UInt8:=UInt8.ofNat n.toNat
def aB (b:UInt8):Int:=b.toNat
def jg:(t:Ty)→t.den→t.den→Option Bool
 | .int _,x,y=>some (decide ((x:Int)=(y:Int)))
 | .u8,x,y=>some (decide ((x:UInt8)=(y:UInt8)))
 | .bool,x,y=>some (Bool.beq' x y)
 | .str,x,y=>some (decide ((x:List UInt8)=(y:List UInt8)))
 | .unit,_,_=>some true
 | .pair a b,x,y=>(jg a x.1 y.1).bind fun p=>(jg b x.2 y.2).map fun q=>p && q
 | _,_,_=>none
where
 Bool.beq' (a b:Bool):Bool:=a == b
structure Tab where
 tys:List (TypeId×Ty)
 ptrs:List TypeId
 arrs:List (TypeId×TypeId×Nat):=[]
 deeps:List TypeId:=[]
 flats:List (TypeId×Ty):=[]
 owns:List TypeId:=[]
 frzs:List TypeId:=[]
 vecs:List TypeId:=[]
 sames:List (FuncId×Ty):=[]
def tlL:List (TypeId×Ty)→TypeId→Option Ty
 | [],_=>none
 | (a,t)::r,b=>cond (Nat.beq a b) (some t) (tlL r b)
def tl (tab:Tab) (t:TypeId):Option Ty:=tlL tab.tys t
def iW:List (TypeId×TypeId×Nat)→TypeId→Option (TypeId×Nat)
 | [],_=>none
 | (a,p)::r,t=>cond (Nat.beq a t) (some p) (iW r t)
def dI (e:Ty):Nat→Ty
 | 0=>.unit
 | n+1=>.pair e (dI e n)
def tls (tab:Tab) (t:TypeId):Option Ty:=
 match iW tab.arrs t with
 | some _=>none
 | none=>tl tab t
def nD (l:List TypeId) (t:TypeId):Bool:=
 match l with
 | []=>false
 | a::r=>cond (Nat.beq a t) true (nD r t)
abbrev bU:Ty:=.tree .unit .unit
def tla (tab:Tab) (t:TypeId):Option Ty:=
 match iW tab.arrs t with
 | some p=>match tl tab p.1 with
  | some e=>some (dI e p.2)
  | none=>none
 | none=>match tl tab t with
  | some ty=>some ty
  | none=>cond (nD tab.ptrs t) (some bU) none
def qy:Ty→Ty→Ty
 | .unit,r=>r
 | .pair a b,r=>qy a (qy b r)
 | t,r=>.pair t r
def rO (t:Ty):Ty:=qy t .unit
def structEnd:Ty→Bool
 | .pair _ b=>structEnd b
 | .unit=>true
 | _=>false
def flT (tab:Tab) (t:TypeId) (ty:Ty):Ty:=
 match tlL tab.flats t with
 | some u=>cond (cond u.agg (cond (structEnd u) ((rO u).beq (rO ty)) false) false) u ty
 | none=>ty
abbrev Stk:=List ((t:Ty)×t.den)
def JS:(t:Ty)→t.den→Option Stk
 | .unit,_=>some []
 | .pair p q,x=>some [⟨p,x.1⟩,⟨q,x.2⟩]
 | _,_=>none
def rH (a:Ty):Nat→Stk→Option (a.den×Stk)
 | 0,_=>none
 | _+1,[]=>none
 | n+1,p::r=>match bi p.1 a p.2 with
   | some y=>some (y,r)
   | none=>match JS p.1 p.2 with
    | some l=>rH a n (l++r)
    | none=>none
def oV (n:Nat):(a:Ty)→Stk→Option (a.den×Stk)
 | .pair p q,s=>match rH (.pair p q) n s with
  | some r=>some r
  | none=>match oV n p s with
   | some (x,s1)=>match oV n q s1 with
    | some (y,s2)=>some ((x,y),s2)
    | none=>none
   | none=>none
 | .unit,s=>some ((),s)
 | a,s=>rH a n s
def EL:Stk→Bool
 | []=>true
 | ⟨.unit,_⟩::r=>EL r
 | _=>false
def conv (t u:Ty) (x:t.den):Option u.den:=
 match oV 400 u [⟨t,x⟩] with
 | some (y,s)=>cond (EL s) (some y) none
 | none=>none
def rV (t u:Ty) (x:t.den):Option u.den:=
 match bi t u x with
 | some y=>some y
 | none=>conv t u x
def Me (k:IntKind):Bool:=nS k .u8
def MF (k:IntKind) (n:Int):SV:=
 cond (Me k) (match n with|.ofNat m=>cond (blt m 256) (.pv .u8 (UInt8.ofNat m)) .bot|_=>.bot) (.pv (.int k) n)
def cSV:Value→SV
 | .int k n=>MF k n
 | .bool b=>.pv .bool b
 | .string s=>.pv .str s.data.toList
 | .slice none len cap=>cond (Nat.beq len 0) (cond (Nat.beq cap 0) .nils .bot) .bot
 | .pointer none=>.nilp
 | _=>.bot
def evS (S:Nat→SV):Operand→SV
 | .tmp t=>S t
 | .const v=>cSV v
 | .func f=>.fn f 0 0
 | .global _=>.bot
abbrev jT (k v:Ty):Ty:=
 .pair (.pair k (.pair v .unit)) (.pair (.tree k v) (.pair (.tree k v) (.pair (.int .i64) (.pair (.int .i64) .unit))))
def uz (k v:Ty):Tree k.den v.den→Option (jT k v).den
 | .leaf=>none
 | .node a b l h n d=>some ((a,b,()),l,h,n,d,())
def zdx (k v:Ty) (x:(jT k v).den):Tree k.den v.den:=.node x.1.1 x.1.2.1 x.2.1 x.2.2.1 x.2.2.2.1 x.2.2.2.2.1
def Rd.ofO {α:Type}:Option α→Rd α
 | some a=>.ret a
 | none=>.fail
def gZ (t:Ty):SV→Rd (t.den×HW)
 | .pv t' x=>(Rd.ofO (bi t' t x)).bind fun y=>.ret (y,[])
 | .nils=>match t with
  | .slice _=>.ret ([],[])
  | _=>.fail
 | .nilp=>match t with
  | .tree _ _=>.ret (.leaf,[])
  | .ptr _=>.ret ([],[])
  | _=>.fail
 | .hdr r=>.get (.row r) fun v=>match v with
  | .row pub e l=>(Rd.ofO (bi (.slice e) t l)).bind fun y=>.ret (y,cond pub [] [(.row r,.row true e l)])
  | .deep e l _ h=>match h with
   | none=>(Rd.ofO (bi (.slice e) t l)).bind fun y=>.ret (y,[(.row r,.row true e l)])
   | some _=>.fail
  | _=>.fail
 | _=>.fail
def gather (mk:Nat→HLoc):(t:Ty)→Nat→Rd (t.den×HW)
 | .unit,_=>.ret ((),[])
 | .pair a b,i=>.get (mk i) fun v=>(gZ a v).bind fun p=>(gather mk b (i+1)).bind fun q=>.ret ((p.1,q.1),p.2++q.2)
 | _,_=>.fail
def jM (t:Ty):SV→Rd (t.den×HW)
 | .agg d t'=>cond (t'.beq t) (gather (.comp d) t 0) (cond t.agg ((gather (.comp d) t' 0).bind fun p=>(Rd.ofO (conv t' t p.1)).bind fun y=>.ret (y,p.2)) .fail)
 | v=>gZ t v
def bu:Ty→Bool
 | .slice _=>false
 | .tree _ _=>false
 | .ptr _=>false
 | .pair a b=>cond (bu a) (bu b) false
 | _=>true
def slF:Ty→Option (Nat×Ty)
 | .slice u=>some (0,u)
 | .pair a b=>match slF a with
  | some p=>cond (bu b) (some p) none
  | none=>cond (bu a) (match slF b with
   | some p=>some (a.size+p.1,p.2)
   | none=>none) none
 | _=>none
def lM (e:Ty) (off:Nat) (u:Ty):Bool:=
 match slF e with
 | some p=>cond (Nat.beq p.1 off) (p.2.beq u) false
 | none=>false
def oH:Ty→SV
 | .slice _=>.nils
 | .tree _ _=>.nilp
 | .ptr _=>.nilp
 | t=>.pv t t.dflt
def vS (mk:Nat→HLoc):(t:Ty)→t.den→Nat→HW
 | .pair a b,x,i=>(mk i,.pv a x.1)::vS mk b x.2 (i+1)
 | _,_,_=>[]
def lvP (t:Ty) (x:t.den):SV:=cond (bu t) (.pv t x) (.lv t x)
def yM (mk:Nat→HLoc):(t:Ty)→t.den→Nat→HW
 | .pair a b,x,i=>(mk i,lvP a x.1)::yM mk b x.2 (i+1)
 | _,_,_=>[]
def uh (mk:Nat→HLoc):Ty→Nat→HW
 | .pair a b,i=>(mk i,oH a)::uh mk b (i+1)
 | _,_=>[]
def zdB:Ty→Bool
 | .ptr _=>true
 | _=>false
def fits (t:Ty):SV→Rd Unit
 | .pv t' _=>cond (t'.beq t) (.ret ()) .fail
 | .lv t' _=>cond (t'.beq t) (.ret ()) .fail
 | .nils=>match t with
  | .slice _=>.ret ()
  | _=>.fail
 | .nilp=>match t with
  | .tree _ _=>.ret ()
  | .ptr _=>.ret ()
  | _=>.fail
 | .hdr r=>match t with
  | .slice e=>.get (.row r) fun v=>match v with
   | .row _ e' _=>cond (e'.beq e) (.ret ()) .fail
   | .deep e' _ _ _=>cond (e'.beq e) (.ret ()) .fail
   | _=>.fail
  | _=>.fail
 | .adr _ _=>cond (cond (t.beq bU) true (zdB t)) (.ret ()) .fail
 | .own r=>match t with
  | .ptr e=>.get (.row r) fun v=>match v with
   | .row _ e' _=>cond (e'.beq e) (.ret ()) .fail
   | .deep e' _ _ _=>cond (e'.beq e) (.ret ()) .fail
   | _=>.fail
  | _=>.fail
 | .cpy _ _ t'=>cond (t'.beq t) (.ret ()) .fail
 | .agg _ t'=>cond (cond t.agg (Nat.beq t'.size t.size) false) (.ret ()) .fail
 | _=>.fail
def zZ (src dst:Nat→HLoc):Ty→Nat→Rd HW
 | .pair a b,i=>.get (src i) fun v=>(fits a v).bind fun _=>(zZ src dst b (i+1)).bind fun ws=>.ret ((dst i,v)::ws)
 | .unit,_=>.ret []
 | _,_=>.fail
def gK:Ty→Nat→Option Ty
 | _,0=>some .unit
 | .pair a b,n+1=>cond (ble a.size (n+1)) ((gK b (n+1-a.size)).bind fun s=>some (.pair a s)) none
 | _,_=>none
def wU:Ty→Nat→Ty
 | t,0=>t
 | .pair a b,n+1=>wU b (n+1-a.size)
 | t,_=>t
def nfT:Ty→Nat
 | .pair _ b=>nfT b+1
 | _=>0
def rE (src dst:Nat→HLoc):(t u:Ty)→Nat→Nat→Rd HW
 | .pair a b,u,i,k=>.get (src i) fun v=>match gK u a.size with
  | some st=>cond (st.beq (.pair a .unit)) ((fits a v).bind fun _=>(rE src dst b (wU u a.size) (i+1) (k+1)).bind fun ws=>.ret ((dst k,v)::ws))
    (match v with
    | .pv c x=>(Rd.ofO (rV c st x)).bind fun y=>(rE src dst b (wU u a.size) (i+1) (k+nfT st)).bind fun ws=>.ret (vS dst st y k++ws)
    | _=>.fail)
  | none=>.fail
 | .unit,u,_,_=>match u with
  | .unit=>.ret []
  | _=>.fail
 | _,_,_,_=>.fail
def putObj (s:Nat) (t:Ty) (v:SV):Rd HW:=
 cond t.agg
  (match v with
  | .pv t' x=>(Rd.ofO (rV t' t x)).bind fun y=>.ret (vS (.fld s) t y 0)
  | .lv t' x=>(Rd.ofO (rV t' t x)).bind fun y=>.ret (yM (.fld s) t y 0)
  | .agg d t'=>cond (t'.beq t) (zZ (.comp d) (.fld s) t 0) (rE (.comp d) (.fld s) t' t 0 0)
  | _=>.fail)
  ((fits t v).bind fun _=>.ret [(.fld s 0,v)])
def fresh {α:Type} (l:HLoc) (k:Rd α):Rd α:=.get l fun v=>match v with
 | .bot=>k
 | _=>.fail
def sub:(t:Ty)→t.den→Nat→(u:Ty)→Option u.den
 | .pair a b,x,off,u=>
  cond (cond (Nat.beq off 0) ((Ty.pair a b).beq u) false) (bi (.pair a b) u x)
   (cond (blt off a.size) (sub a x.1 off u) (sub b x.2 (off-a.size) u))
 | t,x,off,u=>cond (Nat.beq off 0) (bi t u x) none
def dS:(t:Ty)→t.den→Nat→(u:Ty)→u.den→Option t.den
 | .pair a b,x,off,u,y=>
  cond (cond (Nat.beq off 0) (u.beq (Ty.pair a b)) false) (bi u (.pair a b) y)
   (cond (blt off a.size) ((dS a x.1 off u y).bind fun z=>some (z,x.2)) ((dS b x.2 (off-a.size) u y).bind fun z=>some (x.1,z)))
 | t,_,off,u,y=>cond (Nat.beq off 0) (bi u t y) none
def iO:Ty→Nat→Nat→Option (Nat×Nat×Ty)
 | .pair a b,i,off=>cond (blt off a.size) (some (i,off,a)) (iO b (i+1) (off-a.size))
 | _,_,_=>none
def fJ:Ty→Nat→Option Nat
 | .pair _ _,0=>some 0
 | .pair a b,f+1=>(fJ b f).bind fun n=>some (a.size+n)
 | _,_=>none
def dN:Ty→Nat→Option Ty
 | .pair a _,0=>some a
 | .pair _ b,f+1=>dN b f
 | _,_=>none
def qj:(t:Ty)→t.den→Nat→Option ((u:Ty)×u.den)
 | .pair a _,x,0=>some ⟨a,x.1⟩
 | .pair _ b,x,f+1=>qj b x.2 f
 | _,_,_=>none
def dA (l:HLoc):List HLoc→Bool
 | []=>false
 | m::r=>cond (l.beq m) true (dA l r)
def au:HW→List HLoc
 | []=>[]
 | (l,_)::r=>l::au r
def jB (u:Ty):SV→Rd (SV×HW)
 | .adr s off=>.get (.site s) fun w=>match w with
  | .obj t=>cond t.agg
    (cond (cond (Nat.beq off 0) (t.beq u) false)
     ((gather (.fld s) t 0).bind fun p=>.ret (.pv t p.1,p.2))
     (match iO t 0 off with
     | some (i,o,ft)=>cond (cond (Nat.beq o 0) (ft.beq u) false)
       (.get (.fld s i) fun v=>(fits ft v).bind fun _=>.ret (v,[]))
       (.get (.fld s i) fun v=>(gZ ft v).bind fun p=>(Rd.ofO (sub ft p.1 o u)).bind fun y=>.ret (.pv u y,p.2))
     | none=>.fail))
    (cond (cond (Nat.beq off 0) (t.beq u) false) (.get (.fld s 0) fun v=>(fits t v).bind fun _=>.ret (v,[])) .fail)
  | _=>.fail
 | .elt t x off=>(Rd.ofO (sub t x off u)).bind fun y=>.ret (.pv u y,[])
 | .lel t x off=>(Rd.ofO (sub t x off u)).bind fun y=>.ret (.pv u y,[])
 | .oel r i off sz=>.get (.row r) fun w=>match w with
  | .row _ e l=>cond (Nat.beq e.size sz) (.opt l[i]? fun x=>(Rd.ofO (sub e x off u)).bind fun y=>.ret (.pv u y,[])) .fail
  | _=>.fail
 | _=>.fail
def qH (u:Ty) (a v:SV):Rd HW:=
 match a with
 | .adr s off=>.get (.site s) fun w=>match w with
  | .obj t=>cond (cond (Nat.beq off 0) (t.beq u) false) (putObj s t v)
    (cond t.agg
     (match iO t 0 off with
     | some (i,o,ft)=>cond (cond (Nat.beq o 0) (ft.beq u) false)
       (cond u.agg ((jM u v).bind fun p=>.ret (p.2++[(.fld s i,.pv u p.1)])) ((fits u v).bind fun _=>.ret [(.fld s i,v)]))
       (.get (.fld s i) fun f=>(gZ ft f).bind fun p=>(jM u v).bind fun q=>(Rd.ofO (dS ft p.1 o u q.1)).bind fun y=>.ret (p.2++q.2++[(.fld s i,.pv ft y)]))
     | none=>.fail) .fail)
  | _=>.fail
 | .oel r i off sz=>.get (.row r) fun w=>match w with
  | .row false e l=>cond (Nat.beq e.size sz) (.opt l[i]? fun x=>(gZ u v).bind fun q=>(Rd.ofO (dS e x off u q.1)).bind fun y=>cond (dA (.row r) (au q.2)) .fail (.ret (q.2++[(.row r,.row false e (l.set i y))]))) .fail
  | _=>.fail
 | _=>.fail
def qh (id:Nat) (u:Ty) (a:SV):Rd (SV×HW):=
 match a with
 | .oel r i off sz=>.get (.row r) fun w=>match w with
  | .deep e l n h=>cond (Nat.beq e.size sz) (.opt l[i]? fun x=>
    cond (bu u) ((Rd.ofO (sub e x off u)).bind fun y=>.ret (.pv u y,[]))
     (.br (decide (n≤i)) ((Rd.ofO (sub e x off u)).bind fun y=>.ret (.pv u y,[]))
      (match u with
      | .slice v=>match h with
       | none=>(Rd.ofO (sub e x off (.slice v))).bind fun y=>cond (lM e off v) (fresh (.row id) (.ret (.hdr id,[(.row r,.und),(.row id,.row false v y),(.row r,.deep e l n (some (i,id)))]))) .fail
       | some (j,q)=>.br (decide (j=i)) (cond (lM e off v) (.ret (.hdr q,[])) .fail) .fail
      | _=>.fail))) .fail
  | _=>jB u a
 | _=>jB u a
def U1 (mk:Nat→HLoc):Ty→Nat→Rd Bool
 | .pair _ b,i=>.get (mk i) fun v=>match v with
  | .lv _ _=>.ret true
  | .hdr _=>.ret true
  | _=>U1 mk b (i+1)
 | _,_=>.ret false
def uo (src dst:Nat→HLoc):Ty→Nat→Rd HW
 | .pair a b,i=>fresh (dst i) (.get (src i) fun v=>(fits a v).bind fun _=>(uo src dst b (i+1)).bind fun ws=>.ret ((dst i,v)::ws))
 | .unit,_=>.ret []
 | _,_=>.fail
def o5 (id:Nat) (u:Ty) (a:SV):Rd (SV×HW):=
 match a with
 | .adr s off=>.get (.site s) fun w=>match w with
  | .obj t=>cond (cond t.agg (cond (Nat.beq off 0) (t.beq u) false) false) ((U1 (.fld s) t 0).bind fun b=>cond b ((uo (.fld s) (.comp id) t 0).bind fun ws=>.ret (.agg id t,ws)) (qh id u (.adr s off))) (qh id u (.adr s off))
  | _=>qh id u (.adr s off)
 | a=>qh id u a
def oW (n m:Nat):Nat:=cond (decide (n≤m)) m n
def wu (i:Nat):Option (Nat×Nat)→(Option (Nat×Nat)→Rd HW)→Rd HW
 | none,k=>k none
 | some (j,_),k=>.br (decide (j=i)) (k none) .fail
def vZ (mk:Nat→HLoc):(t:Ty)→Nat→Rd (t.den×Option Nat)
 | .unit,_=>.ret ((),none)
 | .pair a b,i=>.get (mk i) fun v=>(vZ mk b (i+1)).bind fun q=>
   match v with
   | .nils=>match a with
    | .slice _=>.ret (([],q.1),q.2)
    | _=>.fail
   | .hdr r=>match a with
    | .slice u=>.get (.row r) fun w=>match w with
     | .row p e l=>cond p .fail ((Rd.ofO (bi (.slice e) (.slice u) l)).bind fun y=>match q.2 with
      | none=>.ret ((y,q.1),some r)
      | some _=>.fail)
     | _=>.fail
    | _=>.fail
   | .pv t x=>cond (bu a) ((Rd.ofO (bi t a x)).bind fun y=>.ret ((y,q.1),q.2)) .fail
   | _=>.fail
 | _,_=>.fail
def LQ (e:Ty) (off:Nat) (u:Ty):Bool:=
 match slF u with
 | some p=>lM e (off+p.1) p.2
 | none=>false
def Vo:Option Nat→HW
 | none=>[]
 | some q=>[(.row q,.und)]
def zf (u:Ty) (a v:SV):Rd HW:=
 match a with
 | .oel r i off sz=>.get (.row r) fun w=>match w with
  | .deep e l n h=>cond (Nat.beq e.size sz) (.opt l[i]? fun x=>
    match u,v with
    | .slice t,.hdr q=>.get (.row q) fun z=>match z with
     | .row p e' l'=>cond (cond p true (Nat.beq q r)) .fail ((Rd.ofO (bi (.slice e') (.slice t) l')).bind fun y=>(Rd.ofO (dS e x off (.slice t) y)).bind fun z=>cond (lM e off t)
       (.br (decide (i≤n)) (wu i h fun h'=>.ret [(.row q,.und),(.row r,.und),(.row r,.deep e (l.set i z) (oW n (i+1)) h')]) .fail) .fail)
     | _=>.fail
    | u,.pv t y=>cond (bu u) ((Rd.ofO (bi t u y)).bind fun y=>(Rd.ofO (dS e x off u y)).bind fun z=>.ret [(.row r,.und),(.row r,.deep e (l.set i z) n h)]) .fail
    | u,.agg d t=>cond (cond (t.beq u) (LQ e off u) false) ((vZ (.comp d) u 0).bind fun q=>(Rd.ofO (dS e x off u q.1)).bind fun z=>.br (decide (i≤n)) (wu i h fun h'=>.ret (Vo q.2++[(.row r,.und),(.row r,.deep e (l.set i z) (oW n (i+1)) h')])) .fail) .fail
    | _,_=>.fail) .fail
  | _=>qH u a v
 | _=>qH u a v
def rD:Ty→(i off n:Nat)→Option (Nat×Ty)
 | .pair a b,i,off,n=>cond (Nat.beq off 0) ((gK (.pair a b) n).bind fun s=>some (i,s)) (cond (ble a.size off) (rD b (i+1) (off-a.size) n) none)
 | _,_,_,_=>none
def D5 (t:Ty) (off:Nat) (u:Ty):Option (Nat×Ty):=
 cond (cond t.agg (cond u.agg (ble 1 u.size) false) false) (match rD t 0 off u.size with
  | some p=>cond (cond (t.beq u) true (p.2.beq (.pair u .unit))) none (some p)
  | none=>none) none
def isOpen:SV→Bool
 | .pv _ _=>false
 | .nils=>false
 | .nilp=>false
 | _=>true
def Tu (mk:Nat→HLoc):Ty→Nat→Rd Bool
 | .pair _ b,i=>.get (mk i) fun v=>cond (isOpen v) (.ret true) (Tu mk b (i+1))
 | _,_=>.ret false
def DN (ft:Ty) (x:ft.den) (o z j:Nat) (u:Ty):Nat→Nat→Option u.den
 | 0,_=>none
 | m+1,i=>cond (Nat.beq j i) (sub ft x (o+i*z) u) (DN ft x o z j u m (i+1))
def DT (ft:Ty) (x:ft.den) (o z j:Nat) (u:Ty) (y:u.den):Nat→Nat→Option ft.den
 | 0,_=>none
 | m+1,i=>cond (Nat.beq j i) (dS ft x (o+i*z) u y) (DT ft x o z j u y m (i+1))
def ED (t u:Ty) (o z n:Nat):Option (Nat×Nat×Ty):=
 cond t.agg (match iO t 0 o with
  | some q=>cond (cond (t.beq u) true (q.2.2.beq u)) none (cond (blt (q.2.1+(n-1)*z) q.2.2.size) (some q) none)
  | none=>none) none
def Ed (u:Ty) (b o z n j:Nat):Rd (SV×HW):=
 .get (.site b) fun w=>match w with
  | .obj t=>match ED t u o z n with
   | some q=>.get (.fld b q.1) fun v=>match v with
    | .pv ft x=>cond (ft.beq q.2.2) (.opt (DN ft x q.2.1 z j u n 0) fun y=>.ret (.pv u y,[])) .fail
    | _=>.fail
   | none=>.fail
  | _=>.fail
def KA (u:Ty) (b o z n j:Nat) (v:SV):Rd HW:=
 .get (.site b) fun w=>match w with
  | .obj t=>match ED t u o z n with
   | some q=>.get (.fld b q.1) fun f=>match f with
    | .pv ft x=>cond (ft.beq q.2.2) ((jM u v).bind fun p=>.opt (DT ft x q.2.1 z j u p.1 n 0) fun y=>.ret (p.2++[(.fld b q.1,.pv ft y)])) .fail
    | _=>.fail
   | none=>.fail
  | _=>.fail
def oZ (id:Nat) (u:Ty) (a:SV):Rd (SV×HW):=
 match a with
 | .adr s off=>.get (.site s) fun w=>match w with
  | .obj t=>match D5 t off u with
   | some p=>(Tu (fun k=>.fld s (p.1+k)) p.2 0).bind fun b=>cond b
     ((uo (fun k=>.fld s (p.1+k)) (.comp id) p.2 0).bind fun ws=>.ret (.agg id p.2,ws))
     ((gather (fun k=>.fld s (p.1+k)) p.2 0).bind fun q=>(Rd.ofO (conv p.2 u q.1)).bind fun y=>.ret (.pv u y,q.2))
   | none=>o5 id u (.adr s off)
  | _=>o5 id u (.adr s off)
 | .ref d j=>cond u.agg .fail (.get (.comp d j) fun v=>(fits u v).bind fun _=>.ret (v,[]))
 | .sel b o z n j=>Ed u b o z n j
 | a=>o5 id u a
def EC (u:Ty) (a v:SV):Rd HW:=
 match a with
 | .adr s off=>.get (.site s) fun w=>match w with
  | .obj t=>match D5 t off u with
   | some p=>match v with
    | .agg d t'=>cond (t'.beq p.2) (zZ (.comp d) (fun k=>.fld s (p.1+k)) p.2 0) (rE (.comp d) (fun k=>.fld s (p.1+k)) t' p.2 0 0)
    | .pv t' x=>(Rd.ofO (rV t' p.2 x)).bind fun y=>.ret (vS (fun k=>.fld s (p.1+k)) p.2 y 0)
    | .lv t' x=>(Rd.ofO (rV t' p.2 x)).bind fun y=>.ret (yM (fun k=>.fld s (p.1+k)) p.2 y 0)
    | _=>.fail
   | none=>zf u (.adr s off) v
  | _=>zf u (.adr s off) v
 | .sel b o z n j=>KA u b o z n j v
 | a=>zf u a v
def nz (t:TypeId):List TypeId→Bool
 | []=>false
 | a::r=>cond (Nat.beq a t) true (nz t r)
def EG (u:Ty) (s:Nat):SV→Rd HLoc
 | .adr p o=>cond (Nat.beq p s) .fail (.get (.site p) fun w=>match w with
  | .obj t=>cond t.agg (match iO t 0 o with
   | some q=>cond (cond (Nat.beq q.2.1 0) (q.2.2.beq u) false) (.ret (.fld p q.1)) .fail
   | none=>.fail) (cond (cond (Nat.beq o 0) (t.beq u) false) (.ret (.fld p 0)) .fail)
  | _=>.fail)
 | _=>.fail
def Jz (id s:Nat) (e:Ty):Rd HW:=
 .get (.site s) fun w=>match w with
  | .obj t=>cond (cond t.agg e.agg false) (fresh (.row id) (match slF e with
   | some _=>(vZ (.fld s) t 0).bind fun q=>(Rd.ofO (bi t e q.1)).bind fun x=>(match q.2 with
    | none=>.ret [(.site s,.und),(.row id,.deep e [x] 1 none)]
    | some _=>.fail)
   | none=>(gather (.fld s) t 0).bind fun q=>(Rd.ofO (rV t e q.1)).bind fun x=>.ret (q.2++[(.site s,.und),(.row id,.row false e [x])]))) .fail
  | _=>.fail
def JG (s off:Nat) (e:Ty):Rd (e.den×HW):=
 .get (.site s) fun w=>match w with
  | .obj t=>cond t.agg ((gather (.fld s) t 0).bind fun q=>(Rd.ofO (sub t q.1 off e)).bind fun y=>.ret (y,q.2++[(.site s,.und)])) .fail
  | _=>.fail
def KC (tab:Tab) (id:Nat) (t:TypeId) (u:Ty) (a v:SV):Rd HW:=
 match u,v with
 | .ptr e,.adr s off=>cond (nz t tab.owns)
   (cond (Nat.beq off 0) ((EG (.ptr e) s a).bind fun l=>(Jz id s e).bind fun ws=>.ret (ws++[(l,.own id)])) .fail)
   (cond (nz t tab.frzs) ((EG (.ptr e) s a).bind fun l=>(JG s off e).bind fun q=>.ret (q.2++[(l,.pv (.ptr e) [q.1])])) (EC (.ptr e) a (.adr s off)))
 | u,v=>EC u a v
def mW:Ty→Nat
 | .pair a b=>max (mW a+1) (mW b)
 | _=>0
def U3 (op:BinOp) (k:IntKind) (x y:Int):Rd (SV×HW):=
 match op with
 | .add=>.ret (.pv (.int k) (k.wrap (x+y)),[])
 | .sub=>.ret (.pv (.int k) (k.wrap (x-y)),[])
 | .mul=>.ret (.pv (.int k) (k.wrap (x*y)),[])
 | .quo=>.opt (EE k x y) fun z=>.ret (.pv (.int k) z,[])
 | .rem=>.opt (nP x y) fun z=>.ret (.pv (.int k) z,[])
 | .and|.or|.xor|.andNot=>.ret (.pv (.int k) (UZ op k x y),[])
 | .eql=>.ret (.pv .bool (decide (x=y)),[])
 | .neq=>.ret (.pv .bool (!decide (x=y)),[])
 | .lss=>.ret (.pv .bool (decide (x<y)),[])
 | .leq=>.ret (.pv .bool (decide (x≤y)),[])
 | .gtr=>.ret (.pv .bool (decide (y<x)),[])
 | .geq=>.ret (.pv .bool (decide (y≤x)),[])
 | _=>.fail
def U5 (op:BinOp) (x y:UInt8):Rd (SV×HW):=
 match op with
 | .add=>.ret (.pv .u8 (byteOf (wrap .u8 (aB x+aB y))),[])
 | .sub=>.ret (.pv .u8 (byteOf (wrap .u8 (aB x-aB y))),[])
 | .mul=>.ret (.pv .u8 (byteOf (wrap .u8 (aB x*aB y))),[])
 | .quo=>.opt (EE .u8 (aB x) (aB y)) fun z=>.ret (.pv .u8 (byteOf z),[])
 | .rem=>.opt (nP (aB x) (aB y)) fun z=>.ret (.pv .u8 (byteOf z),[])
 | .and|.or|.xor|.andNot=>.ret (.pv .u8 (byteOf (UZ op .u8 (aB x) (aB y))),[])
 | .eql=>.ret (.pv .bool (decide (aB x=aB y)),[])
 | .neq=>.ret (.pv .bool (!decide (aB x=aB y)),[])
 | .lss=>.ret (.pv .bool (decide (aB x<aB y)),[])
 | .leq=>.ret (.pv .bool (decide (aB x≤aB y)),[])
 | .gtr=>.ret (.pv .bool (decide (aB y<aB x)),[])
 | .geq=>.ret (.pv .bool (decide (aB y≤aB x)),[])
 | _=>.fail
def U2 (op:BinOp) (x y:List UInt8):Rd (SV×HW):=
 match op with
 | .add=>.opt (bF x y) fun z=>.ret (.pv .str z,[])
 | .eql=>.ret (.pv .bool (decide (x=y)),[])
 | .neq=>.ret (.pv .bool (!decide (x=y)),[])
 | .lss=>.ret (.pv .bool (aY x y),[])
 | .leq=>.ret (.pv .bool (aY x y || decide (x=y)),[])
 | .gtr=>.ret (.pv .bool (!(aY x y || decide (x=y))),[])
 | .geq=>.ret (.pv .bool (!aY x y),[])
 | _=>.fail
def U4 (op:BinOp) (x y:Bool):Rd (SV×HW):=
 match op with
 | .eql=>.ret (.pv .bool (x == y),[])
 | .neq=>.ret (.pv .bool (!(x == y)),[])
 | _=>.fail
def ng:SV→Option Bool
 | .nilp=>some true
 | .adr _ _=>some false
 | .elt _ _ _=>some false
 | .lel _ _ _=>some false
 | .oel _ _ _ _=>some false
 | .pv (.tree _ _) x=>some (zdC x)
 | .pv (.ptr _) l=>some (isEmpty l)
 | _=>none
def lS (op:BinOp) (b:Bool):Rd (SV×HW):=
 match op with
 | .eql=>.ret (.pv .bool b,[])
 | .neq=>.ret (.pv .bool (!b),[])
 | _=>.fail
def uO (op:BinOp):Rd (SV×HW):=
 match op with
 | .eql=>.ret (.anyb,[])
 | .neq=>.ret (.anyb,[])
 | _=>.fail
def KR (op:BinOp):SV→Rd (SV×HW)
 | .nils=>lS op true
 | .pv (.slice _) l=>.br (isEmpty l) (uO op) (lS op false)
 | .lv (.slice _) l=>.br (isEmpty l) (uO op) (lS op false)
 | .hdr r=>.get (.row r) fun w=>match w with
  | .row _ _ l=>.br (isEmpty l) (uO op) (lS op false)
  | _=>.fail
 | _=>.fail
def MI (tab:Tab) (op:BinOp) (xt:TypeId) (x y:SV):Rd (SV×HW):=
 match x,y with
 | .pv (.int k) a,.pv (.int k') b=>
  match op with
  | .shl=>.opt (Aj k a b) fun z=>.ret (.pv (.int k) z,[])
  | .shr=>.opt (Ai k a b) fun z=>.ret (.pv (.int k) z,[])
  | _=>cond (nS k k') (U3 op k a b) .fail
 | .pv .u8 a,.pv (.int _) b=>
  match op with
  | .shl=>.opt (Aj .u8 (aB a) b) fun z=>.ret (.pv .u8 (byteOf z),[])
  | .shr=>.opt (Ai .u8 (aB a) b) fun z=>.ret (.pv .u8 (byteOf z),[])
  | _=>.fail
 | .pv (.int k) a,.pv .u8 b=>
  match op with
  | .shl=>.opt (Aj k a (aB b)) fun z=>.ret (.pv (.int k) z,[])
  | .shr=>.opt (Ai k a (aB b)) fun z=>.ret (.pv (.int k) z,[])
  | _=>.fail
 | .pv .u8 a,.pv .u8 b=>U5 op a b
 | .pv .str a,.pv .str b=>U2 op a b
 | .pv .bool a,.pv .bool b=>match tl tab xt with
  | some .bool=>U4 op a b
  | _=>.fail
 | .own r,.nilp=>cond (nD tab.ptrs xt) (.get (.row r) fun w=>match w with
  | .row _ _ l=>lS op (isEmpty l)
  | .deep _ l _ _=>lS op (isEmpty l)
  | _=>.fail) .fail
 | v,.nilp=>cond (nD tab.ptrs xt) ((Rd.ofO (ng v)).bind fun b=>lS op b) .fail
 | v,.nils=>match tl tab xt with
  | some (.slice _)=>KR op v
  | _=>.fail
 | x,y=>match tl tab xt with
  | some t=>cond (cond t.agg (ble (mW t) 9000) false) ((jM t x).bind fun p=>(jM t y).bind fun q=>(Rd.ofO (jg t p.1 q.1)).bind fun b=>(lS op b).bind fun r=>.ret (r.1,p.2++q.2)) .fail
  | none=>.fail
inductive PS where
 | pure (t:Ty)
 | obj (t:Ty) (own:List Bool)
 | nilp
 | fnc (f:FuncId) (n:Nat)
 | box
 | row (e:Ty)
 | lent (t:Ty)
 | rptr (e:Ty)
 | agg (t:Ty) (own:List Bool)
def lay:Ty→Ty
 | .unit=>.unit
 | .pair a b=>.pair a b
 | t=>.pair t .unit
inductive RS where
 | pure (t:Ty)
 | own (pub:Bool) (e:Ty)
 | newobj (t:Ty) (own:List Bool)
 | maybe (t:Ty) (own:List Bool)
 | deep (e:Ty)
 | agg (t:Ty) (own:List Bool)
def bK:List PS→Ty
 | []=>.unit
 | .pure t::r=>.pair t (bK r)
 | .obj t _::r=>.pair (lay t) (bK r)
 | .nilp::r=>bK r
 | .fnc _ _::r=>bK r
 | .box::r=>bK r
 | .row e::r=>.pair (.slice e) (bK r)
 | .lent t::r=>.pair t (bK r)
 | .rptr e::r=>.pair e (bK r)
 | .agg t _::r=>.pair t (bK r)
def dX:List PS→Ty
 | []=>.unit
 | .obj t _::r=>.pair (lay t) (dX r)
 | .row e::r=>.pair (.slice e) (dX r)
 | _::r=>dX r
def RS.ty:RS→Ty
 | .pure t=>t
 | .own _ e=>.slice e
 | .newobj t _=>lay t
 | .maybe t _=>.pair .bool (lay t)
 | .deep e=>.slice e
 | .agg t _=>t
def iD:List RS→List PS→Ty
 | [],ps=>dX ps
 | r::rs,ps=>.pair r.ty (iD rs ps)
structure Sig where
 ps:List PS
 rs:List RS
 F:(bK ps).den→Option (iD rs ps).den
def kM:List PS→List SV→Bool
 | [],[]=>true
 | .pure _::_,.lv _ _::_=>false
 | .lent _::r,_::vs=>kM r vs
 | .rptr _::r,.adr _ _::vs=>kM r vs
 | .rptr _::r,.lel _ _ _::vs=>kM r vs
 | .pure _::r,.nilp::vs=>kM r vs
 | .pure _::r,_::vs=>kM r vs
 | .obj _ _::r,.adr _ _::vs=>kM r vs
 | .obj _ _::r,.own _::vs=>kM r vs
 | .agg _ _::r,.agg _ _::vs=>kM r vs
 | .nilp::r,.nilp::vs=>kM r vs
 | .fnc f n::r,.fn g _ m::vs=>cond (cond (Nat.beq f g) (Nat.beq n m) false) (kM r vs) false
 | .box::r,.adr _ _::vs=>kM r vs
 | .row _::r,.hdr _::vs=>kM r vs
 | _,_=>false
def yU:List Sig→List SV→Option Sig
 | [],_=>none
 | s::r,vs=>cond (kM s.ps vs) (some s) (yU r vs)
def fM (mk:Nat→HLoc):List Bool→Nat→Rd (List HLoc)
 | [],_=>.ret []
 | o::os,i=>cond o
  (.get (mk i) fun v=>match v with
   | .hdr r=>(fM mk os (i+1)).bind fun d=>.ret (.row r::d)
   | .own r=>(fM mk os (i+1)).bind fun d=>.ret (.row r::d)
   | .nils=>fM mk os (i+1)
   | .nilp=>fM mk os (i+1)
   | _=>.fail)
  (fM mk os (i+1))
def hdB:List Bool→Bool
 | []=>false
 | b::_=>b
def tlB:List Bool→List Bool
 | []=>[]
 | _::r=>r
def jJ (a b:List HLoc):Bool:=
 match a with
 | []=>true
 | l::r=>cond (dA l b) false (jJ r b)
def aH:Ty→Nat
 | .pair _ b=>aH b+1
 | _=>0
def pbO:List Bool→Nat→Bool
 | [],_=>true
 | b::_,0=> !b
 | _::r,n+1=>pbO r n
def dpO:List Bool→Nat→Bool
 | [],_=>false
 | b::r,0=>cond b (hdB r) false
 | _::r,n+1=>dpO r n
def dpF (dp:Bool) (e:Ty):Bool:=cond dp (match slF e with|some _=>true|none=>false) false
def oP (dp pb:Bool) (e:Ty) (x:List e.den):SV:=cond (dpF dp e) (.deep e x (List.length x) none) (.row pb e x)
def rJ (dp:Bool) (t:Ty):SV→Rd (t.den×HW)
 | .nils=>match t with
  | .slice _=>.ret ([],[])
  | _=>.fail
 | .hdr r=>.get (.row r) fun v=>match v with
  | .row pub e l=>cond (cond pub true (dpF dp e)) .fail ((Rd.ofO (bi (.slice e) t l)).bind fun y=>.ret (y,[]))
  | .deep e l n h=>match h with
   | none=>cond (dpF dp e) (.br (decide (n=List.length l)) ((Rd.ofO (bi (.slice e) t l)).bind fun y=>.ret (y,[])) .fail) .fail
   | some _=>.fail
  | _=>.fail
 | .nilp=>match t with
  | .ptr _=>.ret ([],[])
  | _=>.fail
 | .own r=>.get (.row r) fun v=>match v with
  | .row pub e l=>cond (cond pub true (dpF dp e)) .fail ((Rd.ofO (bi (.ptr e) t l)).bind fun y=>.ret (y,[]))
  | .deep e l n h=>match h with
   | none=>cond (dpF dp e) (.br (decide (n=List.length l)) ((Rd.ofO (bi (.ptr e) t l)).bind fun y=>.ret (y,[])) .fail) .fail
   | some _=>.fail
  | _=>.fail
 | _=>.fail
def DY (t:Ty) (v:SV):Rd (t.den×HW):=
 match t with
 | .slice e=>gZ (.slice e) v
 | _=>.fail
def iP (mk:Nat→HLoc):List Bool→(t:Ty)→Nat→Rd (t.den×HW)
 | _,.unit,_=>.ret ((),[])
 | os,.pair a b,i=>.get (mk i) fun v=>(cond (hdB os) (cond (pbO os (aH b+1)) (DY a v) (rJ (dpO os (aH b+1)) a v)) (gZ a v)).bind fun p=>(iP mk (tlB os) b (i+1)).bind fun q=>.ret ((p.1,q.1),p.2++q.2)
 | _,_,_=>.fail
def qw (mk:Nat→HLoc):List Bool→Nat→Rd (List HLoc)
 | [],_=>.ret []
 | o::os,i=>cond o (.get (mk i) fun v=>(qw mk os (i+1)).bind fun d=>match v with
  | .hdr r=>.ret (.row r::d)
  | .own r=>.ret (.row r::d)
  | _=>.ret d) (qw mk os (i+1))
def gJ (mk:Nat→HLoc) (rid:Nat) (pb dp:Bool) (o:Bool) (a:Ty) (x:a.den) (i:Nat):HW:=
 cond o
  (match a,x with
  | .slice e,x=>[(.row (rid+i),oP dp pb e x),(mk i,.hdr (rid+i))]
  | .ptr e,x=>[(.row (rid+i),oP dp pb e x),(mk i,.own (rid+i))]
  | a,x=>[(mk i,.pv a x)])
  [(mk i,.pv a x)]
def aZ (mk:Nat→HLoc) (rid:Nat):List Bool→(t:Ty)→t.den→Nat→HW
 | os,.pair a b,x,i=>gJ mk rid (pbO os (aH b+1)) (dpO os (aH b+1)) (hdB os) a x.1 i++aZ mk rid (tlB os) b x.2 (i+1)
 | _,_,_,_=>[]
def jW (rid:Nat):List Bool→Nat→Rd Unit
 | o::os,i=>cond o (fresh (.row (rid+i)) (jW rid os (i+1))) (jW rid os (i+1))
 | [],_=>.ret ()
def wQ (t:Ty):SV→Rd t.den
 | .pv t' x=>Rd.ofO (bi t' t x)
 | .lv t' x=>Rd.ofO (bi t' t x)
 | .nils=>match t with
  | .slice _=>.ret []
  | _=>.fail
 | .hdr r=>.get (.row r) fun v=>match v with
  | .row _ e l=>Rd.ofO (bi (.slice e) t l)
  | .deep e l _ h=>match h with
   | none=>Rd.ofO (bi (.slice e) t l)
   | some _=>.fail
  | _=>.fail
 | _=>.fail
def wP (mk:Nat→HLoc):(t:Ty)→Nat→Rd t.den
 | .unit,_=>.ret ()
 | .pair a b,i=>.get (mk i) fun v=>(wQ a v).bind fun p=>(wP mk b (i+1)).bind fun q=>.ret (p,q)
 | _,_=>.fail
def UT (t:Ty) (v:SV):Rd t.den:=
 match v with
 | .pv t' x=>Rd.ofO (bi t' t x)
 | _=>.fail
def Ec (mk:Nat→HLoc):(t:Ty)→Nat→Rd t.den
 | .unit,_=>.ret ()
 | .pair a b,i=>.get (mk i) fun v=>(UT a v).bind fun p=>(Ec mk b (i+1)).bind fun q=>.ret (p,q)
 | _,_=>.fail
def uy:Ty→Ty→Bool
 | .unit,_=>true
 | .pair a b,.pair c d=>cond (a.beq c) (uy b d) false
 | _,_=>false
def wK (e:Ty) (v:SV):Rd e.den:=
 match v with
 | .adr s off=>cond (Nat.beq off 0) (.get (.site s) fun w=>match w with
  | .obj t'=>cond (cond t'.agg (uy e t') false) (Ec (.fld s) e 0) .fail
  | _=>.fail) .fail
 | .lel t x off=>cond (Nat.beq off 0) (Rd.ofO (bi t e x)) .fail
 | _=>.fail
def Eb (t:Ty) (v:SV):Rd t.den:=
 match v with
 | .agg d t'=>cond (t'.beq t) (wP (.comp d) t 0) (cond t.agg ((wP (.comp d) t' 0).bind fun x=>Rd.ofO (conv t' t x)) .fail)
 | v=>wQ t v
def df:(ps:List PS)→List SV→Rd ((bK ps).den×HW×List HLoc)
 | [],vs=>match vs with
  | []=>.ret ((),[],[])
  | _::_=>.fail
 | .pure t::r,vs=>match vs with
  | v::vs=>(jM t v).bind fun p=>(df r vs).bind fun q=>.ret ((p.1,q.1),p.2++q.2.1,q.2.2)
  | []=>.fail
 | .obj t own::r,vs=>match vs with
  | v::vs=>match v with
   | .adr s off=>cond (Nat.beq off 0) (.get (.site s) fun w=>match w with
    | .obj t'=>cond (t'.beq t) ((iP (.fld s) own (lay t) 0).bind fun p=>(fM (.fld s) (own.take (aH (lay t))) 0).bind fun d=>(df r vs).bind fun q=>.ret ((p.1,q.1),p.2++q.2.1,HLoc.site s::d++q.2.2)) .fail
    | _=>.fail) .fail
   | .own q=>cond (cond (isEmpty own) (structEnd (lay t)) false) (.get (.row q) fun w=>match w with
    | .row pub e l=>cond pub .fail (.opt (head? l) fun x=>(Rd.ofO (bi e (lay t) x)).bind fun y=>(df r vs).bind fun z=>.ret ((y,z.1),z.2.1,HLoc.row q::z.2.2))
    | _=>.fail) .fail
   | _=>.fail
  | []=>.fail
 | .agg t own::r,vs=>match vs with
  | v::vs=>match v with
   | .agg d t'=>cond (t'.beq t) ((iP (.comp d) own t 0).bind fun p=>(fM (.comp d) (own.take (aH t)) 0).bind fun dd=>(df r vs).bind fun q=>.ret ((p.1,q.1),p.2++q.2.1,dd++q.2.2)) .fail
   | _=>.fail
  | []=>.fail
 | .lent t::r,vs=>match vs with
  | v::vs=>(Eb t v).bind fun p=>(df r vs).bind fun q=>.ret ((p,q.1),q.2.1,q.2.2)
  | []=>.fail
 | .rptr t::r,vs=>match vs with
  | v::vs=>(wK t v).bind fun p=>(df r vs).bind fun q=>.ret ((p,q.1),q.2.1,q.2.2)
  | []=>.fail
 | .nilp::r,vs=>match vs with
  | v::vs=>match v with
   | .nilp=>df r vs
   | _=>.fail
  | []=>.fail
 | .fnc f n::r,vs=>match vs with
  | v::vs=>match v with
   | .fn g _ m=>cond (cond (Nat.beq f g) (Nat.beq n m) false) (df r vs) .fail
   | _=>.fail
  | []=>.fail
 | .box::r,vs=>match vs with
  | v::vs=>match v with
   | .adr s off=>cond (Nat.beq off 0) (.get (.site s) fun w=>match w with
    | .obj t'=>cond (t'.beq bU) (.get (.fld s 0) fun p=>match p,vs with
     | .adr b o,.adr b' o'::_=>cond (cond (Nat.beq b b') (Nat.beq o o') false) ((df r vs).bind fun q=>.ret (q.1,q.2.1,HLoc.site s::q.2.2)) .fail
     | _,_=>.fail) .fail
    | _=>.fail) .fail
   | _=>.fail
  | []=>.fail
 | .row e::r,vs=>match vs with
  | v::vs=>match v with
   | .hdr q=>.get (.row q) fun w=>match w with
    | .row pub e' l=>cond pub .fail ((Rd.ofO (bi (.slice e') (.slice e) l)).bind fun y=>(df r vs).bind fun z=>.ret ((y,z.1),z.2.1,HLoc.row q::z.2.2))
    | _=>.fail
   | _=>.fail
  | []=>.fail
def keepA:List PS→List SV→Rd (List HLoc)
 | [],_=>.ret []
 | .obj t own::r,vs=>match vs with
  | .adr s _::vs=>(cond (pbO own (aH (lay t))) (.ret []) (qw (.fld s) own 0)).bind fun d=>(keepA r vs).bind fun q=>.ret (d++q)
  | .own q::vs=>(keepA r vs).bind fun z=>.ret (HLoc.row q::z)
  | _::vs=>keepA r vs
  | []=>.ret []
 | .agg t own::r,vs=>match vs with
  | .agg a _::vs=>(cond (pbO own (aH t)) (.ret []) (qw (.comp a) own 0)).bind fun d=>(keepA r vs).bind fun q=>.ret (d++q)
  | _::vs=>keepA r vs
  | []=>.ret []
 | .pure _::r,vs=>match vs with
  | _::vs=>keepA r vs
  | []=>.ret []
 | .lent _::r,vs=>match vs with
  | _::vs=>keepA r vs
  | []=>.ret []
 | .rptr _::r,vs=>match vs with
  | _::vs=>keepA r vs
  | []=>.ret []
 | .nilp::r,vs=>match vs with
  | _::vs=>keepA r vs
  | []=>.ret []
 | .fnc _ _::r,vs=>match vs with
  | _::vs=>keepA r vs
  | []=>.ret []
 | .box::r,vs=>match vs with
  | _::vs=>keepA r vs
  | []=>.ret []
 | .row _::r,vs=>match vs with
  | .hdr q::vs=>(keepA r vs).bind fun z=>.ret (HLoc.row q::z)
  | _::vs=>keepA r vs
  | []=>.ret []
def Dy:List PS→Bool
 | .obj _ _::_=>true
 | _=>false
def eX:(rid:Nat)→(ps:List PS)→List SV→(dX ps).den→Rd HW
 | _,[],_,_=>.ret []
 | rid,.obj t own::r,vs,x=>match vs with
  | v::vs=>match v with
   | .adr s _=>(jW rid own 0).bind fun _=>(eX (rid+20) r vs x.2).bind fun ws=>.ret (aZ (.fld s) rid own (lay t) x.1 0++(HLoc.site s,SV.obj t)::ws)
   | .own q=>cond (isEmpty own) ((eX (rid+20) r vs x.2).bind fun ws=>.ret ((HLoc.row q,SV.row false (lay t) [x.1])::ws)) .fail
   | _=>.fail
  | []=>.fail
 | rid,.agg _ _::r,vs,x=>match vs with
  | _::vs=>eX rid r vs x
  | []=>.fail
 | rid,.pure _::r,vs,x=>match vs with
  | _::vs=>eX rid r vs x
  | []=>.fail
 | rid,.lent _::r,vs,x=>match vs with
  | _::vs=>eX rid r vs x
  | []=>.fail
 | rid,.rptr _::r,vs,x=>match vs with
  | _::vs=>eX rid r vs x
  | []=>.fail
 | rid,.nilp::r,vs,x=>match vs with
  | _::vs=>eX rid r vs x
  | []=>.fail
 | rid,.fnc _ _::r,vs,x=>match vs with
  | _::vs=>eX rid r vs x
  | []=>.fail
 | rid,.box::r,vs,x=>match vs with
  | v::vs=>match v with
   | .adr s _=>match vs with
    | .adr b o::vs'=>cond (Dy r) ((eX (rid+20) r (.adr b o::vs') x).bind fun ws=>.ret ((HLoc.fld s 0,SV.adr b o)::(HLoc.site s,SV.obj bU)::ws)) .fail
    | _=>.fail
   | _=>.fail
  | []=>.fail
 | rid,.row e::r,vs,x=>match vs with
  | v::vs=>match v with
   | .hdr q=>(eX (rid+20) r vs x.2).bind fun ws=>.ret ((HLoc.row q,SV.row false e x.1)::ws)
   | _=>.fail
  | []=>.fail
def J6 (rid:Nat):Nat→Nat→Rd Unit
 | 0,_=>.ret ()
 | n+1,i=>fresh (.comp rid i) (J6 rid n (i+1))
def resV (rid:Nat):(r:RS)→r.ty.den→Rd (SV×HW)
 | .pure t,x=>.ret (.pv t x,[])
 | .own pub e,l=>fresh (.row rid) (.ret (.hdr rid,[(.row rid,.row pub e l)]))
 | .newobj t own,x=>fresh (.site rid) ((jW (rid+1) own 0).bind fun _=>.ret (.adr rid 0,aZ (.fld rid) (rid+1) own (lay t) x 0++[(.site rid,.obj t)]))
 | .maybe t own,x=>.br x.1 (fresh (.site rid) ((jW (rid+1) own 0).bind fun _=>.ret (.adr rid 0,aZ (.fld rid) (rid+1) own (lay t) x.2 0++[(.site rid,.obj t)]))) (.ret (.nilp,[]))
 | .deep e,l=>fresh (.row rid) (.ret (.hdr rid,[(.row rid,.deep e l (List.length l) none)]))
 | .agg t own,x=>(jW rid own 0).bind fun _=>(J6 rid (aH t) 0).bind fun _=>.ret (.agg rid t,aZ (.comp rid) rid own t x 0)
def wL (id:Nat) (ps:List PS):(rs:List RS)→(iD rs ps).den→Nat→Rd (HW×(dX ps).den)
 | [],x,_=>.ret ([],x)
 | r::rs,x,i=>fresh (.comp id i) ((resV (id+1+20*i) r x.1).bind fun p=>(wL id ps rs x.2 (i+1)).bind fun q=>.ret (p.2++(.comp id i,p.1)::q.1,q.2))
def results (id:Nat) (ps:List PS):(rs:List RS)→(iD rs ps).den→Rd (SV×HW×(dX ps).den)
 | [r],x=>(resV (id+1) r x.1).bind fun p=>.ret (p.1,p.2,x.2)
 | rs,x=>(wL id ps rs x 0).bind fun q=>.ret (.tup id rs.length,q.1,q.2)
def kC:List HLoc→HW
 | []=>[]
 | l::r=>(l,.und)::kC r
def mY:List HLoc→Bool
 | []=>true
 | l::r=>cond (dA l r) false (mY r)
def zfe:Ty→Bool
 | .slice e=>bu e
 | _=>false
def uD:List Bool→Ty→Bool
 | os,.pair a b=>cond (cond (hdB os) (zfe a) (bu a)) (uD (tlB os) b) false
 | _,_=>true
def UV:RS→Bool
 | .pure t=>bu t
 | .own _ e=>bu e
 | .newobj t os=>uD os (lay t)
 | .maybe t os=>uD os (lay t)
 | .deep _=>false
 | .agg t os=>uD os t
def zfc:PS→Bool
 | .obj t os=>uD os (lay t)
 | .row e=>bu e
 | .agg _ _=>false
 | _=>true
def MG:List RS→Bool
 | []=>true
 | r::rs=>cond (UV r) (MG rs) false
def MH:List PS→Bool
 | []=>true
 | p::ps=>cond (zfc p) (MH ps) false
def UR (sg:Sig):Bool:=cond (MG sg.rs) (MH sg.ps) false
def zF (sg:Sig) (drops:List HLoc) (pubs:HW):HW:=cond (cond (UR sg) (jJ drops (au pubs)) false) [] pubs
def sO (d:Nat):Nat→Nat→Rd (List SV)
 | 0,_=>.ret []
 | n+1,i=>.get (.comp d i) fun v=>(sO d n (i+1)).bind fun vs=>.ret (v::vs)
def wS:List SV→List HLoc
 | []=>[]
 | v::vs=>match v with
  | .hdr r=>.row r::wS vs
  | _=>wS vs
def KX:SV→Rd (List HLoc)
 | .hdr r=>.ret [.row r]
 | .adr s _=>.ret [.site s]
 | .agg d t=>(sO d (aH t) 0).bind fun vs=>.ret (wS vs)
 | _=>.ret []
def KT:List PS→List SV→Rd (List HLoc)
 | [],_=>.ret []
 | p::r,vs=>match vs with
  | v::vs=>(match p with
   | .lent _=>KX v
   | .rptr _=>KX v
   | _=>.ret []).bind fun d=>(KT r vs).bind fun q=>.ret (d++q)
  | []=>.ret []
def Uf (id:Nat) (sg:Sig) (vs:List SV):Rd (SV×HW):=
 (df sg.ps vs).bind fun p=>(keepA sg.ps vs).bind fun ks=>(KT sg.ps vs).bind fun ls=>cond (cond (mY p.2.2) (cond (jJ ks (au p.2.1)) (jJ ls p.2.2) false) false) (.opt (sg.F p.1) fun y=>(results id sg.ps sg.rs y).bind fun q=>(eX (id+80) sg.ps vs q.2.2).bind fun ws=>cond (mY (au (q.2.1++ws))) (.ret (q.1,zF sg p.2.2 p.2.1++(kC p.2.2++(q.2.1++ws)))) .fail) .fail
def xu:List SV→Bool
 | []=>true
 | v::vs=>match v with
  | .fn _ _ _=>false
  | _=>xu vs
def KW:SV→Bool
 | .obj t=>t.beq bU
 | _=>false
def oM:List SV→Rd (List SV)
 | []=>.ret []
 | v::vs=>match v with
  | .fn f d n=>(sO d n 0).bind fun cs=>cond (xu cs) ((oM vs).bind fun q=>.ret (.fn f d n::(cs++q))) .fail
  | .adr s off=>.get (.site s) fun w=>match KW w with
   | true=>.get (.fld s 0) fun p=>match p with
    | .adr b o=>(oM vs).bind fun q=>.ret (.adr s off::.adr b o::q)
    | _=>(oM vs).bind fun q=>.ret (.adr s off::q)
   | false=>(oM vs).bind fun q=>.ret (.adr s off::q)
  | v=>(oM vs).bind fun q=>.ret (v::q)
def jd (l:HLoc):SV→HW→SV
 | v,[]=>v
 | v,(m,u)::r=>jd l (cond (l.beq m) u v) r
def vW:SV→SV→Bool
 | .obj t,.obj u=>t.beq u
 | .adr a o,.adr b p=>cond (Nat.beq a b) (Nat.beq o p) false
 | _,_=>false
def oO (l:HLoc):HW→HW
 | []=>[]
 | (m,u)::r=>cond (l.beq m) (oO l r) ((m,u)::oO l r)
def Ef:List HLoc→HW→Rd HW
 | [],hw=>.ret hw
 | l::ls,hw=>.get l fun v=>cond (vW v (jd l .bot hw)) (Ef ls (oO l hw)) .fail
def EN:List PS→List SV→List HLoc
 | [],_=>[]
 | .box::r,vs=>match vs with
  | .adr s _::vs=>.fld s 0::.site s::EN r vs
  | _::vs=>EN r vs
  | []=>[]
 | _::r,vs=>match vs with
  | _::vs=>EN r vs
  | []=>[]
def rG:List (FuncId×Ty)→FuncId→Option Ty
 | [],_=>none
 | (g,t)::r,f=>cond (Nat.beq g f) (some t) (rG r f)
def wE (n:Nat):SV→Bool
 | .agg _ t=>Nat.beq t.size n
 | .pv t _=>cond t.agg (Nat.beq t.size n) false
 | .lv t _=>cond t.agg (Nat.beq t.size n) false
 | _=>false
def Ue (tab:Tab) (f:FuncId) (n:Nat) (vs:List SV) (k:Rd (SV×HW)):Rd (SV×HW):=
 match rG tab.sames f with
 | some t=>match vs with
  | [v]=>cond (cond (Nat.beq n 0) (wE t.size v) false) (.ret (v,[])) .fail
  | _=>.fail
 | none=>k
def Le (Γ:FuncId→List Sig) (id:Nat) (f:FuncId) (vs:List SV):Rd (SV×HW):=
 (oM vs).bind fun us=>match yU (Γ f) us with
 | some sg=>(Uf id sg us).bind fun p=>(Ef (EN sg.ps us) p.2).bind fun hw=>.ret (p.1,hw)
 | none=>.fail
def partAt (i:Nat):List (Nat×SV)→Option SV
 | []=>none
 | (j,v)::r=>cond (Nat.beq j i) (some v) (partAt i r)
def Uc (mk:Nat→HLoc):Ty→Nat→Rd Bool
 | .pair _ b,i=>.get (mk i) fun v=>match v with
  | .cpy _ _ _=>.ret true
  | .agg _ _=>.ret true
  | _=>Uc mk b (i+1)
 | _,_=>.ret false
def Ea (a:Ty) (v:SV):Rd (SV×HW):=
 match v with
 | .agg d t=>(Uc (.comp d) t 0).bind fun b=>cond b (cond (cond a.agg (Nat.beq t.size a.size) false) (.ret (v,[])) .fail) ((jM a v).bind fun p=>.ret (.pv a p.1,p.2))
 | v=>(fits a v).bind fun _=>.ret (v,[])
def bg (mk:Nat→HLoc):Nat→List SV→HW
 | _,[]=>[]
 | i,v::vs=>(mk i,v)::bg mk (i+1) vs
def ni (id:Nat) (parts:List (Nat×SV)):Ty→Nat→Rd (HW×List SV)
 | .pair a b,i=>fresh (.comp id i) ((match partAt i parts with
  | some v=>Ea a v
  | none=>.ret (oH a,[])).bind fun p=>(ni id parts b (i+1)).bind fun q=>.ret (p.2++q.1,p.1::q.2))
 | .unit,_=>.ret ([],[])
 | _,_=>.fail
def zl (e:Ty):List (Nat×SV)→Nat→Rd (List e.den×HW)
 | [],_=>.ret ([],[])
 | (j,v)::r,i=>cond (Nat.beq i j) ((jM e v).bind fun p=>(zl e r (i+1)).bind fun q=>.ret (p.1::q.1,p.2++q.2)) .fail
def DW (id:Nat) (e:Ty) (len:Nat):List (Nat×SV)→Rd (SV×HW)
 | [(0,.agg d t)]=>cond (cond (Nat.beq len 1) (cond (t.beq e) (ble e.size 16777216) false) false) ((vZ (.comp d) e 0).bind fun q=>fresh (.row id) (match q.2 with
     | none=>.ret (.hdr id,[(.row id,.deep e [q.1] 1 none)])
     | some r=>cond (match slF e with|some _=>true|none=>false) (.ret (.hdr id,[(.row r,.und),(.row id,.deep e [q.1] 1 none)])) .fail)) .fail
 | _=>.fail
def wX (n:Nat):List Nat→Bool
 | []=>true
 | a::r=>cond (blt a n) (wX n r) false
def Eh (n:Nat):List Nat→Bool
 | []=>true
 | a::r=>cond (Nat.beq a n) false (Eh n r)
def rising:List Nat→Bool
 | []=>true
 | a::r=>cond (Eh a r) (rising r) false
def listOf (e:Ty):SV→Rd (List e.den)
 | .nils=>.ret []
 | .pv t x=>Rd.ofO (bi t (.slice e) x)
 | .lv t x=>cond (bu e) (Rd.ofO (bi t (.slice e) x)) .fail
 | .hdr r=>.get (.row r) fun v=>match v with
  | .row _ e' l=>Rd.ofO (bi (.slice e') (.slice e) l)
  | _=>.fail
 | _=>.fail
def DL (e:Ty) (v:SV):Rd (List e.den):=
 match v with
 | .pv .str x=>Rd.ofO (bi (.slice .u8) (.slice e) x)
 | v=>listOf e v
def jF:SV→Option Int
 | .pv (.int _) n=>some n
 | .pv .u8 b=>some (aB b)
 | _=>none
def DI (tab:Tab) (id:Nat) (t:TypeId) (s x:SV):Rd (SV×HW):=
 match tl tab t with
 | some (.slice e)=>
  match s with
  | .nils=>(DL e x).bind fun xs=>.opt (EO e [] xs) fun l=>fresh (.row id) (.ret (.hdr id,[(.row id,.row false e l)]))
  | .hdr r=>.get (.row r) fun w=>match w with
   | .row pub e' l=>(Rd.ofO (bi (.slice e') (.slice e) l)).bind fun l0=>(DL e x).bind fun xs=>.opt (EO e l0 xs) fun l1=>fresh (.row id) (.ret (.hdr id,[(.row r,.und),(.row id,.row pub e l1)]))
   | .deep e' l n h=>match x,h with
    | .hdr q,none=>.get (.row q) fun z=>match z with
     | .deep e2 l2 n2 h2=>match h2 with
      | none=>cond (Nat.beq q r) .fail ((Rd.ofO (bi (.slice e') (.slice e) l)).bind fun l0=>(Rd.ofO (bi (.slice e2) (.slice e) l2)).bind fun xs=>.br (decide (n=List.length l0)) (.br (decide (n2=List.length xs)) (.opt (EO e l0 xs) fun l1=>fresh (.row id) (.ret (.hdr id,[(.row q,.und),(.row r,.und),(.row id,.deep e l1 (n+n2) none)]))) .fail) .fail)
      | some _=>.fail
     | _=>.fail
    | _,_=>.fail
   | _=>.fail
  | _=>.fail
 | _=>.fail
def KU (tab:Tab) (t:TypeId) (x:SV):Rd Int:=
 match tl tab t with
 | some .str=>match x with
  | .pv .str l=>.ret (ofNat (List.length l))
  | _=>.fail
 | some (.slice _)=>match x with
  | .nils=>.ret 0
  | .vec _ n=>.ret (ofNat n)
  | .pv (.slice _) l=>.ret (ofNat (List.length l))
  | .lv (.slice _) l=>.ret (ofNat (List.length l))
  | .hdr r=>.get (.row r) fun v=>match v with
   | .row _ _ l=>.ret (ofNat (List.length l))
   | .deep _ l _ _=>.ret (ofNat (List.length l))
   | _=>.fail
  | _=>.fail
 | _=>.fail
def eQ (x y:Int):Int:=cond (decide (x<y)) y x
def fQ (x y:Int):Int:=cond (decide (y<x)) y x
def zX (f:Int→Int→Int) (k:IntKind):Int→List SV→Rd (SV×HW)
 | a,[]=>.ret (.pv (.int k) a,[])
 | a,.pv (.int k') b::r=>cond (nS k k') (zX f k (f a b) r) .fail
 | _,_=>.fail
def Jr (tab:Tab) (id:Nat) (b:Builtin) (ts:List TypeId) (vs:List SV):Rd (SV×HW):=
 match b,vs with
 | .len,[v]=>match ts with
  | [t]=>(KU tab t v).bind fun n=>.ret (.pv (.int .i64) n,[])
  | _=>.fail
 | .append,[s,x]=>match ts with
  | [t,u]=>match tl tab u with
   | some (.slice _)=>DI tab id t s x
   | some .str=>DI tab id t s x
   | _=>.fail
  | _=>.fail
 | .max,.pv (.int k) a::r=>zX eQ k a r
 | .min,.pv (.int k) a::r=>zX fQ k a r
 | _,_=>.fail
def Ld (same:Bool) (id:Nat) (s d:Ty) (v:SV):Rd (SV×HW):=
 match s,d,v with
 | _,.int k,.pv (.int _) n=>.ret (.pv (.int k) (k.wrap n),[])
 | _,.int k,.pv .u8 n=>.ret (.pv (.int k) (k.wrap (aB n)),[])
 | _,.u8,.pv (.int _) n=>.ret (.pv .u8 (byteOf (wrap .u8 n)),[])
 | _,.u8,.pv .u8 n=>.ret (.pv .u8 (byteOf (wrap .u8 (aB n))),[])
 | _,.str,.pv .str x=>.ret (.pv .str x,[])
 | _,.slice .u8,.pv .str x=>fresh (.row id) (.ret (.hdr id,[(.row id,.row false .u8 x)]))
 | .slice .u8,.str,v=>(listOf .u8 v).bind fun l=>.ret (.pv .str l,[])
 | .slice .u8,.slice .u8,.hdr r=>cond same (.get (.row r) fun w=>match w with
  | .row _ _ l=>.br (isEmpty l) .fail (.ret (.hdr r,[]))
  | _=>.fail) .fail
 | _,_,_=>.fail
def VW (lo:Option SV):Option Int:=
 match lo with
 | none=>some 0
 | some v=>jF v
def zn {α:Type} (l:List α) (lo hi mx:Option SV) (k:List α→Rd (SV×HW)):Rd (SV×HW):=
 match VW lo with
 | none=>.fail
 | some a=>match hi,mx with
  | none,none=>.opt (gY l a l.length) k
  | some h,none=>match jF h with
   | some b=>.opt (gY l a b) k
   | none=>.fail
  | some h,some m=>match jF h,jF m with
   | some b,some c=>.opt (gY l 0 c) fun l1=>.opt (gY l1 a b) k
   | _,_=>.fail
  | none,some _=>.fail
def JJ (tab:Tab) (t:TypeId) (lo hi mx:Option SV) (x:SV):Rd (SV×HW):=
 match tl tab t with
 | some .str=>match x,mx with
  | .pv .str l,none=>zn l lo hi none fun y=>.ret (.pv .str y,[])
  | _,_=>.fail
 | some (.slice et)=>match x with
  | .pv (.slice e) l=>cond (e.beq et) (zn (α:=e.den) l lo hi mx fun y=>.ret (.pv (.slice e) y,[])) .fail
  | .hdr r=>.get (.row r) fun w=>match w with
   | .row pub e l=>cond (e.beq et) (zn (α:=e.den) l lo hi mx fun y=>.ret (.pv (.slice e) y,cond pub [] [(.row r,.row true e l)])) .fail
   | _=>.fail
  | _=>.fail
 | _=>.fail
def um (id:Nat):Nat→List SV→Rd Unit
 | _,[]=>.ret ()
 | i,v::vs=>match v with
  | .bot=>.fail
  | .und=>.fail
  | _=>fresh (.comp id i) (um id (i+1) vs)
def Kr (tab:Tab) (id:Nat) (p:TypeId×Nat):Rd (SV×HW):=
 match tl tab p.1 with
 | some e=>cond (blt 0 p.2) (fresh (.site id) (.ret (.adr id 0,uh (.fld id) (dI e p.2) 0++[(.site id,.obj (dI e p.2))]))) .fail
 | none=>.fail
def wW (b o z:Nat) (k:Int):Nat→Nat→Rd (SV×HW)
 | 0,_=>.fail
 | m+1,j=>.br (decide (k=ofNat j)) (.ret (.adr b (o+j*z),[])) (wW b o z k m (j+1))
def Uj (t:Ty) (o m:Nat):Bool:=
 match iO t 0 o with
 | some q=>cond q.2.2.agg (ble (q.2.1+m) q.2.2.size) false
 | none=>false
def J5 (tab:Tab) (p:TypeId×Nat) (x i:SV):Rd (SV×HW):=
 match tl tab p.1 with
 | some e=>match jF i with
  | some k=>match x with
   | .adr b o=>.get (.site b) fun w=>match w with
    | .obj t=>cond (Uj t o (p.2*e.size)) (.opt (jf p.2 k) fun j=>.ret (.sel b o e.size p.2 j,[])) (wW b o e.size k p.2 0)
    | _=>wW b o e.size k p.2 0
   | _=>.fail
  | none=>.fail
 | none=>.fail
def J8 (t:Ty) (v:SV) (f:Nat):Rd (SV×HW):=
 match v with
 | .pv t' y=>cond (t'.beq t) ((Rd.ofO (qj t' y f)).bind fun z=>.ret (.pv z.1 z.2,[])) .fail
 | .agg d t'=>cond (t'.beq t) (match dN t f with
  | some ft=>.get (.comp d f) fun v=>(fits ft v).bind fun _=>.ret (v,[])
  | none=>.fail) .fail
 | _=>.fail
def Eg (t:Ty) (v:SV) (k:Int):Nat→Nat→Rd (SV×HW)
 | 0,_=>.fail
 | m+1,j=>.br (decide (k=ofNat j)) (J8 t v j) (Eg t v k m (j+1))
def J4 (tab:Tab) (p:TypeId×Nat) (x i:SV):Rd (SV×HW):=
 match tl tab p.1 with
 | some e=>match jF i with
  | some k=>Eg (dI e p.2) x k p.2 0
  | none=>.fail
 | none=>.fail
def JH (id d:Nat) (t:Ty) (n:Nat) (ft:Ty):Rd (SV×HW):=
 match iO t 0 n with
 | some q=>cond (cond (Nat.beq q.2.1 0) (q.2.2.beq ft) false) (.get (.comp d q.1) fun v=>(fits ft v).bind fun _=>.ret (v,[]))
   (cond (ble (q.2.1+ft.size) q.2.2.size)
    (.get (.comp d q.1) fun v=>match v with
     | .pv c x=>cond (c.beq q.2.2) ((Rd.ofO (sub c x q.2.1 ft)).bind fun y=>.ret (.pv ft y,[])) .fail
     | .lv c x=>cond (c.beq q.2.2) ((Rd.ofO (sub c x q.2.1 ft)).bind fun y=>.ret (lvP ft y,[])) .fail
     | _=>.fail)
    (cond ft.agg (match rD t 0 n ft.size with
     | some p=>(uo (fun k=>.comp d (p.1+k)) (.comp id) p.2 0).bind fun ws=>.ret (.agg id p.2,ws)
     | none=>.fail) .fail))
 | none=>.fail
def MB (id f d:Nat) (t ty:Ty):Rd (SV×HW):=
 match fJ ty f with
 | some n=>match dN ty f with
  | some ft=>JH id d t n ft
  | none=>.fail
 | none=>.fail
def Jq (id:Nat) (parts:List (Nat×SV)) (len:Nat):Rd (SV×HW):=
 cond (cond (Nat.beq len parts.length) (ble len 1000) false) (fitsL parts 0 |>.bind fun _=>(um id 0 (parts.map fun p=>p.2)).bind fun _=>.ret (.vec id len,bg (.comp id) 0 (parts.map fun p=>p.2))) .fail
where
 fitsL:List (Nat×SV)→Nat→Rd Unit
  | [],_=>.ret ()
  | (j,v)::r,i=>cond (Nat.beq i j) ((fits bU v).bind fun _=>fitsL r (i+1)) .fail
def wV (d:Nat) (k:Int):Nat→Nat→Rd (SV×HW)
 | 0,_=>.fail
 | m+1,j=>.br (decide (k=ofNat j)) (.ret (.ref d j,[])) (wV d k m (j+1))
def aop (tab:Tab) (Γ:FuncId→List Sig) (id:Nat) (ev:Operand→SV) (o:Op):Rd (SV×HW):=
 match o with
 | .move x=>.ret (ev x,[])
 | .assign x=>.ret (ev x,[])
 | .pick c a b=>match ev c with
  | .pv .bool x=>.br x (.ret (ev a,[])) (.ret (ev b,[]))
  | _=>.fail
 | .alloc t=>match iW tab.arrs t with
  | some p=>Kr tab id p
  | none=>match tl tab t with
  | some ty=>fresh (.site id) (.ret (.adr id 0,cond ty.agg (uh (.fld id) (flT tab t ty) 0) [(.fld id 0,oH ty)]++[(.site id,.obj (cond ty.agg (flT tab t ty) ty))]))
  | none=>.fail
 | .box t x=>match tla tab t with
  | some ty=>fresh (.site id) ((putObj id (cond ty.agg (flT tab t ty) ty) (ev x)).bind fun ws=>.ret (.adr id 0,ws++[(.site id,.obj (cond ty.agg (flT tab t ty) ty))]))
  | none=>.fail
 | .build t parts=>match tla tab t with
  | some ty=>cond ty.agg (cond parts.toList.isEmpty ((ni id [] (flT tab t ty) 0).bind fun q=>.ret (.agg id (flT tab t ty),q.1++bg (.comp id) 0 q.2)) <| cond (cond (rising (parts.toList.map fun p=>p.1)) (wX (nfT ty) (parts.toList.map fun p=>p.1)) false) ((ni id (parts.toList.map fun p=>(p.1,ev p.2)) ty 0).bind fun q=>.ret (.agg id ty,q.1++bg (.comp id) 0 q.2)) .fail) .fail
  | none=>.fail
 | .buildSlice t len parts=>match tl tab t with
  | some (.slice e)=>cond (nz t tab.vecs) (cond (Nat.beq e.size 1) (Jq id (parts.toList.map fun p=>(p.1,ev p.2)) len) .fail) <| cond (nz t tab.deeps) (DW id e len (parts.toList.map fun p=>(p.1,ev p.2))) <| cond (Nat.beq len parts.toList.length) (cond (ble (len*e.size) 16777216)
    ((zl e (parts.toList.map fun p=>(p.1,ev p.2)) 0).bind fun q=>fresh (.row id) (.ret (.hdr id,q.2++[(.row id,.row false e q.1)]))) .fail) .fail
  | _=>.fail
 | .load t a=>match tla tab t with
  | some ty=>oZ id ty (ev a)
  | none=>.fail
 | .store t a x=>match tla tab t with
  | some ty=>(KC tab id t ty (ev a) (ev x)).bind fun ws=>.ret (.bot,ws)
  | none=>.fail
 | .nilCheck x=>match ev x with
  | .adr s o=>.ret (.adr s o,[])
  | .elt t y o=>.ret (.elt t y o,[])
  | .lel t y o=>.ret (.lel t y o,[])
  | .oel r i o z=>.ret (.oel r i o z,[])
  | .sel b o z n j=>.ret (.sel b o z n j,[])
  | .pv (.tree k v) y=>.opt (uz k v y) fun _=>.ret (.pv (.tree k v) y,[])
  | .pv (.ptr e) l=>.opt (head? (α:=e.den) l) fun y=>.ret (.elt e y 0,[])
  | .own r=>.get (.row r) fun w=>match w with
   | .row _ e l=>.opt (head? l) fun _=>.ret (.oel r 0 0 e.size,[])
   | .deep e l _ _=>.opt (head? l) fun _=>.ret (.oel r 0 0 e.size,[])
   | _=>.fail
  | .ref d j=>.ret (.ref d j,[])
  | _=>.fail
 | .binOp op xt x y _=>MI tab op xt (ev x) (ev y)
 | .unOp op _ x=>match op,ev x with
  | .not,.pv .bool b=>.ret (.pv .bool (!b),[])
  | .neg,.pv (.int k) n=>.ret (.pv (.int k) (k.wrap (0-n)),[])
  | _,_=>.fail
 | .convert s d x=>match tl tab s,tl tab d with
  | some a,some b=>Ld (Nat.beq s d) id a b (ev x)
  | _,_=>.fail
 | .slice t x lo hi mx=>JJ tab t (lo.map ev) (hi.map ev) (mx.map ev) (ev x)
 | .fieldAddr s x f=>match tls tab s with
  | some ty=>match fJ ty f with
   | some n=>match ev x with
    | .adr b o=>.ret (.adr b (o+n),[])
    | .elt t y o=>.ret (.elt t y (o+n),[])
    | .lel t y o=>.ret (.lel t y (o+n),[])
    | .oel r i o z=>.ret (.oel r i (o+n) z,[])
    | .sel b o z m j=>.ret (.sel b (o+n) z m j,[])
    | .pv (.tree k v) y=>cond (ty.beq (jT k v)) (.opt (uz k v y) fun z=>.ret (.elt (jT k v) z n,[])) .fail
    | .pv (.ptr e) l=>.opt (head? (α:=e.den) l) fun y=>.ret (.elt e y n,[])
    | .own r=>.get (.row r) fun w=>match w with
     | .row _ e l=>.opt (head? l) fun _=>.ret (.oel r 0 n e.size,[])
     | .deep e l _ _=>.opt (head? l) fun _=>.ret (.oel r 0 n e.size,[])
     | _=>.fail
    | _=>.fail
   | none=>.fail
  | none=>.fail
 | .field s x f=>match tls tab s with
  | some ty=>match ev x with
   | .pv t y=>cond (t.beq ty) ((Rd.ofO (qj t y f)).bind fun z=>.ret (.pv z.1 z.2,[])) .fail
   | .lv t y=>cond (t.beq ty) ((Rd.ofO (qj t y f)).bind fun z=>.ret (cond (bu z.1) (.pv z.1 z.2) (.lv z.1 z.2),[])) .fail
   | .agg d t=>cond (t.beq ty) (match dN ty f with
    | some ft=>.get (.comp d f) fun v=>(fits ft v).bind fun _=>.ret (v,[])
    | none=>.fail) (MB id f d t ty)
   | _=>.fail
  | none=>.fail
 | .indexAddr t x i=>match iW tab.arrs t with
  | some p=>J5 tab p (ev x) (ev i)
  | none=>match tl tab t with
  | some (.slice et)=>match jF (ev i) with
   | some n=>match ev x with
    | .pv (.slice e) l=>cond (e.beq et) (.opt (idx (α:=e.den) l n) fun y=>.ret (.elt e y 0,[])) .fail
    | .vec d m=>cond (Nat.beq et.size 1) (wV d n m 0) .fail
    | .hdr r=>.get (.row r) fun w=>match w with
     | .row _ e l=>cond (e.beq et) (.opt (dB (α:=e.den) l n) fun j=>.ret (.oel r j 0 e.size,[])) .fail
     | .deep e l _ _=>cond (e.beq et) (.opt (dB (α:=e.den) l n) fun j=>.ret (.oel r j 0 e.size,[])) .fail
     | _=>.fail
    | _=>.fail
   | none=>.fail
  | _=>.fail
 | .index t x i=>match iW tab.arrs t with
  | some p=>J4 tab p (ev x) (ev i)
  | none=>match tl tab t with
  | some .str=>match jF (ev i),ev x with
   | some n,.pv .str l=>.opt (idx (α:=UInt8) l n) fun y=>.ret (.pv .u8 y,[])
   | _,_=>.fail
  | _=>.fail
 | .extract x i=>match ev x with
  | .tup d n=>cond (blt i n) (.get (.comp d i) fun v=>.ret (v,[])) .fail
  | _=>.fail
 | .makeSlice t l c=>match tl tab t with
  | some (.slice e)=>match jF (ev l),jF (ev c) with
   | some n,some m=>.opt (mkO e.dflt n m) fun xs=>fresh (.row id) (.ret (.hdr id,[(.row id,.row false e xs)]))
   | _,_=>.fail
  | _=>.fail
 | .makeFunc fn first captured=>match fn with
  | .func f=>cond (Nat.beq first.toList.length 0) ((um id 0 (captured.toList.map ev)).bind fun _=>.ret (.fn f id captured.toList.length,bg (.comp id) 0 (captured.toList.map ev))) .fail
  | _=>.fail
 | .call c=>match c.callee with
  | .builtin b=>Jr tab id b c.argTypes.toList (c.args.toList.map ev)
  | .value f=>match ev f with
   | .fn g d n=>Ue tab g n (c.args.toList.map ev) ((sO d n 0).bind fun cs=>Le Γ id g (c.args.toList.map ev++cs))
   | _=>.fail
  | _=>.fail
 | _=>.fail
structure St where
 S:Nat→SV
 H:HLoc→SV
 lkS:List Nat
 lkH:List HLoc
 base:Nat:=0
def jL (S:Nat→SV) (n:Nat) (v:SV):Nat→SV:=fun m=>cond (Nat.beq m n) v (S m)
def ak (H:HLoc→SV) (l:HLoc) (v:SV):HLoc→SV:=fun m=>cond (m.beq l) v (H m)
def puts (H:HLoc→SV):HW→HLoc→SV
 | []=>H
 | (l,v)::r=>puts (ak H l v) r
def lq (n:Nat):List Nat→Bool
 | []=>false
 | m::r=>cond (Nat.beq n m) true (lq n r)
def zU (lk:List HLoc):HW→Bool
 | []=>true
 | (l,_)::r=>cond (dA l lk) false (zU lk r)
def rU (lk:List Nat):Option Tmp→Bool
 | none=>true
 | some d=>cond (lq d lk) false true
def fP (S:Nat→SV) (d:Option Tmp) (v:SV):Nat→SV:=
 match d with
 | none=>S
 | some d=>jL S d v
def force {R:Type}:HW→(HW→Option R)→Option R
 | [],k=>k []
 | (l,v)::r,k=>force r fun r'=>k ((l,v)::r')
def rQ (H:HLoc→SV) (lk:List HLoc) (all:HW):HW→Bool
 | []=>true
 | (l,_)::r=>cond (dA l lk) (cond (vW (H l) (jd l .bot all)) (rQ H lk all r) false) (rQ H lk all r)
def shp:SV→Option (Ty×Bool)
 | .row _ e l=>some (e,isEmpty l)
 | .deep e l _ _=>some (e,isEmpty l)
 | _=>none
def nN (ev:Operand→SV) (o:Op) (v:SV):List HLoc:=
 match o with
 | .nilCheck x=>match ev x with
  | .own r=>[.row r]
  | _=>[]
 | .load _ _=>match v with
  | .own r=>[.row r]
  | _=>[]
 | _=>[]
def o6 (ev:Operand→SV) (o:Op):List HLoc:=
 match o with
 | .load _ a=>match ev a with
  | .oel r _ _ _=>[.row r]
  | _=>[]
 | _=>[]
structure Step where
 i:Nat
 rd:List HLoc
 wr:List HLoc
 sh:List HLoc
 kp:List HLoc
abbrev Trace:=List Step
def Kz {R:Type} (tab:Tab) (Γ:FuncId→List Sig) (rid:Nat) (ops:List Oper) (i:Nat) (o:Oper) (s:St) (tr:Trace) (k:St→Trace→Option R):Option R:=
 let go (S:Nat→SV):Option R:=(aop tab Γ ((rid*1000+i+1)*1000) (evS S) o.op).runC s.H [] fun p fp=>force p.2 fun hw=>cond (rQ s.H s.lkH hw hw) (cond (rU s.lkS o.dst) (k { s with S:=fP S o.dst p.1,H:=puts s.H hw } (⟨i,fp,au hw,nN (evS S) o.op p.1,o6 (evS S) o.op⟩::tr)) none) none;let pass (S:Nat→SV):Option R:=cond (rU s.lkS o.dst) (k { s with S:=fP S o.dst .und } tr) none
 match o.guard with
 | none=>go s.S
 | some (j,want)=>match (ops[j]?).bind (·.dst) with
  | none=>none
  | some g=>match s.S g with
   | .pv .bool b=>cond b (cond want (go (jL s.S g (.pv .bool true))) (pass (jL s.S g (.pv .bool true)))) (cond want (pass (jL s.S g (.pv .bool false))) (go (jL s.S g (.pv .bool false))))
   | .und=>pass s.S
   | _=>none
def y9 {R:Type} (tab:Tab) (Γ:FuncId→List Sig) (rid:Nat) (ops:List Oper):List Oper→Nat→St→Trace→(St→Trace→Option R)→Option R
 | [],_,s,tr,k=>k s tr
 | o::os,i,s,tr,k=>Kz tab Γ rid ops i o s tr fun s' tr'=>y9 tab Γ rid ops os (i+1) s' tr' k
def oI (e:Edge):Bool:=
 match e.ground with
 | .textOnly _=>false
 | .gcOnly _=>false
 | _=>true
def before:List Oper→List Nat→List Nat
 | [],acc=>acc
 | o::os,acc=>before os (acc++[o.after.toList.foldl (fun s e=>cond (oI e) (s ||| 2 ^ e.on ||| acc.getD e.on 0) s) 0])
def xq (kp rd sh:List HLoc):List HLoc→Bool
 | []=>true
 | l::r=>cond (dA l rd) (cond (dA l kp) (cond (dA l sh) (xq kp rd sh r) false) false) (xq kp rd sh r)
def Ko (x y:Step):Bool:=
 match x.wr,y.wr with
 | [],[]=>true
 | _,_=>cond (xq x.kp y.rd y.sh x.wr) (cond (jJ x.wr y.wr) (xq y.kp x.rd x.sh y.wr) false) false
def Dn (bf:List Nat) (y:Step):Trace→Bool
 | []=>true
 | x::r=>cond (cond ((bf.getD y.i 0).testBit x.i) true (Ko x y)) (Dn bf y r) false
def uj (bf:List Nat):Trace→Bool
 | []=>true
 | y::r=>cond (Dn bf y r) (uj bf r) false
def looks (ops:List Oper) (o:Oper):List Nat:=
 (o.op.operands.toList.filterMap fun|.tmp t=>some t|_=>none)++(match o.guard with|some (g,_)=>((ops[g]?).bind (·.dst)).toList|none=>[])
def Kq (ops:List Oper) (x y:Oper):Bool:=
 cond (match x.dst with|some d=>cond (lq d (looks ops y)) false (match y.dst with|some e=>cond (Nat.beq d e) false true|none=>true)|none=>true)
  (match y.dst with|some d=>cond (lq d (looks ops x)) false true|none=>true) false
def CB (ops:List Oper) (b:Nat) (y:Oper):List Oper→Nat→Bool
 | [],_=>true
 | x::r,i=>cond (cond (b.testBit i) true (Kq ops x y)) (CB ops b y r (i+1)) false
def CE (ops:List Oper) (bf:List Nat):List Oper→List Oper→Nat→Bool
 | [],_,_=>true
 | y::r,done,i=>cond (CB ops (bf.getD i 0) y done 0) (CE ops bf r (done++[y]) (i+1)) false
def yt:List Oper→Nat→Bool
 | [],_=>true
 | o::os,i=>cond (o.after.toList.all fun e=>cond (oI e) (blt e.on i) true) (yt os (i+1)) false
def uF (nt:Nat×Nat):List Oper→Bool
 | []=>true
 | o::r=>cond (match o.dst with|some d=>cond (ble nt.2 d) (blt d nt.1) false|none=>true) (uF nt r) false
def JL {R:Type} (tab:Tab) (nt:Nat×Nat) (Γ:FuncId→List Sig) (rid:Nat) (ops:List Oper) (draw:Bool) (s:St) (k:St→Option R):Option R:=
 cond (uF nt ops) (cond draw
  (cond (yt ops 0) (cond (CE ops (before ops []) ops [] 0)
   (y9 tab Γ rid ops ops 0 s [] fun s' tr=>cond (uj (before ops []) tr) (k s') none) none) none)
  (y9 tab Γ rid ops ops 0 s [] fun s' _=>k s')) none
inductive Place where
 | slot (n:Nat)
 | fld (s i:Nat)
inductive CM where
 | pv|own (pub:Bool)
 | deep
structure Carry where
 p:Place
 t:Ty
 m:CM
structure Shape where
 cs:List Carry
 keepS:List Nat
 keepH:List HLoc
def gB:List Carry→Ty
 | []=>.unit
 | c::r=>.pair c.t (gB r)
def JW (s:St):Place→Rd SV
 | .slot n=>.ret (s.S n)
 | .fld a i=>.get (.site a) fun w=>match w with
  | .obj t=>cond (cond t.agg (blt i (nfT t)) (Nat.beq i 0)) (.get (.fld a i) fun v=>.ret v) .fail
  | _=>.fail
def Lc (c:Carry) (v:SV):Rd (c.t.den×HW×List HLoc×List HLoc):=
 match c.m with
 | .pv=>(jM c.t v).bind fun p=>.ret (p.1,p.2,[],[])
 | .own pub=>match v with
  | .nils=>(gZ c.t .nils).bind fun p=>.ret (p.1,[],[],[])
  | .hdr r=>.get (.row r) fun w=>match w with
   | .row p e l=>cond (cond p pub true) ((Rd.ofO (bi (.slice e) c.t l)).bind fun y=>.ret (y,cond pub (cond p [] [(HLoc.row r,SV.row true e l)]) [],[HLoc.row r],cond pub [] [HLoc.row r])) .fail
   | _=>.fail
  | .nilp=>cond pub .fail (match c.t with
   | .ptr _=>.ret ([],[],[],[])
   | _=>.fail)
  | .own r=>.get (.row r) fun w=>match w with
   | .row p e l=>cond (cond p true pub) .fail ((Rd.ofO (bi (.ptr e) c.t l)).bind fun y=>.ret (y,[],[HLoc.row r],[HLoc.row r]))
   | _=>.fail
  | _=>.fail
 | .deep=>match v with
  | .nils=>match c.t with
   | .pair (.slice _) (.int _)=>.ret (([],(0:Int)),[],[],[])
   | _=>.fail
  | .nilp=>match c.t with
   | .pair (.ptr _) (.int _)=>.ret (([],(0:Int)),[],[],[])
   | _=>.fail
  | .own r=>.get (.row r) fun w=>match w with
   | .row p e l=>cond p .fail ((Rd.ofO (bi (.pair (.ptr e) (.int .i64)) c.t (l,(0:Int)))).bind fun y=>.ret (y,[],[HLoc.row r],[HLoc.row r]))
   | .deep e l n h=>match h with
    | none=>(Rd.ofO (bi (.pair (.ptr e) (.int .i64)) c.t (l,ofNat n))).bind fun y=>.ret (y,[],[HLoc.row r],[HLoc.row r])
    | some (i,q)=>.get (.row q) fun z=>match z with
     | .row b u l'=>cond b .fail (.opt l[i]? fun x=>match slF e with
      | some f=>(Rd.ofO (bi (.slice u) (.slice f.2) l')).bind fun y=>(Rd.ofO (dS e x f.1 (.slice f.2) y)).bind fun z=>(Rd.ofO (bi (.pair (.ptr e) (.int .i64)) c.t (l.set i z,ofNat n))).bind fun y=>.ret (y,[],[HLoc.row r,HLoc.row q],[HLoc.row r,HLoc.row q])
      | none=>.fail)
     | _=>.fail
   | _=>.fail
  | .hdr r=>.get (.row r) fun w=>match w with
   | .row p e l=>cond p .fail ((Rd.ofO (bi (.pair (.slice e) (.int .i64)) c.t (l,(0:Int)))).bind fun y=>.ret (y,[],[HLoc.row r],[HLoc.row r]))
   | .deep e l n h=>match h with
    | none=>(Rd.ofO (bi (.pair (.slice e) (.int .i64)) c.t (l,ofNat n))).bind fun y=>.ret (y,[],[HLoc.row r],[HLoc.row r])
    | some (i,q)=>.get (.row q) fun z=>match z with
     | .row b u l'=>cond b .fail (.opt l[i]? fun x=>match slF e with
      | some f=>(Rd.ofO (bi (.slice u) (.slice f.2) l')).bind fun y=>(Rd.ofO (dS e x f.1 (.slice f.2) y)).bind fun z=>(Rd.ofO (bi (.pair (.slice e) (.int .i64)) c.t (l.set i z,ofNat n))).bind fun y=>.ret (y,[],[HLoc.row r,HLoc.row q],[HLoc.row r,HLoc.row q])
      | none=>.fail)
     | _=>.fail
   | _=>.fail
  | _=>.fail
def coll (s:St):(cs:List Carry)→Rd ((gB cs).den×HW×List HLoc×List HLoc)
 | []=>.ret ((),[],[],[])
 | c::r=>(JW s c.p).bind fun v=>(Lc c v).bind fun p=>(coll s r).bind fun q=>.ret ((p.1,q.1),p.2.1++q.2.1,p.2.2.1++q.2.2.1,p.2.2.2++q.2.2.2)
def collect (s:St) (cs:List Carry):Option (gB cs).den:=(coll s cs).runC s.H [] fun p _=>force p.2.1 fun hw=>
 cond (cond (cond (zU s.lkH hw) (jJ p.2.2.1 s.lkH) false) (cond (mY p.2.2.1) (jJ p.2.2.2 (au hw)) false) false) (some p.1) none
def lL (S:Nat→SV) (ks:List Nat):Nat→SV:=fun n=>cond (lq n ks) (S n) .bot
def je (H:HLoc→SV) (ks:List HLoc):HLoc→SV:=fun l=>cond (dA l ks) (H l) .bot
def ig (s:St) (p:Place) (v:SV):St:=
 match p with
 | .slot n=>{ s with S:=jL s.S n v }
 | .fld a i=>{ s with H:=ak s.H (.fld a i) v }
def xe (s:St) (rid:Nat) (c:Carry) (x:c.t.den):St:=
 match c.m with
 | .pv=>ig s c.p (.pv c.t x)
 | .own pub=>match c.t,x with
  | .slice e,x=>ig { s with H:=ak s.H (.row rid) (.row pub e x) } c.p (.hdr rid)
  | .ptr e,x=>ig { s with H:=ak s.H (.row rid) (.row pub e x) } c.p (.own rid)
  | _,_=>s
 | .deep=>match c.t,x with
  | .pair (.slice e) (.int _),x=>ig { s with H:=ak s.H (.row rid) (.deep e x.1 (toNat x.2) none) } c.p (.hdr rid)
  | .pair (.ptr e) (.int _),x=>ig { s with H:=ak s.H (.row rid) (.deep e x.1 (toNat x.2) none) } c.p (.own rid)
  | _,_=>s
def oL (s:St):Nat→(cs:List Carry)→(gB cs).den→St
 | _,[],_=>s
 | rid,c::r,x=>oL (xe s rid c x.1) (rid+1) r x.2
def lock (s:St) (σ:Shape):St:={ s with lkS:=σ.keepS++s.lkS,lkH:=σ.keepH++s.lkH }
def restore (s:St) (rid:Nat) (σ:Shape) (x:(gB σ.cs).den):St:=
 oL { s with S:=lL s.S (σ.keepS++s.lkS),H:=je s.H (σ.keepH++s.lkH) } rid σ.cs x
def sS (ks:List HLoc) (d:Nat):Nat→Bool
 | 0=>true
 | n+1=>cond (dA (.comp d n) ks) (sS ks d n) false
def qi (ks:List HLoc):SV→Bool
 | .adr s _=>dA (.site s) ks
 | .hdr r=>dA (.row r) ks
 | .own r=>dA (.row r) ks
 | .cpy d i _=>dA (.comp d i) ks
 | .vec d n=>sS ks d n
 | .ref d j=>dA (.comp d j) ks
 | .sel s _ _ _ _=>dA (.site s) ks
 | .oel r _ _ _=>dA (.row r) ks
 | .tup _ n=>Nat.beq n 0
 | .agg d t=>sS ks d (nfT t)
 | .fn _ d n=>sS ks d n
 | .deep _ _ _ h=>match h with
  | none=>true
  | some (_,q)=>dA (.row q) ks
 | _=>true
def C9 (S:Nat→SV) (ks:List HLoc):List Nat→Bool
 | []=>true
 | n::r=>cond (qi ks (S n)) (C9 S ks r) false
def Dc (H:HLoc→SV) (ks:List HLoc):List HLoc→Bool
 | []=>true
 | l::r=>cond (qi ks (H l)) (Dc H ks r) false
def uk (lkS:List Nat) (lkH:List HLoc):Nat→List Carry→Bool
 | _,[]=>true
 | rid,c::r=>cond (cond (dA (.row rid) lkH) false (match c.p with
  | .slot n=>cond (lq n lkS) false true
  | .fld a i=>cond (dA (.fld a i) lkH) false (dA (.site a) lkH))) (uk lkS lkH (rid+1) r) false
def jV (s:St) (rid:Nat) (σ:Shape):Bool:=
 cond (C9 s.S (σ.keepH++s.lkH) σ.keepS) (cond (Dc s.H (σ.keepH++s.lkH) σ.keepH) (uk (σ.keepS++s.lkS) (σ.keepH++s.lkH) rid σ.cs) false) false
def iter {T R:Type} (step:T→Option (T⊕R)):Nat→T→Option R
 | 0,_=>none
 | n+1,t=>Option.bind (step t) fun o=>Sum.elim (iter step n) some o
structure LoopH where
 σ:Shape
 fc:List Carry
 fuel:(gB fc).den→Nat
structure Env where
 tab:Tab
 nt:Nat
 lo:Nat:=0
 Γ:FuncId→List Sig
 joins:Nat→Option Shape
 loops:Nat→Option LoopH
 unr:Nat→Option Nat:=fun _=>none
def lJ:Code→Nat
 | .region id _ _=>id
 | .seq a _=>lJ a
 | .block _ b=>lJ b
 | .loop b=>lJ b
 | .scope b=>lJ b
 | .cond _ x _=>300000+lJ x
 | _=>999999
def wo {R:Type} (body:St→(Exit→St→Option R)→Option R) (b0:Nat):Nat→St→(Exit→St→Option R)→Option R
 | 0,_,_=>none
 | n+1,s,k=>body { s with base:=b0*64+(n+1)*10000000000000000 } fun e s'=>match e with
  | .normal=>wo body b0 n s' k
  | e=>k e { s' with base:=b0 }
open Classical in
noncomputable def both {R:Type} (x y:Option R):Option R:=if x=y then x else none
noncomputable def fC (E:Env):Code→{R:Type}→St→(Exit→St→Option R)→Option R
 | .skip,_,s,k=>k .normal s
 | .region id ops draw,_,s,k=>JL E.tab (E.nt,E.lo) E.Γ (id+s.base) ops.toList draw s fun s'=>k .normal s'
 | .seq a b,R,s,k=>match E.joins (lJ b) with
  | none=>fC E a s fun e s'=>match e with
   | .normal=>fC E b s' k
   | e=>k e s'
  | some σ=>cond (jV s (7000000000000+lJ b*1000+s.base) σ) (Option.bind (fC E a (R:=(gB σ.cs).den⊕R) (lock s σ) fun e s'=>match e with
    | .normal=>map Sum.inl (collect s' σ.cs)
    | e=>map Sum.inr (k e { s' with lkS:=s.lkS,lkH:=s.lkH }))
    fun o=>Sum.elim (fun x=>fC E b (restore s (7000000000000+lJ b*1000+s.base) σ x) k) some o) none
 | .cond c x y,_,s,k=>match evS s.S c with
  | .pv .bool b=>cond b (fC E x s k) (fC E y s k)
  | .anyb=>both (fC E x s k) (fC E y s k)
  | _=>none
 | .block id body,_,s,k=>fC E body s fun e s'=>match e with
  | .exit j=>cond (Nat.beq j id) (k .normal s') (k (.exit j) s')
  | e=>k e s'
 | .loop body,R,s,k=>match E.unr (lJ body) with
  | some n=>wo (fun s k=>fC E body s k) s.base n s k
  | none=>match E.loops (lJ body) with
  | none=>none
  | some lh=>cond (jV s (50000000+lJ body*1000+s.base) lh.σ) (Option.bind (collect (lock s lh.σ) lh.fc) fun y0=>Option.bind (collect (lock s lh.σ) lh.σ.cs) fun x0=>
    iter (fun x=>fC E body (R:=(gB lh.σ.cs).den⊕R) (lock (restore s (50000000+lJ body*1000+s.base) lh.σ x) lh.σ) fun e s'=>match e with
     | .normal=>map Sum.inl (collect s' lh.σ.cs)
     | e=>map Sum.inr (k e { s' with lkS:=s.lkS,lkH:=s.lkH })) (lh.fuel y0) x0) none
 | .exit id,_,s,k=>k (.exit id) s
 | .ret,_,s,k=>k .ret s
 | _,_,_,_=>none
def kE (s:St) (c d j sl:Nat) (v:SV):St:=
 match c with
 | 0=>{ s with S:=jL s.S sl v }
 | _=>{ s with H:=ak s.H (.comp d j) v }
def oU (c sl:Nat):Nat:=
 match c with
 | 0=>sl+1
 | _=>sl
def ik (s:St):(c d j sl i:Nat)→(ps:List PS)→(bK ps).den→St
 | _,_,_,_,_,[],_=>s
 | c,d,j,sl,i,.pure t::r,x=>ik (kE s c d j sl (.pv t x.1)) (c-1) d (j+1) (oU c sl) (i+1) r x.2
 | c,d,j,sl,i,.obj t own::r,x=>ik (kE { s with H:=ak (puts s.H (aZ (.fld i) (i*100) own (lay t) x.1 0++[(.site i,.obj t)])) (.comp 999 i) (.adr i 0),lkH:=.comp 999 i::.site i::s.lkH } c d j sl (.adr i 0)) (c-1) d (j+1) (oU c sl) (i+1) r x.2
 | c,d,j,sl,i,.agg t own::r,x=>ik (kE { s with H:=puts s.H (aZ (.comp i) (i*100) own t x.1 0) } c d j sl (.agg i t)) (c-1) d (j+1) (oU c sl) (i+1) r x.2
 | c,d,j,sl,i,.lent t::r,x=>ik (kE s c d j sl (.lv t x.1)) (c-1) d (j+1) (oU c sl) (i+1) r x.2
 | c,d,j,sl,i,.rptr t::r,x=>ik (kE s c d j sl (.lel t x.1 0)) (c-1) d (j+1) (oU c sl) (i+1) r x.2
 | c,d,j,sl,i,.nilp::r,x=>ik (kE s c d j sl .nilp) (c-1) d (j+1) (oU c sl) (i+1) r x
 | c,d,j,sl,i,.row e::r,x=>ik (kE { s with H:=ak s.H (.row (i*100)) (.row false e x.1) } c d j sl (.hdr (i*100))) (c-1) d (j+1) (oU c sl) (i+1) r x.2
 | _,_,_,sl,i,.fnc f n::r,x=>let s':=ik s n i 0 (sl+1) (i+1) r x;{ s' with S:=jL s'.S sl (.fn f i n) }
 | _,_,_,sl,i,.box::r,x=>let s':=ik s 1 i 0 (sl+1) (i+1) r x;{ s' with S:=jL s'.S sl (.adr i 0),H:=ak (ak (ak s'.H (.fld i 0) (.adr (i+1) 0)) (.site i) (.obj bU)) (.comp 999 i) (.adr i 0),lkH:=.comp 999 i::.site i::s'.lkH }
def lQ:Nat→List PS→Bool
 | c,[]=>Nat.beq c 0
 | c,.obj _ os::r=>cond (ble os.length 100) (lQ (c-1) r) false
 | c,.agg _ os::r=>cond (ble os.length 100) (lQ (c-1) r) false
 | c,.fnc _ n::r=>cond (Nat.beq c 0) (lQ n r) false
 | c,.box::r=>match r with
  | .obj _ _::_=>cond (Nat.beq c 0) (lQ 1 r) false
  | _=>false
 | c,_::r=>lQ (c-1) r
def St.empty:St:=⟨fun _=>.bot,fun _=>.bot,[],[],0⟩
def zg (t:Ty) (own:List Bool) (v:SV):Rd ((lay t).den×HW×List HLoc×List HLoc):=
 match v with
 | .adr s off=>cond (Nat.beq off 0) (.get (.site s) fun w=>match w with
  | .obj t'=>cond (t'.beq t) ((iP (.fld s) own (lay t) 0).bind fun p=>(fM (.fld s) (own.take (aH (lay t))) 0).bind fun d=>.ret (p.1,p.2,HLoc.site s::d,cond (pbO own (aH (lay t))) [] d)) .fail
  | _=>.fail) .fail
 | _=>.fail
def su (r:RS) (v:SV):Rd (r.ty.den×HW×List HLoc×List HLoc):=
 match r with
 | .pure t=>match v,t with
  | .adr s off,.tree k v=>cond (Nat.beq off 0) (.get (.site s) fun w=>match w with
   | .obj t'=>cond (t'.beq (jT k v)) ((iP (.fld s) [] (jT k v) 0).bind fun p=>.ret (zdx k v p.1,p.2,[HLoc.site s],[])) .fail
   | _=>.fail) .fail
  | v,t=>(jM t v).bind fun p=>.ret (p.1,p.2,[],[])
 | .own pub e=>match v with
  | .nils=>.ret ([],[],[],[])
  | .hdr a=>.get (.row a) fun w=>match w with
   | .row p e' l=>cond (cond p pub true) ((Rd.ofO (bi (.slice e') (.slice e) l)).bind fun y=>.ret (y,cond pub (cond p [] [(HLoc.row a,SV.row true e' l)]) [],[HLoc.row a],cond pub [] [HLoc.row a])) .fail
   | _=>.fail
  | _=>.fail
 | .newobj t own=>zg t own v
 | .deep e=>match v with
  | .nils=>.ret ([],[],[],[])
  | .hdr a=>.get (.row a) fun w=>match w with
   | .deep e' l n h=>match h with
    | none=>.br (decide (n=List.length l)) ((Rd.ofO (bi (.slice e') (.slice e) l)).bind fun y=>.ret (y,[],[HLoc.row a],[HLoc.row a])) .fail
    | some _=>.fail
   | _=>.fail
  | _=>.fail
 | .agg t own=>match v with
  | .agg d t'=>cond (t'.beq t) ((iP (.comp d) own t 0).bind fun p=>(fM (.comp d) (own.take (aH t)) 0).bind fun dd=>.ret (p.1,p.2,dd,cond (pbO own (aH t)) [] dd)) .fail
  | _=>.fail
 | .maybe t own=>match v with
  | .nilp=>.ret ((false,(lay t).dflt),[],[],[])
  | v=>(zg t own v).bind fun q=>.ret ((true,q.1),q.2)
def LP (tab:Tab) (tid:TypeId) (t:Ty):Bool:=
 match tl tab tid with
 | some u=>u.beq t
 | none=>false
def tyZ (tab:Tab) (tid:TypeId) (t:Ty):Bool:=
 match tl tab tid with
 | some u=>cond u.agg (Nat.beq u.size t.size) false
 | none=>false
def LU (b:Nat) (t t':Ty):Rd (t.den×HW):=
 cond (t'.beq t) (gather (.fld b) t 0) (cond (cond t.agg (Nat.beq t'.size t.size) false) ((gather (.fld b) t' 0).bind fun p=>(Rd.ofO (conv t' t p.1)).bind fun y=>.ret (y,p.2)) .fail)
def xg (tab:Tab) (s:St) (r:RS) (v:ResultVar):Rd (r.ty.den×HW×List HLoc×List HLoc):=
 match v with
 | .tmp t=>su r (s.S t)
 | .cell a tid=>match r with
  | .pure t=>match s.S a with
   | .adr b off=>cond (cond (Nat.beq off 0) (LP tab tid t) false) (.get (.site b) fun w=>match w with
    | .obj t'=>(LU b t t').bind fun p=>.ret (p.1,p.2,[],[])
    | _=>.fail) .fail
   | _=>.fail
  | .agg t own=>match s.S a with
   | .adr b off=>cond (cond (Nat.beq off 0) (tyZ tab tid t) false) (.get (.site b) fun w=>match w with
    | .obj t'=>cond (t'.beq t) ((iP (.fld b) own t 0).bind fun p=>(fM (.fld b) (own.take (aH t)) 0).bind fun dd=>.ret (p.1,p.2,dd,cond (pbO own (aH t)) [] dd)) .fail
    | _=>.fail) .fail
   | _=>.fail
  | _=>.fail
def outs (tab:Tab) (s:St) (ps:List PS):(rs:List RS)→List ResultVar→Rd ((dX ps).den×HW×List HLoc×List HLoc)→Rd ((iD rs ps).den×HW×List HLoc×List HLoc)
 | [],vs,k=>match vs with
  | []=>k
  | _::_=>.fail
 | r::rs,vs,k=>match vs with
  | v::vs=>(xg tab s r v).bind fun q=>(outs tab s ps rs vs k).bind fun z=>.ret ((q.1,z.1),q.2.1++z.2.1,q.2.2.1++z.2.2.1,q.2.2.2++z.2.2.2)
  | []=>.fail
def kN (z0:SV):Nat→(ps:List PS)→Rd ((dX ps).den×HW×List HLoc×List HLoc)
 | _,[]=>.ret ((),[],[],[])
 | i,.obj t own::r=>.get (.site i) fun w=>match w with
  | .obj t'=>cond (t'.beq t) ((iP (.fld i) own (lay t) 0).bind fun p=>(fM (.fld i) (own.take (aH (lay t))) 0).bind fun d=>(kN z0 (i+1) r).bind fun q=>.ret ((p.1,q.1),p.2++q.2.1,HLoc.site i::d++q.2.2.1,cond (pbO own (aH (lay t))) [] d++q.2.2.2)) .fail
  | _=>.fail
 | i,.pure _::r=>kN z0 (i+1) r
 | i,.nilp::r=>kN z0 (i+1) r
 | i,.lent _::r=>kN z0 (i+1) r
 | i,.rptr _::r=>kN z0 (i+1) r
 | i,.agg _ _::r=>kN z0 (i+1) r
 | i,.fnc _ _::r=>kN z0 (i+1) r
 | i,.box::r=>.get (.site i) fun w=>match w with
  | .obj t'=>cond (t'.beq bU) (.get (.fld i 0) fun v=>match v with
   | .adr b o=>cond (cond (Dy r) (cond (Nat.beq b (i+1)) (Nat.beq o 0) false) false) ((kN z0 (i+1) r).bind fun q=>.ret (q.1,q.2.1,HLoc.site i::q.2.2.1,q.2.2.2)) .fail
   | _=>.fail) .fail
  | _=>.fail
 | i,.row e::r=>cond (Nat.beq i 0) (match z0 with
  | .hdr q=>.get (.row q) fun w=>match w with
   | .row pub e' l=>cond pub .fail ((Rd.ofO (bi (.slice e') (.slice e) l)).bind fun y=>(kN z0 (i+1) r).bind fun z=>.ret ((y,z.1),z.2.1,HLoc.row q::z.2.2.1,HLoc.row q::z.2.2.2))
   | _=>.fail
  | _=>.fail) .fail
def finish (tab:Tab) (lo:Nat) (fn:Func) (ps:List PS) (rs:List RS) (s:St):Option (iD rs ps).den:=
 (outs tab s ps rs fn.results.toList (kN (cond (ble 1 lo) (s.S 0) .bot) 0 ps)).runC s.H [] fun p _=>force p.2.1 fun hw=>cond (cond (mY p.2.2.1) (jJ p.2.2.2 (au hw)) false) (some p.1) none
noncomputable def uP (E:Env) (fn:Func) (ps:List PS) (rs:List RS) (x:(bK ps).den):Option (iD rs ps).den:=
 match fn.body with
 | none=>none
 | some c=>fC E c (ik St.empty 0 0 0 0 0 ps x) fun e s=>match e with
  | .ret=>finish E.tab E.lo fn ps rs s
  | .normal=>finish E.tab E.lo fn ps rs s
  | _=>none
abbrev IV:=Nat→Nat→Option Value
def view (fl:Nat→Nat) (w:World):IV:=fun b o=>if o<fl b then w.cell? ⟨b,o,none⟩ else none
theorem Ip {fl:Nat→Nat} {w:World} {b o:Nat} {v:Value}:view fl w b o=some v↔o<fl b∧w.cell? ⟨b,o,none⟩=some v:=by
 unfold view;split<;>simp[*]
def IV.le (a b:IV):Prop:=∀ k o v,a k o=some v→b k o=some v
theorem IV.le.refl (a:IV):a.le a:=fun _ _ _ h=>h
theorem IV.le.trans {a b c:IV} (h:a.le b) (h':b.le c):a.le c:=fun k o v e=>h' k o v (h k o v e)
def seg (iv:IV) (b o:Nat) (cs:List Value):Prop:=∀ j v,cs[j]? = some v→iv b (o+j)=some v
theorem seg.mono {iv iv':IV} {b o:Nat} {cs:List Value} (h:seg iv b o cs) (hl:iv.le iv'):seg iv' b o cs:=fun j v e=>hl _ _ _ (h j v e)
theorem seg.nil {iv:IV} {b o:Nat}:seg iv b o []:=fun j v e=>by simp at e
theorem seg.append {iv:IV} {b o:Nat} {c d:List Value}:seg iv b o (c++d)↔seg iv b o c∧seg iv b (o+c.length) d:=by
 constructor
 ·intro h;refine⟨fun j v e=>h j v ?_,fun j v e=> ?_⟩
  ·have:j<c.length:=(List.getElem?_eq_some_iff.1 e).1;rw[List.getElem?_append_left this];exact e
  ·have:=h (c.length+j) v (by rw[List.getElem?_append_right (by omega)];simpa using e);rwa[←Nat.add_assoc] at this
 ·rintro⟨h1,h2⟩ j v e;by_cases hj:j<c.length
  ·rw[List.getElem?_append_left hj] at e;exact h1 j v e
  ·rw[List.getElem?_append_right (by omega)] at e;have:=h2 _ v e;rwa[show o+c.length+(j-c.length)=o+j from by omega] at this
def sU (iv:IV) {K V:Type} (RK:List Value→K→Prop) (RV:List Value→V→Prop):Tree K V→Value→Prop
 | .leaf,p=>p=.pointer none
 | .node a b l h n d,p=>∃ bl o ck cv pl ph,p=.pointer (some ⟨bl,o,none⟩)∧RK ck a∧RV cv b∧sU iv RK RV l pl∧sU iv RK RV h ph∧
   seg iv bl o (ck++(cv++[pl,ph,.int .i64 n,.int .i64 d]))
def aJ (iv:IV):(t:Ty)→List Value→t.den→Prop
 | .int k,cs,x=>cs=[.int k x]
 | .u8,cs,x=>cs=[.int .u8 (UInt8.toNat x:Nat)]
 | .bool,cs,x=>cs=[.bool x]
 | .str,cs,x=>∃ s:ByteArray,cs=[.string s]∧s.data.toList=x
 | .unit,cs,_=>cs=[]
 | .pair a b,cs,x=>∃ c1 c2,cs=c1++c2∧aJ iv a c1 x.1∧aJ iv b c2 x.2
 | .slice e,cs,l=>∃ a len cap,cs=[.slice a len cap]∧len=List.length l∧len≤cap∧(a=none→cap=0)∧
   ∀ i (x:e.den),(l:List e.den)[i]? = some x→∃ bl o c,a=some ⟨bl,o,none⟩∧seg iv bl (o+i*e.size) c∧aJ iv e c x
 | .tree k v,cs,t=>∃ p,cs=[p]∧sU iv (aJ iv k) (aJ iv v) t p
 | .ptr e,cs,l=>∃ p,cs=[p]∧((p=.pointer none∧l=[])∨∃ bl o c,∃ x:e.den,p=.pointer (some ⟨bl,o,none⟩)∧l=[x]∧seg iv bl o c∧aJ iv e c x)
theorem sU.mono {iv iv':IV} (hl:iv.le iv') {K V:Type} {RK RK':List Value→K→Prop} {RV RV':List Value→V→Prop}
  (hk:∀ c x,RK c x→RK' c x) (hv:∀ c x,RV c x→RV' c x):∀ {t:Tree K V} {p:Value},sU iv RK RV t p→sU iv' RK' RV' t p:=by
 intro t;induction t with
 | leaf=>intro p h;exact h
 | node a b l h n d hl' hh'=>rintro p ⟨bl,o,ck,cv,pl,ph,h1,h2,h3,h4,h5,h6⟩;exact⟨bl,o,ck,cv,pl,ph,h1,hk _ _ h2,hv _ _ h3,hl' h4,hh' h5,h6.mono hl⟩
theorem aJ.mono {iv iv':IV} (hl:iv.le iv'):∀ {t:Ty} {cs:List Value} {x:t.den},aJ iv t cs x→aJ iv' t cs x:=by
 intro t;induction t with
 | int k=>intro cs x h;exact h
 | u8=>intro cs x h;exact h
 | bool=>intro cs x h;exact h
 | str=>intro cs x h;exact h
 | unit=>intro cs x h;exact h
 | pair a b ha hb=>rintro cs x ⟨c1,c2,h,h1,h2⟩;exact⟨c1,c2,h,ha h1,hb h2⟩
 | slice e he=>rintro cs l ⟨a,len,cap,h1,h2,h3,h4,h5⟩;exact⟨a,len,cap,h1,h2,h3,h4,fun i x hx=>let ⟨bl,o,c,ha,hs,hc⟩:=h5 i x hx;⟨bl,o,c,ha,hs.mono hl,he hc⟩⟩
 | tree k v hk hv=>rintro cs t ⟨p,h,ht⟩;exact⟨p,h,sU.mono hl (fun _ _=>hk) (fun _ _=>hv) ht⟩
 | ptr e he=>rintro cs l ⟨p,h,h1⟩;exact⟨p,h,h1.imp id fun⟨bl,o,c,x,k1,k2,k3,k4⟩=>⟨bl,o,c,x,k1,k2,k3.mono hl,he k4⟩⟩
def oneC:Value→Bool
 | .agg _=>false
 | .tuple _=>false
 | _=>true
theorem sU.oneC {iv:IV} {K V:Type} {RK:List Value→K→Prop} {RV:List Value→V→Prop} {t:Tree K V} {p:Value} (h:sU iv RK RV t p):oneC p=true:=by
 cases t with
 | leaf=>rw[show p=_ from h];rfl
 | node a b l hh n d=>obtain⟨bl,o,ck,cv,pl,ph,h1,_⟩:=h;rw[h1];rfl
theorem aJ.length {iv:IV}:∀ {t:Ty} {cs:List Value} {x:t.den},aJ iv t cs x→cs.length=t.size:=by
 intro t;induction t with
 | int k=>intro cs x h;rw[show cs=_ from h];rfl
 | u8=>intro cs x h;rw[show cs=_ from h];rfl
 | bool=>intro cs x h;rw[show cs=_ from h];rfl
 | str=>rintro cs x ⟨s,h,_⟩;rw[h];rfl
 | unit=>intro cs x h;rw[show cs=_ from h];rfl
 | pair a b ha hb=>rintro cs x ⟨c1,c2,h,h1,h2⟩;rw[h,length_append,ha h1,hb h2];rfl
 | slice e he=>rintro cs l ⟨a,len,cap,h1,_⟩;rw[h1];rfl
 | tree k v hk hv=>rintro cs t ⟨p,h,ht⟩;rw[h];rfl
 | ptr e he=>rintro cs l ⟨p,h,_⟩;rw[h];rfl
theorem aJ.ones {iv:IV}:∀ {t:Ty} {cs:List Value} {x:t.den},aJ iv t cs x→∀ c∈cs,oneC c=true:=by
 intro t;induction t with
 | int k=>intro cs x h c hc;rw[show cs=_ from h] at hc;simp at hc;subst hc;rfl
 | u8=>intro cs x h c hc;rw[show cs=_ from h] at hc;simp at hc;subst hc;rfl
 | bool=>intro cs x h c hc;rw[show cs=_ from h] at hc;simp at hc;subst hc;rfl
 | str=>rintro cs x ⟨s,h,_⟩ c hc;rw[h] at hc;simp at hc;subst hc;rfl
 | unit=>intro cs x h c hc;rw[show cs=_ from h] at hc;simp at hc
 | pair a b ha hb=>rintro cs x ⟨c1,c2,h,h1,h2⟩ c hc;rw[h,mem_append] at hc;exact hc.elim (ha h1 c) (hb h2 c)
 | slice e he=>rintro cs l ⟨a,len,cap,h1,_⟩ c hc;rw[h1] at hc;simp at hc;subst hc;rfl
 | tree k v hk hv=>rintro cs t ⟨p,h,ht⟩ c hc;rw[h] at hc;simp at hc;subst hc;exact ht.oneC
 | ptr e he=>rintro cs l ⟨p,h,h1⟩ c hc;rw[h] at hc;simp at hc;subst hc;rcases h1 with⟨h1,_⟩|⟨bl,o,c',x,h1,_⟩<;>rw[h1]<;>rfl
def mkV (t:Ty) (cs:List Value):Value:=cond t.agg (.agg cs.toArray) (cs.headD undef)
theorem oq {t:Ty} (h:t.agg=false):t.size=1:=by cases t<;>simp_all [Ty.agg,Ty.size]
theorem iw {t:Ty} {cs:List Value} (hl:cs.length=t.size) (ho:∀ c∈cs,oneC c=true):(mkV t cs).cells=cs.toArray:=by
 unfold mkV;cases h:t.agg with
 | true=>rfl
 | false=>
  rw[oq h] at hl
  match cs,hl with
  | [c],_=>have:=ho c (by simp);cases c<;>first|rfl|simp[oneC] at this
theorem ja {t:Ty} {cs:List Value} (h:t.agg=false) (hl:cs.length=t.size):cs=[mkV t cs]:=by
 rw[oq h] at hl
 match cs,hl with
 | [c],_=>simp[mkV,h]
def bM (iv:IV) (t:Ty) (v:Value) (x:t.den):Prop:=∃ cs,aJ iv t cs x∧v=mkV t cs
theorem bM.mono {iv iv':IV} (hl:iv.le iv') {t:Ty} {v:Value} {x:t.den} (h:bM iv t v x):bM iv' t v x:=
 let ⟨cs,hc,hv⟩:=h;⟨cs,hc.mono hl,hv⟩
theorem aJ.cells {iv:IV} {t:Ty} {cs:List Value} {x:t.den} (h:aJ iv t cs x):(mkV t cs).cells=cs.toArray:=iw h.length h.ones
theorem bM.cells {iv:IV} {t:Ty} {v:Value} {x:t.den} (h:bM iv t v x):aJ iv t v.cells.toList x:=by
 obtain⟨cs,hc,rfl⟩:=h;rw[hc.cells];simpa using hc
theorem bM.eq_mkV {iv:IV} {t:Ty} {v:Value} {x:t.den} (h:bM iv t v x):v=mkV t v.cells.toList:=by
 obtain⟨cs,hc,rfl⟩:=h;rw[hc.cells]
theorem dm {t t':Ty} {x:t.den} {y:t'.den} (h:bi t t' x=some y):∃ e:t=t',y=e▸x:=by
 unfold bi at h;split at h
 ·rename_i hb;exact⟨Ty.beq_eq hb,(Option.some.inj h).symm⟩
 ·exact absurd h (by simp)
theorem jP {iv:IV} {t t':Ty} {x:t.den} {y:t'.den} {v:Value} (h:bi t t' x=some y) (hv:bM iv t v x):bM iv t' v y:=by
 obtain⟨e,rfl⟩:=dm h;subst e;exact hv
theorem qP {iv:IV} {t t':Ty} {x:t.den} {y:t'.den} {cs:List Value} (h:bi t t' x=some y) (hv:aJ iv t cs x):aJ iv t' cs y:=by
 obtain⟨e,rfl⟩:=dm h;subst e;exact hv
theorem ru {iv:IV} {u:Ty} {y:u.den}:∀ {t:Ty} {cs:List Value} {x:t.den} {off:Nat},aJ iv t cs x→sub t x off u=some y→
  ∃ c1 c c2,cs=c1++(c++c2)∧c1.length=off∧aJ iv u c y:=by
 intro t;induction t with
 | pair a b ha hb=>
  intro cs x off hc h;rw[sub] at h;cases hq:cond (Nat.beq off 0) ((Ty.pair a b).beq u) false with
  | true=>rw[hq] at h;obtain⟨h0,h1⟩:=az hq;exact⟨[],cs,[],by simp,(eq_of_beq_eq_true h0).symm,qP h hc⟩
  | false=>
   rw[hq] at h;obtain⟨c1,c2,rfl,h1,h2⟩:=hc;cases hb':blt off a.size with
   | true=>rw[hb'] at h;obtain⟨d1,d,d2,rfl,hd,hr⟩:=ha h1 h;exact⟨d1,d,d2++c2,by simp,hd,hr⟩
   | false=>
    rw[hb'] at h;obtain⟨d1,d,d2,rfl,hd,hr⟩:=hb h2 h;have hle:¬ off<a.size:=by intro hlt;have hx:blt off a.size=true:=ble_eq_true_of_le hlt;rw[hx] at hb';exact noConfusion hb'
    exact⟨c1++d1,d,d2,by simp,by rw[length_append,h1.length,hd];omega,hr⟩
 | _=>
  intro cs x off hc h;rw[sub] at h
  ·cases h0:Nat.beq off 0 with
   | true=>rw[h0] at h;exact⟨[],cs,[],by simp,(eq_of_beq_eq_true h0).symm,qP h hc⟩
   | false=>rw[h0] at h;exact absurd h (by simp)
  ·intros;contradiction
theorem PZ {iv:IV} {u:Ty} {y:u.den} {c':List Value} (hy:aJ iv u c' y):∀ {t:Ty} {cs:List Value} {x z:t.den} {off:Nat},aJ iv t cs x→dS t x off u y=some z→
  ∃ c1 c c2,cs=c1++(c++c2)∧c1.length=off∧c.length=u.size∧aJ iv t (c1++(c'++c2)) z:=by
 intro t;induction t with
 | pair a b ha hb=>
  intro cs x z off hc h;rw[dS] at h;cases hq:cond (Nat.beq off 0) (u.beq (Ty.pair a b)) false with
  | true=>
   rw[hq] at h;obtain⟨h0,h1⟩:=az hq;have e:=Ty.beq_eq h1;refine⟨[],cs,[],by simp,(eq_of_beq_eq_true h0).symm,?_,?_⟩
   ·rw[hc.length,e]
   ·simpa using qP h hy
  | false=>
   rw[hq] at h;obtain⟨c1,c2,rfl,h1,h2⟩:=hc;cases hb':blt off a.size with
   | true=>rw[hb'] at h;obtain⟨z1,hz1,hz⟩:=bind_eq_some_iff.1 h;obtain rfl:=Option.some.inj hz;obtain⟨d1,d,d2,rfl,hd,hl,hr⟩:=ha h1 hz1;exact⟨d1,d,d2++c2,by simp,hd,hl,_,_,by simp,hr,h2⟩
   | false=>
    rw[hb'] at h;obtain⟨z1,hz1,hz⟩:=bind_eq_some_iff.1 h;obtain rfl:=Option.some.inj hz;obtain⟨d1,d,d2,rfl,hd,hl,hr⟩:=hb h2 hz1;have hle:¬ off<a.size:=by intro hlt;have hx:blt off a.size=true:=ble_eq_true_of_le hlt;rw[hx] at hb';exact noConfusion hb'
    exact⟨c1++d1,d,d2,by simp,by rw[length_append,h1.length,hd];omega,hl,c1,_,by simp,h1,hr⟩
 | _=>
  intro cs x z off hc h;rw[dS] at h
  ·cases h0:Nat.beq off 0 with
   | true=>rw[h0] at h;obtain⟨e,rfl⟩:=dm h;subst e;refine⟨[],cs,[],by simp,(eq_of_beq_eq_true h0).symm,by rw[hc.length],by simpa using hy⟩
   | false=>rw[h0] at h;exact absurd h (by simp)
  ·intros;contradiction
def zeroCells:Ty→List Value
 | .int k=>[.int k 0]
 | .u8=>[.int .u8 0]
 | .bool=>[.bool false]
 | .str=>[.string ByteArray.empty]
 | .unit=>[]
 | .pair a b=>zeroCells a++zeroCells b
 | .slice _=>[.slice none 0 0]
 | .tree _ _=>[.pointer none]
 | .ptr _=>[.pointer none]
theorem kK {iv:IV}:∀ {t:Ty},aJ iv t (zeroCells t) t.dflt:=by
 intro t;induction t with
 | int k=>exact rfl
 | u8=>exact rfl
 | bool=>exact rfl
 | str=>exact⟨_,rfl,rfl⟩
 | unit=>exact rfl
 | pair a b ha hb=>exact⟨_,_,rfl,ha,hb⟩
 | slice e he=>exact⟨none,0,0,rfl,rfl,le_refl _,fun _=>rfl,fun i x hx=>by simp[Ty.dflt] at hx⟩
 | tree k v hk hv=>exact⟨_,rfl,rfl⟩
 | ptr e he=>exact⟨_,rfl,.inl ⟨rfl,rfl⟩⟩
theorem Zo:∀ {t r:Ty},(qy t r).size=t.size+r.size:=by
 intro t;induction t with
 | unit=>intro r;simp[qy,Ty.size]
 | pair a b ha hb=>intro r;simp only[qy,ha,hb,Ty.size];omega
 | _=>intro r;simp[qy,Ty.size]
theorem PG (t:Ty):(rO t).size=t.size:=by simp[rO,Zo,Ty.size]
theorem YT:∀ {t r:Ty},zeroCells (qy t r)=zeroCells t++zeroCells r:=by
 intro t;induction t with
 | unit=>intro r;rfl
 | pair a b ha hb=>intro r;simp only[qy,ha,hb,zeroCells,List.append_assoc]
 | _=>intro r;rfl
theorem PQ (t:Ty):zeroCells (rO t)=zeroCells t:=by rw[rO,YT];simp[zeroCells]
theorem J7 {tab:Tab} {t:TypeId} {ty:Ty} (ha:ty.agg=true) (he:structEnd ty=true):(flT tab t ty).agg=true∧structEnd (flT tab t ty)=true∧(flT tab t ty).size=ty.size∧zeroCells (flT tab t ty)=zeroCells ty:=by
 unfold flT;cases h:tlL tab.flats t with
 | none=>exact⟨ha,he,rfl,rfl⟩
 | some u=>
  simp only;cases hc:cond u.agg (cond (structEnd u) ((rO u).beq (rO ty)) false) false with
  | false=>exact⟨ha,he,rfl,rfl⟩
  | true=>obtain⟨h1,h2⟩:=az hc;obtain⟨h2,h3⟩:=az h2;have e:=Ty.beq_eq h3;exact⟨h1,h2,(PG u).symm.trans (e▸PG ty),(PQ u).symm.trans (e▸PQ ty)⟩
def wH (iv:IV):Stk→List Value→Prop
 | [],cs=>cs=[]
 | p::r,cs=>∃ c1 c2,cs=c1++c2∧aJ iv p.1 c1 p.2∧wH iv r c2
theorem Q8 {iv:IV} {a:Ty}:∀ {n:Nat} {s:Stk} {cs:List Value} {y:a.den} {s':Stk},wH iv s cs→rH a n s=some (y,s')→∃ c1 c2,cs=c1++c2∧aJ iv a c1 y∧wH iv s' c2:=by
 intro n;induction n with
 | zero=>intro s cs y s' _ h;exact absurd h (by simp[rH])
 | succ n ih=>
  intro s cs y s' hs h;cases s with
  | nil=>exact absurd h (by simp[rH])
  | cons p r=>
   simp only[rH] at h;obtain⟨c1,c2,rfl,h1,h2⟩:=hs;cases hc:bi p.1 a p.2 with
   | some z=>rw[hc] at h;simp only[Option.some.injEq,Prod.mk.injEq] at h;obtain⟨rfl,rfl⟩:=h;exact⟨c1,c2,rfl,qP hc h1,h2⟩
   | none=>
    rw[hc] at h;simp only at h;cases hs:JS p.1 p.2 with
    | none=>rw[hs] at h;exact absurd h (by simp)
    | some l=>
     rw[hs] at h;refine ih (s:=l++r) ?_ h;obtain⟨t,x⟩:=p;cases t<;>simp only[JS,Option.some.injEq] at hs<;>first|(subst hs)|exact absurd hs (by simp)
     ·have h1:c1=[]:=h1;subst h1;exact h2
     ·obtain⟨d1,d2,rfl,k1,k2⟩:=h1;exact⟨d1,d2++c2,by simp,k1,d2,c2,rfl,k2,h2⟩
theorem zcA {iv:IV} {n:Nat}:∀ {a:Ty} {s:Stk} {cs:List Value} {y:a.den} {s':Stk},wH iv s cs→oV n a s=some (y,s')→∃ c1 c2,cs=c1++c2∧aJ iv a c1 y∧wH iv s' c2:=by
 intro a;induction a with
 | pair p q hp hq=>
  intro s cs y s' hs h;rw[oV] at h;cases hw:rH (.pair p q) n s with
  | some r=>rw[hw] at h;obtain rfl:=Option.some.inj h;exact Q8 hs hw
  | none=>
   rw[hw] at h;simp only at h;cases h1:oV n p s with
   | none=>rw[h1] at h;exact absurd h (by simp)
   | some r1=>
    obtain⟨x,s1⟩:=r1;rw[h1] at h;simp only at h;cases h2:oV n q s1 with
    | none=>rw[h2] at h;exact absurd h (by simp)
    | some r2=>obtain⟨z,s2⟩:=r2;rw[h2] at h;simp only[Option.some.injEq,Prod.mk.injEq] at h;obtain⟨rfl,rfl⟩:=h;obtain⟨c1,c2,rfl,k1,k2⟩:=hp hs h1;obtain⟨d1,d2,rfl,k3,k4⟩:=hq k2 h2;exact⟨c1++d1,d2,by simp,⟨c1,d1,rfl,k1,k3⟩,k4⟩
 | unit=>intro s cs y s' hs h;rw[oV] at h;simp only[Option.some.injEq,Prod.mk.injEq] at h;obtain⟨_,rfl⟩:=h;exact⟨[],cs,rfl,rfl,hs⟩
 | _=>intro s cs y s' hs h;exact Q8 hs (by rw[oV] at h<;>first|exact h|(intros;contradiction))
theorem Tf {iv:IV}:∀ {s:Stk} {cs:List Value},EL s=true→wH iv s cs→cs=[]
 | [],_,_,h=>h
 | ⟨.unit,_⟩::r,_,h,⟨c1,c2,h1,h2,h3⟩=>by have h2:c1=[]:=h2;rw[h1,h2,Tf (s:=r) h h3];rfl
 | ⟨.int _,_⟩::_,_,h,_=>noConfusion h
 | ⟨.u8,_⟩::_,_,h,_=>noConfusion h
 | ⟨.bool,_⟩::_,_,h,_=>noConfusion h
 | ⟨.str,_⟩::_,_,h,_=>noConfusion h
 | ⟨.pair _ _,_⟩::_,_,h,_=>noConfusion h
 | ⟨.slice _,_⟩::_,_,h,_=>noConfusion h
 | ⟨.tree _ _,_⟩::_,_,h,_=>noConfusion h
 | ⟨.ptr _,_⟩::_,_,h,_=>noConfusion h
theorem yY {iv:IV} {t u:Ty} {x:t.den} {y:u.den} {cs:List Value} (hx:aJ iv t cs x) (h:conv t u x=some y):aJ iv u cs y:=by
 unfold conv at h
 cases hm:oV 400 u [⟨t,x⟩] with
 | none=>rw[hm] at h;exact absurd h (by simp)
 | some r=>
  obtain⟨z,s⟩:=r;rw[hm] at h;simp only at h;cases he:EL s with
  | false=>rw[he] at h;exact absurd h (by simp)
  | true=>rw[he] at h;obtain rfl:=Option.some.inj h;obtain⟨c1,c2,rfl,k1,k2⟩:=zcA (iv:=iv) (s:=[⟨t,x⟩]) (cs:=cs) ⟨cs,[],by simp,hx,rfl⟩ hm;rw[Tf he k2,List.append_nil];exact k1
theorem vT {iv:IV} {t u:Ty} {x:t.den} {y:u.den} {cs:List Value} (hx:aJ iv t cs x) (h:rV t u x=some y):aJ iv u cs y:=by
 unfold rV at h;cases hc:bi t u x with
 | some z=>rw[hc] at h;obtain rfl:=Option.some.inj h;exact qP hc hx
 | none=>rw[hc] at h;exact yY hx h
inductive Own where
 | site (n:Nat)
 | row (r:Nat)
structure Gh where
 fl:Nat→Nat
 own:Nat→Option Own
 st:Nat→Nat
 hd:Nat→Value
 cv:Nat→Nat→Value
 lv:IV
def fK (cv:Nat→Value):Ty→Nat→List Value
 | .pair _ b,i=>(cv i).cells.toList++fK cv b (i+1)
 | _,_=>[]
def kz (cv:Nat→Value):Ty→Nat→Prop
 | .pair a b,i=>cv i=mkV a (cv i).cells.toList∧(cv i).cells.toList.length=a.size∧(∀ c∈(cv i).cells.toList,oneC c=true)∧kz cv b (i+1)
 | .unit,_=>True
 | _,_=>False
def nf:Ty→Nat
 | .pair _ b=>nf b+1
 | _=>0
def SR (g:Gh) (iv:IV):SV→Value→Prop
 | .bot,_=>True
 | .und,v=>v=undef
 | .pv t x,v=>bM iv t v x
 | .lv t x,v=>bM g.lv t v x
 | .nils,v=>v=.slice none 0 0
 | .nilp,v=>v=.pointer none
 | .adr s off,v=>v=.pointer (some ⟨g.st s,off,none⟩)
 | .hdr r,v=>v=g.hd r
 | .own r,v=>(v=.pointer none∧g.hd r=.slice none 0 0)∨∃ b,v=.pointer (some ⟨b,0,none⟩)∧g.hd r=.slice (some ⟨b,0,none⟩) 1 1
 | .cpy d i t,v=>v=g.cv d i∧v=mkV t v.cells.toList∧v.cells.toList.length=t.size∧∀ c∈v.cells.toList,oneC c=true
 | .vec d n,v=>∃ bl,v=.slice (some ⟨bl,0,none⟩) n n∧∀ j,j<n→iv bl j=some (g.cv d j)
 | .ref d j,v=>∃ bl,v=.pointer (some ⟨bl,j,none⟩)∧iv bl j=some (g.cv d j)
 | .elt t x off,v=>∃ bl o cs,v=.pointer (some ⟨bl,o+off,none⟩)∧aJ iv t cs x∧seg iv bl o cs
 | .lel t x off,v=>∃ bl o cs,v=.pointer (some ⟨bl,o+off,none⟩)∧aJ iv t cs x∧seg g.lv bl o cs
 | .sel s off z n j,v=>j<n∧v=.pointer (some ⟨g.st s,off+j*z,none⟩)
 | .oel r i off sz,v=>∃ bl len cap,g.hd r=.slice (some ⟨bl,0,none⟩) len cap∧v=.pointer (some ⟨bl,i*sz+off,none⟩)
 | .tup d n,v=>v=.tuple ((range n).map (g.cv d)).toArray
 | .agg d t,v=>t.agg=true∧v=.agg (fK (g.cv d) t 0).toArray∧kz (g.cv d) t 0
 | .anyb,v=>∃ b,v=.bool b
 | .fn f d n,v=>v=.func (.func f) #[] ((range n).map (g.cv d)).toArray
 | .obj _,_=>False
 | .row _ _ _,_=>False
 | .deep _ _ _ _,_=>False
def nI (v h:Value):Prop:=(v=.pointer none∧h=.slice none 0 0)∨∃ b,v=.pointer (some ⟨b,0,none⟩)∧h=.slice (some ⟨b,0,none⟩) 1 1
def aG (H:HLoc→SV):SV→Prop
 | .adr s _=>H (.site s)≠.bot
 | .hdr r=>H (.row r)≠.bot
 | .own r=>H (.row r)≠.bot
 | .cpy d i _=>H (.comp d i)≠.bot
 | .vec d n=>∀ i,i<n→H (.comp d i)≠.bot
 | .ref d j=>H (.comp d j)≠.bot
 | .sel s _ _ _ _=>H (.site s)≠.bot
 | .oel r _ _ _=>H (.row r)≠.bot
 | .tup d n=>∀ i,i<n→H (.comp d i)≠.bot
 | .agg d t=>∀ i,i<nf t→H (.comp d i)≠.bot
 | .fn _ d n=>∀ i,i<n→H (.comp d i)≠.bot
 | .deep _ _ _ h=>∀ i q,h=some (i,q)→H (.row q)≠.bot
 | _=>True
structure Ctx where
 w0:World
 fl0:Nat→Nat
 M:Nat→Prop
 pin:Nat→Nat→Option Value:=fun _ _=>none
 lo:Nat:=0
 p0:Nat→Value:=fun _=>undef
noncomputable def lvU (fl:Nat→Nat) (M:Nat→Prop) (w:World):IV:=fun b o=>open Classical in if M b then view fl w b o else w.cell? ⟨b,o,none⟩
noncomputable def Ar (C:Ctx):IV:=lvU C.fl0 C.M C.w0
structure Ext (w0:World) (M:Nat→Prop) (w:World):Prop where
 os:w.os=w0.os
 tape:w.tape=w0.tape
 output:w.output=w0.output
 size:w0.heap.size≤w.heap.size
 block:∀ b,b<w0.heap.size→¬ M b→w.heap[b]? = w0.heap[b]?
def dF (F:Nat→SV) (g:Gh) (iv:IV):Ty→List Value→Nat→Prop
 | .pair a b,cs,i=>∃ c1 c2,cs=c1++c2∧c1.length=a.size∧(∀ c∈c1,oneC c=true)∧SR g iv (F i) (mkV a c1)∧dF F g iv b c2 (i+1)
 | .unit,cs,_=>cs=[]
 | _,_,_=>False
def dV (F:Nat→SV) (g:Gh) (iv:IV) (t:Ty) (cs:List Value):Prop:=
 cond t.agg (dF F g iv t cs 0) (∃ c,cs=[c]∧oneC c=true∧SR g iv (F 0) c)
def xA (fz:Nat×Nat) (n:Nat):Prop:=fz.1=fz.2∨n≤fz.1
theorem xA.zero (n:Nat):xA (0,0) n:=.inl rfl
theorem xA.out {fz:Nat×Nat} {n:Nat} (h:xA fz n):∀ o,o<n→¬ (fz.1≤o∧o<fz.2):=fun o ho k=>by
 rcases h with h|h<;>omega
def Blk (w:World) (b:Nat) (cs:List Value):Prop:=∃ el fz,w.heap[b]? = some (.cells cs.toArray el fz)∧xA fz cs.length
def Ug (F:Nat→SV) (g:Gh) (w:World) (n:Nat) (t:Ty):Prop:=
 ∃ cs,Blk w (g.st n) cs∧g.own (g.st n)=some (.site n)∧g.fl (g.st n)=0∧dV F g (view g.fl w) t cs
def kQ (iv:IV) (e:Ty) (l:List e.den) (cs:List Value):Prop:=
 ∀ i x,l[i]? = some x→∃ c,(∀ j v,c[j]? = some v→cs[i*e.size+j]? = some v)∧aJ iv e c x
def qE (g:Gh) (w:World) (r:Nat) (pub:Bool) (e:Ty) (l:List e.den):Prop:=
 (g.hd r=.slice none 0 0∧l=[])∨
 ∃ b cap cs,g.hd r=.slice (some ⟨b,0,none⟩) l.length cap∧l.length≤cap∧Blk w b cs∧cs.length=cap*e.size∧
  g.own b=some (.row r)∧g.fl b=cond pub (l.length*e.size) 0∧kQ (view g.fl w) e l cs
def iq (fl:Nat→Nat) (own:Nat→Option Own) (w:World) (v:Value) (o:Own) (pub:Bool) (e:Ty) (l:List e.den):Prop:=
 (v=.slice none 0 0∧l=[])∨
 ∃ b cap cs,v=.slice (some ⟨b,0,none⟩) l.length cap∧l.length≤cap∧Blk w b cs∧cs.length=cap*e.size∧
  own b=some o∧fl b=cond pub (l.length*e.size) 0∧kQ (view fl w) e l cs
def gI (fl:Nat→Nat) (own:Nat→Option Own) (w:World) (v:Value) (o:Own) (e:Ty) (l:List e.den) (bo:Option Nat):Prop:=
 (v=.slice none 0 0∧l=[]∧bo=none)∨
 ∃ b cap cs,v=.slice (some ⟨b,0,none⟩) l.length cap∧l.length≤cap∧Blk w b cs∧cs.length=cap*e.size∧
  own b=some o∧fl b=0∧kQ (view fl w) e l cs∧bo=some b
def dQ (iv:IV) (Q:(u:Ty)→Value→List u.den→Prop):(t:Ty)→List Value→t.den→Prop
 | .slice e,cs,l=>∃ v,cs=[v]∧oneC v=true∧Q e v l
 | .pair a b,cs,x=>∃ c1 c2,cs=c1++c2∧dQ iv Q a c1 x.1∧dQ iv Q b c2 x.2
 | t,cs,x=>aJ iv t cs x
def lV (fl:Nat→Nat) (own:Nat→Option Own) (w:World) (o:Own) (n:Nat) (hv:Option (Nat×Value)) (i:Nat) (bo:Option Nat) (u:Ty) (v:Value) (y:List u.den):Prop:=
 (hv=some (i,v)∧bo=none)∨((∀ x,hv≠some (i,x))∧i<n∧gI fl own w v o u y bo)∨((∀ x,hv≠some (i,x))∧n≤i∧bM (view fl w) (.slice u) v y∧bo=none)
def fO (fl:Nat→Nat) (own:Nat→Option Own) (w:World) (v:Value) (o:Own) (e:Ty) (l:List e.den) (n:Nat) (hv:Option (Nat×Value)):Prop:=
 n≤l.length∧(∀ k x,hv=some (k,x)→k<n)∧((v=.slice none 0 0∧l=[])∨
 ∃ b cap cs,∃ bs:Nat→Option Nat,v=.slice (some ⟨b,0,none⟩) l.length cap∧l.length≤cap∧Blk w b cs∧cs.length=cap*e.size∧
  own b=some o∧fl b=0∧(∀ i c,bs i=some c→c≠b∧own c=some o∧fl c=0)∧(∀ i j c,bs i=some c→bs j=some c→i=j)∧
  ∀ i x,l[i]? = some x→∃ c,(∀ j v,c[j]? = some v→cs[i*e.size+j]? = some v)∧dQ (view fl w) (lV fl own w o n hv i (bs i)) e c x)
def fB (hd:Nat→Value) (h:Option (Nat×Nat)):Option (Nat×Value):=h.map fun p=>(p.1,hd p.2)
def kP (H:HLoc→SV) (r:Nat):Prop:=(∃ pub e l,H (.row r)=.row pub e l)∨∃ e l n h,H (.row r)=.deep e l n h
structure SimG (C:Ctx) (g:Gh) (S:Nat→SV) (H:HLoc→SV) (a:Act) (w:World):Prop where
 defers:a.defers=[]
 slots:∀ n,SR g (view g.fl w) (S n) (a.tmps.getD n undef)
 comps:∀ d i,SR g (view g.fl w) (H (.comp d i)) (g.cv d i)
 sites:∀ n t,H (.site n)=.obj t→Ug (fun i=>H (.fld n i)) g w n t
 rows:∀ r pub e l,H (.row r)=.row pub e l→qE g w r pub e l
 deeps:∀ r e l n h,H (.row r)=.deep e l n h→fO g.fl g.own w (g.hd r) (.row r) e l n (fB g.hd h)
 refR:∀ r,aG H (H (.row r))
 refS:∀ n,aG H (S n)
 refC:∀ d i,aG H (H (.comp d i))
 refF:∀ n i,aG H (H (.fld n i))
 own:∀ b,g.own b≠none→b<w.heap.size∧(C.w0.heap.size≤b∨C.M b)
 old:∀ b,b<C.w0.heap.size→¬ C.M b→g.fl b=C.fl0 b
 ext:Ext C.w0 C.M w
 iv:(view C.fl0 C.w0).le (view g.fl w)
 lv:g.lv=Ar C
 pin:∀ d i v,C.pin d i=some v→H (.comp d i)≠.bot∧g.cv d i=v
 low:∀ n,n<C.lo→a.tmps.getD n undef=C.p0 n
structure GAgree (H:HLoc→SV) (g g':Gh):Prop where
 st:∀ n,H (.site n)≠.bot→g'.st n=g.st n
 hd:∀ r,H (.row r)≠.bot→g'.hd r=g.hd r
 cv:∀ d i,H (.comp d i)≠.bot→g'.cv d i=g.cv d i
 lv:g'.lv=g.lv
theorem GAgree.refl (H:HLoc→SV) (g:Gh):GAgree H g g:=⟨fun _ _=>rfl,fun _ _=>rfl,fun _ _ _=>rfl,rfl⟩
theorem GAgree.same {H:HLoc→SV} {g g':Gh} (h1:g'.st=g.st) (h2:g'.hd=g.hd) (h3:g'.cv=g.cv) (h4:g'.lv=g.lv:=by rfl):GAgree H g g':=
 ⟨fun _ _=>by rw[h1],fun _ _=>by rw[h2],fun _ _ _=>by rw[h3],h4⟩
theorem XY {cv cv':Nat→Value}:∀ {t:Ty} {i:Nat},(∀ j,j<nf t→cv' (i+j)=cv (i+j))→fK cv' t i=fK cv t i:=by
 intro t;induction t with
 | pair a b ha hb=>intro i h;simp only[fK];have h0:cv' i=cv i:=h 0 (by simp[nf]);rw[h0,hb fun j hj=>by have:=h (j+1) (by simp[nf];omega);rwa[show i+(j+1)=i+1+j from by omega] at this]
 | _=>intro i h;rfl
theorem YS {cv cv':Nat→Value}:∀ {t:Ty} {i:Nat},(∀ j,j<nf t→cv' (i+j)=cv (i+j))→kz cv t i→kz cv' t i:=by
 intro t;induction t with
 | pair a b ha hb=>intro i h hk;have h0:cv' i=cv i:=h 0 (by simp[nf]);simp only[kz] at hk ⊢;rw[h0];exact⟨hk.1,hk.2.1,hk.2.2.1,hb (fun j hj=>by have:=h (j+1) (by simp[nf];omega);rwa[show i+(j+1)=i+1+j from by omega] at this) hk.2.2.2⟩
 | _=>intro i h hk;exact hk
theorem SR.change {H:HLoc→SV} {g g':Gh} {iv iv':IV} (hg:GAgree H g g') (hl:iv.le iv') {s:SV} {v:Value} (hr:aG H s) (h:SR g iv s v):SR g' iv' s v:=by
 cases s with
 | bot=>exact h
 | und=>exact h
 | pv t x=>exact bM.mono hl h
 | lv t x=>simp only[SR] at h ⊢;rw[hg.lv];exact h
 | nils=>exact h
 | nilp=>exact h
 | adr s off=>simp only[SR] at h ⊢;rw[hg.st s hr];exact h
 | sel s off z n j=>simp only[SR] at h ⊢;rw[hg.st s hr];exact h
 | hdr r=>simp only[SR] at h ⊢;rw[hg.hd r hr];exact h
 | own r=>simp only[SR] at h ⊢;rw[hg.hd r hr];exact h
 | cpy d i t=>simp only[SR] at h ⊢;rw[hg.cv d i hr];exact h
 | vec d n=>obtain⟨bl,h1,h2⟩:=h;exact⟨bl,h1,fun j hj=>by rw[hg.cv d j (hr j hj)];exact hl _ _ _ (h2 j hj)⟩
 | ref d j=>obtain⟨bl,h1,h2⟩:=h;exact⟨bl,h1,by rw[hg.cv d j hr];exact hl _ _ _ h2⟩
 | elt t x off=>obtain⟨bl,o,cs,h1,h2,h3⟩:=h;exact⟨bl,o,cs,h1,h2.mono hl,h3.mono hl⟩
 | lel t x off=>obtain⟨bl,o,cs,h1,h2,h3⟩:=h;exact⟨bl,o,cs,h1,h2.mono hl,by rw[hg.lv];exact h3⟩
 | oel r i off sz=>obtain⟨bl,len,cap,h1,h2⟩:=h;exact⟨bl,len,cap,by rw[hg.hd r hr];exact h1,h2⟩
 | tup d n=>simp only[SR] at h ⊢;rw[h];congr 2;exact List.map_congr_left fun i hi=>(hg.cv d i (hr i (List.mem_range.1 hi))).symm
 | agg d t=>
  obtain⟨h1,h2,h3⟩:=h;have hc:∀ j,j<nf t→g'.cv d (0+j)=g.cv d (0+j):=fun j hj=>by rw[zero_add];exact hg.cv d j (hr j hj)
  refine⟨h1,?_,YS hc h3⟩;rw[XY hc];exact h2
 | fn f d n=>simp only[SR] at h ⊢;rw[h];congr 2;exact List.map_congr_left fun i hi=>(hg.cv d i (hr i (List.mem_range.1 hi))).symm
 | anyb=>exact h
 | obj t=>exact h
 | row p e l=>exact h
 | deep e l n hh=>exact h
theorem dF.change {F:Nat→SV} {H:HLoc→SV} {g g':Gh} {iv iv':IV} (hg:GAgree H g g') (hl:iv.le iv') (hr:∀ i,aG H (F i)) :
  ∀ {t:Ty} {cs:List Value} {i:Nat},dF F g iv t cs i→dF F g' iv' t cs i:=by
 intro t;induction t with
 | pair a b ha hb=>rintro cs i ⟨c1,c2,h1,h2,h3,h4,h5⟩;exact⟨c1,c2,h1,h2,h3,SR.change hg hl (hr i) h4,hb h5⟩
 | _=>intro cs i h;exact h
theorem dV.change {F:Nat→SV} {H:HLoc→SV} {g g':Gh} {iv iv':IV} (hg:GAgree H g g') (hl:iv.le iv') (hr:∀ i,aG H (F i))
  {t:Ty} {cs:List Value} (h:dV F g iv t cs):dV F g' iv' t cs:=by
 unfold dV at h ⊢;cases ht:t.agg with
 | true=>rw[ht] at h;exact dF.change hg hl hr h
 | false=>rw[ht] at h;obtain⟨c,h1,h2,h3⟩:=h;exact⟨c,h1,h2,SR.change hg hl (hr 0) h3⟩
theorem dF.congr {F F':Nat→SV} {g:Gh} {iv:IV}:∀ {t:Ty} {cs:List Value} {i:Nat},(∀ j,j<nf t→F' (i+j)=F (i+j))→dF F g iv t cs i→dF F' g iv t cs i:=by
 intro t;induction t with
 | pair a b ha hb=>rintro cs i h ⟨c1,c2,h1,h2,h3,h4,h5⟩;have h0:F' i=F i:=h 0 (by simp[nf]);exact⟨c1,c2,h1,h2,h3,by rw[h0];exact h4,hb (fun j hj=>by have:=h (j+1) (by simp[nf];omega);rwa[show i+(j+1)=i+1+j from by omega] at this) h5⟩
 | _=>intro cs i _ h;exact h
theorem kQ.mono {iv iv':IV} (hl:iv.le iv') {e:Ty} {l:List e.den} {cs:List Value} (h:kQ iv e l cs):kQ iv' e l cs:=
 fun i x hx=>let ⟨c,h1,h2⟩:=h i x hx;⟨c,h1,h2.mono hl⟩
theorem dQ.mono {iv iv':IV} (hl:iv.le iv') {Q Q':(u:Ty)→Value→List u.den→Prop} (hq:∀ u v y,Q u v y→Q' u v y):∀ {t:Ty} {cs:List Value} {x:t.den},dQ iv Q t cs x→dQ iv' Q' t cs x:=by
 intro t;induction t with
 | slice e=>rintro cs x ⟨v,h1,h2,h3⟩;exact⟨v,h1,h2,hq _ _ _ h3⟩
 | pair a b ha hb=>rintro cs x ⟨c1,c2,h1,h2,h3⟩;exact⟨c1,c2,h1,ha h2,hb h3⟩
 | _=>intro cs x h;exact aJ.mono hl h
theorem gI.frame {fl fl':Nat→Nat} {own own':Nat→Option Own} {w w':World} {v:Value} {o o':Own} {e:Ty} {l:List e.den} {bo:Option Nat} (h:gI fl own w v o e l bo) (hiv:(view fl w).le (view fl' w'))
  (hb:∀ b,own b=some o→(∀ cs,Blk w b cs→Blk w' b cs)∧own' b=some o'∧fl' b=fl b):gI fl' own' w' v o' e l bo:=by
 rcases h with h|⟨b,cap,cs,h1,h2,h3,h4,h5,h6,h7,h8⟩
 ·exact .inl h
 ·obtain⟨k1,k2,k3⟩:=hb b h5;exact .inr ⟨b,cap,cs,h1,h2,k1 _ h3,h4,k2,by rw[k3];exact h6,h7.mono hiv,h8⟩
theorem lV.frame {fl fl':Nat→Nat} {own own':Nat→Option Own} {w w':World} {o o':Own} {n:Nat} {hv:Option (Nat×Value)} {i:Nat} {bo:Option Nat} {u:Ty} {v:Value} {y:List u.den} (h:lV fl own w o n hv i bo u v y) (hiv:(view fl w).le (view fl' w'))
  (hb:∀ b,own b=some o→(∀ cs,Blk w b cs→Blk w' b cs)∧own' b=some o'∧fl' b=fl b):lV fl' own' w' o' n hv i bo u v y:=by
 rcases h with h|⟨h1,h2,h3⟩|⟨h1,h2,h3,h4⟩
 ·exact .inl h
 ·exact .inr (.inl ⟨h1,h2,h3.frame hiv hb⟩)
 ·exact .inr (.inr ⟨h1,h2,h3.mono hiv,h4⟩)
theorem fO.frame {fl fl':Nat→Nat} {own own':Nat→Option Own} {w w':World} {v:Value} {o o':Own} {e:Ty} {l:List e.den} {n:Nat} {hv:Option (Nat×Value)} (h:fO fl own w v o e l n hv) (hiv:(view fl w).le (view fl' w'))
  (hb:∀ b,own b=some o→(∀ cs,Blk w b cs→Blk w' b cs)∧own' b=some o'∧fl' b=fl b):fO fl' own' w' v o' e l n hv:=by
 obtain⟨h1,h2,h⟩:=h;refine⟨h1,h2,?_⟩;rcases h with h|⟨b,cap,cs,bs,k1,k2,k3,k4,k5,k6,k7,k8,k9⟩
 ·exact .inl h
 ·obtain⟨q1,q2,q3⟩:=hb b k5;exact .inr ⟨b,cap,cs,bs,k1,k2,q1 _ k3,k4,q2,by rw[q3];exact k6,fun i c hc=>⟨(k7 i c hc).1,(hb c (k7 i c hc).2.1).2.1,by rw[(hb c (k7 i c hc).2.1).2.2];exact(k7 i c hc).2.2⟩,k8,fun i x hx=>
   let ⟨c,c1,c2⟩:=k9 i x hx
   ⟨c,c1,c2.mono hiv fun _ _ _ hq=>hq.frame hiv hb⟩⟩
theorem YD {H:HLoc→SV} {g g':Gh} (hA:GAgree H g g') {h:Option (Nat×Nat)} (hr:∀ i q,h=some (i,q)→H (.row q)≠.bot):fB g'.hd h=fB g.hd h:=by
 cases h with
 | none=>rfl
 | some p=>obtain⟨i,q⟩:=p;simp only[fB,map_some];rw[hA.hd q (hr i q rfl)]
theorem Blk.heap {w w':World} {b:Nat} (h:w'.heap[b]? = w.heap[b]?) (cs:List Value) (hb:Blk w b cs):Blk w' b cs:=by
 obtain⟨el,fz,h1,h2⟩:=hb;exact⟨el,fz,h.trans h1,h2⟩
theorem SimG.grow {C:Ctx} {g:Gh} {S:Nat→SV} {H:HLoc→SV} {a:Act} {w:World} (hs:SimG C g S H a w) {g':Gh} {w':World}
  (hA:GAgree H g g') (hiv:(view g.fl w).le (view g'.fl w'))
  (hst:∀ n t,H (.site n)=.obj t→g.own (g.st n)=some (.site n)→w'.heap[g.st n]? = w.heap[g.st n]?∧g'.own (g.st n)=some (.site n)∧g'.fl (g.st n)=g.fl (g.st n))
  (hrw:∀ r b,kP H r→g.own b=some (.row r)→w'.heap[b]? = w.heap[b]?∧g'.own b=some (.row r)∧g'.fl b=g.fl b)
  (hown:∀ b,g'.own b≠none→b<w'.heap.size∧(C.w0.heap.size≤b∨C.M b))
  (hold:∀ b,b<C.w0.heap.size→¬ C.M b→g'.fl b=C.fl0 b) (hext:Ext C.w0 C.M w'):SimG C g' S H a w' where
 defers:=hs.defers
 slots n:=SR.change hA hiv (hs.refS n) (hs.slots n)
 comps d i:=by
  by_cases hb:H (.comp d i)=.bot
  ·rw[hb];trivial
  ·rw[hA.cv d i hb];exact SR.change hA hiv (hs.refC d i) (hs.comps d i)
 sites n t hn:=by
  obtain⟨cs,⟨el,fz,hb,hf⟩,h2,h3,h4⟩:=hs.sites n t hn;have hne:H (.site n)≠.bot:=by rw[hn];exact SV.noConfusion
  obtain⟨k1,k2,k3⟩:=hst n t hn h2;refine⟨cs,⟨el,fz,?_,hf⟩,?_,?_,dV.change hA hiv (fun i=>hs.refF n i) h4⟩
  ·rw[hA.st n hne,k1];exact hb
  ·rw[hA.st n hne];exact k2
  ·rw[hA.st n hne,k3];exact h3
 rows r pub e l hr:=by
  have hne:H (.row r)≠.bot:=by rw[hr];exact SV.noConfusion
  rcases hs.rows r pub e l hr with⟨h1,h2⟩|⟨b,cap,cs,h1,h2,⟨el,fz,h3,hf⟩,h4,h5,h6,h7⟩
  ·exact .inl ⟨by rw[hA.hd r hne];exact h1,h2⟩
  ·obtain⟨k1,k2,k3⟩:=hrw r b (.inl ⟨_,_,_,hr⟩) h5;exact .inr ⟨b,cap,cs,by rw[hA.hd r hne];exact h1,h2,⟨el,fz,by rw[k1];exact h3,hf⟩,h4,k2,by rw[k3];exact h6,h7.mono hiv⟩
 deeps r e l n h hr:=by
  have hne:H (.row r)≠.bot:=by rw[hr];exact SV.noConfusion
  have hrr:=hs.refR r;rw[hr] at hrr;rw[hA.hd r hne,YD hA hrr];refine(hs.deeps r e l n h hr).frame hiv fun b hb=> ?_;obtain⟨k1,k2,k3⟩:=hrw r b (.inr ⟨_,_,_,_,hr⟩) hb;exact⟨fun cs=>Blk.heap k1 cs,k2,k3⟩
 refR:=hs.refR
 refS:=hs.refS
 refC:=hs.refC
 refF:=hs.refF
 own:=hown
 old:=hold
 ext:=hext
 iv:=hs.iv.trans hiv
 lv:=hA.lv.trans hs.lv
 pin d i v h:=let ⟨h1,h2⟩:=hs.pin d i v h;⟨h1,(hA.cv d i h1).trans h2⟩
 low:=hs.low
theorem SimG.mark {C:Ctx} {g:Gh} {S:Nat→SV} {H:HLoc→SV} {a:Act} {w:World} (hs:SimG C g S H a w) {w':World}
  (hcell:∀ b o,w'.cell? ⟨b,o,none⟩=w.cell? ⟨b,o,none⟩) (hblk:∀ b cs,Blk w b cs→Blk w' b cs) (hsize:w'.heap.size=w.heap.size) (hext:Ext C.w0 C.M w'):SimG C g S H a w':=by
 have hv:view g.fl w'=view g.fl w:=by funext b o;unfold view;rw[hcell]
 exact{
  defers:=hs.defers
  slots:=fun n=>by rw[hv];exact hs.slots n
  comps:=fun d i=>by rw[hv];exact hs.comps d i
  sites:=fun n t hn=>by obtain⟨cs,h1,h2,h3,h4⟩:=hs.sites n t hn;exact⟨cs,hblk _ _ h1,h2,h3,by rw[hv];exact h4⟩
  rows:=fun r pub e l hr=>by
   rcases hs.rows r pub e l hr with h|⟨b,cap,cs,h1,h2,h3,h4,h5,h6,h7⟩
   ·exact .inl h
   ·exact .inr ⟨b,cap,cs,h1,h2,hblk _ _ h3,h4,h5,h6,by rw[hv];exact h7⟩
  deeps:=fun r e l n h hr=>(hs.deeps r e l n h hr).frame (by rw[hv];exact IV.le.refl _) fun b hb=>⟨fun cs=>hblk b cs,hb,rfl⟩
  refR:=hs.refR
  refS:=hs.refS
  refC:=hs.refC
  refF:=hs.refF
  own:=fun b hb=>by rw[hsize];exact hs.own b hb
  old:=hs.old
  ext:=hext
  iv:=by rw[hv];exact hs.iv
  lv:=hs.lv
  pin:=hs.pin
  low:=hs.low }
theorem aK (H:HLoc→SV) (l:HLoc) (v:SV):ak H l v l=v:=by simp[ak,HLoc.beq_refl]
theorem ay (H:HLoc→SV) {l m:HLoc} (v:SV) (h:m≠l):ak H l v m=H m:=by simp[ak,HLoc.beq_ne h]
theorem fF {H:HLoc→SV} {l m:HLoc} {v:SV} (hv:v≠.bot) (h:H m≠.bot):ak H l v m≠.bot:=by
 by_cases e:m=l
 ·subst e;rw[aK];exact hv
 ·rw[ay _ _ e];exact h
theorem aG.upd {H:HLoc→SV} {l:HLoc} {v:SV} (hv:v≠.bot) {s:SV} (h:aG H s):aG (ak H l v) s:=by
 cases s<;>first|exact trivial|exact fF hv h|exact fun i hi=>fF hv (h i hi)|exact fun i q hi=>fF hv (h i q hi)
theorem pM (S:Nat→SV) (n:Nat) (v:SV):jL S n v n=v:=by simp[jL]
theorem kL (S:Nat→SV) {n m:Nat} (v:SV) (h:m≠n):jL S n v m=S m:=by
 have:Nat.beq m n=false:=by
  cases hb:Nat.beq m n with
  | false=>rfl
  | true=>exact absurd (eq_of_beq_eq_true hb) h
 simp[jL,this]
section
variable {C:Ctx} {g:Gh} {S:Nat→SV} {H:HLoc→SV} {a:Act} {w:World}
theorem SimG.put (hs:SimG C g S H a w) (d:Option Tmp) {v:SV} {val:Value} (hr:aG H v) (hv:SR g (view g.fl w) v val)
  (hlt:∀ t,d=some t→t<a.tmps.size∧C.lo≤t):SimG C g (fP S d v) H (a.put d val) w:=by
 cases d with
 | none=>exact{ hs with }
 | some t=>
  refine{ hs with defers:=hs.defers,slots:=fun n=> ?_,refS:=fun n=> ?_,low:=fun n hn=> ?_ }
  ·by_cases hn:n=t
   ·subst hn;simp only[fP,pM,Act.put];have:=(hlt n rfl).1;simp[Array.getD,this];exact hv
   ·simp only[fP,kL _ _ hn,Act.put];have h0:=hs.slots n;have:(a.tmps.setIfInBounds t val).getD n undef=a.tmps.getD n undef:=by
     simp only[Array.getD_eq_getD_getElem?];rw[Array.getElem?_setIfInBounds_ne (fun e=>hn e.symm)]
    rw[this];exact h0
  ·by_cases hn:n=t
   ·subst hn;simpa[fP,pM] using hr
   ·simp only[fP,kL _ _ hn];exact hs.refS n
  ·have h2:=(hlt t rfl).2;rw[←hs.low n hn];simp only[Act.put,Array.getD_eq_getD_getElem?];rw[Array.getElem?_setIfInBounds_ne (by omega)]
theorem SimG.drop (hs:SimG C g S H a w) {l:HLoc} (hl:(∃ n,l=.site n)∨∃ r,l=.row r):SimG C g S (ak H l .und) a w:=by
 have hne:SV.und≠SV.bot:=SV.noConfusion;have hc:∀ d i,HLoc.comp d i≠l:=fun d i e=>by rcases hl with⟨n,rfl⟩|⟨n,rfl⟩<;>cases e
 have hf:∀ n i,HLoc.fld n i≠l:=fun d i e=>by rcases hl with⟨n,rfl⟩|⟨n,rfl⟩<;>cases e
 refine{ hs with comps:=fun d i=> ?_,sites:=fun n t hn=> ?_,rows:=fun r p e x hr=> ?_,deeps:=fun r e x n hh hr=> ?_,refR:=fun r=> ?_,refS:=fun n=>aG.upd hne (hs.refS n),refC:=fun d i=> ?_,refF:=fun n i=> ?_,pin:=fun pd pi pv ph=>⟨fF hne (hs.pin pd pi pv ph).1,(hs.pin pd pi pv ph).2⟩ }
 ·rw[ay _ _ (hc d i)];exact hs.comps d i
 ·by_cases e:HLoc.site n=l
  ·rw[←e,aK] at hn;cases hn
  ·rw[ay _ _ e] at hn;have:=hs.sites n t hn;have hF:(fun i=>ak H l .und (.fld n i))=fun i=>H (.fld n i):=funext fun i=>ay _ _ (hf n i);rw[hF];exact this
 ·by_cases e':HLoc.row r=l
  ·rw[←e',aK] at hr;cases hr
  ·rw[ay _ _ e'] at hr;exact hs.rows r p e x hr
 ·by_cases e':HLoc.row r=l
  ·rw[←e',aK] at hr;cases hr
  ·rw[ay _ _ e'] at hr;exact hs.deeps r e x n hh hr
 ·by_cases e':HLoc.row r=l
  ·rw[←e',aK];trivial
  ·rw[ay _ _ e'];exact aG.upd hne (hs.refR r)
 ·rw[ay _ _ (hc d i)];exact aG.upd hne (hs.refC d i)
 ·rw[ay _ _ (hf n i)];exact aG.upd hne (hs.refF n i)
theorem SimG.setFld (hs:SimG C g S H a w) {n i:Nat} {v:SV} (hn:∀ t,H (.site n)≠.obj t) (hv:v≠.bot) (hr:aG H v):SimG C g S (ak H (.fld n i) v) a w:=by
 have hx:∀ l,l≠HLoc.fld n i→ak H (.fld n i) v l=H l:=fun l h=>ay _ _ h;refine{ hs with comps:=fun d j=> ?_,sites:=fun m t hm=> ?_,rows:=fun r p e x hr'=> ?_,deeps:=fun r e x n hh hr=> ?_,refR:=fun r=> ?_,refS:=fun n=>aG.upd hv (hs.refS n),refC:=fun d j=> ?_,refF:=fun m j=> ?_,pin:=fun pd pi pv ph=>⟨fF hv (hs.pin pd pi pv ph).1,(hs.pin pd pi pv ph).2⟩ }
 ·rw[hx _ (by simp)];exact hs.comps d j
 ·rw[hx _ (by simp)] at hm;have hmn:m≠n:=fun e=>hn t (e▸hm);have hF:(fun j=>ak H (.fld n i) v (.fld m j))=fun j=>H (.fld m j):=funext fun j=>hx _ (fun e=>by cases e;exact hmn rfl);rw[hF];exact hs.sites m t hm
 ·rw[hx _ (by simp)] at hr';exact hs.rows r p e x hr'
 ·rw[hx _ (by simp)] at hr;exact hs.deeps r e x n hh hr
 ·rw[hx _ (by simp)];exact aG.upd hv (hs.refR r)
 ·rw[hx _ (by simp)];exact aG.upd hv (hs.refC d j)
 ·by_cases e:HLoc.fld m j=.fld n i
  ·rw[e,aK];exact aG.upd hv hr
  ·rw[hx _ e];exact aG.upd hv (hs.refF m j)
theorem SimG.setSite (hs:SimG C g S H a w) {n:Nat} {t:Ty} (ho:Ug (fun i=>H (.fld n i)) g w n t):SimG C g S (ak H (.site n) (.obj t)) a w:=by
 have hv:SV.obj t≠SV.bot:=SV.noConfusion;have hx:∀ l,l≠HLoc.site n→ak H (.site n) (.obj t) l=H l:=fun l h=>ay _ _ h;refine{ hs with comps:=fun d j=> ?_,sites:=fun m u hm=> ?_,rows:=fun r p e x hr'=> ?_,deeps:=fun r e x n hh hr=> ?_,refR:=fun r=> ?_,refS:=fun n=>aG.upd hv (hs.refS n),refC:=fun d j=> ?_,refF:=fun m j=> ?_,pin:=fun pd pi pv ph=>⟨fF hv (hs.pin pd pi pv ph).1,(hs.pin pd pi pv ph).2⟩ }
 ·rw[hx _ (by simp)];exact hs.comps d j
 ·have hF:(fun j=>ak H (.site n) (.obj t) (.fld m j))=fun j=>H (.fld m j):=funext fun j=>hx _ (by simp);rw[hF];by_cases e:m=n
  ·subst e;rw[aK] at hm;cases hm;exact ho
  ·rw[hx _ (fun h=>e (by cases h;rfl))] at hm;exact hs.sites m u hm
 ·rw[hx _ (by simp)] at hr';exact hs.rows r p e x hr'
 ·rw[hx _ (by simp)] at hr;exact hs.deeps r e x n hh hr
 ·rw[hx _ (by simp)];exact aG.upd hv (hs.refR r)
 ·rw[hx _ (by simp)];exact aG.upd hv (hs.refC d j)
 ·rw[hx _ (by simp)];exact aG.upd hv (hs.refF m j)
theorem SimG.setRow (hs:SimG C g S H a w) {r:Nat} {pub:Bool} {e:Ty} {l:List e.den} (ho:qE g w r pub e l):SimG C g S (ak H (.row r) (.row pub e l)) a w:=by
 have hv:SV.row pub e l≠SV.bot:=SV.noConfusion;have hx:∀ k,k≠HLoc.row r→ak H (.row r) (.row pub e l) k=H k:=fun l h=>ay _ _ h;refine{ hs with comps:=fun d j=> ?_,sites:=fun m u hm=> ?_,rows:=fun r' p e' x hr'=> ?_,deeps:=fun r' e' x n hh hr=> ?_,refR:=fun r'=> ?_,refS:=fun n=>aG.upd hv (hs.refS n),refC:=fun d j=> ?_,refF:=fun m j=> ?_,pin:=fun pd pi pv ph=>⟨fF hv (hs.pin pd pi pv ph).1,(hs.pin pd pi pv ph).2⟩ }
 ·rw[hx _ (by simp)];exact hs.comps d j
 ·have hF:(fun j=>ak H (.row r) (.row pub e l) (.fld m j))=fun j=>H (.fld m j):=funext fun j=>hx _ (by simp);rw[hF];rw[hx _ (by simp)] at hm;exact hs.sites m u hm
 ·by_cases er:r'=r
  ·subst er;rw[aK] at hr';cases hr';exact ho
  ·rw[hx _ (fun h=>er (by cases h;rfl))] at hr';exact hs.rows r' p e' x hr'
 ·by_cases er:r'=r
  ·subst er;rw[aK] at hr;cases hr
  ·rw[hx _ (fun h=>er (by cases h;rfl))] at hr;exact hs.deeps r' e' x n hh hr
 ·by_cases er:r'=r
  ·subst er;rw[aK];trivial
  ·rw[hx _ (fun h=>er (by cases h;rfl))];exact aG.upd hv (hs.refR r')
 ·rw[hx _ (by simp)];exact aG.upd hv (hs.refC d j)
 ·rw[hx _ (by simp)];exact aG.upd hv (hs.refF m j)
theorem SimG.setDeep (hs:SimG C g S H a w) {r:Nat} {e:Ty} {l:List e.den} {n:Nat} {h:Option (Nat×Nat)} (ho:fO g.fl g.own w (g.hd r) (.row r) e l n (fB g.hd h)) (hq:∀ i q,h=some (i,q)→H (.row q)≠.bot):SimG C g S (ak H (.row r) (.deep e l n h)) a w:=by
 have hv:SV.deep e l n h≠SV.bot:=SV.noConfusion;have hx:∀ k,k≠HLoc.row r→ak H (.row r) (.deep e l n h) k=H k:=fun l h=>ay _ _ h;refine{ hs with comps:=fun d j=> ?_,sites:=fun m u hm=> ?_,rows:=fun r' p e' x hr'=> ?_,deeps:=fun r' e' x n hh hr=> ?_,refR:=fun r'=> ?_,refS:=fun n=>aG.upd hv (hs.refS n),refC:=fun d j=> ?_,refF:=fun m j=> ?_,pin:=fun pd pi pv ph=>⟨fF hv (hs.pin pd pi pv ph).1,(hs.pin pd pi pv ph).2⟩ }
 ·rw[hx _ (by simp)];exact hs.comps d j
 ·have hF:(fun j=>ak H (.row r) (.deep e l n h) (.fld m j))=fun j=>H (.fld m j):=funext fun j=>hx _ (by simp);rw[hF];rw[hx _ (by simp)] at hm;exact hs.sites m u hm
 ·by_cases er:r'=r
  ·subst er;rw[aK] at hr';cases hr'
  ·rw[hx _ (fun h=>er (by cases h;rfl))] at hr';exact hs.rows r' p e' x hr'
 ·by_cases er:r'=r
  ·subst er;rw[aK] at hr;cases hr;exact ho
  ·rw[hx _ (fun h=>er (by cases h;rfl))] at hr;exact hs.deeps r' e' x n hh hr
 ·by_cases er:r'=r
  ·subst er;rw[aK];exact fun i q hi=>fF hv (hq i q hi)
  ·rw[hx _ (fun h=>er (by cases h;rfl))];exact aG.upd hv (hs.refR r')
 ·rw[hx _ (by simp)];exact aG.upd hv (hs.refC d j)
 ·rw[hx _ (by simp)];exact aG.upd hv (hs.refF m j)
theorem SimG.setComp (hs:SimG C g S H a w) {d i:Nat} {v:SV} {val:Value} (h0:H (.comp d i)=.bot) (hv:v≠.bot) (hr:aG H v) (hval:SR g (view g.fl w) v val) :
  SimG C { g with cv:=fun d' i'=>if d'=d∧i'=i then val else g.cv d' i' } S (ak H (.comp d i) v) a w:=by
 have hA:GAgree H g { g with cv:=fun d' i'=>if d'=d∧i'=i then val else g.cv d' i' }:=
  ⟨fun _ _=>rfl,fun _ _=>rfl,fun d' i' hne=>by
   by_cases e:d'=d∧i'=i
   ·obtain⟨rfl,rfl⟩:=e;exact absurd h0 hne
   ·simp[e],rfl⟩
 have hs':SimG C { g with cv:=fun d' i'=>if d'=d∧i'=i then val else g.cv d' i' } S H a w:=
  hs.grow hA (IV.le.refl _) (fun _ _ _ h=>⟨rfl,h,rfl⟩) (fun _ _ _ h=>⟨rfl,h,rfl⟩) hs.own hs.old hs.ext
 have hx:∀ l,l≠HLoc.comp d i→ak H (.comp d i) v l=H l:=fun l h=>ay _ _ h;refine{ hs' with comps:=fun d' j=> ?_,sites:=fun m t hm=> ?_,rows:=fun r p e x hr'=> ?_,deeps:=fun r e x n hh hr=> ?_,refR:=fun r=> ?_,refS:=fun n=>aG.upd hv (hs'.refS n),refC:=fun d' j=> ?_,refF:=fun m j=> ?_,pin:=fun pd pi pv ph=>⟨fF hv (hs'.pin pd pi pv ph).1,(hs'.pin pd pi pv ph).2⟩ }
 ·by_cases e:HLoc.comp d' j=.comp d i
  ·cases e;rw[aK];simp only[and_self,if_true];exact SR.change hA (IV.le.refl _) hr hval
  ·rw[hx _ e];exact hs'.comps d' j
 ·rw[hx _ (by simp)] at hm;have hF:(fun j=>ak H (.comp d i) v (.fld m j))=fun j=>H (.fld m j):=funext fun j=>hx _ (by simp);rw[hF];exact hs'.sites m t hm
 ·rw[hx _ (by simp)] at hr';exact hs'.rows r p e x hr'
 ·rw[hx _ (by simp)] at hr;exact hs'.deeps r e x n hh hr
 ·rw[hx _ (by simp)];exact aG.upd hv (hs'.refR r)
 ·by_cases e:HLoc.comp d' j=.comp d i
  ·rw[e,aK];exact aG.upd hv hr
  ·rw[hx _ e];exact aG.upd hv (hs'.refC d' j)
 ·rw[hx _ (by simp)];exact aG.upd hv (hs'.refF m j)
end
def aA {α:Type} (f:Nat→α) (b:Nat) (v:α):Nat→α:=fun k=>if k=b then v else f k
@[simp] theorem bJ {α:Type} (f:Nat→α) (b:Nat) (v:α):aA f b v b=v:=by simp[aA]
theorem bn {α:Type} (f:Nat→α) {b k:Nat} (v:α) (h:k≠b):aA f b v k=f k:=by simp[aA,h]
def bY (tab:Tab):List Field→Ty→Nat→Bool
 | f :: fs, .pair a b, off => cond (Nat.beq f.offset off) (cond ((match tl tab f.type with | some c => c.beq a | none => false)) (cond (Nat.beq a.size 0) false (cond (decide (f.name = "_")) false (bY tab fs b (off + a.size)))) false) false
 | [],.unit,_=>true
 | _,_,_=>false
def U0 (tab:Tab) (t et:TypeId) (n:Nat):Bool:=
 match iW tab.arrs t with
 | some p=>cond (Nat.beq p.1 et) (Nat.beq p.2 n) false
 | none=>false
def jv (P:Program) (tab:Tab) (t:TypeId) (ty:Ty):Bool:=
 match P.underlying t,ty with
 | some (.int k),.int k'=>nS k k'
 | some (.int k),.u8=>nS k .u8
 | some .bool,.bool=>true
 | some .string,.str=>true
 | some (.slice et),.slice e=>match tl tab et with
  | some c=>c.beq e
  | none=>false
 | some (.pointer nt),.tree k v=>match tl tab nt with
  | some c=>c.beq (jT k v)
  | none=>false
 | some (.pointer nt),.ptr e=>match tl tab nt with
  | some c=>c.beq e
  | none=>false
 | some (.struct fs),.pair a b=>bY tab fs.toList (.pair a b) 0
 | some (.struct fs),.unit=>bY tab fs.toList .unit 0
 | some (.array n et),.pair a b=>cond (cond (U0 tab t et n) ((Ty.pair a b).beq (dI a n)) false) (match tl tab et with
  | some c=>cond (c.beq a) (cond (Nat.beq a.size 0) false true) false
  | none=>false) false
 | _,_=>false
def zdD (P:Program) (t:TypeId) (ty:Ty):Prop:=(P.info? t).map (fun i=>(i.size,i.zero,ble i.bytes (iG ty)))=some (ty.size,some (mkV ty (zeroCells ty)),true)
def zt (P:Program) (tab:Tab):List (TypeId×Ty)→Prop
 | []=>True
 | (t,ty)::r=>zdD P t ty∧jv P tab t ty=true∧cond ty.agg (P.stoodInHeld t || P.eqGuardType P.depth t) false=false∧zt P tab r
def zx (P:Program):List TypeId→Prop
 | []=>True
 | t::r=>(P.underlying t=some (.pointer (P.pointee t))∧(P.info? t).map (fun i=>(i.size,i.zero))=some (1,some (.pointer none)))∧zx P r
theorem TJ {P:Program} {t:TypeId}:∀ {l:List TypeId},zx P l→nD l t=true→P.underlying t=some (.pointer (P.pointee t))∧(P.info? t).map (fun i=>(i.size,i.zero))=some (1,some (.pointer none))
 | [],_,h=>absurd h (by simp[nD])
 | a::r,⟨h1,h2⟩,h=>by
  rw[nD] at h;cases hb:Nat.beq a t with
  | true=>rw[←eq_of_beq_eq_true hb];exact h1
  | false=>rw[hb] at h;exact TJ h2 h
def oJ (P:Program) (tab:Tab):List (TypeId×TypeId×Nat)→Prop
 | []=>True
 | (t,et,n)::r=>(∃ e,tl tab et=some e∧P.underlying t=some (.array n et)∧(P.info? t).map (fun i=>(i.size,i.zero))=some ((dI e n).size,some (mkV (dI e n) (zeroCells (dI e n)))))∧oJ P tab r
theorem oJ.cons {P:Program} {tab:Tab} {t et:TypeId} {n:Nat} {r:List (TypeId×TypeId×Nat)} (e:Ty) (h1:tl tab et=some e) (h2:P.underlying t=some (.array n et)) (h3:(P.info? t).map (fun i=>(i.size,i.zero))=some ((dI e n).size,some (mkV (dI e n) (zeroCells (dI e n))))) (h:oJ P tab r):oJ P tab ((t,et,n)::r):=⟨⟨e,h1,h2,h3⟩,h⟩
theorem zo {P:Program} {tab:Tab} {t et:TypeId} {n:Nat}:∀ {l:List (TypeId×TypeId×Nat)},oJ P tab l→iW l t=some (et,n)→∃ e,tl tab et=some e∧P.underlying t=some (.array n et)∧(P.info? t).map (fun i=>(i.size,i.zero))=some ((dI e n).size,some (mkV (dI e n) (zeroCells (dI e n))))
 | [],_,h=>by simp[iW] at h
 | (a,et',n')::r,⟨h1,h2⟩,h=>by
  rw[iW] at h;cases hb:Nat.beq a t with
  | true=>rw[hb] at h;obtain rfl:=eq_of_beq_eq_true hb;cases h;exact h1
  | false=>rw[hb] at h;exact zo h2 h
structure TyOk (P:Program) (tab:Tab) (t:TypeId) (ty:Ty):Prop where
 info:∃ i,P.info? t=some i∧i.size=ty.size∧i.zero=some (mkV ty (zeroCells ty))∧i.bytes≤iG ty
 desc:jv P tab t ty=true
 eqs:ty.agg=true→P.stoodInHeld t=false∧P.eqGuardType P.depth t=false
theorem zda {P:Program} {tab:Tab}:∀ {tb:List (TypeId×Ty)},zt P tab tb→∀ {t:TypeId} {ty:Ty},tlL tb t=some ty→TyOk P tab t ty:=by
 intro tb;induction tb with
 | nil=>intro _ t ty h;simp[tlL] at h
 | cons p r ih=>
  obtain⟨a,u⟩:=p;rintro⟨h1,h2,h4,h3⟩ t ty h;rw[tlL] at h;cases hb:Nat.beq a t with
  | true=>rw[hb] at h;obtain rfl:=Option.some.inj h;obtain rfl:=eq_of_beq_eq_true hb;obtain⟨i,hi,hz⟩:=map_eq_some_iff.1 h1;simp only[Prod.mk.injEq] at hz;exact⟨⟨i,hi,hz.1,hz.2.1,le_of_ble_eq_true hz.2.2⟩,h2,fun ha=>by rw[ha] at h4;simpa using h4⟩
  | false=>rw[hb] at h;exact ih h3 h
section
variable {P:Program} {tab:Tab} {t:TypeId} {ty:Ty}
theorem TyOk.run_sizeOf (h:TyOk P tab t ty) (w:World):(sizeOf t).run P w=.ok ty.size w:=by
 obtain⟨i,hi,hs,_⟩:=h.info;simp[sizeOf,typeInfo,hi,hs]
theorem TyOk.run_zero (h:TyOk P tab t ty) (w:World):(zeroValue t).run P w=.ok (mkV ty (zeroCells ty)) w:=by
 obtain⟨i,hi,hs,hz,_⟩:=h.info;simp[zeroValue,typeInfo,hi,hz]
theorem TyOk.isAgg (h:TyOk P tab t ty) (w:World):(Go.isAgg t).run P w=.ok ty.agg w:=by
 have hd:=h.desc;unfold jv at hd;cases hu:P.underlying t with
 | none=>rw[hu] at hd;exact noConfusion hd
 | some d=>
  rw[hu] at hd;cases d<;>cases ty<;>first
   | exact noConfusion hd
   | (simp[Go.isAgg,underlying,hu,Ty.agg])
theorem TyOk.slice {e:Ty} (h:TyOk P tab t (.slice e)):∃ et,P.underlying t=some (.slice et)∧tl tab et=some e:=by
 have hd:=h.desc;unfold jv at hd;cases hu:P.underlying t with
 | none=>rw[hu] at hd;exact noConfusion hd
 | some d=>
  rw[hu] at hd;cases d with
  | slice et=>
   simp only at hd;cases ht:tl tab et with
   | none=>rw[ht] at hd;exact noConfusion hd
   | some c=>rw[ht] at hd;exact⟨et,rfl,by rw[Ty.beq_eq hd] at ht;exact ht⟩
  | _=>exact noConfusion hd
theorem TyOk.int {k:IntKind} (h:TyOk P tab t (.int k)):P.underlying t=some (.int k):=by
 have hd:=h.desc;unfold jv at hd;cases hu:P.underlying t with
 | none=>rw[hu] at hd;exact noConfusion hd
 | some d=>
  rw[hu] at hd;cases d with
  | int k'=>simp only at hd;rw[vY hd]
  | _=>exact noConfusion hd
theorem TyOk.u8 (h:TyOk P tab t .u8):P.underlying t=some (.int .u8):=by
 have hd:=h.desc;unfold jv at hd;cases hu:P.underlying t with
 | none=>rw[hu] at hd;exact noConfusion hd
 | some d=>
  rw[hu] at hd;cases d with
  | int k'=>simp only at hd;rw[vY hd]
  | _=>exact noConfusion hd
theorem TyOk.str (h:TyOk P tab t .str):P.underlying t=some .string:=by
 have hd:=h.desc;unfold jv at hd;cases hu:P.underlying t with
 | none=>rw[hu] at hd;exact noConfusion hd
 | some d=>rw[hu] at hd;cases d<;>first|rfl|exact noConfusion hd
theorem TyOk.bool (h:TyOk P tab t .bool):P.underlying t=some .bool:=by
 have hd:=h.desc;unfold jv at hd;cases hu:P.underlying t with
 | none=>rw[hu] at hd;exact noConfusion hd
 | some d=>rw[hu] at hd;cases d<;>first|rfl|exact noConfusion hd
def mr (et : TypeId) (z : Nat) (is : List Nat) : List Field := is.map fun i => ⟨"x", et, i * z, false, "", "", 0⟩
theorem QQ {et:TypeId} {e:Ty} (he:tl tab et=some e) (hz:Nat.beq e.size 0=false):∀ {n i:Nat},bY tab (mr et e.size (List.range' i n)) (dI e n) (i*e.size)=true
 | 0,i=>rfl
 | n+1,i=>by
  have:=QQ he hz (n:=n) (i:=i+1);simp only[mr,List.range'_succ,map_cons,dI,bY,Nat.beq_refl,he,Ty.beq_refl,cond,hz]
  rw [show i * e.size + e.size = (i + 1) * e.size from (Nat.succ_mul i e.size).symm, show decide ("x" = "_") = false from by decide]
  exact this
theorem TyOk.two (h:TyOk P tab t ty) (ha:ty.agg=true):(∃ fs,P.underlying t=some (.struct fs)∧bY tab fs.toList ty 0=true∧∀ et n,iW tab.arrs t=some (et,n)→P.underlying t=some (.array n et)→False)∨
  ∃ et e n,P.underlying t=some (.array n et)∧iW tab.arrs t=some (et,n)∧tl tab et=some e∧Nat.beq e.size 0=false∧ty=dI e n∧bY tab (mr et e.size (range n)) ty 0=true:=by
 have hd:=h.desc;unfold jv at hd;cases hu:P.underlying t with
 | none=>rw[hu] at hd;exact noConfusion hd
 | some d=>
  rw[hu] at hd;cases d<;>cases ty<;>first
   | exact noConfusion hd
   | exact noConfusion ha
   | exact .inl ⟨_,rfl,hd,fun et n _ h=>by cases h⟩
   | skip
  rename_i n et a b;obtain⟨h1,h2⟩:=az hd;obtain⟨h1,h3⟩:=az h1;unfold U0 at h1;split at h1
  ·rename_i q hq;obtain⟨h4,h5⟩:=az h1;obtain⟨qa,qb⟩:=q;obtain rfl:=eq_of_beq_eq_true h4;obtain rfl:=eq_of_beq_eq_true h5;split at h2
   ·rename_i c hc;obtain⟨h6,h7⟩:=az h2;obtain rfl:=Ty.beq_eq h6;have hz:Nat.beq c.size 0=false:=by cases hz:Nat.beq c.size 0 with|false=>rfl|true=>rw[hz] at h7;exact noConfusion h7
    have e:=Ty.beq_eq h3;have hk:=QQ hc hz (n:=qb) (i:=0);rw[Nat.zero_mul,←e,←List.range_eq_range'] at hk;exact .inr ⟨qa,c,qb,rfl,hq,hc,hz,e,hk⟩
   ·exact noConfusion h2
  ·exact noConfusion h1
theorem TyOk.struct (h:TyOk P tab t ty) (ha:ty.agg=true) (hn:iW tab.arrs t=none):∃ fs,P.underlying t=some (.struct fs)∧bY tab fs.toList ty 0=true:=by
 rcases h.two ha with⟨fs,h1,h2,_⟩|⟨et,e,n,_,h2,_⟩
 ·exact⟨fs,h1,h2⟩
 ·rw[hn] at h2;cases h2
end
theorem tN {tab:Tab}:∀ {fs:List Field} {ty:Ty} {off f n:Nat},bY tab fs ty off=true→fJ ty f=some n→
  ∃ fd ft, fs[f]? = some fd ∧ fd.offset = off + n ∧ tl tab fd.type = some ft ∧ dN ty f = some ft ∧ ft.size ≠ 0 ∧ fd.name ≠ "_" := by
 intro fs;induction fs with
 | nil=>
  intro ty off f n h hf;cases ty<;>first|exact noConfusion h|skip
  cases f<;>simp[fJ] at hf
 | cons fd fs ih=>
  intro ty off f n h hf;cases ty<;>first|exact noConfusion h|skip
  rename_i a b;simp only[bY] at h;obtain⟨h1,h2⟩:=az h;obtain⟨h3,h4⟩:=az h2;have h5:Nat.beq a.size 0=false:=by cases hz:Nat.beq a.size 0 with|false=>rfl|true=>rw[hz] at h4;exact noConfusion h4
  rw[h5] at h4
  have h6 : decide (fd.name = "_") = false := by cases hz : decide (fd.name = "_") with | false => rfl | true => simp only [cond, hz] at h4; exact noConfusion h4
  simp only[h6,cond] at h4;cases f with
  | zero=>
   simp only[fJ,Option.some.injEq] at hf;subst hf;cases ht:tl tab fd.type with
   | none=>rw[ht] at h3;exact noConfusion h3
   | some c=>rw[ht] at h3;have hc:=Ty.beq_eq h3;subst hc;exact⟨fd,_,rfl,eq_of_beq_eq_true h1,ht,rfl,fun e=>by rw[e] at h5;exact noConfusion h5,of_decide_eq_false h6⟩
  | succ f=>simp only[fJ] at hf;obtain⟨m,hm,hn⟩:=bind_eq_some_iff.1 hf;obtain rfl:=Option.some.inj hn;obtain⟨fd',ft,k1,k2,k3,k4,k5,k6⟩:=ih h4 hm;exact⟨fd',ft,by simpa using k1,by rw[k2];omega,k3,by simpa[dN] using k4,k5,k6⟩
structure TyW (P:Program) (t:TypeId) (ty:Ty):Prop where
 info:∃ i,P.info? t=some i∧i.size=ty.size∧i.zero=some (mkV ty (zeroCells ty))
 isAgg:∀ w:World,(Go.isAgg t).run P w=.ok ty.agg w
theorem TyOk.w {P:Program} {tab:Tab} {t:TypeId} {ty:Ty} (h:TyOk P tab t ty):TyW P t ty:=
 ⟨by obtain⟨i,h1,h2,h3,_⟩:=h.info;exact⟨i,h1,h2,h3⟩,h.isAgg⟩
theorem TyW.run_sizeOf {P:Program} {t:TypeId} {ty:Ty} (h:TyW P t ty) (w:World):(sizeOf t).run P w=.ok ty.size w:=by
 obtain⟨i,hi,hs,_⟩:=h.info;simp[sizeOf,typeInfo,hi,hs]
theorem TyW.run_zero {P:Program} {t:TypeId} {ty:Ty} (h:TyW P t ty) (w:World):(zeroValue t).run P w=.ok (mkV ty (zeroCells ty)) w:=by
 obtain⟨i,hi,hs,hz⟩:=h.info;simp[zeroValue,typeInfo,hi,hz]
theorem addr_add (b o n:Nat):(⟨b,o,none⟩:Addr).add n=⟨b,o+n,none⟩:=by unfold Addr.add;split<;>simp_all
theorem P9 {fl:Nat→Nat} {w:World} {b o:Nat} {cs:List Value} (h:seg (view fl w) b o cs):∀ j v,cs[j]? = some v→w.cell? ⟨b,o+j,none⟩=some v:=by
 intro j v e;have:=h j v e;unfold view at this;split at this
 ·exact this
 ·exact absurd this (by simp)
theorem jD {P:Program} {t:TypeId} {ty:Ty} (hT:TyW P t ty) {w:World} {b o:Nat} {cs:List Value} (hl:cs.length=ty.size)
  (hc:∀ j v,cs[j]? = some v→w.cell? ⟨b,o+j,none⟩=some v):(loadVar t ⟨b,o,none⟩).run P w=.ok (mkV ty cs) w:=by
 unfold loadVar;simp only[run_bind,hT.isAgg,andThen_ok];cases ha:ty.agg with
 | true=>simp only[if_true,run_bind,hT.run_sizeOf,andThen_ok];have:=run_loadCells_list (P:=P) w ⟨b,o,none⟩ cs (fun j v e=>by rw[addr_add];exact hc j v e);rw[hl] at this;rw[this];simp[mkV,ha]
 | false=>
  rw[oq ha] at hl
  match cs,hl with
  | [c],_=>have:=hc 0 c (by simp);simp only[Nat.add_zero] at this;simp[this,mkV,ha]
theorem Blk.cell {w:World} {b:Nat} {cs:List Value} (h:Blk w b cs) (o:Nat):w.cell? ⟨b,o,none⟩=cs[o]?:=by
 obtain⟨el,fz,hb,_⟩:=h;simp[World.cell?,hb]
theorem Blk.frozen {w:World} {b:Nat} {cs:List Value} (h:Blk w b cs) (o:Nat) (ho:o<cs.length):w.frozen? ⟨b,o,none⟩=false:=by
 obtain⟨el,fz,hb,hf⟩:=h;have:=hf.out o ho;simp only[World.frozen?,hb];simpa using this
theorem Blk.lt {w:World} {b:Nat} {cs:List Value} (h:Blk w b cs):b<w.heap.size:=by
 obtain⟨el,fz,hb,_⟩:=h;exact(Array.getElem?_eq_some_iff.1 hb).1
theorem Blk.freeze {w:World} {b:Nat} {cs:List Value} (h:Blk w b cs) (k:Nat) (ds:List Value) (hk:Blk w k ds):Blk (w.freeze ⟨b,cs.length,none⟩ 1) k ds:=by
 obtain⟨el,fz,hb,hf⟩:=h;obtain⟨el2,fz2,hb2,hf2⟩:=hk;by_cases e:b=k
 ·subst e;rw[hb] at hb2;cases hb2;obtain⟨lo,hi⟩:=fz;refine⟨el,if lo == hi then(cs.length,cs.length+1) else(min lo cs.length,max hi (cs.length+1)),by simp[World.freeze,Array.getElem?_modify,hb],?_⟩;unfold xA at *;by_cases hl:lo=hi
  ·simp[hl]
  ·rcases hf with hf|hf
   ·exact absurd hf hl
   ·have hl':(lo == hi)=false:=by simpa using hl
    rw[hl'];right;exact Nat.le_min.2 ⟨hf,le_refl _⟩
 ·exact⟨el2,fz2,by simp[World.freeze,Array.getElem?_modify,e,hb2],hf2⟩
theorem Blk.freeze_cell {w:World} {b n:Nat} (k o:Nat):(w.freeze ⟨b,n,none⟩ 1).cell? ⟨k,o,none⟩=w.cell? ⟨k,o,none⟩:=by
 unfold World.freeze;rw[if_neg (by decide)];simp only[World.cell?,Array.getElem?_modify];by_cases e:b=k
 ·subst e;simp only[if_true];cases w.heap[b]? with
  | none=>rfl
  | some x=>cases x<;>rfl
 ·simp only[e,if_false]
theorem mJ (b:Nat):∀ (vs:List Value) (o:Nat) (w:World) (k:Nat),k≠b→(w.setCells b o vs).heap[k]? = w.heap[k]?
 | [],_,_,_,_=>rfl
 | v::r,o,w,k,h=>by rw[World.setCells,mJ b r _ _ k h];exact RowKit.Below.heap_setCell w _ _ k (by simpa using h)
theorem size_setCells (b:Nat):∀ (vs:List Value) (o:Nat) (w:World),(w.setCells b o vs).heap.size=w.heap.size
 | [],_,_=>rfl
 | v::r,o,w=>by rw[World.setCells,size_setCells b r];exact World.size_setCell _ _ _
theorem lD (b:Nat):∀ (vs:List Value) (o:Nat) (w:World),(w.setCells b o vs).os=w.os∧(w.setCells b o vs).tape=w.tape∧(w.setCells b o vs).output=w.output∧(w.setCells b o vs).drawn=w.drawn
 | [],_,_=>⟨rfl,rfl,rfl,rfl⟩
 | v::r,o,w=>by rw[World.setCells];exact lD b r _ _
theorem Blk.setCells {b:Nat}:∀ {vs:List Value} {o:Nat} {w:World} {c1 c c2:List Value},Blk w b (c1++(c++c2))→c1.length=o→c.length=vs.length→
  Blk (w.setCells b o vs) b (c1++(vs++c2))
 | [],o,w,c1,c,c2,h,h1,h2=>by have:c=[]:=List.eq_nil_of_length_eq_zero h2;subst this;exact h
 | v::r,o,w,c1,c,c2,h,h1,h2=>by
  match c,h2 with
  | u::c',h2=>
   rw[World.setCells];have hb:Blk (w.setCell ⟨b,o,none⟩ v) b ((c1++[v])++(c'++c2)):=by
    obtain⟨el,fz,hb,hf⟩:=h;refine⟨el,fz,?_,?_⟩
    ·simp only[World.setCell,Array.getElem?_modify,if_true,hb,map_some,Option.isSome_none,Bool.false_eq_true,if_false];congr 2;apply Array.ext';simp only[Array.toList_setIfInBounds];subst h1;simp
    ·have:((c1++[v])++(c'++c2)).length=(c1++(u::c'++c2)).length:=by simp
     rw[this];exact hf
   have:=Blk.setCells (vs:=r) (o:=o+1) hb (by simp[h1]) (by simpa using h2);simpa using this
theorem tK {P:Program} {t:TypeId} {ty:Ty} (hT:TyW P t ty) {w:World} {b:Nat} {c1 c c2 cs:List Value} {v:Value} (hv:v.cells=cs.toArray) (hl:cs.length=ty.size)
  (ho:∀ x∈cs,oneC x=true) (hb:Blk w b (c1++(c++c2))) (hc:c.length=ty.size) :
  (storeVar t ⟨b,c1.length,none⟩ v).run P w=.ok () (w.setCells b c1.length cs):=by
 unfold storeVar;simp only[run_bind,hT.run_sizeOf,andThen_ok,hv,List.size_toArray,hl,ne_eq,not_true_eq_false,if_false];have:=run_storeCells_cells (P:=P) b c1.length cs 0 w (fun j hj=>by
   rw[hb.cell];have:c1.length+0+j<(c1++(c++c2)).length:=by simp;omega
   rw[getElem?_eq_getElem this];rfl) (fun j hj=>hb.frozen _ (by simp;omega)) (fun x hx=>by
   have:=ho x hx;cases x<;>first|rfl|(simp[oneC] at this))
 simpa using this
def jY (H:HLoc→SV) (l:HLoc) (p:Bool) (e:Ty) (x:List e.den):Prop:=H l=.row p e x∨(p=false∧∃ n,H l=.deep e x n none)
theorem jY.ne_bot {H:HLoc→SV} {l:HLoc} {p:Bool} {e:Ty} {x:List e.den} (h:jY H l p e x):H l≠.bot:=by
 rcases h with h|⟨_,n,h⟩<;>rw[h]<;>exact SV.noConfusion
theorem jY.uniq {H:HLoc→SV} {l:HLoc} {p p':Bool} {e e':Ty} {x:List e.den} {x':List e'.den} (h:jY H l p e x) (h':jY H l p' e' x'):(⟨e,x⟩:Σ e:Ty,List e.den)=⟨e',x'⟩:=by
 rcases h with h|⟨_,n,h⟩<;>rcases h' with h'|⟨_,n',h'⟩<;>rw[h] at h'<;>cases h'<;>rfl
def bC (H:HLoc→SV):HW→Prop
 | []=>True
 | (l,v)::r=>(∃ rr p e x,l=.row rr∧v=.row true e x∧jY H l p e x)∧bC H r
theorem bC.append {H:HLoc→SV}:∀ {a b:HW},bC H (a++b)↔bC H a∧bC H b
 | [],b=>by simp[bC]
 | (l,v)::r,b=>by simp only[List.cons_append,bC,bC.append (a:=r)];exact and_assoc.symm
theorem bC.upd {H:HLoc→SV} {l:HLoc} {e:Ty} {p:Bool} {x:List e.den} (h:jY H l p e x):∀ {r:HW},bC H r→bC (ak H l (.row true e x)) r
 | [],_=>trivial
 | (l',v')::r,⟨⟨rr,p',e',x',h1,h2,h3⟩,hr⟩=>by
  refine⟨?_,bC.upd h hr⟩;by_cases he:l'=l
  ·subst he;cases h.uniq h3;exact⟨rr,true,_,_,h1,h2,.inl (aK _ _ _)⟩
  ·exact⟨rr,p',e',x',h1,h2,h3.imp (fun h=>by rw[ay _ _ he];exact h) fun⟨h,n,hn⟩=>⟨h,n,by rw[ay _ _ he];exact hn⟩⟩
theorem BZ (H:HLoc→SV) (l:HLoc) (u v:SV):ak (ak H l u) l v=ak H l v:=by
 funext m;by_cases e:m=l
 ·subst e;rw[aK,aK]
 ·rw[ay _ _ e,ay _ _ e,ay _ _ e]
theorem Iq (H:HLoc→SV) {l m:HLoc} (u v:SV) (h:l≠m):ak (ak H l u) m v=ak (ak H m v) l u:=by
 funext k;by_cases e:k=m
 ·subst e;rw[aK,ay _ _ (fun e=>h e.symm),aK]
 ·by_cases e':k=l
  ·subst e';rw[ay _ _ e,aK,aK]
  ·rw[ay _ _ e,ay _ _ e',ay _ _ e',ay _ _ e]
theorem ZQ (H:HLoc→SV) {l:HLoc} {v:SV} (h:H l=v):ak H l v=H:=by
 funext k;by_cases e:k=l
 ·subst e;rw[aK,h]
 ·rw[ay _ _ e]
theorem gX (H:HLoc→SV):∀ (a b:HW),puts H (a++b)=puts (puts H a) b
 | [],b=>rfl
 | (l,v)::r,b=>by simp only[List.cons_append,puts];exact gX _ r b
theorem qE.vrep {g:Gh} {w:World} {r:Nat} {e:Ty} {l:List e.den} (h:qE g w r true e l):bM (view g.fl w) (.slice e) (g.hd r) l:=by
 rcases h with⟨h1,h2⟩|⟨b,cap,cs,h1,h2,h3,h4,h5,h6,h7⟩
 ·subst h2;exact⟨[.slice none 0 0],⟨none,0,0,rfl,rfl,le_refl _,fun _=>rfl,fun i x hx=>by simp at hx⟩,by rw[h1];rfl⟩
 ·refine⟨[g.hd r],⟨some ⟨b,0,none⟩,l.length,cap,by rw[h1],rfl,h2,fun e=>by simp at e,fun i x hx=> ?_⟩,rfl⟩;obtain⟨c,hc1,hc2⟩:=h7 i x hx;refine⟨b,0,c,rfl,fun j v hj=> ?_,hc2⟩;have hlen:c.length=e.size:=hc2.length;have hj':j<e.size:=by rw[←hlen];exact(List.getElem?_eq_some_iff.1 hj).1
  have hi:i<l.length:=(List.getElem?_eq_some_iff.1 hx).1;have hm:(i+1)*e.size≤l.length*e.size:=mul_le_mul_right _ hi;rw[add_mul,one_mul] at hm;unfold view;rw[h6];simp only[cond,zero_add];rw[if_pos (by omega),h3.cell];exact hc1 j v hj
section
variable {C:Ctx} {g:Gh} {S:Nat→SV} {H:HLoc→SV} {a:Act} {w:World}
def TA (H:HLoc→SV):Own→Prop
 | .site n=>∀ t,H (.site n)≠.obj t
 | .row r=>¬ kP H r
theorem zbV {H:HLoc→SV} {r:Nat} {v:SV} (h1:∀ p e l,v≠.row p e l) (h2:∀ e l n h,v≠.deep e l n h):¬ kP (ak H (.row r) v) r:=by
 rintro(⟨p,e,l,h⟩|⟨e,l,n,h,h'⟩)
 ·rw[aK] at h;exact h1 _ _ _ h
 ·rw[aK] at h';exact h2 _ _ _ _ h'
theorem lF {H:HLoc→SV} {r:Nat}:¬ kP (ak H (.row r) .und) r:=zbV (fun _ _ _=>SV.noConfusion) fun _ _ _ _=>SV.noConfusion
theorem SimG.turn (hs:SimG C g S H a w) {b:Nat} {o o':Own} {f:Nat} {w':World} (hb:g.own b=some o) (hd:TA H o)
  (hblk:∀ k,k≠b→w'.heap[k]? = w.heap[k]?) (hsz:w'.heap.size=w.heap.size) (hrest:w'.os=w.os∧w'.tape=w.tape∧w'.output=w.output)
  (hf:∀ p v,p<g.fl b→w.cell? ⟨b,p,none⟩=some v→p<f∧w'.cell? ⟨b,p,none⟩=some v) :
  SimG C { g with fl:=aA g.fl b f,own:=aA g.own b (some o') } S H a w':=by
 have hbb:=hs.own b (by rw[hb];simp);refine hs.grow (GAgree.same rfl rfl rfl) ?_ ?_ ?_ ?_ ?_ ?_
 ·intro k p v hv;obtain⟨hlt,hv⟩:=Ip.1 hv;refine Ip.2 ?_;show p<aA g.fl b f k∧_;by_cases hk:k=b
  ·subst hk;rw[bJ];exact hf p v hlt hv
  ·rw[bn _ _ hk];exact⟨hlt,(cell?_of_block (a:=⟨k,p,none⟩) (hblk k hk)).trans hv⟩
 ·intro n t hn ho;have hne:g.st n≠b:=fun e=>by
   rw[e,hb] at ho;cases ho;exact hd t hn
  exact⟨hblk _ hne,by dsimp only;rw[bn _ _ hne];exact ho,bn _ _ hne⟩
 ·intro r k hr ho;have hne:k≠b:=fun e'=>by
   subst e';rw[hb] at ho;cases ho;exact hd hr
  exact⟨hblk _ hne,by dsimp only;rw[bn _ _ hne];exact ho,bn _ _ hne⟩
 ·intro k hk;by_cases e:k=b
  ·subst e;rw[hsz];exact hbb
  ·dsimp only at hk;rw[bn _ _ e] at hk;rw[hsz];exact hs.own k hk
 ·intro k h1 h2;have:k≠b:=fun e=>by
   subst e;rcases hbb.2 with h|h
   ·omega
   ·exact h2 h
  dsimp only;rw[bn _ _ this];exact hs.old k h1 h2
 ·refine⟨hrest.1.trans hs.ext.os,hrest.2.1.trans hs.ext.tape,hrest.2.2.trans hs.ext.output,by rw[hsz];exact hs.ext.size,fun k h1 h2=> ?_⟩;have:k≠b:=fun e=>by
   subst e;rcases hbb.2 with h|h
   ·omega
   ·exact h2 h
  rw[hblk k this];exact hs.ext.block k h1 h2
theorem SimG.turnAll (hs:SimG C g S H a w) {o:Own} {fl':Nat→Nat} {own':Nat→Option Own} {w':World} (hd:TA H o)
  (hsame:∀ b,g.own b≠some o→b<w.heap.size→w'.heap[b]? = w.heap[b]?) (hown:∀ b,g.own b≠some o→own' b=g.own b) (hfl:∀ b,g.own b≠some o→fl' b=g.fl b) (hsz:w'.heap.size=w.heap.size) (hrest:w'.os=w.os∧w'.tape=w.tape∧w'.output=w.output)
  (hf:∀ b p v,g.own b=some o→p<g.fl b→w.cell? ⟨b,p,none⟩=some v→p<fl' b∧w'.cell? ⟨b,p,none⟩=some v) :
  SimG C { g with fl:=fl',own:=own' } S H a w':=by
 have hlt:∀ b,g.own b≠none→b<w.heap.size:=fun b hb=>(hs.own b hb).1;refine hs.grow (GAgree.same rfl rfl rfl) ?_ ?_ ?_ ?_ ?_ ?_
 ·intro k p v hv;obtain⟨hp,hv⟩:=Ip.1 hv;have hk:k<w.heap.size:=World.block_lt_of_cell? (a:=⟨k,p,none⟩) w hv;refine Ip.2 ?_;show p<fl' k∧_;by_cases hb:g.own k=some o
  ·exact hf k p v hb hp hv
  ·rw[hfl k hb];exact⟨hp,(cell?_of_block (a:=⟨k,p,none⟩) (hsame k hb hk)).trans hv⟩
 ·intro n t hn ho;have hne:g.own (g.st n)≠some o:=fun e=>by
   rw[e] at ho;cases ho;exact hd t hn
  exact⟨hsame _ hne (hlt _ (by rw[ho];simp)),(hown _ hne).trans ho,hfl _ hne⟩
 ·intro r k hr ho;have hne:g.own k≠some o:=fun e=>by
   rw[e] at ho;cases ho;exact hd hr
  exact⟨hsame _ hne (hlt _ (by rw[ho];simp)),(hown _ hne).trans ho,hfl _ hne⟩
 ·intro k hk;rw[hsz];by_cases hb:g.own k=some o
  ·exact hs.own k (by rw[hb];simp)
  ·dsimp only at hk;rw[hown k hb] at hk;exact hs.own k hk
 ·intro k h1 h2;have hb:g.own k≠some o:=fun e=>by
   rcases(hs.own k (by rw[e];simp)).2 with h|h
   ·omega
   ·exact h2 h
  dsimp only;rw[hfl k hb];exact hs.old k h1 h2
 ·refine⟨hrest.1.trans hs.ext.os,hrest.2.1.trans hs.ext.tape,hrest.2.2.trans hs.ext.output,by rw[hsz];exact hs.ext.size,fun k h1 h2=> ?_⟩;have hb:g.own k≠some o:=fun e=>by
   rcases(hs.own k (by rw[e];simp)).2 with h|h
   ·omega
   ·exact h2 h
  rw[hsame k hb (lt_of_lt_of_le h1 hs.ext.size)];exact hs.ext.block k h1 h2
theorem SimG.newBlk (hs:SimG C g S H a w) (c:Array Value) (el:TypeId) (fz:Nat×Nat) (f:Nat) (o:Own) :
  SimG C { g with fl:=aA g.fl w.heap.size f,own:=aA g.own w.heap.size (some o) } S H a (w.alloc (.cells c el fz)):=by
 have hheap:∀ k,k<w.heap.size→(w.alloc (.cells c el fz)).heap[k]? = w.heap[k]?:=fun k hk=>RowKit.Below.heap_alloc w _ k hk;have hne:∀ k,g.own k≠none→k<w.heap.size:=fun k hk=>(hs.own k hk).1;refine hs.grow (GAgree.same rfl rfl rfl) ?_ ?_ ?_ ?_ ?_ ?_
 ·intro k p v hv;obtain⟨hlt,hv⟩:=Ip.1 hv;have hk:k<w.heap.size:=World.block_lt_of_cell? (a:=⟨k,p,none⟩) w hv;refine Ip.2 ?_;show p<aA g.fl w.heap.size f k∧_;rw[bn _ _ (show k≠w.heap.size by omega)];exact⟨hlt,(cell?_of_block (a:=⟨k,p,none⟩) (hheap k hk)).trans hv⟩
 ·intro n t _ ho;have:=hne (g.st n) (by rw[ho];simp);have hx:g.st n≠w.heap.size:=by omega
  exact⟨hheap _ this,by dsimp only;rw[bn _ _ hx];exact ho,bn _ _ hx⟩
 ·intro r k _ ho;have:=hne k (by rw[ho];simp);have hx:k≠w.heap.size:=by omega
  exact⟨hheap _ this,by dsimp only;rw[bn _ _ hx];exact ho,bn _ _ hx⟩
 ·intro k hk;rw[size_alloc];by_cases e:k=w.heap.size
  ·subst e;exact⟨by omega,.inl hs.ext.size⟩
  ·dsimp only at hk;rw[bn _ _ e] at hk;have:=hs.own k hk;exact⟨by omega,this.2⟩
 ·intro k h1 h2;have:=hs.ext.size;dsimp only;rw[bn _ _ (show k≠w.heap.size by omega)];exact hs.old k h1 h2
 ·refine⟨hs.ext.os,hs.ext.tape,hs.ext.output,by rw[size_alloc];have:=hs.ext.size;omega,fun k h1 h2=> ?_⟩;have:=hs.ext.size;rw[hheap k (by omega)];exact hs.ext.block k h1 h2
theorem Blk.new (w:World) (cs:List Value) (el:TypeId) (fz:Nat×Nat) (hf:xA fz cs.length):Blk (w.alloc (.cells cs.toArray el fz)) w.heap.size cs:=
 ⟨el,fz,by show(w.heap.push _)[w.heap.size]? = _;simp,hf⟩
def cellsOf (w:World) (b:Nat):Nat:=
 match w.heap[b]? with
 | some (.cells c _ _)=>c.size
 | _=>0
theorem Blk.cellsOf {w:World} {b:Nat} {cs:List Value} (h:Blk w b cs):cellsOf w b=cs.length:=by
 obtain⟨el,fz,hb,_⟩:=h;simp[Sx.cellsOf,hb]
theorem gI.vrep {fl fl':Nat→Nat} {own:Nat→Option Own} {w:World} {v:Value} {o:Own} {e:Ty} {l:List e.den} {bo:Option Nat} (h:gI fl own w v o e l bo) (hiv:(view fl w).le (view fl' w)) (hb:∀ b,bo=some b→fl' b=cellsOf w b):bM (view fl' w) (.slice e) v l:=by
 rcases h with⟨h1,h2,_⟩|⟨b,cap,cs,h1,h2,h3,h4,h5,h6,h7,h8⟩
 ·subst h2;exact⟨[.slice none 0 0],⟨none,0,0,rfl,rfl,le_refl _,fun _=>rfl,fun i x hx=>by simp at hx⟩,by rw[h1];rfl⟩
 ·refine⟨[v],⟨some ⟨b,0,none⟩,l.length,cap,by rw[h1],rfl,h2,fun e=>by simp at e,fun i x hx=> ?_⟩,rfl⟩;obtain⟨c,hc1,hc2⟩:=h7 i x hx;refine⟨b,0,c,rfl,fun j v hj=> ?_,hc2.mono hiv⟩;have hc:=hc1 j v hj;rw[zero_add];refine Ip.2 ⟨?_,by rw[h3.cell];exact hc⟩;rw[hb b h8,h3.cellsOf];exact(List.getElem?_eq_some_iff.1 hc).1
theorem dQ.crep {iv:IV} {Q:(u:Ty)→Value→List u.den→Prop} (hq:∀ u v y,Q u v y→bM iv (.slice u) v y):∀ {t:Ty} {cs:List Value} {x:t.den},dQ iv Q t cs x→aJ iv t cs x:=by
 intro t;induction t with
 | slice e=>rintro cs x ⟨v,rfl,h2,h3⟩;obtain⟨cs',hc,rfl⟩:=hq _ _ _ h3;rw[←ja (t:=.slice e) rfl hc.length];exact hc
 | pair a b ha hb=>rintro cs x ⟨c1,c2,h1,h2,h3⟩;exact⟨c1,c2,h1,ha h2,hb h3⟩
 | _=>intro cs x h;exact h
theorem aJ.hrep {iv:IV} {Q:(u:Ty)→Value→List u.den→Prop} (hq:∀ u v y,bM iv (.slice u) v y→Q u v y):∀ {t:Ty} {cs:List Value} {x:t.den},aJ iv t cs x→dQ iv Q t cs x:=by
 intro t;induction t with
 | slice e=>intro cs x h;refine⟨mkV (.slice e) cs,ja rfl h.length,?_,hq _ _ _ ⟨cs,h,rfl⟩⟩;have:=h.ones (mkV (.slice e) cs) (by rw[ja (t:=.slice e) rfl h.length];simp[mkV,Ty.agg]);exact this
 | pair a b ha hb=>rintro cs x ⟨c1,c2,h1,h2,h3⟩;exact⟨c1,c2,h1,ha h2,hb h3⟩
 | _=>intro cs x h;exact h
theorem fO.tell {fl:Nat→Nat} {own:Nat→Option Own} {w:World} {v:Value} {o:Own} {e:Ty} {l:List e.den} {n:Nat} (h:fO fl own w v o e l n none) :
  ∃ fl',(∀ b,own b≠some o→fl' b=fl b)∧(∀ b,fl b≤fl' b)∧iq fl' own w v o true e l:=by
 obtain⟨h1,h2,h⟩:=h;rcases h with h|⟨b,cap,cs,bs,k1,k2,k3,k4,k5,k6,k7,k8,k9⟩
 ·exact⟨fl,fun _ _=>rfl,fun _=>le_refl _,.inl h⟩
 ·classical
  have hle:∀ c,fl c≤if c=b then l.length*e.size else if ∃ i,bs i=some c then cellsOf w c else fl c:=fun c=>by
   by_cases hcb:c=b
   ·subst hcb;rw[k6];exact zero_le _
   ·rw[if_neg hcb];by_cases hi:∃ i,bs i=some c
    ·obtain⟨i,hi'⟩:=hi;rw[(k7 i c hi').2.2];exact zero_le _
    ·rw[if_neg hi];exact le_refl _
  have hiv:(view fl w).le (view (fun c=>if c=b then l.length*e.size else if ∃ i,bs i=some c then cellsOf w c else fl c) w):=by intro c p v hv;obtain⟨q1,q2⟩:=Ip.1 hv;exact Ip.2 ⟨lt_of_lt_of_le q1 (hle c),q2⟩
  refine⟨fun c=>if c=b then l.length*e.size else if ∃ i,bs i=some c then cellsOf w c else fl c,fun c hc=> ?_,hle,.inr ⟨b,cap,cs,k1,k2,k3,k4,k5,if_pos rfl,fun i x hx=> ?_⟩⟩
  ·have hcb:c≠b:=fun(e:c=b)=>hc (by rw[e];exact k5);have hi:¬ ∃ i,bs i=some c:=fun⟨i,hi⟩=>hc (k7 i c hi).2.1;simp only[if_neg hcb,if_neg hi]
  ·obtain⟨c,c1,c2⟩:=k9 i x hx;refine⟨c,c1,dQ.crep (fun u v y hq=> ?_) (c2.mono hiv fun _ _ _ hq=>hq)⟩;rcases hq with⟨hq,_⟩|⟨_,_,hq⟩|⟨_,_,hq,_⟩
   ·exact absurd hq (by simp)
   ·refine hq.vrep hiv fun b' hb'=> ?_;have hi:∃ i,bs i=some b':=⟨i,hb'⟩
    simp only[if_neg (k7 i b' hb').1,if_pos hi]
   ·exact hq.mono hiv
theorem SimG.pub1O (hs:SimG C g S H a w) {r:Nat} {p:Bool} {e:Ty} {l:List e.den} (hr':jY H (.row r) p e l) :
  ∃ fl,SimG C { g with fl:=fl } S (ak H (.row r) (.row true e l)) a w∧(view g.fl w).le (view fl w):=by
 rcases hr' with hr|⟨_,n,hr⟩
 case inr=>
  obtain⟨fl,q1,q2,q3⟩:=(hs.deeps r e l n none hr).tell;have hd:=hs.drop (l:=.row r) (.inr ⟨r,rfl⟩);have ht:=hd.turnAll (o:=.row r) (fl':=fl) (own':=g.own) (w':=w) lF (fun _ _ _=>rfl) (fun _ _=>rfl) q1 rfl ⟨rfl,rfl,rfl⟩ fun b p v _ hp hv=>⟨lt_of_lt_of_le hp (q2 b),hv⟩
  have:=ht.setRow (r:=r) (pub:=true) (e:=e) (l:=l) q3;rw[BZ] at this;exact⟨fl,this,fun c p v hv=>Ip.2 ⟨lt_of_lt_of_le (Ip.1 hv).1 (q2 c),(Ip.1 hv).2⟩⟩
 rcases hs.rows r p e l hr with⟨h1,h2⟩|⟨b,cap,cs,h1,h2,h3,h4,h5,h6,h7⟩
 ·exact⟨g.fl,hs.setRow (.inl ⟨h1,h2⟩),IV.le.refl _⟩
 ·have hd:=hs.drop (l:=.row r) (.inr ⟨r,rfl⟩);have ht:=hd.turn (b:=b) (o:=.row r) (o':=.row r) (f:=l.length*e.size) (w':=w) h5 lF
   (fun _ _=>rfl) rfl ⟨rfl,rfl,rfl⟩ (fun q v hq hv=>⟨by rw[h6] at hq;cases p<;>simp at hq;exact hq,hv⟩)
  have hiv:(view g.fl w).le (view (aA g.fl b (l.length*e.size)) w):=by
   intro k q v hv;obtain⟨hlt,hv⟩:=Ip.1 hv;refine Ip.2 ⟨?_,hv⟩;by_cases hk:k=b
   ·subst hk;rw[bJ];rw[h6] at hlt;cases p<;>simp at hlt;exact hlt
   ·rw[bn _ _ hk];exact hlt
  have ho:aA g.own b (some (.row r))=g.own:=by
   funext k;by_cases hk:k=b
   ·subst hk;rw[bJ,h5]
   ·rw[bn _ _ hk]
  refine⟨aA g.fl b (l.length*e.size),?_,hiv⟩;have:=ht.setRow (r:=r) (pub:=true) (e:=e) (l:=l) (.inr ⟨b,cap,cs,h1,h2,h3,h4,by simp,by simp,h7.mono hiv⟩);rw[BZ,ho] at this;exact this
theorem SimG.pub1 (hs:SimG C g S H a w) {r:Nat} {p:Bool} {e:Ty} {l:List e.den} (hr:jY H (.row r) p e l) :
  ∃ fl own,SimG C { g with fl:=fl,own:=own } S (ak H (.row r) (.row true e l)) a w∧(view g.fl w).le (view fl w):=
 let ⟨fl,h⟩:=hs.pub1O hr
 ⟨fl,g.own,h⟩
theorem SimG.pubs:∀ {hw:HW} {g:Gh} {H:HLoc→SV},SimG C g S H a w→bC H hw→
  ∃ fl own,SimG C { g with fl:=fl,own:=own } S (puts H hw) a w∧(view g.fl w).le (view fl w)
 | [],g,H,hs,_=>⟨g.fl,g.own,hs,IV.le.refl _⟩
 | (l,v)::r,g,H,hs,⟨⟨rr,p,e,x,h1,h2,h3⟩,hr⟩=>by subst h1 h2;obtain⟨fl,own,k1,k2⟩:=hs.pub1 h3;obtain⟨fl',own',k3,k4⟩:=SimG.pubs k1 (bC.upd h3 hr);exact⟨fl',own',k3,k2.trans k4⟩
theorem SimG.pubsO:∀ {hw:HW} {g:Gh} {H:HLoc→SV},SimG C g S H a w→bC H hw→∃ fl,SimG C { g with fl:=fl } S (puts H hw) a w∧(view g.fl w).le (view fl w)
 | [],g,H,hs,_=>⟨g.fl,hs,IV.le.refl _⟩
 | (l,v)::r,g,H,hs,⟨⟨rr,p,e,x,h1,h2,h3⟩,hr⟩=>by subst h1 h2;obtain⟨fl,k1,k2⟩:=hs.pub1O h3;obtain⟨fl',k3,k4⟩:=SimG.pubsO k1 (bC.upd h3 hr);exact⟨fl',k3,k2.trans k4⟩
def l9 (H:HLoc→SV) (hw:HW) (g:Gh) (iv:IV):Prop:=
 ∀ r e l,(H (.row r)=.row true e l∨(HLoc.row r,SV.row true e l)∈hw)→bM iv (.slice e) (g.hd r) l
theorem l9.sub {H:HLoc→SV} {hw hw':HW} {g:Gh} {iv:IV} (h:l9 H hw' g iv) (hsub:∀ x∈hw,x∈hw'):l9 H hw g iv:=
 fun r e l hx=>h r e l (hx.imp id (hsub _))
theorem vM:∀ {hw:HW} {H:HLoc→SV},bC H hw→∀ {r:Nat} {e:Ty} {l:List e.den},(H (.row r)=.row true e l∨(HLoc.row r,SV.row true e l)∈hw)→puts H hw (.row r)=.row true e l
 | [],H,_,r,e,l,h=>h.resolve_right (by simp)
 | (k,v)::rest,H,⟨⟨rr,p,e',x,h1,h2,h3⟩,hr⟩,r,e,l,h=>by
  subst h1 h2;simp only[puts];apply vM (bC.upd h3 hr);by_cases er:r=rr
  ·subst er;left;rw[aK];rcases h with h|h
   ·cases h3.uniq (.inl h:jY H (.row r) true e l);rfl
   ·rcases mem_cons.1 h with h|h
    ·cases h;rfl
    ·
     have:∀ {rest:HW},bC H rest→(HLoc.row r,SV.row true e l)∈rest→∃ p',jY H (.row r) p' e l:=by
      intro rest;induction rest with
      | nil=>intro _ hm;simp at hm
      | cons y ys ih=>
       rintro⟨⟨r1,p1,e1,x1,q1,q2,q3⟩,hys⟩ hm;rcases mem_cons.1 hm with hm|hm
       ·subst hm;simp only at q1 q2 q3;cases q2;exact⟨p1,q3⟩
       ·exact ih hys hm
     obtain⟨p',hp'⟩:=this hr h;cases h3.uniq hp';rfl
  ·rcases h with h|h
   ·left;rw[ay _ _ (by simpa using er)];exact h
   ·right;rcases mem_cons.1 h with h|h
    ·cases h;exact absurd rfl er
    ·exact h
theorem SimG.rowsRd {hw:HW} {g':Gh} (hs:SimG C g' S (puts H hw) a w) (hp:bC H hw):l9 H hw g' (view g'.fl w):=
 fun r e l h=>(hs.rows r true e l (vM hp h)).vrep
end
theorem aS {α:Type} {H:HLoc→SV} {o:Option α} {fp fp':List HLoc} {x:α} (h:(Rd.ofO o).run H fp=some (x,fp')):o=some x∧fp'=fp:=by
 cases o with
 | none=>exact absurd h (by simp[Rd.ofO,Rd.run])
 | some y=>simp only[Rd.ofO,Rd.run,Option.some.injEq,Prod.mk.injEq] at h;exact⟨by rw[h.1],h.2.symm⟩
theorem yO {α β:Type} {H:HLoc→SV}:∀ {m:Rd α} {f:α→Rd β} {fp:List HLoc},(m.bind f).run H fp=(m.run H fp).bind fun p=>(f p.1).run H p.2:=by
 intro m f;induction m with
 | ret a=>intro fp;rfl
 | fail=>intro fp;rfl
 | get l k ih=>intro fp;exact ih _
 | br b x y hx hy=>intro fp;cases b<;>simp[Rd.bind,Rd.run,hx,hy]
 | opt o k ih=>intro fp;cases o<;>simp[Rd.bind,Rd.run,ih]
theorem ah {α β:Type} {H:HLoc→SV} {m:Rd α} {f:α→Rd β} {fp fp':List HLoc} {y:β} (h:(m.bind f).run H fp=some (y,fp')) :
  ∃ x fp1,m.run H fp=some (x,fp1)∧(f x).run H fp1=some (y,fp'):=by
 rw[yO] at h;obtain⟨⟨x,fp1⟩,h1,h2⟩:=bind_eq_some_iff.1 h;exact⟨x,fp1,h1,h2⟩
theorem af {α:Type} {H:HLoc→SV} {x y:α} {fp fp':List HLoc} (h:(Rd.ret x).run H fp=some (y,fp')):y=x∧fp'=fp:=by
 simp only[Rd.run,Option.some.injEq,Prod.mk.injEq] at h;exact⟨h.1.symm,h.2.symm⟩
theorem bP {α β:Type} {H:HLoc→SV} {o:Option β} {k:β→Rd α} {fp fp':List HLoc} {y:α} (h:(Rd.opt o k).run H fp=some (y,fp')) :
  ∃ b,o=some b∧(k b).run H fp=some (y,fp'):=by
 simp only[Rd.run] at h;exact bind_eq_some_iff.1 h
theorem ae {α:Type} {H:HLoc→SV} {fp fp':List HLoc} {y:α} (h:(Rd.fail:Rd α).run H fp=some (y,fp')):False:=by simp[Rd.run] at h
theorem vK {H:HLoc→SV} {t:Ty} {v:SV} {fp fp':List HLoc} {x:t.den} {hw:HW} (h:(gZ t v).run H fp=some ((x,hw),fp')) :
  bC H hw∧∀ g iv val,l9 H hw g iv→SR g iv v val→bM iv t val x:=by
 cases v with
 | pv t' y=>simp only[gZ] at h;obtain⟨z,fp1,h1,h2⟩:=ah h;obtain⟨h1,_⟩:=aS h1;obtain⟨h2,_⟩:=af h2;cases h2;exact⟨trivial,fun g iv val _ hv=>jP h1 hv⟩
 | nils=>
  cases t<;>simp only[gZ] at h<;>first|exact(ae h).elim|skip
  obtain⟨h2,_⟩:=af h;cases h2;refine⟨trivial,fun g iv val _ hv=> ?_⟩;rw[show val=_ from hv];exact⟨[.slice none 0 0],⟨none,0,0,rfl,rfl,le_refl _,fun _=>rfl,fun i x hx=>by simp at hx⟩,rfl⟩
 | nilp=>
  cases t<;>simp only[gZ] at h<;>first|exact(ae h).elim|skip
  ·obtain⟨h2,_⟩:=af h;cases h2;refine⟨trivial,fun g iv val _ hv=> ?_⟩;rw[show val=_ from hv];exact⟨[.pointer none],⟨_,rfl,rfl⟩,rfl⟩
  ·obtain⟨h2,_⟩:=af h;cases h2;refine⟨trivial,fun g iv val _ hv=> ?_⟩;rw[show val=_ from hv];exact⟨[.pointer none],⟨_,rfl,.inl ⟨rfl,rfl⟩⟩,rfl⟩
 | hdr r=>
  simp only[gZ,Rd.run] at h;split at h
  ·rename_i pub e l hrow;obtain⟨z,fp1,h1,h2⟩:=ah h;obtain⟨h1,_⟩:=aS h1;obtain⟨h2,_⟩:=af h2;cases h2;cases pub with
   | true=>exact⟨trivial,fun g iv val hR hv=>by rw[show val=_ from hv];exact jP h1 (hR r e l (.inl hrow))⟩
   | false=>refine⟨⟨⟨r,false,e,l,rfl,rfl,.inl hrow⟩,trivial⟩,fun g iv val hR hv=> ?_⟩;rw[show val=_ from hv];exact jP h1 (hR r e l (.inr (by simp)))
  ·rename_i e l n hh hrow;cases hh with
   | some _=>exact(ae h).elim
   | none=>obtain⟨z,fp1,h1,h2⟩:=ah h;obtain⟨h1,_⟩:=aS h1;obtain⟨h2,_⟩:=af h2;cases h2;refine⟨⟨⟨r,false,e,l,rfl,rfl,.inr ⟨rfl,n,hrow⟩⟩,trivial⟩,fun g iv val hR hv=> ?_⟩;rw[show val=_ from hv];exact jP h1 (hR r e l (.inr (by simp)))
  ·exact(ae h).elim
 | _=>exact(ae h).elim
theorem qU {H:HLoc→SV} {mk:Nat→HLoc}:∀ {t:Ty} {i:Nat} {fp fp':List HLoc} {x:t.den} {hw:HW},(gather mk t i).run H fp=some ((x,hw),fp')→
  bC H hw∧∀ g iv cs,l9 H hw g iv→dF (fun j=>H (mk j)) g iv t cs i→aJ iv t cs x:=by
 intro t;induction t with
 | unit=>intro i fp fp' x hw h;obtain⟨h2,_⟩:=af h;cases h2;exact⟨trivial,fun g iv cs _ hc=>hc⟩
 | pair a b ha hb=>intro i fp fp' x hw h;simp only[gather,Rd.run] at h;obtain⟨⟨p,hw1⟩,fp1,h1,h2⟩:=ah h;obtain⟨⟨q,hw2⟩,fp2,h3,h4⟩:=ah h2;obtain⟨h4,_⟩:=af h4;cases h4;obtain⟨k1,k2⟩:=vK h1;obtain⟨k3,k4⟩:=hb h3;refine⟨bC.append.2 ⟨k1,k3⟩,fun g iv cs hR hc=> ?_⟩;obtain⟨c1,c2,rfl,hl,ho,hs,hr⟩:=hc;have:=(k2 g iv _ (hR.sub fun y hy=>List.mem_append_left _ hy) hs).cells;rw[iw hl ho] at this;exact⟨c1,c2,rfl,by simpa using this,k4 g iv c2 (hR.sub fun y hy=>List.mem_append_right _ hy) hr⟩
 | _=>intro i fp fp' x hw h;exact(ae h).elim
theorem qR {C:Ctx} {g:Gh} {S:Nat→SV} {H:HLoc→SV} {a:Act} {w:World} (hs:SimG C g S H a w) {d:Nat}:∀ {t:Ty} {i:Nat},kz (g.cv d) t i→
  dF (fun j=>H (.comp d j)) g (view g.fl w) t (fK (g.cv d) t i) i:=by
 intro t;induction t with
 | pair a b ha hb=>rintro i ⟨h1,h2,h3,h4⟩;exact⟨_,_,rfl,h2,h3,by rw[←h1];exact hs.comps d i,hb h4⟩
 | unit=>intro i _;rfl
 | _=>intro i h;exact h.elim
section
variable {iv:IV} {Q Q':(u:Ty)→Value→List u.den→Prop}
theorem dQ.length:∀ {t:Ty} {cs:List Value} {x:t.den},dQ iv Q t cs x→cs.length=t.size:=by
 intro t;induction t with
 | slice e=>rintro cs x ⟨v,rfl,_⟩;rfl
 | pair a b ha hb=>rintro cs x ⟨c1,c2,rfl,h2,h3⟩;rw[length_append,ha h2,hb h3];rfl
 | _=>intro cs x h;exact aJ.length h
theorem dQ.ones:∀ {t:Ty} {cs:List Value} {x:t.den},dQ iv Q t cs x→∀ c∈cs,oneC c=true:=by
 intro t;induction t with
 | slice e=>rintro cs x ⟨v,rfl,h,_⟩ c hc;simp at hc;subst hc;exact h
 | pair a b ha hb=>
  rintro cs x ⟨c1,c2,rfl,h2,h3⟩ c hc;rcases mem_append.1 hc with hc|hc
  ·exact ha h2 c hc
  ·exact hb h3 c hc
 | _=>intro cs x h;exact aJ.ones h
theorem mO:∀ {t:Ty} {cs:List Value} {x:t.den},bu t=true→(dQ iv Q t cs x↔aJ iv t cs x):=by
 intro t;induction t with
 | slice e=>intro cs x h;exact noConfusion h
 | pair a b ha hb=>
  intro cs x h;obtain⟨h1,h2⟩:=az h;constructor
  ·rintro⟨c1,c2,e,k1,k2⟩;exact⟨c1,c2,e,(ha h1).1 k1,(hb h2).1 k2⟩
  ·rintro⟨c1,c2,e,k1,k2⟩;exact⟨c1,c2,e,(ha h1).2 k1,(hb h2).2 k2⟩
 | _=>intro cs x _;exact Iff.rfl
theorem aJ.flat {iv iv':IV}:∀ {t:Ty} {cs:List Value} {x:t.den},bu t=true→aJ iv t cs x→aJ iv' t cs x:=by
 intro t;induction t with
 | slice e _=>intro cs x h;exact noConfusion h
 | tree k v _ _=>intro cs x h;exact noConfusion h
 | ptr e _=>intro cs x h;exact noConfusion h
 | pair a b ha hb=>rintro cs x h ⟨c1,c2,h1,h2,h3⟩;obtain⟨f1,f2⟩:=az h;exact⟨c1,c2,h1,ha f1 h2,hb f2 h3⟩
 | _=>intro cs x _ h;exact h
theorem Cm {a b:Nat} (h:blt a b=false):b≤a:=by
 apply Classical.byContradiction;intro hlt;have:blt a b=true:=ble_eq_true_of_le (by omega);rw[h] at this;exact noConfusion this
theorem dQ.getFlat {u:Ty} (hu:bu u=true) {y:u.den}:∀ {t:Ty} {cs:List Value} {x:t.den} {off:Nat},dQ iv Q t cs x→sub t x off u=some y→
  ∃ c1 c c2,cs=c1++(c++c2)∧c1.length=off∧aJ iv u c y:=by
 intro t;induction t with
 | pair a b ha hb=>
  intro cs x off hc h;rw[sub] at h;cases hq:cond (Nat.beq off 0) ((Ty.pair a b).beq u) false with
  | true=>rw[hq] at h;obtain⟨h0,h1⟩:=az hq;have e:=Ty.beq_eq h1;subst e;exact⟨[],cs,[],by simp,(eq_of_beq_eq_true h0).symm,qP h ((mO hu).1 hc)⟩
  | false=>
   rw[hq] at h;obtain⟨c1,c2,rfl,h1,h2⟩:=hc;cases hb':blt off a.size with
   | true=>rw[hb'] at h;obtain⟨d1,d,d2,rfl,hd,hr⟩:=ha h1 h;exact⟨d1,d,d2++c2,by simp,hd,hr⟩
   | false=>rw[hb'] at h;obtain⟨d1,d,d2,rfl,hd,hr⟩:=hb h2 h;have:=Cm hb';exact⟨c1++d1,d,d2,by simp,by rw[length_append,h1.length,hd];omega,hr⟩
 | slice e=>
  intro cs x off hc h;rw[sub] at h
  ·cases h0:Nat.beq off 0 with
   | true=>rw[h0] at h;obtain⟨e1,_⟩:=dm h;subst e1;exact noConfusion hu
   | false=>rw[h0] at h;exact absurd h (by simp)
  ·intros;contradiction
 | _=>
  intro cs x off hc h;rw[sub] at h
  ·cases h0:Nat.beq off 0 with
   | true=>rw[h0] at h;exact⟨[],cs,[],by simp,(eq_of_beq_eq_true h0).symm,qP h hc⟩
   | false=>rw[h0] at h;exact absurd h (by simp)
  ·intros;contradiction
theorem dQ.getSl {u:Ty} {y:List u.den}:∀ {t:Ty} {cs:List Value} {x:t.den} {off:Nat},dQ iv Q t cs x→sub t x off (.slice u)=some y→
  ∃ c1 v c2,cs=c1++(v::c2)∧c1.length=off∧oneC v=true∧Q u v y:=by
 intro t;induction t with
 | pair a b ha hb=>
  intro cs x off hc h;rw[sub] at h;have hq:cond (Nat.beq off 0) ((Ty.pair a b).beq (.slice u)) false=false:=by cases Nat.beq off 0<;>rfl
  rw[hq] at h;obtain⟨c1,c2,rfl,h1,h2⟩:=hc;cases hb':blt off a.size with
  | true=>rw[hb'] at h;obtain⟨d1,d,d2,rfl,hd,hr⟩:=ha h1 h;exact⟨d1,d,d2++c2,by simp,hd,hr⟩
  | false=>rw[hb'] at h;obtain⟨d1,d,d2,rfl,hd,hr⟩:=hb h2 h;have:=Cm hb';exact⟨c1++d1,d,d2,by simp,by rw[length_append,h1.length,hd];omega,hr⟩
 | slice e=>
  intro cs x off hc h;rw[sub] at h
  ·cases h0:Nat.beq off 0 with
   | true=>rw[h0] at h;obtain⟨e1,rfl⟩:=dm h;cases e1;obtain⟨v,rfl,h2,h3⟩:=hc;exact⟨[],v,[],rfl,(eq_of_beq_eq_true h0).symm,h2,h3⟩
   | false=>rw[h0] at h;exact absurd h (by simp)
  ·intros;contradiction
 | _=>
  intro cs x off hc h;rw[sub] at h
  ·cases h0:Nat.beq off 0 with
   | true=>rw[h0] at h;simp only[cond_true] at h;obtain⟨e1,_⟩:=dm h;cases e1
   | false=>rw[h0] at h;exact absurd h (by simp)
  ·intros;contradiction
theorem dQ.setFlat {u:Ty} (hu:bu u=true) {y:u.den} {c':List Value} (hy:aJ iv u c' y):∀ {t:Ty} {cs:List Value} {x z:t.den} {off:Nat},dQ iv Q t cs x→dS t x off u y=some z→
  ∃ c1 c c2,cs=c1++(c++c2)∧c1.length=off∧c.length=u.size∧dQ iv Q t (c1++(c'++c2)) z:=by
 intro t;induction t with
 | pair a b ha hb=>
  intro cs x z off hc h;rw[dS] at h;cases hq:cond (Nat.beq off 0) (u.beq (Ty.pair a b)) false with
  | true=>
   rw[hq] at h;obtain⟨h0,h1⟩:=az hq;have e:=Ty.beq_eq h1;refine⟨[],cs,[],by simp,(eq_of_beq_eq_true h0).symm,?_,?_⟩
   ·rw[hc.length,e]
   ·subst e;simpa using(mO hu).2 (qP h hy)
  | false=>
   rw[hq] at h;obtain⟨c1,c2,rfl,h1,h2⟩:=hc;cases hb':blt off a.size with
   | true=>rw[hb'] at h;obtain⟨z1,hz1,hz⟩:=bind_eq_some_iff.1 h;obtain rfl:=Option.some.inj hz;obtain⟨d1,d,d2,rfl,hd,hl,hr⟩:=ha h1 hz1;exact⟨d1,d,d2++c2,by simp,hd,hl,_,_,by simp,hr,h2⟩
   | false=>rw[hb'] at h;obtain⟨z1,hz1,hz⟩:=bind_eq_some_iff.1 h;obtain rfl:=Option.some.inj hz;obtain⟨d1,d,d2,rfl,hd,hl,hr⟩:=hb h2 hz1;have:=Cm hb';exact⟨c1++d1,d,d2,by simp,by rw[length_append,h1.length,hd];omega,hl,c1,_,by simp,h1,hr⟩
 | slice e=>
  intro cs x z off hc h;rw[dS] at h
  ·cases h0:Nat.beq off 0 with
   | true=>rw[h0] at h;obtain⟨e1,_⟩:=dm h;subst e1;exact noConfusion hu
   | false=>rw[h0] at h;exact absurd h (by simp)
  ·intros;contradiction
 | _=>
  intro cs x z off hc h;rw[dS] at h
  ·cases h0:Nat.beq off 0 with
   | true=>rw[h0] at h;obtain⟨e,rfl⟩:=dm h;subst e;exact⟨[],cs,[],by simp,(eq_of_beq_eq_true h0).symm,by rw[hc.length],by simp only[List.nil_append,List.append_nil];exact hy⟩
   | false=>rw[h0] at h;exact absurd h (by simp)
  ·intros;contradiction
theorem JU:∀ {t:Ty} {p:Nat×Ty},slF t=some p→p.1<t.size:=by
 intro t;induction t with
 | slice e=>intro p h;simp only[slF,Option.some.injEq] at h;subst h;exact Nat.one_pos
 | pair a b ha hb=>
  intro p h;simp only[slF] at h;split at h
  ·rename_i q hq;cases hf:bu b with
   | false=>rw[hf] at h;simp at h
   | true=>rw[hf] at h;simp only[cond_true,Option.some.injEq] at h;subst h;have:=ha hq;simp only[Ty.size];omega
  ·cases hf:bu a with
   | false=>rw[hf] at h;simp at h
   | true=>
    rw[hf] at h;simp only[cond_true] at h;split at h
    ·rename_i q hq;simp only[Option.some.injEq] at h;subst h;have:=hb hq;simp only[Ty.size];omega
    ·simp at h
 | _=>intro p h;simp[slF] at h
theorem dQ.setSl {u:Ty} {y:List u.den} {v':Value} (ho:oneC v'=true) (hy:Q' u v' y):∀ {t:Ty} {cs:List Value} {x z:t.den} {off:Nat},slF t=some (off,u)→dQ iv Q t cs x→dS t x off (.slice u) y=some z→
  ∃ c1 v c2,cs=c1++(v::c2)∧c1.length=off∧dQ iv Q' t (c1++(v'::c2)) z:=by
 intro t;induction t with
 | pair a b ha hb=>
  intro cs x z off hs hc h;rw[dS] at h;have hq:cond (Nat.beq off 0) ((Ty.slice u).beq (.pair a b)) false=false:=by cases Nat.beq off 0<;>rfl
  rw[hq] at h;obtain⟨c1,c2,rfl,h1,h2⟩:=hc;simp only[slF] at hs;split at hs
  ·rename_i q hq';cases hf:bu b with
   | false=>rw[hf] at hs;simp at hs
   | true=>rw[hf] at hs;simp only[cond_true,Option.some.injEq] at hs;subst hs;have hlt:=JU hq';have hb':blt off a.size=true:=ble_eq_true_of_le hlt;rw[hb'] at h;obtain⟨z1,hz1,hz⟩:=bind_eq_some_iff.1 h;obtain rfl:=Option.some.inj hz;obtain⟨d1,d,d2,rfl,hd,hr⟩:=ha hq' h1 hz1;exact⟨d1,d,d2++c2,by simp,hd,d1++(v'::d2),c2,by simp,hr,(mO hf).2 ((mO hf).1 h2)⟩
  ·cases hf:bu a with
   | false=>rw[hf] at hs;simp at hs
   | true=>
    rw[hf] at hs;simp only[cond_true] at hs;split at hs
    ·rename_i q hq';simp only[Option.some.injEq,Prod.mk.injEq] at hs;obtain⟨rfl,rfl⟩:=hs;have hb':blt (a.size+q.1) a.size=false:=by
      cases hx:blt (a.size+q.1) a.size with
      | false=>rfl
      | true=>have:=le_of_ble_eq_true hx;omega
     rw[hb'] at h;obtain⟨z1,hz1,hz⟩:=bind_eq_some_iff.1 h;obtain rfl:=Option.some.inj hz;rw[Nat.add_sub_cancel_left] at hz1;obtain⟨d1,d,d2,rfl,hd,hr⟩:=hb (off:=q.1) hq' h2 hz1;exact⟨c1++d1,d,d2,by simp,by rw[length_append,h1.length,hd],c1,d1++(v'::d2),by simp,(mO hf).2 ((mO hf).1 h1),hr⟩
    ·simp at hs
 | slice e=>
  intro cs x z off hs hc h;simp only[slF,Option.some.injEq,Prod.mk.injEq] at hs;obtain⟨rfl,rfl⟩:=hs;obtain⟨v,rfl,h2,h3⟩:=hc;rw[dS] at h
  ·simp only[cond] at h;obtain⟨e1,rfl⟩:=dm h;exact⟨[],v,[],rfl,rfl,v',rfl,ho,hy⟩
  ·intros;contradiction
 | _=>intro cs x z off hs;simp[slF] at hs
theorem Dp {e:Ty} {off:Nat} {u:Ty} (h:lM e off u=true):slF e=some (off,u):=by
 unfold lM at h;split at h
 ·rename_i p hp;obtain⟨h1,h2⟩:=az h;rw[hp,←eq_of_beq_eq_true h1,←Ty.beq_eq h2]
 ·exact noConfusion h
end
theorem Hr (t:Ty) (x:t.den):bi t t x=some x:=by
 unfold bi;split
 ·rfl
 ·rename_i h;rw[Ty.beq_refl] at h;exact noConfusion h
theorem Jo {cs c:List Value} {s i:Nat} (hc:∀ j v,c[j]? = some v→cs[i*s+j]? = some v) (hl:c.length=s) (_hle:i*s+s≤cs.length):cs=cs.take (i*s)++(c++cs.drop (i*s+s)):=by
 have e1:cs=cs.take (i*s)++((cs.drop (i*s)).take s++cs.drop (i*s+s)):=by rw[←List.drop_drop,List.take_append_drop,List.take_append_drop]
 have e2:(cs.drop (i*s)).take s=c:=by
  apply List.ext_getElem?;intro k;by_cases hk:k<s
  ·rw[List.getElem?_take_of_lt hk,List.getElem?_drop,hc k _ (getElem?_eq_getElem (by omega)),getElem?_eq_getElem (by omega)]
  ·rw[getElem?_eq_none (by rw[length_take];omega),getElem?_eq_none (by omega)]
 rw[e2] at e1;exact e1
theorem G7 {cs c:List Value} {s i:Nat} (hle:i*s+s≤cs.length):∀ j v,c[j]? = some v→(cs.take (i*s)++(c++cs.drop (i*s+s)))[i*s+j]? = some v:=by
 intro j v h;have htl:(cs.take (i*s)).length=i*s:=by rw[length_take];omega
 have hj:=(List.getElem?_eq_some_iff.1 h).1;rw[List.getElem?_append_right (by omega),htl,Nat.add_sub_cancel_left,List.getElem?_append_left hj];exact h
theorem GY {cs c:List Value} {s i j k:Nat} (hl:c.length=s) (hle:i*s+s≤cs.length) (hij:j≠i) (hk:k<s):(cs.take (i*s)++(c++cs.drop (i*s+s)))[j*s+k]? = cs[j*s+k]?:=by
 have htl:(cs.take (i*s)).length=i*s:=by rw[length_take];omega
 rcases Nat.lt_or_gt_of_ne hij with h|h
 ·have hm:(j+1)*s≤i*s:=mul_le_mul_right _ h;rw[add_mul,one_mul] at hm;rw[List.getElem?_append_left (by omega),List.getElem?_take_of_lt (by omega)]
 ·have hm:(i+1)*s≤j*s:=mul_le_mul_right _ h;rw[add_mul,one_mul] at hm;rw[←List.append_assoc,List.getElem?_append_right (by rw[length_append];omega),List.getElem?_drop];congr 1;rw[length_append];omega
theorem Y2 {u:Ty} {y:u.den}:∀ {t:Ty} {x:t.den} {off:Nat},sub t x off u=some y→dS t x off u y=some x:=by
 have one:∀ {t:Ty} {x:t.den},bi t u x=some y→bi u t y=some x:=by
  intro t x h;obtain⟨e,rfl⟩:=dm h;subst e;unfold bi;split
  ·rfl
  ·rename_i hb;have:t.beq t=true:=by
    unfold bi at h;split at h
    ·assumption
    ·simp at h
   rw[hb] at this;exact noConfusion this
 intro t;induction t with
 | pair a b ha hb=>
  intro x off h;rw[sub] at h;rw[dS];cases hq:cond (Nat.beq off 0) ((Ty.pair a b).beq u) false with
  | true=>
   rw[hq] at h;simp only[cond_true] at h;have h2:=one h;obtain⟨h0,h1⟩:=az hq;have e:=Ty.beq_eq h1;have hq':cond (Nat.beq off 0) (u.beq (Ty.pair a b)) false=true:=by rw[h0,←e];rw[←e] at h1;exact h1
   rw[hq'];exact h2
  | false=>
   rw[hq] at h;have hq':cond (Nat.beq off 0) (u.beq (Ty.pair a b)) false=false:=by
    cases h0:Nat.beq off 0 with
    | false=>rfl
    | true=>
     rw[h0] at hq;cases h1:u.beq (Ty.pair a b) with
     | false=>rfl
     | true=>have e:=Ty.beq_eq h1;subst e;rw[show(Ty.pair a b).beq (Ty.pair a b)=true from h1] at hq;exact noConfusion hq
   rw[hq'];simp only[cond_false] at h ⊢;cases hb':blt off a.size with
   | true=>rw[hb'] at h;simp only[cond_true] at h ⊢;rw[ha h];rfl
   | false=>rw[hb'] at h;simp only[cond_false] at h ⊢;rw[hb h];rfl
 | _=>
  intro x off h;rw[sub] at h
  ·rw[dS]
   ·cases h0:Nat.beq off 0 with
    | true=>rw[h0] at h;simp only[cond_true] at h ⊢;exact one h
    | false=>rw[h0] at h;exact absurd h (by simp)
   ·intros;contradiction
  ·intros;contradiction
theorem gI.to {fl fl':Nat→Nat} {own own':Nat→Option Own} {w w':World} {v:Value} {o o':Own} {e:Ty} {l:List e.den} {bo:Option Nat} (h:gI fl own w v o e l bo) (hiv:(view fl w).le (view fl' w'))
  (hb:∀ b,bo=some b→(∀ cs,Blk w b cs→Blk w' b cs)∧own' b=some o'∧fl' b=0):gI fl' own' w' v o' e l bo:=by
 rcases h with h|⟨b,cap,cs,h1,h2,h3,h4,h5,h6,h7,h8⟩
 ·exact .inl h
 ·obtain⟨k1,k2,k3⟩:=hb b h8;exact .inr ⟨b,cap,cs,h1,h2,k1 _ h3,h4,k2,k3,h7.mono hiv,h8⟩
theorem gI.rowV {fl:Nat→Nat} {own:Nat→Option Own} {w:World} {v:Value} {o:Own} {e:Ty} {l:List e.den} {bo:Option Nat} (h:gI fl own w v o e l bo):iq fl own w v o false e l:=by
 rcases h with⟨h1,h2,_⟩|⟨b,cap,cs,h1,h2,h3,h4,h5,h6,h7,_⟩
 ·exact .inl ⟨h1,h2⟩
 ·exact .inr ⟨b,cap,cs,h1,h2,h3,h4,h5,h6,h7⟩
theorem iq.rowB {fl:Nat→Nat} {own:Nat→Option Own} {w:World} {v:Value} {o:Own} {e:Ty} {l:List e.den} (h:iq fl own w v o false e l):∃ bo,gI fl own w v o e l bo∧∀ b,bo=some b→own b=some o∧fl b=0:=by
 rcases h with⟨h1,h2⟩|⟨b,cap,cs,h1,h2,h3,h4,h5,h6,h7⟩
 ·exact⟨none,.inl ⟨h1,h2,rfl⟩,fun b hb=>by cases hb⟩
 ·exact⟨some b,.inr ⟨b,cap,cs,h1,h2,h3,h4,h5,h6,h7,rfl⟩,fun b' hb=>by cases hb;exact⟨h5,h6⟩⟩
theorem gI.one {fl:Nat→Nat} {own:Nat→Option Own} {w:World} {v:Value} {o:Own} {e:Ty} {l:List e.den} {bo:Option Nat} (h:gI fl own w v o e l bo):oneC v=true:=by
 rcases h with⟨h1,_⟩|⟨b,cap,cs,h1,_⟩<;>rw[h1]<;>rfl
theorem lV.bo {fl:Nat→Nat} {own:Nat→Option Own} {w:World} {o:Own} {n:Nat} {hv:Option (Nat×Value)} {i:Nat} {bo:Option Nat} {u:Ty} {v:Value} {y:List u.den} (h:lV fl own w o n hv i bo u v y):bo=none∨(i<n∧gI fl own w v o u y bo):=by
 rcases h with⟨_,h⟩|⟨_,h1,h2⟩|⟨_,_,_,h⟩
 ·exact .inl h
 ·exact .inr ⟨h1,h2⟩
 ·exact .inl h
theorem dQ.newQ {iv:IV} {Q Q':(u:Ty)→Value→List u.den→Prop} {t u:Ty} {cs c1 c2:List Value} {v:Value} {x:t.den} {off:Nat} {y:List u.den} (h:dQ iv Q t cs x) (hs:slF t=some (off,u)) (hy:sub t x off (.slice u)=some y) (he:cs=c1++(v::c2)) (hl:c1.length=off)
  (hq:Q' u v y):dQ iv Q' t cs x:=by
 obtain⟨d1,v2,d2,e1,e2,e3,_⟩:=h.getSl hy;have hv:oneC v=true:=h.ones v (by rw[he];simp);obtain⟨k1,v3,k2,q1,q2,q3⟩:=h.setSl (Q':=Q') (v':=v) hv hq hs (Y2 hy);have:=q1.symm.trans he;obtain⟨rfl,h2⟩:=append_inj this (by omega);cases h2;rw[he];exact q3
theorem fO.shape {fl:Nat→Nat} {own:Nat→Option Own} {w:World} {v:Value} {o:Own} {e:Ty} {l:List e.den} {n:Nat} {hv:Option (Nat×Value)} (h:fO fl own w v o e l n hv) :
  (v=.slice none 0 0∧l=[])∨∃ b cap,v=.slice (some ⟨b,0,none⟩) l.length cap∧l.length≤cap:=by
 rcases h.2.2 with h|⟨b,cap,cs,bs,k1,k2,_⟩
 ·exact .inl h
 ·exact .inr ⟨b,cap,k1,k2⟩
theorem iq.deep0 {fl:Nat→Nat} {own:Nat→Option Own} {w:World} {v:Value} {o:Own} {e:Ty} {l:List e.den} (h:iq fl own w v o false e l):fO fl own w v o e l 0 none:=by
 refine⟨zero_le _,fun k x h=>(by cases h),?_⟩;rcases h with h|⟨b,cap,cs,h1,h2,h3,h4,h5,h6,h7⟩
 ·exact .inl h
 ·refine .inr ⟨b,cap,cs,fun _=>none,h1,h2,h3,h4,h5,h6,fun i c h=>(by cases h),fun i j c h=>(by cases h),fun i x hx=> ?_⟩;obtain⟨c,c1,c2⟩:=h7 i x hx;exact⟨c,c1,c2.hrep fun u v y hq=>.inr (.inr ⟨fun _ h=>(by cases h),zero_le _,hq,rfl⟩)⟩
theorem CQ {e:Ty} {off:Nat} {u:Ty} (x:e.den) (h:slF e=some (off,u)):∃ y0,sub e x off (.slice u)=some y0:=by
 have:∀ {t:Ty} {p:Nat×Ty} (x:t.den),slF t=some p→∃ y0,sub t x p.1 (.slice p.2)=some y0:=by
  intro t;induction t with
  | slice e=>intro p x h;simp only[slF,Option.some.injEq] at h;subst h;exact⟨x,by simp[sub,Hr]⟩
  | pair A B hA hB=>
   intro p x h;have hq:∀ o,cond (Nat.beq o 0) ((Ty.pair A B).beq (.slice p.2)) false=false:=fun o=>by cases Nat.beq o 0<;>rfl
   simp only[slF] at h;rw[sub,hq,cond_false];split at h
   ·rename_i q hq';cases hf:bu B with
    | false=>rw[hf] at h;simp at h
    | true=>rw[hf] at h;simp only[cond_true,Option.some.injEq] at h;subst h;rw[show blt q.1 A.size=true from ble_eq_true_of_le (JU hq')];exact hA x.1 hq'
   ·cases hf:bu A with
    | false=>rw[hf] at h;simp at h
    | true=>
     rw[hf] at h;simp only[cond_true] at h;split at h
     ·rename_i q hq';simp only[Option.some.injEq] at h;subst h;have hb':blt (A.size+q.1) A.size=false:=by
       cases hx:blt (A.size+q.1) A.size with
       | false=>rfl
       | true=>have:=le_of_ble_eq_true hx;omega
      dsimp only;rw[hb',cond_false,Nat.add_sub_cancel_left];exact hB x.2 hq'
     ·simp at h
  | _=>intro p x h;simp[slF] at h
 exact this x h
theorem fO.fill {fl:Nat→Nat} {own own':Nat→Option Own} {w:World} {v h:Value} {r q:Nat} {o':Own} {e:Ty} {l:List e.den} {n i:Nat} (hqr:q≠r) (hD:fO fl own w v (.row r) e l n (some (i,h))) {x z:e.den} (hi:l[i]? = some x) {off:Nat} {u:Ty} {y:List u.den}
  (hsl:slF e=some (off,u)) (hB:iq fl own w h (.row q) false u y) (hset:dS e x off (.slice u) y=some z) (h1:∀ b,own b=some (.row r)→own' b=some o') (h2:∀ b,own b=some (.row q)→own' b=some o'):fO fl own' w v o' e (l.set i z) n none:=by
 obtain⟨d1,d2,hD⟩:=hD;have hin:=d2 i h rfl;rcases hD with⟨_,h2⟩|⟨b,cap,cs,bs,k1,k2,k3,k4,k5,k6,k7,k8,k9⟩
 ·rw[h2] at hi;simp at hi
 obtain⟨bo,hB,hbo⟩:=iq.rowB hB;have hil:i<l.length:=(List.getElem?_eq_some_iff.1 hi).1;have hbo_bs:∀ j c,bs j=some c→bo≠some c:=fun j c h1 h2=>by have:=(hbo c h2).1;rw[(k7 j c h1).2.1] at this;cases this;exact hqr rfl
 refine⟨by rw[length_set];exact d1,fun k x h=>(by cases h),.inr ⟨b,cap,cs,fun j=>if j=i then bo else bs j,by rw[length_set];exact k1,by rw[length_set];exact k2,k3,k4,h1 b k5,k6,fun j c hc=> ?_,fun j k c hj hk=> ?_,fun j z' hj=> ?_⟩⟩
 ·dsimp only at hc;split at hc
  ·obtain⟨q1,q2⟩:=hbo c hc;refine⟨fun e=> ?_,h2 c q1,q2⟩;rw[e,k5] at q1;cases q1;exact hqr rfl
  ·obtain⟨q1,q2,q3⟩:=k7 j c hc;exact⟨q1,h1 c q2,q3⟩
 ·dsimp only at hj hk;split at hj<;>split at hk
  ·omega
  ·exact absurd hj (hbo_bs k c hk)
  ·exact absurd hk (hbo_bs j c hj)
  ·exact k8 j k c hj hk
 ·rw[getElem?_set] at hj;split at hj
  ·rename_i hij;subst hij;obtain rfl:=Option.some.inj hj;obtain⟨c,c1,c2⟩:=k9 i x hi;have hone:=hB.one;have hcell:∃ c1 c2,c=c1++(h::c2)∧c1.length=off:=by
    obtain⟨p1,v2,p2,e1,e2,_⟩:=c2.setSl (Q':=fun _ _ _=>True) (v':=h) hone trivial hsl hset;have hsub:∃ y0,sub e x off (.slice u)=some y0:=CQ x hsl;obtain⟨y0,hy0⟩:=hsub;obtain⟨q1,v3,q2,m1,m2,_,m4⟩:=c2.getSl hy0;rcases m4 with⟨hq,_⟩|⟨hq,_⟩|⟨hq,_⟩
    ·cases hq;exact⟨q1,q2,m1,m2⟩
    ·exact absurd rfl (hq h)
    ·exact absurd rfl (hq h)
   obtain⟨q1,q2,rfl,q3⟩:=hcell;refine⟨_,c1,?_⟩;obtain⟨p1,v2,p2,e1,e2,e3⟩:=c2.setSl (Q':=lV fl own' w o' n none i bo) (v':=h) hone (.inr (.inl ⟨fun _ h=>(by cases h),hin,hB.to (IV.le.refl _) fun c hc=>⟨fun _ h=>h,h2 c (hbo c hc).1,(hbo c hc).2⟩⟩)) hsl hset;obtain⟨rfl,h4⟩:=append_inj e1 (by omega);cases h4;refine e3.mono (IV.le.refl _) fun u' v' y' hQ=> ?_;simp only[if_true];exact hQ
  ·rename_i hij;obtain⟨c2',m1,m2⟩:=k9 j z' hj;refine⟨c2',m1,m2.mono (IV.le.refl _) fun u' v' y' hQ=> ?_⟩;have hji:j≠i:=fun e=>hij e.symm;simp only[if_neg hji];rcases hQ with⟨h,_⟩|⟨_,q1,q2⟩|⟨_,q1,q2,q3⟩
   ·cases h;exact absurd rfl hji
   ·exact .inr (.inl ⟨fun _ h=>(by cases h),q1,q2.to (IV.le.refl _) fun c hc=>⟨fun _ h=>h,h1 c (k7 j c hc).2.1,(k7 j c hc).2.2⟩⟩)
   ·exact .inr (.inr ⟨fun _ h=>(by cases h),q1,q2,q3⟩)
section
variable {P:Program} {tab:Tab} {C:Ctx} {g:Gh} {S:Nat→SV} {H:HLoc→SV} {a:Act} {w:World}
theorem SimG.lvCell (hs:SimG C g S H a w) {b o:Nat} {v:Value} (h:g.lv b o=some v):w.cell? ⟨b,o,none⟩=some v:=by
 rw[hs.lv] at h;unfold Ar lvU at h;split at h
 ·exact(Ip.1 (hs.iv _ _ _ h)).2
 ·rename_i hM;have hb:b<C.w0.heap.size:=World.block_lt_of_cell? (a:=⟨b,o,none⟩) C.w0 h;exact(cell?_of_block (a:=⟨b,o,none⟩) (hs.ext.block b hb hM)).trans h
theorem SimG.unbo (hs:SimG C g S H a w) {r:Nat} {b:Nat} (h:g.own b=some (.row r)):b<w.heap.size:=(hs.own b (by rw[h];simp)).1
theorem SimG.detach (hs:SimG C g S H a w) {r:Nat} {e:Ty} {l:List e.den} {n:Nat} (hrow:H (.row r)=.deep e l n none) {i:Nat} {x:e.den} (hi:l[i]? = some x) (hn:i<n) {off:Nat} {u:Ty} {y:List u.den}
  (hsl:slF e=some (off,u)) (hsub:sub e x off (.slice u)=some y) {q:Nat} (hq:H (.row q)=.bot) :
  ∃ g',SimG C g' S (ak (ak (ak H (.row r) .und) (.row q) (.row false u y)) (.row r) (.deep e l n (some (i,q)))) a w∧
   ∃ b cap,g.hd r=.slice (some ⟨b,0,none⟩) l.length cap∧w.cell? ⟨b,i*e.size+off,none⟩=some (g'.hd q)∧oneC (g'.hd q)=true:=by
 have hrq:q≠r:=fun e=>by rw[e,hrow] at hq;cases hq
 have hD:=hs.deeps r e l n none hrow;obtain⟨d1,d2,hD⟩:=hD;rcases hD with⟨_,h2⟩|⟨b,cap,cs,bs,k1,k2,k3,k4,k5,k6,k7,k8,k9⟩
 ·rw[h2] at hi;simp at hi
 obtain⟨c,c1,c2⟩:=k9 i x hi;obtain⟨p1,v,p2,rfl,p3,p4,p5⟩:=c2.getSl hsub;have hB:gI g.fl g.own w v (.row r) u y (bs i):=by
  rcases p5 with⟨h,_⟩|⟨_,_,h⟩|⟨_,h,_⟩
  ·exact absurd h (by simp[fB])
  ·exact h
  ·omega
 let own':Nat→Option Own:=fun c=>if bs i=some c then some (.row q) else g.own c
 have hd:=hs.drop (l:=.row r) (.inr ⟨r,rfl⟩);have ht:=hd.turnAll (o:=.row r) (fl':=g.fl) (own':=own') (w':=w) lF (fun _ _ _=>rfl) (fun c hc=>if_neg fun h=>hc (k7 i c h).2.1) (fun _ _=>rfl) rfl ⟨rfl,rfl,rfl⟩ fun _ _ _ _ hp hv=>⟨hp,hv⟩
 have hq':ak H (.row r) .und (.row q)=.bot:=by rw[ay _ _ (by simpa using hrq)];exact hq
 have hA:GAgree (ak H (.row r) .und) { g with own:=own' } { g with own:=own',hd:=aA g.hd q v }:=
  ⟨fun _ _=>rfl,fun k hk=>bn _ _ fun e=>hk (e▸hq'),fun _ _ _=>rfl,rfl⟩
 have hg:=SimG.grow (g:={ g with own:=own' }) ht hA (IV.le.refl _) (fun _ _ _ h=>⟨rfl,h,rfl⟩) (fun _ _ _ h=>⟨rfl,h,rfl⟩) ht.own ht.old ht.ext;have hrowq:qE { g with own:=own',hd:=aA g.hd q v } w q false u y:=by refine gI.rowV (bo:=bs i) ?_;show gI g.fl own' w (aA g.hd q v q) (.row q) u y (bs i);rw[bJ];exact hB.to (IV.le.refl _) fun c hc=>⟨fun _ h=>h,if_pos hc,(k7 i c hc).2.2⟩
 have h3:=hg.setRow (r:=q) hrowq;have hne:∀ j,j≠i→∀ c,bs j=some c→¬ bs i=some c:=fun j hj c h1 h2=>hj (k8 j i c h1 h2);have hdeep:fO g.fl own' w (g.hd r) (.row r) e l n (some (i,v)):=by
  refine⟨d1,fun k z hk=>by cases hk;exact hn,.inr ⟨b,cap,cs,fun j=>if j=i then none else bs j,k1,k2,k3,k4,?_,k6,fun j c hc=> ?_,fun j k c hj hk=> ?_,fun j z hz=> ?_⟩⟩
  ·show(if bs i=some b then _ else _)=_;rw[if_neg fun h=>(k7 i b h).1 rfl];exact k5
  ·dsimp only at hc;split at hc
   ·cases hc
   ·rename_i hji;obtain⟨q1,q2,q3⟩:=k7 j c hc;exact⟨q1,(if_neg (hne j hji c hc)).trans q2,q3⟩
  ·dsimp only at hj hk;split at hj
   ·cases hj
   ·split at hk
    ·cases hk
    ·exact k8 j k c hj hk
  ·obtain⟨c',m1,m2⟩:=k9 j z hz;refine⟨c',m1,?_⟩;by_cases hji:j=i
   ·subst hji;rw[hi] at hz;cases hz;have hc':c'=p1++(v::p2):=by
     apply List.ext_getElem?;intro k;have hl1:=m2.length;have hl2:=c2.length;by_cases hk:k<e.size
     ·have h1:=m1 k _ (getElem?_eq_getElem (by omega));have h2:=c1 k _ (getElem?_eq_getElem (by omega));rw[getElem?_eq_getElem (show k<c'.length by omega),getElem?_eq_getElem (show k<(p1++v::p2).length by omega),←h1,←h2]
     ·rw[getElem?_eq_none (by omega),getElem?_eq_none (by omega)]
    refine m2.newQ hsl hsub hc' p3 (.inl ⟨rfl,if_pos rfl⟩)
   ·refine m2.mono (IV.le.refl _) fun u' v' y' hQ=> ?_;have hh:∀ z:Value,(some (i,v):Option (Nat×Value))≠some (j,z):=fun z h=>by cases h;exact hji rfl
    simp only[if_neg hji];rcases hQ with⟨h,_⟩|⟨_,h1,h2⟩|⟨_,h1,h2,h3⟩
    ·exact absurd h (by simp[fB])
    ·exact .inr (.inl ⟨hh,h1,h2.to (IV.le.refl _) fun c hc=>⟨fun _ h=>h,(if_neg (hne j hji c hc)).trans (k7 j c hc).2.1,(k7 j c hc).2.2⟩⟩)
    ·exact .inr (.inr ⟨hh,h1,h2,h3⟩)
 have h4:=h3.setDeep (r:=r) (e:=e) (l:=l) (n:=n) (h:=some (i,q)) (by show fO g.fl own' w (aA g.hd q v r) (.row r) e l n (some (i,aA g.hd q v q));rw[bJ,bn _ _ (fun e=>hrq e.symm)];exact hdeep) fun _ _ h=>by cases h;rw[aK];exact SV.noConfusion
 refine⟨_,h4,b,cap,k1,?_,?_⟩
 ·show w.cell? _=some (aA g.hd q v q);rw[bJ,k3.cell,←p3];exact c1 _ _ (by simp)
 ·show oneC (aA g.hd q v q)=true;rw[bJ];exact p4
theorem vI {fl:Nat→Nat} {b o:Nat} {vs:List Value} (hb:fl b=0):(view fl w).le (view fl (w.setCells b o vs)):=by
 intro k p v hv;obtain⟨hlt,hv⟩:=Ip.1 hv;have hk:k≠b:=fun e=>by subst e;rw[hb] at hlt;omega
 exact Ip.2 ⟨hlt,(cell?_of_block (a:=⟨k,p,none⟩) (mJ b _ _ _ k hk)).trans hv⟩
theorem Blk.set_ne {b o k:Nat} {vs:List Value} (hk:k≠b) (cs:List Value) (h:Blk w k cs):Blk (w.setCells b o vs) k cs:=
 Blk.heap (mJ b _ _ _ k hk) cs h
theorem SimG.turnSet (hs:SimG C g S H a w) {r b o:Nat} {vs:List Value} (hd:¬ kP H r) (hb:g.own b=some (.row r)) (hf:g.fl b=0):SimG C g S H a (w.setCells b o vs):=
 hs.turnAll (o:=.row r) (fl':=g.fl) (own':=g.own) (w':=w.setCells b o vs) hd (fun c hc _=>mJ b _ _ _ c fun e=>hc (e▸hb)) (fun _ _=>rfl) (fun _ _=>rfl) (size_setCells b _ _ _)
  ⟨(lD b _ _ _).1,(lD b _ _ _).2.1,(lD b _ _ _).2.2.1⟩ fun c p v _ hp hv=>by
    have hk:c≠b:=fun e=>by subst e;rw[hf] at hp;omega
    exact⟨hp,(cell?_of_block (a:=⟨c,p,none⟩) (mJ b _ _ _ c hk)).trans hv⟩
theorem SimG.setD (hs:SimG C g S H a w) {r:Nat} {e:Ty} {l:List e.den} {n:Nat} {hh:Option (Nat×Nat)} (hrow:H (.row r)=.deep e l n hh) {i:Nat} {x z:e.den} (hi:l[i]? = some x) {off:Nat} {u:Ty} {y:u.den} {c':List Value}
  (hu:bu u=true) (hy:aJ (view g.fl w) u c' y) (hset:dS e x off u y=some z) {t:TypeId} (hT:TyW P t u) {vv:Value} (hvv:vv.cells.toList=c') {bl len cap0:Nat} (hbl:g.hd r=.slice (some ⟨bl,0,none⟩) len cap0) :
  ∃ w',(storeVar t ⟨bl,i*e.size+off,none⟩ vv).run P w=.ok () w'∧SimG C g S (ak (ak H (.row r) .und) (.row r) (.deep e (l.set i z) n hh)) a w':=by
 obtain⟨d1,d2,hD⟩:=hs.deeps r e l n hh hrow;rcases hD with⟨_,h2⟩|⟨b,cap,cs,bs,k1,k2,k3,k4,k5,k6,k7,k8,k9⟩
 ·rw[h2] at hi;simp at hi
 obtain rfl:bl=b:=by rw[k1] at hbl;cases hbl;rfl
 obtain⟨c,c1,c2⟩:=k9 i x hi;obtain⟨p1,p,p2,rfl,p3,p4,p5⟩:=c2.setFlat hu hy hset;have hil:i<l.length:=(List.getElem?_eq_some_iff.1 hi).1;have hle:i*e.size+e.size≤cs.length:=by have:(i+1)*e.size≤cap*e.size:=mul_le_mul_right _ (by omega);rw[add_mul,one_mul] at this;omega
 have hcl:=c2.length;have hcl':=p5.length;have hcut:=Jo c1 hcl hle;have htl:(cs.take (i*e.size)).length=i*e.size:=by rw[length_take];omega
 have hb:Blk w bl ((cs.take (i*e.size)++p1)++(p++(p2++cs.drop (i*e.size+e.size)))):=by rw[hcut] at k3;simpa using k3
 have hL:(cs.take (i*e.size)++p1).length=i*e.size+off:=by rw[length_append,htl,p3]
 have hrun:=tK (P:=P) hT (v:=vv) (cs:=c') (by rw[←hvv]) hy.length hy.ones hb p4;rw[hL] at hrun;have hblk:=Blk.setCells (vs:=c') (o:=i*e.size+off) hb hL (by rw[p4,hy.length]);have hs2:=(hs.drop (l:=.row r) (.inr ⟨r,rfl⟩)).turnSet (b:=bl) (o:=i*e.size+off) (vs:=c') lF k5 k6;refine⟨_,hrun,hs2.setDeep (r:=r) (h:=hh) ⟨by rw[length_set];exact d1,d2,.inr ⟨bl,cap,_,bs,by rw[length_set];exact k1,by rw[length_set];exact k2,hblk,?_,k5,k6,k7,k8,fun j z' hj=> ?_⟩⟩ fun j q hq=> ?_⟩
 ·rw[hcut] at k4;simp only[length_append] at k4 ⊢;rw[p4] at k4;rw[hy.length];omega
 ·have hcs:(cs.take (i*e.size)++p1)++(c'++(p2++cs.drop (i*e.size+e.size)))=cs.take (i*e.size)++((p1++(c'++p2))++cs.drop (i*e.size+e.size)):=by simp
  have fr:∀ {j:Nat} {c:List Value} {x:e.den},dQ (view g.fl w) (lV g.fl g.own w (.row r) n (fB g.hd hh) j (bs j)) e c x→dQ (view g.fl (w.setCells bl (i*e.size+off) c')) (lV g.fl g.own (w.setCells bl (i*e.size+off) c') (.row r) n (fB g.hd hh) j (bs j)) e c x:=fun{j c x} h=>
   h.mono (vI k6) fun u' v' y' hQ=>by
    rcases hQ with h|⟨h0,h1,h2⟩|⟨h0,h1,h2,h3⟩
    ·exact .inl h
    ·exact .inr (.inl ⟨h0,h1,h2.to (vI k6) fun c hc=>⟨Blk.set_ne (k7 j c hc).1,(k7 j c hc).2.1,(k7 j c hc).2.2⟩⟩)
    ·exact .inr (.inr ⟨h0,h1,h2.mono (vI k6),h3⟩)
  rw[hcs];rw[getElem?_set] at hj;split at hj
  ·rename_i hij;subst hij;obtain rfl:=Option.some.inj hj;exact⟨_,G7 hle,fr p5⟩
  ·rename_i hij;obtain⟨c2',m1,m2⟩:=k9 j z' hj;refine⟨c2',fun k v hk=> ?_,fr m2⟩;rw[GY hcl' hle (fun e=>hij e.symm) (by have:=(List.getElem?_eq_some_iff.1 hk).1;rw[m2.length] at this;exact this)];exact m1 k v hk
 ·have h0:=hs.refR r;rw[hrow] at h0;have:=h0 j q hq;exact fF SV.noConfusion this
theorem SimG.attach (hs:SimG C g S H a w) {r:Nat} {e:Ty} {l:List e.den} {n:Nat} {hh:Option (Nat×Nat)} (hrow:H (.row r)=.deep e l n hh) {i:Nat} {x z:e.den} (hi:l[i]? = some x) (hin:i≤n) (hhole:∀ k q,hh=some (k,q)→k=i) {off:Nat} {u:Ty} {y:List u.den}
  (hsl:slF e=some (off,u)) {q:Nat} (hq:H (.row q)=.row false u y) (hset:dS e x off (.slice u) y=some z) {t:TypeId} (hT:TyW P t (.slice u)) {bl len cap0:Nat} (hbl:g.hd r=.slice (some ⟨bl,0,none⟩) len cap0) :
  ∃ w' g',(storeVar t ⟨bl,i*e.size+off,none⟩ (g.hd q)).run P w=.ok () w'∧SimG C g' S (ak (ak (ak H (.row q) .und) (.row r) .und) (.row r) (.deep e (l.set i z) (oW n (i+1)) none)) a w':=by
 have hrq:q≠r:=fun e=>by rw[e,hrow] at hq;cases hq
 obtain⟨d1,d2,hD⟩:=hs.deeps r e l n hh hrow;rcases hD with⟨_,h2⟩|⟨b,cap,cs,bs,k1,k2,k3,k4,k5,k6,k7,k8,k9⟩
 ·rw[h2] at hi;simp at hi
 obtain rfl:bl=b:=by rw[k1] at hbl;cases hbl;rfl
 obtain⟨bo,hB,hbo⟩:=iq.rowB (hs.rows q false u y hq);have hone:=hB.one;obtain⟨c,c1,c2⟩:=k9 i x hi;have hil:i<l.length:=(List.getElem?_eq_some_iff.1 hi).1;have hn':oW n (i+1)=max n (i+1):=by
  unfold oW;by_cases h:n≤i+1
  ·rw[decide_eq_true h];simp only[cond];omega
  ·rw[decide_eq_false h];simp only[cond];omega
 rw[hn'];have hle:i*e.size+e.size≤cs.length:=by have:(i+1)*e.size≤cap*e.size:=mul_le_mul_right _ (by omega);rw[add_mul,one_mul] at this;omega
 obtain⟨p1,v,p2,rfl,p3,_⟩:=c2.setSl (Q':=fun _ _ _=>True) (v':=g.hd q) hone trivial hsl hset;have hcl:=c2.length;have hcut:=Jo c1 hcl hle;have htl:(cs.take (i*e.size)).length=i*e.size:=by rw[length_take];omega
 have hb:Blk w bl ((cs.take (i*e.size)++p1)++([v]++(p2++cs.drop (i*e.size+e.size)))):=by rw[hcut] at k3;simpa using k3
 have hL:(cs.take (i*e.size)++p1).length=i*e.size+off:=by rw[length_append,htl,p3]
 have hcells:(g.hd q).cells = #[g.hd q]:=by generalize g.hd q=vv at hone;cases vv<;>first|rfl|exact noConfusion hone
 have hrun:=tK (P:=P) hT (v:=g.hd q) (cs:=[g.hd q]) (by rw[hcells]) rfl (by simpa using hone) hb rfl;rw[hL] at hrun;have hblk:=Blk.setCells (vs:=[g.hd q]) (o:=i*e.size+off) hb hL rfl;have hbo_b:bo≠some bl:=fun h=>by have:=(hbo bl h).1;rw[k5] at this;cases this;exact hrq rfl
 have hbo_bs:∀ j c,bs j=some c→bo≠some c:=fun j c h1 h2=>by have:=(hbo c h2).1;rw[(k7 j c h1).2.1] at this;cases this;exact hrq rfl
 let own':Nat→Option Own:=fun c=>if bo=some c then some (.row r) else g.own c
 have hs1:=hs.drop (l:=.row q) (.inr ⟨q,rfl⟩);have hs2:=(hs1.drop (l:=.row r) (.inr ⟨r,rfl⟩)).turnSet (b:=bl) (o:=i*e.size+off) (vs:=[g.hd q]) lF k5 k6;have hdq:¬ kP (ak (ak H (.row q) .und) (.row r) .und) q:=by rw[Iq _ _ _ (by simpa using hrq)];exact lF
 have hs3:=hs2.turnAll (o:=.row q) (fl':=g.fl) (own':=own') (w':=w.setCells bl (i*e.size+off) [g.hd q]) hdq (fun _ _ _=>rfl) (fun c hc=>if_neg fun h=>hc (hbo c h).1) (fun _ _=>rfl) rfl ⟨rfl,rfl,rfl⟩ fun _ _ _ _ hp hv=>⟨hp,hv⟩
 have hV:(view g.fl w).le (view g.fl (w.setCells bl (i*e.size+off) [g.hd q])):=vI k6;refine⟨_,_,hrun,hs3.setDeep (r:=r) (h:=none) ⟨by rw[length_set];omega,fun k z hk=>by simp[fB] at hk,.inr ⟨bl,cap,_,fun j=>if j=i then bo else bs j,by rw[length_set];exact k1,by rw[length_set];exact k2,hblk,?_,?_,k6,fun j c hc=> ?_,fun j k c hj hk=> ?_,fun j z' hj=> ?_⟩⟩ fun j q hq=>by cases hq⟩
 ·rw[hcut] at k4;simp only[length_append,List.length_cons,List.length_nil] at k4 ⊢;omega
 ·show(if bo=some bl then _ else _)=_;rw[if_neg hbo_b];exact k5
 ·dsimp only at hc;show c≠bl∧(if bo=some c then _ else _)=_∧g.fl c=0;split at hc
  ·exact⟨fun e=>hbo_b (e▸hc),if_pos hc,(hbo c hc).2⟩
  ·obtain⟨q1,q2,q3⟩:=k7 j c hc;exact⟨q1,(if_neg (hbo_bs j c hc)).trans q2,q3⟩
 ·dsimp only at hj hk;split at hj
  ·split at hk
   ·omega
   ·exact absurd hj (hbo_bs k c hk)
  ·split at hk
   ·exact absurd hk (hbo_bs j c hj)
   ·exact k8 j k c hj hk
 ·have hcs:(cs.take (i*e.size)++p1)++([g.hd q]++(p2++cs.drop (i*e.size+e.size)))=cs.take (i*e.size)++((p1++(g.hd q::p2))++cs.drop (i*e.size+e.size)):=by simp
  rw[hcs];rw[getElem?_set] at hj;split at hj
  ·rename_i hij;subst hij;obtain rfl:=Option.some.inj hj;refine⟨p1++(g.hd q::p2),G7 hle,?_⟩;obtain⟨r1,v2,r2,m1,m2,m3⟩:=c2.setSl (Q':=lV g.fl own' (w.setCells bl (i*e.size+off) [g.hd q]) (.row r) (max n (i+1)) none i bo) (v':=g.hd q) hone
    (.inr (.inl ⟨fun _ h=>(by cases h),by omega,hB.to hV fun c hc=>⟨Blk.set_ne fun e=>hbo_b (e▸hc),if_pos hc,(hbo c hc).2⟩⟩)) hsl hset
   obtain⟨rfl,h2⟩:=append_inj m1 (by omega);cases h2;refine dQ.mono hV (fun u' v' y' hQ=> ?_) m3;simp only[if_true];exact hQ
  ·rename_i hij;obtain⟨c2',m1,m2⟩:=k9 j z' hj;refine⟨c2',fun k v hk=> ?_,m2.mono hV fun u' v' y' hQ=> ?_⟩
   ·rw[GY (by simpa using hcl) hle (fun e=>hij e.symm) (by have:=(List.getElem?_eq_some_iff.1 hk).1;rw[m2.length] at this;exact this)];exact m1 k v hk
   ·have hji:j≠i:=fun e=>hij e.symm;simp only[if_neg hji];rcases hQ with⟨h,_⟩|⟨_,h1,h2⟩|⟨_,h1,h2,h3⟩
    ·exfalso;cases hh with
     | none=>simp[fB] at h
     | some p=>obtain⟨k,q'⟩:=p;simp only[fB,map_some,Option.some.injEq,Prod.mk.injEq] at h;exact hji (h.1.symm.trans (hhole k q' rfl))
    ·exact .inr (.inl ⟨fun _ h=>by simp[fB] at h,by omega,h2.to hV fun c hc=>⟨Blk.set_ne (k7 j c hc).1,(if_neg (hbo_bs j c hc)).trans (k7 j c hc).2.1,(k7 j c hc).2.2⟩⟩)
    ·exact .inr (.inr ⟨fun _ h=>by simp[fB] at h,by omega,h2.mono hV,h3⟩)
end
theorem OB:∀ {t:Ty} {p:Nat×Ty},slF t=some p→bu t=false:=by
 intro t;induction t with
 | slice e=>intro p _;rfl
 | pair a b ha hb=>
  intro p h;simp only[slF] at h;split at h
  ·rename_i q hq;simp only[bu,ha hq,cond_false]
  ·cases hf:bu a with
   | false=>simp only[bu,hf,cond_false]
   | true=>
    rw[hf] at h;simp only[cond_true] at h;split at h
    ·rename_i q hq;simp only[bu,hf,hb hq,cond_true]
    ·simp at h
 | _=>intro p h;simp[slF] at h
theorem Yp {u:Ty} {y:u.den}:∀ {t:Ty} {x z:t.den} {off:Nat},bu t=true→dS t x off u y=some z→bu u=true:=by
 intro t;induction t with
 | pair a b ha hb=>
  intro x z off hf h;rw[dS] at h;obtain⟨fa,fb⟩:=az hf;cases hq:cond (Nat.beq off 0) (u.beq (Ty.pair a b)) false with
  | true=>obtain⟨_,h1⟩:=az hq;rw[Ty.beq_eq h1];exact hf
  | false=>
   rw[hq] at h;cases hb':blt off a.size with
   | true=>rw[hb'] at h;obtain⟨z1,hz1,_⟩:=bind_eq_some_iff.1 h;exact ha fa hz1
   | false=>rw[hb'] at h;obtain⟨z1,hz1,_⟩:=bind_eq_some_iff.1 h;exact hb fb hz1
 | _=>
  intro x z off hf h;rw[dS] at h
  ·cases h0:Nat.beq off 0 with
   | true=>rw[h0] at h;obtain⟨e,_⟩:=dm h;rw[e];exact hf
   | false=>rw[h0] at h;exact absurd h (by simp)
  ·intros;contradiction
section
variable {iv:IV} {Q Q':(u:Ty)→Value→List u.den→Prop}
theorem dQ.setPart {u:Ty} {pu:Nat×Ty} (hu:slF u=some pu) {y:u.den} {c':List Value} (hy:dQ iv Q' u c' y):∀ {t:Ty} {cs:List Value} {x z:t.den} {off:Nat},slF t=some (off+pu.1,pu.2)→dQ iv Q t cs x→dS t x off u y=some z→
  ∃ c1 c c2,cs=c1++(c++c2)∧c1.length=off∧c.length=u.size∧dQ iv Q' t (c1++(c'++c2)) z:=by
 have hnf:=OB hu;intro t;induction t with
 | pair a b ha hb=>
  intro cs x z off hs hc h;rw[dS] at h;cases hq:cond (Nat.beq off 0) (u.beq (Ty.pair a b)) false with
  | true=>rw[hq] at h;obtain⟨h0,h1⟩:=az hq;have e:=Ty.beq_eq h1;refine⟨[],cs,[],by simp,(eq_of_beq_eq_true h0).symm,by rw[hc.length,e],?_⟩;subst e;obtain⟨_,rfl⟩:=dm h;simpa using hy
  | false=>
   rw[hq] at h;obtain⟨c1,c2,rfl,h1,h2⟩:=hc;simp only[slF] at hs;split at hs
   ·rename_i q hq';cases hf:bu b with
    | false=>rw[hf] at hs;simp at hs
    | true=>rw[hf] at hs;simp only[cond_true,Option.some.injEq] at hs;subst hs;have hlt:=JU hq';have hb':blt off a.size=true:=ble_eq_true_of_le (by simp only at hlt;omega);rw[hb'] at h;obtain⟨z1,hz1,hz⟩:=bind_eq_some_iff.1 h;obtain rfl:=Option.some.inj hz;obtain⟨d1,d,d2,rfl,hd,hl,hr⟩:=ha hq' h1 hz1;exact⟨d1,d,d2++c2,by simp,hd,hl,_,c2,by simp,hr,(mO hf).2 ((mO hf).1 h2)⟩
   ·cases hf:bu a with
    | false=>rw[hf] at hs;simp at hs
    | true=>
     rw[hf] at hs;simp only[cond_true] at hs;split at hs
     ·rename_i q hq';simp only[Option.some.injEq,Prod.mk.injEq] at hs;obtain⟨e1,e2⟩:=hs;cases hb':blt off a.size with
      | true=>rw[hb'] at h;obtain⟨z1,hz1,_⟩:=bind_eq_some_iff.1 h;rw[Yp hf hz1] at hnf;exact noConfusion hnf
      | false=>rw[hb'] at h;have hge:=Cm hb';obtain⟨z1,hz1,hz⟩:=bind_eq_some_iff.1 h;obtain rfl:=Option.some.inj hz;obtain⟨d1,d,d2,rfl,hd,hl,hr⟩:=hb (off:=off-a.size) (by rw[hq'];congr 1;exact Prod.ext (by simp only;omega) e2) h2 hz1;exact⟨c1++d1,d,d2,by simp,by rw[length_append,h1.length,hd];omega,hl,c1,_,by simp,(mO hf).2 ((mO hf).1 h1),hr⟩
     ·simp at hs
 | slice e=>
  intro cs x z off hs hc h;simp only[slF,Option.some.injEq,Prod.mk.injEq] at hs;obtain⟨e1,e2⟩:=hs;obtain rfl:off=0:=by omega
  rw[dS] at h
  ·simp only[cond] at h;obtain⟨e3,rfl⟩:=dm h;refine⟨[],cs,[],by simp,rfl,by rw[hc.length,e3],?_⟩;subst e3;simpa using hy
  ·intros;contradiction
 | _=>intro cs x z off hs;simp[slF] at hs
end
section
variable {P:Program} {tab:Tab} {C:Ctx} {g:Gh} {S:Nat→SV} {H:HLoc→SV} {a:Act} {w:World}
theorem zbW {r q:Nat} {v:SV} (hrq:q≠r) (h:¬ kP H q):¬ kP (ak H (.row r) v) q:=by
 rintro(⟨p,e,l,h'⟩|⟨e,l,n,hh,h'⟩)
 ·rw[ay _ _ (by simpa using hrq)] at h';exact h (.inl ⟨p,e,l,h'⟩)
 ·rw[ay _ _ (by simpa using hrq)] at h';exact h (.inr ⟨e,l,n,hh,h'⟩)
theorem SimG.attachS (hs:SimG C g S H a w) {r q:Nat} (hrq:q≠r) {e:Ty} {l:List e.den} {n:Nat} {hh:Option (Nat×Nat)} (hrow:H (.row r)=.deep e l n hh) {i:Nat} {x z:e.den} (hi:l[i]? = some x) (hin:i≤n) (hhole:∀ k q,hh=some (k,q)→k=i) {off:Nat} {u:Ty} {pu:Nat×Ty} {y:u.den} {bo:Option Nat} {c':List Value}
  (hpu:slF u=some pu) (hsl:slF e=some (off+pu.1,pu.2)) (hy:dQ (view g.fl w) (fun u' v' y'=>gI g.fl g.own w v' (.row q) u' y' bo) u c' y) (hbo:∀ c,bo=some c→g.own c=some (.row q)∧g.fl c=0) (hdq:bo=none∨¬ kP H q) (hset:dS e x off u y=some z) {t:TypeId} (hT:TyW P t u) {vv:Value} (hvv:vv.cells.toList=c') {bl len cap0:Nat} (hbl:g.hd r=.slice (some ⟨bl,0,none⟩) len cap0) :
  ∃ w' g',(storeVar t ⟨bl,i*e.size+off,none⟩ vv).run P w=.ok () w'∧SimG C g' S (ak (ak H (.row r) .und) (.row r) (.deep e (l.set i z) (oW n (i+1)) none)) a w':=by
 obtain⟨d1,d2,hD⟩:=hs.deeps r e l n hh hrow;rcases hD with⟨_,h2⟩|⟨b,cap,cs,bs,k1,k2,k3,k4,k5,k6,k7,k8,k9⟩
 ·rw[h2] at hi;simp at hi
 obtain rfl:bl=b:=by rw[k1] at hbl;cases hbl;rfl
 obtain⟨c,c1,c2⟩:=k9 i x hi;have hil:i<l.length:=(List.getElem?_eq_some_iff.1 hi).1;have hn':oW n (i+1)=max n (i+1):=by
  unfold oW;by_cases h:n≤i+1
  ·rw[decide_eq_true h];simp only[cond];omega
  ·rw[decide_eq_false h];simp only[cond];omega
 rw[hn'];have hle:i*e.size+e.size≤cs.length:=by have:(i+1)*e.size≤cap*e.size:=mul_le_mul_right _ (by omega);rw[add_mul,one_mul] at this;omega
 obtain⟨p1,v,p2,rfl,p3,p4,_⟩:=dQ.setPart (Q':=fun u' v' y'=>gI g.fl g.own w v' (.row q) u' y' bo) hpu hy hsl c2 hset;have hcl:=c2.length;have hcut:=Jo c1 hcl hle;have htl:(cs.take (i*e.size)).length=i*e.size:=by rw[length_take];omega
 have hb:Blk w bl ((cs.take (i*e.size)++p1)++(v++(p2++cs.drop (i*e.size+e.size)))):=by rw[hcut] at k3;simpa using k3
 have hL:(cs.take (i*e.size)++p1).length=i*e.size+off:=by rw[length_append,htl,p3]
 have hrun:=tK (P:=P) hT (v:=vv) (cs:=c') (by rw[←hvv]) hy.length hy.ones hb p4;rw[hL] at hrun;have hvl:v.length=c'.length:=by rw[p4,hy.length]
 have hblk:=Blk.setCells (vs:=c') (o:=i*e.size+off) hb hL (by rw[p4,hy.length]);have hbo_b:bo≠some bl:=fun h=>by have:=(hbo bl h).1;rw[k5] at this;cases this;exact hrq rfl
 have hbo_bs:∀ j c,bs j=some c→bo≠some c:=fun j c h1 h2=>by have:=(hbo c h2).1;rw[(k7 j c h1).2.1] at this;cases this;exact hrq rfl
 let own':Nat→Option Own:=fun c=>if bo=some c then some (.row r) else g.own c
 have hs2:=(hs.drop (l:=.row r) (.inr ⟨r,rfl⟩)).turnSet (b:=bl) (o:=i*e.size+off) (vs:=c') lF k5 k6;have hs3:SimG C { g with own:=own' } S (ak H (.row r) .und) a (w.setCells bl (i*e.size+off) c'):=by
  rcases hdq with hdq|hdq
  ·have:own'=g.own:=funext fun c=>if_neg (by rw[hdq];exact fun h=>by cases h);rw[this];exact hs2
  ·exact hs2.turnAll (o:=.row q) (fl':=g.fl) (own':=own') (w':=w.setCells bl (i*e.size+off) c') (zbW hrq hdq) (fun _ _ _=>rfl) (fun c hc=>if_neg fun h=>hc (hbo c h).1) (fun _ _=>rfl) rfl ⟨rfl,rfl,rfl⟩ fun _ _ _ _ hp hv=>⟨hp,hv⟩
 have hV:(view g.fl w).le (view g.fl (w.setCells bl (i*e.size+off) c')):=vI k6;refine⟨_,_,hrun,hs3.setDeep (r:=r) (h:=none) ⟨by rw[length_set];omega,fun k z hk=>by simp[fB] at hk,.inr ⟨bl,cap,_,fun j=>if j=i then bo else bs j,by rw[length_set];exact k1,by rw[length_set];exact k2,hblk,?_,?_,k6,fun j c hc=> ?_,fun j k c hj hk=> ?_,fun j z' hj=> ?_⟩⟩ fun j q hq=>by cases hq⟩
 ·rw[hcut] at k4;simp only[length_append] at k4 ⊢;omega
 ·show(if bo=some bl then _ else _)=_;rw[if_neg hbo_b];exact k5
 ·dsimp only at hc;show c≠bl∧(if bo=some c then _ else _)=_∧g.fl c=0;split at hc
  ·exact⟨fun e=>hbo_b (e▸hc),if_pos hc,(hbo c hc).2⟩
  ·obtain⟨q1,q2,q3⟩:=k7 j c hc;exact⟨q1,(if_neg (hbo_bs j c hc)).trans q2,q3⟩
 ·dsimp only at hj hk;split at hj
  ·split at hk
   ·omega
   ·exact absurd hj (hbo_bs k c hk)
  ·split at hk
   ·exact absurd hk (hbo_bs j c hj)
   ·exact k8 j k c hj hk
 ·have hcs:(cs.take (i*e.size)++p1)++(c'++(p2++cs.drop (i*e.size+e.size)))=cs.take (i*e.size)++((p1++(c'++p2))++cs.drop (i*e.size+e.size)):=by simp
  rw[hcs];rw[getElem?_set] at hj;split at hj
  ·rename_i hij;subst hij;obtain rfl:=Option.some.inj hj;refine⟨p1++(c'++p2),G7 hle,?_⟩;have hy2:dQ (view g.fl (w.setCells bl (i*e.size+off) c')) (lV g.fl own' (w.setCells bl (i*e.size+off) c') (.row r) (max n (i+1)) none i bo) u c' y:=
    hy.mono hV fun u' v' y' hB=>.inr (.inl ⟨fun _ h=>(by cases h),by omega,hB.to hV fun c hc=>⟨Blk.set_ne fun e=>hbo_b (e▸hc),if_pos hc,(hbo c hc).2⟩⟩)
   obtain⟨r1,v2,r2,m1,m2,m3,m4⟩:=dQ.setPart (Q':=lV g.fl own' (w.setCells bl (i*e.size+off) c') (.row r) (max n (i+1)) none i bo) hpu hy2 hsl (c2.mono hV fun _ _ _ h=>h) hset;obtain⟨rfl,h2⟩:=append_inj m1 (by omega);obtain⟨rfl,rfl⟩:=append_inj h2 (by omega);simp only[if_true];exact m4
  ·rename_i hij;obtain⟨c2',m1,m2⟩:=k9 j z' hj;refine⟨c2',fun k v hk=> ?_,m2.mono hV fun u' v' y' hQ=> ?_⟩
   ·rw[GY (by simp only[length_append] at hcl ⊢;omega) hle (fun e=>hij e.symm) (by have:=(List.getElem?_eq_some_iff.1 hk).1;rw[m2.length] at this;exact this)];exact m1 k v hk
   ·have hji:j≠i:=fun e=>hij e.symm;simp only[if_neg hji];rcases hQ with⟨h,_⟩|⟨_,h1,h2⟩|⟨_,h1,h2,h3⟩
    ·exfalso;cases hh with
     | none=>simp[fB] at h
     | some p=>obtain⟨k,q'⟩:=p;simp only[fB,map_some,Option.some.injEq,Prod.mk.injEq] at h;exact hji (h.1.symm.trans (hhole k q' rfl))
    ·exact .inr (.inl ⟨fun _ h=>by simp[fB] at h,by omega,h2.to hV fun c hc=>⟨Blk.set_ne (k7 j c hc).1,(if_neg (hbo_bs j c hc)).trans (k7 j c hc).2.1,(k7 j c hc).2.2⟩⟩)
    ·exact .inr (.inr ⟨fun _ h=>by simp[fB] at h,by omega,h2.mono hV,h3⟩)
end
theorem pK {iv:IV} {v:Value} {x:Bool} (h:bM iv .bool v x):v=.bool x:=by obtain⟨cs,rfl,rfl⟩:=h;rfl
theorem lH {iv:IV} {k:IntKind} {v:Value} {x:Int} (h:bM iv (.int k) v x):v=.int k x:=by obtain⟨cs,rfl,rfl⟩:=h;rfl
theorem pX {iv:IV} {v:Value} {x:UInt8} (h:bM iv .u8 v x):v=.int .u8 (x.toNat:Nat):=by obtain⟨cs,rfl,rfl⟩:=h;rfl
theorem oh {iv:IV} {v:Value} {x:List UInt8} (h:bM iv .str v x):∃ s:ByteArray,v=.string s∧s.data.toList=x:=by obtain⟨cs,⟨s,rfl,hs⟩,rfl⟩:=h;exact⟨s,rfl,hs⟩
theorem jS {iv:IV} (x:Bool):bM iv .bool (.bool x) x:=⟨[.bool x],rfl,rfl⟩
theorem kT {iv:IV} (k:IntKind) (x:Int):bM iv (.int k) (.int k x) x:=⟨[.int k x],rfl,rfl⟩
theorem zL {iv:IV} (x:UInt8):bM iv .u8 (.int .u8 (x.toNat:Nat)) x:=⟨[.int .u8 (x.toNat:Nat)],rfl,rfl⟩
theorem zi {iv:IV} (s:ByteArray) {x:List UInt8} (h:s.data.toList=x):bM iv .str (.string s) x:=⟨[.string s],⟨s,rfl,h⟩,rfl⟩
def Done (C:Ctx) (S:Nat→SV) (H:HLoc→SV) (a:Act) (run:Result Next) (v:SV) (hw:HW):Prop:=
 ∃ nx val w' g',run=.ok nx w'∧(nx=.value val∨(nx=.skip∧val=undef))∧SimG C g' S (puts H hw) a w'∧SR g' (view g'.fl w') v val∧aG (puts H hw) v
section
variable {C:Ctx} {g:Gh} {S:Nat→SV} {H:HLoc→SV} {a:Act} {w:World}
theorem Done.pure (hs:SimG C g S H a w) {run:Result Next} {v:SV} {val:Value} (hrun:run=.ok (.value val) w) (hv:SR g (view g.fl w) v val) (hr:aG H v) :
  Done C S H a run v []:=⟨_,val,w,g,hrun,.inl rfl,hs,hv,hr⟩
theorem Done.pubs (hs:SimG C g S H a w) {run:Result Next} {v:SV} {val:Value} {hw:HW} (hp:bC H hw) (hrun:run=.ok (.value val) w) (hr:aG (puts H hw) v)
  (hv:∀ fl own,l9 H hw { g with fl:=fl,own:=own } (view fl w)→(view g.fl w).le (view fl w)→SimG C { g with fl:=fl,own:=own } S (puts H hw) a w→SR { g with fl:=fl,own:=own } (view fl w) v val):Done C S H a run v hw:=by
 obtain⟨fl,own,k1,k2⟩:=hs.pubs hp;exact⟨_,val,w,_,hrun,.inl rfl,k1,hv fl own (k1.rowsRd hp) k2 k1,hr⟩
theorem zdK {iv:IV} (v:Value):SR g iv (cSV v) v:=by
 unfold cSV;split
 ·rename_i k n;unfold MF;cases hk:Me k with
  | false=>exact kT k n
  | true=>
   simp only[cond];obtain rfl:=vY hk;split
   ·rename_i m;cases hm:blt m 256 with
    | false=>trivial
    | true=>have hlt:m<256:=le_of_ble_eq_true hm;have:=zL (iv:=iv) (UInt8.ofNat m);rw[show(UInt8.ofNat m).toNat=m from by simp;omega] at this;exact this
   ·trivial
 ·exact jS _
 ·exact zi _ rfl
 ·rename_i len cap;cases h1:Nat.beq len 0 with
  | false=>trivial
  | true=>
   cases h2:Nat.beq cap 0 with
   | false=>trivial
   | true=>rw[eq_of_beq_eq_true h1,eq_of_beq_eq_true h2];rfl
 ·rfl
 ·trivial
theorem zcT (v:Value):aG H (cSV v):=by
 unfold cSV;split<;>try exact trivial
 ·unfold MF;cases Me _<;>simp only[cond]<;>try exact trivial
  split<;>try exact trivial
  cases blt _ _<;>exact trivial
 ·cases Nat.beq _ _<;>try exact trivial
  cases Nat.beq _ _<;>exact trivial
theorem SimG.ev (hs:SimG C g S H a w) (o:Operand):SR g (view g.fl w) (evS S o) (a.eval o)∧aG H (evS S o):=by
 cases o with
 | tmp t=>exact⟨hs.slots t,hs.refS t⟩
 | const v=>exact⟨zdK v,zcT v⟩
 | global gl=>exact⟨trivial,trivial⟩
 | func f=>exact⟨rfl,fun i hi=>absurd hi (by omega)⟩
theorem og {iv:IV} {s:SV} {v:Value} {n:Int} (h:SR g iv s v) (hn:jF s=some n):∃ k,v=.int k n:=by
 unfold jF at hn;split at hn
 ·cases hn;exact⟨_,lH h⟩
 ·cases hn;exact⟨.u8,pX h⟩
 ·exact absurd hn (by simp)
def Tj (op:BinOp) (k:IntKind) (x y:Int):Sem Value:=
 match op with
 | .add|.sub|.mul=>Op.intArith op k x y
 | .quo|.rem=>Op.intDiv op k x y
 | .and|.or|.xor|.andNot=>Op.intBits op k x y
 | _=>Op.intCmp op x y
theorem vF {op:BinOp} (h:op≠.shl) (h':op≠.shr) (xt:TypeId) (k:IntKind) (x y:Int):binOp op xt (.int k x) (.int k y)=Tj op k x y:=by
 cases op<;>first|exact absurd rfl h|exact absurd rfl h'|simp[binOp,Tj]
theorem SK {P:Program} {k:IntKind} {x y z:Int} (h:EE k x y=some z):(Op.intDiv .quo k x y).run P w=.ok (.int k z) w∧¬ y=0∧z=k.wrap (x.tdiv y):=by
 unfold EE at h;by_cases h0:y=0
 ·simp[h0] at h
 ·simp[h0] at h;subst h;exact⟨by simp only[Op.intDiv,if_neg h0];rfl,h0,rfl⟩
theorem SG {P:Program} {k:IntKind} {x y z:Int} (h:nP x y=some z):(Op.intDiv .rem k x y).run P w=.ok (.int k z) w∧¬ y=0∧z=x.tmod y:=by
 unfold nP at h;by_cases h0:y=0
 ·simp[h0] at h
 ·simp[h0] at h;subst h;exact⟨by simp only[Op.intDiv,if_neg h0];rfl,h0,rfl⟩
theorem zb9 {P:Program} {op:BinOp} {k:IntKind} {x y:Int} {fp fp':List HLoc} {v:SV} {hw:HW} (h:(U3 op k x y).run H fp=some ((v,hw),fp')) (xt:TypeId) :
  hw=[]∧∃ val,(binOp op xt (.int k x) (.int k y)).run P w=.ok val w∧(∀ g iv,SR g iv v val)∧∀ H',aG H' v:=by
 by_cases h1:op=.quo
 ·subst h1;obtain⟨z,hz,h⟩:=bP h;obtain⟨e,_⟩:=af h;cases e;exact⟨rfl,.int k z,by rw[vF (by simp) (by simp)];exact(SK hz).1,fun _ iv=>kT _ _,fun _=>trivial⟩
 by_cases h2:op=.rem
 ·subst h2;obtain⟨z,hz,h⟩:=bP h;obtain⟨e,_⟩:=af h;cases e;exact⟨rfl,.int k z,by rw[vF (by simp) (by simp)];exact(SG hz).1,fun _ iv=>kT _ _,fun _=>trivial⟩
 cases op<;>first
  | exact(h1 rfl).elim
  | exact(h2 rfl).elim
  | exact(ae h).elim
  | (obtain⟨e,_⟩:=af h
     cases e;rw[vF (by simp) (by simp)]
     first
      | exact⟨rfl,_,rfl,fun _ iv=>kT _ _,fun _=>trivial⟩
      | exact⟨rfl,_,rfl,fun _ iv=>jS _,fun _=>trivial⟩)
theorem zce (n:Int):((byteOf (wrap .u8 n)).toNat:Int)=wrap .u8 n:=by
 unfold byteOf wrap;simp[IntKind.bits,IntKind.signed];omega
theorem I9 (b:UInt8):0≤aB b∧aB b<256:=by unfold aB;have:=b.toNat_lt;omega
theorem Uh {z:Int} (h:0≤z∧z<256):((byteOf z).toNat:Int)=z:=by
 unfold byteOf;simp;omega
theorem zh {iv:IV} (n:Int):bM iv .u8 (.int .u8 (wrap .u8 n)) (byteOf (wrap .u8 n)):=by
 have:=zL (iv:=iv) (byteOf (wrap .u8 n));rwa[zce] at this
theorem zcb {P:Program} {op:BinOp} {x y:UInt8} {fp fp':List HLoc} {v:SV} {hw:HW} (h:(U5 op x y).run H fp=some ((v,hw),fp')) (xt:TypeId) :
  hw=[]∧∃ val,(binOp op xt (.int .u8 (x.toNat:Nat)) (.int .u8 (y.toNat:Nat))).run P w=.ok val w∧(∀ g iv,SR g iv v val)∧∀ H',aG H' v:=by
 have hx:=I9 x;have hy:=I9 y;by_cases h1:op=.quo
 ·subst h1;obtain⟨z,hz,h⟩:=bP h;obtain⟨e,_⟩:=af h;cases e;obtain⟨q1,q2,q3⟩:=SK (P:=P) (w:=w) hz;refine⟨rfl,.int .u8 z,by rw[vF (by simp) (by simp)];exact q1,fun _ iv=> ?_,fun _=>trivial⟩;rw[q3];exact zh _
 by_cases h2:op=.rem
 ·subst h2;obtain⟨z,hz,h⟩:=bP h;obtain⟨e,_⟩:=af h;cases e;obtain⟨q1,q2,q3⟩:=SG (P:=P) (w:=w) (k:=.u8) hz;refine⟨rfl,.int .u8 z,by rw[vF (by simp) (by simp)];exact q1,fun _ iv=> ?_,fun _=>trivial⟩;have hr:0≤z∧z<256:=by
   rw[q3,Int.tmod_eq_emod_of_nonneg hx.1];have h1:=Int.emod_nonneg (aB x) q2;have h2:=Int.emod_lt_of_pos (aB x) (show 0<aB y by omega);omega
  have:=zL (iv:=iv) (byteOf z);rwa[Uh hr] at this
 cases op<;>first
  | exact(h1 rfl).elim
  | exact(h2 rfl).elim
  | exact(ae h).elim
  | (obtain⟨e,_⟩:=af h
     cases e;rw[vF (by simp) (by simp)]
     first
      | exact⟨rfl,_,rfl,fun _ iv=>zh _,fun _=>trivial⟩
      | exact⟨rfl,_,rfl,fun _ iv=>jS _,fun _=>trivial⟩)
theorem Tc (a b:List UInt8):(a == b)=decide (a=b):=by rw[Bool.eq_iff_iff];simp
def Sv (op:BinOp) (a b:List UInt8):Value:=
 match op with
 | .eql=>.bool (decide (a=b))
 | .neq=>.bool (!decide (a=b))
 | .lss=>.bool (aY a b)
 | .leq=>.bool (aY a b || decide (a=b))
 | .gtr=>.bool (!(aY a b || decide (a=b)))
 | _=>.bool (!aY a b)
theorem zck {P:Program} {op:BinOp} (h:op=.eql∨op=.neq∨op=.lss∨op=.leq∨op=.gtr∨op=.geq) (xt:TypeId) (s t:ByteArray) :
  (binOp op xt (.string s) (.string t)).run P w=.ok (Sv op s.data.toList t.data.toList) w:=by
 rcases h with h|h|h|h|h|h<;>subst h<;>simp only[binOp,Op.stringOp,ByteArray.toList_eq,Tc,Sv,aY,run_pure]
theorem zb8 {P:Program} {op:BinOp} {x y:List UInt8} {fp fp':List HLoc} {v:SV} {hw:HW} (h:(U2 op x y).run H fp=some ((v,hw),fp')) (xt:TypeId)
  (s t:ByteArray) (hs:s.data.toList=x) (ht:t.data.toList=y) :
  hw=[]∧∃ val,(binOp op xt (.string s) (.string t)).run P w=.ok val w∧(∀ g iv,SR g iv v val)∧∀ H',aG H' v:=by
 subst hs ht;by_cases ha:op=.add
 ·subst ha;obtain⟨z,hz,h⟩:=bP h;obtain⟨e,_⟩:=af h;cases e;unfold bF at hz;cases hb:ble (s.data.toList.length+t.data.toList.length) bI with
  | false=>rw[hb] at hz;exact absurd hz (by simp)
  | true=>
   rw[hb] at hz;simp only[cond,Option.some.injEq] at hz;subst hz;have hle:=le_of_ble_eq_true hb;simp only[Array.length_toList,ByteArray.size_data,bI] at hle;refine⟨rfl,.string (s++t),?_,fun _ iv=>zi _ (by simp),fun _=>trivial⟩;have hn:¬ ((s.size+t.size:Nat):Int)>IntKind.i64.max:=by simp[IntKind.max,IntKind.signed,IntKind.bits];omega
   simp only[binOp,Op.stringOp];rw[if_neg hn];rfl
 cases op<;>first
  | exact(ha rfl).elim
  | exact(ae h).elim
  | (obtain⟨e,_⟩:=af h
     cases e;exact⟨rfl,_,zck (by simp) xt s t,fun _ iv=>jS _,fun _=>trivial⟩)
theorem zca {P:Program} {op:BinOp} {x y:Bool} {fp fp':List HLoc} {v:SV} {hw:HW} (h:(U4 op x y).run H fp=some ((v,hw),fp')) (xt:TypeId) (hu:P.underlying xt=some .bool) :
  hw=[]∧∃ val,(binOp op xt (.bool x) (.bool y)).run P w=.ok val w∧(∀ g iv,SR g iv v val)∧∀ H',aG H' v:=by
 cases op<;>first
  | exact(ae h).elim
  | (obtain⟨e,_⟩:=af h
     cases e
     first
      | exact⟨rfl,_,run_eql_bool w xt x y hu,fun _ iv=>jS _,fun _=>trivial⟩
      | exact⟨rfl,_,run_neq_bool w xt x y hu,fun _ iv=>jS _,fun _=>trivial⟩)
theorem BQ {P:Program} (op:BinOp) (t:TypeId) (x y:Operand) (k k':IntKind) (a b:Int):(eqGuard op t x y (.int k a) (.int k' b)).run P w=.ok () w:=by cases op<;>simp[eqGuard]
theorem YH {P:Program} (op:BinOp) (t:TypeId) (x y:Operand) (a b:ByteArray):(eqGuard op t x y (.string a) (.string b)).run P w=.ok () w:=by cases op<;>simp[eqGuard]
theorem Yi {P:Program} (op:BinOp) (t:TypeId) (x y:Operand) (a b:Bool):(eqGuard op t x y (.bool a) (.bool b)).run P w=.ok () w:=by cases op<;>simp[eqGuard]
theorem OV {P:Program} (op:BinOp) (t:TypeId) (x y:Operand) (a b:Option Addr):(eqGuard op t x y (.pointer a) (.pointer b)).run P w=.ok () w:=by cases op<;>simp[eqGuard]
end
def Kw (P:Program) (f:FuncId) (t:Ty):Prop:=
 (∃ fn, P.funcs[f]? = some fn ∧ fn.body.isNone = false ∧ (fn.name == "runtime.NumGoroutine") = false) ∧
 ∀ {w:World} {cs:List Value},cs.length=t.size→(∀ c∈cs,oneC c=true)→Calls P f #[.agg cs.toArray] w fun e w'=>e=.returned (.agg cs.toArray)∧Ext w (fun _=>False) w'
structure TabOk (P:Program) (tab:Tab):Prop where
 tys:∀ {t:TypeId} {ty:Ty},tl tab t=some ty→TyOk P tab t ty
 ptrs:∀ {t:TypeId},nD tab.ptrs t=true→P.underlying t=some (.pointer (P.pointee t))∧(P.info? t).map (fun i=>(i.size,i.zero))=some (1,some (.pointer none))
 arrs:oJ P tab tab.arrs
 sames:∀ {f:FuncId} {t:Ty},rG tab.sames f=some t→Kw P f t
theorem Z4 {P:Program} {tab:Tab} (h:zt P tab tab.tys) (h':zx P tab.ptrs) (h2:oJ P tab tab.arrs) (h3:tab.sames=[]:=by rfl):TabOk P tab:=⟨fun ht=>zda h ht,fun ht=>TJ h' ht,h2,fun h=>by rw[h3] at h;simp[rG] at h⟩
theorem Tn (e:Ty):∀ n:Nat,(dI e n).agg=true
 | 0=>rfl
 | _+1=>rfl
theorem JK (e:Ty):∀ n:Nat,structEnd (dI e n)=true
 | 0=>rfl
 | n+1=>JK e n
theorem TabOk.w {P:Program} {tab:Tab} (hTab:TabOk P tab) {t:TypeId} {ty:Ty} (h:tla tab t=some ty) :
  TyW P t ty∧((TyOk P tab t ty∧iW tab.arrs t=none)∨(∃ et e n,iW tab.arrs t=some (et,n)∧tl tab et=some e∧ty=dI e n∧P.underlying t=some (.array n et))∨ty.agg=false):=by
 unfold tla at h;split at h
 ·rename_i p hp;obtain⟨et,n⟩:=p;split at h
  ·rename_i e he;obtain rfl:=Option.some.inj h;obtain⟨e',he',hu,hi⟩:=zo hTab.arrs hp;obtain rfl:e=e':=Option.some.inj (he.symm.trans he');obtain⟨i,h1,h2⟩:=map_eq_some_iff.1 hi;simp only[Prod.mk.injEq] at h2;exact⟨⟨⟨i,h1,h2⟩,fun w=>by simp[Go.isAgg,underlying,hu,Tn]⟩,.inr (.inl ⟨et,e,n,hp,he,rfl,hu⟩)⟩
  ·exact absurd h (by simp)
 ·split at h
  ·rename_i ty' ht;obtain rfl:=Option.some.inj h;exact⟨(hTab.tys ht).w,.inl ⟨hTab.tys ht,by assumption⟩⟩
  ·cases hp:nD tab.ptrs t with
   | false=>rw[hp] at h;exact absurd h (by simp)
   | true=>rw[hp] at h;obtain rfl:=Option.some.inj h;obtain⟨hu,hi⟩:=hTab.ptrs hp;obtain⟨i,h1,h2⟩:=map_eq_some_iff.1 hi;simp only[Prod.mk.injEq] at h2;exact⟨⟨⟨i,h1,h2⟩,fun w=>by simp[Go.isAgg,underlying,hu,Ty.agg]⟩,.inr (.inr rfl)⟩
section
variable {P:Program} {tab:Tab} {C:Ctx} {g:Gh} {S:Nat→SV} {H:HLoc→SV} {a:Act} {w:World}
theorem Ud {cv:Nat→Value}:∀ {t:Ty} {i:Nat},kz cv t i→(fK cv t i).length=t.size∧∀ c∈fK cv t i,oneC c=true:=by
 intro t;induction t with
 | pair A B _ hB=>rintro i ⟨_,h2,h3,h4⟩;obtain⟨k1,k2⟩:=hB h4;refine⟨by simp only[fK,length_append,h2,k1,Ty.size],fun c hc=> ?_⟩;simp only[fK] at hc;exact(mem_append.1 hc).elim (h3 c) (k2 c)
 | unit=>intro i _;exact⟨rfl,fun c hc=>by simp[fK] at hc⟩
 | _=>intro i h;exact h.elim
theorem JO {g:Gh} {iv:IV} {d:Nat} {t A:Ty} {val:Value} (h:SR g iv (.agg d t) val) (ha:A.agg=true) (hsz:t.size=A.size):val=mkV A val.cells.toList∧val.cells.toList.length=A.size∧∀ c∈val.cells.toList,oneC c=true:=by
 obtain⟨_,rfl,h3⟩:=h;obtain⟨k1,k2⟩:=Ud h3;refine⟨by simp[mkV,ha,Value.cells],?_,fun c hc=>k2 c (by simpa[Value.cells] using hc)⟩;rw[←hsz,←k1];simp[Value.cells]
theorem qf {t:Ty} {v:SV} {fp fp':List HLoc} {u:Unit} (hs:SimG C g S H a w) (h:(fits t v).run H fp=some (u,fp')) {val:Value} (hv:SR g (view g.fl w) v val) :
  v≠.bot∧val=mkV t val.cells.toList∧val.cells.toList.length=t.size∧∀ c∈val.cells.toList,oneC c=true:=by
 have one:∀ {t:Ty} {x:Value},t.agg=false→oneC x=true→x.cells = #[x]→x=mkV t x.cells.toList∧x.cells.toList.length=t.size∧∀ c∈x.cells.toList,oneC c=true:=by intro t x ha ho hc;rw[hc];exact⟨by simp[mkV,ha],by simp[oq ha],by simpa using ho⟩
 cases v with
 | pv t' x=>
  simp only[fits] at h;cases hb:t'.beq t with
  | false=>rw[hb] at h;exact(ae h).elim
  | true=>obtain rfl:=Ty.beq_eq hb;have hc:=bM.cells hv;exact⟨SV.noConfusion,bM.eq_mkV hv,hc.length,hc.ones⟩
 | lv t' x=>
  simp only[fits] at h;cases hb:t'.beq t with
  | false=>rw[hb] at h;exact(ae h).elim
  | true=>obtain rfl:=Ty.beq_eq hb;have hc:=bM.cells hv;exact⟨SV.noConfusion,bM.eq_mkV hv,hc.length,hc.ones⟩
 | nils=>
  cases t<;>simp only[fits] at h<;>first|exact(ae h).elim|skip
  rw[show val=_ from hv];exact⟨SV.noConfusion,one rfl rfl rfl⟩
 | nilp=>
  cases t<;>simp only[fits] at h<;>first|exact(ae h).elim|skip
  all_goals
   rw[show val=_ from hv];exact⟨SV.noConfusion,one rfl rfl rfl⟩
 | hdr r=>
  cases t<;>simp only[fits] at h<;>first|exact(ae h).elim|skip
  simp only[Rd.run] at h;split at h
  ·rename_i p e l hrow;rw[show val=_ from hv];rcases hs.rows r p e l hrow with⟨h1,h2⟩|⟨b,cap,cs,h1,_⟩
   ·rw[h1];exact⟨SV.noConfusion,one rfl rfl rfl⟩
   ·rw[h1];exact⟨SV.noConfusion,one rfl rfl rfl⟩
  ·rename_i e l n hh hrow;rw[show val=_ from hv];rcases(hs.deeps r e l n hh hrow).shape with⟨h1,_⟩|⟨b,cap,h1,_⟩
   ·rw[h1];exact⟨SV.noConfusion,one rfl rfl rfl⟩
   ·rw[h1];exact⟨SV.noConfusion,one rfl rfl rfl⟩
  ·exact(ae h).elim
 | adr s o=>
  simp only[fits] at h;rw[show val=_ from hv];refine⟨SV.noConfusion,one ?_ rfl rfl⟩;cases hb:t.beq bU with
  | true=>obtain rfl:=Ty.beq_eq hb;rfl
  | false=>rw[hb] at h;cases t<;>first|exact(ae h).elim|rfl
 | own r=>
  have hone:t.agg=false∧oneC val=true∧val.cells = #[val]:=by
   cases t<;>simp only[fits] at h<;>first|exact(ae h).elim|skip
   rcases hv with⟨h1,_⟩|⟨b,h1,_⟩<;>rw[h1]<;>exact⟨rfl,rfl,rfl⟩
  exact⟨SV.noConfusion,one hone.1 hone.2.1 hone.2.2⟩
 | cpy d i t'=>
  simp only[fits] at h;cases hb:t'.beq t with
  | false=>rw[hb] at h;exact(ae h).elim
  | true=>obtain rfl:=Ty.beq_eq hb;exact⟨SV.noConfusion,hv.2⟩
 | agg d t'=>
  simp only[fits] at h;cases hb:cond t.agg (Nat.beq t'.size t.size) false with
  | false=>rw[hb] at h;exact(ae h).elim
  | true=>obtain⟨c1,c2⟩:=az hb;exact⟨SV.noConfusion,JO hv c1 (eq_of_beq_eq_true c2)⟩
 | _=>exact(ae h).elim
theorem oz {t:Ty} {v:SV} {fp fp':List HLoc} {x:t.den} {hw:HW} (hs:SimG C g S H a w) (h:(jM t v).run H fp=some ((x,hw),fp')) {val:Value}
  (hv:SR g (view g.fl w) v val) (hr:aG H v) :
  bC H hw∧∀ fl own,l9 H hw { g with fl:=fl,own:=own } (view fl w)→(view g.fl w).le (view fl w)→bM (view fl w) t val x:=by
 cases v with
 | agg d t'=>
  simp only[jM] at h;obtain⟨h1,h2,h3⟩:=hv;have hF:=qR hs (d:=d) h3;have hF':=fun fl own (hle:(view g.fl w).le (view fl w))=>dF.change (H:=H) (GAgree.same (g:=g) (g':={ g with fl:=fl,own:=own }) rfl rfl rfl) hle (fun i=>hs.refC d i) hF;cases hb:t'.beq t with
  | false=>
   rw[hb] at h;cases ha:t.agg with
   | false=>rw[ha] at h;exact(ae h).elim
   | true=>
   rw[ha] at h;obtain⟨⟨y,hw1⟩,fp1,k1,h⟩:=ah (show((gather (.comp d) t' 0).bind _).run H fp=_ from h);obtain⟨z,fp2,k2,h⟩:=ah h;obtain⟨e,_⟩:=af h;cases e;obtain⟨k2,_⟩:=aS k2;obtain⟨k3,k4⟩:=qU k1;refine⟨k3,fun fl own hR hle=> ?_⟩;have:=yY (k4 _ _ _ hR (hF' fl own hle)) k2;refine⟨_,this,?_⟩;rw[h2];simp[mkV,ha]
  | true=>rw[hb] at h;obtain rfl:=Ty.beq_eq hb;obtain⟨k1,k2⟩:=qU h;refine⟨k1,fun fl own hR hle=> ?_⟩;have:=k2 _ _ _ hR (hF' fl own hle);exact⟨_,this,by rw[h2];simp[mkV,h1]⟩
 | _=>simp only[jM] at h;obtain⟨k1,k2⟩:=vK h;exact⟨k1,fun fl own hR hle=>k2 _ _ _ hR (SR.change (H:=H) (GAgree.same (g:=g) (g':={ g with fl:=fl,own:=own }) rfl rfl rfl) hle hr hv)⟩
theorem zaD {iv:IV} {v:SV} {val:Value} {b:Bool} (h:ng v=some b) (hv:SR g iv v val):∃ p,val=.pointer p∧p.isNone=b:=by
 cases v with
 | nilp=>simp only[ng,Option.some.injEq] at h;subst h;exact⟨none,hv,rfl⟩
 | adr s o=>simp only[ng,Option.some.injEq] at h;subst h;exact⟨_,hv,rfl⟩
 | elt t x o=>simp only[ng,Option.some.injEq] at h;subst h;obtain⟨bl,o',cs,h1,_⟩:=hv;exact⟨_,h1,rfl⟩
 | lel t x o=>simp only[ng,Option.some.injEq] at h;subst h;obtain⟨bl,o',cs,h1,_⟩:=hv;exact⟨_,h1,rfl⟩
 | oel r i o z=>simp only[ng,Option.some.injEq] at h;subst h;obtain⟨bl,len,cap,_,h1⟩:=hv;exact⟨_,h1,rfl⟩
 | pv t x=>
  cases t with
  | tree k v=>
   simp only[ng,Option.some.injEq] at h;obtain⟨cs,⟨p,hcs,hp⟩,hval⟩:=hv;subst hcs;have hval:val=p:=hval;subst hval;cases x with
   | leaf=>subst h;exact⟨none,hp,rfl⟩
   | node a' b' l hh n d=>subst h;obtain⟨bl,o,_,_,_,_,h1,_⟩:=hp;exact⟨_,h1,rfl⟩
  | ptr e=>
   simp only[ng,Option.some.injEq] at h;obtain⟨cs,⟨p,hcs,hp⟩,hval⟩:=hv;subst hcs;have hval:val=p:=hval;subst hval;rcases hp with⟨h1,h2⟩|⟨bl,o,c,y,h1,h2,_⟩
   ·subst h2;subst h;exact⟨none,h1,rfl⟩
   ·subst h2;subst h;exact⟨_,h1,rfl⟩
  | _=>simp[ng] at h
 | _=>exact absurd h (by simp[ng])
theorem yV {op:BinOp} {b:Bool} {fp fp':List HLoc} {v:SV} {hw:HW} (h:(lS op b).run H fp=some ((v,hw),fp')) :
  hw=[]∧((op=.eql∧v=.pv .bool b)∨(op=.neq∧v=.pv .bool (!b))):=by
 cases op<;>simp only[lS] at h<;>first
  | exact(ae h).elim
  | (obtain⟨e,_⟩:=af h
     cases e
     first|exact⟨rfl,.inl ⟨rfl,rfl⟩⟩|exact⟨rfl,.inr ⟨rfl,rfl⟩⟩)
theorem CS {t:TypeId} {ty:Ty} (hT:TyOk P tab t ty) {c1 c c2:List Value} (hl:c.length=ty.size):(part t (c1++(c++c2)).toArray c1.length).run P w=.ok (mkV ty c) w:=by
 unfold part;simp only[run_bind,hT.isAgg,andThen_ok];cases ha:ty.agg with
 | true=>simp only[if_true,run_bind,hT.run_sizeOf,andThen_ok,run_pure];congr 1;simp[mkV,ha,←hl]
 | false=>
  rw[oq ha] at hl
  match c,hl with
  | [x],_=>simp[mkV,ha]
theorem Ot {d:Nat} {et:TypeId} {z:Nat} {xs ys:Array Value}:∀ {is:List Nat},Op.eqFields d xs ys (mr et z is)=Op.eqItems d et z xs ys is
 | []=>rfl
 | i::is=>by have:=Ot (d:=d) (et:=et) (z:=z) (xs:=xs) (ys:=ys) (is:=is);simp only[mr,map_cons,Op.eqFields,Op.eqItems] at this ⊢;rw[if_pos (by decide)];simp only[this]
theorem ZB (hTab:TabOk P tab) {iv:IV}:∀ {ty:Ty},
  (∀ {d:Nat} {t:TypeId} {x y:ty.den} {vx vy:Value} {b:Bool},tl tab t=some ty→mW ty≤d→bM iv ty vx x→bM iv ty vy y→jg ty x y=some b→(Op.equalIn (d+1) t vx vy).run P w=.ok b w)∧
  (∀ {d:Nat} {fs:List Field} {x y:ty.den} {px py cx cy:List Value} {b:Bool},ty.agg=true→bY tab fs ty px.length=true→mW ty≤d→py.length=px.length→aJ iv ty cx x→aJ iv ty cy y→jg ty x y=some b→
   (Op.eqFields d (px++cx).toArray (py++cy).toArray fs).run P w=.ok b w):=by
 have structs:∀ {ty:Ty},ty.agg=true→(∀ {d:Nat} {fs:List Field} {x y:ty.den} {px py cx cy:List Value} {b:Bool},ty.agg=true→bY tab fs ty px.length=true→mW ty≤d→py.length=px.length→aJ iv ty cx x→aJ iv ty cy y→jg ty x y=some b→
   (Op.eqFields d (px++cx).toArray (py++cy).toArray fs).run P w=.ok b w)→
   ∀ {d:Nat} {t:TypeId} {x y:ty.den} {vx vy:Value} {b:Bool},tl tab t=some ty→mW ty≤d→bM iv ty vx x→bM iv ty vy y→jg ty x y=some b→(Op.equalIn (d+1) t vx vy).run P w=.ok b w:=by
  intro ty ha hB d t x y vx vy b ht hd hx hy he;have hT:=hTab.tys ht;obtain⟨cx,hcx,rfl⟩:=hx;obtain⟨cy,hcy,rfl⟩:=hy;rcases hT.two ha with⟨fs,hu,hf,_⟩|⟨et,e,n,hu,_,het,_,rfl,hf⟩
  case inr=>have:=hB (d:=d) (fs:=mr et e.size (range n)) (px:=[]) (py:=[]) ha hf hd rfl hcx hcy he;obtain⟨i,hi,hsz,_⟩:=(hTab.tys het).info;simp only[mkV,ha,cond];rw[run_equalIn_array w d _ _ hu hi,show P.cellsOf et=e.size from by simp[Program.cellsOf,hi,hsz],←Ot];simpa using this
  have hu':P.underlying t=some (.struct (P.fieldsOf t)):=by simp[Program.fieldsOf,hu]
  have hfs:P.fieldsOf t=fs:=by simp[Program.fieldsOf,hu]
  have:=hB (d:=d) (fs:=fs.toList) (px:=[]) (py:=[]) ha hf hd rfl hcx hcy he;simp only[mkV,ha,cond];rw[run_equalIn_agg w d t _ _ hu' (hT.eqs ha).1,hfs];simpa using this
 intro ty;induction ty with
 | int k=>refine⟨fun ht _ hx hy he=> ?_,fun h=>noConfusion h⟩;obtain rfl:=lH hx;obtain rfl:=lH hy;simp only[jg,Option.some.injEq] at he;subst he;exact run_equalIn_int w _ _ k k _ _ (hTab.tys ht).int
 | u8=>refine⟨fun ht _ hx hy he=> ?_,fun h=>noConfusion h⟩;rename_i d t x y vx vy b;obtain rfl:=pX hx;obtain rfl:=pX hy;simp only[jg,Option.some.injEq] at he;subst he;rw[run_equalIn_int w _ _ .u8 .u8 _ _ (hTab.tys ht).u8];congr 1;rw[Bool.eq_iff_iff];simp only[beq_iff_eq,decide_eq_true_eq,←UInt8.toNat_inj];exact Int.ofNat_inj
 | bool=>refine⟨fun ht _ hx hy he=> ?_,fun h=>noConfusion h⟩;obtain rfl:=pK hx;obtain rfl:=pK hy;simp only[jg,jg.Bool.beq',Option.some.injEq] at he;subst he;exact run_equalIn_bool' w _ _ _ _ (hTab.tys ht).bool
 | str=>refine⟨fun ht _ hx hy he=> ?_,fun h=>noConfusion h⟩;obtain⟨s,rfl,rfl⟩:=oh hx;obtain⟨t',rfl,rfl⟩:=oh hy;simp only[jg,Option.some.injEq] at he;subst he;rw[run_equalIn_string w _ _ _ _ (hTab.tys ht).str,ByteArray.toList_eq,ByteArray.toList_eq,Tc]
 | unit=>
  have hB:∀ {d:Nat} {fs:List Field} {x y:Ty.unit.den} {px py cx cy:List Value} {b:Bool},Ty.unit.agg=true→bY tab fs .unit px.length=true→mW .unit≤d→py.length=px.length→aJ iv .unit cx x→aJ iv .unit cy y→jg .unit x y=some b→
   (Op.eqFields d (px++cx).toArray (py++cy).toArray fs).run P w=.ok b w:=by
   intro d fs x y px py cx cy b _ hf _ _ _ _ he;simp only[jg,Option.some.injEq] at he;subst he;cases fs with
   | nil=>rfl
   | cons f fs=>exact noConfusion hf
  exact⟨structs rfl hB,hB⟩
 | pair A B hA hB=>
  have hP:∀ {d:Nat} {fs:List Field} {x y:(Ty.pair A B).den} {px py cx cy:List Value} {b:Bool},(Ty.pair A B).agg=true→bY tab fs (.pair A B) px.length=true→mW (.pair A B)≤d→py.length=px.length→aJ iv (.pair A B) cx x→aJ iv (.pair A B) cy y→jg (.pair A B) x y=some b→
   (Op.eqFields d (px++cx).toArray (py++cy).toArray fs).run P w=.ok b w:=by
   intro d fs x y px py cx cy b _ hf hd hl hx hy he;cases fs with
   | nil=>exact noConfusion hf
   | cons f fs=>
    have h0:=tN (f:=0) (n:=0) hf rfl;obtain⟨fd,ft,k1,k2,k3,k4,k5,k6⟩:=h0;simp only[List.getElem?_cons_zero,Option.some.injEq] at k1;subst k1;simp only[dN,Option.some.injEq] at k4;subst k4;obtain⟨c1,c2,rfl,hx1,hx2⟩:=hx;obtain⟨d1,d2,rfl,hy1,hy2⟩:=hy;simp only[bY] at hf;have hrest:bY tab fs B (px.length+A.size)=true:=by
     obtain⟨_,h2⟩:=az hf;obtain⟨_,h4⟩:=az h2;have h5:Nat.beq A.size 0=false:=by cases hz:Nat.beq A.size 0 with|false=>rfl|true=>rw[hz] at h4;exact noConfusion h4
     rw[h5] at h4
     have h6 : decide (f.name = "_") = false := decide_eq_false k6
     simpa only[h6,cond] using h4
    simp only[jg] at he;obtain⟨p,hp,he⟩:=bind_eq_some_iff.1 he;obtain⟨q,hq,he⟩:=map_eq_some_iff.1 he;simp only[mW] at hd;cases d with
    | zero=>omega
    | succ d=>
     have hT:=hTab.tys k3;have r1:=CS (P:=P) (w:=w) hT (c1:=px) (c:=c1) (c2:=c2) hx1.length;have r2:=CS (P:=P) (w:=w) hT (c1:=py) (c:=d1) (c2:=d2) hy1.length;rw[hl] at r2;have hoff:f.offset=px.length:=by simpa using k2
     have e1:=hA.1 (d:=d) k3 (by omega) ⟨c1,hx1,rfl⟩ ⟨d1,hy1,rfl⟩ hp;have e2:(Op.eqFields (d+1) (px++(c1++c2)).toArray (py++(d1++d2)).toArray fs).run P w=.ok q w:=by
      by_cases hBa:B.agg=true
      ·have:=hB.2 (d:=d+1) (fs:=fs) (px:=px++c1) (py:=py++d1) (cx:=c2) (cy:=d2) hBa (by simpa[hx1.length] using hrest) (by omega) (by simp[hl,hx1.length,hy1.length]) hx2 hy2 hq;simpa using this
      ·cases B<;>first|exact absurd rfl hBa|(cases fs<;>exact noConfusion hrest)
     simp only[Op.eqFields];rw[if_pos k6];simp only[run_bind,hoff,r1,r2,e1,andThen_ok];cases p with
     | false=>subst he;simp
     | true=>subst he;simpa using e2
  exact⟨structs rfl hP,hP⟩
 | slice e _=>exact⟨fun _ _ _ _ he=>by simp[jg] at he,fun h=>noConfusion h⟩
 | tree k v _ _=>exact⟨fun _ _ _ _ he=>by simp[jg] at he,fun h=>noConfusion h⟩
 | ptr e _=>exact⟨fun _ _ _ _ he=>by simp[jg] at he,fun h=>noConfusion h⟩
end
def dw (C:Ctx) (S:Nat→SV) (H:HLoc→SV) (a:Act) (run:Result Value) (v:SV) (hw:HW):Prop:=
 ∃ val w' g',run=.ok val w'∧SimG C g' S (puts H hw) a w'∧SR g' (view g'.fl w') v val∧aG (puts H hw) v
theorem dw.lift {P:Program} {C:Ctx} {S:Nat→SV} {H:HLoc→SV} {a:Act} {w:World} {s:Sem Value} {v:SV} {hw:HW} (h:dw C S H a (s.run P w) v hw) :
  Done C S H a ((do pure (Next.value (←s)):Sem Next).run P w) v hw:=by
 obtain⟨val,w',g',h1,h2⟩:=h;exact⟨.value val,val,w',g',by simp[h1],.inl rfl,h2⟩
section
variable {P:Program} {tab:Tab} {C:Ctx} {g:Gh} {S:Nat→SV} {H:HLoc→SV} {a:Act} {w:World}
theorem dw.plain (hs:SimG C g S H a w) {run:Result Value} {v:SV} {val:Value} (hrun:run=.ok val w) (hv:SR g (view g.fl w) v val) (hr:aG H v) :
  dw C S H a run v []:=⟨val,w,g,hrun,hs,hv,hr⟩
theorem dw.pubs (hs:SimG C g S H a w) {run:Result Value} {v:SV} {val:Value} {hw:HW} (hp:bC H hw) (hrun:run=.ok val w) (hr:∀ H',aG H' v)
  (hv:∀ fl own,SimG C { g with fl:=fl,own:=own } S (puts H hw) a w→l9 H hw { g with fl:=fl,own:=own } (view fl w)→(view g.fl w).le (view fl w)→SR { g with fl:=fl,own:=own } (view fl w) v val):dw C S H a run v hw:=by
 obtain⟨fl,own,k1,k2⟩:=hs.pubs hp;exact⟨val,w,_,hrun,k1,hv fl own k1 (k1.rowsRd hp) k2,hr _⟩
theorem Dt {k yk:IntKind} {x y z:Int} (h:Aj k x y=some z) (xt:TypeId):(binOp .shl xt (.int k x) (.int yk y)).run P w=.ok (.int k z) w∧∃ m,z=k.wrap m:=by
 unfold Aj at h;by_cases h0:y<0
 ·simp[h0] at h
 ·simp[h0] at h;subst h;exact⟨by simp only[binOp,Op.shift,if_neg h0];rfl,_,rfl⟩
theorem Dq {k yk:IntKind} {x y z:Int} (h:Ai k x y=some z) (xt:TypeId):(binOp .shr xt (.int k x) (.int yk y)).run P w=.ok (.int k z) w∧z=x.fdiv (2 ^ (min y.toNat k.bits)):=by
 unfold Ai at h;by_cases h0:y<0
 ·simp[h0] at h
 ·simp[h0] at h;subst h;exact⟨by simp only[binOp,Op.shift,if_neg h0];rfl,rfl⟩
theorem ZA {x:Int} (n:Nat) (h:0≤x∧x<256):0≤x.fdiv (2 ^ n)∧x.fdiv (2 ^ n)<256:=by
 have hp:(0:Int)<2 ^ n:=Int.pow_pos (by omega);rw[Int.fdiv_eq_ediv_of_nonneg _ (Int.le_of_lt hp)];refine⟨Int.ediv_nonneg h.1 (Int.le_of_lt hp),?_⟩;have:=Int.ediv_le_self (2 ^ n) h.1;omega
theorem GL (op:BinOp) (t:TypeId) (x y:Operand) (a b:Option Addr) (n m k l:Nat):(eqGuard op t x y (.slice a n m) (.slice b k l)).run P w=.ok () w:=by cases op<;>simp[eqGuard]
theorem NV (w:World) (d:Nat) (t e:TypeId) (a:Option Addr) (n c n' c':Nat) (h:P.underlying t=some (.slice e)) :
  (Op.equalIn (d+1) t (.slice a n c) (.slice none n' c')).run P w=.ok a.isNone w:=by
 cases a<;>simp[Op.equalIn,run_underlying h]
theorem run_eql_slice_nil' (w:World) (t e:TypeId) (a:Option Addr) (n c n' c':Nat) (h:P.underlying t=some (.slice e)) :
  (binOp .eql t (.slice a n c) (.slice none n' c')).run P w=.ok (.bool a.isNone) w:=by
 simp only[binOp];simp[Op.equal,Op.maxDepth,NV w 9999 t e a n c n' c' h]
theorem run_neq_slice_nil' (w:World) (t e:TypeId) (a:Option Addr) (n c n' c':Nat) (h:P.underlying t=some (.slice e)) :
  (binOp .neq t (.slice a n c) (.slice none n' c')).run P w=.ok (.bool (!a.isNone)) w:=by
 simp only[binOp];simp[Op.equal,Op.maxDepth,NV w 9999 t e a n c n' c' h]
theorem zcZ {op:BinOp} {fp fp':List HLoc} {v:SV} {hw:HW} (h:(uO op).run H fp=some ((v,hw),fp')):hw=[]∧v=.anyb∧(op=.eql∨op=.neq):=by
 cases op<;>simp only[uO] at h<;>first
  | exact(ae h).elim
  | (obtain⟨e,_⟩:=af h
     cases e;exact⟨rfl,rfl,by simp⟩)
theorem zbr (hs:SimG C g S H a w) {op:BinOp} {x:SV} {vx:Value} {v:SV} {hw:HW} {fp fp':List HLoc} (h:(KR op x).run H fp=some ((v,hw),fp')) (hx:SR g (view g.fl w) x vx) :
  ∃ ad n c,vx=.slice ad n c∧hw=[]∧(v=.anyb∧(op=.eql∨op=.neq)∨(op=.eql∧v=.pv .bool ad.isNone)∨(op=.neq∧v=.pv .bool (!ad.isNone))):=by
 have low:∀ {e:Ty} {l:List e.den} {ad:Option Addr} {n c:Nat} {fp0:List HLoc},(l≠[]→ad.isNone=false)→((Rd.br (isEmpty l) (uO op) (lS op false)).run H fp0=some ((v,hw),fp'))→vx=.slice ad n c→
   ∃ ad n c,vx=.slice ad n c∧hw=[]∧(v=.anyb∧(op=.eql∨op=.neq)∨(op=.eql∧v=.pv .bool ad.isNone)∨(op=.neq∧v=.pv .bool (!ad.isNone))):=by
  intro e l ad n c fp0 hne h hv;cases l with
  | nil=>obtain⟨h1,h2,h3⟩:=zcZ (show(uO op).run H fp0=_ from h);exact⟨ad,n,c,hv,h1,.inl ⟨h2,h3⟩⟩
  | cons y l=>obtain⟨h1,h2⟩:=yV (show(lS op false).run H fp0=_ from h);have:=hne (by simp);exact⟨ad,n,c,hv,h1,.inr (by rw[this];exact h2)⟩
 cases x with
 | nils=>obtain⟨h1,h2⟩:=yV h;exact⟨none,0,0,hx,h1,.inr h2⟩
 | pv t l=>
  cases t with
  | slice e=>
   obtain⟨cs,⟨ad,n,c,rfl,h2,h3,h4,h5⟩,hv⟩:=hx;refine low (e:=e) (l:=l) (ad:=ad) (n:=n) (c:=c) (fun hne=> ?_) h hv;cases hl:(l:List e.den) with
   | nil=>exact absurd hl hne
   | cons y r=>obtain⟨bl,o,c',e1,_⟩:=h5 0 y (by rw[hl];rfl);rw[e1];rfl
  | _=>exact(ae h).elim
 | lv t l=>
  cases t with
  | slice e=>
   obtain⟨cs,⟨ad,n,c,rfl,h2,h3,h4,h5⟩,hv⟩:=hx;refine low (e:=e) (l:=l) (ad:=ad) (n:=n) (c:=c) (fun hne=> ?_) h hv;cases hl:(l:List e.den) with
   | nil=>exact absurd hl hne
   | cons y r=>obtain⟨bl,o,c',e1,_⟩:=h5 0 y (by rw[hl];rfl);rw[e1];rfl
  | _=>exact(ae h).elim
 | hdr r=>
  simp only[KR,Rd.run] at h;split at h
  ·rename_i pb e l hr;have hv:vx=g.hd r:=hx;rcases hs.rows r pb e l hr with⟨h1,rfl⟩|⟨b,cap,cs,h1,_⟩
   ·exact low (e:=e) (l:=[]) (ad:=none) (n:=0) (c:=0) (fun hne=>absurd rfl hne) h (hv.trans h1)
   ·exact low (e:=e) (l:=l) (fun _=>rfl) h (hv.trans h1)
  ·exact(ae h).elim
 | _=>exact(ae h).elim
theorem ZI (hTab:TabOk P tab) (hs:SimG C g S H a w) {op:BinOp} {xt:TypeId} {x y:SV} {vx vy:Value} {v:SV} {hw:HW} {fp fp':List HLoc}
  (h:(MI tab op xt x y).run H fp=some ((v,hw),fp')) (hx:SR g (view g.fl w) x vx) (hy:SR g (view g.fl w) y vy) (rx:aG H x) (ry:aG H y) (ox oy:Operand) :
  dw C S H a ((do eqGuard op xt ox oy vx vy;binOp op xt vx vy:Sem Value).run P w) v hw:=by
 have fin:∀ {hw':HW},(eqGuard op xt ox oy vx vy).run P w=.ok () w→(hw'=[]∧∃ val,(binOp op xt vx vy).run P w=.ok val w∧(∀ g iv,SR g iv v val)∧∀ H',aG H' v)→hw=hw'→
   dw C S H a ((do eqGuard op xt ox oy vx vy;binOp op xt vx vy:Sem Value).run P w) v hw:=by
  rintro hw' hg ⟨rfl,val,h1,h2,h3⟩ rfl;exact dw.plain hs (by simp[hg,h1]) (h2 _ _) (h3 _)
 unfold MI at h;split at h
 ·
  obtain rfl:=lH hx;obtain rfl:=lH hy;rename_i k p k' q;have hg:=BQ (P:=P) (w:=w) op xt ox oy k k' p q;split at h
  ·obtain⟨z,hz,h⟩:=bP h;obtain⟨e,_⟩:=af h;cases e;exact fin hg ⟨rfl,_,(Dt hz xt).1,fun _ _=>kT _ _,fun _=>trivial⟩ rfl
  ·obtain⟨z,hz,h⟩:=bP h;obtain⟨e,_⟩:=af h;cases e;exact fin hg ⟨rfl,_,(Dq hz xt).1,fun _ _=>kT _ _,fun _=>trivial⟩ rfl
  ·cases hk:nS k k' with
   | false=>rw[hk] at h;exact(ae h).elim
   | true=>rw[hk] at h;obtain rfl:=vY hk;exact fin hg (zb9 (P:=P) (w:=w) h xt) rfl
 ·obtain rfl:=pX hx;obtain rfl:=lH hy;rename_i p k' q;have hg:=BQ (P:=P) (w:=w) op xt ox oy .u8 k' (p.toNat:Nat) q;split at h
  ·obtain⟨z,hz,h⟩:=bP h;obtain⟨e,_⟩:=af h;cases e;obtain⟨m,hm⟩:=(Dt (P:=P) (w:=w) (yk:=k') hz xt).2;exact fin hg ⟨rfl,_,(Dt hz xt).1,fun _ _=>by rw[hm];exact zh _,fun _=>trivial⟩ rfl
  ·obtain⟨z,hz,h⟩:=bP h;obtain⟨e,_⟩:=af h;cases e;have hm:=(Dq (P:=P) (w:=w) (yk:=k') hz xt).2;refine fin hg ⟨rfl,_,(Dq hz xt).1,fun _ iv=> ?_,fun _=>trivial⟩ rfl;have:=zL (iv:=iv) (byteOf z);rwa[Uh (by rw[hm];exact ZA _ (I9 p))] at this
  ·exact(ae h).elim
 ·obtain rfl:=lH hx;obtain rfl:=pX hy;rename_i k p q;have hg:=BQ (P:=P) (w:=w) op xt ox oy k .u8 p (q.toNat:Nat);split at h
  ·obtain⟨z,hz,h⟩:=bP h;obtain⟨e,_⟩:=af h;cases e;exact fin hg ⟨rfl,_,(Dt hz xt).1,fun _ _=>kT _ _,fun _=>trivial⟩ rfl
  ·obtain⟨z,hz,h⟩:=bP h;obtain⟨e,_⟩:=af h;cases e;exact fin hg ⟨rfl,_,(Dq hz xt).1,fun _ _=>kT _ _,fun _=>trivial⟩ rfl
  ·exact(ae h).elim
 ·obtain rfl:=pX hx;obtain rfl:=pX hy;exact fin (BQ (P:=P) (w:=w) op xt ox oy .u8 .u8 _ _) (zcb (P:=P) (w:=w) h xt) rfl
 ·obtain⟨s,rfl,e1⟩:=oh hx;obtain⟨t,rfl,e2⟩:=oh hy;exact fin (YH (P:=P) (w:=w) op xt ox oy s t) (zb8 (P:=P) (w:=w) h xt s t e1 e2) rfl
 ·obtain rfl:=pK hx;obtain rfl:=pK hy;split at h
  ·rename_i ht;have hu:=(hTab.tys ht).bool;exact fin (Yi (P:=P) (w:=w) op xt ox oy _ _) (zca (P:=P) (w:=w) h xt hu) rfl
  ·exact(ae h).elim
 ·obtain rfl:vy=.pointer none:=hy;rename_i r;cases hp:nD tab.ptrs xt with
  | false=>rw[hp] at h;exact(ae h).elim
  | true=>
   rw[hp] at h;have hu:=(hTab.ptrs hp).1;have low:∀ {b:Bool} {fp1:List HLoc} {p:Option Addr},vx=.pointer p→p.isNone=b→(lS op b).run H fp1=some ((v,hw),fp')→dw C S H a ((do eqGuard op xt ox oy vx (.pointer none);binOp op xt vx (.pointer none):Sem Value).run P w) v hw:=by
    rintro b fp1 p rfl rfl h2;have hg:=OV (P:=P) (w:=w) op xt ox oy p none;obtain⟨k1,⟨rfl,rfl⟩|⟨rfl,rfl⟩⟩:=yV h2
    ·exact fin hg ⟨rfl,_,run_eql_pointer_nil w xt p hu,fun _ _=>jS _,fun _=>trivial⟩ k1
    ·exact fin hg ⟨rfl,_,run_neq_pointer_nil w xt p hu,fun _ _=>jS _,fun _=>trivial⟩ k1
   simp only[cond_true,Rd.run] at h;split at h
   ·rename_i pb e l hr;rcases hx with⟨h1,h2⟩|⟨b,h1,h2⟩
    ·rcases hs.rows r pb e l hr with⟨_,rfl⟩|⟨b',cap,cs,h3,_⟩
     ·exact low h1 rfl h
     ·rw[h2] at h3;exact Value.noConfusion h3 fun e=>by simp at e
    ·rcases hs.rows r pb e l hr with⟨h3,_⟩|⟨b',cap,cs,h3,_⟩
     ·rw[h2] at h3;exact Value.noConfusion h3 fun e=>by simp at e
     ·rw[h2] at h3;cases l with
      | nil=>exact Value.noConfusion h3 fun _ e=>by simp at e
      | cons y l=>exact low h1 rfl h
   ·rename_i e l n hh hr;rcases hx with⟨h1,h2⟩|⟨b,h1,h2⟩
    ·rcases(hs.deeps r e l n hh hr).shape with⟨_,rfl⟩|⟨b',cap,h3,_⟩
     ·exact low h1 rfl h
     ·rw[h2] at h3;exact Value.noConfusion h3 fun e=>by simp at e
    ·rcases(hs.deeps r e l n hh hr).shape with⟨h3,_⟩|⟨b',cap,h3,_⟩
     ·rw[h2] at h3;exact Value.noConfusion h3 fun e=>by simp at e
     ·rw[h2] at h3;cases l with
      | nil=>exact Value.noConfusion h3 fun _ e=>by simp at e
      | cons y l=>exact low h1 rfl h
   ·exact(ae h).elim
 ·obtain rfl:vy=.pointer none:=hy;cases hp:nD tab.ptrs xt with
  | false=>rw[hp] at h;exact(ae h).elim
  | true=>
   rw[hp] at h;have hu:=(hTab.ptrs hp).1;obtain⟨b,fp1,h1,h2⟩:=ah h;obtain⟨h1,_⟩:=aS h1;obtain⟨p,rfl,rfl⟩:=zaD h1 hx;have hg:=OV (P:=P) (w:=w) op xt ox oy p none;obtain⟨k1,⟨rfl,rfl⟩|⟨rfl,rfl⟩⟩:=yV h2
   ·exact fin hg ⟨rfl,_,run_eql_pointer_nil w xt p hu,fun _ _=>jS _,fun _=>trivial⟩ k1
   ·exact fin hg ⟨rfl,_,run_neq_pointer_nil w xt p hu,fun _ _=>jS _,fun _=>trivial⟩ k1
 ·obtain rfl:vy=.slice none 0 0:=hy;split at h
  ·rename_i e ht;have hu:=(hTab.tys ht).slice;obtain⟨et,hu,_⟩:=hu;obtain⟨ad,n,c,rfl,rfl,h1|⟨rfl,rfl⟩|⟨rfl,rfl⟩⟩:=zbr hs h hx
   ·have hg:=GL (P:=P) (w:=w) op xt ox oy ad none n c 0 0;obtain⟨rfl,rfl|rfl⟩:=h1
    ·exact fin hg ⟨rfl,_,run_eql_slice_nil' w xt et ad n c 0 0 hu,fun _ _=>⟨_,rfl⟩,fun _=>trivial⟩ rfl
    ·exact fin hg ⟨rfl,_,run_neq_slice_nil' w xt et ad n c 0 0 hu,fun _ _=>⟨_,rfl⟩,fun _=>trivial⟩ rfl
   ·exact fin (GL (P:=P) (w:=w) .eql xt ox oy ad none n c 0 0) ⟨rfl,_,run_eql_slice_nil' w xt et ad n c 0 0 hu,fun _ _=>jS _,fun _=>trivial⟩ rfl
   ·exact fin (GL (P:=P) (w:=w) .neq xt ox oy ad none n c 0 0) ⟨rfl,_,run_neq_slice_nil' w xt et ad n c 0 0 hu,fun _ _=>jS _,fun _=>trivial⟩ rfl
  ·exact(ae h).elim
 ·split at h
  ·rename_i t ht;have hT:=hTab.tys ht;cases hc:cond t.agg (ble (mW t) 9000) false with
   | false=>rw[hc] at h;exact(ae h).elim
   | true=>
    rw[hc] at h;obtain⟨hagg,hdep⟩:=az hc;have hdep:=le_of_ble_eq_true hdep;obtain⟨⟨p,hw1⟩,fp1,h1,h2⟩:=ah h;obtain⟨⟨q,hw2⟩,fp2,h3,h4⟩:=ah h2;obtain⟨b,fp3,h5,h6⟩:=ah h4;obtain⟨h5,_⟩:=aS h5;obtain⟨⟨r,hw3⟩,fp4,h7,h8⟩:=ah h6;obtain⟨h8,_⟩:=af h8;cases h8;obtain⟨p1,p2⟩:=oz hs h1 hx rx;obtain⟨q1,q2⟩:=oz hs h3 hy ry;obtain⟨fl,own,k1,k2⟩:=hs.pubs (bC.append.2 ⟨p1,q1⟩);have hR:=k1.rowsRd (bC.append.2 ⟨p1,q1⟩);have V1:=p2 fl own (hR.sub fun _ hm=>List.mem_append_left _ hm) k2;have V2:=q2 fl own (hR.sub fun _ hm=>List.mem_append_right _ hm) k2;obtain⟨cx,hcx,rfl⟩:=V1;obtain⟨cy,hcy,rfl⟩:=V2;have heq:=(ZB (P:=P) (w:=w) hTab (iv:=view fl w) (ty:=t)).1 (d:=9999) ht (by omega) ⟨cx,hcx,rfl⟩ ⟨cy,hcy,rfl⟩ h5;have hg:(eqGuard op xt ox oy (mkV t cx) (mkV t cy)).run P w=.ok () w:=by simp only[mkV,hagg,cond];exact run_eqGuard_agg w op xt ox oy _ _ (hT.eqs hagg).2
    simp only[mkV,hagg,cond] at heq hg ⊢;obtain⟨e1,⟨rfl,rfl⟩|⟨rfl,rfl⟩⟩:=yV h7
    ·exact⟨_,w,_,by simp only[run_bind,hg,andThen_ok,run_eql_struct,heq],k1,jS _,trivial⟩
    ·exact⟨_,w,_,by simp only[run_bind,hg,andThen_ok,run_neq_struct,heq],k1,jS _,trivial⟩
  ·exact(ae h).elim
end
section
variable {P:Program} {tab:Tab} {C:Ctx} {g:Gh} {S:Nat→SV} {H:HLoc→SV} {a:Act} {w:World}
theorem ZT (hs:SimG C g S H a w) {op:UnOp} {x:SV} {vx:Value} {v:SV} {hw:HW} {fp fp':List HLoc}
  (h:(match op,x with
   | .not,.pv .bool b=>.ret (.pv .bool (!b),[])
   | .neg,.pv (.int k) n=>.ret (.pv (.int k) (k.wrap (0-n)),[])
   | _,_=>.fail:Rd (SV×HW)).run H fp=some ((v,hw),fp')) (hx:SR g (view g.fl w) x vx) :
  dw C S H a ((Op.unary op vx).run P w) v hw:=by
 split at h
 ·obtain⟨e,_⟩:=af h;cases e;obtain rfl:=pK hx;exact .plain hs rfl (jS _) trivial
 ·obtain⟨e,_⟩:=af h;cases e;obtain rfl:=lH hx;exact .plain hs (by simp[Op.unary,Op.intArith]) (kT _ _) trivial
 ·exact(ae h).elim
theorem QX {t:TypeId} {ty:Ty} (h:tls tab t=some ty):iW tab.arrs t=none∧tl tab t=some ty:=by
 unfold tls at h;split at h
 ·cases h
 ·rename_i hn;exact⟨hn,h⟩
theorem pI {t:TypeId} {ty:Ty} (hTab:TabOk P tab) (ht:tls tab t=some ty) {f n:Nat} (hf:fJ ty f=some n) (b o:Nat) :
  (fieldAt t (.pointer (some ⟨b,o,none⟩)) f).run P w=.ok (.pointer (some ⟨b,o+n,none⟩)) w:=by
 obtain⟨hn,ht⟩:=QX ht;have hT:=hTab.tys ht;have ha:ty.agg=true:=by cases ty<;>first|rfl|(cases f<;>simp[fJ] at hf)
 obtain⟨fs,hu,hc⟩:=hT.struct ha hn;obtain⟨fd,ft,k1,k2,k3,k4,k5,k6⟩:=tN hc hf;have hsz:=(hTab.tys k3).run_sizeOf w;have k1':fs[f]? = some fd:=by simpa using k1
 have hne:¬ ft.size=0:=k5;simp only[fieldAt,run_bind,run_underlying hu,andThen_ok,k1',Instr.sureAddr,run_pure,fieldPlace,hsz];rw[if_neg hne];simp only[run_pure,andThen_ok,addr_add,k2,zero_add]
theorem SL {g:Gh} {iv:IV} {e:Ty} {l:List e.den} {v:Value} {y:e.den} (h:SR g iv (.pv (.ptr e) l) v) (hy:head? l=some y):∃ bl o cs,v=.pointer (some ⟨bl,o,none⟩)∧aJ iv e cs y∧seg iv bl o cs:=by
 obtain⟨cs,⟨p,rfl,hp⟩,hv⟩:=h;have hv:v=p:=hv;subst hv;rcases hp with⟨_,h2⟩|⟨bl,o,c,x,h1,h2,h3,h4⟩
 ·rw[h2] at hy;exact absurd hy (by simp)
 ·rw[h2] at hy;simp only[List.head?_cons,Option.some.injEq] at hy;subst hy;exact⟨bl,o,c,h1,h4,h3⟩
theorem yK (hs:SimG C g S H a w) {r:Nat} {v:Value} (h:SR g (view g.fl w) (.own r) v) (hr:(∃ p,∃ e:Ty,∃ l:List e.den,∃ y,H (.row r)=.row p e l∧head? l=some y)∨∃ e:Ty,∃ n hh,∃ l:List e.den,∃ y,H (.row r)=.deep e l n hh∧head? l=some y) :
  ∃ b,v=.pointer (some ⟨b,0,none⟩)∧g.hd r=.slice (some ⟨b,0,none⟩) 1 1:=by
 rcases h with⟨_,h2⟩|⟨b,h1,h2⟩
 ·rcases hr with⟨p,e,l,y,hr,hy⟩|⟨e,n,hh,l,y,hr,hy⟩
  ·rcases hs.rows r p e l hr with⟨_,rfl⟩|⟨b',cap,cs,h3,_⟩
   ·exact absurd hy (by simp)
   ·rw[h2] at h3;exact Value.noConfusion h3 fun e=>by simp at e
  ·rcases(hs.deeps r e l n hh hr).shape with⟨_,rfl⟩|⟨b',cap,h3,_⟩
   ·exact absurd hy (by simp)
   ·rw[h2] at h3;exact Value.noConfusion h3 fun e=>by simp at e
 ·exact⟨b,h1,h2⟩
theorem XX (hTab:TabOk P tab) (hs:SimG C g S H a w) {s:TypeId} {f:Nat} {x:SV} {vx:Value} {v:SV} {hw:HW} {fp fp':List HLoc}
  (h:(match tls tab s with
   | some ty=>match fJ ty f with
    | some n=>match x with
     | .adr b o=>.ret (.adr b (o+n),[])
     | .elt t y o=>.ret (.elt t y (o+n),[])
     | .lel t y o=>.ret (.lel t y (o+n),[])
     | .oel r i o z=>.ret (.oel r i (o+n) z,[])
     | .sel b o z m j=>.ret (.sel b (o+n) z m j,[])
     | .pv (.tree k v) y=>cond (ty.beq (jT k v)) (.opt (uz k v y) fun z=>.ret (.elt (jT k v) z n,[])) .fail
     | .pv (.ptr e) l=>.opt (head? (α:=e.den) l) fun y=>.ret (.elt e y n,[])
     | .own r=>.get (.row r) fun w=>match w with
      | .row _ e l=>.opt (head? l) fun _=>.ret (.oel r 0 n e.size,[])
      | .deep e l _ _=>.opt (head? l) fun _=>.ret (.oel r 0 n e.size,[])
      | _=>.fail
     | _=>.fail
    | none=>.fail
   | none=>.fail:Rd (SV×HW)).run H fp=some ((v,hw),fp')) (hx:SR g (view g.fl w) x vx) (rx:aG H x) :
  dw C S H a ((fieldAt s vx f).run P w) v hw:=by
 split at h
 ·rename_i ty ht;split at h
  ·rename_i n hf;split at h
   ·obtain⟨e,_⟩:=af h;cases e;rw[show vx=_ from hx];exact .plain hs (pI hTab ht hf _ _) rfl rx
   ·obtain⟨e,_⟩:=af h;cases e;obtain⟨bl,o',cs,rfl,h2,h3⟩:=hx;exact .plain hs (pI hTab ht hf _ _) ⟨bl,o',cs,by rw[Nat.add_assoc],h2,h3⟩ trivial
   ·obtain⟨e,_⟩:=af h;cases e;obtain⟨bl,o',cs,rfl,h2,h3⟩:=hx;exact .plain hs (pI hTab ht hf _ _) ⟨bl,o',cs,by rw[Nat.add_assoc],h2,h3⟩ trivial
   ·obtain⟨e,_⟩:=af h;cases e;obtain⟨bl,len,cap,h1,rfl⟩:=hx;exact .plain hs (pI hTab ht hf _ _) ⟨bl,len,cap,h1,by rw[Nat.add_assoc]⟩ rx
   ·obtain⟨e,_⟩:=af h;cases e;obtain⟨hj,rfl⟩:=hx;exact .plain hs (pI hTab ht hf _ _) ⟨hj,by congr 3;omega⟩ rx
   ·rename_i k v' y;cases hb:ty.beq (jT k v') with
    | false=>rw[hb] at h;exact(ae h).elim
    | true=>
     rw[hb] at h;obtain rfl:=Ty.beq_eq hb;obtain⟨z,hz,h⟩:=bP h;obtain⟨e,_⟩:=af h;cases e;obtain⟨cs,⟨p,rfl,hp⟩,hval⟩:=hx;have hval:vx=p:=hval;subst hval;cases y with
     | leaf=>simp[uz] at hz
     | node ka va l hh nn d=>simp only[uz,Option.some.injEq] at hz;subst hz;obtain⟨bl,o,ck,cv,pl,ph,rfl,h1,h2,h3,h4,h5⟩:=hp;refine .plain hs (pI hTab ht hf _ _) ⟨bl,o,_,rfl,?_,h5⟩ trivial;exact⟨ck++cv,[pl,ph,.int .i64 nn,.int .i64 d],by simp,⟨ck,cv,rfl,h1,cv,[],by simp,h2,rfl⟩,[pl],_,rfl,⟨pl,rfl,h3⟩,[ph],_,rfl,⟨ph,rfl,h4⟩,[.int .i64 nn],_,rfl,rfl,[.int .i64 d],[],rfl,rfl,rfl⟩
   ·rename_i e l;obtain⟨y,hy,h⟩:=bP h;obtain⟨e1,_⟩:=af h;cases e1;obtain⟨bl,o,cs,rfl,k1,k2⟩:=SL hx hy;exact .plain hs (pI hTab ht hf _ _) ⟨bl,o,cs,rfl,k1,k2⟩ trivial
   ·rename_i r;simp only[Rd.run] at h;split at h
    ·rename_i pb e l hr;obtain⟨y,hy,h⟩:=bP h;obtain⟨e1,_⟩:=af h;cases e1;obtain⟨b,rfl,h1⟩:=yK hs hx (.inl ⟨_,_,_,_,hr,hy⟩);refine .plain hs (pI hTab ht hf _ _) ⟨b,1,1,h1,by simp⟩ rx
    ·rename_i e l nn hh hr;obtain⟨y,hy,h⟩:=bP h;obtain⟨e1,_⟩:=af h;cases e1;obtain⟨b,rfl,h1⟩:=yK hs hx (.inr ⟨_,_,_,_,_,hr,hy⟩);refine .plain hs (pI hTab ht hf _ _) ⟨b,1,1,h1,by simp⟩ rx
    ·exact(ae h).elim
   ·exact(ae h).elim
  ·exact(ae h).elim
 ·exact(ae h).elim
theorem IQ {iv:IV} {u:Ty} {y:u.den}:∀ {t:Ty} {x:t.den} {f:Nat} {cs:List Value},aJ iv t cs x→qj t x f=some ⟨u,y⟩→
  ∃ n c1 c c2,fJ t f=some n∧dN t f=some u∧cs=c1++(c++c2)∧c1.length=n∧aJ iv u c y:=by
 intro t;induction t with
 | pair A B hA hB=>
  intro x f cs hc h;obtain⟨c1,c2,rfl,h1,h2⟩:=hc;cases f with
  | zero=>simp only[qj,Option.some.injEq,Sigma.mk.injEq] at h;obtain⟨rfl,h⟩:=h;have h:=eq_of_heq h;subst h;exact⟨0,[],c1,c2,rfl,rfl,rfl,rfl,h1⟩
  | succ f=>obtain⟨n,d1,d,d2,k1,k2,rfl,k3,k4⟩:=hB h2 h;exact⟨A.size+n,c1++d1,d,d2,by simp[fJ,k1],by simpa[dN] using k2,by simp,by rw[length_append,h1.length,k3],k4⟩
 | _=>intro x f cs _ h;simp[qj] at h
theorem tZ {t:TypeId} {ty:Ty} (hTab:TabOk P tab) (ht:tls tab t=some ty) {f n:Nat} {ft:Ty} (hf:fJ ty f=some n) (hft:dN ty f=some ft) {c1 c c2:List Value} (h1:c1.length=n) (h2:c.length=ft.size) :
  (field t (.agg (c1++(c++c2)).toArray) f).run P w=.ok (mkV ft c) w:=by
 obtain⟨hn,ht⟩:=QX ht;have hT:=hTab.tys ht;have ha:ty.agg=true:=by cases ty<;>first|rfl|(cases f<;>simp[fJ] at hf)
 obtain⟨fs,hu,hc⟩:=hT.struct ha hn;obtain⟨fd,ft',k1,k2,k3,k4,k5,k6⟩:=tN hc hf;rw[hft] at k4;cases k4;have k1':fs[f]? = some fd:=by simpa using k1
 have:=CS (P:=P) (w:=w) (hTab.tys k3) (c1:=c1) (c:=c) (c2:=c2) h2;simp only[field,run_bind,run_underlying hu,andThen_ok,k1',asAgg,run_pure];rw[k2,zero_add,←h1];exact this
theorem O0 {cv:Nat→Value} {ft:Ty}:∀ {t:Ty} {i f n:Nat},kz cv t i→fJ t f=some n→dN t f=some ft→
  ∃ c1 c2,fK cv t i=c1++((cv (i+f)).cells.toList++c2)∧c1.length=n∧cv (i+f)=mkV ft (cv (i+f)).cells.toList∧(cv (i+f)).cells.toList.length=ft.size:=by
 intro t;induction t with
 | pair A B hA hB=>
  intro i f n hk hf hft;obtain⟨h1,h2,h3,h4⟩:=hk;cases f with
  | zero=>simp only[fJ,Option.some.injEq] at hf;simp only[dN,Option.some.injEq] at hft;subst hf hft;exact⟨[],fK cv B (i+1),rfl,rfl,h1,h2⟩
  | succ f=>simp only[fJ] at hf;obtain⟨m,hm,e⟩:=bind_eq_some_iff.1 hf;obtain rfl:=Option.some.inj e;obtain⟨c1,c2,k1,k2,k3,k4⟩:=hB h4 hm (by simpa[dN] using hft);rw[show i+1+f=i+(f+1) from by omega] at k1 k3 k4;exact⟨(cv i).cells.toList++c1,c2,by simp only[fK];rw[k1];simp,by rw[length_append,h2,k2],k3,k4⟩
 | _=>intro i f n _ hf;cases f<;>simp[fJ] at hf
theorem YF:∀ {t:Ty} {f:Nat} {ft:Ty},dN t f=some ft→∃ n,fJ t f=some n:=by
 intro t;induction t with
 | pair A B hA hB=>
  intro f ft h;cases f with
  | zero=>exact⟨0,rfl⟩
  | succ f=>obtain⟨n,hn⟩:=hB (by simpa[dN] using h);exact⟨A.size+n,by simp[fJ,hn]⟩
 | _=>intro f ft h;cases f<;>simp[dN] at h
theorem Zy (hTab:TabOk P tab) (hs:SimG C g S H a w) {s:TypeId} {f:Nat} {x:SV} {vx:Value} {v:SV} {hw:HW} {fp fp':List HLoc} {FF:Nat→Ty→Ty→Rd (SV×HW)}
  (h:(match tls tab s with
   | some ty=>match x with
    | .pv t y=>cond (t.beq ty) ((Rd.ofO (qj t y f)).bind fun z=>.ret (.pv z.1 z.2,[])) .fail
    | .lv t y=>cond (t.beq ty) ((Rd.ofO (qj t y f)).bind fun z=>.ret (cond (bu z.1) (.pv z.1 z.2) (.lv z.1 z.2),[])) .fail
    | .agg d t=>cond (t.beq ty) (match dN ty f with
     | some ft=>.get (.comp d f) fun v=>(fits ft v).bind fun _=>.ret (v,[])
     | none=>.fail) (FF d t ty)
    | _=>.fail
   | none=>.fail:Rd (SV×HW)).run H fp=some ((v,hw),fp')) (hx:SR g (view g.fl w) x vx)
  (hFF:∀ {d:Nat} {t ty:Ty} {fp:List HLoc},tls tab s=some ty→x=.agg d t→(FF d t ty).run H fp=some ((v,hw),fp')→dw C S H a ((field s vx f).run P w) v hw) :
  dw C S H a ((field s vx f).run P w) v hw:=by
 split at h
 ·rename_i ty ht;split at h
  ·rename_i t y;cases hb:t.beq ty with
   | false=>rw[hb] at h;exact(ae h).elim
   | true=>
    rw[hb] at h;obtain rfl:=Ty.beq_eq hb;obtain⟨⟨u,z⟩,fp1,h1,h2⟩:=ah h;obtain⟨h1,_⟩:=aS h1;obtain⟨e,_⟩:=af h2;cases e;obtain⟨cs,hcs,rfl⟩:=hx;obtain⟨n,c1,c,c2,k1,k2,rfl,k3,k4⟩:=IQ hcs h1;have ha:t.agg=true:=by cases t<;>first|rfl|(cases f<;>simp[fJ] at k1)
    exact .plain hs (by rw[mkV,ha];exact tZ hTab ht k1 k2 k3 k4.length) ⟨c,k4,rfl⟩ trivial
  ·rename_i t y;cases hb:t.beq ty with
   | false=>rw[hb] at h;exact(ae h).elim
   | true=>
    rw[hb] at h;obtain rfl:=Ty.beq_eq hb;obtain⟨⟨u,z⟩,fp1,h1,h2⟩:=ah h;obtain⟨h1,_⟩:=aS h1;obtain⟨e,_⟩:=af h2;cases e;obtain⟨cs,hcs,rfl⟩:=hx;obtain⟨n,c1,c,c2,k1,k2,rfl,k3,k4⟩:=IQ hcs h1;have ha:t.agg=true:=by cases t<;>first|rfl|(cases f<;>simp[fJ] at k1)
    refine .plain hs (by rw[mkV,ha];exact tZ hTab ht k1 k2 k3 k4.length) ?_ ?_
    ·cases hf:bu u with
     | true=>exact⟨c,k4.flat hf,rfl⟩
     | false=>exact⟨c,k4,rfl⟩
    ·cases bu u<;>trivial
  ·rename_i d t;cases hb:t.beq ty with
   | false=>rw[hb] at h;exact hFF ht rfl h
   | true=>
    rw[hb] at h;obtain rfl:=Ty.beq_eq hb;simp only[cond] at h;split at h
    ·rename_i ft hft;change((fits ft (H (.comp d f))).bind fun _=>Rd.ret (H (.comp d f),[])).run H (_::fp)=_ at h;obtain⟨u,fp1,h1,h2⟩:=ah h;obtain⟨e,_⟩:=af h2;cases e;obtain⟨h3,rfl,h4⟩:=hx;obtain⟨n,hn⟩:=YF hft;obtain⟨c1,c2,k1,k2,k3,k4⟩:=O0 h4 hn hft;rw[zero_add] at k1 k3 k4;refine .plain hs (val:=g.cv d f) ?_ (hs.comps d f) (hs.refC d f);rw[k1,tZ hTab ht hn hft k2 k4,←k3]
    ·exact(ae h).elim
  ·exact(ae h).elim
 ·exact(ae h).elim
end
end Go.Sx
