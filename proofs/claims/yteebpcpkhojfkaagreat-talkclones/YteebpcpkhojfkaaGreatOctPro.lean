/-
 Plain laws of what lies below,as this seat reaches them (by a program of the bench: port.py).
-/
import Derived.Test.YteebpcpkhojfkaaGreatTalcOk
import Derived.Test.YteebpcpkhojfkaaGreatSxS
namespace Go.Proofs.YteebpcpkhojfkaaGreat
open Go.Sx Go Classical
set_option maxRecDepth 10000
theorem uO {x:Int} (h1:0≤x) (h2:x<18446744073709551616):IntKind.wrap .u64 x=x:=by
 simp only[IntKind.wrap,IntKind.bits,IntKind.signed];simp;omega
theorem zY (x:Int):IntKind.wrap .u8 x=x % 256:=by
 simp only[IntKind.wrap,IntKind.bits,IntKind.signed];simp
theorem uA (x:Int):IntKind.wrap .u64 x=x % 18446744073709551616:=by
 simp only[IntKind.wrap,IntKind.bits,IntKind.signed];simp
def byteAt (v:Int) (k:Nat):UInt8:=Sx.byteOf (v/256 ^ k % 256)
def di (v:Int):Nat→List UInt8
 | 0=>[]
 | k+1=>byteAt v k::di v k
theorem rO (v:Int):∀ k,(di v k).length=k
 | 0=>rfl
 | k+1=>by simp[di,rO v k]
def lG (a:Int) (b:UInt8):Int:=a*256 % 18446744073709551616+b.toNat
def dec (l:List UInt8):Int:=l.foldl lG 0
theorem Y9 (a:Int) (b:UInt8):0≤lG a b∧lG a b<18446744073709551616:=by
 have:=b.toNat_lt;unfold lG;omega
theorem QA:∀ (l:List UInt8) (a:Int),0≤a∧a<18446744073709551616→0≤l.foldl lG a∧l.foldl lG a<18446744073709551616
 | [],_a,h=>h
 | b::r,a,_h=>QA r _ (Y9 a b)
theorem zbO (l:List UInt8):0≤dec l∧dec l<18446744073709551616:=QA l 0 (by omega)
theorem zdp (a:Int) (b:UInt8):ER BinOp.or IntKind.u64 (IntKind.wrap .u64 (a*256)) (IntKind.wrap .u64 (ay b))=lG a b:=by
 have hb:=b.toNat_lt;have e2:IntKind.wrap .u64 (ay b)=((b.toNat:Nat):Int):=uO (by simp[ay]) (by simp[ay];omega);obtain⟨m,hm⟩:∃ m:Nat,a*256 % 18446744073709551616=((2 ^ 8*m:Nat):Int):=⟨(a % 72057594037927936).toNat,by omega⟩
 have hlt:2 ^ 8*m<2 ^ 64:=by omega
 have e1:∀ n:Nat,(BitVec.ofInt 64 (n:Int))=BitVec.ofNat 64 n:=fun n=>BitVec.ofInt_natCast _ _;have key:(BitVec.ofInt 64 ((2 ^ 8*m:Nat):Int) ||| BitVec.ofInt 64 ((b.toNat:Nat):Int)).toNat=2 ^ 8*m+b.toNat:=by rw[e1,e1,BitVec.toNat_or,BitVec.toNat_ofNat,BitVec.toNat_ofNat,Nat.mod_eq_of_lt hlt,Nat.mod_eq_of_lt (by omega),←Nat.two_pow_add_eq_or_of_lt (by omega:b.toNat<2 ^ 8)]
 rw[e2,uA,hm];show IntKind.wrap .u64 (((BitVec.ofInt 64 ((2 ^ 8*m:Nat):Int) ||| BitVec.ofInt 64 ((b.toNat:Nat):Int)).toNat:Nat):Int)=_;rw[key,uO (by omega) (by omega)];unfold lG;rw[hm];rfl
theorem zcd (a:Int):tK .u64 a 8=some (IntKind.wrap .u64 (a*256)):=by
 simp[tK,IntKind.bits]
abbrev In:Type:=List UInt8×Bool×Unit
def dR (s:In) (n:Nat):List UInt8×In:=
 bif s.2.1 then([],s) else bif decide (n≤s.1.length) then(s.1.take n,(s.1.drop n,false,())) else([],([],true,()))
def Fine (s:In):Prop:=s.2.1=true→s.1=[]
theorem Fine.take {s:In} (h:Fine s) (n:Nat):Fine (dR s n).2:=by
 unfold dR;cases hb:s.2.1 with
 | true=>exact h
 | false=>
  by_cases hn:n≤s.1.length
  ·simp[hn,Fine]
  ·simp[hn,Fine]
theorem zdG (s:In):gp (s,())=some (([],true,()),()):=rfl
theorem zdc (s:In) (n:Nat):yJ (s,(n:Int),())=some ((dR s n).1,(dR s n).2,()):=by
 unfold yJ dR;obtain⟨b,bad,⟨⟩⟩:=s;cases bad with
 | true=>rfl
 | false=>
  simp only[cond_false,zdG,Option.bind_some];by_cases hn:n≤b.length
  ·have e:decide (Int.ofNat b.length<(n:Int))=false:=decide_eq_false (by simp;omega);have e2:iI b 0 (n:Int)=some (b.take n):=Hw hn;have e3:iI (b.take n) 0 (n:Int)=some (b.take n):=by
    have:=Hw (l:=b.take n) (n:=n) (by simp;omega);rw[List.take_take,Nat.min_self] at this;exact this
   have e4:iI b (n:Int) (b.length:Int)=some (b.drop n):=ZA hn;simp only[e,e2,e3,e4,cond_false,Option.bind_some,hn,decide_true,cond_true]
  ·have e:decide (Int.ofNat b.length<(n:Int))=true:=decide_eq_true (by simp;omega);simp only[e,cond_true,hn,decide_false,cond_false]
def dI (s:In) (n:Nat):Int×In:=(dec (dR s n).1,(dR s n).2)
theorem zba (s:In) (n:Nat):(dR s n).1.length≤n:=by
 unfold dR;cases s.2.1 with
 | true=>simp
 | false=>
  by_cases hn:n≤s.1.length
  ·simp[hn]
  ·simp[hn]
theorem Ry (s:In) (n:Nat) (hn:n≤100):uu (s,(n:Int),())=some ((dI s n).1,(dI s n).2,()):=by
 unfold uu;simp only[zdc,Option.bind_some];have hl:=zba s n;refine zbI (mk:=fun i a=>(a,(i:Int),())) (l:=(dR s n).1) (g:=lG) (K:=fun a=>(a,(dR s n).2,())) (fun _ _=>True) (by omega) (fun i a v hi _=> ?_) (fun a _=> ?_) trivial
 ·have hlt:i<(dR s n).1.length:=(List.getElem?_eq_some_iff.1 hi).1;simp only[aB,hlt,decide_true,cond_true,aP,hi,Option.bind_some,zcd,zdp,aT (show i<9223372036854775807 by omega),and_self]
 ·simp
def Xq:In:=([],true,())
theorem zbZ:Fine Xq:=fun _=>rfl
def iD (s:In) (most:Int):Int×In:=
 bif decide (0≤most∧(dI s 4).1≤most∧(dI s 4).1≤((dI s 4).2.1.length:Int)) then dI s 4 else(0,Xq)
theorem Fine.num {s:In} (h:Fine s) (n:Nat):Fine (dI s n).2:=h.take n
theorem Fine.count {s:In} (h:Fine s) (m:Int):Fine (iD s m).2:=by
 unfold iD;cases decide (0≤m∧(dI s 4).1≤m∧(dI s 4).1≤((dI s 4).2.1.length:Int)) with
 | true=>exact h.num 4
 | false=>exact zbZ
theorem Qo (s:In) (n:Nat):0≤(dI s n).1∧(dI s n).1<18446744073709551616:=zbO _
theorem zcs (s:In) (n:Nat):(dI s n).2.1.length≤s.1.length:=by
 unfold dI dR;cases s.2.1 with
 | true=>simp
 | false=>
  by_cases hn:n≤s.1.length
  ·simp[hn]
  ·simp[hn]
def Ar (s:In) (most:Int):List UInt8×In:=dR (iD s most).2 (iD s most).1.toNat
theorem Fine.text {s:In} (h:Fine s) (m:Int):Fine (Ar s m).2:=(h.count m).take _
theorem zd0 (k:Nat):(2:Int) ^ (8*k)=256 ^ k:=by
 rw[Int.pow_mul];rfl
theorem Iq (k:Nat):(0:Int)<256 ^ k:=Int.pow_pos (by decide)
theorem Jg {v:Int} (h0:0≤v) (h1:v<18446744073709551616) (k:Nat):0≤v/256 ^ k∧v/256 ^ k<18446744073709551616:=by
 refine⟨Int.ediv_nonneg h0 (Int.le_of_lt (Iq k)),?_⟩;exact Int.lt_of_le_of_lt (Int.ediv_le_self _ h0) h1
theorem zcc {v:Int} (h0:0≤v) (h1:v<18446744073709551616) (k:Nat) (hk:k≤7):qX .u64 v (8*(k:Int))=some (v/256 ^ k):=by
 unfold qX;have e:decide (8*(k:Int)<0)=false:=decide_eq_false (by omega);have e2:min (8*(k:Int)).toNat IntKind.u64.bits=8*k:=by simp only[IntKind.bits];omega
 rw[e,e2,zd0];have:v.fdiv (256 ^ k)=v/256 ^ k:=Int.fdiv_eq_ediv_of_nonneg _ (Int.le_of_lt (Iq k));obtain⟨r1,r2⟩:=Jg h0 h1 k;have w:=uO r1 r2;rw[this];simp only[cond_false]
theorem Qn (b:List UInt8) {v:Int} (h0:0≤v) (h1:v<18446744073709551616) (n:Nat) (hn:n≤8) (hb:b.length+n≤140737488355000) :
  F89 ((b,()),v,(n:Int),())=some ((b++di v n,()),()):=by
 unfold F89;have main:∀ (n m:Nat) (b:List UInt8),n<m→n≤8→b.length+n≤140737488355000→
   iter (T:=Int×List UInt8×Unit) (R:=(List UInt8×Unit)×Unit) (fun(x_1:Int×List UInt8×Unit)=>
   bif decide (0≤x_1.fst) then
    Option.bind (qX IntKind.u64 v (wrap64 (8*x_1.fst))) fun(b:Int)=>Option.bind (dV x_1.snd.fst [Sx.byteOf (IntKind.wrap IntKind.u8 b)]) fun(b:List UInt8)=>some (Sum.inl (wrap64 (x_1.fst-1),b,()))
   else some (Sum.inr (x_1.snd,()))) m ((n:Int)-1,b,())=some ((b++di v n,()),()):=by
  intro n;induction n with
  | zero=>
   intro m b hm _ _;cases m with
   | zero=>omega
   | succ m=>simp[iter,di]
  | succ n ih=>
   intro m b hm hn hb;cases m with
   | zero=>omega
   | succ m=>
    have e0:((n+1:Nat):Int)-1=(n:Int):=by omega
    have e1:decide ((0:Int)≤(n:Int))=true:=decide_eq_true (by omega);have e2:wrap64 (8*(n:Int))=8*(n:Int):=iZ (by omega) (by omega);have e3:wrap64 ((n:Int)-1)=(n:Int)-1:=iZ (by omega) (by omega);rw[e0];simp only[iter,e1,cond_true,e2,zcc h0 h1 n (by omega),Option.bind_some,e3];rw[mM (by simp;omega)];simp only[Option.bind_some,Sum.elim_inl];rw[ih m (b++[Sx.byteOf (IntKind.wrap IntKind.u8 (v/256 ^ n))]) (by omega) (by omega) (by simp;omega)];simp[di,byteAt,zY]
 have e:wrap64 ((n:Int)-1)=(n:Int)-1:=iZ (by omega) (by omega);have:=main n big b (by rw[jv];omega) hn hb;rw[←e] at this;exact this
theorem zbv (b:List UInt8) (n:Int) (hb:b.length+8≤140737488355000):F28 ((b,()),n,())=some ((b++di (IntKind.wrap .u64 n) 8,()),()):=by
 unfold F28;have hw:=uA n;have h:F89 ((b,()),IntKind.wrap .u64 n,8,())=_:=Qn b (v:=IntKind.wrap .u64 n) (by omega) (by omega) 8 (by omega) hb;simp only[h,Option.bind_some]
def aZ (s:List UInt8):List UInt8:=di (IntKind.wrap .u64 (Int.ofNat s.length)) 4++s
theorem ZT (b:UInt8):byteAt (ay b) 0=b:=by
 have:=b.toNat_lt;unfold byteAt ay Sx.byteOf;have e:((b.toNat:Int)/256 ^ 0 % 256).toNat=b.toNat:=by rw[Int.pow_zero,Int.ediv_one];omega
 rw[e];simp
theorem zau (b:List UInt8) (c:UInt8) (hb:b.length+1≤140737488355000):F25 ((b,()),c,())=some ((b++[c],()),()):=by
 unfold F25;have hc:=c.toNat_lt;have e:IntKind.wrap .u64 (ay c)=ay c:=uO (by simp[ay]) (by simp[ay];omega);have h:F89 ((b,()),ay c,1,())=_:=Qn b (v:=ay c) (by simp[ay]) (by simp[ay];omega) 1 (by omega) hb;simp only[e,h,Option.bind_some,di,ZT]
theorem Ua (l:List UInt8) (h:l.length≤140737488355000):CS (l,())=some (l,()):=by
 unfold CS;cases l with
 | nil=>simp only[List.isEmpty_nil,cond_true];rw[mM (by simp)];exact RU _
 | cons b r=>simp only[List.isEmpty_cons,cond_false];rw[mM (by simpa using h)];rfl
theorem dZ (s:List UInt8):(aZ s).length=s.length+4:=by simp[aZ,rO];omega
theorem zer (b:List UInt8) (h:b.length≤60000):F31 ((b,()),())=some (b,0,(b,()),()):=by
 unfold F31;have e:decide ((60000:Int)<Int.ofNat b.length)=false:=decide_eq_false (by simp;omega);simp only[e,cond_false,Ua b (by omega),Option.bind_some]
theorem zcN (s:In):F50 (s,())=some (wrap64 (dI s 8).1,(dI s 8).2,()):=by
 unfold F50;have hw:uu (s,8,())=some ((dI s 8).1,(dI s 8).2,()):=Ry s 8 (by omega);simp only[hw,Option.bind_some]
theorem zaN (s:In) (m:Int):(iD s m).2.1.length≤s.1.length:=by
 unfold iD;cases decide (0≤m∧(dI s 4).1≤m∧(dI s 4).1≤((dI s 4).2.1.length:Int)) with
 | true=>exact zcs s 4
 | false=>exact Nat.zero_le _
theorem zcw (l:List UInt8) (h:l.length≤140737488355000):F47 (l,())=some ((l,false,()),()):=by
 unfold F47;simp only[Ua l h,Option.bind_some]
theorem J5:∀ (l:List UInt8) (a:Nat),(a+1)*256 ^ l.length≤18446744073709551616→l.foldl lG (a:Int)=((l.foldl (fun a b=>a*256+b.toNat) a:Nat):Int)
 | [],a,_=>rfl
 | b::r,a,h=>by
  have hb:=b.toNat_lt;have h1:(a+1)*256*256 ^ r.length≤18446744073709551616:=by rw[List.length_cons,Nat.pow_succ,Nat.mul_comm (256 ^ r.length),←Nat.mul_assoc] at h;exact h
  have h2:(a+1)*256≤18446744073709551616:=Nat.le_trans (Nat.le_mul_of_pos_right _ (Nat.pow_pos (by decide))) h1;have e:lG (a:Int) b=((a*256+b.toNat:Nat):Int):=by unfold lG;omega
  rw[List.foldl_cons,e,J5 r (a*256+b.toNat) (Nat.le_trans (Nat.mul_le_mul_right _ (by omega)) h1)];rfl
theorem zaS (w n:Nat):(byteAt (w:Int) n).toNat=w/256 ^ n % 256:=by
 unfold byteAt Sx.byteOf;have e:(w:Int)/256 ^ n % 256=((w/256 ^ n % 256:Nat):Int):=by simp
 rw[e,Int.toNat_natCast];simp
theorem Su (w:Nat):∀ (n a:Nat),(di (w:Int) n).foldl (fun a b=>a*256+b.toNat) a=a*256 ^ n+w % 256 ^ n
 | 0,a=>by simp[di,Nat.mod_one]
 | n+1,a=>by simp only[di,List.foldl_cons];rw[Su w n,zaS,Nat.pow_succ,Nat.mod_mul,Nat.add_mul,Nat.mul_assoc,Nat.mul_comm 256 (256 ^ n),Nat.mul_comm (w/256 ^ n % 256)];omega
theorem TS (w n:Nat) (hn:n≤8):dec (di (w:Int) n)=((w % 256 ^ n:Nat):Int):=by
 unfold dec;have h:(0+1)*256 ^ (di (w:Int) n).length≤18446744073709551616:=by rw[rO,Nat.zero_add,Nat.one_mul];exact Nat.pow_le_pow_right (n:=256) (by decide) hn
 have:=J5 (di (w:Int) n) 0 h;rw[Su,Nat.zero_mul,Nat.zero_add] at this;exact this
theorem IR (p r:List UInt8):dR (p++r,false,()) p.length=(p,(r,false,())):=by
 simp[dR]
theorem Rk (w n:Nat) (hn:n≤8) (r:List UInt8):dI (di (w:Int) n++r,false,()) n=(((w % 256 ^ n:Nat):Int),(r,false,())):=by
 unfold dI;have:=IR (di (w:Int) n) r;rw[rO] at this;rw[this,TS w n hn]
theorem zc8 (s:List UInt8) (h:s.length<4294967296):IntKind.wrap .u64 (Int.ofNat s.length)=((s.length:Nat):Int):=uO (by simp) (by simp;omega)
theorem zbx (s r:List UInt8) (h:s.length<4294967296):dI (aZ s++r,false,()) 4=((s.length:Int),(s++r,false,())):=by
 unfold aZ;rw[zc8 s h,List.append_assoc,Rk _ 4 (by omega),Nat.mod_eq_of_lt (by omega)]
theorem Z8 (s r:List UInt8) (h:s.length<4294967296) (m:Int) (hm:(s.length:Int)≤m):Ar (aZ s++r,false,()) m=(s,(r,false,())):=by
 unfold Ar iD;rw[zbx s r h];have:(0≤m∧(s.length:Int)≤m∧(s.length:Int)≤((s++r).length:Int)):=⟨by omega,hm,by simp only[List.length_append];omega⟩
 simp only[this,and_self,decide_true,cond_true,Int.toNat_natCast];exact IR s r
theorem Qe {v:Int} (h0:0≤v) (h1:v<18446744073709551616) (n:Nat) (hn:n≤8):wG (v,(n:Int),())=some (di v n,()):=by
 unfold wG;have e0:(mkO 0 (n:Int) (n:Int):Option (List UInt8))=some (List.replicate n 0):=by
  unfold mkO;have:(0:Int)≤n∧(n:Int)≤n∧(n:Int)≤(bZ:Int):=⟨by omega,by omega,by simp[bZ];omega⟩
  simp[this]
 simp only[e0,Option.bind_some];have main:∀ (d i m:Nat),i+d=n→d<m→
   iter (T:=Int×List UInt8×Int×Unit) (R:=List UInt8×Unit) (fun(x_1:Int×List UInt8×Int×Unit)=>
    bif decide (x_1.snd.snd.fst<(n:Int)) then
     Option.bind
      (bC x_1.snd.fst (wrap64 (wrap64 ((n:Int)-1)-x_1.snd.snd.fst)))
      fun(b:Nat)=>
      Option.bind x_1.snd.fst[b]? fun(b_1:UInt8)=>
       Option.bind (tN IntKind.u64 x_1.fst 256) fun(b_2:Int)=>
        some
         (Sum.inl
          (b_2,List.set x_1.snd.fst b (Sx.byteOf (IntKind.wrap IntKind.u8 x_1.fst)),
           wrap64 (x_1.snd.snd.fst+1),()))
    else some (Sum.inr (x_1.snd.fst,()))) m (v/256 ^ i,List.replicate d 0++di v i,(i:Int),())=some (di v n,()):=by
  intro d;induction d with
  | zero=>
   intro i m hi hm;cases m with
   | zero=>omega
   | succ m=>
    have:i=n:=by omega
    subst this;simp[iter]
  | succ d ih=>
   intro i m hi hm;cases m with
   | zero=>omega
   | succ m=>
    have e1:decide ((i:Int)<(n:Int))=true:=decide_eq_true (by omega);have e2:wrap64 ((n:Int)-1)=(n:Int)-1:=iZ (by omega) (by omega);have e3:wrap64 (wrap64 ((n:Int)-1)-(i:Int))=(d:Int):=by rw[e2,iZ (by omega) (by omega)];omega
    have hlen:(List.replicate (d+1) (0:UInt8)++di v i).length=d+1+i:=by simp[rO]
    have e4:bC (List.replicate (d+1) (0:UInt8)++di v i) (d:Int)=some d:=by
     unfold bC;have:(0:Int)≤(d:Int)∧(d:Int)<((List.replicate (d+1) (0:UInt8)++di v i).length:Int):=⟨by omega,by rw[hlen];omega⟩
     simp only[this,and_self,decide_true,cond_true,Int.toNat_natCast]
    have e5:(List.replicate (d+1) (0:UInt8)++di v i)[d]? = some 0:=by rw[List.getElem?_append_left (by simp)];simp
    have hr:=Jg h0 h1 i;have e6:tN IntKind.u64 (v/256 ^ i) 256=some (v/256 ^ (i+1)):=by
     unfold tN;have:decide ((256:Int)=0)=false:=by decide
     have ht:(v/256 ^ i).tdiv 256=v/256 ^ (i+1):=by rw[Int.tdiv_eq_ediv_of_nonneg hr.1,Int.ediv_ediv_of_nonneg (Int.le_of_lt (Iq i)),Int.pow_succ]
     have hr2:=Jg h0 h1 (i+1);rw[this,ht,uO hr2.1 hr2.2];rfl
    have e7:(List.replicate (d+1) (0:UInt8)++di v i).set d (Sx.byteOf (IntKind.wrap IntKind.u8 (v/256 ^ i)))=List.replicate d 0++di v (i+1):=by rw[List.replicate_succ',List.append_assoc,List.set_append_right _ _ (by simp)];simp[di,byteAt,zY]
    simp only[iter,e1,cond_true,e3,e4,e5,e6,e7,Option.bind_some,Sum.elim_inl];rw[show wrap64 ((i:Int)+1)=((i+1:Nat):Int) from aT (by omega)];exact ih (i+1) m (by omega) (by omega)
 have:=main n 0 big (by omega) (by rw[jv];omega);simp only[Int.pow_zero,Int.ediv_one,di,List.append_nil] at this;exact this
theorem O4 (n:Int):F58 (n,())=some (di (IntKind.wrap .u64 n) 4,()):=by
 unfold F58;have hw:=uA n;have h:wG (IntKind.wrap .u64 n,4,())=_:=Qe (v:=IntKind.wrap .u64 n) (by omega) (by omega) 4 (by omega);simp only[h,Option.bind_some]
theorem Dj (n:Int):kD (n,())=some (di (IntKind.wrap .u64 n) 8,()):=by
 unfold kD;have hw:=uA n;have h:wG (IntKind.wrap .u64 n,8,())=_:=Qe (v:=IntKind.wrap .u64 n) (by omega) (by omega) 8 (by omega);simp only[h,Option.bind_some]
theorem iY (s:List UInt8) (h:s.length≤140737488351232):F56 (s,())=some (aZ s,()):=by
 unfold F56 aZ;simp only[O4,Option.bind_some];rw[mM (by simp only[rO];omega)];rfl
theorem za1 {n:Int} (h1 : -9223372036854775808≤n) (h2:n≤9223372036854775807):wrap64 (IntKind.wrap .u64 n)=n:=by
 rw[uA];show IntKind.wrap .i64 _=n;simp only[IntKind.wrap,IntKind.bits,IntKind.signed];simp;omega
end Go.Proofs.YteebpcpkhojfkaaGreat
