/-
 Plain laws of what lies below,as this seat reaches them (by a program of the bench: port.py).
-/
import Derived.Test.YteebpcpkhojfkaaGreatCodec
import Derived.Test.YteebpcpkhojfkaaGreatSxS
namespace Go.Proofs.YteebpcpkhojfkaaGreat
open Go.Sx Go Classical
set_option maxRecDepth 10000
abbrev Sh {α:Type} (l:List α):Prop:=l.length≤9223372036854775806
def Sm (s:In):Prop:=s.1.length≤1000000000
theorem zen (s:In):F50 (s,())=some ((nZ s).1,(nZ s).2,()):=zcN s
theorem zdz (s:In):F48 (s,())=some ((tC s).1,(tC s).2,()):=by
 unfold F48;have hw:uu (s,1,())=_:=Ry s 1 (by omega);simp only[hw,Option.bind_some];rfl
def bG (n:Int):List UInt8:=vJ (Sx.byteOf (IntKind.wrap .u8 n))
def LC (s:In):Int×In:=(wrap64 (ay (tC s).1),(tC s).2)
def Ok8 (n:Int):Prop:=0≤n∧n≤255
theorem kindC:Codec bG LC Ok8:=
 byteC.map (fun b=>wrap64 (ay b)) (fun n=>Sx.byteOf (IntKind.wrap .u8 n)) Ok8
  (fun b _=>by
   have hb:=b.toNat_lt;have e:wrap64 (ay b)=(b.toNat:Int):=iZ (by unfold ay;omega) (by unfold ay;omega);rw[e];refine⟨?_,by unfold Ok8;omega⟩;rw[zY];unfold Sx.byteOf;have:((b.toNat:Int) % 256).toNat=b.toNat:=by omega
   rw[this];simp)
  (fun n h=>by
   refine⟨trivial,?_⟩;unfold Ok8 at h;rw[zY];have e:ay (Sx.byteOf (n % 256))=n:=by
    unfold ay Sx.byteOf;have:(UInt8.ofNat (n % 256).toNat).toNat=(n % 256).toNat:=by simp;omega
    rw[this];omega
   rw[e];exact iZ (by omega) (by omega))
theorem Dl {T R:Type} {step:T→Option (T⊕R)} {mk:Nat→T} {n:Nat} {r:R} (hn:n≤9223372036854775807) (h:∀ i,i<n→step (mk i)=some (.inl (mk (i+1)))) (hK:step (mk n)=some (.inr r)):iter step big (mk 0)=some r:=by
 have:=rV (mk:=mk) (fun _=>true) (rt:=r) (rf:=r) hn (fun i hi=>h i hi) hK;rw[this];cases (List.range n).all (fun _=>true)<;>rfl
theorem UL {α:Type} {l x:List α} (h:l.length+x.length≤2000000000000):oq l x=some (l++x):=by
 unfold oq;have:Nat.ble (l.length+x.length) MV=true:=Nat.ble_eq_true_of_le h;rw[this];rfl
abbrev Big:Nat:=140737488355000
theorem za8 {α:Type} (e:α→List UInt8) {l:List α} {i:Nat} {v:α} (h:l[i]? = some v):(l.take (i+1)).flatMap e=(l.take i).flatMap e++e v:=by
 rw[List.take_add_one,h];simp
theorem za7 {α:Type} (e:α→List UInt8) (l:List α) (i:Nat):((l.take i).flatMap e).length≤(l.flatMap e).length:=by
 have h:(l.flatMap e)=(l.take i).flatMap e++(l.drop i).flatMap e:=by rw[←List.flatMap_append,List.take_append_drop]
 rw[h,List.length_append];omega
theorem oL {α T R:Type} (l:List α) (hl:Sh l) (e:α→List UInt8) (b:List UInt8) (mk:Nat→List UInt8→T) (hc:b.length+(l.flatMap e).length≤Big) {step:T→Option (T⊕R)} {r:R}
  (h:∀ (i:Nat) v (d:List UInt8),i<l.length→l[i]? = some v→d.length+(e v).length≤Big→step (mk i d)=some (.inl (mk (i+1) (d++e v))))
  (hK:step (mk l.length (b++l.flatMap e))=some (.inr r)):iter step big (mk 0 b)=some r:=by
 have:=Dl (step:=step) (mk:=fun i=>mk i (b++(l.take i).flatMap e)) (n:=l.length) (r:=r) (by unfold Sh at hl;omega) (fun i hi=>by
  obtain⟨v,hv⟩:∃ v,l[i]? = some v:=⟨_,List.getElem?_eq_getElem hi⟩
  have h2:=za8 e hv;have h3:=za7 e l (i+1);rw[h2,List.length_append] at h3;rw[h i v _ hi hv (by rw[List.length_append];omega),h2,List.append_assoc]) (by simp only[List.take_length];exact hK)
 simpa using this
theorem jO {α:Type} {l:List α} {i:Nat} (h:i<l.length):bC l (i:Int)=some i:=by
 unfold bC;have:(0:Int)≤(i:Int)∧(i:Int)<(l.length:Int):=⟨by omega,by omega⟩
 simp only[this,and_self,decide_true,cond_true,Int.toNat_natCast]
theorem fK (v:Bool):(je v).length=1:=rfl
theorem kJ (n:Int):(bG n).length=1:=rfl
theorem zdo (b:List UInt8) (n:Int) (h:b.length+(ak n).length≤Big):F28 ((b,()),n,())=some ((b++ak n,()),()):=zbv b n (by rw[bu] at h;exact h)
theorem zcn (b:List UInt8) (n:Int) (h:b.length+(bG n).length≤Big):F25 ((b,()),Sx.byteOf (IntKind.wrap IntKind.u8 n),())=some ((b++bG n,()),()):=zau b _ h
theorem zA (v:Bool):F60 (v,())=some (je v,()):=by
 unfold F60;cases v<;>rfl
theorem uD (n:Nat):F58 (Int.ofNat n,())=some (countB n,()):=O4 _
theorem Iz {α:Type} {e f:α→List UInt8}:∀ {l:List α},(∀ x∈l,e x=f x)→l.flatMap e=l.flatMap f
 | [],_=>rfl
 | v::l,h=>by rw[List.flatMap_cons,List.flatMap_cons,h v (List.mem_cons_self ..),Iz fun x hx=>h x (List.mem_cons_of_mem _ hx)]
end Go.Proofs.YteebpcpkhojfkaaGreat
