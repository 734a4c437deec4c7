/-
 Plain laws of what lies below,as this seat reaches them (by a program of the bench: port.py).
-/
import Derived.Test.YtlegpimppfabgaaGreatOctPro
import Derived.Test.YtlegpimppfabgaaGreatSxS
namespace Go.Proofs.YtlegpimppfabgaaGreat
open Go.Sx Go Classical
set_option maxRecDepth 10000
structure Codec {α:Type} (enc:α→List UInt8) (g:In→α×In) (ok:α→Prop):Prop where
 rt:∀ v r,ok v→g (enc v++r,false,())=(v,(r,false,()))
 fine:∀ s,Fine s→Fine (g s).2
 bad:∀ s,s.2.1=true→(g s).2.2.1=true
 ex:∀ s,s.2.1=false→(g s).2.2.1=false→ok (g s).1∧s.1=enc (g s).1++(g s).2.1
 len:∀ s,(g s).2.1.length≤s.1.length
theorem Codec.map {α β:Type} {e:α→List UInt8} {g:In→α×In} {p:α→Prop} (c:Codec e g p) (to:α→β) (back:β→α) (q:β→Prop) (h1:∀ a,p a→back (to a)=a∧q (to a)) (h2:∀ b,q b→p (back b)∧to (back b)=b) :
  Codec (fun b=>e (back b)) (fun s=>(to (g s).1,(g s).2)) q where
 rt:=fun v r hv=>by rw[c.rt (back v) r (h2 v hv).1,(h2 v hv).2]
 fine:=fun s h=>c.fine s h
 bad:=fun s h=>c.bad s h
 ex:=fun s h0 h=>by obtain⟨h3,h4⟩:=c.ex s h0 h;exact⟨(h1 _ h3).2,by rw[(h1 _ h3).1];exact h4⟩
 len:=fun s=>c.len s
theorem jy {α:Type} (e:α→List UInt8) (h:∀ v,1≤(e v).length):∀ l:List α,l.length≤(l.flatMap e).length
 | []=>Nat.le_refl _
 | v::l=>by have:=h v;have:=jy e h l;simp only[List.flatMap_cons,List.length_cons,List.length_append];omega
end Go.Proofs.YtlegpimppfabgaaGreat
