/- Bundled: what the texts HN HO say one after another. -/
import Derived.Test.YtegkdnfeceomdaaGreatKDC1
import Derived.Test.YtegkdnfeceomdaaGreatKDA8
import Derived.Test.YtegkdnfeceomdaaGreatKDA26
import Derived.Test.YtegkdnfeceomdaaGreatKDA20
import Derived.Test.YtegkdnfeceomdaaGreatKDA2
import Derived.Test.YtegkdnfeceomdaaGreatKDA15
import Derived.Test.YtegkdnfeceomdaaGreatKDA4
set_option maxRecDepth 100000
set_option maxHeartbeats 16000000
set_option linter.unusedSimpArgs false
set_option linter.unusedVariables false
namespace Go.Hs
open Go.RowKit Go.Proofs.YtegkdnfeceomdaaGreat
theorem KP.joinH {p q:Nat→Prop} {a b c:World} (h:KP p a b) (k:KP q b c) (hq:∀j,q j→p j∨a.heap.size≤j):KP p a c:=
 ⟨k.os.trans h.os, k.tape.trans h.tape, k.output.trans h.output, Nat.le_trans h.size k.size, fun i hi hr => (k.block i (Nat.lt_of_lt_of_le hi h.size) (fun e => by
  rcases hq i e with e|e
  ·exact hr e
  ·omega)).trans (h.block i hi hr)⟩
structure EntH (b:Bk) (i:Nat) (e:Ent):Prop where
 par:0≤e.parcel∧e.parcel<numsB b
 kind:e.kind=0∨e.kind=1∨e.kind=2∨e.kind=3
 other:e.kind=2→(0≤e.other∧e.other<numsB b)∧e.other≠e.parcel
 part:e.kind=1→1≤e.part∧e.part≤1000
 split:e.kind=1→numsTo b i<numsB b
end Go.Hs
namespace Go.Proofs.YtegkdnfeceomdaaGreat
open Go.RowKit Go.Hs
attribute [local irreducible] World.setCell World.alloc
end Go.Proofs.YtegkdnfeceomdaaGreat
namespace Go.Hs
open Go.RowKit
def fdl (x:Fd):List Value:= [.bool x.there,.bool x.gone,.int .i64 x.owner,.int .i64 x.value,.int .i64 x.sown]
def fdls (f:Fds) (n:Nat):List Value:=(List.range n).flatMap (fun i=>fdl (f i))
theorem fdls_len (f:Fds):∀n,(fdls f n).length=n*5
  |0=>rfl
  | n + 1 => by
    unfold fdls;rw [List.range_succ,List.flatMap_append,List.length_append];have:=fdls_len f n;unfold fdls at this;rw [this];simp [fdl];omega
theorem fdls_get (f:Fds):∀(n i k:Nat),i<n→k<5→(fdls f n)[i*5+k]?=(fdl (f i))[k]?
  |0,i,k,h,_=>absurd h (Nat.not_lt_zero _)
  | n + 1, i, k, h, hk => by
    have hl:=fdls_len f n;unfold fdls at hl⊢;rw [List.range_succ,List.flatMap_append];by_cases e:i=n
    · subst e;rw [List.getElem?_append_right (by omega),hl,Nat.add_sub_cancel_left];simp
    · rw [List.getElem?_append_left (by omega)];exact fdls_get f n i k (by omega) hk
def FdR (g N:Nat) (f:Fds) (w:World):Prop:=∀i,i<N→FdAt w g (i*5) (f i)
theorem FdR.kp {g N:Nat} {f:Fds} {w W:World} {p:Nat→Prop} (h:FdR g N f w) (k:KP p w W) (hg:¬p g):FdR g N f W:=fun i hi=>(h i hi).keep (fun _ _ e=>k.keep hg e)
theorem FdR.ext {g N:Nat} {f:Fds} {w W:World} (h:FdR g N f w) (k:Ext w W):FdR g N f W:=fun i hi=>(h i hi).keep (fun _ _ e=>k.keep e)
theorem FdL.all {B N:Nat} {f:Fds} {w:World} (h:FdL B N f w):∀(j:Nat) (u:Value),(fdls f N)[j]?=some u→w.cell? ⟨B,j,none⟩=some u:=fun j u e=>by
 have hj:j<N*5:=by
  rcases Nat.lt_or_ge j (N*5) with h|h
  ·exact h
  ·rw [List.getElem?_eq_none (by rw [fdls_len];exact h)] at e;cases e
 obtain⟨i,k,hk5,rfl⟩:∃i k,k<5∧j=i*5+k:=⟨j / 5,j % 5,by omega,by omega⟩;obtain⟨h0,h1,h2,h3,h4⟩:=h.fd i (by omega);rw [fdls_get f N i k (by omega) hk5] at e;have hk:k=0∨k=1∨k=2∨k=3∨k=4:=by omega
 rcases hk with rfl|rfl|rfl|rfl|rfl<;>simp only [fdl,List.getElem?_cons_zero,List.getElem?_cons_succ,Option.some.injEq] at e<;>subst e
 ·exact h0
 ·exact h1
 ·exact h2
 ·exact h3
 ·exact h4
structure ThenP (w0:World) (B N:Nat) (st:Nat→Option Fds) (day:Int) (d:Nat) (v:Value) (w:World):Prop where
 yes:0≤day∧day<d→∃g q f,v= .slice (some ⟨g,0,none⟩) N q∧N≤q∧g≠B∧g<w.heap.size∧w0.heap.size≤g∧st (day.toNat+1)=some f∧FdR g N f w
 no:¬(0≤day∧day<d)→v= .slice none 0 0
theorem ThenP.kp {w0:World} {B N:Nat} {st:Nat→Option Fds} {day:Int} {d:Nat} {v:Value} {w W:World} (h:ThenP w0 B N st day d v w) (k:KP (fun j=>j=B) w W):ThenP w0 B N st day d v W:=
 ⟨fun hd=>let ⟨g,q,f,e,h1,h2,h3,h4,h5,h6⟩:=h.yes hd;⟨g,q,f,e,h1,h2,Nat.lt_of_lt_of_le h3 k.size,h4,h5,h6.kp k h2⟩,h.no⟩
theorem ThenP.skip {w0:World} {B N:Nat} {st:Nat→Option Fds} {day:Int} {d:Nat} {v:Value} {w:World} (h:ThenP w0 B N st day d v w) (hd:(d:Int)≠day):ThenP w0 B N st day (d+1) v w:=
 ⟨fun h2=>h.yes (by omega),fun h2=>h.no (by omega)⟩
end Go.Hs
namespace Go.Proofs.YtegkdnfeceomdaaGreat
open Go.RowKit Go.Hs
attribute [local irreducible] World.setCell World.alloc
end Go.Proofs.YtegkdnfeceomdaaGreat
