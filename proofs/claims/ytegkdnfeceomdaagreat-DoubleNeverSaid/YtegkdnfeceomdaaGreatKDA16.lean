/- Bundled: what the texts UJ UK UL OY OZ SM say one after another. -/
import Derived.Test.YtegkdnfeceomdaaGreatKDA15
import Derived.Test.YtegkdnfeceomdaaGreatKDA3
import Derived.Test.YtegkdnfeceomdaaGreatKDA5
import Derived.ArgAppend
import Derived.Lib.AppendZeros
import Derived.Deep.AppendLies
import Derived.Deep.DeepAppendRoom
import Derived.Laws.AppendOwnNone
import Derived.Deep.RegionHeld3
import Derived.Deep.RegionLaw
set_option maxRecDepth 100000
set_option maxHeartbeats 16000000
set_option linter.unusedSimpArgs false
set_option linter.unusedVariables false
namespace Go.Hs
open Go.RowKit
def Sm.v (s:Sm):Value:= .agg #[.int .i64 s.award,.int .i64 s.e0,.int .i64 s.e1,.int .i64 s.e2,.int .i64 s.e3]
def Out.v (o:Out):Value:= .agg #[.int .i64 o.pay,.int .i64 o.loser]
structure SmN (n:Nat) (s:Sm):Prop where
 a:0≤s.award∧s.award≤100000*n
 e0:0≤s.e0∧s.e0≤n
 e1:0≤s.e1∧s.e1≤n
 e2:0≤s.e2∧s.e2≤n
 e3:0≤s.e3∧s.e3≤n
structure OutOK (o:Out):Prop where
 pay:0≤o.pay∧o.pay≤100000
 loser:o.loser<4
theorem SmN.zero:SmN 0 Sm.zero:=⟨by simp [Sm.zero],by simp [Sm.zero],by simp [Sm.zero],by simp [Sm.zero],by simp [Sm.zero]⟩
theorem SmN.plus {n:Nat} {s:Sm} {o:Out} (h:SmN n s) (k:OutOK o):SmN (n+1) (s.plus o):=by
 obtain⟨h1,h2,h3,h4,h5⟩:=h;obtain⟨k1,k2⟩:=k;refine⟨?_,?_,?_,?_,?_⟩<;>simp only [Sm.plus]
 ·omega
 all_goals split<;>omega
end Go.Hs
namespace Go.Proofs.YtegkdnfeceomdaaGreat
open Go.RowKit Go.Hs
attribute [local irreducible] World.setCell World.alloc
end Go.Proofs.YtegkdnfeceomdaaGreat
namespace Go.Hs
open Go.RowKit
theorem Cells9.at {w:World} {b off:Nat} {us:List V9} (h:Cells9 w (some ⟨b,off,none⟩) us) (i:Nat) (hi:i<us.length):Cell9 w b (off+i*9) us[i]:=by
 obtain⟨b',off',he,hr⟩:=h i hi;cases he;exact hr
end Go.Hs
namespace Go.Proofs.YtegkdnfeceomdaaGreat
open Go.RowKit Go.Hs
attribute [local irreducible] World.setCell World.alloc
end Go.Proofs.YtegkdnfeceomdaaGreat
namespace Go.Hs
open Go.RowKit Go.Proofs.YtegkdnfeceomdaaGreat
def countsT (fs:List Fld) (t:List Thr):List Int:=(fs.zip t).map (fun p=>settledS p.1 p.2)
theorem own_intsV {w:World} {B e n:Nat} {v:Value} {us:List Value} {xs:List Int} (h:w.ownsRow B e 1 v n us) (hu:us=xs.map (.int .i64)) (hn:n=xs.length) (ho:∀x∈xs,i64ok x) (hl:xs.length≤1000):IntsV w v xs:=by
 subst hu hn;rcases own_open h with ⟨rfl,h0⟩|⟨g,cap,rfl,hB,hg,hn,hc⟩
 ·have e:xs= []:=List.eq_nil_of_length_eq_zero h0;subst e;exact⟨none,0,rfl,Nat.le_refl _,by simp,fun i h=>absurd h (by simp)⟩
 ·refine ⟨some ⟨g, 0, none⟩, cap, rfl, hn, by omega, fun i hi => ⟨g, 0, rfl, ?_, ho _ (List.getElem_mem hi)⟩⟩
  have:=hc i (.int .i64 xs[i]) (by simp [hi]);simpa using this
structure PlayI (w:World) (R S:Nat) (cs:List Int) (s:Sm) (v:Value) (W:World):Prop where
 ext:Ext w W
 r0:W.cell? ⟨R,0,none⟩=some v
 r1:W.cell? ⟨R,1,none⟩=some (.int .i64 0)
 r2:W.cell? ⟨R,2,none⟩=some (.int .i64 0)
 r3:W.cell? ⟨R,3,none⟩=some (.int .i64 0)
 s0:W.cell? ⟨S,0,none⟩=some (.int .i64 s.award)
 s1:W.cell? ⟨S,1,none⟩=some (.int .i64 s.e0)
 s2:W.cell? ⟨S,2,none⟩=some (.int .i64 s.e1)
 s3:W.cell? ⟨S,3,none⟩=some (.int .i64 s.e2)
 s4:W.cell? ⟨S,4,none⟩=some (.int .i64 s.e3)
 fr:∀o,W.frozen? ⟨R,o,none⟩=false
 fs:∀o,W.frozen? ⟨S,o,none⟩=false
 own:W.ownsRow (S+1) 3 1 v cs.length (cs.map (.int .i64))
 n1:w.heap.size≤R
 n2:R+1=S
theorem PlayI.lt {w:World} {R S:Nat} {cs:List Int} {s:Sm} {v:Value} {W:World} (h:PlayI w R S cs s v W):S<W.heap.size:=lt_of_cell h.s0
theorem PlayI.grow {w:World} {R S:Nat} {cs:List Int} {s:Sm} {v:Value} {W W':World} (h:PlayI w R S cs s v W) (hx:Ext W W'):PlayI w R S cs s v W':=
 ⟨h.ext.trans hx, hx.keep h.r0, hx.keep h.r1, hx.keep h.r2, hx.keep h.r3, hx.keep h.s0, hx.keep h.s1, hx.keep h.s2, hx.keep h.s3, hx.keep h.s4,
  fun o=>(hx.frozen (lt_of_cell h.r0)).trans (h.fr o),fun o=>(hx.frozen (lt_of_cell h.s0)).trans (h.fs o),own_keep h.own (fun _ hg=>hx.heap (own_lt h.own hg).2),h.n1,h.n2⟩
theorem PlayI.sum {w:World} {R S:Nat} {cs:List Int} {s:Sm} {v:Value} {W:World} (h:PlayI w R S cs s v W) (q:Sm):
  PlayI w R S cs q v (((((W.setCell ⟨S,0,none⟩ (.int .i64 q.award)).setCell ⟨S,1,none⟩ (.int .i64 q.e0)).setCell ⟨S,2,none⟩ (.int .i64 q.e1)).setCell ⟨S,3,none⟩ (.int .i64 q.e2)).setCell ⟨S,4,none⟩ (.int .i64 q.e3)):=by
 have h1:=h.n1;have h2:=h.n2
 have ne:∀ {b i o:Nat} {x y:Value} {A:World},(b≠S∨i≠o)→A.cell? ⟨b,i,none⟩=some x→(A.setCell ⟨S,o,none⟩ y).cell? ⟨b,i,none⟩=some x:=fun {b i o x y A} hne hc=>by
  rw [World.cell?_setCell_other (h:=by intro e;cases e;simp at hne)];exact hc
 have sm:∀ {i:Nat} {x y:Value} {A:World},A.cell? ⟨S,i,none⟩=some x→(A.setCell ⟨S,i,none⟩ y).cell? ⟨S,i,none⟩=some y:=fun hc=>World.cell?_setCell_same _ _ _ hc
 refine⟨((((h.ext.setCell (by omega) _).setCell (by omega) _).setCell (by omega) _).setCell (by omega) _).setCell (by omega) _,?_,?_,?_,?_,?_,?_,?_,?_,?_,?_,?_,?_,h.n1,h.n2⟩
 ·exact ne (.inl (by omega)) (ne (.inl (by omega)) (ne (.inl (by omega)) (ne (.inl (by omega)) (ne (.inl (by omega)) h.r0))))
 ·exact ne (.inl (by omega)) (ne (.inl (by omega)) (ne (.inl (by omega)) (ne (.inl (by omega)) (ne (.inl (by omega)) h.r1))))
 ·exact ne (.inl (by omega)) (ne (.inl (by omega)) (ne (.inl (by omega)) (ne (.inl (by omega)) (ne (.inl (by omega)) h.r2))))
 ·exact ne (.inl (by omega)) (ne (.inl (by omega)) (ne (.inl (by omega)) (ne (.inl (by omega)) (ne (.inl (by omega)) h.r3))))
 ·exact ne (.inr (by decide)) (ne (.inr (by decide)) (ne (.inr (by decide)) (ne (.inr (by decide)) (sm h.s0))))
 ·exact ne (.inr (by decide)) (ne (.inr (by decide)) (ne (.inr (by decide)) (sm (ne (.inr (by decide)) h.s1))))
 ·exact ne (.inr (by decide)) (ne (.inr (by decide)) (sm (ne (.inr (by decide)) (ne (.inr (by decide)) h.s2))))
 ·exact ne (.inr (by decide)) (sm (ne (.inr (by decide)) (ne (.inr (by decide)) (ne (.inr (by decide)) h.s3))))
 ·exact sm (ne (.inr (by decide)) (ne (.inr (by decide)) (ne (.inr (by decide)) (ne (.inr (by decide)) h.s4))))
 ·intro o;simp only [World.frozen?_setCell];exact h.fr o
 ·intro o;simp only [World.frozen?_setCell];exact h.fs o
 ·refine own_keep h.own (fun g hg => ?_)
  have hgS:=(own_lt h.own hg).1;rw [Below.heap_setCell _ _ _ _ (show g≠S by omega),Below.heap_setCell _ _ _ _ (show g≠S by omega),Below.heap_setCell _ _ _ _ (show g≠S by omega),Below.heap_setCell _ _ _ _ (show g≠S by omega),Below.heap_setCell _ _ _ _ (show g≠S by omega)]
theorem PlayI.app {w:World} {R S:Nat} {cs:List Int} {s:Sm} {v v':Value} {W W':World} {n:Int} (h:PlayI w R S cs s v W) (hg:W.grownBy W' v.ownBlock) (ho:W'.ownsRow (S+1) 3 1 v' (cs.length+1) (cs.map (.int .i64)++ [.int .i64 n])):
  PlayI w R S (cs++ [n]) s v' (W'.setCell ⟨R,0,none⟩ v'):=by
 have h1:=h.n1;have h2:=h.n2;have hne:∀b,b≤S→some b≠v.ownBlock:=fun b hb e=>by have:=(own_lt h.own e.symm).1;omega
 have k:∀ {b i:Nat} {x:Value},b≤S→W.cell? ⟨b,i,none⟩=some x→W'.cell? ⟨b,i,none⟩=some x:=fun hb hc=>hg.cell hc (hne _ hb)
 have ne:∀ {b i:Nat} {x:Value},(b≠R∨i≠0)→W'.cell? ⟨b,i,none⟩=some x→(W'.setCell ⟨R,0,none⟩ v').cell? ⟨b,i,none⟩=some x:=fun {b i x} hn hc=>by
  rw [World.cell?_setCell_other (h:=by intro e;cases e;simp at hn)];exact hc
 have f:∀b,b≤S→b<W.heap.size→∀o,W'.frozen? ⟨b,o,none⟩=W.frozen? ⟨b,o,none⟩:=fun b hb hl o=>World.frozen?_of_block (w:=W) (hg.block b hl (hne b hb))
 have hl:=h.lt
 refine⟨(grown_ext h.ext hg (fun g hg=>by have:=(own_lt h.own hg).1;omega)).setCell (by omega) _,World.cell?_setCell_same _ _ _ (k (by omega) h.r0),ne (.inr (by decide)) (k (by omega) h.r1),ne (.inr (by decide)) (k (by omega) h.r2),ne (.inr (by decide)) (k (by omega) h.r3),
  ne (.inl (by omega)) (k (Nat.le_refl _) h.s0),ne (.inl (by omega)) (k (Nat.le_refl _) h.s1),ne (.inl (by omega)) (k (Nat.le_refl _) h.s2),ne (.inl (by omega)) (k (Nat.le_refl _) h.s3),ne (.inl (by omega)) (k (Nat.le_refl _) h.s4),?_,?_,?_,h.n1,h.n2⟩
 ·intro o;rw [World.frozen?_setCell,f R (by omega) (by omega)];exact h.fr o
 ·intro o;rw [World.frozen?_setCell,f S (Nat.le_refl _) hl];exact h.fs o
 ·have e1 : (cs ++ [n]).length = cs.length + 1 := by simp
  have e2:(cs++ [n]).map (Value.int .i64)=cs.map (.int .i64)++ [.int .i64 n]:=by simp
  rw [e1,e2];refine own_keep ho (fun g hg=> ?_)
  have:=(own_lt ho hg).1;exact Below.heap_setCell _ _ _ _ (show g≠R by omega)
end Go.Hs
namespace Go.Proofs.YtegkdnfeceomdaaGreat
open Go.RowKit Go.Hs
attribute [local irreducible] World.setCell World.alloc
end Go.Proofs.YtegkdnfeceomdaaGreat
namespace Go.Hs
open Go.RowKit
theorem own_prefix {w:World} {B e k n m cap g:Nat} {us vs:List Value} (h:w.ownsRow B e k (.slice (some ⟨g,0,none⟩) (n+m) cap) (n+m) (us++vs)) (hu:us.length=n*k):w.ownsRow B e k (.slice (some ⟨g,0,none⟩) n cap) n us:=by
 refine⟨hu,.inr ?_⟩
 rcases h.2 with ⟨h0,-⟩|⟨g',cap',cur,hv,hb,hg,hn,hc,hs,ht⟩
 ·cases h0
 ·cases hv
  refine⟨g,cap,cur,rfl,hb,hg,by omega,hc,hs,?_⟩
  have e1:cur.toList.take (n*k)=(cur.toList.take ((n+m)*k)).take (n*k):=by
   rw [List.take_take,Nat.min_eq_left (Nat.mul_le_mul_right _ (Nat.le_add_right _ _))]
  rw [e1,ht,←hu];exact List.take_left
section
variable {P:Program} {w:World}
theorem run_append_keep (t ty:TypeId) (base:Nat) (e:TypeId) (i:TypeInfo) (z:Value) (size bytes:Nat) (ht:P.underlying t=some (.slice e)) (hi:P.info? e=some i) (hz:i.zero=some z)
  (hsize:i.size=size) (hby:i.bytes=bytes) (hzs:z.cells.size=size) (hsz:0<size)
  (v:Value) (n:Nat) (xs:List Value) (hown:w.ownsRow base e size v n xs)
  (ad:Addr) (m c:Nat) (news:List Value) (hl:news.length=m*size) (hnews:∀j u,news[j]?=some u→w.cell? (ad.add j)=some u) (h1:∀u∈news,u.oneCell'=true)
  (hm:0<m) (h63:n+m≤maxLen) (hbytes:(n+m)*bytes≤140737488355328) (hbase:base≤w.heap.size):
  ∃g cap w',(Builtin.append_ #[t,t] ty #[v,.slice (some ad) m c]).run P w= .ok (.slice (some ⟨g,0,none⟩) (n+m) cap) w'∧
   w'.ownsRow base e size (.slice (some ⟨g,0,none⟩) (n+m) cap) (n+m) (xs++news)∧w'.ownsRow base e size v n xs∧w.grownBy w' v.ownBlock∧base≤g∧g<w'.heap.size:=by
 rcases own_open hown with ⟨rfl,h0⟩|⟨g,cap,rfl,hb,hlt,hcap,-⟩
 ·obtain ⟨g, cap, w', hr, h2, h3, h4, h5⟩ := run_append_lies (P := P) w t ty base e i z size bytes ht hi hz hsize hby hzs hsz _ n xs hown ad m c news hl hnews h1 hm h63 hbytes hbase _ rfl; refine ⟨g, cap, w', hr, h2, ⟨hown.1, .inl ⟨rfl, h0⟩⟩, h3, ?_, h5⟩
  rcases h4 with h4|h4
  ·cases h4
  ·omega
 ·by_cases hroom : n + m ≤ cap
  ·obtain⟨w',hr,h2,h3⟩:=run_append_own_spare (P:=P) w base t ty e i size ht hi hsize g n cap xs hown ad m c news hl hnews h1 hroom;exact⟨g,cap,w',hr,h2,own_prefix h2 hown.1,h3,hb,Nat.lt_of_lt_of_le hlt h3.size⟩
  ·have hcl := hown.cells (g := g) rfl; obtain ⟨v', w', hr, h2, h3⟩ := run_append_arg_grows (P := P) w t ty e i z size bytes ht hi hz hsize hby hzs hsz ⟨g, 0, none⟩ n cap xs hown.1 hcl ad m c news hl hnews (by omega) h63 hbytes; obtain ⟨g', cap', rfl, hg', hlt'⟩ := h2.form (by omega); refine ⟨g', cap', w', hr, ?_, own_keep hown (fun b hb => h3.block b (own_lt hown hb).2 (by simp)), ⟨h3.os, h3.tape, h3.output, h3.size, fun k hk _ => h3.block k hk (by simp)⟩, by omega, hlt'⟩
   refine⟨h2.1,?_⟩
   rcases h2.2 with h|⟨a1,a2,a3,a4,a5,a6⟩
   ·exact .inl h
   ·exact .inr ⟨a1,a2,a3,a4,Nat.le_trans hbase a5,a6⟩
theorem step_append_keep {ops:Array Oper} {o:Oper} {a:Act} {K:Act→World→Prop} {Q:Exit→Act→World→Prop} {E:Prop} (hgd:o.guard=none) (s x:Operand) (t:TypeId)
  (ho:o.op= .call { callee:= .builtin .append,args:= #[s,x],argTypes:= #[t,t] })
  (base:Nat) (e:TypeId) (i:TypeInfo) (z:Value) (size bytes:Nat) (ht:P.underlying t=some (.slice e)) (hi:P.info? e=some i) (hz:i.zero=some z)
  (hsize:i.size=size) (hby:i.bytes=bytes) (hzs:z.cells.size=size) (hsz:0<size)
  (v:Value) (n:Nat) (xs:List Value) (hs:a.eval s=v) (hown:w.ownsRow base e size v n xs)
  (ad:Addr) (m c:Nat) (news:List Value) (hx:a.eval x= .slice (some ad) m c) (hl:news.length=m*size) (hnews:∀j u,news[j]?=some u→w.cell? (ad.add j)=some u) (h1:∀u∈news,u.oneCell'=true)
  (hm:0<m) (h63:n+m≤maxLen) (hbytes:(n+m)*bytes≤140737488355328) (hbase:base≤w.heap.size)
  (h:∀g cap w',w'.ownsRow base e size (.slice (some ⟨g,0,none⟩) (n+m) cap) (n+m) (xs++news)→w'.ownsRow base e size v n xs→w.grownBy w' v.ownBlock→base≤g→g<w'.heap.size→K (a.put o.dst (.slice (some ⟨g,0,none⟩) (n+m) cap)) w'):
  if Region.wanted o (yielded ops a.tmps)=true then Oper.wp P o a w K Q else E:=by
 have hw:Region.wanted o (yielded ops a.tmps)=true:=by simp [Region.wanted,hgd]
 rw [if_pos hw];obtain⟨g,cap,w',hr,h2,h3,h4,h5,h6⟩:=run_append_keep (P:=P) (w:=w) t o.type base e i z size bytes ht hi hz hsize hby hzs hsz v n xs hown ad m c news hl hnews h1 hm h63 hbytes hbase;unfold Oper.wp execOp;simp only [ho,resolve,invoke,builtin,Sem.run_bind,Sem.run_pure,Result.andThen_ok,List.map_toArray,List.map_cons,List.map_nil,hs,hx,hr];exact h g cap w' h2 h3 h4 h5 h6
end
end Go.Hs
namespace Go.Proofs.YtegkdnfeceomdaaGreat
open Go.RowKit Go.Hs
attribute [local irreducible] World.setCell World.alloc
theorem grow_x (n:Nat) (w:World) (hn:n≤1000):
  Calls Tryz.prog 161 #[.slice none 0 0,.int .i64 n] w fun e w'=>∃v',e= .returned v'∧w'.ownsRow w.heap.size 3 1 v' 0 []∧Ext w w':=by
 obtain⟨i0,hi,hz0,hz1,hz2⟩:=info_parts info_int;have hw:IntKind.i64.wrap (n:Int)=n:=IntWalk.i64_in _ (by omega);by_cases h0:0<n
 ·have h0' : (0 : Int) < (n : Int) := by omega
  have hd:decide ((0:Int)<(n:Int))=true:=decide_eq_true h0';have happ:=Lib.run_append_nil_zeros (P:=Tryz.prog) w 22 3 22 3 i0 (.int .i64 0) .i64 .i64 Tryz.underlying22 Tryz.underlying3 hi hz0 n h0 (by rw [hz1];decide) (by omega) (by rw [hz2];omega);have hge:=grownCap_ge w n 0 3;have hle:grownCap w n 0 3≤maxLen:=grownCap_le_maxLen w n 0 3 (by unfold maxLen;omega)
  have HC:Hid ((Builtin.zeroCells (Value.int .i64 0).cells n++Builtin.zeroCells (Value.int .i64 0).cells (grownCap w n 0 3 - n)).size=grownCap w n 0 3):=hHd (by
   have e:(Value.int .i64 0).cells.size=1:=rfl;simp only [Array.size_append,size_zeroCells,e];omega)
  generalize Builtin.zeroCells (Value.int .i64 0).cells n++Builtin.zeroCells (Value.int .i64 0).cells (grownCap w n 0 3 - n)=zs at*;generalize grownCap w n 0 3=q at*;go_enter Tryz.func161,Tryz.ntmps161
  go_wp2_with (at_builtin;refine Lib.wpList_append_run w rfl _ _ _ _ rfl _ _ rfl rfl _ _ happ ?_)
  go_ret;exact⟨_,rfl,⟨rfl,.inr ⟨_,_,zs,rfl,Nat.le_refl _,heap_alloc_new w _,Nat.zero_le _,hle,by rw [HC.out,Nat.mul_one],by simp⟩⟩,EX⟩
 ·obtain rfl : n = 0 := by omega
  go_enter Tryz.func161,Tryz.ntmps161
  (go_wp2_with fail);go_ret;exact⟨_,rfl,World.ownsRow_nil _ _ _ _,Ext.refl _⟩
def catL (xs:Nat→List Int) (k:Nat):List Int:=(List.range k).flatMap xs
theorem catL_next (xs:Nat→List Int) (k:Nat):catL xs (k+1)=catL xs k++xs k:=by simp [catL,List.range_succ]
theorem concat_x (B N q : Nat) (a : Nat → Option Addr) (c : Nat → Nat) (xs : Nat → List Int) (w : World) (hN : N ≤ 4)
  (hc:∀k,k<N→w.cell? ⟨B,k,none⟩=some (.slice (a k) (xs k).length (c k))) (hv:∀k,k<N→IntsV w (.slice (a k) (xs k).length (c k)) (xs k)) (hl:∀k,k<N→(xs k).length≤200) (hq:N≤q):
  Calls Tryz.prog 126 #[.slice (some ⟨B,0,none⟩) N q] w fun e w'=>∃v',e= .returned v'∧w'.ownsRow w.heap.size 3 1 v' (catL xs N).length ((catL xs N).map (.int .i64))∧Ext w w':=by
 obtain⟨i0,hi,hz0,hz1,hz2⟩:=info_parts info_int
 have HLN:Hid (∀k,k≤N→(catL xs k).length≤200*k):=hHd (fun k hk=>by
  induction k with
  |zero=>simp [catL]
  |succ k ih=>rw [catL_next,List.length_append];have:=ih (by omega);have:=hl k (by omega);omega)
 have HGR:=hHd (fun n W h=>grow_x n W h);have HC:Hid (∀k,k<N→∀W,Ext w W→W.cell? ⟨B,k,none⟩=some (.slice (a k) (xs k).length (c k))):=hHd (fun k hk W hx=>hx.keep (hc k hk));have HV:Hid (∀k,k<N→∀W,Ext w W→IntsV W (.slice (a k) (xs k).length (c k)) (xs k)):=hHd (fun k hk W hx=>(hv k hk).ext hx);have HL:=hHd hl;clear hc hv hl;go_enter Tryz.func126,Tryz.ntmps126
 (go_wp2_with fail);go_loop [3,11] (fun s3 s11=>∃k:Nat,k≤N∧s11= .int .i64 k∧s3= .int .i64 ((catL xs k).length:Nat)) (fun _ s=>N - (intOf s).toNat)
 case atStart=>exact⟨0,Nat.zero_le _,rfl,rfl⟩
 case round =>
  obtain⟨k,hk,rfl,rfl⟩:=hrel;by_cases hlt:k<N
  ·have hcell := HC.out k hlt w (Ext.refl _); have h1 := HLN.out k hk; have h2 := HL.out k hlt; have HX : Hid (((catL xs (k + 1)).length : Int) = (catL xs k).length + (xs k).length) := hHd (by rw [catL_next, List.length_append]; omega); have hk0 : (0 : Int) ≤ (k : Int) := by omega
   have hk1:(k:Int)<(N:Int):=by omega
   have hw:IntKind.i64.wrap (((catL xs k).length:Int)+(xs k).length)=(catL xs k).length+(xs k).length:=IntWalk.i64_in _ (by omega);have hp:¬(((catL xs k).length:Int)+(xs k).length<0):=by omega
   have hd:decide (((catL xs k).length:Int)+(xs k).length<0)=false:=decide_eq_false hp;(go_wp2_with fail);go_round
   case rel=>exact⟨k+1,by omega,by go_num,by rw [HX.out]⟩
   case measure=>simp [intOf];omega
  ·obtain rfl : k = N := by omega
   have hln:=HLN.out k (Nat.le_refl _);(go_wp2_with fail);(with_reducible refine(HGR.out _ _ (by omega)).mono ?_);rintro e w1 ⟨v1,rfl,hown,hx1⟩
   have HO:Hid (∃a5 q5,v1= .slice a5 0 q5∧w1.ownsRow w.heap.size 3 1 (.slice a5 0 q5) 0 []):=hHd (by
    rcases own_open hown with ⟨rfl,-⟩|⟨g,cap,rfl,-⟩
    ·exact⟨_,_,rfl,hown⟩
    ·exact⟨_,_,rfl,hown⟩)
   clear hown;obtain⟨a5,q5,rfl,hown⟩:=HO.out;have HO1:Hid (w1.ownsRow w.heap.size 3 1 (.slice a5 0 q5) 0 ((catL xs 0).map (.int .i64))):=hHd (by simpa [catL] using hown);clear hown HO;(go_wp2_with fail);go_loopw [6,27] (fun s6 s27 wr=>∃(j m:Nat) (a5:Option Addr) (q5:Nat),j≤k∧m=(catL xs j).length∧s27= .int .i64 j∧s6= .slice a5 m q5∧Hid (wr.ownsRow w.heap.size 3 1 (.slice a5 m q5) m ((catL xs j).map (.int .i64)))∧Ext w wr) (fun _ s _=>k - (intOf s).toNat)
   case atStart=>exact⟨0,0,a5,q5,Nat.zero_le _,rfl,rfl,rfl,HO1,hx1⟩
   case round =>
    obtain⟨j,m,a5,q5,hj,hm,rfl,rfl,HO,hx⟩:=hrel;obtain⟨wo,rfl⟩:∃y,y=wr:=⟨_,rfl⟩;by_cases hlt2:j<k
    ·have hcell := HC.out j hlt2 wo hx; obtain ⟨a7, c7, ev, h71, -, hrow⟩ := HV.out j hlt2 wo hx; simp only [Value.slice.injEq] at ev; obtain ⟨ea, -, ec⟩ := ev; have HA := hHd ea; clear ea ec; have hk0 : (0 : Int) ≤ (j : Int) := by omega
     have hk1:(j:Int)<(k:Int):=by omega
     have h1:=HLN.out j hj;have h2:=HL.out j hlt2;have HM:=hHd hm;have HNX:Hid (catL xs (j+1)=catL xs j++xs j):=hHd (catL_next xs j);have hml:m≤200*j:=by omega
     have hszW:w.heap.size≤wo.heap.size:=hx.size;clear hm;generalize hxs:xs j=ys at*;have HXS:=hHd hxs;clear hxs;by_cases he:ys= []
     ·subst he
      have hrun:(Builtin.append_ #[22,22] 22 #[.slice a5 m q5,.slice (a j) 0 (c j)]).run Tryz.prog wo= .ok (.slice a5 m q5) wo:=run_append_none wo _ _ _ i0 Tryz.underlying22 hi _ _ _ _ _ (by
       rcases own_open HO.out with ⟨e,h0⟩|⟨g,cap,e,-,-,h,-⟩
       ·cases e;exact Nat.le_refl _
       ·cases e;exact h)
      simp only [List.length_nil] at hcell;go_wp2_with (at_builtin;refine Lib.wpList_append_run wo rfl _ _ _ _ rfl _ _ rfl rfl _ _ hrun ?_)
      go_roundw
      case rel=>exact⟨j+1,m,a5,q5,by omega,by rw [HNX.out,List.append_nil];exact HM.out,by go_num,rfl,hHd (by rw [HNX.out,List.append_nil];exact HO.out),hx⟩
      case measure=>simp [intOf];omega
     ·have hpos : 0 < ys.length := List.length_pos_iff.2 he; obtain ⟨b7, o7, rfl, -⟩ := hrow 0 hpos; rw [HA.out] at hcell; have HR := hHd hrow; have HE := hHd he; clear hrow he; generalize hcj : c j = cj at *; clear hcj; go_wp2_with (at_builtin; refine wpList_append_own_at _ rfl _ _ 22 rfl w.heap.size 3 i0 (.int .i64 0) 1 8 Tryz.underlying22 hi hz0 hz1 hz2 rfl (by decide) (.slice a5 m q5) m ((catL xs j).map (.int .i64)) rfl ?own ⟨b7, o7, none⟩ ys.length cj (ys.map (.int .i64)) rfl ?len ?cells ?one ?fit1 ?fit2 ?fit3 ?next)
      case own=>exact HO.out
      case len=>simp
      case cells=>
       intro i u hi'
       have hj':i<ys.length:=by
        rcases Nat.lt_or_ge i ys.length with h|h
        ·exact h
        ·rw [List.getElem?_eq_none (by simpa using h)] at hi';cases hi'
       have:=(Rows.at HR.out i hj').1;rw [add_none'];simp [hj'] at hi'
       rw [←hi'];simpa using this
      case one=>
       intro u hu
       obtain⟨x,-,rfl⟩:=List.mem_map.1 hu;rfl
      case fit1=>simp only [maxLen];omega
      case fit2=>omega
      case fit3=>omega
      case next=>
       intro v' w' hown hgrow hnil hat
       have hx':Ext w w':=grown_ext hx hgrow (fun g hg=>(own_lt HO.out hg).1);have OWN:Hid (w'.ownsRow w.heap.size 3 1 v' (m+ys.length) ((catL xs (j+1)).map (.int .i64))):=hHd (by rw [HNX.out,List.map_append];exact hown);rcases own_open hown with ⟨-,h0⟩|⟨g,cap,rfl,hB,hlt3,hcap,hcells⟩
       ·omega
       ·clear hnil hat hown hgrow; (go_wp2_with fail); go_roundw
        case rel=>exact⟨j+1,m+ys.length,_,_,by omega,by rw [HNX.out,List.length_append,HM.out],by go_num,rfl,OWN,hx'⟩
        case measure=>simp [intOf];omega
    ·obtain rfl : j = k := by omega
     have HM:=hHd hm;clear hm;(go_wp2_with fail);go_ret;exact⟨_,rfl,by rw [←HM.out];exact HO.out,hx⟩
end Go.Proofs.YtegkdnfeceomdaaGreat
namespace Go.Hs
open Go.RowKit
theorem all_range_false {n:Nat} {f:Nat→Bool} {k:Nat} (hk:k<n) (h:f k=false):(List.range n).all f=false:=by
 rw [List.all_eq_false];exact⟨k,List.mem_range.2 hk,by simp [h]⟩
theorem listedD_no {c:DCas} {t:DTr} (h:t.days.length≠c.bk.ents.length∨t.sown.length≠c.bk.pars.length∨t.starts.length≠c.covs.length):listedD c t=false:=by
 unfold listedD;by_cases h1:t.days.length=c.bk.ents.length<;>by_cases h2:t.sown.length=c.bk.pars.length<;>by_cases h3:t.starts.length=c.covs.length<;>simp [h1,h2,h3]
 exact absurd h (by simp [h1,h2,h3])
def numsT (t:DTr):List Int:=t.days++(t.sown++(t.starts++ [t.loss]))
theorem listedD_yes {c:DCas} {t:DTr} (h1:t.days.length=c.bk.ents.length) (h2:t.sown.length=c.bk.pars.length) (h3:t.starts.length=c.covs.length):
  listedD c t=(List.range (rngsD c).length).all (fun i=>inR ((numsT t).getD i 0) ((rngsD c).getD i default).1 ((rngsD c).getD i default).2):=by
 unfold listedD numsT;rw [decide_eq_true h1,decide_eq_true h2,decide_eq_true h3];rfl
theorem ownRow_cell {w:World} {B e n cap g:Nat} {us:List Value} (h:w.ownsRow B e 1 (.slice (some ⟨g,0,none⟩) n cap) n us) {k:Nat} {u:Value} (hk:us[k]?=some u):w.cell? ⟨g,k,none⟩=some u:=by
 rcases own_open h with ⟨h0,-⟩|⟨g',cap',e,-,-,-,hc⟩
 ·cases h0
 ·cases e;exact hc k u hk
end Go.Hs
namespace Go.Proofs.YtegkdnfeceomdaaGreat
open Go.RowKit Go.Hs
attribute [local irreducible] World.setCell World.alloc
theorem one_inN {W wa:World} {b:Nat} {x:Value} {t:TypeId} (h:Ext (W.alloc (.cells #[x] t)) wa) (hb:b=W.heap.size):∀j y,([x]:List Value)[j]?=some y→wa.cell? ((⟨b,0,none⟩:Addr).add j)=some y:=by
 subst hb;intro j y hj
 rcases j with _|j
 ·simp at hj
  subst hj;rw [add_none'];exact h.keep (by simp)
 ·simp at hj
theorem listed_d (A : CaseA) (c : DCas) (t : DTr) (vd vs vst : Value) (w : World) (hm : CaseM w A c) (hd : IntsV w vd t.days) (hs : IntsV w vs t.sown) (hst : IntsV w vst t.starts) (h1 : t.days.length ≤ 200) (h2 : t.sown.length ≤ 200) (h3 : t.starts.length ≤ 200) :
    Calls Tryz.prog 69 #[A.v c,.agg #[vd,vs,vst,.int .i64 t.loss]] w fun e w'=>e= .returned (.bool (listedD c t))∧Ext w w':=by
  obtain⟨i0,hi0,hz0,hz1,hz2⟩:=info_parts info_int;obtain⟨a5,n5,rfl,-,-,-⟩:=id hd;obtain⟨a6,n6,rfl,-,-,-⟩:=id hs;obtain⟨a7,n7,rfl,-,-,-⟩:=id hst
  have HCC:Hid (∀B W,Ext w W→W.cell? ⟨B,0,none⟩=some (.slice a5 t.days.length n5)→W.cell? ⟨B,1,none⟩=some (.slice a6 t.sown.length n6)→W.cell? ⟨B,2,none⟩=some (.slice a7 t.starts.length n7)→
      Calls Tryz.prog 126 #[.slice (some ⟨B,0,none⟩) 3 3] W fun e w'=>∃a q,e= .returned (.slice a (t.days++(t.sown++t.starts)).length q)∧w'.ownsRow W.heap.size 3 1 (.slice a (t.days++(t.sown++t.starts)).length q) (t.days++(t.sown++t.starts)).length ((t.days++(t.sown++t.starts)).map (.int .i64))∧Ext W w'):=hHd (fun B W hx q0 q1 q2=>by
    have hF:∀k,k<3→k=0∨k=1∨k=2:=fun k hk=>by omega
    refine(concat_x B 3 3 (fun k=>if k=0 then a5 else if k=1 then a6 else a7) (fun k=>if k=0 then n5 else if k=1 then n6 else n7) (fun k=>if k=0 then t.days else if k=1 then t.sown else t.starts) W (by omega) ?_ ?_ ?_ (Nat.le_refl _)).mono ?_
    · intro k hk
      rcases hF k hk with rfl|rfl|rfl
      · exact q0
      · exact q1
      · exact q2
    · intro k hk
      rcases hF k hk with rfl|rfl|rfl
      · exact hd.ext hx
      · exact hs.ext hx
      · exact hst.ext hx
    · intro k hk
      rcases hF k hk with rfl|rfl|rfl
      · exact h1
      · exact h2
      · exact h3
    · rintro e w' ⟨v', rfl, hown, hx'⟩; have e3 : catL (fun k => if k = 0 then t.days else if k = 1 then t.sown else t.starts) 3 = t.days ++ (t.sown ++ t.starts) := by simp [catL, List.range_succ]
      rw [e3] at hown;rcases own_open hown with ⟨rfl,h0⟩|⟨g,cap,rfl,-⟩
      · refine ⟨none, 0, by rw [h0], ?_, hx'⟩
        rw [h0] at hown⊢;exact hown
      · exact⟨_,_,rfl,hown,hx'⟩)
  have HRN:=hHd (fun W (hx:Ext w W)=>ranges_d A c W (hm.ext hx));have HNO:=hHd (listedD_no (c:=c) (t:=t));have HYE:=hHd (listedD_yes (c:=c) (t:=t));have HLN:Hid ((rngsD c).length=c.bk.ents.length+c.bk.pars.length+c.covs.length+1):=hHd (rngsD_len c);have HNT:Hid (numsT t=(t.days++(t.sown++t.starts))++ [t.loss]):=hHd (by simp [numsT]);have hl1:=hm.l1.2;have hl2:=hm.l2.2;have hl3:=hm.l3.2;clear hm hd hs hst;generalize listedD c t=r at*;generalize rngsD c=rs at*;generalize numsT t=nt at*;unfold CaseA.v caseV at*;obtain⟨a1,c1,a2,c2,a3,c3,a4,c4⟩:=A;simp only at*;have HLL:Hid ((t.days++(t.sown++t.starts)).length=t.days.length+(t.sown.length+t.starts.length)):=hHd (by simp);generalize t.days++(t.sown++t.starts)=ls at*;generalize t.days.length=m1 at*;generalize t.sown.length=m2 at*;generalize t.starts.length=m3 at*;generalize t.loss=lo at*;generalize c.bk.pars.length=n1 at*;generalize c.bk.ents.length=n2 at*;generalize c.covs.length=n3 at*;generalize c.clms.length=n4 at*;generalize c.bk.last=last at*;generalize c.bk.owners=owners at*;generalize c.soc=soc at*;generalize c.day=day at*;generalize c.parcel=parcel at*;generalize c.llo=llo at*;generalize c.lhi=lhi at*;go_enter Tryz.func69,Tryz.ntmps69
  (go_wp2_with fail);obtain⟨W,hW⟩:∃W,W=(((w.alloc (.cells #[.int .i64 last,.int .i64 owners,.slice a1 n1 c1,.slice a2 n2 c2,.int .i64 soc,.int .i64 day,.int .i64 parcel,.slice a3 n3 c3,.int .i64 llo,.int .i64 lhi,.slice a4 n4 c4] 57)).alloc (.cells #[.slice a5 m1 n5,.slice a6 m2 n6,.slice a7 m3 n7,.int .i64 lo] 61)).alloc (.cells #[.slice a5 m1 n5,.slice a6 m2 n6,.slice a7 m3 n7] 22)):=⟨_,rfl⟩;have X:Ext w W:=by subst hW;exact EX
  have HS:Hid (∀w',Ext W w'→(w'.cell? ⟨w.heap.size,0,none⟩=some (.int .i64 last)∧w'.cell? ⟨w.heap.size,1,none⟩=some (.int .i64 owners)∧w'.cell? ⟨w.heap.size,2,none⟩=some (.slice a1 n1 c1)∧w'.cell? ⟨w.heap.size,3,none⟩=some (.slice a2 n2 c2)∧w'.cell? ⟨w.heap.size,4,none⟩=some (.int .i64 soc)∧w'.cell? ⟨w.heap.size,5,none⟩=some (.int .i64 day)∧w'.cell? ⟨w.heap.size,6,none⟩=some (.int .i64 parcel)∧w'.cell? ⟨w.heap.size,7,none⟩=some (.slice a3 n3 c3)∧w'.cell? ⟨w.heap.size,8,none⟩=some (.int .i64 llo)∧w'.cell? ⟨w.heap.size,9,none⟩=some (.int .i64 lhi)∧w'.cell? ⟨w.heap.size,10,none⟩=some (.slice a4 n4 c4)∧w'.cell? ⟨w.heap.size+1,0,none⟩=some (.slice a5 m1 n5)∧w'.cell? ⟨w.heap.size+1,1,none⟩=some (.slice a6 m2 n6)∧w'.cell? ⟨w.heap.size+1,2,none⟩=some (.slice a7 m3 n7)∧w'.cell? ⟨w.heap.size+1,3,none⟩=some (.int .i64 lo)∧w'.cell? ⟨w.heap.size+1+1,0,none⟩=some (.slice a5 m1 n5)∧w'.cell? ⟨w.heap.size+1+1,1,none⟩=some (.slice a6 m2 n6)∧w'.cell? ⟨w.heap.size+1+1,2,none⟩=some (.slice a7 m3 n7))∧Ext W w'):=hHd (fun w' hx=>⟨by subst hW;and_intros<;>exact hx.keep (by simp [go_sem]),hx⟩);have HSf:Hid (∀w',Ext W w'→∀o,w'.frozen? ⟨w.heap.size+1+1,o,none⟩=false):=hHd (fun w' hx o=>(hx.frozen (by subst hW;simp)).trans (by subst hW;simp [go_sem]));have HSz:w.heap.size+1+1+1≤W.heap.size:=by subst hW;simp
  rw [←hW];clear hW;obtain⟨⟨q0,q1,q2,q3,q4,q5,q6,q7,q8,q9,q10,t0,t1,t2,t3,u0,u1,u2⟩,-⟩:=HS.out W (Ext.refl _);(with_reducible refine(HCC.out _ _ X u0 u1 u2).mono ?_);rintro e w1 ⟨al,ql,rfl,hown,hx1⟩;have X1:=X.trans hx1;obtain⟨⟨q0,q1,q2,q3,q4,q5,q6,q7,q8,q9,q10,t0,t1,t2,t3,u0,u1,u2⟩,-⟩:=HS.out w1 hx1;have HOWN:=hHd hown;clear hown HCC;by_cases e1:m1=n2
  · have d1 : ((m1 : Int) != (n2 : Int)) = false := by rw [bne_eq_false_iff_eq]; omega
    by_cases e2:m2=n1
    · have d2 : ((m2 : Int) != (n1 : Int)) = false := by rw [bne_eq_false_iff_eq]; omega
      by_cases e3:m3=n3
      · have d3 : ((m3 : Int) != (n3 : Int)) = false := by rw [bne_eq_false_iff_eq]; omega
        have HR:=hHd (HYE.out e1 e2 e3);have HLR:Hid (rs.length=ls.length+1):=hHd (by rw [HLN.out,HLL.out,e1,e2,e3];omega);have hls:ls.length≤600:=by rw [HLL.out];omega
        have HE:=hHd (And.intro e1 (And.intro e2 e3));clear HNO HYE HLN HLL e1 e2 e3;(go_wp2_with fail);(with_reducible refine(HRN.out _ X1).mono ?_);rintro e w2 ⟨ar,qr,rfl,hrw,hx2⟩;have X2:=X1.trans hx2;have hT3:=hx2.keep t3;have hbl:∀g,(Value.slice al ls.length ql).ownBlock=some g→W.heap.size≤g∧g<w1.heap.size:=fun g hg=>own_lt HOWN.out hg
        have HW2:=hHd (own_extR HOWN.out hx2)
        have HV:Hid (∀k,k<rs.length→∃g2,ar=some ⟨g2,0,none⟩∧∀W',KP (fun j=>(Value.slice al ls.length ql).ownBlock=some j) w2 W'→W'.cell? ⟨g2,k*2,none⟩=some (.int .i64 (rs.getD k default).1)∧W'.cell? ⟨g2,k*2+1,none⟩=some (.int .i64 (rs.getD k default).2)):=hHd (fun k hk=>by
          obtain⟨g2,e2,h3,h4,h5⟩:=Hs.Own.at (C:=rngC) (k:=2) (fun _=>rfl) hrw hk;have eg:rs.getD k default=rs[k]:=by simp [hk]
          rw [eg];have hng:¬(Value.slice al ls.length ql).ownBlock=some g2:=fun h=>by have:=hbl g2 h;omega
          exact⟨g2,e2,fun W' h=>⟨h.keep hng (h5 0 _ rfl),h.keep hng (h5 1 _ rfl)⟩⟩)
        have HT:Hid (∀W',KP (fun j=>(Value.slice al ls.length ql).ownBlock=some j) w2 W'→W'.cell? ⟨w.heap.size+1,3,none⟩=some (.int .i64 lo)∧Ext w W'):=hHd (fun W' h=>
          ⟨h.keep (fun hg=>by have:=hbl _ hg;omega) hT3,h.toExt X2 (fun k hk=>by have:=hbl _ hk;omega)⟩)
        have HPB:=hHd hbl;clear q0 q1 q2 q3 q4 q5 q6 q7 q8 q9 q10 t0 t1 t2 t3 u0 u1 u2 hrw HS HRN HOWN hbl hT3 HSf;(go_wp2_with fail);go_loopw [50] (fun s wr=>∃k:Nat,k≤rs.length∧s= .int .i64 k∧KP (fun j=>(Value.slice al ls.length ql).ownBlock=some j) w2 wr∧Hid (wr.ownsRow W.heap.size 3 1 (.slice al ls.length ql) ls.length (ls.map (.int .i64)))∧Hid (∀j,j<k→inR (nt.getD j 0) (rs.getD j default).1 (rs.getD j default).2=true)) (fun s _=>rs.length - (intOf s).toNat)
        case atStart=>exact⟨0,Nat.zero_le _,rfl,KP.refl _,HW2,hHd (fun j hj=>absurd hj (Nat.not_lt_zero _))⟩
        case round=>
          obtain⟨k,hk,rfl,hkp,HO,HJ⟩:=hrel;obtain⟨wo,rfl⟩:∃x,x=wr:=⟨_,rfl⟩;obtain⟨t3,hxw⟩:=HT.out wo hkp;by_cases hlt:k<rs.length
          · obtain ⟨g2, rfl, hcl⟩ := HV.out k hlt; obtain ⟨m0, m1'⟩ := hcl wo hkp; clear hcl; have hk0 : (0 : Int) ≤ (k : Int) := by omega
            have hk1:(k:Int)<(rs.length:Int):=by omega
            have hk2:(k:Int)<(ls.length:Int)+1:=by have:=HLR.out;omega
            have hk3:k<ls.length+1:=by have:=HLR.out;omega
            have HGT:Hid ((ls.map (Value.int .i64)++ [Value.int .i64 lo])[k]?=some (.int .i64 (nt.getD k 0))):=hHd (by
              rw [HNT.out];have e:(ls.map (Value.int .i64)++ [Value.int .i64 lo])=(ls++ [lo]).map (.int .i64):=by simp
              rw [e];have h:k<(ls++ [lo]).length:=by simp;omega
              rw [List.getElem?_map,List.getD_eq_getElem?_getD,List.getElem?_eq_getElem h];rfl)
            have HIN:Hid (∀b,inR (nt.getD k 0) (rs.getD k default).1 (rs.getD k default).2=b→b=true→∀j,j<k+1→inR (nt.getD j 0) (rs.getD j default).1 (rs.getD j default).2=true):=hHd (fun b hb hb1 j hj=>by
              by_cases e:j=k
              · subst e;rw [hb];exact hb1
              · exact HJ.out j (by omega))
            have HBAD:Hid (∀b,inR (nt.getD k 0) (rs.getD k default).1 (rs.getD k default).2=b→b=false→r=false):=hHd (fun b hb hb1=>by
              rw [HR.out];exact all_range_false hlt (hb.trans hb1))
            generalize (rs.getD k default).1=rlo at*;generalize (rs.getD k default).2=rhi at*;generalize nt.getD k 0=nk at*;have HAS:=hHd (fun W=>has_d rlo rhi nk W);obtain⟨ib,hib⟩:∃ib,ib=inR nk rlo rhi:=⟨_,rfl⟩;rw [←hib] at HAS;have HIB:=hHd hib.symm;clear hib;go_upto_region 7 with fail
            have M8:Ext wo (wo.alloc (.cells #[.int .i64 rlo,.int .i64 rhi] 54)):=EX;have hzo:w2.heap.size≤wo.heap.size:=hkp.size
            have HSS:Hid (∀w',KP (fun j=>(Value.slice al ls.length ql).ownBlock=some j) (wo.alloc (.cells #[.int .i64 rlo,.int .i64 rhi] 54)) w'→(w'.cell? ⟨wo.heap.size,0,none⟩=some (.int .i64 rlo)∧w'.cell? ⟨wo.heap.size,1,none⟩=some (.int .i64 rhi)∧w'.cell? ⟨w.heap.size+1,3,none⟩=some (.int .i64 lo))∧KP (fun j=>(Value.slice al ls.length ql).ownBlock=some j) (wo.alloc (.cells #[.int .i64 rlo,.int .i64 rhi] 54)) w'):=hHd (fun w' h=>by
              have hz12:=hx2.size;have hzx:=hx1.size;exact⟨⟨h.keep (fun hg=>by have:=HPB.out _ hg;omega) (by simp [go_sem]),h.keep (fun hg=>by have:=HPB.out _ hg;omega) (by simp [go_sem]),h.keep (fun hg=>by have:=HPB.out _ hg;omega) (M8.keep t3)⟩,h⟩)
            have HO8:Hid (∀W',Ext (wo.alloc (.cells #[.int .i64 rlo,.int .i64 rhi] 54)) W'→W'.ownsRow W.heap.size 3 1 (.slice al ls.length ql) ls.length (ls.map (.int .i64))∧W.heap.size≤W'.heap.size):=hHd (fun W' h=>⟨own_extR HO.out (M8.trans h),by have:=hx1.size;have:=hx2.size;have:=(M8.trans h).size;omega⟩);have HK8:=hHd (hkp.ext M8);clear m0 m1' t3 HO hkp hxw hzo;generalize (wo.alloc (.cells #[.int .i64 rlo,.int .i64 rhi] 54))=W8 at*;go_cut [65] from 55 to 65 (fun s wx=>s= .bool (!ib)∧KP (fun j=>(Value.slice al ls.length ql).ownBlock=some j) W8 wx∧Hid (wx.ownsRow W.heap.size 3 1 (.slice al ls.length ql) ls.length (ls.map (.int .i64))))
            case first=>
              have HF1:Hid (ls.length+1≤maxLen):=hHd (by simp only [maxLen];omega);have HF2:Hid ((ls.length+1)*8≤140737488355328):=hHd (by omega)
              have HONE:Hid (∀u∈([.int .i64 lo]:List Value),u.oneCell'=true):=hHd (by
                intro u hu
                simp only [List.mem_cons,List.not_mem_nil,or_false] at hu;rw [hu];rfl)
              clear HR HBAD HIN HJ HLR HV HT HPB HK8 HE HNT HW2 HIB X X1 X2 hx1 hx2 M8;obtain⟨⟨y0,y1,y3⟩,-⟩:=HSS.out W8 (KP.refl _);have hy:=lt_of_cell y0;have hy3:=lt_of_cell y3;simp only at hy hy3
              go_region_law
                (first
                  |(go_at_call 127;(refine(HAS.out _).mono ?_);rintro e w5 ⟨rfl,hx5⟩;dsimp only)
                  |(go_simp;(refine(HAS.out _).mono ?_);rintro e w5 ⟨rfl,hx5⟩;dsimp only)
                  |((refine step_is_app' _ _ 22 rfl ?_);(refine step_append_keep (by rfl) _ _ 22 (by rfl) W.heap.size 3 i0 (.int .i64 0) 1 8 Tryz.underlying22 hi0 hz0 hz1 hz2 rfl (by decide) (.slice al ls.length ql) ls.length (ls.map (.int .i64)) (by rfl) (HO8.out _ EX).1 ⟨_,0,none⟩ 1 1 [.int .i64 lo] (by rfl) rfl (one_inN EX (by first|rfl|simp)) HONE.out (by decide) HF1.out HF2.out (HO8.out _ EX).2 ?_);intro g cap w4 hown4 hold4 hgrow _ _;have hk4:KP (fun j=>(Value.slice al ls.length ql).ownBlock=some j) _ w4:=KP.grown hgrow (fun g hg=>hg);have hc4:=ownRow_cell hown4 HGT.out;have HO4:=hHd hold4;obtain⟨⟨z0,z1,z3⟩,-⟩:=HSS.out w4 (by(repeat (first|exact KP.refl _|with_reducible (first|assumption|refine KP.drew ?_|refine KP.alloc ?_ _|refine KP.setCell ?_ (fail) _|refine KP.ext ?_ (by assumption)|refine KP.trans ?_ (by assumption)|refine Ext.kp (by assumption)))));clear hown4 hold4 hgrow))
              all_goals
                (go_wp2_with fail);go_meet
                exact⟨rfl,by(repeat (first|exact KP.refl _|with_reducible (first|assumption|refine KP.drew ?_|refine KP.alloc ?_ _|refine KP.setCell ?_ (fail) _|refine KP.ext ?_ (by assumption)|refine KP.trans ?_ (by assumption)|refine Ext.kp (by assumption)))),hHd (own_extR HO4.out EX)⟩
            case rest=>
              obtain⟨rfl,hk5,HO5⟩:=hcut;have HK9:=hHd (HK8.out.trans hk5);cases ib with
              | true =>
                have HJ2:=hHd (HIN.out true HIB.out rfl);clear HIN HBAD HJ hk5;(go_wp2_with fail);go_roundw
                case rel=>exact⟨k+1,by omega,by go_num,HK9.out,HO5,HJ2⟩
                case measure=>simp [intOf];omega
              | false =>
                obtain rfl:r=false:=HBAD.out false HIB.out rfl;clear HIN HBAD HJ hk5;(go_wp2_with fail);go_ret;exact⟨rfl,(HT.out _ HK9.out).2⟩
          · obtain rfl : k = rs.length := by omega
            obtain rfl:r=true:=by
              rw [HR.out,List.all_eq_true];intro j hj
              exact HJ.out j (List.mem_range.1 hj)
            clear HR;(go_wp2_with fail);go_ret;exact⟨rfl,hxw⟩
      · have d3 : ((m3 : Int) != (n3 : Int)) = true := by rw [bne_iff_ne]; omega
        obtain rfl:r=false:=HNO.out (.inr (.inr e3));have HE:=hHd (And.intro e1 (And.intro e2 e3));clear HNO HYE HLN HLL e1 e2 e3 HS;(go_wp2_with fail);go_ret;exact⟨rfl,X1⟩
    · have d2 : ((m2 : Int) != (n1 : Int)) = true := by rw [bne_iff_ne]; omega
      obtain rfl:r=false:=HNO.out (.inr (.inl e2));have HE:=hHd (And.intro e1 e2);clear HNO HYE HLN HLL e1 e2 HS;(go_wp2_with fail);go_ret;exact⟨rfl,X1⟩
  · have d1 : ((m1 : Int) != (n2 : Int)) = true := by rw [bne_iff_ne]; omega
    obtain rfl:r=false:=HNO.out (.inl e1);have HE:=hHd e1;clear HNO HYE HLN HLL e1 HS;(go_wp2_with fail);go_ret;exact⟨rfl,X1⟩
end Go.Proofs.YtegkdnfeceomdaaGreat
