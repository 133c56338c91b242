/- Bundled: what the texts UB UBQ IG say one after another. -/
import Derived.Test.YtegkdnfeceomdaaGreatKDA2
import Derived.OwnWalkIn
import Derived.TacticsInMore
import Derived.RegionIn
import Derived.LoopIn
import Derived.RangeFuncIn
import Derived.RangeFuncLeaves
import Derived.RangeFuncCalls
import Derived.RangeFuncRecord
import Derived.Deep.Quiet
set_option maxRecDepth 100000
set_option maxHeartbeats 16000000
set_option linter.unusedSimpArgs false
set_option linter.unusedVariables false
namespace Go.Hs
open Go.RowKit
structure Turned (L:Nat) (w w':World):Prop where
 os:w'.os=w.os
 tape:w'.tape=w.tape
 output:w'.output=w.output
 size:w'.heap.size=w.heap.size
 block:∀k,k≠L→w'.heap[k]?=w.heap[k]?
theorem Turned.put (w:World) (L:Nat) (o:Obj):Turned L w (w.putObj L o):=⟨rfl,rfl,rfl,by simp,fun _ h=>World.putObj_heap_other h⟩
theorem Turned.below {L n:Nat} {w w':World} (h:Turned L w w') (hL:n≤L):Below n w w':=⟨h.os,h.tape,h.output,by rw [h.size];exact Nat.le_refl _,fun k hk=>h.block k (by omega)⟩
theorem Turned.cell {L b o:Nat} {w w':World} {v:Value} (h:Turned L w w') (hb:b≠L) (hc:w.cell? ⟨b,o,none⟩=some v):w'.cell? ⟨b,o,none⟩=some v:=by
 rw [World.cell?_of_block (w:=w) (a:=⟨b,o,none⟩) (h.block b hb)];exact hc
theorem Kept.refl (B:Nat) (w:World):Kept B w w:=⟨Nat.le_refl _,fun _ _ _=>rfl⟩
theorem Kept.mono {B C:Nat} {w w':World} (h:Kept B w w') (hBC:B≤C):Kept C w w':=⟨h.1,fun k hk hl=>h.2 k (Nat.le_trans hBC hk) hl⟩
theorem Kept.obj {B k:Nat} {w w':World} {o:Obj} (h:Kept B w w') (hB:B≤k) (hk:w.heap[k]?=some o):w'.heap[k]?=some o:=by
 rw [h.2 k hB (Array.getElem?_eq_some_iff.1 hk).1];exact hk
theorem Below.two (w:World) (o o':Obj):Below w.heap.size w ((w.alloc o).alloc o'):=((Ext.refl w).alloc o).alloc o'
theorem Kept.below {B n:Nat} {w0 w w':World} (h:Kept B w0 w) (hx:Below n w w') (hn:w0.heap.size≤n):Kept B w0 w':=
 ⟨Nat.le_trans h.1 hx.size,fun k hB hk=>(hx.block k (by omega)).trans (h.2 k hB hk)⟩
theorem Kept.ext {B:Nat} {w w':World} (h:Ext w w'):Kept B w w':=⟨h.size,fun _ _ hk=>h.heap hk⟩
end Go.Hs
namespace Go.Proofs.YtegkdnfeceomdaaGreat
open Go.RowKit Go.Hs
attribute [local irreducible] World.setCell World.alloc
theorem wide_fn (f:FuncId):Fence.wide.fn f:=trivial
theorem wide_fn' (f:FuncId) (l:Nat):(Fence.wide.inRound l).fn f:=trivial
theorem wide_depth:Fence.wide.depth=none:=rfl
theorem wide_round:Fence.wide.round=none:=rfl
attribute [local simp] wide_fn wide_fn' wide_depth wide_round
def roundEnd (D:Nat) (J1:World→Prop) (Jx:Code→World→Prop) (W:World):Exit→Act→World→Prop
 | .normal,_,W'=>Kept D W W'∧J1 W'
 | .ret,_,W'=>Kept D W W'∧Jx .ret W'
 | .exit id,_,W'=>Kept D W W'∧Jx (.exit id) W'
 | .goto t,_,W'=>Kept D W W'∧Jx (.goto t) W'
 | .panic _,_,_=>False
 | .outgrown,_,_=>False
theorem round_of {assign body : Code} {tmps : Array Value} {L D H : Nat} {rec : Loop} (hrs : rec.state = .ready) (hrp : rec.pending = none) {fn : FuncId} {J1 : World → Prop} {Jx : Code → World → Prop} {W : World}
    (hDL:D≤L) (hLH:L<H) (hl:W.heap[L]?=some (.loop rec)) (hJ1:∀A B,J1 A→Below D A B→J1 B) (hJx:∀c A B,Jx c A→Below D A B→Jx c B)
    (h:assign.wpIn (Fence.wide.inRound L) 0 Tryz.prog (Exit.then (fun a1 W1=>Kept D W W1∧∀W2,Turned L W1 W2→(∃r,W2.heap[L]?=some (.loop r))→body.wpIn (Fence.wide.inRound L) 0 Tryz.prog (roundEnd D J1 Jx W2) a1 W2) (fun _ _ _=>False))
      { tmps:=tmps,defers:= [] } W):
    RoundIn Fence.wide 0 Tryz.prog L fn tmps assign body W fun e W2=>Kept H W W2∧
      ((e = .returned (.bool true) ∧ J1 W2 ∧ W2.heap[L]? = some (.loop rec) ∧ (∀ k, D ≤ k → k < W.heap.size → k ≠ L → W2.heap[k]? = W.heap[k]?)) ∨
       (e= .returned (.bool false)∧(∃c,Jx c W2∧W2.heap[L]?=some (.loop { rec with state:= .done,pending:=some c }))∧(∀k,D≤k→k<W.heap.size→k≠L→W2.heap[k]?=W.heap[k]?))):=by
  refine roundIn_of_wpIn trivial (wpIn_mono h ?_)
  rintro e a1 W1 hq;cases e with
  | normal =>
    obtain⟨hk1,hb⟩:=hq;have hl1:W1.heap[L]?=some (.loop rec):=hk1.obj hDL hl;have hlt1:L<W1.heap.size:=(Array.getElem?_eq_some_iff.1 hl1).1;refine⟨_,run_beginRound hl1 hrs,?_⟩
    have hT:=Turned.put W1 L (.loop { rec with state:= .busy });have hl2:(W1.putObj L (.loop { rec with state:= .busy })).heap[L]?=some (.loop { rec with state:= .busy }):=World.putObj_heap_same hlt1;refine wpIn_mono (hb _ hT ⟨_,hl2⟩) ?_
    generalize hW2:W1.putObj L (.loop { rec with state:= .busy })=W2 at*;have hold:∀k,D≤k→k<W.heap.size→k≠L→W2.heap[k]?=W.heap[k]?:=fun k hD hk hkL=>(hT.block k hkL).trans (hk1.2 k hD hk)
    have hsz:W.heap.size≤W2.heap.size:=by rw [hT.size];exact hk1.1
    have fin:∀(W3:World) (o:Obj),Kept D W2 W3→Kept H W (W3.putObj L o)∧(∀k,D≤k→k<W.heap.size→k≠L→(W3.putObj L o).heap[k]?=W.heap[k]?):=fun W3 o hk3=>
      have q:∀k,D≤k→k<W.heap.size→k≠L→(W3.putObj L o).heap[k]?=W.heap[k]?:=fun k hD hk hkL=>
        ((World.putObj_heap_other hkL).trans (hk3.2 k hD (Nat.lt_of_lt_of_le hk hsz))).trans (hold k hD hk hkL)
      ⟨⟨by simp;exact Nat.le_trans hsz hk3.1,fun k hH hk=>q k (by omega) hk (by omega)⟩,q⟩
    have back:∀(W3:World) (o:Obj),Below D W3 (W3.putObj L o):=fun W3 o=>(Turned.put W3 L o).below hDL
    have jump:∀(c:Code) (W3:World),Kept D W2 W3→Jx c W3→∃v w',(Instr.endRound L (some c)).run Tryz.prog W3= .ok v w'∧(Kept H W w'∧
      ((Ending.returned v = .returned (.bool true) ∧ J1 w' ∧ w'.heap[L]? = some (.loop rec) ∧ (∀ k, D ≤ k → k < W.heap.size → k ≠ L → w'.heap[k]? = W.heap[k]?)) ∨
       (Ending.returned v= .returned (.bool false)∧(∃c,Jx c w'∧w'.heap[L]?=some (.loop { rec with state:= .done,pending:=some c }))∧(∀k,D≤k→k<W.heap.size→k≠L→w'.heap[k]?=W.heap[k]?)))):=fun c W3 hk3 hj=>by
      have hl3:=hk3.obj hDL hl2;have hlt3:L<W3.heap.size:=(Array.getElem?_eq_some_iff.1 hl3).1;obtain⟨f1,f2⟩:=fin W3 (.loop { rec with state:= .done,pending:=some c }) hk3;exact⟨_,_,run_endRound (some c) hl3,f1,.inr ⟨rfl,⟨c,hJx c _ _ hj (back _ _),World.putObj_heap_same hlt3⟩,f2⟩⟩
    rintro e a3 W3 hp;cases e with
    | normal =>
      obtain⟨hk3,hj⟩:=hp;have hl3:=hk3.obj hDL hl2;have hlt3:L<W3.heap.size:=(Array.getElem?_eq_some_iff.1 hl3).1;obtain⟨f1,f2⟩:=fin W3 (.loop rec) hk3;have he:({ ({ rec with state:= .busy } :Loop) with state:= .ready,pending:=none } :Loop)=rec:=by rw [←hrs,←hrp]
      have hr:=run_endRound (P:=Tryz.prog) none hl3;simp only [Option.isNone_none,if_true] at hr;rw [he] at hr;exact⟨_,_,hr,f1,.inl ⟨rfl,hJ1 _ _ hj (back _ _),World.putObj_heap_same hlt3,f2⟩⟩
    |ret=>exact jump .ret W3 hp.1 hp.2
    |exit id=>exact jump (.exit id) W3 hp.1 hp.2
    |goto t=>exact jump (.goto t) W3 hp.1 hp.2
    |panic ch=>exact hp.elim
    |outgrown=>exact hp.elim
  |exit id=>exact hq.elim
  |goto t=>exact hq.elim
  |ret=>exact hq.elim
  |panic chain=>exact hq.elim
  |outgrown=>exact hq.elim
end Go.Proofs.YtegkdnfeceomdaaGreat
namespace Go.Hs
open Go.RowKit
def noDefer (ops:Array Oper):Bool:=ops.toList.all (fun o=>match o.op with| .defer _=>false|_=>true)
section
variable {P:Program} {ops:Array Oper} {Q:Exit→Act→World→Prop} {md:Region.Mode} {n l:Nat}
theorem uponIn_of {o:Oper} {a:Act} {K:Act→World→Prop} {r:Result Next} (h:o.upon P a K Q r):o.uponIn (Fence.wide.inRound l) n P a K Q r:=by
  cases r with
  | ok x w' =>
    cases x with
    |value v=>exact h
    |skip=>exact h
    |defer d=>exact h
    | enter f args =>
      refine⟨fun hd=>by simp [Fence.inRound,Fence.wide] at hd,CallsIn.inRound l (callsIn_wide.2 (Calls.mono h ?_))⟩
      intro e w'' he
      cases e<;>exact he
    | row row args =>
      refine⟨fun hd=>by simp [Fence.inRound,Fence.wide] at hd,fun c cs _=> ?_⟩
      obtain⟨v,w',hr,hs⟩:=h c cs;exact⟨v,w',hr,stepsIn_wide.2 hs⟩
    |_=>exact h.elim
  | halt x w' =>
    cases x with
    |panic v=>exact h
    |_=>exact h.elim
theorem operIn_of {o:Oper} {a:Act} {w:World} {K:Act→World→Prop} (hnd:∀c,o.op≠ .defer c) (h:o.wp P a w K Q):o.wpIn (Fence.wide.inRound l) n P a w K Q:=
 ⟨fun _ _=>trivial,by rw [Oper.semAt_eq _ _ _ hnd];exact uponIn_of h⟩
theorem opIn_of {C : World → Prop} {i : Nat} {a : Act} {w : World} {K : Act → Prop} {K' : Act → World → Prop} (hnd : noDefer ops = true) (hC : C w) (hk : ∀ a w', C w' → K a → K' a w') (h : qOp P ops C i K a) : wpOpIn (Fence.wide.inRound l) n P ops Q i K' a w := by
  unfold qOp at h;unfold wpOpIn;cases ho:ops[i]? with
  |none=>simp only [ho] at h;exact hk _ _ hC h
  | some o =>
    simp only [ho] at h⊢;split
    · rename_i hw
      rw [if_pos hw] at h;refine operIn_of (fun c hc=> ?_) (Oper.wp_of_quiet hC hk h)
      have hm:o∈ops.toList:=by
        obtain⟨hi,rfl⟩:=Array.getElem?_eq_some_iff.1 ho;simp
      have:=List.all_eq_true.1 hnd o hm;rw [hc] at this;cases this
    · rename_i hw
      rw [if_neg hw] at h;exact⟨fun _ _=>trivial,hk _ _ hC h⟩
theorem anyIn_of {C:World→Prop} {Q0:Act→Prop} (hnd:noDefer ops=true) (hQ:∀a w,C w→Q0 a→Q .normal a w):∀(fuel:Nat) (listed:Array Bool) (a:Act) (w:World),C w→wpAnyQ P md ops C Q0 fuel listed a→wpAnyIn (Fence.wide.inRound l) n P md ops Q fuel listed a w
 |0,_,_,_,hC,h=>⟨h.1,hQ _ _ hC h.2⟩
 |fuel+1,_,_,_,hC,h=>⟨fun h0=>hQ _ _ hC (h.1 h0),fun i hi=>opIn_of hnd hC (fun a w hw h=>anyIn_of hnd hQ fuel _ a w hw h) (h.2 i hi)⟩
theorem wpIn_round_quiet {C:World→Prop} {id:Nat} {a:Act} {w:World} (hm:P.follows .mixedOrders=true) (hB:Region.lexB .any ops=true) (hnd:noDefer ops=true) (hC:C { w with drawn:=w.drawn+1 })
  (h:wpQuiet P ops C (fun a'=>∀w',C w'→Q .normal a' w') ops.toList a):(Code.region id ops true).wpIn (Fence.wide.inRound l) n P Q a w:=by
 simp only [Region.lexB,Bool.and_eq_true] at hB;refine wpIn_region_any hm (anyIn_of (Q0:=fun a'=>∀w',C w'→Q .normal a' w') hnd (fun _ w' hw' h=>h w' hw') _ _ _ _ hC ?_)
 have:=wpAnyQ_lex (C:=C) (md:= .any) hB.1 ops.toList 0 (Array.replicate ops.size false) a (by simp) (by simpa using hB.2) h;simpa using this
end
end Go.Hs
namespace Go.Proofs.YtegkdnfeceomdaaGreat
open Go.RowKit Go.Hs
end Go.Proofs.YtegkdnfeceomdaaGreat
namespace Go.Hs
open Go.RowKit
def Inv (q:Nat→Prop) (I:World→Prop):Prop:=∀w w':World,(∀k,q k→w'.heap[k]?=w.heap[k]?)→I w→I w'
structure BelQ (q:Nat→Prop) (I:World→Prop) (n:Nat) (w w':World):Prop where
 os:w'.os=w.os
 tape:w'.tape=w.tape
 output:w'.output=w.output
 size:w.heap.size≤w'.heap.size
 block:∀k,k<n→¬q k→w'.heap[k]?=w.heap[k]?
 inv:I w→I w'
section
variable {q:Nat→Prop} {I:World→Prop} {n m:Nat} {a b c:World}
theorem BelQ.mono (h:BelQ q I n a b) (hm:m≤n):BelQ q I m a b:=⟨h.os,h.tape,h.output,h.size,fun k hk hq=>h.block k (by omega) hq,h.inv⟩
theorem BelQ.trans (h:BelQ q I n a b) (k:BelQ q I n b c):BelQ q I n a c:=⟨k.os.trans h.os,k.tape.trans h.tape,k.output.trans h.output,Nat.le_trans h.size k.size,fun j hj hq=>(k.block j hj hq).trans (h.block j hj hq),fun i=>k.inv (h.inv i)⟩
theorem below_toQ (h:Below n a b) (hI:Inv q I) (hq:∀k,q k→k<n):BelQ q I n a b:=⟨h.os,h.tape,h.output,h.size,fun k hk _=>h.block k hk,hI a b (fun k hk=>h.block k (hq k hk))⟩
theorem BelQ.obj {k:Nat} {o:Obj} (h:BelQ q I n a b) (hq:¬q k) (hk:k<n) (ho:a.heap[k]?=some o):b.heap[k]?=some o:=(h.block k hk hq).trans ho
theorem BelQ.cell {k o:Nat} {v:Value} (h:BelQ q I n a b) (hq:¬q k) (hk:k<n) (hc:a.cell? ⟨k,o,none⟩=some v):b.cell? ⟨k,o,none⟩=some v:=by
 rw [World.cell?_of_block (w:=a) (a:=⟨k,o,none⟩) (h.block k hk hq)];exact hc
theorem BelQ.frozen {k o:Nat} (h:BelQ q I n a b) (hq:¬q k) (hk:k<n):b.frozen? ⟨k,o,none⟩=a.frozen? ⟨k,o,none⟩:=World.frozen?_of_block (w:=a) (h.block k hk hq)
theorem inv_none:Inv (fun _=>False) (fun _=>True):=fun _ _ _ _=>trivial
theorem BelQ.below (h:BelQ (fun _=>False) (fun _=>True) n a b):Below n a b:=⟨h.os,h.tape,h.output,h.size,fun k hk=>h.block k hk id⟩
theorem BelQ.toExt (h:BelQ q I n a b) {w:World} (hx:Ext w a) (hn:w.heap.size≤n) (hq:∀k,q k→w.heap.size≤k):Ext w b:=
 ⟨h.os.trans hx.os,h.tape.trans hx.tape,h.output.trans hx.output,Nat.le_trans hx.size h.size,fun k hk=>(h.block k (by omega) (fun e=>by have:=hq k e;omega)).trans (hx.block k hk)⟩
end
end Go.Hs
namespace Go.Proofs.YtegkdnfeceomdaaGreat
open Go.RowKit Go.Hs
attribute [local irreducible] World.setCell World.alloc
attribute [local simp] wide_fn wide_fn' wide_depth wide_round
def GivesQ (q:Nat→Prop) (I:World→Prop) (g:FuncId) (lb:Array Value) (n:Nat) (Arg:Nat→Array Value→World→Prop) (K:World→Prop):Prop:=
 ∀ (L : Nat) (J : Nat → World → Prop) (Jx : World → Prop) (W : World),
  (∀k,q k→k<W.heap.size)→
  (∀i W1,J i W1→K W1)→
  (∀i W1 W2,J i W1→BelQ q I W.heap.size W1 W2→J i W2)→
  (∀W1 W2,Jx W1→BelQ q I W.heap.size W1 W2→Jx W2)→
  (∀ (i : Nat) (h : i < n) (W1 : World) (xs : Array Value), J i W1 → Arg i xs W1 → W.heap.size ≤ W1.heap.size → YieldAt Fence.wide 0 Tryz.prog L xs W1 fun e W2 =>
   Kept W.heap.size W1 W2∧((e= .returned (.bool true)∧J (i+1) W2)∨(e= .returned (.bool false)∧Jx W2)))→
  J 0 W→
  CallsIn Fence.wide 0 Tryz.prog g (#[.func (.yield L) #[] #[]]++lb) W fun e W'=>(∃v,e= .returned v)∧(J n W'∨Jx W')
theorem each_outerQ {g:Operand} {ps:Array Tmp} {assign body:Code} {Q:Exit→Act→World→Prop} {a:Act} {w:World} {f:FuncId} {caps:Array Value} {q:Nat→Prop} {I:World→Prop} {n:Nat} {Arg:Nat→Array Value→World→Prop} {K:World→Prop}
  (hg:a.eval g= .func (.func f) #[] caps) (hF:FnOK f) (hps:∀i xs W,Arg i xs W→ps.size=xs.size) (hI:Inv q I) (hq:∀k,q k→k<w.heap.size) (J:Nat→World→Prop) (Jx:Code→World→Prop)
  (hgv:GivesQ q I f caps n Arg K) (hK:∀i W,J i W→K W)
  (hJ:∀i A B,J i A→BelQ q I w.heap.size A B→J i B) (hJx:∀c A B,Jx c A→BelQ q I w.heap.size A B→Jx c B) (h0:J 0 w)
  (hround : ∀ (i : Nat) (h : i < n) (W : World) (xs : Array Value), J i W → Arg i xs W → (∃ r, W.heap[w.heap.size + 1]? = some (.loop r)) → w.heap.size + 1 < W.heap.size →
   assign.wpIn (Fence.wide.inRound (w.heap.size+1)) 0 Tryz.prog (Exit.then (fun a1 W1=>Kept w.heap.size W W1∧∀W2,Turned (w.heap.size+1) W1 W2→(∃r,W2.heap[w.heap.size+1]?=some (.loop r))→
    body.wpIn (Fence.wide.inRound (w.heap.size+1)) 0 Tryz.prog (roundEnd w.heap.size (J (i+1)) Jx W2) a1 W2) (fun _ _ _=>False))
    { tmps:=(ps.zip xs).foldl (fun t (p,v)=>t.setIfInBounds p v) a.tmps,defers:= [] } W)
  (hdone:∀W,J n W→W.heap[w.heap.size]?=some (.deferred (some []))→Q .normal { a with defers:= { target:= .collected w.heap.size,args:= #[] } ::a.defers } W)
  (hstop:∀c W,Jx c W→W.heap[w.heap.size]?=some (.deferred (some []))→c.wpIn Fence.wide 0 Tryz.prog Q { a with defers:= { target:= .collected w.heap.size,args:= #[] } ::a.defers } W):
  (Code.rangeFunc g ps assign body).wpIn Fence.wide 0 Tryz.prog Q a w:=by
 refine wpIn_rangeFunc fun fn _=> ?_
 rw [wide_round];obtain⟨rec,hrec⟩:∃rec:Loop,rec= { state:= .ready,pending:=none,fn,tmps:=a.tmps,params:=ps,assign,body,defers:=w.heap.size } :=⟨_,rfl⟩;have hrs:rec.state= .ready:=by rw [hrec]
 have hrp:rec.pending=none:=by rw [hrec]
 obtain⟨W1,hW1⟩:∃W1,(w.alloc (.deferred (some []))).alloc (.loop rec)=W1:=⟨_,rfl⟩
 have hL1:W1.heap[w.heap.size+1]?=some (.loop rec):=by
  rw [←hW1];have:=World.alloc_heap_new (w.alloc (.deferred (some []))) (.loop rec);rwa [World.size_alloc] at this
 have hK1:W1.heap[w.heap.size]?=some (.deferred (some [])):=by
  rw [←hW1];exact(Below.heap_alloc _ _ _ (by simp)).trans (World.alloc_heap_new w _)
 have hs1:W1.heap.size=w.heap.size+2:=by rw [←hW1];simp
 have hqB:∀k A B,w.heap.size≤k→Below k A B→BelQ q I w.heap.size A B:=fun k A B hk h=>(below_toQ h hI (fun j hj=>by have:=hq j hj;omega)).mono hk
 have h1:J 0 W1:=hJ 0 _ _ h0 (hqB _ _ _ (Nat.le_refl _) (by rw [←hW1];exact Below.two w _ _));have e:resolve a.eval (rangeCall g (w.heap.size+1)) 0=Deferred.ofValue (a.eval g) #[.func (.yield (w.heap.size+1)) #[] #[]]:=by simp [resolve,Act.eval]
 refine⟨w.heap.size+1,[{ target:= .collected w.heap.size,args:= #[] }],W1,{ target:= .fn (.func f) caps,args:= #[.func (.yield (w.heap.size+1)) #[] #[]] },W1,f,#[.func (.yield (w.heap.size+1)) #[] #[]]++caps,W1,?_,?_,fun _ _=>trivial,?_,by simp,?_⟩
 ·rw [←hW1,hrec];exact run_enterLoop_outer _ _ _ _ _
 ·rw [e,hg];rfl
 ·exact hF _ _
 refine(hgv (w.heap.size+1)
  (fun i W=>J i W∧W.heap[w.heap.size+1]?=some (.loop rec)∧W.heap[w.heap.size]?=some (.deferred (some [])))
  (fun W=>(∃c,Jx c W∧W.heap[w.heap.size+1]?=some (.loop { rec with state:= .done,pending:=some c }))∧W.heap[w.heap.size]?=some (.deferred (some [])))
  W1 (fun k hk=>by have:=hq k hk;omega) (fun i W h=>hK i W h.1) ?_ ?_ ?_ ⟨h1,hL1,hK1⟩).mono ?_
 ·rintro i A B ⟨a1,a2,a3⟩ hb;exact⟨hJ i A B a1 (hb.mono (by omega)),hb.obj (fun hk=>by have:=hq _ hk;omega) (by omega) a2,hb.obj (fun hk=>by have:=hq _ hk;omega) (by omega) a3⟩
 ·rintro A B ⟨⟨c,a1,a2⟩,a3⟩ hb;exact⟨⟨c,hJx c A B a1 (hb.mono (by omega)),hb.obj (fun hk=>by have:=hq _ hk;omega) (by omega) a2⟩,hb.obj (fun hk=>by have:=hq _ hk;omega) (by omega) a3⟩
 ·rintro i hi W xs ⟨a1, a2, a3⟩ harg hs; have hy := run_yield (P := Tryz.prog) (args := xs) a2 (by rw [hrec]; exact (hps i xs W harg).symm); refine ⟨_, _, _, _, hy, ?_⟩
  have hr:=hround i hi W xs a1 harg ⟨_,a2⟩ (by omega);subst hrec;refine(round_of (H:=W1.heap.size) hrs hrp (by omega:w.heap.size≤w.heap.size+1) (by omega) a2 (fun A B h hb=>hJ (i+1) A B h (hqB _ _ _ (Nat.le_refl _) hb)) (fun c A B h hb=>hJx c A B h (hqB _ _ _ (Nat.le_refl _) hb)) hr).mono ?_
  rintro e W2 ⟨k,⟨e1,e2,e3,e4⟩|⟨e1,⟨c,e2,e3⟩,e4⟩⟩
  ·exact⟨k,.inl ⟨e1,e2,e3,(e4 _ (Nat.le_refl _) (by omega) (by omega)).trans a3⟩⟩
  ·exact⟨k,.inr ⟨e1,⟨c,e2,e3⟩,(e4 _ (Nat.le_refl _) (by omega) (by omega)).trans a3⟩⟩
 ·rintro e W2 ⟨⟨v, rfl⟩, ⟨a1, a2, a3⟩ | ⟨⟨c, a1, a2⟩, a3⟩⟩
  ·have hE:=run_endLoop (P:=Tryz.prog) a2 (by rw [hrs];simp);have hT:=Turned.put W2 (w.heap.size+1) (.loop { rec with state:= .exhausted });exact⟨none,_,hE.trans (congrArg (fun p=>Result.ok p (W2.putObj (w.heap.size+1) (.loop { rec with state:= .exhausted }))) hrp),hdone _ (hJ _ _ _ a1 (hqB _ _ _ (Nat.le_refl _) (hT.below (by omega)))) ((hT.block _ (by omega)).trans a3)⟩
  ·have hE:=run_endLoop (P:=Tryz.prog) a2 (by simp);have hT:=Turned.put W2 (w.heap.size+1) (.loop { ({ rec with state:= .done,pending:=some c } :Loop) with state:= .exhausted });exact⟨some c,_,hE,hstop c _ (hJx _ _ _ a1 (hqB _ _ _ (Nat.le_refl _) (hT.below (by omega)))) ((hT.block _ (by omega)).trans a3)⟩
theorem each_wpQ {g:Operand} {ps:Array Tmp} {assign body:Code} {Q:Exit→Act→World→Prop} {a:Act} {w:World} {f:FuncId} {caps:Array Value} {q:Nat→Prop} {I:World→Prop} {n:Nat} {Arg:Nat→Array Value→World→Prop} {K:World→Prop}
  (hg:a.eval g= .func (.func f) #[] caps) (hF:FnOK f) (hps:∀i xs W,Arg i xs W→ps.size=xs.size) (hI:Inv q I) (hq:∀k,q k→k<w.heap.size) (J:Nat→World→Prop) (Jx:Code→World→Prop)
  (hgv:GivesQ q I f caps n Arg K) (hK:∀i W,J i W→K W)
  (hJ:∀i A B,J i A→BelQ q I w.heap.size A B→J i B) (hJx:∀c A B,Jx c A→BelQ q I w.heap.size A B→Jx c B) (h0:J 0 w)
  (hround : ∀ (i : Nat) (h : i < n) (W : World) (xs : Array Value), J i W → Arg i xs W → (∃ r, W.heap[w.heap.size + 1]? = some (.loop r)) → w.heap.size + 1 < W.heap.size →
   assign.wpIn (Fence.wide.inRound (w.heap.size+1)) 0 Tryz.prog (Exit.then (fun a1 W1=>Kept w.heap.size W W1∧∀W2,Turned (w.heap.size+1) W1 W2→(∃r,W2.heap[w.heap.size+1]?=some (.loop r))→
    body.wpIn (Fence.wide.inRound (w.heap.size+1)) 0 Tryz.prog (roundEnd w.heap.size (J (i+1)) Jx W2) a1 W2) (fun _ _ _=>False))
    { tmps:=(ps.zip xs).foldl (fun t (p,v)=>t.setIfInBounds p v) a.tmps,defers:= [] } W)
  (hdone:∀W,J n W→W.heap[w.heap.size]?=some (.deferred (some []))→Q .normal { a with defers:= { target:= .collected w.heap.size,args:= #[] } ::a.defers } W)
  (hstop:∀c W,Jx c W→W.heap[w.heap.size]?=some (.deferred (some []))→c.wp Tryz.prog Q { a with defers:= { target:= .collected w.heap.size,args:= #[] } ::a.defers } W):
  (Code.rangeFunc g ps assign body).wp Tryz.prog Q a w:=
 wpIn_wide.1 (each_outerQ hg hF hps hI hq J Jx hgv hK hJ hJx h0 hround hdone (fun c W h hd=>wpIn_wide.2 (hstop c W h hd)))
end Go.Proofs.YtegkdnfeceomdaaGreat
