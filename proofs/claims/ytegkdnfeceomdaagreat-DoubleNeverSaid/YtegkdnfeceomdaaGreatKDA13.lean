/- Bundled: what the texts IU SG say one after another. -/
import Derived.Test.YtegkdnfeceomdaaGreatKDA12
import Derived.Test.YtegkdnfeceomdaaGreatKDA2
import Derived.Test.YtegkdnfeceomdaaGreatKDA1
set_option maxRecDepth 100000
set_option maxHeartbeats 16000000
set_option linter.unusedSimpArgs false
set_option linter.unusedVariables false
namespace Go.Hs
open Go.RowKit
def KeptU (B U:Nat) (w1 w2:World):Prop:=w1.heap.size≤w2.heap.size∧∀k,B≤k→k<U→k<w1.heap.size→w2.heap[k]?=w1.heap[k]?
theorem Kept.toU {B U:Nat} {a b:World} (h:Kept B a b):KeptU B U a b:=⟨h.1,fun k h1 _ h2=>h.2 k h1 h2⟩
theorem KeptU.refl (B U:Nat) (w:World):KeptU B U w w:=(Kept.refl B w).toU
theorem KeptU.trans {B U:Nat} {a b c:World} (h:KeptU B U a b) (k:KeptU B U b c):KeptU B U a c:=
 ⟨Nat.le_trans h.1 k.1,fun i hB hU hi=>(k.2 i hB hU (Nat.lt_of_lt_of_le hi h.1)).trans (h.2 i hB hU hi)⟩
theorem KeptU.mono {B C U:Nat} {a b:World} (h:KeptU B U a b) (hBC:B≤C):KeptU C U a b:=⟨h.1,fun k hk hU hl=>h.2 k (Nat.le_trans hBC hk) hU hl⟩
theorem KeptU.obj {B U k:Nat} {a b:World} {o:Obj} (h:KeptU B U a b) (hB:B≤k) (hU:k<U) (hk:a.heap[k]?=some o):b.heap[k]?=some o:=by
 rw [h.2 k hB hU (Array.getElem?_eq_some_iff.1 hk).1];exact hk
theorem KeptU.cell {B U:Nat} {a b:World} (h:KeptU B U a b) {k o:Nat} {v:Value} (hB:B≤k) (hU:k<U) (hc:a.cell? ⟨k,o,none⟩=some v):b.cell? ⟨k,o,none⟩=some v:=by
 rw [World.cell?_of_block (w:=a) (h.2 k hB hU (lt_of_cell (a:=⟨k,o,none⟩) hc))];exact hc
structure BelR (q:Nat→Prop) (I:World→Prop) (n U:Nat) (w w':World):Prop where
 os:w'.os=w.os
 tape:w'.tape=w.tape
 output:w'.output=w.output
 size:w.heap.size≤w'.heap.size
 block:∀k,k<w.heap.size→k<n∨U≤k→¬q k→w'.heap[k]?=w.heap[k]?
 inv:I w→I w'
section
variable {q:Nat→Prop} {I:World→Prop} {n m U:Nat} {a b c:World}
theorem BelR.mono (h:BelR q I n U a b) (hm:m≤n):BelR q I m U a b:=⟨h.os,h.tape,h.output,h.size,fun k hk hr hq=>h.block k hk (by omega) hq,h.inv⟩
theorem BelR.trans (h:BelR q I n U a b) (k:BelR q I n U b c):BelR q I n U a c:=⟨k.os.trans h.os,k.tape.trans h.tape,k.output.trans h.output,Nat.le_trans h.size k.size,fun j hj hr hq=>(k.block j (Nat.lt_of_lt_of_le hj h.size) hr hq).trans (h.block j hj hr hq),fun i=>k.inv (h.inv i)⟩
theorem ext_toR (h:Ext a b) (hI:Inv q I) (hq:∀k,q k→k<a.heap.size):BelR q I n U a b:=⟨h.os,h.tape,h.output,h.size,fun k hk _ _=>h.heap hk,hI a b (fun k hk=>h.heap (hq k hk))⟩
theorem belR_put {o:Obj} {T:Nat} (hI:Inv q I) (hq:∀k,q k→k≠T) (h1:n≤T) (h2:T<U):BelR q I n U a (a.putObj T o):=
 ⟨rfl,rfl,rfl,by simp,fun k _ hr _=>World.putObj_heap_other (show k≠T by omega),hI a _ (fun k hk=>World.putObj_heap_other (hq k hk))⟩
theorem belR_set {T i:Nat} {v:Value} (hI:Inv q I) (hq:∀k,q k→k≠T) (h1:n≤T) (h2:T<U):BelR q I n U a (a.setCell ⟨T,i,none⟩ v):=
 ⟨rfl,rfl,rfl,by rw [World.size_setCell];exact Nat.le_refl _,fun k _ hr _=>Below.heap_setCell _ _ _ _ (show k≠T by omega),hI a _ (fun k hk=>Below.heap_setCell _ _ _ _ (hq k hk))⟩
theorem BelR.obj {k:Nat} {o:Obj} (h:BelR q I n U a b) (hq:¬q k) (hk:k<n∨U≤k) (ho:a.heap[k]?=some o):b.heap[k]?=some o:=(h.block k (Array.getElem?_eq_some_iff.1 ho).1 hk hq).trans ho
theorem BelR.cell {k o:Nat} {v:Value} (h:BelR q I n U a b) (hq:¬q k) (hk:k<n∨U≤k) (hc:a.cell? ⟨k,o,none⟩=some v):b.cell? ⟨k,o,none⟩=some v:=by
 rw [World.cell?_of_block (w:=a) (a:=⟨k,o,none⟩) (h.block k (lt_of_cell hc) hk hq)];exact hc
theorem BelR.frozen {k o:Nat} {v:Value} {o':Nat} (h:BelR q I n U a b) (hq:¬q k) (hk:k<n∨U≤k) (hc:a.cell? ⟨k,o',none⟩=some v):b.frozen? ⟨k,o,none⟩=a.frozen? ⟨k,o,none⟩:=World.frozen?_of_block (w:=a) (h.block k (lt_of_cell hc) hk hq)
theorem BelR.toQ (h:BelR q I n U a b) (hn:n≤a.heap.size):BelQ q I n a b:=⟨h.os,h.tape,h.output,h.size,fun k hk hq=>h.block k (by omega) (.inl hk) hq,h.inv⟩
theorem BelR.toExt (h:BelR q I n U a b) {w:World} (hx:Ext w a) (hn:w.heap.size≤n) (hq:∀k,q k→w.heap.size≤k):Ext w b:=
 ⟨h.os.trans hx.os,h.tape.trans hx.tape,h.output.trans hx.output,Nat.le_trans hx.size h.size,fun k hk=>(h.block k (Nat.lt_of_lt_of_le hk hx.size) (.inl (by omega)) (fun e=>by have:=hq k e;omega)).trans (hx.block k hk)⟩
end
end Go.Hs
namespace Go.Proofs.YtegkdnfeceomdaaGreat
open Go.RowKit Go.Hs
attribute [local irreducible] World.setCell World.alloc
attribute [local simp] wide_fn wide_fn' wide_depth wide_round
def roundEndU (D U:Nat) (J1:World→Prop) (Jx:Code→World→Prop) (W:World):Exit→Act→World→Prop
 | .normal,_,W'=>KeptU D U W W'∧J1 W'
 | .ret,_,W'=>KeptU D U W W'∧Jx .ret W'
 | .exit id,_,W'=>KeptU D U W W'∧Jx (.exit id) W'
 | .goto t,_,W'=>KeptU D U W W'∧Jx (.goto t) W'
 | .panic _,_,_=>False
 | .outgrown,_,_=>False
def GivesU (q:Nat→Prop) (I:World→Prop) (g:FuncId) (lb:Array Value) (n:Nat) (Arg:Nat→Nat→Array Value→World→Prop) (K:World→Prop):Prop:=
 ∀ (L : Nat) (J : Nat → Nat → World → Prop) (Jx : Nat → World → Prop) (W : World),
  (∀k,q k→k<W.heap.size)→
  (∀U i W1,J U i W1→K W1)→
  (∀U i W1 W2,W.heap.size≤U→J U i W1→BelR q I W.heap.size U W1 W2→J U i W2)→
  (∀U W1 W2,W.heap.size≤U→Jx U W1→BelR q I W.heap.size U W1 W2→Jx U W2)→
  (∀ (U i : Nat) (h : i < n) (W1 : World) (xs : Array Value), W.heap.size ≤ U → U ≤ W1.heap.size → J U i W1 → Arg U i xs W1 → YieldAt Fence.wide 0 Tryz.prog L xs W1 fun e W2 =>
   KeptU W.heap.size U W1 W2∧((e= .returned (.bool true)∧J U (i+1) W2)∨(e= .returned (.bool false)∧Jx U W2)))→
  (∀U,W.heap.size≤U→J U 0 W)→
  CallsIn Fence.wide 0 Tryz.prog g (#[.func (.yield L) #[] #[]]++lb) W fun e W'=>(∃v,e= .returned v)∧∃U,W.heap.size≤U∧(J U n W'∨Jx U W')
theorem GivesU.toQ {q:Nat→Prop} {I:World→Prop} {g:FuncId} {lb:Array Value} {n:Nat} {Arg:Nat→Nat→Array Value→World→Prop} {Arg':Nat→Array Value→World→Prop} {K:World→Prop} (h:GivesU q I g lb n Arg K) (hA:∀U i xs W,Arg U i xs W→Arg' i xs W):GivesQ q I g lb n Arg' K:=by
 intro L J Jx W hq hK hJ hJx hY h0
 refine(h L (fun _ i W1=>W.heap.size≤W1.heap.size∧J i W1) (fun _ W1=>W.heap.size≤W1.heap.size∧Jx W1) W hq (fun _ i W1 h=>hK i W1 h.2)
  (fun U i A B _ h hb=>⟨Nat.le_trans h.1 hb.size,hJ i A B h.2 (hb.toQ h.1)⟩) (fun U A B _ h hb=>⟨Nat.le_trans h.1 hb.size,hJx A B h.2 (hb.toQ h.1)⟩)
  (fun U i hi W1 xs _ _ h ha=> ?_) (fun U _=>⟨Nat.le_refl _,h0⟩)).mono ?_
 ·obtain ⟨fn, tmps, assign, body, hy, hr⟩ := hY i hi W1 xs h.2 (hA _ _ _ _ ha) h.1; refine ⟨fn, tmps, assign, body, hy, hr.mono ?_⟩
  rintro e W2 ⟨hk,⟨e1,e2⟩|⟨e1,e2⟩⟩
  ·exact⟨hk.toU,.inl ⟨e1,Nat.le_trans h.1 hk.1,e2⟩⟩
  ·exact⟨hk.toU,.inr ⟨e1,Nat.le_trans h.1 hk.1,e2⟩⟩
 ·rintro e W' ⟨hv, U, -, ⟨-, h⟩ | ⟨-, h⟩⟩
  ·exact⟨hv,.inl h⟩
  ·exact⟨hv,.inr h⟩
theorem round_ofU {assign body : Code} {tmps : Array Value} {L D H U : Nat} {rec : Loop} (hrs : rec.state = .ready) (hrp : rec.pending = none) {fn : FuncId} {J1 : World → Prop} {Jx : Code → World → Prop} {W : World}
    (hDL:D≤L) (hLH:L<H) (hLU:L<U) (hl:W.heap[L]?=some (.loop rec)) (hJ1:∀A o,J1 A→J1 (A.putObj L o)) (hJx:∀c A o,Jx c A→Jx c (A.putObj L o))
    (h:assign.wpIn (Fence.wide.inRound L) 0 Tryz.prog (Exit.then (fun a1 W1=>KeptU D U W W1∧∀W2,Turned L W1 W2→(∃r,W2.heap[L]?=some (.loop r))→body.wpIn (Fence.wide.inRound L) 0 Tryz.prog (roundEndU D U J1 Jx W2) a1 W2) (fun _ _ _=>False))
      { tmps:=tmps,defers:= [] } W):
    RoundIn Fence.wide 0 Tryz.prog L fn tmps assign body W fun e W2=>KeptU H U W W2∧
      ((e = .returned (.bool true) ∧ J1 W2 ∧ W2.heap[L]? = some (.loop rec) ∧ (∀ k, D ≤ k → k < U → k < W.heap.size → k ≠ L → W2.heap[k]? = W.heap[k]?)) ∨
       (e= .returned (.bool false)∧(∃c,Jx c W2∧W2.heap[L]?=some (.loop { rec with state:= .done,pending:=some c }))∧(∀k,D≤k→k<U→k<W.heap.size→k≠L→W2.heap[k]?=W.heap[k]?))):=by
  refine roundIn_of_wpIn trivial (wpIn_mono h ?_)
  rintro e a1 W1 hq;cases e with
  | normal =>
    obtain⟨hk1,hb⟩:=hq;have hl1:W1.heap[L]?=some (.loop rec):=hk1.obj hDL hLU hl;have hlt1:L<W1.heap.size:=(Array.getElem?_eq_some_iff.1 hl1).1;refine⟨_,run_beginRound hl1 hrs,?_⟩
    have hT:=Turned.put W1 L (.loop { rec with state:= .busy });have hl2:(W1.putObj L (.loop { rec with state:= .busy })).heap[L]?=some (.loop { rec with state:= .busy }):=World.putObj_heap_same hlt1;refine wpIn_mono (hb _ hT ⟨_,hl2⟩) ?_
    generalize hW2:W1.putObj L (.loop { rec with state:= .busy })=W2 at*;have hold:∀k,D≤k→k<U→k<W.heap.size→k≠L→W2.heap[k]?=W.heap[k]?:=fun k hD hU hk hkL=>(hT.block k hkL).trans (hk1.2 k hD hU hk)
    have hsz:W.heap.size≤W2.heap.size:=by rw [hT.size];exact hk1.1
    have fin:∀(W3:World) (o:Obj),KeptU D U W2 W3→KeptU H U W (W3.putObj L o)∧(∀k,D≤k→k<U→k<W.heap.size→k≠L→(W3.putObj L o).heap[k]?=W.heap[k]?):=fun W3 o hk3=>
      have q:∀k,D≤k→k<U→k<W.heap.size→k≠L→(W3.putObj L o).heap[k]?=W.heap[k]?:=fun k hD hU hk hkL=>
        ((World.putObj_heap_other hkL).trans (hk3.2 k hD hU (Nat.lt_of_lt_of_le hk hsz))).trans (hold k hD hU hk hkL)
      ⟨⟨by simp;exact Nat.le_trans hsz hk3.1,fun k hH hU hk=>q k (by omega) hU hk (by omega)⟩,q⟩
    have jump:∀(c:Code) (W3:World),KeptU D U W2 W3→Jx c W3→∃v w',(Instr.endRound L (some c)).run Tryz.prog W3= .ok v w'∧(KeptU H U W w'∧
      ((Ending.returned v = .returned (.bool true) ∧ J1 w' ∧ w'.heap[L]? = some (.loop rec) ∧ (∀ k, D ≤ k → k < U → k < W.heap.size → k ≠ L → w'.heap[k]? = W.heap[k]?)) ∨
       (Ending.returned v= .returned (.bool false)∧(∃c,Jx c w'∧w'.heap[L]?=some (.loop { rec with state:= .done,pending:=some c }))∧(∀k,D≤k→k<U→k<W.heap.size→k≠L→w'.heap[k]?=W.heap[k]?)))):=fun c W3 hk3 hj=>by
      have hl3:=hk3.obj hDL hLU hl2;have hlt3:L<W3.heap.size:=(Array.getElem?_eq_some_iff.1 hl3).1;obtain⟨f1,f2⟩:=fin W3 (.loop { rec with state:= .done,pending:=some c }) hk3;exact⟨_,_,run_endRound (some c) hl3,f1,.inr ⟨rfl,⟨c,hJx c _ _ hj,World.putObj_heap_same hlt3⟩,f2⟩⟩
    rintro e a3 W3 hp;cases e with
    | normal =>
      obtain⟨hk3,hj⟩:=hp;have hl3:=hk3.obj hDL hLU hl2;have hlt3:L<W3.heap.size:=(Array.getElem?_eq_some_iff.1 hl3).1;obtain⟨f1,f2⟩:=fin W3 (.loop rec) hk3;have he:({ ({ rec with state:= .busy } :Loop) with state:= .ready,pending:=none } :Loop)=rec:=by rw [←hrs,←hrp]
      have hr:=run_endRound (P:=Tryz.prog) none hl3;simp only [Option.isNone_none,if_true] at hr;rw [he] at hr;exact⟨_,_,hr,f1,.inl ⟨rfl,hJ1 _ _ hj,World.putObj_heap_same hlt3,f2⟩⟩
    |ret=>exact jump .ret W3 hp.1 hp.2
    |exit id=>exact jump (.exit id) W3 hp.1 hp.2
    |goto t=>exact jump (.goto t) W3 hp.1 hp.2
    |panic ch=>exact hp.elim
    |outgrown=>exact hp.elim
  |exit id=>exact hq.elim
  |goto t=>exact hq.elim
  |ret=>exact hq.elim
  |panic chain=>exact hq.elim
  |outgrown=>exact hq.elim
theorem each_outerU {g:Operand} {ps:Array Tmp} {assign body:Code} {Q:Exit→Act→World→Prop} {a:Act} {w:World} {f:FuncId} {caps:Array Value} {q:Nat→Prop} {I:World→Prop} {n:Nat} {Arg:Nat→Nat→Array Value→World→Prop} {K:World→Prop}
  (hg:a.eval g= .func (.func f) #[] caps) (hF:FnOK f) (hps:∀U i xs W,Arg U i xs W→ps.size=xs.size) (hI:Inv q I) (hq:∀k,q k→k<w.heap.size) (J:Nat→Nat→World→Prop) (Jx:Nat→Code→World→Prop)
  (hgv:GivesU q I f caps n Arg K) (hK:∀U i W,J U i W→K W)
  (hJ:∀U i A B,w.heap.size+1<U→J U i A→BelR q I w.heap.size U A B→J U i B) (hJx:∀U c A B,w.heap.size+1<U→Jx U c A→BelR q I w.heap.size U A B→Jx U c B) (h0:∀U,w.heap.size+1<U→J U 0 w)
  (hround : ∀ (U i : Nat) (h : i < n) (W : World) (xs : Array Value), w.heap.size + 1 < U → U ≤ W.heap.size → J U i W → Arg U i xs W → (∃ r, W.heap[w.heap.size + 1]? = some (.loop r)) → w.heap.size + 1 < W.heap.size →
   assign.wpIn (Fence.wide.inRound (w.heap.size+1)) 0 Tryz.prog (Exit.then (fun a1 W1=>KeptU w.heap.size U W W1∧∀W2,Turned (w.heap.size+1) W1 W2→(∃r,W2.heap[w.heap.size+1]?=some (.loop r))→
    body.wpIn (Fence.wide.inRound (w.heap.size+1)) 0 Tryz.prog (roundEndU w.heap.size U (J U (i+1)) (Jx U) W2) a1 W2) (fun _ _ _=>False))
    { tmps:=(ps.zip xs).foldl (fun t (p,v)=>t.setIfInBounds p v) a.tmps,defers:= [] } W)
  (hdone:∀U W,w.heap.size+1<U→J U n W→W.heap[w.heap.size]?=some (.deferred (some []))→Q .normal { a with defers:= { target:= .collected w.heap.size,args:= #[] } ::a.defers } W)
  (hstop:∀U c W,w.heap.size+1<U→Jx U c W→W.heap[w.heap.size]?=some (.deferred (some []))→c.wpIn Fence.wide 0 Tryz.prog Q { a with defers:= { target:= .collected w.heap.size,args:= #[] } ::a.defers } W):
  (Code.rangeFunc g ps assign body).wpIn Fence.wide 0 Tryz.prog Q a w:=by
 refine wpIn_rangeFunc fun fn _=> ?_
 rw [wide_round];obtain⟨rec,hrec⟩:∃rec:Loop,rec= { state:= .ready,pending:=none,fn,tmps:=a.tmps,params:=ps,assign,body,defers:=w.heap.size } :=⟨_,rfl⟩;have hrs:rec.state= .ready:=by rw [hrec]
 have hrp:rec.pending=none:=by rw [hrec]
 obtain⟨W1,hW1⟩:∃W1,(w.alloc (.deferred (some []))).alloc (.loop rec)=W1:=⟨_,rfl⟩
 have hL1:W1.heap[w.heap.size+1]?=some (.loop rec):=by
  rw [←hW1];have:=World.alloc_heap_new (w.alloc (.deferred (some []))) (.loop rec);rwa [World.size_alloc] at this
 have hK1:W1.heap[w.heap.size]?=some (.deferred (some [])):=by
  rw [←hW1];exact(Below.heap_alloc _ _ _ (by simp)).trans (World.alloc_heap_new w _)
 have hs1:W1.heap.size=w.heap.size+2:=by rw [←hW1];simp
 have hqT:∀U A o,w.heap.size+1<U→BelR q I w.heap.size U A (A.putObj (w.heap.size+1) o):=fun U A o hU=>belR_put hI (fun k hk=>by have:=hq k hk;omega) (by omega) (by omega)
 have h1:∀U,w.heap.size+1<U→J U 0 W1:=fun U hU=>hJ U 0 _ _ hU (h0 U hU) (by rw [←hW1];exact ext_toR (Below.two w _ _) hI hq)
 have e:resolve a.eval (rangeCall g (w.heap.size+1)) 0=Deferred.ofValue (a.eval g) #[.func (.yield (w.heap.size+1)) #[] #[]]:=by simp [resolve,Act.eval]
 refine⟨w.heap.size+1,[{ target:= .collected w.heap.size,args:= #[] }],W1,{ target:= .fn (.func f) caps,args:= #[.func (.yield (w.heap.size+1)) #[] #[]] },W1,f,#[.func (.yield (w.heap.size+1)) #[] #[]]++caps,W1,?_,?_,fun _ _=>trivial,?_,by simp,?_⟩
 ·rw [←hW1,hrec];exact run_enterLoop_outer _ _ _ _ _
 ·rw [e,hg];rfl
 ·exact hF _ _
 refine(hgv (w.heap.size+1)
  (fun U i W=>J U i W∧W.heap[w.heap.size+1]?=some (.loop rec)∧W.heap[w.heap.size]?=some (.deferred (some [])))
  (fun U W=>(∃c,Jx U c W∧W.heap[w.heap.size+1]?=some (.loop { rec with state:= .done,pending:=some c }))∧W.heap[w.heap.size]?=some (.deferred (some [])))
  W1 (fun k hk=>by have:=hq k hk;omega) (fun U i W h=>hK U i W h.1) ?_ ?_ ?_ (fun U hU=>⟨h1 U (by omega),hL1,hK1⟩)).mono ?_
 ·rintro U i A B hU ⟨a1,a2,a3⟩ hb;exact⟨hJ U i A B (by omega) a1 (hb.mono (by omega)),hb.obj (fun hk=>by have:=hq _ hk;omega) (by omega) a2,hb.obj (fun hk=>by have:=hq _ hk;omega) (by omega) a3⟩
 ·rintro U A B hU ⟨⟨c,a1,a2⟩,a3⟩ hb;exact⟨⟨c,hJx U c A B (by omega) a1 (hb.mono (by omega)),hb.obj (fun hk=>by have:=hq _ hk;omega) (by omega) a2⟩,hb.obj (fun hk=>by have:=hq _ hk;omega) (by omega) a3⟩
 ·rintro U i hi W xs hU hUW ⟨a1, a2, a3⟩ harg; have hy := run_yield (P := Tryz.prog) (args := xs) a2 (by rw [hrec]; exact (hps U i xs W harg).symm); refine ⟨_, _, _, _, hy, ?_⟩
  have hr:=hround U i hi W xs (by omega) hUW a1 harg ⟨_,a2⟩ (by omega);subst hrec;refine(round_ofU (H:=W1.heap.size) hrs hrp (by omega:w.heap.size≤w.heap.size+1) (by omega) (by omega:w.heap.size+1<U) a2 (fun A o h=>hJ U (i+1) A _ (by omega) h (hqT U A o (by omega))) (fun c A o h=>hJx U c A _ (by omega) h (hqT U A o (by omega))) hr).mono ?_
  rintro e W2 ⟨k,⟨e1,e2,e3,e4⟩|⟨e1,⟨c,e2,e3⟩,e4⟩⟩
  ·exact⟨k,.inl ⟨e1,e2,e3,(e4 _ (Nat.le_refl _) (by omega) (by omega) (by omega)).trans a3⟩⟩
  ·exact⟨k,.inr ⟨e1,⟨c,e2,e3⟩,(e4 _ (Nat.le_refl _) (by omega) (by omega) (by omega)).trans a3⟩⟩
 ·rintro e W2 ⟨⟨v, rfl⟩, U, hU, ⟨a1, a2, a3⟩ | ⟨⟨c, a1, a2⟩, a3⟩⟩
  ·have hE:=run_endLoop (P:=Tryz.prog) a2 (by rw [hrs];simp);have hT:=Turned.put W2 (w.heap.size+1) (.loop { rec with state:= .exhausted });exact⟨none,_,hE.trans (congrArg (fun p=>Result.ok p (W2.putObj (w.heap.size+1) (.loop { rec with state:= .exhausted }))) hrp),hdone U _ (by omega) (hJ U _ _ _ (by omega) a1 (hqT U _ _ (by omega))) ((hT.block _ (by omega)).trans a3)⟩
  ·have hE:=run_endLoop (P:=Tryz.prog) a2 (by simp);have hT:=Turned.put W2 (w.heap.size+1) (.loop { ({ rec with state:= .done,pending:=some c } :Loop) with state:= .exhausted });exact⟨some c,_,hE,hstop U c _ (by omega) (hJx U _ _ _ (by omega) a1 (hqT U _ _ (by omega))) ((hT.block _ (by omega)).trans a3)⟩
theorem each_wpU {g:Operand} {ps:Array Tmp} {assign body:Code} {Q:Exit→Act→World→Prop} {a:Act} {w:World} {f:FuncId} {caps:Array Value} {q:Nat→Prop} {I:World→Prop} {n:Nat} {Arg:Nat→Nat→Array Value→World→Prop} {K:World→Prop}
  (hg:a.eval g= .func (.func f) #[] caps) (hF:FnOK f) (hps:∀U i xs W,Arg U i xs W→ps.size=xs.size) (hI:Inv q I) (hq:∀k,q k→k<w.heap.size) (J:Nat→Nat→World→Prop) (Jx:Nat→Code→World→Prop)
  (hgv:GivesU q I f caps n Arg K) (hK:∀U i W,J U i W→K W)
  (hJ:∀U i A B,w.heap.size+1<U→J U i A→BelR q I w.heap.size U A B→J U i B) (hJx:∀U c A B,w.heap.size+1<U→Jx U c A→BelR q I w.heap.size U A B→Jx U c B) (h0:∀U,w.heap.size+1<U→J U 0 w)
  (hround : ∀ (U i : Nat) (h : i < n) (W : World) (xs : Array Value), w.heap.size + 1 < U → U ≤ W.heap.size → J U i W → Arg U i xs W → (∃ r, W.heap[w.heap.size + 1]? = some (.loop r)) → w.heap.size + 1 < W.heap.size →
   assign.wpIn (Fence.wide.inRound (w.heap.size+1)) 0 Tryz.prog (Exit.then (fun a1 W1=>KeptU w.heap.size U W W1∧∀W2,Turned (w.heap.size+1) W1 W2→(∃r,W2.heap[w.heap.size+1]?=some (.loop r))→
    body.wpIn (Fence.wide.inRound (w.heap.size+1)) 0 Tryz.prog (roundEndU w.heap.size U (J U (i+1)) (Jx U) W2) a1 W2) (fun _ _ _=>False))
    { tmps:=(ps.zip xs).foldl (fun t (p,v)=>t.setIfInBounds p v) a.tmps,defers:= [] } W)
  (hdone:∀U W,w.heap.size+1<U→J U n W→W.heap[w.heap.size]?=some (.deferred (some []))→Q .normal { a with defers:= { target:= .collected w.heap.size,args:= #[] } ::a.defers } W)
  (hstop:∀U c W,w.heap.size+1<U→Jx U c W→W.heap[w.heap.size]?=some (.deferred (some []))→c.wp Tryz.prog Q { a with defers:= { target:= .collected w.heap.size,args:= #[] } ::a.defers } W):
  (Code.rangeFunc g ps assign body).wp Tryz.prog Q a w:=
 wpIn_wide.1 (each_outerU hg hF hps hI hq J Jx hgv hK hJ hJx h0 hround hdone (fun U c W hU h hd=>wpIn_wide.2 (hstop U c W hU h hd)))
end Go.Proofs.YtegkdnfeceomdaaGreat
namespace Go.Proofs.YtegkdnfeceomdaaGreat
open Go.RowKit Go.Hs
theorem idx_dint (cap:Value) (a:Option Addr) (c:Nat) (us:List Value) (p:Nat→Bool) (I:Nat→World→Prop) (w:World)
  (hlen:us.length≤140737488351232)
  (hrow:∀i w,I i w→Cells1 w a us)
  (hcall:∀i (h:i<us.length) w1,I i w1→Calls Tryz.prog 120 #[us[i],cap] w1 fun e w2=>e= .returned (.bool (p i))∧I (i+1) w2)
  (h0:I 0 w):
  Calls Tryz.prog 157 #[.slice a us.length c,.func (.func 120) #[] #[cap]] w
   (IdxPost us.length p I):=by
 go_enter Tryz.func157,Tryz.ntmps157
 go_wp2
 go_loopw [4,5,8] (fun r j i wr=>∃k:Nat,k≤us.length∧i= .int .i64 k∧(∀m,m<k→p m=false)∧I k wr) (fun _ _ i _=>us.length - (intOf i).toNat)
 case atStart=>exact⟨0,Nat.zero_le _,rfl,fun m hm=>absurd hm (Nat.not_lt_zero _),h0⟩
 case round=>
  obtain⟨k,hk,rfl,hp,hI⟩:=hrel;by_cases hlt:k<us.length
  ·obtain ⟨b, off, rfl, hc⟩ := hrow k wr hI k hlt; have hcell : wr.cell? ⟨b, off + k, none⟩ = some us[k] := hc; have hc0 := hcall k hlt wr hI; cases hpk : p k
   ·rw [hpk] at hc0; clear hcall hrow; have HP := hHd hpk; clear hpk; go_wp2_with ((with_reducible refine hc0.mono ?_); rintro e w2 ⟨rfl, hI2⟩)
    go_roundw
    case rel=>exact⟨k+1,by omega,by go_num,fun m hm=>by
     by_cases e:m=k
     ·subst e;exact HP.out
     ·exact hp m (by omega),hI2⟩
    case measure=>simp [intOf];omega
   ·rw [hpk] at hc0; clear hcall hrow; have HP := hHd hpk; clear hpk; have HP0 := hHd hp; clear hp; go_wp2_with ((with_reducible refine hc0.mono ?_); rintro e w2 ⟨rfl, hI2⟩)
    go_ret;exact .inl ⟨k,hlt,HP.out,HP0.out,rfl,hI2⟩
  ·have hk' : k = us.length := by omega
   subst hk';have HP0:=hHd hp;clear hp;clear hcall hrow;go_wp2
   go_ret;exact .inr ⟨HP0.out,rfl,hI⟩
theorem cont_dint (cap:Value) (a:Option Addr) (c:Nat) (us:List Value) (p:Nat→Bool) (I:Nat→World→Prop) (w:World)
  (hlen:us.length≤140737488351232)
  (hrow:∀i w,I i w→Cells1 w a us)
  (hcall:∀i (h:i<us.length) w1,I i w1→Calls Tryz.prog 120 #[us[i],cap] w1 fun e w2=>e= .returned (.bool (p i))∧I (i+1) w2)
  (h0:I 0 w):
  Calls Tryz.prog 119 #[.slice a us.length c,.func (.func 120) #[] #[cap]] w
   (ContPost us.length p I):=by
 have hi:=idx_dint cap a c us p I w hlen hrow hcall h0;clear hrow hcall h0;go_enter Tryz.func119,Tryz.ntmps119
 go_wp2_with ((with_reducible refine hi.mono ?_);rintro e w2 (⟨i,hi1,hi2,hi3,rfl,hi5⟩|⟨hi3,rfl,hi5⟩))
 ·have H2 := hHd hi2; clear hi2; have H3 := hHd hi3; clear hi3; go_wp2
  go_ret;exact ContPost.yes hi1 H2.out (by simp) hi5
 ·have H3 := hHd hi3; clear hi3; go_wp2
  go_ret;exact ContPost.no H3.out (by simp) hi5
theorem alls_dint (F:FuncId) (hF:FnOK F) (first caps:Array Value) (B:Nat) (x:Value) (r:Bool) (R:World→Prop) (w:World)
  (hcap:w.cell? ⟨B,0,none⟩=some (.func (.func F) first caps))
  (hcall:Calls Tryz.prog F (first.push x++caps) w fun e w2=>e= .returned (.bool r)∧R w2):
  Calls Tryz.prog 120 #[x,.pointer (some ⟨B,0,none⟩)] w fun e w2=>e= .returned (.bool (!r))∧R w2:=by
 unfold FnOK at hF;go_enter Tryz.func120,Tryz.ntmps120
 go_wp2_with ((with_reducible refine hcall.mono ?_);rintro e w2 ⟨rfl,hR⟩)
 go_ret;exact⟨rfl,hR⟩
theorem all_dint (F:FuncId) (hF:FnOK F) (first caps:Array Value) (a:Option Addr) (c:Nat) (us:List Value) (q:Nat→Bool) (I:Nat→World→Prop) (w:World)
  (hlen:us.length≤140737488351232)
  (hrow:∀i w,I i w→Cells1 w a us)
  (hal:∀i w o,I i w→I i (w.alloc o))
  (hcall:∀i (h:i<us.length) w1,w.heap.size≤w1.heap.size→I i w1→Calls Tryz.prog F (first.push us[i]++caps) w1 fun e w2=>e= .returned (.bool (q i))∧I (i+1) w2∧Kept w.heap.size w1 w2)
  (h0:I 0 w):
  Calls Tryz.prog 63 #[.slice a us.length c,.func (.func F) first caps] w
   (AllPost us.length q I):=by
 have hi:=cont_dint (.pointer (some ⟨w.heap.size,0,none⟩)) a c us (fun i=> !q i) (AllInv w (.func (.func F) first caps) I) (w.alloc (.cells #[.func (.func F) first caps] 131)) hlen
  (fun i w1 h=>hrow i w1 h.inv)
  (fun i h w1 hI=>alls_dint F hF first caps w.heap.size us[i] (q i) _ w1 hI.cell ((hcall i h w1 (Nat.le_trans (Nat.le_of_lt hI.size) (Ext.refl w1).size) hI.inv).mono fun e w3 h3=>⟨h3.1,AllInv.next hI (Ext.refl w1) h3.2.1 h3.2.2⟩))
  ⟨by simp,by simp,hal _ _ _ h0⟩
 clear hrow hcall h0 hal;go_enter Tryz.func63,Tryz.ntmps63
 go_wp2_with ((with_reducible refine hi.mono ?_);rintro e w2 ⟨i,hi1,hi2,rfl⟩)
 go_ret;exact⟨i,hi1,hi2.inv,ret_bool (by simp [allB,anyB,List.not_all_eq_any_not])⟩
theorem allx_dint (F:FuncId) (hF:FnOK F) (first caps:Array Value) (a:Option Addr) (c:Nat) (us:List Value) (q:Nat→Bool) (w:World)
  (hlen:us.length≤140737488351232) (hrow:Cells1 w a us)
  (hcall:∀i (h:i<us.length) w1,Ext w w1→Calls Tryz.prog F (first.push us[i]++caps) w1 fun e w2=>e= .returned (.bool (q i))∧Ext w1 w2):
  Calls Tryz.prog 63 #[.slice a us.length c,.func (.func F) first caps] w fun e w'=>e= .returned (.bool (allB us.length q))∧Ext w w':=
 (all_dint F hF first caps a c us q (fun _ w' => Ext w w') w hlen (fun _ _ h => hrow.ext h) (fun _ _ o h => h.alloc o)
  (fun i h w1 _ hI=>(hcall i h w1 hI).mono fun _ _ h2=>⟨h2.1,hI.trans h2.2,h2.2.kept _⟩) (Ext.refl w)).mono fun _ _ ⟨_,_,hI,he⟩=>⟨he,hI⟩
theorem idx_cov (cap:Value) (a:Option Addr) (c:Nat) (us:List V7) (p:Nat→Bool) (I:Nat→World→Prop) (w:World)
  (hlen:us.length≤140737488351232)
  (hrow:∀i w,I i w→Cells7 w a us)
  (hcall:∀i (h:i<us.length) w1,I i w1→Calls Tryz.prog 143 #[us[i].val,cap] w1 fun e w2=>e= .returned (.bool (p i))∧I (i+1) w2)
  (h0:I 0 w):
  Calls Tryz.prog 172 #[.slice a us.length c,.func (.func 143) #[] #[cap]] w
   (IdxPost us.length p I):=by
 go_enter Tryz.func172,Tryz.ntmps172
 go_wp2
 go_loopw [4,5,8] (fun r j i wr=>∃k:Nat,k≤us.length∧i= .int .i64 k∧(∀m,m<k→p m=false)∧I k wr) (fun _ _ i _=>us.length - (intOf i).toNat)
 case atStart=>exact⟨0,Nat.zero_le _,rfl,fun m hm=>absurd hm (Nat.not_lt_zero _),h0⟩
 case round=>
  obtain⟨k,hk,rfl,hp,hI⟩:=hrel;by_cases hlt:k<us.length
  ·obtain ⟨b, off, rfl, g0, g1, g2, g3, g4, g5, g6⟩ := hrow k wr hI k hlt; have hc0 := hcall k hlt wr hI; cases hpk : p k
   ·rw [hpk] at hc0; clear hcall hrow; have HP := hHd hpk; clear hpk; go_wp2_with ((with_reducible refine hc0.mono ?_); rintro e w2 ⟨rfl, hI2⟩)
    go_roundw
    case rel=>exact⟨k+1,by omega,by go_num,fun m hm=>by
     by_cases e:m=k
     ·subst e;exact HP.out
     ·exact hp m (by omega),hI2⟩
    case measure=>simp [intOf];omega
   ·rw [hpk] at hc0; clear hcall hrow; have HP := hHd hpk; clear hpk; have HP0 := hHd hp; clear hp; go_wp2_with ((with_reducible refine hc0.mono ?_); rintro e w2 ⟨rfl, hI2⟩)
    go_ret;exact .inl ⟨k,hlt,HP.out,HP0.out,rfl,hI2⟩
  ·have hk' : k = us.length := by omega
   subst hk';have HP0:=hHd hp;clear hp;clear hcall hrow;go_wp2
   go_ret;exact .inr ⟨HP0.out,rfl,hI⟩
theorem cont_cov (cap:Value) (a:Option Addr) (c:Nat) (us:List V7) (p:Nat→Bool) (I:Nat→World→Prop) (w:World)
  (hlen:us.length≤140737488351232)
  (hrow:∀i w,I i w→Cells7 w a us)
  (hcall:∀i (h:i<us.length) w1,I i w1→Calls Tryz.prog 143 #[us[i].val,cap] w1 fun e w2=>e= .returned (.bool (p i))∧I (i+1) w2)
  (h0:I 0 w):
  Calls Tryz.prog 142 #[.slice a us.length c,.func (.func 143) #[] #[cap]] w
   (ContPost us.length p I):=by
 have hi:=idx_cov cap a c us p I w hlen hrow hcall h0;clear hrow hcall h0;go_enter Tryz.func142,Tryz.ntmps142
 go_wp2_with ((with_reducible refine hi.mono ?_);rintro e w2 (⟨i,hi1,hi2,hi3,rfl,hi5⟩|⟨hi3,rfl,hi5⟩))
 ·have H2 := hHd hi2; clear hi2; have H3 := hHd hi3; clear hi3; go_wp2
  go_ret;exact ContPost.yes hi1 H2.out (by simp) hi5
 ·have H3 := hHd hi3; clear hi3; go_wp2
  go_ret;exact ContPost.no H3.out (by simp) hi5
theorem alls_cov (F:FuncId) (hF:FnOK F) (first caps:Array Value) (B:Nat) (x:V7) (r:Bool) (R:World→Prop) (w:World)
  (hcap:w.cell? ⟨B,0,none⟩=some (.func (.func F) first caps))
  (hcall:Calls Tryz.prog F (first.push x.val++caps) (w.alloc (.cells #[x.c0,x.c1,x.c2,x.c3,x.c4,x.c5,x.c6] 127)) fun e w2=>e= .returned (.bool r)∧R w2):
  Calls Tryz.prog 143 #[x.val,.pointer (some ⟨B,0,none⟩)] w fun e w2=>e= .returned (.bool (!r))∧R w2:=by
 unfold FnOK at hF;have hB:B<w.heap.size:=lt_of_cell hcap;go_enter Tryz.func143,Tryz.ntmps143
 go_wp2_with ((with_reducible refine hcall.mono ?_);rintro e w2 ⟨rfl,hR⟩)
 go_ret;exact⟨rfl,hR⟩
theorem all_cov (F:FuncId) (hF:FnOK F) (first caps:Array Value) (a:Option Addr) (c:Nat) (us:List V7) (q:Nat→Bool) (I:Nat→World→Prop) (w:World)
  (hlen:us.length≤140737488351232)
  (hrow:∀i w,I i w→Cells7 w a us)
  (hal:∀i w o,I i w→I i (w.alloc o))
  (hcall:∀i (h:i<us.length) w1,w.heap.size≤w1.heap.size→I i w1→Calls Tryz.prog F (first.push us[i].val++caps) w1 fun e w2=>e= .returned (.bool (q i))∧I (i+1) w2∧Kept w.heap.size w1 w2)
  (h0:I 0 w):
  Calls Tryz.prog 84 #[.slice a us.length c,.func (.func F) first caps] w
   (AllPost us.length q I):=by
 have hi:=cont_cov (.pointer (some ⟨w.heap.size,0,none⟩)) a c us (fun i=> !q i) (AllInv w (.func (.func F) first caps) I) (w.alloc (.cells #[.func (.func F) first caps] 148)) hlen
  (fun i w1 h=>hrow i w1 h.inv)
  (fun i h w1 hI=>alls_cov F hF first caps w.heap.size us[i] (q i) _ w1 hI.cell ((hcall i h (w1.alloc (.cells #[us[i].c0,us[i].c1,us[i].c2,us[i].c3,us[i].c4,us[i].c5,us[i].c6] 127)) (Nat.le_trans (Nat.le_of_lt hI.size) ((Ext.refl w1).alloc (.cells #[us[i].c0,us[i].c1,us[i].c2,us[i].c3,us[i].c4,us[i].c5,us[i].c6] 127)).size) (hal _ _ _ hI.inv)).mono fun e w3 h3=>⟨h3.1,AllInv.next hI ((Ext.refl w1).alloc (.cells #[us[i].c0,us[i].c1,us[i].c2,us[i].c3,us[i].c4,us[i].c5,us[i].c6] 127)) h3.2.1 h3.2.2⟩))
  ⟨by simp,by simp,hal _ _ _ h0⟩
 clear hrow hcall h0 hal;go_enter Tryz.func84,Tryz.ntmps84
 go_wp2_with ((with_reducible refine hi.mono ?_);rintro e w2 ⟨i,hi1,hi2,rfl⟩)
 go_ret;exact⟨i,hi1,hi2.inv,ret_bool (by simp [allB,anyB,List.not_all_eq_any_not])⟩
theorem allx_cov (F:FuncId) (hF:FnOK F) (first caps:Array Value) (a:Option Addr) (c:Nat) (us:List V7) (q:Nat→Bool) (w:World)
  (hlen:us.length≤140737488351232) (hrow:Cells7 w a us)
  (hcall:∀i (h:i<us.length) w1,Ext w w1→Calls Tryz.prog F (first.push us[i].val++caps) w1 fun e w2=>e= .returned (.bool (q i))∧Ext w1 w2):
  Calls Tryz.prog 84 #[.slice a us.length c,.func (.func F) first caps] w fun e w'=>e= .returned (.bool (allB us.length q))∧Ext w w':=
 (all_cov F hF first caps a c us q (fun _ w' => Ext w w') w hlen (fun _ _ h => hrow.ext h) (fun _ _ o h => h.alloc o)
  (fun i h w1 _ hI=>(hcall i h w1 hI).mono fun _ _ h2=>⟨h2.1,hI.trans h2.2,h2.2.kept _⟩) (Ext.refl w)).mono fun _ _ ⟨_,_,hI,he⟩=>⟨he,hI⟩
theorem idx_clm (cap:Value) (a:Option Addr) (c:Nat) (us:List V3) (p:Nat→Bool) (I:Nat→World→Prop) (w:World)
  (hlen:us.length≤140737488351232)
  (hrow:∀i w,I i w→Cells3 w a us)
  (hcall:∀i (h:i<us.length) w1,I i w1→Calls Tryz.prog 130 #[us[i].val,cap] w1 fun e w2=>e= .returned (.bool (p i))∧I (i+1) w2)
  (h0:I 0 w):
  Calls Tryz.prog 165 #[.slice a us.length c,.func (.func 130) #[] #[cap]] w
   (IdxPost us.length p I):=by
 go_enter Tryz.func165,Tryz.ntmps165
 go_wp2
 go_loopw [4,5,8] (fun r j i wr=>∃k:Nat,k≤us.length∧i= .int .i64 k∧(∀m,m<k→p m=false)∧I k wr) (fun _ _ i _=>us.length - (intOf i).toNat)
 case atStart=>exact⟨0,Nat.zero_le _,rfl,fun m hm=>absurd hm (Nat.not_lt_zero _),h0⟩
 case round=>
  obtain⟨k,hk,rfl,hp,hI⟩:=hrel;by_cases hlt:k<us.length
  ·obtain ⟨b, off, rfl, g0, g1, g2⟩ := hrow k wr hI k hlt; have hc0 := hcall k hlt wr hI; cases hpk : p k
   ·rw [hpk] at hc0; clear hcall hrow; have HP := hHd hpk; clear hpk; go_wp2_with ((with_reducible refine hc0.mono ?_); rintro e w2 ⟨rfl, hI2⟩)
    go_roundw
    case rel=>exact⟨k+1,by omega,by go_num,fun m hm=>by
     by_cases e:m=k
     ·subst e;exact HP.out
     ·exact hp m (by omega),hI2⟩
    case measure=>simp [intOf];omega
   ·rw [hpk] at hc0; clear hcall hrow; have HP := hHd hpk; clear hpk; have HP0 := hHd hp; clear hp; go_wp2_with ((with_reducible refine hc0.mono ?_); rintro e w2 ⟨rfl, hI2⟩)
    go_ret;exact .inl ⟨k,hlt,HP.out,HP0.out,rfl,hI2⟩
  ·have hk' : k = us.length := by omega
   subst hk';have HP0:=hHd hp;clear hp;clear hcall hrow;go_wp2
   go_ret;exact .inr ⟨HP0.out,rfl,hI⟩
theorem cont_clm (cap:Value) (a:Option Addr) (c:Nat) (us:List V3) (p:Nat→Bool) (I:Nat→World→Prop) (w:World)
  (hlen:us.length≤140737488351232)
  (hrow:∀i w,I i w→Cells3 w a us)
  (hcall:∀i (h:i<us.length) w1,I i w1→Calls Tryz.prog 130 #[us[i].val,cap] w1 fun e w2=>e= .returned (.bool (p i))∧I (i+1) w2)
  (h0:I 0 w):
  Calls Tryz.prog 129 #[.slice a us.length c,.func (.func 130) #[] #[cap]] w
   (ContPost us.length p I):=by
 have hi:=idx_clm cap a c us p I w hlen hrow hcall h0;clear hrow hcall h0;go_enter Tryz.func129,Tryz.ntmps129
 go_wp2_with ((with_reducible refine hi.mono ?_);rintro e w2 (⟨i,hi1,hi2,hi3,rfl,hi5⟩|⟨hi3,rfl,hi5⟩))
 ·have H2 := hHd hi2; clear hi2; have H3 := hHd hi3; clear hi3; go_wp2
  go_ret;exact ContPost.yes hi1 H2.out (by simp) hi5
 ·have H3 := hHd hi3; clear hi3; go_wp2
  go_ret;exact ContPost.no H3.out (by simp) hi5
theorem alls_clm (F:FuncId) (hF:FnOK F) (first caps:Array Value) (B:Nat) (x:V3) (r:Bool) (R:World→Prop) (w:World)
  (hcap:w.cell? ⟨B,0,none⟩=some (.func (.func F) first caps))
  (hcall:Calls Tryz.prog F (first.push x.val++caps) (w.alloc (.cells #[x.c0,x.c1,x.c2] 121)) fun e w2=>e= .returned (.bool r)∧R w2):
  Calls Tryz.prog 130 #[x.val,.pointer (some ⟨B,0,none⟩)] w fun e w2=>e= .returned (.bool (!r))∧R w2:=by
 unfold FnOK at hF;have hB:B<w.heap.size:=lt_of_cell hcap;go_enter Tryz.func130,Tryz.ntmps130
 go_wp2_with ((with_reducible refine hcall.mono ?_);rintro e w2 ⟨rfl,hR⟩)
 go_ret;exact⟨rfl,hR⟩
theorem all_clm (F:FuncId) (hF:FnOK F) (first caps:Array Value) (a:Option Addr) (c:Nat) (us:List V3) (q:Nat→Bool) (I:Nat→World→Prop) (w:World)
  (hlen:us.length≤140737488351232)
  (hrow:∀i w,I i w→Cells3 w a us)
  (hal:∀i w o,I i w→I i (w.alloc o))
  (hcall:∀i (h:i<us.length) w1,w.heap.size≤w1.heap.size→I i w1→Calls Tryz.prog F (first.push us[i].val++caps) w1 fun e w2=>e= .returned (.bool (q i))∧I (i+1) w2∧Kept w.heap.size w1 w2)
  (h0:I 0 w):
  Calls Tryz.prog 72 #[.slice a us.length c,.func (.func F) first caps] w
   (AllPost us.length q I):=by
 have hi:=cont_clm (.pointer (some ⟨w.heap.size,0,none⟩)) a c us (fun i=> !q i) (AllInv w (.func (.func F) first caps) I) (w.alloc (.cells #[.func (.func F) first caps] 144)) hlen
  (fun i w1 h=>hrow i w1 h.inv)
  (fun i h w1 hI=>alls_clm F hF first caps w.heap.size us[i] (q i) _ w1 hI.cell ((hcall i h (w1.alloc (.cells #[us[i].c0,us[i].c1,us[i].c2] 121)) (Nat.le_trans (Nat.le_of_lt hI.size) ((Ext.refl w1).alloc (.cells #[us[i].c0,us[i].c1,us[i].c2] 121)).size) (hal _ _ _ hI.inv)).mono fun e w3 h3=>⟨h3.1,AllInv.next hI ((Ext.refl w1).alloc (.cells #[us[i].c0,us[i].c1,us[i].c2] 121)) h3.2.1 h3.2.2⟩))
  ⟨by simp,by simp,hal _ _ _ h0⟩
 clear hrow hcall h0 hal;go_enter Tryz.func72,Tryz.ntmps72
 go_wp2_with ((with_reducible refine hi.mono ?_);rintro e w2 ⟨i,hi1,hi2,rfl⟩)
 go_ret;exact⟨i,hi1,hi2.inv,ret_bool (by simp [allB,anyB,List.not_all_eq_any_not])⟩
theorem allx_clm (F:FuncId) (hF:FnOK F) (first caps:Array Value) (a:Option Addr) (c:Nat) (us:List V3) (q:Nat→Bool) (w:World)
  (hlen:us.length≤140737488351232) (hrow:Cells3 w a us)
  (hcall:∀i (h:i<us.length) w1,Ext w w1→Calls Tryz.prog F (first.push us[i].val++caps) w1 fun e w2=>e= .returned (.bool (q i))∧Ext w1 w2):
  Calls Tryz.prog 72 #[.slice a us.length c,.func (.func F) first caps] w fun e w'=>e= .returned (.bool (allB us.length q))∧Ext w w':=
 (all_clm F hF first caps a c us q (fun _ w' => Ext w w') w hlen (fun _ _ h => hrow.ext h) (fun _ _ o h => h.alloc o)
  (fun i h w1 _ hI=>(hcall i h w1 hI).mono fun _ _ h2=>⟨h2.1,hI.trans h2.2,h2.2.kept _⟩) (Ext.refl w)).mono fun _ _ ⟨_,_,hI,he⟩=>⟨he,hI⟩
end Go.Proofs.YtegkdnfeceomdaaGreat
