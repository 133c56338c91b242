/- Bundled: what the texts UB UBQ IG IU SG SF SH OX UD Z B C D E say one after another. -/
import Derived.Test.YtegkdnfeceomdaaGreatKC1
import Derived.OwnWalkIn
import Derived.TacticsInMore
import Derived.RegionIn
import Derived.LoopIn
import Derived.RangeFuncIn
import Derived.RangeFuncLeaves
import Derived.RangeFuncCalls
import Derived.RangeFuncRecord
import Derived.Deep.Quiet
import Derived.Test.YtegkdnfeceomdaaGreatKC5
import Derived.Test.YtegkdnfeceomdaaGreatKC2
import Derived.Laws.EntriesVeiled
import Derived.Maps.AppendAt
set_option linter.unusedSimpArgs false
set_option linter.unusedVariables false
/- Ranges over functions: what an iterator gives; the loop over it, alone and within a round. -/
namespace Go.Hs
open Go.RowKit
structure Turned (L : Nat) (w w' : World) : Prop where
  os : w'.os = w.os
  tape : w'.tape = w.tape
  output : w'.output = w.output
  size : w'.heap.size = w.heap.size
  block : ∀ k, k ≠ L → w'.heap[k]? = w.heap[k]?
theorem Turned.put (w : World) (L : Nat) (o : Obj) : Turned L w (w.putObj L o) := ⟨rfl, rfl, rfl, by simp, fun _ h => World.putObj_heap_other h⟩
theorem Turned.below {L n : Nat} {w w' : World} (h : Turned L w w') (hL : n ≤ L) : Below n w w' := ⟨h.os, h.tape, h.output, by rw [h.size]; exact Nat.le_refl _, fun k hk => h.block k (by omega)⟩
theorem Turned.cell {L b o : Nat} {w w' : World} {v : Value} (h : Turned L w w') (hb : b ≠ L) (hc : w.cell? ⟨b, o, none⟩ = some v) : w'.cell? ⟨b, o, none⟩ = some v := by
  rw [World.cell?_of_block (w := w) (a := ⟨b, o, none⟩) (h.block b hb)]; exact hc
theorem Kept.refl (B : Nat) (w : World) : Kept B w w := ⟨Nat.le_refl _, fun _ _ _ => rfl⟩
theorem Kept.mono {B C : Nat} {w w' : World} (h : Kept B w w') (hBC : B ≤ C) : Kept C w w' := ⟨h.1, fun k hk hl => h.2 k (Nat.le_trans hBC hk) hl⟩
theorem Kept.obj {B k : Nat} {w w' : World} {o : Obj} (h : Kept B w w') (hB : B ≤ k) (hk : w.heap[k]? = some o) : w'.heap[k]? = some o := by
  rw [h.2 k hB (Array.getElem?_eq_some_iff.1 hk).1]; exact hk
theorem Below.two (w : World) (o o' : Obj) : Below w.heap.size w ((w.alloc o).alloc o') := ((Ext.refl w).alloc o).alloc o'
theorem Kept.below {B n : Nat} {w0 w w' : World} (h : Kept B w0 w) (hx : Below n w w') (hn : w0.heap.size ≤ n) : Kept B w0 w' :=
  ⟨Nat.le_trans h.1 hx.size, fun k hB hk => (hx.block k (by omega)).trans (h.2 k hB hk)⟩
theorem Kept.ext {B : Nat} {w w' : World} (h : Ext w w') : Kept B w w' := ⟨h.size, fun _ _ hk => h.heap hk⟩
end Go.Hs
namespace Go.Proofs.YtegkdnfeceomdaaGreat
open Go.RowKit Go.Hs
attribute [local irreducible] World.setCell World.alloc
theorem wide_fn (f : FuncId) : Fence.wide.fn f := trivial
theorem wide_fn' (f : FuncId) (l : Nat) : (Fence.wide.inRound l).fn f := trivial
theorem wide_depth : Fence.wide.depth = none := rfl
theorem wide_round : Fence.wide.round = none := rfl
attribute [local simp] wide_fn wide_fn' wide_depth wide_round
def roundEnd (D : Nat) (J1 : World → Prop) (Jx : Code → World → Prop) (W : World) : Exit → Act → World → Prop
  | .normal, _, W' => Kept D W W' ∧ J1 W'
  | .ret, _, W' => Kept D W W' ∧ Jx .ret W'
  | .exit id, _, W' => Kept D W W' ∧ Jx (.exit id) W'
  | .goto t, _, W' => Kept D W W' ∧ Jx (.goto t) W'
  | .panic _, _, _ => False
  | .outgrown, _, _ => False
theorem round_of {assign body : Code} {tmps : Array Value} {L D H : Nat} {rec : Loop} (hrs : rec.state = .ready) (hrp : rec.pending = none) {fn : FuncId} {J1 : World → Prop} {Jx : Code → World → Prop} {W : World}
    (hDL : D ≤ L) (hLH : L < H) (hl : W.heap[L]? = some (.loop rec)) (hJ1 : ∀ A B, J1 A → Below D A B → J1 B) (hJx : ∀ c A B, Jx c A → Below D A B → Jx c B)
    (h : assign.wpIn (Fence.wide.inRound L) 0 Tryz.prog (Exit.then (fun a1 W1 => Kept D W W1 ∧ ∀ W2, Turned L W1 W2 → (∃ r, W2.heap[L]? = some (.loop r)) → body.wpIn (Fence.wide.inRound L) 0 Tryz.prog (roundEnd D J1 Jx W2) a1 W2) (fun _ _ _ => False))
      { tmps := tmps, defers := [] } W) :
    RoundIn Fence.wide 0 Tryz.prog L fn tmps assign body W fun e W2 => Kept H W W2 ∧
      ((e = .returned (.bool true) ∧ J1 W2 ∧ W2.heap[L]? = some (.loop rec) ∧ (∀ k, D ≤ k → k < W.heap.size → k ≠ L → W2.heap[k]? = W.heap[k]?)) ∨
       (e = .returned (.bool false) ∧ (∃ c, Jx c W2 ∧ W2.heap[L]? = some (.loop { rec with state := .done, pending := some c })) ∧ (∀ k, D ≤ k → k < W.heap.size → k ≠ L → W2.heap[k]? = W.heap[k]?))) := by
  refine roundIn_of_wpIn trivial (wpIn_mono h ?_)
  rintro e a1 W1 hq; cases e with
  | normal =>
    obtain ⟨hk1, hb⟩ := hq; have hl1 : W1.heap[L]? = some (.loop rec) := hk1.obj hDL hl; have hlt1 : L < W1.heap.size := (Array.getElem?_eq_some_iff.1 hl1).1; refine ⟨_, run_beginRound hl1 hrs, ?_⟩
    have hT := Turned.put W1 L (.loop { rec with state := .busy }); have hl2 : (W1.putObj L (.loop { rec with state := .busy })).heap[L]? = some (.loop { rec with state := .busy }) := World.putObj_heap_same hlt1; refine wpIn_mono (hb _ hT ⟨_, hl2⟩) ?_
    generalize hW2 : W1.putObj L (.loop { rec with state := .busy }) = W2 at *; have hold : ∀ k, D ≤ k → k < W.heap.size → k ≠ L → W2.heap[k]? = W.heap[k]? := fun k hD hk hkL => (hT.block k hkL).trans (hk1.2 k hD hk)
    have hsz : W.heap.size ≤ W2.heap.size := by rw [hT.size]; exact hk1.1
    have fin : ∀ (W3 : World) (o : Obj), Kept D W2 W3 → Kept H W (W3.putObj L o) ∧ (∀ k, D ≤ k → k < W.heap.size → k ≠ L → (W3.putObj L o).heap[k]? = W.heap[k]?) := fun W3 o hk3 =>
      have q : ∀ k, D ≤ k → k < W.heap.size → k ≠ L → (W3.putObj L o).heap[k]? = W.heap[k]? := fun k hD hk hkL =>
        ((World.putObj_heap_other hkL).trans (hk3.2 k hD (Nat.lt_of_lt_of_le hk hsz))).trans (hold k hD hk hkL)
      ⟨⟨by simp; exact Nat.le_trans hsz hk3.1, fun k hH hk => q k (by omega) hk (by omega)⟩, q⟩
    have back : ∀ (W3 : World) (o : Obj), Below D W3 (W3.putObj L o) := fun W3 o => (Turned.put W3 L o).below hDL
    have jump : ∀ (c : Code) (W3 : World), Kept D W2 W3 → Jx c W3 → ∃ v w', (Instr.endRound L (some c)).run Tryz.prog W3 = .ok v w' ∧ (Kept H W w' ∧
      ((Ending.returned v = .returned (.bool true) ∧ J1 w' ∧ w'.heap[L]? = some (.loop rec) ∧ (∀ k, D ≤ k → k < W.heap.size → k ≠ L → w'.heap[k]? = W.heap[k]?)) ∨
       (Ending.returned v = .returned (.bool false) ∧ (∃ c, Jx c w' ∧ w'.heap[L]? = some (.loop { rec with state := .done, pending := some c })) ∧ (∀ k, D ≤ k → k < W.heap.size → k ≠ L → w'.heap[k]? = W.heap[k]?)))) := fun c W3 hk3 hj => by
      have hl3 := hk3.obj hDL hl2; have hlt3 : L < W3.heap.size := (Array.getElem?_eq_some_iff.1 hl3).1; obtain ⟨f1, f2⟩ := fin W3 (.loop { rec with state := .done, pending := some c }) hk3; exact ⟨_, _, run_endRound (some c) hl3, f1, .inr ⟨rfl, ⟨c, hJx c _ _ hj (back _ _), World.putObj_heap_same hlt3⟩, f2⟩⟩
    rintro e a3 W3 hp; cases e with
    | normal =>
      obtain ⟨hk3, hj⟩ := hp; have hl3 := hk3.obj hDL hl2; have hlt3 : L < W3.heap.size := (Array.getElem?_eq_some_iff.1 hl3).1; obtain ⟨f1, f2⟩ := fin W3 (.loop rec) hk3; have he : ({ ({ rec with state := .busy } : Loop) with state := .ready, pending := none } : Loop) = rec := by rw [← hrs, ← hrp]
      have hr := run_endRound (P := Tryz.prog) none hl3; simp only [Option.isNone_none, if_true] at hr; rw [he] at hr; exact ⟨_, _, hr, f1, .inl ⟨rfl, hJ1 _ _ hj (back _ _), World.putObj_heap_same hlt3, f2⟩⟩
    | ret => exact jump .ret W3 hp.1 hp.2
    | exit id => exact jump (.exit id) W3 hp.1 hp.2
    | goto t => exact jump (.goto t) W3 hp.1 hp.2
    | panic ch => exact hp.elim
    | outgrown => exact hp.elim
  | exit id => exact hq.elim
  | goto t => exact hq.elim
  | ret => exact hq.elim
  | panic chain => exact hq.elim
  | outgrown => exact hq.elim
end Go.Proofs.YtegkdnfeceomdaaGreat
/- A drawn region within a round; the loop over an iterator in a plain walk. -/
namespace Go.Hs
open Go.RowKit
def noDefer (ops : Array Oper) : Bool := ops.toList.all (fun o => match o.op with | .defer _ => false | _ => true)
section
variable {P : Program} {ops : Array Oper} {Q : Exit → Act → World → Prop} {md : Region.Mode} {n l : Nat}
theorem uponIn_of {o : Oper} {a : Act} {K : Act → World → Prop} {r : Result Next} (h : o.upon P a K Q r) : o.uponIn (Fence.wide.inRound l) n P a K Q r := by
  cases r with
  | ok x w' =>
    cases x with
    | value v => exact h
    | skip => exact h
    | defer d => exact h
    | enter f args =>
      refine ⟨fun hd => by simp [Fence.inRound, Fence.wide] at hd, CallsIn.inRound l (callsIn_wide.2 (Calls.mono h ?_))⟩
      intro e w'' he
      cases e <;> exact he
    | row row args =>
      refine ⟨fun hd => by simp [Fence.inRound, Fence.wide] at hd, fun c cs _ => ?_⟩
      obtain ⟨v, w', hr, hs⟩ := h c cs; exact ⟨v, w', hr, stepsIn_wide.2 hs⟩
    | _ => exact h.elim
  | halt x w' =>
    cases x with
    | panic v => exact h
    | _ => exact h.elim
theorem operIn_of {o : Oper} {a : Act} {w : World} {K : Act → World → Prop} (hnd : ∀ c, o.op ≠ .defer c) (h : o.wp P a w K Q) : o.wpIn (Fence.wide.inRound l) n P a w K Q :=
  ⟨fun _ _ => trivial, by rw [Oper.semAt_eq _ _ _ hnd]; exact uponIn_of h⟩
theorem opIn_of {C : World → Prop} {i : Nat} {a : Act} {w : World} {K : Act → Prop} {K' : Act → World → Prop} (hnd : noDefer ops = true) (hC : C w) (hk : ∀ a w', C w' → K a → K' a w') (h : qOp P ops C i K a) : wpOpIn (Fence.wide.inRound l) n P ops Q i K' a w := by
  unfold qOp at h; unfold wpOpIn; cases ho : ops[i]? with
  | none => simp only [ho] at h; exact hk _ _ hC h
  | some o =>
    simp only [ho] at h ⊢; split
    · rename_i hw
      rw [if_pos hw] at h; refine operIn_of (fun c hc => ?_) (Oper.wp_of_quiet hC hk h)
      have hm : o ∈ ops.toList := by
        obtain ⟨hi, rfl⟩ := Array.getElem?_eq_some_iff.1 ho; simp
      have := List.all_eq_true.1 hnd o hm; rw [hc] at this; cases this
    · rename_i hw
      rw [if_neg hw] at h; exact ⟨fun _ _ => trivial, hk _ _ hC h⟩
theorem anyIn_of {C : World → Prop} {Q0 : Act → Prop} (hnd : noDefer ops = true) (hQ : ∀ a w, C w → Q0 a → Q .normal a w) : ∀ (fuel : Nat) (listed : Array Bool) (a : Act) (w : World), C w → wpAnyQ P md ops C Q0 fuel listed a → wpAnyIn (Fence.wide.inRound l) n P md ops Q fuel listed a w
  | 0, _, _, _, hC, h => ⟨h.1, hQ _ _ hC h.2⟩
  | fuel + 1, _, _, _, hC, h => ⟨fun h0 => hQ _ _ hC (h.1 h0), fun i hi => opIn_of hnd hC (fun a w hw h => anyIn_of hnd hQ fuel _ a w hw h) (h.2 i hi)⟩
theorem wpIn_round_quiet {C : World → Prop} {id : Nat} {a : Act} {w : World} (hm : P.follows .mixedOrders = true) (hB : Region.lexB .any ops = true) (hnd : noDefer ops = true) (hC : C { w with drawn := w.drawn + 1 })
    (h : wpQuiet P ops C (fun a' => ∀ w', C w' → Q .normal a' w') ops.toList a) : (Code.region id ops true).wpIn (Fence.wide.inRound l) n P Q a w := by
  simp only [Region.lexB, Bool.and_eq_true] at hB; refine wpIn_region_any hm (anyIn_of (Q0 := fun a' => ∀ w', C w' → Q .normal a' w') hnd (fun _ w' hw' h => h w' hw') _ _ _ _ hC ?_)
  have := wpAnyQ_lex (C := C) (md := .any) hB.1 ops.toList 0 (Array.replicate ops.size false) a (by simp) (by simpa using hB.2) h; simpa using this
end
end Go.Hs
namespace Go.Proofs.YtegkdnfeceomdaaGreat
open Go.RowKit Go.Hs
end Go.Proofs.YtegkdnfeceomdaaGreat
/- Ranges over functions whose arguments are told by a predicate; some old blocks may turn meanwhile, of which something stays true. -/
namespace Go.Hs
open Go.RowKit
def Inv (q : Nat → Prop) (I : World → Prop) : Prop := ∀ w w' : World, (∀ k, q k → w'.heap[k]? = w.heap[k]?) → I w → I w'
structure BelQ (q : Nat → Prop) (I : World → Prop) (n : Nat) (w w' : World) : Prop where
  os : w'.os = w.os
  tape : w'.tape = w.tape
  output : w'.output = w.output
  size : w.heap.size ≤ w'.heap.size
  block : ∀ k, k < n → ¬ q k → w'.heap[k]? = w.heap[k]?
  inv : I w → I w'
section
variable {q : Nat → Prop} {I : World → Prop} {n m : Nat} {a b c : World}
theorem BelQ.mono (h : BelQ q I n a b) (hm : m ≤ n) : BelQ q I m a b := ⟨h.os, h.tape, h.output, h.size, fun k hk hq => h.block k (by omega) hq, h.inv⟩
theorem BelQ.trans (h : BelQ q I n a b) (k : BelQ q I n b c) : BelQ q I n a c := ⟨k.os.trans h.os, k.tape.trans h.tape, k.output.trans h.output, Nat.le_trans h.size k.size, fun j hj hq => (k.block j hj hq).trans (h.block j hj hq), fun i => k.inv (h.inv i)⟩
theorem below_toQ (h : Below n a b) (hI : Inv q I) (hq : ∀ k, q k → k < n) : BelQ q I n a b := ⟨h.os, h.tape, h.output, h.size, fun k hk _ => h.block k hk, hI a b (fun k hk => h.block k (hq k hk))⟩
theorem BelQ.obj {k : Nat} {o : Obj} (h : BelQ q I n a b) (hq : ¬ q k) (hk : k < n) (ho : a.heap[k]? = some o) : b.heap[k]? = some o := (h.block k hk hq).trans ho
theorem BelQ.cell {k o : Nat} {v : Value} (h : BelQ q I n a b) (hq : ¬ q k) (hk : k < n) (hc : a.cell? ⟨k, o, none⟩ = some v) : b.cell? ⟨k, o, none⟩ = some v := by
  rw [World.cell?_of_block (w := a) (a := ⟨k, o, none⟩) (h.block k hk hq)]; exact hc
theorem BelQ.frozen {k o : Nat} (h : BelQ q I n a b) (hq : ¬ q k) (hk : k < n) : b.frozen? ⟨k, o, none⟩ = a.frozen? ⟨k, o, none⟩ := World.frozen?_of_block (w := a) (h.block k hk hq)
theorem inv_none : Inv (fun _ => False) (fun _ => True) := fun _ _ _ _ => trivial
theorem BelQ.below (h : BelQ (fun _ => False) (fun _ => True) n a b) : Below n a b := ⟨h.os, h.tape, h.output, h.size, fun k hk => h.block k hk id⟩
theorem BelQ.toExt (h : BelQ q I n a b) {w : World} (hx : Ext w a) (hn : w.heap.size ≤ n) (hq : ∀ k, q k → w.heap.size ≤ k) : Ext w b :=
  ⟨h.os.trans hx.os, h.tape.trans hx.tape, h.output.trans hx.output, Nat.le_trans hx.size h.size, fun k hk => (h.block k (by omega) (fun e => by have := hq k e; omega)).trans (hx.block k hk)⟩
end
end Go.Hs
namespace Go.Proofs.YtegkdnfeceomdaaGreat
open Go.RowKit Go.Hs
attribute [local irreducible] World.setCell World.alloc
attribute [local simp] wide_fn wide_fn' wide_depth wide_round
def GivesQ (q : Nat → Prop) (I : World → Prop) (g : FuncId) (lb : Array Value) (n : Nat) (Arg : Nat → Array Value → World → Prop) (K : World → Prop) : Prop :=
  ∀ (L : Nat) (J : Nat → World → Prop) (Jx : World → Prop) (W : World),
    (∀ k, q k → k < W.heap.size) →
    (∀ i W1, J i W1 → K W1) →
    (∀ i W1 W2, J i W1 → BelQ q I W.heap.size W1 W2 → J i W2) →
    (∀ W1 W2, Jx W1 → BelQ q I W.heap.size W1 W2 → Jx W2) →
    (∀ (i : Nat) (h : i < n) (W1 : World) (xs : Array Value), J i W1 → Arg i xs W1 → W.heap.size ≤ W1.heap.size → YieldAt Fence.wide 0 Tryz.prog L xs W1 fun e W2 =>
      Kept W.heap.size W1 W2 ∧ ((e = .returned (.bool true) ∧ J (i + 1) W2) ∨ (e = .returned (.bool false) ∧ Jx W2))) →
    J 0 W →
    CallsIn Fence.wide 0 Tryz.prog g (#[.func (.yield L) #[] #[]] ++ lb) W fun e W' => (∃ v, e = .returned v) ∧ (J n W' ∨ Jx W')
theorem each_outerQ {g : Operand} {ps : Array Tmp} {assign body : Code} {Q : Exit → Act → World → Prop} {a : Act} {w : World} {f : FuncId} {caps : Array Value} {q : Nat → Prop} {I : World → Prop} {n : Nat} {Arg : Nat → Array Value → World → Prop} {K : World → Prop}
    (hg : a.eval g = .func (.func f) #[] caps) (hF : FnOK f) (hps : ∀ i xs W, Arg i xs W → ps.size = xs.size) (hI : Inv q I) (hq : ∀ k, q k → k < w.heap.size) (J : Nat → World → Prop) (Jx : Code → World → Prop)
    (hgv : GivesQ q I f caps n Arg K) (hK : ∀ i W, J i W → K W)
    (hJ : ∀ i A B, J i A → BelQ q I w.heap.size A B → J i B) (hJx : ∀ c A B, Jx c A → BelQ q I w.heap.size A B → Jx c B) (h0 : J 0 w)
    (hround : ∀ (i : Nat) (h : i < n) (W : World) (xs : Array Value), J i W → Arg i xs W → (∃ r, W.heap[w.heap.size + 1]? = some (.loop r)) → w.heap.size + 1 < W.heap.size →
      assign.wpIn (Fence.wide.inRound (w.heap.size + 1)) 0 Tryz.prog (Exit.then (fun a1 W1 => Kept w.heap.size W W1 ∧ ∀ W2, Turned (w.heap.size + 1) W1 W2 → (∃ r, W2.heap[w.heap.size + 1]? = some (.loop r)) →
        body.wpIn (Fence.wide.inRound (w.heap.size + 1)) 0 Tryz.prog (roundEnd w.heap.size (J (i + 1)) Jx W2) a1 W2) (fun _ _ _ => False))
        { tmps := (ps.zip xs).foldl (fun t (p, v) => t.setIfInBounds p v) a.tmps, defers := [] } W)
    (hdone : ∀ W, J n W → W.heap[w.heap.size]? = some (.deferred (some [])) → Q .normal { a with defers := { target := .collected w.heap.size, args := #[] } :: a.defers } W)
    (hstop : ∀ c W, Jx c W → W.heap[w.heap.size]? = some (.deferred (some [])) → c.wpIn Fence.wide 0 Tryz.prog Q { a with defers := { target := .collected w.heap.size, args := #[] } :: a.defers } W) :
    (Code.rangeFunc g ps assign body).wpIn Fence.wide 0 Tryz.prog Q a w := by
  refine wpIn_rangeFunc fun fn _ => ?_
  rw [wide_round]; obtain ⟨rec, hrec⟩ : ∃ rec : Loop, rec = { state := .ready, pending := none, fn, tmps := a.tmps, params := ps, assign, body, defers := w.heap.size } := ⟨_, rfl⟩; have hrs : rec.state = .ready := by rw [hrec]
  have hrp : rec.pending = none := by rw [hrec]
  obtain ⟨W1, hW1⟩ : ∃ W1, (w.alloc (.deferred (some []))).alloc (.loop rec) = W1 := ⟨_, rfl⟩
  have hL1 : W1.heap[w.heap.size + 1]? = some (.loop rec) := by
    rw [← hW1]; have := World.alloc_heap_new (w.alloc (.deferred (some []))) (.loop rec); rwa [World.size_alloc] at this
  have hK1 : W1.heap[w.heap.size]? = some (.deferred (some [])) := by
    rw [← hW1]; exact (Below.heap_alloc _ _ _ (by simp)).trans (World.alloc_heap_new w _)
  have hs1 : W1.heap.size = w.heap.size + 2 := by rw [← hW1]; simp
  have hqB : ∀ k A B, w.heap.size ≤ k → Below k A B → BelQ q I w.heap.size A B := fun k A B hk h => (below_toQ h hI (fun j hj => by have := hq j hj; omega)).mono hk
  have h1 : J 0 W1 := hJ 0 _ _ h0 (hqB _ _ _ (Nat.le_refl _) (by rw [← hW1]; exact Below.two w _ _)); have e : resolve a.eval (rangeCall g (w.heap.size + 1)) 0 = Deferred.ofValue (a.eval g) #[.func (.yield (w.heap.size + 1)) #[] #[]] := by simp [resolve, Act.eval]
  refine ⟨w.heap.size + 1, [{ target := .collected w.heap.size, args := #[] }], W1, { target := .fn (.func f) caps, args := #[.func (.yield (w.heap.size + 1)) #[] #[]] }, W1, f, #[.func (.yield (w.heap.size + 1)) #[] #[]] ++ caps, W1, ?_, ?_, fun _ _ => trivial, ?_, by simp, ?_⟩
  · rw [← hW1, hrec]; exact run_enterLoop_outer _ _ _ _ _
  · rw [e, hg]; rfl
  · exact hF _ _
  refine (hgv (w.heap.size + 1)
    (fun i W => J i W ∧ W.heap[w.heap.size + 1]? = some (.loop rec) ∧ W.heap[w.heap.size]? = some (.deferred (some [])))
    (fun W => (∃ c, Jx c W ∧ W.heap[w.heap.size + 1]? = some (.loop { rec with state := .done, pending := some c })) ∧ W.heap[w.heap.size]? = some (.deferred (some [])))
    W1 (fun k hk => by have := hq k hk; omega) (fun i W h => hK i W h.1) ?_ ?_ ?_ ⟨h1, hL1, hK1⟩).mono ?_
  · rintro i A B ⟨a1, a2, a3⟩ hb; exact ⟨hJ i A B a1 (hb.mono (by omega)), hb.obj (fun hk => by have := hq _ hk; omega) (by omega) a2, hb.obj (fun hk => by have := hq _ hk; omega) (by omega) a3⟩
  · rintro A B ⟨⟨c, a1, a2⟩, a3⟩ hb; exact ⟨⟨c, hJx c A B a1 (hb.mono (by omega)), hb.obj (fun hk => by have := hq _ hk; omega) (by omega) a2⟩, hb.obj (fun hk => by have := hq _ hk; omega) (by omega) a3⟩
  · rintro i hi W xs ⟨a1, a2, a3⟩ harg hs; have hy := run_yield (P := Tryz.prog) (args := xs) a2 (by rw [hrec]; exact (hps i xs W harg).symm); refine ⟨_, _, _, _, hy, ?_⟩
    have hr := hround i hi W xs a1 harg ⟨_, a2⟩ (by omega); subst hrec; refine (round_of (H := W1.heap.size) hrs hrp (by omega : w.heap.size ≤ w.heap.size + 1) (by omega) a2 (fun A B h hb => hJ (i + 1) A B h (hqB _ _ _ (Nat.le_refl _) hb)) (fun c A B h hb => hJx c A B h (hqB _ _ _ (Nat.le_refl _) hb)) hr).mono ?_
    rintro e W2 ⟨k, ⟨e1, e2, e3, e4⟩ | ⟨e1, ⟨c, e2, e3⟩, e4⟩⟩
    · exact ⟨k, .inl ⟨e1, e2, e3, (e4 _ (Nat.le_refl _) (by omega) (by omega)).trans a3⟩⟩
    · exact ⟨k, .inr ⟨e1, ⟨c, e2, e3⟩, (e4 _ (Nat.le_refl _) (by omega) (by omega)).trans a3⟩⟩
  · rintro e W2 ⟨⟨v, rfl⟩, ⟨a1, a2, a3⟩ | ⟨⟨c, a1, a2⟩, a3⟩⟩
    · have hE := run_endLoop (P := Tryz.prog) a2 (by rw [hrs]; simp); have hT := Turned.put W2 (w.heap.size + 1) (.loop { rec with state := .exhausted }); exact ⟨none, _, hE.trans (congrArg (fun p => Result.ok p (W2.putObj (w.heap.size + 1) (.loop { rec with state := .exhausted }))) hrp), hdone _ (hJ _ _ _ a1 (hqB _ _ _ (Nat.le_refl _) (hT.below (by omega)))) ((hT.block _ (by omega)).trans a3)⟩
    · have hE := run_endLoop (P := Tryz.prog) a2 (by simp); have hT := Turned.put W2 (w.heap.size + 1) (.loop { ({ rec with state := .done, pending := some c } : Loop) with state := .exhausted }); exact ⟨some c, _, hE, hstop c _ (hJx _ _ _ a1 (hqB _ _ _ (Nat.le_refl _) (hT.below (by omega)))) ((hT.block _ (by omega)).trans a3)⟩
theorem each_wpQ {g : Operand} {ps : Array Tmp} {assign body : Code} {Q : Exit → Act → World → Prop} {a : Act} {w : World} {f : FuncId} {caps : Array Value} {q : Nat → Prop} {I : World → Prop} {n : Nat} {Arg : Nat → Array Value → World → Prop} {K : World → Prop}
    (hg : a.eval g = .func (.func f) #[] caps) (hF : FnOK f) (hps : ∀ i xs W, Arg i xs W → ps.size = xs.size) (hI : Inv q I) (hq : ∀ k, q k → k < w.heap.size) (J : Nat → World → Prop) (Jx : Code → World → Prop)
    (hgv : GivesQ q I f caps n Arg K) (hK : ∀ i W, J i W → K W)
    (hJ : ∀ i A B, J i A → BelQ q I w.heap.size A B → J i B) (hJx : ∀ c A B, Jx c A → BelQ q I w.heap.size A B → Jx c B) (h0 : J 0 w)
    (hround : ∀ (i : Nat) (h : i < n) (W : World) (xs : Array Value), J i W → Arg i xs W → (∃ r, W.heap[w.heap.size + 1]? = some (.loop r)) → w.heap.size + 1 < W.heap.size →
      assign.wpIn (Fence.wide.inRound (w.heap.size + 1)) 0 Tryz.prog (Exit.then (fun a1 W1 => Kept w.heap.size W W1 ∧ ∀ W2, Turned (w.heap.size + 1) W1 W2 → (∃ r, W2.heap[w.heap.size + 1]? = some (.loop r)) →
        body.wpIn (Fence.wide.inRound (w.heap.size + 1)) 0 Tryz.prog (roundEnd w.heap.size (J (i + 1)) Jx W2) a1 W2) (fun _ _ _ => False))
        { tmps := (ps.zip xs).foldl (fun t (p, v) => t.setIfInBounds p v) a.tmps, defers := [] } W)
    (hdone : ∀ W, J n W → W.heap[w.heap.size]? = some (.deferred (some [])) → Q .normal { a with defers := { target := .collected w.heap.size, args := #[] } :: a.defers } W)
    (hstop : ∀ c W, Jx c W → W.heap[w.heap.size]? = some (.deferred (some [])) → c.wp Tryz.prog Q { a with defers := { target := .collected w.heap.size, args := #[] } :: a.defers } W) :
    (Code.rangeFunc g ps assign body).wp Tryz.prog Q a w :=
  wpIn_wide.1 (each_outerQ hg hF hps hI hq J Jx hgv hK hJ hJx h0 hround hdone (fun c W h hd => wpIn_wide.2 (hstop c W h hd)))
end Go.Proofs.YtegkdnfeceomdaaGreat
/- Ranges over functions that leave alone what the loop's body makes. -/
namespace Go.Hs
open Go.RowKit
def KeptU (B U : Nat) (w1 w2 : World) : Prop := w1.heap.size ≤ w2.heap.size ∧ ∀ k, B ≤ k → k < U → k < w1.heap.size → w2.heap[k]? = w1.heap[k]?
theorem Kept.toU {B U : Nat} {a b : World} (h : Kept B a b) : KeptU B U a b := ⟨h.1, fun k h1 _ h2 => h.2 k h1 h2⟩
theorem KeptU.refl (B U : Nat) (w : World) : KeptU B U w w := (Kept.refl B w).toU
theorem KeptU.trans {B U : Nat} {a b c : World} (h : KeptU B U a b) (k : KeptU B U b c) : KeptU B U a c :=
  ⟨Nat.le_trans h.1 k.1, fun i hB hU hi => (k.2 i hB hU (Nat.lt_of_lt_of_le hi h.1)).trans (h.2 i hB hU hi)⟩
theorem KeptU.mono {B C U : Nat} {a b : World} (h : KeptU B U a b) (hBC : B ≤ C) : KeptU C U a b := ⟨h.1, fun k hk hU hl => h.2 k (Nat.le_trans hBC hk) hU hl⟩
theorem KeptU.obj {B U k : Nat} {a b : World} {o : Obj} (h : KeptU B U a b) (hB : B ≤ k) (hU : k < U) (hk : a.heap[k]? = some o) : b.heap[k]? = some o := by
  rw [h.2 k hB hU (Array.getElem?_eq_some_iff.1 hk).1]; exact hk
theorem KeptU.cell {B U : Nat} {a b : World} (h : KeptU B U a b) {k o : Nat} {v : Value} (hB : B ≤ k) (hU : k < U) (hc : a.cell? ⟨k, o, none⟩ = some v) : b.cell? ⟨k, o, none⟩ = some v := by
  rw [World.cell?_of_block (w := a) (h.2 k hB hU (lt_of_cell (a := ⟨k, o, none⟩) hc))]; exact hc
structure BelR (q : Nat → Prop) (I : World → Prop) (n U : Nat) (w w' : World) : Prop where
  os : w'.os = w.os
  tape : w'.tape = w.tape
  output : w'.output = w.output
  size : w.heap.size ≤ w'.heap.size
  block : ∀ k, k < w.heap.size → k < n ∨ U ≤ k → ¬ q k → w'.heap[k]? = w.heap[k]?
  inv : I w → I w'
section
variable {q : Nat → Prop} {I : World → Prop} {n m U : Nat} {a b c : World}
theorem BelR.mono (h : BelR q I n U a b) (hm : m ≤ n) : BelR q I m U a b := ⟨h.os, h.tape, h.output, h.size, fun k hk hr hq => h.block k hk (by omega) hq, h.inv⟩
theorem BelR.trans (h : BelR q I n U a b) (k : BelR q I n U b c) : BelR q I n U a c := ⟨k.os.trans h.os, k.tape.trans h.tape, k.output.trans h.output, Nat.le_trans h.size k.size, fun j hj hr hq => (k.block j (Nat.lt_of_lt_of_le hj h.size) hr hq).trans (h.block j hj hr hq), fun i => k.inv (h.inv i)⟩
theorem ext_toR (h : Ext a b) (hI : Inv q I) (hq : ∀ k, q k → k < a.heap.size) : BelR q I n U a b := ⟨h.os, h.tape, h.output, h.size, fun k hk _ _ => h.heap hk, hI a b (fun k hk => h.heap (hq k hk))⟩
theorem belR_put {o : Obj} {T : Nat} (hI : Inv q I) (hq : ∀ k, q k → k ≠ T) (h1 : n ≤ T) (h2 : T < U) : BelR q I n U a (a.putObj T o) :=
  ⟨rfl, rfl, rfl, by simp, fun k _ hr _ => World.putObj_heap_other (show k ≠ T by omega), hI a _ (fun k hk => World.putObj_heap_other (hq k hk))⟩
theorem belR_set {T i : Nat} {v : Value} (hI : Inv q I) (hq : ∀ k, q k → k ≠ T) (h1 : n ≤ T) (h2 : T < U) : BelR q I n U a (a.setCell ⟨T, i, none⟩ v) :=
  ⟨rfl, rfl, rfl, by rw [World.size_setCell]; exact Nat.le_refl _, fun k _ hr _ => Below.heap_setCell _ _ _ _ (show k ≠ T by omega), hI a _ (fun k hk => Below.heap_setCell _ _ _ _ (hq k hk))⟩
theorem BelR.obj {k : Nat} {o : Obj} (h : BelR q I n U a b) (hq : ¬ q k) (hk : k < n ∨ U ≤ k) (ho : a.heap[k]? = some o) : b.heap[k]? = some o := (h.block k (Array.getElem?_eq_some_iff.1 ho).1 hk hq).trans ho
theorem BelR.cell {k o : Nat} {v : Value} (h : BelR q I n U a b) (hq : ¬ q k) (hk : k < n ∨ U ≤ k) (hc : a.cell? ⟨k, o, none⟩ = some v) : b.cell? ⟨k, o, none⟩ = some v := by
  rw [World.cell?_of_block (w := a) (a := ⟨k, o, none⟩) (h.block k (lt_of_cell hc) hk hq)]; exact hc
theorem BelR.frozen {k o : Nat} {v : Value} {o' : Nat} (h : BelR q I n U a b) (hq : ¬ q k) (hk : k < n ∨ U ≤ k) (hc : a.cell? ⟨k, o', none⟩ = some v) : b.frozen? ⟨k, o, none⟩ = a.frozen? ⟨k, o, none⟩ := World.frozen?_of_block (w := a) (h.block k (lt_of_cell hc) hk hq)
theorem BelR.toQ (h : BelR q I n U a b) (hn : n ≤ a.heap.size) : BelQ q I n a b := ⟨h.os, h.tape, h.output, h.size, fun k hk hq => h.block k (by omega) (.inl hk) hq, h.inv⟩
theorem BelR.toExt (h : BelR q I n U a b) {w : World} (hx : Ext w a) (hn : w.heap.size ≤ n) (hq : ∀ k, q k → w.heap.size ≤ k) : Ext w b :=
  ⟨h.os.trans hx.os, h.tape.trans hx.tape, h.output.trans hx.output, Nat.le_trans hx.size h.size, fun k hk => (h.block k (Nat.lt_of_lt_of_le hk hx.size) (.inl (by omega)) (fun e => by have := hq k e; omega)).trans (hx.block k hk)⟩
end
end Go.Hs
namespace Go.Proofs.YtegkdnfeceomdaaGreat
open Go.RowKit Go.Hs
attribute [local irreducible] World.setCell World.alloc
attribute [local simp] wide_fn wide_fn' wide_depth wide_round
def roundEndU (D U : Nat) (J1 : World → Prop) (Jx : Code → World → Prop) (W : World) : Exit → Act → World → Prop
  | .normal, _, W' => KeptU D U W W' ∧ J1 W'
  | .ret, _, W' => KeptU D U W W' ∧ Jx .ret W'
  | .exit id, _, W' => KeptU D U W W' ∧ Jx (.exit id) W'
  | .goto t, _, W' => KeptU D U W W' ∧ Jx (.goto t) W'
  | .panic _, _, _ => False
  | .outgrown, _, _ => False
def GivesU (q : Nat → Prop) (I : World → Prop) (g : FuncId) (lb : Array Value) (n : Nat) (Arg : Nat → Nat → Array Value → World → Prop) (K : World → Prop) : Prop :=
  ∀ (L : Nat) (J : Nat → Nat → World → Prop) (Jx : Nat → World → Prop) (W : World),
    (∀ k, q k → k < W.heap.size) →
    (∀ U i W1, J U i W1 → K W1) →
    (∀ U i W1 W2, W.heap.size ≤ U → J U i W1 → BelR q I W.heap.size U W1 W2 → J U i W2) →
    (∀ U W1 W2, W.heap.size ≤ U → Jx U W1 → BelR q I W.heap.size U W1 W2 → Jx U W2) →
    (∀ (U i : Nat) (h : i < n) (W1 : World) (xs : Array Value), W.heap.size ≤ U → U ≤ W1.heap.size → J U i W1 → Arg U i xs W1 → YieldAt Fence.wide 0 Tryz.prog L xs W1 fun e W2 =>
      KeptU W.heap.size U W1 W2 ∧ ((e = .returned (.bool true) ∧ J U (i + 1) W2) ∨ (e = .returned (.bool false) ∧ Jx U W2))) →
    (∀ U, W.heap.size ≤ U → J U 0 W) →
    CallsIn Fence.wide 0 Tryz.prog g (#[.func (.yield L) #[] #[]] ++ lb) W fun e W' => (∃ v, e = .returned v) ∧ ∃ U, W.heap.size ≤ U ∧ (J U n W' ∨ Jx U W')
theorem GivesU.toQ {q : Nat → Prop} {I : World → Prop} {g : FuncId} {lb : Array Value} {n : Nat} {Arg : Nat → Nat → Array Value → World → Prop} {Arg' : Nat → Array Value → World → Prop} {K : World → Prop} (h : GivesU q I g lb n Arg K) (hA : ∀ U i xs W, Arg U i xs W → Arg' i xs W) : GivesQ q I g lb n Arg' K := by
  intro L J Jx W hq hK hJ hJx hY h0
  refine (h L (fun _ i W1 => W.heap.size ≤ W1.heap.size ∧ J i W1) (fun _ W1 => W.heap.size ≤ W1.heap.size ∧ Jx W1) W hq (fun _ i W1 h => hK i W1 h.2)
    (fun U i A B _ h hb => ⟨Nat.le_trans h.1 hb.size, hJ i A B h.2 (hb.toQ h.1)⟩) (fun U A B _ h hb => ⟨Nat.le_trans h.1 hb.size, hJx A B h.2 (hb.toQ h.1)⟩)
    (fun U i hi W1 xs _ _ h ha => ?_) (fun U _ => ⟨Nat.le_refl _, h0⟩)).mono ?_
  · obtain ⟨fn, tmps, assign, body, hy, hr⟩ := hY i hi W1 xs h.2 (hA _ _ _ _ ha) h.1; refine ⟨fn, tmps, assign, body, hy, hr.mono ?_⟩
    rintro e W2 ⟨hk, ⟨e1, e2⟩ | ⟨e1, e2⟩⟩
    · exact ⟨hk.toU, .inl ⟨e1, Nat.le_trans h.1 hk.1, e2⟩⟩
    · exact ⟨hk.toU, .inr ⟨e1, Nat.le_trans h.1 hk.1, e2⟩⟩
  · rintro e W' ⟨hv, U, -, ⟨-, h⟩ | ⟨-, h⟩⟩
    · exact ⟨hv, .inl h⟩
    · exact ⟨hv, .inr h⟩
theorem round_ofU {assign body : Code} {tmps : Array Value} {L D H U : Nat} {rec : Loop} (hrs : rec.state = .ready) (hrp : rec.pending = none) {fn : FuncId} {J1 : World → Prop} {Jx : Code → World → Prop} {W : World}
    (hDL : D ≤ L) (hLH : L < H) (hLU : L < U) (hl : W.heap[L]? = some (.loop rec)) (hJ1 : ∀ A o, J1 A → J1 (A.putObj L o)) (hJx : ∀ c A o, Jx c A → Jx c (A.putObj L o))
    (h : assign.wpIn (Fence.wide.inRound L) 0 Tryz.prog (Exit.then (fun a1 W1 => KeptU D U W W1 ∧ ∀ W2, Turned L W1 W2 → (∃ r, W2.heap[L]? = some (.loop r)) → body.wpIn (Fence.wide.inRound L) 0 Tryz.prog (roundEndU D U J1 Jx W2) a1 W2) (fun _ _ _ => False))
      { tmps := tmps, defers := [] } W) :
    RoundIn Fence.wide 0 Tryz.prog L fn tmps assign body W fun e W2 => KeptU H U W W2 ∧
      ((e = .returned (.bool true) ∧ J1 W2 ∧ W2.heap[L]? = some (.loop rec) ∧ (∀ k, D ≤ k → k < U → k < W.heap.size → k ≠ L → W2.heap[k]? = W.heap[k]?)) ∨
       (e = .returned (.bool false) ∧ (∃ c, Jx c W2 ∧ W2.heap[L]? = some (.loop { rec with state := .done, pending := some c })) ∧ (∀ k, D ≤ k → k < U → k < W.heap.size → k ≠ L → W2.heap[k]? = W.heap[k]?))) := by
  refine roundIn_of_wpIn trivial (wpIn_mono h ?_)
  rintro e a1 W1 hq; cases e with
  | normal =>
    obtain ⟨hk1, hb⟩ := hq; have hl1 : W1.heap[L]? = some (.loop rec) := hk1.obj hDL hLU hl; have hlt1 : L < W1.heap.size := (Array.getElem?_eq_some_iff.1 hl1).1; refine ⟨_, run_beginRound hl1 hrs, ?_⟩
    have hT := Turned.put W1 L (.loop { rec with state := .busy }); have hl2 : (W1.putObj L (.loop { rec with state := .busy })).heap[L]? = some (.loop { rec with state := .busy }) := World.putObj_heap_same hlt1; refine wpIn_mono (hb _ hT ⟨_, hl2⟩) ?_
    generalize hW2 : W1.putObj L (.loop { rec with state := .busy }) = W2 at *; have hold : ∀ k, D ≤ k → k < U → k < W.heap.size → k ≠ L → W2.heap[k]? = W.heap[k]? := fun k hD hU hk hkL => (hT.block k hkL).trans (hk1.2 k hD hU hk)
    have hsz : W.heap.size ≤ W2.heap.size := by rw [hT.size]; exact hk1.1
    have fin : ∀ (W3 : World) (o : Obj), KeptU D U W2 W3 → KeptU H U W (W3.putObj L o) ∧ (∀ k, D ≤ k → k < U → k < W.heap.size → k ≠ L → (W3.putObj L o).heap[k]? = W.heap[k]?) := fun W3 o hk3 =>
      have q : ∀ k, D ≤ k → k < U → k < W.heap.size → k ≠ L → (W3.putObj L o).heap[k]? = W.heap[k]? := fun k hD hU hk hkL =>
        ((World.putObj_heap_other hkL).trans (hk3.2 k hD hU (Nat.lt_of_lt_of_le hk hsz))).trans (hold k hD hU hk hkL)
      ⟨⟨by simp; exact Nat.le_trans hsz hk3.1, fun k hH hU hk => q k (by omega) hU hk (by omega)⟩, q⟩
    have jump : ∀ (c : Code) (W3 : World), KeptU D U W2 W3 → Jx c W3 → ∃ v w', (Instr.endRound L (some c)).run Tryz.prog W3 = .ok v w' ∧ (KeptU H U W w' ∧
      ((Ending.returned v = .returned (.bool true) ∧ J1 w' ∧ w'.heap[L]? = some (.loop rec) ∧ (∀ k, D ≤ k → k < U → k < W.heap.size → k ≠ L → w'.heap[k]? = W.heap[k]?)) ∨
       (Ending.returned v = .returned (.bool false) ∧ (∃ c, Jx c w' ∧ w'.heap[L]? = some (.loop { rec with state := .done, pending := some c })) ∧ (∀ k, D ≤ k → k < U → k < W.heap.size → k ≠ L → w'.heap[k]? = W.heap[k]?)))) := fun c W3 hk3 hj => by
      have hl3 := hk3.obj hDL hLU hl2; have hlt3 : L < W3.heap.size := (Array.getElem?_eq_some_iff.1 hl3).1; obtain ⟨f1, f2⟩ := fin W3 (.loop { rec with state := .done, pending := some c }) hk3; exact ⟨_, _, run_endRound (some c) hl3, f1, .inr ⟨rfl, ⟨c, hJx c _ _ hj, World.putObj_heap_same hlt3⟩, f2⟩⟩
    rintro e a3 W3 hp; cases e with
    | normal =>
      obtain ⟨hk3, hj⟩ := hp; have hl3 := hk3.obj hDL hLU hl2; have hlt3 : L < W3.heap.size := (Array.getElem?_eq_some_iff.1 hl3).1; obtain ⟨f1, f2⟩ := fin W3 (.loop rec) hk3; have he : ({ ({ rec with state := .busy } : Loop) with state := .ready, pending := none } : Loop) = rec := by rw [← hrs, ← hrp]
      have hr := run_endRound (P := Tryz.prog) none hl3; simp only [Option.isNone_none, if_true] at hr; rw [he] at hr; exact ⟨_, _, hr, f1, .inl ⟨rfl, hJ1 _ _ hj, World.putObj_heap_same hlt3, f2⟩⟩
    | ret => exact jump .ret W3 hp.1 hp.2
    | exit id => exact jump (.exit id) W3 hp.1 hp.2
    | goto t => exact jump (.goto t) W3 hp.1 hp.2
    | panic ch => exact hp.elim
    | outgrown => exact hp.elim
  | exit id => exact hq.elim
  | goto t => exact hq.elim
  | ret => exact hq.elim
  | panic chain => exact hq.elim
  | outgrown => exact hq.elim
theorem each_outerU {g : Operand} {ps : Array Tmp} {assign body : Code} {Q : Exit → Act → World → Prop} {a : Act} {w : World} {f : FuncId} {caps : Array Value} {q : Nat → Prop} {I : World → Prop} {n : Nat} {Arg : Nat → Nat → Array Value → World → Prop} {K : World → Prop}
    (hg : a.eval g = .func (.func f) #[] caps) (hF : FnOK f) (hps : ∀ U i xs W, Arg U i xs W → ps.size = xs.size) (hI : Inv q I) (hq : ∀ k, q k → k < w.heap.size) (J : Nat → Nat → World → Prop) (Jx : Nat → Code → World → Prop)
    (hgv : GivesU q I f caps n Arg K) (hK : ∀ U i W, J U i W → K W)
    (hJ : ∀ U i A B, w.heap.size + 1 < U → J U i A → BelR q I w.heap.size U A B → J U i B) (hJx : ∀ U c A B, w.heap.size + 1 < U → Jx U c A → BelR q I w.heap.size U A B → Jx U c B) (h0 : ∀ U, w.heap.size + 1 < U → J U 0 w)
    (hround : ∀ (U i : Nat) (h : i < n) (W : World) (xs : Array Value), w.heap.size + 1 < U → U ≤ W.heap.size → J U i W → Arg U i xs W → (∃ r, W.heap[w.heap.size + 1]? = some (.loop r)) → w.heap.size + 1 < W.heap.size →
      assign.wpIn (Fence.wide.inRound (w.heap.size + 1)) 0 Tryz.prog (Exit.then (fun a1 W1 => KeptU w.heap.size U W W1 ∧ ∀ W2, Turned (w.heap.size + 1) W1 W2 → (∃ r, W2.heap[w.heap.size + 1]? = some (.loop r)) →
        body.wpIn (Fence.wide.inRound (w.heap.size + 1)) 0 Tryz.prog (roundEndU w.heap.size U (J U (i + 1)) (Jx U) W2) a1 W2) (fun _ _ _ => False))
        { tmps := (ps.zip xs).foldl (fun t (p, v) => t.setIfInBounds p v) a.tmps, defers := [] } W)
    (hdone : ∀ U W, w.heap.size + 1 < U → J U n W → W.heap[w.heap.size]? = some (.deferred (some [])) → Q .normal { a with defers := { target := .collected w.heap.size, args := #[] } :: a.defers } W)
    (hstop : ∀ U c W, w.heap.size + 1 < U → Jx U c W → W.heap[w.heap.size]? = some (.deferred (some [])) → c.wpIn Fence.wide 0 Tryz.prog Q { a with defers := { target := .collected w.heap.size, args := #[] } :: a.defers } W) :
    (Code.rangeFunc g ps assign body).wpIn Fence.wide 0 Tryz.prog Q a w := by
  refine wpIn_rangeFunc fun fn _ => ?_
  rw [wide_round]; obtain ⟨rec, hrec⟩ : ∃ rec : Loop, rec = { state := .ready, pending := none, fn, tmps := a.tmps, params := ps, assign, body, defers := w.heap.size } := ⟨_, rfl⟩; have hrs : rec.state = .ready := by rw [hrec]
  have hrp : rec.pending = none := by rw [hrec]
  obtain ⟨W1, hW1⟩ : ∃ W1, (w.alloc (.deferred (some []))).alloc (.loop rec) = W1 := ⟨_, rfl⟩
  have hL1 : W1.heap[w.heap.size + 1]? = some (.loop rec) := by
    rw [← hW1]; have := World.alloc_heap_new (w.alloc (.deferred (some []))) (.loop rec); rwa [World.size_alloc] at this
  have hK1 : W1.heap[w.heap.size]? = some (.deferred (some [])) := by
    rw [← hW1]; exact (Below.heap_alloc _ _ _ (by simp)).trans (World.alloc_heap_new w _)
  have hs1 : W1.heap.size = w.heap.size + 2 := by rw [← hW1]; simp
  have hqT : ∀ U A o, w.heap.size + 1 < U → BelR q I w.heap.size U A (A.putObj (w.heap.size + 1) o) := fun U A o hU => belR_put hI (fun k hk => by have := hq k hk; omega) (by omega) (by omega)
  have h1 : ∀ U, w.heap.size + 1 < U → J U 0 W1 := fun U hU => hJ U 0 _ _ hU (h0 U hU) (by rw [← hW1]; exact ext_toR (Below.two w _ _) hI hq)
  have e : resolve a.eval (rangeCall g (w.heap.size + 1)) 0 = Deferred.ofValue (a.eval g) #[.func (.yield (w.heap.size + 1)) #[] #[]] := by simp [resolve, Act.eval]
  refine ⟨w.heap.size + 1, [{ target := .collected w.heap.size, args := #[] }], W1, { target := .fn (.func f) caps, args := #[.func (.yield (w.heap.size + 1)) #[] #[]] }, W1, f, #[.func (.yield (w.heap.size + 1)) #[] #[]] ++ caps, W1, ?_, ?_, fun _ _ => trivial, ?_, by simp, ?_⟩
  · rw [← hW1, hrec]; exact run_enterLoop_outer _ _ _ _ _
  · rw [e, hg]; rfl
  · exact hF _ _
  refine (hgv (w.heap.size + 1)
    (fun U i W => J U i W ∧ W.heap[w.heap.size + 1]? = some (.loop rec) ∧ W.heap[w.heap.size]? = some (.deferred (some [])))
    (fun U W => (∃ c, Jx U c W ∧ W.heap[w.heap.size + 1]? = some (.loop { rec with state := .done, pending := some c })) ∧ W.heap[w.heap.size]? = some (.deferred (some [])))
    W1 (fun k hk => by have := hq k hk; omega) (fun U i W h => hK U i W h.1) ?_ ?_ ?_ (fun U hU => ⟨h1 U (by omega), hL1, hK1⟩)).mono ?_
  · rintro U i A B hU ⟨a1, a2, a3⟩ hb; exact ⟨hJ U i A B (by omega) a1 (hb.mono (by omega)), hb.obj (fun hk => by have := hq _ hk; omega) (by omega) a2, hb.obj (fun hk => by have := hq _ hk; omega) (by omega) a3⟩
  · rintro U A B hU ⟨⟨c, a1, a2⟩, a3⟩ hb; exact ⟨⟨c, hJx U c A B (by omega) a1 (hb.mono (by omega)), hb.obj (fun hk => by have := hq _ hk; omega) (by omega) a2⟩, hb.obj (fun hk => by have := hq _ hk; omega) (by omega) a3⟩
  · rintro U i hi W xs hU hUW ⟨a1, a2, a3⟩ harg; have hy := run_yield (P := Tryz.prog) (args := xs) a2 (by rw [hrec]; exact (hps U i xs W harg).symm); refine ⟨_, _, _, _, hy, ?_⟩
    have hr := hround U i hi W xs (by omega) hUW a1 harg ⟨_, a2⟩ (by omega); subst hrec; refine (round_ofU (H := W1.heap.size) hrs hrp (by omega : w.heap.size ≤ w.heap.size + 1) (by omega) (by omega : w.heap.size + 1 < U) a2 (fun A o h => hJ U (i + 1) A _ (by omega) h (hqT U A o (by omega))) (fun c A o h => hJx U c A _ (by omega) h (hqT U A o (by omega))) hr).mono ?_
    rintro e W2 ⟨k, ⟨e1, e2, e3, e4⟩ | ⟨e1, ⟨c, e2, e3⟩, e4⟩⟩
    · exact ⟨k, .inl ⟨e1, e2, e3, (e4 _ (Nat.le_refl _) (by omega) (by omega) (by omega)).trans a3⟩⟩
    · exact ⟨k, .inr ⟨e1, ⟨c, e2, e3⟩, (e4 _ (Nat.le_refl _) (by omega) (by omega) (by omega)).trans a3⟩⟩
  · rintro e W2 ⟨⟨v, rfl⟩, U, hU, ⟨a1, a2, a3⟩ | ⟨⟨c, a1, a2⟩, a3⟩⟩
    · have hE := run_endLoop (P := Tryz.prog) a2 (by rw [hrs]; simp); have hT := Turned.put W2 (w.heap.size + 1) (.loop { rec with state := .exhausted }); exact ⟨none, _, hE.trans (congrArg (fun p => Result.ok p (W2.putObj (w.heap.size + 1) (.loop { rec with state := .exhausted }))) hrp), hdone U _ (by omega) (hJ U _ _ _ (by omega) a1 (hqT U _ _ (by omega))) ((hT.block _ (by omega)).trans a3)⟩
    · have hE := run_endLoop (P := Tryz.prog) a2 (by simp); have hT := Turned.put W2 (w.heap.size + 1) (.loop { ({ rec with state := .done, pending := some c } : Loop) with state := .exhausted }); exact ⟨some c, _, hE, hstop U c _ (by omega) (hJx U _ _ _ (by omega) a1 (hqT U _ _ (by omega))) ((hT.block _ (by omega)).trans a3)⟩
theorem each_wpU {g : Operand} {ps : Array Tmp} {assign body : Code} {Q : Exit → Act → World → Prop} {a : Act} {w : World} {f : FuncId} {caps : Array Value} {q : Nat → Prop} {I : World → Prop} {n : Nat} {Arg : Nat → Nat → Array Value → World → Prop} {K : World → Prop}
    (hg : a.eval g = .func (.func f) #[] caps) (hF : FnOK f) (hps : ∀ U i xs W, Arg U i xs W → ps.size = xs.size) (hI : Inv q I) (hq : ∀ k, q k → k < w.heap.size) (J : Nat → Nat → World → Prop) (Jx : Nat → Code → World → Prop)
    (hgv : GivesU q I f caps n Arg K) (hK : ∀ U i W, J U i W → K W)
    (hJ : ∀ U i A B, w.heap.size + 1 < U → J U i A → BelR q I w.heap.size U A B → J U i B) (hJx : ∀ U c A B, w.heap.size + 1 < U → Jx U c A → BelR q I w.heap.size U A B → Jx U c B) (h0 : ∀ U, w.heap.size + 1 < U → J U 0 w)
    (hround : ∀ (U i : Nat) (h : i < n) (W : World) (xs : Array Value), w.heap.size + 1 < U → U ≤ W.heap.size → J U i W → Arg U i xs W → (∃ r, W.heap[w.heap.size + 1]? = some (.loop r)) → w.heap.size + 1 < W.heap.size →
      assign.wpIn (Fence.wide.inRound (w.heap.size + 1)) 0 Tryz.prog (Exit.then (fun a1 W1 => KeptU w.heap.size U W W1 ∧ ∀ W2, Turned (w.heap.size + 1) W1 W2 → (∃ r, W2.heap[w.heap.size + 1]? = some (.loop r)) →
        body.wpIn (Fence.wide.inRound (w.heap.size + 1)) 0 Tryz.prog (roundEndU w.heap.size U (J U (i + 1)) (Jx U) W2) a1 W2) (fun _ _ _ => False))
        { tmps := (ps.zip xs).foldl (fun t (p, v) => t.setIfInBounds p v) a.tmps, defers := [] } W)
    (hdone : ∀ U W, w.heap.size + 1 < U → J U n W → W.heap[w.heap.size]? = some (.deferred (some [])) → Q .normal { a with defers := { target := .collected w.heap.size, args := #[] } :: a.defers } W)
    (hstop : ∀ U c W, w.heap.size + 1 < U → Jx U c W → W.heap[w.heap.size]? = some (.deferred (some [])) → c.wp Tryz.prog Q { a with defers := { target := .collected w.heap.size, args := #[] } :: a.defers } W) :
    (Code.rangeFunc g ps assign body).wp Tryz.prog Q a w :=
  wpIn_wide.1 (each_outerU hg hF hps hI hq J Jx hgv hK hJ hJx h0 hround hdone (fun U c W hU h hd => wpIn_wide.2 (hstop U c W hU h hd)))
end Go.Proofs.YtegkdnfeceomdaaGreat
/- What goes through a list with a function, of package double: slices.IndexFunc, slices.ContainsFunc, all. Printed by gen_all.py. -/
namespace Go.Proofs.YtegkdnfeceomdaaGreat
open Go.RowKit Go.Hs
set_option maxHeartbeats 400000 in
theorem idx_dint (cap : Value) (a : Option Addr) (c : Nat) (us : List Value) (p : Nat → Bool) (I : Nat → World → Prop) (w : World)
    (hlen : us.length ≤ 140737488351232)
    (hrow : ∀ i w, I i w → Cells1 w a us)
    (hcall : ∀ i (h : i < us.length) w1, I i w1 → Calls Tryz.prog 120 #[us[i], cap] w1 fun e w2 => e = .returned (.bool (p i)) ∧ I (i + 1) w2)
    (h0 : I 0 w) :
    Calls Tryz.prog 157 #[.slice a us.length c, .func (.func 120) #[] #[cap]] w
      (IdxPost us.length p I) := by
  go_enter Tryz.func157, Tryz.ntmps157
  go_wp2
  go_loopw [4, 5, 8] (fun r j i wr => ∃ k : Nat, k ≤ us.length ∧ i = .int .i64 k ∧ (∀ m, m < k → p m = false) ∧ I k wr) (fun _ _ i _ => us.length - (intOf i).toNat)
  case atStart => exact ⟨0, Nat.zero_le _, rfl, fun m hm => absurd hm (Nat.not_lt_zero _), h0⟩
  case round =>
    obtain ⟨k, hk, rfl, hp, hI⟩ := hrel; by_cases hlt : k < us.length
    · obtain ⟨b, off, rfl, hc⟩ := hrow k wr hI k hlt; have hcell : wr.cell? ⟨b, off + k, none⟩ = some us[k] := hc; have hc0 := hcall k hlt wr hI; cases hpk : p k
      · rw [hpk] at hc0; clear hcall hrow; have HP := Lib.hid hpk; clear hpk; go_wp2_with ((with_reducible refine hc0.mono ?_); rintro e w2 ⟨rfl, hI2⟩)
        go_roundw
        case rel => exact ⟨k + 1, by omega, by go_num, fun m hm => by
          by_cases e : m = k
          · subst e; exact HP.out
          · exact hp m (by omega), hI2⟩
        case measure => simp [intOf]; omega
      · rw [hpk] at hc0; clear hcall hrow; have HP := Lib.hid hpk; clear hpk; have HP0 := Lib.hid hp; clear hp; go_wp2_with ((with_reducible refine hc0.mono ?_); rintro e w2 ⟨rfl, hI2⟩)
        go_ret; exact .inl ⟨k, hlt, HP.out, HP0.out, rfl, hI2⟩
    · have hk' : k = us.length := by omega
      subst hk'; have HP0 := Lib.hid hp; clear hp; clear hcall hrow; go_wp2
      go_ret; exact .inr ⟨HP0.out, rfl, hI⟩
set_option maxHeartbeats 400000 in
theorem cont_dint (cap : Value) (a : Option Addr) (c : Nat) (us : List Value) (p : Nat → Bool) (I : Nat → World → Prop) (w : World)
    (hlen : us.length ≤ 140737488351232)
    (hrow : ∀ i w, I i w → Cells1 w a us)
    (hcall : ∀ i (h : i < us.length) w1, I i w1 → Calls Tryz.prog 120 #[us[i], cap] w1 fun e w2 => e = .returned (.bool (p i)) ∧ I (i + 1) w2)
    (h0 : I 0 w) :
    Calls Tryz.prog 119 #[.slice a us.length c, .func (.func 120) #[] #[cap]] w
      (ContPost us.length p I) := by
  have hi := idx_dint cap a c us p I w hlen hrow hcall h0; clear hrow hcall h0; go_enter Tryz.func119, Tryz.ntmps119
  go_wp2_with ((with_reducible refine hi.mono ?_); rintro e w2 (⟨i, hi1, hi2, hi3, rfl, hi5⟩ | ⟨hi3, rfl, hi5⟩))
  · have H2 := Lib.hid hi2; clear hi2; have H3 := Lib.hid hi3; clear hi3; go_wp2
    go_ret; exact ContPost.yes hi1 H2.out (by simp) hi5
  · have H3 := Lib.hid hi3; clear hi3; go_wp2
    go_ret; exact ContPost.no H3.out (by simp) hi5
set_option maxHeartbeats 400000 in
theorem alls_dint (F : FuncId) (hF : FnOK F) (first caps : Array Value) (B : Nat) (x : Value) (r : Bool) (R : World → Prop) (w : World)
    (hcap : w.cell? ⟨B, 0, none⟩ = some (.func (.func F) first caps))
    (hcall : Calls Tryz.prog F (first.push x ++ caps) w fun e w2 => e = .returned (.bool r) ∧ R w2) :
    Calls Tryz.prog 120 #[x, .pointer (some ⟨B, 0, none⟩)] w fun e w2 => e = .returned (.bool (!r)) ∧ R w2 := by
  unfold FnOK at hF; go_enter Tryz.func120, Tryz.ntmps120
  go_wp2_with ((with_reducible refine hcall.mono ?_); rintro e w2 ⟨rfl, hR⟩)
  go_ret; exact ⟨rfl, hR⟩
set_option maxHeartbeats 400000 in
theorem all_dint (F : FuncId) (hF : FnOK F) (first caps : Array Value) (a : Option Addr) (c : Nat) (us : List Value) (q : Nat → Bool) (I : Nat → World → Prop) (w : World)
    (hlen : us.length ≤ 140737488351232)
    (hrow : ∀ i w, I i w → Cells1 w a us)
    (hal : ∀ i w o, I i w → I i (w.alloc o))
    (hcall : ∀ i (h : i < us.length) w1, w.heap.size ≤ w1.heap.size → I i w1 → Calls Tryz.prog F (first.push us[i] ++ caps) w1 fun e w2 => e = .returned (.bool (q i)) ∧ I (i + 1) w2 ∧ Kept w.heap.size w1 w2)
    (h0 : I 0 w) :
    Calls Tryz.prog 63 #[.slice a us.length c, .func (.func F) first caps] w
      (AllPost us.length q I) := by
  have hi := cont_dint (.pointer (some ⟨w.heap.size, 0, none⟩)) a c us (fun i => !q i) (AllInv w (.func (.func F) first caps) I) (w.alloc (.cells #[.func (.func F) first caps] 131)) hlen
    (fun i w1 h => hrow i w1 h.inv)
    (fun i h w1 hI => alls_dint F hF first caps w.heap.size us[i] (q i) _ w1 hI.cell ((hcall i h w1 (Nat.le_trans (Nat.le_of_lt hI.size) (Ext.refl w1).size) hI.inv).mono fun e w3 h3 => ⟨h3.1, AllInv.next hI (Ext.refl w1) h3.2.1 h3.2.2⟩))
    ⟨by simp, by simp, hal _ _ _ h0⟩
  clear hrow hcall h0 hal; go_enter Tryz.func63, Tryz.ntmps63
  go_wp2_with ((with_reducible refine hi.mono ?_); rintro e w2 ⟨i, hi1, hi2, rfl⟩)
  go_ret; exact ⟨i, hi1, hi2.inv, ret_bool (by simp [allB, anyB, List.not_all_eq_any_not])⟩
theorem allx_dint (F : FuncId) (hF : FnOK F) (first caps : Array Value) (a : Option Addr) (c : Nat) (us : List Value) (q : Nat → Bool) (w : World)
    (hlen : us.length ≤ 140737488351232) (hrow : Cells1 w a us)
    (hcall : ∀ i (h : i < us.length) w1, Ext w w1 → Calls Tryz.prog F (first.push us[i] ++ caps) w1 fun e w2 => e = .returned (.bool (q i)) ∧ Ext w1 w2) :
    Calls Tryz.prog 63 #[.slice a us.length c, .func (.func F) first caps] w fun e w' => e = .returned (.bool (allB us.length q)) ∧ Ext w w' :=
  (all_dint F hF first caps a c us q (fun _ w' => Ext w w') w hlen (fun _ _ h => hrow.ext h) (fun _ _ o h => h.alloc o)
    (fun i h w1 _ hI => (hcall i h w1 hI).mono fun _ _ h2 => ⟨h2.1, hI.trans h2.2, h2.2.kept _⟩) (Ext.refl w)).mono fun _ _ ⟨_, _, hI, he⟩ => ⟨he, hI⟩
set_option maxHeartbeats 400000 in
theorem idx_cov (cap : Value) (a : Option Addr) (c : Nat) (us : List V7) (p : Nat → Bool) (I : Nat → World → Prop) (w : World)
    (hlen : us.length ≤ 140737488351232)
    (hrow : ∀ i w, I i w → Cells7 w a us)
    (hcall : ∀ i (h : i < us.length) w1, I i w1 → Calls Tryz.prog 143 #[us[i].val, cap] w1 fun e w2 => e = .returned (.bool (p i)) ∧ I (i + 1) w2)
    (h0 : I 0 w) :
    Calls Tryz.prog 172 #[.slice a us.length c, .func (.func 143) #[] #[cap]] w
      (IdxPost us.length p I) := by
  go_enter Tryz.func172, Tryz.ntmps172
  go_wp2
  go_loopw [4, 5, 8] (fun r j i wr => ∃ k : Nat, k ≤ us.length ∧ i = .int .i64 k ∧ (∀ m, m < k → p m = false) ∧ I k wr) (fun _ _ i _ => us.length - (intOf i).toNat)
  case atStart => exact ⟨0, Nat.zero_le _, rfl, fun m hm => absurd hm (Nat.not_lt_zero _), h0⟩
  case round =>
    obtain ⟨k, hk, rfl, hp, hI⟩ := hrel; by_cases hlt : k < us.length
    · obtain ⟨b, off, rfl, g0, g1, g2, g3, g4, g5, g6⟩ := hrow k wr hI k hlt; have hc0 := hcall k hlt wr hI; cases hpk : p k
      · rw [hpk] at hc0; clear hcall hrow; have HP := Lib.hid hpk; clear hpk; go_wp2_with ((with_reducible refine hc0.mono ?_); rintro e w2 ⟨rfl, hI2⟩)
        go_roundw
        case rel => exact ⟨k + 1, by omega, by go_num, fun m hm => by
          by_cases e : m = k
          · subst e; exact HP.out
          · exact hp m (by omega), hI2⟩
        case measure => simp [intOf]; omega
      · rw [hpk] at hc0; clear hcall hrow; have HP := Lib.hid hpk; clear hpk; have HP0 := Lib.hid hp; clear hp; go_wp2_with ((with_reducible refine hc0.mono ?_); rintro e w2 ⟨rfl, hI2⟩)
        go_ret; exact .inl ⟨k, hlt, HP.out, HP0.out, rfl, hI2⟩
    · have hk' : k = us.length := by omega
      subst hk'; have HP0 := Lib.hid hp; clear hp; clear hcall hrow; go_wp2
      go_ret; exact .inr ⟨HP0.out, rfl, hI⟩
set_option maxHeartbeats 400000 in
theorem cont_cov (cap : Value) (a : Option Addr) (c : Nat) (us : List V7) (p : Nat → Bool) (I : Nat → World → Prop) (w : World)
    (hlen : us.length ≤ 140737488351232)
    (hrow : ∀ i w, I i w → Cells7 w a us)
    (hcall : ∀ i (h : i < us.length) w1, I i w1 → Calls Tryz.prog 143 #[us[i].val, cap] w1 fun e w2 => e = .returned (.bool (p i)) ∧ I (i + 1) w2)
    (h0 : I 0 w) :
    Calls Tryz.prog 142 #[.slice a us.length c, .func (.func 143) #[] #[cap]] w
      (ContPost us.length p I) := by
  have hi := idx_cov cap a c us p I w hlen hrow hcall h0; clear hrow hcall h0; go_enter Tryz.func142, Tryz.ntmps142
  go_wp2_with ((with_reducible refine hi.mono ?_); rintro e w2 (⟨i, hi1, hi2, hi3, rfl, hi5⟩ | ⟨hi3, rfl, hi5⟩))
  · have H2 := Lib.hid hi2; clear hi2; have H3 := Lib.hid hi3; clear hi3; go_wp2
    go_ret; exact ContPost.yes hi1 H2.out (by simp) hi5
  · have H3 := Lib.hid hi3; clear hi3; go_wp2
    go_ret; exact ContPost.no H3.out (by simp) hi5
set_option maxHeartbeats 400000 in
theorem alls_cov (F : FuncId) (hF : FnOK F) (first caps : Array Value) (B : Nat) (x : V7) (r : Bool) (R : World → Prop) (w : World)
    (hcap : w.cell? ⟨B, 0, none⟩ = some (.func (.func F) first caps))
    (hcall : Calls Tryz.prog F (first.push x.val ++ caps) (w.alloc (.cells #[x.c0, x.c1, x.c2, x.c3, x.c4, x.c5, x.c6] 127)) fun e w2 => e = .returned (.bool r) ∧ R w2) :
    Calls Tryz.prog 143 #[x.val, .pointer (some ⟨B, 0, none⟩)] w fun e w2 => e = .returned (.bool (!r)) ∧ R w2 := by
  unfold FnOK at hF; have hB : B < w.heap.size := lt_of_cell hcap; go_enter Tryz.func143, Tryz.ntmps143
  go_wp2_with ((with_reducible refine hcall.mono ?_); rintro e w2 ⟨rfl, hR⟩)
  go_ret; exact ⟨rfl, hR⟩
set_option maxHeartbeats 400000 in
theorem all_cov (F : FuncId) (hF : FnOK F) (first caps : Array Value) (a : Option Addr) (c : Nat) (us : List V7) (q : Nat → Bool) (I : Nat → World → Prop) (w : World)
    (hlen : us.length ≤ 140737488351232)
    (hrow : ∀ i w, I i w → Cells7 w a us)
    (hal : ∀ i w o, I i w → I i (w.alloc o))
    (hcall : ∀ i (h : i < us.length) w1, w.heap.size ≤ w1.heap.size → I i w1 → Calls Tryz.prog F (first.push us[i].val ++ caps) w1 fun e w2 => e = .returned (.bool (q i)) ∧ I (i + 1) w2 ∧ Kept w.heap.size w1 w2)
    (h0 : I 0 w) :
    Calls Tryz.prog 84 #[.slice a us.length c, .func (.func F) first caps] w
      (AllPost us.length q I) := by
  have hi := cont_cov (.pointer (some ⟨w.heap.size, 0, none⟩)) a c us (fun i => !q i) (AllInv w (.func (.func F) first caps) I) (w.alloc (.cells #[.func (.func F) first caps] 148)) hlen
    (fun i w1 h => hrow i w1 h.inv)
    (fun i h w1 hI => alls_cov F hF first caps w.heap.size us[i] (q i) _ w1 hI.cell ((hcall i h (w1.alloc (.cells #[us[i].c0, us[i].c1, us[i].c2, us[i].c3, us[i].c4, us[i].c5, us[i].c6] 127)) (Nat.le_trans (Nat.le_of_lt hI.size) ((Ext.refl w1).alloc (.cells #[us[i].c0, us[i].c1, us[i].c2, us[i].c3, us[i].c4, us[i].c5, us[i].c6] 127)).size) (hal _ _ _ hI.inv)).mono fun e w3 h3 => ⟨h3.1, AllInv.next hI ((Ext.refl w1).alloc (.cells #[us[i].c0, us[i].c1, us[i].c2, us[i].c3, us[i].c4, us[i].c5, us[i].c6] 127)) h3.2.1 h3.2.2⟩))
    ⟨by simp, by simp, hal _ _ _ h0⟩
  clear hrow hcall h0 hal; go_enter Tryz.func84, Tryz.ntmps84
  go_wp2_with ((with_reducible refine hi.mono ?_); rintro e w2 ⟨i, hi1, hi2, rfl⟩)
  go_ret; exact ⟨i, hi1, hi2.inv, ret_bool (by simp [allB, anyB, List.not_all_eq_any_not])⟩
theorem allx_cov (F : FuncId) (hF : FnOK F) (first caps : Array Value) (a : Option Addr) (c : Nat) (us : List V7) (q : Nat → Bool) (w : World)
    (hlen : us.length ≤ 140737488351232) (hrow : Cells7 w a us)
    (hcall : ∀ i (h : i < us.length) w1, Ext w w1 → Calls Tryz.prog F (first.push us[i].val ++ caps) w1 fun e w2 => e = .returned (.bool (q i)) ∧ Ext w1 w2) :
    Calls Tryz.prog 84 #[.slice a us.length c, .func (.func F) first caps] w fun e w' => e = .returned (.bool (allB us.length q)) ∧ Ext w w' :=
  (all_cov F hF first caps a c us q (fun _ w' => Ext w w') w hlen (fun _ _ h => hrow.ext h) (fun _ _ o h => h.alloc o)
    (fun i h w1 _ hI => (hcall i h w1 hI).mono fun _ _ h2 => ⟨h2.1, hI.trans h2.2, h2.2.kept _⟩) (Ext.refl w)).mono fun _ _ ⟨_, _, hI, he⟩ => ⟨he, hI⟩
set_option maxHeartbeats 400000 in
theorem idx_clm (cap : Value) (a : Option Addr) (c : Nat) (us : List V3) (p : Nat → Bool) (I : Nat → World → Prop) (w : World)
    (hlen : us.length ≤ 140737488351232)
    (hrow : ∀ i w, I i w → Cells3 w a us)
    (hcall : ∀ i (h : i < us.length) w1, I i w1 → Calls Tryz.prog 130 #[us[i].val, cap] w1 fun e w2 => e = .returned (.bool (p i)) ∧ I (i + 1) w2)
    (h0 : I 0 w) :
    Calls Tryz.prog 165 #[.slice a us.length c, .func (.func 130) #[] #[cap]] w
      (IdxPost us.length p I) := by
  go_enter Tryz.func165, Tryz.ntmps165
  go_wp2
  go_loopw [4, 5, 8] (fun r j i wr => ∃ k : Nat, k ≤ us.length ∧ i = .int .i64 k ∧ (∀ m, m < k → p m = false) ∧ I k wr) (fun _ _ i _ => us.length - (intOf i).toNat)
  case atStart => exact ⟨0, Nat.zero_le _, rfl, fun m hm => absurd hm (Nat.not_lt_zero _), h0⟩
  case round =>
    obtain ⟨k, hk, rfl, hp, hI⟩ := hrel; by_cases hlt : k < us.length
    · obtain ⟨b, off, rfl, g0, g1, g2⟩ := hrow k wr hI k hlt; have hc0 := hcall k hlt wr hI; cases hpk : p k
      · rw [hpk] at hc0; clear hcall hrow; have HP := Lib.hid hpk; clear hpk; go_wp2_with ((with_reducible refine hc0.mono ?_); rintro e w2 ⟨rfl, hI2⟩)
        go_roundw
        case rel => exact ⟨k + 1, by omega, by go_num, fun m hm => by
          by_cases e : m = k
          · subst e; exact HP.out
          · exact hp m (by omega), hI2⟩
        case measure => simp [intOf]; omega
      · rw [hpk] at hc0; clear hcall hrow; have HP := Lib.hid hpk; clear hpk; have HP0 := Lib.hid hp; clear hp; go_wp2_with ((with_reducible refine hc0.mono ?_); rintro e w2 ⟨rfl, hI2⟩)
        go_ret; exact .inl ⟨k, hlt, HP.out, HP0.out, rfl, hI2⟩
    · have hk' : k = us.length := by omega
      subst hk'; have HP0 := Lib.hid hp; clear hp; clear hcall hrow; go_wp2
      go_ret; exact .inr ⟨HP0.out, rfl, hI⟩
set_option maxHeartbeats 400000 in
theorem cont_clm (cap : Value) (a : Option Addr) (c : Nat) (us : List V3) (p : Nat → Bool) (I : Nat → World → Prop) (w : World)
    (hlen : us.length ≤ 140737488351232)
    (hrow : ∀ i w, I i w → Cells3 w a us)
    (hcall : ∀ i (h : i < us.length) w1, I i w1 → Calls Tryz.prog 130 #[us[i].val, cap] w1 fun e w2 => e = .returned (.bool (p i)) ∧ I (i + 1) w2)
    (h0 : I 0 w) :
    Calls Tryz.prog 129 #[.slice a us.length c, .func (.func 130) #[] #[cap]] w
      (ContPost us.length p I) := by
  have hi := idx_clm cap a c us p I w hlen hrow hcall h0; clear hrow hcall h0; go_enter Tryz.func129, Tryz.ntmps129
  go_wp2_with ((with_reducible refine hi.mono ?_); rintro e w2 (⟨i, hi1, hi2, hi3, rfl, hi5⟩ | ⟨hi3, rfl, hi5⟩))
  · have H2 := Lib.hid hi2; clear hi2; have H3 := Lib.hid hi3; clear hi3; go_wp2
    go_ret; exact ContPost.yes hi1 H2.out (by simp) hi5
  · have H3 := Lib.hid hi3; clear hi3; go_wp2
    go_ret; exact ContPost.no H3.out (by simp) hi5
set_option maxHeartbeats 400000 in
theorem alls_clm (F : FuncId) (hF : FnOK F) (first caps : Array Value) (B : Nat) (x : V3) (r : Bool) (R : World → Prop) (w : World)
    (hcap : w.cell? ⟨B, 0, none⟩ = some (.func (.func F) first caps))
    (hcall : Calls Tryz.prog F (first.push x.val ++ caps) (w.alloc (.cells #[x.c0, x.c1, x.c2] 121)) fun e w2 => e = .returned (.bool r) ∧ R w2) :
    Calls Tryz.prog 130 #[x.val, .pointer (some ⟨B, 0, none⟩)] w fun e w2 => e = .returned (.bool (!r)) ∧ R w2 := by
  unfold FnOK at hF; have hB : B < w.heap.size := lt_of_cell hcap; go_enter Tryz.func130, Tryz.ntmps130
  go_wp2_with ((with_reducible refine hcall.mono ?_); rintro e w2 ⟨rfl, hR⟩)
  go_ret; exact ⟨rfl, hR⟩
set_option maxHeartbeats 400000 in
theorem all_clm (F : FuncId) (hF : FnOK F) (first caps : Array Value) (a : Option Addr) (c : Nat) (us : List V3) (q : Nat → Bool) (I : Nat → World → Prop) (w : World)
    (hlen : us.length ≤ 140737488351232)
    (hrow : ∀ i w, I i w → Cells3 w a us)
    (hal : ∀ i w o, I i w → I i (w.alloc o))
    (hcall : ∀ i (h : i < us.length) w1, w.heap.size ≤ w1.heap.size → I i w1 → Calls Tryz.prog F (first.push us[i].val ++ caps) w1 fun e w2 => e = .returned (.bool (q i)) ∧ I (i + 1) w2 ∧ Kept w.heap.size w1 w2)
    (h0 : I 0 w) :
    Calls Tryz.prog 72 #[.slice a us.length c, .func (.func F) first caps] w
      (AllPost us.length q I) := by
  have hi := cont_clm (.pointer (some ⟨w.heap.size, 0, none⟩)) a c us (fun i => !q i) (AllInv w (.func (.func F) first caps) I) (w.alloc (.cells #[.func (.func F) first caps] 144)) hlen
    (fun i w1 h => hrow i w1 h.inv)
    (fun i h w1 hI => alls_clm F hF first caps w.heap.size us[i] (q i) _ w1 hI.cell ((hcall i h (w1.alloc (.cells #[us[i].c0, us[i].c1, us[i].c2] 121)) (Nat.le_trans (Nat.le_of_lt hI.size) ((Ext.refl w1).alloc (.cells #[us[i].c0, us[i].c1, us[i].c2] 121)).size) (hal _ _ _ hI.inv)).mono fun e w3 h3 => ⟨h3.1, AllInv.next hI ((Ext.refl w1).alloc (.cells #[us[i].c0, us[i].c1, us[i].c2] 121)) h3.2.1 h3.2.2⟩))
    ⟨by simp, by simp, hal _ _ _ h0⟩
  clear hrow hcall h0 hal; go_enter Tryz.func72, Tryz.ntmps72
  go_wp2_with ((with_reducible refine hi.mono ?_); rintro e w2 ⟨i, hi1, hi2, rfl⟩)
  go_ret; exact ⟨i, hi1, hi2.inv, ret_bool (by simp [allB, anyB, List.not_all_eq_any_not])⟩
theorem allx_clm (F : FuncId) (hF : FnOK F) (first caps : Array Value) (a : Option Addr) (c : Nat) (us : List V3) (q : Nat → Bool) (w : World)
    (hlen : us.length ≤ 140737488351232) (hrow : Cells3 w a us)
    (hcall : ∀ i (h : i < us.length) w1, Ext w w1 → Calls Tryz.prog F (first.push us[i].val ++ caps) w1 fun e w2 => e = .returned (.bool (q i)) ∧ Ext w1 w2) :
    Calls Tryz.prog 72 #[.slice a us.length c, .func (.func F) first caps] w fun e w' => e = .returned (.bool (allB us.length q)) ∧ Ext w w' :=
  (all_clm F hF first caps a c us q (fun _ w' => Ext w w') w hlen (fun _ _ h => hrow.ext h) (fun _ _ o h => h.alloc o)
    (fun i h w1 _ hI => (hcall i h w1 hI).mono fun _ _ h2 => ⟨h2.1, hI.trans h2.2, h2.2.kept _⟩) (Ext.refl w)).mono fun _ _ ⟨_, _, hI, he⟩ => ⟨he, hI⟩
end Go.Proofs.YtegkdnfeceomdaaGreat
/- Contracts of layer 8: the small functions on a case. Printed by gen_sf.py. -/
namespace Go.Proofs.YtegkdnfeceomdaaGreat
open Go.RowKit Go.Hs
attribute [local irreducible] World.setCell World.alloc
set_option maxHeartbeats 400000 in
theorem of_d (lo hi high : Int) (w : World) :
    Calls Tryz.prog 83 #[.agg #[.int .i64 lo, .int .i64 hi], .int .i64 high] w fun e w' => e = .returned (.bool (ofR lo hi high)) ∧ Ext w w' := by
  by_cases h1 : 0 ≤ lo
  · by_cases h2 : lo ≤ hi
    · have HR : Hid (ofR lo hi high = decide (hi ≤ high)) := Lib.hid (by unfold ofR; rw [decide_eq_true h1, decide_eq_true h2]; rfl); rw [HR.out]; go_enter Tryz.func83, Tryz.ntmps83
      (go_wp2_with fail); go_ret; exact ⟨rfl, by (repeat (first | exact Ext.refl _ | with_reducible (first | assumption | refine Ext.drew ?_ | refine Ext.alloc ?_ _ | refine Ext.drewN ?_ _ | refine Ext.setCell ?_ (by omega) _ | refine Ext.trans ?_ (by assumption))))⟩
    · have HR : Hid (ofR lo hi high = false) := Lib.hid (by unfold ofR; rw [decide_eq_false h2]; simp); rw [HR.out]; have h2' : decide (lo ≤ hi) = false := decide_eq_false h2; go_enter Tryz.func83, Tryz.ntmps83
      (go_wp2_with fail); go_ret; exact ⟨rfl, by (repeat (first | exact Ext.refl _ | with_reducible (first | assumption | refine Ext.drew ?_ | refine Ext.alloc ?_ _ | refine Ext.drewN ?_ _ | refine Ext.setCell ?_ (by omega) _ | refine Ext.trans ?_ (by assumption))))⟩
  · have HR : Hid (ofR lo hi high = false) := Lib.hid (by unfold ofR; rw [decide_eq_false h1]; simp); rw [HR.out]; have h1' : decide (0 ≤ lo) = false := decide_eq_false h1; go_enter Tryz.func83, Tryz.ntmps83
    (go_wp2_with fail); go_ret; exact ⟨rfl, by (repeat (first | exact Ext.refl _ | with_reducible (first | assumption | refine Ext.drew ?_ | refine Ext.alloc ?_ _ | refine Ext.drewN ?_ _ | refine Ext.setCell ?_ (by omega) _ | refine Ext.trans ?_ (by assumption))))⟩
set_option maxRecDepth 100000 in
set_option maxHeartbeats 4000000 in
theorem isDay_d (A : CaseA) (c : DCas) (n : Int) (w : World) :
    Calls Tryz.prog 81 #[A.v c, .int .i64 n] w fun e w' => e = .returned (.bool (dayB c.bk n)) ∧ Ext w w' := by
  have HW := Lib.hid (within_d n 0 c.bk.last); have HE : Hid (dayB c.bk n = inR n 0 c.bk.last) := rfl; generalize dayB c.bk n = r at *; generalize inR n 0 c.bk.last = r2 at *; obtain rfl := HE.out; clear HE; unfold CaseA.v caseV; obtain ⟨a1, c1, a2, c2, a3, c3, a4, c4⟩ := A; generalize c.bk.pars.length = n1 at *; generalize c.bk.ents.length = n2 at *; generalize c.covs.length = n3 at *; generalize c.clms.length = n4 at *; generalize c.bk.last = last at *; generalize c.bk.owners = owners at *; generalize c.soc = soc at *; generalize c.day = day at *; generalize c.parcel = parcel at *; generalize c.llo = llo at *; generalize c.lhi = lhi at *; have XX : Ext w w := Ext.refl w; go_enter Tryz.func81, Tryz.ntmps81
  (go_wp2_with fail); (with_reducible refine (HW.out _).mono ?_); rintro e w1 ⟨rfl, hx⟩; have hy : Ext w w1 := by (repeat (first | exact Ext.refl _ | with_reducible (first | assumption | refine Ext.drew ?_ | refine Ext.alloc ?_ _ | refine Ext.drewN ?_ _ | refine Ext.setCell ?_ (by omega) _ | refine Ext.trans ?_ (by assumption))))
  replace XX := XX.trans hy; clear hx hy; (go_wp2_with fail); go_ret; exact ⟨rfl, XX⟩
set_option maxRecDepth 100000 in
set_option maxHeartbeats 4000000 in
theorem isSoc_d (A : CaseA) (c : DCas) (n : Int) (w : World) (hs : 1 ≤ c.soc ∧ c.soc ≤ 3) :
    Calls Tryz.prog 115 #[A.v c, .int .i64 n] w fun e w' => e = .returned (.bool (socB c n)) ∧ Ext w w' := by
  have HW := Lib.hid (within_d n 0 (c.soc - 1)); have hw : IntKind.i64.wrap (c.soc - 1) = c.soc - 1 := IntWalk.i64_in _ (by omega); have HE : Hid (socB c n = inR n 0 (c.soc - 1)) := rfl; generalize socB c n = r at *; generalize inR n 0 (c.soc - 1) = r2 at *; obtain rfl := HE.out; clear HE; unfold CaseA.v caseV; obtain ⟨a1, c1, a2, c2, a3, c3, a4, c4⟩ := A; generalize c.bk.pars.length = n1 at *; generalize c.bk.ents.length = n2 at *; generalize c.covs.length = n3 at *; generalize c.clms.length = n4 at *; generalize c.bk.last = last at *; generalize c.bk.owners = owners at *; generalize c.soc = soc at *; generalize c.day = day at *; generalize c.parcel = parcel at *; generalize c.llo = llo at *; generalize c.lhi = lhi at *; clear hs; have XX : Ext w w := Ext.refl w; go_enter Tryz.func115, Tryz.ntmps115
  (go_wp2_with fail); (with_reducible refine (HW.out _).mono ?_); rintro e w1 ⟨rfl, hx⟩; have hy : Ext w w1 := by (repeat (first | exact Ext.refl _ | with_reducible (first | assumption | refine Ext.drew ?_ | refine Ext.alloc ?_ _ | refine Ext.drewN ?_ _ | refine Ext.setCell ?_ (by omega) _ | refine Ext.trans ?_ (by assumption))))
  replace XX := XX.trans hy; clear hx hy; (go_wp2_with fail); go_ret; exact ⟨rfl, XX⟩
set_option maxRecDepth 100000 in
set_option maxHeartbeats 4000000 in
theorem numbers_d (A : CaseA) (c : DCas) (w : World) (hm : CaseM w A c) :
    Calls Tryz.prog 141 #[A.v c] w fun e w' => e = .returned (.int .i64 (numsB c.bk)) ∧ Ext w w' := by
  have HC : Hid (∀ W, Ext w W → Cells8 W A.a2 (c.bk.ents.map Ent.c)) := Lib.hid (fun W hx => hm.ents.ext hx); have hl1 := hm.l1.2; have hl2 := hm.l2.2; have HY := Lib.hid (fun k h hk => numsTo_yes (b := c.bk) (k := k) h hk); have HN := Lib.hid (fun k h hk => numsTo_no (b := c.bk) (k := k) h hk); have HL := Lib.hid (numsTo_le c.bk); have HZ : Hid (numsTo c.bk 0 = c.bk.pars.length) := Lib.hid (by simp [numsTo]); have HA : Hid (numsB c.bk = numsTo c.bk c.bk.ents.length) := rfl; clear hm; unfold CaseA.v caseV; obtain ⟨a1, c1, a2, c2, a3, c3, a4, c4⟩ := A; generalize c.covs.length = n3 at *; generalize c.clms.length = n4 at *; generalize c.bk.last = last at *; generalize c.bk.owners = owners at *; generalize c.soc = soc at *; generalize c.day = day at *; generalize c.parcel = parcel at *; generalize c.llo = llo at *; generalize c.lhi = lhi at *; generalize c.bk = b at *; go_enter Tryz.func141, Tryz.ntmps141
  (go_wp2_with fail); go_loopw [3, 14] (fun s3 s12 wr => ∃ k : Nat, k ≤ b.ents.length ∧ s12 = .int .i64 k ∧ s3 = .int .i64 (numsTo b k) ∧ Ext w wr) (fun _ s _ => b.ents.length - (intOf s).toNat)
  case atStart => exact ⟨0, Nat.zero_le _, rfl, by rw [HZ.out], by (repeat (first | exact Ext.refl _ | with_reducible (first | assumption | refine Ext.drew ?_ | refine Ext.alloc ?_ _ | refine Ext.drewN ?_ _ | refine Ext.setCell ?_ (by omega) _ | refine Ext.trans ?_ (by assumption))))⟩
  case round =>
    obtain ⟨k, hk, rfl, rfl, hx⟩ := hrel; obtain ⟨wo, rfl⟩ : ∃ x, x = wr := ⟨_, rfl⟩; by_cases hlt : k < b.ents.length
    · obtain ⟨b', off, rfl, hce⟩ := HC.out wo hx k (by simpa using hlt); have e1 : (b.ents.map Ent.c)[k]'(by simpa using hlt) = (b.ents[k]).c := by simp
      rw [e1] at hce; obtain ⟨m0, m1, m2, m3, m4, m5, m6, m7⟩ := hce; simp only [Ent.c] at m0 m1 m2 m3 m4 m5 m6 m7; clear e1; have hle := HL.out k; have hk0 : (0 : Int) ≤ (k : Int) := by omega
      have hk1 : (k : Int) < (b.ents.length : Int) := by omega
      have hw : IntKind.i64.wrap ((numsTo b k : Int) + 1) = (numsTo b k : Int) + 1 := IntWalk.i64_in _ (by omega); by_cases hq : b.ents[k].kind = 1
      · have HS := Lib.hid (HY.out k hlt hq); have hd : (b.ents[k].kind == 1) = true := by rw [beq_iff_eq]; exact hq
        rw [hq] at m0; clear hq hd; (go_wp2_with fail); go_roundw
        case rel => exact ⟨k + 1, by omega, by go_num, by rw [HS.out]; go_num, by (repeat (first | exact Ext.refl _ | with_reducible (first | assumption | refine Ext.drew ?_ | refine Ext.alloc ?_ _ | refine Ext.drewN ?_ _ | refine Ext.setCell ?_ (by omega) _ | refine Ext.trans ?_ (by assumption))))⟩
        case measure => simp [intOf]; omega
      · have HS := Lib.hid (HN.out k hlt hq); have hd : (b.ents[k].kind == 1) = false := by rw [beq_eq_false_iff_ne]; exact hq
        (go_wp2_with fail); go_roundw
        case rel => exact ⟨k + 1, by omega, by go_num, by rw [HS.out], by (repeat (first | exact Ext.refl _ | with_reducible (first | assumption | refine Ext.drew ?_ | refine Ext.alloc ?_ _ | refine Ext.drewN ?_ _ | refine Ext.setCell ?_ (by omega) _ | refine Ext.trans ?_ (by assumption))))⟩
        case measure => simp [intOf]; omega
    · obtain rfl : k = b.ents.length := by omega
      (go_wp2_with fail); go_ret; exact ⟨by rw [HA.out]; rfl, hx⟩
set_option maxRecDepth 100000 in
set_option maxHeartbeats 4000000 in
theorem isPar_d (A : CaseA) (c : DCas) (n : Int) (w : World) (hm : CaseM w A c) :
    Calls Tryz.prog 82 #[A.v c, .int .i64 n] w fun e w' => e = .returned (.bool (numberB c.bk n)) ∧ Ext w w' := by
  have HN := Lib.hid (fun W (hx : Ext w W) => numbers_d A c W (hm.ext hx)); have HW := Lib.hid (within_d n 0 ((numsB c.bk : Int) - 1)); have HE : Hid (numberB c.bk n = inR n 0 ((numsB c.bk : Int) - 1)) := rfl; have hle : numsB c.bk ≤ c.bk.pars.length + c.bk.ents.length := numsTo_le c.bk _; have hl1 := hm.l1.2; have hl2 := hm.l2.2; have hw : IntKind.i64.wrap ((numsB c.bk : Int) - 1) = (numsB c.bk : Int) - 1 := IntWalk.i64_in _ (by omega); clear hm; generalize numberB c.bk n = r at *; generalize numsB c.bk = nn at *; generalize inR n 0 ((nn : Int) - 1) = r2 at *; obtain rfl := HE.out; clear HE; unfold CaseA.v caseV at *; obtain ⟨a1, c1, a2, c2, a3, c3, a4, c4⟩ := A; generalize c.bk.pars.length = n1 at *; generalize c.bk.ents.length = n2 at *; generalize c.covs.length = n3 at *; generalize c.clms.length = n4 at *; generalize c.bk.last = last at *; generalize c.bk.owners = owners at *; generalize c.soc = soc at *; generalize c.day = day at *; generalize c.parcel = parcel at *; generalize c.llo = llo at *; generalize c.lhi = lhi at *; have XX : Ext w w := Ext.refl w; go_enter Tryz.func82, Tryz.ntmps82
  (go_wp2_with fail); (with_reducible refine (HN.out _ (by (repeat (first | exact Ext.refl _ | with_reducible (first | assumption | refine Ext.drew ?_ | refine Ext.alloc ?_ _ | refine Ext.drewN ?_ _ | refine Ext.setCell ?_ (by omega) _ | refine Ext.trans ?_ (by assumption)))))).mono ?_); rintro e w1 ⟨rfl, hx⟩; have hy : Ext w w1 := by (repeat (first | exact Ext.refl _ | with_reducible (first | assumption | refine Ext.drew ?_ | refine Ext.alloc ?_ _ | refine Ext.drewN ?_ _ | refine Ext.setCell ?_ (by omega) _ | refine Ext.trans ?_ (by assumption))))
  replace XX := XX.trans hy; clear hx hy; (go_wp2_with fail); (with_reducible refine (HW.out _).mono ?_); rintro e w2 ⟨rfl, hx⟩; have hy : Ext w1 w2 := by (repeat (first | exact Ext.refl _ | with_reducible (first | assumption | refine Ext.drew ?_ | refine Ext.alloc ?_ _ | refine Ext.drewN ?_ _ | refine Ext.setCell ?_ (by omega) _ | refine Ext.trans ?_ (by assumption))))
  replace XX := XX.trans hy; clear hx hy; (go_wp2_with fail); go_ret; exact ⟨rfl, XX⟩
set_option maxRecDepth 100000 in
set_option maxHeartbeats 4000000 in
theorem cover_d (A : CaseA) (c : DCas) (x : Cov) (w : World) (hm : CaseM w A c) (hs : 1 ≤ c.soc ∧ c.soc ≤ 3) (ho : 1 ≤ c.bk.owners ∧ c.bk.owners ≤ 4) :
    Calls Tryz.prog 78 #[A.v c, x.c.val] w fun e w' => e = .returned (.bool (covB c x)) ∧ Ext w w' := by
  have HE : Hid (covB c x = (socB c x.soc && (inR x.owner 0 (c.bk.owners - 1) && (numberB c.bk x.parcel && (inR x.sum 0 1000 && (dayB c.bk x.till && ofR x.slo x.shi c.bk.last)))))) := rfl; have hw : IntKind.i64.wrap (c.bk.owners - 1) = c.bk.owners - 1 := IntWalk.i64_in _ (by omega); have H1 := Lib.hid (fun W (_ : Ext w W) => isSoc_d A c x.soc W hs); have H2 := Lib.hid (within_d x.owner 0 (c.bk.owners - 1)); have H3 := Lib.hid (fun W (hx : Ext w W) => isPar_d A c x.parcel W (hm.ext hx)); have H4 := Lib.hid (within_d x.sum 0 1000); have H5 := Lib.hid (fun W => isDay_d A c x.till W); have H6 := Lib.hid (of_d x.slo x.shi c.bk.last); clear hm hs ho; generalize covB c x = r at *; generalize socB c x.soc = b1 at *; generalize inR x.owner 0 (c.bk.owners - 1) = b2 at *; generalize numberB c.bk x.parcel = b3 at *; generalize inR x.sum 0 1000 = b4 at *; generalize dayB c.bk x.till = b5 at *; generalize ofR x.slo x.shi c.bk.last = b6 at *; unfold CaseA.v caseV at *; obtain ⟨a1, c1, a2, c2, a3, c3, a4, c4⟩ := A; generalize c.bk.pars.length = n1 at *; generalize c.bk.ents.length = n2 at *; generalize c.covs.length = n3 at *; generalize c.clms.length = n4 at *; generalize c.bk.last = last at *; generalize c.bk.owners = owners at *; generalize c.soc = soc at *; generalize c.day = day at *; generalize c.parcel = parcel at *; generalize c.llo = llo at *; generalize c.lhi = lhi at *; obtain ⟨so, ow, pa, su, ti, sl, sh⟩ := x; simp only [Cov.c] at *; have XX : Ext w w := Ext.refl w; cases b1 with
  | false =>
    obtain rfl : r = false := HE.out; clear HE; go_enter Tryz.func78, Tryz.ntmps78
    (go_wp2_with fail); (with_reducible refine (H1.out _ (by (repeat (first | exact Ext.refl _ | with_reducible (first | assumption | refine Ext.drew ?_ | refine Ext.alloc ?_ _ | refine Ext.drewN ?_ _ | refine Ext.setCell ?_ (by omega) _ | refine Ext.trans ?_ (by assumption)))))).mono ?_); rintro e w1 ⟨rfl, hx⟩; have hy : Ext w w1 := by (repeat (first | exact Ext.refl _ | with_reducible (first | assumption | refine Ext.drew ?_ | refine Ext.alloc ?_ _ | refine Ext.drewN ?_ _ | refine Ext.setCell ?_ (by omega) _ | refine Ext.trans ?_ (by assumption))))
    have k0 := hx.keep (k := w.heap.size) (o := 0) (v := .int .i64 last) (by simp [go_sem]); have k1 := hx.keep (k := w.heap.size) (o := 1) (v := .int .i64 owners) (by simp [go_sem]); have k2 := hx.keep (k := w.heap.size) (o := 2) (v := .slice a1 n1 c1) (by simp [go_sem]); have k3 := hx.keep (k := w.heap.size) (o := 3) (v := .slice a2 n2 c2) (by simp [go_sem]); have k4 := hx.keep (k := w.heap.size) (o := 4) (v := .int .i64 soc) (by simp [go_sem]); have k5 := hx.keep (k := w.heap.size) (o := 5) (v := .int .i64 day) (by simp [go_sem]); have k6 := hx.keep (k := w.heap.size) (o := 6) (v := .int .i64 parcel) (by simp [go_sem]); have k7 := hx.keep (k := w.heap.size) (o := 7) (v := .slice a3 n3 c3) (by simp [go_sem]); have k8 := hx.keep (k := w.heap.size) (o := 8) (v := .int .i64 llo) (by simp [go_sem]); have k9 := hx.keep (k := w.heap.size) (o := 9) (v := .int .i64 lhi) (by simp [go_sem]); have k10 := hx.keep (k := w.heap.size) (o := 10) (v := .slice a4 n4 c4) (by simp [go_sem]); have r0 := hx.keep (k := w.heap.size + 1) (o := 0) (v := .int .i64 so) (by simp [go_sem]); have r1 := hx.keep (k := w.heap.size + 1) (o := 1) (v := .int .i64 ow) (by simp [go_sem]); have r2 := hx.keep (k := w.heap.size + 1) (o := 2) (v := .int .i64 pa) (by simp [go_sem]); have r3 := hx.keep (k := w.heap.size + 1) (o := 3) (v := .int .i64 su) (by simp [go_sem]); have r4 := hx.keep (k := w.heap.size + 1) (o := 4) (v := .int .i64 ti) (by simp [go_sem]); have r5 := hx.keep (k := w.heap.size + 1) (o := 5) (v := .int .i64 sl) (by simp [go_sem]); have r6 := hx.keep (k := w.heap.size + 1) (o := 6) (v := .int .i64 sh) (by simp [go_sem]); replace XX := XX.trans hy; clear hx hy; (go_wp2_with fail); go_ret; exact ⟨rfl, XX⟩
  | true =>
    cases b2 with
    | false =>
      obtain rfl : r = false := HE.out; clear HE; go_enter Tryz.func78, Tryz.ntmps78
      (go_wp2_with fail); (with_reducible refine (H1.out _ (by (repeat (first | exact Ext.refl _ | with_reducible (first | assumption | refine Ext.drew ?_ | refine Ext.alloc ?_ _ | refine Ext.drewN ?_ _ | refine Ext.setCell ?_ (by omega) _ | refine Ext.trans ?_ (by assumption)))))).mono ?_); rintro e w1 ⟨rfl, hx⟩; have hy : Ext w w1 := by (repeat (first | exact Ext.refl _ | with_reducible (first | assumption | refine Ext.drew ?_ | refine Ext.alloc ?_ _ | refine Ext.drewN ?_ _ | refine Ext.setCell ?_ (by omega) _ | refine Ext.trans ?_ (by assumption))))
      have k0 := hx.keep (k := w.heap.size) (o := 0) (v := .int .i64 last) (by simp [go_sem]); have k1 := hx.keep (k := w.heap.size) (o := 1) (v := .int .i64 owners) (by simp [go_sem]); have k2 := hx.keep (k := w.heap.size) (o := 2) (v := .slice a1 n1 c1) (by simp [go_sem]); have k3 := hx.keep (k := w.heap.size) (o := 3) (v := .slice a2 n2 c2) (by simp [go_sem]); have k4 := hx.keep (k := w.heap.size) (o := 4) (v := .int .i64 soc) (by simp [go_sem]); have k5 := hx.keep (k := w.heap.size) (o := 5) (v := .int .i64 day) (by simp [go_sem]); have k6 := hx.keep (k := w.heap.size) (o := 6) (v := .int .i64 parcel) (by simp [go_sem]); have k7 := hx.keep (k := w.heap.size) (o := 7) (v := .slice a3 n3 c3) (by simp [go_sem]); have k8 := hx.keep (k := w.heap.size) (o := 8) (v := .int .i64 llo) (by simp [go_sem]); have k9 := hx.keep (k := w.heap.size) (o := 9) (v := .int .i64 lhi) (by simp [go_sem]); have k10 := hx.keep (k := w.heap.size) (o := 10) (v := .slice a4 n4 c4) (by simp [go_sem]); have r0 := hx.keep (k := w.heap.size + 1) (o := 0) (v := .int .i64 so) (by simp [go_sem]); have r1 := hx.keep (k := w.heap.size + 1) (o := 1) (v := .int .i64 ow) (by simp [go_sem]); have r2 := hx.keep (k := w.heap.size + 1) (o := 2) (v := .int .i64 pa) (by simp [go_sem]); have r3 := hx.keep (k := w.heap.size + 1) (o := 3) (v := .int .i64 su) (by simp [go_sem]); have r4 := hx.keep (k := w.heap.size + 1) (o := 4) (v := .int .i64 ti) (by simp [go_sem]); have r5 := hx.keep (k := w.heap.size + 1) (o := 5) (v := .int .i64 sl) (by simp [go_sem]); have r6 := hx.keep (k := w.heap.size + 1) (o := 6) (v := .int .i64 sh) (by simp [go_sem]); replace XX := XX.trans hy; clear hx hy; (go_wp2_with fail); (with_reducible refine (H2.out _).mono ?_); rintro e w2 ⟨rfl, hx⟩; have hy : Ext w1 w2 := by (repeat (first | exact Ext.refl _ | with_reducible (first | assumption | refine Ext.drew ?_ | refine Ext.alloc ?_ _ | refine Ext.drewN ?_ _ | refine Ext.setCell ?_ (by omega) _ | refine Ext.trans ?_ (by assumption))))
      replace XX := XX.trans hy; replace k0 := hy.keep k0; replace k1 := hy.keep k1; replace k2 := hy.keep k2; replace k3 := hy.keep k3; replace k4 := hy.keep k4; replace k5 := hy.keep k5; replace k6 := hy.keep k6; replace k7 := hy.keep k7; replace k8 := hy.keep k8; replace k9 := hy.keep k9; replace k10 := hy.keep k10; replace r0 := hy.keep r0; replace r1 := hy.keep r1; replace r2 := hy.keep r2; replace r3 := hy.keep r3; replace r4 := hy.keep r4; replace r5 := hy.keep r5; replace r6 := hy.keep r6; clear hx hy; (go_wp2_with fail); go_ret; exact ⟨rfl, XX⟩
    | true =>
      cases b3 with
      | false =>
        obtain rfl : r = false := HE.out; clear HE; go_enter Tryz.func78, Tryz.ntmps78
        (go_wp2_with fail); (with_reducible refine (H1.out _ (by (repeat (first | exact Ext.refl _ | with_reducible (first | assumption | refine Ext.drew ?_ | refine Ext.alloc ?_ _ | refine Ext.drewN ?_ _ | refine Ext.setCell ?_ (by omega) _ | refine Ext.trans ?_ (by assumption)))))).mono ?_); rintro e w1 ⟨rfl, hx⟩; have hy : Ext w w1 := by (repeat (first | exact Ext.refl _ | with_reducible (first | assumption | refine Ext.drew ?_ | refine Ext.alloc ?_ _ | refine Ext.drewN ?_ _ | refine Ext.setCell ?_ (by omega) _ | refine Ext.trans ?_ (by assumption))))
        have k0 := hx.keep (k := w.heap.size) (o := 0) (v := .int .i64 last) (by simp [go_sem]); have k1 := hx.keep (k := w.heap.size) (o := 1) (v := .int .i64 owners) (by simp [go_sem]); have k2 := hx.keep (k := w.heap.size) (o := 2) (v := .slice a1 n1 c1) (by simp [go_sem]); have k3 := hx.keep (k := w.heap.size) (o := 3) (v := .slice a2 n2 c2) (by simp [go_sem]); have k4 := hx.keep (k := w.heap.size) (o := 4) (v := .int .i64 soc) (by simp [go_sem]); have k5 := hx.keep (k := w.heap.size) (o := 5) (v := .int .i64 day) (by simp [go_sem]); have k6 := hx.keep (k := w.heap.size) (o := 6) (v := .int .i64 parcel) (by simp [go_sem]); have k7 := hx.keep (k := w.heap.size) (o := 7) (v := .slice a3 n3 c3) (by simp [go_sem]); have k8 := hx.keep (k := w.heap.size) (o := 8) (v := .int .i64 llo) (by simp [go_sem]); have k9 := hx.keep (k := w.heap.size) (o := 9) (v := .int .i64 lhi) (by simp [go_sem]); have k10 := hx.keep (k := w.heap.size) (o := 10) (v := .slice a4 n4 c4) (by simp [go_sem]); have r0 := hx.keep (k := w.heap.size + 1) (o := 0) (v := .int .i64 so) (by simp [go_sem]); have r1 := hx.keep (k := w.heap.size + 1) (o := 1) (v := .int .i64 ow) (by simp [go_sem]); have r2 := hx.keep (k := w.heap.size + 1) (o := 2) (v := .int .i64 pa) (by simp [go_sem]); have r3 := hx.keep (k := w.heap.size + 1) (o := 3) (v := .int .i64 su) (by simp [go_sem]); have r4 := hx.keep (k := w.heap.size + 1) (o := 4) (v := .int .i64 ti) (by simp [go_sem]); have r5 := hx.keep (k := w.heap.size + 1) (o := 5) (v := .int .i64 sl) (by simp [go_sem]); have r6 := hx.keep (k := w.heap.size + 1) (o := 6) (v := .int .i64 sh) (by simp [go_sem]); replace XX := XX.trans hy; clear hx hy; (go_wp2_with fail); (with_reducible refine (H2.out _).mono ?_); rintro e w2 ⟨rfl, hx⟩; have hy : Ext w1 w2 := by (repeat (first | exact Ext.refl _ | with_reducible (first | assumption | refine Ext.drew ?_ | refine Ext.alloc ?_ _ | refine Ext.drewN ?_ _ | refine Ext.setCell ?_ (by omega) _ | refine Ext.trans ?_ (by assumption))))
        replace XX := XX.trans hy; replace k0 := hy.keep k0; replace k1 := hy.keep k1; replace k2 := hy.keep k2; replace k3 := hy.keep k3; replace k4 := hy.keep k4; replace k5 := hy.keep k5; replace k6 := hy.keep k6; replace k7 := hy.keep k7; replace k8 := hy.keep k8; replace k9 := hy.keep k9; replace k10 := hy.keep k10; replace r0 := hy.keep r0; replace r1 := hy.keep r1; replace r2 := hy.keep r2; replace r3 := hy.keep r3; replace r4 := hy.keep r4; replace r5 := hy.keep r5; replace r6 := hy.keep r6; clear hx hy; (go_wp2_with fail); (with_reducible refine (H3.out _ (by (repeat (first | exact Ext.refl _ | with_reducible (first | assumption | refine Ext.drew ?_ | refine Ext.alloc ?_ _ | refine Ext.drewN ?_ _ | refine Ext.setCell ?_ (by omega) _ | refine Ext.trans ?_ (by assumption)))))).mono ?_); rintro e w3 ⟨rfl, hx⟩; have hy : Ext w2 w3 := by (repeat (first | exact Ext.refl _ | with_reducible (first | assumption | refine Ext.drew ?_ | refine Ext.alloc ?_ _ | refine Ext.drewN ?_ _ | refine Ext.setCell ?_ (by omega) _ | refine Ext.trans ?_ (by assumption))))
        replace XX := XX.trans hy; replace k0 := hy.keep k0; replace k1 := hy.keep k1; replace k2 := hy.keep k2; replace k3 := hy.keep k3; replace k4 := hy.keep k4; replace k5 := hy.keep k5; replace k6 := hy.keep k6; replace k7 := hy.keep k7; replace k8 := hy.keep k8; replace k9 := hy.keep k9; replace k10 := hy.keep k10; replace r0 := hy.keep r0; replace r1 := hy.keep r1; replace r2 := hy.keep r2; replace r3 := hy.keep r3; replace r4 := hy.keep r4; replace r5 := hy.keep r5; replace r6 := hy.keep r6; clear hx hy; (go_wp2_with fail); go_ret; exact ⟨rfl, XX⟩
      | true =>
        cases b4 with
        | false =>
          obtain rfl : r = false := HE.out; clear HE; go_enter Tryz.func78, Tryz.ntmps78
          (go_wp2_with fail); (with_reducible refine (H1.out _ (by (repeat (first | exact Ext.refl _ | with_reducible (first | assumption | refine Ext.drew ?_ | refine Ext.alloc ?_ _ | refine Ext.drewN ?_ _ | refine Ext.setCell ?_ (by omega) _ | refine Ext.trans ?_ (by assumption)))))).mono ?_); rintro e w1 ⟨rfl, hx⟩; have hy : Ext w w1 := by (repeat (first | exact Ext.refl _ | with_reducible (first | assumption | refine Ext.drew ?_ | refine Ext.alloc ?_ _ | refine Ext.drewN ?_ _ | refine Ext.setCell ?_ (by omega) _ | refine Ext.trans ?_ (by assumption))))
          have k0 := hx.keep (k := w.heap.size) (o := 0) (v := .int .i64 last) (by simp [go_sem]); have k1 := hx.keep (k := w.heap.size) (o := 1) (v := .int .i64 owners) (by simp [go_sem]); have k2 := hx.keep (k := w.heap.size) (o := 2) (v := .slice a1 n1 c1) (by simp [go_sem]); have k3 := hx.keep (k := w.heap.size) (o := 3) (v := .slice a2 n2 c2) (by simp [go_sem]); have k4 := hx.keep (k := w.heap.size) (o := 4) (v := .int .i64 soc) (by simp [go_sem]); have k5 := hx.keep (k := w.heap.size) (o := 5) (v := .int .i64 day) (by simp [go_sem]); have k6 := hx.keep (k := w.heap.size) (o := 6) (v := .int .i64 parcel) (by simp [go_sem]); have k7 := hx.keep (k := w.heap.size) (o := 7) (v := .slice a3 n3 c3) (by simp [go_sem]); have k8 := hx.keep (k := w.heap.size) (o := 8) (v := .int .i64 llo) (by simp [go_sem]); have k9 := hx.keep (k := w.heap.size) (o := 9) (v := .int .i64 lhi) (by simp [go_sem]); have k10 := hx.keep (k := w.heap.size) (o := 10) (v := .slice a4 n4 c4) (by simp [go_sem]); have r0 := hx.keep (k := w.heap.size + 1) (o := 0) (v := .int .i64 so) (by simp [go_sem]); have r1 := hx.keep (k := w.heap.size + 1) (o := 1) (v := .int .i64 ow) (by simp [go_sem]); have r2 := hx.keep (k := w.heap.size + 1) (o := 2) (v := .int .i64 pa) (by simp [go_sem]); have r3 := hx.keep (k := w.heap.size + 1) (o := 3) (v := .int .i64 su) (by simp [go_sem]); have r4 := hx.keep (k := w.heap.size + 1) (o := 4) (v := .int .i64 ti) (by simp [go_sem]); have r5 := hx.keep (k := w.heap.size + 1) (o := 5) (v := .int .i64 sl) (by simp [go_sem]); have r6 := hx.keep (k := w.heap.size + 1) (o := 6) (v := .int .i64 sh) (by simp [go_sem]); replace XX := XX.trans hy; clear hx hy; (go_wp2_with fail); (with_reducible refine (H2.out _).mono ?_); rintro e w2 ⟨rfl, hx⟩; have hy : Ext w1 w2 := by (repeat (first | exact Ext.refl _ | with_reducible (first | assumption | refine Ext.drew ?_ | refine Ext.alloc ?_ _ | refine Ext.drewN ?_ _ | refine Ext.setCell ?_ (by omega) _ | refine Ext.trans ?_ (by assumption))))
          replace XX := XX.trans hy; replace k0 := hy.keep k0; replace k1 := hy.keep k1; replace k2 := hy.keep k2; replace k3 := hy.keep k3; replace k4 := hy.keep k4; replace k5 := hy.keep k5; replace k6 := hy.keep k6; replace k7 := hy.keep k7; replace k8 := hy.keep k8; replace k9 := hy.keep k9; replace k10 := hy.keep k10; replace r0 := hy.keep r0; replace r1 := hy.keep r1; replace r2 := hy.keep r2; replace r3 := hy.keep r3; replace r4 := hy.keep r4; replace r5 := hy.keep r5; replace r6 := hy.keep r6; clear hx hy; (go_wp2_with fail); (with_reducible refine (H3.out _ (by (repeat (first | exact Ext.refl _ | with_reducible (first | assumption | refine Ext.drew ?_ | refine Ext.alloc ?_ _ | refine Ext.drewN ?_ _ | refine Ext.setCell ?_ (by omega) _ | refine Ext.trans ?_ (by assumption)))))).mono ?_); rintro e w3 ⟨rfl, hx⟩; have hy : Ext w2 w3 := by (repeat (first | exact Ext.refl _ | with_reducible (first | assumption | refine Ext.drew ?_ | refine Ext.alloc ?_ _ | refine Ext.drewN ?_ _ | refine Ext.setCell ?_ (by omega) _ | refine Ext.trans ?_ (by assumption))))
          replace XX := XX.trans hy; replace k0 := hy.keep k0; replace k1 := hy.keep k1; replace k2 := hy.keep k2; replace k3 := hy.keep k3; replace k4 := hy.keep k4; replace k5 := hy.keep k5; replace k6 := hy.keep k6; replace k7 := hy.keep k7; replace k8 := hy.keep k8; replace k9 := hy.keep k9; replace k10 := hy.keep k10; replace r0 := hy.keep r0; replace r1 := hy.keep r1; replace r2 := hy.keep r2; replace r3 := hy.keep r3; replace r4 := hy.keep r4; replace r5 := hy.keep r5; replace r6 := hy.keep r6; clear hx hy; (go_wp2_with fail); (with_reducible refine (H4.out _).mono ?_); rintro e w4 ⟨rfl, hx⟩; have hy : Ext w3 w4 := by (repeat (first | exact Ext.refl _ | with_reducible (first | assumption | refine Ext.drew ?_ | refine Ext.alloc ?_ _ | refine Ext.drewN ?_ _ | refine Ext.setCell ?_ (by omega) _ | refine Ext.trans ?_ (by assumption))))
          replace XX := XX.trans hy; replace k0 := hy.keep k0; replace k1 := hy.keep k1; replace k2 := hy.keep k2; replace k3 := hy.keep k3; replace k4 := hy.keep k4; replace k5 := hy.keep k5; replace k6 := hy.keep k6; replace k7 := hy.keep k7; replace k8 := hy.keep k8; replace k9 := hy.keep k9; replace k10 := hy.keep k10; replace r0 := hy.keep r0; replace r1 := hy.keep r1; replace r2 := hy.keep r2; replace r3 := hy.keep r3; replace r4 := hy.keep r4; replace r5 := hy.keep r5; replace r6 := hy.keep r6; clear hx hy; (go_wp2_with fail); go_ret; exact ⟨rfl, XX⟩
        | true =>
          cases b5 with
          | false =>
            obtain rfl : r = false := HE.out; clear HE; go_enter Tryz.func78, Tryz.ntmps78
            (go_wp2_with fail); (with_reducible refine (H1.out _ (by (repeat (first | exact Ext.refl _ | with_reducible (first | assumption | refine Ext.drew ?_ | refine Ext.alloc ?_ _ | refine Ext.drewN ?_ _ | refine Ext.setCell ?_ (by omega) _ | refine Ext.trans ?_ (by assumption)))))).mono ?_); rintro e w1 ⟨rfl, hx⟩; have hy : Ext w w1 := by (repeat (first | exact Ext.refl _ | with_reducible (first | assumption | refine Ext.drew ?_ | refine Ext.alloc ?_ _ | refine Ext.drewN ?_ _ | refine Ext.setCell ?_ (by omega) _ | refine Ext.trans ?_ (by assumption))))
            have k0 := hx.keep (k := w.heap.size) (o := 0) (v := .int .i64 last) (by simp [go_sem]); have k1 := hx.keep (k := w.heap.size) (o := 1) (v := .int .i64 owners) (by simp [go_sem]); have k2 := hx.keep (k := w.heap.size) (o := 2) (v := .slice a1 n1 c1) (by simp [go_sem]); have k3 := hx.keep (k := w.heap.size) (o := 3) (v := .slice a2 n2 c2) (by simp [go_sem]); have k4 := hx.keep (k := w.heap.size) (o := 4) (v := .int .i64 soc) (by simp [go_sem]); have k5 := hx.keep (k := w.heap.size) (o := 5) (v := .int .i64 day) (by simp [go_sem]); have k6 := hx.keep (k := w.heap.size) (o := 6) (v := .int .i64 parcel) (by simp [go_sem]); have k7 := hx.keep (k := w.heap.size) (o := 7) (v := .slice a3 n3 c3) (by simp [go_sem]); have k8 := hx.keep (k := w.heap.size) (o := 8) (v := .int .i64 llo) (by simp [go_sem]); have k9 := hx.keep (k := w.heap.size) (o := 9) (v := .int .i64 lhi) (by simp [go_sem]); have k10 := hx.keep (k := w.heap.size) (o := 10) (v := .slice a4 n4 c4) (by simp [go_sem]); have r0 := hx.keep (k := w.heap.size + 1) (o := 0) (v := .int .i64 so) (by simp [go_sem]); have r1 := hx.keep (k := w.heap.size + 1) (o := 1) (v := .int .i64 ow) (by simp [go_sem]); have r2 := hx.keep (k := w.heap.size + 1) (o := 2) (v := .int .i64 pa) (by simp [go_sem]); have r3 := hx.keep (k := w.heap.size + 1) (o := 3) (v := .int .i64 su) (by simp [go_sem]); have r4 := hx.keep (k := w.heap.size + 1) (o := 4) (v := .int .i64 ti) (by simp [go_sem]); have r5 := hx.keep (k := w.heap.size + 1) (o := 5) (v := .int .i64 sl) (by simp [go_sem]); have r6 := hx.keep (k := w.heap.size + 1) (o := 6) (v := .int .i64 sh) (by simp [go_sem]); replace XX := XX.trans hy; clear hx hy; (go_wp2_with fail); (with_reducible refine (H2.out _).mono ?_); rintro e w2 ⟨rfl, hx⟩; have hy : Ext w1 w2 := by (repeat (first | exact Ext.refl _ | with_reducible (first | assumption | refine Ext.drew ?_ | refine Ext.alloc ?_ _ | refine Ext.drewN ?_ _ | refine Ext.setCell ?_ (by omega) _ | refine Ext.trans ?_ (by assumption))))
            replace XX := XX.trans hy; replace k0 := hy.keep k0; replace k1 := hy.keep k1; replace k2 := hy.keep k2; replace k3 := hy.keep k3; replace k4 := hy.keep k4; replace k5 := hy.keep k5; replace k6 := hy.keep k6; replace k7 := hy.keep k7; replace k8 := hy.keep k8; replace k9 := hy.keep k9; replace k10 := hy.keep k10; replace r0 := hy.keep r0; replace r1 := hy.keep r1; replace r2 := hy.keep r2; replace r3 := hy.keep r3; replace r4 := hy.keep r4; replace r5 := hy.keep r5; replace r6 := hy.keep r6; clear hx hy; (go_wp2_with fail); (with_reducible refine (H3.out _ (by (repeat (first | exact Ext.refl _ | with_reducible (first | assumption | refine Ext.drew ?_ | refine Ext.alloc ?_ _ | refine Ext.drewN ?_ _ | refine Ext.setCell ?_ (by omega) _ | refine Ext.trans ?_ (by assumption)))))).mono ?_); rintro e w3 ⟨rfl, hx⟩; have hy : Ext w2 w3 := by (repeat (first | exact Ext.refl _ | with_reducible (first | assumption | refine Ext.drew ?_ | refine Ext.alloc ?_ _ | refine Ext.drewN ?_ _ | refine Ext.setCell ?_ (by omega) _ | refine Ext.trans ?_ (by assumption))))
            replace XX := XX.trans hy; replace k0 := hy.keep k0; replace k1 := hy.keep k1; replace k2 := hy.keep k2; replace k3 := hy.keep k3; replace k4 := hy.keep k4; replace k5 := hy.keep k5; replace k6 := hy.keep k6; replace k7 := hy.keep k7; replace k8 := hy.keep k8; replace k9 := hy.keep k9; replace k10 := hy.keep k10; replace r0 := hy.keep r0; replace r1 := hy.keep r1; replace r2 := hy.keep r2; replace r3 := hy.keep r3; replace r4 := hy.keep r4; replace r5 := hy.keep r5; replace r6 := hy.keep r6; clear hx hy; (go_wp2_with fail); (with_reducible refine (H4.out _).mono ?_); rintro e w4 ⟨rfl, hx⟩; have hy : Ext w3 w4 := by (repeat (first | exact Ext.refl _ | with_reducible (first | assumption | refine Ext.drew ?_ | refine Ext.alloc ?_ _ | refine Ext.drewN ?_ _ | refine Ext.setCell ?_ (by omega) _ | refine Ext.trans ?_ (by assumption))))
            replace XX := XX.trans hy; replace k0 := hy.keep k0; replace k1 := hy.keep k1; replace k2 := hy.keep k2; replace k3 := hy.keep k3; replace k4 := hy.keep k4; replace k5 := hy.keep k5; replace k6 := hy.keep k6; replace k7 := hy.keep k7; replace k8 := hy.keep k8; replace k9 := hy.keep k9; replace k10 := hy.keep k10; replace r0 := hy.keep r0; replace r1 := hy.keep r1; replace r2 := hy.keep r2; replace r3 := hy.keep r3; replace r4 := hy.keep r4; replace r5 := hy.keep r5; replace r6 := hy.keep r6; clear hx hy; (go_wp2_with fail); (with_reducible refine (H5.out _).mono ?_); rintro e w5 ⟨rfl, hx⟩; have hy : Ext w4 w5 := by (repeat (first | exact Ext.refl _ | with_reducible (first | assumption | refine Ext.drew ?_ | refine Ext.alloc ?_ _ | refine Ext.drewN ?_ _ | refine Ext.setCell ?_ (by omega) _ | refine Ext.trans ?_ (by assumption))))
            replace XX := XX.trans hy; replace k0 := hy.keep k0; replace k1 := hy.keep k1; replace k2 := hy.keep k2; replace k3 := hy.keep k3; replace k4 := hy.keep k4; replace k5 := hy.keep k5; replace k6 := hy.keep k6; replace k7 := hy.keep k7; replace k8 := hy.keep k8; replace k9 := hy.keep k9; replace k10 := hy.keep k10; replace r0 := hy.keep r0; replace r1 := hy.keep r1; replace r2 := hy.keep r2; replace r3 := hy.keep r3; replace r4 := hy.keep r4; replace r5 := hy.keep r5; replace r6 := hy.keep r6; clear hx hy; (go_wp2_with fail); go_ret; exact ⟨rfl, XX⟩
          | true =>
            obtain rfl : r = b6 := HE.out; clear HE; go_enter Tryz.func78, Tryz.ntmps78
            (go_wp2_with fail); (with_reducible refine (H1.out _ (by (repeat (first | exact Ext.refl _ | with_reducible (first | assumption | refine Ext.drew ?_ | refine Ext.alloc ?_ _ | refine Ext.drewN ?_ _ | refine Ext.setCell ?_ (by omega) _ | refine Ext.trans ?_ (by assumption)))))).mono ?_); rintro e w1 ⟨rfl, hx⟩; have hy : Ext w w1 := by (repeat (first | exact Ext.refl _ | with_reducible (first | assumption | refine Ext.drew ?_ | refine Ext.alloc ?_ _ | refine Ext.drewN ?_ _ | refine Ext.setCell ?_ (by omega) _ | refine Ext.trans ?_ (by assumption))))
            have k0 := hx.keep (k := w.heap.size) (o := 0) (v := .int .i64 last) (by simp [go_sem]); have k1 := hx.keep (k := w.heap.size) (o := 1) (v := .int .i64 owners) (by simp [go_sem]); have k2 := hx.keep (k := w.heap.size) (o := 2) (v := .slice a1 n1 c1) (by simp [go_sem]); have k3 := hx.keep (k := w.heap.size) (o := 3) (v := .slice a2 n2 c2) (by simp [go_sem]); have k4 := hx.keep (k := w.heap.size) (o := 4) (v := .int .i64 soc) (by simp [go_sem]); have k5 := hx.keep (k := w.heap.size) (o := 5) (v := .int .i64 day) (by simp [go_sem]); have k6 := hx.keep (k := w.heap.size) (o := 6) (v := .int .i64 parcel) (by simp [go_sem]); have k7 := hx.keep (k := w.heap.size) (o := 7) (v := .slice a3 n3 c3) (by simp [go_sem]); have k8 := hx.keep (k := w.heap.size) (o := 8) (v := .int .i64 llo) (by simp [go_sem]); have k9 := hx.keep (k := w.heap.size) (o := 9) (v := .int .i64 lhi) (by simp [go_sem]); have k10 := hx.keep (k := w.heap.size) (o := 10) (v := .slice a4 n4 c4) (by simp [go_sem]); have r0 := hx.keep (k := w.heap.size + 1) (o := 0) (v := .int .i64 so) (by simp [go_sem]); have r1 := hx.keep (k := w.heap.size + 1) (o := 1) (v := .int .i64 ow) (by simp [go_sem]); have r2 := hx.keep (k := w.heap.size + 1) (o := 2) (v := .int .i64 pa) (by simp [go_sem]); have r3 := hx.keep (k := w.heap.size + 1) (o := 3) (v := .int .i64 su) (by simp [go_sem]); have r4 := hx.keep (k := w.heap.size + 1) (o := 4) (v := .int .i64 ti) (by simp [go_sem]); have r5 := hx.keep (k := w.heap.size + 1) (o := 5) (v := .int .i64 sl) (by simp [go_sem]); have r6 := hx.keep (k := w.heap.size + 1) (o := 6) (v := .int .i64 sh) (by simp [go_sem]); replace XX := XX.trans hy; clear hx hy; (go_wp2_with fail); (with_reducible refine (H2.out _).mono ?_); rintro e w2 ⟨rfl, hx⟩; have hy : Ext w1 w2 := by (repeat (first | exact Ext.refl _ | with_reducible (first | assumption | refine Ext.drew ?_ | refine Ext.alloc ?_ _ | refine Ext.drewN ?_ _ | refine Ext.setCell ?_ (by omega) _ | refine Ext.trans ?_ (by assumption))))
            replace XX := XX.trans hy; replace k0 := hy.keep k0; replace k1 := hy.keep k1; replace k2 := hy.keep k2; replace k3 := hy.keep k3; replace k4 := hy.keep k4; replace k5 := hy.keep k5; replace k6 := hy.keep k6; replace k7 := hy.keep k7; replace k8 := hy.keep k8; replace k9 := hy.keep k9; replace k10 := hy.keep k10; replace r0 := hy.keep r0; replace r1 := hy.keep r1; replace r2 := hy.keep r2; replace r3 := hy.keep r3; replace r4 := hy.keep r4; replace r5 := hy.keep r5; replace r6 := hy.keep r6; clear hx hy; (go_wp2_with fail); (with_reducible refine (H3.out _ (by (repeat (first | exact Ext.refl _ | with_reducible (first | assumption | refine Ext.drew ?_ | refine Ext.alloc ?_ _ | refine Ext.drewN ?_ _ | refine Ext.setCell ?_ (by omega) _ | refine Ext.trans ?_ (by assumption)))))).mono ?_); rintro e w3 ⟨rfl, hx⟩; have hy : Ext w2 w3 := by (repeat (first | exact Ext.refl _ | with_reducible (first | assumption | refine Ext.drew ?_ | refine Ext.alloc ?_ _ | refine Ext.drewN ?_ _ | refine Ext.setCell ?_ (by omega) _ | refine Ext.trans ?_ (by assumption))))
            replace XX := XX.trans hy; replace k0 := hy.keep k0; replace k1 := hy.keep k1; replace k2 := hy.keep k2; replace k3 := hy.keep k3; replace k4 := hy.keep k4; replace k5 := hy.keep k5; replace k6 := hy.keep k6; replace k7 := hy.keep k7; replace k8 := hy.keep k8; replace k9 := hy.keep k9; replace k10 := hy.keep k10; replace r0 := hy.keep r0; replace r1 := hy.keep r1; replace r2 := hy.keep r2; replace r3 := hy.keep r3; replace r4 := hy.keep r4; replace r5 := hy.keep r5; replace r6 := hy.keep r6; clear hx hy; (go_wp2_with fail); (with_reducible refine (H4.out _).mono ?_); rintro e w4 ⟨rfl, hx⟩; have hy : Ext w3 w4 := by (repeat (first | exact Ext.refl _ | with_reducible (first | assumption | refine Ext.drew ?_ | refine Ext.alloc ?_ _ | refine Ext.drewN ?_ _ | refine Ext.setCell ?_ (by omega) _ | refine Ext.trans ?_ (by assumption))))
            replace XX := XX.trans hy; replace k0 := hy.keep k0; replace k1 := hy.keep k1; replace k2 := hy.keep k2; replace k3 := hy.keep k3; replace k4 := hy.keep k4; replace k5 := hy.keep k5; replace k6 := hy.keep k6; replace k7 := hy.keep k7; replace k8 := hy.keep k8; replace k9 := hy.keep k9; replace k10 := hy.keep k10; replace r0 := hy.keep r0; replace r1 := hy.keep r1; replace r2 := hy.keep r2; replace r3 := hy.keep r3; replace r4 := hy.keep r4; replace r5 := hy.keep r5; replace r6 := hy.keep r6; clear hx hy; (go_wp2_with fail); (with_reducible refine (H5.out _).mono ?_); rintro e w5 ⟨rfl, hx⟩; have hy : Ext w4 w5 := by (repeat (first | exact Ext.refl _ | with_reducible (first | assumption | refine Ext.drew ?_ | refine Ext.alloc ?_ _ | refine Ext.drewN ?_ _ | refine Ext.setCell ?_ (by omega) _ | refine Ext.trans ?_ (by assumption))))
            replace XX := XX.trans hy; replace k0 := hy.keep k0; replace k1 := hy.keep k1; replace k2 := hy.keep k2; replace k3 := hy.keep k3; replace k4 := hy.keep k4; replace k5 := hy.keep k5; replace k6 := hy.keep k6; replace k7 := hy.keep k7; replace k8 := hy.keep k8; replace k9 := hy.keep k9; replace k10 := hy.keep k10; replace r0 := hy.keep r0; replace r1 := hy.keep r1; replace r2 := hy.keep r2; replace r3 := hy.keep r3; replace r4 := hy.keep r4; replace r5 := hy.keep r5; replace r6 := hy.keep r6; clear hx hy; (go_wp2_with fail); (with_reducible refine (H6.out _).mono ?_); rintro e w6 ⟨rfl, hx⟩; have hy : Ext w5 w6 := by (repeat (first | exact Ext.refl _ | with_reducible (first | assumption | refine Ext.drew ?_ | refine Ext.alloc ?_ _ | refine Ext.drewN ?_ _ | refine Ext.setCell ?_ (by omega) _ | refine Ext.trans ?_ (by assumption))))
            replace XX := XX.trans hy; clear hx hy; (go_wp2_with fail); go_ret; exact ⟨rfl, XX⟩
set_option maxRecDepth 100000 in
set_option maxHeartbeats 4000000 in
theorem claim_d (A : CaseA) (c : DCas) (x : Clm) (w : World) (hs : 1 ≤ c.soc ∧ c.soc ≤ 3) :
    Calls Tryz.prog 79 #[A.v c, x.c.val] w fun e w' => e = .returned (.bool (clmB c x)) ∧ Ext w w' := by
  have HE : Hid (clmB c x = (socB c x.soc && ofR x.plo x.phi 1000)) := rfl; have H1 := Lib.hid (fun W => isSoc_d A c x.soc W hs); have H2 := Lib.hid (of_d x.plo x.phi 1000); clear hs; generalize clmB c x = r at *; generalize socB c x.soc = b1 at *; generalize ofR x.plo x.phi 1000 = b2 at *; unfold CaseA.v caseV at *; obtain ⟨a1, c1, a2, c2, a3, c3, a4, c4⟩ := A; generalize c.bk.pars.length = n1 at *; generalize c.bk.ents.length = n2 at *; generalize c.covs.length = n3 at *; generalize c.clms.length = n4 at *; generalize c.bk.last = last at *; generalize c.bk.owners = owners at *; generalize c.soc = soc at *; generalize c.day = day at *; generalize c.parcel = parcel at *; generalize c.llo = llo at *; generalize c.lhi = lhi at *; obtain ⟨so, pl, ph⟩ := x; simp only [Clm.c] at *; have XX : Ext w w := Ext.refl w; cases b1 with
  | false =>
    obtain rfl : r = false := HE.out; clear HE; go_enter Tryz.func79, Tryz.ntmps79
    (go_wp2_with fail); (with_reducible refine (H1.out _).mono ?_); rintro e w1 ⟨rfl, hx⟩; have hy : Ext w w1 := by (repeat (first | exact Ext.refl _ | with_reducible (first | assumption | refine Ext.drew ?_ | refine Ext.alloc ?_ _ | refine Ext.drewN ?_ _ | refine Ext.setCell ?_ (by omega) _ | refine Ext.trans ?_ (by assumption))))
    have k0 := hx.keep (k := w.heap.size) (o := 0) (v := .int .i64 last) (by simp [go_sem]); have k1 := hx.keep (k := w.heap.size) (o := 1) (v := .int .i64 owners) (by simp [go_sem]); have k2 := hx.keep (k := w.heap.size) (o := 2) (v := .slice a1 n1 c1) (by simp [go_sem]); have k3 := hx.keep (k := w.heap.size) (o := 3) (v := .slice a2 n2 c2) (by simp [go_sem]); have k4 := hx.keep (k := w.heap.size) (o := 4) (v := .int .i64 soc) (by simp [go_sem]); have k5 := hx.keep (k := w.heap.size) (o := 5) (v := .int .i64 day) (by simp [go_sem]); have k6 := hx.keep (k := w.heap.size) (o := 6) (v := .int .i64 parcel) (by simp [go_sem]); have k7 := hx.keep (k := w.heap.size) (o := 7) (v := .slice a3 n3 c3) (by simp [go_sem]); have k8 := hx.keep (k := w.heap.size) (o := 8) (v := .int .i64 llo) (by simp [go_sem]); have k9 := hx.keep (k := w.heap.size) (o := 9) (v := .int .i64 lhi) (by simp [go_sem]); have k10 := hx.keep (k := w.heap.size) (o := 10) (v := .slice a4 n4 c4) (by simp [go_sem]); have r0 := hx.keep (k := w.heap.size + 1) (o := 0) (v := .int .i64 so) (by simp [go_sem]); have r1 := hx.keep (k := w.heap.size + 1) (o := 1) (v := .int .i64 pl) (by simp [go_sem]); have r2 := hx.keep (k := w.heap.size + 1) (o := 2) (v := .int .i64 ph) (by simp [go_sem]); replace XX := XX.trans hy; clear hx hy; (go_wp2_with fail); go_ret; exact ⟨rfl, XX⟩
  | true =>
    obtain rfl : r = b2 := HE.out; clear HE; go_enter Tryz.func79, Tryz.ntmps79
    (go_wp2_with fail); (with_reducible refine (H1.out _).mono ?_); rintro e w1 ⟨rfl, hx⟩; have hy : Ext w w1 := by (repeat (first | exact Ext.refl _ | with_reducible (first | assumption | refine Ext.drew ?_ | refine Ext.alloc ?_ _ | refine Ext.drewN ?_ _ | refine Ext.setCell ?_ (by omega) _ | refine Ext.trans ?_ (by assumption))))
    have k0 := hx.keep (k := w.heap.size) (o := 0) (v := .int .i64 last) (by simp [go_sem]); have k1 := hx.keep (k := w.heap.size) (o := 1) (v := .int .i64 owners) (by simp [go_sem]); have k2 := hx.keep (k := w.heap.size) (o := 2) (v := .slice a1 n1 c1) (by simp [go_sem]); have k3 := hx.keep (k := w.heap.size) (o := 3) (v := .slice a2 n2 c2) (by simp [go_sem]); have k4 := hx.keep (k := w.heap.size) (o := 4) (v := .int .i64 soc) (by simp [go_sem]); have k5 := hx.keep (k := w.heap.size) (o := 5) (v := .int .i64 day) (by simp [go_sem]); have k6 := hx.keep (k := w.heap.size) (o := 6) (v := .int .i64 parcel) (by simp [go_sem]); have k7 := hx.keep (k := w.heap.size) (o := 7) (v := .slice a3 n3 c3) (by simp [go_sem]); have k8 := hx.keep (k := w.heap.size) (o := 8) (v := .int .i64 llo) (by simp [go_sem]); have k9 := hx.keep (k := w.heap.size) (o := 9) (v := .int .i64 lhi) (by simp [go_sem]); have k10 := hx.keep (k := w.heap.size) (o := 10) (v := .slice a4 n4 c4) (by simp [go_sem]); have r0 := hx.keep (k := w.heap.size + 1) (o := 0) (v := .int .i64 so) (by simp [go_sem]); have r1 := hx.keep (k := w.heap.size + 1) (o := 1) (v := .int .i64 pl) (by simp [go_sem]); have r2 := hx.keep (k := w.heap.size + 1) (o := 2) (v := .int .i64 ph) (by simp [go_sem]); replace XX := XX.trans hy; clear hx hy; (go_wp2_with fail); (with_reducible refine (H2.out _).mono ?_); rintro e w2 ⟨rfl, hx⟩; have hy : Ext w1 w2 := by (repeat (first | exact Ext.refl _ | with_reducible (first | assumption | refine Ext.drew ?_ | refine Ext.alloc ?_ _ | refine Ext.drewN ?_ _ | refine Ext.setCell ?_ (by omega) _ | refine Ext.trans ?_ (by assumption))))
    replace XX := XX.trans hy; clear hx hy; (go_wp2_with fail); go_ret; exact ⟨rfl, XX⟩
end Go.Proofs.YtegkdnfeceomdaaGreat
/- Contracts of layer 8: all ranges of a case. Printed by gen_sh.py. -/
namespace Go.Proofs.YtegkdnfeceomdaaGreat
open Go.RowKit Go.Hs
attribute [local irreducible] World.setCell World.alloc
theorem info_drange : (Tryz.prog.info? 54).map (fun i => (i.zero, i.size, i.bytes)) = some (some (.agg #[.int .i64 0, .int .i64 0]), 2, 16) := by kernel_rfl
set_option maxRecDepth 100000 in
set_option maxHeartbeats 4000000 in
theorem ranges_d (A : CaseA) (c : DCas) (w : World) (hm : CaseM w A c) :
    Calls Tryz.prog 85 #[A.v c] w fun e w' => ∃ a q, e = .returned (.slice a (rngsD c).length q) ∧ Hs.Own 2 rngC w.heap.size 54 w' (.slice a (rngsD c).length q) (rngsD c) ∧ Ext w w' := by
  obtain ⟨i1, hi1, hz10, hz11, hz12⟩ := info_parts info_drange; have HP : Hid (∀ W, Ext w W → Cells4 W A.a1 (c.bk.pars.map Par.c)) := Lib.hid (fun W hx => hm.pars.ext hx); have HC : Hid (∀ W, Ext w W → Cells8 W A.a2 (c.bk.ents.map Ent.c)) := Lib.hid (fun W hx => hm.ents.ext hx); have HV : Hid (∀ W, Ext w W → Cells7 W A.a3 (c.covs.map Cov.c)) := Lib.hid (fun W hx => hm.covs.ext hx); have hp2 := hm.l1.2; have he2 := hm.l2.2; have hv2 := hm.l3.2; have HR : Hid (rngsD c = ((c.bk.ents.map (fun e => (e.dlo, e.dhi)) ++ c.bk.pars.map (fun p => (p.slo, p.shi))) ++ c.covs.map (fun x => (x.slo, x.shi))) ++ [(c.llo, c.lhi)]) := Lib.hid (by simp [rngsD]); generalize rngsD c = rs at *; clear hm; obtain ⟨a1, c1, a2, c2, a3, c3, a4, c4⟩ := A; unfold CaseA.v caseV; simp only at *; generalize c.bk.last = last at *; generalize c.bk.owners = owners at *; generalize c.bk.pars = ps at *; generalize c.bk.ents = es at *; generalize c.covs = cs at *; generalize c.clms.length = n4 at *; generalize c.soc = soc at *; generalize c.day = day at *; generalize c.parcel = parcel at *; generalize c.llo = llo at *; generalize c.lhi = lhi at *; clear c; go_enter Tryz.func85, Tryz.ntmps85
  (go_wp2_with fail); obtain ⟨W, hW⟩ : ∃ W, W = (w.alloc (.cells #[.int .i64 last, .int .i64 owners, .slice a1 ps.length c1, .slice a2 es.length c2, .int .i64 soc, .int .i64 day, .int .i64 parcel, .slice a3 cs.length c3, .int .i64 llo, .int .i64 lhi, .slice a4 n4 c4] 57)) := ⟨_, rfl⟩; have X : Ext w W := by subst hW; (repeat (first | exact Ext.refl _ | with_reducible (first | assumption | refine Ext.drew ?_ | refine Ext.alloc ?_ _ | refine Ext.drewN ?_ _ | refine Ext.setCell ?_ (by omega) _ | refine Ext.trans ?_ (by assumption))))
  have HS : Hid (∀ w', Ext W w' → (w'.cell? ⟨w.heap.size, 0, none⟩ = some (.int .i64 last) ∧ w'.cell? ⟨w.heap.size, 1, none⟩ = some (.int .i64 owners) ∧ w'.cell? ⟨w.heap.size, 2, none⟩ = some (.slice a1 ps.length c1) ∧ w'.cell? ⟨w.heap.size, 3, none⟩ = some (.slice a2 es.length c2) ∧ w'.cell? ⟨w.heap.size, 4, none⟩ = some (.int .i64 soc) ∧ w'.cell? ⟨w.heap.size, 5, none⟩ = some (.int .i64 day) ∧ w'.cell? ⟨w.heap.size, 6, none⟩ = some (.int .i64 parcel) ∧ w'.cell? ⟨w.heap.size, 7, none⟩ = some (.slice a3 cs.length c3) ∧ w'.cell? ⟨w.heap.size, 8, none⟩ = some (.int .i64 llo) ∧ w'.cell? ⟨w.heap.size, 9, none⟩ = some (.int .i64 lhi) ∧ w'.cell? ⟨w.heap.size, 10, none⟩ = some (.slice a4 n4 c4)) ∧ Ext W w') := Lib.hid (fun w' hx => ⟨⟨hx.keep (by subst hW; simp [go_sem]), hx.keep (by subst hW; simp [go_sem]), hx.keep (by subst hW; simp [go_sem]), hx.keep (by subst hW; simp [go_sem]), hx.keep (by subst hW; simp [go_sem]), hx.keep (by subst hW; simp [go_sem]), hx.keep (by subst hW; simp [go_sem]), hx.keep (by subst hW; simp [go_sem]), hx.keep (by subst hW; simp [go_sem]), hx.keep (by subst hW; simp [go_sem]), hx.keep (by subst hW; simp [go_sem])⟩, hx⟩); have HSf : Hid (∀ w', Ext W w' → ∀ o, w'.frozen? ⟨w.heap.size, o, none⟩ = false) := Lib.hid (fun w' hx o => (hx.frozen (by subst hW; simp)).trans (by subst hW; simp [go_sem])); have HSz : w.heap.size + 1 ≤ W.heap.size := by subst hW; simp
  rw [← hW]; clear hW; go_loopw [2, 13] (fun s2 s13 wr => ∃ (k m : Nat) (a5 : Option Addr) (q5 : Nat), k ≤ es.length ∧ m = 0 + k ∧ s13 = .int .i64 k ∧ s2 = .slice a5 m q5 ∧ Hid (Hs.Own 2 rngC W.heap.size 54 wr (.slice a5 m q5) ([] ++ (es.take k).map (fun e : Ent => (e.dlo, e.dhi)))) ∧ Ext W wr) (fun _ s _ => es.length - (intOf s).toNat)
  case atStart => exact ⟨0, 0, none, 0, Nat.zero_le _, rfl, rfl, rfl, Lib.hid (Hs.Own.nil _), Ext.refl _⟩
  case round =>
    obtain ⟨k, m, a5, q5, hk, hm, rfl, rfl, HO, hx⟩ := hrel; obtain ⟨wo, rfl⟩ : ∃ x, x = wr := ⟨_, rfl⟩; obtain ⟨⟨q0, q1, q2, q3, q4, q5', q6, q7, q8, q9, q10⟩, -⟩ := HS.out wo hx; by_cases hlt : k < es.length
    · obtain ⟨b', off, rfl, hce⟩ := HC.out wo (X.trans hx) k (by simpa using hlt); have e1 : (es.map Ent.c)[k]'(by simpa using hlt) = (es[k]).c := by simp
      rw [e1] at hce; have HT : Hid ([] ++ (es.take (k + 1)).map (fun e : Ent => (e.dlo, e.dhi)) = ([] ++ (es.take k).map (fun e : Ent => (e.dlo, e.dhi))) ++ [(fun e : Ent => (e.dlo, e.dhi)) es[k]]) := Lib.hid (by rw [List.take_succ_eq_append_getElem hlt, List.map_append, ← List.append_assoc]; rfl); have HL : Hid (([] ++ (es.take k).map (fun e : Ent => (e.dlo, e.dhi))).length = 0 + k) := Lib.hid (by simp; omega); generalize [] ++ (es.take k).map (fun e : Ent => (e.dlo, e.dhi)) = l0 at *; generalize hl1 : [] ++ (es.take (k + 1)).map (fun e : Ent => (e.dlo, e.dhi)) = l1 at *; have HL1 := Lib.hid hl1; clear hl1; generalize es[k] = en at *; obtain ⟨kd, pa, ot, fr, tt, pt, dl, dh⟩ := en; obtain ⟨m0, m1, m2, m3, m4, m5, m6, m7⟩ := hce; simp only [Ent.c] at m0 m1 m2 m3 m4 m5 m6 m7 HT; clear e1; have hk0 : (0 : Int) ≤ (k : Int) := by omega
      have hk1 : (k : Int) < (es.length : Int) := by omega
      have hsz : W.heap.size ≤ wo.heap.size := hx.size
      have HOW : Hid (∀ w', Ext wo w' → w'.ownsRow W.heap.size 54 2 (.slice a5 m q5) m (l0.flatMap rngC)) := Lib.hid (fun w' h => by
        have := Hs.Own.ext HO.out h; unfold Hs.Own at this; rw [HL.out, ← hm] at this; exact this)
      have HM := Lib.hid hm; clear hm; go_wp2_with (at_builtin; refine wpList_append_own_at _ rfl _ _ 151 rfl W.heap.size 54 i1 (.agg #[.int .i64 0, .int .i64 0]) 2 16 Tryz.underlying151 hi1 hz10 hz11 hz12 rfl (by decide) (.slice a5 m q5) m (l0.flatMap rngC) rfl ?own ⟨wo.heap.size + 1, 0, none⟩ 1 1 [.int .i64 dl, .int .i64 dh] rfl rfl (cells_two (Ext.refl _) (by simp)) ?one ?f1 ?f2 ?f3 ?next)
      case own => exact HOW.out _ (by (repeat (first | exact Ext.refl _ | with_reducible (first | assumption | refine Ext.drew ?_ | refine Ext.alloc ?_ _ | refine Ext.drewN ?_ _ | refine Ext.setCell ?_ (by omega) _ | refine Ext.trans ?_ (by assumption)))))
      case one => intro u hu; simp only [List.mem_cons, List.not_mem_nil, or_false] at hu; rcases hu with rfl | rfl <;> rfl
      case f1 => have := HM.out; simp only [maxLen]; omega
      case f2 => have := HM.out; omega
      case f3 => simp; omega
      case next =>
        intro v' w7 hown hgrow hnil hat
        have hx7 : Ext W w7 := grown_ext (hx.trans (by (repeat (first | exact Ext.refl _ | with_reducible (first | assumption | refine Ext.drew ?_ | refine Ext.alloc ?_ _ | refine Ext.drewN ?_ _ | refine Ext.setCell ?_ (by omega) _ | refine Ext.trans ?_ (by assumption)))))) hgrow (fun g hg => (own_lt (HOW.out wo (Ext.refl _)) hg).1); have HUR : Hid (Hs.Own 2 rngC W.heap.size 54 w7 v' ([] ++ (es.take (k + 1)).map (fun e : Ent => (e.dlo, e.dhi)))) := Lib.hid (by rw [HL1.out, HT.out]; exact Hs.Own.next hown (by rw [HL.out]; have := HM.out; omega) rfl); clear hnil hat hgrow; rcases own_open hown with ⟨-, h0⟩ | ⟨g', cap, rfl, -, -, -, -⟩
        · omega
        · clear hown; have hm' := HM.out; (go_wp2_with fail); go_roundw
          case rel => exact ⟨k + 1, m + 1, _, _, by omega, by omega, by go_num, rfl, HUR, hx7⟩
          case measure => simp [intOf]; omega
    · obtain rfl : k = es.length := by omega
      have HO2 := HO.out; rw [List.nil_append, List.take_length] at HO2; have HM2 : m = es.length := by omega
      have HOQ := Lib.hid HO2; clear HO2 HO hm; (go_wp2_with fail); go_loopw [2, 27] (fun s2 s27 wr => ∃ (k m : Nat) (a5 : Option Addr) (q5 : Nat), k ≤ ps.length ∧ m = es.length + k ∧ s27 = .int .i64 k ∧ s2 = .slice a5 m q5 ∧ Hid (Hs.Own 2 rngC W.heap.size 54 wr (.slice a5 m q5) (es.map (fun e : Ent => (e.dlo, e.dhi)) ++ (ps.take k).map (fun p : Par => (p.slo, p.shi)))) ∧ Ext W wr) (fun _ s _ => ps.length - (intOf s).toNat)
      case atStart => exact ⟨0, m, a5, q5, Nat.zero_le _, by omega, rfl, rfl, Lib.hid (by rw [List.take_zero, List.map_nil, List.append_nil]; exact HOQ.out), hx⟩
      case round =>
        obtain ⟨k, m, a5, q5, hk, hm, rfl, rfl, HO, hx⟩ := hrel; obtain ⟨wo, rfl⟩ : ∃ x, x = wr := ⟨_, rfl⟩; obtain ⟨⟨q0, q1, q2, q3, q4, q5', q6, q7, q8, q9, q10⟩, -⟩ := HS.out wo hx; by_cases hlt : k < ps.length
        · obtain ⟨b', off, rfl, hce⟩ := HP.out wo (X.trans hx) k (by simpa using hlt); have e1 : (ps.map Par.c)[k]'(by simpa using hlt) = (ps[k]).c := by simp
          rw [e1] at hce; have HT : Hid (es.map (fun e : Ent => (e.dlo, e.dhi)) ++ (ps.take (k + 1)).map (fun p : Par => (p.slo, p.shi)) = (es.map (fun e : Ent => (e.dlo, e.dhi)) ++ (ps.take k).map (fun p : Par => (p.slo, p.shi))) ++ [(fun p : Par => (p.slo, p.shi)) ps[k]]) := Lib.hid (by rw [List.take_succ_eq_append_getElem hlt, List.map_append, ← List.append_assoc]; rfl); have HL : Hid ((es.map (fun e : Ent => (e.dlo, e.dhi)) ++ (ps.take k).map (fun p : Par => (p.slo, p.shi))).length = es.length + k) := Lib.hid (by simp; omega); generalize es.map (fun e : Ent => (e.dlo, e.dhi)) ++ (ps.take k).map (fun p : Par => (p.slo, p.shi)) = l0 at *; generalize hl1 : es.map (fun e : Ent => (e.dlo, e.dhi)) ++ (ps.take (k + 1)).map (fun p : Par => (p.slo, p.shi)) = l1 at *; have HL1 := Lib.hid hl1; clear hl1; generalize ps[k] = en at *; obtain ⟨ow, va, dl, dh⟩ := en; obtain ⟨m0, m1, m2, m3⟩ := hce; simp only [Par.c] at m0 m1 m2 m3 HT; clear e1; have hk0 : (0 : Int) ≤ (k : Int) := by omega
          have hk1 : (k : Int) < (ps.length : Int) := by omega
          have hsz : W.heap.size ≤ wo.heap.size := hx.size
          have HOW : Hid (∀ w', Ext wo w' → w'.ownsRow W.heap.size 54 2 (.slice a5 m q5) m (l0.flatMap rngC)) := Lib.hid (fun w' h => by
            have := Hs.Own.ext HO.out h; unfold Hs.Own at this; rw [HL.out, ← hm] at this; exact this)
          have HM := Lib.hid hm; clear hm; go_wp2_with (at_builtin; refine wpList_append_own_at _ rfl _ _ 151 rfl W.heap.size 54 i1 (.agg #[.int .i64 0, .int .i64 0]) 2 16 Tryz.underlying151 hi1 hz10 hz11 hz12 rfl (by decide) (.slice a5 m q5) m (l0.flatMap rngC) rfl ?own ⟨wo.heap.size + 1, 0, none⟩ 1 1 [.int .i64 dl, .int .i64 dh] rfl rfl (cells_two (Ext.refl _) (by simp)) ?one ?f1 ?f2 ?f3 ?next)
          case own => exact HOW.out _ (by (repeat (first | exact Ext.refl _ | with_reducible (first | assumption | refine Ext.drew ?_ | refine Ext.alloc ?_ _ | refine Ext.drewN ?_ _ | refine Ext.setCell ?_ (by omega) _ | refine Ext.trans ?_ (by assumption)))))
          case one => intro u hu; simp only [List.mem_cons, List.not_mem_nil, or_false] at hu; rcases hu with rfl | rfl <;> rfl
          case f1 => have := HM.out; simp only [maxLen]; omega
          case f2 => have := HM.out; omega
          case f3 => simp; omega
          case next =>
            intro v' w7 hown hgrow hnil hat
            have hx7 : Ext W w7 := grown_ext (hx.trans (by (repeat (first | exact Ext.refl _ | with_reducible (first | assumption | refine Ext.drew ?_ | refine Ext.alloc ?_ _ | refine Ext.drewN ?_ _ | refine Ext.setCell ?_ (by omega) _ | refine Ext.trans ?_ (by assumption)))))) hgrow (fun g hg => (own_lt (HOW.out wo (Ext.refl _)) hg).1); have HUR : Hid (Hs.Own 2 rngC W.heap.size 54 w7 v' (es.map (fun e : Ent => (e.dlo, e.dhi)) ++ (ps.take (k + 1)).map (fun p : Par => (p.slo, p.shi)))) := Lib.hid (by rw [HL1.out, HT.out]; exact Hs.Own.next hown (by rw [HL.out]; have := HM.out; omega) rfl); clear hnil hat hgrow; rcases own_open hown with ⟨-, h0⟩ | ⟨g', cap, rfl, -, -, -, -⟩
            · omega
            · clear hown; have hm' := HM.out; (go_wp2_with fail); go_roundw
              case rel => exact ⟨k + 1, m + 1, _, _, by omega, by omega, by go_num, rfl, HUR, hx7⟩
              case measure => simp [intOf]; omega
        · obtain rfl : k = ps.length := by omega
          have HO2 := HO.out; rw [List.take_length] at HO2; have HM3 : m = es.length + ps.length := by omega
          have HOR := Lib.hid HO2; clear HO2 HO hm; (go_wp2_with fail); go_loopw [2, 40] (fun s2 s40 wr => ∃ (k m : Nat) (a5 : Option Addr) (q5 : Nat), k ≤ cs.length ∧ m = es.length + ps.length + k ∧ s40 = .int .i64 k ∧ s2 = .slice a5 m q5 ∧ Hid (Hs.Own 2 rngC W.heap.size 54 wr (.slice a5 m q5) ((es.map (fun e : Ent => (e.dlo, e.dhi)) ++ ps.map (fun p : Par => (p.slo, p.shi))) ++ (cs.take k).map (fun x : Cov => (x.slo, x.shi)))) ∧ Ext W wr) (fun _ s _ => cs.length - (intOf s).toNat)
          case atStart => exact ⟨0, m, a5, q5, Nat.zero_le _, by omega, rfl, rfl, Lib.hid (by rw [List.take_zero, List.map_nil, List.append_nil]; exact HOR.out), hx⟩
          case round =>
            obtain ⟨k, m, a5, q5, hk, hm, rfl, rfl, HO, hx⟩ := hrel; obtain ⟨wo, rfl⟩ : ∃ x, x = wr := ⟨_, rfl⟩; obtain ⟨⟨q0, q1, q2, q3, q4, q5', q6, q7, q8, q9, q10⟩, -⟩ := HS.out wo hx; by_cases hlt : k < cs.length
            · obtain ⟨b', off, rfl, hce⟩ := HV.out wo (X.trans hx) k (by simpa using hlt); have e1 : (cs.map Cov.c)[k]'(by simpa using hlt) = (cs[k]).c := by simp
              rw [e1] at hce; have HT : Hid ((es.map (fun e : Ent => (e.dlo, e.dhi)) ++ ps.map (fun p : Par => (p.slo, p.shi))) ++ (cs.take (k + 1)).map (fun x : Cov => (x.slo, x.shi)) = ((es.map (fun e : Ent => (e.dlo, e.dhi)) ++ ps.map (fun p : Par => (p.slo, p.shi))) ++ (cs.take k).map (fun x : Cov => (x.slo, x.shi))) ++ [(fun x : Cov => (x.slo, x.shi)) cs[k]]) := Lib.hid (by rw [List.take_succ_eq_append_getElem hlt, List.map_append, ← List.append_assoc]; rfl); have HL : Hid (((es.map (fun e : Ent => (e.dlo, e.dhi)) ++ ps.map (fun p : Par => (p.slo, p.shi))) ++ (cs.take k).map (fun x : Cov => (x.slo, x.shi))).length = es.length + ps.length + k) := Lib.hid (by simp; omega); generalize (es.map (fun e : Ent => (e.dlo, e.dhi)) ++ ps.map (fun p : Par => (p.slo, p.shi))) ++ (cs.take k).map (fun x : Cov => (x.slo, x.shi)) = l0 at *; generalize hl1 : (es.map (fun e : Ent => (e.dlo, e.dhi)) ++ ps.map (fun p : Par => (p.slo, p.shi))) ++ (cs.take (k + 1)).map (fun x : Cov => (x.slo, x.shi)) = l1 at *; have HL1 := Lib.hid hl1; clear hl1; generalize cs[k] = en at *; obtain ⟨so, ow, pa, su, ti, dl, dh⟩ := en; obtain ⟨m0, m1, m2, m3, m4, m5, m6⟩ := hce; simp only [Cov.c] at m0 m1 m2 m3 m4 m5 m6 HT; clear e1; have hk0 : (0 : Int) ≤ (k : Int) := by omega
              have hk1 : (k : Int) < (cs.length : Int) := by omega
              have hsz : W.heap.size ≤ wo.heap.size := hx.size
              have HOW : Hid (∀ w', Ext wo w' → w'.ownsRow W.heap.size 54 2 (.slice a5 m q5) m (l0.flatMap rngC)) := Lib.hid (fun w' h => by
                have := Hs.Own.ext HO.out h; unfold Hs.Own at this; rw [HL.out, ← hm] at this; exact this)
              have HM := Lib.hid hm; clear hm; go_wp2_with (at_builtin; refine wpList_append_own_at _ rfl _ _ 151 rfl W.heap.size 54 i1 (.agg #[.int .i64 0, .int .i64 0]) 2 16 Tryz.underlying151 hi1 hz10 hz11 hz12 rfl (by decide) (.slice a5 m q5) m (l0.flatMap rngC) rfl ?own ⟨wo.heap.size + 1, 0, none⟩ 1 1 [.int .i64 dl, .int .i64 dh] rfl rfl (cells_two (Ext.refl _) (by simp)) ?one ?f1 ?f2 ?f3 ?next)
              case own => exact HOW.out _ (by (repeat (first | exact Ext.refl _ | with_reducible (first | assumption | refine Ext.drew ?_ | refine Ext.alloc ?_ _ | refine Ext.drewN ?_ _ | refine Ext.setCell ?_ (by omega) _ | refine Ext.trans ?_ (by assumption)))))
              case one => intro u hu; simp only [List.mem_cons, List.not_mem_nil, or_false] at hu; rcases hu with rfl | rfl <;> rfl
              case f1 => have := HM.out; simp only [maxLen]; omega
              case f2 => have := HM.out; omega
              case f3 => simp; omega
              case next =>
                intro v' w7 hown hgrow hnil hat
                have hx7 : Ext W w7 := grown_ext (hx.trans (by (repeat (first | exact Ext.refl _ | with_reducible (first | assumption | refine Ext.drew ?_ | refine Ext.alloc ?_ _ | refine Ext.drewN ?_ _ | refine Ext.setCell ?_ (by omega) _ | refine Ext.trans ?_ (by assumption)))))) hgrow (fun g hg => (own_lt (HOW.out wo (Ext.refl _)) hg).1); have HUR : Hid (Hs.Own 2 rngC W.heap.size 54 w7 v' ((es.map (fun e : Ent => (e.dlo, e.dhi)) ++ ps.map (fun p : Par => (p.slo, p.shi))) ++ (cs.take (k + 1)).map (fun x : Cov => (x.slo, x.shi)))) := Lib.hid (by rw [HL1.out, HT.out]; exact Hs.Own.next hown (by rw [HL.out]; have := HM.out; omega) rfl); clear hnil hat hgrow; rcases own_open hown with ⟨-, h0⟩ | ⟨g', cap, rfl, -, -, -, -⟩
                · omega
                · clear hown; have hm' := HM.out; (go_wp2_with fail); go_roundw
                  case rel => exact ⟨k + 1, m + 1, _, _, by omega, by omega, by go_num, rfl, HUR, hx7⟩
                  case measure => simp [intOf]; omega
            · obtain rfl : k = cs.length := by omega
              have HL : Hid (((es.map (fun e : Ent => (e.dlo, e.dhi)) ++ ps.map (fun p : Par => (p.slo, p.shi))) ++ cs.map (fun x : Cov => (x.slo, x.shi))).length = es.length + ps.length + cs.length) := Lib.hid (by simp; omega)
              have HF : Hid (m = es.length + ps.length + cs.length ∧ Hs.Own 2 rngC W.heap.size 54 wo (.slice a5 m q5) ((es.map (fun e : Ent => (e.dlo, e.dhi)) ++ ps.map (fun p : Par => (p.slo, p.shi))) ++ cs.map (fun x : Cov => (x.slo, x.shi)))) := Lib.hid (by
                have h := HO.out; rw [List.take_length] at h; exact ⟨by omega, h⟩)
              have HRL : Hid (rs.length = es.length + ps.length + cs.length + 1) := Lib.hid (by rw [HR.out, List.length_append, HL.out]; rfl); generalize (es.map (fun e : Ent => (e.dlo, e.dhi)) ++ ps.map (fun p : Par => (p.slo, p.shi))) ++ cs.map (fun x : Cov => (x.slo, x.shi)) = l0 at *
              have HOW : Hid (∀ w', Ext wo w' → w'.ownsRow W.heap.size 54 2 (.slice a5 m q5) m (l0.flatMap rngC)) := Lib.hid (fun w' h => by
                have := Hs.Own.ext HF.out.2 h; unfold Hs.Own at this; rw [HL.out, ← HF.out.1] at this; exact this)
              have hsz : W.heap.size ≤ wo.heap.size := hx.size; have HM := Lib.hid HF.out.1; clear hm HO; go_wp2_with (at_builtin; refine wpList_append_own_at _ rfl _ _ 151 rfl W.heap.size 54 i1 (.agg #[.int .i64 0, .int .i64 0]) 2 16 Tryz.underlying151 hi1 hz10 hz11 hz12 rfl (by decide) (.slice a5 m q5) m (l0.flatMap rngC) rfl ?own ⟨wo.heap.size, 0, none⟩ 1 1 [.int .i64 llo, .int .i64 lhi] rfl rfl (cells_two (Ext.refl _) (by simp)) ?one ?f1 ?f2 ?f3 ?next)
              case own => exact HOW.out _ (by (repeat (first | exact Ext.refl _ | with_reducible (first | assumption | refine Ext.drew ?_ | refine Ext.alloc ?_ _ | refine Ext.drewN ?_ _ | refine Ext.setCell ?_ (by omega) _ | refine Ext.trans ?_ (by assumption)))))
              case one => intro u hu; simp only [List.mem_cons, List.not_mem_nil, or_false] at hu; rcases hu with rfl | rfl <;> rfl
              case f1 => have := HM.out; simp only [maxLen]; omega
              case f2 => have := HM.out; omega
              case f3 => simp; omega
              case next =>
                intro v' w7 hown hgrow hnil hat
                have hx7 : Ext W w7 := grown_ext (hx.trans (by (repeat (first | exact Ext.refl _ | with_reducible (first | assumption | refine Ext.drew ?_ | refine Ext.alloc ?_ _ | refine Ext.drewN ?_ _ | refine Ext.setCell ?_ (by omega) _ | refine Ext.trans ?_ (by assumption)))))) hgrow (fun g hg => (own_lt (HOW.out wo (Ext.refl _)) hg).1); have HUR : Hid (Hs.Own 2 rngC W.heap.size 54 w7 v' rs) := Lib.hid (by rw [HR.out]; exact Hs.Own.next hown (by rw [HL.out]; have := HM.out; omega) rfl); clear hnil hat hgrow; rcases own_open hown with ⟨-, h0⟩ | ⟨g', cap, rfl, -, -, -, -⟩
                · omega
                · clear hown; have hm' : m + 1 = rs.length := by rw [HRL.out, HM.out]
                  rw [hm'] at HUR; have HM' := Lib.hid hm'; clear hm'; (go_wp2_with fail); rw [HM'.out]; go_ret; exact ⟨_, _, rfl, HUR.out.base X.size, X.trans hx7⟩
end Go.Proofs.YtegkdnfeceomdaaGreat
/- slices.Clone of a list of integers. -/
namespace Go.Proofs.YtegkdnfeceomdaaGreat
open Go.RowKit Go.Hs
attribute [local irreducible] World.setCell World.alloc
set_option maxRecDepth 100000 in
theorem clone_x (v : Value) (xs : List Int) (w : World) (hv : IntsV w v xs) (hl : xs.length ≤ 1000) :
    Calls Tryz.prog 66 #[v] w fun e w' => ∃ v', e = .returned v' ∧ w'.ownsRow w.heap.size 3 1 v' xs.length (xs.map (.int .i64)) ∧ Ext w w' := by
  obtain ⟨a, c, rfl, h1, h2, hr⟩ := hv; obtain ⟨i0, hi, hz0, hz1, hz2⟩ := info_parts info_int; by_cases h0 : xs = []
  · subst h0; cases a with
    | none =>
      have hnl : ∀ w, (binOp .eql 22 (.slice none 0 c) (.slice none 0 0)).run Tryz.prog w = .ok (.bool true) w := fun w => Lib.run_eql_slice_nil w _ _ none 0 c 0 0 Tryz.underlying22
      go_enter Tryz.func66, Tryz.ntmps66
      (go_wp2_with fail); go_ret; exact ⟨_, rfl, World.ownsRow_nil _ _ _ _, by (repeat (first | exact Ext.refl _ | with_reducible (first | assumption | refine Ext.drew ?_ | refine Ext.alloc ?_ _ | refine Ext.drewN ?_ _ | refine Ext.setCell ?_ (by omega) _ | refine Ext.trans ?_ (by assumption))))⟩
    | some p =>
      have hnl : ∀ w, (binOp .eql 22 (.slice (some p) 0 c) (.slice none 0 0)).run Tryz.prog w = .ok (.bool false) w := fun w => Lib.run_eql_slice_nil w _ _ (some p) 0 c 0 0 Tryz.underlying22
      go_enter Tryz.func66, Tryz.ntmps66
      go_wp2_with (at_builtin; refine wpList_append_none rfl _ _ 22 rfl 3 i0 Tryz.underlying22 hi _ _ _ _ _ (Nat.le_refl _) rfl rfl ?_)
      go_ret; exact ⟨_, rfl, ⟨rfl, .inr ⟨_, _, _, rfl, Nat.le_refl _, heap_alloc_new _ _, Nat.le_refl _, by simp, rfl, rfl⟩⟩, by (repeat (first | exact Ext.refl _ | with_reducible (first | assumption | refine Ext.drew ?_ | refine Ext.alloc ?_ _ | refine Ext.drewN ?_ _ | refine Ext.setCell ?_ (by omega) _ | refine Ext.trans ?_ (by assumption))))⟩
  · have hpos : 0 < xs.length := List.length_pos_iff.2 h0; obtain ⟨b, off, rfl, hc⟩ := hr 0 hpos; have HR := Lib.hid hr; have H0 := Lib.hid h0; clear hr h0 hc; have hnl : ∀ w, (binOp .eql 22 (.slice (some ⟨b, off, none⟩) xs.length c) (.slice none 0 0)).run Tryz.prog w = .ok (.bool false) w := fun w => Lib.run_eql_slice_nil w _ _ (some ⟨b, off, none⟩) xs.length c 0 0 Tryz.underlying22
    go_enter Tryz.func66, Tryz.ntmps66
    go_wp2_with (at_builtin; refine wpList_append_own_at _ rfl _ _ 22 rfl w.heap.size 3 i0 (.int .i64 0) 1 8 Tryz.underlying22 hi hz0 hz1 hz2 rfl (by decide) (.slice (some ⟨w.heap.size, 0, none⟩) 0 0) 0 [] rfl ?own ⟨b, off, none⟩ xs.length c (xs.map (.int .i64)) rfl ?len ?cells ?one ?fit1 ?fit2 ?fit3 ?next)
    case own => exact ⟨rfl, .inr ⟨_, _, _, rfl, Nat.le_refl _, heap_alloc_new _ _, Nat.le_refl _, by simp, rfl, rfl⟩⟩
    case len => simp
    case cells =>
      intro j u hj
      have hj' : j < xs.length := by
        rcases Nat.lt_or_ge j xs.length with h | h
        · exact h
        · rw [List.getElem?_eq_none (by simpa using h)] at hj; cases hj
      have := (Rows.at HR.out j hj').1; rw [add_none']; simp [hj'] at hj
      rw [← hj]; exact ((Ext.refl w).alloc _).keep (by simpa using this)
    case one =>
      intro u hu
      obtain ⟨x, -, rfl⟩ := List.mem_map.1 hu; rfl
    case fit1 => simp only [maxLen]; omega
    case fit2 => omega
    case fit3 => simp
    case next =>
      intro v' w' hown hgrow hnil hat
      have hx : Ext w w' := grown_ext ((Ext.refl w).alloc _) hgrow (fun g hg => by simp [Value.ownBlock] at hg; omega); have OWN : Hid (w'.ownsRow w.heap.size 3 1 v' xs.length (xs.map (.int .i64))) := Lib.hid (by simpa using hown); rcases own_open hown with ⟨-, h0⟩ | ⟨g, cap, rfl, hB, hlt, hcap, hcells⟩
      · omega
      · clear hnil hat hown hgrow; (go_wp2_with fail); go_ret; exact ⟨_, rfl, OWN.out, hx⟩
end Go.Proofs.YtegkdnfeceomdaaGreat
/- Contracts: the numbers of a range, and all three counts of a field, one after the other. -/
namespace Go.Hs
open Go.RowKit
structure RanC (b : Nat) (lo hi : Int) (w : World) : Prop where
  lo : w.cell? ⟨b, 0, none⟩ = some (.int .i64 lo)
  hi : w.cell? ⟨b, 1, none⟩ = some (.int .i64 hi)
theorem RanC.below {b n : Nat} {lo hi : Int} {w w' : World} (h : RanC b lo hi w) (hx : Below n w w') (hb : b < n) : RanC b lo hi w' :=
  ⟨(hx.cell (p := ⟨b, 0, none⟩) hb).trans h.lo, (hx.cell (p := ⟨b, 1, none⟩) hb).trans h.hi⟩
theorem RanC.kept {b n : Nat} {lo hi : Int} {w w' : World} (h : RanC b lo hi w) (hx : Kept n w w') (hb : n ≤ b) : RanC b lo hi w' := ⟨hx.cell hb h.lo, hx.cell hb h.hi⟩
end Go.Hs
namespace Go.Proofs.YtegkdnfeceomdaaGreat
open Go.RowKit Go.Hs
attribute [local irreducible] World.setCell World.alloc
attribute [local go_sem] Oper.semAt_some
attribute [local simp] wide_fn wide_fn' wide_depth wide_round
attribute [local go_sem] wide_fn wide_fn' wide_depth wide_round
structure TrO (L B : Nat) (al ah : Int) (W' : World) : Prop where
  y : W'.cell? ⟨B, 0, none⟩ = some (.func (.yield L) #[] #[])
  a : RanC (B + 1) al ah W'
  s : B + 2 ≤ W'.heap.size
theorem TrO.below {L B n : Nat} {al ah : Int} {w w' : World} (h : TrO L B al ah w) (hx : Below n w w') (hn : B + 2 ≤ n) : TrO L B al ah w' :=
  ⟨(hx.cell (p := ⟨B, 0, none⟩) (by show B < n; omega)).trans h.y, h.a.below hx (by omega), Nat.le_trans h.s hx.size⟩
theorem TrO.kept {L B n : Nat} {al ah : Int} {w w' : World} (h : TrO L B al ah w) (hx : Kept n w w') (hn : n ≤ B) : TrO L B al ah w' :=
  ⟨hx.cell hn h.y, h.a.kept hx (by omega), Nat.le_trans h.s hx.1⟩
def NumC (b : Nat) (x : Int) (w : World) : Prop := w.cell? ⟨b, 0, none⟩ = some (.int .i64 x)
theorem NumC.below {b n : Nat} {x : Int} {w w' : World} (h : NumC b x w) (hx : Below n w w') (hb : b < n) : NumC b x w' := (hx.cell (p := ⟨b, 0, none⟩) hb).trans h
structure TrB (L B : Nat) (al ah : Int) (ba : Nat) (xa : Int) (br : Nat) (bl bh : Int) (D : Nat) (W2 W' : World) : Prop where
  o : TrO L B al ah W'
  a : NumC ba xa W'
  r : RanC br bl bh W'
  k : Kept D W2 W'
theorem TrB.below {L B : Nat} {al ah : Int} {ba : Nat} {xa : Int} {br : Nat} {bl bh : Int} {D n : Nat} {W2 w w' : World} (h : TrB L B al ah ba xa br bl bh D W2 w) (hx : Below n w w')
    (h1 : B + 2 ≤ n) (h2 : ba < n) (h3 : br < n) (h4 : W2.heap.size ≤ n) : TrB L B al ah ba xa br bl bh D W2 w' :=
  ⟨h.o.below hx h1, h.a.below hx h2, h.r.below hx h3, h.k.below hx h4⟩
theorem NumC.kept {b n : Nat} {x : Int} {w w' : World} (h : NumC b x w) (hx : Kept n w w') (hb : n ≤ b) : NumC b x w' := hx.cell hb h
theorem TrB.kept {L B : Nat} {al ah : Int} {ba : Nat} {xa : Int} {br : Nat} {bl bh : Int} {D n : Nat} {W2 w w' : World} (h : TrB L B al ah ba xa br bl bh D W2 w) (hx : Kept n w w')
    (h1 : n ≤ B) (h2 : n ≤ ba) (h3 : n ≤ br) (h4 : n ≤ D) : TrB L B al ah ba xa br bl bh D W2 w' :=
  ⟨h.o.kept hx h1, h.a.kept hx h2, h.r.kept hx h3, h.k.trans (hx.mono h4)⟩
theorem RoundIn.inR {P : Program} {L : Nat} {f : FuncId} {t : Array Value} {a b : Code} {w : World} {R : Ending → World → Prop} (l : Nat) (h : RoundIn Fence.wide 0 P L f t a b w R) : RoundIn (Fence.wide.inRound l) 0 P L f t a b w R := h
end Go.Proofs.YtegkdnfeceomdaaGreat
/- What goes through a list with a function, of package tariff: slices.IndexFunc, slices.ContainsFunc, all. Printed by gen_all.py. -/
namespace Go.Proofs.YtegkdnfeceomdaaGreat
open Go.RowKit Go.Hs
end Go.Proofs.YtegkdnfeceomdaaGreat
/- Contracts: the small functions of package tariff. -/
namespace Go.Proofs.YtegkdnfeceomdaaGreat
open Go.RowKit Go.Hs
def ofB (lo hi most : Int) : Bool := decide (0 ≤ lo) && decide (lo ≤ hi) && decide (hi ≤ most)
end Go.Proofs.YtegkdnfeceomdaaGreat
/- Contracts: what is valid. -/
namespace Go.Proofs.YtegkdnfeceomdaaGreat
open Go.RowKit Go.Hs
end Go.Proofs.YtegkdnfeceomdaaGreat
/- Contracts: a valid tariff. -/
namespace Go.Proofs.YtegkdnfeceomdaaGreat
open Go.RowKit Go.Hs
end Go.Proofs.YtegkdnfeceomdaaGreat
/- Contracts: the list of tariffs, and tariffs at work. -/
namespace Go.Proofs.YtegkdnfeceomdaaGreat
open Go.RowKit Go.Hs
end Go.Proofs.YtegkdnfeceomdaaGreat
