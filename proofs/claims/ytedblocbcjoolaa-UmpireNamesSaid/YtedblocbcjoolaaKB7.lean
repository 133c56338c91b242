/- Bundled: what the texts UBQ US UT UU UV UW EG UX say one after another. -/
import Derived.Test.YtedblocbcjoolaaKB1
import Derived.Deep.Quiet
import Derived.Test.YtedblocbcjoolaaKB6
import Derived.WalkMore
import Derived.Maps.RangeRun
import Derived.ChangeKeysEq
import Derived.Laws.StructEq
import Derived.Test.YtedblocbcjoolaaKB5
import Derived.RegionTactic
import Derived.BigRegion
import Derived.Deep.CutRange
import Derived.Deep.DeepCutAuto
import Derived.Deep.AppendLies
/- A drawn region within a round; the loop over an iterator in a plain walk. -/
namespace Go.Hs
open Go.RowKit
def noDefer (ops : Array Oper) : Bool := ops.toList.all (fun o => match o.op with | .defer _ => false | _ => true)
section
variable {P : Program} {ops : Array Oper} {Q : Exit → Act → World → Prop} {md : Region.Mode} {n l : Nat}
theorem uponIn_of {o : Oper} {a : Act} {K : Act → World → Prop} {r : Result Next} (h : o.upon P a K Q r) : o.uponIn (Fence.wide.inRound l) n P a K Q r := by
  cases r with
  | ok x w' =>
    cases x with
    | value v => exact h
    | skip => exact h
    | defer d => exact h
    | enter f args =>
      refine ⟨fun hd => by simp [Fence.inRound, Fence.wide] at hd, CallsIn.inRound l (callsIn_wide.2 (Calls.mono h ?_))⟩
      intro e w'' he
      cases e <;> exact he
    | row row args =>
      refine ⟨fun hd => by simp [Fence.inRound, Fence.wide] at hd, fun c cs _ => ?_⟩
      obtain ⟨v, w', hr, hs⟩ := h c cs
      exact ⟨v, w', hr, stepsIn_wide.2 hs⟩
    | _ => exact h.elim
  | halt x w' =>
    cases x with
    | panic v => exact h
    | _ => exact h.elim
theorem operIn_of {o : Oper} {a : Act} {w : World} {K : Act → World → Prop} (hnd : ∀ c, o.op ≠ .defer c) (h : o.wp P a w K Q) : o.wpIn (Fence.wide.inRound l) n P a w K Q :=
  ⟨fun _ _ => trivial, by rw [Oper.semAt_eq _ _ _ hnd]; exact uponIn_of h⟩
theorem opIn_of {C : World → Prop} {i : Nat} {a : Act} {w : World} {K : Act → Prop} {K' : Act → World → Prop} (hnd : noDefer ops = true) (hC : C w) (hk : ∀ a w', C w' → K a → K' a w') (h : qOp P ops C i K a) : wpOpIn (Fence.wide.inRound l) n P ops Q i K' a w := by
  unfold qOp at h
  unfold wpOpIn
  cases ho : ops[i]? with
  | none => simp only [ho] at h; exact hk _ _ hC h
  | some o =>
    simp only [ho] at h ⊢
    split
    · rename_i hw
      rw [if_pos hw] at h
      refine operIn_of (fun c hc => ?_) (Oper.wp_of_quiet hC hk h)
      have hm : o ∈ ops.toList := by
        obtain ⟨hi, rfl⟩ := Array.getElem?_eq_some_iff.1 ho
        simp
      have := List.all_eq_true.1 hnd o hm
      rw [hc] at this; cases this
    · rename_i hw
      rw [if_neg hw] at h
      exact ⟨fun _ _ => trivial, hk _ _ hC h⟩
theorem anyIn_of {C : World → Prop} {Q0 : Act → Prop} (hnd : noDefer ops = true) (hQ : ∀ a w, C w → Q0 a → Q .normal a w) : ∀ (fuel : Nat) (listed : Array Bool) (a : Act) (w : World), C w → wpAnyQ P md ops C Q0 fuel listed a → wpAnyIn (Fence.wide.inRound l) n P md ops Q fuel listed a w
  | 0, _, _, _, hC, h => ⟨h.1, hQ _ _ hC h.2⟩
  | fuel + 1, _, _, _, hC, h => ⟨fun h0 => hQ _ _ hC (h.1 h0), fun i hi => opIn_of hnd hC (fun a w hw h => anyIn_of hnd hQ fuel _ a w hw h) (h.2 i hi)⟩
/-- One walk in the text's order serves all orders, within a round. -/
theorem wpIn_round_quiet {C : World → Prop} {id : Nat} {a : Act} {w : World} (hm : P.follows .mixedOrders = true) (hB : Region.lexB .any ops = true) (hnd : noDefer ops = true) (hC : C { w with drawn := w.drawn + 1 })
    (h : wpQuiet P ops C (fun a' => ∀ w', C w' → Q .normal a' w') ops.toList a) : (Code.region id ops true).wpIn (Fence.wide.inRound l) n P Q a w := by
  simp only [Region.lexB, Bool.and_eq_true] at hB
  refine wpIn_region_any hm (anyIn_of (Q0 := fun a' => ∀ w', C w' → Q .normal a' w') hnd (fun _ w' hw' h => h w' hw') _ _ _ _ hC ?_)
  have := wpAnyQ_lex (C := C) (md := .any) hB.1 ops.toList 0 (Array.replicate ops.size false) a (by simp) (by simpa using hB.2) h
  simpa using this
end
end Go.Hs
namespace Go.Proofs.Ytedblocbcjoolaa
open Go.RowKit Go.Hs
/-- The loop over an iterator, in a plain walk. -/
theorem each_wp {g : Operand} {ps : Array Tmp} {assign body : Code} {Q : Exit → Act → World → Prop} {a : Act} {w : World} {f : FuncId} {caps : Array Value} {vs : List Value} {K : World → Prop}
    (hg : a.eval g = .func (.func f) #[] caps) (hF : FnOK f) (hps : ps.size = 1) (J : Nat → World → Prop) (Jx : Code → World → Prop)
    (hgv : Gives f caps vs K) (hK : ∀ i W, J i W → K W)
    (hJ : ∀ i A B, J i A → Below w.heap.size A B → J i B) (hJx : ∀ c A B, Jx c A → Below w.heap.size A B → Jx c B) (h0 : J 0 w)
    (hround : ∀ (i : Nat) (h : i < vs.length) (W : World), J i W → w.heap.size + 1 < W.heap.size →
      assign.wpIn (Fence.wide.inRound (w.heap.size + 1)) 0 Try.prog (Exit.then (fun a1 W1 => Kept w.heap.size W W1 ∧ ∀ W2, Turned (w.heap.size + 1) W1 W2 → (∃ r, W2.heap[w.heap.size + 1]? = some (.loop r)) →
        body.wpIn (Fence.wide.inRound (w.heap.size + 1)) 0 Try.prog (roundEnd w.heap.size (J (i + 1)) Jx W2) a1 W2) (fun _ _ _ => False))
        { tmps := (ps.zip #[vs[i]]).foldl (fun t (p, v) => t.setIfInBounds p v) a.tmps, defers := [] } W)
    (hdone : ∀ W, J vs.length W → W.heap[w.heap.size]? = some (.deferred (some [])) → Q .normal { a with defers := { target := .collected w.heap.size, args := #[] } :: a.defers } W)
    (hstop : ∀ c W, Jx c W → W.heap[w.heap.size]? = some (.deferred (some [])) → c.wp Try.prog Q { a with defers := { target := .collected w.heap.size, args := #[] } :: a.defers } W) :
    (Code.rangeFunc g ps assign body).wp Try.prog Q a w :=
  wpIn_wide.1 (each_outer hg hF hps J Jx hgv hK hJ hJx h0 hround hdone (fun c W h hd => wpIn_wide.2 (hstop c W h hd)))
end Go.Proofs.Ytedblocbcjoolaa

/- Contracts of layer 7: whether the umpire matters for a field. -/
namespace Go.Hs
open Go.RowKit
def mT (c : Cas) (f : Fld) (i k : Nat) : Bool := payC c f (settledS f ⟨(truthAt f i).a, (truthAt f i).b, f.ulo + (k : Int)⟩) != payC c f (settledS f (truthAt f i))
def rowM (c : Cas) (f : Fld) (i : Nat) : Bool := (List.range (szR f.ulo f.uhi)).any (mT c f i)
theorem matterB_rows (c : Cas) (f : Fld) : matterB c f = (List.range (truthsN f)).any (rowM c f) := by
  unfold matterB truthsS
  rw [List.any_map]
  congr 1
  funext i
  unfold rowM everyS
  simp only [Function.comp, List.any_map]
  rfl
theorem matterB_no {c : Cas} {f : Fld} (h : ∀ i, i < truthsN f → rowM c f i = false) : matterB c f = false := by
  rw [matterB_rows, List.any_eq_false]
  intro i hi; rw [h i (List.mem_range.1 hi)]; simp
theorem matterB_yes {c : Cas} {f : Fld} {i k : Nat} (hi : i < truthsN f) (hk : k < szR f.ulo f.uhi) (h : mT c f i k = true) : matterB c f = true := by
  rw [matterB_rows, List.any_eq_true]
  exact ⟨i, List.mem_range.2 hi, List.any_eq_true.2 ⟨k, List.mem_range.2 hk, h⟩⟩
theorem rowM_no {c : Cas} {f : Fld} {i : Nat} (h : ∀ k, k < szR f.ulo f.uhi → mT c f i k = false) : rowM c f i = false := by
  unfold rowM
  rw [List.any_eq_false]
  intro k hk; rw [h k (List.mem_range.1 hk)]; simp
/-- The boxes of 'matters'. -/
structure MatI (w : World) (B : Nat) (v0 v1 v2 v3 : Value) (f : Fld) (is : Bool) (W : World) : Prop where
  ext : Ext w W
  c0 : W.cell? ⟨B, 0, none⟩ = some v0
  c1 : W.cell? ⟨B, 1, none⟩ = some v1
  c2 : W.cell? ⟨B, 2, none⟩ = some v2
  c3 : W.cell? ⟨B, 3, none⟩ = some v3
  fc : Cell9 W (B + 1) 0 f.c
  is : W.cell? ⟨B + 2, 0, none⟩ = some (.bool is)
  tr : Cell9 W (B + 3) 0 f.c
  fr : ∀ o, W.frozen? ⟨B + 2, o, none⟩ = false
  s : B + 4 ≤ W.heap.size
  ws : w.heap.size ≤ B
theorem MatI.below {w : World} {B D : Nat} {v0 v1 v2 v3 : Value} {f : Fld} {is : Bool} {W W' : World} (h : MatI w B v0 v1 v2 v3 f is W) (hx : Below D W W') (h2 : B + 4 ≤ D) : MatI w B v0 v1 v2 v3 f is W' :=
  have h4 := h.ws
  have k : ∀ b o v, b < D → W.cell? ⟨b, o, none⟩ = some v → W'.cell? ⟨b, o, none⟩ = some v := fun b o v hb hc => (hx.cell (p := ⟨b, o, none⟩) hb).trans hc
  ⟨Below.trans h.ext (hx.mono (by omega)), k _ _ _ (by omega) h.c0, k _ _ _ (by omega) h.c1, k _ _ _ (by omega) h.c2, k _ _ _ (by omega) h.c3, h.fc.below hx (by omega), k _ _ _ (by omega) h.is, h.tr.below hx (by omega), fun o => (Below.froz hx (by omega)).trans (h.fr o), Nat.le_trans h.s hx.size, h4⟩
theorem MatI.set {w : World} {B : Nat} {v0 v1 v2 v3 : Value} {f : Fld} {is : Bool} {W : World} (h : MatI w B v0 v1 v2 v3 f is W) (is' : Bool) : MatI w B v0 v1 v2 v3 f is' (W.setCell ⟨B + 2, 0, none⟩ (.bool is')) := by
  have h3 := h.ws
  have q : ∀ b o v, b ≠ B + 2 → W.cell? ⟨b, o, none⟩ = some v → (W.setCell ⟨B + 2, 0, none⟩ (.bool is')).cell? ⟨b, o, none⟩ = some v := fun b o v hb hc => sc_ne (.inl hb) hc
  have q9 : ∀ b, b ≠ B + 2 → Cell9 W b 0 f.c → Cell9 (W.setCell ⟨B + 2, 0, none⟩ (.bool is')) b 0 f.c := fun b hb ⟨h0, h1, h2, h3, h4, h5, h6, h7, h8⟩ =>
    ⟨q _ _ _ hb h0, q _ _ _ hb h1, q _ _ _ hb h2, q _ _ _ hb h3, q _ _ _ hb h4, q _ _ _ hb h5, q _ _ _ hb h6, q _ _ _ hb h7, q _ _ _ hb h8⟩
  exact ⟨h.ext.setCell (by omega) _, q _ _ _ (by omega) h.c0, q _ _ _ (by omega) h.c1, q _ _ _ (by omega) h.c2, q _ _ _ (by omega) h.c3, q9 _ (by omega) h.fc, sc_eq h.is, q9 _ (by omega) h.tr, fun o => by rw [World.frozen?_setCell]; exact h.fr o, by rw [World.size_setCell]; exact h.s, h3⟩
end Go.Hs
namespace Go.Proofs.Ytedblocbcjoolaa
open Go.RowKit Go.Hs
attribute [local irreducible] World.setCell World.alloc
theorem matI_start (w : World) (v0 v1 v2 v3 : Value) (f : Fld) :
    MatI w w.heap.size v0 v1 v2 v3 f false ((((w.alloc (.cells #[v0, v1, v2, v3] 31)).alloc (.cells #[f.c.c0, f.c.c1, f.c.c2, f.c.c3, f.c.c4, f.c.c5, f.c.c6, f.c.c7, f.c.c8] 46)).alloc (.cells #[.bool false] 4)).alloc (.cells #[f.c.c0, f.c.c1, f.c.c2, f.c.c3, f.c.c4, f.c.c5, f.c.c6, f.c.c7, f.c.c8] 46)) := by
  refine ⟨by (repeat (first | exact Ext.refl _ | (with_reducible assumption) | (with_reducible refine Ext.drew ?_) | (with_reducible refine Ext.alloc ?_ _) | (with_reducible refine Ext.drewN ?_ _) | (with_reducible refine Ext.setCell ?_ (by omega) _) | (with_reducible refine Ext.trans ?_ (by with_reducible assumption)))), by simp [go_sem], by simp [go_sem], by simp [go_sem], by simp [go_sem], ?_, by simp [go_sem], ?_, fun o => by simp [go_sem], by simp, Nat.le_refl _⟩
  · refine ⟨?_, ?_, ?_, ?_, ?_, ?_, ?_, ?_, ?_⟩ <;> simp [go_sem]
  · refine ⟨?_, ?_, ?_, ?_, ?_, ?_, ?_, ?_, ?_⟩ <;> simp [go_sem]
attribute [local go_sem] Oper.semAt_some
attribute [local simp] wide_fn wide_fn' wide_depth wide_round
attribute [local go_sem] wide_fn wide_fn' wide_depth wide_round

set_option maxRecDepth 100000 in
set_option maxHeartbeats 4000000 in
theorem matters_u (c : Cas) (v : Value) (f : Fld) (w : World) (hv : CasV w v c) (hf : FldR f) :
    Calls Try.prog 54 #[v, f.c.val] w fun e w' => e = .returned (.bool (matterB c f)) ∧ Ext w w' := by
  have HPY : Hid (∀ n l w', Ext w w' → CallsIn (Fence.wide.inRound l) 0 Try.prog 18 #[v, f.c.val, .int .i64 n] w' fun e w'' => e = .returned (.tuple #[.int .i64 (payC c f n), .bool (payOk c f n)]) ∧ Ext w' w'') := Lib.hid (fun n l w' hx => CallsIn.inRound l (callsIn_wide.2 (pay_u c v f n w' (hv.ext hx))))
  obtain ⟨a1, c1, a2, c2, rfl, -, -, -, -, -⟩ := hv.open
  have HSE : Hid (∀ n, n < truthsN f → ∀ u l w', 0 ≤ u ∧ u ≤ 100 → CallsIn (Fence.wide.inRound l) 0 Try.prog 17 #[f.c.val, .agg #[.int .i64 (truthAt f n).a, .int .i64 (truthAt f n).b, .int .i64 u]] w' fun e w'' => e = .returned (.tuple #[.int .i64 (settledS f ⟨(truthAt f n).a, (truthAt f n).b, u⟩), .int .i64 (loserS f ⟨(truthAt f n).a, (truthAt f n).b, u⟩)]) ∧ Ext w' w'') :=
    Lib.hid (fun n hn u l w' hu => by
      have hx := truthAt_ok hn
      have := hx.a; have := hx.b; have := hf.a; have := hf.b
      exact CallsIn.inRound l (callsIn_wide.2 (settle_u f ⟨(truthAt f n).a, (truthAt f n).b, u⟩ hf.near (by simp only; omega) (by simp only; omega) hu w')))
  have HUB : Hid (∀ n, n < truthsN f → 0 ≤ (truthAt f n).u ∧ (truthAt f n).u ≤ 100) := Lib.hid (fun n hn => by have hx := (truthAt_ok hn).u; have := hf.u; omega)
  have hgv := fun b => truths_gives b f hf.a hf.b hf.u
  have hgu := fun b => every_gives b f.ulo f.uhi hf.u
  have HTR := Lib.hid (truths_u f)
  have HEV : Hid (∀ l W, CallsIn (Fence.wide.inRound l) 0 Try.prog 42 #[.agg #[.int .i64 f.ulo, .int .i64 f.uhi]] W _) := Lib.hid (fun l W => CallsIn.inRound l (callsIn_wide.2 (every_any f.ulo f.uhi W)))
  have hlen := truthsV_len f
  have hlenU := everyV_len f.ulo f.uhi
  have HNO : Hid ((∀ i, i < truthsN f → rowM c f i = false) → matterB c f = false) := Lib.hid matterB_no
  have HYES : Hid (∀ i k, i < truthsN f → k < szR f.ulo f.uhi → mT c f i k = true → matterB c f = true) := Lib.hid (fun i k => matterB_yes)
  have HROW : Hid (∀ i, (∀ k, k < szR f.ulo f.uhi → mT c f i k = false) → rowM c f i = false) := Lib.hid (fun i => rowM_no)
  have H0 := matI_start w (.slice a1 c.tars.length c1) (.int .i64 c.day) (.int .i64 c.fee) (.slice a2 c.flds.length c2) f
  clear hv
  refine (callsIn_wide (n := 0)).1 (callsIn_of_wp_marks Try.func54 rfl trivial (wpIn_wide.2 ?_) rfl)
  simp only [Try.ntmps54, List.size_toArray, List.length_cons, List.length_nil, Nat.reduceAdd, Nat.reduceSub, Array.replicate_succ, Array.replicate_zero, List.push_toArray, List.append_toArray, List.nil_append, List.cons_append]
  go_wp2_with fail
  go_step3
  go_wp2_with fail
  go_step3
  go_wp2_with fail
  (with_reducible refine (HTR.out _).mono ?_)
  rintro e w1 ⟨rfl, rfl⟩
  go_wp2_with fail
  generalize ((((w.alloc (.cells #[.slice a1 c.tars.length c1, .int .i64 c.day, .int .i64 c.fee, .slice a2 c.flds.length c2] 31)).alloc (.cells #[f.c.c0, f.c.c1, f.c.c2, f.c.c3, f.c.c4, f.c.c5, f.c.c6, f.c.c7, f.c.c8] 46)).alloc (.cells #[.bool false] 4)).alloc (.cells #[f.c.c0, f.c.c1, f.c.c2, f.c.c3, f.c.c4, f.c.c5, f.c.c6, f.c.c7, f.c.c8] 46)) = W0 at *
  have hs0 := H0.s
  refine each_wp (vs := truthsV f) (K := fun W => Cell9 W (w.heap.size + 3) 0 f.c) (by rfl) fn_truths1 (by rfl)
    (fun i W' => MatI w w.heap.size (.slice a1 c.tars.length c1) (.int .i64 c.day) (.int .i64 c.fee) (.slice a2 c.flds.length c2) f false W' ∧ ∀ i', i' < i → rowM c f i' = false) (fun q W' => q = .exit 0 ∧ MatI w w.heap.size (.slice a1 c.tars.length c1) (.int .i64 c.day) (.int .i64 c.fee) (.slice a2 c.flds.length c2) f true W' ∧ matterB c f = true) (hgv _) (fun i W' h => h.1.tr)
    (fun i A B h hx => ⟨h.1.below hx hs0, h.2⟩) (fun c A B h hx => ⟨h.1, h.2.1.below hx hs0, h.2.2⟩) ⟨H0, fun i' h => absurd h (Nat.not_lt_zero _)⟩ ?hround ?hdone ?hstop
  case hround =>
    intro i hi W1 hj hs
    rw [truthsV_get]
    have hiN : i < truthsN f := by omega
    obtain ⟨hjm, hjr⟩ := hj
    have HJR := Lib.hid hjr
    have hse := Lib.hid (HSE.out i hiN)
    have hyes := Lib.hid (fun k => HYES.out i k hiN)
    have hrow := Lib.hid (HROW.out i)
    have HRX := Lib.hid (fun (h : rowM c f i = false) => upTo_next (p := fun q => rowM c f q = false) hjr h)
    have hub := Lib.hid (HUB.out i hiN)
    have HMT : Hid (∀ k, mT c f i k = (payC c f (settledS f ⟨(truthAt f i).a, (truthAt f i).b, f.ulo + (k : Int)⟩) != payC c f (settledS f (truthAt f i)))) := Lib.hid (fun _ => rfl)
    clear HSE HYES HROW HUB H0 hjr
    generalize mT c f i = mt at *
    generalize hrwi : rowM c f i = rwi at *
    generalize truthAt f i = x at *
    obtain ⟨A, B, U⟩ := x
    simp only [Thr.c] at *
    simp only [Array.zip_eq_zipWith]
    gi_wp2_with fail
    refine ⟨Kept.ext (by (repeat (first | exact Ext.refl _ | (with_reducible assumption) | (with_reducible refine Ext.drew ?_) | (with_reducible refine Ext.alloc ?_ _) | (with_reducible refine Ext.drewN ?_ _) | (with_reducible refine Ext.setCell ?_ (by omega) _) | (with_reducible refine Ext.trans ?_ (by with_reducible assumption))))), fun W2 hT hrec => ?_⟩
    have BA : Below W0.heap.size W1 W2 := (((Ext.refl W1).alloc (.cells #[.int .i64 A, .int .i64 B, .int .i64 U] 62)).mono (by omega)).trans (hT.below (by omega))
    have J2 := hjm.below BA hs0
    have S2 : W2.heap.size ≤ W1.heap.size + 1 ∧ W1.heap.size + 1 ≤ W2.heap.size := by rw [hT.size]; simp
    have x0 : W2.cell? ⟨W1.heap.size, 0, none⟩ = some (.int .i64 A) := hT.cell (by omega) (by simp)
    have x1 : W2.cell? ⟨W1.heap.size, 1, none⟩ = some (.int .i64 B) := hT.cell (by omega) (by simp)
    have x2 : W2.cell? ⟨W1.heap.size, 2, none⟩ = some (.int .i64 U) := hT.cell (by omega) (by simp)
    obtain ⟨r0, hr0⟩ := hrec
    obtain ⟨f0, f1, f2, f3, f4, f5, f6, f7, f8⟩ := J2.fc
    simp only [Nat.zero_add] at f0 f1 f2 f3 f4 f5 f6 f7 f8
    have HJ2 := Lib.hid J2
    have HX := Lib.hid (And.intro x0 (And.intro x1 x2))
    clear J2 hT BA hjm
    gi_wp2_with fail
    (with_reducible refine (hse.out U _ _ hub.out).mono ?_)
    rintro e w3 ⟨rfl, hx3⟩
    generalize loserS f ⟨A, B, U⟩ = lo at *
    generalize settledS f ⟨A, B, U⟩ = st at *
    have J3 := HJ2.out.below (D := W2.heap.size) hx3 HJ2.out.s
    have c0 := J3.c0
    have c1' := J3.c1
    have c2' := J3.c2
    have c3 := J3.c3
    obtain ⟨f0, f1, f2, f3, f4, f5, f6, f7, f8⟩ := J3.fc
    simp only [Nat.zero_add] at f0 f1 f2 f3 f4 f5 f6 f7 f8
    gi_wp2_with fail
    (with_reducible refine (HPY.out _ _ _ J3.ext).mono ?_)
    rintro e w4 ⟨rfl, hx4⟩
    have M4 := J3.below (D := w3.heap.size) hx4 J3.s
    have X4 : Ext W2 w4 := hx3.trans hx4
    have S4 := X4.size
    have y7 : ∀ A, (w4.alloc A).cell? ⟨w.heap.size + 1, 7, none⟩ = some (.int .i64 f.ulo) := fun A => ((Ext.refl w4).alloc A).keep (by have := M4.fc.2.2.2.2.2.2.2.1; simp only [Nat.zero_add] at this; exact this)
    have y8 : ∀ A, (w4.alloc A).cell? ⟨w.heap.size + 1, 8, none⟩ = some (.int .i64 f.uhi) := fun A => ((Ext.refl w4).alloc A).keep (by have := M4.fc.2.2.2.2.2.2.2.2; simp only [Nat.zero_add] at this; exact this)
    generalize hpn : payC c f st = pn at *
    have HPN := Lib.hid hpn
    clear hpn c0 c1' c2' c3 f0 f1 f2 f3 f4 f5 f6 f7 f8 J3 hx3 hx4 x0 x1 x2
    generalize payOk c f st = pok at *
    gi_wp2_with fail
    (with_reducible refine (HEV.out _ _).mono ?_)
    rintro e w' ⟨rfl, rfl⟩
    have XB : Ext w4 ((w4.alloc (.cells #[.int .i64 pn] 3)).alloc (.cells #[.int .i64 f.ulo, .int .i64 f.uhi] 44)) := by (repeat (first | exact Ext.refl _ | (with_reducible assumption) | (with_reducible refine Ext.drew ?_) | (with_reducible refine Ext.alloc ?_ _) | (with_reducible refine Ext.drewN ?_ _) | (with_reducible refine Ext.setCell ?_ (by omega) _) | (with_reducible refine Ext.trans ?_ (by with_reducible assumption))))
    have RB : RanC (w4.heap.size + 1) f.ulo f.uhi ((w4.alloc (.cells #[.int .i64 pn] 3)).alloc (.cells #[.int .i64 f.ulo, .int .i64 f.uhi] 44)) := ⟨by simp [go_sem], by simp [go_sem]⟩
    have PB : NumC w4.heap.size pn ((w4.alloc (.cells #[.int .i64 pn] 3)).alloc (.cells #[.int .i64 f.ulo, .int .i64 f.uhi] 44)) := by simp [NumC, go_sem]
    have SB : ((w4.alloc (.cells #[.int .i64 pn] 3)).alloc (.cells #[.int .i64 f.ulo, .int .i64 f.uhi] 44)).heap.size ≤ w4.heap.size + 2 ∧ w4.heap.size + 2 ≤ ((w4.alloc (.cells #[.int .i64 pn] 3)).alloc (.cells #[.int .i64 f.ulo, .int .i64 f.uhi] 44)).heap.size := by simp
    gi_wp2_with fail
    generalize (w4.alloc (.cells #[.int .i64 pn] 3)).alloc (.cells #[.int .i64 f.ulo, .int .i64 f.uhi] 44) = WB at *
    have hrB : WB.heap[W0.heap.size + 1]? = some (.loop r0) := below_obj (X4.trans XB) (by omega) hr0
    have MB := M4.below (D := w4.heap.size) XB M4.s
    have XX0 : WB.cell? ⟨W1.heap.size, 0, none⟩ = some (.int .i64 A) := (X4.trans XB).keep HX.out.1
    have XX1 : WB.cell? ⟨W1.heap.size, 1, none⟩ = some (.int .i64 B) := (X4.trans XB).keep HX.out.2.1
    have hms := M4.s
    clear y7 y8 M4 hr0
    refine each_inner (l0 := W0.heap.size + 1) (r0 := r0) hrB (vs := everyV f.ulo f.uhi) (K := RanC (w4.heap.size + 1) f.ulo f.uhi) (by rfl) fn_every1 (by rfl)
      (fun k W' => MatI w w.heap.size (.slice a1 c.tars.length c1) (.int .i64 c.day) (.int .i64 c.fee) (.slice a2 c.flds.length c2) f false W' ∧ NumC w4.heap.size pn W' ∧ (NumC W1.heap.size A W' ∧ W'.cell? ⟨W1.heap.size, 1, none⟩ = some (.int .i64 B)) ∧ RanC (w4.heap.size + 1) f.ulo f.uhi W' ∧ Kept W0.heap.size W2 W' ∧ ∀ k', k' < k → mt k' = false)
      (fun q W' => q = .exit 0 ∧ MatI w w.heap.size (.slice a1 c.tars.length c1) (.int .i64 c.day) (.int .i64 c.fee) (.slice a2 c.flds.length c2) f true W' ∧ matterB c f = true ∧ Kept W0.heap.size W2 W') (hgu _) (fun i W' h => h.2.2.2.1)
      (fun k A' B' h hx => ⟨h.1.below hx (by omega), h.2.1.below hx (by omega), ⟨h.2.2.1.1.below hx (by omega), (hx.cell (p := ⟨W1.heap.size, 1, none⟩) (show W1.heap.size < WB.heap.size by omega)).trans h.2.2.1.2⟩, h.2.2.2.1.below hx (by omega), h.2.2.2.2.1.below hx (by omega), h.2.2.2.2.2⟩)
      (fun q A' B' h hx => ⟨h.1, h.2.1.below hx (by omega), h.2.2.1, h.2.2.2.below hx (by omega)⟩)
      ⟨MB, PB, ⟨XX0, XX1⟩, RB, Kept.ext (X4.trans XB), fun k' h => absurd h (Nat.not_lt_zero _)⟩ ?hroundU ?hdoneU ?hstopU
    case hroundU =>
      intro k hkk W5 hj5 hs5
      rw [everyV_get]
      have hkN : k < szR f.ulo f.uhi := by omega
      have hkb : 0 ≤ f.ulo + (k : Int) ∧ f.ulo + (k : Int) ≤ 100 := by have := hf.u; unfold szR at hkN; omega
      simp only [Array.zip_eq_zipWith]
      gi_wp2_with fail
      refine ⟨Kept.refl _ _, fun W6 hT _ => ?_⟩
      have BU : Below WB.heap.size W5 W6 := hT.below (by omega)
      obtain ⟨j1, j2, ⟨j3, j3'⟩, j4, j5, j6⟩ := hj5
      have M6 := j1.below BU (by omega)
      have p6 : W6.cell? ⟨w4.heap.size, 0, none⟩ = some (.int .i64 pn) := j2.below BU (by omega)
      have a6 : W6.cell? ⟨W1.heap.size, 0, none⟩ = some (.int .i64 A) := j3.below BU (by omega)
      have b6 : W6.cell? ⟨W1.heap.size, 1, none⟩ = some (.int .i64 B) := (BU.cell (p := ⟨W1.heap.size, 1, none⟩) (show W1.heap.size < WB.heap.size by omega)).trans j3'
      have u6 := j4.below BU (by omega)
      have k6 := j5.below BU (by omega)
      obtain ⟨f0, f1, f2, f3, f4, f5, f6, f7, f8⟩ := M6.fc
      simp only [Nat.zero_add] at f0 f1 f2 f3 f4 f5 f6 f7 f8
      have HJ6 := Lib.hid j6
      have HU6 := Lib.hid u6
      clear hT j1 j2 j3 j3' j4 j5 j6 BU u6 MB PB XX0 XX1 RB
      gi_wp2_with fail
      (with_reducible refine (hse.out _ _ _ hkb).mono ?_)
      rintro e w7 ⟨rfl, hx7⟩
      have hmt := HMT.out k
      generalize loserS f ⟨A, B, f.ulo + (k : Int)⟩ = lu at *
      generalize settledS f ⟨A, B, f.ulo + (k : Int)⟩ = su at *
      have M7 := M6.below (D := W6.heap.size) hx7 M6.s
      have c0 := M7.c0
      have c1' := M7.c1
      have c2' := M7.c2
      have c3 := M7.c3
      obtain ⟨f0, f1, f2, f3, f4, f5, f6, f7, f8⟩ := M7.fc
      simp only [Nat.zero_add] at f0 f1 f2 f3 f4 f5 f6 f7 f8
      gi_wp2_with fail
      (with_reducible refine (HPY.out _ _ _ M7.ext).mono ?_)
      rintro e w8 ⟨rfl, hx8⟩
      generalize payC c f su = pm at *
      generalize payOk c f su = pok2 at *
      have X8 := hx7.trans hx8
      have M8 := M7.below (D := w7.heap.size) hx8 M7.s
      have p8 := X8.keep p6
      have ci : w8.cell? ⟨w.heap.size + 1 + 1, 0, none⟩ = some (.bool false) := M8.is
      have hfr : ∀ o, w8.frozen? ⟨w.heap.size + 1 + 1, o, none⟩ = false := M8.fr
      have HA8 := Lib.hid (show NumC W1.heap.size A w8 from X8.keep a6)
      have HB8 := Lib.hid (X8.keep b6)
      have HM8 := Lib.hid M8
      have k8 : Kept WB.heap.size W6 w8 := Kept.ext X8
      have hu8 := HU6.out.below (n := W6.heap.size) X8 (by have := lt_of_cell HU6.out.lo; exact this)
      have HK8 := Lib.hid (And.intro k8 (k6.trans (Kept.ext (B := W0.heap.size) X8)))
      have HU8 := Lib.hid hu8
      clear M8 k8 hu8 k6 c0 c1' c2' c3 f0 f1 f2 f3 f4 f5 f6 f7 f8 M7 M6 a6 b6 p6 hx7 hx8
      cases hmk : mt k with
      | true =>
        have hb : (pm != pn) = true := by rw [← hmt]; exact hmk
        have HY := Lib.hid (hyes.out k hkN hmk)
        clear hmt hmk
        gi_wp2_with fail
        refine ⟨⟨by rw [World.size_setCell]; exact HK8.out.1.1, fun q hq1 hq2 => (Below.heap_setCell _ _ _ _ (show q ≠ w.heap.size + 1 + 1 by omega)).trans (HK8.out.1.2 q hq1 hq2)⟩, rfl, HM8.out.set true, HY.out, ?_⟩
        exact ⟨by rw [World.size_setCell]; exact HK8.out.2.1, fun q hq1 hq2 => (Below.heap_setCell _ _ _ _ (show q ≠ w.heap.size + 1 + 1 by omega)).trans (HK8.out.2.2 q hq1 hq2)⟩
      | false =>
        have hb : (pm != pn) = false := by rw [← hmt]; exact hmk
        have HN := Lib.hid (upTo_next HJ6.out hmk)
        have HP8 := Lib.hid p8
        clear hmt hmk
        gi_wp2_with fail
        exact ⟨HK8.out.1, HM8.out, HP8.out, ⟨HA8.out, HB8.out⟩, HU8.out, HK8.out.2, HN.out⟩
    case hdoneU =>
      rintro W' ⟨g1, g2, g3, g4, g5, g6⟩
      rw [hlenU] at g6
      have hr := hrow.out g6
      gi_wp2_with fail
      exact ⟨g5, g1, HRX.out hr⟩
    case hstopU =>
      rintro q W' ⟨rfl, g1, g2, g3⟩
      gi_wp2_with fail
      exact ⟨g3, rfl, g1, g2⟩
  case hdone =>
    rintro W3 ⟨hj, hr⟩ hd
    rw [hlen] at hr
    have hm := HNO.out hr
    have ci : W3.cell? ⟨w.heap.size + 1 + 1, 0, none⟩ = some (.bool false) := hj.is
    have hfr : ∀ o, W3.frozen? ⟨w.heap.size + 1 + 1, o, none⟩ = false := hj.fr
    clear hr H0
    have hex := hj.ext
    have HM := Lib.hid hm
    have hXX : Ext w (W3.putObj W0.heap.size (.deferred none)) := Below.trans hex ((Turned.below (Turned.put W3 W0.heap.size (.deferred none)) (Nat.le_refl _)).mono (by omega))
    have hc2 : (W3.putObj W0.heap.size (.deferred none)).cell? ⟨w.heap.size + 1 + 1, 0, none⟩ = some (.bool false) := (Turned.put W3 W0.heap.size (.deferred none)).cell (by omega) ci
    have hlv : (loadVar 4 ⟨w.heap.size + 1 + 1, 0, none⟩).run Try.prog (W3.putObj W0.heap.size (.deferred none)) = .ok (.bool false) (W3.putObj W0.heap.size (.deferred none)) := by simp [go_sem, hc2]
    have hsame := setCell_same W3 _ _ ci
    clear hj hm
    go_wp2_with fail
    (try rw [Exit.noGoto_ret])
    refine ⟨by simp, .inl ⟨_, _, rfl, run_takeDeferred hd, ?_⟩⟩
    exact ⟨_, results_load rfl _ _ _ _ rfl hlv, congrArg (fun z => Ending.returned (.bool z)) HM.out.symm, hXX⟩
  case hstop =>
    rintro q W3 ⟨rfl, hj, hm⟩ hd
    have ci : W3.cell? ⟨w.heap.size + 1 + 1, 0, none⟩ = some (.bool true) := hj.is
    have hfr : ∀ o, W3.frozen? ⟨w.heap.size + 1 + 1, o, none⟩ = false := hj.fr
    clear H0
    have hex := hj.ext
    have HM := Lib.hid hm
    have hXX : Ext w (W3.putObj W0.heap.size (.deferred none)) := Below.trans hex ((Turned.below (Turned.put W3 W0.heap.size (.deferred none)) (Nat.le_refl _)).mono (by omega))
    have hc2 : (W3.putObj W0.heap.size (.deferred none)).cell? ⟨w.heap.size + 1 + 1, 0, none⟩ = some (.bool true) := (Turned.put W3 W0.heap.size (.deferred none)).cell (by omega) ci
    have hlv : (loadVar 4 ⟨w.heap.size + 1 + 1, 0, none⟩).run Try.prog (W3.putObj W0.heap.size (.deferred none)) = .ok (.bool true) (W3.putObj W0.heap.size (.deferred none)) := by simp [go_sem, hc2]
    have hsame := setCell_same W3 _ _ ci
    clear hj hm
    go_wp2_with fail
    (try rw [Exit.noGoto_ret])
    refine ⟨by simp, .inl ⟨_, _, rfl, run_takeDeferred hd, ?_⟩⟩
    exact ⟨_, results_load rfl _ _ _ _ rfl hlv, congrArg (fun z => Ending.returned (.bool z)) HM.out.symm, hXX⟩
end Go.Proofs.Ytedblocbcjoolaa

/- Contracts of layer 7: the fields for which the umpire matters. -/
namespace Go.Hs
open Go.RowKit
theorem mattersS_upto (c : Cas) : mattersS c = upto (fun i => matterB c (c.flds.getD i default)) c.flds.length := rfl
end Go.Hs
namespace Go.Proofs.Ytedblocbcjoolaa
open Go.RowKit Go.Hs
attribute [local irreducible] World.setCell World.alloc

set_option maxRecDepth 100000 in
set_option maxHeartbeats 4000000 in
theorem Matters_good (c : Cas) (v : Value) (w : World) (hv : CasV w v c) (h : caseE c = 0) :
    Calls Try.prog 34 #[v] w fun e w' => ∃ r, e = .returned (.tuple #[r, .int .i64 0]) ∧ IntsV w' r (mattersS c) ∧ Ext w w' := by
  have hcas := caseE_zero h
  have HC : Hid (∀ w', Ext w w' → Calls Try.prog 14 #[v] w' fun e w'' => e = .returned (.int .i64 0) ∧ Ext w' w'') := Lib.hid (fun w' hx => h ▸ check_u c v w' (hv.ext hx))
  have HMA : Hid (∀ k (hk : k < c.flds.length) w', Ext w w' → Calls Try.prog 54 #[v, c.flds[k].c.val] w' fun e w'' => e = .returned (.bool (matterB c (c.flds.getD k default))) ∧ Ext w' w'') :=
    Lib.hid (fun k hk w' hx => by
      have e : c.flds.getD k default = c.flds[k] := by simp [hk]
      rw [e]
      exact matters_u c v _ w' (hv.ext hx) (hcas.flds _ (List.getElem_mem hk)).r)
  obtain ⟨a1, c1, a2, c2, rfl, -, -, hcl, hl1, hl2⟩ := hv.open
  have HCL : Hid (∀ w', Ext w w' → Cells9 w' a2 (c.flds.map Fld.c)) := Lib.hid (fun w' hx => hcl.ext hx)
  obtain ⟨i1, hi1, hz10, hz11, hz12⟩ := info_parts info_int
  have HMS := Lib.hid (mattersS_upto c)
  have hfew := hcas.few
  clear hv hcl h hcas
  generalize mattersS c = ms at *
  generalize hgg : (fun i => matterB c (c.flds.getD i default)) = g at *
  have HMA' : Hid (∀ k (hk : k < c.flds.length) w', Ext w w' → Calls Try.prog 54 #[casV a1 c.tars.length c1 c.day c.fee a2 c.flds.length c2, c.flds[k].c.val] w' fun e w'' => e = .returned (.bool (g k)) ∧ Ext w' w'') := Lib.hid (by rw [← hgg]; exact HMA.out)
  clear HMA hgg
  go_enter Try.func34, Try.ntmps34
  go_wp2_with fail
  (with_reducible refine (HC.out _ (by (repeat (first | exact Ext.refl _ | (with_reducible assumption) | (with_reducible refine Ext.drew ?_) | (with_reducible refine Ext.alloc ?_ _) | (with_reducible refine Ext.drewN ?_ _) | (with_reducible refine Ext.setCell ?_ (by omega) _) | (with_reducible refine Ext.trans ?_ (by with_reducible assumption)))))).mono ?_)
  rintro e w1 ⟨rfl, hx1⟩
  have X1 : Ext w w1 := by (repeat (first | exact Ext.refl _ | (with_reducible assumption) | (with_reducible refine Ext.drew ?_) | (with_reducible refine Ext.alloc ?_ _) | (with_reducible refine Ext.drewN ?_ _) | (with_reducible refine Ext.setCell ?_ (by omega) _) | (with_reducible refine Ext.trans ?_ (by with_reducible assumption))))
  have q0 := hx1.keep (k := w.heap.size) (o := 0) (v := .slice a1 c.tars.length c1) (by simp [go_sem])
  have q1 := hx1.keep (k := w.heap.size) (o := 1) (v := .int .i64 c.day) (by simp [go_sem])
  have q2 := hx1.keep (k := w.heap.size) (o := 2) (v := .int .i64 c.fee) (by simp [go_sem])
  have q3 := hx1.keep (k := w.heap.size) (o := 3) (v := .slice a2 c.flds.length c2) (by simp [go_sem])
  have HQ : Hid (∀ w', Ext w1 w' → w'.cell? ⟨w.heap.size, 0, none⟩ = some (.slice a1 c.tars.length c1) ∧ w'.cell? ⟨w.heap.size, 1, none⟩ = some (.int .i64 c.day) ∧ w'.cell? ⟨w.heap.size, 2, none⟩ = some (.int .i64 c.fee) ∧ w'.cell? ⟨w.heap.size, 3, none⟩ = some (.slice a2 c.flds.length c2)) :=
    Lib.hid (fun w' hx => ⟨hx.keep q0, hx.keep q1, hx.keep q2, hx.keep q3⟩)
  clear hx1 HC
  go_wp2_with fail
  clear q0 q1 q2 q3
  go_loopw [5, 16] (fun s5 s16 wr => ∃ (j m : Nat) (a5 : Option Addr) (q5 : Nat), j ≤ c.flds.length ∧ s16 = .int .i64 j ∧ s5 = .slice a5 m q5 ∧ Hid (m = (upto g j).length ∧ UpRow w1.heap.size 3 g j (.slice a5 m q5) wr) ∧ Ext w1 wr) (fun _ s _ => c.flds.length - (intOf s).toNat)
  case atStart => exact ⟨0, 0, none, 0, Nat.zero_le _, rfl, rfl, Lib.hid ⟨rfl, World.ownsRow_nil _ _ _ _⟩, Ext.refl _⟩
  case round =>
    obtain ⟨j, m, a5, q5, hj, rfl, rfl, HR, hx⟩ := hrel
    obtain ⟨wo, rfl⟩ : ∃ x, x = wr := ⟨_, rfl⟩
    by_cases hlt2 : j < c.flds.length
    · have hma := Lib.hid (HMA'.out j hlt2)
      obtain ⟨b, off, rfl, hce⟩ := HCL.out _ (X1.trans hx) j (by simpa using hlt2)
      have e1 : (c.flds.map Fld.c)[j]'(by simpa using hlt2) = (c.flds[j]).c := by simp
      rw [e1] at hce
      clear e1
      generalize c.flds[j] = f at *
      obtain ⟨cr, va, ne, al, ah, bl, bh, ul, uh⟩ := f
      obtain ⟨m0, m1, m2, m3, m4, m5, m6, m7, m8⟩ := hce
      simp only [Fld.c] at m0 m1 m2 m3 m4 m5 m6 m7 m8 hma
      obtain ⟨q0, q1, q2, q3⟩ := HQ.out _ hx
      have y0 : ∀ A, (wo.alloc A).cell? ⟨w.heap.size, 0, none⟩ = some (.slice a1 c.tars.length c1) := fun A => ((Ext.refl wo).alloc A).keep q0
      have y1 : ∀ A, (wo.alloc A).cell? ⟨w.heap.size, 1, none⟩ = some (.int .i64 c.day) := fun A => ((Ext.refl wo).alloc A).keep q1
      have y2 : ∀ A, (wo.alloc A).cell? ⟨w.heap.size, 2, none⟩ = some (.int .i64 c.fee) := fun A => ((Ext.refl wo).alloc A).keep q2
      have y3 : ∀ A, (wo.alloc A).cell? ⟨w.heap.size, 3, none⟩ = some (.slice (some ⟨b, off, none⟩) c.flds.length c2) := fun A => ((Ext.refl wo).alloc A).keep q3
      clear q0 q1 q2 q3
      go_wp2_with fail
      (with_reducible refine (hma.out _ ?hxm).mono ?_)
      case hxm => exact X1.trans (hx.alloc _)
      rintro e w4 ⟨rfl, hx4⟩
      have XO : Ext wo w4 := ((Ext.refl wo).alloc _).trans hx4
      have X4 : Ext w1 w4 := hx.trans XO
      clear m0 m1 m2 m3 m4 m5 m6 m7 m8 y0 y1 y2 y3 hx4
      have OWN := HR.out.2.ext XO
      have hm := HR.out.1
      cases hg : g j with
      | false =>
        have HR' : Hid (m = (upto g (j + 1)).length ∧ UpRow w1.heap.size 3 g (j + 1) (.slice a5 m q5) w4) := Lib.hid (by unfold UpRow at *; rw [upto_no hg]; exact ⟨hm, OWN⟩)
        clear OWN hm
        go_wp2_with fail
        go_roundw
        case rel => exact ⟨j + 1, m, a5, q5, by omega, by go_num, rfl, HR', X4⟩
        case measure => simp [intOf]; omega
      | true =>
        have HU := Lib.hid (upto_yes hg)
        have hml : m ≤ 1000 := by have := upto_len g j; omega
        unfold UpRow at OWN
        rw [← hm] at OWN
        have HOW := Lib.hid OWN
        have HM := Lib.hid hm
        clear OWN hm
        go_wp2_with (at_builtin; refine wpList_append_own_at _ rfl _ _ 22 rfl w1.heap.size 3 i1 (.int .i64 0) 1 8 Try.underlying22 hi1 hz10 hz11 hz12 rfl (by decide) (.slice a5 m q5) m ((upto g j).map (.int .i64)) rfl ?own ⟨w4.heap.size, 0, none⟩ 1 1 [.int .i64 (j : Int)] rfl rfl (cell_one_new _ _ _) ?one ?f1 ?f2 ?f3 ?next)
        case own => exact own_keep HOW.out (fun _ hg => ((Ext.refl w4).alloc _).heap (own_lt HOW.out hg).2)
        case one => first | rfl | (intro u hu; simp at hu; subst hu; rfl)
        case f1 => simp only [maxLen]; omega
        case f2 => omega
        case f3 => have h1 := X4.size; simp; omega
        case next =>
          intro v' w7 hown hgrow hnil hat
          have hx7 : Ext w1 w7 := grown_ext (X4.alloc _) hgrow (fun _ hg => (own_lt HOW.out hg).1)
          have HUR : Hid (m + 1 = (upto g (j + 1)).length ∧ UpRow w1.heap.size 3 g (j + 1) v' w7) := Lib.hid (by
            unfold UpRow
            rw [HU.out]
            simp only [List.length_append, List.length_cons, List.length_nil, List.map_append, List.map_cons, List.map_nil]
            rw [← HM.out]
            exact ⟨rfl, hown⟩)
          clear hnil hat hgrow
          rcases own_open hown with ⟨-, h0⟩ | ⟨g', cap, rfl, -, -, -, -⟩
          · omega
          · clear hown
            go_wp2_with fail
            go_roundw
            case rel => exact ⟨j + 1, m + 1, _, _, by omega, by go_num, rfl, HUR, hx7⟩
            case measure => simp [intOf]; omega
    · have ek : j = c.flds.length := by omega
      subst ek
      have hi := HR.out.2.ints (by omega)
      have HI := Lib.hid hi
      clear hi
      go_wp2_with fail
      go_ret2
      exact ⟨_, rfl, by rw [HMS.out]; exact HI.out, X1.trans hx⟩
end Go.Proofs.Ytedblocbcjoolaa

/- Sets that lie in maps: what a store makes of them, and how they are gone through. -/
namespace Go.Hs
open Go.RowKit
/-- A key type whose keys are compared as the things that they stand for. -/
structure KeyT {α : Type} (P : Program) (T : TypeId) (enc : α → Value) : Prop where
  eq : ∀ a b w, ∃ r : Bool, (Op.equal T (enc a) (enc b)).run P w = .ok r w ∧ (r = true ↔ a = b)
  chk : ∀ a w, (Instr.checkKey false 10000 T (enc a)).run P w = .ok () w
  und : ∃ fs, P.underlying T = some (.struct fs)
  same : ∀ a, Instr.sameBits 10000 (enc a) (enc a) = true
/-- A map's block that holds just the things of a set. -/
def SetAt {α : Type} (enc : α → Value) (r : Nat) (S : α → Prop) (w : World) : Prop :=
  ∃ es clock, w.heap[r]? = some (.map es clock) ∧ (∀ e ∈ es.toList, (∃ a, S a ∧ e.key = enc a) ∧ e.born < clock) ∧ (∀ a, S a → ∃ e ∈ es.toList, e.key = enc a) ∧ (es.toList.map (·.born)).Nodup
section
variable {α : Type} {P : Program} {T : TypeId} {enc : α → Value}
theorem SetAt.lt {r : Nat} {S : α → Prop} {w : World} (h : SetAt enc r S w) : r < w.heap.size := by
  obtain ⟨es, clock, hr, -⟩ := h
  exact (Array.getElem?_eq_some_iff.1 hr).1
theorem SetAt.of {r : Nat} {S : α → Prop} {w w' : World} (h : SetAt enc r S w) (hx : w'.heap[r]? = w.heap[r]?) : SetAt enc r S w' := by
  obtain ⟨es, clock, hr, rest⟩ := h
  exact ⟨es, clock, hx.trans hr, rest⟩
theorem SetAt.congr {r : Nat} {S S' : α → Prop} {w : World} (h : SetAt enc r S w) (e : ∀ a, S a ↔ S' a) : SetAt enc r S' w := by
  obtain ⟨es, clock, hr, h1, h2, h3⟩ := h
  exact ⟨es, clock, hr, fun x hx => let ⟨⟨a, ha, hk⟩, hb⟩ := h1 x hx; ⟨⟨a, (e a).1 ha, hk⟩, hb⟩, fun a ha => h2 a ((e a).2 ha), h3⟩
theorem SetAt.empty (w : World) : SetAt enc w.heap.size (fun _ : α => False) (w.alloc (.map #[] 0)) :=
  ⟨#[], 0, World.alloc_heap_new w _, fun e he => by simp at he, fun a h => h.elim, by simp⟩
theorem SetAt.noCells {r : Nat} {S : α → Prop} {w : World} (h : SetAt enc r S w) : NoCells w r := fun o => by
  obtain ⟨es, clock, hr, -⟩ := h
  simp [World.cell?, hr]
theorem find_key (K : KeyT P T enc) (a : α) (i : Nat) (es : List MapEntry) (h : ∀ e ∈ es, ∃ b, e.key = enc b) :
    ∃ r, (∀ w, (Instr.findAsking T (enc a) es i).run P w = .ok r w) ∧ ((r = none ∧ ∀ e ∈ es, e.key ≠ enc a) ∨ ∃ j v, r = some (i + j, v) ∧ ∃ e, es[j]? = some e ∧ e.key = enc a) := by
  induction es generalizing i with
  | nil => exact ⟨none, fun _ => rfl, .inl ⟨rfl, fun e he => by cases he⟩⟩
  | cons e es ih =>
    obtain ⟨b, hk⟩ := h e (by simp)
    obtain ⟨r, hr, hor⟩ := ih (i + 1) (fun e he => h e (by simp [he]))
    by_cases heq : a = b
    · subst heq
      refine ⟨some (i, e.val), fun w => ?_, .inr ⟨0, e.val, by simp, e, by simp, hk⟩⟩
      obtain ⟨q, hq, hqi⟩ := K.eq a a w
      have : q = true := hqi.2 rfl
      subst this
      unfold Instr.findAsking
      rw [hk, Sem.run_bind, hq]
      rfl
    · refine ⟨r, fun w => ?_, ?_⟩
      · obtain ⟨q, hq, hqi⟩ := K.eq a b w
        have : q = false := by
          cases q with
          | false => rfl
          | true => exact absurd (hqi.1 rfl) heq
        subst this
        unfold Instr.findAsking
        rw [hk, Sem.run_bind, hq]
        exact hr w
      · rcases hor with ⟨h1, h2⟩ | ⟨j, v, h1, e', h2, h3⟩
        · refine .inl ⟨h1, fun e' he' => ?_⟩
          rcases List.mem_cons.1 he' with rfl | h'
          · rw [hk]
            intro hc
            obtain ⟨q, hq, hqi⟩ := K.eq b a default
            obtain ⟨q2, hq2, hqi2⟩ := K.eq a a default
            rw [hc] at hq
            rw [hq] at hq2
            have e2 : q = q2 := by injection hq2
            exact heq (hqi.1 (e2.trans (hqi2.2 rfl))).symm
          · exact h2 e' h'
        · exact .inr ⟨j + 1, v, by rw [h1]; congr 2; omega, e', by simpa using h2, h3⟩
theorem findKey_key (K : KeyT P T enc) (hagg : ∀ a, ∃ c, enc a = .agg c) (a : α) (es : List MapEntry) (h : ∀ e ∈ es, ∃ b, e.key = enc b) :
    ∃ r, (∀ w, (Instr.findKey T (enc a) es).run P w = .ok r w) ∧ ((r = none ∧ ∀ e ∈ es, e.key ≠ enc a) ∨ ∃ j v, r = some (j, v) ∧ ∃ e, es[j]? = some e ∧ e.key = enc a) := by
  obtain ⟨r, hr, ho⟩ := find_key K a 0 es h
  obtain ⟨fs, hu⟩ := K.und
  obtain ⟨c, hc⟩ := hagg a
  cases es with
  | nil =>
    refine ⟨none, fun w => ?_, .inl ⟨rfl, fun e he => by cases he⟩⟩
    simp only [Instr.findKey, Sem.run_bind, run_underlying hu, Result.andThen_ok, Instr.findNow, Sem.run_pure]
  | cons e es =>
    refine ⟨r, fun w => ?_, by simpa using ho⟩
    have : Instr.findNow (.struct fs) (enc a) (e :: es) 0 = none := by
      rw [hc]; simp [Instr.findNow, Instr.sameNow]
    simp only [Instr.findKey, Sem.run_bind, run_underlying hu, Result.andThen_ok, this]
    exact hr w
/-- 'm[k] = true'. -/
theorem SetAt.put (K : KeyT P T enc) (hagg : ∀ a, ∃ c, enc a = .agg c) {M E : TypeId} (hM : P.underlying M = some (.map T E)) {r : Nat} {S : α → Prop} {w : World} (h : SetAt enc r S w) (a : α) (v : Value) :
    ∃ o, (Instr.mapUpdate M (.map (some r)) (enc a) v).run P w = .ok () (w.putObj r o) ∧ SetAt enc r (fun x => S x ∨ x = a) (w.putObj r o) := by
  obtain ⟨es, clock, hr, h1, h2, h3⟩ := h
  obtain ⟨x, hx, ho⟩ := findKey_key K hagg a es.toList (fun e he => let ⟨⟨b, _, hk⟩, _⟩ := h1 e he; ⟨b, hk⟩)
  have hg : (getObj r).run P w = .ok (.map es clock) w := by simp [getObj, Sem.run, hr]
  have hlt : r < w.heap.size := (Array.getElem?_eq_some_iff.1 hr).1
  have hs : ∀ o : Obj, (setObj r o).run P w = .ok () (w.putObj r o) := fun o => by simp [setObj, Sem.run, hr, World.putObj]
  have hck := K.chk a
  rcases ho with ⟨rfl, hno⟩ | ⟨j, v', rfl, e, hj, hk⟩
  · refine ⟨_, ?_, es.push { key := enc a, val := v, born := clock }, clock + 1, World.putObj_heap_same hlt, ?_, ?_, ?_⟩
    · simp [Instr.mapUpdate, run_underlying hM, hg, hck, hx, hs]
    · intro e he'
      simp only [Array.toList_push, List.mem_append, List.mem_cons, List.not_mem_nil, or_false] at he'
      rcases he' with he' | rfl
      · obtain ⟨⟨b, hb, hbk⟩, hc⟩ := h1 e he'
        exact ⟨⟨b, .inl hb, hbk⟩, by omega⟩
      · exact ⟨⟨a, .inr rfl, rfl⟩, by simp⟩
    · intro b hb
      rcases hb with hb | rfl
      · obtain ⟨e, he, hke⟩ := h2 b hb
        exact ⟨e, by simp only [Array.toList_push, List.mem_append]; exact .inl he, hke⟩
      · exact ⟨_, by simp only [Array.toList_push, List.mem_append, List.mem_cons, List.not_mem_nil, or_false]; exact .inr rfl, rfl⟩
    · simp only [Array.toList_push, List.map_append, List.map_cons, List.map_nil]
      rw [List.nodup_append]
      refine ⟨h3, by simp, fun x hx y hy => ?_⟩
      simp only [List.mem_cons, List.not_mem_nil, or_false] at hy
      subst hy
      obtain ⟨e, he, rfl⟩ := List.mem_map.1 hx
      have := (h1 e he).2
      omega
  · have hks : (Instr.keyThatStays (((es[j]?).map (·.key)).getD (enc a)) (enc a)).run P w = .ok (enc a) w := by
      have e1 : es[j]? = some e := by simpa using hj
      rw [e1]
      simp only [Option.map_some, Option.getD_some, hk, Instr.keyThatStays]
      rw [K.same a]
      rfl
    have hbn : ∀ l : List MapEntry, ∀ j, ((l.modify j fun e => { e with key := enc a, val := v }).map (·.born)) = l.map (·.born) := by
      intro l
      induction l with
      | nil => intro j; simp
      | cons y l ih => intro j; cases j <;> simp [ih]
    refine ⟨_, ?_, es.modify j fun e => { e with key := enc a, val := v }, clock, World.putObj_heap_same hlt, ?_, ?_, ?_⟩
    · simp [Instr.mapUpdate, run_underlying hM, hg, hck, hx, hs, hks]
    · intro e' he'
      obtain ⟨k, hk', hke⟩ := List.getElem_of_mem he'
      simp only [Array.toList_modify, List.getElem_modify] at hke
      split at hke
      · subst hke
        exact ⟨⟨a, .inr rfl, rfl⟩, (h1 _ (List.getElem_mem _)).2⟩
      · subst hke
        obtain ⟨⟨b, hb, hbk⟩, hc⟩ := h1 _ (List.getElem_mem (l := es.toList) (by simpa using hk'))
        exact ⟨⟨b, .inl hb, hbk⟩, hc⟩
    · have hjl : j < es.toList.length := (List.getElem?_eq_some_iff.1 hj).1
      intro b hb
      by_cases hba : b = a
      · subst hba
        refine ⟨{ e with key := enc b, val := v }, ?_, rfl⟩
        rw [Array.toList_modify]
        refine List.mem_iff_getElem.2 ⟨j, by simpa using hjl, ?_⟩
        have e1 : es.toList[j] = e := (List.getElem?_eq_some_iff.1 hj).2
        simp only [List.getElem_modify_eq, e1]
      · rcases hb with hb | rfl
        · obtain ⟨e', he', hke⟩ := h2 b hb
          obtain ⟨k, hk', rfl⟩ := List.getElem_of_mem he'
          by_cases hjk : j = k
          · subst hjk
            have e1 : es.toList[j] = e := (List.getElem?_eq_some_iff.1 hj).2
            rw [e1, hk] at hke
            obtain ⟨q, hq, hqi⟩ := K.eq b a default
            obtain ⟨q2, hq2, hqi2⟩ := K.eq a a default
            rw [← hke] at hq
            rw [hq] at hq2
            have e2 : q = q2 := by injection hq2
            exact absurd (hqi.1 (e2.trans (hqi2.2 rfl))) hba
          · refine ⟨es.toList[k], ?_, hke⟩
            rw [Array.toList_modify]
            refine List.mem_iff_getElem.2 ⟨k, by simpa using hk', ?_⟩
            rw [List.getElem_modify_ne _ _ hjk]
        · exact absurd rfl hba
    · rw [Array.toList_modify, hbn]; exact h3
end
end Go.Hs

/- A set that lies in a map, gone through in whatever order; the key types of layer 7. -/
namespace Go.Hs
open Go.RowKit
/-- An iterator over the map of a set: S is the set, D what has come out already. -/
def IterAt {α : Type} (enc : α → Value) (r bm : Nat) (S D : α → Prop) (w : World) : Prop :=
  ∃ es clock since seen c0, w.heap[r]? = some (.mapIter (some bm) since seen c0) ∧ w.heap[bm]? = some (.map es clock) ∧ (∀ e ∈ es.toList, (∃ a, S a ∧ e.key = enc a) ∧ e.born < since) ∧
    (∀ a, S a → ∃ e ∈ es.toList, e.key = enc a) ∧ (es.toList.map (·.born)).Nodup ∧ since ≤ c0 ∧ since ≤ clock ∧ (∀ e ∈ es.toList, e.born ∈ seen → ∃ a, D a ∧ e.key = enc a) ∧ (∀ a, D a → S a)
/-- How many entries are still to come. -/
def leftN (r bm : Nat) (w : World) : Nat := match w.heap[bm]? with
  | some (.map es _) => (leftOf es (w.iterSeen r)).size
  | _ => 0
section
variable {α : Type} {P : Program} {enc : α → Value}
theorem IterAt.of {r bm : Nat} {S D : α → Prop} {w w' : World} (h : IterAt enc r bm S D w) (hr : w'.heap[r]? = w.heap[r]?) (hb : w'.heap[bm]? = w.heap[bm]?) : IterAt enc r bm S D w' := by
  obtain ⟨es, clock, since, seen, c0, h1, h2, rest⟩ := h
  exact ⟨es, clock, since, seen, c0, hr.trans h1, hb.trans h2, rest⟩
theorem leftN_of {r bm : Nat} {w w' : World} (hr : w'.heap[r]? = w.heap[r]?) (hb : w'.heap[bm]? = w.heap[bm]?) : leftN r bm w' = leftN r bm w := by
  unfold leftN World.iterSeen
  rw [hr, hb]
theorem IterAt.lt {r bm : Nat} {S D : α → Prop} {w : World} (h : IterAt enc r bm S D w) : r < w.heap.size ∧ bm < w.heap.size ∧ r ≠ bm := by
  obtain ⟨es, clock, since, seen, c0, h1, h2, -⟩ := h
  refine ⟨(Array.getElem?_eq_some_iff.1 h1).1, (Array.getElem?_eq_some_iff.1 h2).1, ?_⟩
  rintro rfl
  rw [h1] at h2; cases h2
theorem IterAt.noCells {r bm : Nat} {S D : α → Prop} {w : World} (h : IterAt enc r bm S D w) : NoCells w r ∧ NoCells w bm := by
  obtain ⟨es, clock, since, seen, c0, h1, h2, -⟩ := h
  exact ⟨fun o => by simp [World.cell?, h1], fun o => by simp [World.cell?, h2]⟩
/-- 'range m'. -/
theorem SetAt.iter {M T E : TypeId} (hM : P.underlying M = some (.map T E)) {bm : Nat} {S : α → Prop} {w : World} (h : SetAt enc bm S w) :
    ∃ o, (Instr.range M (.map (some bm))).run P w = .ok (.pointer (some ⟨w.heap.size, 0, none⟩)) (w.alloc o) ∧ IterAt enc w.heap.size bm S (fun _ => False) (w.alloc o) := by
  obtain ⟨es, clock, hr, h1, h2, h3⟩ := h
  refine ⟨_, run_range_map w M T E bm es clock hM hr, es, clock, clock, #[], clock, World.alloc_heap_new w _, ?_, h1, h2, h3, Nat.le_refl _, Nat.le_refl _, fun e _ hs => by simp at hs, fun a h => h.elim⟩
  rw [Below.heap_alloc _ _ _ (Array.getElem?_eq_some_iff.1 hr).1]; exact hr
/-- 'next', and the entry that comes out. -/
theorem IterAt.next (hinj : ∀ a b, enc a = enc b → a = b) (ty : TypeId) {r bm : Nat} {S D : α → Prop} {w : World} (h : IterAt enc r bm S D w) :
    ((∀ a, S a → D a) ∧ (Instr.next (.pointer (some ⟨r, 0, none⟩)) false ty).run P w = .ok (.tuple #[.bool false]) w) ∨
    ∃ a v o w1, (w1 = w ∨ w1 = w.drew) ∧ S a ∧ (Instr.next (.pointer (some ⟨r, 0, none⟩)) false ty).run P w = .ok (.tuple #[.bool true, enc a, v]) (w1.putObj r o) ∧
      IterAt enc r bm S (fun x => D x ∨ x = a) (w1.putObj r o) ∧ leftN r bm (w1.putObj r o) < leftN r bm w ∧ (Instr.entry (.pointer (some ⟨r, 0, none⟩))).run P (w1.putObj r o) = .ok (.tuple #[enc a, v]) (w1.putObj r o) := by
  have hlt := h.lt
  obtain ⟨es, clock, since, seen, c0, h1, h2, h3, h4, h5, h6, h7, h8, h9⟩ := h
  rcases run_next_at (P := P) w ty r bm since c0 seen es clock h1 h2 (fun x hx => (h3 x hx).2) h6 with ⟨hz, hrun⟩ | ⟨e, he, w1, hal, hrun⟩
  · refine .inl ⟨fun a ha => ?_, hrun⟩
    obtain ⟨e, he, hk⟩ := h4 a ha
    have hs : e.born ∈ seen := by
      by_cases hc : e.born ∈ seen
      · exact hc
      · exfalso
        have : e ∈ (leftOf es seen).toList := by
          unfold leftOf
          rw [Array.toList_filter, List.mem_filter]
          exact ⟨he, by simp [hc]⟩
        have h0 : (leftOf es seen).toList.length = 0 := by rw [Array.length_toList]; exact hz
        rw [List.length_eq_zero_iff] at h0
        rw [h0] at this; cases this
    obtain ⟨b, hb, hbk⟩ := h8 e he hs
    have : a = b := hinj _ _ (hk.symm.trans hbk)
    rw [this]; exact hb
  · have hm := mem_left he
    obtain ⟨⟨a, ha, hk⟩, hborn⟩ := h3 e hm.1
    have hr1 : w1.heap[r]? = some (.mapIter (some bm) since seen c0) := by rcases hal with rfl | rfl <;> exact h1
    have hb1 : w1.heap[bm]? = some (.map es clock) := by rcases hal with rfl | rfl <;> exact h2
    have hsz : w1.heap.size = w.heap.size := by rcases hal with rfl | rfl <;> rfl
    have g1 : (w1.putObj r (.mapIter (some bm) since (seen.push e.born) clock)).heap[r]? = some (.mapIter (some bm) since (seen.push e.born) clock) := World.putObj_heap_same (by omega)
    have g2 : (w1.putObj r (.mapIter (some bm) since (seen.push e.born) clock)).heap[bm]? = some (.map es clock) := (World.putObj_heap_other (Ne.symm hlt.2.2)).trans hb1
    have hent := run_entry_at (P := P) (w1.putObj r (.mapIter (some bm) since (seen.push e.born) clock)) r bm since seen es clock e g1 g2 hm.1 h5
    rw [hk] at hent hrun
    refine .inr ⟨a, e.val, .mapIter (some bm) since (seen.push e.born) clock, w1, hal, ha, hrun, ?_, ?_, hent⟩
    · refine ⟨es, clock, since, seen.push e.born, clock, g1, g2, h3, h4, h5, h7, h7, fun x hx hxs => ?_, fun b hb => ?_⟩
      · simp only [Array.mem_push] at hxs
        rcases hxs with hxs | hxs
        · obtain ⟨b, hb, hbk⟩ := h8 x hx hxs
          exact ⟨b, .inl hb, hbk⟩
        · have : x = e := by
            have q1 := find_born x es.toList h5 hx
            have q2 := find_born e es.toList h5 hm.1
            rw [hxs, q2] at q1
            injection q1 with q1
            exact q1.symm
          subst this
          exact ⟨a, .inr rfl, hk⟩
      · rcases hb with hb | rfl
        · exact h9 b hb
        · exact ha
    · unfold leftN World.iterSeen
      rw [g1, g2, h2, h1]
      exact left_shrinks es seen e he
end
end Go.Hs

/- The key types of layer 7. -/
namespace Go.Proofs.Ytedblocbcjoolaa
open Go.RowKit Go.Hs
theorem Out.v_inj (a b : Out) (h : a.v = b.v) : a = b := by
  obtain ⟨p, l⟩ := a
  obtain ⟨q, m⟩ := b
  simp [Out.v] at h
  obtain ⟨rfl, h2⟩ := h
  have : l = m := by omega
  subst this; rfl
theorem Sm.v_inj (a b : Sm) (h : a.v = b.v) : a = b := by
  obtain ⟨a0, a1, a2, a3, a4⟩ := a
  obtain ⟨b0, b1, b2, b3, b4⟩ := b
  simp [Sm.v] at h
  obtain ⟨rfl, rfl, rfl, rfl, rfl⟩ := h
  rfl
theorem Out.v_agg (a : Out) : ∃ c, a.v = .agg c := ⟨_, rfl⟩
theorem Sm.v_agg (a : Sm) : ∃ c, a.v = .agg c := ⟨_, rfl⟩
theorem eq_out (a b a' b' : Int) (w : World) :
    (Op.equal 67 (.agg #[.int .i64 a, .int .i64 b]) (.agg #[.int .i64 a', .int .i64 b'])).run Try.prog w = .ok (a == a' && b == b') w := by
  simp [Op.equal, Op.maxDepth, go_sem]
  by_cases h1 : a = a' <;> by_cases h2 : b = b' <;> simp [h1, h2]
theorem eq_int_n (n : Nat) (a b : Int) (w : World) : (Op.equalIn (n + 1) 3 (.int .i64 a) (.int .i64 b)).run Try.prog w = .ok (a == b) w := by
  simp [Op.equalIn, go_sem]
theorem eq_arr_n (n : Nat) (b c d e b' c' d' e' : Int) (w : World) :
    (Op.equalIn (n + 2) 56 (.agg #[.int .i64 b, .int .i64 c, .int .i64 d, .int .i64 e]) (.agg #[.int .i64 b', .int .i64 c', .int .i64 d', .int .i64 e'])).run Try.prog w = .ok (b == b' && (c == c' && (d == d' && e == e'))) w := by
  rw [Op.equalIn]
  simp only [Sem.run_bind, run_underlying Try.underlying56, Result.andThen_ok]
  simp only [Std.Legacy.Range.forIn_eq_forIn_range', Std.Legacy.Range.size, Nat.sub_zero, Nat.add_sub_cancel, Nat.div_one, List.range'_succ, List.range'_zero, List.forIn_cons, List.forIn_nil]
  have h := eq_int_n n
  generalize Op.equalIn (n + 1) = eqn at *
  go_simp
  by_cases h2 : b = b' <;> by_cases h3 : c = c' <;> by_cases h4 : d = d' <;> by_cases h5 : e = e' <;> simp [h2, h3, h4, h5]
theorem eq_sum_n (n : Nat) (a b c d e a' b' c' d' e' : Int) (w : World) :
    (Op.equalIn (n + 3) 58 (.agg #[.int .i64 a, .int .i64 b, .int .i64 c, .int .i64 d, .int .i64 e]) (.agg #[.int .i64 a', .int .i64 b', .int .i64 c', .int .i64 d', .int .i64 e'])).run Try.prog w = .ok (a == a' && (b == b' && (c == c' && (d == d' && e == e')))) w := by
  have h := eq_arr_n n
  have h1 := eq_int_n (n + 1)
  rw [Op.equalIn]
  generalize Op.equalIn (n + 2) = eqn at *
  simp only [Sem.run_bind, run_underlying Try.underlying58, Result.andThen_ok]
  go_simp
  by_cases h0 : a = a' <;> simp [h0]
  by_cases h2 : b = b' <;> by_cases h3 : c = c' <;> by_cases h4 : d = d' <;> by_cases h5 : e = e' <;> simp [h2, h3, h4, h5]
theorem eq_sum (a b c d e a' b' c' d' e' : Int) (w : World) :
    (Op.equal 58 (.agg #[.int .i64 a, .int .i64 b, .int .i64 c, .int .i64 d, .int .i64 e]) (.agg #[.int .i64 a', .int .i64 b', .int .i64 c', .int .i64 d', .int .i64 e'])).run Try.prog w = .ok (a == a' && (b == b' && (c == c' && (d == d' && e == e')))) w :=
  eq_sum_n 9997 a b c d e a' b' c' d' e' w
theorem check_out (em : Bool) (a b : Int) (w : World) :
    (Instr.checkKey em 10000 67 (.agg #[.int .i64 a, .int .i64 b])).run Try.prog w = .ok () w := by
  have : ∀ n, (Instr.checkKey em (n + 2) 67 (.agg #[.int .i64 a, .int .i64 b])).run Try.prog w = .ok () w := by
    intro n
    simp [Instr.checkKey, go_sem]
  exact this 9998
theorem check_sum (em : Bool) (a b c d e : Int) (w : World) :
    (Instr.checkKey em 10000 58 (.agg #[.int .i64 a, .int .i64 b, .int .i64 c, .int .i64 d, .int .i64 e])).run Try.prog w = .ok () w := by
  have : ∀ n, (Instr.checkKey em (n + 3) 58 (.agg #[.int .i64 a, .int .i64 b, .int .i64 c, .int .i64 d, .int .i64 e])).run Try.prog w = .ok () w := by
    intro n
    simp [Instr.checkKey, go_sem, Std.Legacy.Range.forIn_eq_forIn_range', Std.Legacy.Range.size, List.range'_succ]
  exact this 9997
theorem kOut : KeyT Try.prog 67 Out.v := by
  refine ⟨fun a b w => ⟨_, eq_out _ _ _ _ w, ?_⟩, fun a w => check_out _ _ _ w, ⟨_, Try.underlying67⟩, fun a => ?_⟩
  · obtain ⟨p, l⟩ := a
    obtain ⟨q, m⟩ := b
    simp only [Bool.and_eq_true, beq_iff_eq, Out.mk.injEq]
    omega
  · have : ∀ n, Instr.sameBits (n + 2) a.v a.v = true := by intro n; simp [Instr.sameBits, Out.v]
    exact this 9998
theorem kSum : KeyT Try.prog 58 Sm.v := by
  refine ⟨fun a b w => ⟨_, eq_sum _ _ _ _ _ _ _ _ _ _ w, ?_⟩, fun a w => check_sum _ _ _ _ _ _ w, ⟨_, Try.underlying58⟩, fun a => ?_⟩
  · obtain ⟨a0, a1, a2, a3, a4⟩ := a
    obtain ⟨b0, b1, b2, b3, b4⟩ := b
    simp only [Bool.and_eq_true, beq_iff_eq, Sm.mk.injEq]
  · have : ∀ n, Instr.sameBits (n + 2) a.v a.v = true := by intro n; simp [Instr.sameBits, Sm.v]
    exact this 9998
end Go.Proofs.Ytedblocbcjoolaa

/- Words about memory: worlds in which a range of blocks may turn. -/
namespace Go.Hs
open Go.RowKit
/-- The world has grown; the blocks from lo to hi may have turned. -/
structure EG (lo hi : Nat) (w w' : World) : Prop where
  os : w'.os = w.os
  tape : w'.tape = w.tape
  output : w'.output = w.output
  size : w.heap.size ≤ w'.heap.size
  block : ∀ k, k < w.heap.size → k < lo ∨ hi ≤ k → w'.heap[k]? = w.heap[k]?
theorem Ext.eg {lo hi : Nat} {w w' : World} (h : Ext w w') : EG lo hi w w' := ⟨h.os, h.tape, h.output, h.size, fun k hk _ => h.block k hk⟩
theorem EG.refl {lo hi : Nat} (w : World) : EG lo hi w w := (Ext.refl w).eg
theorem EG.trans {lo hi : Nat} {a b c : World} (h : EG lo hi a b) (k : EG lo hi b c) : EG lo hi a c :=
  ⟨k.os.trans h.os, k.tape.trans h.tape, k.output.trans h.output, Nat.le_trans h.size k.size, fun i hi hr => (k.block i (Nat.lt_of_lt_of_le hi h.size) hr).trans (h.block i hi hr)⟩
theorem EG.ext {lo hi : Nat} {a b c : World} (h : EG lo hi a b) (k : Ext b c) : EG lo hi a c := h.trans k.eg
theorem EG.drew {lo hi : Nat} {a b : World} (h : EG lo hi a b) : EG lo hi a b.drew := h.ext (Ext.refl b).drew
theorem EG.drewN {lo hi : Nat} {a b : World} (h : EG lo hi a b) (n : Nat) : EG lo hi a (b.drewN n) := h.ext ((Ext.refl b).drewN n)
theorem EG.alloc {lo hi : Nat} {a b : World} (h : EG lo hi a b) (o : Obj) : EG lo hi a (b.alloc o) := h.ext ((Ext.refl b).alloc o)
theorem EG.grown {lo hi : Nat} {a b : World} {o : Option Nat} (h : a.grownBy b o) (ho : ∀ g, o = some g → lo ≤ g ∧ g < hi) : EG lo hi a b :=
  ⟨h.os, h.tape, h.output, h.size, fun i hi hr => h.block i hi (fun e => by have := ho i e.symm; omega)⟩
theorem EG.keep {lo hi : Nat} {a b : World} (h : EG lo hi a b) {k o : Nat} {v : Value} (hr : k < lo ∨ hi ≤ k) (hc : a.cell? ⟨k, o, none⟩ = some v) : b.cell? ⟨k, o, none⟩ = some v := by
  rw [World.cell?_of_block (w := a) (a := ⟨k, o, none⟩) (h.block k (lt_of_cell (a := ⟨k, o, none⟩) hc) hr)]; exact hc
theorem EG.frozen {lo hi : Nat} {a b : World} (h : EG lo hi a b) {k o : Nat} (hk : k < a.heap.size) (hr : k < lo ∨ hi ≤ k) : b.frozen? ⟨k, o, none⟩ = a.frozen? ⟨k, o, none⟩ :=
  World.frozen?_of_block (w := a) (a := ⟨k, o, none⟩) (h.block k hk hr)
/-- From a world on in which the turned blocks did not lie yet. -/
theorem EG.over {lo hi : Nat} {W a b : World} (h : Ext W a) (hl : W.heap.size ≤ lo) (k : EG lo hi a b) : Ext W b :=
  ⟨k.os.trans h.os, k.tape.trans h.tape, k.output.trans h.output, Nat.le_trans h.size k.size, fun i hi => (k.block i (Nat.lt_of_lt_of_le hi h.size) (.inl (by omega))).trans (h.block i hi)⟩
theorem EG.setCell {lo hi : Nat} {a b : World} {T i : Nat} (h : EG lo hi a b) (hT : a.heap.size ≤ T) (x : Value) : EG lo hi a (b.setCell ⟨T, i, none⟩ x) :=
  have E : Below 0 b (b.setCell ⟨T, i, none⟩ x) := Below.setCell (Below.refl 0 b) (Nat.zero_le _) x
  ⟨E.os.trans h.os, E.tape.trans h.tape, E.output.trans h.output, Nat.le_trans h.size E.size, fun k hk hr => (Below.heap_setCell _ _ _ _ (show k ≠ T by omega)).trans (h.block k hk hr)⟩
end Go.Hs

/- Words on a frame's marks, and on rows of cells. -/
namespace Go.Hs
open Go.RowKit
/-- Marks from block B on alone may have been shut. -/
structure ShutW (B : Nat) (w w' : World) : Prop where
  os : w'.os = w.os
  tape : w'.tape = w.tape
  output : w'.output = w.output
  size : w'.heap.size = w.heap.size
  low : ∀ (k : Nat), k < B → w'.heap[k]? = w.heap[k]?
  block : ∀ (k : Nat), (∀ x, w.heap[k]? ≠ some (Obj.deferred x)) → w'.heap[k]? = w.heap[k]?
theorem ShutW.refl (B : Nat) (w : World) : ShutW B w w := ⟨rfl, rfl, rfl, rfl, fun _ _ => rfl, fun _ _ => rfl⟩
theorem ShutW.step {B : Nat} {w w' : World} {r : Nat} (hB : B ≤ r) (hr : w.heap[r]? = some (Obj.deferred (some []))) (h : ShutW B (w.putObj r (Obj.deferred none)) w') : ShutW B w w' := by
  refine ⟨h.os, h.tape, h.output, by rw [h.size]; simp, fun k hk => (h.low k hk).trans (World.putObj_heap_other (by omega)), fun k hk => ?_⟩
  have hne : k ≠ r := by rintro rfl; exact hk _ hr
  have e := World.putObj_heap_other (w := w) (o := Obj.deferred none) hne
  rw [h.block k (fun x hx => hk x (by rw [← e]; exact hx)), e]
theorem ShutW.cell {B : Nat} {w w' : World} (h : ShutW B w w') {b o : Nat} {v : Value} (hc : w.cell? ⟨b, o, none⟩ = some v) : w'.cell? ⟨b, o, none⟩ = some v := by
  rw [World.cell?_of_block (w := w) (a := ⟨b, o, none⟩) (h.block b (fun x hx => ?_))]; exact hc
  unfold World.cell? at hc
  rw [hx] at hc; cases hc
theorem ShutW.kc {B : Nat} {w w' : World} (h : ShutW B w w') : KC w w' := fun _ _ _ hc => h.cell hc
theorem ShutW.ext {B : Nat} {w0 w w' : World} (h : Ext w0 w) (hB : w0.heap.size ≤ B) (k : ShutW B w w') : Ext w0 w' :=
  ⟨k.os.trans h.os, k.tape.trans h.tape, k.output.trans h.output, by rw [k.size]; exact h.size, fun i hi => (k.low i (by omega)).trans (h.block i hi)⟩
/-- The marks of a frame. -/
def Marks (B : Nat) (ds : List Deferred) (w : World) : Prop :=
  (∀ d ∈ ds, ∃ r, d = { target := .collected r, args := #[] } ∧ B ≤ r ∧ w.heap[r]? = some (Obj.deferred (some []))) ∧ ds.Pairwise (fun a b => a.target ≠ b.target)
theorem Marks.nil (B : Nat) (w : World) : Marks B [] w := ⟨fun d hd => (by cases hd), List.Pairwise.nil⟩
theorem leaves_marks {P : Program} {fn : Func} {tmps : Array Value} {R : Ending → World → Prop} {B : Nat} : ∀ (ds : List Deferred) (w : World), Marks B ds w →
    (∀ w', ShutW B w w' → ∃ v, (results fn tmps).run P w' = .ok v w' ∧ R (.returned v) w') → LeavesInM Fence.wide 0 P fn tmps R ds .returning w
  | [], w, _, h => h w (ShutW.refl B w)
  | d :: ds, w, hm, h => by
    obtain ⟨h1, h2⟩ := hm
    obtain ⟨r, rfl, hB, hr⟩ := h1 d (by simp)
    rw [List.pairwise_cons] at h2
    refine ⟨by simp, .inl ⟨_, _, rfl, run_takeDeferred hr, ?_⟩⟩
    refine leaves_marks ds _ ⟨fun d' hd' => ?_, h2.2⟩ (fun w' hw' => h w' (hw'.step hB hr))
    obtain ⟨r', rfl, hB', hr'⟩ := h1 d' (by simp [hd'])
    have hne : r' ≠ r := by
      have := h2.1 _ hd'
      rintro rfl
      exact this rfl
    exact ⟨r', rfl, hB', by rw [World.putObj_heap_other hne]; exact hr'⟩
theorem Marks.of {B : Nat} {ds : List Deferred} {w w' : World} (h : Marks B ds w) (hx : ∀ (k : Nat), k < w.heap.size → (∃ x, w.heap[k]? = some (Obj.deferred x)) → w'.heap[k]? = w.heap[k]?) : Marks B ds w' :=
  ⟨fun d hd => let ⟨r, e, hB, hr⟩ := h.1 d hd; ⟨r, e, hB, (hx r (Array.getElem?_eq_some_iff.1 hr).1 ⟨_, hr⟩).trans hr⟩, h.2⟩
theorem Marks.cons {B : Nat} {ds : List Deferred} {w w' : World} {D : Nat} (h : Marks B ds w) (hB : B ≤ D) (hl : w.heap.size ≤ D) (hx : ∀ (k : Nat), k < w.heap.size → (∃ x, w.heap[k]? = some (Obj.deferred x)) → w'.heap[k]? = w.heap[k]?) (hD : w'.heap[D]? = some (Obj.deferred (some []))) :
    Marks B ({ target := .collected D, args := #[] } :: ds) w' := by
  refine ⟨fun d hd => ?_, List.pairwise_cons.2 ⟨fun d hd => ?_, h.2⟩⟩
  · rcases List.mem_cons.1 hd with rfl | hd
    · exact ⟨D, rfl, hB, hD⟩
    · obtain ⟨r, e, hB', hr⟩ := h.1 d hd
      exact ⟨r, e, hB', (hx r (Array.getElem?_eq_some_iff.1 hr).1 ⟨_, hr⟩).trans hr⟩
  · obtain ⟨r, rfl, -, hr⟩ := h.1 d hd
    have := (Array.getElem?_eq_some_iff.1 hr).1
    intro e
    injection e with e
    omega
/-- The world has grown, and one block alone, if any, may have turned. -/
structure GB (row : Option Nat) (w w' : World) : Prop where
  os : w'.os = w.os
  tape : w'.tape = w.tape
  output : w'.output = w.output
  size : w.heap.size ≤ w'.heap.size
  block : ∀ k, k < w.heap.size → some k ≠ row → w'.heap[k]? = w.heap[k]?
theorem Ext.gb {w w' : World} {row : Option Nat} (h : Ext w w') : GB row w w' := ⟨h.os, h.tape, h.output, h.size, fun _ hk _ => h.heap hk⟩
theorem GB.refl {row : Option Nat} (w : World) : GB row w w := (Ext.refl w).gb
theorem GB.trans {row : Option Nat} {a b c : World} (h : GB row a b) (k : GB row b c) : GB row a c :=
  ⟨k.os.trans h.os, k.tape.trans h.tape, k.output.trans h.output, Nat.le_trans h.size k.size, fun i hi hr => (k.block i (Nat.lt_of_lt_of_le hi h.size) hr).trans (h.block i hi hr)⟩
theorem GB.grown {a b : World} {o : Option Nat} (h : a.grownBy b o) : GB o a b := ⟨h.os, h.tape, h.output, h.size, fun i hi hr => h.block i hi hr⟩
theorem GB.ext {row : Option Nat} {a b c : World} (h : GB row a b) (k : Ext b c) : GB row a c := h.trans k.gb
theorem GB.drew {row : Option Nat} {a b : World} (h : GB row a b) : GB row a b.drew := h.ext (Ext.refl b).drew
theorem GB.alloc {row : Option Nat} {a b : World} (h : GB row a b) (o : Obj) : GB row a (b.alloc o) := h.ext ((Ext.refl b).alloc o)
theorem GB.keep {row : Option Nat} {a b : World} (h : GB row a b) {k o : Nat} {v : Value} (hr : some k ≠ row) (hc : a.cell? ⟨k, o, none⟩ = some v) : b.cell? ⟨k, o, none⟩ = some v := by
  rw [World.cell?_of_block (w := a) (a := ⟨k, o, none⟩) (h.block k (lt_of_cell (a := ⟨k, o, none⟩) hc) hr)]; exact hc
theorem GB.frozen {row : Option Nat} {a b : World} (h : GB row a b) {k o : Nat} (hk : k < a.heap.size) (hr : some k ≠ row) : b.frozen? ⟨k, o, none⟩ = a.frozen? ⟨k, o, none⟩ :=
  World.frozen?_of_block (w := a) (a := ⟨k, o, none⟩) (h.block k hk hr)
theorem own_obj {w : World} {B e k n : Nat} {v : Value} {us : List Value} (h : w.ownsRow B e k v n us) {g : Nat} (hg : v.ownBlock = some g) : ∃ c t f, w.heap[g]? = some (.cells c t f) := by
  rcases h.2 with ⟨hv, -⟩ | ⟨g', cap, cur, hv, hb, hh, -⟩
  · rw [hv] at hg; simp [Value.ownBlock] at hg
  · rw [hv] at hg
    simp [Value.ownBlock] at hg
    subst hg
    exact ⟨_, _, _, hh⟩
/-- The outcomes of a field. -/
def outSet (c : Cas) (f : Fld) (n : Nat) (o : Out) : Prop := ∃ i, i < n ∧ o = outS c f (truthAt f i)
theorem outSet_next (c : Cas) (f : Fld) (n : Nat) (o : Out) : (outSet c f n o ∨ o = outS c f (truthAt f n)) ↔ outSet c f (n + 1) o := by
  constructor
  · rintro (⟨i, hi, rfl⟩ | rfl)
    · exact ⟨i, by omega, rfl⟩
    · exact ⟨n, by omega, rfl⟩
  · rintro ⟨i, hi, rfl⟩
    by_cases e : i = n
    · subst e; exact .inr rfl
    · exact .inl ⟨i, by omega, rfl⟩
/-- What holds between two fields of 'work'. -/
structure WrkI (c : Cas) (w : World) (e : Nat) (v0 v3 v4 : Value) (rs : List Nat) (ds : List Deferred) (W : World) : Prop where
  ext : Ext w W
  c0 : W.cell? ⟨w.heap.size + 1, 0, none⟩ = some v0
  c1 : W.cell? ⟨w.heap.size + 1, 1, none⟩ = some (.int .i64 c.day)
  c2 : W.cell? ⟨w.heap.size + 1, 2, none⟩ = some (.int .i64 c.fee)
  c3 : W.cell? ⟨w.heap.size + 1, 3, none⟩ = some v3
  c4 : W.cell? ⟨w.heap.size + 1, 4, none⟩ = some v4
  fr : ∀ o, W.frozen? ⟨w.heap.size + 1, o, none⟩ = false
  t3 : W.cell? ⟨w.heap.size + 2, 0, none⟩ = some (.pointer (some ⟨w.heap.size + 1, 0, none⟩))
  own : W.ownsRow (w.heap.size + 3) e 1 v4 rs.length (rs.map (fun r => .map (some r)))
  sets : ∀ i (h1 : i < rs.length) (h2 : i < c.flds.length), SetAt Out.v rs[i] (outSet c c.flds[i] (truthsN c.flds[i])) W
  marks : Marks w.heap.size ds W
theorem WrkI.grow {c : Cas} {w : World} {e : Nat} {v0 v3 v4 : Value} {rs : List Nat} {ds : List Deferred} {W W' : World} (h : WrkI c w e v0 v3 v4 rs ds W) (hx : Ext W W') : WrkI c w e v0 v3 v4 rs ds W' :=
  ⟨h.ext.trans hx, hx.keep h.c0, hx.keep h.c1, hx.keep h.c2, hx.keep h.c3, hx.keep h.c4, fun o => (hx.frozen (lt_of_cell h.c0)).trans (h.fr o), hx.keep h.t3, own_keep h.own (fun _ hg => hx.heap (own_lt h.own hg).2),
    fun i h1 h2 => (h.sets i h1 h2).of (hx.heap (h.sets i h1 h2).lt), h.marks.of (fun _ hk _ => hx.heap hk)⟩
/-- One map more. -/
theorem WrkI.app {c : Cas} {w : World} {e : Nat} {v0 v3 v4 v' : Value} {rs : List Nat} {ds : List Deferred} {W W' : World} {M : Nat} (h : WrkI c w e v0 v3 v4 rs ds W) (hg : GB v4.ownBlock W W') (ho : W'.ownsRow (w.heap.size + 3) e 1 v' (rs.length + 1) (rs.map (fun r => .map (some r)) ++ [.map (some M)]))
    (hM : ∀ (h2 : rs.length < c.flds.length), SetAt Out.v M (outSet c c.flds[rs.length] (truthsN c.flds[rs.length])) W) : WrkI c w e v0 v3 v' (rs ++ [M]) ds (W'.setCell ⟨w.heap.size + 1, 4, none⟩ v') := by
  have hb : ∀ k, k ≤ w.heap.size + 2 → some k ≠ v4.ownBlock := fun k hk e => by have := (own_lt h.own e.symm).1; omega
  have nd : ∀ k x, W.heap[k]? = some (Obj.deferred x) → some k ≠ v4.ownBlock := fun k x hx e => by
    obtain ⟨a, t, f, hc⟩ := own_obj h.own e.symm
    rw [hx] at hc; cases hc
  have nm : ∀ {r S}, SetAt (α := Out) Out.v r S W → some r ≠ v4.ownBlock := fun {r S} hs e => by
    obtain ⟨a, t, f, hc⟩ := own_obj h.own e.symm
    obtain ⟨es, clock, hr, -⟩ := hs
    rw [hr] at hc; cases hc
  have k1 : ∀ {o : Nat} {x : Value}, o ≠ 4 → W.cell? ⟨w.heap.size + 1, o, none⟩ = some x → (W'.setCell ⟨w.heap.size + 1, 4, none⟩ v').cell? ⟨w.heap.size + 1, o, none⟩ = some x := fun ho hc => sc_ne (.inr ho) (hg.keep (hb _ (by omega)) hc)
  have hset : ∀ {r S}, SetAt (α := Out) Out.v r S W → SetAt Out.v r S (W'.setCell ⟨w.heap.size + 1, 4, none⟩ v') := fun {r S} hs => hs.of (by
    have e1 := hg.block r hs.lt (nm hs)
    have hne : r ≠ w.heap.size + 1 := by
      rintro rfl
      have := hs.noCells 4
      rw [h.c4] at this; cases this
    exact (Below.heap_setCell _ _ _ _ hne).trans e1)
  have hextW' : Ext w W' := ⟨hg.os.trans h.ext.os, hg.tape.trans h.ext.tape, hg.output.trans h.ext.output, Nat.le_trans h.ext.size hg.size, fun i hi => (hg.block i (Nat.lt_of_lt_of_le hi h.ext.size) (hb i (by omega))).trans (h.ext.block i hi)⟩
  refine ⟨hextW'.setCell (by omega) _, k1 (by decide) h.c0, k1 (by decide) h.c1, k1 (by decide) h.c2, k1 (by decide) h.c3, sc_eq (hg.keep (hb _ (by omega)) h.c4), fun o => ?_, sc_ne (.inl (by omega)) (hg.keep (hb _ (by omega)) h.t3), ?_, fun i h1 h2 => ?_, ?_⟩
  · rw [World.frozen?_setCell, hg.frozen (lt_of_cell h.c0) (hb _ (by show w.heap.size + 1 ≤ _; omega))]; exact h.fr o
  · have e1 : (rs ++ [M]).length = rs.length + 1 := by simp
    have e2 : (rs ++ [M]).map (fun r => Value.map (some r)) = rs.map (fun r => .map (some r)) ++ [.map (some M)] := by simp
    rw [e1, e2]
    exact own_set ho (by omega)
  · by_cases hi : i < rs.length
    · have e : (rs ++ [M])[i] = rs[i] := by rw [List.getElem_append_left hi]
      rw [e]
      exact hset (h.sets i hi h2)
    · have e1 : i = rs.length := by simp at h1; omega
      subst e1
      have e : (rs ++ [M])[rs.length] = M := by simp
      rw [e]
      exact hset (hM h2)
  · refine h.marks.of (fun k hk hx => ?_)
    obtain ⟨x, hx⟩ := hx
    have hne : k ≠ w.heap.size + 1 := by
      rintro rfl
      have := h.c4
      unfold World.cell? at this
      rw [hx] at this; cases this
    exact (Below.heap_setCell _ _ _ _ hne).trans (hg.block k hk (nd k x hx))
/-- A case at work. -/
structure WorkC (c : Cas) (p : Nat) (v0 v3 : Value) (ro : Nat → Nat) (w : World) : Prop where
  c0 : w.cell? ⟨p, 0, none⟩ = some v0
  c1 : w.cell? ⟨p, 1, none⟩ = some (.int .i64 c.day)
  c2 : w.cell? ⟨p, 2, none⟩ = some (.int .i64 c.fee)
  c3 : w.cell? ⟨p, 3, none⟩ = some v3
  row : ∃ a q, w.cell? ⟨p, 4, none⟩ = some (.slice a c.flds.length q) ∧ Cells1 w a ((List.range c.flds.length).map (fun i => .map (some (ro i))))
  sets : ∀ i (h : i < c.flds.length), SetAt Out.v (ro i) (outSet c c.flds[i] (truthsN c.flds[i])) w
theorem WrkI.mark {c : Cas} {w : World} {e : Nat} {v0 v3 v4 : Value} {rs : List Nat} {ds : List Deferred} {W W' : World} {D : Nat} (h : WrkI c w e v0 v3 v4 rs ds W) (hx : Ext W W') (hl : W.heap.size ≤ D) (hD : W'.heap[D]? = some (Obj.deferred (some []))) :
    WrkI c w e v0 v3 v4 rs ({ target := .collected D, args := #[] } :: ds) W' :=
  have k := h.grow hx
  ⟨k.ext, k.c0, k.c1, k.c2, k.c3, k.c4, k.fr, k.t3, k.own, k.sets, h.marks.cons (Nat.le_trans h.ext.size hl) hl (fun _ hk _ => hx.heap hk) hD⟩
theorem own_cells1 {w : World} {B e n : Nat} {v : Value} {us : List Value} (h : w.ownsRow B e 1 v n us) : ∃ a q, v = .slice a n q ∧ Cells1 w a us := by
  obtain ⟨hl, ⟨rfl, rfl⟩ | ⟨g, cap, cur, rfl, -, hg, h1, h2, h3, h4⟩⟩ := h
  · exact ⟨none, 0, rfl, fun i hi => by simp at hl; rw [hl] at hi; simp at hi⟩
  · refine ⟨_, _, rfl, fun i hi => ⟨g, 0, rfl, ?_⟩⟩
    rw [cell_of_row w g (0 + i) cur e (0, 0) hg]
    have hi' : i < n := by omega
    have hic : i < cur.size := by omega
    subst h4
    simp only [Nat.zero_add, List.getElem_take, Array.getElem_toList]
    rw [Array.getElem?_eq_getElem hic]
theorem WrkI.done {c : Cas} {w : World} {e : Nat} {v0 v3 v4 : Value} {rs : List Nat} {ds : List Deferred} {W W' : World} (h : WrkI c w e v0 v3 v4 rs ds W) (hl : rs.length = c.flds.length) (hs : ShutW w.heap.size W W') :
    WorkC c (w.heap.size + 1) v0 v3 (fun i => rs.getD i 0) W' := by
  refine ⟨hs.cell h.c0, hs.cell h.c1, hs.cell h.c2, hs.cell h.c3, ?_, fun i hi => ?_⟩
  · obtain ⟨a, q, rfl, hc⟩ := own_cells1 h.own
    refine ⟨a, q, hl ▸ hs.cell h.c4, fun i hi => ?_⟩
    have hi' : i < c.flds.length := by simpa using hi
    obtain ⟨b, off, ha, hcc⟩ := hc i (by simp; omega)
    refine ⟨b, off, ha, ?_⟩
    rw [hs.cell hcc]
    have hir : i < rs.length := by omega
    simp [List.getD, List.getElem?_eq_getElem hir]
  · have hir : i < rs.length := by omega
    have e1 : rs.getD i 0 = rs[i] := by simp [List.getD, List.getElem?_eq_getElem hir]
    rw [e1]
    have k := h.sets i hir hi
    refine k.of (hs.block _ (fun x hx => ?_))
    obtain ⟨es, clock, hr, -⟩ := k
    rw [hr] at hx; cases hx
/-- What holds within the loop over a field's truths: B is the field's block. -/
structure WrkJ (c : Cas) (wo : World) (f : Fld) (n : Nat) (W : World) : Prop where
  ext : Ext wo W
  fb : Cell9 W wo.heap.size 0 f.c
  tr : Cell9 W (wo.heap.size + 1 + 1 + 1) 0 f.c
  t6 : W.cell? ⟨wo.heap.size + 1 + 1, 0, none⟩ = some (.map (some (wo.heap.size + 1)))
  set : SetAt Out.v (wo.heap.size + 1) (outSet c f n) W
  s : wo.heap.size + 4 ≤ W.heap.size
theorem WrkJ.below {c : Cas} {wo : World} {f : Fld} {n D : Nat} {W W' : World} (h : WrkJ c wo f n W) (hx : Below D W W') (hD : wo.heap.size + 4 ≤ D) : WrkJ c wo f n W' :=
  ⟨Below.trans h.ext (hx.mono (by omega)), h.fb.below hx (by omega), h.tr.below hx (by omega), (hx.cell (p := ⟨wo.heap.size + 1 + 1, 0, none⟩) (show wo.heap.size + 1 + 1 < D by omega)).trans h.t6, h.set.of (hx.block _ (show wo.heap.size + 1 < D by omega)), Nat.le_trans h.s hx.size⟩
theorem WrkJ.put {c : Cas} {wo : World} {f : Fld} {n : Nat} {W : World} (h : WrkJ c wo f n W) (o : Obj) (hs : SetAt Out.v (wo.heap.size + 1) (fun x => outSet c f n x ∨ x = outS c f (truthAt f n)) (W.putObj (wo.heap.size + 1) o)) : WrkJ c wo f (n + 1) (W.putObj (wo.heap.size + 1) o) := by
  have k : ∀ {b i : Nat} {v : Value}, b ≠ wo.heap.size + 1 → W.cell? ⟨b, i, none⟩ = some v → (W.putObj (wo.heap.size + 1) o).cell? ⟨b, i, none⟩ = some v := fun hb hc => by
    rw [World.cell?_of_block (w := W) (World.putObj_heap_other hb)]; exact hc
  have k9 : ∀ {b : Nat}, b ≠ wo.heap.size + 1 → Cell9 W b 0 f.c → Cell9 (W.putObj (wo.heap.size + 1) o) b 0 f.c := fun hb ⟨h0, h1, h2, h3, h4, h5, h6, h7, h8⟩ =>
    ⟨k hb h0, k hb h1, k hb h2, k hb h3, k hb h4, k hb h5, k hb h6, k hb h7, k hb h8⟩
  exact ⟨⟨h.ext.os, h.ext.tape, h.ext.output, by simpa using h.ext.size, fun i hi => (World.putObj_heap_other (by omega)).trans (h.ext.block i hi)⟩, k9 (by omega) h.fb, k9 (by omega) h.tr, k (by omega) h.t6, hs.congr (outSet_next c f n), by simpa using h.s⟩
theorem step_is_app {P : Program} {w : World} {ops : Array Oper} {o : Oper} {a : Act} {K : Act → World → Prop} {Q : Exit → Act → World → Prop} {E : Prop} (s x : Operand) (t : TypeId)
    (_ : o.op = .call { callee := .builtin .append, args := #[s, x], argTypes := #[t, t] }) (h : if Region.wanted o (yielded ops a.tmps) = true then Oper.wp P o a w K Q else E) : if Region.wanted o (yielded ops a.tmps) = true then Oper.wp P o a w K Q else E := h
theorem one_in {W wa : World} {b : Nat} {x : Value} {t : TypeId} (h : Ext (W.alloc (.cells #[x] t)) wa) (hb : b = W.heap.size) : ∀ j y, ([x] : List Value)[j]? = some y → wa.cell? ((⟨b, 0, none⟩ : Addr).add j) = some y := by
  subst hb
  intro j y hj
  rcases j with _ | j
  · simp at hj
    subst hj
    rw [show (⟨W.heap.size, 0, none⟩ : Addr).add 0 = ⟨W.heap.size, 0, none⟩ by simp [Addr.add]]
    exact h.keep (by simp)
  · simp at hj
theorem own_ext {W W' : World} {B e k n : Nat} {v : Value} {us : List Value} (h : W.ownsRow B e k v n us) (hx : Ext W W') : W'.ownsRow B e k v n us := own_keep h (fun _ hg => hx.heap (own_lt h hg).2)
theorem le_ext {W W' : World} {n : Nat} (h : n ≤ W.heap.size) (hx : Ext W W') : n ≤ W'.heap.size := Nat.le_trans h hx.size
theorem gb_own {row : Option Nat} {W w w' : World} (hx : Ext W w) (hg : w.grownBy w' row) : GB row W w' := hx.gb.trans (GB.grown hg)
end Go.Hs
