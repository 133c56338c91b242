/- Contracts: the bounds of a claim. -/
import Derived.Test.YtfjecbfcnngacaaAA
import Derived.Test.YtfjecbfcnngacaaR
namespace Go.Proofs.Ytfjecbfcnngacaa
open Go.RowKit Go.Hs
attribute [local irreducible] World.setCell World.alloc

/-- The error of what is asked of some claims. -/
def askS (l : List Tar) (cs : List Cla) : Int := if checkS l ≠ 0 then checkS l else if claimsB l cs then 0 else 2

theorem askS_zero {l : List Tar} {cs : List Cla} (h : askS l cs = 0) : checkS l = 0 ∧ claimsB l cs = true := by
  unfold askS at h
  split at h
  · rename_i h0; exact absurd h h0
  · rename_i h0
    split at h
    · rename_i h1; exact ⟨by omega, h1⟩
    · omega

theorem asked_bad (v : Value) (l : List Tar) (a : Option Addr) (c : Nat) (cs : List Cla) (hlen : cs.length ≤ 140737488351232) (w : World) (hv : TarsV w v l) (hc : Cells6 w a (cs.map Cla.u)) (h : askS l cs ≠ 0) :
    Calls Try.prog 69 #[v, .slice a cs.length c] w fun e w' => e = .returned (.tuple #[.pointer none, .int .i64 (askS l cs)]) ∧ Ext w w' := by
  by_cases h0 : checkS l = 0
  · have h1 : claimsB l cs = false := by
      cases e : claimsB l cs with
      | false => rfl
      | true => exact absurd (by simp [askS, h0, e]) h
    have e : askS l cs = 2 := by simp [askS, h0, h1]
    rw [e]
    exact asked_no v l a c cs hlen w hv hc h0 h1
  · have e : askS l cs = checkS l := if_pos h0
    rw [e]
    exact asked_err v _ l w hv h0

theorem asked_good (v : Value) (l : List Tar) (a : Option Addr) (c : Nat) (cs : List Cla) (hlen : cs.length ≤ 140737488351232) (w : World) (hv : TarsV w v l) (hc : Cells6 w a (cs.map Cla.u)) (h : askS l cs = 0) :
    Calls Try.prog 69 #[v, .slice a cs.length c] w fun e w' => ∃ p r, e = .returned (.tuple #[.pointer (some ⟨p, 0, none⟩), .int .i64 0]) ∧ Ext w w' ∧ WorkAt l p r v w' ∧ w.heap.size ≤ r :=
  asked_ok v l a c cs hlen w hv hc (askS_zero h).1 (askS_zero h).2

theorem one_claim {w : World} {B : Nat} {c : Cla} (h : Cell6 w B 0 c.u) : Cells6 w (some ⟨B, 0, none⟩) ([c].map Cla.u) := by
  intro i hi
  have e : i = 0 := by simpa using hi
  subst e
  exact ⟨B, 0, rfl, by simpa using h⟩

theorem ends_calls (l : List Tar) (hl : ValidL l) (c : Cla) (hc : ClaimOK l c) (p r : Nat) (v : Value) (w : World) (hw : WorkAt l p r v w) :
    Calls Try.prog 70 #[.pointer (some ⟨p, 0, none⟩), c.u.val] w fun e w' =>
      e = .returned (.tuple #[.agg #[.int .i64 (endsS l c).lo, .int .i64 (endsS l c).hi], .agg #[.int .i64 (endsS l c).ld, .int .i64 (endsS l c).ln], .agg #[.int .i64 (endsS l c).hd, .int .i64 (endsS l c).hn]]) ∧ ExtBut r w w' ∧ WorkAt l p r v w' :=
  callsIn_wide.1 (ends_any l hl c hc p r v w hw)

set_option maxRecDepth 100000 in
set_option maxHeartbeats 1000000 in
theorem Bounds_bad (v : Value) (l : List Tar) (c : Cla) (w : World) (hv : TarsV w v l) (h : askS l [c] ≠ 0) :
    Calls Try.prog 27 #[v, c.u.val] w fun e w' => e = .returned (.tuple #[.agg #[.int .i64 0, .int .i64 0], .int .i64 (askS l [c])]) ∧ Ext w w' := by
  have hb : ∀ B k W, Ext w W → Cell6 W B 0 c.u → Calls Try.prog 69 #[v, .slice (some ⟨B, 0, none⟩) 1 k] W fun e w' => e = .returned (.tuple #[.pointer none, .int .i64 (askS l [c])]) ∧ Ext W w' :=
    fun B k W hx hc => asked_bad v l _ k [c] (by simp) W (hv.ext hx) (one_claim hc) h
  have hd : (askS l [c] != 0) = true := by simp [h]
  clear h
  generalize askS l [c] = ck at *
  go_enter Try.func27, Try.ntmps27
  go_wp2_with fail
  (with_reducible refine (hb _ _ _ ?hx ?hc).mono ?_)
  case hx => (repeat (first | exact Ext.refl _ | (with_reducible assumption) | (with_reducible refine Ext.drew ?_) | (with_reducible refine Ext.alloc ?_ _) | (with_reducible refine Ext.drewN ?_ _) | (with_reducible refine Ext.setCell ?_ (by omega) _) | (with_reducible refine Ext.trans ?_ (by with_reducible assumption))))
  case hc => refine ⟨?_, ?_, ?_, ?_, ?_, ?_⟩ <;> simp [go_sem]
  rintro e w1 ⟨rfl, hx1⟩
  have q0 := hx1.keep (k := w.heap.size + 1) (o := 0) (v := .int .i64 0) (by simp [go_sem])
  have q1 := hx1.keep (k := w.heap.size + 1) (o := 1) (v := .int .i64 0) (by simp [go_sem])
  have z0 := hx1.frozen (k := w.heap.size + 1) (o := 0) (by simp)
  have z1 := hx1.frozen (k := w.heap.size + 1) (o := 1) (by simp)
  simp [go_sem] at z0 z1
  go_wp2_with fail
  refine bodyPost_ret (v := .tuple #[.agg #[.int .i64 0, .int .i64 0], .int .i64 ck]) (by simp [results, Try.results27, go_sem, q0, q1]) rfl ⟨rfl, ?_⟩
  (repeat (first | exact Ext.refl _ | (with_reducible assumption) | (with_reducible refine Ext.drew ?_) | (with_reducible refine Ext.alloc ?_ _) | (with_reducible refine Ext.drewN ?_ _) | (with_reducible refine Ext.setCell ?_ (by omega) _) | (with_reducible refine Ext.trans ?_ (by with_reducible assumption))))
theorem ask_one {l : List Tar} {c : Cla} (h : askS l [c] = 0) : ValidL l ∧ ClaimOK l c := by
  obtain ⟨h0, h1⟩ := askS_zero h
  refine ⟨validL_of h0, claimB_iff.1 ?_⟩
  have := allB_iff.1 h1 0 (by simp)
  simpa using this

set_option maxRecDepth 100000 in
set_option maxHeartbeats 1000000 in
theorem Bounds_good (v : Value) (l : List Tar) (c : Cla) (w : World) (hv : TarsV w v l) (h : askS l [c] = 0) :
    Calls Try.prog 27 #[v, c.u.val] w fun e w' => e = .returned (.tuple #[.agg #[.int .i64 (endsS l c).lo, .int .i64 (endsS l c).hi], .int .i64 0]) ∧ Ext w w' := by
  have hb : ∀ B k W, Ext w W → Cell6 W B 0 c.u → Calls Try.prog 69 #[v, .slice (some ⟨B, 0, none⟩) 1 k] W fun e w' => ∃ p r, e = .returned (.tuple #[.pointer (some ⟨p, 0, none⟩), .int .i64 0]) ∧ Ext W w' ∧ WorkAt l p r v w' ∧ W.heap.size ≤ r :=
    fun B k W hx hc => asked_good v l _ k [c] (by simp) W (hv.ext hx) (one_claim hc) h
  obtain ⟨hl, hcl⟩ := ask_one h
  have he : ∀ p r W, WorkAt l p r v W → Calls Try.prog 70 #[.pointer (some ⟨p, 0, none⟩), c.u.val] W fun e w' =>
      e = .returned (.tuple #[.agg #[.int .i64 (endsS l c).lo, .int .i64 (endsS l c).hi], .agg #[.int .i64 (endsS l c).ld, .int .i64 (endsS l c).ln], .agg #[.int .i64 (endsS l c).hd, .int .i64 (endsS l c).hn]]) ∧ ExtBut r W w' ∧ WorkAt l p r v w' :=
    fun p r W hw => ends_calls l hl c hcl p r v W hw
  clear h hl hcl
  generalize endsS l c = es at *
  go_enter Try.func27, Try.ntmps27
  go_wp2_with fail
  (with_reducible refine (hb _ _ _ ?hx ?hc).mono ?_)
  case hx => (repeat (first | exact Ext.refl _ | (with_reducible assumption) | (with_reducible refine Ext.drew ?_) | (with_reducible refine Ext.alloc ?_ _) | (with_reducible refine Ext.drewN ?_ _) | (with_reducible refine Ext.setCell ?_ (by omega) _) | (with_reducible refine Ext.trans ?_ (by with_reducible assumption))))
  case hc => refine ⟨?_, ?_, ?_, ?_, ?_, ?_⟩ <;> simp [go_sem]
  rintro e w1 ⟨p, r, rfl, hx1, hw1, hr1⟩
  have c0 := hx1.keep (k := w.heap.size) (o := 0) (v := .int .i64 c.crop) (by simp [go_sem])
  have c1 := hx1.keep (k := w.heap.size) (o := 1) (v := .int .i64 c.value) (by simp [go_sem])
  have c2 := hx1.keep (k := w.heap.size) (o := 2) (v := .int .i64 c.dlo) (by simp [go_sem])
  have c3 := hx1.keep (k := w.heap.size) (o := 3) (v := .int .i64 c.dhi) (by simp [go_sem])
  have c4 := hx1.keep (k := w.heap.size) (o := 4) (v := .int .i64 c.clo) (by simp [go_sem])
  have c5 := hx1.keep (k := w.heap.size) (o := 5) (v := .int .i64 c.chi) (by simp [go_sem])
  have hr : w.heap.size ≤ r := by simp at hr1; omega
  have hr' : w.heap.size + 1 < r := by simp at hr1; omega
  go_wp2_with fail
  (with_reducible refine (he _ _ _ hw1).mono ?_)
  rintro e w2 ⟨rfl, hx2, hw2⟩
  have hx3 := ExtBut.ext hx1 hr1 hx2
  clear hr1 hx2 hx1
  have hs := hx3.size
  have s0 : w.heap.size + 1 < w2.heap.size := by simp at hs; omega
  clear hs
  have n0 : ¬ w.heap.size + 1 = w2.heap.size := by omega
  have n1 : ¬ w.heap.size = w2.heap.size := by omega
  have n2 : ¬ w.heap.size = w2.heap.size + 1 := by omega
  have q0 := hx3.keep (k := w.heap.size + 1) (o := 0) (v := .int .i64 0) (by simp [go_sem])
  have q1 := hx3.keep (k := w.heap.size + 1) (o := 1) (v := .int .i64 0) (by simp [go_sem])
  have z0 := hx3.frozen (k := w.heap.size + 1) (o := 0) (by simp)
  have z1 := hx3.frozen (k := w.heap.size + 1) (o := 1) (by simp)
  simp [go_sem] at z0 z1
  have X : ∀ A B C, Ext w2 (((w2.alloc A).alloc B).alloc C) := fun A B C => (((Ext.refl _).alloc A).alloc B).alloc C
  have y0 := fun A B C => (X A B C).keep q0
  have y1 := fun A B C => (X A B C).keep q1
  have f0 := fun A B C => ((X A B C).frozen (o := 0) s0).trans z0
  have f1 := fun A B C => ((X A B C).frozen (o := 1) s0).trans z1
  clear X
  go_wp2_with fail
  refine bodyPost_ret (v := .tuple #[.agg #[.int .i64 es.lo, .int .i64 es.hi], .int .i64 0]) (by simp [results, Try.results27, go_sem, y0, y1]) rfl ⟨rfl, ?_⟩
  (repeat (first | exact Ext.refl _ | (with_reducible assumption) | (with_reducible refine Ext.drew ?_) | (with_reducible refine Ext.alloc ?_ _) | (with_reducible refine Ext.drewN ?_ _) | (with_reducible refine Ext.setCell ?_ (by omega) _) | (with_reducible refine Ext.trans ?_ (by with_reducible assumption))))

set_option maxRecDepth 100000 in
set_option maxHeartbeats 1000000 in
theorem Show_bad (v : Value) (l : List Tar) (c : Cla) (high : Bool) (w : World) (hv : TarsV w v l) (h : askS l [c] ≠ 0) :
    Calls Try.prog 29 #[v, c.u.val, .bool high] w fun e w' => e = .returned (.tuple #[.agg #[.int .i64 0, .int .i64 0], .int .i64 (askS l [c])]) ∧ Ext w w' := by
  have hb : ∀ B k W, Ext w W → Cell6 W B 0 c.u → Calls Try.prog 69 #[v, .slice (some ⟨B, 0, none⟩) 1 k] W fun e w' => e = .returned (.tuple #[.pointer none, .int .i64 (askS l [c])]) ∧ Ext W w' :=
    fun B k W hx hc => asked_bad v l _ k [c] (by simp) W (hv.ext hx) (one_claim hc) h
  have hd : (askS l [c] != 0) = true := by simp [h]
  clear h
  generalize askS l [c] = ck at *
  go_enter Try.func29, Try.ntmps29
  go_wp2_with fail
  (with_reducible refine (hb _ _ _ ?hx ?hc).mono ?_)
  case hx => (repeat (first | exact Ext.refl _ | (with_reducible assumption) | (with_reducible refine Ext.drew ?_) | (with_reducible refine Ext.alloc ?_ _) | (with_reducible refine Ext.drewN ?_ _) | (with_reducible refine Ext.setCell ?_ (by omega) _) | (with_reducible refine Ext.trans ?_ (by with_reducible assumption))))
  case hc => refine ⟨?_, ?_, ?_, ?_, ?_, ?_⟩ <;> simp [go_sem]
  rintro e w1 ⟨rfl, hx1⟩
  have q0 := hx1.keep (k := w.heap.size + 1) (o := 0) (v := .int .i64 0) (by simp [go_sem])
  have q1 := hx1.keep (k := w.heap.size + 1) (o := 1) (v := .int .i64 0) (by simp [go_sem])
  have z0 := hx1.frozen (k := w.heap.size + 1) (o := 0) (by simp)
  have z1 := hx1.frozen (k := w.heap.size + 1) (o := 1) (by simp)
  simp [go_sem] at z0 z1
  go_wp2_with fail
  refine bodyPost_ret (v := .tuple #[.agg #[.int .i64 0, .int .i64 0], .int .i64 ck]) (by simp [results, Try.results29, go_sem, q0, q1]) rfl ⟨rfl, ?_⟩
  (repeat (first | exact Ext.refl _ | (with_reducible assumption) | (with_reducible refine Ext.drew ?_) | (with_reducible refine Ext.alloc ?_ _) | (with_reducible refine Ext.drewN ?_ _) | (with_reducible refine Ext.setCell ?_ (by omega) _) | (with_reducible refine Ext.trans ?_ (by with_reducible assumption))))

set_option maxRecDepth 100000 in
set_option maxHeartbeats 1000000 in
theorem Show_good (v : Value) (l : List Tar) (c : Cla) (high : Bool) (w : World) (hv : TarsV w v l) (h : askS l [c] = 0) :
    Calls Try.prog 29 #[v, c.u.val, .bool high] w fun e w' => e = .returned (.tuple #[.agg #[.int .i64 (if high then (endsS l c).hd else (endsS l c).ld), .int .i64 (if high then (endsS l c).hn else (endsS l c).ln)], .int .i64 0]) ∧ Ext w w' := by
  have hb : ∀ B k W, Ext w W → Cell6 W B 0 c.u → Calls Try.prog 69 #[v, .slice (some ⟨B, 0, none⟩) 1 k] W fun e w' => ∃ p r, e = .returned (.tuple #[.pointer (some ⟨p, 0, none⟩), .int .i64 0]) ∧ Ext W w' ∧ WorkAt l p r v w' ∧ W.heap.size ≤ r :=
    fun B k W hx hc => asked_good v l _ k [c] (by simp) W (hv.ext hx) (one_claim hc) h
  obtain ⟨hl, hcl⟩ := ask_one h
  have he : ∀ p r W, WorkAt l p r v W → Calls Try.prog 70 #[.pointer (some ⟨p, 0, none⟩), c.u.val] W fun e w' =>
      e = .returned (.tuple #[.agg #[.int .i64 (endsS l c).lo, .int .i64 (endsS l c).hi], .agg #[.int .i64 (endsS l c).ld, .int .i64 (endsS l c).ln], .agg #[.int .i64 (endsS l c).hd, .int .i64 (endsS l c).hn]]) ∧ ExtBut r W w' ∧ WorkAt l p r v w' :=
    fun p r W hw => ends_calls l hl c hcl p r v W hw
  clear h hl hcl
  generalize endsS l c = es at *
  go_enter Try.func29, Try.ntmps29
  go_wp2_with fail
  (with_reducible refine (hb _ _ _ ?hx ?hc).mono ?_)
  case hx => (repeat (first | exact Ext.refl _ | (with_reducible assumption) | (with_reducible refine Ext.drew ?_) | (with_reducible refine Ext.alloc ?_ _) | (with_reducible refine Ext.drewN ?_ _) | (with_reducible refine Ext.setCell ?_ (by omega) _) | (with_reducible refine Ext.trans ?_ (by with_reducible assumption))))
  case hc => refine ⟨?_, ?_, ?_, ?_, ?_, ?_⟩ <;> simp [go_sem]
  rintro e w1 ⟨p, r, rfl, hx1, hw1, hr1⟩
  have c0 := hx1.keep (k := w.heap.size) (o := 0) (v := .int .i64 c.crop) (by simp [go_sem])
  have c1 := hx1.keep (k := w.heap.size) (o := 1) (v := .int .i64 c.value) (by simp [go_sem])
  have c2 := hx1.keep (k := w.heap.size) (o := 2) (v := .int .i64 c.dlo) (by simp [go_sem])
  have c3 := hx1.keep (k := w.heap.size) (o := 3) (v := .int .i64 c.dhi) (by simp [go_sem])
  have c4 := hx1.keep (k := w.heap.size) (o := 4) (v := .int .i64 c.clo) (by simp [go_sem])
  have c5 := hx1.keep (k := w.heap.size) (o := 5) (v := .int .i64 c.chi) (by simp [go_sem])
  have hr : w.heap.size ≤ r := by simp at hr1; omega
  have hr' : w.heap.size + 1 < r := by simp at hr1; omega
  go_wp2_with fail
  (with_reducible refine (he _ _ _ hw1).mono ?_)
  rintro e w2 ⟨rfl, hx2, hw2⟩
  have hx3 := ExtBut.ext hx1 hr1 hx2
  clear hr1 hx2 hx1
  have hs := hx3.size
  have s0 : w.heap.size + 1 < w2.heap.size := by simp at hs; omega
  clear hs
  have n0 : ¬ w.heap.size + 1 = w2.heap.size := by omega
  have n1 : ¬ w.heap.size = w2.heap.size := by omega
  have n2 : ¬ w.heap.size = w2.heap.size + 1 := by omega
  have q0 := hx3.keep (k := w.heap.size + 1) (o := 0) (v := .int .i64 0) (by simp [go_sem])
  have q1 := hx3.keep (k := w.heap.size + 1) (o := 1) (v := .int .i64 0) (by simp [go_sem])
  have z0 := hx3.frozen (k := w.heap.size + 1) (o := 0) (by simp)
  have z1 := hx3.frozen (k := w.heap.size + 1) (o := 1) (by simp)
  simp [go_sem] at z0 z1
  have X : ∀ A B C, Ext w2 (((w2.alloc A).alloc B).alloc C) := fun A B C => (((Ext.refl _).alloc A).alloc B).alloc C
  have y0 := fun A B C => (X A B C).keep q0
  have y1 := fun A B C => (X A B C).keep q1
  have f0 := fun A B C => ((X A B C).frozen (o := 0) s0).trans z0
  have f1 := fun A B C => ((X A B C).frozen (o := 1) s0).trans z1
  clear X
  cases high
  · go_wp2_with fail
    refine bodyPost_ret (v := .tuple #[.agg #[.int .i64 es.ld, .int .i64 es.ln], .int .i64 0]) (by simp [results, Try.results29, go_sem, y0, y1]) rfl ⟨rfl, ?_⟩
    (repeat (first | exact Ext.refl _ | (with_reducible assumption) | (with_reducible refine Ext.drew ?_) | (with_reducible refine Ext.alloc ?_ _) | (with_reducible refine Ext.drewN ?_ _) | (with_reducible refine Ext.setCell ?_ (by omega) _) | (with_reducible refine Ext.trans ?_ (by with_reducible assumption))))
  · go_wp2_with fail
    refine bodyPost_ret (v := .tuple #[.agg #[.int .i64 es.hd, .int .i64 es.hn], .int .i64 0]) (by simp [results, Try.results29, go_sem, y0, y1]) rfl ⟨rfl, ?_⟩
    (repeat (first | exact Ext.refl _ | (with_reducible assumption) | (with_reducible refine Ext.drew ?_) | (with_reducible refine Ext.alloc ?_ _) | (with_reducible refine Ext.drewN ?_ _) | (with_reducible refine Ext.setCell ?_ (by omega) _) | (with_reducible refine Ext.trans ?_ (by with_reducible assumption))))

/-- Whether a claim is paid: 1 always, 2 never, 3 that is open. -/
def verdictS (lo hi : Int) : Int := if 0 < lo then 1 else if 0 < hi then 3 else 2

set_option maxRecDepth 100000 in
set_option maxHeartbeats 1000000 in
theorem Paid_bad (v : Value) (l : List Tar) (c : Cla) (w : World) (hv : TarsV w v l) (h : askS l [c] ≠ 0) :
    Calls Try.prog 30 #[v, c.u.val] w fun e w' => e = .returned (.tuple #[.int .i64 0, .int .i64 (askS l [c])]) ∧ Ext w w' := by
  have hb : ∀ W, Ext w W → Calls Try.prog 27 #[v, c.u.val] W fun e w' => e = .returned (.tuple #[.agg #[.int .i64 0, .int .i64 0], .int .i64 (askS l [c])]) ∧ Ext W w' :=
    fun W hx => Bounds_bad v l c W (hv.ext hx) h
  have hd : (askS l [c] != 0) = true := by simp [h]
  clear h
  generalize askS l [c] = ck at *
  go_enter Try.func30, Try.ntmps30
  go_wp2_with fail
  (with_reducible refine (hb _ ?hx).mono ?_)
  case hx => (repeat (first | exact Ext.refl _ | (with_reducible assumption) | (with_reducible refine Ext.drew ?_) | (with_reducible refine Ext.alloc ?_ _) | (with_reducible refine Ext.drewN ?_ _) | (with_reducible refine Ext.setCell ?_ (by omega) _) | (with_reducible refine Ext.trans ?_ (by with_reducible assumption))))
  rintro e w1 ⟨rfl, hx1⟩
  go_wp2_with fail
  go_ret2
  exact ⟨rfl, by (repeat (first | exact Ext.refl _ | (with_reducible assumption) | (with_reducible refine Ext.drew ?_) | (with_reducible refine Ext.alloc ?_ _) | (with_reducible refine Ext.drewN ?_ _) | (with_reducible refine Ext.setCell ?_ (by omega) _) | (with_reducible refine Ext.trans ?_ (by with_reducible assumption))))⟩

set_option maxRecDepth 100000 in
set_option maxHeartbeats 1000000 in
theorem Paid_good (v : Value) (l : List Tar) (c : Cla) (w : World) (hv : TarsV w v l) (h : askS l [c] = 0) :
    Calls Try.prog 30 #[v, c.u.val] w fun e w' => e = .returned (.tuple #[.int .i64 (verdictS (endsS l c).lo (endsS l c).hi), .int .i64 0]) ∧ Ext w w' := by
  have hb : ∀ W, Ext w W → Calls Try.prog 27 #[v, c.u.val] W fun e w' => e = .returned (.tuple #[.agg #[.int .i64 (endsS l c).lo, .int .i64 (endsS l c).hi], .int .i64 0]) ∧ Ext W w' :=
    fun W hx => Bounds_good v l c W (hv.ext hx) h
  clear h
  generalize (endsS l c).lo = lo at *
  generalize (endsS l c).hi = hi at *
  go_enter Try.func30, Try.ntmps30
  go_wp2_with fail
  (with_reducible refine (hb _ ?hx).mono ?_)
  case hx => (repeat (first | exact Ext.refl _ | (with_reducible assumption) | (with_reducible refine Ext.drew ?_) | (with_reducible refine Ext.alloc ?_ _) | (with_reducible refine Ext.drewN ?_ _) | (with_reducible refine Ext.setCell ?_ (by omega) _) | (with_reducible refine Ext.trans ?_ (by with_reducible assumption))))
  rintro e w1 ⟨rfl, hx1⟩
  by_cases h1 : 0 < lo
  · go_wp2_with fail
    go_ret2
    exact ⟨by simp [verdictS, h1], by (repeat (first | exact Ext.refl _ | (with_reducible assumption) | (with_reducible refine Ext.drew ?_) | (with_reducible refine Ext.alloc ?_ _) | (with_reducible refine Ext.drewN ?_ _) | (with_reducible refine Ext.setCell ?_ (by omega) _) | (with_reducible refine Ext.trans ?_ (by with_reducible assumption))))⟩
  · by_cases h2 : 0 < hi
    · go_wp2_with fail
      go_ret2
      exact ⟨by simp [verdictS, h1, h2], by (repeat (first | exact Ext.refl _ | (with_reducible assumption) | (with_reducible refine Ext.drew ?_) | (with_reducible refine Ext.alloc ?_ _) | (with_reducible refine Ext.drewN ?_ _) | (with_reducible refine Ext.setCell ?_ (by omega) _) | (with_reducible refine Ext.trans ?_ (by with_reducible assumption))))⟩
    · have ev : verdictS lo hi = 2 := by unfold verdictS; rw [if_neg h1, if_neg h2]
      have EV := Lib.hid ev
      clear ev
      go_wp2_with fail
      go_ret2
      exact ⟨congrArg (fun x => Ending.returned (.tuple #[.int .i64 x, .int .i64 0])) EV.out.symm, by (repeat (first | exact Ext.refl _ | (with_reducible assumption) | (with_reducible refine Ext.drew ?_) | (with_reducible refine Ext.alloc ?_ _) | (with_reducible refine Ext.drewN ?_ _) | (with_reducible refine Ext.setCell ?_ (by omega) _) | (with_reducible refine Ext.trans ?_ (by with_reducible assumption))))⟩
end Go.Proofs.Ytfjecbfcnngacaa
