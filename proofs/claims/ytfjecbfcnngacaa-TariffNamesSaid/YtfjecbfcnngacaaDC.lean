/- Merged: what the texts say one after another. -/
import Derived.Test.YtfjecbfcnngacaaBU
import Derived.Test.YtfjecbfcnngacaaBN
import Derived.Test.YtfjecbfcnngacaaOD
/- Contracts: the bounds of all claims together. -/
namespace Go.Proofs.Ytfjecbfcnngacaa
open Go.RowKit Go.Hs
attribute [local irreducible] World.setCell World.alloc

/-- The error of all claims together, and their bounds. -/
def totE (l : List Tar) (cs : List Cla) : Int := if checkS l ≠ 0 then checkS l else if 5 < cs.length then 3 else if claimsB l cs then 0 else 2
def sumLo (l : List Tar) (cs : List Cla) : Int := (cs.map (fun c => (endsS l c).lo)).sum
def sumHi (l : List Tar) (cs : List Cla) : Int := (cs.map (fun c => (endsS l c).hi)).sum
theorem sumLo_snoc (l : List Tar) (cs : List Cla) (c : Cla) : sumLo l (cs ++ [c]) = sumLo l cs + (endsS l c).lo := by simp [sumLo]
theorem sumHi_snoc (l : List Tar) (cs : List Cla) (c : Cla) : sumHi l (cs ++ [c]) = sumHi l cs + (endsS l c).hi := by simp [sumHi]
theorem ends_bd {l : List Tar} {c : Cla} (hl : ValidL l) (hc : ClaimOK l c) : 0 ≤ (endsS l c).lo ∧ (endsS l c).lo ≤ 10000000 ∧ 0 ≤ (endsS l c).hi ∧ (endsS l c).hi ≤ 10000000 := by
  have h1 := ends_order hl hc
  have h2 := ends_spec (l := l) hc
  have h3 := truthB_iff.1 h2.high.1
  have h4 := hc.day
  have h5 := hc.count
  have h6 := payS_bd hl hc (show 0 ≤ (endsS l c).hd by omega) (show 0 ≤ (endsS l c).hn by omega) (show (endsS l c).hn ≤ 100 by omega)
  rw [h2.high.2] at h6
  omega
theorem sum_bd {l : List Tar} (hl : ValidL l) (cs : List Cla) (h : ∀ c, c ∈ cs → ClaimOK l c) : 0 ≤ sumLo l cs ∧ sumLo l cs ≤ 10000000 * cs.length ∧ 0 ≤ sumHi l cs ∧ sumHi l cs ≤ 10000000 * cs.length := by
  induction cs with
  | nil => simp [sumLo, sumHi]
  | cons c r ih =>
    have h1 := ends_bd hl (h c (by simp))
    have h2 := ih (fun x hx => h x (by simp [hx]))
    simp only [sumLo, sumHi, List.map_cons, List.sum_cons, List.length_cons] at h2 ⊢
    omega
theorem claims_ok {l : List Tar} {cs : List Cla} (h : claimsB l cs = true) : ∀ c, c ∈ cs → ClaimOK l c := fun c hc => by
  obtain ⟨i, hi, rfl⟩ := List.getElem_of_mem hc
  have := allB_iff.1 h i hi
  exact claimB_iff.1 (by simpa [hi] using this)

/-- What holds between two rounds of 'Total'. -/
structure TotI (l : List Tar) (cs : List Cla) (p r : Nat) (v : Value) (W0 : World) (S k : Nat) (W : World) : Prop where
  work : WorkAt l p r v W
  but : ExtBut r W0 W
  c0 : W.cell? ⟨S, 0, none⟩ = some (.int .i64 (sumLo l (cs.take k)))
  c1 : W.cell? ⟨S, 1, none⟩ = some (.int .i64 (sumHi l (cs.take k)))
  f0 : ∀ o, W.frozen? ⟨S, o, none⟩ = false
theorem but_frozen {r : Nat} {w w' : World} (h : ExtBut r w w') {b o : Nat} (hb : b < w.heap.size) (hr : b ≠ r) : w'.frozen? ⟨b, o, none⟩ = w.frozen? ⟨b, o, none⟩ :=
  World.frozen?_of_block (w := w) (a := ⟨b, o, none⟩) (h.block b hb hr)

set_option maxRecDepth 100000 in
set_option maxHeartbeats 2000000 in
theorem Total_err (v vc : Value) (l : List Tar) (w : World) (hv : TarsV w v l) (h0 : checkS l ≠ 0) :
    Calls Try.prog 48 #[v, vc] w fun e w' => e = .returned (.tuple #[.agg #[.int .i64 0, .int .i64 0], .int .i64 (checkS l)]) ∧ Ext w w' := by
  have X : Ext w (w.alloc (.cells #[.int .i64 0, .int .i64 0] 40)) := by (repeat (first | exact Ext.refl _ | (with_reducible assumption) | (with_reducible refine Ext.drew ?_) | (with_reducible refine Ext.alloc ?_ _) | (with_reducible refine Ext.drewN ?_ _) | (with_reducible refine Ext.setCell ?_ (by omega) _) | (with_reducible refine Ext.trans ?_ (by with_reducible assumption))))
  have hck := check_any v l _ (hv.ext X)
  have hd : (checkS l != 0) = true := by simp [h0]
  clear h0
  generalize checkS l = ck at *
  go_enter Try.func48, Try.ntmps48
  go_wp2_with fail
  (with_reducible refine hck.mono ?_)
  rintro e w1 ⟨rfl, hx1⟩
  have q0 := hx1.keep (k := w.heap.size) (o := 0) (v := .int .i64 0) (by simp)
  have q1 := hx1.keep (k := w.heap.size) (o := 1) (v := .int .i64 0) (by simp)
  have z0 : w1.frozen? ⟨w.heap.size, 0, none⟩ = false := (hx1.frozen (by simp)).trans (by simp)
  have z1 : w1.frozen? ⟨w.heap.size, 1, none⟩ = false := (hx1.frozen (by simp)).trans (by simp)
  go_wp2_with fail
  have y0 : ((w1.setCell ⟨w.heap.size, 0, none⟩ (.int .i64 0)).setCell ⟨w.heap.size, 1, none⟩ (.int .i64 0)).cell? ⟨w.heap.size, 0, none⟩ = some (.int .i64 0) := set_off (by omega) (set_same q0)
  have y1 : ((w1.setCell ⟨w.heap.size, 0, none⟩ (.int .i64 0)).setCell ⟨w.heap.size, 1, none⟩ (.int .i64 0)).cell? ⟨w.heap.size, 1, none⟩ = some (.int .i64 0) := set_same (set_off (by omega) q1)
  exact bodyPost_ret (v := .tuple #[.agg #[.int .i64 0, .int .i64 0], .int .i64 ck]) (by simp [results, Try.results48, go_sem, y0, y1]) rfl ⟨rfl, ((X.trans hx1).setCell (by omega) _).setCell (by omega) _⟩

set_option maxRecDepth 100000 in
set_option maxHeartbeats 2000000 in
theorem Total_many (v : Value) (a : Option Addr) (n c : Nat) (l : List Tar) (w : World) (hv : TarsV w v l) (h0 : checkS l = 0) (h5 : 5 < n) (hn : n ≤ 1000) :
    Calls Try.prog 48 #[v, .slice a n c] w fun e w' => e = .returned (.tuple #[.agg #[.int .i64 0, .int .i64 0], .int .i64 3]) ∧ Ext w w' := by
  have X : Ext w (w.alloc (.cells #[.int .i64 0, .int .i64 0] 40)) := by (repeat (first | exact Ext.refl _ | (with_reducible assumption) | (with_reducible refine Ext.drew ?_) | (with_reducible refine Ext.alloc ?_ _) | (with_reducible refine Ext.drewN ?_ _) | (with_reducible refine Ext.setCell ?_ (by omega) _) | (with_reducible refine Ext.trans ?_ (by with_reducible assumption))))
  have hck := check_any v l _ (hv.ext X)
  rw [h0] at hck
  clear h0
  go_enter Try.func48, Try.ntmps48
  go_wp2_with fail
  (with_reducible refine hck.mono ?_)
  rintro e w1 ⟨rfl, hx1⟩
  have q0 := hx1.keep (k := w.heap.size) (o := 0) (v := .int .i64 0) (by simp)
  have q1 := hx1.keep (k := w.heap.size) (o := 1) (v := .int .i64 0) (by simp)
  have z0 : w1.frozen? ⟨w.heap.size, 0, none⟩ = false := (hx1.frozen (by simp)).trans (by simp)
  have z1 : w1.frozen? ⟨w.heap.size, 1, none⟩ = false := (hx1.frozen (by simp)).trans (by simp)
  go_wp2_with fail
  have y0 : ((w1.setCell ⟨w.heap.size, 0, none⟩ (.int .i64 0)).setCell ⟨w.heap.size, 1, none⟩ (.int .i64 0)).cell? ⟨w.heap.size, 0, none⟩ = some (.int .i64 0) := set_off (by omega) (set_same q0)
  have y1 : ((w1.setCell ⟨w.heap.size, 0, none⟩ (.int .i64 0)).setCell ⟨w.heap.size, 1, none⟩ (.int .i64 0)).cell? ⟨w.heap.size, 1, none⟩ = some (.int .i64 0) := set_same (set_off (by omega) q1)
  exact bodyPost_ret (v := .tuple #[.agg #[.int .i64 0, .int .i64 0], .int .i64 3]) (by simp [results, Try.results48, go_sem, y0, y1]) rfl ⟨rfl, ((X.trans hx1).setCell (by omega) _).setCell (by omega) _⟩
end Go.Proofs.Ytfjecbfcnngacaa

/- Contracts: the bounds of all claims together, as the program answers. -/
namespace Go.Proofs.Ytfjecbfcnngacaa
open Go.RowKit Go.Hs
attribute [local irreducible] World.setCell World.alloc

theorem Memo.set {f : Int → Int → Int → Int} {r S i : Nat} {w : World} {x : Value} (h : Memo f r w) (hS : r ≠ S) : Memo f r (w.setCell ⟨S, i, none⟩ x) := by
  obtain ⟨es, clock, hr, he⟩ := h
  exact ⟨es, clock, by rw [Below.heap_setCell _ _ _ _ hS]; exact hr, he⟩
theorem butSet {r S i : Nat} {a b : World} {x : Value} (h : ExtBut r a b) (hS : a.heap.size ≤ S) : ExtBut r a (b.setCell ⟨S, i, none⟩ x) :=
  have E : Below 0 b (b.setCell ⟨S, i, none⟩ x) := Below.setCell (Below.refl 0 b) (Nat.zero_le _) x
  ⟨E.os.trans h.os, E.tape.trans h.tape, E.output.trans h.output, Nat.le_trans h.size E.size, fun k hk hr => (Below.heap_setCell _ _ _ _ (show k ≠ S by omega)).trans (h.block k hk hr)⟩

set_option maxRecDepth 100000 in
set_option maxHeartbeats 2000000 in
theorem Total_bad (v : Value) (l : List Tar) (a : Option Addr) (c : Nat) (cs : List Cla) (w : World) (hv : TarsV w v l) (hc : Cells6 w a (cs.map Cla.u)) (h0 : checkS l = 0) (h5 : ¬ 5 < cs.length) (h1 : claimsB l cs = false) :
    Calls Try.prog 48 #[v, .slice a cs.length c] w fun e w' => e = .returned (.tuple #[.agg #[.int .i64 0, .int .i64 0], .int .i64 2]) ∧ Ext w w' := by
  have X : Ext w (w.alloc (.cells #[.int .i64 0, .int .i64 0] 40)) := by (repeat (first | exact Ext.refl _ | (with_reducible assumption) | (with_reducible refine Ext.drew ?_) | (with_reducible refine Ext.alloc ?_ _) | (with_reducible refine Ext.drewN ?_ _) | (with_reducible refine Ext.setCell ?_ (by omega) _) | (with_reducible refine Ext.trans ?_ (by with_reducible assumption))))
  have hck := check_any v l _ (hv.ext X)
  have HAS : Hid (∀ W, Ext w W → Calls Try.prog 69 #[v, .slice a cs.length c] W fun e w' => e = .returned (.tuple #[.pointer none, .int .i64 2]) ∧ Ext W w') := fun W hx => asked_no v l a c cs (by omega) W (hv.ext hx) (hc.ext hx) h0 h1
  rw [h0] at hck
  have hn : cs.length ≤ 5 := by omega
  clear h0 h1 hc
  generalize cs.length = n at *
  go_enter Try.func48, Try.ntmps48
  go_wp2_with fail
  (with_reducible refine hck.mono ?_)
  rintro e w1 ⟨rfl, hx1⟩
  go_wp2_with fail
  (with_reducible refine (HAS.out _ (X.trans hx1)).mono ?_)
  rintro e w2 ⟨rfl, hx2⟩
  have hx := hx1.trans hx2
  have q0 := hx.keep (k := w.heap.size) (o := 0) (v := .int .i64 0) (by simp)
  have q1 := hx.keep (k := w.heap.size) (o := 1) (v := .int .i64 0) (by simp)
  have z0 : w2.frozen? ⟨w.heap.size, 0, none⟩ = false := (hx.frozen (by simp)).trans (by simp)
  have z1 : w2.frozen? ⟨w.heap.size, 1, none⟩ = false := (hx.frozen (by simp)).trans (by simp)
  go_wp2_with fail
  have y0 : ((w2.setCell ⟨w.heap.size, 0, none⟩ (.int .i64 0)).setCell ⟨w.heap.size, 1, none⟩ (.int .i64 0)).cell? ⟨w.heap.size, 0, none⟩ = some (.int .i64 0) := set_off (by omega) (set_same q0)
  have y1 : ((w2.setCell ⟨w.heap.size, 0, none⟩ (.int .i64 0)).setCell ⟨w.heap.size, 1, none⟩ (.int .i64 0)).cell? ⟨w.heap.size, 1, none⟩ = some (.int .i64 0) := set_same (set_off (by omega) q1)
  exact bodyPost_ret (v := .tuple #[.agg #[.int .i64 0, .int .i64 0], .int .i64 2]) (by simp [results, Try.results48, go_sem, y0, y1]) rfl ⟨rfl, ((X.trans hx).setCell (by omega) _).setCell (by omega) _⟩

set_option maxRecDepth 100000 in
set_option maxHeartbeats 4000000 in
theorem Total_good (v : Value) (l : List Tar) (a : Option Addr) (c : Nat) (cs : List Cla) (w : World) (hv : TarsV w v l) (hc : Cells6 w a (cs.map Cla.u)) (h0 : checkS l = 0) (h5 : ¬ 5 < cs.length) (h1 : claimsB l cs = true) :
    Calls Try.prog 48 #[v, .slice a cs.length c] w fun e w' => e = .returned (.tuple #[.agg #[.int .i64 (sumLo l cs), .int .i64 (sumHi l cs)], .int .i64 0]) ∧ Ext w w' := by
  have X : Ext w (w.alloc (.cells #[.int .i64 0, .int .i64 0] 40)) := by (repeat (first | exact Ext.refl _ | (with_reducible assumption) | (with_reducible refine Ext.drew ?_) | (with_reducible refine Ext.alloc ?_ _) | (with_reducible refine Ext.drewN ?_ _) | (with_reducible refine Ext.setCell ?_ (by omega) _) | (with_reducible refine Ext.trans ?_ (by with_reducible assumption))))
  have hck := check_any v l _ (hv.ext X)
  have HAS : Hid (∀ W, Ext w W → Calls Try.prog 69 #[v, .slice a cs.length c] W fun e w' => ∃ p r, e = .returned (.tuple #[.pointer (some ⟨p, 0, none⟩), .int .i64 0]) ∧ Ext W w' ∧ WorkAt l p r v w' ∧ W.heap.size ≤ r) := fun W hx => asked_ok v l a c cs (by omega) W (hv.ext hx) (hc.ext hx) h0 h1
  rw [h0] at hck
  have hn : cs.length ≤ 5 := by omega
  have hl := validL_of h0
  have hok := claims_ok h1
  have HOK := Lib.hid hok
  have HEN : Hid (∀ x, x ∈ cs → ∀ p r W, WorkAt l p r v W → Calls Try.prog 70 #[.pointer (some ⟨p, 0, none⟩), x.u.val] W fun e w' =>
      e = .returned (.tuple #[.agg #[.int .i64 (endsS l x).lo, .int .i64 (endsS l x).hi], .agg #[.int .i64 (endsS l x).ld, .int .i64 (endsS l x).ln], .agg #[.int .i64 (endsS l x).hd, .int .i64 (endsS l x).hn]]) ∧ ExtBut r W w' ∧ WorkAt l p r v w') :=
    fun x hx p r W hw => ends_calls l hl x (hok x hx) p r v W hw
  have HSB : Hid (∀ k, k ≤ cs.length → 0 ≤ sumLo l (cs.take k) ∧ sumLo l (cs.take k) ≤ 50000000 ∧ 0 ≤ sumHi l (cs.take k) ∧ sumHi l (cs.take k) ≤ 50000000) := fun k hk => by
    have := sum_bd hl (cs.take k) (fun x hx => hok x (List.mem_of_mem_take hx))
    have e : (cs.take k).length = k := by simp; omega
    rw [e] at this; omega
  have HEB : Hid (∀ x, x ∈ cs → 0 ≤ (endsS l x).lo ∧ (endsS l x).lo ≤ 10000000 ∧ 0 ≤ (endsS l x).hi ∧ (endsS l x).hi ≤ 10000000) := fun x hx => ends_bd hl (hok x hx)
  have HC := Lib.hid hc
  clear h0 h1 hc hl hok
  go_enter Try.func48, Try.ntmps48
  go_wp2_with fail
  (with_reducible refine hck.mono ?_)
  rintro e w1 ⟨rfl, hx1⟩
  go_wp2_with fail
  (with_reducible refine (HAS.out _ (X.trans hx1)).mono ?_)
  rintro e w2 ⟨p, r, rfl, hx2, hw2, hr2⟩
  have hx := hx1.trans hx2
  have q0 := hx.keep (k := w.heap.size) (o := 0) (v := .int .i64 0) (by simp)
  have q1 := hx.keep (k := w.heap.size) (o := 1) (v := .int .i64 0) (by simp)
  have z : ∀ o, w2.frozen? ⟨w.heap.size, o, none⟩ = false := fun o => (hx.frozen (by simp)).trans (by simp)
  have s1 := hx1.size
  simp at s1
  have XX : Ext w w2 := X.trans hx
  have hlt := lt_of_cell q0
  simp only at hlt
  have hrw : w.heap.size < r := by omega
  have hw2l := hw2.memo.lt
  clear hck HAS hx1 hx2
  go_wp2_with fail
  go_loopw [37, 11, 12, 13, 14] (fun s37 _ _ _ _ wr => ∃ k : Nat, k ≤ cs.length ∧ s37 = .int .i64 k ∧ Hid (TotI l cs p r v w2 w2.heap.size k wr)) (fun s _ _ _ _ _ => cs.length - (intOf s).toNat)
  case atStart =>
    refine ⟨0, Nat.zero_le _, rfl, Lib.hid ⟨hw2.ext ((Ext.refl _).alloc _), ((Ext.refl w2).alloc _).but r, by simp [sumLo], by simp [sumHi], fun o => by simp⟩⟩
  case round =>
    obtain ⟨k, hk, rfl, HT⟩ := hrel
    obtain ⟨wo, rfl⟩ : ∃ x, x = wr := ⟨_, rfl⟩
    by_cases hkt : k < cs.length
    · have hwx : Ext w wo := ExtBut.ext XX (by omega) HT.out.but
      obtain ⟨b, off, rfl, hce⟩ := HC.out k (by simpa using hkt)
      have hce := hce.ext hwx
      have e1 : (cs.map Cla.u)[k]'(by simpa using hkt) = (cs[k]).u := by simp
      rw [e1] at hce
      clear e1
      have hmem : cs[k] ∈ cs := List.getElem_mem hkt
      have e2 : cs.take (k + 1) = cs.take k ++ [cs[k]] := by rw [List.take_succ_eq_append_getElem hkt]
      have hs1 : sumLo l (cs.take (k + 1)) = sumLo l (cs.take k) + (endsS l cs[k]).lo := by rw [e2, sumLo_snoc]
      have hs2 : sumHi l (cs.take (k + 1)) = sumHi l (cs.take k) + (endsS l cs[k]).hi := by rw [e2, sumHi_snoc]
      have HS1 := Lib.hid hs1
      have HS2 := Lib.hid hs2
      have hsb := HSB.out k hk
      have heb := HEB.out _ hmem
      have hen := HEN.out _ hmem p r
      clear e2 hs1 hs2 hmem
      generalize endsS l cs[k] = es at *
      generalize cs[k] = x at *
      obtain ⟨cr, va, dl, dh, cl, ch⟩ := x
      obtain ⟨m0, m1, m2, m3, m4, m5⟩ := hce
      simp only at m0 m1 m2 m3 m4 m5
      have hwa := HT.out.work.ext ((Ext.refl wo).alloc (.cells #[.int .i64 cr, .int .i64 va, .int .i64 dl, .int .i64 dh, .int .i64 cl, .int .i64 ch] 44))
      have hcall := hen _ hwa
      clear hen hwa
      go_wp2_with fail
      (with_reducible refine hcall.mono ?_)
      rintro e w3 ⟨rfl, hb3, hw3⟩
      clear hcall
      have bB : ExtBut r wo w3 := (((Ext.refl wo).alloc _).but r).trans hb3
      have kB : KC wo w3 := bB.kc HT.out.work.memo.noCells
      have u0 := kB _ _ _ HT.out.c0
      have u1 := kB _ _ _ HT.out.c1
      have hSl : w2.heap.size < wo.heap.size := lt_of_cell HT.out.c0
      have hSr : w2.heap.size ≠ r := by omega
      have uf : ∀ o, w3.frozen? ⟨w2.heap.size, o, none⟩ = false := fun o => (but_frozen bB hSl hSr).trans (HT.out.f0 o)
      have hs3 : w2.heap.size < w3.heap.size := lt_of_cell u0
      have bT : ExtBut r w2 w3 := HT.out.but.trans bB
      have HW3 := Lib.hid hw3
      generalize sumLo l (cs.take k) = slo at *
      generalize sumHi l (cs.take k) = shi at *
      have hw1 : IntKind.i64.wrap (slo + es.lo) = slo + es.lo := IntWalk.i64_in _ (by omega)
      have hw2' : IntKind.i64.wrap (shi + es.hi) = shi + es.hi := IntWalk.i64_in _ (by omega)
      have U : Hid (∀ A B C, ((((w3.alloc A).alloc B).alloc C).cell? ⟨w2.heap.size, 0, none⟩ = some (.int .i64 slo) ∧ (((w3.alloc A).alloc B).alloc C).cell? ⟨w2.heap.size, 1, none⟩ = some (.int .i64 shi)) ∧ ∀ o, (((w3.alloc A).alloc B).alloc C).frozen? ⟨w2.heap.size, o, none⟩ = false) := fun A B C =>
        have x : Ext w3 (((w3.alloc A).alloc B).alloc C) := (((Ext.refl w3).alloc A).alloc B).alloc C
        ⟨⟨x.keep u0, x.keep u1⟩, fun o => (x.frozen hs3).trans (uf o)⟩
      have v0 := fun A B C => (U.out A B C).1.1
      have v1 := fun A B C => (U.out A B C).1.2
      have v2 := fun A B C => (U.out A B C).2 0
      have v3 := fun A B C => (U.out A B C).2 1
      clear HT hwx hb3 kB u0 u1 uf hw3
      go_wp2_with fail
      go_roundw
      case rel =>
        refine ⟨k + 1, by omega, by go_num, Lib.hid ?_⟩
        have b3 : ∀ A B C i j x y, ExtBut r w2 (((((w3.alloc A).alloc B).alloc C).setCell ⟨w2.heap.size, i, none⟩ x).setCell ⟨w2.heap.size, j, none⟩ y) := fun A B C i j x y => butSet (butSet (bT.trans (((((Ext.refl w3).alloc A).alloc B).alloc C).but r)) (Nat.le_refl _)) (Nat.le_refl _)
        refine ⟨hw2.but (b3 _ _ _ _ _ _ _) ?_, b3 _ _ _ _ _ _ _, ?_, ?_, fun o => ?_⟩
        · exact Memo.set (Memo.set (HW3.out.memo.ext ((((Ext.refl w3).alloc _).alloc _).alloc _)) (Ne.symm hSr)) (Ne.symm hSr)
        · rw [HS1.out]; exact set_off (by omega) (set_same (v0 _ _ _))
        · rw [HS2.out]; exact set_same (set_off (by omega) (v1 _ _ _))
        · rw [World.frozen?_setCell, World.frozen?_setCell]; exact (U.out _ _ _).2 o
      case measure => simp [intOf]; omega
    · have ek : k = cs.length := by omega
      subst ek
      have kB : KC w2 wo := HT.out.but.kc hw2.memo.noCells
      have p0 := kB _ _ _ q0
      have p1 := kB _ _ _ q1
      have pf : ∀ o, wo.frozen? ⟨w.heap.size, o, none⟩ = false := fun o => (but_frozen HT.out.but hlt (by omega)).trans (z o)
      have f0 := pf 0
      have f1 := pf 1
      have u0 := HT.out.c0
      have u1 := HT.out.c1
      rw [List.take_length] at u0 u1
      have XO : Ext w wo := ExtBut.ext XX (by omega) HT.out.but
      clear kB pf HT
      generalize hq1 : sumLo l cs = slo at *
      generalize hq2 : sumHi l cs = shi at *
      have HQ1 := Lib.hid hq1
      have HQ2 := Lib.hid hq2
      clear hq1 hq2
      go_wp2_with fail
      have y0 : ((wo.setCell ⟨w.heap.size, 0, none⟩ (.int .i64 slo)).setCell ⟨w.heap.size, 1, none⟩ (.int .i64 shi)).cell? ⟨w.heap.size, 0, none⟩ = some (.int .i64 slo) := set_off (by omega) (set_same p0)
      have y1 : ((wo.setCell ⟨w.heap.size, 0, none⟩ (.int .i64 slo)).setCell ⟨w.heap.size, 1, none⟩ (.int .i64 shi)).cell? ⟨w.heap.size, 1, none⟩ = some (.int .i64 shi) := set_same (set_off (by omega) p1)
      exact bodyPost_ret (v := .tuple #[.agg #[.int .i64 slo, .int .i64 shi], .int .i64 0]) (by simp [results, Try.results48, go_sem, y0, y1]) rfl ⟨by rw [HQ1.out, HQ2.out], (XO.setCell (by omega) _).setCell (by omega) _⟩
end Go.Proofs.Ytfjecbfcnngacaa

/- Contracts: what Total answers, whatever the claims. -/
namespace Go.Proofs.Ytfjecbfcnngacaa
open Go.RowKit Go.Hs
def totLo (l : List Tar) (cs : List Cla) : Int := if totE l cs = 0 then sumLo l cs else 0
def totHi (l : List Tar) (cs : List Cla) : Int := if totE l cs = 0 then sumHi l cs else 0
theorem Total_any (v vc : Value) (l : List Tar) (cs : List Cla) (w : World) (hv : TarsV w v l) (hc : ClasV Cla.u w vc cs) :
    Calls Try.prog 48 #[v, vc] w fun e w' => e = .returned (.tuple #[.agg #[.int .i64 (totLo l cs), .int .i64 (totHi l cs)], .int .i64 (totE l cs)]) ∧ Ext w w' := by
  obtain ⟨a, c, rfl, h1, h2, h3⟩ := hc
  by_cases h0 : checkS l = 0
  · by_cases h5 : 5 < cs.length
    · have e : totE l cs = 3 := by unfold totE; rw [if_neg (by simp [h0]), if_pos h5]
      have e1 : totLo l cs = 0 := by unfold totLo; rw [e, if_neg (by decide)]
      have e2 : totHi l cs = 0 := by unfold totHi; rw [e, if_neg (by decide)]
      rw [e, e1, e2]
      exact Total_many v a cs.length c l w hv h0 h5 h2
    · cases hb : claimsB l cs with
      | false =>
        have e : totE l cs = 2 := by unfold totE; rw [if_neg (by simp [h0]), if_neg h5, hb]; rfl
        have e1 : totLo l cs = 0 := by unfold totLo; rw [e, if_neg (by decide)]
        have e2 : totHi l cs = 0 := by unfold totHi; rw [e, if_neg (by decide)]
        rw [e, e1, e2]
        exact Total_bad v l a c cs w hv h3 h0 h5 hb
      | true =>
        have e : totE l cs = 0 := by unfold totE; rw [if_neg (by simp [h0]), if_neg h5, hb]; rfl
        have e1 : totLo l cs = sumLo l cs := by unfold totLo; rw [if_pos e]
        have e2 : totHi l cs = sumHi l cs := by unfold totHi; rw [if_pos e]
        rw [e, e1, e2]
        exact Total_good v l a c cs w hv h3 h0 h5 hb
  · have e : totE l cs = checkS l := by unfold totE; rw [if_pos h0]
    have e1 : totLo l cs = 0 := by unfold totLo; rw [e, if_neg h0]
    have e2 : totHi l cs = 0 := by unfold totHi; rw [e, if_neg h0]
    rw [e, e1, e2]
    exact Total_err v _ l w hv h0
end Go.Proofs.Ytfjecbfcnngacaa
