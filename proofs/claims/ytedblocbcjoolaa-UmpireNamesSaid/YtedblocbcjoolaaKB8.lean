/- Bundled: what the texts VA VB VC VD UY VE VF VG say one after another. -/
import Derived.Test.YtedblocbcjoolaaKB7
import Derived.Test.YtedblocbcjoolaaKB4
import Derived.RegionTactic
import Derived.BigRegion
import Derived.Deep.RegionWith
import Derived.BigQuiet
import Derived.Laws.MakeOwn
import Derived.Sort.CutIn
import Derived.Shelf.RegionOpen
import Derived.Deep.RegionLaw
/- Words on all sums of a case at work. -/
namespace Go.Hs
open Go.RowKit
/-- The cells of a sum. -/
structure Cell5 (W : World) (b : Nat) (s : Sm) : Prop where
  c0 : W.cell? ⟨b, 0, none⟩ = some (.int .i64 s.award)
  c1 : W.cell? ⟨b, 1, none⟩ = some (.int .i64 s.e0)
  c2 : W.cell? ⟨b, 2, none⟩ = some (.int .i64 s.e1)
  c3 : W.cell? ⟨b, 3, none⟩ = some (.int .i64 s.e2)
  c4 : W.cell? ⟨b, 4, none⟩ = some (.int .i64 s.e3)
theorem Cell5.kc {W W' : World} {b : Nat} {s : Sm} (h : Cell5 W b s) (k : ∀ o v, W.cell? ⟨b, o, none⟩ = some v → W'.cell? ⟨b, o, none⟩ = some v) : Cell5 W' b s :=
  ⟨k _ _ h.c0, k _ _ h.c1, k _ _ h.c2, k _ _ h.c3, k _ _ h.c4⟩
theorem GB.cell {M : Nat} {W W' : World} (h : GB (some M) W W') (hM : NoCells W M) {k o : Nat} {v : Value} (hc : W.cell? ⟨k, o, none⟩ = some v) : W'.cell? ⟨k, o, none⟩ = some v :=
  h.keep (fun e => by
    have e : k = M := by simpa using e
    subst e
    rw [hM o] at hc; cases hc) hc
theorem WorkC.gb {c : Cas} {p M : Nat} {v0 v3 : Value} {ro : Nat → Nat} {W W' : World} (h : WorkC c p v0 v3 ro W) (hg : GB (some M) W W') (hM : NoCells W M) (hd : ∀ i, i < c.flds.length → ro i ≠ M) : WorkC c p v0 v3 ro W' := by
  refine ⟨hg.cell hM h.c0, hg.cell hM h.c1, hg.cell hM h.c2, hg.cell hM h.c3, ?_, fun i hi => (h.sets i hi).of (hg.block _ (h.sets i hi).lt (fun e => hd i hi (by simpa using e)))⟩
  obtain ⟨a, q, h4, hc⟩ := h.row
  exact ⟨a, q, hg.cell hM h4, fun i hi => let ⟨b, off, ha, hcc⟩ := hc i hi; ⟨b, off, ha, hg.cell hM hcc⟩⟩
/-- What 'sums' works with: B the first of its blocks, S the sums so far. -/
structure SumI (c : Cas) (p : Nat) (v0 v3 : Value) (ro : Nat → Nat) (B : Nat) (S : Sm → Prop) (W : World) : Prop where
  wk : WorkC c p v0 v3 ro W
  dif : ∀ i, i < c.flds.length → ro i ≠ B + 1
  b0 : W.cell? ⟨B, 0, none⟩ = some (.pointer (some ⟨p, 0, none⟩))
  b2 : W.cell? ⟨B + 1 + 1, 0, none⟩ = some (.map (some (B + 1)))
  b3 : W.cell? ⟨B + 1 + 1 + 1, 0, none⟩ = some (.func (.func 60) #[] #[.pointer (some ⟨B, 0, none⟩), .pointer (some ⟨B + 1 + 1, 0, none⟩), .pointer (some ⟨B + 1 + 1 + 1, 0, none⟩)])
  set : SetAt Sm.v (B + 1) S W
section
variable {c : Cas} {p B : Nat} {v0 v3 : Value} {ro : Nat → Nat} {S S' : Sm → Prop} {W W' : World}
theorem SumI.gb (h : SumI c p v0 v3 ro B S W) (hg : GB (some (B + 1)) W W') (hs : SetAt Sm.v (B + 1) S' W') : SumI c p v0 v3 ro B S' W' :=
  have hM := h.set.noCells
  ⟨h.wk.gb hg hM h.dif, h.dif, hg.cell hM h.b0, hg.cell hM h.b2, hg.cell hM h.b3, hs⟩
theorem SumI.grow (h : SumI c p v0 v3 ro B S W) (hx : Ext W W') : SumI c p v0 v3 ro B S W' := h.gb hx.gb (h.set.of (hx.heap h.set.lt))
theorem SumI.congr (h : SumI c p v0 v3 ro B S W) (e : ∀ x, S x ↔ S' x) : SumI c p v0 v3 ro B S' W := ⟨h.wk, h.dif, h.b0, h.b2, h.b3, h.set.congr e⟩
theorem GB.put {M : Nat} (o : Obj) : GB (some M) W (W.putObj M o) := ⟨rfl, rfl, rfl, by simp, fun k _ hk => World.putObj_heap_other (fun e => hk (by rw [e]))⟩
theorem GB.putNew {row : Option Nat} {r : Nat} (h : GB row W W') (hr : W.heap.size ≤ r) (o : Obj) : GB row W (W'.putObj r o) := ⟨h.os, h.tape, h.output, by simpa using h.size, fun k hk hn => (World.putObj_heap_other (by omega)).trans (h.block k hk hn)⟩
theorem GB.fresh {M : Nat} {A W0 : World} (hx : Ext W0 A) (hg : GB (some M) A W') (hM : W0.heap.size ≤ M) : Ext W0 W' :=
  ⟨hg.os.trans hx.os, hg.tape.trans hx.tape, hg.output.trans hx.output, Nat.le_trans hx.size hg.size, fun k hk => (hg.block k (Nat.lt_of_lt_of_le hk hx.size) (fun e => by simp at e; omega)).trans (hx.block k hk)⟩
/-- The sums of the outcomes that have come out. -/
def fromD (c : Cas) (i : Nat) (s : Sm) (S : Sm → Prop) (D : Out → Prop) (x : Sm) : Prop := S x ∨ ∃ o, D o ∧ x ∈ sumsFrom c (c.flds.drop (i + 1)) (s.plus o)
/-- What holds between two outcomes: b the block of the sum, r the iterator's. -/
structure SumL (c : Cas) (p : Nat) (v0 v3 : Value) (ro : Nat → Nat) (B : Nat) (S : Sm → Prop) (s : Sm) (i : Nat) (O : Out → Prop) (W0 : World) (b r : Nat) (D : Out → Prop) (W : World) : Prop where
  gb : GB (some (B + 1)) W0 W
  si : SumI c p v0 v3 ro B (fromD c i s S D) W
  it : IterAt Out.v r (ro i) O D W
  sb : Cell5 W b s
  new : W0.heap.size ≤ r
theorem fromD_none (i : Nat) (s : Sm) (x : Sm) : S x ↔ fromD c i s S (fun _ => False) x := ⟨Or.inl, fun h => h.elim id (fun ⟨_, h, _⟩ => h.elim)⟩
theorem fromD_next (i : Nat) (s : Sm) (D : Out → Prop) (o : Out) (x : Sm) : (fromD c i s S D x ∨ x ∈ sumsFrom c (c.flds.drop (i + 1)) (s.plus o)) ↔ fromD c i s S (fun y => D y ∨ y = o) x := by
  constructor
  · rintro ((h | ⟨y, hy, hx⟩) | h)
    · exact .inl h
    · exact .inr ⟨y, .inl hy, hx⟩
    · exact .inr ⟨o, .inr rfl, h⟩
  · rintro (h | ⟨y, hy | rfl, hx⟩)
    · exact .inl (.inl h)
    · exact .inl (.inr ⟨y, hy, hx⟩)
    · exact .inr hx
theorem fromD_all (i : Nat) (hi : i < c.flds.length) (s : Sm) (D : Out → Prop) (h1 : ∀ o, outSet c c.flds[i] (truthsN c.flds[i]) o → D o) (h2 : ∀ o, D o → outSet c c.flds[i] (truthsN c.flds[i]) o) (x : Sm) :
    fromD c i s S D x ↔ (S x ∨ x ∈ sumsFrom c (c.flds.drop i) s) := by
  have e : c.flds.drop i = c.flds[i] :: c.flds.drop (i + 1) := by rw [List.drop_eq_getElem_cons hi]
  unfold fromD
  rw [e, sumsFrom]
  simp only [List.mem_flatMap]
  constructor
  · rintro (h | ⟨o, ho, hx⟩)
    · exact .inl h
    · obtain ⟨n, hn, rfl⟩ := h2 o ho
      exact .inr ⟨truthAt c.flds[i] n, mem_truths.2 (truthAt_ok hn), hx⟩
  · rintro (h | ⟨t, ht, hx⟩)
    · exact .inl h
    · have ht' : t ∈ (List.range (truthsN c.flds[i])).map (truthAt c.flds[i]) := ht
      obtain ⟨n, hn, rfl⟩ := List.mem_map.1 ht'
      exact .inr ⟨_, h1 _ ⟨n, List.mem_range.1 hn, rfl⟩, hx⟩
theorem WorkC.kc (h : WorkC c p v0 v3 ro W) (hk : ∀ k o v, W.cell? ⟨k, o, none⟩ = some v → W'.cell? ⟨k, o, none⟩ = some v) (hd : ∀ i, i < c.flds.length → W'.heap[ro i]? = W.heap[ro i]?) : WorkC c p v0 v3 ro W' := by
  refine ⟨hk _ _ _ h.c0, hk _ _ _ h.c1, hk _ _ _ h.c2, hk _ _ _ h.c3, ?_, fun i hi => (h.sets i hi).of (hd i hi)⟩
  obtain ⟨a, q, h4, hc⟩ := h.row
  exact ⟨a, q, hk _ _ _ h4, fun i hi => let ⟨b, off, ha, hcc⟩ := hc i hi; ⟨b, off, ha, hk _ _ _ hcc⟩⟩
theorem IterAt.sub {r bm : Nat} {S D : Out → Prop} {w : World} (h : IterAt Out.v r bm S D w) : ∀ a, D a → S a := by
  obtain ⟨es, clock, since, seen, c0, h1, h2, h3, h4, h5, h6, h7, h8, h9⟩ := h
  exact h9
/-- One outcome has come out: what stands in the world behind it. -/
theorem SumL.step {s : Sm} {i : Nat} {O : Out → Prop} {W0 w1 : World} {b r : Nat} {D : Out → Prop} (h : SumL c p v0 v3 ro B S s i O W0 b r D W) (hw : w1 = W ∨ w1 = W.drew) (o : Obj) :
    GB (some (B + 1)) W0 (w1.putObj r o) ∧ SumI c p v0 v3 ro B (fromD c i s S D) (w1.putObj r o) ∧ Cell5 (w1.putObj r o) b s := by
  have hg : GB (some (B + 1)) W0 w1 := by rcases hw with rfl | rfl; exact h.gb; exact h.gb.drew
  have hh : ∀ k : Nat, w1.heap[k]? = W.heap[k]? := fun k => by rcases hw with rfl | rfl <;> rfl
  obtain ⟨n1, n2⟩ := h.it.noCells
  obtain ⟨es, clock, since, seen, c0, hr, -⟩ := h.it
  have hk : ∀ k o' v, W.cell? ⟨k, o', none⟩ = some v → (w1.putObj r o).cell? ⟨k, o', none⟩ = some v := fun k o' v hc => by
    have hne : k ≠ r := by rintro rfl; rw [n1 o'] at hc; cases hc
    rw [World.cell?_of_block (w := W) ((World.putObj_heap_other hne).trans (hh k))]; exact hc
  have hm : ∀ {α : Type} {enc : α → Value} {S' : α → Prop} {k : Nat}, SetAt enc k S' W → (w1.putObj r o).heap[k]? = W.heap[k]? := fun {α enc S' k} hs => by
    refine (World.putObj_heap_other ?_).trans (hh k)
    rintro rfl
    obtain ⟨es', clock', hr', -⟩ := hs
    rw [hr] at hr'; cases hr'
  have hsi := h.si
  exact ⟨hg.putNew h.new o, ⟨hsi.wk.kc hk (fun i hi => hm (hsi.wk.sets i hi)), hsi.dif, hk _ _ _ hsi.b0, hk _ _ _ hsi.b2, hk _ _ _ hsi.b3, hsi.set.of (hm hsi.set)⟩, h.sb.kc (fun o' v hc => hk _ _ _ hc)⟩
end
end Go.Hs

/- Contracts of layer 7: all sums of a case at work, by induction on how many fields more. -/
namespace Go.Proofs.Ytedblocbcjoolaa
open Go.RowKit Go.Hs
attribute [local irreducible] World.setCell World.alloc
def SumC (c : Cas) (p : Nat) (v0 v3 : Value) (ro : Nat → Nat) (B m : Nat) : Prop := ∀ (iI : Int) (i : Nat) (s : Sm) (S : Sm → Prop) (W : World), iI = i → i + m = c.flds.length → SmN i s → SumI c p v0 v3 ro B S W →
  Calls Try.prog 60 #[s.v, .int .i64 iI, .pointer (some ⟨B, 0, none⟩), .pointer (some ⟨B + 1 + 1, 0, none⟩), .pointer (some ⟨B + 1 + 1 + 1, 0, none⟩)] W fun e w' =>
    (∃ v, e = .returned v) ∧ GB (some (B + 1)) W w' ∧ SumI c p v0 v3 ro B (fun x => S x ∨ x ∈ sumsFrom c (c.flds.drop i) s) w'

set_option maxRecDepth 100000 in
set_option maxHeartbeats 4000000 in
theorem sums_zero (c : Cas) (p : Nat) (v0 v3 : Value) (ro : Nat → Nat) (B : Nat) : SumC c p v0 v3 ro B 0 := by
  intro iI i s S W hiI him hsm h
  obtain rfl : i = c.flds.length := by omega
  subst hiI
  have HPUT : Hid (∀ W', Ext W W' → ∃ o, (Instr.mapUpdate 106 (.map (some (B + 1))) s.v (.bool true)).run Try.prog W' = .ok () (W'.putObj (B + 1) o) ∧ GB (some (B + 1)) W (W'.putObj (B + 1) o) ∧ SumI c p v0 v3 ro B (fun x => S x ∨ x ∈ sumsFrom c (c.flds.drop c.flds.length) s) (W'.putObj (B + 1) o)) :=
    Lib.hid (fun W' hx => by
      have k := h.grow hx
      obtain ⟨o, h1, h2⟩ := k.set.put kSum Sm.v_agg Try.underlying106 s (.bool true)
      refine ⟨o, h1, hx.gb.trans (GB.put o), (k.gb (GB.put o) h2).congr (fun x => ?_)⟩
      rw [List.drop_length, sumsFrom, List.mem_singleton])
  have HS := Lib.hid h
  obtain ⟨a, q, h4, hc⟩ := h.wk.row
  have k0 : ∀ A, (W.alloc A).cell? ⟨B, 0, none⟩ = some (.pointer (some ⟨p, 0, none⟩)) := fun A => ((Ext.refl W).alloc A).keep h.b0
  have k2 : ∀ A, (W.alloc A).cell? ⟨B + 1 + 1, 0, none⟩ = some (.map (some (B + 1))) := fun A => ((Ext.refl W).alloc A).keep h.b2
  have k4 : ∀ A, (W.alloc A).cell? ⟨p, 4, none⟩ = some (.slice a c.flds.length q) := fun A => ((Ext.refl W).alloc A).keep h4
  have hbe : (((c.flds.length : Int)) == ((c.flds.length : Int))) = true := by simp
  clear h h4 hc
  obtain ⟨aw, e0, e1, e2, e3⟩ := s
  simp only [Sm.v] at *
  obtain ⟨o, hmu, hgo, hso⟩ := HPUT.out (W.alloc (.cells #[.int .i64 aw, .int .i64 e0, .int .i64 e1, .int .i64 e2, .int .i64 e3] 58)) (by (repeat (first | exact Ext.refl _ | (with_reducible assumption) | (with_reducible refine Ext.drew ?_) | (with_reducible refine Ext.alloc ?_ _) | (with_reducible refine Ext.drewN ?_ _) | (with_reducible refine Ext.setCell ?_ (by omega) _) | (with_reducible refine Ext.trans ?_ (by with_reducible assumption)))))
  have HG := Lib.hid hgo
  have HSO := Lib.hid hso
  clear hgo hso HPUT
  go_enter Try.func60, Try.ntmps60
  go_wp2_with fail
  exact ⟨rfl, _, results_none rfl _ _ _, ⟨_, rfl⟩, HG.out, HSO.out⟩

set_option maxRecDepth 100000 in
set_option maxHeartbeats 4000000 in
theorem sums_succ (c : Cas) (hc : CasOK c) (h0 : checkS c.tars = 0) (p : Nat) (v0 v3 : Value) (ro : Nat → Nat) (B m : Nat) (ih : SumC c p v0 v3 ro B m) : SumC c p v0 v3 ro B (m + 1) := by
  intro iI i s S W hiI him hsm h
  have hi : i < c.flds.length := by omega
  have hfew := hc.few
  have HOO : Hid (∀ o, outSet c c.flds[i] (truthsN c.flds[i]) o → OutOK o) := Lib.hid (fun o ⟨n, hn, e⟩ => e ▸ outS_ok hc h0 (hc.flds _ (List.getElem_mem hi)) (truthAt_ok hn))
  have HPL : Hid (∀ o, OutOK o → ∀ W', Calls Try.prog 19 #[s.v, o.v] W' fun e w' => e = .returned (s.plus o).v ∧ Ext W' w') := Lib.hid (fun o ho W' => plus_u i s o hsm ho (by omega) W')
  have HIH : Hid (∀ o, OutOK o → ∀ (jI : Int) (S' : Sm → Prop) (W' : World), jI = (i : Int) + 1 → SumI c p v0 v3 ro B S' W' →
      Calls Try.prog 60 #[(s.plus o).v, .int .i64 jI, .pointer (some ⟨B, 0, none⟩), .pointer (some ⟨B + 1 + 1, 0, none⟩), .pointer (some ⟨B + 1 + 1 + 1, 0, none⟩)] W' fun e w' =>
        (∃ v, e = .returned v) ∧ GB (some (B + 1)) W' w' ∧ SumI c p v0 v3 ro B (fun x => S' x ∨ x ∈ sumsFrom c (c.flds.drop (i + 1)) (s.plus o)) w') :=
    Lib.hid (fun o ho jI S' W' hj hs => ih jI (i + 1) (s.plus o) S' W' (by omega) (by omega) (hsm.plus ho) hs)
  have HALL := Lib.hid (fromD_all (c := c) (S := S) i hi s)
  have HS := Lib.hid h
  obtain ⟨a, q, h4, hrow⟩ := h.wk.row
  obtain ⟨rb, ro0, hra, hrc⟩ := hrow i (by simpa using hi)
  subst hra
  have e1 : ((List.range c.flds.length).map (fun j => Value.map (some (ro j))))[i]'(by simpa using hi) = .map (some (ro i)) := by simp
  rw [e1] at hrc
  have hset := h.wk.sets i hi
  have hdi := h.dif i hi
  have k0 : ∀ A, (W.alloc A).cell? ⟨B, 0, none⟩ = some (.pointer (some ⟨p, 0, none⟩)) := fun A => ((Ext.refl W).alloc A).keep h.b0
  have k4 : ∀ A, (W.alloc A).cell? ⟨p, 4, none⟩ = some (.slice (some ⟨rb, ro0, none⟩) c.flds.length q) := fun A => ((Ext.refl W).alloc A).keep h4
  have kr : ∀ A, (W.alloc A).cell? ⟨rb, ro0 + i, none⟩ = some (.map (some (ro i))) := fun A => ((Ext.refl W).alloc A).keep hrc
  have hbe : ((i : Int) == (c.flds.length : Int)) = false := by rw [beq_eq_false_iff_ne]; omega
  have hin : (i : Int) < (c.flds.length : Int) := by omega
  subst hiI
  have HSB : Hid (Cell5 (W.alloc (.cells #[.int .i64 s.award, .int .i64 s.e0, .int .i64 s.e1, .int .i64 s.e2, .int .i64 s.e3] 58)) W.heap.size s) := Lib.hid ⟨by simp [go_sem], by simp [go_sem], by simp [go_sem], by simp [go_sem], by simp [go_sem]⟩
  have hset1 := hset.of (w' := W.alloc (.cells #[.int .i64 s.award, .int .i64 s.e0, .int .i64 s.e1, .int .i64 s.e2, .int .i64 s.e3] 58)) (Ext.heap ((Ext.refl W).alloc _) hset.lt)
  obtain ⟨oi, hrun, hit⟩ := hset1.iter Try.underlying120
  have HL0 : Hid (SumL c p v0 v3 ro B S s i (outSet c c.flds[i] (truthsN c.flds[i])) W W.heap.size (W.heap.size + 1) (fun _ => False) ((W.alloc (.cells #[.int .i64 s.award, .int .i64 s.e0, .int .i64 s.e1, .int .i64 s.e2, .int .i64 s.e3] 58)).alloc oi)) := Lib.hid (by
    have X : Ext W ((W.alloc (.cells #[.int .i64 s.award, .int .i64 s.e0, .int .i64 s.e1, .int .i64 s.e2, .int .i64 s.e3] 58)).alloc oi) := by (repeat (first | exact Ext.refl _ | (with_reducible assumption) | (with_reducible refine Ext.drew ?_) | (with_reducible refine Ext.alloc ?_ _) | (with_reducible refine Ext.drewN ?_ _) | (with_reducible refine Ext.setCell ?_ (by omega) _) | (with_reducible refine Ext.trans ?_ (by with_reducible assumption))))
    refine ⟨X.gb, (h.grow X).congr (fun x => fromD_none i s x), ?_, HSB.out.kc (fun o v hv => ((Ext.refl _).alloc oi).keep hv), by omega⟩
    simpa using hit)
  clear h h4 hrow hset hset1 hit hrc e1 HSB ih
  generalize outSet c c.flds[i] (truthsN c.flds[i]) = O at *
  have hsv : s.v = .agg #[.int .i64 s.award, .int .i64 s.e0, .int .i64 s.e1, .int .i64 s.e2, .int .i64 s.e3] := rfl
  rw [hsv] at HPL ⊢
  generalize hqaw : s.award = aw at *
  have HQaw := Lib.hid hqaw
  clear hqaw
  generalize hqe0 : s.e0 = e0 at *
  have HQe0 := Lib.hid hqe0
  clear hqe0
  generalize hqe1 : s.e1 = e1 at *
  have HQe1 := Lib.hid hqe1
  clear hqe1
  generalize hqe2 : s.e2 = e2 at *
  have HQe2 := Lib.hid hqe2
  clear hqe2
  generalize hqe3 : s.e3 = e3 at *
  have HQe3 := Lib.hid hqe3
  clear hqe3
  go_enter Try.func60, Try.ntmps60
  go_wp2_with fail
  go_loopw [] (fun wr => ∃ D : Out → Prop, Hid (SumL c p v0 v3 ro B S s i O W W.heap.size (W.heap.size + 1) D wr)) (fun wr => leftN (W.heap.size + 1) (ro i) wr)
  case atStart => exact ⟨_, HL0⟩
  case round =>
    clear HL0
    obtain ⟨D, HL⟩ := hrel
    obtain ⟨wo, rfl⟩ : ∃ x, x = wr := ⟨_, rfl⟩
    rcases HL.out.it.next (P := Try.prog) Out.v_inj 0 with ⟨hall, hrun⟩ | ⟨o, v, oo, w1, hw1, ho, hrun, hit, hlt, hent⟩
    · have HF := Lib.hid (And.intro HL.out.gb (HL.out.si.congr (HALL.out D hall HL.out.it.sub)))
      clear hall
      go_wp2_with fail
      exact ⟨rfl, _, results_none rfl _ _ _, ⟨_, rfl⟩, HF.out.1, HF.out.2⟩
    · have hoo := HOO.out o ho
      obtain ⟨hg6, hs6, hb6⟩ := HL.out.step hw1 oo
      have hB : B + 1 < W.heap.size := HS.out.set.lt
      generalize w1.putObj (W.heap.size + 1) oo = W6 at *
      have HI6 := Lib.hid (And.intro hg6 (And.intro hs6 hit))
      have HLT := Lib.hid hlt
      have HPO := Lib.hid (HPL.out o hoo)
      have HAD := Lib.hid (HIH.out o hoo)
      have HB6 := Lib.hid hb6
      obtain ⟨c0, c1, c2, c3, c4⟩ := hb6
      rw [HQaw.out] at c0
      rw [HQe0.out] at c1
      rw [HQe1.out] at c2
      rw [HQe2.out] at c3
      rw [HQe3.out] at c4
      have hb3 := hs6.b3
      clear hg6 hs6 hit hlt hw1 ho HPL HIH HOO hoo HALL
      obtain ⟨q, hq⟩ : ∃ q, q = s.plus o := ⟨_, rfl⟩
      rw [← hq] at HPO HAD
      have HQ := Lib.hid hq
      clear hq
      have hov : o.v = .agg #[.int .i64 o.pay, .int .i64 o.loser] := rfl
      rw [hov] at hrun hent HPO
      have X7 : Ext W6 (W6.alloc (.cells #[.int .i64 o.pay, .int .i64 o.loser] 67)) := by (repeat (first | exact Ext.refl _ | (with_reducible assumption) | (with_reducible refine Ext.drew ?_) | (with_reducible refine Ext.alloc ?_ _) | (with_reducible refine Ext.drewN ?_ _) | (with_reducible refine Ext.setCell ?_ (by omega) _) | (with_reducible refine Ext.trans ?_ (by with_reducible assumption))))
      have o0 : (W6.alloc (.cells #[.int .i64 o.pay, .int .i64 o.loser] 67)).cell? ⟨W6.heap.size, 0, none⟩ = some (.int .i64 o.pay) := by simp
      have o1 : (W6.alloc (.cells #[.int .i64 o.pay, .int .i64 o.loser] 67)).cell? ⟨W6.heap.size, 1, none⟩ = some (.int .i64 o.loser) := by simp
      have hw1 : IntKind.i64.wrap ((i : Int) + 1) = (i : Int) + 1 := IntWalk.i64_in _ (by omega)
      go_upto_region 6 with fail
      generalize (W6.alloc (.cells #[.int .i64 o.pay, .int .i64 o.loser] 67)) = W7 at *
      have HI7 := Lib.hid (HI6.out.2.1.grow X7)
      have HX7 := Lib.hid X7
      have HSS : Hid (∀ w', GB (some (B + 1)) W7 w' → (w'.cell? ⟨B + 1 + 1 + 1, 0, none⟩ = some (.func (.func 60) #[] #[.pointer (some ⟨B, 0, none⟩), .pointer (some ⟨B + 1 + 1, 0, none⟩), .pointer (some ⟨B + 1 + 1 + 1, 0, none⟩)]) ∧ w'.cell? ⟨W.heap.size, 0, none⟩ = some (.int .i64 aw) ∧ w'.cell? ⟨W.heap.size, 1, none⟩ = some (.int .i64 e0) ∧ w'.cell? ⟨W.heap.size, 2, none⟩ = some (.int .i64 e1) ∧ w'.cell? ⟨W.heap.size, 3, none⟩ = some (.int .i64 e2) ∧ w'.cell? ⟨W.heap.size, 4, none⟩ = some (.int .i64 e3) ∧ w'.cell? ⟨W6.heap.size, 0, none⟩ = some (.int .i64 o.pay) ∧ w'.cell? ⟨W6.heap.size, 1, none⟩ = some (.int .i64 o.loser)) ∧ GB (some (B + 1)) W7 w') := by
        have k3 := X7.keep hb3
        have k : ∀ {o v}, W6.cell? ⟨W.heap.size, o, none⟩ = some v → W7.cell? ⟨W.heap.size, o, none⟩ = some v := fun h => X7.keep h
        have j0 := k c0
        have j1 := k c1
        have j2 := k c2
        have j3 := k c3
        have j4 := k c4
        have hn := HI7.out.set.noCells
        exact Lib.hid (fun w' hg => ⟨⟨hg.cell hn k3, hg.cell hn j0, hg.cell hn j1, hg.cell hn j2, hg.cell hn j3, hg.cell hn j4, hg.cell hn o0, hg.cell hn o1⟩, hg⟩)
      clear X7 c0 c1 c2 c3 c4 o0 o1 hb3 k0 k4 kr hrun hent
      go_region_held3 (fun w' => (w'.cell? ⟨B + 1 + 1 + 1, 0, none⟩ = some (.func (.func 60) #[] #[.pointer (some ⟨B, 0, none⟩), .pointer (some ⟨B + 1 + 1, 0, none⟩), .pointer (some ⟨B + 1 + 1 + 1, 0, none⟩)]) ∧ w'.cell? ⟨W.heap.size, 0, none⟩ = some (.int .i64 aw) ∧ w'.cell? ⟨W.heap.size, 1, none⟩ = some (.int .i64 e0) ∧ w'.cell? ⟨W.heap.size, 2, none⟩ = some (.int .i64 e1) ∧ w'.cell? ⟨W.heap.size, 3, none⟩ = some (.int .i64 e2) ∧ w'.cell? ⟨W.heap.size, 4, none⟩ = some (.int .i64 e3) ∧ w'.cell? ⟨W6.heap.size, 0, none⟩ = some (.int .i64 o.pay) ∧ w'.cell? ⟨W6.heap.size, 1, none⟩ = some (.int .i64 o.loser)) ∧ GB (some (B + 1)) W7 w')
        ((refine HSS.out _ ?_; (repeat (first | exact GB.refl _ | (with_reducible assumption) | (with_reducible refine GB.drew ?_) | (with_reducible refine GB.alloc ?_ _) | (with_reducible refine GB.ext ?_ (by with_reducible assumption)) | (with_reducible refine GB.trans ?_ (by with_reducible assumption))))))
        (first
          | (go_at_call 19; (refine (HPO.out _).mono ?_); rintro e w3 ⟨rfl, hx3⟩)
          | (go_at_call 60; (refine (HAD.out _ _ _ rfl (HI7.out.grow (by (repeat (first | exact Ext.refl _ | (with_reducible assumption) | (with_reducible refine Ext.drew ?_) | (with_reducible refine Ext.alloc ?_ _) | (with_reducible refine Ext.drewN ?_ _) | (with_reducible refine Ext.setCell ?_ (by omega) _) | (with_reducible refine Ext.trans ?_ (by with_reducible assumption))))))).mono ?_); rintro e w5 ⟨⟨v5, rfl⟩, hg5, hs5⟩; have hg7 : GB (some (B + 1)) W7 w5 := GB.trans (Ext.gb (by (repeat (first | exact Ext.refl _ | (with_reducible assumption) | (with_reducible refine Ext.drew ?_) | (with_reducible refine Ext.alloc ?_ _) | (with_reducible refine Ext.drewN ?_ _) | (with_reducible refine Ext.setCell ?_ (by omega) _) | (with_reducible refine Ext.trans ?_ (by with_reducible assumption)))))) hg5; have HS5 := Lib.hid hs5; have HG7 := Lib.hid hg7))
      all_goals
        go_wp2_with fail
        go_roundw
      case rel =>
        have hg6 : GB (some (B + 1)) W6 w5 := HX7.out.gb.trans HG7.out
        have hn6 : NoCells W6 (B + 1) := HI6.out.2.1.set.noCells
        have hit := HI6.out.2.2
        have hlt := hit.lt
        exact ⟨_, Lib.hid ⟨HI6.out.1.trans hg6, HS5.out.congr (fun x => by rw [HQ.out]; exact fromD_next i s D o x), hit.of (hg6.block _ hlt.1 (fun e => by simp at e; omega)) (hg6.block _ hlt.2.1 (fun e => hdi (by simpa using e))), HB6.out.kc (fun o v hc => hg6.cell hn6 hc), by omega⟩⟩
      case measure =>
        have hg6 : GB (some (B + 1)) W6 w5 := HX7.out.gb.trans HG7.out
        have hlt := HI6.out.2.2.lt
        rw [leftN_of (hg6.block _ hlt.1 (fun e => by simp at e; omega)) (hg6.block _ hlt.2.1 (fun e => hdi (by simpa using e)))]
        exact HLT.out
theorem sums_rec (c : Cas) (hc : CasOK c) (h0 : checkS c.tars = 0) (p : Nat) (v0 v3 : Value) (ro : Nat → Nat) (B : Nat) : ∀ m, SumC c p v0 v3 ro B m
  | 0 => sums_zero c p v0 v3 ro B
  | m + 1 => sums_succ c hc h0 p v0 v3 ro B m (sums_rec c hc h0 p v0 v3 ro B m)

set_option maxHeartbeats 1000000 in
theorem sums_u (c : Cas) (hc : CasOK c) (h0 : checkS c.tars = 0) (p : Nat) (v0 v3 : Value) (ro : Nat → Nat) (W : World) (h : WorkC c p v0 v3 ro W) :
    Calls Try.prog 44 #[.pointer (some ⟨p, 0, none⟩)] W fun e w' => ∃ M, e = .returned (.map (some M)) ∧ SetAt Sm.v M (fun x => x ∈ sumsS c) w' ∧ WorkC c p v0 v3 ro w' ∧ Ext W w' := by
  have HRC : Hid (∀ W', SumI c p v0 v3 ro W.heap.size (fun _ => False) W' → Calls Try.prog 60 #[.agg #[.int .i64 0, .int .i64 0, .int .i64 0, .int .i64 0, .int .i64 0], .int .i64 0, .pointer (some ⟨W.heap.size, 0, none⟩), .pointer (some ⟨W.heap.size + 1 + 1, 0, none⟩), .pointer (some ⟨W.heap.size + 1 + 1 + 1, 0, none⟩)] W' fun e w' =>
      (∃ v, e = .returned v) ∧ GB (some (W.heap.size + 1)) W' w' ∧ SumI c p v0 v3 ro W.heap.size (fun x => x ∈ sumsS c) w') := Lib.hid (fun W' hs =>
    (sums_rec c hc h0 p v0 v3 ro W.heap.size c.flds.length 0 0 Sm.zero (fun _ => False) W' rfl (by omega) SmN.zero hs).mono (fun e w' ⟨h1, h2, h3⟩ => ⟨h1, h2, h3.congr (fun x => by simp [sumsS])⟩))
  have hmm := @run_makeMap Try.prog
  have HS0 : Hid (SumI c p v0 v3 ro W.heap.size (fun _ => False) ((((W.alloc (.cells #[.pointer (some ⟨p, 0, none⟩)] 107)).alloc (.map #[] 0)).alloc (.cells #[.map (some (W.heap.size + 1))] 106)).alloc (.cells #[.func (.func 60) #[] #[.pointer (some ⟨W.heap.size, 0, none⟩), .pointer (some ⟨W.heap.size + 1 + 1, 0, none⟩), .pointer (some ⟨W.heap.size + 1 + 1 + 1, 0, none⟩)]] 121))) := Lib.hid (by
    have X : Ext W ((((W.alloc (.cells #[.pointer (some ⟨p, 0, none⟩)] 107)).alloc (.map #[] 0)).alloc (.cells #[.map (some (W.heap.size + 1))] 106)).alloc (.cells #[.func (.func 60) #[] #[.pointer (some ⟨W.heap.size, 0, none⟩), .pointer (some ⟨W.heap.size + 1 + 1, 0, none⟩), .pointer (some ⟨W.heap.size + 1 + 1 + 1, 0, none⟩)]] 121)) := by (repeat (first | exact Ext.refl _ | (with_reducible assumption) | (with_reducible refine Ext.drew ?_) | (with_reducible refine Ext.alloc ?_ _) | (with_reducible refine Ext.drewN ?_ _) | (with_reducible refine Ext.setCell ?_ (by omega) _) | (with_reducible refine Ext.trans ?_ (by with_reducible assumption))))
    refine ⟨h.kc (fun k o v hc => X.keep hc) (fun i hi => X.heap (h.sets i hi).lt), fun i hi e => ?_, by simp [go_sem], by simp [go_sem], by simp [go_sem], ?_⟩
    · have := (h.sets i hi).lt
      omega
    · have k := SetAt.empty (enc := Sm.v) (W.alloc (.cells #[.pointer (some ⟨p, 0, none⟩)] 107))
      rw [World.size_alloc] at k
      refine k.of ?_
      rw [Below.heap_alloc _ _ _ (by simp), Below.heap_alloc _ _ _ (by simp)])
  clear h hc h0
  go_enter Try.func44, Try.ntmps44
  go_wp2_with fail
  refine (HRC.out _ HS0.out).mono ?_
  rintro e w1 ⟨⟨v, rfl⟩, hg, hs⟩
  have k2 := hs.b2
  have HF : Hid (SetAt Sm.v (W.heap.size + 1) (fun x => x ∈ sumsS c) w1 ∧ WorkC c p v0 v3 ro w1 ∧ Ext W w1) := Lib.hid ⟨hs.set, hs.wk, hg.fresh (by (repeat (first | exact Ext.refl _ | (with_reducible assumption) | (with_reducible refine Ext.drew ?_) | (with_reducible refine Ext.alloc ?_ _) | (with_reducible refine Ext.drewN ?_ _) | (with_reducible refine Ext.setCell ?_ (by omega) _) | (with_reducible refine Ext.trans ?_ (by with_reducible assumption))))) (by omega)⟩
  clear hg hs
  go_wp2_with fail
  go_ret
  exact ⟨_, rfl, HF.out⟩
end Go.Proofs.Ytedblocbcjoolaa

/- Contracts of layer 7: the questions. Printed by gen_vc.py. -/
namespace Go.Proofs.Ytedblocbcjoolaa
open Go.RowKit Go.Hs
attribute [local irreducible] World.setCell World.alloc
def fnQ : Nat → FuncId
  | 0 => 53
  | 1 => 45
  | 2 => 46
  | 3 => 26
  | _ => 27

set_option maxHeartbeats 400000 in
theorem total_u (s : Sm) (fee : Int) (w : World) :
    Calls Try.prog 53 #[s.v, .int .i64 fee] w fun e w' => e = .returned (.int .i64 (askQ 0 fee s)) ∧ Ext w w' := by
  obtain ⟨aw, e0, e1, e2, e3⟩ := s
  simp only [Sm.v] at *
  go_enter Try.func53, Try.ntmps53
  go_wp2_with fail
  go_ret
  exact ⟨rfl, by (repeat (first | exact Ext.refl _ | (with_reducible assumption) | (with_reducible refine Ext.drew ?_) | (with_reducible refine Ext.alloc ?_ _) | (with_reducible refine Ext.drewN ?_ _) | (with_reducible refine Ext.setCell ?_ (by omega) _) | (with_reducible refine Ext.trans ?_ (by with_reducible assumption))))⟩

set_option maxHeartbeats 400000 in
theorem first_u (n : Nat) (s : Sm) (hs : SmN n s) (hn : n ≤ 1000) (fee : Int) (hf : 0 ≤ fee ∧ fee ≤ 10000) (w : World) :
    Calls Try.prog 45 #[s.v, .int .i64 fee] w fun e w' => e = .returned (.int .i64 (askQ 1 fee s)) ∧ Ext w w' := by
  have HF := Lib.hid (fees_u n s hs hn fee hf)
  show Calls Try.prog 45 #[s.v, .int .i64 fee] w fun e w' => e = .returned (.int .i64 (feeA fee s)) ∧ Ext w w'
  generalize feeA fee s = fa at *
  generalize feeB fee s = fb at *
  clear hs
  obtain ⟨aw, e0, e1, e2, e3⟩ := s
  simp only [Sm.v] at *
  go_enter Try.func45, Try.ntmps45
  go_wp2_with ((with_reducible refine (HF.out _).mono ?_); rintro e w1 ⟨rfl, hx1⟩)
  go_ret
  exact ⟨rfl, by (repeat (first | exact Ext.refl _ | (with_reducible assumption) | (with_reducible refine Ext.drew ?_) | (with_reducible refine Ext.alloc ?_ _) | (with_reducible refine Ext.drewN ?_ _) | (with_reducible refine Ext.setCell ?_ (by omega) _) | (with_reducible refine Ext.trans ?_ (by with_reducible assumption))))⟩

set_option maxHeartbeats 400000 in
theorem second_u (n : Nat) (s : Sm) (hs : SmN n s) (hn : n ≤ 1000) (fee : Int) (hf : 0 ≤ fee ∧ fee ≤ 10000) (w : World) :
    Calls Try.prog 46 #[s.v, .int .i64 fee] w fun e w' => e = .returned (.int .i64 (askQ 2 fee s)) ∧ Ext w w' := by
  have HF := Lib.hid (fees_u n s hs hn fee hf)
  show Calls Try.prog 46 #[s.v, .int .i64 fee] w fun e w' => e = .returned (.int .i64 (feeB fee s)) ∧ Ext w w'
  generalize feeA fee s = fa at *
  generalize feeB fee s = fb at *
  clear hs
  obtain ⟨aw, e0, e1, e2, e3⟩ := s
  simp only [Sm.v] at *
  go_enter Try.func46, Try.ntmps46
  go_wp2_with ((with_reducible refine (HF.out _).mono ?_); rintro e w1 ⟨rfl, hx1⟩)
  go_ret
  exact ⟨rfl, by (repeat (first | exact Ext.refl _ | (with_reducible assumption) | (with_reducible refine Ext.drew ?_) | (with_reducible refine Ext.alloc ?_ _) | (with_reducible refine Ext.drewN ?_ _) | (with_reducible refine Ext.setCell ?_ (by omega) _) | (with_reducible refine Ext.trans ?_ (by with_reducible assumption))))⟩

set_option maxHeartbeats 1000000 in
theorem net_u (n : Nat) (s : Sm) (hs : SmN n s) (hn : n ≤ 1000) (fee : Int) (hf : 0 ≤ fee ∧ fee ≤ 10000) (w : World) :
    Calls Try.prog 26 #[s.v, .int .i64 fee] w fun e w' => e = .returned (.int .i64 (askQ 3 fee s)) ∧ Ext w w' := by
  have HF := Lib.hid (first_u n s hs hn fee hf)
  have hbd : 0 ≤ feeA fee s ∧ feeA fee s ≤ 10000 := by
    unfold feeA
    split
    · split
      · omega
      · split <;> omega
    · omega
  have hwr : IntKind.i64.wrap (s.award - feeA fee s) = s.award - feeA fee s := IntWalk.i64_in _ (by have := hs.a; omega)
  have e : askQ 1 fee s = feeA fee s := rfl
  rw [e] at HF
  show Calls Try.prog 26 #[s.v, .int .i64 fee] w fun e w' => e = .returned (.int .i64 (s.award - feeA fee s)) ∧ Ext w w'
  generalize feeA fee s = fa at *
  clear hs hbd e
  obtain ⟨aw, e0, e1, e2, e3⟩ := s
  simp only [Sm.v] at *
  go_enter Try.func26, Try.ntmps26
  go_upto_region 1 with fail
  have X : Ext w (w.alloc (.cells #[.int .i64 aw, .int .i64 e0, .int .i64 e1, .int .i64 e2, .int .i64 e3] 58)) := by (repeat (first | exact Ext.refl _ | (with_reducible assumption) | (with_reducible refine Ext.drew ?_) | (with_reducible refine Ext.alloc ?_ _) | (with_reducible refine Ext.drewN ?_ _) | (with_reducible refine Ext.setCell ?_ (by omega) _) | (with_reducible refine Ext.trans ?_ (by with_reducible assumption))))
  have c0 : (w.alloc (.cells #[.int .i64 aw, .int .i64 e0, .int .i64 e1, .int .i64 e2, .int .i64 e3] 58)).cell? ⟨w.heap.size, 0, none⟩ = some (.int .i64 aw) := by simp
  have c1 : (w.alloc (.cells #[.int .i64 aw, .int .i64 e0, .int .i64 e1, .int .i64 e2, .int .i64 e3] 58)).cell? ⟨w.heap.size, 1, none⟩ = some (.int .i64 e0) := by simp
  have c2 : (w.alloc (.cells #[.int .i64 aw, .int .i64 e0, .int .i64 e1, .int .i64 e2, .int .i64 e3] 58)).cell? ⟨w.heap.size, 2, none⟩ = some (.int .i64 e1) := by simp
  have c3 : (w.alloc (.cells #[.int .i64 aw, .int .i64 e0, .int .i64 e1, .int .i64 e2, .int .i64 e3] 58)).cell? ⟨w.heap.size, 3, none⟩ = some (.int .i64 e2) := by simp
  have c4 : (w.alloc (.cells #[.int .i64 aw, .int .i64 e0, .int .i64 e1, .int .i64 e2, .int .i64 e3] 58)).cell? ⟨w.heap.size, 4, none⟩ = some (.int .i64 e3) := by simp
  generalize (w.alloc (.cells #[.int .i64 aw, .int .i64 e0, .int .i64 e1, .int .i64 e2, .int .i64 e3] 58)) = W at *
  refine wp_region_quiet (C := Ext W) (by kernel_rfl) (by kernel_rfl) (Ext.drew (by (repeat (first | exact Ext.refl _ | (with_reducible assumption) | (with_reducible refine Ext.drew ?_) | (with_reducible refine Ext.alloc ?_ _) | (with_reducible refine Ext.drewN ?_ _) | (with_reducible refine Ext.setCell ?_ (by omega) _) | (with_reducible refine Ext.trans ?_ (by with_reducible assumption)))))) ?_
  rw [show ∀ (l : List Oper), l.toArray.toList = l from fun l => rfl]
  repeat (first
    | go_big_quiet_skip
    | (go_big_quiet_want
       first
        | (go_big_quiet_op; go_big_quiet_on)
        | (apply Exists.intro
           refine ⟨fun w' hxw => ?_, ?_⟩
           focus (have q0 := hxw.keep c0; have q1 := hxw.keep c1; have q2 := hxw.keep c2; have q3 := hxw.keep c3; have q4 := hxw.keep c4; go_simp; first | exact rfl | exact (HF.out w').mono (fun e w'' h => ⟨h.1, hxw.trans h.2⟩))
           simp only [Act.put, List.setIfInBounds_toArray, List.set_cons_zero, List.set_cons_succ]
           go_big_quiet_on)))
  refine wpQuiet_nil ?_
  intro w2 hx2
  go_wp2_with fail
  go_ret
  exact ⟨rfl, X.trans hx2⟩

set_option maxHeartbeats 1000000 in
theorem cost_u (n : Nat) (s : Sm) (hs : SmN n s) (hn : n ≤ 1000) (fee : Int) (hf : 0 ≤ fee ∧ fee ≤ 10000) (w : World) :
    Calls Try.prog 27 #[s.v, .int .i64 fee] w fun e w' => e = .returned (.int .i64 (askQ 4 fee s)) ∧ Ext w w' := by
  have HF := Lib.hid (second_u n s hs hn fee hf)
  have hbd : 0 ≤ feeB fee s ∧ feeB fee s ≤ 10000 := by
    unfold feeB
    split
    · split
      · omega
      · split <;> omega
    · omega
  have hwr : IntKind.i64.wrap (s.award + feeB fee s) = s.award + feeB fee s := IntWalk.i64_in _ (by have := hs.a; omega)
  have e : askQ 2 fee s = feeB fee s := rfl
  rw [e] at HF
  show Calls Try.prog 27 #[s.v, .int .i64 fee] w fun e w' => e = .returned (.int .i64 (s.award + feeB fee s)) ∧ Ext w w'
  generalize feeB fee s = fa at *
  clear hs hbd e
  obtain ⟨aw, e0, e1, e2, e3⟩ := s
  simp only [Sm.v] at *
  go_enter Try.func27, Try.ntmps27
  go_upto_region 1 with fail
  have X : Ext w (w.alloc (.cells #[.int .i64 aw, .int .i64 e0, .int .i64 e1, .int .i64 e2, .int .i64 e3] 58)) := by (repeat (first | exact Ext.refl _ | (with_reducible assumption) | (with_reducible refine Ext.drew ?_) | (with_reducible refine Ext.alloc ?_ _) | (with_reducible refine Ext.drewN ?_ _) | (with_reducible refine Ext.setCell ?_ (by omega) _) | (with_reducible refine Ext.trans ?_ (by with_reducible assumption))))
  have c0 : (w.alloc (.cells #[.int .i64 aw, .int .i64 e0, .int .i64 e1, .int .i64 e2, .int .i64 e3] 58)).cell? ⟨w.heap.size, 0, none⟩ = some (.int .i64 aw) := by simp
  have c1 : (w.alloc (.cells #[.int .i64 aw, .int .i64 e0, .int .i64 e1, .int .i64 e2, .int .i64 e3] 58)).cell? ⟨w.heap.size, 1, none⟩ = some (.int .i64 e0) := by simp
  have c2 : (w.alloc (.cells #[.int .i64 aw, .int .i64 e0, .int .i64 e1, .int .i64 e2, .int .i64 e3] 58)).cell? ⟨w.heap.size, 2, none⟩ = some (.int .i64 e1) := by simp
  have c3 : (w.alloc (.cells #[.int .i64 aw, .int .i64 e0, .int .i64 e1, .int .i64 e2, .int .i64 e3] 58)).cell? ⟨w.heap.size, 3, none⟩ = some (.int .i64 e2) := by simp
  have c4 : (w.alloc (.cells #[.int .i64 aw, .int .i64 e0, .int .i64 e1, .int .i64 e2, .int .i64 e3] 58)).cell? ⟨w.heap.size, 4, none⟩ = some (.int .i64 e3) := by simp
  generalize (w.alloc (.cells #[.int .i64 aw, .int .i64 e0, .int .i64 e1, .int .i64 e2, .int .i64 e3] 58)) = W at *
  refine wp_region_quiet (C := Ext W) (by kernel_rfl) (by kernel_rfl) (Ext.drew (by (repeat (first | exact Ext.refl _ | (with_reducible assumption) | (with_reducible refine Ext.drew ?_) | (with_reducible refine Ext.alloc ?_ _) | (with_reducible refine Ext.drewN ?_ _) | (with_reducible refine Ext.setCell ?_ (by omega) _) | (with_reducible refine Ext.trans ?_ (by with_reducible assumption)))))) ?_
  rw [show ∀ (l : List Oper), l.toArray.toList = l from fun l => rfl]
  repeat (first
    | go_big_quiet_skip
    | (go_big_quiet_want
       first
        | (go_big_quiet_op; go_big_quiet_on)
        | (apply Exists.intro
           refine ⟨fun w' hxw => ?_, ?_⟩
           focus (have q0 := hxw.keep c0; have q1 := hxw.keep c1; have q2 := hxw.keep c2; have q3 := hxw.keep c3; have q4 := hxw.keep c4; go_simp; first | exact rfl | exact (HF.out w').mono (fun e w'' h => ⟨h.1, hxw.trans h.2⟩))
           simp only [Act.put, List.setIfInBounds_toArray, List.set_cons_zero, List.set_cons_succ]
           go_big_quiet_on)))
  refine wpQuiet_nil ?_
  intro w2 hx2
  go_wp2_with fail
  go_ret
  exact ⟨rfl, X.trans hx2⟩

/-- A question. -/
theorem ask_u (k : Nat) (n : Nat) (s : Sm) (hs : SmN n s) (hn : n ≤ 1000) (fee : Int) (hf : 0 ≤ fee ∧ fee ≤ 10000) (w : World) :
    Calls Try.prog (fnQ k) #[s.v, .int .i64 fee] w fun e w' => e = .returned (.int .i64 (askQ k fee s)) ∧ Ext w w' := by
  rcases k with _ | _ | _ | _ | k
  · exact total_u s fee w
  · exact first_u n s hs hn fee hf w
  · exact second_u n s hs hn fee hf w
  · exact net_u n s hs hn fee hf w
  · exact cost_u n s hs hn fee hf w
end Go.Proofs.Ytedblocbcjoolaa

/- Words on the bounds of all sums. -/
namespace Go.Hs
open Go.RowKit Go.Proofs.Ytedblocbcjoolaa
theorem ends_first {S : Int → Prop} {n : Int} (h : ∀ x, S x ↔ x = n) : EndsOf S n n := ⟨(h n).2 rfl, (h n).2 rfl, fun x hx => by rw [(h x).1 hx]; exact ⟨Int.le_refl _, Int.le_refl _⟩⟩
theorem ends_put {S T : Int → Prop} {lo hi n a b : Int} (h : EndsOf S lo hi) (e : ∀ x, T x ↔ (S x ∨ x = n)) (ha : a = if n < lo then n else lo) (hb : b = if hi < n then n else hi) : EndsOf T a b := by
  refine ⟨?_, ?_, fun x hx => ?_⟩
  · rw [ha]; split
    · exact (e _).2 (.inr rfl)
    · exact (e _).2 (.inl h.mn)
  · rw [hb]; split
    · exact (e _).2 (.inr rfl)
    · exact (e _).2 (.inl h.mx)
  · rcases (e x).1 hx with hx | rfl
    · have := h.all x hx
      constructor
      · rw [ha]; split <;> omega
      · rw [hb]; split <;> omega
    · constructor
      · rw [ha]; split <;> omega
      · rw [hb]; split <;> omega
/-- What a question answers to some sums. -/
def ansD (k : Nat) (fee : Int) (D : Sm → Prop) (x : Int) : Prop := ∃ s, D s ∧ askQ k fee s = x
theorem ans_next (k : Nat) (fee : Int) (D : Sm → Prop) (s : Sm) (x : Int) : ansD k fee (fun y => D y ∨ y = s) x ↔ (ansD k fee D x ∨ x = askQ k fee s) := by
  constructor
  · rintro ⟨t, ht | rfl, hx⟩
    · exact .inl ⟨t, ht, hx⟩
    · exact .inr hx.symm
  · rintro (⟨t, ht, hx⟩ | rfl)
    · exact ⟨t, .inl ht, hx⟩
    · exact ⟨s, .inr rfl, rfl⟩
/-- A row of the bounds. -/
def RowAt (b j k : Nat) (fee : Int) (D : Sm → Prop) (W : World) : Prop :=
  ∃ lo hi : Int, W.cell? ⟨b, j * 2, none⟩ = some (.int .i64 lo) ∧ W.cell? ⟨b, j * 2 + 1, none⟩ = some (.int .i64 hi) ∧ ((∃ s, D s) → EndsOf (ansD k fee D) lo hi)
theorem RowAt.kc {b j k : Nat} {fee : Int} {D : Sm → Prop} {W W' : World} (h : RowAt b j k fee D W) (hk : ∀ o v, (o = j * 2 ∨ o = j * 2 + 1) → W.cell? ⟨b, o, none⟩ = some v → W'.cell? ⟨b, o, none⟩ = some v) : RowAt b j k fee D W' :=
  let ⟨lo, hi, h1, h2, h3⟩ := h; ⟨lo, hi, hk _ _ (.inl rfl) h1, hk _ _ (.inr rfl) h2, h3⟩
/-- What holds between two questions: j of the rows know the new sums D' already. -/
structure BndI (w : World) (c : Cas) (ks : List Nat) (bo r M : Nat) (D D' E : Sm → Prop) (j : Nat) (W : World) : Prop where
  ext : Ext w W
  fc : W.cell? ⟨w.heap.size, 2, none⟩ = some (.int .i64 c.fee)
  it : IterAt Sm.v r M (fun x => x ∈ sumsS c) E W
  rl : ∀ i (h : i < ks.length), i < j → RowAt bo i ks[i] c.fee D' W
  rr : ∀ i (h : i < ks.length), j ≤ i → RowAt bo i ks[i] c.fee D W
  fr : ∀ o, W.frozen? ⟨bo, o, none⟩ = false
  lt : w.heap.size < bo
  bl : bo < W.heap.size
section
variable {w : World} {c : Cas} {ks : List Nat} {bo r M : Nat} {D D' E : Sm → Prop} {j : Nat} {W W' : World}
theorem BndI.grow (h : BndI w c ks bo r M D D' E j W) (hx : Ext W W') : BndI w c ks bo r M D D' E j W' :=
  ⟨h.ext.trans hx, hx.keep h.fc, h.it.of (hx.heap h.it.lt.1) (hx.heap h.it.lt.2.1), fun i hi hj => (h.rl i hi hj).kc (fun _ _ _ hc => hx.keep hc), fun i hi hj => (h.rr i hi hj).kc (fun _ _ _ hc => hx.keep hc), fun o => (hx.frozen h.bl).trans (h.fr o), h.lt, Nat.lt_of_lt_of_le h.bl hx.size⟩
/-- The iterator alone has turned. -/
theorem BndI.next {w1 : World} {E' : Sm → Prop} (h : BndI w c ks bo r M D D' E j W) (hw : w1 = W ∨ w1 = W.drew) (o : Obj) (hr : w.heap.size ≤ r) (hit : IterAt Sm.v r M (fun x => x ∈ sumsS c) E' (w1.putObj r o)) (hbo : r ≠ bo) :
    BndI w c ks bo r M D D' E' j (w1.putObj r o) := by
  have hh : ∀ k : Nat, w1.heap[k]? = W.heap[k]? := fun k => by rcases hw with rfl | rfl <;> rfl
  have hg : Ext w w1 := by rcases hw with rfl | rfl; exact h.ext; exact h.ext.drew
  obtain ⟨n1, n2⟩ := h.it.noCells
  have hk : ∀ k o' v, W.cell? ⟨k, o', none⟩ = some v → (w1.putObj r o).cell? ⟨k, o', none⟩ = some v := fun k o' v hc => by
    have hne : k ≠ r := by rintro rfl; rw [n1 o'] at hc; cases hc
    rw [World.cell?_of_block (w := W) ((World.putObj_heap_other hne).trans (hh k))]; exact hc
  refine ⟨⟨hg.os, hg.tape, hg.output, by simpa using hg.size, fun k hk' => (World.putObj_heap_other (by omega)).trans (hg.block k hk')⟩, hk _ _ _ h.fc, hit, fun i hi hj => (h.rl i hi hj).kc (fun _ _ _ hc => hk _ _ _ hc), fun i hi hj => (h.rr i hi hj).kc (fun _ _ _ hc => hk _ _ _ hc), fun o' => ?_, h.lt, by rcases hw with rfl | rfl <;> simpa using h.bl⟩
  rw [World.frozen?_of_block (w := W) ((World.putObj_heap_other (Ne.symm hbo)).trans (hh bo))]
  exact h.fr o'
/-- A row has been stored. -/
theorem BndI.store (h : BndI w c ks bo r M D D' E j W) (hj : j < ks.length) (x y : Int) (hxy : (∃ s, D' s) → EndsOf (ansD ks[j] c.fee D') x y) (hnr : r ≠ bo) (hnM : M ≠ bo) :
    BndI w c ks bo r M D D' E (j + 1) ((W.setCell ⟨bo, j * 2, none⟩ (.int .i64 x)).setCell ⟨bo, j * 2 + 1, none⟩ (.int .i64 y)) := by
  have hlt := h.lt
  have k1 : ∀ {b o v}, b ≠ bo ∨ (o ≠ j * 2 ∧ o ≠ j * 2 + 1) → W.cell? ⟨b, o, none⟩ = some v → ((W.setCell ⟨bo, j * 2, none⟩ (.int .i64 x)).setCell ⟨bo, j * 2 + 1, none⟩ (.int .i64 y)).cell? ⟨b, o, none⟩ = some v := fun {b o v} hd hc => by
    refine sc_ne ?_ (sc_ne ?_ hc)
    · rcases hd with hd | hd
      · exact .inl hd
      · exact .inr hd.2
    · rcases hd with hd | hd
      · exact .inl hd
      · exact .inr hd.1
  have kh : ∀ k : Nat, k ≠ bo → ((W.setCell ⟨bo, j * 2, none⟩ (.int .i64 x)).setCell ⟨bo, j * 2 + 1, none⟩ (.int .i64 y)).heap[k]? = W.heap[k]? := fun k hk =>
    (Below.heap_setCell _ _ _ _ hk).trans (Below.heap_setCell _ _ _ _ hk)
  obtain ⟨lo, hi, r1, r2, -⟩ := h.rr j hj (Nat.le_refl _)
  refine ⟨(h.ext.setCell (by show w.heap.size ≤ bo; omega) _).setCell (by show w.heap.size ≤ bo; omega) _, k1 (.inl (by omega)) h.fc, h.it.of (kh _ hnr) (kh _ hnM), fun i hi' hij => ?_, fun i hi' hij => (h.rr i hi' (by omega)).kc (fun o v ho hc => k1 (.inr (by omega)) hc), fun o => by rw [World.frozen?_setCell, World.frozen?_setCell]; exact h.fr o, h.lt, by rw [World.size_setCell, World.size_setCell]; exact h.bl⟩
  by_cases e : i = j
  · subst e
    exact ⟨x, y, sc_ne (.inr (by omega)) (sc_eq r1), sc_eq (sc_ne (.inr (by omega)) r2), hxy⟩
  · exact (h.rl i hi' (by omega)).kc (fun o v ho hc => k1 (.inr (by omega)) hc)
/-- Any two numbers may be stored in a row that no sum has come to. -/
theorem BndI.lay (h : BndI w c ks bo r M D D' E j W) (hj : j < ks.length) (x y : Int) (hno : ∀ s, ¬ D s) (hnr : r ≠ bo) (hnM : M ≠ bo) :
    BndI w c ks bo r M D D' E j ((W.setCell ⟨bo, j * 2, none⟩ (.int .i64 x)).setCell ⟨bo, j * 2 + 1, none⟩ (.int .i64 y)) := by
  have hlt := h.lt
  have k1 : ∀ {b o v}, b ≠ bo ∨ (o ≠ j * 2 ∧ o ≠ j * 2 + 1) → W.cell? ⟨b, o, none⟩ = some v → ((W.setCell ⟨bo, j * 2, none⟩ (.int .i64 x)).setCell ⟨bo, j * 2 + 1, none⟩ (.int .i64 y)).cell? ⟨b, o, none⟩ = some v := fun {b o v} hd hc => by
    refine sc_ne ?_ (sc_ne ?_ hc)
    · rcases hd with hd | hd
      · exact .inl hd
      · exact .inr hd.2
    · rcases hd with hd | hd
      · exact .inl hd
      · exact .inr hd.1
  have kh : ∀ k : Nat, k ≠ bo → ((W.setCell ⟨bo, j * 2, none⟩ (.int .i64 x)).setCell ⟨bo, j * 2 + 1, none⟩ (.int .i64 y)).heap[k]? = W.heap[k]? := fun k hk =>
    (Below.heap_setCell _ _ _ _ hk).trans (Below.heap_setCell _ _ _ _ hk)
  obtain ⟨lo, hi, r1, r2, -⟩ := h.rr j hj (Nat.le_refl _)
  refine ⟨(h.ext.setCell (by show w.heap.size ≤ bo; omega) _).setCell (by show w.heap.size ≤ bo; omega) _, k1 (.inl (by omega)) h.fc, h.it.of (kh _ hnr) (kh _ hnM), fun i hi' hij => (h.rl i hi' hij).kc (fun o v ho hc => k1 (.inr (by omega)) hc), fun i hi' hij => ?_, fun o => by rw [World.frozen?_setCell, World.frozen?_setCell]; exact h.fr o, h.lt, by rw [World.size_setCell, World.size_setCell]; exact h.bl⟩
  by_cases e : i = j
  · subst e
    exact ⟨x, y, sc_ne (.inr (by omega)) (sc_eq r1), sc_eq (sc_ne (.inr (by omega)) r2), fun ⟨t, ht⟩ => absurd ht (hno t)⟩
  · exact (h.rr i hi' hij).kc (fun o v ho hc => k1 (.inr (by omega)) hc)
theorem Cell5.two {b : Nat} {s : Sm} {i k : Nat} {x y : Value} (h : Cell5 W b s) (hb : b ≠ bo) : Cell5 ((W.setCell ⟨bo, i, none⟩ x).setCell ⟨bo, k, none⟩ y) b s := h.kc (fun _ _ hc => sc_ne (.inl hb) (sc_ne (.inl hb) hc))
theorem BndI.start (h : BndI w c ks bo r M D D E 0 W) : BndI w c ks bo r M D D' E 0 W := ⟨h.ext, h.fc, h.it, fun _ _ hi => absurd hi (Nat.not_lt_zero _), h.rr, h.fr, h.lt, h.bl⟩
theorem BndI.turn (h : BndI w c ks bo r M D D' E ks.length W) : BndI w c ks bo r M D' D' E 0 W := ⟨h.ext, h.fc, h.it, fun _ _ hi => absurd hi (Nat.not_lt_zero _), fun i hi _ => h.rl i hi hi, h.fr, h.lt, h.bl⟩
/-- All sums have come. -/
theorem BndI.done (hbe : ∀ k, EndsOf (fun x => ∃ s, s ∈ sumsS c ∧ askQ k c.fee s = x) (bLo c k) (bHi c k)) (h : BndI w c ks bo r M D D E 0 W) (hall : ∀ a, a ∈ sumsS c → D a) (hsub : ∀ a, D a → a ∈ sumsS c) (i : Nat) (hi : i < ks.length) :
    W.cell? ⟨bo, i * 2, none⟩ = some (.int .i64 (bLo c ks[i])) ∧ W.cell? ⟨bo, i * 2 + 1, none⟩ = some (.int .i64 (bHi c ks[i])) := by
  obtain ⟨lo, hi', h1, h2, h3⟩ := h.rr i hi (Nat.zero_le _)
  obtain ⟨s, hs, -⟩ := (hbe ks[i]).mn
  have e : ∀ x, ansD ks[i] c.fee D x ↔ ∃ s, s ∈ sumsS c ∧ askQ ks[i] c.fee s = x := fun x => ⟨fun ⟨t, ht, hx⟩ => ⟨t, hsub t ht, hx⟩, fun ⟨t, ht, hx⟩ => ⟨t, hall t ht, hx⟩⟩
  obtain ⟨e1, e2⟩ := ((h3 ⟨s, hall s hs⟩).congr e).unique (hbe ks[i])
  rw [← e1, ← e2]
  exact ⟨h1, h2⟩
/-- A row, and what comes of it with one number more. -/
def RowR (b j k : Nat) (fee : Int) (T : Sm → Prop) (n : Int) (W : World) : Prop :=
  ∃ lo hi zn zx : Int, W.cell? ⟨b, j * 2, none⟩ = some (.int .i64 lo) ∧ W.cell? ⟨b, j * 2 + 1, none⟩ = some (.int .i64 hi) ∧ zn = (if n < lo then n else lo) ∧ zx = (if hi < n then n else hi) ∧ EndsOf (ansD k fee T) zn zx
theorem leftN_two {r M bo i k : Nat} {x y : Value} {W : World} (hr : r ≠ bo) (hM : M ≠ bo) : leftN r M ((W.setCell ⟨bo, i, none⟩ x).setCell ⟨bo, k, none⟩ y) = leftN r M W :=
  leftN_of ((Below.heap_setCell _ _ _ _ hr).trans (Below.heap_setCell _ _ _ _ hr)) ((Below.heap_setCell _ _ _ _ hM).trans (Below.heap_setCell _ _ _ _ hM))
theorem BndI.left (h : BndI w c ks bo r M D D' E j W) (hx : Ext W W') : leftN r M W' = leftN r M W := leftN_of (hx.heap h.it.lt.1) (hx.heap h.it.lt.2.1)
/-- What holds between two sums; s6 says whether none has come yet. -/
def BndL (w : World) (c : Cas) (ks : List Nat) (bo r M : Nat) (s6 : Value) (W : World) : Prop :=
  ∃ (fst : Bool) (D : Sm → Prop), s6 = .bool fst ∧ BndI w c ks bo r M D D D 0 W ∧ (fst = true → ∀ x, ¬ D x) ∧ (fst = false → ∃ x, D x)
theorem IterAt.subS {r bm : Nat} {S D : Sm → Prop} {w : World} (h : IterAt Sm.v r bm S D w) : ∀ a, D a → S a := by
  obtain ⟨es, clock, since, seen, c0, h1, h2, h3, h4, h5, h6, h7, h8, h9⟩ := h
  exact h9
end
theorem sumsFrom_smN {c : Cas} (hc : CasOK c) (h0 : checkS c.tars = 0) : ∀ (fs : List Fld) (n : Nat) (s0 : Sm), (∀ f ∈ fs, f ∈ c.flds) → SmN n s0 → ∀ s ∈ sumsFrom c fs s0, SmN (n + fs.length) s
  | [], n, s0, _, hs, s, h => by
    rw [sumsFrom, List.mem_singleton] at h
    rw [h]; exact hs
  | f :: fs, n, s0, hf, hs, s, h => by
    rw [sumsFrom, List.mem_flatMap] at h
    obtain ⟨x, hx, h⟩ := h
    have hff := hc.flds f (hf f (by simp))
    have := sumsFrom_smN hc h0 fs (n + 1) _ (fun g hg => hf g (by simp [hg])) (hs.plus (outS_ok hc h0 hff (mem_truths.1 hx))) s h
    rw [List.length_cons, show n + (fs.length + 1) = n + 1 + fs.length by omega]
    exact this
theorem sumsS_smN {c : Cas} (hc : CasOK c) (h0 : checkS c.tars = 0) {s : Sm} (h : s ∈ sumsS c) : SmN c.flds.length s := by
  have := sumsFrom_smN hc h0 c.flds 0 Sm.zero (fun f hf => hf) SmN.zero s h
  rwa [Nat.zero_add] at this
end Go.Hs

/- Contracts of layer 7: a case at work. Printed by gen_uy.py. -/
namespace Go.Proofs.Ytedblocbcjoolaa
open Go.RowKit Go.Hs
attribute [local irreducible] World.setCell World.alloc
attribute [local go_sem] Oper.semAt_some
attribute [local simp] wide_fn wide_fn' wide_depth wide_round
attribute [local go_sem] wide_fn wide_fn' wide_depth wide_round
theorem info_map : (Try.prog.info? 120).map (fun i => (i.zero, i.size, i.bytes)) = some (some (.map none), 1, 8) := by kernel_rfl
/-- The frame and the world at the head of the loop. -/
def WrkH (c : Cas) (w : World) (a1 : Option Addr) (c1 : Nat) (a2 : Option Addr) (c2 : Nat) (a : Act) (W : World) : Prop :=
  ∃ (k : Nat) (rs : List Nat) (a4 : Option Addr) (q4 : Nat) (ds : List Deferred), k ≤ c.flds.length ∧ rs.length = k ∧ WrkI c w 120 (.slice a1 c.tars.length c1) (.slice a2 c.flds.length c2) (.slice a4 k q4) rs ds W ∧
    (∃ u0 u1 u2 u4 u5 u6 u7 u8 u9 u10 u11 u12 u13 u14 u15 u16 u17 u18 u22 u23 u24 u25 u26 u27 u28 u29 u30 u31 u32 u33 u34 u35 u36 u37 u38 u39 u40 u41 u42 u43 u44 u45 u46 u47 u48 u49 u50 u51 u52 u53 u54 u55 u56 u57 u58 u59 u60 : Value, a = { tmps := (u0 :: u1 :: u2 :: (.pointer (some ⟨w.heap.size + 1 + 1, 0, none⟩)) :: u4 :: u5 :: u6 :: u7 :: u8 :: u9 :: u10 :: u11 :: u12 :: u13 :: u14 :: u15 :: u16 :: u17 :: u18 :: (.slice a2 c.flds.length c2) :: (.int .i64 (c.flds.length : Int)) :: (.int .i64 (k : Int)) :: u22 :: u23 :: u24 :: u25 :: u26 :: u27 :: u28 :: u29 :: u30 :: u31 :: u32 :: u33 :: u34 :: u35 :: u36 :: u37 :: u38 :: u39 :: u40 :: u41 :: u42 :: u43 :: u44 :: u45 :: u46 :: u47 :: u48 :: u49 :: u50 :: u51 :: u52 :: u53 :: u54 :: u55 :: u56 :: u57 :: u58 :: u59 :: u60 :: []).toArray, defers := ds })
def WrkM (c : Cas) (a : Act) : Nat := c.flds.length + 1 - (intOf (a.tmps.getD 21 undef)).toNat

theorem wrkJ_start (c : Cas) (wo : World) (f : Fld) :
    WrkJ c wo f 0 ((((wo.alloc (.cells #[f.c.c0, f.c.c1, f.c.c2, f.c.c3, f.c.c4, f.c.c5, f.c.c6, f.c.c7, f.c.c8] 46)).alloc (.map #[] 0)).alloc (.cells #[.map (some (wo.heap.size + 1))] 120)).alloc
      (.cells #[f.c.c0, f.c.c1, f.c.c2, f.c.c3, f.c.c4, f.c.c5, f.c.c6, f.c.c7, f.c.c8] 46)) := by
  refine ⟨by (repeat (first | exact Ext.refl _ | (with_reducible assumption) | (with_reducible refine Ext.drew ?_) | (with_reducible refine Ext.alloc ?_ _) | (with_reducible refine Ext.drewN ?_ _) | (with_reducible refine Ext.setCell ?_ (by omega) _) | (with_reducible refine Ext.trans ?_ (by with_reducible assumption)))), ?_, ?_, by simp [go_sem], ?_, by simp⟩
  · refine ⟨?_, ?_, ?_, ?_, ?_, ?_, ?_, ?_, ?_⟩ <;> simp [go_sem]
  · refine ⟨?_, ?_, ?_, ?_, ?_, ?_, ?_, ?_, ?_⟩ <;> simp [go_sem]
  · have h := SetAt.empty (enc := Out.v) (wo.alloc (.cells #[f.c.c0, f.c.c1, f.c.c2, f.c.c3, f.c.c4, f.c.c5, f.c.c6, f.c.c7, f.c.c8] 46))
    rw [World.size_alloc] at h
    refine (h.congr (S' := outSet c f 0) (fun a => ⟨fun h => h.elim, fun ⟨i, hi, _⟩ => absurd hi (Nat.not_lt_zero _)⟩)).of ?_
    rw [Below.heap_alloc _ _ _ (by simp), Below.heap_alloc _ _ _ (by simp)]

set_option maxRecDepth 100000 in
set_option maxHeartbeats 8000000 in
theorem work_u (c : Cas) (v : Value) (w : World) (hv : CasV w v c) (hc : CasOK c) :
    Calls Try.prog 43 #[v] w fun e w' => ∃ p v0 v3 ro, e = .returned (.pointer (some ⟨p, 0, none⟩)) ∧ WorkC c p v0 v3 ro w' ∧ Ext w w' := by
  have HPY : Hid (∀ f n w', Ext w w' → Calls Try.prog 18 #[v, f.c.val, .int .i64 n] w' fun e w'' => e = .returned (.tuple #[.int .i64 (payC c f n), .bool (payOk c f n)]) ∧ Ext w' w'') := Lib.hid (fun f n w' hx => pay_u c v f n w' (hv.ext hx))
  obtain ⟨a1, c1, a2, c2, rfl, -, -, hcl, hl1, hl2⟩ := hv.open
  have HCL : Hid (∀ w', Ext w w' → Cells9 w' a2 (c.flds.map Fld.c)) := Lib.hid (fun w' hx => hcl.ext hx)
  obtain ⟨i1, hi1, hz10, hz11, hz12⟩ := info_parts info_map
  have hfew := hc.few
  have HFR : Hid (∀ k (hk : k < c.flds.length), FldR c.flds[k]) := Lib.hid (fun k hk => (hc.flds _ (List.getElem_mem hk)).r)
  have hmm := @run_makeMap Try.prog
  clear hv hcl hc
  refine (callsIn_wide (n := 0)).1 (callsIn_of_wp_marks Try.func43 rfl trivial (wpIn_wide.2 ?_) rfl)
  simp only [Try.ntmps43, List.size_toArray, List.length_cons, List.length_nil, Nat.reduceAdd, Nat.reduceSub, Array.replicate_succ, Array.replicate_zero, List.push_toArray, List.append_toArray, List.nil_append, List.cons_append]
  go_wp2_with fail
  have H0 : WrkI c w 120 (.slice a1 c.tars.length c1) (.slice a2 c.flds.length c2) (.slice none 0 0) [] [] (((w.alloc (.cells #[(.slice a1 c.tars.length c1), .int .i64 c.day, .int .i64 c.fee, (.slice a2 c.flds.length c2)] 31)).alloc (.cells #[(.slice a1 c.tars.length c1), .int .i64 c.day, .int .i64 c.fee, (.slice a2 c.flds.length c2), .slice none 0 0] 119)).alloc (.cells #[.pointer (some ⟨w.heap.size + 1, 0, none⟩)] 107)) := by
    refine ⟨by (repeat (first | exact Ext.refl _ | (with_reducible assumption) | (with_reducible refine Ext.drew ?_) | (with_reducible refine Ext.alloc ?_ _) | (with_reducible refine Ext.drewN ?_ _) | (with_reducible refine Ext.setCell ?_ (by omega) _) | (with_reducible refine Ext.trans ?_ (by with_reducible assumption)))), by simp [go_sem], by simp [go_sem], by simp [go_sem], by simp [go_sem], by simp [go_sem], fun o => by simp [go_sem], by simp [go_sem], ⟨by simp, .inl ⟨rfl, rfl⟩⟩, fun i h1 _ => by simp at h1, Marks.nil _ _⟩
  refine wp_loop (WrkH c w a1 c1 a2 c2) (fun a _ => WrkM c a) ?start ?round
  case start => exact ⟨0, [], none, 0, [], Nat.zero_le _, rfl, H0, _, _, _, _, _, _, _, _, _, _, _, _, _, _, _, _, _, _, _, _, _, _, _, _, _, _, _, _, _, _, _, _, _, _, _, _, _, _, _, _, _, _, _, _, _, _, _, _, _, _, _, _, _, _, _, _, _, rfl⟩
  case round =>
    clear H0
    rintro a wo ⟨k, rs, a4, q4, ds, hk, hlr, HI, u0, u1, u2, u4, u5, u6, u7, u8, u9, u10, u11, u12, u13, u14, u15, u16, u17, u18, u22, u23, u24, u25, u26, u27, u28, u29, u30, u31, u32, u33, u34, u35, u36, u37, u38, u39, u40, u41, u42, u43, u44, u45, u46, u47, u48, u49, u50, u51, u52, u53, u54, u55, u56, u57, u58, u59, u60, rfl⟩
    by_cases hlt : k < c.flds.length
    · have hd : decide ((k : Int) < (c.flds.length : Int)) = true := decide_eq_true (by omega)
      obtain ⟨b, off, hba, hce⟩ := HCL.out wo HI.ext k (by simpa using hlt)
      subst hba
      have e1 : (c.flds.map Fld.c)[k]'(by simpa using hlt) = (c.flds[k]).c := by simp
      rw [e1] at hce
      have hf := HFR.out k hlt
      have HWI := Lib.hid HI
      have HN := Lib.hid hfew
      clear e1 HI hfew
      obtain ⟨f, hfe⟩ : ∃ f, f = c.flds[k] := ⟨_, rfl⟩
      rw [← hfe] at hce hf
      have HFE := Lib.hid hfe
      clear hfe
      have HOS : Hid (∀ n, n < truthsN f → ∀ w', Calls Try.prog 17 #[f.c.val, (truthAt f n).c.val] w' fun e w'' => e = .returned (.tuple #[.int .i64 (settledS f (truthAt f n)), .int .i64 (loserS f (truthAt f n))]) ∧ Ext w' w'') :=
        Lib.hid (fun n hn w' => by
          have hx := truthAt_ok hn
          have := hx.a; have := hx.b; have := hx.u; have := hf.a; have := hf.b; have := hf.u
          exact settle_u _ _ hf.near (by omega) (by omega) (by omega) w')
      have hw1 : IntKind.i64.wrap ((k : Int) + 1) = (k : Int) + 1 := IntWalk.i64_in _ (by omega)
      have HTR : Hid (∀ W, Calls Try.prog 23 #[f.c.val] W fun e w' => e = .returned (.func (.func 41) #[] #[.pointer (some ⟨W.heap.size, 0, none⟩)]) ∧ w' = W.alloc (.cells #[f.c.c0, f.c.c1, f.c.c2, f.c.c3, f.c.c4, f.c.c5, f.c.c6, f.c.c7, f.c.c8] 46)) := Lib.hid (fun W => truths_u f W)
      have HGV := Lib.hid (fun b => truths_gives b f hf.a hf.b hf.u)
      have HL := Lib.hid (truthsV_len f)
      have H0 := Lib.hid (wrkJ_start c wo f)
      clear hf
      cases hfq : f with
      | mk cr va ne al ah bl bh ul uh =>
      have HFQ := Lib.hid hfq
      rw [hfq] at hce HTR H0
      clear hfq
      simp only [Fld.c] at hce HTR
      obtain ⟨m0, m1, m2, m3, m4, m5, m6, m7, m8⟩ := hce
      go_wp2_with ((with_reducible refine (HTR.out _).mono ?_); rintro e w' ⟨rfl, rfl⟩)
      have H1 := H0.out
      simp only [Fld.c] at H1
      rw [← HFQ.out] at H1
      have hgv := HGV.out
      generalize hW0 : ((((wo.alloc (.cells #[.int .i64 cr, .int .i64 va, .int .i64 ne, .int .i64 al, .int .i64 ah, .int .i64 bl, .int .i64 bh, .int .i64 ul, .int .i64 uh] 46)).alloc (.map #[] 0)).alloc (.cells #[.map (some (wo.heap.size + 1))] 120)).alloc (.cells #[.int .i64 cr, .int .i64 va, .int .i64 ne, .int .i64 al, .int .i64 ah, .int .i64 bl, .int .i64 bh, .int .i64 ul, .int .i64 uh] 46)) = W0 at *
      clear hW0 m0 m1 m2 m3 m4 m5 m6 m7 m8 H0 HTR
      have hs0 := H1.s
      refine each_wp (vs := truthsV f) (K := fun W => Cell9 W (wo.heap.size + 1 + 1 + 1) 0 f.c) (by rfl) fn_truths1 (by rfl) (fun i W' => WrkJ c wo f i W') (fun _ _ => False) (hgv _) (fun i W' h => h.tr)
        (fun i A B h hx => h.below hx hs0) (fun c A B h hx => h) H1 ?hround ?hdone ?hstop
      case hround =>
        intro i hi W1 hj hs
        rw [truthsV_get]
        have hiN : i < truthsN f := by have := HL.out; omega
        have HSE := HOS.out i hiN
        have HPY2 : Hid (∀ w', Ext w w' → Calls Try.prog 18 #[.agg #[(.slice a1 c.tars.length c1), .int .i64 c.day, .int .i64 c.fee, .slice (some ⟨b, off, none⟩) c.flds.length c2], f.c.val, .int .i64 (settledS f (truthAt f i))] w' fun e w'' => e = .returned (.tuple #[.int .i64 (payC c f (settledS f (truthAt f i))), .bool (payOk c f (settledS f (truthAt f i)))]) ∧ Ext w' w'') := Lib.hid (fun w' hx => HPY.out f _ w' hx)
        have HMU : Hid (∀ W, WrkJ c wo f i W → ∃ o, (Instr.mapUpdate 120 (.map (some (wo.heap.size + 1))) (.agg #[.int .i64 (payC c f (settledS f (truthAt f i))), .int .i64 (loserS f (truthAt f i))]) (.bool true)).run Try.prog W = .ok () (W.putObj (wo.heap.size + 1) o) ∧ WrkJ c wo f (i + 1) (W.putObj (wo.heap.size + 1) o)) :=
          Lib.hid (fun W h => let ⟨o, h1, h2⟩ := h.set.put kOut Out.v_agg Try.underlying120 (outS c f (truthAt f i)) (.bool true); ⟨o, h1, h.put o h2⟩)
        have HJ := Lib.hid hj
        clear hj H1 HOS HPY hgv HGV HL HFR HCL
        generalize payC c f (settledS f (truthAt f i)) = pn at *
        generalize payOk c f (settledS f (truthAt f i)) = pk at *
        generalize settledS f (truthAt f i) = st at *
        generalize loserS f (truthAt f i) = lo at *
        generalize truthAt f i = x at *
        obtain ⟨A, B, U⟩ := x
        simp only [Thr.c] at *
        simp only [Array.zip_eq_zipWith]
        gi_wp2_with fail
        refine ⟨Kept.ext (by (repeat (first | exact Ext.refl _ | (with_reducible assumption) | (with_reducible refine Ext.drew ?_) | (with_reducible refine Ext.alloc ?_ _) | (with_reducible refine Ext.drewN ?_ _) | (with_reducible refine Ext.setCell ?_ (by omega) _) | (with_reducible refine Ext.trans ?_ (by with_reducible assumption))))), fun W2 hT _ => ?_⟩
        have BA : Below W0.heap.size W1 W2 := (((Ext.refl W1).alloc (.cells #[.int .i64 A, .int .i64 B, .int .i64 U] 62)).mono (by omega)).trans (hT.below (by omega))
        have J2 := HJ.out.below BA hs0
        have x0 : W2.cell? ⟨W1.heap.size, 0, none⟩ = some (.int .i64 A) := hT.cell (by omega) (by simp)
        have x1 : W2.cell? ⟨W1.heap.size, 1, none⟩ = some (.int .i64 B) := hT.cell (by omega) (by simp)
        have x2 : W2.cell? ⟨W1.heap.size, 2, none⟩ = some (.int .i64 U) := hT.cell (by omega) (by simp)
        have hfb := J2.fb
        have HJ2 := Lib.hid J2
        have HFB : Hid (∀ w', Ext W2 w' → Cell9 w' wo.heap.size 0 (⟨cr, va, ne, al, ah, bl, bh, ul, uh⟩ : Fld).c) := Lib.hid (fun w' h => HFQ.out ▸ hfb.ext h)
        have HW2 := Lib.hid (HWI.out.grow J2.ext)
        have hq := hfb
        rw [HFQ.out] at hq HSE
        simp only [Fld.c] at hq HFB HSE
        obtain ⟨f0, f1, f2, f3, f4, f5, f6, f7, f8⟩ := hq
        simp only [Nat.zero_add] at f0 f1 f2 f3 f4 f5 f6 f7 f8
        have HPY3 := HPY2.out
        rw [HFQ.out] at HPY3
        simp only [Fld.c] at HPY3
        have HP := Lib.hid HPY3
        have XW := Lib.hid (HWI.out.ext.trans J2.ext)
        have HSEI : Hid (∀ W, CallsIn (Fence.wide.inRound (W0.heap.size + 1)) 0 Try.prog 17 #[.agg #[.int .i64 cr, .int .i64 va, .int .i64 ne, .int .i64 al, .int .i64 ah, .int .i64 bl, .int .i64 bh, .int .i64 ul, .int .i64 uh], .agg #[.int .i64 A, .int .i64 B, .int .i64 U]] W fun e w'' => e = .returned (.tuple #[.int .i64 st, .int .i64 lo]) ∧ Ext W w'') := Lib.hid (fun W => CallsIn.inRound _ (callsIn_wide.2 (HSE W)))
        clear J2 hT BA HSE hfb HPY3 HPY2
        gi_upto_region 9 with (gi_at_call 17; (with_reducible refine (HSEI.out _).mono ?_); rintro e w3 ⟨rfl, hx3⟩)
        have HF9 : Hid (∀ w', Ext w3 w' → (w'.cell? ⟨wo.heap.size, 0, none⟩ = some (.int .i64 cr) ∧ w'.cell? ⟨wo.heap.size, 1, none⟩ = some (.int .i64 va) ∧ w'.cell? ⟨wo.heap.size, 2, none⟩ = some (.int .i64 ne) ∧ w'.cell? ⟨wo.heap.size, 3, none⟩ = some (.int .i64 al) ∧ w'.cell? ⟨wo.heap.size, 4, none⟩ = some (.int .i64 ah) ∧ w'.cell? ⟨wo.heap.size, 5, none⟩ = some (.int .i64 bl) ∧ w'.cell? ⟨wo.heap.size, 6, none⟩ = some (.int .i64 bh) ∧ w'.cell? ⟨wo.heap.size, 7, none⟩ = some (.int .i64 ul) ∧ w'.cell? ⟨wo.heap.size, 8, none⟩ = some (.int .i64 uh)) ∧
            (w'.cell? ⟨w.heap.size + 1 + 1, 0, none⟩ = some (.pointer (some ⟨w.heap.size + 1, 0, none⟩)) ∧ w'.cell? ⟨w.heap.size + 1, 0, none⟩ = some (.slice a1 c.tars.length c1) ∧ w'.cell? ⟨w.heap.size + 1, 1, none⟩ = some (.int .i64 c.day) ∧ w'.cell? ⟨w.heap.size + 1, 2, none⟩ = some (.int .i64 c.fee) ∧ w'.cell? ⟨w.heap.size + 1, 3, none⟩ = some (.slice (some ⟨b, off, none⟩) c.flds.length c2))) :=
          Lib.hid (fun w' hx => by
            have G := HW2.out.grow (hx3.trans hx)
            have F := HFB.out w' (hx3.trans hx)
            obtain ⟨g0, g1, g2, g3, g4, g5, g6, g7, g8⟩ := F
            simp only [Nat.zero_add] at g0 g1 g2 g3 g4 g5 g6 g7 g8
            exact ⟨⟨g0, g1, g2, g3, g4, g5, g6, g7, g8⟩, G.t3, G.c0, G.c1, G.c2, G.c3⟩)
        have X3 := Lib.hid hx3
        clear hx3 f0 f1 f2 f3 f4 f5 f6 f7 f8
        refine wpIn_round_quiet (C := Ext w3) (by kernel_rfl) (by kernel_rfl) (by kernel_rfl) (Ext.drew (by (repeat (first | exact Ext.refl _ | (with_reducible assumption) | (with_reducible refine Ext.drew ?_) | (with_reducible refine Ext.alloc ?_ _) | (with_reducible refine Ext.drewN ?_ _) | (with_reducible refine Ext.setCell ?_ (by omega) _) | (with_reducible refine Ext.trans ?_ (by with_reducible assumption)))))) ?_
        rw [show ∀ (l : List Oper), l.toArray.toList = l from fun l => rfl]
        repeat (first
          | go_big_quiet_skip
          | (go_big_quiet_want
             first
              | (go_big_quiet_op; go_big_quiet_on)
              | (apply Exists.intro
                 refine ⟨fun w' hxw => ?_, ?_⟩
                 focus (obtain ⟨⟨g0, g1, g2, g3, g4, g5, g6, g7, g8⟩, d0, d1, d2, d3, d4⟩ := HF9.out w' hxw; go_simp; first | exact rfl | exact (HP.out w' (XW.out.trans (X3.out.trans hxw))).mono (fun e w'' h => ⟨h.1, hxw.trans h.2⟩))
                 simp only [Act.put, List.setIfInBounds_toArray, List.set_cons_zero, List.set_cons_succ]
                 go_big_quiet_on)))
        refine wpQuiet_nil ?_
        intro w2 hx2
        have J4 := HJ2.out.below (D := W2.heap.size) (X3.out.trans hx2) HJ2.out.s
        have q6 := J4.t6
        obtain ⟨o, hmu, J5⟩ := HMU.out _ J4
        have HK : Hid (Kept W0.heap.size W2 (w2.putObj (wo.heap.size + 1) o)) := Lib.hid (by
          have hk : Kept W0.heap.size W2 w2 := Kept.ext (X3.out.trans hx2)
          exact ⟨by simpa using hk.1, fun q hq1 hq2 => (World.putObj_heap_other (by omega)).trans (hk.2 q hq1 hq2)⟩)
        have HJ5 := Lib.hid J5
        clear J4 J5 hx2
        gi_wp2_with fail
        exact ⟨HK.out, HJ5.out⟩
      case hdone =>
        intro W3 hj hdf
        rw [HL.out] at hj
        subst hlr
        have HW3 := Lib.hid (HWI.out.mark hj.ext (D := W0.heap.size) (by omega) hdf)
        have hset := hj.set
        have HSET : Hid (∀ (h2 : rs.length < c.flds.length), SetAt Out.v (wo.heap.size + 1) (outSet c c.flds[rs.length] (truthsN c.flds[rs.length])) W3) := Lib.hid (fun h2 => HFE.out ▸ hset)
        have HEX := Lib.hid (HWI.out.ext.trans hj.ext)
        have hq6 := hj.t6
        have hrow : ∀ {g : Nat}, g < w.heap.size + 3 ∨ (wo.heap.size ≤ g) → some g ≠ (Value.slice a4 rs.length q4).ownBlock := fun {g} h e => by
          have h1 := own_lt HWI.out.own e.symm
          omega
        have HSS : Hid (∀ w', GB (Value.slice a4 rs.length q4).ownBlock W3 w' → (w'.cell? ⟨w.heap.size + 1 + 1, 0, none⟩ = some (.pointer (some ⟨w.heap.size + 1, 0, none⟩)) ∧ w'.cell? ⟨w.heap.size + 1, 4, none⟩ = some (.slice a4 rs.length q4) ∧ w'.cell? ⟨wo.heap.size + 1 + 1, 0, none⟩ = some (.map (some (wo.heap.size + 1))) ∧ w'.frozen? ⟨w.heap.size + 1, 4, none⟩ = false) ∧ GB (Value.slice a4 rs.length q4).ownBlock W3 w') :=
          Lib.hid (fun w' hx => ⟨⟨hx.keep (hrow (.inl (by omega))) HW3.out.t3, hx.keep (hrow (.inl (by omega))) HW3.out.c4, hx.keep (hrow (.inr (by omega))) hq6, (hx.frozen (lt_of_cell HW3.out.c0) (hrow (g := w.heap.size + 1) (.inl (by omega)))).trans (HW3.out.fr 4)⟩, hx⟩)
        have hrl : rs.length < c.flds.length := hlt
        have HONE : Hid (∀ u ∈ ([.map (some (wo.heap.size + 1))] : List Value), u.oneCell' = true) := Lib.hid (by
          intro u hu
          simp only [List.mem_cons, List.not_mem_nil, or_false] at hu
          rw [hu]; rfl)
        have HF1 : Hid (rs.length + 1 ≤ maxLen) := Lib.hid (by simp only [maxLen]; omega)
        have HF2 : Hid ((rs.length + 1) * 8 ≤ 140737488355328) := Lib.hid (by omega)
        have HF3 : Hid (w.heap.size + 3 ≤ W3.heap.size) := Lib.hid (by have := lt_of_cell HW3.out.t3; have : w.heap.size + 2 < W3.heap.size := this; omega)
        have HOWN := Lib.hid HW3.out.own
        clear hj hset hq6 hrow H1 HWI hgv HPY HOS HFR HCL HFQ HFE
        go_upto_region 11 with fail
        obtain ⟨⟨k1, k2, k3, k4⟩, -⟩ := HSS.out W3 (GB.refl W3)
        have l1 : ∀ A, (W3.alloc A).cell? ⟨w.heap.size + 1 + 1, 0, none⟩ = some (.pointer (some ⟨w.heap.size + 1, 0, none⟩)) := fun A => ((Ext.refl W3).alloc A).keep k1
        have l2 : ∀ A, (W3.alloc A).cell? ⟨w.heap.size + 1, 4, none⟩ = some (.slice a4 rs.length q4) := fun A => ((Ext.refl W3).alloc A).keep k2
        have l3 : ∀ A, (W3.alloc A).cell? ⟨wo.heap.size + 1 + 1, 0, none⟩ = some (.map (some (wo.heap.size + 1))) := fun A => ((Ext.refl W3).alloc A).keep k3
        refine wp_region_noPanic ?_
        go_region_law (((refine step_is_app _ _ 117 rfl ?_); (refine step_append_lies _ (by rfl) _ _ 117 (by rfl) (w.heap.size + 3) 120 i1 (.map none) 1 8 Try.underlying117 hi1 hz10 hz11 hz12 rfl (by decide) (.slice a4 rs.length q4) rs.length (rs.map (fun r => .map (some r))) (by rfl) (own_ext HOWN.out (by (repeat (first | exact Ext.refl _ | (with_reducible assumption) | (with_reducible refine Ext.drew ?_) | (with_reducible refine Ext.alloc ?_ _) | (with_reducible refine Ext.drewN ?_ _) | (with_reducible refine Ext.setCell ?_ (by omega) _) | (with_reducible refine Ext.trans ?_ (by with_reducible assumption)))))) ⟨_, 0, none⟩ 1 1 [.map (some (wo.heap.size + 1))] (by rfl) rfl (one_in (by (repeat (first | exact Ext.refl _ | (with_reducible assumption) | (with_reducible refine Ext.drew ?_) | (with_reducible refine Ext.alloc ?_ _) | (with_reducible refine Ext.drewN ?_ _) | (with_reducible refine Ext.setCell ?_ (by omega) _) | (with_reducible refine Ext.trans ?_ (by with_reducible assumption))))) (by first | rfl | simp)) HONE.out (by decide) HF1.out HF2.out (le_ext HF3.out (by (repeat (first | exact Ext.refl _ | (with_reducible assumption) | (with_reducible refine Ext.drew ?_) | (with_reducible refine Ext.alloc ?_ _) | (with_reducible refine Ext.drewN ?_ _) | (with_reducible refine Ext.setCell ?_ (by omega) _) | (with_reducible refine Ext.trans ?_ (by with_reducible assumption)))))) _ rfl ?_); intro g cap w4 hown4 hgrow hat hlt4; have hx4 : GB (Value.slice a4 rs.length q4).ownBlock W3 w4 := gb_own (by (repeat (first | exact Ext.refl _ | (with_reducible assumption) | (with_reducible refine Ext.drew ?_) | (with_reducible refine Ext.alloc ?_ _) | (with_reducible refine Ext.drewN ?_ _) | (with_reducible refine Ext.setCell ?_ (by omega) _) | (with_reducible refine Ext.trans ?_ (by with_reducible assumption))))) hgrow; have k1 := (HSS.out _ hx4).1.1; have k2 := (HSS.out _ hx4).1.2.1; have k3 := (HSS.out _ hx4).1.2.2.1; have k4 := (HSS.out _ hx4).1.2.2.2))
        all_goals
          have HAP := Lib.hid (HW3.out.app hx4 hown4 HSET.out)
          clear hown4 hgrow hat hlt4 hx4 k1 k2 k3 k4
          dsimp only [NoPanic]
          go_wp2_with fail
          rw [show (rs.length : Int) + 1 = ((rs.length + 1 : Nat) : Int) from rfl]
          refine ⟨⟨rs.length + 1, rs ++ [wo.heap.size + 1], _, _, _, hrl, by simp, HAP.out, _, _, _, _, _, _, _, _, _, _, _, _, _, _, _, _, _, _, _, _, _, _, _, _, _, _, _, _, _, _, _, _, _, _, _, _, _, _, _, _, _, _, _, _, _, _, _, _, _, _, _, _, _, _, _, _, _, rfl⟩, ?_⟩
          show c.flds.length + 1 - ((rs.length + 1 : Nat) : Int).toNat < c.flds.length + 1 - ((rs.length : Nat) : Int).toNat
          rw [Int.toNat_natCast, Int.toNat_natCast]
          omega
      case hstop => exact fun q W h _ => h.elim
    · have hd : decide ((k : Int) < (c.flds.length : Int)) = false := decide_eq_false (by omega)
      obtain rfl : k = c.flds.length := by omega
      have t3 := HI.t3
      have HWI := Lib.hid HI
      clear HI
      go_wp2_with fail
      have X := HWI.out.ext
      have hdone := fun w' (h : ShutW w.heap.size wo w') => HWI.out.done hlr h
      exact leaves_marks ds wo HWI.out.marks (fun w' hw' => ⟨.pointer (some ⟨w.heap.size + 1, 0, none⟩), by simp [results, Try.results43, go_sem], _, _, _, _, rfl, hdone w' hw', hw'.ext X (Nat.le_refl _)⟩)
end Go.Proofs.Ytedblocbcjoolaa

/- Contracts of layer 7: the bounds of all answers. -/
namespace Go.Hs
open Go.RowKit
theorem made_two (w : World) (n j : Nat) (x : Value) (t : TypeId) (hj : j < n * 2) : (w.alloc (.cells (madeCells #[x, x] (n * 2)) t)).cell? ⟨w.heap.size, j, none⟩ = some x := by
  have h := cell_of_row (w.alloc (.cells (madeCells #[x, x] (n * 2)) t)) w.heap.size j _ t (0, 0) (World.alloc_heap_new w _)
  rw [h]
  have : j % 2 = 0 ∨ j % 2 = 1 := by omega
  rcases this with e | e <;> simp [madeCells, hj, e]
end Go.Hs
namespace Go.Proofs.Ytedblocbcjoolaa
open Go.RowKit Go.Hs
attribute [local irreducible] World.setCell World.alloc
theorem info_ran : (Try.prog.info? 44).map (fun i => (i.zero, i.size, i.bytes)) = some (some (.agg #[.int .i64 0, .int .i64 0]), 2, 16) := by kernel_rfl
theorem fn_q (k : Nat) : FnOK (fnQ k) := by
  rcases k with _ | _ | _ | _ | k <;> exact fun args w => by simp [go_sem, fnQ]

set_option maxRecDepth 100000 in
set_option maxHeartbeats 4000000 in
theorem bounds_u (c : Cas) (v : Value) (hc : CasOK c) (h0 : checkS c.tars = 0) (ks : List Nat) (lb loff lcap : Nat) (hn : ks.length ≤ 5) (w : World) (hv : CasV w v c)
    (hl : ∀ j (h : j < ks.length), w.cell? ⟨lb, loff + j, none⟩ = some (.func (.func (fnQ ks[j])) #[] #[])) :
    Calls Try.prog 25 #[v, .slice (some ⟨lb, loff, none⟩) ks.length lcap] w fun e w' => ∃ b, w.heap.size ≤ b ∧ e = .returned (.slice (some ⟨b, 0, none⟩) ks.length ks.length) ∧
      (∀ j (h : j < ks.length), w'.cell? ⟨b, j * 2, none⟩ = some (.int .i64 (bLo c ks[j])) ∧ w'.cell? ⟨b, j * 2 + 1, none⟩ = some (.int .i64 (bHi c ks[j]))) ∧ Ext w w' := by
  have HWK : Hid (∀ w', Ext w w' → Calls Try.prog 43 #[v] w' fun e w'' => ∃ p v0 v3 ro, e = .returned (.pointer (some ⟨p, 0, none⟩)) ∧ WorkC c p v0 v3 ro w'' ∧ Ext w' w'') := Lib.hid (fun w' hx => work_u c v w' (hv.ext hx) hc)
  have HSU := Lib.hid (sums_u c hc h0)
  have HSM : Hid (∀ s, s ∈ sumsS c → SmN c.flds.length s) := Lib.hid (fun s h => sumsS_smN hc h0 h)
  have HQU : Hid (∀ k s, s ∈ sumsS c → ∀ W, Calls Try.prog (fnQ k) #[s.v, .int .i64 c.fee] W fun e w' => e = .returned (.int .i64 (askQ k c.fee s)) ∧ Ext W w') := Lib.hid (fun k s hs W => ask_u k _ s (sumsS_smN hc h0 hs) (by have := hc.few; omega) c.fee hc.fee W)
  have HBE := Lib.hid (fun k => bounds_ends hc k)
  obtain ⟨i1, hi1, hz10, hz11, hz12⟩ := info_parts info_ran
  have hmk : ∀ w, (Instr.makeSlice 78 (.int .i64 (ks.length : Int)) (.int .i64 (ks.length : Int))).run Try.prog w = .ok (.slice (some ⟨w.heap.size, 0, none⟩) ks.length ks.length) (w.alloc (.cells (madeCells #[.int .i64 0, .int .i64 0] (ks.length * 2)) 44)) := fun w => by
    have h := run_make w 78 44 i1 (.agg #[.int .i64 0, .int .i64 0]) Try.underlying78 hi1 hz10 .i64 .i64 (ks.length : Int) (ks.length : Int) (by omega) (Int.le_refl _) (by rw [hz12]; omega) (by omega)
    rw [hz11, show (Value.agg #[.int .i64 0, .int .i64 0]).cells = #[.int .i64 0, .int .i64 0] from rfl] at h
    simpa using h
  obtain ⟨a1, c1, a2, c2, rfl, -, -, -, hl1, hl2⟩ := hv.open
  have HL := Lib.hid hl
  clear hv hl hi1 hz10 hz11 hz12
  unfold casV at HWK ⊢
  go_enter Try.func25, Try.ntmps25
  go_wp2_with fail
  refine (HWK.out _ (by (repeat (first | exact Ext.refl _ | (with_reducible assumption) | (with_reducible refine Ext.drew ?_) | (with_reducible refine Ext.alloc ?_ _) | (with_reducible refine Ext.drewN ?_ _) | (with_reducible refine Ext.setCell ?_ (by omega) _) | (with_reducible refine Ext.trans ?_ (by with_reducible assumption)))))).mono ?_
  rintro e w1 ⟨p, v0, v3, ro, rfl, hwc, hx1⟩
  have X0 : Ext w ((w.alloc (.cells #[.slice a1 c.tars.length c1, .int .i64 c.day, .int .i64 c.fee, .slice a2 c.flds.length c2] 31)).alloc (.cells (madeCells #[.int .i64 0, .int .i64 0] (ks.length * 2)) 44)) := by (repeat (first | exact Ext.refl _ | (with_reducible assumption) | (with_reducible refine Ext.drew ?_) | (with_reducible refine Ext.alloc ?_ _) | (with_reducible refine Ext.drewN ?_ _) | (with_reducible refine Ext.setCell ?_ (by omega) _) | (with_reducible refine Ext.trans ?_ (by with_reducible assumption))))
  have fc := hx1.keep (k := w.heap.size) (o := 2) (v := .int .i64 c.fee) (by simp [go_sem])
  have rows : ∀ j, j < ks.length * 2 → w1.cell? ⟨w.heap.size + 1, j, none⟩ = some (.int .i64 0) := fun j hj => hx1.keep (by
    have := made_two (w.alloc (.cells #[.slice a1 c.tars.length c1, .int .i64 c.day, .int .i64 c.fee, .slice a2 c.flds.length c2] 31)) ks.length j (.int .i64 0) 44 hj
    rwa [World.size_alloc] at this)
  have fr : ∀ o, w1.frozen? ⟨w.heap.size + 1, o, none⟩ = false := fun o => (hx1.frozen (k := w.heap.size + 1) (by simp)).trans (by simp [go_sem])
  have hbl : w.heap.size + 1 < w1.heap.size := Nat.lt_of_lt_of_le (by simp) hx1.size
  have hbc : ∃ cs t f, w1.heap[w.heap.size + 1]? = some (Obj.cells cs t f) := by
    refine ⟨madeCells #[.int .i64 0, .int .i64 0] (ks.length * 2), 44, (0, 0), (hx1.heap (by simp)).trans ?_⟩
    have := World.alloc_heap_new (w.alloc (.cells #[.slice a1 c.tars.length c1, .int .i64 c.day, .int .i64 c.fee, .slice a2 c.flds.length c2] 31)) (.cells (madeCells #[.int .i64 0, .int .i64 0] (ks.length * 2)) 44)
    rwa [World.size_alloc] at this
  have X1 := Lib.hid (X0.trans hx1)
  have HR := Lib.hid (And.intro fc (And.intro rows (And.intro fr (And.intro hbl hbc))))
  clear X0 hx1 fc rows fr hbl hbc HWK
  go_wp2_with fail
  refine (HSU.out p v0 v3 ro w1 hwc).mono ?_
  rintro e w2 ⟨M, rfl, hset, -, hx2⟩
  obtain ⟨oi, hrun, hit⟩ := hset.iter Try.underlying106
  have hMb : M ≠ w.heap.size + 1 := by
    rintro rfl
    obtain ⟨cs, t, f, hb⟩ := HR.out.2.2.2.2
    have hb2 := (hx2.heap HR.out.2.2.2.1).trans hb
    obtain ⟨es, clock, hr, -⟩ := hset
    rw [hb2] at hr; cases hr
  have hrb : w2.heap.size ≠ w.heap.size + 1 := by
    have := Nat.lt_of_lt_of_le HR.out.2.2.2.1 hx2.size
    omega
  have hrw : w.heap.size ≤ w2.heap.size := Nat.le_trans X1.out.size hx2.size
  have H0 : Hid (BndL w c ks (w.heap.size + 1) w2.heap.size M (.bool true) (w2.alloc oi)) := Lib.hid (by
    have X : Ext w1 (w2.alloc oi) := hx2.alloc oi
    obtain ⟨q1, q2, q3, q4, q5⟩ := HR.out
    refine ⟨true, fun _ => False, rfl, ⟨X1.out.trans X, X.keep q1, hit, fun i _ hi => absurd hi (Nat.not_lt_zero _), fun i hi _ => ⟨0, 0, X.keep (q2 _ (by omega)), X.keep (q2 _ (by omega)), fun ⟨_, h⟩ => h.elim⟩, fun o => (X.frozen q4).trans (q3 o), by omega, Nat.lt_of_lt_of_le q4 X.size⟩, fun _ _ h => h, fun h => by cases h⟩)
  clear hwc hset hx2 HR hit HSU
  go_wp2_with fail
  generalize hbo : w.heap.size + 1 = bo at *
  have HBO := Lib.hid hbo
  generalize w2.heap.size = r at *
  go_loopw [6] (fun s6 wr => Hid (BndL w c ks bo r M s6 wr)) (fun _ wr => leftN r M wr)
  case atStart => exact H0
  case round =>
    clear H0 hrun
    obtain ⟨fst, D, rfl, HI, hf1, hf2⟩ := hrel.out
    obtain ⟨wo, rfl⟩ : ∃ x, x = wr := ⟨_, rfl⟩
    have HF := Lib.hid (And.intro hf1 hf2)
    clear hrel hf1 hf2
    rcases HI.it.next (P := Try.prog) Sm.v_inj 0 with ⟨hall, hrun⟩ | ⟨s, vv, oo, w1', hw1, hs, hrun, hit, hltn, hent⟩
    · have HFN := Lib.hid (And.intro hall HI)
      clear hall HI
      go_wp2_with fail
      go_ret
      exact ⟨bo, by have := HBO.out; omega, rfl, fun j hj => HFN.out.2.done HBE.out HFN.out.1 HFN.out.2.it.subS j hj, HFN.out.2.ext⟩
    · have HN := HI.next hw1 oo hrw hit hrb
      generalize w1'.putObj r oo = W6 at *
      have H6 := Lib.hid HN
      have HLT := Lib.hid hltn
      have HQ1 : Hid (∀ k W, Calls Try.prog (fnQ k) #[s.v, .int .i64 c.fee] W fun e w' => e = .returned (.int .i64 (askQ k c.fee s)) ∧ Ext W w') := Lib.hid (fun k W => HQU.out k s hs W)
      clear HN hltn hit hw1 HI
      obtain ⟨q, hq⟩ : ∃ q, q = s.v := ⟨_, rfl⟩
      have hsv : s.v = .agg #[.int .i64 s.award, .int .i64 s.e0, .int .i64 s.e1, .int .i64 s.e2, .int .i64 s.e3] := rfl
      rw [hsv] at hrun hent HQ1
      clear hq hsv
      go_wp2_with fail
      have hbl6 : bo < W6.heap.size := H6.out.bl
      have HB0 : Hid (BndI w c ks bo r M D (fun x => D x ∨ x = s) (fun x => D x ∨ x = s) 0 (W6.alloc (.cells #[.int .i64 s.award, .int .i64 s.e0, .int .i64 s.e1, .int .i64 s.e2, .int .i64 s.e3] 58)) ∧ Cell5 (W6.alloc (.cells #[.int .i64 s.award, .int .i64 s.e0, .int .i64 s.e1, .int .i64 s.e2, .int .i64 s.e3] 58)) W6.heap.size s) :=
        Lib.hid ⟨H6.out.start.grow ((Ext.refl _).alloc _), ⟨by simp [go_sem], by simp [go_sem], by simp [go_sem], by simp [go_sem], by simp [go_sem]⟩⟩
      generalize hW7 : (W6.alloc (.cells #[.int .i64 s.award, .int .i64 s.e0, .int .i64 s.e1, .int .i64 s.e2, .int .i64 s.e3] 58)) = W7 at *
      have HLT7 : Hid (leftN r M W7 < leftN r M wo) := Lib.hid (by
        rw [← hW7, leftN_of (Below.heap_alloc _ _ _ H6.out.it.lt.1) (Below.heap_alloc _ _ _ H6.out.it.lt.2.1)]; exact HLT.out)
      clear hW7 hrun hent
      go_loopw [24] (fun s24 wr => ∃ j : Nat, j ≤ ks.length ∧ s24 = .int .i64 j ∧ Hid (BndI w c ks bo r M D (fun x => D x ∨ x = s) (fun x => D x ∨ x = s) j wr ∧ Cell5 wr W6.heap.size s ∧ leftN r M wr < leftN r M wo)) (fun t _ => ks.length - (intOf t).toNat)
      case atStart => exact ⟨0, Nat.zero_le _, rfl, Lib.hid ⟨HB0.out.1, HB0.out.2, HLT7.out⟩⟩
      case round =>
        clear HB0
        obtain ⟨j, hj, rfl, HJ⟩ := hrel
        obtain ⟨wi, rfl⟩ : ∃ x, x = wr := ⟨_, rfl⟩
        by_cases hjl : j < ks.length
        · have hd : decide ((j : Int) < (ks.length : Int)) = true := decide_eq_true (by omega)
          have hqc := HJ.out.1.ext.keep (HL.out j hjl)
          have hfq := fn_q ks[j]
          unfold FnOK at hfq
          have HQ2 := Lib.hid (HQ1.out ks[j])
          have hD' : ∀ x, ansD ks[j] c.fee (fun x => D x ∨ x = s) x ↔ (ansD ks[j] c.fee D x ∨ x = askQ ks[j] c.fee s) := ans_next _ _ D s
          have HDN := Lib.hid hD'
          have HJJ := Lib.hid (And.intro HJ.out.1 HJ.out.2.1)
          have HLL := Lib.hid HJ.out.2.2
          have d0 : ∀ A, (wi.alloc A).cell? ⟨W6.heap.size, 0, none⟩ = some (.int .i64 s.award) := fun A => ((Ext.refl wi).alloc A).keep HJ.out.2.1.c0
          have d1 : ∀ A, (wi.alloc A).cell? ⟨W6.heap.size, 1, none⟩ = some (.int .i64 s.e0) := fun A => ((Ext.refl wi).alloc A).keep HJ.out.2.1.c1
          have d2 : ∀ A, (wi.alloc A).cell? ⟨W6.heap.size, 2, none⟩ = some (.int .i64 s.e1) := fun A => ((Ext.refl wi).alloc A).keep HJ.out.2.1.c2
          have d3 : ∀ A, (wi.alloc A).cell? ⟨W6.heap.size, 3, none⟩ = some (.int .i64 s.e2) := fun A => ((Ext.refl wi).alloc A).keep HJ.out.2.1.c3
          have d4 : ∀ A, (wi.alloc A).cell? ⟨W6.heap.size, 4, none⟩ = some (.int .i64 s.e3) := fun A => ((Ext.refl wi).alloc A).keep HJ.out.2.1.c4
          have dfc : ∀ A, (wi.alloc A).cell? ⟨w.heap.size, 2, none⟩ = some (.int .i64 c.fee) := fun A => ((Ext.refl wi).alloc A).keep HJ.out.1.fc
          clear hD' HJ
          generalize hkq : fnQ ks[j] = fq at *
          generalize hnq : askQ ks[j] c.fee s = n at *
          clear hkq hnq
          go_wp2_with fail
          (refine (HQ2.out _).mono ?_)
          rintro e w3 ⟨rfl, hx3⟩
          have X3 : Ext wi w3 := by (repeat (first | exact Ext.refl _ | (with_reducible assumption) | (with_reducible refine Ext.drew ?_) | (with_reducible refine Ext.alloc ?_ _) | (with_reducible refine Ext.drewN ?_ _) | (with_reducible refine Ext.setCell ?_ (by omega) _) | (with_reducible refine Ext.trans ?_ (by with_reducible assumption))))
          have HB3 := Lib.hid (And.intro (HJJ.out.1.grow X3) (And.intro (HJJ.out.2.kc (fun _ _ hc => X3.keep hc)) (show leftN r M w3 < leftN r M wo by rw [HJJ.out.1.left X3]; exact HLL.out)))
          clear d0 d1 d2 d3 d4 dfc hx3 hqc HJJ
          go_upto_region 10 with fail
          go_cut [35] from 36 to 41 (fun s35 wx => s35 = .bool fst ∧ wx = w3)
          case first =>
            go_wp2_with fail
            go_meet
            exact ⟨rfl, rfl⟩
          case rest =>
          obtain ⟨rfl, rfl⟩ := hcut
          obtain ⟨w3, rfl⟩ : ∃ x, x = wc := ⟨_, rfl⟩
          rename_i hk
          refine hk _ _ ?_
          go_cut [] from 36 to 41 (fun wx => RowR bo j ks[j] c.fee (fun x => D x ∨ x = s) n wx ∧ BndI w c ks bo r M D (fun x => D x ∨ x = s) (fun x => D x ∨ x = s) j wx ∧ Cell5 wx W6.heap.size s ∧ leftN r M wx < leftN r M wo)
          case first =>
            obtain ⟨lo, hi, r1, r2, r3⟩ := HB3.out.1.rr j hjl (Nat.le_refl _)
            cases fst
            · have HE := Lib.hid (ends_put (r3 (HF.out.2 rfl)) HDN.out rfl rfl)
              have HC := Lib.hid (And.intro r1 r2)
              clear r1 r2 r3
              go_wp2_with fail
              go_meet
              exact ⟨⟨lo, hi, _, _, HC.out.1, HC.out.2, rfl, rfl, HE.out⟩, HB3.out⟩
            · have hno := HF.out.1 rfl
              have hfr := HB3.out.1.fr
              have HLY := Lib.hid (HB3.out.1.lay hjl n n hno hrb hMb)
              have hc := sc_ne (W := w3.setCell ⟨bo, j * 2, none⟩ (.int .i64 n)) (b := bo) (i := j * 2) (b' := bo) (i' := j * 2 + 1) (v := .int .i64 n) (.inr (by omega)) (sc_eq r1)
              have hc2 := sc_eq (v := .int .i64 n) (sc_ne (W := w3) (b := bo) (i := j * 2 + 1) (b' := bo) (i' := j * 2) (v := .int .i64 n) (.inr (by omega)) r2)
              have HC := Lib.hid (And.intro hc hc2)
              have hb6 : W6.heap.size ≠ bo := by omega
              have HCC := Lib.hid (HB3.out.2.1.two (i := j * 2) (k := j * 2 + 1) (x := .int .i64 n) (y := .int .i64 n) hb6)
              have HE : Hid (EndsOf (ansD ks[j] c.fee (fun x => D x ∨ x = s)) n n) := Lib.hid (ends_first (fun x => (HDN.out x).trans ⟨fun h => h.elim (fun ⟨t, ht, _⟩ => absurd ht (hno t)) id, Or.inr⟩))
              clear hc hc2 r3 hno
              go_wp2_with fail
              go_meet
              exact ⟨⟨n, n, n, n, HC.out.1, HC.out.2, by simp, by simp, HE.out⟩, HLY.out, HCC.out, by rw [leftN_two hrb hMb]; exact HB3.out.2.2⟩
          case rest =>
            obtain ⟨⟨lo, hi, zn, zx, r1, r2, hzn, hzx, r3⟩, HZ0⟩ := hcut
            obtain ⟨wz, rfl⟩ : ∃ x, x = wc := ⟨_, rfl⟩
            have HEN := Lib.hid r3
            have HZ := Lib.hid HZ0
            have HMN : Hid (∀ b W, W.cell? ⟨b, 0, none⟩ = some (.int .i64 lo) → W.cell? ⟨b, 1, none⟩ = some (.int .i64 n) → Calls Try.prog 37 #[.slice (some ⟨b, 0, none⟩) 2 2] W fun e w' => e = .returned (.int .i64 zn) ∧ Ext W w') := Lib.hid (fun b W q1 q2 => min2_u lo n zn hzn b W q1 q2 2 (Nat.le_refl _))
            have hmx : ∀ w, (Builtin.max_ #[3, 3] 3 #[.int .i64 hi, .int .i64 n]).run Try.prog w = .ok (.int .i64 zx) w := fun w => umax_i64 hzx _ _ _
            have q1 : ∀ A, (wz.alloc A).cell? ⟨bo, j * 2, none⟩ = some (.int .i64 lo) := fun A => ((Ext.refl wz).alloc A).keep r1
            have q2 : ∀ A, (wz.alloc A).cell? ⟨bo, j * 2 + 1, none⟩ = some (.int .i64 hi) := fun A => ((Ext.refl wz).alloc A).keep r2
            have hfr := HZ.out.1.fr
            clear hzn hzx r3 HB3 HZ0
            have HK : Hid (∀ w', Ext wz w' → (w'.cell? ⟨bo, j * 2, none⟩ = some (.int .i64 lo) ∧ w'.cell? ⟨bo, j * 2 + 1, none⟩ = some (.int .i64 hi) ∧ (∀ o, w'.frozen? ⟨bo, o, none⟩ = false)) ∧ BndI w c ks bo r M D (fun x => D x ∨ x = s) (fun x => D x ∨ x = s) j w' ∧ Cell5 w' W6.heap.size s ∧ leftN r M w' < leftN r M wo) :=
              Lib.hid (fun w' kz => ⟨⟨kz.keep r1, kz.keep r2, fun o => (kz.frozen (lt_of_cell r1)).trans (hfr o)⟩, HZ.out.1.grow kz, HZ.out.2.1.kc (fun _ _ hc => kz.keep hc), by rw [HZ.out.1.left kz]; exact HZ.out.2.2⟩)
            go_upto_region 12 with fail
            go_region_with ((go_at_call 37; (refine (HMN.out _ _ (by simp [go_sem]) (by simp [go_sem])).mono ?_); rintro e w4 ⟨rfl, hx4⟩; have kz : Ext wz w4 := (by (repeat (first | exact Ext.refl _ | (with_reducible assumption) | (with_reducible refine Ext.drew ?_) | (with_reducible refine Ext.alloc ?_ _) | (with_reducible refine Ext.drewN ?_ _) | (with_reducible refine Ext.setCell ?_ (by omega) _) | (with_reducible refine Ext.trans ?_ (by with_reducible assumption))))); have k1 := (HK.out w4 kz).1.1; have k2 := (HK.out w4 kz).1.2.1; have k3 := (HK.out w4 kz).1.2.2; have HZ4 := Lib.hid (HK.out w4 kz).2))
            all_goals
              go_wp2_with fail
              go_roundw
            all_goals first
              | exact ⟨j + 1, hjl, by go_num, Lib.hid ⟨HZ4.out.1.store hjl zn zx (fun _ => HEN.out) hrb hMb, HZ4.out.2.1.two (by omega), by rw [leftN_two hrb hMb]; exact HZ4.out.2.2⟩⟩
              | (simp [intOf]; omega)
        · have hd : decide ((j : Int) < (ks.length : Int)) = false := decide_eq_false (by omega)
          obtain rfl : j = ks.length := by omega
          go_wp2_with fail
          exact ⟨Lib.hid ⟨false, _, rfl, HJ.out.1.turn, ⟨fun h => (by cases h), fun _ => ⟨s, .inr rfl⟩⟩⟩, HJ.out.2.2⟩
end Go.Proofs.Ytedblocbcjoolaa

/- Contracts of layer 7: the bounds of the award, of the fees, of the offers. -/
namespace Go.Proofs.Ytedblocbcjoolaa
open Go.RowKit Go.Hs
attribute [local irreducible] World.setCell World.alloc

set_option maxRecDepth 100000 in
set_option maxHeartbeats 2000000 in
theorem Award_good (c : Cas) (v : Value) (w : World) (hv : CasV w v c) (h : caseE c = 0) :
    Calls Try.prog 32 #[v] w fun e w' => e = .returned (.tuple #[.agg #[.int .i64 (bLo c 0), .int .i64 (bHi c 0)], .int .i64 0]) ∧ Ext w w' := by
  have HA : Hid (∀ w', Ext w w' → Calls Try.prog 14 #[v] w' fun e w'' => e = .returned (.int .i64 0) ∧ Ext w' w'') := Lib.hid (fun w' hx => h ▸ check_u c v w' (hv.ext hx))
  have HB : Hid (∀ (lb : Nat) w', Ext w w' → w'.cell? ⟨lb, 0, none⟩ = some (.func (.func 53) #[] #[]) → Calls Try.prog 25 #[v, .slice (some ⟨lb, 0, none⟩) 1 1] w' fun e w'' => ∃ b, e = .returned (.slice (some ⟨b, 0, none⟩) 1 1) ∧ (w''.cell? ⟨b, 0, none⟩ = some (.int .i64 (bLo c 0)) ∧ w''.cell? ⟨b, 1, none⟩ = some (.int .i64 (bHi c 0))) ∧ Ext w' w'') :=
    Lib.hid (fun lb w' hx hc => (bounds_u c v (caseE_zero h) (caseE_tars h) [0] lb 0 1 (by decide) w' (hv.ext hx) (fun j hj => by
      have : j = 0 := by simpa using hj
      subst this
      exact hc)).mono (fun e w'' ⟨b, _, h1, h2, h3⟩ => ⟨b, h1, h2 0 (by decide), h3⟩))
  obtain ⟨a1, c1, a2, c2, rfl, -, -, -, hl1, hl2⟩ := hv.open
  clear hv h
  generalize bLo c 0 = lo at *
  generalize bHi c 0 = hi at *
  unfold casV at *
  go_enter Try.func32, Try.ntmps32
  go_wp2_with fail
  (with_reducible refine (HA.out _ (by (repeat (first | exact Ext.refl _ | (with_reducible assumption) | (with_reducible refine Ext.drew ?_) | (with_reducible refine Ext.alloc ?_ _) | (with_reducible refine Ext.drewN ?_ _) | (with_reducible refine Ext.setCell ?_ (by omega) _) | (with_reducible refine Ext.trans ?_ (by with_reducible assumption)))))).mono ?_)
  rintro e w1 ⟨rfl, hx1⟩
  have k0 := hx1.keep (k := w.heap.size + 1) (o := 0) (v := .int .i64 0) (by simp [go_sem])
  have k1 := hx1.keep (k := w.heap.size + 1) (o := 1) (v := .int .i64 0) (by simp [go_sem])
  have kf : ∀ o, w1.frozen? ⟨w.heap.size + 1, o, none⟩ = false := fun o => (hx1.frozen (k := w.heap.size + 1) (by simp)).trans (by simp [go_sem])
  have c0' := hx1.keep (k := w.heap.size) (o := 0) (v := .slice a1 c.tars.length c1) (by simp [go_sem])
  have c1' := hx1.keep (k := w.heap.size) (o := 1) (v := .int .i64 c.day) (by simp [go_sem])
  have c2' := hx1.keep (k := w.heap.size) (o := 2) (v := .int .i64 c.fee) (by simp [go_sem])
  have c3' := hx1.keep (k := w.heap.size) (o := 3) (v := .slice a2 c.flds.length c2) (by simp [go_sem])
  have X : Ext w w1 := by (repeat (first | exact Ext.refl _ | (with_reducible assumption) | (with_reducible refine Ext.drew ?_) | (with_reducible refine Ext.alloc ?_ _) | (with_reducible refine Ext.drewN ?_ _) | (with_reducible refine Ext.setCell ?_ (by omega) _) | (with_reducible refine Ext.trans ?_ (by with_reducible assumption))))
  clear hx1
  go_wp2_with fail
  refine (HB.out _ _ (by (repeat (first | exact Ext.refl _ | (with_reducible assumption) | (with_reducible refine Ext.drew ?_) | (with_reducible refine Ext.alloc ?_ _) | (with_reducible refine Ext.drewN ?_ _) | (with_reducible refine Ext.setCell ?_ (by omega) _) | (with_reducible refine Ext.trans ?_ (by with_reducible assumption))))) (by simp [go_sem])).mono ?_
  rintro e w2 ⟨b, rfl, ⟨r0, r1⟩, hx2⟩
  have X2 : Ext w1 w2 := by (repeat (first | exact Ext.refl _ | (with_reducible assumption) | (with_reducible refine Ext.drew ?_) | (with_reducible refine Ext.alloc ?_ _) | (with_reducible refine Ext.drewN ?_ _) | (with_reducible refine Ext.setCell ?_ (by omega) _) | (with_reducible refine Ext.trans ?_ (by with_reducible assumption))))
  have hbl := lt_of_cell k0
  have j0 := X2.keep k0
  have j1 := X2.keep k1
  have jf := fun o => (X2.frozen (k := w.heap.size + 1) (o := o) hbl).trans (kf o)
  have XX := X.trans X2
  clear hx2 k0 k1 kf c0' c1' c2' c3' X X2 HA HB
  go_wp2_with fail
  have y0 := sc_ne (W := w2.setCell ⟨w.heap.size + 1, 0, none⟩ (.int .i64 lo)) (b' := w.heap.size + 1) (i' := 1) (v := .int .i64 hi) (.inr (by omega)) (sc_eq j0)
  have y1 := sc_eq (v := .int .i64 hi) (sc_ne (b' := w.heap.size + 1) (i' := 0) (v := .int .i64 lo) (.inr (by omega)) j1)
  refine bodyPost_ret (v := .tuple #[.agg #[.int .i64 lo, .int .i64 hi], .int .i64 0]) (by simp [results, Try.results32, go_sem, y0, y1]) rfl ⟨rfl, ?_⟩
  exact (XX.setCell (by simp) _).setCell (by simp) _

end Go.Proofs.Ytedblocbcjoolaa

/- Contracts of layer 7: the bounds of the fees, of the offers. -/
namespace Go.Proofs.Ytedblocbcjoolaa
open Go.RowKit Go.Hs
attribute [local irreducible] World.setCell World.alloc

set_option maxRecDepth 100000 in
set_option maxHeartbeats 2000000 in
theorem Fees_good (c : Cas) (v : Value) (w : World) (hv : CasV w v c) (h : caseE c = 0) :
    Calls Try.prog 33 #[v] w fun e w' => e = .returned (.tuple #[.agg #[.int .i64 (bLo c 1), .int .i64 (bHi c 1)], .agg #[.int .i64 (bLo c 2), .int .i64 (bHi c 2)], .int .i64 0]) ∧ Ext w w' := by
  have HA : Hid (∀ w', Ext w w' → Calls Try.prog 14 #[v] w' fun e w'' => e = .returned (.int .i64 0) ∧ Ext w' w'') := Lib.hid (fun w' hx => h ▸ check_u c v w' (hv.ext hx))
  have HB : Hid (∀ (lb : Nat) w', Ext w w' → w'.cell? ⟨lb, 0, none⟩ = some (.func (.func 45) #[] #[]) → w'.cell? ⟨lb, 1, none⟩ = some (.func (.func 46) #[] #[]) → Calls Try.prog 25 #[v, .slice (some ⟨lb, 0, none⟩) 2 2] w' fun e w'' => ∃ b, w'.heap.size ≤ b ∧ e = .returned (.slice (some ⟨b, 0, none⟩) 2 2) ∧ ((w''.cell? ⟨b, 0, none⟩ = some (.int .i64 (bLo c 1)) ∧ w''.cell? ⟨b, 1, none⟩ = some (.int .i64 (bHi c 1))) ∧ w''.cell? ⟨b, 2, none⟩ = some (.int .i64 (bLo c 2)) ∧ w''.cell? ⟨b, 3, none⟩ = some (.int .i64 (bHi c 2))) ∧ Ext w' w'') :=
    Lib.hid (fun lb w' hx hc0 hc1 => (bounds_u c v (caseE_zero h) (caseE_tars h) [1, 2] lb 0 2 (by decide) w' (hv.ext hx) (fun j hj => by
      have : j = 0 ∨ j = 1 := by simp at hj; omega
      rcases this with rfl | rfl
      · exact hc0
      · exact hc1)).mono (fun e w'' ⟨b, h0, h1, h2, h3⟩ => ⟨b, h0, h1, ⟨h2 0 (by decide), h2 1 (by decide)⟩, h3⟩))
  obtain ⟨a1, c1, a2, c2, rfl, -, -, -, hl1, hl2⟩ := hv.open
  clear hv h
  generalize bLo c 1 = lo0 at *
  generalize bHi c 1 = hi0 at *
  generalize bLo c 2 = lo1 at *
  generalize bHi c 2 = hi1 at *
  unfold casV at *
  go_enter Try.func33, Try.ntmps33
  go_wp2_with fail
  (with_reducible refine (HA.out _ (by (repeat (first | exact Ext.refl _ | (with_reducible assumption) | (with_reducible refine Ext.drew ?_) | (with_reducible refine Ext.alloc ?_ _) | (with_reducible refine Ext.drewN ?_ _) | (with_reducible refine Ext.setCell ?_ (by omega) _) | (with_reducible refine Ext.trans ?_ (by with_reducible assumption)))))).mono ?_)
  rintro e w1 ⟨rfl, hx1⟩
  have k00 := hx1.keep (k := w.heap.size + 1) (o := 0) (v := .int .i64 0) (by simp [go_sem])
  have k01 := hx1.keep (k := w.heap.size + 1) (o := 1) (v := .int .i64 0) (by simp [go_sem])
  have k10 := hx1.keep (k := w.heap.size + 1 + 1) (o := 0) (v := .int .i64 0) (by simp [go_sem])
  have k11 := hx1.keep (k := w.heap.size + 1 + 1) (o := 1) (v := .int .i64 0) (by simp [go_sem])
  have kf0 : ∀ o, w1.frozen? ⟨w.heap.size + 1, o, none⟩ = false := fun o => (hx1.frozen (k := w.heap.size + 1) (by simp)).trans (by simp [go_sem])
  have kf1 : ∀ o, w1.frozen? ⟨w.heap.size + 1 + 1, o, none⟩ = false := fun o => (hx1.frozen (k := w.heap.size + 1 + 1) (by simp)).trans (by simp [go_sem])
  have c0' := hx1.keep (k := w.heap.size) (o := 0) (v := .slice a1 c.tars.length c1) (by simp [go_sem])
  have c1' := hx1.keep (k := w.heap.size) (o := 1) (v := .int .i64 c.day) (by simp [go_sem])
  have c2' := hx1.keep (k := w.heap.size) (o := 2) (v := .int .i64 c.fee) (by simp [go_sem])
  have c3' := hx1.keep (k := w.heap.size) (o := 3) (v := .slice a2 c.flds.length c2) (by simp [go_sem])
  have X : Ext w w1 := by (repeat (first | exact Ext.refl _ | (with_reducible assumption) | (with_reducible refine Ext.drew ?_) | (with_reducible refine Ext.alloc ?_ _) | (with_reducible refine Ext.drewN ?_ _) | (with_reducible refine Ext.setCell ?_ (by omega) _) | (with_reducible refine Ext.trans ?_ (by with_reducible assumption))))
  clear hx1
  go_wp2_with fail
  refine (HB.out _ _ (by (repeat (first | exact Ext.refl _ | (with_reducible assumption) | (with_reducible refine Ext.drew ?_) | (with_reducible refine Ext.alloc ?_ _) | (with_reducible refine Ext.drewN ?_ _) | (with_reducible refine Ext.setCell ?_ (by omega) _) | (with_reducible refine Ext.trans ?_ (by with_reducible assumption))))) (by simp [go_sem]) (by simp [go_sem])).mono ?_
  rintro e w2 ⟨b, hb0, rfl, ⟨⟨r0, r1⟩, r2, r3⟩, hx2⟩
  have X2 : Ext w1 w2 := by (repeat (first | exact Ext.refl _ | (with_reducible assumption) | (with_reducible refine Ext.drew ?_) | (with_reducible refine Ext.alloc ?_ _) | (with_reducible refine Ext.drewN ?_ _) | (with_reducible refine Ext.setCell ?_ (by omega) _) | (with_reducible refine Ext.trans ?_ (by with_reducible assumption))))
  have j00 := X2.keep k00
  have j01 := X2.keep k01
  have j10 := X2.keep k10
  have j11 := X2.keep k11
  have jf0 := fun o => (X2.frozen (k := w.heap.size + 1) (o := o) (lt_of_cell k00)).trans (kf0 o)
  have jf1 := fun o => (X2.frozen (k := w.heap.size + 1 + 1) (o := o) (lt_of_cell k10)).trans (kf1 o)
  have XX := X.trans X2
  have hb1 : w1.heap.size ≤ b := by simp at hb0; omega
  have hn1 : w.heap.size + 1 < w1.heap.size := lt_of_cell k00
  have hn2 : w.heap.size + 1 + 1 < w1.heap.size := lt_of_cell k10
  have hbn2 : b ≠ w.heap.size + 1 + 1 := by omega
  have hbn1 : b ≠ w.heap.size + 1 := by omega
  clear hx2 X X2 HA HB
  go_upto_region 5 with fail
  go_region
  go_wp2_with fail
  have y0 : ∀ u v, ((((w2.setCell ⟨w.heap.size + 1, 0, none⟩ (.int .i64 lo0)).setCell ⟨w.heap.size + 1, 1, none⟩ (.int .i64 hi0)).setCell ⟨w.heap.size + 1 + 1, 0, none⟩ u).setCell ⟨w.heap.size + 1 + 1, 1, none⟩ v).cell? ⟨w.heap.size + 1, 0, none⟩ = some (.int .i64 lo0) := fun u v => sc_ne (.inl (by omega)) (sc_ne (.inl (by omega)) (sc_ne (.inr (by omega)) (sc_eq j00)))
  have y1 : ∀ u v, ((((w2.setCell ⟨w.heap.size + 1, 0, none⟩ (.int .i64 lo0)).setCell ⟨w.heap.size + 1, 1, none⟩ (.int .i64 hi0)).setCell ⟨w.heap.size + 1 + 1, 0, none⟩ u).setCell ⟨w.heap.size + 1 + 1, 1, none⟩ v).cell? ⟨w.heap.size + 1, 1, none⟩ = some (.int .i64 hi0) := fun u v => sc_ne (.inl (by omega)) (sc_ne (.inl (by omega)) (sc_eq (sc_ne (.inr (by omega)) j01)))
  have y2 : ∀ u v, ((((w2.setCell ⟨w.heap.size + 1, 0, none⟩ u).setCell ⟨w.heap.size + 1, 1, none⟩ v).setCell ⟨w.heap.size + 1 + 1, 0, none⟩ (.int .i64 lo1)).setCell ⟨w.heap.size + 1 + 1, 1, none⟩ (.int .i64 hi1)).cell? ⟨w.heap.size + 1 + 1, 0, none⟩ = some (.int .i64 lo1) := fun u v => sc_ne (.inr (by omega)) (sc_eq (sc_ne (.inl (by omega)) (sc_ne (.inl (by omega)) j10)))
  have y3 : ∀ u v, ((((w2.setCell ⟨w.heap.size + 1, 0, none⟩ u).setCell ⟨w.heap.size + 1, 1, none⟩ v).setCell ⟨w.heap.size + 1 + 1, 0, none⟩ (.int .i64 lo1)).setCell ⟨w.heap.size + 1 + 1, 1, none⟩ (.int .i64 hi1)).cell? ⟨w.heap.size + 1 + 1, 1, none⟩ = some (.int .i64 hi1) := fun u v => sc_eq (sc_ne (.inr (by omega)) (sc_ne (.inl (by omega)) (sc_ne (.inl (by omega)) j11)))
  refine bodyPost_ret (v := .tuple #[.agg #[.int .i64 lo0, .int .i64 hi0], .agg #[.int .i64 lo1, .int .i64 hi1], .int .i64 0]) (by simp [results, Try.results33, go_sem, y0, y1, y2, y3]) rfl ⟨rfl, ?_⟩
  exact ((((XX.setCell (Nat.le_add_right _ 1) _).setCell (Nat.le_add_right _ 1) _).setCell (Nat.le_add_right _ 2) _).setCell (Nat.le_add_right _ 2) _).drew

set_option maxRecDepth 100000 in
set_option maxHeartbeats 2000000 in
theorem Offers_good (c : Cas) (v : Value) (w : World) (hv : CasV w v c) (h : caseE c = 0) :
    Calls Try.prog 13 #[v] w fun e w' => e = .returned (.tuple #[.agg #[.int .i64 (bLo c 3), .int .i64 (bHi c 4)], .int .i64 0]) ∧ Ext w w' := by
  have HA : Hid (∀ w', Ext w w' → Calls Try.prog 14 #[v] w' fun e w'' => e = .returned (.int .i64 0) ∧ Ext w' w'') := Lib.hid (fun w' hx => h ▸ check_u c v w' (hv.ext hx))
  have HB : Hid (∀ (lb : Nat) w', Ext w w' → w'.cell? ⟨lb, 0, none⟩ = some (.func (.func 26) #[] #[]) → w'.cell? ⟨lb, 1, none⟩ = some (.func (.func 27) #[] #[]) → Calls Try.prog 25 #[v, .slice (some ⟨lb, 0, none⟩) 2 2] w' fun e w'' => ∃ b, w'.heap.size ≤ b ∧ e = .returned (.slice (some ⟨b, 0, none⟩) 2 2) ∧ ((w''.cell? ⟨b, 0, none⟩ = some (.int .i64 (bLo c 3)) ∧ w''.cell? ⟨b, 1, none⟩ = some (.int .i64 (bHi c 3))) ∧ w''.cell? ⟨b, 2, none⟩ = some (.int .i64 (bLo c 4)) ∧ w''.cell? ⟨b, 3, none⟩ = some (.int .i64 (bHi c 4))) ∧ Ext w' w'') :=
    Lib.hid (fun lb w' hx hc0 hc1 => (bounds_u c v (caseE_zero h) (caseE_tars h) [3, 4] lb 0 2 (by decide) w' (hv.ext hx) (fun j hj => by
      have : j = 0 ∨ j = 1 := by simp at hj; omega
      rcases this with rfl | rfl
      · exact hc0
      · exact hc1)).mono (fun e w'' ⟨b, h0, h1, h2, h3⟩ => ⟨b, h0, h1, ⟨h2 0 (by decide), h2 1 (by decide)⟩, h3⟩))
  obtain ⟨a1, c1, a2, c2, rfl, -, -, -, hl1, hl2⟩ := hv.open
  clear hv h
  generalize bLo c 3 = lo0 at *
  generalize bHi c 3 = hi0 at *
  generalize bLo c 4 = lo1 at *
  generalize bHi c 4 = hi1 at *
  unfold casV at *
  go_enter Try.func13, Try.ntmps13
  go_wp2_with fail
  (with_reducible refine (HA.out _ (by (repeat (first | exact Ext.refl _ | (with_reducible assumption) | (with_reducible refine Ext.drew ?_) | (with_reducible refine Ext.alloc ?_ _) | (with_reducible refine Ext.drewN ?_ _) | (with_reducible refine Ext.setCell ?_ (by omega) _) | (with_reducible refine Ext.trans ?_ (by with_reducible assumption)))))).mono ?_)
  rintro e w1 ⟨rfl, hx1⟩
  have k00 := hx1.keep (k := w.heap.size + 1) (o := 0) (v := .int .i64 0) (by simp [go_sem])
  have k01 := hx1.keep (k := w.heap.size + 1) (o := 1) (v := .int .i64 0) (by simp [go_sem])
  have kf0 : ∀ o, w1.frozen? ⟨w.heap.size + 1, o, none⟩ = false := fun o => (hx1.frozen (k := w.heap.size + 1) (by simp)).trans (by simp [go_sem])
  have c0' := hx1.keep (k := w.heap.size) (o := 0) (v := .slice a1 c.tars.length c1) (by simp [go_sem])
  have c1' := hx1.keep (k := w.heap.size) (o := 1) (v := .int .i64 c.day) (by simp [go_sem])
  have c2' := hx1.keep (k := w.heap.size) (o := 2) (v := .int .i64 c.fee) (by simp [go_sem])
  have c3' := hx1.keep (k := w.heap.size) (o := 3) (v := .slice a2 c.flds.length c2) (by simp [go_sem])
  have X : Ext w w1 := by (repeat (first | exact Ext.refl _ | (with_reducible assumption) | (with_reducible refine Ext.drew ?_) | (with_reducible refine Ext.alloc ?_ _) | (with_reducible refine Ext.drewN ?_ _) | (with_reducible refine Ext.setCell ?_ (by omega) _) | (with_reducible refine Ext.trans ?_ (by with_reducible assumption))))
  clear hx1
  go_wp2_with fail
  refine (HB.out _ _ (by (repeat (first | exact Ext.refl _ | (with_reducible assumption) | (with_reducible refine Ext.drew ?_) | (with_reducible refine Ext.alloc ?_ _) | (with_reducible refine Ext.drewN ?_ _) | (with_reducible refine Ext.setCell ?_ (by omega) _) | (with_reducible refine Ext.trans ?_ (by with_reducible assumption))))) (by simp [go_sem]) (by simp [go_sem])).mono ?_
  rintro e w2 ⟨b, hb0, rfl, ⟨⟨r0, r1⟩, r2, r3⟩, hx2⟩
  have X2 : Ext w1 w2 := by (repeat (first | exact Ext.refl _ | (with_reducible assumption) | (with_reducible refine Ext.drew ?_) | (with_reducible refine Ext.alloc ?_ _) | (with_reducible refine Ext.drewN ?_ _) | (with_reducible refine Ext.setCell ?_ (by omega) _) | (with_reducible refine Ext.trans ?_ (by with_reducible assumption))))
  have j00 := X2.keep k00
  have j01 := X2.keep k01
  have jf0 := fun o => (X2.frozen (k := w.heap.size + 1) (o := o) (lt_of_cell k00)).trans (kf0 o)
  have XX := X.trans X2
  have hb1 : w1.heap.size ≤ b := by simp at hb0; omega
  have hn1 : w.heap.size + 1 < w1.heap.size := lt_of_cell k00
  have hbn1 : b ≠ w.heap.size + 1 := by omega
  clear hx2 X X2 HA HB
  go_upto_region 5 with fail
  go_region
  go_wp2_with fail
  have y0 : ∀ v, ((w2.setCell ⟨w.heap.size + 1, 0, none⟩ (.int .i64 lo0)).setCell ⟨w.heap.size + 1, 1, none⟩ v).cell? ⟨w.heap.size + 1, 0, none⟩ = some (.int .i64 lo0) := fun v => sc_ne (.inr (by omega)) (sc_eq j00)
  have y1 : ∀ u, ((w2.setCell ⟨w.heap.size + 1, 0, none⟩ u).setCell ⟨w.heap.size + 1, 1, none⟩ (.int .i64 hi1)).cell? ⟨w.heap.size + 1, 1, none⟩ = some (.int .i64 hi1) := fun u => sc_eq (sc_ne (.inr (by omega)) j01)
  refine bodyPost_ret (v := .tuple #[.agg #[.int .i64 lo0, .int .i64 hi1], .int .i64 0]) (by simp [results, Try.results13, go_sem, y0, y1]) rfl ⟨rfl, ?_⟩
  exact ((XX.setCell (Nat.le_add_right _ 1) _).setCell (Nat.le_add_right _ 1) _).drew
end Go.Proofs.Ytedblocbcjoolaa
