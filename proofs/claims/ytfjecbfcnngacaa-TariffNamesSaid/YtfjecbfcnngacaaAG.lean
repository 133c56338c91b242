/- The tariffs copied: what 'Tariffs' returns. -/
import Derived.Test.YtfjecbfcnngacaaAF
import Derived.Test.YtfjecbfcnngacaaO
import Derived.Test.YtfjecbfcnngacaaH
import Derived.Deep.CutRange
namespace Go.Hs
open Go.RowKit
abbrev V6.cs (u : V6) : List Value := [u.c0, u.c1, u.c2, u.c3, u.c4, u.c5]
theorem flat_len (us : List V6) : (us.flatMap V6.cs).length = us.length * 6 := by
  induction us with
  | nil => rfl
  | cons u r ih => simp [ih]; omega
theorem flat_get (us : List V6) (i : Nat) (h : i < us.length) : (us.flatMap V6.cs)[i * 6]? = some us[i].c0 ∧ (us.flatMap V6.cs)[i * 6 + 1]? = some us[i].c1 ∧ (us.flatMap V6.cs)[i * 6 + 2]? = some us[i].c2 ∧
    (us.flatMap V6.cs)[i * 6 + 3]? = some us[i].c3 ∧ (us.flatMap V6.cs)[i * 6 + 4]? = some us[i].c4 ∧ (us.flatMap V6.cs)[i * 6 + 5]? = some us[i].c5 := by
  induction us generalizing i with
  | nil => simp at h
  | cons u r ih =>
    cases i with
    | zero => simp
    | succ i =>
      have := ih i (by simpa using h)
      have e0 : (i + 1) * 6 = i * 6 + 6 := by omega
      simp only [e0, List.flatMap_cons, List.cons_append, List.nil_append, List.getElem?_cons_succ, List.getElem_cons_succ]
      exact this
theorem cell_six_new (w : World) (u : V6) (t : TypeId) : ∀ j x, u.cs[j]? = some x → (w.alloc (.cells #[u.c0, u.c1, u.c2, u.c3, u.c4, u.c5] t)).cell? ((⟨w.heap.size, 0, none⟩ : Addr).add j) = some x := by
  intro j x hj
  rcases j with _ | _ | _ | _ | _ | _ | j
  all_goals first
    | (simp at hj; subst hj; simp [Addr.add])
    | (simp at hj)

/-- A list that is being built, six cells an element. -/
def Build6 {α : Type} (S : World → V6 → α → Prop) (p : Nat → Bool) (B e : Nat) (w : World) (v : Value) (xs : List α) : Prop :=
  ∃ us : List V6, us.length = xs.length ∧ w.ownsRow B e 6 v xs.length (us.flatMap V6.cs) ∧ (∀ k, v.ownBlock = some k → p k = false) ∧ ∀ i (h1 : i < us.length) (h2 : i < xs.length), S (mask (cov p v) w) us[i] xs[i]
section
variable {α : Type} {S : World → V6 → α → Prop} (hS : ∀ {w w' : World} {v : V6} {x : α}, KC w w' → S w v x → S w' v x) {p : Nat → Bool} {B e : Nat}
theorem Build6.nil (w : World) : Build6 S p B e w (.slice none 0 0) [] := ⟨[], rfl, World.ownsRow_nil _ _ _ _, fun _ h => by simp [Value.ownBlock] at h, fun i h => absurd h (Nat.not_lt_zero _)⟩
include hS in
theorem Build6.keep {w w' : World} {v : Value} {xs : List α} (h : Build6 S p B e w v xs) (hk : ∀ k, k < w.heap.size → p k = false → w'.heap[k]? = w.heap[k]?) : Build6 S p B e w' v xs := by
  obtain ⟨us, hl, ho, hp, hs⟩ := h
  refine ⟨us, hl, own_keep ho (fun g hg => hk g (own_lt ho hg).2 (hp g hg)), hp, fun i h1 h2 => hS (mask_kc (fun _ _ h => h) (fun k hk' hc => hk k hk' (cov_no.1 hc).1)) (hs i h1 h2)⟩
include hS in
theorem Build6.next {w w' : World} {v v' : Value} {u : V6} {xs : List α} {y : α} {us : List V6} (hl : us.length = xs.length) (hp : ∀ k, v.ownBlock = some k → p k = false)
    (hs : ∀ i (h1 : i < us.length) (h2 : i < xs.length), S (mask (cov p v) w) us[i] xs[i]) (hu : S (mask (cov p v) w) u y) (ho : w'.ownsRow B e 6 v' (xs.length + 1) (us.flatMap V6.cs ++ u.cs)) (hg : w.grownBy w' v.ownBlock)
    (hat : v'.ownBlock = v.ownBlock ∨ v'.ownBlock = some w.heap.size) (hpw : p w.heap.size = false) : Build6 S p B e w' v' (xs ++ [y]) := by
  have hkc : KC (mask (cov p v) w) (mask (cov p v') w') := by
    refine mask_kc (fun k hk hc => ?_) (fun k hk hc => hg.block k hk (fun e => (cov_no.1 hc).2 e.symm))
    obtain ⟨h1, h2⟩ := cov_no.1 hc
    refine cov_no.2 ⟨h1, ?_⟩
    rcases hat with h | h
    · rw [h]; exact h2
    · rw [h]; intro e; cases e; omega
  refine ⟨us ++ [u], by simp [hl], ?_, fun k hk => ?_, fun i h1 h2 => ?_⟩
  · have e : (us ++ [u]).flatMap V6.cs = us.flatMap V6.cs ++ u.cs := by simp
    rw [e]; simpa using ho
  · rcases hat with h | h
    · exact hp k (h ▸ hk)
    · rw [h] at hk; cases hk; exact hpw
  · by_cases hi : i < us.length
    · rw [List.getElem_append_left hi, List.getElem_append_left (by omega)]
      exact hS hkc (hs i hi (by omega))
    · have e1 : i = us.length := by simp at h1; omega
      subst e1
      have e2 : (us ++ [u])[us.length] = u := by simp
      have e3 : (xs ++ [y])[us.length] = y := by simp [hl]
      rw [e2, e3]
      exact hS hkc hu
theorem TarU.kc {w w' : World} {u : V6} {t : Tar} (h : KC w w') (k : TarU w u t) : TarU w' u t := ⟨k.1, k.2.1, k.2.2.1, k.2.2.2.kc h⟩
theorem Build6.tars {w : World} {v : Value} {xs : List Tar} (h : Build6 TarU p B e w v xs) (hlen : xs.length ≤ 1000) : TarsV (mask p w) v xs := by
  obtain ⟨us, hl, ho, hp, hs⟩ := h
  rcases own_open ho with ⟨rfl, h0⟩ | ⟨g, cap, rfl, -, hg, hn, hc⟩
  · have e : xs = [] := List.eq_nil_of_length_eq_zero h0
    subst e
    exact ⟨none, 0, rfl, Nat.le_refl _, by simp, fun i h => absurd h (Nat.not_lt_zero _)⟩
  · refine ⟨_, cap, rfl, hn, by omega, fun i hi => ⟨g, 0, rfl, ?_⟩⟩
    have hi' : i < us.length := by omega
    obtain ⟨g0, g1, g2, g3, g4, g5⟩ := flat_get us i hi'
    obtain ⟨t0, t1, t2, t3⟩ := TarU.kc (mask_kc (q := p) (w' := w) (fun k _ hc => (cov_no.1 hc).1) (fun _ _ _ => rfl)) (hs i hi' hi)
    have hm : ∀ o x, w.cell? ⟨g, o, none⟩ = some x → (mask p w).cell? ⟨g, o, none⟩ = some x := fun o x hx => by rw [mask_cell, hp g rfl]; exact hx
    rw [t0] at g0
    rw [t1] at g1
    rw [t2] at g2
    simp only [Nat.zero_add]
    exact ⟨_, _, _, hm _ _ (hc _ _ g0), hm _ _ (hc _ _ g1), hm _ _ (hc _ _ g2), hm _ _ (hc _ _ g3), hm _ _ (hc _ _ g4), hm _ _ (hc _ _ g5), t3⟩
end
end Go.Hs
namespace Go.Proofs.Ytfjecbfcnngacaa
open Go.RowKit Go.Hs
attribute [local irreducible] World.setCell World.alloc

theorem info_ints : (Try.prog.info? 59).map (fun i => (i.zero, i.size, i.bytes)) = some (some (.slice none 0 0), 1, 24) := by kernel_rfl
theorem info_ints2 : (Try.prog.info? 66).map (fun i => (i.zero, i.size, i.bytes)) = some (some (.slice none 0 0), 1, 24) := by kernel_rfl
theorem info_tar : (Try.prog.info? 96).map (fun i => (i.zero, i.size, i.bytes)) = some (some (.agg #[.int .i64 0, .bool false, .int .i64 0, .slice none 0 0, .slice none 0 0, .slice none 0 0]), 6, 96) := by kernel_rfl

/-- The blocks that lay before a round, and the box of its tariff. -/
def pit (w : World) (T : Nat) : Nat → Bool := fun k => decide (k < w.heap.size) || (T == k)
theorem pit_no {w : World} {T k : Nat} : pit w T k = false ↔ w.heap.size ≤ k ∧ T ≠ k := by simp [pit]

/-- A tariff that is being copied: its box, without its rates. -/
structure Box (W : World) (T : Nat) (c3 c4 : Value) (t : Tar) (w : World) : Prop where
  t0 : w.cell? ⟨T, 0, none⟩ = some (.int .i64 t.start)
  t1 : w.cell? ⟨T, 1, none⟩ = some (.bool t.whole)
  t2 : w.cell? ⟨T, 2, none⟩ = some (.int .i64 t.least)
  t3 : w.cell? ⟨T, 3, none⟩ = some c3
  t4 : w.cell? ⟨T, 4, none⟩ = some c4
  frozen : ∀ o, w.frozen? ⟨T, o, none⟩ = false
  weeks : IntsV (mask (pit W T) w) c3 t.weeks
  counts : IntsV (mask (pit W T) w) c4 t.counts
  ge : W.heap.size ≤ T
  ext : Ext W w

theorem fresh_pit {W Wa wa w3 : World} {T : Nat} {x : Value} {xs : List Int} (h : IntsV (mask (oldB Wa) wa) x xs) (hW : W.heap.size ≤ Wa.heap.size) (hT : T < Wa.heap.size ∨ wa.heap.size ≤ T) (hx : Ext wa w3) : IntsV (mask (pit W T) w3) x xs :=
  h.kc (hx.mask (fun k hk hc => by rw [oldB_lt] at hc; rw [pit_no]; omega))

/-- The box with its empty rates. -/
def Boxed (W : World) (T : Nat) (t : Tar) (w : World) : Prop := ∃ x3 x4, Box W T x3 x4 t w ∧ w.cell? ⟨T, 5, none⟩ = some (.slice none 0 0) ∧ T < w.heap.size

theorem boxed_set {W w3 : World} {T : Nat} {t : Tar} {x3 x4 : Value} {z : V6} (hz : Cell6 w3 T 0 z) (hf : ∀ o, w3.frozen? ⟨T, o, none⟩ = false) (hx : Ext W w3) (hT : W.heap.size ≤ T)
    (i3 : IntsV (mask (pit W T) w3) x3 t.weeks) (i4 : IntsV (mask (pit W T) w3) x4 t.counts) : Boxed W T t (World.set6 w3 T ⟨.int .i64 t.start, .bool t.whole, .int .i64 t.least, x3, x4, .slice none 0 0⟩) := by
  have hlt : T < w3.heap.size := lt_of_cell hz.1
  obtain ⟨c0, c1, c2, c3, c4, c5⟩ := set6_cell (u := ⟨.int .i64 t.start, .bool t.whole, .int .i64 t.least, x3, x4, .slice none 0 0⟩) hz
  simp only [Nat.zero_add] at c0 c1 c2 c3 c4 c5
  have hk : KC (mask (pit W T) w3) (mask (pit W T) (World.set6 w3 T ⟨.int .i64 t.start, .bool t.whole, .int .i64 t.least, x3, x4, .slice none 0 0⟩)) :=
    mask_kc (fun _ _ h => h) (fun k _ hc => set6_block _ _ _ _ (fun e => (pit_no.1 hc).2 e.symm))
  exact ⟨x3, x4, ⟨c0, c1, c2, c3, c4, fun o => by rw [set6_frozen]; exact hf o, i3.kc hk, i4.kc hk, hT, hx.set6 hT _⟩, c5, lt_of_cell c0⟩

theorem boxed_new {W w3 : World} {t : Tar} {x3 x4 : Value} (T : TypeId) (hx : Ext W w3)
    (i3 : IntsV (mask (pit W w3.heap.size) w3) x3 t.weeks) (i4 : IntsV (mask (pit W w3.heap.size) w3) x4 t.counts) : Boxed W w3.heap.size t (w3.alloc (.cells #[.int .i64 t.start, .bool t.whole, .int .i64 t.least, x3, x4, .slice none 0 0] T)) := by
  have hk : KC (mask (pit W w3.heap.size) w3) (mask (pit W w3.heap.size) (w3.alloc (.cells #[.int .i64 t.start, .bool t.whole, .int .i64 t.least, x3, x4, .slice none 0 0] T))) := ((Ext.refl w3).alloc _).mask (fun _ _ h => h)
  exact ⟨x3, x4, ⟨by simp, by simp, by simp, by simp, by simp, fun o => by simp, i3.kc hk, i4.kc hk, hx.size, hx.alloc _⟩, by simp, by simp⟩

/-- The six cells of the box. -/
abbrev boxV (t : Tar) (x3 x4 v2 : Value) : V6 := ⟨.int .i64 t.start, .bool t.whole, .int .i64 t.least, x3, x4, v2⟩
structure RatesI (wr wc : World) (T e : Nat) (t : Tar) (x3 x4 v2 : Value) (c : Nat) (w : World) : Prop where
  cells : Cell6 w T 0 (boxV t x3 x4 v2)
  frozen : ∀ o, w.frozen? ⟨T, o, none⟩ = false
  build : Build1 Ints2V (pit wr T) wc.heap.size e w v2 (t.rates.take c)
  but : ExtBut T wc w

theorem RatesI.start {wr wc : World} {T e : Nat} {t : Tar} {x3 x4 : Value} (h : Box wr T x3 x4 t wc) (h5 : wc.cell? ⟨T, 5, none⟩ = some (.slice none 0 0)) : RatesI wr wc T e t x3 x4 (.slice none 0 0) 0 wc :=
  ⟨by refine ⟨?_, ?_, ?_, ?_, ?_, ?_⟩ <;> simp only [Nat.zero_add] <;> first | exact h.t0 | exact h.t1 | exact h.t2 | exact h.t3 | exact h.t4 | exact h5, h.frozen, Build1.nil _, ExtBut.refl _ _⟩

theorem RatesI.next {wr wc wq wz w3 : World} {T e c : Nat} {t : Tar} {x3 x4 v2 v7 v' : Value} {o : Obj} {us : List Value} (hq : RatesI wr wc T e t x3 x4 v2 c wq) (hc : c < t.rates.length) (hTc : T < wc.heap.size) (hrc : wr.heap.size ≤ wc.heap.size)
    (hl : us.length = (t.rates.take c).length) (hp : ∀ k, v2.ownBlock = some k → pit wr T k = false) (hB : ∀ k, v2.ownBlock = some k → wc.heap.size ≤ k ∧ k < wq.heap.size)
    (hs : ∀ i (h1 : i < us.length) (h2 : i < (t.rates.take c).length), Ints2V (mask (cov (pit wr T) v2) wq) us[i] (t.rates.take c)[i]) (hz : Ext wq wz)
    (h7 : Ints2V (mask (oldB wq) wz) v7 (t.rates.getD c [])) (hown : w3.ownsRow wc.heap.size e 1 v' ((t.rates.take c).length + 1) (us ++ [v7])) (hg : (wz.alloc o).grownBy w3 v2.ownBlock)
    (hat : v'.ownBlock = v2.ownBlock ∨ v'.ownBlock = some (wz.alloc o).heap.size) : RatesI wr wc T e t x3 x4 v' (c + 1) (w3.setCell ⟨T, 5, none⟩ v') := by
  have hx : Ext wq (wz.alloc o) := hz.alloc o
  have hq1 : wq.heap.size ≤ wz.heap.size := hz.size
  have hq2 : wc.heap.size ≤ wq.heap.size := hq.but.size
  have hal : (wz.alloc o).heap.size = wz.heap.size + 1 := by simp
  have hsub : KC (mask (oldB wq) wz) (mask (cov (pit wr T) v2) (wz.alloc o)) := ((Ext.refl wz).alloc o).mask (fun k hk hc => by
    rw [oldB_lt] at hc
    rw [cov_no, pit_no]
    refine ⟨⟨by omega, by omega⟩, fun e => ?_⟩
    have := (hB k e).2; omega)
  have b1 : Build1 Ints2V (pit wr T) wc.heap.size e w3 v' (t.rates.take c ++ [t.rates.getD c []]) :=
    Build1.next (S := Ints2V) (fun h k => Ints2V.kc h k) (w := wz.alloc o) hl hp (fun i g1 g2 => (hs i g1 g2).kc (hx.mask (fun _ _ h => h))) (h7.kc hsub) hown hg hat (by rw [pit_no]; omega)
  have e1 : t.rates.take c ++ [t.rates.getD c []] = t.rates.take (c + 1) := by
    rw [List.take_succ_eq_append_getElem hc]; simp [hc]
  rw [e1] at b1
  have hTo : some T ≠ v2.ownBlock := fun e => by
    have := hp T e.symm
    rw [pit_no] at this; exact this.2 rfl
  have hTk : ∀ o' v, wq.cell? ⟨T, o', none⟩ = some v → w3.cell? ⟨T, o', none⟩ = some v := fun o' v h => hg.cell (hx.keep h) hTo
  obtain ⟨c0, c1, c2, c3, c4, c5⟩ := hq.cells
  simp only [Nat.zero_add] at c0 c1 c2 c3 c4 c5
  have n : ∀ i j : Nat, i ≠ j → (⟨T, i, none⟩ : Addr) ≠ ⟨T, j, none⟩ := fun i j hij e => hij (by cases e; rfl)
  have hb : ∀ k, k ≠ T → (w3.setCell ⟨T, 5, none⟩ v').heap[k]? = w3.heap[k]? := fun k hk => Below.heap_setCell _ _ _ _ hk
  have hTq : T < wq.heap.size := by omega
  refine ⟨?_, fun o' => ?_, ?_, ?_⟩
  · refine ⟨?_, ?_, ?_, ?_, ?_, ?_⟩
    all_goals simp only [Nat.zero_add]
    · rw [World.cell?_setCell_other (h := n _ _ (by decide))]; exact hTk _ _ c0
    · rw [World.cell?_setCell_other (h := n _ _ (by decide))]; exact hTk _ _ c1
    · rw [World.cell?_setCell_other (h := n _ _ (by decide))]; exact hTk _ _ c2
    · rw [World.cell?_setCell_other (h := n _ _ (by decide))]; exact hTk _ _ c3
    · rw [World.cell?_setCell_other (h := n _ _ (by decide))]; exact hTk _ _ c4
    · rw [World.cell?_setCell_same (h := hTk _ _ c5)]
  · rw [World.frozen?_setCell, World.frozen?_of_block (w := wz.alloc o) (hg.block T (by simp; omega) hTo), hx.frozen hTq]
    exact hq.frozen o'
  · exact Build1.keep (S := Ints2V) (fun h k => Ints2V.kc h k) b1 (fun k _ hp => hb k (fun e => (pit_no.1 hp).2 e.symm))
  · have E : Below 0 w3 (w3.setCell ⟨T, 5, none⟩ v') := Below.setCell (Below.refl 0 w3) (Nat.zero_le _) v'
    refine ⟨E.os.trans (hg.os.trans (hx.os.trans hq.but.os)), E.tape.trans (hg.tape.trans (hx.tape.trans hq.but.tape)), E.output.trans (hg.output.trans (hx.output.trans hq.but.output)), Nat.le_trans hq2 (Nat.le_trans hx.size (Nat.le_trans hg.size E.size)), ?_⟩
    intro k hk hkT
    rw [hb k hkT]
    have ho : some k ≠ v2.ownBlock := fun e => by
      have := (hB k e.symm).1; omega
    exact (hg.block k (by omega) ho).trans ((hx.heap (by omega)).trans (hq.but.block k hk hkT))

set_option maxRecDepth 100000 in
set_option maxHeartbeats 2000000 in
theorem Tariffs_new (v : Value) (l : List Tar) (w : World) (hv : TarsV w v l) (ht : thinB l = true) :
    Calls Try.prog 21 #[v] w fun e w' => ∃ v', e = .returned v' ∧ TarsV (mask (oldB w) w') v' l ∧ Ext w w' := by
  obtain ⟨a, c, rfl, h1, h2, hr⟩ := hv
  obtain ⟨i1, hi1, hz10, hz11, hz12⟩ := info_parts info_ints
  obtain ⟨i2, hi2, hz20, hz21, hz22⟩ := info_parts info_ints2
  obtain ⟨i3, hi3, hz30, hz31, hz32⟩ := info_parts info_tar
  have HR := Lib.hid hr
  clear hr
  have HT : Hid (l.length ≤ 5 ∧ ∀ i, i < l.length → thinT (l.getD i default) = true) := by
    refine Lib.hid ?_
    simpa only [thinB, Bool.and_eq_true, decide_eq_true_eq, allB_iff] using ht
  clear ht
  go_enter Try.func21, Try.ntmps21
  go_wp2_with fail
  go_loopw [3, 4, 5, 6, 7, 8] (fun s3 s4 _ _ _ _ wr => ∃ k : Nat, k ≤ l.length ∧ s4 = .int .i64 k ∧ Hid (Build6 TarU (oldB w) w.heap.size 96 wr s3 (l.take k)) ∧ Ext w wr) (fun _ i _ _ _ _ _ => l.length - (intOf i).toNat)
  case atStart => exact ⟨0, Nat.zero_le _, rfl, Build6.nil _, Ext.refl _⟩
  case round =>
    obtain ⟨k, hk, rfl, HB, hx⟩ := hrel
    obtain ⟨wo, rfl⟩ : ∃ x, x = wr := ⟨_, rfl⟩
    by_cases hlt : k < l.length
    · obtain ⟨b, off, rfl, hta⟩ := HR.out k hlt
      have htt := HT.out.2 k hlt
      have e1 : l.getD k default = l[k] := by simp [hlt]
      rw [e1] at htt
      clear e1
      generalize het : l[k] = t at *
      have HE := Lib.hid het
      clear het
      have htar := TarAt.open (hta.ext hx)
      obtain ⟨a3, k3, a4, k4, a5, k5, m0, m1, m2, m3, m4, m5, mc⟩ := htar
      clear hta
      have hth : t.weeks.length ≤ 7 ∧ t.counts.length ≤ 7 ∧ t.rates.length ≤ 5 ∧ ∀ c, c < t.rates.length → thinC (t.rates.getD c []) = true := by
        simp only [thinT, Bool.and_eq_true, decide_eq_true_eq, allB_iff] at htt
        exact ⟨htt.1.1.1, htt.1.1.2, htt.1.2, htt.2⟩
      clear htt
      have HW : Hid (∀ W', Ext wo W' → Calls Try.prog 63 #[.slice a3 t.weeks.length k3] W' fun e w' => ∃ a c, e = .returned (.slice a t.weeks.length c) ∧ IntsV (mask (oldB W') w') (.slice a t.weeks.length c) t.weeks ∧ Ext W' w') :=
        fun W' hx => list_any _ _ W' (mc.weeks.ext hx) hth.1
      have HC : Hid (∀ W', Ext wo W' → Calls Try.prog 63 #[.slice a4 t.counts.length k4] W' fun e w' => ∃ a c, e = .returned (.slice a t.counts.length c) ∧ IntsV (mask (oldB W') w') (.slice a t.counts.length c) t.counts ∧ Ext W' w') :=
        fun W' hx => list_any _ _ W' (mc.counts.ext hx) hth.2.1
      have HTH := Lib.hid hth.2.2
      have HRT := Lib.hid mc.rates
      have HFL := Lib.hid (And.intro mc.f mc.l)
      clear hth mc
      generalize t.weeks.length = nw at *
      generalize t.counts.length = nc at *
      go_wp2_with fail
      go_upto_region 5 with fail
      go_cut [5] from 9 to 90 (fun s5 wx => ∃ T, s5 = .pointer (some ⟨T, 0, none⟩) ∧ Boxed wo T t wx)
      case first =>
        have HS : Hid (∀ w', Ext wo w' → (w'.cell? ⟨b, off + k * 6, none⟩ = some (.int .i64 t.start) ∧ w'.cell? ⟨b, off + k * 6 + 1, none⟩ = some (.bool t.whole) ∧ w'.cell? ⟨b, off + k * 6 + 2, none⟩ = some (.int .i64 t.least) ∧ w'.cell? ⟨b, off + k * 6 + 3, none⟩ = some (.slice a3 nw k3) ∧ w'.cell? ⟨b, off + k * 6 + 4, none⟩ = some (.slice a4 nc k4)) ∧ Ext wo w') :=
          fun w' hx => ⟨⟨hx.keep m0, hx.keep m1, hx.keep m2, hx.keep m3, hx.keep m4⟩, hx⟩
        go_region_held3 (fun w' => (w'.cell? ⟨b, off + k * 6, none⟩ = some (.int .i64 t.start) ∧ w'.cell? ⟨b, off + k * 6 + 1, none⟩ = some (.bool t.whole) ∧ w'.cell? ⟨b, off + k * 6 + 2, none⟩ = some (.int .i64 t.least) ∧ w'.cell? ⟨b, off + k * 6 + 3, none⟩ = some (.slice a3 nw k3) ∧ w'.cell? ⟨b, off + k * 6 + 4, none⟩ = some (.slice a4 nc k4)) ∧ Ext wo w')
          ((refine HS.out _ ?_; (repeat (first | exact Ext.refl _ | (with_reducible assumption) | (with_reducible refine Ext.drew ?_) | (with_reducible refine Ext.alloc ?_ _) | (with_reducible refine Ext.drewN ?_ _) | (with_reducible refine Ext.setCell ?_ (by omega) _) | (with_reducible refine Ext.trans ?_ (by with_reducible assumption))))))
          (first
            | (go_at_call 63; (with_reducible refine (HW.out wo.drew ((Ext.refl wo).drew)).mono ?_); rintro e w2 ⟨x3, q3, rfl, hw2, hx2⟩; have S2 : wo.heap.size ≤ w2.heap.size := hx2.size)
            | (go_at_call 63; (refine (HW.out _ (by (repeat (first | exact Ext.refl _ | (with_reducible assumption) | (with_reducible refine Ext.drew ?_) | (with_reducible refine Ext.alloc ?_ _) | (with_reducible refine Ext.drewN ?_ _) | (with_reducible refine Ext.setCell ?_ (by omega) _) | (with_reducible refine Ext.trans ?_ (by with_reducible assumption)))))).mono ?_); rintro e w2 ⟨x3, q3, rfl, hw2, hx2⟩; have Z : Cell6 w2 (wo.heap.size) 0 ⟨.int .i64 0, .bool false, .int .i64 0, .slice none 0 0, .slice none 0 0, .slice none 0 0⟩ := Cell6.ext hx2 _ _ _ (by simp [Cell6]); have FR : ∀ o, w2.frozen? ⟨wo.heap.size, o, none⟩ = false := fun o => (hx2.frozen (by simp)).trans (by simp); have ZZ := Lib.hid Z; obtain ⟨z0, z1, z2, z3, z4, z5⟩ := Z; simp only [Nat.zero_add] at z0 z1 z2 z3 z4 z5)
            | (go_at_call 63; (refine (HC.out _ (by (repeat (first | exact Ext.refl _ | (with_reducible assumption) | (with_reducible refine Ext.drew ?_) | (with_reducible refine Ext.alloc ?_ _) | (with_reducible refine Ext.drewN ?_ _) | (with_reducible refine Ext.setCell ?_ (by omega) _) | (with_reducible refine Ext.trans ?_ (by with_reducible assumption)))))).mono ?_); rintro e w3 ⟨x4, q4, rfl, hw3, hx3⟩; have Z' := Cell6.ext hx3 _ _ _ ZZ.out; have LT := lt_of_cell ZZ.out.1; have FR' := fun o => (hx3.frozen (o := o) LT).trans (FR o); clear z0 z1 z2 z3 z4 z5; have ZZ' := Lib.hid Z'; obtain ⟨z0, z1, z2, z3, z4, z5⟩ := Z'; simp only [Nat.zero_add] at z0 z1 z2 z3 z4 z5)
            | (go_at_call 63; (refine (HC.out _ (by (repeat (first | exact Ext.refl _ | (with_reducible assumption) | (with_reducible refine Ext.drew ?_) | (with_reducible refine Ext.alloc ?_ _) | (with_reducible refine Ext.drewN ?_ _) | (with_reducible refine Ext.setCell ?_ (by omega) _) | (with_reducible refine Ext.trans ?_ (by with_reducible assumption)))))).mono ?_); rintro e w3 ⟨x4, q4, rfl, hw3, hx3⟩; have Z : Cell6 w3 (w2.heap.size) 0 ⟨.int .i64 0, .bool false, .int .i64 0, .slice none 0 0, .slice none 0 0, .slice none 0 0⟩ := Cell6.ext hx3 _ _ _ (by simp [Cell6]; done); have FR : ∀ o, w3.frozen? ⟨w2.heap.size, o, none⟩ = false := fun o => (hx3.frozen (by simp)).trans (by simp); have ZZ := Lib.hid Z; obtain ⟨z0, z1, z2, z3, z4, z5⟩ := Z; simp only [Nat.zero_add] at z0 z1 z2 z3 z4 z5)
            | (go_at_call 63; (refine (HC.out _ (by (repeat (first | exact Ext.refl _ | (with_reducible assumption) | (with_reducible refine Ext.drew ?_) | (with_reducible refine Ext.alloc ?_ _) | (with_reducible refine Ext.drewN ?_ _) | (with_reducible refine Ext.setCell ?_ (by omega) _) | (with_reducible refine Ext.trans ?_ (by with_reducible assumption)))))).mono ?_); rintro e w3 ⟨x4, q4, rfl, hw3, hx3⟩))
        · have Y : Ext wo w3 := by (repeat (first | exact Ext.refl _ | (with_reducible assumption) | (with_reducible refine Ext.drew ?_) | (with_reducible refine Ext.alloc ?_ _) | (with_reducible refine Ext.drewN ?_ _) | (with_reducible refine Ext.setCell ?_ (by omega) _) | (with_reducible refine Ext.trans ?_ (by with_reducible assumption))))
          have hsz : w2.heap.size ≤ w3.heap.size := hx3.size
          have g : Boxed wo w3.heap.size t (w3.alloc (.cells #[.int .i64 t.start, .bool t.whole, .int .i64 t.least, .slice x3 nw q3, .slice x4 nc q4, .slice none 0 0] 96)) :=
            boxed_new _ Y (fresh_pit hw2 (Nat.le_refl _) (.inr hsz) hx3) (fresh_pit hw3 S2 (.inr (Nat.le_refl _)) (Ext.refl _))
          go_wp2_with fail
          go_meet
          exact ⟨_, rfl, g⟩
        · have Y : Ext wo w3 := by (repeat (first | exact Ext.refl _ | (with_reducible assumption) | (with_reducible refine Ext.drew ?_) | (with_reducible refine Ext.alloc ?_ _) | (with_reducible refine Ext.drewN ?_ _) | (with_reducible refine Ext.setCell ?_ (by omega) _) | (with_reducible refine Ext.trans ?_ (by with_reducible assumption))))
          have g : Boxed wo w2.heap.size t (World.set6 w3 w2.heap.size ⟨.int .i64 t.start, .bool t.whole, .int .i64 t.least, .slice x3 nw q3, .slice x4 nc q4, .slice none 0 0⟩) :=
            boxed_set ZZ.out FR Y S2 (fresh_pit hw2 (Nat.le_refl _) (.inr (Nat.le_refl _)) (((Ext.refl w2).alloc _).trans hx3)) (fresh_pit hw3 (by simp; omega) (.inl (by simp)) (Ext.refl _))
          go_wp2_with fail
          go_meet
          exact ⟨_, rfl, g⟩
        · have Y : Ext wo w3 := by (repeat (first | exact Ext.refl _ | (with_reducible assumption) | (with_reducible refine Ext.drew ?_) | (with_reducible refine Ext.alloc ?_ _) | (with_reducible refine Ext.drewN ?_ _) | (with_reducible refine Ext.setCell ?_ (by omega) _) | (with_reducible refine Ext.trans ?_ (by with_reducible assumption))))
          have g : Boxed wo wo.heap.size t (World.set6 w3 wo.heap.size ⟨.int .i64 t.start, .bool t.whole, .int .i64 t.least, .slice x3 nw q3, .slice x4 nc q4, .slice none 0 0⟩) :=
            boxed_set ZZ'.out FR' Y (Nat.le_refl _) (fresh_pit hw2 (by simp) (.inl (by simp)) hx3) (fresh_pit hw3 (Nat.le_of_lt LT) (.inl LT) (Ext.refl _))
          go_wp2_with fail
          go_meet
          exact ⟨_, rfl, g⟩
      case rest =>
        obtain ⟨T, rfl, x3, x4, hbox, h5, hTl⟩ := hcut
        have HRS : Hid (RatesI wo wc T 66 t x3 x4 (.slice none 0 0) 0 wc) := RatesI.start hbox h5
        have HBX := Lib.hid hbox
        have hge := hbox.ge
        have hxc := hbox.ext
        have hrc : wo.heap.size ≤ wc.heap.size := hxc.size
        clear hbox h5
        go_wp2_with fail
        go_loopw [6, 7, 8] (fun s6 _ _ wq => ∃ (d : Nat) (a2 : Option Addr) (q2 : Nat), d ≤ t.rates.length ∧ s6 = .int .i64 d ∧ Hid (RatesI wo wc T 66 t x3 x4 (.slice a2 d q2) d wq)) (fun i _ _ _ => t.rates.length - (intOf i).toNat)
        case atStart => exact ⟨0, none, 0, Nat.zero_le _, rfl, HRS.out⟩
        case round =>
          obtain ⟨d, a2, q2, hd, rfl, HQ⟩ := hrel
          have hb5 := HTH.out.1
          obtain ⟨wq, rfl⟩ : ∃ x, x = wr := ⟨_, rfl⟩
          have hxq : Ext wo wq := ExtBut.ext hxc hge HQ.out.but
          have m5q := hxq.keep m5
          by_cases hdl : d < t.rates.length
          · obtain ⟨b5, o5, a6, k6, rfl, g5, i6⟩ := Ints3V.get HRT.out d hdl
            have g5q := hxq.keep g5
            have hthc := HTH.out.2 d hdl
            have HCR : Hid (∀ x, Ints2V (mask (oldB wq) x) (.slice none 0 0) (t.rates.getD d []) → True) := fun _ _ => trivial
            generalize hcrop : t.rates.getD d [] = crop at *
            have HCP := Lib.hid hcrop
            clear hcrop HCR g5
            have hth6 : crop.length ≤ 7 ∧ ∀ i, i < crop.length → (crop.getD i []).length ≤ 7 := by
              simpa only [thinC, Bool.and_eq_true, decide_eq_true_eq, allB_iff] using hthc
            clear hthc
            have HTC := Lib.hid hth6
            have hb7 := hth6.1
            clear hth6
            have HI6 := Lib.hid i6
            clear i6
            go_wp2_with fail
            go_loopw [7, 8] (fun s7 s8 wz => ∃ (j : Nat) (a7 : Option Addr) (q7 : Nat), j ≤ crop.length ∧ s8 = .int .i64 j ∧ s7 = .slice a7 j q7 ∧ Hid (Build1 IntsV (oldB wq) wq.heap.size 59 wz (.slice a7 j q7) (crop.take j)) ∧ Ext wq wz) (fun _ i _ => crop.length - (intOf i).toNat)
            case atStart => exact ⟨0, none, 0, Nat.zero_le _, rfl, rfl, Build1.nil _, Ext.refl _⟩
            case round =>
              obtain ⟨j, a7, q7, hj, rfl, rfl, HBZ, hxz⟩ := hrel
              obtain ⟨wz, rfl⟩ : ∃ x, x = wr := ⟨_, rfl⟩
              have m5z := hxz.keep m5q
              have g5z := hxz.keep g5q
              have ej : (crop.take j).length = j := by simp; omega
              by_cases hjl : j < crop.length
              · obtain ⟨b6, o6, a8, k8, rfl, g6, i8⟩ := Ints2V.get HI6.out j hjl
                have g6z := hxz.keep (hxq.keep g6)
                have hls := list_any _ _ wz ((i8.ext hxq).ext hxz) (HTC.out.2 j hjl)
                clear g6 i8
                have HRW := Lib.hid (show crop.getD j [] = crop.getD j [] from rfl)
                generalize hrow : crop.getD j [] = row at *
                have HRO := Lib.hid hrow
                clear hrow HRW
                go_wp2_with fail
                (with_reducible refine hls.mono ?_)
                rintro e w1 ⟨x8, q8, rfl, hw1, hx1⟩
                clear hls
                have e2 : crop.take j ++ [row] = crop.take (j + 1) := by
                  rw [List.take_succ_eq_append_getElem hjl, ← HRO.out]; simp [hjl]
                have E2 := Lib.hid e2
                clear e2
                obtain ⟨us, hul, hown0, hp0, hs0⟩ := HBZ.out
                rw [ej] at hown0
                have HU := Lib.hid (And.intro hul (And.intro hp0 hs0))
                have OWN := Lib.hid hown0
                have hlb := fun g hg => own_lt hown0 (g := g) hg
                have HLB := Lib.hid hlb
                clear hul hp0 hs0 hown0 hlb
                have EJ := Lib.hid ej
                clear ej
                go_wp2_with (at_builtin; refine wpList_append_own_at _ rfl _ _ 66 rfl wq.heap.size 59 i1 (.slice none 0 0) 1 24 Try.underlying66 hi1 hz10 hz11 hz12 rfl (by decide) (.slice a7 j q7) j us rfl ?own ⟨w1.heap.size, 0, none⟩ 1 1 [.slice x8 row.length q8] rfl rfl (cell_one_new _ _ _) ?one ?f1 ?f2 ?f3 ?next)
                case own => exact own_keep OWN.out (fun g hg => (hx1.alloc _).heap (HLB.out g hg).2)
                case one => first | rfl | (intro u hu; simp at hu; subst hu; rfl)
                case f1 => have := HTC.out.1; simp only [maxLen]; omega
                case f2 => have := HTC.out.1; omega
                case f3 => have h1 := hxz.size; have h2 := hx1.size; simp; omega
                case next =>
                  intro v' w3 hown hgrow hnil hat
                  obtain ⟨hul, hp0, hs0⟩ := HU.out
                  have hxa : ∀ o, Ext wz (w1.alloc o) := fun o => hx1.alloc o
                  have hlt0 : wq.heap.size ≤ wz.heap.size := hxz.size
                  have hlt1 : wz.heap.size ≤ w1.heap.size := hx1.size
                  have hb : Build1 IntsV (oldB wq) wq.heap.size 59 w3 v' (crop.take j ++ [row]) := by
                    refine Build1.next (S := IntsV) (fun h k => IntsV.kc h k) (us := us) (w := w1.alloc _) hul hp0 (fun i g1 g2 => (hs0 i g1 g2).kc ((hxa _).mask (fun _ _ h => h))) ?_ (by rw [EJ.out]; exact hown) hgrow (hat.imp_right (fun h => h.trans (by simp))) (by rw [oldB_lt]; simp; omega)
                    refine hw1.kc (((Ext.refl w1).alloc _).mask (fun g _ hc => ?_))
                    rw [oldB_lt] at hc
                    rw [cov_no, oldB_lt]
                    exact ⟨by omega, fun e => by have := (HLB.out g e).2; omega⟩
                  rw [E2.out] at hb
                  have hx3 : Ext wq w3 := grown_ext ((hxz.trans hx1).alloc _) hgrow (fun g hg => (HLB.out g hg).1)
                  rcases own_open hown with ⟨-, h0⟩ | ⟨g, cap, rfl, -, -, -, -⟩
                  · omega
                  · have HB3 := Lib.hid hb
                    clear hb hown hgrow hnil hat hul hp0 hs0 hxa
                    go_wp2_with fail
                    go_roundw
                    case rel => exact ⟨j + 1, _, _, by omega, by go_num, rfl, HB3.out, hx3⟩
                    case measure => simp [intOf]; omega
              · have ej' : j = crop.length := by omega
                subst ej'
                rw [List.take_length] at HBZ
                have h7 := Build1.slice (S := IntsV) (fun h k => IntsV.kc h k) HBZ.out (by have := HTC.out.1; omega)
                have H7 : Hid (Ints2V (mask (oldB wq) wz) (.slice a7 crop.length q7) crop) := Lib.hid h7
                clear h7
                obtain ⟨c0, c1, c2, c3, c4, c5⟩ := HQ.out.cells
                simp only [Nat.zero_add] at c5
                have c5z := hxz.keep c5
                have hTq := lt_of_cell c5
                have fTz := (hxz.frozen (o := 5) hTq).trans (HQ.out.frozen 5)
                clear c0 c1 c2 c3 c4 c5
                obtain ⟨us, hul, hown0, hp0, hs0⟩ := HQ.out.build
                have ed : (t.rates.take d).length = d := by simp; omega
                rw [ed] at hown0
                have HU := Lib.hid (And.intro hul (And.intro hp0 hs0))
                have OWN := Lib.hid hown0
                have hlb := fun g hg => own_lt hown0 (g := g) hg
                have HLB := Lib.hid hlb
                clear hul hp0 hs0 hown0 hlb
                have ED := Lib.hid ed
                clear ed
                have hTo : some T ≠ (Value.slice a2 d q2).ownBlock := fun e => (pit_no.1 (HU.out.2.1 T e.symm)).2 rfl
                have HTO := Lib.hid hTo
                clear hTo
                go_wp2_with (at_builtin; refine wpList_append_own_at _ rfl _ _ 60 rfl wc.heap.size 66 i2 (.slice none 0 0) 1 24 Try.underlying60 hi2 hz20 hz21 hz22 rfl (by decide) (.slice a2 d q2) d us rfl ?own ⟨wz.heap.size, 0, none⟩ 1 1 [.slice a7 crop.length q7] rfl rfl (cell_one_new _ _ _) ?one ?f1 ?f2 ?f3 ?next)
                case own => exact own_keep OWN.out (fun g hg => (hxz.alloc _).heap (HLB.out g hg).2)
                case one => first | rfl | (intro u hu; simp at hu; subst hu; rfl)
                case f1 => have := HTH.out.1; simp only [maxLen]; omega
                case f2 => have := HTH.out.1; omega
                case f3 => have h1 := hxz.size; have h2 := HQ.out.but.size; simp; omega
                case next =>
                  intro v' w3 hown hgrow hnil hat
                  obtain ⟨hul, hp0, hs0⟩ := HU.out
                  have hN := RatesI.next HQ.out hdl hTl hrc hul hp0 (fun g hg => HLB.out g hg) hs0 hxz (by rw [HCP.out]; exact H7.out) (by rw [ED.out]; exact hown) hgrow (hat.imp_right (fun h => h.trans (by simp)))
                  have c5w : w3.cell? ⟨T, 5, none⟩ = some (.slice a2 d q2) := hgrow.cell (((Ext.refl wz).alloc _).keep c5z) HTO.out
                  have f5w : w3.frozen? ⟨T, 5, none⟩ = false := by
                    rw [World.frozen?_of_block (w := wz.alloc _) (hgrow.block T (by have := lt_of_cell c5z; simp at this ⊢; omega) HTO.out), ((Ext.refl wz).alloc _).frozen (lt_of_cell c5z)]
                    exact fTz
                  rcases own_open hown with ⟨-, h0⟩ | ⟨g, cap, rfl, -, -, -, -⟩
                  · omega
                  · have HN := Lib.hid hN
                    clear hN hown hgrow hnil hat hul hp0 hs0
                    go_wp2_with fail
                    go_roundw
                    case rel => exact ⟨d + 1, _, _, by omega, by go_num, HN.out⟩
                    case measure => simp [intOf]; omega
          · have ed' : d = t.rates.length := by omega
            subst ed'
            obtain ⟨c0, c1, c2, c3, c4, c5⟩ := HQ.out.cells
            simp only [Nat.zero_add] at c0 c1 c2 c3 c4 c5
            have hTq := lt_of_cell c5
            have hbr := HQ.out.build
            rw [List.take_length] at hbr
            have hr3 : Ints3V (mask (pit wo T) wq) (.slice a2 t.rates.length q2) t.rates := Build1.slice (S := Ints2V) (fun h k => Ints2V.kc h k) hbr (by omega)
            have HR3 := Lib.hid hr3
            clear hbr hr3
            obtain ⟨us, hul, hown0, hp0, hs0⟩ := HB.out
            have ed : (l.take k).length = k := by simp; omega
            rw [ed] at hown0
            have HU := Lib.hid (And.intro hul hs0)
            have OWN := Lib.hid hown0
            have hlb := fun g hg => own_lt hown0 (g := g) hg
            have HLB := Lib.hid hlb
            clear hul hp0 hs0 hown0 hlb
            have ED := Lib.hid ed
            clear ed
            have e2 : l.take k ++ [t] = l.take (k + 1) := by
              rw [List.take_succ_eq_append_getElem hlt, HE.out]
            have E2 := Lib.hid e2
            clear e2
            go_wp2_with (at_builtin; refine wpList_append_own_at _ rfl _ _ 28 rfl w.heap.size 96 i3 (.agg #[.int .i64 0, .bool false, .int .i64 0, .slice none 0 0, .slice none 0 0, .slice none 0 0]) 6 96 Try.underlying28 hi3 hz30 hz31 hz32 rfl (by decide) u3 k (us.flatMap V6.cs) rfl ?own ⟨wq.heap.size, 0, none⟩ 1 1 (boxV t x3 x4 (.slice a2 t.rates.length q2)).cs rfl rfl (cell_six_new _ (boxV t x3 x4 (.slice a2 t.rates.length q2)) _) ?one ?f1 ?f2 ?f3 ?next)
            case own => exact own_keep OWN.out (fun g hg => (hxq.alloc _).heap (HLB.out g hg).2)
            case one =>
              have o3 : x3.oneCell' = true := by obtain ⟨a, c, e⟩ := HBX.out.weeks.slice; rw [e]; rfl
              have o4 : x4.oneCell' = true := by obtain ⟨a, c, e⟩ := HBX.out.counts.slice; rw [e]; rfl
              exact ⟨rfl, rfl, rfl, o3, o4, rfl⟩
            case f1 => have := HT.out.1; simp only [maxLen]; omega
            case f2 => have := HT.out.1; omega
            case f3 => have h1 := hxq.size; have h2 := hx.size; simp; omega
            case next =>
              intro v' w3 hown hgrow hnil hat
              obtain ⟨hul, hs0⟩ := HU.out
              have hcov : ∀ g, wo.heap.size ≤ g → cov (oldB w) u3 g = false := fun g hg => cov_no.2 ⟨oldB_lt.2 (Nat.le_trans hx.size hg), fun e => by have := (HLB.out g e).2; omega⟩
              have k1 : ∀ o, KC (mask (pit wo T) wc) (mask (cov (oldB w) u3) (wq.alloc o)) := fun o =>
                mask_kc (fun g _ hp => hcov g (pit_no.1 hp).1) (fun g hg hp => (((Ext.refl wq).alloc o).heap (Nat.lt_of_lt_of_le hg HQ.out.but.size)).trans (HQ.out.but.block g hg (fun e => (pit_no.1 hp).2 e.symm)))
              have k2 : ∀ o, KC (mask (pit wo T) wq) (mask (cov (oldB w) u3) (wq.alloc o)) := fun o => ((Ext.refl wq).alloc o).mask (fun g _ hp => hcov g (pit_no.1 hp).1)
              have hu : ∀ o, TarU (mask (cov (oldB w) u3) (wq.alloc o)) (boxV t x3 x4 (.slice a2 t.rates.length q2)) t := fun o =>
                ⟨rfl, rfl, rfl, ⟨HFL.out.1, HFL.out.2, HBX.out.weeks.kc (k1 o), HBX.out.counts.kc (k1 o), HR3.out.kc (k2 o)⟩⟩
              have hb : Build6 TarU (oldB w) w.heap.size 96 w3 v' (l.take k ++ [t]) :=
                Build6.next (S := TarU) (fun h k => TarU.kc h k) (us := us) (w := wq.alloc _) hul (fun k hk => oldB_lt.2 (HLB.out k hk).1) (fun i g1 g2 => (hs0 i g1 g2).kc ((hxq.alloc _).mask (fun _ _ h => h))) (hu _) (by rw [ED.out]; exact hown) hgrow (hat.imp_right (fun h => h.trans (by simp))) (oldB_lt.2 (by have h1 := hx.size; have h2 := hxq.size; simp; omega))
              rw [E2.out] at hb
              have hx3 : Ext w w3 := grown_ext (hx.trans (hxq.alloc _)) hgrow (fun g hg => (HLB.out g hg).1)
              have HB3 := Lib.hid hb
              have hten := HT.out.1
              clear hb hu k1 k2 hcov hown hgrow hnil hat hul hs0
              go_wp2_with fail
              go_roundw
              case rel => exact ⟨k + 1, by omega, by go_num, HB3.out, hx3⟩
              case measure => simp [intOf]; omega
    · have hk' : k = l.length := by omega
      subst hk'
      rw [List.take_length] at HB
      have ho := HB.out
      have hten := HT.out.1
      obtain ⟨us, hul, hown0, -, -⟩ := HB.out
      have hts := Build6.tars ho (by omega)
      have HTS := Lib.hid hts
      clear ho hts
      go_wp2_with fail
      go_ret
      exact ⟨_, rfl, HTS.out, hx⟩
theorem Tariffs_any (v : Value) (l : List Tar) (w : World) (hv : TarsV w v l) (ht : thinB l = true) :
    Calls Try.prog 21 #[v] w fun e w' => ∃ v', e = .returned v' ∧ TarsV w' v' l ∧ Ext w w' :=
  (Tariffs_new v l w hv ht).mono fun _ _ ⟨v', h1, h2, h3⟩ => ⟨v', h1, h2.kc (mask_kc0 _ _), h3⟩
end Go.Proofs.Ytfjecbfcnngacaa
