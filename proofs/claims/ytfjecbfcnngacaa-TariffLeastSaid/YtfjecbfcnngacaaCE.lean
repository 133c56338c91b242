/- Plain laws: tariffs with another Least and another Whole. Words about memory: four lists of tariffs that are built side by side. -/
import Derived.Test.YtfjecbfcnngacaaAL
import Derived.Test.YtfjecbfcnngacaaBJ
namespace Go.Hs
open Go.RowKit Go.Proofs.Ytfjecbfcnngacaa
/-- A tariff with another Least and another Whole. -/
def sf (g : Tar → Int) (b : Tar → Bool) (t : Tar) : Tar := { t with least := g t, whole := b t }
section
variable {l : List Tar} {g : Tar → Int} {b : Tar → Bool}
theorem sf_get {i : Nat} (h : i < l.length) : (l.map (sf g b)).getD i default = sf g b (l.getD i default) := by simp [h]
theorem sf_valid (h : ValidL l) (hg : ∀ t, t ∈ l → 0 ≤ t.least ∧ t.least ≤ 100 → 0 ≤ g t ∧ g t ≤ 100) : ValidL (l.map (sf g b)) := by
  refine ⟨by simpa using h.pos, by simpa using h.three, ?_, fun i hi => ?_, fun i hi => ?_, fun i hi => ?_⟩
  · rw [sf_get h.pos]; exact h.first
  · have hi' : i < l.length := by simpa using hi
    rw [sf_get hi']; exact h.few i hi'
  · have hi' : i < l.length := by simpa using hi
    have v := validB_iff.1 (h.valid i hi')
    rw [sf_get hi']
    have hm : l.getD i default ∈ l := by
      have e : l.getD i default = l[i] := by simp [hi']
      rw [e]; exact List.getElem_mem hi'
    exact validB_iff.2 ⟨v.start, hg _ hm v.least, v.weeks, v.two, v.counts, v.last, v.crops, v.rows⟩
  · have hi' : i < l.length - 1 := by simpa using hi
    have := h.link i hi'
    unfold linkB at this ⊢
    rw [sf_get (by omega), sf_get (by omega), sf_get h.pos]; exact this
theorem sf_fold (d : Int) (r : List Tar) (t : Tar) : List.foldl (fun t x => if x.start ≤ d then x else t) (sf g b t) (r.map (sf g b)) = sf g b (List.foldl (fun t x => if x.start ≤ d then x else t) t r) := by
  induction r generalizing t with
  | nil => rfl
  | cons x r ih =>
    simp only [List.map_cons, List.foldl_cons]
    by_cases hx : x.start ≤ d
    · rw [if_pos (show (sf g b x).start ≤ d from hx), if_pos hx]; exact ih x
    · rw [if_neg (show ¬ (sf g b x).start ≤ d from hx), if_neg hx]; exact ih t
theorem sf_at (h : ValidL l) {d : Int} (hd : 0 ≤ d) : atS (l.map (sf g b)) d = sf g b (atS l d) := by
  have h0 := h.first
  have hp := h.pos
  unfold atS
  cases l with
  | nil => simp at hp
  | cons x r =>
    have hx : x.start ≤ d := by simp at h0; omega
    simp only [List.map_cons, List.foldl_cons]
    rw [if_pos (show (sf g b x).start ≤ d from hx), if_pos hx]
    exact sf_fold d r x
theorem sf_crops (h : ValidL l) : cropsN (l.map (sf g b)) = cropsN l := by
  unfold cropsN; rw [sf_get h.pos]; rfl
theorem sf_loss (h : ValidL l) {d : Int} (hd : 0 ≤ d) (c n : Int) : lossS (l.map (sf g b)) c d n = lossS l c d n := by
  unfold lossS rowS; rw [sf_at h hd]; rfl
theorem sf_part (h : ValidL l) {d : Int} (hd : 0 ≤ d) (c n : Int) : partS (l.map (sf g b)) c d n = if g (atS l d) ≤ lossS l c d n then (if b (atS l d) then lossS l c d n else lossS l c d n - g (atS l d)) else 0 := by
  unfold partS
  rw [sf_loss h hd, sf_at h hd]; rfl
theorem sf_thin (h : thinB l = true) : thinB (l.map (sf g b)) = true := by
  simp only [thinB, Bool.and_eq_true, decide_eq_true_eq, allB_iff] at h ⊢
  refine ⟨by simpa using h.1, fun i hi => ?_⟩
  have hi' : i < l.length := by simpa using hi
  rw [sf_get hi']; exact h.2 i hi'
end

/-- A list of tariffs that the call builds; what its tariffs hold lies in the first world. -/
def OwnT (w0 : World) (B e : Nat) (w : World) (v : Value) (xs : List Tar) : Prop :=
  ∃ us : List V6, us.length = xs.length ∧ w.ownsRow B e 6 v xs.length (us.flatMap V6.cs) ∧ ∀ i (h1 : i < us.length) (h2 : i < xs.length), TarU w0 us[i] xs[i]
def DJ (x y : Value) : Prop := ∀ g, x.ownBlock = some g → y.ownBlock ≠ some g
theorem OwnT.nil (w0 : World) (B e : Nat) (w : World) : OwnT w0 B e w (.slice none 0 0) [] := ⟨[], rfl, World.ownsRow_nil _ _ _ _, fun _ h => absurd h (Nat.not_lt_zero _)⟩
theorem DJ.nil (y : Value) : DJ (.slice none 0 0) y := fun g h => by simp [Value.ownBlock] at h
theorem DJ.symm {x y : Value} (h : DJ x y) : DJ y x := fun g h1 h2 => h g h2 h1
theorem OwnT.lt {w0 w : World} {B e : Nat} {v : Value} {xs : List Tar} (h : OwnT w0 B e w v xs) {g : Nat} (hg : v.ownBlock = some g) : B ≤ g ∧ g < w.heap.size := by
  obtain ⟨us, hl, ho, hs⟩ := h
  exact own_lt ho hg
theorem OwnT.keep {w0 w w' : World} {B e : Nat} {v : Value} {xs : List Tar} (h : OwnT w0 B e w v xs) (hk : ∀ g, v.ownBlock = some g → w'.heap[g]? = w.heap[g]?) : OwnT w0 B e w' v xs := by
  obtain ⟨us, hl, ho, hs⟩ := h
  exact ⟨us, hl, own_keep ho hk, hs⟩
theorem OwnT.tars {w0 w : World} {B e : Nat} {v : Value} {xs : List Tar} (h : OwnT w0 B e w v xs) (hx : Ext w0 w) (hlen : xs.length ≤ 1000) : TarsV w v xs := by
  obtain ⟨us, hl, ho, hs⟩ := h
  rcases own_open ho with ⟨rfl, h0⟩ | ⟨g, cap, rfl, -, hg, hn, hc⟩
  · have e : xs = [] := List.eq_nil_of_length_eq_zero h0
    subst e
    exact ⟨none, 0, rfl, Nat.le_refl _, by simp, fun i h => absurd h (Nat.not_lt_zero _)⟩
  · refine ⟨_, cap, rfl, hn, by omega, fun i hi => ⟨g, 0, rfl, ?_⟩⟩
    have hi' : i < us.length := by omega
    obtain ⟨g0, g1, g2, g3, g4, g5⟩ := flat_get us i hi'
    obtain ⟨t0, t1, t2, t3⟩ := (hs i hi' hi).ext hx
    rw [t0] at g0
    rw [t1] at g1
    rw [t2] at g2
    simp only [Nat.zero_add]
    exact ⟨_, _, _, hc _ _ g0, hc _ _ g1, hc _ _ g2, hc _ _ g3, hc _ _ g4, hc _ _ g5, t3⟩
theorem OwnT.slice {w0 w : World} {B e : Nat} {v : Value} {xs : List Tar} (h : OwnT w0 B e w v xs) : ∃ a c, v = .slice a xs.length c := by
  obtain ⟨us, hl, ho, hs⟩ := h
  rcases own_open ho with ⟨rfl, h0⟩ | ⟨g, cap, rfl, -⟩
  · exact ⟨none, 0, by rw [h0]⟩
  · exact ⟨_, _, rfl⟩
/-- Four lists that are built side by side. -/
structure Four (w0 : World) (B e : Nat) (w : World) (x y z o : Value) (xs ys zs os : List Tar) : Prop where
  a : OwnT w0 B e w x xs
  b : OwnT w0 B e w y ys
  c : OwnT w0 B e w z zs
  d : OwnT w0 B e w o os
  ab : DJ x y
  ac : DJ x z
  ad : DJ x o
  bc : DJ y z
  bd : DJ y o
  cd : DJ z o
  ext : Ext w0 w
  base : w0.heap.size ≤ B
theorem Four.rot {w0 w : World} {B e : Nat} {x y z o : Value} {xs ys zs os : List Tar} (h : Four w0 B e w x y z o xs ys zs os) : Four w0 B e w y z o x ys zs os xs :=
  ⟨h.b, h.c, h.d, h.a, h.bc, h.bd, h.ab.symm, h.cd, h.ac.symm, h.ad.symm, h.ext, h.base⟩
/-- They are built, and one box holds a tariff. -/
structure RI (w0 : World) (B e T : Nat) (u : V6) (w : World) (x y z o : Value) (xs ys zs os : List Tar) : Prop where
  four : Four w0 B e w x y z o xs ys zs os
  box : Cell6 w T 0 u
  fz : ∀ i, w.frozen? ⟨T, i, none⟩ = false
  big : B ≤ T
  ta : x.ownBlock ≠ some T
  tb : y.ownBlock ≠ some T
  tc : z.ownBlock ≠ some T
  td : o.ownBlock ≠ some T
theorem RI.rot {w0 w : World} {B e T : Nat} {u : V6} {x y z o : Value} {xs ys zs os : List Tar} (h : RI w0 B e T u w x y z o xs ys zs os) : RI w0 B e T u w y z o x ys zs os xs :=
  ⟨h.four.rot, h.box, h.fz, h.big, h.tb, h.tc, h.td, h.ta⟩
theorem RI.start {w0 w : World} {B e : Nat} {u : V6} {t : TypeId} {x y z o : Value} {xs ys zs os : List Tar} (h : Four w0 B e w x y z o xs ys zs os) (hB : B ≤ w.heap.size) :
    RI w0 B e w.heap.size u (w.alloc (.cells #[u.c0, u.c1, u.c2, u.c3, u.c4, u.c5] t)) x y z o xs ys zs os := by
  have hx : Ext w (w.alloc (.cells #[u.c0, u.c1, u.c2, u.c3, u.c4, u.c5] t)) := (Ext.refl w).alloc _
  have k : ∀ {v : Value} {ls : List Tar}, OwnT w0 B e w v ls → OwnT w0 B e (w.alloc (.cells #[u.c0, u.c1, u.c2, u.c3, u.c4, u.c5] t)) v ls := fun hv => hv.keep (fun g hg => hx.heap (hv.lt hg).2)
  have n : ∀ {v : Value} {ls : List Tar}, OwnT w0 B e w v ls → v.ownBlock ≠ some w.heap.size := fun hv hg => by have := (hv.lt hg).2; omega
  exact ⟨⟨k h.a, k h.b, k h.c, k h.d, h.ab, h.ac, h.ad, h.bc, h.bd, h.cd, h.ext.trans hx, h.base⟩, by simp [Cell6], fun i => by simp, hB, n h.a, n h.b, n h.c, n h.d⟩
/-- The box turns. -/
theorem RI.turn {w0 w w' : World} {B e T : Nat} {u u' : V6} {x y z o : Value} {xs ys zs os : List Tar} (h : RI w0 B e T u w x y z o xs ys zs os) (hk : ∀ g, g ≠ T → w'.heap[g]? = w.heap[g]?) (hx : Ext w0 w') (hb : Cell6 w' T 0 u') (hf : ∀ i, w'.frozen? ⟨T, i, none⟩ = false) :
    RI w0 B e T u' w' x y z o xs ys zs os := by
  have f := h.four
  exact ⟨⟨f.a.keep (fun g hg => hk g (fun e => h.ta (e ▸ hg))), f.b.keep (fun g hg => hk g (fun e => h.tb (e ▸ hg))), f.c.keep (fun g hg => hk g (fun e => h.tc (e ▸ hg))), f.d.keep (fun g hg => hk g (fun e => h.td (e ▸ hg))), f.ab, f.ac, f.ad, f.bc, f.bd, f.cd, hx, f.base⟩, hb, hf, h.big, h.ta, h.tb, h.tc, h.td⟩
theorem RI.set1 {w0 w : World} {B e T : Nat} {c0 c1 c2 c3 c4 c5 v : Value} {x y z o : Value} {xs ys zs os : List Tar} (h : RI w0 B e T ⟨c0, c1, c2, c3, c4, c5⟩ w x y z o xs ys zs os) : RI w0 B e T ⟨c0, v, c2, c3, c4, c5⟩ (w.setCell ⟨T, 1, none⟩ v) x y z o xs ys zs os := by
  refine h.turn (fun g hg => Below.heap_setCell _ _ _ _ hg) (h.four.ext.setCell (Nat.le_trans h.four.base h.big) v) ?_ (fun i => by rw [World.frozen?_setCell]; exact h.fz i)
  obtain ⟨b0, b1, b2, b3, b4, b5⟩ := h.box
  simp only [Nat.zero_add] at b0 b1 b2 b3 b4 b5
  simp only [Cell6, Nat.zero_add]
  exact ⟨set_off (by decide) b0, set_same b1, set_off (by decide) b2, set_off (by decide) b3, set_off (by decide) b4, set_off (by decide) b5⟩
theorem RI.set2 {w0 w : World} {B e T : Nat} {c0 c1 c2 c3 c4 c5 v : Value} {x y z o : Value} {xs ys zs os : List Tar} (h : RI w0 B e T ⟨c0, c1, c2, c3, c4, c5⟩ w x y z o xs ys zs os) : RI w0 B e T ⟨c0, c1, v, c3, c4, c5⟩ (w.setCell ⟨T, 2, none⟩ v) x y z o xs ys zs os := by
  refine h.turn (fun g hg => Below.heap_setCell _ _ _ _ hg) (h.four.ext.setCell (Nat.le_trans h.four.base h.big) v) ?_ (fun i => by rw [World.frozen?_setCell]; exact h.fz i)
  obtain ⟨b0, b1, b2, b3, b4, b5⟩ := h.box
  simp only [Nat.zero_add] at b0 b1 b2 b3 b4 b5
  simp only [Cell6, Nat.zero_add]
  exact ⟨set_off (by decide) b0, set_off (by decide) b1, set_same b2, set_off (by decide) b3, set_off (by decide) b4, set_off (by decide) b5⟩
/-- The first list grows by what the box holds. -/
theorem RI.next {w0 w w3 : World} {B e T n : Nat} {ob : Obj} {u : V6} {t : Tar} {x x' y z o : Value} {xs ys zs os : List Tar} {us : List V6} (h : RI w0 B e T u w x y z o xs ys zs os)
    (hl : us.length = xs.length) (hs : ∀ i (h1 : i < us.length) (h2 : i < xs.length), TarU w0 us[i] xs[i]) (hn : n = xs.length) (hown : w3.ownsRow B e 6 x' (n + 1) (us.flatMap V6.cs ++ u.cs)) (hg : (w.alloc ob).grownBy w3 x.ownBlock)
    (hat : x'.ownBlock = x.ownBlock ∨ x'.ownBlock = some (w.heap.size + 1)) (hu : TarU w0 u t) : RI w0 B e T u w3 y z o x' ys zs os (xs ++ [t]) := by
  subst hn
  have f := h.four
  have hx1 : Ext w (w.alloc ob) := (Ext.refl w).alloc ob
  have hsz : (w.alloc ob).heap.size = w.heap.size + 1 := by simp
  have keep : ∀ {v : Value} {ls : List Tar}, OwnT w0 B e w v ls → DJ x v → OwnT w0 B e w3 v ls := fun hv hd => hv.keep (fun g hg' => by
    have hlt := (hv.lt hg').2
    rw [hg.block g (by omega) (fun e' => hd g e'.symm hg'), hx1.heap hlt])
  have dj : ∀ {v : Value} {ls : List Tar}, OwnT w0 B e w v ls → DJ x v → DJ x' v := fun hv hd g h1 h2 => by
    rcases hat with h3 | h3
    · exact hd g (h3 ▸ h1) h2
    · rw [h3] at h1; cases h1
      have := (hv.lt h2).2; omega
  have hT : T < w.heap.size := lt_of_cell h.box.1
  have hTx : x'.ownBlock ≠ some T := fun e' => by
    rcases hat with h3 | h3
    · exact h.ta (h3 ▸ e')
    · rw [h3] at e'; cases e'; omega
  have hTo : some T ≠ x.ownBlock := fun e' => h.ta e'.symm
  have a' : OwnT w0 B e w3 x' (xs ++ [t]) := by
    refine ⟨us ++ [u], by simp [hl], ?_, fun i h1 h2 => ?_⟩
    · have e' : (us ++ [u]).flatMap V6.cs = us.flatMap V6.cs ++ u.cs := by simp
      rw [e']; simpa using hown
    · by_cases hi : i < us.length
      · rw [List.getElem_append_left hi, List.getElem_append_left (by omega)]
        exact hs i hi (by omega)
      · have e1 : i = us.length := by simp at h1; omega
        subst e1
        have e2 : (us ++ [u])[us.length] = u := by simp
        have e3 : (xs ++ [t])[us.length] = t := by simp [hl]
        rw [e2, e3]; exact hu
  have hx3 : Ext w0 w3 := grown_ext (f.ext.alloc ob) hg (fun g hg' => Nat.le_trans f.base (f.a.lt hg').1)
  have cell : ∀ i v, w.cell? ⟨T, i, none⟩ = some v → w3.cell? ⟨T, i, none⟩ = some v := fun i v hc => hg.cell (hx1.keep hc) hTo
  obtain ⟨b0, b1, b2, b3, b4, b5⟩ := h.box
  exact ⟨⟨keep f.b f.ab, keep f.c f.ac, keep f.d f.ad, a', f.bc, f.bd, (dj f.b f.ab).symm, f.cd, (dj f.c f.ac).symm, (dj f.d f.ad).symm, hx3, f.base⟩,
    ⟨cell _ _ b0, cell _ _ b1, cell _ _ b2, cell _ _ b3, cell _ _ b4, cell _ _ b5⟩,
    fun i => by rw [World.frozen?_of_block (w := w.alloc ob) (hg.block T (by omega) hTo), hx1.frozen hT]; exact h.fz i, h.big, h.tb, h.tc, h.td, hTx⟩
end Go.Hs
