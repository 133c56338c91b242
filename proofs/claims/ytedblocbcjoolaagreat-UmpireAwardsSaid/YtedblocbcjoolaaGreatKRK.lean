/- Words about a list of lists of outcomes, and about the results that are being listed. -/
import Derived.Test.YtedblocbcjoolaaGreatKRI
import Derived.Test.YtedblocbcjoolaaGreatKRE
import Derived.Test.YtedblocbcjoolaaGreatKB5
import Derived.Test.YtedblocbcjoolaaGreatKXL
set_option linter.unusedSimpArgs false
set_option linter.unusedVariables false
namespace Go.Hs
open Go.RowKit Go.Proofs.YtedblocbcjoolaaGreat
theorem OcsV.kc {w w' : World} {v : Value} {l : List Oc} (h : KC w w') (k : OcsV w v l) : OcsV w' v l := by
  obtain ⟨a, c, e, h1, h2, hc⟩ := k
  exact ⟨a, c, e, h1, h2, fun i hi => let ⟨b, o, he, g0, g1, g2⟩ := hc i hi; ⟨b, o, he, h _ _ _ g0, h _ _ _ g1, h _ _ _ g2⟩⟩
/-- A list of lists of outcomes, however long. -/
def AllV (w : World) (v : Value) (all : List (List Oc)) : Prop :=
  ∃ a q, v = .slice a all.length q ∧ ∀ i (h : i < all.length), ∃ b off a2 q2, a = some ⟨b, off, none⟩ ∧ w.cell? ⟨b, off + i, none⟩ = some (.slice a2 (all[i]).length q2) ∧ OcsV w (.slice a2 (all[i]).length q2) (all[i])
theorem AllV.ext {w w' : World} {v : Value} {all : List (List Oc)} (hx : Ext w w') (k : AllV w v all) : AllV w' v all := by
  obtain ⟨a, q, e, h⟩ := k
  exact ⟨a, q, e, fun i hi => let ⟨b, o, a2, q2, he, hc, hv⟩ := h i hi; ⟨b, o, a2, q2, he, hx.keep hc, OcsV.ext hx hv⟩⟩
/-- The list that is being built. -/
def AllB (B e : Nat) (w : World) (v : Value) (all : List (List Oc)) : Prop := Build1 OcsV (fun _ => false) B e w v all
theorem AllB.ext {B e : Nat} {w w' : World} {v : Value} {all : List (List Oc)} (hx : Ext w w') (k : AllB B e w v all) : AllB B e w' v all :=
  Build1.keep (S := OcsV) (fun h => OcsV.kc h) k (fun _ hk _ => hx.heap hk)
theorem AllB.toV {B e : Nat} {w : World} {v : Value} {all : List (List Oc)} (k : AllB B e w v all) : AllV w v all := by
  obtain ⟨us, hl, ho, hp, hs⟩ := k
  rcases own_open ho with ⟨rfl, h0⟩ | ⟨g, cap, rfl, -, hg, hn, hc⟩
  · have e : all = [] := List.eq_nil_of_length_eq_zero h0
    subst e
    exact ⟨none, 0, rfl, fun i h => absurd h (Nat.not_lt_zero _)⟩
  · refine ⟨_, cap, rfl, fun i hi => ?_⟩
    have h1 := OcsV.kc (mask_kc0 _ _) (hs i (by omega) hi)
    have h2 := hc i (us[i]'(by omega)) (by simp)
    obtain ⟨a2, q2, e, -⟩ := id h1
    rw [e] at h1 h2
    exact ⟨g, 0, a2, q2, rfl, by rw [Nat.zero_add]; exact h2, h1⟩
theorem nextE_take {all : List (List Oc)} {l : List Oc} {n : Nat} (h : n < all.length) : nextE (all.take (n + 1)) l = nextE (all.take n) l ++ l.map (fun o => all[n] ++ [o]) := by
  unfold nextE
  rw [List.take_succ_eq_append_getElem h, List.flatMap_append]; simp
theorem part_next {p : List Oc} {l : List Oc} {k : Nat} (h : k < l.length) : (l.take (k + 1)).map (fun o => p ++ [o]) = (l.take k).map (fun o => p ++ [o]) ++ [p ++ [l[k]]] := by
  rw [List.take_succ_eq_append_getElem h, List.map_append]; rfl
theorem nextE_len (all : List (List Oc)) (l : List Oc) : (nextE all l).length = all.length * l.length := by
  unfold nextE
  induction all with
  | nil => simp
  | cons p r ih =>
    rw [List.flatMap_cons, List.length_append, ih, List.length_map, List.length_cons, Nat.succ_mul]
    omega
theorem ends_len {c : Cas} {fs : List Fld} (h : ∀ f ∈ fs, (outcomesS c f).length ≤ 125) : (endsF c fs).length ≤ 125 ^ fs.length := by
  have key : ∀ (fs : List Fld) (all : List (List Oc)), (∀ f ∈ fs, (outcomesS c f).length ≤ 125) → (fs.foldl (fun all f => nextE all (outcomesS c f)) all).length ≤ all.length * 125 ^ fs.length := by
    intro fs
    induction fs with
    | nil => intro all _; simp
    | cons f r ih =>
      intro all h
      rw [List.foldl_cons]
      refine Nat.le_trans (ih (nextE all (outcomesS c f)) (fun g hg => h g (by simp [hg]))) ?_
      rw [nextE_len, List.length_cons, Nat.pow_succ, Nat.mul_comm (125 ^ r.length) 125, ← Nat.mul_assoc]
      exact Nat.mul_le_mul_right _ (Nat.mul_le_mul_left _ (h f (by simp)))
  have := key fs [[]] h
  simpa [endsF] using this
theorem ends_width {c : Cas} : ∀ {fs : List Fld} {q : List Oc}, q ∈ endsF c fs → q.length ≤ fs.length := by
  intro fs q h
  have key : ∀ (fs : List Fld) (all : List (List Oc)) (m : Nat), (∀ p ∈ all, p.length ≤ m) → ∀ q ∈ fs.foldl (fun all f => nextE all (outcomesS c f)) all, q.length ≤ m + fs.length := by
    intro fs
    induction fs with
    | nil => intro all m h q hq; exact h q hq
    | cons f r ih =>
      intro all m h q hq
      rw [List.foldl_cons] at hq
      have := ih _ (m + 1) (fun p hp => by
        obtain ⟨p0, h0, hp⟩ := List.mem_flatMap.1 hp
        obtain ⟨o, ho, rfl⟩ := List.mem_map.1 hp
        have := h p0 h0
        simp; omega) q hq
      simp only [List.length_cons]; omega
  have := key fs [[]] 0 (fun p hp => by rw [List.mem_singleton.1 hp]; exact Nat.le_refl _) q h
  omega
/-- The cells of a result without its plays. -/
def resC (fee : Int) (l : List Oc) : List Value := [.slice none 0 0, .int .i64 (sumR l).award, .int .i64 ((sumR l).far fee), .int .i64 ((sumR l).soc fee)]
/-- A list of results that is being built. -/
def ResRow (fee : Int) (B e : Nat) (l : List (List Oc)) (v : Value) (w : World) : Prop := w.ownsRow B e 4 v l.length (l.flatMap (resC fee))
theorem ResRow.nil (fee : Int) (B e : Nat) (w : World) : ResRow fee B e [] (.slice none 0 0) w := World.ownsRow_nil _ _ _ _
theorem ResRow.ext {fee : Int} {B e : Nat} {l : List (List Oc)} {v : Value} {w w' : World} (h : ResRow fee B e l v w) (hx : Ext w w') : ResRow fee B e l v w' := own_keep h (fun _ hg => hx.heap (own_lt h hg).2)
theorem ResRow.at {fee : Int} {B e n : Nat} {l : List (List Oc)} {a : Option Addr} {q : Nat} {w : World} (h : ResRow fee B e l (.slice a n q) w) {i : Nat} (hi : i < l.length) :
    ∃ b, a = some ⟨b, 0, none⟩ ∧ B ≤ b ∧ w.cell? ⟨b, i * 4 + 1, none⟩ = some (.int .i64 (sumR l[i]).award) ∧ w.cell? ⟨b, i * 4 + 2, none⟩ = some (.int .i64 ((sumR l[i]).far fee)) ∧ w.cell? ⟨b, i * 4 + 3, none⟩ = some (.int .i64 ((sumR l[i]).soc fee)) ∧ w.cell? ⟨b, i * 4, none⟩ = some (.slice none 0 0) := by
  rcases own_open h with ⟨-, h0⟩ | ⟨b, cap, he, hb, hg, hn, hc⟩
  · omega
  · simp only [Value.slice.injEq] at he
    obtain ⟨rfl, -, -⟩ := he
    have f := fun j hj => flat_at (C := resC fee) (k := 4) (fun _ => rfl) l i j hi hj
    exact ⟨b, rfl, hb, hc _ _ (f 1 (by decide)), hc _ _ (f 2 (by decide)), hc _ _ (f 3 (by decide)), hc _ _ (f 0 (by decide))⟩
theorem ResRow.next {fee : Int} {B e cap g n : Nat} {l : List (List Oc)} {o : List Oc} {w : World} (h : w.ownsRow B e 4 (.slice (some ⟨g, 0, none⟩) (n + 1) cap) (n + 1) (l.flatMap (resC fee) ++ resC fee o)) (hn : n = l.length) : ResRow fee B e (l ++ [o]) (.slice (some ⟨g, 0, none⟩) (n + 1) cap) w := by
  subst hn
  unfold ResRow
  simpa using h
theorem ResRow.base {fee : Int} {B D e : Nat} {l : List (List Oc)} {v : Value} {w : World} (h : ResRow fee B e l v w) (hd : D ≤ B) : ResRow fee D e l v w := by
  unfold ResRow at h ⊢
  refine ⟨h.1, ?_⟩
  rcases h.2 with h | ⟨g, cap, cur, h1, h2, h3⟩
  · exact .inl h
  · exact .inr ⟨g, cap, cur, h1, Nat.le_trans hd h2, h3⟩
/-- A list of outcomes that is owned, as one that is read. -/
theorem OcRow.toV {B e n : Nat} {l : List Oc} {a : Option Addr} {q : Nat} {w : World} (h : OcRow B e l (.slice a n q) w) (hl : l.length ≤ 1000) : OcsV w (.slice a n q) l := by
  rcases own_open h with ⟨he, h0⟩ | ⟨b, cap, he, hb, hg, hn, hc⟩
  · rw [he]
    have : l = [] := List.eq_nil_of_length_eq_zero h0
    subst this
    exact ⟨none, 0, rfl, Nat.le_refl _, by simp, fun i h => absurd h (Nat.not_lt_zero _)⟩
  · rw [he]
    refine ⟨_, cap, rfl, hn, hl, fun i hi => ?_⟩
    have hi' : i < l.length := by simpa using hi
    have f := fun j hj => flat_at (C := fun o : Oc => o.c.cs) (k := 3) (fun _ => rfl) l i j hi' hj
    refine ⟨b, 0, rfl, ?_⟩
    have e1 : (l.map Oc.c)[i] = (l[i]).c := by simp
    rw [e1, Nat.zero_add]
    exact ⟨hc _ _ (f 0 (by decide)), hc _ _ (f 1 (by decide)), hc _ _ (f 2 (by decide))⟩
theorem mask_block {q : Nat → Bool} {w : World} {k : Nat} (h : q k = false) : (mask q w).heap[k]? = w.heap[k]? := by
  unfold mask
  simp only [Array.getElem?_mapIdx]
  cases w.heap[k]? <;> simp [h]
theorem OcRow.mask {B e : Nat} {l : List Oc} {v : Value} {w : World} {q : Nat → Bool} (h : OcRow B e l v w) (hq : ∀ k, B ≤ k → q k = false) : OcRow B e l v (Hs.mask q w) := own_keep h (fun _ hg => mask_block (hq _ (own_lt h hg).1))
theorem own_empty {w : World} {g T k : Nat} (hg : w.heap[g]? = some (.cells #[] T)) : w.ownsRow g T k (.slice (some ⟨g, 0, none⟩) 0 0) 0 [] :=
  ⟨by simp, .inr ⟨_, _, _, rfl, Nat.le_refl _, hg, Nat.le_refl _, by simp, by simp, by simp⟩⟩
theorem own_base {w : World} {B D e k n : Nat} {v : Value} {us : List Value} (h : w.ownsRow B e k v n us) (hd : D ≤ B) : w.ownsRow D e k v n us := by
  refine ⟨h.1, ?_⟩
  rcases h.2 with h | ⟨g, cap, cur, h1, h2, h3⟩
  · exact .inl h
  · exact .inr ⟨g, cap, cur, h1, Nat.le_trans hd h2, h3⟩
/-- An empty list in memory of its own. -/
theorem alloc_empty {F : World → Prop} {W w : World} {T k : Nat} (h0 : Ext W w) (h : ∀ w', Ext w w' → w'.heap.size = w.heap.size + 1 → w'.ownsRow W.heap.size T k (.slice (some ⟨w.heap.size, 0, none⟩) 0 0) 0 [] → F w') : F (w.alloc (.cells #[] T)) :=
  h _ ((Ext.refl w).alloc _) (by simp [go_sem]) (own_base (own_empty (heap_alloc_new _ _)) h0.size)
theorem alloc_emptyd {F : World → Prop} {W w : World} {T k : Nat} (h0 : Ext W w) (h : ∀ w', Ext w w' → w'.heap.size = w.heap.size + 1 → w'.ownsRow W.heap.size T k (.slice (some ⟨w.heap.size, 0, none⟩) 0 0) 0 [] → F w') : F (w.alloc (.cells #[] T)).drew :=
  h _ ((Ext.refl w).alloc _).drew (by simp [go_sem]) (own_base (own_ext (own_empty (heap_alloc_new _ _)) (Ext.refl _).drew) h0.size)
theorem flat_len3 : ∀ us : List V3, (us.flatMap V3.cs).length = us.length * 3
  | [] => rfl
  | x :: r => by
    have h : (V3.cs x).length = 3 := rfl
    rw [List.flatMap_cons, List.length_append, flat_len3 r, h]
    simp only [List.length_cons]; omega
theorem oc_flat (p : List Oc) : p.flatMap (fun o => o.c.cs) = (p.map Oc.c).flatMap V3.cs := by rw [List.flatMap_map]
theorem oc_len (p : List Oc) : (p.flatMap (fun o => o.c.cs)).length = p.length * 3 := by rw [oc_flat, flat_len3, List.length_map]
theorem oc_one (p : List Oc) : ∀ u ∈ p.flatMap (fun o => o.c.cs), u.oneCell' = true := fun u hu => by
  obtain ⟨o, -, h⟩ := List.mem_flatMap.1 hu
  simp only [Oc.c, V3.cs, List.mem_cons, List.not_mem_nil, or_false] at h
  rcases h with rfl | rfl | rfl <;> rfl
theorem flat_cells {w : World} {b o : Nat} {us : List V3} (h : Cells3 w (some ⟨b, o, none⟩) us) : ∀ j u, (us.flatMap V3.cs)[j]? = some u → w.cell? ((⟨b, o, none⟩ : Addr).add j) = some u := fun j u hu => by
  have hj : j < us.length * 3 := by
    rcases Nat.lt_or_ge j (us.length * 3) with h | h
    · exact h
    · have e := flat_len3 us
      rw [List.getElem?_eq_none (by omega)] at hu; cases hu
  have hi : j / 3 < us.length := by omega
  obtain ⟨b', o', e, hc⟩ := h (j / 3) hi
  cases e
  have f := fun r hr => flat_at (C := V3.cs) (k := 3) (fun _ => rfl) us (j / 3) r hi hr
  have hr : j % 3 = 0 ∨ j % 3 = 1 ∨ j % 3 = 2 := by omega
  have ej : j = j / 3 * 3 + j % 3 := by omega
  rw [add_none']
  rcases hr with hr | hr | hr
  · rw [hr] at ej
    rw [ej, f 0 (by decide)] at hu
    cases hu
    have e2 : o + j = o + j / 3 * 3 := by omega
    rw [e2]; exact hc.1
  · rw [hr] at ej
    rw [ej, f 1 (by decide)] at hu
    cases hu
    have e2 : o + j = o + j / 3 * 3 + 1 := by omega
    rw [e2]; exact hc.2.1
  · rw [hr] at ej
    rw [ej, f 2 (by decide)] at hu
    cases hu
    have e2 : o + j = o + j / 3 * 3 + 2 := by omega
    rw [e2]; exact hc.2.2
theorem grown_cell {w w' : World} {Z n c R o : Nat} {v : Value} (hg : w.grownBy w' (Value.slice (some ⟨Z, 0, none⟩) n c).ownBlock) (hne : R ≠ Z) (hc : w.cell? ⟨R, o, none⟩ = some v) : w'.cell? ⟨R, o, none⟩ = some v := by
  rw [hg.cell_far ⟨R, o, none⟩ (lt_of_cell (a := ⟨R, o, none⟩) hc) (by simpa [Value.ownBlock] using hne)]; exact hc
theorem news_three {w w' : World} {R : Nat} {x y z : Value} (hx : Ext w w') (h0 : w.cell? ⟨R, 0, none⟩ = some x) (h1 : w.cell? ⟨R, 1, none⟩ = some y) (h2 : w.cell? ⟨R, 2, none⟩ = some z) : ∀ j u, [x, y, z][j]? = some u → w'.cell? ((⟨R, 0, none⟩ : Addr).add j) = some u := fun j u hu => by
  rw [add_none', Nat.zero_add]
  rcases j with _ | _ | _ | j
  · cases hu; exact hx.keep h0
  · cases hu; exact hx.keep h1
  · cases hu; exact hx.keep h2
  · simp at hu
theorem news_four {w w' : World} {R : Nat} {x y z t : Value} (hx : Ext w w') (h0 : w.cell? ⟨R, 0, none⟩ = some x) (h1 : w.cell? ⟨R, 1, none⟩ = some y) (h2 : w.cell? ⟨R, 2, none⟩ = some z) (h3 : w.cell? ⟨R, 3, none⟩ = some t) : ∀ j u, [x, y, z, t][j]? = some u → w'.cell? ((⟨R, 0, none⟩ : Addr).add j) = some u := fun j u hu => by
  rw [add_none', Nat.zero_add]
  rcases j with _ | _ | _ | _ | j
  · cases hu; exact hx.keep h0
  · cases hu; exact hx.keep h1
  · cases hu; exact hx.keep h2
  · cases hu; exact hx.keep h3
  · simp at hu
theorem news_one {w w' : World} {R : Nat} {x : Value} (hx : Ext w w') (h0 : w.cell? ⟨R, 0, none⟩ = some x) : ∀ j u, [x][j]? = some u → w'.cell? ((⟨R, 0, none⟩ : Addr).add j) = some u := fun j u hu => by
  rw [add_none', Nat.zero_add]
  rcases j with _ | j
  · cases hu; exact hx.keep h0
  · simp at hu
/-- One list more. -/
theorem AllB.close {B e e3 D n : Nat} {w w' : World} {v v' u : Value} {all : List (List Oc)} {l : List Oc} {us : List Value} (hn : n = all.length) (hl : us.length = all.length)
    (hs : ∀ i (h1 : i < us.length) (h2 : i < all.length), OcsV (mask (cov (fun _ => false) v) w) us[i] all[i]) (hrow : OcRow D e3 l u w) (hu : ∃ a m q, u = .slice a m q) (hlen : l.length ≤ 1000) (hD : ∀ g, v.ownBlock = some g → g < D)
    (ho : w'.ownsRow B e 1 v' (n + 1) (us ++ [u])) (hg : w.grownBy w' v.ownBlock) (hat : v'.ownBlock = v.ownBlock ∨ v'.ownBlock = some w.heap.size) : AllB B e w' v' (all ++ [l]) := by
  subst hn
  obtain ⟨a, m, q, rfl⟩ := hu
  refine Build1.next (S := OcsV) (fun h => OcsV.kc h) hl (fun _ _ => rfl) hs ?_ ho hg hat rfl
  exact (hrow.mask (fun k hk => cov_no.2 ⟨rfl, fun e => by have := hD k e; omega⟩)).toV hlen
end Go.Hs
