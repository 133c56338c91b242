/- The reference of layer 7: the bounds over a list of results. Printed by gen_rn.py. -/
import Derived.Test.YtedblocbcjoolaaGreatKIV
import Derived.Test.YtedblocbcjoolaaGreatKB3
import Derived.RegionTactic
set_option linter.unusedSimpArgs false
set_option linter.unusedVariables false
namespace Go.Proofs.YtedblocbcjoolaaGreat
open Go.RowKit Go.Hs
attribute [local irreducible] World.setCell World.alloc
def RowE (B : Nat) (es : List (Int × Int × Int)) (a : Option Addr) (w : World) : Prop :=
  ∀ i (h : i < es.length), ∃ b, a = some ⟨b, 0, none⟩ ∧ B ≤ b ∧ w.cell? ⟨b, i * 4 + 1, none⟩ = some (.int .i64 (es[i]).1) ∧ w.cell? ⟨b, i * 4 + 2, none⟩ = some (.int .i64 (es[i]).2.1) ∧ w.cell? ⟨b, i * 4 + 3, none⟩ = some (.int .i64 (es[i]).2.2)
def askE3 (k : Nat) (x : Int × Int × Int) : Int := match k with
  | 0 => x.1
  | 1 => x.2.1
  | 2 => x.2.2
  | 3 => x.1 - x.2.1
  | _ => x.1 + x.2.2
def loE (es : List (Int × Int × Int)) (k i : Nat) : Int := ((es.take i).map (askE3 k)).foldl min 1099511627776
def hiE (es : List (Int × Int × Int)) (k i : Nat) : Int := ((es.take i).map (askE3 k)).foldl max (-1099511627776)
theorem loE_next (es : List (Int × Int × Int)) (k i : Nat) (h : i < es.length) : loE es k (i + 1) = min (loE es k i) (askE3 k es[i]) := by
  unfold loE; rw [List.take_succ_eq_append_getElem h, List.map_append, List.foldl_append]; rfl
theorem hiE_next (es : List (Int × Int × Int)) (k i : Nat) (h : i < es.length) : hiE es k (i + 1) = max (hiE es k i) (askE3 k es[i]) := by
  unfold hiE; rw [List.take_succ_eq_append_getElem h, List.map_append, List.foldl_append]; rfl
/-- A box ahead of its store, and behind it. -/
def cl (b : Bool) : List Value := bif b then [.int .i64 1099511627776, .int .i64 (-1099511627776)] else [.int .i64 0, .int .i64 0]

set_option maxRecDepth 100000 in
set_option maxHeartbeats 4000000 in
theorem RBounds_gen (v0 v1 v2 v3 : Value) (w : World) (es : List (Int × Int × Int)) (hn : es.length ≤ 1953125) (hb : ∀ x ∈ es, (0 ≤ x.1 ∧ x.1 ≤ 1000000) ∧ (0 ≤ x.2.1 ∧ x.2.1 ≤ 1000000) ∧ (0 ≤ x.2.2 ∧ x.2.2 ≤ 1000000))
    (HE : Hid (∀ W, Ext w W → Calls Tryz.prog 34 #[.agg #[v0, v1, v2, v3]] W fun e w' => ∃ a q, e = .returned (.slice a es.length q) ∧ RowE W.heap.size es a w' ∧ Ext W w'))
    (HH : Hid (∀ lo hi n W, Calls Tryz.prog 35 #[.agg #[.int .i64 lo, .int .i64 hi], .int .i64 n] W fun e w' => e = .returned (.agg #[.int .i64 (min lo n), .int .i64 (max hi n)]) ∧ Ext W w')) :
    Calls Tryz.prog 12 #[.agg #[v0, v1, v2, v3]] w fun e w' => e = .returned (.tuple #[.agg #[.int .i64 (loE es 0 es.length), .int .i64 (hiE es 0 es.length)], .agg #[.int .i64 (loE es 1 es.length), .int .i64 (hiE es 1 es.length)], .agg #[.int .i64 (loE es 2 es.length), .int .i64 (hiE es 2 es.length)], .agg #[.int .i64 (loE es 3 es.length), .int .i64 (hiE es 4 es.length)]]) ∧ Ext w w' := by
  go_enter Tryz.func12, Tryz.ntmps12
  go_upto_region 2 with fail
  have HFR : Hid (∀ w', Ext ((((((w.alloc (.cells #[v0, v1, v2, v3] 25)).alloc (.cells #[.int .i64 0, .int .i64 0] 44)).alloc (.cells #[.int .i64 0, .int .i64 0] 44)).alloc (.cells #[.int .i64 0, .int .i64 0] 44)).alloc (.cells #[.int .i64 0, .int .i64 0] 44)).alloc (.cells #[.int .i64 1099511627776, .int .i64 (-1099511627776)] 44)) w' → ∀ o, w'.frozen? ⟨w.heap.size + 1, o, none⟩ = false ∧ w'.frozen? ⟨w.heap.size + 1 + 1, o, none⟩ = false ∧ w'.frozen? ⟨w.heap.size + 1 + 1 + 1, o, none⟩ = false ∧ w'.frozen? ⟨w.heap.size + 1 + 1 + 1 + 1, o, none⟩ = false) := Lib.hid (fun w' hx o => ⟨(hx.frozen (by simp)).trans (by simp [go_sem]), (hx.frozen (by simp)).trans (by simp [go_sem]), (hx.frozen (by simp)).trans (by simp [go_sem]), (hx.frozen (by simp)).trans (by simp [go_sem])⟩)
  have X : Ext w ((((((w.alloc (.cells #[v0, v1, v2, v3] 25)).alloc (.cells #[.int .i64 0, .int .i64 0] 44)).alloc (.cells #[.int .i64 0, .int .i64 0] 44)).alloc (.cells #[.int .i64 0, .int .i64 0] 44)).alloc (.cells #[.int .i64 0, .int .i64 0] 44)).alloc (.cells #[.int .i64 1099511627776, .int .i64 (-1099511627776)] 44)) := by (repeat (first | exact Ext.refl _ | (with_reducible assumption) | (with_reducible refine Ext.drew ?_) | (with_reducible refine Ext.alloc ?_ _) | (with_reducible refine Ext.drewN ?_ _) | (with_reducible refine Ext.setCell ?_ (by omega) _) | (with_reducible refine Ext.trans ?_ (by with_reducible assumption))))
  have HS : Hid (∀ w', Ext ((((((w.alloc (.cells #[v0, v1, v2, v3] 25)).alloc (.cells #[.int .i64 0, .int .i64 0] 44)).alloc (.cells #[.int .i64 0, .int .i64 0] 44)).alloc (.cells #[.int .i64 0, .int .i64 0] 44)).alloc (.cells #[.int .i64 0, .int .i64 0] 44)).alloc (.cells #[.int .i64 1099511627776, .int .i64 (-1099511627776)] 44)) w' → (w'.cell? ⟨w.heap.size, 0, none⟩ = some (v0) ∧ w'.cell? ⟨w.heap.size, 1, none⟩ = some (v1) ∧ w'.cell? ⟨w.heap.size, 2, none⟩ = some (v2) ∧ w'.cell? ⟨w.heap.size, 3, none⟩ = some (v3) ∧ w'.cell? ⟨w.heap.size + 1, 0, none⟩ = some (.int .i64 0) ∧ w'.cell? ⟨w.heap.size + 1, 1, none⟩ = some (.int .i64 0) ∧ w'.cell? ⟨w.heap.size + 1 + 1, 0, none⟩ = some (.int .i64 0) ∧ w'.cell? ⟨w.heap.size + 1 + 1, 1, none⟩ = some (.int .i64 0) ∧ w'.cell? ⟨w.heap.size + 1 + 1 + 1, 0, none⟩ = some (.int .i64 0) ∧ w'.cell? ⟨w.heap.size + 1 + 1 + 1, 1, none⟩ = some (.int .i64 0) ∧ w'.cell? ⟨w.heap.size + 1 + 1 + 1 + 1, 0, none⟩ = some (.int .i64 0) ∧ w'.cell? ⟨w.heap.size + 1 + 1 + 1 + 1, 1, none⟩ = some (.int .i64 0) ∧ w'.cell? ⟨w.heap.size + 1 + 1 + 1 + 1 + 1, 0, none⟩ = some (.int .i64 1099511627776) ∧ w'.cell? ⟨w.heap.size + 1 + 1 + 1 + 1 + 1, 1, none⟩ = some (.int .i64 (-1099511627776))) ∧ Ext ((((((w.alloc (.cells #[v0, v1, v2, v3] 25)).alloc (.cells #[.int .i64 0, .int .i64 0] 44)).alloc (.cells #[.int .i64 0, .int .i64 0] 44)).alloc (.cells #[.int .i64 0, .int .i64 0] 44)).alloc (.cells #[.int .i64 0, .int .i64 0] 44)).alloc (.cells #[.int .i64 1099511627776, .int .i64 (-1099511627776)] 44)) w') := Lib.hid (fun w' hx => ⟨⟨hx.keep (by simp [go_sem]), hx.keep (by simp [go_sem]), hx.keep (by simp [go_sem]), hx.keep (by simp [go_sem]), hx.keep (by simp [go_sem]), hx.keep (by simp [go_sem]), hx.keep (by simp [go_sem]), hx.keep (by simp [go_sem]), hx.keep (by simp [go_sem]), hx.keep (by simp [go_sem]), hx.keep (by simp [go_sem]), hx.keep (by simp [go_sem]), hx.keep (by simp [go_sem]), hx.keep (by simp [go_sem])⟩, hx⟩)
  have HSf : Hid (∀ w', Ext ((((((w.alloc (.cells #[v0, v1, v2, v3] 25)).alloc (.cells #[.int .i64 0, .int .i64 0] 44)).alloc (.cells #[.int .i64 0, .int .i64 0] 44)).alloc (.cells #[.int .i64 0, .int .i64 0] 44)).alloc (.cells #[.int .i64 0, .int .i64 0] 44)).alloc (.cells #[.int .i64 1099511627776, .int .i64 (-1099511627776)] 44)) w' → ∀ o, w'.frozen? ⟨w.heap.size + 1 + 1 + 1 + 1 + 1, o, none⟩ = false) := Lib.hid (fun w' hx o => (hx.frozen (by simp)).trans (by simp [go_sem]))
  have HSz : w.heap.size + 1 + 1 + 1 + 1 + 1 + 1 ≤ ((((((w.alloc (.cells #[v0, v1, v2, v3] 25)).alloc (.cells #[.int .i64 0, .int .i64 0] 44)).alloc (.cells #[.int .i64 0, .int .i64 0] 44)).alloc (.cells #[.int .i64 0, .int .i64 0] 44)).alloc (.cells #[.int .i64 0, .int .i64 0] 44)).alloc (.cells #[.int .i64 1099511627776, .int .i64 (-1099511627776)] 44)).heap.size := by simp
  generalize ((((((w.alloc (.cells #[v0, v1, v2, v3] 25)).alloc (.cells #[.int .i64 0, .int .i64 0] 44)).alloc (.cells #[.int .i64 0, .int .i64 0] 44)).alloc (.cells #[.int .i64 0, .int .i64 0] 44)).alloc (.cells #[.int .i64 0, .int .i64 0] 44)).alloc (.cells #[.int .i64 1099511627776, .int .i64 (-1099511627776)] 44)) = W at *
  go_cut [7, 8, 9, 10, 11] from 15 to 19 (fun s7 s8 s9 s10 s11 wx => ∃ T7 T8 T9 T10 T11 : Nat, s7 = .pointer (some ⟨T7, 0, none⟩) ∧ s8 = .pointer (some ⟨T8, 0, none⟩) ∧ s9 = .pointer (some ⟨T9, 0, none⟩) ∧ s10 = .pointer (some ⟨T10, 0, none⟩) ∧ s11 = .pointer (some ⟨T11, 0, none⟩) ∧ BxI W wx [(some T7, cl true), (some T8, cl true), (some T9, cl true), (some T10, cl true), (some T11, cl true)])
  case first =>
    have HN : Hid (∀ w', Ext W w' → (w'.cell? ⟨w.heap.size + 1 + 1 + 1 + 1 + 1, 0, none⟩ = some (.int .i64 1099511627776) ∧ w'.cell? ⟨w.heap.size + 1 + 1 + 1 + 1 + 1, 1, none⟩ = some (.int .i64 (-1099511627776))) ∧ Ext W w') := Lib.hid (fun w' hx => ⟨⟨(HS.out w' hx).1.2.2.2.2.2.2.2.2.2.2.2.2.1, (HS.out w' hx).1.2.2.2.2.2.2.2.2.2.2.2.2.2⟩, hx⟩)
    clear HE HH HS HSf HFR X
    refine wp_region_held_drew (S := fun w' => (w'.cell? ⟨w.heap.size + 1 + 1 + 1 + 1 + 1, 0, none⟩ = some (.int .i64 1099511627776) ∧ w'.cell? ⟨w.heap.size + 1 + 1 + 1 + 1 + 1, 1, none⟩ = some (.int .i64 (-1099511627776))) ∧ Ext W w') (by kernel_rfl) ?_ (fun hHeld => ?_)
    focus ((try dsimp only); exact HN.out _ (by (repeat (first | exact Ext.refl _ | (with_reducible assumption) | (with_reducible refine Ext.drew ?_) | (with_reducible refine Ext.alloc ?_ _) | (with_reducible refine Ext.drewN ?_ _) | (with_reducible refine Ext.setCell ?_ (by omega) _) | (with_reducible refine Ext.trans ?_ (by with_reducible assumption))))))
    refine wpAnyH_take (i := 0) (v := ?_) rfl (by kernel_rfl) (by decide +kernel) (by decide +kernel) (fun _ _ _ h => h) (Or.inl ⟨by rfl, ?_⟩) (by assumption) ?_
    rotate_left
    focus (intro w hSw; (try dsimp only at hSw); go_simp; try (first | (with_reducible rfl) | (with_reducible exact rfl)))
    (try simp only [Act.put, List.getElem_toArray, List.getElem_cons_succ, List.getElem_cons_zero, List.setIfInBounds_toArray, List.set_cons_zero, List.set_cons_succ])
    refine wpAnyH_take (i := 1) (v := ?_) rfl (by kernel_rfl) (by decide +kernel) (by decide +kernel) (fun _ _ _ h => h) (Or.inl ⟨by rfl, ?_⟩) (by assumption) ?_
    rotate_left
    focus (intro w hSw; (try dsimp only at hSw); go_simp; try (first | (with_reducible rfl) | (with_reducible exact rfl)))
    (try simp only [Act.put, List.getElem_toArray, List.getElem_cons_succ, List.getElem_cons_zero, List.setIfInBounds_toArray, List.set_cons_zero, List.set_cons_succ])
    refine wpAnyH_take (i := 2) (v := ?_) rfl (by kernel_rfl) (by decide +kernel) (by decide +kernel) (fun _ _ _ h => h) (Or.inl ⟨by rfl, ?_⟩) (by assumption) ?_
    rotate_left
    focus (intro w hSw; (try dsimp only at hSw); go_simp; try (first | (with_reducible rfl) | (with_reducible exact rfl)))
    (try simp only [Act.put, List.getElem_toArray, List.getElem_cons_succ, List.getElem_cons_zero, List.setIfInBounds_toArray, List.set_cons_zero, List.set_cons_succ])
    refine wpAnyH_take (i := 3) (v := ?_) rfl (by kernel_rfl) (by decide +kernel) (by decide +kernel) (fun _ _ _ h => h) (Or.inl ⟨by rfl, ?_⟩) (by assumption) ?_
    rotate_left
    focus (intro w hSw; (try dsimp only at hSw); go_simp; try (first | (with_reducible rfl) | (with_reducible exact rfl)))
    (try simp only [Act.put, List.getElem_toArray, List.getElem_cons_succ, List.getElem_cons_zero, List.setIfInBounds_toArray, List.set_cons_zero, List.set_cons_succ])
    refine wpAnyH_take (i := 4) (v := ?_) rfl (by kernel_rfl) (by decide +kernel) (by decide +kernel) (fun _ _ _ h => h) (Or.inl ⟨by rfl, ?_⟩) (by assumption) ?_
    rotate_left
    focus (intro w hSw; (try dsimp only at hSw); go_simp; try (first | (with_reducible rfl) | (with_reducible exact rfl)))
    (try simp only [Act.put, List.getElem_toArray, List.getElem_cons_succ, List.getElem_cons_zero, List.setIfInBounds_toArray, List.set_cons_zero, List.set_cons_succ])
    refine wpAnyH_invP [7, 8, 9, 10, 11] [undef, undef, undef, undef, undef] [true, true, true, true, true, false, false, false, false, false, false, false, false, false, false] [5, 6, 7, 8, 9, 10, 11, 12, 13, 14] (fun l vs w' => ∃ (T7 T8 T9 T10 T11 : Option Nat) (s7 s8 s9 s10 s11 : Bool), l = [true, true, true, true, true, T7.isSome, T8.isSome, T9.isSome, T10.isSome, T11.isSome, s7, s8, s9, s10, s11] ∧ vs = [pv undef T7, pv undef T8, pv undef T9, pv undef T10, pv undef T11] ∧ (s7 = true → T7.isSome = true) ∧ (s8 = true → T8.isSome = true) ∧ (s9 = true → T9.isSome = true) ∧ (s10 = true → T10.isSome = true) ∧ (s11 = true → T11.isSome = true) ∧ BxI W w' [(T7, cl s7), (T8, cl s8), (T9, cl s9), (T10, cl s10), (T11, cl s11)]) (by kernel_rfl) (by rfl) (by decide) ?_ ?_ ?_ ?_
    focus exact ⟨none, none, none, none, none, false, false, false, false, false, rfl, rfl, nofun, nofun, nofun, nofun, nofun, BxI.start hHeld.2 (by simp)⟩
    focus
      rintro l vs w' ⟨T7, T8, T9, T10, T11, s7, s8, s9, s10, s11, rfl, rfl, -⟩ i hi
      (rcases i with _ | _ | _ | _ | _ | _ | _ | _ | _ | _ | _ | _ | _ | _ | _ | i) <;> first | (simp; done) | (exfalso; simp at hi; done)
    focus
      intro i hi
      simp only [List.mem_cons, List.not_mem_nil, or_false] at hi
      rcases hi with rfl | rfl | rfl | rfl | rfl | rfl | rfl | rfl | rfl | rfl
      focus
        rintro l vs w1 ⟨T7, T8, T9, T10, T11, s7, s8, s9, s10, s11, rfl, rfl, is7, is8, is9, is10, is11, hB⟩ hb hd
        have et : T7 = none := by simpa using hb
        subst et
        obtain rfl : s7 = false := by cases s7 with | false => rfl | true => exact absurd (is7 rfl) (by simp)
        refine ⟨_, rfl, fun K hK => ?_⟩
        (try simp only [Act.puts, Act.put, List.setIfInBounds_toArray, List.set_cons_zero, List.set_cons_succ])
        go_simp
        refine hK.out [.pointer (some ⟨_, 0, none⟩), pv undef T8, pv undef T9, pv undef T10, pv undef T11] _ _ (by rfl) ?_ ?_
        focus exact HN.out _ (by have := hB.ext; (repeat (first | exact Ext.refl _ | (with_reducible assumption) | (with_reducible refine Ext.drew ?_) | (with_reducible refine Ext.alloc ?_ _) | (with_reducible refine Ext.drewN ?_ _) | (with_reducible refine Ext.setCell ?_ (by omega) _) | (with_reducible refine Ext.trans ?_ (by with_reducible assumption)))))
        focus exact ⟨some _, T8, T9, T10, T11, false, s8, s9, s10, s11, rfl, rfl, nofun, is8, is9, is10, is11, hB.make 0 rfl rfl⟩
      focus
        rintro l vs w1 ⟨T7, T8, T9, T10, T11, s7, s8, s9, s10, s11, rfl, rfl, is7, is8, is9, is10, is11, hB⟩ hb hd
        have et : T8 = none := by simpa using hb
        subst et
        obtain rfl : s8 = false := by cases s8 with | false => rfl | true => exact absurd (is8 rfl) (by simp)
        refine ⟨_, rfl, fun K hK => ?_⟩
        (try simp only [Act.puts, Act.put, List.setIfInBounds_toArray, List.set_cons_zero, List.set_cons_succ])
        go_simp
        refine hK.out [pv undef T7, .pointer (some ⟨_, 0, none⟩), pv undef T9, pv undef T10, pv undef T11] _ _ (by rfl) ?_ ?_
        focus exact HN.out _ (by have := hB.ext; (repeat (first | exact Ext.refl _ | (with_reducible assumption) | (with_reducible refine Ext.drew ?_) | (with_reducible refine Ext.alloc ?_ _) | (with_reducible refine Ext.drewN ?_ _) | (with_reducible refine Ext.setCell ?_ (by omega) _) | (with_reducible refine Ext.trans ?_ (by with_reducible assumption)))))
        focus exact ⟨T7, some _, T9, T10, T11, s7, false, s9, s10, s11, rfl, rfl, is7, nofun, is9, is10, is11, hB.make 1 rfl rfl⟩
      focus
        rintro l vs w1 ⟨T7, T8, T9, T10, T11, s7, s8, s9, s10, s11, rfl, rfl, is7, is8, is9, is10, is11, hB⟩ hb hd
        have et : T9 = none := by simpa using hb
        subst et
        obtain rfl : s9 = false := by cases s9 with | false => rfl | true => exact absurd (is9 rfl) (by simp)
        refine ⟨_, rfl, fun K hK => ?_⟩
        (try simp only [Act.puts, Act.put, List.setIfInBounds_toArray, List.set_cons_zero, List.set_cons_succ])
        go_simp
        refine hK.out [pv undef T7, pv undef T8, .pointer (some ⟨_, 0, none⟩), pv undef T10, pv undef T11] _ _ (by rfl) ?_ ?_
        focus exact HN.out _ (by have := hB.ext; (repeat (first | exact Ext.refl _ | (with_reducible assumption) | (with_reducible refine Ext.drew ?_) | (with_reducible refine Ext.alloc ?_ _) | (with_reducible refine Ext.drewN ?_ _) | (with_reducible refine Ext.setCell ?_ (by omega) _) | (with_reducible refine Ext.trans ?_ (by with_reducible assumption)))))
        focus exact ⟨T7, T8, some _, T10, T11, s7, s8, false, s10, s11, rfl, rfl, is7, is8, nofun, is10, is11, hB.make 2 rfl rfl⟩
      focus
        rintro l vs w1 ⟨T7, T8, T9, T10, T11, s7, s8, s9, s10, s11, rfl, rfl, is7, is8, is9, is10, is11, hB⟩ hb hd
        have et : T10 = none := by simpa using hb
        subst et
        obtain rfl : s10 = false := by cases s10 with | false => rfl | true => exact absurd (is10 rfl) (by simp)
        refine ⟨_, rfl, fun K hK => ?_⟩
        (try simp only [Act.puts, Act.put, List.setIfInBounds_toArray, List.set_cons_zero, List.set_cons_succ])
        go_simp
        refine hK.out [pv undef T7, pv undef T8, pv undef T9, .pointer (some ⟨_, 0, none⟩), pv undef T11] _ _ (by rfl) ?_ ?_
        focus exact HN.out _ (by have := hB.ext; (repeat (first | exact Ext.refl _ | (with_reducible assumption) | (with_reducible refine Ext.drew ?_) | (with_reducible refine Ext.alloc ?_ _) | (with_reducible refine Ext.drewN ?_ _) | (with_reducible refine Ext.setCell ?_ (by omega) _) | (with_reducible refine Ext.trans ?_ (by with_reducible assumption)))))
        focus exact ⟨T7, T8, T9, some _, T11, s7, s8, s9, false, s11, rfl, rfl, is7, is8, is9, nofun, is11, hB.make 3 rfl rfl⟩
      focus
        rintro l vs w1 ⟨T7, T8, T9, T10, T11, s7, s8, s9, s10, s11, rfl, rfl, is7, is8, is9, is10, is11, hB⟩ hb hd
        have et : T11 = none := by simpa using hb
        subst et
        obtain rfl : s11 = false := by cases s11 with | false => rfl | true => exact absurd (is11 rfl) (by simp)
        refine ⟨_, rfl, fun K hK => ?_⟩
        (try simp only [Act.puts, Act.put, List.setIfInBounds_toArray, List.set_cons_zero, List.set_cons_succ])
        go_simp
        refine hK.out [pv undef T7, pv undef T8, pv undef T9, pv undef T10, .pointer (some ⟨_, 0, none⟩)] _ _ (by rfl) ?_ ?_
        focus exact HN.out _ (by have := hB.ext; (repeat (first | exact Ext.refl _ | (with_reducible assumption) | (with_reducible refine Ext.drew ?_) | (with_reducible refine Ext.alloc ?_ _) | (with_reducible refine Ext.drewN ?_ _) | (with_reducible refine Ext.setCell ?_ (by omega) _) | (with_reducible refine Ext.trans ?_ (by with_reducible assumption)))))
        focus exact ⟨T7, T8, T9, T10, some _, s7, s8, s9, s10, false, rfl, rfl, is7, is8, is9, is10, nofun, hB.make 4 rfl rfl⟩
      focus
        rintro l vs w1 ⟨T7, T8, T9, T10, T11, s7, s8, s9, s10, s11, rfl, rfl, is7, is8, is9, is10, is11, hB⟩ hb hd
        obtain rfl : s7 = false := by simpa using hb
        obtain ⟨T, rfl⟩ : ∃ T, T7 = some T := by have h0 := hd _ rfl; have h := h0 ⟨5, .data⟩ (by simp) (by rfl); simpa [Option.isSome_iff_exists] using h
        have c0 := hB.cell 0 T _ rfl 0 _ rfl
        have c1 := hB.cell 0 T _ rfl 1 _ rfl
        have cf := hB.fr 0 T _ rfl
        have cT := (hB.ge 0 T _ rfl).1
        refine ⟨_, rfl, fun K hK => ?_⟩
        (try simp only [pv])
        (try simp only [Act.puts, Act.put, List.setIfInBounds_toArray, List.set_cons_zero, List.set_cons_succ])
        go_simp
        refine hK.out [.pointer (some ⟨T, 0, none⟩), pv undef T8, pv undef T9, pv undef T10, pv undef T11] _ _ (by rfl) ?_ ?_
        focus exact HN.out _ (by have := hB.ext; (repeat (first | exact Ext.refl _ | (with_reducible assumption) | (with_reducible refine Ext.drew ?_) | (with_reducible refine Ext.alloc ?_ _) | (with_reducible refine Ext.drewN ?_ _) | (with_reducible refine Ext.setCell ?_ (by omega) _) | (with_reducible refine Ext.trans ?_ (by with_reducible assumption)))))
        focus exact ⟨some _, T8, T9, T10, T11, true, s8, s9, s10, s11, rfl, rfl, (fun _ => rfl), is8, is9, is10, is11, hB.store 0 rfl kp2 (news2 c0 c1) (by intro o; rw [World.frozen?_setCell, World.frozen?_setCell]; exact cf o)⟩
      focus
        rintro l vs w1 ⟨T7, T8, T9, T10, T11, s7, s8, s9, s10, s11, rfl, rfl, is7, is8, is9, is10, is11, hB⟩ hb hd
        obtain rfl : s8 = false := by simpa using hb
        obtain ⟨T, rfl⟩ : ∃ T, T8 = some T := by have h0 := hd _ rfl; have h := h0 ⟨6, .data⟩ (by simp) (by rfl); simpa [Option.isSome_iff_exists] using h
        have c0 := hB.cell 1 T _ rfl 0 _ rfl
        have c1 := hB.cell 1 T _ rfl 1 _ rfl
        have cf := hB.fr 1 T _ rfl
        have cT := (hB.ge 1 T _ rfl).1
        refine ⟨_, rfl, fun K hK => ?_⟩
        (try simp only [pv])
        (try simp only [Act.puts, Act.put, List.setIfInBounds_toArray, List.set_cons_zero, List.set_cons_succ])
        go_simp
        refine hK.out [pv undef T7, .pointer (some ⟨T, 0, none⟩), pv undef T9, pv undef T10, pv undef T11] _ _ (by rfl) ?_ ?_
        focus exact HN.out _ (by have := hB.ext; (repeat (first | exact Ext.refl _ | (with_reducible assumption) | (with_reducible refine Ext.drew ?_) | (with_reducible refine Ext.alloc ?_ _) | (with_reducible refine Ext.drewN ?_ _) | (with_reducible refine Ext.setCell ?_ (by omega) _) | (with_reducible refine Ext.trans ?_ (by with_reducible assumption)))))
        focus exact ⟨T7, some _, T9, T10, T11, s7, true, s9, s10, s11, rfl, rfl, is7, (fun _ => rfl), is9, is10, is11, hB.store 1 rfl kp2 (news2 c0 c1) (by intro o; rw [World.frozen?_setCell, World.frozen?_setCell]; exact cf o)⟩
      focus
        rintro l vs w1 ⟨T7, T8, T9, T10, T11, s7, s8, s9, s10, s11, rfl, rfl, is7, is8, is9, is10, is11, hB⟩ hb hd
        obtain rfl : s9 = false := by simpa using hb
        obtain ⟨T, rfl⟩ : ∃ T, T9 = some T := by have h0 := hd _ rfl; have h := h0 ⟨7, .data⟩ (by simp) (by rfl); simpa [Option.isSome_iff_exists] using h
        have c0 := hB.cell 2 T _ rfl 0 _ rfl
        have c1 := hB.cell 2 T _ rfl 1 _ rfl
        have cf := hB.fr 2 T _ rfl
        have cT := (hB.ge 2 T _ rfl).1
        refine ⟨_, rfl, fun K hK => ?_⟩
        (try simp only [pv])
        (try simp only [Act.puts, Act.put, List.setIfInBounds_toArray, List.set_cons_zero, List.set_cons_succ])
        go_simp
        refine hK.out [pv undef T7, pv undef T8, .pointer (some ⟨T, 0, none⟩), pv undef T10, pv undef T11] _ _ (by rfl) ?_ ?_
        focus exact HN.out _ (by have := hB.ext; (repeat (first | exact Ext.refl _ | (with_reducible assumption) | (with_reducible refine Ext.drew ?_) | (with_reducible refine Ext.alloc ?_ _) | (with_reducible refine Ext.drewN ?_ _) | (with_reducible refine Ext.setCell ?_ (by omega) _) | (with_reducible refine Ext.trans ?_ (by with_reducible assumption)))))
        focus exact ⟨T7, T8, some _, T10, T11, s7, s8, true, s10, s11, rfl, rfl, is7, is8, (fun _ => rfl), is10, is11, hB.store 2 rfl kp2 (news2 c0 c1) (by intro o; rw [World.frozen?_setCell, World.frozen?_setCell]; exact cf o)⟩
      focus
        rintro l vs w1 ⟨T7, T8, T9, T10, T11, s7, s8, s9, s10, s11, rfl, rfl, is7, is8, is9, is10, is11, hB⟩ hb hd
        obtain rfl : s10 = false := by simpa using hb
        obtain ⟨T, rfl⟩ : ∃ T, T10 = some T := by have h0 := hd _ rfl; have h := h0 ⟨8, .data⟩ (by simp) (by rfl); simpa [Option.isSome_iff_exists] using h
        have c0 := hB.cell 3 T _ rfl 0 _ rfl
        have c1 := hB.cell 3 T _ rfl 1 _ rfl
        have cf := hB.fr 3 T _ rfl
        have cT := (hB.ge 3 T _ rfl).1
        refine ⟨_, rfl, fun K hK => ?_⟩
        (try simp only [pv])
        (try simp only [Act.puts, Act.put, List.setIfInBounds_toArray, List.set_cons_zero, List.set_cons_succ])
        go_simp
        refine hK.out [pv undef T7, pv undef T8, pv undef T9, .pointer (some ⟨T, 0, none⟩), pv undef T11] _ _ (by rfl) ?_ ?_
        focus exact HN.out _ (by have := hB.ext; (repeat (first | exact Ext.refl _ | (with_reducible assumption) | (with_reducible refine Ext.drew ?_) | (with_reducible refine Ext.alloc ?_ _) | (with_reducible refine Ext.drewN ?_ _) | (with_reducible refine Ext.setCell ?_ (by omega) _) | (with_reducible refine Ext.trans ?_ (by with_reducible assumption)))))
        focus exact ⟨T7, T8, T9, some _, T11, s7, s8, s9, true, s11, rfl, rfl, is7, is8, is9, (fun _ => rfl), is11, hB.store 3 rfl kp2 (news2 c0 c1) (by intro o; rw [World.frozen?_setCell, World.frozen?_setCell]; exact cf o)⟩
      focus
        rintro l vs w1 ⟨T7, T8, T9, T10, T11, s7, s8, s9, s10, s11, rfl, rfl, is7, is8, is9, is10, is11, hB⟩ hb hd
        obtain rfl : s11 = false := by simpa using hb
        obtain ⟨T, rfl⟩ : ∃ T, T11 = some T := by have h0 := hd _ rfl; have h := h0 ⟨9, .data⟩ (by simp) (by rfl); simpa [Option.isSome_iff_exists] using h
        have c0 := hB.cell 4 T _ rfl 0 _ rfl
        have c1 := hB.cell 4 T _ rfl 1 _ rfl
        have cf := hB.fr 4 T _ rfl
        have cT := (hB.ge 4 T _ rfl).1
        refine ⟨_, rfl, fun K hK => ?_⟩
        (try simp only [pv])
        (try simp only [Act.puts, Act.put, List.setIfInBounds_toArray, List.set_cons_zero, List.set_cons_succ])
        go_simp
        refine hK.out [pv undef T7, pv undef T8, pv undef T9, pv undef T10, .pointer (some ⟨T, 0, none⟩)] _ _ (by rfl) ?_ ?_
        focus exact HN.out _ (by have := hB.ext; (repeat (first | exact Ext.refl _ | (with_reducible assumption) | (with_reducible refine Ext.drew ?_) | (with_reducible refine Ext.alloc ?_ _) | (with_reducible refine Ext.drewN ?_ _) | (with_reducible refine Ext.setCell ?_ (by omega) _) | (with_reducible refine Ext.trans ?_ (by with_reducible assumption)))))
        focus exact ⟨T7, T8, T9, T10, some _, s7, s8, s9, s10, true, rfl, rfl, is7, is8, is9, is10, (fun _ => rfl), hB.store 4 rfl kp2 (news2 c0 c1) (by intro o; rw [World.frozen?_setCell, World.frozen?_setCell]; exact cf o)⟩
    focus
      rintro l vs w1 ⟨T7, T8, T9, T10, T11, s7, s8, s9, s10, s11, rfl, rfl, -, -, -, -, -, hB⟩ hr
      have e0 : T7.isSome = true := not_ready hr 5 _ rfl (by simp) rfl
      obtain ⟨U0, rfl⟩ := Option.isSome_iff_exists.1 e0
      have e1 : T8.isSome = true := not_ready hr 6 _ rfl (by simp) rfl
      obtain ⟨U1, rfl⟩ := Option.isSome_iff_exists.1 e1
      have e2 : T9.isSome = true := not_ready hr 7 _ rfl (by simp) rfl
      obtain ⟨U2, rfl⟩ := Option.isSome_iff_exists.1 e2
      have e3 : T10.isSome = true := not_ready hr 8 _ rfl (by simp) rfl
      obtain ⟨U3, rfl⟩ := Option.isSome_iff_exists.1 e3
      have e4 : T11.isSome = true := not_ready hr 9 _ rfl (by simp) rfl
      obtain ⟨U4, rfl⟩ := Option.isSome_iff_exists.1 e4
      obtain rfl : s7 = true := not_ready hr 10 _ rfl (by simp) rfl
      obtain rfl : s8 = true := not_ready hr 11 _ rfl (by simp) rfl
      obtain rfl : s9 = true := not_ready hr 12 _ rfl (by simp) rfl
      obtain rfl : s10 = true := not_ready hr 13 _ rfl (by simp) rfl
      obtain rfl : s11 = true := not_ready hr 14 _ rfl (by simp) rfl
      clear hr
      simp only [pv]
      (try simp only [Act.puts, Act.put, List.setIfInBounds_toArray, List.set_cons_zero, List.set_cons_succ])
      go_wp2_with fail
      go_meet
      exact ⟨U0, U1, U2, U3, U4, rfl, rfl, rfl, rfl, rfl, hB⟩
  case rest =>
    obtain ⟨T7, T8, T9, T10, T11, rfl, rfl, rfl, rfl, rfl, hB0⟩ := hcut
    obtain ⟨w1, rfl⟩ : ∃ x, x = wc := ⟨_, rfl⟩
    obtain ⟨⟨q0, q1, q2, q3, -⟩, -⟩ := HS.out w1 hB0.ext
    have hT : ∀ T, (T = T7 ∨ T = T8 ∨ T = T9 ∨ T = T10 ∨ T = T11) → W.heap.size ≤ T ∧ T < w1.heap.size := fun T h => by
      rcases h with rfl | rfl | rfl | rfl | rfl
      · exact hB0.ge 0 _ _ rfl
      · exact hB0.ge 1 _ _ rfl
      · exact hB0.ge 2 _ _ rfl
      · exact hB0.ge 3 _ _ rfl
      · exact hB0.ge 4 _ _ rfl
    have HT := Lib.hid hT
    clear hT
    have XW := X.trans hB0.ext
    have HB0 : Hid (BxI W w1 [(some T7, [.int .i64 (loE es 0 0), .int .i64 (hiE es 0 0)]), (some T8, [.int .i64 (loE es 1 0), .int .i64 (hiE es 1 0)]), (some T9, [.int .i64 (loE es 2 0), .int .i64 (hiE es 2 0)]), (some T10, [.int .i64 (loE es 3 0), .int .i64 (hiE es 3 0)]), (some T11, [.int .i64 (loE es 4 0), .int .i64 (hiE es 4 0)])]) := Lib.hid hB0
    clear hB0
    go_wp2_with fail
    (with_reducible refine (HE.out _ (by (repeat (first | exact Ext.refl _ | (with_reducible assumption) | (with_reducible refine Ext.drew ?_) | (with_reducible refine Ext.alloc ?_ _) | (with_reducible refine Ext.drewN ?_ _) | (with_reducible refine Ext.setCell ?_ (by omega) _) | (with_reducible refine Ext.trans ?_ (by with_reducible assumption)))))).mono ?_)
    rintro e w2 ⟨a, q, rfl, hrow, hx2⟩
    have HB2 : Hid (BxI W w2 [(some T7, [.int .i64 (loE es 0 0), .int .i64 (hiE es 0 0)]), (some T8, [.int .i64 (loE es 1 0), .int .i64 (hiE es 1 0)]), (some T9, [.int .i64 (loE es 2 0), .int .i64 (hiE es 2 0)]), (some T10, [.int .i64 (loE es 3 0), .int .i64 (hiE es 3 0)]), (some T11, [.int .i64 (loE es 4 0), .int .i64 (hiE es 4 0)])]) := Lib.hid (HB0.out.more (by (repeat (first | exact Ext.refl _ | (with_reducible assumption) | (with_reducible refine Ext.drew ?_) | (with_reducible refine Ext.alloc ?_ _) | (with_reducible refine Ext.drewN ?_ _) | (with_reducible refine Ext.setCell ?_ (by omega) _) | (with_reducible refine Ext.trans ?_ (by with_reducible assumption))))))
    have HR : Hid (∀ i (h : i < es.length), ∃ b, a = some ⟨b, 0, none⟩ ∧ ∀ w', KP (fun j => j < w1.heap.size) w2 w' → w'.cell? ⟨b, i * 4 + 1, none⟩ = some (.int .i64 (es[i]).1) ∧ w'.cell? ⟨b, i * 4 + 2, none⟩ = some (.int .i64 (es[i]).2.1) ∧ w'.cell? ⟨b, i * 4 + 3, none⟩ = some (.int .i64 (es[i]).2.2)) := Lib.hid (fun i h => by
      obtain ⟨b, e, hb, h1, h2, h3⟩ := hrow i h
      have hb' : ¬ b < w1.heap.size := by simpa using hb
      exact ⟨b, e, fun w' hk => ⟨hk.keep hb' h1, hk.keep hb' h2, hk.keep hb' h3⟩⟩)
    clear q0 q1 q2 q3 HE hrow hx2 HB0
    have HBD := Lib.hid hb
    clear hb
    have HRES : Hid (∀ w', Ext W w' → w'.cell? ⟨w.heap.size + 1, 0, none⟩ = some (.int .i64 0) ∧ w'.cell? ⟨w.heap.size + 1, 1, none⟩ = some (.int .i64 0) ∧ w'.cell? ⟨w.heap.size + 1 + 1, 0, none⟩ = some (.int .i64 0) ∧ w'.cell? ⟨w.heap.size + 1 + 1, 1, none⟩ = some (.int .i64 0) ∧ w'.cell? ⟨w.heap.size + 1 + 1 + 1, 0, none⟩ = some (.int .i64 0) ∧ w'.cell? ⟨w.heap.size + 1 + 1 + 1, 1, none⟩ = some (.int .i64 0) ∧ w'.cell? ⟨w.heap.size + 1 + 1 + 1 + 1, 0, none⟩ = some (.int .i64 0) ∧ w'.cell? ⟨w.heap.size + 1 + 1 + 1 + 1, 1, none⟩ = some (.int .i64 0)) := Lib.hid (fun w' hx => by have h := (HS.out w' hx).1; exact ⟨h.2.2.2.2.1, h.2.2.2.2.2.1, h.2.2.2.2.2.2.1, h.2.2.2.2.2.2.2.1, h.2.2.2.2.2.2.2.2.1, h.2.2.2.2.2.2.2.2.2.1, h.2.2.2.2.2.2.2.2.2.2.1, h.2.2.2.2.2.2.2.2.2.2.2.1⟩)
    clear HS HSf
    go_wp2_with fail
    go_loopw [13] (fun s13 wr => ∃ i : Nat, i ≤ es.length ∧ s13 = .int .i64 i ∧ Hid (BxI W wr [(some T7, [.int .i64 (loE es 0 i), .int .i64 (hiE es 0 i)]), (some T8, [.int .i64 (loE es 1 i), .int .i64 (hiE es 1 i)]), (some T9, [.int .i64 (loE es 2 i), .int .i64 (hiE es 2 i)]), (some T10, [.int .i64 (loE es 3 i), .int .i64 (hiE es 3 i)]), (some T11, [.int .i64 (loE es 4 i), .int .i64 (hiE es 4 i)])] ∧ KP (fun j => j < w1.heap.size) w2 wr)) (fun s _ => es.length - (intOf s).toNat)
    case atStart => exact ⟨0, Nat.zero_le _, rfl, Lib.hid ⟨HB2.out, KP.refl _⟩⟩
    case round =>
      obtain ⟨i, hi, rfl, HI⟩ := hrel
      obtain ⟨wo, rfl⟩ : ∃ x, x = wr := ⟨_, rfl⟩
      by_cases hlt : i < es.length
      · skip
        obtain ⟨b, rfl, hrw⟩ := HR.out i hlt
        have HSS : Hid (∀ w', Ext W w' → KP (fun j => j < w1.heap.size) w2 w' → (w'.cell? ⟨b, i * 4 + 1, none⟩ = some (.int .i64 (es[i]).1) ∧ w'.cell? ⟨b, i * 4 + 2, none⟩ = some (.int .i64 (es[i]).2.1) ∧ w'.cell? ⟨b, i * 4 + 3, none⟩ = some (.int .i64 (es[i]).2.2)) ∧ Ext W w') := Lib.hid (fun w' hx hk => ⟨hrw w' hk, hx⟩)
        have HNX : Hid (∀ w', BxI W w' [(some T7, [.int .i64 (min (loE es 0 i) (askE3 0 es[i])), .int .i64 (max (hiE es 0 i) (askE3 0 es[i]))]), (some T8, [.int .i64 (min (loE es 1 i) (askE3 1 es[i])), .int .i64 (max (hiE es 1 i) (askE3 1 es[i]))]), (some T9, [.int .i64 (min (loE es 2 i) (askE3 2 es[i])), .int .i64 (max (hiE es 2 i) (askE3 2 es[i]))]), (some T10, [.int .i64 (min (loE es 3 i) (askE3 3 es[i])), .int .i64 (max (hiE es 3 i) (askE3 3 es[i]))]), (some T11, [.int .i64 (min (loE es 4 i) (askE3 4 es[i])), .int .i64 (max (hiE es 4 i) (askE3 4 es[i]))])] → KP (fun j => j < w1.heap.size) w2 w' → Hid (BxI W w' [(some T7, [.int .i64 (loE es 0 (i + 1)), .int .i64 (hiE es 0 (i + 1))]), (some T8, [.int .i64 (loE es 1 (i + 1)), .int .i64 (hiE es 1 (i + 1))]), (some T9, [.int .i64 (loE es 2 (i + 1)), .int .i64 (hiE es 2 (i + 1))]), (some T10, [.int .i64 (loE es 3 (i + 1)), .int .i64 (hiE es 3 (i + 1))]), (some T11, [.int .i64 (loE es 4 (i + 1)), .int .i64 (hiE es 4 (i + 1))])] ∧ KP (fun j => j < w1.heap.size) w2 w')) := Lib.hid (fun w' h1 h2 => Lib.hid ⟨by
          rw [loE_next es 0 i hlt, loE_next es 1 i hlt, loE_next es 2 i hlt, loE_next es 3 i hlt, loE_next es 4 i hlt, hiE_next es 0 i hlt, hiE_next es 1 i hlt, hiE_next es 2 i hlt, hiE_next es 3 i hlt, hiE_next es 4 i hlt]; exact h1, h2⟩)
        have hbd := HBD.out _ (List.getElem_mem hlt)
        simp only [askE3] at HNX
        clear hrw
        generalize (es[i]).1 = ea at *
        generalize (es[i]).2.1 = ef at *
        generalize (es[i]).2.2 = ec at *
        obtain ⟨⟨a0, a1⟩, ⟨f0, f1⟩, c0', c1'⟩ := hbd
        have hw1 : IntKind.i64.wrap (ea - ef) = ea - ef := IntWalk.i64_in _ (by omega)
        have hw2 : IntKind.i64.wrap (ea + ec) = ea + ec := IntWalk.i64_in _ (by omega)
        have HBX : Hid (BxI W wo [(some T7, [.int .i64 (loE es 0 i), .int .i64 (hiE es 0 i)]), (some T8, [.int .i64 (loE es 1 i), .int .i64 (hiE es 1 i)]), (some T9, [.int .i64 (loE es 2 i), .int .i64 (hiE es 2 i)]), (some T10, [.int .i64 (loE es 3 i), .int .i64 (hiE es 3 i)]), (some T11, [.int .i64 (loE es 4 i), .int .i64 (hiE es 4 i)])]) := Lib.hid HI.out.1
        have HKP : Hid (KP (fun j => j < w1.heap.size) w2 wo) := Lib.hid HI.out.2
        clear HI
        have hi0 : (0 : Int) ≤ (i : Int) := by omega
        have hi1 : (i : Int) < (es.length : Int) := by omega
        go_upto_region 7 with fail
        refine wp_region_held_drew (S := fun w' => (w'.cell? ⟨b, i * 4 + 1, none⟩ = some (.int .i64 ea) ∧ w'.cell? ⟨b, i * 4 + 2, none⟩ = some (.int .i64 ef) ∧ w'.cell? ⟨b, i * 4 + 3, none⟩ = some (.int .i64 ec)) ∧ Ext W w') (by kernel_rfl) ?_ (fun hHeld => ?_)
        focus ((try dsimp only); exact HSS.out _ (by have := HBX.out.ext; (repeat (first | exact Ext.refl _ | (with_reducible assumption) | (with_reducible refine Ext.drew ?_) | (with_reducible refine Ext.alloc ?_ _) | (with_reducible refine Ext.drewN ?_ _) | (with_reducible refine Ext.setCell ?_ (by omega) _) | (with_reducible refine Ext.trans ?_ (by with_reducible assumption))))) (HKP.out.drew))
        refine wpAnyH_take (i := 1) (v := ?_) rfl (by kernel_rfl) (by decide +kernel) (by decide +kernel) (fun _ _ _ h => h) (Or.inl ⟨by rfl, ?_⟩) (by assumption) ?_
        rotate_left
        focus (intro w hSw; (try dsimp only at hSw); go_simp; try (first | (with_reducible rfl) | (with_reducible exact rfl)))
        (try simp only [Act.put, List.getElem_toArray, List.getElem_cons_succ, List.getElem_cons_zero, List.setIfInBounds_toArray, List.set_cons_zero, List.set_cons_succ])
        refine wpAnyH_take (i := 2) (v := ?_) rfl (by kernel_rfl) (by decide +kernel) (by decide +kernel) (fun _ _ _ h => h) (Or.inl ⟨by rfl, ?_⟩) (by assumption) ?_
        rotate_left
        focus (intro w hSw; (try dsimp only at hSw); go_simp; try (first | (with_reducible rfl) | (with_reducible exact rfl)))
        (try simp only [Act.put, List.getElem_toArray, List.getElem_cons_succ, List.getElem_cons_zero, List.setIfInBounds_toArray, List.set_cons_zero, List.set_cons_succ])
        refine wpAnyH_take (i := 3) (v := ?_) rfl (by kernel_rfl) (by decide +kernel) (by decide +kernel) (fun _ _ _ h => h) (Or.inl ⟨by rfl, ?_⟩) (by assumption) ?_
        rotate_left
        focus (intro w hSw; (try dsimp only at hSw); go_simp; try (first | (with_reducible rfl) | (with_reducible exact rfl)))
        (try simp only [Act.put, List.getElem_toArray, List.getElem_cons_succ, List.getElem_cons_zero, List.setIfInBounds_toArray, List.set_cons_zero, List.set_cons_succ])
        refine wpAnyH_take (i := 4) (v := ?_) rfl (by kernel_rfl) (by decide +kernel) (by decide +kernel) (fun _ _ _ h => h) (Or.inl ⟨by rfl, ?_⟩) (by assumption) ?_
        rotate_left
        focus (intro w hSw; (try dsimp only at hSw); go_simp; try (first | (with_reducible rfl) | (with_reducible exact rfl)))
        (try simp only [Act.put, List.getElem_toArray, List.getElem_cons_succ, List.getElem_cons_zero, List.setIfInBounds_toArray, List.set_cons_zero, List.set_cons_succ])
        refine wpAnyH_take (i := 5) (v := ?_) rfl (by kernel_rfl) (by decide +kernel) (by decide +kernel) (fun _ _ _ h => h) (Or.inl ⟨by rfl, ?_⟩) (by assumption) ?_
        rotate_left
        focus (intro w hSw; (try dsimp only at hSw); go_simp; try (first | (with_reducible rfl) | (with_reducible exact rfl)))
        (try simp only [Act.put, List.getElem_toArray, List.getElem_cons_succ, List.getElem_cons_zero, List.setIfInBounds_toArray, List.set_cons_zero, List.set_cons_succ])
        refine wpAnyH_take (i := 8) (v := ?_) rfl (by kernel_rfl) (by decide +kernel) (by decide +kernel) (fun _ _ _ h => h) (Or.inl ⟨by rfl, ?_⟩) (by assumption) ?_
        rotate_left
        focus (intro w hSw; (try dsimp only at hSw); go_simp; try (first | (with_reducible rfl) | (with_reducible exact rfl)))
        (try simp only [Act.put, List.getElem_toArray, List.getElem_cons_succ, List.getElem_cons_zero, List.setIfInBounds_toArray, List.set_cons_zero, List.set_cons_succ])
        refine wpAnyH_take (i := 9) (v := ?_) rfl (by kernel_rfl) (by decide +kernel) (by decide +kernel) (fun _ _ _ h => h) (Or.inl ⟨by rfl, ?_⟩) (by assumption) ?_
        rotate_left
        focus (intro w hSw; (try dsimp only at hSw); go_simp; try (first | (with_reducible rfl) | (with_reducible exact rfl)))
        (try simp only [Act.put, List.getElem_toArray, List.getElem_cons_succ, List.getElem_cons_zero, List.setIfInBounds_toArray, List.set_cons_zero, List.set_cons_succ])
        refine wpAnyH_take (i := 10) (v := ?_) rfl (by kernel_rfl) (by decide +kernel) (by decide +kernel) (fun _ _ _ h => h) (Or.inl ⟨by rfl, ?_⟩) (by assumption) ?_
        rotate_left
        focus (intro w hSw; (try dsimp only at hSw); go_simp; try (first | (with_reducible rfl) | (with_reducible exact rfl)))
        (try simp only [Act.put, List.getElem_toArray, List.getElem_cons_succ, List.getElem_cons_zero, List.setIfInBounds_toArray, List.set_cons_zero, List.set_cons_succ])
        refine wpAnyH_take (i := 11) (v := ?_) rfl (by kernel_rfl) (by decide +kernel) (by decide +kernel) (fun _ _ _ h => h) (Or.inl ⟨by rfl, ?_⟩) (by assumption) ?_
        rotate_left
        focus (intro w hSw; (try dsimp only at hSw); go_simp; try (first | (with_reducible rfl) | (with_reducible exact rfl)))
        (try simp only [Act.put, List.getElem_toArray, List.getElem_cons_succ, List.getElem_cons_zero, List.setIfInBounds_toArray, List.set_cons_zero, List.set_cons_succ])
        refine wpAnyH_take (i := 12) (v := ?_) rfl (by kernel_rfl) (by decide +kernel) (by decide +kernel) (fun _ _ _ h => h) (Or.inl ⟨by rfl, ?_⟩) (by assumption) ?_
        rotate_left
        focus (intro w hSw; (try dsimp only at hSw); go_simp; try (first | (with_reducible rfl) | (with_reducible exact rfl)))
        (try simp only [Act.put, List.getElem_toArray, List.getElem_cons_succ, List.getElem_cons_zero, List.setIfInBounds_toArray, List.set_cons_zero, List.set_cons_succ])
        refine wpAnyH_take (i := 15) (v := ?_) rfl (by kernel_rfl) (by decide +kernel) (by decide +kernel) (fun _ _ _ h => h) (Or.inl ⟨by rfl, ?_⟩) (by assumption) ?_
        rotate_left
        focus (intro w hSw; (try dsimp only at hSw); go_simp; try (first | (with_reducible rfl) | (with_reducible exact rfl)))
        (try simp only [Act.put, List.getElem_toArray, List.getElem_cons_succ, List.getElem_cons_zero, List.setIfInBounds_toArray, List.set_cons_zero, List.set_cons_succ])
        refine wpAnyH_take (i := 16) (v := ?_) rfl (by kernel_rfl) (by decide +kernel) (by decide +kernel) (fun _ _ _ h => h) (Or.inl ⟨by rfl, ?_⟩) (by assumption) ?_
        rotate_left
        focus (intro w hSw; (try dsimp only at hSw); go_simp; try (first | (with_reducible rfl) | (with_reducible exact rfl)))
        (try simp only [Act.put, List.getElem_toArray, List.getElem_cons_succ, List.getElem_cons_zero, List.setIfInBounds_toArray, List.set_cons_zero, List.set_cons_succ])
        refine wpAnyH_take (i := 17) (v := ?_) rfl (by kernel_rfl) (by decide +kernel) (by decide +kernel) (fun _ _ _ h => h) (Or.inl ⟨by rfl, ?_⟩) (by assumption) ?_
        rotate_left
        focus (intro w hSw; (try dsimp only at hSw); go_simp; try (first | (with_reducible rfl) | (with_reducible exact rfl)))
        (try simp only [Act.put, List.getElem_toArray, List.getElem_cons_succ, List.getElem_cons_zero, List.setIfInBounds_toArray, List.set_cons_zero, List.set_cons_succ])
        refine wpAnyH_take (i := 18) (v := ?_) rfl (by kernel_rfl) (by decide +kernel) (by decide +kernel) (fun _ _ _ h => h) (Or.inl ⟨by rfl, ?_⟩) (by assumption) ?_
        rotate_left
        focus (intro w hSw; (try dsimp only at hSw); go_simp; try (first | (with_reducible rfl) | (with_reducible exact rfl)))
        (try simp only [Act.put, List.getElem_toArray, List.getElem_cons_succ, List.getElem_cons_zero, List.setIfInBounds_toArray, List.set_cons_zero, List.set_cons_succ])
        refine wpAnyH_take (i := 19) (v := ?_) rfl (by kernel_rfl) (by decide +kernel) (by decide +kernel) (fun _ _ _ h => h) (Or.inl ⟨by rfl, ?_⟩) (by assumption) ?_
        rotate_left
        focus (intro w hSw; (try dsimp only at hSw); go_simp; try (first | (with_reducible rfl) | (with_reducible exact rfl)))
        (try simp only [Act.put, List.getElem_toArray, List.getElem_cons_succ, List.getElem_cons_zero, List.setIfInBounds_toArray, List.set_cons_zero, List.set_cons_succ])
        refine wpAnyH_invP [28, 34, 35, 41, 42, 48] [u28, u34, u35, u41, u42, u48] [false, true, true, true, true, true, false, false, true, true, true, true, true, false, false, true, true, true, true, true, false, false, false, false] [0, 6, 21, 7, 13, 22, 14, 20, 23] (fun l vs w' => ∃ (b0 b1 b2 c0 c1 c2 s0 s1 s2 : Bool), l = [b0, true, true, true, true, true, c0, b1, true, true, true, true, true, c1, b2, true, true, true, true, true, c2, s0, s1, s2] ∧ vs = [(bif b0 then .agg #[.int .i64 (loE es 0 i), .int .i64 (hiE es 0 i)] else u28), (bif c0 then .agg #[.int .i64 (min (loE es 0 i) ea), .int .i64 (max (hiE es 0 i) ea)] else u34), (bif b1 then .agg #[.int .i64 (loE es 1 i), .int .i64 (hiE es 1 i)] else u35), (bif c1 then .agg #[.int .i64 (min (loE es 1 i) ef), .int .i64 (max (hiE es 1 i) ef)] else u41), (bif b2 then .agg #[.int .i64 (loE es 2 i), .int .i64 (hiE es 2 i)] else u42), (bif c2 then .agg #[.int .i64 (min (loE es 2 i) ec), .int .i64 (max (hiE es 2 i) ec)] else u48)] ∧ (c0 = true → b0 = true) ∧ (s0 = true → c0 = true) ∧ (c1 = true → b1 = true) ∧ (s1 = true → c1 = true) ∧ (c2 = true → b2 = true) ∧ (s2 = true → c2 = true) ∧ BxI W w' [(some T7, (bif s0 then [.int .i64 (min (loE es 0 i) ea), .int .i64 (max (hiE es 0 i) ea)] else [.int .i64 (loE es 0 i), .int .i64 (hiE es 0 i)])), (some T8, (bif s1 then [.int .i64 (min (loE es 1 i) ef), .int .i64 (max (hiE es 1 i) ef)] else [.int .i64 (loE es 1 i), .int .i64 (hiE es 1 i)])), (some T9, (bif s2 then [.int .i64 (min (loE es 2 i) ec), .int .i64 (max (hiE es 2 i) ec)] else [.int .i64 (loE es 2 i), .int .i64 (hiE es 2 i)])), (some T10, [.int .i64 (loE es 3 i), .int .i64 (hiE es 3 i)]), (some T11, [.int .i64 (loE es 4 i), .int .i64 (hiE es 4 i)])] ∧ KP (fun j => j < w1.heap.size) w2 w') (by kernel_rfl) (by rfl) (by decide) ?_ ?_ ?_ ?_
        focus exact ⟨false, false, false, false, false, false, false, false, false, rfl, rfl, nofun, nofun, nofun, nofun, nofun, nofun, HBX.out.more (by (repeat (first | exact Ext.refl _ | (with_reducible assumption) | (with_reducible refine Ext.drew ?_) | (with_reducible refine Ext.alloc ?_ _) | (with_reducible refine Ext.drewN ?_ _) | (with_reducible refine Ext.setCell ?_ (by omega) _) | (with_reducible refine Ext.trans ?_ (by with_reducible assumption))))), HKP.out.drew⟩
        focus
          rintro l vs w' ⟨b0, b1, b2, c0, c1, c2, s0, s1, s2, rfl, rfl, -⟩ i hi
          (rcases i with _ | _ | _ | _ | _ | _ | _ | _ | _ | _ | _ | _ | _ | _ | _ | _ | _ | _ | _ | _ | _ | _ | _ | _ | i) <;> first | (simp; done) | (exfalso; simp at hi; done)
        focus
          intro i hi
          simp only [List.mem_cons, List.not_mem_nil, or_false] at hi
          rcases hi with rfl | rfl | rfl | rfl | rfl | rfl | rfl | rfl | rfl
          focus
            rintro l vs wa ⟨b0, b1, b2, c0, c1, c2, s0, s1, s2, rfl, rfl, ic0, is0, ic1, is1, ic2, is2, hB, hK2⟩ hb hd
            obtain rfl : b0 = false := by simpa using hb
            obtain rfl : c0 = false := by cases c0 with | false => rfl | true => exact absurd (ic0 rfl) (by simp)
            obtain rfl : s0 = false := by cases s0 with | false => rfl | true => exact absurd (is0 rfl) (by simp)
            have d0 := hB.cell 0 T7 _ rfl 0 _ rfl
            have d1 := hB.cell 0 T7 _ rfl 1 _ rfl
            refine ⟨_, rfl, fun K hK => ?_⟩
            (try simp only [Act.puts, Act.put, List.setIfInBounds_toArray, List.set_cons_zero, List.set_cons_succ])
            go_simp
            refine hK.out [.agg #[.int .i64 (loE es 0 i), .int .i64 (hiE es 0 i)], u34, (bif b1 then .agg #[.int .i64 (loE es 1 i), .int .i64 (hiE es 1 i)] else u35), (bif c1 then .agg #[.int .i64 (min (loE es 1 i) ef), .int .i64 (max (hiE es 1 i) ef)] else u41), (bif b2 then .agg #[.int .i64 (loE es 2 i), .int .i64 (hiE es 2 i)] else u42), (bif c2 then .agg #[.int .i64 (min (loE es 2 i) ec), .int .i64 (max (hiE es 2 i) ec)] else u48)] _ _ (by rfl) ?_ ?_
            focus exact HSS.out _ (by have := hB.ext; (repeat (first | exact Ext.refl _ | (with_reducible assumption) | (with_reducible refine Ext.drew ?_) | (with_reducible refine Ext.alloc ?_ _) | (with_reducible refine Ext.drewN ?_ _) | (with_reducible refine Ext.setCell ?_ (by omega) _) | (with_reducible refine Ext.trans ?_ (by with_reducible assumption))))) (hK2)
            focus exact ⟨true, b1, b2, false, c1, c2, false, s1, s2, rfl, rfl, nofun, nofun, ic1, is1, ic2, is2, hB, hK2⟩
          focus
            rintro l vs wa ⟨b0, b1, b2, c0, c1, c2, s0, s1, s2, rfl, rfl, ic0, is0, ic1, is1, ic2, is2, hB, hK2⟩ hb hd
            obtain rfl : c0 = false := by simpa using hb
            obtain rfl : s0 = false := by cases s0 with | false => rfl | true => exact absurd (is0 rfl) (by simp)
            obtain rfl : b0 = true := by have h0 := hd _ rfl; have h := h0 ⟨0, .data⟩ (by simp) (by rfl); simpa using h
            refine ⟨_, rfl, fun K hK => ?_⟩
            (try simp only [cond_true, cond_false])
            (try simp only [Act.puts, Act.put, List.setIfInBounds_toArray, List.set_cons_zero, List.set_cons_succ])
            go_simp
            (with_reducible refine (HH.out _ _ _ _).mono ?_)
            rintro e w3 ⟨rfl, hx3⟩
            (try simp only [cond_true, cond_false])
            (try simp only [Act.puts, Act.put, List.setIfInBounds_toArray, List.set_cons_zero, List.set_cons_succ])
            (try go_simp)
            refine hK.out [.agg #[.int .i64 (loE es 0 i), .int .i64 (hiE es 0 i)], .agg #[.int .i64 (min (loE es 0 i) ea), .int .i64 (max (hiE es 0 i) ea)], (bif b1 then .agg #[.int .i64 (loE es 1 i), .int .i64 (hiE es 1 i)] else u35), (bif c1 then .agg #[.int .i64 (min (loE es 1 i) ef), .int .i64 (max (hiE es 1 i) ef)] else u41), (bif b2 then .agg #[.int .i64 (loE es 2 i), .int .i64 (hiE es 2 i)] else u42), (bif c2 then .agg #[.int .i64 (min (loE es 2 i) ec), .int .i64 (max (hiE es 2 i) ec)] else u48)] _ _ (by rfl) ?_ ?_
            focus exact HSS.out _ (by have := hB.ext; (repeat (first | exact Ext.refl _ | (with_reducible assumption) | (with_reducible refine Ext.drew ?_) | (with_reducible refine Ext.alloc ?_ _) | (with_reducible refine Ext.drewN ?_ _) | (with_reducible refine Ext.setCell ?_ (by omega) _) | (with_reducible refine Ext.trans ?_ (by with_reducible assumption))))) (hK2.ext hx3)
            focus exact ⟨true, b1, b2, true, c1, c2, false, s1, s2, rfl, rfl, (fun _ => rfl), nofun, ic1, is1, ic2, is2, hB.more hx3, hK2.ext hx3⟩
          focus
            rintro l vs wa ⟨b0, b1, b2, c0, c1, c2, s0, s1, s2, rfl, rfl, ic0, is0, ic1, is1, ic2, is2, hB, hK2⟩ hb hd
            obtain rfl : s0 = false := by simpa using hb
            obtain rfl : c0 = true := by have h0 := hd _ rfl; have h := h0 ⟨6, .data⟩ (by simp) (by rfl); simpa using h
            obtain rfl : b0 = true := ic0 rfl
            have d0 := hB.cell 0 T7 _ rfl 0 _ rfl
            have d1 := hB.cell 0 T7 _ rfl 1 _ rfl
            have df := hB.fr 0 T7 _ rfl
            have hTk := HT.out T7 (by simp)
            have hT0 := hTk.1
            have hT1 := hTk.2
            refine ⟨_, rfl, fun K hK => ?_⟩
            (try simp only [cond_true, cond_false])
            (try simp only [Act.puts, Act.put, List.setIfInBounds_toArray, List.set_cons_zero, List.set_cons_succ])
            go_simp
            refine hK.out [.agg #[.int .i64 (loE es 0 i), .int .i64 (hiE es 0 i)], .agg #[.int .i64 (min (loE es 0 i) ea), .int .i64 (max (hiE es 0 i) ea)], (bif b1 then .agg #[.int .i64 (loE es 1 i), .int .i64 (hiE es 1 i)] else u35), (bif c1 then .agg #[.int .i64 (min (loE es 1 i) ef), .int .i64 (max (hiE es 1 i) ef)] else u41), (bif b2 then .agg #[.int .i64 (loE es 2 i), .int .i64 (hiE es 2 i)] else u42), (bif c2 then .agg #[.int .i64 (min (loE es 2 i) ec), .int .i64 (max (hiE es 2 i) ec)] else u48)] _ _ (by rfl) ?_ ?_
            focus exact HSS.out _ (by have := hB.ext; (repeat (first | exact Ext.refl _ | (with_reducible assumption) | (with_reducible refine Ext.drew ?_) | (with_reducible refine Ext.alloc ?_ _) | (with_reducible refine Ext.drewN ?_ _) | (with_reducible refine Ext.setCell ?_ (by omega) _) | (with_reducible refine Ext.trans ?_ (by with_reducible assumption))))) ((hK2.setCell hT1 _).setCell hT1 _)
            focus exact ⟨true, b1, b2, true, c1, c2, true, s1, s2, rfl, rfl, (fun _ => rfl), (fun _ => rfl), ic1, is1, ic2, is2, hB.store 0 rfl kp2 (news2 d0 d1) (by intro o; rw [World.frozen?_setCell, World.frozen?_setCell]; exact df o), (hK2.setCell hT1 _).setCell hT1 _⟩
          focus
            rintro l vs wa ⟨b0, b1, b2, c0, c1, c2, s0, s1, s2, rfl, rfl, ic0, is0, ic1, is1, ic2, is2, hB, hK2⟩ hb hd
            obtain rfl : b1 = false := by simpa using hb
            obtain rfl : c1 = false := by cases c1 with | false => rfl | true => exact absurd (ic1 rfl) (by simp)
            obtain rfl : s1 = false := by cases s1 with | false => rfl | true => exact absurd (is1 rfl) (by simp)
            have d0 := hB.cell 1 T8 _ rfl 0 _ rfl
            have d1 := hB.cell 1 T8 _ rfl 1 _ rfl
            refine ⟨_, rfl, fun K hK => ?_⟩
            (try simp only [Act.puts, Act.put, List.setIfInBounds_toArray, List.set_cons_zero, List.set_cons_succ])
            go_simp
            refine hK.out [(bif b0 then .agg #[.int .i64 (loE es 0 i), .int .i64 (hiE es 0 i)] else u28), (bif c0 then .agg #[.int .i64 (min (loE es 0 i) ea), .int .i64 (max (hiE es 0 i) ea)] else u34), .agg #[.int .i64 (loE es 1 i), .int .i64 (hiE es 1 i)], u41, (bif b2 then .agg #[.int .i64 (loE es 2 i), .int .i64 (hiE es 2 i)] else u42), (bif c2 then .agg #[.int .i64 (min (loE es 2 i) ec), .int .i64 (max (hiE es 2 i) ec)] else u48)] _ _ (by rfl) ?_ ?_
            focus exact HSS.out _ (by have := hB.ext; (repeat (first | exact Ext.refl _ | (with_reducible assumption) | (with_reducible refine Ext.drew ?_) | (with_reducible refine Ext.alloc ?_ _) | (with_reducible refine Ext.drewN ?_ _) | (with_reducible refine Ext.setCell ?_ (by omega) _) | (with_reducible refine Ext.trans ?_ (by with_reducible assumption))))) (hK2)
            focus exact ⟨b0, true, b2, c0, false, c2, s0, false, s2, rfl, rfl, ic0, is0, nofun, nofun, ic2, is2, hB, hK2⟩
          focus
            rintro l vs wa ⟨b0, b1, b2, c0, c1, c2, s0, s1, s2, rfl, rfl, ic0, is0, ic1, is1, ic2, is2, hB, hK2⟩ hb hd
            obtain rfl : c1 = false := by simpa using hb
            obtain rfl : s1 = false := by cases s1 with | false => rfl | true => exact absurd (is1 rfl) (by simp)
            obtain rfl : b1 = true := by have h0 := hd _ rfl; have h := h0 ⟨7, .data⟩ (by simp) (by rfl); simpa using h
            refine ⟨_, rfl, fun K hK => ?_⟩
            (try simp only [cond_true, cond_false])
            (try simp only [Act.puts, Act.put, List.setIfInBounds_toArray, List.set_cons_zero, List.set_cons_succ])
            go_simp
            (with_reducible refine (HH.out _ _ _ _).mono ?_)
            rintro e w3 ⟨rfl, hx3⟩
            (try simp only [cond_true, cond_false])
            (try simp only [Act.puts, Act.put, List.setIfInBounds_toArray, List.set_cons_zero, List.set_cons_succ])
            (try go_simp)
            refine hK.out [(bif b0 then .agg #[.int .i64 (loE es 0 i), .int .i64 (hiE es 0 i)] else u28), (bif c0 then .agg #[.int .i64 (min (loE es 0 i) ea), .int .i64 (max (hiE es 0 i) ea)] else u34), .agg #[.int .i64 (loE es 1 i), .int .i64 (hiE es 1 i)], .agg #[.int .i64 (min (loE es 1 i) ef), .int .i64 (max (hiE es 1 i) ef)], (bif b2 then .agg #[.int .i64 (loE es 2 i), .int .i64 (hiE es 2 i)] else u42), (bif c2 then .agg #[.int .i64 (min (loE es 2 i) ec), .int .i64 (max (hiE es 2 i) ec)] else u48)] _ _ (by rfl) ?_ ?_
            focus exact HSS.out _ (by have := hB.ext; (repeat (first | exact Ext.refl _ | (with_reducible assumption) | (with_reducible refine Ext.drew ?_) | (with_reducible refine Ext.alloc ?_ _) | (with_reducible refine Ext.drewN ?_ _) | (with_reducible refine Ext.setCell ?_ (by omega) _) | (with_reducible refine Ext.trans ?_ (by with_reducible assumption))))) (hK2.ext hx3)
            focus exact ⟨b0, true, b2, c0, true, c2, s0, false, s2, rfl, rfl, ic0, is0, (fun _ => rfl), nofun, ic2, is2, hB.more hx3, hK2.ext hx3⟩
          focus
            rintro l vs wa ⟨b0, b1, b2, c0, c1, c2, s0, s1, s2, rfl, rfl, ic0, is0, ic1, is1, ic2, is2, hB, hK2⟩ hb hd
            obtain rfl : s1 = false := by simpa using hb
            obtain rfl : c1 = true := by have h0 := hd _ rfl; have h := h0 ⟨13, .data⟩ (by simp) (by rfl); simpa using h
            obtain rfl : b1 = true := ic1 rfl
            have d0 := hB.cell 1 T8 _ rfl 0 _ rfl
            have d1 := hB.cell 1 T8 _ rfl 1 _ rfl
            have df := hB.fr 1 T8 _ rfl
            have hTk := HT.out T8 (by simp)
            have hT0 := hTk.1
            have hT1 := hTk.2
            refine ⟨_, rfl, fun K hK => ?_⟩
            (try simp only [cond_true, cond_false])
            (try simp only [Act.puts, Act.put, List.setIfInBounds_toArray, List.set_cons_zero, List.set_cons_succ])
            go_simp
            refine hK.out [(bif b0 then .agg #[.int .i64 (loE es 0 i), .int .i64 (hiE es 0 i)] else u28), (bif c0 then .agg #[.int .i64 (min (loE es 0 i) ea), .int .i64 (max (hiE es 0 i) ea)] else u34), .agg #[.int .i64 (loE es 1 i), .int .i64 (hiE es 1 i)], .agg #[.int .i64 (min (loE es 1 i) ef), .int .i64 (max (hiE es 1 i) ef)], (bif b2 then .agg #[.int .i64 (loE es 2 i), .int .i64 (hiE es 2 i)] else u42), (bif c2 then .agg #[.int .i64 (min (loE es 2 i) ec), .int .i64 (max (hiE es 2 i) ec)] else u48)] _ _ (by rfl) ?_ ?_
            focus exact HSS.out _ (by have := hB.ext; (repeat (first | exact Ext.refl _ | (with_reducible assumption) | (with_reducible refine Ext.drew ?_) | (with_reducible refine Ext.alloc ?_ _) | (with_reducible refine Ext.drewN ?_ _) | (with_reducible refine Ext.setCell ?_ (by omega) _) | (with_reducible refine Ext.trans ?_ (by with_reducible assumption))))) ((hK2.setCell hT1 _).setCell hT1 _)
            focus exact ⟨b0, true, b2, c0, true, c2, s0, true, s2, rfl, rfl, ic0, is0, (fun _ => rfl), (fun _ => rfl), ic2, is2, hB.store 1 rfl kp2 (news2 d0 d1) (by intro o; rw [World.frozen?_setCell, World.frozen?_setCell]; exact df o), (hK2.setCell hT1 _).setCell hT1 _⟩
          focus
            rintro l vs wa ⟨b0, b1, b2, c0, c1, c2, s0, s1, s2, rfl, rfl, ic0, is0, ic1, is1, ic2, is2, hB, hK2⟩ hb hd
            obtain rfl : b2 = false := by simpa using hb
            obtain rfl : c2 = false := by cases c2 with | false => rfl | true => exact absurd (ic2 rfl) (by simp)
            obtain rfl : s2 = false := by cases s2 with | false => rfl | true => exact absurd (is2 rfl) (by simp)
            have d0 := hB.cell 2 T9 _ rfl 0 _ rfl
            have d1 := hB.cell 2 T9 _ rfl 1 _ rfl
            refine ⟨_, rfl, fun K hK => ?_⟩
            (try simp only [Act.puts, Act.put, List.setIfInBounds_toArray, List.set_cons_zero, List.set_cons_succ])
            go_simp
            refine hK.out [(bif b0 then .agg #[.int .i64 (loE es 0 i), .int .i64 (hiE es 0 i)] else u28), (bif c0 then .agg #[.int .i64 (min (loE es 0 i) ea), .int .i64 (max (hiE es 0 i) ea)] else u34), (bif b1 then .agg #[.int .i64 (loE es 1 i), .int .i64 (hiE es 1 i)] else u35), (bif c1 then .agg #[.int .i64 (min (loE es 1 i) ef), .int .i64 (max (hiE es 1 i) ef)] else u41), .agg #[.int .i64 (loE es 2 i), .int .i64 (hiE es 2 i)], u48] _ _ (by rfl) ?_ ?_
            focus exact HSS.out _ (by have := hB.ext; (repeat (first | exact Ext.refl _ | (with_reducible assumption) | (with_reducible refine Ext.drew ?_) | (with_reducible refine Ext.alloc ?_ _) | (with_reducible refine Ext.drewN ?_ _) | (with_reducible refine Ext.setCell ?_ (by omega) _) | (with_reducible refine Ext.trans ?_ (by with_reducible assumption))))) (hK2)
            focus exact ⟨b0, b1, true, c0, c1, false, s0, s1, false, rfl, rfl, ic0, is0, ic1, is1, nofun, nofun, hB, hK2⟩
          focus
            rintro l vs wa ⟨b0, b1, b2, c0, c1, c2, s0, s1, s2, rfl, rfl, ic0, is0, ic1, is1, ic2, is2, hB, hK2⟩ hb hd
            obtain rfl : c2 = false := by simpa using hb
            obtain rfl : s2 = false := by cases s2 with | false => rfl | true => exact absurd (is2 rfl) (by simp)
            obtain rfl : b2 = true := by have h0 := hd _ rfl; have h := h0 ⟨14, .data⟩ (by simp) (by rfl); simpa using h
            refine ⟨_, rfl, fun K hK => ?_⟩
            (try simp only [cond_true, cond_false])
            (try simp only [Act.puts, Act.put, List.setIfInBounds_toArray, List.set_cons_zero, List.set_cons_succ])
            go_simp
            (with_reducible refine (HH.out _ _ _ _).mono ?_)
            rintro e w3 ⟨rfl, hx3⟩
            (try simp only [cond_true, cond_false])
            (try simp only [Act.puts, Act.put, List.setIfInBounds_toArray, List.set_cons_zero, List.set_cons_succ])
            (try go_simp)
            refine hK.out [(bif b0 then .agg #[.int .i64 (loE es 0 i), .int .i64 (hiE es 0 i)] else u28), (bif c0 then .agg #[.int .i64 (min (loE es 0 i) ea), .int .i64 (max (hiE es 0 i) ea)] else u34), (bif b1 then .agg #[.int .i64 (loE es 1 i), .int .i64 (hiE es 1 i)] else u35), (bif c1 then .agg #[.int .i64 (min (loE es 1 i) ef), .int .i64 (max (hiE es 1 i) ef)] else u41), .agg #[.int .i64 (loE es 2 i), .int .i64 (hiE es 2 i)], .agg #[.int .i64 (min (loE es 2 i) ec), .int .i64 (max (hiE es 2 i) ec)]] _ _ (by rfl) ?_ ?_
            focus exact HSS.out _ (by have := hB.ext; (repeat (first | exact Ext.refl _ | (with_reducible assumption) | (with_reducible refine Ext.drew ?_) | (with_reducible refine Ext.alloc ?_ _) | (with_reducible refine Ext.drewN ?_ _) | (with_reducible refine Ext.setCell ?_ (by omega) _) | (with_reducible refine Ext.trans ?_ (by with_reducible assumption))))) (hK2.ext hx3)
            focus exact ⟨b0, b1, true, c0, c1, true, s0, s1, false, rfl, rfl, ic0, is0, ic1, is1, (fun _ => rfl), nofun, hB.more hx3, hK2.ext hx3⟩
          focus
            rintro l vs wa ⟨b0, b1, b2, c0, c1, c2, s0, s1, s2, rfl, rfl, ic0, is0, ic1, is1, ic2, is2, hB, hK2⟩ hb hd
            obtain rfl : s2 = false := by simpa using hb
            obtain rfl : c2 = true := by have h0 := hd _ rfl; have h := h0 ⟨20, .data⟩ (by simp) (by rfl); simpa using h
            obtain rfl : b2 = true := ic2 rfl
            have d0 := hB.cell 2 T9 _ rfl 0 _ rfl
            have d1 := hB.cell 2 T9 _ rfl 1 _ rfl
            have df := hB.fr 2 T9 _ rfl
            have hTk := HT.out T9 (by simp)
            have hT0 := hTk.1
            have hT1 := hTk.2
            refine ⟨_, rfl, fun K hK => ?_⟩
            (try simp only [cond_true, cond_false])
            (try simp only [Act.puts, Act.put, List.setIfInBounds_toArray, List.set_cons_zero, List.set_cons_succ])
            go_simp
            refine hK.out [(bif b0 then .agg #[.int .i64 (loE es 0 i), .int .i64 (hiE es 0 i)] else u28), (bif c0 then .agg #[.int .i64 (min (loE es 0 i) ea), .int .i64 (max (hiE es 0 i) ea)] else u34), (bif b1 then .agg #[.int .i64 (loE es 1 i), .int .i64 (hiE es 1 i)] else u35), (bif c1 then .agg #[.int .i64 (min (loE es 1 i) ef), .int .i64 (max (hiE es 1 i) ef)] else u41), .agg #[.int .i64 (loE es 2 i), .int .i64 (hiE es 2 i)], .agg #[.int .i64 (min (loE es 2 i) ec), .int .i64 (max (hiE es 2 i) ec)]] _ _ (by rfl) ?_ ?_
            focus exact HSS.out _ (by have := hB.ext; (repeat (first | exact Ext.refl _ | (with_reducible assumption) | (with_reducible refine Ext.drew ?_) | (with_reducible refine Ext.alloc ?_ _) | (with_reducible refine Ext.drewN ?_ _) | (with_reducible refine Ext.setCell ?_ (by omega) _) | (with_reducible refine Ext.trans ?_ (by with_reducible assumption))))) ((hK2.setCell hT1 _).setCell hT1 _)
            focus exact ⟨b0, b1, true, c0, c1, true, s0, s1, true, rfl, rfl, ic0, is0, ic1, is1, (fun _ => rfl), (fun _ => rfl), hB.store 2 rfl kp2 (news2 d0 d1) (by intro o; rw [World.frozen?_setCell, World.frozen?_setCell]; exact df o), (hK2.setCell hT1 _).setCell hT1 _⟩
        focus
          rintro l vs wa ⟨b0, b1, b2, c0, c1, c2, s0, s1, s2, rfl, rfl, -, -, -, -, -, -, hB, hK2⟩ hr
          obtain rfl : b0 = true := not_ready hr 0 _ rfl (by simp) rfl
          obtain rfl : b1 = true := not_ready hr 7 _ rfl (by simp) rfl
          obtain rfl : b2 = true := not_ready hr 14 _ rfl (by simp) rfl
          obtain rfl : c0 = true := not_ready hr 6 _ rfl (by simp) rfl
          obtain rfl : c1 = true := not_ready hr 13 _ rfl (by simp) rfl
          obtain rfl : c2 = true := not_ready hr 20 _ rfl (by simp) rfl
          obtain rfl : s0 = true := not_ready hr 21 _ rfl (by simp) rfl
          obtain rfl : s1 = true := not_ready hr 22 _ rfl (by simp) rfl
          obtain rfl : s2 = true := not_ready hr 23 _ rfl (by simp) rfl
          clear hr
          clear HBX HKP
          have HBX : Hid (BxI W wa [(some T7, [.int .i64 (min (loE es 0 i) ea), .int .i64 (max (hiE es 0 i) ea)]), (some T8, [.int .i64 (min (loE es 1 i) ef), .int .i64 (max (hiE es 1 i) ef)]), (some T9, [.int .i64 (min (loE es 2 i) ec), .int .i64 (max (hiE es 2 i) ec)]), (some T10, [.int .i64 (loE es 3 i), .int .i64 (hiE es 3 i)]), (some T11, [.int .i64 (loE es 4 i), .int .i64 (hiE es 4 i)])]) := Lib.hid hB
          have HKP : Hid (KP (fun j => j < w1.heap.size) w2 wa) := Lib.hid hK2
          clear hB hK2
          simp only [cond_true, cond_false]
          (try simp only [Act.puts, Act.put, List.setIfInBounds_toArray, List.set_cons_zero, List.set_cons_succ])
          go_upto_region 8 with fail
          refine wp_region_held_drew (S := fun w' => (w'.cell? ⟨b, i * 4 + 1, none⟩ = some (.int .i64 ea) ∧ w'.cell? ⟨b, i * 4 + 2, none⟩ = some (.int .i64 ef) ∧ w'.cell? ⟨b, i * 4 + 3, none⟩ = some (.int .i64 ec)) ∧ Ext W w') (by kernel_rfl) ?_ (fun hHeld => ?_)
          focus ((try dsimp only); exact HSS.out _ (by have := HBX.out.ext; (repeat (first | exact Ext.refl _ | (with_reducible assumption) | (with_reducible refine Ext.drew ?_) | (with_reducible refine Ext.alloc ?_ _) | (with_reducible refine Ext.drewN ?_ _) | (with_reducible refine Ext.setCell ?_ (by omega) _) | (with_reducible refine Ext.trans ?_ (by with_reducible assumption))))) (HKP.out.drew))
          refine wpAnyH_take (i := 1) (v := ?_) rfl (by kernel_rfl) (by decide +kernel) (by decide +kernel) (fun _ _ _ h => h) (Or.inl ⟨by rfl, ?_⟩) (by assumption) ?_
          rotate_left
          focus (intro w hSw; (try dsimp only at hSw); go_simp; try (first | (with_reducible rfl) | (with_reducible exact rfl)))
          (try simp only [Act.put, List.getElem_toArray, List.getElem_cons_succ, List.getElem_cons_zero, List.setIfInBounds_toArray, List.set_cons_zero, List.set_cons_succ])
          refine wpAnyH_take (i := 2) (v := ?_) rfl (by kernel_rfl) (by decide +kernel) (by decide +kernel) (fun _ _ _ h => h) (Or.inl ⟨by rfl, ?_⟩) (by assumption) ?_
          rotate_left
          focus (intro w hSw; (try dsimp only at hSw); go_simp; try (first | (with_reducible rfl) | (with_reducible exact rfl)))
          (try simp only [Act.put, List.getElem_toArray, List.getElem_cons_succ, List.getElem_cons_zero, List.setIfInBounds_toArray, List.set_cons_zero, List.set_cons_succ])
          refine wpAnyH_take (i := 3) (v := ?_) rfl (by kernel_rfl) (by decide +kernel) (by decide +kernel) (fun _ _ _ h => h) (Or.inl ⟨by rfl, ?_⟩) (by assumption) ?_
          rotate_left
          focus (intro w hSw; (try dsimp only at hSw); go_simp; try (first | (with_reducible rfl) | (with_reducible exact rfl)))
          (try simp only [Act.put, List.getElem_toArray, List.getElem_cons_succ, List.getElem_cons_zero, List.setIfInBounds_toArray, List.set_cons_zero, List.set_cons_succ])
          refine wpAnyH_take (i := 4) (v := ?_) rfl (by kernel_rfl) (by decide +kernel) (by decide +kernel) (fun _ _ _ h => h) (Or.inl ⟨by rfl, ?_⟩) (by assumption) ?_
          rotate_left
          focus (intro w hSw; (try dsimp only at hSw); go_simp; try (first | (with_reducible rfl) | (with_reducible exact rfl)))
          (try simp only [Act.put, List.getElem_toArray, List.getElem_cons_succ, List.getElem_cons_zero, List.setIfInBounds_toArray, List.set_cons_zero, List.set_cons_succ])
          refine wpAnyH_take (i := 5) (v := ?_) rfl (by kernel_rfl) (by decide +kernel) (by decide +kernel) (fun _ _ _ h => h) (Or.inl ⟨by rfl, ?_⟩) (by assumption) ?_
          rotate_left
          focus (intro w hSw; (try dsimp only at hSw); go_simp; try (first | (with_reducible rfl) | (with_reducible exact rfl)))
          (try simp only [Act.put, List.getElem_toArray, List.getElem_cons_succ, List.getElem_cons_zero, List.setIfInBounds_toArray, List.set_cons_zero, List.set_cons_succ])
          refine wpAnyH_take (i := 6) (v := ?_) rfl (by kernel_rfl) (by decide +kernel) (by decide +kernel) (fun _ _ _ h => h) (Or.inl ⟨by rfl, ?_⟩) (by assumption) ?_
          rotate_left
          focus (intro w hSw; (try dsimp only at hSw); go_simp; try (first | (with_reducible rfl) | (with_reducible exact rfl)))
          (try simp only [Act.put, List.getElem_toArray, List.getElem_cons_succ, List.getElem_cons_zero, List.setIfInBounds_toArray, List.set_cons_zero, List.set_cons_succ])
          refine wpAnyH_take (i := 7) (v := ?_) rfl (by kernel_rfl) (by decide +kernel) (by decide +kernel) (fun _ _ _ h => h) (Or.inl ⟨by rfl, ?_⟩) (by assumption) ?_
          rotate_left
          focus (intro w hSw; (try dsimp only at hSw); go_simp; try (first | (with_reducible rfl) | (with_reducible exact rfl)))
          (try simp only [Act.put, List.getElem_toArray, List.getElem_cons_succ, List.getElem_cons_zero, List.setIfInBounds_toArray, List.set_cons_zero, List.set_cons_succ])
          refine wpAnyH_take (i := 8) (v := ?_) rfl (by kernel_rfl) (by decide +kernel) (by decide +kernel) (fun _ _ _ h => h) (Or.inl ⟨by rfl, ?_⟩) (by assumption) ?_
          rotate_left
          focus (intro w hSw; (try dsimp only at hSw); go_simp; try (first | (with_reducible rfl) | (with_reducible exact rfl)))
          (try simp only [Act.put, List.getElem_toArray, List.getElem_cons_succ, List.getElem_cons_zero, List.setIfInBounds_toArray, List.set_cons_zero, List.set_cons_succ])
          refine wpAnyH_take (i := 9) (v := ?_) rfl (by kernel_rfl) (by decide +kernel) (by decide +kernel) (fun _ _ _ h => h) (Or.inl ⟨by rfl, ?_⟩) (by assumption) ?_
          rotate_left
          focus (intro w hSw; (try dsimp only at hSw); go_simp; try (first | (with_reducible rfl) | (with_reducible exact rfl)))
          (try simp only [Act.put, List.getElem_toArray, List.getElem_cons_succ, List.getElem_cons_zero, List.setIfInBounds_toArray, List.set_cons_zero, List.set_cons_succ])
          refine wpAnyH_take (i := 10) (v := ?_) rfl (by kernel_rfl) (by decide +kernel) (by decide +kernel) (fun _ _ _ h => h) (Or.inl ⟨by rfl, ?_⟩) (by assumption) ?_
          rotate_left
          focus (intro w hSw; (try dsimp only at hSw); go_simp; try (first | (with_reducible rfl) | (with_reducible exact rfl)))
          (try simp only [Act.put, List.getElem_toArray, List.getElem_cons_succ, List.getElem_cons_zero, List.setIfInBounds_toArray, List.set_cons_zero, List.set_cons_succ])
          refine wpAnyH_take (i := 11) (v := ?_) rfl (by kernel_rfl) (by decide +kernel) (by decide +kernel) (fun _ _ _ h => h) (Or.inl ⟨by rfl, ?_⟩) (by assumption) ?_
          rotate_left
          focus (intro w hSw; (try dsimp only at hSw); go_simp; try (first | (with_reducible rfl) | (with_reducible exact rfl)))
          (try simp only [Act.put, List.getElem_toArray, List.getElem_cons_succ, List.getElem_cons_zero, List.setIfInBounds_toArray, List.set_cons_zero, List.set_cons_succ])
          refine wpAnyH_take (i := 14) (v := ?_) rfl (by kernel_rfl) (by decide +kernel) (by decide +kernel) (fun _ _ _ h => h) (Or.inl ⟨by rfl, ?_⟩) (by assumption) ?_
          rotate_left
          focus (intro w hSw; (try dsimp only at hSw); go_simp; try (first | (with_reducible rfl) | (with_reducible exact rfl)))
          (try simp only [Act.put, List.getElem_toArray, List.getElem_cons_succ, List.getElem_cons_zero, List.setIfInBounds_toArray, List.set_cons_zero, List.set_cons_succ])
          refine wpAnyH_take (i := 15) (v := ?_) rfl (by kernel_rfl) (by decide +kernel) (by decide +kernel) (fun _ _ _ h => h) (Or.inl ⟨by rfl, ?_⟩) (by assumption) ?_
          rotate_left
          focus (intro w hSw; (try dsimp only at hSw); go_simp; try (first | (with_reducible rfl) | (with_reducible exact rfl)))
          (try simp only [Act.put, List.getElem_toArray, List.getElem_cons_succ, List.getElem_cons_zero, List.setIfInBounds_toArray, List.set_cons_zero, List.set_cons_succ])
          refine wpAnyH_take (i := 16) (v := ?_) rfl (by kernel_rfl) (by decide +kernel) (by decide +kernel) (fun _ _ _ h => h) (Or.inl ⟨by rfl, ?_⟩) (by assumption) ?_
          rotate_left
          focus (intro w hSw; (try dsimp only at hSw); go_simp; try (first | (with_reducible rfl) | (with_reducible exact rfl)))
          (try simp only [Act.put, List.getElem_toArray, List.getElem_cons_succ, List.getElem_cons_zero, List.setIfInBounds_toArray, List.set_cons_zero, List.set_cons_succ])
          refine wpAnyH_take (i := 17) (v := ?_) rfl (by kernel_rfl) (by decide +kernel) (by decide +kernel) (fun _ _ _ h => h) (Or.inl ⟨by rfl, ?_⟩) (by assumption) ?_
          rotate_left
          focus (intro w hSw; (try dsimp only at hSw); go_simp; try (first | (with_reducible rfl) | (with_reducible exact rfl)))
          (try simp only [Act.put, List.getElem_toArray, List.getElem_cons_succ, List.getElem_cons_zero, List.setIfInBounds_toArray, List.set_cons_zero, List.set_cons_succ])
          refine wpAnyH_take (i := 18) (v := ?_) rfl (by kernel_rfl) (by decide +kernel) (by decide +kernel) (fun _ _ _ h => h) (Or.inl ⟨by rfl, ?_⟩) (by assumption) ?_
          rotate_left
          focus (intro w hSw; (try dsimp only at hSw); go_simp; try (first | (with_reducible rfl) | (with_reducible exact rfl)))
          (try simp only [Act.put, List.getElem_toArray, List.getElem_cons_succ, List.getElem_cons_zero, List.setIfInBounds_toArray, List.set_cons_zero, List.set_cons_succ])
          refine wpAnyH_take (i := 19) (v := ?_) rfl (by kernel_rfl) (by decide +kernel) (by decide +kernel) (fun _ _ _ h => h) (Or.inl ⟨by rfl, ?_⟩) (by assumption) ?_
          rotate_left
          focus (intro w hSw; (try dsimp only at hSw); go_simp; try (first | (with_reducible rfl) | (with_reducible exact rfl)))
          (try simp only [Act.put, List.getElem_toArray, List.getElem_cons_succ, List.getElem_cons_zero, List.setIfInBounds_toArray, List.set_cons_zero, List.set_cons_succ])
          refine wpAnyH_take (i := 20) (v := ?_) rfl (by kernel_rfl) (by decide +kernel) (by decide +kernel) (fun _ _ _ h => h) (Or.inl ⟨by rfl, ?_⟩) (by assumption) ?_
          rotate_left
          focus (intro w hSw; (try dsimp only at hSw); go_simp; try (first | (with_reducible rfl) | (with_reducible exact rfl)))
          (try simp only [Act.put, List.getElem_toArray, List.getElem_cons_succ, List.getElem_cons_zero, List.setIfInBounds_toArray, List.set_cons_zero, List.set_cons_succ])
          refine wpAnyH_take (i := 21) (v := ?_) rfl (by kernel_rfl) (by decide +kernel) (by decide +kernel) (fun _ _ _ h => h) (Or.inl ⟨by rfl, ?_⟩) (by assumption) ?_
          rotate_left
          focus (intro w hSw; (try dsimp only at hSw); go_simp; try (first | (with_reducible rfl) | (with_reducible exact rfl)))
          (try simp only [Act.put, List.getElem_toArray, List.getElem_cons_succ, List.getElem_cons_zero, List.setIfInBounds_toArray, List.set_cons_zero, List.set_cons_succ])
          refine wpAnyH_take (i := 22) (v := ?_) rfl (by kernel_rfl) (by decide +kernel) (by decide +kernel) (fun _ _ _ h => h) (Or.inl ⟨by rfl, ?_⟩) (by assumption) ?_
          rotate_left
          focus (intro w hSw; (try dsimp only at hSw); go_simp; try (first | (with_reducible rfl) | (with_reducible exact rfl)))
          (try simp only [Act.put, List.getElem_toArray, List.getElem_cons_succ, List.getElem_cons_zero, List.setIfInBounds_toArray, List.set_cons_zero, List.set_cons_succ])
          refine wpAnyH_take (i := 23) (v := ?_) rfl (by kernel_rfl) (by decide +kernel) (by decide +kernel) (fun _ _ _ h => h) (Or.inl ⟨by rfl, ?_⟩) (by assumption) ?_
          rotate_left
          focus (intro w hSw; (try dsimp only at hSw); go_simp; try (first | (with_reducible rfl) | (with_reducible exact rfl)))
          (try simp only [Act.put, List.getElem_toArray, List.getElem_cons_succ, List.getElem_cons_zero, List.setIfInBounds_toArray, List.set_cons_zero, List.set_cons_succ])
          refine wpAnyH_take (i := 24) (v := ?_) rfl (by kernel_rfl) (by decide +kernel) (by decide +kernel) (fun _ _ _ h => h) (Or.inl ⟨by rfl, ?_⟩) (by assumption) ?_
          rotate_left
          focus (intro w hSw; (try dsimp only at hSw); go_simp; try (first | (with_reducible rfl) | (with_reducible exact rfl)))
          (try simp only [Act.put, List.getElem_toArray, List.getElem_cons_succ, List.getElem_cons_zero, List.setIfInBounds_toArray, List.set_cons_zero, List.set_cons_succ])
          refine wpAnyH_invP [49, 61, 62, 74] [u49, u61, u62, u74] [false, true, true, true, true, true, true, true, true, true, true, true, false, false, true, true, true, true, true, true, true, true, true, true, true, false, false, false] [0, 12, 26, 13, 25, 27] (fun l vs w' => ∃ (b3 b4 c3 c4 s3 s4 : Bool), l = [b3, true, true, true, true, true, true, true, true, true, true, true, c3, b4, true, true, true, true, true, true, true, true, true, true, true, c4, s3, s4] ∧ vs = [(bif b3 then .agg #[.int .i64 (loE es 3 i), .int .i64 (hiE es 3 i)] else u49), (bif c3 then .agg #[.int .i64 (min (loE es 3 i) (ea - ef)), .int .i64 (max (hiE es 3 i) (ea - ef))] else u61), (bif b4 then .agg #[.int .i64 (loE es 4 i), .int .i64 (hiE es 4 i)] else u62), (bif c4 then .agg #[.int .i64 (min (loE es 4 i) (ea + ec)), .int .i64 (max (hiE es 4 i) (ea + ec))] else u74)] ∧ (c3 = true → b3 = true) ∧ (s3 = true → c3 = true) ∧ (c4 = true → b4 = true) ∧ (s4 = true → c4 = true) ∧ BxI W w' [(some T7, [.int .i64 (min (loE es 0 i) ea), .int .i64 (max (hiE es 0 i) ea)]), (some T8, [.int .i64 (min (loE es 1 i) ef), .int .i64 (max (hiE es 1 i) ef)]), (some T9, [.int .i64 (min (loE es 2 i) ec), .int .i64 (max (hiE es 2 i) ec)]), (some T10, (bif s3 then [.int .i64 (min (loE es 3 i) (ea - ef)), .int .i64 (max (hiE es 3 i) (ea - ef))] else [.int .i64 (loE es 3 i), .int .i64 (hiE es 3 i)])), (some T11, (bif s4 then [.int .i64 (min (loE es 4 i) (ea + ec)), .int .i64 (max (hiE es 4 i) (ea + ec))] else [.int .i64 (loE es 4 i), .int .i64 (hiE es 4 i)]))] ∧ KP (fun j => j < w1.heap.size) w2 w') (by kernel_rfl) (by rfl) (by decide) ?_ ?_ ?_ ?_
          focus exact ⟨false, false, false, false, false, false, rfl, rfl, nofun, nofun, nofun, nofun, HBX.out.more (by (repeat (first | exact Ext.refl _ | (with_reducible assumption) | (with_reducible refine Ext.drew ?_) | (with_reducible refine Ext.alloc ?_ _) | (with_reducible refine Ext.drewN ?_ _) | (with_reducible refine Ext.setCell ?_ (by omega) _) | (with_reducible refine Ext.trans ?_ (by with_reducible assumption))))), HKP.out.drew⟩
          focus
            rintro l vs w' ⟨b3, b4, c3, c4, s3, s4, rfl, rfl, -⟩ i hi
            (rcases i with _ | _ | _ | _ | _ | _ | _ | _ | _ | _ | _ | _ | _ | _ | _ | _ | _ | _ | _ | _ | _ | _ | _ | _ | _ | _ | _ | _ | i) <;> first | (simp; done) | (exfalso; simp at hi; done)
          focus
            intro i hi
            simp only [List.mem_cons, List.not_mem_nil, or_false] at hi
            rcases hi with rfl | rfl | rfl | rfl | rfl | rfl
            focus
              rintro l vs wa ⟨b3, b4, c3, c4, s3, s4, rfl, rfl, ic3, is3, ic4, is4, hB, hK2⟩ hb hd
              obtain rfl : b3 = false := by simpa using hb
              obtain rfl : c3 = false := by cases c3 with | false => rfl | true => exact absurd (ic3 rfl) (by simp)
              obtain rfl : s3 = false := by cases s3 with | false => rfl | true => exact absurd (is3 rfl) (by simp)
              have d0 := hB.cell 3 T10 _ rfl 0 _ rfl
              have d1 := hB.cell 3 T10 _ rfl 1 _ rfl
              refine ⟨_, rfl, fun K hK => ?_⟩
              (try simp only [Act.puts, Act.put, List.setIfInBounds_toArray, List.set_cons_zero, List.set_cons_succ])
              go_simp
              refine hK.out [.agg #[.int .i64 (loE es 3 i), .int .i64 (hiE es 3 i)], u61, (bif b4 then .agg #[.int .i64 (loE es 4 i), .int .i64 (hiE es 4 i)] else u62), (bif c4 then .agg #[.int .i64 (min (loE es 4 i) (ea + ec)), .int .i64 (max (hiE es 4 i) (ea + ec))] else u74)] _ _ (by rfl) ?_ ?_
              focus exact HSS.out _ (by have := hB.ext; (repeat (first | exact Ext.refl _ | (with_reducible assumption) | (with_reducible refine Ext.drew ?_) | (with_reducible refine Ext.alloc ?_ _) | (with_reducible refine Ext.drewN ?_ _) | (with_reducible refine Ext.setCell ?_ (by omega) _) | (with_reducible refine Ext.trans ?_ (by with_reducible assumption))))) (hK2)
              focus exact ⟨true, b4, false, c4, false, s4, rfl, rfl, nofun, nofun, ic4, is4, hB, hK2⟩
            focus
              rintro l vs wa ⟨b3, b4, c3, c4, s3, s4, rfl, rfl, ic3, is3, ic4, is4, hB, hK2⟩ hb hd
              obtain rfl : c3 = false := by simpa using hb
              obtain rfl : s3 = false := by cases s3 with | false => rfl | true => exact absurd (is3 rfl) (by simp)
              obtain rfl : b3 = true := by have h0 := hd _ rfl; have h := h0 ⟨0, .data⟩ (by simp) (by rfl); simpa using h
              refine ⟨_, rfl, fun K hK => ?_⟩
              (try simp only [cond_true, cond_false])
              (try simp only [Act.puts, Act.put, List.setIfInBounds_toArray, List.set_cons_zero, List.set_cons_succ])
              go_simp
              (with_reducible refine (HH.out _ _ _ _).mono ?_)
              rintro e w3 ⟨rfl, hx3⟩
              (try simp only [cond_true, cond_false])
              (try simp only [Act.puts, Act.put, List.setIfInBounds_toArray, List.set_cons_zero, List.set_cons_succ])
              (try go_simp)
              refine hK.out [.agg #[.int .i64 (loE es 3 i), .int .i64 (hiE es 3 i)], .agg #[.int .i64 (min (loE es 3 i) (ea - ef)), .int .i64 (max (hiE es 3 i) (ea - ef))], (bif b4 then .agg #[.int .i64 (loE es 4 i), .int .i64 (hiE es 4 i)] else u62), (bif c4 then .agg #[.int .i64 (min (loE es 4 i) (ea + ec)), .int .i64 (max (hiE es 4 i) (ea + ec))] else u74)] _ _ (by rfl) ?_ ?_
              focus exact HSS.out _ (by have := hB.ext; (repeat (first | exact Ext.refl _ | (with_reducible assumption) | (with_reducible refine Ext.drew ?_) | (with_reducible refine Ext.alloc ?_ _) | (with_reducible refine Ext.drewN ?_ _) | (with_reducible refine Ext.setCell ?_ (by omega) _) | (with_reducible refine Ext.trans ?_ (by with_reducible assumption))))) (hK2.ext hx3)
              focus exact ⟨true, b4, true, c4, false, s4, rfl, rfl, (fun _ => rfl), nofun, ic4, is4, hB.more hx3, hK2.ext hx3⟩
            focus
              rintro l vs wa ⟨b3, b4, c3, c4, s3, s4, rfl, rfl, ic3, is3, ic4, is4, hB, hK2⟩ hb hd
              obtain rfl : s3 = false := by simpa using hb
              obtain rfl : c3 = true := by have h0 := hd _ rfl; have h := h0 ⟨12, .data⟩ (by simp) (by rfl); simpa using h
              obtain rfl : b3 = true := ic3 rfl
              have d0 := hB.cell 3 T10 _ rfl 0 _ rfl
              have d1 := hB.cell 3 T10 _ rfl 1 _ rfl
              have df := hB.fr 3 T10 _ rfl
              have hTk := HT.out T10 (by simp)
              have hT0 := hTk.1
              have hT1 := hTk.2
              refine ⟨_, rfl, fun K hK => ?_⟩
              (try simp only [cond_true, cond_false])
              (try simp only [Act.puts, Act.put, List.setIfInBounds_toArray, List.set_cons_zero, List.set_cons_succ])
              go_simp
              refine hK.out [.agg #[.int .i64 (loE es 3 i), .int .i64 (hiE es 3 i)], .agg #[.int .i64 (min (loE es 3 i) (ea - ef)), .int .i64 (max (hiE es 3 i) (ea - ef))], (bif b4 then .agg #[.int .i64 (loE es 4 i), .int .i64 (hiE es 4 i)] else u62), (bif c4 then .agg #[.int .i64 (min (loE es 4 i) (ea + ec)), .int .i64 (max (hiE es 4 i) (ea + ec))] else u74)] _ _ (by rfl) ?_ ?_
              focus exact HSS.out _ (by have := hB.ext; (repeat (first | exact Ext.refl _ | (with_reducible assumption) | (with_reducible refine Ext.drew ?_) | (with_reducible refine Ext.alloc ?_ _) | (with_reducible refine Ext.drewN ?_ _) | (with_reducible refine Ext.setCell ?_ (by omega) _) | (with_reducible refine Ext.trans ?_ (by with_reducible assumption))))) ((hK2.setCell hT1 _).setCell hT1 _)
              focus exact ⟨true, b4, true, c4, true, s4, rfl, rfl, (fun _ => rfl), (fun _ => rfl), ic4, is4, hB.store 3 rfl kp2 (news2 d0 d1) (by intro o; rw [World.frozen?_setCell, World.frozen?_setCell]; exact df o), (hK2.setCell hT1 _).setCell hT1 _⟩
            focus
              rintro l vs wa ⟨b3, b4, c3, c4, s3, s4, rfl, rfl, ic3, is3, ic4, is4, hB, hK2⟩ hb hd
              obtain rfl : b4 = false := by simpa using hb
              obtain rfl : c4 = false := by cases c4 with | false => rfl | true => exact absurd (ic4 rfl) (by simp)
              obtain rfl : s4 = false := by cases s4 with | false => rfl | true => exact absurd (is4 rfl) (by simp)
              have d0 := hB.cell 4 T11 _ rfl 0 _ rfl
              have d1 := hB.cell 4 T11 _ rfl 1 _ rfl
              refine ⟨_, rfl, fun K hK => ?_⟩
              (try simp only [Act.puts, Act.put, List.setIfInBounds_toArray, List.set_cons_zero, List.set_cons_succ])
              go_simp
              refine hK.out [(bif b3 then .agg #[.int .i64 (loE es 3 i), .int .i64 (hiE es 3 i)] else u49), (bif c3 then .agg #[.int .i64 (min (loE es 3 i) (ea - ef)), .int .i64 (max (hiE es 3 i) (ea - ef))] else u61), .agg #[.int .i64 (loE es 4 i), .int .i64 (hiE es 4 i)], u74] _ _ (by rfl) ?_ ?_
              focus exact HSS.out _ (by have := hB.ext; (repeat (first | exact Ext.refl _ | (with_reducible assumption) | (with_reducible refine Ext.drew ?_) | (with_reducible refine Ext.alloc ?_ _) | (with_reducible refine Ext.drewN ?_ _) | (with_reducible refine Ext.setCell ?_ (by omega) _) | (with_reducible refine Ext.trans ?_ (by with_reducible assumption))))) (hK2)
              focus exact ⟨b3, true, c3, false, s3, false, rfl, rfl, ic3, is3, nofun, nofun, hB, hK2⟩
            focus
              rintro l vs wa ⟨b3, b4, c3, c4, s3, s4, rfl, rfl, ic3, is3, ic4, is4, hB, hK2⟩ hb hd
              obtain rfl : c4 = false := by simpa using hb
              obtain rfl : s4 = false := by cases s4 with | false => rfl | true => exact absurd (is4 rfl) (by simp)
              obtain rfl : b4 = true := by have h0 := hd _ rfl; have h := h0 ⟨13, .data⟩ (by simp) (by rfl); simpa using h
              refine ⟨_, rfl, fun K hK => ?_⟩
              (try simp only [cond_true, cond_false])
              (try simp only [Act.puts, Act.put, List.setIfInBounds_toArray, List.set_cons_zero, List.set_cons_succ])
              go_simp
              (with_reducible refine (HH.out _ _ _ _).mono ?_)
              rintro e w3 ⟨rfl, hx3⟩
              (try simp only [cond_true, cond_false])
              (try simp only [Act.puts, Act.put, List.setIfInBounds_toArray, List.set_cons_zero, List.set_cons_succ])
              (try go_simp)
              refine hK.out [(bif b3 then .agg #[.int .i64 (loE es 3 i), .int .i64 (hiE es 3 i)] else u49), (bif c3 then .agg #[.int .i64 (min (loE es 3 i) (ea - ef)), .int .i64 (max (hiE es 3 i) (ea - ef))] else u61), .agg #[.int .i64 (loE es 4 i), .int .i64 (hiE es 4 i)], .agg #[.int .i64 (min (loE es 4 i) (ea + ec)), .int .i64 (max (hiE es 4 i) (ea + ec))]] _ _ (by rfl) ?_ ?_
              focus exact HSS.out _ (by have := hB.ext; (repeat (first | exact Ext.refl _ | (with_reducible assumption) | (with_reducible refine Ext.drew ?_) | (with_reducible refine Ext.alloc ?_ _) | (with_reducible refine Ext.drewN ?_ _) | (with_reducible refine Ext.setCell ?_ (by omega) _) | (with_reducible refine Ext.trans ?_ (by with_reducible assumption))))) (hK2.ext hx3)
              focus exact ⟨b3, true, c3, true, s3, false, rfl, rfl, ic3, is3, (fun _ => rfl), nofun, hB.more hx3, hK2.ext hx3⟩
            focus
              rintro l vs wa ⟨b3, b4, c3, c4, s3, s4, rfl, rfl, ic3, is3, ic4, is4, hB, hK2⟩ hb hd
              obtain rfl : s4 = false := by simpa using hb
              obtain rfl : c4 = true := by have h0 := hd _ rfl; have h := h0 ⟨25, .data⟩ (by simp) (by rfl); simpa using h
              obtain rfl : b4 = true := ic4 rfl
              have d0 := hB.cell 4 T11 _ rfl 0 _ rfl
              have d1 := hB.cell 4 T11 _ rfl 1 _ rfl
              have df := hB.fr 4 T11 _ rfl
              have hTk := HT.out T11 (by simp)
              have hT0 := hTk.1
              have hT1 := hTk.2
              refine ⟨_, rfl, fun K hK => ?_⟩
              (try simp only [cond_true, cond_false])
              (try simp only [Act.puts, Act.put, List.setIfInBounds_toArray, List.set_cons_zero, List.set_cons_succ])
              go_simp
              refine hK.out [(bif b3 then .agg #[.int .i64 (loE es 3 i), .int .i64 (hiE es 3 i)] else u49), (bif c3 then .agg #[.int .i64 (min (loE es 3 i) (ea - ef)), .int .i64 (max (hiE es 3 i) (ea - ef))] else u61), .agg #[.int .i64 (loE es 4 i), .int .i64 (hiE es 4 i)], .agg #[.int .i64 (min (loE es 4 i) (ea + ec)), .int .i64 (max (hiE es 4 i) (ea + ec))]] _ _ (by rfl) ?_ ?_
              focus exact HSS.out _ (by have := hB.ext; (repeat (first | exact Ext.refl _ | (with_reducible assumption) | (with_reducible refine Ext.drew ?_) | (with_reducible refine Ext.alloc ?_ _) | (with_reducible refine Ext.drewN ?_ _) | (with_reducible refine Ext.setCell ?_ (by omega) _) | (with_reducible refine Ext.trans ?_ (by with_reducible assumption))))) ((hK2.setCell hT1 _).setCell hT1 _)
              focus exact ⟨b3, true, c3, true, s3, true, rfl, rfl, ic3, is3, (fun _ => rfl), (fun _ => rfl), hB.store 4 rfl kp2 (news2 d0 d1) (by intro o; rw [World.frozen?_setCell, World.frozen?_setCell]; exact df o), (hK2.setCell hT1 _).setCell hT1 _⟩
          focus
            rintro l vs wa ⟨b3, b4, c3, c4, s3, s4, rfl, rfl, -, -, -, -, hB, hK2⟩ hr
            obtain rfl : b3 = true := not_ready hr 0 _ rfl (by simp) rfl
            obtain rfl : b4 = true := not_ready hr 13 _ rfl (by simp) rfl
            obtain rfl : c3 = true := not_ready hr 12 _ rfl (by simp) rfl
            obtain rfl : c4 = true := not_ready hr 25 _ rfl (by simp) rfl
            obtain rfl : s3 = true := not_ready hr 26 _ rfl (by simp) rfl
            obtain rfl : s4 = true := not_ready hr 27 _ rfl (by simp) rfl
            clear hr
            simp only [cond_true, cond_false]
            (try simp only [Act.puts, Act.put, List.setIfInBounds_toArray, List.set_cons_zero, List.set_cons_succ])
            go_wp2_with fail
            go_roundw
            case rel => exact ⟨i + 1, by omega, by go_num, HNX.out _ hB hK2⟩
            case measure => simp [intOf]; omega
      · skip
        obtain rfl : i = es.length := by omega
        have hB := HI.out.1
        have HS9 : Hid (∀ w', KP (fun j => j < W.heap.size) wo w' → (w'.cell? ⟨T7, 0, none⟩ = some (.int .i64 (loE es 0 es.length)) ∧ w'.cell? ⟨T7, 1, none⟩ = some (.int .i64 (hiE es 0 es.length)) ∧ w'.cell? ⟨T8, 0, none⟩ = some (.int .i64 (loE es 1 es.length)) ∧ w'.cell? ⟨T8, 1, none⟩ = some (.int .i64 (hiE es 1 es.length)) ∧ w'.cell? ⟨T9, 0, none⟩ = some (.int .i64 (loE es 2 es.length)) ∧ w'.cell? ⟨T9, 1, none⟩ = some (.int .i64 (hiE es 2 es.length)) ∧ w'.cell? ⟨T10, 0, none⟩ = some (.int .i64 (loE es 3 es.length)) ∧ w'.cell? ⟨T11, 1, none⟩ = some (.int .i64 (hiE es 4 es.length))) ∧ KP (fun j => j < W.heap.size) wo w') := Lib.hid (fun w' hk => ⟨⟨hk.keep (by have := (HT.out T7 (by simp)).1; omega) (hB.cell 0 _ _ rfl 0 _ rfl), hk.keep (by have := (HT.out T7 (by simp)).1; omega) (hB.cell 0 _ _ rfl 1 _ rfl), hk.keep (by have := (HT.out T8 (by simp)).1; omega) (hB.cell 1 _ _ rfl 0 _ rfl), hk.keep (by have := (HT.out T8 (by simp)).1; omega) (hB.cell 1 _ _ rfl 1 _ rfl), hk.keep (by have := (HT.out T9 (by simp)).1; omega) (hB.cell 2 _ _ rfl 0 _ rfl), hk.keep (by have := (HT.out T9 (by simp)).1; omega) (hB.cell 2 _ _ rfl 1 _ rfl), hk.keep (by have := (HT.out T10 (by simp)).1; omega) (hB.cell 3 _ _ rfl 0 _ rfl), hk.keep (by have := (HT.out T11 (by simp)).1; omega) (hB.cell 4 _ _ rfl 1 _ rfl)⟩, hk⟩)
        have hxo := hB.ext
        obtain ⟨z0, z1, z2, z3, z4, z5, z6, z7⟩ := HRES.out wo hxo
        have zf0 : ∀ o, wo.frozen? ⟨w.heap.size + 1, o, none⟩ = false := fun o => (HFR.out wo hxo o).1
        have zf1 : ∀ o, wo.frozen? ⟨w.heap.size + 1 + 1, o, none⟩ = false := fun o => (HFR.out wo hxo o).2.1
        have zf2 : ∀ o, wo.frozen? ⟨w.heap.size + 1 + 1 + 1, o, none⟩ = false := fun o => (HFR.out wo hxo o).2.2.1
        have zf3 : ∀ o, wo.frozen? ⟨w.heap.size + 1 + 1 + 1 + 1, o, none⟩ = false := fun o => (HFR.out wo hxo o).2.2.2
        have XO : Ext w wo := X.trans hxo
        have hk1 : w.heap.size + 1 < W.heap.size := by omega
        have hk2 : w.heap.size + 1 + 1 < W.heap.size := by omega
        have hk3 : w.heap.size + 1 + 1 + 1 < W.heap.size := by omega
        have hk4 : w.heap.size + 1 + 1 + 1 + 1 < W.heap.size := by omega
        clear hB HI HT HR HBD HRES HFR HB2 hxo XW hn X HH hlt hi
        go_upto_region 9 with fail
        refine wp_region_held_drew (S := fun w' => (w'.cell? ⟨T7, 0, none⟩ = some (.int .i64 (loE es 0 es.length)) ∧ w'.cell? ⟨T7, 1, none⟩ = some (.int .i64 (hiE es 0 es.length)) ∧ w'.cell? ⟨T8, 0, none⟩ = some (.int .i64 (loE es 1 es.length)) ∧ w'.cell? ⟨T8, 1, none⟩ = some (.int .i64 (hiE es 1 es.length)) ∧ w'.cell? ⟨T9, 0, none⟩ = some (.int .i64 (loE es 2 es.length)) ∧ w'.cell? ⟨T9, 1, none⟩ = some (.int .i64 (hiE es 2 es.length)) ∧ w'.cell? ⟨T10, 0, none⟩ = some (.int .i64 (loE es 3 es.length)) ∧ w'.cell? ⟨T11, 1, none⟩ = some (.int .i64 (hiE es 4 es.length))) ∧ KP (fun j => j < W.heap.size) wo w') (by kernel_rfl) ?_ (fun hHeld => ?_)
        focus ((try dsimp only); exact HS9.out _ (KP.refl _).drew)
        refine wpAnyH_take (i := 0) (v := ?_) rfl (by kernel_rfl) (by decide +kernel) (by decide +kernel) (fun _ _ _ h => h) (Or.inl ⟨by rfl, ?_⟩) (by assumption) ?_
        rotate_left
        focus (intro w hSw; (try dsimp only at hSw); go_simp; try (first | (with_reducible rfl) | (with_reducible exact rfl)))
        (try simp only [Act.put, List.getElem_toArray, List.getElem_cons_succ, List.getElem_cons_zero, List.setIfInBounds_toArray, List.set_cons_zero, List.set_cons_succ])
        refine wpAnyH_take (i := 1) (v := ?_) rfl (by kernel_rfl) (by decide +kernel) (by decide +kernel) (fun _ _ _ h => h) (Or.inl ⟨by rfl, ?_⟩) (by assumption) ?_
        rotate_left
        focus (intro w hSw; (try dsimp only at hSw); go_simp; try (first | (with_reducible rfl) | (with_reducible exact rfl)))
        (try simp only [Act.put, List.getElem_toArray, List.getElem_cons_succ, List.getElem_cons_zero, List.setIfInBounds_toArray, List.set_cons_zero, List.set_cons_succ])
        refine wpAnyH_take (i := 2) (v := ?_) rfl (by kernel_rfl) (by decide +kernel) (by decide +kernel) (fun _ _ _ h => h) (Or.inl ⟨by rfl, ?_⟩) (by assumption) ?_
        rotate_left
        focus (intro w hSw; (try dsimp only at hSw); go_simp; try (first | (with_reducible rfl) | (with_reducible exact rfl)))
        (try simp only [Act.put, List.getElem_toArray, List.getElem_cons_succ, List.getElem_cons_zero, List.setIfInBounds_toArray, List.set_cons_zero, List.set_cons_succ])
        refine wpAnyH_take (i := 3) (v := ?_) rfl (by kernel_rfl) (by decide +kernel) (by decide +kernel) (fun _ _ _ h => h) (Or.inl ⟨by rfl, ?_⟩) (by assumption) ?_
        rotate_left
        focus (intro w hSw; (try dsimp only at hSw); go_simp; try (first | (with_reducible rfl) | (with_reducible exact rfl)))
        (try simp only [Act.put, List.getElem_toArray, List.getElem_cons_succ, List.getElem_cons_zero, List.setIfInBounds_toArray, List.set_cons_zero, List.set_cons_succ])
        refine wpAnyH_take (i := 4) (v := ?_) rfl (by kernel_rfl) (by decide +kernel) (by decide +kernel) (fun _ _ _ h => h) (Or.inl ⟨by rfl, ?_⟩) (by assumption) ?_
        rotate_left
        focus (intro w hSw; (try dsimp only at hSw); go_simp; try (first | (with_reducible rfl) | (with_reducible exact rfl)))
        (try simp only [Act.put, List.getElem_toArray, List.getElem_cons_succ, List.getElem_cons_zero, List.setIfInBounds_toArray, List.set_cons_zero, List.set_cons_succ])
        refine wpAnyH_take (i := 5) (v := ?_) rfl (by kernel_rfl) (by decide +kernel) (by decide +kernel) (fun _ _ _ h => h) (Or.inl ⟨by rfl, ?_⟩) (by assumption) ?_
        rotate_left
        focus (intro w hSw; (try dsimp only at hSw); go_simp; try (first | (with_reducible rfl) | (with_reducible exact rfl)))
        (try simp only [Act.put, List.getElem_toArray, List.getElem_cons_succ, List.getElem_cons_zero, List.setIfInBounds_toArray, List.set_cons_zero, List.set_cons_succ])
        refine wpAnyH_take (i := 6) (v := ?_) rfl (by kernel_rfl) (by decide +kernel) (by decide +kernel) (fun _ _ _ h => h) (Or.inl ⟨by rfl, ?_⟩) (by assumption) ?_
        rotate_left
        focus (intro w hSw; (try dsimp only at hSw); go_simp; try (first | (with_reducible rfl) | (with_reducible exact rfl)))
        (try simp only [Act.put, List.getElem_toArray, List.getElem_cons_succ, List.getElem_cons_zero, List.setIfInBounds_toArray, List.set_cons_zero, List.set_cons_succ])
        refine wpAnyH_take (i := 7) (v := ?_) rfl (by kernel_rfl) (by decide +kernel) (by decide +kernel) (fun _ _ _ h => h) (Or.inl ⟨by rfl, ?_⟩) (by assumption) ?_
        rotate_left
        focus (intro w hSw; (try dsimp only at hSw); go_simp; try (first | (with_reducible rfl) | (with_reducible exact rfl)))
        (try simp only [Act.put, List.getElem_toArray, List.getElem_cons_succ, List.getElem_cons_zero, List.setIfInBounds_toArray, List.set_cons_zero, List.set_cons_succ])
        refine wpAnyH_ready (rs := [8]) (by decide +kernel) (by simp) ?_
        refine AllReadyH.cons rfl (fun K hK => ?_) AllReadyH.nil
        go_simp
        refine hK.out _ _ ?_ (fun hNew => ?_)
        focus ((try dsimp only); refine HS9.out _ ?_; (repeat (first | exact KP.refl _ | (with_reducible refine KP.drew ?_) | (with_reducible refine KP.setCell ?_ (by assumption) _))))
        clear hK K hHeld
        have hHeld := hNew
        clear hNew
        (try simp only [Act.puts, Act.put, List.setIfInBounds_toArray, List.set_cons_zero, List.set_cons_succ])
        refine wpAnyH_ready (rs := [9]) (by decide +kernel) (by simp) ?_
        refine AllReadyH.cons rfl (fun K hK => ?_) AllReadyH.nil
        go_simp
        refine hK.out _ _ ?_ (fun hNew => ?_)
        focus ((try dsimp only); refine HS9.out _ ?_; (repeat (first | exact KP.refl _ | (with_reducible refine KP.drew ?_) | (with_reducible refine KP.setCell ?_ (by assumption) _))))
        clear hK K hHeld
        have hHeld := hNew
        clear hNew
        (try simp only [Act.puts, Act.put, List.setIfInBounds_toArray, List.set_cons_zero, List.set_cons_succ])
        refine wpAnyH_ready (rs := [10]) (by decide +kernel) (by simp) ?_
        refine AllReadyH.cons rfl (fun K hK => ?_) AllReadyH.nil
        go_simp
        refine hK.out _ _ ?_ (fun hNew => ?_)
        focus ((try dsimp only); refine HS9.out _ ?_; (repeat (first | exact KP.refl _ | (with_reducible refine KP.drew ?_) | (with_reducible refine KP.setCell ?_ (by assumption) _))))
        clear hK K hHeld
        have hHeld := hNew
        clear hNew
        (try simp only [Act.puts, Act.put, List.setIfInBounds_toArray, List.set_cons_zero, List.set_cons_succ])
        refine wpAnyH_ready (rs := [11]) (by decide +kernel) (by simp) ?_
        refine AllReadyH.cons rfl (fun K hK => ?_) AllReadyH.nil
        go_simp
        refine hK.out _ _ ?_ (fun hNew => ?_)
        focus ((try dsimp only); refine HS9.out _ ?_; (repeat (first | exact KP.refl _ | (with_reducible refine KP.drew ?_) | (with_reducible refine KP.setCell ?_ (by assumption) _))))
        clear hK K hHeld
        have hHeld := hNew
        clear hNew
        (try simp only [Act.puts, Act.put, List.setIfInBounds_toArray, List.set_cons_zero, List.set_cons_succ])
        refine wpAnyH_done (by decide +kernel) ?_ _
        go_wp2_with fail
        refine bodyPost_ret (v := .tuple #[.agg #[.int .i64 (loE es 0 es.length), .int .i64 (hiE es 0 es.length)], .agg #[.int .i64 (loE es 1 es.length), .int .i64 (hiE es 1 es.length)], .agg #[.int .i64 (loE es 2 es.length), .int .i64 (hiE es 2 es.length)], .agg #[.int .i64 (loE es 3 es.length), .int .i64 (hiE es 4 es.length)]]) (by simp [results, Tryz.results12, go_sem, z0, z1, z2, z3, z4, z5, z6, z7]) rfl ⟨rfl, ?_⟩
        (repeat (first | exact XO | (with_reducible refine Ext.drew ?_) | (refine Ext.setCell ?_ (by show w.heap.size ≤ _; omega) _)))
end Go.Proofs.YtedblocbcjoolaaGreat
