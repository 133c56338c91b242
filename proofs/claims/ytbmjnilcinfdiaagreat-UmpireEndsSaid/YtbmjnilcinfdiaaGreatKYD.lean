/- Contracts of layer 7's law: whether a number is in a list, or within a range. -/
import Derived.Test.YtbmjnilcinfdiaaGreatKVT
set_option linter.unusedSimpArgs false
set_option linter.unusedVariables false
namespace Go.Proofs.YtbmjnilcinfdiaaGreat
open Go.RowKit Go.Hs
attribute [local irreducible] World.setCell World.alloc
set_option maxRecDepth 100000 in
set_option maxHeartbeats 2000000 in
theorem hasU_any (v : Value) (xs : List Int) (n : Int) (w : World) (hv : IntsV w v xs) :
    Calls Tryz.prog 35 #[v, .int .i64 n] w fun e w' => e = .returned (.bool (decide (n ∈ xs))) ∧ Ext w w' := by
  obtain ⟨a, c, rfl, -, hlen, hcl, -⟩ := hv.cells
  have HCL := Lib.hid hcl
  clear hv hcl
  go_enter Tryz.func35, Tryz.ntmps35
  go_wp2_with fail
  go_loop [5] (fun s5 => ∃ i : Nat, i ≤ xs.length ∧ s5 = .int .i64 i ∧ Hid (∀ m, m < i → xs.getD m 0 ≠ n)) (fun s => xs.length - (intOf s).toNat)
  case atStart => exact ⟨0, Nat.zero_le _, rfl, Lib.hid (fun m hm => absurd hm (Nat.not_lt_zero m))⟩
  case round =>
    obtain ⟨i, hi, rfl, HI⟩ := hrel
    by_cases hlt : i < xs.length
    · obtain ⟨b, off, rfl, hc⟩ := HCL.out i (by simpa using hlt)
      have e1 : (xs.map (Value.int .i64))[i]'(by simpa using hlt) = .int .i64 (xs[i]) := by simp
      rw [e1] at hc
      clear e1
      have hx : xs.getD i 0 = xs[i] := by simp [hlt]
      by_cases he : xs[i] = n
      · have HD : Hid (decide (n ∈ xs) = true) := Lib.hid (decide_eq_true (he ▸ List.getElem_mem hlt))
        have hb : (xs[i] == n) = true := by simp [he]
        generalize xs[i] = y at *
        clear HCL hx he HI
        generalize xs.length = len at *
        go_wp2_with fail
        go_ret
        exact ⟨ret_bool HD.out.symm, Ext.refl _⟩
      · have hb : (xs[i] == n) = false := by simp [he]
        have HI' : Hid (∀ m, m < i + 1 → xs.getD m 0 ≠ n) := Lib.hid (fun m hm => by
          rcases Nat.lt_succ_iff_lt_or_eq.1 hm with h | h
          · exact HI.out m h
          · subst h; rw [hx]; exact he)
        clear hx HI
        generalize xs[i] = y at *
        clear he
        go_wp2_with fail
        go_round
        case rel => exact ⟨i + 1, by omega, by go_num, HI'⟩
        case measure => simp [intOf]; omega
    · have ei : i = xs.length := by omega
      have HD : Hid (decide (n ∈ xs) = false) := Lib.hid (decide_eq_false (fun hm => by
        obtain ⟨m, hm, e⟩ := List.getElem_of_mem hm
        have := HI.out m (by omega)
        rw [List.getD_eq_getElem?_getD, List.getElem?_eq_getElem hm] at this
        exact this e))
      subst ei
      clear HI HCL
      generalize xs.length = len at *
      go_wp2_with fail
      go_ret
      exact ⟨ret_bool HD.out.symm, Ext.refl _⟩
set_option maxRecDepth 100000 in
theorem withinU_any (n a b : Int) (w : World) :
    Calls Tryz.prog 47 #[.int .i64 n, .agg #[.int .i64 a, .int .i64 b]] w fun e w' => e = .returned (.bool (decide (a ≤ n) && decide (n ≤ b))) ∧ Ext w w' := by
  by_cases h1 : a ≤ n
  · by_cases h2 : n ≤ b
    · go_enter Tryz.func47, Tryz.ntmps47
      go_wp2_with fail
      go_ret
      exact ⟨ret_bool (by simp [h1, h2]), by (repeat (first | exact Ext.refl _ | (with_reducible assumption) | (with_reducible refine Ext.drew ?_) | (with_reducible refine Ext.alloc ?_ _) | (with_reducible refine Ext.drewN ?_ _) | (with_reducible refine Ext.setCell ?_ (by omega) _) | (with_reducible refine Ext.trans ?_ (by with_reducible assumption))))⟩
    · go_enter Tryz.func47, Tryz.ntmps47
      go_wp2_with fail
      go_ret
      exact ⟨ret_bool (by simp [h1, h2]), by (repeat (first | exact Ext.refl _ | (with_reducible assumption) | (with_reducible refine Ext.drew ?_) | (with_reducible refine Ext.alloc ?_ _) | (with_reducible refine Ext.drewN ?_ _) | (with_reducible refine Ext.setCell ?_ (by omega) _) | (with_reducible refine Ext.trans ?_ (by with_reducible assumption))))⟩
  · go_enter Tryz.func47, Tryz.ntmps47
    go_wp2_with fail
    go_ret
    exact ⟨ret_bool (by simp; omega), by (repeat (first | exact Ext.refl _ | (with_reducible assumption) | (with_reducible refine Ext.drew ?_) | (with_reducible refine Ext.alloc ?_ _) | (with_reducible refine Ext.drewN ?_ _) | (with_reducible refine Ext.setCell ?_ (by omega) _) | (with_reducible refine Ext.trans ?_ (by with_reducible assumption))))⟩
end Go.Proofs.YtbmjnilcinfdiaaGreat
