/- Contracts of layer 7's law: a case with other fields, if there are none, too. -/
import Derived.Test.YtbmjnilcinfdiaaGreatKYC
import Derived.Test.YtbmjnilcinfdiaaGreatKB5
set_option linter.unusedSimpArgs false
set_option linter.unusedVariables false
namespace Go.Proofs.YtbmjnilcinfdiaaGreat
open Go.RowKit Go.Hs
attribute [local irreducible] World.setCell World.alloc
set_option maxRecDepth 100000 in
set_option maxHeartbeats 4000000 in
theorem changedU_none (a1 : Option Addr) (n1 c1 : Nat) (day fee : Int) (a2 : Option Addr) (c2 : Nat) (w : World) :
    Calls Tryz.prog 41 #[.agg #[.slice a1 n1 c1, .int .i64 day, .int .i64 fee, .slice a2 0 c2]] w fun e w' => ∃ a q, e = .returned (.agg #[.slice a1 n1 c1, .int .i64 day, .int .i64 fee, .slice a 0 q]) ∧ Ext w w' := by
  obtain ⟨i9, hi9, hz90, hz91, hz92⟩ := info_parts info_rfld
  go_enter Tryz.func41, Tryz.ntmps41
  go_wp2_with (at_builtin; refine wpList_append_none rfl _ _ 23 rfl 45 i9 Tryz.underlying23 hi9 _ _ 0 0 _ (Nat.le_refl _) rfl rfl ?_)
  refine bodyPost_ret (v := .agg #[.slice a1 n1 c1, .int .i64 day, .int .i64 fee, .slice (some ⟨w.heap.size + 1 + 1 + 1, 0, none⟩) 0 0]) (by simp [results, Tryz.results41, go_sem]) rfl ⟨_, _, rfl, by (repeat (first | exact Ext.refl _ | (with_reducible assumption) | (with_reducible refine Ext.drew ?_) | (with_reducible refine Ext.alloc ?_ _) | (with_reducible refine Ext.drewN ?_ _) | (with_reducible refine Ext.setCell ?_ (by omega) _) | (with_reducible refine Ext.trans ?_ (by with_reducible assumption))))⟩
theorem changedU_all (c : Cas) (a1 : Option Addr) (n1 c1 : Nat) (day fee : Int) (a2 : Option Addr) (n2 c2 : Nat) (w : World) (hv : CasV w (.agg #[.slice a1 n1 c1, .int .i64 day, .int .i64 fee, .slice a2 n2 c2]) c) (hn : n2 = c.flds.length) (h3 : n2 ≤ 3) :
    Calls Tryz.prog 41 #[.agg #[.slice a1 n1 c1, .int .i64 day, .int .i64 fee, .slice a2 n2 c2]] w fun e w' => ∃ a q, e = .returned (.agg #[.slice a1 n1 c1, .int .i64 day, .int .i64 fee, .slice a n2 q]) ∧ (0 < n2 → ∃ g, a = some ⟨g, 0, none⟩ ∧ FldsAt w' g c.flds ∧ w.heap.size ≤ g) ∧ n2 ≤ q ∧ Ext w w' := by
  by_cases h0 : n2 = 0
  · subst h0
    exact (changedU_none a1 n1 c1 day fee a2 c2 w).mono (fun e w' ⟨a, q, h1, h2⟩ => ⟨a, q, h1, fun h => absurd h (Nat.lt_irrefl 0), Nat.zero_le _, h2⟩)
  · exact (changedU_any c a1 n1 c1 day fee a2 n2 c2 w hv hn (by omega) h3).mono (fun e w' ⟨g, q, h1, h2, h3, h4, h5⟩ => ⟨_, q, h1, fun _ => ⟨g, rfl, h2, h3⟩, h4, h5⟩)
end Go.Proofs.YtbmjnilcinfdiaaGreat
