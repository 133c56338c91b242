/- Contracts: the loss. -/
import Derived.Test.YtfjecbfcnngacaaF
namespace Go.Proofs.Ytfjecbfcnngacaa
open Go.RowKit Go.Hs

set_option maxHeartbeats 400000 in
theorem less_any (a b : Int) (w : World) :
    Calls Try.prog 111 #[.int .i64 a, .int .i64 b] w fun e w' => e = .returned (.bool (decide (a < b))) ∧ w = w' := by
  by_cases h : a < b
  · go_enter Try.func111, Try.ntmps111
    go_wp2
    go_ret
    exact ⟨ret_bool (by simp [h]), rfl⟩
  · have hd : decide (a < b) = false := by simp; omega
    go_enter Try.func111, Try.ntmps111
    go_wp2
    go_ret
    exact ⟨ret_bool (by simp), rfl⟩

set_option maxHeartbeats 400000 in
theorem isnan_any (a : Int) (w : World) :
    Calls Try.prog 112 #[.int .i64 a] w fun e w' => e = .returned (.bool false) ∧ w = w' := by
  go_enter Try.func112, Try.ntmps112
  go_wp2
  go_ret
  exact ⟨ret_bool (by simp), rfl⟩

set_option maxRecDepth 100000 in
set_option maxHeartbeats 1000000 in
theorem search_any (v : Value) (xs : List Int) (x : Int) (w : World) (hv : IntsV w v xs) (hs : Sorted xs) :
    Calls Try.prog 95 #[v, .int .i64 x] w (SearchPost xs x w) := by
  obtain ⟨a, c, rfl, h1, h2, hcs, -⟩ := hv.cells
  have HS := Lib.hid hs
  clear hv hs
  go_enter Try.func95, Try.ntmps95
  go_wp2_with fail
  go_loop [7, 8, 9] (fun i j h => ∃ p q : Nat, p ≤ q ∧ q ≤ xs.length ∧ i = .int .i64 p ∧ j = .int .i64 q ∧ Hid ((∀ m, m < p → xs.getD m 0 < x) ∧ (∀ m, q ≤ m → m < xs.length → x ≤ xs.getD m 0))) (fun i j _ => (intOf j).toNat - (intOf i).toNat)
  case atStart => exact ⟨0, xs.length, by omega, Nat.le_refl _, rfl, rfl, ⟨fun m hm => absurd hm (Nat.not_lt_zero _), fun m h1 h2 => by omega⟩⟩
  case round =>
    obtain ⟨p, q, hpq, hq, rfl, rfl, HP⟩ := hrel
    by_cases hlt : p < q
    · have hm : (p + q) / 2 < xs.length := by omega
      obtain ⟨b, off, rfl, hc⟩ := hcs ((p + q) / 2) (by simpa using hm)
      have hc' : w.cell? ⟨b, off + (p + q) / 2, none⟩ = some (.int .i64 (xs.getD ((p + q) / 2) 0)) := by rw [hc]; simp [hm]
      clear hc hcs
      generalize hy : xs.getD ((p + q) / 2) 0 = y at *
      have HY := Lib.hid hy; clear hy
      by_cases hyx : y < x
      · have hd : decide (y < x) = true := by simp [hyx]
        go_wp2_with (go_at_call 111; refine (less_any _ _ _).mono ?_; rintro e w' ⟨rfl, rfl⟩)
        go_round
        case rel => exact ⟨(p + q) / 2 + 1, q, by omega, hq, by go_num, rfl, fun m hm' => by
          have := HS.out m ((p + q) / 2) (by omega) hm
          rw [HY.out] at this; omega, HP.out.2⟩
        case measure => simp [intOf]; omega
      · have hd : decide (y < x) = false := by simp; omega
        go_wp2_with (go_at_call 111; refine (less_any _ _ _).mono ?_; rintro e w' ⟨rfl, rfl⟩)
        go_round
        case rel => exact ⟨p, (p + q) / 2, by omega, by omega, rfl, by go_num, HP.out.1, fun m h1 h2 => by
          have := HS.out ((p + q) / 2) m h1 h2
          rw [HY.out] at this; omega⟩
        case measure => simp [intOf]; omega
    · have hk' : p = q := by omega
      subst hk'
      clear hlt
      by_cases hm : p < xs.length
      · obtain ⟨b, off, rfl, hc⟩ := hcs p (by simpa using hm)
        have hc' : w.cell? ⟨b, off + p, none⟩ = some (.int .i64 (xs.getD p 0)) := by rw [hc]; simp [hm]
        clear hc hcs
        generalize hy : xs.getD p 0 = y at *
        have HY := Lib.hid hy; clear hy
        by_cases hyx : y = x
        · subst hyx
          go_wp2_with (first | (go_at_call 112; refine (isnan_any _ _).mono ?_; rintro e w' ⟨rfl, rfl⟩))
          go_ret2
          exact ⟨p, ⟨hq, HP.out⟩, by rw [show decide (p < xs.length ∧ xs.getD p 0 = y) = true from decide_eq_true ⟨hm, HY.out⟩]; simp, rfl⟩
        · have hd : (y == x) = false := by simp [hyx]
          have HN := Lib.hid hyx; clear hyx
          go_wp2_with (first | (go_at_call 112; refine (isnan_any _ _).mono ?_; rintro e w' ⟨rfl, rfl⟩))
          go_ret2
          exact ⟨p, ⟨hq, HP.out⟩, by rw [show decide (p < xs.length ∧ xs.getD p 0 = x) = false from decide_eq_false (fun h => HN.out (HY.out ▸ h.2))]; simp, rfl⟩
      · go_wp2_with fail
        go_ret2
        exact ⟨p, ⟨hq, HP.out⟩, by rw [show decide (p < xs.length ∧ xs.getD p 0 = x) = false from decide_eq_false (fun h => hm h.1)]; simp, rfl⟩
end Go.Proofs.Ytfjecbfcnngacaa
