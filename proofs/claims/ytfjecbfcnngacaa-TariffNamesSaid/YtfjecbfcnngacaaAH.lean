/- Thin: whether a list of tariffs is small. -/
import Derived.Test.YtfjecbfcnngacaaO
import Derived.Test.YtfjecbfcnngacaaA
namespace Go.Hs
open Go.RowKit
theorem thinB_no {l : List Tar} {k : Nat} (hk : k < l.length) (h : thinT (l.getD k default) = false) : thinB l = false := by
  rw [← Bool.not_eq_true]
  intro e
  simp only [thinB, Bool.and_eq_true, decide_eq_true_eq, allB_iff] at e
  rw [e.2 k hk] at h; cases h
theorem thinB_yes {l : List Tar} (h : l.length ≤ 5) (h' : ∀ m, m < l.length → thinT (l.getD m default) = true) : thinB l = true := by
  simp only [thinB, Bool.and_eq_true, decide_eq_true_eq, allB_iff]
  exact ⟨h, h'⟩
theorem thinT_no {t : Tar} (h : ¬ (t.weeks.length ≤ 7 ∧ t.counts.length ≤ 7 ∧ t.rates.length ≤ 5)) : thinT t = false := by
  rw [← Bool.not_eq_true]
  intro e
  simp only [thinT, Bool.and_eq_true, decide_eq_true_eq, allB_iff] at e
  exact h ⟨e.1.1.1, e.1.1.2, e.1.2⟩
theorem thinT_no2 {t : Tar} {c : Nat} (hc : c < t.rates.length) (h : thinC (t.rates.getD c []) = false) : thinT t = false := by
  rw [← Bool.not_eq_true]
  intro e
  simp only [thinT, Bool.and_eq_true, decide_eq_true_eq, allB_iff] at e
  rw [e.2 c hc] at h; cases h
theorem thinT_yes {t : Tar} (h : t.weeks.length ≤ 7 ∧ t.counts.length ≤ 7 ∧ t.rates.length ≤ 5) (h' : ∀ c, c < t.rates.length → thinC (t.rates.getD c []) = true) : thinT t = true := by
  simp only [thinT, Bool.and_eq_true, decide_eq_true_eq, allB_iff]
  exact ⟨⟨⟨h.1, h.2.1⟩, h.2.2⟩, h'⟩
theorem thinC_no {x : List (List Int)} (h : ¬ x.length ≤ 7) : thinC x = false := by
  rw [← Bool.not_eq_true]
  intro e
  simp only [thinC, Bool.and_eq_true, decide_eq_true_eq] at e
  exact h e.1
theorem thinC_no2 {x : List (List Int)} {j : Nat} (hj : j < x.length) (h : ¬ (x.getD j []).length ≤ 7) : thinC x = false := by
  rw [← Bool.not_eq_true]
  intro e
  simp only [thinC, Bool.and_eq_true, decide_eq_true_eq, allB_iff] at e
  exact h (e.2 j hj)
theorem thinC_yes {x : List (List Int)} (h : x.length ≤ 7) (h' : ∀ j, j < x.length → (x.getD j []).length ≤ 7) : thinC x = true := by
  simp only [thinC, Bool.and_eq_true, decide_eq_true_eq, allB_iff]
  exact ⟨h, h'⟩
theorem Ints3W.get {w : World} {a : Option Addr} {n c : Nat} {xs : List (List (List Int))} (h : Ints3W w (.slice a n c) xs) (i : Nat) (hi : i < xs.length) : ∃ b off a1 c1, a = some ⟨b, off, none⟩ ∧ w.cell? ⟨b, off + i, none⟩ = some (.slice a1 (xs.getD i []).length c1) ∧ Ints2W w (.slice a1 (xs.getD i []).length c1) (xs.getD i []) := by
  obtain ⟨a', c', he, -, -, hr⟩ := h
  cases he
  obtain ⟨b, off, he, v, hc, hv⟩ := hr i hi
  have hv' := hv
  obtain ⟨a1, c1, rfl, -⟩ := hv'
  have e : xs[i] = xs.getD i [] := by simp [hi]
  rw [← e]
  exact ⟨b, off, a1, c1, he, by simpa using hc, hv⟩
theorem Ints2W.get {w : World} {a : Option Addr} {n c : Nat} {xs : List (List Int)} (h : Ints2W w (.slice a n c) xs) (i : Nat) (hi : i < xs.length) : ∃ b off a1 c1, a = some ⟨b, off, none⟩ ∧ w.cell? ⟨b, off + i, none⟩ = some (.slice a1 (xs.getD i []).length c1) := by
  obtain ⟨a', c', he, -, -, hr⟩ := h
  cases he
  obtain ⟨b, off, he, v, hc, hv⟩ := hr i hi
  obtain ⟨a1, c1, rfl, -⟩ := hv
  have e : xs[i] = xs.getD i [] := by simp [hi]
  rw [← e]
  exact ⟨b, off, a1, c1, he, by simpa using hc⟩
end Go.Hs
namespace Go.Proofs.Ytfjecbfcnngacaa
open Go.RowKit Go.Hs
set_option maxRecDepth 100000 in
set_option maxHeartbeats 2000000 in
theorem Thin_any (v : Value) (l : List Tar) (w : World) (hv : TarsW w v l) :
    Calls Try.prog 18 #[v] w fun e w' => e = .returned (.bool (thinB l)) ∧ w = w' := by
  obtain ⟨a, c, rfl, h1, h2, hr⟩ := hv
  by_cases h5 : l.length ≤ 5
  · have HR := Lib.hid hr
    clear hr h2
    have HY : Hid ((∀ m, m < l.length → thinT (l.getD m default) = true) → thinB l = true) := fun h => thinB_yes h5 h
    have HN : Hid (∀ m, m < l.length → thinT (l.getD m default) = false → thinB l = false) := fun m h h' => thinB_no h h'
    generalize thinB l = res at *
    go_enter Try.func18, Try.ntmps18
    go_wp2_with fail
    go_loop [3, 4, 5] (fun s3 _ _ => ∃ k : Nat, k ≤ l.length ∧ s3 = .int .i64 k ∧ Hid (∀ m, m < k → thinT (l.getD m default) = true)) (fun i _ _ => l.length - (intOf i).toNat)
    case atStart => exact ⟨0, Nat.zero_le _, rfl, fun m hm => absurd hm (Nat.not_lt_zero _)⟩
    case round =>
      obtain ⟨k, hk, rfl, HA⟩ := hrel
      by_cases hlt : k < l.length
      · obtain ⟨b, off, rfl, c3, c4, c5, m0, m1, m2, m3, m4, m5, mc⟩ := HR.out k hlt
        have e1 : l[k] = l.getD k default := by simp [hlt]
        rw [e1] at m0 m1 m2 mc
        have HNk : Hid (thinT (l.getD k default) = false → res = false) := HN.out k hlt
        have HNX : Hid (thinT (l.getD k default) = true → ∀ m, m < k + 1 → thinT (l.getD m default) = true) := fun h => upTo_next HA.out h
        clear e1
        generalize l.getD k default = t at *
        obtain ⟨-, -, ⟨a3, k3, rfl, -⟩, ⟨a4, k4, rfl, -⟩, h5w⟩ := mc
        have h5w' := h5w
        obtain ⟨a5, k5, rfl, -⟩ := h5w'
        have H5W := Lib.hid h5w
        clear h5w m0 m1 m2
        by_cases hsm : t.weeks.length ≤ 7 ∧ t.counts.length ≤ 7 ∧ t.rates.length ≤ 5
        · have HTY : Hid ((∀ c, c < t.rates.length → thinC (t.rates.getD c []) = true) → thinT t = true) := fun h => thinT_yes hsm h
          have HTN : Hid (∀ c, c < t.rates.length → thinC (t.rates.getD c []) = false → thinT t = false) := fun c h h' => thinT_no2 h h'
          obtain ⟨s1, s2, s3⟩ := hsm
          go_wp2_with fail
          go_loop [4, 5] (fun s4 _ => ∃ d : Nat, d ≤ t.rates.length ∧ s4 = .int .i64 d ∧ Hid (∀ m, m < d → thinC (t.rates.getD m []) = true)) (fun i _ => t.rates.length - (intOf i).toNat)
          case atStart => exact ⟨0, Nat.zero_le _, rfl, fun m hm => absurd hm (Nat.not_lt_zero _)⟩
          case round =>
            obtain ⟨d, hd, rfl, HD⟩ := hrel
            by_cases hdl : d < t.rates.length
            · obtain ⟨b5, o5, a6, k6, rfl, g5, i6⟩ := H5W.out.get d hdl
              have HTd : Hid (thinC (t.rates.getD d []) = false → thinT t = false) := HTN.out d hdl
              have HDX : Hid (thinC (t.rates.getD d []) = true → ∀ m, m < d + 1 → thinC (t.rates.getD m []) = true) := fun h => upTo_next HD.out h
              generalize t.rates.getD d [] = crop at *
              have HI6 := Lib.hid i6
              clear i6
              by_cases hc7 : crop.length ≤ 7
              · have HCY : Hid ((∀ j, j < crop.length → (crop.getD j []).length ≤ 7) → thinC crop = true) := fun h => thinC_yes hc7 h
                have HCN : Hid (∀ j, j < crop.length → ¬ (crop.getD j []).length ≤ 7 → thinC crop = false) := fun j h h' => thinC_no2 h h'
                go_wp2_with fail
                go_loop [5] (fun s5 => ∃ j : Nat, j ≤ crop.length ∧ s5 = .int .i64 j ∧ Hid (∀ m, m < j → (crop.getD m []).length ≤ 7)) (fun i => crop.length - (intOf i).toNat)
                case atStart => exact ⟨0, Nat.zero_le _, rfl, fun m hm => absurd hm (Nat.not_lt_zero _)⟩
                case round =>
                  obtain ⟨j, hj, rfl, HJ⟩ := hrel
                  by_cases hjl : j < crop.length
                  · obtain ⟨b6, o6, a7, k7, rfl, g6⟩ := HI6.out.get j hjl
                    have HJN : Hid (¬ (crop.getD j []).length ≤ 7 → thinC crop = false) := HCN.out j hjl
                    have HJX : Hid ((crop.getD j []).length ≤ 7 → ∀ m, m < j + 1 → (crop.getD m []).length ≤ 7) := fun h => upTo_next HJ.out h
                    generalize (crop.getD j []).length = nr at *
                    by_cases hn : nr ≤ 7
                    · go_wp2_with fail
                      go_round
                      case rel => exact ⟨j + 1, by omega, by go_num, HJX.out hn⟩
                      case measure => simp [intOf]; omega
                    · have HE := Lib.hid (HNk.out (HTd.out (HJN.out hn)))
                      go_wp2_with fail
                      go_ret
                      exact ⟨congrArg (fun x => Ending.returned (.bool x)) HE.out.symm, rfl⟩
                  · have e : j = crop.length := by omega
                    subst e
                    have HE := Lib.hid (HDX.out (HCY.out HJ.out))
                    go_wp2_with fail
                    go_round
                    case rel => exact ⟨d + 1, by omega, by go_num, HE.out⟩
                    case measure => simp [intOf]; omega
              · have HE := Lib.hid (HNk.out (HTd.out (thinC_no hc7)))
                go_wp2_with fail
                go_ret
                exact ⟨congrArg (fun x => Ending.returned (.bool x)) HE.out.symm, rfl⟩
            · have e : d = t.rates.length := by omega
              subst e
              have HE := Lib.hid (HNX.out (HTY.out HD.out))
              go_wp2_with fail
              go_round
              case rel => exact ⟨k + 1, by omega, by go_num, HE.out⟩
              case measure => simp [intOf]; omega
        · have HE := Lib.hid (HNk.out (thinT_no hsm))
          go_wp2_with fail
          all_goals go_ret
          all_goals exact ⟨congrArg (fun x => Ending.returned (.bool x)) HE.out.symm, rfl⟩
      · have e : k = l.length := by omega
        subst e
        have HE := Lib.hid (HY.out HA.out)
        go_wp2_with fail
        go_ret
        exact ⟨congrArg (fun x => Ending.returned (.bool x)) HE.out.symm, rfl⟩
  · have e : thinB l = false := by simp [thinB, h5]
    rw [e]
    clear hr e
    go_enter Try.func18, Try.ntmps18
    go_wp2_with fail
    go_ret
    exact ⟨rfl, rfl⟩
end Go.Proofs.Ytfjecbfcnngacaa
