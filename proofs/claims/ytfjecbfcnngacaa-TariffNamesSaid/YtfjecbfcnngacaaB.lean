/- Contracts: the small functions of package tariff. -/
import Derived.Test.YtfjecbfcnngacaaZ
namespace Go.Proofs.Ytfjecbfcnngacaa
open Go.RowKit Go.Hs

set_option maxHeartbeats 400000 in
theorem has_any (n lo hi : Int) (w : World) :
    Calls Try.prog 72 #[.agg #[.int .i64 lo, .int .i64 hi], .int .i64 n] w fun e w' => e = .returned (.bool (inR n lo hi)) ∧ Ext w w' := by
  go_enter Try.func72, Try.ntmps72
  go_wp2_with (go_at_call 74; refine (within_any _ _ _ _).mono ?_; rintro e w' ⟨rfl, rfl⟩)
  go_ret
  exact ⟨rfl, (Ext.refl _).alloc _⟩

def ofB (lo hi most : Int) : Bool := decide (0 ≤ lo) && decide (lo ≤ hi) && decide (hi ≤ most)
set_option maxHeartbeats 400000 in
theorem of_any (lo hi most : Int) (w : World) :
    Calls Try.prog 107 #[.agg #[.int .i64 lo, .int .i64 hi], .int .i64 most] w fun e w' => e = .returned (.bool (ofB lo hi most)) ∧ Ext w w' := by
  go_enter Try.func107, Try.ntmps107
  go_wp2
  all_goals
    go_ret
    refine ⟨ret_bool ?_, (Ext.refl _).alloc _⟩
    rw [Bool.eq_iff_iff]
    simp [ofB]
    try omega

set_option maxHeartbeats 400000 in
theorem few_any (u : V6) (t : Tar) (w : World) (h : TarU w u t) :
    Calls Try.prog 66 #[u.val] w fun e w' => e = .returned (.bool (fewB t)) ∧ Ext w w' := by
  obtain ⟨u0, u1, u2, u3, u4, u5⟩ := u
  obtain ⟨h0, h1, h2, g1, g2, ⟨a3, k3, q3, h3, h3', h33⟩, ⟨a4, k4, q4, h4, h4', h44⟩, ⟨a5, k5, q5, h5, h5', h55⟩⟩ := h
  subst h0 h1 h2 q3 q4 q5
  clear h33 h44 h55
  go_enter Try.func66, Try.ntmps66
  go_wp2
  all_goals
    go_ret
    refine ⟨ret_bool ?_, (Ext.refl _).alloc _⟩
    rw [Bool.eq_iff_iff]
    simp [fewB]
    try omega

set_option maxHeartbeats 400000 in
theorem rising1_any (xs : List Int) (most : Int) (i : Nat) (hi : i < xs.length) (bl bm : Nat) (w : World)
    (hl : w.cell? ⟨bl, 0, none⟩ = some (.int .i64 (prevOf xs i))) (hf : w.frozen? ⟨bl, 0, none⟩ = false) (hm : w.cell? ⟨bm, 0, none⟩ = some (.int .i64 most)) :
    Calls Try.prog 104 #[.int .i64 xs[i], .pointer (some ⟨bl, 0, none⟩), .pointer (some ⟨bm, 0, none⟩)] w fun e w' =>
      e = .returned (.bool (inR xs[i] (wrap64 (prevOf xs i + 1)) most)) ∧ w' = w.setCell ⟨bl, 0, none⟩ (.int .i64 xs[i]) := by
  generalize prevOf xs i = pv at *
  go_enter Try.func104, Try.ntmps104
  go_wp2_with (go_at_call 74; refine (within_any _ _ _ _).mono ?_; rintro e w' ⟨rfl, rfl⟩)
  go_ret
  exact ⟨rfl, rfl⟩

theorem fn_rising1 : FnOK 104 := fun args w => by simp [go_sem]
theorem fn_crop11 : FnOK 103 := fun args w => by simp [go_sem]
theorem fn_crop1 : FnOK 101 := fun args w => by simp [go_sem]
theorem fn_crop : FnOK 87 := fun args w => by simp [go_sem]
theorem fn_few : FnOK 66 := fun args w => by simp [go_sem]
theorem fn_valid : FnOK 67 := fun args w => by simp [go_sem]
theorem fn_claim : FnOK 90 := fun args w => by simp [go_sem]

set_option maxHeartbeats 400000 in
theorem rising_any (v : Value) (xs : List Int) (most : Int) (w : World) (hv : IntsV w v xs) :
    Calls Try.prog 88 #[v, .int .i64 most] w fun e w' => e = .returned (.bool (risesB xs most)) ∧ Ext w w' := by
  obtain ⟨a, c, rfl, h1, h2, hc, -⟩ := hv.cells
  by_cases hlen : 0 < xs.length
  · obtain ⟨b, off, rfl, hc0⟩ := hc 0 (by simpa using hlen)
    simp at hc0
    have hb := lt_of_cell (a := ⟨b, off, none⟩) hc0
    simp at hb
    have hm : (xs.map (Value.int .i64)).length = xs.length := by simp
    have hall := all_int 104 fn_rising1 #[] #[.pointer (some ⟨w.heap.size + 1, 0, none⟩), .pointer (some ⟨w.heap.size, 0, none⟩)] (some ⟨b, off, none⟩) c (xs.map (Value.int .i64))
      (fun i => inR (xs.getD i 0) (wrap64 (prevOf xs i + 1)) most)
      (fun i w' => Ext w w' ∧ w'.cell? ⟨w.heap.size + 1, 0, none⟩ = some (.int .i64 (prevOf xs i)) ∧ w'.frozen? ⟨w.heap.size + 1, 0, none⟩ = false ∧ w'.cell? ⟨w.heap.size, 0, none⟩ = some (.int .i64 most))
      ((w.alloc (.cells #[.int .i64 most] 3)).alloc (.cells #[.int .i64 (-1)] 3)) (by omega)
      (fun i w' h => hc.ext h.1)
      (fun i w' o h => ⟨h.1.alloc o, by
        have h2 := lt_of_cell (a := ⟨w.heap.size + 1, 0, none⟩) h.2.1
        simp at h2
        exact ⟨(Ext.refl w').alloc o |>.keep h.2.1, by rw [((Ext.refl w').alloc o).frozen h2]; exact h.2.2.1, (Ext.refl w').alloc o |>.keep h.2.2.2⟩⟩)
      (fun i hi w1 hs h => by
        have hi' : i < xs.length := by simpa using hi
        have e1 : (xs.map (Value.int .i64))[i] = .int .i64 xs[i] := by simp
        rw [e1]
        refine (rising1_any xs most i hi' (w.heap.size + 1) w.heap.size w1 h.2.1 h.2.2.1 h.2.2.2).mono ?_
        rintro e w2 ⟨rfl, rfl⟩
        refine ⟨ret_bool (by simp [hi']), ?_, ?_⟩
        · refine ⟨Below.setCell (p := ⟨w.heap.size + 1, 0, none⟩) h.1 (by simp) _, ?_, ?_, ?_⟩
          · rw [World.cell?_setCell_same (h := h.2.1)]; simp [prevOf, hi']
          · rw [World.frozen?_setCell]; exact h.2.2.1
          · rw [World.cell?_setCell_other (h := by simp)]; exact h.2.2.2
        · exact ⟨by simp, fun k hk _ => Below.heap_setCell w1 _ _ k (by simp at hk ⊢; omega)⟩)
      ⟨((Ext.refl w).alloc _).alloc _, by simp [prevOf], by simp, by simp⟩
    rw [hm] at hall
    have hz := hc0
    clear hc hv
    by_cases h0 : xs[0] = 0
    · have hd : (xs[0] == 0) = true := by simp [h0]
      clear h0
      go_enter Try.func88, Try.ntmps88
      go_wp2_with ((with_reducible refine hall.mono ?_); rintro e w2 ⟨i, hi, hI, rfl⟩)
      go_ret
      refine ⟨ret_bool ?_, hI.1⟩
      simp [risesB, hlen, hd]
    · have hd : (xs[0] == 0) = false := by simp [h0]
      clear h0
      go_enter Try.func88, Try.ntmps88
      go_wp2_with fail
      go_ret
      refine ⟨ret_bool ?_, ((Ext.refl w).alloc _).alloc _⟩
      simp [risesB, hlen, hd]
  · have h0 : xs = [] := by
      cases xs with
      | nil => rfl
      | cons x r => simp at hlen
    subst h0
    clear hc hv
    go_enter Try.func88, Try.ntmps88
    go_wp2_with fail
    go_ret
    refine ⟨ret_bool ?_, ((Ext.refl w).alloc _).alloc _⟩
    simp [risesB]
end Go.Proofs.Ytfjecbfcnngacaa
