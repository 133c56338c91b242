/- Contracts: what is valid. -/
import Derived.Test.YtfjecbfcnngacaaB
import Derived.Test.YtfjecbfcnngacaaM
namespace Go.Proofs.Ytfjecbfcnngacaa
open Go.RowKit Go.Hs

set_option maxHeartbeats 400000 in
theorem crop11_any (n : Int) (w : World) :
    Calls Try.prog 103 #[.int .i64 n] w fun e w' => e = .returned (.bool (inR n 0 100)) ∧ w = w' := by
  go_enter Try.func103, Try.ntmps103
  go_wp2_with (go_at_call 74; refine (within_any _ _ _ _).mono ?_; rintro e w' ⟨rfl, rfl⟩)
  go_ret
  exact ⟨rfl, rfl⟩

set_option maxHeartbeats 400000 in
theorem crop1_any (v : Value) (x : List Int) (bt m : Nat) (a4 : Option Addr) (k4 : Nat) (w : World) (hv : IntsV w v x)
    (hc : w.cell? ⟨bt, 4, none⟩ = some (.slice a4 m k4)) :
    Calls Try.prog 101 #[v, .pointer (some ⟨bt, 0, none⟩)] w fun e w' => e = .returned (.bool (rowB m x)) ∧ Ext w w' := by
  obtain ⟨a, c, rfl, h1, h2, hcs, -⟩ := hv.cells
  have hall := allx_int 103 fn_crop11 #[] #[] a c (x.map (Value.int .i64)) (fun i => inR (x.getD i 0) 0 100) w (by simpa using h2) hcs
    (fun i hi w1 _ => by
      have hi' : i < x.length := by simpa using hi
      have e1 : (x.map (Value.int .i64))[i] = .int .i64 x[i] := by simp
      rw [e1]
      refine (crop11_any x[i] w1).mono ?_
      rintro e w2 ⟨rfl, rfl⟩
      exact ⟨ret_bool (by simp [hi']), Ext.refl _⟩)
  have hl : (x.map (Value.int .i64)).length = x.length := by simp
  rw [hl] at hall
  clear hcs hv hl
  by_cases h : x.length = m
  · have hd : ((x.length : Int) == (m : Int)) = true := by simp [h]
    have H := Lib.hid h; clear h
    go_enter Try.func101, Try.ntmps101
    go_wp2_with ((with_reducible refine hall.mono ?_); rintro e w2 ⟨rfl, hI⟩)
    go_ret
    exact ⟨ret_bool (by simp [rowB, H.out]), hI⟩
  · have hd : ((x.length : Int) == (m : Int)) = false := by simp; omega
    have H := Lib.hid h; clear h
    go_enter Try.func101, Try.ntmps101
    go_wp2_with fail
    go_ret
    exact ⟨ret_bool (by simp [rowB, H.out]), Ext.refl _⟩

set_option maxHeartbeats 400000 in
theorem crop_any (u : V6) (t : Tar) (v : Value) (l : List (List Int)) (w : World) (h : TarU w u t) (hv : Ints2V w v l) :
    Calls Try.prog 87 #[u.val, v] w fun e w' => e = .returned (.bool (cropB t l)) ∧ Ext w w' := by
  obtain ⟨u0, u1, u2, u3, u4, u5⟩ := u
  obtain ⟨h0, h1, h2, g1, g2, ⟨a3, k3, q3, h3, h3', h33⟩, ⟨a4, k4, q4, h4, h4', h44⟩, h5⟩ := h
  subst h0 h1 h2 q3 q4
  clear h33 h44 h5
  obtain ⟨a, c, us, rfl, hl, hc1, hc2, hcs, hus⟩ := hv.cells
  have hall := allx_ints 101 fn_crop1 #[] #[.pointer (some ⟨w.heap.size, 0, none⟩)] a c us (fun i => rowB t.counts.length (l.getD i [])) (w.alloc (.cells #[.int .i64 t.start, .bool t.whole, .int .i64 t.least, .slice a3 t.weeks.length k3, .slice a4 t.counts.length k4, u5] 96)) hc2
    (hcs.ext ((Ext.refl w).alloc _))
    (fun i hi w1 hx => by
      refine (crop1_any us[i] l[i] w.heap.size t.counts.length a4 k4 w1 ((hus i hi (by omega)).ext (((Ext.refl w).alloc _).trans hx)) (hx.keep (by simp))).mono ?_
      rintro e w2 ⟨rfl, hx2⟩
      have : i < l.length := by omega
      exact ⟨ret_bool (by simp [this]), hx2⟩)
  have HL := Lib.hid hl; clear hl
  clear hcs hus hv
  by_cases h : us.length = t.weeks.length
  · have hd : ((us.length : Int) == (t.weeks.length : Int)) = true := by simp [h]
    have H := Lib.hid h; clear h
    go_enter Try.func87, Try.ntmps87
    go_wp2_with ((with_reducible refine hall.mono ?_); rintro e w2 ⟨rfl, hI⟩)
    go_ret
    exact ⟨ret_bool (by simp [cropB, HL.out.symm, H.out]), ((Ext.refl w).alloc _).trans hI⟩
  · have hd : ((us.length : Int) == (t.weeks.length : Int)) = false := by simp; omega
    have H := Lib.hid h; clear h
    go_enter Try.func87, Try.ntmps87
    go_wp2_with fail
    go_ret
    exact ⟨ret_bool (by simp [cropB, HL.out.symm, H.out]), (Ext.refl w).alloc _⟩

end Go.Proofs.Ytfjecbfcnngacaa
