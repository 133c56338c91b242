/- Contracts: the tariff of a day, and its week. -/
import Derived.Test.YtfjecbfcnngacaaE
namespace Go.Proofs.Ytfjecbfcnngacaa
open Go.RowKit Go.Hs

set_option maxHeartbeats 400000 in
theorem week_any (u : V6) (t : Tar) (d : Int) (w : World) (h : TarU w u t) :
    Calls Try.prog 94 #[u.val, .int .i64 d] w fun e w' => e = .returned (.int .i64 (weekTo t.weeks d t.weeks.length)) ∧ Ext w w' := by
  obtain ⟨u0, u1, u2, u3, u4, u5⟩ := u
  obtain ⟨h0, h1, h2, g1, g2, hwk, -, -⟩ := h
  simp only at h0 h1 h2 hwk
  subst h0 h1 h2
  obtain ⟨a, c, rfl, h1, h2, hcs, -⟩ := hwk.cells
  have X := (Ext.refl w).alloc (.cells #[.int .i64 t.start, .bool t.whole, .int .i64 t.least, .slice a t.weeks.length c, u4, u5] 96)
  have hcs' := hcs.ext X
  clear hwk hcs
  go_enter Try.func94, Try.ntmps94
  go_wp2_with fail
  generalize (w.alloc (.cells #[.int .i64 t.start, .bool t.whole, .int .i64 t.least, .slice a t.weeks.length c, u4, u5] 96)) = W at *
  go_loop [4, 5, 6, 10] (fun r i n c => ∃ k : Nat, k ≤ t.weeks.length ∧ c = .int .i64 k ∧ r = .int .i64 (weekTo t.weeks d k)) (fun _ _ _ i => t.weeks.length - (intOf i).toNat)
  case atStart => exact ⟨0, Nat.zero_le _, rfl, rfl⟩
  case round =>
    obtain ⟨k, hk, rfl, rfl⟩ := hrel
    by_cases hlt : k < t.weeks.length
    · obtain ⟨b, off, rfl, hc⟩ := hcs' k (by simpa using hlt)
      have hc' : W.cell? ⟨b, off + k, none⟩ = some (.int .i64 (t.weeks.getD k 0)) := by rw [hc]; simp [hlt]
      have hs := Lib.hid (weekTo_succ t.weeks d k)
      clear hcs' hc
      generalize t.weeks.getD k 0 = x at *
      generalize weekTo t.weeks d k = y at *
      by_cases hx : x ≤ d
      · go_wp2_with fail
        go_round
        case rel => exact ⟨k + 1, by omega, by go_num, by rw [hs.out, if_pos hx]⟩
        case measure => simp [intOf]; omega
      · go_wp2_with fail
        go_round
        case rel => exact ⟨k + 1, by omega, by go_num, by rw [hs.out, if_neg hx]⟩
        case measure => simp [intOf]; omega
    · have hk' : k = t.weeks.length := by omega
      subst hk'
      go_wp2_with fail
      go_ret
      exact ⟨rfl, X⟩

set_option maxHeartbeats 1000000 in
theorem at_any (v : Value) (l : List Tar) (d : Int) (wd w : World) (hv : TarsV wd v l) (hwd : Ext wd w) :
    Calls Try.prog 81 #[.agg #[v], .int .i64 d] w fun e w' => ∃ u : V6, e = .returned u.val ∧ TarU wd u (atS l d) ∧ Ext w w' := by
  obtain ⟨a, c, rfl, h1, h2, hr⟩ := hv
  have X1 := (Ext.refl w).alloc (.cells #[.slice a l.length c] 101)
  have X2 := X1.alloc (.cells #[.int .i64 0, .bool false, .int .i64 0, .slice none 0 0, .slice none 0 0, .slice none 0 0] 96)
  go_enter Try.func81, Try.ntmps81
  go_wp2_with fail
  go_loopw [6, 10] (fun p i wr => ∃ k : Nat, k ≤ l.length ∧ i = .int .i64 k ∧ AtInv w.heap.size wd w (atS (l.take k) d) wr) (fun _ i _ => l.length - (intOf i).toNat)
  case atStart => exact ⟨0, Nat.zero_le _, rfl, ⟨⟨_, _, _, _, _, _⟩, by simp [Cell6], AtInv.start _, fun o => by simp, X2⟩⟩
  case round =>
    obtain ⟨k, hk, rfl, hinv⟩ := hrel
    have HI := Lib.hid hinv
    obtain ⟨u, hcell, hu, hfr, hx⟩ := hinv
    by_cases hlt : k < l.length
    · obtain ⟨b, off, rfl, hta⟩ := hr k hlt
      obtain ⟨a3, k3, a4, k4, a5, k5, x0, x1, x2, x3, x4, x5, hT⟩ := hta.open
      have hs := Lib.hid (atS_take hlt d)
      clear hta hr
      generalize l[k] = t at *
      generalize atS (l.take k) d = y at *
      obtain ⟨y0, y1, y2, y3, y4, y5⟩ := hcell
      have hU : TarU wd ⟨.int .i64 t.start, .bool t.whole, .int .i64 t.least, .slice a3 t.weeks.length k3, .slice a4 t.counts.length k4, .slice a5 t.rates.length k5⟩ t := ⟨rfl, rfl, rfl, hT⟩
      have x0 := hx.keep (hwd.keep x0)
      have x1 := hx.keep (hwd.keep x1)
      have x2 := hx.keep (hwd.keep x2)
      have x3 := hx.keep (hwd.keep x3)
      have x4 := hx.keep (hwd.keep x4)
      have x5 := hx.keep (hwd.keep x5)
      have hb : b < wr.heap.size := lt_of_cell x0
      have hR : w.heap.size + 1 < wr.heap.size := lt_of_cell y0
      have f0 := hfr 0
      have f1 := hfr 1
      have f2 := hfr 2
      have f3 := hfr 3
      have f4 := hfr 4
      have f5 := hfr 5
      by_cases hxd : t.start ≤ d
      · go_wp2_with fail
        go_roundw
        case rel => exact ⟨k + 1, by omega, by go_num, by rw [hs.out, if_pos hxd]; exact AtInv.step HI.out (by omega) hU _⟩
        case measure => simp [intOf]; omega
      · go_wp2_with fail
        go_roundw
        case rel => exact ⟨k + 1, by omega, by go_num, by rw [hs.out, if_neg hxd]; exact AtInv.same HI.out _⟩
        case measure => simp [intOf]; omega
    · have hk' : k = l.length := by omega
      subst hk'
      rw [List.take_length] at hu
      have hR : w.heap.size + 1 < wr.heap.size := lt_of_cell hcell.1
      have HC := Lib.hid hcell
      have HU := Lib.hid hu
      obtain ⟨a3, k3, a4, k4, a5, k5, rfl⟩ := hu.slices
      obtain ⟨y0, y1, y2, y3, y4, y5⟩ := hcell
      simp only [Nat.zero_add] at y0 y1 y2 y3 y4 y5
      have f0 := hfr 0
      have f1 := hfr 1
      have f2 := hfr 2
      have f3 := hfr 3
      have f4 := hfr 4
      have f5 := hfr 5
      clear hu hr
      go_wp2_with fail
      have hfin := set6_cell (u := ⟨.int .i64 (atS l d).start, .bool (atS l d).whole, .int .i64 (atS l d).least, .slice a3 (atS l d).weeks.length k3, .slice a4 (atS l d).counts.length k4, .slice a5 (atS l d).rates.length k5⟩) HC.out
      have hxx : Ext w (World.set6 wr (w.heap.size + 1) ⟨.int .i64 (atS l d).start, .bool (atS l d).whole, .int .i64 (atS l d).least, .slice a3 (atS l d).weeks.length k3, .slice a4 (atS l d).counts.length k4, .slice a5 (atS l d).rates.length k5⟩) := hx.set6 (by omega) _
      obtain ⟨q0, q1, q2, q3, q4, q5⟩ := hfin
      simp only [Nat.zero_add, World.set6] at q0 q1 q2 q3 q4 q5
      exact bodyPost_ret (v := .agg #[.int .i64 (atS l d).start, .bool (atS l d).whole, .int .i64 (atS l d).least, .slice a3 (atS l d).weeks.length k3, .slice a4 (atS l d).counts.length k4, .slice a5 (atS l d).rates.length k5]) (by simp [results, Try.results81, go_sem, q0, q1, q2, q3, q4, q5]) rfl ⟨_, rfl, HU.out, hxx⟩
end Go.Proofs.Ytfjecbfcnngacaa
