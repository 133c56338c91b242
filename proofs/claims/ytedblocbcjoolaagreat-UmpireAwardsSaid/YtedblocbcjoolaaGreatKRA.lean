/- Contracts of the reference of layer 7: all three counts of a field. -/
import Derived.Test.YtedblocbcjoolaaGreatKB6
import Derived.Test.YtedblocbcjoolaaGreatKB9
import Derived.Test.YtedblocbcjoolaaGreatKB5
set_option linter.unusedSimpArgs false
set_option linter.unusedVariables false
namespace Go.Hs
open Go.RowKit
def thrsTo (g : Nat → Thr) (n : Nat) : List Thr := (List.range n).map g
theorem thrsTo_len (g : Nat → Thr) (n : Nat) : (thrsTo g n).length = n := by simp [thrsTo]
theorem thrsTo_next (g : Nat → Thr) (n : Nat) : thrsTo g (n + 1) = thrsTo g n ++ [g n] := by unfold thrsTo; rw [List.range_succ, List.map_append]; rfl
/-- A list of truths that is being built in a variable. -/
def ThrRow (B e : Nat) (g : Nat → Thr) (n : Nat) (v : Value) (W : World) : Prop := W.ownsRow B e 3 v n ((thrsTo g n).flatMap (fun x => x.c.cs))
theorem ThrRow.nil (B e : Nat) (g : Nat → Thr) (W : World) : ThrRow B e g 0 (.slice none 0 0) W := World.ownsRow_nil _ _ _ _
theorem ThrRow.ext {B e n : Nat} {g : Nat → Thr} {v : Value} {W W' : World} (h : ThrRow B e g n v W) (hx : Ext W W') : ThrRow B e g n v W' := own_keep h (fun _ hg => hx.heap (own_lt h hg).2)
theorem ThrRow.base {B D e n : Nat} {g : Nat → Thr} {v : Value} {W : World} (h : ThrRow B e g n v W) (hd : D ≤ B) : ThrRow D e g n v W := by
  unfold ThrRow at h ⊢
  refine ⟨h.1, ?_⟩
  rcases h.2 with h | ⟨g, cap, cur, h1, h2, h3⟩
  · exact .inl h
  · exact .inr ⟨g, cap, cur, h1, Nat.le_trans hd h2, h3⟩
theorem ThrRow.next {B e n : Nat} {g : Nat → Thr} {v' : Value} {W' : World} {x : Thr} (hown : W'.ownsRow B e 3 v' (n + 1) ((thrsTo g n).flatMap (fun x => x.c.cs) ++ x.c.cs)) (hx : g n = x) : ThrRow B e g (n + 1) v' W' := by
  unfold ThrRow
  rw [thrsTo_next, List.flatMap_append, hx]
  simpa using hown
theorem cell_three_new (w : World) (u : V3) (t : TypeId) : ∀ j x, u.cs[j]? = some x → (w.alloc (.cells #[u.c0, u.c1, u.c2] t)).cell? ((⟨w.heap.size, 0, none⟩ : Addr).add j) = some x := by
  intro j x h
  rcases j with _ | _ | _ | j
  · simp at h; subst h; simp [go_sem, Addr.add]
  · simp at h; subst h; simp [go_sem, Addr.add]
  · simp at h; subst h; simp [go_sem, Addr.add]
  · simp at h
theorem szR_eq {lo hi : Int} (h : lo ≤ hi) : ((szR lo hi : Nat) : Int) = hi - lo + 1 := by unfold szR; omega
theorem truthsN_le {l : List Tar} {f : Fld} (h : FldOK l f) : truthsN f ≤ 125 := by
  have h1 := h.a; have h2 := h.b; have h3 := h.u
  have e1 : szR f.alo f.ahi ≤ 5 := by unfold szR; omega
  have e2 : szR f.blo f.bhi ≤ 5 := by unfold szR; omega
  have e3 : szR f.ulo f.uhi ≤ 5 := by unfold szR; omega
  unfold truthsN
  exact Nat.le_trans (Nat.mul_le_mul (Nat.mul_le_mul e1 e2) e3) (by decide)
end Go.Hs
namespace Go.Proofs.YtedblocbcjoolaaGreat
open Go.RowKit Go.Hs
attribute [local irreducible] World.setCell World.alloc
theorem info_rthree : (Tryz.prog.info? 132).map (fun i => (i.zero, i.size, i.bytes)) = some (some (.agg #[.int .i64 0, .int .i64 0, .int .i64 0]), 3, 24) := by kernel_rfl

set_option maxRecDepth 100000 in
set_option maxHeartbeats 4000000 in
theorem REvery_any (l : List Tar) (f : Fld) (hf : FldOK l f) (w : World) :
    Calls Tryz.prog 61 #[f.c.val] w fun e w' => ∃ a q, e = .returned (.slice a (truthsN f) q) ∧ ThrRow w.heap.size 132 (truthAt f) (truthsN f) (.slice a (truthsN f) q) w' ∧ Ext w w' := by
  have hN := truthsN_le hf
  have fa := hf.a
  have fb := hf.b
  have fu := hf.u
  have HA : Hid (((szR f.alo f.ahi : Nat) : Int) = f.ahi - f.alo + 1) := Lib.hid (szR_eq fa.2.1)
  have HB : Hid (((szR f.blo f.bhi : Nat) : Int) = f.bhi - f.blo + 1) := Lib.hid (szR_eq fb.2.1)
  have HU : Hid (((szR f.ulo f.uhi : Nat) : Int) = f.uhi - f.ulo + 1) := Lib.hid (szR_eq fu.2.1)
  have HAT : Hid (∀ i j k : Nat, j < szR f.blo f.bhi → k < szR f.ulo f.uhi → truthAt f ((i * szR f.blo f.bhi + j) * szR f.ulo f.uhi + k) = ⟨f.alo + (i : Int), f.blo + (j : Int), f.ulo + (k : Int)⟩) := Lib.hid (fun i j k => truthAt_at f i j k)
  have HLT : Hid (∀ i j k : Nat, i < szR f.alo f.ahi → j < szR f.blo f.bhi → k < szR f.ulo f.uhi → (i * szR f.blo f.bhi + j) * szR f.ulo f.uhi + k < truthsN f) := Lib.hid (fun i j k => truthAt_lt f i j k)
  have HNN : Hid (truthsN f = szR f.alo f.ahi * szR f.blo f.bhi * szR f.ulo f.uhi) := rfl
  obtain ⟨i3, hi3, hz30, hz31, hz32⟩ := info_parts info_rthree
  clear hf
  generalize truthAt f = g at *
  generalize truthsN f = N at *
  generalize szR f.alo f.ahi = A at *
  generalize szR f.blo f.bhi = B at *
  generalize szR f.ulo f.uhi = U at *
  obtain ⟨cr, va, ne, al, ah, bl, bh, ul, uh⟩ := f
  simp only [Fld.c] at *
  obtain ⟨fa0, fa1, fa2, fa3⟩ := fa
  obtain ⟨fb0, fb1, fb2, fb3⟩ := fb
  obtain ⟨fu0, fu1, fu2, fu3⟩ := fu
  go_enter Tryz.func61, Tryz.ntmps61
  go_wp2_with fail
  have X : Ext w (w.alloc (.cells #[.int .i64 cr, .int .i64 va, .int .i64 ne, .int .i64 al, .int .i64 ah, .int .i64 bl, .int .i64 bh, .int .i64 ul, .int .i64 uh] 76)) := by (repeat (first | exact Ext.refl _ | (with_reducible assumption) | (with_reducible refine Ext.drew ?_) | (with_reducible refine Ext.alloc ?_ _) | (with_reducible refine Ext.drewN ?_ _) | (with_reducible refine Ext.setCell ?_ (by omega) _) | (with_reducible refine Ext.trans ?_ (by with_reducible assumption))))
  have HS : Hid (∀ w', Ext (w.alloc (.cells #[.int .i64 cr, .int .i64 va, .int .i64 ne, .int .i64 al, .int .i64 ah, .int .i64 bl, .int .i64 bh, .int .i64 ul, .int .i64 uh] 76)) w' → (w'.cell? ⟨w.heap.size, 0, none⟩ = some (.int .i64 cr) ∧ w'.cell? ⟨w.heap.size, 1, none⟩ = some (.int .i64 va) ∧ w'.cell? ⟨w.heap.size, 2, none⟩ = some (.int .i64 ne) ∧ w'.cell? ⟨w.heap.size, 3, none⟩ = some (.int .i64 al) ∧ w'.cell? ⟨w.heap.size, 4, none⟩ = some (.int .i64 ah) ∧ w'.cell? ⟨w.heap.size, 5, none⟩ = some (.int .i64 bl) ∧ w'.cell? ⟨w.heap.size, 6, none⟩ = some (.int .i64 bh) ∧ w'.cell? ⟨w.heap.size, 7, none⟩ = some (.int .i64 ul) ∧ w'.cell? ⟨w.heap.size, 8, none⟩ = some (.int .i64 uh)) ∧ Ext (w.alloc (.cells #[.int .i64 cr, .int .i64 va, .int .i64 ne, .int .i64 al, .int .i64 ah, .int .i64 bl, .int .i64 bh, .int .i64 ul, .int .i64 uh] 76)) w') := Lib.hid (fun w' hx => ⟨⟨hx.keep (by simp [go_sem]), hx.keep (by simp [go_sem]), hx.keep (by simp [go_sem]), hx.keep (by simp [go_sem]), hx.keep (by simp [go_sem]), hx.keep (by simp [go_sem]), hx.keep (by simp [go_sem]), hx.keep (by simp [go_sem]), hx.keep (by simp [go_sem])⟩, hx⟩)
  have HSf : Hid (∀ w', Ext (w.alloc (.cells #[.int .i64 cr, .int .i64 va, .int .i64 ne, .int .i64 al, .int .i64 ah, .int .i64 bl, .int .i64 bh, .int .i64 ul, .int .i64 uh] 76)) w' → ∀ o, w'.frozen? ⟨w.heap.size, o, none⟩ = false) := Lib.hid (fun w' hx o => (hx.frozen (by simp)).trans (by simp [go_sem]))
  have HSz : w.heap.size + 1 ≤ (w.alloc (.cells #[.int .i64 cr, .int .i64 va, .int .i64 ne, .int .i64 al, .int .i64 ah, .int .i64 bl, .int .i64 bh, .int .i64 ul, .int .i64 uh] 76)).heap.size := by simp
  generalize (w.alloc (.cells #[.int .i64 cr, .int .i64 va, .int .i64 ne, .int .i64 al, .int .i64 ah, .int .i64 bl, .int .i64 bh, .int .i64 ul, .int .i64 uh] 76)) = W at *
  have hWz := X.size
  go_loopw [3, 4, 5, 6] (fun s3 s4 _ _ wr => ∃ (i n : Nat) (a5 : Option Addr) (q5 : Nat), i ≤ A ∧ s4 = .int .i64 (al + i) ∧ s3 = .slice a5 n q5 ∧ Hid (n = i * B * U) ∧ Hid (ThrRow W.heap.size 132 g n (.slice a5 n q5) wr) ∧ Ext W wr) (fun _ i _ _ _ => (ah + 1 - intOf i).toNat)
  case atStart => exact ⟨0, 0, none, 0, Nat.zero_le _, by simp, rfl, Lib.hid (by simp), Lib.hid (ThrRow.nil _ _ _ _), Ext.refl _⟩
  case round =>
    obtain ⟨i, n, a5, q5, hi, rfl, rfl, HI, HR, hx⟩ := hrel
    obtain ⟨wo, rfl⟩ : ∃ x, x = wr := ⟨_, rfl⟩
    obtain ⟨⟨q0, q1, q2, q3, q4, q5', q6, q7, q8⟩, -⟩ := HS.out wo hx
    have hAA := HA.out
    by_cases hlt : i < A
    · have hle : al + (i : Int) ≤ ah := by omega
      have hl0 : 0 ≤ al + (i : Int) := by omega
      have hl1 : al + (i : Int) ≤ 100 := by omega
      clear hAA
      go_wp2_with fail
      go_loopw [3, 5, 6] (fun s3 s5 _ wr => ∃ (j n : Nat) (a5 : Option Addr) (q5 : Nat), j ≤ B ∧ s5 = .int .i64 (bl + j) ∧ s3 = .slice a5 n q5 ∧ Hid (n = (i * B + j) * U) ∧ Hid (ThrRow W.heap.size 132 g n (.slice a5 n q5) wr) ∧ Ext W wr) (fun _ j _ _ => (bh + 1 - intOf j).toNat)
      case atStart => exact ⟨0, n, a5, q5, Nat.zero_le _, by simp, rfl, Lib.hid (by rw [HI.out]; rfl), HR, hx⟩
      case round =>
        clear HI HR hx q0 q1 q2 q3 q4 q5' q6 q7 q8
        obtain ⟨j, n, a5, q5, hj, rfl, rfl, HI, HR, hx⟩ := hrel
        obtain ⟨wp, rfl⟩ : ∃ x, x = wr := ⟨_, rfl⟩
        obtain ⟨⟨q0, q1, q2, q3, q4, q5', q6, q7, q8⟩, -⟩ := HS.out wp hx
        have hBB := HB.out
        by_cases hltb : j < B
        · have jle : bl + (j : Int) ≤ bh := by omega
          have jl0 : 0 ≤ bl + (j : Int) := by omega
          have jl1 : bl + (j : Int) ≤ 100 := by omega
          clear hBB
          go_wp2_with fail
          go_loopw [3, 6] (fun s3 s6 wr => ∃ (k n : Nat) (a5 : Option Addr) (q5 : Nat), k ≤ U ∧ s6 = .int .i64 (ul + k) ∧ s3 = .slice a5 n q5 ∧ Hid (n = (i * B + j) * U + k) ∧ Hid (ThrRow W.heap.size 132 g n (.slice a5 n q5) wr) ∧ Ext W wr) (fun _ k _ => (uh + 1 - intOf k).toNat)
          case atStart => exact ⟨0, n, a5, q5, Nat.zero_le _, by simp, rfl, Lib.hid (by rw [HI.out]; rfl), HR, hx⟩
          case round =>
            clear HI HR hx q0 q1 q2 q3 q4 q5' q6 q7 q8
            obtain ⟨k, n, a5, q5, hk, rfl, rfl, HI, HR, hx⟩ := hrel
            obtain ⟨wz, rfl⟩ : ∃ x, x = wr := ⟨_, rfl⟩
            obtain ⟨⟨q0, q1, q2, q3, q4, q5', q6, q7, q8⟩, -⟩ := HS.out wz hx
            have hUU := HU.out
            by_cases hltu : k < U
            · have kle : ul + (k : Int) ≤ uh := by omega
              have kl0 : 0 ≤ ul + (k : Int) := by omega
              have kl1 : ul + (k : Int) ≤ 100 := by omega
              have hnN : n < N := by rw [HI.out]; exact HLT.out i j k hlt hltb hltu
              have HG : Hid (g n = ⟨al + (i : Int), bl + (j : Int), ul + (k : Int)⟩) := Lib.hid (by rw [HI.out]; exact HAT.out i j k hltb hltu)
              clear hUU
              go_wp2_with (at_builtin; refine wpList_append_own_at _ rfl _ _ 130 rfl W.heap.size 132 i3 (.agg #[.int .i64 0, .int .i64 0, .int .i64 0]) 3 24 Tryz.underlying130 hi3 hz30 hz31 hz32 rfl (by decide) (.slice a5 n q5) n ((thrsTo g n).flatMap (fun x => x.c.cs)) rfl ?own ⟨wz.heap.size, 0, none⟩ 1 1 (V3.cs (Thr.c ⟨al + (i : Int), bl + (j : Int), ul + (k : Int)⟩)) rfl rfl (cell_three_new _ (Thr.c ⟨al + (i : Int), bl + (j : Int), ul + (k : Int)⟩) _) ?one ?f1 ?f2 ?f3 ?next)
              case own => exact own_keep HR.out (fun _ hg => ((Ext.refl wz).alloc _).heap (own_lt HR.out hg).2)
              case one =>
                intro u hu
                simp only [V3.cs, Thr.c, List.mem_cons, List.not_mem_nil, or_false] at hu
                rcases hu with rfl | rfl | rfl <;> rfl
              case f1 => simp only [maxLen]; omega
              case f2 => omega
              case f3 => have h1 := hx.size; simp; omega
              case next =>
                intro v' w7 hown hgrow hnil hat
                have hx7 : Ext W w7 := grown_ext (hx.alloc _) hgrow (fun _ hg => (own_lt HR.out hg).1)
                have HRN : Hid (ThrRow W.heap.size 132 g (n + 1) v' w7) := Lib.hid (ThrRow.next hown HG.out)
                clear hnil hat hgrow
                rcases own_open hown with ⟨-, h0⟩ | ⟨g', cap, rfl, -, -, -, -⟩
                · omega
                · clear hown
                  have HIN : Hid (n + 1 = (i * B + j) * U + (k + 1)) := Lib.hid (by rw [HI.out]; rfl)
                  clear HI
                  go_wp2_with fail
                  go_roundw
                  case rel => exact ⟨k + 1, n + 1, _, _, by omega, by go_num, rfl, HIN, HRN, hx7⟩
                  case measure => simp [intOf]; omega
            · have ek : k = U := by omega
              have HIN : Hid (n = (i * B + (j + 1)) * U) := Lib.hid (by rw [HI.out, ek, show i * B + (j + 1) = (i * B + j) + 1 from rfl, Nat.succ_mul])
              have kgt : uh < ul + (k : Int) := by omega
              have kl1 : ul + (k : Int) ≤ 101 := by omega
              clear hUU HI
              go_wp2_with fail
              go_roundw
              case rel => exact ⟨j + 1, n, _, _, by omega, by go_num, rfl, HIN, HR, hx⟩
              case measure => simp [intOf]; omega
        · have ej : j = B := by omega
          have HIN : Hid (n = (i + 1) * B * U) := Lib.hid (by rw [HI.out, ej, Nat.succ_mul])
          have jgt : bh < bl + (j : Int) := by omega
          have jl1 : bl + (j : Int) ≤ 101 := by omega
          clear hBB HI
          go_wp2_with fail
          go_roundw
          case rel => exact ⟨i + 1, n, _, _, by omega, by go_num, rfl, HIN, HR, hx⟩
          case measure => simp [intOf]; omega
    · have ei : i = A := by omega
      have eN : n = N := by rw [HI.out, ei, HNN.out]
      have igt : ah < al + (i : Int) := by omega
      have il1 : al + (i : Int) ≤ 101 := by omega
      subst eN
      have HT : Hid (ThrRow w.heap.size 132 g n (.slice a5 n q5) wo) := Lib.hid (HR.out.base (by omega))
      clear hAA HI HR
      go_wp2_with fail
      go_ret
      exact ⟨_, _, rfl, HT.out, by (repeat (first | exact Ext.refl _ | (with_reducible assumption) | (with_reducible refine Ext.drew ?_) | (with_reducible refine Ext.alloc ?_ _) | (with_reducible refine Ext.drewN ?_ _) | (with_reducible refine Ext.setCell ?_ (by omega) _) | (with_reducible refine Ext.trans ?_ (by with_reducible assumption))))⟩
end Go.Proofs.YtedblocbcjoolaaGreat
