/- The walk of TariffBetween. -/
import Derived.Test.YtfjecbfcnngacaaBD
import Derived.Test.YtfjecbfcnngacaaBH
namespace Go.Hs
open Go.RowKit
theorem zl_thin {l : List Tar} (h : thinB l = true) : thinB (l.map zl) = true := by
  simp only [thinB, Bool.and_eq_true, decide_eq_true_eq, allB_iff] at h ⊢
  refine ⟨by simpa using h.1, fun i hi => ?_⟩
  rw [zl_get]; exact h.2 i (by simpa using hi)
theorem cell_six_at (w : World) (o : Obj) (u : V6) (t : TypeId) : ∀ j x, u.cs[j]? = some x → ((w.alloc o).alloc (.cells #[u.c0, u.c1, u.c2, u.c3, u.c4, u.c5] t)).cell? ((⟨w.heap.size + 1, 0, none⟩ : Addr).add j) = some x := by
  have := cell_six_new (w.alloc o) u t
  simpa using this
end Go.Hs
namespace Go.Proofs.Ytfjecbfcnngacaa
open Go.RowKit Go.Hs
attribute [local irreducible] World.setCell World.alloc

theorem run_min_i64 {x y z : Int} (h : z = if y < x then y else x) (ats : Array TypeId) (ty : TypeId) (w : World) : (Builtin.min_ ats ty #[.int .i64 x, .int .i64 y]).run Try.prog w = .ok (.int .i64 z) w := by
  rw [h]; rfl
theorem run_max_i64 {x y z : Int} (h : z = if x < y then y else x) (ats : Array TypeId) (ty : TypeId) (w : World) : (Builtin.max_ ats ty #[.int .i64 x, .int .i64 y]).run Try.prog w = .ok (.int .i64 z) w := by
  rw [h]; rfl
theorem field_counts (x0 x1 x2 x3 x5 : Value) (a : Option Addr) (n c : Nat) (w : World) : (Instr.field 62 (.agg #[x0, x1, x2, x3, .slice a n c, x5]) 4).run Try.prog w = .ok (.slice a n c) w := by kernel_rfl
theorem info_reftar : (Try.prog.info? 62).map (fun i => (i.zero, i.size, i.bytes)) = some (some (.agg #[.int .i64 0, .bool false, .int .i64 0, .slice none 0 0, .slice none 0 0, .slice none 0 0]), 6, 96) := by kernel_rfl

set_option maxRecDepth 100000 in
set_option maxHeartbeats 4000000 in
theorem walk_TariffBetween (v : Value) (l : List Tar) (crop day count : Int) (w : World) (hv : TarsW w v l) (w1 : (Lit.int .u8 crop).wf = true) (w2 : (Lit.int .u8 day).wf = true) (w3 : (Lit.int .u8 count).wf = true) :
    Calls Try.prog 8 #[v, .int .u8 crop, .int .u8 day, .int .u8 count] w fun e w' => e = .returned (.bool true) ∧ Ext w w' := by
  have hre := ready_any v l w hv
  have HAW : Hid (∀ W, Calls Try.prog 19 #[] W fun e w' => e = .returned (.bool true) ∧ Ext W w') := awake_any
  obtain ⟨b1, b2⟩ := u8_bounds w1
  obtain ⟨b3, b4⟩ := u8_bounds w2
  obtain ⟨b5, b6⟩ := u8_bounds w3
  clear w1 w2 w3
  cases ht : readyB l with
  | false =>
    rw [ht] at hre
    obtain ⟨a, c, rfl, -⟩ := hv
    clear ht
    go_enter Try.func8, Try.ntmps8
    go_wp2_with fail
    (with_reducible refine hre.mono ?_)
    rintro e w1 ⟨rfl, hx1⟩
    go_wp2_with fail
    (with_reducible refine (HAW.out _).mono ?_)
    rintro e w2 ⟨rfl, hx2⟩
    go_wp2_with fail
    go_ret
    exact ⟨rfl, hx1.trans hx2⟩
  | true =>
    rw [ht] at hre
    obtain ⟨hth, hl⟩ := ready_of ht
    have hvv := hv.toV hth
    obtain ⟨i3, hi3, hz30, hz31, hz32⟩ := info_parts info_reftar
    have hlen := hl.three
    have hcp : 0 < cropsN l := (validB_iff.1 (hl.valid 0 hl.pos)).crops
    have hc3 : cropsN l ≤ 3 := by
      have := hl.few 0 hl.pos
      simp only [fewB, Bool.and_eq_true, decide_eq_true_eq] at this
      exact this.2
    have HCR : Hid (∀ W, Ext w W → Calls Try.prog 25 #[v] W fun e w' => e = .returned (.int .i64 (cropsN l)) ∧ Ext W w') := fun W hx => (Crops_any v l W (hvv.ext hx) hl.pos).mono fun e w' h => ⟨h.1, h.2 ▸ Ext.refl _⟩
    have HL := Lib.hid hl
    have HTH := Lib.hid hth
    obtain ⟨a, k, rfl, h3, h4, hr⟩ := hvv
    have HR := Lib.hid hr
    obtain ⟨c0, hc0, hc1, hc2⟩ : ∃ c0, crop.tmod (cropsN l : Int) = c0 ∧ 0 ≤ c0 ∧ c0 < (cropsN l : Int) := ⟨_, rfl, tmod_bd b1 (by omega)⟩
    obtain ⟨d0, hd0, hd1, hd2⟩ : ∃ d0, day.tmod 121 = d0 ∧ 0 ≤ d0 ∧ d0 < 121 := ⟨_, rfl, tmod_bd b3 (by omega)⟩
    obtain ⟨n0, hn0, hn1, hn2⟩ : ∃ n0, count.tmod 101 = n0 ∧ 0 ≤ n0 ∧ n0 < 101 := ⟨_, rfl, tmod_bd b5 (by omega)⟩
    have hc0' : crop % (cropsN l : Int) = c0 := by rw [← hc0, Int.tmod_eq_emod_of_nonneg b1]
    have hd0' : day % 121 = d0 := by rw [← hd0, Int.tmod_eq_emod_of_nonneg b3]
    have hn0' : count % 101 = n0 := by rw [← hn0, Int.tmod_eq_emod_of_nonneg b5]
    have HCB := Lib.hid (And.intro hc1 hc2)
    have hz1 : ¬ (cropsN l : Int) = 0 := by omega
    have hz2 : ¬ cropsN l = 0 := by omega
    clear hr hl hth hv ht
    generalize hcn : cropsN l = cn at *
    have HCN := Lib.hid hcn
    clear hcn
    go_enter Try.func8, Try.ntmps8
    go_wp2_with fail
    (with_reducible refine hre.mono ?_)
    rintro e w1 ⟨rfl, hx1⟩
    go_wp2_with fail
    (with_reducible refine (HCR.out _ hx1).mono ?_)
    rintro e w2 ⟨rfl, hx2⟩
    have X2 := hx1.trans hx2
    clear hx1 hx2 hre
    go_wp2_with fail
    clear hc0 hd0 hn0 hc0' hd0' hn0' hz1 hz2
    go_loopw [12, 13, 14] (fun s12 s13 _ wr => ∃ (k : Nat) (a5 : Option Addr) (q5 : Nat), k ≤ l.length ∧ s13 = .int .i64 k ∧ s12 = .slice a5 k q5 ∧ Hid (Build6 TarU (fun _ => false) w.heap.size 62 wr (.slice a5 k q5) ((l.map zl).take k)) ∧ Ext w wr) (fun _ i _ _ => l.length - (intOf i).toNat)
    case atStart => exact ⟨0, none, 0, Nat.zero_le _, rfl, rfl, Build6.nil _, X2⟩
    case round =>
      obtain ⟨k, a5, q5, hk, rfl, rfl, HB, hx⟩ := hrel
      obtain ⟨wo, rfl⟩ : ∃ x, x = wr := ⟨_, rfl⟩
      by_cases hlt : k < l.length
      · obtain ⟨b, off, rfl, hta⟩ := HR.out k hlt
        obtain ⟨a3, k3, a4, k4, a6, k6, m0, m1, m2, m3, m4, m5, mc⟩ := TarAt.open hta
        replace m0 := hx.keep m0
        replace m1 := hx.keep m1
        replace m2 := hx.keep m2
        replace m3 := hx.keep m3
        replace m4 := hx.keep m4
        replace m5 := hx.keep m5
        have HMC := Lib.hid mc
        have ek : ((l.map zl).take k).length = k := by simp; omega
        have e2 : (l.map zl).take k ++ [zl l[k]] = (l.map zl).take (k + 1) := by
          rw [List.take_succ_eq_append_getElem (by simpa using hlt)]; simp
        have E2 := Lib.hid e2
        clear e2
        obtain ⟨us, hul, hown0, hp0, hs0⟩ := HB.out
        rw [ek] at hown0
        have HUL := Lib.hid (And.intro hul (And.intro hp0 hs0))
        have OWN := Lib.hid hown0
        have hlb := fun g hg => own_lt hown0 (g := g) hg
        have HLB := Lib.hid hlb
        clear hul hp0 hs0 hown0 hlb hta mc
        have EK := Lib.hid ek
        clear ek
        generalize l[k] = t at *
        go_wp2_with (at_builtin; refine wpList_append_own_at _ rfl _ _ 22 rfl w.heap.size 62 i3 (.agg #[.int .i64 0, .bool false, .int .i64 0, .slice none 0 0, .slice none 0 0, .slice none 0 0]) 6 96 Try.underlying22 hi3 hz30 hz31 hz32 rfl (by decide) (.slice a5 k q5) k (us.flatMap V6.cs) rfl ?own ⟨wo.heap.size + 1, 0, none⟩ 1 1 (V6.cs ⟨.int .i64 t.start, .bool t.whole, .int .i64 0, .slice a3 t.weeks.length k3, .slice a4 t.counts.length k4, .slice a6 t.rates.length k6⟩) rfl rfl (cell_six_at _ _ ⟨.int .i64 t.start, .bool t.whole, .int .i64 0, .slice a3 t.weeks.length k3, .slice a4 t.counts.length k4, .slice a6 t.rates.length k6⟩ _) ?one ?f1 ?f2 ?f3 ?next)
        case own => exact own_keep OWN.out (fun g hg => (((Ext.refl wo).alloc _).alloc _).heap (HLB.out g hg).2)
        case one => exact ⟨rfl, rfl, rfl, rfl, rfl, rfl⟩
        case f1 => simp only [maxLen]; omega
        case f2 => omega
        case f3 => have h1 := hx.size; simp; omega
        case next =>
          intro v' w3 hown hgrow hnil hat
          obtain ⟨hul, hp0, hs0⟩ := HUL.out
          have hxa : ∀ o1 o2, Ext w ((wo.alloc o1).alloc o2) := fun o1 o2 => (hx.alloc o1).alloc o2
          have hu : ∀ o1 o2, TarU (mask (cov (fun _ => false) (.slice a5 k q5)) ((wo.alloc o1).alloc o2)) ⟨.int .i64 t.start, .bool t.whole, .int .i64 0, .slice a3 t.weeks.length k3, .slice a4 t.counts.length k4, .slice a6 t.rates.length k6⟩ (zl t) := fun o1 o2 =>
            have kc := (hxa o1 o2).masked (q := cov (fun _ => false) (.slice a5 k q5)) (fun g hg => cov_no.2 ⟨rfl, fun e => by have := (HLB.out g e).1; omega⟩)
            ⟨rfl, rfl, rfl, ⟨HMC.out.f, show i64ok 0 from ⟨by decide, by decide⟩, HMC.out.weeks.kc kc, HMC.out.counts.kc kc, HMC.out.rates.kc kc⟩⟩
          have hb : Build6 TarU (fun _ => false) w.heap.size 62 w3 v' ((l.map zl).take k ++ [zl t]) :=
            Build6.next (S := TarU) (fun h k => TarU.kc h k) (us := us) (w := (wo.alloc _).alloc _) hul (fun _ _ => rfl) (fun i g1 g2 => (hs0 i g1 g2).kc ((((Ext.refl wo).alloc _).alloc _).mask (fun _ _ h => h))) (hu _ _) (by rw [EK.out]; exact hown) hgrow (hat.imp_right (fun h => h.trans (by simp))) rfl
          rw [E2.out] at hb
          have hx3 : Ext w w3 := grown_ext (hxa _ _) hgrow (fun g hg => (HLB.out g hg).1)
          rcases own_open hown with ⟨-, h0⟩ | ⟨g, cap, rfl, -, -, -, -⟩
          · omega
          · have HB3 := Lib.hid hb
            clear hb hu hxa hown hgrow hnil hat hul hp0 hs0
            go_wp2_with fail
            go_roundw
            case rel => exact ⟨k + 1, _, _, by omega, by go_num, rfl, HB3.out, hx3⟩
            case measure => simp [intOf]; omega
      · have ek : k = l.length := by omega
        subst ek
        have hb := HB.out
        rw [List.take_of_length_le (by simp)] at hb
        have hts := (Build6.tars hb (by simp; omega)).kc (mask_kc0 _ _)
        have HTS := Lib.hid hts
        have hl := HL.out
        have hlz := hl.zl
        have HOF : Hid (∀ W, Ext wo W → Calls Try.prog 37 #[.slice a5 l.length q5, .int .i64 d0] W fun e w' => ∃ u : V6, e = .returned u.val ∧ TarU W u (zl (atS l d0)) ∧ Ext W w') := fun W hx => by
          rw [← zl_at]; exact Of_any _ (l.map zl) d0 W (hts.ext hx) hlz hd1
        have HTA : Hid (∀ W, Ext wo W → Calls Try.prog 21 #[.slice a5 l.length q5] W fun e w' => ∃ v', e = .returned v' ∧ TarsV w' v' (l.map zl) ∧ Ext W w') := fun W hx => Tariffs_any _ _ W (hts.ext hx) (zl_thin HTH.out)
        have HPA : Hid (∀ v' n' W, TarsV W v' (l.map zl) → 0 ≤ n' → n' ≤ 100 → Calls Try.prog 20 #[v', .int .i64 c0, .int .i64 d0, .int .i64 n'] W fun e w' => e = .returned (.tuple #[.int .i64 (lossS l c0 d0 n'), .int .i64 0]) ∧ Ext W w') := fun v' n' W h g0 g1 => by
          rw [← zl_part hl HCB.out.1 (by rw [HCN.out]; exact HCB.out.2) hd1 g0 g1]
          exact PartOK_any v' _ c0 d0 n' W h hlz HCB.out.1 (by rw [zl_crops, HCN.out]; exact HCB.out.2) hd1 (by omega) g0 g1
        have hva := (hl.at hd1).1
        have hco := hva.countsOK
        have hup : UpFrom (atS l d0).counts n0 := ⟨by have := hco.two; omega, by rw [hco.first]; exact hn1, hco.strict⟩
        have hmid : ∀ k j, k = weekTo (atS l d0).counts n0 (atS l d0).counts.length → j = min (k + 1) ((atS l d0).counts.length - 1) → _ := fun k j e1 e2 => interp_between (row := rowS l c0 d0) hco hn1 (by omega) e1 e2
        have HMID := Lib.hid hmid
        have HCO := Lib.hid hco
        have HUP := Lib.hid hup
        have HLO : Hid (∀ n, lossS l c0 d0 n = interp (atS l d0).counts (rowS l c0 d0) n) := fun n => rfl
        clear hb hts hlz hva hco hup hmid HB hl
        go_wp2_with fail
        (with_reducible refine (HOF.out _ (Ext.refl _)).mono ?_)
        rintro e w3 ⟨u, rfl, hu, hx3⟩
        obtain ⟨a3, k3, a4, k4, a6, k6, rfl⟩ := hu.slices
        obtain ⟨-, -, -, hC⟩ := hu
        dsimp only [V6.val]
        have hfld := field_counts
        have hcv : IntsV wo (.slice a4 (atS l d0).counts.length k4) (atS l d0).counts := hC.counts
        have HCV := Lib.hid hcv
        have hla : Calls Try.prog 39 #[.slice a4 (atS l d0).counts.length k4, .int .i64 n0] w3 _ := LastUp_any _ _ n0 w3 (hcv.ext hx3) HUP.out
        have hm4 := hcv.len_le.2
        clear hC hcv HOF
        obtain ⟨j, hj⟩ : ∃ j, j = min (weekTo (atS l d0).counts n0 (atS l d0).counts.length + 1) ((atS l d0).counts.length - 1) := ⟨_, rfl⟩
        have hmm := HMID.out _ j rfl hj
        generalize weekTo (atS l d0).counts n0 (atS l d0).counts.length = k at *
        obtain ⟨hkl, hjl, hm1, hm2, hm3⟩ := hmm
        rw [← HLO.out, ← HLO.out, ← HLO.out] at hm1 hm2
        rw [← HLO.out, ← HLO.out] at hm3
        obtain ⟨bc, oc, rfl, hck⟩ := HCV.out.get k hkl
        obtain ⟨_, _, e1, hcj⟩ := HCV.out.get j hjl
        cases e1
        have pk := HCO.out.bound k hkl
        have pj := HCO.out.bound j hjl
        generalize hxs : (zl (atS l d0)).weeks.length = nw at *
        clear hxs
        generalize hxs : (zl (atS l d0)).rates.length = nr at *
        clear hxs
        generalize hxs : (zl (atS l d0)).start = zs at *
        clear hxs
        generalize hxs : (zl (atS l d0)).whole = zw at *
        clear hxs
        generalize hxs : (zl (atS l d0)).least = zz at *
        clear hxs
        have hzc : (zl (atS l d0)).counts.length = (atS l d0).counts.length := rfl
        rw [hzc]
        clear hzc HMID HLO HCV HCO HUP
        generalize (atS l d0).counts.length = m at *
        generalize (atS l d0).counts.getD k 0 = ck at *
        generalize (atS l d0).counts.getD j 0 = cj at *
        have hs1 : IntKind.i64.wrap ((k : Int) + 1) = (k : Int) + 1 := IntWalk.i64_in _ (by omega)
        have hs2 : IntKind.i64.wrap ((m : Int) - 1) = (m : Int) - 1 := IntWalk.i64_in _ (by omega)
        have hs3 : min ((k : Int) + 1) ((m : Int) - 1) = (j : Int) := by omega
        have hs4 : (0 : Int) ≤ (j : Int) := by omega
        have hs5 : (j : Int) < (m : Int) := by omega
        have hs6 : (0 : Int) ≤ (k : Int) := by omega
        have hs7 : (k : Int) < (m : Int) := by omega
        clear hj
        go_wp2_with fail
        clear hfld
        (with_reducible refine hla.mono ?_)
        rintro e w4 ⟨rfl, rfl⟩
        clear hla
        go_wp2_with fail
        have hck3 := hx3.keep hck
        have hcj3 := hx3.keep hcj
        have HS : Hid (∀ w', Ext wo w' → (w'.cell? ⟨bc, oc + k, none⟩ = some (.int .i64 ck) ∧ w'.cell? ⟨bc, oc + j, none⟩ = some (.int .i64 cj)) ∧ Ext wo w') := fun w' hx => ⟨⟨hx.keep hck, hx.keep hcj⟩, hx⟩
        go_region_held3 (fun w' => (w'.cell? ⟨bc, oc + k, none⟩ = some (.int .i64 ck) ∧ w'.cell? ⟨bc, oc + j, none⟩ = some (.int .i64 cj)) ∧ Ext wo w')
          ((refine HS.out _ ?_; (repeat (first | exact Ext.refl _ | (with_reducible assumption) | (with_reducible refine Ext.drew ?_) | (with_reducible refine Ext.alloc ?_ _) | (with_reducible refine Ext.drewN ?_ _) | (with_reducible refine Ext.setCell ?_ (by omega) _) | (with_reducible refine Ext.trans ?_ (by with_reducible assumption))))))
          (first
            | (go_at_call 21; (refine (HTA.out _ (by (repeat (first | exact Ext.refl _ | (with_reducible assumption) | (with_reducible refine Ext.drew ?_) | (with_reducible refine Ext.alloc ?_ _) | (with_reducible refine Ext.drewN ?_ _) | (with_reducible refine Ext.setCell ?_ (by omega) _) | (with_reducible refine Ext.trans ?_ (by with_reducible assumption)))))).mono ?_); rintro e w5 ⟨v5, rfl, hv5, hx5⟩)
            | (go_at_call 20; (refine (HPA.out _ ck _ hv5 pk.1 pk.2).mono ?_); rintro e w6 ⟨rfl, hx6⟩))
        have X6 : Ext wo w6 := by (repeat (first | exact Ext.refl _ | (with_reducible assumption) | (with_reducible refine Ext.drew ?_) | (with_reducible refine Ext.alloc ?_ _) | (with_reducible refine Ext.drewN ?_ _) | (with_reducible refine Ext.setCell ?_ (by omega) _) | (with_reducible refine Ext.trans ?_ (by with_reducible assumption))))
        clear hv5 hx5 hx6
        have hmin : ∀ (w : World), (Builtin.min_ #[3, 3] 3 #[.int .i64 ((k : Int) + 1), .int .i64 ((m : Int) - 1)]).run Try.prog w = .ok (.int .i64 (j : Int)) w := run_min_i64 (by split <;> omega) _ _
        clear hs3
        go_wp2_with fail
        go_region_held3 (fun w' => (w'.cell? ⟨bc, oc + k, none⟩ = some (.int .i64 ck) ∧ w'.cell? ⟨bc, oc + j, none⟩ = some (.int .i64 cj)) ∧ Ext wo w')
          ((refine HS.out _ ?_; (repeat (first | exact Ext.refl _ | (with_reducible assumption) | (with_reducible refine Ext.drew ?_) | (with_reducible refine Ext.alloc ?_ _) | (with_reducible refine Ext.drewN ?_ _) | (with_reducible refine Ext.setCell ?_ (by omega) _) | (with_reducible refine Ext.trans ?_ (by with_reducible assumption))))))
          (first
            | (go_at_call 21; (refine (HTA.out _ (by (repeat (first | exact Ext.refl _ | (with_reducible assumption) | (with_reducible refine Ext.drew ?_) | (with_reducible refine Ext.alloc ?_ _) | (with_reducible refine Ext.drewN ?_ _) | (with_reducible refine Ext.setCell ?_ (by omega) _) | (with_reducible refine Ext.trans ?_ (by with_reducible assumption)))))).mono ?_); rintro e w5 ⟨v5, rfl, hv5, hx5⟩)
            | (go_at_call 20; (refine (HPA.out _ cj _ hv5 pj.1 pj.2).mono ?_); rintro e w7 ⟨rfl, hx7⟩))
        all_goals
          have X7 : Ext wo w7 := by (repeat (first | exact Ext.refl _ | (with_reducible assumption) | (with_reducible refine Ext.drew ?_) | (with_reducible refine Ext.alloc ?_ _) | (with_reducible refine Ext.drewN ?_ _) | (with_reducible refine Ext.setCell ?_ (by omega) _) | (with_reducible refine Ext.trans ?_ (by with_reducible assumption))))
          clear hv5 hx5 hx7 X6 hmin
          go_wp2_with fail
          (with_reducible refine (HTA.out _ X7).mono ?_)
          rintro e w8 ⟨v8, rfl, hv8, hx8⟩
          go_wp2_with fail
          (with_reducible refine (HPA.out _ _ _ hv8 hn1 (by omega)).mono ?_)
          rintro e w9 ⟨rfl, hx9⟩
          have X9 := X7.trans (hx8.trans hx9)
          clear hv8 hx8 hx9 X7
          have hck9 := X9.keep hck
          clear hck hcj hck3 hcj3
          generalize lossS l c0 d0 ck = A at *
          generalize lossS l c0 d0 cj = B at *
          generalize lossS l c0 d0 n0 = M at *
          have hnk' : (n0 = ck ∧ M = A) ∨ ((n0 != ck) = true) := by
            by_cases h : n0 = ck
            · exact .inl ⟨h, hm3 h⟩
            · exact .inr (by rw [bne_iff_ne]; exact h)
          obtain ⟨mn, hmn, hmn'⟩ : ∃ mn, mn ≤ M ∧ mn = (if B < A then B else A) := ⟨_, by split <;> omega, rfl⟩
          obtain ⟨mx, hmx, hmx'⟩ : ∃ mx, M ≤ mx ∧ mx = (if A < B then B else A) := ⟨_, by split <;> omega, rfl⟩
          have hmin : ∀ (w : World), (Builtin.min_ #[3, 3] 3 #[.int .i64 A, .int .i64 B]).run Try.prog w = .ok (.int .i64 mn) w := run_min_i64 hmn' _ _
          have hmax : ∀ (w : World), (Builtin.max_ #[3, 3] 3 #[.int .i64 A, .int .i64 B]).run Try.prog w = .ok (.int .i64 mx) w := run_max_i64 hmx' _ _
          clear hm1 hm2 hm3 hmn' hmx'
          rcases hnk' with ⟨g4, g5⟩ | g4
          all_goals
            first
              | (subst g4; subst g5)
              | skip
            go_wp2_with fail
            (with_reducible refine (HAW.out _).mono ?_)
            rintro e w10 ⟨rfl, hx10⟩
            go_wp2_with fail
            go_ret
            exact ⟨rfl, hx.trans (X9.trans hx10)⟩
end Go.Proofs.Ytfjecbfcnngacaa
