/- The walk of TariffLeast. -/
import Derived.Test.YtfjecbfcnngacaaCE
import Derived.Test.YtfjecbfcnngacaaAE
import Derived.Test.YtfjecbfcnngacaaBC
import Derived.Test.YtfjecbfcnngacaaAM
import Derived.RegionTactic
set_option pp.deepTerms true
set_option pp.maxSteps 10000000
namespace Go.Proofs.Ytfjecbfcnngacaa
open Go.RowKit Go.Hs
attribute [local irreducible] World.setCell World.alloc

theorem field_least (x0 x1 x3 x4 x5 : Value) (n : Int) (w : World) : (Instr.field 62 (.agg #[x0, x1, .int .i64 n, x3, x4, x5]) 2).run Try.prog w = .ok (.int .i64 n) w := by kernel_rfl
theorem info_reftar' : (Try.prog.info? 62).map (fun i => (i.zero, i.size, i.bytes)) = some (some (.agg #[.int .i64 0, .bool false, .int .i64 0, .slice none 0 0, .slice none 0 0, .slice none 0 0]), 6, 96) := by kernel_rfl
theorem lmin_i64 {x y z : Int} (h : z = if y < x then y else x) (ats : Array TypeId) (ty : TypeId) (w : World) : (Builtin.min_ ats ty #[.int .i64 x, .int .i64 y]).run Try.prog w = .ok (.int .i64 z) w := by
  rw [h]; rfl
theorem tmod_bd' {a b : Int} (ha : 0 ≤ a) (hb : 0 < b) : 0 ≤ a.tmod b ∧ a.tmod b < b := by
  rw [Int.tmod_eq_emod_of_nonneg ha]
  exact ⟨Int.emod_nonneg _ (by omega), Int.emod_lt_of_pos _ hb⟩
theorem u8_bounds'' {n : Int} (h : (Lit.int .u8 n).wf = true) : 0 ≤ n ∧ n ≤ 255 := by
  have := bounds_u8 h; omega

set_option maxRecDepth 100000 in
set_option maxHeartbeats 4000000 in
theorem walk_TariffLeast (v : Value) (l : List Tar) (crop day count more : Int) (w : World) (hv : TarsW w v l) (w1 : (Lit.int .u8 crop).wf = true) (w2 : (Lit.int .u8 day).wf = true) (w3 : (Lit.int .u8 count).wf = true) (w4 : (Lit.int .u8 more).wf = true) :
    Calls Try.prog 7 #[v, .int .u8 crop, .int .u8 day, .int .u8 count, .int .u8 more] w fun e w' => e = .returned (.bool true) ∧ Ext w w' := by
  have hre := ready_any v l w hv
  have HAW : Hid (∀ W, Calls Try.prog 19 #[] W fun e w' => e = .returned (.bool true) ∧ Ext W w') := awake_any
  obtain ⟨b1, b2⟩ := u8_bounds'' w1
  obtain ⟨b3, b4⟩ := u8_bounds'' w2
  obtain ⟨b5, b6⟩ := u8_bounds'' w3
  obtain ⟨b7, b8⟩ := u8_bounds'' w4
  clear w1 w2 w3 w4
  cases ht : readyB l with
  | false =>
    rw [ht] at hre
    obtain ⟨a, c, rfl, -⟩ := hv
    clear ht
    go_enter Try.func7, Try.ntmps7
    go_wp2_with fail
    (with_reducible refine hre.mono ?_)
    rintro e w1 ⟨rfl, hx1⟩
    go_wp2_with fail
    (with_reducible refine (HAW.out _).mono ?_)
    rintro e w2 ⟨rfl, hx2⟩
    go_wp2_with fail
    go_ret
    exact ⟨rfl, hx1.trans hx2⟩
  | true =>
    rw [ht] at hre
    obtain ⟨hth, hl⟩ := ready_of ht
    have hvv := hv.toV hth
    obtain ⟨i3, hi3, hz30, hz31, hz32⟩ := info_parts info_reftar'
    have hlen := hl.three
    have hcp : 0 < cropsN l := (validB_iff.1 (hl.valid 0 hl.pos)).crops
    have hc3 : cropsN l ≤ 3 := by
      have := hl.few 0 hl.pos
      simp only [fewB, Bool.and_eq_true, decide_eq_true_eq] at this
      exact this.2
    have HCR : Hid (∀ W, Ext w W → Calls Try.prog 25 #[v] W fun e w' => e = .returned (.int .i64 (cropsN l)) ∧ Ext W w') := fun W hx => (Crops_any v l W (hvv.ext hx) hl.pos).mono fun e w' h => ⟨h.1, h.2 ▸ Ext.refl _⟩
    have HTA : Hid (∀ W, Ext w W → Calls Try.prog 21 #[v] W fun e w' => ∃ v', e = .returned v' ∧ TarsV w' v' l ∧ Ext W w') := fun W hx => Tariffs_any v l W (hvv.ext hx) hth
    have HLS : Hid (∀ t, t ∈ l → 0 ≤ t.least ∧ t.least ≤ 100) := Lib.hid (fun t ht => by
      obtain ⟨i, hi, rfl⟩ := List.getElem_of_mem ht
      have := (validB_iff.1 (hl.valid i hi)).least
      have e : l.getD i default = l[i] := by simp [hi]
      rw [e] at this; exact this)
    have HL := Lib.hid hl
    have HTH := Lib.hid hth
    obtain ⟨c0, hc0, hc1, hc2⟩ : ∃ c0, crop.tmod (cropsN l : Int) = c0 ∧ 0 ≤ c0 ∧ c0 < (cropsN l : Int) := ⟨_, rfl, tmod_bd' b1 (by omega)⟩
    obtain ⟨d0, hd0, hd1, hd2⟩ : ∃ d0, day.tmod 121 = d0 ∧ 0 ≤ d0 ∧ d0 < 121 := ⟨_, rfl, tmod_bd' b3 (by omega)⟩
    obtain ⟨n0, hn0, hn1, hn2⟩ : ∃ n0, count.tmod 101 = n0 ∧ 0 ≤ n0 ∧ n0 < 101 := ⟨_, rfl, tmod_bd' b5 (by omega)⟩
    obtain ⟨M, hM0, hM1, hM2⟩ : ∃ M, more.tmod 20 = M ∧ 0 ≤ M ∧ M < 20 := ⟨_, rfl, tmod_bd' b7 (by omega)⟩
    have hc0' : crop % (cropsN l : Int) = c0 := by rw [← hc0, Int.tmod_eq_emod_of_nonneg b1]
    have hd0' : day % 121 = d0 := by rw [← hd0, Int.tmod_eq_emod_of_nonneg b3]
    have hn0' : count % 101 = n0 := by rw [← hn0, Int.tmod_eq_emod_of_nonneg b5]
    have hM0' : more % 20 = M := by rw [← hM0, Int.tmod_eq_emod_of_nonneg b7]
    have hOF := fun W hx => Of_any v l d0 W (hvv.ext (w' := W) hx) hl hd1
    have HOF := Lib.hid hOF
    have hlb := lossS_bd hl hc1 hc2 hd1 hn1 (show n0 ≤ 100 by omega)
    have hat : atS l d0 ∈ l := by
      obtain ⟨i, hi, he⟩ := atS_mem hl.pos (d := d0) (by rw [hl.first]; exact hd1)
      have e : l.getD i default = l[i] := by simp [hi]
      rw [he, e]; exact List.getElem_mem hi
    have hle := HLS.out _ hat
    have HPA : Hid (∀ v' W, TarsV W v' l → Calls Try.prog 20 #[v', .int .i64 c0, .int .i64 d0, .int .i64 n0] W fun e w' => e = .returned (.tuple #[.int .i64 (partS l c0 d0 n0), .int .i64 0]) ∧ Ext W w') := fun v' W h => PartOK_any v' l c0 d0 n0 W h hl hc1 hc2 hd1 (by omega) hn1 (by omega)
    have key : ∀ g b, (∀ t, t ∈ l → 0 ≤ t.least ∧ t.least ≤ 100 → 0 ≤ g t ∧ g t ≤ 100) → ∀ v' W, TarsV W v' (l.map (sf g b)) → Calls Try.prog 20 #[v', .int .i64 c0, .int .i64 d0, .int .i64 n0] W fun e w' => e = .returned (.tuple #[.int .i64 (if g (atS l d0) ≤ lossS l c0 d0 n0 then (if b (atS l d0) then lossS l c0 d0 n0 else lossS l c0 d0 n0 - g (atS l d0)) else 0), .int .i64 0]) ∧ Ext W w' := fun g b hg v' W h => by
      rw [← sf_part (g := g) (b := b) hl hd1]
      exact PartOK_any v' _ c0 d0 n0 W h (sf_valid hl hg) hc1 (by rw [sf_crops hl]; exact hc2) hd1 (by omega) hn1 (by omega)
    have ksl : ∀ g b v' W, TarsV W v' (l.map (sf g b)) → Calls Try.prog 21 #[v'] W fun e w' => ∃ v'', e = .returned v'' ∧ TarsV w' v'' (l.map (sf g b)) ∧ Ext W w' := fun g b v' W h => Tariffs_any v' _ W h (sf_thin hth)
    have HP0 := Lib.hid (key (fun t => if t.least + M < 100 then t.least + M else 100) (fun t => t.whole) (fun t _ h => by split <;> omega))
    have HT0 := Lib.hid (ksl (fun t => if t.least + M < 100 then t.least + M else 100) (fun t => t.whole))
    have HP1 := Lib.hid (key (fun t => t.least) (fun _ => true) (fun t _ h => h))
    have HT1 := Lib.hid (ksl (fun t => t.least) (fun _ => true))
    have HP2 := Lib.hid (key (fun t => t.least) (fun _ => false) (fun t _ h => h))
    have HT2 := Lib.hid (ksl (fun t => t.least) (fun _ => false))
    have HP3 := Lib.hid (key (fun _ => 0) (fun _ => false) (fun _ _ _ => by omega))
    have HT3 := Lib.hid (ksl (fun _ => 0) (fun _ => false))
    have hPL : partS l c0 d0 n0 = if (atS l d0).least ≤ lossS l c0 d0 n0 then (if (atS l d0).whole then lossS l c0 d0 n0 else lossS l c0 d0 n0 - (atS l d0).least) else 0 := rfl
    clear key ksl hat hOF
    obtain ⟨a, k, rfl, h3, h4, hr⟩ := hvv
    have HR := Lib.hid hr
    have hz1 : ¬ (cropsN l : Int) = 0 := by omega
    have hz2 : ¬ cropsN l = 0 := by omega
    have hmw : IntKind.i64.wrap more = more := IntWalk.i64_in _ (by omega)
    have hMw : IntKind.i64.wrap M = M := IntWalk.i64_in _ (by omega)
    clear hr hl hth hv ht
    generalize partS l c0 d0 n0 = pa at *
    generalize lossS l c0 d0 n0 = L at *
    obtain ⟨e0, he0⟩ : ∃ x, x = (atS l d0).least := ⟨_, rfl⟩
    rw [← he0] at hPL HP0 HP1 HP2 hle
    generalize (atS l d0).whole = wh at *
    obtain ⟨ex, hex⟩ : ∃ x, x = (if e0 + M < 100 then e0 + M else 100) := ⟨_, rfl⟩
    rw [← hex] at HP0
    have hex1 : e0 ≤ ex := by rw [hex]; split <;> omega
    have HE0 := Lib.hid he0
    clear he0 hex
    obtain ⟨pb, hpb⟩ : ∃ x, x = (if ex ≤ L then (if wh = true then L else L - ex) else 0) := ⟨_, rfl⟩
    obtain ⟨pw, hpw⟩ : ∃ x, x = (if e0 ≤ L then L else 0) := ⟨_, rfl⟩
    obtain ⟨pl, hpl⟩ : ∃ x, x = (if e0 ≤ L then L - e0 else 0) := ⟨_, rfl⟩
    rw [← hpb] at HP0
    simp only [if_true, Bool.false_eq_true, if_false] at HP1 HP2 HP3
    rw [← hpw] at HP1
    rw [← hpl] at HP2
    rw [if_pos (show (0 : Int) ≤ L from hlb.1), show L - 0 = L by omega] at HP3
    have g1 : pb ≤ pa := by rw [hpb, hPL]; (repeat' split) <;> omega
    have g2 : pl ≤ pw := by rw [hpl, hpw]; split <;> omega
    have g3 : pw ≤ L := by rw [hpw]; split <;> omega
    have HC1 : Hid (L < e0 → pw = 0 ∧ pl = 0) := Lib.hid (fun h => by rw [hpw, hpl, if_neg (by omega), if_neg (by omega)]; exact ⟨rfl, rfl⟩)
    have HC2 : Hid (e0 ≤ L → pw = L ∧ pl = L - e0) := Lib.hid (fun h => by rw [hpw, hpl, if_pos (by omega), if_pos (by omega)]; exact ⟨rfl, rfl⟩)
    have n1 : decide (pa < pb) = false := decide_eq_false (by omega)
    have n2 : decide (pw < pl) = false := decide_eq_false (by omega)
    have n3 : decide (L < pw) = false := decide_eq_false (by omega)
    have hLw : IntKind.i64.wrap (L - e0) = L - e0 := IntWalk.i64_in _ (by omega)
    clear hpb hpw hpl hPL g1 g2 g3 hex1
    generalize hcn : cropsN l = cn at *
    clear hcn
    go_enter Try.func7, Try.ntmps7
    go_wp2_with fail
    (with_reducible refine hre.mono ?_)
    rintro e w1 ⟨rfl, hx1⟩
    go_wp2_with fail
    (with_reducible refine (HCR.out _ hx1).mono ?_)
    rintro e w2 ⟨rfl, hx2⟩
    have X2 := hx1.trans hx2
    clear hx1 hx2 hre
    go_wp2_with fail
    clear hc0 hd0 hn0 hc0' hd0' hn0' hz1 hz2
    go_loopw [14, 15, 16, 17, 18, 19] (fun s14 s15 s16 s17 s18 _ wr => ∃ (k : Nat) (a1 : Option Addr) (q1 : Nat) (a2 : Option Addr) (q2 : Nat) (a3 : Option Addr) (q3 : Nat) (a4 : Option Addr) (q4 : Nat), k ≤ l.length ∧ s18 = .int .i64 k ∧ s14 = .slice a1 k q1 ∧ s15 = .slice a2 k q2 ∧ s16 = .slice a3 k q3 ∧ s17 = .slice a4 k q4 ∧ Hid (Four w w.heap.size 62 wr (.slice a1 k q1) (.slice a2 k q2) (.slice a3 k q3) (.slice a4 k q4) ((l.map (sf (fun t => if t.least + M < 100 then t.least + M else 100) (fun t => t.whole))).take k) ((l.map (sf (fun t => t.least) (fun _ => true))).take k) ((l.map (sf (fun t => t.least) (fun _ => false))).take k) ((l.map (sf (fun _ => 0) (fun _ => false))).take k))) (fun _ _ _ _ i _ _ => l.length - (intOf i).toNat)
    case atStart => exact ⟨0, none, 0, none, 0, none, 0, none, 0, Nat.zero_le _, rfl, rfl, rfl, rfl, rfl, ⟨OwnT.nil _ _ _ _, OwnT.nil _ _ _ _, OwnT.nil _ _ _ _, OwnT.nil _ _ _ _, DJ.nil _, DJ.nil _, DJ.nil _, DJ.nil _, DJ.nil _, DJ.nil _, X2, Nat.le_refl _⟩⟩
    case round =>
      obtain ⟨k, x1, q1, x2, q2, x3, q3, x4, q4, hk, rfl, rfl, rfl, rfl, rfl, HB⟩ := hrel
      obtain ⟨wo, rfl⟩ : ∃ x, x = wr := ⟨_, rfl⟩
      have hx := HB.out.ext
      have hbs := hx.size
      by_cases hlt : k < l.length
      · obtain ⟨b, off, rfl, hta⟩ := HR.out k hlt
        obtain ⟨a3, k3, a4, k4, a6, k6, m0, m1, m2, m3, m4, m5, mc⟩ := TarAt.open hta
        have HM2 := Lib.hid m2
        replace m0 := hx.keep m0
        replace m1 := hx.keep m1
        replace m2 := hx.keep m2
        replace m3 := hx.keep m3
        replace m4 := hx.keep m4
        replace m5 := hx.keep m5
        have HMC := Lib.hid mc
        have htl := HLS.out _ (List.getElem_mem hlt)
        have nx : ∀ f : Tar → Tar, (l.map f).take k ++ [f l[k]] = (l.map f).take (k + 1) := fun f => by
          rw [List.take_succ_eq_append_getElem (by simpa using hlt)]; simp
        have NX := Lib.hid nx
        have NK : Hid (∀ f : Tar → Tar, k = ((l.map f).take k).length) := Lib.hid (fun f => by simp; omega)
        have NL : Hid (∀ f : Tar → Tar, ((l.map f).take (k + 1)).length = k + 1) := Lib.hid (fun f => by simp; omega)
        clear hta mc nx
        generalize l[k] = t at *
        obtain ⟨lx, hlx⟩ : ∃ x, x = (if t.least + M < 100 then t.least + M else 100) := ⟨_, rfl⟩
        have hlx1 : 0 ≤ lx ∧ lx ≤ 100 := by rw [hlx]; split <;> omega
        have hmin : ∀ (w : World), (Builtin.min_ #[3, 3] 3 #[.int .i64 100, .int .i64 (t.least + M)]).run Try.prog w = .ok (.int .i64 lx) w := lmin_i64 hlx _ _
        have hsw : IntKind.i64.wrap (t.least + M) = t.least + M := IntWalk.i64_in _ (by omega)
        have U0 : Hid (TarU w ⟨.int .i64 t.start, .bool t.whole, .int .i64 lx, .slice a3 t.weeks.length k3, .slice a4 t.counts.length k4, .slice a6 t.rates.length k6⟩ ((sf (fun t => if t.least + M < 100 then t.least + M else 100) (fun t => t.whole)) t)) := Lib.hid (by
          subst hlx
          exact ⟨rfl, rfl, rfl, ⟨HMC.out.f, show i64ok _ from ⟨by simp only [sf]; split <;> omega, by simp only [sf]; split <;> omega⟩, HMC.out.weeks, HMC.out.counts, HMC.out.rates⟩⟩)
        have U1 : Hid (TarU w ⟨.int .i64 t.start, .bool true, .int .i64 t.least, .slice a3 t.weeks.length k3, .slice a4 t.counts.length k4, .slice a6 t.rates.length k6⟩ ((sf (fun t => t.least) (fun _ => true)) t)) := Lib.hid ⟨rfl, rfl, rfl, ⟨HMC.out.f, HMC.out.l, HMC.out.weeks, HMC.out.counts, HMC.out.rates⟩⟩
        have U2 : Hid (TarU w ⟨.int .i64 t.start, .bool false, .int .i64 t.least, .slice a3 t.weeks.length k3, .slice a4 t.counts.length k4, .slice a6 t.rates.length k6⟩ ((sf (fun t => t.least) (fun _ => false)) t)) := Lib.hid ⟨rfl, rfl, rfl, ⟨HMC.out.f, HMC.out.l, HMC.out.weeks, HMC.out.counts, HMC.out.rates⟩⟩
        have U3 : Hid (TarU w ⟨.int .i64 t.start, .bool false, .int .i64 0, .slice a3 t.weeks.length k3, .slice a4 t.counts.length k4, .slice a6 t.rates.length k6⟩ ((sf (fun _ => 0) (fun _ => false)) t)) := Lib.hid ⟨rfl, rfl, rfl, ⟨HMC.out.f, show i64ok 0 from ⟨by decide, by decide⟩, HMC.out.weeks, HMC.out.counts, HMC.out.rates⟩⟩
        clear hlx HMC
        go_upto_region 10 with fail
        obtain ⟨WA, hWA⟩ : ∃ x, x = (wo.alloc (.cells #[.int .i64 t.start, .bool t.whole, .int .i64 lx, .slice a3 t.weeks.length k3, .slice a4 t.counts.length k4, .slice a6 t.rates.length k6] 62)) := ⟨_, rfl⟩
        rw [← hWA]
        have RA := Lib.hid (show RI w w.heap.size 62 wo.heap.size ⟨.int .i64 t.start, .bool t.whole, .int .i64 lx, .slice a3 t.weeks.length k3, .slice a4 t.counts.length k4, .slice a6 t.rates.length k6⟩ WA _ _ _ _ _ _ _ _ by rw [hWA]; exact RI.start HB.out hbs)
        clear hWA HB m0 m1 m2 m3 m4 m5 hmin hsw
        generalize wo.heap.size = T at *
        obtain ⟨us, hul, hown0, hs0⟩ := RA.out.four.a
        have HU := Lib.hid (And.intro hul hs0)
        rw [← NK.out (sf (fun t => if t.least + M < 100 then t.least + M else 100) (fun t => t.whole))] at hown0
        have OWN := Lib.hid hown0
        clear hul hs0 hown0
        obtain ⟨t0, t1, t2, t3, t4, t5⟩ := RA.out.box
        simp only [Nat.zero_add] at t0 t1 t2 t3 t4 t5
        have hbw := RA.out.four.ext.size
        go_wp2_with (at_builtin; refine wpList_append_own_at _ rfl _ _ 22 rfl w.heap.size 62 i3 (.agg #[.int .i64 0, .bool false, .int .i64 0, .slice none 0 0, .slice none 0 0, .slice none 0 0]) 6 96 Try.underlying22 hi3 hz30 hz31 hz32 rfl (by decide) (.slice x1 k q1) k (us.flatMap V6.cs) rfl ?own ⟨WA.heap.size, 0, none⟩ 1 1 (V6.cs ⟨.int .i64 t.start, .bool t.whole, .int .i64 lx, .slice a3 t.weeks.length k3, .slice a4 t.counts.length k4, .slice a6 t.rates.length k6⟩) rfl rfl (cell_six_new _ ⟨.int .i64 t.start, .bool t.whole, .int .i64 lx, .slice a3 t.weeks.length k3, .slice a4 t.counts.length k4, .slice a6 t.rates.length k6⟩ _) ?one ?f1 ?f2 ?f3 ?next)
        case own => exact own_keep OWN.out (fun g hg => ((Ext.refl WA).alloc _).heap (own_lt OWN.out hg).2)
        case one =>
          first
            | exact ⟨rfl, rfl, rfl, rfl, rfl, rfl⟩
            | (intro u hu
               simp only [V6.cs, List.mem_cons, List.not_mem_nil, or_false] at hu
               rcases hu with rfl | rfl | rfl | rfl | rfl | rfl <;> rfl)
        case f1 => simp only [maxLen]; omega
        case f2 => omega
        case f3 => first | omega | (simp; omega)
        case next =>
        intro v' w3 hown hgrow hnil hat
        have RN := RI.next RA.out HU.out.1 HU.out.2 (NK.out _) hown hgrow (hat.imp_right (fun h => h.trans (by simp))) U0.out
        rw [NX.out] at RN
        obtain ⟨x', q', hv'⟩ := RN.four.d.slice
        rw [NL.out] at hv'
        subst hv'
        replace RA := Lib.hid RN
        clear RN hown hgrow hnil hat HU OWN t0 t1 t2 t3 t4 t5 hbw U0
        obtain ⟨x1, rfl⟩ : ∃ y, y = x' := ⟨_, rfl⟩
        obtain ⟨q1, rfl⟩ : ∃ y, y = q' := ⟨_, rfl⟩
        obtain ⟨t0, t1, t2, t3, t4, t5⟩ := RA.out.box
        simp only [Nat.zero_add] at t0 t1 t2 t3 t4 t5
        have f1 := RA.out.fz 1
        have f2 := RA.out.fz 2
        have m2 := RA.out.four.ext.keep HM2.out
        go_upto_region 12 with fail
        obtain ⟨WB, hWB⟩ : ∃ x, x = ((w3.setCell ⟨T, 2, none⟩ (.int .i64 t.least)).setCell ⟨T, 1, none⟩ (.bool true)) := ⟨_, rfl⟩
        rw [← hWB]
        replace RA := Lib.hid (show RI w w.heap.size 62 T ⟨.int .i64 t.start, .bool true, .int .i64 t.least, .slice a3 t.weeks.length k3, .slice a4 t.counts.length k4, .slice a6 t.rates.length k6⟩ WB _ _ _ _ _ _ _ _ by rw [hWB]; exact RA.out.set2.set1)
        clear m2
        clear hWB t0 t1 t2 t3 t4 t5 f1 f2
        obtain ⟨WA, rfl⟩ : ∃ x, x = WB := ⟨_, rfl⟩
        obtain ⟨us, hul, hown0, hs0⟩ := RA.out.four.a
        have HU := Lib.hid (And.intro hul hs0)
        rw [← NK.out (sf (fun t => t.least) (fun _ => true))] at hown0
        have OWN := Lib.hid hown0
        clear hul hs0 hown0
        obtain ⟨t0, t1, t2, t3, t4, t5⟩ := RA.out.box
        simp only [Nat.zero_add] at t0 t1 t2 t3 t4 t5
        have hbw := RA.out.four.ext.size
        go_wp2_with (at_builtin; refine wpList_append_own_at _ rfl _ _ 22 rfl w.heap.size 62 i3 (.agg #[.int .i64 0, .bool false, .int .i64 0, .slice none 0 0, .slice none 0 0, .slice none 0 0]) 6 96 Try.underlying22 hi3 hz30 hz31 hz32 rfl (by decide) (.slice x2 k q2) k (us.flatMap V6.cs) rfl ?own ⟨WA.heap.size, 0, none⟩ 1 1 (V6.cs ⟨.int .i64 t.start, .bool true, .int .i64 t.least, .slice a3 t.weeks.length k3, .slice a4 t.counts.length k4, .slice a6 t.rates.length k6⟩) rfl rfl (cell_six_new _ ⟨.int .i64 t.start, .bool true, .int .i64 t.least, .slice a3 t.weeks.length k3, .slice a4 t.counts.length k4, .slice a6 t.rates.length k6⟩ _) ?one ?f1 ?f2 ?f3 ?next)
        case own => exact own_keep OWN.out (fun g hg => ((Ext.refl WA).alloc _).heap (own_lt OWN.out hg).2)
        case one =>
          first
            | exact ⟨rfl, rfl, rfl, rfl, rfl, rfl⟩
            | (intro u hu
               simp only [V6.cs, List.mem_cons, List.not_mem_nil, or_false] at hu
               rcases hu with rfl | rfl | rfl | rfl | rfl | rfl <;> rfl)
        case f1 => simp only [maxLen]; omega
        case f2 => omega
        case f3 => first | omega | (simp; omega)
        case next =>
        intro v' w3 hown hgrow hnil hat
        have RN := RI.next RA.out HU.out.1 HU.out.2 (NK.out _) hown hgrow (hat.imp_right (fun h => h.trans (by simp))) U1.out
        rw [NX.out] at RN
        obtain ⟨x', q', hv'⟩ := RN.four.d.slice
        rw [NL.out] at hv'
        subst hv'
        replace RA := Lib.hid RN
        clear RN hown hgrow hnil hat HU OWN t0 t1 t2 t3 t4 t5 hbw U1
        obtain ⟨x2, rfl⟩ : ∃ y, y = x' := ⟨_, rfl⟩
        obtain ⟨q2, rfl⟩ : ∃ y, y = q' := ⟨_, rfl⟩
        obtain ⟨t0, t1, t2, t3, t4, t5⟩ := RA.out.box
        simp only [Nat.zero_add] at t0 t1 t2 t3 t4 t5
        have f1 := RA.out.fz 1
        have f2 := RA.out.fz 2
        go_upto_region 14 with fail
        obtain ⟨WB, hWB⟩ : ∃ x, x = (w3.setCell ⟨T, 1, none⟩ (.bool false)) := ⟨_, rfl⟩
        rw [← hWB]
        replace RA := Lib.hid (show RI w w.heap.size 62 T ⟨.int .i64 t.start, .bool false, .int .i64 t.least, .slice a3 t.weeks.length k3, .slice a4 t.counts.length k4, .slice a6 t.rates.length k6⟩ WB _ _ _ _ _ _ _ _ by rw [hWB]; exact RA.out.set1)
        clear hWB t0 t1 t2 t3 t4 t5 f1 f2
        obtain ⟨WA, rfl⟩ : ∃ x, x = WB := ⟨_, rfl⟩
        obtain ⟨us, hul, hown0, hs0⟩ := RA.out.four.a
        have HU := Lib.hid (And.intro hul hs0)
        rw [← NK.out (sf (fun t => t.least) (fun _ => false))] at hown0
        have OWN := Lib.hid hown0
        clear hul hs0 hown0
        obtain ⟨t0, t1, t2, t3, t4, t5⟩ := RA.out.box
        simp only [Nat.zero_add] at t0 t1 t2 t3 t4 t5
        have hbw := RA.out.four.ext.size
        go_wp2_with (at_builtin; refine wpList_append_own_at _ rfl _ _ 22 rfl w.heap.size 62 i3 (.agg #[.int .i64 0, .bool false, .int .i64 0, .slice none 0 0, .slice none 0 0, .slice none 0 0]) 6 96 Try.underlying22 hi3 hz30 hz31 hz32 rfl (by decide) (.slice x3 k q3) k (us.flatMap V6.cs) rfl ?own ⟨WA.heap.size, 0, none⟩ 1 1 (V6.cs ⟨.int .i64 t.start, .bool false, .int .i64 t.least, .slice a3 t.weeks.length k3, .slice a4 t.counts.length k4, .slice a6 t.rates.length k6⟩) rfl rfl (cell_six_new _ ⟨.int .i64 t.start, .bool false, .int .i64 t.least, .slice a3 t.weeks.length k3, .slice a4 t.counts.length k4, .slice a6 t.rates.length k6⟩ _) ?one ?f1 ?f2 ?f3 ?next)
        case own => exact own_keep OWN.out (fun g hg => ((Ext.refl WA).alloc _).heap (own_lt OWN.out hg).2)
        case one =>
          first
            | exact ⟨rfl, rfl, rfl, rfl, rfl, rfl⟩
            | (intro u hu
               simp only [V6.cs, List.mem_cons, List.not_mem_nil, or_false] at hu
               rcases hu with rfl | rfl | rfl | rfl | rfl | rfl <;> rfl)
        case f1 => simp only [maxLen]; omega
        case f2 => omega
        case f3 => first | omega | (simp; omega)
        case next =>
        intro v' w3 hown hgrow hnil hat
        have RN := RI.next RA.out HU.out.1 HU.out.2 (NK.out _) hown hgrow (hat.imp_right (fun h => h.trans (by simp))) U2.out
        rw [NX.out] at RN
        obtain ⟨x', q', hv'⟩ := RN.four.d.slice
        rw [NL.out] at hv'
        subst hv'
        replace RA := Lib.hid RN
        clear RN hown hgrow hnil hat HU OWN t0 t1 t2 t3 t4 t5 hbw U2
        obtain ⟨x3, rfl⟩ : ∃ y, y = x' := ⟨_, rfl⟩
        obtain ⟨q3, rfl⟩ : ∃ y, y = q' := ⟨_, rfl⟩
        obtain ⟨t0, t1, t2, t3, t4, t5⟩ := RA.out.box
        simp only [Nat.zero_add] at t0 t1 t2 t3 t4 t5
        have f1 := RA.out.fz 1
        have f2 := RA.out.fz 2
        go_upto_region 16 with fail
        obtain ⟨WB, hWB⟩ : ∃ x, x = (w3.setCell ⟨T, 2, none⟩ (.int .i64 0)) := ⟨_, rfl⟩
        rw [← hWB]
        replace RA := Lib.hid (show RI w w.heap.size 62 T ⟨.int .i64 t.start, .bool false, .int .i64 0, .slice a3 t.weeks.length k3, .slice a4 t.counts.length k4, .slice a6 t.rates.length k6⟩ WB _ _ _ _ _ _ _ _ by rw [hWB]; exact RA.out.set2)
        clear hWB t0 t1 t2 t3 t4 t5 f1 f2
        obtain ⟨WA, rfl⟩ : ∃ x, x = WB := ⟨_, rfl⟩
        obtain ⟨us, hul, hown0, hs0⟩ := RA.out.four.a
        have HU := Lib.hid (And.intro hul hs0)
        rw [← NK.out (sf (fun _ => 0) (fun _ => false))] at hown0
        have OWN := Lib.hid hown0
        clear hul hs0 hown0
        obtain ⟨t0, t1, t2, t3, t4, t5⟩ := RA.out.box
        simp only [Nat.zero_add] at t0 t1 t2 t3 t4 t5
        have hbw := RA.out.four.ext.size
        go_wp2_with (at_builtin; refine wpList_append_own_at _ rfl _ _ 22 rfl w.heap.size 62 i3 (.agg #[.int .i64 0, .bool false, .int .i64 0, .slice none 0 0, .slice none 0 0, .slice none 0 0]) 6 96 Try.underlying22 hi3 hz30 hz31 hz32 rfl (by decide) (.slice x4 k q4) k (us.flatMap V6.cs) rfl ?own ⟨WA.heap.size, 0, none⟩ 1 1 (V6.cs ⟨.int .i64 t.start, .bool false, .int .i64 0, .slice a3 t.weeks.length k3, .slice a4 t.counts.length k4, .slice a6 t.rates.length k6⟩) rfl rfl (cell_six_new _ ⟨.int .i64 t.start, .bool false, .int .i64 0, .slice a3 t.weeks.length k3, .slice a4 t.counts.length k4, .slice a6 t.rates.length k6⟩ _) ?one ?f1 ?f2 ?f3 ?next)
        case own => exact own_keep OWN.out (fun g hg => ((Ext.refl WA).alloc _).heap (own_lt OWN.out hg).2)
        case one =>
          first
            | exact ⟨rfl, rfl, rfl, rfl, rfl, rfl⟩
            | (intro u hu
               simp only [V6.cs, List.mem_cons, List.not_mem_nil, or_false] at hu
               rcases hu with rfl | rfl | rfl | rfl | rfl | rfl <;> rfl)
        case f1 => simp only [maxLen]; omega
        case f2 => omega
        case f3 => first | omega | (simp; omega)
        case next =>
        intro v' w3 hown hgrow hnil hat
        have RN := RI.next RA.out HU.out.1 HU.out.2 (NK.out _) hown hgrow (hat.imp_right (fun h => h.trans (by simp))) U3.out
        rw [NX.out] at RN
        obtain ⟨x', q', hv'⟩ := RN.four.d.slice
        rw [NL.out] at hv'
        subst hv'
        replace RA := Lib.hid RN
        clear RN hown hgrow hnil hat HU OWN t0 t1 t2 t3 t4 t5 hbw U3
        obtain ⟨x4, rfl⟩ : ∃ y, y = x' := ⟨_, rfl⟩
        obtain ⟨q4, rfl⟩ : ∃ y, y = q' := ⟨_, rfl⟩
        go_wp2_with fail
        go_roundw
        case rel => exact ⟨k + 1, _, _, _, _, _, _, _, _, by omega, by go_num, rfl, rfl, rfl, rfl, Lib.hid RA.out.four⟩
        case measure => simp [intOf]; omega
      · have ek : k = l.length := by omega
        subst ek
        have hf := HB.out
        have tk : ∀ f : Tar → Tar, (l.map f).take l.length = l.map f := fun f => List.take_of_length_le (by simp)
        rw [tk, tk, tk, tk] at hf
        have HV0 := Lib.hid (hf.a.tars hx (by simp; omega))
        have HV1 := Lib.hid (hf.b.tars hx (by simp; omega))
        have HV2 := Lib.hid (hf.c.tars hx (by simp; omega))
        have HV3 := Lib.hid (hf.d.tars hx (by simp; omega))
        clear hf tk HB
        go_wp2_with fail
        (with_reducible refine (HTA.out _ hx).mono ?_)
        rintro e y1 ⟨z1, rfl, hz, hy⟩
        have P1 : Ext wo y1 := hy
        clear hy
        go_wp2_with fail
        (with_reducible refine (HPA.out _ _ hz).mono ?_)
        rintro e y2 ⟨rfl, hy⟩
        have Q0 : Ext wo y2 := P1.trans hy
        clear hz hy P1
        go_wp2_with fail
        (with_reducible refine (HT0.out _ _ (HV0.out.ext Q0)).mono ?_)
        rintro e y3 ⟨z3, rfl, hz, hy⟩
        have P1 : Ext wo y3 := Q0.trans hy
        clear hy
        go_wp2_with fail
        (with_reducible refine (HP0.out _ _ hz).mono ?_)
        rintro e y4 ⟨rfl, hy⟩
        have Q1 : Ext wo y4 := P1.trans hy
        clear hz hy P1 Q0
        go_wp2_with fail
        (with_reducible refine (HT1.out _ _ (HV1.out.ext Q1)).mono ?_)
        rintro e y5 ⟨z5, rfl, hz, hy⟩
        have P1 : Ext wo y5 := Q1.trans hy
        clear hy
        go_wp2_with fail
        (with_reducible refine (HP1.out _ _ hz).mono ?_)
        rintro e y6 ⟨rfl, hy⟩
        have Q2 : Ext wo y6 := P1.trans hy
        clear hz hy P1 Q1
        go_wp2_with fail
        (with_reducible refine (HT2.out _ _ (HV2.out.ext Q2)).mono ?_)
        rintro e y7 ⟨z7, rfl, hz, hy⟩
        have P1 : Ext wo y7 := Q2.trans hy
        clear hy
        go_wp2_with fail
        (with_reducible refine (HP2.out _ _ hz).mono ?_)
        rintro e y8 ⟨rfl, hy⟩
        have Q3 : Ext wo y8 := P1.trans hy
        clear hz hy P1 Q2
        go_wp2_with fail
        (with_reducible refine (HT3.out _ _ (HV3.out.ext Q3)).mono ?_)
        rintro e y9 ⟨z9, rfl, hz, hy⟩
        have P1 : Ext wo y9 := Q3.trans hy
        clear hy
        go_wp2_with fail
        (with_reducible refine (HP3.out _ _ hz).mono ?_)
        rintro e y10 ⟨rfl, hy⟩
        have Q4 : Ext wo y10 := P1.trans hy
        clear hz hy P1 Q3
        go_wp2_with fail
        (with_reducible refine (HOF.out _ (hx.trans Q4)).mono ?_)
        rintro e y13 ⟨u, rfl, hu, hy⟩
        have Q5 := Q4.trans hy
        obtain ⟨a3, k3, a4, k4, a6, k6, rfl⟩ := hu.slices
        dsimp only [V6.val]
        have hfld := field_least
        have hee := HE0.out
        rw [← hee]
        clear hu hy Q4 hee
        by_cases hc : L < e0
        · obtain ⟨rfl, rfl⟩ := HC1.out hc
          have k1 : decide (L < e0) = true := decide_eq_true hc
          go_wp2_with fail
          (with_reducible refine (HAW.out _).mono ?_)
          rintro e w7 ⟨rfl, hx7⟩
          go_wp2_with fail
          go_ret
          exact ⟨rfl, hx.trans (Q5.trans hx7)⟩
        · have k1 : decide (L < e0) = false := decide_eq_false hc
          have k2 : decide (e0 ≤ L) = true := decide_eq_true (by omega)
          obtain ⟨hq1, hq2⟩ := HC2.out (by omega)
          subst hq1 hq2
          go_wp2_with fail
          (with_reducible refine (HAW.out _).mono ?_)
          rintro e w7 ⟨rfl, hx7⟩
          go_wp2_with fail
          go_ret
          exact ⟨rfl, hx.trans (Q5.trans hx7)⟩
end Go.Proofs.Ytfjecbfcnngacaa
