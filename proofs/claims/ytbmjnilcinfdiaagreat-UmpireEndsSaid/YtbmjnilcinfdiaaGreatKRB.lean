/- Contracts of the reference of layer 7: all settled counts of a field, and whether the umpire is called for it. -/
import Derived.Test.YtbmjnilcinfdiaaGreatKRA
import Derived.Test.YtbmjnilcinfdiaaGreatKXB
set_option linter.unusedSimpArgs false
set_option linter.unusedVariables false
namespace Go.Hs
open Go.RowKit Go.Proofs.YtbmjnilcinfdiaaGreat
theorem ThrRow.at {B e n i : Nat} {g : Nat → Thr} {a : Option Addr} {q : Nat} {W : World} (h : ThrRow B e g n (.slice a n q) W) (hi : i < n) : ∃ b off, a = some ⟨b, off, none⟩ ∧ B ≤ b ∧ Cell3 W b (off + i * 3) (g i).c := by
  rcases own_open h with ⟨-, h0⟩ | ⟨b, cap, he, hb, hg, hn, hc⟩
  · omega
  · simp only [Value.slice.injEq] at he
    obtain ⟨rfl, -, -⟩ := he
    have hl : i < (thrsTo g n).length := by rw [thrsTo_len]; exact hi
    have f := fun j hj => flat_at (C := fun x : Thr => x.c.cs) (k := 3) (fun _ => rfl) (thrsTo g n) i j hl hj
    have e1 : (thrsTo g n)[i] = g i := by simp [thrsTo]
    rw [e1] at f
    refine ⟨b, 0, rfl, hb, ?_⟩
    simp only [Nat.zero_add]
    exact ⟨hc _ _ (f 0 (by decide)), hc _ _ (f 1 (by decide)), hc _ _ (f 2 (by decide))⟩
theorem Cell3.kp {p : Nat → Prop} {w w' : World} (h : KP p w w') {b o : Nat} {x : V3} (hb : ¬ p b) (k : Cell3 w b o x) : Cell3 w' b o x := ⟨h.keep hb k.1, h.keep hb k.2.1, h.keep hb k.2.2⟩
/-- What holds between two rounds of the reference's 'Counts'. -/
structure RCI (W1 : World) (S : Nat) (f : Fld) (n : Nat) (W : World) : Prop where
  kp : KP (fun k => k = S) W1 W
  bits : BitsAt S 101 (seenB f n) W
  fr : ∀ o, W.frozen? ⟨S, o, none⟩ = false
theorem RCI.ext {W1 W W' : World} {S n : Nat} {f : Fld} (h : RCI W1 S f n W) (hx : Ext W W') : RCI W1 S f n W' :=
  ⟨h.kp.ext hx, h.bits.ext hx, fun o => (hx.frozen (lt_of_cell (h.bits 0 (by decide)))).trans (h.fr o)⟩
theorem RCI.set {W1 W : World} {S n m : Nat} {f : Fld} (h : RCI W1 S f n W) (hm : settledS f (truthAt f n) = (m : Int)) : RCI W1 S f (n + 1) (W.setCell ⟨S, m, none⟩ (.bool true)) := by
  refine ⟨h.kp.setCell rfl _, fun j hj => ?_, fun o => by rw [World.frozen?_setCell]; exact h.fr o⟩
  rw [seenB_next f n m hm]
  by_cases e : m = j
  · subst e
    simp only [beq_self_eq_true, Bool.or_true]
    exact sc_eq' (h.bits m hj)
  · have : (m == j) = false := by simp [e]
    rw [this, Bool.or_false]
    exact sc_ne' (.inr (Ne.symm e)) (h.bits j hj)
def cntC (f : Fld) (n : Nat) : Nat := (List.range n).countP (fun i => calledB f (truthAt f i))
theorem cntC_yes {f : Fld} {n : Nat} (h : calledB f (truthAt f n) = true) : cntC f (n + 1) = cntC f n + 1 := by
  unfold cntC; rw [List.range_succ, List.countP_append]; simp [h]
theorem cntC_no {f : Fld} {n : Nat} (h : calledB f (truthAt f n) = false) : cntC f (n + 1) = cntC f n := by
  unfold cntC; rw [List.range_succ, List.countP_append]; simp [h]
theorem cntC_le (f : Fld) (n : Nat) : cntC f n ≤ n := by
  have := List.countP_le_length (p := fun i => calledB f (truthAt f i)) (l := List.range n)
  simpa [cntC] using this
theorem called_count {f : Fld} (h : 0 < truthsN f) : calledV f = if cntC f (truthsN f) = truthsN f then 1 else if cntC f (truthsN f) = 0 then 2 else 3 := by
  have e1 : cntC f (truthsN f) = truthsN f ↔ ∀ x ∈ truthsS f, calledB f x = true := by
    unfold cntC truthsS
    have := List.countP_eq_length (p := fun i => calledB f (truthAt f i)) (l := List.range (truthsN f))
    rw [List.length_range] at this
    rw [this]
    simp
  have e2 : cntC f (truthsN f) = 0 ↔ ∀ x ∈ truthsS f, calledB f x = false := by
    unfold cntC truthsS
    rw [List.countP_eq_zero]
    simp
  have hne : ∃ x, x ∈ truthsS f := ⟨truthAt f 0, by unfold truthsS; exact List.mem_map.2 ⟨0, List.mem_range.2 h, rfl⟩⟩
  by_cases h1 : cntC f (truthsN f) = truthsN f
  · rw [if_pos h1]
    exact called_always.2 ⟨hne, e1.1 h1⟩
  · rw [if_neg h1]
    by_cases h2 : cntC f (truthsN f) = 0
    · rw [if_pos h2]
      exact called_never.2 (e2.1 h2)
    · rw [if_neg h2]
      rcases calledV_in f with k | k | k
      · exact absurd (e1.2 (called_always.1 k).2) h1
      · exact absurd (e2.2 (called_never.1 k)) h2
      · exact k
theorem truthsN_pos {l : List Tar} {f : Fld} (h : FldOK l f) : 0 < truthsN f := by
  have := truths_ne h
  rcases Nat.eq_zero_or_pos (truthsN f) with e | e
  · exact absurd (by unfold truthsS; rw [e]; rfl) this
  · exact e
end Go.Hs
namespace Go.Proofs.YtbmjnilcinfdiaaGreat
open Go.RowKit Go.Hs
attribute [local irreducible] World.setCell World.alloc
theorem zeroR101 : Tryz.zeroCells62 = Array.replicate 101 (.bool false) := by kernel_rfl
theorem zero_bits (w : World) (t : TypeId) : BitsAt w.heap.size 101 (fun _ => false) (w.alloc (.cells (Array.replicate 101 (.bool false)) t)) := fun j hj => by
  have h := cell_of_row (w.alloc (.cells (Array.replicate 101 (.bool false)) t)) w.heap.size j (Array.replicate 101 (.bool false)) t (0, 0) (World.alloc_heap_new w (.cells (Array.replicate 101 (.bool false)) t))
  rw [h]
  simp [hj]

set_option maxRecDepth 100000 in
set_option maxHeartbeats 4000000 in
theorem RCounts_any (l : List Tar) (f : Fld) (hf : FldOK l f) (w : World) :
    Calls Tryz.prog 22 #[f.c.val] w fun e w' => ∃ v', e = .returned v' ∧ IntsV w' v' (countsS f) ∧ Ext w w' := by
  have hN := truthsN_le hf
  have hfr := hf.r
  have HEV := Lib.hid (REvery_any l f hf)
  have HST : Hid (∀ n, n < truthsN f → ∃ m : Nat, settledS f (truthAt f n) = (m : Int) ∧ m < 101) := Lib.hid (fun n hn => by
    have hx := truthAt_ok hn
    have := hx.a; have := hx.b; have := hfr.a; have := hfr.b
    have := settled_bd (f := f) (x := truthAt f n) (by omega) (by omega)
    exact ⟨(settledS f (truthAt f n)).toNat, by omega, by omega⟩)
  have HSE : Hid (∀ n, n < truthsN f → ∀ w', Calls Tryz.prog 58 #[f.c.val, (truthAt f n).c.val] w' fun e w'' => e = .returned (.int .i64 (settledS f (truthAt f n))) ∧ Ext w' w'') := Lib.hid (fun n hn w' => by
    have hx := truthAt_ok hn
    have := hx.a; have := hx.b; have := hfr.a; have := hfr.b
    exact Settled_any f _ (by omega) (by omega) w')
  have HCS := Lib.hid (countsS_upto f)
  have HALL := Lib.hid (seenB_all f)
  have HSET := Lib.hid (fun (W1 W : World) (S n m : Nat) (h : RCI W1 S f n W) hm => h.set (m := m) hm)
  have H00 := Lib.hid (seenB_zero f)
  obtain ⟨i1, hi1, hz10, hz11, hz12⟩ := info_parts info_int
  clear hf hfr
  generalize countsS f = cs at *
  generalize isCount f = g at *
  generalize truthsN f = N at *
  obtain ⟨fv, hfv⟩ : ∃ fv, fv = f := ⟨_, rfl⟩
  have HFV := Lib.hid hfv
  have HFC : Hid (f.c.val = .agg #[.int .i64 fv.crop, .int .i64 fv.value, .int .i64 fv.near, .int .i64 fv.alo, .int .i64 fv.ahi, .int .i64 fv.blo, .int .i64 fv.bhi, .int .i64 fv.ulo, .int .i64 fv.uhi]) := Lib.hid (by rw [hfv]; rfl)
  clear hfv
  rw [HFC.out] at HEV HSE ⊢
  obtain ⟨cr, va, ne, al, ah, bl, bh, ul, uh⟩ := fv
  simp only at *
  clear HFC HFV
  go_enter Tryz.func22, Tryz.ntmps22
  go_wp2_with fail
  (with_reducible refine (HEV.out _).mono ?_)
  rintro e w1 ⟨a, q, rfl, hrow, hx1⟩
  rw [zeroR101] at hx1 hrow
  have hbs : BitsAt (w.heap.size + 1) 101 (seenB f 0) w1 := by
    rw [H00.out]
    have := zero_bits (w.alloc (.cells #[.int .i64 cr, .int .i64 va, .int .i64 ne, .int .i64 al, .int .i64 ah, .int .i64 bl, .int .i64 bh, .int .i64 ul, .int .i64 uh] 45)) 62
    rw [World.size_alloc] at this
    exact this.ext hx1
  have hbf : ∀ o, w1.frozen? ⟨w.heap.size + 1, o, none⟩ = false := fun o => (hx1.frozen (k := w.heap.size + 1) (o := o) (by simp)).trans (by simp [go_sem])
  have HS : Hid (∀ w', KP (fun k => k = w.heap.size + 1) w1 w' → (w'.cell? ⟨w.heap.size, 0, none⟩ = some (.int .i64 cr) ∧ w'.cell? ⟨w.heap.size, 1, none⟩ = some (.int .i64 va) ∧ w'.cell? ⟨w.heap.size, 2, none⟩ = some (.int .i64 ne) ∧ w'.cell? ⟨w.heap.size, 3, none⟩ = some (.int .i64 al) ∧ w'.cell? ⟨w.heap.size, 4, none⟩ = some (.int .i64 ah) ∧ w'.cell? ⟨w.heap.size, 5, none⟩ = some (.int .i64 bl) ∧ w'.cell? ⟨w.heap.size, 6, none⟩ = some (.int .i64 bh) ∧ w'.cell? ⟨w.heap.size, 7, none⟩ = some (.int .i64 ul) ∧ w'.cell? ⟨w.heap.size, 8, none⟩ = some (.int .i64 uh))) :=
    Lib.hid (fun w' hk => ⟨hk.keep (by omega) (hx1.keep (by simp [go_sem])), hk.keep (by omega) (hx1.keep (by simp [go_sem])), hk.keep (by omega) (hx1.keep (by simp [go_sem])), hk.keep (by omega) (hx1.keep (by simp [go_sem])), hk.keep (by omega) (hx1.keep (by simp [go_sem])), hk.keep (by omega) (hx1.keep (by simp [go_sem])), hk.keep (by omega) (hx1.keep (by simp [go_sem])), hk.keep (by omega) (hx1.keep (by simp [go_sem])), hk.keep (by omega) (hx1.keep (by simp [go_sem]))⟩)
  have X1 : Ext w w1 := by (repeat (first | exact Ext.refl _ | (with_reducible assumption) | (with_reducible refine Ext.drew ?_) | (with_reducible refine Ext.alloc ?_ _) | (with_reducible refine Ext.drewN ?_ _) | (with_reducible refine Ext.setCell ?_ (by omega) _) | (with_reducible refine Ext.trans ?_ (by with_reducible assumption))))
  have HRW : Hid (ThrRow (w.heap.size + 1 + 1) 67 (truthAt f) N (.slice a N q) w1) := Lib.hid (hrow.base (by simp))
  have H0 : Hid (RCI w1 (w.heap.size + 1) f 0 w1) := Lib.hid ⟨KP.refl _, hbs, hbf⟩
  clear hbs hbf hrow hx1
  go_wp2_with fail
  go_loopw [5] (fun s5 wr => ∃ i : Nat, i ≤ N ∧ s5 = .int .i64 i ∧ Hid (RCI w1 (w.heap.size + 1) f i wr)) (fun s _ => N - (intOf s).toNat)
  case atStart => exact ⟨0, Nat.zero_le _, rfl, H0⟩
  case round =>
    obtain ⟨i, hi, rfl, HR⟩ := hrel
    obtain ⟨wo, rfl⟩ : ∃ x, x = wr := ⟨_, rfl⟩
    by_cases hlt : i < N
    · obtain ⟨b, off, rfl, hbb, hc3⟩ := HRW.out.at hlt
      obtain ⟨m, hm, hm1⟩ := HST.out i hlt
      have hse := HSE.out i hlt
      rw [hm] at hse
      have HSX := Lib.hid hse
      have HSETI : Hid (∀ W', RCI w1 (w.heap.size + 1) f i W' → RCI w1 (w.heap.size + 1) f (i + 1) (W'.setCell ⟨w.heap.size + 1, m, none⟩ (.bool true))) := Lib.hid (fun W' h => HSET.out _ _ _ _ _ h hm)
      have hm2 : (0 : Int) ≤ (m : Int) := by omega
      have hm3 : (m : Int) < 101 := by omega
      have HKP := Lib.hid (HR.out.kp)
      have hc3 := hc3.kp HKP.out (by omega)
      have hbne : b ≠ w.heap.size + 1 := by omega
      clear HSE hse hm HRW HST HEV H0 hbb
      obtain ⟨q0, q1, q2, q3, q4, q5, q6, q7, q8⟩ := HS.out _ HKP.out
      generalize truthAt f i = x at *
      obtain ⟨A, B, U⟩ := x
      obtain ⟨m0, m1, m2⟩ := hc3
      simp only [Thr.c] at *
      have HS2 : Hid (∀ w', KP (fun k => k = w.heap.size + 1) wo w' → ((w'.cell? ⟨w.heap.size, 0, none⟩ = some (.int .i64 cr) ∧ w'.cell? ⟨w.heap.size, 1, none⟩ = some (.int .i64 va) ∧ w'.cell? ⟨w.heap.size, 2, none⟩ = some (.int .i64 ne) ∧ w'.cell? ⟨w.heap.size, 3, none⟩ = some (.int .i64 al) ∧ w'.cell? ⟨w.heap.size, 4, none⟩ = some (.int .i64 ah) ∧ w'.cell? ⟨w.heap.size, 5, none⟩ = some (.int .i64 bl) ∧ w'.cell? ⟨w.heap.size, 6, none⟩ = some (.int .i64 bh) ∧ w'.cell? ⟨w.heap.size, 7, none⟩ = some (.int .i64 ul) ∧ w'.cell? ⟨w.heap.size, 8, none⟩ = some (.int .i64 uh)) ∧ w'.cell? ⟨b, off + i * 3, none⟩ = some (.int .i64 A) ∧ w'.cell? ⟨b, off + i * 3 + 1, none⟩ = some (.int .i64 B) ∧ w'.cell? ⟨b, off + i * 3 + 2, none⟩ = some (.int .i64 U)) ∧ KP (fun k => k = w.heap.size + 1) wo w') :=
        Lib.hid (fun w' hk => ⟨⟨HS.out w' (HKP.out.trans hk), hk.keep hbne m0, hk.keep hbne m1, hk.keep hbne m2⟩, hk⟩)
      have HBT : Hid (∀ w', Ext wo w' → w'.cell? ⟨w.heap.size + 1, m, none⟩ = some (.bool (seenB f i m)) ∧ (∀ o, w'.frozen? ⟨w.heap.size + 1, o, none⟩ = false) ∧ RCI w1 (w.heap.size + 1) f (i + 1) (w'.setCell ⟨w.heap.size + 1, m, none⟩ (.bool true))) :=
        Lib.hid (fun w' hx => ⟨(HR.out.ext hx).bits m hm1, (HR.out.ext hx).fr, HSETI.out _ (HR.out.ext hx)⟩)
      clear HR HKP HSET HSETI HS q0 q1 q2 q3 q4 q5 q6 q7 q8 m0 m1 m2
      generalize seenB f i m = bit at *
      go_wp2_with fail
      go_region_held3 (fun w' => ((w'.cell? ⟨w.heap.size, 0, none⟩ = some (.int .i64 cr) ∧ w'.cell? ⟨w.heap.size, 1, none⟩ = some (.int .i64 va) ∧ w'.cell? ⟨w.heap.size, 2, none⟩ = some (.int .i64 ne) ∧ w'.cell? ⟨w.heap.size, 3, none⟩ = some (.int .i64 al) ∧ w'.cell? ⟨w.heap.size, 4, none⟩ = some (.int .i64 ah) ∧ w'.cell? ⟨w.heap.size, 5, none⟩ = some (.int .i64 bl) ∧ w'.cell? ⟨w.heap.size, 6, none⟩ = some (.int .i64 bh) ∧ w'.cell? ⟨w.heap.size, 7, none⟩ = some (.int .i64 ul) ∧ w'.cell? ⟨w.heap.size, 8, none⟩ = some (.int .i64 uh)) ∧ w'.cell? ⟨b, off + i * 3, none⟩ = some (.int .i64 A) ∧ w'.cell? ⟨b, off + i * 3 + 1, none⟩ = some (.int .i64 B) ∧ w'.cell? ⟨b, off + i * 3 + 2, none⟩ = some (.int .i64 U)) ∧ KP (fun k => k = w.heap.size + 1) wo w')
        ((refine HS2.out _ ?_; (repeat (first | exact KP.refl _ | (with_reducible assumption) | (with_reducible refine KP.drew ?_) | (with_reducible refine KP.alloc ?_ _) | (with_reducible refine KP.setCell ?_ (by exact rfl) _) | (with_reducible refine KP.ext ?_ (by with_reducible assumption)) | (with_reducible refine KP.trans ?_ (by with_reducible assumption)) | (with_reducible refine Ext.kp (by with_reducible assumption))))))
        (first
          | (go_at_call 58; (with_reducible refine (HSX.out _).mono ?_); rintro e w3 ⟨rfl, hx3⟩; have hbt := HBT.out w3 (by (repeat (first | exact Ext.refl _ | (with_reducible assumption) | (with_reducible refine Ext.drew ?_) | (with_reducible refine Ext.alloc ?_ _) | (with_reducible refine Ext.drewN ?_ _) | (with_reducible refine Ext.setCell ?_ (by omega) _) | (with_reducible refine Ext.trans ?_ (by with_reducible assumption))))); have hb1 := hbt.1; have hb2 := hbt.2.1; have HB3 := Lib.hid hbt.2.2; clear hbt))
      all_goals
        clear HS2 HBT HSX
        go_wp2_with fail
        go_roundw
        case rel => exact ⟨i + 1, by omega, by go_num, HB3⟩
        case measure => simp [intOf]; omega
    · have ei : i = N := by omega
      subst ei
      have hbits := HR.out.bits
      rw [HALL.out] at hbits
      have HBI := Lib.hid hbits
      have hS : w.heap.size + 1 < wo.heap.size := lt_of_cell (hbits 0 (by decide))
      have XO : Ext w wo := HR.out.kp.toExt X1 (fun k hk => by omega)
      clear hbits HR HRW HSE HST HEV H0 HS HSET HALL H00 X1
      go_wp2_with fail
      go_loopw [6, 7] (fun s6 s7 wr => ∃ (j m : Nat) (a5 : Option Addr) (q5 : Nat), j ≤ 101 ∧ s7 = .int .i64 j ∧ s6 = .slice a5 m q5 ∧ Hid (m = (upto g j).length ∧ UpRow wo.heap.size 3 g j (.slice a5 m q5) wr) ∧ Ext wo wr) (fun _ s _ => 101 - (intOf s).toNat)
      case atStart => exact ⟨0, 0, none, 0, Nat.zero_le _, rfl, rfl, Lib.hid ⟨rfl, World.ownsRow_nil _ _ _ _⟩, Ext.refl _⟩
      case round =>
        obtain ⟨j, m, a5, q5, hj, rfl, rfl, HR, hx⟩ := hrel
        obtain ⟨wp, rfl⟩ : ∃ x, x = wr := ⟨_, rfl⟩
        by_cases hlt2 : j < 101
        · have hix := hx.keep (HBI.out j hlt2)
          cases hg : g j with
          | false =>
            rw [hg] at hix
            have HR' : Hid (m = (upto g (j + 1)).length ∧ UpRow wo.heap.size 3 g (j + 1) (.slice a5 m q5) wp) := Lib.hid (by unfold UpRow; rw [upto_no hg]; exact HR.out)
            clear hg
            go_wp2_with fail
            go_roundw
            case rel => exact ⟨j + 1, m, a5, q5, by omega, by go_num, rfl, HR', hx⟩
            case measure => simp [intOf]; omega
          | true =>
            rw [hg] at hix
            have HU := Lib.hid (upto_yes hg)
            have HML := Lib.hid (upto_len g j)
            have OWN := HR.out.2
            have hm := HR.out.1
            have hml : m ≤ 101 := by have := HML.out; omega
            unfold UpRow at OWN
            rw [← hm] at OWN
            have HOW := Lib.hid OWN
            have HM := Lib.hid hm
            clear hg OWN hm
            go_wp2_with (at_builtin; refine wpList_append_own_at _ rfl _ _ 28 rfl wo.heap.size 3 i1 (.int .i64 0) 1 8 Tryz.underlying28 hi1 hz10 hz11 hz12 rfl (by decide) (.slice a5 m q5) m ((upto g j).map (.int .i64)) rfl ?own ⟨wp.heap.size, 0, none⟩ 1 1 [.int .i64 (j : Int)] rfl rfl (cell_one_new _ _ _) ?one ?f1 ?f2 ?f3 ?next)
            case own => exact own_keep HOW.out (fun _ hg => ((Ext.refl wp).alloc _).heap (own_lt HOW.out hg).2)
            case one => first | rfl | (intro u hu; simp at hu; subst hu; rfl)
            case f1 => simp only [maxLen]; omega
            case f2 => omega
            case f3 => have h1 := hx.size; simp; omega
            case next =>
              intro v' w7 hown hgrow hnil hat
              have hx7 : Ext wo w7 := grown_ext (hx.alloc _) hgrow (fun _ hg => (own_lt HOW.out hg).1)
              have HUR : Hid (m + 1 = (upto g (j + 1)).length ∧ UpRow wo.heap.size 3 g (j + 1) v' w7) := Lib.hid (by
                unfold UpRow
                rw [HU.out]
                simp only [List.length_append, List.length_cons, List.length_nil, List.map_append, List.map_cons, List.map_nil]
                rw [← HM.out]
                exact ⟨rfl, hown⟩)
              clear hnil hat hgrow
              rcases own_open hown with ⟨-, h0⟩ | ⟨g', cap, rfl, -, -, -, -⟩
              · omega
              · clear hown
                go_wp2_with fail
                go_roundw
                case rel => exact ⟨j + 1, m + 1, _, _, by omega, by go_num, rfl, HUR, hx7⟩
                case measure => simp [intOf]; omega
        · have ek : j = 101 := by omega
          subst ek
          have HI := Lib.hid (HR.out.2.ints (by decide))
          rw [← HCS.out] at HI
          clear HR HCS HBI
          go_wp2_with fail
          go_ret
          exact ⟨_, rfl, HI.out, XO.trans hx⟩
end Go.Proofs.YtbmjnilcinfdiaaGreat
