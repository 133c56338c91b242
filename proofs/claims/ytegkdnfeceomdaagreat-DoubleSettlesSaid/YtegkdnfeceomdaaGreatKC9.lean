/- Bundled: what the texts SL SP SQ UN SR ST SD SU SV say one after another. -/
import Derived.Test.YtegkdnfeceomdaaGreatKC8
import Derived.Deep.Quiet
import Derived.BigQuiet
import Derived.Deep.QuietTactic
import Derived.Test.YtegkdnfeceomdaaGreatKC7
import Derived.WalkMore
import Derived.Deep.MidRow
import Derived.Test.YtegkdnfeceomdaaGreatKC6
import Derived.Test.YtegkdnfeceomdaaGreatKC5
set_option linter.unusedSimpArgs false
set_option linter.unusedVariables false
/- Contracts of layer 8: the damage of a truth. -/
namespace Go.Hs
open Go.RowKit
theorem dayS_ok {b : Bk} (hb : BkS b) {days : List Int} {out : Nat → Bool} {d : Nat} : ∀ (n : Nat) {f g : Fds}, n ≤ b.ents.length → FdsOK f → dayS b days out d n f = some g → FdsOK g
  | 0, f, g, _, hf, h => by simp [dayS] at h; subst h; exact hf
  | n + 1, f, g, hn, hf, h => by
    rw [dayS_next] at h; cases hq : dayS b days out d n f with
    | none => rw [hq] at h; cases h
    | some f' =>
      rw [hq] at h; have := dayS_ok hb n (by omega) hf hq; unfold stepS at h; simp only [Option.bind_some] at h; split at h
      · exact happen_ok hb (by omega) this h
      · cases h; exact this
theorem stateS_ok {b : Bk} (hb : BkS b) {days sown : List Int} {out : Nat → Bool} : ∀ (d : Nat) {f : Fds}, stateS b days sown out d = some f → FdsOK f
  | 0, f, h => by simp only [stateS, Option.some.injEq] at h; subst h; exact begin_ok hb sown
  | d + 1, f, h => by
    simp only [stateS] at h; cases hq : stateS b days sown out d with
    | none => rw [hq] at h; cases h
    | some f' => rw [hq] at h; exact dayS_ok hb _ (Nat.le_refl _) (stateS_ok hb d hq) h
theorem playB_ok {b : Bk} (hb : BkS b) {days sown : List Int} {out : Nat → Bool} {day : Nat} {f : Fds} (h : playB b days sown day out = some f) : FdsOK f := by
  unfold playB at h; cases hq : stateS b days sown out (b.last.toNat + 1) with
  | none => rw [hq] at h; cases h
  | some f' => rw [hq] at h; exact stateS_ok hb _ h
theorem sumsD_next (c : DCas) (x : Fd) (starts : List Int) (j : Int) (n : Nat) : sumsD c x starts j (n + 1) = sumsD c x starts j n + (if covs1 c x starts n && decide ((c.covs.getD n default).soc = j) then (c.covs.getD n default).sum else 0) := rfl
theorem sumsD_bd {c : DCas} (hS : CasS c) (x : Fd) (starts : List Int) (j : Int) : ∀ n, n ≤ c.covs.length → 0 ≤ sumsD c x starts j n ∧ sumsD c x starts j n ≤ 1000 * (n : Int)
  | 0, _ => by simp [sumsD]
  | n + 1, hn => by
    have ih := sumsD_bd hS x starts j n (by omega); have h1 := hS.cov (c.covs[n]) (List.getElem_mem (by omega)); simp only [covB, Bool.and_eq_true, inR_iff] at h1
    have e : c.covs.getD n default = c.covs[n] := by
      have : n < c.covs.length := by omega
      simp [this]
    rw [sumsD_next, e]; split <;> omega
theorem damD_ok {c : DCas} (hS : CasS c) {t : DTr} (hlo : 0 ≤ t.loss ∧ t.loss ≤ 100) {d : Dmg} (h : damD c t = some d) : DmgOK d := by
  unfold damD at h; split at h
  · rename_i h0
    simp only [Option.some.injEq] at h
    have hf : FdsOK ((playB c.bk t.days t.sown c.day.toNat (fun _ => false)).getD (fun _ => Fd.zero)) := by
      cases hq : playB c.bk t.days t.sown c.day.toNat (fun _ => false) with
      | none => intro i; simp [Fd.zero]
      | some f => exact playB_ok hS.bk hq
    have hv := hf c.parcel.toNat; have hn := hS.nc; have b0 := sumsD_bd hS (((playB c.bk t.days t.sown c.day.toNat (fun _ => false)).getD (fun _ => Fd.zero)) c.parcel.toNat) t.starts 0 _ (Nat.le_refl _); have b1 := sumsD_bd hS (((playB c.bk t.days t.sown c.day.toNat (fun _ => false)).getD (fun _ => Fd.zero)) c.parcel.toNat) t.starts 1 _ (Nat.le_refl _); have b2 := sumsD_bd hS (((playB c.bk t.days t.sown c.day.toNat (fun _ => false)).getD (fun _ => Fd.zero)) c.parcel.toNat) t.starts 2 _ (Nat.le_refl _); subst h; refine ⟨?_, by dsimp only; omega, by dsimp only; omega, by dsimp only; omega⟩
    dsimp only
    generalize (((playB c.bk t.days t.sown c.day.toNat (fun _ => false)).getD (fun _ => Fd.zero)) c.parcel.toNat).value = v at *; have h1 : 0 ≤ v * t.loss := Int.mul_nonneg hv.1 hlo.1; have h2 : v * t.loss ≤ 1000 * 100 := Int.mul_le_mul hv.2 hlo.2 hlo.1 (by omega); omega
  · cases h
def dmgO : Option Dmg → Value
  | none => (⟨0, 0, 0, 0⟩ : Dmg).v
  | some d => d.v
structure DamC (T : Nat) (am : Int) (S : Nat → Int) (w : World) : Prop where
  a : w.cell? ⟨T, 0, none⟩ = some (.int .i64 am)
  s : ∀ j, j < 3 → w.cell? ⟨T, 1 + j, none⟩ = some (.int .i64 (S j))
  fr : ∀ o, w.frozen? ⟨T, o, none⟩ = false
theorem DamC.ext {T : Nat} {am : Int} {S : Nat → Int} {w w' : World} (h : DamC T am S w) (hx : Ext w w') : DamC T am S w' := ⟨hx.keep h.a, fun j hj => hx.keep (h.s j hj), fun o => (hx.frozen (lt_of_cell h.a)).trans (h.fr o)⟩
theorem DamC.put {T : Nat} {am : Int} {S S' : Nat → Int} {w : World} (h : DamC T am S w) (n : Nat) (v : Int) (hn : n < 3) (hS : ∀ j, S' j = if j = n then v else S j) : DamC T am S' (w.setCell ⟨T, 1 + n, none⟩ (.int .i64 v)) := by
  refine ⟨cell_ne (.inr (by omega)) h.a, fun j hj => ?_, fun o => by rw [World.frozen?_setCell]; exact h.fr o⟩
  rw [hS j]; by_cases e : j = n
  · subst e; rw [if_pos rfl]; exact World.cell?_setCell_same _ _ _ (h.s j hj)
  · rw [if_neg e]; exact cell_ne (.inr (by omega)) (h.s j hj)
end Go.Hs
namespace Go.Proofs.YtegkdnfeceomdaaGreat
open Go.RowKit Go.Hs
attribute [local irreducible] World.setCell World.alloc
set_option maxRecDepth 100000 in
set_option maxHeartbeats 4000000 in
theorem damage_bad (p m : Nat) (A : CaseA) (c : DCas) (t : DTr) (vd vs vst : Value) (w : World) (hbx : BoxD p m A c w) (hm : CaseM w A c) (hd : IntsV w vd t.days) (hs : IntsV w vs t.sown) (h1 : t.days.length ≤ 1000) (h2 : t.sown.length ≤ 1000)
    (hst : IntsV w vst t.starts) (hE : playK c.bk t.days t.sown c.day ≠ 0) :
    Calls Tryz.prog 71 #[.pointer (some ⟨p, 0, none⟩), .agg #[vd, vs, vst, .int .i64 t.loss]] w fun e w' => e = .returned (.tuple #[(⟨0, 0, 0, 0⟩ : Dmg).v, .bool false]) ∧ Ext w w' := by
  have HP := Lib.hid (fun W (hx : Ext w W) => Play_pbad c.bk (A.b c) vd vs t.days t.sown c.day W ((hm.ext hx).bk) (hd.ext hx) (hs.ext hx) h1 h2 hE); generalize playK c.bk t.days t.sown c.day = r at *; have hr : (r != 0) = true := by rw [bne_iff_ne]; exact hE
  obtain ⟨b0, b1, b2, b3, -, b5, -, -, -, -, -, -⟩ := hbx; unfold CaseA.b bkV at *; obtain ⟨a1, c1, a2, c2, a3, c3, a4, c4⟩ := A; simp only at *; clear hm h1 h2 hE; obtain ⟨a5, n5, rfl, -⟩ := hd; obtain ⟨a6, n6, rfl, -⟩ := hs; obtain ⟨a7, n7, rfl, -⟩ := hst; generalize t.days.length = n8 at *; generalize t.sown.length = n9 at *; generalize t.starts.length = n10 at *; generalize t.loss = lo at *; generalize c.bk.pars.length = n1 at *; generalize c.bk.ents.length = n2 at *; generalize c.bk.last = last at *; generalize c.bk.owners = owners at *; generalize c.day = day at *; simp only [Dmg.v]; go_enter Tryz.func71, Tryz.ntmps71
  (go_wp2_with fail); obtain ⟨W, hW⟩ : ∃ W, W = ((w.alloc (.cells #[.slice a5 n8 n5, .slice a6 n9 n6, .slice a7 n10 n7, .int .i64 lo] 61)).alloc (.cells #[.int .i64 0, .int .i64 0, .int .i64 0, .int .i64 0] 139)) := ⟨_, rfl⟩; have X : Ext w W := by subst hW; (repeat (first | exact Ext.refl _ | with_reducible (first | assumption | refine Ext.drew ?_ | refine Ext.alloc ?_ _ | refine Ext.drewN ?_ _ | refine Ext.setCell ?_ (by omega) _ | refine Ext.trans ?_ (by assumption))))
  have HS : Hid (∀ w', Ext W w' → (w'.cell? ⟨w.heap.size, 0, none⟩ = some (.slice a5 n8 n5) ∧ w'.cell? ⟨w.heap.size, 1, none⟩ = some (.slice a6 n9 n6) ∧ w'.cell? ⟨w.heap.size, 2, none⟩ = some (.slice a7 n10 n7) ∧ w'.cell? ⟨w.heap.size, 3, none⟩ = some (.int .i64 lo) ∧ w'.cell? ⟨w.heap.size + 1, 0, none⟩ = some (.int .i64 0) ∧ w'.cell? ⟨w.heap.size + 1, 1, none⟩ = some (.int .i64 0) ∧ w'.cell? ⟨w.heap.size + 1, 2, none⟩ = some (.int .i64 0) ∧ w'.cell? ⟨w.heap.size + 1, 3, none⟩ = some (.int .i64 0)) ∧ Ext W w') := Lib.hid (fun w' hx => ⟨⟨hx.keep (by subst hW; simp [go_sem]), hx.keep (by subst hW; simp [go_sem]), hx.keep (by subst hW; simp [go_sem]), hx.keep (by subst hW; simp [go_sem]), hx.keep (by subst hW; simp [go_sem]), hx.keep (by subst hW; simp [go_sem]), hx.keep (by subst hW; simp [go_sem]), hx.keep (by subst hW; simp [go_sem])⟩, hx⟩); have HSf : Hid (∀ w', Ext W w' → ∀ o, w'.frozen? ⟨w.heap.size + 1, o, none⟩ = false) := Lib.hid (fun w' hx o => (hx.frozen (by subst hW; simp)).trans (by subst hW; simp [go_sem])); have HSz : w.heap.size + 1 + 1 ≤ W.heap.size := by subst hW; simp
  rw [← hW]; clear hW
  have HSS : Hid (∀ w', Ext W w' → (w'.cell? ⟨w.heap.size, 0, none⟩ = some (.slice a5 n8 n5) ∧ w'.cell? ⟨w.heap.size, 1, none⟩ = some (.slice a6 n9 n6) ∧ w'.cell? ⟨p, 0, none⟩ = some (.int .i64 last) ∧ w'.cell? ⟨p, 1, none⟩ = some (.int .i64 owners) ∧ w'.cell? ⟨p, 2, none⟩ = some (.slice a1 n1 c1) ∧ w'.cell? ⟨p, 3, none⟩ = some (.slice a2 n2 c2) ∧ w'.cell? ⟨p, 5, none⟩ = some (.int .i64 day)) ∧ Ext W w') := Lib.hid (fun w' h => by
    obtain ⟨⟨q0, q1, q2, q3, r0, r1, r2, r3⟩, -⟩ := HS.out w' h; have Z := X.trans h; exact ⟨⟨q0, q1, Z.keep b0, Z.keep b1, Z.keep b2, Z.keep b3, Z.keep b5⟩, h⟩)
  obtain ⟨⟨-, -, -, -, r0, r1, r2, r3⟩, -⟩ := HS.out W (Ext.refl _); have rf := HSf.out W (Ext.refl _); clear HS HSf b0 b1 b2 b3 b5
  go_region_held3 (fun w' => (w'.cell? ⟨w.heap.size, 0, none⟩ = some (.slice a5 n8 n5) ∧ w'.cell? ⟨w.heap.size, 1, none⟩ = some (.slice a6 n9 n6) ∧ w'.cell? ⟨p, 0, none⟩ = some (.int .i64 last) ∧ w'.cell? ⟨p, 1, none⟩ = some (.int .i64 owners) ∧ w'.cell? ⟨p, 2, none⟩ = some (.slice a1 n1 c1) ∧ w'.cell? ⟨p, 3, none⟩ = some (.slice a2 n2 c2) ∧ w'.cell? ⟨p, 5, none⟩ = some (.int .i64 day)) ∧ Ext W w')
    ((refine HSS.out _ ?_; (repeat (first | exact Ext.refl _ | with_reducible (first | assumption | refine Ext.drew ?_ | refine Ext.alloc ?_ _ | refine Ext.drewN ?_ _ | refine Ext.setCell ?_ (by omega) _ | refine Ext.trans ?_ (by assumption))))))
    ((go_at_call 128; (refine (HP.out _ (by (repeat (first | exact Ext.refl _ | with_reducible (first | assumption | refine Ext.drew ?_ | refine Ext.alloc ?_ _ | refine Ext.drewN ?_ _ | refine Ext.setCell ?_ (by omega) _ | refine Ext.trans ?_ (by assumption)))))).mono ?_); rintro e w3 ⟨rfl, hx3⟩))
  all_goals
    have Y : Ext W w3 := by (repeat (first | exact Ext.refl _ | with_reducible (first | assumption | refine Ext.drew ?_ | refine Ext.alloc ?_ _ | refine Ext.drewN ?_ _ | refine Ext.setCell ?_ (by omega) _ | refine Ext.trans ?_ (by assumption))))
    replace rf := fun o => (Y.frozen (o := o) (lt_of_cell r0)).trans (rf o)
    replace r0 := Y.keep r0; replace r1 := Y.keep r1; replace r2 := Y.keep r2; replace r3 := Y.keep r3; (go_wp2_with fail); refine bodyPost_ret (v := .tuple #[.agg #[.int .i64 0, .int .i64 0, .int .i64 0, .int .i64 0], .bool false]) (by simp [results, Tryz.results71, go_sem, r0, r1, r2, r3]) rfl ⟨rfl, ?_⟩
    have Z := X.trans Y; exact (((Z.setCell (by omega) _).setCell (by omega) _).setCell (by omega) _).setCell (by omega) _
set_option maxRecDepth 100000 in
set_option maxHeartbeats 4000000 in
theorem damage_good (p m : Nat) (A : CaseA) (c : DCas) (t : DTr) (vd vs vst : Value) (w : World) (hbx : BoxD p m A c w) (hm : CaseM w A c) (hS : CasS c) (hd : IntsV w vd t.days) (hs : IntsV w vs t.sown) (h1 : t.days.length ≤ 1000) (h2 : t.sown.length ≤ 1000)
    (hst : IntsV w vst t.starts) (hls : t.starts.length = c.covs.length) (hlo : 0 ≤ t.loss ∧ t.loss ≤ 100) (hE : playK c.bk t.days t.sown c.day = 0) :
    Calls Tryz.prog 71 #[.pointer (some ⟨p, 0, none⟩), .agg #[vd, vs, vst, .int .i64 t.loss]] w fun e w' => e = .returned (.tuple #[dmgO (damD c t), .bool true]) ∧ Ext w w' := by
  have HP := Lib.hid (fun W (hx : Ext w W) => Play_pgood c.bk (A.b c) vd vs t.days t.sown c.day W ((hm.ext hx).bk) (hd.ext hx) (hs.ext hx) h1 h2 hE)
  obtain ⟨f, hf⟩ : ∃ f, playB c.bk t.days t.sown c.day.toNat (fun _ => false) = some f := by
    cases hq : playB c.bk t.days t.sown c.day.toNat (fun _ => false) with
    | some f => exact ⟨f, rfl⟩
    | none => unfold playK at hE; rw [hq] at hE; split at hE; (· exact absurd hE ‹_›); split at hE <;> simp at hE
  have hFOK := playB_ok hS.bk hf
  obtain ⟨pn, hpn, hpl⟩ : ∃ pn : Nat, c.parcel = (pn : Int) ∧ pn < numsB c.bk := by
    have := inR_iff.1 hS.parcel; exact ⟨c.parcel.toNat, by omega, by omega⟩
  have HD : Hid (dmgO (damD c t) = (⟨(f pn).value * t.loss / 100, sumsD c (f pn) t.starts 0 c.covs.length, sumsD c (f pn) t.starts 1 c.covs.length, sumsD c (f pn) t.starts 2 c.covs.length⟩ : Dmg).v) := Lib.hid (by
    unfold damD; rw [if_pos hE, hf, hpn]; rfl)
  have hv := hFOK pn
  have hmul : 0 ≤ (f pn).value * t.loss ∧ (f pn).value * t.loss ≤ 100000 := ⟨Int.mul_nonneg hv.1 hlo.1, by
    have : (f pn).value * t.loss ≤ 1000 * 100 := Int.mul_le_mul hv.2 hlo.2 hlo.1 (by omega); omega⟩
  have HC : Hid (∀ W, Ext w W → Cells7 W A.a3 (c.covs.map Cov.c)) := Lib.hid (fun W hx => hm.covs.ext hx); have HST : Hid (∀ W, Ext w W → IntsV W vst t.starts) := Lib.hid (fun W hx => hst.ext hx); have hnc : c.covs.length ≤ 5 := hS.nc
  have HSO : Hid (∀ k (h : k < c.covs.length), ∃ n : Nat, n < 3 ∧ (c.covs[k]).soc = (n : Int) ∧ 0 ≤ (c.covs[k]).sum ∧ (c.covs[k]).sum ≤ 1000) := Lib.hid (fun k h => by
    have h1 := hS.cov (c.covs[k]) (List.getElem_mem h); have h2 := hS.soc; simp only [covB, socB, Bool.and_eq_true, inR_iff] at h1; exact ⟨(c.covs[k]).soc.toNat, by omega, by omega, by omega, by omega⟩)
  have HBD := Lib.hid (fun j n hn => sumsD_bd hS (f pn) t.starts j n hn)
  have HNX : Hid (∀ (j : Int) k (h : k < c.covs.length), sumsD c (f pn) t.starts j (k + 1) = sumsD c (f pn) t.starts j k + (if covs1 c (f pn) t.starts k && decide ((c.covs[k]).soc = j) then (c.covs[k]).sum else 0)) := Lib.hid (fun j k h => by
    rw [sumsD_next]; have e : c.covs.getD k default = c.covs[k] := by simp [h]
    rw [e])
  have HC1 : Hid (∀ k (h : k < c.covs.length) (h' : k < t.starts.length), covs1 c (f pn) t.starts k = (decide ((c.covs[k]).parcel = (pn : Int)) && ((f pn).covers c.day && (decide ((f pn).owner = (c.covs[k]).owner) && (decide (t.starts[k] ≤ c.day) && decide (c.day ≤ (c.covs[k]).till)))))) := Lib.hid (fun k h h' => by
    unfold covs1; have e : c.covs.getD k default = c.covs[k] := by simp [h]
    have e2 : t.starts.getD k 0 = t.starts[k] := by simp [h']
    dsimp only
    rw [e, e2, hpn])
  have HG : Hid (∀ k, k < numsB c.bk → ((List.range (numsB c.bk)).map f)[k]? = some (f k)) := Lib.hid (fun k hk => by simp [hk]); have HF := Lib.hid hf; obtain ⟨b0, b1, b2, b3, -, b5, b6, b7, -, -, -, -⟩ := hbx; rw [hpn] at b6; rw [HD.out]; clear hE hS hFOK HD hpn hm h1 h2 hf; unfold CaseA.b bkV at *; obtain ⟨a1, c1, a2, c2, a3, c3, a4, c4⟩ := A; simp only at *; obtain ⟨a5, n5, rfl, -⟩ := hd; obtain ⟨a6, n6, rfl, -⟩ := hs; obtain ⟨a7, n7, rfl, -⟩ := hst; obtain ⟨dys, swn, sts, lo⟩ := t; simp only at *; rw [hls] at HST ⊢; generalize hn8 : dys.length = n8 at *; generalize hn9 : swn.length = n9 at *; generalize c.bk.pars.length = n1 at *; generalize c.bk.ents.length = n2 at *; generalize c.bk.last = last at *; generalize c.bk.owners = owners at *; generalize c.day = day at *; generalize numsB c.bk = N at *; clear hn8 hn9; generalize hx : f pn = x at *; generalize hcv : c.covs = cvs at *; have HX := Lib.hid hx; clear hx hcv; simp only [Dmg.v]; go_enter Tryz.func71, Tryz.ntmps71
  (go_wp2_with fail); obtain ⟨W, hW⟩ : ∃ W, W = ((w.alloc (.cells #[.slice a5 n8 n5, .slice a6 n9 n6, .slice a7 cvs.length n7, .int .i64 lo] 61)).alloc (.cells #[.int .i64 0, .int .i64 0, .int .i64 0, .int .i64 0] 139)) := ⟨_, rfl⟩; have X : Ext w W := by subst hW; (repeat (first | exact Ext.refl _ | with_reducible (first | assumption | refine Ext.drew ?_ | refine Ext.alloc ?_ _ | refine Ext.drewN ?_ _ | refine Ext.setCell ?_ (by omega) _ | refine Ext.trans ?_ (by assumption))))
  have HS : Hid (∀ w', Ext W w' → (w'.cell? ⟨w.heap.size, 0, none⟩ = some (.slice a5 n8 n5) ∧ w'.cell? ⟨w.heap.size, 1, none⟩ = some (.slice a6 n9 n6) ∧ w'.cell? ⟨w.heap.size, 2, none⟩ = some (.slice a7 cvs.length n7) ∧ w'.cell? ⟨w.heap.size, 3, none⟩ = some (.int .i64 lo) ∧ w'.cell? ⟨w.heap.size + 1, 0, none⟩ = some (.int .i64 0) ∧ w'.cell? ⟨w.heap.size + 1, 1, none⟩ = some (.int .i64 0) ∧ w'.cell? ⟨w.heap.size + 1, 2, none⟩ = some (.int .i64 0) ∧ w'.cell? ⟨w.heap.size + 1, 3, none⟩ = some (.int .i64 0)) ∧ Ext W w') := Lib.hid (fun w' hx => ⟨⟨hx.keep (by subst hW; simp [go_sem]), hx.keep (by subst hW; simp [go_sem]), hx.keep (by subst hW; simp [go_sem]), hx.keep (by subst hW; simp [go_sem]), hx.keep (by subst hW; simp [go_sem]), hx.keep (by subst hW; simp [go_sem]), hx.keep (by subst hW; simp [go_sem]), hx.keep (by subst hW; simp [go_sem])⟩, hx⟩); have HSf : Hid (∀ w', Ext W w' → ∀ o, w'.frozen? ⟨w.heap.size + 1, o, none⟩ = false) := Lib.hid (fun w' hx o => (hx.frozen (by subst hW; simp)).trans (by subst hW; simp [go_sem])); have HSz : w.heap.size + 1 + 1 ≤ W.heap.size := by subst hW; simp
  rw [← hW]; clear hW
  have HSS : Hid (∀ w', Ext W w' → (w'.cell? ⟨w.heap.size, 0, none⟩ = some (.slice a5 n8 n5) ∧ w'.cell? ⟨w.heap.size, 1, none⟩ = some (.slice a6 n9 n6) ∧ w'.cell? ⟨p, 0, none⟩ = some (.int .i64 last) ∧ w'.cell? ⟨p, 1, none⟩ = some (.int .i64 owners) ∧ w'.cell? ⟨p, 2, none⟩ = some (.slice a1 n1 c1) ∧ w'.cell? ⟨p, 3, none⟩ = some (.slice a2 n2 c2) ∧ w'.cell? ⟨p, 5, none⟩ = some (.int .i64 day) ∧ w'.cell? ⟨p, 6, none⟩ = some (.int .i64 pn)) ∧ Ext W w') := Lib.hid (fun w' h => by
    obtain ⟨⟨q0, q1, q2, q3, r0, r1, r2, r3⟩, -⟩ := HS.out w' h; have Z := X.trans h; exact ⟨⟨q0, q1, Z.keep b0, Z.keep b1, Z.keep b2, Z.keep b3, Z.keep b5, Z.keep b6⟩, h⟩)
  obtain ⟨⟨-, -, q2, q3, r0, r1, r2, r3⟩, -⟩ := HS.out W (Ext.refl _); have rf := HSf.out W (Ext.refl _); clear HS HSf
  go_region_held3 (fun w' => (w'.cell? ⟨w.heap.size, 0, none⟩ = some (.slice a5 n8 n5) ∧ w'.cell? ⟨w.heap.size, 1, none⟩ = some (.slice a6 n9 n6) ∧ w'.cell? ⟨p, 0, none⟩ = some (.int .i64 last) ∧ w'.cell? ⟨p, 1, none⟩ = some (.int .i64 owners) ∧ w'.cell? ⟨p, 2, none⟩ = some (.slice a1 n1 c1) ∧ w'.cell? ⟨p, 3, none⟩ = some (.slice a2 n2 c2) ∧ w'.cell? ⟨p, 5, none⟩ = some (.int .i64 day) ∧ w'.cell? ⟨p, 6, none⟩ = some (.int .i64 pn)) ∧ Ext W w')
    ((refine HSS.out _ ?_; (repeat (first | exact Ext.refl _ | with_reducible (first | assumption | refine Ext.drew ?_ | refine Ext.alloc ?_ _ | refine Ext.drewN ?_ _ | refine Ext.setCell ?_ (by omega) _ | refine Ext.trans ?_ (by assumption))))))
    ((go_at_call 128; (refine (HP.out _ (by (repeat (first | exact Ext.refl _ | with_reducible (first | assumption | refine Ext.drew ?_ | refine Ext.alloc ?_ _ | refine Ext.drewN ?_ _ | refine Ext.setCell ?_ (by omega) _ | refine Ext.trans ?_ (by assumption)))))).mono ?_); rintro e w3 ⟨f', al, ql, hf', rfl, hown, hx3⟩))
  have Y : Ext W w3 := by (repeat (first | exact Ext.refl _ | with_reducible (first | assumption | refine Ext.drew ?_ | refine Ext.alloc ?_ _ | refine Ext.drewN ?_ _ | refine Ext.setCell ?_ (by omega) _ | refine Ext.trans ?_ (by assumption))))
  have XX := X.trans Y; obtain ⟨⟨-, -, -, -, -, -, p5, p6⟩, -⟩ := HSS.out w3 Y; replace b7 := XX.keep b7; replace rf := fun o => (Y.frozen (o := o) (lt_of_cell r0)).trans (rf o)
  replace r0 := Y.keep r0; replace r1 := Y.keep r1; replace r2 := Y.keep r2; replace r3 := Y.keep r3; replace q2 := Y.keep q2; replace q3 := Y.keep q3; rw [HF.out, Option.some.injEq] at hf'; subst hf'; obtain ⟨g, rfl, -, -, hat⟩ := Hs.Own.at (holdC_len day) hown (i := pn) (by simpa using hpl); have m0 := hat 0 (.bool x.there) (by simp [HX.out, holdC]); have m1 := hat 1 (.bool (x.covers day)) (by simp [HX.out, holdC]); have m2 := hat 2 (.int .i64 x.owner) (by simp [HX.out, holdC]); have m3 := hat 3 (.int .i64 x.value) (by simp [HX.out, holdC]); simp only [Nat.add_zero] at m0; clear hat hown HF HP HG HSS; have hp0 : (0 : Int) ≤ (pn : Int) := by omega
  have hp1 : (pn : Int) < (N : Int) := by omega
  have hw : IntKind.i64.wrap (x.value * lo) = x.value * lo := IntWalk.i64_in _ (by omega); have hdv : (x.value * lo).tdiv 100 = x.value * lo / 100 := tdiv_ok hmul.1; have hw2 : IntKind.i64.wrap (x.value * lo / 100) = x.value * lo / 100 := IntWalk.i64_in _ (by omega); have q3a := fun o => ((Ext.refl w3).alloc o).keep q3
  have r0a := fun o => ((Ext.refl w3).alloc o).keep r0
  have rfa := fun o b => (((Ext.refl w3).alloc o).frozen (o := b) (lt_of_cell r0)).trans (rf b)
  have ne0 : ¬ w.heap.size + 1 = w3.heap.size := by have := Y.size; omega
  have pz : p < w.heap.size := lt_of_cell b0; have ne1 : ¬ p = w.heap.size + 1 := by omega
  have ne1' : ¬ w.heap.size + 1 = p := by omega
  have b7a := fun o => ((Ext.refl w3).alloc o).keep b7
  (go_wp2_with fail); have T1 : w.heap.size ≤ w3.heap.size := XX.size; have XV : Ext w ((w3.alloc (.cells #[.bool x.there, .bool (x.covers day), .int .i64 x.owner, .int .i64 x.value] 211)).setCell ⟨w.heap.size + 1, 0, none⟩ (.int .i64 (x.value * lo / 100))) := (XX.alloc _).setCell (by omega) _
  have DV : DamC (w.heap.size + 1) (x.value * lo / 100) (fun j => sumsD c x sts j 0) ((w3.alloc (.cells #[.bool x.there, .bool (x.covers day), .int .i64 x.owner, .int .i64 x.value] 211)).setCell ⟨w.heap.size + 1, 0, none⟩ (.int .i64 (x.value * lo / 100))) :=
    ⟨World.cell?_setCell_same _ _ _ (r0a _), fun j hj => cell_ne (.inr (by omega)) (((Ext.refl w3).alloc _).keep (by
      rcases j with _ | _ | _ | j
      · exact r1
      · exact r2
      · exact r3
      · omega)), fun o => by rw [World.frozen?_setCell]; exact rfa _ _⟩
  have y0 : ((w3.alloc (.cells #[.bool x.there, .bool (x.covers day), .int .i64 x.owner, .int .i64 x.value] 211)).setCell ⟨w.heap.size + 1, 0, none⟩ (.int .i64 (x.value * lo / 100))).cell? ⟨w3.heap.size, 0, none⟩ = some (.bool x.there) := cell_ne (.inl (by omega)) (by simp [go_sem]); have y1 : ((w3.alloc (.cells #[.bool x.there, .bool (x.covers day), .int .i64 x.owner, .int .i64 x.value] 211)).setCell ⟨w.heap.size + 1, 0, none⟩ (.int .i64 (x.value * lo / 100))).cell? ⟨w3.heap.size, 1, none⟩ = some (.bool (x.covers day)) := cell_ne (.inl (by omega)) (by simp [go_sem]); have y2 : ((w3.alloc (.cells #[.bool x.there, .bool (x.covers day), .int .i64 x.owner, .int .i64 x.value] 211)).setCell ⟨w.heap.size + 1, 0, none⟩ (.int .i64 (x.value * lo / 100))).cell? ⟨w3.heap.size, 2, none⟩ = some (.int .i64 x.owner) := cell_ne (.inl (by omega)) (by simp [go_sem]); have t1 : ((w3.alloc (.cells #[.bool x.there, .bool (x.covers day), .int .i64 x.owner, .int .i64 x.value] 211)).setCell ⟨w.heap.size + 1, 0, none⟩ (.int .i64 (x.value * lo / 100))).cell? ⟨w.heap.size, 2, none⟩ = some (.slice a7 cvs.length n7) := cell_ne (.inl (by omega)) (((Ext.refl w3).alloc _).keep q2); have nW : w3.heap.size < ((w3.alloc (.cells #[.bool x.there, .bool (x.covers day), .int .i64 x.owner, .int .i64 x.value] 211)).setCell ⟨w.heap.size + 1, 0, none⟩ (.int .i64 (x.value * lo / 100))).heap.size := by simp
  have HV : Hid (∀ W', KP (fun j => j = w.heap.size + 1) ((w3.alloc (.cells #[.bool x.there, .bool (x.covers day), .int .i64 x.owner, .int .i64 x.value] 211)).setCell ⟨w.heap.size + 1, 0, none⟩ (.int .i64 (x.value * lo / 100))) W' → (W'.cell? ⟨w3.heap.size, 1, none⟩ = some (.bool (x.covers day)) ∧ W'.cell? ⟨w3.heap.size, 2, none⟩ = some (.int .i64 x.owner) ∧ W'.cell? ⟨w.heap.size, 2, none⟩ = some (.slice a7 cvs.length n7) ∧ W'.cell? ⟨p, 5, none⟩ = some (.int .i64 day) ∧ W'.cell? ⟨p, 6, none⟩ = some (.int .i64 pn)) ∧ Ext w W') := Lib.hid (fun W' h =>
    ⟨⟨h.keep (by omega) y1, h.keep (by omega) y2, h.keep (by omega) t1, (h.toExt XV (fun k hk => by omega)).keep b5, (h.toExt XV (fun k hk => by omega)).keep b6⟩, h.toExt XV (fun k hk => by omega)⟩)
  generalize ((w3.alloc (.cells #[.bool x.there, .bool (x.covers day), .int .i64 x.owner, .int .i64 x.value] 211)).setCell ⟨w.heap.size + 1, 0, none⟩ (.int .i64 (x.value * lo / 100))) = V at *; clear m0 m1 m2 m3 q2 q3 r0 r1 r2 r3 rf q3a r0a rfa b7 b7a y0 y1 y2 t1 hw hdv hw2 p5 p6 b0 b1 b2 b3 b5 b6 hmul hv; have HLS := Lib.hid hls; clear hls; go_loopw [51] (fun s wr => ∃ k : Nat, k ≤ cvs.length ∧ s = .int .i64 k ∧ KP (fun j => j = w.heap.size + 1) V wr ∧ Hid (DamC (w.heap.size + 1) (x.value * lo / 100) (fun j => sumsD c x sts j k) wr)) (fun s _ => cvs.length - (intOf s).toNat)
  case atStart => exact ⟨0, Nat.zero_le _, rfl, KP.refl _, Lib.hid DV⟩
  case round =>
    obtain ⟨k, hk, rfl, hkp, HDM⟩ := hrel; obtain ⟨wo, rfl⟩ : ∃ x, x = wr := ⟨_, rfl⟩; obtain ⟨⟨y1, y2, t1, p5, p6⟩, hxw⟩ := HV.out wo hkp; by_cases hks : k < cvs.length
    · have hkt : k < sts.length := by rw [HLS.out]; exact hks
      obtain ⟨b', off, rfl, hce⟩ := HC.out wo hxw k (by simpa using hks); have e1 : (cvs.map Cov.c)[k]'(by simpa using hks) = (cvs[k]).c := by simp
      rw [e1] at hce; clear e1; obtain ⟨as', cs', ev, hcs, -, hrow⟩ := HST.out wo hxw; simp only [Value.slice.injEq] at ev; obtain ⟨rfl, -, rfl⟩ := ev; obtain ⟨bs, os, rfl, -⟩ := hrow k hkt; have ks := (Rows.at hrow k hkt).1; clear hrow; have HN := Lib.hid (fun j => HNX.out j k hks); have HA := Lib.hid (HC1.out k hks hkt); have HB := Lib.hid (fun j => HBD.out j k hk); obtain ⟨sn, hsn, hso, hsu⟩ := HSO.out k hks; generalize sts[k] = st at *; generalize cvs[k] = kc at *; obtain ⟨so, ow, pa, su, ti, sl, sh⟩ := kc; obtain ⟨k0, k1, k2, k3, k4, k5, k6⟩ := hce; simp only [Cov.c] at k0 k1 k2 k3 k4 k5 k6 HN HA hso hsu; subst hso; have hk0 : (0 : Int) ≤ (k : Int) := by omega
      have hk1 : (k : Int) < (cvs.length : Int) := by omega
      obtain ⟨cb, hcb⟩ : ∃ cb, cb = covs1 c x sts k := ⟨_, rfl⟩; have HCB := Lib.hid hcb; clear hcb; go_upto_region 9 with fail
      have M8 : Ext wo (wo.alloc (.cells #[.int .i64 (sn : Int), .int .i64 ow, .int .i64 pa, .int .i64 su, .int .i64 ti, .int .i64 sl, .int .i64 sh] 127)) := by (repeat (first | exact Ext.refl _ | with_reducible (first | assumption | refine Ext.drew ?_ | refine Ext.alloc ?_ _ | refine Ext.drewN ?_ _ | refine Ext.setCell ?_ (by omega) _ | refine Ext.trans ?_ (by assumption))))
      have HS8 : Hid (∀ w', Ext (wo.alloc (.cells #[.int .i64 (sn : Int), .int .i64 ow, .int .i64 pa, .int .i64 su, .int .i64 ti, .int .i64 sl, .int .i64 sh] 127)) w' → w'.cell? ⟨wo.heap.size, 0, none⟩ = some (.int .i64 (sn : Int)) ∧ w'.cell? ⟨wo.heap.size, 1, none⟩ = some (.int .i64 ow) ∧ w'.cell? ⟨wo.heap.size, 2, none⟩ = some (.int .i64 pa) ∧ w'.cell? ⟨wo.heap.size, 3, none⟩ = some (.int .i64 su) ∧ w'.cell? ⟨wo.heap.size, 4, none⟩ = some (.int .i64 ti) ∧ w'.cell? ⟨wo.heap.size, 5, none⟩ = some (.int .i64 sl) ∧ w'.cell? ⟨wo.heap.size, 6, none⟩ = some (.int .i64 sh) ∧ w'.cell? ⟨w3.heap.size, 1, none⟩ = some (.bool (x.covers day)) ∧ w'.cell? ⟨w3.heap.size, 2, none⟩ = some (.int .i64 x.owner) ∧ w'.cell? ⟨w.heap.size, 2, none⟩ = some (.slice (some ⟨bs, os, none⟩) cvs.length n7) ∧ w'.cell? ⟨p, 5, none⟩ = some (.int .i64 day) ∧ w'.cell? ⟨p, 6, none⟩ = some (.int .i64 pn) ∧ w'.cell? ⟨bs, os + k, none⟩ = some (.int .i64 st)) := Lib.hid (fun w' h => by
        have Z := M8.trans h; exact ⟨h.keep (by simp [go_sem]), h.keep (by simp [go_sem]), h.keep (by simp [go_sem]), h.keep (by simp [go_sem]), h.keep (by simp [go_sem]), h.keep (by simp [go_sem]), h.keep (by simp [go_sem]), Z.keep y1, Z.keep y2, Z.keep t1, Z.keep p5, Z.keep p6, Z.keep (by simpa using ks)⟩)
      have HD8 : Hid (∀ W', Ext (wo.alloc (.cells #[.int .i64 (sn : Int), .int .i64 ow, .int .i64 pa, .int .i64 su, .int .i64 ti, .int .i64 sl, .int .i64 sh] 127)) W' → DamC (w.heap.size + 1) (x.value * lo / 100) (fun j => sumsD c x sts j k) W') := Lib.hid (fun W' h => by
        have Z := M8.trans h; have D := HDM.out; exact ⟨Z.keep D.a, fun j hj => Z.keep (D.s j hj), fun o => (Z.frozen (lt_of_cell D.a)).trans (D.fr o)⟩)
      have nT : w.heap.size + 1 < wo.heap.size := lt_of_cell HDM.out.a; clear k0 k1 k2 k3 k4 k5 k6 y1 y2 t1 p5 p6 ks; generalize (wo.alloc (.cells #[.int .i64 (sn : Int), .int .i64 ow, .int .i64 pa, .int .i64 su, .int .i64 ti, .int .i64 sl, .int .i64 sh] 127)) = W8 at *; go_cut [97] from 56 to 97 (fun s wx => s = .bool cb ∧ Ext W8 wx)
      case first =>
        clear HN HB HD8 HV HDM HC HST HSO HBD HNX HC1 HLS HX hsu hsn M8 hxw hkp nT nW T1 XV DV X XX hx3 HSz hnc ne0 ne1 ne1' hp0 hp1 hpl hlo Y; by_cases h1 : pa = (pn : Int)
        · have d1 : (pa == (pn : Int)) = true := by rw [beq_iff_eq]; exact h1
          replace HA : Hid (covs1 c x sts k = (x.covers day && (decide (x.owner = ow) && (decide (st ≤ day) && decide (day ≤ ti))))) := Lib.hid (by rw [HA.out, decide_eq_true h1, Bool.true_and]); clear h1; generalize x.covers day = cv at *; cases cv with
          | false =>
            refine wp_region_quiet (C := Ext W8) (by kernel_rfl) (by kernel_rfl) (Ext.drew (by (repeat (first | exact Ext.refl _ | with_reducible (first | assumption | refine Ext.drew ?_ | refine Ext.alloc ?_ _ | refine Ext.drewN ?_ _ | refine Ext.setCell ?_ (by omega) _ | refine Ext.trans ?_ (by assumption)))))) ?_
            rw [show ∀ (l : List Oper), l.toArray.toList = l from fun l => rfl]
            repeat (first
              | go_big_quiet_skip
              | (go_big_quiet_want
                 first
                  | (go_big_quiet_op; go_big_quiet_on)
                  | (apply Exists.intro
                     refine ⟨fun w' hxw => ?_, ?_⟩
                     focus (obtain ⟨k0, k1, k2, k3, k4, k5, k6, y1, y2, t1, p5, p6, ks⟩ := HS8.out w' hxw; go_simp; first | exact rfl)
                     simp only [Act.put, List.setIfInBounds_toArray, List.set_cons_zero, List.set_cons_succ]; go_big_quiet_on)))
            refine wpQuiet_nil ?_
            intro w2 hx2
            (go_wp2_with fail); go_meet
            exact ⟨by rw [HCB.out, HA.out]; try rfl, hx2⟩
          | true =>
            by_cases h3 : x.owner = ow
            · have d3 : (x.owner == ow) = true := by rw [beq_iff_eq]; exact h3
              replace HA : Hid (covs1 c x sts k = (decide (st ≤ day) && decide (day ≤ ti))) := Lib.hid (by rw [HA.out, decide_eq_true h3, Bool.true_and, Bool.true_and]); clear h3; by_cases h4 : st ≤ day
              · have d4 : decide (st ≤ day) = true := decide_eq_true h4; replace HA : Hid (covs1 c x sts k = decide (day ≤ ti)) := Lib.hid (by rw [HA.out, d4, Bool.true_and]); clear h4; by_cases h5 : day ≤ ti
                · have d5 : decide (day ≤ ti) = true := decide_eq_true h5; replace HA : Hid (covs1 c x sts k = true) := Lib.hid (by rw [HA.out, d5]); clear h5; refine wp_region_quiet (C := Ext W8) (by kernel_rfl) (by kernel_rfl) (Ext.drew (by (repeat (first | exact Ext.refl _ | with_reducible (first | assumption | refine Ext.drew ?_ | refine Ext.alloc ?_ _ | refine Ext.drewN ?_ _ | refine Ext.setCell ?_ (by omega) _ | refine Ext.trans ?_ (by assumption)))))) ?_
                  rw [show ∀ (l : List Oper), l.toArray.toList = l from fun l => rfl]
                  repeat (first
                    | go_big_quiet_skip
                    | (go_big_quiet_want
                       first
                        | (go_big_quiet_op; go_big_quiet_on)
                        | (apply Exists.intro
                           refine ⟨fun w' hxw => ?_, ?_⟩
                           focus (obtain ⟨k0, k1, k2, k3, k4, k5, k6, y1, y2, t1, p5, p6, ks⟩ := HS8.out w' hxw; go_simp; first | exact rfl)
                           simp only [Act.put, List.setIfInBounds_toArray, List.set_cons_zero, List.set_cons_succ]; go_big_quiet_on)))
                  refine wpQuiet_nil ?_
                  intro w2 hx2
                  (go_wp2_with fail); go_meet
                  exact ⟨by rw [HCB.out, HA.out]; try rfl, hx2⟩
                · have d5 : decide (day ≤ ti) = false := decide_eq_false h5; replace HA : Hid (covs1 c x sts k = false) := Lib.hid (by rw [HA.out, d5]); clear h5; refine wp_region_quiet (C := Ext W8) (by kernel_rfl) (by kernel_rfl) (Ext.drew (by (repeat (first | exact Ext.refl _ | with_reducible (first | assumption | refine Ext.drew ?_ | refine Ext.alloc ?_ _ | refine Ext.drewN ?_ _ | refine Ext.setCell ?_ (by omega) _ | refine Ext.trans ?_ (by assumption)))))) ?_
                  rw [show ∀ (l : List Oper), l.toArray.toList = l from fun l => rfl]
                  repeat (first
                    | go_big_quiet_skip
                    | (go_big_quiet_want
                       first
                        | (go_big_quiet_op; go_big_quiet_on)
                        | (apply Exists.intro
                           refine ⟨fun w' hxw => ?_, ?_⟩
                           focus (obtain ⟨k0, k1, k2, k3, k4, k5, k6, y1, y2, t1, p5, p6, ks⟩ := HS8.out w' hxw; go_simp; first | exact rfl)
                           simp only [Act.put, List.setIfInBounds_toArray, List.set_cons_zero, List.set_cons_succ]; go_big_quiet_on)))
                  refine wpQuiet_nil ?_
                  intro w2 hx2
                  (go_wp2_with fail); go_meet
                  exact ⟨by rw [HCB.out, HA.out]; try rfl, hx2⟩
              · have d4 : decide (st ≤ day) = false := decide_eq_false h4; replace HA : Hid (covs1 c x sts k = false) := Lib.hid (by rw [HA.out, d4, Bool.false_and]); clear h4; refine wp_region_quiet (C := Ext W8) (by kernel_rfl) (by kernel_rfl) (Ext.drew (by (repeat (first | exact Ext.refl _ | with_reducible (first | assumption | refine Ext.drew ?_ | refine Ext.alloc ?_ _ | refine Ext.drewN ?_ _ | refine Ext.setCell ?_ (by omega) _ | refine Ext.trans ?_ (by assumption)))))) ?_
                rw [show ∀ (l : List Oper), l.toArray.toList = l from fun l => rfl]
                repeat (first
                  | go_big_quiet_skip
                  | (go_big_quiet_want
                     first
                      | (go_big_quiet_op; go_big_quiet_on)
                      | (apply Exists.intro
                         refine ⟨fun w' hxw => ?_, ?_⟩
                         focus (obtain ⟨k0, k1, k2, k3, k4, k5, k6, y1, y2, t1, p5, p6, ks⟩ := HS8.out w' hxw; go_simp; first | exact rfl)
                         simp only [Act.put, List.setIfInBounds_toArray, List.set_cons_zero, List.set_cons_succ]; go_big_quiet_on)))
                refine wpQuiet_nil ?_
                intro w2 hx2
                (go_wp2_with fail); go_meet
                exact ⟨by rw [HCB.out, HA.out]; try rfl, hx2⟩
            · have d3 : (x.owner == ow) = false := by rw [beq_eq_false_iff_ne]; exact h3
              replace HA : Hid (covs1 c x sts k = false) := Lib.hid (by rw [HA.out, decide_eq_false h3]; rfl); clear h3; refine wp_region_quiet (C := Ext W8) (by kernel_rfl) (by kernel_rfl) (Ext.drew (by (repeat (first | exact Ext.refl _ | with_reducible (first | assumption | refine Ext.drew ?_ | refine Ext.alloc ?_ _ | refine Ext.drewN ?_ _ | refine Ext.setCell ?_ (by omega) _ | refine Ext.trans ?_ (by assumption)))))) ?_
              rw [show ∀ (l : List Oper), l.toArray.toList = l from fun l => rfl]
              repeat (first
                | go_big_quiet_skip
                | (go_big_quiet_want
                   first
                    | (go_big_quiet_op; go_big_quiet_on)
                    | (apply Exists.intro
                       refine ⟨fun w' hxw => ?_, ?_⟩
                       focus (obtain ⟨k0, k1, k2, k3, k4, k5, k6, y1, y2, t1, p5, p6, ks⟩ := HS8.out w' hxw; go_simp; first | exact rfl)
                       simp only [Act.put, List.setIfInBounds_toArray, List.set_cons_zero, List.set_cons_succ]; go_big_quiet_on)))
              refine wpQuiet_nil ?_
              intro w2 hx2
              (go_wp2_with fail); go_meet
              exact ⟨by rw [HCB.out, HA.out]; try rfl, hx2⟩
        · have d1 : (pa == (pn : Int)) = false := by rw [beq_eq_false_iff_ne]; exact h1
          replace HA : Hid (covs1 c x sts k = false) := Lib.hid (by rw [HA.out, decide_eq_false h1, Bool.false_and]); clear h1; refine wp_region_quiet (C := Ext W8) (by kernel_rfl) (by kernel_rfl) (Ext.drew (by (repeat (first | exact Ext.refl _ | with_reducible (first | assumption | refine Ext.drew ?_ | refine Ext.alloc ?_ _ | refine Ext.drewN ?_ _ | refine Ext.setCell ?_ (by omega) _ | refine Ext.trans ?_ (by assumption)))))) ?_
          rw [show ∀ (l : List Oper), l.toArray.toList = l from fun l => rfl]
          repeat (first
            | go_big_quiet_skip
            | (go_big_quiet_want
               first
                | (go_big_quiet_op; go_big_quiet_on)
                | (apply Exists.intro
                   refine ⟨fun w' hxw => ?_, ?_⟩
                   focus (obtain ⟨k0, k1, k2, k3, k4, k5, k6, y1, y2, t1, p5, p6, ks⟩ := HS8.out w' hxw; go_simp; first | exact rfl)
                   simp only [Act.put, List.setIfInBounds_toArray, List.set_cons_zero, List.set_cons_succ]; go_big_quiet_on)))
          refine wpQuiet_nil ?_
          intro w2 hx2
          (go_wp2_with fail); go_meet
          exact ⟨by rw [HCB.out, HA.out]; try rfl, hx2⟩
      case rest =>
        obtain ⟨rfl, hxc⟩ := hcut; obtain ⟨wd, rfl⟩ : ∃ y, y = wc := ⟨_, rfl⟩; have D := HD8.out wd hxc; have q0 := HS8.out wd hxc; obtain ⟨k0, -, -, k3, -⟩ := q0; have KV : KP (fun j => j = w.heap.size + 1) V wd := (hkp.ext M8).ext hxc; have Da := D.s sn hsn; have Df := D.fr; have HD := Lib.hid D; clear D HD8 HS8 HV HDM; have hi0 : (0 : Int) ≤ (sn : Int) := by omega
        have hi1 : (sn : Int) < 3 := by omega
        cases cb with
        | false =>
          have HNF : Hid (∀ j : Nat, sumsD c x sts j (k + 1) = sumsD c x sts j k) := Lib.hid (fun j => by rw [HN.out, ← HCB.out]; simp); (go_wp2_with fail); go_roundw
          case rel => exact ⟨k + 1, by omega, by go_num, KV, Lib.hid ⟨HD.out.a, fun j hj => by rw [HNF.out]; exact HD.out.s j hj, HD.out.fr⟩⟩
          case measure => simp [intOf]; omega
        | true =>
          have hb := HB.out sn; have hw : IntKind.i64.wrap (sumsD c x sts sn k + su) = sumsD c x sts sn k + su := IntWalk.i64_in _ (by omega)
          have HNT : Hid (∀ j : Nat, sumsD c x sts j (k + 1) = if j = sn then sumsD c x sts sn k + su else sumsD c x sts j k) := Lib.hid (fun j => by
            rw [HN.out, ← HCB.out]; by_cases e : j = sn
            · subst e; simp
            · have : ¬ (sn : Int) = (j : Int) := by omega
              simp [e, this])
          clear hb; (go_wp2_with fail); go_region; (go_wp2_with fail); go_roundw
          case rel => exact ⟨k + 1, by omega, by go_num, (KV.setCell rfl _).drew, Lib.hid ((DamC.put (S := fun j => sumsD c x sts j k) ⟨HD.out.a, HD.out.s, HD.out.fr⟩ sn _ hsn (fun j => HNT.out j)).ext (Ext.refl _).drew)⟩
          case measure => simp [intOf]; omega
    · obtain rfl : k = cvs.length := by omega
      have D := HDM.out; have z0 := D.a; have z1 := D.s 0 (by decide); have z2 := D.s 1 (by decide); have z3 := D.s 2 (by decide); have zf := D.fr; have hxo := hxw; simp only [Nat.add_zero, Nat.reduceAdd] at z1 z2 z3; rw [show ((0 : Nat) : Int) = 0 from rfl] at z1; rw [show ((1 : Nat) : Int) = 1 from rfl] at z2; rw [show ((2 : Nat) : Int) = 2 from rfl] at z3; clear D HDM HV y1 y2 t1 p5 p6; generalize hS0 : sumsD c x sts 0 cvs.length = S0 at *; have HS0 := Lib.hid hS0; clear hS0; generalize hS1 : sumsD c x sts 1 cvs.length = S1 at *; have HS1 := Lib.hid hS1; clear hS1; generalize hS2 : sumsD c x sts 2 cvs.length = S2 at *; have HS2 := Lib.hid hS2; clear hS2; generalize ham : x.value * lo / 100 = am at *; have Ham := Lib.hid ham; clear ham; (go_wp2_with fail); refine bodyPost_ret (v := .tuple #[.agg #[.int .i64 am, .int .i64 S0, .int .i64 S1, .int .i64 S2], .bool true]) (by simp [results, Tryz.results71, go_sem, z0, z1, z2, z3]) rfl ⟨by rw [HS0.out, HS1.out, HS2.out, Ham.out], ?_⟩
      exact (((hxo.setCell (by omega) _).setCell (by omega) _).setCell (by omega) _).setCell (by omega) _
end Go.Proofs.YtegkdnfeceomdaaGreat
/- Contracts of layer 8: all truths of a case, one after the other. -/
namespace Go.Hs
open Go.RowKit
theorem mem_allL : ∀ {rs : List (Int × Int)} {l : List Int}, l ∈ allL rs → l.length = rs.length ∧ ∀ i (h : i < rs.length), rs[i].1 ≤ l.getD i 0 ∧ l.getD i 0 ≤ rs[i].2
  | [], l, h => by
    have : l = [] := by simpa [allL] using h
    subst this; exact ⟨rfl, fun i h => absurd h (Nat.not_lt_zero _)⟩
  | r :: t, l, h => by
    rw [allL_cons] at h; obtain ⟨a, ha, hl⟩ := List.mem_flatMap.1 h; obtain ⟨l', hl', rfl⟩ := List.mem_map.1 hl; have ih := mem_allL hl'; have ha' := List.mem_range.1 ha; refine ⟨by simp [ih.1], fun i hi => ?_⟩
    cases i with
    | zero =>
      simp only [List.getElem_cons_zero, List.getD_cons_zero]; omega
    | succ i =>
      simp only [List.getElem_cons_succ, List.getD_cons_succ]; exact ih.2 i (by simpa using hi)
theorem getD_take {l : List Int} {n i : Nat} (h : i < n) : (l.take n).getD i 0 = l.getD i 0 := by
  simp [List.getD_eq_getElem?_getD, List.getElem?_take, h]
theorem getD_drop {l : List Int} {n i : Nat} : (l.drop n).getD i 0 = l.getD (n + i) 0 := by
  simp [List.getD_eq_getElem?_getD]
structure TruOK (c : DCas) (t : DTr) : Prop where
  l1 : t.days.length = c.bk.ents.length
  l2 : t.sown.length = c.bk.pars.length
  l3 : t.starts.length = c.covs.length
  listed : listedK c.bk t.days t.sown = true
  loss : c.llo ≤ t.loss ∧ t.loss ≤ c.lhi
theorem truD_ok {c : DCas} {l : List Int} (h : l ∈ allL (rngsD c)) : TruOK c (truD c l) := by
  obtain ⟨hl, hr⟩ := mem_allL h; rw [rngsD_len] at hl; have e1 : (truD c l).days.length = c.bk.ents.length := by simp [truD]; omega
  have e2 : (truD c l).sown.length = c.bk.pars.length := by simp [truD]; omega
  have e3 : (truD c l).starts.length = c.covs.length := by simp [truD]; omega
  refine ⟨e1, e2, e3, ?_, ?_⟩
  · unfold listedK; rw [decide_eq_true e1, decide_eq_true e2, Bool.true_and, Bool.true_and, Bool.and_eq_true]; refine ⟨List.all_eq_true.2 (fun i hi => ?_), List.all_eq_true.2 (fun i hi => ?_)⟩
    · have hi := List.mem_range.1 hi; have := hr i (by rw [rngsD_len]; omega)
      have eq : (rngsD c)[i]'(by rw [rngsD_len]; omega) = ((c.bk.ents[i]).dlo, (c.bk.ents[i]).dhi) := by
        unfold rngsD; rw [List.getElem_append_left (by simpa using hi)]; simp
      rw [eq] at this; have e4 : (truD c l).days.getD i 0 = l.getD i 0 := getD_take hi; have e5 : c.bk.ents.getD i default = c.bk.ents[i] := by simp [hi]
      rw [e4, e5, inR_iff]; exact this
    · have hi := List.mem_range.1 hi; have := hr (c.bk.ents.length + i) (by rw [rngsD_len]; omega)
      have eq : (rngsD c)[c.bk.ents.length + i]'(by rw [rngsD_len]; omega) = ((c.bk.pars[i]).slo, (c.bk.pars[i]).shi) := by
        unfold rngsD; rw [List.getElem_append_right (by simp)]; simp only [List.length_map, Nat.add_sub_cancel_left]; rw [List.getElem_append_left (by simpa using hi)]; simp
      rw [eq] at this; have e4 : (truD c l).sown.getD i 0 = l.getD (c.bk.ents.length + i) 0 := (getD_take hi).trans getD_drop; have e5 : c.bk.pars.getD i default = c.bk.pars[i] := by simp [hi]
      rw [e4, e5, inR_iff]; exact this
  · have := hr (c.bk.ents.length + c.bk.pars.length + c.covs.length) (by rw [rngsD_len]; omega)
    have eq : (rngsD c)[c.bk.ents.length + c.bk.pars.length + c.covs.length]'(by rw [rngsD_len]; omega) = (c.llo, c.lhi) := by
      unfold rngsD; rw [List.getElem_append_right (by simp; omega)]; rw [List.getElem_append_right (by simp; omega)]; rw [List.getElem_append_right (by simp; omega)]; simp
    rw [eq] at this; exact this
def goodD (c : DCas) (out : List Int) (d : Dmg) : Bool := (List.range c.clms.length).all (fun i => decide ((i : Int) ∈ out) || rightD (c.clms.getD i default) d)
def tryD (c : DCas) (out : List Int) (l : List Int) : Option (DTr × Dmg) := (damD c (truD c l)).bind (fun d => if goodD c out d then some (truD c l, d) else none)
def truthsD (c : DCas) (out : List Int) : List (DTr × Dmg) := (allL (rngsD c)).filterMap (tryD c out)
def cntD (c : DCas) (out : List Int) (i : Nat) : Nat := (((allL (rngsD c)).take i).filterMap (tryD c out)).length
theorem cntD_all (c : DCas) (out : List Int) : cntD c out (allL (rngsD c)).length = (truthsD c out).length := by unfold cntD truthsD; rw [List.take_length]
theorem cntD_no {c : DCas} {out : List Int} {i : Nat} (h : i < (allL (rngsD c)).length) (hn : tryD c out (allL (rngsD c))[i] = none) : cntD c out (i + 1) = cntD c out i := by
  unfold cntD; rw [List.take_succ_eq_append_getElem h, List.filterMap_append]; simp [hn]
theorem cntD_yes {c : DCas} {out : List Int} {i : Nat} (h : i < (allL (rngsD c)).length) {x : DTr × Dmg} (hs : tryD c out (allL (rngsD c))[i] = some x) : cntD c out (i + 1) = cntD c out i + 1 ∧ ∃ h2 : cntD c out i < (truthsD c out).length, (truthsD c out)[cntD c out i] = x := by
  have h1 : cntD c out (i + 1) = cntD c out i + 1 := by
    unfold cntD; rw [List.take_succ_eq_append_getElem h, List.filterMap_append]; simp [hs]
  refine ⟨h1, ?_⟩
  have e : truthsD c out = (((allL (rngsD c)).take i).filterMap (tryD c out)) ++ (x :: ((allL (rngsD c)).drop (i + 1)).filterMap (tryD c out)) := by
    unfold truthsD; conv => lhs; rw [← List.take_append_drop i (allL (rngsD c))]
    rw [List.filterMap_append, List.drop_eq_getElem_cons h, List.filterMap_cons, hs]
  have h2 : (truthsD c out)[cntD c out i]? = some x := by
    rw [e, List.getElem?_append_right (by unfold cntD; exact Nat.le_refl _)]; simp [cntD]
  obtain ⟨h3, h4⟩ := List.getElem?_eq_some_iff.1 h2; exact ⟨h3, h4⟩
theorem damD_some {c : DCas} {t : DTr} (h : playK c.bk t.days t.sown c.day = 0) : (damD c t).isSome = true := by unfold damD; rw [if_pos h]; rfl
theorem damD_none {c : DCas} {t : DTr} (h : playK c.bk t.days t.sown c.day ≠ 0) : damD c t = none := by unfold damD; rw [if_neg h]
theorem mm_ints {m : Nat} {w w' : World} {v : Value} {xs : List Int} (h : IntsV w v xs) (k : MM m w w') (hs : Stl m w) : IntsV w' v xs := by
  obtain ⟨a, c, rfl, h1, h2, h3⟩ := h; exact ⟨a, c, rfl, h1, h2, fun i hi => let ⟨b, o, e, hc⟩ := h3 i hi; ⟨b, o, e, k.keep hs hc.1, hc.2⟩⟩
theorem mm_tru {m : Nat} {w w' : World} {v : Value} {t : DTr} (h : TruV w v t) (k : MM m w w') (hs : Stl m w) : TruV w' v t :=
  let ⟨a, b, c, e, h1, h2, h3⟩ := h; ⟨a, b, c, e, mm_ints h1 k hs, mm_ints h2 k hs, mm_ints h3 k hs⟩
theorem mm_case {m : Nat} {w w' : World} {A : CaseA} {c : DCas} (h : CaseM w A c) (k : MM m w w') (hs : Stl m w) : CaseM w' A c := by
  refine ⟨fun i hi => ?_, fun i hi => ?_, fun i hi => ?_, fun i hi => ?_, h.l1, h.l2, h.l3, h.l4⟩
  · obtain ⟨b, o, e, hc⟩ := h.pars i hi; exact ⟨b, o, e, k.keep hs hc.1, k.keep hs hc.2.1, k.keep hs hc.2.2.1, k.keep hs hc.2.2.2⟩
  · obtain ⟨b, o, e, h0, h1, h2, h3, h4, h5, h6, h7⟩ := h.ents i hi; exact ⟨b, o, e, k.keep hs h0, k.keep hs h1, k.keep hs h2, k.keep hs h3, k.keep hs h4, k.keep hs h5, k.keep hs h6, k.keep hs h7⟩
  · obtain ⟨b, o, e, h0, h1, h2, h3, h4, h5, h6⟩ := h.covs i hi; exact ⟨b, o, e, k.keep hs h0, k.keep hs h1, k.keep hs h2, k.keep hs h3, k.keep hs h4, k.keep hs h5, k.keep hs h6⟩
  · obtain ⟨b, o, e, h0, h1, h2⟩ := h.clms i hi; exact ⟨b, o, e, k.keep hs h0, k.keep hs h1, k.keep hs h2⟩
theorem box_mm {p m : Nat} {A : CaseA} {c : DCas} {w w' : World} (h : BoxD p m A c w) (k : MM m w w') (hs : Stl m w) : BoxD p m A c w' :=
  ⟨k.keep hs h.c0, k.keep hs h.c1, k.keep hs h.c2, k.keep hs h.c3, k.keep hs h.c4, k.keep hs h.c5, k.keep hs h.c6, k.keep hs h.c7, k.keep hs h.c8, k.keep hs h.c9, k.keep hs h.c10, k.keep hs h.c11⟩
theorem inv_stl (m : Nat) : Inv (fun k => k = m) (Stl m) := fun _ _ h hs => hs.of (h m rfl)
theorem mm_belq {m n : Nat} {w w' : World} (h : MM m w w') (hn : n ≤ w.heap.size) : BelQ (fun k => k = m) (Stl m) n w w' := ⟨h.kp.os, h.kp.tape, h.kp.output, h.kp.size, fun k hk hq => h.kp.block k (by omega) hq, h.stl⟩
theorem mm_kept {m n : Nat} {w w' : World} (h : MM m w w') (hm : m < n) : Kept n w w' := ⟨h.size, fun k hk hl => h.kp.block k hl (by omega)⟩
end Go.Hs
namespace Go.Proofs.YtegkdnfeceomdaaGreat
open Go.RowKit Go.Hs
theorem damage_d (p m : Nat) (A : CaseA) (c : DCas) (t : DTr) (v : Value) (w : World) (hbx : BoxD p m A c w) (hm : CaseM w A c) (hS : CasS c) (hv : TruV w v t) (ht : TruOK c t) :
    Calls Tryz.prog 71 #[.pointer (some ⟨p, 0, none⟩), v] w fun e w' => e = .returned (.tuple #[dmgO (damD c t), .bool (damD c t).isSome]) ∧ Ext w w' := by
  obtain ⟨vd, vs, vst, rfl, h1, h2, h3⟩ := hv; have l1 := hm.l1.2; have l2 := hm.l2.2; have hb := hS.loss; have k1 := ht.loss; by_cases hE : playK c.bk t.days t.sown c.day = 0
  · rw [damD_some hE]; exact damage_good p m A c t vd vs vst w hbx hm hS h1 h2 (by rw [ht.l1]; omega) (by rw [ht.l2]; omega) h3 ht.l3 (by omega) hE
  · rw [damD_none hE]; exact damage_bad p m A c t vd vs vst w hbx hm h1 h2 (by rw [ht.l1]; omega) (by rw [ht.l2]; omega) h3 hE
end Go.Proofs.YtegkdnfeceomdaaGreat
/- Contracts of layer 8: all truths of a case, one after the other: the walk. -/
namespace Go.Hs
open Go.RowKit
structure KT (p m b1 b2 : Nat) (A : CaseA) (c : DCas) (vout : Value) (out : List Int) (w : World) : Prop where
  c1 : w.cell? ⟨b1, 0, none⟩ = some (.pointer (some ⟨p, 0, none⟩))
  c2 : w.cell? ⟨b2, 0, none⟩ = some vout
  out : IntsV w vout out
  box : BoxD p m A c w
  cas : CaseM w A c
  stl : Stl m w
theorem KT.mm {p m b1 b2 : Nat} {A : CaseA} {c : DCas} {vout : Value} {out : List Int} {w w' : World} (h : KT p m b1 b2 A c vout out w) (k : MM m w w') : KT p m b1 b2 A c vout out w' :=
  ⟨k.keep h.stl h.c1, k.keep h.stl h.c2, mm_ints h.out k h.stl, box_mm h.box k h.stl, mm_case h.cas k h.stl, k.stl h.stl⟩
theorem mm_belr {m n U : Nat} {w w' : World} (h : MM m w w') : BelR (fun k => k = m) (Stl m) n U w w' := ⟨h.kp.os, h.kp.tape, h.kp.output, h.kp.size, fun k hk _ hq => h.kp.block k hk hq, h.stl⟩
def ArgT (ts : List (DTr × Dmg)) (i : Nat) (xs : Array Value) (w : World) : Prop := ∃ v, ∃ h : i < ts.length, xs = #[v, (ts[i]).2.v] ∧ TruV w v (ts[i]).1
def ArgN (ts : List (DTr × Dmg)) (U i : Nat) (xs : Array Value) (w : World) : Prop := ∃ v, ∃ h : i < ts.length, xs = #[v, (ts[i]).2.v] ∧ TruV w v (ts[i]).1 ∧ TruB U v
structure TsO (L B bl gr qr : Nat) (rs : List (Int × Int)) (w : World) : Prop where
  y : w.cell? ⟨B, 0, none⟩ = some (.func (.yield L) #[] #[])
  r : RngB bl (some ⟨gr, 0, none⟩) qr rs w
theorem TsO.of {L B bl gr qr : Nat} {rs : List (Int × Int)} {w w' : World} (h : TsO L B bl gr qr rs w) (k : ∀ b o v, b = B ∨ b = bl ∨ b = gr → w.cell? ⟨b, o, none⟩ = some v → w'.cell? ⟨b, o, none⟩ = some v) : TsO L B bl gr qr rs w' :=
  ⟨k _ _ _ (.inl rfl) h.y, k _ _ _ (.inr (.inl rfl)) h.r.1, fun i hi => by
    obtain ⟨g, e, h1, h2⟩ := h.r.2 i hi; cases e
    exact ⟨gr, rfl, k _ _ _ (.inr (.inr rfl)) h1, k _ _ _ (.inr (.inr rfl)) h2⟩⟩
theorem TsO.below {L B bl gr qr n : Nat} {rs : List (Int × Int)} {w w' : World} (h : TsO L B bl gr qr rs w) (hx : Below n w w') (h1 : B < n) (h2 : bl < n) (h3 : gr < n) : TsO L B bl gr qr rs w' :=
  h.of (fun b o v hb hc => (hx.cell (p := ⟨b, o, none⟩) (show b < n by rcases hb with rfl | rfl | rfl <;> assumption)).trans hc)
theorem TsO.kept {L B bl gr qr n : Nat} {rs : List (Int × Int)} {w w' : World} (h : TsO L B bl gr qr rs w) {U : Nat} (hx : KeptU n U w w') (h1 : n ≤ B ∧ B < U) (h2 : n ≤ bl ∧ bl < U) (h3 : n ≤ gr ∧ gr < U) : TsO L B bl gr qr rs w' :=
  h.of (fun b o v hb hc => have e : n ≤ b ∧ b < U := by rcases hb with rfl | rfl | rfl <;> assumption
    hx.cell e.1 e.2 hc)
theorem ints_turned {L : Nat} {w w' : World} {v : Value} {xs : List Int} {r : Loop} (h : IntsV w v xs) (hL : w.heap[L]? = some (.loop r)) (k : Turned L w w') : IntsV w' v xs := by
  obtain ⟨a, c, rfl, h1, h2, h3⟩ := h; refine ⟨a, c, rfl, h1, h2, fun i hi => ?_⟩
  obtain ⟨b, o, e, hc, hc2⟩ := h3 i hi; refine ⟨b, o, e, k.cell ?_ hc, hc2⟩
  rintro rfl; simp [World.cell?, hL] at hc
end Go.Hs
namespace Go.Proofs.YtegkdnfeceomdaaGreat
open Go.RowKit Go.Hs
attribute [local irreducible] World.setCell World.alloc
attribute [local go_sem] Oper.semAt_some
attribute [local simp] wide_fn wide_fn' wide_depth wide_round
attribute [local go_sem] wide_fn wide_fn' wide_depth wide_round
theorem fn_truthsD : FnOK 146 := fun args w => by simp [go_sem]
set_option maxHeartbeats 400000 in
theorem lists_d (a : Option Addr) (n q : Nat) (w : World) :
    Calls Tryz.prog 147 #[.slice a n q] w fun e w' => e = .returned (.func (.func 173) #[] #[.pointer (some ⟨w.heap.size, 0, none⟩)]) ∧ w' = w.alloc (.cells #[.slice a n q] 151) := by
  go_enter Tryz.func147, Tryz.ntmps147
  (go_wp2_with fail); go_ret; exact ⟨rfl, rfl⟩
set_option maxRecDepth 100000 in
set_option maxHeartbeats 4000000 in
theorem truthsD_givesU (p m b1 b2 : Nat) (A : CaseA) (c : DCas) (vout : Value) (out : List Int) (hS : CasS c) :
    GivesU (fun k => k = m) (Stl m) 146 #[.pointer (some ⟨b1, 0, none⟩), .pointer (some ⟨b2, 0, none⟩)] (truthsD c out).length (ArgN (truthsD c out)) (KT p m b1 b2 A c vout out) := by
  intro L J Jx W hq hK hJ hJx hY h0
  have hm : m < W.heap.size := hq m rfl; have K0 := hK W.heap.size 0 W (h0 _ (Nat.le_refl _)); have HRN := Lib.hid (fun W' (hx : Ext W W') => ranges_d A c W' (K0.cas.ext hx)); have hR : ∀ r ∈ rngsD c, 0 ≤ r.1 ∧ r.1 ≤ r.2 ∧ r.2 ≤ 1000 := fun r hr => by have := rngsD_ok hS r hr; omega
  have hrl : 0 < (rngsD c).length ∧ (rngsD c).length ≤ 1000 := by have := rngsD_len c; have := hS.nc; have := hS.bk.ents; have := hS.bk.pars; omega
  have HLG := Lib.hid (fun bl qr ar => lists_givesU bl qr ar (rngsD c) hR hrl.2); have HK := Lib.hid hK; have HJ := Lib.hid hJ; have HJX := Lib.hid hJx; have HY := Lib.hid hY; have H0 := Lib.hid h0; obtain ⟨k0, k1, k2, k3, k4, k5, k6, k7, k8, k9, k10, k11⟩ := K0.box; have kb := K0.c1; have hbl1 : b1 < W.heap.size := lt_of_cell kb; have hp1 : p < W.heap.size := lt_of_cell k0; have hb1' : ¬ b1 = W.heap.size := by omega
  have hp1' : ¬ p = W.heap.size := by omega
  have HCNT := Lib.hid (cntD_all c out); have HTA := Lib.hid (fun W' (hx : Ext W W') l v hv hl h1 h2 h3 => truth_d A c l v W' hv hl h1 h2 h3); clear hK hJ hJx hY h0 hR K0; rw [← HCNT.out]; obtain ⟨a1, c1, a2, c2, a3, c3, a4, c4⟩ := A; unfold CaseA.v caseV at HRN; simp only at *; refine callsIn_of_wp_marks Tryz.func146 rfl trivial (wpIn_wide.2 ?_) rfl
  simp only [Tryz.ntmps146, List.size_toArray, List.length_cons, List.length_nil, Nat.reduceAdd, Nat.reduceSub, Array.replicate_succ, Array.replicate_zero, List.push_toArray, List.append_toArray, List.nil_append, List.cons_append]; (go_wp2_with fail); go_step3
  (go_wp2_with fail); go_step3
  (go_wp2_with fail); (with_reducible refine (HRN.out _ (by (repeat (first | exact Ext.refl _ | with_reducible (first | assumption | refine Ext.drew ?_ | refine Ext.alloc ?_ _ | refine Ext.drewN ?_ _ | refine Ext.setCell ?_ (by omega) _ | refine Ext.trans ?_ (by assumption)))))).mono ?_); rintro e w1 ⟨ar, qr, rfl, hown, hx1⟩; (go_wp2_with fail); (with_reducible refine (lists_d _ _ _ _).mono ?_); rintro e w' ⟨rfl, rfl⟩; obtain ⟨gr, rfl, hg1, hg2, -⟩ := Hs.Own.at (C := rngC) (k := 2) (fun _ => rfl) hown hrl.1
  have HT0 : Hid (TsO L W.heap.size w1.heap.size gr qr (rngsD c) (w1.alloc (.cells #[.slice (some ⟨gr, 0, none⟩) (rngsD c).length qr] 151))) := Lib.hid (by
    have Y : Ext w1 (w1.alloc (.cells #[.slice (some ⟨gr, 0, none⟩) (rngsD c).length qr] 151)) := by (repeat (first | exact Ext.refl _ | with_reducible (first | assumption | refine Ext.drew ?_ | refine Ext.alloc ?_ _ | refine Ext.drewN ?_ _ | refine Ext.setCell ?_ (by omega) _ | refine Ext.trans ?_ (by assumption))))
    refine ⟨(hx1.trans Y).keep (by simp [go_sem]), by simp [go_sem], fun k hk => ?_⟩
    obtain ⟨g', e, -, -, h5⟩ := Hs.Own.at (C := rngC) (k := 2) (fun _ => rfl) hown hk; cases e
    exact ⟨gr, rfl, Y.keep (h5 0 _ rfl), Y.keep (h5 1 _ rfl)⟩)
  have X0 : Ext W (w1.alloc (.cells #[.slice (some ⟨gr, 0, none⟩) (rngsD c).length qr] 151)) := by (repeat (first | exact Ext.refl _ | with_reducible (first | assumption | refine Ext.drew ?_ | refine Ext.alloc ?_ _ | refine Ext.drewN ?_ _ | refine Ext.setCell ?_ (by omega) _ | refine Ext.trans ?_ (by assumption))))
  have S0 : (w1.alloc (.cells #[.slice (some ⟨gr, 0, none⟩) (rngsD c).length qr] 151)).heap.size = w1.heap.size + 1 := by simp
  have hz1 : W.heap.size + 1 ≤ w1.heap.size := by have := hx1.size; simpa using this
  have hg3 : W.heap.size + 1 ≤ gr := by simpa using hg1
  clear hown hg1 hx1 k0 k1 k2 k3 k4 k5 k6 k7 k8 k9 k10 k11 kb HRN; (go_wp2_with fail); generalize (w1.alloc (.cells #[.slice (some ⟨gr, 0, none⟩) (rngsD c).length qr] 151)) = W0 at *; have HS0 := Lib.hid S0; have hS0 : w1.heap.size + 1 ≤ W0.heap.size ∧ W0.heap.size ≤ w1.heap.size + 1 := by omega
  clear S0
  have HQ : Hid (∀ U A B, BelR (fun _ => False) (fun _ => True) W0.heap.size U A B → BelR (fun k => k = m) (Stl m) W.heap.size U A B) := Lib.hid (fun U A B h =>
    ⟨h.os, h.tape, h.output, h.size, fun k hk hr _ => h.block k hk (by omega) id, fun hs => hs.of (h.block m hs.lt (.inl (by omega)) id)⟩)
  have HXT : Hid (∀ U A B, m < A.heap.size → Ext A B → BelR (fun k => k = m) (Stl m) W.heap.size U A B) := Lib.hid (fun U A B hm h => ext_toR h (inv_stl m) (fun k hk => by omega))
  refine each_wpU (q := fun _ => False) (I := fun _ => True) (n := (allL (rngsD c)).length) (Arg := fun _ => ArgL (allL (rngsD c))) (K := RngB w1.heap.size (some ⟨gr, 0, none⟩) qr (rngsD c)) (by rfl) fn_lists1 (fun U i xs W' h => by obtain ⟨v, rfl, -⟩ := h; rfl) inv_none (fun _ h => h.elim)
    (fun U i W' => J U (cntD c out i) W' ∧ TsO L W.heap.size w1.heap.size gr qr (rngsD c) W') (fun U cd W' => cd = .ret ∧ Jx U W') (HLG.out _ _ _) (fun U i W' h => h.2.r)
    (fun U i A' B' hU h hx => ⟨HJ.out U _ A' B' (by omega) h.1 (HQ.out U A' B' hx), h.2.of (fun b o v hb hc => hx.cell id (.inl (by omega)) hc)⟩)
    (fun U cd A' B' hU h hx => ⟨h.1, HJX.out U A' B' (by omega) h.2 (HQ.out U A' B' hx)⟩)
    (fun U hU => ⟨HJ.out U _ W W0 (by omega) (H0.out U (by omega)) (HXT.out U W W0 hm X0), HT0.out⟩) ?hround ?hdone ?hstop
  case hround =>
    intro U i hi W1 xs hU hUW hj harg hrec1 hs
    obtain ⟨v, rfl, hi', hv⟩ := harg; obtain ⟨r1, hr1⟩ := hrec1; simp only [Array.zip_eq_zipWith]; (gi_wp2_with fail); refine ⟨KeptU.refl _ _ _, fun W2 hT hrec => ?_⟩
    have BT : BelR (fun k => k = m) (Stl m) W.heap.size U W1 W2 := ⟨hT.os, hT.tape, hT.output, by rw [hT.size]; exact Nat.le_refl _, fun k _ hr _ => hT.block k (by omega), fun hs => hs.of (hT.block m (by omega))⟩; have hj2 := HJ.out U _ _ _ (by omega) hj.1 BT; have O2 := hj.2.below (n := W0.heap.size) (hT.below (by omega)) (by omega) (by omega) (by omega); have V2 := ints_turned hv hr1 hT; have hz2 : W1.heap.size ≤ W2.heap.size := by rw [hT.size]; exact Nat.le_refl _
    have K2 := HK.out _ _ W2 hj2; have HJ2 := Lib.hid hj2; have HO2 := Lib.hid O2; have HV2 := Lib.hid V2; have HK2 := Lib.hid K2; have hml : (allL (rngsD c))[i] ∈ allL (rngsD c) := List.getElem_mem hi; have HTK := Lib.hid (truD_ok hml); have HLEN := Lib.hid ((mem_allL hml).1.trans (rngsD_len c)); obtain ⟨k0, k1, k2, k3, k4, k5, k6, k7, k8, k9, k10, k11⟩ := K2.box; have kb := K2.c1; have HNO := Lib.hid (cntD_no (c := c) (out := out) hi); have HYES := Lib.hid (fun x => cntD_yes (c := c) (out := out) hi (x := x)); have hUW2 : U ≤ W2.heap.size := Nat.le_trans hUW hz2; clear hj hj2 O2 V2 K2 hv hml hT hr1 HT0 H0 X0 BT; generalize (allL (rngsD c))[i] = l at *; have he := hS.bk.ents; have hpp := hS.bk.pars; have hnc := hS.nc; have HTR := Lib.hid (truth_d ⟨a1, c1, a2, c2, a3, c3, a4, c4⟩ c l v W2 HV2.out HLEN.out (by omega) (by omega) (by omega)); unfold CaseA.v caseV at HTR; simp only at HTR; (gi_wp2_with fail); (with_reducible refine (CallsIn.inRound _ (callsIn_wide.2 HTR.out)).mono ?_); rintro e w3 ⟨vt, rfl, ht, hnew, hx3⟩; have HNW := Lib.hid hnew; clear hnew; obtain ⟨vd, vs, vst, rfl, i1, i2, i3⟩ := ht; obtain ⟨vo1, vo2, rfl, -⟩ := id HK2.out.out; have HTD : Hid (tryD c out l = (damD c (truD c l)).bind (fun d => if goodD c out d then some (truD c l, d) else none)) := rfl; generalize truD c l = t at *; have HDM := Lib.hid (fun W' (hx : Ext w3 W') => damage_d p m ⟨a1, c1, a2, c2, a3, c3, a4, c4⟩ c t (.agg #[vd, vs, vst, .int .i64 t.loss]) W' (box_mm HK2.out.box ((Ext.mm hx3).ext hx) HK2.out.stl) (HK2.out.cas.ext (hx3.trans hx)) hS ⟨vd, vs, vst, rfl, i1.ext hx, i2.ext hx, i3.ext hx⟩ HTK.out); have HTV : Hid (TruV w3 (.agg #[vd, vs, vst, .int .i64 t.loss]) t) := Lib.hid ⟨vd, vs, vst, rfl, i1, i2, i3⟩; obtain ⟨ad, cd, rfl, -⟩ := i1; obtain ⟨as', cs, rfl, -⟩ := i2; obtain ⟨at', ct, rfl, -⟩ := i3; replace kb := hx3.keep kb; have kba := fun o => ((Ext.refl w3).alloc o).keep kb
    (gi_wp2_with fail); (with_reducible refine (CallsIn.inRound _ (callsIn_wide.2 (HDM.out _ (by (repeat (first | exact Ext.refl _ | with_reducible (first | assumption | refine Ext.drew ?_ | refine Ext.alloc ?_ _ | refine Ext.drewN ?_ _ | refine Ext.setCell ?_ (by omega) _ | refine Ext.trans ?_ (by assumption)))))))).mono ?_); rintro e w5 ⟨rfl, hx5⟩; have t0 := hx5.keep (k := w3.heap.size) (o := 0) (v := .slice ad t.days.length cd) (by simp [go_sem]); have t1 := hx5.keep (k := w3.heap.size) (o := 1) (v := .slice as' t.sown.length cs) (by simp [go_sem]); have t2 := hx5.keep (k := w3.heap.size) (o := 2) (v := .slice at' t.starts.length ct) (by simp [go_sem]); have t3 := hx5.keep (k := w3.heap.size) (o := 3) (v := .int .i64 t.loss) (by simp [go_sem]); have X35 : Ext w3 w5 := by (repeat (first | exact Ext.refl _ | with_reducible (first | assumption | refine Ext.drew ?_ | refine Ext.alloc ?_ _ | refine Ext.drewN ?_ _ | refine Ext.setCell ?_ (by omega) _ | refine Ext.trans ?_ (by assumption))))
    have X5 : Ext W2 w5 := hx3.trans X35; have hz3 : W2.heap.size ≤ w3.heap.size := hx3.size; have hz5 : w3.heap.size < w5.heap.size := lt_of_cell t0; have HTL := Lib.hid HTK.out.loss; clear hx5 hx3 kb kba HDM HTR k0 k1 k2 k3 k4 k5 k6 k7 k8 k9 k10 k11 HTK; cases hdm : damD c t with
    | none =>
      have HN : Hid (cntD c out (i + 1) = cntD c out i) := Lib.hid (HNO.out (by rw [HTD.out, hdm]; rfl)); simp only [dmgO, Dmg.v, Option.isSome_none]; clear hdm; (gi_wp2_with fail); have X6 : Ext W2 (w5.alloc (.cells #[.int .i64 0, .int .i64 0, .int .i64 0, .int .i64 0] 139)) := X5.alloc _; exact ⟨(Kept.ext X6).toU, by rw [HN.out]; exact HJ.out U _ _ _ (by omega) HJ2.out (HXT.out U _ _ HK2.out.stl.lt X6), HO2.out.below (n := W2.heap.size) X6 (by omega) (by omega) (by omega)⟩
    | some d =>
      have HDK : Hid (DmgOK d) := Lib.hid (damD_ok hS (by have := HTL.out; have := hS.loss; omega) hdm); have HG1 : Hid (goodD c out d = true → cntD c out (i + 1) = cntD c out i + 1 ∧ ∃ h2 : cntD c out i < (truthsD c out).length, (truthsD c out)[cntD c out i] = (t, d)) := Lib.hid (fun h => HYES.out (t, d) (by rw [HTD.out, hdm]; simp [h])); have HG0 : Hid (goodD c out d = false → cntD c out (i + 1) = cntD c out i) := Lib.hid (fun h => HNO.out (by rw [HTD.out, hdm]; simp [h])); have K5 := HK2.out.mm (Ext.mm X5)
      have HV : Hid (∀ W', MM m (w5.alloc (.cells #[.int .i64 d.amount, .int .i64 d.s0, .int .i64 d.s1, .int .i64 d.s2] 139)) W' → (W'.cell? ⟨b1, 0, none⟩ = some (.pointer (some ⟨p, 0, none⟩)) ∧ W'.cell? ⟨b2, 0, none⟩ = some (.slice vo1 out.length vo2) ∧ W'.cell? ⟨p, 10, none⟩ = some (.slice a4 c.clms.length c4) ∧ W'.cell? ⟨w3.heap.size, 0, none⟩ = some (.slice ad t.days.length cd) ∧ W'.cell? ⟨w3.heap.size, 1, none⟩ = some (.slice as' t.sown.length cs) ∧ W'.cell? ⟨w3.heap.size, 2, none⟩ = some (.slice at' t.starts.length ct) ∧ W'.cell? ⟨w3.heap.size, 3, none⟩ = some (.int .i64 t.loss) ∧ W'.cell? ⟨w5.heap.size, 0, none⟩ = some (.int .i64 d.amount) ∧ W'.cell? ⟨w5.heap.size, 1, none⟩ = some (.int .i64 d.s0) ∧ W'.cell? ⟨w5.heap.size, 2, none⟩ = some (.int .i64 d.s1) ∧ W'.cell? ⟨w5.heap.size, 3, none⟩ = some (.int .i64 d.s2) ∧ W'.cell? ⟨W.heap.size, 0, none⟩ = some (.func (.yield L) #[] #[])) ∧ (KT p m b1 b2 ⟨a1, c1, a2, c2, a3, c3, a4, c4⟩ c (.slice vo1 out.length vo2) out W' ∧ TruV W' (.agg #[.slice ad t.days.length cd, .slice as' t.sown.length cs, .slice at' t.starts.length ct, .int .i64 t.loss]) t) ∧ MM m W2 W') := Lib.hid (fun W' h => by
        have M5 : MM m w5 W' := (Ext.mm ((Ext.refl w5).alloc _)).trans h; have KW := K5.mm M5; have M2 : MM m W2 W' := (Ext.mm X5).trans M5; have hml : m < W2.heap.size := HK2.out.stl.lt; have hmn3 : ¬ m = w3.heap.size := by omega
        exact ⟨⟨KW.c1, KW.c2, KW.box.c10, M5.keep' (by omega) t0, M5.keep' (by omega) t1, M5.keep' (by omega) t2, M5.keep' (by omega) t3, h.keep' (by omega) (by simp [go_sem]), h.keep' (by omega) (by simp [go_sem]), h.keep' (by omega) (by simp [go_sem]), h.keep' (by omega) (by simp [go_sem]), M2.keep' (by omega) HO2.out.y⟩, ⟨KW, mm_tru (HTV.out.ext X35) M5 K5.stl⟩, M2⟩)
      simp only [dmgO, Dmg.v, Option.isSome_some]; obtain ⟨⟨b1c, b2c, c10, t0, t1, t2, t3, d0, d1, d2, d3, yc⟩, -⟩ := HV.out _ (MM.refl _); clear hdm t0 t1 t2 t3; have kb := K5.c1; (gi_wp2_with fail); have hVz : w5.heap.size < (w5.alloc (.cells #[.int .i64 d.amount, .int .i64 d.s0, .int .i64 d.s1, .int .i64 d.s2] 139)).heap.size := by simp
      generalize (w5.alloc (.cells #[.int .i64 d.amount, .int .i64 d.s0, .int .i64 d.s1, .int .i64 d.s2] 139)) = V at *; clear b1c b2c c10 t0 t1 t2 t3 d0 d1 d2 d3 yc kb K5
      have HSO : Hid (∀ k (h : k < c.clms.length), (c.clms[k]).soc = 0 ∨ (c.clms[k]).soc = 1 ∨ (c.clms[k]).soc = 2) := Lib.hid (fun k h => by
        have h1 := hS.clm _ (List.getElem_mem h); have h2 := hS.soc; simp only [clmB, socB, Bool.and_eq_true, inR_iff] at h1; omega)
      have hnm := hS.nm; gi_loopw [37] (fun s wr => ∃ k : Nat, k ≤ c.clms.length ∧ s = .int .i64 k ∧ MM m V wr ∧ Hid (∀ j, j < k → (decide ((j : Int) ∈ out) || rightD (c.clms.getD j default) d) = true)) (fun s _ => c.clms.length - (intOf s).toNat)
      case atStart => exact ⟨0, Nat.zero_le _, rfl, MM.refl _, Lib.hid (fun j hj => absurd hj (Nat.not_lt_zero _))⟩
      case round =>
        obtain ⟨k, hk, rfl, hmm, HJK⟩ := hrel; obtain ⟨wo, rfl⟩ : ∃ x, x = wr := ⟨_, rfl⟩; obtain ⟨⟨b1c, b2c, c10, t0, t1, t2, t3, d0, d1, d2, d3, yc⟩, ⟨KW, TW⟩, MW⟩ := HV.out wo hmm; have HKW := Lib.hid KW; have HTW := Lib.hid TW; have HMW := Lib.hid MW; clear TW MW; by_cases hlt : k < c.clms.length
        · obtain ⟨b', off, e4, hce⟩ := KW.cas.clms k (by simpa using hlt); simp only at e4; subst e4; have e1 : (c.clms.map Clm.c)[k]'(by simpa using hlt) = (c.clms[k]).c := by simp
          rw [e1] at hce; clear e1
          have HOK1 : Hid (∀ b, (decide ((k : Int) ∈ out) || rightD c.clms[k] d) = b → b = true → ∀ j, j < k + 1 → (decide ((j : Int) ∈ out) || rightD (c.clms.getD j default) d) = true) := Lib.hid (fun b hb hb1 j hj => by
            by_cases e : j = k
            · subst e; have e2 : c.clms.getD j default = c.clms[j] := by simp [hlt]
              rw [e2, hb]; exact hb1
            · exact HJK.out j (by omega))
          have HBAD : Hid ((decide ((k : Int) ∈ out) || rightD c.clms[k] d) = false → goodD c out d = false) := Lib.hid (fun hb => by
            refine all_range_false hlt ?_
            have e2 : c.clms.getD k default = c.clms[k] := by simp [hlt]
            rw [e2]; exact hb)
          have hso := HSO.out k hlt; have HRT := Lib.hid (fun W' (hw : W'.cell? ⟨p, 11, none⟩ = some (.map (some m))) (hs' : Stl m W') => right_d p m c.clms[k] d W' hw hs' HDK.out hso); have HCO := Lib.hid (fun W' (hx : Ext wo W') => contains_p (.slice vo1 out.length vo2) out (k : Int) W' (KW.out.ext hx)); clear hso KW; obtain ⟨cb, hcb⟩ : ∃ cb, cb = decide ((k : Int) ∈ out) := ⟨_, rfl⟩; obtain ⟨rb, hrb⟩ : ∃ rb, rb = rightD c.clms[k] d := ⟨_, rfl⟩; rw [← hcb] at HOK1 HBAD HCO; rw [← hrb] at HOK1 HBAD HRT; clear hcb hrb; generalize c.clms[k] = x at *; obtain ⟨so, plo, phi⟩ := x; obtain ⟨m0, m1, m2⟩ := hce; simp only [Clm.c, V3.val] at m0 m1 m2 HRT; have hk0 : (0 : Int) ≤ (k : Int) := by omega
          have hk1 : (k : Int) < (c.clms.length : Int) := by omega
          have b2a := fun o => ((Ext.refl wo).alloc o).keep b2c
          (gi_wp2_with fail); (with_reducible refine (CallsIn.inRound _ (callsIn_wide.2 (HCO.out _ (by (repeat (first | exact Ext.refl _ | with_reducible (first | assumption | refine Ext.drew ?_ | refine Ext.alloc ?_ _ | refine Ext.drewN ?_ _ | refine Ext.setCell ?_ (by omega) _ | refine Ext.trans ?_ (by assumption)))))))).mono ?_); rintro e w7 ⟨rfl, hx7⟩; have X7 : Ext wo w7 := by (repeat (first | exact Ext.refl _ | with_reducible (first | assumption | refine Ext.drew ?_ | refine Ext.alloc ?_ _ | refine Ext.drewN ?_ _ | refine Ext.setCell ?_ (by omega) _ | refine Ext.trans ?_ (by assumption))))
          have M7 : MM m V w7 := hmm.ext X7; have y0 := hx7.keep (k := wo.heap.size) (o := 0) (v := .int .i64 so) (by simp [go_sem]); have y1 := hx7.keep (k := wo.heap.size) (o := 1) (v := .int .i64 plo) (by simp [go_sem]); have y2 := hx7.keep (k := wo.heap.size) (o := 2) (v := .int .i64 phi) (by simp [go_sem]); clear b1c b2c c10 t0 t1 t2 t3 d0 d1 d2 d3 yc b2a m0 m1 m2 hx7 HCO; cases cb with
          | true =>
            have HJ8 := Lib.hid (HOK1.out true (Bool.true_or _) rfl); clear HBAD HOK1 HRT; (gi_wp2_with fail); go_roundw
            case rel => exact ⟨k + 1, by omega, by go_num, M7, HJ8⟩
            case measure => simp [intOf]; omega
          | false =>
            obtain ⟨⟨b1c, b2c, c10, t0, t1, t2, t3, d0, d1, d2, d3, yc⟩, ⟨KW, TW⟩, MW⟩ := HV.out w7 M7; have hw11 := KW.box.c11; have hst := KW.stl; have HR8 := Lib.hid (HRT.out w7 hw11 hst); clear HRT hw11 hst KW TW MW t0 t1 t2 t3 yc b2c c10; (gi_wp2_with fail); (with_reducible refine (CallsIn.inRound _ (callsIn_wide.2 HR8.out)).mono ?_); rintro e w8 ⟨rfl, hm8⟩; have M8 := M7.trans hm8; clear b1c d0 d1 d2 d3 y0 y1 y2 hm8; cases rb with
            | true =>
              have HJ8 := Lib.hid (HOK1.out true rfl rfl); clear HBAD HOK1; (gi_wp2_with fail); go_roundw
              case rel => exact ⟨k + 1, by omega, by go_num, M8, HJ8⟩
              case measure => simp [intOf]; omega
            | false =>
              have HN := Lib.hid (HG0.out (HBAD.out rfl)); obtain ⟨-, -, MW⟩ := HV.out w8 M8; clear HBAD HOK1; (gi_wp2_with fail); exact ⟨(mm_kept MW (by omega)).toU, by rw [HN.out]; exact HJ.out U _ W2 w8 (by omega) HJ2.out (mm_belr MW), HO2.out.of (fun b o v hb hc => MW.keep' (by omega) hc)⟩
        · obtain rfl : k = c.clms.length := by omega
          have HG := Lib.hid (HG1.out (List.all_eq_true.2 (fun j hj => HJK.out j (List.mem_range.1 hj)))); obtain ⟨-, TW, MW⟩ := HV.out wo hmm; obtain ⟨hc1, h2, he⟩ := HG.out; have hj9 : J U (cntD c out i) wo := HJ.out U _ W2 wo (by omega) HJ2.out (mm_belr MW); have hy := HY.out U _ h2 wo #[.agg #[.slice ad t.days.length cd, .slice as' t.sown.length cs, .slice at' t.starts.length ct, .int .i64 t.loss], d.v] (by omega) (by have := MW.size; omega) hj9 ⟨_, h2, by rw [he], by rw [he]; exact TW.2, HNW.out.mono hUW2⟩; have HE9 : Hid (cntD c out (i + 1) = cntD c out i + 1) := Lib.hid hc1; have HO9 := Lib.hid (HO2.out.of (w' := wo) (fun b o v hb hc => MW.keep' (by omega) hc)); have HK9 : Hid (KeptU W0.heap.size U W2 wo) := Lib.hid (mm_kept MW (by omega)).toU; obtain ⟨fn, tmps, assign, body, hy, hrd⟩ := hy; simp only [Dmg.v] at hy hrd; clear KW TW MW HG hc1 h2 he hj9; gi_wp2_with ((with_reducible refine (RoundIn.inR _ hrd).mono ?_); rintro e w9 ⟨hk2, ⟨rfl, hI2⟩ | ⟨rfl, hI2⟩⟩)
          · (gi_wp2_with fail); exact ⟨HK9.out.trans (hk2.mono (by omega)), by rw [HE9.out]; exact hI2, HO9.out.kept (n := W.heap.size) hk2 (by omega) (by omega) (by omega)⟩
          · (gi_wp2_with fail); exact ⟨HK9.out.trans (hk2.mono (by omega)), rfl, hI2⟩
  case hdone =>
    rintro U W3 hU ⟨hj, -⟩ hd; (go_wp2_with fail); simp only [Exit.noGoto]; refine ⟨by simp, .inl ⟨_, _, rfl, run_takeDeferred hd, ?_⟩⟩
    exact ⟨_, results_none rfl _ _ _, ⟨_, rfl⟩, U, by omega, .inl (HJ.out U _ _ _ (by omega) hj (belR_put (inv_stl m) (fun k hk => by omega) (by omega) (by omega)))⟩
  case hstop =>
    rintro U cd W3 hU ⟨rfl, hj⟩ hd; (go_wp2_with fail); (try rw [Exit.noGoto_ret])
    refine ⟨by simp, .inl ⟨_, _, rfl, run_takeDeferred hd, ?_⟩⟩
    exact ⟨_, results_none rfl _ _ _, ⟨_, rfl⟩, U, by omega, .inr (HJX.out U _ _ (by omega) hj (belR_put (inv_stl m) (fun k hk => by omega) (by omega) (by omega)))⟩
theorem truthsD_gives (p m b1 b2 : Nat) (A : CaseA) (c : DCas) (vout : Value) (out : List Int) (hS : CasS c) :
    GivesQ (fun k => k = m) (Stl m) 146 #[.pointer (some ⟨b1, 0, none⟩), .pointer (some ⟨b2, 0, none⟩)] (truthsD c out).length (ArgT (truthsD c out)) (KT p m b1 b2 A c vout out) := (truthsD_givesU p m b1 b2 A c vout out hS).toQ (fun U i xs W ⟨v, h, e, ht, _⟩ => ⟨v, h, e, ht⟩)
end Go.Proofs.YtegkdnfeceomdaaGreat
/- Contracts of layer 7: the flags of all counts that a field can have. -/
namespace Go.Hs
open Go.RowKit
section
variable {F : Fence} {n : Nat} {P : Program} {w : World} {ops : Array Oper} {rest : List Oper} {o : Oper} {a : Act} {Q : Exit → Act → World → Prop}
end
theorem results_load {P : Program} {fn : Func} {p : Tmp} {ty : TypeId} (h : fn.results = #[.cell p ty]) (tmps : Array Value) (w : World) (q : Addr) (v : Value) (hp : tmps.getD p undef = .pointer (some q)) (hl : (loadVar ty q).run P w = .ok v w) :
    (results fn tmps).run P w = .ok v w := by
  have hp' : tmps[p]?.getD undef = .pointer (some q) := by simpa using hp
  simp [results, h, hp', asAddr, hl]
def BitsAt (b N : Nat) (g : Nat → Bool) (W : World) : Prop := ∀ j, j < N → W.cell? ⟨b, j, none⟩ = some (.bool (g j))
theorem BitsAt.below {b N n : Nat} {g : Nat → Bool} {w w' : World} (h : BitsAt b N g w) (hx : Below n w w') (hb : b < n) : BitsAt b N g w' := fun j hj => (hx.cell (p := ⟨b, j, none⟩) hb).trans (h j hj)
theorem BitsAt.ext {b N : Nat} {g : Nat → Bool} {w w' : World} (h : BitsAt b N g w) (hx : Ext w w') : BitsAt b N g w' := fun j hj => hx.keep (h j hj)
def bitsV (N : Nat) (g : Nat → Bool) : List Value := (List.range N).map (fun j => .bool (g j))
theorem bitsV_len (N : Nat) (g : Nat → Bool) : (bitsV N g).length = N := by simp [bitsV]
theorem BitsAt.range {b N : Nat} {g : Nat → Bool} {w : World} (h : BitsAt b N g w) : w.rangeAt b 0 (bitsV N g) := fun j v hv => by
  have hj : j < N := by
    have := (List.getElem?_eq_some_iff.1 hv).1; rwa [bitsV_len] at this
  have e : v = .bool (g j) := by simp [bitsV, hj] at hv; exact hv.symm
  subst e; simpa using h j hj
theorem setCell_same (W : World) (a : Addr) (v : Value) (h : W.cell? a = some v) : W.setCell a v = W := by
  obtain ⟨heap, tape, drawn, os, output⟩ := W; unfold World.setCell; simp only [World.mk.injEq, and_true]; apply Array.ext_getElem?
  intro i
  rw [Array.getElem?_modify]; split
  · rename_i e
    subst e; unfold World.cell? at h; simp only at h; cases ho : heap[a.block]? with
    | none => rfl
    | some o =>
      rw [ho] at h; cases o with
      | cells c e f =>
        simp only at h; split at h
        · cases h
        · rename_i hsp
          simp only [Option.map_some, hsp, Bool.false_eq_true, if_false, Option.some.injEq, Obj.cells.injEq, and_true]; apply Array.ext_getElem?
          intro k
          rw [Array.getElem?_setIfInBounds]; split
          · rename_i e; subst e
            split
            · exact h.symm
            · rename_i hlt; rw [Array.getElem?_eq_none (by omega)] at h; cases h
          · rfl
      | _ => cases h
  · rfl
end Go.Hs
/- Contracts of layer 8: whether there is a truth. -/
namespace Go.Hs
open Go.RowKit
structure KB (p m : Nat) (A : CaseA) (c : DCas) (w : World) : Prop where
  box : BoxD p m A c w
  cas : CaseM w A c
  stl : Stl m w
theorem KB.mm {p m : Nat} {A : CaseA} {c : DCas} {w w' : World} (h : KB p m A c w) (k : MM m w w') : KB p m A c w' := ⟨box_mm h.box k h.stl, mm_case h.cas k h.stl, k.stl h.stl⟩
theorem KB.ext {p m : Nat} {A : CaseA} {c : DCas} {w w' : World} (h : KB p m A c w) (k : Ext w w') : KB p m A c w' := h.mm (Ext.mm k)
theorem KB.kt {p m b1 b2 : Nat} {A : CaseA} {c : DCas} {vout : Value} {out : List Int} {w w' : World} (h : KB p m A c w) (hv : IntsV w vout out) (k : MM m w w') (h1 : w'.cell? ⟨b1, 0, none⟩ = some (.pointer (some ⟨p, 0, none⟩))) (h2 : w'.cell? ⟨b2, 0, none⟩ = some vout) : KT p m b1 b2 A c vout out w' :=
  ⟨h1, h2, mm_ints hv k h.stl, box_mm h.box k h.stl, mm_case h.cas k h.stl, k.stl h.stl⟩
theorem mm_bel {m n : Nat} {w a b : World} (h : MM m w a) (k : BelQ (fun k => k = m) (Stl m) n a b) (hn : w.heap.size ≤ n) : MM m w b :=
  ⟨⟨k.os.trans h.kp.os, k.tape.trans h.kp.tape, k.output.trans h.kp.output, Nat.le_trans h.kp.size k.size, fun j hj hq => (k.block j (by omega) hq).trans (h.kp.block j hj hq)⟩, fun q => k.inv (h.stl q)⟩
end Go.Hs
namespace Go.Proofs.YtegkdnfeceomdaaGreat
open Go.RowKit Go.Hs
attribute [local irreducible] World.setCell World.alloc
attribute [local go_sem] Oper.semAt_some
attribute [local simp] wide_fn wide_fn' wide_depth wide_round
attribute [local go_sem] wide_fn wide_fn' wide_depth wide_round
set_option maxHeartbeats 400000 in
theorem truthsF_d (p : Nat) (a : Option Addr) (n q : Nat) (w : World) :
    Calls Tryz.prog 100 #[.pointer (some ⟨p, 0, none⟩), .slice a n q] w fun e w' => e = .returned (.func (.func 146) #[] #[.pointer (some ⟨w.heap.size, 0, none⟩), .pointer (some ⟨w.heap.size + 1, 0, none⟩)]) ∧ w' = (w.alloc (.cells #[.pointer (some ⟨p, 0, none⟩)] 136)).alloc (.cells #[.slice a n q] 22) := by
  go_enter Tryz.func100, Tryz.ntmps100
  (go_wp2_with fail); go_ret; exact ⟨rfl, rfl⟩
set_option maxRecDepth 100000 in
set_option maxHeartbeats 4000000 in
theorem possible_d (p m : Nat) (A : CaseA) (c : DCas) (vout : Value) (out : List Int) (w : World) (hS : CasS c) (hb : KB p m A c w) (hv : IntsV w vout out) :
    Calls Tryz.prog 99 #[.pointer (some ⟨p, 0, none⟩), vout] w fun e w' => e = .returned (.bool (!(truthsD c out).isEmpty)) ∧ MM m w w' := by
  have HGV := Lib.hid (fun b1 b2 => truthsD_gives p m b1 b2 A c vout out hS); have HKT := Lib.hid (fun b1 b2 W' (k : MM m w W') h1 h2 => KB.kt (b1 := b1) (b2 := b2) hb hv k h1 h2); obtain ⟨ao, co, rfl, -⟩ := id hv; have hml : m < w.heap.size := hb.stl.lt; have hst := Lib.hid hb.stl; clear hb hv; refine (callsIn_wide (n := 0)).1 (callsIn_of_wp_marks Tryz.func99 rfl trivial (wpIn_wide.2 ?_) rfl)
  simp only [Tryz.ntmps99, List.size_toArray, List.length_cons, List.length_nil, Nat.reduceAdd, Nat.reduceSub, Array.replicate_succ, Array.replicate_zero, List.push_toArray, List.append_toArray, List.nil_append, List.cons_append]; (go_wp2_with fail); (with_reducible refine (truthsF_d _ _ _ _ _).mono ?_); rintro e w' ⟨rfl, rfl⟩; (go_wp2_with fail); have X0 : Ext w (((w.alloc (.cells #[.bool false] 4)).alloc (.cells #[.pointer (some ⟨p, 0, none⟩)] 136)).alloc (.cells #[.slice ao out.length co] 22)) := by (repeat (first | exact Ext.refl _ | with_reducible (first | assumption | refine Ext.drew ?_ | refine Ext.alloc ?_ _ | refine Ext.drewN ?_ _ | refine Ext.setCell ?_ (by omega) _ | refine Ext.trans ?_ (by assumption))))
  have r0 : (((w.alloc (.cells #[.bool false] 4)).alloc (.cells #[.pointer (some ⟨p, 0, none⟩)] 136)).alloc (.cells #[.slice ao out.length co] 22)).cell? ⟨w.heap.size, 0, none⟩ = some (.bool false) := by simp [go_sem]
  have rf : ∀ o, (((w.alloc (.cells #[.bool false] 4)).alloc (.cells #[.pointer (some ⟨p, 0, none⟩)] 136)).alloc (.cells #[.slice ao out.length co] 22)).frozen? ⟨w.heap.size, o, none⟩ = false := fun o => by simp [go_sem]
  have r1 : (((w.alloc (.cells #[.bool false] 4)).alloc (.cells #[.pointer (some ⟨p, 0, none⟩)] 136)).alloc (.cells #[.slice ao out.length co] 22)).cell? ⟨w.heap.size + 1, 0, none⟩ = some (.pointer (some ⟨p, 0, none⟩)) := by simp [go_sem]
  have r2 : (((w.alloc (.cells #[.bool false] 4)).alloc (.cells #[.pointer (some ⟨p, 0, none⟩)] 136)).alloc (.cells #[.slice ao out.length co] 22)).cell? ⟨w.heap.size + 2, 0, none⟩ = some (.slice ao out.length co) := by simp [go_sem]
  have hz : (((w.alloc (.cells #[.bool false] 4)).alloc (.cells #[.pointer (some ⟨p, 0, none⟩)] 136)).alloc (.cells #[.slice ao out.length co] 22)).heap.size = w.heap.size + 3 := by simp
  rw [show w.heap.size + 1 + 1 = w.heap.size + 2 from rfl]; generalize (((w.alloc (.cells #[.bool false] 4)).alloc (.cells #[.pointer (some ⟨p, 0, none⟩)] 136)).alloc (.cells #[.slice ao out.length co] 22)) = W0 at *; have HZ := Lib.hid hz; have hz0 : w.heap.size + 3 ≤ W0.heap.size ∧ W0.heap.size ≤ w.heap.size + 3 := by omega
  clear hz
  refine each_wpQ (q := fun k => k = m) (I := Stl m) (n := (truthsD c out).length) (Arg := ArgT (truthsD c out)) (K := KT p m (w.heap.size + 1) (w.heap.size + 2) A c (.slice ao out.length co) out) (by rfl) fn_truthsD (fun i xs W' h => by obtain ⟨v, h2, rfl, -⟩ := h; rfl) (inv_stl m) (fun k hk => by omega)
    (fun i W' => i = 0 ∧ MM m w W' ∧ (W'.cell? ⟨w.heap.size, 0, none⟩ = some (.bool false) ∧ (∀ o, W'.frozen? ⟨w.heap.size, o, none⟩ = false)) ∧ W'.cell? ⟨w.heap.size + 1, 0, none⟩ = some (.pointer (some ⟨p, 0, none⟩)) ∧ W'.cell? ⟨w.heap.size + 2, 0, none⟩ = some (.slice ao out.length co))
    (fun cd W' => cd = .ret ∧ (!(truthsD c out).isEmpty) = true ∧ MM m w W' ∧ W'.cell? ⟨w.heap.size, 0, none⟩ = some (.bool true)) (HGV.out _ _) (fun i W' h => HKT.out _ _ W' h.2.1 h.2.2.2.1 h.2.2.2.2)
    (fun i A' B' h hx => ⟨h.1, mm_bel h.2.1 hx (by omega), ⟨hx.cell (by omega) (by omega) h.2.2.1.1, fun o => (hx.frozen (by omega) (by omega)).trans (h.2.2.1.2 o)⟩, hx.cell (by omega) (by omega) h.2.2.2.1, hx.cell (by omega) (by omega) h.2.2.2.2⟩)
    (fun cd A' B' h hx => ⟨h.1, h.2.1, mm_bel h.2.2.1 hx (by omega), hx.cell (by omega) (by omega) h.2.2.2⟩)
    ⟨rfl, Ext.mm X0, ⟨r0, rf⟩, r1, r2⟩ ?hround ?hdone ?hstop
  case hround =>
    intro i hi W1 xs hj harg hrec1 hs
    obtain ⟨v, h2, rfl, -⟩ := harg; obtain ⟨rfl, hmm, ⟨r0, rf⟩, r1, r2⟩ := hj; simp only [Array.zip_eq_zipWith]; (gi_wp2_with fail); refine ⟨Kept.refl _ _, fun W2 hT hrec => ?_⟩
    have BA : BelQ (fun k => k = m) (Stl m) W0.heap.size W1 W2 := (below_toQ (hT.below (Nat.le_refl _)) (inv_stl m) (fun k hk => by omega)).mono (by omega); have M2 := mm_bel hmm BA (by omega); have q0 : W2.cell? ⟨w.heap.size, 0, none⟩ = some (.bool false) := BA.cell (by omega) (by omega) r0; have qf : ∀ o, W2.frozen? ⟨w.heap.size, o, none⟩ = false := fun o => (BA.frozen (by omega) (by omega)).trans (rf o)
    have HNE : Hid ((!(truthsD c out).isEmpty) = true) := Lib.hid (by
      cases ht : truthsD c out with
      | nil => rw [ht] at hi; exact absurd hi (Nat.not_lt_zero _)
      | cons x y => rfl)
    clear hmm r0 rf r1 r2 hT BA; (gi_wp2_with fail); exact ⟨⟨by rw [World.size_setCell]; exact Nat.le_refl _, fun q hq1 hq2 => Below.heap_setCell _ _ _ _ (show q ≠ w.heap.size by omega)⟩, rfl, HNE.out, M2.setCell (Nat.le_refl _) hst.out _, World.cell?_setCell_same _ _ _ q0⟩
  case hdone =>
    rintro W3 ⟨h0, hmm, ⟨ci, hfr⟩, -, -⟩ hd; have HM : Hid ((!(truthsD c out).isEmpty) = false) := Lib.hid (by rw [List.length_eq_zero_iff.1 h0]; rfl); have BT : BelQ (fun k => k = m) (Stl m) W0.heap.size W3 (W3.putObj W0.heap.size (.deferred none)) := below_toQ ((Turned.put W3 W0.heap.size (.deferred none)).below (Nat.le_refl _)) (inv_stl m) (fun k hk => by omega); have hXX := Lib.hid (mm_bel hmm BT (by omega)); have hc2 : (W3.putObj W0.heap.size (.deferred none)).cell? ⟨w.heap.size, 0, none⟩ = some (.bool false) := BT.cell (by omega) (by omega) ci; have hlv : (loadVar 4 ⟨w.heap.size, 0, none⟩).run Tryz.prog (W3.putObj W0.heap.size (.deferred none)) = .ok (.bool false) (W3.putObj W0.heap.size (.deferred none)) := by simp [go_sem, hc2]
    have hsame := setCell_same W3 _ _ ci; clear hmm BT h0 hc2; (go_wp2_with fail); refine ⟨by simp, .inl ⟨_, _, rfl, run_takeDeferred hd, ?_⟩⟩
    exact ⟨_, results_load rfl _ _ _ _ rfl hlv, congrArg (fun z => Ending.returned (.bool z)) HM.out.symm, hXX.out⟩
  case hstop =>
    rintro cd W3 ⟨rfl, hne, hmm, ci⟩ hd; have HM := Lib.hid hne; have BT : BelQ (fun k => k = m) (Stl m) W0.heap.size W3 (W3.putObj W0.heap.size (.deferred none)) := below_toQ ((Turned.put W3 W0.heap.size (.deferred none)).below (Nat.le_refl _)) (inv_stl m) (fun k hk => by omega); have hXX := Lib.hid (mm_bel hmm BT (by omega)); have hc2 : (W3.putObj W0.heap.size (.deferred none)).cell? ⟨w.heap.size, 0, none⟩ = some (.bool true) := BT.cell (by omega) (by omega) ci; have hlv : (loadVar 4 ⟨w.heap.size, 0, none⟩).run Tryz.prog (W3.putObj W0.heap.size (.deferred none)) = .ok (.bool true) (W3.putObj W0.heap.size (.deferred none)) := by simp [go_sem, hc2]
    clear hmm BT hne hc2; (go_wp2_with fail); refine ⟨by simp, .inl ⟨_, _, rfl, run_takeDeferred hd, ?_⟩⟩
    exact ⟨_, results_load rfl _ _ _ _ rfl hlv, congrArg (fun z => Ending.returned (.bool z)) HM.out.symm, hXX.out⟩
end Go.Proofs.YtegkdnfeceomdaaGreat
/- Contracts of layer 8: a case at work whose book has a truth, or the error. -/
namespace Go.Hs
open Go.RowKit
def everyI (n : Nat) : List Int := (List.range n).map (fun i : Nat => (i : Int))
theorem everyI_len (n : Nat) : (everyI n).length = n := by simp [everyI]
theorem everyI_next (n : Nat) : everyI (n + 1) = everyI n ++ [(n : Int)] := by simp [everyI, List.range_succ]
def askD (c : DCas) (fb : Bool) : Int := if caseD c ≠ 0 then caseD c else if fb then (if (truthsD c (everyI c.clms.length)).isEmpty then 9 else 0) else 2
theorem askD_zero {c : DCas} {fb : Bool} (h : askD c fb = 0) : caseD c = 0 ∧ fb = true ∧ (truthsD c (everyI c.clms.length)).isEmpty = false := by
  unfold askD at h; split at h
  · exact absurd h ‹_›
  · rename_i h0
    split at h
    · split at h
      · cases h
      · rename_i h1 h2
        exact ⟨by omega, h1, by simpa using h2⟩
    · cases h
theorem WkD.kb {W0 w : World} {p m : Nat} {A : CaseA} {c : DCas} (h : WkD W0 p m A c w) (hc : CaseM W0 A c) : KB p m A c w := ⟨h.cells, hc.ext h.ext, h.stl⟩
end Go.Hs
namespace Go.Proofs.YtegkdnfeceomdaaGreat
open Go.RowKit Go.Hs
attribute [local irreducible] World.setCell World.alloc
def AskQ (A : CaseA) (c : DCas) (fb : Bool) (w : World) (e : Ending) (w' : World) : Prop :=
  (askD c fb ≠ 0 → e = .returned (.tuple #[.pointer none, .int .i64 (askD c fb)])) ∧ (askD c fb = 0 → ∃ p m, e = .returned (.tuple #[.pointer (some ⟨p, 0, none⟩), .int .i64 0]) ∧ WkD w p m A c w') ∧ Ext w w'
theorem askQ_no {A : CaseA} {c : DCas} {fb : Bool} {w w' : World} {r : Int} (h : askD c fb = r) (h0 : r ≠ 0) (hx : Ext w w') : AskQ A c fb w (.returned (.tuple #[.pointer none, .int .i64 r])) w' :=
  ⟨fun _ => by rw [h], fun e => absurd (h.symm.trans e) h0, hx⟩
set_option maxRecDepth 100000 in
set_option maxHeartbeats 4000000 in
theorem asked_d (A : CaseA) (c : DCas) (w : World) (hm : CaseM w A c) (F : FuncId) (caps : Array Value) (fb : Bool) (hF : FnOK F) (hf : caseD c = 0 → ∀ W, Ext w W → Calls Tryz.prog F caps W fun e w' => e = .returned (.bool fb) ∧ Ext W w') :
    Calls Tryz.prog 89 #[A.v c, .func (.func F) #[] caps] w (AskQ A c fb w) := by
  obtain ⟨i0, hi0, hz0, hz1, hz2⟩ := info_parts info_int; have HCK := Lib.hid (fun W (hx : Ext w W) => checkC_d A c W (hm.ext hx)); have HF := Lib.hid hf; have HWK := Lib.hid (fun W (hx : Ext w W) => work_d w A c W hx); have HPO : Hid (caseD c = 0 → ∀ p m W v, WkD w p m A c W → IntsV W v (everyI c.clms.length) → Calls Tryz.prog 99 #[.pointer (some ⟨p, 0, none⟩), v] W fun e w' => e = .returned (.bool (!(truthsD c (everyI c.clms.length)).isEmpty)) ∧ MM m W w') := Lib.hid (fun h0 p m W v hk hv => possible_d p m A c v (everyI c.clms.length) W (caseD_zero h0).2.1 (hk.kb hm) hv); have HE1 : Hid (∀ r, caseD c = r → r ≠ 0 → askD c fb = r) := Lib.hid (fun r h h0 => by unfold askD; rw [h, if_pos h0]); have HE2 : Hid (caseD c = 0 → fb = false → askD c fb = 2) := Lib.hid (fun h h0 => by unfold askD; rw [h, h0]; rfl)
  have HE3 : Hid (caseD c = 0 → fb = true → ∀ b, (!(truthsD c (everyI c.clms.length)).isEmpty) = b → askD c fb = if b then 0 else 9) := Lib.hid (fun h h0 b hb => by
    unfold askD; rw [h, h0, ← hb]; cases (truthsD c (everyI c.clms.length)).isEmpty <;> rfl)
  have hl4 := hm.l4.2; clear hf hm; unfold FnOK at hF; generalize hce : caseD c = ce at *; have HCE := Lib.hid hce; clear hce; obtain ⟨tb, htb⟩ : ∃ tb, tb = !(truthsD c (everyI c.clms.length)).isEmpty := ⟨_, rfl⟩; rw [← htb] at HPO HE3; have HQ : Hid (∀ p m W, WkD w p m A c W → askD c fb = 0 → AskQ A c fb w (.returned (.tuple #[.pointer (some ⟨p, 0, none⟩), .int .i64 0])) W) := Lib.hid (fun p m W hk h0 => ⟨fun h => absurd h0 h, fun _ => ⟨p, m, rfl, hk⟩, hk.ext⟩); clear htb; obtain ⟨a1, c1, a2, c2, a3, c3, a4, c4⟩ := A; unfold CaseA.v caseV at *; simp only at *; generalize hn : c.clms.length = n4 at *; clear hn; generalize c.bk.pars.length = n1 at *; generalize c.bk.ents.length = n2 at *; generalize c.covs.length = n3 at *; generalize c.bk.last = last at *; generalize c.bk.owners = owners at *; generalize c.soc = soc at *; generalize c.day = day at *; generalize c.parcel = parcel at *; generalize c.llo = llo at *; generalize c.lhi = lhi at *; go_enter Tryz.func89, Tryz.ntmps89
  (go_wp2_with fail); obtain ⟨W0, hW⟩ : ∃ W, W = (w.alloc (.cells #[.int .i64 last, .int .i64 owners, .slice a1 n1 c1, .slice a2 n2 c2, .int .i64 soc, .int .i64 day, .int .i64 parcel, .slice a3 n3 c3, .int .i64 llo, .int .i64 lhi, .slice a4 n4 c4] 57)) := ⟨_, rfl⟩; have X : Ext w W0 := by subst hW; (repeat (first | exact Ext.refl _ | with_reducible (first | assumption | refine Ext.drew ?_ | refine Ext.alloc ?_ _ | refine Ext.drewN ?_ _ | refine Ext.setCell ?_ (by omega) _ | refine Ext.trans ?_ (by assumption))))
  have HS : Hid (∀ w', Ext W0 w' → (w'.cell? ⟨w.heap.size, 0, none⟩ = some (.int .i64 last) ∧ w'.cell? ⟨w.heap.size, 1, none⟩ = some (.int .i64 owners) ∧ w'.cell? ⟨w.heap.size, 2, none⟩ = some (.slice a1 n1 c1) ∧ w'.cell? ⟨w.heap.size, 3, none⟩ = some (.slice a2 n2 c2) ∧ w'.cell? ⟨w.heap.size, 4, none⟩ = some (.int .i64 soc) ∧ w'.cell? ⟨w.heap.size, 5, none⟩ = some (.int .i64 day) ∧ w'.cell? ⟨w.heap.size, 6, none⟩ = some (.int .i64 parcel) ∧ w'.cell? ⟨w.heap.size, 7, none⟩ = some (.slice a3 n3 c3) ∧ w'.cell? ⟨w.heap.size, 8, none⟩ = some (.int .i64 llo) ∧ w'.cell? ⟨w.heap.size, 9, none⟩ = some (.int .i64 lhi) ∧ w'.cell? ⟨w.heap.size, 10, none⟩ = some (.slice a4 n4 c4)) ∧ Ext W0 w') := Lib.hid (fun w' hx => ⟨⟨hx.keep (by subst hW; simp [go_sem]), hx.keep (by subst hW; simp [go_sem]), hx.keep (by subst hW; simp [go_sem]), hx.keep (by subst hW; simp [go_sem]), hx.keep (by subst hW; simp [go_sem]), hx.keep (by subst hW; simp [go_sem]), hx.keep (by subst hW; simp [go_sem]), hx.keep (by subst hW; simp [go_sem]), hx.keep (by subst hW; simp [go_sem]), hx.keep (by subst hW; simp [go_sem]), hx.keep (by subst hW; simp [go_sem])⟩, hx⟩); have HSf : Hid (∀ w', Ext W0 w' → ∀ o, w'.frozen? ⟨w.heap.size, o, none⟩ = false) := Lib.hid (fun w' hx o => (hx.frozen (by subst hW; simp)).trans (by subst hW; simp [go_sem])); have HSz : w.heap.size + 1 ≤ W0.heap.size := by subst hW; simp
  rw [← hW]; clear hW; (with_reducible refine (HCK.out _ X).mono ?_); rintro e w1 ⟨rfl, hx1⟩; obtain ⟨⟨q0, q1, q2, q3, q4, q5, q6, q7, q8, q9, q10⟩, -⟩ := HS.out w1 hx1; have X1 := X.trans hx1; by_cases h0 : ce = 0
  · have hb : (ce != 0) = false := by rw [h0]; rfl
    have H0 := Lib.hid h0; have HPO2 := Lib.hid (HPO.out h0); have HE22 := Lib.hid (HE2.out h0); have HE32 := Lib.hid (HE3.out h0); clear h0 HPO HE2 HE3 HE1 HCK; (go_wp2_with fail); (with_reducible refine (HF.out H0.out _ X1).mono ?_); rintro e w2 ⟨rfl, hx2⟩; have X2 := X1.trans hx2; replace hx1 := hx1.trans hx2; cases fb with
    | false =>
      have HR := Lib.hid (HE22.out rfl); clear HE22 HE32 HPO2 q0 q1 q2 q3 q4 q5 q6 q7 q8 q9 q10 hx2; (go_wp2_with fail); go_ret2; exact askQ_no HR.out (by decide) X2
    | true =>
      have HR := Lib.hid (HE32.out rfl); clear HE22 HE32 q0 q1 q2 q3 q4 q5 q6 q7 q8 q9 q10 hx2 HF; obtain ⟨⟨q0, q1, q2, q3, q4, q5, q6, q7, q8, q9, q10⟩, -⟩ := HS.out w2 hx1; (go_wp2_with fail); go_loopw [7, 23] (fun s7 s23 wr => ∃ (k m : Nat) (a5 : Option Addr) (cq : Nat), k ≤ n4 ∧ m = k ∧ s23 = .int .i64 k ∧ s7 = .slice a5 m cq ∧ Hid (wr.ownsRow w2.heap.size 3 1 (.slice a5 m cq) m ((everyI k).map (.int .i64))) ∧ Ext w2 wr) (fun _ s _ => n4 - (intOf s).toNat)
      case atStart => exact ⟨0, 0, none, 0, Nat.zero_le _, rfl, rfl, rfl, Lib.hid (World.ownsRow_nil _ _ _ _), Ext.refl _⟩
      case round =>
        obtain ⟨k, m, a5, cq, hk, hmk, rfl, rfl, HO, hx⟩ := hrel; obtain ⟨wo, rfl⟩ : ∃ x, x = wr := ⟨_, rfl⟩; by_cases hlt : k < n4
        · have hk0 : (0 : Int) ≤ (k : Int) := by omega
          have hk1 : (k : Int) < (n4 : Int) := by omega
          have HM := Lib.hid hmk; have HNX : Hid ((everyI (k + 1)).map (Value.int .i64) = (everyI k).map (.int .i64) ++ [.int .i64 (k : Int)]) := Lib.hid (by rw [everyI_next, List.map_append]; rfl); have hml : m ≤ 1000 := by omega
          have hsz : w2.heap.size ≤ wo.heap.size := hx.size; clear hmk q0 q1 q2 q3 q4 q5 q6 q7 q8 q9 q10; go_wp2_with (at_builtin; refine wpList_append_own_at _ rfl _ _ 22 rfl w2.heap.size 3 i0 (.int .i64 0) 1 8 Tryz.underlying22 hi0 hz0 hz1 hz2 rfl (by decide) (.slice a5 m cq) m ((everyI k).map (.int .i64)) rfl ?own ⟨wo.heap.size, 0, none⟩ 1 1 [.int .i64 (k : Int)] rfl rfl (one_inN (Ext.refl _) rfl) ?one ?f1 ?f2 ?f3 ?next)
          case own => exact own_extR HO.out (by (repeat (first | exact Ext.refl _ | with_reducible (first | assumption | refine Ext.drew ?_ | refine Ext.alloc ?_ _ | refine Ext.drewN ?_ _ | refine Ext.setCell ?_ (by omega) _ | refine Ext.trans ?_ (by assumption)))))
          case one => intro u hu; simp only [List.mem_cons, List.not_mem_nil, or_false] at hu; rw [hu]; rfl
          case f1 => simp only [maxLen]; omega
          case f2 => omega
          case f3 => simp; omega
          case next =>
            intro v' w7 hown hgrow hnil hat
            have hx7 : Ext w2 w7 := grown_ext (hx.trans (by (repeat (first | exact Ext.refl _ | with_reducible (first | assumption | refine Ext.drew ?_ | refine Ext.alloc ?_ _ | refine Ext.drewN ?_ _ | refine Ext.setCell ?_ (by omega) _ | refine Ext.trans ?_ (by assumption)))))) hgrow (fun g hg => (own_lt HO.out hg).1); have HUR : Hid (w7.ownsRow w2.heap.size 3 1 v' (m + 1) ((everyI (k + 1)).map (.int .i64))) := Lib.hid (by rw [HNX.out]; exact hown); rcases own_open hown with ⟨-, h0⟩ | ⟨g', cap, rfl, -, -, -, -⟩
            · omega
            · clear hnil hat hgrow hown; (go_wp2_with fail); go_roundw
              case rel => exact ⟨k + 1, m + 1, _, _, by omega, by rw [HM.out], by go_num, rfl, HUR, hx7⟩
              case measure => simp [intOf]; omega
        · obtain rfl : k = n4 := by omega
          obtain ⟨⟨q0, q1, q2, q3, q4, q5, q6, q7, q8, q9, q10⟩, -⟩ := HS.out wo (hx1.trans hx)
          have HIV : Hid (IntsV wo (.slice a5 m cq) (everyI k)) := Lib.hid (own_intsV HO.out rfl (by rw [hmk, everyI_len]) (fun x hx => by
            obtain ⟨i, hi, rfl⟩ := List.mem_map.1 hx; have := List.mem_range.1 hi; unfold i64ok; omega) (by rw [everyI_len]; exact hl4))
          have X3 := X2.trans hx; have HM := Lib.hid hmk; clear hmk HO; (go_wp2_with fail); (with_reducible refine (HWK.out _ X3).mono ?_); rintro e w4 ⟨p, mm, rfl, hwk, hx4⟩; have HWD := Lib.hid hwk; have HIV4 := Lib.hid (HIV.out.ext hx4); clear hwk q0 q1 q2 q3 q4 q5 q6 q7 q8 q9 q10 HS; (go_wp2_with fail); (with_reducible refine (HPO2.out p mm w4 _ HWD.out HIV4.out).mono ?_); rintro e w5 ⟨rfl, hm5⟩; have HW5 := Lib.hid (HWD.out.mm hm5); cases tb with
          | true =>
            have HR2 := Lib.hid (HR.out true rfl); (go_wp2_with fail); go_ret2; exact HQ.out p mm w5 HW5.out (by rw [HR2.out]; rfl)
          | false =>
            have HR2 := Lib.hid (HR.out false rfl); (go_wp2_with fail); go_ret2; exact askQ_no (by rw [HR2.out]; rfl) (by decide) HW5.out.ext
  · have hb : (ce != 0) = true := by rw [bne_iff_ne]; exact h0
    have HR := Lib.hid (HE1.out ce rfl h0); have HN := Lib.hid h0; clear h0 HE1 HE2 HE3 HPO HCK HF; (go_wp2_with fail); go_ret2; exact askQ_no HR.out HN.out X1
end Go.Proofs.YtegkdnfeceomdaaGreat
/- Contracts of layer 8: Settle. -/
namespace Go.Hs
open Go.RowKit
def sumOK (n : Int) : Bool := inR n 0 5000
def settleE (amount : Int) (sums : List Int) : Int := if 3 < sums.length then 3 else if inR amount 0 1000 && (!decide (sums.length = 0) && sums.all sumOK) then 0 else 1
def padS (sums : List Int) (k j : Nat) : Int := if j < k then sums.getD j 0 else 0
theorem settleE_zero {amount : Int} {sums : List Int} (h : settleE amount sums = 0) : sums.length ≤ 3 ∧ sums ≠ [] ∧ (0 ≤ amount ∧ amount ≤ 1000) ∧ ∀ x ∈ sums, 0 ≤ x ∧ x ≤ 5000 := by
  unfold settleE at h; split at h
  · cases h
  · split at h
    · rename_i h3 hq
      simp only [Bool.and_eq_true, inR_iff, Bool.not_eq_true', decide_eq_false_iff_not, List.all_eq_true, sumOK] at hq; exact ⟨by omega, fun e => hq.2.1 (by rw [e]; rfl), hq.1, hq.2.2⟩
    · cases h
theorem settle_pad {amount : Int} {sums : List Int} (h3 : sums.length ≤ 3) : settleL amount sums = [(settle3 amount (padS sums 3 0) (padS sums 3 1) (padS sums 3 2)).1, (settle3 amount (padS sums 3 0) (padS sums 3 1) (padS sums 3 2)).2.1, (settle3 amount (padS sums 3 0) (padS sums 3 1) (padS sums 3 2)).2.2].take sums.length := by
  rcases sums with _ | ⟨a, _ | ⟨b, _ | ⟨c, _ | ⟨d, r⟩⟩⟩⟩
  · simp [settleL, settleGo]
  · simp only [padS, settle3, settleL, sumI]; by_cases h : a ≤ amount <;> simp [h, settleGo]
  · simp only [padS, settle3, settleL, sumI]; by_cases h : a + b ≤ amount <;> simp [h, settleGo]
  · simp only [padS, settle3, settleL, sumI]; by_cases h : a + b + c ≤ amount <;> simp [h, settleGo]
  · simp at h3
end Go.Hs
namespace Go.Proofs.YtegkdnfeceomdaaGreat
open Go.RowKit Go.Hs
attribute [local irreducible] World.setCell World.alloc
theorem fn_settle1 : FnOK 64 := fun args w => by simp [go_sem]
set_option maxHeartbeats 400000 in
theorem settle1_s (n : Int) (w : World) : Calls Tryz.prog 64 #[.int .i64 n] w fun e w' => e = .returned (.bool (sumOK n)) ∧ Ext w w' := by
  have HW := Lib.hid (within_d n 0 5000); unfold sumOK; generalize inR n 0 5000 = r at *; have XX : Ext w w := Ext.refl w; go_enter Tryz.func64, Tryz.ntmps64
  (go_wp2_with fail); (with_reducible refine (HW.out _).mono ?_); rintro e w1 ⟨rfl, hx⟩; have hy : Ext w w1 := by (repeat (first | exact Ext.refl _ | with_reducible (first | assumption | refine Ext.drew ?_ | refine Ext.alloc ?_ _ | refine Ext.drewN ?_ _ | refine Ext.setCell ?_ (by omega) _ | refine Ext.trans ?_ (by assumption))))
  replace XX := XX.trans hy; clear hx hy; (go_wp2_with fail); go_ret; exact ⟨rfl, XX⟩
theorem allsums (a : Option Addr) (k : Nat) (sums : List Int) (w : World) (hr : Cells1 w a (sums.map (.int .i64))) (hl : sums.length ≤ 1000) :
    Calls Tryz.prog 63 #[.slice a sums.length k, .func (.func 64) #[] #[]] w fun e w' => e = .returned (.bool (sums.all sumOK)) ∧ Ext w w' := by
  have h := allx_dint 64 fn_settle1 #[] #[] a k (sums.map (.int .i64)) (fun i => sumOK (sums.getD i default)) w (by simp; omega) hr
    (fun i hi w1 hx => by
      have hi' : i < sums.length := by simpa using hi
      have e1 : (sums.map (Value.int .i64))[i] = .int .i64 sums[i] := by simp
      rw [e1]; refine (settle1_s sums[i] w1).mono ?_
      rintro e w2 ⟨rfl, h2⟩; exact ⟨ret_bool (by simp [hi']), h2⟩)
  rw [List.length_map, all_list] at h; exact h
theorem ints_cells {w : World} {a : Option Addr} {xs : List Int} (h : Hs.Rows IntAt 1 w a xs) : Cells1 w a (xs.map (.int .i64)) := fun i hi => by
  obtain ⟨b, off, e, hc, -⟩ := h i (by simpa using hi); rw [Nat.mul_one] at hc; exact ⟨b, off, e, by simpa using hc⟩
set_option maxRecDepth 100000 in
set_option maxHeartbeats 4000000 in
theorem Settle_bad (amount : Int) (v : Value) (sums : List Int) (w : World) (hv : IntsV w v sums) (hl : sums.length ≤ 1000) (h : settleE amount sums ≠ 0) :
    Calls Tryz.prog 19 #[.int .i64 amount, v] w fun e w' => e = .returned (.tuple #[.slice none 0 0, .int .i64 (settleE amount sums)]) ∧ Ext w w' := by
  have HE : Hid (settleE amount sums = if 3 < sums.length then 3 else if inR amount 0 1000 && (!decide (sums.length = 0) && sums.all sumOK) then 0 else 1) := rfl; have HW := Lib.hid (within_d amount 0 1000); obtain ⟨a, k, rfl, h1, h2, hr⟩ := hv; have HAL : Hid (∀ W, Ext w W → Calls Tryz.prog 63 #[.slice a sums.length k, .func (.func 64) #[] #[]] W fun e w' => e = .returned (.bool (sums.all sumOK)) ∧ Ext W w') := Lib.hid (fun W hx => allsums a k sums W ((ints_cells hr).ext hx) hl); clear hr; have XX : Ext w w := Ext.refl w; generalize settleE amount sums = r at *; generalize inR amount 0 1000 = b1 at *; generalize sums.all sumOK = b2 at *; generalize sums.length = n at *; by_cases h3 : 3 < n
  · obtain rfl : r = 3 := by rw [HE.out, if_pos h3]
    have hd : decide ((3 : Int) < (n : Int)) = true := decide_eq_true (by omega); clear HE h; go_enter Tryz.func19, Tryz.ntmps19
    (go_wp2_with fail); go_ret2; exact ⟨rfl, by (repeat (first | exact Ext.refl _ | with_reducible (first | assumption | refine Ext.drew ?_ | refine Ext.alloc ?_ _ | refine Ext.drewN ?_ _ | refine Ext.setCell ?_ (by omega) _ | refine Ext.trans ?_ (by assumption))))⟩
  · have hd : decide ((3 : Int) < (n : Int)) = false := decide_eq_false (by omega); have HE2 : Hid (r = if b1 && (!decide (n = 0) && b2) then 0 else 1) := Lib.hid (by rw [HE.out, if_neg h3]); clear HE; cases b1 with
    | false =>
      obtain rfl : r = 1 := HE2.out; clear HE2 h; go_enter Tryz.func19, Tryz.ntmps19
      (go_wp2_with fail); (with_reducible refine (HW.out _).mono ?_); rintro e w1 ⟨rfl, hx⟩; have hy : Ext w w1 := by (repeat (first | exact Ext.refl _ | with_reducible (first | assumption | refine Ext.drew ?_ | refine Ext.alloc ?_ _ | refine Ext.drewN ?_ _ | refine Ext.setCell ?_ (by omega) _ | refine Ext.trans ?_ (by assumption))))
      replace XX := XX.trans hy; clear hx hy; (go_wp2_with fail); go_ret2; exact ⟨rfl, by (repeat (first | exact Ext.refl _ | with_reducible (first | assumption | refine Ext.drew ?_ | refine Ext.alloc ?_ _ | refine Ext.drewN ?_ _ | refine Ext.setCell ?_ (by omega) _ | refine Ext.trans ?_ (by assumption))))⟩
    | true =>
      by_cases h0 : n = 0
      · obtain rfl : r = 1 := by rw [HE2.out, h0]; rfl
        have hz : ((n : Int) == 0) = true := by rw [beq_iff_eq]; omega
        have H0 := Lib.hid h0; clear HE2 h h0; go_enter Tryz.func19, Tryz.ntmps19
        (go_wp2_with fail); (with_reducible refine (HW.out _).mono ?_); rintro e w1 ⟨rfl, hx⟩; have hy : Ext w w1 := by (repeat (first | exact Ext.refl _ | with_reducible (first | assumption | refine Ext.drew ?_ | refine Ext.alloc ?_ _ | refine Ext.drewN ?_ _ | refine Ext.setCell ?_ (by omega) _ | refine Ext.trans ?_ (by assumption))))
        replace XX := XX.trans hy; clear hx hy; (go_wp2_with fail); go_ret2; exact ⟨rfl, by (repeat (first | exact Ext.refl _ | with_reducible (first | assumption | refine Ext.drew ?_ | refine Ext.alloc ?_ _ | refine Ext.drewN ?_ _ | refine Ext.setCell ?_ (by omega) _ | refine Ext.trans ?_ (by assumption))))⟩
      · have hz : ((n : Int) == 0) = false := by rw [beq_eq_false_iff_ne]; omega
        have hz' : ¬ (n : Int) = 0 := by omega
        cases b2 with
        | true => exact absurd (by rw [HE2.out, decide_eq_false h0]; rfl) h
        | false =>
          obtain rfl : r = 1 := by rw [HE2.out, decide_eq_false h0]; rfl
          clear HE2 h; go_enter Tryz.func19, Tryz.ntmps19
          (go_wp2_with fail); (with_reducible refine (HW.out _).mono ?_); rintro e w1 ⟨rfl, hx⟩; have hy : Ext w w1 := by (repeat (first | exact Ext.refl _ | with_reducible (first | assumption | refine Ext.drew ?_ | refine Ext.alloc ?_ _ | refine Ext.drewN ?_ _ | refine Ext.setCell ?_ (by omega) _ | refine Ext.trans ?_ (by assumption))))
          replace XX := XX.trans hy; clear hx hy; (go_wp2_with fail); (with_reducible refine (HAL.out _ (by (repeat (first | exact Ext.refl _ | with_reducible (first | assumption | refine Ext.drew ?_ | refine Ext.alloc ?_ _ | refine Ext.drewN ?_ _ | refine Ext.setCell ?_ (by omega) _ | refine Ext.trans ?_ (by assumption)))))).mono ?_); rintro e w2 ⟨rfl, hx⟩; have hy : Ext w1 w2 := by (repeat (first | exact Ext.refl _ | with_reducible (first | assumption | refine Ext.drew ?_ | refine Ext.alloc ?_ _ | refine Ext.drewN ?_ _ | refine Ext.setCell ?_ (by omega) _ | refine Ext.trans ?_ (by assumption))))
          replace XX := XX.trans hy; clear hx hy; (go_wp2_with fail); go_ret2; exact ⟨rfl, by (repeat (first | exact Ext.refl _ | with_reducible (first | assumption | refine Ext.drew ?_ | refine Ext.alloc ?_ _ | refine Ext.drewN ?_ _ | refine Ext.setCell ?_ (by omega) _ | refine Ext.trans ?_ (by assumption))))⟩
theorem ownRow_down {w : World} {B D e k n : Nat} {v : Value} {us : List Value} (h : w.ownsRow B e k v n us) (hd : D ≤ B) : w.ownsRow D e k v n us := by
  refine ⟨h.1, ?_⟩
  rcases h.2 with h | ⟨g, cap, cur, h1, h2, h3⟩
  · exact .inl h
  · exact .inr ⟨g, cap, cur, h1, Nat.le_trans hd h2, h3⟩
theorem settle3_le {amount a b c : Int} (hm : 0 ≤ amount) (ha : 0 ≤ a ∧ a ≤ 5000) (hb : 0 ≤ b ∧ b ≤ 5000) (hc : 0 ≤ c ∧ c ≤ 5000) : (0 ≤ (settle3 amount a b c).1 ∧ (settle3 amount a b c).1 ≤ 5000) ∧ (0 ≤ (settle3 amount a b c).2.1 ∧ (settle3 amount a b c).2.1 ≤ 5000) ∧ 0 ≤ (settle3 amount a b c).2.2 ∧ (settle3 amount a b c).2.2 ≤ 5000 := by
  have H := (settleL_ok (l := [a, b, c]) hm (by intro x hx; simp at hx; omega)).1; rw [settle3_eq] at H; have h0 := H 0 _ _ rfl rfl; have h1 := H 1 _ _ rfl rfl; have h2 := H 2 _ _ rfl rfl; omega
theorem padS_next {sums : List Int} {k j : Nat} (h : j ≠ k) : padS sums (k + 1) j = padS sums k j := by
  unfold padS; by_cases l : j < k
  · rw [if_pos l, if_pos (by omega)]
  · rw [if_neg l, if_neg (by omega)]
theorem padS_here {sums : List Int} {k : Nat} : padS sums (k + 1) k = sums.getD k 0 := by
  unfold padS; rw [if_pos (by omega)]
theorem padS_all {sums : List Int} {k j : Nat} (h : sums.length ≤ k) (hk : k ≤ 3) (_ : j < 3) : padS sums k j = padS sums 3 j := by
  unfold padS; by_cases l : j < k
  · rw [if_pos l, if_pos (by omega)]
  · rw [if_neg l]; by_cases m : j < 3
    · rw [if_pos m]; simp [List.getD, List.getElem?_eq_none (show sums.length ≤ j by omega)]
    · rw [if_neg m]
set_option maxRecDepth 100000 in
set_option maxHeartbeats 4000000 in
theorem Settle_good (amount : Int) (v : Value) (sums : List Int) (w : World) (hv : IntsV w v sums) (h : settleE amount sums = 0) :
    Calls Tryz.prog 19 #[.int .i64 amount, v] w fun e w' => ∃ v', e = .returned (.tuple #[v', .int .i64 0]) ∧ w'.ownsRow w.heap.size 3 1 v' sums.length ((settleL amount sums).map (.int .i64)) ∧ Ext w w' := by
  obtain ⟨h3, hne, hm, hs⟩ := settleE_zero h; have hlen : sums.length ≠ 0 := fun e => hne (List.eq_nil_of_length_eq_zero e)
  have hall : sums.all sumOK = true := List.all_eq_true.2 (fun x hx => inR_iff.2 (hs x hx)); have HW := Lib.hid (within_d amount 0 1000); rw [inR_iff.2 hm] at HW; obtain ⟨a, k, rfl, h1, h2, hr⟩ := hv; have HAL : Hid (∀ W, Ext w W → Calls Tryz.prog 63 #[.slice a sums.length k, .func (.func 64) #[] #[]] W fun e w' => e = .returned (.bool true) ∧ Ext W w') := Lib.hid (fun W hx => hall ▸ allsums a k sums W ((ints_cells hr).ext hx) (by omega))
  have HR : Hid (∀ i, i < sums.length → ∃ b off, a = some ⟨b, off, none⟩ ∧ ∀ W, Ext w W → W.cell? ⟨b, off + i, none⟩ = some (.int .i64 (sums.getD i 0))) := Lib.hid (fun i hi => by
    obtain ⟨b, off, e, hc, -⟩ := hr i hi; rw [Nat.mul_one] at hc; exact ⟨b, off, e, fun W hx => hx.keep (by rw [hc]; simp [hi])⟩)
  have hpd : ∀ k j, 0 ≤ padS sums k j ∧ padS sums k j ≤ 5000 := fun k j => by
    unfold padS; split
    · by_cases l : j < sums.length
      · have := hs sums[j] (List.getElem_mem l); simp [l]; omega
      · simp [List.getD, List.getElem?_eq_none (show sums.length ≤ j by omega)]
    · omega
  have HST : Hid (∀ W, Calls Tryz.prog 65 #[sh3 (padS sums 3 0) (padS sums 3 1) (padS sums 3 2), .int .i64 amount] W fun e w' => e = .returned (sh3 (settle3 amount (padS sums 3 0) (padS sums 3 1) (padS sums 3 2)).1 (settle3 amount (padS sums 3 0) (padS sums 3 1) (padS sums 3 2)).2.1 (settle3 amount (padS sums 3 0) (padS sums 3 1) (padS sums 3 2)).2.2) ∧ Ext W w') := Lib.hid (fun W => settle_s _ _ _ amount W (hpd 3 0) (hpd 3 1) (hpd 3 2) hm); have HSP := Lib.hid (settle_pad (amount := amount) h3); have HPN := Lib.hid (fun k j (h : j ≠ k) => padS_next (sums := sums) h); have HPH := Lib.hid (fun k => padS_here (sums := sums) (k := k)); have HPA := Lib.hid (fun j (hj : j < 3) => padS_all (sums := sums) (k := sums.length) (j := j) (Nat.le_refl _) h3 hj); have HP0 : Hid (∀ j, padS sums 0 j = 0) := Lib.hid (fun j => by unfold padS; rw [if_neg (by omega)]); have HLE := Lib.hid (settle3_le hm.1 (hpd 3 0) (hpd 3 1) (hpd 3 2)); generalize settle3 amount (padS sums 3 0) (padS sums 3 1) (padS sums 3 2) = st at *; obtain ⟨s0, s1, s2⟩ := st; simp only at HST HSP HLE; generalize hpp : padS sums = pd at *; clear hpp; have hd : decide ((3 : Int) < (sums.length : Int)) = false := decide_eq_false (by omega); have hz : ((sums.length : Int) == 0) = false := by rw [beq_eq_false_iff_ne]; omega
  have hz' : ¬ (sums.length : Int) = 0 := by omega
  have XX : Ext w w := Ext.refl w; clear hr hs hne hall h hpd hm; unfold sh3 at *; go_enter Tryz.func19, Tryz.ntmps19
  (go_wp2_with fail); (with_reducible refine (HW.out _).mono ?_); rintro e w1 ⟨rfl, hx⟩; have hy : Ext w w1 := by (repeat (first | exact Ext.refl _ | with_reducible (first | assumption | refine Ext.drew ?_ | refine Ext.alloc ?_ _ | refine Ext.drewN ?_ _ | refine Ext.setCell ?_ (by omega) _ | refine Ext.trans ?_ (by assumption))))
  replace XX := XX.trans hy; clear hx hy; (go_wp2_with fail); (with_reducible refine (HAL.out _ (by (repeat (first | exact Ext.refl _ | with_reducible (first | assumption | refine Ext.drew ?_ | refine Ext.alloc ?_ _ | refine Ext.drewN ?_ _ | refine Ext.setCell ?_ (by omega) _ | refine Ext.trans ?_ (by assumption)))))).mono ?_); rintro e w2 ⟨rfl, hx⟩; have hy : Ext w1 w2 := by (repeat (first | exact Ext.refl _ | with_reducible (first | assumption | refine Ext.drew ?_ | refine Ext.alloc ?_ _ | refine Ext.drewN ?_ _ | refine Ext.setCell ?_ (by omega) _ | refine Ext.trans ?_ (by assumption))))
  replace XX := XX.trans hy; clear hx hy; clear HW HAL; (go_wp2_with fail); have X2 : Ext w (w2.alloc (.cells #[.int .i64 0, .int .i64 0, .int .i64 0] 133)) := XX.alloc _; have HZ : Hid (Sh3 w2.heap.size (pd 0 0) (pd 0 1) (pd 0 2) (w2.alloc (.cells #[.int .i64 0, .int .i64 0, .int .i64 0] 133))) := Lib.hid (by rw [HP0.out, HP0.out, HP0.out]; exact ⟨by simp [go_sem], by simp [go_sem], by simp [go_sem], fun o => by simp [go_sem]⟩); have hw2 := XX.size; generalize w2.alloc (.cells #[.int .i64 0, .int .i64 0, .int .i64 0] 133) = W3 at *; generalize w2.heap.size = R at *; go_loopw [30] (fun s30 wr => ∃ i : Nat, i ≤ sums.length ∧ s30 = .int .i64 i ∧ Hid (Sh3 R (pd i 0) (pd i 1) (pd i 2) wr) ∧ Ext w wr) (fun s _ => sums.length - (intOf s).toNat)
  case atStart => exact ⟨0, Nat.zero_le _, rfl, HZ, X2⟩
  case round =>
    obtain ⟨i, hi, rfl, HC, hx⟩ := hrel; obtain ⟨wo, rfl⟩ : ∃ x, x = wr := ⟨_, rfl⟩; clear HZ X2; by_cases hlt : i < sums.length
    · obtain ⟨b, off, rfl, hc⟩ := HR.out i hlt; have m0 := hc wo hx; have HX := Lib.hid (HPH.out i); generalize sums.getD i 0 = x at *; have hi0 : (0 : Int) ≤ (i : Int) := by omega
      have hi1 : (i : Int) < (sums.length : Int) := by omega
      have hi2 : (i : Int) < 3 := by omega
      have f0 := HC.out.c0; have f1 := HC.out.c1; have f2 := HC.out.c2; have ff := HC.out.fr
      have fi : ∃ y, wo.cell? ⟨R, i, none⟩ = some y := by
        have : i = 0 ∨ i = 1 ∨ i = 2 := by omega
        rcases this with rfl | rfl | rfl
        · exact ⟨_, f0⟩
        · exact ⟨_, f1⟩
        · exact ⟨_, f2⟩
      obtain ⟨y, fi⟩ := fi
      have HN : Hid (Sh3 R (pd (i + 1) 0) (pd (i + 1) 1) (pd (i + 1) 2) (wo.setCell ⟨R, i, none⟩ (.int .i64 x))) := Lib.hid (by
        have : i = 0 ∨ i = 1 ∨ i = 2 := by omega
        rcases this with rfl | rfl | rfl
        · have e0 := HX.out; have e1 := HPN.out 0 1 (by decide); have e2 := HPN.out 0 2 (by decide); rw [e0, e1, e2]; exact HC.out.set0 x
        · have e1 := HX.out; have e0 := HPN.out 1 0 (by decide); have e2 := HPN.out 1 2 (by decide); rw [e0, e1, e2]; exact HC.out.set1 x
        · have e2 := HX.out; have e0 := HPN.out 2 0 (by decide); have e1 := HPN.out 2 1 (by decide); rw [e0, e1, e2]; exact HC.out.set2 x)
      clear f0 f1 f2 hc; (go_wp2_with fail); go_roundw
      case rel => exact ⟨i + 1, by omega, by go_num, HN, hx.setCell hw2 _⟩
      case measure => simp [intOf]; omega
    · obtain rfl : i = sums.length := by omega
      have f0 := HC.out.c0; have f1 := HC.out.c1; have f2 := HC.out.c2; rw [HPA.out 0 (by decide)] at f0; rw [HPA.out 1 (by decide)] at f1; rw [HPA.out 2 (by decide)] at f2; clear HC HPA HPN HPH HR; generalize pd 3 0 = p0 at *; generalize pd 3 1 = p1 at *; generalize pd 3 2 = p2 at *; (go_wp2_with fail); (with_reducible refine (HST.out _).mono ?_); rintro e w5 ⟨rfl, hx5⟩; have X5 : Ext w w5 := hx.trans hx5; clear HST hx5 f0 f1 f2; have hl0 : (0 : Int) ≤ (sums.length : Int) := by omega
      have hl1 : (sums.length : Int) ≤ 3 := by omega
      have HCL : Hid (∀ W, Ext w5 W → W.cell? ⟨w5.heap.size, 0, none⟩ = some (.int .i64 s0) → W.cell? ⟨w5.heap.size, 1, none⟩ = some (.int .i64 s1) → W.cell? ⟨w5.heap.size, 2, none⟩ = some (.int .i64 s2) → Calls Tryz.prog 66 #[.slice (some ⟨w5.heap.size, 0, none⟩) sums.length 3] W fun e w' => ∃ v', e = .returned v' ∧ w'.ownsRow W.heap.size 3 1 v' sums.length ((settleL amount sums).map (.int .i64)) ∧ Ext W w') := Lib.hid (fun W _ g0 g1 g2 => by
        have hll : (settleL amount sums).length = sums.length := settleL_len _ _
        have hx := clone_x (.slice (some ⟨w5.heap.size, 0, none⟩) sums.length 3) (settleL amount sums) W ⟨some ⟨w5.heap.size, 0, none⟩, 3, by rw [hll], by omega, by omega, fun i hi => ⟨_, _, rfl, by
          obtain ⟨q0, q1, q2⟩ := HLE.out; have e1 : (settleL amount sums)[i]? = ([s0, s1, s2].take sums.length)[i]? := by rw [HSP.out]
          rw [List.getElem?_eq_getElem hi, List.getElem?_take_of_lt (by omega)] at e1; rw [Nat.mul_one, Nat.zero_add]; have : i = 0 ∨ i = 1 ∨ i = 2 := by omega
          rcases this with rfl | rfl | rfl
          · simp at e1; rw [e1]; exact ⟨g0, by omega, by omega⟩
          · simp at e1; rw [e1]; exact ⟨g1, by omega, by omega⟩
          · simp at e1; rw [e1]; exact ⟨g2, by omega, by omega⟩⟩⟩ (by omega)
        rw [hll] at hx; exact hx)
      have hw5 := X5.size; clear HSP HLE; (go_wp2_with fail); (with_reducible refine (HCL.out _ (by (repeat (first | exact Ext.refl _ | with_reducible (first | assumption | refine Ext.drew ?_ | refine Ext.alloc ?_ _ | refine Ext.drewN ?_ _ | refine Ext.setCell ?_ (by omega) _ | refine Ext.trans ?_ (by assumption))))) (by simp [go_sem]) (by simp [go_sem]) (by simp [go_sem])).mono ?_); rintro e w6 ⟨v', rfl, hown, hx6⟩; clear HCL; have X6 : Ext w w6 := by (repeat (first | exact Ext.refl _ | with_reducible (first | assumption | refine Ext.drew ?_ | refine Ext.alloc ?_ _ | refine Ext.drewN ?_ _ | refine Ext.setCell ?_ (by omega) _ | refine Ext.trans ?_ (by assumption))))
      have hown' := Lib.hid (ownRow_down hown (D := w.heap.size) (by simp [go_sem]; omega)); clear hown hx6; (go_wp2_with fail); go_ret2; exact ⟨v', rfl, hown'.out, X6⟩
end Go.Proofs.YtegkdnfeceomdaaGreat
/- Contracts of layer 8: what is bounded. -/
namespace Go.Hs
open Go.RowKit
def sumD (d : Dmg) (k : Int) : Int := if k = 0 then d.s0 else if k = 1 then d.s1 else d.s2
def refundD (d : Dmg) (k : Int) : Int := min (sumD d k) d.amount - payD d k
def totD (d : Dmg) : Int := (paysD d).1 + (paysD d).2.1 + (paysD d).2.2
end Go.Hs
namespace Go.Proofs.YtegkdnfeceomdaaGreat
open Go.RowKit Go.Hs
attribute [local irreducible] World.setCell World.alloc
theorem pays_bd {d : Dmg} (h : DmgOK d) : (0 ≤ (paysD d).1 ∧ (paysD d).1 ≤ 5000) ∧ (0 ≤ (paysD d).2.1 ∧ (paysD d).2.1 ≤ 5000) ∧ 0 ≤ (paysD d).2.2 ∧ (paysD d).2.2 ≤ 5000 := settle3_le h.a.1 h.s0 h.s1 h.s2
set_option maxRecDepth 100000 in
set_option maxHeartbeats 4000000 in
theorem pay_dd (p m : Nat) (d : Dmg) (k : Int) (w : World) (hp : w.cell? ⟨p, 11, none⟩ = some (.map (some m))) (hs : Stl m w) (hd : DmgOK d) (hk : k = 0 ∨ k = 1 ∨ k = 2) :
    Calls Tryz.prog 91 #[.pointer (some ⟨p, 0, none⟩), d.v, .int .i64 k] w fun e w' => e = .returned (.int .i64 (payD d k)) ∧ MM m w w' := by
  have HP := Lib.hid (fun W (h : MM m w W) => pays_d p m d W (h.keep hs hp) (h.stl hs) hd)
  have HI : Hid (∀ w, (Instr.index 133 (paysV d) (.int .i64 k)).run Tryz.prog w = .ok (.int .i64 (payD d k)) w) := Lib.hid (by
    rcases hk with h | h | h
    · intro w; rw [h]; exact index_sh0 _ _ _ w
    · intro w; rw [h]; exact index_sh1 _ _ _ w
    · intro w; rw [h]; exact index_sh2 _ _ _ w)
  have hix := HI.out; clear hd hk hs hp HI; generalize payD d k = py at *; generalize paysV d = pv at *; obtain ⟨am, s0, s1, s2⟩ := d; simp only [Dmg.v] at *; go_enter Tryz.func91, Tryz.ntmps91
  (go_wp2_with fail); (with_reducible refine (HP.out _ (by (repeat (first | exact MM.refl _ | with_reducible (first | assumption | refine MM.drew ?_ | refine MM.alloc ?_ _ | refine MM.ext ?_ (by assumption) | refine MM.trans ?_ (by assumption) | refine Ext.mm (by assumption)))))).mono ?_); rintro e w1 ⟨rfl, hm1⟩; have M1 : MM m w w1 := by (repeat (first | exact MM.refl _ | with_reducible (first | assumption | refine MM.drew ?_ | refine MM.alloc ?_ _ | refine MM.ext ?_ (by assumption) | refine MM.trans ?_ (by assumption) | refine Ext.mm (by assumption))))
  (go_wp2_with fail); go_ret; exact ⟨rfl, M1⟩
set_option maxRecDepth 100000 in
set_option maxHeartbeats 4000000 in
theorem together_dd (p m : Nat) (d : Dmg) (k : Int) (w : World) (hp : w.cell? ⟨p, 11, none⟩ = some (.map (some m))) (hs : Stl m w) (hd : DmgOK d) :
    Calls Tryz.prog 94 #[.pointer (some ⟨p, 0, none⟩), d.v, .int .i64 k] w fun e w' => e = .returned (.int .i64 (totD d)) ∧ MM m w w' := by
  have HP := Lib.hid (fun W (h : MM m w W) => pays_d p m d W (h.keep hs hp) (h.stl hs) hd); have hb := pays_bd hd; have HT : Hid (∀ W, Calls Tryz.prog 121 #[paysV d] W fun e w' => e = .returned (.int .i64 (totD d)) ∧ Ext W w') := Lib.hid (fun W => total_s _ _ _ W (by omega) (by omega) (by omega)); clear hd hs hp hb; generalize totD d = py at *; generalize paysV d = pv at *; obtain ⟨am, s0, s1, s2⟩ := d; simp only [Dmg.v] at *; go_enter Tryz.func94, Tryz.ntmps94
  (go_wp2_with fail); (with_reducible refine (HP.out _ (by (repeat (first | exact MM.refl _ | with_reducible (first | assumption | refine MM.drew ?_ | refine MM.alloc ?_ _ | refine MM.ext ?_ (by assumption) | refine MM.trans ?_ (by assumption) | refine Ext.mm (by assumption)))))).mono ?_); rintro e w1 ⟨rfl, hm1⟩; have M1 : MM m w w1 := by (repeat (first | exact MM.refl _ | with_reducible (first | assumption | refine MM.drew ?_ | refine MM.alloc ?_ _ | refine MM.ext ?_ (by assumption) | refine MM.trans ?_ (by assumption) | refine Ext.mm (by assumption))))
  (go_wp2_with fail); (with_reducible refine (HT.out _).mono ?_); rintro e w2 ⟨rfl, hx2⟩; have M2 := M1.ext hx2; (go_wp2_with fail); go_ret; exact ⟨rfl, M2⟩
set_option maxRecDepth 100000 in
set_option maxHeartbeats 4000000 in
theorem refund_dd (p m : Nat) (d : Dmg) (k : Int) (w : World) (hp : w.cell? ⟨p, 11, none⟩ = some (.map (some m))) (hs : Stl m w) (hd : DmgOK d) (hk : k = 0 ∨ k = 1 ∨ k = 2) :
    Calls Tryz.prog 93 #[.pointer (some ⟨p, 0, none⟩), d.v, .int .i64 k] w fun e w' => e = .returned (.int .i64 (refundD d k)) ∧ MM m w w' := by
  have HP0 := Lib.hid (fun W (h : MM m w W) => pays_d p m d W (h.keep hs hp) (h.stl hs) hd)
  have HI : Hid (∀ w, (Instr.index 133 (paysV d) (.int .i64 k)).run Tryz.prog w = .ok (.int .i64 (payD d k)) w) := Lib.hid (by
    rcases hk with h | h | h
    · intro w; rw [h]; exact index_sh0 _ _ _ w
    · intro w; rw [h]; exact index_sh1 _ _ _ w
    · intro w; rw [h]; exact index_sh2 _ _ _ w)
  have hix := HI.out; have hb := pays_bd hd
  have HBD : Hid (0 ≤ payD d k ∧ payD d k ≤ 5000) := Lib.hid (by
    unfold payD; split
    · exact hb.1
    · split
      · exact hb.2.1
      · exact hb.2.2)
  have HSD : Hid (0 ≤ sumD d k ∧ sumD d k ≤ 5000) := Lib.hid (by
    unfold sumD; split
    · exact hd.s0
    · split
      · exact hd.s1
      · exact hd.s2)
  obtain ⟨kn, hkn, hk3⟩ : ∃ kn : Nat, k = (kn : Int) ∧ kn < 3 := by
    rcases hk with h | h | h
    · exact ⟨0, h, by decide⟩
    · exact ⟨1, h, by decide⟩
    · exact ⟨2, h, by decide⟩
  have HRD : Hid (refundD d k = min (sumD d k) d.amount - payD d k) := rfl; have HMN : Hid (min (sumD d k) d.amount = if d.amount < sumD d k then d.amount else sumD d k) := Lib.hid (by split <;> omega)
  have HSC : Hid (∀ (W : World) B, (∀ j v, ([.int .i64 d.amount, .int .i64 d.s0, .int .i64 d.s1, .int .i64 d.s2] : List Value)[j]? = some v → W.cell? ⟨B, j, none⟩ = some v) → W.cell? ⟨B, 1 + kn, none⟩ = some (.int .i64 (sumD d k))) := Lib.hid (fun W B h => by
    rcases hk with e | e | e
    · obtain rfl : kn = 0 := by omega
      subst e; exact h 1 _ rfl
    · obtain rfl : kn = 1 := by omega
      subst e; exact h 2 _ rfl
    · obtain rfl : kn = 2 := by omega
      subst e; exact h 3 _ rfl)
  have hml := hs.lt; have hha := hd.a; have hbd := HBD.out; have hsd := HSD.out; clear hd hk hs hp HI hb HBD HSD; rw [HRD.out]; clear HRD; generalize payD d k = py at *; generalize paysV d = pv at *; generalize sumD d k = sk at *; obtain ⟨am, s0, s1, s2⟩ := d; simp only [Dmg.v] at *; have HMI := Lib.hid (fun W b h0 h1 => min2_d sk am (min sk am) HMN.out b W h0 h1 2 (Nat.le_refl _)); have hw : IntKind.i64.wrap (min sk am - py) = min sk am - py := IntWalk.i64_in _ (by omega); subst hkn; have hk0 : (0 : Int) ≤ (kn : Int) := by omega
  have hk1 : (kn : Int) < 3 := by omega
  clear hbd hsd hha HMN; generalize min sk am = mn at *; go_enter Tryz.func93, Tryz.ntmps93
  (go_wp2_with fail); obtain ⟨W, hW⟩ : ∃ W, W = (w.alloc (.cells #[.int .i64 am, .int .i64 s0, .int .i64 s1, .int .i64 s2] 139)) := ⟨_, rfl⟩; have X : Ext w W := by subst hW; (repeat (first | exact Ext.refl _ | with_reducible (first | assumption | refine Ext.drew ?_ | refine Ext.alloc ?_ _ | refine Ext.drewN ?_ _ | refine Ext.setCell ?_ (by omega) _ | refine Ext.trans ?_ (by assumption))))
  have HS : Hid (∀ w', Ext W w' → (w'.cell? ⟨w.heap.size, 0, none⟩ = some (.int .i64 am) ∧ w'.cell? ⟨w.heap.size, 1, none⟩ = some (.int .i64 s0) ∧ w'.cell? ⟨w.heap.size, 2, none⟩ = some (.int .i64 s1) ∧ w'.cell? ⟨w.heap.size, 3, none⟩ = some (.int .i64 s2)) ∧ Ext W w') := Lib.hid (fun w' hx => ⟨⟨hx.keep (by subst hW; simp [go_sem]), hx.keep (by subst hW; simp [go_sem]), hx.keep (by subst hW; simp [go_sem]), hx.keep (by subst hW; simp [go_sem])⟩, hx⟩); have HSf : Hid (∀ w', Ext W w' → ∀ o, w'.frozen? ⟨w.heap.size, o, none⟩ = false) := Lib.hid (fun w' hx o => (hx.frozen (by subst hW; simp)).trans (by subst hW; simp [go_sem])); have HSz : w.heap.size + 1 ≤ W.heap.size := by subst hW; simp
  rw [← hW]; clear hW; obtain ⟨⟨q0, q1, q2, q3⟩, -⟩ := HS.out W (Ext.refl _)
  have q4 := HSC.out W w.heap.size (fun j v hj => by
    rcases j with _ | _ | _ | _ | j
    · cases hj; exact q0
    · cases hj; exact q1
    · cases hj; exact q2
    · cases hj; exact q3
    · simp at hj)
  have HSS : Hid (∀ w', MM m W w' → (w'.cell? ⟨w.heap.size, 0, none⟩ = some (.int .i64 am) ∧ w'.cell? ⟨w.heap.size, 1, none⟩ = some (.int .i64 s0) ∧ w'.cell? ⟨w.heap.size, 2, none⟩ = some (.int .i64 s1) ∧ w'.cell? ⟨w.heap.size, 3, none⟩ = some (.int .i64 s2) ∧ w'.cell? ⟨w.heap.size, 1 + kn, none⟩ = some (.int .i64 sk)) ∧ MM m W w') := Lib.hid (fun w' h => ⟨⟨h.keep' (by omega) q0, h.keep' (by omega) q1, h.keep' (by omega) q2, h.keep' (by omega) q3, h.keep' (by omega) q4⟩, h⟩); have HP := Lib.hid (fun W' (h : MM m W W') => HP0.out W' ((Ext.mm X).trans h)); have hnA : ¬ W.heap.size = m := by omega
  clear HS HSf HSC q0 q1 q2 q3 q4 HP0
  go_region_held3 (fun w' => (w'.cell? ⟨w.heap.size, 0, none⟩ = some (.int .i64 am) ∧ w'.cell? ⟨w.heap.size, 1, none⟩ = some (.int .i64 s0) ∧ w'.cell? ⟨w.heap.size, 2, none⟩ = some (.int .i64 s1) ∧ w'.cell? ⟨w.heap.size, 3, none⟩ = some (.int .i64 s2) ∧ w'.cell? ⟨w.heap.size, 1 + kn, none⟩ = some (.int .i64 sk)) ∧ MM m W w')
    ((refine HSS.out _ ?_; (repeat (first | exact MM.refl _ | with_reducible (first | assumption | refine MM.drew ?_ | refine MM.alloc ?_ _ | refine MM.ext ?_ (by assumption) | refine MM.trans ?_ (by assumption) | refine Ext.mm (by assumption))))))
    (first
      | (go_at_call 75; (refine (HP.out _ (by (repeat (first | exact MM.refl _ | with_reducible (first | assumption | refine MM.drew ?_ | refine MM.alloc ?_ _ | refine MM.ext ?_ (by assumption) | refine MM.trans ?_ (by assumption) | refine Ext.mm (by assumption)))))).mono ?_); rintro e w3 ⟨rfl, hx3⟩)
      | (go_at_call 86; (refine (HMI.out _ _ (by first | (simp [go_sem]; done) | exact hx3.keep' hnA (by simp [go_sem])) (by first | (simp [go_sem]; done) | exact hx3.keep' hnA (by simp [go_sem]))).mono ?_); rintro e w4 ⟨rfl, hx4⟩))
  all_goals
    (go_wp2_with fail); go_ret; exact ⟨rfl, X.mm.trans (by (repeat (first | exact MM.refl _ | with_reducible (first | assumption | refine MM.drew ?_ | refine MM.alloc ?_ _ | refine MM.ext ?_ (by assumption) | refine MM.trans ?_ (by assumption) | refine Ext.mm (by assumption)))))⟩
set_option maxRecDepth 100000 in
set_option maxHeartbeats 4000000 in
theorem wider_dd (lo hi n : Int) (w : World) :
    Calls Tryz.prog 145 #[.agg #[.int .i64 lo, .int .i64 hi], .int .i64 n] w fun e w' => e = .returned (.agg #[.int .i64 (min lo n), .int .i64 (max hi n)]) ∧ Ext w w' := by
  have HMI := Lib.hid (fun W b h0 h1 => min2_d lo n (min lo n) (by split <;> omega) b W h0 h1 2 (Nat.le_refl _))
  have hmx : ∀ w, (Builtin.max_ #[3, 3] 3 #[.int .i64 hi, .int .i64 n]).run Tryz.prog w = .ok (.int .i64 (max hi n)) w := fun w => by
    have e : (if hi < n then n else hi) = max hi n := by split <;> omega
    rw [← e]; simp [go_sem]
  generalize min lo n = mn at *; generalize max hi n = mx at *; go_enter Tryz.func145, Tryz.ntmps145
  (go_wp2_with fail); obtain ⟨W, hW⟩ : ∃ W, W = ((w.alloc (.cells #[.int .i64 lo, .int .i64 hi] 54)).alloc (.cells #[.int .i64 0, .int .i64 0] 54)) := ⟨_, rfl⟩; have X : Ext w W := by subst hW; (repeat (first | exact Ext.refl _ | with_reducible (first | assumption | refine Ext.drew ?_ | refine Ext.alloc ?_ _ | refine Ext.drewN ?_ _ | refine Ext.setCell ?_ (by omega) _ | refine Ext.trans ?_ (by assumption))))
  have HS : Hid (∀ w', Ext W w' → (w'.cell? ⟨w.heap.size, 0, none⟩ = some (.int .i64 lo) ∧ w'.cell? ⟨w.heap.size, 1, none⟩ = some (.int .i64 hi) ∧ w'.cell? ⟨w.heap.size + 1, 0, none⟩ = some (.int .i64 0) ∧ w'.cell? ⟨w.heap.size + 1, 1, none⟩ = some (.int .i64 0)) ∧ Ext W w') := Lib.hid (fun w' hx => ⟨⟨hx.keep (by subst hW; simp [go_sem]), hx.keep (by subst hW; simp [go_sem]), hx.keep (by subst hW; simp [go_sem]), hx.keep (by subst hW; simp [go_sem])⟩, hx⟩); have HSf : Hid (∀ w', Ext W w' → ∀ o, w'.frozen? ⟨w.heap.size + 1, o, none⟩ = false) := Lib.hid (fun w' hx o => (hx.frozen (by subst hW; simp)).trans (by subst hW; simp [go_sem])); have HSz : w.heap.size + 1 + 1 ≤ W.heap.size := by subst hW; simp
  rw [← hW]; clear hW
  have HSS : Hid (∀ w', Ext W w' → (w'.cell? ⟨w.heap.size, 0, none⟩ = some (.int .i64 lo) ∧ w'.cell? ⟨w.heap.size, 1, none⟩ = some (.int .i64 hi)) ∧ (w'.cell? ⟨w.heap.size + 1, 0, none⟩ = some (curV w' ⟨w.heap.size + 1, 0, none⟩) ∧ w'.cell? ⟨w.heap.size + 1, 1, none⟩ = some (curV w' ⟨w.heap.size + 1, 1, none⟩) ∧ ∀ o, w'.frozen? ⟨w.heap.size + 1, o, none⟩ = false) ∧ Ext w w') := Lib.hid (fun w' h => by
    obtain ⟨⟨q0, q1, r0, r1⟩, -⟩ := HS.out w' h; exact ⟨⟨q0, q1⟩, ⟨cur_self r0, cur_self r1, HSf.out w' h⟩, X.trans h⟩)
  have HST : Hid (∀ w' a b, Ext W w' → (((w'.setCell ⟨w.heap.size + 1, 0, none⟩ a).setCell ⟨w.heap.size + 1, 1, none⟩ b).cell? ⟨w.heap.size, 0, none⟩ = some (.int .i64 lo) ∧ ((w'.setCell ⟨w.heap.size + 1, 0, none⟩ a).setCell ⟨w.heap.size + 1, 1, none⟩ b).cell? ⟨w.heap.size, 1, none⟩ = some (.int .i64 hi)) ∧ (((w'.setCell ⟨w.heap.size + 1, 0, none⟩ a).setCell ⟨w.heap.size + 1, 1, none⟩ b).cell? ⟨w.heap.size + 1, 0, none⟩ = some (curV ((w'.setCell ⟨w.heap.size + 1, 0, none⟩ a).setCell ⟨w.heap.size + 1, 1, none⟩ b) ⟨w.heap.size + 1, 0, none⟩) ∧ ((w'.setCell ⟨w.heap.size + 1, 0, none⟩ a).setCell ⟨w.heap.size + 1, 1, none⟩ b).cell? ⟨w.heap.size + 1, 1, none⟩ = some (curV ((w'.setCell ⟨w.heap.size + 1, 0, none⟩ a).setCell ⟨w.heap.size + 1, 1, none⟩ b) ⟨w.heap.size + 1, 1, none⟩) ∧ ∀ o, ((w'.setCell ⟨w.heap.size + 1, 0, none⟩ a).setCell ⟨w.heap.size + 1, 1, none⟩ b).frozen? ⟨w.heap.size + 1, o, none⟩ = false) ∧ Ext w ((w'.setCell ⟨w.heap.size + 1, 0, none⟩ a).setCell ⟨w.heap.size + 1, 1, none⟩ b)) := Lib.hid (fun w' a b h => by
    obtain ⟨⟨q0, q1, r0, r1⟩, -⟩ := HS.out w' h
    exact ⟨⟨cell_ne (.inl (by omega)) (cell_ne (.inl (by omega)) q0), cell_ne (.inl (by omega)) (cell_ne (.inl (by omega)) q1)⟩,
      ⟨cur_self (cell_ne (.inr (by decide)) (World.cell?_setCell_same _ _ _ r0)), cur_self (World.cell?_setCell_same _ _ _ (cell_ne (.inr (by decide)) r1)), fun o => by rw [World.frozen?_setCell, World.frozen?_setCell]; exact HSf.out w' h o⟩, ((X.trans h).setCell (by omega) _).setCell (by omega) _⟩)
  have HRT : Hid (∀ w' a b, Ext W w' → ((w'.setCell ⟨w.heap.size + 1, 0, none⟩ a).setCell ⟨w.heap.size + 1, 1, none⟩ b).cell? ⟨w.heap.size + 1, 0, none⟩ = some a ∧ ((w'.setCell ⟨w.heap.size + 1, 0, none⟩ a).setCell ⟨w.heap.size + 1, 1, none⟩ b).cell? ⟨w.heap.size + 1, 1, none⟩ = some b) := Lib.hid (fun w' a b h => by
    obtain ⟨⟨q0, q1, r0, r1⟩, -⟩ := HS.out w' h; exact ⟨cell_ne (.inr (by decide)) (World.cell?_setCell_same _ _ _ r0), World.cell?_setCell_same _ _ _ (cell_ne (.inr (by decide)) r1)⟩)
  clear HS HSf
  go_region_held3 (fun w' => (w'.cell? ⟨w.heap.size, 0, none⟩ = some (.int .i64 lo) ∧ w'.cell? ⟨w.heap.size, 1, none⟩ = some (.int .i64 hi)) ∧ (w'.cell? ⟨w.heap.size + 1, 0, none⟩ = some (curV w' ⟨w.heap.size + 1, 0, none⟩) ∧ w'.cell? ⟨w.heap.size + 1, 1, none⟩ = some (curV w' ⟨w.heap.size + 1, 1, none⟩) ∧ ∀ o, w'.frozen? ⟨w.heap.size + 1, o, none⟩ = false) ∧ Ext w w')
    (first | (refine HSS.out _ ?_; ((repeat (first | exact Ext.refl _ | with_reducible (first | assumption | refine Ext.drew ?_ | refine Ext.alloc ?_ _ | refine Ext.drewN ?_ _ | refine Ext.setCell ?_ (by omega) _ | refine Ext.trans ?_ (by assumption)))); done)) | (refine HST.out _ _ _ ?_; ((repeat (first | exact Ext.refl _ | with_reducible (first | assumption | refine Ext.drew ?_ | refine Ext.alloc ?_ _ | refine Ext.drewN ?_ _ | refine Ext.setCell ?_ (by omega) _ | refine Ext.trans ?_ (by assumption)))); done)))
    ((go_at_call 86; (refine (HMI.out _ _ (by simp [go_sem]) (by simp [go_sem])).mono ?_); rintro e w4 ⟨rfl, hx4⟩))
  all_goals
    obtain ⟨h0, h1⟩ := HRT.out w4 (.int .i64 mn) (.int .i64 mx) (by (repeat (first | exact Ext.refl _ | with_reducible (first | assumption | refine Ext.drew ?_ | refine Ext.alloc ?_ _ | refine Ext.drewN ?_ _ | refine Ext.setCell ?_ (by omega) _ | refine Ext.trans ?_ (by assumption))))); have XE : Ext w ((w4.setCell ⟨w.heap.size + 1, 0, none⟩ (.int .i64 mn)).setCell ⟨w.heap.size + 1, 1, none⟩ (.int .i64 mx)) := (HST.out w4 (.int .i64 mn) (.int .i64 mx) (by (repeat (first | exact Ext.refl _ | with_reducible (first | assumption | refine Ext.drew ?_ | refine Ext.alloc ?_ _ | refine Ext.drewN ?_ _ | refine Ext.setCell ?_ (by omega) _ | refine Ext.trans ?_ (by assumption)))))).2.2; (go_wp2_with fail); refine bodyPost_ret (v := .agg #[.int .i64 mn, .int .i64 mx]) (by simp [results, Tryz.results145, go_sem, h0, h1]) rfl ⟨rfl, XE⟩
end Go.Proofs.YtegkdnfeceomdaaGreat
/- Contracts of layer 8: the bounds of a part in all truths. -/
namespace Go.Hs
open Go.RowKit
def stepB (acc : Option (Int × Int)) (n : Int) : Option (Int × Int) := some (min (acc.getD (n, n)).1 n, max (acc.getD (n, n)).2 n)
def bdsL (ns : List Int) : Option (Int × Int) := ns.foldl stepB none
theorem bdsL_snoc (ns : List Int) (n : Int) : bdsL (ns ++ [n]) = stepB (bdsL ns) n := by unfold bdsL; rw [List.foldl_append]; rfl
theorem bdsL_ne {ns : List Int} (h : ns ≠ []) : (bdsL ns).isSome = true := by
  rcases List.eq_nil_or_concat ns with h' | ⟨l, x, rfl⟩
  · exact absurd h' h
  · rw [List.concat_eq_append, bdsL_snoc]; rfl
structure BdJ (w : World) (p m F : Nat) (k : Int) (acc : Option (Int × Int)) (W : World) : Prop where
  mm : MM m w W
  b0 : W.cell? ⟨w.heap.size, 0, none⟩ = some (.func (.func F) #[] #[])
  b1 : W.cell? ⟨w.heap.size + 1, 0, none⟩ = some (.pointer (some ⟨p, 0, none⟩))
  b2 : W.cell? ⟨w.heap.size + 2, 0, none⟩ = some (.int .i64 k)
  r0 : W.cell? ⟨w.heap.size + 3, 0, none⟩ = some (.int .i64 (acc.getD (0, 0)).1)
  r1 : W.cell? ⟨w.heap.size + 3, 1, none⟩ = some (.int .i64 (acc.getD (0, 0)).2)
  rf : ∀ o, W.frozen? ⟨w.heap.size + 3, o, none⟩ = false
  i0 : W.cell? ⟨w.heap.size + 4, 0, none⟩ = some (.bool acc.isSome)
  fi : ∀ o, W.frozen? ⟨w.heap.size + 4, o, none⟩ = false
  t1 : W.cell? ⟨w.heap.size + 5, 0, none⟩ = some (.pointer (some ⟨p, 0, none⟩))
  t2 : W.cell? ⟨w.heap.size + 6, 0, none⟩ = some (.slice none 0 0)
section
variable {w W V : World} {p m F n : Nat} {k : Int} {acc : Option (Int × Int)}
theorem BdJ.belq (h : BdJ w p m F k acc W) (hx : BelQ (fun k => k = m) (Stl m) n W V) (hm : m < w.heap.size) (hn : w.heap.size + 7 ≤ n) : BdJ w p m F k acc V :=
  ⟨mm_bel h.mm hx (by omega), hx.cell (by omega) (by omega) h.b0, hx.cell (by omega) (by omega) h.b1, hx.cell (by omega) (by omega) h.b2, hx.cell (by omega) (by omega) h.r0, hx.cell (by omega) (by omega) h.r1, fun o => (hx.frozen (by omega) (by omega)).trans (h.rf o), hx.cell (by omega) (by omega) h.i0, fun o => (hx.frozen (by omega) (by omega)).trans (h.fi o), hx.cell (by omega) (by omega) h.t1, hx.cell (by omega) (by omega) h.t2⟩
theorem BdJ.more (h : BdJ w p m F k acc W) (hx : MM m W V) (hm : m < w.heap.size) : BdJ w p m F k acc V := by
  have hz : w.heap.size + 6 < W.heap.size := lt_of_cell h.t2; exact h.belq (n := W.heap.size) (mm_belq hx (Nat.le_refl _)) hm (by omega)
theorem BdJ.grow (h : BdJ w p m F k acc W) (hx : Ext W V) (hm : m < w.heap.size) : BdJ w p m F k acc V := h.more (Ext.mm hx) hm
theorem BdJ.range (h : BdJ w p m F k acc W) (hs : Stl m w) (x y : Int) (hi : acc.isSome = true) : BdJ w p m F k (some (x, y)) ((W.setCell ⟨w.heap.size + 3, 0, none⟩ (.int .i64 x)).setCell ⟨w.heap.size + 3, 1, none⟩ (.int .i64 y)) := by
  have n0 : w.heap.size ≠ w.heap.size + 3 := by omega
  have n1 : w.heap.size + 1 ≠ w.heap.size + 3 := by omega
  have n2 : w.heap.size + 2 ≠ w.heap.size + 3 := by omega
  have n4 : w.heap.size + 4 ≠ w.heap.size + 3 := by omega
  have n5 : w.heap.size + 5 ≠ w.heap.size + 3 := by omega
  have n6 : w.heap.size + 6 ≠ w.heap.size + 3 := by omega
  refine ⟨(h.mm.setCell (by omega) hs _).setCell (by omega) hs _, cell_ne (.inl n0) (cell_ne (.inl n0) h.b0), cell_ne (.inl n1) (cell_ne (.inl n1) h.b1), cell_ne (.inl n2) (cell_ne (.inl n2) h.b2), cell_ne (.inr (by decide)) (World.cell?_setCell_same _ _ _ h.r0), World.cell?_setCell_same _ _ _ (cell_ne (.inr (by decide)) h.r1), fun o => by rw [World.frozen?_setCell, World.frozen?_setCell]; exact h.rf o, ?_, fun o => by rw [World.frozen?_setCell, World.frozen?_setCell]; exact h.fi o, cell_ne (.inl n5) (cell_ne (.inl n5) h.t1), cell_ne (.inl n6) (cell_ne (.inl n6) h.t2)⟩
  have := cell_ne (i := 0) (i' := 1) (v := .int .i64 y) (.inl n4) (cell_ne (i := 0) (i' := 0) (v := .int .i64 x) (.inl n4) h.i0); rw [hi] at this; exact this
theorem BdJ.first (h : BdJ w p m F k acc W) (hs : Stl m w) (x y : Int) : BdJ w p m F k (some (x, y)) (((W.setCell ⟨w.heap.size + 3, 0, none⟩ (.int .i64 x)).setCell ⟨w.heap.size + 3, 1, none⟩ (.int .i64 y)).setCell ⟨w.heap.size + 4, 0, none⟩ (.bool true)) := by
  have n0 : w.heap.size ≠ w.heap.size + 3 := by omega
  have n1 : w.heap.size + 1 ≠ w.heap.size + 3 := by omega
  have n2 : w.heap.size + 2 ≠ w.heap.size + 3 := by omega
  have n4 : w.heap.size + 4 ≠ w.heap.size + 3 := by omega
  have n5 : w.heap.size + 5 ≠ w.heap.size + 3 := by omega
  have n6 : w.heap.size + 6 ≠ w.heap.size + 3 := by omega
  have m0 : w.heap.size ≠ w.heap.size + 4 := by omega
  have m1 : w.heap.size + 1 ≠ w.heap.size + 4 := by omega
  have m2 : w.heap.size + 2 ≠ w.heap.size + 4 := by omega
  have m3 : w.heap.size + 3 ≠ w.heap.size + 4 := by omega
  have m5 : w.heap.size + 5 ≠ w.heap.size + 4 := by omega
  have m6 : w.heap.size + 6 ≠ w.heap.size + 4 := by omega
  exact ⟨((h.mm.setCell (by omega) hs _).setCell (by omega) hs _).setCell (by omega) hs _, cell_ne (.inl m0) (cell_ne (.inl n0) (cell_ne (.inl n0) h.b0)), cell_ne (.inl m1) (cell_ne (.inl n1) (cell_ne (.inl n1) h.b1)), cell_ne (.inl m2) (cell_ne (.inl n2) (cell_ne (.inl n2) h.b2)), cell_ne (.inl m3) (cell_ne (.inr (by decide)) (World.cell?_setCell_same _ _ _ h.r0)), cell_ne (.inl m3) (World.cell?_setCell_same _ _ _ (cell_ne (.inr (by decide)) h.r1)), fun o => by rw [World.frozen?_setCell, World.frozen?_setCell, World.frozen?_setCell]; exact h.rf o, World.cell?_setCell_same _ _ _ (cell_ne (.inl n4) (cell_ne (.inl n4) h.i0)), fun o => by rw [World.frozen?_setCell, World.frozen?_setCell, World.frozen?_setCell]; exact h.fi o, cell_ne (.inl m5) (cell_ne (.inl n5) (cell_ne (.inl n5) h.t1)), cell_ne (.inl m6) (cell_ne (.inl n6) (cell_ne (.inl n6) h.t2))⟩
end
theorem kept_set {D T i : Nat} {w w' : World} (h : Kept D w w') (hT : T < D) (v : Value) : Kept D w (w'.setCell ⟨T, i, none⟩ v) := h.trans ⟨by rw [World.size_setCell]; exact Nat.le_refl _, fun k hk _ => Below.heap_setCell _ _ _ _ (show k ≠ T by omega)⟩
theorem results_load_cc {P : Program} {fn : Func} {p q : Tmp} {ty tz : TypeId} (h : fn.results = #[.cell p ty, .cell q tz]) (tmps : Array Value) (w : World) (ad ae : Addr) (v u : Value) (hp : tmps.getD p undef = .pointer (some ad)) (hl : (loadVar ty ad).run P w = .ok v w) (hq : tmps.getD q undef = .pointer (some ae)) (hl2 : (loadVar tz ae).run P w = .ok u w) :
    (results fn tmps).run P w = .ok (.tuple #[v, u]) w := by
  have hp' : tmps[p]?.getD undef = .pointer (some ad) := by simpa using hp
  have hq' : tmps[q]?.getD undef = .pointer (some ae) := by simpa using hq
  simp [results, h, hp', hq', asAddr, hl, hl2]
end Go.Hs
namespace Go.Proofs.YtegkdnfeceomdaaGreat
open Go.RowKit Go.Hs
attribute [local irreducible] World.setCell World.alloc
attribute [local go_sem] Oper.semAt_some
attribute [local simp] wide_fn wide_fn' wide_depth wide_round
attribute [local go_sem] wide_fn wide_fn' wide_depth wide_round
set_option maxRecDepth 100000 in
set_option maxHeartbeats 4000000 in
theorem bounds_dd (p m : Nat) (A : CaseA) (c : DCas) (F : FuncId) (hF : FnOK F) (f : Dmg → Int) (k : Int) (w : World) (hS : CasS c) (hb : KB p m A c w)
    (hf : ∀ W d, MM m w W → DmgOK d → Calls Tryz.prog F #[.pointer (some ⟨p, 0, none⟩), d.v, .int .i64 k] W fun e w' => e = .returned (.int .i64 (f d)) ∧ MM m W w') :
    Calls Tryz.prog 92 #[.agg #[.func (.func F) #[] #[]], .pointer (some ⟨p, 0, none⟩), .int .i64 k] w fun e w' => e = .returned (.tuple #[.agg #[.int .i64 ((bdsL ((truthsD c []).map (fun x : DTr × Dmg => f x.2))).getD (0, 0)).1, .int .i64 ((bdsL ((truthsD c []).map (fun x : DTr × Dmg => f x.2))).getD (0, 0)).2], .bool (bdsL ((truthsD c []).map (fun x : DTr × Dmg => f x.2))).isSome]) ∧ MM m w w' := by
  have HGV := Lib.hid (fun b1 b2 => truthsD_gives p m b1 b2 A c (.slice none 0 0) [] hS); have hnil : IntsV w (.slice none 0 0) [] := ⟨none, 0, rfl, Nat.le_refl _, by simp, fun i hi => absurd hi (Nat.not_lt_zero _)⟩; have HKT := Lib.hid (fun b1 b2 W' (k : MM m w W') h1 h2 => KB.kt (b1 := b1) (b2 := b2) hb hnil k h1 h2); have HF := Lib.hid hf
  have HDO : Hid (∀ i (h : i < (truthsD c []).length), DmgOK ((truthsD c [])[i]).2) := Lib.hid (fun i h => by
    have hm := List.getElem_mem h; obtain ⟨l, hl, he⟩ := List.mem_filterMap.1 hm; unfold tryD at he; obtain ⟨d, hd, he⟩ := Option.bind_eq_some_iff.1 he; split at he
    · have ht := truD_ok hl; have := damD_ok hS (by have := hS.loss; have := ht.loss; omega) hd; simp only [Option.some.injEq] at he; rw [← he]; exact this
    · cases he)
  have HNX : Hid (∀ i (h : i < (truthsD c []).length), bdsL (((truthsD c []).take (i + 1)).map (fun x : DTr × Dmg => f x.2)) = stepB (bdsL (((truthsD c []).take i).map (fun x : DTr × Dmg => f x.2))) (f ((truthsD c [])[i]).2)) := Lib.hid (fun i h => by
    rw [List.take_succ_eq_append_getElem h, List.map_append, List.map_cons, List.map_nil, bdsL_snoc])
  have hml : m < w.heap.size := hb.stl.lt; have hst := Lib.hid hb.stl; clear hb hnil hf; unfold FnOK at hF; refine (callsIn_wide (n := 0)).1 (callsIn_of_wp_marks Tryz.func92 rfl trivial (wpIn_wide.2 ?_) rfl)
  simp only [Tryz.ntmps92, List.size_toArray, List.length_cons, List.length_nil, Nat.reduceAdd, Nat.reduceSub, Array.replicate_succ, Array.replicate_zero, List.push_toArray, List.append_toArray, List.nil_append, List.cons_append]; (go_wp2_with fail); (with_reducible refine (truthsF_d _ _ _ _ _).mono ?_); rintro e w' ⟨rfl, rfl⟩; go_wp2_with fail
  have J0 : BdJ w p m F k none (((((((w.alloc (.cells #[.func (.func F) #[] #[]] 162)).alloc (.cells #[.pointer (some ⟨p, 0, none⟩)] 136)).alloc (.cells #[.int .i64 k] 3)).alloc (.cells #[.int .i64 0, .int .i64 0] 54)).alloc (.cells #[.bool false] 4)).alloc (.cells #[.pointer (some ⟨p, 0, none⟩)] 136)).alloc (.cells #[.slice none 0 0] 22)) := by
    refine ⟨Ext.mm (by (repeat (first | exact Ext.refl _ | with_reducible (first | assumption | refine Ext.drew ?_ | refine Ext.alloc ?_ _ | refine Ext.drewN ?_ _ | refine Ext.setCell ?_ (by omega) _ | refine Ext.trans ?_ (by assumption))))), ?_, ?_, ?_, ?_, ?_, fun o => ?_, ?_, fun o => ?_, ?_, ?_⟩ <;> simp [go_sem]
  have hz : (((((((w.alloc (.cells #[.func (.func F) #[] #[]] 162)).alloc (.cells #[.pointer (some ⟨p, 0, none⟩)] 136)).alloc (.cells #[.int .i64 k] 3)).alloc (.cells #[.int .i64 0, .int .i64 0] 54)).alloc (.cells #[.bool false] 4)).alloc (.cells #[.pointer (some ⟨p, 0, none⟩)] 136)).alloc (.cells #[.slice none 0 0] 22)).heap.size = w.heap.size + 7 := by simp
  rw [show w.heap.size + 1 + 1 + 1 + 1 + 1 + 1 = w.heap.size + 6 from rfl, show w.heap.size + 1 + 1 + 1 + 1 + 1 = w.heap.size + 5 from rfl, show w.heap.size + 1 + 1 + 1 + 1 = w.heap.size + 4 from rfl, show w.heap.size + 1 + 1 + 1 = w.heap.size + 3 from rfl, show w.heap.size + 1 + 1 = w.heap.size + 2 from rfl]; generalize (((((((w.alloc (.cells #[.func (.func F) #[] #[]] 162)).alloc (.cells #[.pointer (some ⟨p, 0, none⟩)] 136)).alloc (.cells #[.int .i64 k] 3)).alloc (.cells #[.int .i64 0, .int .i64 0] 54)).alloc (.cells #[.bool false] 4)).alloc (.cells #[.pointer (some ⟨p, 0, none⟩)] 136)).alloc (.cells #[.slice none 0 0] 22)) = W0 at *; have HZ := Lib.hid hz; have hz0 : w.heap.size + 7 ≤ W0.heap.size ∧ W0.heap.size ≤ w.heap.size + 7 := by omega
  clear hz
  refine each_wpQ (q := fun k => k = m) (I := Stl m) (n := (truthsD c []).length) (Arg := ArgT (truthsD c [])) (K := KT p m (w.heap.size + 5) (w.heap.size + 6) A c (.slice none 0 0) []) (by rfl) fn_truthsD (fun i xs W' h => by obtain ⟨v, h2, rfl, -⟩ := h; rfl) (inv_stl m) (fun k hk => by omega)
    (fun i W' => BdJ w p m F k (bdsL (((truthsD c []).take i).map (fun x : DTr × Dmg => f x.2))) W') (fun _ _ => False) (HGV.out _ _) (fun i W' h => HKT.out _ _ W' h.mm h.t1 h.t2)
    (fun i A' B' h hx => h.belq hx hml (by omega)) (fun cd A' B' h hx => h.elim) J0 ?hround ?hdone ?hstop
  case hround =>
    intro i hi W1 xs hj harg hrec1 hs
    obtain ⟨v, h2, rfl, -⟩ := harg; have HD := Lib.hid (HDO.out i hi); have HN := Lib.hid (HNX.out i hi); have HCF := Lib.hid (fun W h => HF.out W ((truthsD c [])[i]).2 h HD.out); clear HF HDO HNX HKT HGV; generalize ((truthsD c [])[i]).2 = d at *; generalize f d = fd at *; generalize bdsL (((truthsD c []).take i).map (fun x : DTr × Dmg => f x.2)) = acc at *; generalize bdsL (((truthsD c []).take (i + 1)).map (fun x : DTr × Dmg => f x.2)) = acc2 at *; obtain ⟨am, s0, s1, s2⟩ := d; simp only [Dmg.v] at *; simp only [Array.zip_eq_zipWith]; (gi_wp2_with fail); refine ⟨Kept.ext (by (repeat (first | exact Ext.refl _ | with_reducible (first | assumption | refine Ext.drew ?_ | refine Ext.alloc ?_ _ | refine Ext.drewN ?_ _ | refine Ext.setCell ?_ (by omega) _ | refine Ext.trans ?_ (by assumption))))), fun W2 hT hrec => ?_⟩
    have XA : Ext W1 (W1.alloc (.cells #[.int .i64 am, .int .i64 s0, .int .i64 s1, .int .i64 s2] 139)) := by (repeat (first | exact Ext.refl _ | with_reducible (first | assumption | refine Ext.drew ?_ | refine Ext.alloc ?_ _ | refine Ext.drewN ?_ _ | refine Ext.setCell ?_ (by omega) _ | refine Ext.trans ?_ (by assumption))))
    have BA : BelQ (fun k => k = m) (Stl m) W0.heap.size (W1.alloc (.cells #[.int .i64 am, .int .i64 s0, .int .i64 s1, .int .i64 s2] 139)) W2 := (below_toQ (hT.below (Nat.le_refl _)) (inv_stl m) (fun k hk => by omega)).mono (by omega); have J2 := (hj.grow XA hml).belq BA hml (by omega); have d0 : W2.cell? ⟨W1.heap.size, 0, none⟩ = some (.int .i64 am) := hT.cell (by omega) (by simp [go_sem]); have d1 : W2.cell? ⟨W1.heap.size, 1, none⟩ = some (.int .i64 s0) := hT.cell (by omega) (by simp [go_sem]); have d2 : W2.cell? ⟨W1.heap.size, 2, none⟩ = some (.int .i64 s1) := hT.cell (by omega) (by simp [go_sem]); have d3 : W2.cell? ⟨W1.heap.size, 3, none⟩ = some (.int .i64 s2) := hT.cell (by omega) (by simp [go_sem]); have b0 := J2.b0; have b1 := J2.b1; have b2 := J2.b2; have HJ2 := Lib.hid J2; clear J2 BA XA hT hj J0; (gi_wp2_with fail); (with_reducible refine (CallsIn.inRound _ (callsIn_wide.2 (HCF.out _ HJ2.out.mm))).mono ?_); rintro e w3 ⟨rfl, hm3⟩; have J3 := HJ2.out.more hm3 hml; have i0 := J3.i0; have r0 := J3.r0; have r1 := J3.r1; have rf := J3.rf; have ff := J3.fi; have HJ3 := Lib.hid J3; have HK3 : Hid (Kept W0.heap.size W2 w3) := Lib.hid (mm_kept hm3 (by omega)); clear J3 hm3 b0 b1 b2 d0 d1 d2 d3; cases acc with
    | none =>
      simp only [Option.isSome_none, Option.getD_none] at i0 r0 r1; (gi_wp2_with fail); have J4 := HJ3.out.first hst.out fd fd; have HK4 : Hid (Kept W0.heap.size W2 (((w3.setCell ⟨w.heap.size + 3, 0, none⟩ (.int .i64 fd)).setCell ⟨w.heap.size + 3, 1, none⟩ (.int .i64 fd)).setCell ⟨w.heap.size + 4, 0, none⟩ (.bool true))) := Lib.hid (kept_set (kept_set (kept_set HK3.out (by omega) _) (by omega) _) (by omega) _); generalize (((w3.setCell ⟨w.heap.size + 3, 0, none⟩ (.int .i64 fd)).setCell ⟨w.heap.size + 3, 1, none⟩ (.int .i64 fd)).setCell ⟨w.heap.size + 4, 0, none⟩ (.bool true)) = w4 at *; (with_reducible refine (CallsIn.inRound _ (callsIn_wide.2 (wider_dd fd fd fd w4))).mono ?_); rintro e w5 ⟨rfl, hx5⟩; have J5 := J4.grow hx5 hml; have r0 := J5.r0; have r1 := J5.r1; have rf := J5.rf; have HJ6 := Lib.hid (J5.range hst.out fd fd rfl); have HK6 : Hid (Kept W0.heap.size W2 _) := Lib.hid (kept_set (T := w.heap.size + 3) (i := 1) (kept_set (T := w.heap.size + 3) (i := 0) (HK4.out.trans (Ext.kept hx5 W0.heap.size)) (by omega) (.int .i64 fd)) (by omega) (.int .i64 fd)); have HN2 : Hid (acc2 = some (fd, fd)) := Lib.hid (by rw [HN.out]; simp [stepB]); clear J4 J5 hx5; (gi_wp2_with fail); exact ⟨HK6.out, by rw [HN2.out]; exact HJ6.out⟩
    | some xy =>
      obtain ⟨x, y⟩ := xy; simp only [Option.isSome_some, Option.getD_some] at i0 r0 r1; (gi_wp2_with fail); (with_reducible refine (CallsIn.inRound _ (callsIn_wide.2 (wider_dd x y fd w3))).mono ?_); rintro e w5 ⟨rfl, hx5⟩; have J5 := HJ3.out.grow hx5 hml; have r0 := J5.r0; have r1 := J5.r1; have rf := J5.rf; have HJ6 := Lib.hid (J5.range hst.out (min x fd) (max y fd) rfl); have HK6 : Hid (Kept W0.heap.size W2 _) := Lib.hid (kept_set (T := w.heap.size + 3) (i := 1) (kept_set (T := w.heap.size + 3) (i := 0) (HK3.out.trans (Ext.kept hx5 W0.heap.size)) (by omega) (.int .i64 (min x fd))) (by omega) (.int .i64 (max y fd))); clear J5 hx5; (gi_wp2_with fail); exact ⟨HK6.out, by rw [HN.out]; exact HJ6.out⟩
  case hdone =>
    rintro W3 hj hd; rw [List.take_length] at hj; generalize hacc : bdsL ((truthsD c []).map (fun x : DTr × Dmg => f x.2)) = acc at *; have HAC := Lib.hid hacc; clear hacc; have r0 := hj.r0; have r1 := hj.r1; have rf := hj.rf; have i0 := hj.i0; have ff := hj.fi; have HJ3 := Lib.hid hj; clear hj J0; (go_wp2_with fail); go_region; (go_wp2_with fail); rw [setCell_same W3 _ _ r0, setCell_same W3 _ _ r1, setCell_same W3 _ _ i0]; have BT : BelQ (fun k => k = m) (Stl m) W0.heap.size W3 (W3.drew.putObj W0.heap.size (.deferred none)) := (below_toQ ((Ext.refl W3).drew) (inv_stl m) (fun k hk => by have := HJ3.out.mm.size; omega)).mono (by have := lt_of_cell HJ3.out.t2; have : W0.heap.size < W3.heap.size := (Array.getElem?_eq_some_iff.1 hd).1; omega) |>.trans (below_toQ ((Turned.put W3.drew W0.heap.size (.deferred none)).below (Nat.le_refl _)) (inv_stl m) (fun k hk => by omega)); have JE := HJ3.out.belq BT hml (by omega); have e0 := JE.r0; have e1 := JE.r1; have e2 := JE.i0; have hl1 : (loadVar 54 ⟨w.heap.size + 3, 0, none⟩).run Tryz.prog (W3.drew.putObj W0.heap.size (.deferred none)) = .ok (.agg #[.int .i64 (acc.getD (0, 0)).1, .int .i64 (acc.getD (0, 0)).2]) (W3.drew.putObj W0.heap.size (.deferred none)) := by simp [go_sem, e0, e1]
    have hl2 : (loadVar 4 ⟨w.heap.size + 4, 0, none⟩).run Tryz.prog (W3.drew.putObj W0.heap.size (.deferred none)) = .ok (.bool acc.isSome) (W3.drew.putObj W0.heap.size (.deferred none)) := by simp [go_sem, e2]
    refine ⟨by simp, .inl ⟨_, _, rfl, run_takeDeferred (w := W3.drew) hd, ?_⟩⟩
    exact ⟨_, results_load_cc rfl _ _ _ _ _ _ rfl hl1 rfl hl2, by rw [HAC.out], JE.mm⟩
  case hstop => exact fun cd W3 h => h.elim
end Go.Proofs.YtegkdnfeceomdaaGreat
