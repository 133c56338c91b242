/- Bundled: what the texts SW SX SZ QA QB SY JD QC say one after another. -/
import Derived.Test.YtegkdnfeceomdaaGreatKC9
import Derived.Deep.RegionHeld3
import Derived.Test.YtegkdnfeceomdaaGreatKC1
set_option linter.unusedSimpArgs false
set_option linter.unusedVariables false
/- Contracts of layer 8: Bounds. -/
namespace Go.Hs
open Go.RowKit
def bndE (c : DCas) : Int := if askD c true ≠ 0 then askD c true else if (truthsD c []).isEmpty then 11 else 0
def bdsD (c : DCas) (f : Dmg → Int) : Int × Int := (bdsL ((truthsD c []).map (fun x : DTr × Dmg => f x.2))).getD (0, 0)
def bnd1 (c : DCas) (k : Nat) : (Int × Int) × (Int × Int) := (bdsD c (fun d => payD d k), bdsD c (fun d => refundD d k))
def bndsD (c : DCas) (n : Nat) : List ((Int × Int) × (Int × Int)) := (List.range n).map (bnd1 c)
theorem bndsD_len (c : DCas) (n : Nat) : (bndsD c n).length = n := by simp [bndsD]
theorem bndsD_next (c : DCas) (n : Nat) : bndsD c (n + 1) = bndsD c n ++ [bnd1 c n] := by simp [bndsD, List.range_succ]
def bndC (b : (Int × Int) × (Int × Int)) : List Value := [.int .i64 b.1.1, .int .i64 b.1.2, .int .i64 b.2.1, .int .i64 b.2.2]
theorem own_mm {m B e k n : Nat} {v : Value} {us : List Value} {w w' : World} (h : w.ownsRow B e k v n us) (hm : MM m w w') (hs : Stl m w) : w'.ownsRow B e k v n us := own_keep h (fun g hg => hm.kp.block g (own_lt h hg).2 (fun e => by
  subst e; obtain ⟨es, clock, hr, -⟩ := hs; rcases h.2 with ⟨e0, -⟩ | ⟨g', cap, cur, e0, -, hg', -⟩
  · rw [e0] at hg; cases hg
  · rw [e0] at hg; simp [Value.ownBlock] at hg
    subst hg; rw [hr] at hg'; cases hg'))
theorem WkD.kp {W0 w w' : World} {p m : Nat} {A : CaseA} {c : DCas} {q : Nat → Prop} (h : WkD W0 p m A c w) (k : KP q w w') (hp : ¬ q p) (hm : ¬ q m) (h0 : ∀ j, q j → W0.heap.size ≤ j) : WkD W0 p m A c w' :=
  ⟨k.toExt h.ext h0, fun i x hi => k.keep hp (h.box i x hi), k.keep hp h.map, h.stl.of (k.block m h.stl.lt hm), fun o => (k.frozen h.lt hp).trans (h.fr o), h.hp, h.hm⟩
theorem askD_cas {c : DCas} {fb : Bool} (h : askD c fb = 0) : CasS c := (caseD_zero (askD_zero h).1).2.1
theorem bdsL_truths {c : DCas} {f : Dmg → Int} : (bdsL ((truthsD c []).map (fun x : DTr × Dmg => f x.2))).isSome = !(truthsD c []).isEmpty := by
  cases h : truthsD c [] with
  | nil => rfl
  | cons x r => exact bdsL_ne (by simp)
end Go.Hs
namespace Go.Proofs.YtegkdnfeceomdaaGreat
open Go.RowKit Go.Hs
attribute [local irreducible] World.setCell World.alloc
theorem fn_anything : FnOK 90 := fun args w => by simp [go_sem]
set_option maxHeartbeats 400000 in
theorem anything_d (w : World) : Calls Tryz.prog 90 #[] w fun e w' => e = .returned (.bool true) ∧ Ext w w' := by
  go_enter Tryz.func90, Tryz.ntmps90
  (go_wp2_with fail); go_ret; exact ⟨rfl, Ext.refl _⟩
theorem ask_any (A : CaseA) (c : DCas) (w : World) (hm : CaseM w A c) : Calls Tryz.prog 89 #[A.v c, .func (.func 90) #[] #[]] w (AskQ A c true w) :=
  asked_d A c w hm 90 #[] true fn_anything (fun _ W _ => anything_d W)
theorem fn_pay : FnOK 91 := fun args w => by simp [go_sem]
theorem fn_refund : FnOK 93 := fun args w => by simp [go_sem]
theorem fn_together : FnOK 94 := fun args w => by simp [go_sem]
theorem soc_ok {k : Nat} (h : k < 3) : (k : Int) = 0 ∨ (k : Int) = 1 ∨ (k : Int) = 2 := by omega
theorem bds_f (p m : Nat) (A : CaseA) (c : DCas) (F : FuncId) (hF : FnOK F) (f : Dmg → Int) (k : Int) (w : World) (hS : CasS c) (hb : KB p m A c w)
    (hf : ∀ W d, MM m w W → DmgOK d → Calls Tryz.prog F #[.pointer (some ⟨p, 0, none⟩), d.v, .int .i64 k] W fun e w' => e = .returned (.int .i64 (f d)) ∧ MM m W w') :
    Calls Tryz.prog 92 #[.agg #[.func (.func F) #[] #[]], .pointer (some ⟨p, 0, none⟩), .int .i64 k] w fun e w' => e = .returned (.tuple #[.agg #[.int .i64 (bdsD c f).1, .int .i64 (bdsD c f).2], .bool (!(truthsD c []).isEmpty)]) ∧ MM m w w' := by
  have h := bounds_dd p m A c F hF f k w hS hb hf; rw [bdsL_truths] at h; exact h
theorem bds_pay (p m : Nat) (A : CaseA) (c : DCas) (k : Nat) (hk : k < 3) (w : World) (hS : CasS c) (hb : KB p m A c w) :
    Calls Tryz.prog 92 #[.agg #[.func (.func 91) #[] #[]], .pointer (some ⟨p, 0, none⟩), .int .i64 k] w fun e w' => e = .returned (.tuple #[.agg #[.int .i64 (bdsD c (fun d => payD d k)).1, .int .i64 (bdsD c (fun d => payD d k)).2], .bool (!(truthsD c []).isEmpty)]) ∧ MM m w w' := by
  exact bds_f p m A c 91 fn_pay (fun d => payD d k) k w hS hb (fun W d hx hd => by
    have kb := hb.mm hx; exact pay_dd p m d k W kb.box.c11 kb.stl hd (soc_ok hk))
theorem bds_refund (p m : Nat) (A : CaseA) (c : DCas) (k : Nat) (hk : k < 3) (w : World) (hS : CasS c) (hb : KB p m A c w) :
    Calls Tryz.prog 92 #[.agg #[.func (.func 93) #[] #[]], .pointer (some ⟨p, 0, none⟩), .int .i64 k] w fun e w' => e = .returned (.tuple #[.agg #[.int .i64 (bdsD c (fun d => refundD d k)).1, .int .i64 (bdsD c (fun d => refundD d k)).2], .bool (!(truthsD c []).isEmpty)]) ∧ MM m w w' := by
  exact bds_f p m A c 93 fn_refund (fun d => refundD d k) k w hS hb (fun W d hx hd => by
    have kb := hb.mm hx; exact refund_dd p m d k W kb.box.c11 kb.stl hd (soc_ok hk))
theorem bds_together (p m : Nat) (A : CaseA) (c : DCas) (k : Int) (w : World) (hS : CasS c) (hb : KB p m A c w) :
    Calls Tryz.prog 92 #[.agg #[.func (.func 94) #[] #[]], .pointer (some ⟨p, 0, none⟩), .int .i64 k] w fun e w' => e = .returned (.tuple #[.agg #[.int .i64 (bdsD c totD).1, .int .i64 (bdsD c totD).2], .bool (!(truthsD c []).isEmpty)]) ∧ MM m w w' := by
  exact bds_f p m A c 94 fn_together totD k w hS hb (fun W d hx hd => by
    have kb := hb.mm hx; exact together_dd p m d k W kb.box.c11 kb.stl hd)
theorem info_bound : (Tryz.prog.info? 81).map (fun i => (i.zero, i.size, i.bytes)) = some (some (.agg #[.int .i64 0, .int .i64 0, .int .i64 0, .int .i64 0]), 4, 32) := by kernel_rfl
def BndQ (c : DCas) (w : World) (e : Ending) (w' : World) : Prop :=
  (bndE c ≠ 0 → e = .returned (.tuple #[.slice none 0 0, .int .i64 (bndE c)])) ∧ (bndE c = 0 → ∃ a q, e = .returned (.tuple #[.slice a c.soc.toNat q, .int .i64 0]) ∧ Hs.Own 4 bndC w.heap.size 81 w' (.slice a c.soc.toNat q) (bndsD c c.soc.toNat)) ∧ Ext w w'
set_option maxRecDepth 100000 in
set_option maxHeartbeats 4000000 in
theorem Bounds_d (A : CaseA) (c : DCas) (w : World) (hm : CaseM w A c) : Calls Tryz.prog 33 #[A.v c] w (BndQ c w) := by
  obtain ⟨i1, hi1, hz10, hz11, hz12⟩ := info_parts info_bound; have HAK := Lib.hid (fun W (hx : Ext w W) => ask_any A c W (hm.ext hx)); have HB1 : Hid (∀ r, askD c true = r → r ≠ 0 → bndE c = r) := Lib.hid (fun r h h0 => by unfold bndE; rw [h, if_pos h0]); have HB2 : Hid (askD c true = 0 → (!(truthsD c []).isEmpty) = false → bndE c = 11) := Lib.hid (fun h h0 => by unfold bndE; rw [h]; cases ht : (truthsD c []).isEmpty <;> simp_all); have HB3 : Hid (askD c true = 0 → (!(truthsD c []).isEmpty) = true → bndE c = 0) := Lib.hid (fun h h0 => by unfold bndE; rw [h]; cases ht : (truthsD c []).isEmpty <;> simp_all); have HBP := Lib.hid (fun (h : askD c true = 0) p m k hk W W0 (hx : Ext w W0) (hb : WkD W0 p m A c W) => bds_pay p m A c k hk W (askD_cas h) (hb.kb (hm.ext hx))); have HBR := Lib.hid (fun (h : askD c true = 0) p m k hk W W0 (hx : Ext w W0) (hb : WkD W0 p m A c W) => bds_refund p m A c k hk W (askD_cas h) (hb.kb (hm.ext hx))); have HSC : Hid (askD c true = 0 → 1 ≤ c.soc ∧ c.soc ≤ 3) := Lib.hid (fun h => (askD_cas h).soc); clear hm; by_cases hE : askD c true = 0
  · have hsc := HSC.out hE; obtain ⟨n, hn, hn1, hn3⟩ : ∃ n : Nat, c.soc = (n : Int) ∧ 1 ≤ n ∧ n ≤ 3 := ⟨c.soc.toNat, by omega, by omega, by omega⟩; have HAK2 : Hid (∀ W, Ext w W → Calls Tryz.prog 89 #[A.v c, .func (.func 90) #[] #[]] W fun e w' => ∃ p m, e = .returned (.tuple #[.pointer (some ⟨p, 0, none⟩), .int .i64 0]) ∧ WkD W p m A c w') := Lib.hid (fun W hx => (HAK.out W hx).mono (fun e w' h => h.2.1 hE)); have HBP2 := Lib.hid (HBP.out hE); have HBR2 := Lib.hid (HBR.out hE); have HB22 := Lib.hid (HB2.out hE); have HB32 := Lib.hid (HB3.out hE); have HQ1 : Hid (∀ W, Ext w W → bndE c = 11 → BndQ c w (.returned (.tuple #[.slice none 0 0, .int .i64 11])) W) := Lib.hid (fun W hx h11 => ⟨fun _ => by rw [h11], fun h => absurd (h11.symm.trans h) (by decide), hx⟩)
    have HQ0 : Hid (∀ W a q, Ext w W → bndE c = 0 → Hs.Own 4 bndC w.heap.size 81 W (.slice a n q) (bndsD c n) → BndQ c w (.returned (.tuple #[.slice a n q, .int .i64 0])) W) := Lib.hid (fun W a q hx h0 ho => ⟨fun h => absurd h0 h, fun _ => by
      have e : c.soc.toNat = n := by omega
      rw [e]; exact ⟨a, q, rfl, ho⟩, hx⟩)
    clear HAK HB1 HB2 HB3 HBP HBR HSC hE hsc; obtain ⟨tb, htb⟩ : ∃ tb, tb = !(truthsD c []).isEmpty := ⟨_, rfl⟩; rw [← htb] at HB22 HB32 HBP2 HBR2; clear htb; obtain ⟨a1, c1, a2, c2, a3, c3, a4, c4⟩ := A; unfold CaseA.v caseV at *; simp only at *; generalize c.bk.pars.length = n1 at *; generalize c.bk.ents.length = n2 at *; generalize c.covs.length = n3 at *; generalize c.clms.length = n4 at *; generalize c.bk.last = last at *; generalize c.bk.owners = owners at *; generalize c.day = day at *; generalize c.parcel = parcel at *; generalize c.llo = llo at *; generalize c.lhi = lhi at *; rw [hn] at HAK2 ⊢; have HNN := Lib.hid hn; clear hn; go_enter Tryz.func33, Tryz.ntmps33
    (go_wp2_with fail); obtain ⟨W0, hW⟩ : ∃ W, W = (w.alloc (.cells #[.int .i64 last, .int .i64 owners, .slice a1 n1 c1, .slice a2 n2 c2, .int .i64 n, .int .i64 day, .int .i64 parcel, .slice a3 n3 c3, .int .i64 llo, .int .i64 lhi, .slice a4 n4 c4] 57)) := ⟨_, rfl⟩; have X : Ext w W0 := by subst hW; (repeat (first | exact Ext.refl _ | with_reducible (first | assumption | refine Ext.drew ?_ | refine Ext.alloc ?_ _ | refine Ext.drewN ?_ _ | refine Ext.setCell ?_ (by omega) _ | refine Ext.trans ?_ (by assumption))))
    have HS : Hid (∀ w', Ext W0 w' → (w'.cell? ⟨w.heap.size, 0, none⟩ = some (.int .i64 last) ∧ w'.cell? ⟨w.heap.size, 1, none⟩ = some (.int .i64 owners) ∧ w'.cell? ⟨w.heap.size, 2, none⟩ = some (.slice a1 n1 c1) ∧ w'.cell? ⟨w.heap.size, 3, none⟩ = some (.slice a2 n2 c2) ∧ w'.cell? ⟨w.heap.size, 4, none⟩ = some (.int .i64 n) ∧ w'.cell? ⟨w.heap.size, 5, none⟩ = some (.int .i64 day) ∧ w'.cell? ⟨w.heap.size, 6, none⟩ = some (.int .i64 parcel) ∧ w'.cell? ⟨w.heap.size, 7, none⟩ = some (.slice a3 n3 c3) ∧ w'.cell? ⟨w.heap.size, 8, none⟩ = some (.int .i64 llo) ∧ w'.cell? ⟨w.heap.size, 9, none⟩ = some (.int .i64 lhi) ∧ w'.cell? ⟨w.heap.size, 10, none⟩ = some (.slice a4 n4 c4)) ∧ Ext W0 w') := Lib.hid (fun w' hx => ⟨⟨hx.keep (by subst hW; simp [go_sem]), hx.keep (by subst hW; simp [go_sem]), hx.keep (by subst hW; simp [go_sem]), hx.keep (by subst hW; simp [go_sem]), hx.keep (by subst hW; simp [go_sem]), hx.keep (by subst hW; simp [go_sem]), hx.keep (by subst hW; simp [go_sem]), hx.keep (by subst hW; simp [go_sem]), hx.keep (by subst hW; simp [go_sem]), hx.keep (by subst hW; simp [go_sem]), hx.keep (by subst hW; simp [go_sem])⟩, hx⟩); have HSf : Hid (∀ w', Ext W0 w' → ∀ o, w'.frozen? ⟨w.heap.size, o, none⟩ = false) := Lib.hid (fun w' hx o => (hx.frozen (by subst hW; simp)).trans (by subst hW; simp [go_sem])); have HSz : w.heap.size + 1 ≤ W0.heap.size := by subst hW; simp
    rw [← hW]; clear hW; (with_reducible refine (HAK2.out _ X).mono ?_); rintro e w1 ⟨p, m, rfl, hwk⟩; obtain ⟨⟨q0, q1, q2, q3, q4, q5, q6, q7, q8, q9, q10⟩, -⟩ := HS.out w1 hwk.ext; have HW1 := Lib.hid hwk; clear HS HSf HAK2 hwk; (go_wp2_with fail); go_loopw [6, 22] (fun s6 s22 wr => ∃ (k m' : Nat) (a5 : Option Addr) (cq : Nat), k ≤ n ∧ m' = k ∧ s22 = .int .i64 k ∧ s6 = .slice a5 m' cq ∧ Hid (Hs.Own 4 bndC w1.heap.size 81 wr (.slice a5 m' cq) (bndsD c k)) ∧ Hid (WkD W0 p m ⟨a1, c1, a2, c2, a3, c3, a4, c4⟩ c wr) ∧ w1.heap.size ≤ wr.heap.size ∧ Hid (k = 0 ∨ tb = true)) (fun _ s _ => n - (intOf s).toNat)
    case atStart => exact ⟨0, 0, none, 0, Nat.zero_le _, rfl, rfl, rfl, Lib.hid (Hs.Own.nil _), HW1, Nat.le_refl _, Lib.hid (.inl rfl)⟩
    case round =>
      obtain ⟨k, m', a5, cq, hk, hmk, rfl, rfl, HO, HW, hz1, HT⟩ := hrel; obtain ⟨wo, rfl⟩ : ∃ x, x = wr := ⟨_, rfl⟩; by_cases hlt : k < n
      · have hk0 : (0 : Int) ≤ (k : Int) := by omega
        have hk1 : (k : Int) < (n : Int) := by omega
        have hk3 : k < 3 := by omega
        have HM := Lib.hid hmk; have HNX := Lib.hid (bndsD_next c k); have HL := Lib.hid (bndsD_len c k); have hml : m' ≤ 3 := by omega
        have HB1 : Hid (bnd1 c k = ((( bdsD c (fun d => payD d k)).1, (bdsD c (fun d => payD d k)).2), ((bdsD c (fun d => refundD d k)).1, (bdsD c (fun d => refundD d k)).2))) := rfl; have HP := Lib.hid (fun W hb => HBP2.out p m k hk3 W W0 X hb); have HR := Lib.hid (fun W hb => HBR2.out p m k hk3 W W0 X hb); generalize (bdsD c (fun d => payD d k)).1 = pl at *; generalize (bdsD c (fun d => payD d k)).2 = ph at *; generalize (bdsD c (fun d => refundD d k)).1 = rl at *; generalize (bdsD c (fun d => refundD d k)).2 = rh at *; clear hmk; (go_wp2_with fail); (with_reducible refine (HP.out _ HW.out).mono ?_); rintro e w2 ⟨rfl, hm2⟩; have HW2 := Lib.hid (HW.out.mm hm2); have hz2 : wo.heap.size ≤ w2.heap.size := hm2.size; have HO2 : Hid (Hs.Own 4 bndC w1.heap.size 81 w2 (.slice a5 m' cq) (bndsD c k)) := Lib.hid (own_mm HO.out hm2 HW.out.stl); clear hm2; (go_wp2_with fail); (with_reducible refine (HR.out _ (HW2.out.grow (by (repeat (first | exact Ext.refl _ | with_reducible (first | assumption | refine Ext.drew ?_ | refine Ext.alloc ?_ _ | refine Ext.drewN ?_ _ | refine Ext.setCell ?_ (by omega) _ | refine Ext.trans ?_ (by assumption))))))).mono ?_); rintro e w3 ⟨rfl, hm3⟩; have hs2 : m < w2.heap.size := HW2.out.stl.lt; have XA : Ext w2 (w2.alloc (.cells #[.int .i64 pl, .int .i64 ph] 54)) := by (repeat (first | exact Ext.refl _ | with_reducible (first | assumption | refine Ext.drew ?_ | refine Ext.alloc ?_ _ | refine Ext.drewN ?_ _ | refine Ext.setCell ?_ (by omega) _ | refine Ext.trans ?_ (by assumption))))
        have b0 := hm3.keep' (k := w2.heap.size) (o := 0) (v := .int .i64 pl) (by omega) (by simp [go_sem]); have b1 := hm3.keep' (k := w2.heap.size) (o := 1) (v := .int .i64 ph) (by omega) (by simp [go_sem]); have hz3 : w2.heap.size < w3.heap.size := lt_of_cell b0; have HW3 := Lib.hid ((HW2.out.grow XA).mm hm3); have HO3 : Hid (Hs.Own 4 bndC w1.heap.size 81 w3 (.slice a5 m' cq) (bndsD c k)) := Lib.hid (own_mm (own_extR HO2.out XA) hm3 (HW2.out.grow XA).stl); clear hm3 XA; cases tb with
        | false =>
          have H11 := Lib.hid (HB22.out rfl); have XE : Ext w w3 := X.trans HW3.out.ext; clear b0 b1; (go_wp2_with fail); go_ret2; exact HQ1.out _ (by (repeat (first | exact Ext.refl _ | with_reducible (first | assumption | refine Ext.drew ?_ | refine Ext.alloc ?_ _ | refine Ext.drewN ?_ _ | refine Ext.setCell ?_ (by omega) _ | refine Ext.trans ?_ (by assumption))))) H11.out
        | true =>
          have hsz : w1.heap.size ≤ w3.heap.size := by omega
          have b0a := fun o => ((Ext.refl w3).alloc o).keep b0
          have b1a := fun o => ((Ext.refl w3).alloc o).keep b1
          have HLM : Hid (m' = (bndsD c k).length) := Lib.hid (by rw [HL.out]; exact HM.out); go_wp2_with (at_builtin; refine wpList_append_own_at _ rfl _ _ 68 rfl w1.heap.size 81 i1 (.agg #[.int .i64 0, .int .i64 0, .int .i64 0, .int .i64 0]) 4 32 Tryz.underlying68 hi1 hz10 hz11 hz12 rfl (by decide) (.slice a5 m' cq) m' ((bndsD c k).flatMap bndC) rfl ?own ⟨w3.heap.size + 1, 0, none⟩ 1 1 [.int .i64 pl, .int .i64 ph, .int .i64 rl, .int .i64 rh] rfl rfl (cells_four (Ext.refl _) (by simp)) ?one ?f1 ?f2 ?f3 ?next)
          case own =>
            have h := own_extR HO3.out (W' := ((w3.alloc (.cells #[.int .i64 rl, .int .i64 rh] 54)).alloc (.cells #[.int .i64 pl, .int .i64 ph, .int .i64 rl, .int .i64 rh] 81))) (by (repeat (first | exact Ext.refl _ | with_reducible (first | assumption | refine Ext.drew ?_ | refine Ext.alloc ?_ _ | refine Ext.drewN ?_ _ | refine Ext.setCell ?_ (by omega) _ | refine Ext.trans ?_ (by assumption))))); rw [← HLM.out] at h; exact h
          case one => intro u hu; simp only [List.mem_cons, List.not_mem_nil, or_false] at hu; rcases hu with rfl | rfl | rfl | rfl <;> rfl
          case f1 => simp only [maxLen]; omega
          case f2 => omega
          case f3 => simp; omega
          case next =>
            intro v' w7 hown hgrow hnil hat
            have hbl : ∀ g, (Value.slice a5 m' cq).ownBlock = some g → w1.heap.size ≤ g := fun g hg => (own_lt HO3.out hg).1
            have hk7 : KP (fun j => (Value.slice a5 m' cq).ownBlock = some j) w3 w7 := KP.trans (Ext.kp (by (repeat (first | exact Ext.refl _ | with_reducible (first | assumption | refine Ext.drew ?_ | refine Ext.alloc ?_ _ | refine Ext.drewN ?_ _ | refine Ext.setCell ?_ (by omega) _ | refine Ext.trans ?_ (by assumption)))))) (KP.grown hgrow (fun g hg => hg)); have HW7 : Hid (WkD W0 p m ⟨a1, c1, a2, c2, a3, c3, a4, c4⟩ c w7) := Lib.hid (HW3.out.kp hk7 (fun h => by have := hbl _ h; have := HW1.out.lt; omega) (fun h => by have := hbl _ h; have := HW1.out.stl.lt; omega) (fun j hj => by have := hbl _ hj; have := HW1.out.ext.size; omega)); have hz7 : w1.heap.size ≤ w7.heap.size := by have := hk7.size; omega
            have HUR : Hid (Hs.Own 4 bndC w1.heap.size 81 w7 v' (bndsD c (k + 1))) := Lib.hid (by rw [HNX.out]; exact Hs.Own.next hown (by rw [HLM.out]) (by rw [HB1.out]; rfl)); clear hnil hat hgrow hk7 hbl; rcases own_open hown with ⟨-, h0⟩ | ⟨g', cap, rfl, -, -, -, -⟩
            · omega
            · clear hown; (go_wp2_with fail); go_roundw
              case rel => exact ⟨k + 1, m' + 1, _, _, by omega, by rw [HM.out], by go_num, rfl, HUR, HW7, hz7, Lib.hid (by simp)⟩
              case measure => simp [intOf]; omega
      · obtain rfl : k = n := by omega
        have H0 := Lib.hid (HB32.out (by rcases HT.out with h | h <;> first | exact h | omega)); have XE : Ext w wo := X.trans HW.out.ext; have HOE : Hid (Hs.Own 4 bndC w1.heap.size 81 wo (.slice a5 k cq) (bndsD c k)) := Lib.hid (by rw [← hmk]; rw [hmk]; rw [hmk] at HO; exact HO.out); subst hmk; (go_wp2_with fail); go_ret2; exact HQ0.out _ _ _ XE H0.out (HOE.out.base (by have := (X.trans HW1.out.ext).size; omega))
  · have HN := Lib.hid hE; have HR := Lib.hid (HB1.out _ rfl hE); have hb : (askD c true != 0) = true := by rw [bne_iff_ne]; exact hE
    have HAK2 : Hid (∀ W, Ext w W → Calls Tryz.prog 89 #[A.v c, .func (.func 90) #[] #[]] W fun e w' => e = .returned (.tuple #[.pointer none, .int .i64 (askD c true)]) ∧ Ext W w') := Lib.hid (fun W hx => (HAK.out W hx).mono (fun e w' h => ⟨h.1 HN.out, h.2.2⟩)); have HQ : Hid (∀ W, Ext w W → BndQ c w (.returned (.tuple #[.slice none 0 0, .int .i64 (askD c true)])) W) := Lib.hid (fun W hx => ⟨fun _ => by rw [HR.out], fun h => absurd (HR.out.symm.trans h) HN.out, hx⟩); clear HAK HB1 HB2 HB3 HBP HBR HSC hE; generalize askD c true = r at *; obtain ⟨a1, c1, a2, c2, a3, c3, a4, c4⟩ := A; unfold CaseA.v caseV at *; simp only at *; go_enter Tryz.func33, Tryz.ntmps33
    (go_wp2_with fail); (with_reducible refine (HAK2.out _ (by (repeat (first | exact Ext.refl _ | with_reducible (first | assumption | refine Ext.drew ?_ | refine Ext.alloc ?_ _ | refine Ext.drewN ?_ _ | refine Ext.setCell ?_ (by omega) _ | refine Ext.trans ?_ (by assumption)))))).mono ?_); rintro e w1 ⟨rfl, hx1⟩; have X1 : Ext w w1 := by (repeat (first | exact Ext.refl _ | with_reducible (first | assumption | refine Ext.drew ?_ | refine Ext.alloc ?_ _ | refine Ext.drewN ?_ _ | refine Ext.setCell ?_ (by omega) _ | refine Ext.trans ?_ (by assumption))))
    clear hx1; (go_wp2_with fail); go_ret2; exact HQ.out _ X1
end Go.Proofs.YtegkdnfeceomdaaGreat
/- Contracts of layer 8: Total. -/
namespace Go.Proofs.YtegkdnfeceomdaaGreat
open Go.RowKit Go.Hs
attribute [local irreducible] World.setCell World.alloc
theorem ask_no (A : CaseA) (c : DCas) (w : World) (hm : CaseM w A c) (h : askD c true ≠ 0) : Calls Tryz.prog 89 #[A.v c, .func (.func 90) #[] #[]] w fun e w' => e = .returned (.tuple #[.pointer none, .int .i64 (askD c true)]) ∧ Ext w w' :=
  (ask_any A c w hm).mono (fun e w' q => ⟨q.1 h, q.2.2⟩)
theorem ask_yes (A : CaseA) (c : DCas) (w : World) (hm : CaseM w A c) (h : askD c true = 0) : Calls Tryz.prog 89 #[A.v c, .func (.func 90) #[] #[]] w fun e w' => ∃ p m, e = .returned (.tuple #[.pointer (some ⟨p, 0, none⟩), .int .i64 0]) ∧ WkD w p m A c w' :=
  (ask_any A c w hm).mono (fun e w' q => q.2.1 h)
def totR (c : DCas) : Int × Int := if bndE c = 0 then bdsD c totD else (0, 0)
set_option maxRecDepth 100000 in
set_option maxHeartbeats 4000000 in
theorem Total_d (A : CaseA) (c : DCas) (w : World) (hm : CaseM w A c) : Calls Tryz.prog 34 #[A.v c] w fun e w' => e = .returned (.tuple #[.agg #[.int .i64 (totR c).1, .int .i64 (totR c).2], .int .i64 (bndE c)]) ∧ Ext w w' := by
  have HNO := Lib.hid (fun h W (hx : Ext w W) => ask_no A c W (hm.ext hx) h); have HYE := Lib.hid (fun h W (hx : Ext w W) => ask_yes A c W (hm.ext hx) h); have HBT := Lib.hid (fun (h : askD c true = 0) p m W W0 (hx : Ext w W0) (hb : WkD W0 p m A c W) => bds_together p m A c 0 W (askD_cas h) (hb.kb (hm.ext hx)))
  have HB1 : Hid (∀ r, askD c true = r → r ≠ 0 → bndE c = r ∧ totR c = (0, 0)) := Lib.hid (fun r h h0 => by
    have e : bndE c = r := by unfold bndE; rw [h, if_pos h0]
    exact ⟨e, by unfold totR; rw [e, if_neg h0]⟩)
  have HB2 : Hid (askD c true = 0 → (!(truthsD c []).isEmpty) = false → bndE c = 11 ∧ totR c = (0, 0)) := Lib.hid (fun h h0 => by
    have e : bndE c = 11 := by unfold bndE; rw [h]; cases ht : (truthsD c []).isEmpty <;> simp_all
    exact ⟨e, by unfold totR; rw [e]; rfl⟩)
  have HB3 : Hid (askD c true = 0 → (!(truthsD c []).isEmpty) = true → bndE c = 0 ∧ totR c = bdsD c totD) := Lib.hid (fun h h0 => by
    have e : bndE c = 0 := by unfold bndE; rw [h]; cases ht : (truthsD c []).isEmpty <;> simp_all
    exact ⟨e, by unfold totR; rw [e]; rfl⟩)
  clear hm; by_cases hE : askD c true = 0
  · have HYE2 := Lib.hid (HYE.out hE); have HBT2 := Lib.hid (HBT.out hE); have HB22 := Lib.hid (HB2.out hE); have HB32 := Lib.hid (HB3.out hE); clear HNO HYE HBT HB1 HB2 HB3 hE; obtain ⟨tb, htb⟩ : ∃ tb, tb = !(truthsD c []).isEmpty := ⟨_, rfl⟩; rw [← htb] at HB22 HB32 HBT2; clear htb; generalize totR c = tr at *; generalize bndE c = be at *; obtain ⟨a1, c1, a2, c2, a3, c3, a4, c4⟩ := A; unfold CaseA.v caseV at *; simp only at *; go_enter Tryz.func34, Tryz.ntmps34
    (go_wp2_with fail); (with_reducible refine (HYE2.out _ (by (repeat (first | exact Ext.refl _ | with_reducible (first | assumption | refine Ext.drew ?_ | refine Ext.alloc ?_ _ | refine Ext.drewN ?_ _ | refine Ext.setCell ?_ (by omega) _ | refine Ext.trans ?_ (by assumption)))))).mono ?_); rintro e w1 ⟨p, m, rfl, hwk⟩; have X0 := Lib.hid hwk.ext; have r0 := hwk.ext.keep (k := w.heap.size + 1) (o := 0) (v := .int .i64 0) (by simp [go_sem]); have r1 := hwk.ext.keep (k := w.heap.size + 1) (o := 1) (v := .int .i64 0) (by simp [go_sem]); have rf : ∀ o, w1.frozen? ⟨w.heap.size + 1, o, none⟩ = false := fun o => (hwk.ext.frozen (by simp)).trans (by simp [go_sem])
    have HT := Lib.hid (HBT2.out p m w1 _ (by (repeat (first | exact Ext.refl _ | with_reducible (first | assumption | refine Ext.drew ?_ | refine Ext.alloc ?_ _ | refine Ext.drewN ?_ _ | refine Ext.setCell ?_ (by omega) _ | refine Ext.trans ?_ (by assumption))))) hwk); have hst := hwk.stl; have XW : Ext w w1 := Ext.trans (by (repeat (first | exact Ext.refl _ | with_reducible (first | assumption | refine Ext.drew ?_ | refine Ext.alloc ?_ _ | refine Ext.drewN ?_ _ | refine Ext.setCell ?_ (by omega) _ | refine Ext.trans ?_ (by assumption))))) hwk.ext; have hmw : w.heap.size + 2 ≤ m := by have := hwk.hm; simpa using this
    clear hwk HYE2 HBT2; (go_wp2_with fail); (with_reducible refine HT.out.mono ?_); rintro e w2 ⟨rfl, hm2⟩; have hnm : ¬ w.heap.size + 1 = m := by omega
    replace rf := fun o => (hm2.kp.frozen (o := o) (lt_of_cell r0) hnm).trans (rf o)
    replace r0 := hm2.keep' (by omega) r0; replace r1 := hm2.keep' (by omega) r1; have XE : Ext w w2 := hm2.toExt XW (by omega); have hz2 : w.heap.size + 1 < w2.heap.size := lt_of_cell r0; clear hst hm2; have ne0 : ¬ w.heap.size + 1 = w2.heap.size := by omega
    have r0a := fun o => ((Ext.refl w2).alloc o).keep r0
    have r1a := fun o => ((Ext.refl w2).alloc o).keep r1
    have rfa := fun o b => (((Ext.refl w2).alloc o).frozen (o := b) hz2).trans (rf b)
    have HEC : Hid (∀ (x y : Int) (o : Obj), (((w2.setCell ⟨w.heap.size + 1, 0, none⟩ (.int .i64 x)).setCell ⟨w.heap.size + 1, 1, none⟩ (.int .i64 y)).alloc o).cell? ⟨w.heap.size + 1, 0, none⟩ = some (.int .i64 x) ∧ (((w2.setCell ⟨w.heap.size + 1, 0, none⟩ (.int .i64 x)).setCell ⟨w.heap.size + 1, 1, none⟩ (.int .i64 y)).alloc o).cell? ⟨w.heap.size + 1, 1, none⟩ = some (.int .i64 y)) := Lib.hid (fun x y o =>
      ⟨((Ext.refl _).alloc o).keep (cell_ne (.inr (by decide)) (World.cell?_setCell_same _ _ _ r0)), ((Ext.refl _).alloc o).keep (World.cell?_setCell_same _ _ _ (cell_ne (.inr (by decide)) r1))⟩)
    cases tb with
    | false =>
      obtain ⟨rfl, rfl⟩ := HB22.out rfl; clear HB22 HB32; (go_wp2_with fail); refine bodyPost_ret (v := .tuple #[.agg #[.int .i64 0, .int .i64 0], .int .i64 11]) (by have h := HEC.out 0 0 (.cells #[.int .i64 (bdsD c totD).1, .int .i64 (bdsD c totD).2] 54); simp [results, Tryz.results34, go_sem, h.1, h.2]) rfl ⟨rfl, ?_⟩
      exact ((XE.setCell (by omega) _).setCell (by omega) _).alloc _
    | true =>
      obtain ⟨rfl, rfl⟩ := HB32.out rfl; clear HB22 HB32; (go_wp2_with fail); refine bodyPost_ret (v := .tuple #[.agg #[.int .i64 (bdsD c totD).1, .int .i64 (bdsD c totD).2], .int .i64 0]) (by have h := HEC.out (bdsD c totD).1 (bdsD c totD).2 (.cells #[.int .i64 (bdsD c totD).1, .int .i64 (bdsD c totD).2] 54); simp [results, Tryz.results34, go_sem, h.1, h.2]) rfl ⟨rfl, ?_⟩
      exact ((XE.setCell (by omega) _).setCell (by omega) _).alloc _
  · have HN := Lib.hid hE; have hb : (askD c true != 0) = true := by rw [bne_iff_ne]; exact hE
    have HNO2 := Lib.hid (HNO.out hE); have HR := Lib.hid (HB1.out _ rfl hE); clear HNO HYE HBT HB1 HB2 HB3 hE; rw [HR.out.1, HR.out.2]; generalize askD c true = r at *; obtain ⟨a1, c1, a2, c2, a3, c3, a4, c4⟩ := A; unfold CaseA.v caseV at *; simp only at *; go_enter Tryz.func34, Tryz.ntmps34
    (go_wp2_with fail); (with_reducible refine (HNO2.out _ (by (repeat (first | exact Ext.refl _ | with_reducible (first | assumption | refine Ext.drew ?_ | refine Ext.alloc ?_ _ | refine Ext.drewN ?_ _ | refine Ext.setCell ?_ (by omega) _ | refine Ext.trans ?_ (by assumption)))))).mono ?_); rintro e w1 ⟨rfl, hx1⟩; have r0 := hx1.keep (k := w.heap.size + 1) (o := 0) (v := .int .i64 0) (by simp [go_sem]); have r1 := hx1.keep (k := w.heap.size + 1) (o := 1) (v := .int .i64 0) (by simp [go_sem]); have rf : ∀ o, w1.frozen? ⟨w.heap.size + 1, o, none⟩ = false := fun o => (hx1.frozen (by simp)).trans (by simp [go_sem])
    have X1 : Ext w w1 := by (repeat (first | exact Ext.refl _ | with_reducible (first | assumption | refine Ext.drew ?_ | refine Ext.alloc ?_ _ | refine Ext.drewN ?_ _ | refine Ext.setCell ?_ (by omega) _ | refine Ext.trans ?_ (by assumption))))
    clear hx1; (go_wp2_with fail); refine bodyPost_ret (v := .tuple #[.agg #[.int .i64 0, .int .i64 0], .int .i64 r]) (by simp [results, Tryz.results34, go_sem, r0, r1]) rfl ⟨rfl, ?_⟩
    exact (X1.setCell (by omega) _).setCell (by omega) _
end Go.Proofs.YtegkdnfeceomdaaGreat
/- Contracts of layer 8: Play. -/
namespace Go.Hs
open Go.RowKit
theorem getD_appl {l r : List Int} {i : Nat} (h : i < l.length) : (l ++ r).getD i 0 = l.getD i 0 := by
  simp [List.getD_eq_getElem?_getD, List.getElem?_append_left h]
theorem getD_appr {l r : List Int} {i : Nat} (h : l.length ≤ i) : (l ++ r).getD i 0 = r.getD (i - l.length) 0 := by
  simp [List.getD_eq_getElem?_getD, List.getElem?_append_right h]
theorem listedD_ok {c : DCas} {t : DTr} (h : listedD c t = true) : TruOK c t := by
  have h0 := h; unfold listedD at h; simp only [Bool.and_eq_true, decide_eq_true_eq] at h; obtain ⟨l1, l2, l3, -⟩ := h; rw [listedD_yes l1 l2 l3, List.all_eq_true] at h0
  have hr : ∀ i (hi : i < (rngsD c).length), (rngsD c)[i].1 ≤ (numsT t).getD i 0 ∧ (numsT t).getD i 0 ≤ (rngsD c)[i].2 := fun i hi => by
    have := h0 i (List.mem_range.2 hi); rw [inR_iff] at this; have e : (rngsD c).getD i default = (rngsD c)[i] := by simp [hi]
    rw [e] at this; exact this
  have hn := rngsD_len c; refine ⟨l1, l2, l3, ?_, ?_⟩
  · unfold listedK; rw [decide_eq_true l1, decide_eq_true l2, Bool.true_and, Bool.true_and, Bool.and_eq_true]; refine ⟨List.all_eq_true.2 (fun i hi => ?_), List.all_eq_true.2 (fun i hi => ?_)⟩
    · have hi := List.mem_range.1 hi; have := hr i (by omega)
      have eq : (rngsD c)[i]'(by omega) = ((c.bk.ents[i]).dlo, (c.bk.ents[i]).dhi) := by
        unfold rngsD; rw [List.getElem_append_left (by simpa using hi)]; simp
      rw [eq] at this
      have e4 : (numsT t).getD i 0 = t.days.getD i 0 := by
        unfold numsT; rw [getD_appl (by omega)]
      have e5 : c.bk.ents.getD i default = c.bk.ents[i] := by simp [hi]
      rw [e4] at this; rw [e5, inR_iff]; exact this
    · have hi := List.mem_range.1 hi; have := hr (c.bk.ents.length + i) (by omega)
      have eq : (rngsD c)[c.bk.ents.length + i]'(by omega) = ((c.bk.pars[i]).slo, (c.bk.pars[i]).shi) := by
        unfold rngsD; rw [List.getElem_append_right (by simp)]; simp only [List.length_map, Nat.add_sub_cancel_left]; rw [List.getElem_append_left (by simpa using hi)]; simp
      rw [eq] at this
      have e4 : (numsT t).getD (c.bk.ents.length + i) 0 = t.sown.getD i 0 := by
        unfold numsT; rw [getD_appr (by omega), l1, Nat.add_sub_cancel_left, getD_appl (by omega)]
      have e5 : c.bk.pars.getD i default = c.bk.pars[i] := by simp [hi]
      rw [e4] at this; rw [e5, inR_iff]; exact this
  · have := hr (c.bk.ents.length + c.bk.pars.length + c.covs.length) (by omega)
    have eq : (rngsD c)[c.bk.ents.length + c.bk.pars.length + c.covs.length]'(by omega) = (c.llo, c.lhi) := by
      unfold rngsD; rw [List.getElem_append_right (by simp; omega)]; rw [List.getElem_append_right (by simp; omega)]; rw [List.getElem_append_right (by simp; omega)]; simp
    rw [eq] at this
    have e4 : (numsT t).getD (c.bk.ents.length + c.bk.pars.length + c.covs.length) 0 = t.loss := by
      unfold numsT; rw [getD_appr (by omega), getD_appr (by omega), getD_appr (by omega)]; have : c.bk.ents.length + c.bk.pars.length + c.covs.length - t.days.length - t.sown.length - t.starts.length = 0 := by omega
      rw [this]; rfl
    rw [e4] at this; exact this
def playDE (c : DCas) (t : DTr) : Int := if caseD c ≠ 0 then caseD c else if listedD c t then (match damD c t with | none => 11 | some d => if goodD c [] d then 0 else 11) else 2
def payL (d : Dmg) (n : Nat) : List Int := [(paysD d).1, (paysD d).2.1, (paysD d).2.2].take n
theorem goodD_nil {c : DCas} {d : Dmg} : goodD c [] d = c.clms.all (fun x => rightD x d) := by
  rw [← all_list]; unfold goodD allB; simp
theorem cells3_mm {m : Nat} {a : Option Addr} {us : List V3} {w w' : World} (h : Cells3 w a us) (k : MM m w w') (hs : Stl m w) : Cells3 w' a us := fun i hi => by
  obtain ⟨b, o, e, h0, h1, h2⟩ := h i hi; exact ⟨b, o, e, k.keep hs h0, k.keep hs h1, k.keep hs h2⟩
end Go.Hs
namespace Go.Proofs.YtegkdnfeceomdaaGreat
open Go.RowKit Go.Hs
attribute [local irreducible] World.setCell World.alloc
theorem allm_clm (m : Nat) (F : FuncId) (hF : FnOK F) (first caps : Array Value) (a : Option Addr) (c : Nat) (us : List V3) (q : Nat → Bool) (w : World)
    (hlen : us.length ≤ 140737488351232) (hrow : Cells3 w a us) (hs : Stl m w)
    (hcall : ∀ i (h : i < us.length) w1, MM m w w1 → Calls Tryz.prog F (first.push us[i].val ++ caps) w1 fun e w2 => e = .returned (.bool (q i)) ∧ MM m w1 w2) :
    Calls Tryz.prog 72 #[.slice a us.length c, .func (.func F) first caps] w fun e w' => e = .returned (.bool (allB us.length q)) ∧ MM m w w' :=
  (all_clm F hF first caps a c us q (fun _ w' => MM m w w') w hlen (fun _ _ h => cells3_mm hrow h hs) (fun _ _ o h => h.alloc o)
    (fun i h w1 _ hI => (hcall i h w1 hI).mono fun _ _ h2 => ⟨h2.1, hI.trans h2.2, mm_kept h2.2 hs.lt⟩) (MM.refl w)).mono fun _ _ ⟨_, _, hI, he⟩ => ⟨he, hI⟩
theorem fn_play1 : FnOK 73 := fun args w => by simp [go_sem]
set_option maxRecDepth 100000 in
set_option maxHeartbeats 4000000 in
theorem play1_d (p m b8 b9 : Nat) (x : Clm) (d : Dmg) (w : World) (h8 : w.cell? ⟨b8, 0, none⟩ = some (.pointer (some ⟨p, 0, none⟩))) (h9 : ∀ j v, ([.int .i64 d.amount, .int .i64 d.s0, .int .i64 d.s1, .int .i64 d.s2] : List Value)[j]? = some v → w.cell? ⟨b9, j, none⟩ = some v)
    (hp : w.cell? ⟨p, 11, none⟩ = some (.map (some m))) (hs : Stl m w) (hd : DmgOK d) (hx : x.soc = 0 ∨ x.soc = 1 ∨ x.soc = 2) :
    Calls Tryz.prog 73 #[x.c.val, .pointer (some ⟨b8, 0, none⟩), .pointer (some ⟨b9, 0, none⟩)] w fun e w' => e = .returned (.bool (rightD x d)) ∧ MM m w w' := by
  have HR := Lib.hid (fun W (h : MM m w W) => right_d p m x d W (h.keep hs hp) (h.stl hs) hd hx); have c0 := h9 0 _ rfl; have c1 := h9 1 _ rfl; have c2 := h9 2 _ rfl; have c3 := h9 3 _ rfl; have n8 : b8 < w.heap.size := lt_of_cell h8; have n9 : b9 < w.heap.size := lt_of_cell c0; have n8' : ¬ b8 = w.heap.size := by omega
  have n9' : ¬ b9 = w.heap.size := by omega
  clear hp hs hd hx h9; generalize rightD x d = r at *; obtain ⟨am, s0, s1, s2⟩ := d; obtain ⟨so, lo, hi⟩ := x; simp only [Dmg.v, Clm.c, V3.val] at *; go_enter Tryz.func73, Tryz.ntmps73
  (go_wp2_with fail); (with_reducible refine (HR.out _ (by (repeat (first | exact MM.refl _ | with_reducible (first | assumption | refine MM.drew ?_ | refine MM.alloc ?_ _ | refine MM.ext ?_ (by assumption) | refine MM.trans ?_ (by assumption) | refine Ext.mm (by assumption)))))).mono ?_); rintro e w1 ⟨rfl, hm1⟩; have M1 : MM m w w1 := by (repeat (first | exact MM.refl _ | with_reducible (first | assumption | refine MM.drew ?_ | refine MM.alloc ?_ _ | refine MM.ext ?_ (by assumption) | refine MM.trans ?_ (by assumption) | refine Ext.mm (by assumption))))
  (go_wp2_with fail); go_ret; exact ⟨rfl, M1⟩
theorem allright (p m b8 b9 : Nat) (A : CaseA) (c : DCas) (d : Dmg) (w : World) (hS : CasS c) (hb : KB p m A c w) (h8 : w.cell? ⟨b8, 0, none⟩ = some (.pointer (some ⟨p, 0, none⟩))) (h9 : ∀ j v, ([.int .i64 d.amount, .int .i64 d.s0, .int .i64 d.s1, .int .i64 d.s2] : List Value)[j]? = some v → w.cell? ⟨b9, j, none⟩ = some v) (hd : DmgOK d) :
    Calls Tryz.prog 72 #[.slice A.a4 c.clms.length A.c4, .func (.func 73) #[] #[.pointer (some ⟨b8, 0, none⟩), .pointer (some ⟨b9, 0, none⟩)]] w fun e w' => e = .returned (.bool (goodD c [] d)) ∧ MM m w w' := by
  have hl := hb.cas.l4.2
  have h := allm_clm m 73 fn_play1 #[] #[.pointer (some ⟨b8, 0, none⟩), .pointer (some ⟨b9, 0, none⟩)] A.a4 A.c4 (c.clms.map Clm.c) (fun i => rightD (c.clms.getD i default) d) w (by simp; omega) hb.cas.clms hb.stl
    (fun i hi w1 hx => by
      have hi' : i < c.clms.length := by simpa using hi
      have e1 : (c.clms.map Clm.c)[i] = (c.clms[i]).c := by simp
      rw [e1]; have h1 := hS.clm _ (List.getElem_mem hi'); have h2 := hS.soc; simp only [clmB, socB, Bool.and_eq_true, inR_iff] at h1; refine (play1_d p m b8 b9 c.clms[i] d w1 (hx.keep hb.stl h8) (fun j v hj => hx.keep hb.stl (h9 j v hj)) (hx.keep hb.stl hb.box.c11) (hx.stl hb.stl) hd (by omega)).mono ?_
      rintro e w2 ⟨rfl, h2⟩; exact ⟨ret_bool (by simp [hi']), h2⟩)
  rw [List.length_map, all_list c.clms (fun x => rightD x d)] at h; rw [goodD_nil]; exact h
def PlyQ (c : DCas) (t : DTr) (w : World) (e : Ending) (w' : World) : Prop :=
  (playDE c t ≠ 0 → e = .returned (.tuple #[.slice none 0 0, .int .i64 0, .int .i64 (playDE c t)])) ∧
  (playDE c t = 0 → ∃ d v', damD c t = some d ∧ e = .returned (.tuple #[v', .int .i64 d.amount, .int .i64 0]) ∧ w'.ownsRow w.heap.size 3 1 v' c.soc.toNat ((payL d c.soc.toNat).map (.int .i64))) ∧ Ext w w'
theorem plyQ_no {c : DCas} {t : DTr} {w w' : World} {r : Int} (h : playDE c t = r) (h0 : r ≠ 0) (hx : Ext w w') : PlyQ c t w (.returned (.tuple #[.slice none 0 0, .int .i64 0, .int .i64 r])) w' :=
  ⟨fun _ => by rw [h], fun e => absurd (h.symm.trans e) h0, hx⟩
set_option maxRecDepth 100000 in
set_option maxHeartbeats 4000000 in
theorem Play_dd (A : CaseA) (c : DCas) (t : DTr) (v : Value) (w : World) (hm : CaseM w A c) (hv : TruV w v t) (l1 : t.days.length ≤ 200) (l2 : t.sown.length ≤ 200) (l3 : t.starts.length ≤ 200) :
    Calls Tryz.prog 25 #[A.v c, v] w (PlyQ c t w) := by
  have HCK := Lib.hid (fun W (hx : Ext w W) => checkC_d A c W (hm.ext hx))
  have HLS : Hid (∀ W, Ext w W → Calls Tryz.prog 69 #[A.v c, v] W fun e w' => e = .returned (.bool (listedD c t)) ∧ Ext W w') := Lib.hid (fun W hx => by
    obtain ⟨vd, vs, vst, rfl, i1, i2, i3⟩ := hv; exact listed_d A c t vd vs vst W (hm.ext hx) (i1.ext hx) (i2.ext hx) (i3.ext hx) l1 l2 l3)
  have HWK := Lib.hid (fun W0 W (hx : Ext W0 W) => work_d W0 A c W hx); have HDM := Lib.hid (fun (h : caseD c = 0) (hl : listedD c t = true) p m W W0 (hx : Ext w W0) (hb : WkD W0 p m A c W) => damage_d p m A c t v W hb.cells (hm.ext (hx.trans hb.ext)) (caseD_zero h).2.1 (hv.ext (hx.trans hb.ext)) (listedD_ok hl)); have HAL := Lib.hid (fun (h : caseD c = 0) d hd b8 b9 p m W W0 (hx : Ext w W0) (hb : WkD W0 p m A c W) h8 h9 => allright p m b8 b9 A c d W (caseD_zero h).2.1 (hb.kb (hm.ext hx)) h8 h9 hd); have HDK : Hid (caseD c = 0 → listedD c t = true → ∀ d, damD c t = some d → DmgOK d) := Lib.hid (fun h hl d hd => damD_ok (caseD_zero h).2.1 (by have := (caseD_zero h).2.1.loss; have := (listedD_ok hl).loss; omega) hd); have HSC : Hid (caseD c = 0 → 1 ≤ c.soc ∧ c.soc ≤ 3) := Lib.hid (fun h => (caseD_zero h).2.1.soc); have HE1 : Hid (∀ r, caseD c = r → r ≠ 0 → playDE c t = r) := Lib.hid (fun r h h0 => by unfold playDE; rw [h, if_pos h0]); have HE2 : Hid (caseD c = 0 → listedD c t = false → playDE c t = 2) := Lib.hid (fun h h0 => by unfold playDE; rw [h, h0]; rfl); have HE3 : Hid (caseD c = 0 → listedD c t = true → damD c t = none → playDE c t = 11) := Lib.hid (fun h h0 h1 => by unfold playDE; rw [h, h0, h1]; rfl); have HE4 : Hid (caseD c = 0 → listedD c t = true → ∀ d, damD c t = some d → playDE c t = if goodD c [] d then 0 else 11) := Lib.hid (fun h h0 d h1 => by unfold playDE; rw [h, h0, h1]; rfl); obtain ⟨vd, vs, vst, rfl, i1, i2, i3⟩ := hv; obtain ⟨a5, n5, rfl, -⟩ := i1; obtain ⟨a6, n6, rfl, -⟩ := i2; obtain ⟨a7, n7, rfl, -⟩ := i3; clear hm l1 l2 l3; generalize hce : caseD c = ce at *; by_cases h0 : ce = 0
  · subst h0; have hsc := HSC.out rfl; obtain ⟨n, hn, hn1, hn3⟩ : ∃ n : Nat, c.soc = (n : Int) ∧ 1 ≤ n ∧ n ≤ 3 := ⟨c.soc.toNat, by omega, by omega, by omega⟩; have HCE := Lib.hid hce; have HWK2 := HWK
    have HQ0 : Hid (∀ d v' W, damD c t = some d → playDE c t = 0 → W.ownsRow w.heap.size 3 1 v' n ((payL d n).map (.int .i64)) → Ext w W → PlyQ c t w (.returned (.tuple #[v', .int .i64 d.amount, .int .i64 0])) W) := Lib.hid (fun d v' W hd h0 ho hx => ⟨fun h => absurd h0 h, fun _ => by
      have e : c.soc.toNat = n := by omega
      rw [e]; exact ⟨d, v', hd, rfl, ho⟩, hx⟩)
    have HDM2 := Lib.hid (HDM.out rfl); have HAL2 := Lib.hid (HAL.out rfl); have HDK2 := Lib.hid (HDK.out rfl); have HE22 := Lib.hid (HE2.out rfl); have HE32 := Lib.hid (HE3.out rfl); have HE42 := Lib.hid (HE4.out rfl); have HNN := Lib.hid hn; clear HDM HAL HDK HE1 HE2 HE3 HE4 HSC hce hsc HWK; generalize hlb : listedD c t = lb at *; have HLB := Lib.hid hlb; clear hlb; obtain ⟨a1, c1, a2, c2, a3, c3, a4, c4⟩ := A; unfold CaseA.v caseV at *; simp only at *; rw [hn] at HCK HLS HWK2 ⊢; clear hn; go_enter Tryz.func25, Tryz.ntmps25
    (go_wp2_with fail); obtain ⟨W0, hW⟩ : ∃ W, W = ((w.alloc (.cells #[.int .i64 c.bk.last, .int .i64 c.bk.owners, .slice a1 c.bk.pars.length c1, .slice a2 c.bk.ents.length c2, .int .i64 n, .int .i64 c.day, .int .i64 c.parcel, .slice a3 c.covs.length c3, .int .i64 c.llo, .int .i64 c.lhi, .slice a4 c.clms.length c4] 57)).alloc (.cells #[.slice a5 t.days.length n5, .slice a6 t.sown.length n6, .slice a7 t.starts.length n7, .int .i64 t.loss] 61)) := ⟨_, rfl⟩; have X : Ext w W0 := by subst hW; (repeat (first | exact Ext.refl _ | with_reducible (first | assumption | refine Ext.drew ?_ | refine Ext.alloc ?_ _ | refine Ext.drewN ?_ _ | refine Ext.setCell ?_ (by omega) _ | refine Ext.trans ?_ (by assumption))))
    have HS : Hid (∀ w', Ext W0 w' → (w'.cell? ⟨w.heap.size, 0, none⟩ = some (.int .i64 c.bk.last) ∧ w'.cell? ⟨w.heap.size, 1, none⟩ = some (.int .i64 c.bk.owners) ∧ w'.cell? ⟨w.heap.size, 2, none⟩ = some (.slice a1 c.bk.pars.length c1) ∧ w'.cell? ⟨w.heap.size, 3, none⟩ = some (.slice a2 c.bk.ents.length c2) ∧ w'.cell? ⟨w.heap.size, 4, none⟩ = some (.int .i64 n) ∧ w'.cell? ⟨w.heap.size, 5, none⟩ = some (.int .i64 c.day) ∧ w'.cell? ⟨w.heap.size, 6, none⟩ = some (.int .i64 c.parcel) ∧ w'.cell? ⟨w.heap.size, 7, none⟩ = some (.slice a3 c.covs.length c3) ∧ w'.cell? ⟨w.heap.size, 8, none⟩ = some (.int .i64 c.llo) ∧ w'.cell? ⟨w.heap.size, 9, none⟩ = some (.int .i64 c.lhi) ∧ w'.cell? ⟨w.heap.size, 10, none⟩ = some (.slice a4 c.clms.length c4) ∧ w'.cell? ⟨w.heap.size + 1, 0, none⟩ = some (.slice a5 t.days.length n5) ∧ w'.cell? ⟨w.heap.size + 1, 1, none⟩ = some (.slice a6 t.sown.length n6) ∧ w'.cell? ⟨w.heap.size + 1, 2, none⟩ = some (.slice a7 t.starts.length n7) ∧ w'.cell? ⟨w.heap.size + 1, 3, none⟩ = some (.int .i64 t.loss)) ∧ Ext W0 w') := Lib.hid (fun w' hx => ⟨⟨hx.keep (by subst hW; simp [go_sem]), hx.keep (by subst hW; simp [go_sem]), hx.keep (by subst hW; simp [go_sem]), hx.keep (by subst hW; simp [go_sem]), hx.keep (by subst hW; simp [go_sem]), hx.keep (by subst hW; simp [go_sem]), hx.keep (by subst hW; simp [go_sem]), hx.keep (by subst hW; simp [go_sem]), hx.keep (by subst hW; simp [go_sem]), hx.keep (by subst hW; simp [go_sem]), hx.keep (by subst hW; simp [go_sem]), hx.keep (by subst hW; simp [go_sem]), hx.keep (by subst hW; simp [go_sem]), hx.keep (by subst hW; simp [go_sem]), hx.keep (by subst hW; simp [go_sem])⟩, hx⟩); have HSf : Hid (∀ w', Ext W0 w' → ∀ o, w'.frozen? ⟨w.heap.size + 1, o, none⟩ = false) := Lib.hid (fun w' hx o => (hx.frozen (by subst hW; simp)).trans (by subst hW; simp [go_sem])); have HSz : w.heap.size + 1 + 1 ≤ W0.heap.size := by subst hW; simp
    rw [← hW]; clear hW; (with_reducible refine (HCK.out _ X).mono ?_); rintro e w1 ⟨rfl, hx1⟩; obtain ⟨⟨q0, q1, q2, q3, q4, q5, q6, q7, q8, q9, q10, t0, t1, t2, t3⟩, -⟩ := HS.out w1 hx1; have X1 := X.trans hx1; (go_wp2_with fail); (with_reducible refine (HLS.out _ X1).mono ?_); rintro e w2 ⟨rfl, hx2⟩; replace hx1 := hx1.trans hx2; have X2 := X1.trans hx2; clear q0 q1 q2 q3 q4 q5 q6 q7 q8 q9 q10 t0 t1 t2 t3 hx2 HCK HLS; obtain ⟨⟨q0, q1, q2, q3, q4, q5, q6, q7, q8, q9, q10, t0, t1, t2, t3⟩, -⟩ := HS.out w2 hx1; cases lb with
    | false =>
      have HR := Lib.hid (HE22.out rfl); clear HE22 HE32 HE42 q0 q1 q2 q3 q4 q5 q6 q7 q8 q9 q10 t0 t1 t2 t3 HS; (go_wp2_with fail); refine bodyPost_ret (v := .tuple #[.slice none 0 0, .int .i64 0, .int .i64 2]) (by simp [results, Tryz.results25, go_sem]) rfl (plyQ_no HR.out (by decide) X2)
    | true =>
      have HDM3 := Lib.hid (HDM2.out rfl); have HDK3 := Lib.hid (HDK2.out rfl); have HE33 := Lib.hid (HE32.out rfl); have HE43 := Lib.hid (HE42.out rfl); clear HE22 HE32 HE42 HDM2 HDK2; (go_wp2_with fail); (with_reducible refine (HWK2.out W0 _ hx1).mono ?_); rintro e w3 ⟨p, m, rfl, hwk, hx3⟩; have HW3 := Lib.hid hwk; have X3 := X2.trans hx3; replace hx1 := hx1.trans hx3; clear q0 q1 q2 q3 q4 q5 q6 q7 q8 q9 q10 t0 t1 t2 t3 hx3 hwk; obtain ⟨⟨-, -, -, -, -, -, -, -, -, -, -, t0, t1, t2, t3⟩, -⟩ := HS.out w3 hx1; have t0a := fun o => ((Ext.refl w3).alloc o).keep t0
      have t1a := fun o => ((Ext.refl w3).alloc o).keep t1
      have t2a := fun o => ((Ext.refl w3).alloc o).keep t2
      have t3a := fun o => ((Ext.refl w3).alloc o).keep t3
      (go_wp2_with fail); (with_reducible refine (HDM3.out p m _ W0 X (HW3.out.grow (by (repeat (first | exact Ext.refl _ | with_reducible (first | assumption | refine Ext.drew ?_ | refine Ext.alloc ?_ _ | refine Ext.drewN ?_ _ | refine Ext.setCell ?_ (by omega) _ | refine Ext.trans ?_ (by assumption))))))).mono ?_); rintro e w4 ⟨rfl, hx4⟩; have b8 := hx4.keep (k := w3.heap.size) (o := 0) (v := .pointer (some ⟨p, 0, none⟩)) (by simp [go_sem]); have HW4 : Hid (WkD W0 p m ⟨a1, c1, a2, c2, a3, c3, a4, c4⟩ c w4) := Lib.hid (HW3.out.grow (Ext.trans (by (repeat (first | exact Ext.refl _ | with_reducible (first | assumption | refine Ext.drew ?_ | refine Ext.alloc ?_ _ | refine Ext.drewN ?_ _ | refine Ext.setCell ?_ (by omega) _ | refine Ext.trans ?_ (by assumption))))) hx4)); have X4 := X.trans HW4.out.ext; have hz4 : w3.heap.size < w4.heap.size := lt_of_cell b8; clear hx4 t0 t1 t2 t3 t0a t1a t2a t3a hx1; cases hdm : damD c t with
      | none =>
        have HR := Lib.hid (HE33.out hdm); simp only [dmgO, Dmg.v, Option.isSome_none]; clear HE33 HE43 HAL2 HS hdm b8; (go_wp2_with fail); refine bodyPost_ret (v := .tuple #[.slice none 0 0, .int .i64 0, .int .i64 11]) (by simp [results, Tryz.results25, go_sem]) rfl (plyQ_no HR.out (by decide) (X4.alloc _))
      | some d =>
        have hd := HDK3.out d hdm; have HR := Lib.hid (HE43.out d hdm); have HDE := Lib.hid hdm; simp only [dmgO, Dmg.v, Option.isSome_some]; have W5x : Ext w4 (w4.alloc (.cells #[.int .i64 d.amount, .int .i64 d.s0, .int .i64 d.s1, .int .i64 d.s2] 139)) := by (repeat (first | exact Ext.refl _ | with_reducible (first | assumption | refine Ext.drew ?_ | refine Ext.alloc ?_ _ | refine Ext.drewN ?_ _ | refine Ext.setCell ?_ (by omega) _ | refine Ext.trans ?_ (by assumption))))
        have hz5 : w4.heap.size < (w4.alloc (.cells #[.int .i64 d.amount, .int .i64 d.s0, .int .i64 d.s1, .int .i64 d.s2] 139)).heap.size := by simp
        have d0 : (w4.alloc (.cells #[.int .i64 d.amount, .int .i64 d.s0, .int .i64 d.s1, .int .i64 d.s2] 139)).cell? ⟨w4.heap.size, 0, none⟩ = some (.int .i64 d.amount) := by simp [go_sem]
        have d1 : (w4.alloc (.cells #[.int .i64 d.amount, .int .i64 d.s0, .int .i64 d.s1, .int .i64 d.s2] 139)).cell? ⟨w4.heap.size, 1, none⟩ = some (.int .i64 d.s0) := by simp [go_sem]
        have d2 : (w4.alloc (.cells #[.int .i64 d.amount, .int .i64 d.s0, .int .i64 d.s1, .int .i64 d.s2] 139)).cell? ⟨w4.heap.size, 2, none⟩ = some (.int .i64 d.s1) := by simp [go_sem]
        have d3 : (w4.alloc (.cells #[.int .i64 d.amount, .int .i64 d.s0, .int .i64 d.s1, .int .i64 d.s2] 139)).cell? ⟨w4.heap.size, 3, none⟩ = some (.int .i64 d.s2) := by simp [go_sem]
        obtain ⟨⟨-, -, -, -, q4, -, -, -, -, -, q10, -, -, -, -⟩, -⟩ := HS.out _ (HW4.out.ext.trans W5x); have HW5 := Lib.hid (HW4.out.grow W5x); replace b8 := W5x.keep b8; clear hdm HE33 HE43 HW4; go_upto_region 8 with fail
        generalize (w4.alloc (.cells #[.int .i64 d.amount, .int .i64 d.s0, .int .i64 d.s1, .int .i64 d.s2] 139)) = w5 at *
        have HCL := Lib.hid (HAL2.out d hd w3.heap.size w4.heap.size p m w5 W0 X HW5.out b8 (fun j v hj => by
          rcases j with _ | _ | _ | _ | j
          · cases hj; exact d0
          · cases hj; exact d1
          · cases hj; exact d2
          · cases hj; exact d3
          · simp at hj))
        (go_wp2_with fail); (with_reducible refine HCL.out.mono ?_); rintro e w6 ⟨rfl, hm6⟩; have hml : m < w5.heap.size := HW5.out.stl.lt; have hm0 : W0.heap.size ≤ m := HW5.out.hm; have hzW : W0.heap.size ≤ w3.heap.size := HW3.out.ext.size; have HW6 := Lib.hid (HW5.out.mm hm6); have hs5 := HW5.out.stl; replace b8 := hm6.keep hs5 b8; replace d0 := hm6.keep hs5 d0; replace d1 := hm6.keep hs5 d1; replace d2 := hm6.keep hs5 d2; replace d3 := hm6.keep hs5 d3; replace q4 := hm6.keep hs5 q4; clear hm6 hs5 HCL q10; cases hgd : goodD c [] d with
        | false =>
          have HR2 : Hid (playDE c t = 11) := Lib.hid (by rw [HR.out, hgd]; rfl); have XE : Ext w w6 := X.trans HW6.out.ext; clear hgd HS b8 d0 d1 d2 d3 q4; (go_wp2_with fail); refine bodyPost_ret (v := .tuple #[.slice none 0 0, .int .i64 0, .int .i64 11]) (by simp [results, Tryz.results25, go_sem]) rfl (plyQ_no HR2.out (by decide) XE)
        | true =>
          have HR2 : Hid (playDE c t = 0) := Lib.hid (by rw [HR.out, hgd]; rfl); have HPY := Lib.hid (pays_d p m d w6 HW6.out.map HW6.out.stl hd); simp only [Dmg.v] at HPY; have hpb := pays_bd hd; clear hgd hd HR; (go_wp2_with fail); (with_reducible refine HPY.out.mono ?_); rintro e w7 ⟨rfl, hm7⟩; have hs6 := HW6.out.stl; have HW7 := Lib.hid (HW6.out.mm hm7); have X7 : Ext w w7 := X.trans HW7.out.ext; replace d0 := hm7.keep hs6 d0; replace q4 := hm7.keep hs6 q4; clear hm7 hs6 b8 d1 d2 d3 HPY; have HPL : Hid (payL d n = [(paysD d).1, (paysD d).2.1, (paysD d).2.2].take n) := rfl; have HPLn : Hid ((payL d n).length = n) := Lib.hid (by unfold payL; simp; omega); have hpv : paysV d = .agg #[.int .i64 (paysD d).1, .int .i64 (paysD d).2.1, .int .i64 (paysD d).2.2] := rfl; rw [hpv]; clear hpv; generalize (paysD d).1 = y0 at *; generalize (paysD d).2.1 = y1 at *; generalize (paysD d).2.2 = y2 at *; go_upto_region 11 with fail
          have XB : Ext w7 (w7.alloc (.cells #[.int .i64 y0, .int .i64 y1, .int .i64 y2] 133)) := by (repeat (first | exact Ext.refl _ | with_reducible (first | assumption | refine Ext.drew ?_ | refine Ext.alloc ?_ _ | refine Ext.drewN ?_ _ | refine Ext.setCell ?_ (by omega) _ | refine Ext.trans ?_ (by assumption))))
          have HCLN : Hid (∀ W, Ext (w7.alloc (.cells #[.int .i64 y0, .int .i64 y1, .int .i64 y2] 133)) W → Calls Tryz.prog 66 #[.slice (some ⟨w7.heap.size, 0, none⟩) n 3] W fun e w' => ∃ v', e = .returned v' ∧ w'.ownsRow W.heap.size 3 1 v' n ((payL d n).map (.int .i64)) ∧ Ext W w') := Lib.hid (fun W hx => by
            have g0 := hx.keep (k := w7.heap.size) (o := 0) (v := .int .i64 y0) (by simp [go_sem]); have g1 := hx.keep (k := w7.heap.size) (o := 1) (v := .int .i64 y1) (by simp [go_sem]); have g2 := hx.keep (k := w7.heap.size) (o := 2) (v := .int .i64 y2) (by simp [go_sem])
            have hc := clone_x (.slice (some ⟨w7.heap.size, 0, none⟩) n 3) (payL d n) W ⟨some ⟨w7.heap.size, 0, none⟩, 3, by rw [HPLn.out], by rw [HPLn.out]; omega, by rw [HPLn.out]; omega, fun i hi => ⟨_, _, rfl, by
              have hi' : i < n := by rw [HPLn.out] at hi; exact hi
              have e1 : (payL d n)[i]? = ([y0, y1, y2].take n)[i]? := by rw [HPL.out]
              rw [List.getElem?_eq_getElem hi, List.getElem?_take_of_lt (by omega)] at e1; rw [Nat.mul_one, Nat.zero_add]; have : i = 0 ∨ i = 1 ∨ i = 2 := by omega
              rcases this with rfl | rfl | rfl
              · simp at e1; rw [e1]; exact ⟨g0, by omega, by omega⟩
              · simp at e1; rw [e1]; exact ⟨g1, by omega, by omega⟩
              · simp at e1; rw [e1]; exact ⟨g2, by omega, by omega⟩⟩⟩ (by rw [HPLn.out]; omega)
            rw [HPLn.out] at hc; exact hc)
          have q4a := XB.keep q4; have d0a := XB.keep d0; have X8 : Ext w (w7.alloc (.cells #[.int .i64 y0, .int .i64 y1, .int .i64 y2] 133)) := X7.trans XB; clear HPL HPLn XB q4 d0 hpb HS; generalize (w7.alloc (.cells #[.int .i64 y0, .int .i64 y1, .int .i64 y2] 133)) = W8 at *; have hn0 : (0 : Int) ≤ (n : Int) := by omega
          have hn3' : (n : Int) ≤ 3 := by omega
          have HSS : Hid (∀ w', Ext W8 w' → (w'.cell? ⟨w.heap.size, 4, none⟩ = some (.int .i64 (n : Int)) ∧ w'.cell? ⟨w4.heap.size, 0, none⟩ = some (.int .i64 d.amount)) ∧ Ext W8 w') := Lib.hid (fun w' h => ⟨⟨h.keep q4a, h.keep d0a⟩, h⟩); clear q4a d0a
          go_region_held3 (fun w' => (w'.cell? ⟨w.heap.size, 4, none⟩ = some (.int .i64 (n : Int)) ∧ w'.cell? ⟨w4.heap.size, 0, none⟩ = some (.int .i64 d.amount)) ∧ Ext W8 w')
            ((refine HSS.out _ ?_; (repeat (first | exact Ext.refl _ | with_reducible (first | assumption | refine Ext.drew ?_ | refine Ext.alloc ?_ _ | refine Ext.drewN ?_ _ | refine Ext.setCell ?_ (by omega) _ | refine Ext.trans ?_ (by assumption))))))
            ((go_at_call 66; (refine (HCLN.out _ (by (repeat (first | exact Ext.refl _ | with_reducible (first | assumption | refine Ext.drew ?_ | refine Ext.alloc ?_ _ | refine Ext.drewN ?_ _ | refine Ext.setCell ?_ (by omega) _ | refine Ext.trans ?_ (by assumption)))))).mono ?_); rintro e w9 ⟨v', rfl, hown, hx9⟩))
          all_goals
            have X9 : Ext w w9 := X8.trans (by (repeat (first | exact Ext.refl _ | with_reducible (first | assumption | refine Ext.drew ?_ | refine Ext.alloc ?_ _ | refine Ext.drewN ?_ _ | refine Ext.setCell ?_ (by omega) _ | refine Ext.trans ?_ (by assumption))))); have HOW := Lib.hid (ownRow_down hown (D := w.heap.size) (by show w.heap.size ≤ W8.heap.size; exact X8.size)); clear hown; (go_wp2_with fail); refine bodyPost_ret (v := .tuple #[v', .int .i64 d.amount, .int .i64 0]) (by simp [results, Tryz.results25, go_sem]) rfl (HQ0.out d v' w9 HDE.out HR2.out HOW.out X9)
  · have HN := Lib.hid h0; have HR := Lib.hid (HE1.out ce rfl h0); have hb : (ce != 0) = true := by rw [bne_iff_ne]; exact h0
    clear HDM HAL HDK HE1 HE2 HE3 HE4 HSC h0 hce HWK HLS; obtain ⟨a1, c1, a2, c2, a3, c3, a4, c4⟩ := A; unfold CaseA.v caseV at *; simp only at *; go_enter Tryz.func25, Tryz.ntmps25
    (go_wp2_with fail); (with_reducible refine (HCK.out _ (by (repeat (first | exact Ext.refl _ | with_reducible (first | assumption | refine Ext.drew ?_ | refine Ext.alloc ?_ _ | refine Ext.drewN ?_ _ | refine Ext.setCell ?_ (by omega) _ | refine Ext.trans ?_ (by assumption)))))).mono ?_); rintro e w1 ⟨rfl, hx1⟩; have X1 : Ext w w1 := by (repeat (first | exact Ext.refl _ | with_reducible (first | assumption | refine Ext.drew ?_ | refine Ext.alloc ?_ _ | refine Ext.drewN ?_ _ | refine Ext.setCell ?_ (by omega) _ | refine Ext.trans ?_ (by assumption))))
    clear hx1; (go_wp2_with fail); refine bodyPost_ret (v := .tuple #[.slice none 0 0, .int .i64 0, .int .i64 ce]) (by simp [results, Tryz.results25, go_sem]) rfl (plyQ_no HR.out HN.out X1)
end Go.Proofs.YtegkdnfeceomdaaGreat
/- Contracts of layer 8: which claims are right: kinds, and what goes through them. -/
namespace Go.Hs
open Go.RowKit
structure V5 where
  c0 : Value
  c1 : Value
  c2 : Value
  c3 : Value
  c4 : Value
abbrev V5.val (x : V5) : Value := .agg #[x.c0, x.c1, x.c2, x.c3, x.c4]
def Cell5 (w : World) (b o : Nat) (x : V5) : Prop :=
  w.cell? ⟨b, o, none⟩ = some x.c0 ∧ w.cell? ⟨b, o + 1, none⟩ = some x.c1 ∧ w.cell? ⟨b, o + 2, none⟩ = some x.c2 ∧ w.cell? ⟨b, o + 3, none⟩ = some x.c3 ∧ w.cell? ⟨b, o + 4, none⟩ = some x.c4
theorem Cell5.ext {w w' : World} (h : Ext w w') (b o : Nat) (x : V5) (k : Cell5 w b o x) : Cell5 w' b o x :=
  ⟨h.keep k.1, h.keep k.2.1, h.keep k.2.2.1, h.keep k.2.2.2.1, h.keep k.2.2.2.2⟩
def Cells5 (w : World) (a : Option Addr) (us : List V5) : Prop := ∀ (i : Nat) (h : i < us.length), ∃ b off, a = some ⟨b, off, none⟩ ∧ Cell5 w b (off + i * 5) us[i]
theorem Cells5.ext {w w' : World} {a : Option Addr} {us : List V5} (h : Ext w w') (k : Cells5 w a us) : Cells5 w' a us := fun i hi => let ⟨b, o, he, hc⟩ := k i hi; ⟨b, o, he, hc.ext h⟩
abbrev Knd := Nat → Bool
def kndC (k : Knd) : V5 := ⟨.bool (k 0), .bool (k 1), .bool (k 2), .bool (k 3), .bool (k 4)⟩
def okK (n : Nat) (out : List Int) (k : Knd) : Bool := (everyI n).all (fun i => k i.toNat || decide (i ∈ out))
end Go.Hs
namespace Go.Proofs.YtegkdnfeceomdaaGreat
open Go.RowKit Go.Hs
attribute [local irreducible] World.setCell World.alloc
theorem fn_leave111 : FnOK 104 := fun args w => by simp [go_sem]
set_option maxHeartbeats 400000 in
theorem idx_knd (cap1 cap2 : Value) (a : Option Addr) (c : Nat) (us : List V5) (p : Nat → Bool) (I : Nat → World → Prop) (w : World)
    (hlen : us.length ≤ 140737488351232)
    (hrow : ∀ i w, I i w → Cells5 w a us)
    (hcall : ∀ i (h : i < us.length) w1, I i w1 → Calls Tryz.prog 103 #[us[i].val, cap1, cap2] w1 fun e w2 => e = .returned (.bool (p i)) ∧ I (i + 1) w2)
    (h0 : I 0 w) :
    Calls Tryz.prog 149 #[.slice a us.length c, .func (.func 103) #[] #[cap1, cap2]] w
      (IdxPost us.length p I) := by
  go_enter Tryz.func149, Tryz.ntmps149
  go_wp2
  go_loopw [4, 5, 8] (fun r j i wr => ∃ k : Nat, k ≤ us.length ∧ i = .int .i64 k ∧ (∀ m, m < k → p m = false) ∧ I k wr) (fun _ _ i _ => us.length - (intOf i).toNat)
  case atStart => exact ⟨0, Nat.zero_le _, rfl, fun m hm => absurd hm (Nat.not_lt_zero _), h0⟩
  case round =>
    obtain ⟨k, hk, rfl, hp, hI⟩ := hrel; by_cases hlt : k < us.length
    · obtain ⟨b, off, rfl, g0, g1, g2, g3, g4⟩ := hrow k wr hI k hlt; have hc0 := hcall k hlt wr hI; cases hpk : p k
      · rw [hpk] at hc0; clear hcall hrow; have HP := Lib.hid hpk; clear hpk; go_wp2_with ((with_reducible refine hc0.mono ?_); rintro e w2 ⟨rfl, hI2⟩)
        go_roundw
        case rel => exact ⟨k + 1, by omega, by go_num, fun m hm => by
          by_cases e : m = k
          · subst e; exact HP.out
          · exact hp m (by omega), hI2⟩
        case measure => simp [intOf]; omega
      · rw [hpk] at hc0; clear hcall hrow; have HP := Lib.hid hpk; clear hpk; have HP0 := Lib.hid hp; clear hp; go_wp2_with ((with_reducible refine hc0.mono ?_); rintro e w2 ⟨rfl, hI2⟩)
        go_ret; exact .inl ⟨k, hlt, HP.out, HP0.out, rfl, hI2⟩
    · have hk' : k = us.length := by omega
      subst hk'; have HP0 := Lib.hid hp; clear hp; clear hcall hrow; go_wp2
      go_ret; exact .inr ⟨HP0.out, rfl, hI⟩
set_option maxHeartbeats 400000 in
theorem cont_knd (cap1 cap2 : Value) (a : Option Addr) (c : Nat) (us : List V5) (p : Nat → Bool) (I : Nat → World → Prop) (w : World)
    (hlen : us.length ≤ 140737488351232)
    (hrow : ∀ i w, I i w → Cells5 w a us)
    (hcall : ∀ i (h : i < us.length) w1, I i w1 → Calls Tryz.prog 103 #[us[i].val, cap1, cap2] w1 fun e w2 => e = .returned (.bool (p i)) ∧ I (i + 1) w2)
    (h0 : I 0 w) :
    Calls Tryz.prog 102 #[.slice a us.length c, .func (.func 103) #[] #[cap1, cap2]] w
      (ContPost us.length p I) := by
  have hi := idx_knd cap1 cap2 a c us p I w hlen hrow hcall h0; clear hrow hcall h0; go_enter Tryz.func102, Tryz.ntmps102
  go_wp2_with ((with_reducible refine hi.mono ?_); rintro e w2 (⟨i, hi1, hi2, hi3, rfl, hi5⟩ | ⟨hi3, rfl, hi5⟩))
  · have H2 := Lib.hid hi2; clear hi2; have H3 := Lib.hid hi3; clear hi3; go_wp2
    go_ret; exact ContPost.yes hi1 H2.out (by simp) hi5
  · have H3 := Lib.hid hi3; clear hi3; go_wp2
    go_ret; exact ContPost.no H3.out (by simp) hi5
set_option maxRecDepth 100000 in
set_option maxHeartbeats 4000000 in
theorem leave111_d (bk bo : Nat) (k : Knd) (out : List Int) (vout : Value) (i : Nat) (w : World) (hk : ∀ j, j < 5 → w.cell? ⟨bk, j, none⟩ = some (.bool (k j))) (ho : w.cell? ⟨bo, 0, none⟩ = some vout) (hv : IntsV w vout out) (hi : i < 5) :
    Calls Tryz.prog 104 #[.int .i64 i, .pointer (some ⟨bk, 0, none⟩), .pointer (some ⟨bo, 0, none⟩)] w fun e w' => e = .returned (.bool (k i || decide ((i : Int) ∈ out))) ∧ Ext w w' := by
  have HC := Lib.hid (fun W (hx : Ext w W) => contains_p vout out (i : Int) W (hv.ext hx)); have hki := hk i hi; have hk0 : (0 : Int) ≤ (i : Int) := by omega
  have hk1 : (i : Int) < 5 := by omega
  obtain ⟨a, q, rfl, -⟩ := hv; clear hk; generalize decide ((i : Int) ∈ out) = r at *; generalize k i = b at *; cases b with
  | true =>
    go_enter Tryz.func104, Tryz.ntmps104
    (go_wp2_with fail); go_ret; exact ⟨rfl, Ext.refl _⟩
  | false =>
    go_enter Tryz.func104, Tryz.ntmps104
    (go_wp2_with fail); (with_reducible refine (HC.out _ (by (repeat (first | exact Ext.refl _ | with_reducible (first | assumption | refine Ext.drew ?_ | refine Ext.alloc ?_ _ | refine Ext.drewN ?_ _ | refine Ext.setCell ?_ (by omega) _ | refine Ext.trans ?_ (by assumption)))))).mono ?_); rintro e w1 ⟨rfl, hx⟩; (go_wp2_with fail); go_ret; exact ⟨rfl, hx⟩
set_option maxRecDepth 100000 in
set_option maxHeartbeats 4000000 in
theorem leave11_d (be bo n : Nat) (k : Knd) (out : List Int) (vev vout : Value) (w : World) (he : w.cell? ⟨be, 0, none⟩ = some vev) (hev : IntsV w vev (everyI n)) (ho : w.cell? ⟨bo, 0, none⟩ = some vout) (hv : IntsV w vout out) (hn : n ≤ 5) :
    Calls Tryz.prog 103 #[(kndC k).val, .pointer (some ⟨be, 0, none⟩), .pointer (some ⟨bo, 0, none⟩)] w fun e w' => e = .returned (.bool (okK n out k)) ∧ Ext w w' := by
  have HAL : Hid (∀ W bk, Ext w W → (∀ j, j < 5 → W.cell? ⟨bk, j, none⟩ = some (.bool (k j))) → Calls Tryz.prog 63 #[vev, .func (.func 104) #[] #[.pointer (some ⟨bk, 0, none⟩), .pointer (some ⟨bo, 0, none⟩)]] W fun e w' => e = .returned (.bool (okK n out k)) ∧ Ext W w') := Lib.hid (fun W bk hx hk => by
    obtain ⟨a, q, rfl, h1, h2, hr⟩ := hev.ext hx; have hc : Cells1 W a ((everyI n).map (.int .i64)) := ints_cells hr
    have h := allx_dint 104 fn_leave111 #[] #[.pointer (some ⟨bk, 0, none⟩), .pointer (some ⟨bo, 0, none⟩)] a q ((everyI n).map (.int .i64)) (fun i => (fun i : Int => k i.toNat || decide (i ∈ out)) ((everyI n).getD i default)) W (by rw [List.length_map, everyI_len]; omega) hc
      (fun i hi w1 hx1 => by
        have hi' : i < n := by simpa [everyI_len] using hi
        have e2 : (everyI n)[i]'(by rw [everyI_len]; exact hi') = (i : Int) := by simp [everyI]
        have e1 : ((everyI n).map (Value.int .i64))[i] = .int .i64 (i : Int) := by simp [everyI]
        have e3 : (everyI n).getD i default = (i : Int) := by
          rw [List.getD_eq_getElem?_getD, List.getElem?_eq_getElem (by rw [everyI_len]; exact hi')]; exact e2
        rw [e1]; refine (leave111_d bk bo k out vout i w1 (fun j hj => hx1.keep (hk j hj)) (hx1.keep (hx.keep ho)) (hv.ext (hx.trans hx1)) (by omega)).mono ?_
        rintro e w2 ⟨rfl, h2⟩; exact ⟨ret_bool (by simp only [e3]; simp), h2⟩)
    rw [List.length_map, all_list (everyI n) (fun i : Int => k i.toNat || decide (i ∈ out))] at h; exact h)
  obtain ⟨ae, qe, rfl, -⟩ := hev; obtain ⟨ao, qo, rfl, -⟩ := hv; have n1 : be < w.heap.size := lt_of_cell he; have n2 : bo < w.heap.size := lt_of_cell ho; have n1' : ¬ be = w.heap.size := by omega
  clear ho; generalize okK n out k = r at *; unfold kndC V5.val
  have HK : Hid (∀ W, Ext (w.alloc (.cells #[.bool (k 0), .bool (k 1), .bool (k 2), .bool (k 3), .bool (k 4)] 177)) W → ∀ j, j < 5 → W.cell? ⟨w.heap.size, j, none⟩ = some (.bool (k j))) := Lib.hid (fun W hx j hj => by
    rcases j with _ | _ | _ | _ | _ | j
    · exact hx.keep (by simp [go_sem])
    · exact hx.keep (by simp [go_sem])
    · exact hx.keep (by simp [go_sem])
    · exact hx.keep (by simp [go_sem])
    · exact hx.keep (by simp [go_sem])
    · omega)
  generalize k 0 = k0 at *; generalize k 1 = k1 at *; generalize k 2 = k2 at *; generalize k 3 = k3 at *; generalize k 4 = k4 at *; go_enter Tryz.func103, Tryz.ntmps103
  (go_wp2_with fail); (with_reducible refine (HAL.out _ w.heap.size (by (repeat (first | exact Ext.refl _ | with_reducible (first | assumption | refine Ext.drew ?_ | refine Ext.alloc ?_ _ | refine Ext.drewN ?_ _ | refine Ext.setCell ?_ (by omega) _ | refine Ext.trans ?_ (by assumption))))) (HK.out _ (by (repeat (first | exact Ext.refl _ | with_reducible (first | assumption | refine Ext.drew ?_ | refine Ext.alloc ?_ _ | refine Ext.drewN ?_ _ | refine Ext.setCell ?_ (by omega) _ | refine Ext.trans ?_ (by assumption))))))).mono ?_); rintro e w1 ⟨rfl, hx⟩; have X1 : Ext w w1 := by (repeat (first | exact Ext.refl _ | with_reducible (first | assumption | refine Ext.drew ?_ | refine Ext.alloc ?_ _ | refine Ext.drewN ?_ _ | refine Ext.setCell ?_ (by omega) _ | refine Ext.trans ?_ (by assumption))))
  (go_wp2_with fail); go_ret; exact ⟨rfl, X1⟩
end Go.Proofs.YtegkdnfeceomdaaGreat
/- Contracts of layer 8: claims are struck, so many more: the search. -/
namespace Go.Hs
open Go.RowKit
def scanN {α : Type} (f : Nat → Option α) : Nat → Nat → Option α
  | 0, _ => none
  | n + 1, i => match f i with
    | some x => some x
    | none => scanN f n (i + 1)
theorem scanN_yes {α : Type} {f : Nat → Option α} {n i : Nat} {x : α} (h : f i = some x) : scanN f (n + 1) i = some x := by rw [scanN, h]
theorem scanN_no {α : Type} {f : Nat → Option α} {n i : Nat} (h : f i = none) : scanN f (n + 1) i = scanN f n (i + 1) := by rw [scanN, h]
theorem anyB_list {α : Type} (l : List α) (d : α) (p : α → Bool) : anyB l.length (fun i => p (l.getD i d)) = l.any p := by
  rw [Bool.eq_iff_iff, anyB_iff, List.any_eq_true]; constructor
  · rintro ⟨i, hi, h⟩; have e : l.getD i d = l[i] := by simp [hi]
    rw [e] at h; exact ⟨l[i], List.getElem_mem hi, h⟩
  · rintro ⟨x, hx, h⟩; obtain ⟨i, hi, rfl⟩ := List.getElem_of_mem hx; exact ⟨i, hi, by rw [show l.getD i d = l[i] by simp [hi]]; exact h⟩
def intsN (xs : List Nat) : List Int := xs.map (fun x : Nat => (x : Int))
def strikeS (n : Nat) (ok : List Nat → Bool) : Nat → List Nat → Nat → Option (List Nat)
  | 0, out, _ => if ok out then some out else none
  | m + 1, out, start => scanN (fun i => strikeS n ok m (out ++ [i]) (i + 1)) (n - m - start) start
theorem ints_kp {q : Nat → Prop} {w w' : World} {v : Value} {xs : List Int} (h : IntsV w v xs) (k : KP q w w') (hn : ∀ b, v.ownBlock = some b → ¬ q b) : IntsV w' v xs := by
  obtain ⟨a, c, rfl, h1, h2, h3⟩ := h; refine ⟨a, c, rfl, h1, h2, fun i hi => ?_⟩
  obtain ⟨b, o, rfl, hc, hc2⟩ := h3 i hi; exact ⟨b, o, rfl, k.keep (hn b rfl) hc, hc2⟩
structure StSt (F : FuncId) (wb : World) (B K E C : Nat) (W : World) : Prop where
  ext : Ext wb W
  fc : ∃ v, W.cell? ⟨B, 0, none⟩ = some v
  ff : W.frozen? ⟨B, 0, none⟩ = false
  tc : W.cell? ⟨B + 1, 0, none⟩ = some (.func (.func F) #[] #[.pointer (some ⟨B, 0, none⟩), .pointer (some ⟨K, 0, none⟩), .pointer (some ⟨E, 0, none⟩), .pointer (some ⟨C, 0, none⟩), .pointer (some ⟨B + 1, 0, none⟩)])
  o0 : wb.heap.size ≤ B
section
variable {F : FuncId} {wb W W' : World} {B K E C : Nat}
theorem StSt.lt (h : StSt F wb B K E C W) : B + 1 < W.heap.size := lt_of_cell h.tc
theorem StSt.grow (h : StSt F wb B K E C W) (hx : Ext W W') : StSt F wb B K E C W' := by
  obtain ⟨v, hv⟩ := h.fc; exact ⟨h.ext.trans hx, ⟨v, hx.keep hv⟩, (hx.frozen (lt_of_cell hv)).trans h.ff, hx.keep h.tc, h.o0⟩
theorem StSt.set (h : StSt F wb B K E C W) (v : Value) : StSt F wb B K E C (W.setCell ⟨B, 0, none⟩ v) := by
  obtain ⟨u, hu⟩ := h.fc; have n1 : B + 1 ≠ B := by omega
  exact ⟨h.ext.setCell h.o0 _, ⟨v, World.cell?_setCell_same _ _ _ hu⟩, by rw [World.frozen?_setCell]; exact h.ff, cell_ne (.inl n1) h.tc, h.o0⟩
end
structure StP (F : FuncId) (wb : World) (B K E C : Nat) (want : Option (List Nat)) (W : World) (b : Bool) (w' : World) : Prop where
  kp : KP (fun j => j = B) W w'
  yes : b = true → ∃ x vx, want = some x ∧ w'.cell? ⟨B, 0, none⟩ = some vx ∧ IntsV w' vx (intsN x)
  no : b = false → want = none
  st : StSt F wb B K E C w'
def StQ (F : FuncId) (wb : World) (B K E C : Nat) (want : Option (List Nat)) (W : World) (e : Ending) (w' : World) : Prop := ∃ b, e = .returned (.bool b) ∧ StP F wb B K E C want W b w'
def StM (F : FuncId) (wb : World) (B K E C : Nat) (want : Option (List Nat)) (W : World) (s : Value) (w' : World) : Prop := ∃ b, s = .bool b ∧ StP F wb B K E C want W b w'
structure StB (wb : World) (K E C n : Nat) (kn : List Knd) (ak : Option Addr) (ck : Nat) (vev : Value) (a4 : Option Addr) (c4 : Nat) : Prop where
  kc : wb.cell? ⟨K, 0, none⟩ = some (.slice ak kn.length ck)
  kk : Cells5 wb ak (kn.map kndC)
  kl : kn.length ≤ 3000
  ec : wb.cell? ⟨E, 0, none⟩ = some vev
  ev : IntsV wb vev (everyI n)
  cc : wb.cell? ⟨C, 10, none⟩ = some (.slice a4 n c4)
  n5 : n ≤ 5
end Go.Hs
namespace Go.Proofs.YtegkdnfeceomdaaGreat
open Go.RowKit Go.Hs
attribute [local irreducible] World.setCell World.alloc
set_option maxRecDepth 100000 in
set_option maxHeartbeats 4000000 in
theorem strike_zero (wb : World) (B K E C n : Nat) (kn : List Knd) (ak : Option Addr) (ck : Nat) (vev : Value) (a4 : Option Addr) (c4 : Nat) (hB : StB wb K E C n kn ak ck vev a4 c4) (start : Int) (out : List Nat) (vo : Value) (W : World)
    (hs : StSt 101 wb B K E C W) (ho : IntsV W vo (intsN out)) (hn : ∀ b, vo.ownBlock = some b → b ≠ B) :
    Calls Tryz.prog 101 #[vo, .int .i64 start, .int .i64 0, .pointer (some ⟨B, 0, none⟩), .pointer (some ⟨K, 0, none⟩), .pointer (some ⟨E, 0, none⟩), .pointer (some ⟨C, 0, none⟩), .pointer (some ⟨B + 1, 0, none⟩)] W
      (StQ 101 wb B K E C (if kn.any (okK n (intsN out)) then some out else none) W) := by
  have HK : Hid (∀ V, Ext wb V → V.cell? ⟨K, 0, none⟩ = some (.slice ak kn.length ck)) := Lib.hid (fun V hx => hx.keep hB.kc)
  have HCO : Hid (∀ V, Ext wb V → V.cell? ⟨W.heap.size, 0, none⟩ = some vo → IntsV V vo (intsN out) → Calls Tryz.prog 102 #[.slice ak kn.length ck, .func (.func 103) #[] #[.pointer (some ⟨E, 0, none⟩), .pointer (some ⟨W.heap.size, 0, none⟩)]] V fun e w' => e = .returned (.bool (kn.any (okK n (intsN out)))) ∧ Ext V w') := Lib.hid (fun V hx h8 hv => by
    have h := cont_knd (.pointer (some ⟨E, 0, none⟩)) (.pointer (some ⟨W.heap.size, 0, none⟩)) ak ck (kn.map kndC) (fun i => okK n (intsN out) (kn.getD i (fun _ => false))) (fun _ w' => Ext V w') V (by rw [List.length_map]; have := hB.kl; omega)
      (fun _ _ hy => (hB.kk.ext hx).ext hy)
      (fun i hi w1 hy => by
        have hi' : i < kn.length := by simpa using hi
        have e1 : (kn.map kndC)[i] = kndC kn[i] := by simp
        have e2 : kn.getD i (fun _ => false) = kn[i] := by simp [hi']
        rw [e1, e2]; refine (leave11_d E W.heap.size n kn[i] (intsN out) vev vo w1 (hy.keep (hx.keep hB.ec)) (hB.ev.ext (hx.trans hy)) (hy.keep h8) (hv.ext hy) hB.n5).mono ?_
        rintro e w2 ⟨rfl, h2⟩; exact ⟨rfl, hy.trans h2⟩) (Ext.refl V)
    rw [List.length_map] at h; refine h.mono ?_
    rintro e w' ⟨i, -, hi, rfl⟩; exact ⟨by rw [anyB_list kn (fun _ => false) (okK n (intsN out))], hi⟩)
  have hln := hs.lt; have HO := Lib.hid ho; have HST := Lib.hid hs; obtain ⟨vf, fc⟩ := hs.fc; have ff := hs.ff; obtain ⟨ao, co, rfl, -⟩ := ho; have hne : ¬ B = W.heap.size := by omega
  have hne' : ¬ W.heap.size = B := by omega
  have hw1 : ¬ wb.heap.size = 0 ∨ True := .inr trivial
  have HX : Hid (∀ V, V = (W.alloc (.cells #[.slice ao (intsN out).length co] 22)).setCell ⟨B, 0, none⟩ (.slice ao (intsN out).length co) → StSt 101 wb B K E C V ∧ V.cell? ⟨B, 0, none⟩ = some (.slice ao (intsN out).length co) ∧ V.cell? ⟨W.heap.size, 0, none⟩ = some (.slice ao (intsN out).length co) ∧ IntsV V (.slice ao (intsN out).length co) (intsN out) ∧ KP (fun j => j = B) W V) := Lib.hid (fun V hV => by
    subst hV; have Y : Ext W (W.alloc (.cells #[.slice ao (intsN out).length co] 22)) := by (repeat (first | exact Ext.refl _ | with_reducible (first | assumption | refine Ext.drew ?_ | refine Ext.alloc ?_ _ | refine Ext.drewN ?_ _ | refine Ext.setCell ?_ (by omega) _ | refine Ext.trans ?_ (by assumption))))
    have hk : KP (fun j => j = B) W ((W.alloc (.cells #[.slice ao (intsN out).length co] 22)).setCell ⟨B, 0, none⟩ (.slice ao (intsN out).length co)) := KP.setCell (p := fun j => j = B) (Ext.kp Y) rfl _; exact ⟨(HST.out.grow Y).set _, World.cell?_setCell_same _ _ _ (Y.keep fc), cell_ne (.inl hne') (by simp [go_sem]), ints_kp HO.out hk (fun b hb => hn b hb), hk⟩)
  have fca := fun o => ((Ext.refl W).alloc o).keep fc
  have ffa := fun o => (((Ext.refl W).alloc o).frozen (lt_of_cell fc)).trans ff
  clear hs hw1; generalize hlo : (intsN out).length = lo at *; have HLO := Lib.hid hlo; clear hlo; have HWY : Hid (kn.any (okK n (intsN out)) = true → (if kn.any (okK n (intsN out)) then some out else none) = some out) := Lib.hid (fun h => if_pos h); have HWN : Hid (kn.any (okK n (intsN out)) = false → (if kn.any (okK n (intsN out)) then some out else none) = none) := Lib.hid (fun h => if_neg (by simp [h])); generalize (if kn.any (okK n (intsN out)) then some out else none) = want at *; generalize kn.any (okK n (intsN out)) = r at *; go_enter Tryz.func101, Tryz.ntmps101
  go_upto_region 3 with fail
  obtain ⟨s1, s2, s3, s4, s5⟩ := HX.out _ rfl; generalize (W.alloc (.cells #[.slice ao lo co] 22)).setCell ⟨B, 0, none⟩ (.slice ao lo co) = V at *; have kcell := HK.out V s1.ext; have HS1 := Lib.hid (And.intro s1 (And.intro s2 (And.intro s4 s5))); have HC2 := Lib.hid (HCO.out V s1.ext s3 s4); clear s1 s2 s3 s4 s5 HX HCO; (go_wp2_with fail); (with_reducible refine HC2.out.mono ?_); rintro e w9 ⟨rfl, hx9⟩; obtain ⟨s1, s2, s4, s5⟩ := HS1.out; have HE := Lib.hid (And.intro (s1.grow hx9) (And.intro (hx9.keep s2) (And.intro (s4.ext hx9) (s5.ext hx9)))); clear s1 s2 s4 s5 HS1 hx9; cases r with
  | true =>
    (go_wp2_with fail); go_ret; exact ⟨true, rfl, HE.out.2.2.2, fun _ => ⟨out, _, HWY.out (by simp), HE.out.2.1, HE.out.2.2.1⟩, fun h => (by cases h), HE.out.1⟩
  | false =>
    (go_wp2_with fail); go_ret; exact ⟨false, rfl, HE.out.2.2.2, fun h => (by cases h), fun _ => HWN.out (by simp), HE.out.1⟩
def StC (wb : World) (B K E C n : Nat) (kn : List Knd) (m : Nat) : Prop := ∀ (fI mI : Int) (start : Nat) (out : List Nat) (vo : Value) (W : World), fI = start → mI = m →
    StSt 101 wb B K E C W → IntsV W vo (intsN out) → (∀ b, vo.ownBlock = some b → b ≠ B) → (∀ x, x ∈ out → x < 5) → out.length + m ≤ 5 → start ≤ 5 →
    Calls Tryz.prog 101 #[vo, .int .i64 fI, .int .i64 mI, .pointer (some ⟨B, 0, none⟩), .pointer (some ⟨K, 0, none⟩), .pointer (some ⟨E, 0, none⟩), .pointer (some ⟨C, 0, none⟩), .pointer (some ⟨B + 1, 0, none⟩)] W
      (StQ 101 wb B K E C (strikeS n (fun o => kn.any (okK n (intsN o))) m out start) W)
set_option maxRecDepth 100000 in
set_option maxHeartbeats 4000000 in
theorem strike_succ (wb : World) (B K E C n : Nat) (kn : List Knd) (ak : Option Addr) (ck : Nat) (vev : Value) (a4 : Option Addr) (c4 : Nat) (hB : StB wb K E C n kn ak ck vev a4 c4) (m : Nat) (ih : StC wb B K E C n kn m) : StC wb B K E C n kn (m + 1) := by
  intro fI mI start out vo W hfI hmI hs ho hn hx5 hlm hst
  obtain ⟨ok, hok⟩ : ∃ ok, ok = fun o => kn.any (okK n (intsN o)) := ⟨_, rfl⟩
  unfold StC at ih; rw [← hok] at ih ⊢
  have HIH : Hid (∀ (fI mI : Int) (i : Nat) (vo' : Value) (W' : World), fI = (i : Int) + 1 → mI = m → i < n → StSt 101 wb B K E C W' → IntsV W' vo' (intsN (out ++ [i])) → (∀ b, vo'.ownBlock = some b → b ≠ B) →
      Calls Tryz.prog 101 #[vo', .int .i64 fI, .int .i64 mI, .pointer (some ⟨B, 0, none⟩), .pointer (some ⟨K, 0, none⟩), .pointer (some ⟨E, 0, none⟩), .pointer (some ⟨C, 0, none⟩), .pointer (some ⟨B + 1, 0, none⟩)] W' (StQ 101 wb B K E C (strikeS n ok m (out ++ [i]) (i + 1)) W')) :=
    Lib.hid (fun fI mI i vo' W' h1 h2 h3 h4 h5 h6 => ih fI mI (i + 1) (out ++ [i]) vo' W' (by omega) h2 h4 h5 h6 (fun x hx => by
      rcases List.mem_append.1 hx with h | h
      · exact hx5 x h
      · have : x = i := by simpa using h
        have := hB.n5; omega) (by simp; omega) (by have := hB.n5; omega))
  have HSC : Hid (strikeS n ok (m + 1) out start = scanN (fun i => strikeS n ok m (out ++ [i]) (i + 1)) (n - m - start) start) := Lib.hid rfl; have HCC : Hid (∀ V, Ext wb V → V.cell? ⟨C, 10, none⟩ = some (.slice a4 n c4)) := Lib.hid (fun V hx => hx.keep hB.cc); have hn5 := hB.n5; have HO := Lib.hid ho; have HST := Lib.hid hs; have hBl := hs.lt; obtain ⟨ao, co, rfl, hlo, hlo2, -⟩ := ho; have hlen : (intsN out).length = out.length := by simp [intsN]
  rw [hlen] at HO hlo hlo2 hn ⊢; obtain ⟨i0, hi0, hz0, hz1, hz2⟩ := info_parts info_int; generalize hwa : strikeS n ok (m + 1) out start = want at *; have hm0 : ¬ mI = 0 := by omega
  have hmb : (mI == 0) = false := by rw [beq_eq_false_iff_ne]; exact hm0
  have hw1 : IntKind.i64.wrap ((n : Int) - mI) = (n : Int) - mI := IntWalk.i64_in _ (by omega); have hw2 : IntKind.i64.wrap (mI - 1) = mI - 1 := IntWalk.i64_in _ (by omega); have hol : out.length ≤ 5 := by omega
  have HM0 := Lib.hid hmI; have HFI0 := Lib.hid hfI; have HNB := Lib.hid hn; have hneB : ¬ W.heap.size = B := by omega
  have h8 : (W.alloc (.cells #[.slice ao out.length co] 22)).cell? ⟨W.heap.size, 0, none⟩ = some (.slice ao out.length co) := by simp [go_sem]
  have XW : Ext W (W.alloc (.cells #[.slice ao out.length co] 22)) := by (repeat (first | exact Ext.refl _ | with_reducible (first | assumption | refine Ext.drew ?_ | refine Ext.alloc ?_ _ | refine Ext.drewN ?_ _ | refine Ext.setCell ?_ (by omega) _ | refine Ext.trans ?_ (by assumption))))
  clear hs ih hwa hlen hmI hfI hn; go_enter Tryz.func101, Tryz.ntmps101
  (go_wp2_with fail); have HST1 := Lib.hid (HST.out.grow XW); have hz8 : W.heap.size < (W.alloc (.cells #[.slice ao out.length co] 22)).heap.size := by simp
  have HKW : Hid (KP (fun j => j = B) W (W.alloc (.cells #[.slice ao out.length co] 22))) := Lib.hid (Ext.kp XW); generalize (W.alloc (.cells #[.slice ao out.length co] 22)) = W8 at *; go_loopw [12] (fun s12 wr => ∃ i : Nat, i ≤ 5 ∧ s12 = .int .i64 i ∧ Hid (StSt 101 wb B K E C wr) ∧ KP (fun j => j = B) W8 wr ∧ Hid (want = scanN (fun i => strikeS n ok m (out ++ [i]) (i + 1)) (n - m - i) i)) (fun s _ => 10 - (intOf s).toNat)
  case atStart => exact ⟨start, hst, by rw [HFI0.out], HST1, KP.refl _, HSC⟩
  case round =>
    obtain ⟨i, hi5, rfl, HS, hg, HSI⟩ := hrel; obtain ⟨wo, rfl⟩ : ∃ x, x = wr := ⟨_, rfl⟩; have cc := HCC.out wo HS.out.ext; have tc := HS.out.tc; have o8 := hg.keep hneB h8; by_cases hlt : i + m < n
    · have hd : decide ((i : Int) ≤ (n : Int) - mI) = true := decide_eq_true (by have := HM0.out; omega); have hw3 : IntKind.i64.wrap ((i : Int) + 1) = (i : Int) + 1 := IntWalk.i64_in _ (by omega); have hBo : B + 1 < wo.heap.size := HS.out.lt; have HV := Lib.hid (ints_kp (ints_kp HO.out HKW.out (fun b hb => HNB.out b hb)) hg (fun b hb => HNB.out b hb))
      have HCLN : Hid (∀ W', Ext wo W' → Calls Tryz.prog 66 #[.slice ao out.length co] W' fun e w' => ∃ v', e = .returned v' ∧ w'.ownsRow wo.heap.size 3 1 v' out.length ((intsN out).map (.int .i64)) ∧ Ext W' w') := Lib.hid (fun W' hx => (clone_x _ (intsN out) W' (HV.out.ext hx) (by simp [intsN]; omega)).mono (fun e w' ⟨v', g1, g2, g3⟩ => ⟨v', g1, by
        have := ownRow_down g2 hx.size; simpa [intsN] using this, g3⟩))
      have e2 : n - m - i = (n - m - (i + 1)) + 1 := by omega
      have HYES : Hid (∀ x, strikeS n ok m (out ++ [i]) (i + 1) = some x → want = some x) := Lib.hid (fun x h => by rw [HSI.out, e2]; exact scanN_yes h); have HNO : Hid (strikeS n ok m (out ++ [i]) (i + 1) = none → want = scanN (fun i => strikeS n ok m (out ++ [i]) (i + 1)) (n - m - (i + 1)) (i + 1)) := Lib.hid (fun h => by rw [HSI.out, e2]; exact scanN_no h); have HUS : Hid ((intsN out).map (Value.int .i64) ++ [Value.int .i64 (i : Int)] = (intsN (out ++ [i])).map (Value.int .i64)) := Lib.hid (by simp [intsN]); have HUN : Hid (out.length + 1 = (intsN (out ++ [i])).length) := Lib.hid (by simp [intsN])
      have HU5 : Hid (∀ x ∈ intsN (out ++ [i]), i64ok x) := Lib.hid (fun x hx => by
        obtain ⟨y, hy, rfl⟩ := List.mem_map.1 hx; rcases List.mem_append.1 hy with h | h
        · have := hx5 y h; unfold i64ok; omega
        · have : y = i := by simpa using h
          unfold i64ok; omega)
      have HUL : Hid ((intsN (out ++ [i])).length ≤ 1000) := Lib.hid (by simp [intsN]; omega)
      have HONE : Hid (∀ u ∈ ([.int .i64 (i : Int)] : List Value), u.oneCell' = true) := Lib.hid (by
        intro u hu
        simp only [List.mem_cons, List.not_mem_nil, or_false] at hu; rw [hu]; rfl)
      have HF1 : Hid (out.length + 1 ≤ maxLen) := Lib.hid (by simp only [maxLen]; omega); have HF2 : Hid ((out.length + 1) * 8 ≤ 140737488355328) := Lib.hid (by omega); have HIL : Hid (i < n) := Lib.hid (by omega); have HSS : Hid (∀ w', KP (fun j => j = B) wo w' → (w'.cell? ⟨B + 1, 0, none⟩ = some (.func (.func 101) #[] #[.pointer (some ⟨B, 0, none⟩), .pointer (some ⟨K, 0, none⟩), .pointer (some ⟨E, 0, none⟩), .pointer (some ⟨C, 0, none⟩), .pointer (some ⟨B + 1, 0, none⟩)]) ∧ w'.cell? ⟨W.heap.size, 0, none⟩ = some (.slice ao out.length co)) ∧ KP (fun j => j = B) wo w') := Lib.hid (fun w' hx => ⟨⟨hx.keep (by omega) tc, hx.keep hneB o8⟩, hx⟩); have HMI : Hid (mI - 1 = (m : Int)) := Lib.hid (by have := HM0.out; omega); have HST2 := HS; clear e2 HSI HSC HS; generalize hn' : out.length = lo at *; go_upto_region 7 with fail
      go_cut [39] from 29 to 39 (fun s39 wx => StM 101 wb B K E C (strikeS n ok m (out ++ [i]) (i + 1)) wo s39 wx)
      case first =>
        go_region_held3 (fun w' => (w'.cell? ⟨B + 1, 0, none⟩ = some (.func (.func 101) #[] #[.pointer (some ⟨B, 0, none⟩), .pointer (some ⟨K, 0, none⟩), .pointer (some ⟨E, 0, none⟩), .pointer (some ⟨C, 0, none⟩), .pointer (some ⟨B + 1, 0, none⟩)]) ∧ w'.cell? ⟨W.heap.size, 0, none⟩ = some (.slice ao lo co)) ∧ KP (fun j => j = B) wo w')
          ((refine HSS.out _ ?_; (repeat (first | exact KP.refl _ | with_reducible (first | assumption | refine KP.drew ?_ | refine KP.alloc ?_ _ | refine KP.setCell ?_ (fail) _ | refine KP.ext ?_ (by assumption) | refine KP.trans ?_ (by assumption) | refine Ext.kp (by assumption))))))
          (first
            | (go_at_call 66; (refine (HCLN.out _ (by (repeat (first | exact Ext.refl _ | with_reducible (first | assumption | refine Ext.drew ?_ | refine Ext.alloc ?_ _ | refine Ext.drewN ?_ _ | refine Ext.setCell ?_ (by omega) _ | refine Ext.trans ?_ (by assumption)))))).mono ?_); rintro e w3 ⟨v3, rfl, hown3, hx3⟩)
            | (go_at_call 101; (refine (HIH.out _ _ i _ _ rfl HMI.out HIL.out (HST2.out.grow (hx4.trans (by (repeat (first | exact Ext.refl _ | with_reducible (first | assumption | refine Ext.drew ?_ | refine Ext.alloc ?_ _ | refine Ext.drewN ?_ _ | refine Ext.setCell ?_ (by omega) _ | refine Ext.trans ?_ (by assumption))))))) (hv4.ext (by (repeat (first | exact Ext.refl _ | with_reducible (first | assumption | refine Ext.drew ?_ | refine Ext.alloc ?_ _ | refine Ext.drewN ?_ _ | refine Ext.setCell ?_ (by omega) _ | refine Ext.trans ?_ (by assumption)))))) hnb4).mono ?_); rintro e w5 ⟨b5, rfl, hp5⟩; have hg5 := hp5.kp; have HP5 := Lib.hid hp5)
            | ((refine step_is_app' _ _ 22 rfl ?_); (refine step_append_lies _ (by rfl) _ _ 22 (by rfl) wo.heap.size 3 i0 (.int .i64 0) 1 8 Tryz.underlying22 hi0 hz0 hz1 hz2 rfl (by decide) v3 lo ((intsN out).map (.int .i64)) (by rfl) (own_keep hown3 (fun g hg => Ext.heap (by (repeat (first | exact Ext.refl _ | with_reducible (first | assumption | refine Ext.drew ?_ | refine Ext.alloc ?_ _ | refine Ext.drewN ?_ _ | refine Ext.setCell ?_ (by omega) _ | refine Ext.trans ?_ (by assumption))))) (own_lt hown3 hg).2)) ⟨_, 0, none⟩ 1 1 [.int .i64 (i : Int)] (by rfl) rfl (one_inN (by (repeat (first | exact Ext.refl _ | with_reducible (first | assumption | refine Ext.drew ?_ | refine Ext.alloc ?_ _ | refine Ext.drewN ?_ _ | refine Ext.setCell ?_ (by omega) _ | refine Ext.trans ?_ (by assumption))))) (by first | rfl | simp)) HONE.out (by decide) HF1.out HF2.out (Ext.size (by (repeat (first | exact Ext.refl _ | with_reducible (first | assumption | refine Ext.drew ?_ | refine Ext.alloc ?_ _ | refine Ext.drewN ?_ _ | refine Ext.setCell ?_ (by omega) _ | refine Ext.trans ?_ (by assumption)))))) _ rfl ?_); intro g cap w4 hown4 hgrow hat hlt4; have hx4 : Ext wo w4 := grown_ext (by (repeat (first | exact Ext.refl _ | with_reducible (first | assumption | refine Ext.drew ?_ | refine Ext.alloc ?_ _ | refine Ext.drewN ?_ _ | refine Ext.setCell ?_ (by omega) _ | refine Ext.trans ?_ (by assumption))))) hgrow (fun g hg => (own_lt hown3 hg).1); have hv4 := own_intsV hown4 HUS.out HUN.out HU5.out HUL.out; have hnb4 : ∀ b, (Value.slice (some ⟨g, 0, none⟩) (lo + 1) cap).ownBlock = some b → b ≠ B := (fun b hb => (fun e => absurd (own_lt hown4 hb).1 (Nat.not_le_of_lt (by rw [e]; omega))))))
        all_goals
          (go_wp2_with fail); go_meet
          exact ⟨_, rfl, ⟨KP.trans (Ext.kp hx4) hg5, HP5.out.yes, HP5.out.no, HP5.out.st⟩⟩
      case rest =>
        obtain ⟨b, rfl, hp⟩ := hcut; have HP := Lib.hid hp; have hgx := hg.trans hp.kp; have HKE := Lib.hid (HKW.out.trans hgx); clear hp; obtain ⟨wd, rfl⟩ : ∃ x, x = wc := ⟨_, rfl⟩; cases b with
        | true =>
          obtain ⟨x, vx, hx1, hx2, hx3⟩ := HP.out.yes rfl; have HF := Lib.hid (And.intro (HYES.out x hx1) (And.intro hx2 hx3)); clear hx1 hx2 hx3; (go_wp2_with fail); go_ret; exact ⟨true, rfl, ⟨HKE.out, fun _ => ⟨x, vx, HF.out.1, HF.out.2.1, HF.out.2.2⟩, fun h => (by cases h), HP.out.st⟩⟩
        | false =>
          have HN1 := Lib.hid (HNO.out (HP.out.no rfl)); have HS2 := Lib.hid HP.out.st; (go_wp2_with fail); go_roundw
          case rel => exact ⟨i + 1, by omega, by go_num, HS2, hgx, HN1⟩
          case measure => simp [intOf]; omega
    · have hd : decide ((i : Int) ≤ (n : Int) - mI) = false := decide_eq_false (by have := HM0.out; omega); have HN : Hid (want = none) := Lib.hid (by rw [HSI.out, show n - m - i = 0 by omega]; rfl); have HKE := Lib.hid (HKW.out.trans hg); clear HSI HSC; (go_wp2_with fail); go_ret; exact ⟨false, rfl, HKE.out, fun h => (by cases h), fun _ => HN.out, HS.out⟩
theorem strike_all (wb : World) (B K E C n : Nat) (kn : List Knd) (ak : Option Addr) (ck : Nat) (vev : Value) (a4 : Option Addr) (c4 : Nat) (hB : StB wb K E C n kn ak ck vev a4 c4) : ∀ m, StC wb B K E C n kn m
  | 0 => by
    intro fI mI start out vo W hfI hmI hs ho hn hx5 hlm hst
    obtain rfl : mI = 0 := by simpa using hmI
    exact strike_zero wb B K E C n kn ak ck vev a4 c4 hB fI out vo W hs ho hn
  | m + 1 => strike_succ wb B K E C n kn ak ck vev a4 c4 hB m (strike_all wb B K E C n kn ak ck vev a4 c4 hB m)
end Go.Proofs.YtegkdnfeceomdaaGreat
/- Contracts of layer 8: First. -/
namespace Go.Hs
open Go.RowKit
def takeC (c : DCas) (k : Nat) : DCas := { c with clms := c.clms.take k }
theorem takeC_len {c : DCas} {k : Nat} (h : k ≤ c.clms.length) : (takeC c k).clms.length = k := by simp [takeC]; omega
theorem takeC_all (c : DCas) : takeC c c.clms.length = c := by unfold takeC; rw [List.take_length]
theorem takeC_ok {c : DCas} (h : CasS c) (k : Nat) : CasS (takeC c k) :=
  ⟨h.bk, h.soc, h.nc, by have := h.nm; simp [takeC]; omega, h.day, h.parcel, h.loss, h.cov, fun x hx => h.clm x (List.mem_of_mem_take hx)⟩
theorem takeC_mem {w : World} {A : CaseA} {c : DCas} (h : CaseM w A c) {k : Nat} (hk : k ≤ c.clms.length) : CaseM w A (takeC c k) := by
  have h4 := h.l4; refine ⟨h.pars, h.ents, h.covs, fun i hi => ?_, h.l1, h.l2, h.l3, by rw [takeC_len hk]; omega⟩
  have hi' : i < k := by simp [takeC] at hi; omega
  obtain ⟨b, o, e, hc⟩ := h.clms i (by simp; omega); refine ⟨b, o, e, ?_⟩
  have e1 : ((takeC c k).clms.map Clm.c)[i]'hi = (c.clms.map Clm.c)[i]'(by simp; omega) := by simp [takeC]
  rw [e1]; exact hc
theorem WkD.claims {W0 w : World} {p m : Nat} {A : CaseA} {c : DCas} {j k : Nat} (h : WkD W0 p m A (takeC c j) w) (hk : k ≤ c.clms.length) : WkD W0 p m A (takeC c k) (w.setCell ⟨p, 10, none⟩ (.slice A.a4 k A.c4)) := by
  have b := h.cells; have q : ∀ i v, i ≠ 10 → w.cell? ⟨p, i, none⟩ = some v → (w.setCell ⟨p, 10, none⟩ (.slice A.a4 k A.c4)).cell? ⟨p, i, none⟩ = some v := fun i v hi hc => cell_ne (.inr hi) hc
  have hs : Stl m (w.setCell ⟨p, 10, none⟩ (.slice A.a4 k A.c4)) := h.stl.of (Below.heap_setCell _ _ _ _ (Ne.symm h.ne)); refine BoxD.wkd ⟨q _ _ (by decide) b.c0, q _ _ (by decide) b.c1, q _ _ (by decide) b.c2, q _ _ (by decide) b.c3, q _ _ (by decide) b.c4, q _ _ (by decide) b.c5, q _ _ (by decide) b.c6, q _ _ (by decide) b.c7, q _ _ (by decide) b.c8, q _ _ (by decide) b.c9, ?_, q _ _ (by decide) b.c11⟩ (h.ext.setCell h.hp _) hs (fun o => by rw [World.frozen?_setCell]; exact h.fr o) h.hp h.hm
  rw [takeC_len hk]; exact World.cell?_setCell_same _ _ _ b.c10
def firstS (c : DCas) : Option Nat := (List.range c.clms.length).find? (fun n => (truthsD (takeC c (n + 1)) []).isEmpty)
def fstE (c : DCas) : Int := if askD c true ≠ 0 then askD c true else if (firstS c).isSome then 0 else 7
def fstN (c : DCas) : Int := if askD c true ≠ 0 then 0 else (((firstS c).getD 0 : Nat) : Int)
theorem firstS_at {c : DCas} {n : Nat} (hn : n < c.clms.length) (h0 : ∀ j, j < n → (truthsD (takeC c (j + 1)) []).isEmpty = false) (h1 : (truthsD (takeC c (n + 1)) []).isEmpty = true) : firstS c = some n := by
  unfold firstS; rw [List.find?_range_eq_some]; exact ⟨h1, by simpa using hn, fun j hj => by simp [h0 j hj]⟩
theorem firstS_none {c : DCas} (h : ∀ j, j < c.clms.length → (truthsD (takeC c (j + 1)) []).isEmpty = false) : firstS c = none := by
  unfold firstS; rw [List.find?_eq_none]; intro x hx
  simp [h x (List.mem_range.1 hx)]
end Go.Hs
namespace Go.Proofs.YtegkdnfeceomdaaGreat
open Go.RowKit Go.Hs
attribute [local irreducible] World.setCell World.alloc
theorem run_slice_hi {a : Option Addr} {n q k : Nat} {v : Int} (hv : v = (k : Int)) (h : k ≤ q) : ∀ w, (Instr.slice 55 (.slice a n q) none (some (.int .i64 v)) none).run Tryz.prog w = .ok (.slice a k q) w := by
  subst hv; intro w
  simp [Instr.slice, Instr.sliceBounds, Instr.sliceBound, asIntOf, run_underlying Tryz.underlying55, h]
  intro _
  cases a with
  | none => rfl
  | some b =>
    obtain ⟨x, y, z⟩ := b; cases z <;> simp [Addr.add]
set_option maxRecDepth 100000 in
set_option maxHeartbeats 4000000 in
theorem First_d (A : CaseA) (c : DCas) (w : World) (hm : CaseM w A c) : Calls Tryz.prog 39 #[A.v c] w fun e w' => e = .returned (.tuple #[.int .i64 (fstN c), .int .i64 (fstE c)]) ∧ Ext w w' := by
  have HNO := Lib.hid (fun h W (hx : Ext w W) => ask_no A c W (hm.ext hx) h); have HYE := Lib.hid (fun h W (hx : Ext w W) => ask_yes A c W (hm.ext hx) h); have hnil : ∀ W, IntsV W (.slice none 0 0) [] := fun W => ⟨none, 0, rfl, Nat.le_refl _, by simp, fun i hi => absurd hi (Nat.not_lt_zero _)⟩
  have HPO := Lib.hid (fun (h : askD c true = 0) p m k W W0 (hk : k ≤ c.clms.length) (hx : Ext w W0) (hb : WkD W0 p m A (takeC c k) W) => possible_d p m A (takeC c k) (.slice none 0 0) [] W (takeC_ok (askD_cas h) k) (hb.kb (takeC_mem (hm.ext hx) hk)) (hnil W)); have HB1 : Hid (∀ r, askD c true = r → r ≠ 0 → fstE c = r ∧ fstN c = 0) := Lib.hid (fun r h h0 => ⟨by unfold fstE; rw [h, if_pos h0], by unfold fstN; rw [h, if_pos h0]⟩)
  have HB2 : Hid (askD c true = 0 → ∀ n, n < c.clms.length → (∀ j, j < n → (truthsD (takeC c (j + 1)) []).isEmpty = false) → (truthsD (takeC c (n + 1)) []).isEmpty = true → fstE c = 0 ∧ fstN c = n) := Lib.hid (fun h n hn h0 h1 => by
    have e := firstS_at hn h0 h1; exact ⟨by unfold fstE; rw [h, e]; rfl, by unfold fstN; rw [h, e]; rfl⟩)
  have HB3 : Hid (askD c true = 0 → (∀ j, j < c.clms.length → (truthsD (takeC c (j + 1)) []).isEmpty = false) → fstE c = 7 ∧ fstN c = 0) := Lib.hid (fun h h0 => by
    have e := firstS_none h0; exact ⟨by unfold fstE; rw [h, e]; rfl, by unfold fstN; rw [h, e]; rfl⟩)
  have hl4 := hm.l4; clear hm hnil; by_cases hE : askD c true = 0
  · have HYE2 := Lib.hid (HYE.out hE); have HPO2 := Lib.hid (HPO.out hE); have HB22 := Lib.hid (HB2.out hE); have HB32 := Lib.hid (HB3.out hE); clear HNO HYE HPO HB1 HB2 HB3 hE; generalize fstE c = be at *; generalize fstN c = bn at *; obtain ⟨a1, c1, a2, c2, a3, c3, a4, c4⟩ := A; unfold CaseA.v caseV at *; simp only at *; go_enter Tryz.func39, Tryz.ntmps39
    (go_wp2_with fail); obtain ⟨W0, hW⟩ : ∃ W, W = (w.alloc (.cells #[.int .i64 c.bk.last, .int .i64 c.bk.owners, .slice a1 c.bk.pars.length c1, .slice a2 c.bk.ents.length c2, .int .i64 c.soc, .int .i64 c.day, .int .i64 c.parcel, .slice a3 c.covs.length c3, .int .i64 c.llo, .int .i64 c.lhi, .slice a4 c.clms.length c4] 57)) := ⟨_, rfl⟩; have X : Ext w W0 := by subst hW; (repeat (first | exact Ext.refl _ | with_reducible (first | assumption | refine Ext.drew ?_ | refine Ext.alloc ?_ _ | refine Ext.drewN ?_ _ | refine Ext.setCell ?_ (by omega) _ | refine Ext.trans ?_ (by assumption))))
    have HS : Hid (∀ w', Ext W0 w' → (w'.cell? ⟨w.heap.size, 0, none⟩ = some (.int .i64 c.bk.last) ∧ w'.cell? ⟨w.heap.size, 1, none⟩ = some (.int .i64 c.bk.owners) ∧ w'.cell? ⟨w.heap.size, 2, none⟩ = some (.slice a1 c.bk.pars.length c1) ∧ w'.cell? ⟨w.heap.size, 3, none⟩ = some (.slice a2 c.bk.ents.length c2) ∧ w'.cell? ⟨w.heap.size, 4, none⟩ = some (.int .i64 c.soc) ∧ w'.cell? ⟨w.heap.size, 5, none⟩ = some (.int .i64 c.day) ∧ w'.cell? ⟨w.heap.size, 6, none⟩ = some (.int .i64 c.parcel) ∧ w'.cell? ⟨w.heap.size, 7, none⟩ = some (.slice a3 c.covs.length c3) ∧ w'.cell? ⟨w.heap.size, 8, none⟩ = some (.int .i64 c.llo) ∧ w'.cell? ⟨w.heap.size, 9, none⟩ = some (.int .i64 c.lhi) ∧ w'.cell? ⟨w.heap.size, 10, none⟩ = some (.slice a4 c.clms.length c4)) ∧ Ext W0 w') := Lib.hid (fun w' hx => ⟨⟨hx.keep (by subst hW; simp [go_sem]), hx.keep (by subst hW; simp [go_sem]), hx.keep (by subst hW; simp [go_sem]), hx.keep (by subst hW; simp [go_sem]), hx.keep (by subst hW; simp [go_sem]), hx.keep (by subst hW; simp [go_sem]), hx.keep (by subst hW; simp [go_sem]), hx.keep (by subst hW; simp [go_sem]), hx.keep (by subst hW; simp [go_sem]), hx.keep (by subst hW; simp [go_sem]), hx.keep (by subst hW; simp [go_sem])⟩, hx⟩); have HSf : Hid (∀ w', Ext W0 w' → ∀ o, w'.frozen? ⟨w.heap.size, o, none⟩ = false) := Lib.hid (fun w' hx o => (hx.frozen (by subst hW; simp)).trans (by subst hW; simp [go_sem])); have HSz : w.heap.size + 1 ≤ W0.heap.size := by subst hW; simp
    rw [← hW]; clear hW; (with_reducible refine (HYE2.out _ X).mono ?_); rintro e w1 ⟨p, m, rfl, hwk⟩
    have HC0 : Hid (∀ W', Ext W0 W' → W'.cell? ⟨w.heap.size, 10, none⟩ = some (.slice a4 c.clms.length c4)) := Lib.hid (fun W' h => by
      obtain ⟨⟨-, -, -, -, -, -, -, -, -, -, q10⟩, -⟩ := HS.out W' h; exact q10)
    have q10 := HC0.out w1 hwk.ext; have HW1 : Hid (WkD W0 p m ⟨a1, c1, a2, c2, a3, c3, a4, c4⟩ (takeC c c.clms.length) w1) := Lib.hid (by rw [takeC_all]; exact hwk); clear hwk HYE2 HS HSf; (go_wp2_with fail); go_loopw [18] (fun s18 wr => ∃ k j : Nat, k ≤ c.clms.length ∧ s18 = .int .i64 k ∧ Hid (WkD W0 p m ⟨a1, c1, a2, c2, a3, c3, a4, c4⟩ (takeC c j) wr) ∧ Hid (∀ j', j' < k → (truthsD (takeC c (j' + 1)) []).isEmpty = false)) (fun s _ => c.clms.length - (intOf s).toNat)
    case atStart => exact ⟨0, c.clms.length, Nat.zero_le _, rfl, HW1, Lib.hid (fun j hj => absurd hj (Nat.not_lt_zero _))⟩
    case round =>
      obtain ⟨k, j, hk, rfl, HW, HJ⟩ := hrel; obtain ⟨wo, rfl⟩ : ∃ x, x = wr := ⟨_, rfl⟩; by_cases hlt : k < c.clms.length
      · have hk0 : (0 : Int) ≤ (k : Int) := by omega
        have hk1 : (k : Int) < (c.clms.length : Int) := by omega
        have hw : IntKind.i64.wrap ((k : Int) + 1) = (k : Int) + 1 := IntWalk.i64_in _ (by omega); have hsl := run_slice_hi (a := a4) (n := c.clms.length) (q := c4) (k := k + 1) (v := (k : Int) + 1) (by omega) (by omega); have q10 := HC0.out wo HW.out.ext; have p10 := HW.out.cells.c10; have pf := HW.out.fr; have HW2 := Lib.hid (WkD.claims (k := k + 1) HW.out (by omega)); have HP := Lib.hid (fun W h => HPO2.out p m (k + 1) W W0 (by omega) X h); have HBY := Lib.hid (HB22.out k hlt HJ.out)
        have HJN : Hid ((truthsD (takeC c (k + 1)) []).isEmpty = false → ∀ j', j' < k + 1 → (truthsD (takeC c (j' + 1)) []).isEmpty = false) := Lib.hid (fun h j' hj => by
          by_cases e : j' = k
          · subst e; exact h
          · exact HJ.out j' (by omega))
        obtain ⟨tb, htb⟩ : ∃ tb, tb = (truthsD (takeC c (k + 1)) []).isEmpty := ⟨_, rfl⟩; rw [← htb] at HP HBY HJN; clear htb; (go_wp2_with fail); (with_reducible refine (HP.out _ HW2.out).mono ?_); rintro e w3 ⟨rfl, hm3⟩; have HW3 := Lib.hid (HW2.out.mm hm3); clear hm3 q10 p10 pf; cases tb with
        | true =>
          obtain ⟨rfl, rfl⟩ := HBY.out rfl; have XE : Ext w w3 := X.trans HW3.out.ext; clear HBY HJN; (go_wp2_with fail); go_ret2; exact ⟨rfl, XE⟩
        | false =>
          have HJ3 := Lib.hid (HJN.out rfl); clear HBY HJN; (go_wp2_with fail); go_roundw
          case rel => exact ⟨k + 1, k + 1, by omega, by go_num, HW3, HJ3⟩
          case measure => simp [intOf]; omega
      · obtain rfl : k = c.clms.length := by omega
        obtain ⟨rfl, rfl⟩ := HB32.out HJ.out; have XE : Ext w wo := X.trans HW.out.ext; (go_wp2_with fail); go_ret2; exact ⟨rfl, XE⟩
  · have HN := Lib.hid hE; have hb : (askD c true != 0) = true := by rw [bne_iff_ne]; exact hE
    have HNO2 := Lib.hid (HNO.out hE); have HR := Lib.hid (HB1.out _ rfl hE); clear HNO HYE HPO HB1 HB2 HB3 hE; rw [HR.out.1, HR.out.2]; generalize askD c true = r at *; obtain ⟨a1, c1, a2, c2, a3, c3, a4, c4⟩ := A; unfold CaseA.v caseV at *; simp only at *; go_enter Tryz.func39, Tryz.ntmps39
    (go_wp2_with fail); (with_reducible refine (HNO2.out _ (by (repeat (first | exact Ext.refl _ | with_reducible (first | assumption | refine Ext.drew ?_ | refine Ext.alloc ?_ _ | refine Ext.drewN ?_ _ | refine Ext.setCell ?_ (by omega) _ | refine Ext.trans ?_ (by assumption)))))).mono ?_); rintro e w1 ⟨rfl, hx1⟩; have X1 : Ext w w1 := by (repeat (first | exact Ext.refl _ | with_reducible (first | assumption | refine Ext.drew ?_ | refine Ext.alloc ?_ _ | refine Ext.drewN ?_ _ | refine Ext.setCell ?_ (by omega) _ | refine Ext.trans ?_ (by assumption))))
    clear hx1; (go_wp2_with fail); go_ret2; exact ⟨rfl, X1⟩
end Go.Proofs.YtegkdnfeceomdaaGreat
/- Plain laws of layer 1: how many lists of days there are. -/
namespace Go.Hs
def prodR (l : List (Int × Int)) : Int := l.foldl (fun n r => n * (r.2 - r.1 + 1)) 1
theorem prodR_from (l : List (Int × Int)) (a : Int) : l.foldl (fun n r => n * (r.2 - r.1 + 1)) a = a * prodR l := by
  induction l generalizing a with
  | nil => simp [prodR]
  | cons x r ih =>
    simp only [prodR, List.foldl_cons]; rw [ih (a * (x.2 - x.1 + 1)), ih (1 * (x.2 - x.1 + 1)), Int.one_mul, Int.mul_assoc]
theorem prodR_cons (x : Int × Int) (r : List (Int × Int)) : prodR (x :: r) = (x.2 - x.1 + 1) * prodR r := by
  simp only [prodR, List.foldl_cons]; rw [prodR_from r (1 * (x.2 - x.1 + 1)), Int.one_mul]; rfl
theorem cap_fold {C : Int} (hC : 1 ≤ C) : ∀ (l : List (Int × Int)) (n : Int), (∀ r ∈ l, r.1 ≤ r.2) → 1 ≤ n → l.foldl (fun n r => min (n * (r.2 - r.1 + 1)) C) (min n C) = min (n * prodR l) C
  | [], n, _, _ => by simp [prodR]
  | x :: r, n, h, hn => by
    have h1 := h x (by simp); have hr := fun y hy => h y (List.mem_cons_of_mem x hy)
    have hs : 1 ≤ x.2 - x.1 + 1 := by omega
    generalize hsz : x.2 - x.1 + 1 = s at *
    have e : min (min n C * s) C = min (n * s) C := by
      rcases Int.le_total n C with hc | hc
      · rw [Int.min_eq_left hc]
      · rw [Int.min_eq_right hc]; have a1 : C * 1 ≤ C * s := Int.mul_le_mul_of_nonneg_left hs (by omega); have a2 : n * 1 ≤ n * s := Int.mul_le_mul_of_nonneg_left hs (by omega); omega
    have hns : 1 ≤ n * s := by
      have a2 : n * 1 ≤ n * s := Int.mul_le_mul_of_nonneg_left hs (by omega); omega
    rw [List.foldl_cons, hsz, e, cap_fold hC r (n * s) hr hns, prodR_cons, hsz, Int.mul_assoc]
theorem manyL_eq {cap : Int} (hc : 0 ≤ cap) {l : List (Int × Int)} (h : ∀ r ∈ l, r.1 ≤ r.2) : manyL cap l = min (prodR l) (cap + 1) := by
  have := cap_fold (C := cap + 1) (by omega) l 1 h (Int.le_refl _); rw [Int.min_eq_left (by omega), Int.one_mul] at this; exact this
theorem manyL_lt {cap : Int} (hc : 0 ≤ cap) {l : List (Int × Int)} (h : ∀ r ∈ l, r.1 ≤ r.2) : cap < manyL cap l ↔ cap < prodR l := by
  rw [manyL_eq hc h]; omega
end Go.Hs
/- Contracts of layer 8: words and laws for Leave. -/
namespace Go.Hs
open Go.RowKit
def kndD (c : DCas) (d : Dmg) : Knd := fun i => decide (i < c.clms.length) && rightD (c.clms.getD i default) d
def sameK (f g : Knd) : Bool := f 0 == g 0 && (f 1 == g 1 && (f 2 == g 2 && (f 3 == g 3 && f 4 == g 4)))
def stepK (kn : List Knd) (k : Knd) : List Knd := if kn = [] ∨ sameK (kn.getLastD (fun _ => false)) k = false then kn ++ [k] else kn
def knownD (c : DCas) (ts : List (DTr × Dmg)) : List Knd := (ts.map (fun x : DTr × Dmg => kndD c x.2)).foldl stepK []
theorem knownD_snoc (c : DCas) (ts : List (DTr × Dmg)) (x : DTr × Dmg) : knownD c (ts ++ [x]) = stepK (knownD c ts) (kndD c x.2) := by
  unfold knownD; rw [List.map_append, List.foldl_append]; rfl
theorem stepK_len (kn : List Knd) (k : Knd) : (stepK kn k).length ≤ kn.length + 1 := by unfold stepK; split <;> simp
theorem stepK_ne (kn : List Knd) (k : Knd) : stepK kn k ≠ [] := by
  unfold stepK; split
  · simp
  · rename_i h; exact fun e => h (.inl e)
theorem stepK_fold_len (l : List Knd) : ∀ kn, (l.foldl stepK kn).length ≤ kn.length + l.length := by
  induction l with
  | nil => intro kn; simp
  | cons k l ih =>
    intro kn
    have h1 := ih (stepK kn k); have h2 := stepK_len kn k; simp only [List.foldl_cons, List.length_cons]; omega
theorem knownD_len (c : DCas) (ts : List (DTr × Dmg)) : (knownD c ts).length ≤ ts.length := by
  have := stepK_fold_len (ts.map (fun x : DTr × Dmg => kndD c x.2)) []; simpa [knownD] using this
theorem knownD_ne {c : DCas} {ts : List (DTr × Dmg)} (h : ts ≠ []) : knownD c ts ≠ [] := by
  rcases List.eq_nil_or_concat ts with h' | ⟨l, x, rfl⟩
  · exact absurd h' h
  · rw [List.concat_eq_append, knownD_snoc]; exact stepK_ne _ _
theorem allL_prod : ∀ {rs : List (Int × Int)}, (∀ r ∈ rs, r.1 ≤ r.2) → ((allL rs).length : Int) = prodR rs
  | [], _ => by simp [allL, prodR]
  | r :: t, h => by
    rw [allL_len, prodR_cons, Int.natCast_mul, allL_prod (fun x hx => h x (by simp [hx]))]; have := h r (by simp); congr 1
    omega
theorem truthsD_len {c : DCas} (h : caseD c = 0) (out : List Int) : (truthsD c out).length ≤ 2000 := by
  obtain ⟨-, hS, hm⟩ := caseD_zero h; have h1 : (truthsD c out).length ≤ (allL (rngsD c)).length := List.length_filterMap_le _ _; have hr : ∀ r ∈ rngsD c, r.1 ≤ r.2 := fun r hr => (rngsD_ok hS r hr).2.1
  have h2 := allL_prod hr; have h3 := manyL_lt (cap := 2000) (by decide) hr; omega
def okD (c : DCas) : List Nat → Bool := fun o => (knownD c (truthsD c (everyI c.clms.length))).any (okK c.clms.length (intsN o))
def leaveD (c : DCas) : List Nat := ((List.range (c.clms.length + 1)).findSome? (fun m => strikeS c.clms.length (okD c) m [] 0)).getD []
theorem strike_full {n : Nat} {ok : List Nat → Bool} (h : ok (List.range n) = true) : ∀ m s, m + s = n → strikeS n ok m (List.range s) s = some (List.range n)
  | 0, s, hs => by
    obtain rfl : s = n := by omega
    unfold strikeS; rw [if_pos h]
  | m + 1, s, hs => by
    unfold strikeS; rw [show n - m - s = 0 + 1 by omega]; refine scanN_yes ?_
    rw [← List.range_succ]; exact strike_full h m (s + 1) (by omega)
theorem okK_all (n : Nat) (k : Knd) : okK n (intsN (List.range n)) k = true := by
  unfold okK; rw [List.all_eq_true]; intro i hi
  have : i ∈ intsN (List.range n) := hi; simp [this]
theorem okD_full {c : DCas} (h : (truthsD c (everyI c.clms.length)).isEmpty = false) : okD c (List.range c.clms.length) = true := by
  unfold okD; have hne : truthsD c (everyI c.clms.length) ≠ [] := fun e => by rw [e] at h; cases h
  obtain ⟨x, r, e⟩ := List.exists_cons_of_ne_nil (knownD_ne (c := c) hne); rw [e, List.any_cons, okK_all]; rfl
theorem leave_some {c : DCas} {m : Nat} {x : List Nat} (hm : m ≤ c.clms.length) (h0 : ∀ j, j < m → strikeS c.clms.length (okD c) j [] 0 = none) (h1 : strikeS c.clms.length (okD c) m [] 0 = some x) : leaveD c = x := by
  unfold leaveD
  have : (List.range (c.clms.length + 1)).findSome? (fun m => strikeS c.clms.length (okD c) m [] 0) = some x := by
    have e : List.range (c.clms.length + 1) = List.range m ++ (m :: List.range' (m + 1) (c.clms.length - m)) := by
      have h := (List.range'_append_1 (s := 0) (m := m) (n := c.clms.length + 1 - m)); rw [show m + (c.clms.length + 1 - m) = c.clms.length + 1 by omega, show c.clms.length + 1 - m = c.clms.length - m + 1 by omega, List.range'_succ, Nat.zero_add] at h; rw [List.range_eq_range', List.range_eq_range', ← h]
    rw [e, List.findSome?_append, List.findSome?_eq_none_iff.2 (fun j hj => h0 j (List.mem_range.1 hj)), List.findSome?_cons, h1]; rfl
  rw [this]; rfl
end Go.Hs
namespace Go.Proofs.YtegkdnfeceomdaaGreat
open Go.RowKit Go.Hs
theorem neq_knd (f g : Knd) (w : World) : (binOp .neq 177 (kndC f).val (kndC g).val).run Tryz.prog w = .ok (.bool (!sameK f g)) w := by
  unfold sameK kndC V5.val; generalize f 0 = a0; generalize f 1 = a1; generalize f 2 = a2; generalize f 3 = a3; generalize f 4 = a4; generalize g 0 = b0; generalize g 1 = b1; generalize g 2 = b2; generalize g 3 = b3; generalize g 4 = b4; have u3 := Tryz.underlying4; have a3' := Tryz.isAgg4; have z3 := Tryz.sizeOf4; rw [run_neq_struct]; rw [show (10000 : Nat) = 9999 + 1 from rfl, Op.equalIn]; simp only [Sem.run_bind, run_underlying Tryz.underlying177, Result.andThen_ok]; simp only [Std.Legacy.Range.forIn_eq_forIn_range', Std.Legacy.Range.size, Nat.sub_zero, Nat.add_sub_cancel, Nat.div_one, List.range'_succ, List.range'_zero, List.forIn_cons, List.forIn_nil]; go_simp; by_cases h0 : a0 = b0 <;> by_cases h1 : a1 = b1 <;> by_cases h2 : a2 = b2 <;> by_cases h3 : a3 = b3 <;> by_cases h4 : a4 = b4 <;> simp [h0, h1, h2, h3, h4]
end Go.Proofs.YtegkdnfeceomdaaGreat
