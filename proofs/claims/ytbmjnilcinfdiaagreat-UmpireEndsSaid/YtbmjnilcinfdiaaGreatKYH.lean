/- Contracts of layer 7's law: a truth by words, and a truth of the program. -/
import Derived.Test.YtbmjnilcinfdiaaGreatKVT
import Derived.Test.YtbmjnilcinfdiaaGreatKRB
import Derived.Test.YtbmjnilcinfdiaaGreatKB7
set_option linter.unusedSimpArgs false
set_option linter.unusedVariables false
namespace Go.Hs
open Go.RowKit Go.Proofs.YtbmjnilcinfdiaaGreat
def pickS (lo hi x : Int) : Int := lo + x % (hi - lo + 1)
def wordS (ws : List Int) (j : Nat) : Int := if ws.length = 0 then 0 else ws.getD (j % ws.length) 0
def pickT (ws : List Int) (f : Fld) (i : Nat) : Thr := ⟨pickS f.alo f.ahi (wordS ws (3 * i)), pickS f.blo f.bhi (wordS ws (3 * i + 1)), pickS f.ulo f.uhi (wordS ws (3 * i + 2))⟩
def pickedAt (c : Cas) (ws : List Int) (i : Nat) : Thr := pickT ws (c.flds.getD i default) i
/-- A truth of a case, by words. -/
def pickedS (c : Cas) (ws : List Int) : List Thr := thrsTo (pickedAt c ws) c.flds.length
theorem pickS_in {lo hi : Int} (h : lo ≤ hi) (x : Int) : lo ≤ pickS lo hi x ∧ pickS lo hi x ≤ hi := by
  unfold pickS
  have h0 := Int.emod_nonneg x (b := hi - lo + 1) (by omega)
  have h1 := Int.emod_lt_of_pos x (b := hi - lo + 1) (by omega)
  omega
theorem picked_truth {c : Cas} (h : CasOK c) (ws : List Int) : TruthOf c.flds (pickedS c ws) := by
  refine truthOf_iff.2 ⟨thrsTo_len _ _, fun k h1 h2 => ?_⟩
  have e : (pickedS c ws)[k] = pickT ws c.flds[k] k := by simp [pickedS, thrsTo, pickedAt, h1]
  rw [e]
  have hf := h.flds _ (List.getElem_mem h1)
  exact ⟨pickS_in hf.a.2.1 _, pickS_in hf.b.2.1 _, pickS_in hf.u.2.1 _⟩
theorem three_in {W wa : World} {b : Nat} {u : V3} {t : TypeId} (h : Ext (W.alloc (.cells #[u.c0, u.c1, u.c2] t)) wa) (hb : b = W.heap.size) : ∀ j x, u.cs[j]? = some x → wa.cell? ((⟨b, 0, none⟩ : Addr).add j) = some x := by
  subst hb
  intro j x hj
  have e : ∀ j, (⟨W.heap.size, 0, none⟩ : Addr).add j = ⟨W.heap.size, j, none⟩ := fun j => by unfold Addr.add; split <;> simp_all
  rw [e]
  rcases j with _ | _ | _ | j
  all_goals first
    | (simp at hj; subst hj; exact h.keep (by simp [go_sem]))
    | (simp at hj)
theorem thrsTo_self (t : List Thr) : thrsTo (fun i => t.getD i default) t.length = t := by
  unfold thrsTo
  apply List.ext_getElem
  · simp
  · intro i h1 h2; simp [h2]
end Go.Hs
namespace Go.Proofs.YtbmjnilcinfdiaaGreat
open Go.RowKit Go.Hs
attribute [local irreducible] World.setCell World.alloc
theorem info_uthree : (Tryz.prog.info? 111).map (fun i => (i.zero, i.size, i.bytes)) = some (some (.agg #[.int .i64 0, .int .i64 0, .int .i64 0]), 3, 24) := by kernel_rfl

set_option maxRecDepth 100000 in
set_option maxHeartbeats 4000000 in
theorem TruthL_any (t : List Thr) (v : Value) (w : World) (hv : ThrsV w v t) :
    Calls Tryz.prog 37 #[v] w fun e w' => ∃ v', e = .returned v' ∧ ThrsV w' v' t ∧ Ext w w' := by
  obtain ⟨a, q, rfl, hq, hl, hc⟩ := hv
  obtain ⟨i3, hi3, hz30, hz31, hz32⟩ := info_parts info_uthree
  have HCL := Lib.hid hc
  have HSELF := Lib.hid (thrsTo_self t)
  clear hc
  go_enter Tryz.func37, Tryz.ntmps37
  go_wp2_with fail
  go_loopw [3, 4] (fun s3 s4 wr => ∃ (k : Nat) (a5 : Option Addr) (q5 : Nat), k ≤ t.length ∧ s4 = .int .i64 k ∧ s3 = .slice a5 k q5 ∧ Hid (ThrRow w.heap.size 111 (fun i => t.getD i default) k (.slice a5 k q5) wr) ∧ Ext w wr) (fun _ s _ => t.length - (intOf s).toNat)
  case atStart => exact ⟨0, none, 0, Nat.zero_le _, rfl, rfl, Lib.hid (ThrRow.nil _ _ _ _), Ext.refl _⟩
  case round =>
    obtain ⟨k, a5, q5, hk, rfl, rfl, HR, hx⟩ := hrel
    obtain ⟨wo, rfl⟩ : ∃ x, x = wr := ⟨_, rfl⟩
    by_cases hlt : k < t.length
    · obtain ⟨b, off, rfl, hc0⟩ := HCL.out k (by simpa using hlt)
      have hbl : b < w.heap.size := lt_of_cell hc0.1
      have hc1 := Cell3.ext hx _ _ _ hc0
      have e1 : (t.map Thr.c)[k]'(by simpa using hlt) = (t[k]).c := by simp
      rw [e1] at hc1
      have e2 : t.getD k default = t[k] := by simp [hlt]
      have HG := Lib.hid e2
      generalize t[k] = x at *
      obtain ⟨A, B, U⟩ := x
      obtain ⟨m0, m1, m2⟩ := hc1
      simp only [Thr.c] at m0 m1 m2
      have hk0 : (0 : Int) ≤ (k : Int) := by omega
      have hki : (k : Int) < (t.length : Int) := by omega
      have HP0 : Hid (¬ (Value.slice a5 k q5).ownBlock = some b) := Lib.hid (fun e => by have := own_lt HR.out e; omega)
      have HSS : Hid (∀ w', KP (fun j => (Value.slice a5 k q5).ownBlock = some j) wo w' → (w'.cell? ⟨b, off + k * 3, none⟩ = some (.int .i64 A) ∧ w'.cell? ⟨b, off + k * 3 + 1, none⟩ = some (.int .i64 B) ∧ w'.cell? ⟨b, off + k * 3 + 2, none⟩ = some (.int .i64 U)) ∧ KP (fun j => (Value.slice a5 k q5).ownBlock = some j) wo w') := Lib.hid (fun w' h => ⟨⟨h.keep HP0.out m0, h.keep HP0.out m1, h.keep HP0.out m2⟩, h⟩)
      have HONE : Hid (∀ u ∈ ([.int .i64 A, .int .i64 B, .int .i64 U] : List Value), u.oneCell' = true) := Lib.hid (by
        intro u hu
        simp only [List.mem_cons, List.not_mem_nil, or_false] at hu
        rcases hu with rfl | rfl | rfl <;> rfl)
      have HF1 : Hid (k + 1 ≤ maxLen) := Lib.hid (by simp only [maxLen]; omega)
      have HF2 : Hid ((k + 1) * 24 ≤ 140737488355328) := Lib.hid (by omega)
      have HF3 : Hid (w.heap.size ≤ wo.heap.size) := Lib.hid hx.size
      have HX := Lib.hid hx
      have HOWN : Hid (wo.ownsRow w.heap.size 111 3 (.slice a5 k q5) k ((thrsTo (fun i => t.getD i default) k).flatMap (fun x : Thr => x.c.cs))) := HR
      clear e1 e2 HCL hc0 m0 m1 m2 hx
      go_upto_region 5 with fail
      go_region_held3 (fun w' => (w'.cell? ⟨b, off + k * 3, none⟩ = some (.int .i64 A) ∧ w'.cell? ⟨b, off + k * 3 + 1, none⟩ = some (.int .i64 B) ∧ w'.cell? ⟨b, off + k * 3 + 2, none⟩ = some (.int .i64 U)) ∧ KP (fun j => (Value.slice a5 k q5).ownBlock = some j) wo w')
        ((refine HSS.out _ ?_; (repeat (first | exact KP.refl _ | (with_reducible assumption) | (with_reducible refine KP.drew ?_) | (with_reducible refine KP.alloc ?_ _) | (with_reducible refine KP.setCell ?_ (by assumption) _) | (with_reducible refine KP.ext ?_ (by with_reducible assumption)) | (with_reducible refine KP.trans ?_ (by with_reducible assumption)) | (with_reducible refine Ext.kp (by with_reducible assumption))))))
        (first
          | ((refine step_is_app _ _ 73 rfl ?_); (refine step_append_lies _ (by rfl) _ _ 73 (by rfl) w.heap.size 111 i3 (.agg #[.int .i64 0, .int .i64 0, .int .i64 0]) 3 24 Tryz.underlying73 hi3 hz30 hz31 hz32 rfl (by decide) (.slice a5 k q5) k ((thrsTo (fun i => t.getD i default) k).flatMap (fun x : Thr => x.c.cs)) rfl (own_ext HOWN.out (by (repeat (first | exact Ext.refl _ | (with_reducible assumption) | (with_reducible refine Ext.drew ?_) | (with_reducible refine Ext.alloc ?_ _) | (with_reducible refine Ext.drewN ?_ _) | (with_reducible refine Ext.setCell ?_ (by omega) _) | (with_reducible refine Ext.trans ?_ (by with_reducible assumption)))))) ⟨_, 0, none⟩ 1 1 [.int .i64 A, .int .i64 B, .int .i64 U] (by rfl) rfl (three_in (u := Thr.c ⟨A, B, U⟩) (by (repeat (first | exact Ext.refl _ | (with_reducible assumption) | (with_reducible refine Ext.drew ?_) | (with_reducible refine Ext.alloc ?_ _) | (with_reducible refine Ext.drewN ?_ _) | (with_reducible refine Ext.setCell ?_ (by omega) _) | (with_reducible refine Ext.trans ?_ (by with_reducible assumption))))) (by first | rfl | simp)) HONE.out (by decide) HF1.out HF2.out (le_ext HF3.out (by (repeat (first | exact Ext.refl _ | (with_reducible assumption) | (with_reducible refine Ext.drew ?_) | (with_reducible refine Ext.alloc ?_ _) | (with_reducible refine Ext.drewN ?_ _) | (with_reducible refine Ext.setCell ?_ (by omega) _) | (with_reducible refine Ext.trans ?_ (by with_reducible assumption)))))) _ rfl ?_); intro g cap w4 hown4 hgrow hat hlt4; have hk4 : KP (fun j => (Value.slice a5 k q5).ownBlock = some j) wo w4 := KP.trans (Ext.kp (by (repeat (first | exact Ext.refl _ | (with_reducible assumption) | (with_reducible refine Ext.drew ?_) | (with_reducible refine Ext.alloc ?_ _) | (with_reducible refine Ext.drewN ?_ _) | (with_reducible refine Ext.setCell ?_ (by omega) _) | (with_reducible refine Ext.trans ?_ (by with_reducible assumption)))))) (KP.grown hgrow (fun _ hg => hg)); have HX4 := Lib.hid (grown_ext (HX.out.trans (by (repeat (first | exact Ext.refl _ | (with_reducible assumption) | (with_reducible refine Ext.drew ?_) | (with_reducible refine Ext.alloc ?_ _) | (with_reducible refine Ext.drewN ?_ _) | (with_reducible refine Ext.setCell ?_ (by omega) _) | (with_reducible refine Ext.trans ?_ (by with_reducible assumption)))))) hgrow (fun g hg => (own_lt HR.out hg).1))))
      all_goals
        have HRN : Hid (ThrRow w.heap.size 111 (fun i => t.getD i default) (k + 1) (.slice (some ⟨g, 0, none⟩) (k + 1) cap) w4) := Lib.hid (ThrRow.next (x := ⟨A, B, U⟩) hown4 HG.out)
        go_wp2_with fail
        go_roundw
        case rel => exact ⟨k + 1, _, cap, by omega, by go_num, rfl, HRN, HX4.out⟩
        case measure => simp [intOf]; omega
    · have ek : k = t.length := by omega
      subst ek
      have HT := Lib.hid (HR.out.thrs (by omega))
      rw [HSELF.out] at HT
      clear HR HCL HSELF
      go_wp2_with fail
      go_ret
      exact ⟨_, rfl, HT.out, hx⟩

set_option maxRecDepth 100000 in
theorem pickU_any (lo hi x : Int) (hx : 0 ≤ x ∧ x ≤ 255) (h : 0 ≤ lo ∧ lo ≤ hi ∧ hi ≤ 100) (w : World) :
    Calls Tryz.prog 76 #[.agg #[.int .i64 lo, .int .i64 hi], .int .i64 x] w fun e w' => e = .returned (.int .i64 (pickS lo hi x)) ∧ Ext w w' := by
  have h0 := Int.emod_nonneg x (b := hi - lo + 1) (by omega)
  have h1 := Int.emod_lt_of_pos x (b := hi - lo + 1) (by omega)
  have hw1 : IntKind.i64.wrap (hi - lo) = hi - lo := IntWalk.i64_in _ (by omega)
  have hw2 : IntKind.i64.wrap (hi - lo + 1) = hi - lo + 1 := IntWalk.i64_in _ (by omega)
  have hp : Hid (pickS lo hi x = lo + x % (hi - lo + 1)) := rfl
  generalize pickS lo hi x = y at *
  obtain ⟨d, hd⟩ : ∃ d, d = hi - lo + 1 := ⟨_, rfl⟩
  rw [← hd] at h0 h1 hw2 hp
  have ht : x.tmod d = x % d := Int.tmod_eq_emod_of_nonneg hx.1
  have hdn : ¬ d = 0 := by omega
  generalize x % d = r at *
  have hw3 : IntKind.i64.wrap (lo + r) = lo + r := IntWalk.i64_in _ (by omega)
  have hw4 : IntKind.i64.wrap r = r := IntWalk.i64_in _ (by omega)
  have hw5 : IntKind.i64.wrap d = d := IntWalk.i64_in _ (by omega)
  have HD := Lib.hid hd
  have hd2 : hi - lo + 1 = d := hd.symm
  clear hd
  go_enter Tryz.func76, Tryz.ntmps76
  go_wp2_with fail
  go_region
  all_goals
    go_wp2_with fail
    go_ret
    exact ⟨ret_int hp.out.symm, by (repeat (first | exact Ext.refl _ | (with_reducible assumption) | (with_reducible refine Ext.drew ?_) | (with_reducible refine Ext.alloc ?_ _) | (with_reducible refine Ext.drewN ?_ _) | (with_reducible refine Ext.setCell ?_ (by omega) _) | (with_reducible refine Ext.trans ?_ (by with_reducible assumption))))⟩
end Go.Proofs.YtbmjnilcinfdiaaGreat
