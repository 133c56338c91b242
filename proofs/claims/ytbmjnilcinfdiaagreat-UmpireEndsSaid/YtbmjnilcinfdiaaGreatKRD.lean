/- Contracts of the reference of layer 7: whether a list is a truth of a case. -/
import Derived.Test.YtbmjnilcinfdiaaGreatKVK
import Derived.Test.YtbmjnilcinfdiaaGreatKXR
set_option linter.unusedSimpArgs false
set_option linter.unusedVariables false
namespace Go.Hs
open Go.RowKit Go.Proofs.YtbmjnilcinfdiaaGreat
def Oc.c (o : Oc) : V3 := ⟨.int .i64 o.pay, .bool o.called, .int .i64 o.lost⟩
def OcsV : World → Value → List Oc → Prop := Slice3 Oc.c
theorem OcsV.ext {w w' : World} {v : Value} {l : List Oc} (h : Ext w w') (k : OcsV w v l) : OcsV w' v l := Slice3.ext h k
theorem store9_gen {F : World → Prop} {W w : World} {T : Nat} {z0 z1 z2 z3 z4 z5 z6 z7 z8 v0 v1 v2 v3 v4 v5 v6 v7 v8 : Value} (hb : BoxN W T [z0, z1, z2, z3, z4, z5, z6, z7, z8] w) (h : ∀ w', BoxN W T [v0, v1, v2, v3, v4, v5, v6, v7, v8] w' → KP (fun k => k = T) w w' → F w') :
    F (((((((((w.setCell ⟨T, 0, none⟩ v0).setCell ⟨T, 1, none⟩ v1).setCell ⟨T, 2, none⟩ v2).setCell ⟨T, 3, none⟩ v3).setCell ⟨T, 4, none⟩ v4).setCell ⟨T, 5, none⟩ v5).setCell ⟨T, 6, none⟩ v6).setCell ⟨T, 7, none⟩ v7).setCell ⟨T, 8, none⟩ v8) :=
  h _ hb.stored9 ((((((((((KP.one _).trans (KP.one _)).trans (KP.one _)).trans (KP.one _)).trans (KP.one _)).trans (KP.one _)).trans (KP.one _)).trans (KP.one _)).trans (KP.one _)))
theorem store3_gen {F : World → Prop} {W w : World} {T : Nat} {z0 z1 z2 v0 v1 v2 : Value} (hb : BoxN W T [z0, z1, z2] w) (h : ∀ w', BoxN W T [v0, v1, v2] w' → KP (fun k => k = T) w w' → F w') :
    F (((w.setCell ⟨T, 0, none⟩ v0).setCell ⟨T, 1, none⟩ v1).setCell ⟨T, 2, none⟩ v2) :=
  h _ hb.stored3 (((KP.one _).trans (KP.one _)).trans (KP.one _))
theorem listed_len {c : Cas} {t : List Thr} (h : ¬ t.length = c.flds.length) : listedB c t = false := by simp [listedB, h]
theorem listed_all {c : Cas} {t : List Thr} (h : t.length = c.flds.length) (k : ∀ i, i < c.flds.length → thrB (c.flds.getD i default) (t.getD i default) = true) : listedB c t = true := by
  unfold listedB
  rw [Bool.and_eq_true]
  exact ⟨decide_eq_true h, allB_iff.2 k⟩
theorem listed_no {c : Cas} {t : List Thr} {i : Nat} (hi : i < c.flds.length) (k : thrB (c.flds.getD i default) (t.getD i default) = false) : listedB c t = false := by
  cases h : listedB c t with
  | false => rfl
  | true =>
    unfold listedB at h
    rw [Bool.and_eq_true] at h
    rw [allB_iff.1 h.2 i hi] at k
    cases k
end Go.Hs
namespace Go.Proofs.YtbmjnilcinfdiaaGreat
open Go.RowKit Go.Hs
attribute [local irreducible] World.setCell World.alloc

set_option maxRecDepth 100000 in
set_option maxHeartbeats 4000000 in
theorem IsTruth_any (c : Cas) (v : Value) (t : List Thr) (vt : Value) (w : World) (hv : CasV w v c) (ht : ThrsV w vt t) :
    Calls Tryz.prog 45 #[v, vt] w fun e w' => e = .returned (.bool (listedB c t)) ∧ Ext w w' := by
  obtain ⟨a1, c1, a2, c2, rfl, -, -, hcl, hl1, hl2⟩ := hv.open
  obtain ⟨at', qt, rfl, hq, hl, hct⟩ := ht
  have HIN := Lib.hid (fun n lo hi W => (In_any n lo hi W).mono (fun e w' (h : e = .returned (.bool (inR n lo hi)) ∧ W = w') => (⟨h.1, h.2 ▸ Ext.refl _⟩ : e = .returned (.bool (inR n lo hi)) ∧ Ext W w')))
  have HCL := Lib.hid hcl
  have HCT := Lib.hid hct
  have HNO := Lib.hid (fun i hi k => listed_no (c := c) (t := t) (i := i) hi k)
  have HAL := Lib.hid (fun h k => listed_all (c := c) (t := t) h k)
  have HLE := Lib.hid (fun h => listed_len (c := c) (t := t) h)
  generalize listedB c t = res at *
  clear hv hcl hct hq
  unfold casV
  by_cases hlen : t.length = c.flds.length
  · rw [hlen]
    have HLN := Lib.hid hlen
    clear hlen hl
    go_enter Tryz.func45, Tryz.ntmps45
    go_wp2_with fail
    have X : Ext w (w.alloc (.cells #[.slice a1 c.tars.length c1, .int .i64 c.day, .int .i64 c.fee, .slice a2 c.flds.length c2] 25)) := by (repeat (first | exact Ext.refl _ | (with_reducible assumption) | (with_reducible refine Ext.drew ?_) | (with_reducible refine Ext.alloc ?_ _) | (with_reducible refine Ext.drewN ?_ _) | (with_reducible refine Ext.setCell ?_ (by omega) _) | (with_reducible refine Ext.trans ?_ (by with_reducible assumption))))
    have HS : Hid (∀ w', Ext (w.alloc (.cells #[.slice a1 c.tars.length c1, .int .i64 c.day, .int .i64 c.fee, .slice a2 c.flds.length c2] 25)) w' → (w'.cell? ⟨w.heap.size, 0, none⟩ = some (.slice a1 c.tars.length c1) ∧ w'.cell? ⟨w.heap.size, 1, none⟩ = some (.int .i64 c.day) ∧ w'.cell? ⟨w.heap.size, 2, none⟩ = some (.int .i64 c.fee) ∧ w'.cell? ⟨w.heap.size, 3, none⟩ = some (.slice a2 c.flds.length c2)) ∧ Ext (w.alloc (.cells #[.slice a1 c.tars.length c1, .int .i64 c.day, .int .i64 c.fee, .slice a2 c.flds.length c2] 25)) w') := Lib.hid (fun w' hx => ⟨⟨hx.keep (by simp [go_sem]), hx.keep (by simp [go_sem]), hx.keep (by simp [go_sem]), hx.keep (by simp [go_sem])⟩, hx⟩)
    have HSf : Hid (∀ w', Ext (w.alloc (.cells #[.slice a1 c.tars.length c1, .int .i64 c.day, .int .i64 c.fee, .slice a2 c.flds.length c2] 25)) w' → ∀ o, w'.frozen? ⟨w.heap.size, o, none⟩ = false) := Lib.hid (fun w' hx o => (hx.frozen (by simp)).trans (by simp [go_sem]))
    have HSz : w.heap.size + 1 ≤ (w.alloc (.cells #[.slice a1 c.tars.length c1, .int .i64 c.day, .int .i64 c.fee, .slice a2 c.flds.length c2] 25)).heap.size := by simp
    generalize (w.alloc (.cells #[.slice a1 c.tars.length c1, .int .i64 c.day, .int .i64 c.fee, .slice a2 c.flds.length c2] 25)) = W at *
    go_loopw [5] (fun s5 wr => ∃ k : Nat, k ≤ c.flds.length ∧ s5 = .int .i64 k ∧ Hid (∀ i, i < k → thrB (c.flds.getD i default) (t.getD i default) = true) ∧ Ext W wr) (fun s _ => c.flds.length - (intOf s).toNat)
    case atStart => exact ⟨0, Nat.zero_le _, rfl, Lib.hid (fun i hi => absurd hi (Nat.not_lt_zero _)), Ext.refl _⟩
    case round =>
      obtain ⟨k, hk, rfl, HK, hx⟩ := hrel
      obtain ⟨wo, rfl⟩ : ∃ x, x = wr := ⟨_, rfl⟩
      obtain ⟨⟨q0, q1, q2, q3⟩, -⟩ := HS.out wo hx
      by_cases hlt : k < c.flds.length
      · have hlt2 : k < t.length := by have := HLN.out; omega
        obtain ⟨b, off, rfl, hce⟩ := HCL.out k (by simpa using hlt)
        obtain ⟨bt, ot, rfl, hcc⟩ := HCT.out k (by simpa using hlt2)
        have hce := hce.ext (X.trans hx) _ _ _
        have hcc := hcc.ext (X.trans hx) _ _ _
        have e1 : (c.flds.map Fld.c)[k]'(by simpa using hlt) = (c.flds[k]).c := by simp
        have e2 : (t.map Thr.c)[k]'(by simpa using hlt2) = (t[k]).c := by simp
        rw [e1] at hce
        rw [e2] at hcc
        have HD : Hid (thrB (c.flds.getD k default) (t.getD k default) = thrB c.flds[k] t[k]) := Lib.hid (by simp [hlt, hlt2])
        clear e1 e2
        have HTB : Hid (thrB c.flds[k] t[k] = (inR (t[k]).a (c.flds[k]).alo (c.flds[k]).ahi && (inR (t[k]).b (c.flds[k]).blo (c.flds[k]).bhi && inR (t[k]).u (c.flds[k]).ulo (c.flds[k]).uhi))) := rfl
        have HKN : Hid (thrB c.flds[k] t[k] = true → ∀ i, i < k + 1 → thrB (c.flds.getD i default) (t.getD i default) = true) := Lib.hid (fun h i hi => by
          rcases Nat.lt_or_ge i k with h1 | h1
          · exact HK.out i h1
          · obtain rfl : i = k := by omega
            rw [HD.out]; exact h)
        have HNK : Hid (thrB c.flds[k] t[k] = false → res = false) := Lib.hid (fun h => HNO.out k hlt (by rw [HD.out]; exact h))
        clear HK HD HNO HAL HLE HCL HCT
        generalize thrB c.flds[k] t[k] = tb at *
        generalize c.flds[k] = f at *
        generalize t[k] = x at *
        obtain ⟨cr, va, ne, al, ah, bl, bh, ul, uh⟩ := f
        obtain ⟨A, B, U⟩ := x
        simp only [Fld.c, Thr.c] at *
        obtain ⟨m0, m1, m2, m3, m4, m5, m6, m7, m8⟩ := hce
        obtain ⟨d0, d1, d2⟩ := hcc
        have hk0 : (0 : Int) ≤ (k : Int) := by omega
        have hki : (k : Int) < (c.flds.length : Int) := by omega
        have HX := Lib.hid (X.trans hx)
        have HXW := Lib.hid hx
        have HSL : Hid (∀ w', Ext wo w' → (w'.cell? ⟨w.heap.size, 3, none⟩ = some (.slice (some ⟨b, off, none⟩) c.flds.length c2) ∧ (w'.cell? ⟨b, off + k * 9, none⟩ = some (.int .i64 cr) ∧ w'.cell? ⟨b, off + k * 9 + 1, none⟩ = some (.int .i64 va) ∧ w'.cell? ⟨b, off + k * 9 + 2, none⟩ = some (.int .i64 ne) ∧ w'.cell? ⟨b, off + k * 9 + 3, none⟩ = some (.int .i64 al) ∧ w'.cell? ⟨b, off + k * 9 + 4, none⟩ = some (.int .i64 ah) ∧ w'.cell? ⟨b, off + k * 9 + 5, none⟩ = some (.int .i64 bl) ∧ w'.cell? ⟨b, off + k * 9 + 6, none⟩ = some (.int .i64 bh) ∧ w'.cell? ⟨b, off + k * 9 + 7, none⟩ = some (.int .i64 ul) ∧ w'.cell? ⟨b, off + k * 9 + 8, none⟩ = some (.int .i64 uh)) ∧ (w'.cell? ⟨bt, ot + k * 3, none⟩ = some (.int .i64 A) ∧ w'.cell? ⟨bt, ot + k * 3 + 1, none⟩ = some (.int .i64 B) ∧ w'.cell? ⟨bt, ot + k * 3 + 2, none⟩ = some (.int .i64 U))) ∧ Ext wo w') := Lib.hid (fun w' h => ⟨⟨h.keep q3, ⟨h.keep m0, h.keep m1, h.keep m2, h.keep m3, h.keep m4, h.keep m5, h.keep m6, h.keep m7, h.keep m8⟩, h.keep d0, h.keep d1, h.keep d2⟩, h⟩)
        clear hx q0 q1 q2 q3 m0 m1 m2 m3 m4 m5 m6 m7 m8 d0 d1 d2
        go_upto_region 6 with fail
        go_cut [6, 7] from 20 to 28 (fun sA sB wx => ∃ A1 B1, sA = .pointer (some ⟨A1, 0, none⟩) ∧ sB = .pointer (some ⟨B1, 0, none⟩) ∧ BoxN wo A1 [.int .i64 cr, .int .i64 va, .int .i64 ne, .int .i64 al, .int .i64 ah, .int .i64 bl, .int .i64 bh, .int .i64 ul, .int .i64 uh] wx ∧ BoxN wo B1 [.int .i64 A, .int .i64 B, .int .i64 U] wx)
        case first =>
          clear HKN HNK HTB HIN HS HSf HX HXW X
          refine wp_region_held_drew (S := (fun w' => (w'.cell? ⟨w.heap.size, 3, none⟩ = some (.slice (some ⟨b, off, none⟩) c.flds.length c2) ∧ (w'.cell? ⟨b, off + k * 9, none⟩ = some (.int .i64 cr) ∧ w'.cell? ⟨b, off + k * 9 + 1, none⟩ = some (.int .i64 va) ∧ w'.cell? ⟨b, off + k * 9 + 2, none⟩ = some (.int .i64 ne) ∧ w'.cell? ⟨b, off + k * 9 + 3, none⟩ = some (.int .i64 al) ∧ w'.cell? ⟨b, off + k * 9 + 4, none⟩ = some (.int .i64 ah) ∧ w'.cell? ⟨b, off + k * 9 + 5, none⟩ = some (.int .i64 bl) ∧ w'.cell? ⟨b, off + k * 9 + 6, none⟩ = some (.int .i64 bh) ∧ w'.cell? ⟨b, off + k * 9 + 7, none⟩ = some (.int .i64 ul) ∧ w'.cell? ⟨b, off + k * 9 + 8, none⟩ = some (.int .i64 uh)) ∧ (w'.cell? ⟨bt, ot + k * 3, none⟩ = some (.int .i64 A) ∧ w'.cell? ⟨bt, ot + k * 3 + 1, none⟩ = some (.int .i64 B) ∧ w'.cell? ⟨bt, ot + k * 3 + 2, none⟩ = some (.int .i64 U))) ∧ Ext wo w')) (by kernel_rfl) ?_ (fun hHeld => ?_)
          focus ((try dsimp only); (refine HSL.out _ ?_; (repeat (first | exact Ext.refl _ | (with_reducible assumption) | (with_reducible refine Ext.drew ?_) | (with_reducible refine Ext.alloc ?_ _) | (with_reducible refine Ext.drewN ?_ _) | (with_reducible refine Ext.setCell ?_ (by omega) _) | (with_reducible refine Ext.trans ?_ (by with_reducible assumption))))))
          refine wpAnyH_take (i := 0) (v := ?_) rfl (by kernel_rfl) (by decide +kernel) (by decide +kernel) (fun _ _ _ h => h) (Or.inl ⟨by rfl, ?_⟩) (by assumption) ?_
          rotate_left
          focus (intro w hSw; (try dsimp only at hSw); go_simp; try (first | (with_reducible rfl) | (with_reducible exact rfl)))
          (try simp only [Act.put, List.getElem_toArray, List.getElem_cons_succ, List.getElem_cons_zero, List.setIfInBounds_toArray, List.set_cons_zero, List.set_cons_succ])
          refine wpAnyH_take (i := 1) (v := ?_) rfl (by kernel_rfl) (by decide +kernel) (by decide +kernel) (fun _ _ _ h => h) (Or.inl ⟨by rfl, ?_⟩) (by assumption) ?_
          rotate_left
          focus (intro w hSw; (try dsimp only at hSw); go_simp; try (first | (with_reducible rfl) | (with_reducible exact rfl)))
          (try simp only [Act.put, List.getElem_toArray, List.getElem_cons_succ, List.getElem_cons_zero, List.setIfInBounds_toArray, List.set_cons_zero, List.set_cons_succ])
          refine wpAnyH_take (i := 2) (v := ?_) rfl (by kernel_rfl) (by decide +kernel) (by decide +kernel) (fun _ _ _ h => h) (Or.inl ⟨by rfl, ?_⟩) (by assumption) ?_
          rotate_left
          focus (intro w hSw; (try dsimp only at hSw); go_simp; try (first | (with_reducible rfl) | (with_reducible exact rfl)))
          (try simp only [Act.put, List.getElem_toArray, List.getElem_cons_succ, List.getElem_cons_zero, List.setIfInBounds_toArray, List.set_cons_zero, List.set_cons_succ])
          refine wpAnyH_take (i := 3) (v := ?_) rfl (by kernel_rfl) (by decide +kernel) (by decide +kernel) (fun _ _ _ h => h) (Or.inl ⟨by rfl, ?_⟩) (by assumption) ?_
          rotate_left
          focus (intro w hSw; (try dsimp only at hSw); go_simp; try (first | (with_reducible rfl) | (with_reducible exact rfl)))
          (try simp only [Act.put, List.getElem_toArray, List.getElem_cons_succ, List.getElem_cons_zero, List.setIfInBounds_toArray, List.set_cons_zero, List.set_cons_succ])
          refine wpAnyH_take (i := 4) (v := ?_) rfl (by kernel_rfl) (by decide +kernel) (by decide +kernel) (fun _ _ _ h => h) (Or.inl ⟨by rfl, ?_⟩) (by assumption) ?_
          rotate_left
          focus (intro w hSw; (try dsimp only at hSw); go_simp; try (first | (with_reducible rfl) | (with_reducible exact rfl)))
          (try simp only [Act.put, List.getElem_toArray, List.getElem_cons_succ, List.getElem_cons_zero, List.setIfInBounds_toArray, List.set_cons_zero, List.set_cons_succ])
          refine wpAnyH_take (i := 5) (v := ?_) rfl (by kernel_rfl) (by decide +kernel) (by decide +kernel) (fun _ _ _ h => h) (Or.inl ⟨by rfl, ?_⟩) (by assumption) ?_
          rotate_left
          focus (intro w hSw; (try dsimp only at hSw); go_simp; try (first | (with_reducible rfl) | (with_reducible exact rfl)))
          (try simp only [Act.put, List.getElem_toArray, List.getElem_cons_succ, List.getElem_cons_zero, List.setIfInBounds_toArray, List.set_cons_zero, List.set_cons_succ])
          refine wpAnyH_take (i := 6) (v := ?_) rfl (by kernel_rfl) (by decide +kernel) (by decide +kernel) (fun _ _ _ h => h) (Or.inl ⟨by rfl, ?_⟩) (by assumption) ?_
          rotate_left
          focus (intro w hSw; (try dsimp only at hSw); go_simp; try (first | (with_reducible rfl) | (with_reducible exact rfl)))
          (try simp only [Act.put, List.getElem_toArray, List.getElem_cons_succ, List.getElem_cons_zero, List.setIfInBounds_toArray, List.set_cons_zero, List.set_cons_succ])
          refine wpAnyH_take (i := 7) (v := ?_) rfl (by kernel_rfl) (by decide +kernel) (by decide +kernel) (fun _ _ _ h => h) (Or.inl ⟨by rfl, ?_⟩) (by assumption) ?_
          rotate_left
          focus (intro w hSw; (try dsimp only at hSw); go_simp; try (first | (with_reducible rfl) | (with_reducible exact rfl)))
          (try simp only [Act.put, List.getElem_toArray, List.getElem_cons_succ, List.getElem_cons_zero, List.setIfInBounds_toArray, List.set_cons_zero, List.set_cons_succ])
          refine wpAnyH_take (i := 8) (v := ?_) rfl (by kernel_rfl) (by decide +kernel) (by decide +kernel) (fun _ _ _ h => h) (Or.inl ⟨by rfl, ?_⟩) (by assumption) ?_
          rotate_left
          focus (intro w hSw; (try dsimp only at hSw); go_simp; try (first | (with_reducible rfl) | (with_reducible exact rfl)))
          (try simp only [Act.put, List.getElem_toArray, List.getElem_cons_succ, List.getElem_cons_zero, List.setIfInBounds_toArray, List.set_cons_zero, List.set_cons_succ])
          repeat' (first
            | (refine wpAnyH_ready (rs := [9, 10]) (by decide +kernel) (by simp) ?_
               refine AllReadyH.cons rfl (fun K hK => ?_) ?_
               focus
                 (go_simp; (first | refine alloc_gen (F := K _) ?_ | refine alloc_gend (F := K _) ?_); intro wA hxA hbA; have hsA := hxA.size; have hlA := hbA.lt; (try simp at hsA); (try simp at hlA))
                 refine hK.out _ _ ?_ (fun hNew => ?_)
                 focus ((try dsimp only); (refine HSL.out _ ?_; (repeat (first | exact Ext.refl _ | (with_reducible assumption) | (with_reducible refine Ext.drew ?_) | (with_reducible refine Ext.alloc ?_ _) | (with_reducible refine Ext.drewN ?_ _) | (with_reducible refine Ext.setCell ?_ (by omega) _) | (with_reducible refine Ext.trans ?_ (by with_reducible assumption))))))
                 clear hK K hHeld
                 have hHeld := hNew
                 clear hNew
                 (try simp only [Act.put, List.getElem_toArray, List.getElem_cons_succ, List.getElem_cons_zero, List.setIfInBounds_toArray, List.set_cons_zero, List.set_cons_succ])
               rotate_left
               refine AllReadyH.cons rfl (fun K hK => ?_) ?_
               focus
                 (go_simp; (first | refine alloc_gen (F := K _) ?_ | refine alloc_gend (F := K _) ?_); intro wB hxB hbB; have hsB := hxB.size; have hlB := hbB.lt; (try simp at hsB); (try simp at hlB))
                 refine hK.out _ _ ?_ (fun hNew => ?_)
                 focus ((try dsimp only); (refine HSL.out _ ?_; (repeat (first | exact Ext.refl _ | (with_reducible assumption) | (with_reducible refine Ext.drew ?_) | (with_reducible refine Ext.alloc ?_ _) | (with_reducible refine Ext.drewN ?_ _) | (with_reducible refine Ext.setCell ?_ (by omega) _) | (with_reducible refine Ext.trans ?_ (by with_reducible assumption))))))
                 clear hK K hHeld
                 have hHeld := hNew
                 clear hNew
                 (try simp only [Act.put, List.getElem_toArray, List.getElem_cons_succ, List.getElem_cons_zero, List.setIfInBounds_toArray, List.set_cons_zero, List.set_cons_succ])
               rotate_left
               exact AllReadyH.nil)
            | (refine wpAnyH_ready (rs := [9]) (by decide +kernel) (by simp) ?_
               refine AllReadyH.cons rfl (fun K hK => ?_) ?_
               focus
                 (go_simp; (first | refine alloc_gen (F := K _) ?_ | refine alloc_gend (F := K _) ?_); intro wA hxA hbA; have hsA := hxA.size; have hlA := hbA.lt; (try simp at hsA); (try simp at hlA))
                 refine hK.out _ _ ?_ (fun hNew => ?_)
                 focus ((try dsimp only); (refine HSL.out _ ?_; (repeat (first | exact Ext.refl _ | (with_reducible assumption) | (with_reducible refine Ext.drew ?_) | (with_reducible refine Ext.alloc ?_ _) | (with_reducible refine Ext.drewN ?_ _) | (with_reducible refine Ext.setCell ?_ (by omega) _) | (with_reducible refine Ext.trans ?_ (by with_reducible assumption))))))
                 clear hK K hHeld
                 have hHeld := hNew
                 clear hNew
                 (try simp only [Act.put, List.getElem_toArray, List.getElem_cons_succ, List.getElem_cons_zero, List.setIfInBounds_toArray, List.set_cons_zero, List.set_cons_succ])
               rotate_left
               exact AllReadyH.nil)
            | (refine wpAnyH_ready (rs := [10]) (by decide +kernel) (by simp) ?_
               refine AllReadyH.cons rfl (fun K hK => ?_) ?_
               focus
                 (go_simp; (first | refine alloc_gen (F := K _) ?_ | refine alloc_gend (F := K _) ?_); intro wB hxB hbB; have hsB := hxB.size; have hlB := hbB.lt; (try simp at hsB); (try simp at hlB))
                 refine hK.out _ _ ?_ (fun hNew => ?_)
                 focus ((try dsimp only); (refine HSL.out _ ?_; (repeat (first | exact Ext.refl _ | (with_reducible assumption) | (with_reducible refine Ext.drew ?_) | (with_reducible refine Ext.alloc ?_ _) | (with_reducible refine Ext.drewN ?_ _) | (with_reducible refine Ext.setCell ?_ (by omega) _) | (with_reducible refine Ext.trans ?_ (by with_reducible assumption))))))
                 clear hK K hHeld
                 have hHeld := hNew
                 clear hNew
                 (try simp only [Act.put, List.getElem_toArray, List.getElem_cons_succ, List.getElem_cons_zero, List.setIfInBounds_toArray, List.set_cons_zero, List.set_cons_succ])
               rotate_left
               exact AllReadyH.nil)
            | (refine wpAnyH_ready (rs := [11]) (by decide +kernel) (by simp) ?_
               refine AllReadyH.cons rfl (fun K hK => ?_) ?_
               focus
                 (have hcur := Lib.hid hHeld.2; have hszc := hcur.out.size; have hbz := (BoxN.keepTo hcur hbA (by (repeat (first | exact Ext.refl _ | (with_reducible assumption) | (with_reducible refine Ext.drew ?_) | (with_reducible refine Ext.alloc ?_ _) | (with_reducible refine Ext.drewN ?_ _) | (with_reducible refine Ext.setCell ?_ (by omega) _) | (with_reducible refine Ext.trans ?_ (by with_reducible assumption)))))).to hcur.out (by omega); have hbw := (BoxN.keepTo hcur hbB (by (repeat (first | exact Ext.refl _ | (with_reducible assumption) | (with_reducible refine Ext.drew ?_) | (with_reducible refine Ext.alloc ?_ _) | (with_reducible refine Ext.drewN ?_ _) | (with_reducible refine Ext.setCell ?_ (by omega) _) | (with_reducible refine Ext.trans ?_ (by with_reducible assumption)))))).to hcur.out (by omega); have z0 := hbz.cells 0 _ rfl; have z1 := hbz.cells 1 _ rfl; have z2 := hbz.cells 2 _ rfl; have z3 := hbz.cells 3 _ rfl; have z4 := hbz.cells 4 _ rfl; have z5 := hbz.cells 5 _ rfl; have z6 := hbz.cells 6 _ rfl; have z7 := hbz.cells 7 _ rfl; have z8 := hbz.cells 8 _ rfl; have zf := hbz.fr; go_simp; refine store9_gen (F := K _) hbz ?_; intro w6 hb6 hk6; have hx6 := hk6.toExt hcur.out (fun j hj => by omega); have hbw6 := hbw.kp hk6 (by omega) (fun j hj => by omega); have hb6' := hb6; clear z0 z1 z2 z3 z4 z5 z6 z7 z8 zf hbz hbw)
                 refine hK.out _ _ ?_ (fun hNew => ?_)
                 focus ((try dsimp only); (refine HSL.out _ ?_; (repeat (first | exact Ext.refl _ | (with_reducible assumption) | (with_reducible refine Ext.drew ?_) | (with_reducible refine Ext.alloc ?_ _) | (with_reducible refine Ext.drewN ?_ _) | (with_reducible refine Ext.setCell ?_ (by omega) _) | (with_reducible refine Ext.trans ?_ (by with_reducible assumption))))))
                 clear hK K hHeld
                 have hHeld := hNew
                 clear hNew
                 (try simp only [Act.put, List.getElem_toArray, List.getElem_cons_succ, List.getElem_cons_zero, List.setIfInBounds_toArray, List.set_cons_zero, List.set_cons_succ])
               rotate_left
               exact AllReadyH.nil)
            | (refine wpAnyH_ready (rs := [12]) (by decide +kernel) (by simp) ?_
               refine AllReadyH.cons rfl (fun K hK => ?_) ?_
               focus
                 (have z0 := hbw6.cells 0 _ rfl; have z1 := hbw6.cells 1 _ rfl; have z2 := hbw6.cells 2 _ rfl; have zf := hbw6.fr; go_simp; refine store3_gen (F := K _) hbw6 ?_; intro w7 hb7 hk7; have hx7 := hk7.toExt hx6 (fun j hj => by omega); have hb7' := hb7; have hbA7 := hb6'.kp hk7 (by omega) (fun j hj => by omega); clear z0 z1 z2 zf)
                 refine hK.out _ _ ?_ (fun hNew => ?_)
                 focus ((try dsimp only); (refine HSL.out _ ?_; (repeat (first | exact Ext.refl _ | (with_reducible assumption) | (with_reducible refine Ext.drew ?_) | (with_reducible refine Ext.alloc ?_ _) | (with_reducible refine Ext.drewN ?_ _) | (with_reducible refine Ext.setCell ?_ (by omega) _) | (with_reducible refine Ext.trans ?_ (by with_reducible assumption))))))
                 clear hK K hHeld
                 have hHeld := hNew
                 clear hNew
                 (try simp only [Act.put, List.getElem_toArray, List.getElem_cons_succ, List.getElem_cons_zero, List.setIfInBounds_toArray, List.set_cons_zero, List.set_cons_succ])
               rotate_left
               exact AllReadyH.nil)
            | (refine wpAnyH_done (by decide +kernel) ?_ _)
            | fail)
          all_goals
            go_wp2_with fail
            go_meet
            exact ⟨_, _, rfl, rfl, hbA7, hb7'⟩
        case rest =>
          obtain ⟨A1, B1, rfl, rfl, hb1, hb2⟩ := hcut
          obtain ⟨w5, rfl⟩ : ∃ x, x = wc := ⟨_, rfl⟩
          have X5 := HXW.out.trans hb1.ext
          have y3 := hb1.cells 3 _ rfl
          have y4 := hb1.cells 4 _ rfl
          have y5 := hb1.cells 5 _ rfl
          have y6 := hb1.cells 6 _ rfl
          have y7 := hb1.cells 7 _ rfl
          have y8 := hb1.cells 8 _ rfl
          have x0 := hb2.cells 0 _ rfl
          have x1 := hb2.cells 1 _ rfl
          have x2 := hb2.cells 2 _ rfl
          clear hb1 hb2 HSL HXW
          cases e1 : inR A al ah with
          | false =>
            have HR : Hid (res = false) := Lib.hid (HNK.out (by rw [HTB.out, e1]; rfl))
            clear HKN HNK HTB HX
            go_wp2_with fail
            (with_reducible refine (HIN.out _ _ _ _).mono ?_)
            rintro e w21 ⟨rfl, hx⟩
            have hy : Ext w5 w21 := by (repeat (first | exact Ext.refl _ | (with_reducible assumption) | (with_reducible refine Ext.drew ?_) | (with_reducible refine Ext.alloc ?_ _) | (with_reducible refine Ext.drewN ?_ _) | (with_reducible refine Ext.setCell ?_ (by omega) _) | (with_reducible refine Ext.trans ?_ (by with_reducible assumption))))
            replace X5 := X5.trans hy
            clear hx hy
            rw [e1]
            go_wp2_with fail
            go_ret
            exact ⟨ret_bool HR.out.symm, X.trans X5⟩
          | true =>
            cases e2 : inR B bl bh with
            | false =>
              have HR : Hid (res = false) := Lib.hid (HNK.out (by rw [HTB.out, e1, e2]; rfl))
              clear HKN HNK HTB HX
              go_wp2_with fail
              (with_reducible refine (HIN.out _ _ _ _).mono ?_)
              rintro e w21 ⟨rfl, hx⟩
              have hy : Ext w5 w21 := by (repeat (first | exact Ext.refl _ | (with_reducible assumption) | (with_reducible refine Ext.drew ?_) | (with_reducible refine Ext.alloc ?_ _) | (with_reducible refine Ext.drewN ?_ _) | (with_reducible refine Ext.setCell ?_ (by omega) _) | (with_reducible refine Ext.trans ?_ (by with_reducible assumption))))
              replace X5 := X5.trans hy
              replace y5 := hy.keep y5
              replace y6 := hy.keep y6
              replace x1 := hy.keep x1
              clear hx hy
              rw [e1]
              go_wp2_with fail
              (with_reducible refine (HIN.out _ _ _ _).mono ?_)
              rintro e w22 ⟨rfl, hx⟩
              have hy : Ext w21 w22 := by (repeat (first | exact Ext.refl _ | (with_reducible assumption) | (with_reducible refine Ext.drew ?_) | (with_reducible refine Ext.alloc ?_ _) | (with_reducible refine Ext.drewN ?_ _) | (with_reducible refine Ext.setCell ?_ (by omega) _) | (with_reducible refine Ext.trans ?_ (by with_reducible assumption))))
              replace X5 := X5.trans hy
              clear hx hy
              rw [e2]
              go_wp2_with fail
              go_ret
              exact ⟨ret_bool HR.out.symm, X.trans X5⟩
            | true =>
              cases e3 : inR U ul uh with
              | false =>
                have HR : Hid (res = false) := Lib.hid (HNK.out (by rw [HTB.out, e1, e2, e3]; rfl))
                clear HKN HNK HTB HX
                go_wp2_with fail
                (with_reducible refine (HIN.out _ _ _ _).mono ?_)
                rintro e w21 ⟨rfl, hx⟩
                have hy : Ext w5 w21 := by (repeat (first | exact Ext.refl _ | (with_reducible assumption) | (with_reducible refine Ext.drew ?_) | (with_reducible refine Ext.alloc ?_ _) | (with_reducible refine Ext.drewN ?_ _) | (with_reducible refine Ext.setCell ?_ (by omega) _) | (with_reducible refine Ext.trans ?_ (by with_reducible assumption))))
                replace X5 := X5.trans hy
                replace y5 := hy.keep y5
                replace y6 := hy.keep y6
                replace x1 := hy.keep x1
                replace y7 := hy.keep y7
                replace y8 := hy.keep y8
                replace x2 := hy.keep x2
                clear hx hy
                rw [e1]
                go_wp2_with fail
                (with_reducible refine (HIN.out _ _ _ _).mono ?_)
                rintro e w22 ⟨rfl, hx⟩
                have hy : Ext w21 w22 := by (repeat (first | exact Ext.refl _ | (with_reducible assumption) | (with_reducible refine Ext.drew ?_) | (with_reducible refine Ext.alloc ?_ _) | (with_reducible refine Ext.drewN ?_ _) | (with_reducible refine Ext.setCell ?_ (by omega) _) | (with_reducible refine Ext.trans ?_ (by with_reducible assumption))))
                replace X5 := X5.trans hy
                replace y7 := hy.keep y7
                replace y8 := hy.keep y8
                replace x2 := hy.keep x2
                clear hx hy
                rw [e2]
                go_wp2_with fail
                (with_reducible refine (HIN.out _ _ _ _).mono ?_)
                rintro e w23 ⟨rfl, hx⟩
                have hy : Ext w22 w23 := by (repeat (first | exact Ext.refl _ | (with_reducible assumption) | (with_reducible refine Ext.drew ?_) | (with_reducible refine Ext.alloc ?_ _) | (with_reducible refine Ext.drewN ?_ _) | (with_reducible refine Ext.setCell ?_ (by omega) _) | (with_reducible refine Ext.trans ?_ (by with_reducible assumption))))
                replace X5 := X5.trans hy
                clear hx hy
                rw [e3]
                go_wp2_with fail
                go_ret
                exact ⟨ret_bool HR.out.symm, X.trans X5⟩
              | true =>
                have HRN : Hid (∀ i, i < k + 1 → thrB (c.flds.getD i default) (t.getD i default) = true) := Lib.hid (HKN.out (by rw [HTB.out, e1, e2, e3]; rfl))
                clear HKN HNK HTB HX
                go_wp2_with fail
                (with_reducible refine (HIN.out _ _ _ _).mono ?_)
                rintro e w21 ⟨rfl, hx⟩
                have hy : Ext w5 w21 := by (repeat (first | exact Ext.refl _ | (with_reducible assumption) | (with_reducible refine Ext.drew ?_) | (with_reducible refine Ext.alloc ?_ _) | (with_reducible refine Ext.drewN ?_ _) | (with_reducible refine Ext.setCell ?_ (by omega) _) | (with_reducible refine Ext.trans ?_ (by with_reducible assumption))))
                replace X5 := X5.trans hy
                replace y5 := hy.keep y5
                replace y6 := hy.keep y6
                replace x1 := hy.keep x1
                replace y7 := hy.keep y7
                replace y8 := hy.keep y8
                replace x2 := hy.keep x2
                clear hx hy
                rw [e1]
                go_wp2_with fail
                (with_reducible refine (HIN.out _ _ _ _).mono ?_)
                rintro e w22 ⟨rfl, hx⟩
                have hy : Ext w21 w22 := by (repeat (first | exact Ext.refl _ | (with_reducible assumption) | (with_reducible refine Ext.drew ?_) | (with_reducible refine Ext.alloc ?_ _) | (with_reducible refine Ext.drewN ?_ _) | (with_reducible refine Ext.setCell ?_ (by omega) _) | (with_reducible refine Ext.trans ?_ (by with_reducible assumption))))
                replace X5 := X5.trans hy
                replace y7 := hy.keep y7
                replace y8 := hy.keep y8
                replace x2 := hy.keep x2
                clear hx hy
                rw [e2]
                go_wp2_with fail
                (with_reducible refine (HIN.out _ _ _ _).mono ?_)
                rintro e w23 ⟨rfl, hx⟩
                have hy : Ext w22 w23 := by (repeat (first | exact Ext.refl _ | (with_reducible assumption) | (with_reducible refine Ext.drew ?_) | (with_reducible refine Ext.alloc ?_ _) | (with_reducible refine Ext.drewN ?_ _) | (with_reducible refine Ext.setCell ?_ (by omega) _) | (with_reducible refine Ext.trans ?_ (by with_reducible assumption))))
                replace X5 := X5.trans hy
                clear hx hy
                rw [e3]
                go_wp2_with fail
                go_roundw
                case rel => exact ⟨k + 1, by omega, by go_num, HRN, X5⟩
                case measure => simp [intOf]; omega
      · obtain rfl : k = c.flds.length := by omega
        have HR : Hid (res = true) := Lib.hid (HAL.out HLN.out HK.out)
        clear HK HNO HAL HLE HCL HCT
        go_wp2_with fail
        go_ret
        exact ⟨ret_bool HR.out.symm, X.trans hx⟩
  · have hlb : ((t.length : Int) != (c.flds.length : Int)) = true := by rw [bne_iff_ne]; omega
    have HR : Hid (res = false) := Lib.hid (HLE.out hlen)
    clear HNO HAL HLE HCL HCT
    go_enter Tryz.func45, Tryz.ntmps45
    go_wp2_with fail
    go_ret
    exact ⟨ret_bool HR.out.symm, by (repeat (first | exact Ext.refl _ | (with_reducible assumption) | (with_reducible refine Ext.drew ?_) | (with_reducible refine Ext.alloc ?_ _) | (with_reducible refine Ext.drewN ?_ _) | (with_reducible refine Ext.setCell ?_ (by omega) _) | (with_reducible refine Ext.trans ?_ (by with_reducible assumption))))⟩
end Go.Proofs.YtbmjnilcinfdiaaGreat
