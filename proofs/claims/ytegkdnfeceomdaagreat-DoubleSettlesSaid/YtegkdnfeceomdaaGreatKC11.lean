/- Bundled: what the texts QD HAF O VL OV HB HE say one after another. -/
import Derived.Test.YtegkdnfeceomdaaGreatKC10
import Derived.Shelf.RegionOpen
import Derived.Maps.OwnIn
import Derived.Test.YtegkdnfeceomdaaGreatKC5
import Derived.Test.YtegkdnfeceomdaaGreatKC9
import Derived.KernelRfl
import Derived.Test.YtegkdnfeceomdaaGreatRows
import Derived.Test.YtegkdnfeceomdaaGreatKC1
import Derived.ProofKit
import Derived.OpenShut
import Derived.ChangeOld
import Derived.Deep.Slices
import Derived.Deep.Fields
import Derived.Test.YtegkdnfeceomdaaGreatKC7
import Derived.Test.YtegkdnfeceomdaaGreatKC3
import Derived.Deep.QuietTactic
import Derived.Test.YtegkdnfeceomdaaGreatKC6
set_option linter.unusedSimpArgs false
set_option linter.unusedVariables false
/- Contracts of layer 8: Leave. -/
namespace Go.Hs
open Go.RowKit
def leaveR (c : DCas) : List Nat := if askD c true = 0 then leaveD c else []
def LvQ (c : DCas) (w : World) (e : Ending) (w' : World) : Prop := ∃ v, e = .returned (.tuple #[v, .int .i64 (askD c true)]) ∧ IntsV w' v (intsN (leaveR c)) ∧ Ext w w'
theorem nil_ints (w : World) : IntsV w (.slice none 0 0) [] := ⟨none, 0, rfl, Nat.le_refl _, by simp, fun i hi => absurd hi (Nat.not_lt_zero _)⟩
structure BxL (T : TypeId) (e b B n : Nat) (us : List Value) (w : World) : Prop where
  row : ∃ a q, w.cell? ⟨b, 0, none⟩ = some (.slice a n q) ∧ w.ownsRow B T e (.slice a n q) n us
  fr : ∀ o, w.frozen? ⟨b, o, none⟩ = false
  lt : b < B
theorem BxL.move {T : TypeId} {e b B n : Nat} {us : List Value} {w w' : World} (h : BxL T e b B n us w) (hk : ∀ k, k = b ∨ B ≤ k → k < w.heap.size → w'.heap[k]? = w.heap[k]?) : BxL T e b B n us w' := by
  obtain ⟨a, q, hc, ho⟩ := h.row; have hb := hk b (.inl rfl) (lt_of_cell hc); refine ⟨⟨a, q, ?_, own_keep ho (fun g hg => hk g (.inr (own_lt ho hg).1) (own_lt ho hg).2)⟩, fun o => (World.frozen?_of_block (w := w) hb).trans (h.fr o), h.lt⟩
  rw [World.cell?_of_block (w := w) (a := ⟨b, 0, none⟩) hb]; exact hc
theorem hgrow_cell {w w' : World} {row : Option Nat} (hg : w.grownBy w' row) {b o : Nat} {v : Value} (h : w.cell? ⟨b, o, none⟩ = some v) (hne : some b ≠ row) : w'.cell? ⟨b, o, none⟩ = some v := World.grownBy.cell hg h hne
theorem BxL.next {T : TypeId} {e b B n n' q' g' : Nat} {us us' : List Value} {wo w1 w' : World} {a : Option Addr} {q : Nat} (h : BxL T e b B n us wo) (hc : wo.cell? ⟨b, 0, none⟩ = some (.slice a n q)) (ho : wo.ownsRow B T e (.slice a n q) n us) (hx : Ext wo w1) (hg : w1.grownBy w' (Value.slice a n q).ownBlock)
    (hown : w'.ownsRow B T e (.slice (some ⟨g', 0, none⟩) n' q') n' us') : (w'.cell? ⟨b, 0, none⟩ = some (.slice a n q) ∧ ∀ o, w'.frozen? ⟨b, o, none⟩ = false) ∧ BxL T e b B n' us' (w'.setCell ⟨b, 0, none⟩ (.slice (some ⟨g', 0, none⟩) n' q')) ∧ KP (fun j => j = b ∨ B ≤ j) wo (w'.setCell ⟨b, 0, none⟩ (.slice (some ⟨g', 0, none⟩) n' q')) := by
  have hb := h.lt; have hlt := lt_of_cell hc; simp only at hlt; have hne : some b ≠ (Value.slice a n q).ownBlock := fun e => by have := (own_lt ho e.symm).1; omega
  have hc' := hgrow_cell hg (hx.keep hc) hne; have hf' : ∀ o, w'.frozen? ⟨b, o, none⟩ = false := fun o => (World.grownBy.frozen_far hg ⟨b, o, none⟩ (Nat.lt_of_lt_of_le hlt hx.size) hne).trans ((hx.frozen hlt).trans (h.fr o))
  refine ⟨⟨hc', hf'⟩, ⟨⟨_, _, World.cell?_setCell_same _ _ _ hc', own_keep hown (fun k hk => Below.heap_setCell _ _ _ _ (show k ≠ b from fun e => by have := (own_lt hown hk).1; omega))⟩, fun o => by rw [World.frozen?_setCell]; exact hf' o, hb⟩, ?_⟩
  exact KP.setCell (p := fun j => j = b ∨ B ≤ j) ((Ext.kp hx).trans (KP.grown hg (fun k hk => .inr (own_lt ho hk).1))) (.inl rfl) _
theorem cells_five {w wa : World} {b : Nat} {x y z u s : Value} {t : TypeId} (h : Ext (w.alloc (.cells #[x, y, z, u, s] t)) wa) (hb : b = w.heap.size) : ∀ j v, ([x, y, z, u, s] : List Value)[j]? = some v → wa.cell? ((⟨b, 0, none⟩ : Addr).add j) = some v := by
  subst hb; intro j v hj
  have e : ∀ j, (⟨w.heap.size, 0, none⟩ : Addr).add j = ⟨w.heap.size, j, none⟩ := fun j => by unfold Addr.add; split <;> simp_all
  rw [e]; rcases j with _ | _ | _ | _ | _ | j
  all_goals first
    | (simp at hj; subst hj; exact h.keep (by simp [go_sem]))
    | (simp at hj)
def k5 (k : Knd) : List Value := [.bool (k 0), .bool (k 1), .bool (k 2), .bool (k 3), .bool (k 4)]
theorem stepK_flat (kn : List Knd) (k : Knd) : (kn ++ [k]).flatMap k5 = kn.flatMap k5 ++ k5 k := by simp
structure LvJ (T : TypeId) (m b : Nat) (kn : List Knd) (W2 : World) (U : Nat) (w : World) : Prop where
  kp : KP (fun j => j = m ∨ j = b) W2 w
  stl : Stl m w
  box : BxL T 5 b U kn.length (kn.flatMap k5) w
theorem LvJ.mm {T : TypeId} {m b U : Nat} {kn : List Knd} {W2 w w' : World} (h : LvJ T m b kn W2 U w) (k : MM m w w') (hU : m < U) (hb : b ≠ m) : LvJ T m b kn W2 U w' :=
  ⟨h.kp.trans (KP.weak k.kp (fun j hj => .inl hj)), k.stl h.stl, h.box.move (fun j hj hlt => k.kp.block j hlt (by omega))⟩
theorem LvJ.next {T : TypeId} {m b U : Nat} {kn kn' : List Knd} {W2 w w' : World} (h : LvJ T m b kn W2 U w) (hk : KP (fun j => j = b ∨ U ≤ j) w w') (hb : BxL T 5 b U kn'.length (kn'.flatMap k5) w') (hU : W2.heap.size ≤ U) (hm : m < U) (hbm : b ≠ m) : LvJ T m b kn' W2 U w' :=
  ⟨⟨hk.os.trans h.kp.os, hk.tape.trans h.kp.tape, hk.output.trans h.kp.output, Nat.le_trans h.kp.size hk.size, fun j hj hq => (hk.block j (Nat.lt_of_lt_of_le hj h.kp.size) (by omega)).trans (h.kp.block j hj hq)⟩, h.stl.of (hk.block m h.stl.lt (by omega)), hb⟩
theorem LvJ.belr {T : TypeId} {m b U : Nat} {kn : List Knd} {W2 w w' : World} (h : LvJ T m b kn W2 U w) (hx : BelR (fun k => k = m) (Stl m) W2.heap.size U w w') (hb : b < W2.heap.size) (hbm : b ≠ m) (hU : m < U) : LvJ T m b kn W2 U w' :=
  ⟨⟨hx.os.trans h.kp.os, hx.tape.trans h.kp.tape, hx.output.trans h.kp.output, Nat.le_trans h.kp.size hx.size, fun k hk hq => (hx.block k (Nat.lt_of_lt_of_le hk h.kp.size) (.inl hk) (fun e => hq (.inl e))).trans (h.kp.block k hk hq)⟩, hx.inv h.stl, h.box.move (fun k hk hlt => hx.block k hlt (by omega) (by omega))⟩
theorem KP.keptU {q : Nat → Prop} {D U : Nat} {a b : World} (h : KP q a b) (hq : ∀ j, q j → j < D ∨ U ≤ j) : KeptU D U a b := ⟨h.size, fun k h1 h2 h3 => h.block k h3 (fun e => by have := hq k e; omega)⟩
theorem last_k5 (l : List Knd) (k : Knd) (j : Nat) (hj : j < 5) : ((l ++ [k]).flatMap k5)[l.length * 5 + j]? = some (.bool (k j)) := by
  have h := flat_at (C := k5) (k := 5) (fun _ => rfl) (l ++ [k]) l.length j (by simp) hj; rw [h]; simp only [List.getElem_append_right (Nat.le_refl _), Nat.sub_self, List.getElem_cons_zero]; rcases j with _ | _ | _ | _ | _ | j
  all_goals first | rfl | omega
theorem setK {w : World} {b k : Nat} {p : Nat → Bool} {x : Bool} (h : ∀ j, j < 5 → w.cell? ⟨b, j, none⟩ = some (.bool (decide (j < k) && p j))) (hk : k < 5) (hx : p k = x) : ∀ j, j < 5 → (w.setCell ⟨b, k, none⟩ (.bool x)).cell? ⟨b, j, none⟩ = some (.bool (decide (j < k + 1) && p j)) := by
  intro j hj
  by_cases e : j = k
  · subst e; rw [World.cell?_setCell_same _ _ _ (h j hj), show decide (j < j + 1) = true by simp, hx]; rfl
  · rw [cell_ne (.inr e) (h j hj)]; have : decide (j < k) = decide (j < k + 1) := by rw [decide_eq_decide]; omega
    rw [this]
theorem ints_def {L : Nat} {w : World} {v : Value} {xs : List Int} {r : Option (List Deferred)} (h : IntsV w v xs) (hL : w.heap[L]? = some (.deferred r)) (o : Obj) : IntsV (w.putObj L o) v xs := by
  obtain ⟨a, c, rfl, h1, h2, h3⟩ := h; refine ⟨a, c, rfl, h1, h2, fun i hi => ?_⟩
  obtain ⟨b, off, e, hc, hc2⟩ := h3 i hi; refine ⟨b, off, e, ?_, hc2⟩
  have hne : b ≠ L := by
    rintro rfl; simp [World.cell?, hL] at hc
  rw [World.cell?_of_block (w := w) (a := ⟨b, off + i * 1, none⟩) (World.putObj_heap_other hne)]; exact hc
theorem ext_put {w w' : World} {L : Nat} (h : Ext w w') (hL : w.heap.size ≤ L) (o : Obj) : Ext w (w'.putObj L o) := ⟨h.os, h.tape, h.output, by simp; exact h.size, fun k hk => (World.putObj_heap_other (show k ≠ L by omega)).trans (h.block k hk)⟩
theorem cells_own {T : TypeId} {U q : Nat} {a : Option Addr} {kn : List Knd} {w : World} (h : w.ownsRow U T 5 (.slice a kn.length q) kn.length (kn.flatMap k5)) : Cells5 w a (kn.map kndC) := by
  intro i hi
  have hi' : i < kn.length := by simpa using hi
  rcases own_open h with ⟨-, h0⟩ | ⟨g, cap, he, -, -, -, hcs⟩
  · omega
  simp only [Value.slice.injEq] at he; obtain ⟨rfl, -, rfl⟩ := he; refine ⟨g, 0, rfl, ?_⟩
  have e1 : (kn.map kndC)[i] = kndC kn[i] := by simp
  rw [e1, Nat.zero_add]; have q := fun j (hj : j < 5) => flat_at (C := k5) (k := 5) (fun _ => rfl) kn i j hi' hj
  exact ⟨hcs _ _ ((q 0 (by omega)).trans rfl), hcs _ _ ((q 1 (by omega)).trans rfl), hcs _ _ ((q 2 (by omega)).trans rfl), hcs _ _ ((q 3 (by omega)).trans rfl), hcs _ _ ((q 4 (by omega)).trans rfl)⟩
end Go.Hs
namespace Go.Proofs.YtegkdnfeceomdaaGreat
open Go.RowKit Go.Hs
attribute [local irreducible] World.setCell World.alloc
attribute [local go_sem] Oper.semAt_some
attribute [local simp] wide_fn wide_fn' wide_depth wide_round
attribute [local go_sem] wide_fn wide_fn' wide_depth wide_round
theorem info_kinds : (Tryz.prog.info? 177).map (fun i => (i.zero, i.size, i.bytes)) = some (some (.agg #[.bool false, .bool false, .bool false, .bool false, .bool false]), 5, 5) := by kernel_rfl
set_option maxRecDepth 100000 in
set_option maxHeartbeats 4000000 in
theorem Leave_d (A : CaseA) (c : DCas) (w : World) (hm : CaseM w A c) : Calls Tryz.prog 40 #[A.v c] w (LvQ c w) := by
  obtain ⟨i0, hi0, hz0, hz1, hz2⟩ := info_parts info_int; obtain ⟨i1, hi1, hz10, hz11, hz12⟩ := info_parts info_kinds; have hfo : Tryz.prog.follows Departure.mixedOrders = true := by kernel_rfl
  have HNO := Lib.hid (fun h W (hx : Ext w W) => ask_no A c W (hm.ext hx) h); have HYE := Lib.hid (fun h W (hx : Ext w W) => ask_yes A c W (hm.ext hx) h); have HL0 : Hid (∀ r, askD c true = r → r ≠ 0 → intsN (leaveR c) = []) := Lib.hid (fun r h h0 => by unfold leaveR; rw [if_neg (by rw [h]; exact h0)]; rfl); by_cases hE : askD c true = 0
  · have HYE2 := Lib.hid (HYE.out hE); have HLV : Hid (leaveR c = leaveD c) := Lib.hid (by unfold leaveR; rw [if_pos hE]); have HAE := Lib.hid hE; have hS : CasS c := askD_cas hE; have HM := Lib.hid hm; have hn5 : c.clms.length ≤ 5 := by have := hS.nm; omega
    clear HNO HYE HL0 hE hm; unfold LvQ; rw [HAE.out]; obtain ⟨a1, c1, a2, c2, a3, c3, a4, c4⟩ := A; unfold CaseA.v caseV at *; simp only at *; refine (callsIn_wide (n := 0)).1 (callsIn_of_wp_marks Tryz.func40 rfl trivial (wpIn_wide.2 ?_) rfl)
    simp only [Tryz.ntmps40, List.size_toArray, List.length_cons, List.length_nil, Nat.reduceAdd, Nat.reduceSub, Array.replicate_succ, Array.replicate_zero, List.push_toArray, List.append_toArray, List.nil_append, List.cons_append]; (go_wp2_with fail); go_step3
    (go_wp2_with fail); obtain ⟨W0, hW⟩ : ∃ W, W = (w.alloc (.cells #[.int .i64 c.bk.last, .int .i64 c.bk.owners, .slice a1 c.bk.pars.length c1, .slice a2 c.bk.ents.length c2, .int .i64 c.soc, .int .i64 c.day, .int .i64 c.parcel, .slice a3 c.covs.length c3, .int .i64 c.llo, .int .i64 c.lhi, .slice a4 c.clms.length c4] 57)) := ⟨_, rfl⟩; have X : Ext w W0 := by subst hW; (repeat (first | exact Ext.refl _ | with_reducible (first | assumption | refine Ext.drew ?_ | refine Ext.alloc ?_ _ | refine Ext.drewN ?_ _ | refine Ext.setCell ?_ (by omega) _ | refine Ext.trans ?_ (by assumption))))
    have HS : Hid (∀ w', Ext W0 w' → (w'.cell? ⟨w.heap.size, 0, none⟩ = some (.int .i64 c.bk.last) ∧ w'.cell? ⟨w.heap.size, 1, none⟩ = some (.int .i64 c.bk.owners) ∧ w'.cell? ⟨w.heap.size, 2, none⟩ = some (.slice a1 c.bk.pars.length c1) ∧ w'.cell? ⟨w.heap.size, 3, none⟩ = some (.slice a2 c.bk.ents.length c2) ∧ w'.cell? ⟨w.heap.size, 4, none⟩ = some (.int .i64 c.soc) ∧ w'.cell? ⟨w.heap.size, 5, none⟩ = some (.int .i64 c.day) ∧ w'.cell? ⟨w.heap.size, 6, none⟩ = some (.int .i64 c.parcel) ∧ w'.cell? ⟨w.heap.size, 7, none⟩ = some (.slice a3 c.covs.length c3) ∧ w'.cell? ⟨w.heap.size, 8, none⟩ = some (.int .i64 c.llo) ∧ w'.cell? ⟨w.heap.size, 9, none⟩ = some (.int .i64 c.lhi) ∧ w'.cell? ⟨w.heap.size, 10, none⟩ = some (.slice a4 c.clms.length c4)) ∧ Ext W0 w') := Lib.hid (fun w' hx => ⟨⟨hx.keep (by subst hW; simp [go_sem]), hx.keep (by subst hW; simp [go_sem]), hx.keep (by subst hW; simp [go_sem]), hx.keep (by subst hW; simp [go_sem]), hx.keep (by subst hW; simp [go_sem]), hx.keep (by subst hW; simp [go_sem]), hx.keep (by subst hW; simp [go_sem]), hx.keep (by subst hW; simp [go_sem]), hx.keep (by subst hW; simp [go_sem]), hx.keep (by subst hW; simp [go_sem]), hx.keep (by subst hW; simp [go_sem])⟩, hx⟩); have HSf : Hid (∀ w', Ext W0 w' → ∀ o, w'.frozen? ⟨w.heap.size, o, none⟩ = false) := Lib.hid (fun w' hx o => (hx.frozen (by subst hW; simp)).trans (by subst hW; simp [go_sem])); have HSz : w.heap.size + 1 ≤ W0.heap.size := by subst hW; simp
    rw [← hW]; clear hW; (with_reducible refine (HYE2.out _ X).mono ?_); rintro e w1 ⟨p, m, rfl, hwk⟩
    have HC0 : Hid (∀ W', Ext W0 W' → W'.cell? ⟨w.heap.size, 10, none⟩ = some (.slice a4 c.clms.length c4)) := Lib.hid (fun W' h => by
      obtain ⟨⟨-, -, -, -, -, -, -, -, -, -, q10⟩, -⟩ := HS.out W' h; exact q10)
    have HW1 := Lib.hid hwk; have X1 : Ext w w1 := X.trans hwk.ext; have q10 := HC0.out w1 hwk.ext; have hmX : m < w1.heap.size := hwk.stl.lt; have hpX : p < w1.heap.size := hwk.lt; have hwX : w.heap.size < w1.heap.size := lt_of_cell q10; have hmW : W0.heap.size ≤ m := hwk.hm; have hW0 : w.heap.size < W0.heap.size := lt_of_cell (HC0.out W0 (Ext.refl _)); have q10a := fun o1 o2 o3 => ((((Ext.refl w1).alloc o1).alloc o2).alloc o3).keep q10
    clear hwk HYE2 HS HSf; (go_wp2_with fail); have XA : Ext w1 (((w1.alloc (.cells #[.pointer (some ⟨p, 0, none⟩)] 136)).alloc (.cells #[.slice none 0 0] 172)).alloc (.cells #[.slice none 0 0] 22)) := by (repeat (first | exact Ext.refl _ | with_reducible (first | assumption | refine Ext.drew ?_ | refine Ext.alloc ?_ _ | refine Ext.drewN ?_ _ | refine Ext.setCell ?_ (by omega) _ | refine Ext.trans ?_ (by assumption))))
    have ca : (((w1.alloc (.cells #[.pointer (some ⟨p, 0, none⟩)] 136)).alloc (.cells #[.slice none 0 0] 172)).alloc (.cells #[.slice none 0 0] 22)).cell? ⟨w1.heap.size, 0, none⟩ = some (.pointer (some ⟨p, 0, none⟩)) := by simp [go_sem]
    have cb : (((w1.alloc (.cells #[.pointer (some ⟨p, 0, none⟩)] 136)).alloc (.cells #[.slice none 0 0] 172)).alloc (.cells #[.slice none 0 0] 22)).cell? ⟨w1.heap.size + 1, 0, none⟩ = some (.slice none 0 0) := by simp [go_sem]
    have cbf : ∀ o, (((w1.alloc (.cells #[.pointer (some ⟨p, 0, none⟩)] 136)).alloc (.cells #[.slice none 0 0] 172)).alloc (.cells #[.slice none 0 0] 22)).frozen? ⟨w1.heap.size + 1, o, none⟩ = false := fun o => by simp [go_sem]
    have cc : (((w1.alloc (.cells #[.pointer (some ⟨p, 0, none⟩)] 136)).alloc (.cells #[.slice none 0 0] 172)).alloc (.cells #[.slice none 0 0] 22)).cell? ⟨w1.heap.size + 2, 0, none⟩ = some (.slice none 0 0) := by simp [go_sem]
    have ccf : ∀ o, (((w1.alloc (.cells #[.pointer (some ⟨p, 0, none⟩)] 136)).alloc (.cells #[.slice none 0 0] 172)).alloc (.cells #[.slice none 0 0] 22)).frozen? ⟨w1.heap.size + 2, o, none⟩ = false := fun o => by simp [go_sem]
    have hz : (((w1.alloc (.cells #[.pointer (some ⟨p, 0, none⟩)] 136)).alloc (.cells #[.slice none 0 0] 172)).alloc (.cells #[.slice none 0 0] 22)).heap.size = w1.heap.size + 3 := by simp
    rw [show w1.heap.size + 1 + 1 = w1.heap.size + 2 from rfl]; generalize (((w1.alloc (.cells #[.pointer (some ⟨p, 0, none⟩)] 136)).alloc (.cells #[.slice none 0 0] 172)).alloc (.cells #[.slice none 0 0] 22)) = wA at *; have HZ := Lib.hid hz; have HXA := Lib.hid XA; have HEV0 : Hid (BxL 3 1 (w1.heap.size + 2) (w1.heap.size + 3) 0 ((everyI 0).map (.int .i64)) wA) := Lib.hid ⟨⟨none, 0, cc, World.ownsRow_nil _ _ _ _⟩, ccf, by omega⟩; have HCA := Lib.hid (And.intro ca (And.intro cb cbf)); clear hz XA ca cb cc cbf ccf q10a; go_loopw [28] (fun s28 wr => ∃ k : Nat, k ≤ c.clms.length ∧ s28 = .int .i64 k ∧ Hid (BxL 3 1 (w1.heap.size + 2) (w1.heap.size + 3) k ((everyI k).map (.int .i64)) wr) ∧ Hid (KP (fun j => j = w1.heap.size + 2 ∨ w1.heap.size + 3 ≤ j) wA wr)) (fun s _ => c.clms.length - (intOf s).toNat)
    case atStart => exact ⟨0, Nat.zero_le _, rfl, HEV0, Lib.hid (KP.refl _)⟩
    case round =>
      obtain ⟨k, hk, rfl, HB, HK⟩ := hrel; obtain ⟨wo, rfl⟩ : ∃ x, x = wr := ⟨_, rfl⟩; obtain ⟨a5, q5, c5, ho5⟩ := HB.out.row; have HO5 := Lib.hid ho5; have f5 := HB.out.fr; have h5 := lt_of_cell c5; have hzo : w1.heap.size + 3 ≤ wo.heap.size := by have := HK.out.size; have := HZ.out; omega
      clear ho5; by_cases hlt : k < c.clms.length
      · have c5a := fun o => ((Ext.refl wo).alloc o).keep c5
        have HC5 := Lib.hid c5; go_wp2_with (at_builtin; refine wpList_append_own_at _ rfl _ _ 22 rfl (w1.heap.size + 3) 3 i0 (.int .i64 0) 1 8 Tryz.underlying22 hi0 hz0 hz1 hz2 rfl (by decide) (.slice a5 k q5) k ((everyI k).map (.int .i64)) rfl ?own ⟨wo.heap.size, 0, none⟩ 1 1 [.int .i64 (k : Int)] rfl rfl (cell_one_new _ _ _) ?one ?f1 ?f2 ?f3 ?next)
        case own => exact own_keep HO5.out (fun g hg => ((Ext.refl wo).alloc _).heap (own_lt HO5.out hg).2)
        case one => first | rfl | (intro u hu; simp at hu; subst hu; rfl)
        case f1 => simp only [maxLen]; omega
        case f2 => omega
        case f3 => (first | (simp; omega) | omega)
        case next =>
          intro v' w3 hown hgrow hnil hat
          rcases own_open hown with ⟨-, h0⟩ | ⟨g, cap, rfl, -, -, -, -⟩
          · omega
          · have hN := BxL.next HB.out HC5.out HO5.out ((Ext.refl wo).alloc _) hgrow hown; obtain ⟨⟨n1, n2⟩, n3, n4⟩ := hN; have HB3 : Hid (BxL 3 1 (w1.heap.size + 2) (w1.heap.size + 3) (k + 1) ((everyI (k + 1)).map (.int .i64)) (w3.setCell ⟨w1.heap.size + 2, 0, none⟩ (.slice (some ⟨g, 0, none⟩) (k + 1) cap))) := Lib.hid (by rw [everyI_next, List.map_append]; exact n3); have HK3 := Lib.hid (HK.out.trans n4); clear n3 n4 hown hgrow hnil hat c5 c5a f5; (go_wp2_with fail); go_roundw
            case rel => exact ⟨k + 1, by omega, by go_num, HB3, HK3⟩
            case measure => simp [intOf]; omega
      · obtain rfl : k = c.clms.length := by omega
        have cp : wo.cell? ⟨w1.heap.size, 0, none⟩ = some (.pointer (some ⟨p, 0, none⟩)) := HK.out.keep (by omega) HCA.out.1
        have HEV : Hid (∀ W', KP (fun j => j = m ∨ j = w1.heap.size + 1) wo W' → W'.cell? ⟨w1.heap.size + 2, 0, none⟩ = some (.slice a5 c.clms.length q5) ∧ IntsV W' (.slice a5 c.clms.length q5) (everyI c.clms.length)) := Lib.hid (fun W' h => by
          refine ⟨h.keep (by omega) c5, own_intsV (own_keep HO5.out (fun g hg => h.block g (own_lt HO5.out hg).2 (by have := (own_lt HO5.out hg).1; omega))) rfl (by rw [everyI_len]) (fun x hx => ?_) (by rw [everyI_len]; omega)⟩
          obtain ⟨y, hy, rfl⟩ := List.mem_map.1 hx; have := List.mem_range.1 hy; unfold i64ok; omega)
        have XO : Ext w1 wo := HK.out.toExt HXA.out (fun k hk => by omega); have HWK := Lib.hid (HW1.out.grow XO); have XWO : Ext w wo := X1.trans XO; have HP0 := Lib.hid cp; have hb1 : wo.cell? ⟨w1.heap.size + 1, 0, none⟩ = some (.slice none 0 0) := HK.out.keep (by omega) HCA.out.2.1; have hb1f : ∀ o, wo.frozen? ⟨w1.heap.size + 1, o, none⟩ = false := fun o => (HK.out.frozen (by have := HZ.out; omega) (by omega)).trans (HCA.out.2.2 o)
        have HBX := Lib.hid (And.intro hb1 hb1f); clear hb1 hb1f; (go_wp2_with fail); (with_reducible refine (truthsF_d _ _ _ _ _).mono ?_); rintro e w' ⟨rfl, rfl⟩; (go_wp2_with fail); have X2 : Ext wo ((wo.alloc (.cells #[.pointer (some ⟨p, 0, none⟩)] 136)).alloc (.cells #[.slice a5 c.clms.length q5] 22)) := by (repeat (first | exact Ext.refl _ | with_reducible (first | assumption | refine Ext.drew ?_ | refine Ext.alloc ?_ _ | refine Ext.drewN ?_ _ | refine Ext.setCell ?_ (by omega) _ | refine Ext.trans ?_ (by assumption))))
        have r1 : ((wo.alloc (.cells #[.pointer (some ⟨p, 0, none⟩)] 136)).alloc (.cells #[.slice a5 c.clms.length q5] 22)).cell? ⟨wo.heap.size, 0, none⟩ = some (.pointer (some ⟨p, 0, none⟩)) := by simp [go_sem]
        have r2 : ((wo.alloc (.cells #[.pointer (some ⟨p, 0, none⟩)] 136)).alloc (.cells #[.slice a5 c.clms.length q5] 22)).cell? ⟨wo.heap.size + 1, 0, none⟩ = some (.slice a5 c.clms.length q5) := by simp [go_sem]
        have hz2 : ((wo.alloc (.cells #[.pointer (some ⟨p, 0, none⟩)] 136)).alloc (.cells #[.slice a5 c.clms.length q5] 22)).heap.size = wo.heap.size + 2 := by simp
        generalize ((wo.alloc (.cells #[.pointer (some ⟨p, 0, none⟩)] 136)).alloc (.cells #[.slice a5 c.clms.length q5] 22)) = W2 at *; have HZ2 := Lib.hid hz2; have hzz : wo.heap.size + 2 ≤ W2.heap.size ∧ W2.heap.size ≤ wo.heap.size + 2 := by omega
        have HX2 := Lib.hid X2; have HR := Lib.hid (And.intro r1 r2); have hmo : m < wo.heap.size := Nat.lt_of_lt_of_le hmX XO.size; have hst2 : Stl m W2 := HWK.out.stl.ext X2; -- what holds of every world on the way
        have HALL : Hid (∀ W', KP (fun j => j = m ∨ j = w1.heap.size + 1) W2 W' → Stl m W' → KT p m wo.heap.size (wo.heap.size + 1) ⟨a1, c1, a2, c2, a3, c3, a4, c4⟩ c (.slice a5 c.clms.length q5) (everyI c.clms.length) W' ∧ W'.cell? ⟨w.heap.size, 10, none⟩ = some (.slice a4 c.clms.length c4) ∧ W'.cell? ⟨w1.heap.size, 0, none⟩ = some (.pointer (some ⟨p, 0, none⟩)) ∧ Ext w W') := Lib.hid (fun W' h hs => by
          have hk : KP (fun j => j = m ∨ j = w1.heap.size + 1) wo W' := (Ext.kp HX2.out).trans h; have hxw : Ext w W' := hk.toExt XWO (fun k hk => by omega); obtain ⟨k0, k1, k2, k3, k4, k5, k6, k7, k8, k9, k10, k11⟩ := HWK.out.cells; have q : ∀ i v, wo.cell? ⟨p, i, none⟩ = some v → W'.cell? ⟨p, i, none⟩ = some v := fun i v hc => hk.keep (by have := HWK.out.ne; omega) hc
          exact ⟨⟨h.keep (by omega) HR.out.1, h.keep (by omega) HR.out.2, (HEV.out W' hk).2, ⟨q _ _ k0, q _ _ k1, q _ _ k2, q _ _ k3, q _ _ k4, q _ _ k5, q _ _ k6, q _ _ k7, q _ _ k8, q _ _ k9, q _ _ k10, q _ _ k11⟩, HM.out.ext hxw, hs⟩, hk.keep (by omega) (HC0.out wo (HW1.out.ext.trans XO)), hk.keep (by omega) HP0.out, hxw⟩)
        have HGV := Lib.hid (truthsD_givesU p m wo.heap.size (wo.heap.size + 1) ⟨a1, c1, a2, c2, a3, c3, a4, c4⟩ c (.slice a5 c.clms.length q5) (everyI c.clms.length) hS); have hnm2 : ¬ w1.heap.size + 1 = m := by omega
        refine each_wpU (q := fun k => k = m) (I := Stl m) (n := (truthsD c (everyI c.clms.length)).length) (Arg := ArgN (truthsD c (everyI c.clms.length))) (K := KT p m wo.heap.size (wo.heap.size + 1) ⟨a1, c1, a2, c2, a3, c3, a4, c4⟩ c (.slice a5 c.clms.length q5) (everyI c.clms.length)) (by rfl) fn_truthsD (fun U i xs W' h => by obtain ⟨v, h2, rfl, -⟩ := h; rfl) (inv_stl m) (fun k hk => by omega)
          (fun U i W' => LvJ 177 m (w1.heap.size + 1) (knownD c ((truthsD c (everyI c.clms.length)).take i)) W2 U W') (fun U cd W' => False) HGV.out (fun U i W' h => (HALL.out W' h.kp h.stl).1)
          (fun U i A' B' hU h hx => h.belr hx (by omega) (by omega) (by omega))
          (fun U cd A' B' hU h hx => h.elim)
          (fun U hU => ⟨KP.refl _, hst2, ⟨⟨none, 0, X2.keep HBX.out.1, World.ownsRow_nil _ _ _ _⟩, fun o => (X2.frozen (lt_of_cell HBX.out.1)).trans (HBX.out.2 o), by omega⟩⟩) ?hround ?hdone ?hstop
        case hround =>
          intro U i hi W3 xs hU hUW hj harg hrec1 hs
          obtain ⟨v, hi', rfl, -⟩ := harg
          have HDK : Hid (DmgOK ((truthsD c (everyI c.clms.length))[i]).2) := Lib.hid (by
            have hml := List.getElem_mem hi; obtain ⟨l, hl, he⟩ := List.mem_filterMap.1 hml; unfold tryD at he; obtain ⟨d, hd, he⟩ := Option.bind_eq_some_iff.1 he; split at he
            · have ht := truD_ok hl; have := damD_ok hS (by have := hS.loss; have := ht.loss; omega) hd; have e := Option.some.inj he; rw [← e]; exact this
            · cases he)
          have HKN : Hid (knownD c ((truthsD c (everyI c.clms.length)).take (i + 1)) = stepK (knownD c ((truthsD c (everyI c.clms.length)).take i)) (kndD c ((truthsD c (everyI c.clms.length))[i]).2)) := Lib.hid (by
            rw [← knownD_snoc, ← List.take_append_getElem hi])
          have HKL : Hid ((knownD c ((truthsD c (everyI c.clms.length)).take i)).length ≤ 2000) := Lib.hid (by
            have h1 := knownD_len c ((truthsD c (everyI c.clms.length)).take i); have h2 := truthsD_len (c := c) (askD_zero HAE.out).1 (everyI c.clms.length); have h3 := List.length_take_le i (truthsD c (everyI c.clms.length)); omega)
          generalize knownD c ((truthsD c (everyI c.clms.length)).take (i + 1)) = kn2 at *; generalize knownD c ((truthsD c (everyI c.clms.length)).take i) = kn at *; clear HGV; generalize ((truthsD c (everyI c.clms.length))[i]).2 = d at *
          have HRT : Hid (∀ (k : Nat) (h : k < c.clms.length) (W : World), W.cell? ⟨p, 11, none⟩ = some (.map (some m)) → Stl m W → Calls Tryz.prog 74 #[.pointer (some ⟨p, 0, none⟩), (c.clms[k]).c.val, d.v] W fun e w' => e = .returned (.bool (rightD c.clms[k] d)) ∧ MM m W w') := Lib.hid (fun k h W h1 h2 => right_d p m c.clms[k] d W h1 h2 HDK.out (by
            have g1 := hS.clm _ (List.getElem_mem h); have g2 := hS.soc; simp only [clmB, socB, Bool.and_eq_true, inR_iff] at g1; omega))
          have HKD : Hid (kndD c d = fun j => decide (j < c.clms.length) && rightD (c.clms.getD j default) d) := rfl
          have HPK : Hid (∀ k (h : k < c.clms.length), rightD (c.clms.getD k default) d = rightD c.clms[k] d) := Lib.hid (fun k h => by
            have e2 : c.clms.getD k default = c.clms[k] := by simp [h]
            rw [e2])
          generalize kndD c d = K at *; obtain ⟨am, s0, s1, s2⟩ := d; simp only [Dmg.v] at *; simp only [Array.zip_eq_zipWith]; (gi_wp2_with fail); refine ⟨(Kept.ext (by (repeat (first | exact Ext.refl _ | with_reducible (first | assumption | refine Ext.drew ?_ | refine Ext.alloc ?_ _ | refine Ext.drewN ?_ _ | refine Ext.setCell ?_ (by omega) _ | refine Ext.trans ?_ (by assumption)))))).toU, fun V hT hrec => ?_⟩
          have XD : Ext W3 (W3.alloc (.cells #[.int .i64 am, .int .i64 s0, .int .i64 s1, .int .i64 s2] 139)) := by (repeat (first | exact Ext.refl _ | with_reducible (first | assumption | refine Ext.drew ?_ | refine Ext.alloc ?_ _ | refine Ext.drewN ?_ _ | refine Ext.setCell ?_ (by omega) _ | refine Ext.trans ?_ (by assumption))))
          have BA : BelR (fun k => k = m) (Stl m) W2.heap.size U W3 V := (ext_toR XD (inv_stl m) (fun k hk => by omega)).trans ⟨hT.os, hT.tape, hT.output, by rw [hT.size]; exact Nat.le_refl _, fun k _ hr _ => hT.block k (by omega), fun hs => hs.of (hT.block m (by omega))⟩; have HJ2 := Lib.hid (hj.belr BA (by omega) (by omega) (by omega)); have d0 : V.cell? ⟨W3.heap.size, 0, none⟩ = some (.int .i64 am) := hT.cell (by omega) (by simp [go_sem]); have d1 : V.cell? ⟨W3.heap.size, 1, none⟩ = some (.int .i64 s0) := hT.cell (by omega) (by simp [go_sem]); have d2 : V.cell? ⟨W3.heap.size, 2, none⟩ = some (.int .i64 s1) := hT.cell (by omega) (by simp [go_sem]); have d3 : V.cell? ⟨W3.heap.size, 3, none⟩ = some (.int .i64 s2) := hT.cell (by omega) (by simp [go_sem]); have hV3 : W3.heap.size < V.heap.size := lt_of_cell d0
          have HV : Hid (∀ W', MM m V W' → (KT p m wo.heap.size (wo.heap.size + 1) ⟨a1, c1, a2, c2, a3, c3, a4, c4⟩ c (.slice a5 c.clms.length q5) (everyI c.clms.length) W' ∧ W'.cell? ⟨w.heap.size, 10, none⟩ = some (.slice a4 c.clms.length c4) ∧ W'.cell? ⟨w1.heap.size, 0, none⟩ = some (.pointer (some ⟨p, 0, none⟩)) ∧ Ext w W') ∧ (W'.cell? ⟨W3.heap.size, 0, none⟩ = some (.int .i64 am) ∧ W'.cell? ⟨W3.heap.size, 1, none⟩ = some (.int .i64 s0) ∧ W'.cell? ⟨W3.heap.size, 2, none⟩ = some (.int .i64 s1) ∧ W'.cell? ⟨W3.heap.size, 3, none⟩ = some (.int .i64 s2)) ∧ LvJ 177 m (w1.heap.size + 1) kn W2 U W') := Lib.hid (fun W' h => by
            have hJ' := HJ2.out.mm h (by omega) (by omega); exact ⟨HALL.out W' hJ'.kp hJ'.stl, ⟨h.keep' (by omega) d0, h.keep' (by omega) d1, h.keep' (by omega) d2, h.keep' (by omega) d3⟩, hJ'⟩)
          obtain ⟨⟨-, q10, -, -⟩, -, -⟩ := HV.out V (MM.refl _); have q10a := fun o => ((Ext.refl V).alloc o).keep q10
          clear hT BA XD hj d0 d1 d2 d3 cp c5 f5 r1 r2 q10; (gi_wp2_with fail); have XV : Ext V (V.alloc (.cells #[.bool false, .bool false, .bool false, .bool false, .bool false] 177)) := by (repeat (first | exact Ext.refl _ | with_reducible (first | assumption | refine Ext.drew ?_ | refine Ext.alloc ?_ _ | refine Ext.drewN ?_ _ | refine Ext.setCell ?_ (by omega) _ | refine Ext.trans ?_ (by assumption))))
          have HB0 : Hid ((∀ j, j < 5 → (V.alloc (.cells #[.bool false, .bool false, .bool false, .bool false, .bool false] 177)).cell? ⟨V.heap.size, j, none⟩ = some (.bool (decide (j < 0) && rightD (c.clms.getD j default) ⟨am, s0, s1, s2⟩))) ∧ ∀ o, (V.alloc (.cells #[.bool false, .bool false, .bool false, .bool false, .bool false] 177)).frozen? ⟨V.heap.size, o, none⟩ = false) := Lib.hid ⟨fun j hj => by
            rw [show decide (j < 0) = false by simp, Bool.false_and]; rcases j with _ | _ | _ | _ | _ | j
            all_goals first | (simp [go_sem]; done) | omega, fun o => by simp [go_sem]⟩
          generalize (V.alloc (.cells #[.bool false, .bool false, .bool false, .bool false, .bool false] 177)) = VA at *; have HMV := Lib.hid (Ext.mm (m := m) XV); clear q10a XV; gi_loopw [44] (fun s wr => ∃ k : Nat, k ≤ c.clms.length ∧ s = .int .i64 k ∧ Hid (MM m V wr) ∧ Hid ((∀ j, j < 5 → wr.cell? ⟨V.heap.size, j, none⟩ = some (.bool (decide (j < k) && rightD (c.clms.getD j default) ⟨am, s0, s1, s2⟩))) ∧ ∀ o, wr.frozen? ⟨V.heap.size, o, none⟩ = false)) (fun s _ => c.clms.length - (intOf s).toNat)
          case atStart => exact ⟨0, Nat.zero_le _, rfl, HMV, HB0⟩
          case round =>
            obtain ⟨k, hk, rfl, HMM, HB⟩ := hrel; obtain ⟨wp, rfl⟩ : ∃ x, x = wr := ⟨_, rfl⟩; obtain ⟨⟨KW, q10, qX, -⟩, ⟨d0, d1, d2, d3⟩, hJ⟩ := HV.out wp HMM.out; have HJ := Lib.hid hJ; clear hJ; have hVp : V.heap.size < wp.heap.size := lt_of_cell (HB.out.1 0 (by omega)); by_cases hlt : k < c.clms.length
            · obtain ⟨b', off, e4, hce⟩ := KW.cas.clms k (by simpa using hlt); simp only at e4; subst e4; have e1 : (c.clms.map Clm.c)[k]'(by simpa using hlt) = (c.clms[k]).c := by simp
              rw [e1] at hce; clear e1; have HR8 := Lib.hid (HRT.out k hlt); have HPX := Lib.hid (HPK.out k hlt); have w11 := KW.box.c11; have hst8 := KW.stl; have HMV8 : Hid (Stl m V) := Lib.hid HJ2.out.stl; generalize c.clms[k] = x at *; obtain ⟨so, plo, phi⟩ := x; obtain ⟨m0, m1, m2⟩ := hce; simp only [Clm.c, V3.val] at m0 m1 m2 HR8; have hk0 : (0 : Int) ≤ (k : Int) := by omega
              have hk1 : (k : Int) < (c.clms.length : Int) := by omega
              have hk5 : (k : Int) < 5 := by omega
              have qXa := fun o => ((Ext.refl wp).alloc o).keep qX
              have d0a := fun o => ((Ext.refl wp).alloc o).keep d0
              have d1a := fun o => ((Ext.refl wp).alloc o).keep d1
              have d2a := fun o => ((Ext.refl wp).alloc o).keep d2
              have d3a := fun o => ((Ext.refl wp).alloc o).keep d3
              clear KW; (gi_wp2_with fail); have X8 : Ext wp (wp.alloc (.cells #[.int .i64 so, .int .i64 plo, .int .i64 phi] 121)) := by (repeat (first | exact Ext.refl _ | with_reducible (first | assumption | refine Ext.drew ?_ | refine Ext.alloc ?_ _ | refine Ext.drewN ?_ _ | refine Ext.setCell ?_ (by omega) _ | refine Ext.trans ?_ (by assumption))))
              (with_reducible refine (CallsIn.inRound _ (callsIn_wide.2 (HR8.out _ (X8.keep w11) (hst8.ext X8)))).mono ?_); rintro e w8 ⟨rfl, hm8⟩; generalize hrb : rightD ⟨so, plo, phi⟩ ⟨am, s0, s1, s2⟩ = rb at *; have HC8 : Hid ((∀ j, j < 5 → w8.cell? ⟨V.heap.size, j, none⟩ = some (.bool (decide (j < k) && rightD (c.clms.getD j default) ⟨am, s0, s1, s2⟩))) ∧ ∀ o, w8.frozen? ⟨V.heap.size, o, none⟩ = false) := Lib.hid ⟨fun j hj => hm8.keep' (by omega) (X8.keep (HB.out.1 j hj)), fun o => (hm8.kp.frozen (by simp; omega) (by omega)).trans ((X8.frozen hVp).trans (HB.out.2 o))⟩; have s8 := HC8.out.1 k (by omega); have f8 := HC8.out.2; have HM8 := Lib.hid ((HMM.out.ext X8).trans hm8); have HB9 : Hid ((∀ j, j < 5 → (w8.setCell ⟨V.heap.size, k, none⟩ (.bool rb)).cell? ⟨V.heap.size, j, none⟩ = some (.bool (decide (j < k + 1) && rightD (c.clms.getD j default) ⟨am, s0, s1, s2⟩))) ∧ ∀ o, (w8.setCell ⟨V.heap.size, k, none⟩ (.bool rb)).frozen? ⟨V.heap.size, o, none⟩ = false) := Lib.hid ⟨setK (p := fun j => rightD (c.clms.getD j default) ⟨am, s0, s1, s2⟩) HC8.out.1 (by omega) HPX.out, fun o => by rw [World.frozen?_setCell]; exact HC8.out.2 o⟩; have HM9 : Hid (MM m V (w8.setCell ⟨V.heap.size, k, none⟩ (.bool rb))) := Lib.hid (HM8.out.setCell (Nat.le_refl _) HMV8.out _); clear hm8 qX qXa d0 d1 d2 d3 d0a d1a d2a d3a m0 m1 m2 w11 hst8 hrb q10; (gi_wp2_with fail); go_roundw
              case rel => exact ⟨k + 1, by omega, by go_num, HM9, HB9⟩
              case measure => simp [intOf]; omega
            · obtain rfl : k = c.clms.length := by omega
              have HKC : Hid (∀ j, j < 5 → wp.cell? ⟨V.heap.size, j, none⟩ = some (.bool (K j))) := Lib.hid (fun j hj => by rw [HKD.out]; exact HB.out.1 j hj); have c0 := HKC.out 0 (by omega); have c1 := HKC.out 1 (by omega); have c2 := HKC.out 2 (by omega); have c3 := HKC.out 3 (by omega); have c4 := HKC.out 4 (by omega); obtain ⟨a6, q6, b6, ho6⟩ := HJ.out.box.row; have HO6 := Lib.hid ho6; have HB6 := Lib.hid b6; have f6 := HJ.out.box.fr; have HKV : Hid (KeptU W2.heap.size U V wp) := Lib.hid (mm_kept HMM.out (by omega)).toU; have hUV : U ≤ V.heap.size := by omega
              clear ho6 KW q10 qX d0 d1 d2 d3 HB HRT HPK HKD HALL HEV HEV0 HM HR HX2 HV HJ2 HMV HB0 HBX HP0 HCA HWK HK HO5 HXA; have HBX6 := Lib.hid HJ.out.box; rcases List.eq_nil_or_concat kn with hkn | ⟨l, kl, hkn⟩
              · have HNK : Hid (kn2 = [] ++ [K]) := Lib.hid (by rw [HKN.out, hkn]; unfold stepK; rw [if_pos (.inl rfl)]); have HLN : Hid (([] : List Knd).length = 0) := Lib.hid rfl; have HF9 : Hid (∀ w', Ext wp w' → w'.cell? ⟨w1.heap.size + 1, 0, none⟩ = some (.slice a6 0 q6)) := Lib.hid (fun w' h => h.keep (by have := HB6.out; rw [hkn] at this; exact this)); rw [hkn] at HO6 HB6 HBX6 HKL; simp only [List.length_nil] at HO6 HB6 HBX6 HKL; clear hkn b6 c0 c1 c2 c3 c4; (gi_wp2_with fail); refine wpIn_round_quiet (C := Ext wp) (by kernel_rfl) (by kernel_rfl) (by kernel_rfl) (Ext.drew (by (repeat (first | exact Ext.refl _ | with_reducible (first | assumption | refine Ext.drew ?_ | refine Ext.alloc ?_ _ | refine Ext.drewN ?_ _ | refine Ext.setCell ?_ (by omega) _ | refine Ext.trans ?_ (by assumption)))))) ?_
                rw [show ∀ (l : List Oper), l.toArray.toList = l from fun l => rfl]
                repeat (first
                  | go_big_quiet_skip
                  | (go_big_quiet_want
                     first
                      | (go_big_quiet_op; go_big_quiet_on)
                      | (apply Exists.intro
                         refine ⟨fun w' hxw => ?_, ?_⟩
                         focus (obtain b6 := HF9.out w' hxw; go_simp; first | exact rfl | fail)
                         simp only [Act.put, List.setIfInBounds_toArray, List.set_cons_zero, List.set_cons_succ]; go_big_quiet_on)))
                refine wpQuiet_nil ?_
                intro w2 hx2
                have y6 := hx2.keep HB6.out; have HO7 : Hid (w2.ownsRow U 177 5 (.slice a6 0 q6) 0 (([] : List Knd).flatMap k5)) := Lib.hid (own_keep HO6.out (fun g hg => hx2.heap (own_lt HO6.out hg).2)); have HBW : Hid (BxL 177 5 (w1.heap.size + 1) U 0 (([] : List Knd).flatMap k5) w2) := Lib.hid (HBX6.out.move (fun k hk hl => hx2.heap hl)); have HY6 := Lib.hid y6; have y0 := hx2.keep (HKC.out 0 (by omega)); have y1 := hx2.keep (HKC.out 1 (by omega)); have y2 := hx2.keep (HKC.out 2 (by omega)); have y3 := hx2.keep (HKC.out 3 (by omega)); have y4 := hx2.keep (HKC.out 4 (by omega)); have y6a := fun o => ((Ext.refl w2).alloc o).keep y6
                have hUwd : U ≤ w2.heap.size := by have := hx2.size; have := HMM.out.size; omega
                have HXDR := Lib.hid hx2; clear hx2; gi_wp2_with (gi_at_builtin; (refine wpListIn_append_own_at _ rfl _ _ 172 rfl U 177 i1 (.agg #[.bool false, .bool false, .bool false, .bool false, .bool false]) 5 5 Tryz.underlying172 hi1 hz10 hz11 hz12 rfl (by decide) (.slice a6 0 q6) 0 (([] : List Knd).flatMap k5) rfl ?own ⟨w2.heap.size, 0, none⟩ 1 1 [.bool (K 0), .bool (K 1), .bool (K 2), .bool (K 3), .bool (K 4)] rfl rfl (cells_five (Ext.refl _) (by simp)) ?one ?f1 ?f2 ?f3 ?next))
                case own => exact own_keep HO7.out (fun g hg => ((Ext.refl w2).alloc _).heap (own_lt HO7.out hg).2)
                case one => first | rfl | (intro u hu; simp at hu; rcases hu with rfl | rfl | rfl | rfl | rfl <;> rfl)
                case f1 => (have := HKL.out; simp only [maxLen] at *; omega)
                case f2 => (have := HKL.out; omega)
                case f3 => (first | (simp; omega) | omega)
                case next =>
                  intro v' w9 hown hgrow hnil hat
                  rcases own_open hown with ⟨-, h0⟩ | ⟨g, cap, rfl, -, -, -, -⟩
                  · omega
                  · obtain ⟨⟨n1, n2⟩, n3, n4⟩ := BxL.next HBW.out HY6.out HO7.out ((Ext.refl w2).alloc _) hgrow hown
                    have HEND : Hid (KeptU W2.heap.size U V (w9.setCell ⟨w1.heap.size + 1, 0, none⟩ (.slice (some ⟨g, 0, none⟩) (0 + 1) cap)) ∧ LvJ 177 m (w1.heap.size + 1) kn2 W2 U (w9.setCell ⟨w1.heap.size + 1, 0, none⟩ (.slice (some ⟨g, 0, none⟩) (0 + 1) cap))) := Lib.hid (by
                      have n5 : KP (fun j => j = w1.heap.size + 1 ∨ U ≤ j) wp (w9.setCell ⟨w1.heap.size + 1, 0, none⟩ (.slice (some ⟨g, 0, none⟩) (0 + 1) cap)) := (Ext.kp HXDR.out).trans n4; refine ⟨HKV.out.trans (n5.keptU (fun j hj => by omega)), ?_⟩
                      refine HJ.out.next n5 ?_ (by omega) (by omega) (by omega)
                      rw [HNK.out, stepK_flat]; rw [show (([] : List Knd) ++ [K]).length = 0 + 1 by simp [HLN.out]]; exact n3)
                    clear n3 n4 hown hgrow hnil hat y0 y1 y2 y3 y4 y6 y6a; (gi_wp2_with fail); exact HEND.out
              · rw [List.concat_eq_append] at hkn; rw [hkn] at HO6 HB6 HBX6 HKL; simp only [List.length_append, List.length_cons, List.length_nil, Nat.zero_add] at HO6 HB6 HBX6 HKL; rcases own_open HO6.out with ⟨-, h0⟩ | ⟨g6, cap6, he, -, -, -, hcs⟩
                · omega
                simp only [Value.slice.injEq] at he; obtain ⟨rfl, -, rfl⟩ := he
                have HF9 : Hid (∀ w', Ext wp w' → (w'.cell? ⟨w1.heap.size + 1, 0, none⟩ = some (.slice (some ⟨g6, 0, none⟩) (l.length + 1) q6) ∧ w'.cell? ⟨V.heap.size, 0, none⟩ = some (.bool (K 0)) ∧ w'.cell? ⟨V.heap.size, 1, none⟩ = some (.bool (K 1)) ∧ w'.cell? ⟨V.heap.size, 2, none⟩ = some (.bool (K 2)) ∧ w'.cell? ⟨V.heap.size, 3, none⟩ = some (.bool (K 3)) ∧ w'.cell? ⟨V.heap.size, 4, none⟩ = some (.bool (K 4))) ∧ w'.cell? ⟨g6, l.length * 5, none⟩ = some (.bool (kl 0)) ∧ w'.cell? ⟨g6, l.length * 5 + 1, none⟩ = some (.bool (kl 1)) ∧ w'.cell? ⟨g6, l.length * 5 + 2, none⟩ = some (.bool (kl 2)) ∧ w'.cell? ⟨g6, l.length * 5 + 3, none⟩ = some (.bool (kl 3)) ∧ w'.cell? ⟨g6, l.length * 5 + 4, none⟩ = some (.bool (kl 4))) := Lib.hid (fun w' h =>
                  ⟨⟨h.keep HB6.out, h.keep (HKC.out 0 (by omega)), h.keep (HKC.out 1 (by omega)), h.keep (HKC.out 2 (by omega)), h.keep (HKC.out 3 (by omega)), h.keep (HKC.out 4 (by omega))⟩, h.keep (hcs _ _ (last_k5 l kl 0 (by omega))), h.keep (hcs _ _ (last_k5 l kl 1 (by omega))), h.keep (hcs _ _ (last_k5 l kl 2 (by omega))), h.keep (hcs _ _ (last_k5 l kl 3 (by omega))), h.keep (hcs _ _ (last_k5 l kl 4 (by omega)))⟩)
                have hnq := neq_knd kl K; simp only [kndC, V5.val] at hnq; have HST : Hid (stepK (l ++ [kl]) K = if sameK kl K = false then (l ++ [kl]) ++ [K] else l ++ [kl]) := Lib.hid (by unfold stepK; simp); obtain ⟨b, hb⟩ : ∃ b, b = !sameK kl K := ⟨_, rfl⟩; rw [← hb] at hnq
                have HNKT : Hid (b = true → kn2 = (l ++ [kl]) ++ [K]) := Lib.hid (fun h => by
                  rw [HKN.out, hkn, HST.out, if_pos (by rw [h] at hb; revert hb; generalize sameK kl K = z; cases z <;> decide)])
                have HNKF : Hid (b = false → kn2 = l ++ [kl]) := Lib.hid (fun h => by
                  rw [HKN.out, hkn, HST.out, if_neg (by rw [h] at hb; revert hb; generalize sameK kl K = z; cases z <;> decide)])
                rw [hkn] at HJ; generalize hN : l.length = N at *; have HLN : Hid (l.length = N) := Lib.hid hN; clear hkn hcs HST hb hN b6 c0 c1 c2 c3 c4; have e0 : ((N : Int) + 1 == 0) = false := by rw [beq_eq_false_iff_ne]; omega
                have e0' : ¬ (N : Int) + 1 = 0 := by omega
                have hw1 : IntKind.i64.wrap ((N : Int) + 1 - 1) = (N : Int) := by rw [Int.add_sub_cancel]; exact IntWalk.i64_in _ (by have := HKL.out; omega)
                have hw2 : IntKind.i64.wrap (N : Int) = (N : Int) := IntWalk.i64_in _ (by have := HKL.out; omega); have g0 : (0 : Int) ≤ (N : Int) := by omega
                have g1 : (N : Int) < (N : Int) + 1 := by omega
                cases b with
                | false =>
                  have HNK := Lib.hid (HNKF.out rfl); (gi_wp2_with fail); refine wpIn_round_quiet (C := Ext wp) (by kernel_rfl) (by kernel_rfl) (by kernel_rfl) (Ext.drew (by (repeat (first | exact Ext.refl _ | with_reducible (first | assumption | refine Ext.drew ?_ | refine Ext.alloc ?_ _ | refine Ext.drewN ?_ _ | refine Ext.setCell ?_ (by omega) _ | refine Ext.trans ?_ (by assumption)))))) ?_
                  rw [show ∀ (l : List Oper), l.toArray.toList = l from fun l => rfl]
                  repeat (first
                    | go_big_quiet_skip
                    | (go_big_quiet_want
                       first
                        | (go_big_quiet_op; go_big_quiet_on)
                        | (apply Exists.intro
                           refine ⟨fun w' hxw => ?_, ?_⟩
                           focus (obtain ⟨⟨b6, c0, c1, c2, c3, c4⟩, l0, l1, l2, l3, l4⟩ := HF9.out w' hxw; go_simp; first | exact rfl | fail)
                           simp only [Act.put, List.setIfInBounds_toArray, List.set_cons_zero, List.set_cons_succ]; go_big_quiet_on)))
                  refine wpQuiet_nil ?_
                  intro w2 hx2
                  have HEND : Hid (KeptU W2.heap.size U V w2 ∧ LvJ 177 m (w1.heap.size + 1) kn2 W2 U w2) := Lib.hid ⟨HKV.out.trans (Kept.ext hx2).toU, by rw [HNK.out]; exact HJ.out.mm (Ext.mm hx2) (by omega) (by omega)⟩; (gi_wp2_with fail); exact HEND.out
                | true =>
                  have HNK := Lib.hid (HNKT.out rfl); (gi_wp2_with fail); refine wpIn_round_quiet (C := Ext wp) (by kernel_rfl) (by kernel_rfl) (by kernel_rfl) (Ext.drew (by (repeat (first | exact Ext.refl _ | with_reducible (first | assumption | refine Ext.drew ?_ | refine Ext.alloc ?_ _ | refine Ext.drewN ?_ _ | refine Ext.setCell ?_ (by omega) _ | refine Ext.trans ?_ (by assumption)))))) ?_
                  rw [show ∀ (l : List Oper), l.toArray.toList = l from fun l => rfl]
                  repeat (first
                    | go_big_quiet_skip
                    | (go_big_quiet_want
                       first
                        | (go_big_quiet_op; go_big_quiet_on)
                        | (apply Exists.intro
                           refine ⟨fun w' hxw => ?_, ?_⟩
                           focus (obtain ⟨⟨b6, c0, c1, c2, c3, c4⟩, l0, l1, l2, l3, l4⟩ := HF9.out w' hxw; go_simp; first | exact rfl | fail)
                           simp only [Act.put, List.setIfInBounds_toArray, List.set_cons_zero, List.set_cons_succ]; go_big_quiet_on)))
                  refine wpQuiet_nil ?_
                  intro w2 hx2
                  have y6 := hx2.keep HB6.out; have HO7 : Hid (w2.ownsRow U 177 5 (.slice (some ⟨g6, 0, none⟩) (N + 1) q6) (N + 1) ((l ++ [kl]).flatMap k5)) := Lib.hid (own_keep HO6.out (fun g hg => hx2.heap (own_lt HO6.out hg).2)); have HBW : Hid (BxL 177 5 (w1.heap.size + 1) U (N + 1) ((l ++ [kl]).flatMap k5) w2) := Lib.hid (HBX6.out.move (fun k hk hl => hx2.heap hl)); have HY6 := Lib.hid y6; have y0 := hx2.keep (HKC.out 0 (by omega)); have y1 := hx2.keep (HKC.out 1 (by omega)); have y2 := hx2.keep (HKC.out 2 (by omega)); have y3 := hx2.keep (HKC.out 3 (by omega)); have y4 := hx2.keep (HKC.out 4 (by omega)); have y6a := fun o => ((Ext.refl w2).alloc o).keep y6
                  have hUwd : U ≤ w2.heap.size := by have := hx2.size; have := HMM.out.size; omega
                  have HXDR := Lib.hid hx2; clear hx2; gi_wp2_with (gi_at_builtin; (refine wpListIn_append_own_at _ rfl _ _ 172 rfl U 177 i1 (.agg #[.bool false, .bool false, .bool false, .bool false, .bool false]) 5 5 Tryz.underlying172 hi1 hz10 hz11 hz12 rfl (by decide) (.slice (some ⟨g6, 0, none⟩) (N + 1) q6) (N + 1) ((l ++ [kl]).flatMap k5) rfl ?own ⟨w2.heap.size, 0, none⟩ 1 1 [.bool (K 0), .bool (K 1), .bool (K 2), .bool (K 3), .bool (K 4)] rfl rfl (cells_five (Ext.refl _) (by simp)) ?one ?f1 ?f2 ?f3 ?next))
                  case own => exact own_keep HO7.out (fun g hg => ((Ext.refl w2).alloc _).heap (own_lt HO7.out hg).2)
                  case one => first | rfl | (intro u hu; simp at hu; rcases hu with rfl | rfl | rfl | rfl | rfl <;> rfl)
                  case f1 => (have := HKL.out; simp only [maxLen] at *; omega)
                  case f2 => (have := HKL.out; omega)
                  case f3 => (first | (simp; omega) | omega)
                  case next =>
                    intro v' w9 hown hgrow hnil hat
                    rcases own_open hown with ⟨-, h0⟩ | ⟨g, cap, rfl, -, -, -, -⟩
                    · omega
                    · obtain ⟨⟨n1, n2⟩, n3, n4⟩ := BxL.next HBW.out HY6.out HO7.out ((Ext.refl w2).alloc _) hgrow hown
                      have HEND : Hid (KeptU W2.heap.size U V (w9.setCell ⟨w1.heap.size + 1, 0, none⟩ (.slice (some ⟨g, 0, none⟩) (N + 1 + 1) cap)) ∧ LvJ 177 m (w1.heap.size + 1) kn2 W2 U (w9.setCell ⟨w1.heap.size + 1, 0, none⟩ (.slice (some ⟨g, 0, none⟩) (N + 1 + 1) cap))) := Lib.hid (by
                        have n5 : KP (fun j => j = w1.heap.size + 1 ∨ U ≤ j) wp (w9.setCell ⟨w1.heap.size + 1, 0, none⟩ (.slice (some ⟨g, 0, none⟩) (N + 1 + 1) cap)) := (Ext.kp HXDR.out).trans n4; refine ⟨HKV.out.trans (n5.keptU (fun j hj => by omega)), ?_⟩
                        refine HJ.out.next n5 ?_ (by omega) (by omega) (by omega)
                        rw [HNK.out, stepK_flat]; rw [show ((l ++ [kl]) ++ [K]).length = N + 1 + 1 by simp [HLN.out]]; simpa [k5] using n3)
                      clear n3 n4 hown hgrow hnil hat y0 y1 y2 y3 y4 y6 y6a; (gi_wp2_with fail); exact HEND.out
        case hdone =>
          intro U W3 hU hj hd
          rw [List.take_length] at hj; clear hz2; obtain ⟨KW, q10, -, XW3⟩ := HALL.out W3 hj.kp hj.stl; have hev := HEV.out W3 ((Ext.kp X2).trans hj.kp); obtain ⟨a6, q6, b6, ho6⟩ := hj.box.row
          have hSB : StB W3 (w1.heap.size + 1) (w1.heap.size + 2) w.heap.size c.clms.length (knownD c (truthsD c (everyI c.clms.length))) a6 q6 (.slice a5 c.clms.length q5) a4 c4 :=
            ⟨b6, cells_own ho6, by
              have h1 := knownD_len c (truthsD c (everyI c.clms.length)); have h2 := truthsD_len (c := c) (askD_zero HAE.out).1 (everyI c.clms.length); omega, hev.1, hev.2, q10, hn5⟩
          have HSA := Lib.hid (strike_all W3 W3.heap.size (w1.heap.size + 1) (w1.heap.size + 2) w.heap.size c.clms.length (knownD c (truthsD c (everyI c.clms.length))) a6 q6 (.slice a5 c.clms.length q5) a4 c4 hSB)
          have HCS : Hid (∀ (k : Nat) (mI : Int) (W : World), mI = k → k ≤ c.clms.length → StSt 101 W3 W3.heap.size (w1.heap.size + 1) (w1.heap.size + 2) w.heap.size W →
              Calls Tryz.prog 101 #[.slice none 0 0, .int .i64 0, .int .i64 mI, .pointer (some ⟨W3.heap.size, 0, none⟩), .pointer (some ⟨w1.heap.size + 1, 0, none⟩), .pointer (some ⟨w1.heap.size + 2, 0, none⟩), .pointer (some ⟨w.heap.size, 0, none⟩), .pointer (some ⟨W3.heap.size + 1, 0, none⟩)] W
                (StQ 101 W3 W3.heap.size (w1.heap.size + 1) (w1.heap.size + 2) w.heap.size (strikeS c.clms.length (okD c) k [] 0) W)) := Lib.hid (fun k mI W h hk hs => HSA.out k 0 mI 0 [] (.slice none 0 0) W rfl h hs (nil_ints W) (fun b hb => by cases hb) (fun x hx => by cases hx) (by simp; omega) (by omega))
          have HFULL : Hid (strikeS c.clms.length (okD c) c.clms.length [] 0 = some (List.range c.clms.length)) := Lib.hid (strike_full (okD_full (askD_zero HAE.out).2.2) c.clms.length 0 (by omega)); have HLS : Hid (∀ m x, m ≤ c.clms.length → (∀ j, j < m → strikeS c.clms.length (okD c) j [] 0 = none) → strikeS c.clms.length (okD c) m [] 0 = some x → leaveR c = x) := Lib.hid (fun m x h1 h2 h3 => by rw [HLV.out]; exact leave_some h1 h2 h3); have hwW2 : w.heap.size ≤ W2.heap.size := by have := XWO.size; omega
          have HXW3 := Lib.hid XW3; have HQ10 := Lib.hid q10; have q10a := fun o1 o2 => (((Ext.refl W3).alloc o1).alloc o2).keep q10
          have hwn : w.heap.size ≠ W3.heap.size + 1 := by have := XW3.size; omega
          have q10b := fun o1 o2 x => cell_ne (W := (W3.alloc o1).alloc o2) (v := x) (b' := W3.heap.size + 1) (i' := 0) (.inl hwn) (q10a o1 o2)
          clear HGV HALL HEV HEV0 HM HR HX2 hSB HSA KW hev ho6 b6 hj XW3 HBX HP0 HCA HWK HK HO5 HXA cp c5 f5 r1 r2 HB HW1 HC0; generalize okD c = ok at *; (go_wp2_with fail); go_step3
          (go_wp2_with fail); have XF : Ext W3 ((W3.alloc (.cells #[.slice none 0 0] 22)).alloc (.cells #[.func (.func 101) #[] #[.pointer (some ⟨W3.heap.size, 0, none⟩), .pointer (some ⟨w1.heap.size + 1, 0, none⟩), .pointer (some ⟨w1.heap.size + 2, 0, none⟩), .pointer (some ⟨w.heap.size, 0, none⟩), .pointer (some ⟨W3.heap.size + 1, 0, none⟩)]] 178)) := by (repeat (first | exact Ext.refl _ | with_reducible (first | assumption | refine Ext.drew ?_ | refine Ext.alloc ?_ _ | refine Ext.drewN ?_ _ | refine Ext.setCell ?_ (by omega) _ | refine Ext.trans ?_ (by assumption))))
          have HS4 : Hid (StSt 101 W3 W3.heap.size (w1.heap.size + 1) (w1.heap.size + 2) w.heap.size ((W3.alloc (.cells #[.slice none 0 0] 22)).alloc (.cells #[.func (.func 101) #[] #[.pointer (some ⟨W3.heap.size, 0, none⟩), .pointer (some ⟨w1.heap.size + 1, 0, none⟩), .pointer (some ⟨w1.heap.size + 2, 0, none⟩), .pointer (some ⟨w.heap.size, 0, none⟩), .pointer (some ⟨W3.heap.size + 1, 0, none⟩)]] 178))) := Lib.hid ⟨XF, ⟨.slice none 0 0, by simp [go_sem]⟩, by simp [go_sem], by simp [go_sem], Nat.le_refl _⟩; generalize ((W3.alloc (.cells #[.slice none 0 0] 22)).alloc (.cells #[.func (.func 101) #[] #[.pointer (some ⟨W3.heap.size, 0, none⟩), .pointer (some ⟨w1.heap.size + 1, 0, none⟩), .pointer (some ⟨w1.heap.size + 2, 0, none⟩), .pointer (some ⟨w.heap.size, 0, none⟩), .pointer (some ⟨W3.heap.size + 1, 0, none⟩)]] 178)) = W4 at *; clear XF q10 q10a q10b; go_loopw [78] (fun s wr => ∃ k : Nat, k ≤ c.clms.length ∧ s = .int .i64 k ∧ Hid (StSt 101 W3 W3.heap.size (w1.heap.size + 1) (w1.heap.size + 2) w.heap.size wr) ∧ Hid (∀ j, j < k → strikeS c.clms.length ok j [] 0 = none)) (fun s _ => c.clms.length + 1 - (intOf s).toNat)
          case atStart => exact ⟨0, Nat.zero_le _, rfl, HS4, Lib.hid (fun j hj => absurd hj (Nat.not_lt_zero _))⟩
          case round =>
            obtain ⟨k, hk, rfl, HS, HJ⟩ := hrel; obtain ⟨wp, rfl⟩ : ∃ x, x = wr := ⟨_, rfl⟩; have tc := HS.out.tc; have hd1 : decide ((k : Int) < (c.clms.length : Int) + 1) = true := decide_eq_true (by omega); have HCL := Lib.hid (HCS.out k (k : Int) wp rfl hk HS.out); (go_wp2_with fail); (with_reducible refine HCL.out.mono ?_); rintro e w9 ⟨b, rfl, hp⟩; cases b with
            | true =>
              obtain ⟨x, vx, hx1, hx2, hx3⟩ := hp.yes rfl; have HLX := Lib.hid (HLS.out k x hk HJ.out hx1); obtain ⟨av, cv, hvx, -⟩ := id hx3; have HD9 : Hid (w9.heap[W2.heap.size]? = some (.deferred (some []))) := Lib.hid ((hp.st.ext.heap (Array.getElem?_eq_some_iff.1 hd).1).trans hd); have HX9 : Hid (Ext w w9) := Lib.hid (HXW3.out.trans hp.st.ext); have HI9 := Lib.hid hx3; subst hvx; clear hx1 hx3 hp; (go_wp2_with fail); rw [Exit.noGoto_ret]; refine ⟨by simp, .inl ⟨_, _, rfl, run_takeDeferred HD9.out, ?_⟩⟩
              refine ⟨.tuple #[.slice av (intsN x).length cv, .int .i64 0], by simp [results, Tryz.results40, go_sem], _, rfl, ?_, ?_⟩
              · rw [HLX.out]; exact ints_def HI9.out HD9.out _
              · exact ext_put HX9.out hwW2 _
            | false =>
              have HN := Lib.hid (hp.no rfl); have HS9 := Lib.hid hp.st
              have hkn : k < c.clms.length := by
                rcases Nat.lt_or_ge k c.clms.length with h | h
                · exact h
                · obtain rfl : k = c.clms.length := by omega
                  have := HFULL.out; rw [HN.out] at this; cases this
              have HJ9 : Hid (∀ j, j < k + 1 → strikeS c.clms.length ok j [] 0 = none) := Lib.hid (fun j hj => by
                by_cases e : j = k
                · subst e; exact HN.out
                · exact HJ.out j (by omega))
              clear hp; (go_wp2_with fail); go_roundw
              case rel => exact ⟨k + 1, by omega, by go_num, HS9, HJ9⟩
              case measure => simp [intOf]; omega
        case hstop => intro U cd W3 hU h; exact h.elim
  · have HN := Lib.hid hE; have hb : (askD c true != 0) = true := by rw [bne_iff_ne]; exact hE
    have HNO2 := Lib.hid (HNO.out hE); have HR := Lib.hid (HL0.out _ rfl hE); clear HNO HYE HL0 hE hm; unfold LvQ; rw [HR.out]; generalize askD c true = r at *; obtain ⟨a1, c1, a2, c2, a3, c3, a4, c4⟩ := A; unfold CaseA.v caseV at *; simp only at *; refine (callsIn_wide (n := 0)).1 (callsIn_of_wp_marks Tryz.func40 rfl trivial (wpIn_wide.2 ?_) rfl)
    simp only [Tryz.ntmps40, List.size_toArray, List.length_cons, List.length_nil, Nat.reduceAdd, Nat.reduceSub, Array.replicate_succ, Array.replicate_zero, List.push_toArray, List.append_toArray, List.nil_append, List.cons_append]; (go_wp2_with fail); go_step3
    (go_wp2_with fail); (with_reducible refine (HNO2.out _ (by (repeat (first | exact Ext.refl _ | with_reducible (first | assumption | refine Ext.drew ?_ | refine Ext.alloc ?_ _ | refine Ext.drewN ?_ _ | refine Ext.setCell ?_ (by omega) _ | refine Ext.trans ?_ (by assumption)))))).mono ?_); rintro e w1 ⟨rfl, hx1⟩; have X1 : Ext w w1 := by (repeat (first | exact Ext.refl _ | with_reducible (first | assumption | refine Ext.drew ?_ | refine Ext.alloc ?_ _ | refine Ext.drewN ?_ _ | refine Ext.setCell ?_ (by omega) _ | refine Ext.trans ?_ (by assumption))))
    clear hx1; (go_wp2_with fail); (try rw [Exit.noGoto_ret])
    exact ⟨.tuple #[.slice none 0 0, .int .i64 r], by simp [results, Tryz.results40, go_sem], _, rfl, nil_ints _, X1.alloc _⟩
end Go.Proofs.YtegkdnfeceomdaaGreat
/- The document's example of layer 8: what is so of it. -/
namespace Go.Hs
open Go.RowKit Go.Proofs.YtegkdnfeceomdaaGreat
theorem sold_settle : settleE 50 [33, 33, 34] = 0 ∧ settleL 50 [33, 33, 34] = [16, 17, 17] := ⟨by kernel_rfl, by kernel_rfl⟩
theorem sold_play : playDE (soldC []) laterT = 0 := by kernel_rfl
theorem sold_dmg : damD (soldC []) laterT = some ⟨50, 60, 90, 0⟩ := by kernel_rfl
theorem sold_pays : payL ⟨50, 60, 90, 0⟩ 2 = [20, 30] := by kernel_rfl
theorem sold_bnds : bndE (soldC []) = 0 := by kernel_rfl
theorem sold_list : bndsD (soldC []) 2 = [((0, 50), (0, 30)), ((0, 50), (0, 20))] := by kernel_rfl
theorem sold_tot : totR (soldC []) = (40, 50) := by kernel_rfl
theorem sold_first : fstE (soldC twoL) = 0 ∧ fstN (soldC twoL) = 1 := ⟨by kernel_rfl, by kernel_rfl⟩
theorem sold_leave : askD (soldC twoL) true = 0 ∧ leaveR (soldC twoL) = [1] := ⟨by kernel_rfl, by kernel_rfl⟩
end Go.Hs
/- An argument that is a list of tariffs, opened: what the walk is told of it. -/
namespace Go.Hs
open Go.RowKit
def SliceW {α : Type} (R : World → Nat → Nat → α → Prop) (k : Nat) (w : World) (v : Value) (xs : List α) : Prop :=
  ∃ a cap, v = .slice a xs.length cap ∧ xs.length ≤ cap ∧ xs.length ≤ 9223372036854775807 ∧ Rows R k w a xs
def IntsW : World → Value → List Int → Prop := SliceW IntAt 1
def IntsAtW (w : World) (b o : Nat) (xs : List Int) : Prop := ∃ v, w.cell? ⟨b, o, none⟩ = some v ∧ IntsW w v xs
def Ints2W : World → Value → List (List Int) → Prop := SliceW IntsAtW 1
def Ints2AtW (w : World) (b o : Nat) (xs : List (List Int)) : Prop := ∃ v, w.cell? ⟨b, o, none⟩ = some v ∧ Ints2W w v xs
def Ints3W : World → Value → List (List (List Int)) → Prop := SliceW Ints2AtW 1
structure TarCW (w : World) (c3 c4 c5 : Value) (t : Tar) : Prop where
  f : i64ok t.start
  l : i64ok t.least
  weeks : IntsW w c3 t.weeks
  counts : IntsW w c4 t.counts
  rates : Ints3W w c5 t.rates
def TarAtW (w : World) (b o : Nat) (t : Tar) : Prop := ∃ c3 c4 c5,
  w.cell? ⟨b, o, none⟩ = some (.int .i64 t.start) ∧ w.cell? ⟨b, o + 1, none⟩ = some (.bool t.whole) ∧ w.cell? ⟨b, o + 2, none⟩ = some (.int .i64 t.least) ∧
  w.cell? ⟨b, o + 3, none⟩ = some c3 ∧ w.cell? ⟨b, o + 4, none⟩ = some c4 ∧ w.cell? ⟨b, o + 5, none⟩ = some c5 ∧ TarCW w c3 c4 c5 t
def TarsW : World → Value → List Tar → Prop := SliceW TarAtW 6
def thinC (x : List (List Int)) : Bool := decide (x.length ≤ 7) && allB x.length (fun i => decide ((x.getD i []).length ≤ 7))
def thinT (t : Tar) : Bool := decide (t.weeks.length ≤ 7) && decide (t.counts.length ≤ 7) && decide (t.rates.length ≤ 5) && allB t.rates.length (fun c => thinC (t.rates.getD c []))
def thinB (l : List Tar) : Bool := decide (l.length ≤ 5) && allB l.length (fun i => thinT (l.getD i default))
theorem SliceW.toV {α : Type} {R S : World → Nat → Nat → α → Prop} {k : Nat} {w : World} {v : Value} {xs : List α} (h : SliceW R k w v xs) (hl : xs.length ≤ 7)
    (hs : ∀ i (hi : i < xs.length) b o, R w b o xs[i] → S w b o xs[i]) : SliceV S k w v xs := by
  obtain ⟨a, c, he, h1, -, hr⟩ := h; refine ⟨a, c, he, h1, by omega, fun i hi => ?_⟩
  obtain ⟨b, o, hb, hx⟩ := hr i hi; exact ⟨b, o, hb, hs i hi _ _ hx⟩
theorem IntsW.toV {w : World} {v : Value} {xs : List Int} (h : IntsW w v xs) (hl : xs.length ≤ 7) : IntsV w v xs := SliceW.toV h hl (fun _ _ _ _ h => h)
theorem Ints2W.toV {w : World} {v : Value} {xs : List (List Int)} (h : Ints2W w v xs) (hl : thinC xs = true) : Ints2V w v xs := by
  simp only [thinC, Bool.and_eq_true, decide_eq_true_eq, allB_iff] at hl; refine SliceW.toV h hl.1 (fun i hi b o hx => ?_)
  obtain ⟨u, hc, hu⟩ := hx; exact ⟨u, hc, hu.toV (by have := hl.2 i hi; simpa [hi] using this)⟩
theorem TarsW.toV {w : World} {v : Value} {l : List Tar} (h : TarsW w v l) (hl : thinB l = true) : TarsV w v l := by
  simp only [thinB, thinT, Bool.and_eq_true, decide_eq_true_eq, allB_iff] at hl; refine SliceW.toV h (by omega) (fun i hi b o hx => ?_)
  obtain ⟨c3, c4, c5, h0, h1, h2, h3, h4, h5, g0, g1, g2, g3, g4⟩ := hx; have ht := hl.2 i hi; have e : l.getD i default = l[i] := by simp [hi]
  rw [e] at ht; refine ⟨c3, c4, c5, h0, h1, h2, h3, h4, h5, g0, g1, g2.toV ht.1.1.1, g3.toV ht.1.1.2, SliceW.toV g4 (by omega) (fun j hj b o hx => ?_)⟩
  obtain ⟨u, hc, hu⟩ := hx; exact ⟨u, hc, hu.toV (by have := ht.2 j hj; simpa [hj] using this)⟩
end Go.Hs
namespace Go.Proofs.YtegkdnfeceomdaaGreat
open Go.ChangeShapes Go.WideShapes Go.ChangeAt Go.RowKit Go.Deep Go.Hs
section
variable {H : Type} {enc : TypeId × Value → H} {w : World} {base : Nat} {spare : Nat → Bool} {held : Bool}
theorem add_none (b o n : Nat) : (⟨b, o, none⟩ : Addr).add n = ⟨b, o + n, none⟩ := by
  unfold Addr.add; split
  · rename_i h; subst h; rfl
  · rfl
theorem spot_none {a : Addr} {v : Value} (h : w.cell? (a.add 0) = some v) : a = ⟨a.block, a.off, none⟩ := by
  obtain ⟨b, o, s⟩ := a; cases s with
  | none => rfl
  | some s =>
    have e : (⟨b, o, some s⟩ : Addr).add 0 = ⟨b, o, some s⟩ := rfl; rw [e] at h; unfold World.cell? at h; split at h
    · simp at h
    · cases h
theorem slice_open {α : Type} [Inhabited α] {P : Program} {t e : TypeId} {k : Nat} {R : World → Nat → Nat → α → Prop} (ht : P.underlying t = some (.slice e)) (hk : P.cellsOf e = k + 1)
    (hR : ∀ b o cs n y, w.cells? base ⟨b, o, none⟩ (k + 1) = some cs → DataW.trod enc P w base spare held n e cs = some y → ∃ x, R w b o x)
    {fuel : Nat} {v : Value} {x : DataW H × List MemPlace} (h : DataW.trod enc P w base spare held fuel t [v] = some x) : ∃ xs, SliceW R (k + 1) w v xs := by
  rcases open_slice ht h with ⟨h0, -⟩ | ⟨a, len, cap, m, n, D, Pl, hcs, -, hl, hm, hmm, -, hi⟩
  · simp at h0; subst h0
    exact ⟨[], none, 0, rfl, Nat.le_refl _, by simp, fun i h => absurd h (Nat.not_lt_zero _)⟩
  · simp at hcs; subst hcs
    have hex : ∀ i : Nat, ∃ x : α, i < len → ∃ b off, some a = some ⟨b, off, none⟩ ∧ R w b (off + i * (k + 1)) x := by
      intro i
      by_cases hil : i < len
      · obtain ⟨cs', hc, hd⟩ := hi i (by rw [hmm]; split <;> omega); rw [hk] at hc; obtain ⟨cs0, hc0, -⟩ := hi 0 (by rw [hmm]; split <;> omega); rw [hk, Nat.zero_mul] at hc0; obtain ⟨-, hcl, hat⟩ := World.cells?_some hc0; have hz := hat 0 (by omega); rw [List.getElem?_eq_getElem (by omega)] at hz; have e0 : a.add 0 = a := by unfold Addr.add; simp
        rw [e0] at hz; have ha := spot_none hz; rw [ha, add_none] at hc; obtain ⟨x, hx⟩ := hR _ _ _ _ _ hc hd; exact ⟨x, fun _ => ⟨a.block, a.off, by rw [← ha], hx⟩⟩
      · exact ⟨default, fun h => absurd h hil⟩
    refine ⟨(List.range len).map (fun i => Classical.choose (hex i)), some a, cap, by simp, by simpa using hl, ?_, fun i hi => ?_⟩
    · simp only [maxLen] at hm; simp; omega
    · simp at hi
      have := Classical.choose_spec (hex i) hi; simpa using this
theorem cell_one {b o : Nat} {cs : List Value} (h : w.cells? base ⟨b, o, none⟩ (0 + 1) = some cs) : ∃ v, cs = [v] ∧ w.cell? ⟨b, o, none⟩ = some v := by
  obtain ⟨-, hl, hat⟩ := World.cells?_some h; match cs, hl with
  | [v], _ => exact ⟨v, rfl, by have := hat 0 (by omega); rw [add_none] at this; simpa using this⟩
theorem bd_of_wf {n : Int} (h : (Lit.int .i64 n).wf = true) : i64ok n := by
  have := bounds_i64 h; unfold i64ok; omega
theorem ints_open {fuel : Nat} {v : Value} {x : DataW H × List MemPlace} (h : DataW.trod enc Tryz.prog w base spare held fuel 22 [v] = some x) : ∃ xs, IntsW w v xs :=
  slice_open (k := 0) Tryz.underlying22 (by kernel_rfl) (fun b o cs n y hc hd => by
    obtain ⟨v, rfl, hv⟩ := cell_one hc; obtain ⟨z, he, -, hw⟩ := DataW.trod_int Tryz.underlying3 hd; simp at he; subst he
    exact ⟨z, hv, bd_of_wf hw⟩) h
end
end Go.Proofs.YtegkdnfeceomdaaGreat
/- Contracts: the reference's order of lists of numbers, and whether two are the same. -/
namespace Go.Hs
open Go.RowKit
theorem IntsV.cellsI {w : World} {v : Value} {a : List Int} (h : IntsV w v a) : ∃ p c, v = .slice p a.length c ∧ a.length ≤ c ∧ ∀ i, i < a.length → ∃ b off, p = some ⟨b, off, none⟩ ∧ w.cell? ⟨b, off + i, none⟩ = some (.int .i64 (a.getD i 0)) := by
  obtain ⟨p, c, rfl, h1, -, hr⟩ := h; refine ⟨p, c, rfl, h1, fun i hi => ?_⟩
  obtain ⟨b, off, e, hc⟩ := hr i hi; refine ⟨b, off, e, ?_⟩
  have := hc.1; have e2 : a[i] = a.getD i 0 := by simp [hi]
  rw [e2, Nat.mul_one] at this; exact this
end Go.Hs
namespace Go.Proofs.YtegkdnfeceomdaaGreat
open Go.RowKit Go.Hs
attribute [local irreducible] World.setCell World.alloc
end Go.Proofs.YtegkdnfeceomdaaGreat
/- A struct stored into its box, cell by cell. -/
namespace Go.Hs
open Go.RowKit
def setL (w : World) (R : Nat) : List Value → Nat → World
  | [], _ => w
  | v :: r, i => setL (w.setCell ⟨R, i, none⟩ v) R r (i + 1)
theorem setL_ne {b o R : Nat} {x : Value} (h : b ≠ R) : ∀ (vs : List Value) (k : Nat) (w : World), w.cell? ⟨b, o, none⟩ = some x → (setL w R vs k).cell? ⟨b, o, none⟩ = some x
  | [], _, _, e => e
  | _ :: r, k, _, e => setL_ne h r (k + 1) _ (cell_ne (.inl h) e)
theorem setL_fr {b o R : Nat} : ∀ (vs : List Value) (k : Nat) (w : World), (setL w R vs k).frozen? ⟨b, o, none⟩ = w.frozen? ⟨b, o, none⟩
  | [], _, _ => rfl
  | _ :: r, k, _ => (setL_fr r (k + 1) _).trans (World.frozen?_setCell ..)
theorem setL_ext {w0 : World} {R : Nat} (hR : w0.heap.size ≤ R) : ∀ (vs : List Value) (k : Nat) (w : World), Ext w0 w → Ext w0 (setL w R vs k)
  | [], _, _, h => h
  | v :: r, k, _, h => setL_ext hR r (k + 1) _ (h.setCell hR v)
theorem setL_low {R o : Nat} {x : Value} : ∀ (vs : List Value) (k : Nat) (w : World), o < k → w.cell? ⟨R, o, none⟩ = some x → (setL w R vs k).cell? ⟨R, o, none⟩ = some x
  | [], _, _, _, e => e
  | _ :: r, k, _, h, e => setL_low r (k + 1) _ (by omega) (cell_ne (.inr (by omega)) e)
theorem set_is {w : World} {a b : Addr} {x y : Value} (h : w.cell? a = some x) : ∃ z, (w.setCell b y).cell? a = some z := by
  by_cases e : a = b
  · subst e; exact ⟨y, World.cell?_setCell_same _ _ _ h⟩
  · exact ⟨x, by rw [World.cell?_setCell_other (h := fun q => e (by rw [q]))]; exact h⟩
theorem setL_is {R o b : Nat} : ∀ (vs : List Value) (k : Nat) (w : World) (x : Value), w.cell? ⟨b, o, none⟩ = some x → ∃ z, (setL w R vs k).cell? ⟨b, o, none⟩ = some z
  | [], _, _, x, e => ⟨x, e⟩
  | _ :: r, k, _, _, e => let ⟨z, hz⟩ := set_is (b := ⟨R, k, none⟩) e; setL_is r (k + 1) _ z hz
theorem setL_cur {R o b : Nat} {vs : List Value} {k : Nat} {w : World} {x : Value} (e : w.cell? ⟨b, o, none⟩ = some x) : (setL w R vs k).cell? ⟨b, o, none⟩ = some (curV (setL w R vs k) ⟨b, o, none⟩) :=
  let ⟨_, hz⟩ := setL_is vs k w x e; cur_self hz
theorem setL_at {R : Nat} : ∀ (vs : List Value) (k : Nat) (w : World), (∀ i, i < vs.length → ∃ y, w.cell? ⟨R, k + i, none⟩ = some y) → ∀ i v, vs[i]? = some v → (setL w R vs k).cell? ⟨R, k + i, none⟩ = some v
  | [], _, _, _, i, v, e => by simp at e
  | u :: r, k, w, h, i, v, e => by
    cases i with
    | zero =>
      simp only [List.getElem?_cons_zero, Option.some.injEq] at e; subst e; obtain ⟨y, hy⟩ := h 0 (by simp); exact setL_low r (k + 1) _ (by omega) (World.cell?_setCell_same _ _ _ hy)
    | succ i =>
      have e1 : k + (i + 1) = k + 1 + i := by omega
      rw [e1]; refine setL_at r (k + 1) _ (fun j hj => ?_) i v (by simpa using e)
      obtain ⟨y, hy⟩ := h (j + 1) (by simp; omega); rw [show k + (j + 1) = k + 1 + j by omega] at hy; exact set_is hy
end Go.Hs
/- Contracts of layer 8's law: its small functions, and the document's example in memory. -/
namespace Go.Hs
open Go.RowKit
theorem Cells4.of {w : World} {b : Nat} {us : List V4} (h : ∀ i (h : i < us.length), Cell4 w b (0 + i * 4) us[i]) : Cells4 w (some ⟨b, 0, none⟩) us := fun i hi => ⟨b, 0, rfl, h i hi⟩
theorem Cells8.of {w : World} {b : Nat} {us : List V8} (h : ∀ i (h : i < us.length), Cell8 w b (0 + i * 8) us[i]) : Cells8 w (some ⟨b, 0, none⟩) us := fun i hi => ⟨b, 0, rfl, h i hi⟩
theorem Cells7.of {w : World} {b : Nat} {us : List V7} (h : ∀ i (h : i < us.length), Cell7 w b (0 + i * 7) us[i]) : Cells7 w (some ⟨b, 0, none⟩) us := fun i hi => ⟨b, 0, rfl, h i hi⟩
theorem Cells3.of {w : World} {b : Nat} {us : List V3} (h : ∀ i (h : i < us.length), Cell3 w b (0 + i * 3) us[i]) : Cells3 w (some ⟨b, 0, none⟩) us := fun i hi => ⟨b, 0, rfl, h i hi⟩
theorem mk_ints8 {w : World} {B n : Nat} (xs : List Int) (hn : n = xs.length) (hl : xs.length ≤ 1000) (h : ∀ i, i < xs.length → w.cell? ⟨B, i, none⟩ = some (.int .i64 (xs.getD i 0))) (ok : ∀ x ∈ xs, i64ok x) : IntsV w (.slice (some ⟨B, 0, none⟩) n n) xs := by
  subst hn; refine ⟨_, _, rfl, Nat.le_refl _, by omega, fun i hi => ⟨B, 0, rfl, ?_, ok _ (List.getElem_mem hi)⟩⟩
  have e : xs.getD i 0 = xs[i] := by simp [hi]
  have := h i hi; rw [e] at this; simpa using this
theorem cells_l {w : World} {b : Nat} {l : List Value} {o : Obj} {t : TypeId} {W : World} (hx : Ext (w.alloc o) W) (ho : o = .cells l.toArray t) (hb : b = w.heap.size) : ∀ j v, l[j]? = some v → W.cell? ⟨b, j, none⟩ = some v := by
  subst ho hb; intro j v e
  exact hx.keep (by simp [go_sem, e])
end Go.Hs
namespace Go.Proofs.YtegkdnfeceomdaaGreat
open Go.RowKit Go.Hs
attribute [local irreducible] World.setCell World.alloc
set_option maxRecDepth 100000 in
theorem between8 (a b : Int) (w : World) : Calls Tryz.prog 60 #[.int .i64 a, .int .i64 b] w fun e w' => e = .returned (.agg #[.int .i64 a, .int .i64 b]) ∧ Ext w w' := by
  have n0 : (⟨w.heap.size + 2, 0, none⟩ : Addr) ≠ ⟨w.heap.size + 2, 1, none⟩ := by intro h; cases h
  go_enter Tryz.func60, Tryz.ntmps60
  (go_wp2_with fail); exact bodyPost_ret (v := .agg #[.int .i64 a, .int .i64 b]) (by simp [results, Tryz.results60, go_sem]) rfl ⟨rfl, by (repeat (first | exact Ext.refl _ | with_reducible (first | assumption | refine Ext.drew ?_ | refine Ext.alloc ?_ _ | refine Ext.drewN ?_ _ | refine Ext.setCell ?_ (by omega) _ | refine Ext.trans ?_ (by assumption))))⟩
set_option maxRecDepth 100000 in
set_option maxHeartbeats 1000000 in
theorem later8 (w : World) : Calls Tryz.prog 58 #[] w fun e w' => ∃ v, e = .returned v ∧ TruV w' v laterT ∧ Ext w w' := by
  go_enter Tryz.func58, Tryz.ntmps58
  (go_wp2_with fail); refine bodyPost_ret (v := .agg #[.slice (some ⟨w.heap.size + 1, 0, none⟩) 1 1, .slice (some ⟨w.heap.size + 2, 0, none⟩) 1 1, .slice (some ⟨w.heap.size + 3, 0, none⟩) 3 3, .int .i64 50]) (by simp [results, Tryz.results58, go_sem]) rfl ⟨_, rfl, ?_, by (repeat (first | exact Ext.refl _ | with_reducible (first | assumption | refine Ext.drew ?_ | refine Ext.alloc ?_ _ | refine Ext.drewN ?_ _ | refine Ext.setCell ?_ (by omega) _ | refine Ext.trans ?_ (by assumption))))⟩
  refine ⟨_, _, _, rfl, ?_, ?_, ?_⟩
  · exact mk_ints8 [5] rfl (by simp) (fun i hi => by
      obtain rfl : i = 0 := by simpa using hi
      simp [go_sem]) (by simp [i64ok])
  · exact mk_ints8 [0] rfl (by simp) (fun i hi => by
      obtain rfl : i = 0 := by simpa using hi
      simp [go_sem]) (by simp [i64ok])
  · exact mk_ints8 [1, 4, 0] rfl (by simp) (fun i hi => by
      rcases i with _ | _ | _ | i
      · simp [go_sem]
      · simp [go_sem]
      · simp [go_sem]
      · simp at hi; omega) (by simp [i64ok])
set_option maxRecDepth 100000 in
set_option maxHeartbeats 1000000 in
theorem two8 (w : World) : Calls Tryz.prog 59 #[] w fun e w' => ∃ v, e = .returned v ∧ ClmsV w' v twoL ∧ Ext w w' := by
  have HB := Lib.hid between8; go_enter Tryz.func59, Tryz.ntmps59
  (go_wp2_with fail); (with_reducible refine (HB.out _ _ _).mono ?_); rintro e w1 ⟨rfl, hx1⟩; (go_wp2_with fail); (with_reducible refine (HB.out _ _ _).mono ?_); rintro e w2 ⟨rfl, hx2⟩; (go_wp2_with fail); go_ret; refine ⟨_, rfl, ⟨_, _, rfl, by simp [twoL], by simp [twoL], Cells3.of (fun i hi => ?_)⟩, by (repeat (first | exact Ext.refl _ | with_reducible (first | assumption | refine Ext.drew ?_ | refine Ext.alloc ?_ _ | refine Ext.drewN ?_ _ | refine Ext.setCell ?_ (by omega) _ | refine Ext.trans ?_ (by assumption))))⟩
  simp [twoL] at hi
  rcases i with _ | _ | i
  · exact ⟨by simp [go_sem, twoL, Clm.c], by simp [go_sem, twoL, Clm.c], by simp [go_sem, twoL, Clm.c]⟩
  · exact ⟨by simp [go_sem, twoL, Clm.c], by simp [go_sem, twoL, Clm.c], by simp [go_sem, twoL, Clm.c]⟩
  · omega
set_option maxRecDepth 100000 in
set_option maxHeartbeats 4000000 in
theorem sold8 (clms : List Clm) (v : Value) (w : World) (hv : ClmsV w v clms) : Calls Tryz.prog 57 #[v] w fun e w' => ∃ A, e = .returned (A.v (soldC clms)) ∧ CaseM w' A (soldC clms) ∧ Ext w w' := by
  have HB := Lib.hid between8; obtain ⟨a4, c4, rfl, l1, l2, hc⟩ := hv; have HC := Lib.hid hc; have HS : Hid (soldC clms = ⟨⟨9, 2, [⟨0, 100, 0, 0⟩], [⟨0, 0, 0, 0, 1, 0, 4, 5⟩]⟩, 2, 4, 0, [⟨0, 0, 0, 60, 9, 1, 1⟩, ⟨1, 0, 0, 90, 9, 3, 5⟩, ⟨1, 1, 0, 50, 9, 0, 0⟩], 40, 50, clms⟩) := rfl; rw [HS.out]; clear hc HS; obtain ⟨n4, hn4⟩ : ∃ n, n = clms.length := ⟨_, rfl⟩; rw [← hn4] at l1 l2 ⊢; have HN := Lib.hid hn4; clear hn4; go_enter Tryz.func57, Tryz.ntmps57
  (go_wp2_with fail); obtain ⟨W, hW⟩ : ∃ W, W = ((((w.alloc (.cells #[.int .i64 0, .int .i64 0, .slice none 0 0, .slice none 0 0, .int .i64 0, .int .i64 0, .int .i64 0, .slice none 0 0, .int .i64 0, .int .i64 0, .slice none 0 0] 57)).alloc (.cells #[.int .i64 0, .int .i64 100, .int .i64 0, .int .i64 0] 193)).alloc (.cells #[.int .i64 0, .int .i64 0, .int .i64 0, .int .i64 0, .int .i64 1, .int .i64 0, .int .i64 4, .int .i64 5] 125)).alloc (.cells #[.int .i64 9, .int .i64 2, .slice (some ⟨w.heap.size + 1, 0, none⟩) 1 1, .slice (some ⟨w.heap.size + 1 + 1, 0, none⟩) 1 1] 52)) := ⟨_, rfl⟩; have X : Ext w W := by subst hW; (repeat (first | exact Ext.refl _ | with_reducible (first | assumption | refine Ext.drew ?_ | refine Ext.alloc ?_ _ | refine Ext.drewN ?_ _ | refine Ext.setCell ?_ (by omega) _ | refine Ext.trans ?_ (by assumption))))
  have HS : Hid (∀ w', Ext W w' → (w'.cell? ⟨w.heap.size + 1, 0, none⟩ = some (.int .i64 0) ∧ w'.cell? ⟨w.heap.size + 1, 1, none⟩ = some (.int .i64 100) ∧ w'.cell? ⟨w.heap.size + 1, 2, none⟩ = some (.int .i64 0) ∧ w'.cell? ⟨w.heap.size + 1, 3, none⟩ = some (.int .i64 0) ∧ w'.cell? ⟨w.heap.size + 1 + 1, 0, none⟩ = some (.int .i64 0) ∧ w'.cell? ⟨w.heap.size + 1 + 1, 1, none⟩ = some (.int .i64 0) ∧ w'.cell? ⟨w.heap.size + 1 + 1, 2, none⟩ = some (.int .i64 0) ∧ w'.cell? ⟨w.heap.size + 1 + 1, 3, none⟩ = some (.int .i64 0) ∧ w'.cell? ⟨w.heap.size + 1 + 1, 4, none⟩ = some (.int .i64 1) ∧ w'.cell? ⟨w.heap.size + 1 + 1, 5, none⟩ = some (.int .i64 0) ∧ w'.cell? ⟨w.heap.size + 1 + 1, 6, none⟩ = some (.int .i64 4) ∧ w'.cell? ⟨w.heap.size + 1 + 1, 7, none⟩ = some (.int .i64 5) ∧ w'.cell? ⟨w.heap.size + 1 + 1 + 1, 0, none⟩ = some (.int .i64 9) ∧ w'.cell? ⟨w.heap.size + 1 + 1 + 1, 1, none⟩ = some (.int .i64 2) ∧ w'.cell? ⟨w.heap.size + 1 + 1 + 1, 2, none⟩ = some (.slice (some ⟨w.heap.size + 1, 0, none⟩) 1 1) ∧ w'.cell? ⟨w.heap.size + 1 + 1 + 1, 3, none⟩ = some (.slice (some ⟨w.heap.size + 1 + 1, 0, none⟩) 1 1)) ∧ Ext W w') := Lib.hid (fun w' hx => ⟨⟨hx.keep (by subst hW; simp [go_sem]), hx.keep (by subst hW; simp [go_sem]), hx.keep (by subst hW; simp [go_sem]), hx.keep (by subst hW; simp [go_sem]), hx.keep (by subst hW; simp [go_sem]), hx.keep (by subst hW; simp [go_sem]), hx.keep (by subst hW; simp [go_sem]), hx.keep (by subst hW; simp [go_sem]), hx.keep (by subst hW; simp [go_sem]), hx.keep (by subst hW; simp [go_sem]), hx.keep (by subst hW; simp [go_sem]), hx.keep (by subst hW; simp [go_sem]), hx.keep (by subst hW; simp [go_sem]), hx.keep (by subst hW; simp [go_sem]), hx.keep (by subst hW; simp [go_sem]), hx.keep (by subst hW; simp [go_sem])⟩, hx⟩); have HSf : Hid (∀ w', Ext W w' → ∀ o, w'.frozen? ⟨w.heap.size + 1 + 1 + 1, o, none⟩ = false) := Lib.hid (fun w' hx o => (hx.frozen (by subst hW; simp)).trans (by subst hW; simp [go_sem])); have HSz : w.heap.size + 1 + 1 + 1 + 1 ≤ W.heap.size := by subst hW; simp
  have HB0 : Hid (∀ w', Ext W w' → ((∃ v, w'.cell? ⟨w.heap.size, 0, none⟩ = some v) ∧ (∃ v, w'.cell? ⟨w.heap.size, 1, none⟩ = some v) ∧ (∃ v, w'.cell? ⟨w.heap.size, 2, none⟩ = some v) ∧ (∃ v, w'.cell? ⟨w.heap.size, 3, none⟩ = some v) ∧ (∃ v, w'.cell? ⟨w.heap.size, 4, none⟩ = some v) ∧ (∃ v, w'.cell? ⟨w.heap.size, 5, none⟩ = some v) ∧ (∃ v, w'.cell? ⟨w.heap.size, 6, none⟩ = some v) ∧ (∃ v, w'.cell? ⟨w.heap.size, 7, none⟩ = some v) ∧ (∃ v, w'.cell? ⟨w.heap.size, 8, none⟩ = some v) ∧ (∃ v, w'.cell? ⟨w.heap.size, 9, none⟩ = some v) ∧ (∃ v, w'.cell? ⟨w.heap.size, 10, none⟩ = some v)) ∧ ∀ o, w'.frozen? ⟨w.heap.size, o, none⟩ = false) := Lib.hid (fun w' hx => ⟨⟨⟨_, hx.keep (v := .int .i64 0) (by subst hW; simp [go_sem])⟩, ⟨_, hx.keep (v := .int .i64 0) (by subst hW; simp [go_sem])⟩, ⟨_, hx.keep (v := .slice none 0 0) (by subst hW; simp [go_sem])⟩, ⟨_, hx.keep (v := .slice none 0 0) (by subst hW; simp [go_sem])⟩, ⟨_, hx.keep (v := .int .i64 0) (by subst hW; simp [go_sem])⟩, ⟨_, hx.keep (v := .int .i64 0) (by subst hW; simp [go_sem])⟩, ⟨_, hx.keep (v := .int .i64 0) (by subst hW; simp [go_sem])⟩, ⟨_, hx.keep (v := .slice none 0 0) (by subst hW; simp [go_sem])⟩, ⟨_, hx.keep (v := .int .i64 0) (by subst hW; simp [go_sem])⟩, ⟨_, hx.keep (v := .int .i64 0) (by subst hW; simp [go_sem])⟩, ⟨_, hx.keep (v := .slice none 0 0) (by subst hW; simp [go_sem])⟩⟩, fun o => (hx.frozen (by subst hW; simp; try omega)).trans (by subst hW; simp [go_sem])⟩); rw [← hW]; clear hW
  have HSS : Hid (∀ w', Ext W w' → (w'.cell? ⟨w.heap.size + 1, 0, none⟩ = some (.int .i64 0) ∧ w'.cell? ⟨w.heap.size + 1, 1, none⟩ = some (.int .i64 100) ∧ w'.cell? ⟨w.heap.size + 1, 2, none⟩ = some (.int .i64 0) ∧ w'.cell? ⟨w.heap.size + 1, 3, none⟩ = some (.int .i64 0) ∧ w'.cell? ⟨w.heap.size + 1 + 1, 0, none⟩ = some (.int .i64 0) ∧ w'.cell? ⟨w.heap.size + 1 + 1, 1, none⟩ = some (.int .i64 0) ∧ w'.cell? ⟨w.heap.size + 1 + 1, 2, none⟩ = some (.int .i64 0) ∧ w'.cell? ⟨w.heap.size + 1 + 1, 3, none⟩ = some (.int .i64 0) ∧ w'.cell? ⟨w.heap.size + 1 + 1, 4, none⟩ = some (.int .i64 1) ∧ w'.cell? ⟨w.heap.size + 1 + 1, 5, none⟩ = some (.int .i64 0) ∧ w'.cell? ⟨w.heap.size + 1 + 1, 6, none⟩ = some (.int .i64 4) ∧ w'.cell? ⟨w.heap.size + 1 + 1, 7, none⟩ = some (.int .i64 5) ∧ w'.cell? ⟨w.heap.size + 1 + 1 + 1, 0, none⟩ = some (.int .i64 9) ∧ w'.cell? ⟨w.heap.size + 1 + 1 + 1, 1, none⟩ = some (.int .i64 2) ∧ w'.cell? ⟨w.heap.size + 1 + 1 + 1, 2, none⟩ = some (.slice (some ⟨w.heap.size + 1, 0, none⟩) 1 1) ∧ w'.cell? ⟨w.heap.size + 1 + 1 + 1, 3, none⟩ = some (.slice (some ⟨w.heap.size + 1 + 1, 0, none⟩) 1 1)) ∧ (w'.cell? ⟨w.heap.size, 0, none⟩ = some (curV w' ⟨w.heap.size, 0, none⟩) ∧ w'.cell? ⟨w.heap.size, 1, none⟩ = some (curV w' ⟨w.heap.size, 1, none⟩) ∧ w'.cell? ⟨w.heap.size, 2, none⟩ = some (curV w' ⟨w.heap.size, 2, none⟩) ∧ w'.cell? ⟨w.heap.size, 3, none⟩ = some (curV w' ⟨w.heap.size, 3, none⟩) ∧ w'.cell? ⟨w.heap.size, 4, none⟩ = some (curV w' ⟨w.heap.size, 4, none⟩) ∧ w'.cell? ⟨w.heap.size, 5, none⟩ = some (curV w' ⟨w.heap.size, 5, none⟩) ∧ w'.cell? ⟨w.heap.size, 6, none⟩ = some (curV w' ⟨w.heap.size, 6, none⟩) ∧ w'.cell? ⟨w.heap.size, 7, none⟩ = some (curV w' ⟨w.heap.size, 7, none⟩) ∧ w'.cell? ⟨w.heap.size, 8, none⟩ = some (curV w' ⟨w.heap.size, 8, none⟩) ∧ w'.cell? ⟨w.heap.size, 9, none⟩ = some (curV w' ⟨w.heap.size, 9, none⟩) ∧ w'.cell? ⟨w.heap.size, 10, none⟩ = some (curV w' ⟨w.heap.size, 10, none⟩) ∧ ∀ o, w'.frozen? ⟨w.heap.size, o, none⟩ = false) ∧ Ext w w') := Lib.hid (fun w' h => by
    obtain ⟨⟨q0, q1, q2, q3, q4, q5, q6, q7, q8, q9, q10, q11, q12, q13, q14, q15⟩, -⟩ := HS.out w' h; obtain ⟨⟨⟨x0, r0⟩, ⟨x1, r1⟩, ⟨x2, r2⟩, ⟨x3, r3⟩, ⟨x4, r4⟩, ⟨x5, r5⟩, ⟨x6, r6⟩, ⟨x7, r7⟩, ⟨x8, r8⟩, ⟨x9, r9⟩, ⟨x10, r10⟩⟩, hf⟩ := HB0.out w' h; exact ⟨⟨q0, q1, q2, q3, q4, q5, q6, q7, q8, q9, q10, q11, q12, q13, q14, q15⟩, ⟨cur_self r0, cur_self r1, cur_self r2, cur_self r3, cur_self r4, cur_self r5, cur_self r6, cur_self r7, cur_self r8, cur_self r9, cur_self r10, hf⟩, Ext.trans X h⟩)
  have HST : Hid (∀ w' a0 a1 a2 a3 a4 a5 a6 a7 a8 a9 a10, Ext W w' → ((((((((((((w'.setCell ⟨w.heap.size, 0, none⟩ a0).setCell ⟨w.heap.size, 1, none⟩ a1).setCell ⟨w.heap.size, 2, none⟩ a2).setCell ⟨w.heap.size, 3, none⟩ a3).setCell ⟨w.heap.size, 4, none⟩ a4).setCell ⟨w.heap.size, 5, none⟩ a5).setCell ⟨w.heap.size, 6, none⟩ a6).setCell ⟨w.heap.size, 7, none⟩ a7).setCell ⟨w.heap.size, 8, none⟩ a8).setCell ⟨w.heap.size, 9, none⟩ a9).setCell ⟨w.heap.size, 10, none⟩ a10).cell? ⟨w.heap.size + 1, 0, none⟩ = some (.int .i64 0) ∧ (((((((((((w'.setCell ⟨w.heap.size, 0, none⟩ a0).setCell ⟨w.heap.size, 1, none⟩ a1).setCell ⟨w.heap.size, 2, none⟩ a2).setCell ⟨w.heap.size, 3, none⟩ a3).setCell ⟨w.heap.size, 4, none⟩ a4).setCell ⟨w.heap.size, 5, none⟩ a5).setCell ⟨w.heap.size, 6, none⟩ a6).setCell ⟨w.heap.size, 7, none⟩ a7).setCell ⟨w.heap.size, 8, none⟩ a8).setCell ⟨w.heap.size, 9, none⟩ a9).setCell ⟨w.heap.size, 10, none⟩ a10).cell? ⟨w.heap.size + 1, 1, none⟩ = some (.int .i64 100) ∧ (((((((((((w'.setCell ⟨w.heap.size, 0, none⟩ a0).setCell ⟨w.heap.size, 1, none⟩ a1).setCell ⟨w.heap.size, 2, none⟩ a2).setCell ⟨w.heap.size, 3, none⟩ a3).setCell ⟨w.heap.size, 4, none⟩ a4).setCell ⟨w.heap.size, 5, none⟩ a5).setCell ⟨w.heap.size, 6, none⟩ a6).setCell ⟨w.heap.size, 7, none⟩ a7).setCell ⟨w.heap.size, 8, none⟩ a8).setCell ⟨w.heap.size, 9, none⟩ a9).setCell ⟨w.heap.size, 10, none⟩ a10).cell? ⟨w.heap.size + 1, 2, none⟩ = some (.int .i64 0) ∧ (((((((((((w'.setCell ⟨w.heap.size, 0, none⟩ a0).setCell ⟨w.heap.size, 1, none⟩ a1).setCell ⟨w.heap.size, 2, none⟩ a2).setCell ⟨w.heap.size, 3, none⟩ a3).setCell ⟨w.heap.size, 4, none⟩ a4).setCell ⟨w.heap.size, 5, none⟩ a5).setCell ⟨w.heap.size, 6, none⟩ a6).setCell ⟨w.heap.size, 7, none⟩ a7).setCell ⟨w.heap.size, 8, none⟩ a8).setCell ⟨w.heap.size, 9, none⟩ a9).setCell ⟨w.heap.size, 10, none⟩ a10).cell? ⟨w.heap.size + 1, 3, none⟩ = some (.int .i64 0) ∧ (((((((((((w'.setCell ⟨w.heap.size, 0, none⟩ a0).setCell ⟨w.heap.size, 1, none⟩ a1).setCell ⟨w.heap.size, 2, none⟩ a2).setCell ⟨w.heap.size, 3, none⟩ a3).setCell ⟨w.heap.size, 4, none⟩ a4).setCell ⟨w.heap.size, 5, none⟩ a5).setCell ⟨w.heap.size, 6, none⟩ a6).setCell ⟨w.heap.size, 7, none⟩ a7).setCell ⟨w.heap.size, 8, none⟩ a8).setCell ⟨w.heap.size, 9, none⟩ a9).setCell ⟨w.heap.size, 10, none⟩ a10).cell? ⟨w.heap.size + 1 + 1, 0, none⟩ = some (.int .i64 0) ∧ (((((((((((w'.setCell ⟨w.heap.size, 0, none⟩ a0).setCell ⟨w.heap.size, 1, none⟩ a1).setCell ⟨w.heap.size, 2, none⟩ a2).setCell ⟨w.heap.size, 3, none⟩ a3).setCell ⟨w.heap.size, 4, none⟩ a4).setCell ⟨w.heap.size, 5, none⟩ a5).setCell ⟨w.heap.size, 6, none⟩ a6).setCell ⟨w.heap.size, 7, none⟩ a7).setCell ⟨w.heap.size, 8, none⟩ a8).setCell ⟨w.heap.size, 9, none⟩ a9).setCell ⟨w.heap.size, 10, none⟩ a10).cell? ⟨w.heap.size + 1 + 1, 1, none⟩ = some (.int .i64 0) ∧ (((((((((((w'.setCell ⟨w.heap.size, 0, none⟩ a0).setCell ⟨w.heap.size, 1, none⟩ a1).setCell ⟨w.heap.size, 2, none⟩ a2).setCell ⟨w.heap.size, 3, none⟩ a3).setCell ⟨w.heap.size, 4, none⟩ a4).setCell ⟨w.heap.size, 5, none⟩ a5).setCell ⟨w.heap.size, 6, none⟩ a6).setCell ⟨w.heap.size, 7, none⟩ a7).setCell ⟨w.heap.size, 8, none⟩ a8).setCell ⟨w.heap.size, 9, none⟩ a9).setCell ⟨w.heap.size, 10, none⟩ a10).cell? ⟨w.heap.size + 1 + 1, 2, none⟩ = some (.int .i64 0) ∧ (((((((((((w'.setCell ⟨w.heap.size, 0, none⟩ a0).setCell ⟨w.heap.size, 1, none⟩ a1).setCell ⟨w.heap.size, 2, none⟩ a2).setCell ⟨w.heap.size, 3, none⟩ a3).setCell ⟨w.heap.size, 4, none⟩ a4).setCell ⟨w.heap.size, 5, none⟩ a5).setCell ⟨w.heap.size, 6, none⟩ a6).setCell ⟨w.heap.size, 7, none⟩ a7).setCell ⟨w.heap.size, 8, none⟩ a8).setCell ⟨w.heap.size, 9, none⟩ a9).setCell ⟨w.heap.size, 10, none⟩ a10).cell? ⟨w.heap.size + 1 + 1, 3, none⟩ = some (.int .i64 0) ∧ (((((((((((w'.setCell ⟨w.heap.size, 0, none⟩ a0).setCell ⟨w.heap.size, 1, none⟩ a1).setCell ⟨w.heap.size, 2, none⟩ a2).setCell ⟨w.heap.size, 3, none⟩ a3).setCell ⟨w.heap.size, 4, none⟩ a4).setCell ⟨w.heap.size, 5, none⟩ a5).setCell ⟨w.heap.size, 6, none⟩ a6).setCell ⟨w.heap.size, 7, none⟩ a7).setCell ⟨w.heap.size, 8, none⟩ a8).setCell ⟨w.heap.size, 9, none⟩ a9).setCell ⟨w.heap.size, 10, none⟩ a10).cell? ⟨w.heap.size + 1 + 1, 4, none⟩ = some (.int .i64 1) ∧ (((((((((((w'.setCell ⟨w.heap.size, 0, none⟩ a0).setCell ⟨w.heap.size, 1, none⟩ a1).setCell ⟨w.heap.size, 2, none⟩ a2).setCell ⟨w.heap.size, 3, none⟩ a3).setCell ⟨w.heap.size, 4, none⟩ a4).setCell ⟨w.heap.size, 5, none⟩ a5).setCell ⟨w.heap.size, 6, none⟩ a6).setCell ⟨w.heap.size, 7, none⟩ a7).setCell ⟨w.heap.size, 8, none⟩ a8).setCell ⟨w.heap.size, 9, none⟩ a9).setCell ⟨w.heap.size, 10, none⟩ a10).cell? ⟨w.heap.size + 1 + 1, 5, none⟩ = some (.int .i64 0) ∧ (((((((((((w'.setCell ⟨w.heap.size, 0, none⟩ a0).setCell ⟨w.heap.size, 1, none⟩ a1).setCell ⟨w.heap.size, 2, none⟩ a2).setCell ⟨w.heap.size, 3, none⟩ a3).setCell ⟨w.heap.size, 4, none⟩ a4).setCell ⟨w.heap.size, 5, none⟩ a5).setCell ⟨w.heap.size, 6, none⟩ a6).setCell ⟨w.heap.size, 7, none⟩ a7).setCell ⟨w.heap.size, 8, none⟩ a8).setCell ⟨w.heap.size, 9, none⟩ a9).setCell ⟨w.heap.size, 10, none⟩ a10).cell? ⟨w.heap.size + 1 + 1, 6, none⟩ = some (.int .i64 4) ∧ (((((((((((w'.setCell ⟨w.heap.size, 0, none⟩ a0).setCell ⟨w.heap.size, 1, none⟩ a1).setCell ⟨w.heap.size, 2, none⟩ a2).setCell ⟨w.heap.size, 3, none⟩ a3).setCell ⟨w.heap.size, 4, none⟩ a4).setCell ⟨w.heap.size, 5, none⟩ a5).setCell ⟨w.heap.size, 6, none⟩ a6).setCell ⟨w.heap.size, 7, none⟩ a7).setCell ⟨w.heap.size, 8, none⟩ a8).setCell ⟨w.heap.size, 9, none⟩ a9).setCell ⟨w.heap.size, 10, none⟩ a10).cell? ⟨w.heap.size + 1 + 1, 7, none⟩ = some (.int .i64 5) ∧ (((((((((((w'.setCell ⟨w.heap.size, 0, none⟩ a0).setCell ⟨w.heap.size, 1, none⟩ a1).setCell ⟨w.heap.size, 2, none⟩ a2).setCell ⟨w.heap.size, 3, none⟩ a3).setCell ⟨w.heap.size, 4, none⟩ a4).setCell ⟨w.heap.size, 5, none⟩ a5).setCell ⟨w.heap.size, 6, none⟩ a6).setCell ⟨w.heap.size, 7, none⟩ a7).setCell ⟨w.heap.size, 8, none⟩ a8).setCell ⟨w.heap.size, 9, none⟩ a9).setCell ⟨w.heap.size, 10, none⟩ a10).cell? ⟨w.heap.size + 1 + 1 + 1, 0, none⟩ = some (.int .i64 9) ∧ (((((((((((w'.setCell ⟨w.heap.size, 0, none⟩ a0).setCell ⟨w.heap.size, 1, none⟩ a1).setCell ⟨w.heap.size, 2, none⟩ a2).setCell ⟨w.heap.size, 3, none⟩ a3).setCell ⟨w.heap.size, 4, none⟩ a4).setCell ⟨w.heap.size, 5, none⟩ a5).setCell ⟨w.heap.size, 6, none⟩ a6).setCell ⟨w.heap.size, 7, none⟩ a7).setCell ⟨w.heap.size, 8, none⟩ a8).setCell ⟨w.heap.size, 9, none⟩ a9).setCell ⟨w.heap.size, 10, none⟩ a10).cell? ⟨w.heap.size + 1 + 1 + 1, 1, none⟩ = some (.int .i64 2) ∧ (((((((((((w'.setCell ⟨w.heap.size, 0, none⟩ a0).setCell ⟨w.heap.size, 1, none⟩ a1).setCell ⟨w.heap.size, 2, none⟩ a2).setCell ⟨w.heap.size, 3, none⟩ a3).setCell ⟨w.heap.size, 4, none⟩ a4).setCell ⟨w.heap.size, 5, none⟩ a5).setCell ⟨w.heap.size, 6, none⟩ a6).setCell ⟨w.heap.size, 7, none⟩ a7).setCell ⟨w.heap.size, 8, none⟩ a8).setCell ⟨w.heap.size, 9, none⟩ a9).setCell ⟨w.heap.size, 10, none⟩ a10).cell? ⟨w.heap.size + 1 + 1 + 1, 2, none⟩ = some (.slice (some ⟨w.heap.size + 1, 0, none⟩) 1 1) ∧ (((((((((((w'.setCell ⟨w.heap.size, 0, none⟩ a0).setCell ⟨w.heap.size, 1, none⟩ a1).setCell ⟨w.heap.size, 2, none⟩ a2).setCell ⟨w.heap.size, 3, none⟩ a3).setCell ⟨w.heap.size, 4, none⟩ a4).setCell ⟨w.heap.size, 5, none⟩ a5).setCell ⟨w.heap.size, 6, none⟩ a6).setCell ⟨w.heap.size, 7, none⟩ a7).setCell ⟨w.heap.size, 8, none⟩ a8).setCell ⟨w.heap.size, 9, none⟩ a9).setCell ⟨w.heap.size, 10, none⟩ a10).cell? ⟨w.heap.size + 1 + 1 + 1, 3, none⟩ = some (.slice (some ⟨w.heap.size + 1 + 1, 0, none⟩) 1 1)) ∧ ((((((((((((w'.setCell ⟨w.heap.size, 0, none⟩ a0).setCell ⟨w.heap.size, 1, none⟩ a1).setCell ⟨w.heap.size, 2, none⟩ a2).setCell ⟨w.heap.size, 3, none⟩ a3).setCell ⟨w.heap.size, 4, none⟩ a4).setCell ⟨w.heap.size, 5, none⟩ a5).setCell ⟨w.heap.size, 6, none⟩ a6).setCell ⟨w.heap.size, 7, none⟩ a7).setCell ⟨w.heap.size, 8, none⟩ a8).setCell ⟨w.heap.size, 9, none⟩ a9).setCell ⟨w.heap.size, 10, none⟩ a10).cell? ⟨w.heap.size, 0, none⟩ = some (curV (((((((((((w'.setCell ⟨w.heap.size, 0, none⟩ a0).setCell ⟨w.heap.size, 1, none⟩ a1).setCell ⟨w.heap.size, 2, none⟩ a2).setCell ⟨w.heap.size, 3, none⟩ a3).setCell ⟨w.heap.size, 4, none⟩ a4).setCell ⟨w.heap.size, 5, none⟩ a5).setCell ⟨w.heap.size, 6, none⟩ a6).setCell ⟨w.heap.size, 7, none⟩ a7).setCell ⟨w.heap.size, 8, none⟩ a8).setCell ⟨w.heap.size, 9, none⟩ a9).setCell ⟨w.heap.size, 10, none⟩ a10) ⟨w.heap.size, 0, none⟩) ∧ (((((((((((w'.setCell ⟨w.heap.size, 0, none⟩ a0).setCell ⟨w.heap.size, 1, none⟩ a1).setCell ⟨w.heap.size, 2, none⟩ a2).setCell ⟨w.heap.size, 3, none⟩ a3).setCell ⟨w.heap.size, 4, none⟩ a4).setCell ⟨w.heap.size, 5, none⟩ a5).setCell ⟨w.heap.size, 6, none⟩ a6).setCell ⟨w.heap.size, 7, none⟩ a7).setCell ⟨w.heap.size, 8, none⟩ a8).setCell ⟨w.heap.size, 9, none⟩ a9).setCell ⟨w.heap.size, 10, none⟩ a10).cell? ⟨w.heap.size, 1, none⟩ = some (curV (((((((((((w'.setCell ⟨w.heap.size, 0, none⟩ a0).setCell ⟨w.heap.size, 1, none⟩ a1).setCell ⟨w.heap.size, 2, none⟩ a2).setCell ⟨w.heap.size, 3, none⟩ a3).setCell ⟨w.heap.size, 4, none⟩ a4).setCell ⟨w.heap.size, 5, none⟩ a5).setCell ⟨w.heap.size, 6, none⟩ a6).setCell ⟨w.heap.size, 7, none⟩ a7).setCell ⟨w.heap.size, 8, none⟩ a8).setCell ⟨w.heap.size, 9, none⟩ a9).setCell ⟨w.heap.size, 10, none⟩ a10) ⟨w.heap.size, 1, none⟩) ∧ (((((((((((w'.setCell ⟨w.heap.size, 0, none⟩ a0).setCell ⟨w.heap.size, 1, none⟩ a1).setCell ⟨w.heap.size, 2, none⟩ a2).setCell ⟨w.heap.size, 3, none⟩ a3).setCell ⟨w.heap.size, 4, none⟩ a4).setCell ⟨w.heap.size, 5, none⟩ a5).setCell ⟨w.heap.size, 6, none⟩ a6).setCell ⟨w.heap.size, 7, none⟩ a7).setCell ⟨w.heap.size, 8, none⟩ a8).setCell ⟨w.heap.size, 9, none⟩ a9).setCell ⟨w.heap.size, 10, none⟩ a10).cell? ⟨w.heap.size, 2, none⟩ = some (curV (((((((((((w'.setCell ⟨w.heap.size, 0, none⟩ a0).setCell ⟨w.heap.size, 1, none⟩ a1).setCell ⟨w.heap.size, 2, none⟩ a2).setCell ⟨w.heap.size, 3, none⟩ a3).setCell ⟨w.heap.size, 4, none⟩ a4).setCell ⟨w.heap.size, 5, none⟩ a5).setCell ⟨w.heap.size, 6, none⟩ a6).setCell ⟨w.heap.size, 7, none⟩ a7).setCell ⟨w.heap.size, 8, none⟩ a8).setCell ⟨w.heap.size, 9, none⟩ a9).setCell ⟨w.heap.size, 10, none⟩ a10) ⟨w.heap.size, 2, none⟩) ∧ (((((((((((w'.setCell ⟨w.heap.size, 0, none⟩ a0).setCell ⟨w.heap.size, 1, none⟩ a1).setCell ⟨w.heap.size, 2, none⟩ a2).setCell ⟨w.heap.size, 3, none⟩ a3).setCell ⟨w.heap.size, 4, none⟩ a4).setCell ⟨w.heap.size, 5, none⟩ a5).setCell ⟨w.heap.size, 6, none⟩ a6).setCell ⟨w.heap.size, 7, none⟩ a7).setCell ⟨w.heap.size, 8, none⟩ a8).setCell ⟨w.heap.size, 9, none⟩ a9).setCell ⟨w.heap.size, 10, none⟩ a10).cell? ⟨w.heap.size, 3, none⟩ = some (curV (((((((((((w'.setCell ⟨w.heap.size, 0, none⟩ a0).setCell ⟨w.heap.size, 1, none⟩ a1).setCell ⟨w.heap.size, 2, none⟩ a2).setCell ⟨w.heap.size, 3, none⟩ a3).setCell ⟨w.heap.size, 4, none⟩ a4).setCell ⟨w.heap.size, 5, none⟩ a5).setCell ⟨w.heap.size, 6, none⟩ a6).setCell ⟨w.heap.size, 7, none⟩ a7).setCell ⟨w.heap.size, 8, none⟩ a8).setCell ⟨w.heap.size, 9, none⟩ a9).setCell ⟨w.heap.size, 10, none⟩ a10) ⟨w.heap.size, 3, none⟩) ∧ (((((((((((w'.setCell ⟨w.heap.size, 0, none⟩ a0).setCell ⟨w.heap.size, 1, none⟩ a1).setCell ⟨w.heap.size, 2, none⟩ a2).setCell ⟨w.heap.size, 3, none⟩ a3).setCell ⟨w.heap.size, 4, none⟩ a4).setCell ⟨w.heap.size, 5, none⟩ a5).setCell ⟨w.heap.size, 6, none⟩ a6).setCell ⟨w.heap.size, 7, none⟩ a7).setCell ⟨w.heap.size, 8, none⟩ a8).setCell ⟨w.heap.size, 9, none⟩ a9).setCell ⟨w.heap.size, 10, none⟩ a10).cell? ⟨w.heap.size, 4, none⟩ = some (curV (((((((((((w'.setCell ⟨w.heap.size, 0, none⟩ a0).setCell ⟨w.heap.size, 1, none⟩ a1).setCell ⟨w.heap.size, 2, none⟩ a2).setCell ⟨w.heap.size, 3, none⟩ a3).setCell ⟨w.heap.size, 4, none⟩ a4).setCell ⟨w.heap.size, 5, none⟩ a5).setCell ⟨w.heap.size, 6, none⟩ a6).setCell ⟨w.heap.size, 7, none⟩ a7).setCell ⟨w.heap.size, 8, none⟩ a8).setCell ⟨w.heap.size, 9, none⟩ a9).setCell ⟨w.heap.size, 10, none⟩ a10) ⟨w.heap.size, 4, none⟩) ∧ (((((((((((w'.setCell ⟨w.heap.size, 0, none⟩ a0).setCell ⟨w.heap.size, 1, none⟩ a1).setCell ⟨w.heap.size, 2, none⟩ a2).setCell ⟨w.heap.size, 3, none⟩ a3).setCell ⟨w.heap.size, 4, none⟩ a4).setCell ⟨w.heap.size, 5, none⟩ a5).setCell ⟨w.heap.size, 6, none⟩ a6).setCell ⟨w.heap.size, 7, none⟩ a7).setCell ⟨w.heap.size, 8, none⟩ a8).setCell ⟨w.heap.size, 9, none⟩ a9).setCell ⟨w.heap.size, 10, none⟩ a10).cell? ⟨w.heap.size, 5, none⟩ = some (curV (((((((((((w'.setCell ⟨w.heap.size, 0, none⟩ a0).setCell ⟨w.heap.size, 1, none⟩ a1).setCell ⟨w.heap.size, 2, none⟩ a2).setCell ⟨w.heap.size, 3, none⟩ a3).setCell ⟨w.heap.size, 4, none⟩ a4).setCell ⟨w.heap.size, 5, none⟩ a5).setCell ⟨w.heap.size, 6, none⟩ a6).setCell ⟨w.heap.size, 7, none⟩ a7).setCell ⟨w.heap.size, 8, none⟩ a8).setCell ⟨w.heap.size, 9, none⟩ a9).setCell ⟨w.heap.size, 10, none⟩ a10) ⟨w.heap.size, 5, none⟩) ∧ (((((((((((w'.setCell ⟨w.heap.size, 0, none⟩ a0).setCell ⟨w.heap.size, 1, none⟩ a1).setCell ⟨w.heap.size, 2, none⟩ a2).setCell ⟨w.heap.size, 3, none⟩ a3).setCell ⟨w.heap.size, 4, none⟩ a4).setCell ⟨w.heap.size, 5, none⟩ a5).setCell ⟨w.heap.size, 6, none⟩ a6).setCell ⟨w.heap.size, 7, none⟩ a7).setCell ⟨w.heap.size, 8, none⟩ a8).setCell ⟨w.heap.size, 9, none⟩ a9).setCell ⟨w.heap.size, 10, none⟩ a10).cell? ⟨w.heap.size, 6, none⟩ = some (curV (((((((((((w'.setCell ⟨w.heap.size, 0, none⟩ a0).setCell ⟨w.heap.size, 1, none⟩ a1).setCell ⟨w.heap.size, 2, none⟩ a2).setCell ⟨w.heap.size, 3, none⟩ a3).setCell ⟨w.heap.size, 4, none⟩ a4).setCell ⟨w.heap.size, 5, none⟩ a5).setCell ⟨w.heap.size, 6, none⟩ a6).setCell ⟨w.heap.size, 7, none⟩ a7).setCell ⟨w.heap.size, 8, none⟩ a8).setCell ⟨w.heap.size, 9, none⟩ a9).setCell ⟨w.heap.size, 10, none⟩ a10) ⟨w.heap.size, 6, none⟩) ∧ (((((((((((w'.setCell ⟨w.heap.size, 0, none⟩ a0).setCell ⟨w.heap.size, 1, none⟩ a1).setCell ⟨w.heap.size, 2, none⟩ a2).setCell ⟨w.heap.size, 3, none⟩ a3).setCell ⟨w.heap.size, 4, none⟩ a4).setCell ⟨w.heap.size, 5, none⟩ a5).setCell ⟨w.heap.size, 6, none⟩ a6).setCell ⟨w.heap.size, 7, none⟩ a7).setCell ⟨w.heap.size, 8, none⟩ a8).setCell ⟨w.heap.size, 9, none⟩ a9).setCell ⟨w.heap.size, 10, none⟩ a10).cell? ⟨w.heap.size, 7, none⟩ = some (curV (((((((((((w'.setCell ⟨w.heap.size, 0, none⟩ a0).setCell ⟨w.heap.size, 1, none⟩ a1).setCell ⟨w.heap.size, 2, none⟩ a2).setCell ⟨w.heap.size, 3, none⟩ a3).setCell ⟨w.heap.size, 4, none⟩ a4).setCell ⟨w.heap.size, 5, none⟩ a5).setCell ⟨w.heap.size, 6, none⟩ a6).setCell ⟨w.heap.size, 7, none⟩ a7).setCell ⟨w.heap.size, 8, none⟩ a8).setCell ⟨w.heap.size, 9, none⟩ a9).setCell ⟨w.heap.size, 10, none⟩ a10) ⟨w.heap.size, 7, none⟩) ∧ (((((((((((w'.setCell ⟨w.heap.size, 0, none⟩ a0).setCell ⟨w.heap.size, 1, none⟩ a1).setCell ⟨w.heap.size, 2, none⟩ a2).setCell ⟨w.heap.size, 3, none⟩ a3).setCell ⟨w.heap.size, 4, none⟩ a4).setCell ⟨w.heap.size, 5, none⟩ a5).setCell ⟨w.heap.size, 6, none⟩ a6).setCell ⟨w.heap.size, 7, none⟩ a7).setCell ⟨w.heap.size, 8, none⟩ a8).setCell ⟨w.heap.size, 9, none⟩ a9).setCell ⟨w.heap.size, 10, none⟩ a10).cell? ⟨w.heap.size, 8, none⟩ = some (curV (((((((((((w'.setCell ⟨w.heap.size, 0, none⟩ a0).setCell ⟨w.heap.size, 1, none⟩ a1).setCell ⟨w.heap.size, 2, none⟩ a2).setCell ⟨w.heap.size, 3, none⟩ a3).setCell ⟨w.heap.size, 4, none⟩ a4).setCell ⟨w.heap.size, 5, none⟩ a5).setCell ⟨w.heap.size, 6, none⟩ a6).setCell ⟨w.heap.size, 7, none⟩ a7).setCell ⟨w.heap.size, 8, none⟩ a8).setCell ⟨w.heap.size, 9, none⟩ a9).setCell ⟨w.heap.size, 10, none⟩ a10) ⟨w.heap.size, 8, none⟩) ∧ (((((((((((w'.setCell ⟨w.heap.size, 0, none⟩ a0).setCell ⟨w.heap.size, 1, none⟩ a1).setCell ⟨w.heap.size, 2, none⟩ a2).setCell ⟨w.heap.size, 3, none⟩ a3).setCell ⟨w.heap.size, 4, none⟩ a4).setCell ⟨w.heap.size, 5, none⟩ a5).setCell ⟨w.heap.size, 6, none⟩ a6).setCell ⟨w.heap.size, 7, none⟩ a7).setCell ⟨w.heap.size, 8, none⟩ a8).setCell ⟨w.heap.size, 9, none⟩ a9).setCell ⟨w.heap.size, 10, none⟩ a10).cell? ⟨w.heap.size, 9, none⟩ = some (curV (((((((((((w'.setCell ⟨w.heap.size, 0, none⟩ a0).setCell ⟨w.heap.size, 1, none⟩ a1).setCell ⟨w.heap.size, 2, none⟩ a2).setCell ⟨w.heap.size, 3, none⟩ a3).setCell ⟨w.heap.size, 4, none⟩ a4).setCell ⟨w.heap.size, 5, none⟩ a5).setCell ⟨w.heap.size, 6, none⟩ a6).setCell ⟨w.heap.size, 7, none⟩ a7).setCell ⟨w.heap.size, 8, none⟩ a8).setCell ⟨w.heap.size, 9, none⟩ a9).setCell ⟨w.heap.size, 10, none⟩ a10) ⟨w.heap.size, 9, none⟩) ∧ (((((((((((w'.setCell ⟨w.heap.size, 0, none⟩ a0).setCell ⟨w.heap.size, 1, none⟩ a1).setCell ⟨w.heap.size, 2, none⟩ a2).setCell ⟨w.heap.size, 3, none⟩ a3).setCell ⟨w.heap.size, 4, none⟩ a4).setCell ⟨w.heap.size, 5, none⟩ a5).setCell ⟨w.heap.size, 6, none⟩ a6).setCell ⟨w.heap.size, 7, none⟩ a7).setCell ⟨w.heap.size, 8, none⟩ a8).setCell ⟨w.heap.size, 9, none⟩ a9).setCell ⟨w.heap.size, 10, none⟩ a10).cell? ⟨w.heap.size, 10, none⟩ = some (curV (((((((((((w'.setCell ⟨w.heap.size, 0, none⟩ a0).setCell ⟨w.heap.size, 1, none⟩ a1).setCell ⟨w.heap.size, 2, none⟩ a2).setCell ⟨w.heap.size, 3, none⟩ a3).setCell ⟨w.heap.size, 4, none⟩ a4).setCell ⟨w.heap.size, 5, none⟩ a5).setCell ⟨w.heap.size, 6, none⟩ a6).setCell ⟨w.heap.size, 7, none⟩ a7).setCell ⟨w.heap.size, 8, none⟩ a8).setCell ⟨w.heap.size, 9, none⟩ a9).setCell ⟨w.heap.size, 10, none⟩ a10) ⟨w.heap.size, 10, none⟩) ∧ ∀ o, (((((((((((w'.setCell ⟨w.heap.size, 0, none⟩ a0).setCell ⟨w.heap.size, 1, none⟩ a1).setCell ⟨w.heap.size, 2, none⟩ a2).setCell ⟨w.heap.size, 3, none⟩ a3).setCell ⟨w.heap.size, 4, none⟩ a4).setCell ⟨w.heap.size, 5, none⟩ a5).setCell ⟨w.heap.size, 6, none⟩ a6).setCell ⟨w.heap.size, 7, none⟩ a7).setCell ⟨w.heap.size, 8, none⟩ a8).setCell ⟨w.heap.size, 9, none⟩ a9).setCell ⟨w.heap.size, 10, none⟩ a10).frozen? ⟨w.heap.size, o, none⟩ = false) ∧ Ext w (((((((((((w'.setCell ⟨w.heap.size, 0, none⟩ a0).setCell ⟨w.heap.size, 1, none⟩ a1).setCell ⟨w.heap.size, 2, none⟩ a2).setCell ⟨w.heap.size, 3, none⟩ a3).setCell ⟨w.heap.size, 4, none⟩ a4).setCell ⟨w.heap.size, 5, none⟩ a5).setCell ⟨w.heap.size, 6, none⟩ a6).setCell ⟨w.heap.size, 7, none⟩ a7).setCell ⟨w.heap.size, 8, none⟩ a8).setCell ⟨w.heap.size, 9, none⟩ a9).setCell ⟨w.heap.size, 10, none⟩ a10)) := Lib.hid (fun w' a0 a1 a2 a3 a4 a5 a6 a7 a8 a9 a10 h => by
    obtain ⟨⟨q0, q1, q2, q3, q4, q5, q6, q7, q8, q9, q10, q11, q12, q13, q14, q15⟩, -⟩ := HS.out w' h; obtain ⟨⟨⟨x0, r0⟩, ⟨x1, r1⟩, ⟨x2, r2⟩, ⟨x3, r3⟩, ⟨x4, r4⟩, ⟨x5, r5⟩, ⟨x6, r6⟩, ⟨x7, r7⟩, ⟨x8, r8⟩, ⟨x9, r9⟩, ⟨x10, r10⟩⟩, hf⟩ := HB0.out w' h; show ((setL w' w.heap.size [a0, a1, a2, a3, a4, a5, a6, a7, a8, a9, a10] 0).cell? ⟨w.heap.size + 1, 0, none⟩ = some (.int .i64 0) ∧ (setL w' w.heap.size [a0, a1, a2, a3, a4, a5, a6, a7, a8, a9, a10] 0).cell? ⟨w.heap.size + 1, 1, none⟩ = some (.int .i64 100) ∧ (setL w' w.heap.size [a0, a1, a2, a3, a4, a5, a6, a7, a8, a9, a10] 0).cell? ⟨w.heap.size + 1, 2, none⟩ = some (.int .i64 0) ∧ (setL w' w.heap.size [a0, a1, a2, a3, a4, a5, a6, a7, a8, a9, a10] 0).cell? ⟨w.heap.size + 1, 3, none⟩ = some (.int .i64 0) ∧ (setL w' w.heap.size [a0, a1, a2, a3, a4, a5, a6, a7, a8, a9, a10] 0).cell? ⟨w.heap.size + 1 + 1, 0, none⟩ = some (.int .i64 0) ∧ (setL w' w.heap.size [a0, a1, a2, a3, a4, a5, a6, a7, a8, a9, a10] 0).cell? ⟨w.heap.size + 1 + 1, 1, none⟩ = some (.int .i64 0) ∧ (setL w' w.heap.size [a0, a1, a2, a3, a4, a5, a6, a7, a8, a9, a10] 0).cell? ⟨w.heap.size + 1 + 1, 2, none⟩ = some (.int .i64 0) ∧ (setL w' w.heap.size [a0, a1, a2, a3, a4, a5, a6, a7, a8, a9, a10] 0).cell? ⟨w.heap.size + 1 + 1, 3, none⟩ = some (.int .i64 0) ∧ (setL w' w.heap.size [a0, a1, a2, a3, a4, a5, a6, a7, a8, a9, a10] 0).cell? ⟨w.heap.size + 1 + 1, 4, none⟩ = some (.int .i64 1) ∧ (setL w' w.heap.size [a0, a1, a2, a3, a4, a5, a6, a7, a8, a9, a10] 0).cell? ⟨w.heap.size + 1 + 1, 5, none⟩ = some (.int .i64 0) ∧ (setL w' w.heap.size [a0, a1, a2, a3, a4, a5, a6, a7, a8, a9, a10] 0).cell? ⟨w.heap.size + 1 + 1, 6, none⟩ = some (.int .i64 4) ∧ (setL w' w.heap.size [a0, a1, a2, a3, a4, a5, a6, a7, a8, a9, a10] 0).cell? ⟨w.heap.size + 1 + 1, 7, none⟩ = some (.int .i64 5) ∧ (setL w' w.heap.size [a0, a1, a2, a3, a4, a5, a6, a7, a8, a9, a10] 0).cell? ⟨w.heap.size + 1 + 1 + 1, 0, none⟩ = some (.int .i64 9) ∧ (setL w' w.heap.size [a0, a1, a2, a3, a4, a5, a6, a7, a8, a9, a10] 0).cell? ⟨w.heap.size + 1 + 1 + 1, 1, none⟩ = some (.int .i64 2) ∧ (setL w' w.heap.size [a0, a1, a2, a3, a4, a5, a6, a7, a8, a9, a10] 0).cell? ⟨w.heap.size + 1 + 1 + 1, 2, none⟩ = some (.slice (some ⟨w.heap.size + 1, 0, none⟩) 1 1) ∧ (setL w' w.heap.size [a0, a1, a2, a3, a4, a5, a6, a7, a8, a9, a10] 0).cell? ⟨w.heap.size + 1 + 1 + 1, 3, none⟩ = some (.slice (some ⟨w.heap.size + 1 + 1, 0, none⟩) 1 1)) ∧ ((setL w' w.heap.size [a0, a1, a2, a3, a4, a5, a6, a7, a8, a9, a10] 0).cell? ⟨w.heap.size, 0, none⟩ = some (curV (setL w' w.heap.size [a0, a1, a2, a3, a4, a5, a6, a7, a8, a9, a10] 0) ⟨w.heap.size, 0, none⟩) ∧ (setL w' w.heap.size [a0, a1, a2, a3, a4, a5, a6, a7, a8, a9, a10] 0).cell? ⟨w.heap.size, 1, none⟩ = some (curV (setL w' w.heap.size [a0, a1, a2, a3, a4, a5, a6, a7, a8, a9, a10] 0) ⟨w.heap.size, 1, none⟩) ∧ (setL w' w.heap.size [a0, a1, a2, a3, a4, a5, a6, a7, a8, a9, a10] 0).cell? ⟨w.heap.size, 2, none⟩ = some (curV (setL w' w.heap.size [a0, a1, a2, a3, a4, a5, a6, a7, a8, a9, a10] 0) ⟨w.heap.size, 2, none⟩) ∧ (setL w' w.heap.size [a0, a1, a2, a3, a4, a5, a6, a7, a8, a9, a10] 0).cell? ⟨w.heap.size, 3, none⟩ = some (curV (setL w' w.heap.size [a0, a1, a2, a3, a4, a5, a6, a7, a8, a9, a10] 0) ⟨w.heap.size, 3, none⟩) ∧ (setL w' w.heap.size [a0, a1, a2, a3, a4, a5, a6, a7, a8, a9, a10] 0).cell? ⟨w.heap.size, 4, none⟩ = some (curV (setL w' w.heap.size [a0, a1, a2, a3, a4, a5, a6, a7, a8, a9, a10] 0) ⟨w.heap.size, 4, none⟩) ∧ (setL w' w.heap.size [a0, a1, a2, a3, a4, a5, a6, a7, a8, a9, a10] 0).cell? ⟨w.heap.size, 5, none⟩ = some (curV (setL w' w.heap.size [a0, a1, a2, a3, a4, a5, a6, a7, a8, a9, a10] 0) ⟨w.heap.size, 5, none⟩) ∧ (setL w' w.heap.size [a0, a1, a2, a3, a4, a5, a6, a7, a8, a9, a10] 0).cell? ⟨w.heap.size, 6, none⟩ = some (curV (setL w' w.heap.size [a0, a1, a2, a3, a4, a5, a6, a7, a8, a9, a10] 0) ⟨w.heap.size, 6, none⟩) ∧ (setL w' w.heap.size [a0, a1, a2, a3, a4, a5, a6, a7, a8, a9, a10] 0).cell? ⟨w.heap.size, 7, none⟩ = some (curV (setL w' w.heap.size [a0, a1, a2, a3, a4, a5, a6, a7, a8, a9, a10] 0) ⟨w.heap.size, 7, none⟩) ∧ (setL w' w.heap.size [a0, a1, a2, a3, a4, a5, a6, a7, a8, a9, a10] 0).cell? ⟨w.heap.size, 8, none⟩ = some (curV (setL w' w.heap.size [a0, a1, a2, a3, a4, a5, a6, a7, a8, a9, a10] 0) ⟨w.heap.size, 8, none⟩) ∧ (setL w' w.heap.size [a0, a1, a2, a3, a4, a5, a6, a7, a8, a9, a10] 0).cell? ⟨w.heap.size, 9, none⟩ = some (curV (setL w' w.heap.size [a0, a1, a2, a3, a4, a5, a6, a7, a8, a9, a10] 0) ⟨w.heap.size, 9, none⟩) ∧ (setL w' w.heap.size [a0, a1, a2, a3, a4, a5, a6, a7, a8, a9, a10] 0).cell? ⟨w.heap.size, 10, none⟩ = some (curV (setL w' w.heap.size [a0, a1, a2, a3, a4, a5, a6, a7, a8, a9, a10] 0) ⟨w.heap.size, 10, none⟩) ∧ ∀ o, (setL w' w.heap.size [a0, a1, a2, a3, a4, a5, a6, a7, a8, a9, a10] 0).frozen? ⟨w.heap.size, o, none⟩ = false) ∧ Ext w (setL w' w.heap.size [a0, a1, a2, a3, a4, a5, a6, a7, a8, a9, a10] 0)
    exact ⟨⟨setL_ne (by omega) _ _ _ q0, setL_ne (by omega) _ _ _ q1, setL_ne (by omega) _ _ _ q2, setL_ne (by omega) _ _ _ q3, setL_ne (by omega) _ _ _ q4, setL_ne (by omega) _ _ _ q5, setL_ne (by omega) _ _ _ q6, setL_ne (by omega) _ _ _ q7, setL_ne (by omega) _ _ _ q8, setL_ne (by omega) _ _ _ q9, setL_ne (by omega) _ _ _ q10, setL_ne (by omega) _ _ _ q11, setL_ne (by omega) _ _ _ q12, setL_ne (by omega) _ _ _ q13, setL_ne (by omega) _ _ _ q14, setL_ne (by omega) _ _ _ q15⟩, ⟨setL_cur r0, setL_cur r1, setL_cur r2, setL_cur r3, setL_cur r4, setL_cur r5, setL_cur r6, setL_cur r7, setL_cur r8, setL_cur r9, setL_cur r10, fun o => (setL_fr _ _ _).trans (hf o)⟩, setL_ext (by omega) _ _ _ (Ext.trans X h)⟩)
  have HRT : Hid (∀ w' a0 a1 a2 a3 a4 a5 a6 a7 a8 a9 a10, Ext W w' → (((((((((((w'.setCell ⟨w.heap.size, 0, none⟩ a0).setCell ⟨w.heap.size, 1, none⟩ a1).setCell ⟨w.heap.size, 2, none⟩ a2).setCell ⟨w.heap.size, 3, none⟩ a3).setCell ⟨w.heap.size, 4, none⟩ a4).setCell ⟨w.heap.size, 5, none⟩ a5).setCell ⟨w.heap.size, 6, none⟩ a6).setCell ⟨w.heap.size, 7, none⟩ a7).setCell ⟨w.heap.size, 8, none⟩ a8).setCell ⟨w.heap.size, 9, none⟩ a9).setCell ⟨w.heap.size, 10, none⟩ a10).cell? ⟨w.heap.size, 0, none⟩ = some a0 ∧ (((((((((((w'.setCell ⟨w.heap.size, 0, none⟩ a0).setCell ⟨w.heap.size, 1, none⟩ a1).setCell ⟨w.heap.size, 2, none⟩ a2).setCell ⟨w.heap.size, 3, none⟩ a3).setCell ⟨w.heap.size, 4, none⟩ a4).setCell ⟨w.heap.size, 5, none⟩ a5).setCell ⟨w.heap.size, 6, none⟩ a6).setCell ⟨w.heap.size, 7, none⟩ a7).setCell ⟨w.heap.size, 8, none⟩ a8).setCell ⟨w.heap.size, 9, none⟩ a9).setCell ⟨w.heap.size, 10, none⟩ a10).cell? ⟨w.heap.size, 1, none⟩ = some a1 ∧ (((((((((((w'.setCell ⟨w.heap.size, 0, none⟩ a0).setCell ⟨w.heap.size, 1, none⟩ a1).setCell ⟨w.heap.size, 2, none⟩ a2).setCell ⟨w.heap.size, 3, none⟩ a3).setCell ⟨w.heap.size, 4, none⟩ a4).setCell ⟨w.heap.size, 5, none⟩ a5).setCell ⟨w.heap.size, 6, none⟩ a6).setCell ⟨w.heap.size, 7, none⟩ a7).setCell ⟨w.heap.size, 8, none⟩ a8).setCell ⟨w.heap.size, 9, none⟩ a9).setCell ⟨w.heap.size, 10, none⟩ a10).cell? ⟨w.heap.size, 2, none⟩ = some a2 ∧ (((((((((((w'.setCell ⟨w.heap.size, 0, none⟩ a0).setCell ⟨w.heap.size, 1, none⟩ a1).setCell ⟨w.heap.size, 2, none⟩ a2).setCell ⟨w.heap.size, 3, none⟩ a3).setCell ⟨w.heap.size, 4, none⟩ a4).setCell ⟨w.heap.size, 5, none⟩ a5).setCell ⟨w.heap.size, 6, none⟩ a6).setCell ⟨w.heap.size, 7, none⟩ a7).setCell ⟨w.heap.size, 8, none⟩ a8).setCell ⟨w.heap.size, 9, none⟩ a9).setCell ⟨w.heap.size, 10, none⟩ a10).cell? ⟨w.heap.size, 3, none⟩ = some a3 ∧ (((((((((((w'.setCell ⟨w.heap.size, 0, none⟩ a0).setCell ⟨w.heap.size, 1, none⟩ a1).setCell ⟨w.heap.size, 2, none⟩ a2).setCell ⟨w.heap.size, 3, none⟩ a3).setCell ⟨w.heap.size, 4, none⟩ a4).setCell ⟨w.heap.size, 5, none⟩ a5).setCell ⟨w.heap.size, 6, none⟩ a6).setCell ⟨w.heap.size, 7, none⟩ a7).setCell ⟨w.heap.size, 8, none⟩ a8).setCell ⟨w.heap.size, 9, none⟩ a9).setCell ⟨w.heap.size, 10, none⟩ a10).cell? ⟨w.heap.size, 4, none⟩ = some a4 ∧ (((((((((((w'.setCell ⟨w.heap.size, 0, none⟩ a0).setCell ⟨w.heap.size, 1, none⟩ a1).setCell ⟨w.heap.size, 2, none⟩ a2).setCell ⟨w.heap.size, 3, none⟩ a3).setCell ⟨w.heap.size, 4, none⟩ a4).setCell ⟨w.heap.size, 5, none⟩ a5).setCell ⟨w.heap.size, 6, none⟩ a6).setCell ⟨w.heap.size, 7, none⟩ a7).setCell ⟨w.heap.size, 8, none⟩ a8).setCell ⟨w.heap.size, 9, none⟩ a9).setCell ⟨w.heap.size, 10, none⟩ a10).cell? ⟨w.heap.size, 5, none⟩ = some a5 ∧ (((((((((((w'.setCell ⟨w.heap.size, 0, none⟩ a0).setCell ⟨w.heap.size, 1, none⟩ a1).setCell ⟨w.heap.size, 2, none⟩ a2).setCell ⟨w.heap.size, 3, none⟩ a3).setCell ⟨w.heap.size, 4, none⟩ a4).setCell ⟨w.heap.size, 5, none⟩ a5).setCell ⟨w.heap.size, 6, none⟩ a6).setCell ⟨w.heap.size, 7, none⟩ a7).setCell ⟨w.heap.size, 8, none⟩ a8).setCell ⟨w.heap.size, 9, none⟩ a9).setCell ⟨w.heap.size, 10, none⟩ a10).cell? ⟨w.heap.size, 6, none⟩ = some a6 ∧ (((((((((((w'.setCell ⟨w.heap.size, 0, none⟩ a0).setCell ⟨w.heap.size, 1, none⟩ a1).setCell ⟨w.heap.size, 2, none⟩ a2).setCell ⟨w.heap.size, 3, none⟩ a3).setCell ⟨w.heap.size, 4, none⟩ a4).setCell ⟨w.heap.size, 5, none⟩ a5).setCell ⟨w.heap.size, 6, none⟩ a6).setCell ⟨w.heap.size, 7, none⟩ a7).setCell ⟨w.heap.size, 8, none⟩ a8).setCell ⟨w.heap.size, 9, none⟩ a9).setCell ⟨w.heap.size, 10, none⟩ a10).cell? ⟨w.heap.size, 7, none⟩ = some a7 ∧ (((((((((((w'.setCell ⟨w.heap.size, 0, none⟩ a0).setCell ⟨w.heap.size, 1, none⟩ a1).setCell ⟨w.heap.size, 2, none⟩ a2).setCell ⟨w.heap.size, 3, none⟩ a3).setCell ⟨w.heap.size, 4, none⟩ a4).setCell ⟨w.heap.size, 5, none⟩ a5).setCell ⟨w.heap.size, 6, none⟩ a6).setCell ⟨w.heap.size, 7, none⟩ a7).setCell ⟨w.heap.size, 8, none⟩ a8).setCell ⟨w.heap.size, 9, none⟩ a9).setCell ⟨w.heap.size, 10, none⟩ a10).cell? ⟨w.heap.size, 8, none⟩ = some a8 ∧ (((((((((((w'.setCell ⟨w.heap.size, 0, none⟩ a0).setCell ⟨w.heap.size, 1, none⟩ a1).setCell ⟨w.heap.size, 2, none⟩ a2).setCell ⟨w.heap.size, 3, none⟩ a3).setCell ⟨w.heap.size, 4, none⟩ a4).setCell ⟨w.heap.size, 5, none⟩ a5).setCell ⟨w.heap.size, 6, none⟩ a6).setCell ⟨w.heap.size, 7, none⟩ a7).setCell ⟨w.heap.size, 8, none⟩ a8).setCell ⟨w.heap.size, 9, none⟩ a9).setCell ⟨w.heap.size, 10, none⟩ a10).cell? ⟨w.heap.size, 9, none⟩ = some a9 ∧ (((((((((((w'.setCell ⟨w.heap.size, 0, none⟩ a0).setCell ⟨w.heap.size, 1, none⟩ a1).setCell ⟨w.heap.size, 2, none⟩ a2).setCell ⟨w.heap.size, 3, none⟩ a3).setCell ⟨w.heap.size, 4, none⟩ a4).setCell ⟨w.heap.size, 5, none⟩ a5).setCell ⟨w.heap.size, 6, none⟩ a6).setCell ⟨w.heap.size, 7, none⟩ a7).setCell ⟨w.heap.size, 8, none⟩ a8).setCell ⟨w.heap.size, 9, none⟩ a9).setCell ⟨w.heap.size, 10, none⟩ a10).cell? ⟨w.heap.size, 10, none⟩ = some a10) := Lib.hid (fun w' a0 a1 a2 a3 a4 a5 a6 a7 a8 a9 a10 h => by
    obtain ⟨⟨q0, q1, q2, q3, q4, q5, q6, q7, q8, q9, q10, q11, q12, q13, q14, q15⟩, -⟩ := HS.out w' h; obtain ⟨⟨⟨x0, r0⟩, ⟨x1, r1⟩, ⟨x2, r2⟩, ⟨x3, r3⟩, ⟨x4, r4⟩, ⟨x5, r5⟩, ⟨x6, r6⟩, ⟨x7, r7⟩, ⟨x8, r8⟩, ⟨x9, r9⟩, ⟨x10, r10⟩⟩, hf⟩ := HB0.out w' h
    have hA := setL_at (R := w.heap.size) [a0, a1, a2, a3, a4, a5, a6, a7, a8, a9, a10] 0 w' (fun i hi => by
      simp only [List.length_cons, List.length_nil] at hi; rcases i with _ | _ | _ | _ | _ | _ | _ | _ | _ | _ | _ | i
      · exact ⟨_, r0⟩
      · exact ⟨_, r1⟩
      · exact ⟨_, r2⟩
      · exact ⟨_, r3⟩
      · exact ⟨_, r4⟩
      · exact ⟨_, r5⟩
      · exact ⟨_, r6⟩
      · exact ⟨_, r7⟩
      · exact ⟨_, r8⟩
      · exact ⟨_, r9⟩
      · exact ⟨_, r10⟩
      · omega)
    exact ⟨hA 0 _ rfl, hA 1 _ rfl, hA 2 _ rfl, hA 3 _ rfl, hA 4 _ rfl, hA 5 _ rfl, hA 6 _ rfl, hA 7 _ rfl, hA 8 _ rfl, hA 9 _ rfl, hA 10 _ rfl⟩)
  go_region_held3 (fun w' => (w'.cell? ⟨w.heap.size + 1, 0, none⟩ = some (.int .i64 0) ∧ w'.cell? ⟨w.heap.size + 1, 1, none⟩ = some (.int .i64 100) ∧ w'.cell? ⟨w.heap.size + 1, 2, none⟩ = some (.int .i64 0) ∧ w'.cell? ⟨w.heap.size + 1, 3, none⟩ = some (.int .i64 0) ∧ w'.cell? ⟨w.heap.size + 1 + 1, 0, none⟩ = some (.int .i64 0) ∧ w'.cell? ⟨w.heap.size + 1 + 1, 1, none⟩ = some (.int .i64 0) ∧ w'.cell? ⟨w.heap.size + 1 + 1, 2, none⟩ = some (.int .i64 0) ∧ w'.cell? ⟨w.heap.size + 1 + 1, 3, none⟩ = some (.int .i64 0) ∧ w'.cell? ⟨w.heap.size + 1 + 1, 4, none⟩ = some (.int .i64 1) ∧ w'.cell? ⟨w.heap.size + 1 + 1, 5, none⟩ = some (.int .i64 0) ∧ w'.cell? ⟨w.heap.size + 1 + 1, 6, none⟩ = some (.int .i64 4) ∧ w'.cell? ⟨w.heap.size + 1 + 1, 7, none⟩ = some (.int .i64 5) ∧ w'.cell? ⟨w.heap.size + 1 + 1 + 1, 0, none⟩ = some (.int .i64 9) ∧ w'.cell? ⟨w.heap.size + 1 + 1 + 1, 1, none⟩ = some (.int .i64 2) ∧ w'.cell? ⟨w.heap.size + 1 + 1 + 1, 2, none⟩ = some (.slice (some ⟨w.heap.size + 1, 0, none⟩) 1 1) ∧ w'.cell? ⟨w.heap.size + 1 + 1 + 1, 3, none⟩ = some (.slice (some ⟨w.heap.size + 1 + 1, 0, none⟩) 1 1)) ∧ (w'.cell? ⟨w.heap.size, 0, none⟩ = some (curV w' ⟨w.heap.size, 0, none⟩) ∧ w'.cell? ⟨w.heap.size, 1, none⟩ = some (curV w' ⟨w.heap.size, 1, none⟩) ∧ w'.cell? ⟨w.heap.size, 2, none⟩ = some (curV w' ⟨w.heap.size, 2, none⟩) ∧ w'.cell? ⟨w.heap.size, 3, none⟩ = some (curV w' ⟨w.heap.size, 3, none⟩) ∧ w'.cell? ⟨w.heap.size, 4, none⟩ = some (curV w' ⟨w.heap.size, 4, none⟩) ∧ w'.cell? ⟨w.heap.size, 5, none⟩ = some (curV w' ⟨w.heap.size, 5, none⟩) ∧ w'.cell? ⟨w.heap.size, 6, none⟩ = some (curV w' ⟨w.heap.size, 6, none⟩) ∧ w'.cell? ⟨w.heap.size, 7, none⟩ = some (curV w' ⟨w.heap.size, 7, none⟩) ∧ w'.cell? ⟨w.heap.size, 8, none⟩ = some (curV w' ⟨w.heap.size, 8, none⟩) ∧ w'.cell? ⟨w.heap.size, 9, none⟩ = some (curV w' ⟨w.heap.size, 9, none⟩) ∧ w'.cell? ⟨w.heap.size, 10, none⟩ = some (curV w' ⟨w.heap.size, 10, none⟩) ∧ ∀ o, w'.frozen? ⟨w.heap.size, o, none⟩ = false) ∧ Ext w w')
    (first | (refine HSS.out _ ?_; ((repeat (first | exact Ext.refl _ | with_reducible (first | assumption | refine Ext.drew ?_ | refine Ext.alloc ?_ _ | refine Ext.drewN ?_ _ | refine Ext.setCell ?_ (by omega) _ | refine Ext.trans ?_ (by assumption)))); done)) | (refine HST.out _ _ _ _ _ _ _ _ _ _ _ _ ?_; ((repeat (first | exact Ext.refl _ | with_reducible (first | assumption | refine Ext.drew ?_ | refine Ext.alloc ?_ _ | refine Ext.drewN ?_ _ | refine Ext.setCell ?_ (by omega) _ | refine Ext.trans ?_ (by assumption)))); done)))
    (first
      | (go_at_call 60; (with_reducible refine (HB.out _ _ _).mono ?_); rintro e wn ⟨rfl, hxn⟩))
  have hzn : w.heap.size < wn.heap.size := by have := HSz; have := Ext.size (show Ext W wn by (repeat (first | exact Ext.refl _ | with_reducible (first | assumption | refine Ext.drew ?_ | refine Ext.alloc ?_ _ | refine Ext.drewN ?_ _ | refine Ext.setCell ?_ (by omega) _ | refine Ext.trans ?_ (by assumption))))); omega
  have XV : Ext W (wn.alloc (.cells #[.int .i64 0, .int .i64 0, .int .i64 0, .int .i64 60, .int .i64 9, .int .i64 1, .int .i64 1, .int .i64 1, .int .i64 0, .int .i64 0, .int .i64 90, .int .i64 9, .int .i64 3, .int .i64 5, .int .i64 1, .int .i64 1, .int .i64 0, .int .i64 50, .int .i64 9, .int .i64 0, .int .i64 0] 127)) := by (repeat (first | exact Ext.refl _ | with_reducible (first | assumption | refine Ext.drew ?_ | refine Ext.alloc ?_ _ | refine Ext.drewN ?_ _ | refine Ext.setCell ?_ (by omega) _ | refine Ext.trans ?_ (by assumption))))
  have CV : ∀ j v, ([.int .i64 0, .int .i64 0, .int .i64 0, .int .i64 60, .int .i64 9, .int .i64 1, .int .i64 1, .int .i64 1, .int .i64 0, .int .i64 0, .int .i64 90, .int .i64 9, .int .i64 3, .int .i64 5, .int .i64 1, .int .i64 1, .int .i64 0, .int .i64 50, .int .i64 9, .int .i64 0, .int .i64 0] : List Value)[j]? = some v → (wn.alloc (.cells #[.int .i64 0, .int .i64 0, .int .i64 0, .int .i64 60, .int .i64 9, .int .i64 1, .int .i64 1, .int .i64 1, .int .i64 0, .int .i64 0, .int .i64 90, .int .i64 9, .int .i64 3, .int .i64 5, .int .i64 1, .int .i64 1, .int .i64 0, .int .i64 50, .int .i64 9, .int .i64 0, .int .i64 0] 127)).cell? ⟨wn.heap.size, j, none⟩ = some v := cells_l (Ext.refl _) rfl rfl; generalize (wn.alloc (.cells #[.int .i64 0, .int .i64 0, .int .i64 0, .int .i64 60, .int .i64 9, .int .i64 1, .int .i64 1, .int .i64 1, .int .i64 0, .int .i64 0, .int .i64 90, .int .i64 9, .int .i64 3, .int .i64 5, .int .i64 1, .int .i64 1, .int .i64 0, .int .i64 50, .int .i64 9, .int .i64 0, .int .i64 0] 127)) = V at *; have TT := HST.out V (.int .i64 9) (.int .i64 2) (.slice (some ⟨w.heap.size + 1, 0, none⟩) 1 1) (.slice (some ⟨w.heap.size + 1 + 1, 0, none⟩) 1 1) (.int .i64 2) (.int .i64 4) (.int .i64 0) (.slice (some ⟨wn.heap.size, 0, none⟩) 3 3) (.int .i64 40) (.int .i64 50) (.slice a4 n4 c4) XV; have RR := HRT.out V (.int .i64 9) (.int .i64 2) (.slice (some ⟨w.heap.size + 1, 0, none⟩) 1 1) (.slice (some ⟨w.heap.size + 1 + 1, 0, none⟩) 1 1) (.int .i64 2) (.int .i64 4) (.int .i64 0) (.slice (some ⟨wn.heap.size, 0, none⟩) 3 3) (.int .i64 40) (.int .i64 50) (.slice a4 n4 c4) XV; have CW : ∀ j v, ([.int .i64 0, .int .i64 0, .int .i64 0, .int .i64 60, .int .i64 9, .int .i64 1, .int .i64 1, .int .i64 1, .int .i64 0, .int .i64 0, .int .i64 90, .int .i64 9, .int .i64 3, .int .i64 5, .int .i64 1, .int .i64 1, .int .i64 0, .int .i64 50, .int .i64 9, .int .i64 0, .int .i64 0] : List Value)[j]? = some v → (((((((((((V.setCell ⟨w.heap.size, 0, none⟩ (.int .i64 9)).setCell ⟨w.heap.size, 1, none⟩ (.int .i64 2)).setCell ⟨w.heap.size, 2, none⟩ (.slice (some ⟨w.heap.size + 1, 0, none⟩) 1 1)).setCell ⟨w.heap.size, 3, none⟩ (.slice (some ⟨w.heap.size + 1 + 1, 0, none⟩) 1 1)).setCell ⟨w.heap.size, 4, none⟩ (.int .i64 2)).setCell ⟨w.heap.size, 5, none⟩ (.int .i64 4)).setCell ⟨w.heap.size, 6, none⟩ (.int .i64 0)).setCell ⟨w.heap.size, 7, none⟩ (.slice (some ⟨wn.heap.size, 0, none⟩) 3 3)).setCell ⟨w.heap.size, 8, none⟩ (.int .i64 40)).setCell ⟨w.heap.size, 9, none⟩ (.int .i64 50)).setCell ⟨w.heap.size, 10, none⟩ (.slice a4 n4 c4)).cell? ⟨wn.heap.size, j, none⟩ = some v := fun j v e => setL_ne (b := wn.heap.size) (R := w.heap.size) (by omega) [.int .i64 9, .int .i64 2, .slice (some ⟨w.heap.size + 1, 0, none⟩) 1 1, .slice (some ⟨w.heap.size + 1 + 1, 0, none⟩) 1 1, .int .i64 2, .int .i64 4, .int .i64 0, .slice (some ⟨wn.heap.size, 0, none⟩) 3 3, .int .i64 40, .int .i64 50, .slice a4 n4 c4] 0 V (CV j v e)
  clear HSS HST HRT; (go_wp2_with fail); generalize (((((((((((V.setCell ⟨w.heap.size, 0, none⟩ (.int .i64 9)).setCell ⟨w.heap.size, 1, none⟩ (.int .i64 2)).setCell ⟨w.heap.size, 2, none⟩ (.slice (some ⟨w.heap.size + 1, 0, none⟩) 1 1)).setCell ⟨w.heap.size, 3, none⟩ (.slice (some ⟨w.heap.size + 1 + 1, 0, none⟩) 1 1)).setCell ⟨w.heap.size, 4, none⟩ (.int .i64 2)).setCell ⟨w.heap.size, 5, none⟩ (.int .i64 4)).setCell ⟨w.heap.size, 6, none⟩ (.int .i64 0)).setCell ⟨w.heap.size, 7, none⟩ (.slice (some ⟨wn.heap.size, 0, none⟩) 3 3)).setCell ⟨w.heap.size, 8, none⟩ (.int .i64 40)).setCell ⟨w.heap.size, 9, none⟩ (.int .i64 50)).setCell ⟨w.heap.size, 10, none⟩ (.slice a4 n4 c4)) = WF at *; obtain ⟨r0, r1, r2, r3, r4, r5, r6, r7, r8, r9, r10⟩ := RR; obtain ⟨⟨p0, p1, p2, p3, e0, e1, e2, e3, e4, e5, e6, e7, -, -, -, -⟩, -, XF⟩ := TT; refine bodyPost_ret (v := .agg #[.int .i64 9, .int .i64 2, .slice (some ⟨w.heap.size + 1, 0, none⟩) 1 1, .slice (some ⟨w.heap.size + 1 + 1, 0, none⟩) 1 1, .int .i64 2, .int .i64 4, .int .i64 0, .slice (some ⟨wn.heap.size, 0, none⟩) 3 3, .int .i64 40, .int .i64 50, .slice a4 n4 c4]) (by simp [results, Tryz.results57, go_sem, r0, r1, r2, r3, r4, r5, r6, r7, r8, r9, r10]) rfl ⟨⟨some ⟨w.heap.size + 1, 0, none⟩, 1, some ⟨w.heap.size + 1 + 1, 0, none⟩, 1, some ⟨wn.heap.size, 0, none⟩, 3, a4, c4⟩, ?_, ?_, XF⟩
  · show Ending.returned _ = _
    rw [HN.out]; rfl
  · refine ⟨Cells4.of (fun i hi => ?_), Cells8.of (fun i hi => ?_), Cells7.of (fun i hi => ?_), HC.out.ext XF, ⟨by simp, by simp⟩, ⟨by simp, by simp⟩, ⟨by simp, by simp⟩, ⟨by simpa [HN.out] using l1, by simpa [HN.out] using l2⟩⟩
    · obtain rfl : i = 0 := by simp at hi; omega
      exact ⟨p0, p1, p2, p3⟩
    · obtain rfl : i = 0 := by simp at hi; omega
      exact ⟨e0, e1, e2, e3, e4, e5, e6, e7⟩
    · simp at hi
      rcases i with _ | _ | _ | i
      · exact ⟨CW 0 _ rfl, CW 1 _ rfl, CW 2 _ rfl, CW 3 _ rfl, CW 4 _ rfl, CW 5 _ rfl, CW 6 _ rfl⟩
      · exact ⟨CW 7 _ rfl, CW 8 _ rfl, CW 9 _ rfl, CW 10 _ rfl, CW 11 _ rfl, CW 12 _ rfl, CW 13 _ rfl⟩
      · exact ⟨CW 14 _ rfl, CW 15 _ rfl, CW 16 _ rfl, CW 17 _ rfl, CW 18 _ rfl, CW 19 _ rfl, CW 20 _ rfl⟩
      · omega
end Go.Proofs.YtegkdnfeceomdaaGreat
/- Contracts of layer 8's law: copies of lists, whether two lists are equal; the reference's settlement. Printed by gen_he.py. -/
namespace Go.Proofs.YtegkdnfeceomdaaGreat
open Go.RowKit Go.Hs
attribute [local irreducible] World.setCell World.alloc
set_option maxRecDepth 100000 in
theorem list8 (v : Value) (xs : List Int) (w : World) (hv : IntsV w v xs) (hl : xs.length ≤ 1000) :
    Calls Tryz.prog 20 #[v] w fun e w' => ∃ v', e = .returned v' ∧ w'.ownsRow w.heap.size 3 1 v' xs.length (xs.map (.int .i64)) ∧ Ext w w' := by
  obtain ⟨a, c, rfl, h1, h2, hr⟩ := hv; obtain ⟨i0, hi, hz0, hz1, hz2⟩ := info_parts info_int; by_cases h0 : xs = []
  · subst h0; go_enter Tryz.func20, Tryz.ntmps20
    go_wp2_with (at_builtin; refine wpList_append_none rfl _ _ 22 rfl 3 i0 Tryz.underlying22 hi _ _ _ _ _ (Nat.le_refl _) rfl rfl ?_)
    go_ret; exact ⟨_, rfl, World.ownsRow_nil _ _ _ _, by (repeat (first | exact Ext.refl _ | with_reducible (first | assumption | refine Ext.drew ?_ | refine Ext.alloc ?_ _ | refine Ext.drewN ?_ _ | refine Ext.setCell ?_ (by omega) _ | refine Ext.trans ?_ (by assumption))))⟩
  · have hpos : 0 < xs.length := List.length_pos_iff.2 h0; obtain ⟨b, off, rfl, hc⟩ := hr 0 hpos; have HR := Lib.hid hr; have H0 := Lib.hid h0; clear hr h0 hc; go_enter Tryz.func20, Tryz.ntmps20
    go_wp2_with (at_builtin; refine wpList_append_own_at _ rfl _ _ 22 rfl w.heap.size 3 i0 (.int .i64 0) 1 8 Tryz.underlying22 hi hz0 hz1 hz2 rfl (by decide) (.slice none 0 0) 0 [] rfl ?own ⟨b, off, none⟩ xs.length c (xs.map (.int .i64)) rfl ?len ?cells ?one ?fit1 ?fit2 ?fit3 ?next)
    case own => exact World.ownsRow_nil _ _ _ _
    case len => simp
    case cells =>
      intro j u hj
      have hj' : j < xs.length := by
        rcases Nat.lt_or_ge j xs.length with h | h
        · exact h
        · rw [List.getElem?_eq_none (by simpa using h)] at hj; cases hj
      have := (Rows.at HR.out j hj').1; rw [add_none']; simp [hj'] at hj
      rw [← hj]; simpa using this
    case one =>
      intro u hu
      obtain ⟨x, -, rfl⟩ := List.mem_map.1 hu; rfl
    case fit1 => simp only [maxLen]; omega
    case fit2 => omega
    case fit3 => simp
    case next =>
      intro v' w' hown hgrow hnil hat
      have hx : Ext w w' := grown_ext (Ext.refl w) hgrow (fun g hg => by simp [Value.ownBlock] at hg); have OWN : Hid (w'.ownsRow w.heap.size 3 1 v' xs.length (xs.map (.int .i64))) := Lib.hid (by simpa using hown); rcases own_open hown with ⟨-, h0⟩ | ⟨g, cap, rfl, hB, hlt, hcap, hcells⟩
      · omega
      · clear hnil hat hown hgrow; (go_wp2_with fail); go_ret; exact ⟨_, rfl, OWN.out, hx⟩
theorem ints_ne {a b : List Int} {i : Nat} (ha : i < a.length) (h : a.getD i 0 ≠ b.getD i 0) : a ≠ b := fun e => h (by rw [e])
theorem ints_eq {a b : List Int} (hl : a.length = b.length) (h : ∀ j, j < a.length → a.getD j 0 = b.getD j 0) : a = b := by
  refine List.ext_getElem hl (fun i h1 h2 => ?_)
  have := h i h1; simpa [h1, h2] using this
set_option maxRecDepth 100000 in
set_option maxHeartbeats 2000000 in
theorem ints8 (v u : Value) (a b : List Int) (w : World) (hv : IntsV w v a) (hu : IntsV w u b) (ha : a.length ≤ 1000) (_ : b.length ≤ 1000) :
    Calls Tryz.prog 22 #[v, u] w fun e w' => e = .returned (.bool (decide (a = b))) ∧ Ext w w' := by
  obtain ⟨p, c, rfl, h1, hr⟩ := hv.cellsI; obtain ⟨q, d, rfl, h2, hs⟩ := hu.cellsI; have HR := Lib.hid hr; have HS := Lib.hid hs; have HNL : Hid (a.length ≠ b.length → decide (a = b) = false) := Lib.hid (fun h => decide_eq_false (fun e => h (by rw [e]))); have HNE : Hid (∀ i, i < a.length → a.getD i 0 ≠ b.getD i 0 → decide (a = b) = false) := Lib.hid (fun i hi h => decide_eq_false (ints_ne hi h)); have HEQ : Hid (a.length = b.length → (∀ j, j < a.length → a.getD j 0 = b.getD j 0) → decide (a = b) = true) := Lib.hid (fun h1 h2 => decide_eq_true (ints_eq h1 h2)); clear hv hu hr hs; generalize decide (a = b) = res at *; by_cases hl : a.length = b.length
  · have HL := Lib.hid hl; have hd : ((a.length : Int) != (b.length : Int)) = false := by simp [hl]
    have HEQ' := Lib.hid (HEQ.out hl); clear HEQ HNL hl; go_enter Tryz.func22, Tryz.ntmps22
    (go_wp2_with fail); go_loopw [5] (fun s5 wr => ∃ i : Nat, i ≤ a.length ∧ s5 = .int .i64 i ∧ Hid (∀ j, j < i → a.getD j 0 = b.getD j 0) ∧ Ext w wr) (fun s _ => a.length - (intOf s).toNat)
    case atStart => exact ⟨0, Nat.zero_le _, rfl, Lib.hid (fun j hj => absurd hj (Nat.not_lt_zero _)), Ext.refl _⟩
    case round =>
      obtain ⟨i, hia, rfl, HI, hx⟩ := hrel; obtain ⟨wo, rfl⟩ : ∃ x, x = wr := ⟨_, rfl⟩; by_cases hla : i < a.length
      · have hlb : i < b.length := by have := HL.out; omega
        obtain ⟨b1, o1, rfl, q1⟩ := HR.out i hla; obtain ⟨b2, o2, rfl, q2⟩ := HS.out i hlb; replace q1 := hx.keep q1; replace q2 := hx.keep q2; have g0 : (0 : Int) ≤ (i : Int) := by omega
        have g1 : (i : Int) < (a.length : Int) := by omega
        have g2 : (i : Int) < (b.length : Int) := by omega
        by_cases he : a.getD i 0 = b.getD i 0
        · have HI2 : Hid (∀ j, j < i + 1 → a.getD j 0 = b.getD j 0) := Lib.hid (fun j hj => by
            rcases Nat.lt_or_ge j i with h | h
            · exact HI.out j h
            · obtain rfl : j = i := by omega
              exact he)
          generalize a.getD i 0 = x at *; generalize b.getD i 0 = y at *; have hd2 : (x != y) = false := by simp [he]
          clear he; (go_wp2_with fail); go_region; (go_wp2_with fail); go_roundw
          case rel => exact ⟨i + 1, by omega, by go_num, HI2, by (repeat (first | exact Ext.refl _ | with_reducible (first | assumption | refine Ext.drew ?_ | refine Ext.alloc ?_ _ | refine Ext.drewN ?_ _ | refine Ext.setCell ?_ (by omega) _ | refine Ext.trans ?_ (by assumption))))⟩
          case measure => simp [intOf]; omega
        · obtain rfl : res = false := HNE.out i hla he; generalize a.getD i 0 = x at *; generalize b.getD i 0 = y at *; have hd2 : (x != y) = true := by simp [he]
          clear HNE he; (go_wp2_with fail); go_region; (go_wp2_with fail); go_ret; exact ⟨rfl, by (repeat (first | exact Ext.refl _ | with_reducible (first | assumption | refine Ext.drew ?_ | refine Ext.alloc ?_ _ | refine Ext.drewN ?_ _ | refine Ext.setCell ?_ (by omega) _ | refine Ext.trans ?_ (by assumption))))⟩
      · obtain rfl : i = a.length := by omega
        obtain rfl : res = true := HEQ'.out HI.out; clear HNE HEQ'; (go_wp2_with fail); go_ret; exact ⟨rfl, hx⟩
  · obtain rfl : res = false := HNL.out hl; have hd : ((a.length : Int) != (b.length : Int)) = true := by simp; omega
    clear HNE HEQ HNL hl; go_enter Tryz.func22, Tryz.ntmps22
    (go_wp2_with fail); go_ret; exact ⟨rfl, by (repeat (first | exact Ext.refl _ | with_reducible (first | assumption | refine Ext.drew ?_ | refine Ext.alloc ?_ _ | refine Ext.drewN ?_ _ | refine Ext.setCell ?_ (by omega) _ | refine Ext.trans ?_ (by assumption))))⟩
theorem sumI_snoc (l : List Int) (x : Int) : sumI (l ++ [x]) = sumI l + x := by unfold sumI; rw [List.foldl_append]; rfl
theorem sumI_take {l : List Int} {i : Nat} (h : i < l.length) : sumI (l.take (i + 1)) = sumI (l.take i) + l.getD i 0 := by
  rw [List.take_succ_eq_append_getElem h, sumI_snoc]; simp [h]
theorem sumI_bd {l : List Int} (h : ∀ x ∈ l, 0 ≤ x ∧ x ≤ 5000) : 0 ≤ sumI l ∧ sumI l ≤ 5000 * (l.length : Int) := by
  induction l with
  | nil => simp [sumI]
  | cons x r ih =>
    rw [sumI_cons]; have h1 := h x (by simp); have h2 := ih (fun y hy => h y (by simp [hy])); simp only [List.length_cons]; omega
theorem settleGo_snoc (amount all : Int) : ∀ (l : List Int) (before paid : Int) (x : Int), paid = amount * before / all → settleGo amount all before paid (l ++ [x]) = settleGo amount all before paid l ++ [amount * (before + sumI l + x) / all - amount * (before + sumI l) / all]
  | [], before, paid, x, h => by simp [settleGo, sumI, h]
  | y :: r, before, paid, x, h => by
    rw [List.cons_append, settleGo, settleGo, settleGo_snoc amount all r (before + y) _ x rfl, sumI_cons, List.cons_append, Int.add_assoc before y]
theorem settle_step {amount all : Int} {l : List Int} {i : Nat} (h : i < l.length) : settleGo amount all 0 0 (l.take (i + 1)) = settleGo amount all 0 0 (l.take i) ++ [amount * (sumI (l.take (i + 1))) / all - amount * (sumI (l.take i)) / all] := by
  rw [List.take_succ_eq_append_getElem h, settleGo_snoc amount all _ 0 0 _ (by simp), ← List.take_succ_eq_append_getElem h, sumI_take h]; simp [h]
set_option maxRecDepth 100000 in
set_option maxHeartbeats 4000000 in
theorem Settle_h (amount : Int) (v : Value) (sums : List Int) (w : World) (hv : IntsV w v sums) (hm : 0 ≤ amount ∧ amount ≤ 1000) (hl : sums.length ≤ 3) (hs : ∀ x ∈ sums, 0 ≤ x ∧ x ≤ 5000) :
    Calls Tryz.prog 23 #[.int .i64 amount, v] w fun e w' => ∃ v', e = .returned v' ∧ w'.ownsRow w.heap.size 3 1 v' sums.length ((settleL amount sums).map (.int .i64)) ∧ Ext w w' := by
  obtain ⟨i0, hi0, hz0, hz1, hz2⟩ := info_parts info_int; have HV := Lib.hid hv; obtain ⟨p, c, rfl, h1, hr⟩ := hv.cellsI
  have HR : Hid (∀ W, Ext w W → ∀ i, i < sums.length → ∃ b off, p = some ⟨b, off, none⟩ ∧ W.cell? ⟨b, off + i, none⟩ = some (.int .i64 (sums.getD i 0))) := Lib.hid (fun W hx i hi => by
    obtain ⟨b, o, e, k⟩ := hr i hi; exact ⟨b, o, e, hx.keep k⟩)
  have hbd : ∀ i, 0 ≤ sumI (sums.take i) ∧ sumI (sums.take i) ≤ 15000 := fun i => by
    have := sumI_bd (l := sums.take i) (fun x hx => hs x (List.mem_of_mem_take hx)); have h2 := List.length_take_le i sums; have h3 := List.length_take_le' i sums; omega
  have HB := Lib.hid hbd; have HST : Hid (∀ i, i < sums.length → sumI (sums.take (i + 1)) = sumI (sums.take i) + sums.getD i 0) := Lib.hid (fun i hi => sumI_take hi); have HGO : Hid (∀ i, i < sums.length → settleGo amount (sumI sums) 0 0 (sums.take (i + 1)) = settleGo amount (sumI sums) 0 0 (sums.take i) ++ [amount * (sumI (sums.take (i + 1))) / (sumI sums) - amount * (sumI (sums.take i)) / (sumI sums)]) := Lib.hid (fun i hi => settle_step hi); have HSE : Hid (settleL amount sums = if sumI sums ≤ amount then sums else settleGo amount (sumI sums) 0 0 sums) := rfl; have HALL : Hid (sums.take sums.length = sums) := Lib.hid List.take_length; have HZ : Hid (sumI (sums.take 0) = 0 ∧ settleGo amount (sumI sums) 0 0 (sums.take 0) = []) := Lib.hid ⟨by simp [sumI], by simp [settleGo]⟩; clear hv hr hs hbd; generalize settleL amount sums = res at *; go_enter Tryz.func23, Tryz.ntmps23
  (go_wp2_with fail); go_loopw [5, 6] (fun s5 s6 wr => ∃ i : Nat, i ≤ sums.length ∧ s6 = .int .i64 i ∧ s5 = .int .i64 (sumI (sums.take i)) ∧ Ext w wr) (fun _ s _ => sums.length - (intOf s).toNat)
  case atStart => exact ⟨0, Nat.zero_le _, rfl, by rw [HZ.out.1], Ext.refl _⟩
  case round =>
    obtain ⟨i, hia, rfl, rfl, hx⟩ := hrel; obtain ⟨wo, rfl⟩ : ∃ x, x = wr := ⟨_, rfl⟩; by_cases hla : i < sums.length
    · obtain ⟨b1, o1, rfl, q1⟩ := HR.out wo hx i hla; have g0 : (0 : Int) ≤ (i : Int) := by omega
      have g1 : (i : Int) < (sums.length : Int) := by omega
      have HN := Lib.hid (HST.out i hla); have hb1 := HB.out i; have hb2 := HB.out (i + 1); rw [HN.out] at hb2; generalize sums.getD i 0 = x at *; generalize sumI (sums.take i) = sb at *; have hw : IntKind.i64.wrap (sb + x) = sb + x := IntWalk.i64_in _ (by omega); (go_wp2_with fail); go_roundw
      case rel => exact ⟨i + 1, by omega, by go_num, by rw [HN.out], hx⟩
      case measure => simp [intOf]; omega
    · obtain rfl : i = sums.length := by omega
      clear hla; have hb1 := HB.out sums.length; rw [HALL.out] at hb1 ⊢; by_cases hle : sumI sums ≤ amount
      · have hd : decide (sumI sums ≤ amount) = true := decide_eq_true hle; have HE : Hid (res = sums) := Lib.hid (by rw [HSE.out, if_pos hle]); have HVo := Lib.hid (HV.out.ext hx); have HXX := Lib.hid hx; clear HSE HGO HST hle HV; by_cases h0 : sums = []
        · subst h0; go_wp2_with (at_builtin; refine wpList_append_none rfl _ _ 22 rfl 3 i0 Tryz.underlying22 hi0 _ _ _ _ _ (Nat.le_refl _) rfl rfl ?_)
          go_ret; exact ⟨_, rfl, by rw [HE.out]; exact World.ownsRow_nil _ _ _ _, hx⟩
        · have hpos : 0 < sums.length := List.length_pos_iff.2 h0; obtain ⟨b, off, rfl, hc⟩ := HR.out wo hx 0 hpos; clear h0 hc; go_wp2_with (at_builtin; refine wpList_append_own_at _ rfl _ _ 22 rfl w.heap.size 3 i0 (.int .i64 0) 1 8 Tryz.underlying22 hi0 hz0 hz1 hz2 rfl (by decide) (.slice none 0 0) 0 [] rfl ?own ⟨b, off, none⟩ sums.length c (sums.map (.int .i64)) rfl ?len ?cells ?one ?fit1 ?fit2 ?fit3 ?next)
          case own => exact World.ownsRow_nil _ _ _ _
          case len => simp
          case cells =>
            intro j u hj
            have hj' : j < sums.length := by
              rcases Nat.lt_or_ge j sums.length with h | h
              · exact h
              · rw [List.getElem?_eq_none (by simpa using h)] at hj; cases hj
            obtain ⟨b2, o2, e2, k2⟩ := HR.out wo HXX.out j hj'; cases e2
            rw [add_none']; simp [hj'] at hj
            rw [← hj]; simpa [hj'] using k2
          case one =>
            intro u hu
            obtain ⟨x, -, rfl⟩ := List.mem_map.1 hu; rfl
          case fit1 => simp only [maxLen]; omega
          case fit2 => omega
          case fit3 => exact hx.size
          case next =>
            intro v' w' hown hgrow hnil hat
            have hx' : Ext w w' := grown_ext hx hgrow (fun g hg => by simp [Value.ownBlock] at hg); have OWN : Hid (w'.ownsRow w.heap.size 3 1 v' sums.length (sums.map (.int .i64))) := Lib.hid (by simpa using hown); rcases own_open hown with ⟨-, h0⟩ | ⟨g, cap, rfl, hB, hlt, hcap, hcells⟩
            · omega
            · clear hnil hat hown hgrow; (go_wp2_with fail); go_ret; exact ⟨_, rfl, by rw [HE.out]; exact OWN.out, hx'⟩
      · have hd : decide (sumI sums ≤ amount) = false := decide_eq_false hle; have HE : Hid (res = settleGo amount (sumI sums) 0 0 sums) := Lib.hid (by rw [HSE.out, if_neg hle])
        have hp : ∀ x, 0 ≤ x → x ≤ 15000 → 0 ≤ amount * x ∧ amount * x ≤ 15000000 := fun x h1 h2 => by
          have e1 : 0 * x ≤ amount * x := Int.mul_le_mul_of_nonneg_right hm.1 h1; have e2 : amount * x ≤ 1000 * x := Int.mul_le_mul_of_nonneg_right hm.2 h1; omega
        obtain ⟨al, hal⟩ : ∃ al, al = sumI sums := ⟨_, rfl⟩; rw [← hal] at hle hd HE HGO hb1 HZ ⊢; have hz : ¬ al = 0 := by omega
        have HQ : Hid (∀ i, (0 ≤ amount * sumI (sums.take i) ∧ amount * sumI (sums.take i) ≤ 15000000) ∧ (0 ≤ amount * sumI (sums.take i) / al ∧ amount * sumI (sums.take i) / al ≤ 15000000) ∧ (amount * sumI (sums.take i)).tdiv al = amount * sumI (sums.take i) / al) := Lib.hid (fun i => by
          have k1 := hp _ (HB.out i).1 (HB.out i).2; have e1 := Int.ediv_nonneg k1.1 (show 0 ≤ al by omega); have e2 := Int.ediv_le_self al k1.1; exact ⟨k1, ⟨e1, by omega⟩, Int.tdiv_eq_ediv_of_nonneg k1.1⟩)
        have HAL := Lib.hid hal; have HXX := Lib.hid hx; clear HSE hle hp hal hb1; (go_wp2_with fail); go_loopw [7, 8, 9, 10] (fun s7 s8 s9 s10 wr => ∃ (i m : Nat) (a5 : Option Addr) (cq : Nat), i ≤ sums.length ∧ m = i ∧ s10 = .int .i64 i ∧ s8 = .int .i64 (sumI (sums.take i)) ∧ s9 = .int .i64 (amount * sumI (sums.take i) / al) ∧ s7 = .slice a5 m cq ∧ Hid (wr.ownsRow w.heap.size 3 1 (.slice a5 m cq) m ((settleGo amount al 0 0 (sums.take i)).map (.int .i64))) ∧ Ext w wr) (fun _ _ _ s _ => sums.length - (intOf s).toNat)
        case atStart => exact ⟨0, 0, none, 0, Nat.zero_le _, rfl, rfl, by rw [HZ.out.1], by rw [HZ.out.1, Int.mul_zero, Int.zero_ediv], rfl, Lib.hid (by rw [HZ.out.2]; exact World.ownsRow_nil _ _ _ _), hx⟩
        case round =>
          obtain ⟨i, m, a5, cq, hia, hmi, rfl, rfl, rfl, rfl, HO, hx⟩ := hrel; obtain ⟨wo, rfl⟩ : ∃ x, x = wr := ⟨_, rfl⟩; by_cases hla : i < sums.length
          · obtain ⟨b1, o1, rfl, q1⟩ := HR.out wo hx i hla; have g0 : (0 : Int) ≤ (i : Int) := by omega
            have g1 : (i : Int) < (sums.length : Int) := by omega
            have HN := Lib.hid (HST.out i hla); have hb2 := HB.out (i + 1); have hq1 := HQ.out i; have hq2 := HQ.out (i + 1); rw [HN.out] at hb2 hq2; have HGS : Hid ((settleGo amount al 0 0 (sums.take (i + 1))).map (Value.int .i64) = (settleGo amount al 0 0 (sums.take i)).map (.int .i64) ++ [.int .i64 (amount * (sumI (sums.take i) + sums.getD i 0) / al - amount * sumI (sums.take i) / al)]) := Lib.hid (by rw [HGO.out i hla, List.map_append, HN.out]; rfl); generalize sums.getD i 0 = x at *; generalize sumI (sums.take i) = sb at *; have w1 : IntKind.i64.wrap (sb + x) = sb + x := IntWalk.i64_in _ (by omega); have w2 : IntKind.i64.wrap (amount * (sb + x)) = amount * (sb + x) := IntWalk.i64_in _ (by omega); have t1 : (amount * (sb + x)).tdiv al = amount * (sb + x) / al := hq2.2.2; obtain ⟨y2, hy2⟩ : ∃ y, amount * (sb + x) / al = y := ⟨_, rfl⟩; rw [hy2] at hq2 HGS t1; generalize amount * sb / al = y1 at *; have w3 : IntKind.i64.wrap y2 = y2 := IntWalk.i64_in _ (by omega); have w4 : IntKind.i64.wrap (y2 - y1) = y2 - y1 := IntWalk.i64_in _ (by omega); have HM := Lib.hid hmi; have hml : m ≤ 1000 := by omega
            have hsz : w.heap.size ≤ wo.heap.size := hx.size; clear hmi hb2 hq1 hq2; go_wp2_with (at_builtin; refine wpList_append_own_at _ rfl _ _ 22 rfl w.heap.size 3 i0 (.int .i64 0) 1 8 Tryz.underlying22 hi0 hz0 hz1 hz2 rfl (by decide) (.slice a5 m cq) m ((settleGo amount al 0 0 (sums.take i)).map (.int .i64)) rfl ?own ⟨wo.heap.size, 0, none⟩ 1 1 [.int .i64 (y2 - y1)] rfl rfl (one_inN (Ext.refl _) rfl) ?one ?f1 ?f2 ?f3 ?next)
            case own => exact own_extR HO.out (by (repeat (first | exact Ext.refl _ | with_reducible (first | assumption | refine Ext.drew ?_ | refine Ext.alloc ?_ _ | refine Ext.drewN ?_ _ | refine Ext.setCell ?_ (by omega) _ | refine Ext.trans ?_ (by assumption)))))
            case one => intro u hu; simp only [List.mem_cons, List.not_mem_nil, or_false] at hu; rw [hu]; rfl
            case f1 => simp only [maxLen]; omega
            case f2 => omega
            case f3 => simp; omega
            case next =>
              intro v' w7 hown hgrow hnil hat
              have hx7 : Ext w w7 := grown_ext (hx.trans (by (repeat (first | exact Ext.refl _ | with_reducible (first | assumption | refine Ext.drew ?_ | refine Ext.alloc ?_ _ | refine Ext.drewN ?_ _ | refine Ext.setCell ?_ (by omega) _ | refine Ext.trans ?_ (by assumption)))))) hgrow (fun g hg => (own_lt HO.out hg).1); have HUR : Hid (w7.ownsRow w.heap.size 3 1 v' (m + 1) ((settleGo amount al 0 0 (sums.take (i + 1))).map (.int .i64))) := Lib.hid (by rw [HGS.out]; exact hown); rcases own_open hown with ⟨-, h0⟩ | ⟨g', cap, rfl, -, -, -, -⟩
              · omega
              · clear hnil hat hgrow hown; (go_wp2_with fail); go_roundw
                case rel => exact ⟨i + 1, m + 1, _, _, by omega, by rw [HM.out], by go_num, by rw [HN.out], by rw [HN.out, hy2], rfl, HUR, hx7⟩
                case measure => simp [intOf]; omega
          · obtain rfl : i = sums.length := by omega
            have HO2 : Hid (wo.ownsRow w.heap.size 3 1 (.slice a5 m cq) sums.length ((settleGo amount al 0 0 sums).map (.int .i64))) := Lib.hid (by have := HO.out; rw [HALL.out, hmi] at this; rw [hmi]; exact this); clear hmi HO; (go_wp2_with fail); go_ret; exact ⟨_, rfl, by rw [HE.out]; exact HO2.out, hx⟩
end Go.Proofs.YtegkdnfeceomdaaGreat
