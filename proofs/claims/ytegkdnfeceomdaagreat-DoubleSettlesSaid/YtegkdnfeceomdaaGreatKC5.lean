/- Bundled: what the texts JQ JS JR JT SA SE HA say one after another. -/
import Derived.Test.YtegkdnfeceomdaaGreatKC4
import Derived.Deep.MidRow
import Derived.RegionTactic
import Derived.Laws.IdiomCopy
import Derived.Deep.OwnRows
import Derived.Deep.AppendLies
import Derived.Test.YtegkdnfeceomdaaGreatKC1
import Derived.Test.YtegkdnfeceomdaaGreatKC3
set_option linter.unusedSimpArgs false
set_option linter.unusedVariables false
/- Contracts of layer 1: how all parcels are at the end of a day. Printed by gen_jq.py. -/
namespace Go.Hs
open Go.RowKit
section
variable {P : Program} {w : World} {ops : Array Oper} {rest : List Oper} {o : Oper} {a : Act} {Q : Exit → Act → World → Prop}
theorem step_load (hg : o.guard = none) (T : TypeId) (x : Operand) (hop : o.op = .load T x) (v p : Value) (hx : a.eval x = p) (hr : (Instr.loadAt T p).run P w = .ok v w)
    (h : wpList P ops Q rest (a.put o.dst v) w) : wpList P ops Q (o :: rest) a w :=
  wpList_plain hg fun K' hK' => by
    unfold Oper.wp; simp [execOp, hop, hx, hr, Result.andThen, Oper.upon]
    exact hK' _ _ h
theorem step_store (hg : o.guard = none) (T : TypeId) (x y : Operand) (hop : o.op = .store T x y) (p v : Value) (w' : World) (hx : a.eval x = p) (hy : a.eval y = v) (hr : (Instr.storeAt T p v).run P w = .ok () w')
    (h : wpList P ops Q rest (a.put o.dst undef) w') : wpList P ops Q (o :: rest) a w :=
  wpList_plain hg fun K' hK' => by
    unfold Oper.wp; simp [execOp, hop, hx, hy, hr, Result.andThen, Oper.upon]
    exact hK' _ _ h
end
theorem results_load2 {P : Program} {fn : Func} {p q : Tmp} {ty : TypeId} (h : fn.results = #[.cell p ty, .tmp q]) (tmps : Array Value) (w : World) (ad : Addr) (v u : Value) (hp : tmps.getD p undef = .pointer (some ad)) (hl : (loadVar ty ad).run P w = .ok v w) (hq : tmps.getD q undef = u) :
    (results fn tmps).run P w = .ok (.tuple #[v, u]) w := by
  have hp' : tmps[p]?.getD undef = .pointer (some ad) := by simpa using hp
  have hq' : tmps[q]?.getD undef = u := by simpa using hq
  simp [results, h, hp', hq', asAddr, hl]
def fdL (x : Hs.Fd) : List Value := [.bool x.there, .bool x.gone, .int .i64 x.owner, .int .i64 x.value, .int .i64 x.sown]
def fdsL (f : Fds) : List Value := (List.range 10).flatMap (fun i => fdL (f i))
theorem fdsL_len (f : Fds) : (fdsL f).length = 50 := by simp [fdsL, fdL]; decide
theorem fdsL_at (f : Fds) {i j : Nat} (hi : i < 10) (hj : j < 5) : (fdsL f)[i * 5 + j]? = (fdL (f i))[j]? := by
  have := flat_at (C := fun i => fdL (f i)) (k := 5) (fun _ => rfl) (List.range 10) i j (by simpa using hi) hj; simpa [fdsL] using this
theorem range_fds {w : World} {P o : Nat} {f : Fds} (h : ∀ i, i < 10 → FdAt w P (o + i * 5) (f i)) : w.rangeAt P o (fdsL f) := by
  intro j v hv
  have hj : j < 50 := by
    have := (List.getElem?_eq_some_iff.1 hv).1; rwa [fdsL_len] at this
  have hi : j / 5 < 10 := by omega
  have hr : j % 5 < 5 := by omega
  have ej : j = j / 5 * 5 + j % 5 := by omega
  rw [ej, fdsL_at f hi hr] at hv; obtain ⟨h0, h1, h2, h3, h4⟩ := h _ hi; have hc : j % 5 = 0 ∨ j % 5 = 1 ∨ j % 5 = 2 ∨ j % 5 = 3 ∨ j % 5 = 4 := by omega
  rcases hc with e | e | e | e | e
  all_goals
    rw [e] at ej hv; simp only [fdL, List.getElem?_cons_zero, List.getElem?_cons_succ, Option.some.injEq] at hv; subst hv
  · rw [show o + j = o + j / 5 * 5 by omega]; exact h0
  · rw [show o + j = o + j / 5 * 5 + 1 by omega]; exact h1
  · rw [show o + j = o + j / 5 * 5 + 2 by omega]; exact h2
  · rw [show o + j = o + j / 5 * 5 + 3 by omega]; exact h3
  · rw [show o + j = o + j / 5 * 5 + 4 by omega]; exact h4
theorem fdsL_one (f : Fds) : ∀ u ∈ fdsL f, u.oneCell' = true := by
  intro u hu
  obtain ⟨i, -, hu⟩ := List.mem_flatMap.1 hu; simp only [fdL, List.mem_cons, List.not_mem_nil, or_false] at hu; rcases hu with rfl | rfl | rfl | rfl | rfl <;> rfl
structure RowF (R : Nat) (f : Fds) (w : World) : Prop where
  c : w.rangeAt R 0 (fdsL f)
  fr : ∀ (o : Nat), w.frozen? ⟨R, o, none⟩ = false
theorem RowF.lt {R : Nat} {f : Fds} {w : World} (h : RowF R f w) : R < w.heap.size := by
  have := h.c 0 (.bool (f 0).there) rfl; exact lt_of_cell this
theorem RowF.kp {R : Nat} {f : Fds} {w W : World} {p : Nat → Prop} (h : RowF R f w) (k : KP p w W) (hR : ¬ p R) : RowF R f W := ⟨fun j v e => k.keep hR (h.c j v e), fun o => (k.frozen h.lt hR).trans (h.fr o)⟩
theorem RowF.there {R : Nat} {f : Fds} {w : World} (h : RowF R f w) : w.there R 0 50 := fun j hj => by
  have e : ∃ v, (fdsL f)[j]? = some v := ⟨(fdsL f)[j]'(by rw [fdsL_len]; exact hj), by simp⟩; obtain ⟨v, hv⟩ := e; exact ⟨by rw [h.c j v hv]; rfl, h.fr _⟩
theorem KP.setCells {p : Nat → Prop} {w : World} {R : Nat} (hR : p R) : ∀ (vs : List Value) (o : Nat) {W : World}, KP p w W → KP p w (W.setCells R o vs)
  | [], _, _, h => h
  | v :: vs, o, W, h => by
    rw [World.setCells]; exact KP.setCells hR vs (o + 1) (h.setCell hR v)
def atF (b : Bk) (days sown : List Int) (ou : Nat → Bool) (day d : Nat) : Fds := if day < d then (stateS b days sown ou (day + 1)).getD (fun _ => Fd.zero) else fun _ => Fd.zero
theorem dayS_skip {b : Bk} {days : List Int} {ou : Nat → Bool} {d i : Nat} {f g : Fds} (h : dayS b days ou d i f = some g) (hn : ¬ (days.getD i 0 = (d : Int) ∧ ou i = false)) : dayS b days ou d (i + 1) f = some g := by
  rw [dayS_next, h]; unfold stepS; rw [Option.bind_some, if_neg hn]
theorem dayS_do {b : Bk} {days : List Int} {ou : Nat → Bool} {d i : Nat} {f g : Fds} (h : dayS b days ou d i f = some g) (h1 : days.getD i 0 = (d : Int)) (h2 : ou i = false) : dayS b days ou d (i + 1) f = happenS b i d g := by
  rw [dayS_next, h]; unfold stepS; rw [Option.bind_some, if_pos ⟨h1, h2⟩]
theorem state_next {b : Bk} {days sown : List Int} {ou : Nat → Bool} {d : Nat} {f g : Fds} (h : stateS b days sown ou d = some f) (k : dayS b days ou d b.ents.length f = some g) : stateS b days sown ou (d + 1) = some g := by
  simp only [stateS, h, Option.bind_some, k]
theorem play_none {b : Bk} {days sown : List Int} {ou : Nat → Bool} {d i day : Nat} {f : Fds} (h : stateS b days sown ou d = some f) (k : dayS b days ou d (i + 1) f = none) (hi : i < b.ents.length) (hd : d < b.last.toNat + 1) : playB b days sown day ou = none := by
  have h1 : dayS b days ou d b.ents.length f = none := by
    have := dayS_none k (b.ents.length - (i + 1)); rwa [show i + 1 + (b.ents.length - (i + 1)) = b.ents.length by omega] at this
  have h2 : stateS b days sown ou (d + 1) = none := by simp only [stateS, h, Option.bind_some, h1]
  have h3 := stateS_none h2 (b.last.toNat + 1 - (d + 1)); rw [show d + 1 + (b.last.toNat + 1 - (d + 1)) = b.last.toNat + 1 by omega] at h3; unfold playB; rw [h3]; rfl
theorem play_some {b : Bk} {days sown : List Int} {ou : Nat → Bool} {day : Nat} {f : Fds} (h : stateS b days sown ou (b.last.toNat + 1) = some f) (hd : day < b.last.toNat + 1) : playB b days sown day ou = some (atF b days sown ou day (b.last.toNat + 1)) := by
  unfold playB atF; rw [h, Option.bind_some, if_pos hd]; cases e : stateS b days sown ou (day + 1) with
  | some g => rfl
  | none =>
    have h3 := stateS_none e (b.last.toNat + 1 - (day + 1)); rw [show day + 1 + (b.last.toNat + 1 - (day + 1)) = b.last.toNat + 1 by omega, h] at h3; cases h3
theorem atF_here {b : Bk} {days sown : List Int} {ou : Nat → Bool} {d : Nat} {g : Fds} (h : stateS b days sown ou (d + 1) = some g) : atF b days sown ou d (d + 1) = g := by
  unfold atF; rw [if_pos (by omega), h]; rfl
theorem atF_else {b : Bk} {days sown : List Int} {ou : Nat → Bool} {day d : Nat} (h : d ≠ day) : atF b days sown ou day (d + 1) = atF b days sown ou day d := by
  unfold atF; by_cases l : day < d
  · rw [if_pos l, if_pos (by omega)]
  · rw [if_neg l, if_neg (by omega)]
theorem RowF.put {R : Nat} {f g : Fds} {w : World} (h : RowF R f w) : RowF R g (w.setCells R 0 (fdsL g)) :=
  ⟨World.rangeAt_setCells_same w R 0 (fdsL g) (by rw [fdsL_len]; exact h.there), fun o => by rw [World.frozen?_setCells]; exact h.fr o⟩
theorem KP.weak {p q : Nat → Prop} {w w' : World} (h : KP p w w') (hq : ∀ k, p k → q k) : KP q w w' := ⟨h.os, h.tape, h.output, h.size, fun k hk hn => h.block k hk (fun e => hn (hq k e))⟩
theorem lt_of_cell' {w : World} {b o : Nat} {v : Value} (h : w.cell? ⟨b, o, none⟩ = some v) : b < w.heap.size := lt_of_cell h
end Go.Hs
namespace Go.Proofs.YtegkdnfeceomdaaGreat
open Go.RowKit Go.Hs
attribute [local irreducible] World.setCell World.alloc
theorem size_fields : (Tryz.prog.info? 198).map (·.size) = some 50 := by kernel_rfl
theorem load_fields (R : Nat) (f : Fds) (W : World) (h : RowF R f W) : (Instr.loadAt 198 (.pointer (some ⟨R, 0, none⟩))).run Tryz.prog W = .ok (.agg (fdsL f).toArray) W :=
  run_loadAt_mid W _ _ 198 _ _ h.c Tryz.underlying198 rfl (by rw [fdsL_len]; exact size_fields)
theorem load_work (P : Nat) (c0 c1 c2 c3 : Value) (f : Fds) (W : World) (h : WkAt P c0 c1 c2 c3 f W) : (Instr.loadAt 198 (.pointer (some ⟨P, 4, none⟩))).run Tryz.prog W = .ok (.agg (fdsL f).toArray) W :=
  run_loadAt_mid W _ _ 198 _ _ (range_fds h.fd) Tryz.underlying198 rfl (by rw [fdsL_len]; exact size_fields)
theorem store_fields (R : Nat) (f g : Fds) (W : World) (h : RowF R f W) : (Instr.storeAt 198 (.pointer (some ⟨R, 0, none⟩)) (.agg (fdsL g).toArray)).run Tryz.prog W = .ok () (W.setCells R 0 (fdsL g)) := by
  have := run_storeAt_mid (P := Tryz.prog) W R 0 198 (fdsL g).toArray (by rw [List.size_toArray, fdsL_len]; exact h.there) (by rw [List.size_toArray, fdsL_len]; exact size_fields) (all_oneCell_toArray (fdsL_one g)); rw [this]
theorem loadVar_fields (R : Nat) (f : Fds) (W : World) (h : RowF R f W) : (loadVar 198 ⟨R, 0, none⟩).run Tryz.prog W = .ok (.agg (fdsL f).toArray) W :=
  run_loadVar_mid W _ _ 198 _ _ h.c Tryz.underlying198 rfl (by rw [fdsL_len]; exact size_fields)
theorem index_act0 (w : World) : (Instr.index 257 (.agg #[.func (.func 184) #[] #[], .func (.func 185) #[] #[], .func (.func 186) #[] #[], .func (.func 187) #[] #[]]) (.int .i64 0)).run Tryz.prog w = .ok (.agg #[.func (.func 184) #[] #[]]) w := by kernel_rfl
theorem index_act1 (w : World) : (Instr.index 257 (.agg #[.func (.func 184) #[] #[], .func (.func 185) #[] #[], .func (.func 186) #[] #[], .func (.func 187) #[] #[]]) (.int .i64 1)).run Tryz.prog w = .ok (.agg #[.func (.func 185) #[] #[]]) w := by kernel_rfl
theorem index_act2 (w : World) : (Instr.index 257 (.agg #[.func (.func 184) #[] #[], .func (.func 185) #[] #[], .func (.func 186) #[] #[], .func (.func 187) #[] #[]]) (.int .i64 2)).run Tryz.prog w = .ok (.agg #[.func (.func 186) #[] #[]]) w := by kernel_rfl
theorem index_act3 (w : World) : (Instr.index 257 (.agg #[.func (.func 184) #[] #[], .func (.func 185) #[] #[], .func (.func 186) #[] #[], .func (.func 187) #[] #[]]) (.int .i64 3)).run Tryz.prog w = .ok (.agg #[.func (.func 187) #[] #[]]) w := by kernel_rfl
theorem field_act (x : Value) (w : World) : (Instr.field 256 (.agg #[x]) 0).run Tryz.prog w = .ok x w := by
  kernel_rfl
set_option maxRecDepth 100000 in
set_option maxHeartbeats 8000000 in
theorem play_p (b : Bk) (hb : BkS b) (a1 a2 : Option Addr) (c1 c2 : Nat) (vd vs vo : Value) (days sown out : List Int) (day : Nat) (w : World) (hv : BkV w (bkV a1 b.pars.length c1 a2 b.ents.length c2 b.last b.owners) b)
    (hd : IntsV w vd days) (hs : IntsV w vs sown) (ho : IntsV w vo out) (hdl : days.length = b.ents.length) (hsl : sown.length = b.pars.length) (hday : (day : Int) ≤ b.last) :
    Calls Tryz.prog 163 #[bkV a1 b.pars.length c1 a2 b.ents.length c2 b.last b.owners, .agg #[vd, vs], .int .i64 day, vo] w fun e w' => (∃ g, e = .returned (.tuple #[.agg (fdsL g).toArray, .bool (playB b days sown day (fun i => decide ((i : Int) ∈ out))).isSome]) ∧ ∀ f, playB b days sown day (fun i => decide ((i : Int) ∈ out)) = some f → g = f) ∧ Ext w w' := by
  obtain ⟨a1', c1', a2', c2', hbe, hp, he, hp1, he1, hp2, he2⟩ := hv.open; simp only [bkV, Value.agg.injEq, Array.mk.injEq, List.cons.injEq, Value.slice.injEq, Value.int.injEq, true_and, and_true] at hbe; obtain ⟨⟨rfl, rfl⟩, rfl, rfl⟩ := hbe; have HBG : Hid (∀ W, Ext w W → Calls Tryz.prog 178 #[bkV a1 b.pars.length c1 a2 b.ents.length c2 b.last b.owners, vs] W fun e w' => ∃ P, e = .returned (.pointer (some ⟨P, 0, none⟩)) ∧ W.heap.size ≤ P ∧ WkAt P (.int .i64 b.last) (.int .i64 b.owners) (.slice a1 b.pars.length c1) (.slice a2 b.ents.length c2) (beginS b sown) w' ∧ Ext W w') := Lib.hid (fun W hx => begin_p b vs sown a1 a2 c1 c2 W (hp.ext hx) (hs.ext hx) hb.pars hsl); have HV := Lib.hid hv; have HCN : Hid (∀ (i : Nat) W, Ext w W → Calls Tryz.prog 105 #[vo, .int .i64 i] W fun e w' => e = .returned (.bool (decide ((i : Int) ∈ out))) ∧ Ext W w') := Lib.hid (fun i W hx => contains_p vo out i W (ho.ext hx))
  have HACT : Hid (∀ P, w.heap.size ≤ P → ∀ (i : Nat) (hi : i < b.ents.length) (f : Fds) (d : Int) W, Ext w W → FdsOK f → WkAt P (.int .i64 b.last) (.int .i64 b.owners) (.slice a1 b.pars.length c1) (.slice a2 b.ents.length c2) f W → Calls Tryz.prog (actId (b.ents[i]).kind) #[.pointer (some ⟨P, 0, none⟩), .int .i64 i, .int .i64 d] W (ActQ b i d P (.int .i64 b.last) (.int .i64 b.owners) (.slice a1 b.pars.length c1) (.slice a2 b.ents.length c2) f W)) := Lib.hid (fun P hP i hi f d W hx hf hW => by
    obtain ⟨B, off, e, hce⟩ := he.ext hx i (by simpa using hi); have e1 : (b.ents.map Ent.c)[i]'(by simpa using hi) = (b.ents[i]).c := by simp
    rw [e1] at hce; exact act_p b hb P _ _ _ a2 c2 f i d W hW hi ⟨B, off, e, hce⟩ (fun W' hk => hv.ext (KP.toExt hk hx (fun k hk => by rw [hk]; exact hP))) hf)
  have HAC := Lib.hid acts_p; have HKD : Hid (∀ i (hi : i < b.ents.length), (b.ents[i]).kind = 0 ∨ (b.ents[i]).kind = 1 ∨ (b.ents[i]).kind = 2 ∨ (b.ents[i]).kind = 3) := Lib.hid (fun i hi => by obtain ⟨p, h⟩ := ent_ok hb (List.getElem_mem hi); exact h.kind); have HOK : Hid (∀ i, i < b.ents.length → ∀ (d : Int) f g, FdsOK f → happenS b i d f = some g → FdsOK g) := Lib.hid (fun i hi d f g hf h => happen_ok hb hi hf h); have HBE := Lib.hid (begin_ok hb sown); obtain ⟨a5, c5, rfl, hd1, hd2, hdr⟩ := hd; obtain ⟨a6, c6, rfl, -, -, -⟩ := hs; rw [hdl] at hd1
  have HDR : Hid (∀ i, i < b.ents.length → ∃ B off, a5 = some ⟨B, off, none⟩ ∧ ∀ W, Ext w W → W.cell? ⟨B, off + i, none⟩ = some (.int .i64 (days.getD i 0))) := Lib.hid (fun i hi => by
    obtain ⟨B, off, e, hc, -⟩ := hdr i (by omega); rw [Nat.mul_one] at hc; refine ⟨B, off, e, fun W hx => hx.keep ?_⟩
    rw [hc]; simp [show i < days.length by omega])
  have HER : Hid (∀ i (hi : i < b.ents.length), ∃ B off, a2 = some ⟨B, off, none⟩ ∧ ∀ W, Ext w W → W.cell? ⟨B, off + i * 8, none⟩ = some (.int .i64 (b.ents[i]).kind)) := Lib.hid (fun i hi => by
    obtain ⟨B, off, e, hce⟩ := he i (by simpa using hi); have e1 : (b.ents.map Ent.c)[i]'(by simpa using hi) = (b.ents[i]).c := by simp
    rw [e1] at hce; exact ⟨B, off, e, fun W hx => hx.keep hce.1⟩)
  have hlast := hb.last; obtain ⟨D, hD⟩ : ∃ D, D = b.last.toNat + 1 := ⟨_, rfl⟩; have hDI : b.last + 1 = (D : Int) := by omega
  have hw : IntKind.i64.wrap (D : Int) = (D : Int) := IntWalk.i64_in _ (by omega); have hdD : day < D := by omega
  have hD31 : D ≤ 31 := by omega
  have hdl' := hdl; rw [hdl, hsl]; rw [hsl] at HBG; have HDL := Lib.hid hdl'; generalize hou : (fun i : Nat => decide ((i : Int) ∈ out)) = ou; have HOU : Hid (∀ i : Nat, decide ((i : Int) ∈ out) = ou i) := Lib.hid (fun i => by rw [← hou]); have HPN : Hid (∀ d i f, stateS b days sown ou d = some f → dayS b days ou d (i + 1) f = none → i < b.ents.length → d < D → playB b days sown day ou = none) := Lib.hid (fun d i f h k hi hd => play_none h k hi (by omega)); have HPS : Hid (∀ f, stateS b days sown ou D = some f → playB b days sown day ou = some (atF b days sown ou day D)) := Lib.hid (fun f h => by subst hD; exact play_some h hdD); clear hv hp he hdr hdl hdl' hsl ho hb hou hD hlast; unfold bkV at *; generalize hpb : playB b days sown day ou = pb at *; clear hpb; go_enter Tryz.func163, Tryz.ntmps163
  (go_wp2_with fail); have X : Ext w (((w.alloc (.cells #[.int .i64 b.last, .int .i64 b.owners, .slice a1 b.pars.length c1, .slice a2 b.ents.length c2] 52)).alloc (.cells #[.slice a5 b.ents.length c5, .slice a6 b.pars.length c6] 59)).alloc (.cells #[.bool false, .bool false, .int .i64 0, .int .i64 0, .int .i64 0, .bool false, .bool false, .int .i64 0, .int .i64 0, .int .i64 0, .bool false, .bool false, .int .i64 0, .int .i64 0, .int .i64 0, .bool false, .bool false, .int .i64 0, .int .i64 0, .int .i64 0, .bool false, .bool false, .int .i64 0, .int .i64 0, .int .i64 0, .bool false, .bool false, .int .i64 0, .int .i64 0, .int .i64 0, .bool false, .bool false, .int .i64 0, .int .i64 0, .int .i64 0, .bool false, .bool false, .int .i64 0, .int .i64 0, .int .i64 0, .bool false, .bool false, .int .i64 0, .int .i64 0, .int .i64 0, .bool false, .bool false, .int .i64 0, .int .i64 0, .int .i64 0] 198)) := by (repeat (first | exact Ext.refl _ | with_reducible (first | assumption | refine Ext.drew ?_ | refine Ext.alloc ?_ _ | refine Ext.drewN ?_ _ | refine Ext.setCell ?_ (by omega) _ | refine Ext.trans ?_ (by assumption))))
  have q0 : (((w.alloc (.cells #[.int .i64 b.last, .int .i64 b.owners, .slice a1 b.pars.length c1, .slice a2 b.ents.length c2] 52)).alloc (.cells #[.slice a5 b.ents.length c5, .slice a6 b.pars.length c6] 59)).alloc (.cells #[.bool false, .bool false, .int .i64 0, .int .i64 0, .int .i64 0, .bool false, .bool false, .int .i64 0, .int .i64 0, .int .i64 0, .bool false, .bool false, .int .i64 0, .int .i64 0, .int .i64 0, .bool false, .bool false, .int .i64 0, .int .i64 0, .int .i64 0, .bool false, .bool false, .int .i64 0, .int .i64 0, .int .i64 0, .bool false, .bool false, .int .i64 0, .int .i64 0, .int .i64 0, .bool false, .bool false, .int .i64 0, .int .i64 0, .int .i64 0, .bool false, .bool false, .int .i64 0, .int .i64 0, .int .i64 0, .bool false, .bool false, .int .i64 0, .int .i64 0, .int .i64 0, .bool false, .bool false, .int .i64 0, .int .i64 0, .int .i64 0] 198)).cell? ⟨w.heap.size, 0, none⟩ = some (.int .i64 b.last) := by simp [go_sem]
  have q1 : (((w.alloc (.cells #[.int .i64 b.last, .int .i64 b.owners, .slice a1 b.pars.length c1, .slice a2 b.ents.length c2] 52)).alloc (.cells #[.slice a5 b.ents.length c5, .slice a6 b.pars.length c6] 59)).alloc (.cells #[.bool false, .bool false, .int .i64 0, .int .i64 0, .int .i64 0, .bool false, .bool false, .int .i64 0, .int .i64 0, .int .i64 0, .bool false, .bool false, .int .i64 0, .int .i64 0, .int .i64 0, .bool false, .bool false, .int .i64 0, .int .i64 0, .int .i64 0, .bool false, .bool false, .int .i64 0, .int .i64 0, .int .i64 0, .bool false, .bool false, .int .i64 0, .int .i64 0, .int .i64 0, .bool false, .bool false, .int .i64 0, .int .i64 0, .int .i64 0, .bool false, .bool false, .int .i64 0, .int .i64 0, .int .i64 0, .bool false, .bool false, .int .i64 0, .int .i64 0, .int .i64 0, .bool false, .bool false, .int .i64 0, .int .i64 0, .int .i64 0] 198)).cell? ⟨w.heap.size, 1, none⟩ = some (.int .i64 b.owners) := by simp [go_sem]
  have q2 : (((w.alloc (.cells #[.int .i64 b.last, .int .i64 b.owners, .slice a1 b.pars.length c1, .slice a2 b.ents.length c2] 52)).alloc (.cells #[.slice a5 b.ents.length c5, .slice a6 b.pars.length c6] 59)).alloc (.cells #[.bool false, .bool false, .int .i64 0, .int .i64 0, .int .i64 0, .bool false, .bool false, .int .i64 0, .int .i64 0, .int .i64 0, .bool false, .bool false, .int .i64 0, .int .i64 0, .int .i64 0, .bool false, .bool false, .int .i64 0, .int .i64 0, .int .i64 0, .bool false, .bool false, .int .i64 0, .int .i64 0, .int .i64 0, .bool false, .bool false, .int .i64 0, .int .i64 0, .int .i64 0, .bool false, .bool false, .int .i64 0, .int .i64 0, .int .i64 0, .bool false, .bool false, .int .i64 0, .int .i64 0, .int .i64 0, .bool false, .bool false, .int .i64 0, .int .i64 0, .int .i64 0, .bool false, .bool false, .int .i64 0, .int .i64 0, .int .i64 0] 198)).cell? ⟨w.heap.size, 2, none⟩ = some (.slice a1 b.pars.length c1) := by simp [go_sem]
  have q3 : (((w.alloc (.cells #[.int .i64 b.last, .int .i64 b.owners, .slice a1 b.pars.length c1, .slice a2 b.ents.length c2] 52)).alloc (.cells #[.slice a5 b.ents.length c5, .slice a6 b.pars.length c6] 59)).alloc (.cells #[.bool false, .bool false, .int .i64 0, .int .i64 0, .int .i64 0, .bool false, .bool false, .int .i64 0, .int .i64 0, .int .i64 0, .bool false, .bool false, .int .i64 0, .int .i64 0, .int .i64 0, .bool false, .bool false, .int .i64 0, .int .i64 0, .int .i64 0, .bool false, .bool false, .int .i64 0, .int .i64 0, .int .i64 0, .bool false, .bool false, .int .i64 0, .int .i64 0, .int .i64 0, .bool false, .bool false, .int .i64 0, .int .i64 0, .int .i64 0, .bool false, .bool false, .int .i64 0, .int .i64 0, .int .i64 0, .bool false, .bool false, .int .i64 0, .int .i64 0, .int .i64 0, .bool false, .bool false, .int .i64 0, .int .i64 0, .int .i64 0] 198)).cell? ⟨w.heap.size, 3, none⟩ = some (.slice a2 b.ents.length c2) := by simp [go_sem]
  have t0 : (((w.alloc (.cells #[.int .i64 b.last, .int .i64 b.owners, .slice a1 b.pars.length c1, .slice a2 b.ents.length c2] 52)).alloc (.cells #[.slice a5 b.ents.length c5, .slice a6 b.pars.length c6] 59)).alloc (.cells #[.bool false, .bool false, .int .i64 0, .int .i64 0, .int .i64 0, .bool false, .bool false, .int .i64 0, .int .i64 0, .int .i64 0, .bool false, .bool false, .int .i64 0, .int .i64 0, .int .i64 0, .bool false, .bool false, .int .i64 0, .int .i64 0, .int .i64 0, .bool false, .bool false, .int .i64 0, .int .i64 0, .int .i64 0, .bool false, .bool false, .int .i64 0, .int .i64 0, .int .i64 0, .bool false, .bool false, .int .i64 0, .int .i64 0, .int .i64 0, .bool false, .bool false, .int .i64 0, .int .i64 0, .int .i64 0, .bool false, .bool false, .int .i64 0, .int .i64 0, .int .i64 0, .bool false, .bool false, .int .i64 0, .int .i64 0, .int .i64 0] 198)).cell? ⟨w.heap.size + 1, 0, none⟩ = some (.slice a5 b.ents.length c5) := by simp [go_sem]
  have hR0 : RowF (w.heap.size + 1 + 1) (fun _ => Fd.zero) (((w.alloc (.cells #[.int .i64 b.last, .int .i64 b.owners, .slice a1 b.pars.length c1, .slice a2 b.ents.length c2] 52)).alloc (.cells #[.slice a5 b.ents.length c5, .slice a6 b.pars.length c6] 59)).alloc (.cells #[.bool false, .bool false, .int .i64 0, .int .i64 0, .int .i64 0, .bool false, .bool false, .int .i64 0, .int .i64 0, .int .i64 0, .bool false, .bool false, .int .i64 0, .int .i64 0, .int .i64 0, .bool false, .bool false, .int .i64 0, .int .i64 0, .int .i64 0, .bool false, .bool false, .int .i64 0, .int .i64 0, .int .i64 0, .bool false, .bool false, .int .i64 0, .int .i64 0, .int .i64 0, .bool false, .bool false, .int .i64 0, .int .i64 0, .int .i64 0, .bool false, .bool false, .int .i64 0, .int .i64 0, .int .i64 0, .bool false, .bool false, .int .i64 0, .int .i64 0, .int .i64 0, .bool false, .bool false, .int .i64 0, .int .i64 0, .int .i64 0] 198)) := ⟨range_fds (fun i hi => by
    rcases i with _ | _ | _ | _ | _ | _ | _ | _ | _ | _ | i
    all_goals first | omega | exact ⟨by simp [go_sem, Fd.zero], by simp [go_sem, Fd.zero], by simp [go_sem, Fd.zero], by simp [go_sem, Fd.zero], by simp [go_sem, Fd.zero]⟩), fun o => by simp [go_sem]⟩
  (with_reducible refine (HBG.out _ X).mono ?_); rintro e w1 ⟨P, rfl, hP, hW, hx1⟩; have hPR : w.heap.size + 1 + 1 < P := by simp at hP; omega
  have X1 : Ext w w1 := X.trans hx1; replace q0 := hx1.keep q0; replace q1 := hx1.keep q1; replace q2 := hx1.keep q2; replace q3 := hx1.keep q3; replace t0 := hx1.keep t0; have hR1 : RowF (w.heap.size + 1 + 1) (fun _ => Fd.zero) w1 := hR0.kp (p := fun _ => False) hx1.kp id; have hwP : w.heap.size ≤ P := by omega
  have hB0 : ¬ (w.heap.size = P ∨ w.heap.size = w.heap.size + 1 + 1) := by omega
  have hB1 : ¬ (w.heap.size + 1 = P ∨ w.heap.size + 1 = w.heap.size + 1 + 1) := by omega
  have HKB : Hid (∀ w', KP (fun j => j = P ∨ j = w.heap.size + 1 + 1) w1 w' → (w'.cell? ⟨w.heap.size, 0, none⟩ = some (.int .i64 b.last) ∧ w'.cell? ⟨w.heap.size, 1, none⟩ = some (.int .i64 b.owners) ∧ w'.cell? ⟨w.heap.size, 2, none⟩ = some (.slice a1 b.pars.length c1) ∧ w'.cell? ⟨w.heap.size, 3, none⟩ = some (.slice a2 b.ents.length c2) ∧ w'.cell? ⟨w.heap.size + 1, 0, none⟩ = some (.slice a5 b.ents.length c5)) ∧ Ext w w') := Lib.hid (fun w' hk => ⟨⟨hk.keep hB0 q0, hk.keep hB0 q1, hk.keep hB0 q2, hk.keep hB0 q3, hk.keep hB1 t0⟩, hk.toExt X1 (fun k hk => by rcases hk with rfl | rfl <;> omega)⟩); have HI : Hid (stateS b days sown ou 0 = some (beginS b sown) ∧ FdsOK (beginS b sown) ∧ WkAt P (.int .i64 b.last) (.int .i64 b.owners) (.slice a1 b.pars.length c1) (.slice a2 b.ents.length c2) (beginS b sown) w1 ∧ RowF (w.heap.size + 1 + 1) (atF b days sown ou day 0) w1) := Lib.hid ⟨rfl, HBE.out, hW, by unfold atF; rw [if_neg (by omega)]; exact hR1⟩; clear hR0 hR1 hW X hx1 HBG HBE X1; (go_wp2_with fail); try rw [hDI]
  go_loopw [20] (fun s20 wr => ∃ (d : Nat) (f : Fds), d ≤ D ∧ s20 = .int .i64 d ∧ Hid (stateS b days sown ou d = some f ∧ FdsOK f ∧ WkAt P (.int .i64 b.last) (.int .i64 b.owners) (.slice a1 b.pars.length c1) (.slice a2 b.ents.length c2) f wr ∧ RowF (w.heap.size + 1 + 1) (atF b days sown ou day d) wr) ∧ KP (fun j => j = P ∨ j = w.heap.size + 1 + 1) w1 wr) (fun s _ => D - (intOf s).toNat)
  case atStart => exact ⟨0, _, Nat.zero_le _, rfl, HI, KP.refl _⟩
  case round =>
    obtain ⟨d, f, hd, rfl, HS, hk⟩ := hrel; obtain ⟨wo, rfl⟩ : ∃ x, x = wr := ⟨_, rfl⟩; clear HI; clear q0 q1 q2 q3 t0; obtain ⟨⟨q0, q1, q2, q3, t0⟩, XO⟩ := HKB.out wo hk; by_cases hlt : d < D
    · have HLT := Lib.hid hlt; (go_wp2_with fail); go_loopw [26] (fun s26 wr => ∃ (i : Nat) (g : Fds), i ≤ b.ents.length ∧ s26 = .int .i64 i ∧ Hid (dayS b days ou d i f = some g ∧ FdsOK g ∧ WkAt P (.int .i64 b.last) (.int .i64 b.owners) (.slice a1 b.pars.length c1) (.slice a2 b.ents.length c2) g wr ∧ RowF (w.heap.size + 1 + 1) (atF b days sown ou day d) wr) ∧ KP (fun j => j = P ∨ j = w.heap.size + 1 + 1) w1 wr) (fun s _ => b.ents.length - (intOf s).toNat)
      case atStart => exact ⟨0, f, Nat.zero_le _, rfl, Lib.hid ⟨rfl, HS.out.2⟩, hk⟩
      case round =>
        obtain ⟨i, g, hi, rfl, HG, hk2⟩ := hrel; obtain ⟨wi, rfl⟩ : ∃ x, x = wr := ⟨_, rfl⟩; clear q0 q1 q2 q3 t0; obtain ⟨⟨q0, q1, q2, q3, t0⟩, XI⟩ := HKB.out wi hk2; by_cases hli : i < b.ents.length
        · obtain ⟨B, off, rfl, hdc⟩ := HDR.out i hli; obtain ⟨B2, off2, rfl, hek⟩ := HER.out i hli; have dc := hdc wi XI; have mk := hek wi XI; have dw := hdc w (Ext.refl w); have mw := hek w (Ext.refl w); clear hdc hek; have HCI : Hid (∀ W, Ext w W → Calls Tryz.prog 105 #[vo, .int .i64 i] W fun e w' => e = .returned (.bool (ou i)) ∧ Ext W w') := Lib.hid (fun W hx => HOU.out i ▸ HCN.out i W hx); have HKI := Lib.hid (HKD.out i hli); have HDY0 := Lib.hid (fun W (hx : Ext wi W) => HACT.out P hwP i hli g (d : Int) W (XI.trans hx) HG.out.2.1 (HG.out.2.2.1.ext hx)); have hi0 : (0 : Int) ≤ (i : Int) := by omega
          have hi1 : (i : Int) < (b.ents.length : Int) := by omega
          obtain ⟨dy, hdy⟩ : ∃ dy, dy = days.getD i 0 := ⟨_, rfl⟩; have HDYE := Lib.hid hdy; rw [← hdy] at dc dw; clear hdy; generalize hkk : (b.ents[i]).kind = kk at *; clear hkk; by_cases hA : dy = (d : Int)
          · obtain ⟨oi, hoi⟩ : ∃ oi, oi = ou i := ⟨_, rfl⟩; have HOI := Lib.hid hoi; rw [← hoi] at HCI; clear hoi; cases oi with
            | true =>
              have hdd : (dy == (d : Int)) = true := by rw [beq_iff_eq]; exact hA
              clear hA HDY0; go_upto_region 8 with fail
              refine wp_region_quiet (C := Ext wi) (by kernel_rfl) (by kernel_rfl) (Ext.drew (by (repeat (first | exact Ext.refl _ | with_reducible (first | assumption | refine Ext.drew ?_ | refine Ext.alloc ?_ _ | refine Ext.drewN ?_ _ | refine Ext.setCell ?_ (by omega) _ | refine Ext.trans ?_ (by assumption)))))) ?_
              rw [show ∀ (l : List Oper), l.toArray.toList = l from fun l => rfl]
              repeat (first
                | go_big_quiet_skip
                | (go_big_quiet_want
                   first
                    | (go_big_quiet_op; go_big_quiet_on)
                    | (apply Exists.intro
                       refine ⟨fun w' hxw => ?_, ?_⟩
                       focus (have q0 := hxw.keep q0; have q1 := hxw.keep q1; have q2 := hxw.keep q2; have q3 := hxw.keep q3; have t0 := hxw.keep t0; have dc := hxw.keep dc; have mk := hxw.keep mk; go_simp; first | exact rfl | (with_reducible refine (HCI.out w' (Ext.trans XI hxw)).mono ?_; exact fun e w'' h => ⟨h.1, hxw.trans h.2⟩))
                       simp only [Act.put, List.setIfInBounds_toArray, List.set_cons_zero, List.set_cons_succ]; go_big_quiet_on)))
              refine wpQuiet_nil ?_
              intro w2 hx2
              obtain ⟨wn, rfl⟩ : ∃ x, x = w2 := ⟨_, rfl⟩; have HG2 : Hid (dayS b days ou d (i + 1) f = some g ∧ FdsOK g ∧ WkAt P (.int .i64 b.last) (.int .i64 b.owners) (.slice a1 b.pars.length c1) (.slice (some ⟨B2, off2, none⟩) b.ents.length c2) g wn ∧ RowF (w.heap.size + 1 + 1) (atF b days sown ou day d) wn) := Lib.hid ⟨dayS_skip HG.out.1 (fun h => by rw [← HOI.out] at h; cases h.2), HG.out.2.1, HG.out.2.2.1.ext hx2, HG.out.2.2.2.kp (p := fun _ => False) hx2.kp id⟩; have hk3 := hk2.ext hx2; clear HG HS hk2 hx2 XI; (go_wp2_with fail); go_roundw
              case rel => exact ⟨i + 1, g, by omega, by go_num, HG2, hk3⟩
              case measure => simp [intOf]; omega
            | false =>
              have HA := Lib.hid hA; subst hA; rcases HKI.out with rfl | rfl | rfl | rfl
              · have HDY := HDY0; simp only [actId, show ¬ (1 : Int) = 0 by decide, show ¬ (2 : Int) = 0 by decide, show ¬ (2 : Int) = 1 by decide, show ¬ (3 : Int) = 0 by decide, show ¬ (3 : Int) = 1 by decide, show ¬ (3 : Int) = 2 by decide, if_true, if_false] at HDY; clear HDY0; cases hh : happenS b i (d : Int) g with
                | none =>
                  have HHH := Lib.hid hh; have HDY2 := HDY.out; unfold ActQ at HDY2; rw [hh] at HDY2; simp only [Option.isSome_none] at HDY2; replace HDY := Lib.hid HDY2; clear HDY2 hh; have hix := index_act0; have hfa := field_act; have HSC : Hid (∀ w', KP (fun j => j = P) wi w' → (w'.cell? ⟨w.heap.size + 1, 0, none⟩ = some (.slice (some ⟨B, off, none⟩) b.ents.length c5) ∧ w'.cell? ⟨B, off + i, none⟩ = some (.int .i64 d) ∧ w'.cell? ⟨w.heap.size, 3, none⟩ = some (.slice (some ⟨B2, off2, none⟩) b.ents.length c2) ∧ w'.cell? ⟨B2, off2 + i * 8, none⟩ = some (.int .i64 0)) ∧ KP (fun j => j = P) wi w') := Lib.hid (fun w' hk => ⟨⟨hk.keep (by intro e; have e' : w.heap.size + 1 = P := e; omega) t0, hk.keep (by have := lt_of_cell' dw; intro e; have e' : B = P := e; omega) dc, hk.keep (by intro e; have e' : w.heap.size = P := e; omega) q3, hk.keep (by have := lt_of_cell' mw; intro e; have e' : B2 = P := e; omega) mk⟩, hk⟩); go_upto_region 8 with fail
                  go_region_held3 (fun w' => (w'.cell? ⟨w.heap.size + 1, 0, none⟩ = some (.slice (some ⟨B, off, none⟩) b.ents.length c5) ∧ w'.cell? ⟨B, off + i, none⟩ = some (.int .i64 d) ∧ w'.cell? ⟨w.heap.size, 3, none⟩ = some (.slice (some ⟨B2, off2, none⟩) b.ents.length c2) ∧ w'.cell? ⟨B2, off2 + i * 8, none⟩ = some (.int .i64 0)) ∧ KP (fun j => j = P) wi w')
                    ((refine HSC.out _ ?_; (repeat (first | exact KP.refl _ | with_reducible (first | assumption | refine KP.drew ?_ | refine KP.alloc ?_ _ | refine KP.setCell ?_ (by assumption) _ | refine KP.ext ?_ (by assumption) | refine KP.trans ?_ (by assumption) | refine Ext.kp (by assumption))))))
                    (first
                      | (go_at_call 105; (with_reducible refine (HCI.out _ (Ext.trans XI (by (repeat (first | exact Ext.refl _ | with_reducible (first | assumption | refine Ext.drew ?_ | refine Ext.alloc ?_ _ | refine Ext.drewN ?_ _ | refine Ext.setCell ?_ (by omega) _ | refine Ext.trans ?_ (by assumption))))))).mono ?_); rintro e w5 ⟨rfl, hx5⟩)
                      | (go_at_call 179; (with_reducible refine (HAC.out _).mono ?_); rintro e w6 ⟨rfl, hx6⟩; unfold actsV)
                      | ((with_reducible refine (HDY.out _ (by (repeat (first | exact Ext.refl _ | with_reducible (first | assumption | refine Ext.drew ?_ | refine Ext.alloc ?_ _ | refine Ext.drewN ?_ _ | refine Ext.setCell ?_ (by omega) _ | refine Ext.trans ?_ (by assumption)))))).mono ?_); rintro e w7 ⟨f', rfl, hf', hW7, hk7⟩))
                  all_goals
                    have hx6w : Ext wi w6 := by (repeat (first | exact Ext.refl _ | with_reducible (first | assumption | refine Ext.drew ?_ | refine Ext.alloc ?_ _ | refine Ext.drewN ?_ _ | refine Ext.setCell ?_ (by omega) _ | refine Ext.trans ?_ (by assumption))))
                    have hk8 : KP (fun j => j = P) wi w7 := hx6w.kp.trans hk7; have hrow : RowF (w.heap.size + 1 + 1) (atF b days sown ou day d) w7 := HG.out.2.2.2.kp hk8 (by intro e; have e' : w.heap.size + 1 + 1 = P := e; omega); have hE7 : Ext w w7 := hk8.toExt XI (fun k hk => by rw [hk]; omega); have HPB := Lib.hid (HPN.out d i f HS.out.1 (by rw [dayS_do HG.out.1 (HDYE.out.symm) HOI.out.symm]; exact HHH.out) hli HLT.out); have hlF := load_fields (w.heap.size + 1 + 1) _ w7 hrow; have hstF := store_fields (w.heap.size + 1 + 1) _ (atF b days sown ou day d) w7 hrow; have HLV := Lib.hid (loadVar_fields (w.heap.size + 1 + 1) _ _ (hrow.put (g := atF b days sown ou day d))); clear hrow hW7 hk8 hk7 hf' HG HS hk2 hx5 hx6 hx6w XI q0 q1 q2 q3 t0 dc mk; go_wp2_with (first | refine step_load rfl 198 _ rfl _ _ rfl hlF ?_ | refine step_store rfl 198 _ _ rfl _ _ _ rfl rfl hstF ?_)
                    exact bodyPost_ret (v := .tuple #[.agg (fdsL (atF b days sown ou day d)).toArray, .bool false]) (results_load2 rfl _ _ _ _ _ rfl HLV.out rfl) rfl ⟨⟨_, by rw [HPB.out]; rfl, fun f h => by rw [HPB.out] at h; cases h⟩, (KP.setCells (p := fun j => j = w.heap.size + 1 + 1) rfl _ _ (KP.refl w7)).toExt hE7 (fun k hk => by rw [hk]; omega)⟩
                | some g2 =>
                  have HHH := Lib.hid hh; have HDY2 := HDY.out; unfold ActQ at HDY2; rw [hh] at HDY2; simp only [Option.isSome_some] at HDY2; replace HDY := Lib.hid HDY2; clear HDY2 hh; have hix := index_act0; have hfa := field_act; have HSC : Hid (∀ w', KP (fun j => j = P) wi w' → (w'.cell? ⟨w.heap.size + 1, 0, none⟩ = some (.slice (some ⟨B, off, none⟩) b.ents.length c5) ∧ w'.cell? ⟨B, off + i, none⟩ = some (.int .i64 d) ∧ w'.cell? ⟨w.heap.size, 3, none⟩ = some (.slice (some ⟨B2, off2, none⟩) b.ents.length c2) ∧ w'.cell? ⟨B2, off2 + i * 8, none⟩ = some (.int .i64 0)) ∧ KP (fun j => j = P) wi w') := Lib.hid (fun w' hk => ⟨⟨hk.keep (by intro e; have e' : w.heap.size + 1 = P := e; omega) t0, hk.keep (by have := lt_of_cell' dw; intro e; have e' : B = P := e; omega) dc, hk.keep (by intro e; have e' : w.heap.size = P := e; omega) q3, hk.keep (by have := lt_of_cell' mw; intro e; have e' : B2 = P := e; omega) mk⟩, hk⟩); go_upto_region 8 with fail
                  go_region_held3 (fun w' => (w'.cell? ⟨w.heap.size + 1, 0, none⟩ = some (.slice (some ⟨B, off, none⟩) b.ents.length c5) ∧ w'.cell? ⟨B, off + i, none⟩ = some (.int .i64 d) ∧ w'.cell? ⟨w.heap.size, 3, none⟩ = some (.slice (some ⟨B2, off2, none⟩) b.ents.length c2) ∧ w'.cell? ⟨B2, off2 + i * 8, none⟩ = some (.int .i64 0)) ∧ KP (fun j => j = P) wi w')
                    ((refine HSC.out _ ?_; (repeat (first | exact KP.refl _ | with_reducible (first | assumption | refine KP.drew ?_ | refine KP.alloc ?_ _ | refine KP.setCell ?_ (by assumption) _ | refine KP.ext ?_ (by assumption) | refine KP.trans ?_ (by assumption) | refine Ext.kp (by assumption))))))
                    (first
                      | (go_at_call 105; (with_reducible refine (HCI.out _ (Ext.trans XI (by (repeat (first | exact Ext.refl _ | with_reducible (first | assumption | refine Ext.drew ?_ | refine Ext.alloc ?_ _ | refine Ext.drewN ?_ _ | refine Ext.setCell ?_ (by omega) _ | refine Ext.trans ?_ (by assumption))))))).mono ?_); rintro e w5 ⟨rfl, hx5⟩)
                      | (go_at_call 179; (with_reducible refine (HAC.out _).mono ?_); rintro e w6 ⟨rfl, hx6⟩; unfold actsV)
                      | ((with_reducible refine (HDY.out _ (by (repeat (first | exact Ext.refl _ | with_reducible (first | assumption | refine Ext.drew ?_ | refine Ext.alloc ?_ _ | refine Ext.drewN ?_ _ | refine Ext.setCell ?_ (by omega) _ | refine Ext.trans ?_ (by assumption)))))).mono ?_); rintro e w7 ⟨f', rfl, hf', hW7, hk7⟩))
                  all_goals
                    have hx6w : Ext wi w6 := by (repeat (first | exact Ext.refl _ | with_reducible (first | assumption | refine Ext.drew ?_ | refine Ext.alloc ?_ _ | refine Ext.drewN ?_ _ | refine Ext.setCell ?_ (by omega) _ | refine Ext.trans ?_ (by assumption))))
                    have hk8 : KP (fun j => j = P) wi w7 := hx6w.kp.trans hk7; have hrow : RowF (w.heap.size + 1 + 1) (atF b days sown ou day d) w7 := HG.out.2.2.2.kp hk8 (by intro e; have e' : w.heap.size + 1 + 1 = P := e; omega); have hE7 : Ext w w7 := hk8.toExt XI (fun k hk => by rw [hk]; omega); obtain rfl : f' = g2 := hf' g2 rfl; have hok := HOK.out i hli _ _ _ HG.out.2.1 HHH.out; have HG2 : Hid (dayS b days ou d (i + 1) f = some f' ∧ FdsOK f' ∧ WkAt P (.int .i64 b.last) (.int .i64 b.owners) (.slice a1 b.pars.length c1) (.slice (some ⟨B2, off2, none⟩) b.ents.length c2) f' w7 ∧ RowF (w.heap.size + 1 + 1) (atF b days sown ou day d) w7) := Lib.hid ⟨by rw [dayS_do HG.out.1 (HDYE.out.symm) HOI.out.symm]; exact HHH.out, hok, hW7, hrow⟩; have hk9 := hk2.trans (hk8.weak (fun k hk => .inl hk)); clear hrow hE7 hok hW7 hk8 hk7 hf' HG HS hk2 hx5 hx6 hx6w XI q0 q1 q2 q3 t0 dc mk; (go_wp2_with fail); go_roundw
                    case rel => exact ⟨i + 1, f', by omega, by go_num, HG2, hk9⟩
                    case measure => simp [intOf]; omega
              · have HDY := HDY0; simp only [actId, show ¬ (1 : Int) = 0 by decide, show ¬ (2 : Int) = 0 by decide, show ¬ (2 : Int) = 1 by decide, show ¬ (3 : Int) = 0 by decide, show ¬ (3 : Int) = 1 by decide, show ¬ (3 : Int) = 2 by decide, if_true, if_false] at HDY; clear HDY0; cases hh : happenS b i (d : Int) g with
                | none =>
                  have HHH := Lib.hid hh; have HDY2 := HDY.out; unfold ActQ at HDY2; rw [hh] at HDY2; simp only [Option.isSome_none] at HDY2; replace HDY := Lib.hid HDY2; clear HDY2 hh; have hix := index_act1; have hfa := field_act; have HSC : Hid (∀ w', KP (fun j => j = P) wi w' → (w'.cell? ⟨w.heap.size + 1, 0, none⟩ = some (.slice (some ⟨B, off, none⟩) b.ents.length c5) ∧ w'.cell? ⟨B, off + i, none⟩ = some (.int .i64 d) ∧ w'.cell? ⟨w.heap.size, 3, none⟩ = some (.slice (some ⟨B2, off2, none⟩) b.ents.length c2) ∧ w'.cell? ⟨B2, off2 + i * 8, none⟩ = some (.int .i64 1)) ∧ KP (fun j => j = P) wi w') := Lib.hid (fun w' hk => ⟨⟨hk.keep (by intro e; have e' : w.heap.size + 1 = P := e; omega) t0, hk.keep (by have := lt_of_cell' dw; intro e; have e' : B = P := e; omega) dc, hk.keep (by intro e; have e' : w.heap.size = P := e; omega) q3, hk.keep (by have := lt_of_cell' mw; intro e; have e' : B2 = P := e; omega) mk⟩, hk⟩); go_upto_region 8 with fail
                  go_region_held3 (fun w' => (w'.cell? ⟨w.heap.size + 1, 0, none⟩ = some (.slice (some ⟨B, off, none⟩) b.ents.length c5) ∧ w'.cell? ⟨B, off + i, none⟩ = some (.int .i64 d) ∧ w'.cell? ⟨w.heap.size, 3, none⟩ = some (.slice (some ⟨B2, off2, none⟩) b.ents.length c2) ∧ w'.cell? ⟨B2, off2 + i * 8, none⟩ = some (.int .i64 1)) ∧ KP (fun j => j = P) wi w')
                    ((refine HSC.out _ ?_; (repeat (first | exact KP.refl _ | with_reducible (first | assumption | refine KP.drew ?_ | refine KP.alloc ?_ _ | refine KP.setCell ?_ (by assumption) _ | refine KP.ext ?_ (by assumption) | refine KP.trans ?_ (by assumption) | refine Ext.kp (by assumption))))))
                    (first
                      | (go_at_call 105; (with_reducible refine (HCI.out _ (Ext.trans XI (by (repeat (first | exact Ext.refl _ | with_reducible (first | assumption | refine Ext.drew ?_ | refine Ext.alloc ?_ _ | refine Ext.drewN ?_ _ | refine Ext.setCell ?_ (by omega) _ | refine Ext.trans ?_ (by assumption))))))).mono ?_); rintro e w5 ⟨rfl, hx5⟩)
                      | (go_at_call 179; (with_reducible refine (HAC.out _).mono ?_); rintro e w6 ⟨rfl, hx6⟩; unfold actsV)
                      | ((with_reducible refine (HDY.out _ (by (repeat (first | exact Ext.refl _ | with_reducible (first | assumption | refine Ext.drew ?_ | refine Ext.alloc ?_ _ | refine Ext.drewN ?_ _ | refine Ext.setCell ?_ (by omega) _ | refine Ext.trans ?_ (by assumption)))))).mono ?_); rintro e w7 ⟨f', rfl, hf', hW7, hk7⟩))
                  all_goals
                    have hx6w : Ext wi w6 := by (repeat (first | exact Ext.refl _ | with_reducible (first | assumption | refine Ext.drew ?_ | refine Ext.alloc ?_ _ | refine Ext.drewN ?_ _ | refine Ext.setCell ?_ (by omega) _ | refine Ext.trans ?_ (by assumption))))
                    have hk8 : KP (fun j => j = P) wi w7 := hx6w.kp.trans hk7; have hrow : RowF (w.heap.size + 1 + 1) (atF b days sown ou day d) w7 := HG.out.2.2.2.kp hk8 (by intro e; have e' : w.heap.size + 1 + 1 = P := e; omega); have hE7 : Ext w w7 := hk8.toExt XI (fun k hk => by rw [hk]; omega); have HPB := Lib.hid (HPN.out d i f HS.out.1 (by rw [dayS_do HG.out.1 (HDYE.out.symm) HOI.out.symm]; exact HHH.out) hli HLT.out); have hlF := load_fields (w.heap.size + 1 + 1) _ w7 hrow; have hstF := store_fields (w.heap.size + 1 + 1) _ (atF b days sown ou day d) w7 hrow; have HLV := Lib.hid (loadVar_fields (w.heap.size + 1 + 1) _ _ (hrow.put (g := atF b days sown ou day d))); clear hrow hW7 hk8 hk7 hf' HG HS hk2 hx5 hx6 hx6w XI q0 q1 q2 q3 t0 dc mk; go_wp2_with (first | refine step_load rfl 198 _ rfl _ _ rfl hlF ?_ | refine step_store rfl 198 _ _ rfl _ _ _ rfl rfl hstF ?_)
                    exact bodyPost_ret (v := .tuple #[.agg (fdsL (atF b days sown ou day d)).toArray, .bool false]) (results_load2 rfl _ _ _ _ _ rfl HLV.out rfl) rfl ⟨⟨_, by rw [HPB.out]; rfl, fun f h => by rw [HPB.out] at h; cases h⟩, (KP.setCells (p := fun j => j = w.heap.size + 1 + 1) rfl _ _ (KP.refl w7)).toExt hE7 (fun k hk => by rw [hk]; omega)⟩
                | some g2 =>
                  have HHH := Lib.hid hh; have HDY2 := HDY.out; unfold ActQ at HDY2; rw [hh] at HDY2; simp only [Option.isSome_some] at HDY2; replace HDY := Lib.hid HDY2; clear HDY2 hh; have hix := index_act1; have hfa := field_act; have HSC : Hid (∀ w', KP (fun j => j = P) wi w' → (w'.cell? ⟨w.heap.size + 1, 0, none⟩ = some (.slice (some ⟨B, off, none⟩) b.ents.length c5) ∧ w'.cell? ⟨B, off + i, none⟩ = some (.int .i64 d) ∧ w'.cell? ⟨w.heap.size, 3, none⟩ = some (.slice (some ⟨B2, off2, none⟩) b.ents.length c2) ∧ w'.cell? ⟨B2, off2 + i * 8, none⟩ = some (.int .i64 1)) ∧ KP (fun j => j = P) wi w') := Lib.hid (fun w' hk => ⟨⟨hk.keep (by intro e; have e' : w.heap.size + 1 = P := e; omega) t0, hk.keep (by have := lt_of_cell' dw; intro e; have e' : B = P := e; omega) dc, hk.keep (by intro e; have e' : w.heap.size = P := e; omega) q3, hk.keep (by have := lt_of_cell' mw; intro e; have e' : B2 = P := e; omega) mk⟩, hk⟩); go_upto_region 8 with fail
                  go_region_held3 (fun w' => (w'.cell? ⟨w.heap.size + 1, 0, none⟩ = some (.slice (some ⟨B, off, none⟩) b.ents.length c5) ∧ w'.cell? ⟨B, off + i, none⟩ = some (.int .i64 d) ∧ w'.cell? ⟨w.heap.size, 3, none⟩ = some (.slice (some ⟨B2, off2, none⟩) b.ents.length c2) ∧ w'.cell? ⟨B2, off2 + i * 8, none⟩ = some (.int .i64 1)) ∧ KP (fun j => j = P) wi w')
                    ((refine HSC.out _ ?_; (repeat (first | exact KP.refl _ | with_reducible (first | assumption | refine KP.drew ?_ | refine KP.alloc ?_ _ | refine KP.setCell ?_ (by assumption) _ | refine KP.ext ?_ (by assumption) | refine KP.trans ?_ (by assumption) | refine Ext.kp (by assumption))))))
                    (first
                      | (go_at_call 105; (with_reducible refine (HCI.out _ (Ext.trans XI (by (repeat (first | exact Ext.refl _ | with_reducible (first | assumption | refine Ext.drew ?_ | refine Ext.alloc ?_ _ | refine Ext.drewN ?_ _ | refine Ext.setCell ?_ (by omega) _ | refine Ext.trans ?_ (by assumption))))))).mono ?_); rintro e w5 ⟨rfl, hx5⟩)
                      | (go_at_call 179; (with_reducible refine (HAC.out _).mono ?_); rintro e w6 ⟨rfl, hx6⟩; unfold actsV)
                      | ((with_reducible refine (HDY.out _ (by (repeat (first | exact Ext.refl _ | with_reducible (first | assumption | refine Ext.drew ?_ | refine Ext.alloc ?_ _ | refine Ext.drewN ?_ _ | refine Ext.setCell ?_ (by omega) _ | refine Ext.trans ?_ (by assumption)))))).mono ?_); rintro e w7 ⟨f', rfl, hf', hW7, hk7⟩))
                  all_goals
                    have hx6w : Ext wi w6 := by (repeat (first | exact Ext.refl _ | with_reducible (first | assumption | refine Ext.drew ?_ | refine Ext.alloc ?_ _ | refine Ext.drewN ?_ _ | refine Ext.setCell ?_ (by omega) _ | refine Ext.trans ?_ (by assumption))))
                    have hk8 : KP (fun j => j = P) wi w7 := hx6w.kp.trans hk7; have hrow : RowF (w.heap.size + 1 + 1) (atF b days sown ou day d) w7 := HG.out.2.2.2.kp hk8 (by intro e; have e' : w.heap.size + 1 + 1 = P := e; omega); have hE7 : Ext w w7 := hk8.toExt XI (fun k hk => by rw [hk]; omega); obtain rfl : f' = g2 := hf' g2 rfl; have hok := HOK.out i hli _ _ _ HG.out.2.1 HHH.out; have HG2 : Hid (dayS b days ou d (i + 1) f = some f' ∧ FdsOK f' ∧ WkAt P (.int .i64 b.last) (.int .i64 b.owners) (.slice a1 b.pars.length c1) (.slice (some ⟨B2, off2, none⟩) b.ents.length c2) f' w7 ∧ RowF (w.heap.size + 1 + 1) (atF b days sown ou day d) w7) := Lib.hid ⟨by rw [dayS_do HG.out.1 (HDYE.out.symm) HOI.out.symm]; exact HHH.out, hok, hW7, hrow⟩; have hk9 := hk2.trans (hk8.weak (fun k hk => .inl hk)); clear hrow hE7 hok hW7 hk8 hk7 hf' HG HS hk2 hx5 hx6 hx6w XI q0 q1 q2 q3 t0 dc mk; (go_wp2_with fail); go_roundw
                    case rel => exact ⟨i + 1, f', by omega, by go_num, HG2, hk9⟩
                    case measure => simp [intOf]; omega
              · have HDY := HDY0; simp only [actId, show ¬ (1 : Int) = 0 by decide, show ¬ (2 : Int) = 0 by decide, show ¬ (2 : Int) = 1 by decide, show ¬ (3 : Int) = 0 by decide, show ¬ (3 : Int) = 1 by decide, show ¬ (3 : Int) = 2 by decide, if_true, if_false] at HDY; clear HDY0; cases hh : happenS b i (d : Int) g with
                | none =>
                  have HHH := Lib.hid hh; have HDY2 := HDY.out; unfold ActQ at HDY2; rw [hh] at HDY2; simp only [Option.isSome_none] at HDY2; replace HDY := Lib.hid HDY2; clear HDY2 hh; have hix := index_act2; have hfa := field_act; have HSC : Hid (∀ w', KP (fun j => j = P) wi w' → (w'.cell? ⟨w.heap.size + 1, 0, none⟩ = some (.slice (some ⟨B, off, none⟩) b.ents.length c5) ∧ w'.cell? ⟨B, off + i, none⟩ = some (.int .i64 d) ∧ w'.cell? ⟨w.heap.size, 3, none⟩ = some (.slice (some ⟨B2, off2, none⟩) b.ents.length c2) ∧ w'.cell? ⟨B2, off2 + i * 8, none⟩ = some (.int .i64 2)) ∧ KP (fun j => j = P) wi w') := Lib.hid (fun w' hk => ⟨⟨hk.keep (by intro e; have e' : w.heap.size + 1 = P := e; omega) t0, hk.keep (by have := lt_of_cell' dw; intro e; have e' : B = P := e; omega) dc, hk.keep (by intro e; have e' : w.heap.size = P := e; omega) q3, hk.keep (by have := lt_of_cell' mw; intro e; have e' : B2 = P := e; omega) mk⟩, hk⟩); go_upto_region 8 with fail
                  go_region_held3 (fun w' => (w'.cell? ⟨w.heap.size + 1, 0, none⟩ = some (.slice (some ⟨B, off, none⟩) b.ents.length c5) ∧ w'.cell? ⟨B, off + i, none⟩ = some (.int .i64 d) ∧ w'.cell? ⟨w.heap.size, 3, none⟩ = some (.slice (some ⟨B2, off2, none⟩) b.ents.length c2) ∧ w'.cell? ⟨B2, off2 + i * 8, none⟩ = some (.int .i64 2)) ∧ KP (fun j => j = P) wi w')
                    ((refine HSC.out _ ?_; (repeat (first | exact KP.refl _ | with_reducible (first | assumption | refine KP.drew ?_ | refine KP.alloc ?_ _ | refine KP.setCell ?_ (by assumption) _ | refine KP.ext ?_ (by assumption) | refine KP.trans ?_ (by assumption) | refine Ext.kp (by assumption))))))
                    (first
                      | (go_at_call 105; (with_reducible refine (HCI.out _ (Ext.trans XI (by (repeat (first | exact Ext.refl _ | with_reducible (first | assumption | refine Ext.drew ?_ | refine Ext.alloc ?_ _ | refine Ext.drewN ?_ _ | refine Ext.setCell ?_ (by omega) _ | refine Ext.trans ?_ (by assumption))))))).mono ?_); rintro e w5 ⟨rfl, hx5⟩)
                      | (go_at_call 179; (with_reducible refine (HAC.out _).mono ?_); rintro e w6 ⟨rfl, hx6⟩; unfold actsV)
                      | ((with_reducible refine (HDY.out _ (by (repeat (first | exact Ext.refl _ | with_reducible (first | assumption | refine Ext.drew ?_ | refine Ext.alloc ?_ _ | refine Ext.drewN ?_ _ | refine Ext.setCell ?_ (by omega) _ | refine Ext.trans ?_ (by assumption)))))).mono ?_); rintro e w7 ⟨f', rfl, hf', hW7, hk7⟩))
                  all_goals
                    have hx6w : Ext wi w6 := by (repeat (first | exact Ext.refl _ | with_reducible (first | assumption | refine Ext.drew ?_ | refine Ext.alloc ?_ _ | refine Ext.drewN ?_ _ | refine Ext.setCell ?_ (by omega) _ | refine Ext.trans ?_ (by assumption))))
                    have hk8 : KP (fun j => j = P) wi w7 := hx6w.kp.trans hk7; have hrow : RowF (w.heap.size + 1 + 1) (atF b days sown ou day d) w7 := HG.out.2.2.2.kp hk8 (by intro e; have e' : w.heap.size + 1 + 1 = P := e; omega); have hE7 : Ext w w7 := hk8.toExt XI (fun k hk => by rw [hk]; omega); have HPB := Lib.hid (HPN.out d i f HS.out.1 (by rw [dayS_do HG.out.1 (HDYE.out.symm) HOI.out.symm]; exact HHH.out) hli HLT.out); have hlF := load_fields (w.heap.size + 1 + 1) _ w7 hrow; have hstF := store_fields (w.heap.size + 1 + 1) _ (atF b days sown ou day d) w7 hrow; have HLV := Lib.hid (loadVar_fields (w.heap.size + 1 + 1) _ _ (hrow.put (g := atF b days sown ou day d))); clear hrow hW7 hk8 hk7 hf' HG HS hk2 hx5 hx6 hx6w XI q0 q1 q2 q3 t0 dc mk; go_wp2_with (first | refine step_load rfl 198 _ rfl _ _ rfl hlF ?_ | refine step_store rfl 198 _ _ rfl _ _ _ rfl rfl hstF ?_)
                    exact bodyPost_ret (v := .tuple #[.agg (fdsL (atF b days sown ou day d)).toArray, .bool false]) (results_load2 rfl _ _ _ _ _ rfl HLV.out rfl) rfl ⟨⟨_, by rw [HPB.out]; rfl, fun f h => by rw [HPB.out] at h; cases h⟩, (KP.setCells (p := fun j => j = w.heap.size + 1 + 1) rfl _ _ (KP.refl w7)).toExt hE7 (fun k hk => by rw [hk]; omega)⟩
                | some g2 =>
                  have HHH := Lib.hid hh; have HDY2 := HDY.out; unfold ActQ at HDY2; rw [hh] at HDY2; simp only [Option.isSome_some] at HDY2; replace HDY := Lib.hid HDY2; clear HDY2 hh; have hix := index_act2; have hfa := field_act; have HSC : Hid (∀ w', KP (fun j => j = P) wi w' → (w'.cell? ⟨w.heap.size + 1, 0, none⟩ = some (.slice (some ⟨B, off, none⟩) b.ents.length c5) ∧ w'.cell? ⟨B, off + i, none⟩ = some (.int .i64 d) ∧ w'.cell? ⟨w.heap.size, 3, none⟩ = some (.slice (some ⟨B2, off2, none⟩) b.ents.length c2) ∧ w'.cell? ⟨B2, off2 + i * 8, none⟩ = some (.int .i64 2)) ∧ KP (fun j => j = P) wi w') := Lib.hid (fun w' hk => ⟨⟨hk.keep (by intro e; have e' : w.heap.size + 1 = P := e; omega) t0, hk.keep (by have := lt_of_cell' dw; intro e; have e' : B = P := e; omega) dc, hk.keep (by intro e; have e' : w.heap.size = P := e; omega) q3, hk.keep (by have := lt_of_cell' mw; intro e; have e' : B2 = P := e; omega) mk⟩, hk⟩); go_upto_region 8 with fail
                  go_region_held3 (fun w' => (w'.cell? ⟨w.heap.size + 1, 0, none⟩ = some (.slice (some ⟨B, off, none⟩) b.ents.length c5) ∧ w'.cell? ⟨B, off + i, none⟩ = some (.int .i64 d) ∧ w'.cell? ⟨w.heap.size, 3, none⟩ = some (.slice (some ⟨B2, off2, none⟩) b.ents.length c2) ∧ w'.cell? ⟨B2, off2 + i * 8, none⟩ = some (.int .i64 2)) ∧ KP (fun j => j = P) wi w')
                    ((refine HSC.out _ ?_; (repeat (first | exact KP.refl _ | with_reducible (first | assumption | refine KP.drew ?_ | refine KP.alloc ?_ _ | refine KP.setCell ?_ (by assumption) _ | refine KP.ext ?_ (by assumption) | refine KP.trans ?_ (by assumption) | refine Ext.kp (by assumption))))))
                    (first
                      | (go_at_call 105; (with_reducible refine (HCI.out _ (Ext.trans XI (by (repeat (first | exact Ext.refl _ | with_reducible (first | assumption | refine Ext.drew ?_ | refine Ext.alloc ?_ _ | refine Ext.drewN ?_ _ | refine Ext.setCell ?_ (by omega) _ | refine Ext.trans ?_ (by assumption))))))).mono ?_); rintro e w5 ⟨rfl, hx5⟩)
                      | (go_at_call 179; (with_reducible refine (HAC.out _).mono ?_); rintro e w6 ⟨rfl, hx6⟩; unfold actsV)
                      | ((with_reducible refine (HDY.out _ (by (repeat (first | exact Ext.refl _ | with_reducible (first | assumption | refine Ext.drew ?_ | refine Ext.alloc ?_ _ | refine Ext.drewN ?_ _ | refine Ext.setCell ?_ (by omega) _ | refine Ext.trans ?_ (by assumption)))))).mono ?_); rintro e w7 ⟨f', rfl, hf', hW7, hk7⟩))
                  all_goals
                    have hx6w : Ext wi w6 := by (repeat (first | exact Ext.refl _ | with_reducible (first | assumption | refine Ext.drew ?_ | refine Ext.alloc ?_ _ | refine Ext.drewN ?_ _ | refine Ext.setCell ?_ (by omega) _ | refine Ext.trans ?_ (by assumption))))
                    have hk8 : KP (fun j => j = P) wi w7 := hx6w.kp.trans hk7; have hrow : RowF (w.heap.size + 1 + 1) (atF b days sown ou day d) w7 := HG.out.2.2.2.kp hk8 (by intro e; have e' : w.heap.size + 1 + 1 = P := e; omega); have hE7 : Ext w w7 := hk8.toExt XI (fun k hk => by rw [hk]; omega); obtain rfl : f' = g2 := hf' g2 rfl; have hok := HOK.out i hli _ _ _ HG.out.2.1 HHH.out; have HG2 : Hid (dayS b days ou d (i + 1) f = some f' ∧ FdsOK f' ∧ WkAt P (.int .i64 b.last) (.int .i64 b.owners) (.slice a1 b.pars.length c1) (.slice (some ⟨B2, off2, none⟩) b.ents.length c2) f' w7 ∧ RowF (w.heap.size + 1 + 1) (atF b days sown ou day d) w7) := Lib.hid ⟨by rw [dayS_do HG.out.1 (HDYE.out.symm) HOI.out.symm]; exact HHH.out, hok, hW7, hrow⟩; have hk9 := hk2.trans (hk8.weak (fun k hk => .inl hk)); clear hrow hE7 hok hW7 hk8 hk7 hf' HG HS hk2 hx5 hx6 hx6w XI q0 q1 q2 q3 t0 dc mk; (go_wp2_with fail); go_roundw
                    case rel => exact ⟨i + 1, f', by omega, by go_num, HG2, hk9⟩
                    case measure => simp [intOf]; omega
              · have HDY := HDY0; simp only [actId, show ¬ (1 : Int) = 0 by decide, show ¬ (2 : Int) = 0 by decide, show ¬ (2 : Int) = 1 by decide, show ¬ (3 : Int) = 0 by decide, show ¬ (3 : Int) = 1 by decide, show ¬ (3 : Int) = 2 by decide, if_true, if_false] at HDY; clear HDY0; cases hh : happenS b i (d : Int) g with
                | none =>
                  have HHH := Lib.hid hh; have HDY2 := HDY.out; unfold ActQ at HDY2; rw [hh] at HDY2; simp only [Option.isSome_none] at HDY2; replace HDY := Lib.hid HDY2; clear HDY2 hh; have hix := index_act3; have hfa := field_act; have HSC : Hid (∀ w', KP (fun j => j = P) wi w' → (w'.cell? ⟨w.heap.size + 1, 0, none⟩ = some (.slice (some ⟨B, off, none⟩) b.ents.length c5) ∧ w'.cell? ⟨B, off + i, none⟩ = some (.int .i64 d) ∧ w'.cell? ⟨w.heap.size, 3, none⟩ = some (.slice (some ⟨B2, off2, none⟩) b.ents.length c2) ∧ w'.cell? ⟨B2, off2 + i * 8, none⟩ = some (.int .i64 3)) ∧ KP (fun j => j = P) wi w') := Lib.hid (fun w' hk => ⟨⟨hk.keep (by intro e; have e' : w.heap.size + 1 = P := e; omega) t0, hk.keep (by have := lt_of_cell' dw; intro e; have e' : B = P := e; omega) dc, hk.keep (by intro e; have e' : w.heap.size = P := e; omega) q3, hk.keep (by have := lt_of_cell' mw; intro e; have e' : B2 = P := e; omega) mk⟩, hk⟩); go_upto_region 8 with fail
                  go_region_held3 (fun w' => (w'.cell? ⟨w.heap.size + 1, 0, none⟩ = some (.slice (some ⟨B, off, none⟩) b.ents.length c5) ∧ w'.cell? ⟨B, off + i, none⟩ = some (.int .i64 d) ∧ w'.cell? ⟨w.heap.size, 3, none⟩ = some (.slice (some ⟨B2, off2, none⟩) b.ents.length c2) ∧ w'.cell? ⟨B2, off2 + i * 8, none⟩ = some (.int .i64 3)) ∧ KP (fun j => j = P) wi w')
                    ((refine HSC.out _ ?_; (repeat (first | exact KP.refl _ | with_reducible (first | assumption | refine KP.drew ?_ | refine KP.alloc ?_ _ | refine KP.setCell ?_ (by assumption) _ | refine KP.ext ?_ (by assumption) | refine KP.trans ?_ (by assumption) | refine Ext.kp (by assumption))))))
                    (first
                      | (go_at_call 105; (with_reducible refine (HCI.out _ (Ext.trans XI (by (repeat (first | exact Ext.refl _ | with_reducible (first | assumption | refine Ext.drew ?_ | refine Ext.alloc ?_ _ | refine Ext.drewN ?_ _ | refine Ext.setCell ?_ (by omega) _ | refine Ext.trans ?_ (by assumption))))))).mono ?_); rintro e w5 ⟨rfl, hx5⟩)
                      | (go_at_call 179; (with_reducible refine (HAC.out _).mono ?_); rintro e w6 ⟨rfl, hx6⟩; unfold actsV)
                      | ((with_reducible refine (HDY.out _ (by (repeat (first | exact Ext.refl _ | with_reducible (first | assumption | refine Ext.drew ?_ | refine Ext.alloc ?_ _ | refine Ext.drewN ?_ _ | refine Ext.setCell ?_ (by omega) _ | refine Ext.trans ?_ (by assumption)))))).mono ?_); rintro e w7 ⟨f', rfl, hf', hW7, hk7⟩))
                  all_goals
                    have hx6w : Ext wi w6 := by (repeat (first | exact Ext.refl _ | with_reducible (first | assumption | refine Ext.drew ?_ | refine Ext.alloc ?_ _ | refine Ext.drewN ?_ _ | refine Ext.setCell ?_ (by omega) _ | refine Ext.trans ?_ (by assumption))))
                    have hk8 : KP (fun j => j = P) wi w7 := hx6w.kp.trans hk7; have hrow : RowF (w.heap.size + 1 + 1) (atF b days sown ou day d) w7 := HG.out.2.2.2.kp hk8 (by intro e; have e' : w.heap.size + 1 + 1 = P := e; omega); have hE7 : Ext w w7 := hk8.toExt XI (fun k hk => by rw [hk]; omega); have HPB := Lib.hid (HPN.out d i f HS.out.1 (by rw [dayS_do HG.out.1 (HDYE.out.symm) HOI.out.symm]; exact HHH.out) hli HLT.out); have hlF := load_fields (w.heap.size + 1 + 1) _ w7 hrow; have hstF := store_fields (w.heap.size + 1 + 1) _ (atF b days sown ou day d) w7 hrow; have HLV := Lib.hid (loadVar_fields (w.heap.size + 1 + 1) _ _ (hrow.put (g := atF b days sown ou day d))); clear hrow hW7 hk8 hk7 hf' HG HS hk2 hx5 hx6 hx6w XI q0 q1 q2 q3 t0 dc mk; go_wp2_with (first | refine step_load rfl 198 _ rfl _ _ rfl hlF ?_ | refine step_store rfl 198 _ _ rfl _ _ _ rfl rfl hstF ?_)
                    exact bodyPost_ret (v := .tuple #[.agg (fdsL (atF b days sown ou day d)).toArray, .bool false]) (results_load2 rfl _ _ _ _ _ rfl HLV.out rfl) rfl ⟨⟨_, by rw [HPB.out]; rfl, fun f h => by rw [HPB.out] at h; cases h⟩, (KP.setCells (p := fun j => j = w.heap.size + 1 + 1) rfl _ _ (KP.refl w7)).toExt hE7 (fun k hk => by rw [hk]; omega)⟩
                | some g2 =>
                  have HHH := Lib.hid hh; have HDY2 := HDY.out; unfold ActQ at HDY2; rw [hh] at HDY2; simp only [Option.isSome_some] at HDY2; replace HDY := Lib.hid HDY2; clear HDY2 hh; have hix := index_act3; have hfa := field_act; have HSC : Hid (∀ w', KP (fun j => j = P) wi w' → (w'.cell? ⟨w.heap.size + 1, 0, none⟩ = some (.slice (some ⟨B, off, none⟩) b.ents.length c5) ∧ w'.cell? ⟨B, off + i, none⟩ = some (.int .i64 d) ∧ w'.cell? ⟨w.heap.size, 3, none⟩ = some (.slice (some ⟨B2, off2, none⟩) b.ents.length c2) ∧ w'.cell? ⟨B2, off2 + i * 8, none⟩ = some (.int .i64 3)) ∧ KP (fun j => j = P) wi w') := Lib.hid (fun w' hk => ⟨⟨hk.keep (by intro e; have e' : w.heap.size + 1 = P := e; omega) t0, hk.keep (by have := lt_of_cell' dw; intro e; have e' : B = P := e; omega) dc, hk.keep (by intro e; have e' : w.heap.size = P := e; omega) q3, hk.keep (by have := lt_of_cell' mw; intro e; have e' : B2 = P := e; omega) mk⟩, hk⟩); go_upto_region 8 with fail
                  go_region_held3 (fun w' => (w'.cell? ⟨w.heap.size + 1, 0, none⟩ = some (.slice (some ⟨B, off, none⟩) b.ents.length c5) ∧ w'.cell? ⟨B, off + i, none⟩ = some (.int .i64 d) ∧ w'.cell? ⟨w.heap.size, 3, none⟩ = some (.slice (some ⟨B2, off2, none⟩) b.ents.length c2) ∧ w'.cell? ⟨B2, off2 + i * 8, none⟩ = some (.int .i64 3)) ∧ KP (fun j => j = P) wi w')
                    ((refine HSC.out _ ?_; (repeat (first | exact KP.refl _ | with_reducible (first | assumption | refine KP.drew ?_ | refine KP.alloc ?_ _ | refine KP.setCell ?_ (by assumption) _ | refine KP.ext ?_ (by assumption) | refine KP.trans ?_ (by assumption) | refine Ext.kp (by assumption))))))
                    (first
                      | (go_at_call 105; (with_reducible refine (HCI.out _ (Ext.trans XI (by (repeat (first | exact Ext.refl _ | with_reducible (first | assumption | refine Ext.drew ?_ | refine Ext.alloc ?_ _ | refine Ext.drewN ?_ _ | refine Ext.setCell ?_ (by omega) _ | refine Ext.trans ?_ (by assumption))))))).mono ?_); rintro e w5 ⟨rfl, hx5⟩)
                      | (go_at_call 179; (with_reducible refine (HAC.out _).mono ?_); rintro e w6 ⟨rfl, hx6⟩; unfold actsV)
                      | ((with_reducible refine (HDY.out _ (by (repeat (first | exact Ext.refl _ | with_reducible (first | assumption | refine Ext.drew ?_ | refine Ext.alloc ?_ _ | refine Ext.drewN ?_ _ | refine Ext.setCell ?_ (by omega) _ | refine Ext.trans ?_ (by assumption)))))).mono ?_); rintro e w7 ⟨f', rfl, hf', hW7, hk7⟩))
                  all_goals
                    have hx6w : Ext wi w6 := by (repeat (first | exact Ext.refl _ | with_reducible (first | assumption | refine Ext.drew ?_ | refine Ext.alloc ?_ _ | refine Ext.drewN ?_ _ | refine Ext.setCell ?_ (by omega) _ | refine Ext.trans ?_ (by assumption))))
                    have hk8 : KP (fun j => j = P) wi w7 := hx6w.kp.trans hk7; have hrow : RowF (w.heap.size + 1 + 1) (atF b days sown ou day d) w7 := HG.out.2.2.2.kp hk8 (by intro e; have e' : w.heap.size + 1 + 1 = P := e; omega); have hE7 : Ext w w7 := hk8.toExt XI (fun k hk => by rw [hk]; omega); obtain rfl : f' = g2 := hf' g2 rfl; have hok := HOK.out i hli _ _ _ HG.out.2.1 HHH.out; have HG2 : Hid (dayS b days ou d (i + 1) f = some f' ∧ FdsOK f' ∧ WkAt P (.int .i64 b.last) (.int .i64 b.owners) (.slice a1 b.pars.length c1) (.slice (some ⟨B2, off2, none⟩) b.ents.length c2) f' w7 ∧ RowF (w.heap.size + 1 + 1) (atF b days sown ou day d) w7) := Lib.hid ⟨by rw [dayS_do HG.out.1 (HDYE.out.symm) HOI.out.symm]; exact HHH.out, hok, hW7, hrow⟩; have hk9 := hk2.trans (hk8.weak (fun k hk => .inl hk)); clear hrow hE7 hok hW7 hk8 hk7 hf' HG HS hk2 hx5 hx6 hx6w XI q0 q1 q2 q3 t0 dc mk; (go_wp2_with fail); go_roundw
                    case rel => exact ⟨i + 1, f', by omega, by go_num, HG2, hk9⟩
                    case measure => simp [intOf]; omega
          · have hdd : (dy == (d : Int)) = false := by rw [beq_eq_false_iff_ne]; exact hA
            have HA := Lib.hid hA; clear hA HDY0; go_upto_region 8 with fail
            refine wp_region_quiet (C := Ext wi) (by kernel_rfl) (by kernel_rfl) (Ext.drew (by (repeat (first | exact Ext.refl _ | with_reducible (first | assumption | refine Ext.drew ?_ | refine Ext.alloc ?_ _ | refine Ext.drewN ?_ _ | refine Ext.setCell ?_ (by omega) _ | refine Ext.trans ?_ (by assumption)))))) ?_
            rw [show ∀ (l : List Oper), l.toArray.toList = l from fun l => rfl]
            repeat (first
              | go_big_quiet_skip
              | (go_big_quiet_want
                 first
                  | (go_big_quiet_op; go_big_quiet_on)
                  | (apply Exists.intro
                     refine ⟨fun w' hxw => ?_, ?_⟩
                     focus (have q0 := hxw.keep q0; have q1 := hxw.keep q1; have q2 := hxw.keep q2; have q3 := hxw.keep q3; have t0 := hxw.keep t0; have dc := hxw.keep dc; have mk := hxw.keep mk; go_simp; first | exact rfl | fail)
                     simp only [Act.put, List.setIfInBounds_toArray, List.set_cons_zero, List.set_cons_succ]; go_big_quiet_on)))
            refine wpQuiet_nil ?_
            intro w2 hx2
            obtain ⟨wn, rfl⟩ : ∃ x, x = w2 := ⟨_, rfl⟩; have HG2 : Hid (dayS b days ou d (i + 1) f = some g ∧ FdsOK g ∧ WkAt P (.int .i64 b.last) (.int .i64 b.owners) (.slice a1 b.pars.length c1) (.slice (some ⟨B2, off2, none⟩) b.ents.length c2) g wn ∧ RowF (w.heap.size + 1 + 1) (atF b days sown ou day d) wn) := Lib.hid ⟨dayS_skip HG.out.1 (fun h => HA.out (HDYE.out.trans h.1)), HG.out.2.1, HG.out.2.2.1.ext hx2, HG.out.2.2.2.kp (p := fun _ => False) hx2.kp id⟩; have hk3 := hk2.ext hx2; clear HG HS hk2 hx2 XI; (go_wp2_with fail); go_roundw
            case rel => exact ⟨i + 1, g, by omega, by go_num, HG2, hk3⟩
            case measure => simp [intOf]; omega
        · obtain rfl : i = b.ents.length := by omega
          have HSN := Lib.hid (state_next HS.out.1 HG.out.1); have hlt3 := HLT.out; by_cases hdd : d = day
          · have hq : ((d : Int) == (day : Int)) = true := by simp [hdd]
            have HDD := Lib.hid hdd; clear hdd; have hlF := load_work P _ _ _ _ g wi HG.out.2.2.1; have hstF := store_fields (w.heap.size + 1 + 1) _ g wi HG.out.2.2.2; go_wp2_with (first | refine step_load rfl 198 _ rfl _ _ rfl hlF ?_ | refine step_store rfl 198 _ _ rfl _ _ _ rfl rfl hstF ?_)
            go_roundw
            case rel => exact ⟨d + 1, g, by have := HLT.out; omega, by go_num, Lib.hid ⟨HSN.out, HG.out.2.1, HG.out.2.2.1.kp (p := fun j => j = w.heap.size + 1 + 1) (KP.setCells (p := fun j => j = w.heap.size + 1 + 1) rfl _ _ (KP.refl _)) (by intro e; have e' : P = w.heap.size + 1 + 1 := e; omega), by rw [← HDD.out, atF_here HSN.out]; exact HG.out.2.2.2.put⟩, KP.setCells (.inr rfl) _ _ hk2⟩
            case measure => have := HLT.out; simp [intOf]; omega
          · have hq : ((d : Int) == (day : Int)) = false := by rw [beq_eq_false_iff_ne]; omega
            have HDD := Lib.hid hdd; clear hdd; (go_wp2_with fail); go_roundw
            case rel => exact ⟨d + 1, g, by have := HLT.out; omega, by go_num, Lib.hid ⟨HSN.out, HG.out.2.1, HG.out.2.2.1, by rw [atF_else HDD.out]; exact HG.out.2.2.2⟩, hk2⟩
            case measure => have := HLT.out; simp [intOf]; omega
    · obtain rfl : d = D := by omega
      have hrf := HS.out.2.2.2; have hlF := load_fields (w.heap.size + 1 + 1) _ wo hrf; have hstF := store_fields (w.heap.size + 1 + 1) _ (atF b days sown ou day d) wo hrf; have HLV := Lib.hid (loadVar_fields (w.heap.size + 1 + 1) _ _ (hrf.put (g := atF b days sown ou day d))); have HPB := Lib.hid (HPS.out _ HS.out.1); clear hrf; go_wp2_with (first | refine step_load rfl 198 _ rfl _ _ rfl hlF ?_ | refine step_store rfl 198 _ _ rfl _ _ _ rfl rfl hstF ?_)
      exact bodyPost_ret (v := .tuple #[.agg (fdsL (atF b days sown ou day d)).toArray, .bool true]) (results_load2 rfl _ _ _ _ _ rfl HLV.out rfl) rfl ⟨⟨_, by rw [HPB.out]; rfl, fun f h => by rw [HPB.out] at h; cases h; rfl⟩, (KP.setCells (p := fun j => j = w.heap.size + 1 + 1) rfl _ _ (KP.refl wo)).toExt XO (fun k hk => by rw [hk]; omega)⟩
end Go.Proofs.YtegkdnfeceomdaaGreat
/- Contracts of layer 1: whether a truth has all days. -/
namespace Go.Hs
open Go.RowKit
theorem Ext.setCells {w0 : World} {R : Nat} (hR : w0.heap.size ≤ R) : ∀ (vs : List Value) (o : Nat) {w : World}, Ext w0 w → Ext w0 (w.setCells R o vs)
  | [], _, _, h => h
  | v :: r, o, _, h => Ext.setCells hR r (o + 1) (h.setCell hR v)
theorem size_setCells (R : Nat) : ∀ (vs : List Value) (o : Nat) (w : World), (w.setCells R o vs).heap.size = w.heap.size
  | [], _, _ => rfl
  | v :: r, o, w => by rw [World.setCells, size_setCells R r, World.size_setCell]
structure Room (R n : Nat) (w : World) : Prop where
  c : ∀ j, j < n → (w.cell? ⟨R, j, none⟩).isSome = true
  fr : ∀ (o : Nat), w.frozen? ⟨R, o, none⟩ = false
structure RowI (R : Nat) (xs : List Int) (w : World) : Prop where
  c : ∀ j (h : j < xs.length), w.cell? ⟨R, j, none⟩ = some (.int .i64 xs[j])
  fr : ∀ (o : Nat), w.frozen? ⟨R, o, none⟩ = false
theorem RowI.ext {R : Nat} {xs : List Int} {w W : World} (h : RowI R xs w) (hR : R < w.heap.size) (hx : Ext w W) : RowI R xs W :=
  ⟨fun j hj => hx.keep (h.c j hj), fun o => (hx.frozen hR).trans (h.fr o)⟩
theorem setCells_at {w : World} {R n o j : Nat} (vs : List Value) (h : ∀ j, j < n → (w.cell? ⟨R, j, none⟩).isSome = true) (hl : o + vs.length ≤ n) (hj : j < vs.length) : (w.setCells R o vs).cell? ⟨R, o + j, none⟩ = some vs[j] :=
  World.cell?_setCells_in R vs o w (fun i hi => h _ (by omega)) j hj
theorem setCells_out {w : World} {R o b j : Nat} (vs : List Value) (h : b ≠ R ∨ j < o ∨ o + vs.length ≤ j) : (w.setCells R o vs).cell? ⟨b, j, none⟩ = w.cell? ⟨b, j, none⟩ :=
  World.cell?_setCells_out R vs o w _ (fun e _ => by rcases h with h | h; exact absurd e h; exact h)
theorem Room.setCells {R n o : Nat} {w : World} (h : Room R n w) (vs : List Value) (hl : o + vs.length ≤ n) : Room R n (w.setCells R o vs) := by
  refine ⟨fun j hj => ?_, fun i => by rw [World.frozen?_setCells]; exact h.fr i⟩
  by_cases g : o ≤ j ∧ j < o + vs.length
  · obtain ⟨k, rfl⟩ : ∃ k, j = o + k := ⟨j - o, by omega⟩; rw [setCells_at vs h.c hl (by omega)]; rfl
  · rw [setCells_out vs (.inr (by omega))]; exact h.c j hj
structure Box2 (B : Nat) (a : Option Addr) (n c : Nat) (a' : Option Addr) (n' c' : Nat) (w : World) : Prop where
  c0 : w.cell? ⟨B, 0, none⟩ = some (.slice a n c)
  c1 : w.cell? ⟨B, 1, none⟩ = some (.slice a' n' c')
structure Box4 (B : Nat) (l o : Int) (a : Option Addr) (n c : Nat) (a' : Option Addr) (n' c' : Nat) (w : World) : Prop where
  c0 : w.cell? ⟨B, 0, none⟩ = some (.int .i64 l)
  c1 : w.cell? ⟨B, 1, none⟩ = some (.int .i64 o)
  c2 : w.cell? ⟨B, 2, none⟩ = some (.slice a n c)
  c3 : w.cell? ⟨B, 3, none⟩ = some (.slice a' n' c')
structure Two (R : Nat) (xs : List Int) (n : Nat) (w : World) : Prop where
  r : Room R (xs.length + n) w
  c : ∀ j (h : j < xs.length), w.cell? ⟨R, j, none⟩ = some (.int .i64 xs[j])
theorem two_one {R n : Nat} {xs : List Int} {w : World} (h : Room R (xs.length + n) w) : Two R xs n (w.setCells R 0 (xs.map (.int .i64))).drew := by
  have h1 := h.setCells (xs.map (.int .i64)) (o := 0) (by simp); refine ⟨⟨h1.c, h1.fr⟩, fun j g => ?_⟩
  have := setCells_at (o := 0) (xs.map (.int .i64)) h.c (by simp) (j := j) (by simpa using g); rw [Nat.zero_add] at this; refine Eq.trans ?_ (this.trans (by simp))
  rfl
theorem two_two {R : Nat} {xs ys : List Int} {w : World} (h : Two R xs ys.length w) : RowI R (xs ++ ys) (w.setCells R xs.length (ys.map (.int .i64))) := by
  refine ⟨fun j hj => ?_, fun o => by rw [World.frozen?_setCells]; exact h.r.fr o⟩
  rw [List.length_append] at hj; by_cases g : j < xs.length
  · rw [setCells_out _ (.inr (.inl g)), h.c j g]; simp [List.getElem_append_left g]
  · obtain ⟨k, rfl⟩ : ∃ k, j = xs.length + k := ⟨j - xs.length, by omega⟩; have := setCells_at (o := xs.length) (ys.map (.int .i64)) h.r.c (by simp) (j := k) (by simp; omega); rw [this]; simp [List.getElem_append_right]
theorem rngsB_len (b : Bk) : (rngsB b).length = b.ents.length + b.pars.length := by simp [rngsB]
theorem listedK_eq {b : Bk} {days sown : List Int} (h1 : days.length = b.ents.length) (h2 : sown.length = b.pars.length) : listedK b days sown = (List.range (rngsB b).length).all (fun i => inR ((days ++ sown).getD i 0) ((rngsB b).getD i default).1 ((rngsB b).getD i default).2) := by
  rw [Bool.eq_iff_iff]; unfold listedK; rw [decide_eq_true h1, decide_eq_true h2, Bool.true_and, Bool.true_and, Bool.and_eq_true, List.all_eq_true, List.all_eq_true, List.all_eq_true, rngsB_len]; simp only [List.mem_range]
  have hA : ∀ i, i < b.ents.length → (days ++ sown).getD i 0 = days.getD i 0 ∧ (rngsB b).getD i default = ((b.ents.getD i default).dlo, (b.ents.getD i default).dhi) := fun i hi => by
    have : i < days.length := by omega
    simp [rngsB, List.getElem?_append_left, this, hi]
  have hB : ∀ i, i < b.pars.length → (days ++ sown).getD (b.ents.length + i) 0 = sown.getD i 0 ∧ (rngsB b).getD (b.ents.length + i) default = ((b.pars.getD i default).slo, (b.pars.getD i default).shi) := fun i hi => by
    have : i < sown.length := by omega
    rw [← h1]; simp [rngsB, List.getElem?_append_right, this, hi, h1]
  constructor
  · rintro ⟨p, q⟩ i hi; by_cases h : i < b.ents.length
    · rw [(hA i h).1, (hA i h).2]; exact p i h
    · obtain ⟨k, rfl⟩ : ∃ k, i = b.ents.length + k := ⟨i - b.ents.length, by omega⟩; rw [(hB k (by omega)).1, (hB k (by omega)).2]; exact q k (by omega)
  · intro p
    refine ⟨fun i hi => ?_, fun i hi => ?_⟩
    · have := p i (by omega); rw [(hA i hi).1, (hA i hi).2] at this; exact this
    · have := p (b.ents.length + i) (by omega); rw [(hB i hi).1, (hB i hi).2] at this; exact this
end Go.Hs
namespace Go.Proofs.YtegkdnfeceomdaaGreat
open Go.RowKit Go.Hs
attribute [local irreducible] World.setCell World.alloc
theorem copy_ints (W : World) (R o n q : Nat) (xs : List Int) (a : Option Addr) (c : Nat) (hv : Hs.Rows IntAt 1 W a xs) (hc : ∀ j, j < xs.length → (W.cell? ⟨R, o + j, none⟩).isSome = true) (hf : ∀ o, W.frozen? ⟨R, o, none⟩ = false) (hn : xs.length ≤ n) (p : Option Addr) (hp : xs.length ≠ 0 → p = some ⟨R, o, none⟩) :
    (Builtin.copy_ #[22, 22] 3 #[.slice p n q, .slice a xs.length c]).run Tryz.prog W = .ok (.int .i64 xs.length) (W.setCells R o (xs.map (.int .i64))) := by
  have hs : (Tryz.prog.info? 3).map (·.size) = some 1 := by
    obtain ⟨i, hi, h0, h1, h2⟩ := info_parts info_int; rw [hi]; exact congrArg some h1
  by_cases h0 : xs.length = 0
  · have e : xs = [] := List.eq_nil_of_length_eq_zero h0; subst e; exact run_copy_none W _ _ _ 3 p a n q 0 c Tryz.underlying22 hs (by simp)
  · obtain ⟨b, off, rfl, -⟩ := hv 0 (by omega); rw [hp h0]; have hm : (xs.map (Value.int .i64)).length = Nat.min xs.length n := by rw [List.length_map]; exact (Nat.min_eq_left hn).symm
    have := run_copy_cells (P := Tryz.prog) W 22 22 3 3 R o n q ⟨b, off, none⟩ xs.length c (xs.map (.int .i64)) Tryz.underlying22 hs hm
      (fun j u hj => by
        have hj' : j < xs.length := by
          rcases Nat.lt_or_ge j xs.length with h | h
          · exact h
          · rw [List.getElem?_eq_none (by simpa using h)] at hj; cases hj
        have h1 := (Rows.at hv j hj').1; rw [Nat.mul_one] at h1; rw [add_none']; simp [hj'] at hj
        rw [← hj]; exact h1)
      (fun j hj => hc j (by simpa using hj)) (fun j _ => hf _)
      (fun u hu => by obtain ⟨x, -, rfl⟩ := List.mem_map.1 hu; rfl)
    rw [List.length_map] at this; exact this
set_option maxRecDepth 100000 in
set_option maxHeartbeats 4000000 in
theorem listed_p (b : Bk) (v vd vs : Value) (days sown : List Int) (w : World) (hv : BkV w v b) (hd : IntsV w vd days) (hs : IntsV w vs sown) (h1 : days.length ≤ 1000) (h2 : sown.length ≤ 1000) :
    Calls Tryz.prog 162 #[v, .agg #[vd, vs]] w fun e w' => e = .returned (.bool (listedK b days sown)) ∧ Ext w w' := by
  have HRG : Hid (∀ W v, BkV W v b → Calls Tryz.prog 138 #[v] W fun e w' => ∃ a q, e = .returned (.slice a (rngsB b).length q) ∧ Hs.Own 2 rngC W.heap.size 123 w' (.slice a (rngsB b).length q) (rngsB b) ∧ Ext W w') := Lib.hid (fun W v h => ranges_p b v W h); have HB : Hid (∀ W, Ext w W → BkV W v b) := Lib.hid (fun W hx => hv.ext hx); obtain ⟨a1, c1, a2, c2, rfl, -⟩ := hv.open; clear hv; obtain ⟨ad, cd, rfl, hd1, hd2, hdr⟩ := hd; obtain ⟨az, cs, rfl, hs1, hs2, hsr⟩ := hs; have HD : Hid (∀ W, Ext w W → Hs.Rows IntAt 1 W ad days) := Lib.hid (fun W hx => hdr.ext (IntAt.ext hx)); have HS : Hid (∀ W, Ext w W → Hs.Rows IntAt 1 W az sown) := Lib.hid (fun W hx => hsr.ext (IntAt.ext hx)); clear hdr hsr hd1 hs1 hd2 hs2; have w1 : IntKind.i64.wrap ((days.length : Int) + (sown.length : Int)) = ((days.length + sown.length : Nat) : Int) := by rw [IntWalk.i64_in _ (by omega)]; omega
  have hmk := run_make_row' (P := Tryz.prog) 22 3 (.int .i64 0) 8 Tryz.underlying22 info_int rfl .i64 .i64 (days.length + sown.length) (by omega) (by omega); simp only [Int.natCast_add] at hmk; have hnn : days.length + sown.length ≤ 2000 := by omega
  obtain ⟨r, hr⟩ : ∃ r, r = listedK b days sown := ⟨_, rfl⟩; have HLK := Lib.hid hr; rw [← hr]; clear hr; unfold bkV at *; go_enter Tryz.func162, Tryz.ntmps162
  (go_wp2_with fail); have X0 : Ext w (((w.alloc (.cells #[.int .i64 b.last, .int .i64 b.owners, .slice a1 b.pars.length c1, .slice a2 b.ents.length c2] 52)).alloc (.cells #[.slice ad days.length cd, .slice az sown.length cs] 59)).alloc (.cells (madeCells #[.int .i64 0] (days.length + sown.length)) 3)) := by (repeat (first | exact Ext.refl _ | with_reducible (first | assumption | refine Ext.drew ?_ | refine Ext.alloc ?_ _ | refine Ext.drewN ?_ _ | refine Ext.setCell ?_ (by omega) _ | refine Ext.trans ?_ (by assumption))))
  have HRM : Hid (Room (w.heap.size + 1 + 1) (days.length + sown.length) (((w.alloc (.cells #[.int .i64 b.last, .int .i64 b.owners, .slice a1 b.pars.length c1, .slice a2 b.ents.length c2] 52)).alloc (.cells #[.slice ad days.length cd, .slice az sown.length cs] 59)).alloc (.cells (madeCells #[.int .i64 0] (days.length + sown.length)) 3))) := Lib.hid ⟨fun j hj => by
    have h0 := heap_alloc_new ((w.alloc (.cells #[.int .i64 b.last, .int .i64 b.owners, .slice a1 b.pars.length c1, .slice a2 b.ents.length c2] 52)).alloc (.cells #[.slice ad days.length cd, .slice az sown.length cs] 59)) (.cells (madeCells #[.int .i64 0] (days.length + sown.length)) 3); rw [World.size_alloc, World.size_alloc] at h0; have h := cell_of_row _ _ j _ _ (0, 0) h0; rw [h]; simp [madeCells, hj], fun o => by simp [go_sem]⟩
  have HBX : Hid (∀ W, Ext ((w.alloc (.cells #[.int .i64 b.last, .int .i64 b.owners, .slice a1 b.pars.length c1, .slice a2 b.ents.length c2] 52)).alloc (.cells #[.slice ad days.length cd, .slice az sown.length cs] 59)) W → Box4 w.heap.size b.last b.owners a1 b.pars.length c1 a2 b.ents.length c2 W ∧ Box2 (w.heap.size + 1) ad days.length cd az sown.length cs W) := Lib.hid (fun W hx => by
    refine ⟨⟨hx.keep ?_, hx.keep ?_, hx.keep ?_, hx.keep ?_⟩, hx.keep ?_, hx.keep ?_⟩ <;> simp [go_sem])
  have X2 : Ext ((w.alloc (.cells #[.int .i64 b.last, .int .i64 b.owners, .slice a1 b.pars.length c1, .slice a2 b.ents.length c2] 52)).alloc (.cells #[.slice ad days.length cd, .slice az sown.length cs] 59)) (((w.alloc (.cells #[.int .i64 b.last, .int .i64 b.owners, .slice a1 b.pars.length c1, .slice a2 b.ents.length c2] 52)).alloc (.cells #[.slice ad days.length cd, .slice az sown.length cs] 59)).alloc (.cells (madeCells #[.int .i64 0] (days.length + sown.length)) 3)) := (Ext.refl _).alloc _; have hR : ((w.alloc (.cells #[.int .i64 b.last, .int .i64 b.owners, .slice a1 b.pars.length c1, .slice a2 b.ents.length c2] 52)).alloc (.cells #[.slice ad days.length cd, .slice az sown.length cs] 59)).heap.size ≤ w.heap.size + 1 + 1 := by simp
  have hw2 : w.heap.size ≤ ((w.alloc (.cells #[.int .i64 b.last, .int .i64 b.owners, .slice a1 b.pars.length c1, .slice a2 b.ents.length c2] 52)).alloc (.cells #[.slice ad days.length cd, .slice az sown.length cs] 59)).heap.size := by simp; omega
  have hsz : w.heap.size + 1 + 1 + 1 ≤ (((w.alloc (.cells #[.int .i64 b.last, .int .i64 b.owners, .slice a1 b.pars.length c1, .slice a2 b.ents.length c2] 52)).alloc (.cells #[.slice ad days.length cd, .slice az sown.length cs] 59)).alloc (.cells (madeCells #[.int .i64 0] (days.length + sown.length)) 3)).heap.size := by simp
  generalize (((w.alloc (.cells #[.int .i64 b.last, .int .i64 b.owners, .slice a1 b.pars.length c1, .slice a2 b.ents.length c2] 52)).alloc (.cells #[.slice ad days.length cd, .slice az sown.length cs] 59)).alloc (.cells (madeCells #[.int .i64 0] (days.length + sown.length)) 3)) = W0 at *; generalize ((w.alloc (.cells #[.int .i64 b.last, .int .i64 b.owners, .slice a1 b.pars.length c1, .slice a2 b.ents.length c2] 52)).alloc (.cells #[.slice ad days.length cd, .slice az sown.length cs] 59)) = V0 at *; clear hmk; obtain ⟨R, hRR⟩ : ∃ R, R = w.heap.size + 1 + 1 := ⟨_, rfl⟩; rw [← hRR] at HRM hR ⊢; have hcp1 := copy_ints W0 R 0 (days.length + sown.length) (days.length + sown.length) days ad cd (HD.out _ X0) (fun j hj => by rw [Nat.zero_add]; exact HRM.out.c j (by omega)) HRM.out.fr (by omega) (some ⟨R, 0, none⟩) (fun _ => rfl); have X3 : Ext V0 (W0.setCells R 0 (days.map (.int .i64))) := Ext.setCells hR _ _ X2; have X4 : Ext w (W0.setCells R 0 (days.map (.int .i64))) := Ext.setCells (by omega) _ _ X0; have HRM1 : Hid (Two R days sown.length (W0.setCells R 0 (days.map (.int .i64))).drew) := Lib.hid (two_one HRM.out)
  have hs6 : R < (W0.setCells R 0 (days.map (.int .i64))).heap.size := by
    rw [size_setCells]; omega
  generalize W0.setCells R 0 (days.map (.int .i64)) = W1 at *; obtain ⟨⟨b0, b1, b2, b3⟩, t0, t1⟩ := HBX.out W1 X3; have hwR : w.heap.size ≤ R := by omega
  have HRR := Lib.hid hRR; clear HRM X2 hRR; rw [hcp1]; (go_wp2_with fail); clear hcp1; have X3 := X3.drew; have X4 := X4.drew; have g0 : (0 : Int) ≤ (days.length : Int) := by omega
  have g1 : (days.length : Int) ≤ (days.length : Int) + (sown.length : Int) := by omega
  have g2 : days.length + sown.length - days.length = sown.length := by omega
  have HCP : Hid (∀ p, (sown.length ≠ 0 → p = some ⟨R, days.length, none⟩) → (Builtin.copy_ #[22, 22] 3 #[.slice p sown.length sown.length, .slice az sown.length cs]).run Tryz.prog W1.drew = .ok (.int .i64 sown.length) (W1.drew.setCells R days.length (sown.map (.int .i64)))) := Lib.hid (fun p hp => copy_ints _ R days.length sown.length sown.length sown az cs (HS.out _ X4) (fun j hj => HRM1.out.r.c _ (by omega)) HRM1.out.r.fr (Nat.le_refl _) p hp); have HRL : Hid (RowI R (days ++ sown) (W1.drew.setCells R days.length (sown.map (.int .i64)))) := Lib.hid (two_two HRM1.out); have X5 : Ext V0 (W1.drew.setCells R days.length (sown.map (.int .i64))) := Ext.setCells hR _ _ X3; have X6 : Ext w (W1.drew.setCells R days.length (sown.map (.int .i64))) := Ext.setCells (by omega) _ _ X4
  have hs7 : R < (W1.drew.setCells R days.length (sown.map (.int .i64))).heap.size := by
    rw [size_setCells]; exact hs6
  generalize W1.drew.setCells R days.length (sown.map (.int .i64)) = W2 at *; obtain ⟨⟨d0, d1, d2, d3⟩, u0, u1⟩ := HBX.out W2 X5; clear X3 X4 hs6; have hcp := HCP.out (if sown = [] then some ⟨R, 0, none⟩ else some ⟨R, days.length, none⟩) (fun h => if_neg (fun e => h (by rw [e]; rfl))); clear HCP; go_region; clear g2 hcp; generalize (if sown = [] then some (⟨R, 0, none⟩ : Addr) else some ⟨R, days.length, none⟩) = pz; by_cases e1 : days.length = b.ents.length
  by_cases e2 : sown.length = b.pars.length
  · have z1 : ((days.length : Int) != (b.ents.length : Int)) = false := by rw [e1]; simp
    have z2 : ((sown.length : Int) != (b.pars.length : Int)) = false := by rw [e2]; simp
    have HP := Lib.hid (HLK.out.trans (listedK_eq e1 e2)); have HLN := Lib.hid (rngsB_len b); have E1 := Lib.hid e1; have E2 := Lib.hid e2; have HLL : Hid ((rngsB b).length = (days ++ sown).length) := Lib.hid (by rw [HLN.out, List.length_append, e1, e2]); clear e1 e2; clear HLK; have HBW := Lib.hid (HB.out W2 X6); clear HB; (go_wp2_with fail); (with_reducible refine (HRG.out _ _ HBW.out).mono ?_); rintro e w5 ⟨al, ql, rfl, hown, hx5⟩; have HO := Lib.hid hown; have X7 : Ext w w5 := X6.trans hx5; have HRV : Hid (RowI R (days ++ sown) w5) := Lib.hid (HRL.out.ext hs7 hx5); have hs8 : R < w5.heap.size := Nat.lt_of_lt_of_le hs7 hx5.size; clear hown hx5 HRL HRG HBW X5 X6 d0 d1 d2 d3 u0 u1 b0 b1 b2 b3 t0 t1 HRM1; generalize rngsB b = rs at *; generalize hl : days ++ sown = l at *; have hll : l.length = days.length + sown.length := by rw [← hl, List.length_append]
    clear hl; have hle : rs.length ≤ days.length + sown.length := by have := HLL.out; omega
    (go_wp2_with fail); go_loopw [47] (fun s47 wr => ∃ k : Nat, k ≤ rs.length ∧ s47 = .int .i64 k ∧ Hid (∀ j, j < k → inR (l.getD j 0) (rs.getD j default).1 (rs.getD j default).2 = true) ∧ Ext w5 wr) (fun s _ => rs.length - (intOf s).toNat)
    case atStart => exact ⟨0, Nat.zero_le _, rfl, Lib.hid (fun j hj => absurd hj (Nat.not_lt_zero _)), Ext.refl _⟩
    case round =>
      obtain ⟨k, hk, rfl, HJ, hx⟩ := hrel; obtain ⟨wo, rfl⟩ : ∃ x, x = wr := ⟨_, rfl⟩; by_cases hlt : k < rs.length
      · obtain ⟨g, rfl, -, -, hc⟩ := Hs.Own.at rngC_len HO.out hlt; have m0 := hx.keep (hc 0 _ rfl); have m1 := hx.keep (hc 1 _ rfl); simp only [Nat.add_zero] at m0; have v0 := hx.keep (HRV.out.c k (by omega)); have HX1 : Hid (l.getD k 0 = l[k]'(by omega)) := Lib.hid (by simp [show k < l.length by omega]); have HX2 : Hid (rs.getD k default = rs[k]) := Lib.hid (by simp [hlt]); generalize l[k]'(by omega) = x at *; generalize rs[k] = rr at *; obtain ⟨lo, hi⟩ := rr; simp only at m0 m1; clear hc; have hk0 : (0 : Int) ≤ (k : Int) := by omega
        have hk1 : (k : Int) < (rs.length : Int) := by omega
        have hk2 : (k : Int) < ((days.length + sown.length : Nat) : Int) := by omega
        have hk3 : (k : Int) < (days.length : Int) + (sown.length : Int) := by omega
        have HIN : Hid (inR (l.getD k 0) (rs.getD k default).1 (rs.getD k default).2 = inR x lo hi) := Lib.hid (by rw [HX1.out, HX2.out]); have HHS := Lib.hid (has_p lo hi x); clear HX1 HX2; cases hq : inR x lo hi with
        | true =>
          rw [hq] at HIN HHS; clear hq; (go_wp2_with fail); have y0 : (wo.alloc (.cells #[.int .i64 lo, .int .i64 hi] 123)).cell? ⟨wo.heap.size, 0, none⟩ = some (.int .i64 lo) := by simp [go_sem]
          have y1 : (wo.alloc (.cells #[.int .i64 lo, .int .i64 hi] 123)).cell? ⟨wo.heap.size, 1, none⟩ = some (.int .i64 hi) := by simp [go_sem]
          have v0 : (wo.alloc (.cells #[.int .i64 lo, .int .i64 hi] 123)).cell? ⟨R, k, none⟩ = some (.int .i64 x) := ((Ext.refl _).alloc _).keep v0; have hx8 := hx.alloc (.cells #[.int .i64 lo, .int .i64 hi] 123); generalize wo.alloc (.cells #[.int .i64 lo, .int .i64 hi] 123) = w6 at *; refine wp_region_quiet (C := Ext w6) (by kernel_rfl) (by kernel_rfl) (Ext.drew (by (repeat (first | exact Ext.refl _ | with_reducible (first | assumption | refine Ext.drew ?_ | refine Ext.alloc ?_ _ | refine Ext.drewN ?_ _ | refine Ext.setCell ?_ (by omega) _ | refine Ext.trans ?_ (by assumption)))))) ?_
          rw [show ∀ (l : List Oper), l.toArray.toList = l from fun l => rfl]
          repeat (first
            | go_big_quiet_skip
            | (go_big_quiet_want
               first
                | (go_big_quiet_op; go_big_quiet_on)
                | (apply Exists.intro
                   refine ⟨fun w' hxw => ?_, ?_⟩
                   focus (have y0 := hxw.keep y0; have y1 := hxw.keep y1; have v0 := hxw.keep v0; go_simp; first | exact rfl | (with_reducible refine (HHS.out w').mono ?_; exact fun e w'' h => ⟨h.1, hxw.trans h.2⟩))
                   simp only [Act.put, List.setIfInBounds_toArray, List.set_cons_zero, List.set_cons_succ]; go_big_quiet_on)))
          refine wpQuiet_nil ?_
          intro w2 hx2
          have X9 := hx8.trans hx2; clear hx2 y0 y1 v0; (go_wp2_with fail); go_roundw
          case rel => exact ⟨k + 1, by omega, by go_num, Lib.hid (fun j hj => by
            by_cases e : j = k
            · rw [e]; exact HIN.out
            · exact HJ.out j (by omega)), X9⟩
          case measure => simp [intOf]; omega
        | false =>
          rw [hq] at HIN HHS; clear hq
          obtain rfl : r = false := by
            rw [HP.out, List.all_eq_false]; exact ⟨k, by simp [hlt], by rw [HIN.out]; simp⟩
          (go_wp2_with fail); have y0 : (wo.alloc (.cells #[.int .i64 lo, .int .i64 hi] 123)).cell? ⟨wo.heap.size, 0, none⟩ = some (.int .i64 lo) := by simp [go_sem]
          have y1 : (wo.alloc (.cells #[.int .i64 lo, .int .i64 hi] 123)).cell? ⟨wo.heap.size, 1, none⟩ = some (.int .i64 hi) := by simp [go_sem]
          have v0 : (wo.alloc (.cells #[.int .i64 lo, .int .i64 hi] 123)).cell? ⟨R, k, none⟩ = some (.int .i64 x) := ((Ext.refl _).alloc _).keep v0; have hx8 := hx.alloc (.cells #[.int .i64 lo, .int .i64 hi] 123); generalize wo.alloc (.cells #[.int .i64 lo, .int .i64 hi] 123) = w6 at *; refine wp_region_quiet (C := Ext w6) (by kernel_rfl) (by kernel_rfl) (Ext.drew (by (repeat (first | exact Ext.refl _ | with_reducible (first | assumption | refine Ext.drew ?_ | refine Ext.alloc ?_ _ | refine Ext.drewN ?_ _ | refine Ext.setCell ?_ (by omega) _ | refine Ext.trans ?_ (by assumption)))))) ?_
          rw [show ∀ (l : List Oper), l.toArray.toList = l from fun l => rfl]
          repeat (first
            | go_big_quiet_skip
            | (go_big_quiet_want
               first
                | (go_big_quiet_op; go_big_quiet_on)
                | (apply Exists.intro
                   refine ⟨fun w' hxw => ?_, ?_⟩
                   focus (have y0 := hxw.keep y0; have y1 := hxw.keep y1; have v0 := hxw.keep v0; go_simp; first | exact rfl | (with_reducible refine (HHS.out w').mono ?_; exact fun e w'' h => ⟨h.1, hxw.trans h.2⟩))
                   simp only [Act.put, List.setIfInBounds_toArray, List.set_cons_zero, List.set_cons_succ]; go_big_quiet_on)))
          refine wpQuiet_nil ?_
          intro w2 hx2
          have X9 := hx8.trans hx2; clear hx2 y0 y1 v0; (go_wp2_with fail); go_ret; exact ⟨by rfl, X7.trans X9⟩
      · obtain rfl : k = rs.length := by omega
        obtain rfl : r = true := by
          rw [HP.out, List.all_eq_true]; intro j hj
          exact HJ.out j (by simpa using hj)
        (go_wp2_with fail); go_ret; exact ⟨rfl, X7.trans hx⟩
  · have z1 : ((days.length : Int) != (b.ents.length : Int)) = false := by rw [e1]; simp
    have z2 : ((sown.length : Int) != (b.pars.length : Int)) = true := by rw [bne_iff_ne]; omega
    have HF : Hid (r = false) := Lib.hid (by rw [HLK.out]; unfold listedK; rw [decide_eq_false e2]; simp); obtain rfl : r = false := HF.out; clear HF HLK e1 e2; (go_wp2_with fail); go_ret; exact ⟨rfl, X6⟩
  · have z1 : ((days.length : Int) != (b.ents.length : Int)) = true := by rw [bne_iff_ne]; omega
    have HF : Hid (r = false) := Lib.hid (by rw [HLK.out]; unfold listedK; rw [decide_eq_false e1]; simp); obtain rfl : r = false := HF.out; clear HF HLK e1; (go_wp2_with fail); go_ret; exact ⟨rfl, X6⟩
end Go.Proofs.YtegkdnfeceomdaaGreat
/- Contracts of layer 1: whether a parcel is covered. -/
namespace Go.Proofs.YtegkdnfeceomdaaGreat
open Go.RowKit Go.Hs
attribute [local irreducible] World.setCell World.alloc
abbrev fdVal (x : Hs.Fd) : Value := .agg #[.bool x.there, .bool x.gone, .int .i64 x.owner, .int .i64 x.value, .int .i64 x.sown]
set_option maxRecDepth 100000 in
theorem covered_p (x : Hs.Fd) (day : Int) (w : World) : Calls Tryz.prog 118 #[fdVal x, .int .i64 day] w fun e w' => e = .returned (.bool (x.covers day)) ∧ Ext w w' := by
  have HC : Hid (x.covers day = (x.there && (!x.gone && decide (x.sown ≤ day)))) := rfl; generalize x.covers day = r at *; obtain ⟨th, go, ow, va, so⟩ := x; unfold fdVal; simp only at HC ⊢; cases th with
  | false =>
    obtain rfl : r = false := HC.out; clear HC; go_enter Tryz.func118, Tryz.ntmps118
    (go_wp2_with fail); go_ret; exact ⟨rfl, by (repeat (first | exact Ext.refl _ | with_reducible (first | assumption | refine Ext.drew ?_ | refine Ext.alloc ?_ _ | refine Ext.drewN ?_ _ | refine Ext.setCell ?_ (by omega) _ | refine Ext.trans ?_ (by assumption))))⟩
  | true =>
    cases go with
    | true =>
      obtain rfl : r = false := HC.out; clear HC; go_enter Tryz.func118, Tryz.ntmps118
      (go_wp2_with fail); go_ret; exact ⟨rfl, by (repeat (first | exact Ext.refl _ | with_reducible (first | assumption | refine Ext.drew ?_ | refine Ext.alloc ?_ _ | refine Ext.drewN ?_ _ | refine Ext.setCell ?_ (by omega) _ | refine Ext.trans ?_ (by assumption))))⟩
    | false =>
      by_cases h : so ≤ day
      · have hd : decide (so ≤ day) = true := decide_eq_true h; obtain rfl : r = true := by rw [HC.out, hd]; rfl
        clear HC; go_enter Tryz.func118, Tryz.ntmps118
        (go_wp2_with fail); go_ret; exact ⟨rfl, by (repeat (first | exact Ext.refl _ | with_reducible (first | assumption | refine Ext.drew ?_ | refine Ext.alloc ?_ _ | refine Ext.drewN ?_ _ | refine Ext.setCell ?_ (by omega) _ | refine Ext.trans ?_ (by assumption))))⟩
      · have hd : decide (so ≤ day) = false := decide_eq_false h; obtain rfl : r = false := by rw [HC.out, hd]; rfl
        clear HC; go_enter Tryz.func118, Tryz.ntmps118
        (go_wp2_with fail); go_ret; exact ⟨rfl, by (repeat (first | exact Ext.refl _ | with_reducible (first | assumption | refine Ext.drew ?_ | refine Ext.alloc ?_ _ | refine Ext.drewN ?_ _ | refine Ext.setCell ?_ (by omega) _ | refine Ext.trans ?_ (by assumption))))⟩
end Go.Proofs.YtegkdnfeceomdaaGreat
/- Contracts of layer 1: Play. -/
namespace Go.Hs
open Go.RowKit
def playK (b : Bk) (days sown : List Int) (day : Int) : Int :=
  if bookE b ≠ 0 then bookE b else if listedK b days sown && dayB b day then (if (playB b days sown day.toNat (fun _ => false)).isSome then 0 else 11) else 2
theorem bks_of {b : Bk} (h : bookE b = 0) : BkS b := by
  unfold bookE at h; split at h
  · cases h
  · split at h
    · rename_i h1 h2
      simp only [Bool.and_eq_true, decide_eq_true_eq, inR_iff, List.all_eq_true] at h2; exact ⟨by omega, by omega, by omega, h2.1, h2.2.2.1, h2.2.2.2⟩
    · cases h
theorem dayB_iff {b : Bk} {n : Int} : dayB b n = true ↔ 0 ≤ n ∧ n ≤ b.last := inR_iff
theorem listed_lenK {b : Bk} {days sown : List Int} (h : listedK b days sown = true) : days.length = b.ents.length ∧ sown.length = b.pars.length := by
  unfold listedK at h; simp only [Bool.and_eq_true, decide_eq_true_eq] at h; exact ⟨h.1, h.2.1⟩
def holdC (day : Int) (x : Hs.Fd) : List Value := [.bool x.there, .bool (x.covers day), .int .i64 x.owner, .int .i64 x.value]
theorem holdC_len (day : Int) (x : Hs.Fd) : (holdC day x).length = 4 := rfl
theorem cells_four {w wa : World} {b : Nat} {x y z u : Value} {t : TypeId} (h : Ext (w.alloc (.cells #[x, y, z, u] t)) wa) (hb : b = w.heap.size) : ∀ j v, ([x, y, z, u] : List Value)[j]? = some v → wa.cell? ((⟨b, 0, none⟩ : Addr).add j) = some v := by
  subst hb; intro j v hj
  have e : ∀ j, (⟨w.heap.size, 0, none⟩ : Addr).add j = ⟨w.heap.size, j, none⟩ := fun j => by unfold Addr.add; split <;> simp_all
  rw [e]; rcases j with _ | _ | _ | _ | j
  all_goals first
    | (simp at hj; subst hj; exact h.keep (by simp [go_sem]))
    | (simp at hj)
end Go.Hs
namespace Go.Proofs.YtegkdnfeceomdaaGreat
open Go.RowKit Go.Hs
attribute [local irreducible] World.setCell World.alloc
theorem rowf_new (w : World) : RowF w.heap.size (fun _ => Hs.Fd.zero) (w.alloc (.cells #[.bool false, .bool false, .int .i64 0, .int .i64 0, .int .i64 0, .bool false, .bool false, .int .i64 0, .int .i64 0, .int .i64 0, .bool false, .bool false, .int .i64 0, .int .i64 0, .int .i64 0, .bool false, .bool false, .int .i64 0, .int .i64 0, .int .i64 0, .bool false, .bool false, .int .i64 0, .int .i64 0, .int .i64 0, .bool false, .bool false, .int .i64 0, .int .i64 0, .int .i64 0, .bool false, .bool false, .int .i64 0, .int .i64 0, .int .i64 0, .bool false, .bool false, .int .i64 0, .int .i64 0, .int .i64 0, .bool false, .bool false, .int .i64 0, .int .i64 0, .int .i64 0, .bool false, .bool false, .int .i64 0, .int .i64 0, .int .i64 0] 198)) := ⟨range_fds (fun i hi => by
    rcases i with _ | _ | _ | _ | _ | _ | _ | _ | _ | _ | i
    all_goals first | omega | exact ⟨by simp [go_sem, Hs.Fd.zero], by simp [go_sem, Hs.Fd.zero], by simp [go_sem, Hs.Fd.zero], by simp [go_sem, Hs.Fd.zero], by simp [go_sem, Hs.Fd.zero]⟩), fun o => by simp [go_sem]⟩
theorem store_new (g : Fds) (w : World) : (storeCells ⟨w.heap.size, 0, none⟩ (fdsL g)).run Tryz.prog (w.alloc (.cells #[.bool false, .bool false, .int .i64 0, .int .i64 0, .int .i64 0, .bool false, .bool false, .int .i64 0, .int .i64 0, .int .i64 0, .bool false, .bool false, .int .i64 0, .int .i64 0, .int .i64 0, .bool false, .bool false, .int .i64 0, .int .i64 0, .int .i64 0, .bool false, .bool false, .int .i64 0, .int .i64 0, .int .i64 0, .bool false, .bool false, .int .i64 0, .int .i64 0, .int .i64 0, .bool false, .bool false, .int .i64 0, .int .i64 0, .int .i64 0, .bool false, .bool false, .int .i64 0, .int .i64 0, .int .i64 0, .bool false, .bool false, .int .i64 0, .int .i64 0, .int .i64 0, .bool false, .bool false, .int .i64 0, .int .i64 0, .int .i64 0] 198)) = .ok () ((w.alloc (.cells #[.bool false, .bool false, .int .i64 0, .int .i64 0, .int .i64 0, .bool false, .bool false, .int .i64 0, .int .i64 0, .int .i64 0, .bool false, .bool false, .int .i64 0, .int .i64 0, .int .i64 0, .bool false, .bool false, .int .i64 0, .int .i64 0, .int .i64 0, .bool false, .bool false, .int .i64 0, .int .i64 0, .int .i64 0, .bool false, .bool false, .int .i64 0, .int .i64 0, .int .i64 0, .bool false, .bool false, .int .i64 0, .int .i64 0, .int .i64 0, .bool false, .bool false, .int .i64 0, .int .i64 0, .int .i64 0, .bool false, .bool false, .int .i64 0, .int .i64 0, .int .i64 0, .bool false, .bool false, .int .i64 0, .int .i64 0, .int .i64 0] 198)).setCells w.heap.size 0 (fdsL g)) := by
  have hr := rowf_new w; generalize w.alloc (.cells #[.bool false, .bool false, .int .i64 0, .int .i64 0, .int .i64 0, .bool false, .bool false, .int .i64 0, .int .i64 0, .int .i64 0, .bool false, .bool false, .int .i64 0, .int .i64 0, .int .i64 0, .bool false, .bool false, .int .i64 0, .int .i64 0, .int .i64 0, .bool false, .bool false, .int .i64 0, .int .i64 0, .int .i64 0, .bool false, .bool false, .int .i64 0, .int .i64 0, .int .i64 0, .bool false, .bool false, .int .i64 0, .int .i64 0, .int .i64 0, .bool false, .bool false, .int .i64 0, .int .i64 0, .int .i64 0, .bool false, .bool false, .int .i64 0, .int .i64 0, .int .i64 0, .bool false, .bool false, .int .i64 0, .int .i64 0, .int .i64 0] 198) = W at *
  exact run_storeCells_cells (P := Tryz.prog) w.heap.size 0 (fdsL g) 0 W (fun j hj => by
    rw [fdsL_len] at hj; have := (hr.there j hj).1; rwa [Nat.add_zero, Nat.zero_add] at *) (fun j _ => hr.fr _) (fdsL_one g)
theorem rowf_put (g : Fds) (w : World) : RowF w.heap.size g ((w.alloc (.cells #[.bool false, .bool false, .int .i64 0, .int .i64 0, .int .i64 0, .bool false, .bool false, .int .i64 0, .int .i64 0, .int .i64 0, .bool false, .bool false, .int .i64 0, .int .i64 0, .int .i64 0, .bool false, .bool false, .int .i64 0, .int .i64 0, .int .i64 0, .bool false, .bool false, .int .i64 0, .int .i64 0, .int .i64 0, .bool false, .bool false, .int .i64 0, .int .i64 0, .int .i64 0, .bool false, .bool false, .int .i64 0, .int .i64 0, .int .i64 0, .bool false, .bool false, .int .i64 0, .int .i64 0, .int .i64 0, .bool false, .bool false, .int .i64 0, .int .i64 0, .int .i64 0, .bool false, .bool false, .int .i64 0, .int .i64 0, .int .i64 0] 198)).setCells w.heap.size 0 (fdsL g)) := (rowf_new w).put
theorem step_is_app' {P : Program} {w : World} {ops : Array Oper} {o : Oper} {a : Act} {K : Act → World → Prop} {Q : Exit → Act → World → Prop} {E : Prop} (s x : Operand) (t : TypeId)
    (_ : o.op = .call { callee := .builtin .append, args := #[s, x], argTypes := #[t, t] }) (h : if Region.wanted o (yielded ops a.tmps) = true then Oper.wp P o a w K Q else E) : if Region.wanted o (yielded ops a.tmps) = true then Oper.wp P o a w K Q else E := h
theorem own_extR {W W' : World} {B e k n : Nat} {v : Value} {us : List Value} (h : W.ownsRow B e k v n us) (hx : Ext W W') : W'.ownsRow B e k v n us := own_keep h (fun _ hg => hx.heap (own_lt h hg).2)
theorem le_extR {W W' : World} {n : Nat} (h : n ≤ W.heap.size) (hx : Ext W W') : n ≤ W'.heap.size := Nat.le_trans h hx.size
theorem info_hold : (Tryz.prog.info? 211).map (fun i => (i.zero, i.size, i.bytes)) = some (some (.agg #[.bool false, .bool false, .int .i64 0, .int .i64 0]), 4, 24) := by kernel_rfl
set_option maxRecDepth 100000 in
set_option maxHeartbeats 4000000 in
theorem Play_pbad (b : Bk) (v vd vs : Value) (days sown : List Int) (day : Int) (w : World) (hv : BkV w v b) (hd : IntsV w vd days) (hs : IntsV w vs sown) (h1 : days.length ≤ 1000) (h2 : sown.length ≤ 1000) (hE : playK b days sown day ≠ 0) :
    Calls Tryz.prog 128 #[v, .agg #[vd, vs], .int .i64 day] w fun e w' => e = .returned (.tuple #[.slice none 0 0, .int .i64 (playK b days sown day)]) ∧ Ext w w' := by
  obtain ⟨r, hr⟩ : ∃ r, r = playK b days sown day := ⟨_, rfl⟩; rw [← hr] at hE ⊢; have HE : Hid (r = if bookE b ≠ 0 then bookE b else if listedK b days sown && dayB b day then (if (playB b days sown day.toNat (fun _ => false)).isSome then 0 else 11) else 2) := Lib.hid (by rw [hr]; rfl); clear hr; have HCK : Hid (∀ W, Ext w W → Calls Tryz.prog 80 #[v] W fun e w' => e = .returned (.int .i64 (bookE b)) ∧ Ext W w') := Lib.hid (fun W hx => check_p b v W (hv.ext hx)); have HLS : Hid (∀ W, Ext w W → Calls Tryz.prog 162 #[v, .agg #[vd, vs]] W fun e w' => e = .returned (.bool (listedK b days sown)) ∧ Ext W w') := Lib.hid (fun W hx => listed_p b v vd vs days sown W (hv.ext hx) (hd.ext hx) (hs.ext hx) h1 h2); have HDY : Hid (∀ W, Ext w W → Calls Tryz.prog 154 #[v, .int .i64 day] W fun e w' => e = .returned (.bool (dayB b day)) ∧ Ext W w') := Lib.hid (fun W hx => day_p b v day W (hv.ext hx))
  have HPL : Hid (bookE b = 0 → listedK b days sown = true → dayB b day = true → ∀ W, Ext w W → Calls Tryz.prog 163 #[v, .agg #[vd, vs], .int .i64 day, .slice none 0 0] W fun e w' => (∃ g, e = .returned (.tuple #[.agg (fdsL g).toArray, .bool (playB b days sown day.toNat (fun _ => false)).isSome]) ∧ ∀ f, playB b days sown day.toNat (fun _ => false) = some f → g = f) ∧ Ext W w') := Lib.hid (fun h0 hl hdy W hx => by
    obtain ⟨a1, c1, a2, c2, rfl, -⟩ := hv.open; have hdb := dayB_iff.1 hdy; have := play_p b (bks_of h0) a1 a2 c1 c2 vd vs (.slice none 0 0) days sown [] day.toNat W (hv.ext hx) (hd.ext hx) (hs.ext hx) ⟨none, 0, rfl, Nat.le_refl _, by simp, fun i hi => absurd hi (Nat.not_lt_zero _)⟩ (listed_lenK hl).1 (listed_lenK hl).2 (by omega); rw [show (day.toNat : Int) = day by omega] at this; simpa using this)
  obtain ⟨a1, c1, a2, c2, rfl, -⟩ := hv.open; clear hv h1 h2; obtain ⟨a3, c3, rfl, -⟩ := hd; obtain ⟨a4, c4, rfl, -⟩ := hs; unfold bkV at *; generalize bookE b = eb at *; generalize listedK b days sown = l at *; generalize dayB b day = dy at *; generalize playB b days sown day.toNat (fun _ => false) = pl at *; generalize days.length = n3 at *; generalize sown.length = n4 at *; generalize b.pars.length = n1 at *; generalize b.ents.length = n2 at *; generalize b.last = last at *; generalize b.owners = owners at *; clear days sown b; go_enter Tryz.func128, Tryz.ntmps128
  (go_wp2_with fail); obtain ⟨W, hW⟩ : ∃ W, W = ((w.alloc (.cells #[.int .i64 last, .int .i64 owners, .slice a1 n1 c1, .slice a2 n2 c2] 52)).alloc (.cells #[.slice a3 n3 c3, .slice a4 n4 c4] 59)) := ⟨_, rfl⟩; have X : Ext w W := by subst hW; (repeat (first | exact Ext.refl _ | with_reducible (first | assumption | refine Ext.drew ?_ | refine Ext.alloc ?_ _ | refine Ext.drewN ?_ _ | refine Ext.setCell ?_ (by omega) _ | refine Ext.trans ?_ (by assumption))))
  have HS : Hid (∀ w', Ext W w' → (w'.cell? ⟨w.heap.size, 0, none⟩ = some (.int .i64 last) ∧ w'.cell? ⟨w.heap.size, 1, none⟩ = some (.int .i64 owners) ∧ w'.cell? ⟨w.heap.size, 2, none⟩ = some (.slice a1 n1 c1) ∧ w'.cell? ⟨w.heap.size, 3, none⟩ = some (.slice a2 n2 c2) ∧ w'.cell? ⟨w.heap.size + 1, 0, none⟩ = some (.slice a3 n3 c3) ∧ w'.cell? ⟨w.heap.size + 1, 1, none⟩ = some (.slice a4 n4 c4)) ∧ Ext W w') := Lib.hid (fun w' hx => ⟨⟨hx.keep (by subst hW; simp [go_sem]), hx.keep (by subst hW; simp [go_sem]), hx.keep (by subst hW; simp [go_sem]), hx.keep (by subst hW; simp [go_sem]), hx.keep (by subst hW; simp [go_sem]), hx.keep (by subst hW; simp [go_sem])⟩, hx⟩); have HSf : Hid (∀ w', Ext W w' → ∀ o, w'.frozen? ⟨w.heap.size + 1, o, none⟩ = false) := Lib.hid (fun w' hx o => (hx.frozen (by subst hW; simp)).trans (by subst hW; simp [go_sem])); have HSz : w.heap.size + 1 + 1 ≤ W.heap.size := by subst hW; simp
  rw [← hW]; clear hW; (with_reducible refine (HCK.out _ X).mono ?_); rintro e w1 ⟨rfl, hx1⟩; obtain ⟨⟨q0, q1, q2, q3, t0, t1⟩, -⟩ := HS.out w1 hx1; by_cases h0 : eb = 0
  · have hb : (eb != 0) = false := by rw [h0]; rfl
    have X1 := X.trans hx1; have HB := Lib.hid h0; have HPL := Lib.hid (HPL.out h0); have HE : Hid (r = if (l && dy) = true then if pl.isSome = true then 0 else 11 else 2) := Lib.hid (by rw [HE.out, if_neg (fun h => h HB.out)]); clear HCK h0; cases l with
    | false =>
      obtain rfl : r = 2 := HE.out; clear HE HPL HDY hE; (go_wp2_with fail); (with_reducible refine (HLS.out _ X1).mono ?_); rintro e w2 ⟨rfl, hx2⟩; have X2 := X1.trans hx2; clear hx2 HLS q0 q1 q2 q3 t0 t1; (go_wp2_with fail); go_ret2; exact ⟨rfl, X2⟩
    | true =>
      (go_wp2_with fail); (with_reducible refine (HLS.out _ X1).mono ?_); rintro e w2 ⟨rfl, hx2⟩; have X2 := X1.trans hx2; have HPL := Lib.hid (HPL.out (by first | rfl | trivial)); obtain ⟨⟨q0, q1, q2, q3, t0, t1⟩, -⟩ := HS.out w2 (hx1.trans hx2); have hx1 := hx1.trans hx2; clear hx2 HLS; cases dy with
      | false =>
        obtain rfl : r = 2 := HE.out; clear HE HPL hE; (go_wp2_with fail); (with_reducible refine (HDY.out _ X2).mono ?_); rintro e w3 ⟨rfl, hx3⟩; have X3 := X2.trans hx3; clear hx3 HDY q0 q1 q2 q3 t0 t1; (go_wp2_with fail); go_ret2; exact ⟨rfl, X3⟩
      | true =>
        (go_wp2_with fail); (with_reducible refine (HDY.out _ X2).mono ?_); rintro e w3 ⟨rfl, hx3⟩; have X3 := X2.trans hx3; obtain ⟨⟨q0, q1, q2, q3, t0, t1⟩, -⟩ := HS.out w3 (hx1.trans hx3); have hx1 := hx1.trans hx3; have HPL := Lib.hid (HPL.out (by first | rfl | trivial)); clear hx3 HDY
        have hps : pl.isSome = false := by
          cases hq : pl.isSome with
          | false => rfl
          | true => exact absurd (by rw [HE.out, hq]; rfl) hE
        obtain rfl : r = 11 := by rw [HE.out, hps]; rfl
        rw [hps] at HPL; clear HE hE hps; (go_wp2_with fail); (with_reducible refine (HPL.out _ X3).mono ?_); rintro e w4 ⟨⟨g, rfl, -⟩, hx4⟩; have X4 := X3.trans hx4; clear hx4 HPL q0 q1 q2 q3 t0 t1; have hst := store_new g w4; have X5 : Ext w _ := Ext.setCells (R := w4.heap.size) X4.size (fdsL g) 0 (X4.alloc (.cells #[.bool false, .bool false, .int .i64 0, .int .i64 0, .int .i64 0, .bool false, .bool false, .int .i64 0, .int .i64 0, .int .i64 0, .bool false, .bool false, .int .i64 0, .int .i64 0, .int .i64 0, .bool false, .bool false, .int .i64 0, .int .i64 0, .int .i64 0, .bool false, .bool false, .int .i64 0, .int .i64 0, .int .i64 0, .bool false, .bool false, .int .i64 0, .int .i64 0, .int .i64 0, .bool false, .bool false, .int .i64 0, .int .i64 0, .int .i64 0, .bool false, .bool false, .int .i64 0, .int .i64 0, .int .i64 0, .bool false, .bool false, .int .i64 0, .int .i64 0, .int .i64 0, .bool false, .bool false, .int .i64 0, .int .i64 0, .int .i64 0] 198)); generalize (w4.alloc (.cells #[.bool false, .bool false, .int .i64 0, .int .i64 0, .int .i64 0, .bool false, .bool false, .int .i64 0, .int .i64 0, .int .i64 0, .bool false, .bool false, .int .i64 0, .int .i64 0, .int .i64 0, .bool false, .bool false, .int .i64 0, .int .i64 0, .int .i64 0, .bool false, .bool false, .int .i64 0, .int .i64 0, .int .i64 0, .bool false, .bool false, .int .i64 0, .int .i64 0, .int .i64 0, .bool false, .bool false, .int .i64 0, .int .i64 0, .int .i64 0, .bool false, .bool false, .int .i64 0, .int .i64 0, .int .i64 0, .bool false, .bool false, .int .i64 0, .int .i64 0, .int .i64 0, .bool false, .bool false, .int .i64 0, .int .i64 0, .int .i64 0] 198)).setCells w4.heap.size 0 (fdsL g) = w5 at *; (go_wp2_with fail); go_ret2; exact ⟨rfl, X5⟩
  · have hb : (eb != 0) = true := by rw [bne_iff_ne]; exact h0
    obtain rfl : r = eb := by rw [HE.out, if_pos h0]
    have X1 := X.trans hx1; clear h0 HCK HLS HDY HPL HE hE; (go_wp2_with fail); go_ret2; exact ⟨rfl, X1⟩
set_option maxRecDepth 100000 in
set_option maxHeartbeats 4000000 in
theorem Play_pgood (b : Bk) (v vd vs : Value) (days sown : List Int) (day : Int) (w : World) (hv : BkV w v b) (hd : IntsV w vd days) (hs : IntsV w vs sown) (h1 : days.length ≤ 1000) (h2 : sown.length ≤ 1000) (hE : playK b days sown day = 0) :
    Calls Tryz.prog 128 #[v, .agg #[vd, vs], .int .i64 day] w fun e w' => ∃ f a q, playB b days sown day.toNat (fun _ => false) = some f ∧ e = .returned (.tuple #[.slice a (numsB b) q, .int .i64 0]) ∧ Hs.Own 4 (holdC day) w.heap.size 211 w' (.slice a (numsB b) q) ((List.range (numsB b)).map f) ∧ Ext w w' := by
  obtain ⟨i1, hi1, hz10, hz11, hz12⟩ := info_parts info_hold
  have h0 : bookE b = 0 := by
    by_cases h : bookE b = 0
    · exact h
    · unfold playK at hE; rw [if_pos h] at hE; exact absurd hE h
  have hll : (listedK b days sown && dayB b day) = true := by
    cases hq : (listedK b days sown && dayB b day) with
    | true => rfl
    | false => unfold playK at hE; rw [if_neg (by simp [h0]), hq] at hE; simp at hE
  rw [Bool.and_eq_true] at hll
  obtain ⟨f, hf⟩ : ∃ f, playB b days sown day.toNat (fun _ => false) = some f := by
    cases hq : playB b days sown day.toNat (fun _ => false) with
    | some f => exact ⟨f, rfl⟩
    | none => unfold playK at hE; rw [if_neg (by simp [h0]), hll.1, hll.2, hq] at hE; simp at hE
  have HCK : Hid (∀ W, Ext w W → Calls Tryz.prog 80 #[v] W fun e w' => e = .returned (.int .i64 0) ∧ Ext W w') := Lib.hid (fun W hx => h0 ▸ check_p b v W (hv.ext hx)); have HLS : Hid (∀ W, Ext w W → Calls Tryz.prog 162 #[v, .agg #[vd, vs]] W fun e w' => e = .returned (.bool true) ∧ Ext W w') := Lib.hid (fun W hx => hll.1 ▸ listed_p b v vd vs days sown W (hv.ext hx) (hd.ext hx) (hs.ext hx) h1 h2); have HDY : Hid (∀ W, Ext w W → Calls Tryz.prog 154 #[v, .int .i64 day] W fun e w' => e = .returned (.bool true) ∧ Ext W w') := Lib.hid (fun W hx => hll.2 ▸ day_p b v day W (hv.ext hx)); have HNM : Hid (∀ W, Ext w W → Calls Tryz.prog 164 #[v] W fun e w' => e = .returned (.int .i64 (numsB b)) ∧ Ext W w') := Lib.hid (fun W hx => numbers_p b v W (hv.ext hx))
  have HPL : Hid (∀ W, Ext w W → Calls Tryz.prog 163 #[v, .agg #[vd, vs], .int .i64 day, .slice none 0 0] W fun e w' => e = .returned (.tuple #[.agg (fdsL f).toArray, .bool true]) ∧ Ext W w') := Lib.hid (fun W hx => by
    obtain ⟨a1, c1, a2, c2, rfl, -⟩ := hv.open; have hdb := dayB_iff.1 hll.2; have := play_p b (bks_of h0) a1 a2 c1 c2 vd vs (.slice none 0 0) days sown [] day.toNat W (hv.ext hx) (hd.ext hx) (hs.ext hx) ⟨none, 0, rfl, Nat.le_refl _, by simp, fun i hi => absurd hi (Nat.not_lt_zero _)⟩ (listed_lenK hll.1).1 (listed_lenK hll.1).2 (by omega); rw [show (day.toNat : Int) = day by omega] at this; refine this.mono ?_
    rintro e w' ⟨⟨g, rfl, hg⟩, hx'⟩; have hfe : (fun i : Nat => decide ((i : Int) ∈ ([] : List Int))) = fun _ => false := by funext i; simp
    rw [hfe] at hg; rw [hfe, hf, hg f hf]; exact ⟨rfl, hx'⟩)
  have HFF := Lib.hid hf; have hn10 : numsB b ≤ 10 := nums_ten (bks_of h0) _; have HCV : Hid (∀ x W, Calls Tryz.prog 118 #[fdVal x, .int .i64 day] W fun e w' => e = .returned (.bool (x.covers day)) ∧ Ext W w') := Lib.hid (fun x W => covered_p x day W); obtain ⟨a1, c1, a2, c2, rfl, -⟩ := hv.open; clear hv h1 h2 h0 hll hE hf; obtain ⟨a3, c3, rfl, -⟩ := hd; obtain ⟨a4, c4, rfl, -⟩ := hs; unfold bkV at *; generalize playB b days sown day.toNat (fun _ => false) = pl at *; generalize days.length = n3 at *; generalize sown.length = n4 at *; generalize b.pars.length = n1 at *; generalize b.ents.length = n2 at *; generalize b.last = last at *; generalize b.owners = owners at *; generalize numsB b = N at *; clear days sown b; go_enter Tryz.func128, Tryz.ntmps128
  (go_wp2_with fail); obtain ⟨W, hW⟩ : ∃ W, W = ((w.alloc (.cells #[.int .i64 last, .int .i64 owners, .slice a1 n1 c1, .slice a2 n2 c2] 52)).alloc (.cells #[.slice a3 n3 c3, .slice a4 n4 c4] 59)) := ⟨_, rfl⟩; have X : Ext w W := by subst hW; (repeat (first | exact Ext.refl _ | with_reducible (first | assumption | refine Ext.drew ?_ | refine Ext.alloc ?_ _ | refine Ext.drewN ?_ _ | refine Ext.setCell ?_ (by omega) _ | refine Ext.trans ?_ (by assumption))))
  have HS : Hid (∀ w', Ext W w' → (w'.cell? ⟨w.heap.size, 0, none⟩ = some (.int .i64 last) ∧ w'.cell? ⟨w.heap.size, 1, none⟩ = some (.int .i64 owners) ∧ w'.cell? ⟨w.heap.size, 2, none⟩ = some (.slice a1 n1 c1) ∧ w'.cell? ⟨w.heap.size, 3, none⟩ = some (.slice a2 n2 c2) ∧ w'.cell? ⟨w.heap.size + 1, 0, none⟩ = some (.slice a3 n3 c3) ∧ w'.cell? ⟨w.heap.size + 1, 1, none⟩ = some (.slice a4 n4 c4)) ∧ Ext W w') := Lib.hid (fun w' hx => ⟨⟨hx.keep (by subst hW; simp [go_sem]), hx.keep (by subst hW; simp [go_sem]), hx.keep (by subst hW; simp [go_sem]), hx.keep (by subst hW; simp [go_sem]), hx.keep (by subst hW; simp [go_sem]), hx.keep (by subst hW; simp [go_sem])⟩, hx⟩); have HSf : Hid (∀ w', Ext W w' → ∀ o, w'.frozen? ⟨w.heap.size + 1, o, none⟩ = false) := Lib.hid (fun w' hx o => (hx.frozen (by subst hW; simp)).trans (by subst hW; simp [go_sem])); have HSz : w.heap.size + 1 + 1 ≤ W.heap.size := by subst hW; simp
  rw [← hW]; clear hW; (with_reducible refine (HCK.out _ X).mono ?_); rintro e w1 ⟨rfl, hx1⟩; obtain ⟨⟨q0, q1, q2, q3, t0, t1⟩, -⟩ := HS.out w1 hx1; have X1 := X.trans hx1; clear HCK; (go_wp2_with fail); (with_reducible refine (HLS.out _ X1).mono ?_); rintro e w2 ⟨rfl, hx2⟩; clear q0 q1 q2 q3 t0 t1; obtain ⟨⟨q0, q1, q2, q3, t0, t1⟩, -⟩ := HS.out w2 (hx1.trans hx2); replace hx1 := hx1.trans hx2; have X2 := X1.trans hx2; clear hx2 HLS X1; (go_wp2_with fail); (with_reducible refine (HDY.out _ X2).mono ?_); rintro e w3 ⟨rfl, hx3⟩; clear q0 q1 q2 q3 t0 t1; obtain ⟨⟨q0, q1, q2, q3, t0, t1⟩, -⟩ := HS.out w3 (hx1.trans hx3); replace hx1 := hx1.trans hx3; have X3 := X2.trans hx3; clear hx3 HDY X2; (go_wp2_with fail); (with_reducible refine (HPL.out _ X3).mono ?_); rintro e w4 ⟨rfl, hx4⟩; clear q0 q1 q2 q3 t0 t1; replace hx1 := hx1.trans hx4; have X4 := X3.trans hx4; clear hx4 HPL X3; have hst := store_new f w4; have X5 : Ext w _ := Ext.setCells (R := w4.heap.size) X4.size (fdsL f) 0 (X4.alloc (.cells #[.bool false, .bool false, .int .i64 0, .int .i64 0, .int .i64 0, .bool false, .bool false, .int .i64 0, .int .i64 0, .int .i64 0, .bool false, .bool false, .int .i64 0, .int .i64 0, .int .i64 0, .bool false, .bool false, .int .i64 0, .int .i64 0, .int .i64 0, .bool false, .bool false, .int .i64 0, .int .i64 0, .int .i64 0, .bool false, .bool false, .int .i64 0, .int .i64 0, .int .i64 0, .bool false, .bool false, .int .i64 0, .int .i64 0, .int .i64 0, .bool false, .bool false, .int .i64 0, .int .i64 0, .int .i64 0, .bool false, .bool false, .int .i64 0, .int .i64 0, .int .i64 0, .bool false, .bool false, .int .i64 0, .int .i64 0, .int .i64 0] 198)); have hy1 : Ext W _ := Ext.setCells (R := w4.heap.size) hx1.size (fdsL f) 0 (hx1.alloc (.cells #[.bool false, .bool false, .int .i64 0, .int .i64 0, .int .i64 0, .bool false, .bool false, .int .i64 0, .int .i64 0, .int .i64 0, .bool false, .bool false, .int .i64 0, .int .i64 0, .int .i64 0, .bool false, .bool false, .int .i64 0, .int .i64 0, .int .i64 0, .bool false, .bool false, .int .i64 0, .int .i64 0, .int .i64 0, .bool false, .bool false, .int .i64 0, .int .i64 0, .int .i64 0, .bool false, .bool false, .int .i64 0, .int .i64 0, .int .i64 0, .bool false, .bool false, .int .i64 0, .int .i64 0, .int .i64 0, .bool false, .bool false, .int .i64 0, .int .i64 0, .int .i64 0, .bool false, .bool false, .int .i64 0, .int .i64 0, .int .i64 0] 198))
  have HRF : Hid (RowF w4.heap.size f _) := Lib.hid (rowf_put f w4); have hR : w4.heap.size < ((w4.alloc (.cells #[.bool false, .bool false, .int .i64 0, .int .i64 0, .int .i64 0, .bool false, .bool false, .int .i64 0, .int .i64 0, .int .i64 0, .bool false, .bool false, .int .i64 0, .int .i64 0, .int .i64 0, .bool false, .bool false, .int .i64 0, .int .i64 0, .int .i64 0, .bool false, .bool false, .int .i64 0, .int .i64 0, .int .i64 0, .bool false, .bool false, .int .i64 0, .int .i64 0, .int .i64 0, .bool false, .bool false, .int .i64 0, .int .i64 0, .int .i64 0, .bool false, .bool false, .int .i64 0, .int .i64 0, .int .i64 0, .bool false, .bool false, .int .i64 0, .int .i64 0, .int .i64 0, .bool false, .bool false, .int .i64 0, .int .i64 0, .int .i64 0] 198)).setCells w4.heap.size 0 (fdsL f)).heap.size := by rw [size_setCells]; simp
  generalize (w4.alloc (.cells #[.bool false, .bool false, .int .i64 0, .int .i64 0, .int .i64 0, .bool false, .bool false, .int .i64 0, .int .i64 0, .int .i64 0, .bool false, .bool false, .int .i64 0, .int .i64 0, .int .i64 0, .bool false, .bool false, .int .i64 0, .int .i64 0, .int .i64 0, .bool false, .bool false, .int .i64 0, .int .i64 0, .int .i64 0, .bool false, .bool false, .int .i64 0, .int .i64 0, .int .i64 0, .bool false, .bool false, .int .i64 0, .int .i64 0, .int .i64 0, .bool false, .bool false, .int .i64 0, .int .i64 0, .int .i64 0, .bool false, .bool false, .int .i64 0, .int .i64 0, .int .i64 0, .bool false, .bool false, .int .i64 0, .int .i64 0, .int .i64 0] 198)).setCells w4.heap.size 0 (fdsL f) = w5 at *; obtain ⟨⟨q0, q1, q2, q3, t0, t1⟩, -⟩ := HS.out w5 hy1; clear t0 t1; obtain ⟨R, hRR⟩ : ∃ R, R = w4.heap.size := ⟨_, rfl⟩; rw [← hRR] at HRF hR; (go_wp2_with fail); rw [← hRR]; have HRR := Lib.hid hRR; clear hRR hst; (with_reducible refine (HNM.out _ X5).mono ?_); rintro e w6 ⟨rfl, hx6⟩; have X6 := X5.trans hx6; have HRW : Hid (∀ W, Ext w6 W → RowF R f W) := Lib.hid (fun W hx => HRF.out.kp (p := fun _ => False) (hx6.trans hx).kp id); have hR6 : R < w6.heap.size := Nat.lt_of_lt_of_le hR hx6.size; clear HNM hx6 X5 HRF hR q0 q1 q2 q3 hx1 HS HSf HSz; have hN0 : (0 : Int) ≤ (N : Int) := by omega
  have hN1 : (N : Int) ≤ 10 := by omega
  (go_wp2_with fail); go_loopw [11, 42] (fun s11 s42 wr => ∃ (k : Nat) (a5 : Option Addr) (q5 : Nat), k ≤ N ∧ s42 = .int .i64 k ∧ s11 = .slice a5 k q5 ∧ Hid (Hs.Own 4 (holdC day) w6.heap.size 211 wr (.slice a5 k q5) ((List.range k).map f)) ∧ Ext w6 wr) (fun _ s _ => N - (intOf s).toNat)
  case atStart => exact ⟨0, none, 0, Nat.zero_le _, rfl, rfl, Lib.hid (Hs.Own.nil _), Ext.refl _⟩
  case round =>
    obtain ⟨k, a5, q5, hk, rfl, rfl, HO, hx⟩ := hrel; obtain ⟨wo, rfl⟩ : ∃ x, x = wr := ⟨_, rfl⟩; by_cases hlt : k < N
    · have hrow := (HRW.out wo hx).c; have HT : Hid (((List.range (k + 1)).map f).flatMap (holdC day) = ((List.range k).map f).flatMap (holdC day) ++ holdC day (f k)) := Lib.hid (by rw [List.range_succ, List.map_append, List.flatMap_append]; simp); have m0 := hrow _ _ (fdsL_at f (i := k) (j := 0) (by omega) (by decide)); have m1 := hrow _ _ (fdsL_at f (i := k) (j := 1) (by omega) (by decide)); have m2 := hrow _ _ (fdsL_at f (i := k) (j := 2) (by omega) (by decide)); have m3 := hrow _ _ (fdsL_at f (i := k) (j := 3) (by omega) (by decide)); have m4 := hrow _ _ (fdsL_at f (i := k) (j := 4) (by omega) (by decide)); have HOL : Hid (((List.range k).map f).length = k) := Lib.hid (by simp); have HC1 := Lib.hid (HCV.out (f k)); have HXK : Hid (((List.range (k + 1)).map f) = (List.range k).map f ++ [f k]) := Lib.hid (by rw [List.range_succ, List.map_append]; simp); have HH : Hid (holdC day (f k) = [.bool (f k).there, .bool ((f k).covers day), .int .i64 (f k).owner, .int .i64 (f k).value]) := rfl
      have HON : Hid (wo.ownsRow w6.heap.size 211 4 (.slice a5 k q5) k (((List.range k).map f).flatMap (holdC day))) := Lib.hid (by
        have := HO.out; unfold Hs.Own at this; rw [HOL.out] at this; exact this)
      clear hrow HO HT; simp only [Nat.zero_add, Nat.add_zero, fdL, List.getElem?_cons_zero, List.getElem?_cons_succ] at m0 m1 m2 m3 m4; generalize (List.range k).map f = l0 at *; generalize (f k).covers day = cv at *; generalize hfk : f k = x at *; clear hfk; obtain ⟨th, gn, ow, va, so⟩ := x; unfold fdVal at HC1; simp only at m0 m1 m2 m3 m4 HH HC1; have hk0 : (0 : Int) ≤ (k : Int) := by omega
      have hk1 : (k : Int) < (N : Int) := by omega
      go_upto_region 13 with fail
      have y0 : (wo.alloc (.cells #[.bool th, .bool gn, .int .i64 ow, .int .i64 va, .int .i64 so] 196)).cell? ⟨wo.heap.size, 0, none⟩ = some (.bool th) := by simp [go_sem]
      have y1 : (wo.alloc (.cells #[.bool th, .bool gn, .int .i64 ow, .int .i64 va, .int .i64 so] 196)).cell? ⟨wo.heap.size, 1, none⟩ = some (.bool gn) := by simp [go_sem]
      have y2 : (wo.alloc (.cells #[.bool th, .bool gn, .int .i64 ow, .int .i64 va, .int .i64 so] 196)).cell? ⟨wo.heap.size, 2, none⟩ = some (.int .i64 ow) := by simp [go_sem]
      have y3 : (wo.alloc (.cells #[.bool th, .bool gn, .int .i64 ow, .int .i64 va, .int .i64 so] 196)).cell? ⟨wo.heap.size, 3, none⟩ = some (.int .i64 va) := by simp [go_sem]
      have y4 : (wo.alloc (.cells #[.bool th, .bool gn, .int .i64 ow, .int .i64 va, .int .i64 so] 196)).cell? ⟨wo.heap.size, 4, none⟩ = some (.int .i64 so) := by simp [go_sem]
      have HOW : Hid ((wo.alloc (.cells #[.bool th, .bool gn, .int .i64 ow, .int .i64 va, .int .i64 so] 196)).ownsRow w6.heap.size 211 4 (.slice a5 k q5) k (l0.flatMap (holdC day))) := Lib.hid (own_keep HON.out (fun _ hg => ((Ext.refl wo).alloc _).heap (own_lt HON.out hg).2)); have HX7 : Hid (Ext w6 (wo.alloc (.cells #[.bool th, .bool gn, .int .i64 ow, .int .i64 va, .int .i64 so] 196))) := Lib.hid (hx.alloc _); have HNB : Hid (¬ (Value.slice a5 k q5).ownBlock = some wo.heap.size) := Lib.hid (fun e => by have := (own_lt HON.out e).2; omega); obtain ⟨B, hB⟩ : ∃ B, B = wo.heap.size := ⟨_, rfl⟩; rw [← hB] at y0 y1 y2 y3 y4 HNB ⊢; clear hB; generalize wo.alloc (.cells #[.bool th, .bool gn, .int .i64 ow, .int .i64 va, .int .i64 so] 196) = w7 at *; have HSS : Hid (∀ w', KP (fun j => (Value.slice a5 k q5).ownBlock = some j) w7 w' → (w'.cell? ⟨B, 0, none⟩ = some (.bool th) ∧ w'.cell? ⟨B, 1, none⟩ = some (.bool gn) ∧ w'.cell? ⟨B, 2, none⟩ = some (.int .i64 ow) ∧ w'.cell? ⟨B, 3, none⟩ = some (.int .i64 va) ∧ w'.cell? ⟨B, 4, none⟩ = some (.int .i64 so)) ∧ KP (fun j => (Value.slice a5 k q5).ownBlock = some j) w7 w') := Lib.hid (fun w' h => ⟨⟨h.keep HNB.out y0, h.keep HNB.out y1, h.keep HNB.out y2, h.keep HNB.out y3, h.keep HNB.out y4⟩, h⟩)
      have HONE : Hid (∀ u ∈ ([.bool th, .bool cv, .int .i64 ow, .int .i64 va] : List Value), u.oneCell' = true) := Lib.hid (by
        intro u hu
        simp only [List.mem_cons, List.not_mem_nil, or_false] at hu; rcases hu with rfl | rfl | rfl | rfl <;> rfl)
      have HF1 : Hid (k + 1 ≤ maxLen) := Lib.hid (by simp only [maxLen]; omega); have HF2 : Hid ((k + 1) * 24 ≤ 140737488355328) := Lib.hid (by omega); have HF3 : Hid (w6.heap.size ≤ w7.heap.size) := Lib.hid HX7.out.size; have HOB : Hid (∀ g, (Value.slice a5 k q5).ownBlock = some g → w6.heap.size ≤ g) := Lib.hid (fun g hg => (own_lt HON.out hg).1); clear y0 y1 y2 y3 y4 m0 m1 m2 m3 m4 hx HON HNB hR6
      go_region_held3 (fun w' => (w'.cell? ⟨B, 0, none⟩ = some (.bool th) ∧ w'.cell? ⟨B, 1, none⟩ = some (.bool gn) ∧ w'.cell? ⟨B, 2, none⟩ = some (.int .i64 ow) ∧ w'.cell? ⟨B, 3, none⟩ = some (.int .i64 va) ∧ w'.cell? ⟨B, 4, none⟩ = some (.int .i64 so)) ∧ KP (fun j => (Value.slice a5 k q5).ownBlock = some j) w7 w')
        ((refine HSS.out _ ?_; (repeat (first | exact KP.refl _ | with_reducible (first | assumption | refine KP.drew ?_ | refine KP.alloc ?_ _ | refine KP.setCell ?_ (by assumption) _ | refine KP.ext ?_ (by assumption) | refine KP.trans ?_ (by assumption) | refine Ext.kp (by assumption))))))
        (first
          | ((with_reducible refine (HC1.out _).mono ?_); rintro e w8 ⟨rfl, hx8⟩)
          | ((refine step_is_app' _ _ 207 rfl ?_); (refine step_append_lies _ (by rfl) _ _ 207 (by rfl) w6.heap.size 211 i1 (.agg #[.bool false, .bool false, .int .i64 0, .int .i64 0]) 4 24 Tryz.underlying207 hi1 hz10 hz11 hz12 rfl (by decide) (.slice a5 k q5) k (l0.flatMap (holdC day)) rfl (own_extR HOW.out (by (repeat (first | exact Ext.refl _ | with_reducible (first | assumption | refine Ext.drew ?_ | refine Ext.alloc ?_ _ | refine Ext.drewN ?_ _ | refine Ext.setCell ?_ (by omega) _ | refine Ext.trans ?_ (by assumption)))))) ⟨_, 0, none⟩ 1 1 [.bool th, .bool cv, .int .i64 ow, .int .i64 va] (by rfl) rfl (cells_four (by (repeat (first | exact Ext.refl _ | with_reducible (first | assumption | refine Ext.drew ?_ | refine Ext.alloc ?_ _ | refine Ext.drewN ?_ _ | refine Ext.setCell ?_ (by omega) _ | refine Ext.trans ?_ (by assumption))))) (by first | rfl | simp)) HONE.out (by decide) HF1.out HF2.out (le_extR HF3.out (by (repeat (first | exact Ext.refl _ | with_reducible (first | assumption | refine Ext.drew ?_ | refine Ext.alloc ?_ _ | refine Ext.drewN ?_ _ | refine Ext.setCell ?_ (by omega) _ | refine Ext.trans ?_ (by assumption)))))) _ rfl ?_); intro gr cap w9 hown9 hgrow hat hlt9; have hk9 : KP (fun j => (Value.slice a5 k q5).ownBlock = some j) w7 w9 := KP.trans (Ext.kp (by (repeat (first | exact Ext.refl _ | with_reducible (first | assumption | refine Ext.drew ?_ | refine Ext.alloc ?_ _ | refine Ext.drewN ?_ _ | refine Ext.setCell ?_ (by omega) _ | refine Ext.trans ?_ (by assumption)))))) (KP.grown hgrow (fun _ hg => hg)); have HX9 : Hid (Ext w6 w9) := Lib.hid (grown_ext (HX7.out.trans (by (repeat (first | exact Ext.refl _ | with_reducible (first | assumption | refine Ext.drew ?_ | refine Ext.alloc ?_ _ | refine Ext.drewN ?_ _ | refine Ext.setCell ?_ (by omega) _ | refine Ext.trans ?_ (by assumption)))))) hgrow HOB.out)))
      all_goals
        have HO9 : Hid (Hs.Own 4 (holdC day) w6.heap.size 211 w9 (.slice (some ⟨gr, 0, none⟩) (k + 1) cap) ((List.range (k + 1)).map f)) := Lib.hid (by rw [HXK.out]; exact Hs.Own.next hown9 (by rw [HOL.out]) (by rw [HH.out])); clear hk9 hown9 hgrow hat HSS HOW HONE; (go_wp2_with fail); go_roundw
        case rel => exact ⟨k + 1, _, cap, by omega, by go_num, rfl, HO9, HX9.out⟩
        case measure => simp [intOf]; omega
    · obtain rfl : k = N := by omega
      have HF : Hid (Hs.Own 4 (holdC day) w.heap.size 211 wo (.slice a5 k q5) ((List.range k).map f)) := Lib.hid (HO.out.base X6.size); have X7 := X6.trans hx; clear HO hx X6; (go_wp2_with fail); go_ret2; exact ⟨f, a5, q5, HFF.out, rfl, HF.out, X7⟩
end Go.Proofs.YtegkdnfeceomdaaGreat
/- Plain laws of layer 8: the settlement. -/
namespace Go.Hs
def settleGo (amount all : Int) : Int → Int → List Int → List Int
  | _, _, [] => []
  | before, paid, x :: r => (amount * (before + x) / all - paid) :: settleGo amount all (before + x) (amount * (before + x) / all) r
def sumI (l : List Int) : Int := l.foldl (· + ·) 0
def settleL (amount : Int) (sums : List Int) : List Int := if sumI sums ≤ amount then sums else settleGo amount (sumI sums) 0 0 sums
theorem sumI_from (l : List Int) (a : Int) : l.foldl (· + ·) a = a + sumI l := by
  induction l generalizing a with
  | nil => simp [sumI]
  | cons x r ih =>
    simp only [sumI, List.foldl_cons]; rw [ih (a + x), ih (0 + x)]; omega
theorem sumI_cons (x : Int) (r : List Int) : sumI (x :: r) = x + sumI r := by
  simp only [sumI, List.foldl_cons]; rw [sumI_from r (0 + x)]; simp only [sumI]; omega
theorem settleGo_len (amount all : Int) : ∀ (l : List Int) (before paid : Int), (settleGo amount all before paid l).length = l.length
  | [], _, _ => rfl
  | x :: r, before, paid => by simp only [settleGo, List.length_cons, settleGo_len amount all r]
theorem settleL_len (amount : Int) (l : List Int) : (settleL amount l).length = l.length := by
  unfold settleL; split
  · rfl
  · exact settleGo_len _ _ _ _ _
structure ShareOK (amount all x y : Int) : Prop where
  lo : 0 ≤ y
  hi : y ≤ x
  less : y * all < amount * x + all
  more : amount * x - all < y * all
theorem share_ok {amount all before x : Int} (ha : 0 ≤ amount) (hl : amount < all) (_ : 0 ≤ before) (hx : 0 ≤ x) : ShareOK amount all x (amount * (before + x) / all - amount * before / all) := by
  have h0 : 0 < all := by omega
  have e1 := Int.emod_add_mul_ediv (amount * (before + x)) all; have e2 := Int.emod_add_mul_ediv (amount * before) all; have m1 := Int.emod_nonneg (amount * (before + x)) (b := all) (by omega); have m2 := Int.emod_lt_of_pos (amount * (before + x)) h0; have n1 := Int.emod_nonneg (amount * before) (b := all) (by omega); have n2 := Int.emod_lt_of_pos (amount * before) h0; have hd : amount * (before + x) = amount * before + amount * x := Int.mul_add _ _ _; have hax : 0 ≤ amount * x := Int.mul_nonneg ha hx; have hle : amount * x ≤ all * x := Int.mul_le_mul_of_nonneg_right (by omega) hx; generalize amount * (before + x) / all = p at *; generalize amount * before / all = q at *; generalize amount * (before + x) % all = r at *; generalize amount * before % all = s at *; have ep : (p - q) * all = all * p - all * q := by rw [Int.sub_mul, Int.mul_comm p, Int.mul_comm q]
  have hlo : 0 ≤ p - q := by
    rcases Int.lt_or_le (p - q) 0 with h | h
    · have : (p - q) * all ≤ -1 * all := Int.mul_le_mul_of_nonneg_right (by omega) (by omega); omega
    · exact h
  have hhi : p - q ≤ x := by
    rcases Int.lt_or_le x (p - q) with h | h
    · have : (x + 1) * all ≤ (p - q) * all := Int.mul_le_mul_of_nonneg_right (by omega) (by omega); have e3 : (x + 1) * all = all * x + all := by rw [Int.add_mul, Int.mul_comm x]; omega
      omega
    · exact h
  exact ⟨hlo, hhi, by omega, by omega⟩
theorem settleGo_ok {amount all : Int} (ha : 0 ≤ amount) (hl : amount < all) : ∀ (l : List Int) (before : Int), 0 ≤ before → (∀ x ∈ l, 0 ≤ x) →
    (∀ (i : Nat) (x y : Int), l[i]? = some x → (settleGo amount all before (amount * before / all) l)[i]? = some y → ShareOK amount all x y) ∧
    sumI (settleGo amount all before (amount * before / all) l) = amount * (before + sumI l) / all - amount * before / all
  | [], before, _, _ => ⟨fun i x y h => by simp at h, by simp [settleGo, sumI]⟩
  | x :: r, before, hb, h => by
    have hx := h x (by simp); have hr := fun y hy => h y (List.mem_cons_of_mem x hy)
    obtain ⟨k1, k2⟩ := settleGo_ok ha hl r (before + x) (by omega) hr; refine ⟨fun i u y hu hy => ?_, ?_⟩
    · rcases i with _ | i
      · simp only [settleGo, List.getElem?_cons_zero, Option.some.injEq] at hu hy; subst hu; subst hy; exact share_ok ha hl hb hx
      · simp only [settleGo, List.getElem?_cons_succ] at hu hy; exact k1 i u y hu hy
    · simp only [settleGo]; rw [sumI_cons, k2, sumI_cons, ← Int.add_assoc]; omega
theorem settleL_ok {amount : Int} {l : List Int} (ha : 0 ≤ amount) (h : ∀ x ∈ l, 0 ≤ x) :
    (∀ (i : Nat) (x y : Int), l[i]? = some x → (settleL amount l)[i]? = some y → 0 ≤ y ∧ y ≤ x ∧ (amount < sumI l → y * sumI l < amount * x + sumI l ∧ amount * x - sumI l < y * sumI l)) ∧ sumI (settleL amount l) = min amount (sumI l) := by
  by_cases hc : sumI l ≤ amount
  · have e : settleL amount l = l := by unfold settleL; rw [if_pos hc]
    rw [e]; refine ⟨fun i x y hx hy => ?_, by omega⟩
    rw [hx] at hy; cases hy; have := h x (List.mem_of_getElem? hx); exact ⟨this, Int.le_refl _, fun hlt => by omega⟩
  · have hl : amount < sumI l := by omega
    have e : settleL amount l = settleGo amount (sumI l) 0 0 l := by unfold settleL; rw [if_neg hc]
    obtain ⟨k1, k2⟩ := settleGo_ok ha hl l 0 (Int.le_refl _) h; have z : amount * 0 / sumI l = 0 := by simp
    rw [z] at k1 k2; rw [e]; refine ⟨fun i x y hx hy => ?_, ?_⟩
    · have s := k1 i x y hx hy; exact ⟨s.lo, s.hi, fun _ => ⟨s.less, s.more⟩⟩
    · rw [k2, Int.zero_add, Int.mul_ediv_cancel _ (by omega)]; omega
end Go.Hs
/- Words of layer 8: a case in memory, its error, its truths. -/
namespace Go.Hs
open Go.RowKit
def caseL (a1 : Option Addr) (n1 c1 : Nat) (a2 : Option Addr) (n2 c2 : Nat) (a3 : Option Addr) (n3 c3 : Nat) (a4 : Option Addr) (n4 c4 : Nat) (last owners soc day parcel llo lhi : Int) : List Value :=
  [.int .i64 last, .int .i64 owners, .slice a1 n1 c1, .slice a2 n2 c2, .int .i64 soc, .int .i64 day, .int .i64 parcel, .slice a3 n3 c3, .int .i64 llo, .int .i64 lhi, .slice a4 n4 c4]
def caseV (a1 : Option Addr) (n1 c1 : Nat) (a2 : Option Addr) (n2 c2 : Nat) (a3 : Option Addr) (n3 c3 : Nat) (a4 : Option Addr) (n4 c4 : Nat) (last owners soc day parcel llo lhi : Int) : Value :=
  .agg #[.int .i64 last, .int .i64 owners, .slice a1 n1 c1, .slice a2 n2 c2, .int .i64 soc, .int .i64 day, .int .i64 parcel, .slice a3 n3 c3, .int .i64 llo, .int .i64 lhi, .slice a4 n4 c4]
structure CaseA where
  a1 : Option Addr
  c1 : Nat
  a2 : Option Addr
  c2 : Nat
  a3 : Option Addr
  c3 : Nat
  a4 : Option Addr
  c4 : Nat
structure CaseM (w : World) (A : CaseA) (c : DCas) : Prop where
  pars : Cells4 w A.a1 (c.bk.pars.map Par.c)
  ents : Cells8 w A.a2 (c.bk.ents.map Ent.c)
  covs : Cells7 w A.a3 (c.covs.map Cov.c)
  clms : Cells3 w A.a4 (c.clms.map Clm.c)
  l1 : c.bk.pars.length ≤ A.c1 ∧ c.bk.pars.length ≤ 1000
  l2 : c.bk.ents.length ≤ A.c2 ∧ c.bk.ents.length ≤ 1000
  l3 : c.covs.length ≤ A.c3 ∧ c.covs.length ≤ 1000
  l4 : c.clms.length ≤ A.c4 ∧ c.clms.length ≤ 1000
theorem CaseM.ext {w w' : World} {A : CaseA} {c : DCas} (h : CaseM w A c) (hx : Ext w w') : CaseM w' A c := ⟨h.pars.ext hx, h.ents.ext hx, h.covs.ext hx, h.clms.ext hx, h.l1, h.l2, h.l3, h.l4⟩
abbrev CaseA.v (A : CaseA) (c : DCas) : Value := caseV A.a1 c.bk.pars.length A.c1 A.a2 c.bk.ents.length A.c2 A.a3 c.covs.length A.c3 A.a4 c.clms.length A.c4 c.bk.last c.bk.owners c.soc c.day c.parcel c.llo c.lhi
abbrev CaseA.b (A : CaseA) (c : DCas) : Value := bkV A.a1 c.bk.pars.length A.c1 A.a2 c.bk.ents.length A.c2 c.bk.last c.bk.owners
theorem CaseM.bk {w : World} {A : CaseA} {c : DCas} (h : CaseM w A c) : BkV w (A.b c) c.bk := ⟨_, _, rfl, ⟨_, _, rfl, h.l1.1, h.l1.2, h.pars⟩, ⟨_, _, rfl, h.l2.1, h.l2.2, h.ents⟩⟩
def rngsD (c : DCas) : List (Int × Int) := c.bk.ents.map (fun e => (e.dlo, e.dhi)) ++ (c.bk.pars.map (fun p => (p.slo, p.shi)) ++ (c.covs.map (fun x => (x.slo, x.shi)) ++ [(c.llo, c.lhi)]))
def ofR (lo hi high : Int) : Bool := decide (0 ≤ lo) && (decide (lo ≤ hi) && decide (hi ≤ high))
theorem ofR_iff {lo hi high : Int} : ofR lo hi high = true ↔ 0 ≤ lo ∧ lo ≤ hi ∧ hi ≤ high := by simp [ofR]
def socB (c : DCas) (n : Int) : Bool := inR n 0 (c.soc - 1)
def covB (c : DCas) (x : Cov) : Bool := socB c x.soc && (inR x.owner 0 (c.bk.owners - 1) && (numberB c.bk x.parcel && (inR x.sum 0 1000 && (dayB c.bk x.till && ofR x.slo x.shi c.bk.last))))
def clmB (c : DCas) (x : Clm) : Bool := socB c x.soc && ofR x.plo x.phi 1000
def caseD (c : DCas) : Int :=
  if bookE c.bk ≠ 0 then bookE c.bk
  else if 3 < c.soc ∨ 5 < c.covs.length ∨ 5 < c.clms.length then 3
  else if decide (1 ≤ c.soc) && (dayB c.bk c.day && (numberB c.bk c.parcel && (ofR c.llo c.lhi 100 && (c.covs.all (covB c) && c.clms.all (clmB c))))) then (if 2000 < manyL 2000 (rngsD c) then 3 else 0)
  else 1
structure CasS (c : DCas) : Prop where
  bk : BkS c.bk
  soc : 1 ≤ c.soc ∧ c.soc ≤ 3
  nc : c.covs.length ≤ 5
  nm : c.clms.length ≤ 5
  day : 0 ≤ c.day ∧ c.day ≤ c.bk.last
  parcel : numberB c.bk c.parcel = true
  loss : 0 ≤ c.llo ∧ c.llo ≤ c.lhi ∧ c.lhi ≤ 100
  cov : ∀ x ∈ c.covs, covB c x = true
  clm : ∀ x ∈ c.clms, clmB c x = true
theorem rngsD_ok {c : DCas} (h : CasS c) : ∀ r ∈ rngsD c, 0 ≤ r.1 ∧ r.1 ≤ r.2 ∧ r.2 ≤ 100 := by
  intro r hr
  have hl := h.bk.last; have hb := rngs_ok h.bk; unfold rngsD at hr; unfold rngsB at hb; simp only [List.mem_append] at hr hb; rcases hr with hr | hr | hr | hr
  · have := hb r (.inl hr); omega
  · have := hb r (.inr hr); omega
  · obtain ⟨x, hx, rfl⟩ := List.mem_map.1 hr; have := h.cov x hx; simp only [covB, Bool.and_eq_true, ofR_iff] at this; simp only; omega
  · simp only [List.mem_singleton] at hr; subst hr; have := h.loss; simp only; omega
theorem rngsD_len (c : DCas) : (rngsD c).length = c.bk.ents.length + c.bk.pars.length + c.covs.length + 1 := by simp [rngsD]; omega
theorem caseD_zero {c : DCas} (h : caseD c = 0) : bookE c.bk = 0 ∧ CasS c ∧ manyL 2000 (rngsD c) ≤ 2000 := by
  unfold caseD at h; split at h
  · contradiction
  · rename_i hb
    have hb : bookE c.bk = 0 := by omega
    split at h
    · cases h
    · split at h
      · rename_i h1 h2
        simp only [Bool.and_eq_true, decide_eq_true_eq, ofR_iff, List.all_eq_true] at h2; have hd := dayB_iff.1 h2.2.1; refine ⟨hb, ⟨bks_of hb, by omega, by omega, by omega, hd, h2.2.2.1, h2.2.2.2.1, h2.2.2.2.2.1, h2.2.2.2.2.2⟩, ?_⟩
        split at h
        · cases h
        · omega
      · cases h
def allL : List (Int × Int) → List (List Int)
  | [] => [[]]
  | r :: rs => (List.range (r.2 - r.1 + 1).toNat).flatMap (fun n : Nat => (allL rs).map (fun l => (r.1 + (n : Int)) :: l))
structure DTr where
  days : List Int
  sown : List Int
  starts : List Int
  loss : Int
deriving Inhabited
def truD (c : DCas) (l : List Int) : DTr :=
  ⟨l.take c.bk.ents.length, (l.drop c.bk.ents.length).take c.bk.pars.length, (l.drop (c.bk.ents.length + c.bk.pars.length)).take c.covs.length, l.getD (c.bk.ents.length + c.bk.pars.length + c.covs.length) 0⟩
def listedD (c : DCas) (t : DTr) : Bool :=
  decide (t.days.length = c.bk.ents.length) && (decide (t.sown.length = c.bk.pars.length) && (decide (t.starts.length = c.covs.length) && (List.range (rngsD c).length).all (fun i => inR ((t.days ++ (t.sown ++ (t.starts ++ [t.loss]))).getD i 0) ((rngsD c).getD i default).1 ((rngsD c).getD i default).2)))
structure Dmg where
  amount : Int
  s0 : Int
  s1 : Int
  s2 : Int
deriving DecidableEq, Inhabited
def covs1 (c : DCas) (x : Fd) (starts : List Int) (i : Nat) : Bool :=
  let k := c.covs.getD i default
  decide (k.parcel = c.parcel) && (x.covers c.day && (decide (x.owner = k.owner) && (decide (starts.getD i 0 ≤ c.day) && decide (c.day ≤ k.till))))
def sumsD (c : DCas) (x : Fd) (starts : List Int) (j : Int) : Nat → Int
  | 0 => 0
  | n + 1 => sumsD c x starts j n + (if covs1 c x starts n && decide ((c.covs.getD n default).soc = j) then (c.covs.getD n default).sum else 0)
def damD (c : DCas) (t : DTr) : Option Dmg :=
  if playK c.bk t.days t.sown c.day = 0 then
    let x := ((playB c.bk t.days t.sown c.day.toNat (fun _ => false)).getD (fun _ => Fd.zero)) c.parcel.toNat
    some ⟨x.value * t.loss / 100, sumsD c x t.starts 0 c.covs.length, sumsD c x t.starts 1 c.covs.length, sumsD c x t.starts 2 c.covs.length⟩
  else none
end Go.Hs
/- The document's example of layer 8, in plain words. -/
namespace Go.Hs
open Go.RowKit
def soldC (clms : List Clm) : DCas := ⟨⟨9, 2, [⟨0, 100, 0, 0⟩], [⟨0, 0, 0, 0, 1, 0, 4, 5⟩]⟩, 2, 4, 0, [⟨0, 0, 0, 60, 9, 1, 1⟩, ⟨1, 0, 0, 90, 9, 3, 5⟩, ⟨1, 1, 0, 50, 9, 0, 0⟩], 40, 50, clms⟩
def twoL : List Clm := [⟨0, 16, 20⟩, ⟨1, 10, 20⟩]
def laterT : DTr := ⟨[5], [0], [1, 4, 0], 50⟩
end Go.Hs
