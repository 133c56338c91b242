/- Bundled: what the texts U V W X AA UP UC say one after another. -/
import Derived.Test.YtedblocbcjoolaaKB2
import Derived.Laws.EntriesVeiled
import Derived.Test.YtedblocbcjoolaaKB1
/- Contracts: a part. -/
namespace Go.Proofs.Ytedblocbcjoolaa
open Go.RowKit Go.Hs

theorem Memo.noCells {f : Int → Int → Int → Int} {r : Nat} {w : World} (h : Memo f r w) : NoCells w r := fun o => by
  obtain ⟨es, clock, hr, -⟩ := h
  simp [World.cell?, hr]
theorem Memo.ext {f : Int → Int → Int → Int} {r : Nat} {w w' : World} (h : Memo f r w) (hx : Ext w w') : Memo f r w' := by
  obtain ⟨es, clock, hr, he⟩ := h
  exact ⟨es, clock, by rw [hx.heap (Array.getElem?_eq_some_iff.1 hr).1]; exact hr, he⟩
theorem Memo.lt {f : Int → Int → Int → Int} {r : Nat} {w : World} (h : Memo f r w) : r < w.heap.size := by
  obtain ⟨es, clock, hr, -⟩ := h
  exact (Array.getElem?_eq_some_iff.1 hr).1

/-- Tariffs at work: the list, and the map of the parts that are known. -/
structure WorkAt (l : List Tar) (p r : Nat) (v : Value) (w : World) : Prop where
  list : w.cell? ⟨p, 0, none⟩ = some v
  known : w.cell? ⟨p, 1, none⟩ = some (.map (some r))
  tars : TarsV w v l
  memo : Memo (partS l) r w
theorem WorkAt.ext {l : List Tar} {p r : Nat} {v : Value} {w w' : World} (h : WorkAt l p r v w) (hx : Ext w w') : WorkAt l p r v w' :=
  ⟨hx.keep h.list, hx.keep h.known, h.tars.ext hx, h.memo.ext hx⟩
theorem WorkAt.but {l : List Tar} {p r : Nat} {v : Value} {w w' : World} (h : WorkAt l p r v w) (hx : ExtBut r w w') (hm : Memo (partS l) r w') : WorkAt l p r v w' :=
  have k := hx.kc h.memo.noCells
  ⟨k _ _ _ h.list, k _ _ _ h.known, h.tars.kc k, hm⟩

theorem putObj_but (w : World) (r : Nat) (o : Obj) : ExtBut r w (w.putObj r o) :=
  ⟨rfl, rfl, rfl, by simp [World.putObj], fun k _ hk => World.putObj_heap_other hk⟩

set_option maxHeartbeats 400000 in
theorem start_any (v : Value) (l : List Tar) (w : World) (hv : TarsV w v l) :
    Calls Try.prog 68 #[v] w fun e w' => e = .returned (.pointer (some ⟨w.heap.size + 1, 0, none⟩)) ∧ Ext w w' ∧ WorkAt l (w.heap.size + 1) w.heap.size v w' := by
  obtain ⟨a, c, he, h1, h2, h3⟩ := id hv
  subst he
  have hmm := @run_makeMap Try.prog
  go_enter Try.func68, Try.ntmps68
  go_wp2_with fail
  go_ret
  have X := ((Ext.refl w).alloc (.map #[] 0)).alloc (.cells #[.slice a l.length c, .map (some w.heap.size)] 133)
  refine ⟨rfl, X, ⟨by simp, by simp, hv.ext X, ⟨#[], 0, ?_, by simp⟩⟩⟩
  rw [Below.heap_alloc _ _ _ (by simp)]
  exact World.alloc_heap_new w _

set_option maxHeartbeats 400000 in
theorem whole_any (u : Value) (n : Int) (a b c d e f : Value) (w : World) (hu : u = .agg #[a, b, c, d, e, f]) :
    Calls Try.prog 95 #[u, .int .i64 n] w fun e w' => e = .returned (.int .i64 n) ∧ Ext w w' := by
  subst hu
  go_enter Try.func95, Try.ntmps95
  go_wp2_with fail
  go_ret
  exact ⟨rfl, (Ext.refl _).alloc _⟩

set_option maxHeartbeats 400000 in
theorem excess_any (n m : Int) (a b d e f : Value) (w : World) (h : 0 ≤ m) (h1 : m ≤ 100) (h2 : 0 ≤ n) (h3 : n ≤ 100) :
    Calls Try.prog 96 #[.agg #[a, b, .int .i64 m, d, e, f], .int .i64 n] w fun e w' => e = .returned (.int .i64 (n - m)) ∧ Ext w w' := by
  go_enter Try.func96, Try.ntmps96
  go_wp2_with fail
  go_ret
  exact ⟨rfl, (Ext.refl _).alloc _⟩

def ruleV (b : Bool) : Value := .agg #[.func (.func (if b then 95 else 96)) #[] #[]]
set_option maxHeartbeats 400000 in
theorem rule_any (x : Bool) (a b d e f : Value) (w : World) :
    Calls Try.prog 86 #[.agg #[a, .bool x, b, d, e, f]] w fun e w' => e = .returned (ruleV x) ∧ Ext w w' := by
  have X := ((Ext.refl w).alloc (.cells #[a, .bool x, b, d, e, f] 50))
  cases x
  · go_enter Try.func86, Try.ntmps86
    go_wp2_with fail
    exact bodyPost_ret (v := ruleV false) (by simp [results, Try.results86, go_sem, ruleV]) rfl ⟨rfl, X.alloc _⟩
  · go_enter Try.func86, Try.ntmps86
    go_wp2_with fail
    exact bodyPost_ret (v := ruleV true) (by simp [results, Try.results86, go_sem, ruleV]) rfl ⟨rfl, X.alloc _⟩
end Go.Proofs.Ytedblocbcjoolaa

/- Contracts: a part. -/
namespace Go.Proofs.Ytedblocbcjoolaa
open Go.RowKit Go.Hs
attribute [local irreducible] World.setCell World.alloc

set_option maxRecDepth 100000 in
set_option maxHeartbeats 1000000 in
theorem part_any (l : List Tar) (hl : ValidL l) (c d n : Int) (hc0 : 0 ≤ c) (hc1 : c < cropsN l) (hd : 0 ≤ d) (hn0 : 0 ≤ n) (hn1 : n ≤ 100) (p r : Nat) (v : Value) (w : World) (hw : WorkAt l p r v w) :
    Calls Try.prog 71 #[.pointer (some ⟨p, 0, none⟩), spotV c d n] w fun e w' => e = .returned (.int .i64 (partS l c d n)) ∧ ExtBut r w w' ∧ WorkAt l p r v w' := by
  obtain ⟨vl, ok, hlk, hok, hno⟩ := lookup_spot (partS l) c d n r (w.alloc (.cells #[.int .i64 c, .int .i64 d, .int .i64 n] 137)) (hw.memo.ext ((Ext.refl w).alloc _))
  have X := (Ext.refl w).alloc (.cells #[.int .i64 c, .int .i64 d, .int .i64 n] 137)
  have hlk' : ∀ m : Nat, (Instr.lookup 131 (.map (some r)) (spotV c d n) true).run Try.prog ((w.alloc (.cells #[.int .i64 c, .int .i64 d, .int .i64 n] 137)).drewN m) = .ok (.tuple #[.int .i64 vl, .bool ok]) ((w.alloc (.cells #[.int .i64 c, .int .i64 d, .int .i64 n] 137)).drewN m) := fun m => hlk _ rfl
  have hw1 := hw.ext X
  have k0 := hw1.list
  have k1 := hw1.known
  have HW := Lib.hid hw1
  have HOK := Lib.hid hok
  have HNO := Lib.hid hno
  clear hlk hok hno hw hw1
  go_enter Try.func71, Try.ntmps71
  go_wp2_with fail
  have s0 : (w.alloc (.cells #[.int .i64 c, .int .i64 d, .int .i64 n] 137)).cell? ⟨w.heap.size, 0, none⟩ = some (.int .i64 c) := by simp
  have s1 : (w.alloc (.cells #[.int .i64 c, .int .i64 d, .int .i64 n] 137)).cell? ⟨w.heap.size, 1, none⟩ = some (.int .i64 d) := by simp
  have s2 : (w.alloc (.cells #[.int .i64 c, .int .i64 d, .int .i64 n] 137)).cell? ⟨w.heap.size, 2, none⟩ = some (.int .i64 n) := by simp
  generalize (w.alloc (.cells #[.int .i64 c, .int .i64 d, .int .i64 n] 137)) = W at *
  cases ok
  · have hv0 : vl = 0 := HNO.out rfl
    subst hv0
    have hat : ∀ W', Ext W W' → Calls Try.prog 84 #[.agg #[v], .int .i64 d] W' fun e w' => ∃ u : V6, e = .returned u.val ∧ TarU W u (atS l d) ∧ Ext W' w' := fun W' hx => at_any v l d W W' HW.out.tars hx
    have HAT := Lib.hid hat; clear hat
    go_quiet (fail)
    clear hlk'
    have YY : Ext W (W.drewN nq) := (Ext.refl W).drewN _
    have k0' := YY.keep k0
    have k1' := YY.keep k1
    have s0' := YY.keep s0
    have s1' := YY.keep s1
    have s2' := YY.keep s2
    generalize hV : W.drewN nq = V at *
    clear hV
    go_upto_region 4 with fail
    have HS : Hid (∀ w', Ext V w' → (w'.cell? ⟨p, 0, none⟩ = some v ∧ w'.cell? ⟨w.heap.size, 1, none⟩ = some (.int .i64 d)) ∧ Ext V w') := fun w' hx => ⟨⟨hx.keep k0', hx.keep s1'⟩, hx⟩
    go_cut [7] (fun s7 wx => PartCut V (atS l d) s7 wx)
    case first =>
      go_region_held3 (fun w' => (w'.cell? ⟨p, 0, none⟩ = some v ∧ w'.cell? ⟨w.heap.size, 1, none⟩ = some (.int .i64 d)) ∧ Ext V w')
        ((refine HS.out _ ?_; (repeat (first | exact Ext.refl _ | (with_reducible assumption) | (with_reducible refine Ext.drew ?_) | (with_reducible refine Ext.alloc ?_ _) | (with_reducible refine Ext.drewN ?_ _) | (with_reducible refine Ext.setCell ?_ (by omega) _) | (with_reducible refine Ext.trans ?_ (by with_reducible assumption))))))
        (first
          | (go_at_call 84; (with_reducible refine (HAT.out V.drew (YY.trans (Ext.refl V).drew)).mono ?_); rintro e w2 ⟨u, rfl, hu, hx2⟩; obtain ⟨a3, k3, a4, k4, a5, k5, rfl⟩ := hu.slices)
          | (go_at_call 84; (refine (HAT.out _ (by (repeat (first | exact Ext.refl _ | (with_reducible assumption) | (with_reducible refine Ext.drew ?_) | (with_reducible refine Ext.alloc ?_ _) | (with_reducible refine Ext.drewN ?_ _) | (with_reducible refine Ext.setCell ?_ (by omega) _) | (with_reducible refine Ext.trans ?_ (by with_reducible assumption)))))).mono ?_); rintro e w2 ⟨u, rfl, hu, hx2⟩; obtain ⟨a3, k3, a4, k4, a5, k5, rfl⟩ := hu.slices; have Z : Cell6 w2 V.heap.size 0 ⟨.int .i64 0, .bool false, .int .i64 0, .slice none 0 0, .slice none 0 0, .slice none 0 0⟩ := Cell6.ext hx2 _ _ _ (by simp [Cell6]); have FR : ∀ o, w2.frozen? ⟨V.heap.size, o, none⟩ = false := fun o => (hx2.frozen (by simp)).trans (by simp); have ZZ := Lib.hid Z; obtain ⟨z0, z1, z2, z3, z4, z5⟩ := Z; simp only [Nat.zero_add] at z0 z1 z2 z3 z4 z5))
      · go_wp2_with fail
        go_meet
        exact PartCut.late (u := ⟨_, _, _, _, _, _⟩) (by (repeat (first | exact Ext.refl _ | (with_reducible assumption) | (with_reducible refine Ext.drew ?_) | (with_reducible refine Ext.alloc ?_ _) | (with_reducible refine Ext.drewN ?_ _) | (with_reducible refine Ext.setCell ?_ (by omega) _) | (with_reducible refine Ext.trans ?_ (by with_reducible assumption))))) (hu.ext YY) _
      · go_wp2_with fail
        go_meet
        have hXX : Ext V w2 := by (repeat (first | exact Ext.refl _ | (with_reducible assumption) | (with_reducible refine Ext.drew ?_) | (with_reducible refine Ext.alloc ?_ _) | (with_reducible refine Ext.drewN ?_ _) | (with_reducible refine Ext.setCell ?_ (by omega) _) | (with_reducible refine Ext.trans ?_ (by with_reducible assumption))))
        have hfin := PartCut.early hXX (Nat.le_refl _) ZZ.out (hu.ext YY)
        simp only [World.set6] at hfin
        exact hfin
    case rest =>
      obtain ⟨B, u, rfl, hc, hu, hx, hB⟩ := hcut
      obtain ⟨a3, k3, a4, k4, a5, k5, rfl⟩ := hu.slices
      have HU := Lib.hid hu
      obtain ⟨q0, q1, q2, q3, q4, q5⟩ := hc
      simp only [Nat.zero_add] at q0 q1 q2 q3 q4 q5
      have n0 := hx.keep s0'
      have n1 := hx.keep s1'
      have n2 := hx.keep s2'
      obtain ⟨g1, g2, g3, g4⟩ := loss_pre hl hc0 hc1 hd
      have hls : Calls Try.prog 85 #[.agg #[.int .i64 (atS l d).start, .bool (atS l d).whole, .int .i64 (atS l d).least, .slice a3 (atS l d).weeks.length k3, .slice a4 (atS l d).counts.length k4, .slice a5 (atS l d).rates.length k5], spotV c d n] wc fun e w' => e = .returned (.int .i64 (lossS l c d n)) ∧ Ext wc w' := loss_any ⟨_, _, _, _, _, _⟩ (atS l d) c d n wc hu hc0 g1 g2 g3 g4 hn0 hn1
      have hlb := lossS_bd hl hc0 hc1 hd hn0 hn1
      have hle := (hl.at hd).1.least
      have HPS := Lib.hid (show partS l c d n = (if (atS l d).least ≤ lossS l c d n then (if (atS l d).whole then lossS l c d n else lossS l c d n - (atS l d).least) else 0) from rfl)
      clear g1 g2 g3 g4 hu
      generalize lossS l c d n = ls at *
      go_wp2_with fail
      (with_reducible refine hls.mono ?_)
      rintro e w3 ⟨rfl, hx3⟩
      have q0 := hx3.keep q0
      have q1 := hx3.keep q1
      have q2 := hx3.keep q2
      have q3 := hx3.keep q3
      have q4 := hx3.keep q4
      have q5 := hx3.keep q5
      have n0 := hx3.keep n0
      have n1 := hx3.keep n1
      have n2 := hx3.keep n2
      have kk1 := hx3.keep (hx.keep k1')
      have Y3 : Ext W w3 := YY.trans (hx.trans hx3)
      by_cases hge : (atS l d).least ≤ ls
      · have hS3 : Hid (∀ w', Ext w3 w' → (w'.cell? ⟨B, 0, none⟩ = some (.int .i64 (atS l d).start) ∧ w'.cell? ⟨B, 1, none⟩ = some (.bool (atS l d).whole) ∧ w'.cell? ⟨B, 2, none⟩ = some (.int .i64 (atS l d).least) ∧ w'.cell? ⟨B, 3, none⟩ = some (.slice a3 (atS l d).weeks.length k3) ∧ w'.cell? ⟨B, 4, none⟩ = some (.slice a4 (atS l d).counts.length k4) ∧ w'.cell? ⟨B, 5, none⟩ = some (.slice a5 (atS l d).rates.length k5)) ∧ Ext w3 w') :=
          fun w' hx' => ⟨⟨hx'.keep q0, hx'.keep q1, hx'.keep q2, hx'.keep q3, hx'.keep q4, hx'.keep q5⟩, hx'⟩
        have hps := HPS.out.trans (if_pos hge)
        clear hls
        go_wp2_with fail
        go_upto_region 7 with fail
        go_cut [5] (fun s5 wx => s5 = .int .i64 (partS l c d n) ∧ Ext w3 wx)
        case first =>
          cases hwh : (atS l d).whole
          · rw [hwh] at q1 hS3 hps
            simp only [Bool.false_eq_true, if_false] at hps
            have HPSF := Lib.hid hps
            clear hps hwh
            have hfield : ∀ W, (Instr.field 145 (.agg #[.func (.func 96) #[] #[]]) 0).run Try.prog W = .ok (.func (.func 96) #[] #[]) W := fun _ => by kernel_rfl
            go_region_held3 (fun w' => (w'.cell? ⟨B, 0, none⟩ = some (.int .i64 (atS l d).start) ∧ w'.cell? ⟨B, 1, none⟩ = some (.bool false) ∧ w'.cell? ⟨B, 2, none⟩ = some (.int .i64 (atS l d).least) ∧ w'.cell? ⟨B, 3, none⟩ = some (.slice a3 (atS l d).weeks.length k3) ∧ w'.cell? ⟨B, 4, none⟩ = some (.slice a4 (atS l d).counts.length k4) ∧ w'.cell? ⟨B, 5, none⟩ = some (.slice a5 (atS l d).rates.length k5)) ∧ Ext w3 w')
              ((refine hS3.out _ ?_; (repeat (first | exact Ext.refl _ | (with_reducible assumption) | (with_reducible refine Ext.drew ?_) | (with_reducible refine Ext.alloc ?_ _) | (with_reducible refine Ext.drewN ?_ _) | (with_reducible refine Ext.setCell ?_ (by omega) _) | (with_reducible refine Ext.trans ?_ (by with_reducible assumption))))))
              (first
                | (go_at_call 86; refine (rule_any _ _ _ _ _ _ _).mono ?_; rintro e w4 ⟨rfl, hx4⟩; simp only [ruleV, Bool.false_eq_true, if_false])
                | (go_at_call 96; refine (excess_any _ _ _ _ _ _ _ _ hle.1 hle.2 hlb.1 hlb.2).mono ?_; rintro e w5 ⟨rfl, hx5⟩))
            go_wp2_with fail
            go_meet
            exact ⟨congrArg (Value.int .i64) HPSF.out.symm, by (repeat (first | exact Ext.refl _ | (with_reducible assumption) | (with_reducible refine Ext.drew ?_) | (with_reducible refine Ext.alloc ?_ _) | (with_reducible refine Ext.drewN ?_ _) | (with_reducible refine Ext.setCell ?_ (by omega) _) | (with_reducible refine Ext.trans ?_ (by with_reducible assumption))))⟩
          · rw [hwh] at q1 hS3 hps
            simp only [if_true] at hps
            have HPSF := Lib.hid hps
            clear hps hwh
            have hfield : ∀ W, (Instr.field 145 (.agg #[.func (.func 95) #[] #[]]) 0).run Try.prog W = .ok (.func (.func 95) #[] #[]) W := fun _ => by kernel_rfl
            go_region_held3 (fun w' => (w'.cell? ⟨B, 0, none⟩ = some (.int .i64 (atS l d).start) ∧ w'.cell? ⟨B, 1, none⟩ = some (.bool true) ∧ w'.cell? ⟨B, 2, none⟩ = some (.int .i64 (atS l d).least) ∧ w'.cell? ⟨B, 3, none⟩ = some (.slice a3 (atS l d).weeks.length k3) ∧ w'.cell? ⟨B, 4, none⟩ = some (.slice a4 (atS l d).counts.length k4) ∧ w'.cell? ⟨B, 5, none⟩ = some (.slice a5 (atS l d).rates.length k5)) ∧ Ext w3 w')
              ((refine hS3.out _ ?_; (repeat (first | exact Ext.refl _ | (with_reducible assumption) | (with_reducible refine Ext.drew ?_) | (with_reducible refine Ext.alloc ?_ _) | (with_reducible refine Ext.drewN ?_ _) | (with_reducible refine Ext.setCell ?_ (by omega) _) | (with_reducible refine Ext.trans ?_ (by with_reducible assumption))))))
              (first
                | (go_at_call 86; refine (rule_any _ _ _ _ _ _ _).mono ?_; rintro e w4 ⟨rfl, hx4⟩; simp only [ruleV, if_true])
                | (go_at_call 95; refine (whole_any _ _ _ _ _ _ _ _ _ rfl).mono ?_; rintro e w5 ⟨rfl, hx5⟩))
            go_wp2_with fail
            go_meet
            exact ⟨congrArg (Value.int .i64) HPSF.out.symm, by (repeat (first | exact Ext.refl _ | (with_reducible assumption) | (with_reducible refine Ext.drew ?_) | (with_reducible refine Ext.alloc ?_ _) | (with_reducible refine Ext.drewN ?_ _) | (with_reducible refine Ext.setCell ?_ (by omega) _) | (with_reducible refine Ext.trans ?_ (by with_reducible assumption))))⟩
        case rest =>
          obtain ⟨rfl, hx5⟩ := hcut
          have Y5 := Y3.trans hx5
          have n0 := hx5.keep n0
          have n1 := hx5.keep n1
          have n2 := hx5.keep n2
          have kk1 := hx5.keep kk1
          obtain ⟨o, hup, hmm⟩ := update_spot (partS l) c d n r wc.drew ((HW.out.memo.ext Y5).ext (Ext.refl _).drew)
          clear hps
          generalize hpe : partS l c d n = ps at *
          have HPE := Lib.hid hpe; clear hpe
          go_wp2_with fail
          go_region
          all_goals
            go_wp2_with fail
            go_ret
            exact ⟨ret_int HPE.out.symm, ((X.trans Y5.drew).but r).trans (putObj_but _ _ _), (HW.out.ext Y5.drew).but (putObj_but _ _ _) hmm⟩
      · have hps := HPS.out.trans (if_neg hge)
        obtain ⟨o, hup, hmm⟩ := update_spot (partS l) c d n r w3.drew ((HW.out.memo.ext Y3).ext (Ext.refl _).drew)
        rw [hps] at hup
        have HPS0 := Lib.hid hps
        clear hps
        go_wp2_with fail
        clear q0 q1 q2 q3 q4 q5 hls hlb hle
        go_region
        all_goals
          go_wp2_with fail
          go_ret
          exact ⟨ret_int HPS0.out.symm, ((X.trans Y3.drew).but r).trans (putObj_but _ _ _), (HW.out.ext Y3.drew).but (putObj_but _ _ _) hmm⟩
  · have hvp : vl = partS l c d n := HOK.out rfl
    have HVP := Lib.hid hvp; clear hvp
    go_quiet (fail)
    go_wp2_with fail
    go_ret
    have XX : Ext W (W.drewN nq) := (Ext.refl _).drewN _
    exact ⟨ret_int HVP.out, ((X.trans XX).but r), HW.out.ext XX⟩
end Go.Proofs.Ytedblocbcjoolaa

/- Contracts: Part, a payment, the claims. -/
namespace Go.Proofs.Ytedblocbcjoolaa
open Go.RowKit Go.Hs
attribute [local irreducible] World.setCell World.alloc

set_option maxHeartbeats 400000 in
theorem ocrop_any (v : Value) (l : List Tar) (hp : 0 < l.length) (n : Int) (w : World) (hv : TarsV w v l) :
    Calls Try.prog 80 #[.agg #[v], .int .i64 n] w fun e w' => e = .returned (.bool (inR n 0 ((cropsN l : Int) - 1))) ∧ Ext w w' := by
  obtain ⟨a, c, rfl, h1, h2, hr⟩ := hv
  obtain ⟨b, off, rfl, hta⟩ := hr 0 hp
  obtain ⟨a3, k3, a4, k4, a5, k5, -, -, -, -, -, x5, hT⟩ := hta.open
  have e0 : l[0] = l.getD 0 default := by simp [hp]
  rw [e0] at x5 hT
  simp only [Nat.zero_mul, Nat.add_zero] at x5
  have hl := hT.rates.len_le.2
  have hcn : (l.getD 0 default).rates.length = cropsN l := rfl
  rw [hcn] at x5 hl
  clear hta hT hcn e0 hr
  have hb : b < w.heap.size := lt_of_cell x5
  generalize cropsN l = m at *
  go_enter Try.func80, Try.ntmps80
  go_wp2_with (go_at_call 64; refine (within_any _ _ _ _).mono ?_; rintro e w' ⟨rfl, rfl⟩)
  go_ret
  exact ⟨rfl, (Ext.refl _).alloc _⟩

/-- The values of a claim. -/
structure Cla where
  crop : Int
  value : Int
  dlo : Int
  dhi : Int
  clo : Int
  chi : Int
abbrev Cla.u (c : Cla) : V6 := ⟨.int .i64 c.crop, .int .i64 c.value, .int .i64 c.dlo, .int .i64 c.dhi, .int .i64 c.clo, .int .i64 c.chi⟩
def claimB (l : List Tar) (c : Cla) : Bool :=
  inR c.crop 0 ((cropsN l : Int) - 1) && inR c.value 0 100000 && ofB c.dlo c.dhi 120 && decide (c.dhi - c.dlo ≤ 10) && ofB c.clo c.chi 100

set_option maxRecDepth 100000 in
set_option maxHeartbeats 1000000 in
theorem claim_any (v : Value) (l : List Tar) (hp : 0 < l.length) (c : Cla) (w : World) (hv : TarsV w v l) :
    Calls Try.prog 69 #[.agg #[v], c.u.val] w fun e w' => e = .returned (.bool (claimB l c)) ∧ Ext w w' := by
  have hoc : ∀ W', Ext w W' → Calls Try.prog 80 #[.agg #[v], .int .i64 c.crop] W' fun e w' => e = .returned (.bool (inR c.crop 0 ((cropsN l : Int) - 1))) ∧ Ext W' w' := fun W' hx => ocrop_any v l hp c.crop W' (hv.ext hx)
  obtain ⟨a, cc, hve, -⟩ := id hv
  have HB : Hid (claimB l c = (inR c.crop 0 ((cropsN l : Int) - 1) && inR c.value 0 100000 && ofB c.dlo c.dhi 120 && decide (c.dhi - c.dlo ≤ 10) && ofB c.clo c.chi 100)) := rfl
  have HOF : Hid (∀ lo hi most, ofB lo hi most = true → 0 ≤ lo ∧ lo ≤ hi ∧ hi ≤ most) := fun lo hi most h => by simpa [ofB, and_assoc] using h
  obtain ⟨cr, va, dl, dh, cl, ch⟩ := c
  simp only at *
  subst hve
  have X : Ext w ((w.alloc (.cells #[.slice a l.length cc] 130)).alloc (.cells #[.int .i64 cr, .int .i64 va, .int .i64 dl, .int .i64 dh, .int .i64 cl, .int .i64 ch] 95)) := by (repeat (first | exact Ext.refl _ | (with_reducible assumption) | (with_reducible refine Ext.drew ?_) | (with_reducible refine Ext.alloc ?_ _) | (with_reducible refine Ext.drewN ?_ _) | (with_reducible refine Ext.setCell ?_ (by omega) _) | (with_reducible refine Ext.trans ?_ (by with_reducible assumption))))
  have f0 : ∀ W', Ext ((w.alloc (.cells #[.slice a l.length cc] 130)).alloc (.cells #[.int .i64 cr, .int .i64 va, .int .i64 dl, .int .i64 dh, .int .i64 cl, .int .i64 ch] 95)) W' → Cell6 W' (w.heap.size + 1) 0 ⟨.int .i64 cr, .int .i64 va, .int .i64 dl, .int .i64 dh, .int .i64 cl, .int .i64 ch⟩ := fun W' hx => Cell6.ext hx _ _ _ (by simp [Cell6])
  have F0 := Lib.hid f0; clear f0
  clear hv
  go_enter Try.func69, Try.ntmps69
  go_wp2_with (first
    | (go_at_call 80; (with_reducible refine (hoc _ X).mono ?_); rintro e w3 ⟨rfl, hx3⟩; obtain ⟨q0, q1, q2, q3, q4, q5⟩ := F0.out _ hx3; simp only [Nat.zero_add] at q0 q1 q2 q3 q4 q5)
    | (go_at_call 64; refine (within_any _ _ _ _).mono ?_; rintro e w' ⟨rfl, rfl⟩)
    | (go_at_call_of 81 (Value.int .i64 120); refine (of_any _ _ _ _).mono ?_; rintro e w4 ⟨rfl, hx4⟩; obtain ⟨r0, r1, r2, r3, r4, r5⟩ := F0.out _ (hx3.trans hx4); simp only [Nat.zero_add] at r0 r1 r2 r3 r4 r5)
    | (go_at_call_of 81 (Value.int .i64 100); refine (of_any _ _ _ _).mono ?_; rintro e w5 ⟨rfl, hx5⟩))
  all_goals
    go_ret
    refine ⟨ret_bool ?_, by (repeat (first | exact Ext.refl _ | (with_reducible assumption) | (with_reducible refine Ext.drew ?_) | (with_reducible refine Ext.alloc ?_ _) | (with_reducible refine Ext.drewN ?_ _) | (with_reducible refine Ext.setCell ?_ (by omega) _) | (with_reducible refine Ext.trans ?_ (by with_reducible assumption))))⟩
    rw [HB.out]
    first
    | (have q : ofB dl dh 120 = true := by assumption
       have h1 : wrap64 (dh - dl) ≤ 10 := by assumption
       have q' := HOF.out _ _ _ q
       rw [wrap64_id (by omega) (by omega)] at h1
       simp [*])
    | (have q : ofB dl dh 120 = true := by assumption
       have h1 : 10 < wrap64 (dh - dl) := by assumption
       have q' := HOF.out _ _ _ q
       rw [wrap64_id (by omega) (by omega)] at h1
       have h2 : ¬ (dh - dl ≤ 10) := by omega
       simp [h2])
    | simp [*]
end Go.Proofs.Ytedblocbcjoolaa

/- Contracts: a payment. -/
namespace Go.Proofs.Ytedblocbcjoolaa
open Go.RowKit Go.Hs
attribute [local irreducible] World.setCell World.alloc

def payS (l : List Tar) (c : Cla) (d n : Int) : Int := payI c.value (partS l c.crop d n)
/-- A claim that is valid, for a valid list. -/
structure ClaimOK (l : List Tar) (c : Cla) : Prop where
  crop : 0 ≤ c.crop ∧ c.crop < cropsN l
  value : 0 ≤ c.value ∧ c.value ≤ 100000
  day : 0 ≤ c.dlo ∧ c.dlo ≤ c.dhi ∧ c.dhi ≤ 120
  ten : c.dhi - c.dlo ≤ 10
  count : 0 ≤ c.clo ∧ c.clo ≤ c.chi ∧ c.chi ≤ 100
theorem claimB_iff {l : List Tar} {c : Cla} : claimB l c = true ↔ ClaimOK l c := by
  unfold claimB ofB
  simp only [Bool.and_eq_true, inR_iff, decide_eq_true_eq]
  constructor
  · rintro ⟨⟨⟨⟨h1, h2⟩, h3⟩, h4⟩, h5⟩
    exact ⟨⟨h1.1, by omega⟩, h2, by omega, h4, by omega⟩
  · rintro ⟨h1, h2, h3, h4, h5⟩
    exact ⟨⟨⟨⟨⟨h1.1, by omega⟩, h2⟩, by omega⟩, h4⟩, by omega⟩

theorem pay_fin {x : Int} (h0 : 0 ≤ x) (h1 : x ≤ 10000000) : IntKind.i64.wrap ((IntKind.i64.wrap x).tdiv 100) = x / 100 := by
  rw [IntWalk.i64_in x (by omega), Int.tdiv_eq_ediv_of_nonneg h0]
  exact IntWalk.i64_in _ (by omega)

set_option maxRecDepth 100000 in
set_option maxHeartbeats 1000000 in
theorem pay_any (l : List Tar) (hl : ValidL l) (c : Cla) (hc : ClaimOK l c) (d n : Int) (hd : 0 ≤ d) (hn0 : 0 ≤ n) (hn1 : n ≤ 100) (p r : Nat) (v : Value) (w : World) (hw : WorkAt l p r v w) :
    Calls Try.prog 58 #[.pointer (some ⟨p, 0, none⟩), c.u.val, .agg #[.int .i64 d, .int .i64 n]] w fun e w' => e = .returned (.int .i64 (payS l c d n)) ∧ ExtBut r w w' ∧ WorkAt l p r v w' := by
  have hpt : ∀ W', WorkAt l p r v W' → Calls Try.prog 71 #[.pointer (some ⟨p, 0, none⟩), spotV c.crop d n] W' fun e w' => e = .returned (.int .i64 (partS l c.crop d n)) ∧ ExtBut r W' w' ∧ WorkAt l p r v w' :=
    fun W' h => part_any l hl c.crop d n hc.crop.1 hc.crop.2 hd hn0 hn1 p r v W' h
  have hpb := partS_bd hl hc.crop.1 hc.crop.2 hd hn0 hn1
  have hvb := hc.value
  have HP : Hid (payS l c d n = payI c.value (partS l c.crop d n)) := rfl
  obtain ⟨cr, va, dl, dh, cl, ch⟩ := c
  simp only at hpt hpb hvb HP
  have hm := pay_wrap hvb.1 hvb.2 hpb.1 hpb.2
  generalize partS l cr d n = ps at *
  have X : Ext w ((w.alloc (.cells #[.int .i64 cr, .int .i64 va, .int .i64 dl, .int .i64 dh, .int .i64 cl, .int .i64 ch] 95)).alloc (.cells #[.int .i64 d, .int .i64 n] 97)) := by (repeat (first | exact Ext.refl _ | (with_reducible assumption) | (with_reducible refine Ext.drew ?_) | (with_reducible refine Ext.alloc ?_ _) | (with_reducible refine Ext.drewN ?_ _) | (with_reducible refine Ext.setCell ?_ (by omega) _) | (with_reducible refine Ext.trans ?_ (by with_reducible assumption))))
  have hw1 := hw.ext X
  go_enter Try.func58, Try.ntmps58
  go_wp2_with fail
  have z0 : ((w.alloc (.cells #[.int .i64 cr, .int .i64 va, .int .i64 dl, .int .i64 dh, .int .i64 cl, .int .i64 ch] 95)).alloc (.cells #[.int .i64 d, .int .i64 n] 97)).cell? ⟨w.heap.size, 0, none⟩ = some (.int .i64 cr) := by simp
  have z1 : ((w.alloc (.cells #[.int .i64 cr, .int .i64 va, .int .i64 dl, .int .i64 dh, .int .i64 cl, .int .i64 ch] 95)).alloc (.cells #[.int .i64 d, .int .i64 n] 97)).cell? ⟨w.heap.size, 1, none⟩ = some (.int .i64 va) := by simp
  have z2 : ((w.alloc (.cells #[.int .i64 cr, .int .i64 va, .int .i64 dl, .int .i64 dh, .int .i64 cl, .int .i64 ch] 95)).alloc (.cells #[.int .i64 d, .int .i64 n] 97)).cell? ⟨w.heap.size + 1, 0, none⟩ = some (.int .i64 d) := by simp
  have z3 : ((w.alloc (.cells #[.int .i64 cr, .int .i64 va, .int .i64 dl, .int .i64 dh, .int .i64 cl, .int .i64 ch] 95)).alloc (.cells #[.int .i64 d, .int .i64 n] 97)).cell? ⟨w.heap.size + 1, 1, none⟩ = some (.int .i64 n) := by simp
  generalize ((w.alloc (.cells #[.int .i64 cr, .int .i64 va, .int .i64 dl, .int .i64 dh, .int .i64 cl, .int .i64 ch] 95)).alloc (.cells #[.int .i64 d, .int .i64 n] 97)) = W at *
  have HS : Hid (∀ w', ExtBut r W w' → WorkAt l p r v w' → (w'.cell? ⟨w.heap.size, 0, none⟩ = some (.int .i64 cr) ∧ w'.cell? ⟨w.heap.size, 1, none⟩ = some (.int .i64 va) ∧ w'.cell? ⟨w.heap.size + 1, 0, none⟩ = some (.int .i64 d) ∧ w'.cell? ⟨w.heap.size + 1, 1, none⟩ = some (.int .i64 n)) ∧ ExtBut r W w' ∧ WorkAt l p r v w') :=
    fun w' hx hk => have k := hx.kc hw1.memo.noCells; ⟨⟨k _ _ _ z0, k _ _ _ z1, k _ _ _ z2, k _ _ _ z3⟩, hx, hk⟩
  have HPT := Lib.hid hpt; clear hpt
  have hw1d : WorkAt l p r v W.drew := hw1.ext (Ext.refl _).drew
  clear z0 z1 z2 z3
  go_region_held3 (fun w' => (w'.cell? ⟨w.heap.size, 0, none⟩ = some (.int .i64 cr) ∧ w'.cell? ⟨w.heap.size, 1, none⟩ = some (.int .i64 va) ∧ w'.cell? ⟨w.heap.size + 1, 0, none⟩ = some (.int .i64 d) ∧ w'.cell? ⟨w.heap.size + 1, 1, none⟩ = some (.int .i64 n)) ∧ ExtBut r W w' ∧ WorkAt l p r v w')
    (first | exact HS.out _ (ExtBut.refl r W).drew hw1d | exact HS.out _ ((ExtBut.refl r W).drew.trans hx2) hw2)
    (first | (go_at_call 71; (with_reducible refine (HPT.out _ hw1d).mono ?_); rintro e w2 ⟨rfl, hx2, hw2⟩))
  go_wp2_with fail
  go_ret
  exact ⟨ret_int ((pay_fin hm.1 hm.2).trans HP.out.symm), (X.drew.but r).trans hx2, hw2⟩
end Go.Proofs.Ytedblocbcjoolaa

/- Contracts: tariffs at work for some claims. -/
namespace Go.Proofs.Ytedblocbcjoolaa
open Go.RowKit Go.Hs
attribute [local irreducible] World.setCell World.alloc

def claimsB (l : List Tar) (cs : List Cla) : Bool := allB cs.length (fun i => claimB l (cs.getD i ⟨0, 0, 0, 0, 0, 0⟩))

theorem allcla (v : Value) (l : List Tar) (hl : 0 < l.length) (a : Option Addr) (c : Nat) (cs : List Cla) (hlen : cs.length ≤ 140737488351232) (w : World) (hv : TarsV w v l) (hc : Cells6 w a (cs.map Cla.u)) :
    Calls Try.prog 70 #[.slice a cs.length c, .func (.func 69) #[.agg #[v]] #[]] w fun e w' => e = .returned (.bool (claimsB l cs)) ∧ Ext w w' := by
  have h := allx_cla 69 fn_claim #[.agg #[v]] #[] a c (cs.map Cla.u) (fun i => claimB l (cs.getD i ⟨0, 0, 0, 0, 0, 0⟩)) w (by simpa using hlen) hc
    (fun i hi w1 hx => by
      have hi' : i < cs.length := by simpa using hi
      have e1 : (cs.map Cla.u)[i] = (cs[i]).u := by simp
      rw [e1]
      refine (claim_any v l hl cs[i] w1 (hv.ext hx)).mono ?_
      rintro e w2 ⟨rfl, h2⟩
      exact ⟨ret_bool (by simp [hi']), h2⟩)
  rw [List.length_map] at h
  exact h

set_option maxRecDepth 100000 in
set_option maxHeartbeats 1000000 in
theorem asked_err (v vc : Value) (l : List Tar) (w : World) (hv : TarsV w v l) (h0 : checkS l ≠ 0) :
    Calls Try.prog 56 #[v, vc] w fun e w' => e = .returned (.tuple #[.pointer none, .int .i64 (checkS l)]) ∧ Ext w w' := by
  have hck := check_any v l w hv
  have hd : (checkS l != 0) = true := by simp [h0]
  clear h0
  generalize checkS l = ck at *
  go_enter Try.func56, Try.ntmps56
  go_wp2_with fail
  (with_reducible refine hck.mono ?_)
  rintro e w1 ⟨rfl, hx1⟩
  go_wp2_with fail
  go_ret2
  exact ⟨rfl, hx1⟩

set_option maxRecDepth 100000 in
set_option maxHeartbeats 1000000 in
theorem asked_no (v : Value) (l : List Tar) (a : Option Addr) (c : Nat) (cs : List Cla) (hlen : cs.length ≤ 140737488351232) (w : World) (hv : TarsV w v l) (hc : Cells6 w a (cs.map Cla.u)) (h0 : checkS l = 0) (h1 : claimsB l cs = false) :
    Calls Try.prog 56 #[v, .slice a cs.length c] w fun e w' => e = .returned (.tuple #[.pointer none, .int .i64 2]) ∧ Ext w w' := by
  have hck := check_any v l w hv
  have hl := validL_of h0
  rw [h0] at hck
  clear h0
  have hst : ∀ W', Ext w W' → Calls Try.prog 68 #[v] W' fun e w' => e = .returned (.pointer (some ⟨W'.heap.size + 1, 0, none⟩)) ∧ Ext W' w' ∧ WorkAt l (W'.heap.size + 1) W'.heap.size v w' := fun W' hx => start_any v l W' (hv.ext hx)
  have hal : ∀ W', Ext w W' → Calls Try.prog 70 #[.slice a cs.length c, .func (.func 69) #[.agg #[v]] #[]] W' fun e w' => e = .returned (.bool false) ∧ Ext W' w' := fun W' hx => by
    have := allcla v l hl.pos a c cs hlen W' (hv.ext hx) (hc.ext hx)
    rw [h1] at this; exact this
  clear h1 hc
  go_enter Try.func56, Try.ntmps56
  go_wp2_with fail
  (with_reducible refine hck.mono ?_)
  rintro e w1 ⟨rfl, hx1⟩
  go_wp2_with fail
  (with_reducible refine (hst _ hx1).mono ?_)
  rintro e w2 ⟨rfl, hx2, hw2⟩
  have k0 := hw2.list
  go_wp2_with fail
  (with_reducible refine (hal _ (hx1.trans hx2)).mono ?_)
  rintro e w3 ⟨rfl, hx3⟩
  go_wp2_with fail
  go_ret2
  exact ⟨rfl, by (repeat (first | exact Ext.refl _ | (with_reducible assumption) | (with_reducible refine Ext.drew ?_) | (with_reducible refine Ext.alloc ?_ _) | (with_reducible refine Ext.drewN ?_ _) | (with_reducible refine Ext.setCell ?_ (by omega) _) | (with_reducible refine Ext.trans ?_ (by with_reducible assumption))))⟩

set_option maxRecDepth 100000 in
set_option maxHeartbeats 1000000 in
theorem asked_ok (v : Value) (l : List Tar) (a : Option Addr) (c : Nat) (cs : List Cla) (hlen : cs.length ≤ 140737488351232) (w : World) (hv : TarsV w v l) (hc : Cells6 w a (cs.map Cla.u)) (h0 : checkS l = 0) (h1 : claimsB l cs = true) :
    Calls Try.prog 56 #[v, .slice a cs.length c] w fun e w' => ∃ p r, e = .returned (.tuple #[.pointer (some ⟨p, 0, none⟩), .int .i64 0]) ∧ Ext w w' ∧ WorkAt l p r v w' ∧ w.heap.size ≤ r := by
  have hck := check_any v l w hv
  have hl := validL_of h0
  rw [h0] at hck
  clear h0
  have hst : ∀ W', Ext w W' → Calls Try.prog 68 #[v] W' fun e w' => e = .returned (.pointer (some ⟨W'.heap.size + 1, 0, none⟩)) ∧ Ext W' w' ∧ WorkAt l (W'.heap.size + 1) W'.heap.size v w' := fun W' hx => start_any v l W' (hv.ext hx)
  have hal : ∀ W', Ext w W' → Calls Try.prog 70 #[.slice a cs.length c, .func (.func 69) #[.agg #[v]] #[]] W' fun e w' => e = .returned (.bool true) ∧ Ext W' w' := fun W' hx => by
    have := allcla v l hl.pos a c cs hlen W' (hv.ext hx) (hc.ext hx)
    rw [h1] at this; exact this
  clear h1 hc
  go_enter Try.func56, Try.ntmps56
  go_wp2_with fail
  (with_reducible refine hck.mono ?_)
  rintro e w1 ⟨rfl, hx1⟩
  go_wp2_with fail
  (with_reducible refine (hst _ hx1).mono ?_)
  rintro e w2 ⟨rfl, hx2, hw2⟩
  have k0 := hw2.list
  go_wp2_with fail
  (with_reducible refine (hal _ (hx1.trans hx2)).mono ?_)
  rintro e w3 ⟨rfl, hx3⟩
  go_wp2_with fail
  go_ret2
  exact ⟨_, _, rfl, by (repeat (first | exact Ext.refl _ | (with_reducible assumption) | (with_reducible refine Ext.drew ?_) | (with_reducible refine Ext.alloc ?_ _) | (with_reducible refine Ext.drewN ?_ _) | (with_reducible refine Ext.setCell ?_ (by omega) _) | (with_reducible refine Ext.trans ?_ (by with_reducible assumption)))), hw2.ext hx3, hx1.size⟩
end Go.Proofs.Ytedblocbcjoolaa

/- Contracts: the payment on a claim in a truth (for layer 7). -/
namespace Go.Proofs.Ytedblocbcjoolaa
open Go.RowKit Go.Hs
attribute [local irreducible] World.setCell World.alloc

/-- The error of what is asked of some claims. -/
def askS (l : List Tar) (cs : List Cla) : Int := if checkS l ≠ 0 then checkS l else if claimsB l cs then 0 else 2

theorem askS_zero {l : List Tar} {cs : List Cla} (h : askS l cs = 0) : checkS l = 0 ∧ claimsB l cs = true := by
  unfold askS at h
  split at h
  · rename_i h0; exact absurd h h0
  · rename_i h0
    split at h
    · rename_i h1; exact ⟨by omega, h1⟩
    · omega

theorem asked_bad (v : Value) (l : List Tar) (a : Option Addr) (c : Nat) (cs : List Cla) (hlen : cs.length ≤ 140737488351232) (w : World) (hv : TarsV w v l) (hc : Cells6 w a (cs.map Cla.u)) (h : askS l cs ≠ 0) :
    Calls Try.prog 56 #[v, .slice a cs.length c] w fun e w' => e = .returned (.tuple #[.pointer none, .int .i64 (askS l cs)]) ∧ Ext w w' := by
  by_cases h0 : checkS l = 0
  · have h1 : claimsB l cs = false := by
      cases e : claimsB l cs with
      | false => rfl
      | true => exact absurd (by simp [askS, h0, e]) h
    have e : askS l cs = 2 := by simp [askS, h0, h1]
    rw [e]
    exact asked_no v l a c cs hlen w hv hc h0 h1
  · have e : askS l cs = checkS l := if_pos h0
    rw [e]
    exact asked_err v _ l w hv h0

theorem asked_good (v : Value) (l : List Tar) (a : Option Addr) (c : Nat) (cs : List Cla) (hlen : cs.length ≤ 140737488351232) (w : World) (hv : TarsV w v l) (hc : Cells6 w a (cs.map Cla.u)) (h : askS l cs = 0) :
    Calls Try.prog 56 #[v, .slice a cs.length c] w fun e w' => ∃ p r, e = .returned (.tuple #[.pointer (some ⟨p, 0, none⟩), .int .i64 0]) ∧ Ext w w' ∧ WorkAt l p r v w' ∧ w.heap.size ≤ r :=
  asked_ok v l a c cs hlen w hv hc (askS_zero h).1 (askS_zero h).2

theorem one_claim {w : World} {B : Nat} {c : Cla} (h : Cell6 w B 0 c.u) : Cells6 w (some ⟨B, 0, none⟩) ([c].map Cla.u) := by
  intro i hi
  have e : i = 0 := by simpa using hi
  subst e
  exact ⟨B, 0, rfl, by simpa using h⟩

theorem ask_one {l : List Tar} {c : Cla} (h : askS l [c] = 0) : ValidL l ∧ ClaimOK l c := by
  obtain ⟨h0, h1⟩ := askS_zero h
  refine ⟨validL_of h0, claimB_iff.1 ?_⟩
  have := allB_iff.1 h1 0 (by simp)
  simpa using this

/-- The error of what is asked of one claim. -/
def askS1 (l : List Tar) (c : Cla) : Int := if checkS l ≠ 0 then checkS l else if claimB l c then 0 else 2

theorem askS_one (l : List Tar) (c : Cla) : askS l [c] = askS1 l c := by
  have e : claimsB l [c] = claimB l c := by
    rw [Bool.eq_iff_iff]
    unfold claimsB
    rw [allB_iff]
    constructor
    · intro h; have := h 0 (by simp); simpa using this
    · intro h i hi
      have e : i = 0 := by simpa using hi
      subst e; simpa using h
  unfold askS askS1
  rw [e]
def truthB (c : Cla) (d n : Int) : Bool := inR d c.dlo c.dhi && inR n c.clo c.chi
def payN (l : List Tar) (c : Cla) (d n : Int) : Int := if askS1 l c = 0 then (if truthB c d n then payS l c d n else 0) else 0
def payE (l : List Tar) (c : Cla) (d n : Int) : Int := if askS1 l c = 0 then (if truthB c d n then 0 else 2) else askS1 l c

set_option maxRecDepth 100000 in
set_option maxHeartbeats 2000000 in
theorem Pay_any (v : Value) (l : List Tar) (c : Cla) (d n : Int) (w : World) (hv : TarsV w v l) :
    Calls Try.prog 39 #[v, c.u.val, .agg #[.int .i64 d, .int .i64 n]] w fun e w' => e = .returned (.tuple #[.int .i64 (payN l c d n), .int .i64 (payE l c d n)]) ∧ Ext w w' := by
  have HN : Hid (payN l c d n = if askS1 l c = 0 then (if truthB c d n then payS l c d n else 0) else 0) := rfl
  have HE : Hid (payE l c d n = if askS1 l c = 0 then (if truthB c d n then 0 else 2) else askS1 l c) := rfl
  have HT : Hid (truthB c d n = (inR d c.dlo c.dhi && inR n c.clo c.chi)) := rfl
  by_cases h : askS1 l c = 0
  · have h' : askS l [c] = 0 := by rw [askS_one]; exact h
    have hb : ∀ B k W, Ext w W → Cell6 W B 0 c.u → Calls Try.prog 56 #[v, .slice (some ⟨B, 0, none⟩) 1 k] W fun e w' => ∃ p r, e = .returned (.tuple #[.pointer (some ⟨p, 0, none⟩), .int .i64 0]) ∧ Ext W w' ∧ WorkAt l p r v w' ∧ W.heap.size ≤ r :=
      fun B k W hx hc => asked_good v l _ k [c] (by simp) W (hv.ext hx) (one_claim hc) h'
    obtain ⟨hl, hcl⟩ := ask_one h'
    have HPY : Hid (truthB c d n = true → ∀ p r W, WorkAt l p r v W → Calls Try.prog 58 #[.pointer (some ⟨p, 0, none⟩), c.u.val, .agg #[.int .i64 d, .int .i64 n]] W fun e w' => e = .returned (.int .i64 (payS l c d n)) ∧ ExtBut r W w' ∧ WorkAt l p r v w') :=
      fun ht p r W hw => by
        simp only [truthB, Bool.and_eq_true, inR_iff] at ht
        have := hcl.day
        have := hcl.count
        exact pay_any l hl c hcl d n (by omega) (by omega) (by omega) p r v W hw
    have HN' : Hid (payN l c d n = if truthB c d n then payS l c d n else 0) := by rw [HN.out, if_pos h]; exact Lib.hid rfl
    have HE' : Hid (payE l c d n = if truthB c d n then 0 else 2) := by rw [HE.out, if_pos h]; exact Lib.hid rfl
    have HHA := Lib.hid has_any
    clear HN HE h h' hl hcl
    generalize payN l c d n = pn at *
    generalize payE l c d n = pe at *
    generalize payS l c d n = ps at *
    generalize truthB c d n = tb at *
    obtain ⟨a, k, rfl, -⟩ := hv
    obtain ⟨cr, va, dl, dh, cl, ch⟩ := c
    simp only at HT
    go_enter Try.func39, Try.ntmps39
    go_wp2_with fail
    (with_reducible refine (hb _ _ _ ?hx ?hc).mono ?_)
    case hx => (repeat (first | exact Ext.refl _ | (with_reducible assumption) | (with_reducible refine Ext.drew ?_) | (with_reducible refine Ext.alloc ?_ _) | (with_reducible refine Ext.drewN ?_ _) | (with_reducible refine Ext.setCell ?_ (by omega) _) | (with_reducible refine Ext.trans ?_ (by with_reducible assumption))))
    case hc => refine ⟨?_, ?_, ?_, ?_, ?_, ?_⟩ <;> simp [go_sem]
    rintro e w1 ⟨p, r, rfl, hx1, hw1, hr1⟩
    have c0 := hx1.keep (k := w.heap.size) (o := 0) (v := .int .i64 cr) (by simp [go_sem])
    have c1 := hx1.keep (k := w.heap.size) (o := 1) (v := .int .i64 va) (by simp [go_sem])
    have c2 := hx1.keep (k := w.heap.size) (o := 2) (v := .int .i64 dl) (by simp [go_sem])
    have c3 := hx1.keep (k := w.heap.size) (o := 3) (v := .int .i64 dh) (by simp [go_sem])
    have c4 := hx1.keep (k := w.heap.size) (o := 4) (v := .int .i64 cl) (by simp [go_sem])
    have c5 := hx1.keep (k := w.heap.size) (o := 5) (v := .int .i64 ch) (by simp [go_sem])
    have t0 := hx1.keep (k := w.heap.size + 1) (o := 0) (v := .int .i64 d) (by simp [go_sem])
    have t1 := hx1.keep (k := w.heap.size + 1) (o := 1) (v := .int .i64 n) (by simp [go_sem])
    have XX : Ext w w1 := by (repeat (first | exact Ext.refl _ | (with_reducible assumption) | (with_reducible refine Ext.drew ?_) | (with_reducible refine Ext.alloc ?_ _) | (with_reducible refine Ext.drewN ?_ _) | (with_reducible refine Ext.setCell ?_ (by omega) _) | (with_reducible refine Ext.trans ?_ (by with_reducible assumption))))
    have hr : w.heap.size ≤ r := by simp at hr1; omega
    have K : Hid (∀ W, Ext w1 W → Cell6 W w.heap.size 0 ⟨.int .i64 cr, .int .i64 va, .int .i64 dl, .int .i64 dh, .int .i64 cl, .int .i64 ch⟩ ∧ W.cell? ⟨w.heap.size + 1, 0, none⟩ = some (.int .i64 d) ∧ W.cell? ⟨w.heap.size + 1, 1, none⟩ = some (.int .i64 n) ∧ WorkAt l p r (.slice a l.length k) W) :=
      fun W hx => ⟨by refine ⟨?_, ?_, ?_, ?_, ?_, ?_⟩ <;> simp only [Nat.zero_add] <;> first | exact hx.keep c0 | exact hx.keep c1 | exact hx.keep c2 | exact hx.keep c3 | exact hx.keep c4 | exact hx.keep c5, hx.keep t0, hx.keep t1, hw1.ext hx⟩
    have HR1 := Lib.hid hr1
    clear hb hx1 hw1 hr1
    cases h1 : inR d dl dh with
    | false =>
      have hab : tb = false := by rw [HT.out, h1]; rfl
      subst hab
      obtain rfl : pn = 0 := HN'.out
      obtain rfl : pe = 2 := HE'.out
      have hh := HHA.out d dl dh w1
      rw [h1] at hh
      clear h1 HPY HN' HE'
      go_wp2_with fail
      (with_reducible refine hh.mono ?_)
      rintro e w2 ⟨rfl, hx2⟩
      go_wp2_with fail
      go_ret2
      exact ⟨rfl, XX.trans hx2⟩
    | true =>
      have hh := HHA.out d dl dh w1
      rw [h1] at hh
      go_wp2_with fail
      (with_reducible refine hh.mono ?_)
      rintro e w2 ⟨rfl, hx2⟩
      obtain ⟨⟨d0, d1, d2, d3, d4, d5⟩, s0, s1, -⟩ := K.out w2 hx2
      simp only [Nat.zero_add] at d0 d1 d2 d3 d4 d5
      have hh2 := HHA.out n cl ch w2
      clear hh c0 c1 c2 c3 c4 c5 t0 t1
      cases h2 : inR n cl ch with
      | false =>
        have hab : tb = false := by rw [HT.out, h1, h2]; rfl
        subst hab
        obtain rfl : pn = 0 := HN'.out
        obtain rfl : pe = 2 := HE'.out
        rw [h2] at hh2
        clear h1 h2 HPY HN' HE'
        go_wp2_with fail
        (with_reducible refine hh2.mono ?_)
        rintro e w3 ⟨rfl, hx3⟩
        go_wp2_with fail
        go_ret2
        exact ⟨rfl, XX.trans (hx2.trans hx3)⟩
      | true =>
        have hab : tb = true := by rw [HT.out, h1, h2]; rfl
        subst hab
        obtain rfl : pn = ps := HN'.out
        obtain rfl : pe = 0 := HE'.out
        rw [h2] at hh2
        have HPY' := Lib.hid (HPY.out rfl)
        clear h1 h2 HPY HN' HE'
        go_wp2_with fail
        (with_reducible refine hh2.mono ?_)
        rintro e w3 ⟨rfl, hx3⟩
        clear hh2 d0 d1 d2 d3 d4 d5 s0 s1
        obtain ⟨⟨d0, d1, d2, d3, d4, d5⟩, s0, s1, hw3⟩ := K.out w3 (hx2.trans hx3)
        simp only [Nat.zero_add] at d0 d1 d2 d3 d4 d5
        have hpy := HPY'.out _ _ _ hw3
        clear hw3
        go_wp2_with fail
        (with_reducible refine hpy.mono ?_)
        rintro e w4 ⟨rfl, hx4, -⟩
        go_wp2_with fail
        go_ret2
        exact ⟨rfl, ExtBut.ext (XX.trans (hx2.trans hx3)) hr hx4⟩
  · have h' : askS l [c] ≠ 0 := by rw [askS_one]; exact h
    have hb : ∀ B k W, Ext w W → Cell6 W B 0 c.u → Calls Try.prog 56 #[v, .slice (some ⟨B, 0, none⟩) 1 k] W fun e w' => e = .returned (.tuple #[.pointer none, .int .i64 (askS1 l c)]) ∧ Ext W w' :=
      fun B k W hx hc => by
        rw [← askS_one]
        exact asked_bad v l _ k [c] (by simp) W (hv.ext hx) (one_claim hc) h'
    obtain e1 : payN l c d n = 0 := by rw [HN.out, if_neg h]
    obtain e2 : payE l c d n = askS1 l c := by rw [HE.out, if_neg h]
    rw [e1, e2]
    have hd : (askS1 l c != 0) = true := by simp [h]
    clear h h' e1 e2 HN HE HT
    generalize askS1 l c = ck at *
    obtain ⟨a, k, rfl, -⟩ := hv
    obtain ⟨cr, va, dl, dh, cl, ch⟩ := c
    go_enter Try.func39, Try.ntmps39
    go_wp2_with fail
    (with_reducible refine (hb _ _ _ ?hx ?hc).mono ?_)
    case hx => (repeat (first | exact Ext.refl _ | (with_reducible assumption) | (with_reducible refine Ext.drew ?_) | (with_reducible refine Ext.alloc ?_ _) | (with_reducible refine Ext.drewN ?_ _) | (with_reducible refine Ext.setCell ?_ (by omega) _) | (with_reducible refine Ext.trans ?_ (by with_reducible assumption))))
    case hc => refine ⟨?_, ?_, ?_, ?_, ?_, ?_⟩ <;> simp [go_sem]
    rintro e w1 ⟨rfl, hx1⟩
    go_wp2_with fail
    go_ret2
    exact ⟨rfl, by (repeat (first | exact Ext.refl _ | (with_reducible assumption) | (with_reducible refine Ext.drew ?_) | (with_reducible refine Ext.alloc ?_ _) | (with_reducible refine Ext.drewN ?_ _) | (with_reducible refine Ext.setCell ?_ (by omega) _) | (with_reducible refine Ext.trans ?_ (by with_reducible assumption))))⟩
end Go.Proofs.Ytedblocbcjoolaa

/- The plain words of layer 7: what is valid, how a case ends, all sums. -/
namespace Go.Hs
open Go.RowKit Go.Proofs.Ytedblocbcjoolaa
def claimF (c : Cas) (f : Fld) (n : Int) : Cla := ⟨f.crop, f.value, c.day, c.day, n, n⟩
def payC (c : Cas) (f : Fld) (n : Int) : Int := payN c.tars (claimF c f n) c.day n
def payOk (c : Cas) (f : Fld) (n : Int) : Bool := payE c.tars (claimF c f n) c.day n == 0
def fieldB (c : Cas) (f : Fld) : Bool := payOk c f 0 && (inR f.near 0 100 && (countsB f.alo f.ahi && (countsB f.blo f.bhi && countsB f.ulo f.uhi)))
instance : Inhabited Fld := ⟨⟨0, 0, 0, 0, 0, 0, 0, 0, 0⟩⟩
instance : Inhabited Thr := ⟨⟨0, 0, 0⟩⟩
def fieldsB (c : Cas) : Bool := allB c.flds.length (fun i => fieldB c (c.flds.getD i default))
/-- The error of a case. -/
def caseE (c : Cas) : Int := if checkS c.tars ≠ 0 then checkS c.tars else if 3 < c.flds.length then 3 else if inR c.day 0 120 && (inR c.fee 0 10000 && fieldsB c) then 0 else 1

/-- A field that is valid. -/
structure FldOK (l : List Tar) (f : Fld) : Prop where
  crop : 0 ≤ f.crop ∧ f.crop < cropsN l
  value : 0 ≤ f.value ∧ f.value ≤ 100000
  near : 0 ≤ f.near ∧ f.near ≤ 100
  a : 0 ≤ f.alo ∧ f.alo ≤ f.ahi ∧ f.ahi ≤ 100 ∧ f.ahi - f.alo ≤ 4
  b : 0 ≤ f.blo ∧ f.blo ≤ f.bhi ∧ f.bhi ≤ 100 ∧ f.bhi - f.blo ≤ 4
  u : 0 ≤ f.ulo ∧ f.ulo ≤ f.uhi ∧ f.uhi ≤ 100 ∧ f.uhi - f.ulo ≤ 4
/-- A case that is valid. -/
structure CasOK (c : Cas) : Prop where
  tars : ValidL c.tars
  few : c.flds.length ≤ 3
  day : 0 ≤ c.day ∧ c.day ≤ 120
  fee : 0 ≤ c.fee ∧ c.fee ≤ 10000
  flds : ∀ f ∈ c.flds, FldOK c.tars f

theorem countsB_iff {lo hi : Int} : countsB lo hi = true ↔ 0 ≤ lo ∧ lo ≤ hi ∧ hi ≤ 100 ∧ hi - lo ≤ 4 := by simp [countsB]

/-- A claim of one day and one count, for a list that is valid. -/
theorem claimF_iff {c : Cas} {f : Fld} {n : Int} : claimB c.tars (claimF c f n) = true ↔ (0 ≤ f.crop ∧ f.crop < cropsN c.tars) ∧ (0 ≤ f.value ∧ f.value ≤ 100000) ∧ (0 ≤ c.day ∧ c.day ≤ 120) ∧ (0 ≤ n ∧ n ≤ 100) := by
  rw [claimB_iff]
  constructor
  · rintro ⟨h1, h2, h3, h4, h5⟩
    simp only [claimF] at h1 h2 h3 h4 h5
    exact ⟨h1, h2, ⟨h3.1, h3.2.2⟩, ⟨h5.1, h5.2.2⟩⟩
  · rintro ⟨h1, h2, h3, h4⟩
    exact ⟨h1, h2, ⟨h3.1, Int.le_refl _, h3.2⟩, by simp [claimF], ⟨h4.1, Int.le_refl _, h4.2⟩⟩
theorem truthF (c : Cas) (f : Fld) (n : Int) : truthB (claimF c f n) c.day n = true := by
  simp [truthB, claimF, inR]
theorem payOk_iff {c : Cas} {f : Fld} {n : Int} (h : checkS c.tars = 0) : payOk c f n = claimB c.tars (claimF c f n) := by
  unfold payOk payE
  rw [truthF]
  have e : askS1 c.tars (claimF c f n) = if claimB c.tars (claimF c f n) then 0 else 2 := by unfold askS1; rw [if_neg (by rw [h]; simp)]
  rw [e]
  cases claimB c.tars (claimF c f n) <;> simp
theorem payC_eq {c : Cas} {f : Fld} {n : Int} (h : checkS c.tars = 0) (hc : claimB c.tars (claimF c f n) = true) : payC c f n = payI f.value (partS c.tars f.crop c.day n) := by
  unfold payC payN
  rw [truthF]
  have e : askS1 c.tars (claimF c f n) = 0 := by unfold askS1; rw [if_neg (by rw [h]; simp), hc]; rfl
  rw [e]
  simp [payS, claimF]

theorem fieldB_iff {c : Cas} {f : Fld} (h : checkS c.tars = 0) (hd : 0 ≤ c.day ∧ c.day ≤ 120) : fieldB c f = true ↔ FldOK c.tars f := by
  unfold fieldB
  rw [payOk_iff h]
  simp only [Bool.and_eq_true, countsB_iff, claimF_iff, inR_iff]
  constructor
  · rintro ⟨⟨h1, h2, h3, h4⟩, h5, h6, h7, h8⟩
    exact ⟨h1, h2, h5, h6, h7, h8⟩
  · rintro ⟨h1, h2, h3, h4, h5, h6⟩
    exact ⟨⟨h1, h2, hd, by simp⟩, h3, h4, h5, h6⟩

theorem caseE_tars {c : Cas} (h : caseE c = 0) : checkS c.tars = 0 := by
  unfold caseE at h
  split at h
  · rename_i h0; exact absurd h h0
  · rename_i h0; omega
theorem caseE_zero {c : Cas} (h : caseE c = 0) : CasOK c := by
  have h0 := caseE_tars h
  unfold caseE at h
  rw [if_neg (by rw [h0]; simp)] at h
  split at h
  · omega
  · rename_i h3
    split at h
    · rename_i hb
      simp only [Bool.and_eq_true, inR_iff] at hb
      refine ⟨validL_of h0, by omega, hb.1, hb.2.1, fun f hf => ?_⟩
      obtain ⟨i, hi, rfl⟩ := List.getElem_of_mem hf
      have := allB_iff.1 hb.2.2 i hi
      rw [fieldB_iff h0 hb.1] at this
      simpa [hi] using this
    · omega
/-- A truth of one field. -/
structure ThrOK (f : Fld) (x : Thr) : Prop where
  a : f.alo ≤ x.a ∧ x.a ≤ f.ahi
  b : f.blo ≤ x.b ∧ x.b ≤ f.bhi
  u : f.ulo ≤ x.u ∧ x.u ≤ f.uhi
def thrB (f : Fld) (x : Thr) : Bool := inR x.a f.alo f.ahi && (inR x.b f.blo f.bhi && inR x.u f.ulo f.uhi)
theorem thrB_iff {f : Fld} {x : Thr} : thrB f x = true ↔ ThrOK f x := by
  simp only [thrB, Bool.and_eq_true, inR_iff]
  exact ⟨fun ⟨h1, h2, h3⟩ => ⟨h1, h2, h3⟩, fun ⟨h1, h2, h3⟩ => ⟨h1, h2, h3⟩⟩
/-- Whether a list is a truth of a case. -/
def listedB (c : Cas) (t : List Thr) : Bool := decide (t.length = c.flds.length) && allB c.flds.length (fun i => thrB (c.flds.getD i default) (t.getD i default))

theorem mem_truths {f : Fld} {x : Thr} : x ∈ truthsS f ↔ ThrOK f x := by
  unfold truthsS
  simp only [List.mem_map, List.mem_range]
  constructor
  · rintro ⟨n, hn, rfl⟩
    have h0 : 0 < szR f.ulo f.uhi := by
      rcases Nat.eq_zero_or_pos (szR f.ulo f.uhi) with h | h
      · rw [truthsN, h, Nat.mul_zero] at hn; exact absurd hn (Nat.not_lt_zero _)
      · exact h
    have h1 : 0 < szR f.blo f.bhi := by
      rcases Nat.eq_zero_or_pos (szR f.blo f.bhi) with h | h
      · rw [truthsN, h, Nat.mul_zero, Nat.zero_mul] at hn; exact absurd hn (Nat.not_lt_zero _)
      · exact h
    have d1 : n / szR f.ulo f.uhi < szR f.alo f.ahi * szR f.blo f.bhi := Nat.div_lt_of_lt_mul (by rw [Nat.mul_comm]; exact hn)
    have d2 : n / szR f.ulo f.uhi / szR f.blo f.bhi < szR f.alo f.ahi := Nat.div_lt_of_lt_mul (by rw [Nat.mul_comm]; exact d1)
    have d3 : n / szR f.ulo f.uhi % szR f.blo f.bhi < szR f.blo f.bhi := Nat.mod_lt _ h1
    have d4 : n % szR f.ulo f.uhi < szR f.ulo f.uhi := Nat.mod_lt _ h0
    refine ⟨?_, ?_, ?_⟩ <;> simp only [truthAt]
    · generalize n / szR f.ulo f.uhi / szR f.blo f.bhi = y at *
      unfold szR at d2; omega
    · generalize n / szR f.ulo f.uhi % szR f.blo f.bhi = y at *
      unfold szR at d3; omega
    · generalize n % szR f.ulo f.uhi = y at *
      unfold szR at d4; omega
  · rintro ⟨ha, hb, hu⟩
    have ha' : (x.a - f.alo).toNat < szR f.alo f.ahi := by unfold szR; omega
    have hb' : (x.b - f.blo).toNat < szR f.blo f.bhi := by unfold szR; omega
    have hu' : (x.u - f.ulo).toNat < szR f.ulo f.uhi := by unfold szR; omega
    refine ⟨_, truthAt_lt f _ _ _ ha' hb' hu', ?_⟩
    rw [truthAt_at f _ _ _ hb' hu']
    obtain ⟨a, b, u⟩ := x
    simp only [Thr.mk.injEq]
    simp only at ha hb hu
    omega

theorem settled_bd {f : Fld} {x : Thr} (ha : 0 ≤ x.a ∧ x.a ≤ 100) (hb : 0 ≤ x.b ∧ x.b ≤ 100) : 0 ≤ settledS f x ∧ settledS f x ≤ 100 := by
  unfold settledS
  split <;> omega
/-- The payment on a field, and who loses it. -/
structure Out where
  pay : Int
  loser : Nat
def outS (c : Cas) (f : Fld) (x : Thr) : Out := ⟨payC c f (settledS f x), loserS f x⟩
/-- The award so far, with how many fields each of nobody (calm), nobody, the farmer and the society lost. -/
structure Sm where
  award : Int
  e0 : Int
  e1 : Int
  e2 : Int
  e3 : Int
def Sm.zero : Sm := ⟨0, 0, 0, 0, 0⟩
def Sm.plus (s : Sm) (o : Out) : Sm :=
  ⟨s.award + o.pay, if o.loser = 0 then s.e0 + 1 else s.e0, if o.loser = 1 then s.e1 + 1 else s.e1, if o.loser = 2 then s.e2 + 1 else s.e2, if o.loser = 3 then s.e3 + 1 else s.e3⟩
def calledS (s : Sm) : Bool := decide (0 < s.e1 + s.e2 + s.e3)
/-- What the farmer and the society pay of a fee. -/
def feeA (fee : Int) (s : Sm) : Int := if calledS s then (if s.e3 < s.e2 then fee else if s.e2 < s.e3 then 0 else fee - fee / 2) else 0
def feeB (fee : Int) (s : Sm) : Int := if calledS s then (if s.e3 < s.e2 then 0 else if s.e2 < s.e3 then fee else fee / 2) else 0
/-- The questions: the award, what the farmer and the society pay, the farmer's net, the society's cost. -/
def askQ (k : Nat) (fee : Int) (s : Sm) : Int := match k with
  | 0 => s.award
  | 1 => feeA fee s
  | 2 => feeB fee s
  | 3 => s.award - feeA fee s
  | _ => s.award + feeB fee s
/-- The sum of a truth. -/
def sumT (c : Cas) (fs : List Fld) (t : List Thr) : Sm := (fs.zip t).foldl (fun s p => s.plus (outS c p.1 p.2)) Sm.zero
/-- All sums that can come of some fields more. -/
def sumsFrom (c : Cas) : List Fld → Sm → List Sm
  | [], s => [s]
  | f :: fs, s => (truthsS f).flatMap fun x => sumsFrom c fs (s.plus (outS c f x))
def sumsS (c : Cas) : List Sm := sumsFrom c c.flds Sm.zero
/-- The bounds of a list's numbers. -/
def lowS (l : List Int) : Int := l.tail.foldl min (l.headD 0)
def highS (l : List Int) : Int := l.tail.foldl max (l.headD 0)
theorem foldl_min (l : List Int) (a : Int) : (l.foldl min a = a ∨ l.foldl min a ∈ l) ∧ l.foldl min a ≤ a ∧ ∀ x ∈ l, l.foldl min a ≤ x := by
  induction l generalizing a with
  | nil => simp
  | cons y l ih =>
    obtain ⟨h1, h2, h3⟩ := ih (min a y)
    simp only [List.foldl_cons, List.mem_cons]
    refine ⟨?_, by omega, ?_⟩
    · rcases h1 with h | h
      · by_cases e : a ≤ y
        · left; omega
        · right; left; omega
      · right; right; exact h
    · rintro x (rfl | hx)
      · omega
      · exact h3 x hx
theorem foldl_max (l : List Int) (a : Int) : (l.foldl max a = a ∨ l.foldl max a ∈ l) ∧ a ≤ l.foldl max a ∧ ∀ x ∈ l, x ≤ l.foldl max a := by
  induction l generalizing a with
  | nil => simp
  | cons y l ih =>
    obtain ⟨h1, h2, h3⟩ := ih (max a y)
    simp only [List.foldl_cons, List.mem_cons]
    refine ⟨?_, by omega, ?_⟩
    · rcases h1 with h | h
      · by_cases e : y ≤ a
        · left; omega
        · right; left; omega
      · right; right; exact h
    · rintro x (rfl | hx)
      · omega
      · exact h3 x hx
/-- Two numbers are the ends of what can be. -/
structure EndsOf (S : Int → Prop) (lo hi : Int) : Prop where
  mn : S lo
  mx : S hi
  all : ∀ x, S x → lo ≤ x ∧ x ≤ hi
theorem EndsOf.unique {S : Int → Prop} {a b c d : Int} (h : EndsOf S a b) (k : EndsOf S c d) : a = c ∧ b = d := by
  have h1 := h.all c k.mn
  have h2 := h.all d k.mx
  have h3 := k.all a h.mn
  have h4 := k.all b h.mx
  omega
theorem EndsOf.congr {S T : Int → Prop} {a b : Int} (h : EndsOf S a b) (e : ∀ x, S x ↔ T x) : EndsOf T a b :=
  ⟨(e _).1 h.mn, (e _).1 h.mx, fun x hx => h.all x ((e x).2 hx)⟩
theorem ends_of (l : List Int) (h : l ≠ []) : EndsOf (· ∈ l) (lowS l) (highS l) := by
  cases l with
  | nil => exact absurd rfl h
  | cons a l =>
    obtain ⟨h1, h2, h3⟩ := foldl_min l a
    obtain ⟨k1, k2, k3⟩ := foldl_max l a
    refine ⟨?_, ?_, ?_⟩
    · simp only [lowS, List.tail_cons, List.headD_cons, List.mem_cons]; exact h1
    · simp only [highS, List.tail_cons, List.headD_cons, List.mem_cons]; exact k1
    · intro x hx
      show l.foldl min a ≤ x ∧ x ≤ l.foldl max a
      rcases List.mem_cons.1 hx with rfl | hx
      · exact ⟨h2, k2⟩
      · exact ⟨h3 x hx, k3 x hx⟩
/-- The bounds of a question over all truths. -/
def bLo (c : Cas) (k : Nat) : Int := lowS ((sumsS c).map (askQ k c.fee))
def bHi (c : Cas) (k : Nat) : Int := highS ((sumsS c).map (askQ k c.fee))
theorem truths_ne {l : List Tar} {f : Fld} (h : FldOK l f) : truthsS f ≠ [] := by
  have : (⟨f.alo, f.blo, f.ulo⟩ : Thr) ∈ truthsS f := mem_truths.2 ⟨⟨Int.le_refl _, h.a.2.1⟩, ⟨Int.le_refl _, h.b.2.1⟩, ⟨Int.le_refl _, h.u.2.1⟩⟩
  intro e; rw [e] at this; cases this
theorem sumsFrom_ne {l : List Tar} {c : Cas} : ∀ (fs : List Fld) (s : Sm), (∀ f ∈ fs, FldOK l f) → sumsFrom c fs s ≠ []
  | [], s, _ => by simp [sumsFrom]
  | f :: fs, s, h => by
    have h1 := truths_ne (h f (by simp))
    obtain ⟨x, xs, e⟩ := List.exists_cons_of_ne_nil h1
    intro e2
    rw [sumsFrom, e, List.flatMap_cons] at e2
    exact sumsFrom_ne fs _ (fun g hg => h g (by simp [hg])) (List.append_eq_nil_iff.1 e2).1
theorem bounds_ends {c : Cas} (h : CasOK c) (k : Nat) : EndsOf (fun x => ∃ s ∈ sumsS c, askQ k c.fee s = x) (bLo c k) (bHi c k) :=
  (ends_of ((sumsS c).map (askQ k c.fee)) (by
    have := sumsFrom_ne c.flds Sm.zero h.flds (c := c)
    unfold sumsS
    simp [this])).congr (fun x => by simp)
/-- Whether the umpire matters for a field. -/
def matterB (c : Cas) (f : Fld) : Bool := (truthsS f).any fun x => (everyS f.ulo f.uhi).any fun u => payC c f (settledS f ⟨x.a, x.b, u⟩) != payC c f (settledS f x)
def mattersS (c : Cas) : List Int := ((List.range c.flds.length).filter (fun i => matterB c (c.flds.getD i default))).map (fun i : Nat => (i : Int))
/-- All settled counts of a field, and whether the umpire is called for it. -/
def isCount (f : Fld) (n : Nat) : Bool := (truthsS f).any fun x => settledS f x == (n : Int)
def countsS (f : Fld) : List Int := ((List.range 101).filter (isCount f)).map (fun i : Nat => (i : Int))
def calledV (f : Fld) : Int :=
  if (truthsS f).any (fun x => !calledB f x) then (if (truthsS f).any (calledB f) then 3 else 2) else (if (truthsS f).any (calledB f) then 1 else 2)
end Go.Hs
