/- Merged: what the texts say one after another. -/
import Derived.Test.YtfjecbfcnngacaaAF
import Derived.Test.YtfjecbfcnngacaaBJ
import Derived.Test.YtfjecbfcnngacaaEG
import Derived.ChangeKeysEq
import Derived.Laws.StructEq
import Derived.RegionTactic
import Derived.BigRegion
import Derived.Deep.CutRange
import Derived.Deep.DeepCutAuto
import Derived.Deep.AppendLies
import Derived.Test.YtfjecbfcnngacaaAC
import Derived.WalkMore
import Derived.Laws.Entries
/- Contracts: the flags of a list, whether the other rates rise, a list cloned, the minimum of two numbers. -/
namespace Go.Hs
open Go.RowKit
def ints (xs : List Nat) : List Int := xs.map (fun n : Nat => (n : Int))
def mk (xs : List Nat) (j : Nat) : Bool := xs.contains j
def flV (f : Nat → Bool) : Value := .agg #[.bool (f 0), .bool (f 1), .bool (f 2), .bool (f 3), .bool (f 4)]
/-- The last rate that counts, if they rise up to here. -/
def lastK (r : List Int) (f : Nat → Bool) : Nat → Option Int
  | 0 => some 0
  | k + 1 => match lastK r f k with
    | none => none
    | some a => if f k then some a else if r.getD k 0 < a then none else some (r.getD k 0)
def keptB (r : List Int) (f : Nat → Bool) : Bool := (lastK r f r.length).isSome
theorem lastK_skip {r : List Int} {f : Nat → Bool} {k : Nat} {a : Int} (h : lastK r f k = some a) (hf : f k = true) : lastK r f (k + 1) = some a := by
  simp [lastK, h, hf]
theorem lastK_low {r : List Int} {f : Nat → Bool} {k : Nat} {a : Int} (h : lastK r f k = some a) (hf : f k = false) (hr : r.getD k 0 < a) : lastK r f (k + 1) = none := by
  unfold lastK
  rw [h]
  simp only [hf, Bool.false_eq_true, if_false, if_pos hr]
theorem lastK_next {r : List Int} {f : Nat → Bool} {k : Nat} {a : Int} (h : lastK r f k = some a) (hf : f k = false) (hr : a ≤ r.getD k 0) : lastK r f (k + 1) = some (r.getD k 0) := by
  have e : ¬ r.getD k 0 < a := by omega
  unfold lastK
  rw [h]
  simp only [hf, Bool.false_eq_true, if_false, if_neg e]
theorem lastK_none {r : List Int} {f : Nat → Bool} {k n : Nat} (h : lastK r f k = none) (hk : k ≤ n) : lastK r f n = none := by
  induction n with
  | zero => have : k = 0 := by omega
            subst this; exact h
  | succ n ih =>
    by_cases e : k = n + 1
    · subst e; exact h
    · have := ih (by omega)
      simp [lastK, this]
theorem mk_take {xs : List Nat} {k : Nat} (h : k < xs.length) (j : Nat) : mk (xs.take (k + 1)) j = (mk (xs.take k) j || (xs[k] == j)) := by
  unfold mk
  rw [List.take_succ_eq_append_getElem h]
  simp only [List.contains_eq_any_beq, List.any_append, List.any_cons, List.any_nil, Bool.or_false]
  congr 1
  rw [Bool.eq_iff_iff]; simp only [beq_iff_eq]; exact eq_comm
/-- Five cells that hold flags. -/
def FlagsAt (w : World) (b : Nat) (f : Nat → Bool) : Prop := ∀ j, j < 5 → w.cell? ⟨b, j, none⟩ = some (.bool (f j))
theorem FlagsAt.ext {w w' : World} {b : Nat} {f : Nat → Bool} (h : FlagsAt w b f) (hx : Ext w w') : FlagsAt w' b f := fun j hj => hx.keep (h j hj)
theorem FlagsAt.set {w : World} {b k : Nat} {f g : Nat → Bool} {u : Bool} (h : FlagsAt w b f) (hg : ∀ j, j < 5 → g j = if j = k then u else f j) : FlagsAt (w.setCell ⟨b, k, none⟩ (.bool u)) b g := fun j hj => by
  rw [hg j hj]
  by_cases e : j = k
  · subst e
    rw [if_pos rfl]; exact World.cell?_setCell_same _ _ _ (h j hj)
  · rw [if_neg e, World.cell?_setCell_other (h := by intro h'; cases h'; exact e rfl)]; exact h j hj
end Go.Hs
namespace Go.Proofs.Ytfjecbfcnngacaa
open Go.RowKit Go.Hs
attribute [local irreducible] World.setCell World.alloc

set_option maxRecDepth 100000 in
set_option maxHeartbeats 2000000 in
theorem marked_any (v : Value) (xs : List Nat) (w : World) (hv : IntsV w v (ints xs)) (h5 : ∀ x, x ∈ xs → x < 5) :
    Calls Try.prog 76 #[v] w fun e w' => e = .returned (flV (mk xs)) ∧ Ext w w' := by
  obtain ⟨a, c, rfl, h1, h2, hr⟩ := hv
  have hlen : (ints xs).length = xs.length := by simp [ints]
  rw [hlen] at h1 h2 ⊢
  have HR : Hid (∀ i (hi : i < xs.length), ∃ b off, a = some ⟨b, off, none⟩ ∧ w.cell? ⟨b, off + i, none⟩ = some (.int .i64 (xs[i] : Int))) := Lib.hid (fun i hi => by
    obtain ⟨b, off, e, hc⟩ := hr i (by rw [hlen]; exact hi)
    exact ⟨b, off, e, by have := hc.1; simpa [ints] using this⟩)
  clear hr hlen
  go_enter Try.func76, Try.ntmps76
  go_wp2_with fail
  go_loopw [4, 7] (fun _ s7 wr => ∃ k : Nat, k ≤ xs.length ∧ s7 = .int .i64 k ∧ Hid (FlagsAt wr w.heap.size (mk (xs.take k)) ∧ ∀ o, wr.frozen? ⟨w.heap.size, o, none⟩ = false) ∧ Ext w wr) (fun _ s _ => xs.length - (intOf s).toNat)
  case atStart => exact ⟨0, Nat.zero_le _, rfl, ⟨fun j hj => by rcases j with _ | _ | _ | _ | _ | j <;> first | (simp [mk]; done) | omega, fun o => by simp⟩, (Ext.refl _).alloc _⟩
  case round =>
    obtain ⟨k, hk, rfl, HF, hx⟩ := hrel
    obtain ⟨wo, rfl⟩ : ∃ x, x = wr := ⟨_, rfl⟩
    by_cases hlt : k < xs.length
    · obtain ⟨b, off, rfl, q⟩ := HR.out k hlt
      replace q := hx.keep q
      have hx5 := h5 _ (List.getElem_mem hlt)
      have hq := HF.out.1 xs[k] hx5
      have fz := HF.out.2 xs[k]
      have HN : Hid (FlagsAt (wo.setCell ⟨w.heap.size, xs[k], none⟩ (.bool true)) w.heap.size (mk (xs.take (k + 1))) ∧ ∀ o, (wo.setCell ⟨w.heap.size, xs[k], none⟩ (.bool true)).frozen? ⟨w.heap.size, o, none⟩ = false) := ⟨HF.out.1.set (fun j _ => by
        rw [mk_take hlt]
        by_cases e : j = xs[k]
        · rw [if_pos e]; simp [e]
        · rw [if_neg e]
          have : (xs[k] == j) = false := by rw [beq_eq_false_iff_ne]; exact fun h => e h.symm
          rw [this, Bool.or_false]), fun o => by rw [World.frozen?_setCell]; exact HF.out.2 o⟩
      generalize xs[k] = x at *
      have hx0 : (0 : Int) ≤ (x : Int) := by omega
      have hx1 : (x : Int) < 5 := by omega
      go_wp2_with fail
      go_roundw
      case rel => exact ⟨k + 1, by omega, by go_num, HN, hx.setCell (Nat.le_refl _) _⟩
      case measure => simp [intOf]; omega
    · have ek : k = xs.length := by omega
      subst ek
      have hf := HF.out.1
      rw [List.take_length] at hf
      have q0 := hf 0 (by decide)
      have q1 := hf 1 (by decide)
      have q2 := hf 2 (by decide)
      have q3 := hf 3 (by decide)
      have q4 := hf 4 (by decide)
      have f0 := HF.out.2 0
      have f1 := HF.out.2 1
      have f2 := HF.out.2 2
      have f3 := HF.out.2 3
      have f4 := HF.out.2 4
      go_wp2_with fail
      have X : Ext w (((((wo.setCell ⟨w.heap.size, 0, none⟩ (.bool (mk xs 0))).setCell ⟨w.heap.size, 1, none⟩ (.bool (mk xs 1))).setCell ⟨w.heap.size, 2, none⟩ (.bool (mk xs 2))).setCell ⟨w.heap.size, 3, none⟩ (.bool (mk xs 3))).setCell ⟨w.heap.size, 4, none⟩ (.bool (mk xs 4))) :=
        ((((hx.setCell (Nat.le_refl _) _).setCell (Nat.le_refl _) _).setCell (Nat.le_refl _) _).setCell (Nat.le_refl _) _).setCell (Nat.le_refl _) _
      have p0 : (((((wo.setCell ⟨w.heap.size, 0, none⟩ (.bool (mk xs 0))).setCell ⟨w.heap.size, 1, none⟩ (.bool (mk xs 1))).setCell ⟨w.heap.size, 2, none⟩ (.bool (mk xs 2))).setCell ⟨w.heap.size, 3, none⟩ (.bool (mk xs 3))).setCell ⟨w.heap.size, 4, none⟩ (.bool (mk xs 4))).cell? ⟨w.heap.size, 0, none⟩ = some (.bool (mk xs 0)) := set_off (by decide) (set_off (by decide) (set_off (by decide) (set_off (by decide) (set_same q0))))
      have p1 : (((((wo.setCell ⟨w.heap.size, 0, none⟩ (.bool (mk xs 0))).setCell ⟨w.heap.size, 1, none⟩ (.bool (mk xs 1))).setCell ⟨w.heap.size, 2, none⟩ (.bool (mk xs 2))).setCell ⟨w.heap.size, 3, none⟩ (.bool (mk xs 3))).setCell ⟨w.heap.size, 4, none⟩ (.bool (mk xs 4))).cell? ⟨w.heap.size, 1, none⟩ = some (.bool (mk xs 1)) := set_off (by decide) (set_off (by decide) (set_off (by decide) (set_same (set_off (by decide) q1))))
      have p2 : (((((wo.setCell ⟨w.heap.size, 0, none⟩ (.bool (mk xs 0))).setCell ⟨w.heap.size, 1, none⟩ (.bool (mk xs 1))).setCell ⟨w.heap.size, 2, none⟩ (.bool (mk xs 2))).setCell ⟨w.heap.size, 3, none⟩ (.bool (mk xs 3))).setCell ⟨w.heap.size, 4, none⟩ (.bool (mk xs 4))).cell? ⟨w.heap.size, 2, none⟩ = some (.bool (mk xs 2)) := set_off (by decide) (set_off (by decide) (set_same (set_off (by decide) (set_off (by decide) q2))))
      have p3 : (((((wo.setCell ⟨w.heap.size, 0, none⟩ (.bool (mk xs 0))).setCell ⟨w.heap.size, 1, none⟩ (.bool (mk xs 1))).setCell ⟨w.heap.size, 2, none⟩ (.bool (mk xs 2))).setCell ⟨w.heap.size, 3, none⟩ (.bool (mk xs 3))).setCell ⟨w.heap.size, 4, none⟩ (.bool (mk xs 4))).cell? ⟨w.heap.size, 3, none⟩ = some (.bool (mk xs 3)) := set_off (by decide) (set_same (set_off (by decide) (set_off (by decide) (set_off (by decide) q3))))
      have p4 : (((((wo.setCell ⟨w.heap.size, 0, none⟩ (.bool (mk xs 0))).setCell ⟨w.heap.size, 1, none⟩ (.bool (mk xs 1))).setCell ⟨w.heap.size, 2, none⟩ (.bool (mk xs 2))).setCell ⟨w.heap.size, 3, none⟩ (.bool (mk xs 3))).setCell ⟨w.heap.size, 4, none⟩ (.bool (mk xs 4))).cell? ⟨w.heap.size, 4, none⟩ = some (.bool (mk xs 4)) := set_same (set_off (by decide) (set_off (by decide) (set_off (by decide) (set_off (by decide) q4))))
      exact bodyPost_ret (v := flV (mk xs)) (by simp [results, Try.results76, go_sem, flV, p0, p1, p2, p3, p4]) rfl ⟨rfl, X⟩

set_option maxRecDepth 100000 in
set_option maxHeartbeats 2000000 in
theorem kept_any (v : Value) (r : List Int) (f : Nat → Bool) (w : World) (hv : IntsV w v r) (h5 : r.length ≤ 5) :
    Calls Try.prog 77 #[v, flV f] w fun e w' => e = .returned (.bool (keptB r f)) ∧ Ext w w' := by
  obtain ⟨a, c, rfl, h1, h2, hr⟩ := hv
  have HR : Hid (∀ i, i < r.length → ∃ b off, a = some ⟨b, off, none⟩ ∧ w.cell? ⟨b, off + i, none⟩ = some (.int .i64 (r.getD i 0))) := Lib.hid (fun i hi => by
    obtain ⟨b, off, e, hc⟩ := hr i hi
    exact ⟨b, off, e, by have := hc.1; simpa [hi] using this⟩)
  have HK : Hid (∀ k, k ≤ r.length → lastK r f k = none → keptB r f = false) := Lib.hid (fun k hk h => by unfold keptB; rw [lastK_none h hk]; rfl)
  have HE : Hid (∀ x, lastK r f r.length = some x → keptB r f = true) := Lib.hid (fun x h => by unfold keptB; rw [h]; rfl)
  clear hr
  generalize keptB r f = res at *
  unfold flV
  have hq : FlagsAt (w.alloc (.cells #[.bool (f 0), .bool (f 1), .bool (f 2), .bool (f 3), .bool (f 4)] 117)) w.heap.size f := fun j hj => by rcases j with _ | _ | _ | _ | _ | j <;> first | (simp; done) | omega
  have HQ := Lib.hid hq
  clear hq
  go_enter Try.func77, Try.ntmps77
  go_wp2_with fail
  obtain ⟨W, hW⟩ : ∃ x, x = (w.alloc (.cells #[.bool (f 0), .bool (f 1), .bool (f 2), .bool (f 3), .bool (f 4)] 117)) := ⟨_, rfl⟩
  have X : Ext w W := by rw [hW]; exact (Ext.refl _).alloc _
  rw [← hW] at HQ ⊢
  clear hW
  go_loopw [5, 6, 7, 10] (fun s5 _ _ s10 wr => ∃ (k : Nat) (m : Int), k ≤ r.length ∧ s10 = .int .i64 k ∧ s5 = .int .i64 m ∧ Hid (lastK r f k = some m) ∧ wr = W) (fun _ _ _ s _ => r.length - (intOf s).toNat)
  case atStart => exact ⟨0, 0, Nat.zero_le _, rfl, rfl, Lib.hid rfl, rfl⟩
  case round =>
    obtain ⟨k, m, hk, rfl, rfl, HL, hww⟩ := hrel
    subst hww
    obtain ⟨wo, rfl⟩ : ∃ x, x = wr := ⟨_, rfl⟩
    by_cases hlt : k < r.length
    · obtain ⟨b, off, rfl, q⟩ := HR.out k hlt
      replace q := X.keep q
      have hq := HQ.out k (by omega)
      have hk0 : (0 : Int) ≤ (k : Int) := by omega
      have hk5 : (k : Int) < 5 := by omega
      cases hfk : f k with
      | true =>
        rw [hfk] at hq
        have HN := Lib.hid (lastK_skip HL.out hfk)
        clear hfk
        go_wp2_with fail
        go_roundw
        case rel => exact ⟨k + 1, m, by omega, by go_num, rfl, HN, trivial⟩
        case measure => simp [intOf]; omega
      | false =>
        rw [hfk] at hq
        by_cases hlow : r.getD k 0 < m
        · have e := HK.out (k + 1) (by omega) (lastK_low HL.out hfk hlow)
          have hd : decide (r.getD k 0 < m) = true := decide_eq_true hlow
          clear hfk HL HK HE
          generalize r.getD k 0 = y at *
          subst e
          go_wp2_with fail
          go_ret
          exact ⟨rfl, X⟩
        · have HN := Lib.hid (lastK_next HL.out hfk (by omega))
          have hd : decide (r.getD k 0 < m) = false := decide_eq_false hlow
          clear hfk HL
          generalize r.getD k 0 = y at *
          go_wp2_with fail
          go_roundw
          case rel => exact ⟨k + 1, y, by omega, by go_num, rfl, HN, trivial⟩
          case measure => simp [intOf]; omega
    · have ek : k = r.length := by omega
      subst ek
      have e := HE.out _ HL.out
      clear HE HK HL
      subst e
      go_wp2_with fail
      go_ret
      exact ⟨rfl, X⟩

set_option maxRecDepth 100000 in
theorem clone_any (v : Value) (xs : List Int) (w : World) (hv : IntsV w v xs) (hl : xs.length ≤ 7) :
    Calls Try.prog 78 #[v] w fun e w' => ∃ v', e = .returned v' ∧ w'.ownsRow w.heap.size 3 1 v' xs.length (xs.map (.int .i64)) ∧ Ext w w' := by
  obtain ⟨a, c, rfl, h1, h2, hr⟩ := hv
  obtain ⟨i0, hi, hz0, hz1, hz2⟩ := info_parts info_int
  by_cases h0 : xs = []
  · subst h0
    cases a with
    | none =>
      have hnl : ∀ w, (binOp .eql 59 (.slice none 0 c) (.slice none 0 0)).run Try.prog w = .ok (.bool true) w := fun w => Lib.run_eql_slice_nil w _ _ none 0 c 0 0 Try.underlying59
      go_enter Try.func78, Try.ntmps78
      go_wp2_with fail
      go_ret
      exact ⟨_, rfl, World.ownsRow_nil _ _ _ _, by (repeat (first | exact Ext.refl _ | (with_reducible assumption) | (with_reducible refine Ext.drew ?_) | (with_reducible refine Ext.alloc ?_ _) | (with_reducible refine Ext.drewN ?_ _) | (with_reducible refine Ext.setCell ?_ (by omega) _) | (with_reducible refine Ext.trans ?_ (by with_reducible assumption))))⟩
    | some p =>
      have hnl : ∀ w, (binOp .eql 59 (.slice (some p) 0 c) (.slice none 0 0)).run Try.prog w = .ok (.bool false) w := fun w => Lib.run_eql_slice_nil w _ _ (some p) 0 c 0 0 Try.underlying59
      go_enter Try.func78, Try.ntmps78
      go_wp2_with (at_builtin; refine wpList_append_none rfl _ _ 59 rfl 3 i0 Try.underlying59 hi _ _ _ _ _ (Nat.le_refl _) rfl rfl ?_)
      go_ret
      exact ⟨_, rfl, ⟨rfl, .inr ⟨_, _, _, rfl, Nat.le_refl _, heap_alloc_new _ _, Nat.le_refl _, by simp, rfl, rfl⟩⟩, by (repeat (first | exact Ext.refl _ | (with_reducible assumption) | (with_reducible refine Ext.drew ?_) | (with_reducible refine Ext.alloc ?_ _) | (with_reducible refine Ext.drewN ?_ _) | (with_reducible refine Ext.setCell ?_ (by omega) _) | (with_reducible refine Ext.trans ?_ (by with_reducible assumption))))⟩
  · have hpos : 0 < xs.length := List.length_pos_iff.2 h0
    obtain ⟨b, off, rfl, hc⟩ := hr 0 hpos
    have HR := Lib.hid hr
    have H0 := Lib.hid h0
    clear hr h0 hc
    have hnl : ∀ w, (binOp .eql 59 (.slice (some ⟨b, off, none⟩) xs.length c) (.slice none 0 0)).run Try.prog w = .ok (.bool false) w := fun w => Lib.run_eql_slice_nil w _ _ (some ⟨b, off, none⟩) xs.length c 0 0 Try.underlying59
    go_enter Try.func78, Try.ntmps78
    go_wp2_with (at_builtin; refine wpList_append_own_at _ rfl _ _ 59 rfl w.heap.size 3 i0 (.int .i64 0) 1 8 Try.underlying59 hi hz0 hz1 hz2 rfl (by decide) (.slice (some ⟨w.heap.size, 0, none⟩) 0 0) 0 [] rfl ?own ⟨b, off, none⟩ xs.length c (xs.map (.int .i64)) rfl ?len ?cells ?one ?fit1 ?fit2 ?fit3 ?next)
    case own => exact ⟨rfl, .inr ⟨_, _, _, rfl, Nat.le_refl _, heap_alloc_new _ _, Nat.le_refl _, by simp, rfl, rfl⟩⟩
    case len => simp
    case cells =>
      intro j u hj
      have hj' : j < xs.length := by
        rcases Nat.lt_or_ge j xs.length with h | h
        · exact h
        · rw [List.getElem?_eq_none (by simpa using h)] at hj; cases hj
      have := (Rows.at HR.out j hj').1
      rw [add_none']
      simp [hj'] at hj
      rw [← hj]
      exact ((Ext.refl w).alloc _).keep (by simpa using this)
    case one =>
      intro u hu
      obtain ⟨x, -, rfl⟩ := List.mem_map.1 hu
      rfl
    case fit1 => simp only [maxLen]; omega
    case fit2 => omega
    case fit3 => simp
    case next =>
      intro v' w' hown hgrow hnil hat
      have hx : Ext w w' := grown_ext ((Ext.refl w).alloc _) hgrow (fun g hg => by simp [Value.ownBlock] at hg; omega)
      have OWN : Hid (w'.ownsRow w.heap.size 3 1 v' xs.length (xs.map (.int .i64))) := Lib.hid (by simpa using hown)
      rcases own_open hown with ⟨-, h0⟩ | ⟨g, cap, rfl, hB, hlt, hcap, hcells⟩
      · omega
      · clear hnil hat hown hgrow
        go_wp2_with fail
        go_ret
        exact ⟨_, rfl, OWN.out, hx⟩

set_option maxRecDepth 100000 in
theorem min2_any (n : Nat) (b : Nat) (w : World) (h0 : w.cell? ⟨b, 0, none⟩ = some (.int .i64 n)) (h1 : w.cell? ⟨b, 1, none⟩ = some (.int .i64 5)) (hn : n ≤ 5) (c : Nat) (_ : 2 ≤ c) :
    Calls Try.prog 79 #[.slice (some ⟨b, 0, none⟩) 2 c] w fun e w' => e = .returned (.int .i64 n) ∧ Ext w w' := by
  have hm : ∀ w, (Builtin.min_ #[3, 3] 3 #[.int .i64 (n : Int), .int .i64 5]).run Try.prog w = .ok (.int .i64 (n : Int)) w := fun w => by
    have h : (n : Int) = if (5 : Int) < (n : Int) then (5 : Int) else (n : Int) := by rw [if_neg (by omega)]
    conv => rhs; rw [h]
    rfl
  have hs : Calls Try.prog 93 #[.slice (some ⟨b, 0, none⟩) 2 c] w fun e w' => e = .returned (.int .i64 n) ∧ Ext w w' := by
    go_enter Try.func93, Try.ntmps93
    go_wp2_with fail
    go_loopw [3, 4] (fun s3 s4 wr => (s4 = .int .i64 1 ∨ s4 = .int .i64 2) ∧ s3 = .int .i64 n ∧ wr = w) (fun _ s _ => 2 - (intOf s).toNat)
    case atStart => exact ⟨.inl rfl, rfl, rfl⟩
    case round =>
      obtain ⟨h4, rfl, hww⟩ := hrel
      subst hww
      rcases h4 with rfl | rfl
      · go_wp2_with fail
        go_roundw
        case rel => exact ⟨.inr rfl, rfl, trivial⟩
        case measure => simp [intOf]
      · go_wp2_with fail
        go_ret
        exact ⟨rfl, Ext.refl _⟩
  have HS := Lib.hid hs
  clear hs h0 h1 hm
  go_enter Try.func79, Try.ntmps79
  go_wp2_with fail
  (refine HS.out.mono ?_)
  rintro e w1 ⟨rfl, hx⟩
  go_wp2_with fail
  go_ret
  exact ⟨rfl, hx⟩
end Go.Proofs.Ytfjecbfcnngacaa

/- Contracts: the sets of so many rates more, tried one after the other. -/
namespace Go.Hs
open Go.RowKit Go.Proofs.Ytfjecbfcnngacaa
/-- The first one of so many numbers that has an answer. -/
def scan {α : Type} (f : Nat → Option α) : Nat → Nat → Option α
  | 0, _ => none
  | n + 1, i => match f i with
    | some x => some x
    | none => scan f n (i + 1)
/-- The first set with so many rates more, from one on, without which the others rise. -/
def tryS (r : List Int) : Nat → List Nat → Nat → Option (List Nat)
  | 0, out, _ => if keptB r (mk out) then some out else none
  | m + 1, out, start => scan (fun i => tryS r m (out ++ [i]) (i + 1)) (r.length - m - start) start
theorem lastK_congr {r : List Int} {f g : Nat → Bool} (k : Nat) (h : ∀ j, j < k → f j = g j) : lastK r f k = lastK r g k := by
  induction k with
  | zero => rfl
  | succ k ih =>
    unfold lastK
    rw [ih (fun j hj => h j (by omega)), h k (by omega)]
theorem keptB_congr {r : List Int} {f g : Nat → Bool} (h : ∀ j, j < r.length → f j = g j) : keptB r f = keptB r g := by
  unfold keptB; rw [lastK_congr _ h]
def lowB (n : Nat) : Nat → Bool := fun k => decide (k < n)
theorem lowB_no {n k : Nat} : lowB n k = false ↔ n ≤ k := by simp [lowB]
theorem eg_low {lo hi n : Nat} {a b : World} (h : EG lo hi a b) (hn : hi ≤ n) : KC (mask (lowB n) a) (mask (lowB n) b) :=
  mask_kc (fun _ _ h => h) (fun k hk hp => h.block k hk (.inr (by rw [lowB_no] at hp; omega)))
theorem own_mono {w : World} {B B' e k n : Nat} {v : Value} {us : List Value} (h : w.ownsRow B e k v n us) (hb : B' ≤ B) : w.ownsRow B' e k v n us := by
  refine ⟨h.1, ?_⟩
  rcases h.2 with h0 | ⟨g, cap, cur, rfl, hB, rest⟩
  · exact .inl h0
  · exact .inr ⟨g, cap, cur, rfl, Nat.le_trans hb hB, rest⟩
theorem own_ints {w : World} {B e n N : Nat} {v : Value} {us : List Value} {xs : List Nat} (h : w.ownsRow B e 1 v n us) (hu : us = (ints xs).map (.int .i64)) (hn : n = xs.length) (hb : N ≤ B) (h5 : ∀ x, x ∈ xs → x < 5) (hl : xs.length ≤ 5) : IntsV (mask (lowB N) w) v (ints xs) := by
  subst hu hn
  have hlen : (ints xs).length = xs.length := by simp [ints]
  rcases own_open h with ⟨rfl, h0⟩ | ⟨g, cap, rfl, hB, hg, hn, hc⟩
  · have e : xs = [] := List.eq_nil_of_length_eq_zero h0
    subst e
    exact ⟨none, 0, rfl, Nat.le_refl _, by simp [ints], fun i h => absurd h (by simp [ints])⟩
  · refine ⟨some ⟨g, 0, none⟩, cap, by rw [hlen], by rw [hlen]; exact hn, by rw [hlen]; omega, fun i hi => ⟨g, 0, rfl, ?_, ?_⟩⟩
    · rw [mask_cell, lowB_no.2 (by omega)]
      have := hc i (.int .i64 (ints xs)[i]) (by simp [hi])
      simpa using this
    · have hi' : i < xs.length := by rw [← hlen]; exact hi
      have := h5 _ (List.getElem_mem hi')
      have e : (ints xs)[i] = (xs[i] : Int) := by simp [ints]
      rw [e]; omega
theorem one_in {W wa : World} {b : Nat} {x : Value} {t : TypeId} (h : Ext (W.alloc (.cells #[x] t)) wa) (hb : b = W.heap.size) : ∀ j y, ([x] : List Value)[j]? = some y → wa.cell? ((⟨b, 0, none⟩ : Addr).add j) = some y := by
  subst hb
  intro j y hj
  rcases j with _ | j
  · simp at hj
    subst hj
    rw [add_none']
    exact h.keep (by simp)
  · simp at hj
theorem EG.setIn {lo hi : Nat} {a b : World} {T i : Nat} (h : EG lo hi a b) (h1 : lo ≤ T) (h2 : T < hi) (x : Value) : EG lo hi a (b.setCell ⟨T, i, none⟩ x) :=
  have E : Below 0 b (b.setCell ⟨T, i, none⟩ x) := Below.setCell (Below.refl 0 b) (Nat.zero_le _) x
  ⟨E.os.trans h.os, E.tape.trans h.tape, E.output.trans h.output, Nat.le_trans h.size E.size, fun k hk hr => (Below.heap_setCell _ _ _ _ (show k ≠ T by omega)).trans (h.block k hk hr)⟩
end Go.Hs
namespace Go.Proofs.Ytfjecbfcnngacaa
open Go.RowKit Go.Hs
attribute [local irreducible] World.setCell World.alloc

def sameB (f g : Nat → Bool) : Bool := f 0 == g 0 && (f 1 == g 1 && (f 2 == g 2 && (f 3 == g 3 && f 4 == g 4)))
theorem sameB_iff {f g : Nat → Bool} (h : sameB f g = true) : ∀ j, j < 5 → f j = g j := by
  simp only [sameB, Bool.and_eq_true, beq_iff_eq] at h
  intro j hj
  rcases j with _ | _ | _ | _ | _ | j
  · exact h.1
  · exact h.2.1
  · exact h.2.2.1
  · exact h.2.2.2.1
  · exact h.2.2.2.2
  · omega
theorem eq_flags (f g : Nat → Bool) (w : World) : (binOp .eql 117 (.agg #[.bool (f 0), .bool (f 1), .bool (f 2), .bool (f 3), .bool (f 4)]) (.agg #[.bool (g 0), .bool (g 1), .bool (g 2), .bool (g 3), .bool (g 4)])).run Try.prog w = .ok (.bool (sameB f g)) w := by
  unfold sameB
  generalize f 0 = a0
  generalize f 1 = a1
  generalize f 2 = a2
  generalize f 3 = a3
  generalize f 4 = a4
  generalize g 0 = b0
  generalize g 1 = b1
  generalize g 2 = b2
  generalize g 3 = b3
  generalize g 4 = b4
  have u3 := Try.underlying4
  have a3' := Try.isAgg4
  have z3 := Try.sizeOf4
  rw [run_eql_struct]
  rw [show (10000 : Nat) = 9999 + 1 from rfl, Op.equalIn]
  simp only [Sem.run_bind, run_underlying Try.underlying117, Result.andThen_ok]
  simp only [Std.Legacy.Range.forIn_eq_forIn_range', Std.Legacy.Range.size, Nat.sub_zero, Nat.add_sub_cancel, Nat.div_one, List.range'_succ, List.range'_zero, List.forIn_cons, List.forIn_nil]
  go_simp
  by_cases h0 : a0 = b0 <;> by_cases h1 : a1 = b1 <;> by_cases h2 : a2 = b2 <;> by_cases h3 : a3 = b3 <;> by_cases h4 : a4 = b4 <;> simp [h0, h1, h2, h3, h4]

/-- The function 'try', over its boxes. -/
def tryV (R F L T : Nat) : Value := .func (.func 75) #[] #[.pointer (some ⟨L, 0, none⟩), .pointer (some ⟨F, 0, none⟩), .pointer (some ⟨R, 0, none⟩), .pointer (some ⟨T, 0, none⟩)]
/-- The boxes between two sets. -/
structure TrySt (wb : World) (R F L T : Nat) (vr : Value) (f : Nat → Bool) (W : World) : Prop where
  ext : Ext wb W
  rc : W.cell? ⟨R, 0, none⟩ = some vr
  tc : W.cell? ⟨T, 0, none⟩ = some (tryV R F L T)
  fc : ∃ v, W.cell? ⟨F, 0, none⟩ = some v
  lc : FlagsAt W L f
  ff : W.frozen? ⟨F, 0, none⟩ = false
  lf : ∀ o, W.frozen? ⟨L, o, none⟩ = false
  o0 : wb.heap.size ≤ R
  o1 : R + 1 = F
  o2 : F + 1 = L
  o3 : L + 1 = T
section
variable {wb : World} {R F L T : Nat} {vr : Value} {f g : Nat → Bool} {W W' : World}
theorem TrySt.grow (h : TrySt wb R F L T vr f W) (hx : Ext W W') : TrySt wb R F L T vr f W' := by
  have h1 := h.o0
  have h2 := h.o1
  have h3 := h.o2
  have h4 := h.o3
  obtain ⟨v, hv⟩ := h.fc
  exact ⟨h.ext.trans hx, hx.keep h.rc, hx.keep h.tc, ⟨v, hx.keep hv⟩, h.lc.ext hx, (hx.frozen (lt_of_cell hv)).trans h.ff, fun o => (hx.frozen (lt_of_cell (h.lc 0 (by decide)))).trans (h.lf o), h.o0, h.o1, h.o2, h.o3⟩
theorem TrySt.setF (h : TrySt wb R F L T vr f W) (v : Value) : TrySt wb R F L T vr f (W.setCell ⟨F, 0, none⟩ v) := by
  have h1 := h.o0
  have h2 := h.o1
  have h3 := h.o2
  have h4 := h.o3
  obtain ⟨v0, hv⟩ := h.fc
  exact ⟨h.ext.setCell (by omega) _, set_other (by omega) h.rc, set_other (by omega) h.tc, ⟨v, set_same hv⟩, fun j hj => set_other (by omega) (h.lc j hj), by rw [World.frozen?_setCell]; exact h.ff, fun o => by rw [World.frozen?_setCell]; exact h.lf o, h.o0, h.o1, h.o2, h.o3⟩
theorem TrySt.setL (h : TrySt wb R F L T vr f W) (k : Nat) (u : Bool) (hg : ∀ j, j < 5 → g j = if j = k then u else f j) : TrySt wb R F L T vr g (W.setCell ⟨L, k, none⟩ (.bool u)) := by
  have h1 := h.o0
  have h2 := h.o1
  have h3 := h.o2
  have h4 := h.o3
  obtain ⟨v0, hv⟩ := h.fc
  exact ⟨h.ext.setCell (by omega) _, set_other (by omega) h.rc, set_other (by omega) h.tc, ⟨v0, set_other (by omega) hv⟩, h.lc.set hg, by rw [World.frozen?_setCell]; exact h.ff, fun o => by rw [World.frozen?_setCell]; exact h.lf o, h.o0, h.o1, h.o2, h.o3⟩
/-- All five flags set. -/
abbrev set5 (W : World) (L : Nat) (g : Nat → Bool) : World := ((((W.setCell ⟨L, 0, none⟩ (.bool (g 0))).setCell ⟨L, 1, none⟩ (.bool (g 1))).setCell ⟨L, 2, none⟩ (.bool (g 2))).setCell ⟨L, 3, none⟩ (.bool (g 3))).setCell ⟨L, 4, none⟩ (.bool (g 4))
theorem TrySt.set5 (h : TrySt wb R F L T vr f W) (g : Nat → Bool) : TrySt wb R F L T vr g (set5 W L g) := by
  refine TrySt.setL (f := fun j => if j < 4 then g j else f j) (TrySt.setL (f := fun j => if j < 3 then g j else f j) (TrySt.setL (f := fun j => if j < 2 then g j else f j) (TrySt.setL (f := fun j => if j < 1 then g j else f j) (TrySt.setL (f := f) h 0 (g 0) ?_) 1 (g 1) ?_) 2 (g 2) ?_) 3 (g 3) ?_) 4 (g 4) ?_
  all_goals
    intro j hj
    rcases j with _ | _ | _ | _ | _ | j <;> first | (simp; done) | omega
theorem set5_other {b o : Nat} {v : Value} (hb : b ≠ L) (h : W.cell? ⟨b, o, none⟩ = some v) : (set5 W L g).cell? ⟨b, o, none⟩ = some v :=
  set_other (Ne.symm hb) (set_other (Ne.symm hb) (set_other (Ne.symm hb) (set_other (Ne.symm hb) (set_other (Ne.symm hb) h))))
theorem EG.set5 {lo hi : Nat} {a : World} (h : EG lo hi a W) (h1 : lo ≤ L) (h2 : L < hi) : EG lo hi a (set5 W L g) :=
  ((((h.setIn h1 h2 _).setIn h1 h2 _).setIn h1 h2 _).setIn h1 h2 _).setIn h1 h2 _
end
/-- What 'try' leaves. -/
structure TryP (wb : World) (R F L T : Nat) (vr : Value) (r : List Int) (want : Option (List Nat)) (W : World) (b : Bool) (w' : World) : Prop where
  eg : EG F T W w'
  yes : b = true → ∃ x vx, want = some x ∧ w'.cell? ⟨F, 0, none⟩ = some vx ∧ IntsV (mask (lowB (T + 1)) w') vx (ints x)
  no : b = false → want = none ∧ ∃ f, TrySt wb R F L T vr f w' ∧ keptB r f = false
def TryQ (wb : World) (R F L T : Nat) (vr : Value) (r : List Int) (want : Option (List Nat)) (W : World) (e : Ending) (w' : World) : Prop := ∃ b, e = .returned (.bool b) ∧ TryP wb R F L T vr r want W b w'
/-- The set that is tried is noted. -/
structure MarkP (wb : World) (R F L T N : Nat) (vr vo : Value) (g : Nat → Bool) (W w' : World) : Prop where
  st : TrySt wb R F L T vr g w'
  fo : w'.cell? ⟨F, 0, none⟩ = some vo
  nn : FlagsAt w' N g
  eg : EG F T W w'
theorem MarkP.drew {wb W w' : World} {R F L T N : Nat} {vr vo : Value} {g : Nat → Bool} (h : MarkP wb R F L T N vr vo g W w') : MarkP wb R F L T N vr vo g W w'.drew :=
  ⟨h.st.grow (Ext.refl _).drew, (Ext.refl _).drew.keep h.fo, h.nn.ext (Ext.refl _).drew, h.eg.drew⟩
theorem markA {wb W W' : World} {R F L T N : Nat} {vr vo : Value} {f g : Nat → Bool} (h : TrySt wb R F L T vr f W') (hn : FlagsAt W' N g) (hN : T < N) (he : EG F T W W') : MarkP wb R F L T N vr vo g W (set5 (W'.setCell ⟨F, 0, none⟩ vo) L g) := by
  have h2 := h.o1
  have h3 := h.o2
  have h4 := h.o3
  obtain ⟨v0, hv⟩ := h.fc
  exact ⟨(h.setF vo).set5 g, set5_other (by omega) (set_same hv), fun j hj => set5_other (by omega) (set_other (by omega) (hn j hj)), EG.set5 (he.setIn (T := F) (by omega) (by omega) _) (by omega) (by omega)⟩
theorem markB {wb W W' : World} {R F L T N : Nat} {vr vo : Value} {f g : Nat → Bool} (h : TrySt wb R F L T vr f W') (hn : FlagsAt W' N g) (hN : T < N) (he : EG F T W W') : MarkP wb R F L T N vr vo g W ((set5 W' L g).setCell ⟨F, 0, none⟩ vo) := by
  have h2 := h.o1
  have h3 := h.o2
  have h4 := h.o3
  obtain ⟨v0, hv⟩ := h.fc
  exact ⟨(h.set5 g).setF vo, set_same (set5_other (by omega) hv), fun j hj => set_other (by omega) (set5_other (by omega) (hn j hj)), (EG.set5 he (by omega) (by omega)).setIn (by omega) (by omega) _⟩

set_option maxRecDepth 100000 in
set_option maxHeartbeats 4000000 in
theorem try_zero (wb : World) (R F L T : Nat) (vr : Value) (r : List Int) (hr : IntsV wb vr r) (h5 : r.length ≤ 5) (start : Int) (out : List Nat) (vo : Value) (f : Nat → Bool) (W : World)
    (hs : TrySt wb R F L T vr f W) (ho : IntsV (mask (lowB (T + 1)) W) vo (ints out)) (hx5 : ∀ x, x ∈ out → x < 5) (hpre : keptB r f = false ∨ out = []) :
    Calls Try.prog 75 #[vo, .int .i64 start, .int .i64 0, .pointer (some ⟨L, 0, none⟩), .pointer (some ⟨F, 0, none⟩), .pointer (some ⟨R, 0, none⟩), .pointer (some ⟨T, 0, none⟩)] W fun e w' => TryQ wb R F L T vr r (if keptB r (mk out) then some out else none) W e w' := by
  have HMK : Hid (Calls Try.prog 76 #[vo] W fun e w' => e = .returned (.agg #[.bool (mk out 0), .bool (mk out 1), .bool (mk out 2), .bool (mk out 3), .bool (mk out 4)]) ∧ Ext W w') := marked_any vo out W (ho.kc (mask_kc0 _ _)) hx5
  have HKP : Hid (∀ w', Ext wb w' → Calls Try.prog 77 #[vr, .agg #[.bool (mk out 0), .bool (mk out 1), .bool (mk out 2), .bool (mk out 3), .bool (mk out 4)]] w' fun e w'' => e = .returned (.bool (keptB r (mk out))) ∧ Ext w' w'') := fun w' hx => kept_any vr r (mk out) w' (hr.ext hx) h5
  have HEQ := fun w => eq_flags (mk out) f w
  have HSM : Hid (sameB (mk out) f = true → keptB r (mk out) = keptB r f) := Lib.hid (fun h => keptB_congr (fun j hj => sameB_iff h j (by omega)))
  have HO := Lib.hid ho
  have HST := Lib.hid hs
  have o0 := hs.o0
  have o1 := hs.o1
  have o2 := hs.o2
  have o3 := hs.o3
  have hTl : T < W.heap.size := lt_of_cell hs.tc
  obtain ⟨ao, co, rfl, hlo, hlo2, -⟩ := ho
  have hlen : (ints out).length = out.length := by simp [ints]
  have HPR : Hid (keptB r f = false ∨ out = []) := hpre
  have HNE : Hid (out = [] ↔ out.length = 0) := Lib.hid (by simp)
  obtain ⟨ar, cr, rfl, -, -, -⟩ := hr
  rw [hlen] at HO HMK hlo hlo2 ⊢
  clear hpre hx5 hlen hs h5
  obtain ⟨want, hwant⟩ : ∃ x, x = (if keptB r (mk out) then some out else none) := ⟨_, rfl⟩
  rw [← hwant]
  have HW := Lib.hid hwant
  clear hwant
  generalize hkb : keptB r (mk out) = kb at *
  have HKB := Lib.hid hkb
  clear hkb
  generalize hsm : sameB (mk out) f = sm at *
  clear hsm
  go_enter Try.func75, Try.ntmps75
  go_wp2_with fail
  (with_reducible refine HMK.out.mono ?_)
  rintro e w1 ⟨rfl, hx1⟩
  clear HMK
  go_upto_region 3 with fail
  obtain ⟨W2, hW2⟩ : ∃ x, x = (w1.alloc (.cells #[.bool (mk out 0), .bool (mk out 1), .bool (mk out 2), .bool (mk out 3), .bool (mk out 4)] 117)) := ⟨_, rfl⟩
  rw [← hW2]
  have X2 : Ext W W2 := by rw [hW2]; exact hx1.alloc _
  have n0 : W2.cell? ⟨w1.heap.size, 0, none⟩ = some (.bool (mk out 0)) := by rw [hW2]; simp
  have n1 : W2.cell? ⟨w1.heap.size, 1, none⟩ = some (.bool (mk out 1)) := by rw [hW2]; simp
  have n2 : W2.cell? ⟨w1.heap.size, 2, none⟩ = some (.bool (mk out 2)) := by rw [hW2]; simp
  have n3 : W2.cell? ⟨w1.heap.size, 3, none⟩ = some (.bool (mk out 3)) := by rw [hW2]; simp
  have n4 : W2.cell? ⟨w1.heap.size, 4, none⟩ = some (.bool (mk out 4)) := by rw [hW2]; simp
  have hNT : T < w1.heap.size := by have := hx1.size; omega
  clear hW2 hx1
  generalize w1.heap.size = N at *
  have S2 := Lib.hid (HST.out.grow X2)
  have l0 := S2.out.lc 0 (by decide)
  have l1 := S2.out.lc 1 (by decide)
  have l2 := S2.out.lc 2 (by decide)
  have l3 := S2.out.lc 3 (by decide)
  have l4 := S2.out.lc 4 (by decide)
  have rc := S2.out.rc
  obtain ⟨vf, fc⟩ := S2.out.fc
  have ff := S2.out.ff
  have lf0 := S2.out.lf 0
  have lf1 := S2.out.lf 1
  have lf2 := S2.out.lf 2
  have lf3 := S2.out.lf 3
  have lf4 := S2.out.lf 4
  have HO2 := Lib.hid (HO.out.kc (eg_low (lo := F) (hi := T) (n := T + 1) X2.eg (by omega)))
  have hstop : sm = true → 0 < out.length → kb = false ∧ keptB r f = false := fun h1 h2 => by
    rcases HPR.out with h | h
    · rw [HSM.out h1, h]; exact ⟨rfl, rfl⟩
    · have := HNE.out.1 h; omega
  have HSTOP := Lib.hid hstop
  have NF : Hid (FlagsAt W2 N (mk out)) := Lib.hid (fun j hj => by rcases j with _ | _ | _ | _ | _ | j <;> first | assumption | omega)
  clear hstop HPR HSM HO HST
  go_cut [24] from 17 to 24 (fun s24 wx => s24 = .bool (sm && decide (0 < out.length)) ∧ W2 = wx)
  case first =>
    by_cases hp : 0 < out.length
    · have hp1 : decide (0 < out.length) = true := decide_eq_true hp
      have hp2 : decide ((0 : Int) < (out.length : Int)) = true := decide_eq_true (by omega)
      cases sm
      · go_wp2_with fail
        go_meet
        exact ⟨by rw [hp1]; rfl, rfl⟩
      · go_wp2_with fail
        go_meet
        exact ⟨by rw [hp1]; rfl, rfl⟩
    · have hp1 : decide (0 < out.length) = false := decide_eq_false hp
      have hp2 : decide ((0 : Int) < (out.length : Int)) = false := decide_eq_false (by omega)
      cases sm
      · go_wp2_with fail
        go_meet
        exact ⟨by rw [hp1]; rfl, rfl⟩
      · go_wp2_with fail
        go_meet
        exact ⟨by rw [hp1]; rfl, rfl⟩
  case rest =>
    obtain ⟨rfl, rfl⟩ := hcut
    obtain ⟨B, hB⟩ : ∃ B, B = (sm && decide (0 < out.length)) := ⟨_, rfl⟩
    rw [← hB]
    have HB := Lib.hid hB
    clear hB HEQ
    cases B with
    | true =>
      have hb := HB.out.symm
      simp only [Bool.and_eq_true, decide_eq_true_eq] at hb
      have HKF := Lib.hid (HSTOP.out hb.1 hb.2)
      clear HSTOP hb
      go_wp2_with fail
      go_ret
      exact ⟨false, rfl, ⟨X2.eg, fun h => (by cases h), fun _ => ⟨by rw [HW.out, HKF.out.1]; rfl, f, S2.out, HKF.out.2⟩⟩⟩
    | false =>
      clear HSTOP HB
      go_upto_region 5 with fail
      go_cut [11] from 25 to 26 (fun s11 wx => s11 = .pointer (some ⟨N, 0, none⟩) ∧ MarkP wb R F L T N (.slice ar r.length cr) (.slice ao out.length co) (mk out) W2 wx)
      case first =>
        have hFL : ¬ F = L := by omega
        have hLF : ¬ L = F := by omega
        have hNF : ¬ N = F := by omega
        have hNL : ¬ N = L := by omega
        clear HKP HW HKB HNE HO2 rc
        go_region
        all_goals
          go_wp2_with fail
          go_meet
          first
            | exact ⟨rfl, markA S2.out NF.out hNT (EG.refl _)⟩
            | exact ⟨rfl, markB S2.out NF.out hNT (EG.refl _)⟩
            | exact ⟨rfl, (markA S2.out NF.out hNT (EG.refl _)).drew⟩
            | exact ⟨rfl, (markB S2.out NF.out hNT (EG.refl _)).drew⟩
      case rest =>
        obtain ⟨rfl, hm⟩ := hcut
        obtain ⟨W3, rfl⟩ : ∃ x, x = wc := ⟨_, rfl⟩
        have HM := Lib.hid hm
        have rc3 := hm.st.rc
        have n0 := hm.nn 0 (by decide)
        have n1 := hm.nn 1 (by decide)
        have n2 := hm.nn 2 (by decide)
        have n3 := hm.nn 3 (by decide)
        have n4 := hm.nn 4 (by decide)
        have XB := hm.st.ext
        clear hm l0 l1 l2 l3 l4 rc fc ff lf0 lf1 lf2 lf3 lf4 S2 NF
        go_wp2_with fail
        (with_reducible refine (HKP.out _ XB).mono ?_)
        rintro e w4 ⟨rfl, hx4⟩
        have HX4 := Lib.hid hx4
        clear rc3 n0 n1 n2 n3 n4 XB HKP hx4
        go_wp2_with fail
        go_ret
        refine ⟨kb, rfl, ⟨(X2.eg.trans HM.out.eg).ext HX4.out, fun h => ?_, fun h => ?_⟩⟩
        · refine ⟨out, _, by rw [HW.out, h]; rfl, HX4.out.keep HM.out.fo, ?_⟩
          have := (HO2.out.kc (eg_low HM.out.eg (by omega))).kc (eg_low (lo := F) (hi := T) (n := T + 1) HX4.out.eg (by omega))
          exact this
        · exact ⟨by rw [HW.out, h]; rfl, mk out, HM.out.st.grow HX4.out, by rw [HKB.out]; exact h⟩
end Go.Proofs.Ytfjecbfcnngacaa

/- Contracts: 'try', by induction on how many rates more. -/
namespace Go.Proofs.Ytfjecbfcnngacaa
open Go.RowKit Go.Hs
attribute [local irreducible] World.setCell World.alloc

theorem step_is_app {P : Program} {w : World} {ops : Array Oper} {o : Oper} {a : Act} {K : Act → World → Prop} {Q : Exit → Act → World → Prop} {E : Prop} (s x : Operand) (t : TypeId)
    (_ : o.op = .call { callee := .builtin .append, args := #[s, x], argTypes := #[t, t] }) (h : if Region.wanted o (yielded ops a.tmps) = true then Oper.wp P o a w K Q else E) : if Region.wanted o (yielded ops a.tmps) = true then Oper.wp P o a w K Q else E := h
theorem scan_step {α : Type} {f : Nat → Option α} {n i : Nat} : scan f (n + 1) i = match f i with | some x => some x | none => scan f n (i + 1) := rfl
theorem scan_yes {α : Type} {f : Nat → Option α} {n i : Nat} {x : α} (h : f i = some x) : scan f (n + 1) i = some x := by rw [scan_step, h]
theorem scan_no {α : Type} {f : Nat → Option α} {n i : Nat} (h : f i = none) : scan f (n + 1) i = scan f n (i + 1) := by rw [scan_step, h]
def TryM (wb : World) (R F L T : Nat) (vr : Value) (r : List Int) (want : Option (List Nat)) (W : World) (s : Value) (w' : World) : Prop := ∃ b, s = .bool b ∧ TryP wb R F L T vr r want W b w'
def TryC (wb : World) (R F L T : Nat) (vr : Value) (r : List Int) (m : Nat) : Prop := ∀ (fI mI : Int) (start : Nat) (out : List Nat) (vo : Value) (f : Nat → Bool) (W : World), fI = start → mI = m →
    TrySt wb R F L T vr f W → IntsV (mask (lowB (T + 1)) W) vo (ints out) → (∀ x, x ∈ out → x < 5) → out.length + m ≤ 5 → start ≤ 5 → (keptB r f = false ∨ (out = [] ∧ m = 0)) →
    Calls Try.prog 75 #[vo, .int .i64 fI, .int .i64 mI, .pointer (some ⟨L, 0, none⟩), .pointer (some ⟨F, 0, none⟩), .pointer (some ⟨R, 0, none⟩), .pointer (some ⟨T, 0, none⟩)] W fun e w' => TryQ wb R F L T vr r (tryS r m out start) W e w'

set_option maxRecDepth 100000 in
set_option maxHeartbeats 4000000 in
theorem try_succ (wb : World) (R F L T : Nat) (vr : Value) (r : List Int) (hr : IntsV wb vr r) (h5 : r.length ≤ 5) (m : Nat) (ih : TryC wb R F L T vr r m) : TryC wb R F L T vr r (m + 1) := by
  intro fI mI start out vo f W hfI hmI hs ho hx5 hlm hst hpre
  have hkf : keptB r f = false := by
    rcases hpre with h | ⟨-, h⟩
    · exact h
    · omega
  have HIH : Hid (∀ (fI mI : Int) (i : Nat) (vo' : Value) (f' : Nat → Bool) (W' : World), fI = (i : Int) + 1 → mI = m → i < r.length → TrySt wb R F L T vr f' W' → IntsV (mask (lowB (T + 1)) W') vo' (ints (out ++ [i])) → keptB r f' = false →
      Calls Try.prog 75 #[vo', .int .i64 fI, .int .i64 mI, .pointer (some ⟨L, 0, none⟩), .pointer (some ⟨F, 0, none⟩), .pointer (some ⟨R, 0, none⟩), .pointer (some ⟨T, 0, none⟩)] W' fun e w' => TryQ wb R F L T vr r (tryS r m (out ++ [i]) (i + 1)) W' e w') :=
    Lib.hid (fun fI mI i vo' f' W' h1 h2 h3 h4 h6 h7 => ih fI mI (i + 1) (out ++ [i]) vo' f' W' (by omega) h2 h4 h6 (fun x hx => by
      rcases List.mem_append.1 hx with h | h
      · exact hx5 x h
      · have : x = i := by simpa using h
        omega) (by simp; omega) (by omega) (.inl h7))
  have HSC : Hid (tryS r (m + 1) out start = scan (fun i => tryS r m (out ++ [i]) (i + 1)) (r.length - m - start) start) := Lib.hid rfl
  have HO := Lib.hid ho
  have HX5 := Lib.hid hx5
  have o1 := hs.o1
  have o2 := hs.o2
  have o3 := hs.o3
  have hTl : T < W.heap.size := lt_of_cell hs.tc
  have HS0 : Hid (∃ f', TrySt wb R F L T vr f' W ∧ keptB r f' = false) := Lib.hid ⟨f, hs, hkf⟩
  obtain ⟨ao, co, rfl, hlo, hlo2, -⟩ := ho
  have hlen : (ints out).length = out.length := by simp [ints]
  obtain ⟨ar, cr, rfl, -, -, -⟩ := hr
  rw [hlen] at HO hlo hlo2 ⊢
  obtain ⟨i0, hi0, hz0, hz1, hz2⟩ := info_parts info_int
  generalize hwa : tryS r (m + 1) out start = want at *
  have hm0 : ¬ mI = 0 := by omega
  have hmb : (mI == 0) = false := by rw [beq_eq_false_iff_ne]; exact hm0
  have hw1 : IntKind.i64.wrap ((r.length : Int) - mI) = (r.length : Int) - mI := IntWalk.i64_in _ (by omega)
  have hw2 : IntKind.i64.wrap (mI - 1) = mI - 1 := IntWalk.i64_in _ (by omega)
  have hol : out.length ≤ 5 := by omega
  have HM0 := Lib.hid hmI
  have HFI0 := Lib.hid hfI
  clear hpre hx5 hs hkf ih hwa hlen hmI hfI
  go_enter Try.func75, Try.ntmps75
  go_wp2_with fail
  go_loopw [12] (fun s12 wr => ∃ i : Nat, i ≤ 5 ∧ s12 = .int .i64 i ∧ Hid (∃ f', TrySt wb R F L T (.slice ar r.length cr) f' wr ∧ keptB r f' = false) ∧ EG F T W wr ∧ Hid (want = scan (fun i => tryS r m (out ++ [i]) (i + 1)) (r.length - m - i) i)) (fun s _ => 10 - (intOf s).toNat)
  case atStart => exact ⟨start, hst, by rw [HFI0.out], HS0, EG.refl _, HSC⟩
  case round =>
    obtain ⟨i, hi5, rfl, HS, hg, HSI⟩ := hrel
    obtain ⟨wo, rfl⟩ : ∃ x, x = wr := ⟨_, rfl⟩
    obtain ⟨f', hs', hk'⟩ := HS.out
    have rc := hs'.rc
    have tc := hs'.tc
    have HST := Lib.hid (And.intro hs' hk')
    clear hs' hk' HS
    by_cases hlt : i + m < r.length
    · have hd : decide ((i : Int) ≤ (r.length : Int) - mI) = true := decide_eq_true (by have := HM0.out; omega)
      have hw3 : IntKind.i64.wrap ((i : Int) + 1) = (i : Int) + 1 := IntWalk.i64_in _ (by omega)
      have hTo : T < wo.heap.size := lt_of_cell tc
      have HV := Lib.hid ((HO.out.kc (eg_low hg (by omega))))
      have HCLN : Hid (∀ W', Ext wo W' → Calls Try.prog 78 #[.slice ao out.length co] W' fun e w' => ∃ v', e = .returned v' ∧ w'.ownsRow wo.heap.size 3 1 v' out.length ((ints out).map (.int .i64)) ∧ Ext W' w') := Lib.hid (fun W' hx => (clone_any _ (ints out) W' ((HV.out.kc (mask_kc0 _ _)).ext hx) (by simp [ints]; omega)).mono (fun e w' ⟨v', g1, g2, g3⟩ => ⟨v', g1, by
        have := own_mono g2 hx.size
        simpa [ints] using this, g3⟩))
      have e2 : r.length - m - i = (r.length - m - (i + 1)) + 1 := by omega
      have HYES : Hid (∀ x, tryS r m (out ++ [i]) (i + 1) = some x → want = some x) := Lib.hid (fun x h => by rw [HSI.out, e2]; exact scan_yes h)
      have HNO : Hid (tryS r m (out ++ [i]) (i + 1) = none → want = scan (fun i => tryS r m (out ++ [i]) (i + 1)) (r.length - m - (i + 1)) (i + 1)) := Lib.hid (fun h => by rw [HSI.out, e2]; exact scan_no h)
      have HUS : Hid ((ints out).map (Value.int .i64) ++ [Value.int .i64 (i : Int)] = (ints (out ++ [i])).map (Value.int .i64)) := Lib.hid (by simp [ints])
      have HUN : Hid (out.length + 1 = (out ++ [i]).length) := Lib.hid (by simp)
      have HU5 : Hid (∀ x, x ∈ out ++ [i] → x < 5) := Lib.hid (fun x hx => by
        rcases List.mem_append.1 hx with h | h
        · exact HX5.out x h
        · have : x = i := by simpa using h
          omega)
      have HUL : Hid ((out ++ [i]).length ≤ 5) := Lib.hid (by simp; omega)
      have HONE : Hid (∀ u ∈ ([.int .i64 (i : Int)] : List Value), u.oneCell' = true) := Lib.hid (by
        intro u hu
        simp only [List.mem_cons, List.not_mem_nil, or_false] at hu
        rw [hu]; rfl)
      have HF1 : Hid (out.length + 1 ≤ maxLen) := Lib.hid (by simp only [maxLen]; omega)
      have HF2 : Hid ((out.length + 1) * 8 ≤ 140737488355328) := Lib.hid (by omega)
      have HIL : Hid (i < r.length) := Lib.hid (by omega)
      have HSS : Hid (∀ w', EG F T wo w' → w'.cell? ⟨T, 0, none⟩ = some (tryV R F L T) ∧ EG F T wo w') := fun w' hx => ⟨hx.keep (.inr (Nat.le_refl _)) tc, hx⟩
      have HMI : Hid (mI - 1 = (m : Int)) := Lib.hid (by have := HM0.out; omega)
      clear e2 HSI HSC HS0
      generalize hn : out.length = n at *
      go_upto_region 10 with fail
      go_cut [49] from 39 to 49 (fun s49 wx => TryM wb R F L T (.slice ar r.length cr) r (tryS r m (out ++ [i]) (i + 1)) wo s49 wx)
      case first =>
        unfold tryV at HSS
        go_region_held3 (fun w' => w'.cell? ⟨T, 0, none⟩ = some (.func (.func 75) #[] #[.pointer (some ⟨L, 0, none⟩), .pointer (some ⟨F, 0, none⟩), .pointer (some ⟨R, 0, none⟩), .pointer (some ⟨T, 0, none⟩)]) ∧ EG F T wo w')
          ((refine HSS.out _ ?_; (repeat (first | exact EG.refl _ | (with_reducible assumption) | (with_reducible refine EG.drew ?_) | (with_reducible refine EG.alloc ?_ _) | (with_reducible refine EG.ext ?_ (by with_reducible assumption)) | (with_reducible refine EG.trans ?_ (by with_reducible assumption)))))) 
          (first
            | (go_at_call 78; (refine (HCLN.out _ (by (repeat (first | exact Ext.refl _ | (with_reducible assumption) | (with_reducible refine Ext.drew ?_) | (with_reducible refine Ext.alloc ?_ _) | (with_reducible refine Ext.drewN ?_ _) | (with_reducible refine Ext.setCell ?_ (by omega) _) | (with_reducible refine Ext.trans ?_ (by with_reducible assumption)))))).mono ?_); rintro e w3 ⟨v3, rfl, hown3, hx3⟩)
            | (go_at_call 75; (refine (HIH.out _ _ i _ _ _ rfl HMI.out HIL.out (HST.out.1.grow (hx4.trans (by (repeat (first | exact Ext.refl _ | (with_reducible assumption) | (with_reducible refine Ext.drew ?_) | (with_reducible refine Ext.alloc ?_ _) | (with_reducible refine Ext.drewN ?_ _) | (with_reducible refine Ext.setCell ?_ (by omega) _) | (with_reducible refine Ext.trans ?_ (by with_reducible assumption))))))) (hv4.kc (eg_low (lo := F) (hi := T) (Ext.eg (by (repeat (first | exact Ext.refl _ | (with_reducible assumption) | (with_reducible refine Ext.drew ?_) | (with_reducible refine Ext.alloc ?_ _) | (with_reducible refine Ext.drewN ?_ _) | (with_reducible refine Ext.setCell ?_ (by omega) _) | (with_reducible refine Ext.trans ?_ (by with_reducible assumption)))))) (by omega))) HST.out.2).mono ?_); rintro e w5 ⟨b5, rfl, hp5⟩; have hg5 := hp5.eg; have HP5 := Lib.hid hp5)
            | ((refine step_is_app _ _ 59 rfl ?_); (refine step_append_lies _ (by rfl) _ _ 59 (by rfl) wo.heap.size 3 i0 (.int .i64 0) 1 8 Try.underlying59 hi0 hz0 hz1 hz2 rfl (by decide) v3 n ((ints out).map (.int .i64)) (by rfl) (own_keep hown3 (fun g hg => Ext.heap (by (repeat (first | exact Ext.refl _ | (with_reducible assumption) | (with_reducible refine Ext.drew ?_) | (with_reducible refine Ext.alloc ?_ _) | (with_reducible refine Ext.drewN ?_ _) | (with_reducible refine Ext.setCell ?_ (by omega) _) | (with_reducible refine Ext.trans ?_ (by with_reducible assumption))))) (own_lt hown3 hg).2)) ⟨_, 0, none⟩ 1 1 [.int .i64 (i : Int)] (by rfl) rfl (one_in (by (repeat (first | exact Ext.refl _ | (with_reducible assumption) | (with_reducible refine Ext.drew ?_) | (with_reducible refine Ext.alloc ?_ _) | (with_reducible refine Ext.drewN ?_ _) | (with_reducible refine Ext.setCell ?_ (by omega) _) | (with_reducible refine Ext.trans ?_ (by with_reducible assumption))))) (by first | rfl | simp)) HONE.out (by decide) HF1.out HF2.out (Ext.size (by (repeat (first | exact Ext.refl _ | (with_reducible assumption) | (with_reducible refine Ext.drew ?_) | (with_reducible refine Ext.alloc ?_ _) | (with_reducible refine Ext.drewN ?_ _) | (with_reducible refine Ext.setCell ?_ (by omega) _) | (with_reducible refine Ext.trans ?_ (by with_reducible assumption)))))) _ rfl ?_); intro g cap w4 hown4 hgrow hat hlt4; have hx4 : Ext wo w4 := grown_ext (by (repeat (first | exact Ext.refl _ | (with_reducible assumption) | (with_reducible refine Ext.drew ?_) | (with_reducible refine Ext.alloc ?_ _) | (with_reducible refine Ext.drewN ?_ _) | (with_reducible refine Ext.setCell ?_ (by omega) _) | (with_reducible refine Ext.trans ?_ (by with_reducible assumption))))) hgrow (fun g hg => (own_lt hown3 hg).1); have hv4 := own_ints (N := T + 1) hown4 HUS.out HUN.out hTo HU5.out HUL.out))
        all_goals
          go_wp2_with fail
          go_meet
          exact ⟨_, rfl, ⟨hx4.eg.trans (EG.trans (Ext.eg (by (repeat (first | exact Ext.refl _ | (with_reducible assumption) | (with_reducible refine Ext.drew ?_) | (with_reducible refine Ext.alloc ?_ _) | (with_reducible refine Ext.drewN ?_ _) | (with_reducible refine Ext.setCell ?_ (by omega) _) | (with_reducible refine Ext.trans ?_ (by with_reducible assumption)))))) hg5), HP5.out.yes, HP5.out.no⟩⟩
      case rest =>
        obtain ⟨b, rfl, hp⟩ := hcut
        have HP := Lib.hid hp
        clear hp
        obtain ⟨wd, rfl⟩ : ∃ x, x = wc := ⟨_, rfl⟩
        cases b with
        | true =>
          obtain ⟨x, vx, hx1, hx2, hx3⟩ := HP.out.yes rfl
          have HF := Lib.hid (And.intro (HYES.out x hx1) (And.intro hx2 hx3))
          clear hx1 hx2 hx3
          go_wp2_with fail
          go_ret
          exact ⟨true, rfl, ⟨hg.trans HP.out.eg, fun _ => ⟨x, vx, HF.out.1, HF.out.2.1, HF.out.2.2⟩, fun h => (by cases h)⟩⟩
        | false =>
          obtain ⟨hn1, hn2⟩ := HP.out.no rfl
          have HN1 := Lib.hid (HNO.out hn1)
          have HN2 := Lib.hid hn2
          clear hn1 hn2
          go_wp2_with fail
          go_roundw
          case rel => exact ⟨i + 1, by omega, by go_num, HN2, hg.trans HP.out.eg, HN1⟩
          case measure => simp [intOf]; omega
    · have hd : decide ((i : Int) ≤ (r.length : Int) - mI) = false := decide_eq_false (by have := HM0.out; omega)
      have HN : Hid (want = none) := Lib.hid (by rw [HSI.out, show r.length - m - i = 0 by omega]; rfl)
      clear HSI HSC HS0
      go_wp2_with fail
      go_ret
      exact ⟨false, rfl, ⟨hg, fun h => (by cases h), fun _ => ⟨HN.out, f', HST.out.1, HST.out.2⟩⟩⟩
end Go.Proofs.Ytfjecbfcnngacaa

/- Contracts: the misprints of rates, as the program answers. -/
namespace Go.Proofs.Ytfjecbfcnngacaa
open Go.RowKit Go.Hs
attribute [local irreducible] World.setCell World.alloc

theorem try_any (wb : World) (R F L T : Nat) (vr : Value) (r : List Int) (hr : IntsV wb vr r) (h5 : r.length ≤ 5) (m : Nat) : TryC wb R F L T vr r m := by
  induction m with
  | zero =>
    intro fI mI start out vo f W h1 h2 hs ho hx _ _ hp
    subst h2
    have := try_zero wb R F L T vr r hr h5 fI out vo f W hs ho hx (hp.imp_right (fun h => h.1))
    exact this
  | succ m ih => exact try_succ wb R F L T vr r hr h5 m ih
/-- The rates that are asked for. -/
def misB (l : List Tar) (which crop week : Int) : Bool := inR which 0 ((l.length : Int) - 1) && (inR crop 0 ((cropsN l : Int) - 1) && inR week 0 (((l.getD which.toNat default).weeks.length : Int) - 1))
def ratesS (l : List Tar) (which crop week : Int) : List Int := ((l.getD which.toNat default).rates.getD crop.toNat []).getD week.toNat []
/-- The first set of them all. -/
def misS (r : List Int) : Option (List Nat) := scan (fun n => tryS r n [] 0) (r.length + 1) 0
theorem rates_ok {l : List Tar} (hl : ValidL l) {which crop week : Int} (h : misB l which crop week = true) :
    ∃ i j k : Nat, which = i ∧ crop = j ∧ week = k ∧ i < l.length ∧ j < (l.getD i default).rates.length ∧ j < cropsN l ∧ k < ((l.getD i default).rates.getD j []).length ∧ k < (l.getD i default).weeks.length ∧ RowOK (l.getD i default).counts.length (ratesS l which crop week) ∧ (l.getD i default).counts.length ≤ 5 ∧ 1 < (l.getD i default).counts.length := by
  unfold misB at h
  simp only [Bool.and_eq_true, inR_iff] at h
  obtain ⟨h1, h2, h3⟩ := h
  obtain ⟨i, rfl⟩ : ∃ i : Nat, which = i := ⟨which.toNat, by omega⟩
  obtain ⟨j, rfl⟩ : ∃ j : Nat, crop = j := ⟨crop.toNat, by omega⟩
  obtain ⟨k, rfl⟩ : ∃ k : Nat, week = k := ⟨week.toNat, by omega⟩
  simp only [Int.toNat_natCast] at h3
  have hi : i < l.length := by omega
  have v := validB_iff.1 (hl.valid i hi)
  have e := hl.crops i hi
  have hj : j < (l.getD i default).rates.length := by omega
  have hk : k < (l.getD i default).weeks.length := by omega
  have hrow := v.rows j hj
  have hf := hl.few i hi
  simp only [fewB, Bool.and_eq_true, decide_eq_true_eq] at hf
  refine ⟨i, j, k, rfl, rfl, rfl, hi, hj, by omega, by rw [hrow.1]; exact hk, hk, ?_, hf.1.2, v.two⟩
  unfold ratesS
  simp only [Int.toNat_natCast]
  exact hrow.2 k hk

set_option maxRecDepth 100000 in
set_option maxHeartbeats 1000000 in
theorem Mis_bad (v : Value) (l : List Tar) (which crop week : Int) (w : World) (hv : TarsV w v l) (h : checkS l ≠ 0) :
    Calls Try.prog 51 #[v, .int .i64 which, .int .i64 crop, .int .i64 week] w fun e w' => e = .returned (.tuple #[.slice none 0 0, .int .i64 (checkS l)]) ∧ Ext w w' := by
  have hb := asked_bad v l none 0 [] (by simp) w hv (fun i hi => absurd hi (by simp)) (by rw [no_claims]; exact h)
  rw [no_claims] at hb
  simp only [List.length_nil] at hb
  have hd : (checkS l != 0) = true := by simp [h]
  clear h
  generalize checkS l = ck at *
  go_enter Try.func51, Try.ntmps51
  go_wp2_with fail
  go_step3
  go_wp2_with fail
  (with_reducible refine hb.mono ?_)
  rintro e w1 ⟨rfl, hx1⟩
  go_wp2_with fail
  (try rw [Exit.noGoto_ret])
  go_ret2
  exact ⟨rfl, by (repeat (first | exact Ext.refl _ | (with_reducible assumption) | (with_reducible refine Ext.drew ?_) | (with_reducible refine Ext.alloc ?_ _) | (with_reducible refine Ext.drewN ?_ _) | (with_reducible refine Ext.setCell ?_ (by omega) _) | (with_reducible refine Ext.trans ?_ (by with_reducible assumption))))⟩

set_option maxRecDepth 100000 in
set_option maxHeartbeats 2000000 in
theorem Mis_no (v : Value) (l : List Tar) (which crop week : Int) (w : World) (hv : TarsV w v l) (h : checkS l = 0) (hm : misB l which crop week = false) :
    Calls Try.prog 51 #[v, .int .i64 which, .int .i64 crop, .int .i64 week] w fun e w' => e = .returned (.tuple #[.slice none 0 0, .int .i64 2]) ∧ Ext w w' := by
  have hl := validL_of h
  have hb := asked_good v l none 0 [] (by simp) w hv (fun i hi => absurd hi (by simp)) (by rw [no_claims]; exact h)
  simp only [List.length_nil] at hb
  have hoc : ∀ W', Ext w W' → Calls Try.prog 59 #[.agg #[v], .int .i64 crop] W' fun e w' => e = .returned (.bool (inR crop 0 ((cropsN l : Int) - 1))) ∧ Ext W' w' := fun W' hx => ocrop_any v l hl.pos crop W' (hv.ext hx)
  have HOC := Lib.hid hoc
  have h3 := hl.three
  have hw1 : IntKind.i64.wrap ((l.length : Int) - 1) = (l.length : Int) - 1 := IntWalk.i64_in _ (by omega)
  have HW1 : Hid (∀ W, Calls Try.prog 74 #[.int .i64 which, .int .i64 0, .int .i64 ((l.length : Int) - 1)] W fun e w' => e = .returned (.bool (inR which 0 ((l.length : Int) - 1))) ∧ W = w') := fun W => within_any _ _ _ W
  unfold misB at hm
  by_cases a1 : inR which 0 ((l.length : Int) - 1) = true
  · rw [a1] at HW1
    by_cases a2 : inR crop 0 ((cropsN l : Int) - 1) = true
    · rw [a2] at HOC
      rw [a1, a2] at hm
      simp only [Bool.true_and] at hm
      rw [inR_iff] at a1
      obtain ⟨i, rfl⟩ : ∃ i : Nat, which = i := ⟨which.toNat, by omega⟩
      simp only [Int.toNat_natCast] at hm
      have hi : i < l.length := by omega
      have hf := hl.few i hi
      simp only [fewB, Bool.and_eq_true, decide_eq_true_eq] at hf
      have hW2 : ∀ W, Calls Try.prog 74 #[.int .i64 week, .int .i64 0, .int .i64 (((l.getD i default).weeks.length : Int) - 1)] W fun e w' => e = .returned (.bool (inR week 0 (((l.getD i default).weeks.length : Int) - 1))) ∧ W = w' := fun W => within_any _ _ _ W
      rw [hm] at hW2
      have HW2 := Lib.hid hW2
      have hw2 : IntKind.i64.wrap (((l.getD i default).weeks.length : Int) - 1) = ((l.getD i default).weeks.length : Int) - 1 := IntWalk.i64_in _ (by omega)
      obtain ⟨a, c, rfl, g1, g2, hr⟩ := hv
      obtain ⟨b, off, rfl, hta⟩ := hr i hi
      obtain ⟨a3, k3, a4, k4, a5, k5, m0, m1, m2, m3, m4, m5, mc⟩ := TarAt.open hta
      have e1 : l[i] = l.getD i default := by simp [hi]
      rw [e1] at m3
      have HM := Lib.hid m3
      have hi0 : (0 : Int) ≤ (i : Int) := by omega
      have hi1 : (i : Int) < (l.length : Int) := by omega
      clear hr hta m0 m1 m2 m3 m4 m5 mc e1 h hl hm hoc hf hW2
      generalize (l.getD i default).weeks.length = wn at *
      generalize l.length = n at *
      go_enter Try.func51, Try.ntmps51
      go_wp2_with fail
      go_step3
      go_wp2_with fail
      (with_reducible refine hb.mono ?_)
      rintro e w1 ⟨p, r, rfl, hx1, hw1', hr1⟩
      have k0 := hw1'.list
      clear hb
      go_wp2_with fail
      (with_reducible refine (HW1.out _).mono ?_)
      rintro e w2 ⟨rfl, hw⟩
      subst hw
      go_wp2_with fail
      (with_reducible refine (HOC.out _ hx1).mono ?_)
      rintro e w3 ⟨rfl, hx3⟩
      have m3 := (hx1.trans hx3).keep HM.out
      go_wp2_with fail
      (with_reducible refine (HW2.out _).mono ?_)
      rintro e w4 ⟨rfl, hw⟩
      subst hw
      go_wp2_with fail
      (try rw [Exit.noGoto_ret])
      go_ret2
      exact ⟨rfl, hx1.trans hx3⟩
    · have a2' : inR crop 0 ((cropsN l : Int) - 1) = false := by simpa using a2
      rw [a2'] at HOC
      obtain ⟨a, c, rfl, g1, g2, hr⟩ := hv
      clear hr hm h hl a1 a2 a2' hoc
      generalize l.length = n at *
      go_enter Try.func51, Try.ntmps51
      go_wp2_with fail
      go_step3
      go_wp2_with fail
      (with_reducible refine hb.mono ?_)
      rintro e w1 ⟨p, r, rfl, hx1, hw1', hr1⟩
      have k0 := hw1'.list
      clear hb
      go_wp2_with fail
      (with_reducible refine (HW1.out _).mono ?_)
      rintro e w2 ⟨rfl, hw⟩
      subst hw
      go_wp2_with fail
      (with_reducible refine (HOC.out _ hx1).mono ?_)
      rintro e w3 ⟨rfl, hx3⟩
      go_wp2_with fail
      (try rw [Exit.noGoto_ret])
      go_ret2
      exact ⟨rfl, hx1.trans hx3⟩
  · have a1' : inR which 0 ((l.length : Int) - 1) = false := by simpa using a1
    rw [a1'] at HW1
    obtain ⟨a, c, rfl, g1, g2, hr⟩ := hv
    clear hr hm h hl a1 a1' hoc HOC
    generalize l.length = n at *
    go_enter Try.func51, Try.ntmps51
    go_wp2_with fail
    go_step3
    go_wp2_with fail
    (with_reducible refine hb.mono ?_)
    rintro e w1 ⟨p, r, rfl, hx1, hw1', hr1⟩
    clear hb
    go_wp2_with fail
    (with_reducible refine (HW1.out _).mono ?_)
    rintro e w2 ⟨rfl, hw⟩
    subst hw
    go_wp2_with fail
    (try rw [Exit.noGoto_ret])
    go_ret2
    exact ⟨rfl, hx1⟩
end Go.Proofs.Ytfjecbfcnngacaa

/- Contracts: the misprints of rates, where the program finds them. -/
namespace Go.Proofs.Ytfjecbfcnngacaa
open Go.RowKit Go.Hs
attribute [local irreducible] World.setCell World.alloc

theorem alloc_at {w : World} {b i : Nat} {cs : Array Value} {t : TypeId} {u : Value} (h : b = w.heap.size) (hu : cs[i]? = some u) : (w.alloc (.cells cs t)).cell? ⟨b, i, none⟩ = some u := by
  subst h; simp [hu]
theorem alloc_fz {w : World} {b i : Nat} {cs : Array Value} {t : TypeId} (h : b = w.heap.size) : (w.alloc (.cells cs t)).frozen? ⟨b, i, none⟩ = false := by
  subst h; simp
theorem trySt_start (wb : World) (vr : Value) (t1 t2 t3 t4 : TypeId) : TrySt wb wb.heap.size (wb.heap.size + 1) (wb.heap.size + 1 + 1) (wb.heap.size + 1 + 1 + 1) vr (fun _ => false)
    ((((wb.alloc (.cells #[vr] t1)).alloc (.cells #[.slice none 0 0] t2)).alloc (.cells #[.bool false, .bool false, .bool false, .bool false, .bool false] t3)).alloc (.cells #[tryV wb.heap.size (wb.heap.size + 1) (wb.heap.size + 1 + 1) (wb.heap.size + 1 + 1 + 1)] t4)) := by
  have h1 : ∀ o, (wb.alloc o).heap.size = wb.heap.size + 1 := fun o => by simp
  have h2 : ∀ o o', ((wb.alloc o).alloc o').heap.size = wb.heap.size + 1 + 1 := fun o o' => by simp
  have h3 : ∀ o o' o'', (((wb.alloc o).alloc o').alloc o'').heap.size = wb.heap.size + 1 + 1 + 1 := fun o o' o'' => by simp
  have x1 : ∀ (w : World) o, Ext w (w.alloc o) := fun w o => (Ext.refl w).alloc o
  have x2 : ∀ (w : World) o o', Ext w ((w.alloc o).alloc o') := fun w o o' => (x1 w o).alloc o'
  have x3 : ∀ (w : World) o o' o'', Ext w (((w.alloc o).alloc o').alloc o'') := fun w o o' o'' => (x2 w o o').alloc o''
  refine ⟨(x3 _ _ _ _).alloc _, (x3 _ _ _ _).keep (alloc_at rfl rfl), alloc_at (h3 _ _ _).symm rfl, ⟨_, (x2 _ _ _).keep (alloc_at (h1 _).symm rfl)⟩, fun j hj => (x1 _ _).keep (alloc_at (h2 _ _).symm ?_), ?_, fun o => ?_, Nat.le_refl _, rfl, rfl, rfl⟩
  · rcases j with _ | _ | _ | _ | _ | j <;> first | rfl | omega
  · rw [(x2 _ _ _).frozen (by rw [h2]; omega)]; exact alloc_fz (h1 _).symm
  · rw [(x1 _ _).frozen (by rw [h3]; omega)]; exact alloc_fz (h2 _ _).symm
theorem nil_ints (w : World) : IntsV w (.slice none 0 0) (ints []) := ⟨none, 0, rfl, Nat.le_refl _, by simp [ints], fun i h => absurd h (by simp [ints])⟩

set_option maxRecDepth 100000 in
set_option maxHeartbeats 4000000 in
theorem Mis_good (v : Value) (l : List Tar) (which crop week : Int) (x : List Nat) (w : World) (hv : TarsV w v l) (h : checkS l = 0) (hm : misB l which crop week = true) (hx : misS (ratesS l which crop week) = some x) :
    Calls Try.prog 51 #[v, .int .i64 which, .int .i64 crop, .int .i64 week] w fun e w' => ∃ vx, e = .returned (.tuple #[vx, .int .i64 0]) ∧ IntsV w' vx (ints x) ∧ Ext w w' := by
  have hl := validL_of h
  have hb := asked_good v l none 0 [] (by simp) w hv (fun i hi => absurd hi (by simp)) (by rw [no_claims]; exact h)
  simp only [List.length_nil] at hb
  have hm' := hm
  unfold misB at hm'
  simp only [Bool.and_eq_true] at hm'
  obtain ⟨a1, a2, a3⟩ := hm'
  have hoc : ∀ W', Ext w W' → Calls Try.prog 59 #[.agg #[v], .int .i64 crop] W' fun e w' => e = .returned (.bool true) ∧ Ext W' w' := fun W' hx => a2 ▸ ocrop_any v l hl.pos crop W' (hv.ext hx)
  have HOC := Lib.hid hoc
  have h3 := hl.three
  have hw1 : IntKind.i64.wrap ((l.length : Int) - 1) = (l.length : Int) - 1 := IntWalk.i64_in _ (by omega)
  have HW1 : Hid (∀ W, Calls Try.prog 74 #[.int .i64 which, .int .i64 0, .int .i64 ((l.length : Int) - 1)] W fun e w' => e = .returned (.bool true) ∧ W = w') := fun W => a1 ▸ within_any _ _ _ W
  have HW2 : Hid (∀ W, Calls Try.prog 74 #[.int .i64 week, .int .i64 0, .int .i64 (((l.getD which.toNat default).weeks.length : Int) - 1)] W fun e w' => e = .returned (.bool true) ∧ W = w') := fun W => a3 ▸ within_any _ _ _ W
  obtain ⟨i, j, k, rfl, rfl, rfl, hi, hj, hjc, hk, hkw, hrow, hc5, -⟩ := rates_ok hl hm
  have hlen := hrow.len
  have hf := hl.few i hi
  simp only [fewB, Bool.and_eq_true, decide_eq_true_eq] at hf
  simp only [Int.toNat_natCast] at HW2
  unfold ratesS at hx hlen
  simp only [Int.toNat_natCast] at hx hlen
  obtain ⟨a, c, rfl, g1, g2, hr⟩ := hv
  obtain ⟨b, off, rfl, hta⟩ := hr i hi
  obtain ⟨e3, k3, e4, k4, e5, k5, m0, m1, m2, m3, m4, m5, mc⟩ := TarAt.open hta
  have e1 : l[i] = l.getD i default := by simp [hi]
  rw [e1] at m3 m5 mc
  generalize l.getD i default = t at *
  obtain ⟨a5, c5, he5, -, -, hr5⟩ := mc.rates
  cases he5
  obtain ⟨b5, o5, rfl, v6, q5, h6⟩ := hr5 j hj
  obtain ⟨a6, c6, rfl, -, -, hr6⟩ := h6
  have e6 : t.rates[j] = t.rates.getD j [] := by simp [hj]
  rw [e6] at q5 hr6
  obtain ⟨b6, o6, rfl, v7, q6, h7⟩ := hr6 k hk
  have e7 : (t.rates.getD j [])[k] = (t.rates.getD j []).getD k [] := by
    generalize t.rates.getD j [] = zz at *
    simp [hk]
  rw [e7] at h7
  have H7 := Lib.hid h7
  have HM3 := Lib.hid m3
  have HM5 := Lib.hid m5
  rw [Nat.mul_one] at q5 q6
  have HQ5 := Lib.hid q5
  have HQ6 := Lib.hid q6
  generalize (t.rates.getD j []).getD k [] = rr at *
  have hr5' : rr.length ≤ 5 := by omega
  obtain ⟨a7, c7, rfl, -, -, -⟩ := h7
  have hw2 : IntKind.i64.wrap ((t.weeks.length : Int) - 1) = (t.weeks.length : Int) - 1 := IntWalk.i64_in _ (by omega)
  have hi0 : (0 : Int) ≤ (i : Int) := by omega
  have hi1 : (i : Int) < (l.length : Int) := by omega
  have hj0 : (0 : Int) ≤ (j : Int) := by omega
  have hj1 : (j : Int) < (t.rates.length : Int) := by omega
  have hk0 : (0 : Int) ≤ (k : Int) := by omega
  have hk1 : (k : Int) < ((t.rates.getD j []).length : Int) := by omega
  have HX := Lib.hid hx
  clear hr hta m0 m1 m2 m3 m4 m5 mc e1 e6 e7 h hl hm hoc hf hr5 hr6 q5 q6 hx hlen hrow a1 a2 a3 hc5
  generalize t.weeks.length = wn at *
  generalize t.rates.length = rn at *
  generalize (t.rates.getD j []).length = qn at *
  generalize l.length = n at *
  go_enter Try.func51, Try.ntmps51
  go_wp2_with fail
  go_step3
  go_wp2_with fail
  (with_reducible refine hb.mono ?_)
  rintro e w1 ⟨p, r, rfl, hx1, hw1', hr1⟩
  have k0 := hw1'.list
  clear hb hw1'
  go_wp2_with fail
  (with_reducible refine (HW1.out _).mono ?_)
  rintro e w2 ⟨rfl, hw⟩
  subst hw
  go_wp2_with fail
  (with_reducible refine (HOC.out _ hx1).mono ?_)
  rintro e w3 ⟨rfl, hx3⟩
  have X3 := hx1.trans hx3
  have m3 := X3.keep HM3.out
  have m5 := X3.keep HM5.out
  have q5 := X3.keep HQ5.out
  have q6 := X3.keep HQ6.out
  clear HW1 HOC hx1 hx3 k0 hr1
  go_wp2_with fail
  (with_reducible refine (HW2.out _).mono ?_)
  rintro e w4 ⟨rfl, hw⟩
  subst hw
  clear HW2
  go_upto_region 11 with fail
  have hst := trySt_start w3 (.slice a7 rr.length c7) 59 59 117 118
  unfold tryV at hst
  have hxs : Ext w3 ((((w3.alloc (.cells #[.slice a7 rr.length c7] 59)).alloc (.cells #[.slice none 0 0] 59)).alloc (.cells #[.bool false, .bool false, .bool false, .bool false, .bool false] 117)).alloc (.cells #[.func (.func 75) #[] #[.pointer (some ⟨w3.heap.size + 1 + 1, 0, none⟩), .pointer (some ⟨w3.heap.size + 1, 0, none⟩), .pointer (some ⟨w3.heap.size, 0, none⟩), .pointer (some ⟨w3.heap.size + 1 + 1 + 1, 0, none⟩)]] 118)) := by (repeat (first | exact Ext.refl _ | (with_reducible assumption) | (with_reducible refine Ext.drew ?_) | (with_reducible refine Ext.alloc ?_ _) | (with_reducible refine Ext.drewN ?_ _) | (with_reducible refine Ext.setCell ?_ (by omega) _) | (with_reducible refine Ext.trans ?_ (by with_reducible assumption))))
  generalize (((w3.alloc (.cells #[.slice a7 rr.length c7] 59)).alloc (.cells #[.slice none 0 0] 59)).alloc (.cells #[.bool false, .bool false, .bool false, .bool false, .bool false] 117)).alloc (.cells #[.func (.func 75) #[] #[.pointer (some ⟨w3.heap.size + 1 + 1, 0, none⟩), .pointer (some ⟨w3.heap.size + 1, 0, none⟩), .pointer (some ⟨w3.heap.size, 0, none⟩), .pointer (some ⟨w3.heap.size + 1 + 1 + 1, 0, none⟩)]] 118) = W at *
  have HV3 := Lib.hid (H7.out.ext X3)
  have HTR : Hid (∀ m, TryC w3 w3.heap.size (w3.heap.size + 1) (w3.heap.size + 1 + 1) (w3.heap.size + 1 + 1 + 1) (.slice a7 rr.length c7) rr m) := Lib.hid (fun m => try_any w3 _ _ _ _ _ rr HV3.out hr5' m)
  clear m3 m5 q5 q6 HM3 HM5 HQ5 HQ6 hw2 hi0 hi1 hj0 hj1 hk0 hk1 hw1 hkw hj hk hjc hi
  have o1 : w3.heap.size + 1 = w3.heap.size + 1 := rfl
  obtain ⟨R, hR⟩ : ∃ R, R = w3.heap.size := ⟨_, rfl⟩
  rw [← hR] at hst HTR ⊢
  obtain ⟨F, hF⟩ : ∃ F, F = R + 1 := ⟨_, rfl⟩
  rw [← hF] at hst HTR ⊢
  obtain ⟨L, hL⟩ : ∃ L, L = F + 1 := ⟨_, rfl⟩
  rw [← hL] at hst HTR ⊢
  obtain ⟨T, hT⟩ : ∃ T, T = L + 1 := ⟨_, rfl⟩
  rw [← hT] at hst HTR ⊢
  have HST := Lib.hid hst
  have HOO := Lib.hid (And.intro hF (And.intro hL hT))
  have rc := hst.rc
  clear hst hF hL hT hR o1 H7
  have hwl : IntKind.i64.wrap ((rr.length : Int) + 1) = (rr.length : Int) + 1 := IntWalk.i64_in _ (by omega)
  go_step3
  go_wp2_with fail
  (refine (min2_any rr.length W.heap.size _ (by simp) (by simp) hr5' 2 (Nat.le_refl 2)).mono ?_)
  rintro e w5 ⟨rfl, hx5⟩
  have HS5 := Lib.hid (HST.out.grow (((Ext.refl W).alloc _).trans hx5))
  clear hx5 hxs rc HST
  go_wp2_with fail
  clear hwl
  go_loopw [16, 70] (fun _ s70 wr => ∃ k : Nat, k ≤ rr.length + 1 ∧ s70 = .int .i64 k ∧ Hid (∃ f, TrySt w3 R F L T (.slice a7 rr.length c7) f wr ∧ (keptB rr f = false ∨ k = 0)) ∧ Hid (scan (fun n => tryS rr n [] 0) (rr.length + 1 - k) k = some x)) (fun _ s _ => rr.length + 1 - (intOf s).toNat)
  case atStart => exact ⟨0, Nat.zero_le _, rfl, Lib.hid ⟨_, HS5.out, .inr rfl⟩, HX⟩
  case round =>
    obtain ⟨k', hk', rfl, HS, HSC⟩ := hrel
    obtain ⟨wo, rfl⟩ : ∃ x, x = wr := ⟨_, rfl⟩
    by_cases hlt : k' < rr.length + 1
    · obtain ⟨f, hs, hpre⟩ := HS.out
      have tc := hs.tc
      unfold tryV at tc
      have HC := Lib.hid (HTR.out k' 0 (k' : Int) 0 [] (.slice none 0 0) f wo rfl rfl hs (nil_ints _) (by simp) (by simp; omega) (by omega) (hpre.imp_right (fun h => ⟨rfl, h⟩)))
      have XO := hs.ext
      have h0 := hs.o0
      have hoF := hs.o1
      have e2 : rr.length + 1 - k' = (rr.length + 1 - (k' + 1)) + 1 := by omega
      have hsc := HSC.out
      rw [e2] at hsc
      have HSC2 := Lib.hid hsc
      have hlt' : (k' : Int) < (rr.length : Int) + 1 := by omega
      have hd : decide ((k' : Int) < (rr.length : Int) + 1) = true := decide_eq_true hlt'
      clear hs hpre hsc HS HSC e2
      go_wp2_with fail
      (refine HC.out.mono ?_)
      rintro e w6 ⟨bb, rfl, hp⟩
      have HP := Lib.hid hp
      have X6 : Ext w3 w6 := EG.over XO (by omega) hp.eg
      clear hp
      cases bb with
      | true =>
        obtain ⟨x', vx, hx1, hx2, hx3⟩ := HP.out.yes rfl
        have hxe : x' = x := by
          have := HSC2.out
          rw [scan_yes (f := fun n => tryS rr n [] 0) hx1] at this
          exact Option.some.inj this
        subst hxe
        have HX3 := Lib.hid hx3
        clear hx1 hx3 HC HP HSC2
        go_wp2_with fail
        (try rw [Exit.noGoto_ret])
        go_ret2
        exact ⟨vx, rfl, HX3.out.kc (mask_kc0 _ _), X3.trans X6⟩
      | false =>
        obtain ⟨hn1, f', hs', hk''⟩ := HP.out.no rfl
        have HN := Lib.hid (And.intro hs' hk'')
        have hsc := HSC2.out
        rw [scan_no (f := fun n => tryS rr n [] 0) hn1] at hsc
        have HSC3 := Lib.hid hsc
        clear hn1 hs' hk'' HC HP HSC2 hsc
        go_wp2_with fail
        go_roundw
        case rel => exact ⟨k' + 1, by omega, by go_num, Lib.hid ⟨f', HN.out.1, .inl HN.out.2⟩, HSC3⟩
        case measure => simp [intOf]; omega
    · exfalso
      have hsc := HSC.out
      rw [show rr.length + 1 - k' = 0 by omega] at hsc
      cases hsc
end Go.Proofs.Ytfjecbfcnngacaa

/- Contracts: the reference's numbers of bits. -/
namespace Go.Hs
open Go.RowKit
def tb (m p : Nat) : Bool := m / 2 ^ p % 2 == 1
def bitsTo (m p : Nat) : List Nat := (List.range p).filter (tb m)
def bitsL (m : Nat) : List Nat := bitsTo m 5
theorem bitsTo_next (m p : Nat) : bitsTo m (p + 1) = if tb m p then bitsTo m p ++ [p] else bitsTo m p := by
  unfold bitsTo
  rw [List.range_succ, List.filter_append]
  cases h : tb m p <;> simp [h]
theorem bits_end : ∀ m, m < 32 → ∀ p, p < 6 → m / 2 ^ p = 0 → bitsTo m p = bitsL m := by decide +kernel
theorem bits_more : ∀ m, m < 32 → ∀ p, p < 6 → 0 < m / 2 ^ p → p < 5 := by decide +kernel
theorem bits_len5 : ∀ m, m < 32 → ∀ p, p < 6 → (bitsTo m p).length ≤ 5 := by decide +kernel
theorem bitsTo_lt {m p x : Nat} (h : x ∈ bitsTo m p) : x < p := by
  have := (List.mem_filter.1 h).1
  simpa using this
theorem bitsTo_len (m p : Nat) : (bitsTo m p).length ≤ p := by
  have := List.length_filter_le (tb m) (List.range p)
  simpa [bitsTo] using this
end Go.Hs
namespace Go.Proofs.Ytfjecbfcnngacaa
open Go.RowKit Go.Hs
attribute [local irreducible] World.setCell World.alloc

set_option maxRecDepth 100000 in
set_option maxHeartbeats 2000000 in
theorem Bits_any (m : Nat) (hm : m < 32) (w : World) :
    Calls Try.prog 55 #[.int .i64 (m : Int)] w fun e w' => ∃ v, e = .returned v ∧ IntsV w' v (ints (bitsL m)) ∧ Ext w w' := by
  obtain ⟨i0, hi0, hz0, hz1, hz2⟩ := info_parts info_int
  go_enter Try.func55, Try.ntmps55
  go_wp2_with fail
  go_loopw [3, 4] (fun s3 s4 wr => ∃ (p n : Nat) (a : Option Addr) (q : Nat), p < 6 ∧ s4 = .int .i64 p ∧ s3 = .slice a n q ∧ Hid (n = (bitsTo m p).length ∧ wr.ownsRow w.heap.size 3 1 (.slice a n q) n ((ints (bitsTo m p)).map (Value.int .i64))) ∧ Ext w wr) (fun _ s _ => 10 - (intOf s).toNat)
  case atStart => exact ⟨0, 0, none, 0, by decide, rfl, rfl, ⟨rfl, World.ownsRow_nil _ _ _ _⟩, Ext.refl _⟩
  case round =>
    obtain ⟨p, n, a, q, hp, rfl, rfl, HO, hx⟩ := hrel
    obtain ⟨wo, rfl⟩ : ∃ x, x = wr := ⟨_, rfl⟩
    have hp0 : (0 : Int) ≤ (p : Int) := by omega
    have hp64 : (p : Int) ≤ 64 := by omega
    obtain ⟨s, hs⟩ : ∃ s, s = m / 2 ^ p := ⟨_, rfl⟩
    have hsl : s < 32 := by rw [hs]; exact Nat.lt_of_le_of_lt (Nat.div_le_self _ _) hm
    have hs' : (m : Int) / 2 ^ p = (s : Int) := by rw [hs]; simp
    have HSE := Lib.hid hs
    clear hs
    by_cases hz : 0 < s
    · have hz' : decide ((0 : Int) < (s : Int)) = true := decide_eq_true (by omega)
      have hp5 := bits_more m hm p hp (by rw [← HSE.out]; exact hz)
      obtain ⟨d, hd⟩ : ∃ d, d = s % 2 := ⟨_, rfl⟩
      have hd1 : (s : Int) % 2 = (d : Int) := by omega
      have hd2 : (s : Int).tmod 2 = (d : Int) := by rw [Int.tmod_eq_emod_of_nonneg (by omega)]; exact hd1
      have hdw : IntKind.i64.wrap (d : Int) = (d : Int) := IntWalk.i64_in _ (by omega)
      have HT : Hid (tb m p = (d == 1)) := Lib.hid (by unfold tb; rw [← HSE.out, hd])
      have hd01 : d = 0 ∨ d = 1 := by omega
      clear hd
      rcases hd01 with rfl | rfl
      · have HN : Hid (bitsTo m (p + 1) = bitsTo m p) := Lib.hid (by rw [bitsTo_next, HT.out]; rfl)
        clear HT
        go_wp2_with fail
        go_roundw
        case rel => exact ⟨p + 1, n, a, q, by omega, by go_num, rfl, Lib.hid (by rw [HN.out]; exact HO.out), hx⟩
        case measure => simp [intOf]; omega
      · have HN : Hid (bitsTo m (p + 1) = bitsTo m p ++ [p]) := Lib.hid (by rw [bitsTo_next, HT.out]; rfl)
        have hnl : n ≤ 5 := by have := bitsTo_len m p; have := HO.out.1; omega
        have OWN := Lib.hid HO.out.2
        have HL := Lib.hid HO.out.1
        clear HT HO
        go_wp2_with (at_builtin; refine wpList_append_own_at _ rfl _ _ 59 rfl w.heap.size 3 i0 (.int .i64 0) 1 8 Try.underlying59 hi0 hz0 hz1 hz2 rfl (by decide) (.slice a n q) n ((ints (bitsTo m p)).map (Value.int .i64)) rfl ?own ⟨wo.heap.size, 0, none⟩ 1 1 [.int .i64 (p : Int)] rfl rfl (one_in (Ext.refl _) rfl) ?one ?fit1 ?fit2 ?fit3 ?next)
        case own => exact own_keep OWN.out (fun g hg => ((Ext.refl wo).alloc _).heap (own_lt OWN.out hg).2)
        case one =>
          intro u hu
          simp only [List.mem_cons, List.not_mem_nil, or_false] at hu
          rw [hu]; rfl
        case fit1 => simp only [maxLen]; omega
        case fit2 => omega
        case fit3 => have h1 := hx.size; simp; omega
        case next =>
          intro v' w3 hown hgrow hnil hat
          have hx3 : Ext w w3 := grown_ext (hx.alloc _) hgrow (fun g hg => (own_lt OWN.out hg).1)
          have HO3 : Hid (n + 1 = (bitsTo m (p + 1)).length ∧ w3.ownsRow w.heap.size 3 1 v' (n + 1) ((ints (bitsTo m (p + 1))).map (Value.int .i64))) := Lib.hid (by
            rw [HN.out]
            exact ⟨by rw [List.length_append, ← HL.out]; rfl, by simpa [ints] using hown⟩)
          rcases own_open hown with ⟨-, h0⟩ | ⟨g, cap, rfl, -, -, -, -⟩
          · omega
          · clear hown hgrow hnil hat
            go_wp2_with fail
            go_roundw
            case rel => exact ⟨p + 1, n + 1, _, _, by omega, by go_num, rfl, HO3, hx3⟩
            case measure => simp [intOf]; omega
    · have e : s = 0 := by omega
      subst e
      have he := bits_end m hm p hp HSE.out.symm
      have HV : Hid (IntsV wo (.slice a n q) (ints (bitsL m))) := Lib.hid ((own_ints (N := 0) HO.out.2 (by rfl) HO.out.1 (Nat.zero_le _) (fun x hx => by have := bitsTo_lt hx; omega) (by have := bitsTo_len m p; have := bits_len5 m hm p hp; omega)).kc (mask_kc0 _ _) |> fun h => by rw [he] at h; exact h)
      clear he HO
      go_wp2_with fail
      go_ret
      exact ⟨_, rfl, HV.out, hx⟩
end Go.Proofs.Ytfjecbfcnngacaa

/- Contracts: the reference's orders of lists. -/
namespace Go.Hs
open Go.RowKit
def beforeB : List Nat → List Nat → Bool
  | [], [] => false
  | [], _ :: _ => true
  | _ :: _, [] => false
  | x :: a, y :: b => if x = y then beforeB a b else decide (x < y)
def shorterB (a b : List Nat) : Bool := decide (a.length < b.length) || (a.length == b.length && beforeB a b)
def sameL (a b : List Nat) : Bool := a.length == b.length && (!beforeB a b && !beforeB b a)
theorem before_drop (i : Nat) : ∀ (a b : List Nat), (∀ j, j < i → a.getD j 0 = b.getD j 0) → i ≤ a.length → i ≤ b.length → beforeB a b = beforeB (a.drop i) (b.drop i) := by
  induction i with
  | zero => intro a b _ _ _; rfl
  | succ i ih =>
    intro a b h ha hb
    cases a with
    | nil => simp at ha
    | cons x a =>
      cases b with
      | nil => simp at hb
      | cons y b =>
        have e : x = y := by have := h 0 (by omega); simpa using this
        subst e
        have e2 : beforeB (x :: a) (x :: b) = beforeB a b := by rw [beforeB, if_pos rfl]
        rw [e2]
        exact ih a b (fun j hj => by have := h (j + 1) (by omega); simpa using this) (by simpa using ha) (by simpa using hb)
theorem before_at {a b : List Nat} {i : Nat} (h : ∀ j, j < i → a.getD j 0 = b.getD j 0) (ha : i < a.length) (hb : i < b.length) (hne : a.getD i 0 ≠ b.getD i 0) : beforeB a b = decide (a.getD i 0 < b.getD i 0) := by
  rw [before_drop i a b h (by omega) (by omega), List.drop_eq_getElem_cons ha, List.drop_eq_getElem_cons hb]
  have e1 : a.getD i 0 = a[i] := by simp [ha]
  have e2 : b.getD i 0 = b[i] := by simp [hb]
  rw [e1, e2] at hne ⊢
  rw [beforeB, if_neg hne]
theorem before_end {a b : List Nat} {i : Nat} (h : ∀ j, j < i → a.getD j 0 = b.getD j 0) (ha : i ≤ a.length) (hb : i ≤ b.length) (he : i = a.length ∨ i = b.length) : beforeB a b = decide (a.length < b.length) := by
  rw [before_drop i a b h ha hb]
  rcases he with rfl | rfl
  · rw [List.drop_length]
    by_cases e : a.length = b.length
    · have : b.drop a.length = [] := by rw [e]; exact List.drop_length
      rw [this, e]; simp [beforeB]
    · have hl : a.length < b.length := by omega
      rw [List.drop_eq_getElem_cons hl]
      simp [beforeB, hl]
  · rw [List.drop_length]
    by_cases e : a.length = b.length
    · have : a.drop b.length = [] := by rw [← e]; exact List.drop_length
      rw [this, e]; simp [beforeB]
    · have hl : b.length < a.length := by omega
      rw [List.drop_eq_getElem_cons hl]
      simp [beforeB]; omega
theorem ints_len (a : List Nat) : (ints a).length = a.length := by simp [ints]
theorem IntsV.natcells {w : World} {v : Value} {a : List Nat} (h : IntsV w v (ints a)) : ∃ p c, v = .slice p a.length c ∧ a.length ≤ c ∧ ∀ i, i < a.length → ∃ b off, p = some ⟨b, off, none⟩ ∧ w.cell? ⟨b, off + i, none⟩ = some (.int .i64 (a.getD i 0 : Nat)) := by
  obtain ⟨p, c, rfl, h1, -, hr⟩ := h
  rw [ints_len] at h1 ⊢
  refine ⟨p, c, rfl, h1, fun i hi => ?_⟩
  obtain ⟨b, off, e, hc⟩ := hr i (by rw [ints_len]; exact hi)
  refine ⟨b, off, e, ?_⟩
  have := hc.1
  have e2 : (ints a)[i]'(by rw [ints_len]; exact hi) = ((a.getD i 0 : Nat) : Int) := by simp [ints, hi]
  rw [e2, Nat.mul_one] at this
  exact this
end Go.Hs
namespace Go.Proofs.Ytfjecbfcnngacaa
open Go.RowKit Go.Hs
attribute [local irreducible] World.setCell World.alloc

set_option maxRecDepth 100000 in
set_option maxHeartbeats 2000000 in
theorem Before_any (v u : Value) (a b : List Nat) (w : World) (hv : IntsV w v (ints a)) (hu : IntsV w u (ints b)) (ha : a.length ≤ 1000) (_ : b.length ≤ 1000) :
    Calls Try.prog 80 #[v, u] w fun e w' => e = .returned (.bool (beforeB a b)) ∧ Ext w w' := by
  obtain ⟨p, c, rfl, h1, hr⟩ := hv.natcells
  obtain ⟨q, d, rfl, h2, hs⟩ := hu.natcells
  have HR := Lib.hid hr
  have HS := Lib.hid hs
  have HAT : Hid (∀ i, (∀ j, j < i → a.getD j 0 = b.getD j 0) → i < a.length → i < b.length → a.getD i 0 ≠ b.getD i 0 → beforeB a b = decide (a.getD i 0 < b.getD i 0)) := Lib.hid (fun i h1 h2 h3 h4 => before_at h1 h2 h3 h4)
  have HEN : Hid (∀ i, (∀ j, j < i → a.getD j 0 = b.getD j 0) → i ≤ a.length → i ≤ b.length → (i = a.length ∨ i = b.length) → beforeB a b = decide (a.length < b.length)) := Lib.hid (fun i h1 h2 h3 h4 => before_end h1 h2 h3 h4)
  clear hv hu hr hs
  generalize hres : beforeB a b = res at *
  clear hres
  go_enter Try.func80, Try.ntmps80
  go_wp2_with fail
  go_loopw [5] (fun s5 wr => ∃ i : Nat, i ≤ a.length ∧ i ≤ b.length ∧ s5 = .int .i64 i ∧ Hid (∀ j, j < i → a.getD j 0 = b.getD j 0) ∧ Ext w wr) (fun s _ => a.length - (intOf s).toNat)
  case atStart => exact ⟨0, Nat.zero_le _, Nat.zero_le _, rfl, Lib.hid (fun j hj => absurd hj (Nat.not_lt_zero _)), Ext.refl _⟩
  case round =>
    obtain ⟨i, hia, hib, rfl, HI, hx⟩ := hrel
    obtain ⟨wo, rfl⟩ : ∃ x, x = wr := ⟨_, rfl⟩
    by_cases hla : i < a.length
    · by_cases hlb : i < b.length
      · obtain ⟨b1, o1, rfl, q1⟩ := HR.out i hla
        obtain ⟨b2, o2, rfl, q2⟩ := HS.out i hlb
        replace q1 := hx.keep q1
        replace q2 := hx.keep q2
        have HNE : Hid (a.getD i 0 ≠ b.getD i 0 → res = decide (a.getD i 0 < b.getD i 0)) := Lib.hid (fun h => HAT.out i HI.out hla hlb h)
        have HEQ : Hid (a.getD i 0 = b.getD i 0 → ∀ j, j < i + 1 → a.getD j 0 = b.getD j 0) := Lib.hid (fun h j hj => by
          rcases Nat.lt_succ_iff_lt_or_eq.1 hj with g | rfl
          · exact HI.out j g
          · exact h)
        have hi0 : (0 : Int) ≤ (i : Int) := by omega
        have hi1 : (i : Int) < (a.length : Int) := by omega
        have hi2 : (i : Int) < (b.length : Int) := by omega
        have G1 : ∀ w', Ext wo w' → w'.cell? ⟨b1, o1 + i, none⟩ = some (.int .i64 (a.getD i 0 : Nat)) := fun w' h => h.keep q1
        have G2 : ∀ w', Ext wo w' → w'.cell? ⟨b2, o2 + i, none⟩ = some (.int .i64 (b.getD i 0 : Nat)) := fun w' h => h.keep q2
        clear HI HAT HEN
        generalize a.getD i 0 = x at *
        generalize b.getD i 0 = y at *
        by_cases hxy : x = y
        · have HE := Lib.hid (HEQ.out hxy)
          subst hxy
          go_wp2_with fail
          go_quiet (fail)
          go_wp2_with fail
          go_roundw
          case rel => exact ⟨i + 1, by omega, by omega, by go_num, HE, by (repeat (first | exact Ext.refl _ | (with_reducible assumption) | (with_reducible refine Ext.drew ?_) | (with_reducible refine Ext.alloc ?_ _) | (with_reducible refine Ext.drewN ?_ _) | (with_reducible refine Ext.setCell ?_ (by omega) _) | (with_reducible refine Ext.trans ?_ (by with_reducible assumption))))⟩
          case measure => simp [intOf]; omega
        · have he := HNE.out hxy
          have hn : ((x : Int) != (y : Int)) = true := by rw [bne_iff_ne]; omega
          have hn2 : ¬ ((x : Int) = (y : Int)) := by omega
          have hdd : decide (x < y) = decide ((x : Int) < (y : Int)) := by simp
          rw [hdd] at he
          have HEE := Lib.hid he
          clear HNE HEQ he hdd
          go_wp2_with fail
          go_quiet (fail)
          go_wp2_with fail
          have r1 := G1 _ (show Ext wo _ by (repeat (first | exact Ext.refl _ | (with_reducible assumption) | (with_reducible refine Ext.drew ?_) | (with_reducible refine Ext.alloc ?_ _) | (with_reducible refine Ext.drewN ?_ _) | (with_reducible refine Ext.setCell ?_ (by omega) _) | (with_reducible refine Ext.trans ?_ (by with_reducible assumption)))))
          go_quiet (fail)
          go_wp2_with fail
          go_ret
          exact ⟨by rw [HEE.out]; simp, by (repeat (first | exact Ext.refl _ | (with_reducible assumption) | (with_reducible refine Ext.drew ?_) | (with_reducible refine Ext.alloc ?_ _) | (with_reducible refine Ext.drewN ?_ _) | (with_reducible refine Ext.setCell ?_ (by omega) _) | (with_reducible refine Ext.trans ?_ (by with_reducible assumption))))⟩
      · have e : i = b.length := by omega
        have he := HEN.out i HI.out hia hib (.inr e)
        have hdd : decide (a.length < b.length) = decide ((a.length : Int) < (b.length : Int)) := by simp
        rw [hdd] at he
        have HEE := Lib.hid he
        clear HI HAT HEN he hdd
        go_wp2_with fail
        go_ret
        exact ⟨by rw [HEE.out]; simp, hx⟩
    · have e : i = a.length := by omega
      have he := HEN.out i HI.out hia hib (.inl e)
      have hdd : decide (a.length < b.length) = decide ((a.length : Int) < (b.length : Int)) := by simp
      rw [hdd] at he
      have HEE := Lib.hid he
      clear HI HAT HEN he hdd
      go_wp2_with fail
      go_ret
      exact ⟨by rw [HEE.out]; simp, hx⟩
end Go.Proofs.Ytfjecbfcnngacaa

/- Contracts: the reference's Shorter and Same; whether rates rise without some. -/
namespace Go.Hs
open Go.RowKit
def pairTo (P : Nat → Nat → Prop) (n i k : Nat) : Prop := ∀ a b, a < b → b < n → (a < i ∨ a = i ∧ b < k) → P a b
section
variable {P : Nat → Nat → Prop} {n i k : Nat}
theorem pairTo.next (h : pairTo P n i k) (hk : P i k) : pairTo P n i (k + 1) := fun a b hab hb hc => by
  rcases hc with g | ⟨rfl, g⟩
  · exact h a b hab hb (.inl g)
  · by_cases e : b = k
    · subst e; exact hk
    · exact h a b hab hb (.inr ⟨rfl, by omega⟩)
theorem pairTo.turn (h : pairTo P n i n) : pairTo P n (i + 1) (i + 1 + 1) := fun a b hab hb hc => by
  rcases hc with g | ⟨rfl, g⟩
  · by_cases e : a = i
    · subst e; exact h a b hab hb (.inr ⟨rfl, hb⟩)
    · exact h a b hab hb (.inl (by omega))
  · omega
theorem pairTo.start : pairTo P n 0 (0 + 1) := fun a b hab hb hc => by omega
theorem pairTo.all (h : pairTo P n i (i + 1)) (hi : n ≤ i) : ∀ a b, a < b → b < n → P a b := fun a b hab hb => h a b hab hb (.inl (by omega))
end
def okP (r : List Int) (f : Nat → Bool) (a b : Nat) : Prop := f a = false → f b = false → r.getD a 0 ≤ r.getD b 0
def riseS (r : List Int) (f : Nat → Bool) : Bool := allB r.length (fun b => allB b (fun a => f a || f b || decide (r.getD a 0 ≤ r.getD b 0)))
theorem riseS_iff {r : List Int} {f : Nat → Bool} : riseS r f = true ↔ ∀ a b, a < b → b < r.length → okP r f a b := by
  unfold riseS okP
  simp only [allB_iff, Bool.or_eq_true, decide_eq_true_eq]
  constructor
  · intro h a b hab hb h1 h2
    rcases h b hb a hab with (g | g) | g
    · rw [h1] at g; cases g
    · rw [h2] at g; cases g
    · exact g
  · intro h b hb a hab
    have := h a b hab hb
    cases h1 : f a with
    | true => exact .inl (.inl rfl)
    | false =>
      cases h2 : f b with
      | true => exact .inl (.inr rfl)
      | false => exact .inr (this h1 h2)
end Go.Hs
namespace Go.Proofs.Ytfjecbfcnngacaa
open Go.RowKit Go.Hs
attribute [local irreducible] World.setCell World.alloc

set_option maxRecDepth 100000 in
theorem Shorter_any (v u : Value) (a b : List Nat) (w : World) (hv : IntsV w v (ints a)) (hu : IntsV w u (ints b)) (ha : a.length ≤ 1000) (hb : b.length ≤ 1000) :
    Calls Try.prog 54 #[v, u] w fun e w' => e = .returned (.bool (shorterB a b)) ∧ Ext w w' := by
  have HB := Lib.hid (Before_any v u a b w hv hu ha hb)
  obtain ⟨p, c, rfl, h1, -⟩ := hv.natcells
  obtain ⟨q, d, rfl, h2, -⟩ := hu.natcells
  have HE : Hid (shorterB a b = (decide (a.length < b.length) || (a.length == b.length && beforeB a b))) := rfl
  generalize hr : shorterB a b = res at *
  generalize beforeB a b = bf at *
  clear hv hu hr
  generalize a.length = n at *
  generalize b.length = m at *
  by_cases h : n < m
  · have hd : decide ((n : Int) < (m : Int)) = true := decide_eq_true (by omega)
    have he : res = true := by rw [HE.out, decide_eq_true h]; rfl
    subst he
    go_enter Try.func54, Try.ntmps54
    go_wp2_with fail
    go_ret
    exact ⟨rfl, Ext.refl _⟩
  · have hd : decide ((n : Int) < (m : Int)) = false := decide_eq_false (by omega)
    by_cases e : n = m
    · subst e
      have he : res = bf := by rw [HE.out, decide_eq_false h]; simp
      subst he
      go_enter Try.func54, Try.ntmps54
      go_wp2_with fail
      (refine HB.out.mono ?_)
      rintro e w1 ⟨rfl, hx⟩
      go_wp2_with fail
      go_ret
      exact ⟨rfl, hx⟩
    · have hq : ((n : Int) == (m : Int)) = false := by rw [beq_eq_false_iff_ne]; omega
      have he : res = false := by rw [HE.out, decide_eq_false h]; simp [e]
      subst he
      go_enter Try.func54, Try.ntmps54
      go_wp2_with fail
      go_ret
      exact ⟨rfl, Ext.refl _⟩

set_option maxRecDepth 100000 in
theorem Same_any (v u : Value) (a b : List Nat) (w : World) (hv : IntsV w v (ints a)) (hu : IntsV w u (ints b)) (ha : a.length ≤ 1000) (hb : b.length ≤ 1000) :
    Calls Try.prog 52 #[v, u] w fun e w' => e = .returned (.bool (sameL a b)) ∧ Ext w w' := by
  have HB := Lib.hid (Before_any v u a b w hv hu ha hb)
  have HC : Hid (∀ w', Ext w w' → Calls Try.prog 80 #[u, v] w' fun e w'' => e = .returned (.bool (beforeB b a)) ∧ Ext w' w'') := fun w' hx => Before_any u v b a w' (hu.ext hx) (hv.ext hx) hb ha
  obtain ⟨p, c, rfl, h1, -⟩ := hv.natcells
  obtain ⟨q, d, rfl, h2, -⟩ := hu.natcells
  have HE : Hid (sameL a b = (a.length == b.length && (!beforeB a b && !beforeB b a))) := rfl
  generalize hr : sameL a b = res at *
  generalize beforeB a b = bf at *
  generalize beforeB b a = bg at *
  clear hv hu hr
  generalize a.length = n at *
  generalize b.length = m at *
  by_cases e : n = m
  · subst e
    cases bf with
    | true =>
      have he : res = false := by rw [HE.out]; simp
      subst he
      go_enter Try.func52, Try.ntmps52
      go_wp2_with fail
      (refine HB.out.mono ?_)
      rintro e w1 ⟨rfl, hx⟩
      go_wp2_with fail
      go_ret
      exact ⟨rfl, hx⟩
    | false =>
      have he : res = !bg := by rw [HE.out]; simp
      subst he
      go_enter Try.func52, Try.ntmps52
      go_wp2_with fail
      (refine HB.out.mono ?_)
      rintro e w1 ⟨rfl, hx⟩
      go_wp2_with fail
      (refine (HC.out _ hx).mono ?_)
      rintro e w2 ⟨rfl, hx2⟩
      go_wp2_with fail
      go_ret
      exact ⟨rfl, hx.trans hx2⟩
  · have hq : ((n : Int) == (m : Int)) = false := by rw [beq_eq_false_iff_ne]; omega
    have he : res = false := by rw [HE.out]; simp [e]
    subst he
    go_enter Try.func52, Try.ntmps52
    go_wp2_with fail
    go_ret
    exact ⟨rfl, Ext.refl _⟩

set_option maxRecDepth 100000 in
set_option maxHeartbeats 2000000 in
theorem RiseM_any (v : Value) (r : List Int) (m : Nat) (w : World) (hv : IntsV w v r) (hl : r.length ≤ 5) (_ : m < 32) :
    Calls Try.prog 38 #[v, .int .i64 (m : Int)] w fun e w' => e = .returned (.bool (riseS r (tb m))) ∧ Ext w w' := by
  obtain ⟨a, c, rfl, h1, h2, hr⟩ := hv
  have HC : Hid (∀ i, i < r.length → ∃ b off, a = some ⟨b, off, none⟩ ∧ w.cell? ⟨b, off + i, none⟩ = some (.int .i64 (r.getD i 0))) := by
    refine Lib.hid ?_
    intro i hi
    obtain ⟨b, off, he, hc⟩ := hr i hi
    exact ⟨b, off, he, by have := hc.1; simpa [hi] using this⟩
  have HYES : Hid ((∀ a b, a < b → b < r.length → okP r (tb m) a b) → riseS r (tb m) = true) := Lib.hid riseS_iff.2
  have HNO : Hid (∀ a b, a < b → b < r.length → ¬ okP r (tb m) a b → riseS r (tb m) = false) := Lib.hid (fun a b hab hb hn => by
    cases h : riseS r (tb m) with
    | false => rfl
    | true => exact absurd (riseS_iff.1 h a b hab hb) hn)
  have HSH : Hid (∀ p : Nat, ∃ s d : Nat, (m : Int) / 2 ^ p = (s : Int) ∧ (s : Int) % 2 = (d : Int) ∧ (s : Int).tmod 2 = (d : Int) ∧ (d = 0 ∧ tb m p = false ∨ d = 1 ∧ tb m p = true)) := Lib.hid (fun p => by
    refine ⟨m / 2 ^ p, m / 2 ^ p % 2, by simp, by simp, ?_, ?_⟩
    · generalize m / 2 ^ p = s
      rw [Int.tmod_eq_emod_of_nonneg (by omega)]; simp
    · unfold tb
      generalize m / 2 ^ p = s
      rcases Nat.mod_two_eq_zero_or_one s with h | h
      · exact .inl ⟨h, by rw [h]; rfl⟩
      · exact .inr ⟨h, by rw [h]; rfl⟩)
  clear hr
  generalize hres : riseS r (tb m) = res at *
  clear hres
  go_enter Try.func38, Try.ntmps38
  go_wp2_with fail
  go_loopw [5, 6] (fun s5 _ wr => ∃ i : Nat, i ≤ r.length ∧ s5 = .int .i64 i ∧ Hid (pairTo (okP r (tb m)) r.length i (i + 1)) ∧ Ext w wr) (fun s _ _ => r.length - (intOf s).toNat)
  case atStart => exact ⟨0, Nat.zero_le _, rfl, pairTo.start, Ext.refl _⟩
  case round =>
    obtain ⟨i, hi, rfl, HI, hx⟩ := hrel
    obtain ⟨wo, rfl⟩ : ∃ x, x = wr := ⟨_, rfl⟩
    by_cases hlt : i < r.length
    · have hw0 : IntKind.i64.wrap ((i : Int) + 1) = (i : Int) + 1 := IntWalk.i64_in _ (by omega)
      go_wp2_with fail
      clear hw0
      go_loopw [6] (fun s6 wr => ∃ k : Nat, i < k ∧ k ≤ r.length ∧ s6 = .int .i64 k ∧ Hid (pairTo (okP r (tb m)) r.length i k) ∧ Ext w wr) (fun s _ => r.length - (intOf s).toNat)
      case atStart => exact ⟨i + 1, by omega, by omega, by go_num, HI.out, hx⟩
      case round =>
        obtain ⟨k, hik, hk, rfl, HK, hxz⟩ := hrel
        obtain ⟨wz, rfl⟩ : ∃ x, x = wr := ⟨_, rfl⟩
        by_cases hkt : k < r.length
        · obtain ⟨b, off, rfl, q1⟩ := HC.out i hlt
          obtain ⟨_, _, e1, q2⟩ := HC.out k hkt
          cases e1
          replace q1 := hxz.keep q1
          replace q2 := hxz.keep q2
          have HN : Hid (okP r (tb m) i k → pairTo (okP r (tb m)) r.length i (k + 1)) := fun h => HK.out.next h
          have HF : Hid (¬ okP r (tb m) i k → res = false) := fun h => HNO.out i k hik hkt h
          obtain ⟨s1, d1, t1, t2, t3, t4⟩ := HSH.out i
          obtain ⟨s2, d2, y1, y2, y3, y4⟩ := HSH.out k
          have hi0 : (0 : Int) ≤ (i : Int) := by omega
          have hi6 : (i : Int) ≤ 64 := by omega
          have hk0 : (0 : Int) ≤ (k : Int) := by omega
          have hk6 : (k : Int) ≤ 64 := by omega
          have hdw1 : IntKind.i64.wrap (d1 : Int) = (d1 : Int) := IntWalk.i64_in _ (by omega)
          have hdw2 : IntKind.i64.wrap (d2 : Int) = (d2 : Int) := IntWalk.i64_in _ (by omega)
          have HOK : Hid (okP r (tb m) i k ↔ (tb m i = false → tb m k = false → r.getD i 0 ≤ r.getD k 0)) := Lib.hid Iff.rfl
          generalize r.getD i 0 = x at *
          generalize r.getD k 0 = y at *
          rcases t4 with ⟨rfl, t4⟩ | ⟨rfl, t4⟩
          · rcases y4 with ⟨rfl, y4⟩ | ⟨rfl, y4⟩
            · by_cases hyx : y < x
              · have hres := HF.out (fun h => by have := HOK.out.1 h t4 y4; omega)
                have hd : decide (y < x) = true := decide_eq_true hyx
                clear HF HN HOK HNO HYES
                subst hres
                go_wp2_with fail
                go_quiet (fail)
                go_wp2_with fail
                go_ret
                exact ⟨rfl, by (repeat (first | exact Ext.refl _ | (with_reducible assumption) | (with_reducible refine Ext.drew ?_) | (with_reducible refine Ext.alloc ?_ _) | (with_reducible refine Ext.drewN ?_ _) | (with_reducible refine Ext.setCell ?_ (by omega) _) | (with_reducible refine Ext.trans ?_ (by with_reducible assumption))))⟩
              · have HN' := Lib.hid (HN.out (HOK.out.2 (fun _ _ => by omega)))
                have hd : decide (y < x) = false := decide_eq_false hyx
                clear HF HN HOK
                go_wp2_with fail
                go_quiet (fail)
                go_wp2_with fail
                go_roundw
                case rel => exact ⟨k + 1, by omega, by omega, by go_num, HN', by (repeat (first | exact Ext.refl _ | (with_reducible assumption) | (with_reducible refine Ext.drew ?_) | (with_reducible refine Ext.alloc ?_ _) | (with_reducible refine Ext.drewN ?_ _) | (with_reducible refine Ext.setCell ?_ (by omega) _) | (with_reducible refine Ext.trans ?_ (by with_reducible assumption))))⟩
                case measure => simp [intOf]; omega
            · have HN' := Lib.hid (HN.out (HOK.out.2 (fun _ h => by rw [y4] at h; cases h)))
              clear HF HN HOK
              go_wp2_with fail
              go_quiet (fail)
              go_wp2_with fail
              go_roundw
              case rel => exact ⟨k + 1, by omega, by omega, by go_num, HN', by (repeat (first | exact Ext.refl _ | (with_reducible assumption) | (with_reducible refine Ext.drew ?_) | (with_reducible refine Ext.alloc ?_ _) | (with_reducible refine Ext.drewN ?_ _) | (with_reducible refine Ext.setCell ?_ (by omega) _) | (with_reducible refine Ext.trans ?_ (by with_reducible assumption))))⟩
              case measure => simp [intOf]; omega
          · have HN' := Lib.hid (HN.out (HOK.out.2 (fun h _ => by rw [t4] at h; cases h)))
            clear HF HN HOK
            go_wp2_with fail
            go_quiet (fail)
            go_wp2_with fail
            go_roundw
            case rel => exact ⟨k + 1, by omega, by omega, by go_num, HN', by (repeat (first | exact Ext.refl _ | (with_reducible assumption) | (with_reducible refine Ext.drew ?_) | (with_reducible refine Ext.alloc ?_ _) | (with_reducible refine Ext.drewN ?_ _) | (with_reducible refine Ext.setCell ?_ (by omega) _) | (with_reducible refine Ext.trans ?_ (by with_reducible assumption))))⟩
            case measure => simp [intOf]; omega
        · have ek : k = r.length := by omega
          subst ek
          go_wp2_with fail
          go_roundw
          case rel => exact ⟨i + 1, by omega, by go_num, HK.out.turn, hxz⟩
          case measure => simp [intOf]; omega
    · have HA := HYES.out (HI.out.all (by omega))
      clear HYES HNO HI
      subst HA
      go_wp2_with fail
      go_ret
      exact ⟨rfl, hx⟩
end Go.Proofs.Ytfjecbfcnngacaa
