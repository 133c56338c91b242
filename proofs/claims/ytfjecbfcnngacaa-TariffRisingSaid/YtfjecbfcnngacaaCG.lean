/- Contracts: the flags of a list, whether the other rates rise, a list cloned, the minimum of two numbers. -/
import Derived.Test.YtfjecbfcnngacaaAF
import Derived.Test.YtfjecbfcnngacaaBJ
namespace Go.Hs
open Go.RowKit
def ints (xs : List Nat) : List Int := xs.map (fun n : Nat => (n : Int))
def mk (xs : List Nat) (j : Nat) : Bool := xs.contains j
def flV (f : Nat → Bool) : Value := .agg #[.bool (f 0), .bool (f 1), .bool (f 2), .bool (f 3), .bool (f 4)]
/-- The last rate that counts, if they rise up to here. -/
def lastK (r : List Int) (f : Nat → Bool) : Nat → Option Int
  | 0 => some 0
  | k + 1 => match lastK r f k with
    | none => none
    | some a => if f k then some a else if r.getD k 0 < a then none else some (r.getD k 0)
def keptB (r : List Int) (f : Nat → Bool) : Bool := (lastK r f r.length).isSome
theorem lastK_skip {r : List Int} {f : Nat → Bool} {k : Nat} {a : Int} (h : lastK r f k = some a) (hf : f k = true) : lastK r f (k + 1) = some a := by
  simp [lastK, h, hf]
theorem lastK_low {r : List Int} {f : Nat → Bool} {k : Nat} {a : Int} (h : lastK r f k = some a) (hf : f k = false) (hr : r.getD k 0 < a) : lastK r f (k + 1) = none := by
  unfold lastK
  rw [h]
  simp only [hf, Bool.false_eq_true, if_false, if_pos hr]
theorem lastK_next {r : List Int} {f : Nat → Bool} {k : Nat} {a : Int} (h : lastK r f k = some a) (hf : f k = false) (hr : a ≤ r.getD k 0) : lastK r f (k + 1) = some (r.getD k 0) := by
  have e : ¬ r.getD k 0 < a := by omega
  unfold lastK
  rw [h]
  simp only [hf, Bool.false_eq_true, if_false, if_neg e]
theorem lastK_none {r : List Int} {f : Nat → Bool} {k n : Nat} (h : lastK r f k = none) (hk : k ≤ n) : lastK r f n = none := by
  induction n with
  | zero => have : k = 0 := by omega
            subst this; exact h
  | succ n ih =>
    by_cases e : k = n + 1
    · subst e; exact h
    · have := ih (by omega)
      simp [lastK, this]
theorem mk_take {xs : List Nat} {k : Nat} (h : k < xs.length) (j : Nat) : mk (xs.take (k + 1)) j = (mk (xs.take k) j || (xs[k] == j)) := by
  unfold mk
  rw [List.take_succ_eq_append_getElem h]
  simp only [List.contains_eq_any_beq, List.any_append, List.any_cons, List.any_nil, Bool.or_false]
  congr 1
  rw [Bool.eq_iff_iff]; simp only [beq_iff_eq]; exact eq_comm
/-- Five cells that hold flags. -/
def FlagsAt (w : World) (b : Nat) (f : Nat → Bool) : Prop := ∀ j, j < 5 → w.cell? ⟨b, j, none⟩ = some (.bool (f j))
theorem FlagsAt.ext {w w' : World} {b : Nat} {f : Nat → Bool} (h : FlagsAt w b f) (hx : Ext w w') : FlagsAt w' b f := fun j hj => hx.keep (h j hj)
theorem FlagsAt.set {w : World} {b k : Nat} {f g : Nat → Bool} {u : Bool} (h : FlagsAt w b f) (hg : ∀ j, j < 5 → g j = if j = k then u else f j) : FlagsAt (w.setCell ⟨b, k, none⟩ (.bool u)) b g := fun j hj => by
  rw [hg j hj]
  by_cases e : j = k
  · subst e
    rw [if_pos rfl]; exact World.cell?_setCell_same _ _ _ (h j hj)
  · rw [if_neg e, World.cell?_setCell_other (h := by intro h'; cases h'; exact e rfl)]; exact h j hj
end Go.Hs
namespace Go.Proofs.Ytfjecbfcnngacaa
open Go.RowKit Go.Hs
attribute [local irreducible] World.setCell World.alloc

set_option maxRecDepth 100000 in
set_option maxHeartbeats 2000000 in
theorem marked_any (v : Value) (xs : List Nat) (w : World) (hv : IntsV w v (ints xs)) (h5 : ∀ x, x ∈ xs → x < 5) :
    Calls Try.prog 76 #[v] w fun e w' => e = .returned (flV (mk xs)) ∧ Ext w w' := by
  obtain ⟨a, c, rfl, h1, h2, hr⟩ := hv
  have hlen : (ints xs).length = xs.length := by simp [ints]
  rw [hlen] at h1 h2 ⊢
  have HR : Hid (∀ i (hi : i < xs.length), ∃ b off, a = some ⟨b, off, none⟩ ∧ w.cell? ⟨b, off + i, none⟩ = some (.int .i64 (xs[i] : Int))) := Lib.hid (fun i hi => by
    obtain ⟨b, off, e, hc⟩ := hr i (by rw [hlen]; exact hi)
    exact ⟨b, off, e, by have := hc.1; simpa [ints] using this⟩)
  clear hr hlen
  go_enter Try.func76, Try.ntmps76
  go_wp2_with fail
  go_loopw [4, 7] (fun _ s7 wr => ∃ k : Nat, k ≤ xs.length ∧ s7 = .int .i64 k ∧ Hid (FlagsAt wr w.heap.size (mk (xs.take k)) ∧ ∀ o, wr.frozen? ⟨w.heap.size, o, none⟩ = false) ∧ Ext w wr) (fun _ s _ => xs.length - (intOf s).toNat)
  case atStart => exact ⟨0, Nat.zero_le _, rfl, ⟨fun j hj => by rcases j with _ | _ | _ | _ | _ | j <;> first | (simp [mk]; done) | omega, fun o => by simp⟩, (Ext.refl _).alloc _⟩
  case round =>
    obtain ⟨k, hk, rfl, HF, hx⟩ := hrel
    obtain ⟨wo, rfl⟩ : ∃ x, x = wr := ⟨_, rfl⟩
    by_cases hlt : k < xs.length
    · obtain ⟨b, off, rfl, q⟩ := HR.out k hlt
      replace q := hx.keep q
      have hx5 := h5 _ (List.getElem_mem hlt)
      have hq := HF.out.1 xs[k] hx5
      have fz := HF.out.2 xs[k]
      have HN : Hid (FlagsAt (wo.setCell ⟨w.heap.size, xs[k], none⟩ (.bool true)) w.heap.size (mk (xs.take (k + 1))) ∧ ∀ o, (wo.setCell ⟨w.heap.size, xs[k], none⟩ (.bool true)).frozen? ⟨w.heap.size, o, none⟩ = false) := ⟨HF.out.1.set (fun j _ => by
        rw [mk_take hlt]
        by_cases e : j = xs[k]
        · rw [if_pos e]; simp [e]
        · rw [if_neg e]
          have : (xs[k] == j) = false := by rw [beq_eq_false_iff_ne]; exact fun h => e h.symm
          rw [this, Bool.or_false]), fun o => by rw [World.frozen?_setCell]; exact HF.out.2 o⟩
      generalize xs[k] = x at *
      have hx0 : (0 : Int) ≤ (x : Int) := by omega
      have hx1 : (x : Int) < 5 := by omega
      go_wp2_with fail
      go_roundw
      case rel => exact ⟨k + 1, by omega, by go_num, HN, hx.setCell (Nat.le_refl _) _⟩
      case measure => simp [intOf]; omega
    · have ek : k = xs.length := by omega
      subst ek
      have hf := HF.out.1
      rw [List.take_length] at hf
      have q0 := hf 0 (by decide)
      have q1 := hf 1 (by decide)
      have q2 := hf 2 (by decide)
      have q3 := hf 3 (by decide)
      have q4 := hf 4 (by decide)
      have f0 := HF.out.2 0
      have f1 := HF.out.2 1
      have f2 := HF.out.2 2
      have f3 := HF.out.2 3
      have f4 := HF.out.2 4
      go_wp2_with fail
      have X : Ext w (((((wo.setCell ⟨w.heap.size, 0, none⟩ (.bool (mk xs 0))).setCell ⟨w.heap.size, 1, none⟩ (.bool (mk xs 1))).setCell ⟨w.heap.size, 2, none⟩ (.bool (mk xs 2))).setCell ⟨w.heap.size, 3, none⟩ (.bool (mk xs 3))).setCell ⟨w.heap.size, 4, none⟩ (.bool (mk xs 4))) :=
        ((((hx.setCell (Nat.le_refl _) _).setCell (Nat.le_refl _) _).setCell (Nat.le_refl _) _).setCell (Nat.le_refl _) _).setCell (Nat.le_refl _) _
      have p0 : (((((wo.setCell ⟨w.heap.size, 0, none⟩ (.bool (mk xs 0))).setCell ⟨w.heap.size, 1, none⟩ (.bool (mk xs 1))).setCell ⟨w.heap.size, 2, none⟩ (.bool (mk xs 2))).setCell ⟨w.heap.size, 3, none⟩ (.bool (mk xs 3))).setCell ⟨w.heap.size, 4, none⟩ (.bool (mk xs 4))).cell? ⟨w.heap.size, 0, none⟩ = some (.bool (mk xs 0)) := set_off (by decide) (set_off (by decide) (set_off (by decide) (set_off (by decide) (set_same q0))))
      have p1 : (((((wo.setCell ⟨w.heap.size, 0, none⟩ (.bool (mk xs 0))).setCell ⟨w.heap.size, 1, none⟩ (.bool (mk xs 1))).setCell ⟨w.heap.size, 2, none⟩ (.bool (mk xs 2))).setCell ⟨w.heap.size, 3, none⟩ (.bool (mk xs 3))).setCell ⟨w.heap.size, 4, none⟩ (.bool (mk xs 4))).cell? ⟨w.heap.size, 1, none⟩ = some (.bool (mk xs 1)) := set_off (by decide) (set_off (by decide) (set_off (by decide) (set_same (set_off (by decide) q1))))
      have p2 : (((((wo.setCell ⟨w.heap.size, 0, none⟩ (.bool (mk xs 0))).setCell ⟨w.heap.size, 1, none⟩ (.bool (mk xs 1))).setCell ⟨w.heap.size, 2, none⟩ (.bool (mk xs 2))).setCell ⟨w.heap.size, 3, none⟩ (.bool (mk xs 3))).setCell ⟨w.heap.size, 4, none⟩ (.bool (mk xs 4))).cell? ⟨w.heap.size, 2, none⟩ = some (.bool (mk xs 2)) := set_off (by decide) (set_off (by decide) (set_same (set_off (by decide) (set_off (by decide) q2))))
      have p3 : (((((wo.setCell ⟨w.heap.size, 0, none⟩ (.bool (mk xs 0))).setCell ⟨w.heap.size, 1, none⟩ (.bool (mk xs 1))).setCell ⟨w.heap.size, 2, none⟩ (.bool (mk xs 2))).setCell ⟨w.heap.size, 3, none⟩ (.bool (mk xs 3))).setCell ⟨w.heap.size, 4, none⟩ (.bool (mk xs 4))).cell? ⟨w.heap.size, 3, none⟩ = some (.bool (mk xs 3)) := set_off (by decide) (set_same (set_off (by decide) (set_off (by decide) (set_off (by decide) q3))))
      have p4 : (((((wo.setCell ⟨w.heap.size, 0, none⟩ (.bool (mk xs 0))).setCell ⟨w.heap.size, 1, none⟩ (.bool (mk xs 1))).setCell ⟨w.heap.size, 2, none⟩ (.bool (mk xs 2))).setCell ⟨w.heap.size, 3, none⟩ (.bool (mk xs 3))).setCell ⟨w.heap.size, 4, none⟩ (.bool (mk xs 4))).cell? ⟨w.heap.size, 4, none⟩ = some (.bool (mk xs 4)) := set_same (set_off (by decide) (set_off (by decide) (set_off (by decide) (set_off (by decide) q4))))
      exact bodyPost_ret (v := flV (mk xs)) (by simp [results, Try.results76, go_sem, flV, p0, p1, p2, p3, p4]) rfl ⟨rfl, X⟩

set_option maxRecDepth 100000 in
set_option maxHeartbeats 2000000 in
theorem kept_any (v : Value) (r : List Int) (f : Nat → Bool) (w : World) (hv : IntsV w v r) (h5 : r.length ≤ 5) :
    Calls Try.prog 77 #[v, flV f] w fun e w' => e = .returned (.bool (keptB r f)) ∧ Ext w w' := by
  obtain ⟨a, c, rfl, h1, h2, hr⟩ := hv
  have HR : Hid (∀ i, i < r.length → ∃ b off, a = some ⟨b, off, none⟩ ∧ w.cell? ⟨b, off + i, none⟩ = some (.int .i64 (r.getD i 0))) := Lib.hid (fun i hi => by
    obtain ⟨b, off, e, hc⟩ := hr i hi
    exact ⟨b, off, e, by have := hc.1; simpa [hi] using this⟩)
  have HK : Hid (∀ k, k ≤ r.length → lastK r f k = none → keptB r f = false) := Lib.hid (fun k hk h => by unfold keptB; rw [lastK_none h hk]; rfl)
  have HE : Hid (∀ x, lastK r f r.length = some x → keptB r f = true) := Lib.hid (fun x h => by unfold keptB; rw [h]; rfl)
  clear hr
  generalize keptB r f = res at *
  unfold flV
  have hq : FlagsAt (w.alloc (.cells #[.bool (f 0), .bool (f 1), .bool (f 2), .bool (f 3), .bool (f 4)] 117)) w.heap.size f := fun j hj => by rcases j with _ | _ | _ | _ | _ | j <;> first | (simp; done) | omega
  have HQ := Lib.hid hq
  clear hq
  go_enter Try.func77, Try.ntmps77
  go_wp2_with fail
  obtain ⟨W, hW⟩ : ∃ x, x = (w.alloc (.cells #[.bool (f 0), .bool (f 1), .bool (f 2), .bool (f 3), .bool (f 4)] 117)) := ⟨_, rfl⟩
  have X : Ext w W := by rw [hW]; exact (Ext.refl _).alloc _
  rw [← hW] at HQ ⊢
  clear hW
  go_loopw [5, 6, 7, 10] (fun s5 _ _ s10 wr => ∃ (k : Nat) (m : Int), k ≤ r.length ∧ s10 = .int .i64 k ∧ s5 = .int .i64 m ∧ Hid (lastK r f k = some m) ∧ wr = W) (fun _ _ _ s _ => r.length - (intOf s).toNat)
  case atStart => exact ⟨0, 0, Nat.zero_le _, rfl, rfl, Lib.hid rfl, rfl⟩
  case round =>
    obtain ⟨k, m, hk, rfl, rfl, HL, hww⟩ := hrel
    subst hww
    obtain ⟨wo, rfl⟩ : ∃ x, x = wr := ⟨_, rfl⟩
    by_cases hlt : k < r.length
    · obtain ⟨b, off, rfl, q⟩ := HR.out k hlt
      replace q := X.keep q
      have hq := HQ.out k (by omega)
      have hk0 : (0 : Int) ≤ (k : Int) := by omega
      have hk5 : (k : Int) < 5 := by omega
      cases hfk : f k with
      | true =>
        rw [hfk] at hq
        have HN := Lib.hid (lastK_skip HL.out hfk)
        clear hfk
        go_wp2_with fail
        go_roundw
        case rel => exact ⟨k + 1, m, by omega, by go_num, rfl, HN, trivial⟩
        case measure => simp [intOf]; omega
      | false =>
        rw [hfk] at hq
        by_cases hlow : r.getD k 0 < m
        · have e := HK.out (k + 1) (by omega) (lastK_low HL.out hfk hlow)
          have hd : decide (r.getD k 0 < m) = true := decide_eq_true hlow
          clear hfk HL HK HE
          generalize r.getD k 0 = y at *
          subst e
          go_wp2_with fail
          go_ret
          exact ⟨rfl, X⟩
        · have HN := Lib.hid (lastK_next HL.out hfk (by omega))
          have hd : decide (r.getD k 0 < m) = false := decide_eq_false hlow
          clear hfk HL
          generalize r.getD k 0 = y at *
          go_wp2_with fail
          go_roundw
          case rel => exact ⟨k + 1, y, by omega, by go_num, rfl, HN, trivial⟩
          case measure => simp [intOf]; omega
    · have ek : k = r.length := by omega
      subst ek
      have e := HE.out _ HL.out
      clear HE HK HL
      subst e
      go_wp2_with fail
      go_ret
      exact ⟨rfl, X⟩

set_option maxRecDepth 100000 in
theorem clone_any (v : Value) (xs : List Int) (w : World) (hv : IntsV w v xs) (hl : xs.length ≤ 7) :
    Calls Try.prog 78 #[v] w fun e w' => ∃ v', e = .returned v' ∧ w'.ownsRow w.heap.size 3 1 v' xs.length (xs.map (.int .i64)) ∧ Ext w w' := by
  obtain ⟨a, c, rfl, h1, h2, hr⟩ := hv
  obtain ⟨i0, hi, hz0, hz1, hz2⟩ := info_parts info_int
  by_cases h0 : xs = []
  · subst h0
    cases a with
    | none =>
      have hnl : ∀ w, (binOp .eql 59 (.slice none 0 c) (.slice none 0 0)).run Try.prog w = .ok (.bool true) w := fun w => Lib.run_eql_slice_nil w _ _ none 0 c 0 0 Try.underlying59
      go_enter Try.func78, Try.ntmps78
      go_wp2_with fail
      go_ret
      exact ⟨_, rfl, World.ownsRow_nil _ _ _ _, by (repeat (first | exact Ext.refl _ | (with_reducible assumption) | (with_reducible refine Ext.drew ?_) | (with_reducible refine Ext.alloc ?_ _) | (with_reducible refine Ext.drewN ?_ _) | (with_reducible refine Ext.setCell ?_ (by omega) _) | (with_reducible refine Ext.trans ?_ (by with_reducible assumption))))⟩
    | some p =>
      have hnl : ∀ w, (binOp .eql 59 (.slice (some p) 0 c) (.slice none 0 0)).run Try.prog w = .ok (.bool false) w := fun w => Lib.run_eql_slice_nil w _ _ (some p) 0 c 0 0 Try.underlying59
      go_enter Try.func78, Try.ntmps78
      go_wp2_with (at_builtin; refine wpList_append_none rfl _ _ 59 rfl 3 i0 Try.underlying59 hi _ _ _ _ _ (Nat.le_refl _) rfl rfl ?_)
      go_ret
      exact ⟨_, rfl, ⟨rfl, .inr ⟨_, _, _, rfl, Nat.le_refl _, heap_alloc_new _ _, Nat.le_refl _, by simp, rfl, rfl⟩⟩, by (repeat (first | exact Ext.refl _ | (with_reducible assumption) | (with_reducible refine Ext.drew ?_) | (with_reducible refine Ext.alloc ?_ _) | (with_reducible refine Ext.drewN ?_ _) | (with_reducible refine Ext.setCell ?_ (by omega) _) | (with_reducible refine Ext.trans ?_ (by with_reducible assumption))))⟩
  · have hpos : 0 < xs.length := List.length_pos_iff.2 h0
    obtain ⟨b, off, rfl, hc⟩ := hr 0 hpos
    have HR := Lib.hid hr
    have H0 := Lib.hid h0
    clear hr h0 hc
    have hnl : ∀ w, (binOp .eql 59 (.slice (some ⟨b, off, none⟩) xs.length c) (.slice none 0 0)).run Try.prog w = .ok (.bool false) w := fun w => Lib.run_eql_slice_nil w _ _ (some ⟨b, off, none⟩) xs.length c 0 0 Try.underlying59
    go_enter Try.func78, Try.ntmps78
    go_wp2_with (at_builtin; refine wpList_append_own_at _ rfl _ _ 59 rfl w.heap.size 3 i0 (.int .i64 0) 1 8 Try.underlying59 hi hz0 hz1 hz2 rfl (by decide) (.slice (some ⟨w.heap.size, 0, none⟩) 0 0) 0 [] rfl ?own ⟨b, off, none⟩ xs.length c (xs.map (.int .i64)) rfl ?len ?cells ?one ?fit1 ?fit2 ?fit3 ?next)
    case own => exact ⟨rfl, .inr ⟨_, _, _, rfl, Nat.le_refl _, heap_alloc_new _ _, Nat.le_refl _, by simp, rfl, rfl⟩⟩
    case len => simp
    case cells =>
      intro j u hj
      have hj' : j < xs.length := by
        rcases Nat.lt_or_ge j xs.length with h | h
        · exact h
        · rw [List.getElem?_eq_none (by simpa using h)] at hj; cases hj
      have := (Rows.at HR.out j hj').1
      rw [add_none']
      simp [hj'] at hj
      rw [← hj]
      exact ((Ext.refl w).alloc _).keep (by simpa using this)
    case one =>
      intro u hu
      obtain ⟨x, -, rfl⟩ := List.mem_map.1 hu
      rfl
    case fit1 => simp only [maxLen]; omega
    case fit2 => omega
    case fit3 => simp
    case next =>
      intro v' w' hown hgrow hnil hat
      have hx : Ext w w' := grown_ext ((Ext.refl w).alloc _) hgrow (fun g hg => by simp [Value.ownBlock] at hg; omega)
      have OWN : Hid (w'.ownsRow w.heap.size 3 1 v' xs.length (xs.map (.int .i64))) := Lib.hid (by simpa using hown)
      rcases own_open hown with ⟨-, h0⟩ | ⟨g, cap, rfl, hB, hlt, hcap, hcells⟩
      · omega
      · clear hnil hat hown hgrow
        go_wp2_with fail
        go_ret
        exact ⟨_, rfl, OWN.out, hx⟩

set_option maxRecDepth 100000 in
theorem min2_any (n : Nat) (b : Nat) (w : World) (h0 : w.cell? ⟨b, 0, none⟩ = some (.int .i64 n)) (h1 : w.cell? ⟨b, 1, none⟩ = some (.int .i64 5)) (hn : n ≤ 5) (c : Nat) (_ : 2 ≤ c) :
    Calls Try.prog 79 #[.slice (some ⟨b, 0, none⟩) 2 c] w fun e w' => e = .returned (.int .i64 n) ∧ Ext w w' := by
  have hm : ∀ w, (Builtin.min_ #[3, 3] 3 #[.int .i64 (n : Int), .int .i64 5]).run Try.prog w = .ok (.int .i64 (n : Int)) w := fun w => by
    have h : (n : Int) = if (5 : Int) < (n : Int) then (5 : Int) else (n : Int) := by rw [if_neg (by omega)]
    conv => rhs; rw [h]
    rfl
  have hs : Calls Try.prog 93 #[.slice (some ⟨b, 0, none⟩) 2 c] w fun e w' => e = .returned (.int .i64 n) ∧ Ext w w' := by
    go_enter Try.func93, Try.ntmps93
    go_wp2_with fail
    go_loopw [3, 4] (fun s3 s4 wr => (s4 = .int .i64 1 ∨ s4 = .int .i64 2) ∧ s3 = .int .i64 n ∧ wr = w) (fun _ s _ => 2 - (intOf s).toNat)
    case atStart => exact ⟨.inl rfl, rfl, rfl⟩
    case round =>
      obtain ⟨h4, rfl, hww⟩ := hrel
      subst hww
      rcases h4 with rfl | rfl
      · go_wp2_with fail
        go_roundw
        case rel => exact ⟨.inr rfl, rfl, trivial⟩
        case measure => simp [intOf]
      · go_wp2_with fail
        go_ret
        exact ⟨rfl, Ext.refl _⟩
  have HS := Lib.hid hs
  clear hs h0 h1 hm
  go_enter Try.func79, Try.ntmps79
  go_wp2_with fail
  (refine HS.out.mono ?_)
  rintro e w1 ⟨rfl, hx⟩
  go_wp2_with fail
  go_ret
  exact ⟨rfl, hx⟩
end Go.Proofs.Ytfjecbfcnngacaa
