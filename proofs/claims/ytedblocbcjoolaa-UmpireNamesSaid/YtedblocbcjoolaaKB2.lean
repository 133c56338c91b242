/- Bundled: what the texts Z B C D E F G H T N P say one after another. -/
import Derived.Test.YtedblocbcjoolaaKB1
import Derived.Deep.RegionWith
import Derived.Deep.RegionHeld3
import Derived.Deep.DeepCutAuto
import Derived.RangeFuncRecord
/- What goes through a list with a function, of package tariff: slices.IndexFunc, slices.ContainsFunc, all. Printed by gen_all.py. -/
namespace Go.Proofs.Ytedblocbcjoolaa
open Go.RowKit Go.Hs

set_option maxHeartbeats 400000 in
theorem idx_int (cap : Value) (a : Option Addr) (c : Nat) (us : List Value) (p : Nat → Bool) (I : Nat → World → Prop) (w : World)
    (hlen : us.length ≤ 140737488351232)
    (hrow : ∀ i w, I i w → Cells1 w a us)
    (hcall : ∀ i (h : i < us.length) w1, I i w1 → Calls Try.prog 90 #[us[i], cap] w1 fun e w2 => e = .returned (.bool (p i)) ∧ I (i + 1) w2)
    (h0 : I 0 w) :
    Calls Try.prog 98 #[.slice a us.length c, .func (.func 90) #[] #[cap]] w
      (IdxPost us.length p I) := by
  go_enter Try.func98, Try.ntmps98
  go_wp2
  go_loopw [4, 5, 8] (fun r j i wr => ∃ k : Nat, k ≤ us.length ∧ i = .int .i64 k ∧ (∀ m, m < k → p m = false) ∧ I k wr) (fun _ _ i _ => us.length - (intOf i).toNat)
  case atStart => exact ⟨0, Nat.zero_le _, rfl, fun m hm => absurd hm (Nat.not_lt_zero _), h0⟩
  case round =>
    obtain ⟨k, hk, rfl, hp, hI⟩ := hrel
    by_cases hlt : k < us.length
    · obtain ⟨b, off, rfl, hc⟩ := hrow k wr hI k hlt
      have hcell : wr.cell? ⟨b, off + k, none⟩ = some us[k] := hc
      have hc0 := hcall k hlt wr hI
      cases hpk : p k
      · rw [hpk] at hc0
        clear hcall hrow
        have HP := Lib.hid hpk; clear hpk
        go_wp2_with ((with_reducible refine hc0.mono ?_); rintro e w2 ⟨rfl, hI2⟩)
        go_roundw
        case rel => exact ⟨k + 1, by omega, by go_num, fun m hm => by
          by_cases e : m = k
          · subst e; exact HP.out
          · exact hp m (by omega), hI2⟩
        case measure => simp [intOf]; omega
      · rw [hpk] at hc0
        clear hcall hrow
        have HP := Lib.hid hpk; clear hpk
        have HP0 := Lib.hid hp; clear hp
        go_wp2_with ((with_reducible refine hc0.mono ?_); rintro e w2 ⟨rfl, hI2⟩)
        go_ret
        exact .inl ⟨k, hlt, HP.out, HP0.out, rfl, hI2⟩
    · have hk' : k = us.length := by omega
      subst hk'
      have HP0 := Lib.hid hp; clear hp
      clear hcall hrow
      go_wp2
      go_ret
      exact .inr ⟨HP0.out, rfl, hI⟩

set_option maxHeartbeats 400000 in
theorem cont_int (cap : Value) (a : Option Addr) (c : Nat) (us : List Value) (p : Nat → Bool) (I : Nat → World → Prop) (w : World)
    (hlen : us.length ≤ 140737488351232)
    (hrow : ∀ i w, I i w → Cells1 w a us)
    (hcall : ∀ i (h : i < us.length) w1, I i w1 → Calls Try.prog 90 #[us[i], cap] w1 fun e w2 => e = .returned (.bool (p i)) ∧ I (i + 1) w2)
    (h0 : I 0 w) :
    Calls Try.prog 89 #[.slice a us.length c, .func (.func 90) #[] #[cap]] w
      (ContPost us.length p I) := by
  have hi := idx_int cap a c us p I w hlen hrow hcall h0
  clear hrow hcall h0
  go_enter Try.func89, Try.ntmps89
  go_wp2_with ((with_reducible refine hi.mono ?_); rintro e w2 (⟨i, hi1, hi2, hi3, rfl, hi5⟩ | ⟨hi3, rfl, hi5⟩))
  · have H2 := Lib.hid hi2; clear hi2
    have H3 := Lib.hid hi3; clear hi3
    go_wp2
    go_ret
    exact ContPost.yes hi1 H2.out (by simp) hi5
  · have H3 := Lib.hid hi3; clear hi3
    go_wp2
    go_ret
    exact ContPost.no H3.out (by simp) hi5

set_option maxHeartbeats 400000 in
theorem alls_int (F : FuncId) (hF : FnOK F) (first caps : Array Value) (B : Nat) (x : Value) (r : Bool) (R : World → Prop) (w : World)
    (hcap : w.cell? ⟨B, 0, none⟩ = some (.func (.func F) first caps))
    (hcall : Calls Try.prog F (first.push x ++ caps) w fun e w2 => e = .returned (.bool r) ∧ R w2) :
    Calls Try.prog 90 #[x, .pointer (some ⟨B, 0, none⟩)] w fun e w2 => e = .returned (.bool (!r)) ∧ R w2 := by
  unfold FnOK at hF
  go_enter Try.func90, Try.ntmps90
  go_wp2_with ((with_reducible refine hcall.mono ?_); rintro e w2 ⟨rfl, hR⟩)
  go_ret
  exact ⟨rfl, hR⟩

set_option maxHeartbeats 400000 in
/-- 'all': it goes through the list till the function says no. -/
theorem all_int (F : FuncId) (hF : FnOK F) (first caps : Array Value) (a : Option Addr) (c : Nat) (us : List Value) (q : Nat → Bool) (I : Nat → World → Prop) (w : World)
    (hlen : us.length ≤ 140737488351232)
    (hrow : ∀ i w, I i w → Cells1 w a us)
    (hal : ∀ i w o, I i w → I i (w.alloc o))
    (hcall : ∀ i (h : i < us.length) w1, w.heap.size ≤ w1.heap.size → I i w1 → Calls Try.prog F (first.push us[i] ++ caps) w1 fun e w2 => e = .returned (.bool (q i)) ∧ I (i + 1) w2 ∧ Kept w.heap.size w1 w2)
    (h0 : I 0 w) :
    Calls Try.prog 75 #[.slice a us.length c, .func (.func F) first caps] w
      (AllPost us.length q I) := by
  have hi := cont_int (.pointer (some ⟨w.heap.size, 0, none⟩)) a c us (fun i => !q i) (AllInv w (.func (.func F) first caps) I) (w.alloc (.cells #[.func (.func F) first caps] 91)) hlen
    (fun i w1 h => hrow i w1 h.inv)
    (fun i h w1 hI => alls_int F hF first caps w.heap.size us[i] (q i) _ w1 hI.cell ((hcall i h w1 (Nat.le_trans (Nat.le_of_lt hI.size) (Ext.refl w1).size) hI.inv).mono fun e w3 h3 => ⟨h3.1, AllInv.next hI (Ext.refl w1) h3.2.1 h3.2.2⟩))
    ⟨by simp, by simp, hal _ _ _ h0⟩
  clear hrow hcall h0 hal
  go_enter Try.func75, Try.ntmps75
  go_wp2_with ((with_reducible refine hi.mono ?_); rintro e w2 ⟨i, hi1, hi2, rfl⟩)
  go_ret
  exact ⟨i, hi1, hi2.inv, ret_bool (by simp [allB, anyB, List.not_all_eq_any_not])⟩

/-- The same, where the function only makes the world grow. -/
theorem allx_int (F : FuncId) (hF : FnOK F) (first caps : Array Value) (a : Option Addr) (c : Nat) (us : List Value) (q : Nat → Bool) (w : World)
    (hlen : us.length ≤ 140737488351232) (hrow : Cells1 w a us)
    (hcall : ∀ i (h : i < us.length) w1, Ext w w1 → Calls Try.prog F (first.push us[i] ++ caps) w1 fun e w2 => e = .returned (.bool (q i)) ∧ Ext w1 w2) :
    Calls Try.prog 75 #[.slice a us.length c, .func (.func F) first caps] w fun e w' => e = .returned (.bool (allB us.length q)) ∧ Ext w w' :=
  (all_int F hF first caps a c us q (fun _ w' => Ext w w') w hlen (fun _ _ h => hrow.ext h) (fun _ _ o h => h.alloc o)
    (fun i h w1 _ hI => (hcall i h w1 hI).mono fun _ _ h2 => ⟨h2.1, hI.trans h2.2, h2.2.kept _⟩) (Ext.refl w)).mono fun _ _ ⟨_, _, hI, he⟩ => ⟨he, hI⟩

set_option maxHeartbeats 400000 in
theorem idx_ints (cap : Value) (a : Option Addr) (c : Nat) (us : List Value) (p : Nat → Bool) (I : Nat → World → Prop) (w : World)
    (hlen : us.length ≤ 140737488351232)
    (hrow : ∀ i w, I i w → Cells1 w a us)
    (hcall : ∀ i (h : i < us.length) w1, I i w1 → Calls Try.prog 88 #[us[i], cap] w1 fun e w2 => e = .returned (.bool (p i)) ∧ I (i + 1) w2)
    (h0 : I 0 w) :
    Calls Try.prog 97 #[.slice a us.length c, .func (.func 88) #[] #[cap]] w
      (IdxPost us.length p I) := by
  go_enter Try.func97, Try.ntmps97
  go_wp2
  go_loopw [4, 5, 8] (fun r j i wr => ∃ k : Nat, k ≤ us.length ∧ i = .int .i64 k ∧ (∀ m, m < k → p m = false) ∧ I k wr) (fun _ _ i _ => us.length - (intOf i).toNat)
  case atStart => exact ⟨0, Nat.zero_le _, rfl, fun m hm => absurd hm (Nat.not_lt_zero _), h0⟩
  case round =>
    obtain ⟨k, hk, rfl, hp, hI⟩ := hrel
    by_cases hlt : k < us.length
    · obtain ⟨b, off, rfl, hc⟩ := hrow k wr hI k hlt
      have hcell : wr.cell? ⟨b, off + k, none⟩ = some us[k] := hc
      have hc0 := hcall k hlt wr hI
      cases hpk : p k
      · rw [hpk] at hc0
        clear hcall hrow
        have HP := Lib.hid hpk; clear hpk
        go_wp2_with ((with_reducible refine hc0.mono ?_); rintro e w2 ⟨rfl, hI2⟩)
        go_roundw
        case rel => exact ⟨k + 1, by omega, by go_num, fun m hm => by
          by_cases e : m = k
          · subst e; exact HP.out
          · exact hp m (by omega), hI2⟩
        case measure => simp [intOf]; omega
      · rw [hpk] at hc0
        clear hcall hrow
        have HP := Lib.hid hpk; clear hpk
        have HP0 := Lib.hid hp; clear hp
        go_wp2_with ((with_reducible refine hc0.mono ?_); rintro e w2 ⟨rfl, hI2⟩)
        go_ret
        exact .inl ⟨k, hlt, HP.out, HP0.out, rfl, hI2⟩
    · have hk' : k = us.length := by omega
      subst hk'
      have HP0 := Lib.hid hp; clear hp
      clear hcall hrow
      go_wp2
      go_ret
      exact .inr ⟨HP0.out, rfl, hI⟩

set_option maxHeartbeats 400000 in
theorem cont_ints (cap : Value) (a : Option Addr) (c : Nat) (us : List Value) (p : Nat → Bool) (I : Nat → World → Prop) (w : World)
    (hlen : us.length ≤ 140737488351232)
    (hrow : ∀ i w, I i w → Cells1 w a us)
    (hcall : ∀ i (h : i < us.length) w1, I i w1 → Calls Try.prog 88 #[us[i], cap] w1 fun e w2 => e = .returned (.bool (p i)) ∧ I (i + 1) w2)
    (h0 : I 0 w) :
    Calls Try.prog 87 #[.slice a us.length c, .func (.func 88) #[] #[cap]] w
      (ContPost us.length p I) := by
  have hi := idx_ints cap a c us p I w hlen hrow hcall h0
  clear hrow hcall h0
  go_enter Try.func87, Try.ntmps87
  go_wp2_with ((with_reducible refine hi.mono ?_); rintro e w2 (⟨i, hi1, hi2, hi3, rfl, hi5⟩ | ⟨hi3, rfl, hi5⟩))
  · have H2 := Lib.hid hi2; clear hi2
    have H3 := Lib.hid hi3; clear hi3
    go_wp2
    go_ret
    exact ContPost.yes hi1 H2.out (by simp) hi5
  · have H3 := Lib.hid hi3; clear hi3
    go_wp2
    go_ret
    exact ContPost.no H3.out (by simp) hi5

set_option maxHeartbeats 400000 in
theorem alls_ints (F : FuncId) (hF : FnOK F) (first caps : Array Value) (B : Nat) (x : Value) (r : Bool) (R : World → Prop) (w : World)
    (hcap : w.cell? ⟨B, 0, none⟩ = some (.func (.func F) first caps))
    (hcall : Calls Try.prog F (first.push x ++ caps) w fun e w2 => e = .returned (.bool r) ∧ R w2) :
    Calls Try.prog 88 #[x, .pointer (some ⟨B, 0, none⟩)] w fun e w2 => e = .returned (.bool (!r)) ∧ R w2 := by
  unfold FnOK at hF
  go_enter Try.func88, Try.ntmps88
  go_wp2_with ((with_reducible refine hcall.mono ?_); rintro e w2 ⟨rfl, hR⟩)
  go_ret
  exact ⟨rfl, hR⟩

set_option maxHeartbeats 400000 in
/-- 'all': it goes through the list till the function says no. -/
theorem all_ints (F : FuncId) (hF : FnOK F) (first caps : Array Value) (a : Option Addr) (c : Nat) (us : List Value) (q : Nat → Bool) (I : Nat → World → Prop) (w : World)
    (hlen : us.length ≤ 140737488351232)
    (hrow : ∀ i w, I i w → Cells1 w a us)
    (hal : ∀ i w o, I i w → I i (w.alloc o))
    (hcall : ∀ i (h : i < us.length) w1, w.heap.size ≤ w1.heap.size → I i w1 → Calls Try.prog F (first.push us[i] ++ caps) w1 fun e w2 => e = .returned (.bool (q i)) ∧ I (i + 1) w2 ∧ Kept w.heap.size w1 w2)
    (h0 : I 0 w) :
    Calls Try.prog 73 #[.slice a us.length c, .func (.func F) first caps] w
      (AllPost us.length q I) := by
  have hi := cont_ints (.pointer (some ⟨w.heap.size, 0, none⟩)) a c us (fun i => !q i) (AllInv w (.func (.func F) first caps) I) (w.alloc (.cells #[.func (.func F) first caps] 141)) hlen
    (fun i w1 h => hrow i w1 h.inv)
    (fun i h w1 hI => alls_ints F hF first caps w.heap.size us[i] (q i) _ w1 hI.cell ((hcall i h w1 (Nat.le_trans (Nat.le_of_lt hI.size) (Ext.refl w1).size) hI.inv).mono fun e w3 h3 => ⟨h3.1, AllInv.next hI (Ext.refl w1) h3.2.1 h3.2.2⟩))
    ⟨by simp, by simp, hal _ _ _ h0⟩
  clear hrow hcall h0 hal
  go_enter Try.func73, Try.ntmps73
  go_wp2_with ((with_reducible refine hi.mono ?_); rintro e w2 ⟨i, hi1, hi2, rfl⟩)
  go_ret
  exact ⟨i, hi1, hi2.inv, ret_bool (by simp [allB, anyB, List.not_all_eq_any_not])⟩

/-- The same, where the function only makes the world grow. -/
theorem allx_ints (F : FuncId) (hF : FnOK F) (first caps : Array Value) (a : Option Addr) (c : Nat) (us : List Value) (q : Nat → Bool) (w : World)
    (hlen : us.length ≤ 140737488351232) (hrow : Cells1 w a us)
    (hcall : ∀ i (h : i < us.length) w1, Ext w w1 → Calls Try.prog F (first.push us[i] ++ caps) w1 fun e w2 => e = .returned (.bool (q i)) ∧ Ext w1 w2) :
    Calls Try.prog 73 #[.slice a us.length c, .func (.func F) first caps] w fun e w' => e = .returned (.bool (allB us.length q)) ∧ Ext w w' :=
  (all_ints F hF first caps a c us q (fun _ w' => Ext w w') w hlen (fun _ _ h => hrow.ext h) (fun _ _ o h => h.alloc o)
    (fun i h w1 _ hI => (hcall i h w1 hI).mono fun _ _ h2 => ⟨h2.1, hI.trans h2.2, h2.2.kept _⟩) (Ext.refl w)).mono fun _ _ ⟨_, _, hI, he⟩ => ⟨he, hI⟩

set_option maxHeartbeats 400000 in
theorem idx_ints2 (cap : Value) (a : Option Addr) (c : Nat) (us : List Value) (p : Nat → Bool) (I : Nat → World → Prop) (w : World)
    (hlen : us.length ≤ 140737488351232)
    (hrow : ∀ i w, I i w → Cells1 w a us)
    (hcall : ∀ i (h : i < us.length) w1, I i w1 → Calls Try.prog 79 #[us[i], cap] w1 fun e w2 => e = .returned (.bool (p i)) ∧ I (i + 1) w2)
    (h0 : I 0 w) :
    Calls Try.prog 91 #[.slice a us.length c, .func (.func 79) #[] #[cap]] w
      (IdxPost us.length p I) := by
  go_enter Try.func91, Try.ntmps91
  go_wp2
  go_loopw [4, 5, 8] (fun r j i wr => ∃ k : Nat, k ≤ us.length ∧ i = .int .i64 k ∧ (∀ m, m < k → p m = false) ∧ I k wr) (fun _ _ i _ => us.length - (intOf i).toNat)
  case atStart => exact ⟨0, Nat.zero_le _, rfl, fun m hm => absurd hm (Nat.not_lt_zero _), h0⟩
  case round =>
    obtain ⟨k, hk, rfl, hp, hI⟩ := hrel
    by_cases hlt : k < us.length
    · obtain ⟨b, off, rfl, hc⟩ := hrow k wr hI k hlt
      have hcell : wr.cell? ⟨b, off + k, none⟩ = some us[k] := hc
      have hc0 := hcall k hlt wr hI
      cases hpk : p k
      · rw [hpk] at hc0
        clear hcall hrow
        have HP := Lib.hid hpk; clear hpk
        go_wp2_with ((with_reducible refine hc0.mono ?_); rintro e w2 ⟨rfl, hI2⟩)
        go_roundw
        case rel => exact ⟨k + 1, by omega, by go_num, fun m hm => by
          by_cases e : m = k
          · subst e; exact HP.out
          · exact hp m (by omega), hI2⟩
        case measure => simp [intOf]; omega
      · rw [hpk] at hc0
        clear hcall hrow
        have HP := Lib.hid hpk; clear hpk
        have HP0 := Lib.hid hp; clear hp
        go_wp2_with ((with_reducible refine hc0.mono ?_); rintro e w2 ⟨rfl, hI2⟩)
        go_ret
        exact .inl ⟨k, hlt, HP.out, HP0.out, rfl, hI2⟩
    · have hk' : k = us.length := by omega
      subst hk'
      have HP0 := Lib.hid hp; clear hp
      clear hcall hrow
      go_wp2
      go_ret
      exact .inr ⟨HP0.out, rfl, hI⟩

set_option maxHeartbeats 400000 in
theorem cont_ints2 (cap : Value) (a : Option Addr) (c : Nat) (us : List Value) (p : Nat → Bool) (I : Nat → World → Prop) (w : World)
    (hlen : us.length ≤ 140737488351232)
    (hrow : ∀ i w, I i w → Cells1 w a us)
    (hcall : ∀ i (h : i < us.length) w1, I i w1 → Calls Try.prog 79 #[us[i], cap] w1 fun e w2 => e = .returned (.bool (p i)) ∧ I (i + 1) w2)
    (h0 : I 0 w) :
    Calls Try.prog 78 #[.slice a us.length c, .func (.func 79) #[] #[cap]] w
      (ContPost us.length p I) := by
  have hi := idx_ints2 cap a c us p I w hlen hrow hcall h0
  clear hrow hcall h0
  go_enter Try.func78, Try.ntmps78
  go_wp2_with ((with_reducible refine hi.mono ?_); rintro e w2 (⟨i, hi1, hi2, hi3, rfl, hi5⟩ | ⟨hi3, rfl, hi5⟩))
  · have H2 := Lib.hid hi2; clear hi2
    have H3 := Lib.hid hi3; clear hi3
    go_wp2
    go_ret
    exact ContPost.yes hi1 H2.out (by simp) hi5
  · have H3 := Lib.hid hi3; clear hi3
    go_wp2
    go_ret
    exact ContPost.no H3.out (by simp) hi5

set_option maxHeartbeats 400000 in
theorem alls_ints2 (F : FuncId) (hF : FnOK F) (first caps : Array Value) (B : Nat) (x : Value) (r : Bool) (R : World → Prop) (w : World)
    (hcap : w.cell? ⟨B, 0, none⟩ = some (.func (.func F) first caps))
    (hcall : Calls Try.prog F (first.push x ++ caps) w fun e w2 => e = .returned (.bool r) ∧ R w2) :
    Calls Try.prog 79 #[x, .pointer (some ⟨B, 0, none⟩)] w fun e w2 => e = .returned (.bool (!r)) ∧ R w2 := by
  unfold FnOK at hF
  go_enter Try.func79, Try.ntmps79
  go_wp2_with ((with_reducible refine hcall.mono ?_); rintro e w2 ⟨rfl, hR⟩)
  go_ret
  exact ⟨rfl, hR⟩

set_option maxHeartbeats 400000 in
/-- 'all': it goes through the list till the function says no. -/
theorem all_ints2 (F : FuncId) (hF : FnOK F) (first caps : Array Value) (a : Option Addr) (c : Nat) (us : List Value) (q : Nat → Bool) (I : Nat → World → Prop) (w : World)
    (hlen : us.length ≤ 140737488351232)
    (hrow : ∀ i w, I i w → Cells1 w a us)
    (hal : ∀ i w o, I i w → I i (w.alloc o))
    (hcall : ∀ i (h : i < us.length) w1, w.heap.size ≤ w1.heap.size → I i w1 → Calls Try.prog F (first.push us[i] ++ caps) w1 fun e w2 => e = .returned (.bool (q i)) ∧ I (i + 1) w2 ∧ Kept w.heap.size w1 w2)
    (h0 : I 0 w) :
    Calls Try.prog 66 #[.slice a us.length c, .func (.func F) first caps] w
      (AllPost us.length q I) := by
  have hi := cont_ints2 (.pointer (some ⟨w.heap.size, 0, none⟩)) a c us (fun i => !q i) (AllInv w (.func (.func F) first caps) I) (w.alloc (.cells #[.func (.func F) first caps] 122)) hlen
    (fun i w1 h => hrow i w1 h.inv)
    (fun i h w1 hI => alls_ints2 F hF first caps w.heap.size us[i] (q i) _ w1 hI.cell ((hcall i h w1 (Nat.le_trans (Nat.le_of_lt hI.size) (Ext.refl w1).size) hI.inv).mono fun e w3 h3 => ⟨h3.1, AllInv.next hI (Ext.refl w1) h3.2.1 h3.2.2⟩))
    ⟨by simp, by simp, hal _ _ _ h0⟩
  clear hrow hcall h0 hal
  go_enter Try.func66, Try.ntmps66
  go_wp2_with ((with_reducible refine hi.mono ?_); rintro e w2 ⟨i, hi1, hi2, rfl⟩)
  go_ret
  exact ⟨i, hi1, hi2.inv, ret_bool (by simp [allB, anyB, List.not_all_eq_any_not])⟩

/-- The same, where the function only makes the world grow. -/
theorem allx_ints2 (F : FuncId) (hF : FnOK F) (first caps : Array Value) (a : Option Addr) (c : Nat) (us : List Value) (q : Nat → Bool) (w : World)
    (hlen : us.length ≤ 140737488351232) (hrow : Cells1 w a us)
    (hcall : ∀ i (h : i < us.length) w1, Ext w w1 → Calls Try.prog F (first.push us[i] ++ caps) w1 fun e w2 => e = .returned (.bool (q i)) ∧ Ext w1 w2) :
    Calls Try.prog 66 #[.slice a us.length c, .func (.func F) first caps] w fun e w' => e = .returned (.bool (allB us.length q)) ∧ Ext w w' :=
  (all_ints2 F hF first caps a c us q (fun _ w' => Ext w w') w hlen (fun _ _ h => hrow.ext h) (fun _ _ o h => h.alloc o)
    (fun i h w1 _ hI => (hcall i h w1 hI).mono fun _ _ h2 => ⟨h2.1, hI.trans h2.2, h2.2.kept _⟩) (Ext.refl w)).mono fun _ _ ⟨_, _, hI, he⟩ => ⟨he, hI⟩

set_option maxHeartbeats 400000 in
theorem idx_tar (cap : Value) (a : Option Addr) (c : Nat) (us : List V6) (p : Nat → Bool) (I : Nat → World → Prop) (w : World)
    (hlen : us.length ≤ 140737488351232)
    (hrow : ∀ i w, I i w → Cells6 w a us)
    (hcall : ∀ i (h : i < us.length) w1, I i w1 → Calls Try.prog 62 #[us[i].val, cap] w1 fun e w2 => e = .returned (.bool (p i)) ∧ I (i + 1) w2)
    (h0 : I 0 w) :
    Calls Try.prog 72 #[.slice a us.length c, .func (.func 62) #[] #[cap]] w
      (IdxPost us.length p I) := by
  go_enter Try.func72, Try.ntmps72
  go_wp2
  go_loopw [4, 5, 8] (fun r j i wr => ∃ k : Nat, k ≤ us.length ∧ i = .int .i64 k ∧ (∀ m, m < k → p m = false) ∧ I k wr) (fun _ _ i _ => us.length - (intOf i).toNat)
  case atStart => exact ⟨0, Nat.zero_le _, rfl, fun m hm => absurd hm (Nat.not_lt_zero _), h0⟩
  case round =>
    obtain ⟨k, hk, rfl, hp, hI⟩ := hrel
    by_cases hlt : k < us.length
    · obtain ⟨b, off, rfl, g0, g1, g2, g3, g4, g5⟩ := hrow k wr hI k hlt
      have hc0 := hcall k hlt wr hI
      cases hpk : p k
      · rw [hpk] at hc0
        clear hcall hrow
        have HP := Lib.hid hpk; clear hpk
        go_wp2_with ((with_reducible refine hc0.mono ?_); rintro e w2 ⟨rfl, hI2⟩)
        go_roundw
        case rel => exact ⟨k + 1, by omega, by go_num, fun m hm => by
          by_cases e : m = k
          · subst e; exact HP.out
          · exact hp m (by omega), hI2⟩
        case measure => simp [intOf]; omega
      · rw [hpk] at hc0
        clear hcall hrow
        have HP := Lib.hid hpk; clear hpk
        have HP0 := Lib.hid hp; clear hp
        go_wp2_with ((with_reducible refine hc0.mono ?_); rintro e w2 ⟨rfl, hI2⟩)
        go_ret
        exact .inl ⟨k, hlt, HP.out, HP0.out, rfl, hI2⟩
    · have hk' : k = us.length := by omega
      subst hk'
      have HP0 := Lib.hid hp; clear hp
      clear hcall hrow
      go_wp2
      go_ret
      exact .inr ⟨HP0.out, rfl, hI⟩

set_option maxHeartbeats 400000 in
theorem cont_tar (cap : Value) (a : Option Addr) (c : Nat) (us : List V6) (p : Nat → Bool) (I : Nat → World → Prop) (w : World)
    (hlen : us.length ≤ 140737488351232)
    (hrow : ∀ i w, I i w → Cells6 w a us)
    (hcall : ∀ i (h : i < us.length) w1, I i w1 → Calls Try.prog 62 #[us[i].val, cap] w1 fun e w2 => e = .returned (.bool (p i)) ∧ I (i + 1) w2)
    (h0 : I 0 w) :
    Calls Try.prog 61 #[.slice a us.length c, .func (.func 62) #[] #[cap]] w
      (ContPost us.length p I) := by
  have hi := idx_tar cap a c us p I w hlen hrow hcall h0
  clear hrow hcall h0
  go_enter Try.func61, Try.ntmps61
  go_wp2_with ((with_reducible refine hi.mono ?_); rintro e w2 (⟨i, hi1, hi2, hi3, rfl, hi5⟩ | ⟨hi3, rfl, hi5⟩))
  · have H2 := Lib.hid hi2; clear hi2
    have H3 := Lib.hid hi3; clear hi3
    go_wp2
    go_ret
    exact ContPost.yes hi1 H2.out (by simp) hi5
  · have H3 := Lib.hid hi3; clear hi3
    go_wp2
    go_ret
    exact ContPost.no H3.out (by simp) hi5

set_option maxHeartbeats 400000 in
theorem alls_tar (F : FuncId) (hF : FnOK F) (first caps : Array Value) (B : Nat) (x : V6) (r : Bool) (R : World → Prop) (w : World)
    (hcap : w.cell? ⟨B, 0, none⟩ = some (.func (.func F) first caps))
    (hcall : Calls Try.prog F (first.push x.val ++ caps) (w.alloc (.cells #[x.c0, x.c1, x.c2, x.c3, x.c4, x.c5] 50)) fun e w2 => e = .returned (.bool r) ∧ R w2) :
    Calls Try.prog 62 #[x.val, .pointer (some ⟨B, 0, none⟩)] w fun e w2 => e = .returned (.bool (!r)) ∧ R w2 := by
  unfold FnOK at hF
  have hB : B < w.heap.size := lt_of_cell hcap
  go_enter Try.func62, Try.ntmps62
  go_wp2_with ((with_reducible refine hcall.mono ?_); rintro e w2 ⟨rfl, hR⟩)
  go_ret
  exact ⟨rfl, hR⟩

set_option maxHeartbeats 400000 in
/-- 'all': it goes through the list till the function says no. -/
theorem all_tar (F : FuncId) (hF : FnOK F) (first caps : Array Value) (a : Option Addr) (c : Nat) (us : List V6) (q : Nat → Bool) (I : Nat → World → Prop) (w : World)
    (hlen : us.length ≤ 140737488351232)
    (hrow : ∀ i w, I i w → Cells6 w a us)
    (hal : ∀ i w o, I i w → I i (w.alloc o))
    (hcall : ∀ i (h : i < us.length) w1, w.heap.size ≤ w1.heap.size → I i w1 → Calls Try.prog F (first.push us[i].val ++ caps) w1 fun e w2 => e = .returned (.bool (q i)) ∧ I (i + 1) w2 ∧ Kept w.heap.size w1 w2)
    (h0 : I 0 w) :
    Calls Try.prog 47 #[.slice a us.length c, .func (.func F) first caps] w
      (AllPost us.length q I) := by
  have hi := cont_tar (.pointer (some ⟨w.heap.size, 0, none⟩)) a c us (fun i => !q i) (AllInv w (.func (.func F) first caps) I) (w.alloc (.cells #[.func (.func F) first caps] 111)) hlen
    (fun i w1 h => hrow i w1 h.inv)
    (fun i h w1 hI => alls_tar F hF first caps w.heap.size us[i] (q i) _ w1 hI.cell ((hcall i h (w1.alloc (.cells #[us[i].c0, us[i].c1, us[i].c2, us[i].c3, us[i].c4, us[i].c5] 50)) (Nat.le_trans (Nat.le_of_lt hI.size) ((Ext.refl w1).alloc (.cells #[us[i].c0, us[i].c1, us[i].c2, us[i].c3, us[i].c4, us[i].c5] 50)).size) (hal _ _ _ hI.inv)).mono fun e w3 h3 => ⟨h3.1, AllInv.next hI ((Ext.refl w1).alloc (.cells #[us[i].c0, us[i].c1, us[i].c2, us[i].c3, us[i].c4, us[i].c5] 50)) h3.2.1 h3.2.2⟩))
    ⟨by simp, by simp, hal _ _ _ h0⟩
  clear hrow hcall h0 hal
  go_enter Try.func47, Try.ntmps47
  go_wp2_with ((with_reducible refine hi.mono ?_); rintro e w2 ⟨i, hi1, hi2, rfl⟩)
  go_ret
  exact ⟨i, hi1, hi2.inv, ret_bool (by simp [allB, anyB, List.not_all_eq_any_not])⟩

/-- The same, where the function only makes the world grow. -/
theorem allx_tar (F : FuncId) (hF : FnOK F) (first caps : Array Value) (a : Option Addr) (c : Nat) (us : List V6) (q : Nat → Bool) (w : World)
    (hlen : us.length ≤ 140737488351232) (hrow : Cells6 w a us)
    (hcall : ∀ i (h : i < us.length) w1, Ext w w1 → Calls Try.prog F (first.push us[i].val ++ caps) w1 fun e w2 => e = .returned (.bool (q i)) ∧ Ext w1 w2) :
    Calls Try.prog 47 #[.slice a us.length c, .func (.func F) first caps] w fun e w' => e = .returned (.bool (allB us.length q)) ∧ Ext w w' :=
  (all_tar F hF first caps a c us q (fun _ w' => Ext w w') w hlen (fun _ _ h => hrow.ext h) (fun _ _ o h => h.alloc o)
    (fun i h w1 _ hI => (hcall i h w1 hI).mono fun _ _ h2 => ⟨h2.1, hI.trans h2.2, h2.2.kept _⟩) (Ext.refl w)).mono fun _ _ ⟨_, _, hI, he⟩ => ⟨he, hI⟩

set_option maxHeartbeats 400000 in
theorem idx_cla (cap : Value) (a : Option Addr) (c : Nat) (us : List V6) (p : Nat → Bool) (I : Nat → World → Prop) (w : World)
    (hlen : us.length ≤ 140737488351232)
    (hrow : ∀ i w, I i w → Cells6 w a us)
    (hcall : ∀ i (h : i < us.length) w1, I i w1 → Calls Try.prog 83 #[us[i].val, cap] w1 fun e w2 => e = .returned (.bool (p i)) ∧ I (i + 1) w2)
    (h0 : I 0 w) :
    Calls Try.prog 92 #[.slice a us.length c, .func (.func 83) #[] #[cap]] w
      (IdxPost us.length p I) := by
  go_enter Try.func92, Try.ntmps92
  go_wp2
  go_loopw [4, 5, 8] (fun r j i wr => ∃ k : Nat, k ≤ us.length ∧ i = .int .i64 k ∧ (∀ m, m < k → p m = false) ∧ I k wr) (fun _ _ i _ => us.length - (intOf i).toNat)
  case atStart => exact ⟨0, Nat.zero_le _, rfl, fun m hm => absurd hm (Nat.not_lt_zero _), h0⟩
  case round =>
    obtain ⟨k, hk, rfl, hp, hI⟩ := hrel
    by_cases hlt : k < us.length
    · obtain ⟨b, off, rfl, g0, g1, g2, g3, g4, g5⟩ := hrow k wr hI k hlt
      have hc0 := hcall k hlt wr hI
      cases hpk : p k
      · rw [hpk] at hc0
        clear hcall hrow
        have HP := Lib.hid hpk; clear hpk
        go_wp2_with ((with_reducible refine hc0.mono ?_); rintro e w2 ⟨rfl, hI2⟩)
        go_roundw
        case rel => exact ⟨k + 1, by omega, by go_num, fun m hm => by
          by_cases e : m = k
          · subst e; exact HP.out
          · exact hp m (by omega), hI2⟩
        case measure => simp [intOf]; omega
      · rw [hpk] at hc0
        clear hcall hrow
        have HP := Lib.hid hpk; clear hpk
        have HP0 := Lib.hid hp; clear hp
        go_wp2_with ((with_reducible refine hc0.mono ?_); rintro e w2 ⟨rfl, hI2⟩)
        go_ret
        exact .inl ⟨k, hlt, HP.out, HP0.out, rfl, hI2⟩
    · have hk' : k = us.length := by omega
      subst hk'
      have HP0 := Lib.hid hp; clear hp
      clear hcall hrow
      go_wp2
      go_ret
      exact .inr ⟨HP0.out, rfl, hI⟩

set_option maxHeartbeats 400000 in
theorem cont_cla (cap : Value) (a : Option Addr) (c : Nat) (us : List V6) (p : Nat → Bool) (I : Nat → World → Prop) (w : World)
    (hlen : us.length ≤ 140737488351232)
    (hrow : ∀ i w, I i w → Cells6 w a us)
    (hcall : ∀ i (h : i < us.length) w1, I i w1 → Calls Try.prog 83 #[us[i].val, cap] w1 fun e w2 => e = .returned (.bool (p i)) ∧ I (i + 1) w2)
    (h0 : I 0 w) :
    Calls Try.prog 82 #[.slice a us.length c, .func (.func 83) #[] #[cap]] w
      (ContPost us.length p I) := by
  have hi := idx_cla cap a c us p I w hlen hrow hcall h0
  clear hrow hcall h0
  go_enter Try.func82, Try.ntmps82
  go_wp2_with ((with_reducible refine hi.mono ?_); rintro e w2 (⟨i, hi1, hi2, hi3, rfl, hi5⟩ | ⟨hi3, rfl, hi5⟩))
  · have H2 := Lib.hid hi2; clear hi2
    have H3 := Lib.hid hi3; clear hi3
    go_wp2
    go_ret
    exact ContPost.yes hi1 H2.out (by simp) hi5
  · have H3 := Lib.hid hi3; clear hi3
    go_wp2
    go_ret
    exact ContPost.no H3.out (by simp) hi5

set_option maxHeartbeats 400000 in
theorem alls_cla (F : FuncId) (hF : FnOK F) (first caps : Array Value) (B : Nat) (x : V6) (r : Bool) (R : World → Prop) (w : World)
    (hcap : w.cell? ⟨B, 0, none⟩ = some (.func (.func F) first caps))
    (hcall : Calls Try.prog F (first.push x.val ++ caps) (w.alloc (.cells #[x.c0, x.c1, x.c2, x.c3, x.c4, x.c5] 95)) fun e w2 => e = .returned (.bool r) ∧ R w2) :
    Calls Try.prog 83 #[x.val, .pointer (some ⟨B, 0, none⟩)] w fun e w2 => e = .returned (.bool (!r)) ∧ R w2 := by
  unfold FnOK at hF
  have hB : B < w.heap.size := lt_of_cell hcap
  go_enter Try.func83, Try.ntmps83
  go_wp2_with ((with_reducible refine hcall.mono ?_); rintro e w2 ⟨rfl, hR⟩)
  go_ret
  exact ⟨rfl, hR⟩

set_option maxHeartbeats 400000 in
/-- 'all': it goes through the list till the function says no. -/
theorem all_cla (F : FuncId) (hF : FnOK F) (first caps : Array Value) (a : Option Addr) (c : Nat) (us : List V6) (q : Nat → Bool) (I : Nat → World → Prop) (w : World)
    (hlen : us.length ≤ 140737488351232)
    (hrow : ∀ i w, I i w → Cells6 w a us)
    (hal : ∀ i w o, I i w → I i (w.alloc o))
    (hcall : ∀ i (h : i < us.length) w1, w.heap.size ≤ w1.heap.size → I i w1 → Calls Try.prog F (first.push us[i].val ++ caps) w1 fun e w2 => e = .returned (.bool (q i)) ∧ I (i + 1) w2 ∧ Kept w.heap.size w1 w2)
    (h0 : I 0 w) :
    Calls Try.prog 70 #[.slice a us.length c, .func (.func F) first caps] w
      (AllPost us.length q I) := by
  have hi := cont_cla (.pointer (some ⟨w.heap.size, 0, none⟩)) a c us (fun i => !q i) (AllInv w (.func (.func F) first caps) I) (w.alloc (.cells #[.func (.func F) first caps] 128)) hlen
    (fun i w1 h => hrow i w1 h.inv)
    (fun i h w1 hI => alls_cla F hF first caps w.heap.size us[i] (q i) _ w1 hI.cell ((hcall i h (w1.alloc (.cells #[us[i].c0, us[i].c1, us[i].c2, us[i].c3, us[i].c4, us[i].c5] 95)) (Nat.le_trans (Nat.le_of_lt hI.size) ((Ext.refl w1).alloc (.cells #[us[i].c0, us[i].c1, us[i].c2, us[i].c3, us[i].c4, us[i].c5] 95)).size) (hal _ _ _ hI.inv)).mono fun e w3 h3 => ⟨h3.1, AllInv.next hI ((Ext.refl w1).alloc (.cells #[us[i].c0, us[i].c1, us[i].c2, us[i].c3, us[i].c4, us[i].c5] 95)) h3.2.1 h3.2.2⟩))
    ⟨by simp, by simp, hal _ _ _ h0⟩
  clear hrow hcall h0 hal
  go_enter Try.func70, Try.ntmps70
  go_wp2_with ((with_reducible refine hi.mono ?_); rintro e w2 ⟨i, hi1, hi2, rfl⟩)
  go_ret
  exact ⟨i, hi1, hi2.inv, ret_bool (by simp [allB, anyB, List.not_all_eq_any_not])⟩

/-- The same, where the function only makes the world grow. -/
theorem allx_cla (F : FuncId) (hF : FnOK F) (first caps : Array Value) (a : Option Addr) (c : Nat) (us : List V6) (q : Nat → Bool) (w : World)
    (hlen : us.length ≤ 140737488351232) (hrow : Cells6 w a us)
    (hcall : ∀ i (h : i < us.length) w1, Ext w w1 → Calls Try.prog F (first.push us[i].val ++ caps) w1 fun e w2 => e = .returned (.bool (q i)) ∧ Ext w1 w2) :
    Calls Try.prog 70 #[.slice a us.length c, .func (.func F) first caps] w fun e w' => e = .returned (.bool (allB us.length q)) ∧ Ext w w' :=
  (all_cla F hF first caps a c us q (fun _ w' => Ext w w') w hlen (fun _ _ h => hrow.ext h) (fun _ _ o h => h.alloc o)
    (fun i h w1 _ hI => (hcall i h w1 hI).mono fun _ _ h2 => ⟨h2.1, hI.trans h2.2, h2.2.kept _⟩) (Ext.refl w)).mono fun _ _ ⟨_, _, hI, he⟩ => ⟨he, hI⟩

end Go.Proofs.Ytedblocbcjoolaa

/- Contracts: the small functions of package tariff. -/
namespace Go.Proofs.Ytedblocbcjoolaa
open Go.RowKit Go.Hs

set_option maxHeartbeats 400000 in
theorem has_any (n lo hi : Int) (w : World) :
    Calls Try.prog 57 #[.agg #[.int .i64 lo, .int .i64 hi], .int .i64 n] w fun e w' => e = .returned (.bool (inR n lo hi)) ∧ Ext w w' := by
  go_enter Try.func57, Try.ntmps57
  go_wp2_with (go_at_call 64; refine (within_any _ _ _ _).mono ?_; rintro e w' ⟨rfl, rfl⟩)
  go_ret
  exact ⟨rfl, (Ext.refl _).alloc _⟩

def ofB (lo hi most : Int) : Bool := decide (0 ≤ lo) && decide (lo ≤ hi) && decide (hi ≤ most)
set_option maxHeartbeats 400000 in
theorem of_any (lo hi most : Int) (w : World) :
    Calls Try.prog 81 #[.agg #[.int .i64 lo, .int .i64 hi], .int .i64 most] w fun e w' => e = .returned (.bool (ofB lo hi most)) ∧ Ext w w' := by
  go_enter Try.func81, Try.ntmps81
  go_wp2
  all_goals
    go_ret
    refine ⟨ret_bool ?_, (Ext.refl _).alloc _⟩
    rw [Bool.eq_iff_iff]
    simp [ofB]
    try omega

set_option maxHeartbeats 400000 in
theorem few_any (u : V6) (t : Tar) (w : World) (h : TarU w u t) :
    Calls Try.prog 48 #[u.val] w fun e w' => e = .returned (.bool (fewB t)) ∧ Ext w w' := by
  obtain ⟨u0, u1, u2, u3, u4, u5⟩ := u
  obtain ⟨h0, h1, h2, g1, g2, ⟨a3, k3, q3, h3, h3', h33⟩, ⟨a4, k4, q4, h4, h4', h44⟩, ⟨a5, k5, q5, h5, h5', h55⟩⟩ := h
  subst h0 h1 h2 q3 q4 q5
  clear h33 h44 h55
  go_enter Try.func48, Try.ntmps48
  go_wp2
  all_goals
    go_ret
    refine ⟨ret_bool ?_, (Ext.refl _).alloc _⟩
    rw [Bool.eq_iff_iff]
    simp [fewB]
    try omega

set_option maxHeartbeats 400000 in
theorem rising1_any (xs : List Int) (most : Int) (i : Nat) (hi : i < xs.length) (bl bm : Nat) (w : World)
    (hl : w.cell? ⟨bl, 0, none⟩ = some (.int .i64 (prevOf xs i))) (hf : w.frozen? ⟨bl, 0, none⟩ = false) (hm : w.cell? ⟨bm, 0, none⟩ = some (.int .i64 most)) :
    Calls Try.prog 77 #[.int .i64 xs[i], .pointer (some ⟨bl, 0, none⟩), .pointer (some ⟨bm, 0, none⟩)] w fun e w' =>
      e = .returned (.bool (inR xs[i] (wrap64 (prevOf xs i + 1)) most)) ∧ w' = w.setCell ⟨bl, 0, none⟩ (.int .i64 xs[i]) := by
  generalize prevOf xs i = pv at *
  go_enter Try.func77, Try.ntmps77
  go_wp2_with (go_at_call 64; refine (within_any _ _ _ _).mono ?_; rintro e w' ⟨rfl, rfl⟩)
  go_ret
  exact ⟨rfl, rfl⟩

theorem fn_rising1 : FnOK 77 := fun args w => by simp [go_sem]
theorem fn_crop11 : FnOK 76 := fun args w => by simp [go_sem]
theorem fn_crop1 : FnOK 74 := fun args w => by simp [go_sem]
theorem fn_crop : FnOK 63 := fun args w => by simp [go_sem]
theorem fn_few : FnOK 48 := fun args w => by simp [go_sem]
theorem fn_valid : FnOK 49 := fun args w => by simp [go_sem]
theorem fn_claim : FnOK 69 := fun args w => by simp [go_sem]

set_option maxHeartbeats 400000 in
theorem rising_any (v : Value) (xs : List Int) (most : Int) (w : World) (hv : IntsV w v xs) :
    Calls Try.prog 65 #[v, .int .i64 most] w fun e w' => e = .returned (.bool (risesB xs most)) ∧ Ext w w' := by
  obtain ⟨a, c, rfl, h1, h2, hc, -⟩ := hv.cells
  by_cases hlen : 0 < xs.length
  · obtain ⟨b, off, rfl, hc0⟩ := hc 0 (by simpa using hlen)
    simp at hc0
    have hb := lt_of_cell (a := ⟨b, off, none⟩) hc0
    simp at hb
    have hm : (xs.map (Value.int .i64)).length = xs.length := by simp
    have hall := all_int 77 fn_rising1 #[] #[.pointer (some ⟨w.heap.size + 1, 0, none⟩), .pointer (some ⟨w.heap.size, 0, none⟩)] (some ⟨b, off, none⟩) c (xs.map (Value.int .i64))
      (fun i => inR (xs.getD i 0) (wrap64 (prevOf xs i + 1)) most)
      (fun i w' => Ext w w' ∧ w'.cell? ⟨w.heap.size + 1, 0, none⟩ = some (.int .i64 (prevOf xs i)) ∧ w'.frozen? ⟨w.heap.size + 1, 0, none⟩ = false ∧ w'.cell? ⟨w.heap.size, 0, none⟩ = some (.int .i64 most))
      ((w.alloc (.cells #[.int .i64 most] 3)).alloc (.cells #[.int .i64 (-1)] 3)) (by omega)
      (fun i w' h => hc.ext h.1)
      (fun i w' o h => ⟨h.1.alloc o, by
        have h2 := lt_of_cell (a := ⟨w.heap.size + 1, 0, none⟩) h.2.1
        simp at h2
        exact ⟨(Ext.refl w').alloc o |>.keep h.2.1, by rw [((Ext.refl w').alloc o).frozen h2]; exact h.2.2.1, (Ext.refl w').alloc o |>.keep h.2.2.2⟩⟩)
      (fun i hi w1 hs h => by
        have hi' : i < xs.length := by simpa using hi
        have e1 : (xs.map (Value.int .i64))[i] = .int .i64 xs[i] := by simp
        rw [e1]
        refine (rising1_any xs most i hi' (w.heap.size + 1) w.heap.size w1 h.2.1 h.2.2.1 h.2.2.2).mono ?_
        rintro e w2 ⟨rfl, rfl⟩
        refine ⟨ret_bool (by simp [hi']), ?_, ?_⟩
        · refine ⟨Below.setCell (p := ⟨w.heap.size + 1, 0, none⟩) h.1 (by simp) _, ?_, ?_, ?_⟩
          · rw [World.cell?_setCell_same (h := h.2.1)]; simp [prevOf, hi']
          · rw [World.frozen?_setCell]; exact h.2.2.1
          · rw [World.cell?_setCell_other (h := by simp)]; exact h.2.2.2
        · exact ⟨by simp, fun k hk _ => Below.heap_setCell w1 _ _ k (by simp at hk ⊢; omega)⟩)
      ⟨((Ext.refl w).alloc _).alloc _, by simp [prevOf], by simp, by simp⟩
    rw [hm] at hall
    have hz := hc0
    clear hc hv
    by_cases h0 : xs[0] = 0
    · have hd : (xs[0] == 0) = true := by simp [h0]
      clear h0
      go_enter Try.func65, Try.ntmps65
      go_wp2_with ((with_reducible refine hall.mono ?_); rintro e w2 ⟨i, hi, hI, rfl⟩)
      go_ret
      refine ⟨ret_bool ?_, hI.1⟩
      simp [risesB, hlen, hd]
    · have hd : (xs[0] == 0) = false := by simp [h0]
      clear h0
      go_enter Try.func65, Try.ntmps65
      go_wp2_with fail
      go_ret
      refine ⟨ret_bool ?_, ((Ext.refl w).alloc _).alloc _⟩
      simp [risesB, hlen, hd]
  · have h0 : xs = [] := by
      cases xs with
      | nil => rfl
      | cons x r => simp at hlen
    subst h0
    clear hc hv
    go_enter Try.func65, Try.ntmps65
    go_wp2_with fail
    go_ret
    refine ⟨ret_bool ?_, ((Ext.refl w).alloc _).alloc _⟩
    simp [risesB]
end Go.Proofs.Ytedblocbcjoolaa

/- Contracts: what is valid. -/
namespace Go.Proofs.Ytedblocbcjoolaa
open Go.RowKit Go.Hs

set_option maxHeartbeats 400000 in
theorem crop11_any (n : Int) (w : World) :
    Calls Try.prog 76 #[.int .i64 n] w fun e w' => e = .returned (.bool (inR n 0 100)) ∧ w = w' := by
  go_enter Try.func76, Try.ntmps76
  go_wp2_with (go_at_call 64; refine (within_any _ _ _ _).mono ?_; rintro e w' ⟨rfl, rfl⟩)
  go_ret
  exact ⟨rfl, rfl⟩

set_option maxHeartbeats 400000 in
theorem crop1_any (v : Value) (x : List Int) (bt m : Nat) (a4 : Option Addr) (k4 : Nat) (w : World) (hv : IntsV w v x)
    (hc : w.cell? ⟨bt, 4, none⟩ = some (.slice a4 m k4)) :
    Calls Try.prog 74 #[v, .pointer (some ⟨bt, 0, none⟩)] w fun e w' => e = .returned (.bool (rowB m x)) ∧ Ext w w' := by
  obtain ⟨a, c, rfl, h1, h2, hcs, -⟩ := hv.cells
  have hall := allx_int 76 fn_crop11 #[] #[] a c (x.map (Value.int .i64)) (fun i => inR (x.getD i 0) 0 100) w (by simpa using h2) hcs
    (fun i hi w1 _ => by
      have hi' : i < x.length := by simpa using hi
      have e1 : (x.map (Value.int .i64))[i] = .int .i64 x[i] := by simp
      rw [e1]
      refine (crop11_any x[i] w1).mono ?_
      rintro e w2 ⟨rfl, rfl⟩
      exact ⟨ret_bool (by simp [hi']), Ext.refl _⟩)
  have hl : (x.map (Value.int .i64)).length = x.length := by simp
  rw [hl] at hall
  clear hcs hv hl
  by_cases h : x.length = m
  · have hd : ((x.length : Int) == (m : Int)) = true := by simp [h]
    have H := Lib.hid h; clear h
    go_enter Try.func74, Try.ntmps74
    go_wp2_with ((with_reducible refine hall.mono ?_); rintro e w2 ⟨rfl, hI⟩)
    go_ret
    exact ⟨ret_bool (by simp [rowB, H.out]), hI⟩
  · have hd : ((x.length : Int) == (m : Int)) = false := by simp; omega
    have H := Lib.hid h; clear h
    go_enter Try.func74, Try.ntmps74
    go_wp2_with fail
    go_ret
    exact ⟨ret_bool (by simp [rowB, H.out]), Ext.refl _⟩

set_option maxHeartbeats 400000 in
theorem crop_any (u : V6) (t : Tar) (v : Value) (l : List (List Int)) (w : World) (h : TarU w u t) (hv : Ints2V w v l) :
    Calls Try.prog 63 #[u.val, v] w fun e w' => e = .returned (.bool (cropB t l)) ∧ Ext w w' := by
  obtain ⟨u0, u1, u2, u3, u4, u5⟩ := u
  obtain ⟨h0, h1, h2, g1, g2, ⟨a3, k3, q3, h3, h3', h33⟩, ⟨a4, k4, q4, h4, h4', h44⟩, h5⟩ := h
  subst h0 h1 h2 q3 q4
  clear h33 h44 h5
  obtain ⟨a, c, us, rfl, hl, hc1, hc2, hcs, hus⟩ := hv.cells
  have hall := allx_ints 74 fn_crop1 #[] #[.pointer (some ⟨w.heap.size, 0, none⟩)] a c us (fun i => rowB t.counts.length (l.getD i [])) (w.alloc (.cells #[.int .i64 t.start, .bool t.whole, .int .i64 t.least, .slice a3 t.weeks.length k3, .slice a4 t.counts.length k4, u5] 50)) hc2
    (hcs.ext ((Ext.refl w).alloc _))
    (fun i hi w1 hx => by
      refine (crop1_any us[i] l[i] w.heap.size t.counts.length a4 k4 w1 ((hus i hi (by omega)).ext (((Ext.refl w).alloc _).trans hx)) (hx.keep (by simp))).mono ?_
      rintro e w2 ⟨rfl, hx2⟩
      have : i < l.length := by omega
      exact ⟨ret_bool (by simp [this]), hx2⟩)
  have HL := Lib.hid hl; clear hl
  clear hcs hus hv
  by_cases h : us.length = t.weeks.length
  · have hd : ((us.length : Int) == (t.weeks.length : Int)) = true := by simp [h]
    have H := Lib.hid h; clear h
    go_enter Try.func63, Try.ntmps63
    go_wp2_with ((with_reducible refine hall.mono ?_); rintro e w2 ⟨rfl, hI⟩)
    go_ret
    exact ⟨ret_bool (by simp [cropB, HL.out.symm, H.out]), ((Ext.refl w).alloc _).trans hI⟩
  · have hd : ((us.length : Int) == (t.weeks.length : Int)) = false := by simp; omega
    have H := Lib.hid h; clear h
    go_enter Try.func63, Try.ntmps63
    go_wp2_with fail
    go_ret
    exact ⟨ret_bool (by simp [cropB, HL.out.symm, H.out]), (Ext.refl w).alloc _⟩

end Go.Proofs.Ytedblocbcjoolaa

/- Contracts: a valid tariff. -/
namespace Go.Proofs.Ytedblocbcjoolaa
open Go.RowKit Go.Hs

theorem validB_eq (t : Tar) : validB t = (inR t.start 0 120 && (inR t.least 0 100 && (risesB t.weeks 120 && (decide (1 < t.counts.length) && (risesB t.counts 100 && ((t.counts.getD (t.counts.length - 1) 0 == 100) && (decide (0 < t.rates.length) && allB t.rates.length (fun i => cropB t (t.rates.getD i []))))))))) := by
  simp [validB, Bool.and_assoc]

set_option maxHeartbeats 1000000 in
theorem valid_any (u : V6) (t : Tar) (w : World) (h : TarU w u t) :
    Calls Try.prog 49 #[u.val] w fun e w' => e = .returned (.bool (validB t)) ∧ Ext w w' := by
  have HT := h
  obtain ⟨u0, u1, u2, u3, u4, u5⟩ := u
  obtain ⟨h0, h1, h2, g1, g2, hwk, hct, hrt⟩ := h
  subst h0 h1 h2
  simp only at hwk hct hrt
  have X1 : Ext w (w.alloc (.cells #[.int .i64 t.start, .bool t.whole, .int .i64 t.least, u3, u4, u5] 50)) := (Ext.refl w).alloc _
  have hW := hwk.ext X1
  obtain ⟨a4, k4, rfl, h4, h4', hcc, -⟩ := hct.cells
  obtain ⟨a5, k5, us, rfl, hl5, hc51, hc52, hcs5, hus⟩ := hrt.cells
  have C4 : (w.alloc (.cells #[.int .i64 t.start, .bool t.whole, .int .i64 t.least, u3, .slice a4 t.counts.length k4, .slice a5 us.length k5] 50)).cell? ⟨w.heap.size, 4, none⟩ = some (.slice a4 t.counts.length k4) := by simp
  have C5 : (w.alloc (.cells #[.int .i64 t.start, .bool t.whole, .int .i64 t.least, u3, .slice a4 t.counts.length k4, .slice a5 us.length k5] 50)).cell? ⟨w.heap.size, 5, none⟩ = some (.slice a5 us.length k5) := by simp
  have hall : ∀ w1, Ext (w.alloc (.cells #[.int .i64 t.start, .bool t.whole, .int .i64 t.least, u3, .slice a4 t.counts.length k4, .slice a5 us.length k5] 50)) w1 →
      Calls Try.prog 66 #[.slice a5 us.length k5, .func (.func 63) #[.agg #[.int .i64 t.start, .bool t.whole, .int .i64 t.least, u3, .slice a4 t.counts.length k4, .slice a5 us.length k5]] #[]] w1
        fun e w' => e = .returned (.bool (allB t.rates.length (fun i => cropB t (t.rates.getD i [])))) ∧ Ext w1 w' := by
    intro w1 hx1
    have hx := X1.trans hx1
    have := allx_ints2 63 fn_crop #[.agg #[.int .i64 t.start, .bool t.whole, .int .i64 t.least, u3, .slice a4 t.counts.length k4, .slice a5 us.length k5]] #[] a5 k5 us (fun i => cropB t (t.rates.getD i [])) w1 hc52 (hcs5.ext hx)
      (fun i hi w2 hx2 => by
        have hi' : i < t.rates.length := by omega
        refine (crop_any ⟨_, _, _, _, _, _⟩ t us[i] t.rates[i] w2 (HT.ext (hx.trans hx2)) ((hus i hi hi').ext (hx.trans hx2))).mono ?_
        rintro e w3 ⟨rfl, hx3⟩
        exact ⟨ret_bool (by simp [hi']), hx3⟩)
    rw [hl5] at this ⊢
    exact this
  have HL := Lib.hid hl5; clear hl5
  have HV := Lib.hid (validB_eq t)
  clear HT hus hcs5 hrt
  by_cases hlen : 1 < t.counts.length
  · obtain ⟨b, off, rfl, hcl⟩ := hcc (t.counts.length - 1) (by simp; omega)
    have hcl' : w.cell? ⟨b, off + (t.counts.length - 1), none⟩ = some (.int .i64 (t.counts.getD (t.counts.length - 1) 0)) := by
      have h' : t.counts.length - 1 < t.counts.length := by omega
      rw [hcl]; simp [h']
    clear hcl hcc
    have HCL := Lib.hid hcl'; clear hcl'
    generalize hL : t.counts.getD (t.counts.length - 1) 0 = last at *
    have HL2 := Lib.hid hL; clear hL
    go_enter Try.func49, Try.ntmps49
    go_wp2_with (first
      | (go_at_call 64; refine (within_any _ _ _ _).mono ?_; rintro e w' ⟨rfl, rfl⟩)
      | (go_at_call 65; (with_reducible refine (rising_any _ t.weeks 120 _ hW).mono ?_); rintro e w2 ⟨rfl, hx2⟩; have hC := hct.ext (X1.trans hx2); have C4' := hx2.keep C4)
      | (go_at_call 65; (with_reducible refine (rising_any _ t.counts 100 _ hC).mono ?_); rintro e w3 ⟨rfl, hx3⟩; have C4'' := hx3.keep C4'; have C5'' := hx3.keep (hx2.keep C5); have hcl3 := hx3.keep (hx2.keep (X1.keep HCL.out)))
      | (go_at_call 66; (with_reducible refine (hall _ (hx2.trans hx3)).mono ?_); rintro e w4 ⟨rfl, hx4⟩))
    all_goals
      go_ret
      refine ⟨ret_bool ?_, ?_⟩
      · rw [HV.out, ← HL.out]
        simp [*]
      · first
        | exact X1.trans (hx2.trans (hx3.trans hx4))
        | exact X1.trans (hx2.trans hx3)
        | exact X1.trans hx2
        | exact X1
  · clear hcc hall
    go_enter Try.func49, Try.ntmps49
    go_wp2_with (first
      | (go_at_call 64; refine (within_any _ _ _ _).mono ?_; rintro e w' ⟨rfl, rfl⟩)
      | (go_at_call 65; (with_reducible refine (rising_any _ t.weeks 120 _ hW).mono ?_); rintro e w2 ⟨rfl, hx2⟩; have hC := hct.ext (X1.trans hx2); have C4' := hx2.keep C4))
    all_goals
      go_ret
      refine ⟨ret_bool ?_, ?_⟩
      · rw [HV.out]
        simp [*]
        try omega
      · first
        | exact X1.trans hx2
        | exact X1

end Go.Proofs.Ytedblocbcjoolaa

/- Contracts: the list of tariffs, and tariffs at work. -/
namespace Go.Proofs.Ytedblocbcjoolaa
open Go.RowKit Go.Hs

set_option maxRecDepth 100000 in
set_option maxHeartbeats 400000 in
theorem check_any (v : Value) (l : List Tar) (w : World) (hv : TarsV w v l) :
    Calls Try.prog 28 #[v] w fun e w' => e = .returned (.int .i64 (checkS l)) ∧ Ext w w' := by
  obtain ⟨a, c, us, rfl, hl, hc1, hc2, hcs, hus⟩ := hv.cells
  have hfew : Calls Try.prog 47 #[.slice a us.length c, .func (.func 48) #[] #[]] w fun e w' => e = .returned (.bool (allB us.length (fun i => fewB (l.getD i default)))) ∧ Ext w w' :=
    allx_tar 48 fn_few #[] #[] a c us (fun i => fewB (l.getD i default)) w hc2 hcs
      (fun i hi w2 hx2 => by
        have hi' : i < l.length := by omega
        refine (few_any us[i] l[i] w2 ((hus i hi hi').ext hx2)).mono ?_
        rintro e w3 ⟨rfl, hx3⟩
        exact ⟨ret_bool (by simp [hi']), hx3⟩)
  have hval : ∀ w1, Ext w w1 → Calls Try.prog 47 #[.slice a us.length c, .func (.func 49) #[] #[]] w1 fun e w' => e = .returned (.bool (allB us.length (fun i => validB (l.getD i default)))) ∧ Ext w1 w' := fun w1 hx1 =>
    allx_tar 49 fn_valid #[] #[] a c us (fun i => validB (l.getD i default)) w1 hc2 (hcs.ext hx1)
      (fun i hi w2 hx2 => by
        have hi' : i < l.length := by omega
        refine (valid_any us[i] l[i] w2 ((hus i hi hi').ext (hx1.trans hx2))).mono ?_
        rintro e w3 ⟨rfl, hx3⟩
        exact ⟨ret_bool (by simp [hi']), hx3⟩)
  have HL := Lib.hid hl; clear hl
  generalize hbf : allB us.length (fun i => fewB (l.getD i default)) = bf at *
  have HBF := Lib.hid hbf; clear hbf
  generalize hbv : allB us.length (fun i => validB (l.getD i default)) = bv at *
  have HBV := Lib.hid hbv; clear hbv
  by_cases h3 : 3 < us.length
  · clear hfew hval hcs hus hv
    go_enter Try.func28, Try.ntmps28
    go_wp2_with fail
    go_ret
    exact ⟨ret_int (by rw [checkS, if_pos (Or.inl (HL.out ▸ h3))]), Ext.refl _⟩
  have h3' : us.length ≤ 3 := by omega
  clear h3
  cases bf with
  | false =>
    clear hval hcs hus hv
    go_enter Try.func28, Try.ntmps28
    go_wp2_with (first
      | (go_at_call 47; (with_reducible refine hfew.mono ?_); rintro e w1 ⟨rfl, hx1⟩))
    go_ret
    exact ⟨ret_int (by rw [checkS, if_pos (Or.inr (HL.out ▸ HBF.out))]), hx1⟩
  | true =>
    have N3 : ¬ (3 < l.length ∨ allB l.length (fun i => fewB (l.getD i default)) = false) := by
      rw [← HL.out, HBF.out]; simp; omega
    have H3 := Lib.hid N3; clear N3
    by_cases h0 : us.length = 0
    · have hu : us = [] := List.length_eq_zero_iff.1 h0
      subst hu
      clear hval hcs hus hv
      simp only [List.length_nil] at hfew
      go_enter Try.func28, Try.ntmps28
      go_wp2_with (first
        | (go_at_call 47; (with_reducible refine hfew.mono ?_); rintro e w1 ⟨rfl, hx1⟩))
      go_ret
      exact ⟨ret_int (by rw [checkS, if_neg H3.out, if_pos (Or.inl (by rw [← HL.out]; rfl))]), hx1⟩
    have h0' : 0 < us.length := by omega
    clear h0
    have hne : ¬ us = [] := by rintro rfl; simp at h0'
    have hv' := hv
    obtain ⟨b, off, rfl, hcell0⟩ := hcs 0 h0'
    have hu0 := hus 0 h0' (by rw [← HL.out]; exact h0')
    obtain ⟨z0, z1, z2, g1, g2, -, -, hr0⟩ := hu0
    obtain ⟨a5, k5, q5, h5, h5', -⟩ := hr0
    obtain ⟨c0, c1, c2, c3, c4, c5⟩ := hcell0
    rw [z0] at c0
    rw [q5] at c5
    simp only [Nat.zero_mul, Nat.add_zero] at c0 c1 c2 c3 c4 c5
    have e0 : l[0]'(by rw [← HL.out]; exact h0') = l.getD 0 default := by
      have : 0 < l.length := by rw [← HL.out]; exact h0'
      simp [this]
    rw [e0] at c0 c5 g1
    clear z0 z1 z2 q5 c1 c2 c3 c4 e0
    generalize hs0 : (l.getD 0 default).start = s0 at *
    generalize hr0 : (l.getD 0 default).rates.length = r0 at *
    have HS0 := Lib.hid hs0; clear hs0
    have HR0 := Lib.hid hr0; clear hr0
    by_cases hz : s0 = 0
    · subst hz
      cases bv with
      | false =>
        clear hcs hus hv c5
        go_enter Try.func28, Try.ntmps28
        go_wp2_with (first
          | (go_at_call 47; (with_reducible refine hfew.mono ?_); rintro e w1 ⟨rfl, hx1⟩; have c01 := hx1.keep c0)
          | (go_at_call 47; (with_reducible refine (hval _ hx1).mono ?_); rintro e w2 ⟨rfl, hx2⟩))
        go_ret
        exact ⟨ret_int (by rw [checkS, if_neg H3.out, if_pos (Or.inr (Or.inr (HL.out ▸ HBV.out)))]), hx1.trans hx2⟩
      | true =>
        have N1 : ¬ (l.length = 0 ∨ (l.getD 0 default).start ≠ 0 ∨ allB l.length (fun i => validB (l.getD i default)) = false) := by
          rw [← HL.out, HBV.out, HS0.out]; simp; omega
        have H1 := Lib.hid N1; clear N1
        have hrows := SliceV.rows hv
        clear hus
        have D1 : decide (3 < (us.length : Int)) = false := by simp; omega
        have D2 : ((us.length : Int) == 0) = false := by simp; exact hne
        by_cases hc : c = 1
        · have hu1 : us.length = 1 := by omega
          clear hcs
          subst hc
          have HU1 := Lib.hid hu1
          have hle : us.length ≤ 1 := by omega
          clear hu1
          go_enter Try.func28, Try.ntmps28
          go_wp2_with (first
            | (go_at_call 47; (with_reducible refine hfew.mono ?_); rintro e w1 ⟨rfl, hx1⟩; have c01 := hx1.keep c0)
            | (go_at_call 47; (with_reducible refine (hval _ hx1).mono ?_); rintro e w2 ⟨rfl, hx2⟩))
          refine wp_loop_rounds 1 ?_
          rw [rounds_succ]
          go_wp2_with fail
          go_ret
          have hch : chainB l = true := by
            rw [chainB_link, ← HL.out, HU1.out]; rfl
          refine ⟨ret_int ?_, hx1.trans hx2⟩
          rw [checkS, if_neg H3.out, if_neg H1.out, if_neg (by simp [hch])]
        · go_enter Try.func28, Try.ntmps28
          go_wp2_with (first
            | (go_at_call 47; (with_reducible refine hfew.mono ?_); rintro e w1 ⟨rfl, hx1⟩; have c01 := hx1.keep c0)
            | (go_at_call 47; (with_reducible refine (hval _ hx1).mono ?_); rintro e w2 ⟨rfl, hx2⟩))
          have HX := hx1.trans hx2
          clear hx1 hx2 c01
          go_loopw [3, 4, 33] (fun i3 p4 c33 wr => ∃ k : Nat, k ≤ us.length - 1 ∧ c33 = .int .i64 k ∧ Hid (∀ m, m < k → linkB l m = true) ∧ Ext w wr) (fun _ _ i _ => us.length - (intOf i).toNat)
          case atStart => exact ⟨0, Nat.zero_le _, by simp, fun m hm => absurd hm (Nat.not_lt_zero _), HX⟩
          case round =>
            obtain ⟨k, hk, rfl, hp, hx⟩ := hrel
            by_cases hlt : k < us.length - 1
            · have hk1 : k + 1 < us.length := by omega
              have hkl : k < us.length := by omega
              have hk1' : k + 1 < l.length := by rw [← HL.out]; exact hk1
              have hkl' : k < l.length := by rw [← HL.out]; exact hkl
              obtain ⟨a3, k3, a4, k4, a6, k6, x0, x1, x2, x3, x4, x5, hT1⟩ := (TarAt.ext hx _ _ _ (hrows.at (k + 1) hk1')).open
              obtain ⟨_, _, _, _, _, _, y0, -, -, -, -, -, hT0⟩ := (TarAt.ext hx _ _ _ (hrows.at k hkl')).open
              have h6' := hT1.rates.len_le.2
              have G1 := hT1.f
              have G0 := hT0.f
              have ea : l[k + 1] = l.getD (k + 1) default := by simp [hk1']
              have eb : l[k] = l.getD k default := by simp [hkl']
              have hlk : linkB l k = (decide ((l.getD k default).start < (l.getD (k + 1) default).start) && decide ((l.getD (k + 1) default).rates.length = r0)) := by rw [linkB, HR0.out]
              rw [ea] at x0 x1 x2 x3 x4 x5 G1 h6'
              rw [eb] at y0 G0
              have ec : off + (k + 1) * 6 = off + 6 + k * 6 := by omega
              rw [ec] at x0 x1 x2 x3 x4 x5
              clear hT0 hT1
              have c50 := hx.keep c5
              generalize (l.getD (k + 1) default).start = s1 at *
              generalize (l.getD k default).start = s at *
              generalize (l.getD (k + 1) default).rates.length = r1 at *
              have HLK := Lib.hid hlk
              have HEC := Lib.hid ec
              have hy0 := hx.keep c0
              have hb : b < wr.heap.size := lt_of_cell y0
              clear hlk ec ea eb hrows hcs hv hfew hval
              have LOK : ∀ b : Bool, linkB l k = b → Hid (linkB l k = b) := fun _ h => h
              by_cases hs : s1 ≤ s
              · have hd : decide (s1 ≤ s) = true := by simp [hs]
                have HF := LOK false (by rw [HLK.out]; simp; omega)
                clear LOK
                go_wp2_with fail
                go_quiet (fail)
                go_wp2_with fail
                go_ret
                exact ⟨ret_int (by rw [checkS, if_neg H3.out, if_neg H1.out, if_pos (chainB_no (by rw [← HL.out]; exact hlt) HF.out)]), (hx.alloc _).drewN _⟩
              · have hd : decide (s1 ≤ s) = false := by simp; omega
                by_cases hr : r1 = r0
                · have HF := LOK true (by rw [HLK.out]; simp; omega)
                  have hq : ((r1 : Int) != (r0 : Int)) = false := by simp [hr]
                  have HR := Lib.hid hr
                  clear LOK hr
                  go_wp2_with fail
                  go_quiet (fail)
                  go_wp2_with fail
                  go_roundw
                  case rel => exact ⟨k + 1, by omega, by go_num, upTo_next hp HF.out, (hx.alloc _).drewN _⟩
                  case measure => simp [intOf]; omega
                · have HF := LOK false (by rw [HLK.out]; simp; omega)
                  have hq : ((r1 : Int) != (r0 : Int)) = true := by simp; omega
                  have HR := Lib.hid hr
                  clear LOK hr
                  go_wp2_with fail
                  go_quiet (fail)
                  go_wp2_with fail
                  go_ret
                  exact ⟨ret_int (by rw [checkS, if_neg H3.out, if_neg H1.out, if_pos (chainB_no (by rw [← HL.out]; exact hlt) HF.out)]), (hx.alloc _).drewN _⟩
            · have hk' : k = us.length - 1 := by omega
              have hch : chainB l = true := by
                rw [chainB_link, allB_iff]
                intro m hm
                exact hp m (by rw [hk', HL.out]; exact hm)
              have HCH := Lib.hid hch
              clear hch hk' hp hfew hval hcs hv hrows
              go_wp2_with fail
              go_ret
              exact ⟨ret_int (by rw [checkS, if_neg H3.out, if_neg H1.out, if_neg (by rw [HCH.out]; simp)]), hx⟩
    · have hd : (s0 == 0) = false := by simp [hz]
      have HZ := Lib.hid hz; clear hz
      clear hval hcs hus hv c5
      have C0 := c0
      go_enter Try.func28, Try.ntmps28
      go_wp2_with (first
        | (go_at_call 47; (with_reducible refine hfew.mono ?_); rintro e w1 ⟨rfl, hx1⟩; have c01 := hx1.keep c0))
      go_ret
      exact ⟨ret_int (by rw [checkS, if_neg H3.out, if_pos (Or.inr (Or.inl (HS0.out ▸ HZ.out)))]), hx1⟩
end Go.Proofs.Ytedblocbcjoolaa

/- Contracts: the tariff of a day, and its week. -/
namespace Go.Proofs.Ytedblocbcjoolaa
open Go.RowKit Go.Hs

set_option maxHeartbeats 400000 in
theorem week_any (u : V6) (t : Tar) (d : Int) (w : World) (h : TarU w u t) :
    Calls Try.prog 93 #[u.val, .int .i64 d] w fun e w' => e = .returned (.int .i64 (weekTo t.weeks d t.weeks.length)) ∧ Ext w w' := by
  obtain ⟨u0, u1, u2, u3, u4, u5⟩ := u
  obtain ⟨h0, h1, h2, g1, g2, hwk, -, -⟩ := h
  simp only at h0 h1 h2 hwk
  subst h0 h1 h2
  obtain ⟨a, c, rfl, h1, h2, hcs, -⟩ := hwk.cells
  have X := (Ext.refl w).alloc (.cells #[.int .i64 t.start, .bool t.whole, .int .i64 t.least, .slice a t.weeks.length c, u4, u5] 50)
  have hcs' := hcs.ext X
  clear hwk hcs
  go_enter Try.func93, Try.ntmps93
  go_wp2_with fail
  generalize (w.alloc (.cells #[.int .i64 t.start, .bool t.whole, .int .i64 t.least, .slice a t.weeks.length c, u4, u5] 50)) = W at *
  go_loop [4, 5, 6, 10] (fun r i n c => ∃ k : Nat, k ≤ t.weeks.length ∧ c = .int .i64 k ∧ r = .int .i64 (weekTo t.weeks d k)) (fun _ _ _ i => t.weeks.length - (intOf i).toNat)
  case atStart => exact ⟨0, Nat.zero_le _, rfl, rfl⟩
  case round =>
    obtain ⟨k, hk, rfl, rfl⟩ := hrel
    by_cases hlt : k < t.weeks.length
    · obtain ⟨b, off, rfl, hc⟩ := hcs' k (by simpa using hlt)
      have hc' : W.cell? ⟨b, off + k, none⟩ = some (.int .i64 (t.weeks.getD k 0)) := by rw [hc]; simp [hlt]
      have hs := Lib.hid (weekTo_succ t.weeks d k)
      clear hcs' hc
      generalize t.weeks.getD k 0 = x at *
      generalize weekTo t.weeks d k = y at *
      by_cases hx : x ≤ d
      · go_wp2_with fail
        go_round
        case rel => exact ⟨k + 1, by omega, by go_num, by rw [hs.out, if_pos hx]⟩
        case measure => simp [intOf]; omega
      · go_wp2_with fail
        go_round
        case rel => exact ⟨k + 1, by omega, by go_num, by rw [hs.out, if_neg hx]⟩
        case measure => simp [intOf]; omega
    · have hk' : k = t.weeks.length := by omega
      subst hk'
      go_wp2_with fail
      go_ret
      exact ⟨rfl, X⟩

set_option maxHeartbeats 1000000 in
theorem at_any (v : Value) (l : List Tar) (d : Int) (wd w : World) (hv : TarsV wd v l) (hwd : Ext wd w) :
    Calls Try.prog 84 #[.agg #[v], .int .i64 d] w fun e w' => ∃ u : V6, e = .returned u.val ∧ TarU wd u (atS l d) ∧ Ext w w' := by
  obtain ⟨a, c, rfl, h1, h2, hr⟩ := hv
  have X1 := (Ext.refl w).alloc (.cells #[.slice a l.length c] 130)
  have X2 := X1.alloc (.cells #[.int .i64 0, .bool false, .int .i64 0, .slice none 0 0, .slice none 0 0, .slice none 0 0] 50)
  go_enter Try.func84, Try.ntmps84
  go_wp2_with fail
  go_loopw [6, 10] (fun p i wr => ∃ k : Nat, k ≤ l.length ∧ i = .int .i64 k ∧ AtInv w.heap.size wd w (atS (l.take k) d) wr) (fun _ i _ => l.length - (intOf i).toNat)
  case atStart => exact ⟨0, Nat.zero_le _, rfl, ⟨⟨_, _, _, _, _, _⟩, by simp [Cell6], AtInv.start _, fun o => by simp, X2⟩⟩
  case round =>
    obtain ⟨k, hk, rfl, hinv⟩ := hrel
    have HI := Lib.hid hinv
    obtain ⟨u, hcell, hu, hfr, hx⟩ := hinv
    by_cases hlt : k < l.length
    · obtain ⟨b, off, rfl, hta⟩ := hr k hlt
      obtain ⟨a3, k3, a4, k4, a5, k5, x0, x1, x2, x3, x4, x5, hT⟩ := hta.open
      have hs := Lib.hid (atS_take hlt d)
      clear hta hr
      generalize l[k] = t at *
      generalize atS (l.take k) d = y at *
      obtain ⟨y0, y1, y2, y3, y4, y5⟩ := hcell
      have hU : TarU wd ⟨.int .i64 t.start, .bool t.whole, .int .i64 t.least, .slice a3 t.weeks.length k3, .slice a4 t.counts.length k4, .slice a5 t.rates.length k5⟩ t := ⟨rfl, rfl, rfl, hT⟩
      have x0 := hx.keep (hwd.keep x0)
      have x1 := hx.keep (hwd.keep x1)
      have x2 := hx.keep (hwd.keep x2)
      have x3 := hx.keep (hwd.keep x3)
      have x4 := hx.keep (hwd.keep x4)
      have x5 := hx.keep (hwd.keep x5)
      have hb : b < wr.heap.size := lt_of_cell x0
      have hR : w.heap.size + 1 < wr.heap.size := lt_of_cell y0
      have f0 := hfr 0
      have f1 := hfr 1
      have f2 := hfr 2
      have f3 := hfr 3
      have f4 := hfr 4
      have f5 := hfr 5
      by_cases hxd : t.start ≤ d
      · go_wp2_with fail
        go_roundw
        case rel => exact ⟨k + 1, by omega, by go_num, by rw [hs.out, if_pos hxd]; exact AtInv.step HI.out (by omega) hU _⟩
        case measure => simp [intOf]; omega
      · go_wp2_with fail
        go_roundw
        case rel => exact ⟨k + 1, by omega, by go_num, by rw [hs.out, if_neg hxd]; exact AtInv.same HI.out _⟩
        case measure => simp [intOf]; omega
    · have hk' : k = l.length := by omega
      subst hk'
      rw [List.take_length] at hu
      have hR : w.heap.size + 1 < wr.heap.size := lt_of_cell hcell.1
      have HC := Lib.hid hcell
      have HU := Lib.hid hu
      obtain ⟨a3, k3, a4, k4, a5, k5, rfl⟩ := hu.slices
      obtain ⟨y0, y1, y2, y3, y4, y5⟩ := hcell
      simp only [Nat.zero_add] at y0 y1 y2 y3 y4 y5
      have f0 := hfr 0
      have f1 := hfr 1
      have f2 := hfr 2
      have f3 := hfr 3
      have f4 := hfr 4
      have f5 := hfr 5
      clear hu hr
      go_wp2_with fail
      have hfin := set6_cell (u := ⟨.int .i64 (atS l d).start, .bool (atS l d).whole, .int .i64 (atS l d).least, .slice a3 (atS l d).weeks.length k3, .slice a4 (atS l d).counts.length k4, .slice a5 (atS l d).rates.length k5⟩) HC.out
      have hxx : Ext w (World.set6 wr (w.heap.size + 1) ⟨.int .i64 (atS l d).start, .bool (atS l d).whole, .int .i64 (atS l d).least, .slice a3 (atS l d).weeks.length k3, .slice a4 (atS l d).counts.length k4, .slice a5 (atS l d).rates.length k5⟩) := hx.set6 (by omega) _
      obtain ⟨q0, q1, q2, q3, q4, q5⟩ := hfin
      simp only [Nat.zero_add, World.set6] at q0 q1 q2 q3 q4 q5
      exact bodyPost_ret (v := .agg #[.int .i64 (atS l d).start, .bool (atS l d).whole, .int .i64 (atS l d).least, .slice a3 (atS l d).weeks.length k3, .slice a4 (atS l d).counts.length k4, .slice a5 (atS l d).rates.length k5]) (by simp [results, Try.results84, go_sem, q0, q1, q2, q3, q4, q5]) rfl ⟨_, rfl, HU.out, hxx⟩
end Go.Proofs.Ytedblocbcjoolaa

/- Contracts: the loss. -/
namespace Go.Proofs.Ytedblocbcjoolaa
open Go.RowKit Go.Hs

set_option maxHeartbeats 400000 in
theorem less_any (a b : Int) (w : World) :
    Calls Try.prog 99 #[.int .i64 a, .int .i64 b] w fun e w' => e = .returned (.bool (decide (a < b))) ∧ w = w' := by
  by_cases h : a < b
  · go_enter Try.func99, Try.ntmps99
    go_wp2
    go_ret
    exact ⟨ret_bool (by simp [h]), rfl⟩
  · have hd : decide (a < b) = false := by simp; omega
    go_enter Try.func99, Try.ntmps99
    go_wp2
    go_ret
    exact ⟨ret_bool (by simp), rfl⟩

set_option maxHeartbeats 400000 in
theorem isnan_any (a : Int) (w : World) :
    Calls Try.prog 100 #[.int .i64 a] w fun e w' => e = .returned (.bool false) ∧ w = w' := by
  go_enter Try.func100, Try.ntmps100
  go_wp2
  go_ret
  exact ⟨ret_bool (by simp), rfl⟩

set_option maxRecDepth 100000 in
set_option maxHeartbeats 1000000 in
theorem search_any (v : Value) (xs : List Int) (x : Int) (w : World) (hv : IntsV w v xs) (hs : Sorted xs) :
    Calls Try.prog 94 #[v, .int .i64 x] w (SearchPost xs x w) := by
  obtain ⟨a, c, rfl, h1, h2, hcs, -⟩ := hv.cells
  have HS := Lib.hid hs
  clear hv hs
  go_enter Try.func94, Try.ntmps94
  go_wp2_with fail
  go_loop [7, 8, 9] (fun i j h => ∃ p q : Nat, p ≤ q ∧ q ≤ xs.length ∧ i = .int .i64 p ∧ j = .int .i64 q ∧ Hid ((∀ m, m < p → xs.getD m 0 < x) ∧ (∀ m, q ≤ m → m < xs.length → x ≤ xs.getD m 0))) (fun i j _ => (intOf j).toNat - (intOf i).toNat)
  case atStart => exact ⟨0, xs.length, by omega, Nat.le_refl _, rfl, rfl, ⟨fun m hm => absurd hm (Nat.not_lt_zero _), fun m h1 h2 => by omega⟩⟩
  case round =>
    obtain ⟨p, q, hpq, hq, rfl, rfl, HP⟩ := hrel
    by_cases hlt : p < q
    · have hm : (p + q) / 2 < xs.length := by omega
      obtain ⟨b, off, rfl, hc⟩ := hcs ((p + q) / 2) (by simpa using hm)
      have hc' : w.cell? ⟨b, off + (p + q) / 2, none⟩ = some (.int .i64 (xs.getD ((p + q) / 2) 0)) := by rw [hc]; simp [hm]
      clear hc hcs
      generalize hy : xs.getD ((p + q) / 2) 0 = y at *
      have HY := Lib.hid hy; clear hy
      by_cases hyx : y < x
      · have hd : decide (y < x) = true := by simp [hyx]
        go_wp2_with (go_at_call 99; refine (less_any _ _ _).mono ?_; rintro e w' ⟨rfl, rfl⟩)
        go_round
        case rel => exact ⟨(p + q) / 2 + 1, q, by omega, hq, by go_num, rfl, fun m hm' => by
          have := HS.out m ((p + q) / 2) (by omega) hm
          rw [HY.out] at this; omega, HP.out.2⟩
        case measure => simp [intOf]; omega
      · have hd : decide (y < x) = false := by simp; omega
        go_wp2_with (go_at_call 99; refine (less_any _ _ _).mono ?_; rintro e w' ⟨rfl, rfl⟩)
        go_round
        case rel => exact ⟨p, (p + q) / 2, by omega, by omega, rfl, by go_num, HP.out.1, fun m h1 h2 => by
          have := HS.out ((p + q) / 2) m h1 h2
          rw [HY.out] at this; omega⟩
        case measure => simp [intOf]; omega
    · have hk' : p = q := by omega
      subst hk'
      clear hlt
      by_cases hm : p < xs.length
      · obtain ⟨b, off, rfl, hc⟩ := hcs p (by simpa using hm)
        have hc' : w.cell? ⟨b, off + p, none⟩ = some (.int .i64 (xs.getD p 0)) := by rw [hc]; simp [hm]
        clear hc hcs
        generalize hy : xs.getD p 0 = y at *
        have HY := Lib.hid hy; clear hy
        by_cases hyx : y = x
        · subst hyx
          go_wp2_with (first | (go_at_call 100; refine (isnan_any _ _).mono ?_; rintro e w' ⟨rfl, rfl⟩))
          go_ret2
          exact ⟨p, ⟨hq, HP.out⟩, by rw [show decide (p < xs.length ∧ xs.getD p 0 = y) = true from decide_eq_true ⟨hm, HY.out⟩]; simp, rfl⟩
        · have hd : (y == x) = false := by simp [hyx]
          have HN := Lib.hid hyx; clear hyx
          go_wp2_with (first | (go_at_call 100; refine (isnan_any _ _).mono ?_; rintro e w' ⟨rfl, rfl⟩))
          go_ret2
          exact ⟨p, ⟨hq, HP.out⟩, by rw [show decide (p < xs.length ∧ xs.getD p 0 = x) = false from decide_eq_false (fun h => HN.out (HY.out ▸ h.2))]; simp, rfl⟩
      · go_wp2_with fail
        go_ret2
        exact ⟨p, ⟨hq, HP.out⟩, by rw [show decide (p < xs.length ∧ xs.getD p 0 = x) = false from decide_eq_false (fun h => hm h.1)]; simp, rfl⟩
end Go.Proofs.Ytedblocbcjoolaa

/- Contracts: the loss. -/
namespace Go.Proofs.Ytedblocbcjoolaa
open Go.RowKit Go.Hs

/-- What the first statement of 'loss' reads. -/
abbrev LossS (W : World) (B b5 p5 b6 p6 : Nat) (x0 : Int) (x1 : Bool) (x2 : Int) (x3 x4 x5 : Value) (y0 y1 y2 : Int) (z5 z6 : Value) (w' : World) : Prop :=
  w'.cell? ⟨B, 0, none⟩ = some (.int .i64 x0) ∧ w'.cell? ⟨B, 1, none⟩ = some (.bool x1) ∧ w'.cell? ⟨B, 2, none⟩ = some (.int .i64 x2) ∧ w'.cell? ⟨B, 3, none⟩ = some x3 ∧ w'.cell? ⟨B, 4, none⟩ = some x4 ∧ w'.cell? ⟨B, 5, none⟩ = some x5 ∧
  w'.cell? ⟨B + 1, 0, none⟩ = some (.int .i64 y0) ∧ w'.cell? ⟨B + 1, 1, none⟩ = some (.int .i64 y1) ∧ w'.cell? ⟨B + 1, 2, none⟩ = some (.int .i64 y2) ∧
  w'.cell? ⟨b5, p5, none⟩ = some z5 ∧ w'.cell? ⟨b6, p6, none⟩ = some z6 ∧ Ext W w'

set_option maxRecDepth 100000 in
set_option maxHeartbeats 1000000 in
theorem loss_any (u : V6) (t : Tar) (cr d n : Int) (w : World) (h : TarU w u t) (h0 : 0 ≤ cr) (h1 : cr < t.rates.length) (hw : weekTo t.weeks d t.weeks.length < (t.rates.getD cr.toNat []).length)
    (hco : CountsOK t.counts) (hro : RowOK t.counts.length ((t.rates.getD cr.toNat []).getD (weekTo t.weeks d t.weeks.length) [])) (hn0 : 0 ≤ n) (hn1 : n ≤ 100) :
    Calls Try.prog 85 #[u.val, .agg #[.int .i64 cr, .int .i64 d, .int .i64 n]] w fun e w' => e = .returned (.int .i64 (interp t.counts ((t.rates.getD cr.toNat []).getD (weekTo t.weeks d t.weeks.length) []) n)) ∧ Ext w w' := by
  have HT := h
  have HCO := Lib.hid hco
  obtain ⟨a3, k3, a4, k4, a5, k5, rfl⟩ := h.slices
  obtain ⟨-, -, -, hC⟩ := h
  obtain ⟨cn, rfl⟩ := Int.eq_ofNat_of_zero_le h0
  have hcn : cn < t.rates.length := by omega
  simp only [Int.toNat_natCast] at hw hro ⊢
  have hl4 := hC.counts.len_le.2
  obtain ⟨b5, o5, a6, c6, rfl, hc5, hv6⟩ := hC.rates.get cn hcn
  obtain ⟨b6, o6, a7, c7, rfl, hc6, hv7⟩ := hv6.get _ hw
  have X := ((Ext.refl w).alloc (.cells #[.int .i64 t.start, .bool t.whole, .int .i64 t.least, .slice a3 t.weeks.length k3, .slice a4 t.counts.length k4, .slice (some ⟨b5, o5, none⟩) t.rates.length k5] 50)).alloc (.cells #[.int .i64 cn, .int .i64 d, .int .i64 n] 137)
  have hwk : ∀ W', Ext w W' → Calls Try.prog 93 #[.agg #[.int .i64 t.start, .bool t.whole, .int .i64 t.least, .slice a3 t.weeks.length k3, .slice a4 t.counts.length k4, .slice (some ⟨b5, o5, none⟩) t.rates.length k5], .int .i64 d] W' fun e w' => e = .returned (.int .i64 (weekTo t.weeks d t.weeks.length)) ∧ Ext W' w' := fun W' hx => week_any ⟨_, _, _, _, _, _⟩ t d W' (HT.ext hx)
  have hb5 : b5 < w.heap.size := lt_of_cell hc5
  have hb6 : b6 < w.heap.size := lt_of_cell hc6
  have hwl : weekTo t.weeks d t.weeks.length ≤ t.weeks.length := weekTo_le _ _ _
  have hrl : (t.rates.getD cn []).length ≤ 140737488351232 := hv6.len_le.2
  have hk3 : t.weeks.length ≤ 140737488351232 := hC.weeks.len_le.2
  generalize hwn : weekTo t.weeks d t.weeks.length = wn at *
  have HWN := Lib.hid hwn; clear hwn
  have HWK := Lib.hid hwk; clear hwk
  generalize hcw : t.rates.getD cn [] = cw at *
  generalize hrow : cw.getD wn [] = row at *
  have HCW := Lib.hid hcw; clear hcw
  have HROW := Lib.hid hrow; clear hrow
  go_enter Try.func85, Try.ntmps85
  go_wp2_with fail
  generalize hW : ((w.alloc (.cells #[.int .i64 t.start, .bool t.whole, .int .i64 t.least, .slice a3 t.weeks.length k3, .slice a4 t.counts.length k4, .slice (some ⟨b5, o5, none⟩) t.rates.length k5] 50)).alloc (.cells #[.int .i64 cn, .int .i64 d, .int .i64 n] 137)) = W at *
  have t0 : W.cell? ⟨w.heap.size, 0, none⟩ = some (.int .i64 t.start) := by rw [← hW]; simp
  have t1 : W.cell? ⟨w.heap.size, 1, none⟩ = some (.bool t.whole) := by rw [← hW]; simp
  have t2 : W.cell? ⟨w.heap.size, 2, none⟩ = some (.int .i64 t.least) := by rw [← hW]; simp
  have t3 : W.cell? ⟨w.heap.size, 3, none⟩ = some (.slice a3 t.weeks.length k3) := by rw [← hW]; simp
  have t4 : W.cell? ⟨w.heap.size, 4, none⟩ = some (.slice a4 t.counts.length k4) := by rw [← hW]; simp
  have t5 : W.cell? ⟨w.heap.size, 5, none⟩ = some (.slice (some ⟨b5, o5, none⟩) t.rates.length k5) := by rw [← hW]; simp
  have s0 : W.cell? ⟨w.heap.size + 1, 0, none⟩ = some (.int .i64 cn) := by rw [← hW]; simp
  have s1 : W.cell? ⟨w.heap.size + 1, 1, none⟩ = some (.int .i64 d) := by rw [← hW]; simp
  have s2 : W.cell? ⟨w.heap.size + 1, 2, none⟩ = some (.int .i64 n) := by rw [← hW]; simp
  have m5 := X.keep hc5
  have m6 := X.keep hc6
  clear hW hc5 hc6
  have HS : Hid (∀ w', Ext W w' → LossS W w.heap.size b5 (o5 + cn) b6 (o6 + wn) t.start t.whole t.least (.slice a3 t.weeks.length k3) (.slice a4 t.counts.length k4) (.slice (some ⟨b5, o5, none⟩) t.rates.length k5) cn d n (.slice (some ⟨b6, o6, none⟩) cw.length c6) (.slice a7 row.length c7) w') :=
    fun w' hx => ⟨hx.keep t0, hx.keep t1, hx.keep t2, hx.keep t3, hx.keep t4, hx.keep t5, hx.keep s0, hx.keep s1, hx.keep s2, hx.keep m5, hx.keep m6, hx⟩
  go_region_held3 (fun w' => LossS W w.heap.size b5 (o5 + cn) b6 (o6 + wn) t.start t.whole t.least (.slice a3 t.weeks.length k3) (.slice a4 t.counts.length k4) (.slice (some ⟨b5, o5, none⟩) t.rates.length k5) cn d n (.slice (some ⟨b6, o6, none⟩) cw.length c6) (.slice a7 row.length c7) w') (first | exact HS.out _ ((Ext.refl W).drew) | exact HS.out _ ((Ext.refl W).drew.trans hx2))
    (first | (go_at_call 93; (with_reducible refine (HWK.out _ (X.trans (Ext.refl W).drew)).mono ?_); rintro e w2 ⟨rfl, hx2⟩))
  rename_i hSS
  obtain ⟨q0, q1, q2, q3, q4, q5, r0, r1, r2, n5, n6, hxx⟩ := hSS
  have hsr := search_any _ t.counts n w2 (hC.counts.ext (X.trans hxx)) HCO.out.sorted
  go_wp2_with fail
  (with_reducible refine hsr.mono ?_)
  rintro e w3 ⟨i, hfi, rfl, rfl⟩
  obtain ⟨hil, hne⟩ := HCO.out.found hn0 hn1 hfi
  have XX := X.trans hxx
  have hir : i < row.length := by rw [hro.len]; exact hil
  have hin := Lib.hid (interp_at (row := row) hfi)
  obtain ⟨br, or_, rfl, hcr⟩ := hv7.get i hir
  obtain ⟨bc, oc, rfl, hcc⟩ := hC.counts.get i hil
  have hcr2 := XX.keep hcr
  have hcc2 := XX.keep hcc
  have bri := hro.bound i hir
  have bci := HCO.out.bound i hil
  clear hfi hsr
  by_cases hx : t.counts.getD i 0 = n
  · have hd : decide (i < t.counts.length ∧ t.counts.getD i 0 = n) = true := decide_eq_true ⟨hil, hx⟩
    rw [hd]
    have HIN := Lib.hid (hin.out.trans (if_pos hx))
    clear hd hx hin hne hcr hcc hcc2
    generalize row.getD i 0 = ri at *
    go_wp2_with fail
    go_ret
    exact ⟨ret_int HIN.out.symm, XX⟩
  · have hd : decide (i < t.counts.length ∧ t.counts.getD i 0 = n) = false := decide_eq_false (fun h => hx h.2)
    rw [hd]
    obtain ⟨h1i, hlo, hhi⟩ := hne hx
    have HIN := Lib.hid (hin.out.trans (if_neg hx))
    have hcr' := (hv7.get (i - 1) (by omega))
    have hcc' := (hC.counts.get (i - 1) (by omega))
    obtain ⟨_, _, e1, hcr'⟩ := hcr'
    cases e1
    obtain ⟨_, _, e1, hcc'⟩ := hcc'
    cases e1
    have hcr3 := XX.keep hcr'
    have hcc3 := XX.keep hcc'
    have brj := hro.bound (i - 1) (by omega)
    have bcj := HCO.out.bound (i - 1) (by omega)
    clear hd hx hin hne hcr hcc hcr' hcc'
    generalize row.getD i 0 = ri at *
    generalize row.getD (i - 1) 0 = rj at *
    generalize t.counts.getD i 0 = ci at *
    generalize t.counts.getD (i - 1) 0 = cj at *
    go_wp2_with fail
    go_quiet (fail)
    go_wp2_with fail
    go_quiet (fail)
    go_wp2_with fail
    go_ret
    exact ⟨ret_int ((interp_wrap brj.1 brj.2 bri.1 bri.2 bci.1 bci.2 bcj.1 hlo hhi).trans HIN.out.symm), (XX.drewN _).drewN _⟩
end Go.Proofs.Ytedblocbcjoolaa

/- The map from spots to parts. -/
namespace Go.Proofs.Ytedblocbcjoolaa
open Go.RowKit Go.Hs

abbrev spotV (a b c : Int) : Value := .agg #[.int .i64 a, .int .i64 b, .int .i64 c]

theorem eq_spot (a b c a' b' c' : Int) (w : World) :
    (Op.equal 137 (spotV a b c) (spotV a' b' c')).run Try.prog w = .ok (a == a' && (b == b' && c == c')) w := by
  simp [Op.equal, Op.maxDepth, go_sem]
  by_cases h1 : a = a' <;> by_cases h2 : b = b' <;> by_cases h3 : c = c' <;> simp [h1, h2, h3]

theorem check_spot (em : Bool) (a b c : Int) (w : World) :
    (Instr.checkKey em 10000 137 (spotV a b c)).run Try.prog w = .ok () w := by
  have : ∀ n, (Instr.checkKey em (n + 2) 137 (spotV a b c)).run Try.prog w = .ok () w := by
    intro n
    simp [Instr.checkKey, go_sem]
  exact this 9998

theorem find_spot (a b c : Int) (i : Nat) (es : List MapEntry) (f : Int → Int → Int → Int)
    (h : ∀ e ∈ es, ∃ a b c, e.key = spotV a b c ∧ e.val = .int .i64 (f a b c)) :
    ∃ r, (∀ w, (Instr.findAsking 137 (spotV a b c) es i).run Try.prog w = .ok r w) ∧
      (r = none ∨ ∃ j, r = some (i + j, .int .i64 (f a b c)) ∧ ∃ e, es[j]? = some e ∧ e.key = spotV a b c) := by
  induction es generalizing i with
  | nil => exact ⟨none, fun _ => rfl, .inl rfl⟩
  | cons e es ih =>
    obtain ⟨a', b', c', hk, hv⟩ := h e (by simp)
    obtain ⟨r, hr, hor⟩ := ih (i + 1) (fun e he => h e (by simp [he]))
    unfold Instr.findAsking
    rw [hk, hv]
    by_cases heq : (a == a' && (b == b' && c == c')) = true
    · have h2 : a = a' ∧ b = b' ∧ c = c' := by simpa using heq
      obtain ⟨rfl, rfl, rfl⟩ := h2
      refine ⟨some (i, .int .i64 (f a b c)), fun w => ?_, .inr ⟨0, by simp, e, by simp, hk⟩⟩
      rw [Sem.run_bind, eq_spot, heq]
      rfl
    · rw [Bool.not_eq_true] at heq
      refine ⟨r, fun w => ?_, ?_⟩
      · rw [Sem.run_bind, eq_spot, heq]
        exact hr w
      · rcases hor with h1 | ⟨j, h1, e', h2, h3⟩
        · exact .inl h1
        · exact .inr ⟨j + 1, by rw [h1]; congr 2; omega, e', by simpa using h2, h3⟩

/-- The map at block r holds parts alone. -/
def Memo (f : Int → Int → Int → Int) (r : Nat) (w : World) : Prop :=
  ∃ es clock, w.heap[r]? = some (.map es clock) ∧ ∀ e ∈ es.toList, ∃ a b c, e.key = spotV a b c ∧ e.val = .int .i64 (f a b c)

theorem findKey_spot (a b c : Int) (es : List MapEntry) (f : Int → Int → Int → Int)
    (h : ∀ e ∈ es, ∃ a b c, e.key = spotV a b c ∧ e.val = .int .i64 (f a b c)) :
    ∃ r, (∀ w, (Instr.findKey 137 (spotV a b c) es).run Try.prog w = .ok r w) ∧
      (r = none ∨ ∃ j, r = some (j, .int .i64 (f a b c)) ∧ ∃ e, es[j]? = some e ∧ e.key = spotV a b c) := by
  obtain ⟨r, hr, ho⟩ := find_spot a b c 0 es f h
  cases es with
  | nil =>
    refine ⟨none, fun w => ?_, .inl rfl⟩
    simp [Instr.findKey, Instr.findNow, go_sem]
  | cons e es =>
    refine ⟨r, fun w => ?_, by simpa using ho⟩
    have : Instr.findNow (.struct (Try.prog.fieldsOf 137)) (spotV a b c) (e :: es) 0 = none := by
      simp [Instr.findNow, Instr.sameNow]
    simp only [Instr.findKey, Sem.run_bind]
    rw [run_underlying (P := Try.prog) (show Try.prog.underlying 137 = some (.struct (Try.prog.fieldsOf 137)) by kernel_rfl)]
    simp only [Result.andThen_ok, this]
    exact hr w

theorem lookup_spot (f : Int → Int → Int → Int) (a b c : Int) (r : Nat) (w : World) (h : Memo f r w) :
    ∃ v ok, (∀ w', w'.heap[r]? = w.heap[r]? → (Instr.lookup 131 (.map (some r)) (spotV a b c) true).run Try.prog w' = .ok (.tuple #[.int .i64 v, .bool ok]) w') ∧ (ok = true → v = f a b c) ∧ (ok = false → v = 0) := by
  obtain ⟨es, clock, hr, he⟩ := h
  obtain ⟨x, hx, ho⟩ := findKey_spot a b c es.toList f he
  rcases ho with rfl | ⟨j, rfl, -⟩
  · refine ⟨0, false, fun w' hw' => ?_, by simp, by simp⟩
    have hg : (getObj r).run Try.prog w' = .ok (.map es clock) w' := by simp [getObj, Sem.run, hw', hr]
    simp [Instr.lookup, go_sem, hg, check_spot, hx]
  · refine ⟨f a b c, true, fun w' hw' => ?_, by simp, by simp⟩
    have hg : (getObj r).run Try.prog w' = .ok (.map es clock) w' := by simp [getObj, Sem.run, hw', hr]
    simp [Instr.lookup, go_sem, hg, check_spot, hx]

theorem update_spot (f : Int → Int → Int → Int) (a b c : Int) (r : Nat) (w : World) (h : Memo f r w) :
    ∃ o, (Instr.mapUpdate 131 (.map (some r)) (spotV a b c) (.int .i64 (f a b c))).run Try.prog w = .ok () (w.putObj r o) ∧ Memo f r (w.putObj r o) := by
  obtain ⟨es, clock, hr, he⟩ := h
  obtain ⟨x, hx, ho⟩ := findKey_spot a b c es.toList f he
  have hg : (getObj r).run Try.prog w = .ok (.map es clock) w := by simp [getObj, Sem.run, hr]
  have hlt : r < w.heap.size := (Array.getElem?_eq_some_iff.1 hr).1
  have hs : ∀ o : Obj, (setObj r o).run Try.prog w = .ok () (w.putObj r o) := fun o => by simp [setObj, Sem.run, hr, World.putObj]
  rcases ho with rfl | ⟨j, rfl, e, hj, hk⟩
  · refine ⟨_, ?_, es.push { key := spotV a b c, val := .int .i64 (f a b c), born := clock }, clock + 1, World.putObj_heap_same hlt, ?_⟩
    · simp [Instr.mapUpdate, go_sem, hg, check_spot, hx, hs]
    · intro e he'
      simp at he'
      rcases he' with h1 | rfl
      · exact he e (by simpa using h1)
      · exact ⟨a, b, c, rfl, rfl⟩
  · have hks : (Instr.keyThatStays (((es[j]?).map (·.key)).getD (spotV a b c)) (spotV a b c)).run Try.prog w = .ok (spotV a b c) w := by
      have e1 : es[j]? = some e := by simpa using hj
      have hsb : ∀ n, Instr.sameBits (n + 2) (spotV a b c) (spotV a b c) = true := by intro n; simp [Instr.sameBits]
      rw [e1]
      simp only [Option.map_some, Option.getD_some, hk, Instr.keyThatStays]
      rw [hsb 9998]
      rfl
    refine ⟨_, ?_, es.modify j fun e => { e with key := spotV a b c, val := .int .i64 (f a b c) }, clock, World.putObj_heap_same hlt, ?_⟩
    · simp [Instr.mapUpdate, go_sem, hg, check_spot, hx, hs, hks]
    · intro e' he'
      obtain ⟨k, hk', hke⟩ := List.getElem_of_mem he'
      simp only [Array.toList_modify, List.getElem_modify] at hke
      split at hke
      · subst hke; exact ⟨a, b, c, rfl, rfl⟩
      · subst hke; exact he _ (List.getElem_mem _)
end Go.Proofs.Ytedblocbcjoolaa

/- Plain laws of layer 5: what a valid list of tariffs gives. -/
namespace Go.Hs
open Go.RowKit

structure ValidL (l : List Tar) : Prop where
  pos : 0 < l.length
  three : l.length ≤ 3
  first : (l.getD 0 default).start = 0
  few : ∀ i, i < l.length → fewB (l.getD i default) = true
  valid : ∀ i, i < l.length → validB (l.getD i default) = true
  link : ∀ i, i < l.length - 1 → linkB l i = true

theorem validL_of {l : List Tar} (h : checkS l = 0) : ValidL l := by
  unfold checkS at h
  split at h
  · omega
  · rename_i h1
    split at h
    · omega
    · rename_i h2
      split at h
      · omega
      · rename_i h3
        have hf : allB l.length (fun i => fewB (l.getD i default)) = true := by
          cases hh : allB l.length (fun i => fewB (l.getD i default)) with
          | true => rfl
          | false => exact absurd (Or.inr hh) h1
        have hv : allB l.length (fun i => validB (l.getD i default)) = true := by
          cases hh : allB l.length (fun i => validB (l.getD i default)) with
          | true => rfl
          | false => exact absurd (Or.inr (Or.inr hh)) h2
        have hc : chainB l = true := by
          cases hh : chainB l with
          | true => rfl
          | false => exact absurd hh h3
        refine ⟨?_, ?_, ?_, fun i hi => allB_iff.1 hf i hi, fun i hi => allB_iff.1 hv i hi, fun i hi => allB_iff.1 (chainB_link l ▸ hc) i hi⟩
        · rcases Nat.eq_zero_or_pos l.length with e | e
          · exact absurd (Or.inl e) h2
          · exact e
        · rcases Nat.lt_or_ge 3 l.length with e | e
          · exact absurd (Or.inl e) h1
          · exact e
        · by_cases e : (l.getD 0 default).start = 0
          · exact e
          · exact absurd (Or.inr (Or.inl e)) h2

/-- How many crops there are. -/
def cropsN (l : List Tar) : Nat := (l.getD 0 default).rates.length

theorem ValidL.crops {l : List Tar} (h : ValidL l) (i : Nat) (hi : i < l.length) : (l.getD i default).rates.length = cropsN l := by
  cases i with
  | zero => rfl
  | succ i =>
    have := h.link i (by omega)
    simp only [linkB, Bool.and_eq_true, decide_eq_true_eq] at this
    exact this.2

/-- The tariff of a day is one of the list. -/
theorem atS_mem {l : List Tar} {d : Int} (hp : 0 < l.length) (h0 : (l.getD 0 default).start ≤ d) : ∃ i, i < l.length ∧ atS l d = l.getD i default := by
  have : ∀ k, k < l.length → ∃ i, i ≤ k ∧ atS (l.take (k + 1)) d = l.getD i default := by
    intro k
    induction k with
    | zero =>
      intro hk
      refine ⟨0, Nat.le_refl _, ?_⟩
      rw [atS_take hk]
      have e : l[0] = l.getD 0 default := by simp [hk]
      rw [e, if_pos h0]
    | succ k ih =>
      intro hk
      obtain ⟨i, hi, he⟩ := ih (by omega)
      rw [atS_take hk]
      split
      · exact ⟨k + 1, Nat.le_refl _, by simp [hk]⟩
      · exact ⟨i, by omega, he⟩
  obtain ⟨i, hi, he⟩ := this (l.length - 1) (by omega)
  rw [show l.length - 1 + 1 = l.length by omega, List.take_length] at he
  exact ⟨i, by omega, he⟩

theorem inR_iff {n lo hi : Int} : inR n lo hi = true ↔ lo ≤ n ∧ n ≤ hi := by simp [inR]

/-- What a rising list is. -/
structure Rises (xs : List Int) (most : Int) : Prop where
  pos : 0 < xs.length
  first : xs.getD 0 0 = 0
  strict : ∀ a b, a < b → b < xs.length → xs.getD a 0 < xs.getD b 0
  bound : ∀ i, i < xs.length → 0 ≤ xs.getD i 0 ∧ xs.getD i 0 ≤ most

theorem strict_of_step {f : Nat → Int} {n : Nat} (h : ∀ i, i + 1 < n → f i < f (i + 1)) : ∀ a b, a < b → b < n → f a < f b := by
  intro a b hab hb
  induction b with
  | zero => omega
  | succ b ih =>
    have h1 := h b hb
    rcases Nat.lt_or_ge a b with e | e
    · have := ih e (by omega); omega
    · have e' : a = b := by omega
      subst e'; exact h1

theorem wrap64_id {x : Int} (h0 : -9223372036854775808 ≤ x) (h1 : x ≤ 9223372036854775807) : wrap64 x = x := IntWalk.wrap64_in x ⟨by omega, by omega⟩

theorem risesB_iff {xs : List Int} {most : Int} (hm : most ≤ 1000) : risesB xs most = true ↔ Rises xs most := by
  unfold risesB
  simp only [Bool.and_eq_true, decide_eq_true_eq, allB_iff, beq_iff_eq, inR_iff]
  constructor
  · rintro ⟨⟨h1, h2⟩, h3⟩
    have e0 : xs.getD 0 0 = 0 := by
      have : xs.getD 0 1 = xs.getD 0 0 := by simp [h1]
      rw [← this]; exact h2
    have hb : ∀ i, i < xs.length → 0 ≤ xs.getD i 0 ∧ xs.getD i 0 ≤ most ∧ prevOf xs i < xs.getD i 0 := by
      intro i
      induction i with
      | zero =>
        intro hi
        have := h3 0 hi
        rw [e0] at this ⊢
        simp [prevOf]; omega
      | succ i ih =>
        intro hi
        have h4 := ih (by omega)
        have h5 := h3 (i + 1) hi
        have e1 : prevOf xs (i + 1) = xs.getD i 0 := by simp [prevOf]
        rw [e1] at h5 ⊢
        rw [wrap64_id (by omega) (by omega)] at h5
        omega
    refine ⟨h1, e0, strict_of_step (f := fun i => xs.getD i 0) (n := xs.length) ?_, fun i hi => ⟨(hb i hi).1, (hb i hi).2.1⟩⟩
    intro i hi
    have := (hb (i + 1) hi).2.2
    simpa [prevOf] using this
  · rintro ⟨h1, h2, h3, h4⟩
    refine ⟨⟨h1, ?_⟩, ?_⟩
    · have : xs.getD 0 1 = xs.getD 0 0 := by simp [h1]
      rw [this]; exact h2
    · intro i hi
      have h5 := h4 i hi
      cases i with
      | zero => simp only [prevOf, if_true]; rw [wrap64_id (by omega) (by omega)]; omega
      | succ i =>
        have h6 := h3 i (i + 1) (by omega) hi
        have h7 := h4 i (by omega)
        have e1 : prevOf xs (i + 1) = xs.getD i 0 := by simp [prevOf]
        rw [e1, wrap64_id (by omega) (by omega)]; omega

/-- What a valid tariff is. -/
structure ValidT (t : Tar) : Prop where
  start : 0 ≤ t.start ∧ t.start ≤ 120
  least : 0 ≤ t.least ∧ t.least ≤ 100
  weeks : Rises t.weeks 120
  two : 1 < t.counts.length
  counts : Rises t.counts 100
  last : t.counts.getD (t.counts.length - 1) 0 = 100
  crops : 0 < t.rates.length
  rows : ∀ c, c < t.rates.length → (t.rates.getD c []).length = t.weeks.length ∧ ∀ i, i < t.weeks.length → RowOK t.counts.length ((t.rates.getD c []).getD i [])

theorem validB_iff {t : Tar} : validB t = true ↔ ValidT t := by
  unfold validB cropB rowB
  simp only [Bool.and_eq_true, decide_eq_true_eq, allB_iff, beq_iff_eq, inR_iff, risesB_iff (show (120 : Int) ≤ 1000 by decide), risesB_iff (show (100 : Int) ≤ 1000 by decide)]
  constructor
  · rintro ⟨⟨⟨⟨⟨⟨⟨h1, h2⟩, h3⟩, h4⟩, h5⟩, h6⟩, h7⟩, h8⟩
    exact ⟨h1, h2, h3, h4, h5, h6, h7, fun c hc => ⟨(h8 c hc).1, fun i hi => ⟨((h8 c hc).2 i (by rw [(h8 c hc).1]; exact hi)).1, ((h8 c hc).2 i (by rw [(h8 c hc).1]; exact hi)).2⟩⟩⟩
  · rintro ⟨h1, h2, h3, h4, h5, h6, h7, h8⟩
    exact ⟨⟨⟨⟨⟨⟨⟨h1, h2⟩, h3⟩, h4⟩, h5⟩, h6⟩, h7⟩, fun c hc => ⟨(h8 c hc).1, fun i hi => ⟨((h8 c hc).2 i (by rw [← (h8 c hc).1]; exact hi)).len, ((h8 c hc).2 i (by rw [← (h8 c hc).1]; exact hi)).bound⟩⟩⟩

theorem Rises.sorted {xs : List Int} {m : Int} (h : Rises xs m) : Sorted xs := fun a b hab hb => by
  rcases Nat.lt_or_ge a b with e | e
  · have := h.strict a b e hb; omega
  · have : a = b := by omega
    subst this; omega
theorem ValidT.countsOK {t : Tar} (h : ValidT t) : CountsOK t.counts := ⟨h.two, h.counts.sorted, h.counts.strict, h.counts.first, h.last⟩
theorem ValidT.week_lt {t : Tar} (h : ValidT t) (d : Int) : weekTo t.weeks d t.weeks.length < t.weeks.length := by
  have : ∀ k, 0 < k → weekTo t.weeks d k < k := by
    intro k hk
    cases k with
    | zero => omega
    | succ k =>
      rw [weekTo_succ]
      split
      · omega
      · have := weekTo_le t.weeks d k; omega
  exact this _ h.weeks.pos

/-- The row of rates of a crop on a day. -/
def rowS (l : List Tar) (c d : Int) : List Int := ((atS l d).rates.getD c.toNat []).getD (weekTo (atS l d).weeks d (atS l d).weeks.length) []
def lossS (l : List Tar) (c d n : Int) : Int := interp (atS l d).counts (rowS l c d) n
/-- The part that is paid. -/
def partS (l : List Tar) (c d n : Int) : Int := if (atS l d).least ≤ lossS l c d n then (if (atS l d).whole then lossS l c d n else lossS l c d n - (atS l d).least) else 0

theorem ValidL.at {l : List Tar} (h : ValidL l) {d : Int} (hd : 0 ≤ d) : ValidT (atS l d) ∧ (atS l d).rates.length = cropsN l := by
  obtain ⟨i, hi, he⟩ := atS_mem h.pos (by rw [h.first]; exact hd)
  rw [he]
  exact ⟨validB_iff.1 (h.valid i hi), h.crops i hi⟩

theorem interp_bd {xs row : List Int} {n : Int} (hx : CountsOK xs) (hr : RowOK xs.length row) (h0 : 0 ≤ n) (h1 : n ≤ 100) {i : Nat} (hf : Found xs n i) : 0 ≤ interp xs row n ∧ interp xs row n ≤ 100 := by
  obtain ⟨hi, hne⟩ := hx.found h0 h1 hf
  have b1 := hr.bound i (by rw [hr.len]; exact hi)
  rw [interp_at hf]
  split
  · exact b1
  · rename_i hh
    obtain ⟨g1, g2, g3⟩ := hne hh
    have b2 := hr.bound (i - 1) (by rw [hr.len]; omega)
    generalize row.getD i 0 = ri at *
    generalize row.getD (i - 1) 0 = rj at *
    generalize xs.getD i 0 = ci at *
    generalize xs.getD (i - 1) 0 = cj at *
    have p := prod_bd b2.1 b2.2 (b := ci - n) (B := ci - n) (by omega) (Int.le_refl _)
    have q := prod_bd b1.1 b1.2 (b := n - cj) (B := n - cj) (by omega) (Int.le_refl _)
    refine ⟨Int.ediv_nonneg (by omega) (by omega), ?_⟩
    rw [Int.ediv_le_iff_le_mul (by omega)]
    have : 100 * (ci - n) + 100 * (n - cj) = 100 * (ci - cj) := by
      rw [← Int.mul_add]; congr 1; omega
    omega

theorem firstGe_found {xs : List Int} (hs : Sorted xs) (x : Int) : Found xs x (firstGe xs x) := by
  unfold firstGe
  induction xs with
  | nil => exact ⟨by simp, fun m h => absurd h (Nat.not_lt_zero _), fun m _ h => absurd h (Nat.not_lt_zero _)⟩
  | cons y r ih =>
    have hs' : Sorted r := fun a b hab hb => by have := hs (a + 1) (b + 1) (by omega) (by simpa using hb); simpa using this
    by_cases h : y < x
    · rw [List.takeWhile_cons_of_pos (by simpa using h)]
      obtain ⟨h1, h2, h3⟩ := ih hs'
      refine ⟨by simpa using h1, ?_, ?_⟩
      · intro m hm
        cases m with
        | zero => simpa using h
        | succ m => have := h2 m (by simpa using hm); simpa using this
      · intro m hm hl
        cases m with
        | zero => simp at hm
        | succ m => have := h3 m (by simpa using hm) (by simpa using hl); simpa using this
    · rw [List.takeWhile_cons_of_neg (by simpa using h)]
      refine ⟨by simp, fun m h => absurd h (Nat.not_lt_zero _), fun m _ hl => ?_⟩
      have := hs 0 m (by omega) hl
      simp at this ⊢
      omega

theorem lossS_bd {l : List Tar} (h : ValidL l) {c d n : Int} (hc0 : 0 ≤ c) (hc : c < cropsN l) (hd : 0 ≤ d) (h0 : 0 ≤ n) (h1 : n ≤ 100) : 0 ≤ lossS l c d n ∧ lossS l c d n ≤ 100 := by
  obtain ⟨hv, hcr⟩ := h.at hd
  exact interp_bd hv.countsOK ((hv.rows c.toNat (by omega)).2 _ (hv.week_lt d)) h0 h1 (firstGe_found hv.countsOK.sorted n)
theorem partS_bd {l : List Tar} (h : ValidL l) {c d n : Int} (hc0 : 0 ≤ c) (hc : c < cropsN l) (hd : 0 ≤ d) (h0 : 0 ≤ n) (h1 : n ≤ 100) : 0 ≤ partS l c d n ∧ partS l c d n ≤ 100 := by
  have hb := lossS_bd h hc0 hc hd h0 h1
  have hl := (h.at hd).1.least
  unfold partS
  split
  · split <;> omega
  · omega
end Go.Hs

/- Words about memory: a world in which all cells are kept, and one block, a map, may turn. -/
namespace Go.Hs
open Go.RowKit

/-- Every cell reads as it did. -/
def KC (w w' : World) : Prop := ∀ k o v, w.cell? ⟨k, o, none⟩ = some v → w'.cell? ⟨k, o, none⟩ = some v
theorem Ext.kc {w w' : World} (h : Ext w w') : KC w w' := fun _ _ _ hc => h.keep hc
theorem KC.refl (w : World) : KC w w := fun _ _ _ h => h
theorem KC.trans {a b c : World} (h : KC a b) (k : KC b c) : KC a c := fun _ _ _ x => k _ _ _ (h _ _ _ x)

theorem IntAt.kc {w w' : World} (h : KC w w') (b o : Nat) (x : Int) (hi : IntAt w b o x) : IntAt w' b o x := ⟨h _ _ _ hi.1, hi.2⟩
theorem IntsV.kc {w w' : World} {v : Value} {xs : List Int} (h : KC w w') (k : IntsV w v xs) : IntsV w' v xs := SliceV.ext (IntAt.kc h) k
theorem IntsAt.kc {w w' : World} (h : KC w w') (b o : Nat) (xs : List Int) (k : IntsAt w b o xs) : IntsAt w' b o xs := let ⟨v, h1, h2⟩ := k; ⟨v, h _ _ _ h1, h2.kc h⟩
theorem Ints2V.kc {w w' : World} {v : Value} {xs : List (List Int)} (h : KC w w') (k : Ints2V w v xs) : Ints2V w' v xs := SliceV.ext (IntsAt.kc h) k
theorem Ints2At.kc {w w' : World} (h : KC w w') (b o : Nat) (xs : List (List Int)) (k : Ints2At w b o xs) : Ints2At w' b o xs := let ⟨v, h1, h2⟩ := k; ⟨v, h _ _ _ h1, h2.kc h⟩
theorem Ints3V.kc {w w' : World} {v : Value} {xs : List (List (List Int))} (h : KC w w') (k : Ints3V w v xs) : Ints3V w' v xs := SliceV.ext (Ints2At.kc h) k
theorem TarC.kc {w w' : World} {c3 c4 c5 : Value} {t : Tar} (h : KC w w') (k : TarC w c3 c4 c5 t) : TarC w' c3 c4 c5 t := ⟨k.f, k.l, k.weeks.kc h, k.counts.kc h, k.rates.kc h⟩
theorem TarAt.kc {w w' : World} (h : KC w w') (b o : Nat) (t : Tar) (k : TarAt w b o t) : TarAt w' b o t := by
  obtain ⟨c3, c4, c5, h0, h1, h2, h3, h4, h5, hc⟩ := k
  exact ⟨c3, c4, c5, h _ _ _ h0, h _ _ _ h1, h _ _ _ h2, h _ _ _ h3, h _ _ _ h4, h _ _ _ h5, hc.kc h⟩
theorem TarsV.kc {w w' : World} {v : Value} {xs : List Tar} (h : KC w w') (k : TarsV w v xs) : TarsV w' v xs := SliceV.ext (TarAt.kc h) k

/-- The world has grown, and block r alone may have turned. -/
structure ExtBut (r : Nat) (w w' : World) : Prop where
  os : w'.os = w.os
  tape : w'.tape = w.tape
  output : w'.output = w.output
  size : w.heap.size ≤ w'.heap.size
  block : ∀ k, k < w.heap.size → k ≠ r → w'.heap[k]? = w.heap[k]?
theorem Ext.but {w w' : World} (h : Ext w w') (r : Nat) : ExtBut r w w' := ⟨h.os, h.tape, h.output, h.size, fun k hk _ => h.block k hk⟩
theorem ExtBut.refl (r : Nat) (w : World) : ExtBut r w w := (Ext.refl w).but r
theorem ExtBut.trans {r : Nat} {a b c : World} (h : ExtBut r a b) (k : ExtBut r b c) : ExtBut r a c :=
  ⟨k.os.trans h.os, k.tape.trans h.tape, k.output.trans h.output, Nat.le_trans h.size k.size, fun i hi hr => (k.block i (Nat.lt_of_lt_of_le hi h.size) hr).trans (h.block i hi hr)⟩
theorem ExtBut.drew {r : Nat} {a b : World} (h : ExtBut r a b) : ExtBut r a b.drew := ⟨h.os, h.tape, h.output, h.size, h.block⟩
theorem ExtBut.drewN {r : Nat} {a b : World} (h : ExtBut r a b) (n : Nat) : ExtBut r a (b.drewN n) := ⟨h.os, h.tape, h.output, h.size, h.block⟩
/-- From a world on in which block r did not lie yet. -/
theorem ExtBut.ext {r : Nat} {a b c : World} (h : Ext a b) (hr : a.heap.size ≤ r) (k : ExtBut r b c) : Ext a c :=
  ⟨k.os.trans h.os, k.tape.trans h.tape, k.output.trans h.output, Nat.le_trans h.size k.size, fun i hi => (k.block i (Nat.lt_of_lt_of_le hi h.size) (by omega)).trans (h.block i hi)⟩

/-- The block is no row of cells. -/
def NoCells (w : World) (r : Nat) : Prop := ∀ o, w.cell? ⟨r, o, none⟩ = none
theorem ExtBut.kc {r : Nat} {w w' : World} (h : ExtBut r w w') (hn : NoCells w r) : KC w w' := fun k o v hc => by
  have hk : k < w.heap.size := lt_of_cell (a := ⟨k, o, none⟩) hc
  have hr : k ≠ r := by rintro rfl; rw [hn o] at hc; cases hc
  rw [World.cell?_of_block (w := w) (a := ⟨k, o, none⟩) (h.block k hk hr)]; exact hc
end Go.Hs
namespace Go.Hs
open Go.RowKit
/-- What the tariff of a day is, in its box. -/
def PartCut (W : World) (t : Tar) (v : Value) (w : World) : Prop := ∃ B u, v = .pointer (some ⟨B, 0, none⟩) ∧ Cell6 w B 0 u ∧ TarU w u t ∧ Ext W w ∧ W.heap.size ≤ B
theorem PartCut.late {W w2 : World} {t : Tar} {u : V6} (hx : Ext W w2) (hu : TarU W u t) (T : TypeId) : PartCut W t (.pointer (some ⟨w2.heap.size, 0, none⟩)) (w2.alloc (.cells #[u.c0, u.c1, u.c2, u.c3, u.c4, u.c5] T)) :=
  ⟨_, u, rfl, by simp [Cell6], hu.ext (hx.alloc _), hx.alloc _, hx.size⟩
theorem PartCut.early {W w2 : World} {t : Tar} {u z : V6} {B : Nat} (hx : Ext W w2) (hB : W.heap.size ≤ B) (hz : Cell6 w2 B 0 z) (hu : TarU W u t) : PartCut W t (.pointer (some ⟨B, 0, none⟩)) (World.set6 w2 B u) :=
  ⟨_, u, rfl, set6_cell hz, hu.ext (hx.set6 hB u), hx.set6 hB u, hB⟩
end Go.Hs

namespace Go.Hs
open Go.RowKit
/-- What 'loss' makes of the tariff of a day. -/
theorem loss_pre {l : List Tar} (hl : ValidL l) {c d : Int} (hc0 : 0 ≤ c) (hc1 : c < cropsN l) (hd : 0 ≤ d) :
    c < (atS l d).rates.length ∧ weekTo (atS l d).weeks d (atS l d).weeks.length < ((atS l d).rates.getD c.toNat []).length ∧ CountsOK (atS l d).counts ∧
    RowOK (atS l d).counts.length (((atS l d).rates.getD c.toNat []).getD (weekTo (atS l d).weeks d (atS l d).weeks.length) []) := by
  obtain ⟨hv, hcr⟩ := hl.at hd
  have hr := hv.rows c.toNat (by omega)
  exact ⟨by omega, by rw [hr.1]; exact hv.week_lt d, hv.countsOK, hr.2 _ (hv.week_lt d)⟩
end Go.Hs

namespace Go.Hs
open Go.RowKit
theorem pay_wrap {va ps : Int} (a1 : 0 ≤ va) (a2 : va ≤ 100000) (b1 : 0 ≤ ps) (b2 : ps ≤ 100) : 0 ≤ va * ps ∧ va * ps ≤ 10000000 := prod_bd a1 a2 b1 b2
/-- What is paid on a value. -/
def payI (va ps : Int) : Int := va * ps / 100
end Go.Hs
