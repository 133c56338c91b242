/- What goes through a list with a function, of package tariff: slices.IndexFunc, slices.ContainsFunc, all. Printed by gen_all.py. -/
import Derived.Test.YtfjecbfcnngacaaA
namespace Go.Proofs.Ytfjecbfcnngacaa
open Go.RowKit Go.Hs

set_option maxHeartbeats 400000 in
theorem idx_int (cap : Value) (a : Option Addr) (c : Nat) (us : List Value) (p : Nat → Bool) (I : Nat → World → Prop) (w : World)
    (hlen : us.length ≤ 140737488351232)
    (hrow : ∀ i w, I i w → Cells1 w a us)
    (hcall : ∀ i (h : i < us.length) w1, I i w1 → Calls Try.prog 116 #[us[i], cap] w1 fun e w2 => e = .returned (.bool (p i)) ∧ I (i + 1) w2)
    (h0 : I 0 w) :
    Calls Try.prog 121 #[.slice a us.length c, .func (.func 116) #[] #[cap]] w
      (IdxPost us.length p I) := by
  go_enter Try.func121, Try.ntmps121
  go_wp2
  go_loopw [4, 5, 8] (fun r j i wr => ∃ k : Nat, k ≤ us.length ∧ i = .int .i64 k ∧ (∀ m, m < k → p m = false) ∧ I k wr) (fun _ _ i _ => us.length - (intOf i).toNat)
  case atStart => exact ⟨0, Nat.zero_le _, rfl, fun m hm => absurd hm (Nat.not_lt_zero _), h0⟩
  case round =>
    obtain ⟨k, hk, rfl, hp, hI⟩ := hrel
    by_cases hlt : k < us.length
    · obtain ⟨b, off, rfl, hc⟩ := hrow k wr hI k hlt
      have hcell : wr.cell? ⟨b, off + k, none⟩ = some us[k] := hc
      have hc0 := hcall k hlt wr hI
      cases hpk : p k
      · rw [hpk] at hc0
        clear hcall hrow
        have HP := Lib.hid hpk; clear hpk
        go_wp2_with ((with_reducible refine hc0.mono ?_); rintro e w2 ⟨rfl, hI2⟩)
        go_roundw
        case rel => exact ⟨k + 1, by omega, by go_num, fun m hm => by
          by_cases e : m = k
          · subst e; exact HP.out
          · exact hp m (by omega), hI2⟩
        case measure => simp [intOf]; omega
      · rw [hpk] at hc0
        clear hcall hrow
        have HP := Lib.hid hpk; clear hpk
        have HP0 := Lib.hid hp; clear hp
        go_wp2_with ((with_reducible refine hc0.mono ?_); rintro e w2 ⟨rfl, hI2⟩)
        go_ret
        exact .inl ⟨k, hlt, HP.out, HP0.out, rfl, hI2⟩
    · have hk' : k = us.length := by omega
      subst hk'
      have HP0 := Lib.hid hp; clear hp
      clear hcall hrow
      go_wp2
      go_ret
      exact .inr ⟨HP0.out, rfl, hI⟩

set_option maxHeartbeats 400000 in
theorem cont_int (cap : Value) (a : Option Addr) (c : Nat) (us : List Value) (p : Nat → Bool) (I : Nat → World → Prop) (w : World)
    (hlen : us.length ≤ 140737488351232)
    (hrow : ∀ i w, I i w → Cells1 w a us)
    (hcall : ∀ i (h : i < us.length) w1, I i w1 → Calls Try.prog 116 #[us[i], cap] w1 fun e w2 => e = .returned (.bool (p i)) ∧ I (i + 1) w2)
    (h0 : I 0 w) :
    Calls Try.prog 115 #[.slice a us.length c, .func (.func 116) #[] #[cap]] w
      (ContPost us.length p I) := by
  have hi := idx_int cap a c us p I w hlen hrow hcall h0
  clear hrow hcall h0
  go_enter Try.func115, Try.ntmps115
  go_wp2_with ((with_reducible refine hi.mono ?_); rintro e w2 (⟨i, hi1, hi2, hi3, rfl, hi5⟩ | ⟨hi3, rfl, hi5⟩))
  · have H2 := Lib.hid hi2; clear hi2
    have H3 := Lib.hid hi3; clear hi3
    go_wp2
    go_ret
    exact ContPost.yes hi1 H2.out (by simp) hi5
  · have H3 := Lib.hid hi3; clear hi3
    go_wp2
    go_ret
    exact ContPost.no H3.out (by simp) hi5

set_option maxHeartbeats 400000 in
theorem alls_int (F : FuncId) (hF : FnOK F) (first caps : Array Value) (B : Nat) (x : Value) (r : Bool) (R : World → Prop) (w : World)
    (hcap : w.cell? ⟨B, 0, none⟩ = some (.func (.func F) first caps))
    (hcall : Calls Try.prog F (first.push x ++ caps) w fun e w2 => e = .returned (.bool r) ∧ R w2) :
    Calls Try.prog 116 #[x, .pointer (some ⟨B, 0, none⟩)] w fun e w2 => e = .returned (.bool (!r)) ∧ R w2 := by
  unfold FnOK at hF
  go_enter Try.func116, Try.ntmps116
  go_wp2_with ((with_reducible refine hcall.mono ?_); rintro e w2 ⟨rfl, hR⟩)
  go_ret
  exact ⟨rfl, hR⟩

set_option maxHeartbeats 400000 in
/-- 'all': it goes through the list till the function says no. -/
theorem all_int (F : FuncId) (hF : FnOK F) (first caps : Array Value) (a : Option Addr) (c : Nat) (us : List Value) (q : Nat → Bool) (I : Nat → World → Prop) (w : World)
    (hlen : us.length ≤ 140737488351232)
    (hrow : ∀ i w, I i w → Cells1 w a us)
    (hal : ∀ i w o, I i w → I i (w.alloc o))
    (hcall : ∀ i (h : i < us.length) w1, w.heap.size ≤ w1.heap.size → I i w1 → Calls Try.prog F (first.push us[i] ++ caps) w1 fun e w2 => e = .returned (.bool (q i)) ∧ I (i + 1) w2 ∧ Kept w.heap.size w1 w2)
    (h0 : I 0 w) :
    Calls Try.prog 102 #[.slice a us.length c, .func (.func F) first caps] w
      (AllPost us.length q I) := by
  have hi := cont_int (.pointer (some ⟨w.heap.size, 0, none⟩)) a c us (fun i => !q i) (AllInv w (.func (.func F) first caps) I) (w.alloc (.cells #[.func (.func F) first caps] 99)) hlen
    (fun i w1 h => hrow i w1 h.inv)
    (fun i h w1 hI => alls_int F hF first caps w.heap.size us[i] (q i) _ w1 hI.cell ((hcall i h w1 (Nat.le_trans (Nat.le_of_lt hI.size) (Ext.refl w1).size) hI.inv).mono fun e w3 h3 => ⟨h3.1, AllInv.next hI (Ext.refl w1) h3.2.1 h3.2.2⟩))
    ⟨by simp, by simp, hal _ _ _ h0⟩
  clear hrow hcall h0 hal
  go_enter Try.func102, Try.ntmps102
  go_wp2_with ((with_reducible refine hi.mono ?_); rintro e w2 ⟨i, hi1, hi2, rfl⟩)
  go_ret
  exact ⟨i, hi1, hi2.inv, ret_bool (by simp [allB, anyB, List.not_all_eq_any_not])⟩

/-- The same, where the function only makes the world grow. -/
theorem allx_int (F : FuncId) (hF : FnOK F) (first caps : Array Value) (a : Option Addr) (c : Nat) (us : List Value) (q : Nat → Bool) (w : World)
    (hlen : us.length ≤ 140737488351232) (hrow : Cells1 w a us)
    (hcall : ∀ i (h : i < us.length) w1, Ext w w1 → Calls Try.prog F (first.push us[i] ++ caps) w1 fun e w2 => e = .returned (.bool (q i)) ∧ Ext w1 w2) :
    Calls Try.prog 102 #[.slice a us.length c, .func (.func F) first caps] w fun e w' => e = .returned (.bool (allB us.length q)) ∧ Ext w w' :=
  (all_int F hF first caps a c us q (fun _ w' => Ext w w') w hlen (fun _ _ h => hrow.ext h) (fun _ _ o h => h.alloc o)
    (fun i h w1 _ hI => (hcall i h w1 hI).mono fun _ _ h2 => ⟨h2.1, hI.trans h2.2, h2.2.kept _⟩) (Ext.refl w)).mono fun _ _ ⟨_, _, hI, he⟩ => ⟨he, hI⟩

set_option maxHeartbeats 400000 in
theorem idx_ints (cap : Value) (a : Option Addr) (c : Nat) (us : List Value) (p : Nat → Bool) (I : Nat → World → Prop) (w : World)
    (hlen : us.length ≤ 140737488351232)
    (hrow : ∀ i w, I i w → Cells1 w a us)
    (hcall : ∀ i (h : i < us.length) w1, I i w1 → Calls Try.prog 114 #[us[i], cap] w1 fun e w2 => e = .returned (.bool (p i)) ∧ I (i + 1) w2)
    (h0 : I 0 w) :
    Calls Try.prog 120 #[.slice a us.length c, .func (.func 114) #[] #[cap]] w
      (IdxPost us.length p I) := by
  go_enter Try.func120, Try.ntmps120
  go_wp2
  go_loopw [4, 5, 8] (fun r j i wr => ∃ k : Nat, k ≤ us.length ∧ i = .int .i64 k ∧ (∀ m, m < k → p m = false) ∧ I k wr) (fun _ _ i _ => us.length - (intOf i).toNat)
  case atStart => exact ⟨0, Nat.zero_le _, rfl, fun m hm => absurd hm (Nat.not_lt_zero _), h0⟩
  case round =>
    obtain ⟨k, hk, rfl, hp, hI⟩ := hrel
    by_cases hlt : k < us.length
    · obtain ⟨b, off, rfl, hc⟩ := hrow k wr hI k hlt
      have hcell : wr.cell? ⟨b, off + k, none⟩ = some us[k] := hc
      have hc0 := hcall k hlt wr hI
      cases hpk : p k
      · rw [hpk] at hc0
        clear hcall hrow
        have HP := Lib.hid hpk; clear hpk
        go_wp2_with ((with_reducible refine hc0.mono ?_); rintro e w2 ⟨rfl, hI2⟩)
        go_roundw
        case rel => exact ⟨k + 1, by omega, by go_num, fun m hm => by
          by_cases e : m = k
          · subst e; exact HP.out
          · exact hp m (by omega), hI2⟩
        case measure => simp [intOf]; omega
      · rw [hpk] at hc0
        clear hcall hrow
        have HP := Lib.hid hpk; clear hpk
        have HP0 := Lib.hid hp; clear hp
        go_wp2_with ((with_reducible refine hc0.mono ?_); rintro e w2 ⟨rfl, hI2⟩)
        go_ret
        exact .inl ⟨k, hlt, HP.out, HP0.out, rfl, hI2⟩
    · have hk' : k = us.length := by omega
      subst hk'
      have HP0 := Lib.hid hp; clear hp
      clear hcall hrow
      go_wp2
      go_ret
      exact .inr ⟨HP0.out, rfl, hI⟩

set_option maxHeartbeats 400000 in
theorem cont_ints (cap : Value) (a : Option Addr) (c : Nat) (us : List Value) (p : Nat → Bool) (I : Nat → World → Prop) (w : World)
    (hlen : us.length ≤ 140737488351232)
    (hrow : ∀ i w, I i w → Cells1 w a us)
    (hcall : ∀ i (h : i < us.length) w1, I i w1 → Calls Try.prog 114 #[us[i], cap] w1 fun e w2 => e = .returned (.bool (p i)) ∧ I (i + 1) w2)
    (h0 : I 0 w) :
    Calls Try.prog 113 #[.slice a us.length c, .func (.func 114) #[] #[cap]] w
      (ContPost us.length p I) := by
  have hi := idx_ints cap a c us p I w hlen hrow hcall h0
  clear hrow hcall h0
  go_enter Try.func113, Try.ntmps113
  go_wp2_with ((with_reducible refine hi.mono ?_); rintro e w2 (⟨i, hi1, hi2, hi3, rfl, hi5⟩ | ⟨hi3, rfl, hi5⟩))
  · have H2 := Lib.hid hi2; clear hi2
    have H3 := Lib.hid hi3; clear hi3
    go_wp2
    go_ret
    exact ContPost.yes hi1 H2.out (by simp) hi5
  · have H3 := Lib.hid hi3; clear hi3
    go_wp2
    go_ret
    exact ContPost.no H3.out (by simp) hi5

set_option maxHeartbeats 400000 in
theorem alls_ints (F : FuncId) (hF : FnOK F) (first caps : Array Value) (B : Nat) (x : Value) (r : Bool) (R : World → Prop) (w : World)
    (hcap : w.cell? ⟨B, 0, none⟩ = some (.func (.func F) first caps))
    (hcall : Calls Try.prog F (first.push x ++ caps) w fun e w2 => e = .returned (.bool r) ∧ R w2) :
    Calls Try.prog 114 #[x, .pointer (some ⟨B, 0, none⟩)] w fun e w2 => e = .returned (.bool (!r)) ∧ R w2 := by
  unfold FnOK at hF
  go_enter Try.func114, Try.ntmps114
  go_wp2_with ((with_reducible refine hcall.mono ?_); rintro e w2 ⟨rfl, hR⟩)
  go_ret
  exact ⟨rfl, hR⟩

set_option maxHeartbeats 400000 in
/-- 'all': it goes through the list till the function says no. -/
theorem all_ints (F : FuncId) (hF : FnOK F) (first caps : Array Value) (a : Option Addr) (c : Nat) (us : List Value) (q : Nat → Bool) (I : Nat → World → Prop) (w : World)
    (hlen : us.length ≤ 140737488351232)
    (hrow : ∀ i w, I i w → Cells1 w a us)
    (hal : ∀ i w o, I i w → I i (w.alloc o))
    (hcall : ∀ i (h : i < us.length) w1, w.heap.size ≤ w1.heap.size → I i w1 → Calls Try.prog F (first.push us[i] ++ caps) w1 fun e w2 => e = .returned (.bool (q i)) ∧ I (i + 1) w2 ∧ Kept w.heap.size w1 w2)
    (h0 : I 0 w) :
    Calls Try.prog 100 #[.slice a us.length c, .func (.func F) first caps] w
      (AllPost us.length q I) := by
  have hi := cont_ints (.pointer (some ⟨w.heap.size, 0, none⟩)) a c us (fun i => !q i) (AllInv w (.func (.func F) first caps) I) (w.alloc (.cells #[.func (.func F) first caps] 142)) hlen
    (fun i w1 h => hrow i w1 h.inv)
    (fun i h w1 hI => alls_ints F hF first caps w.heap.size us[i] (q i) _ w1 hI.cell ((hcall i h w1 (Nat.le_trans (Nat.le_of_lt hI.size) (Ext.refl w1).size) hI.inv).mono fun e w3 h3 => ⟨h3.1, AllInv.next hI (Ext.refl w1) h3.2.1 h3.2.2⟩))
    ⟨by simp, by simp, hal _ _ _ h0⟩
  clear hrow hcall h0 hal
  go_enter Try.func100, Try.ntmps100
  go_wp2_with ((with_reducible refine hi.mono ?_); rintro e w2 ⟨i, hi1, hi2, rfl⟩)
  go_ret
  exact ⟨i, hi1, hi2.inv, ret_bool (by simp [allB, anyB, List.not_all_eq_any_not])⟩

/-- The same, where the function only makes the world grow. -/
theorem allx_ints (F : FuncId) (hF : FnOK F) (first caps : Array Value) (a : Option Addr) (c : Nat) (us : List Value) (q : Nat → Bool) (w : World)
    (hlen : us.length ≤ 140737488351232) (hrow : Cells1 w a us)
    (hcall : ∀ i (h : i < us.length) w1, Ext w w1 → Calls Try.prog F (first.push us[i] ++ caps) w1 fun e w2 => e = .returned (.bool (q i)) ∧ Ext w1 w2) :
    Calls Try.prog 100 #[.slice a us.length c, .func (.func F) first caps] w fun e w' => e = .returned (.bool (allB us.length q)) ∧ Ext w w' :=
  (all_ints F hF first caps a c us q (fun _ w' => Ext w w') w hlen (fun _ _ h => hrow.ext h) (fun _ _ o h => h.alloc o)
    (fun i h w1 _ hI => (hcall i h w1 hI).mono fun _ _ h2 => ⟨h2.1, hI.trans h2.2, h2.2.kept _⟩) (Ext.refl w)).mono fun _ _ ⟨_, _, hI, he⟩ => ⟨he, hI⟩

set_option maxHeartbeats 400000 in
theorem idx_ints2 (cap : Value) (a : Option Addr) (c : Nat) (us : List Value) (p : Nat → Bool) (I : Nat → World → Prop) (w : World)
    (hlen : us.length ≤ 140737488351232)
    (hrow : ∀ i w, I i w → Cells1 w a us)
    (hcall : ∀ i (h : i < us.length) w1, I i w1 → Calls Try.prog 106 #[us[i], cap] w1 fun e w2 => e = .returned (.bool (p i)) ∧ I (i + 1) w2)
    (h0 : I 0 w) :
    Calls Try.prog 117 #[.slice a us.length c, .func (.func 106) #[] #[cap]] w
      (IdxPost us.length p I) := by
  go_enter Try.func117, Try.ntmps117
  go_wp2
  go_loopw [4, 5, 8] (fun r j i wr => ∃ k : Nat, k ≤ us.length ∧ i = .int .i64 k ∧ (∀ m, m < k → p m = false) ∧ I k wr) (fun _ _ i _ => us.length - (intOf i).toNat)
  case atStart => exact ⟨0, Nat.zero_le _, rfl, fun m hm => absurd hm (Nat.not_lt_zero _), h0⟩
  case round =>
    obtain ⟨k, hk, rfl, hp, hI⟩ := hrel
    by_cases hlt : k < us.length
    · obtain ⟨b, off, rfl, hc⟩ := hrow k wr hI k hlt
      have hcell : wr.cell? ⟨b, off + k, none⟩ = some us[k] := hc
      have hc0 := hcall k hlt wr hI
      cases hpk : p k
      · rw [hpk] at hc0
        clear hcall hrow
        have HP := Lib.hid hpk; clear hpk
        go_wp2_with ((with_reducible refine hc0.mono ?_); rintro e w2 ⟨rfl, hI2⟩)
        go_roundw
        case rel => exact ⟨k + 1, by omega, by go_num, fun m hm => by
          by_cases e : m = k
          · subst e; exact HP.out
          · exact hp m (by omega), hI2⟩
        case measure => simp [intOf]; omega
      · rw [hpk] at hc0
        clear hcall hrow
        have HP := Lib.hid hpk; clear hpk
        have HP0 := Lib.hid hp; clear hp
        go_wp2_with ((with_reducible refine hc0.mono ?_); rintro e w2 ⟨rfl, hI2⟩)
        go_ret
        exact .inl ⟨k, hlt, HP.out, HP0.out, rfl, hI2⟩
    · have hk' : k = us.length := by omega
      subst hk'
      have HP0 := Lib.hid hp; clear hp
      clear hcall hrow
      go_wp2
      go_ret
      exact .inr ⟨HP0.out, rfl, hI⟩

set_option maxHeartbeats 400000 in
theorem cont_ints2 (cap : Value) (a : Option Addr) (c : Nat) (us : List Value) (p : Nat → Bool) (I : Nat → World → Prop) (w : World)
    (hlen : us.length ≤ 140737488351232)
    (hrow : ∀ i w, I i w → Cells1 w a us)
    (hcall : ∀ i (h : i < us.length) w1, I i w1 → Calls Try.prog 106 #[us[i], cap] w1 fun e w2 => e = .returned (.bool (p i)) ∧ I (i + 1) w2)
    (h0 : I 0 w) :
    Calls Try.prog 105 #[.slice a us.length c, .func (.func 106) #[] #[cap]] w
      (ContPost us.length p I) := by
  have hi := idx_ints2 cap a c us p I w hlen hrow hcall h0
  clear hrow hcall h0
  go_enter Try.func105, Try.ntmps105
  go_wp2_with ((with_reducible refine hi.mono ?_); rintro e w2 (⟨i, hi1, hi2, hi3, rfl, hi5⟩ | ⟨hi3, rfl, hi5⟩))
  · have H2 := Lib.hid hi2; clear hi2
    have H3 := Lib.hid hi3; clear hi3
    go_wp2
    go_ret
    exact ContPost.yes hi1 H2.out (by simp) hi5
  · have H3 := Lib.hid hi3; clear hi3
    go_wp2
    go_ret
    exact ContPost.no H3.out (by simp) hi5

set_option maxHeartbeats 400000 in
theorem alls_ints2 (F : FuncId) (hF : FnOK F) (first caps : Array Value) (B : Nat) (x : Value) (r : Bool) (R : World → Prop) (w : World)
    (hcap : w.cell? ⟨B, 0, none⟩ = some (.func (.func F) first caps))
    (hcall : Calls Try.prog F (first.push x ++ caps) w fun e w2 => e = .returned (.bool r) ∧ R w2) :
    Calls Try.prog 106 #[x, .pointer (some ⟨B, 0, none⟩)] w fun e w2 => e = .returned (.bool (!r)) ∧ R w2 := by
  unfold FnOK at hF
  go_enter Try.func106, Try.ntmps106
  go_wp2_with ((with_reducible refine hcall.mono ?_); rintro e w2 ⟨rfl, hR⟩)
  go_ret
  exact ⟨rfl, hR⟩

set_option maxHeartbeats 400000 in
/-- 'all': it goes through the list till the function says no. -/
theorem all_ints2 (F : FuncId) (hF : FnOK F) (first caps : Array Value) (a : Option Addr) (c : Nat) (us : List Value) (q : Nat → Bool) (I : Nat → World → Prop) (w : World)
    (hlen : us.length ≤ 140737488351232)
    (hrow : ∀ i w, I i w → Cells1 w a us)
    (hal : ∀ i w o, I i w → I i (w.alloc o))
    (hcall : ∀ i (h : i < us.length) w1, w.heap.size ≤ w1.heap.size → I i w1 → Calls Try.prog F (first.push us[i] ++ caps) w1 fun e w2 => e = .returned (.bool (q i)) ∧ I (i + 1) w2 ∧ Kept w.heap.size w1 w2)
    (h0 : I 0 w) :
    Calls Try.prog 89 #[.slice a us.length c, .func (.func F) first caps] w
      (AllPost us.length q I) := by
  have hi := cont_ints2 (.pointer (some ⟨w.heap.size, 0, none⟩)) a c us (fun i => !q i) (AllInv w (.func (.func F) first caps) I) (w.alloc (.cells #[.func (.func F) first caps] 129)) hlen
    (fun i w1 h => hrow i w1 h.inv)
    (fun i h w1 hI => alls_ints2 F hF first caps w.heap.size us[i] (q i) _ w1 hI.cell ((hcall i h w1 (Nat.le_trans (Nat.le_of_lt hI.size) (Ext.refl w1).size) hI.inv).mono fun e w3 h3 => ⟨h3.1, AllInv.next hI (Ext.refl w1) h3.2.1 h3.2.2⟩))
    ⟨by simp, by simp, hal _ _ _ h0⟩
  clear hrow hcall h0 hal
  go_enter Try.func89, Try.ntmps89
  go_wp2_with ((with_reducible refine hi.mono ?_); rintro e w2 ⟨i, hi1, hi2, rfl⟩)
  go_ret
  exact ⟨i, hi1, hi2.inv, ret_bool (by simp [allB, anyB, List.not_all_eq_any_not])⟩

/-- The same, where the function only makes the world grow. -/
theorem allx_ints2 (F : FuncId) (hF : FnOK F) (first caps : Array Value) (a : Option Addr) (c : Nat) (us : List Value) (q : Nat → Bool) (w : World)
    (hlen : us.length ≤ 140737488351232) (hrow : Cells1 w a us)
    (hcall : ∀ i (h : i < us.length) w1, Ext w w1 → Calls Try.prog F (first.push us[i] ++ caps) w1 fun e w2 => e = .returned (.bool (q i)) ∧ Ext w1 w2) :
    Calls Try.prog 89 #[.slice a us.length c, .func (.func F) first caps] w fun e w' => e = .returned (.bool (allB us.length q)) ∧ Ext w w' :=
  (all_ints2 F hF first caps a c us q (fun _ w' => Ext w w') w hlen (fun _ _ h => hrow.ext h) (fun _ _ o h => h.alloc o)
    (fun i h w1 _ hI => (hcall i h w1 hI).mono fun _ _ h2 => ⟨h2.1, hI.trans h2.2, h2.2.kept _⟩) (Ext.refl w)).mono fun _ _ ⟨_, _, hI, he⟩ => ⟨he, hI⟩

set_option maxHeartbeats 400000 in
theorem idx_tar (cap : Value) (a : Option Addr) (c : Nat) (us : List V6) (p : Nat → Bool) (I : Nat → World → Prop) (w : World)
    (hlen : us.length ≤ 140737488351232)
    (hrow : ∀ i w, I i w → Cells6 w a us)
    (hcall : ∀ i (h : i < us.length) w1, I i w1 → Calls Try.prog 86 #[us[i].val, cap] w1 fun e w2 => e = .returned (.bool (p i)) ∧ I (i + 1) w2)
    (h0 : I 0 w) :
    Calls Try.prog 99 #[.slice a us.length c, .func (.func 86) #[] #[cap]] w
      (IdxPost us.length p I) := by
  go_enter Try.func99, Try.ntmps99
  go_wp2
  go_loopw [4, 5, 8] (fun r j i wr => ∃ k : Nat, k ≤ us.length ∧ i = .int .i64 k ∧ (∀ m, m < k → p m = false) ∧ I k wr) (fun _ _ i _ => us.length - (intOf i).toNat)
  case atStart => exact ⟨0, Nat.zero_le _, rfl, fun m hm => absurd hm (Nat.not_lt_zero _), h0⟩
  case round =>
    obtain ⟨k, hk, rfl, hp, hI⟩ := hrel
    by_cases hlt : k < us.length
    · obtain ⟨b, off, rfl, g0, g1, g2, g3, g4, g5⟩ := hrow k wr hI k hlt
      have hc0 := hcall k hlt wr hI
      cases hpk : p k
      · rw [hpk] at hc0
        clear hcall hrow
        have HP := Lib.hid hpk; clear hpk
        go_wp2_with ((with_reducible refine hc0.mono ?_); rintro e w2 ⟨rfl, hI2⟩)
        go_roundw
        case rel => exact ⟨k + 1, by omega, by go_num, fun m hm => by
          by_cases e : m = k
          · subst e; exact HP.out
          · exact hp m (by omega), hI2⟩
        case measure => simp [intOf]; omega
      · rw [hpk] at hc0
        clear hcall hrow
        have HP := Lib.hid hpk; clear hpk
        have HP0 := Lib.hid hp; clear hp
        go_wp2_with ((with_reducible refine hc0.mono ?_); rintro e w2 ⟨rfl, hI2⟩)
        go_ret
        exact .inl ⟨k, hlt, HP.out, HP0.out, rfl, hI2⟩
    · have hk' : k = us.length := by omega
      subst hk'
      have HP0 := Lib.hid hp; clear hp
      clear hcall hrow
      go_wp2
      go_ret
      exact .inr ⟨HP0.out, rfl, hI⟩

set_option maxHeartbeats 400000 in
theorem cont_tar (cap : Value) (a : Option Addr) (c : Nat) (us : List V6) (p : Nat → Bool) (I : Nat → World → Prop) (w : World)
    (hlen : us.length ≤ 140737488351232)
    (hrow : ∀ i w, I i w → Cells6 w a us)
    (hcall : ∀ i (h : i < us.length) w1, I i w1 → Calls Try.prog 86 #[us[i].val, cap] w1 fun e w2 => e = .returned (.bool (p i)) ∧ I (i + 1) w2)
    (h0 : I 0 w) :
    Calls Try.prog 85 #[.slice a us.length c, .func (.func 86) #[] #[cap]] w
      (ContPost us.length p I) := by
  have hi := idx_tar cap a c us p I w hlen hrow hcall h0
  clear hrow hcall h0
  go_enter Try.func85, Try.ntmps85
  go_wp2_with ((with_reducible refine hi.mono ?_); rintro e w2 (⟨i, hi1, hi2, hi3, rfl, hi5⟩ | ⟨hi3, rfl, hi5⟩))
  · have H2 := Lib.hid hi2; clear hi2
    have H3 := Lib.hid hi3; clear hi3
    go_wp2
    go_ret
    exact ContPost.yes hi1 H2.out (by simp) hi5
  · have H3 := Lib.hid hi3; clear hi3
    go_wp2
    go_ret
    exact ContPost.no H3.out (by simp) hi5

set_option maxHeartbeats 400000 in
theorem alls_tar (F : FuncId) (hF : FnOK F) (first caps : Array Value) (B : Nat) (x : V6) (r : Bool) (R : World → Prop) (w : World)
    (hcap : w.cell? ⟨B, 0, none⟩ = some (.func (.func F) first caps))
    (hcall : Calls Try.prog F (first.push x.val ++ caps) (w.alloc (.cells #[x.c0, x.c1, x.c2, x.c3, x.c4, x.c5] 96)) fun e w2 => e = .returned (.bool r) ∧ R w2) :
    Calls Try.prog 86 #[x.val, .pointer (some ⟨B, 0, none⟩)] w fun e w2 => e = .returned (.bool (!r)) ∧ R w2 := by
  unfold FnOK at hF
  have hB : B < w.heap.size := lt_of_cell hcap
  go_enter Try.func86, Try.ntmps86
  go_wp2_with ((with_reducible refine hcall.mono ?_); rintro e w2 ⟨rfl, hR⟩)
  go_ret
  exact ⟨rfl, hR⟩

set_option maxHeartbeats 400000 in
/-- 'all': it goes through the list till the function says no. -/
theorem all_tar (F : FuncId) (hF : FnOK F) (first caps : Array Value) (a : Option Addr) (c : Nat) (us : List V6) (q : Nat → Bool) (I : Nat → World → Prop) (w : World)
    (hlen : us.length ≤ 140737488351232)
    (hrow : ∀ i w, I i w → Cells6 w a us)
    (hal : ∀ i w o, I i w → I i (w.alloc o))
    (hcall : ∀ i (h : i < us.length) w1, w.heap.size ≤ w1.heap.size → I i w1 → Calls Try.prog F (first.push us[i].val ++ caps) w1 fun e w2 => e = .returned (.bool (q i)) ∧ I (i + 1) w2 ∧ Kept w.heap.size w1 w2)
    (h0 : I 0 w) :
    Calls Try.prog 65 #[.slice a us.length c, .func (.func F) first caps] w
      (AllPost us.length q I) := by
  have hi := cont_tar (.pointer (some ⟨w.heap.size, 0, none⟩)) a c us (fun i => !q i) (AllInv w (.func (.func F) first caps) I) (w.alloc (.cells #[.func (.func F) first caps] 109)) hlen
    (fun i w1 h => hrow i w1 h.inv)
    (fun i h w1 hI => alls_tar F hF first caps w.heap.size us[i] (q i) _ w1 hI.cell ((hcall i h (w1.alloc (.cells #[us[i].c0, us[i].c1, us[i].c2, us[i].c3, us[i].c4, us[i].c5] 96)) (Nat.le_trans (Nat.le_of_lt hI.size) ((Ext.refl w1).alloc (.cells #[us[i].c0, us[i].c1, us[i].c2, us[i].c3, us[i].c4, us[i].c5] 96)).size) (hal _ _ _ hI.inv)).mono fun e w3 h3 => ⟨h3.1, AllInv.next hI ((Ext.refl w1).alloc (.cells #[us[i].c0, us[i].c1, us[i].c2, us[i].c3, us[i].c4, us[i].c5] 96)) h3.2.1 h3.2.2⟩))
    ⟨by simp, by simp, hal _ _ _ h0⟩
  clear hrow hcall h0 hal
  go_enter Try.func65, Try.ntmps65
  go_wp2_with ((with_reducible refine hi.mono ?_); rintro e w2 ⟨i, hi1, hi2, rfl⟩)
  go_ret
  exact ⟨i, hi1, hi2.inv, ret_bool (by simp [allB, anyB, List.not_all_eq_any_not])⟩

/-- The same, where the function only makes the world grow. -/
theorem allx_tar (F : FuncId) (hF : FnOK F) (first caps : Array Value) (a : Option Addr) (c : Nat) (us : List V6) (q : Nat → Bool) (w : World)
    (hlen : us.length ≤ 140737488351232) (hrow : Cells6 w a us)
    (hcall : ∀ i (h : i < us.length) w1, Ext w w1 → Calls Try.prog F (first.push us[i].val ++ caps) w1 fun e w2 => e = .returned (.bool (q i)) ∧ Ext w1 w2) :
    Calls Try.prog 65 #[.slice a us.length c, .func (.func F) first caps] w fun e w' => e = .returned (.bool (allB us.length q)) ∧ Ext w w' :=
  (all_tar F hF first caps a c us q (fun _ w' => Ext w w') w hlen (fun _ _ h => hrow.ext h) (fun _ _ o h => h.alloc o)
    (fun i h w1 _ hI => (hcall i h w1 hI).mono fun _ _ h2 => ⟨h2.1, hI.trans h2.2, h2.2.kept _⟩) (Ext.refl w)).mono fun _ _ ⟨_, _, hI, he⟩ => ⟨he, hI⟩

set_option maxHeartbeats 400000 in
theorem idx_cla (cap : Value) (a : Option Addr) (c : Nat) (us : List V6) (p : Nat → Bool) (I : Nat → World → Prop) (w : World)
    (hlen : us.length ≤ 140737488351232)
    (hrow : ∀ i w, I i w → Cells6 w a us)
    (hcall : ∀ i (h : i < us.length) w1, I i w1 → Calls Try.prog 109 #[us[i].val, cap] w1 fun e w2 => e = .returned (.bool (p i)) ∧ I (i + 1) w2)
    (h0 : I 0 w) :
    Calls Try.prog 118 #[.slice a us.length c, .func (.func 109) #[] #[cap]] w
      (IdxPost us.length p I) := by
  go_enter Try.func118, Try.ntmps118
  go_wp2
  go_loopw [4, 5, 8] (fun r j i wr => ∃ k : Nat, k ≤ us.length ∧ i = .int .i64 k ∧ (∀ m, m < k → p m = false) ∧ I k wr) (fun _ _ i _ => us.length - (intOf i).toNat)
  case atStart => exact ⟨0, Nat.zero_le _, rfl, fun m hm => absurd hm (Nat.not_lt_zero _), h0⟩
  case round =>
    obtain ⟨k, hk, rfl, hp, hI⟩ := hrel
    by_cases hlt : k < us.length
    · obtain ⟨b, off, rfl, g0, g1, g2, g3, g4, g5⟩ := hrow k wr hI k hlt
      have hc0 := hcall k hlt wr hI
      cases hpk : p k
      · rw [hpk] at hc0
        clear hcall hrow
        have HP := Lib.hid hpk; clear hpk
        go_wp2_with ((with_reducible refine hc0.mono ?_); rintro e w2 ⟨rfl, hI2⟩)
        go_roundw
        case rel => exact ⟨k + 1, by omega, by go_num, fun m hm => by
          by_cases e : m = k
          · subst e; exact HP.out
          · exact hp m (by omega), hI2⟩
        case measure => simp [intOf]; omega
      · rw [hpk] at hc0
        clear hcall hrow
        have HP := Lib.hid hpk; clear hpk
        have HP0 := Lib.hid hp; clear hp
        go_wp2_with ((with_reducible refine hc0.mono ?_); rintro e w2 ⟨rfl, hI2⟩)
        go_ret
        exact .inl ⟨k, hlt, HP.out, HP0.out, rfl, hI2⟩
    · have hk' : k = us.length := by omega
      subst hk'
      have HP0 := Lib.hid hp; clear hp
      clear hcall hrow
      go_wp2
      go_ret
      exact .inr ⟨HP0.out, rfl, hI⟩

set_option maxHeartbeats 400000 in
theorem cont_cla (cap : Value) (a : Option Addr) (c : Nat) (us : List V6) (p : Nat → Bool) (I : Nat → World → Prop) (w : World)
    (hlen : us.length ≤ 140737488351232)
    (hrow : ∀ i w, I i w → Cells6 w a us)
    (hcall : ∀ i (h : i < us.length) w1, I i w1 → Calls Try.prog 109 #[us[i].val, cap] w1 fun e w2 => e = .returned (.bool (p i)) ∧ I (i + 1) w2)
    (h0 : I 0 w) :
    Calls Try.prog 108 #[.slice a us.length c, .func (.func 109) #[] #[cap]] w
      (ContPost us.length p I) := by
  have hi := idx_cla cap a c us p I w hlen hrow hcall h0
  clear hrow hcall h0
  go_enter Try.func108, Try.ntmps108
  go_wp2_with ((with_reducible refine hi.mono ?_); rintro e w2 (⟨i, hi1, hi2, hi3, rfl, hi5⟩ | ⟨hi3, rfl, hi5⟩))
  · have H2 := Lib.hid hi2; clear hi2
    have H3 := Lib.hid hi3; clear hi3
    go_wp2
    go_ret
    exact ContPost.yes hi1 H2.out (by simp) hi5
  · have H3 := Lib.hid hi3; clear hi3
    go_wp2
    go_ret
    exact ContPost.no H3.out (by simp) hi5

set_option maxHeartbeats 400000 in
theorem alls_cla (F : FuncId) (hF : FnOK F) (first caps : Array Value) (B : Nat) (x : V6) (r : Bool) (R : World → Prop) (w : World)
    (hcap : w.cell? ⟨B, 0, none⟩ = some (.func (.func F) first caps))
    (hcall : Calls Try.prog F (first.push x.val ++ caps) (w.alloc (.cells #[x.c0, x.c1, x.c2, x.c3, x.c4, x.c5] 44)) fun e w2 => e = .returned (.bool r) ∧ R w2) :
    Calls Try.prog 109 #[x.val, .pointer (some ⟨B, 0, none⟩)] w fun e w2 => e = .returned (.bool (!r)) ∧ R w2 := by
  unfold FnOK at hF
  have hB : B < w.heap.size := lt_of_cell hcap
  go_enter Try.func109, Try.ntmps109
  go_wp2_with ((with_reducible refine hcall.mono ?_); rintro e w2 ⟨rfl, hR⟩)
  go_ret
  exact ⟨rfl, hR⟩

set_option maxHeartbeats 400000 in
/-- 'all': it goes through the list till the function says no. -/
theorem all_cla (F : FuncId) (hF : FnOK F) (first caps : Array Value) (a : Option Addr) (c : Nat) (us : List V6) (q : Nat → Bool) (I : Nat → World → Prop) (w : World)
    (hlen : us.length ≤ 140737488351232)
    (hrow : ∀ i w, I i w → Cells6 w a us)
    (hal : ∀ i w o, I i w → I i (w.alloc o))
    (hcall : ∀ i (h : i < us.length) w1, w.heap.size ≤ w1.heap.size → I i w1 → Calls Try.prog F (first.push us[i].val ++ caps) w1 fun e w2 => e = .returned (.bool (q i)) ∧ I (i + 1) w2 ∧ Kept w.heap.size w1 w2)
    (h0 : I 0 w) :
    Calls Try.prog 91 #[.slice a us.length c, .func (.func F) first caps] w
      (AllPost us.length q I) := by
  have hi := cont_cla (.pointer (some ⟨w.heap.size, 0, none⟩)) a c us (fun i => !q i) (AllInv w (.func (.func F) first caps) I) (w.alloc (.cells #[.func (.func F) first caps] 131)) hlen
    (fun i w1 h => hrow i w1 h.inv)
    (fun i h w1 hI => alls_cla F hF first caps w.heap.size us[i] (q i) _ w1 hI.cell ((hcall i h (w1.alloc (.cells #[us[i].c0, us[i].c1, us[i].c2, us[i].c3, us[i].c4, us[i].c5] 44)) (Nat.le_trans (Nat.le_of_lt hI.size) ((Ext.refl w1).alloc (.cells #[us[i].c0, us[i].c1, us[i].c2, us[i].c3, us[i].c4, us[i].c5] 44)).size) (hal _ _ _ hI.inv)).mono fun e w3 h3 => ⟨h3.1, AllInv.next hI ((Ext.refl w1).alloc (.cells #[us[i].c0, us[i].c1, us[i].c2, us[i].c3, us[i].c4, us[i].c5] 44)) h3.2.1 h3.2.2⟩))
    ⟨by simp, by simp, hal _ _ _ h0⟩
  clear hrow hcall h0 hal
  go_enter Try.func91, Try.ntmps91
  go_wp2_with ((with_reducible refine hi.mono ?_); rintro e w2 ⟨i, hi1, hi2, rfl⟩)
  go_ret
  exact ⟨i, hi1, hi2.inv, ret_bool (by simp [allB, anyB, List.not_all_eq_any_not])⟩

/-- The same, where the function only makes the world grow. -/
theorem allx_cla (F : FuncId) (hF : FnOK F) (first caps : Array Value) (a : Option Addr) (c : Nat) (us : List V6) (q : Nat → Bool) (w : World)
    (hlen : us.length ≤ 140737488351232) (hrow : Cells6 w a us)
    (hcall : ∀ i (h : i < us.length) w1, Ext w w1 → Calls Try.prog F (first.push us[i].val ++ caps) w1 fun e w2 => e = .returned (.bool (q i)) ∧ Ext w1 w2) :
    Calls Try.prog 91 #[.slice a us.length c, .func (.func F) first caps] w fun e w' => e = .returned (.bool (allB us.length q)) ∧ Ext w w' :=
  (all_cla F hF first caps a c us q (fun _ w' => Ext w w') w hlen (fun _ _ h => hrow.ext h) (fun _ _ o h => h.alloc o)
    (fun i h w1 _ hI => (hcall i h w1 hI).mono fun _ _ h2 => ⟨h2.1, hI.trans h2.2, h2.2.kept _⟩) (Ext.refl w)).mono fun _ _ ⟨_, _, hI, he⟩ => ⟨he, hI⟩

end Go.Proofs.Ytfjecbfcnngacaa
