/- Contracts: the reference's numbers of bits. -/
import Derived.Test.YtfjecbfcnngacaaCG
import Derived.Test.YtfjecbfcnngacaaCH
import Derived.Laws.Entries
namespace Go.Hs
open Go.RowKit
def tb (m p : Nat) : Bool := m / 2 ^ p % 2 == 1
def bitsTo (m p : Nat) : List Nat := (List.range p).filter (tb m)
def bitsL (m : Nat) : List Nat := bitsTo m 5
theorem bitsTo_next (m p : Nat) : bitsTo m (p + 1) = if tb m p then bitsTo m p ++ [p] else bitsTo m p := by
  unfold bitsTo
  rw [List.range_succ, List.filter_append]
  cases h : tb m p <;> simp [h]
theorem bits_end : ∀ m, m < 32 → ∀ p, p < 6 → m / 2 ^ p = 0 → bitsTo m p = bitsL m := by decide +kernel
theorem bits_more : ∀ m, m < 32 → ∀ p, p < 6 → 0 < m / 2 ^ p → p < 5 := by decide +kernel
theorem bits_len5 : ∀ m, m < 32 → ∀ p, p < 6 → (bitsTo m p).length ≤ 5 := by decide +kernel
theorem bitsTo_lt {m p x : Nat} (h : x ∈ bitsTo m p) : x < p := by
  have := (List.mem_filter.1 h).1
  simpa using this
theorem bitsTo_len (m p : Nat) : (bitsTo m p).length ≤ p := by
  have := List.length_filter_le (tb m) (List.range p)
  simpa [bitsTo] using this
end Go.Hs
namespace Go.Proofs.Ytfjecbfcnngacaa
open Go.RowKit Go.Hs
attribute [local irreducible] World.setCell World.alloc

set_option maxRecDepth 100000 in
set_option maxHeartbeats 2000000 in
theorem Bits_any (m : Nat) (hm : m < 32) (w : World) :
    Calls Try.prog 55 #[.int .i64 (m : Int)] w fun e w' => ∃ v, e = .returned v ∧ IntsV w' v (ints (bitsL m)) ∧ Ext w w' := by
  obtain ⟨i0, hi0, hz0, hz1, hz2⟩ := info_parts info_int
  go_enter Try.func55, Try.ntmps55
  go_wp2_with fail
  go_loopw [3, 4] (fun s3 s4 wr => ∃ (p n : Nat) (a : Option Addr) (q : Nat), p < 6 ∧ s4 = .int .i64 p ∧ s3 = .slice a n q ∧ Hid (n = (bitsTo m p).length ∧ wr.ownsRow w.heap.size 3 1 (.slice a n q) n ((ints (bitsTo m p)).map (Value.int .i64))) ∧ Ext w wr) (fun _ s _ => 10 - (intOf s).toNat)
  case atStart => exact ⟨0, 0, none, 0, by decide, rfl, rfl, ⟨rfl, World.ownsRow_nil _ _ _ _⟩, Ext.refl _⟩
  case round =>
    obtain ⟨p, n, a, q, hp, rfl, rfl, HO, hx⟩ := hrel
    obtain ⟨wo, rfl⟩ : ∃ x, x = wr := ⟨_, rfl⟩
    have hp0 : (0 : Int) ≤ (p : Int) := by omega
    have hp64 : (p : Int) ≤ 64 := by omega
    obtain ⟨s, hs⟩ : ∃ s, s = m / 2 ^ p := ⟨_, rfl⟩
    have hsl : s < 32 := by rw [hs]; exact Nat.lt_of_le_of_lt (Nat.div_le_self _ _) hm
    have hs' : (m : Int) / 2 ^ p = (s : Int) := by rw [hs]; simp
    have HSE := Lib.hid hs
    clear hs
    by_cases hz : 0 < s
    · have hz' : decide ((0 : Int) < (s : Int)) = true := decide_eq_true (by omega)
      have hp5 := bits_more m hm p hp (by rw [← HSE.out]; exact hz)
      obtain ⟨d, hd⟩ : ∃ d, d = s % 2 := ⟨_, rfl⟩
      have hd1 : (s : Int) % 2 = (d : Int) := by omega
      have hd2 : (s : Int).tmod 2 = (d : Int) := by rw [Int.tmod_eq_emod_of_nonneg (by omega)]; exact hd1
      have hdw : IntKind.i64.wrap (d : Int) = (d : Int) := IntWalk.i64_in _ (by omega)
      have HT : Hid (tb m p = (d == 1)) := Lib.hid (by unfold tb; rw [← HSE.out, hd])
      have hd01 : d = 0 ∨ d = 1 := by omega
      clear hd
      rcases hd01 with rfl | rfl
      · have HN : Hid (bitsTo m (p + 1) = bitsTo m p) := Lib.hid (by rw [bitsTo_next, HT.out]; rfl)
        clear HT
        go_wp2_with fail
        go_roundw
        case rel => exact ⟨p + 1, n, a, q, by omega, by go_num, rfl, Lib.hid (by rw [HN.out]; exact HO.out), hx⟩
        case measure => simp [intOf]; omega
      · have HN : Hid (bitsTo m (p + 1) = bitsTo m p ++ [p]) := Lib.hid (by rw [bitsTo_next, HT.out]; rfl)
        have hnl : n ≤ 5 := by have := bitsTo_len m p; have := HO.out.1; omega
        have OWN := Lib.hid HO.out.2
        have HL := Lib.hid HO.out.1
        clear HT HO
        go_wp2_with (at_builtin; refine wpList_append_own_at _ rfl _ _ 59 rfl w.heap.size 3 i0 (.int .i64 0) 1 8 Try.underlying59 hi0 hz0 hz1 hz2 rfl (by decide) (.slice a n q) n ((ints (bitsTo m p)).map (Value.int .i64)) rfl ?own ⟨wo.heap.size, 0, none⟩ 1 1 [.int .i64 (p : Int)] rfl rfl (one_in (Ext.refl _) rfl) ?one ?fit1 ?fit2 ?fit3 ?next)
        case own => exact own_keep OWN.out (fun g hg => ((Ext.refl wo).alloc _).heap (own_lt OWN.out hg).2)
        case one =>
          intro u hu
          simp only [List.mem_cons, List.not_mem_nil, or_false] at hu
          rw [hu]; rfl
        case fit1 => simp only [maxLen]; omega
        case fit2 => omega
        case fit3 => have h1 := hx.size; simp; omega
        case next =>
          intro v' w3 hown hgrow hnil hat
          have hx3 : Ext w w3 := grown_ext (hx.alloc _) hgrow (fun g hg => (own_lt OWN.out hg).1)
          have HO3 : Hid (n + 1 = (bitsTo m (p + 1)).length ∧ w3.ownsRow w.heap.size 3 1 v' (n + 1) ((ints (bitsTo m (p + 1))).map (Value.int .i64))) := Lib.hid (by
            rw [HN.out]
            exact ⟨by rw [List.length_append, ← HL.out]; rfl, by simpa [ints] using hown⟩)
          rcases own_open hown with ⟨-, h0⟩ | ⟨g, cap, rfl, -, -, -, -⟩
          · omega
          · clear hown hgrow hnil hat
            go_wp2_with fail
            go_roundw
            case rel => exact ⟨p + 1, n + 1, _, _, by omega, by go_num, rfl, HO3, hx3⟩
            case measure => simp [intOf]; omega
    · have e : s = 0 := by omega
      subst e
      have he := bits_end m hm p hp HSE.out.symm
      have HV : Hid (IntsV wo (.slice a n q) (ints (bitsL m))) := Lib.hid ((own_ints (N := 0) HO.out.2 (by rfl) HO.out.1 (Nat.zero_le _) (fun x hx => by have := bitsTo_lt hx; omega) (by have := bitsTo_len m p; have := bits_len5 m hm p hp; omega)).kc (mask_kc0 _ _) |> fun h => by rw [he] at h; exact h)
      clear he HO
      go_wp2_with fail
      go_ret
      exact ⟨_, rfl, HV.out, hx⟩
end Go.Proofs.Ytfjecbfcnngacaa
