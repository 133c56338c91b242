/- Plain laws: a claim with wider ranges, and one of one day and one count. -/
import Derived.Test.YtfjecbfcnngacaaBN
import Derived.Test.YtfjecbfcnngacaaBE
import Derived.Test.YtfjecbfcnngacaaBG
namespace Go.Proofs.Ytfjecbfcnngacaa
open Go.RowKit Go.Hs
theorem one_ok {l : List Tar} {c : Cla} {d n : Int} (hc : ClaimOK l c) (hd : c.dlo ≤ d ∧ d ≤ c.dhi) (hn : c.clo ≤ n ∧ n ≤ c.chi) : ClaimOK l ⟨c.crop, c.value, d, d, n, n⟩ := by
  have h1 := hc.day
  have h2 := hc.count
  exact ⟨hc.crop, hc.value, ⟨by simp only; omega, by simp, by simp only; omega⟩, by simp, ⟨by simp only; omega, by simp, by simp only; omega⟩⟩
theorem one_ends {l : List Tar} {c : Cla} {d n : Int} (hc : ClaimOK l c) (hd : c.dlo ≤ d ∧ d ≤ c.dhi) (hn : c.clo ≤ n ∧ n ≤ c.chi) :
    (endsS l ⟨c.crop, c.value, d, d, n, n⟩).lo = payS l c d n ∧ (endsS l ⟨c.crop, c.value, d, d, n, n⟩).hi = payS l c d n ∧ (endsS l c).lo ≤ payS l c d n ∧ payS l c d n ≤ (endsS l c).hi := by
  have h := ends_spec (l := l) (one_ok hc hd hn)
  obtain ⟨a1, a2⟩ := h.low
  obtain ⟨b1, b2⟩ := h.high
  obtain ⟨⟨g1, g2⟩, g3, g4⟩ := truthB_iff.1 a1
  obtain ⟨⟨k1, k2⟩, k3, k4⟩ := truthB_iff.1 b1
  simp only at g1 g2 g3 g4 k1 k2 k3 k4
  have e1 : (endsS l ⟨c.crop, c.value, d, d, n, n⟩).ld = d := by omega
  have e2 : (endsS l ⟨c.crop, c.value, d, d, n, n⟩).ln = n := by omega
  have e3 : (endsS l ⟨c.crop, c.value, d, d, n, n⟩).hd = d := by omega
  have e4 : (endsS l ⟨c.crop, c.value, d, d, n, n⟩).hn = n := by omega
  rw [e1, e2] at a2
  rw [e3, e4] at b2
  have := (ends_spec (l := l) hc).all d n (truthB_iff.2 ⟨hd, hn⟩)
  exact ⟨a2.symm, b2.symm, this.1, this.2⟩
theorem wider_ends {l : List Tar} {c x : Cla} (hc : ClaimOK l c) (hx : ClaimOK l x) (e1 : x.crop = c.crop) (e2 : x.value = c.value) (h1 : x.dlo ≤ c.dlo ∧ c.dhi ≤ x.dhi) (h2 : x.clo ≤ c.clo ∧ c.chi ≤ x.chi) :
    (endsS l x).lo ≤ (endsS l c).lo ∧ (endsS l c).hi ≤ (endsS l x).hi := by
  have h := ends_spec (l := l) hc
  have k := ends_spec (l := l) hx
  have e : ∀ d n, payS l x d n = payS l c d n := fun d n => by unfold payS; rw [e1, e2]
  have t1 : truthB x (endsS l c).ld (endsS l c).ln = true := by
    have := truthB_iff.1 h.low.1
    exact truthB_iff.2 ⟨by omega, by omega⟩
  have t2 : truthB x (endsS l c).hd (endsS l c).hn = true := by
    have := truthB_iff.1 h.high.1
    exact truthB_iff.2 ⟨by omega, by omega⟩
  have a1 := (k.all _ _ t1).1
  have a2 := (k.all _ _ t2).2
  rw [e, h.low.2] at a1
  rw [e, h.high.2] at a2
  exact ⟨a1, a2⟩
theorem cmax_i64 {x y z : Int} (h : z = if x < y then y else x) (ats : Array TypeId) (ty : TypeId) (w : World) : (Builtin.max_ ats ty #[.int .i64 x, .int .i64 y]).run Try.prog w = .ok (.int .i64 z) w := by
  rw [h]; rfl
theorem cmin_i64 {x y z : Int} (h : z = if y < x then y else x) (ats : Array TypeId) (ty : TypeId) (w : World) : (Builtin.min_ ats ty #[.int .i64 x, .int .i64 y]).run Try.prog w = .ok (.int .i64 z) w := by
  rw [h]; rfl
/-- Two boxes of a claim each, made since a world. -/
structure TwoB (W : World) (c : Cla) (A B : Nat) (w : World) : Prop where
  a : Cell6 w A 0 c.u
  b : Cell6 w B 0 c.u
  fa : ∀ o, w.frozen? ⟨A, o, none⟩ = false
  fb : ∀ o, w.frozen? ⟨B, o, none⟩ = false
  ab : A ≠ B
  ga : W.heap.size ≤ A
  gb : W.heap.size ≤ B
  ext : Ext W w
theorem ask_of {l : List Tar} {c : Cla} (hl : ValidL l) (hc : ClaimOK l c) : askS1 l c = 0 := by
  unfold askS1
  rw [if_neg (by simp [hl.check]), if_pos (claimB_iff.2 hc)]
/-- What the program answers where it answers. -/
theorem BoundsG_any {v : Value} {l : List Tar} {c : Cla} {w : World} (hl : ValidL l) (hc : ClaimOK l c) (hv : TarsV w v l) :
    Calls Try.prog 27 #[v, c.u.val] w fun e w' => e = .returned (.tuple #[.agg #[.int .i64 (endsS l c).lo, .int .i64 (endsS l c).hi], .int .i64 0]) ∧ Ext w w' := by
  have g := BoundsQ_any v l c w hv
  have e := ask_of hl hc
  unfold bLo bHi at g
  rw [e, if_pos rfl, if_pos rfl] at g
  exact g
theorem PayG_any {v : Value} {l : List Tar} {c : Cla} {d n : Int} {w : World} (hl : ValidL l) (hc : ClaimOK l c) (hd : c.dlo ≤ d ∧ d ≤ c.dhi) (hn : c.clo ≤ n ∧ n ≤ c.chi) (hv : TarsV w v l) :
    Calls Try.prog 43 #[v, c.u.val, .agg #[.int .i64 d, .int .i64 n]] w fun e w' => e = .returned (.tuple #[.int .i64 (payS l c d n), .int .i64 0]) ∧ Ext w w' := by
  have g := Pay_any v l c d n w hv
  have e := ask_of hl hc
  have ht : truthB c d n = true := truthB_iff.2 ⟨hd, hn⟩
  unfold payN payE at g
  rw [if_pos e, if_pos e, if_pos ht, if_pos ht] at g
  exact g
end Go.Proofs.Ytfjecbfcnngacaa
