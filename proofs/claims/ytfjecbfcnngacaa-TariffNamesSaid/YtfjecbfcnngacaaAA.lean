/- Contracts: tariffs at work for some claims. -/
import Derived.Test.YtfjecbfcnngacaaX
namespace Go.Proofs.Ytfjecbfcnngacaa
open Go.RowKit Go.Hs
attribute [local irreducible] World.setCell World.alloc

def claimsB (l : List Tar) (cs : List Cla) : Bool := allB cs.length (fun i => claimB l (cs.getD i ⟨0, 0, 0, 0, 0, 0⟩))

theorem allcla (v : Value) (l : List Tar) (hl : 0 < l.length) (a : Option Addr) (c : Nat) (cs : List Cla) (hlen : cs.length ≤ 140737488351232) (w : World) (hv : TarsV w v l) (hc : Cells6 w a (cs.map Cla.u)) :
    Calls Try.prog 91 #[.slice a cs.length c, .func (.func 90) #[.agg #[v]] #[]] w fun e w' => e = .returned (.bool (claimsB l cs)) ∧ Ext w w' := by
  have h := allx_cla 90 fn_claim #[.agg #[v]] #[] a c (cs.map Cla.u) (fun i => claimB l (cs.getD i ⟨0, 0, 0, 0, 0, 0⟩)) w (by simpa using hlen) hc
    (fun i hi w1 hx => by
      have hi' : i < cs.length := by simpa using hi
      have e1 : (cs.map Cla.u)[i] = (cs[i]).u := by simp
      rw [e1]
      refine (claim_any v l hl cs[i] w1 (hv.ext hx)).mono ?_
      rintro e w2 ⟨rfl, h2⟩
      exact ⟨ret_bool (by simp [hi']), h2⟩)
  rw [List.length_map] at h
  exact h

set_option maxRecDepth 100000 in
set_option maxHeartbeats 1000000 in
theorem asked_err (v vc : Value) (l : List Tar) (w : World) (hv : TarsV w v l) (h0 : checkS l ≠ 0) :
    Calls Try.prog 69 #[v, vc] w fun e w' => e = .returned (.tuple #[.pointer none, .int .i64 (checkS l)]) ∧ Ext w w' := by
  have hck := check_any v l w hv
  have hd : (checkS l != 0) = true := by simp [h0]
  clear h0
  generalize checkS l = ck at *
  go_enter Try.func69, Try.ntmps69
  go_wp2_with fail
  (with_reducible refine hck.mono ?_)
  rintro e w1 ⟨rfl, hx1⟩
  go_wp2_with fail
  go_ret2
  exact ⟨rfl, hx1⟩

set_option maxRecDepth 100000 in
set_option maxHeartbeats 1000000 in
theorem asked_no (v : Value) (l : List Tar) (a : Option Addr) (c : Nat) (cs : List Cla) (hlen : cs.length ≤ 140737488351232) (w : World) (hv : TarsV w v l) (hc : Cells6 w a (cs.map Cla.u)) (h0 : checkS l = 0) (h1 : claimsB l cs = false) :
    Calls Try.prog 69 #[v, .slice a cs.length c] w fun e w' => e = .returned (.tuple #[.pointer none, .int .i64 2]) ∧ Ext w w' := by
  have hck := check_any v l w hv
  have hl := validL_of h0
  rw [h0] at hck
  clear h0
  have hst : ∀ W', Ext w W' → Calls Try.prog 58 #[v] W' fun e w' => e = .returned (.pointer (some ⟨W'.heap.size + 1, 0, none⟩)) ∧ Ext W' w' ∧ WorkAt l (W'.heap.size + 1) W'.heap.size v w' := fun W' hx => start_any v l W' (hv.ext hx)
  have hal : ∀ W', Ext w W' → Calls Try.prog 91 #[.slice a cs.length c, .func (.func 90) #[.agg #[v]] #[]] W' fun e w' => e = .returned (.bool false) ∧ Ext W' w' := fun W' hx => by
    have := allcla v l hl.pos a c cs hlen W' (hv.ext hx) (hc.ext hx)
    rw [h1] at this; exact this
  clear h1 hc
  go_enter Try.func69, Try.ntmps69
  go_wp2_with fail
  (with_reducible refine hck.mono ?_)
  rintro e w1 ⟨rfl, hx1⟩
  go_wp2_with fail
  (with_reducible refine (hst _ hx1).mono ?_)
  rintro e w2 ⟨rfl, hx2, hw2⟩
  have k0 := hw2.list
  go_wp2_with fail
  (with_reducible refine (hal _ (hx1.trans hx2)).mono ?_)
  rintro e w3 ⟨rfl, hx3⟩
  go_wp2_with fail
  go_ret2
  exact ⟨rfl, by (repeat (first | exact Ext.refl _ | (with_reducible assumption) | (with_reducible refine Ext.drew ?_) | (with_reducible refine Ext.alloc ?_ _) | (with_reducible refine Ext.drewN ?_ _) | (with_reducible refine Ext.setCell ?_ (by omega) _) | (with_reducible refine Ext.trans ?_ (by with_reducible assumption))))⟩

set_option maxRecDepth 100000 in
set_option maxHeartbeats 1000000 in
theorem asked_ok (v : Value) (l : List Tar) (a : Option Addr) (c : Nat) (cs : List Cla) (hlen : cs.length ≤ 140737488351232) (w : World) (hv : TarsV w v l) (hc : Cells6 w a (cs.map Cla.u)) (h0 : checkS l = 0) (h1 : claimsB l cs = true) :
    Calls Try.prog 69 #[v, .slice a cs.length c] w fun e w' => ∃ p r, e = .returned (.tuple #[.pointer (some ⟨p, 0, none⟩), .int .i64 0]) ∧ Ext w w' ∧ WorkAt l p r v w' ∧ w.heap.size ≤ r := by
  have hck := check_any v l w hv
  have hl := validL_of h0
  rw [h0] at hck
  clear h0
  have hst : ∀ W', Ext w W' → Calls Try.prog 58 #[v] W' fun e w' => e = .returned (.pointer (some ⟨W'.heap.size + 1, 0, none⟩)) ∧ Ext W' w' ∧ WorkAt l (W'.heap.size + 1) W'.heap.size v w' := fun W' hx => start_any v l W' (hv.ext hx)
  have hal : ∀ W', Ext w W' → Calls Try.prog 91 #[.slice a cs.length c, .func (.func 90) #[.agg #[v]] #[]] W' fun e w' => e = .returned (.bool true) ∧ Ext W' w' := fun W' hx => by
    have := allcla v l hl.pos a c cs hlen W' (hv.ext hx) (hc.ext hx)
    rw [h1] at this; exact this
  clear h1 hc
  go_enter Try.func69, Try.ntmps69
  go_wp2_with fail
  (with_reducible refine hck.mono ?_)
  rintro e w1 ⟨rfl, hx1⟩
  go_wp2_with fail
  (with_reducible refine (hst _ hx1).mono ?_)
  rintro e w2 ⟨rfl, hx2, hw2⟩
  have k0 := hw2.list
  go_wp2_with fail
  (with_reducible refine (hal _ (hx1.trans hx2)).mono ?_)
  rintro e w3 ⟨rfl, hx3⟩
  go_wp2_with fail
  go_ret2
  exact ⟨_, _, rfl, by (repeat (first | exact Ext.refl _ | (with_reducible assumption) | (with_reducible refine Ext.drew ?_) | (with_reducible refine Ext.alloc ?_ _) | (with_reducible refine Ext.drewN ?_ _) | (with_reducible refine Ext.setCell ?_ (by omega) _) | (with_reducible refine Ext.trans ?_ (by with_reducible assumption)))), hw2.ext hx3, hx1.size⟩
end Go.Proofs.Ytfjecbfcnngacaa
