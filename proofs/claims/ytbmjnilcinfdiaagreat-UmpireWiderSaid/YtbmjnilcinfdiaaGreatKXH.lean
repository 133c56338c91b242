/- Plain laws of layer 7: a field with wider ranges. -/
import Derived.Test.YtbmjnilcinfdiaaGreatKXC
import Derived.Test.YtbmjnilcinfdiaaGreatKYC
set_option linter.unusedSimpArgs false
set_option linter.unusedVariables false
namespace Go.Hs
open Go.RowKit Go.Proofs.YtbmjnilcinfdiaaGreat
theorem idx_div {x : Int} {n : Nat} (hx : 0 ≤ x) (hn : 0 < n) : ∃ k : Nat, x.tdiv (n : Int) = (k : Int) ∧ x / (n : Int) = (k : Int) := by
  have h0 : 0 ≤ x / (n : Int) := Int.ediv_nonneg hx (by omega)
  refine ⟨(x / (n : Int)).toNat, ?_, by omega⟩
  rw [Int.tdiv_eq_ediv_of_nonneg hx]; omega
def Fld.wideA (f : Fld) (a b : Int) : Fld := { f with alo := a, ahi := b }
def Fld.wideB (f : Fld) (a b : Int) : Fld := { f with blo := a, bhi := b }
def Fld.wideU (f : Fld) (a b : Int) : Fld := { f with ulo := a, uhi := b }
theorem wide_ok {l : List Tar} {f : Fld} (h : FldOK l f) (r1 r2 r3 r4 r5 r6 : Nat) : WiderF f (((f.wideA (max 0 (f.alo - r1)) (min 100 (f.ahi + r2))).wideB (max 0 (f.blo - r3)) (min 100 (f.bhi + r4))).wideU (max 0 (f.ulo - r5)) (min 100 (f.uhi + r6))) := by
  have h1 := h.a; have h2 := h.b; have h3 := h.u
  refine ⟨rfl, rfl, rfl, ?_, ?_, ?_⟩ <;> simp only [Fld.wideA, Fld.wideB, Fld.wideU] <;> omega
theorem wide_list {l : List Fld} {k : Nat} {g : Fld} (hk : k < l.length) (h : WiderF l[k] g) : WiderL l (l.set k g) := WiderL.set l k (fun _ => h)
/-- Two cells of a field are changed. -/
theorem FldsAt.put2 {w : World} {g k j : Nat} {l : List Fld} {fA fB : Fld} {x y : Value} (h : FldsAt w g (l.set k fA)) (hk : k < l.length) (hj : j + 1 < 9)
    (hf : ∀ m, m < 9 → fB.c.cs[m]? = if m = j then some x else if m = j + 1 then some y else fA.c.cs[m]?) : FldsAt ((w.setCell ⟨g, k * 9 + j, none⟩ x).setCell ⟨g, k * 9 + j + 1, none⟩ y) g (l.set k fB) := by
  refine ⟨fun i hi => ?_, fun o => by rw [World.frozen?_setCell, World.frozen?_setCell]; exact h.fr o, by rw [World.size_setCell, World.size_setCell]; exact h.lt⟩
  have hi' : i < l.length := by simpa using hi
  obtain ⟨h0, h1, h2, h3, h4, h5, h6, h7, h8⟩ := h.cells i (by simpa using hi')
  by_cases e : k = i
  · subst e
    have e1 : (l.set k fB)[k] = fB := by simp
    have e2 : (l.set k fA)[k]'(by simpa using hi') = fA := by simp
    rw [e1]
    rw [e2] at h0 h1 h2 h3 h4 h5 h6 h7 h8
    have key : ∀ m u z, m < 9 → fA.c.cs[m]? = some u → w.cell? ⟨g, k * 9 + m, none⟩ = some u → fB.c.cs[m]? = some z → ((w.setCell ⟨g, k * 9 + j, none⟩ x).setCell ⟨g, k * 9 + j + 1, none⟩ y).cell? ⟨g, k * 9 + m, none⟩ = some z := by
      intro m u z hm hu hc hz
      rw [hf m hm] at hz
      by_cases em : m = j
      · subst em
        rw [if_pos rfl] at hz
        cases hz
        exact sc_ne' (.inr (by omega)) (sc_eq' hc)
      · rw [if_neg em] at hz
        by_cases en : m = j + 1
        · subst en
          rw [if_pos rfl] at hz
          cases hz
          exact sc_eq' (sc_ne' (.inr (by omega)) hc)
        · rw [if_neg en, hu] at hz
          cases hz
          exact sc_ne' (.inr (by omega)) (sc_ne' (.inr (by omega)) hc)
    exact ⟨key 0 _ _ (by decide) rfl h0 rfl, key 1 _ _ (by decide) rfl h1 rfl, key 2 _ _ (by decide) rfl h2 rfl, key 3 _ _ (by decide) rfl h3 rfl, key 4 _ _ (by decide) rfl h4 rfl, key 5 _ _ (by decide) rfl h5 rfl, key 6 _ _ (by decide) rfl h6 rfl, key 7 _ _ (by decide) rfl h7 rfl, key 8 _ _ (by decide) rfl h8 rfl⟩
  · have e1 : (l.set k fB)[i] = l[i] := by simp [e]
    have e2 : (l.set k fA)[i]'(by simpa using hi') = l[i] := by simp [e]
    rw [e1]
    rw [e2] at h0 h1 h2 h3 h4 h5 h6 h7 h8
    have q : ∀ o v, k * 9 + j ≠ o → k * 9 + j + 1 ≠ o → w.cell? ⟨g, o, none⟩ = some v → ((w.setCell ⟨g, k * 9 + j, none⟩ x).setCell ⟨g, k * 9 + j + 1, none⟩ y).cell? ⟨g, o, none⟩ = some v := fun o v n1 n2 hc => sc_ne' (.inr (Ne.symm n2)) (sc_ne' (.inr (Ne.symm n1)) hc)
    exact ⟨q _ _ (by omega) (by omega) h0, q _ _ (by omega) (by omega) h1, q _ _ (by omega) (by omega) h2, q _ _ (by omega) (by omega) h3, q _ _ (by omega) (by omega) h4, q _ _ (by omega) (by omega) h5, q _ _ (by omega) (by omega) h6, q _ _ (by omega) (by omega) h7, q _ _ (by omega) (by omega) h8⟩
theorem FldsAt.self {w : World} {g k : Nat} {l : List Fld} (h : FldsAt w g l) (hk : k < l.length) : FldsAt w g (l.set k l[k]) := by
  rw [List.set_getElem_self]; exact h
theorem FldsAt.at_set {w : World} {g k : Nat} {l : List Fld} {f : Fld} (h : FldsAt w g (l.set k f)) (hk : k < l.length) : Cell9 w g (k * 9) f.c := by
  have := h.cells k (by simpa using hk)
  have e : (l.set k f)[k]'(by simpa using hk) = f := by simp
  rw [e] at this
  exact this
end Go.Hs
