/- Plain laws of layer 7: what is changed in a field that does not matter any more. -/
import Derived.Test.YtbmjnilcinfdiaaGreatKXB
set_option linter.unusedSimpArgs false
set_option linter.unusedVariables false
namespace Go.Hs
open Go.RowKit Go.Proofs.YtbmjnilcinfdiaaGreat
def Fld.known (f : Fld) : Fld := { f with uhi := f.ulo }
def Fld.free (f : Fld) : Fld := { f with value := 0 }
theorem known_ok {l : List Tar} {f : Fld} (h : FldOK l f) : FldOK l f.known := ⟨h.crop, h.value, h.near, h.a, h.b, by have := h.u; simp only [Fld.known]; omega⟩
theorem free_ok {l : List Tar} {f : Fld} (h : FldOK l f) : FldOK l f.free := ⟨h.crop, by simp only [Fld.free]; omega, h.near, h.a, h.b, h.u⟩
theorem idle_no {c : Cas} {k : Nat} (hk : k < c.flds.length) {f : Fld} (hf : matterB (c.withF (c.flds.set k f)) f = false) : ¬ (k : Int) ∈ mattersS (c.withF (c.flds.set k f)) := fun hm => by
  obtain ⟨-, h2⟩ := mem_matters.1 hm
  have e : (c.withF (c.flds.set k f)).flds.getD k default = f := by simp [Cas.withF, hk]
  rw [e, hf] at h2
  cases h2
theorem idle_near {c : Cas} (h : CasOK c) {k : Nat} (hk : k < c.flds.length) : ¬ (k : Int) ∈ mattersS (c.withF (c.flds.set k (c.flds[k].withNear 100))) :=
  idle_no hk (matter_never (near_never (h.flds _ (List.getElem_mem hk))))
theorem idle_known {c : Cas} {k : Nat} (hk : k < c.flds.length) : ¬ (k : Int) ∈ mattersS (c.withF (c.flds.set k (c.flds[k].known))) :=
  idle_no hk (matter_known rfl)
theorem idle_free {c : Cas} (he : caseE c = 0) {k : Nat} (hk : k < c.flds.length) : ¬ (k : Int) ∈ mattersS (c.withF (c.flds.set k (c.flds[k].free))) := by
  have hf := free_ok ((caseE_zero he).flds _ (List.getElem_mem hk))
  have hx := setF_E he (k := k) hf
  exact idle_no hk (matter_free (caseE_zero hx) (caseE_tars hx) hf rfl)
theorem idle_called {c : Cas} {k : Nat} (hk : k < c.flds.length) (h : calledV c.flds[k] = 2) : ¬ (k : Int) ∈ mattersS c := fun hm => by
  obtain ⟨-, h2⟩ := mem_matters.1 hm
  have e : c.flds.getD k default = c.flds[k] := by simp [hk]
  rw [e, matter_never h] at h2
  cases h2
end Go.Hs
