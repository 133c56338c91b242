/- Contracts of the reference of layer 7: how a case ends in a truth. -/
import Derived.Test.YtedblocbcjoolaaGreatKRE
import Derived.Test.YtedblocbcjoolaaGreatKVO
import Derived.Test.YtedblocbcjoolaaGreatKRA
import Derived.Test.YtedblocbcjoolaaGreatKYH
set_option linter.unusedSimpArgs false
set_option linter.unusedVariables false
namespace Go.Hs
open Go.RowKit Go.Proofs.YtedblocbcjoolaaGreat
/-- The two lists that are being made. -/
structure Rows2 (B e1 e2 : Nat) (c : Cas) (t : List Thr) (k : Nat) (v1 v2 : Value) (w : World) : Prop where
  o1 : w.ownsRow B e1 3 v1 k ((ocsT c (c.flds.take k) (t.take k)).flatMap (fun o => o.c.cs))
  o2 : w.ownsRow B e2 1 v2 k ((countsT (c.flds.take k) (t.take k)).map (Value.int .i64))
  ne : ∀ g, v1.ownBlock = some g → ¬ v2.ownBlock = some g
theorem Rows2.nil (B e1 e2 : Nat) (c : Cas) (t : List Thr) (w : World) : Rows2 B e1 e2 c t 0 (.slice none 0 0) (.slice none 0 0) w :=
  ⟨World.ownsRow_nil _ _ _ _, World.ownsRow_nil _ _ _ _, fun g h => by simp [Value.ownBlock] at h⟩
theorem ocsT_len {c : Cas} {fs : List Fld} {t : List Thr} (h : t.length = fs.length) : (ocsT c fs t).length = fs.length := by simp [ocsT, h]
theorem ocsT_ok {c : Cas} (hc : CasOK c) (h0 : checkS c.tars = 0) {t : List Thr} (ht : TruthOf c.flds t) : ∀ o ∈ ocsT c c.flds t, OcOK o := fun o ho => by
  obtain ⟨hl, hx⟩ := truthOf_iff.1 ht
  obtain ⟨i, hi, rfl⟩ := List.getElem_of_mem ho
  have h1 : i < c.flds.length := by rw [ocsT_len hl] at hi; exact hi
  have h2 : i < t.length := by omega
  have e : (ocsT c c.flds t)[i] = ocS c c.flds[i] t[i] := by simp [ocsT]
  rw [e]
  exact ocS_ok hc h0 (hc.flds _ (List.getElem_mem h1)) (hx i h1 h2)
end Go.Hs
namespace Go.Proofs.YtedblocbcjoolaaGreat
open Go.RowKit Go.Hs
attribute [local irreducible] World.setCell World.alloc
theorem info_roc : (Tryz.prog.info? 128).map (fun i => (i.zero, i.size, i.bytes)) = some (some (.agg #[.int .i64 0, .bool false, .int .i64 0]), 3, 24) := by kernel_rfl
end Go.Proofs.YtedblocbcjoolaaGreat
