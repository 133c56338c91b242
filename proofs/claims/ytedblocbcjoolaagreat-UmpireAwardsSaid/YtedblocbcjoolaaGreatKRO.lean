/- Contracts of the reference of layer 7: the bounds. -/
import Derived.Test.YtedblocbcjoolaaGreatKRN
import Derived.Test.YtedblocbcjoolaaGreatKRL
import Derived.Test.YtedblocbcjoolaaGreatKXF
set_option linter.unusedSimpArgs false
set_option linter.unusedVariables false
namespace Go.Proofs.YtedblocbcjoolaaGreat
open Go.RowKit Go.Hs
attribute [local irreducible] World.setCell World.alloc
def resE (fee : Int) (l : List Oc) : Int × Int × Int := ((sumR l).award, (sumR l).far fee, (sumR l).soc fee)
theorem ask_res (k : Nat) (fee : Int) (l : List Oc) : askE3 k (resE fee l) = askR k fee (sumR l) := by
  rcases k with _ | _ | _ | _ | k <;> rfl
theorem resE_bd {c : Cas} (hc : CasOK c) (h0 : checkS c.tars = 0) : ∀ x ∈ (endsF c c.flds).map (resE c.fee), (0 ≤ x.1 ∧ x.1 ≤ 1000000) ∧ (0 ≤ x.2.1 ∧ x.2.1 ≤ 1000000) ∧ (0 ≤ x.2.2 ∧ x.2.2 ≤ 1000000) := by
  intro x hx
  obtain ⟨l, hl, rfl⟩ := List.mem_map.1 hx
  obtain ⟨t, ht, rfl⟩ := mem_ends.1 hl
  obtain ⟨hs, hk⟩ := like_sum hc h0 ht
  have hf := hc.fee
  have h1 := feeA_bd hf.1 (sumT c c.flds t)
  have h2 := feeB_bd hf.1 (sumT c c.flds t)
  have h3 := hs.a
  have hn := hc.few
  have h4 : 100000 * (c.flds.length : Int) ≤ 300000 := by omega
  have e0 := like_ask hk 0 c.fee
  have e1 := like_ask hk 1 c.fee
  have e2 := like_ask hk 2 c.fee
  simp only [askQ, askR] at e0 e1 e2
  simp only [resE]
  omega
set_option maxHeartbeats 4000000 in
theorem RBounds_any (c : Cas) (v : Value) (w : World) (hv : CasV w v c) (hc : CasOK c) (h0 : checkS c.tars = 0) :
    Calls Tryz.prog 12 #[v] w fun e w' => e = .returned (.tuple #[.agg #[.int .i64 (bLo c 0), .int .i64 (bHi c 0)], .agg #[.int .i64 (bLo c 1), .int .i64 (bHi c 1)], .agg #[.int .i64 (bLo c 2), .int .i64 (bHi c 2)], .agg #[.int .i64 (bLo c 3), .int .i64 (bHi c 4)]]) ∧ Ext w w' := by
  have hlen : ((endsF c c.flds).map (resE c.fee)).length = (endsF c c.flds).length := List.length_map ..
  have hle : (endsF c c.flds).length ≤ 1953125 := by
    have h1 := ends_len (c := c) (fs := c.flds) (fun f hf => by
      have h1 := outTo_len c f (truthsN f)
      rw [outTo_all] at h1
      exact Nat.le_trans h1 (truthsN_le (hc.flds _ hf)))
    refine Nat.le_trans h1 ?_
    have h2 := hc.few
    exact Nat.le_trans (Nat.pow_le_pow_right (n := 125) (by decide) (show c.flds.length ≤ 3 by omega)) (by decide)
  have hlo : ∀ k, loE ((endsF c c.flds).map (resE c.fee)) k ((endsF c c.flds).map (resE c.fee)).length = bLo c k := fun k => by
    rw [← (ref_bounds hc h0 k).1]
    unfold loE lowH
    rw [List.take_length, List.map_map]
    rw [show (askE3 k ∘ resE c.fee) = fun l => askR k c.fee (sumR l) from funext (fun l => ask_res k c.fee l)]
  have hhi : ∀ k, hiE ((endsF c c.flds).map (resE c.fee)) k ((endsF c c.flds).map (resE c.fee)).length = bHi c k := fun k => by
    rw [← (ref_bounds hc h0 k).2]
    unfold hiE highH
    rw [List.take_length, List.map_map]
    rw [show (askE3 k ∘ resE c.fee) = fun l => askR k c.fee (sumR l) from funext (fun l => ask_res k c.fee l)]
  obtain ⟨a1, c1, a2, c2, rfl, -, -, -, -, -⟩ := id hv.open
  have h := RBounds_gen (.slice a1 c.tars.length c1) (.int .i64 c.day) (.int .i64 c.fee) (.slice a2 c.flds.length c2) w ((endsF c c.flds).map (resE c.fee)) (by omega) (resE_bd hc h0)
    (Lib.hid (fun W hx => (REnds_any c _ W (hv.ext hx) hc h0).mono (fun e w' ⟨a, q, h1, h2, h3⟩ => by
      refine ⟨a, q, by rw [hlen]; exact h1, fun i hi => ?_, h3⟩
      rw [hlen] at hi
      obtain ⟨b, e1, e2, e3, e4, e5, -⟩ := h2.at hi
      refine ⟨b, e1, e2, ?_⟩
      rw [List.getElem_map]
      exact ⟨e3, e4, e5⟩)))
    (Lib.hid (fun lo hi n W => Hull_any lo hi n W))
  rw [hlo, hlo, hlo, hlo, hhi, hhi, hhi, hhi] at h
  exact h
end Go.Proofs.YtedblocbcjoolaaGreat
