/- Contracts: a part. -/
import Derived.Test.YtfjecbfcnngacaaT
import Derived.Test.YtfjecbfcnngacaaP
import Derived.Laws.EntriesVeiled
namespace Go.Proofs.Ytfjecbfcnngacaa
open Go.RowKit Go.Hs

theorem Memo.noCells {f : Int → Int → Int → Int} {r : Nat} {w : World} (h : Memo f r w) : NoCells w r := fun o => by
  obtain ⟨es, clock, hr, -⟩ := h
  simp [World.cell?, hr]
theorem Memo.ext {f : Int → Int → Int → Int} {r : Nat} {w w' : World} (h : Memo f r w) (hx : Ext w w') : Memo f r w' := by
  obtain ⟨es, clock, hr, he⟩ := h
  exact ⟨es, clock, by rw [hx.heap (Array.getElem?_eq_some_iff.1 hr).1]; exact hr, he⟩
theorem Memo.lt {f : Int → Int → Int → Int} {r : Nat} {w : World} (h : Memo f r w) : r < w.heap.size := by
  obtain ⟨es, clock, hr, -⟩ := h
  exact (Array.getElem?_eq_some_iff.1 hr).1

/-- Tariffs at work: the list, and the map of the parts that are known. -/
structure WorkAt (l : List Tar) (p r : Nat) (v : Value) (w : World) : Prop where
  list : w.cell? ⟨p, 0, none⟩ = some v
  known : w.cell? ⟨p, 1, none⟩ = some (.map (some r))
  tars : TarsV w v l
  memo : Memo (partS l) r w
theorem WorkAt.ext {l : List Tar} {p r : Nat} {v : Value} {w w' : World} (h : WorkAt l p r v w) (hx : Ext w w') : WorkAt l p r v w' :=
  ⟨hx.keep h.list, hx.keep h.known, h.tars.ext hx, h.memo.ext hx⟩
theorem WorkAt.but {l : List Tar} {p r : Nat} {v : Value} {w w' : World} (h : WorkAt l p r v w) (hx : ExtBut r w w') (hm : Memo (partS l) r w') : WorkAt l p r v w' :=
  have k := hx.kc h.memo.noCells
  ⟨k _ _ _ h.list, k _ _ _ h.known, h.tars.kc k, hm⟩

theorem putObj_but (w : World) (r : Nat) (o : Obj) : ExtBut r w (w.putObj r o) :=
  ⟨rfl, rfl, rfl, by simp [World.putObj], fun k _ hk => World.putObj_heap_other hk⟩

set_option maxHeartbeats 400000 in
theorem start_any (v : Value) (l : List Tar) (w : World) (hv : TarsV w v l) :
    Calls Try.prog 58 #[v] w fun e w' => e = .returned (.pointer (some ⟨w.heap.size + 1, 0, none⟩)) ∧ Ext w w' ∧ WorkAt l (w.heap.size + 1) w.heap.size v w' := by
  obtain ⟨a, c, he, h1, h2, h3⟩ := id hv
  subst he
  have hmm := @run_makeMap Try.prog
  go_enter Try.func58, Try.ntmps58
  go_wp2_with fail
  go_ret
  have X := ((Ext.refl w).alloc (.map #[] 0)).alloc (.cells #[.slice a l.length c, .map (some w.heap.size)] 104)
  refine ⟨rfl, X, ⟨by simp, by simp, hv.ext X, ⟨#[], 0, ?_, by simp⟩⟩⟩
  rw [Below.heap_alloc _ _ _ (by simp)]
  exact World.alloc_heap_new w _

set_option maxHeartbeats 400000 in
theorem whole_any (u : Value) (n : Int) (a b c d e f : Value) (w : World) (hu : u = .agg #[a, b, c, d, e, f]) :
    Calls Try.prog 96 #[u, .int .i64 n] w fun e w' => e = .returned (.int .i64 n) ∧ Ext w w' := by
  subst hu
  go_enter Try.func96, Try.ntmps96
  go_wp2_with fail
  go_ret
  exact ⟨rfl, (Ext.refl _).alloc _⟩

set_option maxHeartbeats 400000 in
theorem excess_any (n m : Int) (a b d e f : Value) (w : World) (h : 0 ≤ m) (h1 : m ≤ 100) (h2 : 0 ≤ n) (h3 : n ≤ 100) :
    Calls Try.prog 97 #[.agg #[a, b, .int .i64 m, d, e, f], .int .i64 n] w fun e w' => e = .returned (.int .i64 (n - m)) ∧ Ext w w' := by
  go_enter Try.func97, Try.ntmps97
  go_wp2_with fail
  go_ret
  exact ⟨rfl, (Ext.refl _).alloc _⟩

def ruleV (b : Bool) : Value := .agg #[.func (.func (if b then 96 else 97)) #[] #[]]
set_option maxHeartbeats 400000 in
theorem rule_any (x : Bool) (a b d e f : Value) (w : World) :
    Calls Try.prog 83 #[.agg #[a, .bool x, b, d, e, f]] w fun e w' => e = .returned (ruleV x) ∧ Ext w w' := by
  have X := ((Ext.refl w).alloc (.cells #[a, .bool x, b, d, e, f] 96))
  cases x
  · go_enter Try.func83, Try.ntmps83
    go_wp2_with fail
    exact bodyPost_ret (v := ruleV false) (by simp [results, Try.results83, go_sem, ruleV]) rfl ⟨rfl, X.alloc _⟩
  · go_enter Try.func83, Try.ntmps83
    go_wp2_with fail
    exact bodyPost_ret (v := ruleV true) (by simp [results, Try.results83, go_sem, ruleV]) rfl ⟨rfl, X.alloc _⟩
end Go.Proofs.Ytfjecbfcnngacaa
