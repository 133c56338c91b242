/- The map from spots to parts. -/
import Derived.Test.YtfjecbfcnngacaaH
import Derived.RangeFuncRecord
namespace Go.Proofs.Ytfjecbfcnngacaa
open Go.RowKit Go.Hs

abbrev spotV (a b c : Int) : Value := .agg #[.int .i64 a, .int .i64 b, .int .i64 c]

theorem eq_spot (a b c a' b' c' : Int) (w : World) :
    (Op.equal 107 (spotV a b c) (spotV a' b' c')).run Try.prog w = .ok (a == a' && (b == b' && c == c')) w := by
  simp [Op.equal, Op.maxDepth, go_sem]
  by_cases h1 : a = a' <;> by_cases h2 : b = b' <;> by_cases h3 : c = c' <;> simp [h1, h2, h3]

theorem check_spot (em : Bool) (a b c : Int) (w : World) :
    (Instr.checkKey em 10000 107 (spotV a b c)).run Try.prog w = .ok () w := by
  have : ∀ n, (Instr.checkKey em (n + 2) 107 (spotV a b c)).run Try.prog w = .ok () w := by
    intro n
    simp [Instr.checkKey, go_sem]
  exact this 9998

theorem find_spot (a b c : Int) (i : Nat) (es : List MapEntry) (f : Int → Int → Int → Int)
    (h : ∀ e ∈ es, ∃ a b c, e.key = spotV a b c ∧ e.val = .int .i64 (f a b c)) :
    ∃ r, (∀ w, (Instr.findAsking 107 (spotV a b c) es i).run Try.prog w = .ok r w) ∧
      (r = none ∨ ∃ j, r = some (i + j, .int .i64 (f a b c)) ∧ ∃ e, es[j]? = some e ∧ e.key = spotV a b c) := by
  induction es generalizing i with
  | nil => exact ⟨none, fun _ => rfl, .inl rfl⟩
  | cons e es ih =>
    obtain ⟨a', b', c', hk, hv⟩ := h e (by simp)
    obtain ⟨r, hr, hor⟩ := ih (i + 1) (fun e he => h e (by simp [he]))
    unfold Instr.findAsking
    rw [hk, hv]
    by_cases heq : (a == a' && (b == b' && c == c')) = true
    · have h2 : a = a' ∧ b = b' ∧ c = c' := by simpa using heq
      obtain ⟨rfl, rfl, rfl⟩ := h2
      refine ⟨some (i, .int .i64 (f a b c)), fun w => ?_, .inr ⟨0, by simp, e, by simp, hk⟩⟩
      rw [Sem.run_bind, eq_spot, heq]
      rfl
    · rw [Bool.not_eq_true] at heq
      refine ⟨r, fun w => ?_, ?_⟩
      · rw [Sem.run_bind, eq_spot, heq]
        exact hr w
      · rcases hor with h1 | ⟨j, h1, e', h2, h3⟩
        · exact .inl h1
        · exact .inr ⟨j + 1, by rw [h1]; congr 2; omega, e', by simpa using h2, h3⟩

/-- The map at block r holds parts alone. -/
def Memo (f : Int → Int → Int → Int) (r : Nat) (w : World) : Prop :=
  ∃ es clock, w.heap[r]? = some (.map es clock) ∧ ∀ e ∈ es.toList, ∃ a b c, e.key = spotV a b c ∧ e.val = .int .i64 (f a b c)

theorem findKey_spot (a b c : Int) (es : List MapEntry) (f : Int → Int → Int → Int)
    (h : ∀ e ∈ es, ∃ a b c, e.key = spotV a b c ∧ e.val = .int .i64 (f a b c)) :
    ∃ r, (∀ w, (Instr.findKey 107 (spotV a b c) es).run Try.prog w = .ok r w) ∧
      (r = none ∨ ∃ j, r = some (j, .int .i64 (f a b c)) ∧ ∃ e, es[j]? = some e ∧ e.key = spotV a b c) := by
  obtain ⟨r, hr, ho⟩ := find_spot a b c 0 es f h
  cases es with
  | nil =>
    refine ⟨none, fun w => ?_, .inl rfl⟩
    simp [Instr.findKey, Instr.findNow, go_sem]
  | cons e es =>
    refine ⟨r, fun w => ?_, by simpa using ho⟩
    have : Instr.findNow (.struct (Try.prog.fieldsOf 107)) (spotV a b c) (e :: es) 0 = none := by
      simp [Instr.findNow, Instr.sameNow]
    simp only [Instr.findKey, Sem.run_bind]
    rw [run_underlying (P := Try.prog) (show Try.prog.underlying 107 = some (.struct (Try.prog.fieldsOf 107)) by kernel_rfl)]
    simp only [Result.andThen_ok, this]
    exact hr w

theorem lookup_spot (f : Int → Int → Int → Int) (a b c : Int) (r : Nat) (w : World) (h : Memo f r w) :
    ∃ v ok, (∀ w', w'.heap[r]? = w.heap[r]? → (Instr.lookup 102 (.map (some r)) (spotV a b c) true).run Try.prog w' = .ok (.tuple #[.int .i64 v, .bool ok]) w') ∧ (ok = true → v = f a b c) ∧ (ok = false → v = 0) := by
  obtain ⟨es, clock, hr, he⟩ := h
  obtain ⟨x, hx, ho⟩ := findKey_spot a b c es.toList f he
  rcases ho with rfl | ⟨j, rfl, -⟩
  · refine ⟨0, false, fun w' hw' => ?_, by simp, by simp⟩
    have hg : (getObj r).run Try.prog w' = .ok (.map es clock) w' := by simp [getObj, Sem.run, hw', hr]
    simp [Instr.lookup, go_sem, hg, check_spot, hx]
  · refine ⟨f a b c, true, fun w' hw' => ?_, by simp, by simp⟩
    have hg : (getObj r).run Try.prog w' = .ok (.map es clock) w' := by simp [getObj, Sem.run, hw', hr]
    simp [Instr.lookup, go_sem, hg, check_spot, hx]

theorem update_spot (f : Int → Int → Int → Int) (a b c : Int) (r : Nat) (w : World) (h : Memo f r w) :
    ∃ o, (Instr.mapUpdate 102 (.map (some r)) (spotV a b c) (.int .i64 (f a b c))).run Try.prog w = .ok () (w.putObj r o) ∧ Memo f r (w.putObj r o) := by
  obtain ⟨es, clock, hr, he⟩ := h
  obtain ⟨x, hx, ho⟩ := findKey_spot a b c es.toList f he
  have hg : (getObj r).run Try.prog w = .ok (.map es clock) w := by simp [getObj, Sem.run, hr]
  have hlt : r < w.heap.size := (Array.getElem?_eq_some_iff.1 hr).1
  have hs : ∀ o : Obj, (setObj r o).run Try.prog w = .ok () (w.putObj r o) := fun o => by simp [setObj, Sem.run, hr, World.putObj]
  rcases ho with rfl | ⟨j, rfl, e, hj, hk⟩
  · refine ⟨_, ?_, es.push { key := spotV a b c, val := .int .i64 (f a b c), born := clock }, clock + 1, World.putObj_heap_same hlt, ?_⟩
    · simp [Instr.mapUpdate, go_sem, hg, check_spot, hx, hs]
    · intro e he'
      simp at he'
      rcases he' with h1 | rfl
      · exact he e (by simpa using h1)
      · exact ⟨a, b, c, rfl, rfl⟩
  · have hks : (Instr.keyThatStays (((es[j]?).map (·.key)).getD (spotV a b c)) (spotV a b c)).run Try.prog w = .ok (spotV a b c) w := by
      have e1 : es[j]? = some e := by simpa using hj
      have hsb : ∀ n, Instr.sameBits (n + 2) (spotV a b c) (spotV a b c) = true := by intro n; simp [Instr.sameBits]
      rw [e1]
      simp only [Option.map_some, Option.getD_some, hk, Instr.keyThatStays]
      rw [hsb 9998]
      rfl
    refine ⟨_, ?_, es.modify j fun e => { e with key := spotV a b c, val := .int .i64 (f a b c) }, clock, World.putObj_heap_same hlt, ?_⟩
    · simp [Instr.mapUpdate, go_sem, hg, check_spot, hx, hs, hks]
    · intro e' he'
      obtain ⟨k, hk', hke⟩ := List.getElem_of_mem he'
      simp only [Array.toList_modify, List.getElem_modify] at hke
      split at hke
      · subst hke; exact ⟨a, b, c, rfl, rfl⟩
      · subst hke; exact he _ (List.getElem_mem _)
end Go.Proofs.Ytfjecbfcnngacaa
