/- A map from ints to ints in memory: what it holds at each key, and what a look-up, a store and len do. -/
import Derived.Test.YtljkhijdaaconaaGreatVoc
import Derived.RangeFuncBox
set_option linter.unusedVariables false
namespace Go.Proofs.YtljkhijdaaconaaGreat
open Go.RowKit

/-- The value at key k in a list of entries. -/
def entAt (k : Int) : List MapEntry → Option Int
  | [] => none
  | e :: es => match e.key, e.val with
    | .int .i64 k', .int .i64 v => if k' = k then some v else entAt k es
    | _, _ => entAt k es
def entOk (e : MapEntry) : Prop := ∃ k v, e.key = .int .i64 k ∧ e.val = .int .i64 v

theorem findNow_int (k : Int) : ∀ (l : List MapEntry) (i : Nat), (∀ e ∈ l, entOk e) →
    (∃ j v, Instr.findNow (.int .i64) (.int .i64 k) l i = some (some (i + j, .int .i64 v)) ∧ j < l.length ∧ entAt k l = some v ∧ (∃ e, l[j]? = some e ∧ e.key = .int .i64 k) ∧ ∀ v', ∀ k', entAt k' (l.modify j fun e => { e with key := .int .i64 k, val := .int .i64 v' }) = if k' = k then some v' else entAt k' l) ∨
    (Instr.findNow (.int .i64) (.int .i64 k) l i = some none ∧ entAt k l = none)
  | [], i, _ => .inr ⟨rfl, rfl⟩
  | e :: l, i, h => by
    obtain ⟨k0, v0, h1, h2⟩ := h e (by simp)
    by_cases hk : k0 = k
    · subst hk
      refine .inl ⟨0, v0, ?_, by simp, ?_, ⟨e, by simp, h1⟩, ?_⟩
      · simp [Instr.findNow, Instr.sameNow, h1, h2]
      · simp [entAt, h1, h2]
      · intro v' k'
        simp only [List.modify, List.modifyTailIdx, List.modifyTailIdx.go, List.modifyHead, entAt, h1, h2]
        by_cases e1 : k0 = k'
        · simp [e1]
        · simp [e1, Ne.symm e1]
    · have hb : (k == k0) = false := by simp; exact fun e => hk e.symm
      rcases findNow_int k l (i + 1) (fun e he => h e (by simp [he])) with ⟨j, v, a1, a2, a3, ⟨e', a4, a4'⟩, a5⟩ | ⟨a1, a2⟩
      · refine .inl ⟨j + 1, v, ?_, by simp; omega, ?_, ⟨e', by simpa using a4, a4'⟩, ?_⟩
        · simp only [Instr.findNow, Instr.sameNow, h1, if_true, hb]
          rw [a1]
          congr 3; omega
        · simp [entAt, h1, h2, hk, a3]
        · intro v' k'
          have hm : (e :: l).modify (j + 1) (fun e => { e with key := .int .i64 k, val := .int .i64 v' }) = e :: l.modify j (fun e => { e with key := .int .i64 k, val := .int .i64 v' }) := by simp
          rw [hm]
          simp only [entAt, h1, h2]
          rw [a5]
          by_cases e1 : k0 = k'
          · subst e1; simp [hk]
          · simp [e1]
      · refine .inr ⟨?_, ?_⟩
        · simp only [Instr.findNow, Instr.sameNow, h1, if_true, hb]
          exact a1
        · simp [entAt, h1, h2, hk, a2]

theorem entAt_push (k v : Int) (n : Nat) (k' : Int) : ∀ l : List MapEntry, (∀ e ∈ l, entOk e) → entAt k l = none → entAt k' (l ++ [{ key := .int .i64 k, val := .int .i64 v, born := n }]) = if k' = k then some v else entAt k' l
  | [], _, _ => by simp [entAt, eq_comm]
  | e :: l, h, hn => by
    obtain ⟨k0, v0, h1, h2⟩ := h e (by simp)
    simp only [entAt, h1, h2] at hn
    simp only [List.cons_append, entAt, h1, h2]
    by_cases e0 : k0 = k
    · simp [e0] at hn
    · rw [if_neg e0] at hn
      rw [entAt_push k v n k' l (fun e he => h e (by simp [he])) hn]
      by_cases e1 : k0 = k'
      · subst e1; simp [e0]
      · simp [e1]

/-- Block b is a map from int to int: f tells what it holds, n how many keys it has. -/
def IMap (W : World) (b : Nat) (f : Int → Option Int) (n : Nat) : Prop :=
  ∃ es ck, W.heap[b]? = some (.map es ck) ∧ es.size = n ∧ (∀ e ∈ es.toList, entOk e) ∧ ∀ k, entAt k es.toList = f k

theorem IMap.lt {W : World} {b : Nat} {f : Int → Option Int} {n : Nat} (h : IMap W b f n) : b < W.heap.size := by
  obtain ⟨es, ck, hb, _⟩ := h
  exact (Array.getElem?_eq_some_iff.1 hb).1
theorem IMap.of_block {W W' : World} {b : Nat} {f : Int → Option Int} {n : Nat} (h : IMap W b f n) (hb : W'.heap[b]? = W.heap[b]?) : IMap W' b f n := by
  obtain ⟨es, ck, h1, h2⟩ := h
  exact ⟨es, ck, hb.trans h1, h2⟩
theorem IMap.gr {W W' : World} {b : Nat} {f : Int → Option Int} {n : Nat} (h : IMap W b f n) (hg : Gr W W') : IMap W' b f n := h.of_block (hg.block b h.lt)
theorem IMap.made (W : World) : IMap (W.alloc (.map #[] 0)) W.heap.size (fun _ => none) 0 :=
  ⟨#[], 0, World.alloc_heap_new W _, rfl, by simp, fun k => rfl⟩

section
variable {P : Program} {t kt et : TypeId} (ht : P.underlying t = some (.map kt et)) (hk : P.underlying kt = some (.int .i64))
include ht hk

omit ht in
theorem run_ck (b : Bool) (k : Int) (W : World) : (Instr.checkKey b 10000 kt (.int .i64 k)).run P W = .ok () W := by
  rw [show (10000 : Nat) = 9999 + 1 from rfl, Instr.checkKey]
  simp [run_underlying hk]
theorem run_look {W : World} {b : Nat} {f : Int → Option Int} {n : Nat} (hz : (zeroValue et).run P W = .ok (.int .i64 0) W) (h : IMap W b f n) (k : Int) :
    (Instr.lookup t (.map (some b)) (.int .i64 k) false).run P W = .ok (.int .i64 ((f k).getD 0)) W := by
  obtain ⟨es, ck, h1, h2, h3, h4⟩ := h
  have hobj : (getObj b).run P W = .ok (.map es ck) W := by simp [getObj, Sem.run, h1]
  rcases findNow_int k es.toList 0 h3 with ⟨j, v, a1, _, a3, _, _⟩ | ⟨a1, a2⟩
  · have hf : f k = some v := by rw [← h4, a3]
    simp [Instr.lookup, run_underlying ht, hobj, run_ck hk, run_underlying hk, Instr.findKey, a1, hf]
  · have hf : f k = none := by rw [← h4, a2]
    simp [Instr.lookup, run_underlying ht, hobj, run_ck hk, run_underlying hk, Instr.findKey, a1, hf, hz]

theorem run_upd {W : World} {b : Nat} {f : Int → Option Int} {n : Nat} (h : IMap W b f n) (k v : Int) :
    ∃ o, (Instr.mapUpdate t (.map (some b)) (.int .i64 k) (.int .i64 v)).run P W = .ok () (W.putObj b o) ∧ o.isCells = false ∧
      IMap (W.putObj b o) b (fun k' => if k' = k then some v else f k') (if (f k).isSome then n else n + 1) := by
  have hlt := h.lt
  obtain ⟨es, ck, h1, h2, h3, h4⟩ := h
  have hobj : (getObj b).run P W = .ok (.map es ck) W := by simp [getObj, Sem.run, h1]
  rcases findNow_int k es.toList 0 h3 with ⟨j, v0, a1, a2, a3, ⟨e, a4, a4'⟩, a5⟩ | ⟨a1, a2⟩
  · refine ⟨.map (es.modify j fun e => { e with key := .int .i64 k, val := .int .i64 v }) ck, ?_, rfl, ?_⟩
    · have hj : es[j]? = some e := by simpa using a4
      have hst : (Instr.keyThatStays (.int .i64 k) (.int .i64 k)).run P W = .ok (.int .i64 k) W := by simp [Instr.keyThatStays, Instr.sameBits]
      simp [Instr.mapUpdate, run_underlying ht, hobj, run_ck hk, run_underlying hk, Instr.findKey, a1, hj, a4', hst, setObj, Sem.run, h1, World.putObj]
    · refine ⟨es.modify j fun e => { e with key := .int .i64 k, val := .int .i64 v }, ck, by simp [World.putObj, hlt], ?_, ?_, ?_⟩
      · rw [← h4, a3]; simp [h2]
      · intro e' he'
        rw [Array.toList_modify] at he'
        obtain ⟨i, hi, hi'⟩ := List.mem_iff_getElem.1 he'
        rw [List.getElem_modify] at hi'
        split at hi'
        · subst hi'; exact ⟨k, v, rfl, rfl⟩
        · subst hi'; exact h3 _ (List.getElem_mem _)
      · intro k'
        rw [Array.toList_modify, a5 v k', h4]
  · refine ⟨.map (es.push { key := .int .i64 k, val := .int .i64 v, born := ck }) (ck + 1), ?_, rfl, ?_⟩
    · simp [Instr.mapUpdate, run_underlying ht, hobj, run_ck hk, run_underlying hk, Instr.findKey, a1, setObj, Sem.run, h1, World.putObj]
    · refine ⟨es.push { key := .int .i64 k, val := .int .i64 v, born := ck }, ck + 1, by simp [World.putObj, hlt], ?_, ?_, ?_⟩
      · rw [← h4, a2]; simp [h2]
      · intro e' he'
        rw [Array.toList_push, List.mem_append] at he'
        rcases he' with he' | he'
        · exact h3 _ he'
        · simp at he'; subst he'; exact ⟨k, v, rfl, rfl⟩
      · intro k'
        rw [Array.toList_push, entAt_push k v ck k' es.toList h3 a2, h4]
end
end Go.Proofs.YtljkhijdaaconaaGreat
