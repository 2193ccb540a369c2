/- The map of places that is filled from the iterator over all members. -/
import Derived.Test.YtljkhijdaaconaaGreatIter
import Derived.Test.YtljkhijdaaconaaGreatPlain
set_option linter.unusedVariables false
namespace Go.Proofs.YtljkhijdaaconaaGreat
open Go.RowKit Go.Shelf

attribute [local go_sem] Oper.semAt_some

theorem IMap.from_ (b B : Nat) (hb : b < B) {β : Type} (f : β → Int → Option Int) (n : β → Nat) : OwnFrom B (fun s W => IMap W b (f s) (n s)) := fun s W W' row h hg hr => by
  refine h.of_block (hg.block b h.lt (fun e => ?_))
  have := (hr b e.symm).1
  omega
theorem IMap.alloc {W : World} {b : Nat} {f : Int → Option Int} {n : Nat} (h : IMap W b f n) (o : Obj) : IMap (W.alloc o) b f n := h.of_block (Below.heap_alloc W o b h.lt)

set_option maxRecDepth 100000 in
set_option maxHeartbeats 2000000 in
theorem places_in (A : Option Addr) (n c : Nat) (t la : Int) (ps : List Pty) (w : World) (hP : Ptys w A n ps) :
    CallsIn Fence.wide 4 Tryz.prog 23 #[.agg #[.int .i64 t, .int .i64 la, .slice A n c]] w fun e W' =>
      e = .returned (.map (some (w.heap.size + 1))) ∧ IMap W' (w.heap.size + 1) (placeL (pairsF 0 ps)) (keysL (pairsF 0 ps)).length ∧ Below w.heap.size w W' := by
  have hmm := @run_makeMap Tryz.prog
  refine callsIn_of_wp_marks Tryz.func23 rfl trivial ?_ rfl
  simp only [Tryz.ntmps23, List.size_toArray, List.length_cons, List.length_nil, Nat.reduceAdd, Nat.reduceSub, Array.replicate_succ, Array.replicate_zero, List.push_toArray, List.append_toArray, List.nil_append, List.cons_append]
  gi_wp2_with (refine ⟨trivial, ?_⟩; gi_at_call 63; refine (members_in _ _ _ _ _ _).mono ?_; rintro e w' ⟨rfl, rfl⟩)
  have hcells : Obj := .cells #[.int .i64 t, .int .i64 la, .slice A n c] 24
  have hB0 : Below w.heap.size w ((((w.alloc (.cells #[.int .i64 t, .int .i64 la, .slice A n c] 24)).alloc (.map #[] 0)).alloc (.cells #[.map (some (w.heap.size + 1))] 58)).alloc (.cells #[.int .i64 t, .int .i64 la, .slice A n c] 24)) :=
    ((((Below.refl _ w).alloc (Nat.le_refl _) _).alloc (by simp) _).alloc (by simp; omega) _).alloc (by simp; omega) _
  have bS := (Boxed.new ((w.alloc (.cells #[.int .i64 t, .int .i64 la, .slice A n c] 24)).alloc (.map #[] 0)) 58 (.map (some (w.heap.size + 1)))).alloc (.cells #[.int .i64 t, .int .i64 la, .slice A n c] 24)
  have bM := (IMap.made (w.alloc (.cells #[.int .i64 t, .int .i64 la, .slice A n c] 24))).alloc (.cells #[.map (some (w.heap.size + 1))] 58) |>.alloc (.cells #[.int .i64 t, .int .i64 la, .slice A n c] 24)
  have bN := World.alloc_heap_new (((w.alloc (.cells #[.int .i64 t, .int .i64 la, .slice A n c] 24)).alloc (.map #[] 0)).alloc (.cells #[.map (some (w.heap.size + 1))] 58)) (.cells #[.int .i64 t, .int .i64 la, .slice A n c] 24)
  simp only [World.size_alloc] at bS bM bN
  obtain ⟨W0, hW0⟩ : ∃ W0, ((((w.alloc (.cells #[.int .i64 t, .int .i64 la, .slice A n c] 24)).alloc (.map #[] 0)).alloc (.cells #[.map (some (w.heap.size + 1))] 58)).alloc (.cells #[.int .i64 t, .int .i64 la, .slice A n c] 24)) = W0 := ⟨_, rfl⟩
  have hsz : W0.heap.size = w.heap.size + 4 := by rw [← hW0]; simp
  rw [hW0] at hB0 bS bM bN ⊢
  clear hW0
  refine wpIn_rangeFunc_ownG (α := PI) (encs := fun x => #[.int .i64 x.1.1, .int .i64 x.1.2]) (Kp := Below w.heap.size) (S := fun ys => ys.map (·.1) = pairsF 0 ps) (Sp := fun _ => True) (N := (pairsF 0 ps).length) (w0 := W0) rfl (by omega) (gf := 98) (lb := #[.pointer (some ⟨w.heap.size + 1 + 1 + 1, 0, none⟩)]) rfl trivial (enters_of Tryz.func98 (by kernel_rfl) rfl)
    ?seq belowK_t (belowK_b (by omega)) (Below.refl _ _) (fun _ => rfl)
    (fun pre W => (W.cell? ⟨w.heap.size + 2, 0, none⟩ = some (.map (some (w.heap.size + 1))) ∧ IMap W (w.heap.size + 1) (placeL (pre.map (·.1))) (keysL (pre.map (·.1))).length) ∧ Below w.heap.size w W)
    (fun _ _ _ => False)
    ?own (fun _ _ _ _ _ hs _ _ => hs)
    ⟨⟨bS.cell, bM⟩, hB0⟩
    (fun x => { tmps := #[.agg #[.int .i64 t, .int .i64 la, .slice A n c], .pointer (some ⟨w.heap.size, 0, none⟩), .map none, .pointer (some ⟨w.heap.size + 1 + 1, 0, none⟩), .int .i64 x.1.1, .int .i64 x.1.2, .map (some (w.heap.size + 1)), .agg #[.int .i64 t, .int .i64 la, .slice A n c], .func (.func 98) #[] #[.pointer (some ⟨w.heap.size + 1 + 1 + 1, 0, none⟩)], .int .i64 x.1.1, .int .i64 x.1.2, undef, undef, undef, undef, undef], defers := [] }) ?assign ?body ?done ?stop
  case seq =>
    intro l J Jx W hW hJ hJx hY h0
    refine (members1_in l (w.heap.size + 1 + 1 + 1) w.heap.size A n c t la ps w rfl hP J Jx W (hB0.trans (hW.mono (by omega))) hJ ?_ ((hW.block _ (by omega)).trans bN) h0).mono ?_
    · intro pre x W1 hj hl
      exact hY pre x W1 hj hl
    · rintro e W' ⟨hv, ⟨ys, h1, h2⟩ | ⟨pre, h1⟩⟩
      · exact ⟨hv, .inl ⟨ys, h1, h2⟩⟩
      · exact ⟨hv, .inr ⟨pre, trivial, h1⟩⟩
  case own =>
    exact OwnFrom.and (fun s A B row hs hg hr => ⟨cell_kept hs.1 hg (fun r e => (hr r e).2), IMap.from_ _ W0.heap.size (by omega) (fun s => placeL (s.map (·.1))) (fun s => (keysL (s.map (·.1))).length) s A B row hs.2 hg hr⟩) (ownFrom_below (Nat.le_refl _) (by omega))
  case assign =>
    intro l x W K hK
    gi_wp2
    exact hK
  case body =>
    rintro l pre x W ⟨⟨hc, hm⟩, hB⟩ hlt
    have hx := x.2
    obtain ⟨o, hrun, ho, hm'⟩ := run_upd (P := Tryz.prog) Tryz.underlying58 Tryz.underlying3 hm x.1.2 (x.1.1 + 1)
    have HM := hid hm
    have HM' := hid hm'
    clear hm hm'
    gi_wp2
    have hg := grownBy_putObj' W (w.heap.size + 1) o
    refine ⟨KeepsFrom.of_grownBy hg (fun j e => by cases e; omega), (Below.refl _ W).grown hg hB.size (fun k e => by cases e; omega), ⟨⟨(World.cell?_of_block (World.putObj_heap_other (by simp))).trans hc, ?_⟩, hB.grown hg hB.size (fun k e => by cases e; omega)⟩⟩
    rw [List.map_append, List.map_singleton, placeL_snoc, keysL_snoc_len]
    exact HM'.out
  case done =>
    rintro D ys W hD hS ⟨⟨hc, hm⟩, hB⟩ hK
    have HM := hid hm
    clear hm
    have HS := hid hS
    clear hS
    gi_wp2
    refine ⟨by simp, .inl ⟨_, _, rfl, run_takeDeferred hK, ?_⟩⟩
    have HM' := HM.out
    rw [HS.out] at HM'
    exact ⟨_, results_tmp rfl _ _ _, rfl, HM'.of_block (World.putObj_heap_other (by omega)), hB.trans (belowK_b (w := w) (Nat.le_refl _) W D _ _ (by omega) hK rfl rfl)⟩
  case stop =>
    rintro D c pre W _ _ h _
    exact h.elim
/-- **places**: a new map. -/
theorem places_c (A : Option Addr) (n c : Nat) (t la : Int) (ps : List Pty) (w : World) (hP : Ptys w A n ps) :
    Calls Tryz.prog 23 #[.agg #[.int .i64 t, .int .i64 la, .slice A n c]] w fun e W' =>
      ∃ b, e = .returned (.map (some b)) ∧ IMap W' b (placeL (pairsF 0 ps)) (keysL (pairsF 0 ps)).length ∧ Gr w W' ∧ w.heap.size ≤ b :=
  (callsIn_wide.1 (places_in A n c t la ps w hP)).mono fun e W' ⟨h1, h2, h3⟩ => ⟨_, h1, h2, h3, by omega⟩
end Go.Proofs.YtljkhijdaaconaaGreat
