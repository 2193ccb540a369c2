/- Contract: awake answers true. -/
import Derived.Test.YtljkhijdaaconaaGreatAwk
set_option linter.unusedVariables false
namespace Go.Proofs.YtljkhijdaaconaaGreat
open Go.RowKit

theorem m_buildSliceG {P : Program} {n : Nat} {s : List (Nat × Value)} {ops : Array Oper} {rest : List Oper} {Q : Exit → Act → World → Prop} {a : Act} {w : World} {B : List Bx} {V : List (Nat × World)} {d : Nat} {t ty e : TypeId} {len : Nat} {parts : List (Nat × Operand)} {vs : List (Nat × Value)} {pos : String} {aft : Array Edge} {j dj : Nat} {b g : Bool} (cells : List Value) (hA : Fits a n s) (hS : St w B V) (hj : (ops[j]?).bind (·.dst) = some dj) (ht : lk s dj = some (.bool g)) (hn : Nat.blt dj n = true) (hb : g = b) (hx : evP s parts = some vs) (hd : Nat.blt d n = true)
    (hr : ∀ w : World, (Instr.buildSlice t len vs.toArray).run P w = .ok (.slice (some ⟨w.heap.size, 0, none⟩) len len) (w.alloc (.cells cells.toArray e)))
    (k : ∀ a' b w', Fits a' n ((d, .slice (some ⟨b, 0, none⟩) len len) :: s) → Gr w w' → St w' (cB b cells e :: B) V → wpList P ops Q rest a' w') :
    wpList P ops Q (⟨some d, .buildSlice t len parts.toArray, ty, pos, aft, some (j, b)⟩ :: rest) a w := by
  refine wpList_step fun K hK => ?_
  subst hb
  rw [wanted_of rfl hA hj ht (blt_lt hn), beq_self_eq_true, if_pos rfl]
  have e1 : (parts.toArray.map fun x => (x.1, a.eval x.2)) = vs.toArray := by
    rw [List.map_toArray, hA.evP hx]
  have e' : (parts.toArray.map fun (x : Nat × Operand) => match x with | (i, x) => (i, a.eval x)) = vs.toArray := e1
  have hr' : (execOp a.eval ⟨some d, .buildSlice t len parts.toArray, ty, pos, aft, some (j, g)⟩).run P w = .ok (.value (.slice (some ⟨w.heap.size, 0, none⟩) len len)) (w.alloc (.cells cells.toArray e)) := by
    simp only [execOp]
    simp [e', hr]
  unfold Oper.wp
  rw [hr']
  exact hK _ _ (k _ _ _ (hA.put (blt_lt hd) _) ((Gr.rf w).al _) (hS.new cells e))
theorem bs_do (w : World) : (Instr.buildSlice 25 5 [(0, Value.agg [Value.int .i64 1, .int .i64 7, .int .i64 0].toArray), (1, Value.agg [Value.int .i64 1, .int .i64 8, .int .i64 0].toArray), (2, Value.agg [Value.int .i64 2, .int .i64 7, .int .i64 9].toArray), (3, Value.agg [Value.int .i64 2, .int .i64 8, .int .i64 9].toArray), (4, Value.agg [Value.int .i64 3, .int .i64 9, .int .i64 1].toArray)].toArray).run Tryz.prog w = .ok (.slice (some ⟨w.heap.size, 0, none⟩) 5 5) (w.alloc (.cells ([Value.int .i64 1, Value.int .i64 7, Value.int .i64 0, Value.int .i64 1, Value.int .i64 8, Value.int .i64 0, Value.int .i64 2, Value.int .i64 7, Value.int .i64 9, Value.int .i64 2, Value.int .i64 8, Value.int .i64 9, Value.int .i64 3, Value.int .i64 9, Value.int .i64 1] : List Value).toArray 36)) := by
  go_simp
theorem bs_int2 (x y : Int) (w : World) : (Instr.buildSlice 38 2 [(0, Value.int .i64 x), (1, Value.int .i64 y)].toArray).run Tryz.prog w = .ok (.slice (some ⟨w.heap.size, 0, none⟩) 2 2) (w.alloc (.cells [Value.int .i64 x, Value.int .i64 y].toArray 3)) := by
  go_simp
theorem St.keepP {w w' : World} {B : List Bx} {V : List (Nat × World)} {A : Option Addr} {n : Nat} {ps : List Pty} (hS : St w B V) (hg : Gr w w') (h : PtysL w.heap.size w' A n ps) : ∃ lo v, PtysL lo v A n ps ∧ St w' B ((lo, v) :: V) := ⟨_, _, h, hS.call hg⟩
theorem St.keepY {w w' : World} {B : List Bx} {V : List (Nat × World)} {M I : Option Addr} {m i : Nat} {p : Pty} (hS : St w B V) (hg : Gr w w') (h : PtyInL w.heap.size w' M m I i p) : ∃ lo v, PtyInL lo v M m I i p ∧ St w' B ((lo, v) :: V) := ⟨_, _, h, hS.call hg⟩
theorem St.keepI {w w' : World} {B : List Bx} {V : List (Nat × World)} {A : Option Addr} {n : Nat} {xs : List Int} (hS : St w B V) (hg : Gr w w') (h : IntsL w.heap.size w' A n xs) : ∃ lo v, IntsL lo v A n xs ∧ St w' B ((lo, v) :: V) := ⟨_, _, h, hS.call hg⟩
theorem St.ints {w : World} {B : List Bx} {V : List (Nat × World)} {b T : Nat} {xs : List Int} (hS : St w (cB b (xs.map (Value.int .i64)) T :: B) V) (hle : xs.length ≤ 100) : Ints w (some ⟨b, 0, none⟩) xs.length xs :=
  ⟨rfl, by omega, fun j x hj => ⟨b, 0, rfl, Nat.zero_le _, hS.cell (i := 0) rfl (by simp [hj])⟩⟩
theorem aw_get : ∀ i, i < 5 → ∀ j v, ([Value.int .i64 (awK i), .int .i64 (awA i), .int .i64 (awB i)] : List Value)[j]? = some v → ([Value.int .i64 1, Value.int .i64 7, Value.int .i64 0, Value.int .i64 1, Value.int .i64 8, Value.int .i64 0, Value.int .i64 2, Value.int .i64 7, Value.int .i64 9, Value.int .i64 2, Value.int .i64 8, Value.int .i64 9, Value.int .i64 3, Value.int .i64 9, Value.int .i64 1] : List Value)[0 + i * 3 + j]? = some v := by
  intro i hi j v hj
  have hj3 := (List.getElem?_eq_some_iff.1 hj).1
  simp only [List.length_cons, List.length_nil] at hj3
  obtain rfl | rfl | rfl | rfl | rfl : i = 0 ∨ i = 1 ∨ i = 2 ∨ i = 3 ∨ i = 4 := by omega
  all_goals
    obtain rfl | rfl | rfl : j = 0 ∨ j = 1 ∨ j = 2 := by omega
    all_goals exact hj
set_option maxRecDepth 100000 in
set_option maxHeartbeats 8000000 in
theorem awake_c (w0 : World) : Calls Tryz.prog 6 #[] w0 fun e w' => e = .returned (.bool true) ∧ Gr w0 w' := by
  refine m_enter Tryz.func6 rfl Tryz.ntmps6 (Nat.le_of_ble_eq_true rfl) ?_
  intro a hA
  have hS := St.start w0
  refine m_seq ?_
  refine m_region ?_
  refine m1 hA hS (Y.assign rfl) rfl ?_
  clear hA a; intro a hA
  refine m_nil ?_
  refine m_then ?_
  refine m_seq ?_
  refine m_region ?_
  refine m_alloc hA hS Tryz.zeroValue24 rfl ?_
  clear hA hS a; intro a b1 w hA hleb1 hgb1 hS
  refine m_nil ?_
  refine m_then ?_
  refine m_seq ?_
  refine m_region ?_
  refine m1 hA hS (Y.build rfl (cs := [.int .i64 1, .int .i64 7, .int .i64 0]) (by kernel_rfl)) rfl ?_
  clear hA a; intro a hA
  refine m1 hA hS (Y.build rfl (cs := [.int .i64 1, .int .i64 8, .int .i64 0]) (by kernel_rfl)) rfl ?_
  clear hA a; intro a hA
  refine m1 hA hS (Y.build rfl (cs := [.int .i64 2, .int .i64 7, .int .i64 9]) (by kernel_rfl)) rfl ?_
  clear hA a; intro a hA
  refine m1 hA hS (Y.build rfl (cs := [.int .i64 2, .int .i64 8, .int .i64 9]) (by kernel_rfl)) rfl ?_
  clear hA a; intro a hA
  refine m1 hA hS (Y.build rfl (cs := [.int .i64 3, .int .i64 9, .int .i64 1]) (by kernel_rfl)) rfl ?_
  clear hA a; intro a hA
  refine m_buildSlice ([Value.int .i64 1, Value.int .i64 7, Value.int .i64 0, Value.int .i64 1, Value.int .i64 8, Value.int .i64 0, Value.int .i64 2, Value.int .i64 7, Value.int .i64 9, Value.int .i64 2, Value.int .i64 8, Value.int .i64 9, Value.int .i64 3, Value.int .i64 9, Value.int .i64 1]) hA hS rfl rfl (bs_do) ?_
  clear hA hS a; intro a b2 w hA hgb2 hS
  refine m1 hA hS (Y.assign rfl) rfl ?_
  clear hA a; intro a hA
  refine m_nil ?_
  refine m_then ?_
  refine m_seq ?_
  refine m_seq ?_
  refine m_region ?_
  refine m1 hA hS (Y.assign rfl) rfl ?_
  clear hA a; intro a hA
  refine m_nil ?_
  refine m_then ?_
  refine m_block ?_
  replace hS := hS.dropV (V' := [(0, w0), (0, w0)]) (by simp)
  -- LOST [0]
  refine m_loopX [2, 1] rfl hA (((0 : Nat), (Option.none : Option Addr), (0 : Nat), (0 : Nat), (0 : Nat), w0)) (fun x => [(3, .int .i64 (x.1 : Int))]) (fun x => [cB b2 [Value.int .i64 1, Value.int .i64 7, Value.int .i64 0, Value.int .i64 1, Value.int .i64 8, Value.int .i64 0, Value.int .i64 2, Value.int .i64 7, Value.int .i64 9, Value.int .i64 2, Value.int .i64 8, Value.int .i64 9, Value.int .i64 3, Value.int .i64 9, Value.int .i64 1] 36, cB b1 [.int .i64 (awH x.1).tick, .int .i64 (awH x.1).last, .slice x.2.1 x.2.2.1 x.2.2.2.1] 24]) (fun x => [(x.2.2.2.2.1, x.2.2.2.2.2), (0, w0)]) (fun x => x.1 ≤ 5 ∧ PtysL x.2.2.2.2.1 x.2.2.2.2.2 x.2.1 x.2.2.1 (awH x.1).ps) (fun x => 5 - x.1) (ks := [3]) rfl hS (⟨Nat.zero_le _, RowOf.nil⟩) ?_
  clear hA hS a; rintro ⟨i, A, n, c, lo, v⟩ a w hA hS hj
  try dsimp only at hA
  try dsimp only at hS
  try dsimp only at hj
  obtain ⟨hi5, hP⟩ := hj
  replace hA := hA.keep [3, 2, 1] rfl
  refine m_seq ?_
  refine m_seq ?_
  refine m_region ?_
  refine m1 hA hS (Y.move rfl) rfl ?_
  clear hA a; intro a hA
  refine m1 hA hS (Y.move rfl) rfl ?_
  clear hA a; intro a hA
  refine m1 hA hS (Y.lenSl rfl Tryz.underlying25) rfl ?_
  clear hA a; intro a hA
  refine m1 hA hS (Y.ltI rfl rfl) rfl ?_
  clear hA a; intro a hA
  refine m_nil ?_
  refine m_then ?_
  refine m_condP hA rfl (fun hlt => ?_) (fun hlt => ?_)
  · have hi : i < 5 := by omega
    refine m_skip ?_
    refine m_then ?_
    refine m_seq ?_
    refine m_block ?_
    refine m_seq ?_
    refine d_regionS [0, 4] [0, 1, 2, 3, 4, 6, 7, 8, 11] hS rfl 12 [false, false, false, false, false, false, false, false, false, false, false, false] rfl rfl ?_
    clear hS; intro w hS _
    have hQ := hS
    refine d_load 0 (bs' := [true, false, false, false, false, false, false, false, false, false, false, false]) hA hQ rfl rfl rfl (by kernel_rfl) (fun _ _ _ h => h) (Y.loads rfl Tryz.isAgg24 Tryz.sizeOf24 (fun w h => h.cells (i := 1) rfl) rfl) rfl ?_
    clear hA a; intro a hA
    refine d_take 1 (bs' := [true, true, false, false, false, false, false, false, false, false, false, false]) hA rfl rfl (by kernel_rfl) (fun _ _ _ h => h) (Y.move rfl) rfl ?_
    clear hA a; intro a hA
    refine d_take 2 (bs' := [true, true, true, false, false, false, false, false, false, false, false, false]) hA rfl rfl (by kernel_rfl) (fun _ _ _ h => h) (Y.move rfl) rfl ?_
    clear hA a; intro a hA
    refine d_take 3 (bs' := [true, true, true, true, false, false, false, false, false, false, false, false]) hA rfl rfl (by kernel_rfl) (fun _ _ _ h => h) (Y.indexAddrN rfl rfl Tryz.underlying25 Tryz.sizeOf36 (by omega)) rfl ?_
    clear hA a; intro a hA
    refine d_load 4 (bs' := [true, true, true, true, true, false, false, false, false, false, false, false]) hA hQ rfl rfl rfl (by kernel_rfl) (fun _ _ _ h => h) (Y.loads rfl Tryz.isAgg36 Tryz.sizeOf36 (fun w h => h.cellsAt (i := 0) (cs := [Value.int .i64 1, Value.int .i64 7, Value.int .i64 0, Value.int .i64 1, Value.int .i64 8, Value.int .i64 0, Value.int .i64 2, Value.int .i64 7, Value.int .i64 9, Value.int .i64 2, Value.int .i64 8, Value.int .i64 9, Value.int .i64 3, Value.int .i64 9, Value.int .i64 1]) (xs := [Value.int .i64 (awK i), .int .i64 (awA i), .int .i64 (awB i)]) rfl (aw_get i hi)) rfl) rfl ?_
    clear hA a; intro a hA
    refine d_two 5 9 (bi := [true, true, true, true, true, true, false, false, false, false, false, false]) (bj := [true, true, true, true, true, false, false, false, false, true, false, false]) false true rfl rfl (by kernel_rfl) ?_ ?_
    · refine m_call hA Tryz.call13 rfl rfl ((one_c (awH i) A n c (awK i) (awA i) (awB i) _ (PtysL.zero (hP.ov (hS.at (by simp))))).mono ?_)
      rintro e w ⟨A1, n1, c1, rfl, hg1, hP1⟩
      refine ⟨_, rfl, ?_⟩
      clear hA a; intro a hA
      rw [aw_step i hi] at hA hP1
      replace hQ := hQ.gr hg1
      obtain ⟨lo1, v1, hP1, hS⟩ := hS.keepP hg1 hP1
      refine m_nil (m_then ⟨fun h => (by cases h), ?_⟩)
      refine d_take 6 (bs' := [true, true, true, true, true, true, true, false, false, false, false, false]) hA rfl rfl (by kernel_rfl) (fun _ _ _ h => h) (Y.move rfl) rfl ?_
      clear hA a; intro a hA
      refine d_take 7 (bs' := [true, true, true, true, true, true, true, true, false, false, false, false]) hA rfl rfl (by kernel_rfl) (fun _ _ _ h => h) (Y.extract rfl rfl) rfl ?_
      clear hA a; intro a hA
      refine d_take 8 (bs' := [true, true, true, true, true, true, true, true, true, false, false, false]) hA rfl rfl (by kernel_rfl) (fun _ _ _ h => h) (Y.extract rfl rfl) rfl ?_
      clear hA a; intro a hA
      refine d_one 9 (bs' := [true, true, true, true, true, true, true, true, true, true, false, false]) true rfl (by kernel_rfl) ?_
      refine m_alloc hA hS Tryz.zeroValue24 rfl ?_
      clear hA hS a; intro a b3 w hA hleb3 hgb3 hS
      replace hQ := hQ.gr hgb3
      refine m_nil (m_then ⟨fun _ => hQ, ?_⟩)
      refine d_one 10 (bs' := [true, true, true, true, true, true, true, true, true, true, true, false]) false rfl (by kernel_rfl) ?_
      refine m_store 0 hA hS rfl rfl Tryz.sizeOf24 rfl rfl rfl rfl ?_
      clear hS; intro w hS
      refine m_nil (m_then ⟨fun h => (by cases h), ?_⟩)
      refine d_take 11 (bs' := [true, true, true, true, true, true, true, true, true, true, true, true]) hA rfl rfl (by kernel_rfl) (fun _ _ _ h => h) (Y.assign rfl) rfl ?_
      clear hA a; intro a hA
      refine d_done (by kernel_rfl) ?_
      refine m_then ?_
      refine m_seq ?_
      refine m_seq ?_
      refine m_region ?_
      refine m1 hA hS (Y.move rfl) rfl ?_
      clear hA a; intro a hA
      refine m1 hA hS (Y.neI rfl rfl) rfl ?_
      clear hA a; intro a hA
      refine m_nil ?_
      refine m_then ?_
      refine m_condF hA rfl (decide_eq_false (by simp)) ?_
      refine m_skip ?_
      refine m_then ?_
      refine m_region ?_
      refine m1 hA hS (Y.loads rfl Tryz.isAgg24 Tryz.sizeOf24 (fun w h => h.cells (i := 0) rfl) rfl) rfl ?_
      clear hA a; intro a hA
      refine m_store 2 hA hS rfl rfl Tryz.sizeOf24 rfl rfl rfl rfl ?_
      clear hS; intro w hS
      refine m_nil ?_
      refine n_block ?_
      refine m_then ?_
      refine m_region ?_
      refine m1 hA hS (Y.move rfl) rfl ?_
      clear hA a; intro a hA
      refine m1 hA hS (Y.addI rfl rfl (by omega)) rfl ?_
      clear hA a; intro a hA
      refine m1 hA hS (Y.assign rfl) rfl ?_
      clear hA a; intro a hA
      refine m_nil ?_
      replace hS := (hS.gone).dropV (V' := [(lo1, v1), (0, w0)]) (fun p hp => by
        rcases List.mem_cons.1 hp with rfl | hp
        · simp
        · simp at hp; subst hp; simp)
      exact m_then ⟨(i + 1, A1, n1, c1, lo1, v1), by (try dsimp only); omega, hA.keep [3, 2, 1] rfl, hS, by (try dsimp only); exact ⟨by omega, hP1⟩⟩
    · refine m_alloc hA hS Tryz.zeroValue24 rfl ?_
      clear hA hS a; intro a b4 w hA hleb4 hgb4 hS
      replace hQ := hQ.gr hgb4
      refine m_nil (m_then ⟨fun _ => hQ, ?_⟩)
      refine d_one 5 (bs' := [true, true, true, true, true, true, false, false, false, true, false, false]) false rfl (by kernel_rfl) ?_
      refine m_call hA Tryz.call13 rfl rfl ((one_c (awH i) A n c (awK i) (awA i) (awB i) _ (PtysL.zero (hP.ov (hS.at (by simp))))).mono ?_)
      rintro e w ⟨A1, n1, c1, rfl, hg1, hP1⟩
      refine ⟨_, rfl, ?_⟩
      clear hA a; intro a hA
      rw [aw_step i hi] at hA hP1
      replace hQ := hQ.gr hg1
      obtain ⟨lo1, v1, hP1, hS⟩ := hS.keepP hg1 hP1
      refine m_nil (m_then ⟨fun h => (by cases h), ?_⟩)
      refine d_take 6 (bs' := [true, true, true, true, true, true, true, false, false, true, false, false]) hA rfl rfl (by kernel_rfl) (fun _ _ _ h => h) (Y.move rfl) rfl ?_
      clear hA a; intro a hA
      refine d_take 7 (bs' := [true, true, true, true, true, true, true, true, false, true, false, false]) hA rfl rfl (by kernel_rfl) (fun _ _ _ h => h) (Y.extract rfl rfl) rfl ?_
      clear hA a; intro a hA
      refine d_take 8 (bs' := [true, true, true, true, true, true, true, true, true, true, false, false]) hA rfl rfl (by kernel_rfl) (fun _ _ _ h => h) (Y.extract rfl rfl) rfl ?_
      clear hA a; intro a hA
      refine d_one 10 (bs' := [true, true, true, true, true, true, true, true, true, true, true, false]) false rfl (by kernel_rfl) ?_
      refine m_store 0 hA hS rfl rfl Tryz.sizeOf24 rfl rfl rfl rfl ?_
      clear hS; intro w hS
      refine m_nil (m_then ⟨fun h => (by cases h), ?_⟩)
      refine d_take 11 (bs' := [true, true, true, true, true, true, true, true, true, true, true, true]) hA rfl rfl (by kernel_rfl) (fun _ _ _ h => h) (Y.assign rfl) rfl ?_
      clear hA a; intro a hA
      refine d_done (by kernel_rfl) ?_
      refine m_then ?_
      refine m_seq ?_
      refine m_seq ?_
      refine m_region ?_
      refine m1 hA hS (Y.move rfl) rfl ?_
      clear hA a; intro a hA
      refine m1 hA hS (Y.neI rfl rfl) rfl ?_
      clear hA a; intro a hA
      refine m_nil ?_
      refine m_then ?_
      refine m_condF hA rfl (decide_eq_false (by simp)) ?_
      refine m_skip ?_
      refine m_then ?_
      refine m_region ?_
      refine m1 hA hS (Y.loads rfl Tryz.isAgg24 Tryz.sizeOf24 (fun w h => h.cells (i := 0) rfl) rfl) rfl ?_
      clear hA a; intro a hA
      refine m_store 2 hA hS rfl rfl Tryz.sizeOf24 rfl rfl rfl rfl ?_
      clear hS; intro w hS
      refine m_nil ?_
      refine n_block ?_
      refine m_then ?_
      refine m_region ?_
      refine m1 hA hS (Y.move rfl) rfl ?_
      clear hA a; intro a hA
      refine m1 hA hS (Y.addI rfl rfl (by omega)) rfl ?_
      clear hA a; intro a hA
      refine m1 hA hS (Y.assign rfl) rfl ?_
      clear hA a; intro a hA
      refine m_nil ?_
      replace hS := (hS.gone).dropV (V' := [(lo1, v1), (0, w0)]) (fun p hp => by
        rcases List.mem_cons.1 hp with rfl | hp
        · simp
        · simp at hp; subst hp; simp)
      exact m_then ⟨(i + 1, A1, n1, c1, lo1, v1), by (try dsimp only); omega, hA.keep [3, 2, 1] rfl, hS, by (try dsimp only); exact ⟨by omega, hP1⟩⟩
  · have hi5' : i = 5 := by omega
    subst hi5'
    refine m_exit ?_
    refine x_then ?_
    refine x_then ?_
    refine x_block ?_
    refine m_then ?_
    refine m_seq ?_
    refine m_region ?_
    refine m1 hA hS (Y.loads rfl Tryz.isAgg24 Tryz.sizeOf24 (fun w h => h.cells (i := 1) rfl) rfl) rfl ?_
    clear hA a; intro a hA
    refine m_call hA Tryz.call14 rfl rfl ((accept_v 9 2 (awH 5) A n c _ (PtysL.zero (hP.ov (hS.at (by simp))))).mono ?_)
    rintro e w ⟨A6, n6, c6, rfl, hg6, hP6⟩
    refine ⟨_, rfl, ?_⟩
    clear hA a; intro a hA
    rw [aw_a] at hA hP6
    obtain ⟨lo6, v6, hP6, hS⟩ := hS.keepP hg6 hP6
    refine m1 hA hS (Y.move rfl) rfl ?_
    clear hA a; intro a hA
    refine m1 hA hS (Y.extract rfl rfl) rfl ?_
    clear hA a; intro a hA
    refine m1 hA hS (Y.extract rfl rfl) rfl ?_
    clear hA a; intro a hA
    refine m_alloc hA hS Tryz.zeroValue24 rfl ?_
    clear hA hS a; intro a b5 w hA hleb5 hgb5 hS
    refine m_store 0 hA hS rfl rfl Tryz.sizeOf24 rfl rfl rfl rfl ?_
    clear hS; intro w hS
    refine m1 hA hS (Y.assign rfl) rfl ?_
    clear hA a; intro a hA
    refine m_nil ?_
    refine m_then ?_
    refine m_seq ?_
    refine m_region ?_
    refine m1 hA hS (Y.loads rfl Tryz.isAgg24 Tryz.sizeOf24 (fun w h => h.cells (i := 2) rfl) rfl) rfl ?_
    clear hA a; intro a hA
    refine m_call hA Tryz.call15 rfl rfl ((invited_v 9 5 (awH 5) A n c _ (PtysL.zero (hP.ov (hS.at (by simp))))).mono ?_)
    rintro e w ⟨A7, n7, c7, rfl, hg7, hP7⟩
    refine ⟨_, rfl, ?_⟩
    clear hA a; intro a hA
    rw [aw_b] at hA hP7
    obtain ⟨lo7, v7, hP7, hS⟩ := hS.keepP hg7 hP7
    refine m1 hA hS (Y.move rfl) rfl ?_
    clear hA a; intro a hA
    refine m1 hA hS (Y.extract rfl rfl) rfl ?_
    clear hA a; intro a hA
    refine m1 hA hS (Y.extract rfl rfl) rfl ?_
    clear hA a; intro a hA
    refine m_alloc hA hS Tryz.zeroValue24 rfl ?_
    clear hA hS a; intro a b6 w hA hleb6 hgb6 hS
    refine m_store 0 hA hS rfl rfl Tryz.sizeOf24 rfl rfl rfl rfl ?_
    clear hS; intro w hS
    refine m1 hA hS (Y.assign rfl) rfl ?_
    clear hA a; intro a hA
    refine m_nil ?_
    refine m_then ?_
    refine m_seq ?_
    refine m_region ?_
    refine m1 hA hS (Y.loads rfl Tryz.isAgg24 Tryz.sizeOf24 (fun w h => h.cells (i := 3) rfl) rfl) rfl ?_
    clear hA a; intro a hA
    refine m_call hA Tryz.call15 rfl rfl ((invited_v 7 8 (awH 5) A n c _ (PtysL.zero (hP.ov (hS.at (by simp))))).mono ?_)
    rintro e w ⟨A8, n8, c8, rfl, hg8, hP8⟩
    refine ⟨_, rfl, ?_⟩
    clear hA a; intro a hA
    rw [aw_c] at hA hP8
    obtain ⟨lo8, v8, hP8, hS⟩ := hS.keepP hg8 hP8
    refine m1 hA hS (Y.move rfl) rfl ?_
    clear hA a; intro a hA
    refine m1 hA hS (Y.extract rfl rfl) rfl ?_
    clear hA a; intro a hA
    refine m1 hA hS (Y.extract rfl rfl) rfl ?_
    clear hA a; intro a hA
    refine m_alloc hA hS Tryz.zeroValue24 rfl ?_
    clear hA hS a; intro a b7 w hA hleb7 hgb7 hS
    refine m_store 0 hA hS rfl rfl Tryz.sizeOf24 rfl rfl rfl rfl ?_
    clear hS; intro w hS
    refine m1 hA hS (Y.assign rfl) rfl ?_
    clear hA a; intro a hA
    refine m_nil ?_
    refine m_then ?_
    refine m_seq ?_
    refine m_region ?_
    refine m1 hA hS (Y.loads rfl Tryz.isAgg24 Tryz.sizeOf24 (fun w h => h.cells (i := 4) rfl) rfl) rfl ?_
    clear hA a; intro a hA
    refine m_call hA Tryz.call16 rfl rfl ((of_c 9 (awH 5) A n c _ (PtysL.zero (hP.ov (hS.at (by simp))))).mono ?_)
    rintro e w ⟨M9, m9, mc9, I9, i9, ic9, rfl, hg9, hP9⟩
    refine ⟨_, rfl, ?_⟩
    clear hA a; intro a hA
    rw [aw_p] at hA hP9
    obtain ⟨lo9, v9, hP9, hS⟩ := hS.keepY hg9 hP9
    refine m1 hA hS (Y.move rfl) rfl ?_
    clear hA a; intro a hA
    refine m1 hA hS (Y.extract rfl rfl) rfl ?_
    clear hA a; intro a hA
    refine m1 hA hS (Y.extract rfl rfl) rfl ?_
    clear hA a; intro a hA
    refine m_alloc hA hS Tryz.zeroValue46 rfl ?_
    clear hA hS a; intro a b8 w hA hleb8 hgb8 hS
    refine m_store 0 hA hS rfl rfl Tryz.sizeOf46 rfl rfl rfl rfl ?_
    clear hS; intro w hS
    refine m1 hA hS (Y.assign rfl) rfl ?_
    clear hA a; intro a hA
    refine m_nil ?_
    refine m_then ?_
    refine m_seq ?_
    refine m_region ?_
    refine m1 hA hS (Y.loads rfl Tryz.isAgg24 Tryz.sizeOf24 (fun w h => h.cells (i := 5) rfl) rfl) rfl ?_
    clear hA a; intro a hA
    refine m_call hA Tryz.call17 rfl rfl ((leaveFn_v 7 (awH 5) A n c _ (PtysL.zero (hP.ov (hS.at (by simp))))).mono ?_)
    rintro e w ⟨A10, n10, c10, rfl, hg10, hP10⟩
    refine ⟨_, rfl, ?_⟩
    clear hA a; intro a hA
    rw [aw_d] at hA hP10
    obtain ⟨lo10, v10, hP10, hS⟩ := hS.keepP hg10 hP10
    refine m1 hA hS (Y.move rfl) rfl ?_
    clear hA a; intro a hA
    refine m1 hA hS (Y.extract rfl rfl) rfl ?_
    clear hA a; intro a hA
    refine m1 hA hS (Y.extract rfl rfl) rfl ?_
    clear hA a; intro a hA
    refine m_store 5 hA hS rfl rfl Tryz.sizeOf24 rfl rfl rfl rfl ?_
    clear hS; intro w hS
    refine m1 hA hS (Y.assign rfl) rfl ?_
    clear hA a; intro a hA
    refine m_nil ?_
    refine m_then ?_
    refine m_seq ?_
    refine m_region ?_
    refine m1 hA hS (Y.loads rfl Tryz.isAgg24 Tryz.sizeOf24 (fun w h => h.cells (i := 5) rfl) rfl) rfl ?_
    clear hA a; intro a hA
    refine m_call hA Tryz.call16 rfl rfl ((of_c 9 aw6 A10 n10 c10 _ (PtysL.zero (hP10.ov (hS.at (by simp))))).mono ?_)
    rintro e w ⟨M11, m11, mc11, I11, i11, ic11, rfl, hg11, hP11⟩
    refine ⟨_, rfl, ?_⟩
    clear hA a; intro a hA
    rw [aw_q] at hA hP11
    obtain ⟨lo11, v11, hP11, hS⟩ := hS.keepY hg11 hP11
    refine m1 hA hS (Y.move rfl) rfl ?_
    clear hA a; intro a hA
    refine m1 hA hS (Y.extract rfl rfl) rfl ?_
    clear hA a; intro a hA
    refine m1 hA hS (Y.extract rfl rfl) rfl ?_
    clear hA a; intro a hA
    refine m_alloc hA hS Tryz.zeroValue46 rfl ?_
    clear hA hS a; intro a b9 w hA hleb9 hgb9 hS
    refine m_store 0 hA hS rfl rfl Tryz.sizeOf46 rfl rfl rfl rfl ?_
    clear hS; intro w hS
    refine m1 hA hS (Y.assign rfl) rfl ?_
    clear hA a; intro a hA
    refine m_nil ?_
    refine m_then ?_
    refine m_seq ?_
    refine m_region ?_
    refine m1 hA hS (Y.loads rfl Tryz.isAgg24 Tryz.sizeOf24 (fun w h => h.cells (i := 6) rfl) rfl) rfl ?_
    clear hA a; intro a hA
    refine m_call hA Tryz.call17 rfl rfl ((leaveFn_v 9 aw6 A10 n10 c10 _ (PtysL.zero (hP10.ov (hS.at (by simp))))).mono ?_)
    rintro e w ⟨A12, n12, c12, rfl, hg12, hP12⟩
    refine ⟨_, rfl, ?_⟩
    clear hA a; intro a hA
    rw [aw_e] at hA hP12
    obtain ⟨lo12, v12, hP12, hS⟩ := hS.keepP hg12 hP12
    refine m1 hA hS (Y.move rfl) rfl ?_
    clear hA a; intro a hA
    refine m1 hA hS (Y.extract rfl rfl) rfl ?_
    clear hA a; intro a hA
    refine m1 hA hS (Y.extract rfl rfl) rfl ?_
    clear hA a; intro a hA
    refine m_store 6 hA hS rfl rfl Tryz.sizeOf24 rfl rfl rfl rfl ?_
    clear hS; intro w hS
    refine m1 hA hS (Y.assign rfl) rfl ?_
    clear hA a; intro a hA
    refine m_nil ?_
    refine m_then ?_
    refine m_seq ?_
    refine m_region ?_
    refine m1 hA hS (Y.loads rfl Tryz.isAgg24 Tryz.sizeOf24 (fun w h => h.cells (i := 6) rfl) rfl) rfl ?_
    clear hA a; intro a hA
    refine m_call hA Tryz.call18 rfl rfl ((create_v 9 aw7 A12 n12 c12 _ (PtysL.zero (hP12.ov (hS.at (by simp))))).mono ?_)
    rintro e w ⟨A13, n13, c13, rfl, hg13, hP13⟩
    refine ⟨_, rfl, ?_⟩
    clear hA a; intro a hA
    rw [aw_f] at hA hP13
    obtain ⟨lo13, v13, hP13, hS⟩ := hS.keepP hg13 hP13
    refine m1 hA hS (Y.move rfl) rfl ?_
    clear hA a; intro a hA
    refine m1 hA hS (Y.extract rfl rfl) rfl ?_
    clear hA a; intro a hA
    refine m1 hA hS (Y.extract rfl rfl) rfl ?_
    clear hA a; intro a hA
    refine m_store 6 hA hS rfl rfl Tryz.sizeOf24 rfl rfl rfl rfl ?_
    clear hS; intro w hS
    refine m1 hA hS (Y.assign rfl) rfl ?_
    clear hA a; intro a hA
    refine m_nil ?_
    refine m_then ?_
    refine m_seq ?_
    refine m_region ?_
    refine m1 hA hS (Y.loads rfl Tryz.isAgg24 Tryz.sizeOf24 (fun w h => h.cells (i := 6) rfl) rfl) rfl ?_
    clear hA a; intro a hA
    refine m_call hA Tryz.call15 rfl rfl ((invited_v 9 1 aw8 A13 n13 c13 _ (PtysL.zero (hP13.ov (hS.at (by simp))))).mono ?_)
    rintro e w ⟨A14, n14, c14, rfl, hg14, hP14⟩
    refine ⟨_, rfl, ?_⟩
    clear hA a; intro a hA
    rw [aw_g] at hA hP14
    obtain ⟨lo14, v14, hP14, hS⟩ := hS.keepP hg14 hP14
    refine m1 hA hS (Y.move rfl) rfl ?_
    clear hA a; intro a hA
    refine m1 hA hS (Y.extract rfl rfl) rfl ?_
    clear hA a; intro a hA
    refine m1 hA hS (Y.extract rfl rfl) rfl ?_
    clear hA a; intro a hA
    refine m_store 6 hA hS rfl rfl Tryz.sizeOf24 rfl rfl rfl rfl ?_
    clear hS; intro w hS
    refine m1 hA hS (Y.assign rfl) rfl ?_
    clear hA a; intro a hA
    refine m_nil ?_
    refine m_then ?_
    refine m_seq ?_
    refine m_region ?_
    refine m1 hA hS (Y.loads rfl Tryz.isAgg24 Tryz.sizeOf24 (fun w h => h.cells (i := 6) rfl) rfl) rfl ?_
    clear hA a; intro a hA
    refine m_call hA Tryz.call15 rfl rfl ((invited_v 9 2 aw9 A14 n14 c14 _ (PtysL.zero (hP14.ov (hS.at (by simp))))).mono ?_)
    rintro e w ⟨A15, n15, c15, rfl, hg15, hP15⟩
    refine ⟨_, rfl, ?_⟩
    clear hA a; intro a hA
    rw [aw_i] at hA hP15
    obtain ⟨lo15, v15, hP15, hS⟩ := hS.keepP hg15 hP15
    refine m1 hA hS (Y.move rfl) rfl ?_
    clear hA a; intro a hA
    refine m1 hA hS (Y.extract rfl rfl) rfl ?_
    clear hA a; intro a hA
    refine m1 hA hS (Y.extract rfl rfl) rfl ?_
    clear hA a; intro a hA
    refine m_store 6 hA hS rfl rfl Tryz.sizeOf24 rfl rfl rfl rfl ?_
    clear hS; intro w hS
    refine m1 hA hS (Y.assign rfl) rfl ?_
    clear hA a; intro a hA
    refine m_nil ?_
    refine m_then ?_
    refine m_seq ?_
    refine m_region ?_
    refine m1 hA hS (Y.loads rfl Tryz.isAgg24 Tryz.sizeOf24 (fun w h => h.cells (i := 6) rfl) rfl) rfl ?_
    clear hA a; intro a hA
    refine m_call hA Tryz.call19 rfl rfl ((advance_v 599 aw10 A15 n15 c15 _ (PtysL.zero (hP15.ov (hS.at (by simp))))).mono ?_)
    rintro e w ⟨A16, n16, c16, rfl, hg16, hP16⟩
    refine ⟨_, rfl, ?_⟩
    clear hA a; intro a hA
    rw [aw_j] at hA hP16
    obtain ⟨lo16, v16, hP16, hS⟩ := hS.keepP hg16 hP16
    refine m1 hA hS (Y.move rfl) rfl ?_
    clear hA a; intro a hA
    refine m1 hA hS (Y.extract rfl rfl) rfl ?_
    clear hA a; intro a hA
    refine m1 hA hS (Y.extract rfl rfl) rfl ?_
    clear hA a; intro a hA
    refine m_alloc hA hS Tryz.zeroValue24 rfl ?_
    clear hA hS a; intro a b10 w hA hleb10 hgb10 hS
    refine m_store 0 hA hS rfl rfl Tryz.sizeOf24 rfl rfl rfl rfl ?_
    clear hS; intro w hS
    refine m1 hA hS (Y.assign rfl) rfl ?_
    clear hA a; intro a hA
    refine m_nil ?_
    refine m_then ?_
    refine m_seq ?_
    refine m_region ?_
    refine m1 hA hS (Y.loads rfl Tryz.isAgg24 Tryz.sizeOf24 (fun w h => h.cells (i := 0) rfl) rfl) rfl ?_
    clear hA a; intro a hA
    refine m_call hA Tryz.call14 rfl rfl ((accept_v 1 3 aw11 A16 n16 c16 _ (PtysL.zero (hP16.ov (hS.at (by simp))))).mono ?_)
    rintro e w ⟨A17, n17, c17, rfl, hg17, hP17⟩
    refine ⟨_, rfl, ?_⟩
    clear hA a; intro a hA
    rw [aw_k] at hA hP17
    obtain ⟨lo17, v17, hP17, hS⟩ := hS.keepP hg17 hP17
    refine m1 hA hS (Y.move rfl) rfl ?_
    clear hA a; intro a hA
    refine m1 hA hS (Y.extract rfl rfl) rfl ?_
    clear hA a; intro a hA
    refine m1 hA hS (Y.extract rfl rfl) rfl ?_
    clear hA a; intro a hA
    refine m_alloc hA hS Tryz.zeroValue24 rfl ?_
    clear hA hS a; intro a b11 w hA hleb11 hgb11 hS
    refine m_store 0 hA hS rfl rfl Tryz.sizeOf24 rfl rfl rfl rfl ?_
    clear hS; intro w hS
    refine m1 hA hS (Y.assign rfl) rfl ?_
    clear hA a; intro a hA
    refine m_nil ?_
    refine m_then ?_
    refine m_seq ?_
    refine m_region ?_
    refine m1 hA hS (Y.loads rfl Tryz.isAgg24 Tryz.sizeOf24 (fun w h => h.cells (i := 8) rfl) rfl) rfl ?_
    clear hA a; intro a hA
    refine m_call hA Tryz.call19 rfl rfl ((advance_v 600 aw10 A15 n15 c15 _ (PtysL.zero (hP15.ov (hS.at (by simp))))).mono ?_)
    rintro e w ⟨A18, n18, c18, rfl, hg18, hP18⟩
    refine ⟨_, rfl, ?_⟩
    clear hA a; intro a hA
    rw [aw_m] at hA hP18
    obtain ⟨lo18, v18, hP18, hS⟩ := hS.keepP hg18 hP18
    refine m1 hA hS (Y.move rfl) rfl ?_
    clear hA a; intro a hA
    refine m1 hA hS (Y.extract rfl rfl) rfl ?_
    clear hA a; intro a hA
    refine m1 hA hS (Y.extract rfl rfl) rfl ?_
    clear hA a; intro a hA
    refine m_alloc hA hS Tryz.zeroValue24 rfl ?_
    clear hA hS a; intro a b12 w hA hleb12 hgb12 hS
    refine m_store 0 hA hS rfl rfl Tryz.sizeOf24 rfl rfl rfl rfl ?_
    clear hS; intro w hS
    refine m1 hA hS (Y.assign rfl) rfl ?_
    clear hA a; intro a hA
    refine m_nil ?_
    refine m_then ?_
    refine m_seq ?_
    refine m_region ?_
    refine m1 hA hS (Y.loads rfl Tryz.isAgg24 Tryz.sizeOf24 (fun w h => h.cells (i := 0) rfl) rfl) rfl ?_
    clear hA a; intro a hA
    refine m_call hA Tryz.call14 rfl rfl ((accept_v 1 3 aw13 A18 n18 c18 _ (PtysL.zero (hP18.ov (hS.at (by simp))))).mono ?_)
    rintro e w ⟨A19, n19, c19, rfl, hg19, hP19⟩
    refine ⟨_, rfl, ?_⟩
    clear hA a; intro a hA
    rw [aw_n] at hA hP19
    obtain ⟨lo19, v19, hP19, hS⟩ := hS.keepP hg19 hP19
    obtain rfl : m11 = 1 := (hP11.mem.len).symm
    refine m1 hA hS (Y.move rfl) rfl ?_
    clear hA a; intro a hA
    refine m1 hA hS (Y.extract rfl rfl) rfl ?_
    clear hA a; intro a hA
    refine m1 hA hS (Y.extract rfl rfl) rfl ?_
    clear hA a; intro a hA
    refine m_alloc hA hS Tryz.zeroValue24 rfl ?_
    clear hA hS a; intro a b13 w hA hleb13 hgb13 hS
    refine m_store 0 hA hS rfl rfl Tryz.sizeOf24 rfl rfl rfl rfl ?_
    clear hS; intro w hS
    refine m1 hA hS (Y.assign rfl) rfl ?_
    clear hA a; intro a hA
    refine m_nil ?_
    refine m_then ?_
    refine m_seq ?_
    refine m_seq ?_
    refine m_region ?_
    refine m1 hA hS (Y.move rfl) rfl ?_
    clear hA a; intro a hA
    refine m1 hA hS (Y.neI rfl rfl) rfl ?_
    clear hA a; intro a hA
    refine m1 hA hS (Y.move rfl) rfl ?_
    clear hA a; intro a hA
    replace hA := hA.keep [127, 28, 26, 24, 22, 21, 20, 19, 18, 17, 16, 15, 14, 13, 12, 11, 9, 1] rfl
    apply m_or 3 130 127 hA hS rfl
    · intro hp1
      refine m1s hA (dj := 127) rfl rfl rfl hp1 rfl ?_
      intro a hA
      refine m1s hA (dj := 127) rfl rfl rfl hp1 rfl ?_
      clear hA a; intro a hA
      refine m1 hA hS (Y.pickT' rfl hp1 rfl) rfl ?_
      clear hA a; intro a hA
      exact m_nil (m_then ⟨hA.keep [130, 127, 28, 26, 24, 22, 21, 20, 19, 18, 17, 16, 15, 14, 13, 12, 11, 9, 1] rfl, hS⟩)
    · intro hp1
      refine m1g hA hS (dj := 127) rfl rfl rfl hp1 (Y.move rfl) rfl ?_
      intro a hA
      refine m1g hA hS (dj := 127) rfl rfl rfl hp1 (Y.neI rfl rfl) rfl ?_
      clear hA a; intro a hA
      refine m1 hA hS (Y.pickF' rfl hp1 rfl) rfl ?_
      clear hA a; intro a hA
      exact m_nil (m_then ⟨hA.keep [130, 127, 28, 26, 24, 22, 21, 20, 19, 18, 17, 16, 15, 14, 13, 12, 11, 9, 1] rfl, hS⟩)
    · clear hA hS a; intro a w hA hS
      refine m1 hA hS (Y.move rfl) rfl ?_
      clear hA a; intro a hA
      replace hA := hA.keep [131, 28, 26, 24, 22, 21, 20, 19, 18, 17, 16, 15, 14, 13, 12, 11, 1] rfl
      apply m_or 3 134 131 hA hS rfl
      · intro hp2
        refine m1s hA (dj := 131) rfl rfl rfl hp2 rfl ?_
        intro a hA
        refine m1s hA (dj := 131) rfl rfl rfl hp2 rfl ?_
        clear hA a; intro a hA
        refine m1 hA hS (Y.pickT' rfl hp2 rfl) rfl ?_
        clear hA a; intro a hA
        exact m_nil (m_then ⟨hA.keep [134, 131, 28, 26, 24, 22, 21, 20, 19, 18, 17, 16, 15, 14, 13, 12, 11, 1] rfl, hS⟩)
      · intro hp2
        refine m1g hA hS (dj := 131) rfl rfl rfl hp2 (Y.move rfl) rfl ?_
        intro a hA
        refine m1g hA hS (dj := 131) rfl rfl rfl hp2 (Y.neI rfl rfl) rfl ?_
        clear hA a; intro a hA
        refine m1 hA hS (Y.pickF' rfl hp2 rfl) rfl ?_
        clear hA a; intro a hA
        exact m_nil (m_then ⟨hA.keep [134, 131, 28, 26, 24, 22, 21, 20, 19, 18, 17, 16, 15, 14, 13, 12, 11, 1] rfl, hS⟩)
      · clear hA hS a; intro a w hA hS
        refine m1 hA hS (Y.move rfl) rfl ?_
        clear hA a; intro a hA
        replace hA := hA.keep [135, 28, 26, 24, 22, 21, 20, 19, 18, 17, 16, 15, 14, 13, 12, 1] rfl
        apply m_or 17 152 135 hA hS rfl
        · intro hp3
          refine m1s hA (dj := 135) rfl rfl rfl hp3 rfl ?_
          intro a hA
          refine m1s hA (dj := 135) rfl rfl rfl hp3 rfl ?_
          clear hA a; intro a hA
          refine m1s hA (dj := 135) rfl rfl rfl hp3 rfl ?_
          clear hA a; intro a hA
          refine m1s hA (dj := 135) rfl rfl rfl hp3 rfl ?_
          clear hA a; intro a hA
          refine m1s hA (dj := 135) rfl rfl rfl hp3 rfl ?_
          clear hA a; intro a hA
          refine m1s hA (dj := 135) rfl rfl rfl hp3 rfl ?_
          clear hA a; intro a hA
          refine m1s hA (dj := 135) rfl rfl rfl hp3 rfl ?_
          clear hA a; intro a hA
          refine m1s hA (dj := 135) rfl rfl rfl hp3 rfl ?_
          clear hA a; intro a hA
          refine m1s hA (dj := 135) rfl rfl rfl hp3 rfl ?_
          clear hA a; intro a hA
          refine m1s hA (dj := 135) rfl rfl rfl hp3 rfl ?_
          clear hA a; intro a hA
          refine m1s hA (dj := 135) rfl rfl rfl hp3 rfl ?_
          clear hA a; intro a hA
          refine m1s hA (dj := 135) rfl rfl rfl hp3 rfl ?_
          clear hA a; intro a hA
          refine m1s hA (dj := 135) rfl rfl rfl hp3 rfl ?_
          clear hA a; intro a hA
          refine m1s hA (dj := 135) rfl rfl rfl hp3 rfl ?_
          clear hA a; intro a hA
          refine m1s hA (dj := 135) rfl rfl rfl hp3 rfl ?_
          clear hA a; intro a hA
          refine m1s hA (dj := 135) rfl rfl rfl hp3 rfl ?_
          clear hA a; intro a hA
          refine m1 hA hS (Y.pickT' rfl hp3 rfl) rfl ?_
          clear hA a; intro a hA
          exact m_nil (m_then ⟨hA.keep [152, 135, 28, 26, 24, 22, 21, 20, 19, 18, 17, 16, 15, 14, 13, 12, 1] rfl, hS⟩)
        · intro hp3
          refine m1g hA hS (dj := 135) rfl rfl rfl hp3 (Y.move rfl) rfl ?_
          intro a hA
          refine m1g hA hS (dj := 135) rfl rfl rfl hp3 (Y.move rfl) rfl ?_
          clear hA a; intro a hA
          refine m1g hA hS (dj := 135) rfl rfl rfl hp3 (Y.addI rfl rfl (by omega)) rfl ?_
          clear hA a; intro a hA
          refine m1g hA hS (dj := 135) rfl rfl rfl hp3 (Y.move rfl) rfl ?_
          clear hA a; intro a hA
          refine m1g hA hS (dj := 135) rfl rfl rfl hp3 (Y.addI rfl rfl (by omega)) rfl ?_
          clear hA a; intro a hA
          refine m1g hA hS (dj := 135) rfl rfl rfl hp3 (Y.move rfl) rfl ?_
          clear hA a; intro a hA
          refine m1g hA hS (dj := 135) rfl rfl rfl hp3 (Y.addI rfl rfl (by omega)) rfl ?_
          clear hA a; intro a hA
          refine m1g hA hS (dj := 135) rfl rfl rfl hp3 (Y.move rfl) rfl ?_
          clear hA a; intro a hA
          refine m1g hA hS (dj := 135) rfl rfl rfl hp3 (Y.addI rfl rfl (by omega)) rfl ?_
          clear hA a; intro a hA
          refine m1g hA hS (dj := 135) rfl rfl rfl hp3 (Y.move rfl) rfl ?_
          clear hA a; intro a hA
          refine m1g hA hS (dj := 135) rfl rfl rfl hp3 (Y.addI rfl rfl (by omega)) rfl ?_
          clear hA a; intro a hA
          refine m1g hA hS (dj := 135) rfl rfl rfl hp3 (Y.move rfl) rfl ?_
          clear hA a; intro a hA
          refine m1g hA hS (dj := 135) rfl rfl rfl hp3 (Y.addI rfl rfl (by omega)) rfl ?_
          clear hA a; intro a hA
          refine m1g hA hS (dj := 135) rfl rfl rfl hp3 (Y.move rfl) rfl ?_
          clear hA a; intro a hA
          refine m1g hA hS (dj := 135) rfl rfl rfl hp3 (Y.addI rfl rfl (by omega)) rfl ?_
          clear hA a; intro a hA
          refine m1g hA hS (dj := 135) rfl rfl rfl hp3 (Y.neI rfl rfl) rfl ?_
          clear hA a; intro a hA
          refine m1 hA hS (Y.pickF' rfl hp3 rfl) rfl ?_
          clear hA a; intro a hA
          exact m_nil (m_then ⟨hA.keep [152, 135, 28, 26, 24, 22, 21, 20, 19, 18, 17, 16, 15, 14, 13, 12, 1] rfl, hS⟩)
        · clear hA hS a; intro a w hA hS
          refine m1 hA hS (Y.move rfl) rfl ?_
          clear hA a; intro a hA
          replace hA := hA.keep [153, 28, 21, 16, 15, 13, 12, 1] rfl
          apply m_or 3 156 153 hA hS rfl
          · intro hp4
            refine m1s hA (dj := 153) rfl rfl rfl hp4 rfl ?_
            intro a hA
            refine m1s hA (dj := 153) rfl rfl rfl hp4 rfl ?_
            clear hA a; intro a hA
            refine m1 hA hS (Y.pickT' rfl hp4 rfl) rfl ?_
            clear hA a; intro a hA
            exact m_nil (m_then ⟨hA.keep [156, 153, 28, 21, 16, 15, 13, 12, 1] rfl, hS⟩)
          · intro hp4
            refine m1g hA hS (dj := 153) rfl rfl rfl hp4 (Y.move rfl) rfl ?_
            intro a hA
            refine m1g hA hS (dj := 153) rfl rfl rfl hp4 (Y.neI rfl rfl) rfl ?_
            clear hA a; intro a hA
            refine m1 hA hS (Y.pickF' rfl hp4 rfl) rfl ?_
            clear hA a; intro a hA
            exact m_nil (m_then ⟨hA.keep [156, 153, 28, 21, 16, 15, 13, 12, 1] rfl, hS⟩)
          · clear hA hS a; intro a w hA hS
            refine m1 hA hS (Y.move rfl) rfl ?_
            clear hA a; intro a hA
            replace hA := hA.keep [157, 21, 16, 15, 13, 12, 1] rfl
            apply m_or 3 160 157 hA hS rfl
            · intro hp5
              refine m1s hA (dj := 157) rfl rfl rfl hp5 rfl ?_
              intro a hA
              refine m1s hA (dj := 157) rfl rfl rfl hp5 rfl ?_
              clear hA a; intro a hA
              refine m1 hA hS (Y.pickT' rfl hp5 rfl) rfl ?_
              clear hA a; intro a hA
              exact m_nil (m_then ⟨hA.keep [160, 157, 21, 16, 15, 13, 12, 1] rfl, hS⟩)
            · intro hp5
              refine m1g hA hS (dj := 157) rfl rfl rfl hp5 (Y.move rfl) rfl ?_
              intro a hA
              refine m1g hA hS (dj := 157) rfl rfl rfl hp5 (Y.not rfl) rfl ?_
              clear hA a; intro a hA
              refine m1 hA hS (Y.pickF' rfl hp5 rfl) rfl ?_
              clear hA a; intro a hA
              exact m_nil (m_then ⟨hA.keep [160, 157, 21, 16, 15, 13, 12, 1] rfl, hS⟩)
            · clear hA hS a; intro a w hA hS
              refine m1 hA hS (Y.move rfl) rfl ?_
              clear hA a; intro a hA
              replace hA := hA.keep [161, 21, 16, 15, 12, 1] rfl
              apply m_or 3 164 161 hA hS rfl
              · intro hp6
                refine m1s hA (dj := 161) rfl rfl rfl hp6 rfl ?_
                intro a hA
                refine m1s hA (dj := 161) rfl rfl rfl hp6 rfl ?_
                clear hA a; intro a hA
                refine m1 hA hS (Y.pickT' rfl hp6 rfl) rfl ?_
                clear hA a; intro a hA
                exact m_nil (m_then ⟨hA.keep [164, 161, 21, 16, 15, 12, 1] rfl, hS⟩)
              · intro hp6
                refine m1g hA hS (dj := 161) rfl rfl rfl hp6 (Y.move rfl) rfl ?_
                intro a hA
                refine m1g hA hS (dj := 161) rfl rfl rfl hp6 (Y.not rfl) rfl ?_
                clear hA a; intro a hA
                refine m1 hA hS (Y.pickF' rfl hp6 rfl) rfl ?_
                clear hA a; intro a hA
                exact m_nil (m_then ⟨hA.keep [164, 161, 21, 16, 15, 12, 1] rfl, hS⟩)
              · clear hA hS a; intro a w hA hS
                refine m1 hA hS (Y.move rfl) rfl ?_
                clear hA a; intro a hA
                replace hA := hA.keep [165, 21, 15, 12, 1] rfl
                apply m_or 4 169 165 hA hS rfl
                · intro hp7
                  refine m1s hA (dj := 165) rfl rfl rfl hp7 rfl ?_
                  intro a hA
                  refine m1s hA (dj := 165) rfl rfl rfl hp7 rfl ?_
                  clear hA a; intro a hA
                  refine m1s hA (dj := 165) rfl rfl rfl hp7 rfl ?_
                  clear hA a; intro a hA
                  refine m1 hA hS (Y.pickT' rfl hp7 rfl) rfl ?_
                  clear hA a; intro a hA
                  exact m_nil (m_then ⟨hA.keep [169, 165, 21, 15, 12, 1] rfl, hS⟩)
                · intro hp7
                  refine m1g hA hS (dj := 165) rfl rfl rfl hp7 (Y.loads rfl Tryz.isAgg24 Tryz.sizeOf24 (fun w h => h.cells (i := 10) rfl) rfl) rfl ?_
                  intro a hA
                  refine m_callbg (dj := 165) hA hS rfl rfl rfl hp7 Tryz.call8 rfl rfl (valid_c aw10 A15 n15 c15 _ (PtysL.zero (hP15.ov (hS.at (by simp))))) ?_
                  clear hA a; intro a w hA hS hg
                  refine m1g hA hS (dj := 165) rfl rfl rfl hp7 (Y.not rfl) rfl ?_
                  clear hA a; intro a hA
                  refine m1 hA hS (Y.pickF' rfl hp7 rfl) rfl ?_
                  clear hA a; intro a hA
                  exact m_nil (m_then ⟨hA.keep [169, 165, 21, 15, 12, 1] rfl, hS⟩)
                · clear hA hS a; intro a w hA hS
                  refine m_nil ?_
                  refine m_then ?_
                  refine m_condF hA rfl ((by rw [aw_v]; rfl)) ?_
                  refine m_skip ?_
                  refine m_then ?_
                  refine m_seq ?_
                  refine m_region ?_
                  refine m1 hA hS (Y.loads rfl Tryz.isAgg24 Tryz.sizeOf24 (fun w h => h.cells (i := 3) rfl) rfl) rfl ?_
                  clear hA a; intro a hA
                  refine m_call hA Tryz.call20 rfl rfl ((share_c 3 11 aw11 A16 n16 c16 _ (PtysL.zero (hP16.ov (hS.at (by simp))))).mono ?_)
                  rintro e w ⟨A20, n20, c20, rfl, hg20, hP20⟩
                  refine ⟨_, rfl, ?_⟩
                  clear hA a; intro a hA
                  rw [aw_s] at hA hP20
                  obtain ⟨lo20, v20, hP20, hS⟩ := hS.keepI hg20 hP20
                  refine m1 hA hS (Y.move rfl) rfl ?_
                  clear hA a; intro a hA
                  refine m1 hA hS (Y.extract rfl rfl) rfl ?_
                  clear hA a; intro a hA
                  refine m1 hA hS (Y.extract rfl rfl) rfl ?_
                  clear hA a; intro a hA
                  refine m1 hA hS (Y.assign rfl) rfl ?_
                  clear hA a; intro a hA
                  refine m1 hA hS (Y.assign rfl) rfl ?_
                  clear hA a; intro a hA
                  refine m_nil ?_
                  refine m_then ?_
                  refine m_seq ?_
                  refine m_region ?_
                  refine m1 hA hS (Y.fieldAddr (k := 0) rfl Tryz.underlying46 rfl rfl Tryz.sizeOf3) rfl ?_
                  clear hA a; intro a hA
                  refine m1 hA hS (Y.load rfl Tryz.isAgg3 (fun w h => h.cell (i := 5) rfl rfl)) rfl ?_
                  clear hA a; intro a hA
                  refine m1 hA hS (Y.eqI rfl rfl) rfl ?_
                  clear hA a; intro a hA
                  refine m1 hA hS (Y.move rfl) rfl ?_
                  clear hA a; intro a hA
                  replace hA := hA.keep [178, 30, 29, 15, 12, 1] rfl
                  apply m_and 4 182 178 hA hS rfl
                  · intro hp8
                    refine m1s hA (dj := 178) rfl rfl rfl hp8 rfl ?_
                    intro a hA
                    refine m1s hA (dj := 178) rfl rfl rfl hp8 rfl ?_
                    clear hA a; intro a hA
                    refine m1s hA (dj := 178) rfl rfl rfl hp8 rfl ?_
                    clear hA a; intro a hA
                    refine m1 hA hS (Y.pickF' rfl hp8 rfl) rfl ?_
                    clear hA a; intro a hA
                    exact m_nil (m_then ⟨hA.keep [182, 178, 30, 29, 15, 12, 1] rfl, hS⟩)
                  · intro hp8
                    refine m1g hA hS (dj := 178) rfl rfl rfl hp8 (Y.fieldAddr (k := 1) rfl Tryz.underlying46 rfl rfl Tryz.sizeOf3) rfl ?_
                    intro a hA
                    refine m1g hA hS (dj := 178) rfl rfl rfl hp8 (Y.load rfl Tryz.isAgg3 (fun w h => h.cell (i := 5) rfl rfl)) rfl ?_
                    clear hA a; intro a hA
                    refine m1g hA hS (dj := 178) rfl rfl rfl hp8 (Y.eqI rfl rfl) rfl ?_
                    clear hA a; intro a hA
                    refine m1 hA hS (Y.pickT' rfl hp8 rfl) rfl ?_
                    clear hA a; intro a hA
                    exact m_nil (m_then ⟨hA.keep [182, 178, 30, 29, 15, 12, 1] rfl, hS⟩)
                  · clear hA hS a; intro a w hA hS
                    refine m1 hA hS (Y.move rfl) rfl ?_
                    clear hA a; intro a hA
                    replace hA := hA.keep [183, 30, 29, 15, 12, 1] rfl
                    apply m_and 5 188 183 hA hS rfl
                    · intro hp9
                      refine m1s hA (dj := 183) rfl rfl rfl hp9 rfl ?_
                      intro a hA
                      refine m1s hA (dj := 183) rfl rfl rfl hp9 rfl ?_
                      clear hA a; intro a hA
                      refine m1s hA (dj := 183) rfl rfl rfl hp9 rfl ?_
                      clear hA a; intro a hA
                      refine m1s hA (dj := 183) rfl rfl rfl hp9 rfl ?_
                      clear hA a; intro a hA
                      refine m1 hA hS (Y.pickF' rfl hp9 rfl) rfl ?_
                      clear hA a; intro a hA
                      exact m_nil (m_then ⟨hA.keep [188, 183, 30, 29, 15, 12, 1] rfl, hS⟩)
                    · intro hp9
                      refine m1g hA hS (dj := 183) rfl rfl rfl hp9 (Y.fieldAddr (k := 2) rfl Tryz.underlying46 rfl rfl Tryz.sizeOf38) rfl ?_
                      intro a hA
                      refine m1g hA hS (dj := 183) rfl rfl rfl hp9 (Y.load rfl Tryz.isAgg38 (fun w h => h.cell (i := 5) rfl rfl)) rfl ?_
                      clear hA a; intro a hA
                      refine m_buildSliceG (dj := 183) [Value.int .i64 7, .int .i64 9] hA hS rfl rfl rfl hp9 rfl rfl (bs_int2 7 9) ?_
                      intro a bq w hA hgq hS
                      refine m_callbg (dj := 183) hA hS rfl rfl rfl hp9 Tryz.call21 rfl rfl (sameInts_c _ _ _ [7, 9] _ _ _ [7, 9] _ (IntsL.zero (hP9.mem.ov (hS.at (by simp)))) (St.ints hS (by simp))) ?_
                      clear hA a; intro a w hA hS hg
                      replace hS := hS.gone
                      refine m1 hA hS (Y.pickT' rfl hp9 rfl) rfl ?_
                      clear hA a; intro a hA
                      exact m_nil (m_then ⟨hA.keep [188, 183, 30, 29, 15, 12, 1] rfl, hS⟩)
                    · clear hA hS a; intro a w hA hS
                      refine m1 hA hS (Y.move rfl) rfl ?_
                      clear hA a; intro a hA
                      replace hA := hA.keep [189, 30, 29, 15, 1] rfl
                      apply m_and 4 193 189 hA hS rfl
                      · intro hp10
                        refine m1s hA (dj := 189) rfl rfl rfl hp10 rfl ?_
                        intro a hA
                        refine m1s hA (dj := 189) rfl rfl rfl hp10 rfl ?_
                        clear hA a; intro a hA
                        refine m1s hA (dj := 189) rfl rfl rfl hp10 rfl ?_
                        clear hA a; intro a hA
                        refine m1 hA hS (Y.pickF' rfl hp10 rfl) rfl ?_
                        clear hA a; intro a hA
                        exact m_nil (m_then ⟨hA.keep [193, 189, 30, 29, 15, 1] rfl, hS⟩)
                      · intro hp10
                        refine m1g hA hS (dj := 189) rfl rfl rfl hp10 (Y.fieldAddr (k := 1) rfl Tryz.underlying46 rfl rfl Tryz.sizeOf3) rfl ?_
                        intro a hA
                        refine m1g hA hS (dj := 189) rfl rfl rfl hp10 (Y.load rfl Tryz.isAgg3 (fun w h => h.cell (i := 4) rfl rfl)) rfl ?_
                        clear hA a; intro a hA
                        refine m1g hA hS (dj := 189) rfl rfl rfl hp10 (Y.eqI rfl rfl) rfl ?_
                        clear hA a; intro a hA
                        refine m1 hA hS (Y.pickT' rfl hp10 rfl) rfl ?_
                        clear hA a; intro a hA
                        exact m_nil (m_then ⟨hA.keep [193, 189, 30, 29, 15, 1] rfl, hS⟩)
                      · clear hA hS a; intro a w hA hS
                        refine m1 hA hS (Y.move rfl) rfl ?_
                        clear hA a; intro a hA
                        replace hA := hA.keep [194, 30, 29, 15, 1] rfl
                        apply m_and 5 199 194 hA hS rfl
                        · intro hp11
                          refine m1s hA (dj := 194) rfl rfl rfl hp11 rfl ?_
                          intro a hA
                          refine m1s hA (dj := 194) rfl rfl rfl hp11 rfl ?_
                          clear hA a; intro a hA
                          refine m1s hA (dj := 194) rfl rfl rfl hp11 rfl ?_
                          clear hA a; intro a hA
                          refine m1s hA (dj := 194) rfl rfl rfl hp11 rfl ?_
                          clear hA a; intro a hA
                          refine m1 hA hS (Y.pickF' rfl hp11 rfl) rfl ?_
                          clear hA a; intro a hA
                          exact m_nil (m_then ⟨hA.keep [199, 194, 30, 29, 15, 1] rfl, hS⟩)
                        · intro hp11
                          refine m1g hA hS (dj := 194) rfl rfl rfl hp11 (Y.fieldAddr (k := 2) rfl Tryz.underlying46 rfl rfl Tryz.sizeOf38) rfl ?_
                          intro a hA
                          refine m1g hA hS (dj := 194) rfl rfl rfl hp11 (Y.load rfl Tryz.isAgg38 (fun w h => h.cell (i := 4) rfl rfl)) rfl ?_
                          clear hA a; intro a hA
                          refine m1g hA hS (dj := 194) rfl rfl rfl hp11 (Y.lenSl rfl Tryz.underlying38) rfl ?_
                          clear hA a; intro a hA
                          refine m1g hA hS (dj := 194) rfl rfl rfl hp11 (Y.eqI rfl rfl) rfl ?_
                          clear hA a; intro a hA
                          refine m1 hA hS (Y.pickT' rfl hp11 rfl) rfl ?_
                          clear hA a; intro a hA
                          exact m_nil (m_then ⟨hA.keep [199, 194, 30, 29, 15, 1] rfl, hS⟩)
                        · clear hA hS a; intro a w hA hS
                          refine m1 hA hS (Y.move rfl) rfl ?_
                          clear hA a; intro a hA
                          replace hA := hA.keep [200, 30, 29, 1] rfl
                          apply m_and 4 204 200 hA hS rfl
                          · intro hp12
                            refine m1s hA (dj := 200) rfl rfl rfl hp12 rfl ?_
                            intro a hA
                            refine m1s hA (dj := 200) rfl rfl rfl hp12 rfl ?_
                            clear hA a; intro a hA
                            refine m1s hA (dj := 200) rfl rfl rfl hp12 rfl ?_
                            clear hA a; intro a hA
                            refine m1 hA hS (Y.pickF' rfl hp12 rfl) rfl ?_
                            clear hA a; intro a hA
                            exact m_nil (m_then ⟨hA.keep [204, 200, 30, 29, 1] rfl, hS⟩)
                          · intro hp12
                            refine m1g hA hS (dj := 200) rfl rfl rfl hp12 (Y.fieldAddr (k := 1) rfl Tryz.underlying24 rfl rfl Tryz.sizeOf3) rfl ?_
                            intro a hA
                            refine m1g hA hS (dj := 200) rfl rfl rfl hp12 (Y.load rfl Tryz.isAgg3 (fun w h => h.cell (i := 10) rfl rfl)) rfl ?_
                            clear hA a; intro a hA
                            refine m1g hA hS (dj := 200) rfl rfl rfl hp12 (Y.eqI rfl rfl) rfl ?_
                            clear hA a; intro a hA
                            refine m1 hA hS (Y.pickT' rfl hp12 rfl) rfl ?_
                            clear hA a; intro a hA
                            exact m_nil (m_then ⟨hA.keep [204, 200, 30, 29, 1] rfl, hS⟩)
                          · clear hA hS a; intro a w hA hS
                            refine m1 hA hS (Y.move rfl) rfl ?_
                            clear hA a; intro a hA
                            replace hA := hA.keep [205, 30, 29] rfl
                            apply m_and 3 208 205 hA hS rfl
                            · intro hp13
                              refine m1s hA (dj := 205) rfl rfl rfl hp13 rfl ?_
                              intro a hA
                              refine m1s hA (dj := 205) rfl rfl rfl hp13 rfl ?_
                              clear hA a; intro a hA
                              refine m1 hA hS (Y.pickF' rfl hp13 rfl) rfl ?_
                              clear hA a; intro a hA
                              exact m_nil (m_then ⟨hA.keep [208, 205, 30, 29] rfl, hS⟩)
                            · intro hp13
                              refine m1g hA hS (dj := 205) rfl rfl rfl hp13 (Y.move rfl) rfl ?_
                              intro a hA
                              refine m1g hA hS (dj := 205) rfl rfl rfl hp13 (Y.eqI rfl rfl) rfl ?_
                              clear hA a; intro a hA
                              refine m1 hA hS (Y.pickT' rfl hp13 rfl) rfl ?_
                              clear hA a; intro a hA
                              exact m_nil (m_then ⟨hA.keep [208, 205, 30, 29] rfl, hS⟩)
                            · clear hA hS a; intro a w hA hS
                              refine m1 hA hS (Y.move rfl) rfl ?_
                              clear hA a; intro a hA
                              replace hA := hA.keep [209, 29] rfl
                              apply m_and 4 213 209 hA hS rfl
                              · intro hp14
                                refine m1s hA (dj := 209) rfl rfl rfl hp14 rfl ?_
                                intro a hA
                                refine m1s hA (dj := 209) rfl rfl rfl hp14 rfl ?_
                                clear hA a; intro a hA
                                refine m1s hA (dj := 209) rfl rfl rfl hp14 rfl ?_
                                clear hA a; intro a hA
                                refine m1 hA hS (Y.pickF' rfl hp14 rfl) rfl ?_
                                clear hA a; intro a hA
                                exact m_nil (m_then ⟨hA.keep [213, 209, 29] rfl, hS⟩)
                              · intro hp14
                                refine m1g hA hS (dj := 209) rfl rfl rfl hp14 (Y.move rfl) rfl ?_
                                intro a hA
                                refine m_buildSliceG (dj := 209) [Value.int .i64 11] hA hS rfl rfl rfl hp14 rfl rfl (bs_int 11) ?_
                                intro a bq w hA hgq hS
                                refine m_callbg (dj := 209) hA hS rfl rfl rfl hp14 Tryz.call21 rfl rfl (sameInts_c _ _ _ [11] _ _ _ [11] _ (IntsL.zero (hP20.ov (hS.at (by simp)))) (St.ints hS (by simp))) ?_
                                clear hA a; intro a w hA hS hg
                                replace hS := hS.gone
                                refine m1 hA hS (Y.pickT' rfl hp14 rfl) rfl ?_
                                clear hA a; intro a hA
                                exact m_nil (m_then ⟨hA.keep [213, 209, 29] rfl, hS⟩)
                              · clear hA hS a; intro a w hA hS
                                refine m1 hA hS (Y.assign rfl) rfl ?_
                                clear hA a; intro a hA
                                refine m_nil ?_
                                refine m_then ?_
                                refine m_retc ?_
                                refine m_ret1 hA Tryz.results6 rfl ?_
                                exact ⟨ret_bool (by rfl), hS.gr0 (by simp)⟩
end Go.Proofs.YtljkhijdaaconaaGreat
