/- Contracts: bits.Mul at small numbers, slices.Repeat of one int. -/
import Derived.Test.YtljkhijdaaconaaGreatSame
import Derived.Test.YtljkhijdaaconaaGreatSrch
set_option linter.unusedVariables false
namespace Go.Proofs.YtljkhijdaaconaaGreat
open Go.RowKit

set_option maxRecDepth 100000 in
set_option maxHeartbeats 2000000 in
theorem mul64_c (n : Int) (h1 : 1 ≤ n) (h5 : n ≤ 5) (w : World) : Calls Tryz.prog 113 #[.int .u64 1, .int .u64 n] w fun e w' => e = .returned (.tuple #[.int .u64 0, .int .u64 n]) ∧ w = w' := by
  obtain rfl | rfl | rfl | rfl | rfl : n = 1 ∨ n = 2 ∨ n = 3 ∨ n = 4 ∨ n = 5 := by omega
  all_goals
    go_enter Tryz.func113, Tryz.ntmps113
    go_wp2
    all_goals exact bodyPost_ret (by rw [results_tmp2 Tryz.results113]; rfl) rfl ⟨rfl, rfl⟩
set_option maxRecDepth 100000 in
theorem mul_c (n : Int) (h1 : 1 ≤ n) (h5 : n ≤ 5) (w0 : World) : Calls Tryz.prog 97 #[.int .u64 1, .int .u64 n] w0 fun e w' => e = .returned (.tuple #[.int .u64 0, .int .u64 n]) ∧ Gr w0 w' := by
  refine m_enter Tryz.func97 rfl Tryz.ntmps97 (Nat.le_of_ble_eq_true rfl) ?_
  intro a hA
  have hS := St.start w0
  refine m_seq ?_
  refine m_region ?_
  refine m1 hA hS (Y.assign rfl) rfl ?_
  clear hA a; intro a hA
  refine m1 hA hS (Y.assign rfl) rfl ?_
  clear hA a; intro a hA
  refine m_nil ?_
  refine m_then ?_
  refine m_seq ?_
  refine m_condF hA rfl (rfl) ?_
  refine m_skip ?_
  refine m_then ?_
  refine m_seq ?_
  refine m_region ?_
  refine m1 hA hS (Y.move rfl) rfl ?_
  clear hA a; intro a hA
  refine m1 hA hS (Y.move rfl) rfl ?_
  clear hA a; intro a hA
  refine m_callb hA hS Tryz.call113 rfl rfl ((mul64_c n h1 h5 _).mono (fun e w' h => ⟨h.1, h.2 ▸ Gr.rf _⟩)) ?_
  clear hA hS a; intro a w hA hS hg
  refine m1 hA hS (Y.move rfl) rfl ?_
  clear hA a; intro a hA
  refine m1 hA hS (Y.extract rfl rfl) rfl ?_
  clear hA a; intro a hA
  refine m1 hA hS (Y.extract rfl rfl) rfl ?_
  clear hA a; intro a hA
  refine m1 hA hS (Y.assign rfl) rfl ?_
  clear hA a; intro a hA
  refine m1 hA hS (Y.assign rfl) rfl ?_
  clear hA a; intro a hA
  refine m_nil ?_
  refine m_then ?_
  refine m_seq ?_
  refine m_region ?_
  refine m1 hA hS (Y.move rfl) rfl ?_
  clear hA a; intro a hA
  refine m1 hA hS (Y.move rfl) rfl ?_
  clear hA a; intro a hA
  refine m1 hA hS (Y.assign rfl) rfl ?_
  clear hA a; intro a hA
  refine m1 hA hS (Y.assign rfl) rfl ?_
  clear hA a; intro a hA
  refine m_nil ?_
  refine m_then ?_
  refine m_retc ?_
  refine m_ret2 hA Tryz.results97 rfl rfl ?_
  exact ⟨rfl, hS.gr0 (by simp)⟩
theorem mk_ints (n : Nat) (h : n ≤ 100) (w : World) : (Instr.makeSlice 38 (.int .i64 (n : Int)) (.int .i64 (n : Int))).run Tryz.prog w = .ok (.slice (some ⟨w.heap.size, 0, none⟩) n n) (w.alloc (.cells (List.replicate n (Value.int .i64 0)).toArray 3)) := by
  obtain ⟨i, z, hi, hz, hsize, hzs, hb, hk⟩ := elemOk_spec elemInt
  have hw : IntKind.i64.wrap (n : Int) = n := IntWalk.i64_in _ (by omega)
  have hzv := Tryz.zeroValue3 w
  have h1 : ¬ ((n : Int) < 0) := by omega
  have h2 : ¬ (281474976710656 < 8 * (n : Int)) := by omega
  simp [Instr.makeSlice, run_underlying Tryz.underlying38, asInt, asIntOf, typeInfo, hi, hb, hw, Tryz.sizeOf3, Tryz.zeroValue3, h1, h2, newRow, newObj, Sem.run]
  by_cases h0 : n = 0
  · subst h0
    rw [if_pos rfl, show (Array.range 0) = #[] from by apply Array.ext <;> simp]
    simp
  · have e : (Array.map (fun x => (Value.int IntKind.i64 0).cells[x % (Value.int IntKind.i64 0).cells.size]!) (Array.range n)) = Array.replicate n (Value.int IntKind.i64 0) := by
      apply Array.ext
      · simp
      · intro j h1 h2
        simp [Value.cells, Nat.mod_one]
    rw [if_neg h0, e]
theorem m_makeSl {P : Program} {n : Nat} {s : List (Nat × Value)} {ops : Array Oper} {rest : List Oper} {Q : Exit → Act → World → Prop} {a : Act} {w : World} {B : List Bx} {V : List (Nat × World)} {d : Nat} {t ty e : TypeId} {x y : Operand} {v u : Value} {m c : Nat} {pos : String} {aft : Array Edge} (cells : List Value) (hA : Fits a n s) (hS : St w B V) (hx : ev s x = some v) (hy : ev s y = some u) (hd : Nat.blt d n = true)
    (hr : ∀ w : World, (Instr.makeSlice t v u).run P w = .ok (.slice (some ⟨w.heap.size, 0, none⟩) m c) (w.alloc (.cells cells.toArray e)))
    (k : ∀ a' b w', Fits a' n ((d, .slice (some ⟨b, 0, none⟩) m c) :: s) → Gr w w' → St w' (cB b cells e :: B) V → wpList P ops Q rest a' w') :
    wpList P ops Q (⟨some d, .makeSlice t x y, ty, pos, aft, none⟩ :: rest) a w := by
  refine wpList_plain rfl fun K hK => ?_
  have hr' : (execOp a.eval ⟨some d, .makeSlice t x y, ty, pos, aft, none⟩).run P w = .ok (.value (.slice (some ⟨w.heap.size, 0, none⟩) m c)) (w.alloc (.cells cells.toArray e)) := by
    simp [execOp, hA.ev hx, hA.ev hy, hr]
  unfold Oper.wp
  rw [hr']
  exact hK _ _ (k _ _ _ (hA.put (blt_lt hd) _) ((Gr.rf w).al _) (hS.new cells e))
theorem spl_rep {v : Value} {k m l : Nat} {zs : List Value} (hz : zs.length = l) (hm : m ≤ l) : spl (List.replicate k v ++ zs) k (List.replicate m v) = List.replicate (k + m) v ++ zs.drop m := by
  unfold spl
  rw [List.take_left' (by simp), ← List.drop_drop, List.drop_left' (by simp), List.replicate_append_replicate]
  simp
set_option maxRecDepth 100000 in
theorem repeat_c (x : Int) (n : Nat) (h1 : 1 ≤ n) (h5 : n ≤ 5) (bx : Nat) (B : List Bx) (V : List (Nat × World)) (w : World) (hS : St w (cB bx [.int .i64 x] 3 :: B) V) :
    Calls Tryz.prog 61 #[.slice (some ⟨bx, 0, none⟩) 1 1, .int .i64 (n : Int)] w fun e w' => ∃ b, e = .returned (.slice (some ⟨b, 0, none⟩) n n) ∧ St w' (cB b (List.replicate n (.int .i64 x)) 3 :: B) V := by
  refine m_enter Tryz.func61 rfl Tryz.ntmps61 (Nat.le_of_ble_eq_true rfl) ?_
  intro a hA
  refine m_seq ?_
  refine m_region ?_
  refine m1 hA hS (Y.assign rfl) rfl ?_
  clear hA a; intro a hA
  refine m_nil ?_
  refine m_then ?_
  refine m_seq ?_
  refine m_seq ?_
  refine m_region ?_
  refine m1 hA hS (Y.move rfl) rfl ?_
  clear hA a; intro a hA
  refine m1 hA hS (Y.ltI rfl rfl) rfl ?_
  clear hA a; intro a hA
  refine m_nil ?_
  refine m_then ?_
  refine m_condF hA rfl (decide_eq_false (by omega)) ?_
  refine m_skip ?_
  refine m_then ?_
  refine m_seq ?_
  refine m_region ?_
  refine m1 hA hS (Y.move rfl) rfl ?_
  clear hA a; intro a hA
  refine m1 hA hS (Y.lenSl rfl Tryz.underlying38) rfl ?_
  clear hA a; intro a hA
  refine m1 hA hS (Y.conv (v := .int .i64 ((1 : Nat) : Int)) rfl (conv_iu 1 (by omega))) rfl ?_
  clear hA a; intro a hA
  refine m1 hA hS (Y.move rfl) rfl ?_
  clear hA a; intro a hA
  refine m1 hA hS (Y.conv rfl (conv_iu n (by omega))) rfl ?_
  clear hA a; intro a hA
  refine m_callb hA hS Tryz.call97 rfl rfl (mul_c n (by omega) (by omega) _) ?_
  clear hA hS a; intro a w hA hS hg
  refine m1 hA hS (Y.move rfl) rfl ?_
  clear hA a; intro a hA
  refine m1 hA hS (Y.extract rfl rfl) rfl ?_
  clear hA a; intro a hA
  refine m1 hA hS (Y.extract rfl rfl) rfl ?_
  clear hA a; intro a hA
  refine m1 hA hS (Y.assign rfl) rfl ?_
  clear hA a; intro a hA
  refine m1 hA hS (Y.assign rfl) rfl ?_
  clear hA a; intro a hA
  refine m_nil ?_
  refine m_then ?_
  refine m_seq ?_
  refine m_seq ?_
  refine m_region ?_
  refine m1 hA hS (Y.move rfl) rfl ?_
  clear hA a; intro a hA
  refine m1 hA hS (Y.gtI rfl rfl) rfl ?_
  clear hA a; intro a hA
  refine m1 hA hS (Y.move rfl) rfl ?_
  clear hA a; intro a hA
  replace hA := hA.keep [23, 6, 4, 0] rfl
  apply m_or 3 26 23 hA hS rfl
  · intro hp1
    refine m1s hA (dj := 23) rfl rfl rfl hp1 rfl ?_
    intro a hA
    refine m1s hA (dj := 23) rfl rfl rfl hp1 rfl ?_
    clear hA a; intro a hA
    refine m1 hA hS (Y.pickT' rfl hp1 rfl) rfl ?_
    clear hA a; intro a hA
    exact m_nil (m_then ⟨hA.keep [26, 23, 6, 4, 0] rfl, hS⟩)
  · intro hp1
    refine m1g hA hS (dj := 23) rfl rfl rfl hp1 (Y.move rfl) rfl ?_
    intro a hA
    refine m1g hA hS (dj := 23) rfl rfl rfl hp1 (Y.gtI rfl rfl) rfl ?_
    clear hA a; intro a hA
    refine m1 hA hS (Y.pickF' rfl hp1 rfl) rfl ?_
    clear hA a; intro a hA
    exact m_nil (m_then ⟨hA.keep [26, 23, 6, 4, 0] rfl, hS⟩)
  · clear hA hS a; intro a w hA hS
    refine m_nil ?_
    refine m_then ?_
    have hno : (decide ((0 : Int) < 0) || decide ((9223372036854775807 : Int) < n)) = false := by simp; omega
    refine m_condF hA rfl (hno) ?_
    refine m_skip ?_
    refine m_then ?_
    refine m_seq ?_
    refine m_region ?_
    refine m1 hA hS (Y.move rfl) rfl ?_
    clear hA a; intro a hA
    refine m1 hA hS (Y.conv rfl (conv_ui n (by omega))) rfl ?_
    clear hA a; intro a hA
    refine m_makeSl (List.replicate n (.int .i64 0)) hA hS rfl rfl rfl (mk_ints n (by omega)) ?_
    clear hA hS a; intro a b w hA hgb hS
    refine m1 hA hS (Y.assign rfl) rfl ?_
    clear hA a; intro a hA
    refine m_nil ?_
    refine m_then ?_
    refine m_seq ?_
    refine m_region ?_
    refine m1 hA hS (Y.move rfl) rfl ?_
    clear hA a; intro a hA
    refine m1 hA hS (Y.move rfl) rfl ?_
    clear hA a; intro a hA
    refine m_copy 0 3 8 [.int .i64 x] (List.replicate 1 (.int .i64 x) ++ List.replicate (n - 1) (.int .i64 0)) elemInt hA hS rfl rfl rfl Tryz.underlying38 rfl ?_ (hS.cells (i := 1) rfl) (List.all_eq_true.1 rfl) (by simp; omega) ?_ ?_
    · rw [show Nat.min 1 n = 1 from Nat.min_eq_left h1]; rfl
    · have := spl_rep (v := Value.int .i64 x) (k := 0) (m := 1) (l := n) (zs := List.replicate n (.int .i64 0)) (by simp) h1
      simpa using this
    rw [show Nat.min 1 n = 1 from Nat.min_eq_left h1]
    clear hA hS a; intro a w hA hS
    refine m1 hA hS (Y.assign rfl) rfl ?_
    clear hA a; intro a hA
    refine m_nil ?_
    refine m_then ?_
    refine m_seq ?_
    refine m_block ?_
    refine m_loopX [7, 4] rfl hA ((1 : Nat)) (fun k => [(8, .int .i64 (k : Int))]) (fun k => [cB b (List.replicate k (Value.int .i64 x) ++ List.replicate (n - k) (Value.int .i64 0)) 3, cB bx [.int .i64 x] 3] ++ B) (fun _ => V) (fun k => 1 ≤ k ∧ k ≤ n) (fun k => n - k) (ks := [8]) rfl hS (⟨Nat.le_refl _, h1⟩) ?_
    clear hA hS a; rintro k a w hA hS hj
    try dsimp only at hA
    try dsimp only at hS
    try dsimp only at hj
    obtain ⟨hk1, hkn⟩ := hj
    replace hA := hA.keep [8, 7, 4] rfl
    refine m_seq ?_
    refine m_seq ?_
    refine m_region ?_
    refine m1 hA hS (Y.move rfl) rfl ?_
    clear hA a; intro a hA
    refine m1 hA hS (Y.move rfl) rfl ?_
    clear hA a; intro a hA
    refine m1 hA hS (Y.lenSl rfl Tryz.underlying38) rfl ?_
    clear hA a; intro a hA
    refine m1 hA hS (Y.ltI rfl rfl) rfl ?_
    clear hA a; intro a hA
    refine m_nil ?_
    refine m_then ?_
    refine m_condP hA rfl (fun hlt => ?_) (fun hlt => ?_)
    · refine m_skip ?_
      refine m_then ?_
      refine m_block ?_
      refine d_regionS [] [0, 1, 2, 3, 4, 5, 6, 8, 9] hS rfl 10 [false, false, false, false, false, false, false, false, false, false] rfl rfl ?_
      clear hS; intro w hS _
      have hQ := hS
      refine d_take 0 (bs' := [true, false, false, false, false, false, false, false, false, false]) hA rfl rfl (by kernel_rfl) (fun _ _ _ h => h) (Y.move rfl) rfl ?_
      clear hA a; intro a hA
      refine d_take 1 (bs' := [true, true, false, false, false, false, false, false, false, false]) hA rfl rfl (by kernel_rfl) (fun _ _ _ h => h) (Y.move rfl) rfl ?_
      clear hA a; intro a hA
      refine d_take 2 (bs' := [true, true, true, false, false, false, false, false, false, false]) hA rfl rfl (by kernel_rfl) (fun _ _ _ h => h) (Y.move rfl) rfl ?_
      clear hA a; intro a hA
      refine d_take 3 (bs' := [true, true, true, true, false, false, false, false, false, false]) hA rfl rfl (by kernel_rfl) (fun _ _ _ h => h) (Y.slL (l := k) rfl rfl Tryz.underlying38 Tryz.sizeOf3 hkn) rfl ?_
      clear hA a; intro a hA
      refine d_take 4 (bs' := [true, true, true, true, true, false, false, false, false, false]) hA rfl rfl (by kernel_rfl) (fun _ _ _ h => h) (Y.move rfl) rfl ?_
      clear hA a; intro a hA
      refine d_take 5 (bs' := [true, true, true, true, true, true, false, false, false, false]) hA rfl rfl (by kernel_rfl) (fun _ _ _ h => h) (Y.move rfl) rfl ?_
      clear hA a; intro a hA
      refine d_take 6 (bs' := [true, true, true, true, true, true, true, false, false, false]) hA rfl rfl (by kernel_rfl) (fun _ _ _ h => h) (Y.slH (h := k) rfl rfl Tryz.underlying38 Tryz.sizeOf3 hkn) rfl ?_
      clear hA a; intro a hA
      refine d_one 7 (bs' := [true, true, true, true, true, true, true, true, false, false]) false rfl (by kernel_rfl) ?_
      obtain ⟨m, hm⟩ : ∃ m, m = Nat.min k (n - k) := ⟨_, rfl⟩
      have hmk : m ≤ k := by rw [hm]; exact Nat.min_le_left _ _
      have hmn : m ≤ n - k := by rw [hm]; exact Nat.min_le_right _ _
      have hm0 : 0 < m := by rw [hm]; exact Nat.lt_min.2 ⟨by omega, by omega⟩
      refine m_copy 0 3 8 (List.replicate m (.int .i64 x)) (List.replicate (k + m) (.int .i64 x) ++ List.replicate (n - (k + m)) (.int .i64 0)) elemInt hA hS rfl rfl rfl Tryz.underlying38 rfl ?_ ?_ ?_ ?_ ?_ ?_
      · rw [← hm]; simp
      · exact hS.cellsAt (i := 0) (xs := List.replicate m (.int .i64 x)) rfl (fun j v hj => by
          have hjl := (List.getElem?_eq_some_iff.1 hj).1
          rw [List.length_replicate] at hjl
          rw [Nat.zero_add, List.getElem?_append_left (by simp; omega), List.getElem?_replicate, if_pos (by omega)]
          rw [List.getElem?_replicate, if_pos hjl] at hj
          exact hj)
      · intro u hu; rw [List.eq_of_mem_replicate hu]; rfl
      · rw [if_neg (by omega)]; simp; omega
      · rw [if_neg (by omega), show 0 + k * 1 = k from by omega]
        rw [spl_rep (l := n - k) (by simp) hmn, List.drop_replicate, show n - k - m = n - (k + m) from by omega]
      rw [← hm]
      clear hA hS a; intro a w hA hS
      refine m_nil (m_then ⟨fun h => (by cases h), ?_⟩)
      refine d_take 8 (bs' := [true, true, true, true, true, true, true, true, true, false]) hA rfl rfl (by kernel_rfl) (fun _ _ _ h => h) (Y.addI rfl rfl (by omega)) rfl ?_
      clear hA a; intro a hA
      refine d_take 9 (bs' := [true, true, true, true, true, true, true, true, true, true]) hA rfl rfl (by kernel_rfl) (fun _ _ _ h => h) (Y.assign rfl) rfl ?_
      clear hA a; intro a hA
      refine d_done (by kernel_rfl) ?_
      refine n_block ?_
      exact m_then ⟨k + m, by (try dsimp only); omega, hA.keep [8, 7, 4] rfl, hS, by (try dsimp only); exact ⟨by omega, by omega⟩⟩
    · have hkn' : k = n := by omega
      subst hkn'
      refine m_exit ?_
      refine x_then ?_
      refine x_then ?_
      refine x_block ?_
      refine m_then ?_
      refine m_seq ?_
      refine m_region ?_
      refine m1 hA hS (Y.move rfl) rfl ?_
      clear hA a; intro a hA
      refine m1 hA hS (Y.assign rfl) rfl ?_
      clear hA a; intro a hA
      refine m_nil ?_
      refine m_then ?_
      refine m_retc ?_
      refine m_ret1 hA Tryz.results61 rfl ?_
      refine ⟨b, rfl, ?_⟩
      have h2 := hS.sub (B' := cB b (List.replicate k (.int .i64 x) ++ List.replicate (k - k) (.int .i64 0)) 3 :: B) (.cons_cons _ (.cons _ (List.Sublist.refl _)))
      rw [Nat.sub_self, List.replicate_zero, List.append_nil] at h2
      exact h2
end Go.Proofs.YtljkhijdaaconaaGreat
