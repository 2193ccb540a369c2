/- Contracts: OverInts, over. -/
import Derived.Test.YtljkhijdaaconaaGreatRef9
import Derived.Lib.MinMax
set_option linter.unusedVariables false
set_option linter.unusedSectionVars false
namespace Go.Proofs.YtljkhijdaaconaaGreat
open Go.RowKit

section
variable {P : Program} {C : World → Prop} {n : Nat} {s : List (Nat × Value)}
theorem Y.minI {ts : Array TypeId} {ty : TypeId} {x y : Operand} {a b r : Int} (hx : ev s x = some (.int .i64 a)) (hy : ev s y = some (.int .i64 b)) (h : min a b = r) : Y P C n s (.call { callee := .builtin .min, args := #[x, y], argTypes := ts }) ty (.int .i64 r) := fun f w o hA _ ho _ => by
  subst h
  simp [execOp, ho, resolve, invoke, builtin, hA.ev hx, hA.ev hy, Go.Lib.run_min_ints]
theorem Y.mulI {T T' ty : TypeId} {x y : Operand} {a b : Int} (hx : ev s x = some (.int .i64 a)) (hy : ev s y = some (.int .i64 b)) (h : -9223372036854775808 ≤ a * b) (h' : a * b ≤ 9223372036854775807) : Y P C n s (.binOp .mul T x y T') ty (.int .i64 (a * b)) := fun f w o hA _ ho _ => by
  have e : IntKind.i64.wrap (a * b) = a * b := IntWalk.i64_in _ (by omega)
  simp [execOp, ho, hA.ev hx, hA.ev hy, eqGuard, binOp, Op.intArith, e]
/-- s[:h] of nil too -/
theorem Y.slHg {t e ty : TypeId} {x y : Operand} {A : Option Addr} {m c z : Nat} {h : Nat} (hx : ev s x = some (.slice A m c)) (hy : ev s y = some (.int .i64 (h : Int))) (ht : P.underlying t = some (.slice e)) (hz : ∀ w, (sizeOf e).run P w = .ok z w) (hh : h ≤ c) :
    Y P C n s (.slice t x none (some y) none) ty (sliced A 0 h c z) := fun a w op hA _ ho _ => by
  have h1 := run_sliceAt_slice (P := P) (w := w) t (.slice A m c) none (some (.int .i64 (h : Int))) none (elem_of ht)
  have h2 := run_slice_h (P := P) (w := w) t A m c (elem_of ht) .i64 (h : Int) (Int.natCast_nonneg _) (by omega)
  rw [elem_eq ht] at h2
  simp [execOp, ho, hA.ev hx, hA.ev hy, h1, h2, hz]
end
theorem spl_set {cs : List Value} {o : Nat} {u : Value} (h : o < cs.length) : spl cs o [u] = cs.set o u := by
  unfold spl
  rw [List.set_eq_take_append_cons_drop, if_pos h]
  simp
theorem mark_c (w : Nat) (n : Int) (hn : 0 ≤ n) (h9 : n ≤ 1000000) (w0 : World) : Calls Tryz.prog 105 #[.int .i64 2, .int .i64 n] w0 fun e w' => e = .returned (.int .i64 (9000027 + n)) ∧ Gr w0 w' := by
  refine m_enter Tryz.func105 rfl Tryz.ntmps105 (Nat.le_of_ble_eq_true rfl) ?_
  intro a hA
  have hS := St.start w0
  refine m_seq ?_
  refine m_region ?_
  refine m1 hA hS (Y.assign rfl) rfl ?_
  clear hA a; intro a hA
  refine m_nil ?_
  refine m_then ?_
  refine m_seq ?_
  refine m_region ?_
  refine m1 hA hS (Y.move rfl) rfl ?_
  clear hA a; intro a hA
  refine m1 hA hS (Y.addI rfl rfl (by omega)) rfl ?_
  clear hA a; intro a hA
  refine m1 hA hS (Y.mulI rfl rfl (by decide) (by decide)) rfl ?_
  clear hA a; intro a hA
  refine m1 hA hS (Y.move rfl) rfl ?_
  clear hA a; intro a hA
  refine m1 hA hS (Y.addI rfl rfl (by omega)) rfl ?_
  clear hA a; intro a hA
  refine m1 hA hS (Y.assign rfl) rfl ?_
  clear hA a; intro a hA
  refine m_nil ?_
  refine m_then ?_
  refine m_retc ?_
  refine m_ret1 hA Tryz.results105 rfl ?_
  exact ⟨ret_int (by omega), hS.gr0 (by simp)⟩
set_option maxRecDepth 100000 in
theorem overInts0_c (B : List Bx) (V : List (Nat × World)) (w : World) (hS : St w B V) :
    Calls Tryz.prog 76 #[.slice none 0 0] w fun e w' => e = .returned (.tuple #[]) ∧ St w' B V := by
  refine m_enter Tryz.func76 rfl Tryz.ntmps76 (Nat.le_of_ble_eq_true rfl) ?_
  intro a hA
  refine m_seq ?_
  refine m_region ?_
  refine m1 hA hS (Y.move rfl) rfl ?_
  clear hA a; intro a hA
  refine m1 hA hS (Y.move rfl) rfl ?_
  clear hA a; intro a hA
  refine m1 hA hS (Y.cap rfl Tryz.underlying38) rfl ?_
  clear hA a; intro a hA
  refine m1 hA hS (Y.move rfl) rfl ?_
  clear hA a; intro a hA
  refine m1 hA hS (Y.lenSl rfl Tryz.underlying38) rfl ?_
  clear hA a; intro a hA
  refine m1 hA hS (Y.addI rfl rfl (by omega)) rfl ?_
  clear hA a; intro a hA
  refine m1 hA hS (Y.minI (r := ((0 : Nat) : Int)) rfl rfl (by decide)) rfl ?_
  clear hA a; intro a hA
  refine m1 hA hS (Y.slHg rfl rfl Tryz.underlying38 Tryz.sizeOf3 (Nat.le_refl _)) rfl ?_
  clear hA a; intro a hA
  refine m1 hA hS (Y.assign rfl) rfl ?_
  clear hA a; intro a hA
  refine m_nil ?_
  refine m_then ?_
  refine m_seq ?_
  refine m_region ?_
  refine m1 hA hS (Y.assign rfl) rfl ?_
  clear hA a; intro a hA
  refine m_nil ?_
  refine m_then ?_
  refine m_block ?_
  refine m_loopX [2] rfl hA ((0 : Nat)) (fun x => [(3, .int .i64 (x : Int))]) (fun _ => _) (fun _ => _) (fun x => x = 0) (fun x => 1) (ks := [3]) rfl hS (rfl) ?_
  clear hA hS a; rintro j a w hA hS hj
  try dsimp only at hA
  try dsimp only at hS
  try dsimp only at hj
  obtain hj := hj
  replace hA := hA.keep [3, 2] rfl
  subst hj
  refine m_seq ?_
  refine m_seq ?_
  refine m_region ?_
  refine m1 hA hS (Y.move rfl) rfl ?_
  clear hA a; intro a hA
  refine m1 hA hS (Y.move rfl) rfl ?_
  clear hA a; intro a hA
  refine m1 hA hS (Y.lenSl rfl Tryz.underlying38) rfl ?_
  clear hA a; intro a hA
  refine m1 hA hS (Y.ltI rfl rfl) rfl ?_
  clear hA a; intro a hA
  refine m_nil ?_
  refine m_then ?_
  refine m_condF hA rfl (rfl) ?_
  refine m_exit ?_
  refine x_then ?_
  refine x_then ?_
  refine x_block ?_
  refine m_end0 hA Tryz.results76 ?_
  exact ⟨rfl, hS⟩
set_option maxRecDepth 100000 in
theorem overInts1_c (g cap n : Nat) (cur : List Value) (xs : List Int) (B : List Bx) (V : List (Nat × World)) (w : World) (hS : St w ([cB g cur 3] ++ B) V) (hn : xs.length = n) (hx : n ≤ 100) (hcap : n ≤ cap) (hmax : cap ≤ maxLen) (hcur : cur.length = cap) (htk : cur.take n = xs.map (Value.int .i64)) :
    Calls Tryz.prog 76 #[.slice (some ⟨g, 0, none⟩) n cap] w fun e w' => ∃ (xs' : List Int) (cur' : List Value), e = .returned (.tuple #[]) ∧ St w' ([cB g cur' 3] ++ B) V ∧ cur'.length = cap ∧ cur'.take n = xs'.map (Value.int .i64) ∧ xs'.length = n := by
  have hm : cap ≤ 9223372036854775807 := hmax
  obtain ⟨k, hk⟩ : ∃ k : Nat, k = min cap (n + 12) := ⟨_, rfl⟩
  refine m_enter Tryz.func76 rfl Tryz.ntmps76 (Nat.le_of_ble_eq_true rfl) ?_
  intro a hA
  refine m_seq ?_
  refine m_region ?_
  refine m1 hA hS (Y.move rfl) rfl ?_
  clear hA a; intro a hA
  refine m1 hA hS (Y.move rfl) rfl ?_
  clear hA a; intro a hA
  refine m1 hA hS (Y.cap rfl Tryz.underlying38) rfl ?_
  clear hA a; intro a hA
  refine m1 hA hS (Y.move rfl) rfl ?_
  clear hA a; intro a hA
  refine m1 hA hS (Y.lenSl rfl Tryz.underlying38) rfl ?_
  clear hA a; intro a hA
  refine m1 hA hS (Y.addI rfl rfl (by omega)) rfl ?_
  clear hA a; intro a hA
  refine m1 hA hS (Y.minI (r := ((k : Nat) : Int)) rfl rfl (by omega)) rfl ?_
  clear hA a; intro a hA
  refine m1 hA hS (Y.slH (h := k) rfl rfl Tryz.underlying38 Tryz.sizeOf3 (by omega)) rfl ?_
  clear hA a; intro a hA
  refine m1 hA hS (Y.assign rfl) rfl ?_
  clear hA a; intro a hA
  refine m_nil ?_
  refine m_then ?_
  refine m_seq ?_
  refine m_region ?_
  refine m1 hA hS (Y.assign rfl) rfl ?_
  clear hA a; intro a hA
  refine m_nil ?_
  refine m_then ?_
  refine m_block ?_
  refine m_loopX [2] rfl hA (((0 : Nat), cur, xs)) (fun x => [(3, .int .i64 (x.1 : Int))]) (fun x => [cB g x.2.1 3] ++ B) (fun _ => V) (fun x => x.1 ≤ k ∧ x.2.1.length = cap ∧ x.2.1.take n = x.2.2.map (Value.int .i64) ∧ x.2.2.length = n) (fun x => k - x.1) (ks := [3]) rfl hS (⟨Nat.zero_le _, hcur, htk, hn⟩) ?_
  clear hA hS a; rintro ⟨j, cur1, xs1⟩ a w hA hS hj
  try dsimp only at hA
  try dsimp only at hS
  try dsimp only at hj
  obtain ⟨hj, hc1, ht1, hx1⟩ := hj
  replace hA := hA.keep [3, 2] rfl
  refine m_seq ?_
  refine m_seq ?_
  refine m_region ?_
  refine m1 hA hS (Y.move rfl) rfl ?_
  clear hA a; intro a hA
  refine m1 hA hS (Y.move rfl) rfl ?_
  clear hA a; intro a hA
  refine m1 hA hS (Y.lenSl rfl Tryz.underlying38) rfl ?_
  clear hA a; intro a hA
  refine m1 hA hS (Y.ltI rfl rfl) rfl ?_
  clear hA a; intro a hA
  refine m_nil ?_
  refine m_then ?_
  refine m_condP hA rfl (fun hlt => ?_) (fun hlt => ?_)
  · refine m_skip ?_
    refine m_then ?_
    refine m_seq ?_
    refine m_block ?_
    refine m_region ?_
    refine m1 hA hS (Y.move rfl) rfl ?_
    clear hA a; intro a hA
    refine m1 hA hS (Y.move rfl) rfl ?_
    clear hA a; intro a hA
    refine m1 hA hS (Y.move rfl) rfl ?_
    clear hA a; intro a hA
    refine m_callb hA hS Tryz.call105 rfl rfl (mark_c 0 (j : Int) (by omega) (by omega) _) ?_
    clear hA hS a; intro a w hA hS hg
    refine m1 hA hS (Y.indexAddrN rfl rfl Tryz.underlying38 Tryz.sizeOf3 (by omega)) rfl ?_
    clear hA a; intro a hA
    refine m_storeP 0 (cur1.set j (.int .i64 (9000027 + (j : Int)))) hA hS rfl rfl Tryz.sizeOf3 rfl rfl (by simp; omega) (List.all_eq_true.1 rfl) ?_ ?_
    · rw [show 0 + j * 1 = j from by omega]
      exact spl_set (by omega)
    clear hS; intro w hS
    refine m_nil ?_
    refine n_block ?_
    refine m_then ?_
    refine m_region ?_
    refine m1 hA hS (Y.move rfl) rfl ?_
    clear hA a; intro a hA
    refine m1 hA hS (Y.addI rfl rfl (by omega)) rfl ?_
    clear hA a; intro a hA
    refine m1 hA hS (Y.assign rfl) rfl ?_
    clear hA a; intro a hA
    refine m_nil ?_
    exact m_then ⟨(j + 1, cur1.set j (.int .i64 (9000027 + (j : Int))), xs1.set j (9000027 + (j : Int))), by (try dsimp only); omega, hA.keep [3, 2] rfl, hS, by (try dsimp only); exact ⟨by omega, by simp [hc1], by rw [List.take_set, ht1, List.map_set], by simp [hx1]⟩⟩
  · refine m_exit ?_
    refine x_then ?_
    refine x_then ?_
    refine x_block ?_
    refine m_end0 hA Tryz.results76 ?_
    exact ⟨xs1, cur1, rfl, hS, hc1, ht1, hx1⟩
theorem overInts_c (v : Value) (xs : List Int) (bm B : List Bx) (V : List (Nat × World)) (w : World) (hS : St w (bm ++ B) V) (hR : IntsB v xs bm) (hx : xs.length ≤ 100) :
    Calls Tryz.prog 76 #[v] w fun e w' => ∃ xs' bm', e = .returned (.tuple #[]) ∧ IntsB v xs' bm' ∧ xs'.length = xs.length ∧ St w' (bm' ++ B) V := by
  obtain ⟨hl, ⟨rfl, h0, rfl⟩ | ⟨g, cap, cur, rfl, rfl, hcap, hmax, hcur, htk⟩⟩ := hR
  · exact (overInts0_c B V w hS).mono fun e w' ⟨h1, h2⟩ => ⟨xs, [], h1, ⟨hl, .inl ⟨rfl, h0, rfl⟩⟩, rfl, h2⟩
  · refine (overInts1_c g cap xs.length cur xs B V w hS rfl hx hcap hmax (by omega) (by rw [← htk, Nat.mul_one])).mono fun e w' ⟨xs', cur', h1, h2, h3, h4, h5⟩ => ⟨xs', [cB g cur' 3], h1, ?_, h5, h2⟩
    rw [IntsB, h5]
    exact ⟨by simp [h5], .inr ⟨g, cap, cur', rfl, rfl, hcap, hmax, by omega, by rw [Nat.mul_one]; exact h4⟩⟩
theorem flat_set {ys : List Inv} {j : Nat} {y : Inv} (h : ys[j]? = some y) (u : Int) : (ys.flatMap cInv).set (j * 2) (.int .i64 u) = (ys.set j ⟨u, y.til⟩).flatMap cInv := by
  induction ys generalizing j with
  | nil => simp at h
  | cons z zs ih =>
    cases j with
    | zero => simp at h; subst h; simp [cInv]
    | succ j =>
      have := ih (j := j) (by simpa using h)
      rw [List.flatMap_cons, List.set_cons_succ, List.flatMap_cons, ← this]
      rw [show (j + 1) * 2 = (cInv z).length + j * 2 from by simp [cInv]; omega, List.set_append_right _ _ (by omega)]
      simp
theorem spl_four {cur : List Value} {o : Nat} {a b c d e : Value} (h0 : cur[o]? = some e) (h1 : cur[o + 1]? = some b) (h2 : cur[o + 2]? = some c) (h3 : cur[o + 3]? = some d) : spl cur o [a] = spl cur o [a, b, c, d] := by
  unfold spl
  have e1 : cur.drop (o + 1) = b :: c :: d :: cur.drop (o + 4) := by
    rw [drop_at h1, drop_at h2, drop_at h3]
  simp [e1]
set_option maxRecDepth 100000 in
theorem over_c (g o : Nat) (cur c : List Value) (p : Pty) (bs B : List Bx) (V : List (Nat × World)) (w : World) (hS : St w (cB g cur 46 :: (bs ++ B)) V) (hc : ∀ j u, c[j]? = some u → cur[o + j]? = some u) (hP : PtyB c p bs) :
    Calls Tryz.prog 37 #[.pointer (some ⟨g, o, none⟩)] w fun e w' => ∃ c' p' bs', e = .returned (.tuple #[]) ∧ PtyB c' p' bs' ∧ St w' (cB g (spl cur o c') 46 :: (bs' ++ B)) V := by
  obtain ⟨mv, iv, bm, bi, rfl, hm, hi, rfl, hm100, hi100⟩ := hP
  have c0 := hc 0 _ rfl
  have c1 := hc 1 _ rfl
  have c2 := hc 2 _ rfl
  have c3 := hc 3 _ rfl
  rw [Nat.add_zero] at c0
  have hol := (List.getElem?_eq_some_iff.1 c0).1
  obtain ⟨MA, mc, rfl⟩ := hm.shape
  obtain ⟨IA, ic, rfl⟩ := hi.shape
  refine m_enter Tryz.func37 rfl Tryz.ntmps37 (Nat.le_of_ble_eq_true rfl) ?_
  intro a hA
  have hS1 : St w (bm ++ (cB g cur 46 :: (bi ++ B))) V := hS.perm (by rw [List.append_assoc]; exact List.perm_middle.symm)
  refine m_seq ?_
  refine m_region ?_
  refine m1 hA hS (Y.move rfl) rfl ?_
  clear hA a; intro a hA
  refine m1 hA hS (Y.nil rfl) rfl ?_
  clear hA a; intro a hA
  refine m1 hA hS (Y.fieldAddr (k := 2) rfl Tryz.underlying46 rfl rfl Tryz.sizeOf38) rfl ?_
  clear hA a; intro a hA
  refine m1 hA hS (Y.load rfl Tryz.isAgg38 (fun w h => h.cell (i := 0) rfl c2)) rfl ?_
  clear hA a; intro a hA
  refine m_call hA Tryz.call76 rfl rfl ((overInts_c _ p.mem bm _ V _ hS1 hm hm100).mono ?_)
  rintro e w ⟨xs', bm', rfl, hm', hl', hS⟩
  refine ⟨_, rfl, ?_⟩
  clear hA a; intro a hA
  replace hS : St w (cB g cur 46 :: (bi ++ (bm' ++ B))) V := hS.perm (List.perm_middle.trans (List.Perm.cons _ (List.perm_append_comm_assoc _ _ _)))
  clear hS1
  refine m_nil ?_
  refine m_then ?_
  refine m_seq ?_
  refine m_seq ?_
  refine m_region ?_
  refine m1 hA hS (Y.assign rfl) rfl ?_
  clear hA a; intro a hA
  refine m_nil ?_
  refine m_then ?_
  refine m_block ?_
  refine m_loopX [0] rfl hA (((0 : Nat), p.inv, bi)) (fun x => [(2, .int .i64 (x.1 : Int))]) (fun x => cB g cur 46 :: (x.2.2 ++ (bm' ++ B))) (fun _ => V) (fun x => x.1 ≤ p.inv.length ∧ InvsB (.slice IA p.inv.length ic) x.2.1 x.2.2 ∧ x.2.1.length = p.inv.length) (fun x => p.inv.length - x.1) (ks := [2]) rfl hS (⟨Nat.zero_le _, hi, rfl⟩) ?_
  clear hA hS a; rintro ⟨j, ys, bi1⟩ a w hA hS hj
  try dsimp only at hA
  try dsimp only at hS
  try dsimp only at hj
  obtain ⟨hj, hrow, hyl⟩ := hj
  replace hA := hA.keep [2, 0] rfl
  refine m_seq ?_
  refine m_seq ?_
  refine m_region ?_
  refine m1 hA hS (Y.move rfl) rfl ?_
  clear hA a; intro a hA
  refine m1 hA hS (Y.move rfl) rfl ?_
  clear hA a; intro a hA
  refine m1 hA hS (Y.nil rfl) rfl ?_
  clear hA a; intro a hA
  refine m1 hA hS (Y.fieldAddr (k := 3) rfl Tryz.underlying46 rfl rfl Tryz.sizeOf44) rfl ?_
  clear hA a; intro a hA
  refine m1 hA hS (Y.load rfl Tryz.isAgg44 (fun w h => h.cell (i := 0) rfl c3)) rfl ?_
  clear hA a; intro a hA
  refine m1 hA hS (Y.lenSl rfl Tryz.underlying44) rfl ?_
  clear hA a; intro a hA
  refine m1 hA hS (Y.ltI rfl rfl) rfl ?_
  clear hA a; intro a hA
  refine m_nil ?_
  refine m_then ?_
  refine m_condP hA rfl (fun hlt => ?_) (fun hlt => ?_)
  · obtain ⟨y, hy⟩ : ∃ y, ys[j]? = some y := ⟨ys[j], List.getElem?_eq_getElem (by omega)⟩
    rw [InvsB, hyl] at hrow
    obtain ⟨hl2, ⟨_, h0, _⟩ | ⟨g2, cap2, cur2, e2, rfl, hcap2, hmax2, hcur2, htk2⟩⟩ := hrow
    · omega
    cases e2
    refine m_skip ?_
    refine m_then ?_
    refine m_seq ?_
    refine m_block ?_
    refine m_region ?_
    refine m1 hA hS (Y.move rfl) rfl ?_
    clear hA a; intro a hA
    refine m1 hA hS (Y.nil rfl) rfl ?_
    clear hA a; intro a hA
    refine m1 hA hS (Y.fieldAddr (k := 3) rfl Tryz.underlying46 rfl rfl Tryz.sizeOf44) rfl ?_
    clear hA a; intro a hA
    refine m1 hA hS (Y.load rfl Tryz.isAgg44 (fun w h => h.cell (i := 0) rfl c3)) rfl ?_
    clear hA a; intro a hA
    refine m1 hA hS (Y.move rfl) rfl ?_
    clear hA a; intro a hA
    refine m1 hA hS (Y.indexAddrN rfl rfl Tryz.underlying44 Tryz.sizeOf61 (by omega)) rfl ?_
    clear hA a; intro a hA
    refine m1 hA hS (Y.fieldAddr (k := 0) rfl Tryz.underlying61 rfl rfl Tryz.sizeOf3) rfl ?_
    clear hA a; intro a hA
    refine m_storeP 1 (cur2.set (j * 2) (.int .i64 (-1))) hA hS rfl rfl Tryz.sizeOf3 rfl rfl (by simp; omega) (List.all_eq_true.1 rfl) ?_ ?_
    · rw [show 0 + j * 2 + 0 = j * 2 from by omega]
      exact spl_set (by omega)
    clear hS; intro w hS
    refine m_nil ?_
    refine n_block ?_
    refine m_then ?_
    refine m_region ?_
    refine m1 hA hS (Y.move rfl) rfl ?_
    clear hA a; intro a hA
    refine m1 hA hS (Y.addI rfl rfl (by omega)) rfl ?_
    clear hA a; intro a hA
    refine m1 hA hS (Y.assign rfl) rfl ?_
    clear hA a; intro a hA
    refine m_nil ?_
    have hrow2 : InvsB (.slice (some ⟨g2, 0, none⟩) p.inv.length ic) (ys.set j ⟨-1, y.til⟩) [cB g2 (cur2.set (j * 2) (.int .i64 (-1))) 61] := by
      refine ⟨by rw [flat_len (f := cInv) (k := 2) (fun _ => rfl)], .inr ⟨g2, ic, _, by simp [hyl], rfl, by simp; omega, hmax2, by simp [hcur2], ?_⟩⟩
      rw [List.length_set, hyl, List.take_set, htk2, flat_set hy]
    exact m_then ⟨(j + 1, ys.set j ⟨-1, y.til⟩, [cB g2 (cur2.set (j * 2) (.int .i64 (-1))) 61]), by (try dsimp only); omega, hA.keep [2, 0] rfl, hS, by (try dsimp only); exact ⟨by omega, hrow2, by simp [hyl]⟩⟩
  · refine m_exit ?_
    refine x_then ?_
    refine x_then ?_
    refine x_block ?_
    refine m_then ?_
    refine m_region ?_
    refine m1 hA hS (Y.move rfl) rfl ?_
    clear hA a; intro a hA
    refine m1 hA hS (Y.nil rfl) rfl ?_
    clear hA a; intro a hA
    refine m1 hA hS (Y.fieldAddr (k := 0) rfl Tryz.underlying46 rfl rfl Tryz.sizeOf3) rfl ?_
    clear hA a; intro a hA
    refine m_storeP 0 (spl cur o [.int .i64 (-1)]) hA hS rfl rfl Tryz.sizeOf3 rfl rfl (by simp; omega) (List.all_eq_true.1 rfl) rfl ?_
    clear hS; intro w hS
    refine m_nil ?_
    refine m_end0 hA Tryz.results37 ?_
    replace hS : St w (cB g (spl cur o [.int .i64 (-1)]) 46 :: (bi1 ++ (bm' ++ B))) V := hS
    rw [spl_four c0 c1 c2 c3] at hS
    exact ⟨[.int .i64 (-1), .int .i64 p.leader, .slice MA p.mem.length mc, .slice IA p.inv.length ic], ⟨-1, p.leader, xs', ys⟩, bm' ++ bi1, rfl,
      ⟨.slice MA p.mem.length mc, .slice IA p.inv.length ic, bm', bi1, rfl, hm', hrow, rfl, by simp; omega, by simp; omega⟩,
      hS.perm (List.Perm.cons _ (by rw [List.append_assoc]; exact List.perm_append_comm_assoc _ _ _))⟩
end Go.Proofs.YtljkhijdaaconaaGreat
