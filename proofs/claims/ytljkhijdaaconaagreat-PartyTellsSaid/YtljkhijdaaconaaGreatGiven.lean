/- Contracts: CopyInts, givenParty, takenParty, Given, Taken. -/
import Derived.Test.YtljkhijdaaconaaGreatCreate
import Derived.Test.YtljkhijdaaconaaGreatInv
set_option linter.unusedVariables false
namespace Go.Proofs.YtljkhijdaaconaaGreat
open Go.RowKit

/-! ### Halls in memory of one's own, of either package's types -/
def PtyT (ti : Nat) (c : List Value) (p : Pty) (bs : List Bx) : Prop :=
  ∃ mv iv bm bi, c = [.int .i64 p.id, .int .i64 p.leader, mv, iv] ∧ IntsB mv p.mem bm ∧ RowB ti 2 iv p.inv.length (p.inv.flatMap cInv) bi ∧ bs = bm ++ bi ∧ p.mem.length ≤ 100 ∧ p.inv.length ≤ 100
def PtysT (ti : Nat) : List Value → List Pty → List Bx → Prop
  | cs, [], bs => cs = [] ∧ bs = []
  | cs, p :: ps, bs => ∃ c cs' b1 b2, cs = c ++ cs' ∧ bs = b1 ++ b2 ∧ PtyT ti c p b1 ∧ PtysT ti cs' ps b2
def HallT (ti tp : Nat) (pv : Value) (ps : List Pty) (bs : List Bx) : Prop :=
  ∃ cs b1 b2, RowB tp 4 pv ps.length cs b1 ∧ PtysT ti cs ps b2 ∧ bs = b1 ++ b2 ∧ ps.length ≤ 100
theorem PtysT.b : ∀ {ps : List Pty} {cs : List Value} {bs : List Bx}, PtysT 61 cs ps bs → PtysB cs ps bs
  | [], _, _, h => h
  | p :: ps, cs, bs, ⟨c, cs', b1, b2, e1, e2, h1, h2⟩ => ⟨c, cs', b1, b2, e1, e2, h1, PtysT.b h2⟩
theorem HallT.b {pv : Value} {ps : List Pty} {bs : List Bx} (h : HallT 61 46 pv ps bs) : HallB pv ps bs := by
  obtain ⟨cs, b1, b2, h1, h2, h3, h4⟩ := h
  exact ⟨cs, b1, b2, h1, h2.b, h3, h4⟩
theorem PtyT.len {ti : Nat} {c : List Value} {p : Pty} {bs : List Bx} (h : PtyT ti c p bs) : c.length = 4 := by
  obtain ⟨mv, iv, bm, bi, rfl, _⟩ := h; rfl
theorem PtysT.len {ti : Nat} : ∀ {ps : List Pty} {cs : List Value} {bs : List Bx}, PtysT ti cs ps bs → cs.length = ps.length * 4
  | [], cs, bs, h => by rw [h.1]; rfl
  | p :: ps, cs, bs, h => by
    obtain ⟨c, cs', b1, b2, rfl, rfl, h1, h2⟩ := h
    rw [List.length_append, h1.len, PtysT.len h2, List.length_cons]; omega
theorem PtysT.snoc {ti : Nat} {p : Pty} {c : List Value} {b : List Bx} (hp : PtyT ti c p b) : ∀ {ps : List Pty} {cs : List Value} {bs : List Bx}, PtysT ti cs ps bs → PtysT ti (cs ++ c) (ps ++ [p]) (bs ++ b)
  | [], cs, bs, h => by
    obtain ⟨rfl, rfl⟩ := h
    exact ⟨c, [], b, [], by simp, by simp, hp, rfl, rfl⟩
  | q :: ps, cs, bs, h => by
    obtain ⟨c', cs', b1, b2, rfl, rfl, h1, h2⟩ := h
    exact ⟨c', cs' ++ c, b1, b2 ++ b, by simp, by simp, h1, PtysT.snoc hp h2⟩
theorem InvsT.read {e : Nat} {v : Value} {xs : List Inv} {bs : List Bx} {base : Nat} {w : World} (h : RowB e 2 v xs.length (xs.flatMap cInv) bs) (hf : Fresh base w bs) (hle : xs.length ≤ 100) : ∃ A c, v = .slice A xs.length c ∧ InvsL base w A xs.length xs := by
  obtain ⟨⟨A, c, rfl⟩, h2⟩ := RowB.cell h hf
  refine ⟨A, c, rfl, rfl, by omega, fun j x hj => ?_⟩
  have f0 := flat_get (f := cInv) (k := 2) (fun _ => rfl) hj 0 (by omega)
  have f1 := flat_get (f := cInv) (k := 2) (fun _ => rfl) hj 1 (by omega)
  obtain ⟨g, c', e, hb, hc⟩ := h2 _ _ f0
  obtain ⟨g', c'', e', hb', hc'⟩ := h2 _ _ f1
  cases e
  cases e'
  exact ⟨g, 0, rfl, hb, by simpa using hc, by simpa using hc'⟩
theorem PtyT.read {ti : Nat} {c : List Value} {p : Pty} {bs : List Bx} {base : Nat} {w : World} (h : PtyT ti c p bs) (hf : Fresh base w bs) : ∃ M mc I ic, c = [.int .i64 p.id, .int .i64 p.leader, .slice M p.mem.length mc, .slice I p.inv.length ic] ∧ PtyInL base w M p.mem.length I p.inv.length p := by
  obtain ⟨mv, iv, bm, bi, rfl, h1, h2, rfl, h3, h4⟩ := h
  obtain ⟨M, mc, rfl, h5⟩ := h1.read hf.left h3
  obtain ⟨I, ic, rfl, h6⟩ := InvsT.read h2 hf.right h4
  exact ⟨M, mc, I, ic, rfl, h5, h6⟩
theorem PtysT.read {ti base : Nat} {w : World} : ∀ {ps : List Pty} {cs : List Value} {bs : List Bx}, PtysT ti cs ps bs → Fresh base w bs → PtysC base w cs ps
  | [], cs, bs, h, hf => h.1
  | p :: ps, cs, bs, h, hf => by
    obtain ⟨c, cs', b1, b2, rfl, rfl, h1, h2⟩ := h
    obtain ⟨M, mc, I, ic, rfl, h3⟩ := h1.read hf.left
    exact ⟨M, _, mc, I, _, ic, cs', rfl, h3, PtysT.read h2 hf.right⟩
theorem HallT.read {ti tp : Nat} {pv : Value} {ps : List Pty} {bs : List Bx} {base : Nat} {w : World} (h : HallT ti tp pv ps bs) (hf : Fresh base w bs) : ∃ A c, pv = .slice A ps.length c ∧ PtysL base w A ps.length ps := by
  obtain ⟨cs, b1, b2, h1, h2, rfl, h3⟩ := h
  obtain ⟨⟨A, c, rfl⟩, h5⟩ := RowB.cell h1 hf.left
  have h6 := h2.read hf.right
  refine ⟨A, c, rfl, rfl, by omega, fun j p hj => ?_⟩
  obtain ⟨M, m, mc, I, i, ic, e0, e1, e2, e3, e4⟩ := h6.at hj
  obtain ⟨g, c', e, hb, hc⟩ := h5 _ _ e0
  obtain ⟨g1, _, e', _, hc1⟩ := h5 _ _ e1
  obtain ⟨g2, _, e'', _, hc2⟩ := h5 _ _ e2
  obtain ⟨g3, _, e5, _, hc3⟩ := h5 _ _ e3
  cases e
  cases e'
  cases e''
  cases e5
  refine ⟨g, 0, rfl, M, m, mc, I, i, ic, hb, ?_, ?_, ?_, ?_, e4⟩ <;> simpa [Nat.add_assoc]
theorem HallT.shape {ti tp : Nat} {pv : Value} {ps : List Pty} {bs : List Bx} (h : HallT ti tp pv ps bs) : ∃ A c, pv = .slice A ps.length c := by
  obtain ⟨cs, b1, b2, h1, _⟩ := h
  exact h1.shape
theorem elemIR : elemOk Tryz.prog 40 2 16 = true := by kernel_rfl
theorem elemPR : elemOk Tryz.prog 43 4 64 = true := by kernel_rfl
theorem bs_invR (a b : Value) (w : World) : (Instr.buildSlice 41 1 [(0, Value.agg [a, b].toArray)].toArray).run Tryz.prog w = .ok (.slice (some ⟨w.heap.size, 0, none⟩) 1 1) (w.alloc (.cells [a, b].toArray 40)) := by
  go_simp
theorem bs_ptyR (a b c d : Value) (w : World) : (Instr.buildSlice 28 1 [(0, Value.agg [a, b, c, d].toArray)].toArray).run Tryz.prog w = .ok (.slice (some ⟨w.heap.size, 0, none⟩) 1 1) (w.alloc (.cells [a, b, c, d].toArray 43)) := by
  go_simp
section
variable {P : Program} {n : Nat} {s : List (Nat × Value)} {ops : Array Oper} {rest : List Oper} {Q : Exit → Act → World → Prop} {a : Act} {w : World} {B : List Bx} {V : List (Nat × World)}
theorem m_cut {c : Code} {K : Act → World → Prop} (R : Act → World → Prop) (h : c.wp P (Exit.then R Q) a w) (k : ∀ a w, R a w → K a w) : c.wp P (Exit.then K Q) a w :=
  Code.wp_mono (fun e a w h => by cases e <;> first | exact k _ _ h | exact h) h
/-- Nothing is appended: a nil slice stands behind. -/
theorem m_appendNil {d : Nat} {t ty : TypeId} {x y : Operand} {pos : String} {aft : Array Edge} {n' c c' k : Nat} {A : Option Addr} (e bytes : Nat) (hE : elemOk P e k bytes = true) (hA : Fits a n s) (hx : ev s x = some (.slice A n' c)) (hy : ev s y = some (.slice none 0 c')) (hd : Nat.blt d n = true)
    (ht : P.underlying t = some (.slice e)) (hle : n' ≤ c) (kk : ∀ a', Fits a' n ((d, .slice A n' c) :: s) → wpList P ops Q rest a' w) :
    wpList P ops Q (⟨some d, .call { callee := .builtin .append, args := #[x, y], argTypes := #[t, t] }, ty, pos, aft, none⟩ :: rest) a w := by
  obtain ⟨i, z, hi, hz, hsize, hzs, hb, hk⟩ := elemOk_spec hE
  refine wpList_plain rfl fun K hK => ?_
  have hr : (Builtin.append_ #[t, t] ty #[.slice A n' c, .slice none 0 c']).run P w = .ok (.slice A n' c) w := by
    cases A <;> simp [Builtin.append_, run_underlying ht, sizeOf, typeInfo, hi, Builtin.lenOf, hle, Builtin.firstCells, storeCells]
  have hr' : (execOp a.eval ⟨some d, .call { callee := .builtin .append, args := #[x, y], argTypes := #[t, t] }, ty, pos, aft, none⟩).run P w = .ok (.value (.slice A n' c)) w := by
    simp [execOp, resolve, invoke, builtin, hA.ev hx, hA.ev hy, hr]
  unfold Oper.wp
  rw [hr']
  exact hK _ _ (kk _ (hA.put (blt_lt hd) _))
end
set_option maxRecDepth 100000 in
theorem copyInts_c (A : Option Addr) (n c : Nat) (xs : List Int) (w0 : World) (hI : Ints w0 A n xs) (hle : n ≤ 100) :
    Calls Tryz.prog 62 #[.slice A n c] w0 fun e w' => ∃ v bs, e = .returned v ∧ IntsB v xs bs ∧ Gr w0 w' ∧ Fresh w0.heap.size w' bs := by
  have hl := hI.len
  refine m_enter Tryz.func62 rfl Tryz.ntmps62 (Nat.le_of_ble_eq_true rfl) ?_
  intro a hA
  have hS := St.start w0
  refine m_seq ?_
  refine m_region ?_
  refine m1 hA hS (Y.assign rfl) rfl ?_
  clear hA a; intro a hA
  refine m_nil ?_
  refine m_then ?_
  refine m_seq ?_
  refine m_region ?_
  refine m1 hA hS (Y.assign rfl) rfl ?_
  clear hA a; intro a hA
  refine m_nil ?_
  refine m_then ?_
  refine m_seq ?_
  refine m_region ?_
  refine m1 hA hS (Y.move rfl) rfl ?_
  clear hA a; intro a hA
  refine m1 hA hS (Y.move rfl) rfl ?_
  clear hA a; intro a hA
  cases A with
  | none => ?_
  | some A => ?_
  · have hx := hI.nil_of
    subst hx
    obtain rfl : n = 0 := by simpa using hl.symm
    refine m_appendNil 3 8 elemInt hA rfl rfl rfl Tryz.underlying38 (Nat.le_refl _) ?_
    clear hA a; intro a hA
    refine m1 hA hS (Y.assign rfl) rfl ?_
    clear hA a; intro a hA
    refine m_nil ?_
    refine m_then ?_
    refine m_retc ?_
    refine m_ret1 hA Tryz.results62 rfl ?_
    exact ⟨_, [], rfl, RowB.nil _ _, hS.gr0 (by simp), St.out (bs := []) (B := []) hS (by simp)⟩
  · refine m_append (bs := []) (B := []) 3 8 (xs.map (Value.int .i64)) elemInt hA hS (RowB.nil _ _) rfl rfl rfl Tryz.underlying38 (by simp [hl]) (IntsL.news (Ints.gr (hS.gr0 (by simp)) hI)) (one_ints xs) (by omega) (by decide) ?_
    clear hA hS a; intro a w v bs hA hR hn hS
    refine m1 hA hS (Y.assign rfl) rfl ?_
    clear hA a; intro a hA
    refine m_nil ?_
    refine m_then ?_
    refine m_retc ?_
    refine m_ret1 hA Tryz.results62 rfl ?_
    refine ⟨v, bs, rfl, ?_, hS.gr0 (by simp), hS.out (by simp)⟩
    rw [IntsB, hl]
    simpa using hR

set_option maxRecDepth 100000 in
set_option maxHeartbeats 1000000 in
theorem givenParty_c (p : Pty) (M : Option Addr) (m mc : Nat) (I : Option Addr) (i ic : Nat) (w0 : World) (h : PtyIn w0 M m I i p) (hm : m ≤ 100) (hi : i ≤ 100) :
    Calls Tryz.prog 22 #[.agg #[.int .i64 p.id, .int .i64 p.leader, .slice M m mc, .slice I i ic]] w0 fun e w' => ∃ c bs, e = .returned (.agg c.toArray) ∧ PtyT 40 c p bs ∧ Gr w0 w' ∧ Fresh w0.heap.size w' bs := by
  have hml := h.mem.len
  have hil := h.inv.len
  refine m_enter Tryz.func22 rfl Tryz.ntmps22 (Nat.le_of_ble_eq_true rfl) ?_
  intro a hA
  have hS := St.start w0
  refine m_seq ?_
  refine m_region ?_
  refine m_box hA hS rfl rfl ?_
  clear hA hS a; intro a b1 w hA hleb1 hgb1 hS
  refine m_alloc hA hS Tryz.zeroValue43 rfl ?_
  clear hA hS a; intro a b2 w hA hleb2 hgb2 hS
  refine m_nil ?_
  refine m_then ?_
  refine m_seq ?_
  refine m_cut (fun a w => ∃ bn v bm, Fits a 39 [(3, .pointer (some ⟨bn, 0, none⟩)), (2, .pointer (some ⟨b2, 0, none⟩)), (1, .pointer (some ⟨b1, 0, none⟩))] ∧ IntsB v p.mem bm ∧ St w ([cB bn [.int .i64 p.id, .int .i64 p.leader, v, .slice none 0 0] 43, cB b2 [.int .i64 0, .int .i64 0, .slice none 0 0, .slice none 0 0] 43, cB b1 [.int .i64 p.id, .int .i64 p.leader, .slice M m mc, .slice I i ic] 46] ++ bm) [(0, w0)]) ?_ ?_
  · refine d_regionS [1, 3, 5] [0, 1, 2, 3, 4, 5, 7] hS rfl 10 [false, false, false, false, false, false, false, false, false, false] rfl rfl ?_
    clear hS; intro w hS _
    have hQ := hS
    refine d_take 0 (bs' := [true, false, false, false, false, false, false, false, false, false]) hA rfl rfl (by kernel_rfl) (fun _ _ _ h => h) (Y.fieldAddr (k := 0) rfl Tryz.underlying46 rfl rfl Tryz.sizeOf3) rfl ?_
    clear hA a; intro a hA
    refine d_load 1 (bs' := [true, true, false, false, false, false, false, false, false, false]) hA hQ rfl rfl rfl (by kernel_rfl) (fun _ _ _ h => h) (Y.load rfl Tryz.isAgg3 (fun w h => h.cell (i := 1) rfl rfl)) rfl ?_
    clear hA a; intro a hA
    refine d_take 2 (bs' := [true, true, true, false, false, false, false, false, false, false]) hA rfl rfl (by kernel_rfl) (fun _ _ _ h => h) (Y.fieldAddr (k := 1) rfl Tryz.underlying46 rfl rfl Tryz.sizeOf3) rfl ?_
    clear hA a; intro a hA
    refine d_load 3 (bs' := [true, true, true, true, false, false, false, false, false, false]) hA hQ rfl rfl rfl (by kernel_rfl) (fun _ _ _ h => h) (Y.load rfl Tryz.isAgg3 (fun w h => h.cell (i := 1) rfl rfl)) rfl ?_
    clear hA a; intro a hA
    refine d_take 4 (bs' := [true, true, true, true, true, false, false, false, false, false]) hA rfl rfl (by kernel_rfl) (fun _ _ _ h => h) (Y.fieldAddr (k := 2) rfl Tryz.underlying46 rfl rfl Tryz.sizeOf38) rfl ?_
    clear hA a; intro a hA
    refine d_load 5 (bs' := [true, true, true, true, true, true, false, false, false, false]) hA hQ rfl rfl rfl (by kernel_rfl) (fun _ _ _ h => h) (Y.load rfl Tryz.isAgg38 (fun w h => h.cell (i := 1) rfl rfl)) rfl ?_
    clear hA a; intro a hA
    refine d_two 6 8 (bi := [true, true, true, true, true, true, true, false, false, false]) (bj := [true, true, true, true, true, true, false, false, true, false]) true true rfl rfl (by kernel_rfl) ?_ ?_
    · refine m_call hA Tryz.call62 rfl rfl ((copyInts_c _ _ _ p.mem _ (h.mem.gr (hS.gr0 (by simp))) hm).mono ?_)
      rintro e w ⟨v, bm, rfl, hv, hg1, hf1⟩
      refine ⟨_, rfl, ?_⟩
      clear hA a; intro a hA
      replace hS := hS.freshR hg1 hf1
      replace hQ := hQ.gr hg1
      obtain ⟨A1, c1, rfl⟩ := hv.shape
      refine m_nil (m_then ⟨fun _ => hQ, ?_⟩)
      refine d_take 7 (bs' := [true, true, true, true, true, true, true, true, false, false]) hA rfl rfl (by kernel_rfl) (fun _ _ _ h => h) (Y.build rfl (cs := [.int .i64 p.id, .int .i64 p.leader, .slice A1 p.mem.length c1, .slice none 0 0]) (by kernel_rfl)) rfl ?_
      clear hA a; intro a hA
      refine d_one 8 (bs' := [true, true, true, true, true, true, true, true, true, false]) true rfl (by kernel_rfl) ?_
      refine m_alloc hA hS Tryz.zeroValue43 rfl ?_
      clear hA hS a; intro a b3 w hA hleb3 hgb3 hS
      replace hQ := hQ.gr hgb3
      refine m_nil (m_then ⟨fun _ => hQ, ?_⟩)
      refine d_one 9 (bs' := [true, true, true, true, true, true, true, true, true, true]) false rfl (by kernel_rfl) ?_
      refine m_store 0 hA hS rfl rfl Tryz.sizeOf43 rfl rfl rfl rfl ?_
      clear hS; intro w hS
      refine m_nil (m_then ⟨fun h => (by cases h), ?_⟩)
      refine d_done (by kernel_rfl) ?_
      refine m_then ?_
      exact ⟨_, _, bm, hA.keep [3, 2, 1] rfl, hv, hS⟩
    · refine m_alloc hA hS Tryz.zeroValue43 rfl ?_
      clear hA hS a; intro a b4 w hA hleb4 hgb4 hS
      replace hQ := hQ.gr hgb4
      refine m_nil (m_then ⟨fun _ => hQ, ?_⟩)
      refine d_one 6 (bs' := [true, true, true, true, true, true, true, false, true, false]) true rfl (by kernel_rfl) ?_
      refine m_call hA Tryz.call62 rfl rfl ((copyInts_c _ _ _ p.mem _ (h.mem.gr (hS.gr0 (by simp))) hm).mono ?_)
      rintro e w ⟨v, bm, rfl, hv, hg1, hf1⟩
      refine ⟨_, rfl, ?_⟩
      clear hA a; intro a hA
      replace hS := hS.freshR hg1 hf1
      replace hQ := hQ.gr hg1
      obtain ⟨A1, c1, rfl⟩ := hv.shape
      refine m_nil (m_then ⟨fun _ => hQ, ?_⟩)
      refine d_take 7 (bs' := [true, true, true, true, true, true, true, true, true, false]) hA rfl rfl (by kernel_rfl) (fun _ _ _ h => h) (Y.build rfl (cs := [.int .i64 p.id, .int .i64 p.leader, .slice A1 p.mem.length c1, .slice none 0 0]) (by kernel_rfl)) rfl ?_
      clear hA a; intro a hA
      refine d_one 9 (bs' := [true, true, true, true, true, true, true, true, true, true]) false rfl (by kernel_rfl) ?_
      refine m_store 0 hA hS rfl rfl Tryz.sizeOf43 rfl rfl rfl rfl ?_
      clear hS; intro w hS
      refine m_nil (m_then ⟨fun h => (by cases h), ?_⟩)
      refine d_done (by kernel_rfl) ?_
      refine m_then ?_
      exact ⟨_, _, bm, hA.keep [3, 2, 1] rfl, hv, hS⟩
  · clear hA hS a; rintro a w ⟨bn, v, bm, hA, hv, hS⟩
    rw [← List.append_nil bm] at hS
    refine m_seq ?_
    refine m_seq ?_
    refine m_region ?_
    refine m1 hA hS (Y.assign rfl) rfl ?_
    clear hA a; intro a hA
    refine m_nil ?_
    refine m_then ?_
    refine m_block ?_
    refine m_loopX [3, 2, 1] rfl hA (((0 : Nat), Value.slice none 0 0, ([] : List Bx))) (fun x => [(4, .int .i64 (x.1 : Int))]) (fun x => [cB bn [.int .i64 p.id, .int .i64 p.leader, v, x.2.1] 43, cB b2 [.int .i64 0, .int .i64 0, .slice none 0 0, .slice none 0 0] 43, cB b1 [.int .i64 p.id, .int .i64 p.leader, .slice M m mc, .slice I i ic] 46] ++ (bm ++ x.2.2)) (fun _ => _) (fun x => x.1 ≤ i ∧ RowB 40 2 x.2.1 x.1 ((p.inv.take x.1).flatMap cInv) x.2.2) (fun x => i - x.1) (ks := [4]) rfl hS (⟨Nat.zero_le _, RowB.nil _ _⟩) ?_
    clear hA hS a; rintro ⟨j, iv, bi⟩ a w hA hS hj
    try dsimp only at hA
    try dsimp only at hS
    try dsimp only at hj
    obtain ⟨hj, hrow⟩ := hj
    replace hA := hA.keep [4, 3, 2, 1] rfl
    refine m_seq ?_
    refine m_seq ?_
    refine m_region ?_
    refine m1 hA hS (Y.move rfl) rfl ?_
    clear hA a; intro a hA
    refine m1 hA hS (Y.fieldAddr (k := 3) rfl Tryz.underlying46 rfl rfl Tryz.sizeOf44) rfl ?_
    clear hA a; intro a hA
    refine m1 hA hS (Y.load rfl Tryz.isAgg44 (fun w h => h.cell (i := 2) rfl rfl)) rfl ?_
    clear hA a; intro a hA
    refine m1 hA hS (Y.lenSl rfl Tryz.underlying44) rfl ?_
    clear hA a; intro a hA
    refine m1 hA hS (Y.ltI rfl rfl) rfl ?_
    clear hA a; intro a hA
    refine m_nil ?_
    refine m_then ?_
    refine m_condP hA rfl (fun hlt => ?_) (fun hlt => ?_)
    · obtain ⟨b, o, x, rfl, hx, x0, x1⟩ := h.inv.at (j := j) (by omega)
      obtain ⟨A3, c3, rfl⟩ := hrow.shape
      refine m_skip ?_
      refine m_then ?_
      refine m_seq ?_
      refine m_block ?_
      refine d_region (fun w => St w [cB bn [.int .i64 p.id, .int .i64 p.leader, v, .slice A3 j c3] 43, cB b2 [.int .i64 0, .int .i64 0, .slice none 0 0, .slice none 0 0] 43, cB b1 [.int .i64 p.id, .int .i64 p.leader, .slice M m mc, .slice (some ⟨b, o, none⟩) i ic] 46] [(0, w0)]) [1, 3, 7, 9, 13] [0, 1, 2, 3, 4, 5, 6, 7, 8, 9, 10, 11, 12, 13, 14, 17] _ _ hS rfl 19 [false, false, false, false, false, false, false, false, false, false, false, false, false, false, false, false, false, false, false] rfl rfl ?_
      clear hS; intro w hS _
      have hQ : St w [cB bn [.int .i64 p.id, .int .i64 p.leader, v, .slice A3 j c3] 43, cB b2 [.int .i64 0, .int .i64 0, .slice none 0 0, .slice none 0 0] 43, cB b1 [.int .i64 p.id, .int .i64 p.leader, .slice M m mc, .slice (some ⟨b, o, none⟩) i ic] 46] [(0, w0)] := hS.sub (List.sublist_append_left _ _)
      refine d_take 0 (bs' := [true, false, false, false, false, false, false, false, false, false, false, false, false, false, false, false, false, false, false]) hA rfl rfl (by kernel_rfl) (fun _ _ _ h => h) (Y.fieldAddr (k := 3) rfl Tryz.underlying43 rfl rfl Tryz.sizeOf41) rfl ?_
      clear hA a; intro a hA
      refine d_load 1 (bs' := [true, true, false, false, false, false, false, false, false, false, false, false, false, false, false, false, false, false, false]) hA hQ rfl rfl rfl (by kernel_rfl) (fun _ _ _ h => h) (Y.load rfl Tryz.isAgg41 (fun w h => h.cell (i := 0) rfl rfl)) rfl ?_
      clear hA a; intro a hA
      refine d_take 2 (bs' := [true, true, true, false, false, false, false, false, false, false, false, false, false, false, false, false, false, false, false]) hA rfl rfl (by kernel_rfl) (fun _ _ _ h => h) (Y.fieldAddr (k := 3) rfl Tryz.underlying46 rfl rfl Tryz.sizeOf44) rfl ?_
      clear hA a; intro a hA
      refine d_load 3 (bs' := [true, true, true, true, false, false, false, false, false, false, false, false, false, false, false, false, false, false, false]) hA hQ rfl rfl rfl (by kernel_rfl) (fun _ _ _ h => h) (Y.load rfl Tryz.isAgg44 (fun w h => h.cell (i := 2) rfl rfl)) rfl ?_
      clear hA a; intro a hA
      refine d_take 4 (bs' := [true, true, true, true, true, false, false, false, false, false, false, false, false, false, false, false, false, false, false]) hA rfl rfl (by kernel_rfl) (fun _ _ _ h => h) (Y.move rfl) rfl ?_
      clear hA a; intro a hA
      refine d_take 5 (bs' := [true, true, true, true, true, true, false, false, false, false, false, false, false, false, false, false, false, false, false]) hA rfl rfl (by kernel_rfl) (fun _ _ _ h => h) (Y.indexAddrN rfl rfl Tryz.underlying44 Tryz.sizeOf61 (by omega)) rfl ?_
      clear hA a; intro a hA
      refine d_take 6 (bs' := [true, true, true, true, true, true, true, false, false, false, false, false, false, false, false, false, false, false, false]) hA rfl rfl (by kernel_rfl) (fun _ _ _ h => h) (Y.fieldAddr (k := 0) rfl Tryz.underlying61 rfl rfl Tryz.sizeOf3) rfl ?_
      clear hA a; intro a hA
      refine d_load 7 (bs' := [true, true, true, true, true, true, true, true, false, false, false, false, false, false, false, false, false, false, false]) hA hQ rfl rfl rfl (by kernel_rfl) (fun _ _ _ h => h) (Y.load rfl Tryz.isAgg3 (fun w h => h.rd (by simp) (Nat.zero_le _) (x0))) rfl ?_
      clear hA a; intro a hA
      refine d_take 8 (bs' := [true, true, true, true, true, true, true, true, true, false, false, false, false, false, false, false, false, false, false]) hA rfl rfl (by kernel_rfl) (fun _ _ _ h => h) (Y.fieldAddr (k := 3) rfl Tryz.underlying46 rfl rfl Tryz.sizeOf44) rfl ?_
      clear hA a; intro a hA
      refine d_load 9 (bs' := [true, true, true, true, true, true, true, true, true, true, false, false, false, false, false, false, false, false, false]) hA hQ rfl rfl rfl (by kernel_rfl) (fun _ _ _ h => h) (Y.load rfl Tryz.isAgg44 (fun w h => h.cell (i := 2) rfl rfl)) rfl ?_
      clear hA a; intro a hA
      refine d_take 10 (bs' := [true, true, true, true, true, true, true, true, true, true, true, false, false, false, false, false, false, false, false]) hA rfl rfl (by kernel_rfl) (fun _ _ _ h => h) (Y.move rfl) rfl ?_
      clear hA a; intro a hA
      refine d_take 11 (bs' := [true, true, true, true, true, true, true, true, true, true, true, true, false, false, false, false, false, false, false]) hA rfl rfl (by kernel_rfl) (fun _ _ _ h => h) (Y.indexAddrN rfl rfl Tryz.underlying44 Tryz.sizeOf61 (by omega)) rfl ?_
      clear hA a; intro a hA
      refine d_take 12 (bs' := [true, true, true, true, true, true, true, true, true, true, true, true, true, false, false, false, false, false, false]) hA rfl rfl (by kernel_rfl) (fun _ _ _ h => h) (Y.fieldAddr (k := 1) rfl Tryz.underlying61 rfl rfl Tryz.sizeOf3) rfl ?_
      clear hA a; intro a hA
      refine d_load 13 (bs' := [true, true, true, true, true, true, true, true, true, true, true, true, true, true, false, false, false, false, false]) hA hQ rfl rfl rfl (by kernel_rfl) (fun _ _ _ h => h) (Y.load rfl Tryz.isAgg3 (fun w h => h.rd (by simp) (Nat.zero_le _) (x1))) rfl ?_
      clear hA a; intro a hA
      refine d_take 14 (bs' := [true, true, true, true, true, true, true, true, true, true, true, true, true, true, true, false, false, false, false]) hA rfl rfl (by kernel_rfl) (fun _ _ _ h => h) (Y.build rfl (cs := [.int .i64 x.who, .int .i64 x.til]) (by kernel_rfl)) rfl ?_
      clear hA a; intro a hA
      refine d_one 15 (bs' := [true, true, true, true, true, true, true, true, true, true, true, true, true, true, true, true, false, false, false]) true rfl (by kernel_rfl) ?_
      refine m_buildSlice ([.int .i64 x.who, .int .i64 x.til]) hA hS rfl rfl (bs_invR _ _) ?_
      clear hA hS a; intro a b5 w hA hgb5 hS
      replace hQ := hQ.gr hgb5
      refine m_nil (m_then ⟨fun _ => hQ, ?_⟩)
      refine d_one 16 (bs' := [true, true, true, true, true, true, true, true, true, true, true, true, true, true, true, true, true, false, false]) true rfl (by kernel_rfl) ?_
      have hSp : St w (bi ++ ([cB b5 [.int .i64 x.who, .int .i64 x.til] 40, cB bn [.int .i64 p.id, .int .i64 p.leader, v, .slice A3 j c3] 43, cB b2 [.int .i64 0, .int .i64 0, .slice none 0 0, .slice none 0 0] 43, cB b1 [.int .i64 p.id, .int .i64 p.leader, .slice M m mc, .slice (some ⟨b, o, none⟩) i ic] 46] ++ bm)) [(0, w0)] := hS.perm (List.perm_iff_count.2 fun a => by simp only [List.count_append, List.count_cons, List.count_nil]; omega)
      refine m_append (bs := bi) 40 16 [.int .i64 x.who, .int .i64 x.til] elemIR hA hSp hrow rfl rfl rfl Tryz.underlying41 rfl (hS.cells (i := 0) rfl) (List.all_eq_true.1 rfl) (by omega) (by decide) ?_
      clear hA hS hSp a; intro a w v' bi' hA hrow' hnv hS
      obtain ⟨A4, c4, rfl⟩ := hrow'.shape
      replace hS : St w ([cB bn [.int .i64 p.id, .int .i64 p.leader, v, .slice A3 j c3] 43, cB b5 [.int .i64 x.who, .int .i64 x.til] 40, cB b2 [.int .i64 0, .int .i64 0, .slice none 0 0, .slice none 0 0] 43, cB b1 [.int .i64 p.id, .int .i64 p.leader, .slice M m mc, .slice (some ⟨b, o, none⟩) i ic] 46] ++ (bm ++ bi')) [(0, w0)] := hS.perm (List.perm_iff_count.2 fun a => by simp only [List.count_append, List.count_cons, List.count_nil]; omega)
      replace hQ : St w [cB bn [.int .i64 p.id, .int .i64 p.leader, v, .slice A3 j c3] 43, cB b2 [.int .i64 0, .int .i64 0, .slice none 0 0, .slice none 0 0] 43, cB b1 [.int .i64 p.id, .int .i64 p.leader, .slice M m mc, .slice (some ⟨b, o, none⟩) i ic] 46] [(0, w0)] := hS.sub (.cons_cons _ (.cons _ (List.sublist_append_left [_, _] _)))
      refine m_nil (m_then ⟨fun _ => hQ, ?_⟩)
      refine d_take 17 (bs' := [true, true, true, true, true, true, true, true, true, true, true, true, true, true, true, true, true, true, false]) hA rfl rfl (by kernel_rfl) (fun _ _ _ h => h) (Y.fieldAddr (k := 3) rfl Tryz.underlying43 rfl rfl Tryz.sizeOf41) rfl ?_
      clear hA a; intro a hA
      refine d_one 18 (bs' := [true, true, true, true, true, true, true, true, true, true, true, true, true, true, true, true, true, true, true]) false rfl (by kernel_rfl) ?_
      refine m_store 0 hA hS rfl rfl Tryz.sizeOf41 rfl rfl rfl rfl ?_
      clear hS; intro w hS
      refine m_nil (m_then ⟨fun h => (by cases h), ?_⟩)
      refine d_done (by kernel_rfl) ?_
      refine n_block ?_
      refine m_then ?_
      refine m_region ?_
      refine m1 hA hS (Y.move rfl) rfl ?_
      clear hA a; intro a hA
      refine m1 hA hS (Y.addI rfl rfl (by omega)) rfl ?_
      clear hA a; intro a hA
      refine m1 hA hS (Y.assign rfl) rfl ?_
      clear hA a; intro a hA
      refine m_nil ?_
      replace hS := hS.sub (.cons_cons _ (.cons _ (List.Sublist.refl _)))
      have hrow2 : RowB 40 2 (.slice A4 (j + 1) c4) (j + 1) ((p.inv.take (j + 1)).flatMap cInv) bi' := by
        rw [take_at hx, List.flatMap_append]
        simpa [cInv] using hrow'
      exact m_then ⟨(j + 1, .slice A4 (j + 1) c4, bi'), by (try dsimp only); omega, hA.keep [4, 3, 2, 1] rfl, hS, by (try dsimp only); exact ⟨by omega, hrow2⟩⟩
    · have hji : j = p.inv.length := by omega
      subst hji
      rw [List.take_length] at hrow
      obtain ⟨A3, c3, rfl⟩ := hrow.shape
      obtain ⟨A1, c1, rfl⟩ := hv.shape
      refine m_exit ?_
      refine x_then ?_
      refine x_then ?_
      refine x_block ?_
      refine m_then ?_
      refine m_seq ?_
      refine m_region ?_
      refine m1 hA hS (Y.loads rfl Tryz.isAgg43 Tryz.sizeOf43 (fun w h => h.cells (i := 0) rfl) rfl) rfl ?_
      clear hA a; intro a hA
      refine m_store 1 hA hS rfl rfl Tryz.sizeOf43 rfl rfl rfl rfl ?_
      clear hS; intro w hS
      refine m_nil ?_
      refine m_then ?_
      refine m_retc ?_
      refine m_retc1 1 hA hS Tryz.results22 rfl rfl Tryz.isAgg43 Tryz.sizeOf43 ?_
      exact ⟨_, bm ++ bi, rfl, ⟨_, _, bm, bi, rfl, hv, hrow, rfl, by omega, by omega⟩, hS.gr0 (by simp), St.outR (X := [_, _, _]) hS (by simp)⟩

set_option maxRecDepth 100000 in
set_option maxHeartbeats 1000000 in
theorem given_c (H : Hall) (A : Option Addr) (n c : Nat) (w0 : World) (hP : Ptys w0 A n H.ps) (hn : n ≤ 100) (hq : ∀ p ∈ H.ps, p.mem.length ≤ 100 ∧ p.inv.length ≤ 100) :
    Calls Tryz.prog 7 #[.agg #[.int .i64 H.tick, .int .i64 H.last, .slice A n c]] w0 fun e w' => ∃ pv bs, e = .returned (.agg #[.int .i64 H.tick, .int .i64 H.last, pv]) ∧ HallT 40 43 pv H.ps bs ∧ Gr w0 w' ∧ Fresh w0.heap.size w' bs := by
  have hl := hP.len
  refine m_enter Tryz.func7 rfl Tryz.ntmps7 (Nat.le_of_ble_eq_true rfl) ?_
  intro a hA
  have hS := St.start w0
  refine m_seq ?_
  refine m_region ?_
  refine m_box hA hS rfl rfl ?_
  clear hA hS a; intro a b1 w hA hleb1 hgb1 hS
  refine m_alloc hA hS Tryz.zeroValue30 rfl ?_
  clear hA hS a; intro a b2 w hA hleb2 hgb2 hS
  refine m_nil ?_
  refine m_then ?_
  refine m_seq ?_
  refine m_region ?_
  refine m1 hA hS (Y.fieldAddr (k := 0) rfl Tryz.underlying24 rfl rfl Tryz.sizeOf3) rfl ?_
  clear hA a; intro a hA
  refine m1 hA hS (Y.load rfl Tryz.isAgg3 (fun w h => h.cell (i := 1) rfl rfl)) rfl ?_
  clear hA a; intro a hA
  refine m1 hA hS (Y.fieldAddr (k := 1) rfl Tryz.underlying24 rfl rfl Tryz.sizeOf3) rfl ?_
  clear hA a; intro a hA
  refine m1 hA hS (Y.load rfl Tryz.isAgg3 (fun w h => h.cell (i := 1) rfl rfl)) rfl ?_
  clear hA a; intro a hA
  refine m1 hA hS (Y.build rfl (cs := [.int .i64 H.tick, .int .i64 H.last, .slice none 0 0]) (by kernel_rfl)) rfl ?_
  clear hA a; intro a hA
  refine m_alloc hA hS Tryz.zeroValue30 rfl ?_
  clear hA hS a; intro a b3 w hA hleb3 hgb3 hS
  refine m_store 0 hA hS rfl rfl Tryz.sizeOf30 rfl rfl rfl rfl ?_
  clear hS; intro w hS
  refine m_nil ?_
  refine m_then ?_
  refine m_seq ?_
  refine m_seq ?_
  refine m_region ?_
  refine m1 hA hS (Y.assign rfl) rfl ?_
  clear hA a; intro a hA
  refine m_nil ?_
  refine m_then ?_
  refine m_block ?_
  refine m_loopX [3, 2, 1] rfl hA (((0 : Nat), Value.slice none 0 0, ([] : List Value), ([] : List Bx), ([] : List Bx))) (fun x => [(4, .int .i64 (x.1 : Int))]) (fun x => [cB b3 [.int .i64 H.tick, .int .i64 H.last, x.2.1] 30, cB b2 [.int .i64 0, .int .i64 0, .slice none 0 0] 30, cB b1 [.int .i64 H.tick, .int .i64 H.last, .slice A n c] 24] ++ (x.2.2.2.1 ++ x.2.2.2.2)) (fun _ => _) (fun x => x.1 ≤ n ∧ RowB 43 4 x.2.1 x.1 x.2.2.1 x.2.2.2.1 ∧ PtysT 40 x.2.2.1 (H.ps.take x.1) x.2.2.2.2) (fun x => n - x.1) (ks := [4]) rfl hS (⟨Nat.zero_le _, RowB.nil _ _, rfl, rfl⟩) ?_
  clear hA hS a; rintro ⟨j, pv, cs, br, bp⟩ a w hA hS hj
  try dsimp only at hA
  try dsimp only at hS
  try dsimp only at hj
  obtain ⟨hj, hrow, hps⟩ := hj
  replace hA := hA.keep [4, 3, 2, 1] rfl
  refine m_seq ?_
  refine m_seq ?_
  refine m_region ?_
  refine m1 hA hS (Y.move rfl) rfl ?_
  clear hA a; intro a hA
  refine m1 hA hS (Y.fieldAddr (k := 2) rfl Tryz.underlying24 rfl rfl Tryz.sizeOf22) rfl ?_
  clear hA a; intro a hA
  refine m1 hA hS (Y.load rfl Tryz.isAgg22 (fun w h => h.cell (i := 2) rfl rfl)) rfl ?_
  clear hA a; intro a hA
  refine m1 hA hS (Y.lenSl rfl Tryz.underlying22) rfl ?_
  clear hA a; intro a hA
  refine m1 hA hS (Y.ltI rfl rfl) rfl ?_
  clear hA a; intro a hA
  refine m_nil ?_
  refine m_then ?_
  refine m_condP hA rfl (fun hlt => ?_) (fun hlt => ?_)
  · obtain ⟨b, o, p, M, m, mc, I, i, ic, rfl, hp, p0, p1, p2, p3, hin⟩ := hP.at (j := j) (by omega)
    obtain ⟨hq1, hq2⟩ := hq p (List.mem_of_getElem? hp)
    have hml := hin.mem.len
    have hil := hin.inv.len
    obtain ⟨A3, c3, rfl⟩ := hrow.shape
    refine m_skip ?_
    refine m_then ?_
    refine m_seq ?_
    refine m_block ?_
    refine d_region (fun w => St w [cB b3 [.int .i64 H.tick, .int .i64 H.last, .slice A3 j c3] 30, cB b2 [.int .i64 0, .int .i64 0, .slice none 0 0] 30, cB b1 [.int .i64 H.tick, .int .i64 H.last, .slice (some ⟨b, o, none⟩) n c] 24] [(0, w0)]) [1, 3, 6] [0, 1, 2, 3, 4, 5, 6, 10] _ _ hS rfl 12 [false, false, false, false, false, false, false, false, false, false, false, false] rfl rfl ?_
    clear hS; intro w hS _
    have hQ : St w [cB b3 [.int .i64 H.tick, .int .i64 H.last, .slice A3 j c3] 30, cB b2 [.int .i64 0, .int .i64 0, .slice none 0 0] 30, cB b1 [.int .i64 H.tick, .int .i64 H.last, .slice (some ⟨b, o, none⟩) n c] 24] [(0, w0)] := hS.sub (List.sublist_append_left _ _)
    refine d_take 0 (bs' := [true, false, false, false, false, false, false, false, false, false, false, false]) hA rfl rfl (by kernel_rfl) (fun _ _ _ h => h) (Y.fieldAddr (k := 2) rfl Tryz.underlying30 rfl rfl Tryz.sizeOf28) rfl ?_
    clear hA a; intro a hA
    refine d_load 1 (bs' := [true, true, false, false, false, false, false, false, false, false, false, false]) hA hQ rfl rfl rfl (by kernel_rfl) (fun _ _ _ h => h) (Y.load rfl Tryz.isAgg28 (fun w h => h.cell (i := 0) rfl rfl)) rfl ?_
    clear hA a; intro a hA
    refine d_take 2 (bs' := [true, true, true, false, false, false, false, false, false, false, false, false]) hA rfl rfl (by kernel_rfl) (fun _ _ _ h => h) (Y.fieldAddr (k := 2) rfl Tryz.underlying24 rfl rfl Tryz.sizeOf22) rfl ?_
    clear hA a; intro a hA
    refine d_load 3 (bs' := [true, true, true, true, false, false, false, false, false, false, false, false]) hA hQ rfl rfl rfl (by kernel_rfl) (fun _ _ _ h => h) (Y.load rfl Tryz.isAgg22 (fun w h => h.cell (i := 2) rfl rfl)) rfl ?_
    clear hA a; intro a hA
    refine d_take 4 (bs' := [true, true, true, true, true, false, false, false, false, false, false, false]) hA rfl rfl (by kernel_rfl) (fun _ _ _ h => h) (Y.move rfl) rfl ?_
    clear hA a; intro a hA
    refine d_take 5 (bs' := [true, true, true, true, true, true, false, false, false, false, false, false]) hA rfl rfl (by kernel_rfl) (fun _ _ _ h => h) (Y.indexAddrN rfl rfl Tryz.underlying22 Tryz.sizeOf46 (by omega)) rfl ?_
    clear hA a; intro a hA
    refine d_load 6 (bs' := [true, true, true, true, true, true, true, false, false, false, false, false]) hA hQ rfl rfl rfl (by kernel_rfl) (fun _ _ _ h => h) (Y.loads rfl Tryz.isAgg46 Tryz.sizeOf46 (fun w h => h.rds (by simp) (Nat.zero_le _) (Cs.four p0 p1 p2 p3)) rfl) rfl ?_
    clear hA a; intro a hA
    refine d_one 7 (bs' := [true, true, true, true, true, true, true, true, false, false, false, false]) true rfl (by kernel_rfl) ?_
    refine m_call hA Tryz.call22 rfl rfl ((givenParty_c p _ _ _ _ _ _ _ (hin.gr (hS.gr0 (by simp))) (by omega) (by omega)).mono ?_)
    rintro e w ⟨c', bs', rfl, hc', hg1, hf1⟩
    refine ⟨_, rfl, ?_⟩
    clear hA a; intro a hA
    replace hS := hS.freshR hg1 hf1
    replace hQ := hQ.gr hg1
    have hc2 := hc'
    obtain ⟨mv, iv, bm, bi, rfl, hmv, hiv, rfl, _, _⟩ := hc2
    refine m_nil (m_then ⟨fun _ => hQ, ?_⟩)
    refine d_one 8 (bs' := [true, true, true, true, true, true, true, true, true, false, false, false]) true rfl (by kernel_rfl) ?_
    refine m_buildSlice ([.int .i64 p.id, .int .i64 p.leader, mv, iv]) hA hS rfl rfl (bs_ptyR _ _ _ _) ?_
    clear hA hS a; intro a b4 w hA hgb4 hS
    replace hQ := hQ.gr hgb4
    refine m_nil (m_then ⟨fun _ => hQ, ?_⟩)
    refine d_one 9 (bs' := [true, true, true, true, true, true, true, true, true, true, false, false]) true rfl (by kernel_rfl) ?_
    have hSp : St w (br ++ ([cB b4 [.int .i64 p.id, .int .i64 p.leader, mv, iv] 43, cB b3 [.int .i64 H.tick, .int .i64 H.last, .slice A3 j c3] 30, cB b2 [.int .i64 0, .int .i64 0, .slice none 0 0] 30, cB b1 [.int .i64 H.tick, .int .i64 H.last, .slice (some ⟨b, o, none⟩) n c] 24] ++ (bp ++ (bm ++ bi)))) [(0, w0)] := hS.perm (List.perm_iff_count.2 fun a => by simp only [List.count_append, List.count_cons, List.count_nil]; omega)
    refine m_append (bs := br) 43 64 [.int .i64 p.id, .int .i64 p.leader, mv, iv] elemPR hA hSp hrow rfl rfl rfl Tryz.underlying28 rfl (hS.cells (i := 0) rfl) ?_ (by omega) (by decide) ?_
    · obtain ⟨A5, c5, rfl⟩ := hmv.shape
      obtain ⟨A6, c6, rfl⟩ := hiv.shape
      exact List.all_eq_true.1 rfl
    clear hA hS hSp a; intro a w v' br' hA hrow' hnv hS
    obtain ⟨A4, c4, rfl⟩ := hrow'.shape
    replace hS : St w ([cB b3 [.int .i64 H.tick, .int .i64 H.last, .slice A3 j c3] 30, cB b4 [.int .i64 p.id, .int .i64 p.leader, mv, iv] 43, cB b2 [.int .i64 0, .int .i64 0, .slice none 0 0] 30, cB b1 [.int .i64 H.tick, .int .i64 H.last, .slice (some ⟨b, o, none⟩) n c] 24] ++ (br' ++ (bp ++ (bm ++ bi)))) [(0, w0)] := hS.perm (List.perm_iff_count.2 fun a => by simp only [List.count_append, List.count_cons, List.count_nil]; omega)
    replace hQ : St w [cB b3 [.int .i64 H.tick, .int .i64 H.last, .slice A3 j c3] 30, cB b2 [.int .i64 0, .int .i64 0, .slice none 0 0] 30, cB b1 [.int .i64 H.tick, .int .i64 H.last, .slice (some ⟨b, o, none⟩) n c] 24] [(0, w0)] := hS.sub (.cons_cons _ (.cons _ (List.sublist_append_left [_, _] _)))
    refine m_nil (m_then ⟨fun _ => hQ, ?_⟩)
    refine d_take 10 (bs' := [true, true, true, true, true, true, true, true, true, true, true, false]) hA rfl rfl (by kernel_rfl) (fun _ _ _ h => h) (Y.fieldAddr (k := 2) rfl Tryz.underlying30 rfl rfl Tryz.sizeOf28) rfl ?_
    clear hA a; intro a hA
    refine d_one 11 (bs' := [true, true, true, true, true, true, true, true, true, true, true, true]) false rfl (by kernel_rfl) ?_
    refine m_store 0 hA hS rfl rfl Tryz.sizeOf28 rfl rfl rfl rfl ?_
    clear hS; intro w hS
    refine m_nil (m_then ⟨fun h => (by cases h), ?_⟩)
    refine d_done (by kernel_rfl) ?_
    refine n_block ?_
    refine m_then ?_
    refine m_region ?_
    refine m1 hA hS (Y.move rfl) rfl ?_
    clear hA a; intro a hA
    refine m1 hA hS (Y.addI rfl rfl (by omega)) rfl ?_
    clear hA a; intro a hA
    refine m1 hA hS (Y.assign rfl) rfl ?_
    clear hA a; intro a hA
    refine m_nil ?_
    replace hS := hS.sub (.cons_cons _ (.cons _ (List.Sublist.refl _)))
    have hps2 : PtysT 40 (cs ++ [.int .i64 p.id, .int .i64 p.leader, mv, iv]) (H.ps.take (j + 1)) (bp ++ (bm ++ bi)) := by
      rw [take_at hp]
      exact hps.snoc hc'
    exact m_then ⟨(j + 1, .slice A4 (j + 1) c4, cs ++ [.int .i64 p.id, .int .i64 p.leader, mv, iv], br', bp ++ (bm ++ bi)), by (try dsimp only); omega, hA.keep [4, 3, 2, 1] rfl, hS, by (try dsimp only); exact ⟨by omega, hrow', hps2⟩⟩
  · have hjn : j = H.ps.length := by omega
    subst hjn
    rw [List.take_length] at hps
    obtain ⟨A3, c3, rfl⟩ := hrow.shape
    refine m_exit ?_
    refine x_then ?_
    refine x_then ?_
    refine x_block ?_
    refine m_then ?_
    refine m_seq ?_
    refine m_region ?_
    refine m1 hA hS (Y.loads rfl Tryz.isAgg30 Tryz.sizeOf30 (fun w h => h.cells (i := 0) rfl) rfl) rfl ?_
    clear hA a; intro a hA
    refine m_store 1 hA hS rfl rfl Tryz.sizeOf30 rfl rfl rfl rfl ?_
    clear hS; intro w hS
    refine m_nil ?_
    refine m_then ?_
    refine m_retc ?_
    refine m_retc1 1 hA hS Tryz.results7 rfl rfl Tryz.isAgg30 Tryz.sizeOf30 ?_
    exact ⟨_, br ++ bp, rfl, ⟨cs, br, bp, hrow, hps, rfl, by omega⟩, hS.gr0 (by simp), St.outR (X := [_, _, _]) hS (by simp)⟩

set_option maxRecDepth 100000 in
set_option maxHeartbeats 1000000 in
theorem takenParty_c (p : Pty) (M : Option Addr) (m mc : Nat) (I : Option Addr) (i ic : Nat) (w0 : World) (h : PtyIn w0 M m I i p) (hm : m ≤ 100) (hi : i ≤ 100) :
    Calls Tryz.prog 36 #[.agg #[.int .i64 p.id, .int .i64 p.leader, .slice M m mc, .slice I i ic]] w0 fun e w' => ∃ c bs, e = .returned (.agg c.toArray) ∧ PtyT 61 c p bs ∧ Gr w0 w' ∧ Fresh w0.heap.size w' bs := by
  have hml := h.mem.len
  have hil := h.inv.len
  refine m_enter Tryz.func36 rfl Tryz.ntmps36 (Nat.le_of_ble_eq_true rfl) ?_
  intro a hA
  have hS := St.start w0
  refine m_seq ?_
  refine m_region ?_
  refine m_box hA hS rfl rfl ?_
  clear hA hS a; intro a b1 w hA hleb1 hgb1 hS
  refine m_alloc hA hS Tryz.zeroValue46 rfl ?_
  clear hA hS a; intro a b2 w hA hleb2 hgb2 hS
  refine m_nil ?_
  refine m_then ?_
  refine m_seq ?_
  refine m_cut (fun a w => ∃ bn v bm, Fits a 39 [(3, .pointer (some ⟨bn, 0, none⟩)), (2, .pointer (some ⟨b2, 0, none⟩)), (1, .pointer (some ⟨b1, 0, none⟩))] ∧ IntsB v p.mem bm ∧ St w ([cB bn [.int .i64 p.id, .int .i64 p.leader, v, .slice none 0 0] 46, cB b2 [.int .i64 0, .int .i64 0, .slice none 0 0, .slice none 0 0] 46, cB b1 [.int .i64 p.id, .int .i64 p.leader, .slice M m mc, .slice I i ic] 43] ++ bm) [(0, w0)]) ?_ ?_
  · refine d_regionS [1, 3, 5] [0, 1, 2, 3, 4, 5, 7] hS rfl 10 [false, false, false, false, false, false, false, false, false, false] rfl rfl ?_
    clear hS; intro w hS _
    have hQ := hS
    refine d_take 0 (bs' := [true, false, false, false, false, false, false, false, false, false]) hA rfl rfl (by kernel_rfl) (fun _ _ _ h => h) (Y.fieldAddr (k := 0) rfl Tryz.underlying43 rfl rfl Tryz.sizeOf3) rfl ?_
    clear hA a; intro a hA
    refine d_load 1 (bs' := [true, true, false, false, false, false, false, false, false, false]) hA hQ rfl rfl rfl (by kernel_rfl) (fun _ _ _ h => h) (Y.load rfl Tryz.isAgg3 (fun w h => h.cell (i := 1) rfl rfl)) rfl ?_
    clear hA a; intro a hA
    refine d_take 2 (bs' := [true, true, true, false, false, false, false, false, false, false]) hA rfl rfl (by kernel_rfl) (fun _ _ _ h => h) (Y.fieldAddr (k := 1) rfl Tryz.underlying43 rfl rfl Tryz.sizeOf3) rfl ?_
    clear hA a; intro a hA
    refine d_load 3 (bs' := [true, true, true, true, false, false, false, false, false, false]) hA hQ rfl rfl rfl (by kernel_rfl) (fun _ _ _ h => h) (Y.load rfl Tryz.isAgg3 (fun w h => h.cell (i := 1) rfl rfl)) rfl ?_
    clear hA a; intro a hA
    refine d_take 4 (bs' := [true, true, true, true, true, false, false, false, false, false]) hA rfl rfl (by kernel_rfl) (fun _ _ _ h => h) (Y.fieldAddr (k := 2) rfl Tryz.underlying43 rfl rfl Tryz.sizeOf38) rfl ?_
    clear hA a; intro a hA
    refine d_load 5 (bs' := [true, true, true, true, true, true, false, false, false, false]) hA hQ rfl rfl rfl (by kernel_rfl) (fun _ _ _ h => h) (Y.load rfl Tryz.isAgg38 (fun w h => h.cell (i := 1) rfl rfl)) rfl ?_
    clear hA a; intro a hA
    refine d_two 6 8 (bi := [true, true, true, true, true, true, true, false, false, false]) (bj := [true, true, true, true, true, true, false, false, true, false]) true true rfl rfl (by kernel_rfl) ?_ ?_
    · refine m_call hA Tryz.call62 rfl rfl ((copyInts_c _ _ _ p.mem _ (h.mem.gr (hS.gr0 (by simp))) hm).mono ?_)
      rintro e w ⟨v, bm, rfl, hv, hg1, hf1⟩
      refine ⟨_, rfl, ?_⟩
      clear hA a; intro a hA
      replace hS := hS.freshR hg1 hf1
      replace hQ := hQ.gr hg1
      obtain ⟨A1, c1, rfl⟩ := hv.shape
      refine m_nil (m_then ⟨fun _ => hQ, ?_⟩)
      refine d_take 7 (bs' := [true, true, true, true, true, true, true, true, false, false]) hA rfl rfl (by kernel_rfl) (fun _ _ _ h => h) (Y.build rfl (cs := [.int .i64 p.id, .int .i64 p.leader, .slice A1 p.mem.length c1, .slice none 0 0]) (by kernel_rfl)) rfl ?_
      clear hA a; intro a hA
      refine d_one 8 (bs' := [true, true, true, true, true, true, true, true, true, false]) true rfl (by kernel_rfl) ?_
      refine m_alloc hA hS Tryz.zeroValue46 rfl ?_
      clear hA hS a; intro a b3 w hA hleb3 hgb3 hS
      replace hQ := hQ.gr hgb3
      refine m_nil (m_then ⟨fun _ => hQ, ?_⟩)
      refine d_one 9 (bs' := [true, true, true, true, true, true, true, true, true, true]) false rfl (by kernel_rfl) ?_
      refine m_store 0 hA hS rfl rfl Tryz.sizeOf46 rfl rfl rfl rfl ?_
      clear hS; intro w hS
      refine m_nil (m_then ⟨fun h => (by cases h), ?_⟩)
      refine d_done (by kernel_rfl) ?_
      refine m_then ?_
      exact ⟨_, _, bm, hA.keep [3, 2, 1] rfl, hv, hS⟩
    · refine m_alloc hA hS Tryz.zeroValue46 rfl ?_
      clear hA hS a; intro a b4 w hA hleb4 hgb4 hS
      replace hQ := hQ.gr hgb4
      refine m_nil (m_then ⟨fun _ => hQ, ?_⟩)
      refine d_one 6 (bs' := [true, true, true, true, true, true, true, false, true, false]) true rfl (by kernel_rfl) ?_
      refine m_call hA Tryz.call62 rfl rfl ((copyInts_c _ _ _ p.mem _ (h.mem.gr (hS.gr0 (by simp))) hm).mono ?_)
      rintro e w ⟨v, bm, rfl, hv, hg1, hf1⟩
      refine ⟨_, rfl, ?_⟩
      clear hA a; intro a hA
      replace hS := hS.freshR hg1 hf1
      replace hQ := hQ.gr hg1
      obtain ⟨A1, c1, rfl⟩ := hv.shape
      refine m_nil (m_then ⟨fun _ => hQ, ?_⟩)
      refine d_take 7 (bs' := [true, true, true, true, true, true, true, true, true, false]) hA rfl rfl (by kernel_rfl) (fun _ _ _ h => h) (Y.build rfl (cs := [.int .i64 p.id, .int .i64 p.leader, .slice A1 p.mem.length c1, .slice none 0 0]) (by kernel_rfl)) rfl ?_
      clear hA a; intro a hA
      refine d_one 9 (bs' := [true, true, true, true, true, true, true, true, true, true]) false rfl (by kernel_rfl) ?_
      refine m_store 0 hA hS rfl rfl Tryz.sizeOf46 rfl rfl rfl rfl ?_
      clear hS; intro w hS
      refine m_nil (m_then ⟨fun h => (by cases h), ?_⟩)
      refine d_done (by kernel_rfl) ?_
      refine m_then ?_
      exact ⟨_, _, bm, hA.keep [3, 2, 1] rfl, hv, hS⟩
  · clear hA hS a; rintro a w ⟨bn, v, bm, hA, hv, hS⟩
    rw [← List.append_nil bm] at hS
    refine m_seq ?_
    refine m_seq ?_
    refine m_region ?_
    refine m1 hA hS (Y.assign rfl) rfl ?_
    clear hA a; intro a hA
    refine m_nil ?_
    refine m_then ?_
    refine m_block ?_
    refine m_loopX [3, 2, 1] rfl hA (((0 : Nat), Value.slice none 0 0, ([] : List Bx))) (fun x => [(4, .int .i64 (x.1 : Int))]) (fun x => [cB bn [.int .i64 p.id, .int .i64 p.leader, v, x.2.1] 46, cB b2 [.int .i64 0, .int .i64 0, .slice none 0 0, .slice none 0 0] 46, cB b1 [.int .i64 p.id, .int .i64 p.leader, .slice M m mc, .slice I i ic] 43] ++ (bm ++ x.2.2)) (fun _ => _) (fun x => x.1 ≤ i ∧ RowB 61 2 x.2.1 x.1 ((p.inv.take x.1).flatMap cInv) x.2.2) (fun x => i - x.1) (ks := [4]) rfl hS (⟨Nat.zero_le _, RowB.nil _ _⟩) ?_
    clear hA hS a; rintro ⟨j, iv, bi⟩ a w hA hS hj
    try dsimp only at hA
    try dsimp only at hS
    try dsimp only at hj
    obtain ⟨hj, hrow⟩ := hj
    replace hA := hA.keep [4, 3, 2, 1] rfl
    refine m_seq ?_
    refine m_seq ?_
    refine m_region ?_
    refine m1 hA hS (Y.move rfl) rfl ?_
    clear hA a; intro a hA
    refine m1 hA hS (Y.fieldAddr (k := 3) rfl Tryz.underlying43 rfl rfl Tryz.sizeOf41) rfl ?_
    clear hA a; intro a hA
    refine m1 hA hS (Y.load rfl Tryz.isAgg41 (fun w h => h.cell (i := 2) rfl rfl)) rfl ?_
    clear hA a; intro a hA
    refine m1 hA hS (Y.lenSl rfl Tryz.underlying41) rfl ?_
    clear hA a; intro a hA
    refine m1 hA hS (Y.ltI rfl rfl) rfl ?_
    clear hA a; intro a hA
    refine m_nil ?_
    refine m_then ?_
    refine m_condP hA rfl (fun hlt => ?_) (fun hlt => ?_)
    · obtain ⟨b, o, x, rfl, hx, x0, x1⟩ := h.inv.at (j := j) (by omega)
      obtain ⟨A3, c3, rfl⟩ := hrow.shape
      refine m_skip ?_
      refine m_then ?_
      refine m_seq ?_
      refine m_block ?_
      refine d_region (fun w => St w [cB bn [.int .i64 p.id, .int .i64 p.leader, v, .slice A3 j c3] 46, cB b2 [.int .i64 0, .int .i64 0, .slice none 0 0, .slice none 0 0] 46, cB b1 [.int .i64 p.id, .int .i64 p.leader, .slice M m mc, .slice (some ⟨b, o, none⟩) i ic] 43] [(0, w0)]) [1, 3, 7, 9, 13] [0, 1, 2, 3, 4, 5, 6, 7, 8, 9, 10, 11, 12, 13, 14, 17] _ _ hS rfl 19 [false, false, false, false, false, false, false, false, false, false, false, false, false, false, false, false, false, false, false] rfl rfl ?_
      clear hS; intro w hS _
      have hQ : St w [cB bn [.int .i64 p.id, .int .i64 p.leader, v, .slice A3 j c3] 46, cB b2 [.int .i64 0, .int .i64 0, .slice none 0 0, .slice none 0 0] 46, cB b1 [.int .i64 p.id, .int .i64 p.leader, .slice M m mc, .slice (some ⟨b, o, none⟩) i ic] 43] [(0, w0)] := hS.sub (List.sublist_append_left _ _)
      refine d_take 0 (bs' := [true, false, false, false, false, false, false, false, false, false, false, false, false, false, false, false, false, false, false]) hA rfl rfl (by kernel_rfl) (fun _ _ _ h => h) (Y.fieldAddr (k := 3) rfl Tryz.underlying46 rfl rfl Tryz.sizeOf44) rfl ?_
      clear hA a; intro a hA
      refine d_load 1 (bs' := [true, true, false, false, false, false, false, false, false, false, false, false, false, false, false, false, false, false, false]) hA hQ rfl rfl rfl (by kernel_rfl) (fun _ _ _ h => h) (Y.load rfl Tryz.isAgg44 (fun w h => h.cell (i := 0) rfl rfl)) rfl ?_
      clear hA a; intro a hA
      refine d_take 2 (bs' := [true, true, true, false, false, false, false, false, false, false, false, false, false, false, false, false, false, false, false]) hA rfl rfl (by kernel_rfl) (fun _ _ _ h => h) (Y.fieldAddr (k := 3) rfl Tryz.underlying43 rfl rfl Tryz.sizeOf41) rfl ?_
      clear hA a; intro a hA
      refine d_load 3 (bs' := [true, true, true, true, false, false, false, false, false, false, false, false, false, false, false, false, false, false, false]) hA hQ rfl rfl rfl (by kernel_rfl) (fun _ _ _ h => h) (Y.load rfl Tryz.isAgg41 (fun w h => h.cell (i := 2) rfl rfl)) rfl ?_
      clear hA a; intro a hA
      refine d_take 4 (bs' := [true, true, true, true, true, false, false, false, false, false, false, false, false, false, false, false, false, false, false]) hA rfl rfl (by kernel_rfl) (fun _ _ _ h => h) (Y.move rfl) rfl ?_
      clear hA a; intro a hA
      refine d_take 5 (bs' := [true, true, true, true, true, true, false, false, false, false, false, false, false, false, false, false, false, false, false]) hA rfl rfl (by kernel_rfl) (fun _ _ _ h => h) (Y.indexAddrN rfl rfl Tryz.underlying41 Tryz.sizeOf40 (by omega)) rfl ?_
      clear hA a; intro a hA
      refine d_take 6 (bs' := [true, true, true, true, true, true, true, false, false, false, false, false, false, false, false, false, false, false, false]) hA rfl rfl (by kernel_rfl) (fun _ _ _ h => h) (Y.fieldAddr (k := 0) rfl Tryz.underlying40 rfl rfl Tryz.sizeOf3) rfl ?_
      clear hA a; intro a hA
      refine d_load 7 (bs' := [true, true, true, true, true, true, true, true, false, false, false, false, false, false, false, false, false, false, false]) hA hQ rfl rfl rfl (by kernel_rfl) (fun _ _ _ h => h) (Y.load rfl Tryz.isAgg3 (fun w h => h.rd (by simp) (Nat.zero_le _) (x0))) rfl ?_
      clear hA a; intro a hA
      refine d_take 8 (bs' := [true, true, true, true, true, true, true, true, true, false, false, false, false, false, false, false, false, false, false]) hA rfl rfl (by kernel_rfl) (fun _ _ _ h => h) (Y.fieldAddr (k := 3) rfl Tryz.underlying43 rfl rfl Tryz.sizeOf41) rfl ?_
      clear hA a; intro a hA
      refine d_load 9 (bs' := [true, true, true, true, true, true, true, true, true, true, false, false, false, false, false, false, false, false, false]) hA hQ rfl rfl rfl (by kernel_rfl) (fun _ _ _ h => h) (Y.load rfl Tryz.isAgg41 (fun w h => h.cell (i := 2) rfl rfl)) rfl ?_
      clear hA a; intro a hA
      refine d_take 10 (bs' := [true, true, true, true, true, true, true, true, true, true, true, false, false, false, false, false, false, false, false]) hA rfl rfl (by kernel_rfl) (fun _ _ _ h => h) (Y.move rfl) rfl ?_
      clear hA a; intro a hA
      refine d_take 11 (bs' := [true, true, true, true, true, true, true, true, true, true, true, true, false, false, false, false, false, false, false]) hA rfl rfl (by kernel_rfl) (fun _ _ _ h => h) (Y.indexAddrN rfl rfl Tryz.underlying41 Tryz.sizeOf40 (by omega)) rfl ?_
      clear hA a; intro a hA
      refine d_take 12 (bs' := [true, true, true, true, true, true, true, true, true, true, true, true, true, false, false, false, false, false, false]) hA rfl rfl (by kernel_rfl) (fun _ _ _ h => h) (Y.fieldAddr (k := 1) rfl Tryz.underlying40 rfl rfl Tryz.sizeOf3) rfl ?_
      clear hA a; intro a hA
      refine d_load 13 (bs' := [true, true, true, true, true, true, true, true, true, true, true, true, true, true, false, false, false, false, false]) hA hQ rfl rfl rfl (by kernel_rfl) (fun _ _ _ h => h) (Y.load rfl Tryz.isAgg3 (fun w h => h.rd (by simp) (Nat.zero_le _) (x1))) rfl ?_
      clear hA a; intro a hA
      refine d_take 14 (bs' := [true, true, true, true, true, true, true, true, true, true, true, true, true, true, true, false, false, false, false]) hA rfl rfl (by kernel_rfl) (fun _ _ _ h => h) (Y.build rfl (cs := [.int .i64 x.who, .int .i64 x.til]) (by kernel_rfl)) rfl ?_
      clear hA a; intro a hA
      refine d_one 15 (bs' := [true, true, true, true, true, true, true, true, true, true, true, true, true, true, true, true, false, false, false]) true rfl (by kernel_rfl) ?_
      refine m_buildSlice ([.int .i64 x.who, .int .i64 x.til]) hA hS rfl rfl (bs_inv _ _) ?_
      clear hA hS a; intro a b5 w hA hgb5 hS
      replace hQ := hQ.gr hgb5
      refine m_nil (m_then ⟨fun _ => hQ, ?_⟩)
      refine d_one 16 (bs' := [true, true, true, true, true, true, true, true, true, true, true, true, true, true, true, true, true, false, false]) true rfl (by kernel_rfl) ?_
      have hSp : St w (bi ++ ([cB b5 [.int .i64 x.who, .int .i64 x.til] 61, cB bn [.int .i64 p.id, .int .i64 p.leader, v, .slice A3 j c3] 46, cB b2 [.int .i64 0, .int .i64 0, .slice none 0 0, .slice none 0 0] 46, cB b1 [.int .i64 p.id, .int .i64 p.leader, .slice M m mc, .slice (some ⟨b, o, none⟩) i ic] 43] ++ bm)) [(0, w0)] := hS.perm (List.perm_iff_count.2 fun a => by simp only [List.count_append, List.count_cons, List.count_nil]; omega)
      refine m_append (bs := bi) 61 16 [.int .i64 x.who, .int .i64 x.til] elemInv hA hSp hrow rfl rfl rfl Tryz.underlying44 rfl (hS.cells (i := 0) rfl) (List.all_eq_true.1 rfl) (by omega) (by decide) ?_
      clear hA hS hSp a; intro a w v' bi' hA hrow' hnv hS
      obtain ⟨A4, c4, rfl⟩ := hrow'.shape
      replace hS : St w ([cB bn [.int .i64 p.id, .int .i64 p.leader, v, .slice A3 j c3] 46, cB b5 [.int .i64 x.who, .int .i64 x.til] 61, cB b2 [.int .i64 0, .int .i64 0, .slice none 0 0, .slice none 0 0] 46, cB b1 [.int .i64 p.id, .int .i64 p.leader, .slice M m mc, .slice (some ⟨b, o, none⟩) i ic] 43] ++ (bm ++ bi')) [(0, w0)] := hS.perm (List.perm_iff_count.2 fun a => by simp only [List.count_append, List.count_cons, List.count_nil]; omega)
      replace hQ : St w [cB bn [.int .i64 p.id, .int .i64 p.leader, v, .slice A3 j c3] 46, cB b2 [.int .i64 0, .int .i64 0, .slice none 0 0, .slice none 0 0] 46, cB b1 [.int .i64 p.id, .int .i64 p.leader, .slice M m mc, .slice (some ⟨b, o, none⟩) i ic] 43] [(0, w0)] := hS.sub (.cons_cons _ (.cons _ (List.sublist_append_left [_, _] _)))
      refine m_nil (m_then ⟨fun _ => hQ, ?_⟩)
      refine d_take 17 (bs' := [true, true, true, true, true, true, true, true, true, true, true, true, true, true, true, true, true, true, false]) hA rfl rfl (by kernel_rfl) (fun _ _ _ h => h) (Y.fieldAddr (k := 3) rfl Tryz.underlying46 rfl rfl Tryz.sizeOf44) rfl ?_
      clear hA a; intro a hA
      refine d_one 18 (bs' := [true, true, true, true, true, true, true, true, true, true, true, true, true, true, true, true, true, true, true]) false rfl (by kernel_rfl) ?_
      refine m_store 0 hA hS rfl rfl Tryz.sizeOf44 rfl rfl rfl rfl ?_
      clear hS; intro w hS
      refine m_nil (m_then ⟨fun h => (by cases h), ?_⟩)
      refine d_done (by kernel_rfl) ?_
      refine n_block ?_
      refine m_then ?_
      refine m_region ?_
      refine m1 hA hS (Y.move rfl) rfl ?_
      clear hA a; intro a hA
      refine m1 hA hS (Y.addI rfl rfl (by omega)) rfl ?_
      clear hA a; intro a hA
      refine m1 hA hS (Y.assign rfl) rfl ?_
      clear hA a; intro a hA
      refine m_nil ?_
      replace hS := hS.sub (.cons_cons _ (.cons _ (List.Sublist.refl _)))
      have hrow2 : RowB 61 2 (.slice A4 (j + 1) c4) (j + 1) ((p.inv.take (j + 1)).flatMap cInv) bi' := by
        rw [take_at hx, List.flatMap_append]
        simpa [cInv] using hrow'
      exact m_then ⟨(j + 1, .slice A4 (j + 1) c4, bi'), by (try dsimp only); omega, hA.keep [4, 3, 2, 1] rfl, hS, by (try dsimp only); exact ⟨by omega, hrow2⟩⟩
    · have hji : j = p.inv.length := by omega
      subst hji
      rw [List.take_length] at hrow
      obtain ⟨A3, c3, rfl⟩ := hrow.shape
      obtain ⟨A1, c1, rfl⟩ := hv.shape
      refine m_exit ?_
      refine x_then ?_
      refine x_then ?_
      refine x_block ?_
      refine m_then ?_
      refine m_seq ?_
      refine m_region ?_
      refine m1 hA hS (Y.loads rfl Tryz.isAgg46 Tryz.sizeOf46 (fun w h => h.cells (i := 0) rfl) rfl) rfl ?_
      clear hA a; intro a hA
      refine m_store 1 hA hS rfl rfl Tryz.sizeOf46 rfl rfl rfl rfl ?_
      clear hS; intro w hS
      refine m_nil ?_
      refine m_then ?_
      refine m_retc ?_
      refine m_retc1 1 hA hS Tryz.results36 rfl rfl Tryz.isAgg46 Tryz.sizeOf46 ?_
      exact ⟨_, bm ++ bi, rfl, ⟨_, _, bm, bi, rfl, hv, hrow, rfl, by omega, by omega⟩, hS.gr0 (by simp), St.outR (X := [_, _, _]) hS (by simp)⟩

set_option maxRecDepth 100000 in
set_option maxHeartbeats 1000000 in
theorem taken_c (H : Hall) (A : Option Addr) (n c : Nat) (w0 : World) (hP : Ptys w0 A n H.ps) (hn : n ≤ 100) (hq : ∀ p ∈ H.ps, p.mem.length ≤ 100 ∧ p.inv.length ≤ 100) :
    Calls Tryz.prog 30 #[.agg #[.int .i64 H.tick, .int .i64 H.last, .slice A n c]] w0 fun e w' => ∃ pv bs, e = .returned (.agg #[.int .i64 H.tick, .int .i64 H.last, pv]) ∧ HallT 61 46 pv H.ps bs ∧ Gr w0 w' ∧ Fresh w0.heap.size w' bs := by
  have hl := hP.len
  refine m_enter Tryz.func30 rfl Tryz.ntmps30 (Nat.le_of_ble_eq_true rfl) ?_
  intro a hA
  have hS := St.start w0
  refine m_seq ?_
  refine m_region ?_
  refine m_box hA hS rfl rfl ?_
  clear hA hS a; intro a b1 w hA hleb1 hgb1 hS
  refine m_alloc hA hS Tryz.zeroValue24 rfl ?_
  clear hA hS a; intro a b2 w hA hleb2 hgb2 hS
  refine m_nil ?_
  refine m_then ?_
  refine m_seq ?_
  refine m_region ?_
  refine m1 hA hS (Y.fieldAddr (k := 0) rfl Tryz.underlying30 rfl rfl Tryz.sizeOf3) rfl ?_
  clear hA a; intro a hA
  refine m1 hA hS (Y.load rfl Tryz.isAgg3 (fun w h => h.cell (i := 1) rfl rfl)) rfl ?_
  clear hA a; intro a hA
  refine m1 hA hS (Y.fieldAddr (k := 1) rfl Tryz.underlying30 rfl rfl Tryz.sizeOf3) rfl ?_
  clear hA a; intro a hA
  refine m1 hA hS (Y.load rfl Tryz.isAgg3 (fun w h => h.cell (i := 1) rfl rfl)) rfl ?_
  clear hA a; intro a hA
  refine m1 hA hS (Y.build rfl (cs := [.int .i64 H.tick, .int .i64 H.last, .slice none 0 0]) (by kernel_rfl)) rfl ?_
  clear hA a; intro a hA
  refine m_alloc hA hS Tryz.zeroValue24 rfl ?_
  clear hA hS a; intro a b3 w hA hleb3 hgb3 hS
  refine m_store 0 hA hS rfl rfl Tryz.sizeOf24 rfl rfl rfl rfl ?_
  clear hS; intro w hS
  refine m_nil ?_
  refine m_then ?_
  refine m_seq ?_
  refine m_seq ?_
  refine m_region ?_
  refine m1 hA hS (Y.assign rfl) rfl ?_
  clear hA a; intro a hA
  refine m_nil ?_
  refine m_then ?_
  refine m_block ?_
  refine m_loopX [3, 2, 1] rfl hA (((0 : Nat), Value.slice none 0 0, ([] : List Value), ([] : List Bx), ([] : List Bx))) (fun x => [(4, .int .i64 (x.1 : Int))]) (fun x => [cB b3 [.int .i64 H.tick, .int .i64 H.last, x.2.1] 24, cB b2 [.int .i64 0, .int .i64 0, .slice none 0 0] 24, cB b1 [.int .i64 H.tick, .int .i64 H.last, .slice A n c] 30] ++ (x.2.2.2.1 ++ x.2.2.2.2)) (fun _ => _) (fun x => x.1 ≤ n ∧ RowB 46 4 x.2.1 x.1 x.2.2.1 x.2.2.2.1 ∧ PtysT 61 x.2.2.1 (H.ps.take x.1) x.2.2.2.2) (fun x => n - x.1) (ks := [4]) rfl hS (⟨Nat.zero_le _, RowB.nil _ _, rfl, rfl⟩) ?_
  clear hA hS a; rintro ⟨j, pv, cs, br, bp⟩ a w hA hS hj
  try dsimp only at hA
  try dsimp only at hS
  try dsimp only at hj
  obtain ⟨hj, hrow, hps⟩ := hj
  replace hA := hA.keep [4, 3, 2, 1] rfl
  refine m_seq ?_
  refine m_seq ?_
  refine m_region ?_
  refine m1 hA hS (Y.move rfl) rfl ?_
  clear hA a; intro a hA
  refine m1 hA hS (Y.fieldAddr (k := 2) rfl Tryz.underlying30 rfl rfl Tryz.sizeOf28) rfl ?_
  clear hA a; intro a hA
  refine m1 hA hS (Y.load rfl Tryz.isAgg28 (fun w h => h.cell (i := 2) rfl rfl)) rfl ?_
  clear hA a; intro a hA
  refine m1 hA hS (Y.lenSl rfl Tryz.underlying28) rfl ?_
  clear hA a; intro a hA
  refine m1 hA hS (Y.ltI rfl rfl) rfl ?_
  clear hA a; intro a hA
  refine m_nil ?_
  refine m_then ?_
  refine m_condP hA rfl (fun hlt => ?_) (fun hlt => ?_)
  · obtain ⟨b, o, p, M, m, mc, I, i, ic, rfl, hp, p0, p1, p2, p3, hin⟩ := hP.at (j := j) (by omega)
    obtain ⟨hq1, hq2⟩ := hq p (List.mem_of_getElem? hp)
    have hml := hin.mem.len
    have hil := hin.inv.len
    obtain ⟨A3, c3, rfl⟩ := hrow.shape
    refine m_skip ?_
    refine m_then ?_
    refine m_seq ?_
    refine m_block ?_
    refine d_region (fun w => St w [cB b3 [.int .i64 H.tick, .int .i64 H.last, .slice A3 j c3] 24, cB b2 [.int .i64 0, .int .i64 0, .slice none 0 0] 24, cB b1 [.int .i64 H.tick, .int .i64 H.last, .slice (some ⟨b, o, none⟩) n c] 30] [(0, w0)]) [1, 3, 6] [0, 1, 2, 3, 4, 5, 6, 10] _ _ hS rfl 12 [false, false, false, false, false, false, false, false, false, false, false, false] rfl rfl ?_
    clear hS; intro w hS _
    have hQ : St w [cB b3 [.int .i64 H.tick, .int .i64 H.last, .slice A3 j c3] 24, cB b2 [.int .i64 0, .int .i64 0, .slice none 0 0] 24, cB b1 [.int .i64 H.tick, .int .i64 H.last, .slice (some ⟨b, o, none⟩) n c] 30] [(0, w0)] := hS.sub (List.sublist_append_left _ _)
    refine d_take 0 (bs' := [true, false, false, false, false, false, false, false, false, false, false, false]) hA rfl rfl (by kernel_rfl) (fun _ _ _ h => h) (Y.fieldAddr (k := 2) rfl Tryz.underlying24 rfl rfl Tryz.sizeOf22) rfl ?_
    clear hA a; intro a hA
    refine d_load 1 (bs' := [true, true, false, false, false, false, false, false, false, false, false, false]) hA hQ rfl rfl rfl (by kernel_rfl) (fun _ _ _ h => h) (Y.load rfl Tryz.isAgg22 (fun w h => h.cell (i := 0) rfl rfl)) rfl ?_
    clear hA a; intro a hA
    refine d_take 2 (bs' := [true, true, true, false, false, false, false, false, false, false, false, false]) hA rfl rfl (by kernel_rfl) (fun _ _ _ h => h) (Y.fieldAddr (k := 2) rfl Tryz.underlying30 rfl rfl Tryz.sizeOf28) rfl ?_
    clear hA a; intro a hA
    refine d_load 3 (bs' := [true, true, true, true, false, false, false, false, false, false, false, false]) hA hQ rfl rfl rfl (by kernel_rfl) (fun _ _ _ h => h) (Y.load rfl Tryz.isAgg28 (fun w h => h.cell (i := 2) rfl rfl)) rfl ?_
    clear hA a; intro a hA
    refine d_take 4 (bs' := [true, true, true, true, true, false, false, false, false, false, false, false]) hA rfl rfl (by kernel_rfl) (fun _ _ _ h => h) (Y.move rfl) rfl ?_
    clear hA a; intro a hA
    refine d_take 5 (bs' := [true, true, true, true, true, true, false, false, false, false, false, false]) hA rfl rfl (by kernel_rfl) (fun _ _ _ h => h) (Y.indexAddrN rfl rfl Tryz.underlying28 Tryz.sizeOf43 (by omega)) rfl ?_
    clear hA a; intro a hA
    refine d_load 6 (bs' := [true, true, true, true, true, true, true, false, false, false, false, false]) hA hQ rfl rfl rfl (by kernel_rfl) (fun _ _ _ h => h) (Y.loads rfl Tryz.isAgg43 Tryz.sizeOf43 (fun w h => h.rds (by simp) (Nat.zero_le _) (Cs.four p0 p1 p2 p3)) rfl) rfl ?_
    clear hA a; intro a hA
    refine d_one 7 (bs' := [true, true, true, true, true, true, true, true, false, false, false, false]) true rfl (by kernel_rfl) ?_
    refine m_call hA Tryz.call36 rfl rfl ((takenParty_c p _ _ _ _ _ _ _ (hin.gr (hS.gr0 (by simp))) (by omega) (by omega)).mono ?_)
    rintro e w ⟨c', bs', rfl, hc', hg1, hf1⟩
    refine ⟨_, rfl, ?_⟩
    clear hA a; intro a hA
    replace hS := hS.freshR hg1 hf1
    replace hQ := hQ.gr hg1
    have hc2 := hc'
    obtain ⟨mv, iv, bm, bi, rfl, hmv, hiv, rfl, _, _⟩ := hc2
    refine m_nil (m_then ⟨fun _ => hQ, ?_⟩)
    refine d_one 8 (bs' := [true, true, true, true, true, true, true, true, true, false, false, false]) true rfl (by kernel_rfl) ?_
    refine m_buildSlice ([.int .i64 p.id, .int .i64 p.leader, mv, iv]) hA hS rfl rfl (bs_pty _ _ _ _) ?_
    clear hA hS a; intro a b4 w hA hgb4 hS
    replace hQ := hQ.gr hgb4
    refine m_nil (m_then ⟨fun _ => hQ, ?_⟩)
    refine d_one 9 (bs' := [true, true, true, true, true, true, true, true, true, true, false, false]) true rfl (by kernel_rfl) ?_
    have hSp : St w (br ++ ([cB b4 [.int .i64 p.id, .int .i64 p.leader, mv, iv] 46, cB b3 [.int .i64 H.tick, .int .i64 H.last, .slice A3 j c3] 24, cB b2 [.int .i64 0, .int .i64 0, .slice none 0 0] 24, cB b1 [.int .i64 H.tick, .int .i64 H.last, .slice (some ⟨b, o, none⟩) n c] 30] ++ (bp ++ (bm ++ bi)))) [(0, w0)] := hS.perm (List.perm_iff_count.2 fun a => by simp only [List.count_append, List.count_cons, List.count_nil]; omega)
    refine m_append (bs := br) 46 64 [.int .i64 p.id, .int .i64 p.leader, mv, iv] elemPty hA hSp hrow rfl rfl rfl Tryz.underlying22 rfl (hS.cells (i := 0) rfl) ?_ (by omega) (by decide) ?_
    · obtain ⟨A5, c5, rfl⟩ := hmv.shape
      obtain ⟨A6, c6, rfl⟩ := hiv.shape
      exact List.all_eq_true.1 rfl
    clear hA hS hSp a; intro a w v' br' hA hrow' hnv hS
    obtain ⟨A4, c4, rfl⟩ := hrow'.shape
    replace hS : St w ([cB b3 [.int .i64 H.tick, .int .i64 H.last, .slice A3 j c3] 24, cB b4 [.int .i64 p.id, .int .i64 p.leader, mv, iv] 46, cB b2 [.int .i64 0, .int .i64 0, .slice none 0 0] 24, cB b1 [.int .i64 H.tick, .int .i64 H.last, .slice (some ⟨b, o, none⟩) n c] 30] ++ (br' ++ (bp ++ (bm ++ bi)))) [(0, w0)] := hS.perm (List.perm_iff_count.2 fun a => by simp only [List.count_append, List.count_cons, List.count_nil]; omega)
    replace hQ : St w [cB b3 [.int .i64 H.tick, .int .i64 H.last, .slice A3 j c3] 24, cB b2 [.int .i64 0, .int .i64 0, .slice none 0 0] 24, cB b1 [.int .i64 H.tick, .int .i64 H.last, .slice (some ⟨b, o, none⟩) n c] 30] [(0, w0)] := hS.sub (.cons_cons _ (.cons _ (List.sublist_append_left [_, _] _)))
    refine m_nil (m_then ⟨fun _ => hQ, ?_⟩)
    refine d_take 10 (bs' := [true, true, true, true, true, true, true, true, true, true, true, false]) hA rfl rfl (by kernel_rfl) (fun _ _ _ h => h) (Y.fieldAddr (k := 2) rfl Tryz.underlying24 rfl rfl Tryz.sizeOf22) rfl ?_
    clear hA a; intro a hA
    refine d_one 11 (bs' := [true, true, true, true, true, true, true, true, true, true, true, true]) false rfl (by kernel_rfl) ?_
    refine m_store 0 hA hS rfl rfl Tryz.sizeOf22 rfl rfl rfl rfl ?_
    clear hS; intro w hS
    refine m_nil (m_then ⟨fun h => (by cases h), ?_⟩)
    refine d_done (by kernel_rfl) ?_
    refine n_block ?_
    refine m_then ?_
    refine m_region ?_
    refine m1 hA hS (Y.move rfl) rfl ?_
    clear hA a; intro a hA
    refine m1 hA hS (Y.addI rfl rfl (by omega)) rfl ?_
    clear hA a; intro a hA
    refine m1 hA hS (Y.assign rfl) rfl ?_
    clear hA a; intro a hA
    refine m_nil ?_
    replace hS := hS.sub (.cons_cons _ (.cons _ (List.Sublist.refl _)))
    have hps2 : PtysT 61 (cs ++ [.int .i64 p.id, .int .i64 p.leader, mv, iv]) (H.ps.take (j + 1)) (bp ++ (bm ++ bi)) := by
      rw [take_at hp]
      exact hps.snoc hc'
    exact m_then ⟨(j + 1, .slice A4 (j + 1) c4, cs ++ [.int .i64 p.id, .int .i64 p.leader, mv, iv], br', bp ++ (bm ++ bi)), by (try dsimp only); omega, hA.keep [4, 3, 2, 1] rfl, hS, by (try dsimp only); exact ⟨by omega, hrow', hps2⟩⟩
  · have hjn : j = H.ps.length := by omega
    subst hjn
    rw [List.take_length] at hps
    obtain ⟨A3, c3, rfl⟩ := hrow.shape
    refine m_exit ?_
    refine x_then ?_
    refine x_then ?_
    refine x_block ?_
    refine m_then ?_
    refine m_seq ?_
    refine m_region ?_
    refine m1 hA hS (Y.loads rfl Tryz.isAgg24 Tryz.sizeOf24 (fun w h => h.cells (i := 0) rfl) rfl) rfl ?_
    clear hA a; intro a hA
    refine m_store 1 hA hS rfl rfl Tryz.sizeOf24 rfl rfl rfl rfl ?_
    clear hS; intro w hS
    refine m_nil ?_
    refine m_then ?_
    refine m_retc ?_
    refine m_retc1 1 hA hS Tryz.results30 rfl rfl Tryz.isAgg24 Tryz.sizeOf24 ?_
    exact ⟨_, br ++ bp, rfl, ⟨cs, br, bp, hrow, hps, rfl, by omega⟩, hS.gr0 (by simp), St.outR (X := [_, _, _]) hS (by simp)⟩

end Go.Proofs.YtljkhijdaaconaaGreat