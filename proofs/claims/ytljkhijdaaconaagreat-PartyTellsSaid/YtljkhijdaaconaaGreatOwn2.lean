/- Contracts: a party, a hall in memory of its own. -/
import Derived.Test.YtljkhijdaaconaaGreatClone
set_option linter.unusedVariables false
namespace Go.Proofs.YtljkhijdaaconaaGreat
open Go.RowKit
set_option maxRecDepth 100000 in
theorem ptyOwn_c (p : Pty) (M : Option Addr) (m mc : Nat) (I : Option Addr) (i ic : Nat) (w : World) (h : PtyIn w M m I i p) (hm : m ≤ 100) (hi : i ≤ 100) :
    Calls Tryz.prog 50 #[.agg #[.int .i64 p.id, .int .i64 p.leader, .slice M m mc, .slice I i ic]] w fun e w' => ∃ c bs, e = .returned (.agg c.toArray) ∧ PtyB c p bs ∧ Gr w w' ∧ Fresh w.heap.size w' bs := by
  have hml := h.mem.len
  have hil := h.inv.len
  refine m_enter Tryz.func50 rfl Tryz.ntmps50 (Nat.le_of_ble_eq_true rfl) ?_
  intro a hA
  have hS := St.start w
  refine m_seq ?_
  refine m_region ?_
  refine m_box hA hS rfl rfl ?_
  clear hA hS a; intro a b1 w hA hleb1 hgb1 hS
  refine m_alloc hA hS Tryz.zeroValue46 rfl ?_
  clear hA hS a; intro a b2 w hA hleb2 hgb2 hS
  refine m_nil ?_
  refine m_then ?_
  refine m_seq ?_
  refine d_regionS [1, 4] [0, 1, 3, 4, 6, 8] hS rfl 10 [false, false, false, false, false, false, false, false, false, false] rfl rfl ?_
  clear hS; intro w hS _
  have hQ := hS
  refine d_take 0 (bs' := [true, false, false, false, false, false, false, false, false, false]) hA rfl rfl (by kernel_rfl) (fun _ _ _ h => h) (Y.fieldAddr (k := 2) rfl Tryz.underlying46 rfl rfl Tryz.sizeOf38) rfl ?_
  clear hA a; intro a hA
  refine d_load 1 (bs' := [true, true, false, false, false, false, false, false, false, false]) hA hQ rfl rfl rfl (by kernel_rfl) (fun _ _ _ h => h) (Y.load rfl Tryz.isAgg38 (fun w h => h.cell (i := 1) rfl rfl)) rfl ?_
  clear hA a; intro a hA
  refine d_take 3 (bs' := [true, true, false, true, false, false, false, false, false, false]) hA rfl rfl (by kernel_rfl) (fun _ _ _ h => h) (Y.fieldAddr (k := 3) rfl Tryz.underlying46 rfl rfl Tryz.sizeOf44) rfl ?_
  clear hA a; intro a hA
  refine d_load 4 (bs' := [true, true, false, true, true, false, false, false, false, false]) hA hQ rfl rfl rfl (by kernel_rfl) (fun _ _ _ h => h) (Y.load rfl Tryz.isAgg44 (fun w h => h.cell (i := 1) rfl rfl)) rfl ?_
  clear hA a; intro a hA
  refine d_one 2 (bs' := [true, true, true, true, true, false, false, false, false, false]) true rfl (by kernel_rfl) ?_
  refine m_call hA Tryz.call90 rfl rfl ((cloneInt_c _ _ _ p.mem _ (h.mem.gr (hS.gr0 (by simp))) hm).mono ?_)
  rintro e w ⟨v1, bm, rfl, h1, hg1, hf1⟩
  refine ⟨_, rfl, ?_⟩
  clear hA a; intro a hA
  replace hS := hS.freshR hg1 hf1
  replace hQ := hQ.gr hg1
  obtain ⟨A1, c1, rfl⟩ := h1.shape
  refine m_nil (m_then ⟨fun _ => hQ, ?_⟩)
  refine d_take 6 (bs' := [true, true, true, true, true, false, true, false, false, false]) hA rfl rfl (by kernel_rfl) (fun _ _ _ h => h) (Y.fieldAddr (k := 2) rfl Tryz.underlying46 rfl rfl Tryz.sizeOf38) rfl ?_
  clear hA a; intro a hA
  refine d_one 5 (bs' := [true, true, true, true, true, true, true, false, false, false]) true rfl (by kernel_rfl) ?_
  refine m_call hA Tryz.call91 rfl rfl ((cloneInv_c _ _ _ p.inv _ (h.inv.gr (hS.gr0 (by simp))) hi).mono ?_)
  rintro e w ⟨v2, bi, rfl, h2, hg2, hf2⟩
  refine ⟨_, rfl, ?_⟩
  clear hA a; intro a hA
  replace hS := hS.freshR hg2 hf2
  replace hQ := hQ.gr hg2
  obtain ⟨A2, c2, rfl⟩ := h2.shape
  refine m_nil (m_then ⟨fun _ => hQ, ?_⟩)
  refine d_one 7 (bs' := [true, true, true, true, true, true, true, true, false, false]) false rfl (by kernel_rfl) ?_
  refine m_store 1 hA hS rfl rfl Tryz.sizeOf38 rfl rfl rfl rfl ?_
  clear hS; intro w hS
  refine m_nil (m_then ⟨fun h => (by cases h), ?_⟩)
  refine d_take 8 (bs' := [true, true, true, true, true, true, true, true, true, false]) hA rfl rfl (by kernel_rfl) (fun _ _ _ h => h) (Y.fieldAddr (k := 3) rfl Tryz.underlying46 rfl rfl Tryz.sizeOf44) rfl ?_
  clear hA a; intro a hA
  refine d_one 9 (bs' := [true, true, true, true, true, true, true, true, true, true]) false rfl (by kernel_rfl) ?_
  refine m_store 1 hA hS rfl rfl Tryz.sizeOf44 rfl rfl rfl rfl ?_
  clear hS; intro w hS
  refine m_nil (m_then ⟨fun h => (by cases h), ?_⟩)
  refine d_done (by kernel_rfl) ?_
  refine m_then ?_
  refine m_seq ?_
  refine m_region ?_
  refine m1 hA hS (Y.loads rfl Tryz.isAgg46 Tryz.sizeOf46 (fun w h => h.cells (i := 1) rfl) rfl) rfl ?_
  clear hA a; intro a hA
  refine m_store 0 hA hS rfl rfl Tryz.sizeOf46 rfl rfl rfl rfl ?_
  clear hS; intro w hS
  refine m_nil ?_
  refine m_then ?_
  refine m_retc ?_
  refine m_retc1 0 hA hS Tryz.results50 rfl rfl Tryz.isAgg46 Tryz.sizeOf46 ?_
  refine ⟨_, bm ++ bi, rfl, ⟨_, _, bm, bi, rfl, h1, h2, rfl, by omega, by omega⟩, hS.gr0 (by simp), St.outR (X := [_, _]) hS (by simp)⟩
set_option maxRecDepth 100000 in
theorem hallOwn_c (H : Hall) (A : Option Addr) (n c : Nat) (w0 : World) (hP : Ptys w0 A n H.ps) (hn : n ≤ 100) (hq : ∀ p ∈ H.ps, p.mem.length ≤ 100 ∧ p.inv.length ≤ 100) :
    Calls Tryz.prog 92 #[.agg #[.int .i64 H.tick, .int .i64 H.last, .slice A n c]] w0 fun e w' => ∃ pv bs, e = .returned (.agg #[.int .i64 H.tick, .int .i64 H.last, pv]) ∧ HallB pv H.ps bs ∧ Gr w0 w' ∧ Fresh w0.heap.size w' bs := by
  have hl := hP.len
  refine m_enter Tryz.func92 rfl Tryz.ntmps92 (Nat.le_of_ble_eq_true rfl) ?_
  intro a hA
  have hS := St.start w0
  refine m_seq ?_
  refine m_region ?_
  refine m_box hA hS rfl rfl ?_
  clear hA hS a; intro a b1 w hA hleb1 hgb1 hS
  refine m_alloc hA hS Tryz.zeroValue24 rfl ?_
  clear hA hS a; intro a b2 w hA hleb2 hgb2 hS
  refine m_nil ?_
  refine m_then ?_
  refine m_seq ?_
  refine m_region ?_
  refine m1 hA hS (Y.fieldAddr (k := 2) rfl Tryz.underlying24 rfl rfl Tryz.sizeOf22) rfl ?_
  clear hA a; intro a hA
  refine m1 hA hS (Y.load rfl Tryz.isAgg22 (fun w h => h.cell (i := 1) rfl rfl)) rfl ?_
  clear hA a; intro a hA
  refine m_call hA Tryz.call109 rfl rfl ((clonePty_c _ _ _ H.ps _ _ (hS.gr0 (by simp)) hP hn).mono ?_)
  rintro e w ⟨v1, bp, cs, rfl, hR, hC, hg1, hf1⟩
  refine ⟨_, rfl, ?_⟩
  clear hA a; intro a hA
  replace hS := hS.freshR hg1 hf1
  obtain ⟨A1, c1, rfl⟩ := hR.shape
  refine m1 hA hS (Y.fieldAddr (k := 2) rfl Tryz.underlying24 rfl rfl Tryz.sizeOf22) rfl ?_
  clear hA a; intro a hA
  refine m_store 1 hA hS rfl rfl Tryz.sizeOf22 rfl rfl rfl rfl ?_
  clear hS; intro w hS
  refine m_nil ?_
  refine m_then ?_
  refine m_seq ?_
  refine m_seq ?_
  refine m_region ?_
  refine m1 hA hS (Y.fieldAddr (k := 2) rfl Tryz.underlying24 rfl rfl Tryz.sizeOf22) rfl ?_
  clear hA a; intro a hA
  refine m1 hA hS (Y.load rfl Tryz.isAgg22 (fun w h => h.cell (i := 1) rfl rfl)) rfl ?_
  clear hA a; intro a hA
  refine m1 hA hS (Y.lenSl rfl Tryz.underlying22) rfl ?_
  clear hA a; intro a hA
  refine m1 hA hS (Y.move rfl) rfl ?_
  clear hA a; intro a hA
  refine m_nil ?_
  refine m_then ?_
  refine m_block ?_
  obtain ⟨hRl, ⟨he, hn0, rfl⟩ | ⟨g, cap, cur, he, rfl, hcap, hmax, hcur, htake⟩⟩ := hR
  · cases he
    refine m_loopX [11, 10, 2, 1] rfl hA (()) (fun x => [(12, .int .i64 0)]) (fun _ => _) (fun _ => _) (fun _ => True) (fun x => 0) (ks := [12]) rfl hS (trivial) ?_
    clear hA hS a; rintro x a w hA hS hj
    try dsimp only at hA
    try dsimp only at hS
    try dsimp only at hj
    obtain _ := hj
    replace hA := hA.keep [12, 11, 10, 2, 1] rfl
    refine m_seq ?_
    refine m_region ?_
    refine m1 hA hS (Y.ltI rfl rfl) rfl ?_
    clear hA a; intro a hA
    refine m_nil ?_
    refine m_then ?_
    refine m_seq ?_
    refine m_condF hA rfl (rfl) ?_
    refine m_exit ?_
    refine x_then ?_
    refine x_then ?_
    refine x_block ?_
    refine m_then ?_
    refine m_seq ?_
    refine m_region ?_
    refine m1 hA hS (Y.loads rfl Tryz.isAgg24 Tryz.sizeOf24 (fun w h => h.cells (i := 1) rfl) rfl) rfl ?_
    clear hA a; intro a hA
    refine m_store 0 hA hS rfl rfl Tryz.sizeOf24 rfl rfl rfl rfl ?_
    clear hS; intro w hS
    refine m_nil ?_
    refine m_then ?_
    refine m_retc ?_
    refine m_retc1 0 hA hS Tryz.results92 rfl rfl Tryz.isAgg24 Tryz.sizeOf24 ?_
    have hps : H.ps = [] := List.eq_nil_of_length_eq_zero hl
    refine ⟨_, [], rfl, ⟨[], [], [], by rw [hps]; exact RowB.nil _ _, by rw [hps]; exact ⟨rfl, rfl⟩, rfl, by omega⟩, hS.gr0 (by simp), St.outR (X := [_, _]) hS (by simp)⟩
  · cases he
    obtain ⟨rest, rfl⟩ : ∃ rest, cur = cs ++ rest := ⟨cur.drop (n * 4), by rw [← htake, List.take_append_drop]⟩
    refine m_loopX [11, 10, 2, 1] rfl hA (((0 : Nat), ([] : List Value), cs, ([] : List Bx))) (fun x => [(12, .int .i64 (x.1 : Int))]) (fun x => [cB b2 [.int .i64 0, .int .i64 0, .slice none 0 0] 24, cB b1 [.int .i64 H.tick, .int .i64 H.last, .slice (some ⟨g, 0, none⟩) n c1] 24, cB g (x.2.1 ++ (x.2.2.1 ++ rest)) 46] ++ x.2.2.2) (fun _ => _) (fun x => x.1 ≤ n ∧ PtysB x.2.1 (H.ps.take x.1) x.2.2.2 ∧ PtysC 0 w0 x.2.2.1 (H.ps.drop x.1)) (fun x => n - x.1) (ks := [12]) rfl hS (⟨Nat.zero_le _, ⟨rfl, rfl⟩, hC⟩) ?_
    clear hA hS a; rintro ⟨k, co, cr, bs⟩ a w hA hS hj
    try dsimp only at hA
    try dsimp only at hS
    try dsimp only at hj
    obtain ⟨hk, hB, hCr⟩ := hj
    replace hA := hA.keep [12, 11, 10, 2, 1] rfl
    refine m_seq ?_
    refine m_region ?_
    refine m1 hA hS (Y.ltI rfl rfl) rfl ?_
    clear hA a; intro a hA
    refine m_nil ?_
    refine m_then ?_
    refine m_seq ?_
    refine m_condP hA rfl (fun hlt => ?_) (fun hlt => ?_)
    · have hkn : k < n := by omega
      obtain ⟨p, hp⟩ : ∃ p, H.ps[k]? = some p := ⟨_, List.getElem?_eq_getElem (by omega)⟩
      rw [drop_at hp] at hCr
      obtain ⟨M, m, mc, I, i, ic, cr', rfl, hin, hCr'⟩ := hCr
      have hco : co.length = k * 4 := by rw [hB.len, List.length_take]; omega
      obtain ⟨hm1, hi1⟩ := hq p (List.mem_of_getElem? hp)
      refine m_skip ?_
      refine m_then ?_
      refine m_seq ?_
      refine m_block ?_
      refine m_seq ?_
      refine m_region ?_
      refine m1 hA hS (Y.move rfl) rfl ?_
      clear hA a; intro a hA
      refine m1 hA hS (Y.indexAddrN rfl rfl Tryz.underlying22 Tryz.sizeOf46 (by omega)) rfl ?_
      clear hA a; intro a hA
      refine m1 hA hS (Y.loads rfl Tryz.isAgg46 Tryz.sizeOf46 (fun w h => h.cellsAt (i := 2) (cs := co ++ ([.int .i64 p.id, .int .i64 p.leader, .slice M m mc, .slice I i ic] ++ cr' ++ rest)) rfl (by rw [List.append_assoc]; exact mid_get (by omega))) rfl) rfl ?_
      clear hA a; intro a hA
      refine m_alloc hA hS Tryz.zeroValue46 rfl ?_
      clear hA hS a; intro a b3 w hA hleb3 hgb3 hS
      refine m1 hA hS (Y.assign rfl) rfl ?_
      clear hA a; intro a hA
      refine m_store 0 hA hS rfl rfl Tryz.sizeOf46 rfl rfl rfl rfl ?_
      clear hS; intro w hS
      refine m_nil ?_
      refine m_then ?_
      refine d_regionS [1, 3] [0, 1, 2, 3, 5] hS rfl 7 [false, false, false, false, false, false, false] rfl rfl ?_
      clear hS; intro w hS _
      have hQ := hS
      refine d_take 0 (bs' := [true, false, false, false, false, false, false]) hA rfl rfl (by kernel_rfl) (fun _ _ _ h => h) (Y.fieldAddr (k := 2) rfl Tryz.underlying24 rfl rfl Tryz.sizeOf22) rfl ?_
      clear hA a; intro a hA
      refine d_load 1 (bs' := [true, true, false, false, false, false, false]) hA hQ rfl rfl rfl (by kernel_rfl) (fun _ _ _ h => h) (Y.load rfl Tryz.isAgg22 (fun w h => h.cell (i := 2) rfl rfl)) rfl ?_
      clear hA a; intro a hA
      refine d_take 2 (bs' := [true, true, true, false, false, false, false]) hA rfl rfl (by kernel_rfl) (fun _ _ _ h => h) (Y.move rfl) rfl ?_
      clear hA a; intro a hA
      refine d_load 3 (bs' := [true, true, true, true, false, false, false]) hA hQ rfl rfl rfl (by kernel_rfl) (fun _ _ _ h => h) (Y.loads rfl Tryz.isAgg46 Tryz.sizeOf46 (fun w h => h.cells (i := 0) rfl) rfl) rfl ?_
      clear hA a; intro a hA
      refine d_one 4 (bs' := [true, true, true, true, true, false, false]) true rfl (by kernel_rfl) ?_
      refine m_call hA Tryz.call50 rfl rfl ((ptyOwn_c p _ _ _ _ _ _ _ (hin.gr (hS.gr0 (by simp))) (by have := hin.mem.len; omega) (by have := hin.inv.len; omega)).mono ?_)
      rintro e w ⟨c', bs', rfl, hc, hg2, hf2⟩
      refine ⟨_, rfl, ?_⟩
      clear hA a; intro a hA
      replace hS := hS.freshR hg2 hf2
      replace hQ := hQ.gr hg2
      refine m_nil (m_then ⟨fun _ => hQ, ?_⟩)
      refine d_take 5 (bs' := [true, true, true, true, true, true, false]) hA rfl rfl (by kernel_rfl) (fun _ _ _ h => h) (Y.indexAddrN rfl rfl Tryz.underlying22 Tryz.sizeOf46 (by omega)) rfl ?_
      clear hA a; intro a hA
      refine d_one 6 (bs' := [true, true, true, true, true, true, true]) false rfl (by kernel_rfl) ?_
      refine m_storeP 3 ((co ++ c') ++ (cr' ++ rest)) hA hS rfl rfl Tryz.sizeOf46 rfl (by simpa [Value.cells] using hc.len) (by simp; omega) (by simpa [Value.cells] using hc.one) ((spl_mid (l := co) (c := [.int .i64 p.id, .int .i64 p.leader, .slice M m mc, .slice I i ic]) (r := cr' ++ rest) (by omega) hc.len).trans (List.append_assoc _ _ _).symm) ?_
      clear hS; intro w hS
      refine m_nil (m_then ⟨fun h => (by cases h), ?_⟩)
      refine d_done (by kernel_rfl) ?_
      refine n_block ?_
      refine m_then ?_
      refine m_region ?_
      refine m1 hA hS (Y.addI rfl rfl (by omega)) rfl ?_
      clear hA a; intro a hA
      refine m1 hA hS (Y.move rfl) rfl ?_
      clear hA a; intro a hA
      refine m_nil ?_
      replace hS := hS.gone
      exact m_then ⟨((k + 1 : Nat), co ++ c', cr', bs ++ bs'), by (try dsimp only); omega, hA.keep [12, 11, 10, 2, 1] rfl, hS, by (try dsimp only); exact ⟨by omega, by rw [take_at hp]; exact hB.app ⟨c', [], bs', [], by simp, by simp, hc, rfl, rfl⟩, hCr'⟩⟩
    · refine m_exit ?_
      refine x_then ?_
      refine x_then ?_
      refine x_block ?_
      refine m_then ?_
      refine m_seq ?_
      refine m_region ?_
      refine m1 hA hS (Y.loads rfl Tryz.isAgg24 Tryz.sizeOf24 (fun w h => h.cells (i := 1) rfl) rfl) rfl ?_
      clear hA a; intro a hA
      refine m_store 0 hA hS rfl rfl Tryz.sizeOf24 rfl rfl rfl rfl ?_
      clear hS; intro w hS
      refine m_nil ?_
      refine m_then ?_
      refine m_retc ?_
      refine m_retc1 0 hA hS Tryz.results92 rfl rfl Tryz.isAgg24 Tryz.sizeOf24 ?_
      have hkn : k = n := by omega
      subst hkn
      rw [List.take_of_length_le (by omega)] at hB
      rw [List.drop_eq_nil_of_le (by omega)] at hCr
      have hcr : cr = [] := hCr
      subst hcr
      refine ⟨_, cB g (co ++ ([] ++ rest)) 46 :: bs, rfl, ⟨co, [_], bs, ?_, hB, rfl, by omega⟩, hS.gr0 (by simp), St.outR (X := [_, _]) hS (by simp)⟩
      rw [hl]
      refine ⟨by rw [hB.len, hl], .inr ⟨g, c1, _, rfl, rfl, hcap, hmax, ?_, ?_⟩⟩
      · have h1 := hB.len
        simp only [List.length_append] at hcur ⊢
        simp only [List.length_nil]
        omega
      · rw [List.nil_append, List.take_left' (by rw [hB.len, hl])]
end Go.Proofs.YtljkhijdaaconaaGreat
