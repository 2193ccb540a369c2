/- The law PartyTells, walked: it answers true. -/
import Derived.Test.YtljkhijdaaconaaGreatDoes
import Derived.Test.YtljkhijdaaconaaGreatArgs
set_option linter.unusedVariables false
set_option linter.unusedSectionVars false
namespace Go.Proofs.YtljkhijdaaconaaGreat
open Go.RowKit

theorem Dos.at {w : World} {A : Option Addr} {n : Nat} {xs : List Act3} (h : Dos w A n xs) {j : Nat} (hj : j < n) : ∃ b o x, A = some ⟨b, o, none⟩ ∧ xs[j]? = some x ∧ w.cell? ⟨b, o + j * 3, none⟩ = some (.int .i64 x.k) ∧ w.cell? ⟨b, o + j * 3 + 1, none⟩ = some (.int .i64 x.a) ∧ w.cell? ⟨b, o + j * 3 + 2, none⟩ = some (.int .i64 x.b) := by
  obtain ⟨b, o, x, e, hx, h1, h2, h3⟩ := RowOf.get h hj
  exact ⟨b, o, x, e, hx, h1, h2, h3⟩
theorem doesF_len {H : Hall} {k a b : Int} (hn : H.ps.length ≤ 100) (hq : ∀ p ∈ H.ps, p.mem.length ≤ 100 ∧ p.inv.length ≤ 100) : (doesF H k a b).ps.length ≤ 100 ∧ ∀ p ∈ (doesF H k a b).ps, p.mem.length ≤ 100 ∧ p.inv.length ≤ 100 := by
  unfold doesF
  split
  · rename_i h
    obtain ⟨H2, e2, h2⟩ : ∃ H2 e2, oneF H k a b = (H2, e2) := ⟨_, _, rfl⟩
    rw [h2] at h ⊢
    simp only at h ⊢
    subst h
    obtain ⟨stp, _⟩ := step_one h2
    obtain ⟨y1, y2, _⟩ := valid_small (valid_iff.2 stp.good)
    exact ⟨by omega, fun p hp => by have := y2 p hp; omega⟩
  · exact ⟨hn, hq⟩
theorem small_len {ps : List Pty} (h : smallF ps = true) : ps.length ≤ 100 ∧ ∀ p ∈ ps, p.mem.length ≤ 100 ∧ p.inv.length ≤ 100 := by
  unfold smallF at h
  simp only [Bool.and_eq_true, decide_eq_true_eq, List.all_eq_true] at h
  exact ⟨by omega, fun p hp => by have := h.2 p hp; omega⟩
/-- The blocks in which the hall at hand may lie: those of the first one, and those behind a mark. -/
def Kt (lo1 s1 b5 : Nat) (b : Nat) : Prop := (lo1 ≤ b ∧ b < s1) ∨ b5 < b
theorem Kt.keeps {lo1 b5 : Nat} {v1 v x : World} {B : List Bx} {V : List (Nat × World)} (h : St x B V) (hv : ∀ b, lo1 ≤ b → b < v1.heap.size → v.heap[b]? = v1.heap[b]?) (m1 : (lo1, v1) ∈ V) (m2 : (b5 + 1, v) ∈ V) :
    Keeps (fun b => Kt lo1 v1.heap.size b5 b ∧ b < v.heap.size) v x := fun b hb _ => by
  rcases hb.1 with h1 | h1
  · rw [h.at m1 b h1.1 h1.2, hv b h1.1 h1.2]
  · rw [h.at m2 b h1 hb.2]
theorem Kt.keeps3 {lo1 b5 L : Nat} {v1 v w x : World} {B B' : List Bx} {V V' : List (Nat × World)} (h : St w B V) (h' : St x B' V') (m1 : (lo1, v1) ∈ V) (m2 : (b5 + 1, v) ∈ V) (m1' : (lo1, v1) ∈ V') (m2' : (b5 + 1, v) ∈ V') (m3 : (L, w) ∈ V') :
    Keeps (fun b => (Kt lo1 v1.heap.size b5 b ∧ b < v.heap.size) ∨ L ≤ b) w x := fun b hb hlt => by
  rcases hb with hb | hb
  · rcases hb.1 with h1 | h1
    · rw [h.at m1 b h1.1 h1.2, h'.at m1' b h1.1 h1.2]
    · rw [h.at m2 b h1 hb.2, h'.at m2' b h1 hb.2]
  · exact h'.at m3 b hb hlt
theorem HallT.cap {ti tp : Nat} {A : Option Addr} {n c : Nat} {ps : List Pty} {bs : List Bx} (h : HallT ti tp (.slice A n c) ps bs) : ps.length ≤ c := by
  obtain ⟨cs, b1, b2, h1, _⟩ := h
  exact h1.cap_le
set_option maxRecDepth 100000 in
set_option maxHeartbeats 4000000 in
theorem partyTells_c (H : Hall) (A : Option Addr) (n c : Nat) (l : List Act3) (Al : Option Addr) (nl cl : Nat) (w0 : World) (hP : Ptys w0 A n H.ps) (hL : Dos w0 Al nl l) :
    Calls Tryz.prog 3 #[.agg #[.int .i64 H.tick, .int .i64 H.last, .slice A n c], .slice Al nl cl] w0 fun e w' => e = .returned (.bool true) ∧ Gr w0 w' := by
  have hll := hL.le
  have hl : H.ps.length = n := hP.len
  refine m_enter Tryz.func3 rfl Tryz.ntmps3 (Nat.le_of_ble_eq_true rfl) ?_
  intro a hA
  have hS := St.start w0
  refine m_seq ?_
  refine m_region ?_
  refine m_box hA hS rfl rfl ?_
  clear hA hS a; intro a b1 w hA hleb1 hgb1 hS
  refine m1 hA hS (Y.assign rfl) rfl ?_
  clear hA a; intro a hA
  refine m_nil ?_
  refine m_then ?_
  refine m_seq ?_
  refine m_seq ?_
  refine m_region ?_
  refine m1 hA hS (Y.loads rfl Tryz.isAgg24 Tryz.sizeOf24 (fun w h => h.cells (i := 0) rfl) rfl) rfl ?_
  clear hA a; intro a hA
  refine m_callb hA hS Tryz.call5 rfl rfl (small_c H A n c _ (hP.gr (hS.gr0 (by simp)))) ?_
  clear hA hS a; intro a w hA hS hg
  refine m1 hA hS (Y.not rfl) rfl ?_
  clear hA a; intro a hA
  refine m1 hA hS (Y.move rfl) rfl ?_
  clear hA a; intro a hA
  replace hA := hA.keep [12, 4, 2, 1] rfl
  apply m_or 4 16 12 hA hS rfl
  · intro hp1
    refine m1s hA (dj := 12) rfl rfl rfl hp1 rfl ?_
    intro a hA
    refine m1s hA (dj := 12) rfl rfl rfl hp1 rfl ?_
    clear hA a; intro a hA
    refine m1s hA (dj := 12) rfl rfl rfl hp1 rfl ?_
    clear hA a; intro a hA
    refine m1 hA hS (Y.pickT' rfl hp1 rfl) rfl ?_
    clear hA a; intro a hA
    exact m_nil (m_then ⟨hA.keep [16, 12, 4, 2, 1] rfl, hS⟩)
  · intro hp1
    refine m1g hA hS (dj := 12) rfl rfl rfl hp1 (Y.move rfl) rfl ?_
    intro a hA
    refine m1g hA hS (dj := 12) rfl rfl rfl hp1 (Y.lenSl rfl Tryz.underlying25) rfl ?_
    clear hA a; intro a hA
    refine m1g hA hS (dj := 12) rfl rfl rfl hp1 (Y.gtI rfl rfl) rfl ?_
    clear hA a; intro a hA
    refine m1 hA hS (Y.pickF' rfl hp1 rfl) rfl ?_
    clear hA a; intro a hA
    exact m_nil (m_then ⟨hA.keep [16, 12, 4, 2, 1] rfl, hS⟩)
  · clear hA hS a; intro a w hA hS
    refine m_nil ?_
    refine m_then ?_
    refine m_cond hA rfl (fun hc => ?_) (fun hc => ?_)
    · refine m_seq ?_
      refine m_region ?_
      refine m_callb hA hS Tryz.call6 rfl rfl (awake_c _) ?_
      clear hA hS a; intro a w hA hS hg
      refine m1 hA hS (Y.assign rfl) rfl ?_
      clear hA a; intro a hA
      refine m_nil ?_
      refine m_then ?_
      refine m_retc ?_
      refine r_then ?_
      refine m_ret1 hA Tryz.results3 rfl ?_
      exact ⟨rfl, hS.gr0 (by simp)⟩
    · simp only [Bool.or_eq_false_iff, Bool.not_eq_false', decide_eq_false_iff_not] at hc
      obtain ⟨hn, hq⟩ := small_len hc.1
      refine m_skip ?_
      refine m_then ?_
      refine m_seq ?_
      refine m_region ?_
      refine m1 hA hS (Y.loads rfl Tryz.isAgg24 Tryz.sizeOf24 (fun w h => h.cells (i := 0) rfl) rfl) rfl ?_
      clear hA a; intro a hA
      refine m_call hA Tryz.call7 rfl rfl ((given_c H A n c _ (hP.gr (hS.gr0 (by simp))) (by omega) hq).mono ?_)
      rintro e w ⟨pv, bs, rfl, hG, hg1, hf1⟩
      refine ⟨_, rfl, ?_⟩
      clear hA a; intro a hA
      obtain ⟨A1, c1, rfl, hP1⟩ := hG.read hf1
      have hc1 := hG.cap
      obtain ⟨lo1, v1, hP1, hS⟩ := hS.keepP hg1 hP1
      clear hG hf1 hg1
      have hb1 : b1 < w.heap.size := hS.lt (x := cB b1 [.int .i64 H.tick, .int .i64 H.last, .slice A n c] 24) (List.Mem.head _)
      refine m_alloc hA hS Tryz.zeroValue30 rfl ?_
      clear hA hS a; intro a b2 w hA hleb2 hgb2 hS
      refine m_store 0 hA hS rfl rfl Tryz.sizeOf30 rfl rfl rfl rfl ?_
      clear hS; intro w hS
      refine m_nil ?_
      refine m_then ?_
      refine m_seq ?_
      refine m_seq ?_
      refine q_region hS rfl (by kernel_rfl) ?_
      refine q1 hA (Y.loads rfl Tryz.isAgg24 Tryz.sizeOf24 (fun w h => h.cells (i := 1) rfl) rfl) rfl ?_
      clear hA a; intro a hA
      refine q_call _ hA Tryz.call8 rfl rfl (fun w hS => valid_c H A n c _ (hP.gr (hS.gr0 (by simp)))) ?_
      clear hA a; intro a hA
      refine q1 hA (Y.loads rfl Tryz.isAgg30 Tryz.sizeOf30 (fun w h => h.cells (i := 0) rfl) rfl) rfl ?_
      clear hA a; intro a hA
      refine q_call _ hA Tryz.call9 rfl rfl (fun w hS => refValid_c H A1 _ c1 _ (PtysL.zero (hP1.ov (hS.at (by simp)))) hq) ?_
      clear hA a; intro a hA
      refine q1 hA (Y.neB rfl rfl) rfl ?_
      clear hA a; intro a hA
      refine q_nil ?_
      clear hS; intro w hS
      refine m_then ?_
      refine m_condF hA rfl ((by simp)) ?_
      have hS5 : St w [cB b2 [.int .i64 H.tick, .int .i64 H.last, .slice A1 H.ps.length c1] 30, cB b1 [.int .i64 H.tick, .int .i64 H.last, .slice A n c] 24] [(b2 + 1, w), (lo1, v1), (0, w0)] := St.seal (lo := b2 + 1) hS (fun x hx => by
        replace hx : x ∈ [cB b2 [.int .i64 H.tick, .int .i64 H.last, .slice A1 H.ps.length c1] 30, cB b1 [.int .i64 H.tick, .int .i64 H.last, .slice A n c] 24] := hx
        simp at hx
        rcases hx with rfl | rfl
        · exact Nat.lt_succ_self _
        · show b1 < b2 + 1; omega)
      have hPK : PtysK (Kt lo1 v1.heap.size b2) w A1 H.ps.length H.ps := PtysK.mv (K := fun b => lo1 ≤ b ∧ b < v1.heap.size) (fun b hb => .inl hb) (fun b hb hlt => hS5.at (lo := lo1) (v := v1) (by simp) b hb.1 hb.2) (hP1.k (fun b h1 h2 => ⟨h1, h2⟩))
      have hva : ∀ b, lo1 ≤ b → b < v1.heap.size → w.heap[b]? = v1.heap[b]? := hS5.at (by simp)
      obtain ⟨v, hv⟩ : ∃ v, v = w := ⟨_, rfl⟩
      rw [← hv] at hPK hva
      have hS6 : St w [cB b2 [.int .i64 H.tick, .int .i64 H.last, .slice A1 H.ps.length c1] 30, cB b1 [.int .i64 H.tick, .int .i64 H.last, .slice A n c] 24] [(b2 + 1, v), (lo1, v1), (0, w0)] := by rw [hv]; exact hS5
      replace hS := hS6
      clear hS5 hS6 hv
      refine m_skip ?_
      refine m_then ?_
      refine m_seq ?_
      refine m_seq ?_
      refine m_region ?_
      refine m1 hA hS (Y.assign rfl) rfl ?_
      clear hA a; intro a hA
      refine m_nil ?_
      refine m_then ?_
      refine m_block ?_
      -- LOST [4]
      refine m_loopX [5, 1] rfl hA (((0 : Nat), H, A1, H.ps.length, c1, v)) (fun x => [(6, .int .i64 (x.1 : Int))]) (fun x => [cB b2 [.int .i64 x.2.1.tick, .int .i64 x.2.1.last, .slice x.2.2.1 x.2.2.2.1 x.2.2.2.2.1] 30, cB b1 [.int .i64 H.tick, .int .i64 H.last, .slice A n c] 24]) (fun x => [(b2 + 1, x.2.2.2.2.2), (lo1, v1), (0, w0)]) (fun x => x.1 ≤ nl ∧ (∀ b, lo1 ≤ b → b < v1.heap.size → x.2.2.2.2.2.heap[b]? = v1.heap[b]?) ∧ PtysK (Kt lo1 v1.heap.size b2) x.2.2.2.2.2 x.2.2.1 x.2.2.2.1 x.2.1.ps ∧ x.2.2.2.1 ≤ x.2.2.2.2.1 ∧ x.2.2.2.1 ≤ 100 ∧ ∀ p ∈ x.2.1.ps, p.mem.length ≤ 100 ∧ p.inv.length ≤ 100) (fun x => nl - x.1) (ks := [6]) rfl hS (⟨Nat.zero_le _, hva, hPK, hc1, hn, hq⟩) ?_
      clear hA hS a; rintro ⟨i, H1, A2, n2, c2, v2⟩ a w hA hS hj
      try dsimp only at hA
      try dsimp only at hS
      try dsimp only at hj
      obtain ⟨hi, hva2, hPK1, hcap1, hn1, hq1⟩ := hj
      replace hA := hA.keep [6, 5, 1] rfl
      refine m_seq ?_
      refine m_seq ?_
      refine m_region ?_
      refine m1 hA hS (Y.move rfl) rfl ?_
      clear hA a; intro a hA
      refine m1 hA hS (Y.move rfl) rfl ?_
      clear hA a; intro a hA
      refine m1 hA hS (Y.lenSl rfl Tryz.underlying25) rfl ?_
      clear hA a; intro a hA
      refine m1 hA hS (Y.ltI rfl rfl) rfl ?_
      clear hA a; intro a hA
      refine m_nil ?_
      refine m_then ?_
      refine m_condP hA rfl (fun hlt => ?_) (fun hlt => ?_)
      · obtain ⟨bd, od, x, rfl, hx, d0, d1, d2⟩ := hL.at (j := i) (by omega)
        obtain ⟨N, hN⟩ : ∃ N, N = doesF H1 x.k x.a x.b := ⟨_, rfl⟩
        have hNl := doesF_len (H := H1) (k := x.k) (a := x.a) (b := x.b) (by have := hPK1.len; omega) hq1
        rw [← hN] at hNl
        have hSa := hS
        refine m_skip ?_
        refine m_then ?_
        refine m_seq ?_
        refine m_block ?_
        refine m_seq ?_
        refine m_cut (fun a w => ∃ bn A3 n3 c3 L w3, Fits a 44 [(8, .bool true), (7, .pointer (some ⟨bn, 0, none⟩)), (6, .int .i64 (i : Int)), (5, .pointer (some ⟨b2, 0, none⟩)), (1, .slice (some ⟨bd, od, none⟩) nl cl)] ∧ St w [cB bn [.int .i64 N.tick, .int .i64 N.last, .slice A3 n3 c3] 30, cB b2 [.int .i64 H1.tick, .int .i64 H1.last, .slice A2 n2 c2] 30, cB b1 [.int .i64 H.tick, .int .i64 H.last, .slice A n c] 24] [(L, w3), (b2 + 1, v2), (lo1, v1), (0, w0)] ∧ PtysK (fun b => (Kt lo1 v1.heap.size b2 b ∧ b < v2.heap.size) ∨ L ≤ b) w3 A3 n3 N.ps ∧ n3 ≤ c3 ∧ b2 < L ∧ (∃ B, St w3 B [(b2 + 1, v2), (lo1, v1), (0, w0)])) ?_ ?_
        · refine d_regionS [0, 4] [0, 1, 2, 3, 4, 6, 7, 8, 11] hS rfl 12 [false, false, false, false, false, false, false, false, false, false, false, false] rfl rfl ?_
          clear hS; intro w hS _
          have hQ := hS
          obtain ⟨L, hLe⟩ : ∃ L, L = w.heap.size := ⟨_, rfl⟩
          have hbL : b2 < L := by rw [hLe]; exact hS.lt (x := cB b2 [.int .i64 H1.tick, .int .i64 H1.last, .slice A2 n2 c2] 30) (by simp)
          refine d_load 0 (bs' := [true, false, false, false, false, false, false, false, false, false, false, false]) hA hQ rfl rfl rfl (by kernel_rfl) (fun _ _ _ h => h) (Y.loads rfl Tryz.isAgg30 Tryz.sizeOf30 (fun w h => h.cells (i := 0) rfl) rfl) rfl ?_
          clear hA a; intro a hA
          refine d_take 1 (bs' := [true, true, false, false, false, false, false, false, false, false, false, false]) hA rfl rfl (by kernel_rfl) (fun _ _ _ h => h) (Y.move rfl) rfl ?_
          clear hA a; intro a hA
          refine d_take 2 (bs' := [true, true, true, false, false, false, false, false, false, false, false, false]) hA rfl rfl (by kernel_rfl) (fun _ _ _ h => h) (Y.move rfl) rfl ?_
          clear hA a; intro a hA
          refine d_take 3 (bs' := [true, true, true, true, false, false, false, false, false, false, false, false]) hA rfl rfl (by kernel_rfl) (fun _ _ _ h => h) (Y.indexAddrN rfl rfl Tryz.underlying25 Tryz.sizeOf36 (by omega)) rfl ?_
          clear hA a; intro a hA
          refine d_load 4 (bs' := [true, true, true, true, true, false, false, false, false, false, false, false]) hA hQ rfl rfl rfl (by kernel_rfl) (fun _ _ _ h => h) (Y.loads rfl Tryz.isAgg36 Tryz.sizeOf36 (fun w h => h.rds (by simp) (Nat.zero_le _) (Cs.three d0 d1 d2)) rfl) rfl ?_
          clear hA a; intro a hA
          refine d_two 5 9 (bi := [true, true, true, true, true, true, false, false, false, false, false, false]) (bj := [true, true, true, true, true, false, false, false, false, true, false, false]) false true rfl rfl (by kernel_rfl) ?_ ?_
          · refine m_call hA Tryz.call10 rfl rfl ((does_c (fun b => Kt lo1 v1.heap.size b2 b ∧ b < v2.heap.size) H1 A2 n2 c2 x.k x.a x.b _ (hPK1.lt.mv (fun _ h => h) (Kt.keeps hS hva2 (by simp) (by simp))) hn1 hq1 hcap1).mono ?_)
            rintro e w ⟨A3, n3, c3, rfl, hg3, hP3, hc3⟩
            refine ⟨_, rfl, ?_⟩
            clear hA a; intro a hA
            replace hQ := hQ.gr hg3
            rw [← hN] at hA hP3
            have hSg := hS.gr hg3
            replace hS := hS.call hg3
            rw [← hLe] at hP3 hS
            obtain ⟨w3, hw3⟩ : ∃ w3, w3 = w := ⟨_, rfl⟩
            rw [← hw3] at hP3 hSg
            have hS3 : St w ([] ++ [cB b2 [.int .i64 H1.tick, .int .i64 H1.last, .slice A2 n2 c2] 30, cB b1 [.int .i64 H.tick, .int .i64 H.last, .slice A n c] 24]) [(L, w3), (b2 + 1, v2), (lo1, v1), (0, w0)] := by rw [hw3]; exact hS
            replace hS := hS3
            clear hS3 hw3 hg3 hLe
            refine m_nil (m_then ⟨fun h => (by cases h), ?_⟩)
            refine d_take 6 (bs' := [true, true, true, true, true, true, true, false, false, false, false, false]) hA rfl rfl (by kernel_rfl) (fun _ _ _ h => h) (Y.move rfl) rfl ?_
            clear hA a; intro a hA
            refine d_take 7 (bs' := [true, true, true, true, true, true, true, true, false, false, false, false]) hA rfl rfl (by kernel_rfl) (fun _ _ _ h => h) (Y.extract rfl rfl) rfl ?_
            clear hA a; intro a hA
            refine d_take 8 (bs' := [true, true, true, true, true, true, true, true, true, false, false, false]) hA rfl rfl (by kernel_rfl) (fun _ _ _ h => h) (Y.extract rfl rfl) rfl ?_
            clear hA a; intro a hA
            refine d_one 9 (bs' := [true, true, true, true, true, true, true, true, true, true, false, false]) true rfl (by kernel_rfl) ?_
            refine m_alloc hA hS Tryz.zeroValue30 rfl ?_
            clear hA hS a; intro a b3 w hA hleb3 hgb3 hS
            replace hQ := hQ.gr hgb3
            refine m_nil (m_then ⟨fun _ => hQ, ?_⟩)
            refine d_one 10 (bs' := [true, true, true, true, true, true, true, true, true, true, true, false]) false rfl (by kernel_rfl) ?_
            refine m_store 0 hA hS rfl rfl Tryz.sizeOf30 rfl rfl rfl rfl ?_
            clear hS; intro w hS
            refine m_nil (m_then ⟨fun h => (by cases h), ?_⟩)
            refine d_take 11 (bs' := [true, true, true, true, true, true, true, true, true, true, true, true]) hA rfl rfl (by kernel_rfl) (fun _ _ _ h => h) (Y.assign rfl) rfl ?_
            clear hA a; intro a hA
            refine d_done (by kernel_rfl) ?_
            refine m_then ?_
            exact ⟨_, A3, n3, c3, L, w3, hA.keep [8, 7, 6, 5, 1] rfl, hS, hP3, hc3, hbL, _, hSg⟩
          · refine m_alloc hA hS Tryz.zeroValue30 rfl ?_
            clear hA hS a; intro a b4 w hA hleb4 hgb4 hS
            replace hQ := hQ.gr hgb4
            refine m_nil (m_then ⟨fun _ => hQ, ?_⟩)
            refine d_one 5 (bs' := [true, true, true, true, true, true, false, false, false, true, false, false]) false rfl (by kernel_rfl) ?_
            obtain ⟨L, hLe⟩ : ∃ L, L = w.heap.size := ⟨_, rfl⟩
            have hbL : b2 < L := by rw [hLe]; exact hS.lt (x := cB b2 [.int .i64 H1.tick, .int .i64 H1.last, .slice A2 n2 c2] 30) (by simp)
            refine m_call hA Tryz.call10 rfl rfl ((does_c (fun b => Kt lo1 v1.heap.size b2 b ∧ b < v2.heap.size) H1 A2 n2 c2 x.k x.a x.b _ (hPK1.lt.mv (fun _ h => h) (Kt.keeps hS hva2 (by simp) (by simp))) hn1 hq1 hcap1).mono ?_)
            rintro e w ⟨A3, n3, c3, rfl, hg3, hP3, hc3⟩
            refine ⟨_, rfl, ?_⟩
            clear hA a; intro a hA
            replace hQ := hQ.gr hg3
            rw [← hN] at hA hP3
            have hSg := hS.gr hg3
            replace hS := hS.call hg3
            rw [← hLe] at hP3 hS
            obtain ⟨w3, hw3⟩ : ∃ w3, w3 = w := ⟨_, rfl⟩
            rw [← hw3] at hP3 hSg
            have hS3 : St w ([cB b4 [.int .i64 0, .int .i64 0, .slice none 0 0] 30] ++ [cB b2 [.int .i64 H1.tick, .int .i64 H1.last, .slice A2 n2 c2] 30, cB b1 [.int .i64 H.tick, .int .i64 H.last, .slice A n c] 24]) [(L, w3), (b2 + 1, v2), (lo1, v1), (0, w0)] := by rw [hw3]; exact hS
            replace hS := hS3
            clear hS3 hw3 hg3 hLe
            refine m_nil (m_then ⟨fun h => (by cases h), ?_⟩)
            refine d_take 6 (bs' := [true, true, true, true, true, true, true, false, false, true, false, false]) hA rfl rfl (by kernel_rfl) (fun _ _ _ h => h) (Y.move rfl) rfl ?_
            clear hA a; intro a hA
            refine d_take 7 (bs' := [true, true, true, true, true, true, true, true, false, true, false, false]) hA rfl rfl (by kernel_rfl) (fun _ _ _ h => h) (Y.extract rfl rfl) rfl ?_
            clear hA a; intro a hA
            refine d_take 8 (bs' := [true, true, true, true, true, true, true, true, true, true, false, false]) hA rfl rfl (by kernel_rfl) (fun _ _ _ h => h) (Y.extract rfl rfl) rfl ?_
            clear hA a; intro a hA
            refine d_one 10 (bs' := [true, true, true, true, true, true, true, true, true, true, true, false]) false rfl (by kernel_rfl) ?_
            refine m_store 0 hA hS rfl rfl Tryz.sizeOf30 rfl rfl rfl rfl ?_
            clear hS; intro w hS
            refine m_nil (m_then ⟨fun h => (by cases h), ?_⟩)
            refine d_take 11 (bs' := [true, true, true, true, true, true, true, true, true, true, true, true]) hA rfl rfl (by kernel_rfl) (fun _ _ _ h => h) (Y.assign rfl) rfl ?_
            clear hA a; intro a hA
            refine d_done (by kernel_rfl) ?_
            refine m_then ?_
            exact ⟨_, A3, n3, c3, L, w3, hA.keep [8, 7, 6, 5, 1] rfl, hS, hP3, hc3, hbL, _, hSg⟩
        · clear hA hS a; rintro a w ⟨bn, A3, n3, c3, L, w3, hA, hS, hP3, hc3, hbL, hSw3⟩
          obtain ⟨B3, hSw3⟩ := hSw3
          refine m_seq ?_
          refine m_seq ?_
          refine m_region ?_
          refine m1 hA hS (Y.move rfl) rfl ?_
          clear hA a; intro a hA
          refine m1 hA hS (Y.not rfl) rfl ?_
          clear hA a; intro a hA
          refine m_nil ?_
          refine m_then ?_
          refine m_condF hA rfl (rfl) ?_
          refine m_skip ?_
          refine m_then ?_
          refine m_region ?_
          refine m1 hA hS (Y.loads rfl Tryz.isAgg30 Tryz.sizeOf30 (fun w h => h.cells (i := 0) rfl) rfl) rfl ?_
          clear hA a; intro a hA
          refine m_store 1 hA hS rfl rfl Tryz.sizeOf30 rfl rfl rfl rfl ?_
          clear hS; intro w hS
          refine m_nil ?_
          refine n_block ?_
          refine m_then ?_
          refine m_region ?_
          refine m1 hA hS (Y.move rfl) rfl ?_
          clear hA a; intro a hA
          refine m1 hA hS (Y.addI rfl rfl (by omega)) rfl ?_
          clear hA a; intro a hA
          refine m1 hA hS (Y.assign rfl) rfl ?_
          clear hA a; intro a hA
          refine m_nil ?_
          have hPn : PtysK (Kt lo1 v1.heap.size b2) w A3 n3 N.ps := hP3.mv (fun b hb => hb.elim (fun h => h.1) (fun h => .inr (Nat.lt_of_lt_of_le hbL h))) (Kt.keeps3 hSw3 hS (by simp) (by simp) (by simp) (by simp) (by simp))
          have hva3 : ∀ b, lo1 ≤ b → b < v1.heap.size → w.heap[b]? = v1.heap[b]? := hS.at (by simp)
          have hS7 : St w [cB b2 [.int .i64 N.tick, .int .i64 N.last, .slice A3 n3 c3] 30, cB b1 [.int .i64 H.tick, .int .i64 H.last, .slice A n c] 24] [(b2 + 1, w), (lo1, v1), (0, w0)] := (St.seal (lo := b2 + 1) (St.gone hS) (fun y hy => by
            replace hy : y ∈ [cB b2 [.int .i64 N.tick, .int .i64 N.last, .slice A3 n3 c3] 30, cB b1 [.int .i64 H.tick, .int .i64 H.last, .slice A n c] 24] := hy
            simp at hy
            rcases hy with rfl | rfl
            · exact Nat.lt_succ_self _
            · show b1 < b2 + 1; omega)).dropV (fun p hp => by
              simp only [List.mem_cons, List.not_mem_nil, or_false] at hp
              rcases hp with rfl | rfl | rfl <;> simp)
          obtain ⟨v3, hv3⟩ : ∃ v3, v3 = w := ⟨_, rfl⟩
          rw [← hv3] at hPn hva3
          have hS8 : St w [cB b2 [.int .i64 N.tick, .int .i64 N.last, .slice A3 n3 c3] 30, cB b1 [.int .i64 H.tick, .int .i64 H.last, .slice A n c] 24] [(b2 + 1, v3), (lo1, v1), (0, w0)] := by rw [hv3]; exact hS7
          replace hS := hS8
          clear hS7 hS8 hv3
          exact m_then ⟨(i + 1, N, A3, n3, c3, v3), by (try dsimp only); omega, hA.keep [6, 5, 1] rfl, hS, by (try dsimp only); exact ⟨by omega, hva3, hPn, hc3, by have := hPn.len; omega, hNl.2⟩⟩
      · refine m_exit ?_
        refine x_then ?_
        refine x_then ?_
        refine x_block ?_
        refine m_then ?_
        refine m_seq ?_
        refine m_region ?_
        refine m_callb hA hS Tryz.call6 rfl rfl (awake_c _) ?_
        clear hA hS a; intro a w hA hS hg
        refine m1 hA hS (Y.assign rfl) rfl ?_
        clear hA a; intro a hA
        refine m_nil ?_
        refine m_then ?_
        refine m_retc ?_
        refine m_ret1 hA Tryz.results3 rfl ?_
        exact ⟨rfl, hS.gr0 (by simp)⟩
end Go.Proofs.YtljkhijdaaconaaGreat
