/- Contracts of the reference of chapter 36: leave and the changes. -/
import Derived.Test.YtljkhijdaaconaaGreatRef3
import Derived.Test.YtljkhijdaaconaaGreatRefPlain
set_option linter.unusedVariables false
set_option linter.unusedSectionVars false
namespace Go.Proofs.YtljkhijdaaconaaGreat
open Go.RowKit

theorem St.endL {K : Nat → Prop} {w0 v w : World} {B : List Bx} {V : List (Nat × World)} {L n : Nat} {A : Option Addr} {ps : List Pty} (hS : St w B V) (h0 : (0, w0) ∈ V) (hL : (L, v) ∈ V) (hg : Gr w0 v) (hL0 : w0.heap.size ≤ L) (h : PtysK (fun b => (K b ∧ b < w0.heap.size) ∨ L ≤ b) v A n ps) : PtysK (fun b => K b ∨ w0.heap.size ≤ b) w A n ps :=
  h.mv (fun b hb => hb.imp And.left (fun h => Nat.le_trans hL0 h)) (hS.keeps2 K h0 hL hg)
theorem PtysK.join {K : Nat → Prop} {w0 w v : World} {L n : Nat} {A : Option Addr} {ps : List Pty} (hLw : L ≤ w.heap.size) (h : PtysK (fun b => ((K b ∧ b < w0.heap.size) ∨ L ≤ b) ∨ w.heap.size ≤ b) v A n ps) : PtysK (fun b => (K b ∧ b < w0.heap.size) ∨ L ≤ b) v A n ps :=
  h.mv (fun b hb => hb.elim (fun h => h) (fun h => .inr (Nat.le_trans hLw h))) Keeps.rf
theorem Fresh.of {L : Nat} {w : World} {X bs : List Bx} {V : List (Nat × World)} (hS : St w (X ++ bs) V) (h : ∀ z ∈ bs, L ≤ z.b) : Fresh L w bs := ⟨fun x hx => hS.bx x (List.mem_append_right _ hx), (List.pairwise_append.1 hS.nd).2.1, h⟩

set_option maxRecDepth 100000 in
set_option maxHeartbeats 4000000 in
theorem refLeaveF_c (K : Nat → Prop) (at' : Nat) (who : Int) (H : Hall) (A : Option Addr) (n c : Nat) (w0 : World) (hP : PtysK K w0 A n H.ps) (ha : at' < n) (hn : n ≤ 100) (hq : ∀ p ∈ H.ps, p.mem.length ≤ 100) (hcap : n ≤ c) :
    Calls Tryz.prog 103 #[.agg #[.int .i64 H.tick, .int .i64 H.last, .slice A n c], .int .i64 (at' : Int), .int .i64 who] w0 (GivesH ⟨H.tick, H.last, leavePs at' who H.ps⟩ K w0) := by
  have hl := hP.len
  have hPl := hP.lt
  obtain ⟨bb, o, p, M, m, mc, I, i, ic, rfl, hKb, hp, p0, p1, p2, p3, hin⟩ := hPl.at ha
  have hml := hin.mem.len
  have hq1 := hq p (List.mem_of_getElem? hp)
  refine m_enter Tryz.func103 rfl Tryz.ntmps103 (Nat.le_of_ble_eq_true rfl) ?_
  intro a hA
  have hS := St.start w0
  refine m_seq ?_
  refine m_region ?_
  refine m_box hA hS rfl rfl ?_
  clear hA hS a; intro a b1 w hA hleb1 hgb1 hS
  refine m_alloc hA hS Tryz.zeroValue30 rfl ?_
  clear hA hS a; intro a b2 w hA hleb2 hgb2 hS
  refine m_nil ?_
  refine m_then ?_
  refine m_seq ?_
  refine m_region ?_
  refine m1 hA hS (Y.fieldAddr (k := 2) rfl Tryz.underlying30 rfl rfl Tryz.sizeOf28) rfl ?_
  clear hA a; intro a hA
  refine m1 hA hS (Y.load rfl Tryz.isAgg28 (fun w h => h.cell (i := 1) rfl rfl)) rfl ?_
  clear hA a; intro a hA
  refine m1 hA hS (Y.move rfl) rfl ?_
  clear hA a; intro a hA
  refine m1 hA hS (Y.indexAddrN rfl rfl Tryz.underlying28 Tryz.sizeOf43 (by omega)) rfl ?_
  clear hA a; intro a hA
  refine m1 hA hS (Y.loads rfl Tryz.isAgg43 Tryz.sizeOf43 (fun w h => h.rds (by simp) (Nat.zero_le _) (Cs.four p0 p1 p2 p3)) rfl) rfl ?_
  clear hA a; intro a hA
  refine m_alloc hA hS Tryz.zeroValue43 rfl ?_
  clear hA hS a; intro a b3 w hA hleb3 hgb3 hS
  refine m_store 0 hA hS rfl rfl Tryz.sizeOf43 rfl rfl rfl rfl ?_
  clear hS; intro w hS
  refine m_nil ?_
  refine m_then ?_
  refine m_seq ?_
  refine m_region ?_
  refine m1 hA hS (Y.assign rfl) rfl ?_
  clear hA a; intro a hA
  refine m_nil ?_
  refine m_then ?_
  refine m_seq ?_
  refine m_seq ?_
  refine m_region ?_
  refine m1 hA hS (Y.assign rfl) rfl ?_
  clear hA a; intro a hA
  refine m_nil ?_
  refine m_then ?_
  refine m_block ?_
  have hS2 : St w [cB b3 [.int .i64 p.id, .int .i64 p.leader, .slice M m mc, .slice I i ic] 43, cB b2 [.int .i64 0, .int .i64 0, .slice none 0 0] 30, cB b1 [.int .i64 H.tick, .int .i64 H.last, .slice (some ⟨bb, o, none⟩) n c] 30] [(0, w0)] := hS
  replace hS := hS2
  clear hS2
  obtain ⟨L, hL⟩ : ∃ L, L = w.heap.size := ⟨_, rfl⟩
  have hb3 : b3 < L := by rw [hL]; exact hS.lt (x := cB b3 [.int .i64 p.id, .int .i64 p.leader, .slice M m mc, .slice I i ic] 43) (by simp)
  have hb2 : b2 < L := by rw [hL]; exact hS.lt (x := cB b2 [.int .i64 0, .int .i64 0, .slice none 0 0] 30) (by simp)
  have hb1 : b1 < L := by rw [hL]; exact hS.lt (x := cB b1 [.int .i64 H.tick, .int .i64 H.last, .slice (some ⟨bb, o, none⟩) n c] 30) (by simp)
  have hg0 := hS.gr0 (w0 := w0) (by simp)
  have hL0 : w0.heap.size ≤ L := by rw [hL]; exact hg0.size
  have hSs : St w [cB b3 [.int .i64 p.id, .int .i64 p.leader, .slice M m mc, .slice I i ic] 43, cB b2 [.int .i64 0, .int .i64 0, .slice none 0 0] 30, cB b1 [.int .i64 H.tick, .int .i64 H.last, .slice (some ⟨bb, o, none⟩) n c] 30] [(L, w), (0, w0)] := St.seal (lo := L) hS (fun x hx => by
    simp at hx
    rcases hx with rfl | rfl | rfl
    · exact hb3
    · exact hb2
    · exact hb1)
  replace hS := hSs
  clear hSs
  obtain ⟨wL, hwL⟩ : ∃ wL, wL = w := ⟨_, rfl⟩
  rw [← hwL] at hL
  have hSw : St w [cB b3 [.int .i64 p.id, .int .i64 p.leader, .slice M m mc, .slice I i ic] 43, cB b2 [.int .i64 0, .int .i64 0, .slice none 0 0] 30, cB b1 [.int .i64 H.tick, .int .i64 H.last, .slice (some ⟨bb, o, none⟩) n c] 30] [(L, wL), (0, w0)] := by rw [hwL]; exact hS
  replace hS := hSw
  clear hSw
  refine m_loopX [7, 6, 3, 1, 2] rfl hA (((0 : Nat), Value.slice none 0 0, ([] : List Bx))) (fun x => [(8, x.2.1), (9, .int .i64 (x.1 : Int))]) (fun x => [cB b3 [.int .i64 p.id, .int .i64 p.leader, .slice M m mc, .slice I i ic] 43, cB b2 [.int .i64 0, .int .i64 0, .slice none 0 0] 30, cB b1 [.int .i64 H.tick, .int .i64 H.last, .slice (some ⟨bb, o, none⟩) n c] 30] ++ x.2.2) (fun _ => [(L, wL), (0, w0)]) (fun x => x.1 ≤ m ∧ IntsB x.2.1 ((p.mem.take x.1).filter fun m => !decide (m = who)) x.2.2 ∧ ∀ z ∈ x.2.2, L ≤ z.b) (fun x => m - x.1) (ks := [8, 9]) rfl hS (⟨Nat.zero_le _, RowB.nil _ _, by simp⟩) ?_
  clear hA hS a; rintro ⟨j, wv, bs⟩ a w hA hS hj
  try dsimp only at hA
  try dsimp only at hS
  try dsimp only at hj
  obtain ⟨hj, hwv, hbs⟩ := hj
  replace hA := hA.keep [8, 9, 7, 6, 3, 1, 2] rfl
  refine m_seq ?_
  refine m_seq ?_
  refine m_region ?_
  refine m1 hA hS (Y.move rfl) rfl ?_
  clear hA a; intro a hA
  refine m1 hA hS (Y.fieldAddr (k := 2) rfl Tryz.underlying43 rfl rfl Tryz.sizeOf38) rfl ?_
  clear hA a; intro a hA
  refine m1 hA hS (Y.load rfl Tryz.isAgg38 (fun w h => h.cell (i := 0) rfl rfl)) rfl ?_
  clear hA a; intro a hA
  refine m1 hA hS (Y.lenSl rfl Tryz.underlying38) rfl ?_
  clear hA a; intro a hA
  refine m1 hA hS (Y.ltI rfl rfl) rfl ?_
  clear hA a; intro a hA
  refine m_nil ?_
  refine m_then ?_
  refine m_condP hA rfl (fun hlt => ?_) (fun hlt => ?_)
  · obtain ⟨bx, ox, x, rfl, hx, q0⟩ := hin.mem.z.at (j := j) (by omega)
    rw [show ox + j = ox + j * 1 from by omega] at q0
    have htk : (p.mem.take (j + 1)).filter (fun m => !decide (m = who)) = (p.mem.take j).filter (fun m => !decide (m = who)) ++ if x ≠ who then [x] else [] := by
      rw [take_at hx, List.filter_append]
      congr 1
      by_cases h : x = who <;> simp [h]
    have hjl : ((p.mem.take j).filter fun m => !decide (m = who)).length ≤ 100 := by
      have := List.length_filter_le (fun m => !decide (m = who)) (p.mem.take j)
      rw [List.length_take] at this
      omega
    refine m_skip ?_
    refine m_then ?_
    refine m_seq ?_
    refine m_block ?_
    refine m_seq ?_
    refine m_region ?_
    refine m1 hA hS (Y.fieldAddr (k := 2) rfl Tryz.underlying43 rfl rfl Tryz.sizeOf38) rfl ?_
    clear hA a; intro a hA
    refine m1 hA hS (Y.load rfl Tryz.isAgg38 (fun w h => h.cell (i := 0) rfl rfl)) rfl ?_
    clear hA a; intro a hA
    refine m1 hA hS (Y.move rfl) rfl ?_
    clear hA a; intro a hA
    refine m1 hA hS (Y.indexAddrN rfl rfl Tryz.underlying38 Tryz.sizeOf3 (by omega)) rfl ?_
    clear hA a; intro a hA
    refine m1 hA hS (Y.load rfl Tryz.isAgg3 (fun w h => h.rd (by simp) (Nat.zero_le _) (q0))) rfl ?_
    clear hA a; intro a hA
    refine m1 hA hS (Y.move rfl) rfl ?_
    clear hA a; intro a hA
    refine m1 hA hS (Y.neI rfl rfl) rfl ?_
    clear hA a; intro a hA
    refine m_nil ?_
    refine m_then ?_
    refine m_condP hA rfl (fun hne => ?_) (fun hne => ?_)
    · refine m_region ?_
      refine m1 hA hS (Y.move rfl) rfl ?_
      clear hA a; intro a hA
      refine m1 hA hS (Y.fieldAddr (k := 2) rfl Tryz.underlying43 rfl rfl Tryz.sizeOf38) rfl ?_
      clear hA a; intro a hA
      refine m1 hA hS (Y.load rfl Tryz.isAgg38 (fun w h => h.cell (i := 0) rfl rfl)) rfl ?_
      clear hA a; intro a hA
      refine m1 hA hS (Y.move rfl) rfl ?_
      clear hA a; intro a hA
      refine m1 hA hS (Y.indexAddrN rfl rfl Tryz.underlying38 Tryz.sizeOf3 (by omega)) rfl ?_
      clear hA a; intro a hA
      refine m1 hA hS (Y.load rfl Tryz.isAgg3 (fun w h => h.rd (by simp) (Nat.zero_le _) (q0))) rfl ?_
      clear hA a; intro a hA
      refine m_buildSlice ([.int .i64 x]) hA hS rfl rfl (bs_int x) ?_
      clear hA hS a; intro a b4 w hA hgb4 hS
      have hLw : L ≤ w.heap.size := Nat.le_trans (by rw [hL]; exact Nat.le_refl _) (hS.vs (L, wL) (by simp)).2.2.2.1
      have hSp : St w (bs ++ ([cB b4 [.int .i64 x] 3, cB b3 [.int .i64 p.id, .int .i64 p.leader, .slice (some ⟨bx, ox, none⟩) m mc, .slice I i ic] 43, cB b2 [.int .i64 0, .int .i64 0, .slice none 0 0] 30, cB b1 [.int .i64 H.tick, .int .i64 H.last, .slice (some ⟨bb, o, none⟩) n c] 30])) [(L, wL), (0, w0)] := hS.perm (List.perm_append_comm (l₁ := [_, _, _, _]))
      refine m_appendG (bs := bs) 3 8 [.int .i64 x] elemInt hA hSp hwv rfl rfl rfl Tryz.underlying38 rfl (hS.cells (i := 0) rfl) (List.all_eq_true.1 rfl) (by omega) (by decide) ?_
      clear hA hS hSp a; intro a w' wv' bs' hA hwv' hwh hS
      replace hS : St w' ([cB b3 [.int .i64 p.id, .int .i64 p.leader, .slice (some ⟨bx, ox, none⟩) m mc, .slice I i ic] 43, cB b2 [.int .i64 0, .int .i64 0, .slice none 0 0] 30, cB b1 [.int .i64 H.tick, .int .i64 H.last, .slice (some ⟨bb, o, none⟩) n c] 30] ++ bs') [(L, wL), (0, w0)] := (hS.perm (List.perm_append_comm (l₂ := [_, _, _, _]))).gone
      have hbs' : ∀ z ∈ bs', L ≤ z.b := fun z hz => by
        rcases hwh z hz with ⟨u, hu, e⟩ | h
        · rw [← e]; exact hbs u hu
        · omega
      refine m1 hA hS (Y.assign rfl) rfl ?_
      clear hA a; intro a hA
      refine m_nil ?_
      refine n_block ?_
      refine m_then ?_
      refine m_region ?_
      refine m1 hA hS (Y.move rfl) rfl ?_
      clear hA a; intro a hA
      refine m1 hA hS (Y.addI rfl rfl (by omega)) rfl ?_
      clear hA a; intro a hA
      refine m1 hA hS (Y.assign rfl) rfl ?_
      clear hA a; intro a hA
      refine m_nil ?_
      have hwv2 : IntsB wv' ((p.mem.take (j + 1)).filter fun m => !decide (m = who)) bs' := by
        rw [htk, if_pos hne]
        unfold IntsB
        rw [List.length_append, List.map_append]
        exact hwv'
      exact m_then ⟨(j + 1, wv', bs'), by (try dsimp only); omega, hA.keep [8, 9, 7, 6, 3, 1, 2] rfl, hS, by (try dsimp only); exact ⟨by omega, hwv2, hbs'⟩⟩
    · rw [if_neg hne, List.append_nil] at htk
      refine m_skip ?_
      refine n_block ?_
      refine m_then ?_
      refine m_region ?_
      refine m1 hA hS (Y.move rfl) rfl ?_
      clear hA a; intro a hA
      refine m1 hA hS (Y.addI rfl rfl (by omega)) rfl ?_
      clear hA a; intro a hA
      refine m1 hA hS (Y.assign rfl) rfl ?_
      clear hA a; intro a hA
      refine m_nil ?_
      exact m_then ⟨(j + 1, wv, bs), by (try dsimp only); omega, hA.keep [8, 9, 7, 6, 3, 1, 2] rfl, hS, by (try dsimp only); exact ⟨by omega, by rw [htk]; exact hwv, hbs⟩⟩
  · have hjm : j = p.mem.length := by omega
    rw [hjm, List.take_length] at hwv
    have hg := hS.gr0 (w0 := w0) (by simp)
    have hLw : L ≤ w.heap.size := Nat.le_trans (by rw [hL]; exact Nat.le_refl _) (hS.vs (L, wL) (by simp)).2.2.2.1
    have hyl : (p.mem.filter fun m => !decide (m = who)).length ≤ 100 := Nat.le_trans (List.length_filter_le _ _) hq1
    rcases leave_cases who hp with ⟨h1, h2⟩ | ⟨y, ys, h1, h2⟩
    · rw [h1] at hwv
      obtain ⟨Aw, cw, rfl⟩ := hwv.shape
      refine m_exit ?_
      refine x_then ?_
      refine x_then ?_
      refine x_block ?_
      refine m_then ?_
      refine m_seq ?_
      refine m_seq ?_
      refine m_region ?_
      refine m1 hA hS (Y.move rfl) rfl ?_
      clear hA a; intro a hA
      refine m1 hA hS (Y.lenSl rfl Tryz.underlying38) rfl ?_
      clear hA a; intro a hA
      refine m1 hA hS (Y.eqI rfl rfl) rfl ?_
      clear hA a; intro a hA
      refine m_nil ?_
      refine m_then ?_
      refine m_condT hA rfl (rfl) ?_
      refine m_seq ?_
      refine m_region ?_
      refine m1 hA hS (Y.loads rfl Tryz.isAgg30 Tryz.sizeOf30 (fun w h => h.cells (i := 2) rfl) rfl) rfl ?_
      clear hA a; intro a hA
      refine m1 hA hS (Y.move rfl) rfl ?_
      clear hA a; intro a hA
      refine m_call hA Tryz.call104 rfl rfl ((drop2_c (fun b => K b ∧ b < w0.heap.size) at' H _ n c _ (hPl.mv (fun _ h => h) (hg.keeps _)) ha hn hcap).mono ?_)
      rintro e w ⟨A5, n5, c5, rfl, hg5, hP5, hc5⟩
      refine ⟨_, rfl, ?_⟩
      clear hA a; intro a hA
      replace hS := hS.call hg5
      have hg6 := hg.tr hg5
      refine m_store 1 hA hS rfl rfl Tryz.sizeOf30 rfl rfl rfl rfl ?_
      clear hS; intro w hS
      refine m_nil ?_
      refine m_then ?_
      refine m_retc ?_
      refine r_then ?_
      refine m_retc1 1 hA hS Tryz.results103 rfl rfl Tryz.isAgg30 Tryz.sizeOf30 ?_
      rw [h2, ← List.eraseIdx_eq_take_drop_succ]
      exact ⟨_, _, _, rfl, hS.gr0 (by simp), hS.endL (by simp) (List.mem_cons_self ..) hg6 hg.size hP5, hc5⟩
    · rw [h1] at hwv hyl
      obtain ⟨hwl, ⟨_, h0, _⟩ | ⟨gw, capw, cur, rfl, rfl, h3, h4, h5, h6⟩⟩ := hwv
      · simp at h0
      have hc0 : cur[0]? = some (.int .i64 y) := by
        have : (cur.take ((y :: ys).length * 1))[0]? = some (.int .i64 y) := by rw [h6]; rfl
        rw [List.getElem?_take] at this
        split at this
        · exact this
        · cases this
      have hlen : ((y :: ys).length : Int) ≠ 0 := by simp; omega
      refine m_exit ?_
      refine x_then ?_
      refine x_then ?_
      refine x_block ?_
      refine m_then ?_
      refine m_seq ?_
      refine m_seq ?_
      refine m_region ?_
      refine m1 hA hS (Y.move rfl) rfl ?_
      clear hA a; intro a hA
      refine m1 hA hS (Y.lenSl rfl Tryz.underlying38) rfl ?_
      clear hA a; intro a hA
      refine m1 hA hS (Y.eqI rfl rfl) rfl ?_
      clear hA a; intro a hA
      refine m_nil ?_
      refine m_then ?_
      refine m_condF hA rfl (decide_eq_false hlen) ?_
      refine m_skip ?_
      refine m_then ?_
      refine m_seq ?_
      refine m_region ?_
      refine m1 hA hS (Y.move rfl) rfl ?_
      clear hA a; intro a hA
      refine m1 hA hS (Y.fieldAddr (k := 2) rfl Tryz.underlying43 rfl rfl Tryz.sizeOf38) rfl ?_
      clear hA a; intro a hA
      refine m_store 0 hA hS rfl rfl Tryz.sizeOf38 rfl rfl rfl rfl ?_
      clear hS; intro w hS
      refine m_nil ?_
      refine m_then ?_
      refine m_seq ?_
      refine m_seq ?_
      refine m_region ?_
      refine m1 hA hS (Y.fieldAddr (k := 1) rfl Tryz.underlying43 rfl rfl Tryz.sizeOf3) rfl ?_
      clear hA a; intro a hA
      refine m1 hA hS (Y.load rfl Tryz.isAgg3 (fun w h => h.cell (i := 0) rfl rfl)) rfl ?_
      clear hA a; intro a hA
      refine m1 hA hS (Y.move rfl) rfl ?_
      clear hA a; intro a hA
      refine m1 hA hS (Y.eqI rfl rfl) rfl ?_
      clear hA a; intro a hA
      refine m_nil ?_
      refine m_then ?_
      refine m_condP hA rfl (fun hld => ?_) (fun hld => ?_)
      · refine m_region ?_
        refine m1 hA hS (Y.move rfl) rfl ?_
        clear hA a; intro a hA
        refine m1 hA hS (Y.indexAddr (i := 0) rfl rfl Tryz.underlying38 Tryz.sizeOf3 (by omega) (by simp <;> omega)) rfl ?_
        clear hA a; intro a hA
        refine m1 hA hS (Y.load rfl Tryz.isAgg3 (fun w h => h.cell (i := 3) rfl hc0)) rfl ?_
        clear hA a; intro a hA
        refine m1 hA hS (Y.fieldAddr (k := 1) rfl Tryz.underlying43 rfl rfl Tryz.sizeOf3) rfl ?_
        clear hA a; intro a hA
        refine m_store 0 hA hS rfl rfl Tryz.sizeOf3 rfl rfl rfl rfl ?_
        clear hS; intro w hS
        refine m_nil ?_
        refine m_then ?_
        refine m_seq ?_
        refine m_region ?_
        refine m1 hA hS (Y.loads rfl Tryz.isAgg30 Tryz.sizeOf30 (fun w h => h.cells (i := 2) rfl) rfl) rfl ?_
        clear hA a; intro a hA
        refine m1 hA hS (Y.move rfl) rfl ?_
        clear hA a; intro a hA
        refine m1 hA hS (Y.loads rfl Tryz.isAgg43 Tryz.sizeOf43 (fun w h => h.cells (i := 0) rfl) rfl) rfl ?_
        clear hA a; intro a hA
        have hS7 : St w ([cB b3 [.int .i64 p.id, .int .i64 y, .slice (some ⟨gw, 0, none⟩) (y :: ys).length capw, .slice I i ic] 43, cB b2 [.int .i64 0, .int .i64 0, .slice none 0 0] 30, cB b1 [.int .i64 H.tick, .int .i64 H.last, .slice (some ⟨bb, o, none⟩) n c] 30] ++ [cB gw cur 3]) [(L, wL), (0, w0)] := hS
        replace hS := hS7
        clear hS7
        have hLw2 : L ≤ w.heap.size := Nat.le_trans (by rw [hL]; exact Nat.le_refl _) (hS.vs (L, wL) (by simp)).2.2.2.1
        have hg2 := hS.gr0 (w0 := w0) (by simp)
        have hfr2 : Fresh L w [cB gw cur 3] := Fresh.of (X := [cB b3 [.int .i64 p.id, .int .i64 y, .slice (some ⟨gw, 0, none⟩) (y :: ys).length capw, .slice I i ic] 43, cB b2 [.int .i64 0, .int .i64 0, .slice none 0 0] 30, cB b1 [.int .i64 H.tick, .int .i64 H.last, .slice (some ⟨bb, o, none⟩) n c] 30]) hS hbs
        obtain ⟨Aw', cw', e4, hrd2⟩ := IntsB.read (v := .slice (some ⟨gw, 0, none⟩) (y :: ys).length capw) (xs := y :: ys) ⟨by simp, .inr ⟨gw, capw, cur, rfl, rfl, h3, h4, h5, h6⟩⟩ hfr2 hyl
        obtain ⟨rfl, _, rfl⟩ := Value.slice.inj e4
        have hkw : Keeps (fun b => (K b ∧ b < w0.heap.size) ∨ L ≤ b) w0 w := fun b hb hlt => (hg2.block b hlt)
        have hpk : PtyInK (fun b => (K b ∧ b < w0.heap.size) ∨ L ≤ b) w (some ⟨gw, 0, none⟩) (y :: ys).length I i { p with mem := y :: ys, leader := y } := ⟨hrd2.k (fun b hb _ => .inr hb), hin.inv.mv (fun b hb => .inl hb) (hg2.keeps _)⟩
        refine m_call hA Tryz.call101 rfl rfl ((with_c (fun b => (K b ∧ b < w0.heap.size) ∨ L ≤ b) at' { p with mem := y :: ys, leader := y } (some ⟨gw, 0, none⟩) (y :: ys).length capw I i ic H (some ⟨bb, o, none⟩) n c _ (hPl.mv (fun b hb => .inl hb) (hg2.keeps _)) hpk ha hn).mono ?_)
        rintro e w ⟨A5, n5, c5, rfl, hg5, hP5, hc5⟩
        refine ⟨_, rfl, ?_⟩
        clear hA a; intro a hA
        have hS5 : St w [cB b2 [.int .i64 0, .int .i64 0, .slice none 0 0] 30, cB b1 [.int .i64 H.tick, .int .i64 H.last, .slice (some ⟨bb, o, none⟩) n c] 30] [(L, w), (L, wL), (0, w0)] := St.seal (lo := L) (St.sub (B' := [cB b2 [.int .i64 0, .int .i64 0, .slice none 0 0] 30, cB b1 [.int .i64 H.tick, .int .i64 H.last, .slice (some ⟨bb, o, none⟩) n c] 30]) (hS.gr hg5) (.cons _ (List.sublist_append_left [_, _] _))) (fun x hx => by
          simp at hx
          rcases hx with rfl | rfl
          · exact hb2
          · exact hb1)
        replace hS := hS5
        clear hS5
        have hg6 := hg2.tr hg5
        replace hP5 := PtysK.join hLw2 hP5
        refine m_store 0 hA hS rfl rfl Tryz.sizeOf30 rfl rfl rfl rfl ?_
        clear hS; intro w hS
        refine m_nil ?_
        refine m_then ?_
        refine m_retc ?_
        refine m_retc1 0 hA hS Tryz.results103 rfl rfl Tryz.isAgg30 Tryz.sizeOf30 ?_
        rw [h2, if_pos hld]
        rw [set_split hp] at hP5
        exact ⟨_, _, _, rfl, hS.gr0 (by simp), hS.endL (by simp) (List.mem_cons_self ..) hg6 hL0 hP5, hc5⟩
      · have hS7 : St w ([cB b3 [.int .i64 p.id, .int .i64 p.leader, .slice (some ⟨gw, 0, none⟩) (y :: ys).length capw, .slice I i ic] 43, cB b2 [.int .i64 0, .int .i64 0, .slice none 0 0] 30, cB b1 [.int .i64 H.tick, .int .i64 H.last, .slice (some ⟨bb, o, none⟩) n c] 30] ++ [cB gw cur 3]) [(L, wL), (0, w0)] := hS
        replace hS := hS7
        clear hS7
        refine m_skip ?_
        refine m_then ?_
        refine m_seq ?_
        refine m_region ?_
        refine m1 hA hS (Y.loads rfl Tryz.isAgg30 Tryz.sizeOf30 (fun w h => h.cells (i := 2) rfl) rfl) rfl ?_
        clear hA a; intro a hA
        refine m1 hA hS (Y.move rfl) rfl ?_
        clear hA a; intro a hA
        refine m1 hA hS (Y.loads rfl Tryz.isAgg43 Tryz.sizeOf43 (fun w h => h.cells (i := 0) rfl) rfl) rfl ?_
        clear hA a; intro a hA
        have hLw2 : L ≤ w.heap.size := Nat.le_trans (by rw [hL]; exact Nat.le_refl _) (hS.vs (L, wL) (by simp)).2.2.2.1
        have hg2 := hS.gr0 (w0 := w0) (by simp)
        have hfr2 : Fresh L w [cB gw cur 3] := Fresh.of (X := [cB b3 [.int .i64 p.id, .int .i64 p.leader, .slice (some ⟨gw, 0, none⟩) (y :: ys).length capw, .slice I i ic] 43, cB b2 [.int .i64 0, .int .i64 0, .slice none 0 0] 30, cB b1 [.int .i64 H.tick, .int .i64 H.last, .slice (some ⟨bb, o, none⟩) n c] 30]) hS hbs
        obtain ⟨Aw', cw', e4, hrd2⟩ := IntsB.read (v := .slice (some ⟨gw, 0, none⟩) (y :: ys).length capw) (xs := y :: ys) ⟨by simp, .inr ⟨gw, capw, cur, rfl, rfl, h3, h4, h5, h6⟩⟩ hfr2 hyl
        obtain ⟨rfl, _, rfl⟩ := Value.slice.inj e4
        have hkw : Keeps (fun b => (K b ∧ b < w0.heap.size) ∨ L ≤ b) w0 w := fun b hb hlt => (hg2.block b hlt)
        have hpk : PtyInK (fun b => (K b ∧ b < w0.heap.size) ∨ L ≤ b) w (some ⟨gw, 0, none⟩) (y :: ys).length I i { p with mem := y :: ys, leader := p.leader } := ⟨hrd2.k (fun b hb _ => .inr hb), hin.inv.mv (fun b hb => .inl hb) (hg2.keeps _)⟩
        refine m_call hA Tryz.call101 rfl rfl ((with_c (fun b => (K b ∧ b < w0.heap.size) ∨ L ≤ b) at' { p with mem := y :: ys, leader := p.leader } (some ⟨gw, 0, none⟩) (y :: ys).length capw I i ic H (some ⟨bb, o, none⟩) n c _ (hPl.mv (fun b hb => .inl hb) (hg2.keeps _)) hpk ha hn).mono ?_)
        rintro e w ⟨A5, n5, c5, rfl, hg5, hP5, hc5⟩
        refine ⟨_, rfl, ?_⟩
        clear hA a; intro a hA
        have hS5 : St w [cB b2 [.int .i64 0, .int .i64 0, .slice none 0 0] 30, cB b1 [.int .i64 H.tick, .int .i64 H.last, .slice (some ⟨bb, o, none⟩) n c] 30] [(L, w), (L, wL), (0, w0)] := St.seal (lo := L) (St.sub (B' := [cB b2 [.int .i64 0, .int .i64 0, .slice none 0 0] 30, cB b1 [.int .i64 H.tick, .int .i64 H.last, .slice (some ⟨bb, o, none⟩) n c] 30]) (hS.gr hg5) (.cons _ (List.sublist_append_left [_, _] _))) (fun x hx => by
          simp at hx
          rcases hx with rfl | rfl
          · exact hb2
          · exact hb1)
        replace hS := hS5
        clear hS5
        have hg6 := hg2.tr hg5
        replace hP5 := PtysK.join hLw2 hP5
        refine m_store 0 hA hS rfl rfl Tryz.sizeOf30 rfl rfl rfl rfl ?_
        clear hS; intro w hS
        refine m_nil ?_
        refine m_then ?_
        refine m_retc ?_
        refine m_retc1 0 hA hS Tryz.results103 rfl rfl Tryz.isAgg30 Tryz.sizeOf30 ?_
        rw [h2, if_neg hld]
        rw [set_split hp] at hP5
        exact ⟨_, _, _, rfl, hS.gr0 (by simp), hS.endL (by simp) (List.mem_cons_self ..) hg6 hL0 hP5, hc5⟩

end Go.Proofs.YtljkhijdaaconaaGreat