/- Contracts of the reference of chapter 36: with, drop, kept, leave. -/
import Derived.Test.YtljkhijdaaconaaGreatRef2
set_option linter.unusedVariables false
set_option linter.unusedSectionVars false
namespace Go.Proofs.YtljkhijdaaconaaGreat
open Go.RowKit

/-- A row of parties copied into a new row. -/
theorem RowB.start (e k b : Nat) : RowB e k (.slice (some ⟨b, 0, none⟩) 0 0) 0 [] [cB b [] e] := RowB.empty e k b
theorem PtysK.nil_of {K : Nat → Prop} {w : World} {n : Nat} {ps : List Pty} (h : PtysK K w none n ps) : ps = [] := RowOf.nil_of h
set_option maxRecDepth 100000 in
theorem with_c (K : Nat → Prop) (at' : Nat) (p : Pty) (M : Option Addr) (m mc : Nat) (I : Option Addr) (i ic : Nat) (H : Hall) (A : Option Addr) (n c : Nat) (w0 : World) (hP : PtysK K w0 A n H.ps) (hp : PtyInK K w0 M m I i p) (ha : at' < n) (hn : n ≤ 100) :
    Calls Tryz.prog 101 #[.agg #[.int .i64 H.tick, .int .i64 H.last, .slice A n c], .int .i64 (at' : Int), .agg #[.int .i64 p.id, .int .i64 p.leader, .slice M m mc, .slice I i ic]] w0 (GivesH ⟨H.tick, H.last, H.ps.set at' p⟩ K w0) := by
  have hl := hP.len
  obtain ⟨bb, o, _, _, _, _, _, _, _, rfl, _⟩ := hP.at ha
  obtain ⟨cs, hcs, hcell⟩ := hP.cells
  have hcl := hcs.len
  refine m_enter Tryz.func101 rfl Tryz.ntmps101 (Nat.le_of_ble_eq_true rfl) ?_
  intro a hA
  have hS := St.start w0
  refine m_seq ?_
  refine m_region ?_
  refine m_box hA hS rfl rfl ?_
  clear hA hS a; intro a b1 w hA hleb1 hgb1 hS
  refine m_box hA hS rfl rfl ?_
  clear hA hS a; intro a b2 w hA hleb2 hgb2 hS
  refine m_alloc hA hS Tryz.zeroValue30 rfl ?_
  clear hA hS a; intro a b3 w hA hleb3 hgb3 hS
  refine m_nil ?_
  refine m_then ?_
  refine m_seq ?_
  refine m_region ?_
  refine m_buildSlice ([]) hA hS rfl rfl (run_bs0 Tryz.underlying28 Tryz.sizeOf43) ?_
  clear hA hS a; intro a b4 w hA hgb4 hS
  refine m1 hA hS (Y.fieldAddr (k := 2) rfl Tryz.underlying30 rfl rfl Tryz.sizeOf28) rfl ?_
  clear hA a; intro a hA
  refine m1 hA hS (Y.load rfl Tryz.isAgg28 (fun w h => h.cell (i := 3) rfl rfl)) rfl ?_
  clear hA a; intro a hA
  refine m_append (bs := [cB b4 [] 43]) 43 64 cs elemPR hA hS (RowB.start _ _ _) rfl rfl rfl Tryz.underlying28 (by rw [hcl, hl]) (fun j u hj => ?_) hcs.one (by omega) (by decide) ?_
  · obtain ⟨b9, o9, e9⟩ : ∃ b9 o9, (⟨bb, o, none⟩ : Addr).add j = ⟨b9, o9, none⟩ := ⟨bb, o + j, by unfold Addr.add; split <;> simp_all⟩
    rw [e9]
    exact hS.rd (by simp) (Nat.zero_le _) (e9 ▸ hcell j u hj)
  clear hA hS a; intro a w v bs hA hR hnv hS
  rw [Nat.zero_add, List.nil_append] at hR
  obtain ⟨hRl, ⟨_, hz, _⟩ | ⟨g, cap, cur, rfl, rfl, hcap, hmax, hcur, htk⟩⟩ := hR
  · omega
  obtain ⟨l, r, e1, hcs1, hcs2⟩ : ∃ cl cr, cs = cl ++ cr ∧ PtysCK K w0 cl (H.ps.take at') ∧ PtysCK K w0 cr (H.ps.drop at') := (show PtysCK K w0 cs (H.ps.take at' ++ H.ps.drop at') from by rw [List.take_append_drop]; exact hcs).split
  obtain ⟨q, hqq⟩ : ∃ q, H.ps[at']? = some q := ⟨_, List.getElem?_eq_getElem (by omega)⟩
  rw [drop_at hqq] at hcs2
  obtain ⟨M9, m9, mc9, I9, i9, ic9, r2, rfl, _, hcs3⟩ := hcs2
  obtain ⟨rest, rfl⟩ : ∃ rest, cur = cs ++ rest := ⟨cur.drop (n * 4), by rw [← htk, List.take_append_drop]⟩
  subst e1
  have hll : l.length = at' * 4 := by rw [hcs1.len, List.length_take]; omega
  have hS2 : St w ([cB b3 [.int .i64 0, .int .i64 0, .slice none 0 0] 30, cB b2 [.int .i64 p.id, .int .i64 p.leader, .slice M m mc, .slice I i ic] 43, cB b1 [.int .i64 H.tick, .int .i64 H.last, .slice (some ⟨bb, o, none⟩) n c] 30, cB g (l ++ ([.int .i64 q.id, .int .i64 q.leader, .slice M9 m9 mc9, .slice I9 i9 ic9] ++ (r2 ++ rest))) 43]) [(0, w0)] := by
    have := hS.perm (B' := [cB b3 [.int .i64 0, .int .i64 0, .slice none 0 0] 30, cB b2 [.int .i64 p.id, .int .i64 p.leader, .slice M m mc, .slice I i ic] 43, cB b1 [.int .i64 H.tick, .int .i64 H.last, .slice (some ⟨bb, o, none⟩) n c] 30, cB g ((l ++ ([.int .i64 q.id, .int .i64 q.leader, .slice M9 m9 mc9, .slice I9 i9 ic9] ++ r2)) ++ rest) 43]) (List.perm_append_comm (l₁ := [_]) (l₂ := [_, _, _]))
    rwa [List.append_assoc, List.append_assoc] at this
  replace hS := hS2
  clear hS2
  refine m1 hA hS (Y.fieldAddr (k := 2) rfl Tryz.underlying30 rfl rfl Tryz.sizeOf28) rfl ?_
  clear hA a; intro a hA
  refine m_store 2 hA hS rfl rfl Tryz.sizeOf28 rfl rfl rfl rfl ?_
  clear hS; intro w hS
  refine m_nil ?_
  refine m_then ?_
  refine m_seq ?_
  refine m_region ?_
  refine m1 hA hS (Y.fieldAddr (k := 2) rfl Tryz.underlying30 rfl rfl Tryz.sizeOf28) rfl ?_
  clear hA a; intro a hA
  refine m1 hA hS (Y.load rfl Tryz.isAgg28 (fun w h => h.cell (i := 2) rfl rfl)) rfl ?_
  clear hA a; intro a hA
  refine m1 hA hS (Y.move rfl) rfl ?_
  clear hA a; intro a hA
  refine m1 hA hS (Y.loads rfl Tryz.isAgg43 Tryz.sizeOf43 (fun w h => h.cells (i := 1) rfl) rfl) rfl ?_
  clear hA a; intro a hA
  refine m1 hA hS (Y.indexAddrN rfl rfl Tryz.underlying28 Tryz.sizeOf43 (by omega)) rfl ?_
  clear hA a; intro a hA
  refine m_storeP 3 (l ++ ([.int .i64 p.id, .int .i64 p.leader, .slice M m mc, .slice I i ic] ++ (r2 ++ rest))) hA hS rfl rfl Tryz.sizeOf43 rfl rfl (by simp; omega) (List.all_eq_true.1 rfl) (spl_mid (l := l) (c := [.int .i64 q.id, .int .i64 q.leader, .slice M9 m9 mc9, .slice I9 i9 ic9]) (c' := [.int .i64 p.id, .int .i64 p.leader, .slice M m mc, .slice I i ic]) (r := r2 ++ rest) (by omega) rfl) ?_
  clear hS; intro w hS
  refine m_nil ?_
  refine m_then ?_
  refine m_seq ?_
  refine m_region ?_
  refine m1 hA hS (Y.loads rfl Tryz.isAgg30 Tryz.sizeOf30 (fun w h => h.cells (i := 2) rfl) rfl) rfl ?_
  clear hA a; intro a hA
  refine m_store 0 hA hS rfl rfl Tryz.sizeOf30 rfl rfl rfl rfl ?_
  clear hS; intro w hS
  refine m_nil ?_
  refine m_then ?_
  refine m_retc ?_
  refine m_retc1 0 hA hS Tryz.results101 rfl rfl Tryz.isAgg30 Tryz.sizeOf30 ?_
  have hg := hS.gr0 (w0 := w0) (by simp)
  have hgb := hS.bx (cB g (l ++ ([.int .i64 p.id, .int .i64 p.leader, .slice M m mc, .slice I i ic] ++ (r2 ++ rest))) 43) (by simp [setB])
  have hge : w0.heap.size ≤ g := hS.ge (v := w0) (by simp) (x := cB g (l ++ ([.int .i64 p.id, .int .i64 p.leader, .slice M m mc, .slice I i ic] ++ (r2 ++ rest))) 43) (by simp [setB])
  have hnew : PtysCK (fun b => K b ∨ w0.heap.size ≤ b) w (l ++ ([.int .i64 p.id, .int .i64 p.leader, .slice M m mc, .slice I i ic] ++ r2)) (H.ps.set at' p) := by
    rw [set_split hqq]
    exact ((hcs1.mv (fun b => .inl) (hg.keeps K)).app ⟨M, m, mc, I, i, ic, r2, rfl, hp.mv (fun b => .inl) (hg.keeps K), hcs3.mv (fun b => .inl) (hg.keeps K)⟩)
  have hln : (H.ps.set at' p).length = n := by rw [List.length_set]; exact hl
  have hrow := hnew.row (b := g) hgb (by
    rw [hln, ← List.append_assoc [_, _, _, _] r2 rest, ← List.append_assoc l _ rest, List.take_left']
    have := hnew.len
    rw [hln] at this
    exact this) (.inr hge) (by rw [hln]; omega)
  rw [hln] at hrow
  exact ⟨_, _, _, rfl, hg, hrow, by omega⟩
set_option maxRecDepth 100000 in
set_option maxHeartbeats 1000000 in
theorem drop2_c (K : Nat → Prop) (at' : Nat) (H : Hall) (A : Option Addr) (n c : Nat) (w0 : World) (hP : PtysK K w0 A n H.ps) (ha : at' < n) (hn : n ≤ 100) (hcap : n ≤ c) :
    Calls Tryz.prog 104 #[.agg #[.int .i64 H.tick, .int .i64 H.last, .slice A n c], .int .i64 (at' : Int)] w0 (GivesH ⟨H.tick, H.last, H.ps.eraseIdx at'⟩ K w0) := by
  have hl := hP.len
  obtain ⟨bb, o, _, _, _, _, _, _, _, rfl, _⟩ := hP.at ha
  obtain ⟨cs, hcs, hcell⟩ := hP.cells
  have hcl := hcs.len
  obtain ⟨q, hqq⟩ : ∃ q, H.ps[at']? = some q := ⟨_, List.getElem?_eq_getElem (by omega)⟩
  have hcs0 := hcs
  rw [split_at hqq] at hcs0
  obtain ⟨l, r1, e1, hcs1, hcs2⟩ := hcs0.split
  obtain ⟨M9, m9, mc9, I9, i9, ic9, r, rfl, _, hcs3⟩ := hcs2
  subst e1
  have hll : l.length = at' * 4 := by rw [hcs1.len, List.length_take]; omega
  have hrl : r.length = (n - (at' + 1)) * 4 := by rw [hcs3.len, List.length_drop]; omega
  have hadd : ∀ k : Nat, (⟨bb, o, none⟩ : Addr).add k = ⟨bb, o + k, none⟩ := fun k => by unfold Addr.add; split <;> simp_all
  have hcell2 : ∀ k u, (l ++ ([.int .i64 q.id, .int .i64 q.leader, .slice M9 m9 mc9, .slice I9 i9 ic9] ++ r))[k]? = some u → w0.cell? ⟨bb, o + k, none⟩ = some u := fun k u h => by rw [← hadd]; exact hcell k u h
  refine m_enter Tryz.func104 rfl Tryz.ntmps104 (Nat.le_of_ble_eq_true rfl) ?_
  intro a hA
  have hS := St.start w0
  refine m_seq ?_
  refine m_region ?_
  refine m_box hA hS rfl rfl ?_
  clear hA hS a; intro a b1 w hA hleb1 hgb1 hS
  refine m_alloc hA hS Tryz.zeroValue30 rfl ?_
  clear hA hS a; intro a b2 w hA hleb2 hgb2 hS
  refine m_nil ?_
  refine m_then ?_
  refine m_seq ?_
  refine d_region (fun w => St w [cB b2 [.int .i64 0, .int .i64 0, .slice none 0 0] 30, cB b1 [.int .i64 H.tick, .int .i64 H.last, .slice (some ⟨bb, o, none⟩) n c] 30] [(0, w0)]) [2, 7] [1, 2, 3, 4, 6, 7, 8, 9, 10, 12] _ _ hS rfl 14 [false, false, false, false, false, false, false, false, false, false, false, false, false, false] rfl rfl ?_
  clear hS; intro w hS _
  have hQ : St w [cB b2 [.int .i64 0, .int .i64 0, .slice none 0 0] 30, cB b1 [.int .i64 H.tick, .int .i64 H.last, .slice (some ⟨bb, o, none⟩) n c] 30] [(0, w0)] := hS
  refine d_take 1 (bs' := [false, true, false, false, false, false, false, false, false, false, false, false, false, false]) hA rfl rfl (by kernel_rfl) (fun _ _ _ h => h) (Y.fieldAddr (k := 2) rfl Tryz.underlying30 rfl rfl Tryz.sizeOf28) rfl ?_
  clear hA a; intro a hA
  refine d_load 2 (bs' := [false, true, true, false, false, false, false, false, false, false, false, false, false, false]) hA hQ rfl rfl rfl (by kernel_rfl) (fun _ _ _ h => h) (Y.load rfl Tryz.isAgg28 (fun w h => h.cell (i := 1) rfl rfl)) rfl ?_
  clear hA a; intro a hA
  refine d_take 3 (bs' := [false, true, true, true, false, false, false, false, false, false, false, false, false, false]) hA rfl rfl (by kernel_rfl) (fun _ _ _ h => h) (Y.move rfl) rfl ?_
  clear hA a; intro a hA
  refine d_take 4 (bs' := [false, true, true, true, true, false, false, false, false, false, false, false, false, false]) hA rfl rfl (by kernel_rfl) (fun _ _ _ h => h) (Y.slH (h := at') rfl rfl Tryz.underlying28 Tryz.sizeOf43 (by omega)) rfl ?_
  clear hA a; intro a hA
  refine d_take 6 (bs' := [false, true, true, true, true, false, true, false, false, false, false, false, false, false]) hA rfl rfl (by kernel_rfl) (fun _ _ _ h => h) (Y.fieldAddr (k := 2) rfl Tryz.underlying30 rfl rfl Tryz.sizeOf28) rfl ?_
  clear hA a; intro a hA
  refine d_load 7 (bs' := [false, true, true, true, true, false, true, true, false, false, false, false, false, false]) hA hQ rfl rfl rfl (by kernel_rfl) (fun _ _ _ h => h) (Y.load rfl Tryz.isAgg28 (fun w h => h.cell (i := 1) rfl rfl)) rfl ?_
  clear hA a; intro a hA
  refine d_take 8 (bs' := [false, true, true, true, true, false, true, true, true, false, false, false, false, false]) hA rfl rfl (by kernel_rfl) (fun _ _ _ h => h) (Y.move rfl) rfl ?_
  clear hA a; intro a hA
  refine d_take 9 (bs' := [false, true, true, true, true, false, true, true, true, true, false, false, false, false]) hA rfl rfl (by kernel_rfl) (fun _ _ _ h => h) (Y.addI rfl rfl (by omega)) rfl ?_
  clear hA a; intro a hA
  refine d_take 10 (bs' := [false, true, true, true, true, false, true, true, true, true, true, false, false, false]) hA rfl rfl (by kernel_rfl) (fun _ _ _ h => h) (Y.slL (l := at' + 1) rfl rfl Tryz.underlying28 Tryz.sizeOf43 (by omega)) rfl ?_
  clear hA a; intro a hA
  refine d_one 0 (bs' := [true, true, true, true, true, false, true, true, true, true, true, false, false, false]) true rfl (by kernel_rfl) ?_
  refine m_buildSlice ([]) hA hS rfl rfl (run_bs0 Tryz.underlying28 Tryz.sizeOf43) ?_
  clear hA hS a; intro a b3 w hA hgb3 hS
  replace hQ := hQ.gr hgb3
  refine m_nil (m_then ⟨fun _ => hQ, ?_⟩)
  refine d_one 5 (bs' := [true, true, true, true, true, true, true, true, true, true, true, false, false, false]) true rfl (by kernel_rfl) ?_
  refine m_append (bs := [cB b3 [] 43]) 43 64 l elemPR hA hS (RowB.start _ _ _) rfl rfl rfl Tryz.underlying28 hll (fun j u hj => ?_) hcs1.one (by omega) (by decide) ?_
  · rw [hadd]
    exact hS.rd (by simp) (Nat.zero_le _) (hcell2 j u (by rw [List.getElem?_append_left (List.getElem?_eq_some_iff.1 hj).1]; exact hj))
  clear hA hS a; intro a w v bs hA hR hnv hS
  replace hQ := hS.goneL
  rw [Nat.zero_add, List.nil_append] at hR
  refine m_nil (m_then ⟨fun _ => hQ, ?_⟩)
  refine d_one 11 (bs' := [true, true, true, true, true, true, true, true, true, true, true, true, false, false]) true rfl (by kernel_rfl) ?_
  refine m_append (bs := bs) 43 64 r elemPR hA hS hR rfl rfl rfl Tryz.underlying28 hrl (fun j u hj => ?_) hcs3.one (by omega) (by decide) ?_
  · have hj' := (List.getElem?_eq_some_iff.1 hj).1
    have hadd2 : (⟨bb, if c = at' + 1 then o else o + (at' + 1) * 4, none⟩ : Addr).add j = ⟨bb, o + (at' * 4 + (4 + j)), none⟩ := by
      rw [if_neg (by omega)]
      unfold Addr.add
      split
      · rename_i h0; subst h0; simp <;> omega
      · simp <;> omega
    rw [hadd2]
    refine hS.rd (by simp) (Nat.zero_le _) (hcell2 _ u ?_)
    rw [List.getElem?_append_right (by omega), show at' * 4 + (4 + j) - l.length = 4 + j from by omega, List.getElem?_append_right (by simp), show 4 + j - [Value.int .i64 q.id, .int .i64 q.leader, .slice M9 m9 mc9, .slice I9 i9 ic9].length = j from by simp]
    exact hj
  clear hA hS a; intro a w v bs hA hR hnv hS
  replace hQ := hS.goneL
  have hRn : at' + (n - (at' + 1)) = n - 1 := by omega
  rw [hRn] at hR
  obtain ⟨A5, c5, rfl⟩ := hR.shape
  replace hS : St w ([cB b2 [.int .i64 0, .int .i64 0, .slice none 0 0] 30, cB b1 [.int .i64 H.tick, .int .i64 H.last, .slice (some ⟨bb, o, none⟩) n c] 30] ++ bs) [(0, w0)] := hS.perm List.perm_append_comm
  refine m_nil (m_then ⟨fun _ => hQ, ?_⟩)
  refine d_take 12 (bs' := [true, true, true, true, true, true, true, true, true, true, true, true, true, false]) hA rfl rfl (by kernel_rfl) (fun _ _ _ h => h) (Y.fieldAddr (k := 2) rfl Tryz.underlying30 rfl rfl Tryz.sizeOf28) rfl ?_
  clear hA a; intro a hA
  refine d_one 13 (bs' := [true, true, true, true, true, true, true, true, true, true, true, true, true, true]) false rfl (by kernel_rfl) ?_
  refine m_store 1 hA hS rfl rfl Tryz.sizeOf28 rfl rfl rfl rfl ?_
  clear hS; intro w hS
  refine m_nil (m_then ⟨fun h => (by cases h), ?_⟩)
  refine d_done (by kernel_rfl) ?_
  refine m_then ?_
  refine m_seq ?_
  refine m_region ?_
  refine m1 hA hS (Y.loads rfl Tryz.isAgg30 Tryz.sizeOf30 (fun w h => h.cells (i := 1) rfl) rfl) rfl ?_
  clear hA a; intro a hA
  refine m_store 0 hA hS rfl rfl Tryz.sizeOf30 rfl rfl rfl rfl ?_
  clear hS; intro w hS
  refine m_nil ?_
  refine m_then ?_
  refine m_retc ?_
  refine m_retc1 0 hA hS Tryz.results104 rfl rfl Tryz.isAgg30 Tryz.sizeOf30 ?_
  have hg := hS.gr0 (w0 := w0) (by simp)
  obtain ⟨hRl, h5⟩ := hR
  have hps : H.ps.eraseIdx at' = H.ps.take at' ++ H.ps.drop (at' + 1) := List.eraseIdx_eq_take_drop_succ _ _
  have hlen : (H.ps.eraseIdx at').length = n - 1 := by rw [List.length_eraseIdx, if_pos (by omega), hl]
  have hnew : PtysCK (fun b => K b ∨ w0.heap.size ≤ b) w (l ++ r) (H.ps.eraseIdx at') := by
    rw [hps]
    exact (hcs1.mv (fun b => .inl) (hg.keeps K)).app (hcs3.mv (fun b => .inl) (hg.keeps K))
  rcases h5 with ⟨e5, hz, _⟩ | ⟨g, cap, cur, e5, rfl, h6, h7, h8, h9⟩
  · obtain ⟨rfl, _, rfl⟩ := Value.slice.inj e5
    refine ⟨_, _, _, rfl, hg, ?_, by omega⟩
    have h0 : H.ps.eraseIdx at' = [] := List.eq_nil_of_length_eq_zero (by omega)
    rw [show n - 1 = 0 from by omega]
    simp only [h0]
    exact RowOf.nil
  · obtain ⟨rfl, _, rfl⟩ := Value.slice.inj e5
    have hgb := hS.bx (cB g cur 43) (by simp [setB])
    have hge : w0.heap.size ≤ g := hS.ge (v := w0) (by simp) (x := cB g cur 43) (by simp [setB])
    have hrow := hnew.row (b := g) hgb (by rw [hlen]; exact h9) (.inr hge) (by omega)
    rw [hlen] at hrow
    exact ⟨_, _, _, rfl, hg, hrow, h6⟩
/-! ### kept -/
def keptF (t who only : Int) (p : Pty) : Pty := { p with inv := p.inv.filter fun i => decide (t < i.til) && !(decide (i.who = who) && (decide (only = 0) || decide (only = p.id))) }
/-- As m_append, and where the row lies. -/
theorem m_appendG {P : Program} {n' : Nat} {s : List (Nat × Value)} {ops : Array Oper} {rest : List Oper} {Q : Exit → Act → World → Prop} {a : Act} {w : World} {bs B : List Bx} {V : List (Nat × World)} {d : Nat} {t ty : TypeId} {x y : Operand} {pos : String} {aft : Array Edge} {v : Value} {n m c k : Nat} {xs : List Value} {A : Addr}
    (e : TypeId) (bytes : Nat) (news : List Value) (hE : elemOk P e k bytes = true) (hA : Fits a n' s) (hS : St w (bs ++ B) V) (hR : RowB e k v n xs bs) (hx : ev s x = some v) (hy : ev s y = some (.slice (some A) m c)) (hd : Nat.blt d n' = true)
    (ht : P.underlying t = some (.slice e)) (hl : news.length = m * k) (hnews : ∀ j u, news[j]? = some u → w.cell? (A.add j) = some u) (h1 : ∀ u ∈ news, u.oneCell' = true) (h63 : n + m ≤ 1000000) (hbytes : bytes ≤ 1000)
    (kk : ∀ a' w' v' bs', Fits a' n' ((d, v') :: s) → RowB e k v' (n + m) (xs ++ news) bs' → (∀ z ∈ bs', (∃ u ∈ bs, u.b = z.b) ∨ w.heap.size ≤ z.b) → St w' (bs' ++ B) V → wpList P ops Q rest a' w') :
    wpList P ops Q (⟨some d, .call { callee := .builtin .append, args := #[x, y], argTypes := #[t, t] }, ty, pos, aft, none⟩ :: rest) a w := by
  refine wpList_plain rfl fun KK hK => ?_
  obtain ⟨i, z, hi, hz, hsize, hzs, hb, hk⟩ := elemOk_spec hE
  have hbytes' : (n + m) * bytes ≤ 140737488355328 := Nat.le_trans (Nat.mul_le_mul h63 hbytes) (by decide)
  obtain ⟨v', w', hr, ho, hg, hn, hat⟩ := run_append_own_at (P := P) w 0 t ty e i z k bytes ht hi hz hsize hb hzs hk v n xs (hR.owns hS) A m c news hl hnews h1 (by simp only [maxLen]; omega) hbytes' (Nat.zero_le _)
  obtain ⟨bs', hR', hS'⟩ := hS.rowed hR ho hg hat
  have hr' : (execOp a.eval ⟨some d, .call { callee := .builtin .append, args := #[x, y], argTypes := #[t, t] }, ty, pos, aft, none⟩).run P w = .ok (.value v') w' := by
    simp [execOp, resolve, invoke, builtin, hA.ev hx, hA.ev hy, hr]
  have hwhere : ∀ z ∈ bs', (∃ u ∈ bs, u.b = z.b) ∨ w.heap.size ≤ z.b := fun z hz => by
    rcases hR'.2 with ⟨_, _, rfl⟩ | ⟨g, cap, cur, rfl, rfl, _⟩
    · cases hz
    · simp at hz; subst hz
      rcases hat with hat | hat
      · rcases hR.2 with ⟨rfl, _⟩ | ⟨g2, cap2, cur2, rfl, rfl, _⟩
        · simp [Value.ownBlock] at hat
        · simp only [Value.ownBlock, Option.some.injEq] at hat
          exact .inl ⟨cB g2 cur2 e, by simp, hat.symm⟩
      · simp only [Value.ownBlock, Option.some.injEq] at hat
        exact .inr (by rw [hat]; exact Nat.le_refl _)
  unfold Oper.wp
  rw [hr']
  exact hK _ _ (kk _ _ _ _ (hA.put (blt_lt hd) v') hR' hwhere hS')
theorem unstep2 {α : Type} (F : α → α) {ps : List α} {k : Nat} {p : α} (hp : ps[k]? = some p) : ((ps.take k).map F ++ ps.drop k)[k]? = some p ∧ ((ps.take k).map F ++ ps.drop k).set k (F p) = (ps.take (k + 1)).map F ++ ps.drop (k + 1) := unstep F hp
set_option maxRecDepth 100000 in
set_option maxHeartbeats 4000000 in
theorem kept_c (K : Nat → Prop) (t who only : Int) (H : Hall) (A : Option Addr) (n c : Nat) (w0 : World) (hP : PtysK K w0 A n H.ps) (hn : n ≤ 100) (hq : ∀ p ∈ H.ps, p.inv.length ≤ 100) (hcap : n ≤ c) :
    Calls Tryz.prog 99 #[.agg #[.int .i64 H.tick, .int .i64 H.last, .slice A n c], .int .i64 t, .int .i64 who, .int .i64 only] w0 (GivesH ⟨H.tick, H.last, H.ps.map (keptF t who only)⟩ K w0) := by
  have hl := hP.len
  have hPl := hP.lt
  refine m_enter Tryz.func99 rfl Tryz.ntmps99 (Nat.le_of_ble_eq_true rfl) ?_
  intro a hA
  have hS := St.start w0
  refine m_seq ?_
  refine m_region ?_
  refine m_box hA hS rfl rfl ?_
  clear hA hS a; intro a b1 w hA hleb1 hgb1 hS
  refine m_alloc hA hS Tryz.zeroValue30 rfl ?_
  clear hA hS a; intro a b2 w hA hleb2 hgb2 hS
  refine m_nil ?_
  refine m_then ?_
  refine m_seq ?_
  refine m_seq ?_
  refine m_region ?_
  refine m1 hA hS (Y.assign rfl) rfl ?_
  clear hA a; intro a hA
  refine m_nil ?_
  refine m_then ?_
  refine m_block ?_
  have hS2 : St w [cB b2 [.int .i64 0, .int .i64 0, .slice none 0 0] 30, cB b1 [.int .i64 H.tick, .int .i64 H.last, .slice A n c] 30] [(0, w0)] := hS
  replace hS := hS2
  clear hS2
  obtain ⟨L, hL⟩ : ∃ L, L = w.heap.size := ⟨_, rfl⟩
  have hb1 : b1 < L := by rw [hL]; exact hS.lt (x := cB b1 [.int .i64 H.tick, .int .i64 H.last, .slice A n c] 30) (by simp)
  have hb2 : b2 < L := by rw [hL]; exact hS.lt (x := cB b2 [.int .i64 0, .int .i64 0, .slice none 0 0] 30) (by simp)
  have hg0 := hS.gr0 (w0 := w0) (by simp)
  have hL0 : w0.heap.size ≤ L := by rw [hL]; exact hg0.size
  have hSs : St w [cB b2 [.int .i64 0, .int .i64 0, .slice none 0 0] 30, cB b1 [.int .i64 H.tick, .int .i64 H.last, .slice A n c] 30] [(L, w), (0, w0)] := St.seal (lo := L) hS (fun x hx => by
    simp at hx
    rcases hx with rfl | rfl
    · exact hb2
    · exact hb1)
  replace hS := hSs
  clear hSs
  refine m_loopX [8, 4, 1, 2, 3] rfl hA (((0 : Nat), A, c, w)) (fun x => [(9, .int .i64 (x.1 : Int))]) (fun x => [cB b2 [.int .i64 0, .int .i64 0, .slice none 0 0] 30, cB b1 [.int .i64 H.tick, .int .i64 H.last, .slice x.2.1 n x.2.2.1] 30]) (fun x => [(L, x.2.2.2), (0, w0)]) (fun x => x.1 ≤ n ∧ n ≤ x.2.2.1 ∧ Gr w0 x.2.2.2 ∧ L ≤ x.2.2.2.heap.size ∧ PtysK (fun b => (K b ∧ b < w0.heap.size) ∨ L ≤ b) x.2.2.2 x.2.1 n ((H.ps.take x.1).map (keptF t who only) ++ H.ps.drop x.1)) (fun x => n - x.1) (ks := [9]) rfl hS (⟨Nat.zero_le _, hcap, hg0, Nat.le_of_eq hL, by simpa using hPl.mv (fun b => .inl) (hg0.keeps _)⟩) ?_
  clear hA hS a; rintro ⟨j, A1, c1, v⟩ a w hA hS hj
  try dsimp only at hA
  try dsimp only at hS
  try dsimp only at hj
  obtain ⟨hj, hc1, hgv, hLv, hPv⟩ := hj
  replace hA := hA.keep [9, 8, 4, 1, 2, 3] rfl
  refine m_seq ?_
  refine m_seq ?_
  refine m_region ?_
  refine m1 hA hS (Y.move rfl) rfl ?_
  clear hA a; intro a hA
  refine m1 hA hS (Y.fieldAddr (k := 2) rfl Tryz.underlying30 rfl rfl Tryz.sizeOf28) rfl ?_
  clear hA a; intro a hA
  refine m1 hA hS (Y.load rfl Tryz.isAgg28 (fun w h => h.cell (i := 1) rfl rfl)) rfl ?_
  clear hA a; intro a hA
  refine m1 hA hS (Y.lenSl rfl Tryz.underlying28) rfl ?_
  clear hA a; intro a hA
  refine m1 hA hS (Y.ltI rfl rfl) rfl ?_
  clear hA a; intro a hA
  refine m_nil ?_
  refine m_then ?_
  refine m_condP hA rfl (fun hlt => ?_) (fun hlt => ?_)
  · obtain ⟨p, hp⟩ : ∃ p, H.ps[j]? = some p := ⟨_, List.getElem?_eq_getElem (by omega)⟩
    obtain ⟨u1, u2⟩ := unstep2 (keptF t who only) hp
    obtain ⟨bb, o, p', M, m, mc, I, i, ic, rfl, hKb, hp', p0, p1, p2, p3, hin⟩ := hPv.at (j := j) (by omega)
    rw [u1] at hp'
    obtain rfl := Option.some.inj hp'
    have hq1 := hq p (List.mem_of_getElem? hp)
    have hil := hin.inv.len
    have hkk : ∀ (B : List Bx) w, St w B [(L, v), (0, w0)] → Keeps (fun b => (K b ∧ b < w0.heap.size) ∨ L ≤ b) v w := fun B w h => h.keeps2 K (by simp) (by simp) hgv
    refine m_skip ?_
    refine m_then ?_
    refine m_seq ?_
    refine m_block ?_
    refine m_seq ?_
    refine m_region ?_
    refine m1 hA hS (Y.fieldAddr (k := 2) rfl Tryz.underlying30 rfl rfl Tryz.sizeOf28) rfl ?_
    clear hA a; intro a hA
    refine m1 hA hS (Y.load rfl Tryz.isAgg28 (fun w h => h.cell (i := 1) rfl rfl)) rfl ?_
    clear hA a; intro a hA
    refine m1 hA hS (Y.move rfl) rfl ?_
    clear hA a; intro a hA
    refine m1 hA hS (Y.indexAddrN rfl rfl Tryz.underlying28 Tryz.sizeOf43 (by omega)) rfl ?_
    clear hA a; intro a hA
    refine m1 hA hS (Y.loads rfl Tryz.isAgg43 Tryz.sizeOf43 (fun w h => (hkk _ w h).cells (hKb) (Cs.four p0 p1 p2 p3)) rfl) rfl ?_
    clear hA a; intro a hA
    refine m_alloc hA hS Tryz.zeroValue43 rfl ?_
    clear hA hS a; intro a b3 w hA hleb3 hgb3 hS
    refine m_store 0 hA hS rfl rfl Tryz.sizeOf43 rfl rfl rfl rfl ?_
    clear hS; intro w hS
    refine m_nil ?_
    refine m_then ?_
    refine m_seq ?_
    refine m_region ?_
    refine m1 hA hS (Y.assign rfl) rfl ?_
    clear hA a; intro a hA
    refine m_nil ?_
    refine m_then ?_
    refine m_seq ?_
    refine m_seq ?_
    refine m_region ?_
    refine m1 hA hS (Y.assign rfl) rfl ?_
    clear hA a; intro a hA
    refine m_nil ?_
    refine m_then ?_
    refine m_block ?_
    refine m_loopX [10, 9, 8, 4, 1, 2, 3] rfl hA (((0 : Nat), Value.slice none 0 0, ([] : List Inv), ([] : List Bx))) (fun x => [(11, x.2.1), (12, .int .i64 (x.1 : Int))]) (fun x => [cB b3 [.int .i64 p.id, .int .i64 p.leader, .slice M m mc, .slice I i ic] 43, cB b2 [.int .i64 0, .int .i64 0, .slice none 0 0] 30, cB b1 [.int .i64 H.tick, .int .i64 H.last, .slice (some ⟨bb, o, none⟩) n c1] 30] ++ x.2.2.2) (fun _ => [(L, v), (0, w0)]) (fun x => x.1 ≤ i ∧ x.2.2.1 = (p.inv.take x.1).filter (fun i => decide (t < i.til) && !(decide (i.who = who) && (decide (only = 0) || decide (only = p.id)))) ∧ RowB 40 2 x.2.1 x.2.2.1.length (x.2.2.1.flatMap cInv) x.2.2.2 ∧ ∀ z ∈ x.2.2.2, L ≤ z.b) (fun x => i - x.1) (ks := [11, 12]) rfl hS (⟨Nat.zero_le _, rfl, RowB.nil _ _, by simp⟩) ?_
    clear hA hS a; rintro ⟨r, iv, ys, bi⟩ a w hA hS hj
    try dsimp only at hA
    try dsimp only at hS
    try dsimp only at hj
    obtain ⟨hr, hys, hrow, hbi⟩ := hj
    replace hA := hA.keep [11, 12, 10, 9, 8, 4, 1, 2, 3] rfl
    refine m_seq ?_
    refine m_seq ?_
    refine m_region ?_
    refine m1 hA hS (Y.move rfl) rfl ?_
    clear hA a; intro a hA
    refine m1 hA hS (Y.fieldAddr (k := 3) rfl Tryz.underlying43 rfl rfl Tryz.sizeOf41) rfl ?_
    clear hA a; intro a hA
    refine m1 hA hS (Y.load rfl Tryz.isAgg41 (fun w h => h.cell (i := 0) rfl rfl)) rfl ?_
    clear hA a; intro a hA
    refine m1 hA hS (Y.lenSl rfl Tryz.underlying41) rfl ?_
    clear hA a; intro a hA
    refine m1 hA hS (Y.ltI rfl rfl) rfl ?_
    clear hA a; intro a hA
    refine m_nil ?_
    refine m_then ?_
    refine m_condP hA rfl (fun hlt2 => ?_) (fun hlt2 => ?_)
    · obtain ⟨bx, ox, x, hI, hx, hKx, x0, x1⟩ : ∃ bx ox x, I = some ⟨bx, ox, none⟩ ∧ p.inv[r]? = some x ∧ ((K bx ∧ bx < w0.heap.size) ∨ L ≤ bx) ∧ v.cell? ⟨bx, ox + r * 2, none⟩ = some (.int .i64 x.who) ∧ v.cell? ⟨bx, ox + r * 2 + 1, none⟩ = some (.int .i64 x.til) := by
        obtain ⟨bx, ox, x, e, hx, h⟩ := RowOf.get hin.inv (j := r) (by omega)
        exact ⟨bx, ox, x, e, hx, h.1, h.2.1, h.2.2⟩
      subst hI
      have hyl : ys.length ≤ 100 := by
        rw [hys]
        have := List.length_filter_le (fun i : Inv => decide (t < i.til) && !(decide (i.who = who) && (decide (only = 0) || decide (only = p.id)))) (p.inv.take r)
        rw [List.length_take] at this
        omega
      have hstep : (p.inv.take (r + 1)).filter (fun i => decide (t < i.til) && !(decide (i.who = who) && (decide (only = 0) || decide (only = p.id)))) = ys ++ if (decide (t < x.til) && !(decide (x.who = who) && (decide (only = 0) || decide (only = p.id)))) = true then [x] else [] := by
        rw [take_at hx, List.filter_append, ← hys, List.filter_cons, List.filter_nil]
      refine m_skip ?_
      refine m_then ?_
      refine m_seq ?_
      refine m_block ?_
      refine m_seq ?_
      refine m_region ?_
      refine m1 hA hS (Y.fieldAddr (k := 3) rfl Tryz.underlying43 rfl rfl Tryz.sizeOf41) rfl ?_
      clear hA a; intro a hA
      refine m1 hA hS (Y.load rfl Tryz.isAgg41 (fun w h => h.cell (i := 0) rfl rfl)) rfl ?_
      clear hA a; intro a hA
      refine m1 hA hS (Y.move rfl) rfl ?_
      clear hA a; intro a hA
      refine m1 hA hS (Y.indexAddrN rfl rfl Tryz.underlying41 Tryz.sizeOf40 (by omega)) rfl ?_
      clear hA a; intro a hA
      refine m1 hA hS (Y.fieldAddr (k := 0) rfl Tryz.underlying40 rfl rfl Tryz.sizeOf3) rfl ?_
      clear hA a; intro a hA
      refine m1 hA hS (Y.load rfl Tryz.isAgg3 (fun w h => (hkk _ w h).cell (hKx) (x0))) rfl ?_
      clear hA a; intro a hA
      refine m1 hA hS (Y.move rfl) rfl ?_
      clear hA a; intro a hA
      refine m1 hA hS (Y.eqI rfl rfl) rfl ?_
      clear hA a; intro a hA
      refine m1 hA hS (Y.move rfl) rfl ?_
      clear hA a; intro a hA
      replace hA := hA.keep [41, 11, 12, 10, 9, 8, 4, 1, 2, 3] rfl
      apply m_and 9 50 41 hA hS rfl
      · intro hp1
        refine m1s hA (dj := 41) rfl rfl rfl hp1 rfl ?_
        intro a hA
        refine m1s hA (dj := 41) rfl rfl rfl hp1 rfl ?_
        clear hA a; intro a hA
        refine m1s hA (dj := 41) rfl rfl rfl hp1 rfl ?_
        clear hA a; intro a hA
        refine m1u hA (dj := 44) rfl rfl rfl rfl ?_
        clear hA a; intro a hA
        refine m1u hA (dj := 44) rfl rfl rfl rfl ?_
        clear hA a; intro a hA
        refine m1u hA (dj := 44) rfl rfl rfl rfl ?_
        clear hA a; intro a hA
        refine m1u hA (dj := 44) rfl rfl rfl rfl ?_
        clear hA a; intro a hA
        refine m1s hA (dj := 41) rfl rfl rfl hp1 rfl ?_
        clear hA a; intro a hA
        refine m1 hA hS (Y.pickF' rfl hp1 rfl) rfl ?_
        clear hA a; intro a hA
        exact m_nil (m_then ⟨hA.keep [50, 41, 11, 12, 10, 9, 8, 4, 1, 2, 3] rfl, hS⟩)
      · intro hp1
        refine m1g hA hS (dj := 41) rfl rfl rfl hp1 (Y.move rfl) rfl ?_
        intro a hA
        refine m1g hA hS (dj := 41) rfl rfl rfl hp1 (Y.eqI rfl rfl) rfl ?_
        clear hA a; intro a hA
        refine m1g hA hS (dj := 41) rfl rfl rfl hp1 (Y.move rfl) rfl ?_
        clear hA a; intro a hA
        replace hA := hA.keep [44, 41, 11, 12, 10, 9, 8, 4, 1, 2, 3] rfl
        apply m_or 5 49 44 hA hS rfl
        · intro hp2
          refine m1s hA (dj := 44) rfl rfl rfl hp2 rfl ?_
          intro a hA
          refine m1s hA (dj := 44) rfl rfl rfl hp2 rfl ?_
          clear hA a; intro a hA
          refine m1s hA (dj := 44) rfl rfl rfl hp2 rfl ?_
          clear hA a; intro a hA
          refine m1s hA (dj := 44) rfl rfl rfl hp2 rfl ?_
          clear hA a; intro a hA
          refine m1g hA hS (dj := 41) rfl rfl rfl hp1 (Y.pickT' rfl hp2 rfl) rfl ?_
          clear hA a; intro a hA
          exact m_nil (m_then ⟨hA.keep [49, 44, 41, 11, 12, 10, 9, 8, 4, 1, 2, 3] rfl, hS⟩)
        · intro hp2
          refine m1g hA hS (dj := 44) rfl rfl rfl hp2 (Y.move rfl) rfl ?_
          intro a hA
          refine m1g hA hS (dj := 44) rfl rfl rfl hp2 (Y.fieldAddr (k := 0) rfl Tryz.underlying43 rfl rfl Tryz.sizeOf3) rfl ?_
          clear hA a; intro a hA
          refine m1g hA hS (dj := 44) rfl rfl rfl hp2 (Y.load rfl Tryz.isAgg3 (fun w h => h.cell (i := 0) rfl rfl)) rfl ?_
          clear hA a; intro a hA
          refine m1g hA hS (dj := 44) rfl rfl rfl hp2 (Y.eqI rfl rfl) rfl ?_
          clear hA a; intro a hA
          refine m1g hA hS (dj := 41) rfl rfl rfl hp1 (Y.pickF' rfl hp2 rfl) rfl ?_
          clear hA a; intro a hA
          exact m_nil (m_then ⟨hA.keep [49, 44, 41, 11, 12, 10, 9, 8, 4, 1, 2, 3] rfl, hS⟩)
        · clear hA a; intro a w hA hS
          refine m1 hA hS (Y.pickT' rfl hp1 rfl) rfl ?_
          clear hA a; intro a hA
          exact m_nil (m_then ⟨hA.keep [50, 41, 11, 12, 10, 9, 8, 4, 1, 2, 3] rfl, hS⟩)
      · clear hA hS a; intro a w hA hS
        refine m1 hA hS (Y.assign rfl) rfl ?_
        clear hA a; intro a hA
        refine m_nil ?_
        refine m_then ?_
        refine m_seq ?_
        refine m_region ?_
        refine m1 hA hS (Y.fieldAddr (k := 3) rfl Tryz.underlying43 rfl rfl Tryz.sizeOf41) rfl ?_
        clear hA a; intro a hA
        refine m1 hA hS (Y.load rfl Tryz.isAgg41 (fun w h => h.cell (i := 0) rfl rfl)) rfl ?_
        clear hA a; intro a hA
        refine m1 hA hS (Y.move rfl) rfl ?_
        clear hA a; intro a hA
        refine m1 hA hS (Y.indexAddrN rfl rfl Tryz.underlying41 Tryz.sizeOf40 (by omega)) rfl ?_
        clear hA a; intro a hA
        refine m1 hA hS (Y.fieldAddr (k := 1) rfl Tryz.underlying40 rfl rfl Tryz.sizeOf3) rfl ?_
        clear hA a; intro a hA
        refine m1 hA hS (Y.load rfl Tryz.isAgg3 (fun w h => (hkk _ w h).cell (hKx) (x1))) rfl ?_
        clear hA a; intro a hA
        refine m1 hA hS (Y.move rfl) rfl ?_
        clear hA a; intro a hA
        refine m1 hA hS (Y.gtI rfl rfl) rfl ?_
        clear hA a; intro a hA
        refine m1 hA hS (Y.move rfl) rfl ?_
        clear hA a; intro a hA
        replace hA := hA.keep [59, 13, 11, 12, 10, 9, 8, 4, 1, 2, 3] rfl
        apply m_and 3 62 59 hA hS rfl
        · intro hp3
          refine m1s hA (dj := 59) rfl rfl rfl hp3 rfl ?_
          intro a hA
          refine m1s hA (dj := 59) rfl rfl rfl hp3 rfl ?_
          clear hA a; intro a hA
          refine m1 hA hS (Y.pickF' rfl hp3 rfl) rfl ?_
          clear hA a; intro a hA
          exact m_nil (m_then ⟨hA.keep [62, 59, 13, 11, 12, 10, 9, 8, 4, 1, 2, 3] rfl, hS⟩)
        · intro hp3
          refine m1g hA hS (dj := 59) rfl rfl rfl hp3 (Y.move rfl) rfl ?_
          intro a hA
          refine m1g hA hS (dj := 59) rfl rfl rfl hp3 (Y.not rfl) rfl ?_
          clear hA a; intro a hA
          refine m1 hA hS (Y.pickT' rfl hp3 rfl) rfl ?_
          clear hA a; intro a hA
          exact m_nil (m_then ⟨hA.keep [62, 59, 13, 11, 12, 10, 9, 8, 4, 1, 2, 3] rfl, hS⟩)
        · clear hA hS a; intro a w hA hS
          refine m_nil ?_
          refine m_then ?_
          refine m_cond hA rfl (fun hcd => ?_) (fun hcd => ?_)
          · rw [if_pos hcd] at hstep
            obtain ⟨A3, c3, rfl⟩ := hrow.shape
            refine m_region ?_
            refine m1 hA hS (Y.move rfl) rfl ?_
            clear hA a; intro a hA
            refine m1 hA hS (Y.fieldAddr (k := 3) rfl Tryz.underlying43 rfl rfl Tryz.sizeOf41) rfl ?_
            clear hA a; intro a hA
            refine m1 hA hS (Y.load rfl Tryz.isAgg41 (fun w h => h.cell (i := 0) rfl rfl)) rfl ?_
            clear hA a; intro a hA
            refine m1 hA hS (Y.move rfl) rfl ?_
            clear hA a; intro a hA
            refine m1 hA hS (Y.indexAddrN rfl rfl Tryz.underlying41 Tryz.sizeOf40 (by omega)) rfl ?_
            clear hA a; intro a hA
            refine m1 hA hS (Y.loads rfl Tryz.isAgg40 Tryz.sizeOf40 (fun w h => (hkk _ w h).cells (hKx) (Cs.two x0 x1)) rfl) rfl ?_
            clear hA a; intro a hA
            refine m_buildSlice ([.int .i64 x.who, .int .i64 x.til]) hA hS rfl rfl (bs_invR _ _) ?_
            clear hA hS a; intro a b4 w hA hgb4 hS
            have hSp : St w (bi ++ ([cB b4 [.int .i64 x.who, .int .i64 x.til] 40, cB b3 [.int .i64 p.id, .int .i64 p.leader, .slice M m mc, .slice (some ⟨bx, ox, none⟩) i ic] 43, cB b2 [.int .i64 0, .int .i64 0, .slice none 0 0] 30, cB b1 [.int .i64 H.tick, .int .i64 H.last, .slice (some ⟨bb, o, none⟩) n c1] 30])) [(L, v), (0, w0)] := hS.perm (List.perm_append_comm (l₁ := [_, _, _, _]))
            have hLw : L ≤ w.heap.size := Nat.le_trans hLv (hS.vs (L, v) (by simp)).2.2.2.1
            refine m_appendG (bs := bi) 40 16 [.int .i64 x.who, .int .i64 x.til] elemIR hA hSp hrow rfl rfl rfl Tryz.underlying41 rfl (hS.cells (i := 0) rfl) (List.all_eq_true.1 rfl) (by omega) (by decide) ?_
            clear hA hS hSp a; intro a w' iv' bi' hA hrow' hwh hS
            replace hS : St w' ([cB b3 [.int .i64 p.id, .int .i64 p.leader, .slice M m mc, .slice (some ⟨bx, ox, none⟩) i ic] 43, cB b2 [.int .i64 0, .int .i64 0, .slice none 0 0] 30, cB b1 [.int .i64 H.tick, .int .i64 H.last, .slice (some ⟨bb, o, none⟩) n c1] 30] ++ bi') [(L, v), (0, w0)] := (hS.perm (List.perm_append_comm (l₂ := [_, _, _, _]))).gone
            have hbi' : ∀ z ∈ bi', L ≤ z.b := fun z hz => by
              rcases hwh z hz with ⟨u, hu, e⟩ | h
              · rw [← e]; exact hbi u hu
              · omega
            have hrow2 : RowB 40 2 iv' (ys ++ [x]).length ((ys ++ [x]).flatMap cInv) bi' := by
              rw [List.length_append, List.flatMap_append]
              simpa [cInv] using hrow'
            refine m1 hA hS (Y.assign rfl) rfl ?_
            clear hA a; intro a hA
            refine m_nil ?_
            refine n_block ?_
            refine m_then ?_
            refine m_region ?_
            refine m1 hA hS (Y.move rfl) rfl ?_
            clear hA a; intro a hA
            refine m1 hA hS (Y.addI rfl rfl (by omega)) rfl ?_
            clear hA a; intro a hA
            refine m1 hA hS (Y.assign rfl) rfl ?_
            clear hA a; intro a hA
            refine m_nil ?_
            exact m_then ⟨(r + 1, iv', ys ++ [x], bi'), by (try dsimp only); omega, hA.keep [11, 12, 10, 9, 8, 4, 1, 2, 3] rfl, hS, by (try dsimp only); exact ⟨by omega, hstep.symm, hrow2, hbi'⟩⟩
          · rw [if_neg (by rw [hcd]; simp), List.append_nil] at hstep
            refine m_skip ?_
            refine n_block ?_
            refine m_then ?_
            refine m_region ?_
            refine m1 hA hS (Y.move rfl) rfl ?_
            clear hA a; intro a hA
            refine m1 hA hS (Y.addI rfl rfl (by omega)) rfl ?_
            clear hA a; intro a hA
            refine m1 hA hS (Y.assign rfl) rfl ?_
            clear hA a; intro a hA
            refine m_nil ?_
            exact m_then ⟨(r + 1, iv, ys, bi), by (try dsimp only); omega, hA.keep [11, 12, 10, 9, 8, 4, 1, 2, 3] rfl, hS, by (try dsimp only); exact ⟨by omega, hstep.symm, hrow, hbi⟩⟩
    · have hri : r = p.inv.length := by omega
      rw [hri, List.take_length] at hys
      obtain ⟨A3, c3, rfl⟩ := hrow.shape
      have hyl : ys.length ≤ 100 := by
        rw [hys]
        exact Nat.le_trans (List.length_filter_le _ _) hq1
      refine m_exit ?_
      refine x_then ?_
      refine x_then ?_
      refine x_block ?_
      refine m_then ?_
      refine m_seq ?_
      refine m_region ?_
      refine m1 hA hS (Y.move rfl) rfl ?_
      clear hA a; intro a hA
      refine m1 hA hS (Y.fieldAddr (k := 3) rfl Tryz.underlying43 rfl rfl Tryz.sizeOf41) rfl ?_
      clear hA a; intro a hA
      refine m_store 0 hA hS rfl rfl Tryz.sizeOf41 rfl rfl rfl rfl ?_
      clear hS; intro w hS
      refine m_nil ?_
      refine m_then ?_
      refine m_region ?_
      refine m1 hA hS (Y.loads rfl Tryz.isAgg30 Tryz.sizeOf30 (fun w h => h.cells (i := 2) rfl) rfl) rfl ?_
      clear hA a; intro a hA
      refine m1 hA hS (Y.move rfl) rfl ?_
      clear hA a; intro a hA
      refine m1 hA hS (Y.loads rfl Tryz.isAgg43 Tryz.sizeOf43 (fun w h => h.cells (i := 0) rfl) rfl) rfl ?_
      clear hA a; intro a hA
      have hLw : L ≤ w.heap.size := Nat.le_trans hLv (hS.vs (L, v) (by simp)).2.2.2.1
      have hgw := hS.gr0 (w0 := w0) (by simp)
      have hfr : Fresh L w bi := ⟨fun z hz => hS.bx z (List.mem_append_right [_, _, _] hz), (List.pairwise_append.1 (show (List.Pairwise (fun x y : Bx => x.b ≠ y.b) ([cB b3 [.int .i64 p.id, .int .i64 p.leader, .slice M m mc, .slice A3 ys.length c3] 43, cB b2 [.int .i64 0, .int .i64 0, .slice none 0 0] 30, cB b1 [.int .i64 H.tick, .int .i64 H.last, .slice (some ⟨bb, o, none⟩) n c1] 30] ++ bi)) from hS.nd)).2.1, hbi⟩
      obtain ⟨A4, c4, e4, hrd⟩ := InvsT.read hrow hfr hyl
      obtain ⟨rfl, _, rfl⟩ := Value.slice.inj e4
      have hkw := hkk _ w hS
      have hpk : PtyInK (fun b => (K b ∧ b < w0.heap.size) ∨ L ≤ b) w M m A3 ys.length (keptF t who only p) := ⟨hin.mem.mv (fun _ h => h) hkw, by
        rw [show (keptF t who only p).inv = ys from hys.symm]
        exact hrd.k (fun b hb _ => .inr hb)⟩
      refine m_call hA Tryz.call101 rfl rfl ((with_c (fun b => (K b ∧ b < w0.heap.size) ∨ L ≤ b) j (keptF t who only p) M m mc A3 ys.length c3 ⟨H.tick, H.last, (H.ps.take j).map (keptF t who only) ++ H.ps.drop j⟩ (some ⟨bb, o, none⟩) n c1 _ (hPv.mv (fun _ h => h) hkw) hpk (by omega) hn).mono ?_)
      rintro e w ⟨A5, n5, c5, rfl, hg5, hP5, hc5⟩
      refine ⟨_, rfl, ?_⟩
      clear hA a; intro a hA
      have hn5 : n5 = n := by
        have := hP5.len
        simp only [List.length_set, List.length_append, List.length_map, List.length_take, List.length_drop] at this
        omega
      subst hn5
      rw [u2] at hP5
      have hv5 : Gr w0 w := hgw.tr hg5
      have hLw5 : L ≤ w.heap.size := Nat.le_trans hLw hg5.size
      replace hP5 := hP5.mv (K' := fun b => (K b ∧ b < w0.heap.size) ∨ L ≤ b) (fun b hb => hb.elim (fun h => h) (fun h => .inr (Nat.le_trans hLw h))) Keeps.rf
      have hS5 : St w [cB b2 [.int .i64 0, .int .i64 0, .slice none 0 0] 30, cB b1 [.int .i64 H.tick, .int .i64 H.last, .slice (some ⟨bb, o, none⟩) n5 c1] 30] [(L, w), (0, w0)] := ((St.seal (lo := L) ((hS.gr hg5).sub (B' := [cB b2 [.int .i64 0, .int .i64 0, .slice none 0 0] 30, cB b1 [.int .i64 H.tick, .int .i64 H.last, .slice (some ⟨bb, o, none⟩) n5 c1] 30]) (.cons _ (List.sublist_append_left [_, _] bi))) (fun x hx => by
        simp at hx
        rcases hx with rfl | rfl
        · exact hb2
        · exact hb1)).dropV (fun q hq => by
          simp at hq ⊢
          rcases hq with rfl | rfl
          · exact .inl rfl
          · exact .inr (.inr rfl)))
      replace hS := hS5
      clear hS5
      refine m_store 1 hA hS rfl rfl Tryz.sizeOf30 rfl rfl rfl rfl ?_
      clear hS; intro w hS
      refine m_nil ?_
      refine n_block ?_
      refine m_then ?_
      refine m_region ?_
      refine m1 hA hS (Y.move rfl) rfl ?_
      clear hA a; intro a hA
      refine m1 hA hS (Y.addI rfl rfl (by omega)) rfl ?_
      clear hA a; intro a hA
      refine m1 hA hS (Y.assign rfl) rfl ?_
      clear hA a; intro a hA
      refine m_nil ?_
      exact m_then ⟨(j + 1, A5, c5, _), by (try dsimp only); omega, hA.keep [9, 8, 4, 1, 2, 3] rfl, hS, by (try dsimp only); exact ⟨by omega, hc5, hv5, hLw5, hP5⟩⟩
  · have hjn : j = H.ps.length := by omega
    rw [hjn, List.take_length, List.drop_length, List.append_nil] at hPv
    refine m_exit ?_
    refine x_then ?_
    refine x_then ?_
    refine x_block ?_
    refine m_then ?_
    refine m_seq ?_
    refine m_region ?_
    refine m1 hA hS (Y.loads rfl Tryz.isAgg30 Tryz.sizeOf30 (fun w h => h.cells (i := 1) rfl) rfl) rfl ?_
    clear hA a; intro a hA
    refine m_store 0 hA hS rfl rfl Tryz.sizeOf30 rfl rfl rfl rfl ?_
    clear hS; intro w hS
    refine m_nil ?_
    refine m_then ?_
    refine m_retc ?_
    refine m_retc1 0 hA hS Tryz.results99 rfl rfl Tryz.isAgg30 Tryz.sizeOf30 ?_
    have hg := hS.gr0 (w0 := w0) (by simp)
    refine ⟨A1, n, c1, rfl, hg, ?_, hc1⟩
    exact hPv.mv (fun b hb => hb.imp And.left (fun h => Nat.le_trans hL0 h)) (hS.keeps2 K (by simp) (by simp) hgv)
end Go.Proofs.YtljkhijdaaconaaGreat
