/- Contract of the reference of chapter 36: Invited. -/
import Derived.Test.YtljkhijdaaconaaGreatRef7
set_option linter.unusedVariables false
set_option linter.unusedSectionVars false
namespace Go.Proofs.YtljkhijdaaconaaGreat
open Go.RowKit

theorem ins_low {t til : Int} {l : List Inv} (h : ∀ x ∈ l, x.who < t) : insInv t til l = l ++ [⟨t, til⟩] := by
  unfold insInv
  rw [List.filter_eq_self.2 (fun x hx => by simpa using h x hx), List.filter_eq_nil_iff.2 (fun x hx => by have := h x hx; simp; omega)]
theorem ins_snoc {t til : Int} {l : List Inv} {x : Inv} (h : t < x.who) : insInv t til (l ++ [x]) = insInv t til l ++ [x] := by
  unfold insInv
  rw [List.filter_append, List.filter_append, show [x].filter (fun i => decide (i.who < t)) = [] from by simp; omega, show [x].filter (fun i => decide (t < i.who)) = [x] from by simp [h]]
  simp

set_option maxRecDepth 100000 in
set_option maxHeartbeats 8000000 in
theorem refInvited_c (K : Nat → Prop) (u t : Int) (H : Hall) (A : Option Addr) (n c : Nat) (w0 : World) (hP : PtysK K w0 A n H.ps) (hn : n ≤ 100) (hq : ∀ p ∈ H.ps, p.mem.length ≤ 100 ∧ p.inv.length ≤ 100) (hcap : n ≤ c) :
    Calls Tryz.prog 68 #[.agg #[.int .i64 H.tick, .int .i64 H.last, .slice A n c], .int .i64 u, .int .i64 t] w0 (GivesK (change (leadF u (invF t)) H) K w0) := by
  have hl := hP.len
  have hPl := hP.lt
  refine m_enter Tryz.func68 rfl Tryz.ntmps68 (Nat.le_of_ble_eq_true rfl) ?_
  intro a hA
  have hS := St.start w0
  refine m_seq ?_
  refine m_region ?_
  refine m_box hA hS rfl rfl ?_
  clear hA hS a; intro a b1 w hA hleb1 hgb1 hS
  refine m_alloc hA hS Tryz.zeroValue30 rfl ?_
  clear hA hS a; intro a b2 w hA hleb2 hgb2 hS
  refine m1 hA hS (Y.assign rfl) rfl ?_
  clear hA a; intro a hA
  refine m_nil ?_
  refine m_then ?_
  refine m_seq ?_
  refine m_region ?_
  refine m1 hA hS (Y.loads rfl Tryz.isAgg30 Tryz.sizeOf30 (fun w h => h.cells (i := 1) rfl) rfl) rfl ?_
  clear hA a; intro a hA
  refine m1 hA hS (Y.move rfl) rfl ?_
  clear hA a; intro a hA
  refine m_callb hA hS Tryz.call100 rfl rfl (refLead_c u H A n c _ (hP.z.gr (hS.gr0 (by simp))) hq) ?_
  clear hA hS a; intro a w hA hS hg
  rcases lead_both (H := H) u (invF t) with ⟨hne, hF⟩ | ⟨j, p, hlr, g, hj, hum, hul, hpl, hF⟩
  · refine m1 hA hS (Y.move rfl) rfl ?_
    clear hA a; intro a hA
    refine m1 hA hS (Y.extract rfl rfl) rfl ?_
    clear hA a; intro a hA
    refine m1 hA hS (Y.extract rfl rfl) rfl ?_
    clear hA a; intro a hA
    refine m1 hA hS (Y.assign rfl) rfl ?_
    clear hA a; intro a hA
    refine m1 hA hS (Y.assign rfl) rfl ?_
    clear hA a; intro a hA
    refine m_nil ?_
    refine m_then ?_
    refine m_seq ?_
    refine m_seq ?_
    refine m_region ?_
    refine m1 hA hS (Y.move rfl) rfl ?_
    clear hA a; intro a hA
    refine m1 hA hS (Y.neI rfl rfl) rfl ?_
    clear hA a; intro a hA
    refine m_nil ?_
    refine m_then ?_
    refine m_condT hA rfl ((decide_eq_true hne)) ?_
    refine m_seq ?_
    refine m_region ?_
    refine m1 hA hS (Y.build (vs := []) (cs := [.int .i64 0, .int .i64 0, .slice none 0 0]) rfl (by kernel_rfl)) rfl ?_
    clear hA a; intro a hA
    refine m1 hA hS (Y.move rfl) rfl ?_
    clear hA a; intro a hA
    refine m_store 0 hA hS rfl rfl Tryz.sizeOf30 rfl rfl rfl rfl ?_
    clear hS; intro w hS
    refine m1 hA hS (Y.assign rfl) rfl ?_
    clear hA a; intro a hA
    refine m_nil ?_
    refine m_then ?_
    refine m_retc ?_
    refine r_then ?_
    refine m_retc2 0 hA hS Tryz.results68 rfl rfl rfl Tryz.isAgg30 Tryz.sizeOf30 ?_
    rw [hF]
    exact ⟨_, _, _, rfl, hS.gr0 (by simp), RowOf.nil, Nat.le_refl _⟩
  · rw [hlr] at hA
    have hjl := (List.getElem?_eq_some_iff.1 hj).1
    refine m1 hA hS (Y.move rfl) rfl ?_
    clear hA a; intro a hA
    refine m1 hA hS (Y.extract rfl rfl) rfl ?_
    clear hA a; intro a hA
    refine m1 hA hS (Y.extract rfl rfl) rfl ?_
    clear hA a; intro a hA
    refine m1 hA hS (Y.assign rfl) rfl ?_
    clear hA a; intro a hA
    refine m1 hA hS (Y.assign rfl) rfl ?_
    clear hA a; intro a hA
    refine m_nil ?_
    refine m_then ?_
    refine m_seq ?_
    refine m_seq ?_
    refine m_region ?_
    refine m1 hA hS (Y.move rfl) rfl ?_
    clear hA a; intro a hA
    refine m1 hA hS (Y.neI rfl rfl) rfl ?_
    clear hA a; intro a hA
    refine m_nil ?_
    refine m_then ?_
    refine m_condF hA rfl ((by simp)) ?_
    refine m_skip ?_
    refine m_then ?_
    refine m_seq ?_
    refine m_seq ?_
    refine m_region ?_
    refine m1 hA hS (Y.move rfl) rfl ?_
    clear hA a; intro a hA
    refine m_callb hA hS Tryz.call28 rfl rfl (refId_c t _) ?_
    clear hA hS a; intro a w hA hS hg
    refine m1 hA hS (Y.not rfl) rfl ?_
    clear hA a; intro a hA
    refine m_nil ?_
    refine m_then ?_
    refine m_cond hA rfl (fun hid => ?_) (fun hid => ?_)
    · have hF2 : change (leadF u (invF t)) H = (noHall, 2) := by
        have e : invF t j H = (H, 2) := by unfold invF; rw [hj]; simp only; rw [if_pos (by simpa using hid)]
        rw [hF, e]; rfl
      refine m_seq ?_
      refine m_region ?_
      refine m1 hA hS (Y.build (vs := []) (cs := [.int .i64 0, .int .i64 0, .slice none 0 0]) rfl (by kernel_rfl)) rfl ?_
      clear hA a; intro a hA
      refine m_store 0 hA hS rfl rfl Tryz.sizeOf30 rfl rfl rfl rfl ?_
      clear hS; intro w hS
      refine m1 hA hS (Y.assign rfl) rfl ?_
      clear hA a; intro a hA
      refine m_nil ?_
      refine m_then ?_
      refine m_retc ?_
      refine r_then ?_
      refine m_retc2 0 hA hS Tryz.results68 rfl rfl rfl Tryz.isAgg30 Tryz.sizeOf30 ?_
      rw [hF2]
      exact ⟨_, _, _, rfl, hS.gr0 (by simp), RowOf.nil, Nat.le_refl _⟩
    · have hid' : isIDb t = true := by simpa using hid
      have hfp := find_place g t
      have hpn := place_nn H t
      refine m_skip ?_
      refine m_then ?_
      refine m_seq ?_
      refine m_seq ?_
      refine m_region ?_
      refine m1 hA hS (Y.loads rfl Tryz.isAgg30 Tryz.sizeOf30 (fun w h => h.cells (i := 1) rfl) rfl) rfl ?_
      clear hA a; intro a hA
      refine m1 hA hS (Y.move rfl) rfl ?_
      clear hA a; intro a hA
      refine m_callb hA hS Tryz.call75 rfl rfl (refFind_c t H A n c _ (hP.z.gr (hS.gr0 (by simp)))) ?_
      clear hA hS a; intro a w hA hS hg
      refine m1 hA hS (Y.geI rfl rfl) rfl ?_
      clear hA a; intro a hA
      refine m_nil ?_
      refine m_then ?_
      refine m_condP hA rfl (fun h1 => ?_) (fun h1 => ?_)
      · have hF2 : change (leadF u (invF t)) H = (noHall, 361) := by
          have e : invF t j H = (H, 361) := by unfold invF; rw [hj]; simp only; rw [if_neg (by rw [hid']; simp), if_pos (by omega)]
          rw [hF, e]; rfl
        refine m_seq ?_
        refine m_region ?_
        refine m1 hA hS (Y.build (vs := []) (cs := [.int .i64 0, .int .i64 0, .slice none 0 0]) rfl (by kernel_rfl)) rfl ?_
        clear hA a; intro a hA
        refine m_store 0 hA hS rfl rfl Tryz.sizeOf30 rfl rfl rfl rfl ?_
        clear hS; intro w hS
        refine m1 hA hS (Y.assign rfl) rfl ?_
        clear hA a; intro a hA
        refine m_nil ?_
        refine m_then ?_
        refine m_retc ?_
        refine r_then ?_
        refine m_retc2 0 hA hS Tryz.results68 rfl rfl rfl Tryz.isAgg30 Tryz.sizeOf30 ?_
        rw [hF2]
        exact ⟨_, _, _, rfl, hS.gr0 (by simp), RowOf.nil, Nat.le_refl _⟩
      · have hti0 := g.ti0
        have hti1 := g.ti1
        have hsz := g.sz p (List.mem_of_getElem? hj)
        have hso := g.so p (List.mem_of_getElem? hj)
        obtain ⟨bb, o, p', M, m, mc, I, i, ic, rfl, hKb, hp', p0, p1, p2, p3, hin⟩ := hPl.at (j := j) (by omega)
        rw [hj] at hp'
        obtain rfl := Option.some.inj hp'
        have hml : p.mem.length = m := hin.mem.len
        have hil : p.inv.length = i := hin.inv.len
        refine m_skip ?_
        refine m_then ?_
        refine m_seq ?_
        refine m_region ?_
        refine m1 hA hS (Y.fieldAddr (k := 2) rfl Tryz.underlying30 rfl rfl Tryz.sizeOf28) rfl ?_
        clear hA a; intro a hA
        refine m1 hA hS (Y.load rfl Tryz.isAgg28 (fun w h => h.cell (i := 1) rfl rfl)) rfl ?_
        clear hA a; intro a hA
        refine m1 hA hS (Y.move rfl) rfl ?_
        clear hA a; intro a hA
        refine m1 hA hS (Y.indexAddrN rfl rfl Tryz.underlying28 Tryz.sizeOf43 (by omega)) rfl ?_
        clear hA a; intro a hA
        refine m1 hA hS (Y.loads rfl Tryz.isAgg43 Tryz.sizeOf43 (fun w h => h.rds (by simp) (Nat.zero_le _) (Cs.four p0 p1 p2 p3)) rfl) rfl ?_
        clear hA a; intro a hA
        refine m_alloc hA hS Tryz.zeroValue43 rfl ?_
        clear hA hS a; intro a b3 w hA hleb3 hgb3 hS
        refine m_store 0 hA hS rfl rfl Tryz.sizeOf43 rfl rfl rfl rfl ?_
        clear hS; intro w hS
        refine m_nil ?_
        refine m_then ?_
        refine m_seq ?_
        refine m_region ?_
        refine m1 hA hS (Y.assign rfl) rfl ?_
        clear hA a; intro a hA
        refine m_nil ?_
        refine m_then ?_
        refine m_seq ?_
        refine m_region ?_
        refine m1 hA hS (Y.assign rfl) rfl ?_
        clear hA a; intro a hA
        refine m_nil ?_
        refine m_then ?_
        refine m_seq ?_
        refine m_seq ?_
        refine m_region ?_
        refine m1 hA hS (Y.assign rfl) rfl ?_
        clear hA a; intro a hA
        refine m_nil ?_
        refine m_then ?_
        refine m_block ?_
        have hS2 : St w [cB b3 [.int .i64 p.id, .int .i64 p.leader, .slice M m mc, .slice I i ic] 43, cB b2 [.int .i64 0, .int .i64 0, .slice none 0 0] 30, cB b1 [.int .i64 H.tick, .int .i64 H.last, .slice (some ⟨bb, o, none⟩) n c] 30] [(0, w0)] := hS
        replace hS := hS2
        clear hS2
        obtain ⟨L, hL⟩ : ∃ L, L = w.heap.size := ⟨_, rfl⟩
        have hb3 : b3 < L := by rw [hL]; exact hS.lt (x := cB b3 [.int .i64 p.id, .int .i64 p.leader, .slice M m mc, .slice I i ic] 43) (by simp)
        have hb2 : b2 < L := by rw [hL]; exact hS.lt (x := cB b2 [.int .i64 0, .int .i64 0, .slice none 0 0] 30) (by simp)
        have hb1 : b1 < L := by rw [hL]; exact hS.lt (x := cB b1 [.int .i64 H.tick, .int .i64 H.last, .slice (some ⟨bb, o, none⟩) n c] 30) (by simp)
        have hg0 := hS.gr0 (w0 := w0) (by simp)
        have hL0 : w0.heap.size ≤ L := by rw [hL]; exact hg0.size
        have hSs : St w [cB b3 [.int .i64 p.id, .int .i64 p.leader, .slice M m mc, .slice I i ic] 43, cB b2 [.int .i64 0, .int .i64 0, .slice none 0 0] 30, cB b1 [.int .i64 H.tick, .int .i64 H.last, .slice (some ⟨bb, o, none⟩) n c] 30] [(L, w), (0, w0)] := St.seal (lo := L) hS (fun x hx => by
          simp at hx
          rcases hx with rfl | rfl | rfl
          · exact hb3
          · exact hb2
          · exact hb1)
        replace hS := hSs
        clear hSs
        obtain ⟨wL, hwL⟩ : ∃ wL, wL = w := ⟨_, rfl⟩
        rw [← hwL] at hL
        have hSw : St w [cB b3 [.int .i64 p.id, .int .i64 p.leader, .slice M m mc, .slice I i ic] 43, cB b2 [.int .i64 0, .int .i64 0, .slice none 0 0] 30, cB b1 [.int .i64 H.tick, .int .i64 H.last, .slice (some ⟨bb, o, none⟩) n c] 30] [(L, wL), (0, w0)] := by rw [hwL]; exact hS
        replace hS := hSw
        clear hSw
        -- LOST [7]
        refine m_loopX [10, 8, 6, 3, 2] rfl hA (((0 : Nat), Value.slice none 0 0, ([] : List Inv), false, ([] : List Bx))) (fun x => [(11, x.2.1), (12, .bool x.2.2.2.1), (13, .int .i64 (x.1 : Int))]) (fun x => [cB b3 [.int .i64 p.id, .int .i64 p.leader, .slice M m mc, .slice I i ic] 43, cB b2 [.int .i64 0, .int .i64 0, .slice none 0 0] 30, cB b1 [.int .i64 H.tick, .int .i64 H.last, .slice (some ⟨bb, o, none⟩) n c] 30] ++ x.2.2.2.2) (fun _ => [(L, wL), (0, w0)]) (fun x => x.1 ≤ i ∧ (p.inv.take x.1).any (fun i => decide (i.who = t)) = false ∧ ((x.2.2.2.1 = false ∧ x.2.2.1 = p.inv.take x.1 ∧ ∀ y ∈ p.inv.take x.1, y.who < t) ∨ (x.2.2.2.1 = true ∧ x.2.2.1 = insInv t (H.tick + 600) (p.inv.take x.1) ∧ ∃ y ∈ p.inv.take x.1, t < y.who)) ∧ RowB 40 2 x.2.1 x.2.2.1.length (x.2.2.1.flatMap cInv) x.2.2.2.2 ∧ ∀ z ∈ x.2.2.2.2, L ≤ z.b) (fun x => i - x.1) (ks := [11, 12, 13]) rfl hS (⟨Nat.zero_le _, rfl, .inl ⟨rfl, rfl, by simp⟩, RowB.nil _ _, by simp⟩) ?_
        clear hA hS a; rintro ⟨r, lv, ys, put, bl⟩ a w hA hS hj
        try dsimp only at hA
        try dsimp only at hS
        try dsimp only at hj
        obtain ⟨hr, hany, hput, hrow, hbl⟩ := hj
        replace hA := hA.keep [11, 12, 13, 10, 8, 6, 3, 2] rfl
        have hyl : ys.length ≤ 7 := by
          have h2 : (p.inv.take r).length ≤ 5 := by rw [List.length_take]; omega
          rcases hput with ⟨_, e, _⟩ | ⟨_, e, _⟩
          · rw [e]; omega
          · rw [e, insInv_len hany]; omega
        refine m_seq ?_
        refine m_seq ?_
        refine m_region ?_
        refine m1 hA hS (Y.move rfl) rfl ?_
        clear hA a; intro a hA
        refine m1 hA hS (Y.fieldAddr (k := 3) rfl Tryz.underlying43 rfl rfl Tryz.sizeOf41) rfl ?_
        clear hA a; intro a hA
        refine m1 hA hS (Y.load rfl Tryz.isAgg41 (fun w h => h.cell (i := 0) rfl rfl)) rfl ?_
        clear hA a; intro a hA
        refine m1 hA hS (Y.lenSl rfl Tryz.underlying41) rfl ?_
        clear hA a; intro a hA
        refine m1 hA hS (Y.ltI rfl rfl) rfl ?_
        clear hA a; intro a hA
        refine m_nil ?_
        refine m_then ?_
        refine m_condP hA rfl (fun hlt => ?_) (fun hlt => ?_)
        · obtain ⟨bx, ox, x, rfl, hx, x0, x1⟩ := hin.inv.z.at (j := r) (by omega)
          have hxm := List.mem_of_getElem? hx
          refine m_skip ?_
          refine m_then ?_
          refine m_seq ?_
          refine m_block ?_
          refine m_seq ?_
          refine m_seq ?_
          refine m_region ?_
          refine m1 hA hS (Y.fieldAddr (k := 3) rfl Tryz.underlying43 rfl rfl Tryz.sizeOf41) rfl ?_
          clear hA a; intro a hA
          refine m1 hA hS (Y.load rfl Tryz.isAgg41 (fun w h => h.cell (i := 0) rfl rfl)) rfl ?_
          clear hA a; intro a hA
          refine m1 hA hS (Y.move rfl) rfl ?_
          clear hA a; intro a hA
          refine m1 hA hS (Y.indexAddrN rfl rfl Tryz.underlying41 Tryz.sizeOf40 (by omega)) rfl ?_
          clear hA a; intro a hA
          refine m1 hA hS (Y.fieldAddr (k := 0) rfl Tryz.underlying40 rfl rfl Tryz.sizeOf3) rfl ?_
          clear hA a; intro a hA
          refine m1 hA hS (Y.load rfl Tryz.isAgg3 (fun w h => h.rd (by simp) (Nat.zero_le _) (x0))) rfl ?_
          clear hA a; intro a hA
          refine m1 hA hS (Y.move rfl) rfl ?_
          clear hA a; intro a hA
          refine m1 hA hS (Y.eqI rfl rfl) rfl ?_
          clear hA a; intro a hA
          refine m_nil ?_
          refine m_then ?_
          refine m_condP hA rfl (fun htw => ?_) (fun htw => ?_)
          · have hF2 : change (leadF u (invF t)) H = (noHall, 363) := by
              have e : invF t j H = (H, 363) := by
                unfold invF; rw [hj]; simp only
                rw [if_neg (by rw [hid']; simp), if_neg (by omega), if_pos (List.any_eq_true.2 ⟨x, hxm, decide_eq_true htw⟩)]
              rw [hF, e]; rfl
            refine m_seq ?_
            refine m_region ?_
            refine m1 hA hS (Y.build (vs := []) (cs := [.int .i64 0, .int .i64 0, .slice none 0 0]) rfl (by kernel_rfl)) rfl ?_
            clear hA a; intro a hA
            refine m_store 1 hA hS rfl rfl Tryz.sizeOf30 rfl rfl rfl rfl ?_
            clear hS; intro w hS
            refine m1 hA hS (Y.assign rfl) rfl ?_
            clear hA a; intro a hA
            refine m_nil ?_
            refine m_then ?_
            refine m_retc ?_
            refine r_then ?_
            refine r_block ?_
            refine r_then ?_
            refine r_then ?_
            refine r_block ?_
            refine r_then ?_
            refine m_retc2 1 hA hS Tryz.results68 rfl rfl rfl Tryz.isAgg30 Tryz.sizeOf30 ?_
            rw [hF2]
            exact ⟨_, _, _, rfl, hS.gr0 (by simp), RowOf.nil, Nat.le_refl _⟩
          · have hany' : (p.inv.take (r + 1)).any (fun i => decide (i.who = t)) = false := by
              rw [take_at hx, List.any_append, hany]; simp [htw]
            have hbig : ∀ y ∈ p.inv.take r, y.who < x.who := fun y hy => by
              have := hso
              rw [split_at hx, List.pairwise_append] at this
              exact this.2.2 y hy x (by simp)
            refine m_skip ?_
            refine m_then ?_
            refine m_seq ?_
            refine m_seq ?_
            refine m_region ?_
            refine m1 hA hS (Y.fieldAddr (k := 3) rfl Tryz.underlying43 rfl rfl Tryz.sizeOf41) rfl ?_
            clear hA a; intro a hA
            refine m1 hA hS (Y.load rfl Tryz.isAgg41 (fun w h => h.cell (i := 0) rfl rfl)) rfl ?_
            clear hA a; intro a hA
            refine m1 hA hS (Y.move rfl) rfl ?_
            clear hA a; intro a hA
            refine m1 hA hS (Y.indexAddrN rfl rfl Tryz.underlying41 Tryz.sizeOf40 (by omega)) rfl ?_
            clear hA a; intro a hA
            refine m1 hA hS (Y.fieldAddr (k := 0) rfl Tryz.underlying40 rfl rfl Tryz.sizeOf3) rfl ?_
            clear hA a; intro a hA
            refine m1 hA hS (Y.load rfl Tryz.isAgg3 (fun w h => h.rd (by simp) (Nat.zero_le _) (x0))) rfl ?_
            clear hA a; intro a hA
            refine m1 hA hS (Y.move rfl) rfl ?_
            clear hA a; intro a hA
            refine m1 hA hS (Y.gtI rfl rfl) rfl ?_
            clear hA a; intro a hA
            refine m1 hA hS (Y.move rfl) rfl ?_
            clear hA a; intro a hA
            replace hA := hA.keep [62, 11, 12, 13, 10, 8, 6, 3, 2] rfl
            apply m_and 3 65 62 hA hS rfl
            · intro hp1
              refine m1s hA (dj := 62) rfl rfl rfl hp1 rfl ?_
              intro a hA
              refine m1s hA (dj := 62) rfl rfl rfl hp1 rfl ?_
              clear hA a; intro a hA
              refine m1 hA hS (Y.pickF' rfl hp1 rfl) rfl ?_
              clear hA a; intro a hA
              exact m_nil (m_then ⟨hA.keep [65, 62, 11, 12, 13, 10, 8, 6, 3, 2] rfl, hS⟩)
            · intro hp1
              refine m1g hA hS (dj := 62) rfl rfl rfl hp1 (Y.move rfl) rfl ?_
              intro a hA
              refine m1g hA hS (dj := 62) rfl rfl rfl hp1 (Y.not rfl) rfl ?_
              clear hA a; intro a hA
              refine m1 hA hS (Y.pickT' rfl hp1 rfl) rfl ?_
              clear hA a; intro a hA
              exact m_nil (m_then ⟨hA.keep [65, 62, 11, 12, 13, 10, 8, 6, 3, 2] rfl, hS⟩)
            · clear hA hS a; intro a w hA hS
              refine m_nil ?_
              refine m_then ?_
              refine m_cond hA rfl (fun hcd => ?_) (fun hcd => ?_)
              · simp only [Bool.and_eq_true, decide_eq_true_eq, Bool.not_eq_true'] at hcd
                obtain ⟨hpf, hys, hall⟩ : put = false ∧ ys = p.inv.take r ∧ ∀ y ∈ p.inv.take r, y.who < t := by
                  rcases hput with h | ⟨h, _⟩
                  · exact h
                  · rw [h] at hcd; exact absurd hcd.2 (by simp)
                obtain ⟨Ap, cp, rfl⟩ := hrow.shape
                refine m_seq ?_
                refine m_region ?_
                refine m1 hA hS (Y.move rfl) rfl ?_
                clear hA a; intro a hA
                refine m1 hA hS (Y.move rfl) rfl ?_
                clear hA a; intro a hA
                refine m1 hA hS (Y.fieldAddr (k := 0) rfl Tryz.underlying30 rfl rfl Tryz.sizeOf3) rfl ?_
                clear hA a; intro a hA
                refine m1 hA hS (Y.load rfl Tryz.isAgg3 (fun w h => h.cell (i := 2) rfl rfl)) rfl ?_
                clear hA a; intro a hA
                refine m1 hA hS (Y.addI rfl rfl (by omega)) rfl ?_
                clear hA a; intro a hA
                refine m1 hA hS (Y.build rfl (cs := [.int .i64 t, .int .i64 (H.tick + 600)]) (by kernel_rfl)) rfl ?_
                clear hA a; intro a hA
                refine m_buildSlice ([.int .i64 t, .int .i64 (H.tick + 600)]) hA hS rfl rfl (bs_invR _ _) ?_
                clear hA hS a; intro a b4 w hA hgb4 hS
                have hLw : L ≤ w.heap.size := Nat.le_trans (by rw [hL]; exact Nat.le_refl _) (hS.vs (L, wL) (by simp)).2.2.2.1
                have hSp : St w (bl ++ ([cB b4 [.int .i64 t, .int .i64 (H.tick + 600)] 40, cB b3 [.int .i64 p.id, .int .i64 p.leader, .slice M m mc, .slice (some ⟨bx, ox, none⟩) i ic] 43, cB b2 [.int .i64 0, .int .i64 0, .slice none 0 0] 30, cB b1 [.int .i64 H.tick, .int .i64 H.last, .slice (some ⟨bb, o, none⟩) n c] 30])) [(L, wL), (0, w0)] := hS.perm (List.perm_append_comm (l₁ := [_, _, _, _]))
                refine m_appendG (bs := bl) 40 16 [.int .i64 t, .int .i64 (H.tick + 600)] elemIR hA hSp hrow rfl rfl rfl Tryz.underlying41 rfl (hS.cells (i := 0) rfl) (List.all_eq_true.1 rfl) (by (try simp only [List.length_append, List.length_singleton]); omega) (by decide) ?_
                clear hA hS hSp a; intro a w' lv1 bl1 hA hrow10 hwh hS
                replace hS : St w' ([cB b3 [.int .i64 p.id, .int .i64 p.leader, .slice M m mc, .slice (some ⟨bx, ox, none⟩) i ic] 43, cB b2 [.int .i64 0, .int .i64 0, .slice none 0 0] 30, cB b1 [.int .i64 H.tick, .int .i64 H.last, .slice (some ⟨bb, o, none⟩) n c] 30] ++ bl1) [(L, wL), (0, w0)] := (hS.perm (List.perm_append_comm (l₂ := [_, _, _, _]))).gone
                have hbl1 : ∀ z ∈ bl1, L ≤ z.b := fun z hz => by
                  rcases hwh z hz with ⟨u, hu, e⟩ | h
                  · rw [← e]; exact hbl u hu
                  · omega
                have hrow1 : RowB 40 2 lv1 (ys ++ [(⟨t, H.tick + 600⟩ : Inv)]).length ((ys ++ [(⟨t, H.tick + 600⟩ : Inv)]).flatMap cInv) bl1 := by
                  rw [List.length_append, List.flatMap_append]
                  simpa [cInv] using hrow10
                clear hwh hrow10 hLw
                obtain ⟨Aq, cq, rfl⟩ := hrow1.shape
                refine m1 hA hS (Y.assign rfl) rfl ?_
                clear hA a; intro a hA
                refine m_nil ?_
                refine m_then ?_
                refine m_region ?_
                refine m1 hA hS (Y.assign rfl) rfl ?_
                clear hA a; intro a hA
                refine m_nil ?_
                refine m_then ?_
                refine m_region ?_
                refine m1 hA hS (Y.move rfl) rfl ?_
                clear hA a; intro a hA
                refine m1 hA hS (Y.fieldAddr (k := 3) rfl Tryz.underlying43 rfl rfl Tryz.sizeOf41) rfl ?_
                clear hA a; intro a hA
                refine m1 hA hS (Y.load rfl Tryz.isAgg41 (fun w h => h.cell (i := 0) rfl rfl)) rfl ?_
                clear hA a; intro a hA
                refine m1 hA hS (Y.move rfl) rfl ?_
                clear hA a; intro a hA
                refine m1 hA hS (Y.indexAddrN rfl rfl Tryz.underlying41 Tryz.sizeOf40 (by omega)) rfl ?_
                clear hA a; intro a hA
                refine m1 hA hS (Y.loads rfl Tryz.isAgg40 Tryz.sizeOf40 (fun w h => h.rds (by simp) (Nat.zero_le _) (Cs.two x0 x1)) rfl) rfl ?_
                clear hA a; intro a hA
                refine m_buildSlice ([.int .i64 x.who, .int .i64 x.til]) hA hS rfl rfl (bs_invR _ _) ?_
                clear hA hS a; intro a b5 w hA hgb5 hS
                have hLw : L ≤ w.heap.size := Nat.le_trans (by rw [hL]; exact Nat.le_refl _) (hS.vs (L, wL) (by simp)).2.2.2.1
                have hSp : St w (bl1 ++ ([cB b5 [.int .i64 x.who, .int .i64 x.til] 40, cB b3 [.int .i64 p.id, .int .i64 p.leader, .slice M m mc, .slice (some ⟨bx, ox, none⟩) i ic] 43, cB b2 [.int .i64 0, .int .i64 0, .slice none 0 0] 30, cB b1 [.int .i64 H.tick, .int .i64 H.last, .slice (some ⟨bb, o, none⟩) n c] 30])) [(L, wL), (0, w0)] := hS.perm (List.perm_append_comm (l₁ := [_, _, _, _]))
                refine m_appendG (bs := bl1) 40 16 [.int .i64 x.who, .int .i64 x.til] elemIR hA hSp hrow1 rfl rfl rfl Tryz.underlying41 rfl (hS.cells (i := 0) rfl) (List.all_eq_true.1 rfl) (by (try simp only [List.length_append, List.length_singleton]); omega) (by decide) ?_
                clear hA hS hSp a; intro a w' lv2 bl2 hA hrow20 hwh hS
                replace hS : St w' ([cB b3 [.int .i64 p.id, .int .i64 p.leader, .slice M m mc, .slice (some ⟨bx, ox, none⟩) i ic] 43, cB b2 [.int .i64 0, .int .i64 0, .slice none 0 0] 30, cB b1 [.int .i64 H.tick, .int .i64 H.last, .slice (some ⟨bb, o, none⟩) n c] 30] ++ bl2) [(L, wL), (0, w0)] := (hS.perm (List.perm_append_comm (l₂ := [_, _, _, _]))).gone
                have hbl2 : ∀ z ∈ bl2, L ≤ z.b := fun z hz => by
                  rcases hwh z hz with ⟨u, hu, e⟩ | h
                  · rw [← e]; exact hbl1 u hu
                  · omega
                have hrow2 : RowB 40 2 lv2 ((ys ++ [(⟨t, H.tick + 600⟩ : Inv)]) ++ [x]).length (((ys ++ [(⟨t, H.tick + 600⟩ : Inv)]) ++ [x]).flatMap cInv) bl2 := by
                  rw [List.length_append, List.flatMap_append]
                  simpa [cInv] using hrow20
                clear hwh hrow20 hLw
                refine m1 hA hS (Y.assign rfl) rfl ?_
                clear hA a; intro a hA
                refine m_nil ?_
                refine n_block ?_
                refine m_then ?_
                refine m_region ?_
                refine m1 hA hS (Y.move rfl) rfl ?_
                clear hA a; intro a hA
                refine m1 hA hS (Y.addI rfl rfl (by omega)) rfl ?_
                clear hA a; intro a hA
                refine m1 hA hS (Y.assign rfl) rfl ?_
                clear hA a; intro a hA
                refine m_nil ?_
                have hz : ys ++ [(⟨t, H.tick + 600⟩ : Inv)] ++ [x] = insInv t (H.tick + 600) (p.inv.take (r + 1)) := by rw [take_at hx, ins_snoc hcd.1, ins_low hall, hys]
                exact m_then ⟨(r + 1, lv2, ys ++ [(⟨t, H.tick + 600⟩ : Inv)] ++ [x], true, bl2), by (try dsimp only); omega, hA.keep [11, 12, 13, 10, 8, 6, 3, 2] rfl, hS, by (try dsimp only); exact ⟨by omega, hany', .inr ⟨rfl, hz, x, by rw [take_at hx]; simp, hcd.1⟩, hrow2, hbl2⟩⟩
              · obtain ⟨Aq, cq, rfl⟩ := hrow.shape
                refine m_skip ?_
                refine m_then ?_
                refine m_region ?_
                refine m1 hA hS (Y.move rfl) rfl ?_
                clear hA a; intro a hA
                refine m1 hA hS (Y.fieldAddr (k := 3) rfl Tryz.underlying43 rfl rfl Tryz.sizeOf41) rfl ?_
                clear hA a; intro a hA
                refine m1 hA hS (Y.load rfl Tryz.isAgg41 (fun w h => h.cell (i := 0) rfl rfl)) rfl ?_
                clear hA a; intro a hA
                refine m1 hA hS (Y.move rfl) rfl ?_
                clear hA a; intro a hA
                refine m1 hA hS (Y.indexAddrN rfl rfl Tryz.underlying41 Tryz.sizeOf40 (by omega)) rfl ?_
                clear hA a; intro a hA
                refine m1 hA hS (Y.loads rfl Tryz.isAgg40 Tryz.sizeOf40 (fun w h => h.rds (by simp) (Nat.zero_le _) (Cs.two x0 x1)) rfl) rfl ?_
                clear hA a; intro a hA
                refine m_buildSlice ([.int .i64 x.who, .int .i64 x.til]) hA hS rfl rfl (bs_invR _ _) ?_
                clear hA hS a; intro a b6 w hA hgb6 hS
                have hLw : L ≤ w.heap.size := Nat.le_trans (by rw [hL]; exact Nat.le_refl _) (hS.vs (L, wL) (by simp)).2.2.2.1
                have hSp : St w (bl ++ ([cB b6 [.int .i64 x.who, .int .i64 x.til] 40, cB b3 [.int .i64 p.id, .int .i64 p.leader, .slice M m mc, .slice (some ⟨bx, ox, none⟩) i ic] 43, cB b2 [.int .i64 0, .int .i64 0, .slice none 0 0] 30, cB b1 [.int .i64 H.tick, .int .i64 H.last, .slice (some ⟨bb, o, none⟩) n c] 30])) [(L, wL), (0, w0)] := hS.perm (List.perm_append_comm (l₁ := [_, _, _, _]))
                refine m_appendG (bs := bl) 40 16 [.int .i64 x.who, .int .i64 x.til] elemIR hA hSp hrow rfl rfl rfl Tryz.underlying41 rfl (hS.cells (i := 0) rfl) (List.all_eq_true.1 rfl) (by (try simp only [List.length_append, List.length_singleton]); omega) (by decide) ?_
                clear hA hS hSp a; intro a w' lv2 bl2 hA hrow20 hwh hS
                replace hS : St w' ([cB b3 [.int .i64 p.id, .int .i64 p.leader, .slice M m mc, .slice (some ⟨bx, ox, none⟩) i ic] 43, cB b2 [.int .i64 0, .int .i64 0, .slice none 0 0] 30, cB b1 [.int .i64 H.tick, .int .i64 H.last, .slice (some ⟨bb, o, none⟩) n c] 30] ++ bl2) [(L, wL), (0, w0)] := (hS.perm (List.perm_append_comm (l₂ := [_, _, _, _]))).gone
                have hbl2 : ∀ z ∈ bl2, L ≤ z.b := fun z hz => by
                  rcases hwh z hz with ⟨u, hu, e⟩ | h
                  · rw [← e]; exact hbl u hu
                  · omega
                have hrow2 : RowB 40 2 lv2 (ys ++ [x]).length ((ys ++ [x]).flatMap cInv) bl2 := by
                  rw [List.length_append, List.flatMap_append]
                  simpa [cInv] using hrow20
                clear hwh hrow20 hLw
                refine m1 hA hS (Y.assign rfl) rfl ?_
                clear hA a; intro a hA
                refine m_nil ?_
                refine n_block ?_
                refine m_then ?_
                refine m_region ?_
                refine m1 hA hS (Y.move rfl) rfl ?_
                clear hA a; intro a hA
                refine m1 hA hS (Y.addI rfl rfl (by omega)) rfl ?_
                clear hA a; intro a hA
                refine m1 hA hS (Y.assign rfl) rfl ?_
                clear hA a; intro a hA
                refine m_nil ?_
                have hput' : (put = false ∧ ys ++ [x] = p.inv.take (r + 1) ∧ ∀ y ∈ p.inv.take (r + 1), y.who < t) ∨ (put = true ∧ ys ++ [x] = insInv t (H.tick + 600) (p.inv.take (r + 1)) ∧ ∃ y ∈ p.inv.take (r + 1), t < y.who) := by
                  rw [Bool.and_eq_false_iff] at hcd
                  rcases hput with ⟨h1, h2, h3⟩ | ⟨h1, h2, y, hy, hty⟩
                  · have hxt : x.who < t := by
                      rcases hcd with h | h
                      · have := of_decide_eq_false h; omega
                      · rw [h1] at h; cases h
                    refine .inl ⟨h1, by rw [take_at hx, h2], fun y hy => ?_⟩
                    rw [take_at hx] at hy
                    rcases List.mem_append.1 hy with h | h
                    · exact h3 y h
                    · simp at h; subst h; exact hxt
                  · have hxt : t < x.who := by have := hbig y hy; omega
                    exact .inr ⟨h1, by rw [take_at hx, ins_snoc hxt, h2], y, by rw [take_at hx]; simp [hy], hty⟩
                exact m_then ⟨(r + 1, lv2, ys ++ [x], put, bl2), by (try dsimp only); omega, hA.keep [11, 12, 13, 10, 8, 6, 3, 2] rfl, hS, by (try dsimp only); exact ⟨by omega, hany', hput', hrow2, hbl2⟩⟩
        · have hri : r = p.inv.length := by omega
          rw [hri, List.take_length] at hany hput
          have hlen := insInv_len (who := t) (til := H.tick + 600) hany
          obtain ⟨Ap, cp, rfl⟩ := hrow.shape
          refine m_exit ?_
          refine x_then ?_
          refine x_then ?_
          refine x_block ?_
          refine m_then ?_
          refine m_seq ?_
          refine m_seq ?_
          refine m_region ?_
          refine m1 hA hS (Y.move rfl) rfl ?_
          clear hA a; intro a hA
          refine m1 hA hS (Y.not rfl) rfl ?_
          clear hA a; intro a hA
          refine m_nil ?_
          refine m_then ?_
          refine m_cond hA rfl (fun hpf => ?_) (fun hpf => ?_)
          · obtain ⟨hys, hall⟩ : ys = p.inv ∧ ∀ y ∈ p.inv, y.who < t := by
              rcases hput with h | ⟨h, _⟩
              · exact h.2
              · rw [h] at hpf; cases hpf
            refine m_region ?_
            refine m1 hA hS (Y.move rfl) rfl ?_
            clear hA a; intro a hA
            refine m1 hA hS (Y.move rfl) rfl ?_
            clear hA a; intro a hA
            refine m1 hA hS (Y.fieldAddr (k := 0) rfl Tryz.underlying30 rfl rfl Tryz.sizeOf3) rfl ?_
            clear hA a; intro a hA
            refine m1 hA hS (Y.load rfl Tryz.isAgg3 (fun w h => h.cell (i := 2) rfl rfl)) rfl ?_
            clear hA a; intro a hA
            refine m1 hA hS (Y.addI rfl rfl (by omega)) rfl ?_
            clear hA a; intro a hA
            refine m1 hA hS (Y.build rfl (cs := [.int .i64 t, .int .i64 (H.tick + 600)]) (by kernel_rfl)) rfl ?_
            clear hA a; intro a hA
            refine m_buildSlice ([.int .i64 t, .int .i64 (H.tick + 600)]) hA hS rfl rfl (bs_invR _ _) ?_
            clear hA hS a; intro a b7 w hA hgb7 hS
            have hLw : L ≤ w.heap.size := Nat.le_trans (by rw [hL]; exact Nat.le_refl _) (hS.vs (L, wL) (by simp)).2.2.2.1
            have hSp : St w (bl ++ ([cB b7 [.int .i64 t, .int .i64 (H.tick + 600)] 40, cB b3 [.int .i64 p.id, .int .i64 p.leader, .slice M m mc, .slice I i ic] 43, cB b2 [.int .i64 0, .int .i64 0, .slice none 0 0] 30, cB b1 [.int .i64 H.tick, .int .i64 H.last, .slice (some ⟨bb, o, none⟩) n c] 30])) [(L, wL), (0, w0)] := hS.perm (List.perm_append_comm (l₁ := [_, _, _, _]))
            refine m_appendG (bs := bl) 40 16 [.int .i64 t, .int .i64 (H.tick + 600)] elemIR hA hSp hrow rfl rfl rfl Tryz.underlying41 rfl (hS.cells (i := 0) rfl) (List.all_eq_true.1 rfl) (by (try simp only [List.length_append, List.length_singleton]); omega) (by decide) ?_
            clear hA hS hSp a; intro a w' lv1 bl1 hA hrow10 hwh hS
            replace hS : St w' ([cB b3 [.int .i64 p.id, .int .i64 p.leader, .slice M m mc, .slice I i ic] 43, cB b2 [.int .i64 0, .int .i64 0, .slice none 0 0] 30, cB b1 [.int .i64 H.tick, .int .i64 H.last, .slice (some ⟨bb, o, none⟩) n c] 30] ++ bl1) [(L, wL), (0, w0)] := (hS.perm (List.perm_append_comm (l₂ := [_, _, _, _]))).gone
            have hbl1 : ∀ z ∈ bl1, L ≤ z.b := fun z hz => by
              rcases hwh z hz with ⟨u, hu, e⟩ | h
              · rw [← e]; exact hbl u hu
              · omega
            have hrow1 : RowB 40 2 lv1 (ys ++ [(⟨t, H.tick + 600⟩ : Inv)]).length ((ys ++ [(⟨t, H.tick + 600⟩ : Inv)]).flatMap cInv) bl1 := by
              rw [List.length_append, List.flatMap_append]
              simpa [cInv] using hrow10
            clear hwh hrow10 hLw
            have hzs : ys ++ [(⟨t, H.tick + 600⟩ : Inv)] = insInv t (H.tick + 600) p.inv := by rw [ins_low hall, hys]
            have hzl : (ys ++ [(⟨t, H.tick + 600⟩ : Inv)]).length = i + 1 := by rw [hzs, hlen]; omega
            obtain ⟨Az, cz, rfl⟩ := hrow1.shape
            refine m1 hA hS (Y.assign rfl) rfl ?_
            clear hA a; intro a hA
            refine m_nil ?_
            refine m_then ?_
            refine m_seq ?_
            refine m_seq ?_
            refine m_region ?_
            refine m1 hA hS (Y.fieldAddr (k := 2) rfl Tryz.underlying43 rfl rfl Tryz.sizeOf38) rfl ?_
            clear hA a; intro a hA
            refine m1 hA hS (Y.load rfl Tryz.isAgg38 (fun w h => h.cell (i := 0) rfl rfl)) rfl ?_
            clear hA a; intro a hA
            refine m1 hA hS (Y.lenSl rfl Tryz.underlying38) rfl ?_
            clear hA a; intro a hA
            refine m1 hA hS (Y.move rfl) rfl ?_
            clear hA a; intro a hA
            refine m1 hA hS (Y.lenSl rfl Tryz.underlying41) rfl ?_
            clear hA a; intro a hA
            refine m1 hA hS (Y.addI rfl rfl (by omega)) rfl ?_
            clear hA a; intro a hA
            refine m1 hA hS (Y.gtI rfl rfl) rfl ?_
            clear hA a; intro a hA
            refine m_nil ?_
            refine m_then ?_
            refine m_condP hA rfl (fun hfull => ?_) (fun hfull => ?_)
            · have hF2 : change (leadF u (invF t)) H = (noHall, 4) := by
                have e : invF t j H = (H, 4) := by
                  unfold invF; rw [hj]; simp only
                  rw [if_neg (by rw [hid']; simp), if_neg (by omega), if_neg (by rw [hany]; simp), if_pos (by omega)]
                rw [hF, e]; rfl
              refine m_seq ?_
              refine m_region ?_
              refine m1 hA hS (Y.build (vs := []) (cs := [.int .i64 0, .int .i64 0, .slice none 0 0]) rfl (by kernel_rfl)) rfl ?_
              clear hA a; intro a hA
              refine m_store 1 hA hS rfl rfl Tryz.sizeOf30 rfl rfl rfl rfl ?_
              clear hS; intro w hS
              refine m1 hA hS (Y.assign rfl) rfl ?_
              clear hA a; intro a hA
              refine m_nil ?_
              refine m_then ?_
              refine m_retc ?_
              refine r_then ?_
              refine m_retc2 1 hA hS Tryz.results68 rfl rfl rfl Tryz.isAgg30 Tryz.sizeOf30 ?_
              rw [hF2]
              exact ⟨_, _, _, rfl, hS.gr0 (by simp), RowOf.nil, Nat.le_refl _⟩
            · have hF2 : change (leadF u (invF t)) H = (⟨H.tick, H.last, H.ps.set j { p with inv := (ys ++ [(⟨t, H.tick + 600⟩ : Inv)]) }⟩, 0) := by
                have e : invF t j H = (⟨H.tick, H.last, H.ps.set j { p with inv := (ys ++ [(⟨t, H.tick + 600⟩ : Inv)]) }⟩, 0) := by
                  unfold invF; rw [hj]; simp only
                  rw [if_neg (by rw [hid']; simp), if_neg (by omega), if_neg (by rw [hany]; simp), if_neg (by omega), hzs]
                rw [hF, e]; rfl
              refine m_skip ?_
              refine m_then ?_
              refine m_seq ?_
              refine m_region ?_
              refine m1 hA hS (Y.move rfl) rfl ?_
              clear hA a; intro a hA
              refine m1 hA hS (Y.fieldAddr (k := 3) rfl Tryz.underlying43 rfl rfl Tryz.sizeOf41) rfl ?_
              clear hA a; intro a hA
              refine m_store 0 hA hS rfl rfl Tryz.sizeOf41 rfl rfl rfl rfl ?_
              clear hS; intro w hS
              refine m_nil ?_
              refine m_then ?_
              refine m_seq ?_
              refine m_region ?_
              refine m1 hA hS (Y.loads rfl Tryz.isAgg30 Tryz.sizeOf30 (fun w h => h.cells (i := 2) rfl) rfl) rfl ?_
              clear hA a; intro a hA
              refine m1 hA hS (Y.move rfl) rfl ?_
              clear hA a; intro a hA
              refine m1 hA hS (Y.loads rfl Tryz.isAgg43 Tryz.sizeOf43 (fun w h => h.cells (i := 0) rfl) rfl) rfl ?_
              clear hA a; intro a hA
              have hLw : L ≤ w.heap.size := Nat.le_trans (by rw [hL]; exact Nat.le_refl _) (hS.vs (L, wL) (by simp)).2.2.2.1
              have hg2 := hS.gr0 (w0 := w0) (by simp)
              have hfr := Fresh.of (X := [cB b3 [.int .i64 p.id, .int .i64 p.leader, .slice M m mc, .slice Az (ys ++ [(⟨t, H.tick + 600⟩ : Inv)]).length cz] 43, cB b2 [.int .i64 0, .int .i64 0, .slice none 0 0] 30, cB b1 [.int .i64 H.tick, .int .i64 H.last, .slice (some ⟨bb, o, none⟩) n c] 30]) hS hbl1
              obtain ⟨Az', cz', e4, hrd⟩ := InvsT.read hrow1 hfr (by omega)
              obtain ⟨rfl, _, rfl⟩ := Value.slice.inj e4
              have hpk : PtyInK (fun b => (K b ∧ b < w0.heap.size) ∨ L ≤ b) w M m Az (ys ++ [(⟨t, H.tick + 600⟩ : Inv)]).length { p with inv := (ys ++ [(⟨t, H.tick + 600⟩ : Inv)]) } := ⟨hin.mem.mv (fun b hb => .inl hb) (hg2.keeps _), hrd.k (fun b hb _ => .inr hb)⟩
              refine m_call hA Tryz.call101 rfl rfl ((with_c (fun b => (K b ∧ b < w0.heap.size) ∨ L ≤ b) j { p with inv := (ys ++ [(⟨t, H.tick + 600⟩ : Inv)]) } M m mc Az (ys ++ [(⟨t, H.tick + 600⟩ : Inv)]).length cz H _ n c _ (hPl.mv (fun b hb => .inl hb) (hg2.keeps _)) hpk (by omega) hn).mono ?_)
              rintro e w ⟨A5, n5, c5, rfl, hg5, hP5, hc5⟩
              refine ⟨_, rfl, ?_⟩
              clear hA a; intro a hA
              have hS5 : St w [cB b2 [.int .i64 0, .int .i64 0, .slice none 0 0] 30, cB b1 [.int .i64 H.tick, .int .i64 H.last, .slice (some ⟨bb, o, none⟩) n c] 30] [(L, w), (L, wL), (0, w0)] := St.seal (lo := L) (St.sub (B' := [cB b2 [.int .i64 0, .int .i64 0, .slice none 0 0] 30, cB b1 [.int .i64 H.tick, .int .i64 H.last, .slice (some ⟨bb, o, none⟩) n c] 30]) (hS.gr hg5) (.cons _ (List.sublist_append_left [_, _] _))) (fun x hx => by
                simp at hx
                rcases hx with rfl | rfl
                · exact hb2
                · exact hb1)
              replace hS := hS5
              clear hS5
              have hg6 := hg2.tr hg5
              replace hP5 := PtysK.join hLw hP5
              refine m_store 0 hA hS rfl rfl Tryz.sizeOf30 rfl rfl rfl rfl ?_
              clear hS; intro w hS
              refine m1 hA hS (Y.assign rfl) rfl ?_
              clear hA a; intro a hA
              refine m_nil ?_
              refine m_then ?_
              refine m_retc ?_
              refine m_retc2 0 hA hS Tryz.results68 rfl rfl rfl Tryz.isAgg30 Tryz.sizeOf30 ?_
              rw [hF2]
              exact ⟨_, _, _, rfl, hS.gr0 (by simp), hS.endL (by simp) (List.mem_cons_self ..) hg6 hL0 hP5, hc5⟩
          · have hzs : ys = insInv t (H.tick + 600) p.inv := by
              rcases hput with ⟨h, _⟩ | ⟨_, h, _⟩
              · rw [h] at hpf; cases hpf
              · exact h
            have hzl : ys.length = i + 1 := by rw [hzs, hlen]; omega
            refine m_skip ?_
            refine m_then ?_
            refine m_seq ?_
            refine m_seq ?_
            refine m_region ?_
            refine m1 hA hS (Y.fieldAddr (k := 2) rfl Tryz.underlying43 rfl rfl Tryz.sizeOf38) rfl ?_
            clear hA a; intro a hA
            refine m1 hA hS (Y.load rfl Tryz.isAgg38 (fun w h => h.cell (i := 0) rfl rfl)) rfl ?_
            clear hA a; intro a hA
            refine m1 hA hS (Y.lenSl rfl Tryz.underlying38) rfl ?_
            clear hA a; intro a hA
            refine m1 hA hS (Y.move rfl) rfl ?_
            clear hA a; intro a hA
            refine m1 hA hS (Y.lenSl rfl Tryz.underlying41) rfl ?_
            clear hA a; intro a hA
            refine m1 hA hS (Y.addI rfl rfl (by omega)) rfl ?_
            clear hA a; intro a hA
            refine m1 hA hS (Y.gtI rfl rfl) rfl ?_
            clear hA a; intro a hA
            refine m_nil ?_
            refine m_then ?_
            refine m_condP hA rfl (fun hfull => ?_) (fun hfull => ?_)
            · have hF2 : change (leadF u (invF t)) H = (noHall, 4) := by
                have e : invF t j H = (H, 4) := by
                  unfold invF; rw [hj]; simp only
                  rw [if_neg (by rw [hid']; simp), if_neg (by omega), if_neg (by rw [hany]; simp), if_pos (by omega)]
                rw [hF, e]; rfl
              refine m_seq ?_
              refine m_region ?_
              refine m1 hA hS (Y.build (vs := []) (cs := [.int .i64 0, .int .i64 0, .slice none 0 0]) rfl (by kernel_rfl)) rfl ?_
              clear hA a; intro a hA
              refine m_store 1 hA hS rfl rfl Tryz.sizeOf30 rfl rfl rfl rfl ?_
              clear hS; intro w hS
              refine m1 hA hS (Y.assign rfl) rfl ?_
              clear hA a; intro a hA
              refine m_nil ?_
              refine m_then ?_
              refine m_retc ?_
              refine r_then ?_
              refine m_retc2 1 hA hS Tryz.results68 rfl rfl rfl Tryz.isAgg30 Tryz.sizeOf30 ?_
              rw [hF2]
              exact ⟨_, _, _, rfl, hS.gr0 (by simp), RowOf.nil, Nat.le_refl _⟩
            · have hF2 : change (leadF u (invF t)) H = (⟨H.tick, H.last, H.ps.set j { p with inv := ys }⟩, 0) := by
                have e : invF t j H = (⟨H.tick, H.last, H.ps.set j { p with inv := ys }⟩, 0) := by
                  unfold invF; rw [hj]; simp only
                  rw [if_neg (by rw [hid']; simp), if_neg (by omega), if_neg (by rw [hany]; simp), if_neg (by omega), hzs]
                rw [hF, e]; rfl
              refine m_skip ?_
              refine m_then ?_
              refine m_seq ?_
              refine m_region ?_
              refine m1 hA hS (Y.move rfl) rfl ?_
              clear hA a; intro a hA
              refine m1 hA hS (Y.fieldAddr (k := 3) rfl Tryz.underlying43 rfl rfl Tryz.sizeOf41) rfl ?_
              clear hA a; intro a hA
              refine m_store 0 hA hS rfl rfl Tryz.sizeOf41 rfl rfl rfl rfl ?_
              clear hS; intro w hS
              refine m_nil ?_
              refine m_then ?_
              refine m_seq ?_
              refine m_region ?_
              refine m1 hA hS (Y.loads rfl Tryz.isAgg30 Tryz.sizeOf30 (fun w h => h.cells (i := 2) rfl) rfl) rfl ?_
              clear hA a; intro a hA
              refine m1 hA hS (Y.move rfl) rfl ?_
              clear hA a; intro a hA
              refine m1 hA hS (Y.loads rfl Tryz.isAgg43 Tryz.sizeOf43 (fun w h => h.cells (i := 0) rfl) rfl) rfl ?_
              clear hA a; intro a hA
              have hLw : L ≤ w.heap.size := Nat.le_trans (by rw [hL]; exact Nat.le_refl _) (hS.vs (L, wL) (by simp)).2.2.2.1
              have hg2 := hS.gr0 (w0 := w0) (by simp)
              have hfr := Fresh.of (X := [cB b3 [.int .i64 p.id, .int .i64 p.leader, .slice M m mc, .slice Ap ys.length cp] 43, cB b2 [.int .i64 0, .int .i64 0, .slice none 0 0] 30, cB b1 [.int .i64 H.tick, .int .i64 H.last, .slice (some ⟨bb, o, none⟩) n c] 30]) hS hbl
              obtain ⟨Aq', cq', e4, hrd⟩ := InvsT.read hrow hfr (by omega)
              obtain ⟨rfl, _, rfl⟩ := Value.slice.inj e4
              have hpk : PtyInK (fun b => (K b ∧ b < w0.heap.size) ∨ L ≤ b) w M m Ap ys.length { p with inv := ys } := ⟨hin.mem.mv (fun b hb => .inl hb) (hg2.keeps _), hrd.k (fun b hb _ => .inr hb)⟩
              refine m_call hA Tryz.call101 rfl rfl ((with_c (fun b => (K b ∧ b < w0.heap.size) ∨ L ≤ b) j { p with inv := ys } M m mc Ap ys.length cp H _ n c _ (hPl.mv (fun b hb => .inl hb) (hg2.keeps _)) hpk (by omega) hn).mono ?_)
              rintro e w ⟨A5, n5, c5, rfl, hg5, hP5, hc5⟩
              refine ⟨_, rfl, ?_⟩
              clear hA a; intro a hA
              have hS5 : St w [cB b2 [.int .i64 0, .int .i64 0, .slice none 0 0] 30, cB b1 [.int .i64 H.tick, .int .i64 H.last, .slice (some ⟨bb, o, none⟩) n c] 30] [(L, w), (L, wL), (0, w0)] := St.seal (lo := L) (St.sub (B' := [cB b2 [.int .i64 0, .int .i64 0, .slice none 0 0] 30, cB b1 [.int .i64 H.tick, .int .i64 H.last, .slice (some ⟨bb, o, none⟩) n c] 30]) (hS.gr hg5) (.cons _ (List.sublist_append_left [_, _] _))) (fun x hx => by
                simp at hx
                rcases hx with rfl | rfl
                · exact hb2
                · exact hb1)
              replace hS := hS5
              clear hS5
              have hg6 := hg2.tr hg5
              replace hP5 := PtysK.join hLw hP5
              refine m_store 0 hA hS rfl rfl Tryz.sizeOf30 rfl rfl rfl rfl ?_
              clear hS; intro w hS
              refine m1 hA hS (Y.assign rfl) rfl ?_
              clear hA a; intro a hA
              refine m_nil ?_
              refine m_then ?_
              refine m_retc ?_
              refine m_retc2 0 hA hS Tryz.results68 rfl rfl rfl Tryz.isAgg30 Tryz.sizeOf30 ?_
              rw [hF2]
              exact ⟨_, _, _, rfl, hS.gr0 (by simp), hS.endL (by simp) (List.mem_cons_self ..) hg6 hL0 hP5, hc5⟩
end Go.Proofs.YtljkhijdaaconaaGreat