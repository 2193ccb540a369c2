/- Contract: Create. -/
import Derived.Test.YtljkhijdaaconaaGreatClos
set_option linter.unusedVariables false
namespace Go.Proofs.YtljkhijdaaconaaGreat
open Go.RowKit

theorem HallB.in {w w0 : World} {x : Bx} {bs B : List Bx} {V : List (Nat × World)} {A : Option Addr} {n c : Nat} {ps : List Pty} (hH : HallB (.slice A n c) ps bs) (hS : St w (x :: (bs ++ B)) V) (hw0 : (0, w0) ∈ V) : Ptys w A ps.length ps := by
  obtain ⟨A', c', e, h⟩ := hH.read (hS.gone.out hw0)
  cases e
  exact h.zero
theorem St.dropC {w : World} {B : List Bx} {V : List (Nat × World)} {x : Nat × World} (h : St w B (x :: V)) : St w B V := h.dropV fun p hp => List.mem_cons_of_mem _ hp
theorem bs_int (x : Int) (w : World) : (Instr.buildSlice 38 1 [(0, Value.int .i64 x)].toArray).run Tryz.prog w = .ok (.slice (some ⟨w.heap.size, 0, none⟩) 1 1) (w.alloc (.cells [Value.int .i64 x].toArray 3)) := by
  go_simp
theorem bs_pty (a b c d : Value) (w : World) : (Instr.buildSlice 22 1 [(0, Value.agg [a, b, c, d].toArray)].toArray).run Tryz.prog w = .ok (.slice (some ⟨w.heap.size, 0, none⟩) 1 1) (w.alloc (.cells [a, b, c, d].toArray 46)) := by
  go_simp
set_option maxRecDepth 100000 in
theorem create1_c (t : Int) (H : Hall) (bc : Nat) (B : List Bx) (V : List (Nat × World)) (w0 : World) (hw0 : (0, w0) ∈ V) (hm : cB bc [.int .i64 t] 3 ∈ B) : Changes 54 [.pointer (some ⟨bc, 0, none⟩)] (creF t) H B V := by
  intro hval w B' b0 T pv bs hsub hS hH
  obtain ⟨q1, q2, q3, q4, q5, q6⟩ := valid_small hval
  have hm' := hsub _ hm
  obtain ⟨A', c', rfl⟩ := hH.shape
  have hP := hH.in hS hw0
  refine m_enter Tryz.func54 rfl Tryz.ntmps54 (Nat.le_of_ble_eq_true rfl) ?_
  intro a hA
  refine m_seq ?_
  refine m_region ?_
  refine m1 hA hS (Y.assign rfl) rfl ?_
  clear hA a; intro a hA
  refine m_nil ?_
  refine m_then ?_
  refine m_seq ?_
  refine m_block ?_
  refine m_seq ?_
  refine m_region ?_
  refine m1 hA hS (Y.load rfl Tryz.isAgg3 (fun w h => h.cellM (cs := [.int .i64 t]) (T := 3) (by simp [hm']) rfl)) rfl ?_
  clear hA a; intro a hA
  refine m_callb hA hS Tryz.call25 rfl rfl ((isID_c _ _).mono (fun e w' h => ⟨h.1, h.2 ▸ Gr.rf _⟩)) ?_
  clear hA hS a; intro a w hA hS hg
  refine m1 hA hS (Y.not rfl) rfl ?_
  clear hA a; intro a hA
  refine m1 hA hS (Y.assign rfl) rfl ?_
  clear hA a; intro a hA
  refine m_nil ?_
  refine m_then ?_
  refine m_cond hA rfl (fun hc => ?_) (fun hc => ?_)
  · have hF : creF t H = (H, 2) := by unfold creF; rw [if_pos (by simpa using hc)]
    refine m_seq ?_
    refine m_region ?_
    refine m1 hA hS (Y.assign rfl) rfl ?_
    clear hA a; intro a hA
    refine m_nil ?_
    refine m_then ?_
    refine m_retc ?_
    refine r_block ?_
    refine r_then ?_
    refine m_ret1 hA Tryz.results54 rfl ?_
    rw [hF]
    refine ⟨rfl, ?_⟩
    rw [if_neg (by simp)]
    exact (hS.gone).goneL
  · replace hP := hP.gr hg
    clear hg
    refine m_seq ?_
    refine d_regionS [2, 4] [0, 1, 2, 4, 6, 7] hS rfl 8 [false, false, false, false, false, false, false, false] rfl rfl ?_
    clear hS; intro w hS _
    have hQ := hS
    refine d_take 0 (bs' := [true, false, false, false, false, false, false, false]) hA rfl rfl (by kernel_rfl) (fun _ _ _ h => h) (Y.move rfl) rfl ?_
    clear hA a; intro a hA
    refine d_take 1 (bs' := [true, true, false, false, false, false, false, false]) hA rfl rfl (by kernel_rfl) (fun _ _ _ h => h) (Y.nil rfl) rfl ?_
    clear hA a; intro a hA
    refine d_load 2 (bs' := [true, true, true, false, false, false, false, false]) hA hQ rfl rfl rfl (by kernel_rfl) (fun _ _ _ h => h) (Y.loads rfl Tryz.isAgg24 Tryz.sizeOf24 (fun w h => h.cells (i := 0) rfl) rfl) rfl ?_
    clear hA a; intro a hA
    refine d_load 4 (bs' := [true, true, true, false, true, false, false, false]) hA hQ rfl rfl rfl (by kernel_rfl) (fun _ _ _ h => h) (Y.load rfl Tryz.isAgg3 (fun w h => h.cellM (cs := [.int .i64 t]) (T := 3) (by simp [hm']) rfl)) rfl ?_
    clear hA a; intro a hA
    refine d_one 3 (bs' := [true, true, true, true, true, false, false, false]) true rfl (by kernel_rfl) ?_
    refine m_call hA Tryz.call23 rfl rfl ((places_c _ _ _ _ _ H.ps _ (hH.in hS hw0)).mono ?_)
    rintro e w ⟨bm, rfl, him, hg1, hbm⟩
    refine ⟨_, rfl, ?_⟩
    clear hA a; intro a hA
    replace hS := hS.call hg1
    replace hQ := hQ.gr hg1
    refine m_nil (m_then ⟨fun _ => hQ, ?_⟩)
    refine d_one 5 (bs' := [true, true, true, true, true, true, false, false]) true rfl (by kernel_rfl) ?_
    refine m1 hA hS (Y.look Tryz.underlying58 Tryz.underlying3 Tryz.zeroValue3 rfl rfl (fun w h => h.map (by simp) hbm him)) rfl ?_
    clear hA a; intro a hA
    refine m_nil (m_then ⟨fun _ => hQ, ?_⟩)
    refine d_take 6 (bs' := [true, true, true, true, true, true, true, false]) hA rfl rfl (by kernel_rfl) (fun _ _ _ h => h) (Y.gtI rfl rfl) rfl ?_
    clear hA a; intro a hA
    refine d_take 7 (bs' := [true, true, true, true, true, true, true, true]) hA rfl rfl (by kernel_rfl) (fun _ _ _ h => h) (Y.assign rfl) rfl ?_
    clear hA a; intro a hA
    refine d_done (by kernel_rfl) ?_
    refine m_then ?_
    replace hS := hS.dropC
    refine m_condP hA rfl (fun hlt => ?_) (fun hlt => ?_)
    · replace hlt : 0 < place H t := hlt
      have hF : creF t H = (H, 361) := by unfold creF; rw [if_neg (by simpa using hc), if_pos hlt]
      refine m_seq ?_
      refine m_region ?_
      refine m1 hA hS (Y.assign rfl) rfl ?_
      clear hA a; intro a hA
      refine m_nil ?_
      refine m_then ?_
      refine m_retc ?_
      refine r_block ?_
      refine r_then ?_
      refine m_ret1 hA Tryz.results54 rfl ?_
      rw [hF]
      refine ⟨rfl, ?_⟩
      rw [if_neg (by simp)]
      exact (hS.gone).goneL
    · replace hlt : ¬ 0 < place H t := hlt
      refine m_seq ?_
      refine m_region ?_
      refine m1 hA hS (Y.move rfl) rfl ?_
      clear hA a; intro a hA
      refine m1 hA hS (Y.nil rfl) rfl ?_
      clear hA a; intro a hA
      refine m1 hA hS (Y.fieldAddr (k := 2) rfl Tryz.underlying24 rfl rfl Tryz.sizeOf22) rfl ?_
      clear hA a; intro a hA
      refine m1 hA hS (Y.load rfl Tryz.isAgg22 (fun w h => h.cell (i := 0) rfl rfl)) rfl ?_
      clear hA a; intro a hA
      refine m1 hA hS (Y.lenSl rfl Tryz.underlying22) rfl ?_
      clear hA a; intro a hA
      refine m1 hA hS (Y.geI rfl rfl) rfl ?_
      clear hA a; intro a hA
      refine m1 hA hS (Y.move rfl) rfl ?_
      clear hA a; intro a hA
      replace hA := hA.keep [23, 3, 0, 1] rfl
      apply m_or 6 29 23 hA hS rfl
      · intro hp1
        refine m1s hA (dj := 23) rfl rfl rfl hp1 rfl ?_
        intro a hA
        refine m1s hA (dj := 23) rfl rfl rfl hp1 rfl ?_
        clear hA a; intro a hA
        refine m1s hA (dj := 23) rfl rfl rfl hp1 rfl ?_
        clear hA a; intro a hA
        refine m1s hA (dj := 23) rfl rfl rfl hp1 rfl ?_
        clear hA a; intro a hA
        refine m1s hA (dj := 23) rfl rfl rfl hp1 rfl ?_
        clear hA a; intro a hA
        refine m1 hA hS (Y.pickT' rfl hp1 rfl) rfl ?_
        clear hA a; intro a hA
        exact m_nil (m_then ⟨hA.keep [29, 23, 3, 0, 1] rfl, hS⟩)
      · intro hp1
        refine m1g hA hS (dj := 23) rfl rfl rfl hp1 (Y.move rfl) rfl ?_
        intro a hA
        refine m1g hA hS (dj := 23) rfl rfl rfl hp1 (Y.nil rfl) rfl ?_
        clear hA a; intro a hA
        refine m1g hA hS (dj := 23) rfl rfl rfl hp1 (Y.fieldAddr (k := 1) rfl Tryz.underlying24 rfl rfl Tryz.sizeOf3) rfl ?_
        clear hA a; intro a hA
        refine m1g hA hS (dj := 23) rfl rfl rfl hp1 (Y.load rfl Tryz.isAgg3 (fun w h => h.cell (i := 0) rfl rfl)) rfl ?_
        clear hA a; intro a hA
        refine m1g hA hS (dj := 23) rfl rfl rfl hp1 (Y.geI rfl rfl) rfl ?_
        clear hA a; intro a hA
        refine m1 hA hS (Y.pickF' rfl hp1 rfl) rfl ?_
        clear hA a; intro a hA
        exact m_nil (m_then ⟨hA.keep [29, 23, 3, 0, 1] rfl, hS⟩)
      · clear hA hS a; intro a w hA hS
        refine m1 hA hS (Y.assign rfl) rfl ?_
        clear hA a; intro a hA
        refine m_nil ?_
        refine m_then ?_
        refine m_cond hA rfl (fun hc2 => ?_) (fun hc2 => ?_)
        · simp only [Bool.or_eq_true, decide_eq_true_eq] at hc2
          have hF : creF t H = (H, 4) := by unfold creF; rw [if_neg (by simpa using hc), if_neg hlt, if_pos (by omega)]
          refine m_seq ?_
          refine m_region ?_
          refine m1 hA hS (Y.assign rfl) rfl ?_
          clear hA a; intro a hA
          refine m_nil ?_
          refine m_then ?_
          refine m_retc ?_
          refine r_block ?_
          refine r_then ?_
          refine m_ret1 hA Tryz.results54 rfl ?_
          rw [hF]
          refine ⟨rfl, ?_⟩
          rw [if_neg (by simp)]
          exact (hS.gone).goneL
        · simp only [Bool.or_eq_false_iff, decide_eq_false_iff_not] at hc2
          have hF : creF t H = ({ H with last := H.last + 1, ps := H.ps.map (unF fun _ i => decide (i.who = t)) ++ [⟨H.last + 1, t, [t], []⟩] }, 0) := by
            unfold creF; rw [if_neg (by simpa using hc), if_neg hlt, if_neg (by omega)]
          refine m_skip ?_
          refine n_block ?_
          refine m_then ?_
          refine m_seq ?_
          refine m_region ?_
          refine m1 hA hS (Y.move rfl) rfl ?_
          clear hA a; intro a hA
          refine m1 hA hS (Y.func rfl) rfl ?_
          clear hA a; intro a hA
          refine m_call hA Tryz.call55 rfl rfl ((uninvite_c b0 T _ _ _ H.ps bs B' V 56 [.pointer (some ⟨bc, 0, none⟩)] (fun _ i => decide (i.who = t)) w0 _ hS hw0 hH Tryz.call56 (fun W bs' h p i m v => whoEq_c p i m v t bc w0 W _ V h (by simp [hm']))).mono ?_)
          rintro e w ⟨bs1, rfl, hH1, hS⟩
          refine ⟨_, rfl, ?_⟩
          clear hA a; intro a hA
          clear hH hP
          obtain ⟨cs, br, bp, hR, hPB, rfl, hle⟩ := hH1
          refine m_nil ?_
          refine m_then ?_
          refine m_seq ?_
          refine m_region ?_
          refine m1 hA hS (Y.move rfl) rfl ?_
          clear hA a; intro a hA
          refine m1 hA hS (Y.nil rfl) rfl ?_
          clear hA a; intro a hA
          refine m1 hA hS (Y.fieldAddr (k := 1) rfl Tryz.underlying24 rfl rfl Tryz.sizeOf3) rfl ?_
          clear hA a; intro a hA
          refine m1 hA hS (Y.load rfl Tryz.isAgg3 (fun w h => h.cell (i := 0) rfl rfl)) rfl ?_
          clear hA a; intro a hA
          refine m1 hA hS (Y.addI rfl rfl (by omega)) rfl ?_
          clear hA a; intro a hA
          refine m1 hA hS (Y.nil rfl) rfl ?_
          clear hA a; intro a hA
          refine m1 hA hS (Y.fieldAddr (k := 1) rfl Tryz.underlying24 rfl rfl Tryz.sizeOf3) rfl ?_
          clear hA a; intro a hA
          refine m_store 0 hA hS rfl rfl Tryz.sizeOf3 rfl rfl rfl rfl ?_
          clear hS; intro w hS
          refine m_nil ?_
          refine m_then ?_
          refine m_seq ?_
          have hS2 : St w (cB b0 [.int .i64 H.tick, .int .i64 (H.last + 1), .slice A' H.ps.length c'] T :: ((br ++ bp) ++ B')) V := hS
          replace hS := hS2
          clear hS2
          refine d_region (fun w => St w (cB b0 [.int .i64 H.tick, .int .i64 (H.last + 1), .slice A' H.ps.length c'] T :: B') V) [4, 8, 9, 10] [0, 1, 2, 3, 4, 5, 6, 7, 8, 9, 10, 12, 15, 16] _ _ hS rfl 18 [false, false, false, false, false, false, false, false, false, false, false, false, false, false, false, false, false, false] rfl rfl ?_
          clear hS; intro w hS _
          have hQ : St w (cB b0 [.int .i64 H.tick, .int .i64 (H.last + 1), .slice A' H.ps.length c'] T :: B') V := hS.sub (.cons_cons _ (List.sublist_append_right _ _))
          refine d_take 0 (bs' := [true, false, false, false, false, false, false, false, false, false, false, false, false, false, false, false, false, false]) hA rfl rfl (by kernel_rfl) (fun _ _ _ h => h) (Y.move rfl) rfl ?_
          clear hA a; intro a hA
          refine d_take 1 (bs' := [true, true, false, false, false, false, false, false, false, false, false, false, false, false, false, false, false, false]) hA rfl rfl (by kernel_rfl) (fun _ _ _ h => h) (Y.move rfl) rfl ?_
          clear hA a; intro a hA
          refine d_take 2 (bs' := [true, true, true, false, false, false, false, false, false, false, false, false, false, false, false, false, false, false]) hA rfl rfl (by kernel_rfl) (fun _ _ _ h => h) (Y.nil rfl) rfl ?_
          clear hA a; intro a hA
          refine d_take 3 (bs' := [true, true, true, true, false, false, false, false, false, false, false, false, false, false, false, false, false, false]) hA rfl rfl (by kernel_rfl) (fun _ _ _ h => h) (Y.fieldAddr (k := 2) rfl Tryz.underlying24 rfl rfl Tryz.sizeOf22) rfl ?_
          clear hA a; intro a hA
          refine d_load 4 (bs' := [true, true, true, true, true, false, false, false, false, false, false, false, false, false, false, false, false, false]) hA hQ rfl rfl rfl (by kernel_rfl) (fun _ _ _ h => h) (Y.load rfl Tryz.isAgg22 (fun w h => h.cell (i := 0) rfl rfl)) rfl ?_
          clear hA a; intro a hA
          refine d_take 5 (bs' := [true, true, true, true, true, true, false, false, false, false, false, false, false, false, false, false, false, false]) hA rfl rfl (by kernel_rfl) (fun _ _ _ h => h) (Y.move rfl) rfl ?_
          clear hA a; intro a hA
          refine d_take 6 (bs' := [true, true, true, true, true, true, true, false, false, false, false, false, false, false, false, false, false, false]) hA rfl rfl (by kernel_rfl) (fun _ _ _ h => h) (Y.nil rfl) rfl ?_
          clear hA a; intro a hA
          refine d_take 7 (bs' := [true, true, true, true, true, true, true, true, false, false, false, false, false, false, false, false, false, false]) hA rfl rfl (by kernel_rfl) (fun _ _ _ h => h) (Y.fieldAddr (k := 1) rfl Tryz.underlying24 rfl rfl Tryz.sizeOf3) rfl ?_
          clear hA a; intro a hA
          refine d_load 8 (bs' := [true, true, true, true, true, true, true, true, true, false, false, false, false, false, false, false, false, false]) hA hQ rfl rfl rfl (by kernel_rfl) (fun _ _ _ h => h) (Y.load rfl Tryz.isAgg3 (fun w h => h.cell (i := 0) rfl rfl)) rfl ?_
          clear hA a; intro a hA
          refine d_load 9 (bs' := [true, true, true, true, true, true, true, true, true, true, false, false, false, false, false, false, false, false]) hA hQ rfl rfl rfl (by kernel_rfl) (fun _ _ _ h => h) (Y.load rfl Tryz.isAgg3 (fun w h => h.cellM (cs := [.int .i64 t]) (T := 3) (by simp [hm']) rfl)) rfl ?_
          clear hA a; intro a hA
          refine d_load 10 (bs' := [true, true, true, true, true, true, true, true, true, true, true, false, false, false, false, false, false, false]) hA hQ rfl rfl rfl (by kernel_rfl) (fun _ _ _ h => h) (Y.load rfl Tryz.isAgg3 (fun w h => h.cellM (cs := [.int .i64 t]) (T := 3) (by simp [hm']) rfl)) rfl ?_
          clear hA a; intro a hA
          refine d_one 11 (bs' := [true, true, true, true, true, true, true, true, true, true, true, true, false, false, false, false, false, false]) true rfl (by kernel_rfl) ?_
          refine m_buildSlice ([.int .i64 t]) hA hS rfl rfl (bs_int t) ?_
          clear hA hS a; intro a b1 w hA hgb1 hS
          replace hQ := hQ.gr hgb1
          refine m_nil (m_then ⟨fun _ => hQ, ?_⟩)
          refine d_take 12 (bs' := [true, true, true, true, true, true, true, true, true, true, true, true, true, false, false, false, false, false]) hA rfl rfl (by kernel_rfl) (fun _ _ _ h => h) (Y.build rfl (cs := [.int .i64 (H.last + 1), .int .i64 t, .slice (some ⟨b1, 0, none⟩) 1 1, .slice none 0 0]) (by kernel_rfl)) rfl ?_
          clear hA a; intro a hA
          refine d_one 13 (bs' := [true, true, true, true, true, true, true, true, true, true, true, true, true, true, false, false, false, false]) true rfl (by kernel_rfl) ?_
          refine m_buildSlice ([.int .i64 (H.last + 1), .int .i64 t, .slice (some ⟨b1, 0, none⟩) 1 1, .slice none 0 0]) hA hS rfl rfl (bs_pty _ _ _ _) ?_
          clear hA hS a; intro a b2 w hA hgb2 hS
          replace hQ := hQ.gr hgb2
          refine m_nil (m_then ⟨fun _ => hQ, ?_⟩)
          refine d_one 14 (bs' := [true, true, true, true, true, true, true, true, true, true, true, true, true, true, true, false, false, false]) true rfl (by kernel_rfl) ?_
          have hSp : St w (br ++ ([cB b0 [.int .i64 H.tick, .int .i64 (H.last + 1), .slice A' H.ps.length c'] T, cB b1 [.int .i64 t] 3, cB b2 [.int .i64 (H.last + 1), .int .i64 t, .slice (some ⟨b1, 0, none⟩) 1 1, .slice none 0 0] 46] ++ (bp ++ B'))) V :=
            hS.perm (List.perm_iff_count.2 fun a => by simp only [List.count_append, List.count_cons, List.count_nil]; omega)
          refine m_append (bs := br) 46 64 [.int .i64 (H.last + 1), .int .i64 t, .slice (some ⟨b1, 0, none⟩) 1 1, .slice none 0 0] elemPty hA hSp hR rfl rfl rfl Tryz.underlying22 rfl (hS.cells (i := 0) rfl) (List.all_eq_true.1 rfl) (by simp; omega) (by decide) ?_
          clear hA hS hSp a; intro a w v' bs' hA hR' hn hS
          obtain ⟨A3, c3, rfl⟩ := hR'.shape
          replace hQ : St w (cB b0 [.int .i64 H.tick, .int .i64 (H.last + 1), .slice A' H.ps.length c'] T :: B') V := (hS.goneL).sub (.cons_cons _ (.cons _ (.cons _ (List.sublist_append_right bp B'))))
          replace hS : St w ([cB b0 [.int .i64 H.tick, .int .i64 (H.last + 1), .slice A' H.ps.length c'] T, cB b2 [.int .i64 (H.last + 1), .int .i64 t, .slice (some ⟨b1, 0, none⟩) 1 1, .slice none 0 0] 46] ++ ((bs' ++ (bp ++ [cB b1 [.int .i64 t] 3])) ++ B')) V :=
            hS.perm (List.perm_iff_count.2 fun a => by simp only [List.count_append, List.count_cons, List.count_nil]; omega)
          refine m_nil (m_then ⟨fun _ => hQ, ?_⟩)
          refine d_take 15 (bs' := [true, true, true, true, true, true, true, true, true, true, true, true, true, true, true, true, false, false]) hA rfl rfl (by kernel_rfl) (fun _ _ _ h => h) (Y.nil rfl) rfl ?_
          clear hA a; intro a hA
          refine d_take 16 (bs' := [true, true, true, true, true, true, true, true, true, true, true, true, true, true, true, true, true, false]) hA rfl rfl (by kernel_rfl) (fun _ _ _ h => h) (Y.fieldAddr (k := 2) rfl Tryz.underlying24 rfl rfl Tryz.sizeOf22) rfl ?_
          clear hA a; intro a hA
          refine d_one 17 (bs' := [true, true, true, true, true, true, true, true, true, true, true, true, true, true, true, true, true, true]) false rfl (by kernel_rfl) ?_
          refine m_store 0 hA hS rfl rfl Tryz.sizeOf22 rfl rfl rfl rfl ?_
          clear hS; intro w hS
          refine m_nil (m_then ⟨fun h => (by cases h), ?_⟩)
          refine d_done (by kernel_rfl) ?_
          refine m_then ?_
          refine m_seq ?_
          refine m_region ?_
          refine m1 hA hS (Y.assign rfl) rfl ?_
          clear hA a; intro a hA
          refine m_nil ?_
          refine m_then ?_
          refine m_retc ?_
          refine m_ret1 hA Tryz.results54 rfl ?_
          rw [hF]
          refine ⟨rfl, ?_⟩
          rw [if_pos rfl]
          refine ⟨.slice A3 ((H.ps.map (unF fun _ i => decide (i.who = t))).length + 1) c3, bs' ++ (bp ++ [cB b1 [.int .i64 t] 3]), ⟨_, bs', _, ?_, hPB.app ⟨[.int .i64 (H.last + 1), .int .i64 t, .slice (some ⟨b1, 0, none⟩) 1 1, .slice none 0 0], [], [cB b1 [.int .i64 t] 3], [], rfl, rfl, ⟨_, _, [cB b1 [.int .i64 t] 3], [], rfl, ?_, RowB.nil _ _, rfl, by simp, by simp⟩, rfl, rfl⟩, rfl, by simp; omega⟩, ?_⟩
          · simpa using hR'
          · exact ⟨rfl, .inr ⟨b1, 1, _, rfl, rfl, Nat.le_refl _, by decide, rfl, rfl⟩⟩
          · exact hS.sub (.cons_cons _ (.cons _ (List.Sublist.refl _)))
set_option maxRecDepth 100000 in
theorem create_c (t : Int) (H : Hall) (A : Option Addr) (n c : Nat) (B : List Bx) (V : List (Nat × World)) (lo : Nat) (v w0 w : World) (hS : St w B V) (hw0 : (0, w0) ∈ V) (hv : (lo, v) ∈ V) (hP : PtysL lo v A n H.ps) :
    Calls Tryz.prog 18 #[.agg #[.int .i64 H.tick, .int .i64 H.last, .slice A n c], .int .i64 t] w (Gives (change (creF t) H) B V) := by
  refine m_enter Tryz.func18 rfl Tryz.ntmps18 (Nat.le_of_ble_eq_true rfl) ?_
  intro a hA
  refine m_seq ?_
  refine m_region ?_
  refine m_box hA hS rfl rfl ?_
  clear hA hS a; intro a b1 w hA hleb1 hgb1 hS
  refine m_box hA hS rfl rfl ?_
  clear hA hS a; intro a b2 w hA hleb2 hgb2 hS
  refine m_alloc hA hS Tryz.zeroValue24 rfl ?_
  clear hA hS a; intro a b3 w hA hleb3 hgb3 hS
  refine m1 hA hS (Y.assign rfl) rfl ?_
  clear hA a; intro a hA
  refine m_nil ?_
  refine m_then ?_
  refine m_seq ?_
  refine m_region ?_
  refine m1 hA hS (Y.loads rfl Tryz.isAgg24 Tryz.sizeOf24 (fun w h => h.cells (i := 2) rfl) rfl) rfl ?_
  clear hA a; intro a hA
  refine m1 hA hS (Y.func rfl) rfl ?_
  clear hA a; intro a hA
  refine m_call hA Tryz.call51 rfl rfl ((change_c H A n c 54 [.pointer (some ⟨b2, 0, none⟩)] (creF t) _ V lo v w0 _ hS hw0 hv hP Tryz.call54 (create1_c t H b2 _ V w0 hw0 (by simp [Value.cells]))).mono ?_)
  rintro e w ⟨pv, bs, rfl, hH, hSn⟩
  refine ⟨_, rfl, ?_⟩
  clear hA a; intro a hA
  obtain ⟨A', c', rfl⟩ := hH.shape
  have hS : St w ([cB b3 [.int .i64 0, .int .i64 0, .slice none 0 0] 24] ++ (bs ++ B)) V :=
    (St.perm (B' := [cB b2 [.int .i64 t] 3, cB b1 [.int .i64 H.tick, .int .i64 H.last, .slice A n c] 24] ++ ([cB b3 [.int .i64 0, .int .i64 0, .slice none 0 0] 24] ++ (bs ++ B))) (B := bs ++ ([cB b3 [.int .i64 0, .int .i64 0, .slice none 0 0] 24, cB b2 [.int .i64 t] 3, cB b1 [.int .i64 H.tick, .int .i64 H.last, .slice A n c] 24] ++ B)) hSn (List.perm_iff_count.2 fun a => by simp only [List.count_append, List.count_cons, List.count_nil]; omega)).goneL
  refine m1 hA hS (Y.extract rfl rfl) rfl ?_
  clear hA a; intro a hA
  refine m1 hA hS (Y.extract rfl rfl) rfl ?_
  clear hA a; intro a hA
  refine m_store 0 hA hS rfl rfl Tryz.sizeOf24 rfl rfl rfl rfl ?_
  clear hS; intro w hS
  refine m1 hA hS (Y.assign rfl) rfl ?_
  clear hA a; intro a hA
  refine m_nil ?_
  refine m_then ?_
  refine m_retc ?_
  refine m_retc2 0 hA hS Tryz.results18 rfl rfl rfl Tryz.isAgg24 Tryz.sizeOf24 ?_
  exact ⟨_, bs, rfl, hH, hS.gone⟩
end Go.Proofs.YtljkhijdaaconaaGreat
