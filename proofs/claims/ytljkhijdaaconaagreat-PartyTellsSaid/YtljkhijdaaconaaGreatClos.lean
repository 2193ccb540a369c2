/- Contracts: the closures that changes hand on. -/
import Derived.Test.YtljkhijdaaconaaGreatChange
set_option linter.unusedVariables false
namespace Go.Proofs.YtljkhijdaaconaaGreat
open Go.RowKit

set_option maxRecDepth 100000 in
theorem tilLe_c (p : Pty) (i : Inv) (m v : Value) (t : Int) (b : Nat) (w0 w : World) (B : List Bx) (V : List (Nat × World)) (hS : St w B V) (hm : cB b [.int .i64 t] 3 ∈ B) :
    Calls Tryz.prog 58 ([Value.agg #[.int .i64 p.id, .int .i64 p.leader, m, v], Value.agg #[.int .i64 i.who, .int .i64 i.til]] ++ [Value.pointer (some ⟨b, 0, none⟩)]).toArray w fun e w' => e = .returned (.bool (decide (i.til ≤ t))) ∧ Gr w w' := by
  refine m_enter Tryz.func58 rfl Tryz.ntmps58 (Nat.le_of_ble_eq_true rfl) ?_
  intro a hA
  refine m_seq ?_
  refine m_region ?_
  refine m_box hA hS rfl rfl ?_
  clear hA hS a; intro a b1 w hA hleb1 hgb1 hS
  refine m_box hA hS rfl rfl ?_
  clear hA hS a; intro a b2 w hA hleb2 hgb2 hS
  refine m1 hA hS (Y.assign rfl) rfl ?_
  clear hA a; intro a hA
  refine m_nil ?_
  refine m_then ?_
  refine m_seq ?_
  refine m_region ?_
  refine m1 hA hS (Y.fieldAddr (k := 1) rfl Tryz.underlying61 rfl rfl Tryz.sizeOf3) rfl ?_
  clear hA a; intro a hA
  refine m1 hA hS (Y.load rfl Tryz.isAgg3 (fun w h => h.cell (i := 0) rfl rfl)) rfl ?_
  clear hA a; intro a hA
  refine m1 hA hS (Y.load rfl Tryz.isAgg3 (fun w h => h.cellM (cs := [.int .i64 t]) (T := 3) (by simp [hm]) rfl)) rfl ?_
  clear hA a; intro a hA
  refine m1 hA hS (Y.leI rfl rfl) rfl ?_
  clear hA a; intro a hA
  refine m1 hA hS (Y.assign rfl) rfl ?_
  clear hA a; intro a hA
  refine m_nil ?_
  refine m_then ?_
  refine m_retc ?_
  refine m_ret1 hA Tryz.results58 rfl ?_
  exact ⟨rfl, hgb1.tr hgb2⟩
set_option maxRecDepth 100000 in
theorem whoEq_c (p : Pty) (i : Inv) (m v : Value) (t : Int) (b : Nat) (w0 w : World) (B : List Bx) (V : List (Nat × World)) (hS : St w B V) (hm : cB b [.int .i64 t] 3 ∈ B) :
    Calls Tryz.prog 56 ([Value.agg #[.int .i64 p.id, .int .i64 p.leader, m, v], Value.agg #[.int .i64 i.who, .int .i64 i.til]] ++ [Value.pointer (some ⟨b, 0, none⟩)]).toArray w fun e w' => e = .returned (.bool (decide (i.who = t))) ∧ Gr w w' := by
  refine m_enter Tryz.func56 rfl Tryz.ntmps56 (Nat.le_of_ble_eq_true rfl) ?_
  intro a hA
  refine m_seq ?_
  refine m_region ?_
  refine m_box hA hS rfl rfl ?_
  clear hA hS a; intro a b1 w hA hleb1 hgb1 hS
  refine m_box hA hS rfl rfl ?_
  clear hA hS a; intro a b2 w hA hleb2 hgb2 hS
  refine m1 hA hS (Y.assign rfl) rfl ?_
  clear hA a; intro a hA
  refine m_nil ?_
  refine m_then ?_
  refine m_seq ?_
  refine m_region ?_
  refine m1 hA hS (Y.fieldAddr (k := 0) rfl Tryz.underlying61 rfl rfl Tryz.sizeOf3) rfl ?_
  clear hA a; intro a hA
  refine m1 hA hS (Y.load rfl Tryz.isAgg3 (fun w h => h.cell (i := 0) rfl rfl)) rfl ?_
  clear hA a; intro a hA
  refine m1 hA hS (Y.load rfl Tryz.isAgg3 (fun w h => h.cellM (cs := [.int .i64 t]) (T := 3) (by simp [hm]) rfl)) rfl ?_
  clear hA a; intro a hA
  refine m1 hA hS (Y.eqI rfl rfl) rfl ?_
  clear hA a; intro a hA
  refine m1 hA hS (Y.assign rfl) rfl ?_
  clear hA a; intro a hA
  refine m_nil ?_
  refine m_then ?_
  refine m_retc ?_
  refine m_ret1 hA Tryz.results56 rfl ?_
  exact ⟨rfl, hgb1.tr hgb2⟩
set_option maxRecDepth 100000 in
theorem memEq_c (x t : Int) (b : Nat) (w : World) (B : List Bx) (V : List (Nat × World)) (hS : St w B V) (hm : cB b [.int .i64 t] 3 ∈ B) :
    Calls Tryz.prog 94 ([Value.int .i64 x] ++ [Value.pointer (some ⟨b, 0, none⟩)]).toArray w fun e w' => e = .returned (.bool (decide (x = t))) ∧ Gr w w' := by
  refine m_enter Tryz.func94 rfl Tryz.ntmps94 (Nat.le_of_ble_eq_true rfl) ?_
  intro a hA
  refine m_seq ?_
  refine m_region ?_
  refine m1 hA hS (Y.assign rfl) rfl ?_
  clear hA a; intro a hA
  refine m_nil ?_
  refine m_then ?_
  refine m_seq ?_
  refine m_region ?_
  refine m1 hA hS (Y.move rfl) rfl ?_
  clear hA a; intro a hA
  refine m1 hA hS (Y.load rfl Tryz.isAgg3 (fun w h => h.cellM (cs := [.int .i64 t]) (T := 3) (by simp [hm]) rfl)) rfl ?_
  clear hA a; intro a hA
  refine m1 hA hS (Y.eqI rfl rfl) rfl ?_
  clear hA a; intro a hA
  refine m1 hA hS (Y.assign rfl) rfl ?_
  clear hA a; intro a hA
  refine m_nil ?_
  refine m_then ?_
  refine m_retc ?_
  refine m_ret1 hA Tryz.results94 rfl ?_
  exact ⟨rfl, Gr.rf _⟩
set_option maxRecDepth 100000 in
theorem mine_c (i : Inv) (t : Int) (b : Nat) (w : World) (B : List Bx) (V : List (Nat × World)) (hS : St w B V) (hm : cB b [.int .i64 t] 3 ∈ B) :
    Calls Tryz.prog 82 ([Value.agg #[.int .i64 i.who, .int .i64 i.til]] ++ [Value.pointer (some ⟨b, 0, none⟩)]).toArray w fun e w' => e = .returned (.bool (decide (i.who = t))) ∧ Gr w w' := by
  refine m_enter Tryz.func82 rfl Tryz.ntmps82 (Nat.le_of_ble_eq_true rfl) ?_
  intro a hA
  refine m_seq ?_
  refine m_region ?_
  refine m_box hA hS rfl rfl ?_
  clear hA hS a; intro a b1 w hA hleb1 hgb1 hS
  refine m1 hA hS (Y.assign rfl) rfl ?_
  clear hA a; intro a hA
  refine m_nil ?_
  refine m_then ?_
  refine m_seq ?_
  refine m_region ?_
  refine m1 hA hS (Y.fieldAddr (k := 0) rfl Tryz.underlying61 rfl rfl Tryz.sizeOf3) rfl ?_
  clear hA a; intro a hA
  refine m1 hA hS (Y.load rfl Tryz.isAgg3 (fun w h => h.cell (i := 0) rfl rfl)) rfl ?_
  clear hA a; intro a hA
  refine m1 hA hS (Y.load rfl Tryz.isAgg3 (fun w h => h.cellM (cs := [.int .i64 t]) (T := 3) (by simp [hm]) rfl)) rfl ?_
  clear hA a; intro a hA
  refine m1 hA hS (Y.eqI rfl rfl) rfl ?_
  clear hA a; intro a hA
  refine m1 hA hS (Y.assign rfl) rfl ?_
  clear hA a; intro a hA
  refine m_nil ?_
  refine m_then ?_
  refine m_retc ?_
  refine m_ret1 hA Tryz.results82 rfl ?_
  exact ⟨rfl, hgb1⟩
set_option maxRecDepth 100000 in
theorem advance1_c (t : Int) (H : Hall) (b2 : Nat) (B : List Bx) (V : List (Nat × World)) (w0 : World) (hw0 : (0, w0) ∈ V) (hm : cB b2 [.int .i64 t] 3 ∈ B) : Changes 57 [.pointer (some ⟨b2, 0, none⟩)] (advF t) H B V := by
  intro hval w B' b0 T pv bs hsub hS hH
  have hm' := hsub _ hm
  obtain ⟨A', c', rfl⟩ := hH.shape
  refine m_enter Tryz.func57 rfl Tryz.ntmps57 (Nat.le_of_ble_eq_true rfl) ?_
  intro a hA
  refine m_seq ?_
  refine m_region ?_
  refine m1 hA hS (Y.assign rfl) rfl ?_
  clear hA a; intro a hA
  refine m_nil ?_
  refine m_then ?_
  refine m_seq ?_
  refine m_block ?_
  refine m_seq ?_
  refine m_region ?_
  refine m1 hA hS (Y.load rfl Tryz.isAgg3 (fun w h => h.cellM (cs := [.int .i64 t]) (T := 3) (by simp [hm']) rfl)) rfl ?_
  clear hA a; intro a hA
  refine m1 hA hS (Y.ltI rfl rfl) rfl ?_
  clear hA a; intro a hA
  refine m1 hA hS (Y.move rfl) rfl ?_
  clear hA a; intro a hA
  replace hA := hA.keep [7, 3, 0, 1] rfl
  apply m_or 3 10 7 hA hS rfl
  · intro hp1
    refine m1s hA (dj := 7) rfl rfl rfl hp1 rfl ?_
    intro a hA
    refine m1s hA (dj := 7) rfl rfl rfl hp1 rfl ?_
    clear hA a; intro a hA
    refine m1 hA hS (Y.pickT' rfl hp1 rfl) rfl ?_
    clear hA a; intro a hA
    exact m_nil (m_then ⟨hA.keep [10, 7, 3, 0, 1] rfl, hS⟩)
  · intro hp1
    refine m1g hA hS (dj := 7) rfl rfl rfl hp1 (Y.load rfl Tryz.isAgg3 (fun w h => h.cellM (cs := [.int .i64 t]) (T := 3) (by simp [hm']) rfl)) rfl ?_
    intro a hA
    refine m1g hA hS (dj := 7) rfl rfl rfl hp1 (Y.gtI rfl rfl) rfl ?_
    clear hA a; intro a hA
    refine m1 hA hS (Y.pickF' rfl hp1 rfl) rfl ?_
    clear hA a; intro a hA
    exact m_nil (m_then ⟨hA.keep [10, 7, 3, 0, 1] rfl, hS⟩)
  · clear hA hS a; intro a w hA hS
    refine m1 hA hS (Y.assign rfl) rfl ?_
    clear hA a; intro a hA
    refine m_nil ?_
    refine m_then ?_
    refine m_cond hA rfl (fun hc => ?_) (fun hc => ?_)
    · simp only [Bool.or_eq_true, decide_eq_true_eq] at hc
      have hF : advF t H = (H, 2) := by unfold advF; rw [if_pos hc]
      refine m_seq ?_
      refine m_region ?_
      refine m1 hA hS (Y.assign rfl) rfl ?_
      clear hA a; intro a hA
      refine m_nil ?_
      refine m_then ?_
      refine m_retc ?_
      refine r_block ?_
      refine r_then ?_
      refine m_ret1 hA Tryz.results57 rfl ?_
      rw [hF]
      refine ⟨rfl, ?_⟩
      rw [if_neg (by simp)]
      exact (hS.gone).goneL
    · simp only [Bool.or_eq_false_iff, decide_eq_false_iff_not] at hc
      refine m_seq ?_
      refine q_region hS rfl (by kernel_rfl) ?_
      refine q1 hA (Y.load rfl Tryz.isAgg3 (fun w h => h.cellM (cs := [.int .i64 t]) (T := 3) (by simp [hm']) rfl)) rfl ?_
      clear hA a; intro a hA
      refine q1 hA (Y.move rfl) rfl ?_
      clear hA a; intro a hA
      refine q1 hA (Y.nil rfl) rfl ?_
      clear hA a; intro a hA
      refine q1 hA (Y.fieldAddr (k := 0) rfl Tryz.underlying24 rfl rfl Tryz.sizeOf3) rfl ?_
      clear hA a; intro a hA
      refine q1 hA (Y.load rfl Tryz.isAgg3 (fun w h => h.cell (i := 0) rfl rfl)) rfl ?_
      clear hA a; intro a hA
      refine q1 hA (Y.ltI rfl rfl) rfl ?_
      clear hA a; intro a hA
      refine q1 hA (Y.assign rfl) rfl ?_
      clear hA a; intro a hA
      refine q_nil ?_
      clear hS; intro w hS
      refine m_then ?_
      refine m_condP hA rfl (fun hlt => ?_) (fun hlt => ?_)
      · have hF : advF t H = (H, 360) := by unfold advF; rw [if_neg (by omega), if_pos hlt]
        refine m_seq ?_
        refine m_region ?_
        refine m1 hA hS (Y.assign rfl) rfl ?_
        clear hA a; intro a hA
        refine m_nil ?_
        refine m_then ?_
        refine m_retc ?_
        refine r_block ?_
        refine r_then ?_
        refine m_ret1 hA Tryz.results57 rfl ?_
        rw [hF]
        refine ⟨rfl, ?_⟩
        rw [if_neg (by simp)]
        exact (hS.gone).goneL
      · have hF : advF t H = ({ H with tick := t, ps := H.ps.map (unF fun _ i => decide (i.til ≤ t)) }, 0) := by unfold advF; rw [if_neg (by omega), if_neg hlt]
        refine m_skip ?_
        refine n_block ?_
        refine m_then ?_
        refine m_seq ?_
        refine m_region ?_
        refine m1 hA hS (Y.move rfl) rfl ?_
        clear hA a; intro a hA
        refine m1 hA hS (Y.load rfl Tryz.isAgg3 (fun w h => h.cellM (cs := [.int .i64 t]) (T := 3) (by simp [hm']) rfl)) rfl ?_
        clear hA a; intro a hA
        refine m1 hA hS (Y.nil rfl) rfl ?_
        clear hA a; intro a hA
        refine m1 hA hS (Y.fieldAddr (k := 0) rfl Tryz.underlying24 rfl rfl Tryz.sizeOf3) rfl ?_
        clear hA a; intro a hA
        refine m_store 0 hA hS rfl rfl Tryz.sizeOf3 rfl rfl rfl rfl ?_
        clear hS; intro w hS
        refine m_nil ?_
        refine m_then ?_
        refine m_seq ?_
        refine m_region ?_
        refine m1 hA hS (Y.move rfl) rfl ?_
        clear hA a; intro a hA
        refine m1 hA hS (Y.func rfl) rfl ?_
        clear hA a; intro a hA
        have hS2 : St w (cB b0 [.int .i64 t, .int .i64 H.last, .slice A' H.ps.length c'] T :: (bs ++ B')) V := hS
        replace hS := hS2
        clear hS2
        refine m_call hA Tryz.call55 rfl rfl ((uninvite_c b0 T _ _ _ H.ps bs B' V 58 [.pointer (some ⟨b2, 0, none⟩)] (fun _ i => decide (i.til ≤ t)) w0 _ hS hw0 hH Tryz.call58 (fun W bs' h p i m v => tilLe_c p i m v t b2 w0 W _ V h (by simp [hm']))).mono ?_)
        rintro e w ⟨bs', rfl, hH', hS⟩
        refine ⟨_, rfl, ?_⟩
        clear hA a; intro a hA
        refine m_nil ?_
        refine m_then ?_
        refine m_seq ?_
        refine m_region ?_
        refine m1 hA hS (Y.assign rfl) rfl ?_
        clear hA a; intro a hA
        refine m_nil ?_
        refine m_then ?_
        refine m_retc ?_
        refine m_ret1 hA Tryz.results57 rfl ?_
        rw [hF]
        exact ⟨rfl, by rw [if_pos rfl]; exact ⟨_, bs', hH', hS⟩⟩
set_option maxRecDepth 100000 in
theorem advance_c (t : Int) (H : Hall) (A : Option Addr) (n c : Nat) (B : List Bx) (V : List (Nat × World)) (lo : Nat) (v w0 w : World) (hS : St w B V) (hw0 : (0, w0) ∈ V) (hv : (lo, v) ∈ V) (hP : PtysL lo v A n H.ps) :
    Calls Tryz.prog 19 #[.agg #[.int .i64 H.tick, .int .i64 H.last, .slice A n c], .int .i64 t] w (Gives (change (advF t) H) B V) := by
  refine m_enter Tryz.func19 rfl Tryz.ntmps19 (Nat.le_of_ble_eq_true rfl) ?_
  intro a hA
  refine m_seq ?_
  refine m_region ?_
  refine m_box hA hS rfl rfl ?_
  clear hA hS a; intro a b1 w hA hleb1 hgb1 hS
  refine m_box hA hS rfl rfl ?_
  clear hA hS a; intro a b2 w hA hleb2 hgb2 hS
  refine m_alloc hA hS Tryz.zeroValue24 rfl ?_
  clear hA hS a; intro a b3 w hA hleb3 hgb3 hS
  refine m1 hA hS (Y.assign rfl) rfl ?_
  clear hA a; intro a hA
  refine m_nil ?_
  refine m_then ?_
  refine m_seq ?_
  refine m_region ?_
  refine m1 hA hS (Y.loads rfl Tryz.isAgg24 Tryz.sizeOf24 (fun w h => h.cells (i := 2) rfl) rfl) rfl ?_
  clear hA a; intro a hA
  refine m1 hA hS (Y.func rfl) rfl ?_
  clear hA a; intro a hA
  refine m_call hA Tryz.call51 rfl rfl ((change_c H A n c 57 [.pointer (some ⟨b2, 0, none⟩)] (advF t) _ V lo v w0 _ hS hw0 hv hP Tryz.call57 (advance1_c t H b2 _ V w0 hw0 (by simp [Value.cells]))).mono ?_)
  rintro e w ⟨pv, bs, rfl, hH, hSn⟩
  refine ⟨_, rfl, ?_⟩
  clear hA a; intro a hA
  obtain ⟨A', c', rfl⟩ := hH.shape
  have hS : St w ([cB b3 [.int .i64 0, .int .i64 0, .slice none 0 0] 24] ++ (bs ++ B)) V :=
    (St.perm (B' := [cB b2 [.int .i64 t] 3, cB b1 [.int .i64 H.tick, .int .i64 H.last, .slice A n c] 24] ++ ([cB b3 [.int .i64 0, .int .i64 0, .slice none 0 0] 24] ++ (bs ++ B))) (B := bs ++ ([cB b3 [.int .i64 0, .int .i64 0, .slice none 0 0] 24, cB b2 [.int .i64 t] 3, cB b1 [.int .i64 H.tick, .int .i64 H.last, .slice A n c] 24] ++ B)) hSn (List.perm_iff_count.2 fun a => by simp only [List.count_append, List.count_cons, List.count_nil]; omega)).goneL
  refine m1 hA hS (Y.extract rfl rfl) rfl ?_
  clear hA a; intro a hA
  refine m1 hA hS (Y.extract rfl rfl) rfl ?_
  clear hA a; intro a hA
  refine m_store 0 hA hS rfl rfl Tryz.sizeOf24 rfl rfl rfl rfl ?_
  clear hS; intro w hS
  refine m1 hA hS (Y.assign rfl) rfl ?_
  clear hA a; intro a hA
  refine m_nil ?_
  refine m_then ?_
  refine m_retc ?_
  refine m_retc2 0 hA hS Tryz.results19 rfl rfl rfl Tryz.isAgg24 Tryz.sizeOf24 ?_
  exact ⟨_, bs, rfl, hH, hS.gone⟩
end Go.Proofs.YtljkhijdaaconaaGreat
