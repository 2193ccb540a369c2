/- Contracts of the reference of chapter 36: the changes. -/
import Derived.Test.YtljkhijdaaconaaGreatRef4
set_option linter.unusedVariables false
set_option linter.unusedSectionVars false
namespace Go.Proofs.YtljkhijdaaconaaGreat
open Go.RowKit

set_option maxRecDepth 100000 in
set_option maxHeartbeats 2000000 in
theorem refAdvance_c (K : Nat → Prop) (t : Int) (H : Hall) (A : Option Addr) (n c : Nat) (w0 : World) (hP : PtysK K w0 A n H.ps) (hn : n ≤ 100) (hq : ∀ p ∈ H.ps, p.mem.length ≤ 100 ∧ p.inv.length ≤ 100) (hcap : n ≤ c) :
    Calls Tryz.prog 66 #[.agg #[.int .i64 H.tick, .int .i64 H.last, .slice A n c], .int .i64 t] w0 (GivesK (change (advF t) H) K w0) := by
  have hl := hP.len
  have hPl := hP.lt
  refine m_enter Tryz.func66 rfl Tryz.ntmps66 (Nat.le_of_ble_eq_true rfl) ?_
  intro a hA
  have hS := St.start w0
  refine m_seq ?_
  refine m_region ?_
  refine m_box hA hS rfl rfl ?_
  clear hA hS a; intro a b1 w hA hleb1 hgb1 hS
  refine m_alloc hA hS Tryz.zeroValue30 rfl ?_
  clear hA hS a; intro a b2 w hA hleb2 hgb2 hS
  refine m1 hA hS (Y.assign rfl) rfl ?_
  clear hA a; intro a hA
  refine m_nil ?_
  refine m_then ?_
  refine m_seq ?_
  refine m_seq ?_
  refine m_region ?_
  refine m1 hA hS (Y.loads rfl Tryz.isAgg30 Tryz.sizeOf30 (fun w h => h.cells (i := 1) rfl) rfl) rfl ?_
  clear hA a; intro a hA
  refine m_callb hA hS Tryz.call9 rfl rfl (refValid_c H A n c _ (hP.z.gr (hS.gr0 (by simp))) hq) ?_
  clear hA hS a; intro a w hA hS hg
  refine m1 hA hS (Y.not rfl) rfl ?_
  clear hA a; intro a hA
  refine m1 hA hS (Y.move rfl) rfl ?_
  clear hA a; intro a hA
  replace hA := hA.keep [9, 5, 4, 2, 1] rfl
  apply m_or 3 12 9 hA hS rfl
  · intro hp1
    refine m1s hA (dj := 9) rfl rfl rfl hp1 rfl ?_
    intro a hA
    refine m1s hA (dj := 9) rfl rfl rfl hp1 rfl ?_
    clear hA a; intro a hA
    refine m1 hA hS (Y.pickT' rfl hp1 rfl) rfl ?_
    clear hA a; intro a hA
    exact m_nil (m_then ⟨hA.keep [12, 9, 5, 4, 2, 1] rfl, hS⟩)
  · intro hp1
    refine m1g hA hS (dj := 9) rfl rfl rfl hp1 (Y.move rfl) rfl ?_
    intro a hA
    refine m1g hA hS (dj := 9) rfl rfl rfl hp1 (Y.ltI rfl rfl) rfl ?_
    clear hA a; intro a hA
    refine m1 hA hS (Y.pickF' rfl hp1 rfl) rfl ?_
    clear hA a; intro a hA
    exact m_nil (m_then ⟨hA.keep [12, 9, 5, 4, 2, 1] rfl, hS⟩)
  · clear hA hS a; intro a w hA hS
    refine m1 hA hS (Y.move rfl) rfl ?_
    clear hA a; intro a hA
    replace hA := hA.keep [13, 5, 4, 2, 1] rfl
    apply m_or 3 16 13 hA hS rfl
    · intro hp2
      refine m1s hA (dj := 13) rfl rfl rfl hp2 rfl ?_
      intro a hA
      refine m1s hA (dj := 13) rfl rfl rfl hp2 rfl ?_
      clear hA a; intro a hA
      refine m1 hA hS (Y.pickT' rfl hp2 rfl) rfl ?_
      clear hA a; intro a hA
      exact m_nil (m_then ⟨hA.keep [16, 13, 5, 4, 2, 1] rfl, hS⟩)
    · intro hp2
      refine m1g hA hS (dj := 13) rfl rfl rfl hp2 (Y.move rfl) rfl ?_
      intro a hA
      refine m1g hA hS (dj := 13) rfl rfl rfl hp2 (Y.gtI rfl rfl) rfl ?_
      clear hA a; intro a hA
      refine m1 hA hS (Y.pickF' rfl hp2 rfl) rfl ?_
      clear hA a; intro a hA
      exact m_nil (m_then ⟨hA.keep [16, 13, 5, 4, 2, 1] rfl, hS⟩)
    · clear hA hS a; intro a w hA hS
      refine m_nil ?_
      refine m_then ?_
      refine m_cond hA rfl (fun hc => ?_) (fun hc => ?_)
      · simp only [Bool.or_eq_true, Bool.not_eq_true', decide_eq_true_eq] at hc
        have hF : change (advF t) H = (noHall, 2) := by
          cases hv : valid H with
          | false => exact change_bad hv
          | true =>
            have e : advF t H = (H, 2) := by
              unfold advF
              rw [if_pos (by rcases hc with (h | h) | h <;> first | (rw [hv] at h; cases h) | omega)]
            rw [change_good (valid_iff.1 hv), e]; rfl
        refine m_seq ?_
        refine m_region ?_
        refine m1 hA hS (Y.build (vs := []) (cs := [.int .i64 0, .int .i64 0, .slice none 0 0]) rfl (by kernel_rfl)) rfl ?_
        clear hA a; intro a hA
        refine m_store 0 hA hS rfl rfl Tryz.sizeOf30 rfl rfl rfl rfl ?_
        clear hS; intro w hS
        refine m1 hA hS (Y.assign rfl) rfl ?_
        clear hA a; intro a hA
        refine m_nil ?_
        refine m_then ?_
        refine m_retc ?_
        refine r_then ?_
        refine m_retc2 0 hA hS Tryz.results66 rfl rfl rfl Tryz.isAgg30 Tryz.sizeOf30 ?_
        rw [hF]
        exact ⟨_, _, _, rfl, hS.gr0 (by simp), RowOf.nil, Nat.le_refl _⟩
      · simp only [Bool.or_eq_false_iff, Bool.not_eq_false', decide_eq_false_iff_not] at hc
        have g := valid_iff.1 hc.1.1
        refine m_skip ?_
        refine m_then ?_
        refine m_seq ?_
        refine m_seq ?_
        refine m_region ?_
        refine m1 hA hS (Y.move rfl) rfl ?_
        clear hA a; intro a hA
        refine m1 hA hS (Y.fieldAddr (k := 0) rfl Tryz.underlying30 rfl rfl Tryz.sizeOf3) rfl ?_
        clear hA a; intro a hA
        refine m1 hA hS (Y.load rfl Tryz.isAgg3 (fun w h => h.cell (i := 1) rfl rfl)) rfl ?_
        clear hA a; intro a hA
        refine m1 hA hS (Y.ltI rfl rfl) rfl ?_
        clear hA a; intro a hA
        refine m_nil ?_
        refine m_then ?_
        refine m_condP hA rfl (fun h1 => ?_) (fun h1 => ?_)
        · have hF : change (advF t) H = (noHall, 360) := by
            have e : advF t H = (H, 360) := by
              unfold advF
              rw [if_neg (by omega), if_pos h1]
            rw [change_good g, e]; rfl
          refine m_seq ?_
          refine m_region ?_
          refine m1 hA hS (Y.build (vs := []) (cs := [.int .i64 0, .int .i64 0, .slice none 0 0]) rfl (by kernel_rfl)) rfl ?_
          clear hA a; intro a hA
          refine m_store 0 hA hS rfl rfl Tryz.sizeOf30 rfl rfl rfl rfl ?_
          clear hS; intro w hS
          refine m1 hA hS (Y.assign rfl) rfl ?_
          clear hA a; intro a hA
          refine m_nil ?_
          refine m_then ?_
          refine m_retc ?_
          refine r_then ?_
          refine m_retc2 0 hA hS Tryz.results66 rfl rfl rfl Tryz.isAgg30 Tryz.sizeOf30 ?_
          rw [hF]
          exact ⟨_, _, _, rfl, hS.gr0 (by simp), RowOf.nil, Nat.le_refl _⟩
        · have hF : change (advF t) H = (⟨t, H.last, H.ps.map (keptF t 0 0)⟩, 0) := by rw [adv_good g (by omega) (by omega), kept_adv g]
          refine m_skip ?_
          refine m_then ?_
          refine m_seq ?_
          refine m_region ?_
          refine m1 hA hS (Y.move rfl) rfl ?_
          clear hA a; intro a hA
          refine m1 hA hS (Y.fieldAddr (k := 0) rfl Tryz.underlying30 rfl rfl Tryz.sizeOf3) rfl ?_
          clear hA a; intro a hA
          refine m_store 1 hA hS rfl rfl Tryz.sizeOf3 rfl rfl rfl rfl ?_
          clear hS; intro w hS
          refine m_nil ?_
          refine m_then ?_
          refine m_seq ?_
          refine m_region ?_
          refine m1 hA hS (Y.loads rfl Tryz.isAgg30 Tryz.sizeOf30 (fun w h => h.cells (i := 1) rfl) rfl) rfl ?_
          clear hA a; intro a hA
          refine m1 hA hS (Y.move rfl) rfl ?_
          clear hA a; intro a hA
          have hg := hS.gr0 (w0 := w0) (by simp)
          refine m_call hA Tryz.call99 rfl rfl ((kept_c (fun b => K b ∧ b < w0.heap.size) t 0 0 ⟨t, H.last, H.ps⟩ A n c _ (hPl.mv (fun _ h => h) (hg.keeps _)) hn (fun p hp => (hq p hp).2) hcap).mono ?_)
          rintro e w ⟨A5, n5, c5, rfl, hg5, hP5, hc5⟩
          refine ⟨_, rfl, ?_⟩
          clear hA a; intro a hA
          replace hS := hS.call hg5
          refine m_store 0 hA hS rfl rfl Tryz.sizeOf30 rfl rfl rfl rfl ?_
          clear hS; intro w hS
          refine m1 hA hS (Y.assign rfl) rfl ?_
          clear hA a; intro a hA
          refine m_nil ?_
          refine m_then ?_
          refine m_retc ?_
          refine m_retc2 0 hA hS Tryz.results66 rfl rfl rfl Tryz.isAgg30 Tryz.sizeOf30 ?_
          rw [hF]
          exact ⟨_, _, _, rfl, hS.gr0 (by simp), hS.endL (by simp) (List.mem_cons_self ..) (hg.tr hg5) hg.size hP5, hc5⟩
set_option maxRecDepth 100000 in
set_option maxHeartbeats 2000000 in
theorem refDecline_c (K : Nat → Prop) (who id : Int) (H : Hall) (A : Option Addr) (n c : Nat) (w0 : World) (hP : PtysK K w0 A n H.ps) (hn : n ≤ 100) (hq : ∀ p ∈ H.ps, p.mem.length ≤ 100 ∧ p.inv.length ≤ 100) (hcap : n ≤ c) :
    Calls Tryz.prog 70 #[.agg #[.int .i64 H.tick, .int .i64 H.last, .slice A n c], .int .i64 who, .int .i64 id] w0 (GivesK (change (ansF who id false) H) K w0) := by
  have hl := hP.len
  have hPl := hP.lt
  refine m_enter Tryz.func70 rfl Tryz.ntmps70 (Nat.le_of_ble_eq_true rfl) ?_
  intro a hA
  have hS := St.start w0
  refine m_seq ?_
  refine m_region ?_
  refine m_box hA hS rfl rfl ?_
  clear hA hS a; intro a b1 w hA hleb1 hgb1 hS
  refine m_alloc hA hS Tryz.zeroValue30 rfl ?_
  clear hA hS a; intro a b2 w hA hleb2 hgb2 hS
  refine m1 hA hS (Y.assign rfl) rfl ?_
  clear hA a; intro a hA
  refine m_nil ?_
  refine m_then ?_
  refine m_seq ?_
  refine m_seq ?_
  refine m_region ?_
  refine m1 hA hS (Y.loads rfl Tryz.isAgg30 Tryz.sizeOf30 (fun w h => h.cells (i := 1) rfl) rfl) rfl ?_
  clear hA a; intro a hA
  refine m_callb hA hS Tryz.call9 rfl rfl (refValid_c H A n c _ (hP.z.gr (hS.gr0 (by simp))) hq) ?_
  clear hA hS a; intro a w hA hS hg
  refine m1 hA hS (Y.not rfl) rfl ?_
  clear hA a; intro a hA
  refine m_nil ?_
  refine m_then ?_
  refine m_cond hA rfl (fun hc => ?_) (fun hc => ?_)
  · have hF : change (ansF who id false) H = (noHall, 2) := change_bad (by simpa using hc)
    refine m_seq ?_
    refine m_region ?_
    refine m1 hA hS (Y.build (vs := []) (cs := [.int .i64 0, .int .i64 0, .slice none 0 0]) rfl (by kernel_rfl)) rfl ?_
    clear hA a; intro a hA
    refine m_store 0 hA hS rfl rfl Tryz.sizeOf30 rfl rfl rfl rfl ?_
    clear hS; intro w hS
    refine m1 hA hS (Y.assign rfl) rfl ?_
    clear hA a; intro a hA
    refine m_nil ?_
    refine m_then ?_
    refine m_retc ?_
    refine r_then ?_
    refine m_retc2 0 hA hS Tryz.results70 rfl rfl rfl Tryz.isAgg30 Tryz.sizeOf30 ?_
    rw [hF]
    exact ⟨_, _, _, rfl, hS.gr0 (by simp), RowOf.nil, Nat.le_refl _⟩
  · have g := valid_iff.1 (show valid H = true by simpa using hc)
    refine m_skip ?_
    refine m_then ?_
    refine m_seq ?_
    refine m_seq ?_
    refine m_region ?_
    refine m1 hA hS (Y.loads rfl Tryz.isAgg30 Tryz.sizeOf30 (fun w h => h.cells (i := 1) rfl) rfl) rfl ?_
    clear hA a; intro a hA
    refine m1 hA hS (Y.move rfl) rfl ?_
    clear hA a; intro a hA
    refine m1 hA hS (Y.move rfl) rfl ?_
    clear hA a; intro a hA
    refine m_callb hA hS Tryz.call102 rfl rfl (asked_c who id H A n c _ (hP.z.gr (hS.gr0 (by simp)))) ?_
    clear hA hS a; intro a w hA hS hg
    refine m1 hA hS (Y.ltI rfl rfl) rfl ?_
    clear hA a; intro a hA
    refine m_nil ?_
    refine m_then ?_
    refine m_condP hA rfl (fun h0 => ?_) (fun h0 => ?_)
    · have hF : change (ansF who id false) H = (noHall, 6) := by
        rcases ans_cases who id false H with ⟨h1, _⟩ | ⟨j, p, hj, h1, h2, _⟩
        · rw [change_good g, h1]; rfl
        · have h3 : askP who id p = true := by unfold askP; rw [decide_eq_true h1, h2]; rfl
          rcases idxF_spec (askP who id) H.ps 0 with ⟨_, h4⟩ | ⟨_, _, _, h4, _⟩
          · rw [h4 p (List.mem_of_getElem? hj)] at h3; cases h3
          · omega
      refine m_seq ?_
      refine m_region ?_
      refine m1 hA hS (Y.build (vs := []) (cs := [.int .i64 0, .int .i64 0, .slice none 0 0]) rfl (by kernel_rfl)) rfl ?_
      clear hA a; intro a hA
      refine m_store 0 hA hS rfl rfl Tryz.sizeOf30 rfl rfl rfl rfl ?_
      clear hS; intro w hS
      refine m1 hA hS (Y.assign rfl) rfl ?_
      clear hA a; intro a hA
      refine m_nil ?_
      refine m_then ?_
      refine m_retc ?_
      refine r_then ?_
      refine m_retc2 0 hA hS Tryz.results70 rfl rfl rfl Tryz.isAgg30 Tryz.sizeOf30 ?_
      rw [hF]
      exact ⟨_, _, _, rfl, hS.gr0 (by simp), RowOf.nil, Nat.le_refl _⟩
    · have hF : change (ansF who id false) H = (⟨H.tick, H.last, H.ps.map (keptF H.tick who id)⟩, 0) := by
        rcases ans_cases who id false H with ⟨_, h1⟩ | ⟨j, p, hj, h1, h2, h3, h4⟩
        · rcases idxF_spec (askP who id) H.ps 0 with ⟨h4, _⟩ | ⟨_, p, h5, _, h6⟩
          · exact absurd h4 h0
          · rw [h1 p (List.mem_of_getElem? h5)] at h6; cases h6
        · have h5 := (g.id p (List.mem_of_getElem? hj)).1
          rw [change_good g, if_pos h3, h4, if_neg (by simp), kept_id g who id (by omega)]
      refine m_skip ?_
      refine m_then ?_
      refine m_seq ?_
      refine m_region ?_
      refine m1 hA hS (Y.loads rfl Tryz.isAgg30 Tryz.sizeOf30 (fun w h => h.cells (i := 1) rfl) rfl) rfl ?_
      clear hA a; intro a hA
      refine m1 hA hS (Y.fieldAddr (k := 0) rfl Tryz.underlying30 rfl rfl Tryz.sizeOf3) rfl ?_
      clear hA a; intro a hA
      refine m1 hA hS (Y.load rfl Tryz.isAgg3 (fun w h => h.cell (i := 1) rfl rfl)) rfl ?_
      clear hA a; intro a hA
      refine m1 hA hS (Y.move rfl) rfl ?_
      clear hA a; intro a hA
      refine m1 hA hS (Y.move rfl) rfl ?_
      clear hA a; intro a hA
      have hg := hS.gr0 (w0 := w0) (by simp)
      refine m_call hA Tryz.call99 rfl rfl ((kept_c (fun b => K b ∧ b < w0.heap.size) H.tick who id H A n c _ (hPl.mv (fun _ h => h) (hg.keeps _)) hn (fun p hp => (hq p hp).2) hcap).mono ?_)
      rintro e w ⟨A5, n5, c5, rfl, hg5, hP5, hc5⟩
      refine ⟨_, rfl, ?_⟩
      clear hA a; intro a hA
      replace hS := hS.call hg5
      refine m_store 0 hA hS rfl rfl Tryz.sizeOf30 rfl rfl rfl rfl ?_
      clear hS; intro w hS
      refine m1 hA hS (Y.assign rfl) rfl ?_
      clear hA a; intro a hA
      refine m_nil ?_
      refine m_then ?_
      refine m_retc ?_
      refine m_retc2 0 hA hS Tryz.results70 rfl rfl rfl Tryz.isAgg30 Tryz.sizeOf30 ?_
      rw [hF]
      exact ⟨_, _, _, rfl, hS.gr0 (by simp), hS.endL (by simp) (List.mem_cons_self ..) (hg.tr hg5) hg.size hP5, hc5⟩
set_option maxRecDepth 100000 in
set_option maxHeartbeats 2000000 in
theorem refLeave_c (K : Nat → Prop) (who : Int) (H : Hall) (A : Option Addr) (n c : Nat) (w0 : World) (hP : PtysK K w0 A n H.ps) (hn : n ≤ 100) (hq : ∀ p ∈ H.ps, p.mem.length ≤ 100 ∧ p.inv.length ≤ 100) (hcap : n ≤ c) :
    Calls Tryz.prog 71 #[.agg #[.int .i64 H.tick, .int .i64 H.last, .slice A n c], .int .i64 who] w0 (GivesK (change (lvF who) H) K w0) := by
  have hl := hP.len
  have hPl := hP.lt
  refine m_enter Tryz.func71 rfl Tryz.ntmps71 (Nat.le_of_ble_eq_true rfl) ?_
  intro a hA
  have hS := St.start w0
  refine m_seq ?_
  refine m_region ?_
  refine m_box hA hS rfl rfl ?_
  clear hA hS a; intro a b1 w hA hleb1 hgb1 hS
  refine m_alloc hA hS Tryz.zeroValue30 rfl ?_
  clear hA hS a; intro a b2 w hA hleb2 hgb2 hS
  refine m1 hA hS (Y.assign rfl) rfl ?_
  clear hA a; intro a hA
  refine m_nil ?_
  refine m_then ?_
  refine m_seq ?_
  refine m_seq ?_
  refine m_region ?_
  refine m1 hA hS (Y.loads rfl Tryz.isAgg30 Tryz.sizeOf30 (fun w h => h.cells (i := 1) rfl) rfl) rfl ?_
  clear hA a; intro a hA
  refine m_callb hA hS Tryz.call9 rfl rfl (refValid_c H A n c _ (hP.z.gr (hS.gr0 (by simp))) hq) ?_
  clear hA hS a; intro a w hA hS hg
  refine m1 hA hS (Y.not rfl) rfl ?_
  clear hA a; intro a hA
  refine m_nil ?_
  refine m_then ?_
  refine m_cond hA rfl (fun hc => ?_) (fun hc => ?_)
  · have hF : change (lvF who) H = (noHall, 2) := change_bad (by simpa using hc)
    refine m_seq ?_
    refine m_region ?_
    refine m1 hA hS (Y.build (vs := []) (cs := [.int .i64 0, .int .i64 0, .slice none 0 0]) rfl (by kernel_rfl)) rfl ?_
    clear hA a; intro a hA
    refine m_store 0 hA hS rfl rfl Tryz.sizeOf30 rfl rfl rfl rfl ?_
    clear hS; intro w hS
    refine m1 hA hS (Y.assign rfl) rfl ?_
    clear hA a; intro a hA
    refine m_nil ?_
    refine m_then ?_
    refine m_retc ?_
    refine r_then ?_
    refine m_retc2 0 hA hS Tryz.results71 rfl rfl rfl Tryz.isAgg30 Tryz.sizeOf30 ?_
    rw [hF]
    exact ⟨_, _, _, rfl, hS.gr0 (by simp), RowOf.nil, Nat.le_refl _⟩
  · have g := valid_iff.1 (show valid H = true by simpa using hc)
    have hfp := find_place g who
    have hpn := place_nn H who
    refine m_skip ?_
    refine m_then ?_
    refine m_seq ?_
    refine m_seq ?_
    refine m_region ?_
    refine m1 hA hS (Y.loads rfl Tryz.isAgg30 Tryz.sizeOf30 (fun w h => h.cells (i := 1) rfl) rfl) rfl ?_
    clear hA a; intro a hA
    refine m1 hA hS (Y.move rfl) rfl ?_
    clear hA a; intro a hA
    refine m_callb hA hS Tryz.call75 rfl rfl (refFind_c who H A n c _ (hP.z.gr (hS.gr0 (by simp)))) ?_
    clear hA hS a; intro a w hA hS hg
    refine m1 hA hS (Y.ltI rfl rfl) rfl ?_
    clear hA a; intro a hA
    refine m_nil ?_
    refine m_then ?_
    refine m_condP hA rfl (fun h0 => ?_) (fun h0 => ?_)
    · have hF : change (lvF who) H = (noHall, 6) := by
        have e : lvF who H = (H, 6) := by unfold lvF; rw [if_pos (by omega)]
        rw [change_good g, e]; rfl
      refine m_seq ?_
      refine m_region ?_
      refine m1 hA hS (Y.build (vs := []) (cs := [.int .i64 0, .int .i64 0, .slice none 0 0]) rfl (by kernel_rfl)) rfl ?_
      clear hA a; intro a hA
      refine m_store 0 hA hS rfl rfl Tryz.sizeOf30 rfl rfl rfl rfl ?_
      clear hS; intro w hS
      refine m1 hA hS (Y.assign rfl) rfl ?_
      clear hA a; intro a hA
      refine m_nil ?_
      refine m_then ?_
      refine m_retc ?_
      refine r_then ?_
      refine m_retc2 0 hA hS Tryz.results71 rfl rfl rfl Tryz.isAgg30 Tryz.sizeOf30 ?_
      rw [hF]
      exact ⟨_, _, _, rfl, hS.gr0 (by simp), RowOf.nil, Nat.le_refl _⟩
    · have hm : who ∈ memsL H.ps := Classical.byContradiction fun hk => by
        have := place_none hk
        omega
      obtain ⟨j, p, h1, h2, h3⟩ := place_some hm
      have hjl := (List.getElem?_eq_some_iff.1 h1).1
      have hF : change (lvF who) H = (⟨H.tick, H.last, leavePs j who H.ps⟩, 0) := by
        have e : lvF who H = (leaveF j who H, 0) := by
          unfold lvF
          rw [if_neg (by omega), show (place H who - 1).toNat = j from by omega]
        rw [change_good g, e]; rfl
      have hjj : idxF (hasM who) 0 H.ps = (j : Int) := by omega
      refine m_skip ?_
      refine m_then ?_
      refine m_seq ?_
      refine d_regionS [0, 1] [0, 1, 2, 4, 7] hS rfl 8 [false, false, false, false, false, false, false, false] rfl rfl ?_
      clear hS; intro w hS _
      have hQ := hS
      refine d_load 0 (bs' := [true, false, false, false, false, false, false, false]) hA hQ rfl rfl rfl (by kernel_rfl) (fun _ _ _ h => h) (Y.loads rfl Tryz.isAgg30 Tryz.sizeOf30 (fun w h => h.cells (i := 1) rfl) rfl) rfl ?_
      clear hA a; intro a hA
      refine d_load 1 (bs' := [true, true, false, false, false, false, false, false]) hA hQ rfl rfl rfl (by kernel_rfl) (fun _ _ _ h => h) (Y.loads rfl Tryz.isAgg30 Tryz.sizeOf30 (fun w h => h.cells (i := 1) rfl) rfl) rfl ?_
      clear hA a; intro a hA
      refine d_take 2 (bs' := [true, true, true, false, false, false, false, false]) hA rfl rfl (by kernel_rfl) (fun _ _ _ h => h) (Y.move rfl) rfl ?_
      clear hA a; intro a hA
      refine d_take 4 (bs' := [true, true, true, false, true, false, false, false]) hA rfl rfl (by kernel_rfl) (fun _ _ _ h => h) (Y.move rfl) rfl ?_
      clear hA a; intro a hA
      refine d_one 3 (bs' := [true, true, true, true, true, false, false, false]) true rfl (by kernel_rfl) ?_
      refine m_callb hA hS Tryz.call75 rfl rfl (refFind_c who H A n c _ (hP.z.gr (hS.gr0 (by simp)))) ?_
      clear hA hS a; intro a w hA hS hg
      replace hQ := hQ.gr hg
      refine m_nil (m_then ⟨fun _ => hQ, ?_⟩)
      refine d_one 5 (bs' := [true, true, true, true, true, true, false, false]) true rfl (by kernel_rfl) ?_
      rw [hjj] at hA
      have hg := hS.gr0 (w0 := w0) (by simp)
      refine m_call hA Tryz.call103 rfl rfl ((refLeaveF_c (fun b => K b ∧ b < w0.heap.size) j who H A n c _ (hPl.mv (fun _ h => h) (hg.keeps _)) (by omega) hn (fun p hp => (hq p hp).1) hcap).mono ?_)
      rintro e w ⟨A5, n5, c5, rfl, hg5, hP5, hc5⟩
      refine ⟨_, rfl, ?_⟩
      clear hA a; intro a hA
      replace hS := hS.call hg5
      replace hQ := hQ.gr hg5
      refine m_nil (m_then ⟨fun _ => hQ, ?_⟩)
      refine d_one 6 (bs' := [true, true, true, true, true, true, true, false]) false rfl (by kernel_rfl) ?_
      refine m_store 0 hA hS rfl rfl Tryz.sizeOf30 rfl rfl rfl rfl ?_
      clear hS; intro w hS
      refine m_nil (m_then ⟨fun h => (by cases h), ?_⟩)
      refine d_take 7 (bs' := [true, true, true, true, true, true, true, true]) hA rfl rfl (by kernel_rfl) (fun _ _ _ h => h) (Y.assign rfl) rfl ?_
      clear hA a; intro a hA
      refine d_done (by kernel_rfl) ?_
      refine m_then ?_
      refine m_retc ?_
      refine m_retc2 0 hA hS Tryz.results71 rfl rfl rfl Tryz.isAgg30 Tryz.sizeOf30 ?_
      rw [hF]
      exact ⟨_, _, _, rfl, hS.gr0 (by simp), hS.endL (by simp) (List.mem_cons_self ..) (hg.tr hg5) hg.size hP5, hc5⟩
set_option maxRecDepth 100000 in
set_option maxHeartbeats 2000000 in
theorem refDisband_c (K : Nat → Prop) (u : Int) (H : Hall) (A : Option Addr) (n c : Nat) (w0 : World) (hP : PtysK K w0 A n H.ps) (hn : n ≤ 100) (hq : ∀ p ∈ H.ps, p.mem.length ≤ 100 ∧ p.inv.length ≤ 100) (hcap : n ≤ c) :
    Calls Tryz.prog 74 #[.agg #[.int .i64 H.tick, .int .i64 H.last, .slice A n c], .int .i64 u] w0 (GivesK (change (leadF u disF) H) K w0) := by
  have hl := hP.len
  have hPl := hP.lt
  refine m_enter Tryz.func74 rfl Tryz.ntmps74 (Nat.le_of_ble_eq_true rfl) ?_
  intro a hA
  have hS := St.start w0
  refine m_seq ?_
  refine m_region ?_
  refine m_box hA hS rfl rfl ?_
  clear hA hS a; intro a b1 w hA hleb1 hgb1 hS
  refine m_alloc hA hS Tryz.zeroValue30 rfl ?_
  clear hA hS a; intro a b2 w hA hleb2 hgb2 hS
  refine m1 hA hS (Y.assign rfl) rfl ?_
  clear hA a; intro a hA
  refine m_nil ?_
  refine m_then ?_
  refine m_seq ?_
  refine m_region ?_
  refine m1 hA hS (Y.loads rfl Tryz.isAgg30 Tryz.sizeOf30 (fun w h => h.cells (i := 1) rfl) rfl) rfl ?_
  clear hA a; intro a hA
  refine m1 hA hS (Y.move rfl) rfl ?_
  clear hA a; intro a hA
  refine m_callb hA hS Tryz.call100 rfl rfl (refLead_c u H A n c _ (hP.z.gr (hS.gr0 (by simp))) hq) ?_
  clear hA hS a; intro a w hA hS hg
  rcases lead_both (H := H) u (disF) with ⟨hne, hF⟩ | ⟨j, p, hlr, g, hj, hum, hul, hpl, hF⟩
  · refine m1 hA hS (Y.move rfl) rfl ?_
    clear hA a; intro a hA
    refine m1 hA hS (Y.extract rfl rfl) rfl ?_
    clear hA a; intro a hA
    refine m1 hA hS (Y.extract rfl rfl) rfl ?_
    clear hA a; intro a hA
    refine m1 hA hS (Y.assign rfl) rfl ?_
    clear hA a; intro a hA
    refine m1 hA hS (Y.assign rfl) rfl ?_
    clear hA a; intro a hA
    refine m_nil ?_
    refine m_then ?_
    refine m_seq ?_
    refine m_seq ?_
    refine m_region ?_
    refine m1 hA hS (Y.move rfl) rfl ?_
    clear hA a; intro a hA
    refine m1 hA hS (Y.neI rfl rfl) rfl ?_
    clear hA a; intro a hA
    refine m_nil ?_
    refine m_then ?_
    refine m_condT hA rfl ((decide_eq_true hne)) ?_
    refine m_seq ?_
    refine m_region ?_
    refine m1 hA hS (Y.build (vs := []) (cs := [.int .i64 0, .int .i64 0, .slice none 0 0]) rfl (by kernel_rfl)) rfl ?_
    clear hA a; intro a hA
    refine m1 hA hS (Y.move rfl) rfl ?_
    clear hA a; intro a hA
    refine m_store 0 hA hS rfl rfl Tryz.sizeOf30 rfl rfl rfl rfl ?_
    clear hS; intro w hS
    refine m1 hA hS (Y.assign rfl) rfl ?_
    clear hA a; intro a hA
    refine m_nil ?_
    refine m_then ?_
    refine m_retc ?_
    refine r_then ?_
    refine m_retc2 0 hA hS Tryz.results74 rfl rfl rfl Tryz.isAgg30 Tryz.sizeOf30 ?_
    rw [hF]
    exact ⟨_, _, _, rfl, hS.gr0 (by simp), RowOf.nil, Nat.le_refl _⟩
  · rw [hlr] at hA
    have hjl := (List.getElem?_eq_some_iff.1 hj).1
    refine m1 hA hS (Y.move rfl) rfl ?_
    clear hA a; intro a hA
    refine m1 hA hS (Y.extract rfl rfl) rfl ?_
    clear hA a; intro a hA
    refine m1 hA hS (Y.extract rfl rfl) rfl ?_
    clear hA a; intro a hA
    refine m1 hA hS (Y.assign rfl) rfl ?_
    clear hA a; intro a hA
    refine m1 hA hS (Y.assign rfl) rfl ?_
    clear hA a; intro a hA
    refine m_nil ?_
    refine m_then ?_
    refine m_seq ?_
    refine m_seq ?_
    refine m_region ?_
    refine m1 hA hS (Y.move rfl) rfl ?_
    clear hA a; intro a hA
    refine m1 hA hS (Y.neI rfl rfl) rfl ?_
    clear hA a; intro a hA
    refine m_nil ?_
    refine m_then ?_
    refine m_condF hA rfl ((by simp)) ?_
    have hF2 : change (leadF u disF) H = (⟨H.tick, H.last, H.ps.eraseIdx j⟩, 0) := by rw [hF]; rfl
    refine m_skip ?_
    refine m_then ?_
    refine m_seq ?_
    refine m_region ?_
    refine m1 hA hS (Y.loads rfl Tryz.isAgg30 Tryz.sizeOf30 (fun w h => h.cells (i := 1) rfl) rfl) rfl ?_
    clear hA a; intro a hA
    refine m1 hA hS (Y.move rfl) rfl ?_
    clear hA a; intro a hA
    have hg := hS.gr0 (w0 := w0) (by simp)
    refine m_call hA Tryz.call104 rfl rfl ((drop2_c (fun b => K b ∧ b < w0.heap.size) j H A n c _ (hPl.mv (fun _ h => h) (hg.keeps _)) (by omega) hn hcap).mono ?_)
    rintro e w ⟨A5, n5, c5, rfl, hg5, hP5, hc5⟩
    refine ⟨_, rfl, ?_⟩
    clear hA a; intro a hA
    replace hS := hS.call hg5
    refine m_store 0 hA hS rfl rfl Tryz.sizeOf30 rfl rfl rfl rfl ?_
    clear hS; intro w hS
    refine m1 hA hS (Y.assign rfl) rfl ?_
    clear hA a; intro a hA
    refine m_nil ?_
    refine m_then ?_
    refine m_retc ?_
    refine m_retc2 0 hA hS Tryz.results74 rfl rfl rfl Tryz.isAgg30 Tryz.sizeOf30 ?_
    rw [hF2]
    exact ⟨_, _, _, rfl, hS.gr0 (by simp), hS.endL (by simp) (List.mem_cons_self ..) (hg.tr hg5) hg.size hP5, hc5⟩
set_option maxRecDepth 100000 in
set_option maxHeartbeats 2000000 in
theorem refKick_c (K : Nat → Prop) (u t : Int) (H : Hall) (A : Option Addr) (n c : Nat) (w0 : World) (hP : PtysK K w0 A n H.ps) (hn : n ≤ 100) (hq : ∀ p ∈ H.ps, p.mem.length ≤ 100 ∧ p.inv.length ≤ 100) (hcap : n ≤ c) :
    Calls Tryz.prog 72 #[.agg #[.int .i64 H.tick, .int .i64 H.last, .slice A n c], .int .i64 u, .int .i64 t] w0 (GivesK (change (leadF u (kickF u t)) H) K w0) := by
  have hl := hP.len
  have hPl := hP.lt
  refine m_enter Tryz.func72 rfl Tryz.ntmps72 (Nat.le_of_ble_eq_true rfl) ?_
  intro a hA
  have hS := St.start w0
  refine m_seq ?_
  refine m_region ?_
  refine m_box hA hS rfl rfl ?_
  clear hA hS a; intro a b1 w hA hleb1 hgb1 hS
  refine m_alloc hA hS Tryz.zeroValue30 rfl ?_
  clear hA hS a; intro a b2 w hA hleb2 hgb2 hS
  refine m1 hA hS (Y.assign rfl) rfl ?_
  clear hA a; intro a hA
  refine m_nil ?_
  refine m_then ?_
  refine m_seq ?_
  refine m_region ?_
  refine m1 hA hS (Y.loads rfl Tryz.isAgg30 Tryz.sizeOf30 (fun w h => h.cells (i := 1) rfl) rfl) rfl ?_
  clear hA a; intro a hA
  refine m1 hA hS (Y.move rfl) rfl ?_
  clear hA a; intro a hA
  refine m_callb hA hS Tryz.call100 rfl rfl (refLead_c u H A n c _ (hP.z.gr (hS.gr0 (by simp))) hq) ?_
  clear hA hS a; intro a w hA hS hg
  rcases lead_both (H := H) u (kickF u t) with ⟨hne, hF⟩ | ⟨j, p, hlr, g, hj, hum, hul, hpl, hF⟩
  · refine m1 hA hS (Y.move rfl) rfl ?_
    clear hA a; intro a hA
    refine m1 hA hS (Y.extract rfl rfl) rfl ?_
    clear hA a; intro a hA
    refine m1 hA hS (Y.extract rfl rfl) rfl ?_
    clear hA a; intro a hA
    refine m1 hA hS (Y.assign rfl) rfl ?_
    clear hA a; intro a hA
    refine m1 hA hS (Y.assign rfl) rfl ?_
    clear hA a; intro a hA
    refine m_nil ?_
    refine m_then ?_
    refine m_seq ?_
    refine m_seq ?_
    refine m_region ?_
    refine m1 hA hS (Y.move rfl) rfl ?_
    clear hA a; intro a hA
    refine m1 hA hS (Y.neI rfl rfl) rfl ?_
    clear hA a; intro a hA
    refine m_nil ?_
    refine m_then ?_
    refine m_condT hA rfl ((decide_eq_true hne)) ?_
    refine m_seq ?_
    refine m_region ?_
    refine m1 hA hS (Y.build (vs := []) (cs := [.int .i64 0, .int .i64 0, .slice none 0 0]) rfl (by kernel_rfl)) rfl ?_
    clear hA a; intro a hA
    refine m1 hA hS (Y.move rfl) rfl ?_
    clear hA a; intro a hA
    refine m_store 0 hA hS rfl rfl Tryz.sizeOf30 rfl rfl rfl rfl ?_
    clear hS; intro w hS
    refine m1 hA hS (Y.assign rfl) rfl ?_
    clear hA a; intro a hA
    refine m_nil ?_
    refine m_then ?_
    refine m_retc ?_
    refine r_then ?_
    refine m_retc2 0 hA hS Tryz.results72 rfl rfl rfl Tryz.isAgg30 Tryz.sizeOf30 ?_
    rw [hF]
    exact ⟨_, _, _, rfl, hS.gr0 (by simp), RowOf.nil, Nat.le_refl _⟩
  · rw [hlr] at hA
    have hjl := (List.getElem?_eq_some_iff.1 hj).1
    refine m1 hA hS (Y.move rfl) rfl ?_
    clear hA a; intro a hA
    refine m1 hA hS (Y.extract rfl rfl) rfl ?_
    clear hA a; intro a hA
    refine m1 hA hS (Y.extract rfl rfl) rfl ?_
    clear hA a; intro a hA
    refine m1 hA hS (Y.assign rfl) rfl ?_
    clear hA a; intro a hA
    refine m1 hA hS (Y.assign rfl) rfl ?_
    clear hA a; intro a hA
    refine m_nil ?_
    refine m_then ?_
    refine m_seq ?_
    refine m_seq ?_
    refine m_region ?_
    refine m1 hA hS (Y.move rfl) rfl ?_
    clear hA a; intro a hA
    refine m1 hA hS (Y.neI rfl rfl) rfl ?_
    clear hA a; intro a hA
    refine m_nil ?_
    refine m_then ?_
    refine m_condF hA rfl ((by simp)) ?_
    have hfp := find_place g t
    refine m_skip ?_
    refine m_then ?_
    refine m_seq ?_
    refine m_seq ?_
    refine m_region ?_
    refine m1 hA hS (Y.loads rfl Tryz.isAgg30 Tryz.sizeOf30 (fun w h => h.cells (i := 1) rfl) rfl) rfl ?_
    clear hA a; intro a hA
    refine m1 hA hS (Y.move rfl) rfl ?_
    clear hA a; intro a hA
    refine m_callb hA hS Tryz.call75 rfl rfl (refFind_c t H A n c _ (hP.z.gr (hS.gr0 (by simp)))) ?_
    clear hA hS a; intro a w hA hS hg
    refine m1 hA hS (Y.move rfl) rfl ?_
    clear hA a; intro a hA
    refine m1 hA hS (Y.neI rfl rfl) rfl ?_
    clear hA a; intro a hA
    refine m_nil ?_
    refine m_then ?_
    refine m_condP hA rfl (fun h1 => ?_) (fun h1 => ?_)
    · have hF2 : change (leadF u (kickF u t)) H = (noHall, 6) := by
        have e : kickF u t j H = (H, 6) := by unfold kickF; rw [if_pos (by simp only at h1; omega)]
        rw [hF, e]; rfl
      refine m_seq ?_
      refine m_region ?_
      refine m1 hA hS (Y.build (vs := []) (cs := [.int .i64 0, .int .i64 0, .slice none 0 0]) rfl (by kernel_rfl)) rfl ?_
      clear hA a; intro a hA
      refine m_store 0 hA hS rfl rfl Tryz.sizeOf30 rfl rfl rfl rfl ?_
      clear hS; intro w hS
      refine m1 hA hS (Y.assign rfl) rfl ?_
      clear hA a; intro a hA
      refine m_nil ?_
      refine m_then ?_
      refine m_retc ?_
      refine r_then ?_
      refine m_retc2 0 hA hS Tryz.results72 rfl rfl rfl Tryz.isAgg30 Tryz.sizeOf30 ?_
      rw [hF2]
      exact ⟨_, _, _, rfl, hS.gr0 (by simp), RowOf.nil, Nat.le_refl _⟩
    · refine m_skip ?_
      refine m_then ?_
      refine m_seq ?_
      refine m_seq ?_
      refine m_region ?_
      refine m1 hA hS (Y.move rfl) rfl ?_
      clear hA a; intro a hA
      refine m1 hA hS (Y.move rfl) rfl ?_
      clear hA a; intro a hA
      refine m1 hA hS (Y.eqI rfl rfl) rfl ?_
      clear hA a; intro a hA
      refine m_nil ?_
      refine m_then ?_
      refine m_condP hA rfl (fun h2 => ?_) (fun h2 => ?_)
      · have hF2 : change (leadF u (kickF u t)) H = (noHall, 2) := by
          have e : kickF u t j H = (H, 2) := by unfold kickF; rw [if_neg (by simp only at h1; omega), if_pos h2]
          rw [hF, e]; rfl
        refine m_seq ?_
        refine m_region ?_
        refine m1 hA hS (Y.build (vs := []) (cs := [.int .i64 0, .int .i64 0, .slice none 0 0]) rfl (by kernel_rfl)) rfl ?_
        clear hA a; intro a hA
        refine m_store 0 hA hS rfl rfl Tryz.sizeOf30 rfl rfl rfl rfl ?_
        clear hS; intro w hS
        refine m1 hA hS (Y.assign rfl) rfl ?_
        clear hA a; intro a hA
        refine m_nil ?_
        refine m_then ?_
        refine m_retc ?_
        refine r_then ?_
        refine m_retc2 0 hA hS Tryz.results72 rfl rfl rfl Tryz.isAgg30 Tryz.sizeOf30 ?_
        rw [hF2]
        exact ⟨_, _, _, rfl, hS.gr0 (by simp), RowOf.nil, Nat.le_refl _⟩
      · have hF2 : change (leadF u (kickF u t)) H = (⟨H.tick, H.last, leavePs j t H.ps⟩, 0) := by
          have e : kickF u t j H = (leaveF j t H, 0) := by unfold kickF; rw [if_neg (by simp only at h1; omega), if_neg h2]
          rw [hF, e]; rfl
        refine m_skip ?_
        refine m_then ?_
        refine m_seq ?_
        refine m_region ?_
        refine m1 hA hS (Y.loads rfl Tryz.isAgg30 Tryz.sizeOf30 (fun w h => h.cells (i := 1) rfl) rfl) rfl ?_
        clear hA a; intro a hA
        refine m1 hA hS (Y.move rfl) rfl ?_
        clear hA a; intro a hA
        refine m1 hA hS (Y.move rfl) rfl ?_
        clear hA a; intro a hA
        have hg := hS.gr0 (w0 := w0) (by simp)
        refine m_call hA Tryz.call103 rfl rfl ((refLeaveF_c (fun b => K b ∧ b < w0.heap.size) j t H A n c _ (hPl.mv (fun _ h => h) (hg.keeps _)) (by omega) hn (fun p hp => (hq p hp).1) hcap).mono ?_)
        rintro e w ⟨A5, n5, c5, rfl, hg5, hP5, hc5⟩
        refine ⟨_, rfl, ?_⟩
        clear hA a; intro a hA
        replace hS := hS.call hg5
        refine m_store 0 hA hS rfl rfl Tryz.sizeOf30 rfl rfl rfl rfl ?_
        clear hS; intro w hS
        refine m1 hA hS (Y.assign rfl) rfl ?_
        clear hA a; intro a hA
        refine m_nil ?_
        refine m_then ?_
        refine m_retc ?_
        refine m_retc2 0 hA hS Tryz.results72 rfl rfl rfl Tryz.isAgg30 Tryz.sizeOf30 ?_
        rw [hF2]
        exact ⟨_, _, _, rfl, hS.gr0 (by simp), hS.endL (by simp) (List.mem_cons_self ..) (hg.tr hg5) hg.size hP5, hc5⟩
set_option maxRecDepth 100000 in
set_option maxHeartbeats 2000000 in
theorem refPromote_c (K : Nat → Prop) (u t : Int) (H : Hall) (A : Option Addr) (n c : Nat) (w0 : World) (hP : PtysK K w0 A n H.ps) (hn : n ≤ 100) (hq : ∀ p ∈ H.ps, p.mem.length ≤ 100 ∧ p.inv.length ≤ 100) (hcap : n ≤ c) :
    Calls Tryz.prog 73 #[.agg #[.int .i64 H.tick, .int .i64 H.last, .slice A n c], .int .i64 u, .int .i64 t] w0 (GivesK (change (leadF u (promF t)) H) K w0) := by
  have hl := hP.len
  have hPl := hP.lt
  refine m_enter Tryz.func73 rfl Tryz.ntmps73 (Nat.le_of_ble_eq_true rfl) ?_
  intro a hA
  have hS := St.start w0
  refine m_seq ?_
  refine m_region ?_
  refine m_box hA hS rfl rfl ?_
  clear hA hS a; intro a b1 w hA hleb1 hgb1 hS
  refine m_alloc hA hS Tryz.zeroValue30 rfl ?_
  clear hA hS a; intro a b2 w hA hleb2 hgb2 hS
  refine m1 hA hS (Y.assign rfl) rfl ?_
  clear hA a; intro a hA
  refine m_nil ?_
  refine m_then ?_
  refine m_seq ?_
  refine m_region ?_
  refine m1 hA hS (Y.loads rfl Tryz.isAgg30 Tryz.sizeOf30 (fun w h => h.cells (i := 1) rfl) rfl) rfl ?_
  clear hA a; intro a hA
  refine m1 hA hS (Y.move rfl) rfl ?_
  clear hA a; intro a hA
  refine m_callb hA hS Tryz.call100 rfl rfl (refLead_c u H A n c _ (hP.z.gr (hS.gr0 (by simp))) hq) ?_
  clear hA hS a; intro a w hA hS hg
  rcases lead_both (H := H) u (promF t) with ⟨hne, hF⟩ | ⟨j, p, hlr, g, hj, hum, hul, hpl, hF⟩
  · refine m1 hA hS (Y.move rfl) rfl ?_
    clear hA a; intro a hA
    refine m1 hA hS (Y.extract rfl rfl) rfl ?_
    clear hA a; intro a hA
    refine m1 hA hS (Y.extract rfl rfl) rfl ?_
    clear hA a; intro a hA
    refine m1 hA hS (Y.assign rfl) rfl ?_
    clear hA a; intro a hA
    refine m1 hA hS (Y.assign rfl) rfl ?_
    clear hA a; intro a hA
    refine m_nil ?_
    refine m_then ?_
    refine m_seq ?_
    refine m_seq ?_
    refine m_region ?_
    refine m1 hA hS (Y.move rfl) rfl ?_
    clear hA a; intro a hA
    refine m1 hA hS (Y.neI rfl rfl) rfl ?_
    clear hA a; intro a hA
    refine m_nil ?_
    refine m_then ?_
    refine m_condT hA rfl ((decide_eq_true hne)) ?_
    refine m_seq ?_
    refine m_region ?_
    refine m1 hA hS (Y.build (vs := []) (cs := [.int .i64 0, .int .i64 0, .slice none 0 0]) rfl (by kernel_rfl)) rfl ?_
    clear hA a; intro a hA
    refine m1 hA hS (Y.move rfl) rfl ?_
    clear hA a; intro a hA
    refine m_store 0 hA hS rfl rfl Tryz.sizeOf30 rfl rfl rfl rfl ?_
    clear hS; intro w hS
    refine m1 hA hS (Y.assign rfl) rfl ?_
    clear hA a; intro a hA
    refine m_nil ?_
    refine m_then ?_
    refine m_retc ?_
    refine r_then ?_
    refine m_retc2 0 hA hS Tryz.results73 rfl rfl rfl Tryz.isAgg30 Tryz.sizeOf30 ?_
    rw [hF]
    exact ⟨_, _, _, rfl, hS.gr0 (by simp), RowOf.nil, Nat.le_refl _⟩
  · rw [hlr] at hA
    have hjl := (List.getElem?_eq_some_iff.1 hj).1
    refine m1 hA hS (Y.move rfl) rfl ?_
    clear hA a; intro a hA
    refine m1 hA hS (Y.extract rfl rfl) rfl ?_
    clear hA a; intro a hA
    refine m1 hA hS (Y.extract rfl rfl) rfl ?_
    clear hA a; intro a hA
    refine m1 hA hS (Y.assign rfl) rfl ?_
    clear hA a; intro a hA
    refine m1 hA hS (Y.assign rfl) rfl ?_
    clear hA a; intro a hA
    refine m_nil ?_
    refine m_then ?_
    refine m_seq ?_
    refine m_seq ?_
    refine m_region ?_
    refine m1 hA hS (Y.move rfl) rfl ?_
    clear hA a; intro a hA
    refine m1 hA hS (Y.neI rfl rfl) rfl ?_
    clear hA a; intro a hA
    refine m_nil ?_
    refine m_then ?_
    refine m_condF hA rfl ((by simp)) ?_
    have hfp := find_place g t
    refine m_skip ?_
    refine m_then ?_
    refine m_seq ?_
    refine m_seq ?_
    refine m_region ?_
    refine m1 hA hS (Y.loads rfl Tryz.isAgg30 Tryz.sizeOf30 (fun w h => h.cells (i := 1) rfl) rfl) rfl ?_
    clear hA a; intro a hA
    refine m1 hA hS (Y.move rfl) rfl ?_
    clear hA a; intro a hA
    refine m_callb hA hS Tryz.call75 rfl rfl (refFind_c t H A n c _ (hP.z.gr (hS.gr0 (by simp)))) ?_
    clear hA hS a; intro a w hA hS hg
    refine m1 hA hS (Y.move rfl) rfl ?_
    clear hA a; intro a hA
    refine m1 hA hS (Y.neI rfl rfl) rfl ?_
    clear hA a; intro a hA
    refine m_nil ?_
    refine m_then ?_
    refine m_condP hA rfl (fun h1 => ?_) (fun h1 => ?_)
    · have hF2 : change (leadF u (promF t)) H = (noHall, 6) := by
        have e : promF t j H = (H, 6) := by unfold promF; rw [if_pos (by simp only at h1; omega)]
        rw [hF, e]; rfl
      refine m_seq ?_
      refine m_region ?_
      refine m1 hA hS (Y.build (vs := []) (cs := [.int .i64 0, .int .i64 0, .slice none 0 0]) rfl (by kernel_rfl)) rfl ?_
      clear hA a; intro a hA
      refine m_store 0 hA hS rfl rfl Tryz.sizeOf30 rfl rfl rfl rfl ?_
      clear hS; intro w hS
      refine m1 hA hS (Y.assign rfl) rfl ?_
      clear hA a; intro a hA
      refine m_nil ?_
      refine m_then ?_
      refine m_retc ?_
      refine r_then ?_
      refine m_retc2 0 hA hS Tryz.results73 rfl rfl rfl Tryz.isAgg30 Tryz.sizeOf30 ?_
      rw [hF2]
      exact ⟨_, _, _, rfl, hS.gr0 (by simp), RowOf.nil, Nat.le_refl _⟩
    · have hF2 : change (leadF u (promF t)) H = (⟨H.tick, H.last, H.ps.set j { p with leader := t }⟩, 0) := by
        have e : promF t j H = (⟨H.tick, H.last, H.ps.set j { p with leader := t }⟩, 0) := by
          unfold promF
          rw [if_neg (by simp only at h1; omega), modify_split hj, set_split hj]
        rw [hF, e]; rfl
      obtain ⟨bb, o, p', M, m, mc, I, i, ic, rfl, hKb, hp', p0, p1, p2, p3, hin⟩ := hPl.at (j := j) (by omega)
      rw [hj] at hp'
      obtain rfl := Option.some.inj hp'
      refine m_skip ?_
      refine m_then ?_
      refine m_seq ?_
      refine m_region ?_
      refine m1 hA hS (Y.fieldAddr (k := 2) rfl Tryz.underlying30 rfl rfl Tryz.sizeOf28) rfl ?_
      clear hA a; intro a hA
      refine m1 hA hS (Y.load rfl Tryz.isAgg28 (fun w h => h.cell (i := 1) rfl rfl)) rfl ?_
      clear hA a; intro a hA
      refine m1 hA hS (Y.move rfl) rfl ?_
      clear hA a; intro a hA
      refine m1 hA hS (Y.indexAddrN rfl rfl Tryz.underlying28 Tryz.sizeOf43 (by omega)) rfl ?_
      clear hA a; intro a hA
      refine m1 hA hS (Y.loads rfl Tryz.isAgg43 Tryz.sizeOf43 (fun w h => h.rds (by simp) (Nat.zero_le _) (Cs.four p0 p1 p2 p3)) rfl) rfl ?_
      clear hA a; intro a hA
      refine m_alloc hA hS Tryz.zeroValue43 rfl ?_
      clear hA hS a; intro a b3 w hA hleb3 hgb3 hS
      refine m_store 0 hA hS rfl rfl Tryz.sizeOf43 rfl rfl rfl rfl ?_
      clear hS; intro w hS
      refine m_nil ?_
      refine m_then ?_
      refine m_seq ?_
      refine m_region ?_
      refine m1 hA hS (Y.move rfl) rfl ?_
      clear hA a; intro a hA
      refine m1 hA hS (Y.fieldAddr (k := 1) rfl Tryz.underlying43 rfl rfl Tryz.sizeOf3) rfl ?_
      clear hA a; intro a hA
      refine m_store 0 hA hS rfl rfl Tryz.sizeOf3 rfl rfl rfl rfl ?_
      clear hS; intro w hS
      refine m_nil ?_
      refine m_then ?_
      refine m_seq ?_
      refine m_region ?_
      refine m1 hA hS (Y.loads rfl Tryz.isAgg30 Tryz.sizeOf30 (fun w h => h.cells (i := 2) rfl) rfl) rfl ?_
      clear hA a; intro a hA
      refine m1 hA hS (Y.move rfl) rfl ?_
      clear hA a; intro a hA
      refine m1 hA hS (Y.loads rfl Tryz.isAgg43 Tryz.sizeOf43 (fun w h => h.cells (i := 0) rfl) rfl) rfl ?_
      clear hA a; intro a hA
      have hg := hS.gr0 (w0 := w0) (by simp)
      refine m_call hA Tryz.call101 rfl rfl ((with_c (fun b => K b ∧ b < w0.heap.size) j { p with leader := t } M m mc I i ic H _ n c _ (hPl.mv (fun _ h => h) (hg.keeps _)) (PtyInK.mv (fun _ h => h) (hg.keeps _) ⟨hin.mem, hin.inv⟩) (by omega) hn).mono ?_)
      rintro e w ⟨A5, n5, c5, rfl, hg5, hP5, hc5⟩
      refine ⟨_, rfl, ?_⟩
      clear hA a; intro a hA
      replace hS := hS.call hg5
      refine m_store 1 hA hS rfl rfl Tryz.sizeOf30 rfl rfl rfl rfl ?_
      clear hS; intro w hS
      refine m1 hA hS (Y.assign rfl) rfl ?_
      clear hA a; intro a hA
      refine m_nil ?_
      refine m_then ?_
      refine m_retc ?_
      refine m_retc2 1 hA hS Tryz.results73 rfl rfl rfl Tryz.isAgg30 Tryz.sizeOf30 ?_
      rw [hF2]
      exact ⟨_, _, _, rfl, hS.gr0 (by simp), hS.endL (by simp) (List.mem_cons_self ..) (hg.tr hg5) hg.size hP5, hc5⟩
end Go.Proofs.YtljkhijdaaconaaGreat