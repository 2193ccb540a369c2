/- The law PartyTime, walked: it answers true. -/
import Derived.Test.YtljkhijdaaconaaLawOthers
set_option linter.unusedVariables false
namespace Go.Proofs.Ytljkhijdaaconaa
open Go.RowKit

theorem conv_u16 (a : Int) (h : 0 ≤ a ∧ a ≤ 65535) (w : World) : (convert 50 3 (.int .u16 a)).run Try.prog w = .ok (.int .i64 a) w := by
  have e : IntKind.i64.wrap a = a := IntWalk.i64_in _ (by omega)
  go_simp
set_option maxRecDepth 100000 in
set_option maxHeartbeats 4000000 in
theorem partyTime_c (a' b : Int) (ha : 0 ≤ a' ∧ a' ≤ 65535) (hb : 0 ≤ b ∧ b ≤ 65535) (H : Hall) (A : Option Addr) (n c : Nat) (w0 : World) (hP : Ptys w0 A n H.ps) :
    Calls Try.prog 7 #[.agg #[.int .i64 H.tick, .int .i64 H.last, .slice A n c], .int .u16 a', .int .u16 b] w0 fun e w' => e = .returned (.bool true) ∧ Gr w0 w' := by
  have hn := hP.le
  have hl := hP.len
  refine m_enter Try.func7 rfl Try.ntmps7 (Nat.le_of_ble_eq_true rfl) ?_
  intro a hA
  have hS := St.start w0
  refine m_seq ?_
  refine m_region ?_
  refine m_box hA hS rfl rfl ?_
  clear hA hS a; intro a b1 w hA hleb1 hgb1 hS
  refine m1 hA hS (Y.assign rfl) rfl ?_
  clear hA a; intro a hA
  refine m_nil ?_
  refine m_then ?_
  refine m_seq ?_
  refine m_seq ?_
  refine m_region ?_
  refine m_callb hA hS Try.call10 rfl rfl (awake_c _) ?_
  clear hA hS a; intro a w hA hS hg
  refine m1 hA hS (Y.not rfl) rfl ?_
  clear hA a; intro a hA
  refine m_nil ?_
  refine m_then ?_
  refine m_condF hA rfl (rfl) ?_
  refine m_skip ?_
  refine m_then ?_
  refine m_seq ?_
  refine m_seq ?_
  refine m_region ?_
  refine m1 hA hS (Y.loads rfl Try.isAgg24 Try.sizeOf24 (fun w h => h.cells (i := 0) rfl) rfl) rfl ?_
  clear hA a; intro a hA
  refine m_callb hA hS Try.call11 rfl rfl (small_c H A n c _ (hP.gr (hS.gr0 (by simp)))) ?_
  clear hA hS a; intro a w hA hS hg
  refine m1 hA hS (Y.not rfl) rfl ?_
  clear hA a; intro a hA
  refine m1 hA hS (Y.move rfl) rfl ?_
  clear hA a; intro a hA
  replace hA := hA.keep [24, 6, 3, 1, 2] rfl
  apply m_or 4 28 24 hA hS rfl
  · intro hp1
    refine m1s hA (dj := 24) rfl rfl rfl hp1 rfl ?_
    intro a hA
    refine m1s hA (dj := 24) rfl rfl rfl hp1 rfl ?_
    clear hA a; intro a hA
    refine m1s hA (dj := 24) rfl rfl rfl hp1 rfl ?_
    clear hA a; intro a hA
    refine m1 hA hS (Y.pickT' rfl hp1 rfl) rfl ?_
    clear hA a; intro a hA
    exact m_nil (m_then ⟨hA.keep [28, 24, 6, 3, 1, 2] rfl, hS⟩)
  · intro hp1
    refine m1g hA hS (dj := 24) rfl rfl rfl hp1 (Y.loads rfl Try.isAgg24 Try.sizeOf24 (fun w h => h.cells (i := 0) rfl) rfl) rfl ?_
    intro a hA
    refine m_callbg (dj := 24) hA hS rfl rfl rfl hp1 Try.call12 rfl rfl (valid_c H A n c _ (hP.gr (hS.gr0 (by simp)))) ?_
    clear hA a; intro a w hA hS hg
    refine m1g hA hS (dj := 24) rfl rfl rfl hp1 (Y.not rfl) rfl ?_
    clear hA a; intro a hA
    refine m1 hA hS (Y.pickF' rfl hp1 rfl) rfl ?_
    clear hA a; intro a hA
    exact m_nil (m_then ⟨hA.keep [28, 24, 6, 3, 1, 2] rfl, hS⟩)
  · clear hA hS a; intro a w hA hS
    refine m1 hA hS (Y.move rfl) rfl ?_
    clear hA a; intro a hA
    replace hA := hA.keep [29, 6, 3, 1, 2] rfl
    apply m_or 4 33 29 hA hS rfl
    · intro hp2
      refine m1s hA (dj := 29) rfl rfl rfl hp2 rfl ?_
      intro a hA
      refine m1s hA (dj := 29) rfl rfl rfl hp2 rfl ?_
      clear hA a; intro a hA
      refine m1s hA (dj := 29) rfl rfl rfl hp2 rfl ?_
      clear hA a; intro a hA
      refine m1 hA hS (Y.pickT' rfl hp2 rfl) rfl ?_
      clear hA a; intro a hA
      exact m_nil (m_then ⟨hA.keep [33, 29, 6, 3, 1, 2] rfl, hS⟩)
    · intro hp2
      refine m1g hA hS (dj := 29) rfl rfl rfl hp2 (Y.fieldAddr (k := 0) rfl Try.underlying24 rfl rfl Try.sizeOf3) rfl ?_
      intro a hA
      refine m1g hA hS (dj := 29) rfl rfl rfl hp2 (Y.load rfl Try.isAgg3 (fun w h => h.cell (i := 0) rfl rfl)) rfl ?_
      clear hA a; intro a hA
      refine m1g hA hS (dj := 29) rfl rfl rfl hp2 (Y.gtI rfl rfl) rfl ?_
      clear hA a; intro a hA
      refine m1 hA hS (Y.pickF' rfl hp2 rfl) rfl ?_
      clear hA a; intro a hA
      exact m_nil (m_then ⟨hA.keep [33, 29, 6, 3, 1, 2] rfl, hS⟩)
    · clear hA hS a; intro a w hA hS
      refine m_nil ?_
      refine m_then ?_
      refine m_cond hA rfl (fun hc => ?_) (fun hc => ?_)
      · refine m_seq ?_
        refine m_region ?_
        refine m1 hA hS (Y.assign rfl) rfl ?_
        clear hA a; intro a hA
        refine m_nil ?_
        refine m_then ?_
        refine m_retc ?_
        refine r_then ?_
        refine m_ret1 hA Try.results7 rfl ?_
        exact ⟨rfl, hS.gr0 (by simp)⟩
      · simp only [Bool.or_eq_false_iff, Bool.not_eq_false', decide_eq_false_iff_not] at hc
        have g := valid_iff.1 hc.1.2
        have hti0 := g.ti0
        have hti1 := g.ti1
        have hti2 := hc.2
        have eX := adv_good g (t := H.tick + a') (by omega) (by omega)
        obtain ⟨X, hX⟩ : ∃ X : Hall, (⟨H.tick + a', H.last, H.ps.map (unF fun _ i => decide (i.til ≤ H.tick + a'))⟩ : Hall) = X := ⟨_, rfl⟩
        rw [hX] at eX
        obtain ⟨_, _, _, sX⟩ := step_adv eX
        have gX := sX.good
        have htX : X.tick = H.tick + a' := by rw [← hX]
        have htX' : (X, (0 : Int)).1.tick = H.tick + a' := htX
        have hpX : X.ps = H.ps.map (unF fun _ i => decide (i.til ≤ H.tick + a')) := by rw [← hX]
        have hlX : X.last = H.last := by rw [← hX]
        have eY := adv_good gX (t := H.tick + a' + b) (by omega) (by omega)
        rw [hpX, un_un _ _ _ (by omega), hlX] at eY
        have eZ := adv_good g (t := H.tick + a' + b) (by omega) (by omega)
        obtain ⟨Z, hZ⟩ : ∃ Z : Hall, (⟨H.tick + a' + b, H.last, H.ps.map (unF fun _ i => decide (i.til ≤ H.tick + a' + b))⟩ : Hall) = Z := ⟨_, rfl⟩
        rw [hZ] at eY eZ
        obtain ⟨Bk, eb, hbk⟩ : ∃ Bk eb, change (advF (X.tick - 1)) X = (Bk, eb) := ⟨_, _, rfl⟩
        have heb : 0 < X.tick → eb = 360 := fun h => by
          have := adv_back gX h
          rw [hbk] at this
          exact (Prod.mk.inj this).2
        have hnX : X.ps.length = n := by rw [hpX, List.length_map]; exact hl
        refine m_skip ?_
        refine m_then ?_
        refine m_seq ?_
        refine m_region ?_
        refine m1 hA hS (Y.loads rfl Try.isAgg24 Try.sizeOf24 (fun w h => h.cells (i := 0) rfl) rfl) rfl ?_
        clear hA a; intro a hA
        refine m1 hA hS (Y.fieldAddr (k := 0) rfl Try.underlying24 rfl rfl Try.sizeOf3) rfl ?_
        clear hA a; intro a hA
        refine m1 hA hS (Y.load rfl Try.isAgg3 (fun w h => h.cell (i := 0) rfl rfl)) rfl ?_
        clear hA a; intro a hA
        refine m1 hA hS (Y.move rfl) rfl ?_
        clear hA a; intro a hA
        refine m1 hA hS (Y.conv rfl (conv_u16 a' ha)) rfl ?_
        clear hA a; intro a hA
        refine m1 hA hS (Y.addI rfl rfl (by omega)) rfl ?_
        clear hA a; intro a hA
        refine m_call hA Try.call24 rfl rfl ((advance_v (H.tick + a') H A n c _ (hP.gr (hS.gr0 (by simp)))).mono ?_)
        rintro e w ⟨A1, n1, c1, rfl, hg1, hP1⟩
        refine ⟨_, rfl, ?_⟩
        clear hA a; intro a hA
        rw [eX] at hA hP1
        obtain ⟨lo1, v1, hP1, hS⟩ := hS.keepP hg1 hP1
        have hn1 : n1 = n := by have := hP1.len; simp only at this; omega
        subst hn1
        refine m1 hA hS (Y.move rfl) rfl ?_
        clear hA a; intro a hA
        refine m1 hA hS (Y.extract rfl rfl) rfl ?_
        clear hA a; intro a hA
        refine m1 hA hS (Y.extract rfl rfl) rfl ?_
        clear hA a; intro a hA
        refine m_alloc hA hS Try.zeroValue24 rfl ?_
        clear hA hS a; intro a b2 w hA hleb2 hgb2 hS
        refine m_store 0 hA hS rfl rfl Try.sizeOf24 rfl rfl rfl rfl ?_
        clear hS; intro w hS
        refine m1 hA hS (Y.assign rfl) rfl ?_
        clear hA a; intro a hA
        refine m_nil ?_
        refine m_then ?_
        refine m_seq ?_
        refine m_region ?_
        refine m1 hA hS (Y.loads rfl Try.isAgg24 Try.sizeOf24 (fun w h => h.cells (i := 0) rfl) rfl) rfl ?_
        clear hA a; intro a hA
        refine m1 hA hS (Y.fieldAddr (k := 0) rfl Try.underlying24 rfl rfl Try.sizeOf3) rfl ?_
        clear hA a; intro a hA
        refine m1 hA hS (Y.load rfl Try.isAgg3 (fun w h => h.cell (i := 1) rfl rfl)) rfl ?_
        clear hA a; intro a hA
        refine m1 hA hS (Y.move rfl) rfl ?_
        clear hA a; intro a hA
        refine m1 hA hS (Y.conv rfl (conv_u16 a' ha)) rfl ?_
        clear hA a; intro a hA
        refine m1 hA hS (Y.addI rfl rfl (by omega)) rfl ?_
        clear hA a; intro a hA
        refine m1 hA hS (Y.move rfl) rfl ?_
        clear hA a; intro a hA
        refine m1 hA hS (Y.conv rfl (conv_u16 b hb)) rfl ?_
        clear hA a; intro a hA
        refine m1 hA hS (Y.addI rfl rfl (by omega)) rfl ?_
        clear hA a; intro a hA
        refine m_call hA Try.call24 rfl rfl ((advance_v (H.tick + a' + b) X A1 n1 c1 _ (PtysL.zero (hP1.ov (hS.at (by simp))))).mono ?_)
        rintro e w ⟨A2, n2, c2, rfl, hg2, hP2⟩
        refine ⟨_, rfl, ?_⟩
        clear hA a; intro a hA
        rw [eY] at hA hP2
        obtain ⟨lo2, v2, hP2, hS⟩ := hS.keepP hg2 hP2
        refine m1 hA hS (Y.move rfl) rfl ?_
        clear hA a; intro a hA
        refine m1 hA hS (Y.extract rfl rfl) rfl ?_
        clear hA a; intro a hA
        refine m1 hA hS (Y.extract rfl rfl) rfl ?_
        clear hA a; intro a hA
        refine m_alloc hA hS Try.zeroValue24 rfl ?_
        clear hA hS a; intro a b3 w hA hleb3 hgb3 hS
        refine m_store 0 hA hS rfl rfl Try.sizeOf24 rfl rfl rfl rfl ?_
        clear hS; intro w hS
        refine m1 hA hS (Y.assign rfl) rfl ?_
        clear hA a; intro a hA
        refine m_nil ?_
        refine m_then ?_
        refine m_seq ?_
        refine m_region ?_
        refine m1 hA hS (Y.loads rfl Try.isAgg24 Try.sizeOf24 (fun w h => h.cells (i := 2) rfl) rfl) rfl ?_
        clear hA a; intro a hA
        refine m1 hA hS (Y.fieldAddr (k := 0) rfl Try.underlying24 rfl rfl Try.sizeOf3) rfl ?_
        clear hA a; intro a hA
        refine m1 hA hS (Y.load rfl Try.isAgg3 (fun w h => h.cell (i := 2) rfl rfl)) rfl ?_
        clear hA a; intro a hA
        refine m1 hA hS (Y.move rfl) rfl ?_
        clear hA a; intro a hA
        refine m1 hA hS (Y.conv rfl (conv_u16 a' ha)) rfl ?_
        clear hA a; intro a hA
        refine m1 hA hS (Y.addI rfl rfl (by omega)) rfl ?_
        clear hA a; intro a hA
        refine m1 hA hS (Y.move rfl) rfl ?_
        clear hA a; intro a hA
        refine m1 hA hS (Y.conv rfl (conv_u16 b hb)) rfl ?_
        clear hA a; intro a hA
        refine m1 hA hS (Y.addI rfl rfl (by omega)) rfl ?_
        clear hA a; intro a hA
        refine m_call hA Try.call24 rfl rfl ((advance_v (H.tick + a' + b) H A n1 c _ (hP.gr (hS.gr0 (by simp)))).mono ?_)
        rintro e w ⟨A3, n3, c3, rfl, hg3, hP3⟩
        refine ⟨_, rfl, ?_⟩
        clear hA a; intro a hA
        rw [eZ] at hA hP3
        obtain ⟨lo3, v3, hP3, hS⟩ := hS.keepP hg3 hP3
        refine m1 hA hS (Y.move rfl) rfl ?_
        clear hA a; intro a hA
        refine m1 hA hS (Y.extract rfl rfl) rfl ?_
        clear hA a; intro a hA
        refine m1 hA hS (Y.extract rfl rfl) rfl ?_
        clear hA a; intro a hA
        refine m_alloc hA hS Try.zeroValue24 rfl ?_
        clear hA hS a; intro a b4 w hA hleb4 hgb4 hS
        refine m_store 0 hA hS rfl rfl Try.sizeOf24 rfl rfl rfl rfl ?_
        clear hS; intro w hS
        refine m1 hA hS (Y.assign rfl) rfl ?_
        clear hA a; intro a hA
        refine m_nil ?_
        refine m_then ?_
        refine m_seq ?_
        refine m_region ?_
        refine m1 hA hS (Y.loads rfl Try.isAgg24 Try.sizeOf24 (fun w h => h.cells (i := 2) rfl) rfl) rfl ?_
        clear hA a; intro a hA
        refine m1 hA hS (Y.fieldAddr (k := 0) rfl Try.underlying24 rfl rfl Try.sizeOf3) rfl ?_
        clear hA a; intro a hA
        refine m1 hA hS (Y.load rfl Try.isAgg3 (fun w h => h.cell (i := 2) rfl rfl)) rfl ?_
        clear hA a; intro a hA
        refine m1 hA hS (Y.subI rfl rfl (by omega)) rfl ?_
        clear hA a; intro a hA
        refine m_call hA Try.call24 rfl rfl ((advance_v (X.tick - 1) X A1 n1 c1 _ (PtysL.zero (hP1.ov (hS.at (by simp))))).mono ?_)
        rintro e w ⟨A4, n4, c4, rfl, hg4, hP4⟩
        refine ⟨_, rfl, ?_⟩
        clear hA a; intro a hA
        rw [hbk] at hA hP4
        replace hS := hS.gr hg4
        have hz : decide ((0 : Int) ≠ 0) = false := by decide
        have hs : (!decide (Z = Z)) = false := by simp
        have hnn : decide ((n1 : Int) ≠ (n1 : Int)) = false := by simp
        refine m1 hA hS (Y.move rfl) rfl ?_
        clear hA a; intro a hA
        refine m1 hA hS (Y.extract rfl rfl) rfl ?_
        clear hA a; intro a hA
        refine m1 hA hS (Y.extract rfl rfl) rfl ?_
        clear hA a; intro a hA
        refine m_alloc hA hS Try.zeroValue24 rfl ?_
        clear hA hS a; intro a b5 w hA hleb5 hgb5 hS
        refine m_store 0 hA hS rfl rfl Try.sizeOf24 rfl rfl rfl rfl ?_
        clear hS; intro w hS
        refine m1 hA hS (Y.assign rfl) rfl ?_
        clear hA a; intro a hA
        refine m_nil ?_
        refine m_then ?_
        refine m_seq ?_
        refine m_seq ?_
        refine m_region ?_
        refine m1 hA hS (Y.move rfl) rfl ?_
        clear hA a; intro a hA
        refine m1 hA hS (Y.neI rfl rfl) rfl ?_
        clear hA a; intro a hA
        refine m1 hA hS (Y.move rfl) rfl ?_
        clear hA a; intro a hA
        refine m1g hA hS (dj := 80) rfl rfl rfl hz (Y.move rfl) rfl ?_
        clear hA a; intro a hA
        refine m1g hA hS (dj := 80) rfl rfl rfl hz (Y.neI rfl rfl) rfl ?_
        clear hA a; intro a hA
        refine m1 hA hS (Y.pickF' rfl hz rfl) rfl ?_
        clear hA a; intro a hA
        refine m1 hA hS (Y.move rfl) rfl ?_
        clear hA a; intro a hA
        refine m1g hA hS (dj := 84) rfl rfl rfl hz (Y.move rfl) rfl ?_
        clear hA a; intro a hA
        refine m1g hA hS (dj := 84) rfl rfl rfl hz (Y.neI rfl rfl) rfl ?_
        clear hA a; intro a hA
        refine m1 hA hS (Y.pickF' rfl hz rfl) rfl ?_
        clear hA a; intro a hA
        refine m1 hA hS (Y.move rfl) rfl ?_
        clear hA a; intro a hA
        refine m1g hA hS (dj := 88) rfl rfl rfl hz (Y.loads rfl Try.isAgg24 Try.sizeOf24 (fun w h => h.cells (i := 2) rfl) rfl) rfl ?_
        clear hA a; intro a hA
        refine m1g hA hS (dj := 88) rfl rfl rfl hz (Y.loads rfl Try.isAgg24 Try.sizeOf24 (fun w h => h.cells (i := 1) rfl) rfl) rfl ?_
        clear hA a; intro a hA
        refine m_callbg (dj := 88) hA hS rfl rfl rfl hz Try.call15 rfl rfl (same_c Z Z A2 n2 c2 A3 n3 c3 _ (PtysL.zero (hP2.ov (hS.at (by simp)))) (PtysL.zero (hP3.ov (hS.at (by simp))))) ?_
        clear hA hS a; intro a w hA hS hg
        have hfin : (decide (0 < X.tick) && decide (eb ≠ 360)) = false := by
          by_cases h : 0 < X.tick
          · rw [heb h]; simp
          · simp [h]
        refine m1g hA hS (dj := 88) rfl rfl rfl hz (Y.not rfl) rfl ?_
        clear hA a; intro a hA
        refine m1 hA hS (Y.pickF' rfl hz rfl) rfl ?_
        clear hA a; intro a hA
        refine m1 hA hS (Y.move rfl) rfl ?_
        clear hA a; intro a hA
        refine m1g hA hS (dj := 94) rfl rfl rfl hs (Y.fieldAddr (k := 2) rfl Try.underlying24 rfl rfl Try.sizeOf22) rfl ?_
        clear hA a; intro a hA
        refine m1g hA hS (dj := 94) rfl rfl rfl hs (Y.load rfl Try.isAgg22 (fun w h => h.cell (i := 3) rfl rfl)) rfl ?_
        clear hA a; intro a hA
        refine m1g hA hS (dj := 94) rfl rfl rfl hs (Y.lenSl rfl Try.underlying22) rfl ?_
        clear hA a; intro a hA
        refine m1g hA hS (dj := 94) rfl rfl rfl hs (Y.fieldAddr (k := 2) rfl Try.underlying24 rfl rfl Try.sizeOf22) rfl ?_
        clear hA a; intro a hA
        refine m1g hA hS (dj := 94) rfl rfl rfl hs (Y.load rfl Try.isAgg22 (fun w h => h.cell (i := 4) rfl rfl)) rfl ?_
        clear hA a; intro a hA
        refine m1g hA hS (dj := 94) rfl rfl rfl hs (Y.lenSl rfl Try.underlying22) rfl ?_
        clear hA a; intro a hA
        refine m1g hA hS (dj := 94) rfl rfl rfl hs (Y.neI rfl rfl) rfl ?_
        clear hA a; intro a hA
        refine m1 hA hS (Y.pickF' rfl hs rfl) rfl ?_
        clear hA a; intro a hA
        refine m1 hA hS (Y.move rfl) rfl ?_
        clear hA a; intro a hA
        refine m1g hA hS (dj := 103) rfl rfl rfl hnn (Y.fieldAddr (k := 0) rfl Try.underlying24 rfl rfl Try.sizeOf3) rfl ?_
        clear hA a; intro a hA
        refine m1g hA hS (dj := 103) rfl rfl rfl hnn (Y.load rfl Try.isAgg3 (fun w h => h.cell (i := 3) rfl rfl)) rfl ?_
        clear hA a; intro a hA
        refine m1g hA hS (dj := 103) rfl rfl rfl hnn (Y.gtI rfl rfl) rfl ?_
        clear hA a; intro a hA
        refine m1g hA hS (dj := 103) rfl rfl rfl hnn (Y.move rfl) rfl ?_
        clear hA a; intro a hA
        replace hA := hA.keep [107, 103, 14, 7, 6, 3] rfl
        apply m_and 3 110 107 hA hS rfl
        · intro hp3
          refine m1s hA (dj := 107) rfl rfl rfl hp3 rfl ?_
          intro a hA
          refine m1s hA (dj := 107) rfl rfl rfl hp3 rfl ?_
          clear hA a; intro a hA
          refine m1g hA hS (dj := 103) rfl rfl rfl hnn (Y.pickF' rfl hp3 rfl) rfl ?_
          clear hA a; intro a hA
          exact m_nil (m_then ⟨hA.keep [110, 107, 103, 14, 7, 6, 3] rfl, hS⟩)
        · intro hp3
          refine m1g hA hS (dj := 107) rfl rfl rfl hp3 (Y.move rfl) rfl ?_
          intro a hA
          refine m1g hA hS (dj := 107) rfl rfl rfl hp3 (Y.neI rfl rfl) rfl ?_
          clear hA a; intro a hA
          refine m1g hA hS (dj := 103) rfl rfl rfl hnn (Y.pickT' rfl hp3 rfl) rfl ?_
          clear hA a; intro a hA
          exact m_nil (m_then ⟨hA.keep [110, 107, 103, 14, 7, 6, 3] rfl, hS⟩)
        · clear hA hS a; intro a w hA hS
          refine m1 hA hS (Y.pickF' rfl hnn rfl) rfl ?_
          clear hA a; intro a hA
          refine m_nil ?_
          refine m_then ?_
          refine m_condF hA rfl (hfin) ?_
          refine m_skip ?_
          refine m_then ?_
          refine m_seq ?_
          refine m_seq ?_
          refine m_region ?_
          refine m1 hA hS (Y.assign rfl) rfl ?_
          clear hA a; intro a hA
          refine m_nil ?_
          refine m_then ?_
          refine m_block ?_
          -- LOST [6]
          refine m_loopX [7, 3] rfl hA ((0 : Nat)) (fun j => [(15, .int .i64 (j : Int))]) (fun _ => _) (fun _ => _) (fun j => j ≤ n1) (fun j => n1 - j) (ks := [15]) rfl hS (Nat.zero_le _) ?_
          clear hA hS a; rintro j a w hA hS hj
          try dsimp only at hA
          try dsimp only at hS
          try dsimp only at hj
          obtain hj := hj
          replace hA := hA.keep [15, 7, 3] rfl
          refine m_seq ?_
          refine m_seq ?_
          refine m_region ?_
          refine m1 hA hS (Y.move rfl) rfl ?_
          clear hA a; intro a hA
          refine m1 hA hS (Y.fieldAddr (k := 2) rfl Try.underlying24 rfl rfl Try.sizeOf22) rfl ?_
          clear hA a; intro a hA
          refine m1 hA hS (Y.load rfl Try.isAgg22 (fun w h => h.cell (i := 4) rfl rfl)) rfl ?_
          clear hA a; intro a hA
          refine m1 hA hS (Y.lenSl rfl Try.underlying22) rfl ?_
          clear hA a; intro a hA
          refine m1 hA hS (Y.ltI rfl rfl) rfl ?_
          clear hA a; intro a hA
          refine m_nil ?_
          refine m_then ?_
          refine m_condP hA rfl (fun hlt => ?_) (fun hlt => ?_)
          · obtain ⟨bb, o, p, M, m, mc, I, i, ic, rfl, hp, p0, p1, p2, p3, hin⟩ := hP.at (j := j) (by omega)
            obtain ⟨bb', o', q, M', m', mc', I', i', ic', rfl, hlo', hq, r0, r1, r2, r3, hin'⟩ := PtysL.at hP1 (j := j) (by omega)
            have hv1 : (lo1, v1) ∈ [(lo3, v3), (lo2, v2), (lo1, v1), (0, w0)] := by simp
            have hqp : q = unF (fun _ i => decide (i.til ≤ H.tick + a')) p := by
              simp only [hpX, List.getElem?_map, hp, Option.map_some, Option.some.injEq] at hq
              exact hq.symm
            have hqm : q.mem = p.mem := by rw [hqp]; rfl
            have hql : q.leader = p.leader := by rw [hqp]; rfl
            have hqi : q.inv = p.inv.filter fun i => !decide (i.til ≤ H.tick + a') := by rw [hqp]; rfl
            have hil := hin.inv.len
            have hile := hin.inv.le
            have hil' := hin'.inv.len
            have hile' := hin'.inv.le
            refine m_skip ?_
            refine m_then ?_
            refine m_seq ?_
            refine m_block ?_
            refine m_seq ?_
            refine m_region ?_
            refine m1 hA hS (Y.assign rfl) rfl ?_
            clear hA a; intro a hA
            refine m_nil ?_
            refine m_then ?_
            refine m_seq ?_
            refine m_region ?_
            refine m1 hA hS (Y.fieldAddr (k := 2) rfl Try.underlying24 rfl rfl Try.sizeOf22) rfl ?_
            clear hA a; intro a hA
            refine m1 hA hS (Y.load rfl Try.isAgg22 (fun w h => h.cell (i := 3) rfl rfl)) rfl ?_
            clear hA a; intro a hA
            refine m1 hA hS (Y.move rfl) rfl ?_
            clear hA a; intro a hA
            refine m1 hA hS (Y.indexAddrN rfl rfl Try.underlying22 Try.sizeOf37 (by omega)) rfl ?_
            clear hA a; intro a hA
            refine m1 hA hS (Y.fieldAddr (k := 3) rfl Try.underlying37 rfl rfl Try.sizeOf35) rfl ?_
            clear hA a; intro a hA
            refine m1 hA hS (Y.load rfl Try.isAgg35 (fun w h => h.rd hv1 hlo' (r3))) rfl ?_
            clear hA a; intro a hA
            refine m1 hA hS (Y.assign rfl) rfl ?_
            clear hA a; intro a hA
            refine m_nil ?_
            refine m_then ?_
            refine m_seq ?_
            refine m_seq ?_
            refine m_region ?_
            refine m1 hA hS (Y.assign rfl) rfl ?_
            clear hA a; intro a hA
            refine m_nil ?_
            refine m_then ?_
            refine m_block ?_
            refine m_loopX [17, 15, 7, 3] rfl hA (((0 : Nat), (0 : Nat))) (fun x => [(16, .int .i64 (x.2 : Int)), (18, .int .i64 (x.1 : Int))]) (fun _ => _) (fun _ => _) (fun x => x.1 ≤ i ∧ x.2 ≤ i' ∧ q.inv.drop x.2 = (p.inv.drop x.1).filter fun i => !decide (i.til ≤ H.tick + a')) (fun x => i - x.1) (ks := [16, 18]) rfl hS (⟨Nat.zero_le _, Nat.zero_le _, hqi⟩) ?_
            clear hA hS a; rintro ⟨r, t⟩ a w hA hS hj
            try dsimp only at hA
            try dsimp only at hS
            try dsimp only at hj
            obtain ⟨hr, ht, hrt⟩ := hj
            replace hA := hA.keep [16, 18, 17, 15, 7, 3] rfl
            refine m_seq ?_
            refine m_seq ?_
            refine m_region ?_
            refine m1 hA hS (Y.move rfl) rfl ?_
            clear hA a; intro a hA
            refine m1 hA hS (Y.fieldAddr (k := 2) rfl Try.underlying24 rfl rfl Try.sizeOf22) rfl ?_
            clear hA a; intro a hA
            refine m1 hA hS (Y.load rfl Try.isAgg22 (fun w h => h.cell (i := 4) rfl rfl)) rfl ?_
            clear hA a; intro a hA
            refine m1 hA hS (Y.move rfl) rfl ?_
            clear hA a; intro a hA
            refine m1 hA hS (Y.indexAddrN rfl rfl Try.underlying22 Try.sizeOf37 (by omega)) rfl ?_
            clear hA a; intro a hA
            refine m1 hA hS (Y.fieldAddr (k := 3) rfl Try.underlying37 rfl rfl Try.sizeOf35) rfl ?_
            clear hA a; intro a hA
            refine m1 hA hS (Y.load rfl Try.isAgg35 (fun w h => h.rd (by simp) (Nat.zero_le _) (p3))) rfl ?_
            clear hA a; intro a hA
            refine m1 hA hS (Y.lenSl rfl Try.underlying35) rfl ?_
            clear hA a; intro a hA
            refine m1 hA hS (Y.ltI rfl rfl) rfl ?_
            clear hA a; intro a hA
            refine m_nil ?_
            refine m_then ?_
            refine m_condP hA rfl (fun hlt2 => ?_) (fun hlt2 => ?_)
            · obtain ⟨bx, ox, x, rfl, hx, x0, x1⟩ := hin.inv.at (j := r) (by omega)
              rw [drop_at hx, List.filter_cons] at hrt
              refine m_skip ?_
              refine m_then ?_
              refine m_seq ?_
              refine m_block ?_
              refine m_seq ?_
              refine q_region hS rfl (by kernel_rfl) ?_
              refine q1 hA (Y.fieldAddr (k := 2) rfl Try.underlying24 rfl rfl Try.sizeOf22) rfl ?_
              clear hA a; intro a hA
              refine q1 hA (Y.load rfl Try.isAgg22 (fun w h => h.cell (i := 4) rfl rfl)) rfl ?_
              clear hA a; intro a hA
              refine q1 hA (Y.move rfl) rfl ?_
              clear hA a; intro a hA
              refine q1 hA (Y.indexAddrN rfl rfl Try.underlying22 Try.sizeOf37 (by omega)) rfl ?_
              clear hA a; intro a hA
              refine q1 hA (Y.fieldAddr (k := 3) rfl Try.underlying37 rfl rfl Try.sizeOf35) rfl ?_
              clear hA a; intro a hA
              refine q1 hA (Y.load rfl Try.isAgg35 (fun w h => h.rd (by simp) (Nat.zero_le _) (p3))) rfl ?_
              clear hA a; intro a hA
              refine q1 hA (Y.move rfl) rfl ?_
              clear hA a; intro a hA
              refine q1 hA (Y.indexAddrN rfl rfl Try.underlying35 Try.sizeOf44 (by omega)) rfl ?_
              clear hA a; intro a hA
              refine q1 hA (Y.fieldAddr (k := 1) rfl Try.underlying44 rfl rfl Try.sizeOf3) rfl ?_
              clear hA a; intro a hA
              refine q1 hA (Y.load rfl Try.isAgg3 (fun w h => h.rd (by simp) (Nat.zero_le _) (x1))) rfl ?_
              clear hA a; intro a hA
              refine q1 hA (Y.fieldAddr (k := 0) rfl Try.underlying24 rfl rfl Try.sizeOf3) rfl ?_
              clear hA a; intro a hA
              refine q1 hA (Y.load rfl Try.isAgg3 (fun w h => h.cell (i := 3) rfl rfl)) rfl ?_
              clear hA a; intro a hA
              refine q1 hA (Y.gtI rfl rfl) rfl ?_
              clear hA a; intro a hA
              refine q_nil ?_
              clear hS; intro w hS
              refine m_then ?_
              refine m_condP hA rfl (fun htil => ?_) (fun htil => ?_)
              · rw [htX] at htil
                rw [if_pos (by simp; omega)] at hrt
                have hlt4 : t < i' := by
                  have := congrArg List.length hrt
                  rw [List.length_drop, List.length_cons] at this
                  omega
                obtain ⟨by4, oy, y, rfl, hlo4, hy, y0, y1⟩ := InvsL.atL hin'.inv (j := t) hlt4
                have hyx : y = x := by
                  rw [drop_at hy] at hrt
                  exact (List.cons.inj hrt).1
                have hrt' : q.inv.drop (t + 1) = (p.inv.drop (r + 1)).filter fun i => !decide (i.til ≤ H.tick + a') := by
                  rw [drop_at hy] at hrt
                  exact (List.cons.inj hrt).2
                have hat : decide ((i' : Int) ≤ (t : Int)) = false := decide_eq_false (by omega)
                refine m_seq ?_
                refine m_seq ?_
                refine q_region hS rfl (by kernel_rfl) ?_
                refine q1 hA (Y.move rfl) rfl ?_
                clear hA a; intro a hA
                refine q1 hA (Y.move rfl) rfl ?_
                clear hA a; intro a hA
                refine q1 hA (Y.lenSl rfl Try.underlying35) rfl ?_
                clear hA a; intro a hA
                refine q1 hA (Y.geI rfl rfl) rfl ?_
                clear hA a; intro a hA
                refine q1 hA (Y.move rfl) rfl ?_
                clear hA a; intro a hA
                refine q1g hA (dj := 153) rfl rfl rfl hat (Y.move rfl) rfl ?_
                clear hA a; intro a hA
                refine q1g hA (dj := 153) rfl rfl rfl hat (Y.move rfl) rfl ?_
                clear hA a; intro a hA
                refine q1g hA (dj := 153) rfl rfl rfl hat (Y.indexAddrN rfl rfl Try.underlying35 Try.sizeOf44 (by omega)) rfl ?_
                clear hA a; intro a hA
                refine q1g hA (dj := 153) rfl rfl rfl hat (Y.loads rfl Try.isAgg44 Try.sizeOf44 (fun w h => h.rds hv1 hlo4 (Cs.two y0 y1)) rfl) rfl ?_
                clear hA a; intro a hA
                refine q1g hA (dj := 153) rfl rfl rfl hat (Y.fieldAddr (k := 2) rfl Try.underlying24 rfl rfl Try.sizeOf22) rfl ?_
                clear hA a; intro a hA
                refine q1g hA (dj := 153) rfl rfl rfl hat (Y.load rfl Try.isAgg22 (fun w h => h.cell (i := 4) rfl rfl)) rfl ?_
                clear hA a; intro a hA
                refine q1g hA (dj := 153) rfl rfl rfl hat (Y.move rfl) rfl ?_
                clear hA a; intro a hA
                refine q1g hA (dj := 153) rfl rfl rfl hat (Y.indexAddrN rfl rfl Try.underlying22 Try.sizeOf37 (by omega)) rfl ?_
                clear hA a; intro a hA
                refine q1g hA (dj := 153) rfl rfl rfl hat (Y.fieldAddr (k := 3) rfl Try.underlying37 rfl rfl Try.sizeOf35) rfl ?_
                clear hA a; intro a hA
                refine q1g hA (dj := 153) rfl rfl rfl hat (Y.load rfl Try.isAgg35 (fun w h => h.rd (by simp) (Nat.zero_le _) (p3))) rfl ?_
                clear hA a; intro a hA
                refine q1g hA (dj := 153) rfl rfl rfl hat (Y.move rfl) rfl ?_
                clear hA a; intro a hA
                refine q1g hA (dj := 153) rfl rfl rfl hat (Y.indexAddrN rfl rfl Try.underlying35 Try.sizeOf44 (by omega)) rfl ?_
                clear hA a; intro a hA
                refine q1g hA (dj := 153) rfl rfl rfl hat (Y.loads rfl Try.isAgg44 Try.sizeOf44 (fun w h => h.rds (by simp) (Nat.zero_le _) (Cs.two x0 x1)) rfl) rfl ?_
                clear hA a; intro a hA
                refine q1g hA (dj := 153) rfl rfl rfl hat (Y.bin rfl rfl (eqg_inv _ _ _ _ _ _ _) (ne_inv _ _ _ _)) rfl ?_
                clear hA a; intro a hA
                refine q1 hA (Y.pickF' rfl hat rfl) rfl ?_
                clear hA a; intro a hA
                refine q_nil ?_
                clear hS; intro w hS
                refine m_then ?_
                refine m_condF hA rfl (decide_eq_false (by rw [hyx]; simp)) ?_
                refine m_skip ?_
                refine m_then ?_
                refine m_region ?_
                refine m1 hA hS (Y.move rfl) rfl ?_
                clear hA a; intro a hA
                refine m1 hA hS (Y.addI rfl rfl (by omega)) rfl ?_
                clear hA a; intro a hA
                refine m1 hA hS (Y.assign rfl) rfl ?_
                clear hA a; intro a hA
                refine m_nil ?_
                refine n_block ?_
                refine m_then ?_
                refine m_region ?_
                refine m1 hA hS (Y.move rfl) rfl ?_
                clear hA a; intro a hA
                refine m1 hA hS (Y.addI rfl rfl (by omega)) rfl ?_
                clear hA a; intro a hA
                refine m1 hA hS (Y.assign rfl) rfl ?_
                clear hA a; intro a hA
                refine m_nil ?_
                exact m_then ⟨(r + 1, t + 1), by (try dsimp only); omega, hA.keep [16, 18, 17, 15, 7, 3] rfl, hS, by (try dsimp only); exact ⟨by omega, by omega, hrt'⟩⟩
              · rw [htX] at htil
                rw [if_neg (by simp; omega)] at hrt
                refine m_skip ?_
                refine n_block ?_
                refine m_then ?_
                refine m_region ?_
                refine m1 hA hS (Y.move rfl) rfl ?_
                clear hA a; intro a hA
                refine m1 hA hS (Y.addI rfl rfl (by omega)) rfl ?_
                clear hA a; intro a hA
                refine m1 hA hS (Y.assign rfl) rfl ?_
                clear hA a; intro a hA
                refine m_nil ?_
                exact m_then ⟨(r + 1, t), by (try dsimp only); omega, hA.keep [16, 18, 17, 15, 7, 3] rfl, hS, by (try dsimp only); exact ⟨by omega, by omega, hrt⟩⟩
            · have hri : r = i := by omega
              rw [List.drop_eq_nil_of_le (by omega : p.inv.length ≤ r), List.filter_nil] at hrt
              have hti := drop_nil_len hrt (by omega)
              have e1 : decide ((t : Int) ≠ (i' : Int)) = false := decide_eq_false (by omega)
              have e2 : (!decide (q.mem = p.mem)) = false := by rw [hqm]; simp
              refine m_exit ?_
              refine x_then ?_
              refine x_then ?_
              refine x_block ?_
              refine m_then ?_
              refine m_seq ?_
              refine q_region hS rfl (by kernel_rfl) ?_
              refine q1 hA (Y.move rfl) rfl ?_
              clear hA a; intro a hA
              refine q1 hA (Y.move rfl) rfl ?_
              clear hA a; intro a hA
              refine q1 hA (Y.lenSl rfl Try.underlying35) rfl ?_
              clear hA a; intro a hA
              refine q1 hA (Y.neI rfl rfl) rfl ?_
              clear hA a; intro a hA
              refine q1 hA (Y.move rfl) rfl ?_
              clear hA a; intro a hA
              refine q1g hA (dj := 175) rfl rfl rfl e1 (Y.fieldAddr (k := 2) rfl Try.underlying24 rfl rfl Try.sizeOf22) rfl ?_
              clear hA a; intro a hA
              refine q1g hA (dj := 175) rfl rfl rfl e1 (Y.load rfl Try.isAgg22 (fun w h => h.cell (i := 3) rfl rfl)) rfl ?_
              clear hA a; intro a hA
              refine q1g hA (dj := 175) rfl rfl rfl e1 (Y.move rfl) rfl ?_
              clear hA a; intro a hA
              refine q1g hA (dj := 175) rfl rfl rfl e1 (Y.indexAddrN rfl rfl Try.underlying22 Try.sizeOf37 (by omega)) rfl ?_
              clear hA a; intro a hA
              refine q1g hA (dj := 175) rfl rfl rfl e1 (Y.fieldAddr (k := 2) rfl Try.underlying37 rfl rfl Try.sizeOf34) rfl ?_
              clear hA a; intro a hA
              refine q1g hA (dj := 175) rfl rfl rfl e1 (Y.load rfl Try.isAgg34 (fun w h => h.rd hv1 hlo' (r2))) rfl ?_
              clear hA a; intro a hA
              refine q1g hA (dj := 175) rfl rfl rfl e1 (Y.fieldAddr (k := 2) rfl Try.underlying24 rfl rfl Try.sizeOf22) rfl ?_
              clear hA a; intro a hA
              refine q1g hA (dj := 175) rfl rfl rfl e1 (Y.load rfl Try.isAgg22 (fun w h => h.cell (i := 4) rfl rfl)) rfl ?_
              clear hA a; intro a hA
              refine q1g hA (dj := 175) rfl rfl rfl e1 (Y.move rfl) rfl ?_
              clear hA a; intro a hA
              refine q1g hA (dj := 175) rfl rfl rfl e1 (Y.indexAddrN rfl rfl Try.underlying22 Try.sizeOf37 (by omega)) rfl ?_
              clear hA a; intro a hA
              refine q1g hA (dj := 175) rfl rfl rfl e1 (Y.fieldAddr (k := 2) rfl Try.underlying37 rfl rfl Try.sizeOf34) rfl ?_
              clear hA a; intro a hA
              refine q1g hA (dj := 175) rfl rfl rfl e1 (Y.load rfl Try.isAgg34 (fun w h => h.rd (by simp) (Nat.zero_le _) (p2))) rfl ?_
              clear hA a; intro a hA
              refine q_callg (dj := 175) _ hA rfl rfl rfl e1 Try.call19 rfl rfl (fun w hS => sameInts_c _ _ _ q.mem _ _ _ p.mem _ (IntsL.zero (hin'.mem.ov (hS.at hv1))) (hin.mem.gr (hS.gr0 (by simp)))) ?_
              clear hA a; intro a hA
              refine q1g hA (dj := 175) rfl rfl rfl e1 (Y.not rfl) rfl ?_
              clear hA a; intro a hA
              refine q1 hA (Y.pickF' rfl e1 rfl) rfl ?_
              clear hA a; intro a hA
              refine q1 hA (Y.move rfl) rfl ?_
              clear hA a; intro a hA
              refine q1g hA (dj := 191) rfl rfl rfl e2 (Y.fieldAddr (k := 2) rfl Try.underlying24 rfl rfl Try.sizeOf22) rfl ?_
              clear hA a; intro a hA
              refine q1g hA (dj := 191) rfl rfl rfl e2 (Y.load rfl Try.isAgg22 (fun w h => h.cell (i := 3) rfl rfl)) rfl ?_
              clear hA a; intro a hA
              refine q1g hA (dj := 191) rfl rfl rfl e2 (Y.move rfl) rfl ?_
              clear hA a; intro a hA
              refine q1g hA (dj := 191) rfl rfl rfl e2 (Y.indexAddrN rfl rfl Try.underlying22 Try.sizeOf37 (by omega)) rfl ?_
              clear hA a; intro a hA
              refine q1g hA (dj := 191) rfl rfl rfl e2 (Y.fieldAddr (k := 1) rfl Try.underlying37 rfl rfl Try.sizeOf3) rfl ?_
              clear hA a; intro a hA
              refine q1g hA (dj := 191) rfl rfl rfl e2 (Y.load rfl Try.isAgg3 (fun w h => h.rd hv1 hlo' (r1))) rfl ?_
              clear hA a; intro a hA
              refine q1g hA (dj := 191) rfl rfl rfl e2 (Y.fieldAddr (k := 2) rfl Try.underlying24 rfl rfl Try.sizeOf22) rfl ?_
              clear hA a; intro a hA
              refine q1g hA (dj := 191) rfl rfl rfl e2 (Y.load rfl Try.isAgg22 (fun w h => h.cell (i := 4) rfl rfl)) rfl ?_
              clear hA a; intro a hA
              refine q1g hA (dj := 191) rfl rfl rfl e2 (Y.move rfl) rfl ?_
              clear hA a; intro a hA
              refine q1g hA (dj := 191) rfl rfl rfl e2 (Y.indexAddrN rfl rfl Try.underlying22 Try.sizeOf37 (by omega)) rfl ?_
              clear hA a; intro a hA
              refine q1g hA (dj := 191) rfl rfl rfl e2 (Y.fieldAddr (k := 1) rfl Try.underlying37 rfl rfl Try.sizeOf3) rfl ?_
              clear hA a; intro a hA
              refine q1g hA (dj := 191) rfl rfl rfl e2 (Y.load rfl Try.isAgg3 (fun w h => h.rd (by simp) (Nat.zero_le _) (p1))) rfl ?_
              clear hA a; intro a hA
              refine q1g hA (dj := 191) rfl rfl rfl e2 (Y.neI rfl rfl) rfl ?_
              clear hA a; intro a hA
              refine q1 hA (Y.pickF' rfl e2 rfl) rfl ?_
              clear hA a; intro a hA
              refine q_nil ?_
              clear hS; intro w hS
              refine m_then ?_
              refine m_condF hA rfl (decide_eq_false (by rw [hql]; simp)) ?_
              refine m_skip ?_
              refine n_block ?_
              refine m_then ?_
              refine m_region ?_
              refine m1 hA hS (Y.move rfl) rfl ?_
              clear hA a; intro a hA
              refine m1 hA hS (Y.addI rfl rfl (by omega)) rfl ?_
              clear hA a; intro a hA
              refine m1 hA hS (Y.assign rfl) rfl ?_
              clear hA a; intro a hA
              refine m_nil ?_
              exact m_then ⟨j + 1, by (try dsimp only); omega, hA.keep [15, 7, 3] rfl, hS, by (try dsimp only); exact (by omega : j + 1 ≤ n1)⟩
          · refine m_exit ?_
            refine x_then ?_
            refine x_then ?_
            refine x_block ?_
            refine m_then ?_
            refine m_seq ?_
            refine m_region ?_
            refine m1 hA hS (Y.assign rfl) rfl ?_
            clear hA a; intro a hA
            refine m_nil ?_
            refine m_then ?_
            refine m_retc ?_
            refine m_ret1 hA Try.results7 rfl ?_
            exact ⟨rfl, hS.gr0 (by simp)⟩
end Go.Proofs.Ytljkhijdaaconaa
