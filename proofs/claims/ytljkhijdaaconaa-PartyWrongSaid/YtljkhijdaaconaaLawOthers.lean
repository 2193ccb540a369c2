/- The law PartyOthers, walked: it answers true. -/
import Derived.Test.YtljkhijdaaconaaAwake
import Derived.Test.YtljkhijdaaconaaLaws
set_option linter.unusedVariables false
namespace Go.Proofs.Ytljkhijdaaconaa
open Go.RowKit

theorem eq_inv (a b c d : Int) (w : World) : (binOp .eql 44 (.agg #[.int .i64 a, .int .i64 b]) (.agg #[.int .i64 c, .int .i64 d])).run Try.prog w = .ok (.bool (decide (a = c ∧ b = d))) w := by
  go_simp
  by_cases h1 : a = c <;> by_cases h2 : b = d <;> simp [h1, h2]
theorem drop_nil_len {α : Type} {xs : List α} {k : Nat} (h : xs.drop k = []) (hk : k ≤ xs.length) : k = xs.length := by
  have := congrArg List.length h
  rw [List.length_drop] at this
  simp at this; omega
set_option maxRecDepth 100000 in
set_option maxHeartbeats 4000000 in
theorem partyOthers_c (k a' b : Int) (H : Hall) (A : Option Addr) (n c : Nat) (w0 : World) (hP : Ptys w0 A n H.ps) :
    Calls Try.prog 4 #[.agg #[.int .i64 H.tick, .int .i64 H.last, .slice A n c], .agg #[.int .i64 k, .int .i64 a', .int .i64 b]] w0 fun e w' => e = .returned (.bool true) ∧ Gr w0 w' := by
  have hn := hP.le
  have hl := hP.len
  refine m_enter Try.func4 rfl Try.ntmps4 (Nat.le_of_ble_eq_true rfl) ?_
  intro a hA
  have hS := St.start w0
  refine m_seq ?_
  refine m_region ?_
  refine m_box hA hS rfl rfl ?_
  clear hA hS a; intro a b1 w hA hleb1 hgb1 hS
  refine m_box hA hS rfl rfl ?_
  clear hA hS a; intro a b2 w hA hleb2 hgb2 hS
  refine m1 hA hS (Y.assign rfl) rfl ?_
  clear hA a; intro a hA
  refine m_nil ?_
  refine m_then ?_
  refine m_seq ?_
  refine m_seq ?_
  refine m_region ?_
  refine m_callb hA hS Try.call10 rfl rfl (awake_c _) ?_
  clear hA hS a; intro a w hA hS hg
  refine m1 hA hS (Y.not rfl) rfl ?_
  clear hA a; intro a hA
  refine m_nil ?_
  refine m_then ?_
  refine m_condF hA rfl (rfl) ?_
  refine m_skip ?_
  refine m_then ?_
  refine m_seq ?_
  refine m_seq ?_
  refine m_region ?_
  refine m1 hA hS (Y.loads rfl Try.isAgg24 Try.sizeOf24 (fun w h => h.cells (i := 1) rfl) rfl) rfl ?_
  clear hA a; intro a hA
  refine m_callb hA hS Try.call11 rfl rfl (small_c H A n c _ (hP.gr (hS.gr0 (by simp)))) ?_
  clear hA hS a; intro a w hA hS hg
  refine m1 hA hS (Y.not rfl) rfl ?_
  clear hA a; intro a hA
  refine m1 hA hS (Y.move rfl) rfl ?_
  clear hA a; intro a hA
  replace hA := hA.keep [22, 4, 3, 2] rfl
  apply m_or 4 26 22 hA hS rfl
  · intro hp1
    refine m1s hA (dj := 22) rfl rfl rfl hp1 rfl ?_
    intro a hA
    refine m1s hA (dj := 22) rfl rfl rfl hp1 rfl ?_
    clear hA a; intro a hA
    refine m1s hA (dj := 22) rfl rfl rfl hp1 rfl ?_
    clear hA a; intro a hA
    refine m1 hA hS (Y.pickT' rfl hp1 rfl) rfl ?_
    clear hA a; intro a hA
    exact m_nil (m_then ⟨hA.keep [26, 22, 4, 3, 2] rfl, hS⟩)
  · intro hp1
    refine m1g hA hS (dj := 22) rfl rfl rfl hp1 (Y.loads rfl Try.isAgg24 Try.sizeOf24 (fun w h => h.cells (i := 1) rfl) rfl) rfl ?_
    intro a hA
    refine m_callbg (dj := 22) hA hS rfl rfl rfl hp1 Try.call12 rfl rfl (valid_c H A n c _ (hP.gr (hS.gr0 (by simp)))) ?_
    clear hA a; intro a w hA hS hg
    refine m1g hA hS (dj := 22) rfl rfl rfl hp1 (Y.not rfl) rfl ?_
    clear hA a; intro a hA
    refine m1 hA hS (Y.pickF' rfl hp1 rfl) rfl ?_
    clear hA a; intro a hA
    exact m_nil (m_then ⟨hA.keep [26, 22, 4, 3, 2] rfl, hS⟩)
  · clear hA hS a; intro a w hA hS
    refine m1 hA hS (Y.move rfl) rfl ?_
    clear hA a; intro a hA
    replace hA := hA.keep [27, 4, 3, 2] rfl
    apply m_or 5 32 27 hA hS rfl
    · intro hp2
      refine m1s hA (dj := 27) rfl rfl rfl hp2 rfl ?_
      intro a hA
      refine m1s hA (dj := 27) rfl rfl rfl hp2 rfl ?_
      clear hA a; intro a hA
      refine m1s hA (dj := 27) rfl rfl rfl hp2 rfl ?_
      clear hA a; intro a hA
      refine m1s hA (dj := 27) rfl rfl rfl hp2 rfl ?_
      clear hA a; intro a hA
      refine m1 hA hS (Y.pickT' rfl hp2 rfl) rfl ?_
      clear hA a; intro a hA
      exact m_nil (m_then ⟨hA.keep [32, 27, 4, 3, 2] rfl, hS⟩)
    · intro hp2
      refine m1g hA hS (dj := 27) rfl rfl rfl hp2 (Y.fieldAddr (k := 0) rfl Try.underlying32 rfl rfl Try.sizeOf3) rfl ?_
      intro a hA
      refine m1g hA hS (dj := 27) rfl rfl rfl hp2 (Y.load rfl Try.isAgg3 (fun w h => h.cell (i := 0) rfl rfl)) rfl ?_
      clear hA a; intro a hA
      refine m_callbg (dj := 27) hA hS rfl rfl rfl hp2 Try.call16 rfl rfl (pick_c k 9 (by decide) _) ?_
      clear hA a; intro a w hA hS hg
      refine m1g hA hS (dj := 27) rfl rfl rfl hp2 (Y.eqI rfl rfl) rfl ?_
      clear hA a; intro a hA
      refine m1 hA hS (Y.pickF' rfl hp2 rfl) rfl ?_
      clear hA a; intro a hA
      exact m_nil (m_then ⟨hA.keep [32, 27, 4, 3, 2] rfl, hS⟩)
    · clear hA hS a; intro a w hA hS
      refine m_nil ?_
      refine m_then ?_
      refine m_cond hA rfl (fun hc => ?_) (fun hc => ?_)
      · refine m_seq ?_
        refine m_region ?_
        refine m1 hA hS (Y.assign rfl) rfl ?_
        clear hA a; intro a hA
        refine m_nil ?_
        refine m_then ?_
        refine m_retc ?_
        refine r_then ?_
        refine m_ret1 hA Try.results4 rfl ?_
        exact ⟨rfl, hS.gr0 (by simp)⟩
      · simp only [Bool.or_eq_false_iff, Bool.not_eq_false', decide_eq_false_iff_not] at hc
        have g := valid_iff.1 hc.1.2
        have hk := hc.2
        obtain ⟨H', e1, h1⟩ : ∃ H' e1, oneF H k a' b = (H', e1) := ⟨_, _, rfl⟩
        refine m_skip ?_
        refine m_then ?_
        refine m_seq ?_
        refine m_region ?_
        refine m1 hA hS (Y.loads rfl Try.isAgg24 Try.sizeOf24 (fun w h => h.cells (i := 1) rfl) rfl) rfl ?_
        clear hA a; intro a hA
        refine m1 hA hS (Y.loads rfl Try.isAgg32 Try.sizeOf32 (fun w h => h.cells (i := 0) rfl) rfl) rfl ?_
        clear hA a; intro a hA
        refine m_call hA Try.call14 rfl rfl ((one_c H A n c k a' b _ (hP.gr (hS.gr0 (by simp)))).mono ?_)
        rintro e w ⟨A1, n1, c1, rfl, hg1, hP1⟩
        refine ⟨_, rfl, ?_⟩
        clear hA a; intro a hA
        rw [h1] at hA hP1
        obtain ⟨lo1, v1, hP1, hS⟩ := hS.keepP hg1 hP1
        refine m1 hA hS (Y.move rfl) rfl ?_
        clear hA a; intro a hA
        refine m1 hA hS (Y.extract rfl rfl) rfl ?_
        clear hA a; intro a hA
        refine m1 hA hS (Y.extract rfl rfl) rfl ?_
        clear hA a; intro a hA
        refine m_alloc hA hS Try.zeroValue24 rfl ?_
        clear hA hS a; intro a b3 w hA hleb3 hgb3 hS
        refine m_store 0 hA hS rfl rfl Try.sizeOf24 rfl rfl rfl rfl ?_
        clear hS; intro w hS
        refine m1 hA hS (Y.assign rfl) rfl ?_
        clear hA a; intro a hA
        refine m_nil ?_
        refine m_then ?_
        refine m_seq ?_
        refine m_seq ?_
        refine m_region ?_
        refine m1 hA hS (Y.move rfl) rfl ?_
        clear hA a; intro a hA
        refine m1 hA hS (Y.neI rfl rfl) rfl ?_
        clear hA a; intro a hA
        refine m_nil ?_
        refine m_then ?_
        refine m_condP hA rfl (fun hne => ?_) (fun hne => ?_)
        · refine m_seq ?_
          refine m_region ?_
          refine m1 hA hS (Y.assign rfl) rfl ?_
          clear hA a; intro a hA
          refine m_nil ?_
          refine m_then ?_
          refine m_retc ?_
          refine r_then ?_
          refine m_ret1 hA Try.results4 rfl ?_
          exact ⟨rfl, hS.gr0 (by simp)⟩
        · have he0 : e1 = 0 := Classical.not_not.1 hne
          subst he0
          obtain ⟨stp, oth⟩ := step_one h1
          replace oth := oth hk
          have hn1 := hP1.le
          have hl1 := hP1.len
          obtain ⟨mine, ok2, h2⟩ : ∃ p e, ofF a' H = (p, e) := ⟨_, _, rfl⟩
          obtain ⟨now, ok3, h3⟩ : ∃ p e, ofF a' H' = (p, e) := ⟨_, _, rfl⟩
          refine m_skip ?_
          refine m_then ?_
          refine m_seq ?_
          refine m_region ?_
          refine m1 hA hS (Y.loads rfl Try.isAgg24 Try.sizeOf24 (fun w h => h.cells (i := 2) rfl) rfl) rfl ?_
          clear hA a; intro a hA
          refine m1 hA hS (Y.fieldAddr (k := 1) rfl Try.underlying32 rfl rfl Try.sizeOf3) rfl ?_
          clear hA a; intro a hA
          refine m1 hA hS (Y.load rfl Try.isAgg3 (fun w h => h.cell (i := 1) rfl rfl)) rfl ?_
          clear hA a; intro a hA
          refine m_call hA Try.call17 rfl rfl ((of_c a' H A n c _ (hP.gr (hS.gr0 (by simp)))).mono ?_)
          rintro e w ⟨M2, m2, mc2, I2, i2, ic2, rfl, hg2, hY2⟩
          refine ⟨_, rfl, ?_⟩
          clear hA a; intro a hA
          rw [h2] at hA
          replace hS := hS.gr hg2
          refine m1 hA hS (Y.move rfl) rfl ?_
          clear hA a; intro a hA
          refine m1 hA hS (Y.extract rfl rfl) rfl ?_
          clear hA a; intro a hA
          refine m1 hA hS (Y.extract rfl rfl) rfl ?_
          clear hA a; intro a hA
          refine m_alloc hA hS Try.zeroValue37 rfl ?_
          clear hA hS a; intro a b4 w hA hleb4 hgb4 hS
          refine m_store 0 hA hS rfl rfl Try.sizeOf37 rfl rfl rfl rfl ?_
          clear hS; intro w hS
          refine m1 hA hS (Y.assign rfl) rfl ?_
          clear hA a; intro a hA
          refine m_nil ?_
          refine m_then ?_
          refine m_seq ?_
          refine m_region ?_
          refine m1 hA hS (Y.loads rfl Try.isAgg24 Try.sizeOf24 (fun w h => h.cells (i := 1) rfl) rfl) rfl ?_
          clear hA a; intro a hA
          refine m1 hA hS (Y.fieldAddr (k := 1) rfl Try.underlying32 rfl rfl Try.sizeOf3) rfl ?_
          clear hA a; intro a hA
          refine m1 hA hS (Y.load rfl Try.isAgg3 (fun w h => h.cell (i := 2) rfl rfl)) rfl ?_
          clear hA a; intro a hA
          refine m_call hA Try.call17 rfl rfl ((of_c a' H' A1 n1 c1 _ (PtysL.zero (hP1.ov (hS.at (by simp))))).mono ?_)
          rintro e w ⟨M3, m3, mc3, I3, i3, ic3, rfl, hg3, hY3⟩
          refine ⟨_, rfl, ?_⟩
          clear hA a; intro a hA
          rw [h3] at hA
          replace hS := hS.gr hg3
          refine m1 hA hS (Y.move rfl) rfl ?_
          clear hA a; intro a hA
          refine m1 hA hS (Y.extract rfl rfl) rfl ?_
          clear hA a; intro a hA
          refine m1 hA hS (Y.extract rfl rfl) rfl ?_
          clear hA a; intro a hA
          refine m_alloc hA hS Try.zeroValue37 rfl ?_
          clear hA hS a; intro a b5 w hA hleb5 hgb5 hS
          refine m_store 0 hA hS rfl rfl Try.sizeOf37 rfl rfl rfl rfl ?_
          clear hS; intro w hS
          refine m1 hA hS (Y.assign rfl) rfl ?_
          clear hA a; intro a hA
          refine m_nil ?_
          refine m_then ?_
          refine m_seq ?_
          refine m_seq ?_
          refine m_region ?_
          refine m1 hA hS (Y.assign rfl) rfl ?_
          clear hA a; intro a hA
          refine m_nil ?_
          refine m_then ?_
          refine m_block ?_
          -- LOST [4]
          refine m_loopX [9, 7, 5, 3, 2] rfl hA ((0 : Nat)) (fun j => [(11, .int .i64 (j : Int))]) (fun _ => _) (fun _ => _) (fun j => j ≤ n) (fun j => n - j) (ks := [11]) rfl hS (Nat.zero_le _) ?_
          clear hA hS a; rintro j a w hA hS hj
          try dsimp only at hA
          try dsimp only at hS
          try dsimp only at hj
          obtain hj := hj
          replace hA := hA.keep [11, 9, 7, 5, 3, 2] rfl
          refine m_seq ?_
          refine m_seq ?_
          refine m_region ?_
          refine m1 hA hS (Y.move rfl) rfl ?_
          clear hA a; intro a hA
          refine m1 hA hS (Y.fieldAddr (k := 2) rfl Try.underlying24 rfl rfl Try.sizeOf22) rfl ?_
          clear hA a; intro a hA
          refine m1 hA hS (Y.load rfl Try.isAgg22 (fun w h => h.cell (i := 4) rfl rfl)) rfl ?_
          clear hA a; intro a hA
          refine m1 hA hS (Y.lenSl rfl Try.underlying22) rfl ?_
          clear hA a; intro a hA
          refine m1 hA hS (Y.ltI rfl rfl) rfl ?_
          clear hA a; intro a hA
          refine m_nil ?_
          refine m_then ?_
          refine m_condP hA rfl (fun hlt => ?_) (fun hlt => ?_)
          · obtain ⟨bb, o, p, M, m, mc, I, i, ic, rfl, hp, p0, p1, p2, p3, hin⟩ := hP.at (j := j) (by omega)
            have hpm : p ∈ H.ps := List.mem_of_getElem? hp
            have hil := hin.inv.len
            have hile := hin.inv.le
            refine m_skip ?_
            refine m_then ?_
            refine m_seq ?_
            refine m_block ?_
            refine m_seq ?_
            refine m_region ?_
            refine m1 hA hS (Y.fieldAddr (k := 2) rfl Try.underlying24 rfl rfl Try.sizeOf22) rfl ?_
            clear hA a; intro a hA
            refine m1 hA hS (Y.load rfl Try.isAgg22 (fun w h => h.cell (i := 4) rfl rfl)) rfl ?_
            clear hA a; intro a hA
            refine m1 hA hS (Y.move rfl) rfl ?_
            clear hA a; intro a hA
            refine m1 hA hS (Y.indexAddrN rfl rfl Try.underlying22 Try.sizeOf37 (by omega)) rfl ?_
            clear hA a; intro a hA
            refine m1 hA hS (Y.loads rfl Try.isAgg37 Try.sizeOf37 (fun w h => h.rds (by simp) (Nat.zero_le _) (Cs.four p0 p1 p2 p3)) rfl) rfl ?_
            clear hA a; intro a hA
            refine m_alloc hA hS Try.zeroValue37 rfl ?_
            clear hA hS a; intro a b6 w hA hleb6 hgb6 hS
            refine m_store 0 hA hS rfl rfl Try.sizeOf37 rfl rfl rfl rfl ?_
            clear hS; intro w hS
            refine m_nil ?_
            refine m_then ?_
            refine m_seq ?_
            refine m_seq ?_
            refine m_region ?_
            refine m1 hA hS (Y.fieldAddr (k := 0) rfl Try.underlying37 rfl rfl Try.sizeOf3) rfl ?_
            clear hA a; intro a hA
            refine m1 hA hS (Y.load rfl Try.isAgg3 (fun w h => h.cell (i := 0) rfl rfl)) rfl ?_
            clear hA a; intro a hA
            refine m1 hA hS (Y.fieldAddr (k := 0) rfl Try.underlying37 rfl rfl Try.sizeOf3) rfl ?_
            clear hA a; intro a hA
            refine m1 hA hS (Y.load rfl Try.isAgg3 (fun w h => h.cell (i := 2) rfl rfl)) rfl ?_
            clear hA a; intro a hA
            refine m1 hA hS (Y.eqI rfl rfl) rfl ?_
            clear hA a; intro a hA
            refine m1 hA hS (Y.move rfl) rfl ?_
            clear hA a; intro a hA
            replace hA := hA.keep [72, 12, 11, 9, 7, 5, 3, 2] rfl
            apply m_or 6 78 72 hA hS rfl
            · intro hp3
              refine m1s hA (dj := 72) rfl rfl rfl hp3 rfl ?_
              intro a hA
              refine m1s hA (dj := 72) rfl rfl rfl hp3 rfl ?_
              clear hA a; intro a hA
              refine m1s hA (dj := 72) rfl rfl rfl hp3 rfl ?_
              clear hA a; intro a hA
              refine m1s hA (dj := 72) rfl rfl rfl hp3 rfl ?_
              clear hA a; intro a hA
              refine m1s hA (dj := 72) rfl rfl rfl hp3 rfl ?_
              clear hA a; intro a hA
              refine m1 hA hS (Y.pickT' rfl hp3 rfl) rfl ?_
              clear hA a; intro a hA
              exact m_nil (m_then ⟨hA.keep [78, 72, 12, 11, 9, 7, 5, 3, 2] rfl, hS⟩)
            · intro hp3
              refine m1g hA hS (dj := 72) rfl rfl rfl hp3 (Y.fieldAddr (k := 0) rfl Try.underlying37 rfl rfl Try.sizeOf3) rfl ?_
              intro a hA
              refine m1g hA hS (dj := 72) rfl rfl rfl hp3 (Y.load rfl Try.isAgg3 (fun w h => h.cell (i := 0) rfl rfl)) rfl ?_
              clear hA a; intro a hA
              refine m1g hA hS (dj := 72) rfl rfl rfl hp3 (Y.fieldAddr (k := 0) rfl Try.underlying37 rfl rfl Try.sizeOf3) rfl ?_
              clear hA a; intro a hA
              refine m1g hA hS (dj := 72) rfl rfl rfl hp3 (Y.load rfl Try.isAgg3 (fun w h => h.cell (i := 1) rfl rfl)) rfl ?_
              clear hA a; intro a hA
              refine m1g hA hS (dj := 72) rfl rfl rfl hp3 (Y.eqI rfl rfl) rfl ?_
              clear hA a; intro a hA
              refine m1 hA hS (Y.pickF' rfl hp3 rfl) rfl ?_
              clear hA a; intro a hA
              exact m_nil (m_then ⟨hA.keep [78, 72, 12, 11, 9, 7, 5, 3, 2] rfl, hS⟩)
            · clear hA hS a; intro a w hA hS
              refine m_nil ?_
              refine m_then ?_
              refine m_cond hA rfl (fun hsk => ?_) (fun hsk => ?_)
              · refine m_exit ?_
                refine x_then ?_
                refine x_block ?_
                refine m_then ?_
                refine m_region ?_
                refine m1 hA hS (Y.move rfl) rfl ?_
                clear hA a; intro a hA
                refine m1 hA hS (Y.addI rfl rfl (by omega)) rfl ?_
                clear hA a; intro a hA
                refine m1 hA hS (Y.assign rfl) rfl ?_
                clear hA a; intro a hA
                refine m_nil ?_
                replace hS := hS.gone
                exact m_then ⟨j + 1, by (try dsimp only); omega, hA.keep [11, 9, 7, 5, 3, 2] rfl, hS, by (try dsimp only); exact (by omega : j + 1 ≤ n)⟩
              · simp only [Bool.or_eq_false_iff, decide_eq_false_iff_not] at hsk
                obtain ⟨q, f, hfd, e1, e2, e3, e4⟩ := others_at g stp oth hpm (by rw [h2]; exact hsk.1) (by rw [h3]; exact hsk.2)
                refine m_skip ?_
                refine m_then ?_
                refine m_seq ?_
                refine m_region ?_
                refine m1 hA hS (Y.loads rfl Try.isAgg24 Try.sizeOf24 (fun w h => h.cells (i := 3) rfl) rfl) rfl ?_
                clear hA a; intro a hA
                refine m1 hA hS (Y.fieldAddr (k := 0) rfl Try.underlying37 rfl rfl Try.sizeOf3) rfl ?_
                clear hA a; intro a hA
                refine m1 hA hS (Y.load rfl Try.isAgg3 (fun w h => h.cell (i := 0) rfl rfl)) rfl ?_
                clear hA a; intro a hA
                refine m_call hA Try.call18 rfl rfl ((find2_c p.id H' A1 n1 c1 lo1 v1 _ hP1 (hS.at (by simp))).mono ?_)
                rintro e w ⟨M4, m4, mc4, I4, i4, ic4, rfl, hg4, hY4⟩
                refine ⟨_, rfl, ?_⟩
                clear hA a; intro a hA
                rw [hfd] at hA hY4
                replace hS := hS.gr hg4
                have hil4 : q.inv.length = i4 := hY4.inv.len
                have hile4 := hY4.inv.le
                refine m1 hA hS (Y.move rfl) rfl ?_
                clear hA a; intro a hA
                refine m1 hA hS (Y.extract rfl rfl) rfl ?_
                clear hA a; intro a hA
                refine m1 hA hS (Y.extract rfl rfl) rfl ?_
                clear hA a; intro a hA
                refine m_alloc hA hS Try.zeroValue37 rfl ?_
                clear hA hS a; intro a b7 w hA hleb7 hgb7 hS
                refine m_store 0 hA hS rfl rfl Try.sizeOf37 rfl rfl rfl rfl ?_
                clear hS; intro w hS
                refine m1 hA hS (Y.assign rfl) rfl ?_
                clear hA a; intro a hA
                refine m_nil ?_
                refine m_then ?_
                refine m_seq ?_
                refine m_seq ?_
                refine m_region ?_
                refine m1 hA hS (Y.move rfl) rfl ?_
                clear hA a; intro a hA
                refine m1 hA hS (Y.not rfl) rfl ?_
                clear hA a; intro a hA
                refine m1 hA hS (Y.move rfl) rfl ?_
                clear hA a; intro a hA
                replace hA := hA.keep [88, 13, 12, 11, 9, 7, 5, 3, 2] rfl
                apply m_or 6 94 88 hA hS rfl
                · intro hp4
                  refine m1s hA (dj := 88) rfl rfl rfl hp4 rfl ?_
                  intro a hA
                  refine m1s hA (dj := 88) rfl rfl rfl hp4 rfl ?_
                  clear hA a; intro a hA
                  refine m1s hA (dj := 88) rfl rfl rfl hp4 rfl ?_
                  clear hA a; intro a hA
                  refine m1s hA (dj := 88) rfl rfl rfl hp4 rfl ?_
                  clear hA a; intro a hA
                  refine m1s hA (dj := 88) rfl rfl rfl hp4 rfl ?_
                  clear hA a; intro a hA
                  refine m1 hA hS (Y.pickT' rfl hp4 rfl) rfl ?_
                  clear hA a; intro a hA
                  exact m_nil (m_then ⟨hA.keep [94, 88, 13, 12, 11, 9, 7, 5, 3, 2] rfl, hS⟩)
                · intro hp4
                  refine m1g hA hS (dj := 88) rfl rfl rfl hp4 (Y.fieldAddr (k := 1) rfl Try.underlying37 rfl rfl Try.sizeOf3) rfl ?_
                  intro a hA
                  refine m1g hA hS (dj := 88) rfl rfl rfl hp4 (Y.load rfl Try.isAgg3 (fun w h => h.cell (i := 0) rfl rfl)) rfl ?_
                  clear hA a; intro a hA
                  refine m1g hA hS (dj := 88) rfl rfl rfl hp4 (Y.fieldAddr (k := 1) rfl Try.underlying37 rfl rfl Try.sizeOf3) rfl ?_
                  clear hA a; intro a hA
                  refine m1g hA hS (dj := 88) rfl rfl rfl hp4 (Y.load rfl Try.isAgg3 (fun w h => h.cell (i := 1) rfl rfl)) rfl ?_
                  clear hA a; intro a hA
                  refine m1g hA hS (dj := 88) rfl rfl rfl hp4 (Y.neI rfl rfl) rfl ?_
                  clear hA a; intro a hA
                  refine m1 hA hS (Y.pickF' rfl hp4 rfl) rfl ?_
                  clear hA a; intro a hA
                  exact m_nil (m_then ⟨hA.keep [94, 88, 13, 12, 11, 9, 7, 5, 3, 2] rfl, hS⟩)
                · clear hA hS a; intro a w hA hS
                  refine m1 hA hS (Y.move rfl) rfl ?_
                  clear hA a; intro a hA
                  replace hA := hA.keep [95, 13, 12, 11, 9, 7, 5, 3, 2] rfl
                  apply m_or 7 102 95 hA hS rfl
                  · intro hp5
                    refine m1s hA (dj := 95) rfl rfl rfl hp5 rfl ?_
                    intro a hA
                    refine m1s hA (dj := 95) rfl rfl rfl hp5 rfl ?_
                    clear hA a; intro a hA
                    refine m1s hA (dj := 95) rfl rfl rfl hp5 rfl ?_
                    clear hA a; intro a hA
                    refine m1s hA (dj := 95) rfl rfl rfl hp5 rfl ?_
                    clear hA a; intro a hA
                    refine m1s hA (dj := 95) rfl rfl rfl hp5 rfl ?_
                    clear hA a; intro a hA
                    refine m1s hA (dj := 95) rfl rfl rfl hp5 rfl ?_
                    clear hA a; intro a hA
                    refine m1 hA hS (Y.pickT' rfl hp5 rfl) rfl ?_
                    clear hA a; intro a hA
                    exact m_nil (m_then ⟨hA.keep [102, 95, 13, 12, 11, 9, 7, 5, 3, 2] rfl, hS⟩)
                  · intro hp5
                    refine m1g hA hS (dj := 95) rfl rfl rfl hp5 (Y.fieldAddr (k := 2) rfl Try.underlying37 rfl rfl Try.sizeOf34) rfl ?_
                    intro a hA
                    refine m1g hA hS (dj := 95) rfl rfl rfl hp5 (Y.load rfl Try.isAgg34 (fun w h => h.cell (i := 0) rfl rfl)) rfl ?_
                    clear hA a; intro a hA
                    refine m1g hA hS (dj := 95) rfl rfl rfl hp5 (Y.fieldAddr (k := 2) rfl Try.underlying37 rfl rfl Try.sizeOf34) rfl ?_
                    clear hA a; intro a hA
                    refine m1g hA hS (dj := 95) rfl rfl rfl hp5 (Y.load rfl Try.isAgg34 (fun w h => h.cell (i := 1) rfl rfl)) rfl ?_
                    clear hA a; intro a hA
                    refine m_callbg (dj := 95) hA hS rfl rfl rfl hp5 Try.call19 rfl rfl (sameInts_c _ _ _ q.mem _ _ _ p.mem _ (IntsL.zero (hY4.mem.ov (hS.at (by simp)))) (hin.mem.gr (hS.gr0 (by simp)))) ?_
                    clear hA a; intro a w hA hS hg
                    have hsm : (!decide (q.mem = p.mem)) = false := by rw [e2]; simp
                    have hld : decide (q.leader ≠ p.leader) = false := by rw [e1]; simp
                    refine m1g hA hS (dj := 95) rfl rfl rfl hp5 (Y.not rfl) rfl ?_
                    clear hA a; intro a hA
                    refine m1 hA hS (Y.pickF' rfl hp5 rfl) rfl ?_
                    clear hA a; intro a hA
                    exact m_nil (m_then ⟨hA.keep [102, 95, 13, 12, 11, 9, 7, 5, 3, 2] rfl, hS⟩)
                  · clear hA hS a; intro a w hA hS
                    refine m_nil ?_
                    refine m_then ?_
                    refine m_condF hA rfl ((by simp [e1, e2]; done)) ?_
                    refine m_skip ?_
                    refine m_then ?_
                    refine m_seq ?_
                    refine m_region ?_
                    refine m1 hA hS (Y.assign rfl) rfl ?_
                    clear hA a; intro a hA
                    refine m_nil ?_
                    refine m_then ?_
                    refine m_seq ?_
                    refine m_seq ?_
                    refine m_region ?_
                    refine m1 hA hS (Y.assign rfl) rfl ?_
                    clear hA a; intro a hA
                    refine m_nil ?_
                    refine m_then ?_
                    refine m_block ?_
                    refine m_loopX [13, 12, 11, 9, 7, 5, 3, 2] rfl hA (((0 : Nat), (0 : Nat))) (fun x => [(15, .int .i64 (x.2 : Int)), (16, .int .i64 (x.1 : Int))]) (fun _ => _) (fun _ => _) (fun x => x.1 ≤ i ∧ x.2 ≤ i4 ∧ q.inv.drop x.2 = (p.inv.drop x.1).filter f) (fun x => i - x.1) (ks := [15, 16]) rfl hS (⟨Nat.zero_le _, Nat.zero_le _, e3⟩) ?_
                    clear hA hS a; rintro ⟨r, t⟩ a w hA hS hj
                    try dsimp only at hA
                    try dsimp only at hS
                    try dsimp only at hj
                    obtain ⟨hr, ht, hrt⟩ := hj
                    replace hA := hA.keep [15, 16, 13, 12, 11, 9, 7, 5, 3, 2] rfl
                    refine m_seq ?_
                    refine m_seq ?_
                    refine m_region ?_
                    refine m1 hA hS (Y.move rfl) rfl ?_
                    clear hA a; intro a hA
                    refine m1 hA hS (Y.fieldAddr (k := 3) rfl Try.underlying37 rfl rfl Try.sizeOf35) rfl ?_
                    clear hA a; intro a hA
                    refine m1 hA hS (Y.load rfl Try.isAgg35 (fun w h => h.cell (i := 1) rfl rfl)) rfl ?_
                    clear hA a; intro a hA
                    refine m1 hA hS (Y.lenSl rfl Try.underlying35) rfl ?_
                    clear hA a; intro a hA
                    refine m1 hA hS (Y.ltI rfl rfl) rfl ?_
                    clear hA a; intro a hA
                    refine m_nil ?_
                    refine m_then ?_
                    refine m_condP hA rfl (fun hlt2 => ?_) (fun hlt2 => ?_)
                    · obtain ⟨bx, ox, x, rfl, hx, x0, x1⟩ := hin.inv.at (j := r) (by omega)
                      have hxm := List.mem_of_getElem? hx
                      rw [drop_at hx, List.filter_cons] at hrt
                      have hsrt := g.so p hpm
                      rw [split_at hx, List.pairwise_append, List.pairwise_cons] at hsrt
                      obtain ⟨hs1, hs2, hs3⟩ := hsrt
                      have hgt : ∀ z ∈ (p.inv.drop (r + 1)).filter f, x.who < z.who := fun z hz => hs2.1 z (List.mem_filter.1 hz).1
                      by_cases hfx : f x = true
                      · rw [if_pos hfx] at hrt
                        have hlt4 : t < i4 := by
                          have := congrArg List.length hrt
                          rw [List.length_drop, List.length_cons] at this
                          omega
                        obtain ⟨by4, oy, y, rfl, hlo4, hy, y0, y1⟩ := InvsL.atL hY4.inv (j := t) hlt4
                        have hyx : y = x := by
                          rw [drop_at hy] at hrt
                          exact (List.cons.inj hrt).1
                        have hrt' : q.inv.drop (t + 1) = (p.inv.drop (r + 1)).filter f := by
                          rw [drop_at hy] at hrt
                          exact (List.cons.inj hrt).2
                        have hat : decide ((t : Int) < (i4 : Int)) = true := decide_eq_true (by omega)
                        refine m_skip ?_
                        refine m_then ?_
                        refine m_seq ?_
                        refine m_block ?_
                        refine m_seq ?_
                        refine q_region hS rfl (by kernel_rfl) ?_
                        refine q1 hA (Y.move rfl) rfl ?_
                        clear hA a; intro a hA
                        refine q1 hA (Y.fieldAddr (k := 3) rfl Try.underlying37 rfl rfl Try.sizeOf35) rfl ?_
                        clear hA a; intro a hA
                        refine q1 hA (Y.load rfl Try.isAgg35 (fun w h => h.cell (i := 0) rfl rfl)) rfl ?_
                        clear hA a; intro a hA
                        refine q1 hA (Y.lenSl rfl Try.underlying35) rfl ?_
                        clear hA a; intro a hA
                        refine q1 hA (Y.ltI rfl rfl) rfl ?_
                        clear hA a; intro a hA
                        refine q1 hA (Y.move rfl) rfl ?_
                        clear hA a; intro a hA
                        refine q1g hA (dj := 115) rfl rfl rfl hat (Y.fieldAddr (k := 3) rfl Try.underlying37 rfl rfl Try.sizeOf35) rfl ?_
                        clear hA a; intro a hA
                        refine q1g hA (dj := 115) rfl rfl rfl hat (Y.load rfl Try.isAgg35 (fun w h => h.cell (i := 0) rfl rfl)) rfl ?_
                        clear hA a; intro a hA
                        refine q1g hA (dj := 115) rfl rfl rfl hat (Y.move rfl) rfl ?_
                        clear hA a; intro a hA
                        refine q1g hA (dj := 115) rfl rfl rfl hat (Y.indexAddrN rfl rfl Try.underlying35 Try.sizeOf44 (by omega)) rfl ?_
                        clear hA a; intro a hA
                        refine q1g hA (dj := 115) rfl rfl rfl hat (Y.loads rfl Try.isAgg44 Try.sizeOf44 (fun w h => h.rds (List.mem_cons_self ..) hlo4 (Cs.two y0 y1)) rfl) rfl ?_
                        clear hA a; intro a hA
                        refine q1g hA (dj := 115) rfl rfl rfl hat (Y.fieldAddr (k := 3) rfl Try.underlying37 rfl rfl Try.sizeOf35) rfl ?_
                        clear hA a; intro a hA
                        refine q1g hA (dj := 115) rfl rfl rfl hat (Y.load rfl Try.isAgg35 (fun w h => h.cell (i := 1) rfl rfl)) rfl ?_
                        clear hA a; intro a hA
                        refine q1g hA (dj := 115) rfl rfl rfl hat (Y.move rfl) rfl ?_
                        clear hA a; intro a hA
                        refine q1g hA (dj := 115) rfl rfl rfl hat (Y.indexAddrN rfl rfl Try.underlying35 Try.sizeOf44 (by omega)) rfl ?_
                        clear hA a; intro a hA
                        refine q1g hA (dj := 115) rfl rfl rfl hat (Y.loads rfl Try.isAgg44 Try.sizeOf44 (fun w h => h.rds (by simp) (Nat.zero_le _) (Cs.two x0 x1)) rfl) rfl ?_
                        clear hA a; intro a hA
                        refine q1g hA (dj := 115) rfl rfl rfl hat (Y.bin rfl rfl (eqg_inv _ _ _ _ _ _ _) (eq_inv _ _ _ _)) rfl ?_
                        clear hA a; intro a hA
                        refine q1 hA (Y.pickT' rfl hat rfl) rfl ?_
                        clear hA a; intro a hA
                        refine q_nil ?_
                        clear hS; intro w hS
                        refine m_then ?_
                        refine m_condT hA rfl (decide_eq_true (by rw [hyx]; exact ⟨rfl, rfl⟩)) ?_
                        refine m_region ?_
                        refine m1 hA hS (Y.move rfl) rfl ?_
                        clear hA a; intro a hA
                        refine m1 hA hS (Y.addI rfl rfl (by omega)) rfl ?_
                        clear hA a; intro a hA
                        refine m1 hA hS (Y.assign rfl) rfl ?_
                        clear hA a; intro a hA
                        refine m_nil ?_
                        refine n_block ?_
                        refine m_then ?_
                        refine m_region ?_
                        refine m1 hA hS (Y.move rfl) rfl ?_
                        clear hA a; intro a hA
                        refine m1 hA hS (Y.addI rfl rfl (by omega)) rfl ?_
                        clear hA a; intro a hA
                        refine m1 hA hS (Y.assign rfl) rfl ?_
                        clear hA a; intro a hA
                        refine m_nil ?_
                        exact m_then ⟨(r + 1, t + 1), by (try dsimp only); omega, hA.keep [15, 16, 13, 12, 11, 9, 7, 5, 3, 2] rfl, hS, by (try dsimp only); exact ⟨by omega, by omega, hrt'⟩⟩
                      · rw [if_neg hfx] at hrt
                        have hxa : x.who = a' := e4 x hxm (by simpa using hfx)
                        by_cases hlt4 : t < i4
                        · obtain ⟨by4, oy, y, rfl, hlo4, hy, y0, y1⟩ := InvsL.atL hY4.inv (j := t) hlt4
                          have hyx : x.who < y.who := by
                            refine hgt y ?_
                            rw [← hrt, drop_at hy]
                            exact List.mem_cons_self ..
                          have hat : decide ((t : Int) < (i4 : Int)) = true := decide_eq_true (by omega)
                          refine m_skip ?_
                          refine m_then ?_
                          refine m_seq ?_
                          refine m_block ?_
                          refine m_seq ?_
                          refine q_region hS rfl (by kernel_rfl) ?_
                          refine q1 hA (Y.move rfl) rfl ?_
                          clear hA a; intro a hA
                          refine q1 hA (Y.fieldAddr (k := 3) rfl Try.underlying37 rfl rfl Try.sizeOf35) rfl ?_
                          clear hA a; intro a hA
                          refine q1 hA (Y.load rfl Try.isAgg35 (fun w h => h.cell (i := 0) rfl rfl)) rfl ?_
                          clear hA a; intro a hA
                          refine q1 hA (Y.lenSl rfl Try.underlying35) rfl ?_
                          clear hA a; intro a hA
                          refine q1 hA (Y.ltI rfl rfl) rfl ?_
                          clear hA a; intro a hA
                          refine q1 hA (Y.move rfl) rfl ?_
                          clear hA a; intro a hA
                          refine q1g hA (dj := 115) rfl rfl rfl hat (Y.fieldAddr (k := 3) rfl Try.underlying37 rfl rfl Try.sizeOf35) rfl ?_
                          clear hA a; intro a hA
                          refine q1g hA (dj := 115) rfl rfl rfl hat (Y.load rfl Try.isAgg35 (fun w h => h.cell (i := 0) rfl rfl)) rfl ?_
                          clear hA a; intro a hA
                          refine q1g hA (dj := 115) rfl rfl rfl hat (Y.move rfl) rfl ?_
                          clear hA a; intro a hA
                          refine q1g hA (dj := 115) rfl rfl rfl hat (Y.indexAddrN rfl rfl Try.underlying35 Try.sizeOf44 (by omega)) rfl ?_
                          clear hA a; intro a hA
                          refine q1g hA (dj := 115) rfl rfl rfl hat (Y.loads rfl Try.isAgg44 Try.sizeOf44 (fun w h => h.rds (List.mem_cons_self ..) hlo4 (Cs.two y0 y1)) rfl) rfl ?_
                          clear hA a; intro a hA
                          refine q1g hA (dj := 115) rfl rfl rfl hat (Y.fieldAddr (k := 3) rfl Try.underlying37 rfl rfl Try.sizeOf35) rfl ?_
                          clear hA a; intro a hA
                          refine q1g hA (dj := 115) rfl rfl rfl hat (Y.load rfl Try.isAgg35 (fun w h => h.cell (i := 1) rfl rfl)) rfl ?_
                          clear hA a; intro a hA
                          refine q1g hA (dj := 115) rfl rfl rfl hat (Y.move rfl) rfl ?_
                          clear hA a; intro a hA
                          refine q1g hA (dj := 115) rfl rfl rfl hat (Y.indexAddrN rfl rfl Try.underlying35 Try.sizeOf44 (by omega)) rfl ?_
                          clear hA a; intro a hA
                          refine q1g hA (dj := 115) rfl rfl rfl hat (Y.loads rfl Try.isAgg44 Try.sizeOf44 (fun w h => h.rds (by simp) (Nat.zero_le _) (Cs.two x0 x1)) rfl) rfl ?_
                          clear hA a; intro a hA
                          refine q1g hA (dj := 115) rfl rfl rfl hat (Y.bin rfl rfl (eqg_inv _ _ _ _ _ _ _) (eq_inv _ _ _ _)) rfl ?_
                          clear hA a; intro a hA
                          refine q1 hA (Y.pickT' rfl hat rfl) rfl ?_
                          clear hA a; intro a hA
                          refine q_nil ?_
                          clear hS; intro w hS
                          refine m_then ?_
                          refine m_condF hA rfl (decide_eq_false (by omega)) ?_
                          refine m_seq ?_
                          refine q_region hS rfl (by kernel_rfl) ?_
                          refine q1 hA (Y.fieldAddr (k := 3) rfl Try.underlying37 rfl rfl Try.sizeOf35) rfl ?_
                          clear hA a; intro a hA
                          refine q1 hA (Y.load rfl Try.isAgg35 (fun w h => h.cell (i := 1) rfl rfl)) rfl ?_
                          clear hA a; intro a hA
                          refine q1 hA (Y.move rfl) rfl ?_
                          clear hA a; intro a hA
                          refine q1 hA (Y.indexAddrN rfl rfl Try.underlying35 Try.sizeOf44 (by omega)) rfl ?_
                          clear hA a; intro a hA
                          refine q1 hA (Y.fieldAddr (k := 0) rfl Try.underlying44 rfl rfl Try.sizeOf3) rfl ?_
                          clear hA a; intro a hA
                          refine q1 hA (Y.load rfl Try.isAgg3 (fun w h => h.rd (by simp) (Nat.zero_le _) (x0))) rfl ?_
                          clear hA a; intro a hA
                          refine q1 hA (Y.fieldAddr (k := 1) rfl Try.underlying32 rfl rfl Try.sizeOf3) rfl ?_
                          clear hA a; intro a hA
                          refine q1 hA (Y.load rfl Try.isAgg3 (fun w h => h.cell (i := 5) rfl rfl)) rfl ?_
                          clear hA a; intro a hA
                          refine q1 hA (Y.neI rfl rfl) rfl ?_
                          clear hA a; intro a hA
                          refine q_nil ?_
                          clear hS; intro w hS
                          refine m_then ?_
                          refine m_condF hA rfl (decide_eq_false (by omega)) ?_
                          refine m_skip ?_
                          refine n_block ?_
                          refine m_then ?_
                          refine m_region ?_
                          refine m1 hA hS (Y.move rfl) rfl ?_
                          clear hA a; intro a hA
                          refine m1 hA hS (Y.addI rfl rfl (by omega)) rfl ?_
                          clear hA a; intro a hA
                          refine m1 hA hS (Y.assign rfl) rfl ?_
                          clear hA a; intro a hA
                          refine m_nil ?_
                          exact m_then ⟨(r + 1, t), by (try dsimp only); omega, hA.keep [15, 16, 13, 12, 11, 9, 7, 5, 3, 2] rfl, hS, by (try dsimp only); exact ⟨by omega, by omega, hrt⟩⟩
                        · have hat : decide ((t : Int) < (i4 : Int)) = false := decide_eq_false (by omega)
                          refine m_skip ?_
                          refine m_then ?_
                          refine m_seq ?_
                          refine m_block ?_
                          refine m_seq ?_
                          refine q_region hS rfl (by kernel_rfl) ?_
                          refine q1 hA (Y.move rfl) rfl ?_
                          clear hA a; intro a hA
                          refine q1 hA (Y.fieldAddr (k := 3) rfl Try.underlying37 rfl rfl Try.sizeOf35) rfl ?_
                          clear hA a; intro a hA
                          refine q1 hA (Y.load rfl Try.isAgg35 (fun w h => h.cell (i := 0) rfl rfl)) rfl ?_
                          clear hA a; intro a hA
                          refine q1 hA (Y.lenSl rfl Try.underlying35) rfl ?_
                          clear hA a; intro a hA
                          refine q1 hA (Y.ltI rfl rfl) rfl ?_
                          clear hA a; intro a hA
                          refine q1 hA (Y.move rfl) rfl ?_
                          clear hA a; intro a hA
                          refine q1s hA (dj := 115) rfl rfl rfl hat rfl ?_
                          clear hA a; intro a hA
                          refine q1s hA (dj := 115) rfl rfl rfl hat rfl ?_
                          clear hA a; intro a hA
                          refine q1s hA (dj := 115) rfl rfl rfl hat rfl ?_
                          clear hA a; intro a hA
                          refine q1s hA (dj := 115) rfl rfl rfl hat rfl ?_
                          clear hA a; intro a hA
                          refine q1s hA (dj := 115) rfl rfl rfl hat rfl ?_
                          clear hA a; intro a hA
                          refine q1s hA (dj := 115) rfl rfl rfl hat rfl ?_
                          clear hA a; intro a hA
                          refine q1s hA (dj := 115) rfl rfl rfl hat rfl ?_
                          clear hA a; intro a hA
                          refine q1s hA (dj := 115) rfl rfl rfl hat rfl ?_
                          clear hA a; intro a hA
                          refine q1s hA (dj := 115) rfl rfl rfl hat rfl ?_
                          clear hA a; intro a hA
                          refine q1s hA (dj := 115) rfl rfl rfl hat rfl ?_
                          clear hA a; intro a hA
                          refine q1s hA (dj := 115) rfl rfl rfl hat rfl ?_
                          clear hA a; intro a hA
                          refine q1 hA (Y.pickF' rfl hat rfl) rfl ?_
                          clear hA a; intro a hA
                          refine q_nil ?_
                          clear hS; intro w hS
                          refine m_then ?_
                          refine m_condF hA rfl (rfl) ?_
                          refine m_seq ?_
                          refine q_region hS rfl (by kernel_rfl) ?_
                          refine q1 hA (Y.fieldAddr (k := 3) rfl Try.underlying37 rfl rfl Try.sizeOf35) rfl ?_
                          clear hA a; intro a hA
                          refine q1 hA (Y.load rfl Try.isAgg35 (fun w h => h.cell (i := 1) rfl rfl)) rfl ?_
                          clear hA a; intro a hA
                          refine q1 hA (Y.move rfl) rfl ?_
                          clear hA a; intro a hA
                          refine q1 hA (Y.indexAddrN rfl rfl Try.underlying35 Try.sizeOf44 (by omega)) rfl ?_
                          clear hA a; intro a hA
                          refine q1 hA (Y.fieldAddr (k := 0) rfl Try.underlying44 rfl rfl Try.sizeOf3) rfl ?_
                          clear hA a; intro a hA
                          refine q1 hA (Y.load rfl Try.isAgg3 (fun w h => h.rd (by simp) (Nat.zero_le _) (x0))) rfl ?_
                          clear hA a; intro a hA
                          refine q1 hA (Y.fieldAddr (k := 1) rfl Try.underlying32 rfl rfl Try.sizeOf3) rfl ?_
                          clear hA a; intro a hA
                          refine q1 hA (Y.load rfl Try.isAgg3 (fun w h => h.cell (i := 5) rfl rfl)) rfl ?_
                          clear hA a; intro a hA
                          refine q1 hA (Y.neI rfl rfl) rfl ?_
                          clear hA a; intro a hA
                          refine q_nil ?_
                          clear hS; intro w hS
                          refine m_then ?_
                          refine m_condF hA rfl (decide_eq_false (by omega)) ?_
                          refine m_skip ?_
                          refine n_block ?_
                          refine m_then ?_
                          refine m_region ?_
                          refine m1 hA hS (Y.move rfl) rfl ?_
                          clear hA a; intro a hA
                          refine m1 hA hS (Y.addI rfl rfl (by omega)) rfl ?_
                          clear hA a; intro a hA
                          refine m1 hA hS (Y.assign rfl) rfl ?_
                          clear hA a; intro a hA
                          refine m_nil ?_
                          exact m_then ⟨(r + 1, t), by (try dsimp only); omega, hA.keep [15, 16, 13, 12, 11, 9, 7, 5, 3, 2] rfl, hS, by (try dsimp only); exact ⟨by omega, by omega, hrt⟩⟩
                    · have hri : r = i := by omega
                      rw [List.drop_eq_nil_of_le (by omega : p.inv.length ≤ r), List.filter_nil] at hrt
                      have hti := drop_nil_len hrt (by omega)
                      refine m_exit ?_
                      refine x_then ?_
                      refine x_then ?_
                      refine x_block ?_
                      refine m_then ?_
                      refine m_seq ?_
                      refine m_region ?_
                      refine m1 hA hS (Y.move rfl) rfl ?_
                      clear hA a; intro a hA
                      refine m1 hA hS (Y.fieldAddr (k := 3) rfl Try.underlying37 rfl rfl Try.sizeOf35) rfl ?_
                      clear hA a; intro a hA
                      refine m1 hA hS (Y.load rfl Try.isAgg35 (fun w h => h.cell (i := 0) rfl rfl)) rfl ?_
                      clear hA a; intro a hA
                      refine m1 hA hS (Y.lenSl rfl Try.underlying35) rfl ?_
                      clear hA a; intro a hA
                      refine m1 hA hS (Y.neI rfl rfl) rfl ?_
                      clear hA a; intro a hA
                      refine m_nil ?_
                      refine m_then ?_
                      refine m_condF hA rfl (decide_eq_false (by omega)) ?_
                      refine m_skip ?_
                      refine n_block ?_
                      refine m_then ?_
                      refine m_region ?_
                      refine m1 hA hS (Y.move rfl) rfl ?_
                      clear hA a; intro a hA
                      refine m1 hA hS (Y.addI rfl rfl (by omega)) rfl ?_
                      clear hA a; intro a hA
                      refine m1 hA hS (Y.assign rfl) rfl ?_
                      clear hA a; intro a hA
                      refine m_nil ?_
                      replace hS := hS.gone.gone
                      exact m_then ⟨j + 1, by (try dsimp only); omega, hA.keep [11, 9, 7, 5, 3, 2] rfl, hS, by (try dsimp only); exact (by omega : j + 1 ≤ n)⟩
          · have hup := oth.up
            have hdn := oth.dn
            simp only at hl1
            refine m_exit ?_
            refine x_then ?_
            refine x_then ?_
            refine x_block ?_
            refine m_then ?_
            refine m_seq ?_
            refine m_region ?_
            refine m1 hA hS (Y.fieldAddr (k := 2) rfl Try.underlying24 rfl rfl Try.sizeOf22) rfl ?_
            clear hA a; intro a hA
            refine m1 hA hS (Y.load rfl Try.isAgg22 (fun w h => h.cell (i := 2) rfl rfl)) rfl ?_
            clear hA a; intro a hA
            refine m1 hA hS (Y.lenSl rfl Try.underlying22) rfl ?_
            clear hA a; intro a hA
            refine m1 hA hS (Y.fieldAddr (k := 2) rfl Try.underlying24 rfl rfl Try.sizeOf22) rfl ?_
            clear hA a; intro a hA
            refine m1 hA hS (Y.load rfl Try.isAgg22 (fun w h => h.cell (i := 4) rfl rfl)) rfl ?_
            clear hA a; intro a hA
            refine m1 hA hS (Y.lenSl rfl Try.underlying22) rfl ?_
            clear hA a; intro a hA
            refine m1 hA hS (Y.addI rfl rfl (by omega)) rfl ?_
            clear hA a; intro a hA
            refine m1 hA hS (Y.leI rfl rfl) rfl ?_
            clear hA a; intro a hA
            refine m1 hA hS (Y.move rfl) rfl ?_
            clear hA a; intro a hA
            replace hA := hA.keep [152, 5, 2] rfl
            apply m_and 9 161 152 hA hS rfl
            · intro hp6
              refine m1s hA (dj := 152) rfl rfl rfl hp6 rfl ?_
              intro a hA
              refine m1s hA (dj := 152) rfl rfl rfl hp6 rfl ?_
              clear hA a; intro a hA
              refine m1s hA (dj := 152) rfl rfl rfl hp6 rfl ?_
              clear hA a; intro a hA
              refine m1s hA (dj := 152) rfl rfl rfl hp6 rfl ?_
              clear hA a; intro a hA
              refine m1s hA (dj := 152) rfl rfl rfl hp6 rfl ?_
              clear hA a; intro a hA
              refine m1s hA (dj := 152) rfl rfl rfl hp6 rfl ?_
              clear hA a; intro a hA
              refine m1s hA (dj := 152) rfl rfl rfl hp6 rfl ?_
              clear hA a; intro a hA
              refine m1s hA (dj := 152) rfl rfl rfl hp6 rfl ?_
              clear hA a; intro a hA
              refine m1 hA hS (Y.pickF' rfl hp6 rfl) rfl ?_
              clear hA a; intro a hA
              exact m_nil (m_then ⟨hA.keep [161, 152, 5, 2] rfl, hS⟩)
            · intro hp6
              refine m1g hA hS (dj := 152) rfl rfl rfl hp6 (Y.fieldAddr (k := 2) rfl Try.underlying24 rfl rfl Try.sizeOf22) rfl ?_
              intro a hA
              refine m1g hA hS (dj := 152) rfl rfl rfl hp6 (Y.load rfl Try.isAgg22 (fun w h => h.cell (i := 2) rfl rfl)) rfl ?_
              clear hA a; intro a hA
              refine m1g hA hS (dj := 152) rfl rfl rfl hp6 (Y.lenSl rfl Try.underlying22) rfl ?_
              clear hA a; intro a hA
              refine m1g hA hS (dj := 152) rfl rfl rfl hp6 (Y.fieldAddr (k := 2) rfl Try.underlying24 rfl rfl Try.sizeOf22) rfl ?_
              clear hA a; intro a hA
              refine m1g hA hS (dj := 152) rfl rfl rfl hp6 (Y.load rfl Try.isAgg22 (fun w h => h.cell (i := 4) rfl rfl)) rfl ?_
              clear hA a; intro a hA
              refine m1g hA hS (dj := 152) rfl rfl rfl hp6 (Y.lenSl rfl Try.underlying22) rfl ?_
              clear hA a; intro a hA
              refine m1g hA hS (dj := 152) rfl rfl rfl hp6 (Y.subI rfl rfl (by omega)) rfl ?_
              clear hA a; intro a hA
              refine m1g hA hS (dj := 152) rfl rfl rfl hp6 (Y.geI rfl rfl) rfl ?_
              clear hA a; intro a hA
              refine m1 hA hS (Y.pickT' rfl hp6 rfl) rfl ?_
              clear hA a; intro a hA
              exact m_nil (m_then ⟨hA.keep [161, 152, 5, 2] rfl, hS⟩)
            · clear hA hS a; intro a w hA hS
              refine m1 hA hS (Y.assign rfl) rfl ?_
              clear hA a; intro a hA
              refine m_nil ?_
              refine m_then ?_
              refine m_retc ?_
              refine m_ret1 hA Try.results4 rfl ?_
              exact ⟨ret_bool (by simp; omega), hS.gr0 (by simp)⟩
end Go.Proofs.Ytljkhijdaaconaa
