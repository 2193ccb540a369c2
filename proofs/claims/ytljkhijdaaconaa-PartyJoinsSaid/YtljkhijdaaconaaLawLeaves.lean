/- The law PartyLeaves, walked: it answers true. -/
import Derived.Test.YtljkhijdaaconaaLawOthers
set_option linter.unusedVariables false
namespace Go.Proofs.Ytljkhijdaaconaa
open Go.RowKit

theorem IntsB.in {A : Option Addr} {n c : Nat} {xs : List Int} {bs B : List Bx} {V : List (Nat × World)} {w : World} (h : IntsB (.slice A n c) xs bs) (hS : St w B V) (hs : bs.Sublist B) (hle : xs.length ≤ 100) : Ints w A xs.length xs := by
  have hf : Fresh 0 w bs := ⟨fun x hx => hS.bx x (hs.subset hx), hS.nd.sublist hs, fun x _ => Nat.zero_le _⟩
  obtain ⟨A', c', e, h'⟩ := h.read hf hle
  cases e
  exact h'
set_option maxRecDepth 100000 in
set_option maxHeartbeats 4000000 in
theorem partyLeaves_c (who : Int) (H : Hall) (A : Option Addr) (n c : Nat) (w0 : World) (hP : Ptys w0 A n H.ps) :
    Calls Try.prog 6 #[.agg #[.int .i64 H.tick, .int .i64 H.last, .slice A n c], .int .i64 who] w0 fun e w' => e = .returned (.bool true) ∧ Gr w0 w' := by
  have hn := hP.le
  have hl := hP.len
  refine m_enter Try.func6 rfl Try.ntmps6 (Nat.le_of_ble_eq_true rfl) ?_
  intro a hA
  have hS := St.start w0
  refine m_seq ?_
  refine m_region ?_
  refine m_box hA hS rfl rfl ?_
  clear hA hS a; intro a b1 w hA hleb1 hgb1 hS
  refine m1 hA hS (Y.assign rfl) rfl ?_
  clear hA a; intro a hA
  refine m_nil ?_
  refine m_then ?_
  refine m_seq ?_
  refine m_seq ?_
  refine m_region ?_
  refine m_callb hA hS Try.call10 rfl rfl (awake_c _) ?_
  clear hA hS a; intro a w hA hS hg
  refine m1 hA hS (Y.not rfl) rfl ?_
  clear hA a; intro a hA
  refine m_nil ?_
  refine m_then ?_
  refine m_condF hA rfl (rfl) ?_
  refine m_skip ?_
  refine m_then ?_
  refine m_seq ?_
  refine m_seq ?_
  refine m_region ?_
  refine m1 hA hS (Y.loads rfl Try.isAgg24 Try.sizeOf24 (fun w h => h.cells (i := 0) rfl) rfl) rfl ?_
  clear hA a; intro a hA
  refine m_callb hA hS Try.call11 rfl rfl (small_c H A n c _ (hP.gr (hS.gr0 (by simp)))) ?_
  clear hA hS a; intro a w hA hS hg
  refine m1 hA hS (Y.not rfl) rfl ?_
  clear hA a; intro a hA
  refine m1 hA hS (Y.move rfl) rfl ?_
  clear hA a; intro a hA
  replace hA := hA.keep [22, 4, 2, 1] rfl
  apply m_or 4 26 22 hA hS rfl
  · intro hp1
    refine m1s hA (dj := 22) rfl rfl rfl hp1 rfl ?_
    intro a hA
    refine m1s hA (dj := 22) rfl rfl rfl hp1 rfl ?_
    clear hA a; intro a hA
    refine m1s hA (dj := 22) rfl rfl rfl hp1 rfl ?_
    clear hA a; intro a hA
    refine m1 hA hS (Y.pickT' rfl hp1 rfl) rfl ?_
    clear hA a; intro a hA
    exact m_nil (m_then ⟨hA.keep [26, 22, 4, 2, 1] rfl, hS⟩)
  · intro hp1
    refine m1g hA hS (dj := 22) rfl rfl rfl hp1 (Y.loads rfl Try.isAgg24 Try.sizeOf24 (fun w h => h.cells (i := 0) rfl) rfl) rfl ?_
    intro a hA
    refine m_callbg (dj := 22) hA hS rfl rfl rfl hp1 Try.call12 rfl rfl (valid_c H A n c _ (hP.gr (hS.gr0 (by simp)))) ?_
    clear hA a; intro a w hA hS hg
    refine m1g hA hS (dj := 22) rfl rfl rfl hp1 (Y.not rfl) rfl ?_
    clear hA a; intro a hA
    refine m1 hA hS (Y.pickF' rfl hp1 rfl) rfl ?_
    clear hA a; intro a hA
    exact m_nil (m_then ⟨hA.keep [26, 22, 4, 2, 1] rfl, hS⟩)
  · clear hA hS a; intro a w hA hS
    refine m_nil ?_
    refine m_then ?_
    refine m_cond hA rfl (fun hc => ?_) (fun hc => ?_)
    · refine m_seq ?_
      refine m_region ?_
      refine m1 hA hS (Y.assign rfl) rfl ?_
      clear hA a; intro a hA
      refine m_nil ?_
      refine m_then ?_
      refine m_retc ?_
      refine r_then ?_
      refine m_ret1 hA Try.results6 rfl ?_
      exact ⟨rfl, hS.gr0 (by simp)⟩
    · simp only [Bool.or_eq_false_iff, Bool.not_eq_false'] at hc
      have g := valid_iff.1 hc.2
      refine m_skip ?_
      refine m_then ?_
      refine m_seq ?_
      refine m_region ?_
      refine m1 hA hS (Y.loads rfl Try.isAgg24 Try.sizeOf24 (fun w h => h.cells (i := 0) rfl) rfl) rfl ?_
      clear hA a; intro a hA
      refine m1 hA hS (Y.move rfl) rfl ?_
      clear hA a; intro a hA
      refine m_call hA Try.call17 rfl rfl ((of_c who H A n c _ (hP.gr (hS.gr0 (by simp)))).mono ?_)
      rintro e w ⟨M2, m2, mc2, I2, i2, ic2, rfl, hg2, hY2⟩
      refine ⟨_, rfl, ?_⟩
      clear hA a; intro a hA
      obtain ⟨lo2, v2, hY2, hS⟩ := hS.keepY hg2 hY2
      rcases ofF_cases g who with ⟨hno, hof⟩ | ⟨p, hp, hw, hof⟩
      · rw [hof] at hA
        have hlv : change (lvF who) H = (noHall, 6) := by
          have e : lvF who H = (H, 6) := by unfold lvF; rw [if_pos (place_none hno)]
          rw [change_good g, e]; rfl
        refine m1 hA hS (Y.move rfl) rfl ?_
        clear hA a; intro a hA
        refine m1 hA hS (Y.extract rfl rfl) rfl ?_
        clear hA a; intro a hA
        refine m1 hA hS (Y.extract rfl rfl) rfl ?_
        clear hA a; intro a hA
        refine m_alloc hA hS Try.zeroValue37 rfl ?_
        clear hA hS a; intro a b2 w hA hleb2 hgb2 hS
        refine m_store 0 hA hS rfl rfl Try.sizeOf37 rfl rfl rfl rfl ?_
        clear hS; intro w hS
        refine m1 hA hS (Y.assign rfl) rfl ?_
        clear hA a; intro a hA
        refine m_nil ?_
        refine m_then ?_
        refine m_seq ?_
        refine m_region ?_
        refine m1 hA hS (Y.loads rfl Try.isAgg24 Try.sizeOf24 (fun w h => h.cells (i := 1) rfl) rfl) rfl ?_
        clear hA a; intro a hA
        refine m1 hA hS (Y.move rfl) rfl ?_
        clear hA a; intro a hA
        refine m_call hA Try.call22 rfl rfl ((leaveFn_v who H A n c _ (hP.gr (hS.gr0 (by simp)))).mono ?_)
        rintro e w ⟨A1, n1, c1, rfl, hg1, hP1⟩
        refine ⟨_, rfl, ?_⟩
        clear hA a; intro a hA
        rw [hlv] at hA
        replace hS := hS.gr hg1
        refine m1 hA hS (Y.move rfl) rfl ?_
        clear hA a; intro a hA
        refine m1 hA hS (Y.extract rfl rfl) rfl ?_
        clear hA a; intro a hA
        refine m1 hA hS (Y.extract rfl rfl) rfl ?_
        clear hA a; intro a hA
        refine m_alloc hA hS Try.zeroValue24 rfl ?_
        clear hA hS a; intro a b3 w hA hleb3 hgb3 hS
        refine m_store 0 hA hS rfl rfl Try.sizeOf24 rfl rfl rfl rfl ?_
        clear hS; intro w hS
        refine m1 hA hS (Y.assign rfl) rfl ?_
        clear hA a; intro a hA
        refine m_nil ?_
        refine m_then ?_
        refine m_seq ?_
        refine m_seq ?_
        refine m_region ?_
        refine m1 hA hS (Y.move rfl) rfl ?_
        clear hA a; intro a hA
        refine m1 hA hS (Y.not rfl) rfl ?_
        clear hA a; intro a hA
        refine m_nil ?_
        refine m_then ?_
        refine m_condT hA rfl (rfl) ?_
        refine m_seq ?_
        refine m_region ?_
        refine m1 hA hS (Y.move rfl) rfl ?_
        clear hA a; intro a hA
        refine m1 hA hS (Y.eqI rfl rfl) rfl ?_
        clear hA a; intro a hA
        refine m1 hA hS (Y.assign rfl) rfl ?_
        clear hA a; intro a hA
        refine m_nil ?_
        refine m_then ?_
        refine m_retc ?_
        refine r_then ?_
        refine m_ret1 hA Try.results6 rfl ?_
        exact ⟨ret_bool (by rfl), hS.gr0 (by simp)⟩
      · rw [hof] at hA hY2
        obtain ⟨N, hlv, gN, hofN, hkick, hcase⟩ := leaves_plain g hp hw
        have hsz := g.sz p hp
        have hm2 : p.mem.length = m2 := hY2.mem.len
        have hi2 : p.inv.length = i2 := hY2.inv.len
        refine m1 hA hS (Y.move rfl) rfl ?_
        clear hA a; intro a hA
        refine m1 hA hS (Y.extract rfl rfl) rfl ?_
        clear hA a; intro a hA
        refine m1 hA hS (Y.extract rfl rfl) rfl ?_
        clear hA a; intro a hA
        refine m_alloc hA hS Try.zeroValue37 rfl ?_
        clear hA hS a; intro a b4 w hA hleb4 hgb4 hS
        refine m_store 0 hA hS rfl rfl Try.sizeOf37 rfl rfl rfl rfl ?_
        clear hS; intro w hS
        refine m1 hA hS (Y.assign rfl) rfl ?_
        clear hA a; intro a hA
        refine m_nil ?_
        refine m_then ?_
        refine m_seq ?_
        refine m_region ?_
        refine m1 hA hS (Y.loads rfl Try.isAgg24 Try.sizeOf24 (fun w h => h.cells (i := 1) rfl) rfl) rfl ?_
        clear hA a; intro a hA
        refine m1 hA hS (Y.move rfl) rfl ?_
        clear hA a; intro a hA
        refine m_call hA Try.call22 rfl rfl ((leaveFn_v who H A n c _ (hP.gr (hS.gr0 (by simp)))).mono ?_)
        rintro e w ⟨A1, n1, c1, rfl, hg1, hP1⟩
        refine ⟨_, rfl, ?_⟩
        clear hA a; intro a hA
        rw [hlv] at hA hP1
        obtain ⟨lo1, v1, hP1, hS⟩ := hS.keepP hg1 hP1
        have hn1 : N.ps.length = n1 := hP1.len
        refine m1 hA hS (Y.move rfl) rfl ?_
        clear hA a; intro a hA
        refine m1 hA hS (Y.extract rfl rfl) rfl ?_
        clear hA a; intro a hA
        refine m1 hA hS (Y.extract rfl rfl) rfl ?_
        clear hA a; intro a hA
        refine m_alloc hA hS Try.zeroValue24 rfl ?_
        clear hA hS a; intro a b5 w hA hleb5 hgb5 hS
        refine m_store 0 hA hS rfl rfl Try.sizeOf24 rfl rfl rfl rfl ?_
        clear hS; intro w hS
        refine m1 hA hS (Y.assign rfl) rfl ?_
        clear hA a; intro a hA
        refine m_nil ?_
        refine m_then ?_
        refine m_seq ?_
        refine m_seq ?_
        refine m_region ?_
        refine m1 hA hS (Y.move rfl) rfl ?_
        clear hA a; intro a hA
        refine m1 hA hS (Y.not rfl) rfl ?_
        clear hA a; intro a hA
        refine m_nil ?_
        refine m_then ?_
        refine m_condF hA rfl (rfl) ?_
        refine m_skip ?_
        refine m_then ?_
        refine m_seq ?_
        refine m_seq ?_
        refine m_region ?_
        refine m1 hA hS (Y.loads rfl Try.isAgg24 Try.sizeOf24 (fun w h => h.cells (i := 0) rfl) rfl) rfl ?_
        clear hA a; intro a hA
        refine m1 hA hS (Y.move rfl) rfl ?_
        clear hA a; intro a hA
        refine m_call hA Try.call17 rfl rfl ((of_c who N A1 n1 c1 _ (PtysL.zero (hP1.ov (hS.at (by simp))))).mono ?_)
        rintro e w ⟨M3, m3, mc3, I3, i3, ic3, rfl, hg3, hY3⟩
        refine ⟨_, rfl, ?_⟩
        clear hA a; intro a hA
        rw [hofN] at hA
        replace hS := hS.gr hg3
        refine m1 hA hS (Y.move rfl) rfl ?_
        clear hA a; intro a hA
        refine m1 hA hS (Y.extract rfl rfl) rfl ?_
        clear hA a; intro a hA
        refine m1 hA hS (Y.extract rfl rfl) rfl ?_
        clear hA a; intro a hA
        refine m_alloc hA hS Try.zeroValue37 rfl ?_
        clear hA hS a; intro a b6 w hA hleb6 hgb6 hS
        refine m_store 0 hA hS rfl rfl Try.sizeOf37 rfl rfl rfl rfl ?_
        clear hS; intro w hS
        refine m1 hA hS (Y.assign rfl) rfl ?_
        clear hA a; intro a hA
        refine m_nil ?_
        refine m_then ?_
        refine m_seq ?_
        refine m_region ?_
        refine m1 hA hS (Y.move rfl) rfl ?_
        clear hA a; intro a hA
        refine m1 hA hS (Y.neI rfl rfl) rfl ?_
        clear hA a; intro a hA
        refine m1 hA hS (Y.move rfl) rfl ?_
        clear hA a; intro a hA
        replace hA := hA.keep [51, 10, 7, 5, 4, 2, 1] rfl
        apply m_or 2 53 51 hA hS rfl
        · intro hp2
          refine m1s hA (dj := 51) rfl rfl rfl hp2 rfl ?_
          intro a hA
          refine m1 hA hS (Y.pickT' rfl hp2 rfl) rfl ?_
          clear hA a; intro a hA
          exact m_nil (m_then ⟨hA.keep [53, 51, 10, 7, 5, 4, 2, 1] rfl, hS⟩)
        · intro hp2
          refine m1g hA hS (dj := 51) rfl rfl rfl hp2 (Y.move rfl) rfl ?_
          intro a hA
          refine m1 hA hS (Y.pickF' rfl hp2 rfl) rfl ?_
          clear hA a; intro a hA
          exact m_nil (m_then ⟨hA.keep [53, 51, 10, 7, 5, 4, 2, 1] rfl, hS⟩)
        · clear hA hS a; intro a w hA hS
          refine m_nil ?_
          refine m_then ?_
          refine m_condF hA rfl (rfl) ?_
          refine m_skip ?_
          refine m_then ?_
          refine m_seq ?_
          refine m_region ?_
          refine m1 hA hS (Y.loads rfl Try.isAgg24 Try.sizeOf24 (fun w h => h.cells (i := 1) rfl) rfl) rfl ?_
          clear hA a; intro a hA
          refine m1 hA hS (Y.fieldAddr (k := 0) rfl Try.underlying37 rfl rfl Try.sizeOf3) rfl ?_
          clear hA a; intro a hA
          refine m1 hA hS (Y.load rfl Try.isAgg3 (fun w h => h.cell (i := 2) rfl rfl)) rfl ?_
          clear hA a; intro a hA
          refine m_call hA Try.call18 rfl rfl ((find2_c p.id N A1 n1 c1 lo1 v1 _ hP1 (hS.at (by simp))).mono ?_)
          rintro e w ⟨M4, m4, mc4, I4, i4, ic4, rfl, hg4, hY4⟩
          refine ⟨_, rfl, ?_⟩
          clear hA a; intro a hA
          replace hS := hS.gr hg4
          rcases hcase with ⟨h1, hfd, hlen⟩ | ⟨h1, m, ms, q, hfl, hfd, hq1, hq2, hq3⟩
          · rw [hfd] at hA
            refine m1 hA hS (Y.move rfl) rfl ?_
            clear hA a; intro a hA
            refine m1 hA hS (Y.extract rfl rfl) rfl ?_
            clear hA a; intro a hA
            refine m1 hA hS (Y.extract rfl rfl) rfl ?_
            clear hA a; intro a hA
            refine m_alloc hA hS Try.zeroValue37 rfl ?_
            clear hA hS a; intro a b7 w hA hleb7 hgb7 hS
            refine m_store 0 hA hS rfl rfl Try.sizeOf37 rfl rfl rfl rfl ?_
            clear hS; intro w hS
            refine m1 hA hS (Y.assign rfl) rfl ?_
            clear hA a; intro a hA
            refine m_nil ?_
            refine m_then ?_
            refine m_seq ?_
            refine m_seq ?_
            refine m_region ?_
            refine m1 hA hS (Y.fieldAddr (k := 2) rfl Try.underlying37 rfl rfl Try.sizeOf34) rfl ?_
            clear hA a; intro a hA
            refine m1 hA hS (Y.load rfl Try.isAgg34 (fun w h => h.cell (i := 3) rfl rfl)) rfl ?_
            clear hA a; intro a hA
            refine m1 hA hS (Y.lenSl rfl Try.underlying34) rfl ?_
            clear hA a; intro a hA
            refine m1 hA hS (Y.eqI rfl rfl) rfl ?_
            clear hA a; intro a hA
            refine m_nil ?_
            refine m_then ?_
            refine m_condT hA rfl (decide_eq_true (by omega)) ?_
            refine m_seq ?_
            refine m_region ?_
            refine m1 hA hS (Y.move rfl) rfl ?_
            clear hA a; intro a hA
            refine m1 hA hS (Y.not rfl) rfl ?_
            clear hA a; intro a hA
            refine m1 hA hS (Y.move rfl) rfl ?_
            clear hA a; intro a hA
            replace hA := hA.keep [67, 12, 11, 7, 5, 4, 2, 1] rfl
            apply m_and 9 76 67 hA hS rfl
            · intro hp3
              refine m1s hA (dj := 67) rfl rfl rfl hp3 rfl ?_
              intro a hA
              refine m1s hA (dj := 67) rfl rfl rfl hp3 rfl ?_
              clear hA a; intro a hA
              refine m1s hA (dj := 67) rfl rfl rfl hp3 rfl ?_
              clear hA a; intro a hA
              refine m1s hA (dj := 67) rfl rfl rfl hp3 rfl ?_
              clear hA a; intro a hA
              refine m1s hA (dj := 67) rfl rfl rfl hp3 rfl ?_
              clear hA a; intro a hA
              refine m1s hA (dj := 67) rfl rfl rfl hp3 rfl ?_
              clear hA a; intro a hA
              refine m1s hA (dj := 67) rfl rfl rfl hp3 rfl ?_
              clear hA a; intro a hA
              refine m1s hA (dj := 67) rfl rfl rfl hp3 rfl ?_
              clear hA a; intro a hA
              refine m1 hA hS (Y.pickF' rfl hp3 rfl) rfl ?_
              clear hA a; intro a hA
              exact m_nil (m_then ⟨hA.keep [76, 67, 12, 11, 7, 5, 4, 2, 1] rfl, hS⟩)
            · intro hp3
              refine m1g hA hS (dj := 67) rfl rfl rfl hp3 (Y.fieldAddr (k := 2) rfl Try.underlying24 rfl rfl Try.sizeOf22) rfl ?_
              intro a hA
              refine m1g hA hS (dj := 67) rfl rfl rfl hp3 (Y.load rfl Try.isAgg22 (fun w h => h.cell (i := 2) rfl rfl)) rfl ?_
              clear hA a; intro a hA
              refine m1g hA hS (dj := 67) rfl rfl rfl hp3 (Y.lenSl rfl Try.underlying22) rfl ?_
              clear hA a; intro a hA
              refine m1g hA hS (dj := 67) rfl rfl rfl hp3 (Y.fieldAddr (k := 2) rfl Try.underlying24 rfl rfl Try.sizeOf22) rfl ?_
              clear hA a; intro a hA
              refine m1g hA hS (dj := 67) rfl rfl rfl hp3 (Y.load rfl Try.isAgg22 (fun w h => h.cell (i := 4) rfl rfl)) rfl ?_
              clear hA a; intro a hA
              refine m1g hA hS (dj := 67) rfl rfl rfl hp3 (Y.lenSl rfl Try.underlying22) rfl ?_
              clear hA a; intro a hA
              refine m1g hA hS (dj := 67) rfl rfl rfl hp3 (Y.subI rfl rfl (by omega)) rfl ?_
              clear hA a; intro a hA
              refine m1g hA hS (dj := 67) rfl rfl rfl hp3 (Y.eqI rfl rfl) rfl ?_
              clear hA a; intro a hA
              refine m1 hA hS (Y.pickT' rfl hp3 rfl) rfl ?_
              clear hA a; intro a hA
              exact m_nil (m_then ⟨hA.keep [76, 67, 12, 11, 7, 5, 4, 2, 1] rfl, hS⟩)
            · clear hA hS a; intro a w hA hS
              refine m1 hA hS (Y.assign rfl) rfl ?_
              clear hA a; intro a hA
              refine m_nil ?_
              refine m_then ?_
              refine m_retc ?_
              refine r_then ?_
              refine m_ret1 hA Try.results6 rfl ?_
              exact ⟨ret_bool (by simp; omega), hS.gr0 (by simp)⟩
          · rw [hfd] at hA hY4
            have hm4 : q.mem.length = m4 := hY4.mem.len
            have hi4 : q.inv.length = i4 := hY4.inv.len
            refine m1 hA hS (Y.move rfl) rfl ?_
            clear hA a; intro a hA
            refine m1 hA hS (Y.extract rfl rfl) rfl ?_
            clear hA a; intro a hA
            refine m1 hA hS (Y.extract rfl rfl) rfl ?_
            clear hA a; intro a hA
            refine m_alloc hA hS Try.zeroValue37 rfl ?_
            clear hA hS a; intro a b8 w hA hleb8 hgb8 hS
            refine m_store 0 hA hS rfl rfl Try.sizeOf37 rfl rfl rfl rfl ?_
            clear hS; intro w hS
            refine m1 hA hS (Y.assign rfl) rfl ?_
            clear hA a; intro a hA
            refine m_nil ?_
            refine m_then ?_
            refine m_seq ?_
            refine m_seq ?_
            refine m_region ?_
            refine m1 hA hS (Y.fieldAddr (k := 2) rfl Try.underlying37 rfl rfl Try.sizeOf34) rfl ?_
            clear hA a; intro a hA
            refine m1 hA hS (Y.load rfl Try.isAgg34 (fun w h => h.cell (i := 3) rfl rfl)) rfl ?_
            clear hA a; intro a hA
            refine m1 hA hS (Y.lenSl rfl Try.underlying34) rfl ?_
            clear hA a; intro a hA
            refine m1 hA hS (Y.eqI rfl rfl) rfl ?_
            clear hA a; intro a hA
            refine m_nil ?_
            refine m_then ?_
            refine m_condF hA rfl (decide_eq_false (by omega)) ?_
            refine m_skip ?_
            refine m_then ?_
            refine m_seq ?_
            refine m_region ?_
            refine m1 hA hS (Y.assign rfl) rfl ?_
            clear hA a; intro a hA
            refine m_nil ?_
            refine m_then ?_
            refine m_seq ?_
            refine m_seq ?_
            refine m_region ?_
            refine m1 hA hS (Y.assign rfl) rfl ?_
            clear hA a; intro a hA
            refine m_nil ?_
            refine m_then ?_
            refine m_block ?_
            refine m_loopX [12, 11, 7, 5, 4, 2, 1] rfl hA (((0 : Nat), Value.slice none 0 0, ([] : List Bx))) (fun x => [(13, x.2.1), (14, .int .i64 (x.1 : Int))]) (fun x => [cB b8 [.int .i64 q.id, .int .i64 q.leader, .slice M4 m4 mc4, .slice I4 i4 ic4] 37, cB b6 [.int .i64 noPty.id, .int .i64 noPty.leader, .slice M3 m3 mc3, .slice I3 i3 ic3] 37, cB b5 [.int .i64 N.tick, .int .i64 N.last, .slice A1 n1 c1] 24, cB b4 [.int .i64 p.id, .int .i64 p.leader, .slice M2 m2 mc2, .slice I2 i2 ic2] 37, cB b1 [.int .i64 H.tick, .int .i64 H.last, .slice A n c] 24] ++ x.2.2) (fun _ => _) (fun x => x.1 ≤ m2 ∧ IntsB x.2.1 ((p.mem.take x.1).filter fun m => !decide (m = who)) x.2.2) (fun x => m2 - x.1) (ks := [13, 14]) rfl hS (⟨Nat.zero_le _, RowB.nil _ _⟩) ?_
            clear hA hS a; rintro ⟨j, wv, bs⟩ a w hA hS hj
            try dsimp only at hA
            try dsimp only at hS
            try dsimp only at hj
            obtain ⟨hj, hwv⟩ := hj
            replace hA := hA.keep [13, 14, 12, 11, 7, 5, 4, 2, 1] rfl
            refine m_seq ?_
            refine m_seq ?_
            refine m_region ?_
            refine m1 hA hS (Y.move rfl) rfl ?_
            clear hA a; intro a hA
            refine m1 hA hS (Y.fieldAddr (k := 2) rfl Try.underlying37 rfl rfl Try.sizeOf34) rfl ?_
            clear hA a; intro a hA
            refine m1 hA hS (Y.load rfl Try.isAgg34 (fun w h => h.cell (i := 3) rfl rfl)) rfl ?_
            clear hA a; intro a hA
            refine m1 hA hS (Y.lenSl rfl Try.underlying34) rfl ?_
            clear hA a; intro a hA
            refine m1 hA hS (Y.ltI rfl rfl) rfl ?_
            clear hA a; intro a hA
            refine m_nil ?_
            refine m_then ?_
            refine m_condP hA rfl (fun hlt => ?_) (fun hlt => ?_)
            · obtain ⟨bb, o, x, rfl, hlo, hx, p0⟩ := IntsL.atL hY2.mem (j := j) (by omega)
              have hv2 : (lo2, v2) ∈ [(lo1, v1), (lo2, v2), (0, w0)] := by simp
              have htk : (p.mem.take (j + 1)).filter (fun m => !decide (m = who)) = (p.mem.take j).filter (fun m => !decide (m = who)) ++ if x ≠ who then [x] else [] := by
                rw [take_at hx, List.filter_append]
                congr 1
                by_cases h : x = who <;> simp [h]
              have hjl : ((p.mem.take j).filter fun m => !decide (m = who)).length ≤ 5 := by
                have := List.length_filter_le (fun m => !decide (m = who)) (p.mem.take j)
                rw [List.length_take] at this
                omega
              refine m_skip ?_
              refine m_then ?_
              refine m_seq ?_
              refine m_block ?_
              refine m_seq ?_
              refine m_region ?_
              refine m1 hA hS (Y.fieldAddr (k := 2) rfl Try.underlying37 rfl rfl Try.sizeOf34) rfl ?_
              clear hA a; intro a hA
              refine m1 hA hS (Y.load rfl Try.isAgg34 (fun w h => h.cell (i := 3) rfl rfl)) rfl ?_
              clear hA a; intro a hA
              refine m1 hA hS (Y.move rfl) rfl ?_
              clear hA a; intro a hA
              refine m1 hA hS (Y.indexAddrN rfl rfl Try.underlying34 Try.sizeOf3 (by omega)) rfl ?_
              clear hA a; intro a hA
              refine m1 hA hS (Y.load rfl Try.isAgg3 (fun w h => h.rd hv2 hlo (p0))) rfl ?_
              clear hA a; intro a hA
              refine m1 hA hS (Y.move rfl) rfl ?_
              clear hA a; intro a hA
              refine m1 hA hS (Y.neI rfl rfl) rfl ?_
              clear hA a; intro a hA
              refine m_nil ?_
              refine m_then ?_
              refine m_condP hA rfl (fun hne => ?_) (fun hne => ?_)
              · refine m_region ?_
                refine m1 hA hS (Y.move rfl) rfl ?_
                clear hA a; intro a hA
                refine m1 hA hS (Y.fieldAddr (k := 2) rfl Try.underlying37 rfl rfl Try.sizeOf34) rfl ?_
                clear hA a; intro a hA
                refine m1 hA hS (Y.load rfl Try.isAgg34 (fun w h => h.cell (i := 3) rfl rfl)) rfl ?_
                clear hA a; intro a hA
                refine m1 hA hS (Y.move rfl) rfl ?_
                clear hA a; intro a hA
                refine m1 hA hS (Y.indexAddrN rfl rfl Try.underlying34 Try.sizeOf3 (by omega)) rfl ?_
                clear hA a; intro a hA
                refine m1 hA hS (Y.load rfl Try.isAgg3 (fun w h => h.rd hv2 hlo (p0))) rfl ?_
                clear hA a; intro a hA
                refine m_buildSlice ([.int .i64 x]) hA hS rfl rfl (bs_int x) ?_
                clear hA hS a; intro a b9 w hA hgb9 hS
                have hSp : St w (bs ++ ([cB b9 [.int .i64 x] 3, cB b8 [.int .i64 q.id, .int .i64 q.leader, .slice M4 m4 mc4, .slice I4 i4 ic4] 37, cB b6 [.int .i64 noPty.id, .int .i64 noPty.leader, .slice M3 m3 mc3, .slice I3 i3 ic3] 37, cB b5 [.int .i64 N.tick, .int .i64 N.last, .slice A1 n1 c1] 24, cB b4 [.int .i64 p.id, .int .i64 p.leader, .slice (some ⟨bb, o, none⟩) m2 mc2, .slice I2 i2 ic2] 37, cB b1 [.int .i64 H.tick, .int .i64 H.last, .slice A n c] 24])) [(lo1, v1), (lo2, v2), (0, w0)] :=
                  St.perm hS (List.perm_append_comm (l₁ := [_, _, _, _, _, _]) (l₂ := bs))
                refine m_append (bs := bs) 3 8 [.int .i64 x] elemInt hA hSp hwv rfl rfl rfl Try.underlying34 rfl (hS.cells (i := 0) rfl) (List.all_eq_true.1 rfl) (by omega) (by decide) ?_
                clear hA hS hSp a; intro a w wv' bs' hA hwv' hnv hS
                replace hS : St w ([cB b8 [.int .i64 q.id, .int .i64 q.leader, .slice M4 m4 mc4, .slice I4 i4 ic4] 37, cB b6 [.int .i64 noPty.id, .int .i64 noPty.leader, .slice M3 m3 mc3, .slice I3 i3 ic3] 37, cB b5 [.int .i64 N.tick, .int .i64 N.last, .slice A1 n1 c1] 24, cB b4 [.int .i64 p.id, .int .i64 p.leader, .slice (some ⟨bb, o, none⟩) m2 mc2, .slice I2 i2 ic2] 37, cB b1 [.int .i64 H.tick, .int .i64 H.last, .slice A n c] 24] ++ bs') [(lo1, v1), (lo2, v2), (0, w0)] :=
                  (hS.perm (List.perm_append_comm (l₂ := [_, _, _, _, _, _]))).gone
                refine m1 hA hS (Y.assign rfl) rfl ?_
                clear hA a; intro a hA
                refine m_nil ?_
                refine n_block ?_
                refine m_then ?_
                refine m_region ?_
                refine m1 hA hS (Y.move rfl) rfl ?_
                clear hA a; intro a hA
                refine m1 hA hS (Y.addI rfl rfl (by omega)) rfl ?_
                clear hA a; intro a hA
                refine m1 hA hS (Y.assign rfl) rfl ?_
                clear hA a; intro a hA
                refine m_nil ?_
                have hwv2 : IntsB wv' ((p.mem.take (j + 1)).filter fun m => !decide (m = who)) bs' := by
                  rw [htk, if_pos hne]
                  unfold IntsB
                  rw [List.length_append, List.map_append]
                  exact hwv'
                exact m_then ⟨(j + 1, wv', bs'), by (try dsimp only); omega, hA.keep [13, 14, 12, 11, 7, 5, 4, 2, 1] rfl, hS, by (try dsimp only); exact ⟨by omega, hwv2⟩⟩
              · rw [if_neg hne, List.append_nil] at htk
                refine m_skip ?_
                refine n_block ?_
                refine m_then ?_
                refine m_region ?_
                refine m1 hA hS (Y.move rfl) rfl ?_
                clear hA a; intro a hA
                refine m1 hA hS (Y.addI rfl rfl (by omega)) rfl ?_
                clear hA a; intro a hA
                refine m1 hA hS (Y.assign rfl) rfl ?_
                clear hA a; intro a hA
                refine m_nil ?_
                exact m_then ⟨(j + 1, wv, bs), by (try dsimp only); omega, hA.keep [13, 14, 12, 11, 7, 5, 4, 2, 1] rfl, hS, by (try dsimp only); exact ⟨by omega, by rw [htk]; exact hwv⟩⟩
            · have hjm : j = p.mem.length := by omega
              rw [hjm, List.take_length, hfl] at hwv
              have hml : (m :: ms).length ≤ 5 := by
                rw [← hfl]
                have := List.length_filter_le (fun m => !decide (m = who)) p.mem
                omega
              obtain ⟨Aw, cw, rfl⟩ := hwv.shape
              obtain ⟨_, hw2⟩ := hwv
              have hwv : IntsB (.slice Aw (m :: ms).length cw) (m :: ms) bs := ⟨by simp, hw2⟩
              rcases hw2 with ⟨_, h0, _⟩ | ⟨gw, capw, cur, e1, e2, h3, h4, h5, h6⟩
              · simp at h0
              cases e1
              subst e2
              have hc0 : cur[0]? = some (.int .i64 m) := by
                have : (cur.take ((m :: ms).length * 1))[0]? = some (.int .i64 m) := by rw [h6]; rfl
                rw [List.getElem?_take] at this
                split at this
                · exact this
                · cases this
              have e3 : (!decide (q.mem = m :: ms)) = false := by rw [hq1]; simp
              by_cases hld : p.leader = who
              · have hqm : decide (q.leader ≠ m) = false := by rw [hq3, if_pos hld]; simp
                refine m_exit ?_
                refine x_then ?_
                refine x_then ?_
                refine x_block ?_
                refine m_then ?_
                refine m_seq ?_
                refine m_seq ?_
                refine q_region hS rfl (by kernel_rfl) ?_
                refine q1 hA (Y.move rfl) rfl ?_
                clear hA a; intro a hA
                refine q1 hA (Y.not rfl) rfl ?_
                clear hA a; intro a hA
                refine q1 hA (Y.move rfl) rfl ?_
                clear hA a; intro a hA
                refine q1g hA (dj := 101) rfl rfl rfl rfl (Y.fieldAddr (k := 2) rfl Try.underlying37 rfl rfl Try.sizeOf34) rfl ?_
                clear hA a; intro a hA
                refine q1g hA (dj := 101) rfl rfl rfl rfl (Y.load rfl Try.isAgg34 (fun w h => h.cell (i := 0) rfl rfl)) rfl ?_
                clear hA a; intro a hA
                refine q1g hA (dj := 101) rfl rfl rfl rfl (Y.move rfl) rfl ?_
                clear hA a; intro a hA
                refine q_callg (dj := 101) _ hA rfl rfl rfl rfl Try.call19 rfl rfl (fun w hS => sameInts_c _ _ _ q.mem _ _ _ (m :: ms) _ (IntsL.zero (hY4.mem.ov (hS.at (by simp)))) (hwv.in hS (List.sublist_append_right [_, _, _, _, _] _) (by omega))) ?_
                clear hA a; intro a hA
                refine q1g hA (dj := 101) rfl rfl rfl rfl (Y.not rfl) rfl ?_
                clear hA a; intro a hA
                refine q1 hA (Y.pickF' rfl rfl rfl) rfl ?_
                clear hA a; intro a hA
                refine q1 hA (Y.move rfl) rfl ?_
                clear hA a; intro a hA
                refine q1g hA (dj := 108) rfl rfl rfl e3 (Y.fieldAddr (k := 1) rfl Try.underlying37 rfl rfl Try.sizeOf3) rfl ?_
                clear hA a; intro a hA
                refine q1g hA (dj := 108) rfl rfl rfl e3 (Y.load rfl Try.isAgg3 (fun w h => h.cell (i := 3) rfl rfl)) rfl ?_
                clear hA a; intro a hA
                refine q1g hA (dj := 108) rfl rfl rfl e3 (Y.move rfl) rfl ?_
                clear hA a; intro a hA
                refine q1g hA (dj := 108) rfl rfl rfl e3 (Y.neI rfl rfl) rfl ?_
                clear hA a; intro a hA
                refine q1g hA (dj := 108) rfl rfl rfl e3 (Y.move rfl) rfl ?_
                clear hA a; intro a hA
                refine q1s hA (dj := 113) rfl rfl rfl (decide_eq_false (by simpa using hld)) rfl ?_
                clear hA a; intro a hA
                refine q1s hA (dj := 113) rfl rfl rfl (decide_eq_false (by simpa using hld)) rfl ?_
                clear hA a; intro a hA
                refine q1s hA (dj := 113) rfl rfl rfl (decide_eq_false (by simpa using hld)) rfl ?_
                clear hA a; intro a hA
                refine q1s hA (dj := 113) rfl rfl rfl (decide_eq_false (by simpa using hld)) rfl ?_
                clear hA a; intro a hA
                refine q1s hA (dj := 113) rfl rfl rfl (decide_eq_false (by simpa using hld)) rfl ?_
                clear hA a; intro a hA
                refine q1g hA (dj := 108) rfl rfl rfl e3 (Y.pickF' rfl (decide_eq_false (by simpa using hld)) rfl) rfl ?_
                clear hA a; intro a hA
                refine q1 hA (Y.pickF' rfl e3 rfl) rfl ?_
                clear hA a; intro a hA
                refine q1 hA (Y.move rfl) rfl ?_
                clear hA a; intro a hA
                refine q1g hA (dj := 121) rfl rfl rfl rfl (Y.fieldAddr (k := 1) rfl Try.underlying37 rfl rfl Try.sizeOf3) rfl ?_
                clear hA a; intro a hA
                refine q1g hA (dj := 121) rfl rfl rfl rfl (Y.load rfl Try.isAgg3 (fun w h => h.cell (i := 3) rfl rfl)) rfl ?_
                clear hA a; intro a hA
                refine q1g hA (dj := 121) rfl rfl rfl rfl (Y.move rfl) rfl ?_
                clear hA a; intro a hA
                refine q1g hA (dj := 121) rfl rfl rfl rfl (Y.eqI rfl rfl) rfl ?_
                clear hA a; intro a hA
                refine q1g hA (dj := 121) rfl rfl rfl rfl (Y.move rfl) rfl ?_
                clear hA a; intro a hA
                refine q1g hA (dj := 126) rfl rfl rfl (decide_eq_true hld) (Y.fieldAddr (k := 1) rfl Try.underlying37 rfl rfl Try.sizeOf3) rfl ?_
                clear hA a; intro a hA
                refine q1g hA (dj := 126) rfl rfl rfl (decide_eq_true hld) (Y.load rfl Try.isAgg3 (fun w h => h.cell (i := 0) rfl rfl)) rfl ?_
                clear hA a; intro a hA
                refine q1g hA (dj := 126) rfl rfl rfl (decide_eq_true hld) (Y.move rfl) rfl ?_
                clear hA a; intro a hA
                refine q1g hA (dj := 126) rfl rfl rfl (decide_eq_true hld) (Y.indexAddr rfl rfl Try.underlying34 Try.sizeOf3 (by omega) (by simp)) rfl ?_
                clear hA a; intro a hA
                refine q1g hA (dj := 126) rfl rfl rfl (decide_eq_true hld) (Y.load rfl Try.isAgg3 (fun w h => h.cell (i := 5) rfl hc0)) rfl ?_
                clear hA a; intro a hA
                refine q1g hA (dj := 126) rfl rfl rfl (decide_eq_true hld) (Y.neI rfl rfl) rfl ?_
                clear hA a; intro a hA
                refine q1g hA (dj := 121) rfl rfl rfl rfl (Y.pickT' rfl (decide_eq_true hld) rfl) rfl ?_
                clear hA a; intro a hA
                refine q1 hA (Y.pickF' rfl rfl rfl) rfl ?_
                clear hA a; intro a hA
                refine q1 hA (Y.move rfl) rfl ?_
                clear hA a; intro a hA
                refine q1g hA (dj := 135) rfl rfl rfl hqm (Y.fieldAddr (k := 3) rfl Try.underlying37 rfl rfl Try.sizeOf35) rfl ?_
                clear hA a; intro a hA
                refine q1g hA (dj := 135) rfl rfl rfl hqm (Y.load rfl Try.isAgg35 (fun w h => h.cell (i := 0) rfl rfl)) rfl ?_
                clear hA a; intro a hA
                refine q1g hA (dj := 135) rfl rfl rfl hqm (Y.lenSl rfl Try.underlying35) rfl ?_
                clear hA a; intro a hA
                refine q1g hA (dj := 135) rfl rfl rfl hqm (Y.fieldAddr (k := 3) rfl Try.underlying37 rfl rfl Try.sizeOf35) rfl ?_
                clear hA a; intro a hA
                refine q1g hA (dj := 135) rfl rfl rfl hqm (Y.load rfl Try.isAgg35 (fun w h => h.cell (i := 3) rfl rfl)) rfl ?_
                clear hA a; intro a hA
                refine q1g hA (dj := 135) rfl rfl rfl hqm (Y.lenSl rfl Try.underlying35) rfl ?_
                clear hA a; intro a hA
                refine q1g hA (dj := 135) rfl rfl rfl hqm (Y.neI rfl rfl) rfl ?_
                clear hA a; intro a hA
                refine q1 hA (Y.pickF' rfl hqm rfl) rfl ?_
                clear hA a; intro a hA
                refine q_nil ?_
                clear hS; intro w hS
                refine m_then ?_
                refine m_condF hA rfl (decide_eq_false (by rw [hq2] at hi4; omega)) ?_
                refine m_skip ?_
                refine m_then ?_
                refine m_seq ?_
                refine m_region ?_
                refine m1 hA hS (Y.loads rfl Try.isAgg24 Try.sizeOf24 (fun w h => h.cells (i := 4) rfl) rfl) rfl ?_
                clear hA a; intro a hA
                refine m1 hA hS (Y.fieldAddr (k := 1) rfl Try.underlying37 rfl rfl Try.sizeOf3) rfl ?_
                clear hA a; intro a hA
                refine m1 hA hS (Y.load rfl Try.isAgg3 (fun w h => h.cell (i := 3) rfl rfl)) rfl ?_
                clear hA a; intro a hA
                refine m1 hA hS (Y.move rfl) rfl ?_
                clear hA a; intro a hA
                refine m_call hA Try.call23 rfl rfl ((kick_v p.leader who H A n c _ (hP.gr (hS.gr0 (by simp)))).mono ?_)
                rintro e w ⟨A5, n5, c5, rfl, hg5, hP5⟩
                refine ⟨_, rfl, ?_⟩
                clear hA a; intro a hA
                rw [hkick, if_pos hld] at hA
                replace hS := hS.gr hg5
                refine m1 hA hS (Y.move rfl) rfl ?_
                clear hA a; intro a hA
                refine m1 hA hS (Y.extract rfl rfl) rfl ?_
                clear hA a; intro a hA
                refine m1 hA hS (Y.extract rfl rfl) rfl ?_
                clear hA a; intro a hA
                refine m_alloc hA hS Try.zeroValue24 rfl ?_
                clear hA hS a; intro a b10 w hA hleb10 hgb10 hS
                refine m_store 0 hA hS rfl rfl Try.sizeOf24 rfl rfl rfl rfl ?_
                clear hS; intro w hS
                refine m1 hA hS (Y.assign rfl) rfl ?_
                clear hA a; intro a hA
                refine m_nil ?_
                refine m_then ?_
                refine m_seq ?_
                refine m_seq ?_
                refine m_region ?_
                refine m1 hA hS (Y.fieldAddr (k := 1) rfl Try.underlying37 rfl rfl Try.sizeOf3) rfl ?_
                clear hA a; intro a hA
                refine m1 hA hS (Y.load rfl Try.isAgg3 (fun w h => h.cell (i := 4) rfl rfl)) rfl ?_
                clear hA a; intro a hA
                refine m1 hA hS (Y.move rfl) rfl ?_
                clear hA a; intro a hA
                refine m1 hA hS (Y.eqI rfl rfl) rfl ?_
                clear hA a; intro a hA
                refine m_nil ?_
                refine m_then ?_
                refine m_condT hA rfl (decide_eq_true hld) ?_
                refine m_seq ?_
                refine m_region ?_
                refine m1 hA hS (Y.move rfl) rfl ?_
                clear hA a; intro a hA
                refine m1 hA hS (Y.eqI rfl rfl) rfl ?_
                clear hA a; intro a hA
                refine m1 hA hS (Y.assign rfl) rfl ?_
                clear hA a; intro a hA
                refine m_nil ?_
                refine m_then ?_
                refine m_retc ?_
                refine r_then ?_
                refine m_ret1 hA Try.results6 rfl ?_
                exact ⟨ret_bool (by rfl), hS.gr0 (by simp)⟩
              · have hqm : decide (q.leader ≠ p.leader) = false := by rw [hq3, if_neg hld]; simp
                refine m_exit ?_
                refine x_then ?_
                refine x_then ?_
                refine x_block ?_
                refine m_then ?_
                refine m_seq ?_
                refine m_seq ?_
                refine q_region hS rfl (by kernel_rfl) ?_
                refine q1 hA (Y.move rfl) rfl ?_
                clear hA a; intro a hA
                refine q1 hA (Y.not rfl) rfl ?_
                clear hA a; intro a hA
                refine q1 hA (Y.move rfl) rfl ?_
                clear hA a; intro a hA
                refine q1g hA (dj := 101) rfl rfl rfl rfl (Y.fieldAddr (k := 2) rfl Try.underlying37 rfl rfl Try.sizeOf34) rfl ?_
                clear hA a; intro a hA
                refine q1g hA (dj := 101) rfl rfl rfl rfl (Y.load rfl Try.isAgg34 (fun w h => h.cell (i := 0) rfl rfl)) rfl ?_
                clear hA a; intro a hA
                refine q1g hA (dj := 101) rfl rfl rfl rfl (Y.move rfl) rfl ?_
                clear hA a; intro a hA
                refine q_callg (dj := 101) _ hA rfl rfl rfl rfl Try.call19 rfl rfl (fun w hS => sameInts_c _ _ _ q.mem _ _ _ (m :: ms) _ (IntsL.zero (hY4.mem.ov (hS.at (by simp)))) (hwv.in hS (List.sublist_append_right [_, _, _, _, _] _) (by omega))) ?_
                clear hA a; intro a hA
                refine q1g hA (dj := 101) rfl rfl rfl rfl (Y.not rfl) rfl ?_
                clear hA a; intro a hA
                refine q1 hA (Y.pickF' rfl rfl rfl) rfl ?_
                clear hA a; intro a hA
                refine q1 hA (Y.move rfl) rfl ?_
                clear hA a; intro a hA
                refine q1g hA (dj := 108) rfl rfl rfl e3 (Y.fieldAddr (k := 1) rfl Try.underlying37 rfl rfl Try.sizeOf3) rfl ?_
                clear hA a; intro a hA
                refine q1g hA (dj := 108) rfl rfl rfl e3 (Y.load rfl Try.isAgg3 (fun w h => h.cell (i := 3) rfl rfl)) rfl ?_
                clear hA a; intro a hA
                refine q1g hA (dj := 108) rfl rfl rfl e3 (Y.move rfl) rfl ?_
                clear hA a; intro a hA
                refine q1g hA (dj := 108) rfl rfl rfl e3 (Y.neI rfl rfl) rfl ?_
                clear hA a; intro a hA
                refine q1g hA (dj := 108) rfl rfl rfl e3 (Y.move rfl) rfl ?_
                clear hA a; intro a hA
                refine q1g hA (dj := 113) rfl rfl rfl (decide_eq_true hld) (Y.fieldAddr (k := 1) rfl Try.underlying37 rfl rfl Try.sizeOf3) rfl ?_
                clear hA a; intro a hA
                refine q1g hA (dj := 113) rfl rfl rfl (decide_eq_true hld) (Y.load rfl Try.isAgg3 (fun w h => h.cell (i := 0) rfl rfl)) rfl ?_
                clear hA a; intro a hA
                refine q1g hA (dj := 113) rfl rfl rfl (decide_eq_true hld) (Y.fieldAddr (k := 1) rfl Try.underlying37 rfl rfl Try.sizeOf3) rfl ?_
                clear hA a; intro a hA
                refine q1g hA (dj := 113) rfl rfl rfl (decide_eq_true hld) (Y.load rfl Try.isAgg3 (fun w h => h.cell (i := 3) rfl rfl)) rfl ?_
                clear hA a; intro a hA
                refine q1g hA (dj := 113) rfl rfl rfl (decide_eq_true hld) (Y.neI rfl rfl) rfl ?_
                clear hA a; intro a hA
                refine q1g hA (dj := 108) rfl rfl rfl e3 (Y.pickT' rfl (decide_eq_true hld) rfl) rfl ?_
                clear hA a; intro a hA
                refine q1 hA (Y.pickF' rfl e3 rfl) rfl ?_
                clear hA a; intro a hA
                refine q1 hA (Y.move rfl) rfl ?_
                clear hA a; intro a hA
                refine q1g hA (dj := 121) rfl rfl rfl hqm (Y.fieldAddr (k := 1) rfl Try.underlying37 rfl rfl Try.sizeOf3) rfl ?_
                clear hA a; intro a hA
                refine q1g hA (dj := 121) rfl rfl rfl hqm (Y.load rfl Try.isAgg3 (fun w h => h.cell (i := 3) rfl rfl)) rfl ?_
                clear hA a; intro a hA
                refine q1g hA (dj := 121) rfl rfl rfl hqm (Y.move rfl) rfl ?_
                clear hA a; intro a hA
                refine q1g hA (dj := 121) rfl rfl rfl hqm (Y.eqI rfl rfl) rfl ?_
                clear hA a; intro a hA
                refine q1g hA (dj := 121) rfl rfl rfl hqm (Y.move rfl) rfl ?_
                clear hA a; intro a hA
                refine q1s hA (dj := 126) rfl rfl rfl (decide_eq_false hld) rfl ?_
                clear hA a; intro a hA
                refine q1s hA (dj := 126) rfl rfl rfl (decide_eq_false hld) rfl ?_
                clear hA a; intro a hA
                refine q1s hA (dj := 126) rfl rfl rfl (decide_eq_false hld) rfl ?_
                clear hA a; intro a hA
                refine q1s hA (dj := 126) rfl rfl rfl (decide_eq_false hld) rfl ?_
                clear hA a; intro a hA
                refine q1s hA (dj := 126) rfl rfl rfl (decide_eq_false hld) rfl ?_
                clear hA a; intro a hA
                refine q1s hA (dj := 126) rfl rfl rfl (decide_eq_false hld) rfl ?_
                clear hA a; intro a hA
                refine q1g hA (dj := 121) rfl rfl rfl hqm (Y.pickF' rfl (decide_eq_false hld) rfl) rfl ?_
                clear hA a; intro a hA
                refine q1 hA (Y.pickF' rfl hqm rfl) rfl ?_
                clear hA a; intro a hA
                refine q1 hA (Y.move rfl) rfl ?_
                clear hA a; intro a hA
                refine q1g hA (dj := 135) rfl rfl rfl rfl (Y.fieldAddr (k := 3) rfl Try.underlying37 rfl rfl Try.sizeOf35) rfl ?_
                clear hA a; intro a hA
                refine q1g hA (dj := 135) rfl rfl rfl rfl (Y.load rfl Try.isAgg35 (fun w h => h.cell (i := 0) rfl rfl)) rfl ?_
                clear hA a; intro a hA
                refine q1g hA (dj := 135) rfl rfl rfl rfl (Y.lenSl rfl Try.underlying35) rfl ?_
                clear hA a; intro a hA
                refine q1g hA (dj := 135) rfl rfl rfl rfl (Y.fieldAddr (k := 3) rfl Try.underlying37 rfl rfl Try.sizeOf35) rfl ?_
                clear hA a; intro a hA
                refine q1g hA (dj := 135) rfl rfl rfl rfl (Y.load rfl Try.isAgg35 (fun w h => h.cell (i := 3) rfl rfl)) rfl ?_
                clear hA a; intro a hA
                refine q1g hA (dj := 135) rfl rfl rfl rfl (Y.lenSl rfl Try.underlying35) rfl ?_
                clear hA a; intro a hA
                refine q1g hA (dj := 135) rfl rfl rfl rfl (Y.neI rfl rfl) rfl ?_
                clear hA a; intro a hA
                refine q1 hA (Y.pickF' rfl rfl rfl) rfl ?_
                clear hA a; intro a hA
                refine q_nil ?_
                clear hS; intro w hS
                refine m_then ?_
                refine m_condF hA rfl (decide_eq_false (by rw [hq2] at hi4; omega)) ?_
                refine m_skip ?_
                refine m_then ?_
                refine m_seq ?_
                refine m_region ?_
                refine m1 hA hS (Y.loads rfl Try.isAgg24 Try.sizeOf24 (fun w h => h.cells (i := 4) rfl) rfl) rfl ?_
                clear hA a; intro a hA
                refine m1 hA hS (Y.fieldAddr (k := 1) rfl Try.underlying37 rfl rfl Try.sizeOf3) rfl ?_
                clear hA a; intro a hA
                refine m1 hA hS (Y.load rfl Try.isAgg3 (fun w h => h.cell (i := 3) rfl rfl)) rfl ?_
                clear hA a; intro a hA
                refine m1 hA hS (Y.move rfl) rfl ?_
                clear hA a; intro a hA
                refine m_call hA Try.call23 rfl rfl ((kick_v p.leader who H A n c _ (hP.gr (hS.gr0 (by simp)))).mono ?_)
                rintro e w ⟨A5, n5, c5, rfl, hg5, hP5⟩
                refine ⟨_, rfl, ?_⟩
                clear hA a; intro a hA
                rw [hkick, if_neg hld] at hA hP5
                obtain ⟨lo5, v5, hP5, hS⟩ := hS.keepP hg5 hP5
                refine m1 hA hS (Y.move rfl) rfl ?_
                clear hA a; intro a hA
                refine m1 hA hS (Y.extract rfl rfl) rfl ?_
                clear hA a; intro a hA
                refine m1 hA hS (Y.extract rfl rfl) rfl ?_
                clear hA a; intro a hA
                refine m_alloc hA hS Try.zeroValue24 rfl ?_
                clear hA hS a; intro a b11 w hA hleb11 hgb11 hS
                refine m_store 0 hA hS rfl rfl Try.sizeOf24 rfl rfl rfl rfl ?_
                clear hS; intro w hS
                refine m1 hA hS (Y.assign rfl) rfl ?_
                clear hA a; intro a hA
                refine m_nil ?_
                refine m_then ?_
                refine m_seq ?_
                refine m_seq ?_
                refine m_region ?_
                refine m1 hA hS (Y.fieldAddr (k := 1) rfl Try.underlying37 rfl rfl Try.sizeOf3) rfl ?_
                clear hA a; intro a hA
                refine m1 hA hS (Y.load rfl Try.isAgg3 (fun w h => h.cell (i := 4) rfl rfl)) rfl ?_
                clear hA a; intro a hA
                refine m1 hA hS (Y.move rfl) rfl ?_
                clear hA a; intro a hA
                refine m1 hA hS (Y.eqI rfl rfl) rfl ?_
                clear hA a; intro a hA
                refine m_nil ?_
                refine m_then ?_
                refine m_condF hA rfl (decide_eq_false hld) ?_
                refine m_skip ?_
                refine m_then ?_
                refine m_seq ?_
                refine m_region ?_
                refine m1 hA hS (Y.move rfl) rfl ?_
                clear hA a; intro a hA
                refine m1 hA hS (Y.eqI rfl rfl) rfl ?_
                clear hA a; intro a hA
                refine m1 hA hS (Y.move rfl) rfl ?_
                clear hA a; intro a hA
                replace hA := hA.keep [160, 15, 7, 4] rfl
                apply m_and 4 164 160 hA hS rfl
                · intro hp4
                  refine m1s hA (dj := 160) rfl rfl rfl hp4 rfl ?_
                  intro a hA
                  refine m1s hA (dj := 160) rfl rfl rfl hp4 rfl ?_
                  clear hA a; intro a hA
                  refine m1s hA (dj := 160) rfl rfl rfl hp4 rfl ?_
                  clear hA a; intro a hA
                  refine m1 hA hS (Y.pickF' rfl hp4 rfl) rfl ?_
                  clear hA a; intro a hA
                  exact m_nil (m_then ⟨hA.keep [164, 160, 15, 7, 4] rfl, hS⟩)
                · intro hp4
                  refine m1g hA hS (dj := 160) rfl rfl rfl hp4 (Y.loads rfl Try.isAgg24 Try.sizeOf24 (fun w h => h.cells (i := 0) rfl) rfl) rfl ?_
                  intro a hA
                  refine m1g hA hS (dj := 160) rfl rfl rfl hp4 (Y.loads rfl Try.isAgg24 Try.sizeOf24 (fun w h => h.cells (i := 3) rfl) rfl) rfl ?_
                  clear hA a; intro a hA
                  refine m_callbg (dj := 160) hA hS rfl rfl rfl hp4 Try.call15 rfl rfl (same_c N N A5 n5 c5 A1 n1 c1 _ (PtysL.zero (hP5.ov (hS.at (by simp)))) (PtysL.zero (hP1.ov (hS.at (by simp))))) ?_
                  clear hA a; intro a w hA hS hg
                  refine m1 hA hS (Y.pickT' rfl hp4 rfl) rfl ?_
                  clear hA a; intro a hA
                  exact m_nil (m_then ⟨hA.keep [164, 160, 15, 7, 4] rfl, hS⟩)
                · clear hA hS a; intro a w hA hS
                  refine m1 hA hS (Y.assign rfl) rfl ?_
                  clear hA a; intro a hA
                  refine m_nil ?_
                  refine m_then ?_
                  refine m_retc ?_
                  refine m_ret1 hA Try.results6 rfl ?_
                  exact ⟨ret_bool (by simp), hS.gr0 (by simp)⟩
end Go.Proofs.Ytljkhijdaaconaa
