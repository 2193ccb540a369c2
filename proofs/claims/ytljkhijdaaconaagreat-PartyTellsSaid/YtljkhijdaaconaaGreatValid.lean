/- Contract: whether a hall is valid. -/
import Derived.Test.YtljkhijdaaconaaGreatSm
import Derived.Test.YtljkhijdaaconaaGreatPlaces
import Derived.Test.YtljkhijdaaconaaGreatFind
set_option linter.unusedVariables false
namespace Go.Proofs.YtljkhijdaaconaaGreat
open Go.RowKit
set_option maxRecDepth 100000 in
set_option maxHeartbeats 8000000 in
theorem valid_c (H : Hall) (A : Option Addr) (n c : Nat) (w : World) (hP : Ptys w A n H.ps) :
    Calls Tryz.prog 8 #[.agg #[.int .i64 H.tick, .int .i64 H.last, .slice A n c]] w fun e w' => e = .returned (.bool (valid H)) ∧ Gr w w' := by
  have hl := hP.len
  refine m_enter Tryz.func8 rfl Tryz.ntmps8 (Nat.le_of_ble_eq_true rfl) ?_
  intro a hA
  have hS := St.start w
  refine m_seq ?_
  refine m_region ?_
  refine m_box hA hS rfl rfl ?_
  clear hA hS a; intro a b1 w hA hleb1 hgb1 hS
  refine m1 hA hS (Y.assign rfl) rfl ?_
  clear hA a; intro a hA
  refine m_nil ?_
  refine m_then ?_
  refine m_seq ?_
  refine m_seq ?_
  refine m_region ?_
  refine m1 hA hS (Y.fieldAddr (k := 0) rfl Tryz.underlying24 rfl rfl Tryz.sizeOf3) rfl ?_
  clear hA a; intro a hA
  refine m1 hA hS (Y.load rfl Tryz.isAgg3 (fun w h => h.cell (i := 0) rfl rfl)) rfl ?_
  clear hA a; intro a hA
  refine m1 hA hS (Y.ltI rfl rfl) rfl ?_
  clear hA a; intro a hA
  refine m1 hA hS (Y.move rfl) rfl ?_
  clear hA a; intro a hA
  replace hA := hA.keep [14, 2, 1] rfl
  apply m_or 4 18 14 hA hS rfl
  · intro hp1
    refine m1s hA (dj := 14) rfl rfl rfl hp1 rfl ?_
    intro a hA
    refine m1s hA (dj := 14) rfl rfl rfl hp1 rfl ?_
    clear hA a; intro a hA
    refine m1s hA (dj := 14) rfl rfl rfl hp1 rfl ?_
    clear hA a; intro a hA
    refine m1 hA hS (Y.pickT' rfl hp1 rfl) rfl ?_
    clear hA a; intro a hA
    exact m_nil (m_then ⟨hA.keep [18, 14, 2, 1] rfl, hS⟩)
  · intro hp1
    refine m1g hA hS (dj := 14) rfl rfl rfl hp1 (Y.fieldAddr (k := 0) rfl Tryz.underlying24 rfl rfl Tryz.sizeOf3) rfl ?_
    intro a hA
    refine m1g hA hS (dj := 14) rfl rfl rfl hp1 (Y.load rfl Tryz.isAgg3 (fun w h => h.cell (i := 0) rfl rfl)) rfl ?_
    clear hA a; intro a hA
    refine m1g hA hS (dj := 14) rfl rfl rfl hp1 (Y.gtI rfl rfl) rfl ?_
    clear hA a; intro a hA
    refine m1 hA hS (Y.pickF' rfl hp1 rfl) rfl ?_
    clear hA a; intro a hA
    exact m_nil (m_then ⟨hA.keep [18, 14, 2, 1] rfl, hS⟩)
  · clear hA hS a; intro a w hA hS
    refine m1 hA hS (Y.move rfl) rfl ?_
    clear hA a; intro a hA
    replace hA := hA.keep [19, 2, 1] rfl
    apply m_or 4 23 19 hA hS rfl
    · intro hp2
      refine m1s hA (dj := 19) rfl rfl rfl hp2 rfl ?_
      intro a hA
      refine m1s hA (dj := 19) rfl rfl rfl hp2 rfl ?_
      clear hA a; intro a hA
      refine m1s hA (dj := 19) rfl rfl rfl hp2 rfl ?_
      clear hA a; intro a hA
      refine m1 hA hS (Y.pickT' rfl hp2 rfl) rfl ?_
      clear hA a; intro a hA
      exact m_nil (m_then ⟨hA.keep [23, 19, 2, 1] rfl, hS⟩)
    · intro hp2
      refine m1g hA hS (dj := 19) rfl rfl rfl hp2 (Y.fieldAddr (k := 1) rfl Tryz.underlying24 rfl rfl Tryz.sizeOf3) rfl ?_
      intro a hA
      refine m1g hA hS (dj := 19) rfl rfl rfl hp2 (Y.load rfl Tryz.isAgg3 (fun w h => h.cell (i := 0) rfl rfl)) rfl ?_
      clear hA a; intro a hA
      refine m1g hA hS (dj := 19) rfl rfl rfl hp2 (Y.ltI rfl rfl) rfl ?_
      clear hA a; intro a hA
      refine m1 hA hS (Y.pickF' rfl hp2 rfl) rfl ?_
      clear hA a; intro a hA
      exact m_nil (m_then ⟨hA.keep [23, 19, 2, 1] rfl, hS⟩)
    · clear hA hS a; intro a w hA hS
      refine m1 hA hS (Y.move rfl) rfl ?_
      clear hA a; intro a hA
      replace hA := hA.keep [24, 2, 1] rfl
      apply m_or 4 28 24 hA hS rfl
      · intro hp3
        refine m1s hA (dj := 24) rfl rfl rfl hp3 rfl ?_
        intro a hA
        refine m1s hA (dj := 24) rfl rfl rfl hp3 rfl ?_
        clear hA a; intro a hA
        refine m1s hA (dj := 24) rfl rfl rfl hp3 rfl ?_
        clear hA a; intro a hA
        refine m1 hA hS (Y.pickT' rfl hp3 rfl) rfl ?_
        clear hA a; intro a hA
        exact m_nil (m_then ⟨hA.keep [28, 24, 2, 1] rfl, hS⟩)
      · intro hp3
        refine m1g hA hS (dj := 24) rfl rfl rfl hp3 (Y.fieldAddr (k := 1) rfl Tryz.underlying24 rfl rfl Tryz.sizeOf3) rfl ?_
        intro a hA
        refine m1g hA hS (dj := 24) rfl rfl rfl hp3 (Y.load rfl Tryz.isAgg3 (fun w h => h.cell (i := 0) rfl rfl)) rfl ?_
        clear hA a; intro a hA
        refine m1g hA hS (dj := 24) rfl rfl rfl hp3 (Y.gtI rfl rfl) rfl ?_
        clear hA a; intro a hA
        refine m1 hA hS (Y.pickF' rfl hp3 rfl) rfl ?_
        clear hA a; intro a hA
        exact m_nil (m_then ⟨hA.keep [28, 24, 2, 1] rfl, hS⟩)
      · clear hA hS a; intro a w hA hS
        refine m1 hA hS (Y.move rfl) rfl ?_
        clear hA a; intro a hA
        replace hA := hA.keep [29, 2, 1] rfl
        apply m_or 5 34 29 hA hS rfl
        · intro hp4
          refine m1s hA (dj := 29) rfl rfl rfl hp4 rfl ?_
          intro a hA
          refine m1s hA (dj := 29) rfl rfl rfl hp4 rfl ?_
          clear hA a; intro a hA
          refine m1s hA (dj := 29) rfl rfl rfl hp4 rfl ?_
          clear hA a; intro a hA
          refine m1s hA (dj := 29) rfl rfl rfl hp4 rfl ?_
          clear hA a; intro a hA
          refine m1 hA hS (Y.pickT' rfl hp4 rfl) rfl ?_
          clear hA a; intro a hA
          exact m_nil (m_then ⟨hA.keep [34, 29, 2, 1] rfl, hS⟩)
        · intro hp4
          refine m1g hA hS (dj := 29) rfl rfl rfl hp4 (Y.fieldAddr (k := 2) rfl Tryz.underlying24 rfl rfl Tryz.sizeOf22) rfl ?_
          intro a hA
          refine m1g hA hS (dj := 29) rfl rfl rfl hp4 (Y.load rfl Tryz.isAgg22 (fun w h => h.cell (i := 0) rfl rfl)) rfl ?_
          clear hA a; intro a hA
          refine m1g hA hS (dj := 29) rfl rfl rfl hp4 (Y.lenSl rfl Tryz.underlying22) rfl ?_
          clear hA a; intro a hA
          refine m1g hA hS (dj := 29) rfl rfl rfl hp4 (Y.gtI rfl rfl) rfl ?_
          clear hA a; intro a hA
          refine m1 hA hS (Y.pickF' rfl hp4 rfl) rfl ?_
          clear hA a; intro a hA
          exact m_nil (m_then ⟨hA.keep [34, 29, 2, 1] rfl, hS⟩)
        · clear hA hS a; intro a w hA hS
          refine m_nil ?_
          refine m_then ?_
          refine m_cond hA rfl (fun hc => ?_) (fun hc => ?_)
          · refine m_seq ?_
            refine m_region ?_
            refine m1 hA hS (Y.assign rfl) rfl ?_
            clear hA a; intro a hA
            refine m_nil ?_
            refine m_then ?_
            refine m_retc ?_
            refine r_then ?_
            refine m_ret1 hA Tryz.results8 rfl ?_
            refine ⟨ret_bool ?_, hS.gr0 (by simp)⟩
            simp only [Bool.or_eq_true, decide_eq_true_eq] at hc
            unfold valid
            rw [if_pos (by omega)]
          · simp only [Bool.or_eq_false_iff, decide_eq_false_iff_not] at hc
            have hv : valid H = okPs H 0 0 H.ps := by
              unfold valid
              rw [if_neg (by omega)]
            refine m_skip ?_
            refine m_then ?_
            refine m_seq ?_
            refine m_region ?_
            refine m1 hA hS (Y.loads rfl Tryz.isAgg24 Tryz.sizeOf24 (fun w h => h.cells (i := 0) rfl) rfl) rfl ?_
            clear hA a; intro a hA
            refine m_call hA Tryz.call23 rfl rfl ((places_c _ _ _ _ _ H.ps _ (hP.gr (hS.gr0 (by simp)))).mono ?_)
            rintro e w ⟨bm, rfl, him, hg1, hbm⟩
            refine ⟨_, rfl, ?_⟩
            clear hA a; intro a hA
            have hn := hP.le
            replace hS := hS.call hg1
            refine m1 hA hS (Y.assign rfl) rfl ?_
            clear hA a; intro a hA
            refine m_nil ?_
            refine m_then ?_
            refine m_seq ?_
            refine m_region ?_
            refine m1 hA hS (Y.assign rfl) rfl ?_
            clear hA a; intro a hA
            refine m1 hA hS (Y.assign rfl) rfl ?_
            clear hA a; intro a hA
            refine m_nil ?_
            refine m_then ?_
            refine m_seq ?_
            refine m_seq ?_
            refine m_region ?_
            refine m1 hA hS (Y.fieldAddr (k := 2) rfl Tryz.underlying24 rfl rfl Tryz.sizeOf22) rfl ?_
            clear hA a; intro a hA
            refine m1 hA hS (Y.load rfl Tryz.isAgg22 (fun w h => h.cell (i := 0) rfl rfl)) rfl ?_
            clear hA a; intro a hA
            refine m1 hA hS (Y.lenSl rfl Tryz.underlying22) rfl ?_
            clear hA a; intro a hA
            refine m1 hA hS (Y.move rfl) rfl ?_
            clear hA a; intro a hA
            refine m_nil ?_
            refine m_then ?_
            refine m_block ?_
            -- LOST [2]
            refine m_loopX [39, 38, 3, 1] rfl hA (((0 : Nat), (0 : Nat), (0 : Int))) (fun x => [(40, .int .i64 (x.1 : Int)), (4, .int .i64 (x.2.1 : Int)), (5, .int .i64 x.2.2)]) (fun _ => _) (fun _ => _) (fun x => x.1 ≤ n ∧ x.2.1 ≤ 5 * x.1 ∧ okPs H 0 0 H.ps = okPs H x.2.2 x.2.1 (H.ps.drop x.1)) (fun x => n - x.1) (ks := [40, 4, 5]) rfl hS (⟨Nat.zero_le _, Nat.zero_le _, rfl⟩) ?_
            clear hA hS a; rintro ⟨k, many, last⟩ a w hA hS hj
            try dsimp only at hA
            try dsimp only at hS
            try dsimp only at hj
            obtain ⟨hk, hm5, hok⟩ := hj
            replace hA := hA.keep [40, 4, 5, 39, 38, 3, 1] rfl
            refine m_seq ?_
            refine m_region ?_
            refine m1 hA hS (Y.ltI rfl rfl) rfl ?_
            clear hA a; intro a hA
            refine m_nil ?_
            refine m_then ?_
            refine m_seq ?_
            refine m_condP hA rfl (fun hlt => ?_) (fun hlt => ?_)
            · have hkn : k < n := by omega
              obtain ⟨b, o, x, M, m, mc, I, i, ic, rfl, hx, p0, p1, p2, p3, hin⟩ := hP.at hkn
              have hok' := hok
              rw [drop_at hx] at hok'
              have fin : okPs H last many (x :: H.ps.drop (k + 1)) = false → valid H = false := fun h => by rw [hv, hok']; exact h
              have hm := hin.mem.le
              have hi := hin.inv.le
              have hml := hin.mem.len
              have hil := hin.inv.len
              refine m_skip ?_
              refine m_then ?_
              refine m_seq ?_
              refine m_block ?_
              refine m_seq ?_
              refine m_region ?_
              refine m1 hA hS (Y.indexAddrN rfl rfl Tryz.underlying22 Tryz.sizeOf46 (by omega)) rfl ?_
              clear hA a; intro a hA
              refine m1 hA hS (Y.loads rfl Tryz.isAgg46 Tryz.sizeOf46 (fun w h => h.rds (by simp) (Nat.zero_le _) (Cs.four p0 p1 p2 p3)) rfl) rfl ?_
              clear hA a; intro a hA
              refine m_alloc hA hS Tryz.zeroValue46 rfl ?_
              clear hA hS a; intro a b2 w hA hleb2 hgb2 hS
              refine m_store 0 hA hS rfl rfl Tryz.sizeOf46 rfl rfl rfl rfl ?_
              clear hS; intro w hS
              refine m_nil ?_
              refine m_then ?_
              refine m_seq ?_
              refine m_seq ?_
              refine m_region ?_
              refine m1 hA hS (Y.fieldAddr (k := 0) rfl Tryz.underlying46 rfl rfl Tryz.sizeOf3) rfl ?_
              clear hA a; intro a hA
              refine m1 hA hS (Y.load rfl Tryz.isAgg3 (fun w h => h.cell (i := 0) rfl rfl)) rfl ?_
              clear hA a; intro a hA
              refine m1 hA hS (Y.move rfl) rfl ?_
              clear hA a; intro a hA
              refine m1 hA hS (Y.leI rfl rfl) rfl ?_
              clear hA a; intro a hA
              refine m1 hA hS (Y.move rfl) rfl ?_
              clear hA a; intro a hA
              replace hA := hA.keep [48, 7, 40, 4, 5, 39, 38, 3, 1] rfl
              apply m_or 6 54 48 hA hS rfl
              · intro hp5
                refine m1s hA (dj := 48) rfl rfl rfl hp5 rfl ?_
                intro a hA
                refine m1s hA (dj := 48) rfl rfl rfl hp5 rfl ?_
                clear hA a; intro a hA
                refine m1s hA (dj := 48) rfl rfl rfl hp5 rfl ?_
                clear hA a; intro a hA
                refine m1s hA (dj := 48) rfl rfl rfl hp5 rfl ?_
                clear hA a; intro a hA
                refine m1s hA (dj := 48) rfl rfl rfl hp5 rfl ?_
                clear hA a; intro a hA
                refine m1 hA hS (Y.pickT' rfl hp5 rfl) rfl ?_
                clear hA a; intro a hA
                exact m_nil (m_then ⟨hA.keep [54, 48, 7, 40, 4, 5, 39, 38, 3, 1] rfl, hS⟩)
              · intro hp5
                refine m1g hA hS (dj := 48) rfl rfl rfl hp5 (Y.fieldAddr (k := 0) rfl Tryz.underlying46 rfl rfl Tryz.sizeOf3) rfl ?_
                intro a hA
                refine m1g hA hS (dj := 48) rfl rfl rfl hp5 (Y.load rfl Tryz.isAgg3 (fun w h => h.cell (i := 0) rfl rfl)) rfl ?_
                clear hA a; intro a hA
                refine m1g hA hS (dj := 48) rfl rfl rfl hp5 (Y.fieldAddr (k := 1) rfl Tryz.underlying24 rfl rfl Tryz.sizeOf3) rfl ?_
                clear hA a; intro a hA
                refine m1g hA hS (dj := 48) rfl rfl rfl hp5 (Y.load rfl Tryz.isAgg3 (fun w h => h.cell (i := 1) rfl rfl)) rfl ?_
                clear hA a; intro a hA
                refine m1g hA hS (dj := 48) rfl rfl rfl hp5 (Y.gtI rfl rfl) rfl ?_
                clear hA a; intro a hA
                refine m1 hA hS (Y.pickF' rfl hp5 rfl) rfl ?_
                clear hA a; intro a hA
                exact m_nil (m_then ⟨hA.keep [54, 48, 7, 40, 4, 5, 39, 38, 3, 1] rfl, hS⟩)
              · clear hA hS a; intro a w hA hS
                refine m1 hA hS (Y.move rfl) rfl ?_
                clear hA a; intro a hA
                replace hA := hA.keep [55, 7, 40, 4, 5, 39, 38, 3, 1] rfl
                apply m_or 5 60 55 hA hS rfl
                · intro hp6
                  refine m1s hA (dj := 55) rfl rfl rfl hp6 rfl ?_
                  intro a hA
                  refine m1s hA (dj := 55) rfl rfl rfl hp6 rfl ?_
                  clear hA a; intro a hA
                  refine m1s hA (dj := 55) rfl rfl rfl hp6 rfl ?_
                  clear hA a; intro a hA
                  refine m1s hA (dj := 55) rfl rfl rfl hp6 rfl ?_
                  clear hA a; intro a hA
                  refine m1 hA hS (Y.pickT' rfl hp6 rfl) rfl ?_
                  clear hA a; intro a hA
                  exact m_nil (m_then ⟨hA.keep [60, 55, 7, 40, 4, 5, 39, 38, 3, 1] rfl, hS⟩)
                · intro hp6
                  refine m1g hA hS (dj := 55) rfl rfl rfl hp6 (Y.fieldAddr (k := 2) rfl Tryz.underlying46 rfl rfl Tryz.sizeOf38) rfl ?_
                  intro a hA
                  refine m1g hA hS (dj := 55) rfl rfl rfl hp6 (Y.load rfl Tryz.isAgg38 (fun w h => h.cell (i := 0) rfl rfl)) rfl ?_
                  clear hA a; intro a hA
                  refine m1g hA hS (dj := 55) rfl rfl rfl hp6 (Y.lenSl rfl Tryz.underlying38) rfl ?_
                  clear hA a; intro a hA
                  refine m1g hA hS (dj := 55) rfl rfl rfl hp6 (Y.ltI rfl rfl) rfl ?_
                  clear hA a; intro a hA
                  refine m1 hA hS (Y.pickF' rfl hp6 rfl) rfl ?_
                  clear hA a; intro a hA
                  exact m_nil (m_then ⟨hA.keep [60, 55, 7, 40, 4, 5, 39, 38, 3, 1] rfl, hS⟩)
                · clear hA hS a; intro a w hA hS
                  refine m1 hA hS (Y.move rfl) rfl ?_
                  clear hA a; intro a hA
                  replace hA := hA.keep [61, 7, 40, 4, 5, 39, 38, 3, 1] rfl
                  apply m_or 9 70 61 hA hS rfl
                  · intro hp7
                    refine m1s hA (dj := 61) rfl rfl rfl hp7 rfl ?_
                    intro a hA
                    refine m1s hA (dj := 61) rfl rfl rfl hp7 rfl ?_
                    clear hA a; intro a hA
                    refine m1s hA (dj := 61) rfl rfl rfl hp7 rfl ?_
                    clear hA a; intro a hA
                    refine m1s hA (dj := 61) rfl rfl rfl hp7 rfl ?_
                    clear hA a; intro a hA
                    refine m1s hA (dj := 61) rfl rfl rfl hp7 rfl ?_
                    clear hA a; intro a hA
                    refine m1s hA (dj := 61) rfl rfl rfl hp7 rfl ?_
                    clear hA a; intro a hA
                    refine m1s hA (dj := 61) rfl rfl rfl hp7 rfl ?_
                    clear hA a; intro a hA
                    refine m1s hA (dj := 61) rfl rfl rfl hp7 rfl ?_
                    clear hA a; intro a hA
                    refine m1 hA hS (Y.pickT' rfl hp7 rfl) rfl ?_
                    clear hA a; intro a hA
                    exact m_nil (m_then ⟨hA.keep [70, 61, 7, 40, 4, 5, 39, 38, 3, 1] rfl, hS⟩)
                  · intro hp7
                    refine m1g hA hS (dj := 61) rfl rfl rfl hp7 (Y.fieldAddr (k := 2) rfl Tryz.underlying46 rfl rfl Tryz.sizeOf38) rfl ?_
                    intro a hA
                    refine m1g hA hS (dj := 61) rfl rfl rfl hp7 (Y.load rfl Tryz.isAgg38 (fun w h => h.cell (i := 0) rfl rfl)) rfl ?_
                    clear hA a; intro a hA
                    refine m1g hA hS (dj := 61) rfl rfl rfl hp7 (Y.lenSl rfl Tryz.underlying38) rfl ?_
                    clear hA a; intro a hA
                    refine m1g hA hS (dj := 61) rfl rfl rfl hp7 (Y.fieldAddr (k := 3) rfl Tryz.underlying46 rfl rfl Tryz.sizeOf44) rfl ?_
                    clear hA a; intro a hA
                    refine m1g hA hS (dj := 61) rfl rfl rfl hp7 (Y.load rfl Tryz.isAgg44 (fun w h => h.cell (i := 0) rfl rfl)) rfl ?_
                    clear hA a; intro a hA
                    refine m1g hA hS (dj := 61) rfl rfl rfl hp7 (Y.lenSl rfl Tryz.underlying44) rfl ?_
                    clear hA a; intro a hA
                    refine m1g hA hS (dj := 61) rfl rfl rfl hp7 (Y.addI rfl rfl (by omega)) rfl ?_
                    clear hA a; intro a hA
                    refine m1g hA hS (dj := 61) rfl rfl rfl hp7 (Y.gtI rfl rfl) rfl ?_
                    clear hA a; intro a hA
                    refine m1 hA hS (Y.pickF' rfl hp7 rfl) rfl ?_
                    clear hA a; intro a hA
                    exact m_nil (m_then ⟨hA.keep [70, 61, 7, 40, 4, 5, 39, 38, 3, 1] rfl, hS⟩)
                  · clear hA hS a; intro a w hA hS
                    refine m1 hA hS (Y.move rfl) rfl ?_
                    clear hA a; intro a hA
                    replace hA := hA.keep [71, 7, 40, 4, 5, 39, 38, 3, 1] rfl
                    apply m_or 7 78 71 hA hS rfl
                    · intro hp8
                      refine m1s hA (dj := 71) rfl rfl rfl hp8 rfl ?_
                      intro a hA
                      refine m1s hA (dj := 71) rfl rfl rfl hp8 rfl ?_
                      clear hA a; intro a hA
                      refine m1s hA (dj := 71) rfl rfl rfl hp8 rfl ?_
                      clear hA a; intro a hA
                      refine m1s hA (dj := 71) rfl rfl rfl hp8 rfl ?_
                      clear hA a; intro a hA
                      refine m1s hA (dj := 71) rfl rfl rfl hp8 rfl ?_
                      clear hA a; intro a hA
                      refine m1s hA (dj := 71) rfl rfl rfl hp8 rfl ?_
                      clear hA a; intro a hA
                      refine m1 hA hS (Y.pickT' rfl hp8 rfl) rfl ?_
                      clear hA a; intro a hA
                      exact m_nil (m_then ⟨hA.keep [78, 71, 7, 40, 4, 5, 39, 38, 3, 1] rfl, hS⟩)
                    · intro hp8
                      refine m1g hA hS (dj := 71) rfl rfl rfl hp8 (Y.fieldAddr (k := 2) rfl Tryz.underlying46 rfl rfl Tryz.sizeOf38) rfl ?_
                      intro a hA
                      refine m1g hA hS (dj := 71) rfl rfl rfl hp8 (Y.load rfl Tryz.isAgg38 (fun w h => h.cell (i := 0) rfl rfl)) rfl ?_
                      clear hA a; intro a hA
                      refine m1g hA hS (dj := 71) rfl rfl rfl hp8 (Y.fieldAddr (k := 1) rfl Tryz.underlying46 rfl rfl Tryz.sizeOf3) rfl ?_
                      clear hA a; intro a hA
                      refine m1g hA hS (dj := 71) rfl rfl rfl hp8 (Y.load rfl Tryz.isAgg3 (fun w h => h.cell (i := 0) rfl rfl)) rfl ?_
                      clear hA a; intro a hA
                      refine m_callbg (dj := 71) hA hS rfl rfl rfl hp8 Tryz.call24 rfl rfl (contains_c _ _ _ x.mem x.leader _ (hin.mem.gr (hS.gr0 (by simp)))) ?_
                      clear hA a; intro a w hA hS hg
                      refine m1g hA hS (dj := 71) rfl rfl rfl hp8 (Y.not rfl) rfl ?_
                      clear hA a; intro a hA
                      refine m1 hA hS (Y.pickF' rfl hp8 rfl) rfl ?_
                      clear hA a; intro a hA
                      exact m_nil (m_then ⟨hA.keep [78, 71, 7, 40, 4, 5, 39, 38, 3, 1] rfl, hS⟩)
                    · clear hA hS a; intro a w hA hS
                      refine m_nil ?_
                      refine m_then ?_
                      refine m_cond hA rfl (fun hc2 => ?_) (fun hc2 => ?_)
                      · refine m_seq ?_
                        refine m_region ?_
                        refine m1 hA hS (Y.assign rfl) rfl ?_
                        clear hA a; intro a hA
                        refine m_nil ?_
                        refine m_then ?_
                        refine m_retc ?_
                        refine r_then ?_
                        refine r_block ?_
                        refine r_then ?_
                        refine r_then ?_
                        refine r_block ?_
                        refine r_then ?_
                        refine m_ret1 hA Tryz.results8 rfl ?_
                        refine ⟨ret_bool ?_, hS.gr0 (by simp)⟩
                        simp only [Bool.or_eq_true, decide_eq_true_eq, Bool.not_eq_true'] at hc2
                        refine (fin (okPs_bad ?_)).symm
                        rw [hml, hil]
                        rcases hc2 with (((h | h) | h) | h) | h <;> first | exact .inl h | exact .inr (.inl h) | exact .inr (.inr (.inl (by omega))) | exact .inr (.inr (.inr (.inl (by omega)))) | exact .inr (.inr (.inr (.inr (by rw [h]; simp))))
                      · simp only [Bool.or_eq_false_iff, decide_eq_false_iff_not, Bool.not_eq_false'] at hc2
                        have fin2 : okInv H 0 x.inv = false → valid H = false := fun h => fin (okPs_inv h)
                        refine m_skip ?_
                        refine m_then ?_
                        refine m_seq ?_
                        refine m_region ?_
                        refine m1 hA hS (Y.assign rfl) rfl ?_
                        clear hA a; intro a hA
                        refine m_nil ?_
                        refine m_then ?_
                        refine m_seq ?_
                        refine m_seq ?_
                        refine m_region ?_
                        refine m1 hA hS (Y.fieldAddr (k := 3) rfl Tryz.underlying46 rfl rfl Tryz.sizeOf44) rfl ?_
                        clear hA a; intro a hA
                        refine m1 hA hS (Y.load rfl Tryz.isAgg44 (fun w h => h.cell (i := 0) rfl rfl)) rfl ?_
                        clear hA a; intro a hA
                        refine m1 hA hS (Y.lenSl rfl Tryz.underlying44) rfl ?_
                        clear hA a; intro a hA
                        refine m1 hA hS (Y.move rfl) rfl ?_
                        clear hA a; intro a hA
                        refine m_nil ?_
                        refine m_then ?_
                        refine m_block ?_
                        refine m_loopX [81, 80, 7, 40, 4, 5, 39, 38, 3, 1] rfl hA (((0 : Nat), (0 : Int))) (fun x => [(82, .int .i64 (x.1 : Int)), (8, .int .i64 x.2)]) (fun _ => _) (fun _ => _) (fun y => y.1 ≤ i ∧ okInv H 0 x.inv = okInv H y.2 (x.inv.drop y.1)) (fun x => i - x.1) (ks := [82, 8]) rfl hS (⟨Nat.zero_le _, rfl⟩) ?_
                        clear hA hS a; rintro ⟨j, who⟩ a w hA hS hj
                        try dsimp only at hA
                        try dsimp only at hS
                        try dsimp only at hj
                        obtain ⟨hj, hok2⟩ := hj
                        replace hA := hA.keep [82, 8, 81, 80, 7, 40, 4, 5, 39, 38, 3, 1] rfl
                        refine m_seq ?_
                        refine m_region ?_
                        refine m1 hA hS (Y.ltI rfl rfl) rfl ?_
                        clear hA a; intro a hA
                        refine m_nil ?_
                        refine m_then ?_
                        refine m_seq ?_
                        refine m_condP hA rfl (fun hlt2 => ?_) (fun hlt2 => ?_)
                        · have hji : j < i := by omega
                          obtain ⟨b', o', y, rfl, hy, q0, q1⟩ := hin.inv.at hji
                          have hok2' := hok2
                          rw [drop_at hy] at hok2'
                          refine m_skip ?_
                          refine m_then ?_
                          refine m_seq ?_
                          refine m_block ?_
                          refine m_seq ?_
                          refine m_region ?_
                          refine m1 hA hS (Y.indexAddrN rfl rfl Tryz.underlying44 Tryz.sizeOf61 (by omega)) rfl ?_
                          clear hA a; intro a hA
                          refine m1 hA hS (Y.loads rfl Tryz.isAgg61 Tryz.sizeOf61 (fun w h => h.rds (by simp) (Nat.zero_le _) (Cs.two q0 q1)) rfl) rfl ?_
                          clear hA a; intro a hA
                          refine m_alloc hA hS Tryz.zeroValue61 rfl ?_
                          clear hA hS a; intro a b3 w hA hleb3 hgb3 hS
                          refine m_store 0 hA hS rfl rfl Tryz.sizeOf61 rfl rfl rfl rfl ?_
                          clear hS; intro w hS
                          refine m_nil ?_
                          refine m_then ?_
                          refine m_seq ?_
                          refine m_seq ?_
                          refine m_region ?_
                          refine m1 hA hS (Y.fieldAddr (k := 0) rfl Tryz.underlying61 rfl rfl Tryz.sizeOf3) rfl ?_
                          clear hA a; intro a hA
                          refine m1 hA hS (Y.load rfl Tryz.isAgg3 (fun w h => h.cell (i := 0) rfl rfl)) rfl ?_
                          clear hA a; intro a hA
                          refine m1 hA hS (Y.move rfl) rfl ?_
                          clear hA a; intro a hA
                          refine m1 hA hS (Y.leI rfl rfl) rfl ?_
                          clear hA a; intro a hA
                          refine m1 hA hS (Y.move rfl) rfl ?_
                          clear hA a; intro a hA
                          replace hA := hA.keep [90, 10, 82, 8, 81, 80, 7, 40, 4, 5, 39, 38, 3, 1] rfl
                          apply m_or 5 95 90 hA hS rfl
                          · intro hp9
                            refine m1s hA (dj := 90) rfl rfl rfl hp9 rfl ?_
                            intro a hA
                            refine m1s hA (dj := 90) rfl rfl rfl hp9 rfl ?_
                            clear hA a; intro a hA
                            refine m1s hA (dj := 90) rfl rfl rfl hp9 rfl ?_
                            clear hA a; intro a hA
                            refine m1s hA (dj := 90) rfl rfl rfl hp9 rfl ?_
                            clear hA a; intro a hA
                            refine m1 hA hS (Y.pickT' rfl hp9 rfl) rfl ?_
                            clear hA a; intro a hA
                            exact m_nil (m_then ⟨hA.keep [95, 90, 10, 82, 8, 81, 80, 7, 40, 4, 5, 39, 38, 3, 1] rfl, hS⟩)
                          · intro hp9
                            refine m1g hA hS (dj := 90) rfl rfl rfl hp9 (Y.fieldAddr (k := 0) rfl Tryz.underlying61 rfl rfl Tryz.sizeOf3) rfl ?_
                            intro a hA
                            refine m1g hA hS (dj := 90) rfl rfl rfl hp9 (Y.load rfl Tryz.isAgg3 (fun w h => h.cell (i := 0) rfl rfl)) rfl ?_
                            clear hA a; intro a hA
                            refine m_callbg (dj := 90) hA hS rfl rfl rfl hp9 Tryz.call25 rfl rfl ((isID_c _ _).mono (fun e w' h => ⟨h.1, h.2 ▸ Gr.rf _⟩)) ?_
                            clear hA a; intro a w hA hS hg
                            refine m1g hA hS (dj := 90) rfl rfl rfl hp9 (Y.not rfl) rfl ?_
                            clear hA a; intro a hA
                            refine m1 hA hS (Y.pickF' rfl hp9 rfl) rfl ?_
                            clear hA a; intro a hA
                            exact m_nil (m_then ⟨hA.keep [95, 90, 10, 82, 8, 81, 80, 7, 40, 4, 5, 39, 38, 3, 1] rfl, hS⟩)
                          · clear hA hS a; intro a w hA hS
                            refine m1 hA hS (Y.move rfl) rfl ?_
                            clear hA a; intro a hA
                            replace hA := hA.keep [96, 10, 82, 8, 81, 80, 7, 40, 4, 5, 39, 38, 3, 1] rfl
                            apply m_or 6 102 96 hA hS rfl
                            · intro hp10
                              refine m1s hA (dj := 96) rfl rfl rfl hp10 rfl ?_
                              intro a hA
                              refine m1s hA (dj := 96) rfl rfl rfl hp10 rfl ?_
                              clear hA a; intro a hA
                              refine m1s hA (dj := 96) rfl rfl rfl hp10 rfl ?_
                              clear hA a; intro a hA
                              refine m1s hA (dj := 96) rfl rfl rfl hp10 rfl ?_
                              clear hA a; intro a hA
                              refine m1s hA (dj := 96) rfl rfl rfl hp10 rfl ?_
                              clear hA a; intro a hA
                              refine m1 hA hS (Y.pickT' rfl hp10 rfl) rfl ?_
                              clear hA a; intro a hA
                              exact m_nil (m_then ⟨hA.keep [102, 96, 10, 82, 8, 81, 80, 7, 40, 4, 5, 39, 38, 3, 1] rfl, hS⟩)
                            · intro hp10
                              refine m1g hA hS (dj := 96) rfl rfl rfl hp10 (Y.move rfl) rfl ?_
                              intro a hA
                              refine m1g hA hS (dj := 96) rfl rfl rfl hp10 (Y.fieldAddr (k := 0) rfl Tryz.underlying61 rfl rfl Tryz.sizeOf3) rfl ?_
                              clear hA a; intro a hA
                              refine m1g hA hS (dj := 96) rfl rfl rfl hp10 (Y.load rfl Tryz.isAgg3 (fun w h => h.cell (i := 0) rfl rfl)) rfl ?_
                              clear hA a; intro a hA
                              refine m1g hA hS (dj := 96) rfl rfl rfl hp10 (Y.look Tryz.underlying58 Tryz.underlying3 Tryz.zeroValue3 rfl rfl (fun w h => h.map (by simp) hbm him)) rfl ?_
                              clear hA a; intro a hA
                              refine m1g hA hS (dj := 96) rfl rfl rfl hp10 (Y.gtI rfl rfl) rfl ?_
                              clear hA a; intro a hA
                              refine m1 hA hS (Y.pickF' rfl hp10 rfl) rfl ?_
                              clear hA a; intro a hA
                              exact m_nil (m_then ⟨hA.keep [102, 96, 10, 82, 8, 81, 80, 7, 40, 4, 5, 39, 38, 3, 1] rfl, hS⟩)
                            · clear hA hS a; intro a w hA hS
                              refine m1 hA hS (Y.move rfl) rfl ?_
                              clear hA a; intro a hA
                              replace hA := hA.keep [103, 10, 82, 8, 81, 80, 7, 40, 4, 5, 39, 38, 3, 1] rfl
                              apply m_or 6 109 103 hA hS rfl
                              · intro hp11
                                refine m1s hA (dj := 103) rfl rfl rfl hp11 rfl ?_
                                intro a hA
                                refine m1s hA (dj := 103) rfl rfl rfl hp11 rfl ?_
                                clear hA a; intro a hA
                                refine m1s hA (dj := 103) rfl rfl rfl hp11 rfl ?_
                                clear hA a; intro a hA
                                refine m1s hA (dj := 103) rfl rfl rfl hp11 rfl ?_
                                clear hA a; intro a hA
                                refine m1s hA (dj := 103) rfl rfl rfl hp11 rfl ?_
                                clear hA a; intro a hA
                                refine m1 hA hS (Y.pickT' rfl hp11 rfl) rfl ?_
                                clear hA a; intro a hA
                                exact m_nil (m_then ⟨hA.keep [109, 103, 10, 82, 8, 81, 80, 7, 40, 4, 5, 39, 38, 3, 1] rfl, hS⟩)
                              · intro hp11
                                refine m1g hA hS (dj := 103) rfl rfl rfl hp11 (Y.fieldAddr (k := 1) rfl Tryz.underlying61 rfl rfl Tryz.sizeOf3) rfl ?_
                                intro a hA
                                refine m1g hA hS (dj := 103) rfl rfl rfl hp11 (Y.load rfl Tryz.isAgg3 (fun w h => h.cell (i := 0) rfl rfl)) rfl ?_
                                clear hA a; intro a hA
                                refine m1g hA hS (dj := 103) rfl rfl rfl hp11 (Y.fieldAddr (k := 0) rfl Tryz.underlying24 rfl rfl Tryz.sizeOf3) rfl ?_
                                clear hA a; intro a hA
                                refine m1g hA hS (dj := 103) rfl rfl rfl hp11 (Y.load rfl Tryz.isAgg3 (fun w h => h.cell (i := 2) rfl rfl)) rfl ?_
                                clear hA a; intro a hA
                                refine m1g hA hS (dj := 103) rfl rfl rfl hp11 (Y.leI rfl rfl) rfl ?_
                                clear hA a; intro a hA
                                refine m1 hA hS (Y.pickF' rfl hp11 rfl) rfl ?_
                                clear hA a; intro a hA
                                exact m_nil (m_then ⟨hA.keep [109, 103, 10, 82, 8, 81, 80, 7, 40, 4, 5, 39, 38, 3, 1] rfl, hS⟩)
                              · clear hA hS a; intro a w hA hS
                                refine m1 hA hS (Y.move rfl) rfl ?_
                                clear hA a; intro a hA
                                replace hA := hA.keep [110, 10, 82, 8, 81, 80, 7, 40, 4, 5, 39, 38, 3, 1] rfl
                                apply m_or 7 117 110 hA hS rfl
                                · intro hp12
                                  refine m1s hA (dj := 110) rfl rfl rfl hp12 rfl ?_
                                  intro a hA
                                  refine m1s hA (dj := 110) rfl rfl rfl hp12 rfl ?_
                                  clear hA a; intro a hA
                                  refine m1s hA (dj := 110) rfl rfl rfl hp12 rfl ?_
                                  clear hA a; intro a hA
                                  refine m1s hA (dj := 110) rfl rfl rfl hp12 rfl ?_
                                  clear hA a; intro a hA
                                  refine m1s hA (dj := 110) rfl rfl rfl hp12 rfl ?_
                                  clear hA a; intro a hA
                                  refine m1s hA (dj := 110) rfl rfl rfl hp12 rfl ?_
                                  clear hA a; intro a hA
                                  refine m1 hA hS (Y.pickT' rfl hp12 rfl) rfl ?_
                                  clear hA a; intro a hA
                                  exact m_nil (m_then ⟨hA.keep [117, 110, 10, 82, 8, 81, 80, 7, 40, 4, 5, 39, 38, 3, 1] rfl, hS⟩)
                                · intro hp12
                                  refine m1g hA hS (dj := 110) rfl rfl rfl hp12 (Y.fieldAddr (k := 1) rfl Tryz.underlying61 rfl rfl Tryz.sizeOf3) rfl ?_
                                  intro a hA
                                  refine m1g hA hS (dj := 110) rfl rfl rfl hp12 (Y.load rfl Tryz.isAgg3 (fun w h => h.cell (i := 0) rfl rfl)) rfl ?_
                                  clear hA a; intro a hA
                                  refine m1g hA hS (dj := 110) rfl rfl rfl hp12 (Y.fieldAddr (k := 0) rfl Tryz.underlying24 rfl rfl Tryz.sizeOf3) rfl ?_
                                  clear hA a; intro a hA
                                  refine m1g hA hS (dj := 110) rfl rfl rfl hp12 (Y.load rfl Tryz.isAgg3 (fun w h => h.cell (i := 2) rfl rfl)) rfl ?_
                                  clear hA a; intro a hA
                                  refine m1g hA hS (dj := 110) rfl rfl rfl hp12 (Y.addI rfl rfl (by omega)) rfl ?_
                                  clear hA a; intro a hA
                                  refine m1g hA hS (dj := 110) rfl rfl rfl hp12 (Y.gtI rfl rfl) rfl ?_
                                  clear hA a; intro a hA
                                  refine m1 hA hS (Y.pickF' rfl hp12 rfl) rfl ?_
                                  clear hA a; intro a hA
                                  exact m_nil (m_then ⟨hA.keep [117, 110, 10, 82, 8, 81, 80, 7, 40, 4, 5, 39, 38, 3, 1] rfl, hS⟩)
                                · clear hA hS a; intro a w hA hS
                                  refine m_nil ?_
                                  refine m_then ?_
                                  refine m_cond hA rfl (fun hc3 => ?_) (fun hc3 => ?_)
                                  · refine m_seq ?_
                                    refine m_region ?_
                                    refine m1 hA hS (Y.assign rfl) rfl ?_
                                    clear hA a; intro a hA
                                    refine m_nil ?_
                                    refine m_then ?_
                                    refine m_retc ?_
                                    refine r_then ?_
                                    refine r_block ?_
                                    refine r_then ?_
                                    refine r_then ?_
                                    refine r_block ?_
                                    refine r_then ?_
                                    refine r_block ?_
                                    refine r_then ?_
                                    refine r_then ?_
                                    refine r_block ?_
                                    refine r_then ?_
                                    refine m_ret1 hA Tryz.results8 rfl ?_
                                    refine ⟨ret_bool ?_, hS.gr0 (by simp)⟩
                                    simp only [Bool.or_eq_true, decide_eq_true_eq, Bool.not_eq_true'] at hc3
                                    refine (fin2 ?_).symm
                                    rw [hok2']
                                    rcases hc3 with (((h | h) | h) | h) | h
                                    · exact okInv_bad (.inl h)
                                    · exact okInv_bad (.inr (.inl (by rw [h]; simp)))
                                    · exact okInv_bad (.inr (.inr (.inl h)))
                                    · exact okInv_bad (.inr (.inr (.inr (.inl h))))
                                    · exact okInv_bad (.inr (.inr (.inr (.inr h))))
                                  · simp only [Bool.or_eq_false_iff, decide_eq_false_iff_not, Bool.not_eq_false'] at hc3
                                    refine m_skip ?_
                                    refine m_then ?_
                                    refine m_region ?_
                                    refine m1 hA hS (Y.fieldAddr (k := 0) rfl Tryz.underlying61 rfl rfl Tryz.sizeOf3) rfl ?_
                                    clear hA a; intro a hA
                                    refine m1 hA hS (Y.load rfl Tryz.isAgg3 (fun w h => h.cell (i := 0) rfl rfl)) rfl ?_
                                    clear hA a; intro a hA
                                    refine m1 hA hS (Y.assign rfl) rfl ?_
                                    clear hA a; intro a hA
                                    refine m_nil ?_
                                    refine n_block ?_
                                    refine m_then ?_
                                    refine m_region ?_
                                    refine m1 hA hS (Y.addI rfl rfl (by omega)) rfl ?_
                                    clear hA a; intro a hA
                                    refine m1 hA hS (Y.move rfl) rfl ?_
                                    clear hA a; intro a hA
                                    refine m_nil ?_
                                    replace hS := hS.gone
                                    exact m_then ⟨((j + 1 : Nat), y.who), by (try dsimp only); omega, hA.keep [82, 8, 81, 80, 7, 40, 4, 5, 39, 38, 3, 1] rfl, hS, by (try dsimp only); exact ⟨by omega, hok2'.trans (okInv_ok hc3.1.1.1.1 hc3.1.1.1.2 hc3.1.1.2 hc3.1.2 hc3.2)⟩⟩
                        · refine m_exit ?_
                          refine x_then ?_
                          refine x_then ?_
                          refine x_block ?_
                          refine m_then ?_
                          refine m_seq ?_
                          refine m_seq ?_
                          refine m_region ?_
                          refine m1 hA hS (Y.fieldAddr (k := 2) rfl Tryz.underlying46 rfl rfl Tryz.sizeOf38) rfl ?_
                          clear hA a; intro a hA
                          refine m1 hA hS (Y.load rfl Tryz.isAgg38 (fun w h => h.cell (i := 0) rfl rfl)) rfl ?_
                          clear hA a; intro a hA
                          refine m_callb hA hS Tryz.call26 rfl rfl (containsFuncInt_c _ _ _ x.mem _ _ (fun n => !isIDb n) _ (hin.mem.gr (hS.gr0 (by simp))) Tryz.call27 (fun W x _ => notID_c x W)) ?_
                          clear hA hS a; intro a w hA hS hg
                          refine m_nil ?_
                          refine m_then ?_
                          refine m_cond hA rfl (fun hc4 => ?_) (fun hc4 => ?_)
                          · refine m_seq ?_
                            refine m_region ?_
                            refine m1 hA hS (Y.assign rfl) rfl ?_
                            clear hA a; intro a hA
                            refine m_nil ?_
                            refine m_then ?_
                            refine m_retc ?_
                            refine r_then ?_
                            refine r_block ?_
                            refine r_then ?_
                            refine r_then ?_
                            refine r_block ?_
                            refine r_then ?_
                            refine m_ret1 hA Tryz.results8 rfl ?_
                            refine ⟨ret_bool (fin (okPs_mem hc4)).symm, hS.gr0 (by simp)⟩
                          · have hok3 : okInv H 0 x.inv = true := by
                              rw [hok2, List.drop_eq_nil_of_le (by omega)]
                              rfl
                            refine m_skip ?_
                            refine m_then ?_
                            refine m_seq ?_
                            refine m_region ?_
                            refine m1 hA hS (Y.fieldAddr (k := 0) rfl Tryz.underlying46 rfl rfl Tryz.sizeOf3) rfl ?_
                            clear hA a; intro a hA
                            refine m1 hA hS (Y.load rfl Tryz.isAgg3 (fun w h => h.cell (i := 0) rfl rfl)) rfl ?_
                            clear hA a; intro a hA
                            refine m1 hA hS (Y.assign rfl) rfl ?_
                            clear hA a; intro a hA
                            refine m_nil ?_
                            refine m_then ?_
                            refine m_region ?_
                            refine m1 hA hS (Y.move rfl) rfl ?_
                            clear hA a; intro a hA
                            refine m1 hA hS (Y.fieldAddr (k := 2) rfl Tryz.underlying46 rfl rfl Tryz.sizeOf38) rfl ?_
                            clear hA a; intro a hA
                            refine m1 hA hS (Y.load rfl Tryz.isAgg38 (fun w h => h.cell (i := 0) rfl rfl)) rfl ?_
                            clear hA a; intro a hA
                            refine m1 hA hS (Y.lenSl rfl Tryz.underlying38) rfl ?_
                            clear hA a; intro a hA
                            refine m1 hA hS (Y.addI rfl rfl (by omega)) rfl ?_
                            clear hA a; intro a hA
                            refine m1 hA hS (Y.assign rfl) rfl ?_
                            clear hA a; intro a hA
                            refine m_nil ?_
                            refine n_block ?_
                            refine m_then ?_
                            refine m_region ?_
                            refine m1 hA hS (Y.addI rfl rfl (by omega)) rfl ?_
                            clear hA a; intro a hA
                            refine m1 hA hS (Y.move rfl) rfl ?_
                            clear hA a; intro a hA
                            refine m_nil ?_
                            replace hS := hS.gone
                            exact m_then ⟨((k + 1 : Nat), many + m, x.id), by (try dsimp only); omega, hA.keep [40, 4, 5, 39, 38, 3, 1] rfl, hS, by (try dsimp only); exact ⟨by omega, by omega, by rw [hok', okPs_ok hc2.1.1.1.1 hc2.1.1.1.2 (by omega) (by omega) hc2.2 hok3 hc4, hml]⟩⟩
            · refine m_exit ?_
              refine x_then ?_
              refine x_then ?_
              refine x_block ?_
              refine m_then ?_
              refine m_seq ?_
              refine m_region ?_
              refine m1 hA hS (Y.move rfl) rfl ?_
              clear hA a; intro a hA
              refine m1 hA hS (Y.move rfl) rfl ?_
              clear hA a; intro a hA
              refine m1 hA hS (Y.lenMap Tryz.underlying58 rfl (fun w h => h.map (by simp) hbm him)) rfl ?_
              clear hA a; intro a hA
              refine m1 hA hS (Y.eqI rfl rfl) rfl ?_
              clear hA a; intro a hA
              refine m1 hA hS (Y.assign rfl) rfl ?_
              clear hA a; intro a hA
              refine m_nil ?_
              refine m_then ?_
              refine m_retc ?_
              refine m_ret1 hA Tryz.results8 rfl ?_
              refine ⟨ret_bool ?_, hS.gr0 (by simp)⟩
              rw [hv, hok, List.drop_eq_nil_of_le (by omega)]
              refine (decide_eq_decide.2 ?_ : _ = decide (many = keyCount H))
              show _ ↔ many = (keysL (pairsF 0 H.ps)).length
              omega
end Go.Proofs.YtljkhijdaaconaaGreat
