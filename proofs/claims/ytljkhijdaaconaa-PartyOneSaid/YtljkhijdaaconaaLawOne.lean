/- The law PartyOne, walked: it answers true. -/
import Derived.Test.YtljkhijdaaconaaSound
import Derived.Test.YtljkhijdaaconaaArgs
set_option linter.unusedVariables false
namespace Go.Proofs.Ytljkhijdaaconaa
open Go.RowKit

theorem Dos.at {w : World} {A : Option Addr} {n : Nat} {xs : List Act3} (h : Dos w A n xs) {j : Nat} (hj : j < n) : ∃ b o x, A = some ⟨b, o, none⟩ ∧ xs[j]? = some x ∧ w.cell? ⟨b, o + j * 3, none⟩ = some (.int .i64 x.k) ∧ w.cell? ⟨b, o + j * 3 + 1, none⟩ = some (.int .i64 x.a) ∧ w.cell? ⟨b, o + j * 3 + 2, none⟩ = some (.int .i64 x.b) := by
  obtain ⟨b, o, x, e, hx, h1, h2, h3⟩ := RowOf.get h hj
  exact ⟨b, o, x, e, hx, h1, h2, h3⟩
theorem any_take {α : Type} {f : α → Bool} {xs : List α} {j : Nat} {x : α} (h : xs[j]? = some x) : (xs.take (j + 1)).any f = ((xs.take j).any f || f x) := by
  rw [take_at h, List.any_append]; simp
theorem oneF_none {H H' : Hall} {k a b e : Int} (h : oneF H k a b = (H', e)) (he : e ≠ 0) : H' = noHall := by
  have key : ∀ F, change F H = (H', e) → H' = noHall := fun F h => by
    have := change_none (F := F) (h := H) (by rw [h]; exact he)
    rw [h] at this; exact this
  unfold oneF at h
  split at h
  · exact key _ h
  · split at h
    · exact key _ h
    · split at h
      · exact key _ h
      · split at h
        · exact key _ h
        · split at h
          · exact key _ h
          · split at h
            · exact key _ h
            · split at h
              · exact key _ h
              · split at h
                · exact key _ h
                · exact key _ h
set_option maxRecDepth 100000 in
set_option maxHeartbeats 4000000 in
theorem partyOne_c (H : Hall) (A : Option Addr) (n c : Nat) (l : List Act3) (Al : Option Addr) (nl cl : Nat) (w0 : World) (hP : Ptys w0 A n H.ps) (hL : Dos w0 Al nl l) :
    Calls Try.prog 3 #[.agg #[.int .i64 H.tick, .int .i64 H.last, .slice A n c], .slice Al nl cl] w0 fun e w' => e = .returned (.bool true) ∧ Gr w0 w' := by
  have hll := hL.le
  refine m_enter Try.func3 rfl Try.ntmps3 (Nat.le_of_ble_eq_true rfl) ?_
  intro a hA
  have hS := St.start w0
  refine m_seq ?_
  refine m_region ?_
  refine m_box hA hS rfl rfl ?_
  clear hA hS a; intro a b1 w hA hleb1 hgb1 hS
  refine m1 hA hS (Y.assign rfl) rfl ?_
  clear hA a; intro a hA
  refine m_nil ?_
  refine m_then ?_
  refine m_seq ?_
  refine m_seq ?_
  refine m_region ?_
  refine m_callb hA hS Try.call10 rfl rfl (awake_c _) ?_
  clear hA hS a; intro a w hA hS hg
  refine m1 hA hS (Y.not rfl) rfl ?_
  clear hA a; intro a hA
  refine m_nil ?_
  refine m_then ?_
  refine m_condF hA rfl (rfl) ?_
  refine m_skip ?_
  refine m_then ?_
  refine m_seq ?_
  refine m_seq ?_
  refine m_region ?_
  refine m1 hA hS (Y.loads rfl Try.isAgg24 Try.sizeOf24 (fun w h => h.cells (i := 0) rfl) rfl) rfl ?_
  clear hA a; intro a hA
  refine m_callb hA hS Try.call11 rfl rfl (small_c H A n c _ (hP.gr (hS.gr0 (by simp)))) ?_
  clear hA hS a; intro a w hA hS hg
  refine m1 hA hS (Y.not rfl) rfl ?_
  clear hA a; intro a hA
  refine m1 hA hS (Y.move rfl) rfl ?_
  clear hA a; intro a hA
  replace hA := hA.keep [17, 4, 2, 1] rfl
  apply m_or 4 21 17 hA hS rfl
  · intro hp1
    refine m1s hA (dj := 17) rfl rfl rfl hp1 rfl ?_
    intro a hA
    refine m1s hA (dj := 17) rfl rfl rfl hp1 rfl ?_
    clear hA a; intro a hA
    refine m1s hA (dj := 17) rfl rfl rfl hp1 rfl ?_
    clear hA a; intro a hA
    refine m1 hA hS (Y.pickT' rfl hp1 rfl) rfl ?_
    clear hA a; intro a hA
    exact m_nil (m_then ⟨hA.keep [21, 17, 4, 2, 1] rfl, hS⟩)
  · intro hp1
    refine m1g hA hS (dj := 17) rfl rfl rfl hp1 (Y.move rfl) rfl ?_
    intro a hA
    refine m1g hA hS (dj := 17) rfl rfl rfl hp1 (Y.lenSl rfl Try.underlying25) rfl ?_
    clear hA a; intro a hA
    refine m1g hA hS (dj := 17) rfl rfl rfl hp1 (Y.gtI rfl rfl) rfl ?_
    clear hA a; intro a hA
    refine m1 hA hS (Y.pickF' rfl hp1 rfl) rfl ?_
    clear hA a; intro a hA
    exact m_nil (m_then ⟨hA.keep [21, 17, 4, 2, 1] rfl, hS⟩)
  · clear hA hS a; intro a w hA hS
    refine m1 hA hS (Y.move rfl) rfl ?_
    clear hA a; intro a hA
    replace hA := hA.keep [22, 4, 2, 1] rfl
    apply m_or 4 26 22 hA hS rfl
    · intro hp2
      refine m1s hA (dj := 22) rfl rfl rfl hp2 rfl ?_
      intro a hA
      refine m1s hA (dj := 22) rfl rfl rfl hp2 rfl ?_
      clear hA a; intro a hA
      refine m1s hA (dj := 22) rfl rfl rfl hp2 rfl ?_
      clear hA a; intro a hA
      refine m1 hA hS (Y.pickT' rfl hp2 rfl) rfl ?_
      clear hA a; intro a hA
      exact m_nil (m_then ⟨hA.keep [26, 22, 4, 2, 1] rfl, hS⟩)
    · intro hp2
      refine m1g hA hS (dj := 22) rfl rfl rfl hp2 (Y.loads rfl Try.isAgg24 Try.sizeOf24 (fun w h => h.cells (i := 0) rfl) rfl) rfl ?_
      intro a hA
      refine m_callbg (dj := 22) hA hS rfl rfl rfl hp2 Try.call12 rfl rfl (valid_c H A n c _ (hP.gr (hS.gr0 (by simp)))) ?_
      clear hA a; intro a w hA hS hg
      refine m1g hA hS (dj := 22) rfl rfl rfl hp2 (Y.not rfl) rfl ?_
      clear hA a; intro a hA
      refine m1 hA hS (Y.pickF' rfl hp2 rfl) rfl ?_
      clear hA a; intro a hA
      exact m_nil (m_then ⟨hA.keep [26, 22, 4, 2, 1] rfl, hS⟩)
    · clear hA hS a; intro a w hA hS
      refine m_nil ?_
      refine m_then ?_
      refine m_cond hA rfl (fun hc => ?_) (fun hc => ?_)
      · refine m_seq ?_
        refine m_region ?_
        refine m1 hA hS (Y.assign rfl) rfl ?_
        clear hA a; intro a hA
        refine m_nil ?_
        refine m_then ?_
        refine m_retc ?_
        refine r_then ?_
        refine m_ret1 hA Try.results3 rfl ?_
        exact ⟨rfl, hS.gr0 (by simp)⟩
      · simp only [Bool.or_eq_false_iff, Bool.not_eq_false', decide_eq_false_iff_not] at hc
        have g := valid_iff.1 hc.2
        refine m_skip ?_
        refine m_then ?_
        refine m_seq ?_
        refine m_seq ?_
        refine m_region ?_
        refine m1 hA hS (Y.loads rfl Try.isAgg24 Try.sizeOf24 (fun w h => h.cells (i := 0) rfl) rfl) rfl ?_
        clear hA a; intro a hA
        refine m_callb hA hS Try.call13 rfl rfl (sound_c H g A n c _ (hP.gr (hS.gr0 (by simp)))) ?_
        clear hA hS a; intro a w hA hS hg
        refine m1 hA hS (Y.not rfl) rfl ?_
        clear hA a; intro a hA
        refine m_nil ?_
        refine m_then ?_
        refine m_condF hA rfl (rfl) ?_
        refine m_skip ?_
        refine m_then ?_
        refine m_seq ?_
        refine m_seq ?_
        refine m_region ?_
        refine m1 hA hS (Y.assign rfl) rfl ?_
        clear hA a; intro a hA
        refine m_nil ?_
        refine m_then ?_
        refine m_block ?_
        replace hS := hS.dropV (V' := [(0, w0), (0, w0)]) (by simp)
        -- LOST [4]
        refine m_loopX [2, 1] rfl hA (((0 : Nat), H, A, n, c, (0 : Nat), w0)) (fun x => [(5, .int .i64 (x.1 : Int))]) (fun x => [cB b1 [.int .i64 x.2.1.tick, .int .i64 x.2.1.last, .slice x.2.2.1 x.2.2.2.1 x.2.2.2.2.1] 24]) (fun x => [(x.2.2.2.2.2.1, x.2.2.2.2.2.2), (0, w0)]) (fun x => x.1 ≤ nl ∧ Good x.2.1 ∧ PtysL x.2.2.2.2.2.1 x.2.2.2.2.2.2 x.2.2.1 x.2.2.2.1 x.2.1.ps) (fun x => nl - x.1) (ks := [5]) rfl hS (⟨Nat.zero_le _, g, hP⟩) ?_
        clear hA hS a; rintro ⟨i, H1, A1, n1, c1, lo1, v1⟩ a w hA hS hj
        try dsimp only at hA
        try dsimp only at hS
        try dsimp only at hj
        obtain ⟨hi, g1, hP1⟩ := hj
        replace hA := hA.keep [5, 2, 1] rfl
        refine m_seq ?_
        refine m_seq ?_
        refine m_region ?_
        refine m1 hA hS (Y.move rfl) rfl ?_
        clear hA a; intro a hA
        refine m1 hA hS (Y.move rfl) rfl ?_
        clear hA a; intro a hA
        refine m1 hA hS (Y.lenSl rfl Try.underlying25) rfl ?_
        clear hA a; intro a hA
        refine m1 hA hS (Y.ltI rfl rfl) rfl ?_
        clear hA a; intro a hA
        refine m_nil ?_
        refine m_then ?_
        refine m_condP hA rfl (fun hlt => ?_) (fun hlt => ?_)
        · obtain ⟨bd, od, x, rfl, hx, d0, d1, d2⟩ := hL.at (j := i) (by omega)
          obtain ⟨H2, e2, h2⟩ : ∃ H2 e2, oneF H1 x.k x.a x.b = (H2, e2) := ⟨_, _, rfl⟩
          have hn1 := hP1.le
          have hl1 := hP1.len
          refine m_skip ?_
          refine m_then ?_
          refine m_seq ?_
          refine m_block ?_
          refine m_seq ?_
          refine m_cut (fun a w => ∃ bn A2 n2 c2 lo2 v2, Fits a 120 [(7, .int .i64 e2), (6, .pointer (some ⟨bn, 0, none⟩)), (5, .int .i64 (i : Int)), (2, .pointer (some ⟨b1, 0, none⟩)), (1, .slice (some ⟨bd, od, none⟩) nl cl)] ∧ St w [cB bn [.int .i64 H2.tick, .int .i64 H2.last, .slice A2 n2 c2] 24, cB b1 [.int .i64 H1.tick, .int .i64 H1.last, .slice A1 n1 c1] 24] [(lo2, v2), (lo1, v1), (0, w0)] ∧ PtysL lo2 v2 A2 n2 H2.ps) ?_ ?_
          · refine d_regionS [0, 4] [0, 1, 2, 3, 4, 6, 7, 8, 11] hS rfl 12 [false, false, false, false, false, false, false, false, false, false, false, false] rfl rfl ?_
            clear hS; intro w hS _
            have hQ := hS
            refine d_load 0 (bs' := [true, false, false, false, false, false, false, false, false, false, false, false]) hA hQ rfl rfl rfl (by kernel_rfl) (fun _ _ _ h => h) (Y.loads rfl Try.isAgg24 Try.sizeOf24 (fun w h => h.cells (i := 0) rfl) rfl) rfl ?_
            clear hA a; intro a hA
            refine d_take 1 (bs' := [true, true, false, false, false, false, false, false, false, false, false, false]) hA rfl rfl (by kernel_rfl) (fun _ _ _ h => h) (Y.move rfl) rfl ?_
            clear hA a; intro a hA
            refine d_take 2 (bs' := [true, true, true, false, false, false, false, false, false, false, false, false]) hA rfl rfl (by kernel_rfl) (fun _ _ _ h => h) (Y.move rfl) rfl ?_
            clear hA a; intro a hA
            refine d_take 3 (bs' := [true, true, true, true, false, false, false, false, false, false, false, false]) hA rfl rfl (by kernel_rfl) (fun _ _ _ h => h) (Y.indexAddrN rfl rfl Try.underlying25 Try.sizeOf32 (by omega)) rfl ?_
            clear hA a; intro a hA
            refine d_load 4 (bs' := [true, true, true, true, true, false, false, false, false, false, false, false]) hA hQ rfl rfl rfl (by kernel_rfl) (fun _ _ _ h => h) (Y.loads rfl Try.isAgg32 Try.sizeOf32 (fun w h => h.rds (by simp) (Nat.zero_le _) (Cs.three d0 d1 d2)) rfl) rfl ?_
            clear hA a; intro a hA
            refine d_two 5 9 (bi := [true, true, true, true, true, true, false, false, false, false, false, false]) (bj := [true, true, true, true, true, false, false, false, false, true, false, false]) false true rfl rfl (by kernel_rfl) ?_ ?_
            · refine m_call hA Try.call14 rfl rfl ((one_c H1 A1 n1 c1 x.k x.a x.b _ (PtysL.zero (hP1.ov (hS.at (by simp))))).mono ?_)
              rintro e w ⟨A2, n2, c2, rfl, hg2, hP2⟩
              refine ⟨_, rfl, ?_⟩
              clear hA a; intro a hA
              rw [h2] at hA hP2
              replace hQ := hQ.gr hg2
              obtain ⟨lo2, v2, hP2, hS⟩ := hS.keepP hg2 hP2
              refine m_nil (m_then ⟨fun h => (by cases h), ?_⟩)
              refine d_take 6 (bs' := [true, true, true, true, true, true, true, false, false, false, false, false]) hA rfl rfl (by kernel_rfl) (fun _ _ _ h => h) (Y.move rfl) rfl ?_
              clear hA a; intro a hA
              refine d_take 7 (bs' := [true, true, true, true, true, true, true, true, false, false, false, false]) hA rfl rfl (by kernel_rfl) (fun _ _ _ h => h) (Y.extract rfl rfl) rfl ?_
              clear hA a; intro a hA
              refine d_take 8 (bs' := [true, true, true, true, true, true, true, true, true, false, false, false]) hA rfl rfl (by kernel_rfl) (fun _ _ _ h => h) (Y.extract rfl rfl) rfl ?_
              clear hA a; intro a hA
              refine d_one 9 (bs' := [true, true, true, true, true, true, true, true, true, true, false, false]) true rfl (by kernel_rfl) ?_
              refine m_alloc hA hS Try.zeroValue24 rfl ?_
              clear hA hS a; intro a b2 w hA hleb2 hgb2 hS
              replace hQ := hQ.gr hgb2
              refine m_nil (m_then ⟨fun _ => hQ, ?_⟩)
              refine d_one 10 (bs' := [true, true, true, true, true, true, true, true, true, true, true, false]) false rfl (by kernel_rfl) ?_
              refine m_store 0 hA hS rfl rfl Try.sizeOf24 rfl rfl rfl rfl ?_
              clear hS; intro w hS
              refine m_nil (m_then ⟨fun h => (by cases h), ?_⟩)
              refine d_take 11 (bs' := [true, true, true, true, true, true, true, true, true, true, true, true]) hA rfl rfl (by kernel_rfl) (fun _ _ _ h => h) (Y.assign rfl) rfl ?_
              clear hA a; intro a hA
              refine d_done (by kernel_rfl) ?_
              refine m_then ?_
              exact ⟨_, _, _, _, _, _, hA.keep [7, 6, 5, 2, 1] rfl, hS, hP2⟩
            · refine m_alloc hA hS Try.zeroValue24 rfl ?_
              clear hA hS a; intro a b3 w hA hleb3 hgb3 hS
              replace hQ := hQ.gr hgb3
              refine m_nil (m_then ⟨fun _ => hQ, ?_⟩)
              refine d_one 5 (bs' := [true, true, true, true, true, true, false, false, false, true, false, false]) false rfl (by kernel_rfl) ?_
              refine m_call hA Try.call14 rfl rfl ((one_c H1 A1 n1 c1 x.k x.a x.b _ (PtysL.zero (hP1.ov (hS.at (by simp))))).mono ?_)
              rintro e w ⟨A2, n2, c2, rfl, hg2, hP2⟩
              refine ⟨_, rfl, ?_⟩
              clear hA a; intro a hA
              rw [h2] at hA hP2
              replace hQ := hQ.gr hg2
              obtain ⟨lo2, v2, hP2, hS⟩ := hS.keepP hg2 hP2
              refine m_nil (m_then ⟨fun h => (by cases h), ?_⟩)
              refine d_take 6 (bs' := [true, true, true, true, true, true, true, false, false, true, false, false]) hA rfl rfl (by kernel_rfl) (fun _ _ _ h => h) (Y.move rfl) rfl ?_
              clear hA a; intro a hA
              refine d_take 7 (bs' := [true, true, true, true, true, true, true, true, false, true, false, false]) hA rfl rfl (by kernel_rfl) (fun _ _ _ h => h) (Y.extract rfl rfl) rfl ?_
              clear hA a; intro a hA
              refine d_take 8 (bs' := [true, true, true, true, true, true, true, true, true, true, false, false]) hA rfl rfl (by kernel_rfl) (fun _ _ _ h => h) (Y.extract rfl rfl) rfl ?_
              clear hA a; intro a hA
              refine d_one 10 (bs' := [true, true, true, true, true, true, true, true, true, true, true, false]) false rfl (by kernel_rfl) ?_
              refine m_store 0 hA hS rfl rfl Try.sizeOf24 rfl rfl rfl rfl ?_
              clear hS; intro w hS
              refine m_nil (m_then ⟨fun h => (by cases h), ?_⟩)
              refine d_take 11 (bs' := [true, true, true, true, true, true, true, true, true, true, true, true]) hA rfl rfl (by kernel_rfl) (fun _ _ _ h => h) (Y.assign rfl) rfl ?_
              clear hA a; intro a hA
              refine d_done (by kernel_rfl) ?_
              refine m_then ?_
              exact ⟨_, _, _, _, _, _, hA.keep [7, 6, 5, 2, 1] rfl, hS, hP2⟩
          · clear hA hS a; rintro a w ⟨bn, A2, n2, c2, lo2, v2, hA, hS, hP2⟩
            have hP2z : ∀ w, St w [cB bn [.int .i64 H2.tick, .int .i64 H2.last, .slice A2 n2 c2] 24, cB b1 [.int .i64 H1.tick, .int .i64 H1.last, .slice A1 n1 c1] 24] [(lo2, v2), (lo1, v1), (0, w0)] → Ptys w A2 n2 H2.ps := fun w hS => PtysL.zero (hP2.ov (hS.at (by simp)))
            refine m_seq ?_
            refine m_seq ?_
            refine m_region ?_
            refine m1 hA hS (Y.move rfl) rfl ?_
            clear hA a; intro a hA
            refine m1 hA hS (Y.neI rfl rfl) rfl ?_
            clear hA a; intro a hA
            refine m_nil ?_
            refine m_then ?_
            refine m_condP hA rfl (fun hne => ?_) (fun hne => ?_)
            · have hno := oneF_none h2 hne
              refine m_seq ?_
              refine m_seq ?_
              refine m_region ?_
              refine m1 hA hS (Y.loads rfl Try.isAgg24 Try.sizeOf24 (fun w h => h.cells (i := 0) rfl) rfl) rfl ?_
              clear hA a; intro a hA
              refine m1 hA hS (Y.build (vs := []) (cs := [.int .i64 0, .int .i64 0, .slice none 0 0]) rfl (by kernel_rfl)) rfl ?_
              clear hA a; intro a hA
              refine m_callb hA hS Try.call15 rfl rfl (same_c H2 noHall A2 n2 c2 none 0 0 _ (hP2z _ hS) RowOf.nil) ?_
              clear hA hS a; intro a w hA hS hg
              refine m1 hA hS (Y.not rfl) rfl ?_
              clear hA a; intro a hA
              refine m_nil ?_
              refine m_then ?_
              refine m_condF hA rfl ((by rw [hno]; simp)) ?_
              refine m_skip ?_
              refine m_then ?_
              refine m_exit ?_
              refine x_then ?_
              refine x_block ?_
              refine m_then ?_
              refine m_region ?_
              refine m1 hA hS (Y.move rfl) rfl ?_
              clear hA a; intro a hA
              refine m1 hA hS (Y.addI rfl rfl (by omega)) rfl ?_
              clear hA a; intro a hA
              refine m1 hA hS (Y.assign rfl) rfl ?_
              clear hA a; intro a hA
              refine m_nil ?_
              replace hS := hS.gone.dropC
              exact m_then ⟨(i + 1, H1, A1, n1, c1, lo1, v1), by (try dsimp only); omega, hA.keep [5, 2, 1] rfl, hS, by (try dsimp only); exact ⟨by omega, g1, hP1⟩⟩
            · have he2 : e2 = 0 := Classical.not_not.1 hne
              subst he2
              obtain ⟨stp, _⟩ := step_one h2
              have hn2 := hP2.le
              have hl2 := hP2.len
              have hvf : (!valid H2) = false := by rw [valid_iff.2 stp.good]; rfl
              have hlast := stp.last
              have htick := stp.tick
              have f1 : (!true) = false := rfl
              have f2 : decide (H2.last < H1.last) = false := decide_eq_false (by omega)
              have gla0 := g1.la0
              have gla1 := g1.la1
              refine m_skip ?_
              refine m_then ?_
              refine m_seq ?_
              refine m_seq ?_
              refine m_region ?_
              refine m1 hA hS (Y.loads rfl Try.isAgg24 Try.sizeOf24 (fun w h => h.cells (i := 0) rfl) rfl) rfl ?_
              clear hA a; intro a hA
              refine m_callb hA hS Try.call12 rfl rfl (valid_c H2 A2 n2 c2 _ (hP2z _ hS)) ?_
              clear hA hS a; intro a w hA hS hg
              refine m1 hA hS (Y.not rfl) rfl ?_
              clear hA a; intro a hA
              refine m1 hA hS (Y.move rfl) rfl ?_
              clear hA a; intro a hA
              refine m1g hA hS (dj := 54) rfl rfl rfl hvf (Y.loads rfl Try.isAgg24 Try.sizeOf24 (fun w h => h.cells (i := 0) rfl) rfl) rfl ?_
              clear hA a; intro a hA
              refine m_callbg (dj := 54) hA hS rfl rfl rfl hvf Try.call13 rfl rfl (sound_c H2 stp.good A2 n2 c2 _ (hP2z _ hS)) ?_
              clear hA hS a; intro a w hA hS hg
              refine m1g hA hS (dj := 54) rfl rfl rfl hvf (Y.not rfl) rfl ?_
              clear hA a; intro a hA
              refine m1 hA hS (Y.pickF' rfl hvf rfl) rfl ?_
              clear hA a; intro a hA
              refine m1 hA hS (Y.move rfl) rfl ?_
              clear hA a; intro a hA
              refine m1g hA hS (dj := 59) rfl rfl rfl f1 (Y.fieldAddr (k := 1) rfl Try.underlying24 rfl rfl Try.sizeOf3) rfl ?_
              clear hA a; intro a hA
              refine m1g hA hS (dj := 59) rfl rfl rfl f1 (Y.load rfl Try.isAgg3 (fun w h => h.cell (i := 0) rfl rfl)) rfl ?_
              clear hA a; intro a hA
              refine m1g hA hS (dj := 59) rfl rfl rfl f1 (Y.fieldAddr (k := 1) rfl Try.underlying24 rfl rfl Try.sizeOf3) rfl ?_
              clear hA a; intro a hA
              refine m1g hA hS (dj := 59) rfl rfl rfl f1 (Y.load rfl Try.isAgg3 (fun w h => h.cell (i := 1) rfl rfl)) rfl ?_
              clear hA a; intro a hA
              refine m1g hA hS (dj := 59) rfl rfl rfl f1 (Y.ltI rfl rfl) rfl ?_
              clear hA a; intro a hA
              refine m1 hA hS (Y.pickF' rfl f1 rfl) rfl ?_
              clear hA a; intro a hA
              refine m1 hA hS (Y.move rfl) rfl ?_
              clear hA a; intro a hA
              refine m1g hA hS (dj := 66) rfl rfl rfl f2 (Y.fieldAddr (k := 0) rfl Try.underlying24 rfl rfl Try.sizeOf3) rfl ?_
              clear hA a; intro a hA
              refine m1g hA hS (dj := 66) rfl rfl rfl f2 (Y.load rfl Try.isAgg3 (fun w h => h.cell (i := 0) rfl rfl)) rfl ?_
              clear hA a; intro a hA
              refine m1g hA hS (dj := 66) rfl rfl rfl f2 (Y.fieldAddr (k := 0) rfl Try.underlying24 rfl rfl Try.sizeOf3) rfl ?_
              clear hA a; intro a hA
              refine m1g hA hS (dj := 66) rfl rfl rfl f2 (Y.load rfl Try.isAgg3 (fun w h => h.cell (i := 1) rfl rfl)) rfl ?_
              clear hA a; intro a hA
              refine m1g hA hS (dj := 66) rfl rfl rfl f2 (Y.ltI rfl rfl) rfl ?_
              clear hA a; intro a hA
              refine m1 hA hS (Y.pickF' rfl f2 rfl) rfl ?_
              clear hA a; intro a hA
              refine m_nil ?_
              refine m_then ?_
              refine m_condF hA rfl (decide_eq_false (by omega)) ?_
              refine m_skip ?_
              refine m_then ?_
              refine m_seq ?_
              refine m_seq ?_
              refine m_region ?_
              refine m1 hA hS (Y.assign rfl) rfl ?_
              clear hA a; intro a hA
              refine m_nil ?_
              refine m_then ?_
              refine m_block ?_
              refine m_loopX [6, 5, 2, 1] rfl hA ((0 : Nat)) (fun x => [(8, .int .i64 (x : Int))]) (fun _ => _) (fun _ => _) (fun x => x ≤ n2) (fun x => n2 - x) (ks := [8]) rfl hS (Nat.zero_le _) ?_
              clear hA hS a; rintro k a w hA hS hj
              try dsimp only at hA
              try dsimp only at hS
              try dsimp only at hj
              obtain hk := hj
              replace hA := hA.keep [8, 6, 5, 2, 1] rfl
              refine m_seq ?_
              refine m_seq ?_
              refine m_region ?_
              refine m1 hA hS (Y.move rfl) rfl ?_
              clear hA a; intro a hA
              refine m1 hA hS (Y.fieldAddr (k := 2) rfl Try.underlying24 rfl rfl Try.sizeOf22) rfl ?_
              clear hA a; intro a hA
              refine m1 hA hS (Y.load rfl Try.isAgg22 (fun w h => h.cell (i := 0) rfl rfl)) rfl ?_
              clear hA a; intro a hA
              refine m1 hA hS (Y.lenSl rfl Try.underlying22) rfl ?_
              clear hA a; intro a hA
              refine m1 hA hS (Y.ltI rfl rfl) rfl ?_
              clear hA a; intro a hA
              refine m_nil ?_
              refine m_then ?_
              refine m_condP hA rfl (fun hlt2 => ?_) (fun hlt2 => ?_)
              · obtain ⟨bb, o, q, M, m, mc, I, i', ic, rfl, hlo2, hq, p0, p1, p2, p3, hin⟩ := PtysL.at hP2 (j := k) (by omega)
                have hid := stp.ids q (List.mem_of_getElem? hq)
                have hv2 : (lo2, v2) ∈ [(lo2, v2), (lo1, v1), (0, w0)] := by simp
                have hv1 : (lo1, v1) ∈ [(lo2, v2), (lo1, v1), (0, w0)] := by simp
                refine m_skip ?_
                refine m_then ?_
                refine m_seq ?_
                refine m_block ?_
                refine m_seq ?_
                refine m_region ?_
                refine m1 hA hS (Y.fieldAddr (k := 2) rfl Try.underlying24 rfl rfl Try.sizeOf22) rfl ?_
                clear hA a; intro a hA
                refine m1 hA hS (Y.load rfl Try.isAgg22 (fun w h => h.cell (i := 0) rfl rfl)) rfl ?_
                clear hA a; intro a hA
                refine m1 hA hS (Y.move rfl) rfl ?_
                clear hA a; intro a hA
                refine m1 hA hS (Y.indexAddrN rfl rfl Try.underlying22 Try.sizeOf37 (by omega)) rfl ?_
                clear hA a; intro a hA
                refine m1 hA hS (Y.fieldAddr (k := 0) rfl Try.underlying37 rfl rfl Try.sizeOf3) rfl ?_
                clear hA a; intro a hA
                refine m1 hA hS (Y.load rfl Try.isAgg3 (fun w h => h.rd hv2 hlo2 (p0))) rfl ?_
                clear hA a; intro a hA
                refine m1 hA hS (Y.assign rfl) rfl ?_
                clear hA a; intro a hA
                refine m_nil ?_
                refine m_then ?_
                refine m_seq ?_
                refine m_region ?_
                refine m1 hA hS (Y.assign rfl) rfl ?_
                clear hA a; intro a hA
                refine m_nil ?_
                refine m_then ?_
                refine m_seq ?_
                refine m_seq ?_
                refine m_region ?_
                refine m1 hA hS (Y.assign rfl) rfl ?_
                clear hA a; intro a hA
                refine m_nil ?_
                refine m_then ?_
                refine m_block ?_
                refine m_loopX [9, 8, 6, 5, 2, 1] rfl hA (((0 : Nat), false)) (fun x => [(10, .bool x.2), (11, .int .i64 (x.1 : Int))]) (fun _ => _) (fun _ => _) (fun x => x.1 ≤ n1 ∧ x.2 = (H1.ps.take x.1).any (fun p => decide (p.id = q.id))) (fun x => n1 - x.1) (ks := [10, 11]) rfl hS (⟨Nat.zero_le _, rfl⟩) ?_
                clear hA hS a; rintro ⟨r, old⟩ a w hA hS hj
                try dsimp only at hA
                try dsimp only at hS
                try dsimp only at hj
                obtain ⟨hr, hold⟩ := hj
                replace hA := hA.keep [10, 11, 9, 8, 6, 5, 2, 1] rfl
                refine m_seq ?_
                refine m_seq ?_
                refine m_region ?_
                refine m1 hA hS (Y.move rfl) rfl ?_
                clear hA a; intro a hA
                refine m1 hA hS (Y.fieldAddr (k := 2) rfl Try.underlying24 rfl rfl Try.sizeOf22) rfl ?_
                clear hA a; intro a hA
                refine m1 hA hS (Y.load rfl Try.isAgg22 (fun w h => h.cell (i := 1) rfl rfl)) rfl ?_
                clear hA a; intro a hA
                refine m1 hA hS (Y.lenSl rfl Try.underlying22) rfl ?_
                clear hA a; intro a hA
                refine m1 hA hS (Y.ltI rfl rfl) rfl ?_
                clear hA a; intro a hA
                refine m_nil ?_
                refine m_then ?_
                refine m_condP hA rfl (fun hlt3 => ?_) (fun hlt3 => ?_)
                · obtain ⟨bb', o', p, M', m', mc', I', ii, ic', rfl, hlo1, hp, r0, r1, r2, r3, hin'⟩ := PtysL.at hP1 (j := r) (by omega)
                  refine m_skip ?_
                  refine m_then ?_
                  refine m_seq ?_
                  refine m_block ?_
                  refine m_region ?_
                  refine m1 hA hS (Y.move rfl) rfl ?_
                  clear hA a; intro a hA
                  refine m1 hA hS (Y.move rfl) rfl ?_
                  clear hA a; intro a hA
                  replace hA := hA.keep [94, 10, 11, 9, 8, 6, 5, 2, 1] rfl
                  apply m_or 9 103 94 hA hS rfl
                  · intro hp3
                    refine m1s hA (dj := 94) rfl rfl rfl hp3 rfl ?_
                    intro a hA
                    refine m1s hA (dj := 94) rfl rfl rfl hp3 rfl ?_
                    clear hA a; intro a hA
                    refine m1s hA (dj := 94) rfl rfl rfl hp3 rfl ?_
                    clear hA a; intro a hA
                    refine m1s hA (dj := 94) rfl rfl rfl hp3 rfl ?_
                    clear hA a; intro a hA
                    refine m1s hA (dj := 94) rfl rfl rfl hp3 rfl ?_
                    clear hA a; intro a hA
                    refine m1s hA (dj := 94) rfl rfl rfl hp3 rfl ?_
                    clear hA a; intro a hA
                    refine m1s hA (dj := 94) rfl rfl rfl hp3 rfl ?_
                    clear hA a; intro a hA
                    refine m1s hA (dj := 94) rfl rfl rfl hp3 rfl ?_
                    clear hA a; intro a hA
                    refine m1 hA hS (Y.pickT' rfl hp3 rfl) rfl ?_
                    clear hA a; intro a hA
                    exact m_nil (m_then ⟨hA.keep [103, 94, 10, 11, 9, 8, 6, 5, 2, 1] rfl, hS⟩)
                  · intro hp3
                    refine m1g hA hS (dj := 94) rfl rfl rfl hp3 (Y.fieldAddr (k := 2) rfl Try.underlying24 rfl rfl Try.sizeOf22) rfl ?_
                    intro a hA
                    refine m1g hA hS (dj := 94) rfl rfl rfl hp3 (Y.load rfl Try.isAgg22 (fun w h => h.cell (i := 1) rfl rfl)) rfl ?_
                    clear hA a; intro a hA
                    refine m1g hA hS (dj := 94) rfl rfl rfl hp3 (Y.move rfl) rfl ?_
                    clear hA a; intro a hA
                    refine m1g hA hS (dj := 94) rfl rfl rfl hp3 (Y.indexAddrN rfl rfl Try.underlying22 Try.sizeOf37 (by omega)) rfl ?_
                    clear hA a; intro a hA
                    refine m1g hA hS (dj := 94) rfl rfl rfl hp3 (Y.fieldAddr (k := 0) rfl Try.underlying37 rfl rfl Try.sizeOf3) rfl ?_
                    clear hA a; intro a hA
                    refine m1g hA hS (dj := 94) rfl rfl rfl hp3 (Y.load rfl Try.isAgg3 (fun w h => h.rd hv1 hlo1 (r0))) rfl ?_
                    clear hA a; intro a hA
                    refine m1g hA hS (dj := 94) rfl rfl rfl hp3 (Y.move rfl) rfl ?_
                    clear hA a; intro a hA
                    refine m1g hA hS (dj := 94) rfl rfl rfl hp3 (Y.eqI rfl rfl) rfl ?_
                    clear hA a; intro a hA
                    refine m1 hA hS (Y.pickF' rfl hp3 rfl) rfl ?_
                    clear hA a; intro a hA
                    exact m_nil (m_then ⟨hA.keep [103, 94, 10, 11, 9, 8, 6, 5, 2, 1] rfl, hS⟩)
                  · clear hA hS a; intro a w hA hS
                    refine m1 hA hS (Y.assign rfl) rfl ?_
                    clear hA a; intro a hA
                    refine m_nil ?_
                    refine n_block ?_
                    refine m_then ?_
                    refine m_region ?_
                    refine m1 hA hS (Y.move rfl) rfl ?_
                    clear hA a; intro a hA
                    refine m1 hA hS (Y.addI rfl rfl (by omega)) rfl ?_
                    clear hA a; intro a hA
                    refine m1 hA hS (Y.assign rfl) rfl ?_
                    clear hA a; intro a hA
                    refine m_nil ?_
                    exact m_then ⟨(r + 1, Bool.or old (decide (p.id = q.id))), by (try dsimp only); omega, hA.keep [10, 11, 9, 8, 6, 5, 2, 1] rfl, hS, by (try dsimp only); exact ⟨by omega, by rw [any_take hp, hold]⟩⟩
                · have hrn : r = H1.ps.length := by omega
                  rw [hrn, List.take_length] at hold
                  cases hold' : old with
                  | true => ?_
                  | false => ?_
                  · subst hold'
                    refine m_exit ?_
                    refine x_then ?_
                    refine x_then ?_
                    refine x_block ?_
                    refine m_then ?_
                    refine m_seq ?_
                    refine m_region ?_
                    refine m1 hA hS (Y.move rfl) rfl ?_
                    clear hA a; intro a hA
                    refine m1 hA hS (Y.not rfl) rfl ?_
                    clear hA a; intro a hA
                    refine m1 hA hS (Y.move rfl) rfl ?_
                    clear hA a; intro a hA
                    refine m1s hA (dj := 106) rfl rfl rfl rfl rfl ?_
                    clear hA a; intro a hA
                    refine m1s hA (dj := 106) rfl rfl rfl rfl rfl ?_
                    clear hA a; intro a hA
                    refine m1s hA (dj := 106) rfl rfl rfl rfl rfl ?_
                    clear hA a; intro a hA
                    refine m1s hA (dj := 106) rfl rfl rfl rfl rfl ?_
                    clear hA a; intro a hA
                    refine m1s hA (dj := 106) rfl rfl rfl rfl rfl ?_
                    clear hA a; intro a hA
                    refine m1s hA (dj := 106) rfl rfl rfl rfl rfl ?_
                    clear hA a; intro a hA
                    refine m1u hA (dj := 112) rfl rfl rfl rfl ?_
                    clear hA a; intro a hA
                    refine m1u hA (dj := 112) rfl rfl rfl rfl ?_
                    clear hA a; intro a hA
                    refine m1u hA (dj := 112) rfl rfl rfl rfl ?_
                    clear hA a; intro a hA
                    refine m1u hA (dj := 112) rfl rfl rfl rfl ?_
                    clear hA a; intro a hA
                    refine m1s hA (dj := 106) rfl rfl rfl rfl rfl ?_
                    clear hA a; intro a hA
                    refine m1 hA hS (Y.pickF' rfl rfl rfl) rfl ?_
                    clear hA a; intro a hA
                    refine m_nil ?_
                    refine m_then ?_
                    refine m_condF hA rfl (rfl) ?_
                    refine m_skip ?_
                    refine n_block ?_
                    refine m_then ?_
                    refine m_region ?_
                    refine m1 hA hS (Y.move rfl) rfl ?_
                    clear hA a; intro a hA
                    refine m1 hA hS (Y.addI rfl rfl (by omega)) rfl ?_
                    clear hA a; intro a hA
                    refine m1 hA hS (Y.assign rfl) rfl ?_
                    clear hA a; intro a hA
                    refine m_nil ?_
                    exact m_then ⟨k + 1, by (try dsimp only); omega, hA.keep [8, 6, 5, 2, 1] rfl, hS, by (try dsimp only); exact (by omega : k + 1 ≤ n2)⟩
                  · subst hold'
                    have hnew : q.id = H1.last + 1 ∧ H2.last = q.id := by
                      rcases hid with ⟨p, hp, e⟩ | h
                      · have := List.any_eq_false.1 hold.symm p hp
                        exact absurd e (by simpa using this)
                      · exact h
                    have f3 : decide (q.id ≠ H1.last + 1) = false := by simp [hnew.1]
                    refine m_exit ?_
                    refine x_then ?_
                    refine x_then ?_
                    refine x_block ?_
                    refine m_then ?_
                    refine m_seq ?_
                    refine m_region ?_
                    refine m1 hA hS (Y.move rfl) rfl ?_
                    clear hA a; intro a hA
                    refine m1 hA hS (Y.not rfl) rfl ?_
                    clear hA a; intro a hA
                    refine m1 hA hS (Y.move rfl) rfl ?_
                    clear hA a; intro a hA
                    refine m1g hA hS (dj := 106) rfl rfl rfl rfl (Y.move rfl) rfl ?_
                    clear hA a; intro a hA
                    refine m1g hA hS (dj := 106) rfl rfl rfl rfl (Y.fieldAddr (k := 1) rfl Try.underlying24 rfl rfl Try.sizeOf3) rfl ?_
                    clear hA a; intro a hA
                    refine m1g hA hS (dj := 106) rfl rfl rfl rfl (Y.load rfl Try.isAgg3 (fun w h => h.cell (i := 1) rfl rfl)) rfl ?_
                    clear hA a; intro a hA
                    refine m1g hA hS (dj := 106) rfl rfl rfl rfl (Y.addI rfl rfl (by omega)) rfl ?_
                    clear hA a; intro a hA
                    refine m1g hA hS (dj := 106) rfl rfl rfl rfl (Y.neI rfl rfl) rfl ?_
                    clear hA a; intro a hA
                    refine m1g hA hS (dj := 106) rfl rfl rfl rfl (Y.move rfl) rfl ?_
                    clear hA a; intro a hA
                    refine m1g hA hS (dj := 112) rfl rfl rfl f3 (Y.fieldAddr (k := 1) rfl Try.underlying24 rfl rfl Try.sizeOf3) rfl ?_
                    clear hA a; intro a hA
                    refine m1g hA hS (dj := 112) rfl rfl rfl f3 (Y.load rfl Try.isAgg3 (fun w h => h.cell (i := 0) rfl rfl)) rfl ?_
                    clear hA a; intro a hA
                    refine m1g hA hS (dj := 112) rfl rfl rfl f3 (Y.move rfl) rfl ?_
                    clear hA a; intro a hA
                    refine m1g hA hS (dj := 112) rfl rfl rfl f3 (Y.neI rfl rfl) rfl ?_
                    clear hA a; intro a hA
                    refine m1g hA hS (dj := 106) rfl rfl rfl rfl (Y.pickF' rfl f3 rfl) rfl ?_
                    clear hA a; intro a hA
                    refine m1 hA hS (Y.pickT' rfl rfl rfl) rfl ?_
                    clear hA a; intro a hA
                    refine m_nil ?_
                    refine m_then ?_
                    refine m_condF hA rfl ((by rw [hnew.2]; simp)) ?_
                    refine m_skip ?_
                    refine n_block ?_
                    refine m_then ?_
                    refine m_region ?_
                    refine m1 hA hS (Y.move rfl) rfl ?_
                    clear hA a; intro a hA
                    refine m1 hA hS (Y.addI rfl rfl (by omega)) rfl ?_
                    clear hA a; intro a hA
                    refine m1 hA hS (Y.assign rfl) rfl ?_
                    clear hA a; intro a hA
                    refine m_nil ?_
                    exact m_then ⟨k + 1, by (try dsimp only); omega, hA.keep [8, 6, 5, 2, 1] rfl, hS, by (try dsimp only); exact (by omega : k + 1 ≤ n2)⟩
              · refine m_exit ?_
                refine x_then ?_
                refine x_then ?_
                refine x_block ?_
                refine m_then ?_
                refine m_region ?_
                refine m1 hA hS (Y.loads rfl Try.isAgg24 Try.sizeOf24 (fun w h => h.cells (i := 0) rfl) rfl) rfl ?_
                clear hA a; intro a hA
                refine m_store 1 hA hS rfl rfl Try.sizeOf24 rfl rfl rfl rfl ?_
                clear hS; intro w hS
                refine m_nil ?_
                refine n_block ?_
                refine m_then ?_
                refine m_region ?_
                refine m1 hA hS (Y.move rfl) rfl ?_
                clear hA a; intro a hA
                refine m1 hA hS (Y.addI rfl rfl (by omega)) rfl ?_
                clear hA a; intro a hA
                refine m1 hA hS (Y.assign rfl) rfl ?_
                clear hA a; intro a hA
                refine m_nil ?_
                replace hS := (hS.gone).dropV (V' := [(lo2, v2), (0, w0)]) (fun p hp => by
                  rcases List.mem_cons.1 hp with rfl | hp
                  · simp
                  · simp at hp; subst hp; simp)
                exact m_then ⟨(i + 1, H2, A2, n2, c2, lo2, v2), by (try dsimp only); omega, hA.keep [5, 2, 1] rfl, hS, by (try dsimp only); exact ⟨by omega, stp.good, hP2⟩⟩
        · refine m_exit ?_
          refine x_then ?_
          refine x_then ?_
          refine x_block ?_
          refine m_then ?_
          refine m_seq ?_
          refine m_region ?_
          refine m1 hA hS (Y.assign rfl) rfl ?_
          clear hA a; intro a hA
          refine m_nil ?_
          refine m_then ?_
          refine m_retc ?_
          refine m_ret1 hA Try.results3 rfl ?_
          exact ⟨rfl, hS.gr0 (by simp)⟩
end Go.Proofs.Ytljkhijdaaconaa
