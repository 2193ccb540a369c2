/- The law PartyJoins, walked: it answers true. -/
import Derived.Test.YtljkhijdaaconaaLawLeaves
set_option linter.unusedVariables false
namespace Go.Proofs.Ytljkhijdaaconaa
open Go.RowKit

theorem cntW_le (who : Int) (l : List Inv) : cntW who l ≤ l.length := List.length_filter_le _ _
theorem cntP_le (who : Int) (c : Pty → Bool) : ∀ (ps : List Pty), (∀ p ∈ ps, p.inv.length ≤ 5) → cntP who c ps ≤ 5 * ps.length
  | [], _ => Nat.le_refl _
  | p :: ps, h => by
    have h1 := cntP_le who c ps (fun q hq => h q (by simp [hq]))
    have h2 := cntW_le who p.inv
    have h3 := h p (by simp)
    simp only [cntP, List.length_cons]
    split <;> omega
theorem cntP_take {who : Int} {c : Pty → Bool} {ps : List Pty} {j : Nat} {p : Pty} (h : ps[j]? = some p) : cntP who c (ps.take (j + 1)) = cntP who c (ps.take j) + if c p then cntW who p.inv else 0 := by rw [take_at h, cntP_snoc]
theorem cntW_take {who : Int} {l : List Inv} {j : Nat} {i : Inv} (h : l[j]? = some i) : cntW who (l.take (j + 1)) = cntW who (l.take j) + if i.who = who then 1 else 0 := by rw [take_at h, cntW_snoc]
theorem IntsL.pre {lo : Nat} {w : World} {A : Option Addr} {n : Nat} {xs : List Int} (h : IntsL lo w A n xs) {k : Nat} (hk : k ≤ n) : IntsL lo w A k (xs.take k) :=
  ⟨by rw [List.length_take, h.len]; omega, Nat.le_trans hk h.le, fun j x hj => h.2.2 j x (by
    rw [List.getElem?_take] at hj
    split at hj
    · exact hj
    · cases hj)⟩
set_option maxRecDepth 100000 in
set_option maxHeartbeats 8000000 in
theorem partyJoins_c (who id : Int) (H : Hall) (A : Option Addr) (n c : Nat) (w0 : World) (hP : Ptys w0 A n H.ps) :
    Calls Try.prog 5 #[.agg #[.int .i64 H.tick, .int .i64 H.last, .slice A n c], .int .i64 who, .int .i64 id] w0 fun e w' => e = .returned (.bool true) ∧ Gr w0 w' := by
  have hn := hP.le
  have hl := hP.len
  refine m_enter Try.func5 rfl Try.ntmps5 (Nat.le_of_ble_eq_true rfl) ?_
  intro a hA
  have hS := St.start w0
  refine m_seq ?_
  refine m_region ?_
  refine m_box hA hS rfl rfl ?_
  clear hA hS a; intro a b1 w hA hleb1 hgb1 hS
  refine m1 hA hS (Y.assign rfl) rfl ?_
  clear hA a; intro a hA
  refine m_nil ?_
  refine m_then ?_
  refine m_seq ?_
  refine m_seq ?_
  refine m_region ?_
  refine m_callb hA hS Try.call10 rfl rfl (awake_c _) ?_
  clear hA hS a; intro a w hA hS hg
  refine m1 hA hS (Y.not rfl) rfl ?_
  clear hA a; intro a hA
  refine m_nil ?_
  refine m_then ?_
  refine m_condF hA rfl (rfl) ?_
  refine m_skip ?_
  refine m_then ?_
  refine m_seq ?_
  refine m_seq ?_
  refine m_region ?_
  refine m1 hA hS (Y.loads rfl Try.isAgg24 Try.sizeOf24 (fun w h => h.cells (i := 0) rfl) rfl) rfl ?_
  clear hA a; intro a hA
  refine m_callb hA hS Try.call11 rfl rfl (small_c H A n c _ (hP.gr (hS.gr0 (by simp)))) ?_
  clear hA hS a; intro a w hA hS hg
  refine m1 hA hS (Y.not rfl) rfl ?_
  clear hA a; intro a hA
  refine m1 hA hS (Y.move rfl) rfl ?_
  clear hA a; intro a hA
  replace hA := hA.keep [31, 6, 3, 1, 2] rfl
  apply m_or 4 35 31 hA hS rfl
  · intro hp1
    refine m1s hA (dj := 31) rfl rfl rfl hp1 rfl ?_
    intro a hA
    refine m1s hA (dj := 31) rfl rfl rfl hp1 rfl ?_
    clear hA a; intro a hA
    refine m1s hA (dj := 31) rfl rfl rfl hp1 rfl ?_
    clear hA a; intro a hA
    refine m1 hA hS (Y.pickT' rfl hp1 rfl) rfl ?_
    clear hA a; intro a hA
    exact m_nil (m_then ⟨hA.keep [35, 31, 6, 3, 1, 2] rfl, hS⟩)
  · intro hp1
    refine m1g hA hS (dj := 31) rfl rfl rfl hp1 (Y.loads rfl Try.isAgg24 Try.sizeOf24 (fun w h => h.cells (i := 0) rfl) rfl) rfl ?_
    intro a hA
    refine m_callbg (dj := 31) hA hS rfl rfl rfl hp1 Try.call12 rfl rfl (valid_c H A n c _ (hP.gr (hS.gr0 (by simp)))) ?_
    clear hA a; intro a w hA hS hg
    refine m1g hA hS (dj := 31) rfl rfl rfl hp1 (Y.not rfl) rfl ?_
    clear hA a; intro a hA
    refine m1 hA hS (Y.pickF' rfl hp1 rfl) rfl ?_
    clear hA a; intro a hA
    exact m_nil (m_then ⟨hA.keep [35, 31, 6, 3, 1, 2] rfl, hS⟩)
  · clear hA hS a; intro a w hA hS
    refine m_nil ?_
    refine m_then ?_
    refine m_cond hA rfl (fun hc => ?_) (fun hc => ?_)
    · refine m_seq ?_
      refine m_region ?_
      refine m1 hA hS (Y.assign rfl) rfl ?_
      clear hA a; intro a hA
      refine m_nil ?_
      refine m_then ?_
      refine m_retc ?_
      refine r_then ?_
      refine m_ret1 hA Try.results5 rfl ?_
      exact ⟨rfl, hS.gr0 (by simp)⟩
    · simp only [Bool.or_eq_false_iff, Bool.not_eq_false'] at hc
      have g := valid_iff.1 hc.2
      have hln := g.ln
      have hinv5 : ∀ p ∈ H.ps, p.inv.length ≤ 5 := fun p hp => by have := g.sz p hp; omega
      obtain ⟨p, ok, hfd⟩ : ∃ p ok, findF id H.ps = (p, ok) := ⟨_, _, rfl⟩
      have hok : ∀ q ∈ H.ps, (ok && decide (q.id = id)) = decide (q.id = id) := fun q hq => by
        by_cases h : q.id = id
        · have := findF_mem g hq
          rw [h, hfd] at this
          rw [(Prod.mk.inj this).2]; rfl
        · simp [h]
      refine m_skip ?_
      refine m_then ?_
      refine m_seq ?_
      refine m_region ?_
      refine m1 hA hS (Y.loads rfl Try.isAgg24 Try.sizeOf24 (fun w h => h.cells (i := 0) rfl) rfl) rfl ?_
      clear hA a; intro a hA
      refine m1 hA hS (Y.move rfl) rfl ?_
      clear hA a; intro a hA
      refine m_call hA Try.call18 rfl rfl ((find2_c id H A n c 0 w0 _ hP ((hS.gr0 (by simp)).ov 0)).mono ?_)
      rintro e w ⟨M0, m0, mc0, I0, i0, ic0, rfl, hg0, hY0⟩
      refine ⟨_, rfl, ?_⟩
      clear hA a; intro a hA
      rw [hfd] at hA hY0
      replace hS := hS.gr hg0
      have hm0 : p.mem.length = m0 := hY0.mem.len
      have hi0 : p.inv.length = i0 := hY0.inv.len
      have hi0le := hY0.inv.le
      refine m1 hA hS (Y.move rfl) rfl ?_
      clear hA a; intro a hA
      refine m1 hA hS (Y.extract rfl rfl) rfl ?_
      clear hA a; intro a hA
      refine m1 hA hS (Y.extract rfl rfl) rfl ?_
      clear hA a; intro a hA
      refine m_alloc hA hS Try.zeroValue37 rfl ?_
      clear hA hS a; intro a b2 w hA hleb2 hgb2 hS
      refine m_store 0 hA hS rfl rfl Try.sizeOf37 rfl rfl rfl rfl ?_
      clear hS; intro w hS
      refine m1 hA hS (Y.assign rfl) rfl ?_
      clear hA a; intro a hA
      refine m_nil ?_
      refine m_then ?_
      refine m_seq ?_
      refine m_region ?_
      refine m1 hA hS (Y.assign rfl) rfl ?_
      clear hA a; intro a hA
      refine m1 hA hS (Y.assign rfl) rfl ?_
      clear hA a; intro a hA
      refine m_nil ?_
      refine m_then ?_
      refine m_seq ?_
      refine m_seq ?_
      refine m_region ?_
      refine m1 hA hS (Y.assign rfl) rfl ?_
      clear hA a; intro a hA
      refine m_nil ?_
      refine m_then ?_
      refine m_block ?_
      refine m_loopX [8, 7, 6, 3, 1, 2] rfl hA (((0 : Nat), (0 : Nat), (0 : Nat))) (fun x => [(9, .int .i64 (x.2.1 : Int)), (10, .int .i64 (x.2.2 : Int)), (11, .int .i64 (x.1 : Int))]) (fun _ => _) (fun _ => _) (fun x => x.1 ≤ n ∧ x.2.1 = cntP who (fun p => decide (p.id = id)) (H.ps.take x.1) ∧ x.2.2 = cntP who (fun p => !decide (p.id = id)) (H.ps.take x.1)) (fun x => n - x.1) (ks := [9, 10, 11]) rfl hS (⟨Nat.zero_le _, rfl, rfl⟩) ?_
      clear hA hS a; rintro ⟨j, na, no⟩ a w hA hS hj
      try dsimp only at hA
      try dsimp only at hS
      try dsimp only at hj
      obtain ⟨hj, hna, hno⟩ := hj
      replace hA := hA.keep [9, 10, 11, 8, 7, 6, 3, 1, 2] rfl
      refine m_seq ?_
      refine m_seq ?_
      refine m_region ?_
      refine m1 hA hS (Y.move rfl) rfl ?_
      clear hA a; intro a hA
      refine m1 hA hS (Y.fieldAddr (k := 2) rfl Try.underlying24 rfl rfl Try.sizeOf22) rfl ?_
      clear hA a; intro a hA
      refine m1 hA hS (Y.load rfl Try.isAgg22 (fun w h => h.cell (i := 1) rfl rfl)) rfl ?_
      clear hA a; intro a hA
      refine m1 hA hS (Y.lenSl rfl Try.underlying22) rfl ?_
      clear hA a; intro a hA
      refine m1 hA hS (Y.ltI rfl rfl) rfl ?_
      clear hA a; intro a hA
      refine m_nil ?_
      refine m_then ?_
      refine m_condP hA rfl (fun hlt => ?_) (fun hlt => ?_)
      · obtain ⟨bb, o, q, M, m, mc, I, i, ic, rfl, hq, p0, p1, p2, p3, hin⟩ := hP.at (j := j) (by omega)
        have hqm : q ∈ H.ps := List.mem_of_getElem? hq
        have hil := hin.inv.len
        have hile := hinv5 q hqm
        have hb1 := cntP_le who (fun p => decide (p.id = id)) (H.ps.take j) (fun p hp => hinv5 p (List.mem_of_mem_take hp))
        have hb2 := cntP_le who (fun p => !decide (p.id = id)) (H.ps.take j) (fun p hp => hinv5 p (List.mem_of_mem_take hp))
        rw [List.length_take] at hb1 hb2
        refine m_skip ?_
        refine m_then ?_
        refine m_seq ?_
        refine m_block ?_
        refine m_seq ?_
        refine m_region ?_
        refine m1 hA hS (Y.assign rfl) rfl ?_
        clear hA a; intro a hA
        refine m_nil ?_
        refine m_then ?_
        refine m_block ?_
        refine m_loopX [11, 8, 7, 6, 3, 1, 2] rfl hA (((0 : Nat), na, no)) (fun x => [(9, .int .i64 (x.2.1 : Int)), (10, .int .i64 (x.2.2 : Int)), (12, .int .i64 (x.1 : Int))]) (fun _ => _) (fun _ => _) (fun x => x.1 ≤ i ∧ x.2.1 = na + (if decide (q.id = id) = true then cntW who (q.inv.take x.1) else 0) ∧ x.2.2 = no + (if (!decide (q.id = id)) = true then cntW who (q.inv.take x.1) else 0)) (fun x => i - x.1) (ks := [9, 10, 12]) rfl hS (⟨Nat.zero_le _, by simp [cntW], by simp [cntW]⟩) ?_
        clear hA hS a; rintro ⟨r, ma, mo⟩ a w hA hS hj
        try dsimp only at hA
        try dsimp only at hS
        try dsimp only at hj
        obtain ⟨hr, hma, hmo⟩ := hj
        replace hA := hA.keep [9, 10, 12, 11, 8, 7, 6, 3, 1, 2] rfl
        refine m_seq ?_
        refine m_seq ?_
        refine m_region ?_
        refine m1 hA hS (Y.move rfl) rfl ?_
        clear hA a; intro a hA
        refine m1 hA hS (Y.fieldAddr (k := 2) rfl Try.underlying24 rfl rfl Try.sizeOf22) rfl ?_
        clear hA a; intro a hA
        refine m1 hA hS (Y.load rfl Try.isAgg22 (fun w h => h.cell (i := 1) rfl rfl)) rfl ?_
        clear hA a; intro a hA
        refine m1 hA hS (Y.move rfl) rfl ?_
        clear hA a; intro a hA
        refine m1 hA hS (Y.indexAddrN rfl rfl Try.underlying22 Try.sizeOf37 (by omega)) rfl ?_
        clear hA a; intro a hA
        refine m1 hA hS (Y.fieldAddr (k := 3) rfl Try.underlying37 rfl rfl Try.sizeOf35) rfl ?_
        clear hA a; intro a hA
        refine m1 hA hS (Y.load rfl Try.isAgg35 (fun w h => h.rd (by simp) (Nat.zero_le _) (p3))) rfl ?_
        clear hA a; intro a hA
        refine m1 hA hS (Y.lenSl rfl Try.underlying35) rfl ?_
        clear hA a; intro a hA
        refine m1 hA hS (Y.ltI rfl rfl) rfl ?_
        clear hA a; intro a hA
        refine m_nil ?_
        refine m_then ?_
        refine m_condP hA rfl (fun hlt2 => ?_) (fun hlt2 => ?_)
        · obtain ⟨bx, ox, x, rfl, hx, x0, x1⟩ := hin.inv.at (j := r) (by omega)
          have hcw := cntW_le who (q.inv.take r)
          rw [List.length_take] at hcw
          have htk := cntW_take (who := who) hx
          refine m_skip ?_
          refine m_then ?_
          refine m_seq ?_
          refine m_block ?_
          refine m_seq ?_
          refine m_region ?_
          refine m1 hA hS (Y.fieldAddr (k := 2) rfl Try.underlying24 rfl rfl Try.sizeOf22) rfl ?_
          clear hA a; intro a hA
          refine m1 hA hS (Y.load rfl Try.isAgg22 (fun w h => h.cell (i := 1) rfl rfl)) rfl ?_
          clear hA a; intro a hA
          refine m1 hA hS (Y.move rfl) rfl ?_
          clear hA a; intro a hA
          refine m1 hA hS (Y.indexAddrN rfl rfl Try.underlying22 Try.sizeOf37 (by omega)) rfl ?_
          clear hA a; intro a hA
          refine m1 hA hS (Y.fieldAddr (k := 3) rfl Try.underlying37 rfl rfl Try.sizeOf35) rfl ?_
          clear hA a; intro a hA
          refine m1 hA hS (Y.load rfl Try.isAgg35 (fun w h => h.rd (by simp) (Nat.zero_le _) (p3))) rfl ?_
          clear hA a; intro a hA
          refine m1 hA hS (Y.move rfl) rfl ?_
          clear hA a; intro a hA
          refine m1 hA hS (Y.indexAddrN rfl rfl Try.underlying35 Try.sizeOf44 (by omega)) rfl ?_
          clear hA a; intro a hA
          refine m1 hA hS (Y.fieldAddr (k := 0) rfl Try.underlying44 rfl rfl Try.sizeOf3) rfl ?_
          clear hA a; intro a hA
          refine m1 hA hS (Y.load rfl Try.isAgg3 (fun w h => h.rd (by simp) (Nat.zero_le _) (x0))) rfl ?_
          clear hA a; intro a hA
          refine m1 hA hS (Y.move rfl) rfl ?_
          clear hA a; intro a hA
          refine m1 hA hS (Y.eqI rfl rfl) rfl ?_
          clear hA a; intro a hA
          refine m_nil ?_
          refine m_then ?_
          refine m_condP hA rfl (fun hw => ?_) (fun hw => ?_)
          · rw [if_pos hw] at htk
            have hma5 : ma ≤ 1000 := by rw [hma]; split <;> omega
            have hmo5 : mo ≤ 1000 := by rw [hmo]; split <;> omega
            refine m_seq ?_
            refine m_region ?_
            refine m1 hA hS (Y.move rfl) rfl ?_
            clear hA a; intro a hA
            refine m1 hA hS (Y.move rfl) rfl ?_
            clear hA a; intro a hA
            replace hA := hA.keep [73, 9, 10, 12, 11, 8, 7, 6, 3, 1, 2] rfl
            apply m_and 9 82 73 hA hS rfl
            · intro hp2
              refine m1s hA (dj := 73) rfl rfl rfl hp2 rfl ?_
              intro a hA
              refine m1s hA (dj := 73) rfl rfl rfl hp2 rfl ?_
              clear hA a; intro a hA
              refine m1s hA (dj := 73) rfl rfl rfl hp2 rfl ?_
              clear hA a; intro a hA
              refine m1s hA (dj := 73) rfl rfl rfl hp2 rfl ?_
              clear hA a; intro a hA
              refine m1s hA (dj := 73) rfl rfl rfl hp2 rfl ?_
              clear hA a; intro a hA
              refine m1s hA (dj := 73) rfl rfl rfl hp2 rfl ?_
              clear hA a; intro a hA
              refine m1s hA (dj := 73) rfl rfl rfl hp2 rfl ?_
              clear hA a; intro a hA
              refine m1s hA (dj := 73) rfl rfl rfl hp2 rfl ?_
              clear hA a; intro a hA
              refine m1 hA hS (Y.pickF' rfl hp2 rfl) rfl ?_
              clear hA a; intro a hA
              exact m_nil (m_then ⟨hA.keep [82, 73, 9, 10, 12, 11, 8, 7, 6, 3, 1, 2] rfl, hS⟩)
            · intro hp2
              refine m1g hA hS (dj := 73) rfl rfl rfl hp2 (Y.fieldAddr (k := 2) rfl Try.underlying24 rfl rfl Try.sizeOf22) rfl ?_
              intro a hA
              refine m1g hA hS (dj := 73) rfl rfl rfl hp2 (Y.load rfl Try.isAgg22 (fun w h => h.cell (i := 1) rfl rfl)) rfl ?_
              clear hA a; intro a hA
              refine m1g hA hS (dj := 73) rfl rfl rfl hp2 (Y.move rfl) rfl ?_
              clear hA a; intro a hA
              refine m1g hA hS (dj := 73) rfl rfl rfl hp2 (Y.indexAddrN rfl rfl Try.underlying22 Try.sizeOf37 (by omega)) rfl ?_
              clear hA a; intro a hA
              refine m1g hA hS (dj := 73) rfl rfl rfl hp2 (Y.fieldAddr (k := 0) rfl Try.underlying37 rfl rfl Try.sizeOf3) rfl ?_
              clear hA a; intro a hA
              refine m1g hA hS (dj := 73) rfl rfl rfl hp2 (Y.load rfl Try.isAgg3 (fun w h => h.rd (by simp) (Nat.zero_le _) (p0))) rfl ?_
              clear hA a; intro a hA
              refine m1g hA hS (dj := 73) rfl rfl rfl hp2 (Y.move rfl) rfl ?_
              clear hA a; intro a hA
              refine m1g hA hS (dj := 73) rfl rfl rfl hp2 (Y.eqI rfl rfl) rfl ?_
              clear hA a; intro a hA
              refine m1 hA hS (Y.pickT' rfl hp2 rfl) rfl ?_
              clear hA a; intro a hA
              exact m_nil (m_then ⟨hA.keep [82, 73, 9, 10, 12, 11, 8, 7, 6, 3, 1, 2] rfl, hS⟩)
            · clear hA hS a; intro a w hA hS
              refine m_nil ?_
              refine m_then ?_
              refine m_cond hA rfl (fun hcd => ?_) (fun hcd => ?_)
              · rw [hok q hqm] at hcd
                refine m_region ?_
                refine m1 hA hS (Y.move rfl) rfl ?_
                clear hA a; intro a hA
                refine m1 hA hS (Y.addI rfl rfl (by omega)) rfl ?_
                clear hA a; intro a hA
                refine m1 hA hS (Y.assign rfl) rfl ?_
                clear hA a; intro a hA
                refine m_nil ?_
                refine n_block ?_
                refine m_then ?_
                refine m_region ?_
                refine m1 hA hS (Y.move rfl) rfl ?_
                clear hA a; intro a hA
                refine m1 hA hS (Y.addI rfl rfl (by omega)) rfl ?_
                clear hA a; intro a hA
                refine m1 hA hS (Y.assign rfl) rfl ?_
                clear hA a; intro a hA
                refine m_nil ?_
                exact m_then ⟨(r + 1, ma + 1, mo), by (try dsimp only); omega, hA.keep [9, 10, 12, 11, 8, 7, 6, 3, 1, 2] rfl, hS, by (try dsimp only); exact ⟨by omega, by rw [hma, if_pos hcd, if_pos hcd, htk]; omega, by rw [hmo, hcd]; simp⟩⟩
              · rw [hok q hqm] at hcd
                refine m_region ?_
                refine m1 hA hS (Y.move rfl) rfl ?_
                clear hA a; intro a hA
                refine m1 hA hS (Y.addI rfl rfl (by omega)) rfl ?_
                clear hA a; intro a hA
                refine m1 hA hS (Y.assign rfl) rfl ?_
                clear hA a; intro a hA
                refine m_nil ?_
                refine n_block ?_
                refine m_then ?_
                refine m_region ?_
                refine m1 hA hS (Y.move rfl) rfl ?_
                clear hA a; intro a hA
                refine m1 hA hS (Y.addI rfl rfl (by omega)) rfl ?_
                clear hA a; intro a hA
                refine m1 hA hS (Y.assign rfl) rfl ?_
                clear hA a; intro a hA
                refine m_nil ?_
                exact m_then ⟨(r + 1, ma, mo + 1), by (try dsimp only); omega, hA.keep [9, 10, 12, 11, 8, 7, 6, 3, 1, 2] rfl, hS, by (try dsimp only); exact ⟨by omega, by rw [hma, hcd]; simp, by rw [hmo, hcd, htk]; simp; omega⟩⟩
          · rw [if_neg hw] at htk
            refine m_skip ?_
            refine n_block ?_
            refine m_then ?_
            refine m_region ?_
            refine m1 hA hS (Y.move rfl) rfl ?_
            clear hA a; intro a hA
            refine m1 hA hS (Y.addI rfl rfl (by omega)) rfl ?_
            clear hA a; intro a hA
            refine m1 hA hS (Y.assign rfl) rfl ?_
            clear hA a; intro a hA
            refine m_nil ?_
            exact m_then ⟨(r + 1, ma, mo), by (try dsimp only); omega, hA.keep [9, 10, 12, 11, 8, 7, 6, 3, 1, 2] rfl, hS, by (try dsimp only); exact ⟨by omega, by rw [hma, htk]; simp, by rw [hmo, htk]; simp⟩⟩
        · have hri : r = q.inv.length := by omega
          rw [hri, List.take_length] at hma hmo
          refine m_exit ?_
          refine x_then ?_
          refine x_then ?_
          refine x_block ?_
          refine n_block ?_
          refine m_then ?_
          refine m_region ?_
          refine m1 hA hS (Y.move rfl) rfl ?_
          clear hA a; intro a hA
          refine m1 hA hS (Y.addI rfl rfl (by omega)) rfl ?_
          clear hA a; intro a hA
          refine m1 hA hS (Y.assign rfl) rfl ?_
          clear hA a; intro a hA
          refine m_nil ?_
          exact m_then ⟨(j + 1, ma, mo), by (try dsimp only); omega, hA.keep [9, 10, 11, 8, 7, 6, 3, 1, 2] rfl, hS, by (try dsimp only); exact ⟨by omega, by rw [cntP_take hq, hma, hna], by rw [cntP_take hq, hmo, hno]⟩⟩
      · have hjn : j = H.ps.length := by omega
        rw [hjn, List.take_length] at hna hno
        obtain ⟨Ya, ey, hacc⟩ : ∃ Ya ey, change (ansF who id true) H = (Ya, ey) := ⟨_, _, rfl⟩
        obtain ⟨N, en, hdec⟩ : ∃ N en, change (ansF who id false) H = (N, en) := ⟨_, _, rfl⟩
        refine m_exit ?_
        refine x_then ?_
        refine x_then ?_
        refine x_block ?_
        refine m_then ?_
        refine m_seq ?_
        refine m_region ?_
        refine m1 hA hS (Y.loads rfl Try.isAgg24 Try.sizeOf24 (fun w h => h.cells (i := 1) rfl) rfl) rfl ?_
        clear hA a; intro a hA
        refine m1 hA hS (Y.move rfl) rfl ?_
        clear hA a; intro a hA
        refine m1 hA hS (Y.move rfl) rfl ?_
        clear hA a; intro a hA
        refine m_call hA Try.call20 rfl rfl ((accept_v who id H A n c _ (hP.gr (hS.gr0 (by simp)))).mono ?_)
        rintro e w ⟨A1, n1, c1, rfl, hg1, hP1⟩
        refine ⟨_, rfl, ?_⟩
        clear hA a; intro a hA
        rw [hacc] at hA hP1
        obtain ⟨lo1, v1, hP1, hS⟩ := hS.keepP hg1 hP1
        refine m1 hA hS (Y.move rfl) rfl ?_
        clear hA a; intro a hA
        refine m1 hA hS (Y.extract rfl rfl) rfl ?_
        clear hA a; intro a hA
        refine m1 hA hS (Y.extract rfl rfl) rfl ?_
        clear hA a; intro a hA
        refine m_alloc hA hS Try.zeroValue24 rfl ?_
        clear hA hS a; intro a b3 w hA hleb3 hgb3 hS
        refine m_store 0 hA hS rfl rfl Try.sizeOf24 rfl rfl rfl rfl ?_
        clear hS; intro w hS
        refine m1 hA hS (Y.assign rfl) rfl ?_
        clear hA a; intro a hA
        refine m_nil ?_
        refine m_then ?_
        refine m_seq ?_
        refine m_region ?_
        refine m1 hA hS (Y.loads rfl Try.isAgg24 Try.sizeOf24 (fun w h => h.cells (i := 2) rfl) rfl) rfl ?_
        clear hA a; intro a hA
        refine m1 hA hS (Y.move rfl) rfl ?_
        clear hA a; intro a hA
        refine m1 hA hS (Y.move rfl) rfl ?_
        clear hA a; intro a hA
        refine m_call hA Try.call21 rfl rfl ((decline_v who id H A n c _ (hP.gr (hS.gr0 (by simp)))).mono ?_)
        rintro e w ⟨A2, n2, c2, rfl, hg2, hP2⟩
        refine ⟨_, rfl, ?_⟩
        clear hA a; intro a hA
        rw [hdec] at hA hP2
        obtain ⟨lo2, v2, hP2, hS⟩ := hS.keepP hg2 hP2
        by_cases h0 : cntP who (fun p => decide (p.id = id)) H.ps = 0
        · rw [joins_none g h0] at hacc hdec
          obtain rfl : (6 : Int) = ey := (Prod.mk.inj hacc).2
          obtain rfl : (6 : Int) = en := (Prod.mk.inj hdec).2
          refine m1 hA hS (Y.move rfl) rfl ?_
          clear hA a; intro a hA
          refine m1 hA hS (Y.extract rfl rfl) rfl ?_
          clear hA a; intro a hA
          refine m1 hA hS (Y.extract rfl rfl) rfl ?_
          clear hA a; intro a hA
          refine m_alloc hA hS Try.zeroValue24 rfl ?_
          clear hA hS a; intro a b4 w hA hleb4 hgb4 hS
          refine m_store 0 hA hS rfl rfl Try.sizeOf24 rfl rfl rfl rfl ?_
          clear hS; intro w hS
          refine m1 hA hS (Y.assign rfl) rfl ?_
          clear hA a; intro a hA
          refine m_nil ?_
          refine m_then ?_
          refine m_seq ?_
          refine m_seq ?_
          refine m_region ?_
          refine m1 hA hS (Y.move rfl) rfl ?_
          clear hA a; intro a hA
          refine m1 hA hS (Y.eqI rfl rfl) rfl ?_
          clear hA a; intro a hA
          refine m_nil ?_
          refine m_then ?_
          refine m_condT hA rfl (decide_eq_true (by omega)) ?_
          refine m_seq ?_
          refine m_region ?_
          refine m1 hA hS (Y.move rfl) rfl ?_
          clear hA a; intro a hA
          refine m1 hA hS (Y.eqI rfl rfl) rfl ?_
          clear hA a; intro a hA
          refine m1 hA hS (Y.move rfl) rfl ?_
          clear hA a; intro a hA
          replace hA := hA.keep [105, 16, 15, 14, 13, 10, 7, 6, 1, 2] rfl
          apply m_and 3 108 105 hA hS rfl
          · intro hp3
            refine m1s hA (dj := 105) rfl rfl rfl hp3 rfl ?_
            intro a hA
            refine m1s hA (dj := 105) rfl rfl rfl hp3 rfl ?_
            clear hA a; intro a hA
            refine m1 hA hS (Y.pickF' rfl hp3 rfl) rfl ?_
            clear hA a; intro a hA
            exact m_nil (m_then ⟨hA.keep [108, 105, 16, 15, 14, 13, 10, 7, 6, 1, 2] rfl, hS⟩)
          · intro hp3
            refine m1g hA hS (dj := 105) rfl rfl rfl hp3 (Y.move rfl) rfl ?_
            intro a hA
            refine m1g hA hS (dj := 105) rfl rfl rfl hp3 (Y.eqI rfl rfl) rfl ?_
            clear hA a; intro a hA
            refine m1 hA hS (Y.pickT' rfl hp3 rfl) rfl ?_
            clear hA a; intro a hA
            exact m_nil (m_then ⟨hA.keep [108, 105, 16, 15, 14, 13, 10, 7, 6, 1, 2] rfl, hS⟩)
          · clear hA hS a; intro a w hA hS
            refine m1 hA hS (Y.assign rfl) rfl ?_
            clear hA a; intro a hA
            refine m_nil ?_
            refine m_then ?_
            refine m_retc ?_
            refine r_then ?_
            refine m_ret1 hA Try.results5 rfl ?_
            exact ⟨ret_bool (by rfl), hS.gr0 (by simp)⟩
        · obtain ⟨p', q, Ya', N', r, h1, h2, h3, h4, h5, h6, h7, h8, h9, h10, h11, h12⟩ := joins_plain g h0
          rw [hfd] at h1
          rw [hacc] at h2
          rw [hdec] at h3
          obtain rfl := (Prod.mk.inj h1).1
          obtain rfl := (Prod.mk.inj h1).2
          obtain rfl := (Prod.mk.inj h2).1
          obtain rfl := (Prod.mk.inj h2).2
          obtain rfl := (Prod.mk.inj h3).1
          obtain rfl := (Prod.mk.inj h3).2
          have gN := (step_dec hdec).1.good
          have hn2 : N.ps.length = n2 := hP2.len
          have hlN := gN.ln
          have hinvN : ∀ p ∈ N.ps, p.inv.length ≤ 5 := fun p hp => by have := gN.sz p hp; omega
          refine m1 hA hS (Y.move rfl) rfl ?_
          clear hA a; intro a hA
          refine m1 hA hS (Y.extract rfl rfl) rfl ?_
          clear hA a; intro a hA
          refine m1 hA hS (Y.extract rfl rfl) rfl ?_
          clear hA a; intro a hA
          refine m_alloc hA hS Try.zeroValue24 rfl ?_
          clear hA hS a; intro a b5 w hA hleb5 hgb5 hS
          refine m_store 0 hA hS rfl rfl Try.sizeOf24 rfl rfl rfl rfl ?_
          clear hS; intro w hS
          refine m1 hA hS (Y.assign rfl) rfl ?_
          clear hA a; intro a hA
          refine m_nil ?_
          refine m_then ?_
          refine m_seq ?_
          refine m_seq ?_
          refine m_region ?_
          refine m1 hA hS (Y.move rfl) rfl ?_
          clear hA a; intro a hA
          refine m1 hA hS (Y.eqI rfl rfl) rfl ?_
          clear hA a; intro a hA
          refine m_nil ?_
          refine m_then ?_
          refine m_condF hA rfl (decide_eq_false (by omega)) ?_
          refine m_skip ?_
          refine m_then ?_
          refine m_seq ?_
          refine m_region ?_
          refine m1 hA hS (Y.loads rfl Try.isAgg24 Try.sizeOf24 (fun w h => h.cells (i := 1) rfl) rfl) rfl ?_
          clear hA a; intro a hA
          refine m1 hA hS (Y.move rfl) rfl ?_
          clear hA a; intro a hA
          refine m_call hA Try.call17 rfl rfl ((of_cc who Ya A1 n1 c1 _ (PtysL.zero (hP1.ov (hS.at (by simp))))).mono ?_)
          rintro e w ⟨M3, m3, mc3, I3, i3, ic3, rfl, hg3, hY3, hmc3⟩
          refine ⟨_, rfl, ?_⟩
          clear hA a; intro a hA
          rw [h4] at hA hY3
          obtain ⟨lo3, v3, hY3, hS⟩ := hS.keepY hg3 hY3
          have hm3 : q.mem.length = m3 := hY3.mem.len
          refine m1 hA hS (Y.move rfl) rfl ?_
          clear hA a; intro a hA
          refine m1 hA hS (Y.extract rfl rfl) rfl ?_
          clear hA a; intro a hA
          refine m1 hA hS (Y.extract rfl rfl) rfl ?_
          clear hA a; intro a hA
          refine m_alloc hA hS Try.zeroValue37 rfl ?_
          clear hA hS a; intro a b6 w hA hleb6 hgb6 hS
          refine m_store 0 hA hS rfl rfl Try.sizeOf37 rfl rfl rfl rfl ?_
          clear hS; intro w hS
          refine m1 hA hS (Y.assign rfl) rfl ?_
          clear hA a; intro a hA
          refine m_nil ?_
          refine m_then ?_
          refine m_seq ?_
          refine m_region ?_
          refine m1 hA hS (Y.loads rfl Try.isAgg24 Try.sizeOf24 (fun w h => h.cells (i := 1) rfl) rfl) rfl ?_
          clear hA a; intro a hA
          refine m1 hA hS (Y.move rfl) rfl ?_
          clear hA a; intro a hA
          refine m_call hA Try.call18 rfl rfl ((find2_c id N A2 n2 c2 lo2 v2 _ hP2 (hS.at (by simp))).mono ?_)
          rintro e w ⟨M4, m4, mc4, I4, i4, ic4, rfl, hg4, hY4⟩
          refine ⟨_, rfl, ?_⟩
          clear hA a; intro a hA
          rw [h8] at hA hY4
          replace hS := hS.gr hg4
          have hm4 : r.mem.length = m4 := hY4.mem.len
          have hi4 : r.inv.length = i4 := hY4.inv.len
          have hlm : q.mem.length = p.mem.length + 1 := by rw [h7]; simp
          have hpm5 : p.mem.length ≤ 1000000 := by
            have h9 := hY0.mem.le
            have := (step_acc hacc).1.good.sz
            rcases ofF_cases (step_acc hacc).1.good who with ⟨_, e⟩ | ⟨q', hq', _, e⟩
            · rw [h4] at e; cases e
            · rw [h4] at e
              have e' := (Prod.mk.inj e).1
              subst e'
              have := this q hq'
              omega
          obtain ⟨b3, o3, z, rfl, hlo3, hz, z0⟩ := IntsL.atL hY3.mem (j := m0) (by omega)
          have hzw : z = who := by
            have hz' : q.mem[m0]? = some z := hz
            rw [h7, List.getElem?_append_right (by omega), hm0, Nat.sub_self] at hz'
            simp at hz'; exact hz'.symm
          have hv3 : (lo3, v3) ∈ [(lo3, v3), (lo2, v2), (lo1, v1), (0, w0)] := List.mem_cons_self ..
          have hpre : q.mem.take m0 = p.mem := by rw [h7]; exact List.take_left' hm0
          have e0 : decide ((0 : Int) ≠ 0) = false := by decide
          have e1 : (!true) = false := rfl
          have e2 : decide (q.id ≠ id) = false := by simp [h5]
          have e3 : decide (q.leader ≠ p.leader) = false := by simp [h6]
          have e4 : decide ((m3 : Int) ≠ (m0 : Int) + 1) = false := decide_eq_false (by omega)
          have e5 : decide (z ≠ who) = false := by simp [hzw]
          refine m1 hA hS (Y.move rfl) rfl ?_
          clear hA a; intro a hA
          refine m1 hA hS (Y.extract rfl rfl) rfl ?_
          clear hA a; intro a hA
          refine m1 hA hS (Y.extract rfl rfl) rfl ?_
          clear hA a; intro a hA
          refine m_alloc hA hS Try.zeroValue37 rfl ?_
          clear hA hS a; intro a b7 w hA hleb7 hgb7 hS
          refine m_store 0 hA hS rfl rfl Try.sizeOf37 rfl rfl rfl rfl ?_
          clear hS; intro w hS
          refine m1 hA hS (Y.assign rfl) rfl ?_
          clear hA a; intro a hA
          refine m_nil ?_
          refine m_then ?_
          refine m_seq ?_
          refine m_seq ?_
          refine q_region hS rfl (by kernel_rfl) ?_
          refine q1 hA (Y.move rfl) rfl ?_
          clear hA a; intro a hA
          refine q1 hA (Y.neI rfl rfl) rfl ?_
          clear hA a; intro a hA
          refine q1 hA (Y.move rfl) rfl ?_
          clear hA a; intro a hA
          refine q1g hA (dj := 123) rfl rfl rfl e0 (Y.move rfl) rfl ?_
          clear hA a; intro a hA
          refine q1g hA (dj := 123) rfl rfl rfl e0 (Y.neI rfl rfl) rfl ?_
          clear hA a; intro a hA
          refine q1 hA (Y.pickF' rfl e0 rfl) rfl ?_
          clear hA a; intro a hA
          refine q1 hA (Y.move rfl) rfl ?_
          clear hA a; intro a hA
          refine q1g hA (dj := 127) rfl rfl rfl e0 (Y.move rfl) rfl ?_
          clear hA a; intro a hA
          refine q1g hA (dj := 127) rfl rfl rfl e0 (Y.not rfl) rfl ?_
          clear hA a; intro a hA
          refine q1 hA (Y.pickF' rfl e0 rfl) rfl ?_
          clear hA a; intro a hA
          refine q1 hA (Y.move rfl) rfl ?_
          clear hA a; intro a hA
          refine q1g hA (dj := 131) rfl rfl rfl e1 (Y.move rfl) rfl ?_
          clear hA a; intro a hA
          refine q1g hA (dj := 131) rfl rfl rfl e1 (Y.not rfl) rfl ?_
          clear hA a; intro a hA
          refine q1 hA (Y.pickF' rfl e1 rfl) rfl ?_
          clear hA a; intro a hA
          refine q1 hA (Y.move rfl) rfl ?_
          clear hA a; intro a hA
          refine q1g hA (dj := 135) rfl rfl rfl e1 (Y.fieldAddr (k := 0) rfl Try.underlying37 rfl rfl Try.sizeOf3) rfl ?_
          clear hA a; intro a hA
          refine q1g hA (dj := 135) rfl rfl rfl e1 (Y.load rfl Try.isAgg3 (fun w h => h.cell (i := 1) rfl rfl)) rfl ?_
          clear hA a; intro a hA
          refine q1g hA (dj := 135) rfl rfl rfl e1 (Y.move rfl) rfl ?_
          clear hA a; intro a hA
          refine q1g hA (dj := 135) rfl rfl rfl e1 (Y.neI rfl rfl) rfl ?_
          clear hA a; intro a hA
          refine q1 hA (Y.pickF' rfl e1 rfl) rfl ?_
          clear hA a; intro a hA
          refine q1 hA (Y.move rfl) rfl ?_
          clear hA a; intro a hA
          refine q1g hA (dj := 141) rfl rfl rfl e2 (Y.fieldAddr (k := 1) rfl Try.underlying37 rfl rfl Try.sizeOf3) rfl ?_
          clear hA a; intro a hA
          refine q1g hA (dj := 141) rfl rfl rfl e2 (Y.load rfl Try.isAgg3 (fun w h => h.cell (i := 1) rfl rfl)) rfl ?_
          clear hA a; intro a hA
          refine q1g hA (dj := 141) rfl rfl rfl e2 (Y.fieldAddr (k := 1) rfl Try.underlying37 rfl rfl Try.sizeOf3) rfl ?_
          clear hA a; intro a hA
          refine q1g hA (dj := 141) rfl rfl rfl e2 (Y.load rfl Try.isAgg3 (fun w h => h.cell (i := 4) rfl rfl)) rfl ?_
          clear hA a; intro a hA
          refine q1g hA (dj := 141) rfl rfl rfl e2 (Y.neI rfl rfl) rfl ?_
          clear hA a; intro a hA
          refine q1 hA (Y.pickF' rfl e2 rfl) rfl ?_
          clear hA a; intro a hA
          refine q1 hA (Y.move rfl) rfl ?_
          clear hA a; intro a hA
          refine q1g hA (dj := 148) rfl rfl rfl e3 (Y.fieldAddr (k := 2) rfl Try.underlying37 rfl rfl Try.sizeOf34) rfl ?_
          clear hA a; intro a hA
          refine q1g hA (dj := 148) rfl rfl rfl e3 (Y.load rfl Try.isAgg34 (fun w h => h.cell (i := 1) rfl rfl)) rfl ?_
          clear hA a; intro a hA
          refine q1g hA (dj := 148) rfl rfl rfl e3 (Y.lenSl rfl Try.underlying34) rfl ?_
          clear hA a; intro a hA
          refine q1g hA (dj := 148) rfl rfl rfl e3 (Y.fieldAddr (k := 2) rfl Try.underlying37 rfl rfl Try.sizeOf34) rfl ?_
          clear hA a; intro a hA
          refine q1g hA (dj := 148) rfl rfl rfl e3 (Y.load rfl Try.isAgg34 (fun w h => h.cell (i := 4) rfl rfl)) rfl ?_
          clear hA a; intro a hA
          refine q1g hA (dj := 148) rfl rfl rfl e3 (Y.lenSl rfl Try.underlying34) rfl ?_
          clear hA a; intro a hA
          refine q1g hA (dj := 148) rfl rfl rfl e3 (Y.addI rfl rfl (by omega)) rfl ?_
          clear hA a; intro a hA
          refine q1g hA (dj := 148) rfl rfl rfl e3 (Y.neI rfl rfl) rfl ?_
          clear hA a; intro a hA
          refine q1 hA (Y.pickF' rfl e3 rfl) rfl ?_
          clear hA a; intro a hA
          refine q1 hA (Y.move rfl) rfl ?_
          clear hA a; intro a hA
          refine q1g hA (dj := 158) rfl rfl rfl e4 (Y.fieldAddr (k := 2) rfl Try.underlying37 rfl rfl Try.sizeOf34) rfl ?_
          clear hA a; intro a hA
          refine q1g hA (dj := 158) rfl rfl rfl e4 (Y.load rfl Try.isAgg34 (fun w h => h.cell (i := 1) rfl rfl)) rfl ?_
          clear hA a; intro a hA
          refine q1g hA (dj := 158) rfl rfl rfl e4 (Y.fieldAddr (k := 2) rfl Try.underlying37 rfl rfl Try.sizeOf34) rfl ?_
          clear hA a; intro a hA
          refine q1g hA (dj := 158) rfl rfl rfl e4 (Y.load rfl Try.isAgg34 (fun w h => h.cell (i := 4) rfl rfl)) rfl ?_
          clear hA a; intro a hA
          refine q1g hA (dj := 158) rfl rfl rfl e4 (Y.lenSl rfl Try.underlying34) rfl ?_
          clear hA a; intro a hA
          refine q1g hA (dj := 158) rfl rfl rfl e4 (Y.indexAddrN rfl rfl Try.underlying34 Try.sizeOf3 (by omega)) rfl ?_
          clear hA a; intro a hA
          refine q1g hA (dj := 158) rfl rfl rfl e4 (Y.load rfl Try.isAgg3 (fun w h => h.rd hv3 hlo3 (z0))) rfl ?_
          clear hA a; intro a hA
          refine q1g hA (dj := 158) rfl rfl rfl e4 (Y.move rfl) rfl ?_
          clear hA a; intro a hA
          refine q1g hA (dj := 158) rfl rfl rfl e4 (Y.neI rfl rfl) rfl ?_
          clear hA a; intro a hA
          refine q1 hA (Y.pickF' rfl e4 rfl) rfl ?_
          clear hA a; intro a hA
          refine q1 hA (Y.move rfl) rfl ?_
          clear hA a; intro a hA
          refine q1g hA (dj := 169) rfl rfl rfl e5 (Y.fieldAddr (k := 2) rfl Try.underlying37 rfl rfl Try.sizeOf34) rfl ?_
          clear hA a; intro a hA
          refine q1g hA (dj := 169) rfl rfl rfl e5 (Y.load rfl Try.isAgg34 (fun w h => h.cell (i := 1) rfl rfl)) rfl ?_
          clear hA a; intro a hA
          refine q1g hA (dj := 169) rfl rfl rfl e5 (Y.fieldAddr (k := 2) rfl Try.underlying37 rfl rfl Try.sizeOf34) rfl ?_
          clear hA a; intro a hA
          refine q1g hA (dj := 169) rfl rfl rfl e5 (Y.load rfl Try.isAgg34 (fun w h => h.cell (i := 4) rfl rfl)) rfl ?_
          clear hA a; intro a hA
          refine q1g hA (dj := 169) rfl rfl rfl e5 (Y.lenSl rfl Try.underlying34) rfl ?_
          clear hA a; intro a hA
          refine q1g hA (dj := 169) rfl rfl rfl e5 (Y.slH (h := m0) rfl rfl Try.underlying34 Try.sizeOf3 (by omega)) rfl ?_
          clear hA a; intro a hA
          refine q1g hA (dj := 169) rfl rfl rfl e5 (Y.fieldAddr (k := 2) rfl Try.underlying37 rfl rfl Try.sizeOf34) rfl ?_
          clear hA a; intro a hA
          refine q1g hA (dj := 169) rfl rfl rfl e5 (Y.load rfl Try.isAgg34 (fun w h => h.cell (i := 4) rfl rfl)) rfl ?_
          clear hA a; intro a hA
          refine q_callg (dj := 169) _ hA rfl rfl rfl e5 Try.call19 rfl rfl (fun w hS => sameInts_c _ _ _ (q.mem.take m0) _ _ _ p.mem _ (IntsL.zero ((hY3.mem.pre (k := m0) (by omega)).ov (hS.at hv3))) (hY0.mem.gr (hS.gr0 (by simp)))) ?_
          clear hA a; intro a hA
          refine q1g hA (dj := 169) rfl rfl rfl e5 (Y.not rfl) rfl ?_
          clear hA a; intro a hA
          refine q1 hA (Y.pickF' rfl e5 rfl) rfl ?_
          clear hA a; intro a hA
          refine q_nil ?_
          clear hS; intro w hS
          refine m_then ?_
          refine m_condF hA rfl ((by rw [hpre]; simp)) ?_
          refine m_skip ?_
          refine m_then ?_
          refine m_seq ?_
          refine m_region ?_
          refine m1 hA hS (Y.assign rfl) rfl ?_
          clear hA a; intro a hA
          refine m_nil ?_
          refine m_then ?_
          refine m_seq ?_
          refine m_seq ?_
          refine m_region ?_
          refine m1 hA hS (Y.assign rfl) rfl ?_
          clear hA a; intro a hA
          refine m_nil ?_
          refine m_then ?_
          refine m_block ?_
          refine m_loopX [19, 15, 10, 7, 6, 1, 2] rfl hA (((0 : Nat), (0 : Nat))) (fun x => [(21, .int .i64 (x.2 : Int)), (22, .int .i64 (x.1 : Int))]) (fun _ => _) (fun _ => _) (fun x => x.1 ≤ n2 ∧ x.2 = cntP who (fun _ => true) (N.ps.take x.1)) (fun x => n2 - x.1) (ks := [21, 22]) rfl hS (⟨Nat.zero_le _, rfl⟩) ?_
          clear hA hS a; rintro ⟨j, na⟩ a w hA hS hj
          try dsimp only at hA
          try dsimp only at hS
          try dsimp only at hj
          obtain ⟨hj2, hnb⟩ := hj
          replace hA := hA.keep [21, 22, 19, 15, 10, 7, 6, 1, 2] rfl
          refine m_seq ?_
          refine m_seq ?_
          refine m_region ?_
          refine m1 hA hS (Y.move rfl) rfl ?_
          clear hA a; intro a hA
          refine m1 hA hS (Y.fieldAddr (k := 2) rfl Try.underlying24 rfl rfl Try.sizeOf22) rfl ?_
          clear hA a; intro a hA
          refine m1 hA hS (Y.load rfl Try.isAgg22 (fun w h => h.cell (i := 2) rfl rfl)) rfl ?_
          clear hA a; intro a hA
          refine m1 hA hS (Y.lenSl rfl Try.underlying22) rfl ?_
          clear hA a; intro a hA
          refine m1 hA hS (Y.ltI rfl rfl) rfl ?_
          clear hA a; intro a hA
          refine m_nil ?_
          refine m_then ?_
          refine m_condP hA rfl (fun hlt => ?_) (fun hlt => ?_)
          · obtain ⟨bb, o, q2, M, m, mc, I, i, ic, rfl, hlo2, hq, p0, p1, p2, p3, hin⟩ := PtysL.at hP2 (j := j) (by omega)
            have hqm : q2 ∈ N.ps := List.mem_of_getElem? hq
            have hv2 : (lo2, v2) ∈ [(lo3, v3), (lo2, v2), (lo1, v1), (0, w0)] := by simp
            have hil := hin.inv.len
            have hile := hinvN q2 hqm
            have hb1 := cntP_le who (fun _ => true) (N.ps.take j) (fun p hp => hinvN p (List.mem_of_mem_take hp))
            rw [List.length_take] at hb1
            refine m_skip ?_
            refine m_then ?_
            refine m_seq ?_
            refine m_block ?_
            refine m_seq ?_
            refine m_region ?_
            refine m1 hA hS (Y.assign rfl) rfl ?_
            clear hA a; intro a hA
            refine m_nil ?_
            refine m_then ?_
            refine m_block ?_
            refine m_loopX [22, 19, 15, 10, 7, 6, 1, 2] rfl hA (((0 : Nat), na)) (fun x => [(21, .int .i64 (x.2 : Int)), (23, .int .i64 (x.1 : Int))]) (fun _ => _) (fun _ => _) (fun x => x.1 ≤ i ∧ x.2 = na + cntW who (q2.inv.take x.1)) (fun x => i - x.1) (ks := [21, 23]) rfl hS (⟨Nat.zero_le _, by simp [cntW]⟩) ?_
            clear hA hS a; rintro ⟨t, ma⟩ a w hA hS hj
            try dsimp only at hA
            try dsimp only at hS
            try dsimp only at hj
            obtain ⟨hr, hma⟩ := hj
            replace hA := hA.keep [21, 23, 22, 19, 15, 10, 7, 6, 1, 2] rfl
            refine m_seq ?_
            refine m_seq ?_
            refine m_region ?_
            refine m1 hA hS (Y.move rfl) rfl ?_
            clear hA a; intro a hA
            refine m1 hA hS (Y.fieldAddr (k := 2) rfl Try.underlying24 rfl rfl Try.sizeOf22) rfl ?_
            clear hA a; intro a hA
            refine m1 hA hS (Y.load rfl Try.isAgg22 (fun w h => h.cell (i := 2) rfl rfl)) rfl ?_
            clear hA a; intro a hA
            refine m1 hA hS (Y.move rfl) rfl ?_
            clear hA a; intro a hA
            refine m1 hA hS (Y.indexAddrN rfl rfl Try.underlying22 Try.sizeOf37 (by omega)) rfl ?_
            clear hA a; intro a hA
            refine m1 hA hS (Y.fieldAddr (k := 3) rfl Try.underlying37 rfl rfl Try.sizeOf35) rfl ?_
            clear hA a; intro a hA
            refine m1 hA hS (Y.load rfl Try.isAgg35 (fun w h => h.rd hv2 hlo2 (p3))) rfl ?_
            clear hA a; intro a hA
            refine m1 hA hS (Y.lenSl rfl Try.underlying35) rfl ?_
            clear hA a; intro a hA
            refine m1 hA hS (Y.ltI rfl rfl) rfl ?_
            clear hA a; intro a hA
            refine m_nil ?_
            refine m_then ?_
            refine m_condP hA rfl (fun hlt2 => ?_) (fun hlt2 => ?_)
            · obtain ⟨bx, ox, x, rfl, hlx, hx, x0, x1⟩ := InvsL.atL hin.inv (j := t) (by omega)
              have hcw := cntW_le who (q2.inv.take t)
              rw [List.length_take] at hcw
              have htk := cntW_take (who := who) hx
              refine m_skip ?_
              refine m_then ?_
              refine m_seq ?_
              refine m_block ?_
              refine m_seq ?_
              refine m_region ?_
              refine m1 hA hS (Y.fieldAddr (k := 2) rfl Try.underlying24 rfl rfl Try.sizeOf22) rfl ?_
              clear hA a; intro a hA
              refine m1 hA hS (Y.load rfl Try.isAgg22 (fun w h => h.cell (i := 2) rfl rfl)) rfl ?_
              clear hA a; intro a hA
              refine m1 hA hS (Y.move rfl) rfl ?_
              clear hA a; intro a hA
              refine m1 hA hS (Y.indexAddrN rfl rfl Try.underlying22 Try.sizeOf37 (by omega)) rfl ?_
              clear hA a; intro a hA
              refine m1 hA hS (Y.fieldAddr (k := 3) rfl Try.underlying37 rfl rfl Try.sizeOf35) rfl ?_
              clear hA a; intro a hA
              refine m1 hA hS (Y.load rfl Try.isAgg35 (fun w h => h.rd hv2 hlo2 (p3))) rfl ?_
              clear hA a; intro a hA
              refine m1 hA hS (Y.move rfl) rfl ?_
              clear hA a; intro a hA
              refine m1 hA hS (Y.indexAddrN rfl rfl Try.underlying35 Try.sizeOf44 (by omega)) rfl ?_
              clear hA a; intro a hA
              refine m1 hA hS (Y.fieldAddr (k := 0) rfl Try.underlying44 rfl rfl Try.sizeOf3) rfl ?_
              clear hA a; intro a hA
              refine m1 hA hS (Y.load rfl Try.isAgg3 (fun w h => h.rd hv2 hlx (x0))) rfl ?_
              clear hA a; intro a hA
              refine m1 hA hS (Y.move rfl) rfl ?_
              clear hA a; intro a hA
              refine m1 hA hS (Y.eqI rfl rfl) rfl ?_
              clear hA a; intro a hA
              refine m_nil ?_
              refine m_then ?_
              refine m_condP hA rfl (fun hw => ?_) (fun hw => ?_)
              · rw [if_pos hw] at htk
                refine m_region ?_
                refine m1 hA hS (Y.move rfl) rfl ?_
                clear hA a; intro a hA
                refine m1 hA hS (Y.addI rfl rfl (by omega)) rfl ?_
                clear hA a; intro a hA
                refine m1 hA hS (Y.assign rfl) rfl ?_
                clear hA a; intro a hA
                refine m_nil ?_
                refine n_block ?_
                refine m_then ?_
                refine m_region ?_
                refine m1 hA hS (Y.move rfl) rfl ?_
                clear hA a; intro a hA
                refine m1 hA hS (Y.addI rfl rfl (by omega)) rfl ?_
                clear hA a; intro a hA
                refine m1 hA hS (Y.assign rfl) rfl ?_
                clear hA a; intro a hA
                refine m_nil ?_
                exact m_then ⟨(t + 1, ma + 1), by (try dsimp only); omega, hA.keep [21, 23, 22, 19, 15, 10, 7, 6, 1, 2] rfl, hS, by (try dsimp only); exact ⟨by omega, by rw [hma, htk]; omega⟩⟩
              · rw [if_neg hw] at htk
                refine m_skip ?_
                refine n_block ?_
                refine m_then ?_
                refine m_region ?_
                refine m1 hA hS (Y.move rfl) rfl ?_
                clear hA a; intro a hA
                refine m1 hA hS (Y.addI rfl rfl (by omega)) rfl ?_
                clear hA a; intro a hA
                refine m1 hA hS (Y.assign rfl) rfl ?_
                clear hA a; intro a hA
                refine m_nil ?_
                exact m_then ⟨(t + 1, ma), by (try dsimp only); omega, hA.keep [21, 23, 22, 19, 15, 10, 7, 6, 1, 2] rfl, hS, by (try dsimp only); exact ⟨by omega, by rw [hma, htk]; simp⟩⟩
            · have hri : t = q2.inv.length := by omega
              rw [hri, List.take_length] at hma
              refine m_exit ?_
              refine x_then ?_
              refine x_then ?_
              refine x_block ?_
              refine n_block ?_
              refine m_then ?_
              refine m_region ?_
              refine m1 hA hS (Y.move rfl) rfl ?_
              clear hA a; intro a hA
              refine m1 hA hS (Y.addI rfl rfl (by omega)) rfl ?_
              clear hA a; intro a hA
              refine m1 hA hS (Y.assign rfl) rfl ?_
              clear hA a; intro a hA
              refine m_nil ?_
              exact m_then ⟨(j + 1, ma), by (try dsimp only); omega, hA.keep [21, 22, 19, 15, 10, 7, 6, 1, 2] rfl, hS, by (try dsimp only); exact ⟨by omega, by rw [cntP_take hq, hma, hnb]; simp⟩⟩
          · have hjn2 : j = N.ps.length := by omega
            rw [hjn2, List.take_length, h11, ← hno] at hnb
            refine m_exit ?_
            refine x_then ?_
            refine x_then ?_
            refine x_block ?_
            refine m_then ?_
            refine m_seq ?_
            refine m_region ?_
            refine m1 hA hS (Y.loads rfl Try.isAgg24 Try.sizeOf24 (fun w h => h.cells (i := 2) rfl) rfl) rfl ?_
            clear hA a; intro a hA
            refine m1 hA hS (Y.move rfl) rfl ?_
            clear hA a; intro a hA
            refine m1 hA hS (Y.move rfl) rfl ?_
            clear hA a; intro a hA
            refine m_call hA Try.call21 rfl rfl ((decline_v who id N A2 n2 c2 _ (PtysL.zero (hP2.ov (hS.at (by simp))))).mono ?_)
            rintro e w ⟨A5, n5, c5, rfl, hg5, hP5⟩
            refine ⟨_, rfl, ?_⟩
            clear hA a; intro a hA
            rw [h12] at hA
            replace hS := hS.gr hg5
            have f1 : decide ((na : Int) = (no : Int)) = true := decide_eq_true (by omega)
            have f2 : decide ((6 : Int) = 6) = true := by decide
            have f3 : decide ((i4 : Int) = (i0 : Int) - 1) = true := decide_eq_true (by omega)
            refine m1 hA hS (Y.move rfl) rfl ?_
            clear hA a; intro a hA
            refine m1 hA hS (Y.extract rfl rfl) rfl ?_
            clear hA a; intro a hA
            refine m1 hA hS (Y.extract rfl rfl) rfl ?_
            clear hA a; intro a hA
            refine m_alloc hA hS Try.zeroValue24 rfl ?_
            clear hA hS a; intro a b8 w hA hleb8 hgb8 hS
            refine m_store 0 hA hS rfl rfl Try.sizeOf24 rfl rfl rfl rfl ?_
            clear hS; intro w hS
            refine m1 hA hS (Y.assign rfl) rfl ?_
            clear hA a; intro a hA
            refine m_nil ?_
            refine m_then ?_
            refine m_seq ?_
            refine m_region ?_
            refine m1 hA hS (Y.move rfl) rfl ?_
            clear hA a; intro a hA
            refine m1 hA hS (Y.move rfl) rfl ?_
            clear hA a; intro a hA
            refine m1 hA hS (Y.eqI rfl rfl) rfl ?_
            clear hA a; intro a hA
            refine m1 hA hS (Y.move rfl) rfl ?_
            clear hA a; intro a hA
            refine m1g hA hS (dj := 223) rfl rfl rfl f1 (Y.move rfl) rfl ?_
            clear hA a; intro a hA
            refine m1g hA hS (dj := 223) rfl rfl rfl f1 (Y.eqI rfl rfl) rfl ?_
            clear hA a; intro a hA
            refine m1 hA hS (Y.pickT' rfl f1 rfl) rfl ?_
            clear hA a; intro a hA
            refine m1 hA hS (Y.move rfl) rfl ?_
            clear hA a; intro a hA
            refine m1g hA hS (dj := 227) rfl rfl rfl f2 (Y.fieldAddr (k := 3) rfl Try.underlying37 rfl rfl Try.sizeOf35) rfl ?_
            clear hA a; intro a hA
            refine m1g hA hS (dj := 227) rfl rfl rfl f2 (Y.load rfl Try.isAgg35 (fun w h => h.cell (i := 1) rfl rfl)) rfl ?_
            clear hA a; intro a hA
            refine m1g hA hS (dj := 227) rfl rfl rfl f2 (Y.lenSl rfl Try.underlying35) rfl ?_
            clear hA a; intro a hA
            refine m1g hA hS (dj := 227) rfl rfl rfl f2 (Y.fieldAddr (k := 3) rfl Try.underlying37 rfl rfl Try.sizeOf35) rfl ?_
            clear hA a; intro a hA
            refine m1g hA hS (dj := 227) rfl rfl rfl f2 (Y.load rfl Try.isAgg35 (fun w h => h.cell (i := 5) rfl rfl)) rfl ?_
            clear hA a; intro a hA
            refine m1g hA hS (dj := 227) rfl rfl rfl f2 (Y.lenSl rfl Try.underlying35) rfl ?_
            clear hA a; intro a hA
            refine m1g hA hS (dj := 227) rfl rfl rfl f2 (Y.subI rfl rfl (by omega)) rfl ?_
            clear hA a; intro a hA
            refine m1g hA hS (dj := 227) rfl rfl rfl f2 (Y.eqI rfl rfl) rfl ?_
            clear hA a; intro a hA
            refine m1 hA hS (Y.pickT' rfl f2 rfl) rfl ?_
            clear hA a; intro a hA
            refine m1 hA hS (Y.move rfl) rfl ?_
            clear hA a; intro a hA
            refine m1g hA hS (dj := 237) rfl rfl rfl f3 (Y.fieldAddr (k := 2) rfl Try.underlying37 rfl rfl Try.sizeOf34) rfl ?_
            clear hA a; intro a hA
            refine m1g hA hS (dj := 237) rfl rfl rfl f3 (Y.load rfl Try.isAgg34 (fun w h => h.cell (i := 1) rfl rfl)) rfl ?_
            clear hA a; intro a hA
            refine m1g hA hS (dj := 237) rfl rfl rfl f3 (Y.fieldAddr (k := 2) rfl Try.underlying37 rfl rfl Try.sizeOf34) rfl ?_
            clear hA a; intro a hA
            refine m1g hA hS (dj := 237) rfl rfl rfl f3 (Y.load rfl Try.isAgg34 (fun w h => h.cell (i := 5) rfl rfl)) rfl ?_
            clear hA a; intro a hA
            refine m_callbg (dj := 237) hA hS rfl rfl rfl f3 Try.call19 rfl rfl (sameInts_c _ _ _ r.mem _ _ _ p.mem _ (IntsL.zero (hY4.mem.ov (hS.at (by simp)))) (hY0.mem.gr (hS.gr0 (by simp)))) ?_
            clear hA hS a; intro a w hA hS hg
            refine m1 hA hS (Y.pickT' rfl f3 rfl) rfl ?_
            clear hA a; intro a hA
            refine m1 hA hS (Y.assign rfl) rfl ?_
            clear hA a; intro a hA
            refine m_nil ?_
            refine m_then ?_
            refine m_retc ?_
            refine m_ret1 hA Try.results5 rfl ?_
            exact ⟨ret_bool (by rw [h9]; simp), hS.gr0 (by simp)⟩
end Go.Proofs.Ytljkhijdaaconaa
