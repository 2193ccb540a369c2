/- The law PartyWrong, walked: it answers true. -/
import Derived.Test.YtljkhijdaaconaaLawOthers
import Derived.Test.YtljkhijdaaconaaGiven
set_option linter.unusedVariables false
set_option linter.unusedSectionVars false
namespace Go.Proofs.Ytljkhijdaaconaa
open Go.RowKit

/-! ### Halls with one fault are not valid -/
theorem not_good {G : Hall} (h : ¬ Good G) : valid G = false := by
  cases e : valid G with
  | false => rfl
  | true => exact absurd (valid_iff.1 e) h
section
variable {H : Hall} {p0 p1 : Pty} {r : List Pty} (g : Good H) (hps : H.ps = p0 :: p1 :: r)
include g hps
theorem bad0 : valid ⟨H.tick, H.last, p0 :: { p1 with leader := p0.leader } :: r⟩ = false := not_good fun h => by
  have h1 : p0.leader ∈ p1.mem := h.ld { p1 with leader := p0.leader } (by simp)
  have h2 := g.ld p0 (by rw [hps]; simp)
  have h3 := g.nd
  rw [hps, memsL_cons, memsL_cons, List.nodup_append] at h3
  exact h3.2.2 _ h2 _ (by simp [h1]) rfl
theorem bad1 {m : Int} (hm : m ∈ p0.mem) : valid ⟨H.tick, H.last, p0 :: { p1 with mem := p1.mem ++ [m] } :: r⟩ = false := not_good fun h => by
  have h3 := h.nd
  simp only [memsL_cons] at h3
  rw [List.nodup_append] at h3
  exact h3.2.2 _ hm m (by simp) rfl
theorem bad2 : valid ⟨H.tick, H.last, p0 :: { p1 with id := p0.id } :: r⟩ = false := not_good fun h => by
  have := h.pw
  simp only [List.pairwise_cons] at this
  have := this.1 { p1 with id := p0.id } (by simp)
  simp only at this
  omega
theorem bad3 {pl : Pty} (hl : pl ∈ H.ps) : valid ⟨H.tick, pl.id - 1, p0 :: p1 :: r⟩ = false := not_good fun h => by
  have := (h.id pl (by rw [hps] at hl; exact hl)).2
  simp only at this
  omega
theorem bad4 {m : Int} (hm : m ∈ p1.mem) (t : Int) : valid ⟨H.tick, H.last, p0 :: { p1 with inv := ⟨m, t⟩ :: p1.inv } :: r⟩ = false := not_good fun h => by
  have := (h.iv { p1 with inv := ⟨m, t⟩ :: p1.inv } (by simp) ⟨m, t⟩ (by simp)).2.2.1
  exact this (by simp [memsL_cons, hm])
theorem bad5 : valid ⟨H.tick, H.last, p0 :: { p1 with mem := [] } :: r⟩ = false := not_good fun h => by
  have := h.ld { p1 with mem := [] } (by simp)
  simp at this
theorem bad6 : valid ⟨-1, H.last, p0 :: p1 :: r⟩ = false := not_good fun h => by
  have := h.ti0
  simp at this
theorem bad7 (w : Int) : valid ⟨H.tick, H.last, p0 :: { p1 with inv := [⟨w, H.tick⟩] } :: r⟩ = false := not_good fun h => by
  have := (h.iv { p1 with inv := [⟨w, H.tick⟩] } (by simp) ⟨w, H.tick⟩ (by simp)).2.2.2.1
  simp only at this
  omega
end
theorem oneF_bad {G : Hall} (hv : valid G = false) (k a b : Int) : oneF G k a b = (noHall, 2) := by
  unfold oneF
  simp only [change_bad hv]
  repeat' split
  all_goals rfl
theorem ofF_bad {G : Hall} (hv : valid G = false) (a : Int) : ofF a G = (noPty, false) := by unfold ofF; rw [if_neg (by rw [hv]; simp)]
theorem shareF_bad {G : Hall} (hv : valid G = false) (a b : Int) : shareF a b G = ([], 2) := by unfold shareF; rw [if_neg (by rw [hv]; simp)]
theorem St.fresh0 {w : World} {X bs : List Bx} {V : List (Nat × World)} (h : St w (X ++ bs) V) : Fresh 0 w bs :=
  ⟨fun x hx => h.bx x (List.mem_append_right _ hx), (List.pairwise_append.1 h.nd).2.1, fun _ _ => Nat.zero_le _⟩
/-- A hall whose first two parties stand out. -/
theorem HallB.two {gp n cap : Nat} {p0 p1 : Pty} {r : List Pty} {mv0 iv0 mv1 iv1 : Value} {cr rest : List Value} {b0 b1 br : List Bx} (hn : (p0 :: p1 :: r).length = n) (hle : n ≤ 100) (hc : n ≤ cap) (hm : cap ≤ maxLen) (hl : 8 + (cr ++ rest).length = cap * 4) (hr : PtysB cr r br)
    (h0 : PtyB [.int .i64 p0.id, .int .i64 p0.leader, mv0, iv0] p0 b0) (h1 : PtyB [.int .i64 p1.id, .int .i64 p1.leader, mv1, iv1] p1 b1) :
    HallB (.slice (some ⟨gp, 0, none⟩) n cap) (p0 :: p1 :: r) (cB gp ([.int .i64 p0.id, .int .i64 p0.leader, mv0, iv0, .int .i64 p1.id, .int .i64 p1.leader, mv1, iv1] ++ (cr ++ rest)) 37 :: (b0 ++ (b1 ++ br))) := by
  subst hn
  refine ⟨[.int .i64 p0.id, .int .i64 p0.leader, mv0, iv0, .int .i64 p1.id, .int .i64 p1.leader, mv1, iv1] ++ cr, [_], b0 ++ (b1 ++ br), ⟨?_, .inr ⟨gp, cap, _, rfl, rfl, hc, hm, ?_, ?_⟩⟩, ⟨_, [.int .i64 p1.id, .int .i64 p1.leader, mv1, iv1] ++ cr, b0, b1 ++ br, rfl, rfl, h0, _, cr, b1, br, rfl, rfl, h1, hr⟩, rfl, hle⟩
  · have := hr.len
    simp only [List.length_append, List.length_cons, List.length_nil, this]; omega
  · simp only [List.length_append, List.length_cons, List.length_nil] at hl ⊢; omega
  · have h5 := hr.len
    rw [← List.append_assoc, List.take_left']
    simp only [List.length_append, List.length_cons, List.length_nil, h5]; omega
theorem rem_u8 (a : Int) (h : 0 ≤ a ∧ a ≤ 255) (w : World) : (binOp .rem 5 (.int .u8 a) (.int .u8 8)).run Try.prog w = .ok (.int .u8 (a.tmod 8)) w := by
  have h0 := Int.tmod_nonneg 8 h.1
  have h1 := Int.tmod_lt_of_pos a (show (0 : Int) < 8 by decide)
  have e : IntKind.u8.wrap (a.tmod 8) = a.tmod 8 := by rw [IntKind.wrap_u8]; omega
  go_simp
set_option maxRecDepth 100000 in
set_option maxHeartbeats 8000000 in
theorem partyWrong_c (k a' b ft : Int) (hft : 0 ≤ ft ∧ ft ≤ 255) (H : Hall) (A : Option Addr) (n c : Nat) (w0 : World) (hP : Ptys w0 A n H.ps) :
    Calls Try.prog 9 #[.agg #[.int .i64 H.tick, .int .i64 H.last, .slice A n c], .agg #[.int .i64 k, .int .i64 a', .int .i64 b], .int .u8 ft] w0 fun e w' => e = .returned (.bool true) ∧ Gr w0 w' := by
  have hn := hP.le
  have hl := hP.len
  refine m_enter Try.func9 rfl Try.ntmps9 (Nat.le_of_ble_eq_true rfl) ?_
  intro a hA
  have hS := St.start w0
  refine m_seq ?_
  refine m_region ?_
  refine m_box hA hS rfl rfl ?_
  clear hA hS a; intro a b1 w hA hleb1 hgb1 hS
  refine m_box hA hS rfl rfl ?_
  clear hA hS a; intro a b2 w hA hleb2 hgb2 hS
  refine m1 hA hS (Y.assign rfl) rfl ?_
  clear hA a; intro a hA
  refine m_nil ?_
  refine m_then ?_
  refine m_seq ?_
  refine m_seq ?_
  refine m_region ?_
  refine m_callb hA hS Try.call10 rfl rfl (awake_c _) ?_
  clear hA hS a; intro a w hA hS hg
  refine m1 hA hS (Y.not rfl) rfl ?_
  clear hA a; intro a hA
  refine m_nil ?_
  refine m_then ?_
  refine m_condF hA rfl (rfl) ?_
  refine m_skip ?_
  refine m_then ?_
  refine m_seq ?_
  refine m_seq ?_
  refine m_region ?_
  refine m1 hA hS (Y.loads rfl Try.isAgg24 Try.sizeOf24 (fun w h => h.cells (i := 1) rfl) rfl) rfl ?_
  clear hA a; intro a hA
  refine m_callb hA hS Try.call11 rfl rfl (small_c H A n c _ (hP.gr (hS.gr0 (by simp)))) ?_
  clear hA hS a; intro a w hA hS hg
  refine m1 hA hS (Y.not rfl) rfl ?_
  clear hA a; intro a hA
  refine m1 hA hS (Y.move rfl) rfl ?_
  clear hA a; intro a hA
  replace hA := hA.keep [20, 6, 4, 3, 2] rfl
  apply m_or 4 24 20 hA hS rfl
  · intro hp1
    refine m1s hA (dj := 20) rfl rfl rfl hp1 rfl ?_
    intro a hA
    refine m1s hA (dj := 20) rfl rfl rfl hp1 rfl ?_
    clear hA a; intro a hA
    refine m1s hA (dj := 20) rfl rfl rfl hp1 rfl ?_
    clear hA a; intro a hA
    refine m1 hA hS (Y.pickT' rfl hp1 rfl) rfl ?_
    clear hA a; intro a hA
    exact m_nil (m_then ⟨hA.keep [24, 20, 6, 4, 3, 2] rfl, hS⟩)
  · intro hp1
    refine m1g hA hS (dj := 20) rfl rfl rfl hp1 (Y.loads rfl Try.isAgg24 Try.sizeOf24 (fun w h => h.cells (i := 1) rfl) rfl) rfl ?_
    intro a hA
    refine m_callbg (dj := 20) hA hS rfl rfl rfl hp1 Try.call12 rfl rfl (valid_c H A n c _ (hP.gr (hS.gr0 (by simp)))) ?_
    clear hA a; intro a w hA hS hg
    refine m1g hA hS (dj := 20) rfl rfl rfl hp1 (Y.not rfl) rfl ?_
    clear hA a; intro a hA
    refine m1 hA hS (Y.pickF' rfl hp1 rfl) rfl ?_
    clear hA a; intro a hA
    exact m_nil (m_then ⟨hA.keep [24, 20, 6, 4, 3, 2] rfl, hS⟩)
  · clear hA hS a; intro a w hA hS
    refine m1 hA hS (Y.move rfl) rfl ?_
    clear hA a; intro a hA
    replace hA := hA.keep [25, 6, 4, 3, 2] rfl
    apply m_or 5 30 25 hA hS rfl
    · intro hp2
      refine m1s hA (dj := 25) rfl rfl rfl hp2 rfl ?_
      intro a hA
      refine m1s hA (dj := 25) rfl rfl rfl hp2 rfl ?_
      clear hA a; intro a hA
      refine m1s hA (dj := 25) rfl rfl rfl hp2 rfl ?_
      clear hA a; intro a hA
      refine m1s hA (dj := 25) rfl rfl rfl hp2 rfl ?_
      clear hA a; intro a hA
      refine m1 hA hS (Y.pickT' rfl hp2 rfl) rfl ?_
      clear hA a; intro a hA
      exact m_nil (m_then ⟨hA.keep [30, 25, 6, 4, 3, 2] rfl, hS⟩)
    · intro hp2
      refine m1g hA hS (dj := 25) rfl rfl rfl hp2 (Y.fieldAddr (k := 2) rfl Try.underlying24 rfl rfl Try.sizeOf22) rfl ?_
      intro a hA
      refine m1g hA hS (dj := 25) rfl rfl rfl hp2 (Y.load rfl Try.isAgg22 (fun w h => h.cell (i := 1) rfl rfl)) rfl ?_
      clear hA a; intro a hA
      refine m1g hA hS (dj := 25) rfl rfl rfl hp2 (Y.lenSl rfl Try.underlying22) rfl ?_
      clear hA a; intro a hA
      refine m1g hA hS (dj := 25) rfl rfl rfl hp2 (Y.ltI rfl rfl) rfl ?_
      clear hA a; intro a hA
      refine m1 hA hS (Y.pickF' rfl hp2 rfl) rfl ?_
      clear hA a; intro a hA
      exact m_nil (m_then ⟨hA.keep [30, 25, 6, 4, 3, 2] rfl, hS⟩)
    · clear hA hS a; intro a w hA hS
      refine m_nil ?_
      refine m_then ?_
      refine m_cond hA rfl (fun hc => ?_) (fun hc => ?_)
      · refine m_seq ?_
        refine m_region ?_
        refine m1 hA hS (Y.assign rfl) rfl ?_
        clear hA a; intro a hA
        refine m_nil ?_
        refine m_then ?_
        refine m_retc ?_
        refine r_then ?_
        refine m_ret1 hA Try.results9 rfl ?_
        exact ⟨rfl, hS.gr0 (by simp)⟩
      · simp only [Bool.or_eq_false_iff, Bool.not_eq_false', decide_eq_false_iff_not] at hc
        have g := valid_iff.1 hc.1.2
        have hn2 : 2 ≤ n := by have := hc.2; omega
        have hln := g.ln
        have hq100 : ∀ p ∈ H.ps, p.mem.length ≤ 100 ∧ p.inv.length ≤ 100 := fun p hp => by have := g.sz p hp; omega
        have hti0 := g.ti0
        have hti1 := g.ti1
        obtain ⟨bh, oh, p0, M0, m0, mc0, I0, i0, ic0, rfl, hp0, x0, x1, x2, x3, hin0⟩ := hP.at (j := 0) (by omega)
        obtain ⟨p1, r, hps⟩ : ∃ p1 r, H.ps = p0 :: p1 :: r := by
          match hh : H.ps, hl, hp0 with
          | q :: p1 :: r, _, h => simp at h; exact ⟨p1, r, by rw [h]⟩
          | [q], h, _ => simp at h; omega
          | [], h, _ => simp at h; omega
        refine m_skip ?_
        refine m_then ?_
        refine m_seq ?_
        refine m_region ?_
        refine m1 hA hS (Y.loads rfl Try.isAgg24 Try.sizeOf24 (fun w h => h.cells (i := 1) rfl) rfl) rfl ?_
        clear hA a; intro a hA
        refine m_call hA Try.call27 rfl rfl ((given_c H _ n c _ (hP.gr (hS.gr0 (by simp))) (by omega) hq100).mono ?_)
        rintro e w ⟨pv, bs, rfl, hG, hg1, hf1⟩
        refine ⟨_, rfl, ?_⟩
        clear hA a; intro a hA
        obtain ⟨A1, c1, rfl, hP1⟩ := hG.read hf1
        obtain ⟨lo1, v1, hP1, hS⟩ := hS.keepP hg1 hP1
        refine m_call hA Try.call26 rfl rfl ((taken_c H A1 _ c1 _ (PtysL.zero (hP1.ov (hS.at (by simp)))) (by omega) hq100).mono ?_)
        rintro e w ⟨pv, bs, rfl, hT, hg2, hf2⟩
        refine ⟨_, rfl, ?_⟩
        clear hA a; intro a hA
        replace hS := hS.freshR hg2 hf2
        have hB := hT.b
        clear hT hf2
        obtain ⟨cs, br0, bp, hrow, hpp, rfl, _⟩ := hB
        obtain ⟨hrl, ⟨_, hz, _⟩ | ⟨gp, cap, cur, rfl, rfl, hcap, hmax, hcur, htk⟩⟩ := hrow
        · omega
        obtain ⟨rest, rfl⟩ : ∃ rest, cur = cs ++ rest := ⟨cur.drop (H.ps.length * 4), by rw [← htk, List.take_append_drop]⟩
        clear htk
        rw [hps] at hpp
        obtain ⟨c0, cs1, b0, bp1, rfl, rfl, h0, c1', cr, b1', br, rfl, rfl, h1, hcr⟩ := hpp
        have h0' := h0
        have h1' := h1
        obtain ⟨mv0, iv0, bm0, bi0, rfl, hm0, hi0, rfl, hm100, hi100⟩ := h0
        obtain ⟨mv1, iv1, bm1, bi1, rfl, hm1, hi1, rfl, hm1l, hi1l⟩ := h1
        have hle : H.ps.length ≤ 100 := by omega
        have hsz1 := g.sz p1 (by rw [hps]; simp)
        have hln2 : (p0 :: p1 :: r).length = n := by rw [← hps]; exact hl
        rw [hl] at hcap hA
        have hcl : 8 + (cr ++ rest).length = cap * 4 := by
          rw [← hcur]; simp only [List.length_append, List.length_cons, List.length_nil]; omega
        clear hcur hrl hP1 hG hf1
        have hr0 := Int.tmod_nonneg 8 hft.1
        have hr1 := Int.tmod_lt_of_pos ft (show (0 : Int) < 8 by decide)
        refine m_alloc hA hS Try.zeroValue24 rfl ?_
        clear hA hS a; intro a b3 w hA hleb3 hgb3 hS
        refine m_store 0 hA hS rfl rfl Try.sizeOf24 rfl rfl rfl rfl ?_
        clear hS; intro w hS
        refine m_nil ?_
        refine m_then ?_
        refine m_seq ?_
        refine m_region ?_
        refine m1 hA hS (Y.fieldAddr (k := 2) rfl Try.underlying24 rfl rfl Try.sizeOf22) rfl ?_
        clear hA a; intro a hA
        refine m1 hA hS (Y.load rfl Try.isAgg22 (fun w h => h.cell (i := 0) rfl rfl)) rfl ?_
        clear hA a; intro a hA
        refine m1 hA hS (Y.indexAddr (i := 1) rfl rfl Try.underlying22 Try.sizeOf37 (by omega) (by omega)) rfl ?_
        clear hA a; intro a hA
        refine m1 hA hS (Y.assign rfl) rfl ?_
        clear hA a; intro a hA
        refine m_nil ?_
        refine m_then ?_
        refine m_seqc (fun a w => ∃ (F : Hall) (pv : Value) (bs : List Bx), Fits a 176 [(7, .pointer (some ⟨b3, 0, none⟩)), (4, .pointer (some ⟨b2, 0, none⟩)), (3, .pointer (some ⟨b1, 0, none⟩))] ∧ valid F = false ∧ HallB pv F.ps bs ∧ St w ([cB b3 [.int .i64 F.tick, .int .i64 F.last, pv] 24, cB b2 [.int .i64 k, .int .i64 a', .int .i64 b] 32, cB b1 [.int .i64 H.tick, .int .i64 H.last, .slice (some ⟨bh, oh, none⟩) n c] 24] ++ bs) [(lo1, v1), (0, w0)]) ?_ ?_
        · refine m_seq ?_
          refine m_region ?_
          refine m1 hA hS (Y.move rfl) rfl ?_
          clear hA a; intro a hA
          refine m1 hA hS (Y.bin rfl rfl (fun w => by go_simp) (rem_u8 ft hft)) rfl ?_
          clear hA a; intro a hA
          refine m_nil ?_
          refine m_then ?_
          refine m_block ?_
          refine m_seq ?_
          refine m_region ?_
          refine m1 hA hS (Y.eqI rfl rfl) rfl ?_
          clear hA a; intro a hA
          refine m1 hA hS (Y.assign rfl) rfl ?_
          clear hA a; intro a hA
          refine m_nil ?_
          refine m_then ?_
          have hS0 := hS
          replace hS : St w ([cB b3 [.int .i64 H.tick, .int .i64 H.last, .slice (some ⟨gp, 0, none⟩) n cap] 24, cB b2 [.int .i64 k, .int .i64 a', .int .i64 b] 32, cB b1 [.int .i64 H.tick, .int .i64 H.last, .slice (some ⟨bh, oh, none⟩) n c] 24] ++ (cB gp ([.int .i64 p0.id, .int .i64 p0.leader, mv0, iv0, .int .i64 p1.id, .int .i64 p1.leader, mv1, iv1] ++ (cr ++ rest)) 37 :: ((bm0 ++ bi0) ++ ((bm1 ++ bi1) ++ br)))) [(lo1, v1), (0, w0)] := hS0
          clear hS0
          refine m_condP hA rfl (fun e0 => ?_) (fun e0 => ?_)
          · refine m_region ?_
            refine m1 hA hS (Y.move rfl) rfl ?_
            clear hA a; intro a hA
            refine m1 hA hS (Y.fieldAddr (k := 2) rfl Try.underlying24 rfl rfl Try.sizeOf22) rfl ?_
            clear hA a; intro a hA
            refine m1 hA hS (Y.load rfl Try.isAgg22 (fun w h => h.cell (i := 2) rfl rfl)) rfl ?_
            clear hA a; intro a hA
            refine m1 hA hS (Y.indexAddr (i := 0) rfl rfl Try.underlying22 Try.sizeOf37 (by omega) (by omega)) rfl ?_
            clear hA a; intro a hA
            refine m1 hA hS (Y.fieldAddr (k := 1) rfl Try.underlying37 rfl rfl Try.sizeOf3) rfl ?_
            clear hA a; intro a hA
            refine m1 hA hS (Y.load rfl Try.isAgg3 (fun w h => h.rd (by simp) (Nat.zero_le _) (x1))) rfl ?_
            clear hA a; intro a hA
            refine m1 hA hS (Y.nil rfl) rfl ?_
            clear hA a; intro a hA
            refine m1 hA hS (Y.fieldAddr (k := 1) rfl Try.underlying37 rfl rfl Try.sizeOf3) rfl ?_
            clear hA a; intro a hA
            refine m_storeP 3 ([.int .i64 p0.id, .int .i64 p0.leader, mv0, iv0, .int .i64 p1.id, .int .i64 p0.leader, mv1, iv1] ++ (cr ++ rest)) hA hS rfl rfl Try.sizeOf3 rfl rfl (by simp [Value.cells] <;> omega) (by simp [Value.cells, Value.oneCell']) rfl ?_
            clear hS; intro w hS
            refine m_nil ?_
            refine n_block ?_
            refine m_then ?_
            exact ⟨⟨H.tick, H.last, p0 :: { p1 with leader := p0.leader } :: r⟩, _, _, hA.keep [7, 4, 3] rfl, bad0 g hps, HallB.two (p1 := { p1 with leader := p0.leader }) hln2 (by omega) hcap hmax hcl hcr h0' ⟨mv1, iv1, bm1, bi1, rfl, hm1, hi1, rfl, hm1l, hi1l⟩, hS⟩
          · refine m_seq ?_
            refine m_region ?_
            refine m1 hA hS (Y.eqI rfl rfl) rfl ?_
            clear hA a; intro a hA
            refine m1 hA hS (Y.assign rfl) rfl ?_
            clear hA a; intro a hA
            refine m_nil ?_
            refine m_then ?_
            refine m_condP hA rfl (fun e1 => ?_) (fun e1 => ?_)
            · obtain ⟨bx, ox, y, rfl, hy, y0⟩ := hin0.mem.at (j := 0) (by have := g.ld p0 (by rw [hps]; simp); have h5 := hin0.mem.len; have := List.length_pos_of_mem this; omega)
              obtain ⟨A5, c5, rfl⟩ := hm1.shape
              refine d_region (fun w => St w [cB b3 [.int .i64 H.tick, .int .i64 H.last, .slice (some ⟨gp, 0, none⟩) n cap] 24, cB b2 [.int .i64 k, .int .i64 a', .int .i64 b] 32, cB b1 [.int .i64 H.tick, .int .i64 H.last, .slice (some ⟨bh, oh, none⟩) n c] 24, cB gp ([.int .i64 p0.id, .int .i64 p0.leader, mv0, iv0, .int .i64 p1.id, .int .i64 p1.leader, .slice A5 p1.mem.length c5, iv1] ++ (cr ++ rest)) 37] [(lo1, v1), (0, w0)]) [4, 6, 9, 11] [0, 1, 2, 3, 4, 5, 6, 7, 8, 9, 10, 11, 14, 15] _ _ hS rfl 17 [false, false, false, false, false, false, false, false, false, false, false, false, false, false, false, false, false] rfl rfl ?_
              clear hS; intro w hS _
              have hQ : St w [cB b3 [.int .i64 H.tick, .int .i64 H.last, .slice (some ⟨gp, 0, none⟩) n cap] 24, cB b2 [.int .i64 k, .int .i64 a', .int .i64 b] 32, cB b1 [.int .i64 H.tick, .int .i64 H.last, .slice (some ⟨bh, oh, none⟩) n c] 24, cB gp ([.int .i64 p0.id, .int .i64 p0.leader, mv0, iv0, .int .i64 p1.id, .int .i64 p1.leader, .slice A5 p1.mem.length c5, iv1] ++ (cr ++ rest)) 37] [(lo1, v1), (0, w0)] := hS.sub (List.sublist_append_left [_, _, _, _] _)
              refine d_take 0 (bs' := [true, false, false, false, false, false, false, false, false, false, false, false, false, false, false, false, false]) hA rfl rfl (by kernel_rfl) (fun _ _ _ h => h) (Y.move rfl) rfl ?_
              clear hA a; intro a hA
              refine d_take 1 (bs' := [true, true, false, false, false, false, false, false, false, false, false, false, false, false, false, false, false]) hA rfl rfl (by kernel_rfl) (fun _ _ _ h => h) (Y.move rfl) rfl ?_
              clear hA a; intro a hA
              refine d_take 2 (bs' := [true, true, true, false, false, false, false, false, false, false, false, false, false, false, false, false, false]) hA rfl rfl (by kernel_rfl) (fun _ _ _ h => h) (Y.nil rfl) rfl ?_
              clear hA a; intro a hA
              refine d_take 3 (bs' := [true, true, true, true, false, false, false, false, false, false, false, false, false, false, false, false, false]) hA rfl rfl (by kernel_rfl) (fun _ _ _ h => h) (Y.fieldAddr (k := 2) rfl Try.underlying37 rfl rfl Try.sizeOf34) rfl ?_
              clear hA a; intro a hA
              refine d_load 4 (bs' := [true, true, true, true, true, false, false, false, false, false, false, false, false, false, false, false, false]) hA hQ rfl rfl rfl (by kernel_rfl) (fun _ _ _ h => h) (Y.load rfl Try.isAgg34 (fun w h => h.cell (i := 3) rfl rfl)) rfl ?_
              clear hA a; intro a hA
              refine d_take 5 (bs' := [true, true, true, true, true, true, false, false, false, false, false, false, false, false, false, false, false]) hA rfl rfl (by kernel_rfl) (fun _ _ _ h => h) (Y.fieldAddr (k := 2) rfl Try.underlying24 rfl rfl Try.sizeOf22) rfl ?_
              clear hA a; intro a hA
              refine d_load 6 (bs' := [true, true, true, true, true, true, true, false, false, false, false, false, false, false, false, false, false]) hA hQ rfl rfl rfl (by kernel_rfl) (fun _ _ _ h => h) (Y.load rfl Try.isAgg22 (fun w h => h.cell (i := 2) rfl rfl)) rfl ?_
              clear hA a; intro a hA
              refine d_take 7 (bs' := [true, true, true, true, true, true, true, true, false, false, false, false, false, false, false, false, false]) hA rfl rfl (by kernel_rfl) (fun _ _ _ h => h) (Y.indexAddr (i := 0) rfl rfl Try.underlying22 Try.sizeOf37 (by omega) (by omega)) rfl ?_
              clear hA a; intro a hA
              refine d_take 8 (bs' := [true, true, true, true, true, true, true, true, true, false, false, false, false, false, false, false, false]) hA rfl rfl (by kernel_rfl) (fun _ _ _ h => h) (Y.fieldAddr (k := 2) rfl Try.underlying37 rfl rfl Try.sizeOf34) rfl ?_
              clear hA a; intro a hA
              refine d_load 9 (bs' := [true, true, true, true, true, true, true, true, true, true, false, false, false, false, false, false, false]) hA hQ rfl rfl rfl (by kernel_rfl) (fun _ _ _ h => h) (Y.load rfl Try.isAgg34 (fun w h => h.rd (by simp) (Nat.zero_le _) (x2))) rfl ?_
              clear hA a; intro a hA
              refine d_take 10 (bs' := [true, true, true, true, true, true, true, true, true, true, true, false, false, false, false, false, false]) hA rfl rfl (by kernel_rfl) (fun _ _ _ h => h) (Y.indexAddr (i := 0) rfl rfl Try.underlying34 Try.sizeOf3 (by omega) (by have := g.ld p0 (by rw [hps]; simp); have h5 := hin0.mem.len; have := List.length_pos_of_mem this; omega)) rfl ?_
              clear hA a; intro a hA
              refine d_load 11 (bs' := [true, true, true, true, true, true, true, true, true, true, true, true, false, false, false, false, false]) hA hQ rfl rfl rfl (by kernel_rfl) (fun _ _ _ h => h) (Y.load rfl Try.isAgg3 (fun w h => h.rd (by simp) (Nat.zero_le _) (y0))) rfl ?_
              clear hA a; intro a hA
              refine d_one 12 (bs' := [true, true, true, true, true, true, true, true, true, true, true, true, true, false, false, false, false]) true rfl (by kernel_rfl) ?_
              refine m_buildSlice ([.int .i64 y]) hA hS rfl rfl (bs_int y) ?_
              clear hA hS a; intro a b4 w hA hgb4 hS
              replace hQ := hQ.gr hgb4
              refine m_nil (m_then ⟨fun _ => hQ, ?_⟩)
              refine d_one 13 (bs' := [true, true, true, true, true, true, true, true, true, true, true, true, true, true, false, false, false]) true rfl (by kernel_rfl) ?_
              have hSp : St w (bm1 ++ ([cB b4 [.int .i64 y] 3, cB b3 [.int .i64 H.tick, .int .i64 H.last, .slice (some ⟨gp, 0, none⟩) n cap] 24, cB b2 [.int .i64 k, .int .i64 a', .int .i64 b] 32, cB b1 [.int .i64 H.tick, .int .i64 H.last, .slice (some ⟨bh, oh, none⟩) n c] 24, cB gp ([.int .i64 p0.id, .int .i64 p0.leader, mv0, iv0, .int .i64 p1.id, .int .i64 p1.leader, .slice A5 p1.mem.length c5, iv1] ++ (cr ++ rest)) 37] ++ ((bm0 ++ bi0) ++ (bi1 ++ br)))) [(lo1, v1), (0, w0)] := St.perm (B := cB b4 [.int .i64 y] 3 :: ([cB b3 [.int .i64 H.tick, .int .i64 H.last, .slice (some ⟨gp, 0, none⟩) n cap] 24, cB b2 [.int .i64 k, .int .i64 a', .int .i64 b] 32, cB b1 [.int .i64 H.tick, .int .i64 H.last, .slice (some ⟨bh, oh, none⟩) n c] 24] ++ (cB gp ([.int .i64 p0.id, .int .i64 p0.leader, mv0, iv0, .int .i64 p1.id, .int .i64 p1.leader, .slice A5 p1.mem.length c5, iv1] ++ (cr ++ rest)) 37 :: ((bm0 ++ bi0) ++ ((bm1 ++ bi1) ++ br))))) hS (List.perm_iff_count.2 fun a => by simp only [List.count_append, List.count_cons, List.count_nil]; omega)
              refine m_append (bs := bm1) 3 8 [.int .i64 y] elemInt hA hSp hm1 rfl rfl rfl Try.underlying34 rfl (hS.cells (i := 0) rfl) (List.all_eq_true.1 rfl) (by omega) (by decide) ?_
              clear hA hS hSp a; intro a w v' bm' hA hm' hnv hS
              obtain ⟨A6, c6, rfl⟩ := hm'.shape
              replace hS : St w ([cB b3 [.int .i64 H.tick, .int .i64 H.last, .slice (some ⟨gp, 0, none⟩) n cap] 24, cB b2 [.int .i64 k, .int .i64 a', .int .i64 b] 32, cB b1 [.int .i64 H.tick, .int .i64 H.last, .slice (some ⟨bh, oh, none⟩) n c] 24, cB gp ([.int .i64 p0.id, .int .i64 p0.leader, mv0, iv0, .int .i64 p1.id, .int .i64 p1.leader, .slice A5 p1.mem.length c5, iv1] ++ (cr ++ rest)) 37] ++ (((bm0 ++ bi0) ++ ((bm' ++ bi1) ++ br)) ++ [cB b4 [.int .i64 y] 3])) [(lo1, v1), (0, w0)] := hS.perm (List.perm_iff_count.2 fun a => by simp only [List.count_append, List.count_cons, List.count_nil]; omega)
              replace hQ := hS.sub (List.sublist_append_left [_, _, _, _] _)
              refine m_nil (m_then ⟨fun _ => hQ, ?_⟩)
              refine d_take 14 (bs' := [true, true, true, true, true, true, true, true, true, true, true, true, true, true, true, false, false]) hA rfl rfl (by kernel_rfl) (fun _ _ _ h => h) (Y.nil rfl) rfl ?_
              clear hA a; intro a hA
              refine d_take 15 (bs' := [true, true, true, true, true, true, true, true, true, true, true, true, true, true, true, true, false]) hA rfl rfl (by kernel_rfl) (fun _ _ _ h => h) (Y.fieldAddr (k := 2) rfl Try.underlying37 rfl rfl Try.sizeOf34) rfl ?_
              clear hA a; intro a hA
              refine d_one 16 (bs' := [true, true, true, true, true, true, true, true, true, true, true, true, true, true, true, true, true]) false rfl (by kernel_rfl) ?_
              refine m_storeP 3 ([.int .i64 p0.id, .int .i64 p0.leader, mv0, iv0, .int .i64 p1.id, .int .i64 p1.leader, .slice A6 (p1.mem.length + 1) c6, iv1] ++ (cr ++ rest)) hA hS rfl rfl Try.sizeOf34 rfl rfl (by simp [Value.cells] <;> omega) (by simp [Value.cells, Value.oneCell']) rfl ?_
              clear hS; intro w hS
              refine m_nil (m_then ⟨fun h => (by cases h), ?_⟩)
              refine d_done (by kernel_rfl) ?_
              refine n_block ?_
              refine m_then ?_
              have hm2 : IntsB (.slice A6 (p1.mem.length + 1) c6) (p1.mem ++ [y]) bm' := by
                unfold IntsB
                rw [List.length_append, List.map_append]
                exact hm'
              exact ⟨⟨H.tick, H.last, p0 :: { p1 with mem := p1.mem ++ [y] } :: r⟩, _, _, hA.keep [7, 4, 3] rfl, bad1 g hps (List.mem_of_getElem? hy), HallB.two (p1 := { p1 with mem := p1.mem ++ [y] }) hln2 (by omega) hcap hmax hcl hcr h0' ⟨_, iv1, bm', bi1, rfl, hm2, hi1, rfl, by simp; omega, hi1l⟩, hS.sub (List.sublist_append_left (_ :: _ :: _ :: _ :: ((bm0 ++ bi0) ++ ((bm' ++ bi1) ++ br))) _)⟩
            · refine m_seq ?_
              refine m_region ?_
              refine m1 hA hS (Y.eqI rfl rfl) rfl ?_
              clear hA a; intro a hA
              refine m1 hA hS (Y.assign rfl) rfl ?_
              clear hA a; intro a hA
              refine m_nil ?_
              refine m_then ?_
              refine m_condP hA rfl (fun e2 => ?_) (fun e2 => ?_)
              · refine m_region ?_
                refine m1 hA hS (Y.move rfl) rfl ?_
                clear hA a; intro a hA
                refine m1 hA hS (Y.fieldAddr (k := 2) rfl Try.underlying24 rfl rfl Try.sizeOf22) rfl ?_
                clear hA a; intro a hA
                refine m1 hA hS (Y.load rfl Try.isAgg22 (fun w h => h.cell (i := 0) rfl rfl)) rfl ?_
                clear hA a; intro a hA
                refine m1 hA hS (Y.indexAddr (i := 0) rfl rfl Try.underlying22 Try.sizeOf37 (by omega) (by omega)) rfl ?_
                clear hA a; intro a hA
                refine m1 hA hS (Y.fieldAddr (k := 0) rfl Try.underlying37 rfl rfl Try.sizeOf3) rfl ?_
                clear hA a; intro a hA
                refine m1 hA hS (Y.load rfl Try.isAgg3 (fun w h => h.cell (i := 3) rfl rfl)) rfl ?_
                clear hA a; intro a hA
                refine m1 hA hS (Y.nil rfl) rfl ?_
                clear hA a; intro a hA
                refine m1 hA hS (Y.fieldAddr (k := 0) rfl Try.underlying37 rfl rfl Try.sizeOf3) rfl ?_
                clear hA a; intro a hA
                refine m_storeP 3 ([.int .i64 p0.id, .int .i64 p0.leader, mv0, iv0, .int .i64 p0.id, .int .i64 p1.leader, mv1, iv1] ++ (cr ++ rest)) hA hS rfl rfl Try.sizeOf3 rfl rfl (by simp [Value.cells] <;> omega) (by simp [Value.cells, Value.oneCell']) rfl ?_
                clear hS; intro w hS
                refine m_nil ?_
                refine n_block ?_
                refine m_then ?_
                exact ⟨⟨H.tick, H.last, p0 :: { p1 with id := p0.id } :: r⟩, _, _, hA.keep [7, 4, 3] rfl, bad2 g hps, HallB.two (p1 := { p1 with id := p0.id }) hln2 (by omega) hcap hmax hcl hcr h0' ⟨mv1, iv1, bm1, bi1, rfl, hm1, hi1, rfl, hm1l, hi1l⟩, hS⟩
              · refine m_seq ?_
                refine m_region ?_
                refine m1 hA hS (Y.eqI rfl rfl) rfl ?_
                clear hA a; intro a hA
                refine m1 hA hS (Y.assign rfl) rfl ?_
                clear hA a; intro a hA
                refine m_nil ?_
                refine m_then ?_
                refine m_condP hA rfl (fun e3 => ?_) (fun e3 => ?_)
                · obtain ⟨pl, hpl⟩ : ∃ pl, H.ps[n - 1]? = some pl := ⟨_, List.getElem?_eq_getElem (by omega)⟩
                  have hplm := List.mem_of_getElem? hpl
                  have hid := g.id pl hplm
                  have hla1 := g.la1
                  have hHB : HallB (.slice (some ⟨gp, 0, none⟩) n cap) (p0 :: p1 :: r) (cB gp ([.int .i64 p0.id, .int .i64 p0.leader, mv0, iv0, .int .i64 p1.id, .int .i64 p1.leader, mv1, iv1] ++ (cr ++ rest)) 37 :: ((bm0 ++ bi0) ++ ((bm1 ++ bi1) ++ br))) := HallB.two hln2 (by omega) hcap hmax hcl hcr h0' h1'
                  have hlast : ∀ w, St w ([cB b3 [.int .i64 H.tick, .int .i64 H.last, .slice (some ⟨gp, 0, none⟩) n cap] 24, cB b2 [.int .i64 k, .int .i64 a', .int .i64 b] 32, cB b1 [.int .i64 H.tick, .int .i64 H.last, .slice (some ⟨bh, oh, none⟩) n c] 24] ++ (cB gp ([.int .i64 p0.id, .int .i64 p0.leader, mv0, iv0, .int .i64 p1.id, .int .i64 p1.leader, mv1, iv1] ++ (cr ++ rest)) 37 :: ((bm0 ++ bi0) ++ ((bm1 ++ bi1) ++ br)))) [(lo1, v1), (0, w0)] → w.cell? ⟨gp, 0 + ((n : Int) - 1).toNat * 4 + 0, none⟩ = some (.int .i64 pl.id) := fun w h => by
                    obtain ⟨A7, c7, e7, h7⟩ := hHB.read (St.fresh0 (X := [_, _, _]) h)
                    obtain ⟨rfl, _, rfl⟩ := Value.slice.inj e7
                    rw [← hps] at h7
                    obtain ⟨b8, o8, x8, _, _, _, _, _, _, e8, _, hx8, z0, _⟩ := PtysL.at h7 (j := n - 1) (by omega)
                    cases e8
                    rw [hpl] at hx8
                    cases hx8
                    rw [show ((n : Int) - 1).toNat = n - 1 from by omega]
                    simpa using z0
                  refine m_region ?_
                  refine m1 hA hS (Y.fieldAddr (k := 2) rfl Try.underlying24 rfl rfl Try.sizeOf22) rfl ?_
                  clear hA a; intro a hA
                  refine m1 hA hS (Y.load rfl Try.isAgg22 (fun w h => h.cell (i := 0) rfl rfl)) rfl ?_
                  clear hA a; intro a hA
                  refine m1 hA hS (Y.fieldAddr (k := 2) rfl Try.underlying24 rfl rfl Try.sizeOf22) rfl ?_
                  clear hA a; intro a hA
                  refine m1 hA hS (Y.load rfl Try.isAgg22 (fun w h => h.cell (i := 0) rfl rfl)) rfl ?_
                  clear hA a; intro a hA
                  refine m1 hA hS (Y.lenSl rfl Try.underlying22) rfl ?_
                  clear hA a; intro a hA
                  refine m1 hA hS (Y.subI rfl rfl (by omega)) rfl ?_
                  clear hA a; intro a hA
                  refine m1 hA hS (Y.indexAddr rfl rfl Try.underlying22 Try.sizeOf37 (by omega) (by omega)) rfl ?_
                  clear hA a; intro a hA
                  refine m1 hA hS (Y.fieldAddr (k := 0) rfl Try.underlying37 rfl rfl Try.sizeOf3) rfl ?_
                  clear hA a; intro a hA
                  refine m1 hA hS (Y.load rfl Try.isAgg3 (fun w h => hlast w h)) rfl ?_
                  clear hA a; intro a hA
                  refine m1 hA hS (Y.subI rfl rfl (by omega)) rfl ?_
                  clear hA a; intro a hA
                  refine m1 hA hS (Y.fieldAddr (k := 1) rfl Try.underlying24 rfl rfl Try.sizeOf3) rfl ?_
                  clear hA a; intro a hA
                  refine m_store 0 hA hS rfl rfl Try.sizeOf3 rfl rfl rfl rfl ?_
                  clear hS; intro w hS
                  refine m_nil ?_
                  refine n_block ?_
                  refine m_then ?_
                  exact ⟨⟨H.tick, pl.id - 1, p0 :: p1 :: r⟩, _, _, hA.keep [7, 4, 3] rfl, bad3 g hps hplm, hHB, hS⟩
                · refine m_seq ?_
                  refine m_region ?_
                  refine m1 hA hS (Y.eqI rfl rfl) rfl ?_
                  clear hA a; intro a hA
                  refine m1 hA hS (Y.assign rfl) rfl ?_
                  clear hA a; intro a hA
                  refine m_nil ?_
                  refine m_then ?_
                  refine m_condP hA rfl (fun e4 => ?_) (fun e4 => ?_)
                  · obtain ⟨y, ys, hys⟩ : ∃ y ys, p1.mem = y :: ys := by
                      have := g.ld p1 (by rw [hps]; simp)
                      cases hq : p1.mem with
                      | nil => rw [hq] at this; cases this
                      | cons y ys => exact ⟨y, ys, rfl⟩
                    have hm1' := hm1
                    have hm1len : p1.mem.length = ys.length + 1 := by rw [hys]; rfl
                    obtain ⟨hml, ⟨_, hz, _⟩ | ⟨gm, cm, curm, rfl, rfl, hc1, hc2, hc3, hc4⟩⟩ := hm1'
                    · omega
                    have hcm0 : curm[0]? = some (.int .i64 y) := by
                      have : (curm.take (p1.mem.length * 1))[0]? = some (.int .i64 y) := by rw [hc4, hys]; rfl
                      rw [List.getElem?_take] at this
                      split at this
                      · exact this
                      · cases this
                    obtain ⟨A5, c5, rfl⟩ := hi1.shape
                    refine d_region (fun w => St w ([cB b3 [.int .i64 H.tick, .int .i64 H.last, .slice (some ⟨gp, 0, none⟩) n cap] 24, cB b2 [.int .i64 k, .int .i64 a', .int .i64 b] 32, cB b1 [.int .i64 H.tick, .int .i64 H.last, .slice (some ⟨bh, oh, none⟩) n c] 24] ++ (cB gp ([.int .i64 p0.id, .int .i64 p0.leader, mv0, iv0, .int .i64 p1.id, .int .i64 p1.leader, .slice (some ⟨gm, 0, none⟩) p1.mem.length cm, .slice A5 p1.inv.length c5] ++ (cr ++ rest)) 37 :: ((bm0 ++ bi0) ++ (([cB gm curm 3] ++ bi1) ++ br)))) [(lo1, v1), (0, w0)]) [4, 6, 8, 15] [0, 1, 2, 3, 4, 5, 6, 7, 8, 9, 10, 12, 13, 14, 15, 17, 18] _ _ hS rfl 20 [false, false, false, false, false, false, false, false, false, false, false, false, false, false, false, false, false, false, false, false] rfl rfl ?_
                    clear hS; intro w hS _
                    have hQ : St w ([cB b3 [.int .i64 H.tick, .int .i64 H.last, .slice (some ⟨gp, 0, none⟩) n cap] 24, cB b2 [.int .i64 k, .int .i64 a', .int .i64 b] 32, cB b1 [.int .i64 H.tick, .int .i64 H.last, .slice (some ⟨bh, oh, none⟩) n c] 24] ++ (cB gp ([.int .i64 p0.id, .int .i64 p0.leader, mv0, iv0, .int .i64 p1.id, .int .i64 p1.leader, .slice (some ⟨gm, 0, none⟩) p1.mem.length cm, .slice A5 p1.inv.length c5] ++ (cr ++ rest)) 37 :: ((bm0 ++ bi0) ++ (([cB gm curm 3] ++ bi1) ++ br)))) [(lo1, v1), (0, w0)] := hS
                    refine d_take 0 (bs' := [true, false, false, false, false, false, false, false, false, false, false, false, false, false, false, false, false, false, false, false]) hA rfl rfl (by kernel_rfl) (fun _ _ _ h => h) (Y.move rfl) rfl ?_
                    clear hA a; intro a hA
                    refine d_take 1 (bs' := [true, true, false, false, false, false, false, false, false, false, false, false, false, false, false, false, false, false, false, false]) hA rfl rfl (by kernel_rfl) (fun _ _ _ h => h) (Y.move rfl) rfl ?_
                    clear hA a; intro a hA
                    refine d_take 2 (bs' := [true, true, true, false, false, false, false, false, false, false, false, false, false, false, false, false, false, false, false, false]) hA rfl rfl (by kernel_rfl) (fun _ _ _ h => h) (Y.nil rfl) rfl ?_
                    clear hA a; intro a hA
                    refine d_take 3 (bs' := [true, true, true, true, false, false, false, false, false, false, false, false, false, false, false, false, false, false, false, false]) hA rfl rfl (by kernel_rfl) (fun _ _ _ h => h) (Y.fieldAddr (k := 2) rfl Try.underlying37 rfl rfl Try.sizeOf34) rfl ?_
                    clear hA a; intro a hA
                    refine d_load 4 (bs' := [true, true, true, true, true, false, false, false, false, false, false, false, false, false, false, false, false, false, false, false]) hA hQ rfl rfl rfl (by kernel_rfl) (fun _ _ _ h => h) (Y.load rfl Try.isAgg34 (fun w h => h.cell (i := 3) rfl rfl)) rfl ?_
                    clear hA a; intro a hA
                    refine d_take 5 (bs' := [true, true, true, true, true, true, false, false, false, false, false, false, false, false, false, false, false, false, false, false]) hA rfl rfl (by kernel_rfl) (fun _ _ _ h => h) (Y.indexAddr (i := 0) rfl rfl Try.underlying34 Try.sizeOf3 (by omega) (by omega)) rfl ?_
                    clear hA a; intro a hA
                    refine d_load 6 (bs' := [true, true, true, true, true, true, true, false, false, false, false, false, false, false, false, false, false, false, false, false]) hA hQ rfl rfl rfl (by kernel_rfl) (fun _ _ _ h => h) (Y.load rfl Try.isAgg3 (fun w h => h.cellM (b := gm) (cs := curm) (T := 3) (by simp) hcm0)) rfl ?_
                    clear hA a; intro a hA
                    refine d_take 7 (bs' := [true, true, true, true, true, true, true, true, false, false, false, false, false, false, false, false, false, false, false, false]) hA rfl rfl (by kernel_rfl) (fun _ _ _ h => h) (Y.fieldAddr (k := 0) rfl Try.underlying24 rfl rfl Try.sizeOf3) rfl ?_
                    clear hA a; intro a hA
                    refine d_load 8 (bs' := [true, true, true, true, true, true, true, true, true, false, false, false, false, false, false, false, false, false, false, false]) hA hQ rfl rfl rfl (by kernel_rfl) (fun _ _ _ h => h) (Y.load rfl Try.isAgg3 (fun w h => h.cell (i := 2) rfl rfl)) rfl ?_
                    clear hA a; intro a hA
                    refine d_take 9 (bs' := [true, true, true, true, true, true, true, true, true, true, false, false, false, false, false, false, false, false, false, false]) hA rfl rfl (by kernel_rfl) (fun _ _ _ h => h) (Y.addI rfl rfl (by omega)) rfl ?_
                    clear hA a; intro a hA
                    refine d_take 10 (bs' := [true, true, true, true, true, true, true, true, true, true, true, false, false, false, false, false, false, false, false, false]) hA rfl rfl (by kernel_rfl) (fun _ _ _ h => h) (Y.build rfl (cs := [.int .i64 y, .int .i64 (H.tick + 1)]) (by kernel_rfl)) rfl ?_
                    clear hA a; intro a hA
                    refine d_take 12 (bs' := [true, true, true, true, true, true, true, true, true, true, true, false, true, false, false, false, false, false, false, false]) hA rfl rfl (by kernel_rfl) (fun _ _ _ h => h) (Y.move rfl) rfl ?_
                    clear hA a; intro a hA
                    refine d_take 13 (bs' := [true, true, true, true, true, true, true, true, true, true, true, false, true, true, false, false, false, false, false, false]) hA rfl rfl (by kernel_rfl) (fun _ _ _ h => h) (Y.nil rfl) rfl ?_
                    clear hA a; intro a hA
                    refine d_take 14 (bs' := [true, true, true, true, true, true, true, true, true, true, true, false, true, true, true, false, false, false, false, false]) hA rfl rfl (by kernel_rfl) (fun _ _ _ h => h) (Y.fieldAddr (k := 3) rfl Try.underlying37 rfl rfl Try.sizeOf35) rfl ?_
                    clear hA a; intro a hA
                    refine d_load 15 (bs' := [true, true, true, true, true, true, true, true, true, true, true, false, true, true, true, true, false, false, false, false]) hA hQ rfl rfl rfl (by kernel_rfl) (fun _ _ _ h => h) (Y.load rfl Try.isAgg35 (fun w h => h.cell (i := 3) rfl rfl)) rfl ?_
                    clear hA a; intro a hA
                    refine d_one 11 (bs' := [true, true, true, true, true, true, true, true, true, true, true, true, true, true, true, true, false, false, false, false]) true rfl (by kernel_rfl) ?_
                    refine m_buildSlice ([.int .i64 y, .int .i64 (H.tick + 1)]) hA hS rfl rfl (bs_inv _ _) ?_
                    clear hA hS a; intro a b5 w hA hgb5 hS
                    replace hQ := hQ.gr hgb5
                    refine m_nil (m_then ⟨fun _ => hQ, ?_⟩)
                    refine d_one 16 (bs' := [true, true, true, true, true, true, true, true, true, true, true, true, true, true, true, true, true, false, false, false]) true rfl (by kernel_rfl) ?_
                    have hI1 : RowB 44 2 (.slice (some ⟨b5, 0, none⟩) 1 1) 1 [.int .i64 y, .int .i64 (H.tick + 1)] [cB b5 [.int .i64 y, .int .i64 (H.tick + 1)] 44] := ⟨rfl, .inr ⟨b5, 1, _, rfl, rfl, Nat.le_refl _, by decide, rfl, rfl⟩⟩
                    have hf5 : Invs w A5 p1.inv.length p1.inv := by
                      have hss : bi1.Sublist ((bm0 ++ bi0) ++ (([cB gm curm 3] ++ bi1) ++ br)) := ((List.sublist_append_right _ _).trans (List.sublist_append_left _ _)).trans (List.sublist_append_right _ _)
                      exact InvsB.in hi1 hQ (hss.trans (.cons _ (.cons _ (.cons _ (.cons _ (List.Sublist.refl _)))))) (by omega)
                    cases A5 with
                    | none => ?_
                    | some A5 => ?_
                    · have hx := hf5.nil_of
                      obtain ⟨hl5, _⟩ := hi1
                      have hi0' : p1.inv.length = 0 := by rw [hx]; rfl
                      rw [hi0'] at hA
                      refine m_appendNil 44 16 elemInv hA rfl rfl rfl Try.underlying35 (Nat.le_refl _) ?_
                      clear hA a; intro a hA
                      replace hS : St w ([cB b3 [.int .i64 H.tick, .int .i64 H.last, .slice (some ⟨gp, 0, none⟩) n cap] 24, cB b2 [.int .i64 k, .int .i64 a', .int .i64 b] 32, cB b1 [.int .i64 H.tick, .int .i64 H.last, .slice (some ⟨bh, oh, none⟩) n c] 24, cB gp ([.int .i64 p0.id, .int .i64 p0.leader, mv0, iv0, .int .i64 p1.id, .int .i64 p1.leader, .slice (some ⟨gm, 0, none⟩) p1.mem.length cm, .slice none p1.inv.length c5] ++ (cr ++ rest)) 37] ++ (((bm0 ++ bi0) ++ (([cB gm curm 3] ++ [cB b5 [.int .i64 y, .int .i64 (H.tick + 1)] 44]) ++ br)) ++ bi1)) [(lo1, v1), (0, w0)] := St.perm (B := cB b5 [.int .i64 y, .int .i64 (H.tick + 1)] 44 :: ([cB b3 [.int .i64 H.tick, .int .i64 H.last, .slice (some ⟨gp, 0, none⟩) n cap] 24, cB b2 [.int .i64 k, .int .i64 a', .int .i64 b] 32, cB b1 [.int .i64 H.tick, .int .i64 H.last, .slice (some ⟨bh, oh, none⟩) n c] 24] ++ (cB gp ([.int .i64 p0.id, .int .i64 p0.leader, mv0, iv0, .int .i64 p1.id, .int .i64 p1.leader, .slice (some ⟨gm, 0, none⟩) p1.mem.length cm, .slice none p1.inv.length c5] ++ (cr ++ rest)) 37 :: ((bm0 ++ bi0) ++ (([cB gm curm 3] ++ bi1) ++ br))))) hS (List.perm_iff_count.2 fun a => by simp only [List.count_append, List.count_cons, List.count_nil]; omega)
                      refine m_nil (m_then ⟨fun _ => hQ, ?_⟩)
                      refine d_take 17 (bs' := [true, true, true, true, true, true, true, true, true, true, true, true, true, true, true, true, true, true, false, false]) hA rfl rfl (by kernel_rfl) (fun _ _ _ h => h) (Y.nil rfl) rfl ?_
                      clear hA a; intro a hA
                      refine d_take 18 (bs' := [true, true, true, true, true, true, true, true, true, true, true, true, true, true, true, true, true, true, true, false]) hA rfl rfl (by kernel_rfl) (fun _ _ _ h => h) (Y.fieldAddr (k := 3) rfl Try.underlying37 rfl rfl Try.sizeOf35) rfl ?_
                      clear hA a; intro a hA
                      refine d_one 19 (bs' := [true, true, true, true, true, true, true, true, true, true, true, true, true, true, true, true, true, true, true, true]) false rfl (by kernel_rfl) ?_
                      refine m_storeP 3 ([.int .i64 p0.id, .int .i64 p0.leader, mv0, iv0, .int .i64 p1.id, .int .i64 p1.leader, .slice (some ⟨gm, 0, none⟩) p1.mem.length cm, .slice (some ⟨b5, 0, none⟩) 1 1] ++ (cr ++ rest)) hA hS rfl rfl Try.sizeOf35 rfl rfl (by simp [Value.cells] <;> omega) (by simp [Value.cells, Value.oneCell']) rfl ?_
                      clear hS; intro w hS
                      refine m_nil (m_then ⟨fun h => (by cases h), ?_⟩)
                      refine d_done (by kernel_rfl) ?_
                      refine n_block ?_
                      refine m_then ?_
                      exact ⟨⟨H.tick, H.last, p0 :: { p1 with inv := ⟨y, H.tick + 1⟩ :: p1.inv } :: r⟩, _, _, hA.keep [7, 4, 3] rfl, bad4 g hps (by rw [hys]; simp) _, HallB.two (p1 := { p1 with inv := ⟨y, H.tick + 1⟩ :: p1.inv }) hln2 (by omega) hcap hmax hcl hcr h0' ⟨_, _, [cB gm curm 3], [_], rfl, hm1, by rw [hx]; exact hI1, rfl, hm1l, by simp; omega⟩, hS.sub (List.sublist_append_left (_ :: _ :: _ :: _ :: ((bm0 ++ bi0) ++ (([cB gm curm 3] ++ [_]) ++ br))) _)⟩
                    · refine m_append (bs := [cB b5 [.int .i64 y, .int .i64 (H.tick + 1)] 44]) 44 16 (p1.inv.flatMap cInv) elemInv hA hS hI1 rfl rfl rfl Try.underlying35 (by rw [flat_len (f := cInv) (k := 2) (fun _ => rfl)]) hf5.news (one_invs _) (by omega) (by decide) ?_
                      clear hA hS a; intro a w v' bi' hA hi' hnv hS
                      obtain ⟨A6, c6, rfl⟩ := hi'.shape
                      replace hS : St w ([cB b3 [.int .i64 H.tick, .int .i64 H.last, .slice (some ⟨gp, 0, none⟩) n cap] 24, cB b2 [.int .i64 k, .int .i64 a', .int .i64 b] 32, cB b1 [.int .i64 H.tick, .int .i64 H.last, .slice (some ⟨bh, oh, none⟩) n c] 24, cB gp ([.int .i64 p0.id, .int .i64 p0.leader, mv0, iv0, .int .i64 p1.id, .int .i64 p1.leader, .slice (some ⟨gm, 0, none⟩) p1.mem.length cm, .slice (some A5) p1.inv.length c5] ++ (cr ++ rest)) 37] ++ (((bm0 ++ bi0) ++ (([cB gm curm 3] ++ bi') ++ br)) ++ bi1)) [(lo1, v1), (0, w0)] := St.perm (B := bi' ++ ([cB b3 [.int .i64 H.tick, .int .i64 H.last, .slice (some ⟨gp, 0, none⟩) n cap] 24, cB b2 [.int .i64 k, .int .i64 a', .int .i64 b] 32, cB b1 [.int .i64 H.tick, .int .i64 H.last, .slice (some ⟨bh, oh, none⟩) n c] 24] ++ (cB gp ([.int .i64 p0.id, .int .i64 p0.leader, mv0, iv0, .int .i64 p1.id, .int .i64 p1.leader, .slice (some ⟨gm, 0, none⟩) p1.mem.length cm, .slice (some A5) p1.inv.length c5] ++ (cr ++ rest)) 37 :: ((bm0 ++ bi0) ++ (([cB gm curm 3] ++ bi1) ++ br))))) hS (List.perm_iff_count.2 fun a => by simp only [List.count_append, List.count_cons, List.count_nil]; omega)
                      replace hQ : St w ([cB b3 [.int .i64 H.tick, .int .i64 H.last, .slice (some ⟨gp, 0, none⟩) n cap] 24, cB b2 [.int .i64 k, .int .i64 a', .int .i64 b] 32, cB b1 [.int .i64 H.tick, .int .i64 H.last, .slice (some ⟨bh, oh, none⟩) n c] 24] ++ (cB gp ([.int .i64 p0.id, .int .i64 p0.leader, mv0, iv0, .int .i64 p1.id, .int .i64 p1.leader, .slice (some ⟨gm, 0, none⟩) p1.mem.length cm, .slice (some A5) p1.inv.length c5] ++ (cr ++ rest)) 37 :: ((bm0 ++ bi0) ++ (([cB gm curm 3] ++ bi1) ++ br)))) [(lo1, v1), (0, w0)] := St.goneL (X := bi') (hS.perm (List.perm_iff_count.2 fun a => by simp only [List.count_append, List.count_cons, List.count_nil]; omega))
                      refine m_nil (m_then ⟨fun _ => hQ, ?_⟩)
                      refine d_take 17 (bs' := [true, true, true, true, true, true, true, true, true, true, true, true, true, true, true, true, true, true, false, false]) hA rfl rfl (by kernel_rfl) (fun _ _ _ h => h) (Y.nil rfl) rfl ?_
                      clear hA a; intro a hA
                      refine d_take 18 (bs' := [true, true, true, true, true, true, true, true, true, true, true, true, true, true, true, true, true, true, true, false]) hA rfl rfl (by kernel_rfl) (fun _ _ _ h => h) (Y.fieldAddr (k := 3) rfl Try.underlying37 rfl rfl Try.sizeOf35) rfl ?_
                      clear hA a; intro a hA
                      refine d_one 19 (bs' := [true, true, true, true, true, true, true, true, true, true, true, true, true, true, true, true, true, true, true, true]) false rfl (by kernel_rfl) ?_
                      refine m_storeP 3 ([.int .i64 p0.id, .int .i64 p0.leader, mv0, iv0, .int .i64 p1.id, .int .i64 p1.leader, .slice (some ⟨gm, 0, none⟩) p1.mem.length cm, .slice A6 (1 + p1.inv.length) c6] ++ (cr ++ rest)) hA hS rfl rfl Try.sizeOf35 rfl rfl (by simp [Value.cells] <;> omega) (by simp [Value.cells, Value.oneCell']) rfl ?_
                      clear hS; intro w hS
                      refine m_nil (m_then ⟨fun h => (by cases h), ?_⟩)
                      refine d_done (by kernel_rfl) ?_
                      refine n_block ?_
                      refine m_then ?_
                      have hi2 : InvsB (.slice A6 (1 + p1.inv.length) c6) (⟨y, H.tick + 1⟩ :: p1.inv) bi' := by
                        unfold InvsB
                        rw [List.length_cons, Nat.add_comm p1.inv.length 1]
                        exact hi'
                      exact ⟨⟨H.tick, H.last, p0 :: { p1 with inv := ⟨y, H.tick + 1⟩ :: p1.inv } :: r⟩, _, _, hA.keep [7, 4, 3] rfl, bad4 g hps (by rw [hys]; simp) _, HallB.two (p1 := { p1 with inv := ⟨y, H.tick + 1⟩ :: p1.inv }) hln2 (by omega) hcap hmax hcl hcr h0' ⟨_, _, [cB gm curm 3], bi', rfl, hm1, hi2, rfl, hm1l, by simp; omega⟩, hS.sub (List.sublist_append_left (_ :: _ :: _ :: _ :: ((bm0 ++ bi0) ++ (([cB gm curm 3] ++ bi') ++ br))) _)⟩
                  · refine m_seq ?_
                    refine m_region ?_
                    refine m1 hA hS (Y.eqI rfl rfl) rfl ?_
                    clear hA a; intro a hA
                    refine m1 hA hS (Y.assign rfl) rfl ?_
                    clear hA a; intro a hA
                    refine m_nil ?_
                    refine m_then ?_
                    refine m_condP hA rfl (fun e5 => ?_) (fun e5 => ?_)
                    · refine m_region ?_
                      refine m1 hA hS (Y.move rfl) rfl ?_
                      clear hA a; intro a hA
                      refine m1 hA hS (Y.nil rfl) rfl ?_
                      clear hA a; intro a hA
                      refine m1 hA hS (Y.fieldAddr (k := 2) rfl Try.underlying37 rfl rfl Try.sizeOf34) rfl ?_
                      clear hA a; intro a hA
                      refine m_storeP 3 ([.int .i64 p0.id, .int .i64 p0.leader, mv0, iv0, .int .i64 p1.id, .int .i64 p1.leader, .slice none 0 0, iv1] ++ (cr ++ rest)) hA hS rfl rfl Try.sizeOf34 rfl rfl (by simp [Value.cells] <;> omega) (by simp [Value.cells, Value.oneCell']) rfl ?_
                      clear hS; intro w hS
                      refine m_nil ?_
                      refine n_block ?_
                      refine m_then ?_
                      have hS5 : St w ([cB b3 [.int .i64 H.tick, .int .i64 H.last, .slice (some ⟨gp, 0, none⟩) n cap] 24, cB b2 [.int .i64 k, .int .i64 a', .int .i64 b] 32, cB b1 [.int .i64 H.tick, .int .i64 H.last, .slice (some ⟨bh, oh, none⟩) n c] 24] ++ (cB gp ([.int .i64 p0.id, .int .i64 p0.leader, mv0, iv0, .int .i64 p1.id, .int .i64 p1.leader, .slice none 0 0, iv1] ++ (cr ++ rest)) 37 :: ((bm0 ++ bi0) ++ (([] ++ bi1) ++ br)))) [(lo1, v1), (0, w0)] := hS.sub (.cons_cons _ (.cons_cons _ (.cons_cons _ (.cons_cons _ (List.Sublist.append_left (List.Sublist.append_right (List.sublist_append_right _ _) _) _)))))
                      exact ⟨⟨H.tick, H.last, p0 :: { p1 with mem := [] } :: r⟩, _, _, hA.keep [7, 4, 3] rfl, bad5 g hps, HallB.two (p1 := { p1 with mem := [] }) hln2 (by omega) hcap hmax hcl hcr h0' ⟨_, iv1, [], bi1, rfl, RowB.nil _ _, hi1, rfl, by simp, hi1l⟩, hS5⟩
                    · refine m_seq ?_
                      refine m_region ?_
                      refine m1 hA hS (Y.eqI rfl rfl) rfl ?_
                      clear hA a; intro a hA
                      refine m1 hA hS (Y.assign rfl) rfl ?_
                      clear hA a; intro a hA
                      refine m_nil ?_
                      refine m_then ?_
                      refine m_condP hA rfl (fun e6 => ?_) (fun e6 => ?_)
                      · refine m_region ?_
                        refine m1 hA hS (Y.fieldAddr (k := 0) rfl Try.underlying24 rfl rfl Try.sizeOf3) rfl ?_
                        clear hA a; intro a hA
                        refine m_store 0 hA hS rfl rfl Try.sizeOf3 rfl rfl rfl rfl ?_
                        clear hS; intro w hS
                        refine m_nil ?_
                        refine n_block ?_
                        refine m_then ?_
                        exact ⟨⟨-1, H.last, p0 :: p1 :: r⟩, _, _, hA.keep [7, 4, 3] rfl, bad6 g hps, HallB.two hln2 (by omega) hcap hmax hcl hcr h0' h1', hS⟩
                      · refine m_region ?_
                        refine m1 hA hS (Y.move rfl) rfl ?_
                        clear hA a; intro a hA
                        refine m1 hA hS (Y.fieldAddr (k := 0) rfl Try.underlying24 rfl rfl Try.sizeOf3) rfl ?_
                        clear hA a; intro a hA
                        refine m1 hA hS (Y.load rfl Try.isAgg3 (fun w h => h.cell (i := 2) rfl rfl)) rfl ?_
                        clear hA a; intro a hA
                        refine m1 hA hS (Y.build rfl (cs := [.int .i64 65535, .int .i64 H.tick]) (by kernel_rfl)) rfl ?_
                        clear hA a; intro a hA
                        refine m_buildSlice ([.int .i64 65535, .int .i64 H.tick]) hA hS rfl rfl (bs_inv _ _) ?_
                        clear hA hS a; intro a b6 w hA hgb6 hS
                        refine m1 hA hS (Y.nil rfl) rfl ?_
                        clear hA a; intro a hA
                        refine m1 hA hS (Y.fieldAddr (k := 3) rfl Try.underlying37 rfl rfl Try.sizeOf35) rfl ?_
                        clear hA a; intro a hA
                        replace hS : St w ([cB b3 [.int .i64 H.tick, .int .i64 H.last, .slice (some ⟨gp, 0, none⟩) n cap] 24, cB b2 [.int .i64 k, .int .i64 a', .int .i64 b] 32, cB b1 [.int .i64 H.tick, .int .i64 H.last, .slice (some ⟨bh, oh, none⟩) n c] 24, cB gp ([.int .i64 p0.id, .int .i64 p0.leader, mv0, iv0, .int .i64 p1.id, .int .i64 p1.leader, mv1, iv1] ++ (cr ++ rest)) 37] ++ (((bm0 ++ bi0) ++ ((bm1 ++ [cB b6 [.int .i64 65535, .int .i64 H.tick] 44]) ++ br)) ++ bi1)) [(lo1, v1), (0, w0)] := St.perm (B := cB b6 [.int .i64 65535, .int .i64 H.tick] 44 :: ([cB b3 [.int .i64 H.tick, .int .i64 H.last, .slice (some ⟨gp, 0, none⟩) n cap] 24, cB b2 [.int .i64 k, .int .i64 a', .int .i64 b] 32, cB b1 [.int .i64 H.tick, .int .i64 H.last, .slice (some ⟨bh, oh, none⟩) n c] 24] ++ (cB gp ([.int .i64 p0.id, .int .i64 p0.leader, mv0, iv0, .int .i64 p1.id, .int .i64 p1.leader, mv1, iv1] ++ (cr ++ rest)) 37 :: ((bm0 ++ bi0) ++ ((bm1 ++ bi1) ++ br))))) hS (List.perm_iff_count.2 fun a => by simp only [List.count_append, List.count_cons, List.count_nil]; omega)
                        refine m_storeP 3 ([.int .i64 p0.id, .int .i64 p0.leader, mv0, iv0, .int .i64 p1.id, .int .i64 p1.leader, mv1, .slice (some ⟨b6, 0, none⟩) 1 1] ++ (cr ++ rest)) hA hS rfl rfl Try.sizeOf35 rfl rfl (by simp [Value.cells] <;> omega) (by simp [Value.cells, Value.oneCell']) rfl ?_
                        clear hS; intro w hS
                        refine m_nil ?_
                        refine n_block ?_
                        refine m_then ?_
                        exact ⟨⟨H.tick, H.last, p0 :: { p1 with inv := [⟨65535, H.tick⟩] } :: r⟩, _, _, hA.keep [7, 4, 3] rfl, bad7 g hps _, HallB.two (p1 := { p1 with inv := [⟨65535, H.tick⟩] }) hln2 (by omega) hcap hmax hcl hcr h0' ⟨mv1, _, bm1, [_], rfl, hm1, ⟨rfl, .inr ⟨b6, 1, _, rfl, rfl, Nat.le_refl _, by decide, rfl, rfl⟩⟩, rfl, hm1l, by simp⟩, hS.sub (List.sublist_append_left (_ :: _ :: _ :: _ :: ((bm0 ++ bi0) ++ ((bm1 ++ [_]) ++ br))) _)⟩
        · clear hA hS a; rintro a w ⟨F, pv, bs, hA, hv, hH, hS⟩
          obtain ⟨A9, c9, rfl⟩ := hH.shape
          have hPF : ∀ w, St w ([cB b3 [.int .i64 F.tick, .int .i64 F.last, .slice A9 F.ps.length c9] 24, cB b2 [.int .i64 k, .int .i64 a', .int .i64 b] 32, cB b1 [.int .i64 H.tick, .int .i64 H.last, .slice (some ⟨bh, oh, none⟩) n c] 24] ++ bs) [(lo1, v1), (0, w0)] → Ptys w A9 F.ps.length F.ps := fun w h => by
            obtain ⟨A8, c8, e8, h8⟩ := hH.read (St.fresh0 h)
            cases e8
            exact h8
          refine m_seq ?_
          refine m_region ?_
          refine m1 hA hS (Y.loads rfl Try.isAgg24 Try.sizeOf24 (fun w h => h.cells (i := 0) rfl) rfl) rfl ?_
          clear hA a; intro a hA
          refine m1 hA hS (Y.loads rfl Try.isAgg32 Try.sizeOf32 (fun w h => h.cells (i := 1) rfl) rfl) rfl ?_
          clear hA a; intro a hA
          refine m_call hA Try.call14 rfl rfl ((one_c F A9 F.ps.length c9 k a' b _ (hPF _ hS)).mono ?_)
          rintro e w ⟨A1, n1, c1, rfl, hg1, hP1⟩
          refine ⟨_, rfl, ?_⟩
          clear hA a; intro a hA
          rw [oneF_bad hv] at hA hP1
          obtain ⟨lo5, v5, hP5, hS⟩ := hS.keepP hg1 hP1
          replace hPF : ∀ w X, St w (X ++ ([cB b3 [.int .i64 F.tick, .int .i64 F.last, .slice A9 F.ps.length c9] 24, cB b2 [.int .i64 k, .int .i64 a', .int .i64 b] 32, cB b1 [.int .i64 H.tick, .int .i64 H.last, .slice (some ⟨bh, oh, none⟩) n c] 24] ++ bs)) ((lo5, v5) :: [(lo1, v1), (0, w0)]) → Ptys w A9 F.ps.length F.ps := fun w X h => hPF w (h.goneL.dropC)
          refine m1 hA hS (Y.move rfl) rfl ?_
          clear hA a; intro a hA
          refine m1 hA hS (Y.extract rfl rfl) rfl ?_
          clear hA a; intro a hA
          refine m1 hA hS (Y.extract rfl rfl) rfl ?_
          clear hA a; intro a hA
          refine m_alloc hA hS Try.zeroValue24 rfl ?_
          clear hA hS a; intro a b7 w hA hleb7 hgb7 hS
          refine m_store 0 hA hS rfl rfl Try.sizeOf24 rfl rfl rfl rfl ?_
          clear hS; intro w hS
          refine m1 hA hS (Y.assign rfl) rfl ?_
          clear hA a; intro a hA
          refine m_nil ?_
          refine m_then ?_
          refine m_seq ?_
          refine m_region ?_
          refine m1 hA hS (Y.loads rfl Try.isAgg24 Try.sizeOf24 (fun w h => h.cells (i := 1) rfl) rfl) rfl ?_
          clear hA a; intro a hA
          refine m1 hA hS (Y.fieldAddr (k := 1) rfl Try.underlying32 rfl rfl Try.sizeOf3) rfl ?_
          clear hA a; intro a hA
          refine m1 hA hS (Y.load rfl Try.isAgg3 (fun w h => h.cell (i := 2) rfl rfl)) rfl ?_
          clear hA a; intro a hA
          refine m_call hA Try.call17 rfl rfl ((of_c a' F A9 F.ps.length c9 _ (hPF _ [_] hS)).mono ?_)
          rintro e w ⟨M2, m2, mc2, I2, i2, ic2, rfl, hg2, hY2⟩
          refine ⟨_, rfl, ?_⟩
          clear hA a; intro a hA
          rw [ofF_bad hv] at hA
          replace hS := hS.gr hg2
          refine m1 hA hS (Y.move rfl) rfl ?_
          clear hA a; intro a hA
          refine m1 hA hS (Y.extract rfl rfl) rfl ?_
          clear hA a; intro a hA
          refine m1 hA hS (Y.extract rfl rfl) rfl ?_
          clear hA a; intro a hA
          refine m_alloc hA hS Try.zeroValue37 rfl ?_
          clear hA hS a; intro a b8 w hA hleb8 hgb8 hS
          refine m_store 0 hA hS rfl rfl Try.sizeOf37 rfl rfl rfl rfl ?_
          clear hS; intro w hS
          refine m1 hA hS (Y.assign rfl) rfl ?_
          clear hA a; intro a hA
          refine m_nil ?_
          refine m_then ?_
          refine m_seq ?_
          refine m_region ?_
          refine m1 hA hS (Y.loads rfl Try.isAgg24 Try.sizeOf24 (fun w h => h.cells (i := 2) rfl) rfl) rfl ?_
          clear hA a; intro a hA
          refine m1 hA hS (Y.fieldAddr (k := 2) rfl Try.underlying32 rfl rfl Try.sizeOf3) rfl ?_
          clear hA a; intro a hA
          refine m1 hA hS (Y.load rfl Try.isAgg3 (fun w h => h.cell (i := 3) rfl rfl)) rfl ?_
          clear hA a; intro a hA
          refine m_call hA Try.call25 rfl rfl ((share_c b 5 F A9 F.ps.length c9 _ (hPF _ [_, _] hS)).mono ?_)
          rintro e w ⟨A3, n3, c3, rfl, hg3, hL3⟩
          refine ⟨_, rfl, ?_⟩
          clear hA a; intro a hA
          rw [shareF_bad hv] at hA hL3
          have hn3 : n3 = 0 := (hL3.len).symm
          subst hn3
          replace hS := hS.gr hg3
          have t1 : (!valid F) = true := by rw [hv]; rfl
          have t2 : decide ((2 : Int) = 2) = true := by decide
          have t3 : decide (noHall = noHall) = true := by simp
          have t4 : (!false) = true := rfl
          have t5 : decide ((0 : Int) = 0) = true := by decide
          have t6 : decide (((0 : Nat) : Int) = 0) = true := by decide
          refine m1 hA hS (Y.move rfl) rfl ?_
          clear hA a; intro a hA
          refine m1 hA hS (Y.extract rfl rfl) rfl ?_
          clear hA a; intro a hA
          refine m1 hA hS (Y.extract rfl rfl) rfl ?_
          clear hA a; intro a hA
          refine m1 hA hS (Y.assign rfl) rfl ?_
          clear hA a; intro a hA
          refine m1 hA hS (Y.assign rfl) rfl ?_
          clear hA a; intro a hA
          refine m_nil ?_
          refine m_then ?_
          refine m_seq ?_
          refine m_region ?_
          refine m1 hA hS (Y.loads rfl Try.isAgg24 Try.sizeOf24 (fun w h => h.cells (i := 2) rfl) rfl) rfl ?_
          clear hA a; intro a hA
          refine m_callb hA hS Try.call12 rfl rfl (valid_c F A9 F.ps.length c9 _ (hPF _ [_, _] hS)) ?_
          clear hA hS a; intro a w hA hS hg
          refine m1 hA hS (Y.not rfl) rfl ?_
          clear hA a; intro a hA
          refine m1 hA hS (Y.move rfl) rfl ?_
          clear hA a; intro a hA
          refine m1g hA hS (dj := 149) rfl rfl rfl t1 (Y.move rfl) rfl ?_
          clear hA a; intro a hA
          refine m1g hA hS (dj := 149) rfl rfl rfl t1 (Y.eqI rfl rfl) rfl ?_
          clear hA a; intro a hA
          refine m1 hA hS (Y.pickT' rfl t1 rfl) rfl ?_
          clear hA a; intro a hA
          refine m1 hA hS (Y.move rfl) rfl ?_
          clear hA a; intro a hA
          refine m1g hA hS (dj := 153) rfl rfl rfl t2 (Y.loads rfl Try.isAgg24 Try.sizeOf24 (fun w h => h.cells (i := 1) rfl) rfl) rfl ?_
          clear hA a; intro a hA
          refine m1g hA hS (dj := 153) rfl rfl rfl t2 (Y.build (vs := []) (cs := [.int .i64 0, .int .i64 0, .slice none 0 0]) rfl (by kernel_rfl)) rfl ?_
          clear hA a; intro a hA
          refine m_callbg (dj := 153) hA hS rfl rfl rfl t2 Try.call15 rfl rfl (same_c noHall noHall A1 n1 c1 none 0 0 _ (PtysL.zero (hP5.ov (hS.at (by simp)))) RowOf.nil) ?_
          clear hA hS a; intro a w hA hS hg
          refine m1 hA hS (Y.pickT' rfl t2 rfl) rfl ?_
          clear hA a; intro a hA
          refine m1 hA hS (Y.move rfl) rfl ?_
          clear hA a; intro a hA
          refine m1g hA hS (dj := 158) rfl rfl rfl t3 (Y.move rfl) rfl ?_
          clear hA a; intro a hA
          refine m1g hA hS (dj := 158) rfl rfl rfl t3 (Y.not rfl) rfl ?_
          clear hA a; intro a hA
          refine m1 hA hS (Y.pickT' rfl t3 rfl) rfl ?_
          clear hA a; intro a hA
          refine m1 hA hS (Y.move rfl) rfl ?_
          clear hA a; intro a hA
          refine m1g hA hS (dj := 162) rfl rfl rfl t4 (Y.fieldAddr (k := 0) rfl Try.underlying37 rfl rfl Try.sizeOf3) rfl ?_
          clear hA a; intro a hA
          refine m1g hA hS (dj := 162) rfl rfl rfl t4 (Y.load rfl Try.isAgg3 (fun w h => h.cell (i := 0) rfl rfl)) rfl ?_
          clear hA a; intro a hA
          refine m1g hA hS (dj := 162) rfl rfl rfl t4 (Y.eqI rfl rfl) rfl ?_
          clear hA a; intro a hA
          refine m1 hA hS (Y.pickT' rfl t4 rfl) rfl ?_
          clear hA a; intro a hA
          refine m1 hA hS (Y.move rfl) rfl ?_
          clear hA a; intro a hA
          refine m1g hA hS (dj := 167) rfl rfl rfl t5 (Y.move rfl) rfl ?_
          clear hA a; intro a hA
          refine m1g hA hS (dj := 167) rfl rfl rfl t5 (Y.lenSl rfl Try.underlying34) rfl ?_
          clear hA a; intro a hA
          refine m1g hA hS (dj := 167) rfl rfl rfl t5 (Y.eqI rfl rfl) rfl ?_
          clear hA a; intro a hA
          refine m1 hA hS (Y.pickT' rfl t5 rfl) rfl ?_
          clear hA a; intro a hA
          refine m1 hA hS (Y.move rfl) rfl ?_
          clear hA a; intro a hA
          refine m1g hA hS (dj := 172) rfl rfl rfl t6 (Y.move rfl) rfl ?_
          clear hA a; intro a hA
          refine m1g hA hS (dj := 172) rfl rfl rfl t6 (Y.eqI rfl rfl) rfl ?_
          clear hA a; intro a hA
          refine m1 hA hS (Y.pickT' rfl t6 rfl) rfl ?_
          clear hA a; intro a hA
          refine m1 hA hS (Y.assign rfl) rfl ?_
          clear hA a; intro a hA
          refine m_nil ?_
          refine m_then ?_
          refine m_retc ?_
          refine m_ret1 hA Try.results9 rfl ?_
          exact ⟨ret_bool t2, hS.gr0 (by simp)⟩
end Go.Proofs.Ytljkhijdaaconaa