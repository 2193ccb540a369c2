/- Contracts of the reference of chapter 36: Valid, lead. -/
import Derived.Test.YtljkhijdaaconaaGreatRef1
set_option linter.unusedVariables false
set_option linter.unusedSectionVars false
namespace Go.Proofs.YtljkhijdaaconaaGreat
open Go.RowKit

theorem not_goodR {G : Hall} (h : ¬ Good G) : false = valid G := by
  cases e : valid G with
  | false => rfl
  | true => exact absurd (valid_iff.1 e) h
/-- What Valid has seen of a party. -/
structure PG (H : Hall) (p : Pty) : Prop where
  id : 1 ≤ p.id ∧ p.id ≤ H.last
  sz : p.mem.length + p.inv.length ≤ 5
  ld : p.leader ∈ p.mem
  so : p.inv.Pairwise (fun i j => i.who < j.who)
  mi : ∀ m ∈ p.mem, isIDb m = true ∧ cntM m (memsL H.ps) = 1
  iv : ∀ i ∈ p.inv, isIDb i.who = true ∧ cntM i.who (memsL H.ps) = 0 ∧ H.tick < i.til ∧ i.til ≤ H.tick + 600
theorem Good.of {H : Hall} (h1 : 0 ≤ H.tick) (h2 : H.tick ≤ 1073741824) (h3 : 0 ≤ H.last) (h4 : H.last ≤ 1048576) (h5 : H.ps.length ≤ 32) (hp : ∀ p ∈ H.ps, PG H p) (hw : H.ps.Pairwise (fun p q => p.id < q.id)) : Good H :=
  ⟨h1, h2, h3, h4, h5, hw, fun p h => (hp p h).id, fun p h => (hp p h).sz, fun p h => (hp p h).ld, fun p h => (hp p h).so, fun p h m hm => isIDb_iff.1 ((hp p h).mi m hm).1,
    fun p h i hi => by
      obtain ⟨a, b, c, d⟩ := (hp p h).iv i hi
      exact ⟨(isIDb_iff.1 a).1, (isIDb_iff.1 a).2, cntM_zero.1 b, c, d⟩,
    cntM_nodup.1 fun x hx => by
      obtain ⟨p, h, hm⟩ := mem_memsL.1 hx
      exact ((hp p h).mi x hm).2⟩
theorem pair_snoc {α : Type} {f : α → Int} {xs : List α} {j : Nat} {x : α} (h : (xs.take j).Pairwise (fun a b => f a < f b)) (hx : xs[j]? = some x) (hl : ∀ y, 0 < j → xs[j - 1]? = some y → f y < f x) : (xs.take (j + 1)).Pairwise (fun a b => f a < f b) := by
  rw [take_at hx, List.pairwise_append]
  refine ⟨h, by simp, fun a ha b hb => ?_⟩
  simp at hb; subst hb
  obtain ⟨i, hi⟩ := List.mem_iff_getElem?.1 ha
  have hij : i < j := by
    have := (List.getElem?_eq_some_iff.1 hi).1
    rw [List.length_take] at this; omega
  have hjx := (List.getElem?_eq_some_iff.1 hx).1
  obtain ⟨y, hy⟩ : ∃ y, xs[j - 1]? = some y := ⟨_, List.getElem?_eq_getElem (by omega)⟩
  have h1 := hl y (by omega) hy
  rcases Nat.lt_or_ge i (j - 1) with hlt | hge
  · have e1 : (xs.take j)[j - 1]? = some y := by rw [List.getElem?_take, if_pos (by omega)]; exact hy
    obtain ⟨q1, q2⟩ := List.getElem?_eq_some_iff.1 hi
    obtain ⟨r1, r2⟩ := List.getElem?_eq_some_iff.1 e1
    have := List.pairwise_iff_getElem.1 h i (j - 1) q1 r1 hlt
    rw [q2, r2] at this
    omega
  · have e0 : i = j - 1 := by omega
    subst e0
    rw [List.getElem?_take, if_pos (by omega), hy] at hi
    cases hi
    exact h1
theorem pair_at {α : Type} {f : α → Int} {xs : List α} (h : xs.Pairwise (fun a b => f a < f b)) {i j : Nat} {x y : α} (hx : xs[i]? = some x) (hy : xs[j]? = some y) (hij : i < j) : f x < f y := by
  obtain ⟨h1, e1⟩ := List.getElem?_eq_some_iff.1 hx
  obtain ⟨h2, e2⟩ := List.getElem?_eq_some_iff.1 hy
  have := List.pairwise_iff_getElem.1 h i j h1 h2 hij
  rw [e1, e2] at this
  exact this
set_option maxRecDepth 100000 in
set_option maxHeartbeats 4000000 in
theorem refValid_c (H : Hall) (A : Option Addr) (n c : Nat) (w0 : World) (hP : Ptys w0 A n H.ps) (hq : ∀ p ∈ H.ps, p.mem.length ≤ 100 ∧ p.inv.length ≤ 100) :
    Calls Tryz.prog 9 #[.agg #[.int .i64 H.tick, .int .i64 H.last, .slice A n c]] w0 fun e w' => e = .returned (.bool (valid H)) ∧ Gr w0 w' := by
  have hl := hP.len
  have hn := hP.le
  refine m_enter Tryz.func9 rfl Tryz.ntmps9 (Nat.le_of_ble_eq_true rfl) ?_
  intro a hA
  have hS := St.start w0
  refine m_seq ?_
  refine m_region ?_
  refine m_box hA hS rfl rfl ?_
  clear hA hS a; intro a b1 w hA hleb1 hgb1 hS
  refine m1 hA hS (Y.assign rfl) rfl ?_
  clear hA a; intro a hA
  refine m_nil ?_
  refine m_then ?_
  refine m_seq ?_
  refine m_seq ?_
  refine m_region ?_
  refine m1 hA hS (Y.fieldAddr (k := 0) rfl Tryz.underlying30 rfl rfl Tryz.sizeOf3) rfl ?_
  clear hA a; intro a hA
  refine m1 hA hS (Y.load rfl Tryz.isAgg3 (fun w h => h.cell (i := 0) rfl rfl)) rfl ?_
  clear hA a; intro a hA
  refine m1 hA hS (Y.ltI rfl rfl) rfl ?_
  clear hA a; intro a hA
  refine m1 hA hS (Y.move rfl) rfl ?_
  clear hA a; intro a hA
  replace hA := hA.keep [12, 2, 1] rfl
  apply m_or 4 16 12 hA hS rfl
  · intro hp1
    refine m1s hA (dj := 12) rfl rfl rfl hp1 rfl ?_
    intro a hA
    refine m1s hA (dj := 12) rfl rfl rfl hp1 rfl ?_
    clear hA a; intro a hA
    refine m1s hA (dj := 12) rfl rfl rfl hp1 rfl ?_
    clear hA a; intro a hA
    refine m1 hA hS (Y.pickT' rfl hp1 rfl) rfl ?_
    clear hA a; intro a hA
    exact m_nil (m_then ⟨hA.keep [16, 12, 2, 1] rfl, hS⟩)
  · intro hp1
    refine m1g hA hS (dj := 12) rfl rfl rfl hp1 (Y.fieldAddr (k := 0) rfl Tryz.underlying30 rfl rfl Tryz.sizeOf3) rfl ?_
    intro a hA
    refine m1g hA hS (dj := 12) rfl rfl rfl hp1 (Y.load rfl Tryz.isAgg3 (fun w h => h.cell (i := 0) rfl rfl)) rfl ?_
    clear hA a; intro a hA
    refine m1g hA hS (dj := 12) rfl rfl rfl hp1 (Y.gtI rfl rfl) rfl ?_
    clear hA a; intro a hA
    refine m1 hA hS (Y.pickF' rfl hp1 rfl) rfl ?_
    clear hA a; intro a hA
    exact m_nil (m_then ⟨hA.keep [16, 12, 2, 1] rfl, hS⟩)
  · clear hA hS a; intro a w hA hS
    refine m1 hA hS (Y.move rfl) rfl ?_
    clear hA a; intro a hA
    replace hA := hA.keep [17, 2, 1] rfl
    apply m_or 4 21 17 hA hS rfl
    · intro hp2
      refine m1s hA (dj := 17) rfl rfl rfl hp2 rfl ?_
      intro a hA
      refine m1s hA (dj := 17) rfl rfl rfl hp2 rfl ?_
      clear hA a; intro a hA
      refine m1s hA (dj := 17) rfl rfl rfl hp2 rfl ?_
      clear hA a; intro a hA
      refine m1 hA hS (Y.pickT' rfl hp2 rfl) rfl ?_
      clear hA a; intro a hA
      exact m_nil (m_then ⟨hA.keep [21, 17, 2, 1] rfl, hS⟩)
    · intro hp2
      refine m1g hA hS (dj := 17) rfl rfl rfl hp2 (Y.fieldAddr (k := 1) rfl Tryz.underlying30 rfl rfl Tryz.sizeOf3) rfl ?_
      intro a hA
      refine m1g hA hS (dj := 17) rfl rfl rfl hp2 (Y.load rfl Tryz.isAgg3 (fun w h => h.cell (i := 0) rfl rfl)) rfl ?_
      clear hA a; intro a hA
      refine m1g hA hS (dj := 17) rfl rfl rfl hp2 (Y.ltI rfl rfl) rfl ?_
      clear hA a; intro a hA
      refine m1 hA hS (Y.pickF' rfl hp2 rfl) rfl ?_
      clear hA a; intro a hA
      exact m_nil (m_then ⟨hA.keep [21, 17, 2, 1] rfl, hS⟩)
    · clear hA hS a; intro a w hA hS
      refine m1 hA hS (Y.move rfl) rfl ?_
      clear hA a; intro a hA
      replace hA := hA.keep [22, 2, 1] rfl
      apply m_or 4 26 22 hA hS rfl
      · intro hp3
        refine m1s hA (dj := 22) rfl rfl rfl hp3 rfl ?_
        intro a hA
        refine m1s hA (dj := 22) rfl rfl rfl hp3 rfl ?_
        clear hA a; intro a hA
        refine m1s hA (dj := 22) rfl rfl rfl hp3 rfl ?_
        clear hA a; intro a hA
        refine m1 hA hS (Y.pickT' rfl hp3 rfl) rfl ?_
        clear hA a; intro a hA
        exact m_nil (m_then ⟨hA.keep [26, 22, 2, 1] rfl, hS⟩)
      · intro hp3
        refine m1g hA hS (dj := 22) rfl rfl rfl hp3 (Y.fieldAddr (k := 1) rfl Tryz.underlying30 rfl rfl Tryz.sizeOf3) rfl ?_
        intro a hA
        refine m1g hA hS (dj := 22) rfl rfl rfl hp3 (Y.load rfl Tryz.isAgg3 (fun w h => h.cell (i := 0) rfl rfl)) rfl ?_
        clear hA a; intro a hA
        refine m1g hA hS (dj := 22) rfl rfl rfl hp3 (Y.gtI rfl rfl) rfl ?_
        clear hA a; intro a hA
        refine m1 hA hS (Y.pickF' rfl hp3 rfl) rfl ?_
        clear hA a; intro a hA
        exact m_nil (m_then ⟨hA.keep [26, 22, 2, 1] rfl, hS⟩)
      · clear hA hS a; intro a w hA hS
        refine m1 hA hS (Y.move rfl) rfl ?_
        clear hA a; intro a hA
        replace hA := hA.keep [27, 2, 1] rfl
        apply m_or 5 32 27 hA hS rfl
        · intro hp4
          refine m1s hA (dj := 27) rfl rfl rfl hp4 rfl ?_
          intro a hA
          refine m1s hA (dj := 27) rfl rfl rfl hp4 rfl ?_
          clear hA a; intro a hA
          refine m1s hA (dj := 27) rfl rfl rfl hp4 rfl ?_
          clear hA a; intro a hA
          refine m1s hA (dj := 27) rfl rfl rfl hp4 rfl ?_
          clear hA a; intro a hA
          refine m1 hA hS (Y.pickT' rfl hp4 rfl) rfl ?_
          clear hA a; intro a hA
          exact m_nil (m_then ⟨hA.keep [32, 27, 2, 1] rfl, hS⟩)
        · intro hp4
          refine m1g hA hS (dj := 27) rfl rfl rfl hp4 (Y.fieldAddr (k := 2) rfl Tryz.underlying30 rfl rfl Tryz.sizeOf28) rfl ?_
          intro a hA
          refine m1g hA hS (dj := 27) rfl rfl rfl hp4 (Y.load rfl Tryz.isAgg28 (fun w h => h.cell (i := 0) rfl rfl)) rfl ?_
          clear hA a; intro a hA
          refine m1g hA hS (dj := 27) rfl rfl rfl hp4 (Y.lenSl rfl Tryz.underlying28) rfl ?_
          clear hA a; intro a hA
          refine m1g hA hS (dj := 27) rfl rfl rfl hp4 (Y.gtI rfl rfl) rfl ?_
          clear hA a; intro a hA
          refine m1 hA hS (Y.pickF' rfl hp4 rfl) rfl ?_
          clear hA a; intro a hA
          exact m_nil (m_then ⟨hA.keep [32, 27, 2, 1] rfl, hS⟩)
        · clear hA hS a; intro a w hA hS
          refine m_nil ?_
          refine m_then ?_
          refine m_cond hA rfl (fun hc => ?_) (fun hc => ?_)
          · simp only [Bool.or_eq_true, decide_eq_true_eq] at hc
            refine m_seq ?_
            refine m_region ?_
            refine m1 hA hS (Y.assign rfl) rfl ?_
            clear hA a; intro a hA
            refine m_nil ?_
            refine m_then ?_
            refine m_retc ?_
            refine r_then ?_
            refine m_ret1 hA Tryz.results9 rfl ?_
            refine ⟨ret_bool (not_goodR fun g => ?_), hS.gr0 (by simp)⟩
            have := g.ti0
            have := g.ti1
            have := g.la0
            have := g.la1
            have := g.ln
            omega
          · simp only [Bool.or_eq_false_iff, decide_eq_false_iff_not] at hc
            refine m_skip ?_
            refine m_then ?_
            refine m_seq ?_
            refine m_seq ?_
            refine m_region ?_
            refine m1 hA hS (Y.assign rfl) rfl ?_
            clear hA a; intro a hA
            refine m_nil ?_
            refine m_then ?_
            refine m_block ?_
            -- LOST [2]
            refine m_loopX [1] rfl hA ((0 : Nat)) (fun x => [(3, .int .i64 (x : Int))]) (fun _ => _) (fun _ => _) (fun x => x ≤ n ∧ (∀ p ∈ H.ps.take x, PG H p) ∧ (H.ps.take x).Pairwise (fun p q => p.id < q.id)) (fun x => n - x) (ks := [3]) rfl hS (⟨Nat.zero_le _, by simp, by simp⟩) ?_
            clear hA hS a; rintro j a w hA hS hj
            try dsimp only at hA
            try dsimp only at hS
            try dsimp only at hj
            obtain ⟨hj, hpg, hpw⟩ := hj
            replace hA := hA.keep [3, 1] rfl
            refine m_seq ?_
            refine m_seq ?_
            refine m_region ?_
            refine m1 hA hS (Y.move rfl) rfl ?_
            clear hA a; intro a hA
            refine m1 hA hS (Y.fieldAddr (k := 2) rfl Tryz.underlying30 rfl rfl Tryz.sizeOf28) rfl ?_
            clear hA a; intro a hA
            refine m1 hA hS (Y.load rfl Tryz.isAgg28 (fun w h => h.cell (i := 0) rfl rfl)) rfl ?_
            clear hA a; intro a hA
            refine m1 hA hS (Y.lenSl rfl Tryz.underlying28) rfl ?_
            clear hA a; intro a hA
            refine m1 hA hS (Y.ltI rfl rfl) rfl ?_
            clear hA a; intro a hA
            refine m_nil ?_
            refine m_then ?_
            refine m_condP hA rfl (fun hlt => ?_) (fun hlt => ?_)
            · obtain ⟨bb, o, p, M, m, mc, I, i, ic, rfl, hp, p0, p1, p2, p3, hin⟩ := hP.at (j := j) (by omega)
              have hpm := List.mem_of_getElem? hp
              have hml := hin.mem.len
              have hil := hin.inv.len
              obtain ⟨hm100, hi100⟩ := hq p hpm
              obtain ⟨pid, hpid⟩ : ∃ pid, pid = ((H.ps[j - 1]?).map (·.id)).getD 0 := ⟨_, rfl⟩
              have hprev : ∀ q, 0 < j → H.ps[j - 1]? = some q → pid = q.id := fun q _ h => by rw [hpid, h]; rfl
              have z0 : (0 : Int) < (j : Int) → w0.cell? ⟨bb, o + ((j : Int) - 1).toNat * 4 + 0, none⟩ = some (.int .i64 pid) := fun h => by
                obtain ⟨b8, o8, x8, _, _, _, _, _, _, e8, hx8, r0, _⟩ := hP.at (j := j - 1) (by omega)
                cases e8
                rw [show ((j : Int) - 1).toNat = j - 1 from by omega, hprev x8 (by omega) hx8]
                exact r0
              refine m_skip ?_
              refine m_then ?_
              refine m_seq ?_
              refine m_block ?_
              refine m_seq ?_
              refine m_region ?_
              refine m1 hA hS (Y.fieldAddr (k := 2) rfl Tryz.underlying30 rfl rfl Tryz.sizeOf28) rfl ?_
              clear hA a; intro a hA
              refine m1 hA hS (Y.load rfl Tryz.isAgg28 (fun w h => h.cell (i := 0) rfl rfl)) rfl ?_
              clear hA a; intro a hA
              refine m1 hA hS (Y.move rfl) rfl ?_
              clear hA a; intro a hA
              refine m1 hA hS (Y.indexAddrN rfl rfl Tryz.underlying28 Tryz.sizeOf43 (by omega)) rfl ?_
              clear hA a; intro a hA
              refine m1 hA hS (Y.loads rfl Tryz.isAgg43 Tryz.sizeOf43 (fun w h => h.rds (by simp) (Nat.zero_le _) (Cs.four p0 p1 p2 p3)) rfl) rfl ?_
              clear hA a; intro a hA
              refine m_alloc hA hS Tryz.zeroValue43 rfl ?_
              clear hA hS a; intro a b2 w hA hleb2 hgb2 hS
              refine m_store 0 hA hS rfl rfl Tryz.sizeOf43 rfl rfl rfl rfl ?_
              clear hS; intro w hS
              refine m_nil ?_
              refine m_then ?_
              refine m_seq ?_
              refine m_seq ?_
              refine q_region hS rfl (by kernel_rfl) ?_
              refine q1 hA (Y.fieldAddr (k := 0) rfl Tryz.underlying43 rfl rfl Tryz.sizeOf3) rfl ?_
              clear hA a; intro a hA
              refine q1 hA (Y.load rfl Tryz.isAgg3 (fun w h => h.cell (i := 0) rfl rfl)) rfl ?_
              clear hA a; intro a hA
              refine q1 hA (Y.ltI rfl rfl) rfl ?_
              clear hA a; intro a hA
              refine q1 hA (Y.move rfl) rfl ?_
              clear hA a; intro a hA
              replace hA := hA.keep [48, 4, 3, 1] rfl
              apply q_or 6 54 48 hA rfl
              · intro hp5
                refine q1s hA (dj := 48) rfl rfl rfl hp5 rfl ?_
                intro a hA
                refine q1s hA (dj := 48) rfl rfl rfl hp5 rfl ?_
                clear hA a; intro a hA
                refine q1s hA (dj := 48) rfl rfl rfl hp5 rfl ?_
                clear hA a; intro a hA
                refine q1s hA (dj := 48) rfl rfl rfl hp5 rfl ?_
                clear hA a; intro a hA
                refine q1s hA (dj := 48) rfl rfl rfl hp5 rfl ?_
                clear hA a; intro a hA
                refine q1 hA (Y.pickT' rfl hp5 rfl) rfl ?_
                clear hA a; intro a hA
                exact q_nil (hA.keep [54, 48, 4, 3, 1] rfl)
              · intro hp5
                refine q1g hA (dj := 48) rfl rfl rfl hp5 (Y.fieldAddr (k := 0) rfl Tryz.underlying43 rfl rfl Tryz.sizeOf3) rfl ?_
                intro a hA
                refine q1g hA (dj := 48) rfl rfl rfl hp5 (Y.load rfl Tryz.isAgg3 (fun w h => h.cell (i := 0) rfl rfl)) rfl ?_
                clear hA a; intro a hA
                refine q1g hA (dj := 48) rfl rfl rfl hp5 (Y.fieldAddr (k := 1) rfl Tryz.underlying30 rfl rfl Tryz.sizeOf3) rfl ?_
                clear hA a; intro a hA
                refine q1g hA (dj := 48) rfl rfl rfl hp5 (Y.load rfl Tryz.isAgg3 (fun w h => h.cell (i := 1) rfl rfl)) rfl ?_
                clear hA a; intro a hA
                refine q1g hA (dj := 48) rfl rfl rfl hp5 (Y.gtI rfl rfl) rfl ?_
                clear hA a; intro a hA
                refine q1 hA (Y.pickF' rfl hp5 rfl) rfl ?_
                clear hA a; intro a hA
                exact q_nil (hA.keep [54, 48, 4, 3, 1] rfl)
              · clear hA a; intro a hA
                refine q1 hA (Y.move rfl) rfl ?_
                clear hA a; intro a hA
                replace hA := hA.keep [55, 4, 3, 1] rfl
                apply q_or 15 70 55 hA rfl
                · intro hp6
                  refine q1s hA (dj := 55) rfl rfl rfl hp6 rfl ?_
                  intro a hA
                  refine q1s hA (dj := 55) rfl rfl rfl hp6 rfl ?_
                  clear hA a; intro a hA
                  refine q1s hA (dj := 55) rfl rfl rfl hp6 rfl ?_
                  clear hA a; intro a hA
                  refine q1u hA (dj := 58) rfl rfl rfl rfl ?_
                  clear hA a; intro a hA
                  refine q1u hA (dj := 58) rfl rfl rfl rfl ?_
                  clear hA a; intro a hA
                  refine q1u hA (dj := 58) rfl rfl rfl rfl ?_
                  clear hA a; intro a hA
                  refine q1u hA (dj := 58) rfl rfl rfl rfl ?_
                  clear hA a; intro a hA
                  refine q1u hA (dj := 58) rfl rfl rfl rfl ?_
                  clear hA a; intro a hA
                  refine q1u hA (dj := 58) rfl rfl rfl rfl ?_
                  clear hA a; intro a hA
                  refine q1u hA (dj := 58) rfl rfl rfl rfl ?_
                  clear hA a; intro a hA
                  refine q1u hA (dj := 58) rfl rfl rfl rfl ?_
                  clear hA a; intro a hA
                  refine q1u hA (dj := 58) rfl rfl rfl rfl ?_
                  clear hA a; intro a hA
                  refine q1u hA (dj := 58) rfl rfl rfl rfl ?_
                  clear hA a; intro a hA
                  refine q1s hA (dj := 55) rfl rfl rfl hp6 rfl ?_
                  clear hA a; intro a hA
                  refine q1 hA (Y.pickT' rfl hp6 rfl) rfl ?_
                  clear hA a; intro a hA
                  exact q_nil (hA.keep [70, 55, 4, 3, 1] rfl)
                · intro hp6
                  refine q1g hA (dj := 55) rfl rfl rfl hp6 (Y.move rfl) rfl ?_
                  intro a hA
                  refine q1g hA (dj := 55) rfl rfl rfl hp6 (Y.gtI rfl rfl) rfl ?_
                  clear hA a; intro a hA
                  refine q1g hA (dj := 55) rfl rfl rfl hp6 (Y.move rfl) rfl ?_
                  clear hA a; intro a hA
                  replace hA := hA.keep [58, 55, 4, 3, 1] rfl
                  apply q_and 11 69 58 hA rfl
                  · intro hp7
                    refine q1s hA (dj := 58) rfl rfl rfl hp7 rfl ?_
                    intro a hA
                    refine q1s hA (dj := 58) rfl rfl rfl hp7 rfl ?_
                    clear hA a; intro a hA
                    refine q1s hA (dj := 58) rfl rfl rfl hp7 rfl ?_
                    clear hA a; intro a hA
                    refine q1s hA (dj := 58) rfl rfl rfl hp7 rfl ?_
                    clear hA a; intro a hA
                    refine q1s hA (dj := 58) rfl rfl rfl hp7 rfl ?_
                    clear hA a; intro a hA
                    refine q1s hA (dj := 58) rfl rfl rfl hp7 rfl ?_
                    clear hA a; intro a hA
                    refine q1s hA (dj := 58) rfl rfl rfl hp7 rfl ?_
                    clear hA a; intro a hA
                    refine q1s hA (dj := 58) rfl rfl rfl hp7 rfl ?_
                    clear hA a; intro a hA
                    refine q1s hA (dj := 58) rfl rfl rfl hp7 rfl ?_
                    clear hA a; intro a hA
                    refine q1s hA (dj := 58) rfl rfl rfl hp7 rfl ?_
                    clear hA a; intro a hA
                    refine q1g hA (dj := 55) rfl rfl rfl hp6 (Y.pickF' rfl hp7 rfl) rfl ?_
                    clear hA a; intro a hA
                    exact q_nil (hA.keep [69, 58, 55, 4, 3, 1] rfl)
                  · intro hp7
                    refine q1g hA (dj := 58) rfl rfl rfl hp7 (Y.fieldAddr (k := 0) rfl Tryz.underlying43 rfl rfl Tryz.sizeOf3) rfl ?_
                    intro a hA
                    refine q1g hA (dj := 58) rfl rfl rfl hp7 (Y.load rfl Tryz.isAgg3 (fun w h => h.cell (i := 0) rfl rfl)) rfl ?_
                    clear hA a; intro a hA
                    refine q1g hA (dj := 58) rfl rfl rfl hp7 (Y.fieldAddr (k := 2) rfl Tryz.underlying30 rfl rfl Tryz.sizeOf28) rfl ?_
                    clear hA a; intro a hA
                    refine q1g hA (dj := 58) rfl rfl rfl hp7 (Y.load rfl Tryz.isAgg28 (fun w h => h.cell (i := 1) rfl rfl)) rfl ?_
                    clear hA a; intro a hA
                    refine q1g hA (dj := 58) rfl rfl rfl hp7 (Y.move rfl) rfl ?_
                    clear hA a; intro a hA
                    refine q1g hA (dj := 58) rfl rfl rfl hp7 (Y.subI rfl rfl (by omega)) rfl ?_
                    clear hA a; intro a hA
                    refine q1g hA (dj := 58) rfl rfl rfl hp7 (Y.indexAddr rfl rfl Tryz.underlying28 Tryz.sizeOf43 (by have := of_decide_eq_true hp7; omega) (by omega)) rfl ?_
                    clear hA a; intro a hA
                    refine q1g hA (dj := 58) rfl rfl rfl hp7 (Y.fieldAddr (k := 0) rfl Tryz.underlying43 rfl rfl Tryz.sizeOf3) rfl ?_
                    clear hA a; intro a hA
                    refine q1g hA (dj := 58) rfl rfl rfl hp7 (Y.load rfl Tryz.isAgg3 (fun w h => h.rd (by simp) (Nat.zero_le _) (z0 (of_decide_eq_true hp7)))) rfl ?_
                    clear hA a; intro a hA
                    refine q1g hA (dj := 58) rfl rfl rfl hp7 (Y.leI rfl rfl) rfl ?_
                    clear hA a; intro a hA
                    refine q1g hA (dj := 55) rfl rfl rfl hp6 (Y.pickT' rfl hp7 rfl) rfl ?_
                    clear hA a; intro a hA
                    exact q_nil (hA.keep [69, 58, 55, 4, 3, 1] rfl)
                  · clear hA a; intro a hA
                    refine q1 hA (Y.pickF' rfl hp6 rfl) rfl ?_
                    clear hA a; intro a hA
                    exact q_nil (hA.keep [70, 55, 4, 3, 1] rfl)
                · clear hA a; intro a hA
                  refine q1 hA (Y.move rfl) rfl ?_
                  clear hA a; intro a hA
                  replace hA := hA.keep [71, 4, 3, 1] rfl
                  apply q_or 5 76 71 hA rfl
                  · intro hp8
                    refine q1s hA (dj := 71) rfl rfl rfl hp8 rfl ?_
                    intro a hA
                    refine q1s hA (dj := 71) rfl rfl rfl hp8 rfl ?_
                    clear hA a; intro a hA
                    refine q1s hA (dj := 71) rfl rfl rfl hp8 rfl ?_
                    clear hA a; intro a hA
                    refine q1s hA (dj := 71) rfl rfl rfl hp8 rfl ?_
                    clear hA a; intro a hA
                    refine q1 hA (Y.pickT' rfl hp8 rfl) rfl ?_
                    clear hA a; intro a hA
                    exact q_nil (hA.keep [76, 71, 4, 3, 1] rfl)
                  · intro hp8
                    refine q1g hA (dj := 71) rfl rfl rfl hp8 (Y.fieldAddr (k := 2) rfl Tryz.underlying43 rfl rfl Tryz.sizeOf38) rfl ?_
                    intro a hA
                    refine q1g hA (dj := 71) rfl rfl rfl hp8 (Y.load rfl Tryz.isAgg38 (fun w h => h.cell (i := 0) rfl rfl)) rfl ?_
                    clear hA a; intro a hA
                    refine q1g hA (dj := 71) rfl rfl rfl hp8 (Y.lenSl rfl Tryz.underlying38) rfl ?_
                    clear hA a; intro a hA
                    refine q1g hA (dj := 71) rfl rfl rfl hp8 (Y.eqI rfl rfl) rfl ?_
                    clear hA a; intro a hA
                    refine q1 hA (Y.pickF' rfl hp8 rfl) rfl ?_
                    clear hA a; intro a hA
                    exact q_nil (hA.keep [76, 71, 4, 3, 1] rfl)
                  · clear hA a; intro a hA
                    refine q1 hA (Y.move rfl) rfl ?_
                    clear hA a; intro a hA
                    replace hA := hA.keep [77, 4, 3, 1] rfl
                    apply q_or 9 86 77 hA rfl
                    · intro hp9
                      refine q1s hA (dj := 77) rfl rfl rfl hp9 rfl ?_
                      intro a hA
                      refine q1s hA (dj := 77) rfl rfl rfl hp9 rfl ?_
                      clear hA a; intro a hA
                      refine q1s hA (dj := 77) rfl rfl rfl hp9 rfl ?_
                      clear hA a; intro a hA
                      refine q1s hA (dj := 77) rfl rfl rfl hp9 rfl ?_
                      clear hA a; intro a hA
                      refine q1s hA (dj := 77) rfl rfl rfl hp9 rfl ?_
                      clear hA a; intro a hA
                      refine q1s hA (dj := 77) rfl rfl rfl hp9 rfl ?_
                      clear hA a; intro a hA
                      refine q1s hA (dj := 77) rfl rfl rfl hp9 rfl ?_
                      clear hA a; intro a hA
                      refine q1s hA (dj := 77) rfl rfl rfl hp9 rfl ?_
                      clear hA a; intro a hA
                      refine q1 hA (Y.pickT' rfl hp9 rfl) rfl ?_
                      clear hA a; intro a hA
                      exact q_nil (hA.keep [86, 77, 4, 3, 1] rfl)
                    · intro hp9
                      refine q1g hA (dj := 77) rfl rfl rfl hp9 (Y.fieldAddr (k := 2) rfl Tryz.underlying43 rfl rfl Tryz.sizeOf38) rfl ?_
                      intro a hA
                      refine q1g hA (dj := 77) rfl rfl rfl hp9 (Y.load rfl Tryz.isAgg38 (fun w h => h.cell (i := 0) rfl rfl)) rfl ?_
                      clear hA a; intro a hA
                      refine q1g hA (dj := 77) rfl rfl rfl hp9 (Y.lenSl rfl Tryz.underlying38) rfl ?_
                      clear hA a; intro a hA
                      refine q1g hA (dj := 77) rfl rfl rfl hp9 (Y.fieldAddr (k := 3) rfl Tryz.underlying43 rfl rfl Tryz.sizeOf41) rfl ?_
                      clear hA a; intro a hA
                      refine q1g hA (dj := 77) rfl rfl rfl hp9 (Y.load rfl Tryz.isAgg41 (fun w h => h.cell (i := 0) rfl rfl)) rfl ?_
                      clear hA a; intro a hA
                      refine q1g hA (dj := 77) rfl rfl rfl hp9 (Y.lenSl rfl Tryz.underlying41) rfl ?_
                      clear hA a; intro a hA
                      refine q1g hA (dj := 77) rfl rfl rfl hp9 (Y.addI rfl rfl (by omega)) rfl ?_
                      clear hA a; intro a hA
                      refine q1g hA (dj := 77) rfl rfl rfl hp9 (Y.gtI rfl rfl) rfl ?_
                      clear hA a; intro a hA
                      refine q1 hA (Y.pickF' rfl hp9 rfl) rfl ?_
                      clear hA a; intro a hA
                      exact q_nil (hA.keep [86, 77, 4, 3, 1] rfl)
                    · clear hA a; intro a hA
                      refine q_nil ?_
                      clear hS; intro w hS
                      refine m_then ?_
                      refine m_cond hA rfl (fun hc2 => ?_) (fun hc2 => ?_)
                      · simp only [Bool.or_eq_true, Bool.and_eq_true, decide_eq_true_eq] at hc2
                        refine m_seq ?_
                        refine m_region ?_
                        refine m1 hA hS (Y.assign rfl) rfl ?_
                        clear hA a; intro a hA
                        refine m_nil ?_
                        refine m_then ?_
                        refine m_retc ?_
                        refine r_then ?_
                        refine r_block ?_
                        refine r_then ?_
                        refine r_then ?_
                        refine r_block ?_
                        refine r_then ?_
                        refine m_ret1 hA Tryz.results9 rfl ?_
                        refine ⟨ret_bool (not_goodR fun g => ?_), hS.gr0 (by simp)⟩
                        have h1 := g.id p hpm
                        have h2 := g.sz p hpm
                        have h3 := List.length_pos_of_mem (g.ld p hpm)
                        rcases hc2 with (((h | h) | h) | h) | h
                        · omega
                        · omega
                        · obtain ⟨q, hq⟩ : ∃ q, H.ps[j - 1]? = some q := ⟨_, List.getElem?_eq_getElem (by omega)⟩
                          have h4 := pair_at (f := fun p : Pty => p.id) g.pw hq hp (by omega)
                          have h5 := hprev q (by omega) hq
                          omega
                        · omega
                        · omega
                      · simp only [Bool.or_eq_false_iff, Bool.and_eq_false_iff, decide_eq_false_iff_not] at hc2
                        refine m_skip ?_
                        refine m_then ?_
                        refine m_seq ?_
                        refine m_region ?_
                        refine m1 hA hS (Y.assign rfl) rfl ?_
                        clear hA a; intro a hA
                        refine m_nil ?_
                        refine m_then ?_
                        refine m_seq ?_
                        refine m_seq ?_
                        refine m_region ?_
                        refine m1 hA hS (Y.assign rfl) rfl ?_
                        clear hA a; intro a hA
                        refine m_nil ?_
                        refine m_then ?_
                        refine m_block ?_
                        refine m_loopX [4, 3, 1] rfl hA (((0 : Nat), false)) (fun x => [(5, .bool x.2), (6, .int .i64 (x.1 : Int))]) (fun _ => _) (fun _ => _) (fun x => x.1 ≤ m ∧ x.2 = (p.mem.take x.1).any (fun y => decide (y = p.leader)) ∧ ∀ y ∈ p.mem.take x.1, isIDb y = true ∧ cntM y (memsL H.ps) = 1) (fun x => m - x.1) (ks := [5, 6]) rfl hS (⟨Nat.zero_le _, rfl, by simp⟩) ?_
                        clear hA hS a; rintro ⟨r, led⟩ a w hA hS hj
                        try dsimp only at hA
                        try dsimp only at hS
                        try dsimp only at hj
                        obtain ⟨hr, hled, hmem⟩ := hj
                        replace hA := hA.keep [5, 6, 4, 3, 1] rfl
                        refine m_seq ?_
                        refine m_seq ?_
                        refine m_region ?_
                        refine m1 hA hS (Y.move rfl) rfl ?_
                        clear hA a; intro a hA
                        refine m1 hA hS (Y.fieldAddr (k := 2) rfl Tryz.underlying43 rfl rfl Tryz.sizeOf38) rfl ?_
                        clear hA a; intro a hA
                        refine m1 hA hS (Y.load rfl Tryz.isAgg38 (fun w h => h.cell (i := 0) rfl rfl)) rfl ?_
                        clear hA a; intro a hA
                        refine m1 hA hS (Y.lenSl rfl Tryz.underlying38) rfl ?_
                        clear hA a; intro a hA
                        refine m1 hA hS (Y.ltI rfl rfl) rfl ?_
                        clear hA a; intro a hA
                        refine m_nil ?_
                        refine m_then ?_
                        refine m_condP hA rfl (fun hlt2 => ?_) (fun hlt2 => ?_)
                        · obtain ⟨bx, ox, x, rfl, hx, q0⟩ := hin.mem.at (j := r) (by omega)
                          rw [show ox + r = ox + r * 1 from by omega] at q0
                          have hxm := List.mem_of_getElem? hx
                          refine m_skip ?_
                          refine m_then ?_
                          refine m_seq ?_
                          refine m_block ?_
                          refine m_seq ?_
                          refine m_seq ?_
                          refine q_region hS rfl (by kernel_rfl) ?_
                          refine q1 hA (Y.fieldAddr (k := 2) rfl Tryz.underlying43 rfl rfl Tryz.sizeOf38) rfl ?_
                          clear hA a; intro a hA
                          refine q1 hA (Y.load rfl Tryz.isAgg38 (fun w h => h.cell (i := 0) rfl rfl)) rfl ?_
                          clear hA a; intro a hA
                          refine q1 hA (Y.move rfl) rfl ?_
                          clear hA a; intro a hA
                          refine q1 hA (Y.indexAddrN rfl rfl Tryz.underlying38 Tryz.sizeOf3 (by omega)) rfl ?_
                          clear hA a; intro a hA
                          refine q1 hA (Y.load rfl Tryz.isAgg3 (fun w h => h.rd (by simp) (Nat.zero_le _) (q0))) rfl ?_
                          clear hA a; intro a hA
                          refine q_call _ hA Tryz.call28 rfl rfl (fun w hS => refId_c _ _) ?_
                          clear hA a; intro a hA
                          refine q1 hA (Y.not rfl) rfl ?_
                          clear hA a; intro a hA
                          refine q1 hA (Y.move rfl) rfl ?_
                          clear hA a; intro a hA
                          replace hA := hA.keep [101, 5, 6, 4, 3, 1] rfl
                          apply q_or 9 110 101 hA rfl
                          · intro hp10
                            refine q1s hA (dj := 101) rfl rfl rfl hp10 rfl ?_
                            intro a hA
                            refine q1s hA (dj := 101) rfl rfl rfl hp10 rfl ?_
                            clear hA a; intro a hA
                            refine q1s hA (dj := 101) rfl rfl rfl hp10 rfl ?_
                            clear hA a; intro a hA
                            refine q1s hA (dj := 101) rfl rfl rfl hp10 rfl ?_
                            clear hA a; intro a hA
                            refine q1s hA (dj := 101) rfl rfl rfl hp10 rfl ?_
                            clear hA a; intro a hA
                            refine q1s hA (dj := 101) rfl rfl rfl hp10 rfl ?_
                            clear hA a; intro a hA
                            refine q1s hA (dj := 101) rfl rfl rfl hp10 rfl ?_
                            clear hA a; intro a hA
                            refine q1s hA (dj := 101) rfl rfl rfl hp10 rfl ?_
                            clear hA a; intro a hA
                            refine q1 hA (Y.pickT' rfl hp10 rfl) rfl ?_
                            clear hA a; intro a hA
                            exact q_nil (hA.keep [110, 101, 5, 6, 4, 3, 1] rfl)
                          · intro hp10
                            refine q1g hA (dj := 101) rfl rfl rfl hp10 (Y.loads rfl Tryz.isAgg30 Tryz.sizeOf30 (fun w h => h.cells (i := 1) rfl) rfl) rfl ?_
                            intro a hA
                            refine q1g hA (dj := 101) rfl rfl rfl hp10 (Y.fieldAddr (k := 2) rfl Tryz.underlying43 rfl rfl Tryz.sizeOf38) rfl ?_
                            clear hA a; intro a hA
                            refine q1g hA (dj := 101) rfl rfl rfl hp10 (Y.load rfl Tryz.isAgg38 (fun w h => h.cell (i := 0) rfl rfl)) rfl ?_
                            clear hA a; intro a hA
                            refine q1g hA (dj := 101) rfl rfl rfl hp10 (Y.move rfl) rfl ?_
                            clear hA a; intro a hA
                            refine q1g hA (dj := 101) rfl rfl rfl hp10 (Y.indexAddrN rfl rfl Tryz.underlying38 Tryz.sizeOf3 (by omega)) rfl ?_
                            clear hA a; intro a hA
                            refine q1g hA (dj := 101) rfl rfl rfl hp10 (Y.load rfl Tryz.isAgg3 (fun w h => h.rd (by simp) (Nat.zero_le _) (q0))) rfl ?_
                            clear hA a; intro a hA
                            refine q_callg (dj := 101) _ hA rfl rfl rfl hp10 Tryz.call29 rfl rfl (fun w hS => times_c x H _ n c _ (hP.gr (hS.gr0 (by simp))) (by omega) (fun p hp => (hq p hp).1)) ?_
                            clear hA a; intro a hA
                            refine q1g hA (dj := 101) rfl rfl rfl hp10 (Y.neI rfl rfl) rfl ?_
                            clear hA a; intro a hA
                            refine q1 hA (Y.pickF' rfl hp10 rfl) rfl ?_
                            clear hA a; intro a hA
                            exact q_nil (hA.keep [110, 101, 5, 6, 4, 3, 1] rfl)
                          · clear hA a; intro a hA
                            refine q_nil ?_
                            clear hS; intro w hS
                            refine m_then ?_
                            refine m_cond hA rfl (fun hc3 => ?_) (fun hc3 => ?_)
                            · refine m_seq ?_
                              refine m_region ?_
                              refine m1 hA hS (Y.assign rfl) rfl ?_
                              clear hA a; intro a hA
                              refine m_nil ?_
                              refine m_then ?_
                              refine m_retc ?_
                              refine r_then ?_
                              refine r_block ?_
                              refine r_then ?_
                              refine r_then ?_
                              refine r_block ?_
                              refine r_then ?_
                              refine r_block ?_
                              refine r_then ?_
                              refine r_then ?_
                              refine r_block ?_
                              refine r_then ?_
                              refine m_ret1 hA Tryz.results9 rfl ?_
                              refine ⟨ret_bool (not_goodR fun g => ?_), hS.gr0 (by simp)⟩
                              rw [isIDb_iff.2 (g.mi p hpm x hxm), cntM_nodup.2 g.nd x (mem_memsL.2 ⟨p, hpm, hxm⟩)] at hc3
                              simp at hc3
                            · simp only [Bool.or_eq_false_iff, Bool.not_eq_false', decide_eq_false_iff_not] at hc3
                              have hmem' : ∀ y ∈ p.mem.take (r + 1), isIDb y = true ∧ cntM y (memsL H.ps) = 1 := fun y hy => by
                                rw [take_at hx] at hy
                                rcases List.mem_append.1 hy with h | h
                                · exact hmem y h
                                · simp at h; subst h; exact ⟨hc3.1, by omega⟩
                              have hany : (p.mem.take (r + 1)).any (fun y => decide (y = p.leader)) = ((p.mem.take r).any (fun y => decide (y = p.leader)) || decide (x = p.leader)) := by
                                rw [take_at hx, List.any_append]; simp
                              refine m_skip ?_
                              refine m_then ?_
                              refine m_seq ?_
                              refine q_region hS rfl (by kernel_rfl) ?_
                              refine q1 hA (Y.fieldAddr (k := 2) rfl Tryz.underlying43 rfl rfl Tryz.sizeOf38) rfl ?_
                              clear hA a; intro a hA
                              refine q1 hA (Y.load rfl Tryz.isAgg38 (fun w h => h.cell (i := 0) rfl rfl)) rfl ?_
                              clear hA a; intro a hA
                              refine q1 hA (Y.move rfl) rfl ?_
                              clear hA a; intro a hA
                              refine q1 hA (Y.indexAddrN rfl rfl Tryz.underlying38 Tryz.sizeOf3 (by omega)) rfl ?_
                              clear hA a; intro a hA
                              refine q1 hA (Y.load rfl Tryz.isAgg3 (fun w h => h.rd (by simp) (Nat.zero_le _) (q0))) rfl ?_
                              clear hA a; intro a hA
                              refine q1 hA (Y.fieldAddr (k := 1) rfl Tryz.underlying43 rfl rfl Tryz.sizeOf3) rfl ?_
                              clear hA a; intro a hA
                              refine q1 hA (Y.load rfl Tryz.isAgg3 (fun w h => h.cell (i := 0) rfl rfl)) rfl ?_
                              clear hA a; intro a hA
                              refine q1 hA (Y.eqI rfl rfl) rfl ?_
                              clear hA a; intro a hA
                              refine q_nil ?_
                              clear hS; intro w hS
                              refine m_then ?_
                              refine m_condP hA rfl (fun hld => ?_) (fun hld => ?_)
                              · refine m_region ?_
                                refine m1 hA hS (Y.assign rfl) rfl ?_
                                clear hA a; intro a hA
                                refine m_nil ?_
                                refine n_block ?_
                                refine m_then ?_
                                refine m_region ?_
                                refine m1 hA hS (Y.move rfl) rfl ?_
                                clear hA a; intro a hA
                                refine m1 hA hS (Y.addI rfl rfl (by omega)) rfl ?_
                                clear hA a; intro a hA
                                refine m1 hA hS (Y.assign rfl) rfl ?_
                                clear hA a; intro a hA
                                refine m_nil ?_
                                exact m_then ⟨(r + 1, true), by (try dsimp only); omega, hA.keep [5, 6, 4, 3, 1] rfl, hS, by (try dsimp only); exact ⟨by omega, by rw [hany, decide_eq_true hld, Bool.or_true], hmem'⟩⟩
                              · refine m_skip ?_
                                refine n_block ?_
                                refine m_then ?_
                                refine m_region ?_
                                refine m1 hA hS (Y.move rfl) rfl ?_
                                clear hA a; intro a hA
                                refine m1 hA hS (Y.addI rfl rfl (by omega)) rfl ?_
                                clear hA a; intro a hA
                                refine m1 hA hS (Y.assign rfl) rfl ?_
                                clear hA a; intro a hA
                                refine m_nil ?_
                                exact m_then ⟨(r + 1, led), by (try dsimp only); omega, hA.keep [5, 6, 4, 3, 1] rfl, hS, by (try dsimp only); exact ⟨by omega, by rw [hany, decide_eq_false hld, Bool.or_false, hled], hmem'⟩⟩
                        · have hrm : r = p.mem.length := by omega
                          rw [hrm, List.take_length] at hled hmem
                          refine m_exit ?_
                          refine x_then ?_
                          refine x_then ?_
                          refine x_block ?_
                          refine m_then ?_
                          refine m_seq ?_
                          refine m_seq ?_
                          refine m_region ?_
                          refine m1 hA hS (Y.assign rfl) rfl ?_
                          clear hA a; intro a hA
                          refine m_nil ?_
                          refine m_then ?_
                          refine m_block ?_
                          refine m_loopX [5, 4, 3, 1] rfl hA ((0 : Nat)) (fun x => [(7, .int .i64 (x : Int))]) (fun _ => _) (fun _ => _) (fun x => x ≤ i ∧ (p.inv.take x).Pairwise (fun i j => i.who < j.who) ∧ ∀ y ∈ p.inv.take x, isIDb y.who = true ∧ cntM y.who (memsL H.ps) = 0 ∧ H.tick < y.til ∧ y.til ≤ H.tick + 600) (fun x => i - x) (ks := [7]) rfl hS (⟨Nat.zero_le _, by simp, by simp⟩) ?_
                          clear hA hS a; rintro t a w hA hS hj
                          try dsimp only at hA
                          try dsimp only at hS
                          try dsimp only at hj
                          obtain ⟨ht, hso, hiv⟩ := hj
                          replace hA := hA.keep [7, 5, 4, 3, 1] rfl
                          refine m_seq ?_
                          refine m_seq ?_
                          refine m_region ?_
                          refine m1 hA hS (Y.move rfl) rfl ?_
                          clear hA a; intro a hA
                          refine m1 hA hS (Y.fieldAddr (k := 3) rfl Tryz.underlying43 rfl rfl Tryz.sizeOf41) rfl ?_
                          clear hA a; intro a hA
                          refine m1 hA hS (Y.load rfl Tryz.isAgg41 (fun w h => h.cell (i := 0) rfl rfl)) rfl ?_
                          clear hA a; intro a hA
                          refine m1 hA hS (Y.lenSl rfl Tryz.underlying41) rfl ?_
                          clear hA a; intro a hA
                          refine m1 hA hS (Y.ltI rfl rfl) rfl ?_
                          clear hA a; intro a hA
                          refine m_nil ?_
                          refine m_then ?_
                          refine m_condP hA rfl (fun hlt2 => ?_) (fun hlt2 => ?_)
                          · obtain ⟨bx, ox, x, rfl, hx, x0, x1⟩ := hin.inv.at (j := t) (by omega)
                            have hxm := List.mem_of_getElem? hx
                            obtain ⟨pwho, hpwho⟩ : ∃ pwho, pwho = ((p.inv[t - 1]?).map (·.who)).getD 0 := ⟨_, rfl⟩
                            have hprevI : ∀ q, 0 < t → p.inv[t - 1]? = some q → pwho = q.who := fun q _ h => by rw [hpwho, h]; rfl
                            have zi : (0 : Int) < (t : Int) → w0.cell? ⟨bx, ox + ((t : Int) - 1).toNat * 2 + 0, none⟩ = some (.int .i64 pwho) := fun h => by
                              obtain ⟨b8, o8, x8, e8, hx8, r0, _⟩ := hin.inv.at (j := t - 1) (by omega)
                              cases e8
                              rw [show ((t : Int) - 1).toNat = t - 1 from by omega, hprevI x8 (by omega) hx8]
                              exact r0
                            refine m_skip ?_
                            refine m_then ?_
                            refine m_seq ?_
                            refine m_block ?_
                            refine m_seq ?_
                            refine m_region ?_
                            refine m1 hA hS (Y.fieldAddr (k := 3) rfl Tryz.underlying43 rfl rfl Tryz.sizeOf41) rfl ?_
                            clear hA a; intro a hA
                            refine m1 hA hS (Y.load rfl Tryz.isAgg41 (fun w h => h.cell (i := 0) rfl rfl)) rfl ?_
                            clear hA a; intro a hA
                            refine m1 hA hS (Y.move rfl) rfl ?_
                            clear hA a; intro a hA
                            refine m1 hA hS (Y.indexAddrN rfl rfl Tryz.underlying41 Tryz.sizeOf40 (by omega)) rfl ?_
                            clear hA a; intro a hA
                            refine m1 hA hS (Y.loads rfl Tryz.isAgg40 Tryz.sizeOf40 (fun w h => h.rds (by simp) (Nat.zero_le _) (Cs.two x0 x1)) rfl) rfl ?_
                            clear hA a; intro a hA
                            refine m_alloc hA hS Tryz.zeroValue40 rfl ?_
                            clear hA hS a; intro a b3 w hA hleb3 hgb3 hS
                            refine m_store 0 hA hS rfl rfl Tryz.sizeOf40 rfl rfl rfl rfl ?_
                            clear hS; intro w hS
                            refine m_nil ?_
                            refine m_then ?_
                            refine m_seq ?_
                            refine q_region hS rfl (by kernel_rfl) ?_
                            refine q1 hA (Y.fieldAddr (k := 0) rfl Tryz.underlying40 rfl rfl Tryz.sizeOf3) rfl ?_
                            clear hA a; intro a hA
                            refine q1 hA (Y.load rfl Tryz.isAgg3 (fun w h => h.cell (i := 0) rfl rfl)) rfl ?_
                            clear hA a; intro a hA
                            refine q_call _ hA Tryz.call28 rfl rfl (fun w hS => refId_c _ _) ?_
                            clear hA a; intro a hA
                            refine q1 hA (Y.not rfl) rfl ?_
                            clear hA a; intro a hA
                            refine q1 hA (Y.move rfl) rfl ?_
                            clear hA a; intro a hA
                            replace hA := hA.keep [135, 8, 7, 5, 4, 3, 1] rfl
                            apply q_or 6 141 135 hA rfl
                            · intro hp11
                              refine q1s hA (dj := 135) rfl rfl rfl hp11 rfl ?_
                              intro a hA
                              refine q1s hA (dj := 135) rfl rfl rfl hp11 rfl ?_
                              clear hA a; intro a hA
                              refine q1s hA (dj := 135) rfl rfl rfl hp11 rfl ?_
                              clear hA a; intro a hA
                              refine q1s hA (dj := 135) rfl rfl rfl hp11 rfl ?_
                              clear hA a; intro a hA
                              refine q1s hA (dj := 135) rfl rfl rfl hp11 rfl ?_
                              clear hA a; intro a hA
                              refine q1 hA (Y.pickT' rfl hp11 rfl) rfl ?_
                              clear hA a; intro a hA
                              exact q_nil (hA.keep [141, 135, 8, 7, 5, 4, 3, 1] rfl)
                            · intro hp11
                              refine q1g hA (dj := 135) rfl rfl rfl hp11 (Y.loads rfl Tryz.isAgg30 Tryz.sizeOf30 (fun w h => h.cells (i := 2) rfl) rfl) rfl ?_
                              intro a hA
                              refine q1g hA (dj := 135) rfl rfl rfl hp11 (Y.fieldAddr (k := 0) rfl Tryz.underlying40 rfl rfl Tryz.sizeOf3) rfl ?_
                              clear hA a; intro a hA
                              refine q1g hA (dj := 135) rfl rfl rfl hp11 (Y.load rfl Tryz.isAgg3 (fun w h => h.cell (i := 0) rfl rfl)) rfl ?_
                              clear hA a; intro a hA
                              refine q_callg (dj := 135) _ hA rfl rfl rfl hp11 Tryz.call29 rfl rfl (fun w hS => times_c x.who H _ n c _ (hP.gr (hS.gr0 (by simp))) (by omega) (fun p hp => (hq p hp).1)) ?_
                              clear hA a; intro a hA
                              refine q1g hA (dj := 135) rfl rfl rfl hp11 (Y.gtI rfl rfl) rfl ?_
                              clear hA a; intro a hA
                              refine q1 hA (Y.pickF' rfl hp11 rfl) rfl ?_
                              clear hA a; intro a hA
                              exact q_nil (hA.keep [141, 135, 8, 7, 5, 4, 3, 1] rfl)
                            · clear hA a; intro a hA
                              refine q1 hA (Y.move rfl) rfl ?_
                              clear hA a; intro a hA
                              replace hA := hA.keep [142, 8, 7, 5, 4, 3, 1] rfl
                              apply q_or 6 148 142 hA rfl
                              · intro hp12
                                refine q1s hA (dj := 142) rfl rfl rfl hp12 rfl ?_
                                intro a hA
                                refine q1s hA (dj := 142) rfl rfl rfl hp12 rfl ?_
                                clear hA a; intro a hA
                                refine q1s hA (dj := 142) rfl rfl rfl hp12 rfl ?_
                                clear hA a; intro a hA
                                refine q1s hA (dj := 142) rfl rfl rfl hp12 rfl ?_
                                clear hA a; intro a hA
                                refine q1s hA (dj := 142) rfl rfl rfl hp12 rfl ?_
                                clear hA a; intro a hA
                                refine q1 hA (Y.pickT' rfl hp12 rfl) rfl ?_
                                clear hA a; intro a hA
                                exact q_nil (hA.keep [148, 142, 8, 7, 5, 4, 3, 1] rfl)
                              · intro hp12
                                refine q1g hA (dj := 142) rfl rfl rfl hp12 (Y.fieldAddr (k := 1) rfl Tryz.underlying40 rfl rfl Tryz.sizeOf3) rfl ?_
                                intro a hA
                                refine q1g hA (dj := 142) rfl rfl rfl hp12 (Y.load rfl Tryz.isAgg3 (fun w h => h.cell (i := 0) rfl rfl)) rfl ?_
                                clear hA a; intro a hA
                                refine q1g hA (dj := 142) rfl rfl rfl hp12 (Y.fieldAddr (k := 0) rfl Tryz.underlying30 rfl rfl Tryz.sizeOf3) rfl ?_
                                clear hA a; intro a hA
                                refine q1g hA (dj := 142) rfl rfl rfl hp12 (Y.load rfl Tryz.isAgg3 (fun w h => h.cell (i := 2) rfl rfl)) rfl ?_
                                clear hA a; intro a hA
                                refine q1g hA (dj := 142) rfl rfl rfl hp12 (Y.leI rfl rfl) rfl ?_
                                clear hA a; intro a hA
                                refine q1 hA (Y.pickF' rfl hp12 rfl) rfl ?_
                                clear hA a; intro a hA
                                exact q_nil (hA.keep [148, 142, 8, 7, 5, 4, 3, 1] rfl)
                              · clear hA a; intro a hA
                                refine q1 hA (Y.move rfl) rfl ?_
                                clear hA a; intro a hA
                                replace hA := hA.keep [149, 8, 7, 5, 4, 3, 1] rfl
                                apply q_or 7 156 149 hA rfl
                                · intro hp13
                                  refine q1s hA (dj := 149) rfl rfl rfl hp13 rfl ?_
                                  intro a hA
                                  refine q1s hA (dj := 149) rfl rfl rfl hp13 rfl ?_
                                  clear hA a; intro a hA
                                  refine q1s hA (dj := 149) rfl rfl rfl hp13 rfl ?_
                                  clear hA a; intro a hA
                                  refine q1s hA (dj := 149) rfl rfl rfl hp13 rfl ?_
                                  clear hA a; intro a hA
                                  refine q1s hA (dj := 149) rfl rfl rfl hp13 rfl ?_
                                  clear hA a; intro a hA
                                  refine q1s hA (dj := 149) rfl rfl rfl hp13 rfl ?_
                                  clear hA a; intro a hA
                                  refine q1 hA (Y.pickT' rfl hp13 rfl) rfl ?_
                                  clear hA a; intro a hA
                                  exact q_nil (hA.keep [156, 149, 8, 7, 5, 4, 3, 1] rfl)
                                · intro hp13
                                  refine q1g hA (dj := 149) rfl rfl rfl hp13 (Y.fieldAddr (k := 1) rfl Tryz.underlying40 rfl rfl Tryz.sizeOf3) rfl ?_
                                  intro a hA
                                  refine q1g hA (dj := 149) rfl rfl rfl hp13 (Y.load rfl Tryz.isAgg3 (fun w h => h.cell (i := 0) rfl rfl)) rfl ?_
                                  clear hA a; intro a hA
                                  refine q1g hA (dj := 149) rfl rfl rfl hp13 (Y.fieldAddr (k := 0) rfl Tryz.underlying30 rfl rfl Tryz.sizeOf3) rfl ?_
                                  clear hA a; intro a hA
                                  refine q1g hA (dj := 149) rfl rfl rfl hp13 (Y.load rfl Tryz.isAgg3 (fun w h => h.cell (i := 2) rfl rfl)) rfl ?_
                                  clear hA a; intro a hA
                                  refine q1g hA (dj := 149) rfl rfl rfl hp13 (Y.addI rfl rfl (by omega)) rfl ?_
                                  clear hA a; intro a hA
                                  refine q1g hA (dj := 149) rfl rfl rfl hp13 (Y.gtI rfl rfl) rfl ?_
                                  clear hA a; intro a hA
                                  refine q1 hA (Y.pickF' rfl hp13 rfl) rfl ?_
                                  clear hA a; intro a hA
                                  exact q_nil (hA.keep [156, 149, 8, 7, 5, 4, 3, 1] rfl)
                                · clear hA a; intro a hA
                                  refine q1 hA (Y.move rfl) rfl ?_
                                  clear hA a; intro a hA
                                  replace hA := hA.keep [157, 8, 7, 5, 4, 3, 1] rfl
                                  apply q_or 15 172 157 hA rfl
                                  · intro hp14
                                    refine q1s hA (dj := 157) rfl rfl rfl hp14 rfl ?_
                                    intro a hA
                                    refine q1s hA (dj := 157) rfl rfl rfl hp14 rfl ?_
                                    clear hA a; intro a hA
                                    refine q1s hA (dj := 157) rfl rfl rfl hp14 rfl ?_
                                    clear hA a; intro a hA
                                    refine q1u hA (dj := 160) rfl rfl rfl rfl ?_
                                    clear hA a; intro a hA
                                    refine q1u hA (dj := 160) rfl rfl rfl rfl ?_
                                    clear hA a; intro a hA
                                    refine q1u hA (dj := 160) rfl rfl rfl rfl ?_
                                    clear hA a; intro a hA
                                    refine q1u hA (dj := 160) rfl rfl rfl rfl ?_
                                    clear hA a; intro a hA
                                    refine q1u hA (dj := 160) rfl rfl rfl rfl ?_
                                    clear hA a; intro a hA
                                    refine q1u hA (dj := 160) rfl rfl rfl rfl ?_
                                    clear hA a; intro a hA
                                    refine q1u hA (dj := 160) rfl rfl rfl rfl ?_
                                    clear hA a; intro a hA
                                    refine q1u hA (dj := 160) rfl rfl rfl rfl ?_
                                    clear hA a; intro a hA
                                    refine q1u hA (dj := 160) rfl rfl rfl rfl ?_
                                    clear hA a; intro a hA
                                    refine q1u hA (dj := 160) rfl rfl rfl rfl ?_
                                    clear hA a; intro a hA
                                    refine q1s hA (dj := 157) rfl rfl rfl hp14 rfl ?_
                                    clear hA a; intro a hA
                                    refine q1 hA (Y.pickT' rfl hp14 rfl) rfl ?_
                                    clear hA a; intro a hA
                                    exact q_nil (hA.keep [172, 157, 8, 7, 5, 4, 3, 1] rfl)
                                  · intro hp14
                                    refine q1g hA (dj := 157) rfl rfl rfl hp14 (Y.move rfl) rfl ?_
                                    intro a hA
                                    refine q1g hA (dj := 157) rfl rfl rfl hp14 (Y.gtI rfl rfl) rfl ?_
                                    clear hA a; intro a hA
                                    refine q1g hA (dj := 157) rfl rfl rfl hp14 (Y.move rfl) rfl ?_
                                    clear hA a; intro a hA
                                    replace hA := hA.keep [160, 157, 8, 7, 5, 4, 3, 1] rfl
                                    apply q_and 11 171 160 hA rfl
                                    · intro hp15
                                      refine q1s hA (dj := 160) rfl rfl rfl hp15 rfl ?_
                                      intro a hA
                                      refine q1s hA (dj := 160) rfl rfl rfl hp15 rfl ?_
                                      clear hA a; intro a hA
                                      refine q1s hA (dj := 160) rfl rfl rfl hp15 rfl ?_
                                      clear hA a; intro a hA
                                      refine q1s hA (dj := 160) rfl rfl rfl hp15 rfl ?_
                                      clear hA a; intro a hA
                                      refine q1s hA (dj := 160) rfl rfl rfl hp15 rfl ?_
                                      clear hA a; intro a hA
                                      refine q1s hA (dj := 160) rfl rfl rfl hp15 rfl ?_
                                      clear hA a; intro a hA
                                      refine q1s hA (dj := 160) rfl rfl rfl hp15 rfl ?_
                                      clear hA a; intro a hA
                                      refine q1s hA (dj := 160) rfl rfl rfl hp15 rfl ?_
                                      clear hA a; intro a hA
                                      refine q1s hA (dj := 160) rfl rfl rfl hp15 rfl ?_
                                      clear hA a; intro a hA
                                      refine q1s hA (dj := 160) rfl rfl rfl hp15 rfl ?_
                                      clear hA a; intro a hA
                                      refine q1g hA (dj := 157) rfl rfl rfl hp14 (Y.pickF' rfl hp15 rfl) rfl ?_
                                      clear hA a; intro a hA
                                      exact q_nil (hA.keep [171, 160, 157, 8, 7, 5, 4, 3, 1] rfl)
                                    · intro hp15
                                      refine q1g hA (dj := 160) rfl rfl rfl hp15 (Y.fieldAddr (k := 0) rfl Tryz.underlying40 rfl rfl Tryz.sizeOf3) rfl ?_
                                      intro a hA
                                      refine q1g hA (dj := 160) rfl rfl rfl hp15 (Y.load rfl Tryz.isAgg3 (fun w h => h.cell (i := 0) rfl rfl)) rfl ?_
                                      clear hA a; intro a hA
                                      refine q1g hA (dj := 160) rfl rfl rfl hp15 (Y.fieldAddr (k := 3) rfl Tryz.underlying43 rfl rfl Tryz.sizeOf41) rfl ?_
                                      clear hA a; intro a hA
                                      refine q1g hA (dj := 160) rfl rfl rfl hp15 (Y.load rfl Tryz.isAgg41 (fun w h => h.cell (i := 1) rfl rfl)) rfl ?_
                                      clear hA a; intro a hA
                                      refine q1g hA (dj := 160) rfl rfl rfl hp15 (Y.move rfl) rfl ?_
                                      clear hA a; intro a hA
                                      refine q1g hA (dj := 160) rfl rfl rfl hp15 (Y.subI rfl rfl (by omega)) rfl ?_
                                      clear hA a; intro a hA
                                      refine q1g hA (dj := 160) rfl rfl rfl hp15 (Y.indexAddr rfl rfl Tryz.underlying41 Tryz.sizeOf40 (by have := of_decide_eq_true hp15; omega) (by omega)) rfl ?_
                                      clear hA a; intro a hA
                                      refine q1g hA (dj := 160) rfl rfl rfl hp15 (Y.fieldAddr (k := 0) rfl Tryz.underlying40 rfl rfl Tryz.sizeOf3) rfl ?_
                                      clear hA a; intro a hA
                                      refine q1g hA (dj := 160) rfl rfl rfl hp15 (Y.load rfl Tryz.isAgg3 (fun w h => h.rd (by simp) (Nat.zero_le _) (zi (of_decide_eq_true hp15)))) rfl ?_
                                      clear hA a; intro a hA
                                      refine q1g hA (dj := 160) rfl rfl rfl hp15 (Y.leI rfl rfl) rfl ?_
                                      clear hA a; intro a hA
                                      refine q1g hA (dj := 157) rfl rfl rfl hp14 (Y.pickT' rfl hp15 rfl) rfl ?_
                                      clear hA a; intro a hA
                                      exact q_nil (hA.keep [171, 160, 157, 8, 7, 5, 4, 3, 1] rfl)
                                    · clear hA a; intro a hA
                                      refine q1 hA (Y.pickF' rfl hp14 rfl) rfl ?_
                                      clear hA a; intro a hA
                                      exact q_nil (hA.keep [172, 157, 8, 7, 5, 4, 3, 1] rfl)
                                  · clear hA a; intro a hA
                                    refine q_nil ?_
                                    clear hS; intro w hS
                                    refine m_then ?_
                                    refine m_cond hA rfl (fun hc3 => ?_) (fun hc3 => ?_)
                                    · simp only [Bool.or_eq_true, Bool.and_eq_true, Bool.not_eq_true', decide_eq_true_eq] at hc3
                                      refine m_seq ?_
                                      refine m_region ?_
                                      refine m1 hA hS (Y.assign rfl) rfl ?_
                                      clear hA a; intro a hA
                                      refine m_nil ?_
                                      refine m_then ?_
                                      refine m_retc ?_
                                      refine r_block ?_
                                      refine r_then ?_
                                      refine r_then ?_
                                      refine r_block ?_
                                      refine r_then ?_
                                      refine r_block ?_
                                      refine r_then ?_
                                      refine r_then ?_
                                      refine r_block ?_
                                      refine r_then ?_
                                      refine m_ret1 hA Tryz.results9 rfl ?_
                                      refine ⟨ret_bool (not_goodR fun g => ?_), hS.gr0 (by simp)⟩
                                      obtain ⟨g1, g2, g3, g4, g5⟩ := g.iv p hpm x hxm
                                      have g6 := cntM_zero.2 g3
                                      rcases hc3 with (((h | h) | h) | h) | h
                                      · rw [isIDb_iff.2 ⟨g1, g2⟩] at h; cases h
                                      · omega
                                      · omega
                                      · omega
                                      · obtain ⟨q, hq⟩ : ∃ q, p.inv[t - 1]? = some q := ⟨_, List.getElem?_eq_getElem (by omega)⟩
                                        have h4 := pair_at (f := fun p : Inv => p.who) (g.so p hpm) hq hx (by omega)
                                        have h5 := hprevI q (by omega) hq
                                        omega
                                    · simp only [Bool.or_eq_false_iff, Bool.and_eq_false_iff, Bool.not_eq_false', decide_eq_false_iff_not] at hc3
                                      have hso' := pair_snoc (f := fun p : Inv => p.who) hso hx (fun y h0 hy => by
                                        have := hprevI y h0 hy
                                        have := hc3.2
                                        omega)
                                      have hiv' : ∀ y ∈ p.inv.take (t + 1), isIDb y.who = true ∧ cntM y.who (memsL H.ps) = 0 ∧ H.tick < y.til ∧ y.til ≤ H.tick + 600 := fun y hy => by
                                        rw [take_at hx] at hy
                                        rcases List.mem_append.1 hy with h | h
                                        · exact hiv y h
                                        · simp at h; subst h; exact ⟨hc3.1.1.1.1, by omega, by omega, by omega⟩
                                      refine m_skip ?_
                                      refine n_block ?_
                                      refine m_then ?_
                                      refine m_region ?_
                                      refine m1 hA hS (Y.move rfl) rfl ?_
                                      clear hA a; intro a hA
                                      refine m1 hA hS (Y.addI rfl rfl (by omega)) rfl ?_
                                      clear hA a; intro a hA
                                      refine m1 hA hS (Y.assign rfl) rfl ?_
                                      clear hA a; intro a hA
                                      refine m_nil ?_
                                      replace hS := hS.gone
                                      exact m_then ⟨t + 1, by (try dsimp only); omega, hA.keep [7, 5, 4, 3, 1] rfl, hS, by (try dsimp only); exact ⟨by omega, hso', hiv'⟩⟩
                          · have htm : t = p.inv.length := by omega
                            rw [htm, List.take_length] at hso hiv
                            refine m_exit ?_
                            refine x_then ?_
                            refine x_then ?_
                            refine x_block ?_
                            refine m_then ?_
                            refine m_seq ?_
                            refine m_region ?_
                            refine m1 hA hS (Y.move rfl) rfl ?_
                            clear hA a; intro a hA
                            refine m1 hA hS (Y.not rfl) rfl ?_
                            clear hA a; intro a hA
                            refine m_nil ?_
                            refine m_then ?_
                            refine m_cond hA rfl (fun hnl => ?_) (fun hnl => ?_)
                            · refine m_seq ?_
                              refine m_region ?_
                              refine m1 hA hS (Y.assign rfl) rfl ?_
                              clear hA a; intro a hA
                              refine m_nil ?_
                              refine m_then ?_
                              refine m_retc ?_
                              refine r_block ?_
                              refine r_then ?_
                              refine r_then ?_
                              refine r_block ?_
                              refine r_then ?_
                              refine m_ret1 hA Tryz.results9 rfl ?_
                              refine ⟨ret_bool (not_goodR fun g => ?_), hS.gr0 (by simp)⟩
                              have := g.ld p hpm
                              rw [hled, Bool.not_eq_true', List.any_eq_false] at hnl
                              exact absurd (hnl p.leader this) (by simp)
                            · have hldm : p.leader ∈ p.mem := by
                                rw [hled, Bool.not_eq_false'] at hnl
                                obtain ⟨y, hy, e⟩ := List.any_eq_true.1 hnl
                                rw [← of_decide_eq_true e]; exact hy
                              have hpgp : PG H p := ⟨by omega, by omega, hldm, hso, hmem, hiv⟩
                              have hpg' : ∀ q ∈ H.ps.take (j + 1), PG H q := fun q hq' => by
                                rw [take_at hp] at hq'
                                rcases List.mem_append.1 hq' with h | h
                                · exact hpg q h
                                · simp at h; subst h; exact hpgp
                              have hpw' := pair_snoc (f := fun p : Pty => p.id) hpw hp (fun y h0 hy => by
                                have := hprev y h0 hy
                                have := hc2.1.1.2
                                omega)
                              refine m_skip ?_
                              refine n_block ?_
                              refine m_then ?_
                              refine m_region ?_
                              refine m1 hA hS (Y.move rfl) rfl ?_
                              clear hA a; intro a hA
                              refine m1 hA hS (Y.addI rfl rfl (by omega)) rfl ?_
                              clear hA a; intro a hA
                              refine m1 hA hS (Y.assign rfl) rfl ?_
                              clear hA a; intro a hA
                              refine m_nil ?_
                              replace hS := hS.gone
                              exact m_then ⟨j + 1, by (try dsimp only); omega, hA.keep [3, 1] rfl, hS, by (try dsimp only); exact ⟨by omega, hpg', hpw'⟩⟩
            · have hjn : j = H.ps.length := by omega
              rw [hjn, List.take_length] at hpg hpw
              refine m_exit ?_
              refine x_then ?_
              refine x_then ?_
              refine x_block ?_
              refine m_then ?_
              refine m_seq ?_
              refine m_region ?_
              refine m1 hA hS (Y.assign rfl) rfl ?_
              clear hA a; intro a hA
              refine m_nil ?_
              refine m_then ?_
              refine m_retc ?_
              refine m_ret1 hA Tryz.results9 rfl ?_
              exact ⟨ret_bool (valid_iff.2 (Good.of (by omega) (by omega) (by omega) (by omega) (by omega) hpg hpw)).symm, hS.gr0 (by simp)⟩
/-- Who leads, as the reference tells it. -/
def leadR (u : Int) (H : Hall) : Int × Int :=
  if valid H = true then
    if idxF (hasM u) 0 H.ps < 0 then (0, 6) else
      match H.ps[(idxF (hasM u) 0 H.ps).toNat]? with
      | some p => if p.leader ≠ u then (0, 362) else (idxF (hasM u) 0 H.ps, 0)
      | none => (0, 6)
  else (0, 2)
set_option maxRecDepth 100000 in
theorem refLead_c (u : Int) (H : Hall) (A : Option Addr) (n c : Nat) (w0 : World) (hP : Ptys w0 A n H.ps) (hq : ∀ p ∈ H.ps, p.mem.length ≤ 100 ∧ p.inv.length ≤ 100) :
    Calls Tryz.prog 100 #[.agg #[.int .i64 H.tick, .int .i64 H.last, .slice A n c], .int .i64 u] w0 fun e w' => e = .returned (.tuple #[.int .i64 (leadR u H).1, .int .i64 (leadR u H).2]) ∧ Gr w0 w' := by
  have hl := hP.len
  have hn := hP.le
  refine m_enter Tryz.func100 rfl Tryz.ntmps100 (Nat.le_of_ble_eq_true rfl) ?_
  intro a hA
  have hS := St.start w0
  refine m_seq ?_
  refine m_region ?_
  refine m_box hA hS rfl rfl ?_
  clear hA hS a; intro a b1 w hA hleb1 hgb1 hS
  refine m1 hA hS (Y.assign rfl) rfl ?_
  clear hA a; intro a hA
  refine m1 hA hS (Y.assign rfl) rfl ?_
  clear hA a; intro a hA
  refine m_nil ?_
  refine m_then ?_
  refine m_seq ?_
  refine m_seq ?_
  refine m_region ?_
  refine m1 hA hS (Y.loads rfl Tryz.isAgg30 Tryz.sizeOf30 (fun w h => h.cells (i := 0) rfl) rfl) rfl ?_
  clear hA a; intro a hA
  refine m_callb hA hS Tryz.call9 rfl rfl (refValid_c H A n c _ (hP.gr (hS.gr0 (by simp))) hq) ?_
  clear hA hS a; intro a w hA hS hg
  refine m1 hA hS (Y.not rfl) rfl ?_
  clear hA a; intro a hA
  refine m_nil ?_
  refine m_then ?_
  refine m_cond hA rfl (fun hc => ?_) (fun hc => ?_)
  · have hv : valid H = false := by simpa using hc
    refine m_seq ?_
    refine m_region ?_
    refine m1 hA hS (Y.assign rfl) rfl ?_
    clear hA a; intro a hA
    refine m1 hA hS (Y.assign rfl) rfl ?_
    clear hA a; intro a hA
    refine m_nil ?_
    refine m_then ?_
    refine m_retc ?_
    refine r_then ?_
    refine m_ret2 hA Tryz.results100 rfl rfl ?_
    refine ⟨?_, hS.gr0 (by simp)⟩
    unfold leadR
    rw [if_neg (by rw [hv]; simp)]
  · have hv : valid H = true := by simpa using hc
    refine m_skip ?_
    refine m_then ?_
    refine m_seq ?_
    refine m_region ?_
    refine m1 hA hS (Y.loads rfl Tryz.isAgg30 Tryz.sizeOf30 (fun w h => h.cells (i := 0) rfl) rfl) rfl ?_
    clear hA a; intro a hA
    refine m1 hA hS (Y.move rfl) rfl ?_
    clear hA a; intro a hA
    refine m_callb hA hS Tryz.call75 rfl rfl (refFind_c u H A n c _ (hP.gr (hS.gr0 (by simp)))) ?_
    clear hA hS a; intro a w hA hS hg
    refine m1 hA hS (Y.assign rfl) rfl ?_
    clear hA a; intro a hA
    refine m_nil ?_
    refine m_then ?_
    refine m_seq ?_
    refine m_seq ?_
    refine m_region ?_
    refine m1 hA hS (Y.move rfl) rfl ?_
    clear hA a; intro a hA
    refine m1 hA hS (Y.ltI rfl rfl) rfl ?_
    clear hA a; intro a hA
    refine m_nil ?_
    refine m_then ?_
    refine m_condP hA rfl (fun h0 => ?_) (fun h0 => ?_)
    · refine m_seq ?_
      refine m_region ?_
      refine m1 hA hS (Y.assign rfl) rfl ?_
      clear hA a; intro a hA
      refine m1 hA hS (Y.assign rfl) rfl ?_
      clear hA a; intro a hA
      refine m_nil ?_
      refine m_then ?_
      refine m_retc ?_
      refine r_then ?_
      refine m_ret2 hA Tryz.results100 rfl rfl ?_
      refine ⟨?_, hS.gr0 (by simp)⟩
      unfold leadR
      rw [if_pos hv, if_pos h0]
    · rcases idxF_spec (hasM u) H.ps 0 with ⟨h1, _⟩ | ⟨j, p, h1, h2, _⟩
      · exact absurd h1 h0
      have hjl := (List.getElem?_eq_some_iff.1 h1).1
      rw [Nat.zero_add] at h2
      have hR : leadR u H = if p.leader ≠ u then (0, 362) else ((j : Int), 0) := by
        unfold leadR
        rw [if_pos hv, if_neg h0, h2, Int.toNat_natCast, h1]
      rw [h2] at hA
      obtain ⟨bb, o, p', M, m, mc, I, i, ic, rfl, hp, p0, p1, p2, p3, hin⟩ := hP.at (j := j) (by omega)
      rw [h1] at hp
      obtain rfl := Option.some.inj hp
      refine m_skip ?_
      refine m_then ?_
      refine m_seq ?_
      refine m_seq ?_
      refine m_region ?_
      refine m1 hA hS (Y.fieldAddr (k := 2) rfl Tryz.underlying30 rfl rfl Tryz.sizeOf28) rfl ?_
      clear hA a; intro a hA
      refine m1 hA hS (Y.load rfl Tryz.isAgg28 (fun w h => h.cell (i := 0) rfl rfl)) rfl ?_
      clear hA a; intro a hA
      refine m1 hA hS (Y.move rfl) rfl ?_
      clear hA a; intro a hA
      refine m1 hA hS (Y.indexAddrN rfl rfl Tryz.underlying28 Tryz.sizeOf43 (by omega)) rfl ?_
      clear hA a; intro a hA
      refine m1 hA hS (Y.fieldAddr (k := 1) rfl Tryz.underlying43 rfl rfl Tryz.sizeOf3) rfl ?_
      clear hA a; intro a hA
      refine m1 hA hS (Y.load rfl Tryz.isAgg3 (fun w h => h.rd (by simp) (Nat.zero_le _) (p1))) rfl ?_
      clear hA a; intro a hA
      refine m1 hA hS (Y.move rfl) rfl ?_
      clear hA a; intro a hA
      refine m1 hA hS (Y.neI rfl rfl) rfl ?_
      clear hA a; intro a hA
      refine m_nil ?_
      refine m_then ?_
      refine m_condP hA rfl (fun h3 => ?_) (fun h3 => ?_)
      · refine m_seq ?_
        refine m_region ?_
        refine m1 hA hS (Y.assign rfl) rfl ?_
        clear hA a; intro a hA
        refine m1 hA hS (Y.assign rfl) rfl ?_
        clear hA a; intro a hA
        refine m_nil ?_
        refine m_then ?_
        refine m_retc ?_
        refine r_then ?_
        refine m_ret2 hA Tryz.results100 rfl rfl ?_
        exact ⟨by rw [hR, if_pos h3], hS.gr0 (by simp)⟩
      · refine m_skip ?_
        refine m_then ?_
        refine m_seq ?_
        refine m_region ?_
        refine m1 hA hS (Y.move rfl) rfl ?_
        clear hA a; intro a hA
        refine m1 hA hS (Y.assign rfl) rfl ?_
        clear hA a; intro a hA
        refine m1 hA hS (Y.assign rfl) rfl ?_
        clear hA a; intro a hA
        refine m_nil ?_
        refine m_then ?_
        refine m_retc ?_
        refine m_ret2 hA Tryz.results100 rfl rfl ?_
        exact ⟨by rw [hR, if_neg h3], hS.gr0 (by simp)⟩
end Go.Proofs.YtljkhijdaaconaaGreat
