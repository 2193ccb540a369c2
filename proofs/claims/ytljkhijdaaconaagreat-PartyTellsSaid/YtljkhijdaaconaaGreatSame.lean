/- Contracts: SameInts, sameParty, Same, small. -/
import Derived.Test.YtljkhijdaaconaaGreatOf
set_option linter.unusedVariables false
namespace Go.Proofs.YtljkhijdaaconaaGreat
open Go.RowKit

theorem take_eq_step {α : Type} {xs ys : List α} {k : Nat} {x y : α} (hx : xs[k]? = some x) (hy : ys[k]? = some y) (h : xs.take k = ys.take k) (e : x = y) : xs.take (k + 1) = ys.take (k + 1) := by
  rw [take_at hx, take_at hy, h, e]
set_option maxRecDepth 100000 in
theorem sameInts_c (A : Option Addr) (n c : Nat) (xs : List Int) (A' : Option Addr) (n' c' : Nat) (ys : List Int) (w0 : World) (hX : Ints w0 A n xs) (hY : Ints w0 A' n' ys) :
    Calls Tryz.prog 21 #[.slice A n c, .slice A' n' c'] w0 fun e w' => e = .returned (.bool (decide (xs = ys))) ∧ Gr w0 w' := by
  have hxl := hX.len
  have hyl := hY.len
  have hn := hX.le
  refine m_enter Tryz.func21 rfl Tryz.ntmps21 (Nat.le_of_ble_eq_true rfl) ?_
  intro a hA
  have hS := St.start w0
  refine m_seq ?_
  refine m_region ?_
  refine m1 hA hS (Y.assign rfl) rfl ?_
  clear hA a; intro a hA
  refine m_nil ?_
  refine m_then ?_
  refine m_seq ?_
  refine m_seq ?_
  refine m_region ?_
  refine m1 hA hS (Y.move rfl) rfl ?_
  clear hA a; intro a hA
  refine m1 hA hS (Y.lenSl rfl Tryz.underlying38) rfl ?_
  clear hA a; intro a hA
  refine m1 hA hS (Y.move rfl) rfl ?_
  clear hA a; intro a hA
  refine m1 hA hS (Y.lenSl rfl Tryz.underlying38) rfl ?_
  clear hA a; intro a hA
  refine m1 hA hS (Y.neI rfl rfl) rfl ?_
  clear hA a; intro a hA
  refine m_nil ?_
  refine m_then ?_
  refine m_condP hA rfl (fun h1 => ?_) (fun h1 => ?_)
  · refine m_seq ?_
    refine m_region ?_
    refine m1 hA hS (Y.assign rfl) rfl ?_
    clear hA a; intro a hA
    refine m_nil ?_
    refine m_then ?_
    refine m_retc ?_
    refine r_then ?_
    refine m_ret1 hA Tryz.results21 rfl ?_
    exact ⟨ret_bool (decide_eq_false (fun h => by rw [h] at hxl; omega)).symm, hS.gr0 (by simp)⟩
  · refine m_skip ?_
    refine m_then ?_
    refine m_seq ?_
    refine m_seq ?_
    refine m_region ?_
    refine m1 hA hS (Y.assign rfl) rfl ?_
    clear hA a; intro a hA
    refine m_nil ?_
    refine m_then ?_
    refine m_block ?_
    -- LOST [4]
    refine m_loopX [0, 1] rfl hA ((0 : Nat)) (fun x => [(5, .int .i64 (x : Int))]) (fun _ => _) (fun _ => _) (fun x => x ≤ n ∧ xs.take x = ys.take x) (fun x => n - x) (ks := [5]) rfl hS (⟨Nat.zero_le _, rfl⟩) ?_
    clear hA hS a; rintro k a w hA hS hj
    try dsimp only at hA
    try dsimp only at hS
    try dsimp only at hj
    obtain ⟨hk, heq⟩ := hj
    replace hA := hA.keep [5, 0, 1] rfl
    refine m_seq ?_
    refine m_seq ?_
    refine m_region ?_
    refine m1 hA hS (Y.move rfl) rfl ?_
    clear hA a; intro a hA
    refine m1 hA hS (Y.move rfl) rfl ?_
    clear hA a; intro a hA
    refine m1 hA hS (Y.lenSl rfl Tryz.underlying38) rfl ?_
    clear hA a; intro a hA
    refine m1 hA hS (Y.ltI rfl rfl) rfl ?_
    clear hA a; intro a hA
    refine m_nil ?_
    refine m_then ?_
    refine m_condP hA rfl (fun hlt => ?_) (fun hlt => ?_)
    · obtain ⟨b, o, x, rfl, hx, p0⟩ := hX.at (j := k) (by omega)
      obtain ⟨b', o', y, rfl, hy, p0'⟩ := hY.at (j := k) (by omega)
      rw [show o + k = o + k * 1 from by omega] at p0
      rw [show o' + k = o' + k * 1 from by omega] at p0'
      refine m_skip ?_
      refine m_then ?_
      refine m_seq ?_
      refine m_block ?_
      refine m_seq ?_
      refine q_region hS rfl (by kernel_rfl) ?_
      refine q1 hA (Y.move rfl) rfl ?_
      clear hA a; intro a hA
      refine q1 hA (Y.move rfl) rfl ?_
      clear hA a; intro a hA
      refine q1 hA (Y.indexAddrN rfl rfl Tryz.underlying38 Tryz.sizeOf3 (by omega)) rfl ?_
      clear hA a; intro a hA
      refine q1 hA (Y.load rfl Tryz.isAgg3 (fun w h => h.rd (by simp) (Nat.zero_le _) (p0))) rfl ?_
      clear hA a; intro a hA
      refine q1 hA (Y.move rfl) rfl ?_
      clear hA a; intro a hA
      refine q1 hA (Y.move rfl) rfl ?_
      clear hA a; intro a hA
      refine q1 hA (Y.indexAddrN rfl rfl Tryz.underlying38 Tryz.sizeOf3 (by omega)) rfl ?_
      clear hA a; intro a hA
      refine q1 hA (Y.load rfl Tryz.isAgg3 (fun w h => h.rd (by simp) (Nat.zero_le _) (p0'))) rfl ?_
      clear hA a; intro a hA
      refine q1 hA (Y.neI rfl rfl) rfl ?_
      clear hA a; intro a hA
      refine q_nil ?_
      clear hS; intro w hS
      refine m_then ?_
      refine m_condP hA rfl (fun hne => ?_) (fun hne => ?_)
      · refine m_seq ?_
        refine m_region ?_
        refine m1 hA hS (Y.assign rfl) rfl ?_
        clear hA a; intro a hA
        refine m_nil ?_
        refine m_then ?_
        refine m_retc ?_
        refine r_block ?_
        refine r_then ?_
        refine r_then ?_
        refine r_block ?_
        refine r_then ?_
        refine m_ret1 hA Tryz.results21 rfl ?_
        exact ⟨ret_bool (decide_eq_false (fun h => by rw [h, hy] at hx; cases hx; exact hne rfl)).symm, hS.gr0 (by simp)⟩
      · refine m_skip ?_
        refine n_block ?_
        refine m_then ?_
        refine m_region ?_
        refine m1 hA hS (Y.move rfl) rfl ?_
        clear hA a; intro a hA
        refine m1 hA hS (Y.addI rfl rfl (by omega)) rfl ?_
        clear hA a; intro a hA
        refine m1 hA hS (Y.assign rfl) rfl ?_
        clear hA a; intro a hA
        refine m_nil ?_
        exact m_then ⟨k + 1, by (try dsimp only); omega, hA.keep [5, 0, 1] rfl, hS, by (try dsimp only); exact ⟨by omega, take_eq_step hx hy heq (Classical.not_not.1 hne)⟩⟩
    · refine m_exit ?_
      refine x_then ?_
      refine x_then ?_
      refine x_block ?_
      refine m_then ?_
      refine m_seq ?_
      refine m_region ?_
      refine m1 hA hS (Y.assign rfl) rfl ?_
      clear hA a; intro a hA
      refine m_nil ?_
      refine m_then ?_
      refine m_retc ?_
      refine m_ret1 hA Tryz.results21 rfl ?_
      have hxy : xs = ys := by
        rw [List.take_of_length_le (by omega), List.take_of_length_le (by omega)] at heq
        exact heq
      exact ⟨ret_bool (decide_eq_true hxy).symm, hS.gr0 (by simp)⟩
theorem Y.bin {P : Program} {C : World → Prop} {n : Nat} {s : List (Nat × Value)} {op : BinOp} {T T' ty : TypeId} {x y : Operand} {v u r : Value} (hx : ev s x = some v) (hy : ev s y = some u) (hg : ∀ w, (eqGuard op T x y v u).run P w = .ok () w) (hb : ∀ w, (binOp op T v u).run P w = .ok r w) : Y P C n s (.binOp op T x y T') ty r := fun a w o hA _ ho _ => by
  simp [execOp, ho, hA.ev hx, hA.ev hy, hg, hb]
theorem eqg_inv (op : BinOp) (x y : Operand) (a b c d : Value) (w : World) : (eqGuard op 61 x y (.agg #[a, b]) (.agg #[c, d])).run Tryz.prog w = .ok () w := by
  go_simp
theorem ne_inv (a b c d : Int) (w : World) : (binOp .neq 61 (.agg #[.int .i64 a, .int .i64 b]) (.agg #[.int .i64 c, .int .i64 d])).run Tryz.prog w = .ok (.bool (decide (¬ (a = c ∧ b = d)))) w := by
  go_simp
  by_cases h1 : a = c <;> by_cases h2 : b = d <;> simp [h1, h2]
/-- The first party with an ID. -/
def findF (id : Int) (ps : List Pty) : Pty × Bool := match ps.find? (fun p => decide (p.id = id)) with | some p => (p, true) | none => (noPty, false)
/-- Halls that are examined. -/
def smallF (ps : List Pty) : Bool := decide (ps.length ≤ 40) && ps.all fun p => decide (p.mem.length ≤ 10) && decide (p.inv.length ≤ 10)
set_option maxRecDepth 100000 in
theorem small_c (H : Hall) (A : Option Addr) (n c : Nat) (w0 : World) (hP : Ptys w0 A n H.ps) :
    Calls Tryz.prog 5 #[.agg #[.int .i64 H.tick, .int .i64 H.last, .slice A n c]] w0 fun e w' => e = .returned (.bool (smallF H.ps)) ∧ Gr w0 w' := by
  have hl := hP.len
  have hn := hP.le
  refine m_enter Tryz.func5 rfl Tryz.ntmps5 (Nat.le_of_ble_eq_true rfl) ?_
  intro a hA
  have hS := St.start w0
  refine m_seq ?_
  refine m_region ?_
  refine m_box hA hS rfl rfl ?_
  clear hA hS a; intro a b1 w hA hleb1 hgb1 hS
  refine m1 hA hS (Y.assign rfl) rfl ?_
  clear hA a; intro a hA
  refine m_nil ?_
  refine m_then ?_
  refine m_seq ?_
  refine m_seq ?_
  refine m_region ?_
  refine m1 hA hS (Y.assign rfl) rfl ?_
  clear hA a; intro a hA
  refine m_nil ?_
  refine m_then ?_
  refine m_block ?_
  -- LOST [2]
  refine m_loopX [1] rfl hA ((0 : Nat)) (fun x => [(3, .int .i64 (x : Int))]) (fun _ => _) (fun _ => _) (fun x => x ≤ n ∧ x ≤ 40 ∧ ∀ p ∈ H.ps.take x, p.mem.length ≤ 10 ∧ p.inv.length ≤ 10) (fun x => n - x) (ks := [3]) rfl hS (⟨Nat.zero_le _, Nat.zero_le _, by simp⟩) ?_
  clear hA hS a; rintro k a w hA hS hj
  try dsimp only at hA
  try dsimp only at hS
  try dsimp only at hj
  obtain ⟨hk, hk40, hall⟩ := hj
  replace hA := hA.keep [3, 1] rfl
  refine m_seq ?_
  refine m_seq ?_
  refine m_region ?_
  refine m1 hA hS (Y.move rfl) rfl ?_
  clear hA a; intro a hA
  refine m1 hA hS (Y.fieldAddr (k := 2) rfl Tryz.underlying24 rfl rfl Tryz.sizeOf22) rfl ?_
  clear hA a; intro a hA
  refine m1 hA hS (Y.load rfl Tryz.isAgg22 (fun w h => h.cell (i := 0) rfl rfl)) rfl ?_
  clear hA a; intro a hA
  refine m1 hA hS (Y.lenSl rfl Tryz.underlying22) rfl ?_
  clear hA a; intro a hA
  refine m1 hA hS (Y.ltI rfl rfl) rfl ?_
  clear hA a; intro a hA
  refine m_nil ?_
  refine m_then ?_
  refine m_condP hA rfl (fun hlt => ?_) (fun hlt => ?_)
  · obtain ⟨b, o, p, M, m, mc, I, i, ic, rfl, hp, p0, p1, p2, p3, hin⟩ := hP.at (j := k) (by omega)
    have hml := hin.mem.len
    have hil := hin.inv.len
    refine m_skip ?_
    refine m_then ?_
    refine m_seq ?_
    refine m_block ?_
    refine m_seq ?_
    refine m_region ?_
    refine m1 hA hS (Y.move rfl) rfl ?_
    clear hA a; intro a hA
    refine m1 hA hS (Y.geI rfl rfl) rfl ?_
    clear hA a; intro a hA
    refine m1 hA hS (Y.move rfl) rfl ?_
    clear hA a; intro a hA
    replace hA := hA.keep [13, 3, 1] rfl
    apply m_or 9 22 13 hA hS rfl
    · intro hp1
      refine m1s hA (dj := 13) rfl rfl rfl hp1 rfl ?_
      intro a hA
      refine m1s hA (dj := 13) rfl rfl rfl hp1 rfl ?_
      clear hA a; intro a hA
      refine m1s hA (dj := 13) rfl rfl rfl hp1 rfl ?_
      clear hA a; intro a hA
      refine m1s hA (dj := 13) rfl rfl rfl hp1 rfl ?_
      clear hA a; intro a hA
      refine m1s hA (dj := 13) rfl rfl rfl hp1 rfl ?_
      clear hA a; intro a hA
      refine m1s hA (dj := 13) rfl rfl rfl hp1 rfl ?_
      clear hA a; intro a hA
      refine m1s hA (dj := 13) rfl rfl rfl hp1 rfl ?_
      clear hA a; intro a hA
      refine m1s hA (dj := 13) rfl rfl rfl hp1 rfl ?_
      clear hA a; intro a hA
      refine m1 hA hS (Y.pickT' rfl hp1 rfl) rfl ?_
      clear hA a; intro a hA
      exact m_nil (m_then ⟨hA.keep [22, 13, 3, 1] rfl, hS⟩)
    · intro hp1
      refine m1g hA hS (dj := 13) rfl rfl rfl hp1 (Y.fieldAddr (k := 2) rfl Tryz.underlying24 rfl rfl Tryz.sizeOf22) rfl ?_
      intro a hA
      refine m1g hA hS (dj := 13) rfl rfl rfl hp1 (Y.load rfl Tryz.isAgg22 (fun w h => h.cell (i := 0) rfl rfl)) rfl ?_
      clear hA a; intro a hA
      refine m1g hA hS (dj := 13) rfl rfl rfl hp1 (Y.move rfl) rfl ?_
      clear hA a; intro a hA
      refine m1g hA hS (dj := 13) rfl rfl rfl hp1 (Y.indexAddrN rfl rfl Tryz.underlying22 Tryz.sizeOf46 (by omega)) rfl ?_
      clear hA a; intro a hA
      refine m1g hA hS (dj := 13) rfl rfl rfl hp1 (Y.fieldAddr (k := 2) rfl Tryz.underlying46 rfl rfl Tryz.sizeOf38) rfl ?_
      clear hA a; intro a hA
      refine m1g hA hS (dj := 13) rfl rfl rfl hp1 (Y.load rfl Tryz.isAgg38 (fun w h => h.rd (by simp) (Nat.zero_le _) (p2))) rfl ?_
      clear hA a; intro a hA
      refine m1g hA hS (dj := 13) rfl rfl rfl hp1 (Y.lenSl rfl Tryz.underlying38) rfl ?_
      clear hA a; intro a hA
      refine m1g hA hS (dj := 13) rfl rfl rfl hp1 (Y.gtI rfl rfl) rfl ?_
      clear hA a; intro a hA
      refine m1 hA hS (Y.pickF' rfl hp1 rfl) rfl ?_
      clear hA a; intro a hA
      exact m_nil (m_then ⟨hA.keep [22, 13, 3, 1] rfl, hS⟩)
    · clear hA hS a; intro a w hA hS
      refine m1 hA hS (Y.move rfl) rfl ?_
      clear hA a; intro a hA
      replace hA := hA.keep [23, 3, 1] rfl
      apply m_or 9 32 23 hA hS rfl
      · intro hp2
        refine m1s hA (dj := 23) rfl rfl rfl hp2 rfl ?_
        intro a hA
        refine m1s hA (dj := 23) rfl rfl rfl hp2 rfl ?_
        clear hA a; intro a hA
        refine m1s hA (dj := 23) rfl rfl rfl hp2 rfl ?_
        clear hA a; intro a hA
        refine m1s hA (dj := 23) rfl rfl rfl hp2 rfl ?_
        clear hA a; intro a hA
        refine m1s hA (dj := 23) rfl rfl rfl hp2 rfl ?_
        clear hA a; intro a hA
        refine m1s hA (dj := 23) rfl rfl rfl hp2 rfl ?_
        clear hA a; intro a hA
        refine m1s hA (dj := 23) rfl rfl rfl hp2 rfl ?_
        clear hA a; intro a hA
        refine m1s hA (dj := 23) rfl rfl rfl hp2 rfl ?_
        clear hA a; intro a hA
        refine m1 hA hS (Y.pickT' rfl hp2 rfl) rfl ?_
        clear hA a; intro a hA
        exact m_nil (m_then ⟨hA.keep [32, 23, 3, 1] rfl, hS⟩)
      · intro hp2
        refine m1g hA hS (dj := 23) rfl rfl rfl hp2 (Y.fieldAddr (k := 2) rfl Tryz.underlying24 rfl rfl Tryz.sizeOf22) rfl ?_
        intro a hA
        refine m1g hA hS (dj := 23) rfl rfl rfl hp2 (Y.load rfl Tryz.isAgg22 (fun w h => h.cell (i := 0) rfl rfl)) rfl ?_
        clear hA a; intro a hA
        refine m1g hA hS (dj := 23) rfl rfl rfl hp2 (Y.move rfl) rfl ?_
        clear hA a; intro a hA
        refine m1g hA hS (dj := 23) rfl rfl rfl hp2 (Y.indexAddrN rfl rfl Tryz.underlying22 Tryz.sizeOf46 (by omega)) rfl ?_
        clear hA a; intro a hA
        refine m1g hA hS (dj := 23) rfl rfl rfl hp2 (Y.fieldAddr (k := 3) rfl Tryz.underlying46 rfl rfl Tryz.sizeOf44) rfl ?_
        clear hA a; intro a hA
        refine m1g hA hS (dj := 23) rfl rfl rfl hp2 (Y.load rfl Tryz.isAgg44 (fun w h => h.rd (by simp) (Nat.zero_le _) (p3))) rfl ?_
        clear hA a; intro a hA
        refine m1g hA hS (dj := 23) rfl rfl rfl hp2 (Y.lenSl rfl Tryz.underlying44) rfl ?_
        clear hA a; intro a hA
        refine m1g hA hS (dj := 23) rfl rfl rfl hp2 (Y.gtI rfl rfl) rfl ?_
        clear hA a; intro a hA
        refine m1 hA hS (Y.pickF' rfl hp2 rfl) rfl ?_
        clear hA a; intro a hA
        exact m_nil (m_then ⟨hA.keep [32, 23, 3, 1] rfl, hS⟩)
      · clear hA hS a; intro a w hA hS
        refine m_nil ?_
        refine m_then ?_
        refine m_cond hA rfl (fun hc => ?_) (fun hc => ?_)
        · simp only [Bool.or_eq_true, decide_eq_true_eq] at hc
          have hF : smallF H.ps = false := by
            unfold smallF
            rw [Bool.and_eq_false_iff]
            by_cases h40 : H.ps.length ≤ 40
            · refine .inr (List.all_eq_false.2 ⟨p, List.mem_of_getElem? hp, ?_⟩)
              simp
              omega
            · exact .inl (by simpa using h40)
          refine m_seq ?_
          refine m_region ?_
          refine m1 hA hS (Y.assign rfl) rfl ?_
          clear hA a; intro a hA
          refine m_nil ?_
          refine m_then ?_
          refine m_retc ?_
          refine r_block ?_
          refine r_then ?_
          refine r_then ?_
          refine r_block ?_
          refine r_then ?_
          refine m_ret1 hA Tryz.results5 rfl ?_
          rw [hF]
          exact ⟨rfl, hS.gr0 (by simp)⟩
        · simp only [Bool.or_eq_false_iff, decide_eq_false_iff_not] at hc
          have hall' : ∀ q ∈ H.ps.take (k + 1), q.mem.length ≤ 10 ∧ q.inv.length ≤ 10 := fun q hq => by
            rw [take_at hp] at hq
            rcases List.mem_append.1 hq with h | h
            · exact hall q h
            · simp at h; subst h; omega
          refine m_skip ?_
          refine n_block ?_
          refine m_then ?_
          refine m_region ?_
          refine m1 hA hS (Y.move rfl) rfl ?_
          clear hA a; intro a hA
          refine m1 hA hS (Y.addI rfl rfl (by omega)) rfl ?_
          clear hA a; intro a hA
          refine m1 hA hS (Y.assign rfl) rfl ?_
          clear hA a; intro a hA
          refine m_nil ?_
          exact m_then ⟨k + 1, by (try dsimp only); omega, hA.keep [3, 1] rfl, hS, by (try dsimp only); exact ⟨by omega, by omega, hall'⟩⟩
  · have hF : smallF H.ps = true := by
      rw [List.take_of_length_le (by omega)] at hall
      unfold smallF
      rw [Bool.and_eq_true]
      refine ⟨decide_eq_true (by omega), List.all_eq_true.2 fun p hp => ?_⟩
      have := hall p hp
      simp; omega
    refine m_exit ?_
    refine x_then ?_
    refine x_then ?_
    refine x_block ?_
    refine m_then ?_
    refine m_seq ?_
    refine m_region ?_
    refine m1 hA hS (Y.assign rfl) rfl ?_
    clear hA a; intro a hA
    refine m_nil ?_
    refine m_then ?_
    refine m_retc ?_
    refine m_ret1 hA Tryz.results5 rfl ?_
    rw [hF]
    exact ⟨rfl, hS.gr0 (by simp)⟩
set_option maxRecDepth 100000 in
theorem sameParty_c (p q : Pty) (M : Option Addr) (m mc : Nat) (I : Option Addr) (i ic : Nat) (M' : Option Addr) (m' mc' : Nat) (I' : Option Addr) (i' ic' : Nat) (w0 : World) (hp : PtyIn w0 M m I i p) (hq : PtyIn w0 M' m' I' i' q) :
    Calls Tryz.prog 35 #[.agg #[.int .i64 p.id, .int .i64 p.leader, .slice M m mc, .slice I i ic], .agg #[.int .i64 q.id, .int .i64 q.leader, .slice M' m' mc', .slice I' i' ic']] w0 fun e w' => e = .returned (.bool (decide (p = q))) ∧ Gr w0 w' := by
  have hil := hp.inv.len
  have hil' := hq.inv.len
  have hile := hp.inv.le
  refine m_enter Tryz.func35 rfl Tryz.ntmps35 (Nat.le_of_ble_eq_true rfl) ?_
  intro a hA
  have hS := St.start w0
  refine m_seq ?_
  refine m_region ?_
  refine m_box hA hS rfl rfl ?_
  clear hA hS a; intro a b1 w hA hleb1 hgb1 hS
  refine m_box hA hS rfl rfl ?_
  clear hA hS a; intro a b2 w hA hleb2 hgb2 hS
  refine m1 hA hS (Y.assign rfl) rfl ?_
  clear hA a; intro a hA
  refine m_nil ?_
  refine m_then ?_
  refine m_seq ?_
  refine m_seq ?_
  refine m_region ?_
  refine m1 hA hS (Y.fieldAddr (k := 0) rfl Tryz.underlying46 rfl rfl Tryz.sizeOf3) rfl ?_
  clear hA a; intro a hA
  refine m1 hA hS (Y.load rfl Tryz.isAgg3 (fun w h => h.cell (i := 1) rfl rfl)) rfl ?_
  clear hA a; intro a hA
  refine m1 hA hS (Y.fieldAddr (k := 0) rfl Tryz.underlying46 rfl rfl Tryz.sizeOf3) rfl ?_
  clear hA a; intro a hA
  refine m1 hA hS (Y.load rfl Tryz.isAgg3 (fun w h => h.cell (i := 0) rfl rfl)) rfl ?_
  clear hA a; intro a hA
  refine m1 hA hS (Y.neI rfl rfl) rfl ?_
  clear hA a; intro a hA
  refine m1 hA hS (Y.move rfl) rfl ?_
  clear hA a; intro a hA
  replace hA := hA.keep [11, 4, 3, 2] rfl
  apply m_or 6 17 11 hA hS rfl
  · intro hp1
    refine m1s hA (dj := 11) rfl rfl rfl hp1 rfl ?_
    intro a hA
    refine m1s hA (dj := 11) rfl rfl rfl hp1 rfl ?_
    clear hA a; intro a hA
    refine m1s hA (dj := 11) rfl rfl rfl hp1 rfl ?_
    clear hA a; intro a hA
    refine m1s hA (dj := 11) rfl rfl rfl hp1 rfl ?_
    clear hA a; intro a hA
    refine m1s hA (dj := 11) rfl rfl rfl hp1 rfl ?_
    clear hA a; intro a hA
    refine m1 hA hS (Y.pickT' rfl hp1 rfl) rfl ?_
    clear hA a; intro a hA
    exact m_nil (m_then ⟨hA.keep [17, 11, 4, 3, 2] rfl, hS⟩)
  · intro hp1
    refine m1g hA hS (dj := 11) rfl rfl rfl hp1 (Y.fieldAddr (k := 1) rfl Tryz.underlying46 rfl rfl Tryz.sizeOf3) rfl ?_
    intro a hA
    refine m1g hA hS (dj := 11) rfl rfl rfl hp1 (Y.load rfl Tryz.isAgg3 (fun w h => h.cell (i := 1) rfl rfl)) rfl ?_
    clear hA a; intro a hA
    refine m1g hA hS (dj := 11) rfl rfl rfl hp1 (Y.fieldAddr (k := 1) rfl Tryz.underlying46 rfl rfl Tryz.sizeOf3) rfl ?_
    clear hA a; intro a hA
    refine m1g hA hS (dj := 11) rfl rfl rfl hp1 (Y.load rfl Tryz.isAgg3 (fun w h => h.cell (i := 0) rfl rfl)) rfl ?_
    clear hA a; intro a hA
    refine m1g hA hS (dj := 11) rfl rfl rfl hp1 (Y.neI rfl rfl) rfl ?_
    clear hA a; intro a hA
    refine m1 hA hS (Y.pickF' rfl hp1 rfl) rfl ?_
    clear hA a; intro a hA
    exact m_nil (m_then ⟨hA.keep [17, 11, 4, 3, 2] rfl, hS⟩)
  · clear hA hS a; intro a w hA hS
    refine m1 hA hS (Y.move rfl) rfl ?_
    clear hA a; intro a hA
    replace hA := hA.keep [18, 4, 3, 2] rfl
    apply m_or 7 25 18 hA hS rfl
    · intro hp2
      refine m1s hA (dj := 18) rfl rfl rfl hp2 rfl ?_
      intro a hA
      refine m1s hA (dj := 18) rfl rfl rfl hp2 rfl ?_
      clear hA a; intro a hA
      refine m1s hA (dj := 18) rfl rfl rfl hp2 rfl ?_
      clear hA a; intro a hA
      refine m1s hA (dj := 18) rfl rfl rfl hp2 rfl ?_
      clear hA a; intro a hA
      refine m1s hA (dj := 18) rfl rfl rfl hp2 rfl ?_
      clear hA a; intro a hA
      refine m1s hA (dj := 18) rfl rfl rfl hp2 rfl ?_
      clear hA a; intro a hA
      refine m1 hA hS (Y.pickT' rfl hp2 rfl) rfl ?_
      clear hA a; intro a hA
      exact m_nil (m_then ⟨hA.keep [25, 18, 4, 3, 2] rfl, hS⟩)
    · intro hp2
      refine m1g hA hS (dj := 18) rfl rfl rfl hp2 (Y.fieldAddr (k := 2) rfl Tryz.underlying46 rfl rfl Tryz.sizeOf38) rfl ?_
      intro a hA
      refine m1g hA hS (dj := 18) rfl rfl rfl hp2 (Y.load rfl Tryz.isAgg38 (fun w h => h.cell (i := 1) rfl rfl)) rfl ?_
      clear hA a; intro a hA
      refine m1g hA hS (dj := 18) rfl rfl rfl hp2 (Y.fieldAddr (k := 2) rfl Tryz.underlying46 rfl rfl Tryz.sizeOf38) rfl ?_
      clear hA a; intro a hA
      refine m1g hA hS (dj := 18) rfl rfl rfl hp2 (Y.load rfl Tryz.isAgg38 (fun w h => h.cell (i := 0) rfl rfl)) rfl ?_
      clear hA a; intro a hA
      refine m_callbg (dj := 18) hA hS rfl rfl rfl hp2 Tryz.call21 rfl rfl (sameInts_c _ _ _ p.mem _ _ _ q.mem _ (hp.mem.gr (hS.gr0 (by simp))) (hq.mem.gr (hS.gr0 (by simp)))) ?_
      clear hA a; intro a w hA hS hg
      refine m1g hA hS (dj := 18) rfl rfl rfl hp2 (Y.not rfl) rfl ?_
      clear hA a; intro a hA
      refine m1 hA hS (Y.pickF' rfl hp2 rfl) rfl ?_
      clear hA a; intro a hA
      exact m_nil (m_then ⟨hA.keep [25, 18, 4, 3, 2] rfl, hS⟩)
    · clear hA hS a; intro a w hA hS
      refine m1 hA hS (Y.move rfl) rfl ?_
      clear hA a; intro a hA
      replace hA := hA.keep [26, 4, 3, 2] rfl
      apply m_or 8 34 26 hA hS rfl
      · intro hp3
        refine m1s hA (dj := 26) rfl rfl rfl hp3 rfl ?_
        intro a hA
        refine m1s hA (dj := 26) rfl rfl rfl hp3 rfl ?_
        clear hA a; intro a hA
        refine m1s hA (dj := 26) rfl rfl rfl hp3 rfl ?_
        clear hA a; intro a hA
        refine m1s hA (dj := 26) rfl rfl rfl hp3 rfl ?_
        clear hA a; intro a hA
        refine m1s hA (dj := 26) rfl rfl rfl hp3 rfl ?_
        clear hA a; intro a hA
        refine m1s hA (dj := 26) rfl rfl rfl hp3 rfl ?_
        clear hA a; intro a hA
        refine m1s hA (dj := 26) rfl rfl rfl hp3 rfl ?_
        clear hA a; intro a hA
        refine m1 hA hS (Y.pickT' rfl hp3 rfl) rfl ?_
        clear hA a; intro a hA
        exact m_nil (m_then ⟨hA.keep [34, 26, 4, 3, 2] rfl, hS⟩)
      · intro hp3
        refine m1g hA hS (dj := 26) rfl rfl rfl hp3 (Y.fieldAddr (k := 3) rfl Tryz.underlying46 rfl rfl Tryz.sizeOf44) rfl ?_
        intro a hA
        refine m1g hA hS (dj := 26) rfl rfl rfl hp3 (Y.load rfl Tryz.isAgg44 (fun w h => h.cell (i := 1) rfl rfl)) rfl ?_
        clear hA a; intro a hA
        refine m1g hA hS (dj := 26) rfl rfl rfl hp3 (Y.lenSl rfl Tryz.underlying44) rfl ?_
        clear hA a; intro a hA
        refine m1g hA hS (dj := 26) rfl rfl rfl hp3 (Y.fieldAddr (k := 3) rfl Tryz.underlying46 rfl rfl Tryz.sizeOf44) rfl ?_
        clear hA a; intro a hA
        refine m1g hA hS (dj := 26) rfl rfl rfl hp3 (Y.load rfl Tryz.isAgg44 (fun w h => h.cell (i := 0) rfl rfl)) rfl ?_
        clear hA a; intro a hA
        refine m1g hA hS (dj := 26) rfl rfl rfl hp3 (Y.lenSl rfl Tryz.underlying44) rfl ?_
        clear hA a; intro a hA
        refine m1g hA hS (dj := 26) rfl rfl rfl hp3 (Y.neI rfl rfl) rfl ?_
        clear hA a; intro a hA
        refine m1 hA hS (Y.pickF' rfl hp3 rfl) rfl ?_
        clear hA a; intro a hA
        exact m_nil (m_then ⟨hA.keep [34, 26, 4, 3, 2] rfl, hS⟩)
      · clear hA hS a; intro a w hA hS
        refine m_nil ?_
        refine m_then ?_
        refine m_cond hA rfl (fun hc => ?_) (fun hc => ?_)
        · simp only [Bool.or_eq_true, decide_eq_true_eq, Bool.not_eq_true', decide_eq_false_iff_not] at hc
          have hF : p ≠ q := fun h => by
            subst h
            rcases hc with ((h | h) | h) | h
            · exact h rfl
            · exact h rfl
            · exact h rfl
            · omega
          refine m_seq ?_
          refine m_region ?_
          refine m1 hA hS (Y.assign rfl) rfl ?_
          clear hA a; intro a hA
          refine m_nil ?_
          refine m_then ?_
          refine m_retc ?_
          refine r_then ?_
          refine m_ret1 hA Tryz.results35 rfl ?_
          exact ⟨ret_bool (decide_eq_false hF).symm, hS.gr0 (by simp)⟩
        · simp only [Bool.or_eq_false_iff, decide_eq_false_iff_not, Bool.not_eq_false', decide_eq_true_eq, Classical.not_not] at hc
          refine m_skip ?_
          refine m_then ?_
          refine m_seq ?_
          refine m_seq ?_
          refine m_region ?_
          refine m1 hA hS (Y.assign rfl) rfl ?_
          clear hA a; intro a hA
          refine m_nil ?_
          refine m_then ?_
          refine m_block ?_
          -- LOST [4]
          refine m_loopX [3, 2] rfl hA ((0 : Nat)) (fun x => [(5, .int .i64 (x : Int))]) (fun _ => _) (fun _ => _) (fun x => x ≤ i ∧ p.inv.take x = q.inv.take x) (fun x => i - x) (ks := [5]) rfl hS (⟨Nat.zero_le _, rfl⟩) ?_
          clear hA hS a; rintro k a w hA hS hj
          try dsimp only at hA
          try dsimp only at hS
          try dsimp only at hj
          obtain ⟨hk, heq⟩ := hj
          replace hA := hA.keep [5, 3, 2] rfl
          refine m_seq ?_
          refine m_seq ?_
          refine m_region ?_
          refine m1 hA hS (Y.move rfl) rfl ?_
          clear hA a; intro a hA
          refine m1 hA hS (Y.fieldAddr (k := 3) rfl Tryz.underlying46 rfl rfl Tryz.sizeOf44) rfl ?_
          clear hA a; intro a hA
          refine m1 hA hS (Y.load rfl Tryz.isAgg44 (fun w h => h.cell (i := 1) rfl rfl)) rfl ?_
          clear hA a; intro a hA
          refine m1 hA hS (Y.lenSl rfl Tryz.underlying44) rfl ?_
          clear hA a; intro a hA
          refine m1 hA hS (Y.ltI rfl rfl) rfl ?_
          clear hA a; intro a hA
          refine m_nil ?_
          refine m_then ?_
          refine m_condP hA rfl (fun hlt => ?_) (fun hlt => ?_)
          · obtain ⟨b, o, x, rfl, hx, p0, p1⟩ := hp.inv.at (j := k) (by omega)
            obtain ⟨b', o', y, rfl, hy, p0', p1'⟩ := hq.inv.at (j := k) (by omega)
            refine m_skip ?_
            refine m_then ?_
            refine m_seq ?_
            refine m_block ?_
            refine m_seq ?_
            refine q_region hS rfl (by kernel_rfl) ?_
            refine q1 hA (Y.fieldAddr (k := 3) rfl Tryz.underlying46 rfl rfl Tryz.sizeOf44) rfl ?_
            clear hA a; intro a hA
            refine q1 hA (Y.load rfl Tryz.isAgg44 (fun w h => h.cell (i := 1) rfl rfl)) rfl ?_
            clear hA a; intro a hA
            refine q1 hA (Y.move rfl) rfl ?_
            clear hA a; intro a hA
            refine q1 hA (Y.indexAddrN rfl rfl Tryz.underlying44 Tryz.sizeOf61 (by omega)) rfl ?_
            clear hA a; intro a hA
            refine q1 hA (Y.loads rfl Tryz.isAgg61 Tryz.sizeOf61 (fun w h => h.rds (by simp) (Nat.zero_le _) (Cs.two p0 p1)) rfl) rfl ?_
            clear hA a; intro a hA
            refine q1 hA (Y.fieldAddr (k := 3) rfl Tryz.underlying46 rfl rfl Tryz.sizeOf44) rfl ?_
            clear hA a; intro a hA
            refine q1 hA (Y.load rfl Tryz.isAgg44 (fun w h => h.cell (i := 0) rfl rfl)) rfl ?_
            clear hA a; intro a hA
            refine q1 hA (Y.move rfl) rfl ?_
            clear hA a; intro a hA
            refine q1 hA (Y.indexAddrN rfl rfl Tryz.underlying44 Tryz.sizeOf61 (by omega)) rfl ?_
            clear hA a; intro a hA
            refine q1 hA (Y.loads rfl Tryz.isAgg61 Tryz.sizeOf61 (fun w h => h.rds (by simp) (Nat.zero_le _) (Cs.two p0' p1')) rfl) rfl ?_
            clear hA a; intro a hA
            refine q1 hA (Y.bin rfl rfl (eqg_inv _ _ _ _ _ _ _) (ne_inv _ _ _ _)) rfl ?_
            clear hA a; intro a hA
            refine q_nil ?_
            clear hS; intro w hS
            refine m_then ?_
            refine m_condP hA rfl (fun hne => ?_) (fun hne => ?_)
            · have hF : p ≠ q := fun h => by
                subst h
                rw [hx] at hy
                cases hy
                exact hne ⟨rfl, rfl⟩
              refine m_seq ?_
              refine m_region ?_
              refine m1 hA hS (Y.assign rfl) rfl ?_
              clear hA a; intro a hA
              refine m_nil ?_
              refine m_then ?_
              refine m_retc ?_
              refine r_block ?_
              refine r_then ?_
              refine r_then ?_
              refine r_block ?_
              refine r_then ?_
              refine m_ret1 hA Tryz.results35 rfl ?_
              exact ⟨ret_bool (decide_eq_false hF).symm, hS.gr0 (by simp)⟩
            · have hxy : x = y := by
                obtain ⟨h1, h2⟩ := Classical.not_not.1 hne
                cases x; cases y
                simp only at h1 h2
                rw [h1, h2]
              refine m_skip ?_
              refine n_block ?_
              refine m_then ?_
              refine m_region ?_
              refine m1 hA hS (Y.move rfl) rfl ?_
              clear hA a; intro a hA
              refine m1 hA hS (Y.addI rfl rfl (by omega)) rfl ?_
              clear hA a; intro a hA
              refine m1 hA hS (Y.assign rfl) rfl ?_
              clear hA a; intro a hA
              refine m_nil ?_
              exact m_then ⟨k + 1, by (try dsimp only); omega, hA.keep [5, 3, 2] rfl, hS, by (try dsimp only); exact ⟨by omega, take_eq_step hx hy heq hxy⟩⟩
          · have hpq : p = q := by
              rw [List.take_of_length_le (by omega), List.take_of_length_le (by omega)] at heq
              cases p; cases q
              simp only at hc heq
              simp only [Pty.mk.injEq]
              exact ⟨hc.1.1.1, hc.1.1.2, hc.1.2, heq⟩
            refine m_exit ?_
            refine x_then ?_
            refine x_then ?_
            refine x_block ?_
            refine m_then ?_
            refine m_seq ?_
            refine m_region ?_
            refine m1 hA hS (Y.assign rfl) rfl ?_
            clear hA a; intro a hA
            refine m_nil ?_
            refine m_then ?_
            refine m_retc ?_
            refine m_ret1 hA Tryz.results35 rfl ?_
            exact ⟨ret_bool (decide_eq_true hpq).symm, hS.gr0 (by simp)⟩
set_option maxRecDepth 100000 in
theorem same_c (H G : Hall) (A : Option Addr) (n c : Nat) (A' : Option Addr) (n' c' : Nat) (w0 : World) (hP : Ptys w0 A n H.ps) (hQ : Ptys w0 A' n' G.ps) :
    Calls Tryz.prog 34 #[.agg #[.int .i64 H.tick, .int .i64 H.last, .slice A n c], .agg #[.int .i64 G.tick, .int .i64 G.last, .slice A' n' c']] w0 fun e w' => e = .returned (.bool (decide (H = G))) ∧ Gr w0 w' := by
  have hl := hP.len
  have hl' := hQ.len
  have hn := hP.le
  refine m_enter Tryz.func34 rfl Tryz.ntmps34 (Nat.le_of_ble_eq_true rfl) ?_
  intro a hA
  have hS := St.start w0
  refine m_seq ?_
  refine m_region ?_
  refine m_box hA hS rfl rfl ?_
  clear hA hS a; intro a b1 w hA hleb1 hgb1 hS
  refine m_box hA hS rfl rfl ?_
  clear hA hS a; intro a b2 w hA hleb2 hgb2 hS
  refine m1 hA hS (Y.assign rfl) rfl ?_
  clear hA a; intro a hA
  refine m_nil ?_
  refine m_then ?_
  refine m_seq ?_
  refine m_seq ?_
  refine m_region ?_
  refine m1 hA hS (Y.fieldAddr (k := 0) rfl Tryz.underlying24 rfl rfl Tryz.sizeOf3) rfl ?_
  clear hA a; intro a hA
  refine m1 hA hS (Y.load rfl Tryz.isAgg3 (fun w h => h.cell (i := 1) rfl rfl)) rfl ?_
  clear hA a; intro a hA
  refine m1 hA hS (Y.fieldAddr (k := 0) rfl Tryz.underlying24 rfl rfl Tryz.sizeOf3) rfl ?_
  clear hA a; intro a hA
  refine m1 hA hS (Y.load rfl Tryz.isAgg3 (fun w h => h.cell (i := 0) rfl rfl)) rfl ?_
  clear hA a; intro a hA
  refine m1 hA hS (Y.neI rfl rfl) rfl ?_
  clear hA a; intro a hA
  refine m1 hA hS (Y.move rfl) rfl ?_
  clear hA a; intro a hA
  replace hA := hA.keep [11, 4, 3, 2] rfl
  apply m_or 6 17 11 hA hS rfl
  · intro hp1
    refine m1s hA (dj := 11) rfl rfl rfl hp1 rfl ?_
    intro a hA
    refine m1s hA (dj := 11) rfl rfl rfl hp1 rfl ?_
    clear hA a; intro a hA
    refine m1s hA (dj := 11) rfl rfl rfl hp1 rfl ?_
    clear hA a; intro a hA
    refine m1s hA (dj := 11) rfl rfl rfl hp1 rfl ?_
    clear hA a; intro a hA
    refine m1s hA (dj := 11) rfl rfl rfl hp1 rfl ?_
    clear hA a; intro a hA
    refine m1 hA hS (Y.pickT' rfl hp1 rfl) rfl ?_
    clear hA a; intro a hA
    exact m_nil (m_then ⟨hA.keep [17, 11, 4, 3, 2] rfl, hS⟩)
  · intro hp1
    refine m1g hA hS (dj := 11) rfl rfl rfl hp1 (Y.fieldAddr (k := 1) rfl Tryz.underlying24 rfl rfl Tryz.sizeOf3) rfl ?_
    intro a hA
    refine m1g hA hS (dj := 11) rfl rfl rfl hp1 (Y.load rfl Tryz.isAgg3 (fun w h => h.cell (i := 1) rfl rfl)) rfl ?_
    clear hA a; intro a hA
    refine m1g hA hS (dj := 11) rfl rfl rfl hp1 (Y.fieldAddr (k := 1) rfl Tryz.underlying24 rfl rfl Tryz.sizeOf3) rfl ?_
    clear hA a; intro a hA
    refine m1g hA hS (dj := 11) rfl rfl rfl hp1 (Y.load rfl Tryz.isAgg3 (fun w h => h.cell (i := 0) rfl rfl)) rfl ?_
    clear hA a; intro a hA
    refine m1g hA hS (dj := 11) rfl rfl rfl hp1 (Y.neI rfl rfl) rfl ?_
    clear hA a; intro a hA
    refine m1 hA hS (Y.pickF' rfl hp1 rfl) rfl ?_
    clear hA a; intro a hA
    exact m_nil (m_then ⟨hA.keep [17, 11, 4, 3, 2] rfl, hS⟩)
  · clear hA hS a; intro a w hA hS
    refine m1 hA hS (Y.move rfl) rfl ?_
    clear hA a; intro a hA
    replace hA := hA.keep [18, 4, 3, 2] rfl
    apply m_or 8 26 18 hA hS rfl
    · intro hp2
      refine m1s hA (dj := 18) rfl rfl rfl hp2 rfl ?_
      intro a hA
      refine m1s hA (dj := 18) rfl rfl rfl hp2 rfl ?_
      clear hA a; intro a hA
      refine m1s hA (dj := 18) rfl rfl rfl hp2 rfl ?_
      clear hA a; intro a hA
      refine m1s hA (dj := 18) rfl rfl rfl hp2 rfl ?_
      clear hA a; intro a hA
      refine m1s hA (dj := 18) rfl rfl rfl hp2 rfl ?_
      clear hA a; intro a hA
      refine m1s hA (dj := 18) rfl rfl rfl hp2 rfl ?_
      clear hA a; intro a hA
      refine m1s hA (dj := 18) rfl rfl rfl hp2 rfl ?_
      clear hA a; intro a hA
      refine m1 hA hS (Y.pickT' rfl hp2 rfl) rfl ?_
      clear hA a; intro a hA
      exact m_nil (m_then ⟨hA.keep [26, 18, 4, 3, 2] rfl, hS⟩)
    · intro hp2
      refine m1g hA hS (dj := 18) rfl rfl rfl hp2 (Y.fieldAddr (k := 2) rfl Tryz.underlying24 rfl rfl Tryz.sizeOf22) rfl ?_
      intro a hA
      refine m1g hA hS (dj := 18) rfl rfl rfl hp2 (Y.load rfl Tryz.isAgg22 (fun w h => h.cell (i := 1) rfl rfl)) rfl ?_
      clear hA a; intro a hA
      refine m1g hA hS (dj := 18) rfl rfl rfl hp2 (Y.lenSl rfl Tryz.underlying22) rfl ?_
      clear hA a; intro a hA
      refine m1g hA hS (dj := 18) rfl rfl rfl hp2 (Y.fieldAddr (k := 2) rfl Tryz.underlying24 rfl rfl Tryz.sizeOf22) rfl ?_
      clear hA a; intro a hA
      refine m1g hA hS (dj := 18) rfl rfl rfl hp2 (Y.load rfl Tryz.isAgg22 (fun w h => h.cell (i := 0) rfl rfl)) rfl ?_
      clear hA a; intro a hA
      refine m1g hA hS (dj := 18) rfl rfl rfl hp2 (Y.lenSl rfl Tryz.underlying22) rfl ?_
      clear hA a; intro a hA
      refine m1g hA hS (dj := 18) rfl rfl rfl hp2 (Y.neI rfl rfl) rfl ?_
      clear hA a; intro a hA
      refine m1 hA hS (Y.pickF' rfl hp2 rfl) rfl ?_
      clear hA a; intro a hA
      exact m_nil (m_then ⟨hA.keep [26, 18, 4, 3, 2] rfl, hS⟩)
    · clear hA hS a; intro a w hA hS
      refine m_nil ?_
      refine m_then ?_
      refine m_cond hA rfl (fun hc => ?_) (fun hc => ?_)
      · simp only [Bool.or_eq_true, decide_eq_true_eq] at hc
        have hF : H ≠ G := fun h => by
          subst h
          rcases hc with (h | h) | h
          · exact h rfl
          · exact h rfl
          · omega
        refine m_seq ?_
        refine m_region ?_
        refine m1 hA hS (Y.assign rfl) rfl ?_
        clear hA a; intro a hA
        refine m_nil ?_
        refine m_then ?_
        refine m_retc ?_
        refine r_then ?_
        refine m_ret1 hA Tryz.results34 rfl ?_
        exact ⟨ret_bool (decide_eq_false hF).symm, hS.gr0 (by simp)⟩
      · simp only [Bool.or_eq_false_iff, decide_eq_false_iff_not, Classical.not_not] at hc
        refine m_skip ?_
        refine m_then ?_
        refine m_seq ?_
        refine m_seq ?_
        refine m_region ?_
        refine m1 hA hS (Y.assign rfl) rfl ?_
        clear hA a; intro a hA
        refine m_nil ?_
        refine m_then ?_
        refine m_block ?_
        -- LOST [4]
        refine m_loopX [3, 2] rfl hA ((0 : Nat)) (fun x => [(5, .int .i64 (x : Int))]) (fun _ => _) (fun _ => _) (fun x => x ≤ n ∧ H.ps.take x = G.ps.take x) (fun x => n - x) (ks := [5]) rfl hS (⟨Nat.zero_le _, rfl⟩) ?_
        clear hA hS a; rintro k a w hA hS hj
        try dsimp only at hA
        try dsimp only at hS
        try dsimp only at hj
        obtain ⟨hk, heq⟩ := hj
        replace hA := hA.keep [5, 3, 2] rfl
        refine m_seq ?_
        refine m_seq ?_
        refine m_region ?_
        refine m1 hA hS (Y.move rfl) rfl ?_
        clear hA a; intro a hA
        refine m1 hA hS (Y.fieldAddr (k := 2) rfl Tryz.underlying24 rfl rfl Tryz.sizeOf22) rfl ?_
        clear hA a; intro a hA
        refine m1 hA hS (Y.load rfl Tryz.isAgg22 (fun w h => h.cell (i := 1) rfl rfl)) rfl ?_
        clear hA a; intro a hA
        refine m1 hA hS (Y.lenSl rfl Tryz.underlying22) rfl ?_
        clear hA a; intro a hA
        refine m1 hA hS (Y.ltI rfl rfl) rfl ?_
        clear hA a; intro a hA
        refine m_nil ?_
        refine m_then ?_
        refine m_condP hA rfl (fun hlt => ?_) (fun hlt => ?_)
        · obtain ⟨b, o, x, M, m, mc, I, i, ic, rfl, hx, p0, p1, p2, p3, hin⟩ := hP.at (j := k) (by omega)
          obtain ⟨b', o', y, M', m', mc', I', i', ic', rfl, hy, p0', p1', p2', p3', hin'⟩ := hQ.at (j := k) (by omega)
          refine m_skip ?_
          refine m_then ?_
          refine m_seq ?_
          refine m_block ?_
          refine m_seq ?_
          refine q_region hS rfl (by kernel_rfl) ?_
          refine q1 hA (Y.fieldAddr (k := 2) rfl Tryz.underlying24 rfl rfl Tryz.sizeOf22) rfl ?_
          clear hA a; intro a hA
          refine q1 hA (Y.load rfl Tryz.isAgg22 (fun w h => h.cell (i := 1) rfl rfl)) rfl ?_
          clear hA a; intro a hA
          refine q1 hA (Y.move rfl) rfl ?_
          clear hA a; intro a hA
          refine q1 hA (Y.indexAddrN rfl rfl Tryz.underlying22 Tryz.sizeOf46 (by omega)) rfl ?_
          clear hA a; intro a hA
          refine q1 hA (Y.loads rfl Tryz.isAgg46 Tryz.sizeOf46 (fun w h => h.rds (by simp) (Nat.zero_le _) (Cs.four p0 p1 p2 p3)) rfl) rfl ?_
          clear hA a; intro a hA
          refine q1 hA (Y.fieldAddr (k := 2) rfl Tryz.underlying24 rfl rfl Tryz.sizeOf22) rfl ?_
          clear hA a; intro a hA
          refine q1 hA (Y.load rfl Tryz.isAgg22 (fun w h => h.cell (i := 0) rfl rfl)) rfl ?_
          clear hA a; intro a hA
          refine q1 hA (Y.move rfl) rfl ?_
          clear hA a; intro a hA
          refine q1 hA (Y.indexAddrN rfl rfl Tryz.underlying22 Tryz.sizeOf46 (by omega)) rfl ?_
          clear hA a; intro a hA
          refine q1 hA (Y.loads rfl Tryz.isAgg46 Tryz.sizeOf46 (fun w h => h.rds (by simp) (Nat.zero_le _) (Cs.four p0' p1' p2' p3')) rfl) rfl ?_
          clear hA a; intro a hA
          refine q_call _ hA Tryz.call35 rfl rfl (fun w hS => sameParty_c x y _ _ _ _ _ _ _ _ _ _ _ _ _ (hin.gr (hS.gr0 (by simp))) (hin'.gr (hS.gr0 (by simp)))) ?_
          clear hA a; intro a hA
          refine q1 hA (Y.not rfl) rfl ?_
          clear hA a; intro a hA
          refine q_nil ?_
          clear hS; intro w hS
          refine m_then ?_
          refine m_cond hA rfl (fun hne => ?_) (fun hne => ?_)
          · have hxy : x ≠ y := by simpa using hne
            have hF : H ≠ G := fun h => by
              subst h
              rw [hx] at hy
              cases hy
              exact hxy rfl
            refine m_seq ?_
            refine m_region ?_
            refine m1 hA hS (Y.assign rfl) rfl ?_
            clear hA a; intro a hA
            refine m_nil ?_
            refine m_then ?_
            refine m_retc ?_
            refine r_block ?_
            refine r_then ?_
            refine r_then ?_
            refine r_block ?_
            refine r_then ?_
            refine m_ret1 hA Tryz.results34 rfl ?_
            exact ⟨ret_bool (decide_eq_false hF).symm, hS.gr0 (by simp)⟩
          · have hxy : x = y := by simpa using hne
            refine m_skip ?_
            refine n_block ?_
            refine m_then ?_
            refine m_region ?_
            refine m1 hA hS (Y.move rfl) rfl ?_
            clear hA a; intro a hA
            refine m1 hA hS (Y.addI rfl rfl (by omega)) rfl ?_
            clear hA a; intro a hA
            refine m1 hA hS (Y.assign rfl) rfl ?_
            clear hA a; intro a hA
            refine m_nil ?_
            exact m_then ⟨k + 1, by (try dsimp only); omega, hA.keep [5, 3, 2] rfl, hS, by (try dsimp only); exact ⟨by omega, take_eq_step hx hy heq hxy⟩⟩
        · have hpq : H = G := by
            rw [List.take_of_length_le (by omega), List.take_of_length_le (by omega)] at heq
            cases H; cases G
            simp only at hc heq
            simp only [Hall.mk.injEq]
            exact ⟨hc.1.1, hc.1.2, heq⟩
          refine m_exit ?_
          refine x_then ?_
          refine x_then ?_
          refine x_block ?_
          refine m_then ?_
          refine m_seq ?_
          refine m_region ?_
          refine m1 hA hS (Y.assign rfl) rfl ?_
          clear hA a; intro a hA
          refine m_nil ?_
          refine m_then ?_
          refine m_retc ?_
          refine m_ret1 hA Tryz.results34 rfl ?_
          exact ⟨ret_bool (decide_eq_true hpq).symm, hS.gr0 (by simp)⟩
end Go.Proofs.YtljkhijdaaconaaGreat
