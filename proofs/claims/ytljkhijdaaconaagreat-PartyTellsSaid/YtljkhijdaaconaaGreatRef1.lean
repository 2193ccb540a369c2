/- Contracts of the reference of chapter 36: id, times, find, asked, Valid, lead. -/
import Derived.Test.YtljkhijdaaconaaGreatKdata
set_option linter.unusedVariables false
set_option linter.unusedSectionVars false
namespace Go.Proofs.YtljkhijdaaconaaGreat
open Go.RowKit

theorem refId_c (n : Int) (w0 : World) : Calls Tryz.prog 28 #[.int .i64 n] w0 fun e w' => e = .returned (.bool (isIDb n)) ∧ Gr w0 w' := by
  refine m_enter Tryz.func28 rfl Tryz.ntmps28 (Nat.le_of_ble_eq_true rfl) ?_
  intro a hA
  have hS := St.start w0
  refine m_seq ?_
  refine m_region ?_
  refine m1 hA hS (Y.assign rfl) rfl ?_
  clear hA a; intro a hA
  refine m_nil ?_
  refine m_then ?_
  refine m_seq ?_
  refine m_region ?_
  refine m1 hA hS (Y.move rfl) rfl ?_
  clear hA a; intro a hA
  refine m1 hA hS (Y.gtI rfl rfl) rfl ?_
  clear hA a; intro a hA
  refine m1 hA hS (Y.move rfl) rfl ?_
  clear hA a; intro a hA
  replace hA := hA.keep [5, 2, 0] rfl
  apply m_and 3 8 5 hA hS rfl
  · intro hp1
    refine m1s hA (dj := 5) rfl rfl rfl hp1 rfl ?_
    intro a hA
    refine m1s hA (dj := 5) rfl rfl rfl hp1 rfl ?_
    clear hA a; intro a hA
    refine m1 hA hS (Y.pickF' rfl hp1 rfl) rfl ?_
    clear hA a; intro a hA
    exact m_nil (m_then ⟨hA.keep [8, 5, 2, 0] rfl, hS⟩)
  · intro hp1
    refine m1g hA hS (dj := 5) rfl rfl rfl hp1 (Y.move rfl) rfl ?_
    intro a hA
    refine m1g hA hS (dj := 5) rfl rfl rfl hp1 (Y.leI rfl rfl) rfl ?_
    clear hA a; intro a hA
    refine m1 hA hS (Y.pickT' rfl hp1 rfl) rfl ?_
    clear hA a; intro a hA
    exact m_nil (m_then ⟨hA.keep [8, 5, 2, 0] rfl, hS⟩)
  · clear hA hS a; intro a w hA hS
    refine m1 hA hS (Y.assign rfl) rfl ?_
    clear hA a; intro a hA
    refine m_nil ?_
    refine m_then ?_
    refine m_retc ?_
    refine m_ret1 hA Tryz.results28 rfl ?_
    refine ⟨ret_bool ?_, hS.gr0 (by simp)⟩
    unfold isIDb
    by_cases h : 0 < n
    · simp [h, show 1 ≤ n from by omega]
    · simp [h, show ¬ 1 ≤ n from by omega]
/-- How often a number stands in a row. -/
def cntM (l : Int) (xs : List Int) : Nat := (xs.filter fun m => decide (m = l)).length
theorem cntM_take {l : Int} {xs : List Int} {j : Nat} {x : Int} (h : xs[j]? = some x) : cntM l (xs.take (j + 1)) = cntM l (xs.take j) + if x = l then 1 else 0 := by
  unfold cntM
  rw [take_at h, List.filter_append, List.length_append]
  by_cases e : x = l <;> simp [e]
theorem cntM_le (l : Int) (xs : List Int) : cntM l xs ≤ xs.length := List.length_filter_le _ _
theorem cntM_app (l : Int) (xs ys : List Int) : cntM l (xs ++ ys) = cntM l xs + cntM l ys := by simp [cntM]
theorem cntM_cons (l x : Int) (xs : List Int) : cntM l (x :: xs) = (if x = l then 1 else 0) + cntM l xs := by
  unfold cntM
  rw [List.filter_cons]
  by_cases h : x = l
  · simp [h]; omega
  · simp [h]
theorem cntM_zero {l : Int} {xs : List Int} : cntM l xs = 0 ↔ l ∉ xs := by
  unfold cntM
  rw [List.length_eq_zero_iff, List.filter_eq_nil_iff]
  constructor
  · intro h hm; exact h l hm (by simp)
  · intro h a ha e; exact h (by simp at e; exact e ▸ ha)
theorem cntM_nodup : ∀ {xs : List Int}, (∀ x ∈ xs, cntM x xs = 1) ↔ xs.Nodup
  | [] => by simp
  | x :: xs => by
    rw [List.nodup_cons]
    constructor
    · intro h
      have h1 := h x (by simp)
      rw [cntM_cons, if_pos rfl] at h1
      have hx : x ∉ xs := cntM_zero.1 (by omega)
      refine ⟨hx, cntM_nodup.1 fun y hy => ?_⟩
      have h2 := h y (by simp [hy])
      rw [cntM_cons, if_neg (fun e : x = y => hx (by rw [e]; exact hy))] at h2
      omega
    · rintro ⟨hx, hn⟩ y hy
      rw [cntM_cons]
      rcases List.mem_cons.1 hy with rfl | hy
      · rw [if_pos rfl, cntM_zero.2 hx]
      · rw [if_neg (fun e : x = y => hx (by rw [e]; exact hy)), cntM_nodup.2 hn y hy]
theorem memsL_take' {ps : List Pty} {j : Nat} {p : Pty} (h : ps[j]? = some p) : memsL (ps.take (j + 1)) = memsL (ps.take j) ++ p.mem := by
  rw [take_at h, memsL_app]; simp [memsL]
theorem memsL_le : ∀ {ps : List Pty}, (∀ p ∈ ps, p.mem.length ≤ 100) → (memsL ps).length ≤ 100 * ps.length
  | [], _ => by simp [memsL]
  | p :: ps, h => by
    have h1 := memsL_le (ps := ps) (fun q hq => h q (by simp [hq]))
    have h2 := h p (by simp)
    rw [memsL_cons, List.length_append, List.length_cons]; omega
set_option maxRecDepth 100000 in
theorem times_c (who : Int) (H : Hall) (A : Option Addr) (n c : Nat) (w0 : World) (hP : Ptys w0 A n H.ps) (hn : n ≤ 100) (hq : ∀ p ∈ H.ps, p.mem.length ≤ 100) :
    Calls Tryz.prog 29 #[.agg #[.int .i64 H.tick, .int .i64 H.last, .slice A n c], .int .i64 who] w0 fun e w' => e = .returned (.int .i64 ((cntM who (memsL H.ps) : Nat) : Int)) ∧ Gr w0 w' := by
  have hl := hP.len
  refine m_enter Tryz.func29 rfl Tryz.ntmps29 (Nat.le_of_ble_eq_true rfl) ?_
  intro a hA
  have hS := St.start w0
  refine m_seq ?_
  refine m_region ?_
  refine m_box hA hS rfl rfl ?_
  clear hA hS a; intro a b1 w hA hleb1 hgb1 hS
  refine m1 hA hS (Y.assign rfl) rfl ?_
  clear hA a; intro a hA
  refine m_nil ?_
  refine m_then ?_
  refine m_seq ?_
  refine m_region ?_
  refine m1 hA hS (Y.assign rfl) rfl ?_
  clear hA a; intro a hA
  refine m_nil ?_
  refine m_then ?_
  refine m_seq ?_
  refine m_seq ?_
  refine m_region ?_
  refine m1 hA hS (Y.assign rfl) rfl ?_
  clear hA a; intro a hA
  refine m_nil ?_
  refine m_then ?_
  refine m_block ?_
  refine m_loopX [4, 2, 1] rfl hA (((0 : Nat), (0 : Nat))) (fun x => [(5, .int .i64 (x.2 : Int)), (6, .int .i64 (x.1 : Int))]) (fun _ => _) (fun _ => _) (fun x => x.1 ≤ n ∧ x.2 = cntM who (memsL (H.ps.take x.1))) (fun x => n - x.1) (ks := [5, 6]) rfl hS (⟨Nat.zero_le _, rfl⟩) ?_
  clear hA hS a; rintro ⟨j, k⟩ a w hA hS hj
  try dsimp only at hA
  try dsimp only at hS
  try dsimp only at hj
  obtain ⟨hj, hk⟩ := hj
  replace hA := hA.keep [5, 6, 4, 2, 1] rfl
  refine m_seq ?_
  refine m_seq ?_
  refine m_region ?_
  refine m1 hA hS (Y.move rfl) rfl ?_
  clear hA a; intro a hA
  refine m1 hA hS (Y.fieldAddr (k := 2) rfl Tryz.underlying30 rfl rfl Tryz.sizeOf28) rfl ?_
  clear hA a; intro a hA
  refine m1 hA hS (Y.load rfl Tryz.isAgg28 (fun w h => h.cell (i := 0) rfl rfl)) rfl ?_
  clear hA a; intro a hA
  refine m1 hA hS (Y.lenSl rfl Tryz.underlying28) rfl ?_
  clear hA a; intro a hA
  refine m1 hA hS (Y.ltI rfl rfl) rfl ?_
  clear hA a; intro a hA
  refine m_nil ?_
  refine m_then ?_
  refine m_condP hA rfl (fun hlt => ?_) (fun hlt => ?_)
  · obtain ⟨bb, o, p, M, m, mc, I, i, ic, rfl, hp, p0, p1, p2, p3, hin⟩ := hP.at (j := j) (by omega)
    have hml := hin.mem.len
    have hq1 := hq p (List.mem_of_getElem? hp)
    have hb1 := cntM_le who (memsL (H.ps.take j))
    have hb2 := memsL_le (ps := H.ps.take j) (fun q h => hq q (List.mem_of_mem_take h))
    rw [List.length_take] at hb2
    refine m_skip ?_
    refine m_then ?_
    refine m_seq ?_
    refine m_block ?_
    refine m_seq ?_
    refine m_region ?_
    refine m1 hA hS (Y.assign rfl) rfl ?_
    clear hA a; intro a hA
    refine m_nil ?_
    refine m_then ?_
    refine m_block ?_
    refine m_loopX [6, 4, 2, 1] rfl hA (((0 : Nat), k)) (fun x => [(5, .int .i64 (x.2 : Int)), (7, .int .i64 (x.1 : Int))]) (fun _ => _) (fun _ => _) (fun x => x.1 ≤ m ∧ x.2 = k + cntM who (p.mem.take x.1)) (fun x => m - x.1) (ks := [5, 7]) rfl hS (⟨Nat.zero_le _, rfl⟩) ?_
    clear hA hS a; rintro ⟨r, t⟩ a w hA hS hj
    try dsimp only at hA
    try dsimp only at hS
    try dsimp only at hj
    obtain ⟨hr, ht⟩ := hj
    replace hA := hA.keep [5, 7, 6, 4, 2, 1] rfl
    refine m_seq ?_
    refine m_seq ?_
    refine m_region ?_
    refine m1 hA hS (Y.move rfl) rfl ?_
    clear hA a; intro a hA
    refine m1 hA hS (Y.fieldAddr (k := 2) rfl Tryz.underlying30 rfl rfl Tryz.sizeOf28) rfl ?_
    clear hA a; intro a hA
    refine m1 hA hS (Y.load rfl Tryz.isAgg28 (fun w h => h.cell (i := 0) rfl rfl)) rfl ?_
    clear hA a; intro a hA
    refine m1 hA hS (Y.move rfl) rfl ?_
    clear hA a; intro a hA
    refine m1 hA hS (Y.indexAddrN rfl rfl Tryz.underlying28 Tryz.sizeOf43 (by omega)) rfl ?_
    clear hA a; intro a hA
    refine m1 hA hS (Y.fieldAddr (k := 2) rfl Tryz.underlying43 rfl rfl Tryz.sizeOf38) rfl ?_
    clear hA a; intro a hA
    refine m1 hA hS (Y.load rfl Tryz.isAgg38 (fun w h => h.rd (by simp) (Nat.zero_le _) (p2))) rfl ?_
    clear hA a; intro a hA
    refine m1 hA hS (Y.lenSl rfl Tryz.underlying38) rfl ?_
    clear hA a; intro a hA
    refine m1 hA hS (Y.ltI rfl rfl) rfl ?_
    clear hA a; intro a hA
    refine m_nil ?_
    refine m_then ?_
    refine m_condP hA rfl (fun hlt2 => ?_) (fun hlt2 => ?_)
    · obtain ⟨bx, ox, x, rfl, hx, q0⟩ := hin.mem.at (j := r) (by omega)
      rw [show ox + r = ox + r * 1 from by omega] at q0
      have hct := cntM_take (l := who) hx
      have hb3 := cntM_le who (p.mem.take r)
      rw [List.length_take] at hb3
      refine m_skip ?_
      refine m_then ?_
      refine m_seq ?_
      refine m_block ?_
      refine m_seq ?_
      refine m_region ?_
      refine m1 hA hS (Y.fieldAddr (k := 2) rfl Tryz.underlying30 rfl rfl Tryz.sizeOf28) rfl ?_
      clear hA a; intro a hA
      refine m1 hA hS (Y.load rfl Tryz.isAgg28 (fun w h => h.cell (i := 0) rfl rfl)) rfl ?_
      clear hA a; intro a hA
      refine m1 hA hS (Y.move rfl) rfl ?_
      clear hA a; intro a hA
      refine m1 hA hS (Y.indexAddrN rfl rfl Tryz.underlying28 Tryz.sizeOf43 (by omega)) rfl ?_
      clear hA a; intro a hA
      refine m1 hA hS (Y.fieldAddr (k := 2) rfl Tryz.underlying43 rfl rfl Tryz.sizeOf38) rfl ?_
      clear hA a; intro a hA
      refine m1 hA hS (Y.load rfl Tryz.isAgg38 (fun w h => h.rd (by simp) (Nat.zero_le _) (p2))) rfl ?_
      clear hA a; intro a hA
      refine m1 hA hS (Y.move rfl) rfl ?_
      clear hA a; intro a hA
      refine m1 hA hS (Y.indexAddrN rfl rfl Tryz.underlying38 Tryz.sizeOf3 (by omega)) rfl ?_
      clear hA a; intro a hA
      refine m1 hA hS (Y.load rfl Tryz.isAgg3 (fun w h => h.rd (by simp) (Nat.zero_le _) (q0))) rfl ?_
      clear hA a; intro a hA
      refine m1 hA hS (Y.move rfl) rfl ?_
      clear hA a; intro a hA
      refine m1 hA hS (Y.eqI rfl rfl) rfl ?_
      clear hA a; intro a hA
      refine m_nil ?_
      refine m_then ?_
      refine m_condP hA rfl (fun hw => ?_) (fun hw => ?_)
      · rw [if_pos hw] at hct
        refine m_region ?_
        refine m1 hA hS (Y.move rfl) rfl ?_
        clear hA a; intro a hA
        refine m1 hA hS (Y.addI rfl rfl (by omega)) rfl ?_
        clear hA a; intro a hA
        refine m1 hA hS (Y.assign rfl) rfl ?_
        clear hA a; intro a hA
        refine m_nil ?_
        refine n_block ?_
        refine m_then ?_
        refine m_region ?_
        refine m1 hA hS (Y.move rfl) rfl ?_
        clear hA a; intro a hA
        refine m1 hA hS (Y.addI rfl rfl (by omega)) rfl ?_
        clear hA a; intro a hA
        refine m1 hA hS (Y.assign rfl) rfl ?_
        clear hA a; intro a hA
        refine m_nil ?_
        exact m_then ⟨(r + 1, t + 1), by (try dsimp only); omega, hA.keep [5, 7, 6, 4, 2, 1] rfl, hS, by (try dsimp only); exact ⟨by omega, by rw [ht, hct]; omega⟩⟩
      · rw [if_neg hw] at hct
        refine m_skip ?_
        refine n_block ?_
        refine m_then ?_
        refine m_region ?_
        refine m1 hA hS (Y.move rfl) rfl ?_
        clear hA a; intro a hA
        refine m1 hA hS (Y.addI rfl rfl (by omega)) rfl ?_
        clear hA a; intro a hA
        refine m1 hA hS (Y.assign rfl) rfl ?_
        clear hA a; intro a hA
        refine m_nil ?_
        exact m_then ⟨(r + 1, t), by (try dsimp only); omega, hA.keep [5, 7, 6, 4, 2, 1] rfl, hS, by (try dsimp only); exact ⟨by omega, by rw [ht, hct]; simp⟩⟩
    · have hrm : r = p.mem.length := by omega
      rw [hrm, List.take_length] at ht
      refine m_exit ?_
      refine x_then ?_
      refine x_then ?_
      refine x_block ?_
      refine n_block ?_
      refine m_then ?_
      refine m_region ?_
      refine m1 hA hS (Y.move rfl) rfl ?_
      clear hA a; intro a hA
      refine m1 hA hS (Y.addI rfl rfl (by omega)) rfl ?_
      clear hA a; intro a hA
      refine m1 hA hS (Y.assign rfl) rfl ?_
      clear hA a; intro a hA
      refine m_nil ?_
      exact m_then ⟨(j + 1, t), by (try dsimp only); omega, hA.keep [5, 6, 4, 2, 1] rfl, hS, by (try dsimp only); exact ⟨by omega, by rw [memsL_take' hp, cntM_app, ht, hk]⟩⟩
  · have hjn : j = H.ps.length := by omega
    rw [hjn, List.take_length] at hk
    refine m_exit ?_
    refine x_then ?_
    refine x_then ?_
    refine x_block ?_
    refine m_then ?_
    refine m_seq ?_
    refine m_region ?_
    refine m1 hA hS (Y.move rfl) rfl ?_
    clear hA a; intro a hA
    refine m1 hA hS (Y.assign rfl) rfl ?_
    clear hA a; intro a hA
    refine m_nil ?_
    refine m_then ?_
    refine m_retc ?_
    refine m_ret1 hA Tryz.results29 rfl ?_
    exact ⟨ret_int (by rw [hk]), hS.gr0 (by simp)⟩
def hasM (who : Int) (p : Pty) : Bool := p.mem.any fun m => decide (m = who)
theorem hasM_iff {who : Int} {p : Pty} : hasM who p = true ↔ who ∈ p.mem := by
  unfold hasM
  rw [List.any_eq_true]
  exact ⟨fun ⟨m, hm, e⟩ => by simp at e; exact e ▸ hm, fun h => ⟨who, h, by simp⟩⟩
set_option maxRecDepth 100000 in
theorem refFind_c (who : Int) (H : Hall) (A : Option Addr) (n c : Nat) (w0 : World) (hP : Ptys w0 A n H.ps) :
    Calls Tryz.prog 75 #[.agg #[.int .i64 H.tick, .int .i64 H.last, .slice A n c], .int .i64 who] w0 fun e w' => e = .returned (.int .i64 (idxF (hasM who) 0 H.ps)) ∧ Gr w0 w' := by
  have hl := hP.len
  have hn := hP.le
  refine m_enter Tryz.func75 rfl Tryz.ntmps75 (Nat.le_of_ble_eq_true rfl) ?_
  intro a hA
  have hS := St.start w0
  refine m_seq ?_
  refine m_region ?_
  refine m_box hA hS rfl rfl ?_
  clear hA hS a; intro a b1 w hA hleb1 hgb1 hS
  refine m1 hA hS (Y.assign rfl) rfl ?_
  clear hA a; intro a hA
  refine m_nil ?_
  refine m_then ?_
  refine m_seq ?_
  refine m_seq ?_
  refine m_region ?_
  refine m1 hA hS (Y.assign rfl) rfl ?_
  clear hA a; intro a hA
  refine m_nil ?_
  refine m_then ?_
  refine m_block ?_
  -- LOST [4]
  refine m_loopX [2, 1] rfl hA ((0 : Nat)) (fun x => [(5, .int .i64 (x : Int))]) (fun _ => _) (fun _ => _) (fun x => x ≤ n ∧ NoneTo (hasM who) H.ps x) (fun x => n - x) (ks := [5]) rfl hS (⟨Nat.zero_le _, NoneTo.zero _ _⟩) ?_
  clear hA hS a; rintro j a w hA hS hj
  try dsimp only at hA
  try dsimp only at hS
  try dsimp only at hj
  obtain ⟨hj, hno⟩ := hj
  replace hA := hA.keep [5, 2, 1] rfl
  refine m_seq ?_
  refine m_seq ?_
  refine m_region ?_
  refine m1 hA hS (Y.move rfl) rfl ?_
  clear hA a; intro a hA
  refine m1 hA hS (Y.fieldAddr (k := 2) rfl Tryz.underlying30 rfl rfl Tryz.sizeOf28) rfl ?_
  clear hA a; intro a hA
  refine m1 hA hS (Y.load rfl Tryz.isAgg28 (fun w h => h.cell (i := 0) rfl rfl)) rfl ?_
  clear hA a; intro a hA
  refine m1 hA hS (Y.lenSl rfl Tryz.underlying28) rfl ?_
  clear hA a; intro a hA
  refine m1 hA hS (Y.ltI rfl rfl) rfl ?_
  clear hA a; intro a hA
  refine m_nil ?_
  refine m_then ?_
  refine m_condP hA rfl (fun hlt => ?_) (fun hlt => ?_)
  · obtain ⟨bb, o, p, M, m, mc, I, i, ic, rfl, hp, p0, p1, p2, p3, hin⟩ := hP.at (j := j) (by omega)
    have hml := hin.mem.len
    have hmle := hin.mem.le
    refine m_skip ?_
    refine m_then ?_
    refine m_seq ?_
    refine m_block ?_
    refine m_seq ?_
    refine m_region ?_
    refine m1 hA hS (Y.assign rfl) rfl ?_
    clear hA a; intro a hA
    refine m_nil ?_
    refine m_then ?_
    refine m_block ?_
    refine m_loopX [5, 2, 1] rfl hA ((0 : Nat)) (fun x => [(6, .int .i64 (x : Int))]) (fun _ => _) (fun _ => _) (fun x => x ≤ m ∧ ∀ y ∈ p.mem.take x, y ≠ who) (fun x => m - x) (ks := [6]) rfl hS (⟨Nat.zero_le _, by simp⟩) ?_
    clear hA hS a; rintro r a w hA hS hj
    try dsimp only at hA
    try dsimp only at hS
    try dsimp only at hj
    obtain ⟨hr, hnr⟩ := hj
    replace hA := hA.keep [6, 5, 2, 1] rfl
    refine m_seq ?_
    refine m_seq ?_
    refine m_region ?_
    refine m1 hA hS (Y.move rfl) rfl ?_
    clear hA a; intro a hA
    refine m1 hA hS (Y.fieldAddr (k := 2) rfl Tryz.underlying30 rfl rfl Tryz.sizeOf28) rfl ?_
    clear hA a; intro a hA
    refine m1 hA hS (Y.load rfl Tryz.isAgg28 (fun w h => h.cell (i := 0) rfl rfl)) rfl ?_
    clear hA a; intro a hA
    refine m1 hA hS (Y.move rfl) rfl ?_
    clear hA a; intro a hA
    refine m1 hA hS (Y.indexAddrN rfl rfl Tryz.underlying28 Tryz.sizeOf43 (by omega)) rfl ?_
    clear hA a; intro a hA
    refine m1 hA hS (Y.fieldAddr (k := 2) rfl Tryz.underlying43 rfl rfl Tryz.sizeOf38) rfl ?_
    clear hA a; intro a hA
    refine m1 hA hS (Y.load rfl Tryz.isAgg38 (fun w h => h.rd (by simp) (Nat.zero_le _) (p2))) rfl ?_
    clear hA a; intro a hA
    refine m1 hA hS (Y.lenSl rfl Tryz.underlying38) rfl ?_
    clear hA a; intro a hA
    refine m1 hA hS (Y.ltI rfl rfl) rfl ?_
    clear hA a; intro a hA
    refine m_nil ?_
    refine m_then ?_
    refine m_condP hA rfl (fun hlt2 => ?_) (fun hlt2 => ?_)
    · obtain ⟨bx, ox, x, rfl, hx, q0⟩ := hin.mem.at (j := r) (by omega)
      rw [show ox + r = ox + r * 1 from by omega] at q0
      refine m_skip ?_
      refine m_then ?_
      refine m_seq ?_
      refine m_block ?_
      refine m_seq ?_
      refine m_region ?_
      refine m1 hA hS (Y.fieldAddr (k := 2) rfl Tryz.underlying30 rfl rfl Tryz.sizeOf28) rfl ?_
      clear hA a; intro a hA
      refine m1 hA hS (Y.load rfl Tryz.isAgg28 (fun w h => h.cell (i := 0) rfl rfl)) rfl ?_
      clear hA a; intro a hA
      refine m1 hA hS (Y.move rfl) rfl ?_
      clear hA a; intro a hA
      refine m1 hA hS (Y.indexAddrN rfl rfl Tryz.underlying28 Tryz.sizeOf43 (by omega)) rfl ?_
      clear hA a; intro a hA
      refine m1 hA hS (Y.fieldAddr (k := 2) rfl Tryz.underlying43 rfl rfl Tryz.sizeOf38) rfl ?_
      clear hA a; intro a hA
      refine m1 hA hS (Y.load rfl Tryz.isAgg38 (fun w h => h.rd (by simp) (Nat.zero_le _) (p2))) rfl ?_
      clear hA a; intro a hA
      refine m1 hA hS (Y.move rfl) rfl ?_
      clear hA a; intro a hA
      refine m1 hA hS (Y.indexAddrN rfl rfl Tryz.underlying38 Tryz.sizeOf3 (by omega)) rfl ?_
      clear hA a; intro a hA
      refine m1 hA hS (Y.load rfl Tryz.isAgg3 (fun w h => h.rd (by simp) (Nat.zero_le _) (q0))) rfl ?_
      clear hA a; intro a hA
      refine m1 hA hS (Y.move rfl) rfl ?_
      clear hA a; intro a hA
      refine m1 hA hS (Y.eqI rfl rfl) rfl ?_
      clear hA a; intro a hA
      refine m_nil ?_
      refine m_then ?_
      refine m_condP hA rfl (fun hw => ?_) (fun hw => ?_)
      · have hh : hasM who p = true := hasM_iff.2 (hw ▸ List.mem_of_getElem? hx)
        refine m_seq ?_
        refine m_region ?_
        refine m1 hA hS (Y.move rfl) rfl ?_
        clear hA a; intro a hA
        refine m1 hA hS (Y.assign rfl) rfl ?_
        clear hA a; intro a hA
        refine m_nil ?_
        refine m_then ?_
        refine m_retc ?_
        refine r_block ?_
        refine r_then ?_
        refine r_then ?_
        refine r_block ?_
        refine r_block ?_
        refine r_then ?_
        refine r_then ?_
        refine r_block ?_
        refine r_then ?_
        refine m_ret1 hA Tryz.results75 rfl ?_
        exact ⟨ret_int (hno.found hp hh).symm, hS.gr0 (by simp)⟩
      · have hnr' : ∀ y ∈ p.mem.take (r + 1), y ≠ who := fun y hy => by
          rw [take_at hx] at hy
          rcases List.mem_append.1 hy with h | h
          · exact hnr y h
          · simp at h; subst h; exact hw
        refine m_skip ?_
        refine n_block ?_
        refine m_then ?_
        refine m_region ?_
        refine m1 hA hS (Y.move rfl) rfl ?_
        clear hA a; intro a hA
        refine m1 hA hS (Y.addI rfl rfl (by omega)) rfl ?_
        clear hA a; intro a hA
        refine m1 hA hS (Y.assign rfl) rfl ?_
        clear hA a; intro a hA
        refine m_nil ?_
        exact m_then ⟨r + 1, by (try dsimp only); omega, hA.keep [6, 5, 2, 1] rfl, hS, by (try dsimp only); exact ⟨by omega, hnr'⟩⟩
    · have hrm : r = p.mem.length := by omega
      rw [hrm, List.take_length] at hnr
      have hh : hasM who p = false := by
        cases e : hasM who p with
        | false => rfl
        | true => exact absurd rfl (hnr who (hasM_iff.1 e))
      refine m_exit ?_
      refine x_then ?_
      refine x_then ?_
      refine x_block ?_
      refine n_block ?_
      refine m_then ?_
      refine m_region ?_
      refine m1 hA hS (Y.move rfl) rfl ?_
      clear hA a; intro a hA
      refine m1 hA hS (Y.addI rfl rfl (by omega)) rfl ?_
      clear hA a; intro a hA
      refine m1 hA hS (Y.assign rfl) rfl ?_
      clear hA a; intro a hA
      refine m_nil ?_
      exact m_then ⟨j + 1, by (try dsimp only); omega, hA.keep [5, 2, 1] rfl, hS, by (try dsimp only); exact ⟨by omega, hno.step hp hh⟩⟩
  · have hjn : j = n := by omega
    subst hjn
    refine m_exit ?_
    refine x_then ?_
    refine x_then ?_
    refine x_block ?_
    refine m_then ?_
    refine m_seq ?_
    refine m_region ?_
    refine m1 hA hS (Y.assign rfl) rfl ?_
    clear hA a; intro a hA
    refine m_nil ?_
    refine m_then ?_
    refine m_retc ?_
    refine m_ret1 hA Tryz.results75 rfl ?_
    exact ⟨ret_int (hno.done hl).symm, hS.gr0 (by simp)⟩
set_option maxRecDepth 100000 in
theorem asked_c (who id : Int) (H : Hall) (A : Option Addr) (n c : Nat) (w0 : World) (hP : Ptys w0 A n H.ps) :
    Calls Tryz.prog 102 #[.agg #[.int .i64 H.tick, .int .i64 H.last, .slice A n c], .int .i64 who, .int .i64 id] w0 fun e w' => e = .returned (.int .i64 (idxF (askP who id) 0 H.ps)) ∧ Gr w0 w' := by
  have hl := hP.len
  have hn := hP.le
  refine m_enter Tryz.func102 rfl Tryz.ntmps102 (Nat.le_of_ble_eq_true rfl) ?_
  intro a hA
  have hS := St.start w0
  refine m_seq ?_
  refine m_region ?_
  refine m_box hA hS rfl rfl ?_
  clear hA hS a; intro a b1 w hA hleb1 hgb1 hS
  refine m1 hA hS (Y.assign rfl) rfl ?_
  clear hA a; intro a hA
  refine m_nil ?_
  refine m_then ?_
  refine m_seq ?_
  refine m_seq ?_
  refine m_region ?_
  refine m1 hA hS (Y.assign rfl) rfl ?_
  clear hA a; intro a hA
  refine m_nil ?_
  refine m_then ?_
  refine m_block ?_
  -- LOST [6]
  refine m_loopX [3, 1, 2] rfl hA ((0 : Nat)) (fun x => [(7, .int .i64 (x : Int))]) (fun _ => _) (fun _ => _) (fun x => x ≤ n ∧ NoneTo (askP who id) H.ps x) (fun x => n - x) (ks := [7]) rfl hS (⟨Nat.zero_le _, NoneTo.zero _ _⟩) ?_
  clear hA hS a; rintro j a w hA hS hj
  try dsimp only at hA
  try dsimp only at hS
  try dsimp only at hj
  obtain ⟨hj, hno⟩ := hj
  replace hA := hA.keep [7, 3, 1, 2] rfl
  refine m_seq ?_
  refine m_seq ?_
  refine m_region ?_
  refine m1 hA hS (Y.move rfl) rfl ?_
  clear hA a; intro a hA
  refine m1 hA hS (Y.fieldAddr (k := 2) rfl Tryz.underlying30 rfl rfl Tryz.sizeOf28) rfl ?_
  clear hA a; intro a hA
  refine m1 hA hS (Y.load rfl Tryz.isAgg28 (fun w h => h.cell (i := 0) rfl rfl)) rfl ?_
  clear hA a; intro a hA
  refine m1 hA hS (Y.lenSl rfl Tryz.underlying28) rfl ?_
  clear hA a; intro a hA
  refine m1 hA hS (Y.ltI rfl rfl) rfl ?_
  clear hA a; intro a hA
  refine m_nil ?_
  refine m_then ?_
  refine m_condP hA rfl (fun hlt => ?_) (fun hlt => ?_)
  · obtain ⟨bb, o, p, M, m, mc, I, i, ic, rfl, hp, p0, p1, p2, p3, hin⟩ := hP.at (j := j) (by omega)
    have hil := hin.inv.len
    have hile := hin.inv.le
    refine m_skip ?_
    refine m_then ?_
    refine m_seq ?_
    refine m_block ?_
    refine m_seq ?_
    refine m_region ?_
    refine m1 hA hS (Y.assign rfl) rfl ?_
    clear hA a; intro a hA
    refine m_nil ?_
    refine m_then ?_
    refine m_block ?_
    refine m_loopX [7, 3, 1, 2] rfl hA ((0 : Nat)) (fun x => [(8, .int .i64 (x : Int))]) (fun _ => _) (fun _ => _) (fun x => x ≤ i ∧ ∀ y ∈ p.inv.take x, ¬ (p.id = id ∧ y.who = who)) (fun x => i - x) (ks := [8]) rfl hS (⟨Nat.zero_le _, by simp⟩) ?_
    clear hA hS a; rintro r a w hA hS hj
    try dsimp only at hA
    try dsimp only at hS
    try dsimp only at hj
    obtain ⟨hr, hnr⟩ := hj
    replace hA := hA.keep [8, 7, 3, 1, 2] rfl
    refine m_seq ?_
    refine m_seq ?_
    refine m_region ?_
    refine m1 hA hS (Y.move rfl) rfl ?_
    clear hA a; intro a hA
    refine m1 hA hS (Y.fieldAddr (k := 2) rfl Tryz.underlying30 rfl rfl Tryz.sizeOf28) rfl ?_
    clear hA a; intro a hA
    refine m1 hA hS (Y.load rfl Tryz.isAgg28 (fun w h => h.cell (i := 0) rfl rfl)) rfl ?_
    clear hA a; intro a hA
    refine m1 hA hS (Y.move rfl) rfl ?_
    clear hA a; intro a hA
    refine m1 hA hS (Y.indexAddrN rfl rfl Tryz.underlying28 Tryz.sizeOf43 (by omega)) rfl ?_
    clear hA a; intro a hA
    refine m1 hA hS (Y.fieldAddr (k := 3) rfl Tryz.underlying43 rfl rfl Tryz.sizeOf41) rfl ?_
    clear hA a; intro a hA
    refine m1 hA hS (Y.load rfl Tryz.isAgg41 (fun w h => h.rd (by simp) (Nat.zero_le _) (p3))) rfl ?_
    clear hA a; intro a hA
    refine m1 hA hS (Y.lenSl rfl Tryz.underlying41) rfl ?_
    clear hA a; intro a hA
    refine m1 hA hS (Y.ltI rfl rfl) rfl ?_
    clear hA a; intro a hA
    refine m_nil ?_
    refine m_then ?_
    refine m_condP hA rfl (fun hlt2 => ?_) (fun hlt2 => ?_)
    · obtain ⟨bx, ox, x, rfl, hx, x0, x1⟩ := hin.inv.at (j := r) (by omega)
      refine m_skip ?_
      refine m_then ?_
      refine m_seq ?_
      refine m_block ?_
      refine m_seq ?_
      refine m_region ?_
      refine m1 hA hS (Y.fieldAddr (k := 2) rfl Tryz.underlying30 rfl rfl Tryz.sizeOf28) rfl ?_
      clear hA a; intro a hA
      refine m1 hA hS (Y.load rfl Tryz.isAgg28 (fun w h => h.cell (i := 0) rfl rfl)) rfl ?_
      clear hA a; intro a hA
      refine m1 hA hS (Y.move rfl) rfl ?_
      clear hA a; intro a hA
      refine m1 hA hS (Y.indexAddrN rfl rfl Tryz.underlying28 Tryz.sizeOf43 (by omega)) rfl ?_
      clear hA a; intro a hA
      refine m1 hA hS (Y.fieldAddr (k := 0) rfl Tryz.underlying43 rfl rfl Tryz.sizeOf3) rfl ?_
      clear hA a; intro a hA
      refine m1 hA hS (Y.load rfl Tryz.isAgg3 (fun w h => h.rd (by simp) (Nat.zero_le _) (p0))) rfl ?_
      clear hA a; intro a hA
      refine m1 hA hS (Y.move rfl) rfl ?_
      clear hA a; intro a hA
      refine m1 hA hS (Y.eqI rfl rfl) rfl ?_
      clear hA a; intro a hA
      refine m1 hA hS (Y.move rfl) rfl ?_
      clear hA a; intro a hA
      replace hA := hA.keep [35, 8, 7, 3, 1, 2] rfl
      apply m_and 13 48 35 hA hS rfl
      · intro hp1
        refine m1s hA (dj := 35) rfl rfl rfl hp1 rfl ?_
        intro a hA
        refine m1s hA (dj := 35) rfl rfl rfl hp1 rfl ?_
        clear hA a; intro a hA
        refine m1s hA (dj := 35) rfl rfl rfl hp1 rfl ?_
        clear hA a; intro a hA
        refine m1s hA (dj := 35) rfl rfl rfl hp1 rfl ?_
        clear hA a; intro a hA
        refine m1s hA (dj := 35) rfl rfl rfl hp1 rfl ?_
        clear hA a; intro a hA
        refine m1s hA (dj := 35) rfl rfl rfl hp1 rfl ?_
        clear hA a; intro a hA
        refine m1s hA (dj := 35) rfl rfl rfl hp1 rfl ?_
        clear hA a; intro a hA
        refine m1s hA (dj := 35) rfl rfl rfl hp1 rfl ?_
        clear hA a; intro a hA
        refine m1s hA (dj := 35) rfl rfl rfl hp1 rfl ?_
        clear hA a; intro a hA
        refine m1s hA (dj := 35) rfl rfl rfl hp1 rfl ?_
        clear hA a; intro a hA
        refine m1s hA (dj := 35) rfl rfl rfl hp1 rfl ?_
        clear hA a; intro a hA
        refine m1s hA (dj := 35) rfl rfl rfl hp1 rfl ?_
        clear hA a; intro a hA
        refine m1 hA hS (Y.pickF' rfl hp1 rfl) rfl ?_
        clear hA a; intro a hA
        exact m_nil (m_then ⟨hA.keep [48, 35, 8, 7, 3, 1, 2] rfl, hS⟩)
      · intro hp1
        refine m1g hA hS (dj := 35) rfl rfl rfl hp1 (Y.fieldAddr (k := 2) rfl Tryz.underlying30 rfl rfl Tryz.sizeOf28) rfl ?_
        intro a hA
        refine m1g hA hS (dj := 35) rfl rfl rfl hp1 (Y.load rfl Tryz.isAgg28 (fun w h => h.cell (i := 0) rfl rfl)) rfl ?_
        clear hA a; intro a hA
        refine m1g hA hS (dj := 35) rfl rfl rfl hp1 (Y.move rfl) rfl ?_
        clear hA a; intro a hA
        refine m1g hA hS (dj := 35) rfl rfl rfl hp1 (Y.indexAddrN rfl rfl Tryz.underlying28 Tryz.sizeOf43 (by omega)) rfl ?_
        clear hA a; intro a hA
        refine m1g hA hS (dj := 35) rfl rfl rfl hp1 (Y.fieldAddr (k := 3) rfl Tryz.underlying43 rfl rfl Tryz.sizeOf41) rfl ?_
        clear hA a; intro a hA
        refine m1g hA hS (dj := 35) rfl rfl rfl hp1 (Y.load rfl Tryz.isAgg41 (fun w h => h.rd (by simp) (Nat.zero_le _) (p3))) rfl ?_
        clear hA a; intro a hA
        refine m1g hA hS (dj := 35) rfl rfl rfl hp1 (Y.move rfl) rfl ?_
        clear hA a; intro a hA
        refine m1g hA hS (dj := 35) rfl rfl rfl hp1 (Y.indexAddrN rfl rfl Tryz.underlying41 Tryz.sizeOf40 (by omega)) rfl ?_
        clear hA a; intro a hA
        refine m1g hA hS (dj := 35) rfl rfl rfl hp1 (Y.fieldAddr (k := 0) rfl Tryz.underlying40 rfl rfl Tryz.sizeOf3) rfl ?_
        clear hA a; intro a hA
        refine m1g hA hS (dj := 35) rfl rfl rfl hp1 (Y.load rfl Tryz.isAgg3 (fun w h => h.rd (by simp) (Nat.zero_le _) (x0))) rfl ?_
        clear hA a; intro a hA
        refine m1g hA hS (dj := 35) rfl rfl rfl hp1 (Y.move rfl) rfl ?_
        clear hA a; intro a hA
        refine m1g hA hS (dj := 35) rfl rfl rfl hp1 (Y.eqI rfl rfl) rfl ?_
        clear hA a; intro a hA
        refine m1 hA hS (Y.pickT' rfl hp1 rfl) rfl ?_
        clear hA a; intro a hA
        exact m_nil (m_then ⟨hA.keep [48, 35, 8, 7, 3, 1, 2] rfl, hS⟩)
      · clear hA hS a; intro a w hA hS
        refine m_nil ?_
        refine m_then ?_
        refine m_cond hA rfl (fun hw => ?_) (fun hw => ?_)
        · simp only [Bool.and_eq_true, decide_eq_true_eq] at hw
          have hh : askP who id p = true := by
            unfold askP
            rw [Bool.and_eq_true]
            exact ⟨decide_eq_true hw.1, List.any_eq_true.2 ⟨x, List.mem_of_getElem? hx, decide_eq_true hw.2⟩⟩
          refine m_seq ?_
          refine m_region ?_
          refine m1 hA hS (Y.move rfl) rfl ?_
          clear hA a; intro a hA
          refine m1 hA hS (Y.assign rfl) rfl ?_
          clear hA a; intro a hA
          refine m_nil ?_
          refine m_then ?_
          refine m_retc ?_
          refine r_block ?_
          refine r_then ?_
          refine r_then ?_
          refine r_block ?_
          refine r_block ?_
          refine r_then ?_
          refine r_then ?_
          refine r_block ?_
          refine r_then ?_
          refine m_ret1 hA Tryz.results102 rfl ?_
          exact ⟨ret_int (hno.found hp hh).symm, hS.gr0 (by simp)⟩
        · simp only [Bool.and_eq_false_iff, decide_eq_false_iff_not] at hw
          have hnr' : ∀ y ∈ p.inv.take (r + 1), ¬ (p.id = id ∧ y.who = who) := fun y hy => by
            rw [take_at hx] at hy
            rcases List.mem_append.1 hy with h | h
            · exact hnr y h
            · simp at h; subst h
              rintro ⟨h1, h2⟩
              rcases hw with h | h
              · exact h h1
              · exact h h2
          refine m_skip ?_
          refine n_block ?_
          refine m_then ?_
          refine m_region ?_
          refine m1 hA hS (Y.move rfl) rfl ?_
          clear hA a; intro a hA
          refine m1 hA hS (Y.addI rfl rfl (by omega)) rfl ?_
          clear hA a; intro a hA
          refine m1 hA hS (Y.assign rfl) rfl ?_
          clear hA a; intro a hA
          refine m_nil ?_
          exact m_then ⟨r + 1, by (try dsimp only); omega, hA.keep [8, 7, 3, 1, 2] rfl, hS, by (try dsimp only); exact ⟨by omega, hnr'⟩⟩
    · have hrm : r = p.inv.length := by omega
      rw [hrm, List.take_length] at hnr
      have hh : askP who id p = false := by
        cases e : askP who id p with
        | false => rfl
        | true =>
          unfold askP at e
          rw [Bool.and_eq_true] at e
          obtain ⟨y, hy, h2⟩ := List.any_eq_true.1 e.2
          exact absurd ⟨of_decide_eq_true e.1, of_decide_eq_true h2⟩ (hnr y hy)
      refine m_exit ?_
      refine x_then ?_
      refine x_then ?_
      refine x_block ?_
      refine n_block ?_
      refine m_then ?_
      refine m_region ?_
      refine m1 hA hS (Y.move rfl) rfl ?_
      clear hA a; intro a hA
      refine m1 hA hS (Y.addI rfl rfl (by omega)) rfl ?_
      clear hA a; intro a hA
      refine m1 hA hS (Y.assign rfl) rfl ?_
      clear hA a; intro a hA
      refine m_nil ?_
      exact m_then ⟨j + 1, by (try dsimp only); omega, hA.keep [7, 3, 1, 2] rfl, hS, by (try dsimp only); exact ⟨by omega, hno.step hp hh⟩⟩
  · have hjn : j = n := by omega
    subst hjn
    refine m_exit ?_
    refine x_then ?_
    refine x_then ?_
    refine x_block ?_
    refine m_then ?_
    refine m_seq ?_
    refine m_region ?_
    refine m1 hA hS (Y.assign rfl) rfl ?_
    clear hA a; intro a hA
    refine m_nil ?_
    refine m_then ?_
    refine m_retc ?_
    refine m_ret1 hA Tryz.results102 rfl ?_
    exact ⟨ret_int (hno.done hl).symm, hS.gr0 (by simp)⟩
end Go.Proofs.YtljkhijdaaconaaGreat
