/- Contract: the binary search for an invitation. -/
import Derived.Test.YtljkhijdaaconaaGreatIns
set_option linter.unusedVariables false
namespace Go.Proofs.YtljkhijdaaconaaGreat
open Go.RowKit

section
variable {P : Program} {C : World → Prop} {n : Nat} {s : List (Nat × Value)}
theorem Y.conv {S D ty : TypeId} {x : Operand} {v v' : Value} (hx : ev s x = some v) (h : ∀ w, (convert S D v).run P w = .ok v' w) : Y P C n s (.convert S D x) ty v' := fun a w o hA _ ho _ => by
  simp [execOp, ho, hA.ev hx, h]
theorem Y.shr {T T' ty : TypeId} {x y : Operand} {v u r : Value} (hx : ev s x = some v) (hy : ev s y = some u) (h : ∀ w, (binOp .shr T v u).run P w = .ok r w) : Y P C n s (.binOp .shr T x y T') ty r := fun a w o hA _ ho _ => by
  simp [execOp, ho, hA.ev hx, hA.ev hy, h, eqGuard]
end
theorem conv_iu (a : Nat) (h : a ≤ 1000000) (w : World) : (convert 3 108 (.int .i64 (a : Int))).run Tryz.prog w = .ok (.int .u64 (a : Int)) w := by
  have e : IntKind.u64.wrap (a : Int) = a := by rw [IntKind.wrap_u64]; omega
  go_simp
theorem conv_ui (a : Nat) (h : a ≤ 1000000) (w : World) : (convert 108 3 (.int .u64 (a : Int))).run Tryz.prog w = .ok (.int .i64 (a : Int)) w := by
  have e : IntKind.i64.wrap (a : Int) = a := IntWalk.i64_in _ (by omega)
  go_simp
theorem shr_u (a : Nat) (h : a ≤ 1000000) (w : World) : (binOp .shr 108 (.int .u64 (a : Int)) (.int .u64 1)).run Tryz.prog w = .ok (.int .u64 ((a / 2 : Nat) : Int)) w := by
  go_simp
set_option maxRecDepth 100000 in
theorem isNaN_c (x : Int) (w0 : World) : Calls Tryz.prog 87 #[.int .i64 x] w0 fun e w' => e = .returned (.bool false) ∧ Gr w0 w' := by
  refine m_enter Tryz.func87 rfl Tryz.ntmps87 (Nat.le_of_ble_eq_true rfl) ?_
  intro a hA
  have hS := St.start w0
  refine m_seq ?_
  refine m_region ?_
  refine m1 hA hS (Y.assign rfl) rfl ?_
  clear hA a; intro a hA
  refine m_nil ?_
  refine m_then ?_
  refine m_seq ?_
  refine m_region ?_
  refine m1 hA hS (Y.move rfl) rfl ?_
  clear hA a; intro a hA
  refine m1 hA hS (Y.move rfl) rfl ?_
  clear hA a; intro a hA
  refine m1 hA hS (Y.neI rfl rfl) rfl ?_
  clear hA a; intro a hA
  refine m1 hA hS (Y.assign rfl) rfl ?_
  clear hA a; intro a hA
  refine m_nil ?_
  refine m_then ?_
  refine m_retc ?_
  refine m_ret1 hA Tryz.results87 rfl ?_
  exact ⟨ret_bool (by simp), hS.gr0 (by simp)⟩
def cmpF (x y : Int) : Int := if x < y then -1 else if y < x then 1 else 0
theorem cmpF_zero {x y : Int} : cmpF x y = 0 ↔ x = y := by
  unfold cmpF
  split
  · omega
  · split <;> omega
theorem m_callvg {P : Program} {n : Nat} {s : List (Nat × Value)} {ops : Array Oper} {rest : List Oper} {Q : Exit → Act → World → Prop} {a : Act} {w : World} {d : Nat} {f : FuncId} {fx : Operand} {xs : List Operand} {ts : Array TypeId} {ty : TypeId} {pos : String} {aft : Array Edge} {vs cap : List Value} {j dj : Nat} {b t : Bool} (hA : Fits a n s) (hj : (ops[j]?).bind (·.dst) = some dj) (ht : lk s dj = some (.bool t)) (hn : Nat.blt dj n = true) (hb : t = b) (hfx : ev s fx = some (.func (.func f) #[] cap.toArray)) (hf : ∀ args w, (callFunc f args).run P w = .ok (.enter f args) w) (hx : evL s xs = some vs) (hd : Nat.blt d n = true)
    (k : Calls P f (vs ++ cap).toArray w fun e w' => ∃ v, e = .returned v ∧ ∀ a', Fits a' n ((d, v) :: s) → wpList P ops Q rest a' w') :
    wpList P ops Q (⟨some d, .call { callee := .value fx, args := xs.toArray, argTypes := ts }, ty, pos, aft, some (j, b)⟩ :: rest) a w := by
  refine wpList_step fun K hK => ?_
  subst hb
  rw [wanted_of rfl hA hj ht (blt_lt hn), beq_self_eq_true, if_pos rfl]
  have hr : (execOp a.eval ⟨some d, .call { callee := .value fx, args := xs.toArray, argTypes := ts }, ty, pos, aft, some (j, t)⟩).run P w = .ok (.enter f (vs ++ cap).toArray) w := by
    simp [execOp, resolve, hA.ev hfx, Deferred.ofValue, invoke, hA.evL hx, hf]
  unfold Oper.wp
  rw [hr]
  refine k.mono fun e w' h => ?_
  obtain ⟨v, rfl, h⟩ := h
  exact hK _ _ (h _ (hA.put (blt_lt hd) v))
set_option maxRecDepth 100000 in
theorem cmp_c (x y : Int) (w0 : World) : Calls Tryz.prog 48 #[.int .i64 x, .int .i64 y] w0 fun e w' => e = .returned (.int .i64 (cmpF x y)) ∧ Gr w0 w' := by
  refine m_enter Tryz.func48 rfl Tryz.ntmps48 (Nat.le_of_ble_eq_true rfl) ?_
  intro a hA
  have hS := St.start w0
  refine m_seq ?_
  refine m_region ?_
  refine m1 hA hS (Y.assign rfl) rfl ?_
  clear hA a; intro a hA
  refine m_nil ?_
  refine m_then ?_
  refine m_seq ?_
  refine m_region ?_
  refine m1 hA hS (Y.move rfl) rfl ?_
  clear hA a; intro a hA
  refine m_callb hA hS Tryz.call87 rfl rfl (isNaN_c _ _) ?_
  clear hA hS a; intro a w hA hS hg
  refine m1 hA hS (Y.assign rfl) rfl ?_
  clear hA a; intro a hA
  refine m_nil ?_
  refine m_then ?_
  refine m_seq ?_
  refine m_region ?_
  refine m1 hA hS (Y.move rfl) rfl ?_
  clear hA a; intro a hA
  refine m_callb hA hS Tryz.call87 rfl rfl (isNaN_c _ _) ?_
  clear hA hS a; intro a w hA hS hg
  refine m1 hA hS (Y.assign rfl) rfl ?_
  clear hA a; intro a hA
  refine m_nil ?_
  refine m_then ?_
  refine m_seq ?_
  refine m_seq ?_
  refine m_region ?_
  refine m1 hA hS (Y.move rfl) rfl ?_
  clear hA a; intro a hA
  refine m_nil ?_
  refine m_then ?_
  refine m_condF hA rfl (rfl) ?_
  refine m_skip ?_
  refine m_then ?_
  refine m_seq ?_
  refine m_seq ?_
  refine m_region ?_
  refine m1 hA hS (Y.move rfl) rfl ?_
  clear hA a; intro a hA
  refine m_nil ?_
  refine m_then ?_
  refine m_condF hA rfl (rfl) ?_
  refine m_skip ?_
  refine m_then ?_
  refine m_seq ?_
  refine m_seq ?_
  refine m_region ?_
  refine m1 hA hS (Y.move rfl) rfl ?_
  clear hA a; intro a hA
  refine m1 hA hS (Y.move rfl) rfl ?_
  clear hA a; intro a hA
  refine m1 hA hS (Y.ltI rfl rfl) rfl ?_
  clear hA a; intro a hA
  refine m_nil ?_
  refine m_then ?_
  refine m_condP hA rfl (fun h1 => ?_) (fun h1 => ?_)
  · refine m_seq ?_
    refine m_region ?_
    refine m1 hA hS (Y.assign rfl) rfl ?_
    clear hA a; intro a hA
    refine m_nil ?_
    refine m_then ?_
    refine m_retc ?_
    refine r_then ?_
    refine m_ret1 hA Tryz.results48 rfl ?_
    exact ⟨ret_int (by unfold cmpF; rw [if_pos h1]), hS.gr0 (by simp)⟩
  · refine m_skip ?_
    refine m_then ?_
    refine m_seq ?_
    refine m_seq ?_
    refine m_region ?_
    refine m1 hA hS (Y.move rfl) rfl ?_
    clear hA a; intro a hA
    refine m1 hA hS (Y.move rfl) rfl ?_
    clear hA a; intro a hA
    refine m1 hA hS (Y.gtI rfl rfl) rfl ?_
    clear hA a; intro a hA
    refine m_nil ?_
    refine m_then ?_
    refine m_condP hA rfl (fun h2 => ?_) (fun h2 => ?_)
    · refine m_seq ?_
      refine m_region ?_
      refine m1 hA hS (Y.assign rfl) rfl ?_
      clear hA a; intro a hA
      refine m_nil ?_
      refine m_then ?_
      refine m_retc ?_
      refine r_then ?_
      refine m_ret1 hA Tryz.results48 rfl ?_
      exact ⟨ret_int (by unfold cmpF; rw [if_neg h1, if_pos h2]), hS.gr0 (by simp)⟩
    · refine m_skip ?_
      refine m_then ?_
      refine m_seq ?_
      refine m_region ?_
      refine m1 hA hS (Y.assign rfl) rfl ?_
      clear hA a; intro a hA
      refine m_nil ?_
      refine m_then ?_
      refine m_retc ?_
      refine m_ret1 hA Tryz.results48 rfl ?_
      exact ⟨ret_int (by unfold cmpF; rw [if_neg h1, if_neg h2]), hS.gr0 (by simp)⟩
set_option maxRecDepth 100000 in
theorem whoCmp_c (i : Inv) (y : Int) (w0 : World) : Calls Tryz.prog 47 #[.agg #[.int .i64 i.who, .int .i64 i.til], .int .i64 y] w0 fun e w' => e = .returned (.int .i64 (cmpF i.who y)) ∧ Gr w0 w' := by
  refine m_enter Tryz.func47 rfl Tryz.ntmps47 (Nat.le_of_ble_eq_true rfl) ?_
  intro a hA
  have hS := St.start w0
  refine m_seq ?_
  refine m_region ?_
  refine m_box hA hS rfl rfl ?_
  clear hA hS a; intro a b1 w hA hleb1 hgb1 hS
  refine m1 hA hS (Y.assign rfl) rfl ?_
  clear hA a; intro a hA
  refine m_nil ?_
  refine m_then ?_
  refine m_seq ?_
  refine m_region ?_
  refine m1 hA hS (Y.fieldAddr (k := 0) rfl Tryz.underlying61 rfl rfl Tryz.sizeOf3) rfl ?_
  clear hA a; intro a hA
  refine m1 hA hS (Y.load rfl Tryz.isAgg3 (fun w h => h.cell (i := 0) rfl rfl)) rfl ?_
  clear hA a; intro a hA
  refine m1 hA hS (Y.move rfl) rfl ?_
  clear hA a; intro a hA
  refine m_callb hA hS Tryz.call48 rfl rfl (cmp_c _ _ _) ?_
  clear hA hS a; intro a w hA hS hg
  refine m1 hA hS (Y.assign rfl) rfl ?_
  clear hA a; intro a hA
  refine m_nil ?_
  refine m_then ?_
  refine m_retc ?_
  refine m_ret1 hA Tryz.results47 rfl ?_
  exact ⟨rfl, hS.gr0 (by simp)⟩
/-- Whoever stands ahead stands for somebody less. -/
def Sorted (xs : List Inv) : Prop := ∀ (i j : Nat) (x y : Inv), i < j → xs[i]? = some x → xs[j]? = some y → x.who < y.who
theorem filter_lt {xs : List Inv} {t : Int} {k : Nat} (h1 : ∀ q x, q < k → xs[q]? = some x → x.who < t) (h2 : ∀ q x, k ≤ q → xs[q]? = some x → t ≤ x.who) : xs.filter (fun i => decide (i.who < t)) = xs.take k := by
  rw [← List.take_append_drop k xs, List.filter_append]
  have e1 : (xs.take k).filter (fun i => decide (i.who < t)) = xs.take k := List.filter_eq_self.2 fun x hx => by
    obtain ⟨q, hq⟩ := List.mem_iff_getElem?.1 hx
    rw [List.getElem?_take] at hq
    split at hq
    · exact decide_eq_true (h1 q x (by assumption) hq)
    · cases hq
  have e2 : (xs.drop k).filter (fun i => decide (i.who < t)) = [] := List.filter_eq_nil_iff.2 fun x hx => by
    obtain ⟨q, hq⟩ := List.mem_iff_getElem?.1 hx
    rw [List.getElem?_drop] at hq
    have := h2 (k + q) x (by omega) hq
    simp; omega
  rw [e1, e2, List.take_append_drop, List.append_nil]
set_option maxRecDepth 100000 in
theorem bsearch_c (A : Option Addr) (n c : Nat) (xs : List Inv) (t : Int) (w0 : World) (hI : Invs w0 A n xs) (hle : n ≤ 1000) (hs : Sorted xs) :
    Calls Tryz.prog 46 #[.slice A n c, .int .i64 t, .func (.func 47) #[] #[]] w0 fun e w' => e = .returned (.tuple #[.int .i64 ((xs.filter fun i => decide (i.who < t)).length : Nat), .bool (xs.any fun i => decide (i.who = t))]) ∧ Gr w0 w' := by
  have hl := hI.len
  refine m_enter Tryz.func46 rfl Tryz.ntmps46 (Nat.le_of_ble_eq_true rfl) ?_
  intro a hA
  have hS := St.start w0
  refine m_seq ?_
  refine m_region ?_
  refine m1 hA hS (Y.assign rfl) rfl ?_
  clear hA a; intro a hA
  refine m1 hA hS (Y.assign rfl) rfl ?_
  clear hA a; intro a hA
  refine m_nil ?_
  refine m_then ?_
  refine m_seq ?_
  refine m_region ?_
  refine m1 hA hS (Y.move rfl) rfl ?_
  clear hA a; intro a hA
  refine m1 hA hS (Y.lenSl rfl Tryz.underlying44) rfl ?_
  clear hA a; intro a hA
  refine m1 hA hS (Y.assign rfl) rfl ?_
  clear hA a; intro a hA
  refine m_nil ?_
  refine m_then ?_
  refine m_seq ?_
  refine m_region ?_
  refine m1 hA hS (Y.move rfl) rfl ?_
  clear hA a; intro a hA
  refine m1 hA hS (Y.assign rfl) rfl ?_
  clear hA a; intro a hA
  refine m1 hA hS (Y.assign rfl) rfl ?_
  clear hA a; intro a hA
  refine m_nil ?_
  refine m_then ?_
  refine m_seq ?_
  refine m_block ?_
  refine m_loopX [8, 7, 6, 0, 1, 2] rfl hA (((0 : Nat), n)) (fun x => [(9, .int .i64 (x.1 : Int)), (10, .int .i64 (x.2 : Int))]) (fun _ => _) (fun _ => _) (fun x => x.1 ≤ x.2 ∧ x.2 ≤ n ∧ (∀ q y, q < x.1 → xs[q]? = some y → y.who < t) ∧ ∀ q y, x.2 ≤ q → xs[q]? = some y → t ≤ y.who) (fun x => x.2 - x.1) (ks := [9, 10]) rfl hS (⟨Nat.zero_le _, Nat.le_refl _, fun q y h => by omega, fun q y h hq => by have := (List.getElem?_eq_some_iff.1 hq).1; omega⟩) ?_
  clear hA hS a; rintro ⟨i, j⟩ a w hA hS hj
  try dsimp only at hA
  try dsimp only at hS
  try dsimp only at hj
  obtain ⟨hij, hjn, hlo, hhi⟩ := hj
  replace hA := hA.keep [9, 10, 8, 7, 6, 0, 1, 2] rfl
  refine m_seq ?_
  refine m_seq ?_
  refine m_region ?_
  refine m1 hA hS (Y.move rfl) rfl ?_
  clear hA a; intro a hA
  refine m1 hA hS (Y.move rfl) rfl ?_
  clear hA a; intro a hA
  refine m1 hA hS (Y.ltI rfl rfl) rfl ?_
  clear hA a; intro a hA
  refine m_nil ?_
  refine m_then ?_
  refine m_condP hA rfl (fun hlt => ?_) (fun hlt => ?_)
  · have hh : (i + j) / 2 < j := by omega
    have hhi' : i ≤ (i + j) / 2 := by omega
    obtain ⟨b, o, x, rfl, hx, p0, p1⟩ := hI.at (j := (i + j) / 2) (by omega)
    refine m_skip ?_
    refine m_then ?_
    refine m_block ?_
    refine m_seq ?_
    refine m_region ?_
    refine m1 hA hS (Y.move rfl) rfl ?_
    clear hA a; intro a hA
    refine m1 hA hS (Y.move rfl) rfl ?_
    clear hA a; intro a hA
    refine m1 hA hS (Y.addI rfl rfl (by omega)) rfl ?_
    clear hA a; intro a hA
    refine m1 hA hS (Y.conv (v := .int .i64 ((i + j : Nat) : Int)) rfl (conv_iu (i + j) (by omega))) rfl ?_
    clear hA a; intro a hA
    refine m1 hA hS (Y.shr rfl rfl (shr_u (i + j) (by omega))) rfl ?_
    clear hA a; intro a hA
    refine m1 hA hS (Y.conv rfl (conv_ui ((i + j) / 2) (by omega))) rfl ?_
    clear hA a; intro a hA
    refine m1 hA hS (Y.assign rfl) rfl ?_
    clear hA a; intro a hA
    refine m_nil ?_
    refine m_then ?_
    refine m_seq ?_
    refine m_region ?_
    refine m1 hA hS (Y.move rfl) rfl ?_
    clear hA a; intro a hA
    refine m1 hA hS (Y.move rfl) rfl ?_
    clear hA a; intro a hA
    refine m1 hA hS (Y.move rfl) rfl ?_
    clear hA a; intro a hA
    refine m1 hA hS (Y.indexAddrN rfl rfl Tryz.underlying44 Tryz.sizeOf61 (by omega)) rfl ?_
    clear hA a; intro a hA
    refine m1 hA hS (Y.loads rfl Tryz.isAgg61 Tryz.sizeOf61 (fun w h => h.rds (by simp) (Nat.zero_le _) (Cs.two p0 p1)) rfl) rfl ?_
    clear hA a; intro a hA
    refine m1 hA hS (Y.move rfl) rfl ?_
    clear hA a; intro a hA
    refine m_callv (cap := []) hA rfl Tryz.call47 rfl rfl ((whoCmp_c x t _).mono ?_)
    rintro e w ⟨rfl, hg⟩
    refine ⟨_, rfl, ?_⟩
    clear hA a; intro a hA
    replace hS := hS.gr hg
    refine m1 hA hS (Y.ltI rfl rfl) rfl ?_
    clear hA a; intro a hA
    refine m_nil ?_
    refine m_then ?_
    refine m_condP hA rfl (fun hc => ?_) (fun hc => ?_)
    · have hxt : x.who < t := by
        unfold cmpF at hc
        split at hc
        · assumption
        · split at hc <;> omega
      have hlo' : ∀ q y, q < (i + j) / 2 + 1 → xs[q]? = some y → y.who < t := fun q y hq hy => by
        rcases Nat.lt_or_ge q ((i + j) / 2) with h | h
        · have := hs q _ y x h hy hx; omega
        · have e : q = (i + j) / 2 := by omega
          subst e; rw [hx] at hy; cases hy; exact hxt
      refine m_region ?_
      refine m1 hA hS (Y.move rfl) rfl ?_
      clear hA a; intro a hA
      refine m1 hA hS (Y.addI rfl rfl (by omega)) rfl ?_
      clear hA a; intro a hA
      refine m1 hA hS (Y.assign rfl) rfl ?_
      clear hA a; intro a hA
      refine m_nil ?_
      refine n_block ?_
      exact m_then ⟨((i + j) / 2 + 1, j), by (try dsimp only); omega, hA.keep [9, 10, 8, 7, 6, 0, 1, 2] rfl, hS, by (try dsimp only); exact ⟨by omega, hjn, hlo', hhi⟩⟩
    · have hxt : t ≤ x.who := by
        unfold cmpF at hc
        split at hc <;> omega
      have hhi2 : ∀ q y, (i + j) / 2 ≤ q → xs[q]? = some y → t ≤ y.who := fun q y hq hy => by
        rcases Nat.lt_or_ge ((i + j) / 2) q with h | h
        · have := hs _ q x y h hx hy; omega
        · have e : q = (i + j) / 2 := by omega
          subst e; rw [hx] at hy; cases hy; exact hxt
      refine m_region ?_
      refine m1 hA hS (Y.move rfl) rfl ?_
      clear hA a; intro a hA
      refine m1 hA hS (Y.assign rfl) rfl ?_
      clear hA a; intro a hA
      refine m_nil ?_
      refine n_block ?_
      exact m_then ⟨(i, (i + j) / 2), by (try dsimp only); omega, hA.keep [9, 10, 8, 7, 6, 0, 1, 2] rfl, hS, by (try dsimp only); exact ⟨hhi', by omega, hlo, hhi2⟩⟩
  · have hij' : i = j := by omega
    subst hij'
    have hk : xs.filter (fun z => decide (z.who < t)) = xs.take i := filter_lt hlo hhi
    have hkl : (xs.filter (fun z => decide (z.who < t))).length = i := by rw [hk, List.length_take]; omega
    by_cases hin : i < n
    · have hing : decide ((i : Int) < (n : Int)) = true := decide_eq_true (by omega)
      obtain ⟨b, o, x, rfl, hx, p0, p1⟩ := hI.at hin
      have hany : (xs.any fun z => decide (z.who = t)) = decide (cmpF x.who t = 0) := by
        have hxt := hhi i x (Nat.le_refl _) hx
        by_cases he : x.who = t
        · rw [decide_eq_true (cmpF_zero.2 he)]
          exact List.any_eq_true.2 ⟨x, List.mem_of_getElem? hx, decide_eq_true he⟩
        · rw [decide_eq_false (fun h => he (cmpF_zero.1 h))]
          refine List.any_eq_false.2 fun z hz => ?_
          obtain ⟨q, hq⟩ := List.mem_iff_getElem?.1 hz
          simp only [decide_eq_true_eq]
          intro hzt
          rcases Nat.lt_trichotomy q i with h | h | h
          · have := hlo q z h hq; omega
          · subst h; rw [hx] at hq; cases hq; exact he hzt
          · have := hs i q x z h hx hq; omega
      refine m_exit ?_
      refine x_then ?_
      refine x_then ?_
      refine x_block ?_
      refine m_then ?_
      refine m_seq ?_
      refine m_region ?_
      refine m1 hA hS (Y.move rfl) rfl ?_
      clear hA a; intro a hA
      refine m1 hA hS (Y.move rfl) rfl ?_
      clear hA a; intro a hA
      refine m1 hA hS (Y.move rfl) rfl ?_
      clear hA a; intro a hA
      refine m1 hA hS (Y.ltI rfl rfl) rfl ?_
      clear hA a; intro a hA
      refine m1 hA hS (Y.move rfl) rfl ?_
      clear hA a; intro a hA
      refine m1g hA hS (dj := 39) rfl rfl rfl hing (Y.move rfl) rfl ?_
      clear hA a; intro a hA
      refine m1g hA hS (dj := 39) rfl rfl rfl hing (Y.move rfl) rfl ?_
      clear hA a; intro a hA
      refine m1g hA hS (dj := 39) rfl rfl rfl hing (Y.move rfl) rfl ?_
      clear hA a; intro a hA
      refine m1g hA hS (dj := 39) rfl rfl rfl hing (Y.indexAddrN rfl rfl Tryz.underlying44 Tryz.sizeOf61 (by omega)) rfl ?_
      clear hA a; intro a hA
      refine m1g hA hS (dj := 39) rfl rfl rfl hing (Y.loads rfl Tryz.isAgg61 Tryz.sizeOf61 (fun w h => h.rds (by simp) (Nat.zero_le _) (Cs.two p0 p1)) rfl) rfl ?_
      clear hA a; intro a hA
      refine m1g hA hS (dj := 39) rfl rfl rfl hing (Y.move rfl) rfl ?_
      clear hA a; intro a hA
      refine m_callvg (dj := 39) (cap := []) hA rfl rfl rfl hing rfl Tryz.call47 rfl rfl ((whoCmp_c x t _).mono ?_)
      rintro e w ⟨rfl, hg⟩
      refine ⟨_, rfl, ?_⟩
      clear hA a; intro a hA
      replace hS := hS.gr hg
      refine m1g hA hS (dj := 39) rfl rfl rfl hing (Y.eqI rfl rfl) rfl ?_
      clear hA a; intro a hA
      refine m1 hA hS (Y.pickT' rfl hing rfl) rfl ?_
      clear hA a; intro a hA
      refine m1 hA hS (Y.assign rfl) rfl ?_
      clear hA a; intro a hA
      refine m1 hA hS (Y.assign rfl) rfl ?_
      clear hA a; intro a hA
      refine m_nil ?_
      refine m_then ?_
      refine m_retc ?_
      refine m_ret2 hA Tryz.results46 rfl rfl ?_
      exact ⟨by rw [hkl, hany], hS.gr0 (by simp)⟩
    · have hing : decide ((i : Int) < (n : Int)) = false := decide_eq_false (by omega)
      have hany : (xs.any fun z => decide (z.who = t)) = false := by
        refine List.any_eq_false.2 fun z hz => ?_
        obtain ⟨q, hq⟩ := List.mem_iff_getElem?.1 hz
        have := (List.getElem?_eq_some_iff.1 hq).1
        have := hlo q z (by omega) hq
        simp only [decide_eq_true_eq]
        omega
      refine m_exit ?_
      refine x_then ?_
      refine x_then ?_
      refine x_block ?_
      refine m_then ?_
      refine m_seq ?_
      refine m_region ?_
      refine m1 hA hS (Y.move rfl) rfl ?_
      clear hA a; intro a hA
      refine m1 hA hS (Y.move rfl) rfl ?_
      clear hA a; intro a hA
      refine m1 hA hS (Y.move rfl) rfl ?_
      clear hA a; intro a hA
      refine m1 hA hS (Y.ltI rfl rfl) rfl ?_
      clear hA a; intro a hA
      refine m1 hA hS (Y.move rfl) rfl ?_
      clear hA a; intro a hA
      refine m1s hA (dj := 39) rfl rfl rfl hing rfl ?_
      clear hA a; intro a hA
      refine m1s hA (dj := 39) rfl rfl rfl hing rfl ?_
      clear hA a; intro a hA
      refine m1s hA (dj := 39) rfl rfl rfl hing rfl ?_
      clear hA a; intro a hA
      refine m1s hA (dj := 39) rfl rfl rfl hing rfl ?_
      clear hA a; intro a hA
      refine m1s hA (dj := 39) rfl rfl rfl hing rfl ?_
      clear hA a; intro a hA
      refine m1s hA (dj := 39) rfl rfl rfl hing rfl ?_
      clear hA a; intro a hA
      refine m1s hA (dj := 39) rfl rfl rfl hing rfl ?_
      clear hA a; intro a hA
      refine m1s hA (dj := 39) rfl rfl rfl hing rfl ?_
      clear hA a; intro a hA
      refine m1 hA hS (Y.pickF' rfl hing rfl) rfl ?_
      clear hA a; intro a hA
      refine m1 hA hS (Y.assign rfl) rfl ?_
      clear hA a; intro a hA
      refine m1 hA hS (Y.assign rfl) rfl ?_
      clear hA a; intro a hA
      refine m_nil ?_
      refine m_then ?_
      refine m_retc ?_
      refine m_ret2 hA Tryz.results46 rfl rfl ?_
      exact ⟨by rw [hkl, hany], hS.gr0 (by simp)⟩
end Go.Proofs.YtljkhijdaaconaaGreat
