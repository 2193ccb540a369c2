/- Contracts of the exported changes as they are seen from outside; Pick; one. -/
import Derived.Test.YtljkhijdaaconaaGreatInv
import Derived.Test.YtljkhijdaaconaaGreatAns
set_option linter.unusedVariables false
namespace Go.Proofs.YtljkhijdaaconaaGreat
open Go.RowKit

/-- A hall and a code are given; the hall lies in memory of its own. -/
def GivesV (r : Hall × Int) (w : World) (e : Ending) (w' : World) : Prop :=
  ∃ A n c, e = .returned (.tuple #[.agg #[.int .i64 r.1.tick, .int .i64 r.1.last, .slice A n c], .int .i64 r.2]) ∧ Gr w w' ∧ PtysL w.heap.size w' A n r.1.ps
theorem Gives.v {r : Hall × Int} {w w' : World} {e : Ending} (h : Gives r [] [(0, w)] e w') : GivesV r w e w' := by
  obtain ⟨pv, bs, rfl, hH, hS⟩ := h
  obtain ⟨A, c, rfl, hP⟩ := hH.read (hS.out (w0 := w) (B := []) (by simp))
  exact ⟨A, _, c, rfl, hS.gr0 (by simp), hP⟩
theorem advance_v (t : Int) (H : Hall) (A : Option Addr) (n c : Nat) (w : World) (hP : Ptys w A n H.ps) :
    Calls Tryz.prog 19 #[.agg #[.int .i64 H.tick, .int .i64 H.last, .slice A n c], .int .i64 t] w (GivesV (change (advF t) H) w) :=
  (advance_c t H A n c [] [(0, w)] 0 w w w (St.start w) (by simp) (by simp) hP).mono fun e w' h => h.v
theorem create_v (t : Int) (H : Hall) (A : Option Addr) (n c : Nat) (w : World) (hP : Ptys w A n H.ps) :
    Calls Tryz.prog 18 #[.agg #[.int .i64 H.tick, .int .i64 H.last, .slice A n c], .int .i64 t] w (GivesV (change (creF t) H) w) :=
  (create_c t H A n c [] [(0, w)] 0 w w w (St.start w) (by simp) (by simp) hP).mono fun e w' h => h.v
theorem invited_v (u t : Int) (H : Hall) (A : Option Addr) (n c : Nat) (w : World) (hP : Ptys w A n H.ps) :
    Calls Tryz.prog 15 #[.agg #[.int .i64 H.tick, .int .i64 H.last, .slice A n c], .int .i64 u, .int .i64 t] w (GivesV (change (leadF u (invF t)) H) w) :=
  (invited_c u t H A n c [] [(0, w)] 0 w w w (St.start w) (by simp) (by simp) hP).mono fun e w' h => h.v
theorem accept_v (u t : Int) (H : Hall) (A : Option Addr) (n c : Nat) (w : World) (hP : Ptys w A n H.ps) :
    Calls Tryz.prog 14 #[.agg #[.int .i64 H.tick, .int .i64 H.last, .slice A n c], .int .i64 u, .int .i64 t] w (GivesV (change (ansF u t true) H) w) :=
  (accept_c u t H A n c [] [(0, w)] 0 w w w (St.start w) (by simp) (by simp) hP).mono fun e w' h => h.v
theorem decline_v (u t : Int) (H : Hall) (A : Option Addr) (n c : Nat) (w : World) (hP : Ptys w A n H.ps) :
    Calls Tryz.prog 39 #[.agg #[.int .i64 H.tick, .int .i64 H.last, .slice A n c], .int .i64 u, .int .i64 t] w (GivesV (change (ansF u t false) H) w) :=
  (decline_c u t H A n c [] [(0, w)] 0 w w w (St.start w) (by simp) (by simp) hP).mono fun e w' h => h.v
theorem leaveFn_v (t : Int) (H : Hall) (A : Option Addr) (n c : Nat) (w : World) (hP : Ptys w A n H.ps) :
    Calls Tryz.prog 17 #[.agg #[.int .i64 H.tick, .int .i64 H.last, .slice A n c], .int .i64 t] w (GivesV (change (lvF t) H) w) :=
  (leaveFn_c t H A n c [] [(0, w)] 0 w w w (St.start w) (by simp) (by simp) hP).mono fun e w' h => h.v
theorem kick_v (u t : Int) (H : Hall) (A : Option Addr) (n c : Nat) (w : World) (hP : Ptys w A n H.ps) :
    Calls Tryz.prog 40 #[.agg #[.int .i64 H.tick, .int .i64 H.last, .slice A n c], .int .i64 u, .int .i64 t] w (GivesV (change (leadF u (kickF u t)) H) w) :=
  (kick_c u t H A n c [] [(0, w)] 0 w w w (St.start w) (by simp) (by simp) hP).mono fun e w' h => h.v
theorem promote_v (u t : Int) (H : Hall) (A : Option Addr) (n c : Nat) (w : World) (hP : Ptys w A n H.ps) :
    Calls Tryz.prog 41 #[.agg #[.int .i64 H.tick, .int .i64 H.last, .slice A n c], .int .i64 u, .int .i64 t] w (GivesV (change (leadF u (promF t)) H) w) :=
  (promote_c u t H A n c [] [(0, w)] 0 w w w (St.start w) (by simp) (by simp) hP).mono fun e w' h => h.v
theorem disband_v (u : Int) (H : Hall) (A : Option Addr) (n c : Nat) (w : World) (hP : Ptys w A n H.ps) :
    Calls Tryz.prog 42 #[.agg #[.int .i64 H.tick, .int .i64 H.last, .slice A n c], .int .i64 u] w (GivesV (change (leadF u disF) H) w) :=
  (disband_c u H A n c [] [(0, w)] 0 w w w (St.start w) (by simp) (by simp) hP).mono fun e w' h => h.v

theorem neg_lt_tmod (a : Int) {b : Int} (h : 0 < b) : -b < a.tmod b := by
  rcases Int.le_total 0 a with ha | ha
  · have := Int.tmod_nonneg b ha; omega
  · have h1 := Int.tmod_lt_of_pos (-a) h
    rw [Int.neg_tmod] at h1
    omega
section
variable {P : Program} {C : World → Prop} {n : Nat} {s : List (Nat × Value)}
theorem Y.remI {T T' ty : TypeId} {x y : Operand} {a b : Int} (hx : ev s x = some (.int .i64 a)) (hy : ev s y = some (.int .i64 b)) (h : 0 < b) (hb : b ≤ 9223372036854775807) : Y P C n s (.binOp .rem T x y T') ty (.int .i64 (a.tmod b)) := fun f w o hA _ ho _ => by
  have h1 : a.tmod b < b := Int.tmod_lt_of_pos a h
  have h2 : -b < a.tmod b := neg_lt_tmod a h
  have e : IntKind.i64.wrap (a.tmod b) = a.tmod b := IntWalk.i64_in _ (by omega)
  have hne : b ≠ 0 := by omega
  simp [execOp, ho, hA.ev hx, hA.ev hy, eqGuard, binOp, Op.intDiv, e, hne]
end
def pickF (x n : Int) : Int := if n < 1 then 0 else if x.tmod n < 0 then x.tmod n + n else x.tmod n
set_option maxRecDepth 100000 in
theorem pick_c (x n : Int) (hn : n ≤ 4611686018427387904) (w0 : World) : Calls Tryz.prog 38 #[.int .i64 x, .int .i64 n] w0 fun e w' => e = .returned (.int .i64 (pickF x n)) ∧ Gr w0 w' := by
  refine m_enter Tryz.func38 rfl Tryz.ntmps38 (Nat.le_of_ble_eq_true rfl) ?_
  intro a hA
  have hS := St.start w0
  refine m_seq ?_
  refine m_region ?_
  refine m1 hA hS (Y.assign rfl) rfl ?_
  clear hA a; intro a hA
  refine m_nil ?_
  refine m_then ?_
  refine m_seq ?_
  refine m_seq ?_
  refine m_region ?_
  refine m1 hA hS (Y.move rfl) rfl ?_
  clear hA a; intro a hA
  refine m1 hA hS (Y.ltI rfl rfl) rfl ?_
  clear hA a; intro a hA
  refine m_nil ?_
  refine m_then ?_
  refine m_condP hA rfl (fun h1 => ?_) (fun h1 => ?_)
  · refine m_seq ?_
    refine m_region ?_
    refine m1 hA hS (Y.assign rfl) rfl ?_
    clear hA a; intro a hA
    refine m_nil ?_
    refine m_then ?_
    refine m_retc ?_
    refine r_then ?_
    refine m_ret1 hA Tryz.results38 rfl ?_
    exact ⟨ret_int (by unfold pickF; rw [if_pos h1]), hS.gr0 (by simp)⟩
  · have h2 : x.tmod n < n := Int.tmod_lt_of_pos x (by omega)
    have h3 : -n < x.tmod n := neg_lt_tmod x (by omega)
    refine m_skip ?_
    refine m_then ?_
    refine m_seq ?_
    refine m_region ?_
    refine m1 hA hS (Y.move rfl) rfl ?_
    clear hA a; intro a hA
    refine m1 hA hS (Y.move rfl) rfl ?_
    clear hA a; intro a hA
    refine m1 hA hS (Y.remI rfl rfl (by omega) (by omega)) rfl ?_
    clear hA a; intro a hA
    refine m1 hA hS (Y.assign rfl) rfl ?_
    clear hA a; intro a hA
    refine m_nil ?_
    refine m_then ?_
    refine m_seq ?_
    refine m_seq ?_
    refine m_region ?_
    refine m1 hA hS (Y.move rfl) rfl ?_
    clear hA a; intro a hA
    refine m1 hA hS (Y.ltI rfl rfl) rfl ?_
    clear hA a; intro a hA
    refine m_nil ?_
    refine m_then ?_
    refine m_condP hA rfl (fun h4 => ?_) (fun h4 => ?_)
    · refine m_region ?_
      refine m1 hA hS (Y.move rfl) rfl ?_
      clear hA a; intro a hA
      refine m1 hA hS (Y.move rfl) rfl ?_
      clear hA a; intro a hA
      refine m1 hA hS (Y.addI rfl rfl (by omega)) rfl ?_
      clear hA a; intro a hA
      refine m1 hA hS (Y.assign rfl) rfl ?_
      clear hA a; intro a hA
      refine m_nil ?_
      refine m_then ?_
      refine m_seq ?_
      refine m_region ?_
      refine m1 hA hS (Y.move rfl) rfl ?_
      clear hA a; intro a hA
      refine m1 hA hS (Y.assign rfl) rfl ?_
      clear hA a; intro a hA
      refine m_nil ?_
      refine m_then ?_
      refine m_retc ?_
      refine m_ret1 hA Tryz.results38 rfl ?_
      exact ⟨ret_int (by unfold pickF; rw [if_neg h1, if_pos h4]), hS.gr0 (by simp)⟩
    · refine m_skip ?_
      refine m_then ?_
      refine m_seq ?_
      refine m_region ?_
      refine m1 hA hS (Y.move rfl) rfl ?_
      clear hA a; intro a hA
      refine m1 hA hS (Y.assign rfl) rfl ?_
      clear hA a; intro a hA
      refine m_nil ?_
      refine m_then ?_
      refine m_retc ?_
      refine m_ret1 hA Tryz.results38 rfl ?_
      exact ⟨ret_int (by unfold pickF; rw [if_neg h1, if_neg h4]), hS.gr0 (by simp)⟩
/-- What is done, by its kind. -/
def oneF (H : Hall) (k a b : Int) : Hall × Int :=
  if pickF k 9 = 0 then change (advF a) H else if pickF k 9 = 1 then change (creF a) H else if pickF k 9 = 2 then change (leadF a (invF b)) H else
  if pickF k 9 = 3 then change (ansF a b true) H else if pickF k 9 = 4 then change (ansF a b false) H else if pickF k 9 = 5 then change (lvF a) H else
  if pickF k 9 = 6 then change (leadF a (kickF a b)) H else if pickF k 9 = 7 then change (leadF a (promF b)) H else change (leadF a disF) H
set_option maxRecDepth 100000 in
theorem one_c (H : Hall) (A : Option Addr) (n c : Nat) (k a' b : Int) (w0 : World) (hP : Ptys w0 A n H.ps) :
    Calls Tryz.prog 13 #[.agg #[.int .i64 H.tick, .int .i64 H.last, .slice A n c], .agg #[.int .i64 k, .int .i64 a', .int .i64 b]] w0 (GivesV (oneF H k a' b) w0) := by
  refine m_enter Tryz.func13 rfl Tryz.ntmps13 (Nat.le_of_ble_eq_true rfl) ?_
  intro a hA
  have hS := St.start w0
  refine m_seq ?_
  refine m_region ?_
  refine m_box hA hS rfl rfl ?_
  clear hA hS a; intro a b1 w hA hleb1 hgb1 hS
  refine m_box hA hS rfl rfl ?_
  clear hA hS a; intro a b2 w hA hleb2 hgb2 hS
  refine m_alloc hA hS Tryz.zeroValue24 rfl ?_
  clear hA hS a; intro a b3 w hA hleb3 hgb3 hS
  refine m1 hA hS (Y.assign rfl) rfl ?_
  clear hA a; intro a hA
  refine m_nil ?_
  refine m_then ?_
  refine m_seq ?_
  refine m_seq ?_
  refine m_region ?_
  refine m1 hA hS (Y.fieldAddr (k := 0) rfl Tryz.underlying36 rfl rfl Tryz.sizeOf3) rfl ?_
  clear hA a; intro a hA
  refine m1 hA hS (Y.load rfl Tryz.isAgg3 (fun w h => h.cell (i := 1) rfl rfl)) rfl ?_
  clear hA a; intro a hA
  refine m_callb hA hS Tryz.call38 rfl rfl (pick_c _ _ (by decide) _) ?_
  clear hA hS a; intro a w hA hS hg
  refine m_nil ?_
  refine m_then ?_
  refine m_block ?_
  refine m_seq ?_
  refine m_region ?_
  refine m1 hA hS (Y.eqI rfl rfl) rfl ?_
  clear hA a; intro a hA
  refine m1 hA hS (Y.assign rfl) rfl ?_
  clear hA a; intro a hA
  refine m_nil ?_
  refine m_then ?_
  refine m_condP hA rfl (fun h0 => ?_) (fun h0 => ?_)
  · have hF : oneF H k a' b = change (advF a') H := by unfold oneF; rw [if_pos h0]
    refine m_seq ?_
    refine m_region ?_
    refine m1 hA hS (Y.loads rfl Tryz.isAgg24 Tryz.sizeOf24 (fun w h => h.cells (i := 2) rfl) rfl) rfl ?_
    clear hA a; intro a hA
    refine m1 hA hS (Y.fieldAddr (k := 1) rfl Tryz.underlying36 rfl rfl Tryz.sizeOf3) rfl ?_
    clear hA a; intro a hA
    refine m1 hA hS (Y.load rfl Tryz.isAgg3 (fun w h => h.cell (i := 1) rfl rfl)) rfl ?_
    clear hA a; intro a hA
    refine m_call hA Tryz.call19 rfl rfl ((advance_v a' H A n c _ (hP.gr (hS.gr0 (by simp)))).mono ?_)
    rintro e w ⟨A', n', c', rfl, hg1, hP'⟩
    refine ⟨_, rfl, ?_⟩
    clear hA a; intro a hA
    have hlo := (hS.gr0 (w0 := w0) (by simp)).size
    replace hS := hS.call hg1
    refine m1 hA hS (Y.extract rfl rfl) rfl ?_
    clear hA a; intro a hA
    refine m1 hA hS (Y.extract rfl rfl) rfl ?_
    clear hA a; intro a hA
    refine m_store 0 hA hS rfl rfl Tryz.sizeOf24 rfl rfl rfl rfl ?_
    clear hS; intro w hS
    refine m1 hA hS (Y.assign rfl) rfl ?_
    clear hA a; intro a hA
    refine m_nil ?_
    refine m_then ?_
    refine m_retc ?_
    refine r_block ?_
    refine r_then ?_
    refine m_retc2 0 hA hS Tryz.results13 rfl rfl rfl Tryz.isAgg24 Tryz.sizeOf24 ?_
    rw [hF]
    exact ⟨A', n', c', rfl, hS.gr0 (by simp), (hP'.ov (hS.at (List.mem_cons_self ..))).lo hlo⟩
  · refine m_seq ?_
    refine m_region ?_
    refine m1 hA hS (Y.eqI rfl rfl) rfl ?_
    clear hA a; intro a hA
    refine m1 hA hS (Y.assign rfl) rfl ?_
    clear hA a; intro a hA
    refine m_nil ?_
    refine m_then ?_
    refine m_condP hA rfl (fun h1 => ?_) (fun h1 => ?_)
    · have hF : oneF H k a' b = change (creF a') H := by unfold oneF; rw [if_neg h0]; rw [if_pos h1]
      refine m_seq ?_
      refine m_region ?_
      refine m1 hA hS (Y.loads rfl Tryz.isAgg24 Tryz.sizeOf24 (fun w h => h.cells (i := 2) rfl) rfl) rfl ?_
      clear hA a; intro a hA
      refine m1 hA hS (Y.fieldAddr (k := 1) rfl Tryz.underlying36 rfl rfl Tryz.sizeOf3) rfl ?_
      clear hA a; intro a hA
      refine m1 hA hS (Y.load rfl Tryz.isAgg3 (fun w h => h.cell (i := 1) rfl rfl)) rfl ?_
      clear hA a; intro a hA
      refine m_call hA Tryz.call18 rfl rfl ((create_v a' H A n c _ (hP.gr (hS.gr0 (by simp)))).mono ?_)
      rintro e w ⟨A', n', c', rfl, hg1, hP'⟩
      refine ⟨_, rfl, ?_⟩
      clear hA a; intro a hA
      have hlo := (hS.gr0 (w0 := w0) (by simp)).size
      replace hS := hS.call hg1
      refine m1 hA hS (Y.extract rfl rfl) rfl ?_
      clear hA a; intro a hA
      refine m1 hA hS (Y.extract rfl rfl) rfl ?_
      clear hA a; intro a hA
      refine m_store 0 hA hS rfl rfl Tryz.sizeOf24 rfl rfl rfl rfl ?_
      clear hS; intro w hS
      refine m1 hA hS (Y.assign rfl) rfl ?_
      clear hA a; intro a hA
      refine m_nil ?_
      refine m_then ?_
      refine m_retc ?_
      refine r_block ?_
      refine r_then ?_
      refine m_retc2 0 hA hS Tryz.results13 rfl rfl rfl Tryz.isAgg24 Tryz.sizeOf24 ?_
      rw [hF]
      exact ⟨A', n', c', rfl, hS.gr0 (by simp), (hP'.ov (hS.at (List.mem_cons_self ..))).lo hlo⟩
    · refine m_seq ?_
      refine m_region ?_
      refine m1 hA hS (Y.eqI rfl rfl) rfl ?_
      clear hA a; intro a hA
      refine m1 hA hS (Y.assign rfl) rfl ?_
      clear hA a; intro a hA
      refine m_nil ?_
      refine m_then ?_
      refine m_condP hA rfl (fun h2 => ?_) (fun h2 => ?_)
      · have hF : oneF H k a' b = change (leadF a' (invF b)) H := by unfold oneF; rw [if_neg h0]; rw [if_neg h1]; rw [if_pos h2]
        refine m_seq ?_
        refine m_region ?_
        refine m1 hA hS (Y.loads rfl Tryz.isAgg24 Tryz.sizeOf24 (fun w h => h.cells (i := 2) rfl) rfl) rfl ?_
        clear hA a; intro a hA
        refine m1 hA hS (Y.fieldAddr (k := 1) rfl Tryz.underlying36 rfl rfl Tryz.sizeOf3) rfl ?_
        clear hA a; intro a hA
        refine m1 hA hS (Y.load rfl Tryz.isAgg3 (fun w h => h.cell (i := 1) rfl rfl)) rfl ?_
        clear hA a; intro a hA
        refine m1 hA hS (Y.fieldAddr (k := 2) rfl Tryz.underlying36 rfl rfl Tryz.sizeOf3) rfl ?_
        clear hA a; intro a hA
        refine m1 hA hS (Y.load rfl Tryz.isAgg3 (fun w h => h.cell (i := 1) rfl rfl)) rfl ?_
        clear hA a; intro a hA
        refine m_call hA Tryz.call15 rfl rfl ((invited_v a' b H A n c _ (hP.gr (hS.gr0 (by simp)))).mono ?_)
        rintro e w ⟨A', n', c', rfl, hg1, hP'⟩
        refine ⟨_, rfl, ?_⟩
        clear hA a; intro a hA
        have hlo := (hS.gr0 (w0 := w0) (by simp)).size
        replace hS := hS.call hg1
        refine m1 hA hS (Y.extract rfl rfl) rfl ?_
        clear hA a; intro a hA
        refine m1 hA hS (Y.extract rfl rfl) rfl ?_
        clear hA a; intro a hA
        refine m_store 0 hA hS rfl rfl Tryz.sizeOf24 rfl rfl rfl rfl ?_
        clear hS; intro w hS
        refine m1 hA hS (Y.assign rfl) rfl ?_
        clear hA a; intro a hA
        refine m_nil ?_
        refine m_then ?_
        refine m_retc ?_
        refine r_block ?_
        refine r_then ?_
        refine m_retc2 0 hA hS Tryz.results13 rfl rfl rfl Tryz.isAgg24 Tryz.sizeOf24 ?_
        rw [hF]
        exact ⟨A', n', c', rfl, hS.gr0 (by simp), (hP'.ov (hS.at (List.mem_cons_self ..))).lo hlo⟩
      · refine m_seq ?_
        refine m_region ?_
        refine m1 hA hS (Y.eqI rfl rfl) rfl ?_
        clear hA a; intro a hA
        refine m1 hA hS (Y.assign rfl) rfl ?_
        clear hA a; intro a hA
        refine m_nil ?_
        refine m_then ?_
        refine m_condP hA rfl (fun h3 => ?_) (fun h3 => ?_)
        · have hF : oneF H k a' b = change (ansF a' b true) H := by unfold oneF; rw [if_neg h0]; rw [if_neg h1]; rw [if_neg h2]; rw [if_pos h3]
          refine m_seq ?_
          refine m_region ?_
          refine m1 hA hS (Y.loads rfl Tryz.isAgg24 Tryz.sizeOf24 (fun w h => h.cells (i := 2) rfl) rfl) rfl ?_
          clear hA a; intro a hA
          refine m1 hA hS (Y.fieldAddr (k := 1) rfl Tryz.underlying36 rfl rfl Tryz.sizeOf3) rfl ?_
          clear hA a; intro a hA
          refine m1 hA hS (Y.load rfl Tryz.isAgg3 (fun w h => h.cell (i := 1) rfl rfl)) rfl ?_
          clear hA a; intro a hA
          refine m1 hA hS (Y.fieldAddr (k := 2) rfl Tryz.underlying36 rfl rfl Tryz.sizeOf3) rfl ?_
          clear hA a; intro a hA
          refine m1 hA hS (Y.load rfl Tryz.isAgg3 (fun w h => h.cell (i := 1) rfl rfl)) rfl ?_
          clear hA a; intro a hA
          refine m_call hA Tryz.call14 rfl rfl ((accept_v a' b H A n c _ (hP.gr (hS.gr0 (by simp)))).mono ?_)
          rintro e w ⟨A', n', c', rfl, hg1, hP'⟩
          refine ⟨_, rfl, ?_⟩
          clear hA a; intro a hA
          have hlo := (hS.gr0 (w0 := w0) (by simp)).size
          replace hS := hS.call hg1
          refine m1 hA hS (Y.extract rfl rfl) rfl ?_
          clear hA a; intro a hA
          refine m1 hA hS (Y.extract rfl rfl) rfl ?_
          clear hA a; intro a hA
          refine m_store 0 hA hS rfl rfl Tryz.sizeOf24 rfl rfl rfl rfl ?_
          clear hS; intro w hS
          refine m1 hA hS (Y.assign rfl) rfl ?_
          clear hA a; intro a hA
          refine m_nil ?_
          refine m_then ?_
          refine m_retc ?_
          refine r_block ?_
          refine r_then ?_
          refine m_retc2 0 hA hS Tryz.results13 rfl rfl rfl Tryz.isAgg24 Tryz.sizeOf24 ?_
          rw [hF]
          exact ⟨A', n', c', rfl, hS.gr0 (by simp), (hP'.ov (hS.at (List.mem_cons_self ..))).lo hlo⟩
        · refine m_seq ?_
          refine m_region ?_
          refine m1 hA hS (Y.eqI rfl rfl) rfl ?_
          clear hA a; intro a hA
          refine m1 hA hS (Y.assign rfl) rfl ?_
          clear hA a; intro a hA
          refine m_nil ?_
          refine m_then ?_
          refine m_condP hA rfl (fun h4 => ?_) (fun h4 => ?_)
          · have hF : oneF H k a' b = change (ansF a' b false) H := by unfold oneF; rw [if_neg h0]; rw [if_neg h1]; rw [if_neg h2]; rw [if_neg h3]; rw [if_pos h4]
            refine m_seq ?_
            refine m_region ?_
            refine m1 hA hS (Y.loads rfl Tryz.isAgg24 Tryz.sizeOf24 (fun w h => h.cells (i := 2) rfl) rfl) rfl ?_
            clear hA a; intro a hA
            refine m1 hA hS (Y.fieldAddr (k := 1) rfl Tryz.underlying36 rfl rfl Tryz.sizeOf3) rfl ?_
            clear hA a; intro a hA
            refine m1 hA hS (Y.load rfl Tryz.isAgg3 (fun w h => h.cell (i := 1) rfl rfl)) rfl ?_
            clear hA a; intro a hA
            refine m1 hA hS (Y.fieldAddr (k := 2) rfl Tryz.underlying36 rfl rfl Tryz.sizeOf3) rfl ?_
            clear hA a; intro a hA
            refine m1 hA hS (Y.load rfl Tryz.isAgg3 (fun w h => h.cell (i := 1) rfl rfl)) rfl ?_
            clear hA a; intro a hA
            refine m_call hA Tryz.call39 rfl rfl ((decline_v a' b H A n c _ (hP.gr (hS.gr0 (by simp)))).mono ?_)
            rintro e w ⟨A', n', c', rfl, hg1, hP'⟩
            refine ⟨_, rfl, ?_⟩
            clear hA a; intro a hA
            have hlo := (hS.gr0 (w0 := w0) (by simp)).size
            replace hS := hS.call hg1
            refine m1 hA hS (Y.extract rfl rfl) rfl ?_
            clear hA a; intro a hA
            refine m1 hA hS (Y.extract rfl rfl) rfl ?_
            clear hA a; intro a hA
            refine m_store 0 hA hS rfl rfl Tryz.sizeOf24 rfl rfl rfl rfl ?_
            clear hS; intro w hS
            refine m1 hA hS (Y.assign rfl) rfl ?_
            clear hA a; intro a hA
            refine m_nil ?_
            refine m_then ?_
            refine m_retc ?_
            refine r_block ?_
            refine r_then ?_
            refine m_retc2 0 hA hS Tryz.results13 rfl rfl rfl Tryz.isAgg24 Tryz.sizeOf24 ?_
            rw [hF]
            exact ⟨A', n', c', rfl, hS.gr0 (by simp), (hP'.ov (hS.at (List.mem_cons_self ..))).lo hlo⟩
          · refine m_seq ?_
            refine m_region ?_
            refine m1 hA hS (Y.eqI rfl rfl) rfl ?_
            clear hA a; intro a hA
            refine m1 hA hS (Y.assign rfl) rfl ?_
            clear hA a; intro a hA
            refine m_nil ?_
            refine m_then ?_
            refine m_condP hA rfl (fun h5 => ?_) (fun h5 => ?_)
            · have hF : oneF H k a' b = change (lvF a') H := by unfold oneF; rw [if_neg h0]; rw [if_neg h1]; rw [if_neg h2]; rw [if_neg h3]; rw [if_neg h4]; rw [if_pos h5]
              refine m_seq ?_
              refine m_region ?_
              refine m1 hA hS (Y.loads rfl Tryz.isAgg24 Tryz.sizeOf24 (fun w h => h.cells (i := 2) rfl) rfl) rfl ?_
              clear hA a; intro a hA
              refine m1 hA hS (Y.fieldAddr (k := 1) rfl Tryz.underlying36 rfl rfl Tryz.sizeOf3) rfl ?_
              clear hA a; intro a hA
              refine m1 hA hS (Y.load rfl Tryz.isAgg3 (fun w h => h.cell (i := 1) rfl rfl)) rfl ?_
              clear hA a; intro a hA
              refine m_call hA Tryz.call17 rfl rfl ((leaveFn_v a' H A n c _ (hP.gr (hS.gr0 (by simp)))).mono ?_)
              rintro e w ⟨A', n', c', rfl, hg1, hP'⟩
              refine ⟨_, rfl, ?_⟩
              clear hA a; intro a hA
              have hlo := (hS.gr0 (w0 := w0) (by simp)).size
              replace hS := hS.call hg1
              refine m1 hA hS (Y.extract rfl rfl) rfl ?_
              clear hA a; intro a hA
              refine m1 hA hS (Y.extract rfl rfl) rfl ?_
              clear hA a; intro a hA
              refine m_store 0 hA hS rfl rfl Tryz.sizeOf24 rfl rfl rfl rfl ?_
              clear hS; intro w hS
              refine m1 hA hS (Y.assign rfl) rfl ?_
              clear hA a; intro a hA
              refine m_nil ?_
              refine m_then ?_
              refine m_retc ?_
              refine r_block ?_
              refine r_then ?_
              refine m_retc2 0 hA hS Tryz.results13 rfl rfl rfl Tryz.isAgg24 Tryz.sizeOf24 ?_
              rw [hF]
              exact ⟨A', n', c', rfl, hS.gr0 (by simp), (hP'.ov (hS.at (List.mem_cons_self ..))).lo hlo⟩
            · refine m_seq ?_
              refine m_region ?_
              refine m1 hA hS (Y.eqI rfl rfl) rfl ?_
              clear hA a; intro a hA
              refine m1 hA hS (Y.assign rfl) rfl ?_
              clear hA a; intro a hA
              refine m_nil ?_
              refine m_then ?_
              refine m_condP hA rfl (fun h6 => ?_) (fun h6 => ?_)
              · have hF : oneF H k a' b = change (leadF a' (kickF a' b)) H := by unfold oneF; rw [if_neg h0]; rw [if_neg h1]; rw [if_neg h2]; rw [if_neg h3]; rw [if_neg h4]; rw [if_neg h5]; rw [if_pos h6]
                refine m_seq ?_
                refine m_region ?_
                refine m1 hA hS (Y.loads rfl Tryz.isAgg24 Tryz.sizeOf24 (fun w h => h.cells (i := 2) rfl) rfl) rfl ?_
                clear hA a; intro a hA
                refine m1 hA hS (Y.fieldAddr (k := 1) rfl Tryz.underlying36 rfl rfl Tryz.sizeOf3) rfl ?_
                clear hA a; intro a hA
                refine m1 hA hS (Y.load rfl Tryz.isAgg3 (fun w h => h.cell (i := 1) rfl rfl)) rfl ?_
                clear hA a; intro a hA
                refine m1 hA hS (Y.fieldAddr (k := 2) rfl Tryz.underlying36 rfl rfl Tryz.sizeOf3) rfl ?_
                clear hA a; intro a hA
                refine m1 hA hS (Y.load rfl Tryz.isAgg3 (fun w h => h.cell (i := 1) rfl rfl)) rfl ?_
                clear hA a; intro a hA
                refine m_call hA Tryz.call40 rfl rfl ((kick_v a' b H A n c _ (hP.gr (hS.gr0 (by simp)))).mono ?_)
                rintro e w ⟨A', n', c', rfl, hg1, hP'⟩
                refine ⟨_, rfl, ?_⟩
                clear hA a; intro a hA
                have hlo := (hS.gr0 (w0 := w0) (by simp)).size
                replace hS := hS.call hg1
                refine m1 hA hS (Y.extract rfl rfl) rfl ?_
                clear hA a; intro a hA
                refine m1 hA hS (Y.extract rfl rfl) rfl ?_
                clear hA a; intro a hA
                refine m_store 0 hA hS rfl rfl Tryz.sizeOf24 rfl rfl rfl rfl ?_
                clear hS; intro w hS
                refine m1 hA hS (Y.assign rfl) rfl ?_
                clear hA a; intro a hA
                refine m_nil ?_
                refine m_then ?_
                refine m_retc ?_
                refine r_block ?_
                refine r_then ?_
                refine m_retc2 0 hA hS Tryz.results13 rfl rfl rfl Tryz.isAgg24 Tryz.sizeOf24 ?_
                rw [hF]
                exact ⟨A', n', c', rfl, hS.gr0 (by simp), (hP'.ov (hS.at (List.mem_cons_self ..))).lo hlo⟩
              · refine m_seq ?_
                refine m_region ?_
                refine m1 hA hS (Y.eqI rfl rfl) rfl ?_
                clear hA a; intro a hA
                refine m1 hA hS (Y.assign rfl) rfl ?_
                clear hA a; intro a hA
                refine m_nil ?_
                refine m_then ?_
                refine m_condP hA rfl (fun h7 => ?_) (fun h7 => ?_)
                · have hF : oneF H k a' b = change (leadF a' (promF b)) H := by unfold oneF; rw [if_neg h0]; rw [if_neg h1]; rw [if_neg h2]; rw [if_neg h3]; rw [if_neg h4]; rw [if_neg h5]; rw [if_neg h6]; rw [if_pos h7]
                  refine m_seq ?_
                  refine m_region ?_
                  refine m1 hA hS (Y.loads rfl Tryz.isAgg24 Tryz.sizeOf24 (fun w h => h.cells (i := 2) rfl) rfl) rfl ?_
                  clear hA a; intro a hA
                  refine m1 hA hS (Y.fieldAddr (k := 1) rfl Tryz.underlying36 rfl rfl Tryz.sizeOf3) rfl ?_
                  clear hA a; intro a hA
                  refine m1 hA hS (Y.load rfl Tryz.isAgg3 (fun w h => h.cell (i := 1) rfl rfl)) rfl ?_
                  clear hA a; intro a hA
                  refine m1 hA hS (Y.fieldAddr (k := 2) rfl Tryz.underlying36 rfl rfl Tryz.sizeOf3) rfl ?_
                  clear hA a; intro a hA
                  refine m1 hA hS (Y.load rfl Tryz.isAgg3 (fun w h => h.cell (i := 1) rfl rfl)) rfl ?_
                  clear hA a; intro a hA
                  refine m_call hA Tryz.call41 rfl rfl ((promote_v a' b H A n c _ (hP.gr (hS.gr0 (by simp)))).mono ?_)
                  rintro e w ⟨A', n', c', rfl, hg1, hP'⟩
                  refine ⟨_, rfl, ?_⟩
                  clear hA a; intro a hA
                  have hlo := (hS.gr0 (w0 := w0) (by simp)).size
                  replace hS := hS.call hg1
                  refine m1 hA hS (Y.extract rfl rfl) rfl ?_
                  clear hA a; intro a hA
                  refine m1 hA hS (Y.extract rfl rfl) rfl ?_
                  clear hA a; intro a hA
                  refine m_store 0 hA hS rfl rfl Tryz.sizeOf24 rfl rfl rfl rfl ?_
                  clear hS; intro w hS
                  refine m1 hA hS (Y.assign rfl) rfl ?_
                  clear hA a; intro a hA
                  refine m_nil ?_
                  refine m_then ?_
                  refine m_retc ?_
                  refine r_block ?_
                  refine r_then ?_
                  refine m_retc2 0 hA hS Tryz.results13 rfl rfl rfl Tryz.isAgg24 Tryz.sizeOf24 ?_
                  rw [hF]
                  exact ⟨A', n', c', rfl, hS.gr0 (by simp), (hP'.ov (hS.at (List.mem_cons_self ..))).lo hlo⟩
                · have hF : oneF H k a' b = change (leadF a' disF) H := by unfold oneF; rw [if_neg h0]; rw [if_neg h1]; rw [if_neg h2]; rw [if_neg h3]; rw [if_neg h4]; rw [if_neg h5]; rw [if_neg h6]; rw [if_neg h7]
                  refine m_skip ?_
                  refine n_block ?_
                  refine m_then ?_
                  refine m_seq ?_
                  refine m_region ?_
                  refine m1 hA hS (Y.loads rfl Tryz.isAgg24 Tryz.sizeOf24 (fun w h => h.cells (i := 2) rfl) rfl) rfl ?_
                  clear hA a; intro a hA
                  refine m1 hA hS (Y.fieldAddr (k := 1) rfl Tryz.underlying36 rfl rfl Tryz.sizeOf3) rfl ?_
                  clear hA a; intro a hA
                  refine m1 hA hS (Y.load rfl Tryz.isAgg3 (fun w h => h.cell (i := 1) rfl rfl)) rfl ?_
                  clear hA a; intro a hA
                  refine m_call hA Tryz.call42 rfl rfl ((disband_v a' H A n c _ (hP.gr (hS.gr0 (by simp)))).mono ?_)
                  rintro e w ⟨A', n', c', rfl, hg1, hP'⟩
                  refine ⟨_, rfl, ?_⟩
                  clear hA a; intro a hA
                  have hlo := (hS.gr0 (w0 := w0) (by simp)).size
                  replace hS := hS.call hg1
                  refine m1 hA hS (Y.extract rfl rfl) rfl ?_
                  clear hA a; intro a hA
                  refine m1 hA hS (Y.extract rfl rfl) rfl ?_
                  clear hA a; intro a hA
                  refine m_store 0 hA hS rfl rfl Tryz.sizeOf24 rfl rfl rfl rfl ?_
                  clear hS; intro w hS
                  refine m1 hA hS (Y.assign rfl) rfl ?_
                  clear hA a; intro a hA
                  refine m_nil ?_
                  refine m_then ?_
                  refine m_retc ?_
                  refine m_retc2 0 hA hS Tryz.results13 rfl rfl rfl Tryz.isAgg24 Tryz.sizeOf24 ?_
                  rw [hF]
                  exact ⟨A', n', c', rfl, hS.gr0 (by simp), (hP'.ov (hS.at (List.mem_cons_self ..))).lo hlo⟩
end Go.Proofs.YtljkhijdaaconaaGreat
