/- Contracts of `one` and Of that tell the boxes of what is given. -/
import Derived.Test.YtljkhijdaaconaaGreatOne
import Derived.Test.YtljkhijdaaconaaGreatOf
set_option linter.unusedVariables false
set_option linter.unusedSectionVars false
namespace Go.Proofs.YtljkhijdaaconaaGreat
open Go.RowKit

/-- A hall and a code are given; the hall lies in new boxes. -/
def GivesF (r : Hall × Int) (w : World) (e : Ending) (w' : World) : Prop :=
  ∃ pv bs, e = .returned (.tuple #[.agg #[.int .i64 r.1.tick, .int .i64 r.1.last, pv], .int .i64 r.2]) ∧ HallB pv r.1.ps bs ∧ Gr w w' ∧ Fresh w.heap.size w' bs
theorem Gives.f {r : Hall × Int} {w w' : World} {e : Ending} (h : Gives r [] [(0, w)] e w') : GivesF r w e w' := by
  obtain ⟨pv, bs, rfl, hH, hS⟩ := h
  exact ⟨pv, bs, rfl, hH, hS.gr0 (by simp), hS.out (w0 := w) (B := []) (by simp)⟩
theorem advance_f (t : Int) (H : Hall) (A : Option Addr) (n c : Nat) (w : World) (hP : Ptys w A n H.ps) :
    Calls Tryz.prog 19 #[.agg #[.int .i64 H.tick, .int .i64 H.last, .slice A n c], .int .i64 t] w (GivesF (change (advF t) H) w) :=
  (advance_c t H A n c [] [(0, w)] 0 w w w (St.start w) (by simp) (by simp) hP).mono fun e w' h => h.f
theorem create_f (t : Int) (H : Hall) (A : Option Addr) (n c : Nat) (w : World) (hP : Ptys w A n H.ps) :
    Calls Tryz.prog 18 #[.agg #[.int .i64 H.tick, .int .i64 H.last, .slice A n c], .int .i64 t] w (GivesF (change (creF t) H) w) :=
  (create_c t H A n c [] [(0, w)] 0 w w w (St.start w) (by simp) (by simp) hP).mono fun e w' h => h.f
theorem invited_f (u t : Int) (H : Hall) (A : Option Addr) (n c : Nat) (w : World) (hP : Ptys w A n H.ps) :
    Calls Tryz.prog 15 #[.agg #[.int .i64 H.tick, .int .i64 H.last, .slice A n c], .int .i64 u, .int .i64 t] w (GivesF (change (leadF u (invF t)) H) w) :=
  (invited_c u t H A n c [] [(0, w)] 0 w w w (St.start w) (by simp) (by simp) hP).mono fun e w' h => h.f
theorem accept_f (u t : Int) (H : Hall) (A : Option Addr) (n c : Nat) (w : World) (hP : Ptys w A n H.ps) :
    Calls Tryz.prog 14 #[.agg #[.int .i64 H.tick, .int .i64 H.last, .slice A n c], .int .i64 u, .int .i64 t] w (GivesF (change (ansF u t true) H) w) :=
  (accept_c u t H A n c [] [(0, w)] 0 w w w (St.start w) (by simp) (by simp) hP).mono fun e w' h => h.f
theorem decline_f (u t : Int) (H : Hall) (A : Option Addr) (n c : Nat) (w : World) (hP : Ptys w A n H.ps) :
    Calls Tryz.prog 39 #[.agg #[.int .i64 H.tick, .int .i64 H.last, .slice A n c], .int .i64 u, .int .i64 t] w (GivesF (change (ansF u t false) H) w) :=
  (decline_c u t H A n c [] [(0, w)] 0 w w w (St.start w) (by simp) (by simp) hP).mono fun e w' h => h.f
theorem leaveFn_f (t : Int) (H : Hall) (A : Option Addr) (n c : Nat) (w : World) (hP : Ptys w A n H.ps) :
    Calls Tryz.prog 17 #[.agg #[.int .i64 H.tick, .int .i64 H.last, .slice A n c], .int .i64 t] w (GivesF (change (lvF t) H) w) :=
  (leaveFn_c t H A n c [] [(0, w)] 0 w w w (St.start w) (by simp) (by simp) hP).mono fun e w' h => h.f
theorem kick_f (u t : Int) (H : Hall) (A : Option Addr) (n c : Nat) (w : World) (hP : Ptys w A n H.ps) :
    Calls Tryz.prog 40 #[.agg #[.int .i64 H.tick, .int .i64 H.last, .slice A n c], .int .i64 u, .int .i64 t] w (GivesF (change (leadF u (kickF u t)) H) w) :=
  (kick_c u t H A n c [] [(0, w)] 0 w w w (St.start w) (by simp) (by simp) hP).mono fun e w' h => h.f
theorem promote_f (u t : Int) (H : Hall) (A : Option Addr) (n c : Nat) (w : World) (hP : Ptys w A n H.ps) :
    Calls Tryz.prog 41 #[.agg #[.int .i64 H.tick, .int .i64 H.last, .slice A n c], .int .i64 u, .int .i64 t] w (GivesF (change (leadF u (promF t)) H) w) :=
  (promote_c u t H A n c [] [(0, w)] 0 w w w (St.start w) (by simp) (by simp) hP).mono fun e w' h => h.f
theorem disband_f (u : Int) (H : Hall) (A : Option Addr) (n c : Nat) (w : World) (hP : Ptys w A n H.ps) :
    Calls Tryz.prog 42 #[.agg #[.int .i64 H.tick, .int .i64 H.last, .slice A n c], .int .i64 u] w (GivesF (change (leadF u disF) H) w) :=
  (disband_c u H A n c [] [(0, w)] 0 w w w (St.start w) (by simp) (by simp) hP).mono fun e w' h => h.f
set_option maxRecDepth 100000 in
theorem one_f (H : Hall) (A : Option Addr) (n c : Nat) (k a' b : Int) (w0 : World) (hP : Ptys w0 A n H.ps) :
    Calls Tryz.prog 13 #[.agg #[.int .i64 H.tick, .int .i64 H.last, .slice A n c], .agg #[.int .i64 k, .int .i64 a', .int .i64 b]] w0 (GivesF (oneF H k a' b) w0) := by
  refine m_enter Tryz.func13 rfl Tryz.ntmps13 (Nat.le_of_ble_eq_true rfl) ?_
  intro a hA
  have hS := St.start w0
  refine m_seq ?_
  refine m_region ?_
  refine m_box hA hS rfl rfl ?_
  clear hA hS a; intro a b1 w hA hleb1 hgb1 hS
  refine m_box hA hS rfl rfl ?_
  clear hA hS a; intro a b2 w hA hleb2 hgb2 hS
  refine m_alloc hA hS Tryz.zeroValue24 rfl ?_
  clear hA hS a; intro a b3 w hA hleb3 hgb3 hS
  refine m1 hA hS (Y.assign rfl) rfl ?_
  clear hA a; intro a hA
  refine m_nil ?_
  refine m_then ?_
  refine m_seq ?_
  refine m_seq ?_
  refine m_region ?_
  refine m1 hA hS (Y.fieldAddr (k := 0) rfl Tryz.underlying36 rfl rfl Tryz.sizeOf3) rfl ?_
  clear hA a; intro a hA
  refine m1 hA hS (Y.load rfl Tryz.isAgg3 (fun w h => h.cell (i := 1) rfl rfl)) rfl ?_
  clear hA a; intro a hA
  refine m_callb hA hS Tryz.call38 rfl rfl (pick_c _ _ (by decide) _) ?_
  clear hA hS a; intro a w hA hS hg
  refine m_nil ?_
  refine m_then ?_
  refine m_block ?_
  refine m_seq ?_
  refine m_region ?_
  refine m1 hA hS (Y.eqI rfl rfl) rfl ?_
  clear hA a; intro a hA
  refine m1 hA hS (Y.assign rfl) rfl ?_
  clear hA a; intro a hA
  refine m_nil ?_
  refine m_then ?_
  refine m_condP hA rfl (fun h0 => ?_) (fun h0 => ?_)
  · have hF : oneF H k a' b = change (advF a') H := by unfold oneF; rw [if_pos h0]
    refine m_seq ?_
    refine m_region ?_
    refine m1 hA hS (Y.loads rfl Tryz.isAgg24 Tryz.sizeOf24 (fun w h => h.cells (i := 2) rfl) rfl) rfl ?_
    clear hA a; intro a hA
    refine m1 hA hS (Y.fieldAddr (k := 1) rfl Tryz.underlying36 rfl rfl Tryz.sizeOf3) rfl ?_
    clear hA a; intro a hA
    refine m1 hA hS (Y.load rfl Tryz.isAgg3 (fun w h => h.cell (i := 1) rfl rfl)) rfl ?_
    clear hA a; intro a hA
    refine m_call hA Tryz.call19 rfl rfl ((advance_f a' H A n c _ (hP.gr (hS.gr0 (by simp)))).mono ?_)
    rintro e w ⟨pv, bs, rfl, hH, hg1, hf1⟩
    refine ⟨_, rfl, ?_⟩
    clear hA a; intro a hA
    replace hS := hS.freshR hg1 hf1
    obtain ⟨A', c', rfl⟩ := hH.shape
    refine m1 hA hS (Y.extract rfl rfl) rfl ?_
    clear hA a; intro a hA
    refine m1 hA hS (Y.extract rfl rfl) rfl ?_
    clear hA a; intro a hA
    refine m_store 0 hA hS rfl rfl Tryz.sizeOf24 rfl rfl rfl rfl ?_
    clear hS; intro w hS
    refine m1 hA hS (Y.assign rfl) rfl ?_
    clear hA a; intro a hA
    refine m_nil ?_
    refine m_then ?_
    refine m_retc ?_
    refine r_block ?_
    refine r_then ?_
    refine m_retc2 0 hA hS Tryz.results13 rfl rfl rfl Tryz.isAgg24 Tryz.sizeOf24 ?_
    rw [hF]
    exact ⟨_, bs, rfl, hH, hS.gr0 (by simp), St.outR (w0 := w0) (X := [_, _, _]) hS (by simp)⟩
  · refine m_seq ?_
    refine m_region ?_
    refine m1 hA hS (Y.eqI rfl rfl) rfl ?_
    clear hA a; intro a hA
    refine m1 hA hS (Y.assign rfl) rfl ?_
    clear hA a; intro a hA
    refine m_nil ?_
    refine m_then ?_
    refine m_condP hA rfl (fun h1 => ?_) (fun h1 => ?_)
    · have hF : oneF H k a' b = change (creF a') H := by unfold oneF; rw [if_neg h0]; rw [if_pos h1]
      refine m_seq ?_
      refine m_region ?_
      refine m1 hA hS (Y.loads rfl Tryz.isAgg24 Tryz.sizeOf24 (fun w h => h.cells (i := 2) rfl) rfl) rfl ?_
      clear hA a; intro a hA
      refine m1 hA hS (Y.fieldAddr (k := 1) rfl Tryz.underlying36 rfl rfl Tryz.sizeOf3) rfl ?_
      clear hA a; intro a hA
      refine m1 hA hS (Y.load rfl Tryz.isAgg3 (fun w h => h.cell (i := 1) rfl rfl)) rfl ?_
      clear hA a; intro a hA
      refine m_call hA Tryz.call18 rfl rfl ((create_f a' H A n c _ (hP.gr (hS.gr0 (by simp)))).mono ?_)
      rintro e w ⟨pv, bs, rfl, hH, hg1, hf1⟩
      refine ⟨_, rfl, ?_⟩
      clear hA a; intro a hA
      replace hS := hS.freshR hg1 hf1
      obtain ⟨A', c', rfl⟩ := hH.shape
      refine m1 hA hS (Y.extract rfl rfl) rfl ?_
      clear hA a; intro a hA
      refine m1 hA hS (Y.extract rfl rfl) rfl ?_
      clear hA a; intro a hA
      refine m_store 0 hA hS rfl rfl Tryz.sizeOf24 rfl rfl rfl rfl ?_
      clear hS; intro w hS
      refine m1 hA hS (Y.assign rfl) rfl ?_
      clear hA a; intro a hA
      refine m_nil ?_
      refine m_then ?_
      refine m_retc ?_
      refine r_block ?_
      refine r_then ?_
      refine m_retc2 0 hA hS Tryz.results13 rfl rfl rfl Tryz.isAgg24 Tryz.sizeOf24 ?_
      rw [hF]
      exact ⟨_, bs, rfl, hH, hS.gr0 (by simp), St.outR (w0 := w0) (X := [_, _, _]) hS (by simp)⟩
    · refine m_seq ?_
      refine m_region ?_
      refine m1 hA hS (Y.eqI rfl rfl) rfl ?_
      clear hA a; intro a hA
      refine m1 hA hS (Y.assign rfl) rfl ?_
      clear hA a; intro a hA
      refine m_nil ?_
      refine m_then ?_
      refine m_condP hA rfl (fun h2 => ?_) (fun h2 => ?_)
      · have hF : oneF H k a' b = change (leadF a' (invF b)) H := by unfold oneF; rw [if_neg h0]; rw [if_neg h1]; rw [if_pos h2]
        refine m_seq ?_
        refine m_region ?_
        refine m1 hA hS (Y.loads rfl Tryz.isAgg24 Tryz.sizeOf24 (fun w h => h.cells (i := 2) rfl) rfl) rfl ?_
        clear hA a; intro a hA
        refine m1 hA hS (Y.fieldAddr (k := 1) rfl Tryz.underlying36 rfl rfl Tryz.sizeOf3) rfl ?_
        clear hA a; intro a hA
        refine m1 hA hS (Y.load rfl Tryz.isAgg3 (fun w h => h.cell (i := 1) rfl rfl)) rfl ?_
        clear hA a; intro a hA
        refine m1 hA hS (Y.fieldAddr (k := 2) rfl Tryz.underlying36 rfl rfl Tryz.sizeOf3) rfl ?_
        clear hA a; intro a hA
        refine m1 hA hS (Y.load rfl Tryz.isAgg3 (fun w h => h.cell (i := 1) rfl rfl)) rfl ?_
        clear hA a; intro a hA
        refine m_call hA Tryz.call15 rfl rfl ((invited_f a' b H A n c _ (hP.gr (hS.gr0 (by simp)))).mono ?_)
        rintro e w ⟨pv, bs, rfl, hH, hg1, hf1⟩
        refine ⟨_, rfl, ?_⟩
        clear hA a; intro a hA
        replace hS := hS.freshR hg1 hf1
        obtain ⟨A', c', rfl⟩ := hH.shape
        refine m1 hA hS (Y.extract rfl rfl) rfl ?_
        clear hA a; intro a hA
        refine m1 hA hS (Y.extract rfl rfl) rfl ?_
        clear hA a; intro a hA
        refine m_store 0 hA hS rfl rfl Tryz.sizeOf24 rfl rfl rfl rfl ?_
        clear hS; intro w hS
        refine m1 hA hS (Y.assign rfl) rfl ?_
        clear hA a; intro a hA
        refine m_nil ?_
        refine m_then ?_
        refine m_retc ?_
        refine r_block ?_
        refine r_then ?_
        refine m_retc2 0 hA hS Tryz.results13 rfl rfl rfl Tryz.isAgg24 Tryz.sizeOf24 ?_
        rw [hF]
        exact ⟨_, bs, rfl, hH, hS.gr0 (by simp), St.outR (w0 := w0) (X := [_, _, _]) hS (by simp)⟩
      · refine m_seq ?_
        refine m_region ?_
        refine m1 hA hS (Y.eqI rfl rfl) rfl ?_
        clear hA a; intro a hA
        refine m1 hA hS (Y.assign rfl) rfl ?_
        clear hA a; intro a hA
        refine m_nil ?_
        refine m_then ?_
        refine m_condP hA rfl (fun h3 => ?_) (fun h3 => ?_)
        · have hF : oneF H k a' b = change (ansF a' b true) H := by unfold oneF; rw [if_neg h0]; rw [if_neg h1]; rw [if_neg h2]; rw [if_pos h3]
          refine m_seq ?_
          refine m_region ?_
          refine m1 hA hS (Y.loads rfl Tryz.isAgg24 Tryz.sizeOf24 (fun w h => h.cells (i := 2) rfl) rfl) rfl ?_
          clear hA a; intro a hA
          refine m1 hA hS (Y.fieldAddr (k := 1) rfl Tryz.underlying36 rfl rfl Tryz.sizeOf3) rfl ?_
          clear hA a; intro a hA
          refine m1 hA hS (Y.load rfl Tryz.isAgg3 (fun w h => h.cell (i := 1) rfl rfl)) rfl ?_
          clear hA a; intro a hA
          refine m1 hA hS (Y.fieldAddr (k := 2) rfl Tryz.underlying36 rfl rfl Tryz.sizeOf3) rfl ?_
          clear hA a; intro a hA
          refine m1 hA hS (Y.load rfl Tryz.isAgg3 (fun w h => h.cell (i := 1) rfl rfl)) rfl ?_
          clear hA a; intro a hA
          refine m_call hA Tryz.call14 rfl rfl ((accept_f a' b H A n c _ (hP.gr (hS.gr0 (by simp)))).mono ?_)
          rintro e w ⟨pv, bs, rfl, hH, hg1, hf1⟩
          refine ⟨_, rfl, ?_⟩
          clear hA a; intro a hA
          replace hS := hS.freshR hg1 hf1
          obtain ⟨A', c', rfl⟩ := hH.shape
          refine m1 hA hS (Y.extract rfl rfl) rfl ?_
          clear hA a; intro a hA
          refine m1 hA hS (Y.extract rfl rfl) rfl ?_
          clear hA a; intro a hA
          refine m_store 0 hA hS rfl rfl Tryz.sizeOf24 rfl rfl rfl rfl ?_
          clear hS; intro w hS
          refine m1 hA hS (Y.assign rfl) rfl ?_
          clear hA a; intro a hA
          refine m_nil ?_
          refine m_then ?_
          refine m_retc ?_
          refine r_block ?_
          refine r_then ?_
          refine m_retc2 0 hA hS Tryz.results13 rfl rfl rfl Tryz.isAgg24 Tryz.sizeOf24 ?_
          rw [hF]
          exact ⟨_, bs, rfl, hH, hS.gr0 (by simp), St.outR (w0 := w0) (X := [_, _, _]) hS (by simp)⟩
        · refine m_seq ?_
          refine m_region ?_
          refine m1 hA hS (Y.eqI rfl rfl) rfl ?_
          clear hA a; intro a hA
          refine m1 hA hS (Y.assign rfl) rfl ?_
          clear hA a; intro a hA
          refine m_nil ?_
          refine m_then ?_
          refine m_condP hA rfl (fun h4 => ?_) (fun h4 => ?_)
          · have hF : oneF H k a' b = change (ansF a' b false) H := by unfold oneF; rw [if_neg h0]; rw [if_neg h1]; rw [if_neg h2]; rw [if_neg h3]; rw [if_pos h4]
            refine m_seq ?_
            refine m_region ?_
            refine m1 hA hS (Y.loads rfl Tryz.isAgg24 Tryz.sizeOf24 (fun w h => h.cells (i := 2) rfl) rfl) rfl ?_
            clear hA a; intro a hA
            refine m1 hA hS (Y.fieldAddr (k := 1) rfl Tryz.underlying36 rfl rfl Tryz.sizeOf3) rfl ?_
            clear hA a; intro a hA
            refine m1 hA hS (Y.load rfl Tryz.isAgg3 (fun w h => h.cell (i := 1) rfl rfl)) rfl ?_
            clear hA a; intro a hA
            refine m1 hA hS (Y.fieldAddr (k := 2) rfl Tryz.underlying36 rfl rfl Tryz.sizeOf3) rfl ?_
            clear hA a; intro a hA
            refine m1 hA hS (Y.load rfl Tryz.isAgg3 (fun w h => h.cell (i := 1) rfl rfl)) rfl ?_
            clear hA a; intro a hA
            refine m_call hA Tryz.call39 rfl rfl ((decline_f a' b H A n c _ (hP.gr (hS.gr0 (by simp)))).mono ?_)
            rintro e w ⟨pv, bs, rfl, hH, hg1, hf1⟩
            refine ⟨_, rfl, ?_⟩
            clear hA a; intro a hA
            replace hS := hS.freshR hg1 hf1
            obtain ⟨A', c', rfl⟩ := hH.shape
            refine m1 hA hS (Y.extract rfl rfl) rfl ?_
            clear hA a; intro a hA
            refine m1 hA hS (Y.extract rfl rfl) rfl ?_
            clear hA a; intro a hA
            refine m_store 0 hA hS rfl rfl Tryz.sizeOf24 rfl rfl rfl rfl ?_
            clear hS; intro w hS
            refine m1 hA hS (Y.assign rfl) rfl ?_
            clear hA a; intro a hA
            refine m_nil ?_
            refine m_then ?_
            refine m_retc ?_
            refine r_block ?_
            refine r_then ?_
            refine m_retc2 0 hA hS Tryz.results13 rfl rfl rfl Tryz.isAgg24 Tryz.sizeOf24 ?_
            rw [hF]
            exact ⟨_, bs, rfl, hH, hS.gr0 (by simp), St.outR (w0 := w0) (X := [_, _, _]) hS (by simp)⟩
          · refine m_seq ?_
            refine m_region ?_
            refine m1 hA hS (Y.eqI rfl rfl) rfl ?_
            clear hA a; intro a hA
            refine m1 hA hS (Y.assign rfl) rfl ?_
            clear hA a; intro a hA
            refine m_nil ?_
            refine m_then ?_
            refine m_condP hA rfl (fun h5 => ?_) (fun h5 => ?_)
            · have hF : oneF H k a' b = change (lvF a') H := by unfold oneF; rw [if_neg h0]; rw [if_neg h1]; rw [if_neg h2]; rw [if_neg h3]; rw [if_neg h4]; rw [if_pos h5]
              refine m_seq ?_
              refine m_region ?_
              refine m1 hA hS (Y.loads rfl Tryz.isAgg24 Tryz.sizeOf24 (fun w h => h.cells (i := 2) rfl) rfl) rfl ?_
              clear hA a; intro a hA
              refine m1 hA hS (Y.fieldAddr (k := 1) rfl Tryz.underlying36 rfl rfl Tryz.sizeOf3) rfl ?_
              clear hA a; intro a hA
              refine m1 hA hS (Y.load rfl Tryz.isAgg3 (fun w h => h.cell (i := 1) rfl rfl)) rfl ?_
              clear hA a; intro a hA
              refine m_call hA Tryz.call17 rfl rfl ((leaveFn_f a' H A n c _ (hP.gr (hS.gr0 (by simp)))).mono ?_)
              rintro e w ⟨pv, bs, rfl, hH, hg1, hf1⟩
              refine ⟨_, rfl, ?_⟩
              clear hA a; intro a hA
              replace hS := hS.freshR hg1 hf1
              obtain ⟨A', c', rfl⟩ := hH.shape
              refine m1 hA hS (Y.extract rfl rfl) rfl ?_
              clear hA a; intro a hA
              refine m1 hA hS (Y.extract rfl rfl) rfl ?_
              clear hA a; intro a hA
              refine m_store 0 hA hS rfl rfl Tryz.sizeOf24 rfl rfl rfl rfl ?_
              clear hS; intro w hS
              refine m1 hA hS (Y.assign rfl) rfl ?_
              clear hA a; intro a hA
              refine m_nil ?_
              refine m_then ?_
              refine m_retc ?_
              refine r_block ?_
              refine r_then ?_
              refine m_retc2 0 hA hS Tryz.results13 rfl rfl rfl Tryz.isAgg24 Tryz.sizeOf24 ?_
              rw [hF]
              exact ⟨_, bs, rfl, hH, hS.gr0 (by simp), St.outR (w0 := w0) (X := [_, _, _]) hS (by simp)⟩
            · refine m_seq ?_
              refine m_region ?_
              refine m1 hA hS (Y.eqI rfl rfl) rfl ?_
              clear hA a; intro a hA
              refine m1 hA hS (Y.assign rfl) rfl ?_
              clear hA a; intro a hA
              refine m_nil ?_
              refine m_then ?_
              refine m_condP hA rfl (fun h6 => ?_) (fun h6 => ?_)
              · have hF : oneF H k a' b = change (leadF a' (kickF a' b)) H := by unfold oneF; rw [if_neg h0]; rw [if_neg h1]; rw [if_neg h2]; rw [if_neg h3]; rw [if_neg h4]; rw [if_neg h5]; rw [if_pos h6]
                refine m_seq ?_
                refine m_region ?_
                refine m1 hA hS (Y.loads rfl Tryz.isAgg24 Tryz.sizeOf24 (fun w h => h.cells (i := 2) rfl) rfl) rfl ?_
                clear hA a; intro a hA
                refine m1 hA hS (Y.fieldAddr (k := 1) rfl Tryz.underlying36 rfl rfl Tryz.sizeOf3) rfl ?_
                clear hA a; intro a hA
                refine m1 hA hS (Y.load rfl Tryz.isAgg3 (fun w h => h.cell (i := 1) rfl rfl)) rfl ?_
                clear hA a; intro a hA
                refine m1 hA hS (Y.fieldAddr (k := 2) rfl Tryz.underlying36 rfl rfl Tryz.sizeOf3) rfl ?_
                clear hA a; intro a hA
                refine m1 hA hS (Y.load rfl Tryz.isAgg3 (fun w h => h.cell (i := 1) rfl rfl)) rfl ?_
                clear hA a; intro a hA
                refine m_call hA Tryz.call40 rfl rfl ((kick_f a' b H A n c _ (hP.gr (hS.gr0 (by simp)))).mono ?_)
                rintro e w ⟨pv, bs, rfl, hH, hg1, hf1⟩
                refine ⟨_, rfl, ?_⟩
                clear hA a; intro a hA
                replace hS := hS.freshR hg1 hf1
                obtain ⟨A', c', rfl⟩ := hH.shape
                refine m1 hA hS (Y.extract rfl rfl) rfl ?_
                clear hA a; intro a hA
                refine m1 hA hS (Y.extract rfl rfl) rfl ?_
                clear hA a; intro a hA
                refine m_store 0 hA hS rfl rfl Tryz.sizeOf24 rfl rfl rfl rfl ?_
                clear hS; intro w hS
                refine m1 hA hS (Y.assign rfl) rfl ?_
                clear hA a; intro a hA
                refine m_nil ?_
                refine m_then ?_
                refine m_retc ?_
                refine r_block ?_
                refine r_then ?_
                refine m_retc2 0 hA hS Tryz.results13 rfl rfl rfl Tryz.isAgg24 Tryz.sizeOf24 ?_
                rw [hF]
                exact ⟨_, bs, rfl, hH, hS.gr0 (by simp), St.outR (w0 := w0) (X := [_, _, _]) hS (by simp)⟩
              · refine m_seq ?_
                refine m_region ?_
                refine m1 hA hS (Y.eqI rfl rfl) rfl ?_
                clear hA a; intro a hA
                refine m1 hA hS (Y.assign rfl) rfl ?_
                clear hA a; intro a hA
                refine m_nil ?_
                refine m_then ?_
                refine m_condP hA rfl (fun h7 => ?_) (fun h7 => ?_)
                · have hF : oneF H k a' b = change (leadF a' (promF b)) H := by unfold oneF; rw [if_neg h0]; rw [if_neg h1]; rw [if_neg h2]; rw [if_neg h3]; rw [if_neg h4]; rw [if_neg h5]; rw [if_neg h6]; rw [if_pos h7]
                  refine m_seq ?_
                  refine m_region ?_
                  refine m1 hA hS (Y.loads rfl Tryz.isAgg24 Tryz.sizeOf24 (fun w h => h.cells (i := 2) rfl) rfl) rfl ?_
                  clear hA a; intro a hA
                  refine m1 hA hS (Y.fieldAddr (k := 1) rfl Tryz.underlying36 rfl rfl Tryz.sizeOf3) rfl ?_
                  clear hA a; intro a hA
                  refine m1 hA hS (Y.load rfl Tryz.isAgg3 (fun w h => h.cell (i := 1) rfl rfl)) rfl ?_
                  clear hA a; intro a hA
                  refine m1 hA hS (Y.fieldAddr (k := 2) rfl Tryz.underlying36 rfl rfl Tryz.sizeOf3) rfl ?_
                  clear hA a; intro a hA
                  refine m1 hA hS (Y.load rfl Tryz.isAgg3 (fun w h => h.cell (i := 1) rfl rfl)) rfl ?_
                  clear hA a; intro a hA
                  refine m_call hA Tryz.call41 rfl rfl ((promote_f a' b H A n c _ (hP.gr (hS.gr0 (by simp)))).mono ?_)
                  rintro e w ⟨pv, bs, rfl, hH, hg1, hf1⟩
                  refine ⟨_, rfl, ?_⟩
                  clear hA a; intro a hA
                  replace hS := hS.freshR hg1 hf1
                  obtain ⟨A', c', rfl⟩ := hH.shape
                  refine m1 hA hS (Y.extract rfl rfl) rfl ?_
                  clear hA a; intro a hA
                  refine m1 hA hS (Y.extract rfl rfl) rfl ?_
                  clear hA a; intro a hA
                  refine m_store 0 hA hS rfl rfl Tryz.sizeOf24 rfl rfl rfl rfl ?_
                  clear hS; intro w hS
                  refine m1 hA hS (Y.assign rfl) rfl ?_
                  clear hA a; intro a hA
                  refine m_nil ?_
                  refine m_then ?_
                  refine m_retc ?_
                  refine r_block ?_
                  refine r_then ?_
                  refine m_retc2 0 hA hS Tryz.results13 rfl rfl rfl Tryz.isAgg24 Tryz.sizeOf24 ?_
                  rw [hF]
                  exact ⟨_, bs, rfl, hH, hS.gr0 (by simp), St.outR (w0 := w0) (X := [_, _, _]) hS (by simp)⟩
                · have hF : oneF H k a' b = change (leadF a' disF) H := by unfold oneF; rw [if_neg h0]; rw [if_neg h1]; rw [if_neg h2]; rw [if_neg h3]; rw [if_neg h4]; rw [if_neg h5]; rw [if_neg h6]; rw [if_neg h7]
                  refine m_skip ?_
                  refine n_block ?_
                  refine m_then ?_
                  refine m_seq ?_
                  refine m_region ?_
                  refine m1 hA hS (Y.loads rfl Tryz.isAgg24 Tryz.sizeOf24 (fun w h => h.cells (i := 2) rfl) rfl) rfl ?_
                  clear hA a; intro a hA
                  refine m1 hA hS (Y.fieldAddr (k := 1) rfl Tryz.underlying36 rfl rfl Tryz.sizeOf3) rfl ?_
                  clear hA a; intro a hA
                  refine m1 hA hS (Y.load rfl Tryz.isAgg3 (fun w h => h.cell (i := 1) rfl rfl)) rfl ?_
                  clear hA a; intro a hA
                  refine m_call hA Tryz.call42 rfl rfl ((disband_f a' H A n c _ (hP.gr (hS.gr0 (by simp)))).mono ?_)
                  rintro e w ⟨pv, bs, rfl, hH, hg1, hf1⟩
                  refine ⟨_, rfl, ?_⟩
                  clear hA a; intro a hA
                  replace hS := hS.freshR hg1 hf1
                  obtain ⟨A', c', rfl⟩ := hH.shape
                  refine m1 hA hS (Y.extract rfl rfl) rfl ?_
                  clear hA a; intro a hA
                  refine m1 hA hS (Y.extract rfl rfl) rfl ?_
                  clear hA a; intro a hA
                  refine m_store 0 hA hS rfl rfl Tryz.sizeOf24 rfl rfl rfl rfl ?_
                  clear hS; intro w hS
                  refine m1 hA hS (Y.assign rfl) rfl ?_
                  clear hA a; intro a hA
                  refine m_nil ?_
                  refine m_then ?_
                  refine m_retc ?_
                  refine m_retc2 0 hA hS Tryz.results13 rfl rfl rfl Tryz.isAgg24 Tryz.sizeOf24 ?_
                  rw [hF]
                  exact ⟨_, bs, rfl, hH, hS.gr0 (by simp), St.outR (w0 := w0) (X := [_, _, _]) hS (by simp)⟩
/-- A party and a bool are given; the party lies in new boxes. -/
def GivesPF (r : Pty × Bool) (w : World) (e : Ending) (w' : World) : Prop :=
  ∃ c bs, e = .returned (.tuple #[.agg c.toArray, .bool r.2]) ∧ PtyB c r.1 bs ∧ Gr w w' ∧ Fresh w.heap.size w' bs
theorem PtyB.none : PtyB [.int .i64 0, .int .i64 0, .slice none 0 0, .slice none 0 0] noPty [] := ⟨_, _, [], [], rfl, RowB.nil _ _, RowB.nil _ _, rfl, by simp [noPty], by simp [noPty]⟩
theorem Fresh.none {b : Nat} {w : World} : Fresh b w [] := ⟨by simp, by simp, by simp⟩
set_option maxRecDepth 100000 in
theorem of_f (who : Int) (H : Hall) (A : Option Addr) (n c : Nat) (w0 : World) (hP : Ptys w0 A n H.ps) :
    Calls Tryz.prog 16 #[.agg #[.int .i64 H.tick, .int .i64 H.last, .slice A n c], .int .i64 who] w0 (GivesPF (ofF who H) w0) := by
  have hl := hP.len
  have hpl := place_le H who
  have hn := hP.le
  refine m_enter Tryz.func16 rfl Tryz.ntmps16 (Nat.le_of_ble_eq_true rfl) ?_
  intro a hA
  have hS := St.start w0
  refine m_seq ?_
  refine m_region ?_
  refine m_box hA hS rfl rfl ?_
  clear hA hS a; intro a b1 w hA hleb1 hgb1 hS
  refine m_alloc hA hS Tryz.zeroValue46 rfl ?_
  clear hA hS a; intro a b2 w hA hleb2 hgb2 hS
  refine m1 hA hS (Y.assign rfl) rfl ?_
  clear hA a; intro a hA
  refine m_nil ?_
  refine m_then ?_
  refine m_seq ?_
  refine m_seq ?_
  refine m_region ?_
  refine m1 hA hS (Y.loads rfl Tryz.isAgg24 Tryz.sizeOf24 (fun w h => h.cells (i := 1) rfl) rfl) rfl ?_
  clear hA a; intro a hA
  refine m_callb hA hS Tryz.call8 rfl rfl (valid_c H A n c _ (hP.gr (hS.gr0 (by simp)))) ?_
  clear hA hS a; intro a w hA hS hg
  refine m1 hA hS (Y.not rfl) rfl ?_
  clear hA a; intro a hA
  refine m_nil ?_
  refine m_then ?_
  refine m_cond hA rfl (fun hc => ?_) (fun hc => ?_)
  · have hval : valid H = false := by simpa using hc
    have hF : ofF who H = (noPty, false) := by unfold ofF; rw [hval]; rfl
    refine m_seq ?_
    refine m_region ?_
    refine m1 hA hS (Y.build rfl (cs := [.int .i64 0, .int .i64 0, .slice none 0 0, .slice none 0 0]) (by kernel_rfl)) rfl ?_
    clear hA a; intro a hA
    refine m_store 0 hA hS rfl rfl Tryz.sizeOf46 rfl rfl rfl rfl ?_
    clear hS; intro w hS
    refine m1 hA hS (Y.assign rfl) rfl ?_
    clear hA a; intro a hA
    refine m_nil ?_
    refine m_then ?_
    refine m_retc ?_
    refine r_then ?_
    refine m_retc2 0 hA hS Tryz.results16 rfl rfl rfl Tryz.isAgg46 Tryz.sizeOf46 ?_
    rw [hF]
    exact ⟨_, _, rfl, PtyB.none, hS.gr0 (by simp), Fresh.none⟩
  · have hval : valid H = true := by simpa using hc
    obtain ⟨_, y2, _⟩ := valid_small hval
    refine m_skip ?_
    refine m_then ?_
    refine m_seq ?_
    refine m_region ?_
    refine m1 hA hS (Y.loads rfl Tryz.isAgg24 Tryz.sizeOf24 (fun w h => h.cells (i := 1) rfl) rfl) rfl ?_
    clear hA a; intro a hA
    refine m_call hA Tryz.call23 rfl rfl ((places_c _ _ _ _ _ H.ps _ (hP.gr (hS.gr0 (by simp)))).mono ?_)
    rintro e w ⟨bm, rfl, him, hg1, hbm⟩
    refine ⟨_, rfl, ?_⟩
    clear hA a; intro a hA
    replace hS := hS.call hg1
    refine m1 hA hS (Y.move rfl) rfl ?_
    clear hA a; intro a hA
    refine m1 hA hS (Y.look Tryz.underlying58 Tryz.underlying3 Tryz.zeroValue3 rfl rfl (fun w h => h.map (by simp) hbm him)) rfl ?_
    clear hA a; intro a hA
    refine m1 hA hS (Y.assign rfl) rfl ?_
    clear hA a; intro a hA
    refine m_nil ?_
    refine m_then ?_
    refine m_seq ?_
    refine m_seq ?_
    refine m_region ?_
    refine m1 hA hS (Y.move rfl) rfl ?_
    clear hA a; intro a hA
    refine m1 hA hS (Y.eqI rfl rfl) rfl ?_
    clear hA a; intro a hA
    refine m_nil ?_
    refine m_then ?_
    replace hS := hS.dropC
    change Fits a _ ((16, .bool (decide (place H who = 0))) :: (15, .int .i64 (place H who)) :: (6, .int .i64 (place H who)) :: _) at hA
    refine m_condP hA rfl (fun h0 => ?_) (fun h0 => ?_)
    · have hF : ofF who H = (noPty, false) := by unfold ofF; rw [if_pos hval, if_pos h0]
      refine m_seq ?_
      refine m_region ?_
      refine m1 hA hS (Y.build rfl (cs := [.int .i64 0, .int .i64 0, .slice none 0 0, .slice none 0 0]) (by kernel_rfl)) rfl ?_
      clear hA a; intro a hA
      refine m_store 0 hA hS rfl rfl Tryz.sizeOf46 rfl rfl rfl rfl ?_
      clear hS; intro w hS
      refine m1 hA hS (Y.assign rfl) rfl ?_
      clear hA a; intro a hA
      refine m_nil ?_
      refine m_then ?_
      refine m_retc ?_
      refine r_then ?_
      refine m_retc2 0 hA hS Tryz.results16 rfl rfl rfl Tryz.isAgg46 Tryz.sizeOf46 ?_
      rw [hF]
      exact ⟨_, _, rfl, PtyB.none, hS.gr0 (by simp), Fresh.none⟩
    · have hpn : ((place H who - 1).toNat : Int) = place H who - 1 := by omega
      have hpi : (place H who - 1).toNat < n := by omega
      obtain ⟨b, o, p, M, m, mc, I, i, ic, rfl, hp, p0, p1, p2, p3, hin⟩ := hP.at hpi
      have hsz := y2 p (List.mem_of_getElem? hp)
      have hF : ofF who H = (p, true) := by unfold ofF; rw [if_pos hval, if_neg h0, hp]
      have hml := hin.mem.len
      have hil := hin.inv.len
      refine m_skip ?_
      refine m_then ?_
      refine m_seq ?_
      refine m_region ?_
      refine m1 hA hS (Y.fieldAddr (k := 2) rfl Tryz.underlying24 rfl rfl Tryz.sizeOf22) rfl ?_
      clear hA a; intro a hA
      refine m1 hA hS (Y.load rfl Tryz.isAgg22 (fun w h => h.cell (i := 1) rfl rfl)) rfl ?_
      clear hA a; intro a hA
      refine m1 hA hS (Y.move rfl) rfl ?_
      clear hA a; intro a hA
      refine m1 hA hS (Y.subI rfl rfl (by omega)) rfl ?_
      clear hA a; intro a hA
      refine m1 hA hS (Y.indexAddr rfl rfl Tryz.underlying22 Tryz.sizeOf46 (by omega) (by omega)) rfl ?_
      clear hA a; intro a hA
      refine m1 hA hS (Y.loads rfl Tryz.isAgg46 Tryz.sizeOf46 (fun w h => h.rds (by simp) (Nat.zero_le _) (Cs.four p0 p1 p2 p3)) rfl) rfl ?_
      clear hA a; intro a hA
      refine m_call hA Tryz.call50 rfl rfl ((ptyOwn_c p _ _ _ _ _ _ _ (hin.gr (hS.gr0 (by simp))) (by omega) (by omega)).mono ?_)
      rintro e w ⟨c4, bs, rfl, hc4, hg2, hf2⟩
      refine ⟨_, rfl, ?_⟩
      clear hA a; intro a hA
      have hlo := (hS.gr0 (w0 := w0) (by simp)).size
      replace hS := hS.freshR hg2 hf2
      obtain ⟨M', mc', I', ic', rfl, hin'⟩ := hc4.read hf2
      refine m_store 0 hA hS rfl rfl Tryz.sizeOf46 rfl rfl rfl rfl ?_
      clear hS; intro w hS
      refine m1 hA hS (Y.assign rfl) rfl ?_
      clear hA a; intro a hA
      refine m_nil ?_
      refine m_then ?_
      refine m_retc ?_
      refine m_retc2 0 hA hS Tryz.results16 rfl rfl rfl Tryz.isAgg46 Tryz.sizeOf46 ?_
      rw [hF]
      exact ⟨_, bs, rfl, hc4, hS.gr0 (by simp), St.outR (w0 := w0) (X := [_, _]) hS (by simp)⟩
end Go.Proofs.YtljkhijdaaconaaGreat
