/- Contracts of the reference of chapter 36: Of, Share; the law's `same`. -/
import Derived.Test.YtljkhijdaaconaaGreatRef8
import Derived.Test.YtljkhijdaaconaaGreatEng3
import Derived.Test.YtljkhijdaaconaaGreatShare
set_option linter.unusedVariables false
set_option linter.unusedSectionVars false
namespace Go.Proofs.YtljkhijdaaconaaGreat
open Go.RowKit

/-- A party and a bool are given; the party's rows lie in blocks of which K is true. -/
def GivesPK (r : Pty × Bool) (K : Nat → Prop) (w : World) (e : Ending) (w' : World) : Prop :=
  ∃ M m mc I i ic, e = .returned (.tuple #[.agg #[.int .i64 r.1.id, .int .i64 r.1.leader, .slice M m mc, .slice I i ic], .bool r.2]) ∧ Gr w w' ∧ PtyInK K w' M m I i r.1
theorem ofF_neg {H : Hall} {who : Int} (hv : valid H = true) (h : idxF (hasM who) 0 H.ps < 0) : ofF who H = (noPty, false) := by
  have h1 := find_place (valid_iff.1 hv) who
  have h2 := place_nn H who
  unfold ofF
  rw [if_pos hv, if_pos (by omega)]
theorem ofF_at {H : Hall} {who : Int} (hv : valid H = true) {j : Nat} {p : Pty} (h : idxF (hasM who) 0 H.ps = (j : Int)) (hp : H.ps[j]? = some p) : ofF who H = (p, true) := by
  have h1 := find_place (valid_iff.1 hv) who
  unfold ofF
  rw [if_pos hv, if_neg (by omega), show (place H who - 1).toNat = j from by omega, hp]
set_option maxRecDepth 100000 in
set_option maxHeartbeats 1000000 in
theorem refOf_c (K : Nat → Prop) (who : Int) (H : Hall) (A : Option Addr) (n c : Nat) (w0 : World) (hP : PtysK K w0 A n H.ps) (hq : ∀ p ∈ H.ps, p.mem.length ≤ 100 ∧ p.inv.length ≤ 100) :
    Calls Tryz.prog 32 #[.agg #[.int .i64 H.tick, .int .i64 H.last, .slice A n c], .int .i64 who] w0 (GivesPK (ofF who H) K w0) := by
  have hl : H.ps.length = n := hP.len
  have hPl := hP.lt
  have hge := idxF_ge (hasM who) H.ps 0
  refine m_enter Tryz.func32 rfl Tryz.ntmps32 (Nat.le_of_ble_eq_true rfl) ?_
  intro a hA
  have hS := St.start w0
  refine m_seq ?_
  refine m_region ?_
  refine m_box hA hS rfl rfl ?_
  clear hA hS a; intro a b1 w hA hleb1 hgb1 hS
  refine m_alloc hA hS Tryz.zeroValue43 rfl ?_
  clear hA hS a; intro a b2 w hA hleb2 hgb2 hS
  refine m1 hA hS (Y.assign rfl) rfl ?_
  clear hA a; intro a hA
  refine m_nil ?_
  refine m_then ?_
  refine m_seq ?_
  refine m_seq ?_
  refine m_region ?_
  refine m1 hA hS (Y.loads rfl Tryz.isAgg30 Tryz.sizeOf30 (fun w h => h.cells (i := 1) rfl) rfl) rfl ?_
  clear hA a; intro a hA
  refine m_callb hA hS Tryz.call9 rfl rfl (refValid_c H A n c _ (hP.z.gr (hS.gr0 (by simp))) hq) ?_
  clear hA hS a; intro a w hA hS hg
  rcases hv : valid H with _ | _
  · have hF : ofF who H = (noPty, false) := by unfold ofF; rw [hv]; rfl
    rw [hv] at hA
    refine m1 hA hS (Y.not rfl) rfl ?_
    clear hA a; intro a hA
    refine m1 hA hS (Y.move rfl) rfl ?_
    clear hA a; intro a hA
    refine m1s hA (dj := 9) rfl rfl rfl rfl rfl ?_
    clear hA a; intro a hA
    refine m1s hA (dj := 9) rfl rfl rfl rfl rfl ?_
    clear hA a; intro a hA
    refine m1s hA (dj := 9) rfl rfl rfl rfl rfl ?_
    clear hA a; intro a hA
    refine m1s hA (dj := 9) rfl rfl rfl rfl rfl ?_
    clear hA a; intro a hA
    refine m1 hA hS (Y.pickT' rfl rfl rfl) rfl ?_
    clear hA a; intro a hA
    refine m_nil ?_
    refine m_then ?_
    refine m_condT hA rfl (rfl) ?_
    refine m_seq ?_
    refine m_region ?_
    refine m1 hA hS (Y.build (vs := []) (cs := [.int .i64 0, .int .i64 0, .slice none 0 0, .slice none 0 0]) rfl (by kernel_rfl)) rfl ?_
    clear hA a; intro a hA
    refine m_store 0 hA hS rfl rfl Tryz.sizeOf43 rfl rfl rfl rfl ?_
    clear hS; intro w hS
    refine m1 hA hS (Y.assign rfl) rfl ?_
    clear hA a; intro a hA
    refine m_nil ?_
    refine m_then ?_
    refine m_retc ?_
    refine r_then ?_
    refine m_retc2 0 hA hS Tryz.results32 rfl rfl rfl Tryz.isAgg43 Tryz.sizeOf43 ?_
    rw [hF]
    exact ⟨_, _, _, _, _, _, rfl, hS.gr0 (by simp), PtyInK.none⟩
  · rw [hv] at hA
    refine m1 hA hS (Y.not rfl) rfl ?_
    clear hA a; intro a hA
    refine m1 hA hS (Y.move rfl) rfl ?_
    clear hA a; intro a hA
    refine m1g hA hS (dj := 9) rfl rfl rfl rfl (Y.loads rfl Tryz.isAgg30 Tryz.sizeOf30 (fun w h => h.cells (i := 1) rfl) rfl) rfl ?_
    clear hA a; intro a hA
    refine m1g hA hS (dj := 9) rfl rfl rfl rfl (Y.move rfl) rfl ?_
    clear hA a; intro a hA
    refine m_callbg (dj := 9) hA hS rfl rfl rfl rfl Tryz.call75 rfl rfl (refFind_c who H A n c _ (hP.z.gr (hS.gr0 (by simp)))) ?_
    clear hA hS a; intro a w hA hS hg
    refine m1g hA hS (dj := 9) rfl rfl rfl rfl (Y.ltI rfl rfl) rfl ?_
    clear hA a; intro a hA
    refine m1 hA hS (Y.pickF' rfl rfl rfl) rfl ?_
    clear hA a; intro a hA
    refine m_nil ?_
    refine m_then ?_
    by_cases hneg : idxF (hasM who) 0 H.ps < 0
    · refine m_condT hA rfl ((by simp [hneg])) ?_
      have hF := ofF_neg hv hneg
      refine m_seq ?_
      refine m_region ?_
      refine m1 hA hS (Y.build (vs := []) (cs := [.int .i64 0, .int .i64 0, .slice none 0 0, .slice none 0 0]) rfl (by kernel_rfl)) rfl ?_
      clear hA a; intro a hA
      refine m_store 0 hA hS rfl rfl Tryz.sizeOf43 rfl rfl rfl rfl ?_
      clear hS; intro w hS
      refine m1 hA hS (Y.assign rfl) rfl ?_
      clear hA a; intro a hA
      refine m_nil ?_
      refine m_then ?_
      refine m_retc ?_
      refine r_then ?_
      refine m_retc2 0 hA hS Tryz.results32 rfl rfl rfl Tryz.isAgg43 Tryz.sizeOf43 ?_
      rw [hF]
      exact ⟨_, _, _, _, _, _, rfl, hS.gr0 (by simp), PtyInK.none⟩
    · refine m_condF hA rfl ((by simp [hneg])) ?_
      rcases idxF_spec (hasM who) H.ps 0 with ⟨h1, _⟩ | ⟨j, p, h1, h2, _⟩
      · exact absurd h1 hneg
      rw [Nat.zero_add] at h2
      have hjl := (List.getElem?_eq_some_iff.1 h1).1
      have hF := ofF_at hv h2 h1
      obtain ⟨bb, o, p', M, m, mc, I, i, ic, rfl, hKb, hp', p0, p1, p2, p3, hin⟩ := hP.at (j := j) (by omega)
      rw [h1] at hp'
      obtain rfl := Option.some.inj hp'
      refine m_skip ?_
      refine m_then ?_
      refine m_seq ?_
      refine d_regionS [1, 2] [0, 1, 2, 3, 5, 8] hS rfl 9 [false, false, false, false, false, false, false, false, false] rfl rfl ?_
      clear hS; intro w hS _
      have hQ := hS
      refine d_take 0 (bs' := [true, false, false, false, false, false, false, false, false]) hA rfl rfl (by kernel_rfl) (fun _ _ _ h => h) (Y.fieldAddr (k := 2) rfl Tryz.underlying30 rfl rfl Tryz.sizeOf28) rfl ?_
      clear hA a; intro a hA
      refine d_load 1 (bs' := [true, true, false, false, false, false, false, false, false]) hA hQ rfl rfl rfl (by kernel_rfl) (fun _ _ _ h => h) (Y.load rfl Tryz.isAgg28 (fun w h => h.cell (i := 1) rfl rfl)) rfl ?_
      clear hA a; intro a hA
      refine d_load 2 (bs' := [true, true, true, false, false, false, false, false, false]) hA hQ rfl rfl rfl (by kernel_rfl) (fun _ _ _ h => h) (Y.loads rfl Tryz.isAgg30 Tryz.sizeOf30 (fun w h => h.cells (i := 1) rfl) rfl) rfl ?_
      clear hA a; intro a hA
      refine d_take 3 (bs' := [true, true, true, true, false, false, false, false, false]) hA rfl rfl (by kernel_rfl) (fun _ _ _ h => h) (Y.move rfl) rfl ?_
      clear hA a; intro a hA
      refine d_one 4 (bs' := [true, true, true, true, true, false, false, false, false]) true rfl (by kernel_rfl) ?_
      refine m_callb hA hS Tryz.call75 rfl rfl (refFind_c who H _ n c _ (hP.z.gr (hS.gr0 (by simp)))) ?_
      clear hA hS a; intro a w hA hS hg
      replace hQ := hQ.gr hg
      rw [h2] at hA
      refine m_nil (m_then ⟨fun _ => hQ, ?_⟩)
      refine d_take 5 (bs' := [true, true, true, true, true, true, false, false, false]) hA rfl rfl (by kernel_rfl) (fun _ _ _ h => h) (Y.indexAddrN rfl rfl Tryz.underlying28 Tryz.sizeOf43 (by omega)) rfl ?_
      clear hA a; intro a hA
      refine d_one 6 (bs' := [true, true, true, true, true, true, true, false, false]) true rfl (by kernel_rfl) ?_
      refine m1 hA hS (Y.loads rfl Tryz.isAgg43 Tryz.sizeOf43 (fun w h => h.rds (by simp) (Nat.zero_le _) (Cs.four p0 p1 p2 p3)) rfl) rfl ?_
      clear hA a; intro a hA
      refine m_nil (m_then ⟨fun _ => hQ, ?_⟩)
      refine d_one 7 (bs' := [true, true, true, true, true, true, true, true, false]) false rfl (by kernel_rfl) ?_
      refine m_store 0 hA hS rfl rfl Tryz.sizeOf43 rfl rfl rfl rfl ?_
      clear hS; intro w hS
      refine m_nil (m_then ⟨fun h => (by cases h), ?_⟩)
      refine d_take 8 (bs' := [true, true, true, true, true, true, true, true, true]) hA rfl rfl (by kernel_rfl) (fun _ _ _ h => h) (Y.assign rfl) rfl ?_
      clear hA a; intro a hA
      refine d_done (by kernel_rfl) ?_
      refine m_then ?_
      refine m_retc ?_
      refine m_retc2 0 hA hS Tryz.results32 rfl rfl rfl Tryz.isAgg43 Tryz.sizeOf43 ?_
      rw [hF]
      exact ⟨_, _, _, _, _, _, rfl, hS.gr0 (by simp), hin.mv (fun _ h => h) ((hS.gr0 (w0 := w0) (by simp)).keeps K)⟩
/-- One share after the other. -/
theorem share_step {q L : Int} {r m k N : Nat} (hq : 0 ≤ q) (hr : r < m) (hk : k < m) (hN : N = m - k) (hL : L = q * (N : Int) + ((r - k : Nat) : Int)) :
    (L + (N : Int) - 1).tdiv (N : Int) = (if k < r then q + 1 else q) ∧ L - (if k < r then q + 1 else q) = q * ((m - (k + 1) : Nat) : Int) + ((r - (k + 1) : Nat) : Int) ∧ 0 ≤ L - (if k < r then q + 1 else q) ∧ 0 ≤ L := by
  obtain ⟨N', rfl⟩ : ∃ N', N = N' + 1 := ⟨N - 1, by omega⟩
  have hm : m - (k + 1) = N' := by omega
  have hqN : 0 ≤ q * (N' : Int) := Int.mul_nonneg hq (Int.natCast_nonneg _)
  have hL' : L = q * (N' : Int) + q + ((r - k : Nat) : Int) := by rw [hL]; push_cast; rw [Int.mul_add]; omega
  have hL0 : 0 ≤ L := by omega
  rw [hm]
  have hc : (((N' + 1 : Nat)) : Int) ≠ 0 := by omega
  rw [Int.tdiv_eq_ediv_of_nonneg (by omega)]
  by_cases h : k < r
  · rw [if_pos h]
    have e : L + ((N' + 1 : Nat) : Int) - 1 = ((r - k - 1 : Nat) : Int) + (q + 1) * ((N' + 1 : Nat) : Int) := by
      rw [hL, Int.add_mul]; omega
    refine ⟨?_, by omega, by omega, hL0⟩
    rw [e, Int.add_mul_ediv_right _ _ hc, Int.ediv_eq_zero_of_lt (by omega) (by omega)]; omega
  · rw [if_neg h]
    have e : L + ((N' + 1 : Nat) : Int) - 1 = (N' : Int) + q * ((N' + 1 : Nat) : Int) := by
      rw [hL]; omega
    refine ⟨?_, by omega, by omega, hL0⟩
    rw [e, Int.add_mul_ediv_right _ _ hc, Int.ediv_eq_zero_of_lt (by omega) (by omega)]; omega
theorem shareL_len {a : Int} {m : Nat} (h0 : 0 ≤ a) (hm : 1 ≤ m) : (shareL a m).length = m := by
  have h1 : a.tmod m < m := Int.tmod_lt_of_pos _ (by omega)
  unfold shareL; simp; omega
theorem shareL_at {a : Int} {m k : Nat} (h0 : 0 ≤ a) (hm : 1 ≤ m) (hk : k < m) : (shareL a m)[k]? = some (if k < (a.tmod m).toNat then a.tdiv m + 1 else a.tdiv m) := by
  have h1 : a.tmod m < m := Int.tmod_lt_of_pos _ (by omega)
  unfold shareL
  by_cases h : k < (a.tmod m).toNat
  · rw [if_pos h, List.getElem?_append_left (by simpa using h), List.getElem?_replicate, if_pos h]
  · rw [if_neg h, List.getElem?_append_right (by simp; omega), List.length_replicate, List.getElem?_replicate, if_pos (by omega)]
set_option maxRecDepth 100000 in
set_option maxHeartbeats 1000000 in
theorem refShare_c (id amount : Int) (H : Hall) (A : Option Addr) (n c : Nat) (w0 : World) (hP : Ptys w0 A n H.ps) (hq : ∀ p ∈ H.ps, p.mem.length ≤ 100 ∧ p.inv.length ≤ 100) :
    Calls Tryz.prog 33 #[.agg #[.int .i64 H.tick, .int .i64 H.last, .slice A n c], .int .i64 id, .int .i64 amount] w0 (GivesL (shareF id amount H) w0) := by
  have hl : H.ps.length = n := hP.len
  have hn := hP.le
  refine m_enter Tryz.func33 rfl Tryz.ntmps33 (Nat.le_of_ble_eq_true rfl) ?_
  intro a hA
  have hS := St.start w0
  refine m_seq ?_
  refine m_region ?_
  refine m_box hA hS rfl rfl ?_
  clear hA hS a; intro a b1 w hA hleb1 hgb1 hS
  refine m1 hA hS (Y.assign rfl) rfl ?_
  clear hA a; intro a hA
  refine m1 hA hS (Y.assign rfl) rfl ?_
  clear hA a; intro a hA
  refine m_nil ?_
  refine m_then ?_
  refine m_seq ?_
  refine m_seq ?_
  refine m_region ?_
  refine m1 hA hS (Y.loads rfl Tryz.isAgg30 Tryz.sizeOf30 (fun w h => h.cells (i := 0) rfl) rfl) rfl ?_
  clear hA a; intro a hA
  refine m_callb hA hS Tryz.call9 rfl rfl (refValid_c H A n c _ (hP.gr (hS.gr0 (by simp))) hq) ?_
  clear hA hS a; intro a w hA hS hg
  refine m1 hA hS (Y.not rfl) rfl ?_
  clear hA a; intro a hA
  refine m_nil ?_
  refine m_then ?_
  refine m_cond hA rfl (fun hc => ?_) (fun hc => ?_)
  · have hval : valid H = false := by simpa using hc
    have hF : shareF id amount H = ([], 2) := by unfold shareF; rw [hval]; rfl
    refine m_seq ?_
    refine m_region ?_
    refine m1 hA hS (Y.assign rfl) rfl ?_
    clear hA a; intro a hA
    refine m1 hA hS (Y.assign rfl) rfl ?_
    clear hA a; intro a hA
    refine m_nil ?_
    refine m_then ?_
    refine m_retc ?_
    refine r_then ?_
    refine m_ret2 hA Tryz.results33 rfl rfl ?_
    rw [hF]
    exact ⟨_, _, _, rfl, hS.gr0 (by simp), RowOf.nil⟩
  · have hval : valid H = true := by simpa using hc
    obtain ⟨_, y2, _⟩ := valid_small hval
    refine m_skip ?_
    refine m_then ?_
    refine m_seq ?_
    refine m_seq ?_
    refine m_region ?_
    refine m1 hA hS (Y.assign rfl) rfl ?_
    clear hA a; intro a hA
    refine m_nil ?_
    refine m_then ?_
    refine m_block ?_
    -- LOST [7, 6]
    refine m_loopX [3, 1, 2] rfl hA ((0 : Nat)) (fun x => [(8, .int .i64 (x : Int))]) (fun _ => _) (fun _ => _) (fun x => x ≤ n ∧ NoneTo (fun p : Pty => decide (p.id = id)) H.ps x) (fun x => n - x) (ks := [8]) rfl hS (⟨Nat.zero_le _, NoneTo.zero _ _⟩) ?_
    clear hA hS a; rintro j a w hA hS hj
    try dsimp only at hA
    try dsimp only at hS
    try dsimp only at hj
    obtain ⟨hj, hno⟩ := hj
    replace hA := hA.keep [8, 3, 1, 2] rfl
    refine m_seq ?_
    refine m_seq ?_
    refine m_region ?_
    refine m1 hA hS (Y.move rfl) rfl ?_
    clear hA a; intro a hA
    refine m1 hA hS (Y.fieldAddr (k := 2) rfl Tryz.underlying30 rfl rfl Tryz.sizeOf28) rfl ?_
    clear hA a; intro a hA
    refine m1 hA hS (Y.load rfl Tryz.isAgg28 (fun w h => h.cell (i := 0) rfl rfl)) rfl ?_
    clear hA a; intro a hA
    refine m1 hA hS (Y.lenSl rfl Tryz.underlying28) rfl ?_
    clear hA a; intro a hA
    refine m1 hA hS (Y.ltI rfl rfl) rfl ?_
    clear hA a; intro a hA
    refine m_nil ?_
    refine m_then ?_
    refine m_condP hA rfl (fun hlt => ?_) (fun hlt => ?_)
    · obtain ⟨bb, o, p, M, m, mc, I, i, ic, rfl, hp, p0, p1, p2, p3, hin⟩ := hP.at (j := j) (by omega)
      have hsz := y2 p (List.mem_of_getElem? hp)
      have hml : p.mem.length = m := hin.mem.len
      refine m_skip ?_
      refine m_then ?_
      refine m_seq ?_
      refine m_block ?_
      refine m_seq ?_
      refine m_seq ?_
      refine m_region ?_
      refine m1 hA hS (Y.fieldAddr (k := 2) rfl Tryz.underlying30 rfl rfl Tryz.sizeOf28) rfl ?_
      clear hA a; intro a hA
      refine m1 hA hS (Y.load rfl Tryz.isAgg28 (fun w h => h.cell (i := 0) rfl rfl)) rfl ?_
      clear hA a; intro a hA
      refine m1 hA hS (Y.move rfl) rfl ?_
      clear hA a; intro a hA
      refine m1 hA hS (Y.indexAddrN rfl rfl Tryz.underlying28 Tryz.sizeOf43 (by omega)) rfl ?_
      clear hA a; intro a hA
      refine m1 hA hS (Y.fieldAddr (k := 0) rfl Tryz.underlying43 rfl rfl Tryz.sizeOf3) rfl ?_
      clear hA a; intro a hA
      refine m1 hA hS (Y.load rfl Tryz.isAgg3 (fun w h => h.rd (by simp) (Nat.zero_le _) (p0))) rfl ?_
      clear hA a; intro a hA
      refine m1 hA hS (Y.move rfl) rfl ?_
      clear hA a; intro a hA
      refine m1 hA hS (Y.neI rfl rfl) rfl ?_
      clear hA a; intro a hA
      refine m_nil ?_
      refine m_then ?_
      refine m_condP hA rfl (fun hne => ?_) (fun hne => ?_)
      · refine m_exit ?_
        refine x_then ?_
        refine x_block ?_
        refine m_then ?_
        refine m_region ?_
        refine m1 hA hS (Y.move rfl) rfl ?_
        clear hA a; intro a hA
        refine m1 hA hS (Y.addI rfl rfl (by omega)) rfl ?_
        clear hA a; intro a hA
        refine m1 hA hS (Y.assign rfl) rfl ?_
        clear hA a; intro a hA
        refine m_nil ?_
        exact m_then ⟨j + 1, by (try dsimp only); omega, hA.keep [8, 3, 1, 2] rfl, hS, by (try dsimp only); exact ⟨by omega, hno.step hp (by simpa using hne)⟩⟩
      · have hpi : p.id = id := Decidable.not_not.1 hne
        have hfind : findF id H.ps = (p, true) := by
          unfold findF
          rw [split_at hp, List.find?_append, List.find?_eq_none.2 (fun q hq => by
            obtain ⟨k, hk⟩ := List.mem_iff_getElem?.1 hq
            have hkl := (List.getElem?_eq_some_iff.1 hk).1
            rw [List.getElem?_take, if_pos (by rw [List.length_take] at hkl; omega)] at hk
            have := hno k q (by rw [List.length_take] at hkl; omega) hk
            simpa using this)]
          simp [hpi]
        refine m_skip ?_
        refine m_then ?_
        refine m_seq ?_
        refine m_seq ?_
        refine m_region ?_
        refine m1 hA hS (Y.move rfl) rfl ?_
        clear hA a; intro a hA
        refine m1 hA hS (Y.ltI rfl rfl) rfl ?_
        clear hA a; intro a hA
        refine m1 hA hS (Y.move rfl) rfl ?_
        clear hA a; intro a hA
        replace hA := hA.keep [33, 8, 3, 1, 2] rfl
        apply m_or 3 36 33 hA hS rfl
        · intro hp1
          refine m1s hA (dj := 33) rfl rfl rfl hp1 rfl ?_
          intro a hA
          refine m1s hA (dj := 33) rfl rfl rfl hp1 rfl ?_
          clear hA a; intro a hA
          refine m1 hA hS (Y.pickT' rfl hp1 rfl) rfl ?_
          clear hA a; intro a hA
          exact m_nil (m_then ⟨hA.keep [36, 33, 8, 3, 1, 2] rfl, hS⟩)
        · intro hp1
          refine m1g hA hS (dj := 33) rfl rfl rfl hp1 (Y.move rfl) rfl ?_
          intro a hA
          refine m1g hA hS (dj := 33) rfl rfl rfl hp1 (Y.gtI rfl rfl) rfl ?_
          clear hA a; intro a hA
          refine m1 hA hS (Y.pickF' rfl hp1 rfl) rfl ?_
          clear hA a; intro a hA
          exact m_nil (m_then ⟨hA.keep [36, 33, 8, 3, 1, 2] rfl, hS⟩)
        · clear hA hS a; intro a w hA hS
          refine m_nil ?_
          refine m_then ?_
          refine m_cond hA rfl (fun hc2 => ?_) (fun hc2 => ?_)
          · simp only [Bool.or_eq_true, decide_eq_true_eq] at hc2
            have hF : shareF id amount H = ([], 2) := by unfold shareF; rw [if_pos hval, hfind]; simp only; rw [if_pos hc2]
            refine m_seq ?_
            refine m_region ?_
            refine m1 hA hS (Y.assign rfl) rfl ?_
            clear hA a; intro a hA
            refine m1 hA hS (Y.assign rfl) rfl ?_
            clear hA a; intro a hA
            refine m_nil ?_
            refine m_then ?_
            refine m_retc ?_
            refine r_then ?_
            refine r_block ?_
            refine r_then ?_
            refine r_then ?_
            refine r_block ?_
            refine r_then ?_
            refine m_ret2 hA Tryz.results33 rfl rfl ?_
            rw [hF]
            exact ⟨_, _, _, rfl, hS.gr0 (by simp), RowOf.nil⟩
          · simp only [Bool.or_eq_false_iff, decide_eq_false_iff_not] at hc2
            have hF : shareF id amount H = (shareL amount p.mem.length, 0) := by unfold shareF; rw [if_pos hval, hfind]; simp only; rw [if_neg (by omega)]
            have hm1 : 1 ≤ m := by
              have := valid_pos hval p (List.mem_of_getElem? hp)
              omega
            have hm5 : m ≤ 5 := by omega
            have hd0 : 0 ≤ amount.tdiv m := Int.tdiv_nonneg (by omega) (by omega)
            have ht0 : 0 ≤ amount.tmod m := Int.tmod_nonneg _ (by omega)
            have ht1 : amount.tmod m < m := Int.tmod_lt_of_pos _ (by omega)
            have hdm := Int.tdiv_mul_add_tmod amount (m : Int)
            refine m_skip ?_
            refine m_then ?_
            refine m_seq ?_
            refine m_region ?_
            refine m1 hA hS (Y.assign rfl) rfl ?_
            clear hA a; intro a hA
            refine m_nil ?_
            refine m_then ?_
            refine m_seq ?_
            refine m_region ?_
            refine m1 hA hS (Y.move rfl) rfl ?_
            clear hA a; intro a hA
            refine m1 hA hS (Y.assign rfl) rfl ?_
            clear hA a; intro a hA
            refine m_nil ?_
            refine m_then ?_
            refine m_seq ?_
            refine m_seq ?_
            refine m_region ?_
            refine m1 hA hS (Y.fieldAddr (k := 2) rfl Tryz.underlying30 rfl rfl Tryz.sizeOf28) rfl ?_
            clear hA a; intro a hA
            refine m1 hA hS (Y.load rfl Tryz.isAgg28 (fun w h => h.cell (i := 0) rfl rfl)) rfl ?_
            clear hA a; intro a hA
            refine m1 hA hS (Y.move rfl) rfl ?_
            clear hA a; intro a hA
            refine m1 hA hS (Y.indexAddrN rfl rfl Tryz.underlying28 Tryz.sizeOf43 (by omega)) rfl ?_
            clear hA a; intro a hA
            refine m1 hA hS (Y.fieldAddr (k := 2) rfl Tryz.underlying43 rfl rfl Tryz.sizeOf38) rfl ?_
            clear hA a; intro a hA
            refine m1 hA hS (Y.load rfl Tryz.isAgg38 (fun w h => h.rd (by simp) (Nat.zero_le _) (p2))) rfl ?_
            clear hA a; intro a hA
            refine m1 hA hS (Y.lenSl rfl Tryz.underlying38) rfl ?_
            clear hA a; intro a hA
            refine m1 hA hS (Y.assign rfl) rfl ?_
            clear hA a; intro a hA
            refine m_nil ?_
            refine m_then ?_
            refine m_block ?_
            obtain ⟨q, hqq⟩ : ∃ q : Int, q = amount.tdiv m := ⟨_, rfl⟩
            obtain ⟨r, hr⟩ : ∃ r : Nat, r = (amount.tmod m).toNat := ⟨_, rfl⟩
            have hL0 : amount = q * (m : Int) + ((r - 0 : Nat) : Int) := by rw [hqq]; omega
            have hrm : r < m := by omega
            rw [← hqq] at hd0
            have hb0 : 0 ≤ amount := by omega
            have hb1 : amount ≤ 1099511627776 := by omega
            refine m_loopX [8, 3, 1, 2] rfl hA (((0 : Nat), amount, m, Value.slice none 0 0, ([] : List Bx))) (fun x => [(9, x.2.2.2.1), (10, .int .i64 x.2.1), (11, .int .i64 (x.2.2.1 : Int))]) (fun x => [cB b1 [.int .i64 H.tick, .int .i64 H.last, .slice (some ⟨bb, o, none⟩) n c] 30] ++ x.2.2.2.2) (fun _ => [(0, w0)]) (fun x => x.1 ≤ m ∧ x.2.2.1 = m - x.1 ∧ x.2.1 = q * (x.2.2.1 : Int) + ((r - x.1 : Nat) : Int) ∧ 0 ≤ x.2.1 ∧ x.2.1 ≤ 1099511627776 ∧ RowB 3 1 x.2.2.2.1 x.1 (((shareL amount m).take x.1).map (Value.int .i64)) x.2.2.2.2) (fun x => x.2.2.1) (ks := [9, 10, 11]) rfl hS (⟨Nat.zero_le _, rfl, hL0, hb0, hb1, RowB.nil _ _⟩) ?_
            clear hA hS a; rintro ⟨k, left, nn, lv, bl⟩ a w hA hS hj
            try dsimp only at hA
            try dsimp only at hS
            try dsimp only at hj
            obtain ⟨hk, hnn, hleft, hlf0, hlf1, hrow⟩ := hj
            replace hA := hA.keep [9, 10, 11, 8, 3, 1, 2] rfl
            refine m_seq ?_
            refine m_seq ?_
            refine m_region ?_
            refine m1 hA hS (Y.move rfl) rfl ?_
            clear hA a; intro a hA
            refine m1 hA hS (Y.gtI rfl rfl) rfl ?_
            clear hA a; intro a hA
            refine m_nil ?_
            refine m_then ?_
            refine m_condP hA rfl (fun hgt => ?_) (fun hgt => ?_)
            · obtain ⟨s1, s2, s3, s4⟩ := share_step (L := left) hd0 hrm (by omega : k < m) hnn hleft
              have hat : (shareL amount m)[k]? = some (if k < r then q + 1 else q) := by rw [hr, hqq]; exact shareL_at (by omega) hm1 (by omega)
              obtain ⟨one, hone⟩ : ∃ one : Int, one = (if k < r then q + 1 else q) := ⟨_, rfl⟩
              rw [← hone] at s1 s2 s3 hat
              have ho0 : 0 ≤ one := by rw [hone]; split <;> omega
              obtain ⟨Aq, cq, rfl⟩ := hrow.shape
              refine m_skip ?_
              refine m_then ?_
              refine m_seq ?_
              refine m_block ?_
              refine m_seq ?_
              refine m_region ?_
              refine m1 hA hS (Y.move rfl) rfl ?_
              clear hA a; intro a hA
              refine m1 hA hS (Y.move rfl) rfl ?_
              clear hA a; intro a hA
              refine m1 hA hS (Y.addI rfl rfl (by omega)) rfl ?_
              clear hA a; intro a hA
              refine m1 hA hS (Y.subI rfl rfl (by omega)) rfl ?_
              clear hA a; intro a hA
              refine m1 hA hS (Y.move rfl) rfl ?_
              clear hA a; intro a hA
              refine m1 hA hS (Y.quoI rfl rfl (by omega) (by omega) (by omega)) rfl ?_
              clear hA a; intro a hA
              refine m1 hA hS (Y.assign rfl) rfl ?_
              clear hA a; intro a hA
              refine m_nil ?_
              refine m_then ?_
              refine m_seq ?_
              refine m_region ?_
              refine m1 hA hS (Y.move rfl) rfl ?_
              clear hA a; intro a hA
              refine m1 hA hS (Y.move rfl) rfl ?_
              clear hA a; intro a hA
              rw [s1] at hA
              refine m_buildSlice ([.int .i64 one]) hA hS rfl rfl (bs_int _) ?_
              clear hA hS a; intro a b2 w hA hgb2 hS
              have hSp : St w (bl ++ ([cB b2 [.int .i64 one] 3, cB b1 [.int .i64 H.tick, .int .i64 H.last, .slice (some ⟨bb, o, none⟩) n c] 30])) [(0, w0)] := hS.perm (List.perm_append_comm (l₁ := [_, _]))
              refine m_append (bs := bl) 3 8 [.int .i64 one] elemInt hA hSp hrow rfl rfl rfl Tryz.underlying38 rfl (hS.cells (i := 0) rfl) (List.all_eq_true.1 rfl) (by omega) (by decide) ?_
              clear hA hS hSp a; intro a w lv2 bl2 hA hrow2 _ hS
              replace hS : St w ([cB b1 [.int .i64 H.tick, .int .i64 H.last, .slice (some ⟨bb, o, none⟩) n c] 30] ++ bl2) [(0, w0)] := (hS.perm (List.perm_append_comm (l₂ := [_, _]))).gone
              have hrow2' : RowB 3 1 lv2 (k + 1) (((shareL amount m).take (k + 1)).map (Value.int .i64)) bl2 := by
                rw [take_at hat, List.map_append]
                exact hrow2
              refine m1 hA hS (Y.assign rfl) rfl ?_
              clear hA a; intro a hA
              refine m_nil ?_
              refine m_then ?_
              refine m_region ?_
              refine m1 hA hS (Y.move rfl) rfl ?_
              clear hA a; intro a hA
              refine m1 hA hS (Y.move rfl) rfl ?_
              clear hA a; intro a hA
              refine m1 hA hS (Y.subI rfl rfl (by omega)) rfl ?_
              clear hA a; intro a hA
              refine m1 hA hS (Y.assign rfl) rfl ?_
              clear hA a; intro a hA
              refine m_nil ?_
              refine n_block ?_
              refine m_then ?_
              refine m_region ?_
              refine m1 hA hS (Y.move rfl) rfl ?_
              clear hA a; intro a hA
              refine m1 hA hS (Y.subI rfl rfl (by omega)) rfl ?_
              clear hA a; intro a hA
              refine m1 hA hS (Y.assign rfl) rfl ?_
              clear hA a; intro a hA
              refine m_nil ?_
              have hnn2 : ((nn : Int) - 1) = ((nn - 1 : Nat) : Int) := by omega
              rw [hnn2] at hA
              exact m_then ⟨(k + 1, left - one, nn - 1, lv2, bl2), by (try dsimp only); omega, hA.keep [9, 10, 11, 8, 3, 1, 2] rfl, hS, by (try dsimp only); exact ⟨by omega, by omega, by rw [s2, show nn - 1 = m - (k + 1) from by omega], s3, by omega, hrow2'⟩⟩
            · have hkm : k = m := by omega
              subst hkm
              refine m_exit ?_
              refine x_then ?_
              refine x_then ?_
              refine x_block ?_
              refine m_then ?_
              refine m_seq ?_
              refine m_region ?_
              refine m1 hA hS (Y.move rfl) rfl ?_
              clear hA a; intro a hA
              refine m1 hA hS (Y.assign rfl) rfl ?_
              clear hA a; intro a hA
              refine m1 hA hS (Y.assign rfl) rfl ?_
              clear hA a; intro a hA
              refine m_nil ?_
              refine m_then ?_
              refine m_retc ?_
              refine r_block ?_
              refine r_then ?_
              refine r_then ?_
              refine r_block ?_
              refine r_then ?_
              refine m_ret2 hA Tryz.results33 rfl rfl ?_
              rw [List.take_of_length_le (by rw [shareL_len (by omega) hm1]; exact Nat.le_refl _)] at hrow
              obtain ⟨A', c', rfl, hR⟩ := IntsB.read (base := w0.heap.size) (xs := shareL amount k) (by rw [IntsB, shareL_len (by omega) hm1]; exact hrow) (St.outR (w0 := w0) (X := [_]) hS (by simp)) (by rw [shareL_len (by omega) hm1]; omega)
              rw [hF, hml]
              exact ⟨_, _, _, rfl, hS.gr0 (by simp), hR⟩
    · have hjn : j = n := by omega
      have hF : shareF id amount H = ([], 6) := by
        have : findF id H.ps = (noPty, false) := by
          unfold findF
          rw [List.find?_eq_none.2 (fun q hq => by
            obtain ⟨k, hk⟩ := List.mem_iff_getElem?.1 hq
            have hkl := (List.getElem?_eq_some_iff.1 hk).1
            have := hno k q (by omega) hk
            simpa using this)]
        unfold shareF
        rw [if_pos hval, this]
      refine m_exit ?_
      refine x_then ?_
      refine x_then ?_
      refine x_block ?_
      refine m_then ?_
      refine m_seq ?_
      refine m_region ?_
      refine m1 hA hS (Y.assign rfl) rfl ?_
      clear hA a; intro a hA
      refine m1 hA hS (Y.assign rfl) rfl ?_
      clear hA a; intro a hA
      refine m_nil ?_
      refine m_then ?_
      refine m_retc ?_
      refine m_ret2 hA Tryz.results33 rfl rfl ?_
      rw [hF]
      exact ⟨_, _, _, rfl, hS.gr0 (by simp), RowOf.nil⟩
set_option maxRecDepth 100000 in
set_option maxHeartbeats 1000000 in
theorem sameR_c (K : Nat → Prop) (H : Hall) (A : Option Addr) (n c : Nat) (k a' b : Int) (w0 : World) (hP : PtysK K w0 A n H.ps) (hn : n ≤ 100) (hq : ∀ p ∈ H.ps, p.mem.length ≤ 100 ∧ p.inv.length ≤ 100) (hcap : n ≤ c) :
    Calls Tryz.prog 31 #[.agg #[.int .i64 H.tick, .int .i64 H.last, .slice A n c], .agg #[.int .i64 k, .int .i64 a', .int .i64 b]] w0 (GivesK (oneF H k a' b) K w0) := by
  have hPl := hP.lt
  refine m_enter Tryz.func31 rfl Tryz.ntmps31 (Nat.le_of_ble_eq_true rfl) ?_
  intro a hA
  have hS := St.start w0
  refine m_seq ?_
  refine m_region ?_
  refine m_box hA hS rfl rfl ?_
  clear hA hS a; intro a b1 w hA hleb1 hgb1 hS
  refine m_box hA hS rfl rfl ?_
  clear hA hS a; intro a b2 w hA hleb2 hgb2 hS
  refine m_alloc hA hS Tryz.zeroValue30 rfl ?_
  clear hA hS a; intro a b3 w hA hleb3 hgb3 hS
  refine m1 hA hS (Y.assign rfl) rfl ?_
  clear hA a; intro a hA
  refine m_nil ?_
  refine m_then ?_
  refine m_seq ?_
  refine m_seq ?_
  refine m_region ?_
  refine m1 hA hS (Y.fieldAddr (k := 0) rfl Tryz.underlying36 rfl rfl Tryz.sizeOf3) rfl ?_
  clear hA a; intro a hA
  refine m1 hA hS (Y.load rfl Tryz.isAgg3 (fun w h => h.cell (i := 1) rfl rfl)) rfl ?_
  clear hA a; intro a hA
  refine m_callb hA hS Tryz.call38 rfl rfl (pick_c _ _ (by decide) _) ?_
  clear hA hS a; intro a w hA hS hg
  refine m_nil ?_
  refine m_then ?_
  refine m_block ?_
  refine m_seq ?_
  refine m_region ?_
  refine m1 hA hS (Y.eqI rfl rfl) rfl ?_
  clear hA a; intro a hA
  refine m1 hA hS (Y.assign rfl) rfl ?_
  clear hA a; intro a hA
  refine m_nil ?_
  refine m_then ?_
  refine m_condP hA rfl (fun h0 => ?_) (fun h0 => ?_)
  · have hF : oneF H k a' b = change (advF a') H := by unfold oneF;  rw [if_pos h0]
    have hg0 := hS.gr0 (w0 := w0) (by simp)
    obtain ⟨L, hL⟩ : ∃ L, L = w.heap.size := ⟨_, rfl⟩
    have hL0 : w0.heap.size ≤ L := by rw [hL]; exact hg0.size
    refine m_seq ?_
    refine m_region ?_
    refine m1 hA hS (Y.loads rfl Tryz.isAgg30 Tryz.sizeOf30 (fun w h => h.cells (i := 2) rfl) rfl) rfl ?_
    clear hA a; intro a hA
    refine m1 hA hS (Y.fieldAddr (k := 1) rfl Tryz.underlying36 rfl rfl Tryz.sizeOf3) rfl ?_
    clear hA a; intro a hA
    refine m1 hA hS (Y.load rfl Tryz.isAgg3 (fun w h => h.cell (i := 1) rfl rfl)) rfl ?_
    clear hA a; intro a hA
    refine m_call hA Tryz.call66 rfl rfl ((refAdvance_c (fun b => K b ∧ b < w0.heap.size) a' H A n c _ (hPl.mv (fun _ h => h) ((hS.gr0 (w0 := w0) (by simp)).keeps _)) hn hq hcap).mono ?_)
    rintro e w ⟨A', n', c', rfl, hg1, hP', hc'⟩
    refine ⟨_, rfl, ?_⟩
    clear hA a; intro a hA
    have hgg := hg0.tr hg1
    replace hS := hS.call hg1
    rw [← hL] at hP' hS
    obtain ⟨w2, hw2⟩ : ∃ w2, w2 = w := ⟨_, rfl⟩
    rw [← hw2] at hP' hgg
    have hkk : ∀ (B : List Bx) x, St x B [(L, w), (0, w0)] → Keeps (fun b => (K b ∧ b < w0.heap.size) ∨ L ≤ b) w2 x := fun B x h => St.keeps2 (L := L) K (hw2 ▸ h) (by simp) (by simp) hgg
    clear hw2
    refine m1 hA hS (Y.extract rfl rfl) rfl ?_
    clear hA a; intro a hA
    refine m1 hA hS (Y.extract rfl rfl) rfl ?_
    clear hA a; intro a hA
    refine m_store 0 hA hS rfl rfl Tryz.sizeOf30 rfl rfl rfl rfl ?_
    clear hS; intro w hS
    refine m1 hA hS (Y.assign rfl) rfl ?_
    clear hA a; intro a hA
    refine m_nil ?_
    refine m_then ?_
    refine m_retc ?_
    refine r_block ?_
    refine r_then ?_
    refine m_retc2 0 hA hS Tryz.results31 rfl rfl rfl Tryz.isAgg30 Tryz.sizeOf30 ?_
    rw [hF]
    exact ⟨A', n', c', rfl, hS.gr0 (by simp), hP'.mv (fun b hb => hb.imp (fun h => h.1) (fun h => Nat.le_trans hL0 h)) (hkk _ _ hS), hc'⟩
  · refine m_seq ?_
    refine m_region ?_
    refine m1 hA hS (Y.eqI rfl rfl) rfl ?_
    clear hA a; intro a hA
    refine m1 hA hS (Y.assign rfl) rfl ?_
    clear hA a; intro a hA
    refine m_nil ?_
    refine m_then ?_
    refine m_condP hA rfl (fun h1 => ?_) (fun h1 => ?_)
    · have hF : oneF H k a' b = change (creF a') H := by unfold oneF; rw [if_neg h0]; rw [if_pos h1]
      have hg0 := hS.gr0 (w0 := w0) (by simp)
      obtain ⟨L, hL⟩ : ∃ L, L = w.heap.size := ⟨_, rfl⟩
      have hL0 : w0.heap.size ≤ L := by rw [hL]; exact hg0.size
      refine m_seq ?_
      refine m_region ?_
      refine m1 hA hS (Y.loads rfl Tryz.isAgg30 Tryz.sizeOf30 (fun w h => h.cells (i := 2) rfl) rfl) rfl ?_
      clear hA a; intro a hA
      refine m1 hA hS (Y.fieldAddr (k := 1) rfl Tryz.underlying36 rfl rfl Tryz.sizeOf3) rfl ?_
      clear hA a; intro a hA
      refine m1 hA hS (Y.load rfl Tryz.isAgg3 (fun w h => h.cell (i := 1) rfl rfl)) rfl ?_
      clear hA a; intro a hA
      refine m_call hA Tryz.call67 rfl rfl ((refCreate_c (fun b => K b ∧ b < w0.heap.size) a' H A n c _ (hPl.mv (fun _ h => h) ((hS.gr0 (w0 := w0) (by simp)).keeps _)) hn hq hcap).mono ?_)
      rintro e w ⟨A', n', c', rfl, hg1, hP', hc'⟩
      refine ⟨_, rfl, ?_⟩
      clear hA a; intro a hA
      have hgg := hg0.tr hg1
      replace hS := hS.call hg1
      rw [← hL] at hP' hS
      obtain ⟨w2, hw2⟩ : ∃ w2, w2 = w := ⟨_, rfl⟩
      rw [← hw2] at hP' hgg
      have hkk : ∀ (B : List Bx) x, St x B [(L, w), (0, w0)] → Keeps (fun b => (K b ∧ b < w0.heap.size) ∨ L ≤ b) w2 x := fun B x h => St.keeps2 (L := L) K (hw2 ▸ h) (by simp) (by simp) hgg
      clear hw2
      refine m1 hA hS (Y.extract rfl rfl) rfl ?_
      clear hA a; intro a hA
      refine m1 hA hS (Y.extract rfl rfl) rfl ?_
      clear hA a; intro a hA
      refine m_store 0 hA hS rfl rfl Tryz.sizeOf30 rfl rfl rfl rfl ?_
      clear hS; intro w hS
      refine m1 hA hS (Y.assign rfl) rfl ?_
      clear hA a; intro a hA
      refine m_nil ?_
      refine m_then ?_
      refine m_retc ?_
      refine r_block ?_
      refine r_then ?_
      refine m_retc2 0 hA hS Tryz.results31 rfl rfl rfl Tryz.isAgg30 Tryz.sizeOf30 ?_
      rw [hF]
      exact ⟨A', n', c', rfl, hS.gr0 (by simp), hP'.mv (fun b hb => hb.imp (fun h => h.1) (fun h => Nat.le_trans hL0 h)) (hkk _ _ hS), hc'⟩
    · refine m_seq ?_
      refine m_region ?_
      refine m1 hA hS (Y.eqI rfl rfl) rfl ?_
      clear hA a; intro a hA
      refine m1 hA hS (Y.assign rfl) rfl ?_
      clear hA a; intro a hA
      refine m_nil ?_
      refine m_then ?_
      refine m_condP hA rfl (fun h2 => ?_) (fun h2 => ?_)
      · have hF : oneF H k a' b = change (leadF a' (invF b)) H := by unfold oneF; rw [if_neg h0]; rw [if_neg h1]; rw [if_pos h2]
        have hg0 := hS.gr0 (w0 := w0) (by simp)
        obtain ⟨L, hL⟩ : ∃ L, L = w.heap.size := ⟨_, rfl⟩
        have hL0 : w0.heap.size ≤ L := by rw [hL]; exact hg0.size
        refine m_seq ?_
        refine m_region ?_
        refine m1 hA hS (Y.loads rfl Tryz.isAgg30 Tryz.sizeOf30 (fun w h => h.cells (i := 2) rfl) rfl) rfl ?_
        clear hA a; intro a hA
        refine m1 hA hS (Y.fieldAddr (k := 1) rfl Tryz.underlying36 rfl rfl Tryz.sizeOf3) rfl ?_
        clear hA a; intro a hA
        refine m1 hA hS (Y.load rfl Tryz.isAgg3 (fun w h => h.cell (i := 1) rfl rfl)) rfl ?_
        clear hA a; intro a hA
        refine m1 hA hS (Y.fieldAddr (k := 2) rfl Tryz.underlying36 rfl rfl Tryz.sizeOf3) rfl ?_
        clear hA a; intro a hA
        refine m1 hA hS (Y.load rfl Tryz.isAgg3 (fun w h => h.cell (i := 1) rfl rfl)) rfl ?_
        clear hA a; intro a hA
        refine m_call hA Tryz.call68 rfl rfl ((refInvited_c (fun b => K b ∧ b < w0.heap.size) a' b H A n c _ (hPl.mv (fun _ h => h) ((hS.gr0 (w0 := w0) (by simp)).keeps _)) hn hq hcap).mono ?_)
        rintro e w ⟨A', n', c', rfl, hg1, hP', hc'⟩
        refine ⟨_, rfl, ?_⟩
        clear hA a; intro a hA
        have hgg := hg0.tr hg1
        replace hS := hS.call hg1
        rw [← hL] at hP' hS
        obtain ⟨w2, hw2⟩ : ∃ w2, w2 = w := ⟨_, rfl⟩
        rw [← hw2] at hP' hgg
        have hkk : ∀ (B : List Bx) x, St x B [(L, w), (0, w0)] → Keeps (fun b => (K b ∧ b < w0.heap.size) ∨ L ≤ b) w2 x := fun B x h => St.keeps2 (L := L) K (hw2 ▸ h) (by simp) (by simp) hgg
        clear hw2
        refine m1 hA hS (Y.extract rfl rfl) rfl ?_
        clear hA a; intro a hA
        refine m1 hA hS (Y.extract rfl rfl) rfl ?_
        clear hA a; intro a hA
        refine m_store 0 hA hS rfl rfl Tryz.sizeOf30 rfl rfl rfl rfl ?_
        clear hS; intro w hS
        refine m1 hA hS (Y.assign rfl) rfl ?_
        clear hA a; intro a hA
        refine m_nil ?_
        refine m_then ?_
        refine m_retc ?_
        refine r_block ?_
        refine r_then ?_
        refine m_retc2 0 hA hS Tryz.results31 rfl rfl rfl Tryz.isAgg30 Tryz.sizeOf30 ?_
        rw [hF]
        exact ⟨A', n', c', rfl, hS.gr0 (by simp), hP'.mv (fun b hb => hb.imp (fun h => h.1) (fun h => Nat.le_trans hL0 h)) (hkk _ _ hS), hc'⟩
      · refine m_seq ?_
        refine m_region ?_
        refine m1 hA hS (Y.eqI rfl rfl) rfl ?_
        clear hA a; intro a hA
        refine m1 hA hS (Y.assign rfl) rfl ?_
        clear hA a; intro a hA
        refine m_nil ?_
        refine m_then ?_
        refine m_condP hA rfl (fun h3 => ?_) (fun h3 => ?_)
        · have hF : oneF H k a' b = change (ansF a' b true) H := by unfold oneF; rw [if_neg h0]; rw [if_neg h1]; rw [if_neg h2]; rw [if_pos h3]
          have hg0 := hS.gr0 (w0 := w0) (by simp)
          obtain ⟨L, hL⟩ : ∃ L, L = w.heap.size := ⟨_, rfl⟩
          have hL0 : w0.heap.size ≤ L := by rw [hL]; exact hg0.size
          refine m_seq ?_
          refine m_region ?_
          refine m1 hA hS (Y.loads rfl Tryz.isAgg30 Tryz.sizeOf30 (fun w h => h.cells (i := 2) rfl) rfl) rfl ?_
          clear hA a; intro a hA
          refine m1 hA hS (Y.fieldAddr (k := 1) rfl Tryz.underlying36 rfl rfl Tryz.sizeOf3) rfl ?_
          clear hA a; intro a hA
          refine m1 hA hS (Y.load rfl Tryz.isAgg3 (fun w h => h.cell (i := 1) rfl rfl)) rfl ?_
          clear hA a; intro a hA
          refine m1 hA hS (Y.fieldAddr (k := 2) rfl Tryz.underlying36 rfl rfl Tryz.sizeOf3) rfl ?_
          clear hA a; intro a hA
          refine m1 hA hS (Y.load rfl Tryz.isAgg3 (fun w h => h.cell (i := 1) rfl rfl)) rfl ?_
          clear hA a; intro a hA
          refine m_call hA Tryz.call69 rfl rfl ((refAccept_c (fun b => K b ∧ b < w0.heap.size) a' b H A n c _ (hPl.mv (fun _ h => h) ((hS.gr0 (w0 := w0) (by simp)).keeps _)) hn hq hcap).mono ?_)
          rintro e w ⟨A', n', c', rfl, hg1, hP', hc'⟩
          refine ⟨_, rfl, ?_⟩
          clear hA a; intro a hA
          have hgg := hg0.tr hg1
          replace hS := hS.call hg1
          rw [← hL] at hP' hS
          obtain ⟨w2, hw2⟩ : ∃ w2, w2 = w := ⟨_, rfl⟩
          rw [← hw2] at hP' hgg
          have hkk : ∀ (B : List Bx) x, St x B [(L, w), (0, w0)] → Keeps (fun b => (K b ∧ b < w0.heap.size) ∨ L ≤ b) w2 x := fun B x h => St.keeps2 (L := L) K (hw2 ▸ h) (by simp) (by simp) hgg
          clear hw2
          refine m1 hA hS (Y.extract rfl rfl) rfl ?_
          clear hA a; intro a hA
          refine m1 hA hS (Y.extract rfl rfl) rfl ?_
          clear hA a; intro a hA
          refine m_store 0 hA hS rfl rfl Tryz.sizeOf30 rfl rfl rfl rfl ?_
          clear hS; intro w hS
          refine m1 hA hS (Y.assign rfl) rfl ?_
          clear hA a; intro a hA
          refine m_nil ?_
          refine m_then ?_
          refine m_retc ?_
          refine r_block ?_
          refine r_then ?_
          refine m_retc2 0 hA hS Tryz.results31 rfl rfl rfl Tryz.isAgg30 Tryz.sizeOf30 ?_
          rw [hF]
          exact ⟨A', n', c', rfl, hS.gr0 (by simp), hP'.mv (fun b hb => hb.imp (fun h => h.1) (fun h => Nat.le_trans hL0 h)) (hkk _ _ hS), hc'⟩
        · refine m_seq ?_
          refine m_region ?_
          refine m1 hA hS (Y.eqI rfl rfl) rfl ?_
          clear hA a; intro a hA
          refine m1 hA hS (Y.assign rfl) rfl ?_
          clear hA a; intro a hA
          refine m_nil ?_
          refine m_then ?_
          refine m_condP hA rfl (fun h4 => ?_) (fun h4 => ?_)
          · have hF : oneF H k a' b = change (ansF a' b false) H := by unfold oneF; rw [if_neg h0]; rw [if_neg h1]; rw [if_neg h2]; rw [if_neg h3]; rw [if_pos h4]
            have hg0 := hS.gr0 (w0 := w0) (by simp)
            obtain ⟨L, hL⟩ : ∃ L, L = w.heap.size := ⟨_, rfl⟩
            have hL0 : w0.heap.size ≤ L := by rw [hL]; exact hg0.size
            refine m_seq ?_
            refine m_region ?_
            refine m1 hA hS (Y.loads rfl Tryz.isAgg30 Tryz.sizeOf30 (fun w h => h.cells (i := 2) rfl) rfl) rfl ?_
            clear hA a; intro a hA
            refine m1 hA hS (Y.fieldAddr (k := 1) rfl Tryz.underlying36 rfl rfl Tryz.sizeOf3) rfl ?_
            clear hA a; intro a hA
            refine m1 hA hS (Y.load rfl Tryz.isAgg3 (fun w h => h.cell (i := 1) rfl rfl)) rfl ?_
            clear hA a; intro a hA
            refine m1 hA hS (Y.fieldAddr (k := 2) rfl Tryz.underlying36 rfl rfl Tryz.sizeOf3) rfl ?_
            clear hA a; intro a hA
            refine m1 hA hS (Y.load rfl Tryz.isAgg3 (fun w h => h.cell (i := 1) rfl rfl)) rfl ?_
            clear hA a; intro a hA
            refine m_call hA Tryz.call70 rfl rfl ((refDecline_c (fun b => K b ∧ b < w0.heap.size) a' b H A n c _ (hPl.mv (fun _ h => h) ((hS.gr0 (w0 := w0) (by simp)).keeps _)) hn hq hcap).mono ?_)
            rintro e w ⟨A', n', c', rfl, hg1, hP', hc'⟩
            refine ⟨_, rfl, ?_⟩
            clear hA a; intro a hA
            have hgg := hg0.tr hg1
            replace hS := hS.call hg1
            rw [← hL] at hP' hS
            obtain ⟨w2, hw2⟩ : ∃ w2, w2 = w := ⟨_, rfl⟩
            rw [← hw2] at hP' hgg
            have hkk : ∀ (B : List Bx) x, St x B [(L, w), (0, w0)] → Keeps (fun b => (K b ∧ b < w0.heap.size) ∨ L ≤ b) w2 x := fun B x h => St.keeps2 (L := L) K (hw2 ▸ h) (by simp) (by simp) hgg
            clear hw2
            refine m1 hA hS (Y.extract rfl rfl) rfl ?_
            clear hA a; intro a hA
            refine m1 hA hS (Y.extract rfl rfl) rfl ?_
            clear hA a; intro a hA
            refine m_store 0 hA hS rfl rfl Tryz.sizeOf30 rfl rfl rfl rfl ?_
            clear hS; intro w hS
            refine m1 hA hS (Y.assign rfl) rfl ?_
            clear hA a; intro a hA
            refine m_nil ?_
            refine m_then ?_
            refine m_retc ?_
            refine r_block ?_
            refine r_then ?_
            refine m_retc2 0 hA hS Tryz.results31 rfl rfl rfl Tryz.isAgg30 Tryz.sizeOf30 ?_
            rw [hF]
            exact ⟨A', n', c', rfl, hS.gr0 (by simp), hP'.mv (fun b hb => hb.imp (fun h => h.1) (fun h => Nat.le_trans hL0 h)) (hkk _ _ hS), hc'⟩
          · refine m_seq ?_
            refine m_region ?_
            refine m1 hA hS (Y.eqI rfl rfl) rfl ?_
            clear hA a; intro a hA
            refine m1 hA hS (Y.assign rfl) rfl ?_
            clear hA a; intro a hA
            refine m_nil ?_
            refine m_then ?_
            refine m_condP hA rfl (fun h5 => ?_) (fun h5 => ?_)
            · have hF : oneF H k a' b = change (lvF a') H := by unfold oneF; rw [if_neg h0]; rw [if_neg h1]; rw [if_neg h2]; rw [if_neg h3]; rw [if_neg h4]; rw [if_pos h5]
              have hg0 := hS.gr0 (w0 := w0) (by simp)
              obtain ⟨L, hL⟩ : ∃ L, L = w.heap.size := ⟨_, rfl⟩
              have hL0 : w0.heap.size ≤ L := by rw [hL]; exact hg0.size
              refine m_seq ?_
              refine m_region ?_
              refine m1 hA hS (Y.loads rfl Tryz.isAgg30 Tryz.sizeOf30 (fun w h => h.cells (i := 2) rfl) rfl) rfl ?_
              clear hA a; intro a hA
              refine m1 hA hS (Y.fieldAddr (k := 1) rfl Tryz.underlying36 rfl rfl Tryz.sizeOf3) rfl ?_
              clear hA a; intro a hA
              refine m1 hA hS (Y.load rfl Tryz.isAgg3 (fun w h => h.cell (i := 1) rfl rfl)) rfl ?_
              clear hA a; intro a hA
              refine m_call hA Tryz.call71 rfl rfl ((refLeave_c (fun b => K b ∧ b < w0.heap.size) a' H A n c _ (hPl.mv (fun _ h => h) ((hS.gr0 (w0 := w0) (by simp)).keeps _)) hn hq hcap).mono ?_)
              rintro e w ⟨A', n', c', rfl, hg1, hP', hc'⟩
              refine ⟨_, rfl, ?_⟩
              clear hA a; intro a hA
              have hgg := hg0.tr hg1
              replace hS := hS.call hg1
              rw [← hL] at hP' hS
              obtain ⟨w2, hw2⟩ : ∃ w2, w2 = w := ⟨_, rfl⟩
              rw [← hw2] at hP' hgg
              have hkk : ∀ (B : List Bx) x, St x B [(L, w), (0, w0)] → Keeps (fun b => (K b ∧ b < w0.heap.size) ∨ L ≤ b) w2 x := fun B x h => St.keeps2 (L := L) K (hw2 ▸ h) (by simp) (by simp) hgg
              clear hw2
              refine m1 hA hS (Y.extract rfl rfl) rfl ?_
              clear hA a; intro a hA
              refine m1 hA hS (Y.extract rfl rfl) rfl ?_
              clear hA a; intro a hA
              refine m_store 0 hA hS rfl rfl Tryz.sizeOf30 rfl rfl rfl rfl ?_
              clear hS; intro w hS
              refine m1 hA hS (Y.assign rfl) rfl ?_
              clear hA a; intro a hA
              refine m_nil ?_
              refine m_then ?_
              refine m_retc ?_
              refine r_block ?_
              refine r_then ?_
              refine m_retc2 0 hA hS Tryz.results31 rfl rfl rfl Tryz.isAgg30 Tryz.sizeOf30 ?_
              rw [hF]
              exact ⟨A', n', c', rfl, hS.gr0 (by simp), hP'.mv (fun b hb => hb.imp (fun h => h.1) (fun h => Nat.le_trans hL0 h)) (hkk _ _ hS), hc'⟩
            · refine m_seq ?_
              refine m_region ?_
              refine m1 hA hS (Y.eqI rfl rfl) rfl ?_
              clear hA a; intro a hA
              refine m1 hA hS (Y.assign rfl) rfl ?_
              clear hA a; intro a hA
              refine m_nil ?_
              refine m_then ?_
              refine m_condP hA rfl (fun h6 => ?_) (fun h6 => ?_)
              · have hF : oneF H k a' b = change (leadF a' (kickF a' b)) H := by unfold oneF; rw [if_neg h0]; rw [if_neg h1]; rw [if_neg h2]; rw [if_neg h3]; rw [if_neg h4]; rw [if_neg h5]; rw [if_pos h6]
                have hg0 := hS.gr0 (w0 := w0) (by simp)
                obtain ⟨L, hL⟩ : ∃ L, L = w.heap.size := ⟨_, rfl⟩
                have hL0 : w0.heap.size ≤ L := by rw [hL]; exact hg0.size
                refine m_seq ?_
                refine m_region ?_
                refine m1 hA hS (Y.loads rfl Tryz.isAgg30 Tryz.sizeOf30 (fun w h => h.cells (i := 2) rfl) rfl) rfl ?_
                clear hA a; intro a hA
                refine m1 hA hS (Y.fieldAddr (k := 1) rfl Tryz.underlying36 rfl rfl Tryz.sizeOf3) rfl ?_
                clear hA a; intro a hA
                refine m1 hA hS (Y.load rfl Tryz.isAgg3 (fun w h => h.cell (i := 1) rfl rfl)) rfl ?_
                clear hA a; intro a hA
                refine m1 hA hS (Y.fieldAddr (k := 2) rfl Tryz.underlying36 rfl rfl Tryz.sizeOf3) rfl ?_
                clear hA a; intro a hA
                refine m1 hA hS (Y.load rfl Tryz.isAgg3 (fun w h => h.cell (i := 1) rfl rfl)) rfl ?_
                clear hA a; intro a hA
                refine m_call hA Tryz.call72 rfl rfl ((refKick_c (fun b => K b ∧ b < w0.heap.size) a' b H A n c _ (hPl.mv (fun _ h => h) ((hS.gr0 (w0 := w0) (by simp)).keeps _)) hn hq hcap).mono ?_)
                rintro e w ⟨A', n', c', rfl, hg1, hP', hc'⟩
                refine ⟨_, rfl, ?_⟩
                clear hA a; intro a hA
                have hgg := hg0.tr hg1
                replace hS := hS.call hg1
                rw [← hL] at hP' hS
                obtain ⟨w2, hw2⟩ : ∃ w2, w2 = w := ⟨_, rfl⟩
                rw [← hw2] at hP' hgg
                have hkk : ∀ (B : List Bx) x, St x B [(L, w), (0, w0)] → Keeps (fun b => (K b ∧ b < w0.heap.size) ∨ L ≤ b) w2 x := fun B x h => St.keeps2 (L := L) K (hw2 ▸ h) (by simp) (by simp) hgg
                clear hw2
                refine m1 hA hS (Y.extract rfl rfl) rfl ?_
                clear hA a; intro a hA
                refine m1 hA hS (Y.extract rfl rfl) rfl ?_
                clear hA a; intro a hA
                refine m_store 0 hA hS rfl rfl Tryz.sizeOf30 rfl rfl rfl rfl ?_
                clear hS; intro w hS
                refine m1 hA hS (Y.assign rfl) rfl ?_
                clear hA a; intro a hA
                refine m_nil ?_
                refine m_then ?_
                refine m_retc ?_
                refine r_block ?_
                refine r_then ?_
                refine m_retc2 0 hA hS Tryz.results31 rfl rfl rfl Tryz.isAgg30 Tryz.sizeOf30 ?_
                rw [hF]
                exact ⟨A', n', c', rfl, hS.gr0 (by simp), hP'.mv (fun b hb => hb.imp (fun h => h.1) (fun h => Nat.le_trans hL0 h)) (hkk _ _ hS), hc'⟩
              · refine m_seq ?_
                refine m_region ?_
                refine m1 hA hS (Y.eqI rfl rfl) rfl ?_
                clear hA a; intro a hA
                refine m1 hA hS (Y.assign rfl) rfl ?_
                clear hA a; intro a hA
                refine m_nil ?_
                refine m_then ?_
                refine m_condP hA rfl (fun h7 => ?_) (fun h7 => ?_)
                · have hF : oneF H k a' b = change (leadF a' (promF b)) H := by unfold oneF; rw [if_neg h0]; rw [if_neg h1]; rw [if_neg h2]; rw [if_neg h3]; rw [if_neg h4]; rw [if_neg h5]; rw [if_neg h6]; rw [if_pos h7]
                  have hg0 := hS.gr0 (w0 := w0) (by simp)
                  obtain ⟨L, hL⟩ : ∃ L, L = w.heap.size := ⟨_, rfl⟩
                  have hL0 : w0.heap.size ≤ L := by rw [hL]; exact hg0.size
                  refine m_seq ?_
                  refine m_region ?_
                  refine m1 hA hS (Y.loads rfl Tryz.isAgg30 Tryz.sizeOf30 (fun w h => h.cells (i := 2) rfl) rfl) rfl ?_
                  clear hA a; intro a hA
                  refine m1 hA hS (Y.fieldAddr (k := 1) rfl Tryz.underlying36 rfl rfl Tryz.sizeOf3) rfl ?_
                  clear hA a; intro a hA
                  refine m1 hA hS (Y.load rfl Tryz.isAgg3 (fun w h => h.cell (i := 1) rfl rfl)) rfl ?_
                  clear hA a; intro a hA
                  refine m1 hA hS (Y.fieldAddr (k := 2) rfl Tryz.underlying36 rfl rfl Tryz.sizeOf3) rfl ?_
                  clear hA a; intro a hA
                  refine m1 hA hS (Y.load rfl Tryz.isAgg3 (fun w h => h.cell (i := 1) rfl rfl)) rfl ?_
                  clear hA a; intro a hA
                  refine m_call hA Tryz.call73 rfl rfl ((refPromote_c (fun b => K b ∧ b < w0.heap.size) a' b H A n c _ (hPl.mv (fun _ h => h) ((hS.gr0 (w0 := w0) (by simp)).keeps _)) hn hq hcap).mono ?_)
                  rintro e w ⟨A', n', c', rfl, hg1, hP', hc'⟩
                  refine ⟨_, rfl, ?_⟩
                  clear hA a; intro a hA
                  have hgg := hg0.tr hg1
                  replace hS := hS.call hg1
                  rw [← hL] at hP' hS
                  obtain ⟨w2, hw2⟩ : ∃ w2, w2 = w := ⟨_, rfl⟩
                  rw [← hw2] at hP' hgg
                  have hkk : ∀ (B : List Bx) x, St x B [(L, w), (0, w0)] → Keeps (fun b => (K b ∧ b < w0.heap.size) ∨ L ≤ b) w2 x := fun B x h => St.keeps2 (L := L) K (hw2 ▸ h) (by simp) (by simp) hgg
                  clear hw2
                  refine m1 hA hS (Y.extract rfl rfl) rfl ?_
                  clear hA a; intro a hA
                  refine m1 hA hS (Y.extract rfl rfl) rfl ?_
                  clear hA a; intro a hA
                  refine m_store 0 hA hS rfl rfl Tryz.sizeOf30 rfl rfl rfl rfl ?_
                  clear hS; intro w hS
                  refine m1 hA hS (Y.assign rfl) rfl ?_
                  clear hA a; intro a hA
                  refine m_nil ?_
                  refine m_then ?_
                  refine m_retc ?_
                  refine r_block ?_
                  refine r_then ?_
                  refine m_retc2 0 hA hS Tryz.results31 rfl rfl rfl Tryz.isAgg30 Tryz.sizeOf30 ?_
                  rw [hF]
                  exact ⟨A', n', c', rfl, hS.gr0 (by simp), hP'.mv (fun b hb => hb.imp (fun h => h.1) (fun h => Nat.le_trans hL0 h)) (hkk _ _ hS), hc'⟩
                · have hF : oneF H k a' b = change (leadF a' disF) H := by unfold oneF; rw [if_neg h0]; rw [if_neg h1]; rw [if_neg h2]; rw [if_neg h3]; rw [if_neg h4]; rw [if_neg h5]; rw [if_neg h6]; rw [if_neg h7];
                  have hg0 := hS.gr0 (w0 := w0) (by simp)
                  obtain ⟨L, hL⟩ : ∃ L, L = w.heap.size := ⟨_, rfl⟩
                  have hL0 : w0.heap.size ≤ L := by rw [hL]; exact hg0.size
                  refine m_skip ?_
                  refine n_block ?_
                  refine m_then ?_
                  refine m_seq ?_
                  refine m_region ?_
                  refine m1 hA hS (Y.loads rfl Tryz.isAgg30 Tryz.sizeOf30 (fun w h => h.cells (i := 2) rfl) rfl) rfl ?_
                  clear hA a; intro a hA
                  refine m1 hA hS (Y.fieldAddr (k := 1) rfl Tryz.underlying36 rfl rfl Tryz.sizeOf3) rfl ?_
                  clear hA a; intro a hA
                  refine m1 hA hS (Y.load rfl Tryz.isAgg3 (fun w h => h.cell (i := 1) rfl rfl)) rfl ?_
                  clear hA a; intro a hA
                  refine m_call hA Tryz.call74 rfl rfl ((refDisband_c (fun b => K b ∧ b < w0.heap.size) a' H A n c _ (hPl.mv (fun _ h => h) ((hS.gr0 (w0 := w0) (by simp)).keeps _)) hn hq hcap).mono ?_)
                  rintro e w ⟨A', n', c', rfl, hg1, hP', hc'⟩
                  refine ⟨_, rfl, ?_⟩
                  clear hA a; intro a hA
                  have hgg := hg0.tr hg1
                  replace hS := hS.call hg1
                  rw [← hL] at hP' hS
                  obtain ⟨w2, hw2⟩ : ∃ w2, w2 = w := ⟨_, rfl⟩
                  rw [← hw2] at hP' hgg
                  have hkk : ∀ (B : List Bx) x, St x B [(L, w), (0, w0)] → Keeps (fun b => (K b ∧ b < w0.heap.size) ∨ L ≤ b) w2 x := fun B x h => St.keeps2 (L := L) K (hw2 ▸ h) (by simp) (by simp) hgg
                  clear hw2
                  refine m1 hA hS (Y.extract rfl rfl) rfl ?_
                  clear hA a; intro a hA
                  refine m1 hA hS (Y.extract rfl rfl) rfl ?_
                  clear hA a; intro a hA
                  refine m_store 0 hA hS rfl rfl Tryz.sizeOf30 rfl rfl rfl rfl ?_
                  clear hS; intro w hS
                  refine m1 hA hS (Y.assign rfl) rfl ?_
                  clear hA a; intro a hA
                  refine m_nil ?_
                  refine m_then ?_
                  refine m_retc ?_
                  refine m_retc2 0 hA hS Tryz.results31 rfl rfl rfl Tryz.isAgg30 Tryz.sizeOf30 ?_
                  rw [hF]
                  exact ⟨A', n', c', rfl, hS.gr0 (by simp), hP'.mv (fun b hb => hb.imp (fun h => h.1) (fun h => Nat.le_trans hL0 h)) (hkk _ _ hS), hc'⟩
end Go.Proofs.YtljkhijdaaconaaGreat
