/- Contract: Share. -/
import Derived.Test.YtljkhijdaaconaaGreatRep
set_option linter.unusedVariables false
namespace Go.Proofs.YtljkhijdaaconaaGreat
open Go.RowKit

theorem Y.quoI {P : Program} {C : World → Prop} {n : Nat} {s : List (Nat × Value)} {T T' ty : TypeId} {x y : Operand} {a b : Int} (hx : ev s x = some (.int .i64 a)) (hy : ev s y = some (.int .i64 b)) (ha : 0 ≤ a) (ha' : a ≤ 9223372036854775807) (h : 0 < b) : Y P C n s (.binOp .quo T x y T') ty (.int .i64 (a.tdiv b)) := fun f w o hA _ ho _ => by
  have h1 : 0 ≤ a.tdiv b := Int.tdiv_nonneg ha (by omega)
  have h2 : a.tdiv b ≤ a := Int.tdiv_le_self b ha
  have e : IntKind.i64.wrap (a.tdiv b) = a.tdiv b := IntWalk.i64_in _ (by omega)
  have hne : b ≠ 0 := by omega
  simp [execOp, ho, hA.ev hx, hA.ev hy, eqGuard, binOp, Op.intDiv, e, hne]
theorem okPs_pos {h : Hall} : ∀ {ps : List Pty} {last : Int} {many : Nat}, okPs h last many ps = true → ∀ p ∈ ps, 1 ≤ p.mem.length
  | [], _, _, _, p, hp => by cases hp
  | q :: ps, last, many, hk, p, hp => by
    simp only [okPs] at hk
    split at hk
    · cases hk
    · rename_i h1
      split at hk
      · cases hk
      · split at hk
        · cases hk
        · rcases List.mem_cons.1 hp with rfl | hp
          · omega
          · exact okPs_pos hk p hp
theorem valid_pos {h : Hall} (hv : valid h = true) : ∀ p ∈ h.ps, 1 ≤ p.mem.length := by
  unfold valid at hv
  split at hv
  · cases hv
  · exact okPs_pos hv
def shareL (amount : Int) (n : Nat) : List Int := List.replicate (amount.tmod n).toNat (amount.tdiv n + 1) ++ List.replicate (n - (amount.tmod n).toNat) (amount.tdiv n)
def shareF (id amount : Int) (H : Hall) : List Int × Int :=
  if valid H = true then
    (match (findF id H.ps) with
     | (p, true) => if amount < 0 ∨ 1099511627776 < amount then ([], 2) else (shareL amount p.mem.length, 0)
     | (_, false) => ([], 6))
  else ([], 2)
theorem spl_rep' {u v : Value} {k l : Nat} (hl : 0 < l) : spl (List.replicate k u ++ List.replicate l v) k [u] = List.replicate (k + 1) u ++ List.replicate (l - 1) v := by
  unfold spl
  rw [List.take_left' (by simp), ← List.drop_drop, List.drop_left' (by simp), ← List.replicate_append_replicate (m := 1)]
  simp
def GivesL (r : List Int × Int) (w : World) (e : Ending) (w' : World) : Prop :=
  ∃ A n c, e = .returned (.tuple #[.slice A n c, .int .i64 r.2]) ∧ Gr w w' ∧ IntsL w.heap.size w' A n r.1
set_option maxRecDepth 100000 in
theorem idEq_c (p : Pty) (m v : Value) (t : Int) (b : Nat) (w : World) (B : List Bx) (V : List (Nat × World)) (hS : St w B V) (hm : cB b [.int .i64 t] 3 ∈ B) :
    Calls Tryz.prog 60 ([Value.agg #[.int .i64 p.id, .int .i64 p.leader, m, v]] ++ [Value.pointer (some ⟨b, 0, none⟩)]).toArray w fun e w' => e = .returned (.bool (decide (p.id = t))) ∧ Gr w w' := by
  refine m_enter Tryz.func60 rfl Tryz.ntmps60 (Nat.le_of_ble_eq_true rfl) ?_
  intro a hA
  refine m_seq ?_
  refine m_region ?_
  refine m_box hA hS rfl rfl ?_
  clear hA hS a; intro a b1 w hA hleb1 hgb1 hS
  refine m1 hA hS (Y.assign rfl) rfl ?_
  clear hA a; intro a hA
  refine m_nil ?_
  refine m_then ?_
  refine m_seq ?_
  refine m_region ?_
  refine m1 hA hS (Y.fieldAddr (k := 0) rfl Tryz.underlying46 rfl rfl Tryz.sizeOf3) rfl ?_
  clear hA a; intro a hA
  refine m1 hA hS (Y.load rfl Tryz.isAgg3 (fun w h => h.cell (i := 0) rfl rfl)) rfl ?_
  clear hA a; intro a hA
  refine m1 hA hS (Y.load rfl Tryz.isAgg3 (fun w h => h.cellM (cs := [.int .i64 t]) (T := 3) (by simp [hm]) rfl)) rfl ?_
  clear hA a; intro a hA
  refine m1 hA hS (Y.eqI rfl rfl) rfl ?_
  clear hA a; intro a hA
  refine m1 hA hS (Y.assign rfl) rfl ?_
  clear hA a; intro a hA
  refine m_nil ?_
  refine m_then ?_
  refine m_retc ?_
  refine m_ret1 hA Tryz.results60 rfl ?_
  exact ⟨rfl, hgb1⟩
set_option maxRecDepth 100000 in
set_option maxHeartbeats 1000000 in
theorem share_c (id amount : Int) (H : Hall) (A : Option Addr) (n c : Nat) (w0 : World) (hP : Ptys w0 A n H.ps) :
    Calls Tryz.prog 20 #[.agg #[.int .i64 H.tick, .int .i64 H.last, .slice A n c], .int .i64 id, .int .i64 amount] w0 (GivesL (shareF id amount H) w0) := by
  have hl := hP.len
  have hn := hP.le
  refine m_enter Tryz.func20 rfl Tryz.ntmps20 (Nat.le_of_ble_eq_true rfl) ?_
  intro a hA
  have hS := St.start w0
  refine m_seq ?_
  refine m_region ?_
  refine m_box hA hS rfl rfl ?_
  clear hA hS a; intro a b1 w hA hleb1 hgb1 hS
  refine m_box hA hS rfl rfl ?_
  clear hA hS a; intro a b2 w hA hleb2 hgb2 hS
  refine m1 hA hS (Y.assign rfl) rfl ?_
  clear hA a; intro a hA
  refine m1 hA hS (Y.assign rfl) rfl ?_
  clear hA a; intro a hA
  refine m_nil ?_
  refine m_then ?_
  refine m_seq ?_
  refine m_seq ?_
  refine m_region ?_
  refine m1 hA hS (Y.loads rfl Tryz.isAgg24 Tryz.sizeOf24 (fun w h => h.cells (i := 1) rfl) rfl) rfl ?_
  clear hA a; intro a hA
  refine m_callb hA hS Tryz.call8 rfl rfl (valid_c H A n c _ (hP.gr (hS.gr0 (by simp)))) ?_
  clear hA hS a; intro a w hA hS hg
  refine m1 hA hS (Y.not rfl) rfl ?_
  clear hA a; intro a hA
  refine m_nil ?_
  refine m_then ?_
  refine m_cond hA rfl (fun hc => ?_) (fun hc => ?_)
  · have hval : valid H = false := by simpa using hc
    have hF : shareF id amount H = ([], 2) := by unfold shareF; rw [hval]; rfl
    refine m_seq ?_
    refine m_region ?_
    refine m1 hA hS (Y.assign rfl) rfl ?_
    clear hA a; intro a hA
    refine m1 hA hS (Y.assign rfl) rfl ?_
    clear hA a; intro a hA
    refine m_nil ?_
    refine m_then ?_
    refine m_retc ?_
    refine r_then ?_
    refine m_ret2 hA Tryz.results20 rfl rfl ?_
    rw [hF]
    exact ⟨_, _, _, rfl, hS.gr0 (by simp), RowOf.nil⟩
  · have hval : valid H = true := by simpa using hc
    obtain ⟨_, y2, _⟩ := valid_small hval
    refine m_skip ?_
    refine m_then ?_
    refine m_seq ?_
    refine m_region ?_
    refine m1 hA hS (Y.fieldAddr (k := 2) rfl Tryz.underlying24 rfl rfl Tryz.sizeOf22) rfl ?_
    clear hA a; intro a hA
    refine m1 hA hS (Y.load rfl Tryz.isAgg22 (fun w h => h.cell (i := 1) rfl rfl)) rfl ?_
    clear hA a; intro a hA
    refine m1 hA hS (Y.func rfl) rfl ?_
    clear hA a; intro a hA
    refine m_callb hA hS Tryz.call59 rfl rfl (indexFuncPty_c _ _ _ H.ps 60 _ (fun p => decide (p.id = id)) _ (hP.gr (hS.gr0 (by simp))) Tryz.call60 (fun W z hz => by simpa using idEq_c z.1 (.slice z.2.1 z.2.2.1 z.2.2.2.1) (.slice z.2.2.2.2.1 z.2.2.2.2.2.1 z.2.2.2.2.2.2) id b2 W _ _ (hS.gr hz.1) (by simp [Value.cells]))) ?_
    clear hA hS a; intro a w hA hS hg
    obtain ⟨ix, hix⟩ : ∃ ix, ix = idxF (fun p : Pty => decide (p.id = id)) 0 H.ps := ⟨_, rfl⟩
    rw [← hix] at hA
    refine m1 hA hS (Y.assign rfl) rfl ?_
    clear hA a; intro a hA
    refine m_nil ?_
    refine m_then ?_
    refine m_seq ?_
    refine m_block ?_
    refine m_seq ?_
    refine m_region ?_
    refine m1 hA hS (Y.move rfl) rfl ?_
    clear hA a; intro a hA
    refine m1 hA hS (Y.ltI rfl rfl) rfl ?_
    clear hA a; intro a hA
    refine m1 hA hS (Y.assign rfl) rfl ?_
    clear hA a; intro a hA
    refine m_nil ?_
    refine m_then ?_
    refine m_condP hA rfl (fun hlt => ?_) (fun hlt => ?_)
    · have hF : shareF id amount H = ([], 6) := by
        rcases idxF_cases (fun p : Pty => decide (p.id = id)) H.ps 0 with ⟨e, h⟩ | ⟨pre, x, post, e, e2, _⟩
        · have : findF id H.ps = (noPty, false) := by
            unfold findF
            rw [List.find?_eq_none.2 (fun q hq => by rw [h q hq]; simp)]
          unfold shareF
          rw [if_pos hval, this]
        · omega
      refine m_seq ?_
      refine m_region ?_
      refine m1 hA hS (Y.assign rfl) rfl ?_
      clear hA a; intro a hA
      refine m1 hA hS (Y.assign rfl) rfl ?_
      clear hA a; intro a hA
      refine m_nil ?_
      refine m_then ?_
      refine m_retc ?_
      refine r_block ?_
      refine r_then ?_
      refine m_ret2 hA Tryz.results20 rfl rfl ?_
      rw [hF]
      exact ⟨_, _, _, rfl, hS.gr0 (by simp), RowOf.nil⟩
    · obtain ⟨k, p, hk, hp, hfind⟩ : ∃ (k : Nat) (p : Pty), ix = (k : Int) ∧ H.ps[k]? = some p ∧ findF id H.ps = (p, true) := by
        rcases idxF_cases (fun p : Pty => decide (p.id = id)) H.ps 0 with ⟨e, h⟩ | ⟨pre, x, post, e, e2, e3, e4⟩
        · omega
        · refine ⟨pre.length, x, by rw [hix, e2]; simp, by rw [e]; simp, ?_⟩
          unfold findF
          rw [e, List.find?_append, List.find?_eq_none.2 (fun q hq => by rw [e3 q hq]; simp)]
          simp at e4
          simp [e4]
      subst hk
      refine m_seq ?_
      refine m_region ?_
      refine m1 hA hS (Y.move rfl) rfl ?_
      clear hA a; intro a hA
      refine m1 hA hS (Y.ltI rfl rfl) rfl ?_
      clear hA a; intro a hA
      refine m1 hA hS (Y.move rfl) rfl ?_
      clear hA a; intro a hA
      replace hA := hA.keep [25, 8, 7, 6, 3, 2] rfl
      apply m_or 3 28 25 hA hS rfl
      · intro hp1
        refine m1s hA (dj := 25) rfl rfl rfl hp1 rfl ?_
        intro a hA
        refine m1s hA (dj := 25) rfl rfl rfl hp1 rfl ?_
        clear hA a; intro a hA
        refine m1 hA hS (Y.pickT' rfl hp1 rfl) rfl ?_
        clear hA a; intro a hA
        exact m_nil (m_then ⟨hA.keep [28, 25, 8, 7, 6, 3, 2] rfl, hS⟩)
      · intro hp1
        refine m1g hA hS (dj := 25) rfl rfl rfl hp1 (Y.move rfl) rfl ?_
        intro a hA
        refine m1g hA hS (dj := 25) rfl rfl rfl hp1 (Y.gtI rfl rfl) rfl ?_
        clear hA a; intro a hA
        refine m1 hA hS (Y.pickF' rfl hp1 rfl) rfl ?_
        clear hA a; intro a hA
        exact m_nil (m_then ⟨hA.keep [28, 25, 8, 7, 6, 3, 2] rfl, hS⟩)
      · clear hA hS a; intro a w hA hS
        refine m1 hA hS (Y.assign rfl) rfl ?_
        clear hA a; intro a hA
        refine m_nil ?_
        refine m_then ?_
        refine m_cond hA rfl (fun hc2 => ?_) (fun hc2 => ?_)
        · simp only [Bool.or_eq_true, decide_eq_true_eq] at hc2
          have hF : shareF id amount H = ([], 2) := by unfold shareF; rw [if_pos hval, hfind]; simp only; rw [if_pos hc2]
          refine m_seq ?_
          refine m_region ?_
          refine m1 hA hS (Y.assign rfl) rfl ?_
          clear hA a; intro a hA
          refine m1 hA hS (Y.assign rfl) rfl ?_
          clear hA a; intro a hA
          refine m_nil ?_
          refine m_then ?_
          refine m_retc ?_
          refine r_block ?_
          refine r_then ?_
          refine m_ret2 hA Tryz.results20 rfl rfl ?_
          rw [hF]
          exact ⟨_, _, _, rfl, hS.gr0 (by simp), RowOf.nil⟩
        · simp only [Bool.or_eq_false_iff, decide_eq_false_iff_not] at hc2
          have hF : shareF id amount H = (shareL amount p.mem.length, 0) := by unfold shareF; rw [if_pos hval, hfind]; simp only; rw [if_neg (by omega)]
          have hkl : k < n := by rw [← hl]; exact (List.getElem?_eq_some_iff.1 hp).1
          obtain ⟨b, o, p', M, m, mc, I, i, ic, rfl, hp', p0, p1, p2, p3, hin⟩ := hP.at hkl
          rw [hp] at hp'
          cases hp'
          have hsz := y2 p (List.mem_of_getElem? hp)
          have hml := hin.mem.len
          have hm1 : 1 ≤ m := by
            have := valid_pos hval p (List.mem_of_getElem? hp)
            omega
          have hm5 : m ≤ 5 := by omega
          have ht0 : 0 ≤ amount.tmod m := Int.tmod_nonneg _ (by omega)
          have ht1 : amount.tmod m < m := Int.tmod_lt_of_pos _ (by omega)
          have hd0 : 0 ≤ amount.tdiv m := Int.tdiv_nonneg (by omega) (by omega)
          have hd1 : amount.tdiv m ≤ amount := Int.tdiv_le_self _ (by omega)
          refine m_skip ?_
          refine n_block ?_
          refine m_then ?_
          refine m_seq ?_
          refine m_region ?_
          refine m1 hA hS (Y.fieldAddr (k := 2) rfl Tryz.underlying24 rfl rfl Tryz.sizeOf22) rfl ?_
          clear hA a; intro a hA
          refine m1 hA hS (Y.load rfl Tryz.isAgg22 (fun w h => h.cell (i := 1) rfl rfl)) rfl ?_
          clear hA a; intro a hA
          refine m1 hA hS (Y.move rfl) rfl ?_
          clear hA a; intro a hA
          refine m1 hA hS (Y.indexAddrN rfl rfl Tryz.underlying22 Tryz.sizeOf46 (by omega)) rfl ?_
          clear hA a; intro a hA
          refine m1 hA hS (Y.fieldAddr (k := 2) rfl Tryz.underlying46 rfl rfl Tryz.sizeOf38) rfl ?_
          clear hA a; intro a hA
          refine m1 hA hS (Y.load rfl Tryz.isAgg38 (fun w h => h.rd (by simp) (Nat.zero_le _) (p2))) rfl ?_
          clear hA a; intro a hA
          refine m1 hA hS (Y.lenSl rfl Tryz.underlying38) rfl ?_
          clear hA a; intro a hA
          refine m1 hA hS (Y.assign rfl) rfl ?_
          clear hA a; intro a hA
          refine m_nil ?_
          refine m_then ?_
          refine m_seq ?_
          refine m_region ?_
          refine m1 hA hS (Y.move rfl) rfl ?_
          clear hA a; intro a hA
          refine m1 hA hS (Y.move rfl) rfl ?_
          clear hA a; intro a hA
          refine m1 hA hS (Y.quoI rfl rfl (by omega) (by omega) (by omega)) rfl ?_
          clear hA a; intro a hA
          refine m_buildSlice ([.int .i64 (amount.tdiv m)]) hA hS rfl rfl (bs_int _) ?_
          clear hA hS a; intro a b3 w hA hgb3 hS
          refine m1 hA hS (Y.move rfl) rfl ?_
          clear hA a; intro a hA
          refine m_call hA Tryz.call61 rfl rfl ((repeat_c (amount.tdiv m) m hm1 hm5 b3 _ _ _ hS).mono ?_)
          rintro e w ⟨bo, rfl, hS⟩
          refine ⟨_, rfl, ?_⟩
          clear hA a; intro a hA
          refine m1 hA hS (Y.assign rfl) rfl ?_
          clear hA a; intro a hA
          refine m_nil ?_
          refine m_then ?_
          refine m_seq ?_
          refine m_seq ?_
          refine m_region ?_
          refine m1 hA hS (Y.move rfl) rfl ?_
          clear hA a; intro a hA
          refine m1 hA hS (Y.move rfl) rfl ?_
          clear hA a; intro a hA
          refine m1 hA hS (Y.remI rfl rfl (by omega) (by omega)) rfl ?_
          clear hA a; intro a hA
          refine m1 hA hS (Y.move rfl) rfl ?_
          clear hA a; intro a hA
          refine m_nil ?_
          refine m_then ?_
          refine m_block ?_
          obtain ⟨r, hr⟩ : ∃ r : Nat, r = (amount.tmod m).toNat := ⟨_, rfl⟩
          have hrt : amount.tmod m = (r : Int) := by omega
          obtain ⟨q, hq⟩ : ∃ q : Int, q = amount.tdiv m := ⟨_, rfl⟩
          rw [hrt] at hA
          rw [← hq] at hS hd0 hd1
          refine m_loopX [44, 10, 7, 6] rfl hA ((0 : Nat)) (fun j => [(45, .int .i64 (j : Int))]) (fun j => [cB bo (List.replicate j (Value.int .i64 (q + 1)) ++ List.replicate (m - j) (Value.int .i64 q)) 3] ++ [cB b2 [.int .i64 id] 3, cB b1 [.int .i64 H.tick, .int .i64 H.last, .slice (some ⟨b, o, none⟩) n c] 24]) (fun _ => [(0, w0)]) (fun j => j ≤ r) (fun j => r - j) (ks := [45]) rfl hS (Nat.zero_le _) ?_
          clear hA hS a; rintro j a w hA hS hj
          try dsimp only at hA
          try dsimp only at hS
          try dsimp only at hj
          obtain hj := hj
          replace hA := hA.keep [45, 44, 10, 7, 6] rfl
          have hrm : r < m := by omega
          refine m_seq ?_
          refine m_region ?_
          refine m1 hA hS (Y.ltI rfl rfl) rfl ?_
          clear hA a; intro a hA
          refine m_nil ?_
          refine m_then ?_
          refine m_seq ?_
          refine m_condP hA rfl (fun hlt2 => ?_) (fun hlt2 => ?_)
          · have hget : (List.replicate j (Value.int .i64 (q + 1)) ++ List.replicate (m - j) (Value.int .i64 q))[0 + j * 1]? = some (.int .i64 q) := by
              rw [List.getElem?_append_right (by simp)]
              rw [List.length_replicate, List.getElem?_replicate, if_pos (by omega)]
            refine m_skip ?_
            refine m_then ?_
            refine m_seq ?_
            refine m_block ?_
            refine m_seq ?_
            refine m_region ?_
            refine m1 hA hS (Y.move rfl) rfl ?_
            clear hA a; intro a hA
            refine m1 hA hS (Y.assign rfl) rfl ?_
            clear hA a; intro a hA
            refine m_nil ?_
            refine m_then ?_
            refine m_region ?_
            refine m1 hA hS (Y.move rfl) rfl ?_
            clear hA a; intro a hA
            refine m1 hA hS (Y.move rfl) rfl ?_
            clear hA a; intro a hA
            refine m1 hA hS (Y.indexAddrN rfl rfl Tryz.underlying38 Tryz.sizeOf3 (by omega)) rfl ?_
            clear hA a; intro a hA
            refine m1 hA hS (Y.load rfl Tryz.isAgg3 (fun w h => h.cell (i := 0) rfl hget)) rfl ?_
            clear hA a; intro a hA
            refine m1 hA hS (Y.addI rfl rfl (by omega)) rfl ?_
            clear hA a; intro a hA
            refine m1 hA hS (Y.indexAddrN rfl rfl Tryz.underlying38 Tryz.sizeOf3 (by omega)) rfl ?_
            clear hA a; intro a hA
            refine m_storeP 0 (List.replicate (j + 1) (Value.int .i64 (q + 1)) ++ List.replicate (m - (j + 1)) (Value.int .i64 q)) hA hS rfl rfl Tryz.sizeOf3 rfl rfl (by simp; omega) (List.all_eq_true.1 rfl) ?_ ?_
            · have := spl_rep' (u := Value.int .i64 (q + 1)) (v := Value.int .i64 q) (k := j) (l := m - j) (by omega)
              rw [show 0 + j * 1 = j from by omega]
              rw [show m - (j + 1) = m - j - 1 from by omega]
              simpa [Value.cells] using this
            clear hS; intro w hS
            refine m_nil ?_
            refine n_block ?_
            refine m_then ?_
            refine m_region ?_
            refine m1 hA hS (Y.addI rfl rfl (by omega)) rfl ?_
            clear hA a; intro a hA
            refine m1 hA hS (Y.move rfl) rfl ?_
            clear hA a; intro a hA
            refine m_nil ?_
            exact m_then ⟨j + 1, by (try dsimp only); omega, hA.keep [45, 44, 10, 7, 6] rfl, hS, by (try dsimp only); exact (by omega : j + 1 ≤ r)⟩
          · have hjr : j = r := by omega
            subst hjr
            refine m_exit ?_
            refine x_then ?_
            refine x_then ?_
            refine x_block ?_
            refine m_then ?_
            refine m_seq ?_
            refine m_region ?_
            refine m1 hA hS (Y.move rfl) rfl ?_
            clear hA a; intro a hA
            refine m1 hA hS (Y.assign rfl) rfl ?_
            clear hA a; intro a hA
            refine m1 hA hS (Y.assign rfl) rfl ?_
            clear hA a; intro a hA
            refine m_nil ?_
            refine m_then ?_
            refine m_retc ?_
            refine m_ret2 hA Tryz.results20 rfl rfl ?_
            have hlist : shareL amount p.mem.length = List.replicate j (q + 1) ++ List.replicate (m - j) q := by
              unfold shareL
              rw [hml, ← hq, ← hr]
            rw [hF, hlist]
            have hB : IntsB (.slice (some ⟨bo, 0, none⟩) m m) (List.replicate j (q + 1) ++ List.replicate (m - j) q) [cB bo (List.replicate j (Value.int .i64 (q + 1)) ++ List.replicate (m - j) (Value.int .i64 q)) 3] := by
              have hlen : (List.replicate j (q + 1) ++ List.replicate (m - j) q).length = m := by simp; omega
              rw [IntsB, hlen]
              refine ⟨by simp; omega, .inr ⟨bo, m, _, rfl, rfl, Nat.le_refl _, by simp only [maxLen]; omega, by simp; omega, ?_⟩⟩
              rw [List.take_of_length_le (by simp; omega)]
              simp
            obtain ⟨A', c', e', hR⟩ := hB.read (hS.out (w0 := w0) (by simp)) (by simp; omega)
            have hlen : (List.replicate j (q + 1) ++ List.replicate (m - j) q).length = m := by simp; omega
            rw [hlen] at e' hR
            cases e'
            exact ⟨_, _, _, rfl, hS.gr0 (by simp), hR⟩
end Go.Proofs.YtljkhijdaaconaaGreat
