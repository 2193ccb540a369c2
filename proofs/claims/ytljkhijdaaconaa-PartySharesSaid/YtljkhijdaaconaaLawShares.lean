/- The law PartyShares, walked: it answers true. -/
import Derived.Test.YtljkhijdaaconaaAwake
set_option linter.unusedVariables false
namespace Go.Proofs.Ytljkhijdaaconaa
open Go.RowKit

theorem IntsL.atL {lo : Nat} {w : World} {A : Option Addr} {n : Nat} {xs : List Int} (h : IntsL lo w A n xs) {j : Nat} (hj : j < n) : ∃ b o x, A = some ⟨b, o, none⟩ ∧ lo ≤ b ∧ xs[j]? = some x ∧ w.cell? ⟨b, o + j * 1, none⟩ = some (.int .i64 x) := by
  obtain ⟨b, o, x, e, hx, he⟩ := RowOf.get h hj
  exact ⟨b, o, x, e, he.1, hx, he.2⟩
theorem pickF_range (x : Int) {n : Int} (h : 1 ≤ n) : 0 ≤ pickF x n ∧ pickF x n < n := by
  have h1 := Int.tmod_lt_of_pos x (show 0 < n by omega)
  have h2 := neg_lt_tmod x (show 0 < n by omega)
  unfold pickF
  rw [if_neg (by omega)]
  split <;> omega
def isum : List Int → Int
  | [] => 0
  | x :: xs => x + isum xs
theorem isum_app : ∀ xs ys : List Int, isum (xs ++ ys) = isum xs + isum ys
  | [], ys => by simp [isum]
  | x :: xs, ys => by simp only [List.cons_append, isum, isum_app xs ys]; omega
theorem isum_rep (v : Int) : ∀ n : Nat, isum (List.replicate n v) = n * v
  | 0 => by simp [isum]
  | n + 1 => by rw [List.replicate_succ, isum, isum_rep v n, Int.natCast_succ, Int.add_mul]; omega
theorem shareL_len {a : Int} {n : Nat} (h : 1 ≤ n) : (shareL a n).length = n := by
  have h1 := Int.tmod_lt_of_pos a (show (0 : Int) < n by omega)
  simp only [shareL, List.length_append, List.length_replicate]
  omega
theorem shareL_sum {a : Int} {n : Nat} (ha : 0 ≤ a) (h : 1 ≤ n) : isum (shareL a n) = a := by
  have h1 := Int.tmod_lt_of_pos a (show (0 : Int) < n by omega)
  have h0 := Int.tmod_nonneg (n : Int) ha
  have h2 := Int.mul_tdiv_add_tmod a n
  obtain ⟨r, hr⟩ : ∃ r : Nat, a.tmod n = (r : Int) := ⟨(a.tmod n).toNat, by omega⟩
  rw [shareL, isum_app, isum_rep, isum_rep, hr, Int.toNat_natCast]
  rw [hr] at h1 h2
  have e : ((n - r : Nat) : Int) = n - r := by omega
  rw [e, Int.mul_add, Int.sub_mul, Int.mul_one]
  omega
theorem shareL_get {a : Int} {n : Nat} {j : Nat} {x : Int} (hx : (shareL a n)[j]? = some x) : x = a.tdiv n + if j < (a.tmod n).toNat then 1 else 0 := by
  unfold shareL at hx
  by_cases hj : j < (a.tmod n).toNat
  · rw [List.getElem?_append_left (by simpa using hj), List.getElem?_replicate, if_pos hj] at hx
    rw [if_pos hj]
    exact (Option.some.inj hx).symm
  · rw [List.getElem?_append_right (by simpa using hj), List.getElem?_replicate] at hx
    split at hx
    · rw [if_neg hj, Int.add_zero]; exact (Option.some.inj hx).symm
    · cases hx
theorem isum_take {xs : List Int} {j : Nat} {x : Int} (hx : xs[j]? = some x) : isum (xs.take (j + 1)) = isum (xs.take j) + x := by
  rw [take_at hx, isum_app]; simp [isum]
set_option maxRecDepth 100000 in
set_option maxHeartbeats 2000000 in
theorem partyShares_c (id am : Int) (H : Hall) (A : Option Addr) (n c : Nat) (w0 : World) (hP : Ptys w0 A n H.ps) :
    Calls Try.prog 8 #[.agg #[.int .i64 H.tick, .int .i64 H.last, .slice A n c], .int .i64 id, .int .i64 am] w0 fun e w' => e = .returned (.bool true) ∧ Gr w0 w' := by
  refine m_enter Try.func8 rfl Try.ntmps8 (Nat.le_of_ble_eq_true rfl) ?_
  intro a hA
  have hS := St.start w0
  refine m_seq ?_
  refine m_region ?_
  refine m_box hA hS rfl rfl ?_
  clear hA hS a; intro a b1 w hA hleb1 hgb1 hS
  refine m1 hA hS (Y.assign rfl) rfl ?_
  clear hA a; intro a hA
  refine m_nil ?_
  refine m_then ?_
  refine m_seq ?_
  refine m_seq ?_
  refine m_region ?_
  refine m_callb hA hS Try.call10 rfl rfl (awake_c _) ?_
  clear hA hS a; intro a w hA hS hg
  refine m1 hA hS (Y.not rfl) rfl ?_
  clear hA a; intro a hA
  refine m_nil ?_
  refine m_then ?_
  refine m_condF hA rfl (rfl) ?_
  refine m_skip ?_
  refine m_then ?_
  refine m_seq ?_
  refine m_seq ?_
  refine m_region ?_
  refine m1 hA hS (Y.loads rfl Try.isAgg24 Try.sizeOf24 (fun w h => h.cells (i := 0) rfl) rfl) rfl ?_
  clear hA a; intro a hA
  refine m_callb hA hS Try.call11 rfl rfl (small_c H A n c _ (hP.gr (hS.gr0 (by simp)))) ?_
  clear hA hS a; intro a w hA hS hg
  refine m1 hA hS (Y.not rfl) rfl ?_
  clear hA a; intro a hA
  refine m1 hA hS (Y.move rfl) rfl ?_
  clear hA a; intro a hA
  replace hA := hA.keep [20, 6, 3, 1, 2] rfl
  apply m_or 4 24 20 hA hS rfl
  · intro hp1
    refine m1s hA (dj := 20) rfl rfl rfl hp1 rfl ?_
    intro a hA
    refine m1s hA (dj := 20) rfl rfl rfl hp1 rfl ?_
    clear hA a; intro a hA
    refine m1s hA (dj := 20) rfl rfl rfl hp1 rfl ?_
    clear hA a; intro a hA
    refine m1 hA hS (Y.pickT' rfl hp1 rfl) rfl ?_
    clear hA a; intro a hA
    exact m_nil (m_then ⟨hA.keep [24, 20, 6, 3, 1, 2] rfl, hS⟩)
  · intro hp1
    refine m1g hA hS (dj := 20) rfl rfl rfl hp1 (Y.loads rfl Try.isAgg24 Try.sizeOf24 (fun w h => h.cells (i := 0) rfl) rfl) rfl ?_
    intro a hA
    refine m_callbg (dj := 20) hA hS rfl rfl rfl hp1 Try.call12 rfl rfl (valid_c H A n c _ (hP.gr (hS.gr0 (by simp)))) ?_
    clear hA a; intro a w hA hS hg
    refine m1g hA hS (dj := 20) rfl rfl rfl hp1 (Y.not rfl) rfl ?_
    clear hA a; intro a hA
    refine m1 hA hS (Y.pickF' rfl hp1 rfl) rfl ?_
    clear hA a; intro a hA
    exact m_nil (m_then ⟨hA.keep [24, 20, 6, 3, 1, 2] rfl, hS⟩)
  · clear hA hS a; intro a w hA hS
    refine m_nil ?_
    refine m_then ?_
    refine m_cond hA rfl (fun hc => ?_) (fun hc => ?_)
    · refine m_seq ?_
      refine m_region ?_
      refine m1 hA hS (Y.assign rfl) rfl ?_
      clear hA a; intro a hA
      refine m_nil ?_
      refine m_then ?_
      refine m_retc ?_
      refine r_then ?_
      refine m_ret1 hA Try.results8 rfl ?_
      exact ⟨rfl, hS.gr0 (by simp)⟩
    · simp only [Bool.or_eq_false_iff, Bool.not_eq_false'] at hc
      have hval := hc.2
      refine m_skip ?_
      refine m_then ?_
      refine m_seq ?_
      refine m_region ?_
      refine m1 hA hS (Y.move rfl) rfl ?_
      clear hA a; intro a hA
      refine m_callb hA hS Try.call16 rfl rfl (pick_c am 1099511627777 (by decide) _) ?_
      clear hA hS a; intro a w hA hS hg
      obtain ⟨hb0, hb1⟩ := pickF_range am (n := 1099511627777) (by decide)
      obtain ⟨b, hb⟩ : ∃ b, b = pickF am 1099511627777 := ⟨_, rfl⟩
      rw [← hb] at hA hb0 hb1
      obtain ⟨p, ok, hfd⟩ : ∃ p ok, findF id H.ps = (p, ok) := ⟨_, _, rfl⟩
      refine m1 hA hS (Y.assign rfl) rfl ?_
      clear hA a; intro a hA
      refine m_nil ?_
      refine m_then ?_
      refine m_seq ?_
      refine m_region ?_
      refine m1 hA hS (Y.loads rfl Try.isAgg24 Try.sizeOf24 (fun w h => h.cells (i := 0) rfl) rfl) rfl ?_
      clear hA a; intro a hA
      refine m1 hA hS (Y.move rfl) rfl ?_
      clear hA a; intro a hA
      refine m1 hA hS (Y.move rfl) rfl ?_
      clear hA a; intro a hA
      refine m_call hA Try.call25 rfl rfl ((share_c id b H A n c _ (hP.gr (hS.gr0 (by simp)))).mono ?_)
      rintro e w ⟨A1, n1, c1, rfl, hg1, hL⟩
      refine ⟨_, rfl, ?_⟩
      clear hA a; intro a hA
      obtain ⟨lo1, v1, hL, hS⟩ := hS.keepI hg1 hL
      refine m1 hA hS (Y.move rfl) rfl ?_
      clear hA a; intro a hA
      refine m1 hA hS (Y.extract rfl rfl) rfl ?_
      clear hA a; intro a hA
      refine m1 hA hS (Y.extract rfl rfl) rfl ?_
      clear hA a; intro a hA
      refine m1 hA hS (Y.assign rfl) rfl ?_
      clear hA a; intro a hA
      refine m1 hA hS (Y.assign rfl) rfl ?_
      clear hA a; intro a hA
      refine m_nil ?_
      refine m_then ?_
      refine m_seq ?_
      refine m_region ?_
      refine m1 hA hS (Y.loads rfl Try.isAgg24 Try.sizeOf24 (fun w h => h.cells (i := 0) rfl) rfl) rfl ?_
      clear hA a; intro a hA
      refine m1 hA hS (Y.move rfl) rfl ?_
      clear hA a; intro a hA
      refine m_call hA Try.call18 rfl rfl ((find_c id H A n c _ (hP.gr (hS.gr0 (by simp)))).mono ?_)
      rintro e w ⟨M, m, mc, I, i, ic, rfl, hg2, hY⟩
      refine ⟨_, rfl, ?_⟩
      clear hA a; intro a hA
      replace hS := hS.gr hg2
      rw [hfd] at hA hY
      cases ok with
      | false => ?_
      | true => ?_
      · have hsh : shareF id b H = ([], 6) := by unfold shareF; rw [if_pos hval, hfd]
        rw [hsh] at hA hL
        have hn1 : n1 = 0 := (hL.len).symm
        subst hn1
        refine m1 hA hS (Y.move rfl) rfl ?_
        clear hA a; intro a hA
        refine m1 hA hS (Y.extract rfl rfl) rfl ?_
        clear hA a; intro a hA
        refine m1 hA hS (Y.extract rfl rfl) rfl ?_
        clear hA a; intro a hA
        refine m_alloc hA hS Try.zeroValue37 rfl ?_
        clear hA hS a; intro a b2 w hA hleb2 hgb2 hS
        refine m_store 0 hA hS rfl rfl Try.sizeOf37 rfl rfl rfl rfl ?_
        clear hS; intro w hS
        refine m1 hA hS (Y.assign rfl) rfl ?_
        clear hA a; intro a hA
        refine m_nil ?_
        refine m_then ?_
        refine m_seq ?_
        refine m_seq ?_
        refine m_region ?_
        refine m1 hA hS (Y.move rfl) rfl ?_
        clear hA a; intro a hA
        refine m1 hA hS (Y.not rfl) rfl ?_
        clear hA a; intro a hA
        refine m_nil ?_
        refine m_then ?_
        refine m_condT hA rfl (rfl) ?_
        refine m_seq ?_
        refine m_region ?_
        refine m1 hA hS (Y.move rfl) rfl ?_
        clear hA a; intro a hA
        refine m1 hA hS (Y.eqI rfl rfl) rfl ?_
        clear hA a; intro a hA
        refine m1 hA hS (Y.move rfl) rfl ?_
        clear hA a; intro a hA
        replace hA := hA.keep [44, 9, 8, 7, 2, 6, 3, 1] rfl
        apply m_and 4 48 44 hA hS rfl
        · intro hp2
          refine m1s hA (dj := 44) rfl rfl rfl hp2 rfl ?_
          intro a hA
          refine m1s hA (dj := 44) rfl rfl rfl hp2 rfl ?_
          clear hA a; intro a hA
          refine m1s hA (dj := 44) rfl rfl rfl hp2 rfl ?_
          clear hA a; intro a hA
          refine m1 hA hS (Y.pickF' rfl hp2 rfl) rfl ?_
          clear hA a; intro a hA
          exact m_nil (m_then ⟨hA.keep [48, 44, 9, 8, 7, 2, 6, 3, 1] rfl, hS⟩)
        · intro hp2
          refine m1g hA hS (dj := 44) rfl rfl rfl hp2 (Y.move rfl) rfl ?_
          intro a hA
          refine m1g hA hS (dj := 44) rfl rfl rfl hp2 (Y.lenSl rfl Try.underlying34) rfl ?_
          clear hA a; intro a hA
          refine m1g hA hS (dj := 44) rfl rfl rfl hp2 (Y.eqI rfl rfl) rfl ?_
          clear hA a; intro a hA
          refine m1 hA hS (Y.pickT' rfl hp2 rfl) rfl ?_
          clear hA a; intro a hA
          exact m_nil (m_then ⟨hA.keep [48, 44, 9, 8, 7, 2, 6, 3, 1] rfl, hS⟩)
        · clear hA hS a; intro a w hA hS
          refine m1 hA hS (Y.assign rfl) rfl ?_
          clear hA a; intro a hA
          refine m_nil ?_
          refine m_then ?_
          refine m_retc ?_
          refine r_then ?_
          refine m_ret1 hA Try.results8 rfl ?_
          exact ⟨ret_bool (by rfl), hS.gr0 (by simp)⟩
      · have hsh : shareF id b H = (shareL b p.mem.length, 0) := by unfold shareF; rw [if_pos hval, hfd]; simp only; rw [if_neg (by omega)]
        have hsh2 : shareF id (-1 - b) H = ([], 2) := by unfold shareF; rw [if_pos hval, hfd]; simp only; rw [if_pos (by omega)]
        rw [hsh] at hA hL
        have hpm : p ∈ H.ps := by
          unfold findF at hfd
          cases hq : H.ps.find? (fun p => decide (p.id = id)) with
          | none => rw [hq] at hfd; cases hfd
          | some q => rw [hq] at hfd; cases hfd; exact List.mem_of_find?_eq_some hq
        have hm1 := valid_pos hval p hpm
        have hml : p.mem.length = m := hY.mem.len
        have hn1 : n1 = p.mem.length := by have := hL.len; rw [shareL_len hm1] at this; exact this.symm
        refine m1 hA hS (Y.move rfl) rfl ?_
        clear hA a; intro a hA
        refine m1 hA hS (Y.extract rfl rfl) rfl ?_
        clear hA a; intro a hA
        refine m1 hA hS (Y.extract rfl rfl) rfl ?_
        clear hA a; intro a hA
        refine m_alloc hA hS Try.zeroValue37 rfl ?_
        clear hA hS a; intro a b3 w hA hleb3 hgb3 hS
        refine m_store 0 hA hS rfl rfl Try.sizeOf37 rfl rfl rfl rfl ?_
        clear hS; intro w hS
        refine m1 hA hS (Y.assign rfl) rfl ?_
        clear hA a; intro a hA
        refine m_nil ?_
        refine m_then ?_
        refine m_seq ?_
        refine m_seq ?_
        refine m_region ?_
        refine m1 hA hS (Y.move rfl) rfl ?_
        clear hA a; intro a hA
        refine m1 hA hS (Y.not rfl) rfl ?_
        clear hA a; intro a hA
        refine m_nil ?_
        refine m_then ?_
        refine m_condF hA rfl (rfl) ?_
        have hnm : n1 = m := by omega
        subst hnm
        refine m_skip ?_
        refine m_then ?_
        refine m_seq ?_
        refine m_seq ?_
        refine m_region ?_
        refine m1 hA hS (Y.move rfl) rfl ?_
        clear hA a; intro a hA
        refine m1 hA hS (Y.neI rfl rfl) rfl ?_
        clear hA a; intro a hA
        refine m1 hA hS (Y.move rfl) rfl ?_
        clear hA a; intro a hA
        replace hA := hA.keep [51, 9, 7, 2, 6, 3, 1] rfl
        apply m_or 7 58 51 hA hS rfl
        · intro hp3
          refine m1s hA (dj := 51) rfl rfl rfl hp3 rfl ?_
          intro a hA
          refine m1s hA (dj := 51) rfl rfl rfl hp3 rfl ?_
          clear hA a; intro a hA
          refine m1s hA (dj := 51) rfl rfl rfl hp3 rfl ?_
          clear hA a; intro a hA
          refine m1s hA (dj := 51) rfl rfl rfl hp3 rfl ?_
          clear hA a; intro a hA
          refine m1s hA (dj := 51) rfl rfl rfl hp3 rfl ?_
          clear hA a; intro a hA
          refine m1s hA (dj := 51) rfl rfl rfl hp3 rfl ?_
          clear hA a; intro a hA
          refine m1 hA hS (Y.pickT' rfl hp3 rfl) rfl ?_
          clear hA a; intro a hA
          exact m_nil (m_then ⟨hA.keep [58, 51, 9, 7, 2, 6, 3, 1] rfl, hS⟩)
        · intro hp3
          refine m1g hA hS (dj := 51) rfl rfl rfl hp3 (Y.move rfl) rfl ?_
          intro a hA
          refine m1g hA hS (dj := 51) rfl rfl rfl hp3 (Y.lenSl rfl Try.underlying34) rfl ?_
          clear hA a; intro a hA
          refine m1g hA hS (dj := 51) rfl rfl rfl hp3 (Y.fieldAddr (k := 2) rfl Try.underlying37 rfl rfl Try.sizeOf34) rfl ?_
          clear hA a; intro a hA
          refine m1g hA hS (dj := 51) rfl rfl rfl hp3 (Y.load rfl Try.isAgg34 (fun w h => h.cell (i := 0) rfl rfl)) rfl ?_
          clear hA a; intro a hA
          refine m1g hA hS (dj := 51) rfl rfl rfl hp3 (Y.lenSl rfl Try.underlying34) rfl ?_
          clear hA a; intro a hA
          refine m1g hA hS (dj := 51) rfl rfl rfl hp3 (Y.neI rfl rfl) rfl ?_
          clear hA a; intro a hA
          refine m1 hA hS (Y.pickF' rfl hp3 rfl) rfl ?_
          clear hA a; intro a hA
          exact m_nil (m_then ⟨hA.keep [58, 51, 9, 7, 2, 6, 3, 1] rfl, hS⟩)
        · clear hA hS a; intro a w hA hS
          refine m_nil ?_
          refine m_then ?_
          refine m_condF hA rfl ((by simp)) ?_
          have hn5 : n1 ≤ 5 := by
            obtain ⟨_, y2, _⟩ := valid_small hval
            have := y2 p hpm
            omega
          have hLl : (shareL b p.mem.length).length = n1 := hL.len
          have hsum : isum (shareL b p.mem.length) = b := shareL_sum hb0 hm1
          have hq0 : 0 ≤ b.tdiv (p.mem.length : Int) := Int.tdiv_nonneg hb0 (by omega)
          have hq1 : b.tdiv (p.mem.length : Int) ≤ b := Int.tdiv_le_self _ hb0
          have hnn : ∀ k : Nat, 0 ≤ isum ((shareL b p.mem.length).take k) ∧ isum ((shareL b p.mem.length).take k) ≤ 1099511627777 * k := by
            intro k
            induction k with
            | zero => simp [isum]
            | succ k ih =>
              by_cases hk : k < (shareL b p.mem.length).length
              · obtain ⟨x, hx⟩ : ∃ x, (shareL b p.mem.length)[k]? = some x := ⟨_, List.getElem?_eq_getElem hk⟩
                rw [isum_take hx]
                have := shareL_get hx
                split at this <;> omega
              · rw [List.take_of_length_le (by omega)]
                rw [List.take_of_length_le (by omega)] at ih
                omega
          refine m_skip ?_
          refine m_then ?_
          refine m_seq ?_
          refine m_region ?_
          refine m1 hA hS (Y.assign rfl) rfl ?_
          clear hA a; intro a hA
          refine m_nil ?_
          refine m_then ?_
          refine m_seq ?_
          refine m_seq ?_
          refine m_region ?_
          refine m1 hA hS (Y.assign rfl) rfl ?_
          clear hA a; intro a hA
          refine m_nil ?_
          refine m_then ?_
          refine m_block ?_
          -- LOST [6]
          refine m_loopX [7, 2, 3, 1] rfl hA ((0 : Nat)) (fun j => [(12, .int .i64 (j : Int)), (11, .int .i64 (isum ((shareL b p.mem.length).take j)))]) (fun _ => _) (fun _ => _) (fun j => j ≤ n1) (fun j => n1 - j) (ks := [12, 11]) rfl hS (Nat.zero_le _) ?_
          clear hA hS a; rintro j a w hA hS hj
          try dsimp only at hA
          try dsimp only at hS
          try dsimp only at hj
          obtain hj := hj
          replace hA := hA.keep [12, 11, 7, 2, 3, 1] rfl
          refine m_seq ?_
          refine m_seq ?_
          refine m_region ?_
          refine m1 hA hS (Y.move rfl) rfl ?_
          clear hA a; intro a hA
          refine m1 hA hS (Y.move rfl) rfl ?_
          clear hA a; intro a hA
          refine m1 hA hS (Y.lenSl rfl Try.underlying34) rfl ?_
          clear hA a; intro a hA
          refine m1 hA hS (Y.ltI rfl rfl) rfl ?_
          clear hA a; intro a hA
          refine m_nil ?_
          refine m_then ?_
          refine m_condP hA rfl (fun hlt => ?_) (fun hlt => ?_)
          · obtain ⟨bb, o, x, rfl, hlo, hx, p0⟩ := hL.atL (j := j) (by omega)
            obtain ⟨bz, oz, z, ez, _, hz, pz⟩ := hL.atL (j := 0) (by omega)
            cases ez
            have hxv := shareL_get hx
            have hzv := shareL_get hz
            have hx0 : 0 ≤ x := by split at hxv <;> omega
            have hx1 : x ≤ b + 1 := by split at hxv <;> omega
            have hz1 : z - x ≤ 1 := by split at hxv <;> split at hzv <;> omega
            have hzb : 0 ≤ z ∧ z ≤ b + 1 := by split at hzv <;> omega
            have hsj := hnn j
            have hview : (lo1, v1) ∈ [(lo1, v1), (0, w0)] := List.mem_cons_self ..
            have hneg : decide (x < 0) = false := decide_eq_false (by omega)
            have hdif : decide (1 < z - x) = false := decide_eq_false (by omega)
            by_cases hj0 : j = 0
            · have hg1 : decide ((0 : Int) < (j : Int)) = false := decide_eq_false (by omega)
              refine m_skip ?_
              refine m_then ?_
              refine m_seq ?_
              refine m_block ?_
              refine m_seq ?_
              refine m_region ?_
              refine m1 hA hS (Y.move rfl) rfl ?_
              clear hA a; intro a hA
              refine m1 hA hS (Y.move rfl) rfl ?_
              clear hA a; intro a hA
              refine m1 hA hS (Y.move rfl) rfl ?_
              clear hA a; intro a hA
              refine m1 hA hS (Y.indexAddrN rfl rfl Try.underlying34 Try.sizeOf3 (by omega)) rfl ?_
              clear hA a; intro a hA
              refine m1 hA hS (Y.load rfl Try.isAgg3 (fun w h => h.rd hview hlo (p0))) rfl ?_
              clear hA a; intro a hA
              refine m1 hA hS (Y.addI rfl rfl (by omega)) rfl ?_
              clear hA a; intro a hA
              refine m1 hA hS (Y.assign rfl) rfl ?_
              clear hA a; intro a hA
              refine m_nil ?_
              refine m_then ?_
              refine m_seq ?_
              refine q_region hS rfl (by kernel_rfl) ?_
              refine q1 hA (Y.move rfl) rfl ?_
              clear hA a; intro a hA
              refine q1 hA (Y.gtI rfl rfl) rfl ?_
              clear hA a; intro a hA
              refine q1 hA (Y.move rfl) rfl ?_
              clear hA a; intro a hA
              refine q1s hA (dj := 73) rfl rfl rfl hg1 rfl ?_
              clear hA a; intro a hA
              refine q1s hA (dj := 73) rfl rfl rfl hg1 rfl ?_
              clear hA a; intro a hA
              refine q1s hA (dj := 73) rfl rfl rfl hg1 rfl ?_
              clear hA a; intro a hA
              refine q1s hA (dj := 73) rfl rfl rfl hg1 rfl ?_
              clear hA a; intro a hA
              refine q1s hA (dj := 73) rfl rfl rfl hg1 rfl ?_
              clear hA a; intro a hA
              refine q1s hA (dj := 73) rfl rfl rfl hg1 rfl ?_
              clear hA a; intro a hA
              refine q1s hA (dj := 73) rfl rfl rfl hg1 rfl ?_
              clear hA a; intro a hA
              refine q1s hA (dj := 73) rfl rfl rfl hg1 rfl ?_
              clear hA a; intro a hA
              refine q1s hA (dj := 73) rfl rfl rfl hg1 rfl ?_
              clear hA a; intro a hA
              refine q1s hA (dj := 73) rfl rfl rfl hg1 rfl ?_
              clear hA a; intro a hA
              refine q1 hA (Y.pickF' rfl hg1 rfl) rfl ?_
              clear hA a; intro a hA
              refine q1 hA (Y.move rfl) rfl ?_
              clear hA a; intro a hA
              refine q1g hA (dj := 85) rfl rfl rfl (rfl : false = false) (Y.move rfl) rfl ?_
              clear hA a; intro a hA
              refine q1g hA (dj := 85) rfl rfl rfl (rfl : false = false) (Y.move rfl) rfl ?_
              clear hA a; intro a hA
              refine q1g hA (dj := 85) rfl rfl rfl (rfl : false = false) (Y.indexAddrN rfl rfl Try.underlying34 Try.sizeOf3 (by omega)) rfl ?_
              clear hA a; intro a hA
              refine q1g hA (dj := 85) rfl rfl rfl (rfl : false = false) (Y.load rfl Try.isAgg3 (fun w h => h.rd hview hlo (p0))) rfl ?_
              clear hA a; intro a hA
              refine q1g hA (dj := 85) rfl rfl rfl (rfl : false = false) (Y.ltI rfl rfl) rfl ?_
              clear hA a; intro a hA
              refine q1 hA (Y.pickF' rfl (rfl : false = false) rfl) rfl ?_
              clear hA a; intro a hA
              refine q1 hA (Y.move rfl) rfl ?_
              clear hA a; intro a hA
              refine q1g hA (dj := 92) rfl rfl rfl hneg (Y.move rfl) rfl ?_
              clear hA a; intro a hA
              refine q1g hA (dj := 92) rfl rfl rfl hneg (Y.indexAddr rfl rfl Try.underlying34 Try.sizeOf3 (by omega) (by omega)) rfl ?_
              clear hA a; intro a hA
              refine q1g hA (dj := 92) rfl rfl rfl hneg (Y.load rfl Try.isAgg3 (fun w h => h.rd hview hlo (pz))) rfl ?_
              clear hA a; intro a hA
              refine q1g hA (dj := 92) rfl rfl rfl hneg (Y.move rfl) rfl ?_
              clear hA a; intro a hA
              refine q1g hA (dj := 92) rfl rfl rfl hneg (Y.move rfl) rfl ?_
              clear hA a; intro a hA
              refine q1g hA (dj := 92) rfl rfl rfl hneg (Y.indexAddrN rfl rfl Try.underlying34 Try.sizeOf3 (by omega)) rfl ?_
              clear hA a; intro a hA
              refine q1g hA (dj := 92) rfl rfl rfl hneg (Y.load rfl Try.isAgg3 (fun w h => h.rd hview hlo (p0))) rfl ?_
              clear hA a; intro a hA
              refine q1g hA (dj := 92) rfl rfl rfl hneg (Y.subI rfl rfl (by omega)) rfl ?_
              clear hA a; intro a hA
              refine q1g hA (dj := 92) rfl rfl rfl hneg (Y.gtI rfl rfl) rfl ?_
              clear hA a; intro a hA
              refine q1 hA (Y.pickF' rfl hneg rfl) rfl ?_
              clear hA a; intro a hA
              refine q_nil ?_
              clear hS; intro w hS
              refine m_then ?_
              refine m_condF hA rfl (hdif) ?_
              refine m_skip ?_
              refine n_block ?_
              refine m_then ?_
              refine m_region ?_
              refine m1 hA hS (Y.move rfl) rfl ?_
              clear hA a; intro a hA
              refine m1 hA hS (Y.addI rfl rfl (by omega)) rfl ?_
              clear hA a; intro a hA
              refine m1 hA hS (Y.assign rfl) rfl ?_
              clear hA a; intro a hA
              refine m_nil ?_
              rw [← isum_take hx] at hA
              exact m_then ⟨j + 1, by (try dsimp only); omega, hA.keep [12, 11, 7, 2, 3, 1] rfl, hS, by (try dsimp only); exact (by omega : j + 1 ≤ n1)⟩
            · have hg1 : decide ((0 : Int) < (j : Int)) = true := decide_eq_true (by omega)
              obtain ⟨by', oy, y, ey, _, hy, py⟩ := hL.atL (j := ((j : Int) - 1).toNat) (by omega)
              cases ey
              have hyv := shareL_get hy
              have hxy : decide (y < x) = false := decide_eq_false (by
                split at hxv <;> split at hyv <;> omega)
              refine m_skip ?_
              refine m_then ?_
              refine m_seq ?_
              refine m_block ?_
              refine m_seq ?_
              refine m_region ?_
              refine m1 hA hS (Y.move rfl) rfl ?_
              clear hA a; intro a hA
              refine m1 hA hS (Y.move rfl) rfl ?_
              clear hA a; intro a hA
              refine m1 hA hS (Y.move rfl) rfl ?_
              clear hA a; intro a hA
              refine m1 hA hS (Y.indexAddrN rfl rfl Try.underlying34 Try.sizeOf3 (by omega)) rfl ?_
              clear hA a; intro a hA
              refine m1 hA hS (Y.load rfl Try.isAgg3 (fun w h => h.rd hview hlo (p0))) rfl ?_
              clear hA a; intro a hA
              refine m1 hA hS (Y.addI rfl rfl (by omega)) rfl ?_
              clear hA a; intro a hA
              refine m1 hA hS (Y.assign rfl) rfl ?_
              clear hA a; intro a hA
              refine m_nil ?_
              refine m_then ?_
              refine m_seq ?_
              refine q_region hS rfl (by kernel_rfl) ?_
              refine q1 hA (Y.move rfl) rfl ?_
              clear hA a; intro a hA
              refine q1 hA (Y.gtI rfl rfl) rfl ?_
              clear hA a; intro a hA
              refine q1 hA (Y.move rfl) rfl ?_
              clear hA a; intro a hA
              refine q1g hA (dj := 73) rfl rfl rfl hg1 (Y.move rfl) rfl ?_
              clear hA a; intro a hA
              refine q1g hA (dj := 73) rfl rfl rfl hg1 (Y.move rfl) rfl ?_
              clear hA a; intro a hA
              refine q1g hA (dj := 73) rfl rfl rfl hg1 (Y.indexAddrN rfl rfl Try.underlying34 Try.sizeOf3 (by omega)) rfl ?_
              clear hA a; intro a hA
              refine q1g hA (dj := 73) rfl rfl rfl hg1 (Y.load rfl Try.isAgg3 (fun w h => h.rd hview hlo (p0))) rfl ?_
              clear hA a; intro a hA
              refine q1g hA (dj := 73) rfl rfl rfl hg1 (Y.move rfl) rfl ?_
              clear hA a; intro a hA
              refine q1g hA (dj := 73) rfl rfl rfl hg1 (Y.move rfl) rfl ?_
              clear hA a; intro a hA
              refine q1g hA (dj := 73) rfl rfl rfl hg1 (Y.subI rfl rfl (by omega)) rfl ?_
              clear hA a; intro a hA
              refine q1g hA (dj := 73) rfl rfl rfl hg1 (Y.indexAddr rfl rfl Try.underlying34 Try.sizeOf3 (by omega) (by omega)) rfl ?_
              clear hA a; intro a hA
              refine q1g hA (dj := 73) rfl rfl rfl hg1 (Y.load rfl Try.isAgg3 (fun w h => h.rd hview hlo (py))) rfl ?_
              clear hA a; intro a hA
              refine q1g hA (dj := 73) rfl rfl rfl hg1 (Y.gtI rfl rfl) rfl ?_
              clear hA a; intro a hA
              refine q1 hA (Y.pickT' rfl hg1 rfl) rfl ?_
              clear hA a; intro a hA
              refine q1 hA (Y.move rfl) rfl ?_
              clear hA a; intro a hA
              refine q1g hA (dj := 85) rfl rfl rfl hxy (Y.move rfl) rfl ?_
              clear hA a; intro a hA
              refine q1g hA (dj := 85) rfl rfl rfl hxy (Y.move rfl) rfl ?_
              clear hA a; intro a hA
              refine q1g hA (dj := 85) rfl rfl rfl hxy (Y.indexAddrN rfl rfl Try.underlying34 Try.sizeOf3 (by omega)) rfl ?_
              clear hA a; intro a hA
              refine q1g hA (dj := 85) rfl rfl rfl hxy (Y.load rfl Try.isAgg3 (fun w h => h.rd hview hlo (p0))) rfl ?_
              clear hA a; intro a hA
              refine q1g hA (dj := 85) rfl rfl rfl hxy (Y.ltI rfl rfl) rfl ?_
              clear hA a; intro a hA
              refine q1 hA (Y.pickF' rfl hxy rfl) rfl ?_
              clear hA a; intro a hA
              refine q1 hA (Y.move rfl) rfl ?_
              clear hA a; intro a hA
              refine q1g hA (dj := 92) rfl rfl rfl hneg (Y.move rfl) rfl ?_
              clear hA a; intro a hA
              refine q1g hA (dj := 92) rfl rfl rfl hneg (Y.indexAddr rfl rfl Try.underlying34 Try.sizeOf3 (by omega) (by omega)) rfl ?_
              clear hA a; intro a hA
              refine q1g hA (dj := 92) rfl rfl rfl hneg (Y.load rfl Try.isAgg3 (fun w h => h.rd hview hlo (pz))) rfl ?_
              clear hA a; intro a hA
              refine q1g hA (dj := 92) rfl rfl rfl hneg (Y.move rfl) rfl ?_
              clear hA a; intro a hA
              refine q1g hA (dj := 92) rfl rfl rfl hneg (Y.move rfl) rfl ?_
              clear hA a; intro a hA
              refine q1g hA (dj := 92) rfl rfl rfl hneg (Y.indexAddrN rfl rfl Try.underlying34 Try.sizeOf3 (by omega)) rfl ?_
              clear hA a; intro a hA
              refine q1g hA (dj := 92) rfl rfl rfl hneg (Y.load rfl Try.isAgg3 (fun w h => h.rd hview hlo (p0))) rfl ?_
              clear hA a; intro a hA
              refine q1g hA (dj := 92) rfl rfl rfl hneg (Y.subI rfl rfl (by omega)) rfl ?_
              clear hA a; intro a hA
              refine q1g hA (dj := 92) rfl rfl rfl hneg (Y.gtI rfl rfl) rfl ?_
              clear hA a; intro a hA
              refine q1 hA (Y.pickF' rfl hneg rfl) rfl ?_
              clear hA a; intro a hA
              refine q_nil ?_
              clear hS; intro w hS
              refine m_then ?_
              refine m_condF hA rfl (hdif) ?_
              refine m_skip ?_
              refine n_block ?_
              refine m_then ?_
              refine m_region ?_
              refine m1 hA hS (Y.move rfl) rfl ?_
              clear hA a; intro a hA
              refine m1 hA hS (Y.addI rfl rfl (by omega)) rfl ?_
              clear hA a; intro a hA
              refine m1 hA hS (Y.assign rfl) rfl ?_
              clear hA a; intro a hA
              refine m_nil ?_
              rw [← isum_take hx] at hA
              exact m_then ⟨j + 1, by (try dsimp only); omega, hA.keep [12, 11, 7, 2, 3, 1] rfl, hS, by (try dsimp only); exact (by omega : j + 1 ≤ n1)⟩
          · have hjn : j = n1 := by omega
            have htk : (shareL b p.mem.length).take j = shareL b p.mem.length := List.take_of_length_le (by omega)
            rw [htk, hsum] at hA
            refine m_exit ?_
            refine x_then ?_
            refine x_then ?_
            refine x_block ?_
            refine m_then ?_
            refine m_seq ?_
            refine m_region ?_
            refine m1 hA hS (Y.loads rfl Try.isAgg24 Try.sizeOf24 (fun w h => h.cells (i := 1) rfl) rfl) rfl ?_
            clear hA a; intro a hA
            refine m1 hA hS (Y.move rfl) rfl ?_
            clear hA a; intro a hA
            refine m1 hA hS (Y.move rfl) rfl ?_
            clear hA a; intro a hA
            refine m1 hA hS (Y.subI rfl rfl (by omega)) rfl ?_
            clear hA a; intro a hA
            refine m_call hA Try.call25 rfl rfl ((share_c id (-1 - b) H A n c _ (hP.gr (hS.gr0 (by simp)))).mono ?_)
            rintro e w ⟨A3, n3, c3, rfl, hg3, hL3⟩
            refine ⟨_, rfl, ?_⟩
            clear hA a; intro a hA
            rw [hsh2] at hA
            replace hS := hS.gr hg3
            refine m1 hA hS (Y.move rfl) rfl ?_
            clear hA a; intro a hA
            refine m1 hA hS (Y.extract rfl rfl) rfl ?_
            clear hA a; intro a hA
            refine m1 hA hS (Y.extract rfl rfl) rfl ?_
            clear hA a; intro a hA
            refine m1 hA hS (Y.assign rfl) rfl ?_
            clear hA a; intro a hA
            refine m1 hA hS (Y.assign rfl) rfl ?_
            clear hA a; intro a hA
            refine m_nil ?_
            refine m_then ?_
            refine m_seq ?_
            refine m_region ?_
            refine m1 hA hS (Y.move rfl) rfl ?_
            clear hA a; intro a hA
            refine m1 hA hS (Y.move rfl) rfl ?_
            clear hA a; intro a hA
            refine m1 hA hS (Y.eqI rfl rfl) rfl ?_
            clear hA a; intro a hA
            refine m1 hA hS (Y.move rfl) rfl ?_
            clear hA a; intro a hA
            replace hA := hA.keep [114, 14] rfl
            apply m_and 3 117 114 hA hS rfl
            · intro hp4
              refine m1s hA (dj := 114) rfl rfl rfl hp4 rfl ?_
              intro a hA
              refine m1s hA (dj := 114) rfl rfl rfl hp4 rfl ?_
              clear hA a; intro a hA
              refine m1 hA hS (Y.pickF' rfl hp4 rfl) rfl ?_
              clear hA a; intro a hA
              exact m_nil (m_then ⟨hA.keep [117, 114, 14] rfl, hS⟩)
            · intro hp4
              refine m1g hA hS (dj := 114) rfl rfl rfl hp4 (Y.move rfl) rfl ?_
              intro a hA
              refine m1g hA hS (dj := 114) rfl rfl rfl hp4 (Y.eqI rfl rfl) rfl ?_
              clear hA a; intro a hA
              refine m1 hA hS (Y.pickT' rfl hp4 rfl) rfl ?_
              clear hA a; intro a hA
              exact m_nil (m_then ⟨hA.keep [117, 114, 14] rfl, hS⟩)
            · clear hA hS a; intro a w hA hS
              refine m1 hA hS (Y.assign rfl) rfl ?_
              clear hA a; intro a hA
              refine m_nil ?_
              refine m_then ?_
              refine m_retc ?_
              refine m_ret1 hA Try.results8 rfl ?_
              exact ⟨ret_bool (by simp), hS.gr0 (by simp)⟩
end Go.Proofs.Ytljkhijdaaconaa
