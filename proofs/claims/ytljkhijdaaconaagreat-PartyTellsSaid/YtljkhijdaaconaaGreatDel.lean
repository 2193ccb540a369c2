/- Contracts: DeleteFunc, in place. Contracts: DeleteFunc of invitations, in place. -/
import Derived.Test.YtljkhijdaaconaaGreatEng2
import Derived.Test.YtljkhijdaaconaaGreatClone
import Derived.Test.YtljkhijdaaconaaGreatFind
set_option linter.unusedVariables false
namespace Go.Proofs.YtljkhijdaaconaaGreat
open Go.RowKit

theorem idxF_cases {α : Type} (p : α → Bool) : ∀ (xs : List α) (k : Nat), (idxF p k xs = -1 ∧ ∀ x ∈ xs, p x = false) ∨ ∃ pre x post, xs = pre ++ x :: post ∧ idxF p k xs = ((k + pre.length : Nat) : Int) ∧ (∀ y ∈ pre, p y = false) ∧ p x = true
  | [], k => .inl ⟨rfl, by simp⟩
  | x :: xs, k => by
    by_cases hx : p x = true
    · exact .inr ⟨[], x, xs, rfl, by simp [idxF, hx], by simp, hx⟩
    · have hx' : p x = false := by simpa using hx
      rcases idxF_cases p xs (k + 1) with ⟨h1, h2⟩ | ⟨pre, y, post, rfl, h1, h2, h3⟩
      · refine .inl ⟨by simp only [idxF, hx', Bool.false_eq_true, if_false]; exact h1, ?_⟩
        intro y hy
        rcases List.mem_cons.1 hy with rfl | hy
        · exact hx'
        · exact h2 y hy
      · refine .inr ⟨x :: pre, y, post, rfl, ?_, ?_, h3⟩
        · simp only [idxF, hx', Bool.false_eq_true, if_false, h1, List.length_cons]; omega
        · intro z hz
          rcases List.mem_cons.1 hz with rfl | hz
          · exact hx'
          · exact h2 z hz
theorem filter_all {α : Type} {p : α → Bool} {xs : List α} (h : ∀ x ∈ xs, p x = false) : xs.filter (fun x => !p x) = xs := List.filter_eq_self.2 fun x hx => by rw [h x hx]; rfl
theorem get2 {l m c r : List Value} {o : Nat} (ho : o = l.length + m.length) : ∀ j v, c[j]? = some v → (l ++ (m ++ (c ++ r)))[o + j]? = some v := fun j v hj => by
  subst ho
  rw [← List.append_assoc]
  exact mid_get (by simp) j v hj

set_option maxRecDepth 100000 in
theorem delInt_c (v : Value) (xs : List Int) (bs B : List Bx) (V : List (Nat × World)) (g : Nat) (cap : List Value) (p : Int → Bool) (w0 w : World) (hS : St w (bs ++ B) V) (hw0 : (0, w0) ∈ V) (hR : IntsB v xs bs) (hle : xs.length ≤ 100)
    (eg : ∀ args w, (callFunc g args).run Tryz.prog w = .ok (.enter g args) w)
    (hf : ∀ W bs', St W (bs' ++ B) V → ∀ x, Calls Tryz.prog g ([Value.int .i64 x] ++ cap).toArray W fun e W' => e = .returned (.bool (p x)) ∧ Gr W W') :
    Calls Tryz.prog 110 #[v, .func (.func g) #[] cap.toArray] w fun e w' => ∃ v' bs', e = .returned v' ∧ IntsB v' (xs.filter fun x => !p x) bs' ∧ St w' (bs' ++ B) V := by
  obtain ⟨A, c, hv, hI⟩ := IntsB.read hR (hS.out hw0) hle
  subst hv
  have hl := hI.len
  refine m_enter Tryz.func110 rfl Tryz.ntmps110 (Nat.le_of_ble_eq_true rfl) ?_
  intro a hA
  refine m_seq ?_
  refine m_region ?_
  refine m1 hA hS (Y.assign rfl) rfl ?_
  clear hA a; intro a hA
  refine m_nil ?_
  refine m_then ?_
  refine m_seq ?_
  refine m_region ?_
  refine m1 hA hS (Y.move rfl) rfl ?_
  clear hA a; intro a hA
  refine m1 hA hS (Y.move rfl) rfl ?_
  clear hA a; intro a hA
  refine m_callb hA hS Tryz.call65 rfl rfl (indexFuncInt_c _ _ _ xs _ _ p _ (IntsL.zero hI) eg (fun W x hg => by simpa using hf W bs (hS.gr hg) x)) ?_
  clear hA hS a; intro a w hA hS hg
  refine m1 hA hS (Y.assign rfl) rfl ?_
  clear hA a; intro a hA
  refine m_nil ?_
  refine m_then ?_
  refine m_seq ?_
  refine m_seq ?_
  refine m_region ?_
  refine m1 hA hS (Y.move rfl) rfl ?_
  clear hA a; intro a hA
  refine m1 hA hS (Y.eqI rfl rfl) rfl ?_
  clear hA a; intro a hA
  refine m_nil ?_
  refine m_then ?_
  refine m_condP hA rfl (fun hc => ?_) (fun hc => ?_)
  · have hall : ∀ x ∈ xs, p x = false := by
      rcases idxF_cases p xs 0 with ⟨_, h⟩ | ⟨pre, x, post, _, h, _⟩
      · exact h
      · omega
    refine m_seq ?_
    refine m_region ?_
    refine m1 hA hS (Y.move rfl) rfl ?_
    clear hA a; intro a hA
    refine m1 hA hS (Y.assign rfl) rfl ?_
    clear hA a; intro a hA
    refine m_nil ?_
    refine m_then ?_
    refine m_retc ?_
    refine r_then ?_
    refine m_ret1 hA Tryz.results110 rfl ?_
    exact ⟨_, bs, rfl, by rw [filter_all hall]; exact hR, hS⟩
  · obtain ⟨pre, x0, post, hxs, hidx, hpre, hx0⟩ : ∃ pre x post, xs = pre ++ x :: post ∧ idxF p 0 xs = ((0 + pre.length : Nat) : Int) ∧ (∀ y ∈ pre, p y = false) ∧ p x = true := by
      rcases idxF_cases p xs 0 with ⟨h, _⟩ | h
      · omega
      · exact h
    rw [Nat.zero_add] at hidx
    rw [hidx] at hA
    obtain ⟨hRl, ⟨he, hn0, rfl⟩ | ⟨b, cap', cur, he, rfl, hcap, hmax, hcur, htake⟩⟩ := hR
    · exfalso
      rw [hxs] at hn0
      simp at hn0
    cases he
    obtain ⟨rest, hrest⟩ : ∃ rest, cur = xs.map (Value.int .i64) ++ rest := ⟨cur.drop (xs.length * 1), by rw [← htake, List.take_append_drop]⟩
    have hjn : pre.length + 1 ≤ xs.length := by rw [hxs]; simp
    have hd : xs.drop (pre.length + 1) = post := by
      rw [hxs, List.drop_append]
      simp
    have ht : xs.take (pre.length + 1) = pre ++ [x0] := by
      rw [hxs, List.take_append, List.take_of_length_le (by omega)]
      simp
    have hcur2 : cur = pre.map (Value.int .i64) ++ ([Value.int .i64 x0] ++ ((xs.drop (pre.length + 1)).map (Value.int .i64) ++ rest)) := by
      rw [hrest, hd, hxs]
      simp
    rw [hcur2] at hS
    have hinit : pre = (xs.take (pre.length + 1)).filter fun x => !p x := by
      rw [ht, List.filter_append, filter_all hpre]
      simp [hx0]
    refine m_skip ?_
    refine m_then ?_
    refine m_seq ?_
    refine m_seq ?_
    refine m_region ?_
    refine m1 hA hS (Y.move rfl) rfl ?_
    clear hA a; intro a hA
    refine m1 hA hS (Y.addI rfl rfl (by omega)) rfl ?_
    clear hA a; intro a hA
    refine m1 hA hS (Y.assign rfl) rfl ?_
    clear hA a; intro a hA
    refine m_nil ?_
    refine m_then ?_
    refine m_block ?_
    refine m_loopX [4, 0, 1] rfl hA ((pre, [Value.int .i64 x0], pre.length + 1)) (fun y => [(5, .int .i64 (y.1.length : Int)), (6, .int .i64 (y.2.2 : Int))]) (fun y => [cB b (y.1.map (Value.int .i64) ++ (y.2.1 ++ ((xs.drop y.2.2).map (Value.int .i64) ++ rest))) 3] ++ B) (fun _ => V) (fun y => y.1 = (xs.take y.2.2).filter (fun x => !p x) ∧ y.1.length + y.2.1.length = y.2.2 ∧ 0 < y.2.1.length ∧ y.2.2 ≤ xs.length) (fun y => xs.length - y.2.2) (ks := [5, 6]) rfl hS (⟨hinit, by simp, by simp, hjn⟩) ?_
    clear hA hS a; rintro ⟨kept, junk, j⟩ a w hA hS hj
    try dsimp only at hA
    try dsimp only at hS
    try dsimp only at hj
    obtain ⟨hk, hsum, hpos, hj⟩ := hj
    replace hA := hA.keep [5, 6, 4, 0, 1] rfl
    refine m_seq ?_
    refine m_seq ?_
    refine m_region ?_
    refine m1 hA hS (Y.move rfl) rfl ?_
    clear hA a; intro a hA
    refine m1 hA hS (Y.move rfl) rfl ?_
    clear hA a; intro a hA
    refine m1 hA hS (Y.lenSl rfl Tryz.underlying38) rfl ?_
    clear hA a; intro a hA
    refine m1 hA hS (Y.ltI rfl rfl) rfl ?_
    clear hA a; intro a hA
    refine m_nil ?_
    refine m_then ?_
    refine m_condP hA rfl (fun hlt => ?_) (fun hlt => ?_)
    · have hjl : j < xs.length := by omega
      obtain ⟨x, hx⟩ : ∃ x, xs[j]? = some x := ⟨_, List.getElem?_eq_getElem hjl⟩
      have hdx : xs.drop j = x :: xs.drop (j + 1) := drop_at hx
      have hget : (kept.map (Value.int .i64) ++ (junk ++ ((xs.drop j).map (Value.int .i64) ++ rest)))[0 + j * 1]? = some (.int .i64 x) := by
        rw [hdx]
        exact get2 (l := kept.map (Value.int .i64)) (m := junk) (c := [Value.int .i64 x]) (r := (xs.drop (j + 1)).map (Value.int .i64) ++ rest) (o := 0 + j * 1) (by simp; omega) 0 _ rfl
      refine m_skip ?_
      refine m_then ?_
      refine m_seq ?_
      refine m_block ?_
      refine m_seq ?_
      refine m_region ?_
      refine m1 hA hS (Y.move rfl) rfl ?_
      clear hA a; intro a hA
      refine m1 hA hS (Y.move rfl) rfl ?_
      clear hA a; intro a hA
      refine m1 hA hS (Y.indexAddrN rfl rfl Tryz.underlying38 Tryz.sizeOf3 (by omega)) rfl ?_
      clear hA a; intro a hA
      refine m1 hA hS (Y.load rfl Tryz.isAgg3 (fun w h => h.cell (i := 0) rfl hget)) rfl ?_
      clear hA a; intro a hA
      refine m1 hA hS (Y.assign rfl) rfl ?_
      clear hA a; intro a hA
      refine m_nil ?_
      refine m_then ?_
      refine m_seq ?_
      refine m_region ?_
      refine m1 hA hS (Y.move rfl) rfl ?_
      clear hA a; intro a hA
      refine m1 hA hS (Y.move rfl) rfl ?_
      clear hA a; intro a hA
      refine m_callv hA rfl eg rfl rfl ((hf _ _ hS x).mono ?_)
      rintro e w ⟨rfl, hg2⟩
      refine ⟨_, rfl, ?_⟩
      clear hA a; intro a hA
      replace hS := hS.gr hg2
      refine m1 hA hS (Y.not rfl) rfl ?_
      clear hA a; intro a hA
      refine m_nil ?_
      refine m_then ?_
      refine m_cond hA rfl (fun hpx => ?_) (fun hpx => ?_)
      · have hpx' : p x = false := by simpa using hpx
        refine m_seq ?_
        refine m_region ?_
        refine m1 hA hS (Y.move rfl) rfl ?_
        clear hA a; intro a hA
        refine m1 hA hS (Y.move rfl) rfl ?_
        clear hA a; intro a hA
        refine m1 hA hS (Y.move rfl) rfl ?_
        clear hA a; intro a hA
        refine m1 hA hS (Y.indexAddrN rfl rfl Tryz.underlying38 Tryz.sizeOf3 (by omega)) rfl ?_
        clear hA a; intro a hA
        cases junk with
        | nil => simp at hpos
        | cons u junk => ?_
        refine m_storeP 0 ((kept ++ [x]).map (Value.int .i64) ++ ((junk ++ [Value.int .i64 x]) ++ ((xs.drop (j + 1)).map (Value.int .i64) ++ rest))) hA hS rfl rfl Tryz.sizeOf3 rfl rfl (by simp) (by simp [Value.oneCell', Value.cells]) ?_ ?_
        · rw [hdx, List.map_append]
          have := spl_mid (l := kept.map (Value.int .i64)) (c := [u]) (r := junk ++ ((x :: xs.drop (j + 1)).map (Value.int .i64) ++ rest)) (c' := [Value.int .i64 x]) (o := 0 + kept.length * 1) (by simp) rfl
          simpa [Value.cells] using this
        clear hS; intro w hS
        refine m_nil ?_
        refine m_then ?_
        refine m_region ?_
        refine m1 hA hS (Y.move rfl) rfl ?_
        clear hA a; intro a hA
        refine m1 hA hS (Y.addI rfl rfl (by omega)) rfl ?_
        clear hA a; intro a hA
        refine m1 hA hS (Y.assign rfl) rfl ?_
        clear hA a; intro a hA
        refine m_nil ?_
        refine n_block ?_
        refine m_then ?_
        refine m_region ?_
        refine m1 hA hS (Y.move rfl) rfl ?_
        clear hA a; intro a hA
        refine m1 hA hS (Y.addI rfl rfl (by omega)) rfl ?_
        clear hA a; intro a hA
        refine m1 hA hS (Y.assign rfl) rfl ?_
        clear hA a; intro a hA
        refine m_nil ?_
        have hlk : (kept.length : Int) + 1 = ((kept ++ [x]).length : Int) := by simp
        rw [hlk] at hA
        exact m_then ⟨(kept ++ [x], junk ++ [Value.int .i64 x], j + 1), by (try dsimp only); omega, hA.keep [5, 6, 4, 0, 1] rfl, hS, by (try dsimp only); exact ⟨by rw [take_at hx, List.filter_append, ← hk]; simp [hpx'], by simp at hsum ⊢; omega, by simp, by omega⟩⟩
      · have hpx' : p x = true := by simpa using hpx
        rw [hdx] at hS
        refine m_skip ?_
        refine n_block ?_
        refine m_then ?_
        refine m_region ?_
        refine m1 hA hS (Y.move rfl) rfl ?_
        clear hA a; intro a hA
        refine m1 hA hS (Y.addI rfl rfl (by omega)) rfl ?_
        clear hA a; intro a hA
        refine m1 hA hS (Y.assign rfl) rfl ?_
        clear hA a; intro a hA
        refine m_nil ?_
        have hS2 : St w ([cB b (kept.map (Value.int .i64) ++ ((junk ++ [Value.int .i64 x]) ++ ((xs.drop (j + 1)).map (Value.int .i64) ++ rest))) 3] ++ B) V := by simpa using hS
        replace hS := hS2
        clear hS2
        exact m_then ⟨(kept, junk ++ [Value.int .i64 x], j + 1), by (try dsimp only); omega, hA.keep [5, 6, 4, 0, 1] rfl, hS, by (try dsimp only); exact ⟨by rw [take_at hx, List.filter_append, ← hk]; simp [hpx'], by simp; omega, by simp, by omega⟩⟩
    · have hjl : j = xs.length := by omega
      subst hjl
      have hkc : kept.length ≤ c := by omega
      have hkn : kept.length < c := by omega
      rw [List.drop_eq_nil_of_le (Nat.le_refl _)] at hS
      rw [List.take_of_length_le (Nat.le_refl _)] at hk
      have hjunk : (kept.map (Value.int .i64) ++ (junk ++ (([] : List Int).map (Value.int .i64) ++ rest))).length = c * 1 := by
        rw [hrest] at hcur
        simp only [List.length_append, List.length_map] at hcur ⊢
        simp only [List.length_nil]
        omega
      refine m_exit ?_
      refine x_then ?_
      refine x_then ?_
      refine x_block ?_
      refine m_then ?_
      refine m_seq ?_
      refine m_region ?_
      refine m1 hA hS (Y.move rfl) rfl ?_
      clear hA a; intro a hA
      refine m1 hA hS (Y.move rfl) rfl ?_
      clear hA a; intro a hA
      refine m1 hA hS (Y.slL (l := kept.length) rfl rfl Tryz.underlying38 Tryz.sizeOf3 (by omega)) rfl ?_
      clear hA a; intro a hA
      refine m_clear (k := 1) 0 hA hS rfl Tryz.underlying38 Tryz.zeroValue3 rfl rfl (by decide) rfl (by rw [if_neg (by omega), hjunk]; omega) ?_
      clear hS; intro w zs hzs hS
      refine m_nil ?_
      refine m_then ?_
      refine m_seq ?_
      refine m_region ?_
      refine m1 hA hS (Y.move rfl) rfl ?_
      clear hA a; intro a hA
      refine m1 hA hS (Y.move rfl) rfl ?_
      clear hA a; intro a hA
      refine m1 hA hS (Y.slH (h := kept.length) rfl rfl Tryz.underlying38 Tryz.sizeOf3 hkc) rfl ?_
      clear hA a; intro a hA
      refine m1 hA hS (Y.assign rfl) rfl ?_
      clear hA a; intro a hA
      refine m_nil ?_
      refine m_then ?_
      refine m_retc ?_
      refine m_ret1 hA Tryz.results110 rfl ?_
      rw [if_neg (by omega)] at hS
      rw [← hk]
      have hsp : spl (kept.map (Value.int .i64) ++ (junk ++ (([] : List Int).map (Value.int .i64) ++ rest))) (0 + kept.length * 1) zs = kept.map (Value.int .i64) ++ (zs ++ rest) :=
        spl_mid (by simp) (by rw [hzs]; omega)
      rw [hsp] at hS
      refine ⟨_, [_], rfl, ⟨by simp, .inr ⟨b, c, _, rfl, rfl, hkc, hmax, ?_, List.take_left' (by simp)⟩⟩, hS⟩
      simp only [List.length_append, List.length_map, List.length_nil] at hjunk ⊢
      omega
end Go.Proofs.YtljkhijdaaconaaGreat

namespace Go.Proofs.YtljkhijdaaconaaGreat
open Go.RowKit

set_option maxRecDepth 100000 in
theorem delInv_c (v : Value) (xs : List Inv) (bs B : List Bx) (V : List (Nat × World)) (g : Nat) (cap : List Value) (p : Inv → Bool) (w0 w : World) (hS : St w (bs ++ B) V) (hw0 : (0, w0) ∈ V) (hR : InvsB v xs bs) (hle : xs.length ≤ 100)
    (eg : ∀ args w, (callFunc g args).run Tryz.prog w = .ok (.enter g args) w)
    (hf : ∀ W bs', St W (bs' ++ B) V → ∀ x : Inv, Calls Tryz.prog g ([Value.agg #[.int .i64 x.who, .int .i64 x.til]] ++ cap).toArray W fun e W' => e = .returned (.bool (p x)) ∧ Gr W W') :
    Calls Tryz.prog 111 #[v, .func (.func g) #[] cap.toArray] w fun e w' => ∃ v' bs', e = .returned v' ∧ InvsB v' (xs.filter fun x => !p x) bs' ∧ St w' (bs' ++ B) V := by
  obtain ⟨A, c, hv, hI⟩ := InvsB.read hR (hS.out hw0) hle
  subst hv
  have hl := hI.len
  have fl : ∀ ys : List Inv, (ys.flatMap cInv).length = ys.length * 2 := flat_len (fun _ => rfl)
  refine m_enter Tryz.func111 rfl Tryz.ntmps111 (Nat.le_of_ble_eq_true rfl) ?_
  intro a hA
  refine m_seq ?_
  refine m_region ?_
  refine m1 hA hS (Y.assign rfl) rfl ?_
  clear hA a; intro a hA
  refine m_nil ?_
  refine m_then ?_
  refine m_seq ?_
  refine m_region ?_
  refine m1 hA hS (Y.move rfl) rfl ?_
  clear hA a; intro a hA
  refine m1 hA hS (Y.move rfl) rfl ?_
  clear hA a; intro a hA
  refine m_callb hA hS Tryz.call107 rfl rfl (indexFuncInv_c _ _ _ xs _ _ p _ (InvsL.zero hI) eg (fun W x hg => by simpa using hf W bs (hS.gr hg) x)) ?_
  clear hA hS a; intro a w hA hS hg
  refine m1 hA hS (Y.assign rfl) rfl ?_
  clear hA a; intro a hA
  refine m_nil ?_
  refine m_then ?_
  refine m_seq ?_
  refine m_seq ?_
  refine m_region ?_
  refine m1 hA hS (Y.move rfl) rfl ?_
  clear hA a; intro a hA
  refine m1 hA hS (Y.eqI rfl rfl) rfl ?_
  clear hA a; intro a hA
  refine m_nil ?_
  refine m_then ?_
  refine m_condP hA rfl (fun hc => ?_) (fun hc => ?_)
  · have hall : ∀ x ∈ xs, p x = false := by
      rcases idxF_cases p xs 0 with ⟨_, h⟩ | ⟨pre, x, post, _, h, _⟩
      · exact h
      · omega
    refine m_seq ?_
    refine m_region ?_
    refine m1 hA hS (Y.move rfl) rfl ?_
    clear hA a; intro a hA
    refine m1 hA hS (Y.assign rfl) rfl ?_
    clear hA a; intro a hA
    refine m_nil ?_
    refine m_then ?_
    refine m_retc ?_
    refine r_then ?_
    refine m_ret1 hA Tryz.results111 rfl ?_
    exact ⟨_, bs, rfl, by rw [filter_all hall]; exact hR, hS⟩
  · obtain ⟨pre, x0, post, hxs, hidx, hpre, hx0⟩ : ∃ pre x post, xs = pre ++ x :: post ∧ idxF p 0 xs = ((0 + pre.length : Nat) : Int) ∧ (∀ y ∈ pre, p y = false) ∧ p x = true := by
      rcases idxF_cases p xs 0 with ⟨h, _⟩ | h
      · omega
      · exact h
    rw [Nat.zero_add] at hidx
    rw [hidx] at hA
    obtain ⟨hRl, ⟨he, hn0, rfl⟩ | ⟨b, cap', cur, he, rfl, hcap, hmax, hcur, htake⟩⟩ := hR
    · exfalso
      rw [hxs] at hn0
      simp at hn0
    cases he
    obtain ⟨rest, hrest⟩ : ∃ rest, cur = xs.flatMap cInv ++ rest := ⟨cur.drop (xs.length * 2), by rw [← htake, List.take_append_drop]⟩
    have hjn : pre.length + 1 ≤ xs.length := by rw [hxs]; simp
    have hd : xs.drop (pre.length + 1) = post := by
      rw [hxs, List.drop_append]
      simp
    have ht : xs.take (pre.length + 1) = pre ++ [x0] := by
      rw [hxs, List.take_append, List.take_of_length_le (by omega)]
      simp
    have hcur2 : cur = pre.flatMap cInv ++ (cInv x0 ++ ((xs.drop (pre.length + 1)).flatMap cInv ++ rest)) := by
      rw [hrest, hd, hxs]
      simp
    rw [hcur2] at hS
    have hinit : pre = (xs.take (pre.length + 1)).filter fun x => !p x := by
      rw [ht, List.filter_append, filter_all hpre]
      simp [hx0]
    refine m_skip ?_
    refine m_then ?_
    refine m_seq ?_
    refine m_seq ?_
    refine m_region ?_
    refine m1 hA hS (Y.move rfl) rfl ?_
    clear hA a; intro a hA
    refine m1 hA hS (Y.addI rfl rfl (by omega)) rfl ?_
    clear hA a; intro a hA
    refine m1 hA hS (Y.assign rfl) rfl ?_
    clear hA a; intro a hA
    refine m_nil ?_
    refine m_then ?_
    refine m_block ?_
    refine m_loopX [4, 0, 1] rfl hA ((pre, cInv x0, pre.length + 1)) (fun y => [(5, .int .i64 (y.1.length : Int)), (6, .int .i64 (y.2.2 : Int))]) (fun y => [cB b (y.1.flatMap cInv ++ (y.2.1 ++ ((xs.drop y.2.2).flatMap cInv ++ rest))) 61] ++ B) (fun _ => V) (fun y => y.1 = (xs.take y.2.2).filter (fun x => !p x) ∧ y.1.length * 2 + y.2.1.length = y.2.2 * 2 ∧ 0 < y.2.1.length ∧ y.2.2 ≤ xs.length) (fun y => xs.length - y.2.2) (ks := [5, 6]) rfl hS (⟨hinit, by simp [cInv]; omega, by simp [cInv], hjn⟩) ?_
    clear hA hS a; rintro ⟨kept, junk, j⟩ a w hA hS hj
    try dsimp only at hA
    try dsimp only at hS
    try dsimp only at hj
    obtain ⟨hk, hsum, hpos, hj⟩ := hj
    replace hA := hA.keep [5, 6, 4, 0, 1] rfl
    refine m_seq ?_
    refine m_seq ?_
    refine m_region ?_
    refine m1 hA hS (Y.move rfl) rfl ?_
    clear hA a; intro a hA
    refine m1 hA hS (Y.move rfl) rfl ?_
    clear hA a; intro a hA
    refine m1 hA hS (Y.lenSl rfl Tryz.underlying44) rfl ?_
    clear hA a; intro a hA
    refine m1 hA hS (Y.ltI rfl rfl) rfl ?_
    clear hA a; intro a hA
    refine m_nil ?_
    refine m_then ?_
    refine m_condP hA rfl (fun hlt => ?_) (fun hlt => ?_)
    · have hjl : j < xs.length := by omega
      obtain ⟨x, hx⟩ : ∃ x, xs[j]? = some x := ⟨_, List.getElem?_eq_getElem hjl⟩
      have hdx : xs.drop j = x :: xs.drop (j + 1) := drop_at hx
      have hget : ∀ j' v, (cInv x)[j']? = some v → (kept.flatMap cInv ++ (junk ++ ((xs.drop j).flatMap cInv ++ rest)))[0 + j * 2 + j']? = some v := by
        rw [hdx]
        intro j' v hv
        have := get2 (l := kept.flatMap cInv) (m := junk) (c := cInv x) (r := (xs.drop (j + 1)).flatMap cInv ++ rest) (o := 0 + j * 2) (by rw [fl]; omega) j' v hv
        rw [List.flatMap_cons, List.append_assoc]
        exact this
      refine m_skip ?_
      refine m_then ?_
      refine m_seq ?_
      refine m_block ?_
      refine m_seq ?_
      refine m_region ?_
      refine m1 hA hS (Y.move rfl) rfl ?_
      clear hA a; intro a hA
      refine m1 hA hS (Y.move rfl) rfl ?_
      clear hA a; intro a hA
      refine m1 hA hS (Y.indexAddrN rfl rfl Tryz.underlying44 Tryz.sizeOf61 (by omega)) rfl ?_
      clear hA a; intro a hA
      refine m1 hA hS (Y.loads rfl Tryz.isAgg61 Tryz.sizeOf61 (fun w h => h.cellsAt (i := 0) rfl hget) rfl) rfl ?_
      clear hA a; intro a hA
      refine m_alloc hA hS Tryz.zeroValue61 rfl ?_
      clear hA hS a; intro a b1 w hA hleb1 hgb1 hS
      refine m_store 0 hA hS rfl rfl Tryz.sizeOf61 rfl rfl rfl rfl ?_
      clear hS; intro w hS
      refine m_nil ?_
      refine m_then ?_
      refine m_seq ?_
      refine m_region ?_
      refine m1 hA hS (Y.move rfl) rfl ?_
      clear hA a; intro a hA
      refine m1 hA hS (Y.loads rfl Tryz.isAgg61 Tryz.sizeOf61 (fun w h => h.cells (i := 0) rfl) rfl) rfl ?_
      clear hA a; intro a hA
      refine m_callv hA rfl eg rfl rfl ((hf _ [_, _] hS x).mono ?_)
      rintro e w ⟨rfl, hg2⟩
      refine ⟨_, rfl, ?_⟩
      clear hA a; intro a hA
      replace hS := hS.gr hg2
      refine m1 hA hS (Y.not rfl) rfl ?_
      clear hA a; intro a hA
      refine m_nil ?_
      refine m_then ?_
      refine m_cond hA rfl (fun hpx => ?_) (fun hpx => ?_)
      · have hpx' : p x = false := by simpa using hpx
        refine m_seq ?_
        refine m_region ?_
        refine m1 hA hS (Y.move rfl) rfl ?_
        clear hA a; intro a hA
        refine m1 hA hS (Y.move rfl) rfl ?_
        clear hA a; intro a hA
        refine m1 hA hS (Y.loads rfl Tryz.isAgg61 Tryz.sizeOf61 (fun w h => h.cells (i := 0) rfl) rfl) rfl ?_
        clear hA a; intro a hA
        refine m1 hA hS (Y.indexAddrN rfl rfl Tryz.underlying44 Tryz.sizeOf61 (by omega)) rfl ?_
        clear hA a; intro a hA
        obtain ⟨u1, u2, junk', rfl⟩ : ∃ u1 u2 junk', junk = u1 :: u2 :: junk' := by
          match junk, hpos, hsum with
          | [], h, _ => simp at h
          | [u], _, h => simp at h; omega
          | u1 :: u2 :: junk', _, _ => exact ⟨u1, u2, junk', rfl⟩
        refine m_storeP 1 ((kept ++ [x]).flatMap cInv ++ ((junk' ++ cInv x) ++ ((xs.drop (j + 1)).flatMap cInv ++ rest))) hA hS rfl rfl Tryz.sizeOf61 rfl rfl (by simp [fl]) (List.all_eq_true.1 rfl) ?_ ?_
        · rw [hdx]
          have := spl_mid (l := kept.flatMap cInv) (c := [u1, u2]) (r := junk' ++ ((x :: xs.drop (j + 1)).flatMap cInv ++ rest)) (c' := cInv x) (o := 0 + kept.length * 2) (by rw [fl]; omega) rfl
          refine Eq.trans this ?_
          simp
        clear hS; intro w hS
        refine m_nil ?_
        refine m_then ?_
        refine m_region ?_
        refine m1 hA hS (Y.move rfl) rfl ?_
        clear hA a; intro a hA
        refine m1 hA hS (Y.addI rfl rfl (by omega)) rfl ?_
        clear hA a; intro a hA
        refine m1 hA hS (Y.assign rfl) rfl ?_
        clear hA a; intro a hA
        refine m_nil ?_
        refine n_block ?_
        refine m_then ?_
        refine m_region ?_
        refine m1 hA hS (Y.move rfl) rfl ?_
        clear hA a; intro a hA
        refine m1 hA hS (Y.addI rfl rfl (by omega)) rfl ?_
        clear hA a; intro a hA
        refine m1 hA hS (Y.assign rfl) rfl ?_
        clear hA a; intro a hA
        refine m_nil ?_
        have hlk : (kept.length : Int) + 1 = ((kept ++ [x]).length : Int) := by simp
        rw [hlk] at hA
        replace hS := hS.gone
        exact m_then ⟨(kept ++ [x], junk' ++ cInv x, j + 1), by (try dsimp only); omega, hA.keep [5, 6, 4, 0, 1] rfl, hS, by (try dsimp only); exact ⟨by rw [take_at hx, List.filter_append, ← hk]; simp [hpx'], by simp [cInv] at hsum ⊢; omega, by simp [cInv], by omega⟩⟩
      · have hpx' : p x = true := by simpa using hpx
        rw [hdx] at hS
        refine m_skip ?_
        refine n_block ?_
        refine m_then ?_
        refine m_region ?_
        refine m1 hA hS (Y.move rfl) rfl ?_
        clear hA a; intro a hA
        refine m1 hA hS (Y.addI rfl rfl (by omega)) rfl ?_
        clear hA a; intro a hA
        refine m1 hA hS (Y.assign rfl) rfl ?_
        clear hA a; intro a hA
        refine m_nil ?_
        replace hS := hS.gone
        have hS2 : St w ([cB b (kept.flatMap cInv ++ ((junk ++ cInv x) ++ ((xs.drop (j + 1)).flatMap cInv ++ rest))) 61] ++ B) V := by simpa using hS
        replace hS := hS2
        clear hS2
        exact m_then ⟨(kept, junk ++ cInv x, j + 1), by (try dsimp only); omega, hA.keep [5, 6, 4, 0, 1] rfl, hS, by (try dsimp only); exact ⟨by rw [take_at hx, List.filter_append, ← hk]; simp [hpx'], by simp [cInv]; omega, by simp [cInv], by omega⟩⟩
    · have hjl : j = xs.length := by omega
      subst hjl
      have hkc : kept.length ≤ c := by omega
      have hkn : kept.length < c := by omega
      rw [List.drop_eq_nil_of_le (Nat.le_refl _)] at hS
      rw [List.take_of_length_le (Nat.le_refl _)] at hk
      have hjunk : (kept.flatMap cInv ++ (junk ++ (([] : List Inv).flatMap cInv ++ rest))).length = c * 2 := by
        rw [hrest] at hcur
        simp only [List.length_append, fl] at hcur ⊢
        simp only [List.length_nil]
        omega
      refine m_exit ?_
      refine x_then ?_
      refine x_then ?_
      refine x_block ?_
      refine m_then ?_
      refine m_seq ?_
      refine m_region ?_
      refine m1 hA hS (Y.move rfl) rfl ?_
      clear hA a; intro a hA
      refine m1 hA hS (Y.move rfl) rfl ?_
      clear hA a; intro a hA
      refine m1 hA hS (Y.slL (l := kept.length) rfl rfl Tryz.underlying44 Tryz.sizeOf61 (by omega)) rfl ?_
      clear hA a; intro a hA
      refine m_clear (k := 2) 0 hA hS rfl Tryz.underlying44 Tryz.zeroValue61 rfl rfl (by decide) rfl (by rw [if_neg (by omega), hjunk]; omega) ?_
      clear hS; intro w zs hzs hS
      refine m_nil ?_
      refine m_then ?_
      refine m_seq ?_
      refine m_region ?_
      refine m1 hA hS (Y.move rfl) rfl ?_
      clear hA a; intro a hA
      refine m1 hA hS (Y.move rfl) rfl ?_
      clear hA a; intro a hA
      refine m1 hA hS (Y.slH (h := kept.length) rfl rfl Tryz.underlying44 Tryz.sizeOf61 hkc) rfl ?_
      clear hA a; intro a hA
      refine m1 hA hS (Y.assign rfl) rfl ?_
      clear hA a; intro a hA
      refine m_nil ?_
      refine m_then ?_
      refine m_retc ?_
      refine m_ret1 hA Tryz.results111 rfl ?_
      rw [if_neg (by omega)] at hS
      rw [← hk]
      have hsp : spl (kept.flatMap cInv ++ (junk ++ (([] : List Inv).flatMap cInv ++ rest))) (0 + kept.length * 2) zs = kept.flatMap cInv ++ (zs ++ rest) :=
        spl_mid (by rw [fl]; omega) (by rw [hzs]; omega)
      rw [hsp] at hS
      refine ⟨_, [_], rfl, ⟨fl _, .inr ⟨b, c, _, rfl, rfl, hkc, hmax, ?_, List.take_left' (fl _)⟩⟩, hS⟩
      simp only [List.length_append, fl, List.length_nil] at hjunk ⊢
      omega
end Go.Proofs.YtljkhijdaaconaaGreat
