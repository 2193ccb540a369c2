/- Contracts: clones. -/
import Derived.Test.YtljkhijdaaconaaGreatEng2
import Derived.Test.YtljkhijdaaconaaGreatValid
set_option linter.unusedVariables false
namespace Go.Proofs.YtljkhijdaaconaaGreat
open Go.RowKit
theorem elemInt : elemOk Tryz.prog 3 1 8 = true := by kernel_rfl
theorem elemInv : elemOk Tryz.prog 61 2 16 = true := by kernel_rfl
theorem elemPty : elemOk Tryz.prog 46 4 64 = true := by kernel_rfl
theorem one_ints (xs : List Int) : ∀ u ∈ xs.map (Value.int .i64), u.oneCell' = true := by simp [Value.oneCell']
theorem one_invs (xs : List Inv) : ∀ u ∈ xs.flatMap cInv, u.oneCell' = true := by
  intro u hu
  obtain ⟨x, _, hx⟩ := List.mem_flatMap.1 hu
  simp [cInv] at hx
  rcases hx with rfl | rfl <;> rfl
theorem RowOf.nil_of {α : Type} {k : Nat} {el : World → α → Nat → Nat → Prop} {w : World} {n : Nat} {xs : List α} (h : RowOf k el w none n xs) : xs = [] := by
  cases xs with
  | nil => rfl
  | cons x xs => obtain ⟨b, o, e, _⟩ := h.2.2 0 x rfl; cases e
set_option maxRecDepth 100000 in
theorem cloneInt_c (A : Option Addr) (n c : Nat) (xs : List Int) (w : World) (hI : Ints w A n xs) (hle : n ≤ 100) :
    Calls Tryz.prog 90 #[.slice A n c] w fun e w' => ∃ v bs, e = .returned v ∧ IntsB v xs bs ∧ Gr w w' ∧ Fresh w.heap.size w' bs := by
  have hl := hI.len
  refine m_enter Tryz.func90 rfl Tryz.ntmps90 (Nat.le_of_ble_eq_true rfl) ?_
  intro a hA
  have hS := St.start w
  refine m_seq ?_
  refine m_region ?_
  refine m1 hA hS (Y.assign rfl) rfl ?_
  clear hA a; intro a hA
  refine m_nil ?_
  refine m_then ?_
  refine m_seq ?_
  refine m_seq ?_
  refine m_region ?_
  refine m1 hA hS (Y.move rfl) rfl ?_
  clear hA a; intro a hA
  refine m1 hA hS (Y.eqNil rfl Tryz.underlying38) rfl ?_
  clear hA a; intro a hA
  refine m_nil ?_
  refine m_then ?_
  refine m_cond hA rfl (fun hc => ?_) (fun hc => ?_)
  · cases A with
    | some A => cases hc
    | none => ?_
    have hx := hI.nil_of
    subst hx
    refine m_seq ?_
    refine m_region ?_
    refine m1 hA hS (Y.assign rfl) rfl ?_
    clear hA a; intro a hA
    refine m_nil ?_
    refine m_then ?_
    refine m_retc ?_
    refine r_then ?_
    refine m_ret1 hA Tryz.results90 rfl ?_
    exact ⟨_, [], rfl, RowB.nil _ _, hS.gr0 (by simp), St.out (bs := []) (B := []) hS (by simp)⟩
  · cases A with
    | none => cases hc
    | some A => ?_
    refine m_skip ?_
    refine m_then ?_
    refine m_seq ?_
    refine m_region ?_
    refine m_buildSlice ([]) hA hS rfl rfl (run_bs0 Tryz.underlying38 Tryz.sizeOf3) ?_
    clear hA hS a; intro a b1 w hA hgb1 hS
    refine m1 hA hS (Y.move rfl) rfl ?_
    clear hA a; intro a hA
    refine m_append (bs := [cB b1 [] 3]) (B := []) 3 8 (xs.map (Value.int .i64)) elemInt hA hS (RowB.empty _ _ _) rfl rfl rfl Tryz.underlying38 (by simp [hl]) (IntsL.news (Ints.gr (hS.gr0 (by simp)) hI)) (one_ints xs) (by omega) (by decide) ?_
    clear hA hS a; intro a w v bs hA hR hn hS
    refine m1 hA hS (Y.assign rfl) rfl ?_
    clear hA a; intro a hA
    refine m_nil ?_
    refine m_then ?_
    refine m_retc ?_
    refine m_ret1 hA Tryz.results90 rfl ?_
    refine ⟨v, bs, rfl, ?_, hS.gr0 (by simp), hS.out (by simp)⟩
    rw [IntsB, hl]
    simpa using hR
set_option maxRecDepth 100000 in
theorem cloneInv_c (A : Option Addr) (n c : Nat) (xs : List Inv) (w : World) (hI : Invs w A n xs) (hle : n ≤ 100) :
    Calls Tryz.prog 91 #[.slice A n c] w fun e w' => ∃ v bs, e = .returned v ∧ InvsB v xs bs ∧ Gr w w' ∧ Fresh w.heap.size w' bs := by
  have hl := hI.len
  refine m_enter Tryz.func91 rfl Tryz.ntmps91 (Nat.le_of_ble_eq_true rfl) ?_
  intro a hA
  have hS := St.start w
  refine m_seq ?_
  refine m_region ?_
  refine m1 hA hS (Y.assign rfl) rfl ?_
  clear hA a; intro a hA
  refine m_nil ?_
  refine m_then ?_
  refine m_seq ?_
  refine m_seq ?_
  refine m_region ?_
  refine m1 hA hS (Y.move rfl) rfl ?_
  clear hA a; intro a hA
  refine m1 hA hS (Y.eqNil rfl Tryz.underlying44) rfl ?_
  clear hA a; intro a hA
  refine m_nil ?_
  refine m_then ?_
  refine m_cond hA rfl (fun hc => ?_) (fun hc => ?_)
  · cases A with
    | some A => cases hc
    | none => ?_
    have hx := hI.nil_of
    subst hx
    refine m_seq ?_
    refine m_region ?_
    refine m1 hA hS (Y.assign rfl) rfl ?_
    clear hA a; intro a hA
    refine m_nil ?_
    refine m_then ?_
    refine m_retc ?_
    refine r_then ?_
    refine m_ret1 hA Tryz.results91 rfl ?_
    exact ⟨_, [], rfl, RowB.nil _ _, hS.gr0 (by simp), St.out (bs := []) (B := []) hS (by simp)⟩
  · cases A with
    | none => cases hc
    | some A => ?_
    refine m_skip ?_
    refine m_then ?_
    refine m_seq ?_
    refine m_region ?_
    refine m_buildSlice ([]) hA hS rfl rfl (run_bs0 Tryz.underlying44 Tryz.sizeOf61) ?_
    clear hA hS a; intro a b1 w hA hgb1 hS
    refine m1 hA hS (Y.move rfl) rfl ?_
    clear hA a; intro a hA
    refine m_append (bs := [cB b1 [] 61]) (B := []) 61 16 (xs.flatMap cInv) elemInv hA hS (RowB.empty _ _ _) rfl rfl rfl Tryz.underlying44 (by rw [flat_len (f := cInv) (k := 2) (fun _ => rfl), hl]) (InvsL.news (Invs.gr (hS.gr0 (by simp)) hI)) (one_invs xs) (by omega) (by decide) ?_
    clear hA hS a; intro a w v bs hA hR hn hS
    refine m1 hA hS (Y.assign rfl) rfl ?_
    clear hA a; intro a hA
    refine m_nil ?_
    refine m_then ?_
    refine m_retc ?_
    refine m_ret1 hA Tryz.results91 rfl ?_
    refine ⟨v, bs, rfl, ?_, hS.gr0 (by simp), hS.out (by simp)⟩
    rw [InvsB, hl]
    simpa using hR
theorem PtysC.one {lo : Nat} {w : World} : ∀ {ps : List Pty} {cs : List Value}, PtysC lo w cs ps → ∀ u ∈ cs, u.oneCell' = true
  | [], cs, h => by rw [show cs = [] from h]; simp
  | p :: ps, cs, h => by
    obtain ⟨M, m, mc, I, i, ic, cs', rfl, _, h2⟩ := h
    intro u hu
    rcases List.mem_append.1 hu with hu | hu
    · simp at hu
      rcases hu with rfl | rfl | rfl | rfl <;> rfl
    · exact PtysC.one h2 u hu
set_option maxRecDepth 100000 in
theorem clonePty_c (A : Option Addr) (n c : Nat) (xs : List Pty) (w w0 : World) (hg0 : Gr w0 w) (hI : Ptys w0 A n xs) (hle : n ≤ 100) :
    Calls Tryz.prog 109 #[.slice A n c] w fun e w' => ∃ v bs cs, e = .returned v ∧ RowB 46 4 v n cs bs ∧ PtysC 0 w0 cs xs ∧ Gr w w' ∧ Fresh w.heap.size w' bs := by
  have hl := hI.len
  refine m_enter Tryz.func109 rfl Tryz.ntmps109 (Nat.le_of_ble_eq_true rfl) ?_
  intro a hA
  have hS := St.start w
  refine m_seq ?_
  refine m_region ?_
  refine m1 hA hS (Y.assign rfl) rfl ?_
  clear hA a; intro a hA
  refine m_nil ?_
  refine m_then ?_
  refine m_seq ?_
  refine m_seq ?_
  refine m_region ?_
  refine m1 hA hS (Y.move rfl) rfl ?_
  clear hA a; intro a hA
  refine m1 hA hS (Y.eqNil rfl Tryz.underlying22) rfl ?_
  clear hA a; intro a hA
  refine m_nil ?_
  refine m_then ?_
  refine m_cond hA rfl (fun hc => ?_) (fun hc => ?_)
  · cases A with
    | some A => cases hc
    | none => ?_
    have hx := hI.nil_of
    subst hx
    subst hl
    refine m_seq ?_
    refine m_region ?_
    refine m1 hA hS (Y.assign rfl) rfl ?_
    clear hA a; intro a hA
    refine m_nil ?_
    refine m_then ?_
    refine m_retc ?_
    refine r_then ?_
    refine m_ret1 hA Tryz.results109 rfl ?_
    exact ⟨_, [], [], rfl, RowB.nil _ _, rfl, hS.gr0 (by simp), St.out (bs := []) (B := []) hS (by simp)⟩
  · cases A with
    | none => cases hc
    | some A => ?_
    obtain ⟨cs, hcs, hr⟩ : ∃ cs, PtysC 0 w0 cs xs ∧ ∀ j u, cs[j]? = some u → w0.cell? (A.add j) = some u := by
      cases xs with
      | nil => exact ⟨[], rfl, fun j u hj => by simp at hj⟩
      | cons x xs =>
        obtain ⟨b, o, e, _⟩ := hI.2.2 0 x rfl
        cases e
        obtain ⟨cs, h1, h2⟩ := PtysL.cells hI
        exact ⟨cs, h1, fun j u hj => by
          have ha : (⟨b, o, none⟩ : Addr).add j = ⟨b, o + j, none⟩ := by unfold Addr.add; split <;> simp_all
          rw [ha]; exact h2 j u hj⟩
    refine m_skip ?_
    refine m_then ?_
    refine m_seq ?_
    refine m_region ?_
    refine m_buildSlice ([]) hA hS rfl rfl (run_bs0 Tryz.underlying22 Tryz.sizeOf46) ?_
    clear hA hS a; intro a b1 w hA hgb1 hS
    refine m1 hA hS (Y.move rfl) rfl ?_
    clear hA a; intro a hA
    refine m_append (bs := [cB b1 [] 46]) (B := []) 46 64 cs elemPty hA hS (RowB.empty _ _ _) rfl rfl rfl Tryz.underlying22 (by rw [hcs.len, hl]) (fun j u hj => (hg0.tr (hS.gr0 (by simp))).cell (hr j u hj)) hcs.one (by omega) (by decide) ?_
    clear hA hS a; intro a w v bs hA hR hn hS
    refine m1 hA hS (Y.assign rfl) rfl ?_
    clear hA a; intro a hA
    refine m_nil ?_
    refine m_then ?_
    refine m_retc ?_
    refine m_ret1 hA Tryz.results109 rfl ?_
    refine ⟨v, bs, cs, rfl, by simpa using hR, hcs, hS.gr0 (by simp), hS.out (by simp)⟩
end Go.Proofs.YtljkhijdaaconaaGreat
