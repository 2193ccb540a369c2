/- Contracts: what a function value finds in lists of numbers, of invitations, of parties. -/
import Derived.Test.YtljkhijdaaconaaGreatLeaf
set_option linter.unusedVariables false
namespace Go.Proofs.YtljkhijdaaconaaGreat
open Go.RowKit

set_option maxHeartbeats 400000 in
theorem containsFuncInt_c (A : Option Addr) (n c : Nat) (xs : List Int) (g : Nat) (lb : Array Value) (p : Int → Bool) (w : World) (hA : Ints w A n xs)
    (eg : ∀ args w, (callFunc g args).run Tryz.prog w = .ok (.enter g args) w)
    (hf : ∀ W x, Gr w W → Calls Tryz.prog g (#[.int .i64 x] ++ lb) W fun e W' => e = .returned (.bool (p x)) ∧ Gr W W') :
    Calls Tryz.prog 26 #[.slice A n c, .func (.func g) #[] lb] w fun e w' => e = .returned (.bool (xs.any p)) ∧ Gr w w' := by
  have HF := hid hf
  clear hf
  go_enter Tryz.func26, Tryz.ntmps26
  go_wp2_with fail
  refine (indexFuncInt_c _ _ _ xs g lb p _ hA eg HF.out).mono ?_
  rintro e w' ⟨rfl, hg⟩
  go_wp2
  go_ret
  exact ⟨ret_bool (by rw [idxF_any]), hg⟩

set_option maxHeartbeats 400000 in
theorem indexFuncInv_c (A : Option Addr) (n c : Nat) (xs : List Inv) (g : Nat) (lb : Array Value) (p : Inv → Bool) (w : World) (hA : Invs w A n xs)
    (eg : ∀ args w, (callFunc g args).run Tryz.prog w = .ok (.enter g args) w)
    (hf : ∀ W (x : Inv), Gr w W → Calls Tryz.prog g (#[.agg #[.int .i64 x.who, .int .i64 x.til]] ++ lb) W fun e W' => e = .returned (.bool (p x)) ∧ Gr W W') :
    Calls Tryz.prog 107 #[.slice A n c, .func (.func g) #[] lb] w fun e w' => e = .returned (.int .i64 (idxF p 0 xs)) ∧ Gr w w' := by
  have hl := hid hA.len
  have hn := hA.le
  have HF := hid hf
  clear hf
  go_enter Tryz.func107, Tryz.ntmps107
  go_wp2
  go_loopw [8] (fun i wr => ∃ k : Nat, k ≤ n ∧ i = .int .i64 k ∧ NoneTo p xs k ∧ Gr w wr) (fun i _ => n - (intOf i).toNat)
  case atStart => exact ⟨0, Nat.zero_le _, rfl, NoneTo.zero _ _, Gr.rf _⟩
  case round =>
    obtain ⟨k, hk, rfl, hno, hg⟩ := hrel
    have HNO := hid hno
    have HG := hid hg
    clear hno hg
    by_cases hlt : k < n
    · obtain ⟨b, o, x, rfl, hx, hc0, hc1⟩ := (hA.gr HG.out).at hlt
      have HX := hid hx
      clear hx
      have e1 : 0 ≤ (k : Int) ∧ (k : Int) < (n : Int) := by omega
      go_wp2_with fail
      refine (HF.out _ _ HG.out).mono ?_
      rintro e w1 ⟨rfl, hg1⟩
      have HG1 := hid (HG.out.tr hg1)
      clear hg1
      cases hp : p x with
      | true =>
        have h := hid hp
        clear hp
        go_wp2
        go_ret
        exact ⟨ret_int (HNO.out.found HX.out h.out).symm, HG1.out⟩
      | false =>
        have h := hid hp
        clear hp
        go_wp2
        go_roundw
        case rel => exact ⟨k + 1, by omega, by go_num, HNO.out.step HX.out h.out, HG1.out⟩
        case measure => simp [intOf]; omega
    · have e : k = n := by omega
      subst e
      go_wp2
      go_ret
      exact ⟨ret_int (HNO.out.done hl.out).symm, HG.out⟩

set_option maxHeartbeats 400000 in
theorem containsFuncInv_c (A : Option Addr) (n c : Nat) (xs : List Inv) (g : Nat) (lb : Array Value) (p : Inv → Bool) (w : World) (hA : Invs w A n xs)
    (eg : ∀ args w, (callFunc g args).run Tryz.prog w = .ok (.enter g args) w)
    (hf : ∀ W (x : Inv), Gr w W → Calls Tryz.prog g (#[.agg #[.int .i64 x.who, .int .i64 x.til]] ++ lb) W fun e W' => e = .returned (.bool (p x)) ∧ Gr W W') :
    Calls Tryz.prog 84 #[.slice A n c, .func (.func g) #[] lb] w fun e w' => e = .returned (.bool (xs.any p)) ∧ Gr w w' := by
  have HF := hid hf
  clear hf
  go_enter Tryz.func84, Tryz.ntmps84
  go_wp2_with fail
  refine (indexFuncInv_c _ _ _ xs g lb p _ hA eg HF.out).mono ?_
  rintro e w' ⟨rfl, hg⟩
  go_wp2
  go_ret
  exact ⟨ret_bool (by rw [idxF_any]), hg⟩

set_option maxHeartbeats 400000 in
theorem indexFuncPty_c (A : Option Addr) (n c : Nat) (xs : List Pty) (g : Nat) (lb : Array Value) (p : Pty → Bool) (w : World) (hA : Ptys w A n xs)
    (eg : ∀ args w, (callFunc g args).run Tryz.prog w = .ok (.enter g args) w)
    (hf : ∀ W (q : Pty × Option Addr × Nat × Nat × Option Addr × Nat × Nat), Gr w W ∧ PtyIn W q.2.1 q.2.2.1 q.2.2.2.2.1 q.2.2.2.2.2.1 q.1 → Calls Tryz.prog g (#[.agg #[.int .i64 q.1.id, .int .i64 q.1.leader, .slice q.2.1 q.2.2.1 q.2.2.2.1, .slice q.2.2.2.2.1 q.2.2.2.2.2.1 q.2.2.2.2.2.2]] ++ lb) W fun e W' => e = .returned (.bool (p q.1)) ∧ Gr W W') :
    Calls Tryz.prog 59 #[.slice A n c, .func (.func g) #[] lb] w fun e w' => e = .returned (.int .i64 (idxF p 0 xs)) ∧ Gr w w' := by
  have hl := hid hA.len
  have hn := hA.le
  have HF := hid hf
  clear hf
  go_enter Tryz.func59, Tryz.ntmps59
  go_wp2
  go_loopw [8] (fun i wr => ∃ k : Nat, k ≤ n ∧ i = .int .i64 k ∧ NoneTo p xs k ∧ Gr w wr) (fun i _ => n - (intOf i).toNat)
  case atStart => exact ⟨0, Nat.zero_le _, rfl, NoneTo.zero _ _, Gr.rf _⟩
  case round =>
    obtain ⟨k, hk, rfl, hno, hg⟩ := hrel
    have HNO := hid hno
    have HG := hid hg
    clear hno hg
    by_cases hlt : k < n
    · obtain ⟨b, o, x, M, m, mc, I, i, ic, rfl, hx, hc0, hc1, hc2, hc3, hin⟩ := (hA.gr HG.out).at hlt
      have HX := hid hx
      clear hx
      have e1 : 0 ≤ (k : Int) ∧ (k : Int) < (n : Int) := by omega
      go_wp2_with fail
      refine (HF.out _ (x, M, m, mc, I, i, ic) ⟨HG.out, hin⟩).mono ?_
      rintro e w1 ⟨rfl, hg1⟩
      have HG1 := hid (HG.out.tr hg1)
      clear hg1
      cases hp : p x with
      | true =>
        have h := hid hp
        clear hp
        go_wp2
        go_ret
        exact ⟨ret_int (HNO.out.found HX.out h.out).symm, HG1.out⟩
      | false =>
        have h := hid hp
        clear hp
        go_wp2
        go_roundw
        case rel => exact ⟨k + 1, by omega, by go_num, HNO.out.step HX.out h.out, HG1.out⟩
        case measure => simp [intOf]; omega
    · have e : k = n := by omega
      subst e
      go_wp2
      go_ret
      exact ⟨ret_int (HNO.out.done hl.out).symm, HG.out⟩

end Go.Proofs.YtljkhijdaaconaaGreat
