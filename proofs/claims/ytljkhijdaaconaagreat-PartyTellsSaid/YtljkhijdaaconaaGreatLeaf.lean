/- Contracts of small functions: IDs, lists of numbers that are searched. Contracts: what is contained; what a function value finds. -/
import Derived.Test.YtljkhijdaaconaaGreatVoc
import Derived.Test.YtljkhijdaaconaaGreatPlain
import Derived.Test.YtljkhijdaaconaaGreatProg
import Derived.Test.YtljkhijdaaconaaGreatData
import Derived.Shelf.Abstract
set_option linter.unusedVariables false
namespace Go.Proofs.YtljkhijdaaconaaGreat
open Go.RowKit

theorem idxF_some {α : Type} (p : α → Bool) (xs : List α) : ∀ k j x, xs[j]? = some x → p x = true → (∀ i y, i < j → xs[i]? = some y → p y = false) → idxF p k xs = ((k + j : Nat) : Int) := by
  induction xs with
  | nil => intro k j x h; simp at h
  | cons y xs ih =>
    intro k j x h hp hn
    cases j with
    | zero => simp at h; subst h; simp [idxF, hp]
    | succ j =>
      have h0 := hn 0 y (by omega) (by simp)
      simp only [idxF, h0]
      rw [ih (k + 1) j x (by simpa using h) hp (fun i z hi hz => hn (i + 1) z (by omega) (by simpa using hz))]
      simp; omega
theorem idxF_none {α : Type} (p : α → Bool) (xs : List α) : ∀ k : Nat, (∀ (i : Nat) (y : α), xs[i]? = some y → p y = false) → idxF p k xs = -1 := by
  induction xs with
  | nil => intro k _; rfl
  | cons y xs ih =>
    intro k hn
    simp only [idxF, hn 0 y (by simp)]
    exact ih _ (fun i z hz => hn (i + 1) z (by simpa using hz))
/-- The state of a search: nothing found ahead of k. -/
def NoneTo {α : Type} (p : α → Bool) (xs : List α) (k : Nat) : Prop := ∀ (i : Nat) (y : α), i < k → xs[i]? = some y → p y = false
theorem NoneTo.zero {α : Type} (p : α → Bool) (xs : List α) : NoneTo p xs 0 := fun i y h => by omega
theorem NoneTo.step {α : Type} {p : α → Bool} {xs : List α} {k : Nat} {x : α} (h : NoneTo p xs k) (hx : xs[k]? = some x) (hp : p x = false) : NoneTo p xs (k + 1) := fun i y hi hy => by
  rcases Nat.lt_or_ge i k with h1 | h1
  · exact h i y h1 hy
  · obtain rfl : i = k := by omega
    rw [hx] at hy; cases hy; exact hp
theorem NoneTo.found {α : Type} {p : α → Bool} {xs : List α} {k : Nat} {x : α} (h : NoneTo p xs k) (hx : xs[k]? = some x) (hp : p x = true) : idxF p 0 xs = (k : Int) := by
  have := idxF_some p xs 0 k x hx hp h
  simpa using this
theorem NoneTo.done {α : Type} {p : α → Bool} {xs : List α} {n : Nat} (h : NoneTo p xs n) (hn : xs.length = n) : idxF p 0 xs = -1 :=
  idxF_none p xs 0 fun i y hy => h i y (by have := (List.getElem?_eq_some_iff.1 hy).1; omega) hy

set_option maxHeartbeats 400000 in
theorem isID_c (n : Int) (w : World) : Calls Tryz.prog 25 #[.int .i64 n] w fun e w' => e = .returned (.bool (isIDb n)) ∧ w = w' := by
  go_enter Tryz.func25, Tryz.ntmps25
  go_wp2
  all_goals go_ret
  all_goals refine ⟨ret_bool ?_, rfl⟩
  all_goals simp [isIDb] <;> omega

set_option maxHeartbeats 400000 in
theorem index_c (A : Option Addr) (n c : Nat) (xs : List Int) (v : Int) (w : World) (hA : Ints w A n xs) :
    Calls Tryz.prog 64 #[.slice A n c, .int .i64 v] w fun e w' => e = .returned (.int .i64 (idxF (fun x => v == x) 0 xs)) ∧ Gr w w' := by
  have hl := hid hA.len
  have hn := hA.le
  go_enter Tryz.func64, Tryz.ntmps64
  go_wp2
  go_loop [8] (fun i => ∃ k : Nat, k ≤ n ∧ i = .int .i64 k ∧ NoneTo (fun x => v == x) xs k) (fun i => n - (intOf i).toNat)
  case atStart => exact ⟨0, Nat.zero_le _, rfl, NoneTo.zero _ _⟩
  case round =>
    obtain ⟨k, hk, rfl, hno⟩ := hrel
    have HNO := hid hno
    clear hno
    by_cases hlt : k < n
    · obtain ⟨b, o, x, rfl, hx, hc⟩ := hA.at hlt
      have HX := hid hx
      clear hx
      have e1 : 0 ≤ (k : Int) ∧ (k : Int) < (n : Int) := by omega
      go_wp2
      · have h : (v == x) = true := by assumption
        go_ret
        exact ⟨ret_int (HNO.out.found HX.out h).symm, Gr.rf _⟩
      · have h : (v == x) = false := by assumption
        go_round
        case rel => exact ⟨k + 1, by omega, by go_num, HNO.out.step HX.out h⟩
        case measure => simp [intOf]; omega
    · have e : k = n := by omega
      subst e
      go_wp2
      go_ret
      exact ⟨ret_int (HNO.out.done hl.out).symm, Gr.rf _⟩
end Go.Proofs.YtljkhijdaaconaaGreat

namespace Go.Proofs.YtljkhijdaaconaaGreat
open Go.RowKit

set_option maxHeartbeats 400000 in
theorem contains_c (A : Option Addr) (n c : Nat) (xs : List Int) (v : Int) (w : World) (hA : Ints w A n xs) :
    Calls Tryz.prog 24 #[.slice A n c, .int .i64 v] w fun e w' => e = .returned (.bool (xs.contains v)) ∧ Gr w w' := by
  go_enter Tryz.func24, Tryz.ntmps24
  go_wp2_with fail
  refine (index_c _ _ _ xs v _ hA).mono ?_
  rintro e w' ⟨rfl, hg⟩
  go_wp2
  go_ret
  exact ⟨ret_bool (by rw [idxF_any]; exact List.any_beq), hg⟩

set_option maxHeartbeats 400000 in
theorem notID_c (n : Int) (w : World) : Calls Tryz.prog 27 #[.int .i64 n] w fun e w' => e = .returned (.bool (!isIDb n)) ∧ Gr w w' := by
  go_enter Tryz.func27, Tryz.ntmps27
  go_wp2_with fail
  refine (isID_c n _).mono ?_
  rintro e w' ⟨rfl, rfl⟩
  go_wp2
  go_ret
  exact ⟨rfl, Gr.rf _⟩

set_option maxHeartbeats 400000 in
theorem indexFuncInt_c (A : Option Addr) (n c : Nat) (xs : List Int) (g : Nat) (lb : Array Value) (p : Int → Bool) (w : World) (hA : Ints w A n xs)
    (eg : ∀ args w, (callFunc g args).run Tryz.prog w = .ok (.enter g args) w)
    (hf : ∀ W x, Gr w W → Calls Tryz.prog g (#[.int .i64 x] ++ lb) W fun e W' => e = .returned (.bool (p x)) ∧ Gr W W') :
    Calls Tryz.prog 65 #[.slice A n c, .func (.func g) #[] lb] w fun e w' => e = .returned (.int .i64 (idxF p 0 xs)) ∧ Gr w w' := by
  have hl := hid hA.len
  have hn := hA.le
  have HF := hid hf
  clear hf
  go_enter Tryz.func65, Tryz.ntmps65
  go_wp2
  go_loopw [8] (fun i wr => ∃ k : Nat, k ≤ n ∧ i = .int .i64 k ∧ NoneTo p xs k ∧ Gr w wr) (fun i _ => n - (intOf i).toNat)
  case atStart => exact ⟨0, Nat.zero_le _, rfl, NoneTo.zero _ _, Gr.rf _⟩
  case round =>
    obtain ⟨k, hk, rfl, hno, hg⟩ := hrel
    have HNO := hid hno
    have HG := hid hg
    clear hno hg
    by_cases hlt : k < n
    · obtain ⟨b, o, x, rfl, hx, hc⟩ := (hA.gr HG.out).at hlt
      have HX := hid hx
      clear hx
      have e1 : 0 ≤ (k : Int) ∧ (k : Int) < (n : Int) := by omega
      go_wp2_with fail
      refine (HF.out _ x HG.out).mono ?_
      rintro e w1 ⟨rfl, hg1⟩
      have HG1 := hid (HG.out.tr hg1)
      clear hg1
      cases hp : p x with
      | true =>
        have h := hid hp
        clear hp
        go_wp2
        go_ret
        exact ⟨ret_int (HNO.out.found HX.out h.out).symm, HG1.out⟩
      | false =>
        have h := hid hp
        clear hp
        go_wp2
        go_roundw
        case rel => exact ⟨k + 1, by omega, by go_num, HNO.out.step HX.out h.out, HG1.out⟩
        case measure => simp [intOf]; omega
    · have e : k = n := by omega
      subst e
      go_wp2
      go_ret
      exact ⟨ret_int (HNO.out.done hl.out).symm, HG.out⟩
end Go.Proofs.YtljkhijdaaconaaGreat
