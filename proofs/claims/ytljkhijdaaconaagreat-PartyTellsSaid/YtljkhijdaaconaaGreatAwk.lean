/- The examples of the chapter, on plain data. -/
import Derived.Test.YtljkhijdaaconaaGreatShare
set_option linter.unusedVariables false
namespace Go.Proofs.YtljkhijdaaconaaGreat
open Go.RowKit

/-- The halls of the examples, one after the other. -/
def awH : Nat → Hall
  | 0 => noHall
  | 1 => ⟨0, 1, [⟨1, 7, [7], []⟩]⟩
  | 2 => ⟨0, 2, [⟨1, 7, [7], []⟩, ⟨2, 8, [8], []⟩]⟩
  | 3 => ⟨0, 2, [⟨1, 7, [7], [⟨9, 600⟩]⟩, ⟨2, 8, [8], []⟩]⟩
  | 4 => ⟨0, 2, [⟨1, 7, [7], [⟨9, 600⟩]⟩, ⟨2, 8, [8], [⟨9, 600⟩]⟩]⟩
  | _ => ⟨0, 2, [⟨1, 7, [7, 9], []⟩, ⟨2, 8, [8], []⟩]⟩
def awK : Nat → Int | 0 => 1 | 1 => 1 | 2 => 2 | 3 => 2 | _ => 3
def awA : Nat → Int | 0 => 7 | 1 => 8 | 2 => 7 | 3 => 8 | _ => 9
def awB : Nat → Int | 0 => 0 | 1 => 0 | 2 => 9 | 3 => 9 | _ => 1
theorem aw_step : ∀ i, i < 5 → oneF (awH i) (awK i) (awA i) (awB i) = (awH (i + 1), 0) := by decide
def aw6 : Hall := ⟨0, 2, [⟨1, 9, [9], []⟩, ⟨2, 8, [8], []⟩]⟩
def aw7 : Hall := ⟨0, 2, [⟨2, 8, [8], []⟩]⟩
def aw8 : Hall := ⟨0, 3, [⟨2, 8, [8], []⟩, ⟨3, 9, [9], []⟩]⟩
def aw9 : Hall := ⟨0, 3, [⟨2, 8, [8], []⟩, ⟨3, 9, [9], [⟨1, 600⟩]⟩]⟩
def aw10 : Hall := ⟨0, 3, [⟨2, 8, [8], []⟩, ⟨3, 9, [9], [⟨1, 600⟩, ⟨2, 600⟩]⟩]⟩
def aw11 : Hall := ⟨599, 3, [⟨2, 8, [8], []⟩, ⟨3, 9, [9], [⟨1, 600⟩, ⟨2, 600⟩]⟩]⟩
def aw12 : Hall := ⟨599, 3, [⟨2, 8, [8], []⟩, ⟨3, 9, [9, 1], [⟨2, 600⟩]⟩]⟩
def aw13 : Hall := ⟨600, 3, [⟨2, 8, [8], []⟩, ⟨3, 9, [9], []⟩]⟩
theorem aw_a : change (ansF 9 2 true) (awH 5) = (noHall, 6) := by decide
theorem aw_b : change (leadF 9 (invF 5)) (awH 5) = (noHall, 362) := by decide
theorem aw_c : change (leadF 7 (invF 8)) (awH 5) = (noHall, 361) := by decide
theorem aw_p : ofF 9 (awH 5) = (⟨1, 7, [7, 9], []⟩, true) := by decide
theorem aw_d : change (lvF 7) (awH 5) = (aw6, 0) := by decide
theorem aw_q : ofF 9 aw6 = (⟨1, 9, [9], []⟩, true) := by decide
theorem aw_e : change (lvF 9) aw6 = (aw7, 0) := by decide
theorem aw_f : change (creF 9) aw7 = (aw8, 0) := by decide
theorem aw_g : change (leadF 9 (invF 1)) aw8 = (aw9, 0) := by decide
theorem aw_i : change (leadF 9 (invF 2)) aw9 = (aw10, 0) := by decide
theorem aw_j : change (advF 599) aw10 = (aw11, 0) := by decide
theorem aw_k : change (ansF 1 3 true) aw11 = (aw12, 0) := by decide
theorem aw_m : change (advF 600) aw10 = (aw13, 0) := by decide
theorem aw_n : change (ansF 1 3 true) aw13 = (noHall, 6) := by decide
theorem aw_v : valid aw10 = true := by decide
theorem aw_s : shareF 3 11 aw11 = ([11], 0) := by decide
end Go.Proofs.YtljkhijdaaconaaGreat
