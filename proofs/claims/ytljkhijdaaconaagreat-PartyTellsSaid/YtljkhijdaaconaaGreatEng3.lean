/- Regions that draw their order: guarded operations taken first. -/
import Derived.Test.YtljkhijdaaconaaGreatEng
set_option linter.unusedVariables false
set_option linter.unusedSectionVars false
namespace Go.Proofs.YtljkhijdaaconaaGreat
open Go.RowKit
section
variable {P : Program} {ops : Array Oper} {Q : Exit → Act → World → Prop} {S : World → Prop}
variable {C : World → Prop} {n : Nat} {s : List (Nat × Value)} {a : Act} {w : World} {L pr : List Nat}
/-- A guarded value of its own, whatever the world. -/
theorem d_takeg {d : Nat} {op : Op} {ty : TypeId} {pos : String} {aft : Array Edge} {v : Value} {fuel : Nat} (i : Nat) {bs bs' : List Bool} {j dj : Nat} {b t : Bool} (hA : Fits a n s) (hj : (ops[j]?).bind (·.dst) = some dj) (ht : lk s dj = some (.bool t)) (hn : Nat.blt dj n = true) (hb : t = b)
    (hi : ops[i]? = some ⟨some d, op, ty, pos, aft, some (j, b)⟩) (hp : pr.contains i = true) (ho : okTake ops bs i bs' = true)
    (hQ : ∀ c a w, Q (.panic c) (a.put (some d) v) w → Q (.panic c) a w) (hy : Y P (fun _ => True) n s op ty v) (hd : Nat.blt d n = true)
    (k : ∀ a', Fits a' n ((d, v) :: s) → wpAnyS P .any ops Q S L pr fuel bs'.toArray a' w) : wpAnyS P .any ops Q S L pr (fuel + 1) bs.toArray a w := by
  obtain ⟨h1, h2, h3, h4⟩ := okTake_spec ho
  refine wpAnyS_first (T := fun _ => True) (.inr rfl) hp hi (Region.noSelect_spec h1) hQ fuel _ a w (Region.free_spec hi h2) h3 (.inl ⟨by rw [wanted_of rfl hA hj ht (blt_lt hn), hb, beq_self_eq_true], fun w' _ => hy a w' _ hA trivial rfl rfl⟩) trivial ?_
  rw [h4]
  exact k _ (hA.put (blt_lt hd) v)
/-- A guarded read. -/
theorem d_loadg {d : Nat} {op : Op} {ty : TypeId} {pos : String} {aft : Array Edge} {v : Value} {fuel : Nat} (i : Nat) {bs bs' : List Bool} {j dj : Nat} {b t : Bool} (hA : Fits a n s) (hs : S w) (hj : (ops[j]?).bind (·.dst) = some dj) (ht : lk s dj = some (.bool t)) (hn : Nat.blt dj n = true) (hb : t = b)
    (hi : ops[i]? = some ⟨some d, op, ty, pos, aft, some (j, b)⟩) (hl : L.contains i = true) (hp : pr.contains i = true) (ho : okTake ops bs i bs' = true)
    (hQ : ∀ c a w, Q (.panic c) (a.put (some d) v) w → Q (.panic c) a w) (hy : Y P S n s op ty v) (hd : Nat.blt d n = true)
    (k : ∀ a', Fits a' n ((d, v) :: s) → wpAnyS P .any ops Q S L pr fuel bs'.toArray a' w) : wpAnyS P .any ops Q S L pr (fuel + 1) bs.toArray a w := by
  obtain ⟨h1, h2, h3, h4⟩ := okTake_spec ho
  refine wpAnyS_first (T := S) (.inl ⟨rfl, by simpa using hl⟩) hp hi (Region.noSelect_spec h1) hQ fuel _ a w (Region.free_spec hi h2) h3 (.inl ⟨by rw [wanted_of rfl hA hj ht (blt_lt hn), hb, beq_self_eq_true], fun w' hw => hy a w' _ hA hw rfl rfl⟩) hs ?_
  rw [h4]
  exact k _ (hA.put (blt_lt hd) v)
end
end Go.Proofs.YtljkhijdaaconaaGreat
