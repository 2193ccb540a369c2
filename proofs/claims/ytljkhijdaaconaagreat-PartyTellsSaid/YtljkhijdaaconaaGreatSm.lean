/- Steps at maps from int to int. -/
import Derived.Test.YtljkhijdaaconaaGreatEng
import Derived.Test.YtljkhijdaaconaaGreatMap
set_option linter.unusedVariables false
set_option linter.unusedSectionVars false
namespace Go.Proofs.YtljkhijdaaconaaGreat
open Go.RowKit

section
variable {P : Program} {C : World → Prop} {n : Nat} {s : List (Nat × Value)}
theorem Y.look {t kt et ty : TypeId} {x y : Operand} {b m : Nat} {f : Int → Option Int} {k : Int} (ht : P.underlying t = some (.map kt et)) (hk : P.underlying kt = some (.int .i64)) (hz : ∀ W, (zeroValue et).run P W = .ok (.int .i64 0) W)
    (hx : ev s x = some (.map (some b))) (hy : ev s y = some (.int .i64 k)) (hc : ∀ w, C w → IMap w b f m) : Y P C n s (.lookup t x y false) ty (.int .i64 ((f k).getD 0)) := fun a w o hA hC ho _ => by
  have := run_look (P := P) ht hk (hz w) (hc w hC) k
  simp [execOp, ho, hA.ev hx, hA.ev hy, this]
theorem Y.lenMap {t kt et ty : TypeId} {x : Operand} {b m : Nat} {f : Int → Option Int} (ht : P.underlying t = some (.map kt et))
    (hx : ev s x = some (.map (some b))) (hc : ∀ w, C w → IMap w b f m) : Y P C n s (.call { callee := .builtin .len, args := #[x], argTypes := #[t] }) ty (.int .i64 m) := fun a w o hA hC ho _ => by
  obtain ⟨es, ck, h1, h2, h3, h4⟩ := hc w hC
  have hobj : (getObj b).run P w = .ok (.map es ck) w := by simp [getObj, Sem.run, h1]
  simp [execOp, ho, resolve, invoke, builtin, hA.ev hx, Builtin.len_, run_underlying ht, goInt, hobj, h2]
theorem St.map {w : World} {B : List Bx} {V : List (Nat × World)} (h : St w B V) {lo : Nat} {v : World} (hv : (lo, v) ∈ V) {b m : Nat} {f : Int → Option Int} (hlo : lo ≤ b) (hm : IMap v b f m) : IMap w b f m := hm.of_block (h.at hv b hlo hm.lt)
end
end Go.Proofs.YtljkhijdaaconaaGreat
