/- Arguments of the party laws: what is done, one thing or a row of them. -/
import Derived.Test.YtljkhijdaaconaaGreatFrame
set_option linter.unusedVariables false
namespace Go.Proofs.YtljkhijdaaconaaGreat
open Go.RowKit Go.ChangeShapes Go.WideShapes Go.ChangeAt

theorem wf_u16 {a : Int} (h : (Lit.int .u16 a).wf = true) : 0 ≤ a ∧ a ≤ 65535 := by
  have h1 : IntKind.u16.min = 0 := by decide
  have h2 : IntKind.u16.max = 65535 := by decide
  simpa [Lit.wf, h1, h2] using h
theorem wf_u8 {a : Int} (h : (Lit.int .u8 a).wf = true) : 0 ≤ a ∧ a ≤ 255 := by
  have h1 : IntKind.u8.min = 0 := by decide
  have h2 : IntKind.u8.max = 255 := by decide
  simpa [Lit.wf, h1, h2] using h
structure Act3 where
  k : Int
  a : Int
  b : Int
def elDo (w : World) (x : Act3) (b o : Nat) : Prop := w.cell? ⟨b, o, none⟩ = some (.int .i64 x.k) ∧ w.cell? ⟨b, o + 1, none⟩ = some (.int .i64 x.a) ∧ w.cell? ⟨b, o + 2, none⟩ = some (.int .i64 x.b)
abbrev Dos (w : World) (A : Option Addr) (n : Nat) (xs : List Act3) : Prop := RowOf 3 elDo w A n xs
section
variable {H : Type} {enc : TypeId × Value → H} {W : World}
theorem cellsDo : Tryz.prog.cellsOf 36 = 3 := by kernel_rfl
theorem do_open {fuel : Nat} {cs : List Value} {x : DataW H × List MemPlace} (h : DataW.trod enc Tryz.prog W 0 (fun _ => true) true fuel 36 cs = some x) :
    ∃ k a b : Int, cs = [.int .i64 k, .int .i64 a, .int .i64 b] := by
  obtain ⟨y0, y1, y2, m, hx, hl, g0, g1, g2⟩ := Go.Deep.trod_struct3 Tryz.underlying36 h
  obtain ⟨v0, v1, v2, rfl⟩ := three_of (hl.trans cellsDo)
  rw [cellsI] at g0 g1 g2
  obtain ⟨n0, e0, _⟩ := DataW.trod_int Tryz.underlying3 g0
  obtain ⟨n1, e1, _⟩ := DataW.trod_int Tryz.underlying3 g1
  obtain ⟨n2, e2, _⟩ := DataW.trod_int Tryz.underlying3 g2
  have f0 : v0 = .int .i64 n0 := by simpa using e0
  have f1 : v1 = .int .i64 n1 := by simpa using e1
  have f2 : v2 = .int .i64 n2 := by simpa using e2
  exact ⟨n0, n1, n2, by rw [f0, f1, f2]⟩
set_option maxRecDepth 100000 in
theorem do_arg {base : Nat} {v : Value} {d : DataW H} {p : List MemPlace} (hv : Value.okWide Tryz.prog W .any base 36 v) (h : DataW.Trod enc Tryz.prog W 0 (fun _ => true) true 36 v d p) :
    ∃ k a b : Int, v = .agg #[.int .i64 k, .int .i64 a, .int .i64 b] := by
  obtain ⟨fuel, h⟩ := h
  have h5 := okWide_agg Tryz.underlying36 hv
  clear hv
  obtain ⟨cs, rfl⟩ := h5
  obtain ⟨k, a, b, e⟩ := do_open h
  exact ⟨k, a, b, by simp only [Value.cells] at e; cases cs; simp only at e; rw [e]⟩
theorem dos_open {fuel : Nat} {cs : List Value} {x : DataW H × List MemPlace} (h : DataW.trod enc Tryz.prog W 0 (fun _ => true) true fuel 25 cs = some x) (hw : ∀ z ∈ x.1.weights Tryz.prog 25, z ≤ reachBytes) :
    ∃ A n c xs, cs = [.slice A n c] ∧ Dos W A n xs :=
  row_open 3 elDo Tryz.underlying25 cellsDo (by omega) (by kernel_rfl) (fun n cs' d ps a h1 h2 _ => by
    obtain ⟨b, o, e, hc⟩ := cell_at h1 (by omega)
    obtain ⟨k, x, y, rfl⟩ := do_open h2
    exact ⟨⟨k, x, y⟩, b, o, e, by simpa using hc 0 _ rfl, hc 1 _ rfl, hc 2 _ rfl⟩) h hw
set_option maxRecDepth 100000 in
theorem dos_arg {base : Nat} {v : Value} {d : DataW H} {p : List MemPlace} (hv : Value.okWide Tryz.prog W .any base 25 v) (h : DataW.Trod enc Tryz.prog W 0 (fun _ => true) true 25 v d p)
    (hw : ∀ z ∈ d.weights Tryz.prog 25, z ≤ reachBytes) : ∃ A n c xs, v = .slice A n c ∧ Dos W A n xs := by
  obtain ⟨fuel, h⟩ := h
  have h5 := okWide_slice Tryz.underlying25 hv
  clear hv
  obtain ⟨A, n, c, rfl⟩ := h5
  obtain ⟨A', n', c', xs, e, hx⟩ := dos_open h hw
  simp only [Value.cells] at e
  have e' : Value.slice A n c = .slice A' n' c' := by simpa using e
  cases e'
  exact ⟨_, _, _, xs, rfl, hx⟩
end
end Go.Proofs.YtljkhijdaaconaaGreat
