/- A hall that came in is readable. A hall that came in is readable: this program's types. -/
import Derived.Test.YtljkhijdaaconaaGreatData
import Derived.ProofKit
import Derived.SizedLaws
import Derived.Deep.Slices
import Derived.ChangeArms
import Derived.Deep.Strs
import Derived.Test.YtljkhijdaaconaaGreatProg
set_option linter.unusedVariables false
namespace Go.Proofs.YtljkhijdaaconaaGreat
open Go.RowKit Go.ChangeShapes Go.WideShapes Go.ChangeAt

theorem choose_list {α : Type} (p : Nat → α → Prop) : ∀ n : Nat, (∀ i, i < n → ∃ x, p i x) → ∃ xs : List α, xs.length = n ∧ ∀ i x, xs[i]? = some x → p i x
  | 0, _ => ⟨[], rfl, fun i x h => by simp at h⟩
  | n + 1, h => by
    obtain ⟨xs, hl, hp⟩ := choose_list p n (fun i hi => h i (by omega))
    obtain ⟨x, hx⟩ := h n (by omega)
    refine ⟨xs ++ [x], by simp [hl], fun i y hy => ?_⟩
    by_cases hi : i < n
    · rw [List.getElem?_append_left (by omega)] at hy
      exact hp i y hy
    · rw [List.getElem?_append_right (by omega)] at hy
      have : i = n := by
        have := (List.getElem?_eq_some_iff.1 hy).1
        simp at this; omega
      subst this
      simp [hl] at hy
      subst hy
      exact hx
section
variable {H : Type} {enc : TypeId × Value → H} {P : Program} {W : World}
theorem row_open {α : Type} (k : Nat) (el : World → α → Nat → Nat → Prop) {t e : TypeId} (ht : P.underlying t = some (.slice e)) (hk : P.cellsOf e = k) (hk0 : 0 < k) (hb1 : Nat.ble 1 (P.bytesOf e) = true)
    (hel : ∀ (n : Nat) (cs' : List Value) (d : DataW H) (ps : List MemPlace) (a : Addr), W.cells? 0 a k = some cs' → DataW.trod enc P W 0 (fun _ => true) true n e cs' = some (d, ps) → (∀ z ∈ d.weights P e, z ≤ reachBytes) → ∃ x b o, a = ⟨b, o, none⟩ ∧ el W x b o)
    {fuel : Nat} {cs : List Value} {x : DataW H × List MemPlace} (h : DataW.trod enc P W 0 (fun _ => true) true fuel t cs = some x) (hw : ∀ z ∈ x.1.weights P t, z ≤ reachBytes) :
    ∃ A n c xs, cs = [.slice A n c] ∧ RowOf k el W A n xs := by
  have hb : 1 ≤ P.bytesOf e := Nat.le_of_ble_eq_true hb1
  rcases Go.Deep.open_slice ht h with ⟨rfl, rfl⟩ | ⟨a, len, cap, m, n, D, Pl, rfl, hbl, hl, hm, hmm, rfl, hx⟩
  · exact ⟨none, 0, 0, [], rfl, RowOf.nil⟩
  · have hmc : m = cap := by simpa using hmm
    have hmem : ((List.range len).map D).length * P.bytesOf e ≤ reachBytes := by
      have := hw ((((List.range len).map D).length + ((List.range (m - len)).map fun j => D (len + j)).length) * P.bytesOf e) (by simp [DataW.weights, ht])
      exact Nat.le_trans (Nat.mul_le_mul_right _ (Nat.le_add_right _ _)) this
    have hlen : len ≤ reachBytes := by
      have h1 : len * 1 ≤ len * P.bytesOf e := Nat.mul_le_mul_left _ hb
      simp only [List.length_map, List.length_range] at hmem
      omega
    have hreach : reachBytes ≤ 140737488355328 := by decide
    have hall : ∀ (l : List (DataW H)) (d : DataW H), d ∈ l → ∀ z ∈ d.weights P e, z ∈ DataW.weightsAll P e l := by
      intro l
      induction l with
      | nil => intro d hd; cases hd
      | cons y l ih =>
        intro d hd z hz
        rw [DataW.weightsAll, List.mem_append]
        rcases List.mem_cons.1 hd with rfl | hd
        · exact .inl hz
        · exact .inr (ih d hd z hz)
    obtain ⟨xs, hxl, hxs⟩ := choose_list (fun i x => ∃ b o, a.add (i * k) = ⟨b, o, none⟩ ∧ el W x b o) len (fun i hi => by
      obtain ⟨cs', h1, h2⟩ := hx i (by omega)
      rw [hk] at h1
      exact hel n cs' (D i) (Pl i) _ h1 h2 (fun z hz => hw z (by
        simp only [DataW.weights, ht]
        exact List.mem_cons_of_mem _ (List.mem_append_left _ (hall _ _ (List.mem_map.2 ⟨i, by simpa using hi, rfl⟩) z hz)))))
    refine ⟨some a, len, cap, xs, rfl, hxl, by omega, fun j x hj => ?_⟩
    obtain ⟨b, o, e1, h1⟩ := hxs j x hj
    have hj0 := (List.getElem?_eq_some_iff.1 hj).1
    obtain ⟨x0, hx0⟩ : ∃ x0, xs[0]? = some x0 := ⟨_, List.getElem?_eq_getElem (by omega)⟩
    obtain ⟨b0, o0, e0, _⟩ := hxs 0 x0 hx0
    have h2 : a.spot = none := by
      rw [Nat.zero_mul] at e0
      have : a.add 0 = a := by simp [Addr.add]
      rw [this] at e0
      rw [e0]
    have hsp : a.block = b ∧ a.off + j * k = o := by
      unfold Addr.add at e1
      split at e1
      · rename_i hz
        rw [e1, hz]
        exact ⟨rfl, rfl⟩
      · cases e1
        exact ⟨rfl, rfl⟩
    obtain ⟨rfl, rfl⟩ := hsp
    refine ⟨a.block, a.off, ?_, h1⟩
    cases a
    simp only at h2
    rw [h2]
end
end Go.Proofs.YtljkhijdaaconaaGreat

namespace Go.Proofs.YtljkhijdaaconaaGreat
open Go.RowKit Go.ChangeShapes Go.WideShapes Go.ChangeAt

section
variable {H : Type} {enc : TypeId × Value → H} {W : World}
theorem cell_at {a : Addr} {k : Nat} {cs : List Value} (h : W.cells? 0 a k = some cs) (hk : 0 < k) : ∃ b o, a = ⟨b, o, none⟩ ∧ ∀ i v, cs[i]? = some v → W.cell? ⟨b, o + i, none⟩ = some v := by
  obtain ⟨_, hl, hc⟩ := World.cells?_some h
  have h0 := hc 0 hk
  have e0 : a.add 0 = a := by simp [Addr.add]
  obtain ⟨v0, hv0⟩ : ∃ v, cs[0]? = some v := ⟨_, List.getElem?_eq_getElem (by omega)⟩
  rw [e0, hv0] at h0
  have hs := World.cell?_spot h0
  refine ⟨a.block, a.off, by cases a; simp only at hs; rw [hs], fun i v hv => ?_⟩
  have hi := (List.getElem?_eq_some_iff.1 hv).1
  have := hc i (by omega)
  rw [hv] at this
  have e : a.add i = ⟨a.block, a.off + i, none⟩ := by
    cases a
    simp only at hs
    subst hs
    unfold Addr.add
    split <;> simp_all
  rw [e] at this
  exact this
theorem two_of {l : List Value} (h : l.length = 2) : ∃ a b, l = [a, b] := by
  match l, h with
  | [a, b], _ => exact ⟨a, b, rfl⟩
theorem three_of {l : List Value} (h : l.length = 3) : ∃ a b c, l = [a, b, c] := by
  match l, h with
  | [a, b, c], _ => exact ⟨a, b, c, rfl⟩
theorem four_of {l : List Value} (h : l.length = 4) : ∃ a b c d, l = [a, b, c, d] := by
  match l, h with
  | [a, b, c, d], _ => exact ⟨a, b, c, d, rfl⟩
theorem ints_open {fuel : Nat} {cs : List Value} {x : DataW H × List MemPlace} (h : DataW.trod enc Tryz.prog W 0 (fun _ => true) true fuel 38 cs = some x) (hw : ∀ z ∈ x.1.weights Tryz.prog 38, z ≤ reachBytes) :
    ∃ A n c xs, cs = [.slice A n c] ∧ Ints W A n xs :=
  row_open 1 (elIntL 0) Tryz.underlying38 (by kernel_rfl) (by omega) (by kernel_rfl) (fun n cs' d ps a h1 h2 _ => by
    obtain ⟨b, o, e, hc⟩ := cell_at h1 (by omega)
    obtain ⟨v, rfl, _, _⟩ := DataW.trod_int Tryz.underlying3 h2
    exact ⟨v, b, o, e, Nat.zero_le _, by simpa using hc 0 _ rfl⟩) h hw
theorem invs_open {fuel : Nat} {cs : List Value} {x : DataW H × List MemPlace} (h : DataW.trod enc Tryz.prog W 0 (fun _ => true) true fuel 44 cs = some x) (hw : ∀ z ∈ x.1.weights Tryz.prog 44, z ≤ reachBytes) :
    ∃ A n c xs, cs = [.slice A n c] ∧ Invs W A n xs :=
  row_open 2 (elInvL 0) Tryz.underlying44 (by kernel_rfl) (by omega) (by kernel_rfl) (fun n cs' d ps a h1 h2 _ => by
    obtain ⟨b, o, e, hc⟩ := cell_at h1 (by omega)
    obtain ⟨y0, y1, m, hx, hl, g0, g1⟩ := Go.ChangeShapes.trod_struct2 Tryz.underlying61 h2
    have c1 : Tryz.prog.cellsOf 3 = 1 := by kernel_rfl
    have c2 : Tryz.prog.cellsOf 61 = 2 := by kernel_rfl
    obtain ⟨v0, v1, rfl⟩ := two_of (hl.trans c2)
    rw [c1] at g0 g1
    obtain ⟨n0, e0, _⟩ := DataW.trod_int Tryz.underlying3 g0
    obtain ⟨n1, e1, _⟩ := DataW.trod_int Tryz.underlying3 g1
    have f0 : v0 = .int .i64 n0 := by simpa using e0
    have f1 : v1 = .int .i64 n1 := by simpa using e1
    subst f0; subst f1
    exact ⟨⟨n0, n1⟩, b, o, e, Nat.zero_le _, by simpa using hc 0 _ rfl, hc 1 _ rfl⟩) h hw
theorem struct4 {P : Program} {t : TypeId} {f0 f1 f2 f3 : Field} {fuel : Nat} {cs : List Value} {x : DataW H × List MemPlace} (ht : P.underlying t = some (.struct #[f0, f1, f2, f3])) (h : DataW.trod enc P W 0 (fun _ => true) true fuel t cs = some x) :
    ∃ y0 y1 y2 y3 n, x.1 = .agg [y0.1, y1.1, y2.1, y3.1] ∧ cs.length = P.cellsOf t ∧ DataW.trod enc P W 0 (fun _ => true) true n f0.type ((cs.drop f0.offset).take (P.cellsOf f0.type)) = some y0 ∧
      DataW.trod enc P W 0 (fun _ => true) true n f1.type ((cs.drop f1.offset).take (P.cellsOf f1.type)) = some y1 ∧ DataW.trod enc P W 0 (fun _ => true) true n f2.type ((cs.drop f2.offset).take (P.cellsOf f2.type)) = some y2 ∧ DataW.trod enc P W 0 (fun _ => true) true n f3.type ((cs.drop f3.offset).take (P.cellsOf f3.type)) = some y3 := by
  obtain ⟨xs, n, _, rfl, hl, hlen, hf⟩ := DataW.trod_struct ht h
  match xs, hlen with
  | [y0, y1, y2, y3], _ => exact ⟨y0, y1, y2, y3, n, rfl, hl, by simpa using hf 0 f0 rfl, by simpa using hf 1 f1 rfl, by simpa using hf 2 f2 rfl, by simpa using hf 3 f3 rfl⟩
theorem cellsI : Tryz.prog.cellsOf 3 = 1 := by kernel_rfl
theorem cellsSI : Tryz.prog.cellsOf 38 = 1 := by kernel_rfl
theorem cellsSV : Tryz.prog.cellsOf 44 = 1 := by kernel_rfl
theorem cellsSP : Tryz.prog.cellsOf 22 = 1 := by kernel_rfl
theorem cellsP : Tryz.prog.cellsOf 46 = 4 := by kernel_rfl
theorem cellsH : Tryz.prog.cellsOf 24 = 3 := by kernel_rfl
theorem ptys_open {fuel : Nat} {cs : List Value} {x : DataW H × List MemPlace} (h : DataW.trod enc Tryz.prog W 0 (fun _ => true) true fuel 22 cs = some x) (hw : ∀ z ∈ x.1.weights Tryz.prog 22, z ≤ reachBytes) :
    ∃ A n c xs, cs = [.slice A n c] ∧ Ptys W A n xs :=
  row_open 4 (elPtyL 0) Tryz.underlying22 cellsP (by omega) (by kernel_rfl) (fun n cs' d ps a h1 h2 hz => by
    obtain ⟨b, o, e, hc⟩ := cell_at h1 (by omega)
    obtain ⟨y0, y1, y2, y3, m, hx, hl, g0, g1, g2, g3⟩ := struct4 Tryz.underlying46 h2
    obtain ⟨v0, v1, v2, v3, rfl⟩ := four_of (hl.trans cellsP)
    simp only at hx
    subst hx
    simp only [DataW.weights, Tryz.underlying46] at hz
    rw [cellsI] at g0 g1
    rw [cellsSI] at g2
    rw [cellsSV] at g3
    obtain ⟨n0, e0, _⟩ := DataW.trod_int Tryz.underlying3 g0
    obtain ⟨n1, e1, _⟩ := DataW.trod_int Tryz.underlying3 g1
    have f0 : v0 = .int .i64 n0 := by simpa using e0
    have f1 : v1 = .int .i64 n1 := by simpa using e1
    obtain ⟨M, k, kc, xs, e2, hM⟩ := ints_open g2 (fun z hz' => hz z (DataW.weights_mem_each (j := 2) rfl rfl z hz'))
    obtain ⟨I, i, ic, ys, e3, hI⟩ := invs_open g3 (fun z hz' => hz z (DataW.weights_mem_each (j := 3) rfl rfl z hz'))
    have f2 : v2 = .slice M k kc := by simpa using e2
    have f3 : v3 = .slice I i ic := by simpa using e3
    subst f0; subst f1; subst f2; subst f3
    exact ⟨⟨n0, n1, xs, ys⟩, b, o, e, M, k, kc, I, i, ic, Nat.zero_le _, by simpa using hc 0 _ rfl, hc 1 _ rfl, hc 2 _ rfl, hc 3 _ rfl, hM, hI⟩) h hw
theorem hall_open {fuel : Nat} {cs : List Value} {x : DataW H × List MemPlace} (h : DataW.trod enc Tryz.prog W 0 (fun _ => true) true fuel 24 cs = some x) (hw : ∀ z ∈ x.1.weights Tryz.prog 24, z ≤ reachBytes) :
    ∃ A n c, ∃ H' : Hall, cs = [.int .i64 H'.tick, .int .i64 H'.last, .slice A n c] ∧ Ptys W A n H'.ps := by
  obtain ⟨y0, y1, y2, m, hx, hl, g0, g1, g2⟩ := Go.Deep.trod_struct3 Tryz.underlying24 h
  obtain ⟨v0, v1, v2, rfl⟩ := three_of (hl.trans cellsH)
  subst hx
  simp only [DataW.weights, Tryz.underlying24] at hw
  rw [cellsI] at g0 g1
  rw [cellsSP] at g2
  obtain ⟨n0, e0, _⟩ := DataW.trod_int Tryz.underlying3 g0
  obtain ⟨n1, e1, _⟩ := DataW.trod_int Tryz.underlying3 g1
  have f0 : v0 = .int .i64 n0 := by simpa using e0
  have f1 : v1 = .int .i64 n1 := by simpa using e1
  obtain ⟨A, k, kc, xs, e2, hA⟩ := ptys_open g2 (fun z hz' => hw z (DataW.weights_mem_each (j := 2) rfl rfl z hz'))
  have f2 : v2 = .slice A k kc := by simpa using e2
  subst f0; subst f1; subst f2
  exact ⟨A, k, kc, ⟨n0, n1, xs⟩, rfl, hA⟩
end
end Go.Proofs.YtljkhijdaaconaaGreat
