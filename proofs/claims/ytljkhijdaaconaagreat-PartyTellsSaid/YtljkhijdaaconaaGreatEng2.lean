/- Steps that build structs and slices. Steps at slices: parts, clear. Steps: append of zeros where there is no room, copy. -/
import Derived.Test.YtljkhijdaaconaaGreatOwn
import Derived.Great.BuildSlice
import Derived.Laws.Tables
import Derived.Laws.CopyRow
import Derived.Lib.AppendZerosOnto
import Derived.Lib.Overlaps
import Derived.Laws.Externs
set_option linter.unusedVariables false
set_option linter.unusedSectionVars false
namespace Go.Proofs.YtljkhijdaaconaaGreat
open Go.RowKit

section
variable {P : Program} {C : World → Prop} {n : Nat} {s : List (Nat × Value)}
def evP (s : List (Nat × Value)) : List (Nat × Operand) → Option (List (Nat × Value))
  | [] => some []
  | (i, x) :: l => match ev s x, evP s l with | some v, some vs => some ((i, v) :: vs) | _, _ => none
theorem Fits.evP {a : Act} (h : Fits a n s) : ∀ {l : List (Nat × Operand)} {vs : List (Nat × Value)}, evP s l = some vs → l.map (fun x => (x.1, a.eval x.2)) = vs
  | [], vs, hx => by simp only [YtljkhijdaaconaaGreat.evP, Option.some.injEq] at hx; subst hx; rfl
  | (i, x) :: l, vs, hx => by
    simp only [YtljkhijdaaconaaGreat.evP] at hx
    split at hx
    · rename_i v us h1 h2
      simp only [Option.some.injEq] at hx
      subst hx
      rw [List.map_cons, h.ev h1, Fits.evP h h2]
    · cases hx
theorem Y.build {T ty : TypeId} {parts : List (Nat × Operand)} {vs : List (Nat × Value)} {cs : List Value} (hx : evP s parts = some vs) (h : P.built T vs = some cs.toArray) : Y P C n s (.build T parts.toArray) ty (.agg cs.toArray) := fun a w o hA _ ho _ => by
  have e : (parts.toArray.map fun x => (x.1, a.eval x.2)) = vs.toArray := by
    rw [List.map_toArray, hA.evP hx]
  have hr := run_build (P := P) w T vs.toArray cs.toArray h
  simp only [execOp, ho]
  have e' : (parts.toArray.map fun (x : Nat × Operand) => match x with | (i, x) => (i, a.eval x)) = vs.toArray := e
  simp [e', hr]
theorem Y.eqNil {T T' e ty : TypeId} {x : Operand} {A : Option Addr} {m c : Nat} (hx : ev s x = some (.slice A m c)) (hT : P.underlying T = some (.slice e)) : Y P C n s (.binOp .eql T x (.const (.slice none 0 0)) T') ty (.bool A.isNone) := fun a w o hA _ ho _ => by
  have hq : (Op.equal T (.slice A m c) (.slice none 0 0)).run P w = .ok A.isNone w := by
    unfold Op.equal
    rw [show Op.maxDepth = 9999 + 1 from rfl, Op.equalIn]
    cases A <;> simp [run_underlying hT]
  have hc : a.eval (.const (.slice none 0 0)) = .slice none 0 0 := rfl
  cases A <;> simp [execOp, ho, hA.ev hx, hc, eqGuard, binOp, hq]
end

section
variable {P : Program} {n : Nat} {s : List (Nat × Value)} {ops : Array Oper} {rest : List Oper} {Q : Exit → Act → World → Prop} {a : Act} {w : World} {B : List Bx} {V : List (Nat × World)}
/-- A slice literal. -/
theorem m_buildSlice {d : Nat} {t ty e : TypeId} {len : Nat} {parts : List (Nat × Operand)} {vs : List (Nat × Value)} {pos : String} {aft : Array Edge} (cells : List Value) (hA : Fits a n s) (hS : St w B V) (hx : evP s parts = some vs) (hd : Nat.blt d n = true)
    (hr : ∀ w : World, (Instr.buildSlice t len vs.toArray).run P w = .ok (.slice (some ⟨w.heap.size, 0, none⟩) len len) (w.alloc (.cells cells.toArray e)))
    (k : ∀ a' b w', Fits a' n ((d, .slice (some ⟨b, 0, none⟩) len len) :: s) → Gr w w' → St w' (cB b cells e :: B) V → wpList P ops Q rest a' w') :
    wpList P ops Q (⟨some d, .buildSlice t len parts.toArray, ty, pos, aft, none⟩ :: rest) a w := by
  refine wpList_plain rfl fun K hK => ?_
  have e1 : (parts.toArray.map fun x => (x.1, a.eval x.2)) = vs.toArray := by
    rw [List.map_toArray, hA.evP hx]
  have e' : (parts.toArray.map fun (x : Nat × Operand) => match x with | (i, x) => (i, a.eval x)) = vs.toArray := e1
  have hr' : (execOp a.eval ⟨some d, .buildSlice t len parts.toArray, ty, pos, aft, none⟩).run P w = .ok (.value (.slice (some ⟨w.heap.size, 0, none⟩) len len)) (w.alloc (.cells cells.toArray e)) := by
    simp only [execOp]
    simp [e', hr]
  unfold Oper.wp
  rw [hr']
  exact hK _ _ (k _ _ _ (hA.put (blt_lt hd) _) ((Gr.rf w).al _) (hS.new cells e))
theorem run_bs0 {t e z : Nat} (hT : P.underlying t = some (.slice e)) (hz : ∀ w, (sizeOf e).run P w = .ok z w) (w : World) : (Instr.buildSlice t 0 #[]).run P w = .ok (.slice (some ⟨w.heap.size, 0, none⟩) 0 0) (w.alloc (.cells #[] e)) := by
  simp [Instr.buildSlice, run_underlying hT, hz, Instr.fill, newRow, newObj, Sem.run]
  rw [show (Array.range 0) = #[] from by apply Array.ext <;> simp, Array.map_empty]
/-- Nothing appended. -/
theorem m_append0 {d : Nat} {t ty e : TypeId} {x y : Operand} {pos : String} {aft : Array Edge} {A : Option Addr} {m c z : Nat} (hA : Fits a n s) (hS : St w B V) (hx : ev s x = some (.slice A m c)) (hy : ev s y = some (.slice none 0 0)) (hd : Nat.blt d n = true) (hm : m ≤ c)
    (ht : P.underlying t = some (.slice e)) (hz : ∀ w, (sizeOf e).run P w = .ok z w)
    (k : ∀ a', Fits a' n ((d, .slice A m c) :: s) → wpList P ops Q rest a' w) :
    wpList P ops Q (⟨some d, .call { callee := .builtin .append, args := #[x, y], argTypes := #[t, t] }, ty, pos, aft, none⟩ :: rest) a w := by
  refine wpList_plain rfl fun K hK => ?_
  have hr' : (execOp a.eval ⟨some d, .call { callee := .builtin .append, args := #[x, y], argTypes := #[t, t] }, ty, pos, aft, none⟩).run P w = .ok (.value (.slice A m c)) w := by
    cases A <;> simp [execOp, resolve, invoke, builtin, hA.ev hx, hA.ev hy, Builtin.append_, run_underlying ht, hz, Builtin.lenOf, Builtin.firstCells, hm, storeCells]
  unfold Oper.wp
  rw [hr']
  exact hK _ _ (k _ (hA.put (blt_lt hd) _))
end
end Go.Proofs.YtljkhijdaaconaaGreat

namespace Go.Proofs.YtljkhijdaaconaaGreat
open Go.RowKit

theorem add_none (b o k : Nat) : (⟨b, o, none⟩ : Addr).add k = ⟨b, o + k, none⟩ := by unfold Addr.add; split <;> simp_all
section
variable {P : Program} {C : World → Prop} {n : Nat} {s : List (Nat × Value)}
theorem elem_of {t e : TypeId} (ht : P.underlying t = some (.slice e)) : P.underlying t = some (.slice (P.elem t)) := by
  rw [ht]; simp [Program.elem, ht]
theorem elem_eq {t e : TypeId} (ht : P.underlying t = some (.slice e)) : P.elem t = e := by simp [Program.elem, ht]
/-- s[:h] -/
theorem Y.slH {t e ty : TypeId} {x y : Operand} {b o m c z : Nat} {h : Nat} (hx : ev s x = some (.slice (some ⟨b, o, none⟩) m c)) (hy : ev s y = some (.int .i64 (h : Int))) (ht : P.underlying t = some (.slice e)) (hz : ∀ w, (sizeOf e).run P w = .ok z w) (hh : h ≤ c) :
    Y P C n s (.slice t x none (some y) none) ty (.slice (some ⟨b, o, none⟩) h c) := fun a w op hA _ ho _ => by
  have h1 := run_sliceAt_slice (P := P) (w := w) t (.slice (some ⟨b, o, none⟩) m c) none (some (.int .i64 (h : Int))) none (elem_of ht)
  have h2 := run_slice_h (P := P) (w := w) t (some ⟨b, o, none⟩) m c (elem_of ht) .i64 (h : Int) (Int.natCast_nonneg _) (by omega)
  rw [elem_eq ht] at h2
  have h3 : sliced (some ⟨b, o, none⟩) 0 h c z = .slice (some ⟨b, o, none⟩) h c := by
    unfold sliced
    split <;> simp [add_none]
  simp [execOp, ho, hA.ev hx, hA.ev hy, h1, h2, hz, h3]
/-- s[l:] -/
theorem Y.slL {t e ty : TypeId} {x y : Operand} {b o m c z : Nat} {l : Nat} (hx : ev s x = some (.slice (some ⟨b, o, none⟩) m c)) (hy : ev s y = some (.int .i64 (l : Int))) (ht : P.underlying t = some (.slice e)) (hz : ∀ w, (sizeOf e).run P w = .ok z w) (hl : l ≤ m) :
    Y P C n s (.slice t x (some y) none none) ty (.slice (some ⟨b, if c = l then o else o + l * z, none⟩) (m - l) (c - l)) := fun a w op hA _ ho _ => by
  have h1 := run_sliceAt_slice (P := P) (w := w) t (.slice (some ⟨b, o, none⟩) m c) (some (.int .i64 (l : Int))) none none (elem_of ht)
  have h2 := run_slice_l (P := P) (w := w) t (some ⟨b, o, none⟩) m c (elem_of ht) .i64 (l : Int) (Int.natCast_nonneg _) (by omega)
  rw [elem_eq ht] at h2
  have h3 : sliced (some ⟨b, o, none⟩) l m c z = .slice (some ⟨b, if c = l then o else o + l * z, none⟩) (m - l) (c - l) := by
    unfold sliced
    split <;> simp_all [add_none]
  simp [execOp, ho, hA.ev hx, hA.ev hy, h1, h2, hz, h3]
/-- s[l:h] -/
theorem Y.slLH {t e ty : TypeId} {x y y' : Operand} {b o m c z : Nat} {l h : Nat} (hx : ev s x = some (.slice (some ⟨b, o, none⟩) m c)) (hy : ev s y = some (.int .i64 (l : Int))) (hy' : ev s y' = some (.int .i64 (h : Int))) (ht : P.underlying t = some (.slice e)) (hz : ∀ w, (sizeOf e).run P w = .ok z w) (hl : l ≤ h) (hh : h ≤ c) :
    Y P C n s (.slice t x (some y) (some y') none) ty (.slice (some ⟨b, if c = l then o else o + l * z, none⟩) (h - l) (c - l)) := fun a w op hA _ ho _ => by
  have h1 := run_sliceAt_slice (P := P) (w := w) t (.slice (some ⟨b, o, none⟩) m c) (some (.int .i64 (l : Int))) (some (.int .i64 (h : Int))) none (elem_of ht)
  have h2 := run_slice_lh (P := P) (w := w) t (some ⟨b, o, none⟩) m c (elem_of ht) .i64 .i64 (l : Int) (h : Int) (Int.natCast_nonneg _) (by omega) (by omega)
  rw [elem_eq ht] at h2
  have h3 : sliced (some ⟨b, o, none⟩) l h c z = .slice (some ⟨b, if c = l then o else o + l * z, none⟩) (h - l) (c - l) := by
    unfold sliced
    split <;> simp_all [add_none]
  simp [execOp, ho, hA.ev hx, hA.ev hy, hA.ev hy', h1, h2, hz, h3]
end

section
variable {P : Program} {C : World → Prop} {n : Nat} {s : List (Nat × Value)}
/-- s[l:h:m] -/
theorem Y.slLHM {t e ty : TypeId} {x y y' y'' : Operand} {A : Option Addr} {k c z : Nat} {l h m : Nat} (hx : ev s x = some (.slice A k c)) (hy : ev s y = some (.int .i64 (l : Int))) (hy' : ev s y' = some (.int .i64 (h : Int))) (hy'' : ev s y'' = some (.int .i64 (m : Int))) (ht : P.underlying t = some (.slice e)) (hz : ∀ w, (sizeOf e).run P w = .ok z w) (hl : l ≤ h) (hh : h ≤ m) (hm : m ≤ c) :
    Y P C n s (.slice t x (some y) (some y') (some y'')) ty (sliced A l h m z) := fun a w op hA _ ho _ => by
  have h1 := run_sliceAt_slice (P := P) (w := w) t (.slice A k c) (some (.int .i64 (l : Int))) (some (.int .i64 (h : Int))) (some (.int .i64 (m : Int))) (elem_of ht)
  have h2 := run_slice_lhm (P := P) (w := w) t A k c (elem_of ht) .i64 .i64 .i64 (l : Int) (h : Int) (m : Int) (Int.natCast_nonneg _) (by omega) (by omega) (by omega)
  rw [elem_eq ht] at h2
  simp [execOp, ho, hA.ev hx, hA.ev hy, hA.ev hy', hA.ev hy'', h1, h2, hz]
end

section
variable {P : Program} {n : Nat} {s : List (Nat × Value)} {ops : Array Oper} {rest : List Oper} {Q : Exit → Act → World → Prop} {a : Act} {w : World} {B : List Bx} {V : List (Nat × World)}
/-- clear of a part of one's own row. -/
theorem m_clear {t e ty : TypeId} {x : Operand} {pos : String} {aft : Array Edge} {b o m c k T : Nat} {cs : List Value} {z : Value} (i : Nat) (hA : Fits a n s) (hS : St w B V) (hx : ev s x = some (.slice (some ⟨b, o, none⟩) m c)) (ht : P.underlying t = some (.slice e))
    (hz : ∀ w, (zeroValue e).run P w = .ok z w) (hk : z.cells.size = k) (h1 : z.cells.toList.all (·.oneCell') = true) (h0 : 0 < k) (hB : B[i]? = some (cB b cs T)) (hl : o + m * k ≤ cs.length)
    (kk : ∀ w' zs, zs.length = m * k → St w' (setB B i (.cells (spl cs o zs).toArray T (0, 0))) V → wpList P ops Q rest a w') :
    wpList P ops Q (⟨none, .call { callee := .builtin .clear, args := #[x], argTypes := #[t] }, ty, pos, aft, none⟩ :: rest) a w := by
  refine wpList_plain rfl fun K hK => ?_
  have hb := hS.bx _ (List.mem_of_getElem? hB)
  have hzl : (Builtin.zeroCells z.cells m).toList.length = m * k := by simp [Builtin.zeroCells, hk]
  have hz1 : ∀ u ∈ (Builtin.zeroCells z.cells m).toList, u.oneCell' = true := by
    intro u hu
    simp only [Builtin.zeroCells, Array.toList_map, List.mem_map] at hu
    obtain ⟨j, _, rfl⟩ := hu
    have hj : j % z.cells.size < z.cells.size := Nat.mod_lt _ (by omega)
    rw [getElem!_pos z.cells _ hj]
    exact List.all_eq_true.1 h1 _ (by simp)
  have hst := run_storeCells_at P b o T (Builtin.zeroCells z.cells m).toList 0 cs.toArray w hb (by rw [hzl]; simpa using hl) hz1
  have hr : (Builtin.clear_ #[t] ty #[.slice (some ⟨b, o, none⟩) m c]).run P w = .ok (.tuple #[]) (w.setRow b (spl cs o (Builtin.zeroCells z.cells m).toList).toArray) := by
    cases m with
    | zero =>
      have e1 : (Builtin.zeroCells z.cells 0).toList = [] := List.eq_nil_of_length_eq_zero (by rw [hzl]; simp)
      have e2 : w.setRow b (spl cs o []).toArray = w := by
        rw [show spl cs o [] = cs from by simp [spl]]
        exact setRow_self w b cs.toArray T (0, 0) hb
      rw [e1, e2]
      simp [Builtin.clear_, run_underlying ht]
    | succ m =>
      simp [Builtin.clear_, run_underlying ht, hz, hst, spl]
  have hr' : (execOp a.eval ⟨none, .call { callee := .builtin .clear, args := #[x], argTypes := #[t] }, ty, pos, aft, none⟩).run P w = .ok (.value (.tuple #[])) (w.setRow b (spl cs o (Builtin.zeroCells z.cells m).toList).toArray) := by
    simp [execOp, resolve, invoke, builtin, hA.ev hx, hr]
  unfold Oper.wp
  rw [hr']
  have := kk _ _ hzl (hS.store hB _)
  exact hK _ _ this
/-- append where there is room. -/
theorem m_appendIn {d : Nat} {t ty : TypeId} {x y : Operand} {pos : String} {aft : Array Edge} {b n' c m c' k : Nat} {cs : List Value} {A : Addr} (i : Nat) (e bytes : Nat) (news new : List Value) (hE : elemOk P e k bytes = true) (hA : Fits a n s) (hS : St w B V) (hx : ev s x = some (.slice (some ⟨b, 0, none⟩) n' c)) (hy : ev s y = some (.slice (some A) m c')) (hd : Nat.blt d n = true)
    (ht : P.underlying t = some (.slice e)) (hB : B[i]? = some (cB b cs e)) (hl : news.length = m * k) (hnews : ∀ j u, news[j]? = some u → w.cell? (A.add j) = some u) (h1 : ∀ u ∈ news, u.oneCell' = true) (hroom : n' + m ≤ c) (hcs : cs.length = c * k) (hnew : spl cs (n' * k) news = new)
    (kk : ∀ a' w', Fits a' n ((d, .slice (some ⟨b, 0, none⟩) (n' + m) c) :: s) → St w' (setB B i (.cells new.toArray e (0, 0))) V → wpList P ops Q rest a' w') :
    wpList P ops Q (⟨some d, .call { callee := .builtin .append, args := #[x, y], argTypes := #[t, t] }, ty, pos, aft, none⟩ :: rest) a w := by
  subst hnew
  obtain ⟨ie, z, hi, hz, hsize, hzs, hb, hk⟩ := elemOk_spec hE
  subst hsize
  refine wpList_plain rfl fun K hK => ?_
  have hbx := hS.bx _ (List.mem_of_getElem? hB)
  have hfit : n' * ie.size + news.length ≤ cs.toArray.size := by
    rw [hl, List.size_toArray, hcs, ← Nat.add_mul]; exact Nat.mul_le_mul_right _ hroom
  have hr := run_append_room (P := P) w t ty e ie ht hi b n' c cs.toArray hbx A m c' news hl hnews h1 hroom hfit
  have hr' : (execOp a.eval ⟨some d, .call { callee := .builtin .append, args := #[x, y], argTypes := #[t, t] }, ty, pos, aft, none⟩).run P w = .ok (.value (.slice (some ⟨b, 0, none⟩) (n' + m) c)) (w.setRow b (spl cs (n' * ie.size) news).toArray) := by
    simp [execOp, resolve, invoke, builtin, hA.ev hx, hA.ev hy, hr, spl]
  unfold Oper.wp
  rw [hr']
  exact hK _ _ (kk _ _ (hA.put (blt_lt hd) _) (hS.store hB _))
end
end Go.Proofs.YtljkhijdaaconaaGreat

namespace Go.Proofs.YtljkhijdaaconaaGreat
open Go.RowKit
section
variable {P : Program} {n : Nat} {s : List (Nat × Value)} {ops : Array Oper} {rest : List Oper} {Q : Exit → Act → World → Prop} {a : Act} {w : World} {B : List Bx} {V : List (Nat × World)}
theorem m_appendZ {d : Nat} {t tn ty : TypeId} {x y : Operand} {pos : String} {aft : Array Edge} {A : Addr} {n' c k l : Nat} {kn : IntKind} (e bytes : Nat) (olds : List Value) (hE : elemOk P e k bytes = true) (hA : Fits a n s) (hS : St w B V) (hx : ev s x = some (.slice (some A) n' c)) (hy : ev s y = some (.int .i64 (l : Int))) (hd : Nat.blt d n = true)
    (ht : P.underlying t = some (.slice e)) (htn : P.underlying tn = some (.int kn)) (hlo : olds.length = n' * k) (holds : ∀ j v, olds[j]? = some v → w.cell? (A.add j) = some v) (h0 : 0 < l) (hg : c < n' + l) (h63 : n' + l ≤ 1000000) (hbytes : bytes ≤ 1000)
    (kk : ∀ a' w' b cap zs, Fits a' n ((d, .slice (some ⟨b, 0, none⟩) (n' + l) cap) :: s) → n' + l ≤ cap → cap ≤ maxLen → (olds ++ zs).length = cap * k → St w' (cB b (olds ++ zs) e :: B) V → wpList P ops Q rest a' w') :
    wpList P ops Q (⟨some d, .call { callee := .builtin .append, args := #[x, y], argTypes := #[t, tn] }, ty, pos, aft, none⟩ :: rest) a w := by
  obtain ⟨i, z, hi, hz, hsize, hzs, hb, hk⟩ := elemOk_spec hE
  subst hsize
  subst hb
  have hbytes' : (n' + l) * i.bytes ≤ 140737488355328 := Nat.le_trans (Nat.mul_le_mul h63 hbytes) (by decide)
  have hfc : (Builtin.firstCells i.size n' (.slice (some A) n' c)).run P w.drew = .ok olds.toArray w.drew := run_firstCells_some (P := P) w.drew i.size n' A n' c olds hlo (by simpa using holds)
  have hl48 : l * i.bytes ≤ 281474976710656 := by
    have : l * i.bytes ≤ (n' + l) * i.bytes := Nat.mul_le_mul_right _ (by omega)
    omega
  have hr := Lib.run_append_grow_zeros (P := P) w t tn ty e i z .i64 kn ht htn hi hz (some A) n' c olds hfc l h0 hk hg (by omega) hl48 (growslice_fits (by omega) hbytes')
  refine wpList_plain rfl fun K hK => ?_
  have hge := grownCap_ge w (n' + l) c e
  have hcm : grownCap w (n' + l) c e ≤ maxLen := grownCap_le_maxLen w (n' + l) c e (by simp only [maxLen]; omega)
  have hr' : (execOp a.eval ⟨some d, .call { callee := .builtin .append, args := #[x, y], argTypes := #[t, tn] }, ty, pos, aft, none⟩).run P w = .ok (.value (.slice (some ⟨w.heap.size, 0, none⟩) (n' + l) (grownCap w (n' + l) c e))) (w.drew.alloc (.cells (olds ++ ((Builtin.zeroCells z.cells l).toList ++ (Builtin.zeroCells z.cells (grownCap w (n' + l) c e - (n' + l))).toList)).toArray e)) := by
    have e1 : (olds.toArray ++ Builtin.zeroCells z.cells l ++ Builtin.zeroCells z.cells (grownCap w (n' + l) c e - (n' + l))) = (olds ++ ((Builtin.zeroCells z.cells l).toList ++ (Builtin.zeroCells z.cells (grownCap w (n' + l) c e - (n' + l))).toList)).toArray := by
      apply Array.ext'
      simp
    rw [e1] at hr
    simp [execOp, resolve, invoke, builtin, hA.ev hx, hA.ev hy, hr]
  unfold Oper.wp
  rw [hr']
  refine hK _ _ (kk _ _ w.heap.size (grownCap w (n' + l) c e) ((Builtin.zeroCells z.cells l).toList ++ (Builtin.zeroCells z.cells (grownCap w (n' + l) c e - (n' + l))).toList) (hA.put (blt_lt hd) _) hge hcm ?_ ?_)
  · have hz1 : (Builtin.zeroCells z.cells l).toList.length = l * i.size := by simp [Builtin.zeroCells, hzs]
    have hz2 : (Builtin.zeroCells z.cells (grownCap w (n' + l) c e - (n' + l))).toList.length = (grownCap w (n' + l) c e - (n' + l)) * i.size := by simp [Builtin.zeroCells, hzs]
    rw [List.length_append, List.length_append, hlo, hz1, hz2, ← Nat.add_mul, ← Nat.add_mul]
    congr 1; omega
  · exact hS.drew.new _ e
theorem m_copy {d : Nat} {t t' ty : TypeId} {x y : Operand} {pos : String} {aft : Array Edge} {b o dl dc sl sc k T : Nat} {cs : List Value} {A : Addr} (i : Nat) (e bytes : Nat) (news new : List Value) (hE : elemOk P e k bytes = true) (hA : Fits a n s) (hS : St w B V) (hx : ev s x = some (.slice (some ⟨b, o, none⟩) dl dc)) (hy : ev s y = some (.slice (some A) sl sc)) (hd : Nat.blt d n = true)
    (ht : P.underlying t = some (.slice e)) (hB : B[i]? = some (cB b cs T)) (hl : news.length = Nat.min sl dl * k) (hnews : ∀ j u, news[j]? = some u → w.cell? (A.add j) = some u) (h1 : ∀ u ∈ news, u.oneCell' = true) (hfit : o + news.length ≤ cs.length) (hnew : spl cs o news = new)
    (kk : ∀ a' w', Fits a' n ((d, .int .i64 (Nat.min sl dl : Nat)) :: s) → St w' (setB B i (.cells new.toArray T (0, 0))) V → wpList P ops Q rest a' w') :
    wpList P ops Q (⟨some d, .call { callee := .builtin .copy, args := #[x, y], argTypes := #[t, t'] }, ty, pos, aft, none⟩ :: rest) a w := by
  subst hnew
  obtain ⟨ie, z, hi, hz, hsize, hzs, hb, hk⟩ := elemOk_spec hE
  subst hsize
  have hbx := hS.bx _ (List.mem_of_getElem? hB)
  have hld := run_loadCells_list (P := P) w A news hnews
  have hst := run_storeCells_at P b o T news 0 cs.toArray w hbx (by simpa using hfit) h1
  refine wpList_plain rfl fun K hK => ?_
  have hr : (Builtin.copy_ #[t, t'] ty #[.slice (some ⟨b, o, none⟩) dl dc, .slice (some A) sl sc]).run P w = .ok (goInt (Nat.min sl dl)) (w.setRow b (spl cs o news).toArray) := by
    simp [Builtin.copy_, run_underlying ht, Builtin.lenOf, Builtin.firstCells, sizeOf, typeInfo, hi, ← hl, hld, hst, spl]
  have hr' : (execOp a.eval ⟨some d, .call { callee := .builtin .copy, args := #[x, y], argTypes := #[t, t'] }, ty, pos, aft, none⟩).run P w = .ok (.value (.int .i64 (Nat.min sl dl : Nat))) (w.setRow b (spl cs o news).toArray) := by
    simp [execOp, resolve, invoke, builtin, hA.ev hx, hA.ev hy, hr, goInt]
  unfold Oper.wp
  rw [hr']
  exact hK _ _ (kk _ _ (hA.put (blt_lt hd) _) (hS.store hB _))
end
section
variable {P : Program} {C : World → Prop} {n : Nat} {s : List (Nat × Value)}
theorem Y.slLg {t e ty : TypeId} {x y : Operand} {A : Option Addr} {m c z : Nat} {l : Nat} (hx : ev s x = some (.slice A m c)) (hy : ev s y = some (.int .i64 (l : Int))) (ht : P.underlying t = some (.slice e)) (hz : ∀ w, (sizeOf e).run P w = .ok z w) (hl : l ≤ m) :
    Y P C n s (.slice t x (some y) none none) ty (sliced A l m c z) := fun a w op hA _ ho _ => by
  have h1 := run_sliceAt_slice (P := P) (w := w) t (.slice A m c) (some (.int .i64 (l : Int))) none none (elem_of ht)
  have h2 := run_slice_l (P := P) (w := w) t A m c (elem_of ht) .i64 (l : Int) (Int.natCast_nonneg _) (by omega)
  rw [elem_eq ht] at h2
  simp [execOp, ho, hA.ev hx, hA.ev hy, h1, h2, hz]
theorem Y.cap {t e ty : TypeId} {x : Operand} {A : Option Addr} {m c : Nat} (hx : ev s x = some (.slice A m c)) (ht : P.underlying t = some (.slice e)) : Y P C n s (.call { callee := .builtin .cap, args := #[x], argTypes := #[t] }) ty (.int .i64 c) := fun a w o hA _ ho _ => by
  simp [execOp, ho, resolve, invoke, builtin, hA.ev hx, Builtin.cap_, run_underlying ht, goInt]
end
end Go.Proofs.YtljkhijdaaconaaGreat
