/- Words of this seat: rows in memory that are read, and how they live on while memory grows. -/
import Derived.WalkKit
import Derived.Outline
import Derived.Deep.QuietTactic
import Derived.BigQuiet
import Derived.Deep.RegionHeld3
import Derived.Deep.DeepCutAuto
import Derived.Maps.AppendAt
import Derived.Deep.AppendLies
import Derived.KernelRfl
set_option linter.unusedVariables false
namespace Go.Proofs.YtljkhijdaaconaaGreat
open Go.RowKit

theorem hid {p : Prop} (h : p) : RowKit.Hid p := h

/-! ### Growth -/
/-- Nothing that was there has changed. -/
abbrev Gr (w w' : World) : Prop := Below w.heap.size w w'
theorem Gr.rf (w : World) : Gr w w := Below.refl _ _
theorem Gr.tr {w w1 w2 : World} (h : Gr w w1) (k : Gr w1 w2) : Gr w w2 := h.trans (k.mono h.size)
theorem Gr.trB {B : Nat} {w w1 w2 : World} (h : Below B w w1) (hB : B ≤ w1.heap.size) (k : Gr w1 w2) : Below B w w2 := h.trans (k.mono hB)
theorem Gr.dr {w w1 : World} (h : Gr w w1) : Gr w w1.drew := h.drew
theorem Gr.drN {w w1 : World} (h : Gr w w1) (n : Nat) : Gr w (w1.drewN n) := ⟨h.os, h.tape, h.output, h.size, h.block⟩
theorem Below.drN {B : Nat} {w w1 : World} (h : Below B w w1) (n : Nat) : Below B w (w1.drewN n) := ⟨h.os, h.tape, h.output, h.size, h.block⟩
theorem Gr.al {w w1 : World} (h : Gr w w1) (o : Obj) : Gr w (w1.alloc o) := h.alloc h.size o
theorem Gr.cell {w w1 : World} (h : Gr w w1) {a : Addr} {v : Value} (hc : w.cell? a = some v) : w1.cell? a = some v := (Below.cell h (World.block_lt_of_cell? w a hc)).trans hc
theorem Gr.heap {w w1 : World} (h : Gr w w1) {b : Nat} {o : Obj} (hc : w.heap[b]? = some o) : w1.heap[b]? = some o := (h.block b (Array.getElem?_eq_some_iff.1 hc).1).trans hc
theorem Gr.all {w w1 : World} (h : Gr w w1) : (∀ b o, b < w.heap.size → w1.cell? ⟨b, o, none⟩ = w.cell? ⟨b, o, none⟩) ∧ (∀ b o, b < w.heap.size → w1.frozen? ⟨b, o, none⟩ = w.frozen? ⟨b, o, none⟩) :=
  ⟨fun b o hb => Below.cell h (p := ⟨b, o, none⟩) hb, fun b o hb => Below.frozen h (p := ⟨b, o, none⟩) hb⟩

/-! ### Rows that are read -/
/-- n elements of k cells each lie from A on; el says what an element's cells hold. -/
def RowOf {α : Type} (k : Nat) (el : World → α → Nat → Nat → Prop) (w : World) (A : Option Addr) (n : Nat) (xs : List α) : Prop :=
  xs.length = n ∧ n ≤ 140737488355328 ∧ ∀ j x, xs[j]? = some x → ∃ b o, A = some ⟨b, o, none⟩ ∧ el w x b (o + j * k)
theorem RowOf.len {α : Type} {k : Nat} {el : World → α → Nat → Nat → Prop} {w : World} {A : Option Addr} {n : Nat} {xs : List α} (h : RowOf k el w A n xs) : xs.length = n := h.1
theorem RowOf.le {α : Type} {k : Nat} {el : World → α → Nat → Nat → Prop} {w : World} {A : Option Addr} {n : Nat} {xs : List α} (h : RowOf k el w A n xs) : n ≤ 140737488355328 := h.2.1
theorem RowOf.gr {α : Type} {k : Nat} {el : World → α → Nat → Nat → Prop} (hel : ∀ w w' x b o, Gr w w' → el w x b o → el w' x b o) {w w' : World} (hg : Gr w w') {A : Option Addr} {n : Nat} {xs : List α} (h : RowOf k el w A n xs) : RowOf k el w' A n xs :=
  ⟨h.1, h.2.1, fun j x hj => let ⟨b, o, e, hx⟩ := h.2.2 j x hj; ⟨b, o, e, hel _ _ _ _ _ hg hx⟩⟩
theorem RowOf.get {α : Type} {k : Nat} {el : World → α → Nat → Nat → Prop} {w : World} {A : Option Addr} {n : Nat} {xs : List α} (h : RowOf k el w A n xs) {j : Nat} (hj : j < n) : ∃ b o x, A = some ⟨b, o, none⟩ ∧ xs[j]? = some x ∧ el w x b (o + j * k) := by
  obtain ⟨x, hx⟩ : ∃ x, xs[j]? = some x := ⟨_, List.getElem?_eq_getElem (by rw [h.1]; exact hj)⟩
  obtain ⟨b, o, e, he⟩ := h.2.2 j x hx
  exact ⟨b, o, x, e, hx, he⟩
theorem RowOf.nil {α : Type} {k : Nat} {el : World → α → Nat → Nat → Prop} {w : World} {A : Option Addr} : RowOf k el w A 0 ([] : List α) := ⟨rfl, by omega, fun j x h => by simp at h⟩
theorem RowOf.eq_nil {α : Type} {k : Nat} {el : World → α → Nat → Nat → Prop} {w : World} {A : Option Addr} {xs : List α} (h : RowOf k el w A 0 xs) : xs = [] := List.eq_nil_of_length_eq_zero h.1

/-- What lay in v from block lo on lies in w as well. -/
def Ov (lo : Nat) (v w : World) : Prop := ∀ b, lo ≤ b → b < v.heap.size → w.heap[b]? = v.heap[b]?
theorem Gr.ov {w w' : World} (h : Gr w w') (lo : Nat) : Ov lo w w' := fun b _ hb => h.block b hb
theorem Ov.cell {lo : Nat} {v w : World} (h : Ov lo v w) {b o : Nat} {x : Value} (hlo : lo ≤ b) (hc : v.cell? ⟨b, o, none⟩ = some x) : w.cell? ⟨b, o, none⟩ = some x :=
  (World.cell?_of_block (w := v) (h b hlo (World.block_lt_of_cell? v _ hc))).trans hc
theorem RowOf.mv {α : Type} {k : Nat} {el el' : World → α → Nat → Nat → Prop} {w w' : World} (hel : ∀ x b o, el w x b o → el' w' x b o) {A : Option Addr} {n : Nat} {xs : List α} (h : RowOf k el w A n xs) : RowOf k el' w' A n xs :=
  ⟨h.1, h.2.1, fun j x hj => let ⟨b, o, e, hx⟩ := h.2.2 j x hj; ⟨b, o, e, hel _ _ _ hx⟩⟩
def elIntL (lo : Nat) (w : World) (x : Int) (b o : Nat) : Prop := lo ≤ b ∧ w.cell? ⟨b, o, none⟩ = some (.int .i64 x)
/-- A row of ints, in blocks from lo on. -/
abbrev IntsL (lo : Nat) (w : World) (A : Option Addr) (n : Nat) (xs : List Int) : Prop := RowOf 1 (elIntL lo) w A n xs
abbrev Ints (w : World) (A : Option Addr) (n : Nat) (xs : List Int) : Prop := IntsL 0 w A n xs
theorem IntsL.ov {lo : Nat} {v w : World} (ho : Ov lo v w) {A : Option Addr} {n : Nat} {xs : List Int} (h : IntsL lo v A n xs) : IntsL lo w A n xs := RowOf.mv (fun x b o h => ⟨h.1, ho.cell h.1 h.2⟩) h
theorem IntsL.lo {lo lo' : Nat} (hl : lo' ≤ lo) {w : World} {A : Option Addr} {n : Nat} {xs : List Int} (h : IntsL lo w A n xs) : IntsL lo' w A n xs := RowOf.mv (fun x b o h => ⟨Nat.le_trans hl h.1, h.2⟩) h
theorem Ints.gr {w w' : World} (hg : Gr w w') {A : Option Addr} {n : Nat} {xs : List Int} (h : Ints w A n xs) : Ints w' A n xs := IntsL.ov (hg.ov 0) h
theorem Ints.at {w : World} {A : Option Addr} {n : Nat} {xs : List Int} (h : Ints w A n xs) {j : Nat} (hj : j < n) : ∃ b o x, A = some ⟨b, o, none⟩ ∧ xs[j]? = some x ∧ w.cell? ⟨b, o + j, none⟩ = some (.int .i64 x) := by
  obtain ⟨b, o, x, e, hx, he⟩ := RowOf.get h hj
  exact ⟨b, o, x, e, hx, by simpa using he.2⟩

theorem IntsL.gr {lo : Nat} {w w' : World} (hg : Gr w w') {A : Option Addr} {n : Nat} {xs : List Int} (h : IntsL lo w A n xs) : IntsL lo w' A n xs := IntsL.ov (hg.ov lo) h
theorem IntsL.at {lo : Nat} {w : World} {A : Option Addr} {n : Nat} {xs : List Int} (h : IntsL lo w A n xs) {j : Nat} (hj : j < n) : ∃ b o x, A = some ⟨b, o, none⟩ ∧ xs[j]? = some x ∧ w.cell? ⟨b, o + j, none⟩ = some (.int .i64 x) := by
  obtain ⟨b, o, x, e, hx, he⟩ := RowOf.get h hj
  exact ⟨b, o, x, e, hx, by simpa using he.2⟩
theorem IntsL.zero {lo : Nat} {w : World} {A : Option Addr} {n : Nat} {xs : List Int} (h : IntsL lo w A n xs) : Ints w A n xs := h.lo (Nat.zero_le _)
theorem ret_bool {a b : Bool} (h : a = b) : Ending.returned (.bool a) = .returned (.bool b) := by rw [h]
theorem ret_int {a b : Int} (h : a = b) : Ending.returned (.int .i64 a) = .returned (.int .i64 b) := by rw [h]
end Go.Proofs.YtljkhijdaaconaaGreat
