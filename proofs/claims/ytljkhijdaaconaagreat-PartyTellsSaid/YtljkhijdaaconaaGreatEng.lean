/- Steps over a frame that is told slot by slot, and over a world of which only the own boxes are told. What an operation yields, and steps from operation to operation. Steps through regions, branches, loops, calls. Regions that draw their order and have effects: what may be read first is read first. More steps: loops, tests inside drawn regions, rows of one's own that grow. -/
import Derived.Test.YtljkhijdaaconaaGreatVoc
import Derived.RangeFuncBox
set_option linter.unusedVariables false
set_option linter.unusedSectionVars false
namespace Go.Proofs.YtljkhijdaaconaaGreat
open Go.RowKit

/-! ### The frame -/
def lk : List (Nat × Value) → Nat → Option Value
  | [], _ => none
  | (d, v) :: l, t => bif Nat.beq d t then some v else lk l t
structure Fits (a : Act) (n : Nat) (s : List (Nat × Value)) : Prop where
  size : a.tmps.size = n
  defs : a.defers = []
  look : ∀ t v, lk s t = some v → a.tmps.getD t undef = v
def ev (s : List (Nat × Value)) : Operand → Option Value
  | .tmp t => lk s t
  | .const v => some v
  | .func f => some (.func (.func f) #[] #[])
  | .global g => some (.pointer (some ⟨g, 0, none⟩))
def evL (s : List (Nat × Value)) : List Operand → Option (List Value)
  | [] => some []
  | x :: l => match ev s x, evL s l with | some v, some vs => some (v :: vs) | _, _ => none
theorem Fits.ev {a : Act} {n : Nat} {s : List (Nat × Value)} (h : Fits a n s) {x : Operand} {v : Value} (hx : ev s x = some v) : a.eval x = v := by
  cases x with
  | tmp t => exact h.look t v hx
  | const c => simp only [YtljkhijdaaconaaGreat.ev, Option.some.injEq] at hx; exact hx
  | func f => simp only [YtljkhijdaaconaaGreat.ev, Option.some.injEq] at hx; exact hx
  | global g => simp only [YtljkhijdaaconaaGreat.ev, Option.some.injEq] at hx; exact hx
theorem Fits.evL {a : Act} {n : Nat} {s : List (Nat × Value)} (h : Fits a n s) : ∀ {l : List Operand} {vs : List Value}, evL s l = some vs → l.map a.eval = vs
  | [], vs, hx => by simp only [YtljkhijdaaconaaGreat.evL, Option.some.injEq] at hx; subst hx; rfl
  | x :: l, vs, hx => by
    simp only [YtljkhijdaaconaaGreat.evL] at hx
    split at hx
    · rename_i v us h1 h2
      simp only [Option.some.injEq] at hx
      subst hx
      rw [List.map_cons, h.ev h1, Fits.evL h h2]
    · cases hx
theorem Fits.put {a : Act} {n : Nat} {s : List (Nat × Value)} (h : Fits a n s) {d : Nat} (hd : d < n) (v : Value) : Fits (a.put (some d) v) n ((d, v) :: s) where
  size := by simp [Act.put, h.size]
  defs := h.defs
  look := fun t u ht => by
    have hd' : d < a.tmps.size := by rw [h.size]; exact hd
    simp only [lk] at ht
    by_cases e : d = t
    · subst e
      rw [show Nat.beq d d = true from Nat.beq_refl d] at ht
      simp only [cond_true, Option.some.injEq] at ht
      subst ht
      simp [Act.put, Array.getD_eq_getD_getElem?, hd']
    · rw [show Nat.beq d t = false from by cases hb : Nat.beq d t with | false => rfl | true => exact absurd (Nat.eq_of_beq_eq_true hb) e] at ht
      simp only [cond_false] at ht
      have := h.look t u ht
      simp only [Act.put, Array.getD_eq_getD_getElem?, Array.getElem?_setIfInBounds_ne e]
      rwa [Array.getD_eq_getD_getElem?] at this
/-- Every entry of the second list is what the first says. -/
def Sub (s : List (Nat × Value)) : List (Nat × Value) → Prop
  | [] => True
  | (d, v) :: l => lk s d = some v ∧ Sub s l
theorem Sub.lk {s : List (Nat × Value)} : ∀ {l : List (Nat × Value)}, Sub s l → ∀ t v, lk l t = some v → lk s t = some v
  | [], _, t, v, h => by simp [YtljkhijdaaconaaGreat.lk] at h
  | x :: l, hs, t, v, h => by
    simp only [YtljkhijdaaconaaGreat.lk] at h
    cases hb : Nat.beq x.1 t with
    | true =>
      rw [hb] at h
      simp only [cond_true, Option.some.injEq] at h
      have e := Nat.eq_of_beq_eq_true hb
      subst e; subst h
      exact hs.1
    | false =>
      rw [hb] at h
      exact Sub.lk hs.2 t v h
theorem Fits.sub {a : Act} {n : Nat} {s l : List (Nat × Value)} (h : Fits a n s) (hs : Sub s l) : Fits a n l := ⟨h.size, h.defs, fun t v ht => h.look t v (hs.lk t v ht)⟩

/-! ### The world -/
structure Bx where
  b : Nat
  o : Obj
/-- A box of cells. -/
abbrev cB (b : Nat) (cs : List Value) (T : Nat) : Bx := ⟨b, .cells cs.toArray T (0, 0)⟩
structure St (w : World) (B : List Bx) (V : List (Nat × World)) : Prop where
  bx : ∀ x ∈ B, w.heap[x.b]? = some x.o
  nd : B.Pairwise (fun x y => x.b ≠ y.b)
  vs : ∀ p ∈ V, p.2.os = w.os ∧ p.2.tape = w.tape ∧ p.2.output = w.output ∧ p.2.heap.size ≤ w.heap.size ∧ (∀ b, p.1 ≤ b → b < p.2.heap.size → w.heap[b]? = p.2.heap[b]?) ∧ ∀ x ∈ B, x.b < p.1 ∨ p.2.heap.size ≤ x.b

theorem St.start (w : World) : St w [] [(0, w)] := ⟨by simp, by simp, by simp⟩
theorem St.drew {w : World} {B : List Bx} {V : List (Nat × World)} (h : St w B V) : St w.drew B V := ⟨h.bx, h.nd, h.vs⟩
theorem St.drew' {w : World} {B : List Bx} {V : List (Nat × World)} (h : St w B V) : St { w with drawn := w.drawn + 1 } B V := ⟨h.bx, h.nd, h.vs⟩
theorem St.lt {w : World} {B : List Bx} {V : List (Nat × World)} (h : St w B V) {x : Bx} (hx : x ∈ B) : x.b < w.heap.size := (Array.getElem?_eq_some_iff.1 (h.bx x hx)).1
theorem St.gr {w w' : World} {B : List Bx} {V : List (Nat × World)} (h : St w B V) (hg : Gr w w') : St w' B V where
  bx := fun x hx => hg.heap (h.bx x hx)
  nd := h.nd
  vs := fun p hp => by
    obtain ⟨h1, h2, h3, h4, h5, h6⟩ := h.vs p hp
    exact ⟨h1.trans hg.os.symm, h2.trans hg.tape.symm, h3.trans hg.output.symm, Nat.le_trans h4 hg.size, fun b hl hb => (hg.block b (by omega)).trans (h5 b hl hb), h6⟩
/-- What a call has made is remembered by its world: no box lies in it. -/
theorem St.call {w w' : World} {B : List Bx} {V : List (Nat × World)} (h : St w B V) (hg : Gr w w') : St w' B ((w.heap.size, w') :: V) where
  bx := fun x hx => hg.heap (h.bx x hx)
  nd := h.nd
  vs := fun p hp => by
    rcases List.mem_cons.1 hp with rfl | hp
    · exact ⟨rfl, rfl, rfl, Nat.le_refl _, fun b _ _ => rfl, fun x hx => .inl (h.lt hx)⟩
    · exact (h.gr hg).vs p hp
theorem St.newO {w : World} {B : List Bx} {V : List (Nat × World)} (h : St w B V) (o : Obj) : St (w.alloc o) (⟨w.heap.size, o⟩ :: B) V where
  bx := fun x hx => by
    rcases List.mem_cons.1 hx with rfl | hx
    · exact World.alloc_heap_new w _
    · rw [Below.heap_alloc _ _ _ (h.lt hx)]; exact h.bx x hx
  nd := List.pairwise_cons.2 ⟨fun x hx => by have := h.lt hx; simp; omega, h.nd⟩
  vs := fun p hp => by
    obtain ⟨h1, h2, h3, h4, h5, h6⟩ := h.vs p hp
    refine ⟨h1, h2, h3, by simp; omega, fun b hl hb => ?_, fun x hx => ?_⟩
    · rw [Below.heap_alloc _ _ _ (by omega)]
      exact h5 b hl hb
    · rcases List.mem_cons.1 hx with rfl | hx
      · exact .inr h4
      · exact h6 x hx
theorem St.new {w : World} {B : List Bx} {V : List (Nat × World)} (h : St w B V) (cs : List Value) (T : Nat) : St (w.alloc (.cells cs.toArray T)) (cB w.heap.size cs T :: B) V := h.newO _
/-- A box may be forgotten. -/
theorem St.gone {w : World} {x : Bx} {B : List Bx} {V : List (Nat × World)} (h : St w (x :: B) V) : St w B V where
  bx := fun y hy => h.bx y (List.mem_cons_of_mem _ hy)
  nd := (List.pairwise_cons.1 h.nd).2
  vs := fun p hp => by
    obtain ⟨h1, h2, h3, h4, h5, h6⟩ := h.vs p hp
    exact ⟨h1, h2, h3, h4, h5, fun y hy => h6 y (List.mem_cons_of_mem _ hy)⟩
theorem St.goneL {w : World} {V : List (Nat × World)} : ∀ {X B : List Bx}, St w (X ++ B) V → St w B V
  | [], _, h => h
  | _ :: _, _, h => St.goneL h.gone
theorem St.dropV {w : World} {B : List Bx} {V V' : List (Nat × World)} (h : St w B V) (hs : ∀ p ∈ V', p ∈ V) : St w B V' := ⟨h.bx, h.nd, fun p hp => h.vs p (hs p hp)⟩
/-- What lay in a remembered world from its mark on lies there still. -/
theorem St.at {w : World} {B : List Bx} {V : List (Nat × World)} (h : St w B V) {lo : Nat} {v : World} (hv : (lo, v) ∈ V) : ∀ b, lo ≤ b → b < v.heap.size → w.heap[b]? = v.heap[b]? := (h.vs _ hv).2.2.2.2.1
theorem St.gr0 {w w0 : World} {B : List Bx} {V : List (Nat × World)} (h : St w B V) (hv : (0, w0) ∈ V) : Gr w0 w := by
  obtain ⟨h1, h2, h3, h4, _⟩ := h.vs _ hv
  exact ⟨h1.symm, h2.symm, h3.symm, h4, fun b hb => h.at hv b (Nat.zero_le _) hb⟩
/-- A box that is new lies behind a view. -/
theorem St.ge {w : World} {B : List Bx} {V : List (Nat × World)} (h : St w B V) {v : World} (hv : (0, v) ∈ V) {x : Bx} (hx : x ∈ B) : v.heap.size ≤ x.b := by
  have := (h.vs _ hv).2.2.2.2.2 x hx
  simp only at this
  omega

def spl (cs : List Value) (o : Nat) (vs : List Value) : List Value := cs.take o ++ vs ++ cs.drop (o + vs.length)
/-- Box number i, other contents. -/
def setB : List Bx → Nat → Obj → List Bx
  | [], _, _ => []
  | x :: B, 0, cs => ⟨x.b, cs⟩ :: B
  | x :: B, i + 1, cs => x :: setB B i cs
theorem setB_blocks : ∀ (B : List Bx) (i : Nat) (cs : Obj), (setB B i cs).map (·.b) = B.map (·.b)
  | [], _, _ => rfl
  | _ :: _, 0, _ => rfl
  | x :: B, i + 1, cs => by simp [setB, setB_blocks B i cs]
theorem mem_setB : ∀ {B : List Bx} {i : Nat} {cs : Obj} {y : Bx}, y ∈ setB B i cs → (∃ x, B[i]? = some x ∧ y = ⟨x.b, cs⟩) ∨ (y ∈ B ∧ ∃ j, j ≠ i ∧ B[j]? = some y)
  | [], _, _, y, h => by simp [setB] at h
  | x :: B, 0, cs, y, h => by
    rcases List.mem_cons.1 h with rfl | h
    · exact .inl ⟨x, rfl, rfl⟩
    · obtain ⟨j, hj⟩ := List.mem_iff_getElem?.1 h
      exact .inr ⟨List.mem_cons_of_mem _ h, j + 1, by omega, by simpa using hj⟩
  | x :: B, i + 1, cs, y, h => by
    rcases List.mem_cons.1 h with rfl | h
    · exact .inr ⟨by simp, 0, by omega, rfl⟩
    · rcases mem_setB h with ⟨z, hz, e⟩ | ⟨hy, j, hj, e⟩
      · exact .inl ⟨z, by simpa using hz, e⟩
      · exact .inr ⟨List.mem_cons_of_mem _ hy, j + 1, by omega, by simpa using e⟩
/-- Another world in which only box i has changed. -/
theorem St.upd {w w' : World} {B : List Bx} {V : List (Nat × World)} (h : St w B V) {i : Nat} {x : Bx} (hi : B[i]? = some x) (o : Obj) (ho : w'.os = w.os) (ht : w'.tape = w.tape) (hp : w'.output = w.output) (hs : w'.heap.size = w.heap.size) (hn : w'.heap[x.b]? = some o) (hoth : ∀ b, b ≠ x.b → w'.heap[b]? = w.heap[b]?) : St w' (setB B i o) V := by
  have hx : x ∈ B := List.mem_of_getElem? hi
  have hne : ∀ j y, j ≠ i → B[j]? = some y → y.b ≠ x.b := fun j y hj hy => by
    obtain ⟨h1, e1⟩ := List.getElem?_eq_some_iff.1 hi
    obtain ⟨h2, e2⟩ := List.getElem?_eq_some_iff.1 hy
    rcases Nat.lt_or_ge i j with hlt | hge
    · have := List.pairwise_iff_getElem.1 h.nd i j h1 h2 hlt
      rw [e1, e2] at this
      exact fun e => this e.symm
    · have := List.pairwise_iff_getElem.1 h.nd j i h2 h1 (by omega)
      rw [e1, e2] at this
      exact this
  have hmem : ∀ y ∈ setB B i o, ∃ z ∈ B, z.b = y.b := fun y hy => by
    have : y.b ∈ (setB B i o).map (·.b) := List.mem_map_of_mem hy
    rw [setB_blocks] at this
    obtain ⟨z, hz, e⟩ := List.mem_map.1 this
    exact ⟨z, hz, e⟩
  refine ⟨fun y hy => ?_, ?_, fun p hp' => ?_⟩
  · rcases mem_setB hy with ⟨z, hz, e⟩ | ⟨hy', j, hj, e⟩
    · rw [hi] at hz; cases hz
      subst e
      exact hn
    · rw [hoth y.b (hne j y hj e)]; exact h.bx y hy'
  · have hm := setB_blocks B i o
    have h1 : (B.map (·.b)).Pairwise (· ≠ ·) := List.pairwise_map.2 h.nd
    rw [← hm] at h1
    exact List.pairwise_map.1 h1
  · obtain ⟨h1, h2, h3, h4, h5, h6⟩ := h.vs p hp'
    refine ⟨h1.trans ho.symm, h2.trans ht.symm, h3.trans hp.symm, by omega, fun b hl hb => ?_, fun y hy => ?_⟩
    · have hbx : b ≠ x.b := fun e => by
        have := h6 x hx
        omega
      rw [hoth b hbx]
      exact h5 b hl hb
    · obtain ⟨z, hz, e⟩ := hmem y hy
      rw [← e]; exact h6 z hz
theorem St.store {w : World} {B : List Bx} {V : List (Nat × World)} (h : St w B V) {i b T : Nat} {cs0 : List Value} (hi : B[i]? = some (cB b cs0 T)) (cs : List Value) : St (w.setRow b cs.toArray) (setB B i (.cells cs.toArray T (0, 0))) V :=
  h.upd hi _ rfl rfl rfl (by simp [World.setRow]) (setRow_heap w b cs0.toArray cs.toArray T (0, 0) (h.bx _ (List.mem_of_getElem? hi))) (fun b' hb => by
    simp only [World.setRow, Array.getElem?_modify]
    rw [if_neg (Ne.symm hb)])
/-- The order of the boxes is of no matter. -/
theorem St.perm {w : World} {B B' : List Bx} {V : List (Nat × World)} (h : St w B V) (hp : B.Perm B') : St w B' V where
  bx := fun x hx => h.bx x (hp.mem_iff.2 hx)
  nd := (hp.pairwise_iff (fun {a b} (hab : a.b ≠ b.b) => Ne.symm hab)).1 h.nd
  vs := fun p hpm => by
    obtain ⟨h1, h2, h3, h4, h5, h6⟩ := h.vs p hpm
    exact ⟨h1, h2, h3, h4, h5, fun x hx => h6 x (hp.mem_iff.2 hx)⟩
/-- All that is there becomes a view; the boxes ahead of X are given up. -/
theorem St.seal {w : World} {B : List Bx} {V : List (Nat × World)} (h : St w B V) {lo : Nat} (hlo : ∀ x ∈ B, x.b < lo) : St w B ((lo, w) :: V) where
  bx := h.bx
  nd := h.nd
  vs := fun p hp => by
    rcases List.mem_cons.1 hp with rfl | hp
    · exact ⟨rfl, rfl, rfl, Nat.le_refl _, fun _ _ _ => rfl, fun x hx => .inl (hlo x hx)⟩
    · exact h.vs p hp
end Go.Proofs.YtljkhijdaaconaaGreat

namespace Go.Proofs.YtljkhijdaaconaaGreat
open Go.RowKit

section
variable {P : Program} {C : World → Prop} {n : Nat} {s : List (Nat × Value)}

/-- In every frame that fits and every world of the class the operation yields v and does nothing else. -/
def Y (P : Program) (C : World → Prop) (n : Nat) (s : List (Nat × Value)) (op : Op) (ty : TypeId) (v : Value) : Prop :=
  ∀ (a : Act) (w : World) (o : Oper), Fits a n s → C w → o.op = op → o.type = ty → (execOp a.eval o).run P w = .ok (.value v) w

theorem Y.move {x : Operand} {ty : TypeId} {v : Value} (hx : ev s x = some v) : Y P C n s (.move x) ty v := fun a w o hA _ ho _ => by simp [execOp, ho, hA.ev hx]
theorem Y.assign {x : Operand} {ty : TypeId} {v : Value} (hx : ev s x = some v) : Y P C n s (.assign x) ty v := fun a w o hA _ ho _ => by simp [execOp, ho, hA.ev hx]
theorem Y.pickT {c x y : Operand} {ty : TypeId} {v : Value} (hc : ev s c = some (.bool true)) (hx : ev s x = some v) : Y P C n s (.pick c x y) ty v := fun a w o hA _ ho _ => by simp [execOp, ho, hA.ev hx, hA.ev hc, asBool]
theorem Y.pickF {c x y : Operand} {ty : TypeId} {v : Value} (hc : ev s c = some (.bool false)) (hx : ev s y = some v) : Y P C n s (.pick c x y) ty v := fun a w o hA _ ho _ => by simp [execOp, ho, hA.ev hx, hA.ev hc, asBool]
theorem Y.pickB {c x y : Operand} {ty : TypeId} {b p q : Bool} (hc : ev s c = some (.bool b)) (hx : ev s x = some (.bool p)) (hy : ev s y = some (.bool q)) : Y P C n s (.pick c x y) ty (.bool (bif b then p else q)) := fun a w o hA _ ho _ => by
  cases b <;> simp [execOp, ho, hA.ev hx, hA.ev hy, hA.ev hc, asBool]

theorem Y.pickT' {c x y : Operand} {ty : TypeId} {v : Value} {p : Bool} (hc : ev s c = some (.bool p)) (hp : p = true) (hx : ev s x = some v) : Y P C n s (.pick c x y) ty v := Y.pickT (hp ▸ hc) hx
theorem Y.pickF' {c x y : Operand} {ty : TypeId} {v : Value} {p : Bool} (hc : ev s c = some (.bool p)) (hp : p = false) (hx : ev s y = some v) : Y P C n s (.pick c x y) ty v := Y.pickF (hp ▸ hc) hx
theorem Y.eqI {T T' ty : TypeId} {x y : Operand} {k : IntKind} {a b : Int} (hx : ev s x = some (.int k a)) (hy : ev s y = some (.int k b)) : Y P C n s (.binOp .eql T x y T') ty (.bool (decide (a = b))) := fun f w o hA _ ho _ => by
  simp [execOp, ho, hA.ev hx, hA.ev hy, eqGuard, binOp, Op.intCmp]
  rfl
theorem Y.neI {T T' ty : TypeId} {x y : Operand} {k : IntKind} {a b : Int} (hx : ev s x = some (.int k a)) (hy : ev s y = some (.int k b)) : Y P C n s (.binOp .neq T x y T') ty (.bool (decide (a ≠ b))) := fun f w o hA _ ho _ => by
  simp [execOp, ho, hA.ev hx, hA.ev hy, eqGuard, binOp, Op.intCmp]
  rfl
theorem Y.ltI {T T' ty : TypeId} {x y : Operand} {k : IntKind} {a b : Int} (hx : ev s x = some (.int k a)) (hy : ev s y = some (.int k b)) : Y P C n s (.binOp .lss T x y T') ty (.bool (decide (a < b))) := fun f w o hA _ ho _ => by
  simp [execOp, ho, hA.ev hx, hA.ev hy, eqGuard, binOp, Op.intCmp]
theorem Y.leI {T T' ty : TypeId} {x y : Operand} {k : IntKind} {a b : Int} (hx : ev s x = some (.int k a)) (hy : ev s y = some (.int k b)) : Y P C n s (.binOp .leq T x y T') ty (.bool (decide (a ≤ b))) := fun f w o hA _ ho _ => by
  simp [execOp, ho, hA.ev hx, hA.ev hy, eqGuard, binOp, Op.intCmp]
theorem Y.gtI {T T' ty : TypeId} {x y : Operand} {k : IntKind} {a b : Int} (hx : ev s x = some (.int k a)) (hy : ev s y = some (.int k b)) : Y P C n s (.binOp .gtr T x y T') ty (.bool (decide (b < a))) := fun f w o hA _ ho _ => by
  simp [execOp, ho, hA.ev hx, hA.ev hy, eqGuard, binOp, Op.intCmp]
theorem Y.geI {T T' ty : TypeId} {x y : Operand} {k : IntKind} {a b : Int} (hx : ev s x = some (.int k a)) (hy : ev s y = some (.int k b)) : Y P C n s (.binOp .geq T x y T') ty (.bool (decide (b ≤ a))) := fun f w o hA _ ho _ => by
  simp [execOp, ho, hA.ev hx, hA.ev hy, eqGuard, binOp, Op.intCmp]
theorem Y.addI {T T' ty : TypeId} {x y : Operand} {a b : Int} (hx : ev s x = some (.int .i64 a)) (hy : ev s y = some (.int .i64 b)) (h : -9223372036854775808 ≤ a + b ∧ a + b ≤ 9223372036854775807) : Y P C n s (.binOp .add T x y T') ty (.int .i64 (a + b)) := fun f w o hA _ ho _ => by
  have e : IntKind.i64.wrap (a + b) = a + b := IntWalk.i64_in _ (by omega)
  simp [execOp, ho, hA.ev hx, hA.ev hy, eqGuard, binOp, Op.intArith, e]
theorem Y.subI {T T' ty : TypeId} {x y : Operand} {a b : Int} (hx : ev s x = some (.int .i64 a)) (hy : ev s y = some (.int .i64 b)) (h : -9223372036854775808 ≤ a - b ∧ a - b ≤ 9223372036854775807) : Y P C n s (.binOp .sub T x y T') ty (.int .i64 (a - b)) := fun f w o hA _ ho _ => by
  have e : IntKind.i64.wrap (a - b) = a - b := IntWalk.i64_in _ (by omega)
  simp [execOp, ho, hA.ev hx, hA.ev hy, eqGuard, binOp, Op.intArith, e]
theorem Y.addW {T T' ty : TypeId} {x y : Operand} {k : IntKind} {a b : Int} (hx : ev s x = some (.int k a)) (hy : ev s y = some (.int k b)) : Y P C n s (.binOp .add T x y T') ty (.int k (k.wrap (a + b))) := fun f w o hA _ ho _ => by
  simp [execOp, ho, hA.ev hx, hA.ev hy, eqGuard, binOp, Op.intArith]
theorem Y.subW {T T' ty : TypeId} {x y : Operand} {k : IntKind} {a b : Int} (hx : ev s x = some (.int k a)) (hy : ev s y = some (.int k b)) : Y P C n s (.binOp .sub T x y T') ty (.int k (k.wrap (a - b))) := fun f w o hA _ ho _ => by
  simp [execOp, ho, hA.ev hx, hA.ev hy, eqGuard, binOp, Op.intArith]
theorem Y.not {T ty : TypeId} {x : Operand} {b : Bool} (hx : ev s x = some (.bool b)) : Y P C n s (.unOp .not T x) ty (.bool (!b)) := fun f w o hA _ ho _ => by
  simp [execOp, ho, hA.ev hx, Op.unary]
theorem Y.nil {x : Operand} {ty : TypeId} {p : Addr} (hx : ev s x = some (.pointer (some p))) : Y P C n s (.nilCheck x) ty (.pointer (some p)) := fun f w o hA _ ho _ => by
  simp [execOp, ho, hA.ev hx]
theorem Y.lenSl {T e ty : TypeId} {x : Operand} {A : Option Addr} {m c : Nat} (hx : ev s x = some (.slice A m c)) (hT : P.underlying T = some (.slice e)) : Y P C n s (.call { callee := .builtin .len, args := #[x], argTypes := #[T] }) ty (.int .i64 m) := fun f w o hA _ ho _ => by
  simp [execOp, ho, resolve, invoke, builtin, hA.ev hx, Builtin.len_, run_underlying hT, goInt]
theorem Y.lenStr {T ty : TypeId} {x : Operand} {z : ByteArray} (hx : ev s x = some (.string z)) (hT : P.underlying T = some .string) : Y P C n s (.call { callee := .builtin .len, args := #[x], argTypes := #[T] }) ty (.int .i64 z.size) := fun f w o hA _ ho _ => by
  simp [execOp, ho, resolve, invoke, builtin, hA.ev hx, Builtin.len_, run_underlying hT, goInt]
theorem Y.fieldAddr {T ty : TypeId} {x : Operand} {j : Nat} {b o' : Nat} {fs : Array Field} {k q : Nat} {F : Field} (hx : ev s x = some (.pointer (some ⟨b, o', none⟩))) (hT : P.underlying T = some (.struct fs)) (hF : fs[j]? = some F) (hk : F.offset = k) (hz : ∀ w, (sizeOf F.type).run P w = .ok (q + 1) w) : Y P C n s (.fieldAddr T x j) ty (.pointer (some ⟨b, o' + k, none⟩)) := fun f w o hA _ ho _ => by
  have ha : (⟨b, o', none⟩ : Addr).add k = ⟨b, o' + k, none⟩ := by unfold Addr.add; split <;> simp_all
  simp [execOp, ho, Instr.fieldAt, run_underlying hT, hF, hA.ev hx, Instr.sureAddr, fieldPlace, hz, hk, ha]
theorem Y.indexAddr {T e ty : TypeId} {x y : Operand} {b o' m c : Nat} {k : IntKind} {i : Int} {z : Nat} (hx : ev s x = some (.slice (some ⟨b, o', none⟩) m c)) (hy : ev s y = some (.int k i)) (hT : P.underlying T = some (.slice e)) (hz : ∀ w, (sizeOf e).run P w = .ok z w) (h0 : 0 ≤ i) (h1 : i < m) : Y P C n s (.indexAddr T x y) ty (.pointer (some ⟨b, o' + i.toNat * z, none⟩)) := fun f w o hA _ ho _ => by
  have ha : (⟨b, o', none⟩ : Addr).add (i.toNat * z) = ⟨b, o' + i.toNat * z, none⟩ := by unfold Addr.add; split <;> simp_all
  simp [execOp, ho, Instr.indexAt, hA.ev hx, hA.ev hy, asIntOf, run_underlying hT, h0, h1, hz, ha]
theorem Y.indexAddrN {T e ty : TypeId} {x y : Operand} {b o' m c : Nat} {k : IntKind} {i : Nat} {z : Nat} (hx : ev s x = some (.slice (some ⟨b, o', none⟩) m c)) (hy : ev s y = some (.int k (i : Int))) (hT : P.underlying T = some (.slice e)) (hz : ∀ w, (sizeOf e).run P w = .ok z w) (h1 : i < m) : Y P C n s (.indexAddr T x y) ty (.pointer (some ⟨b, o' + i * z, none⟩)) := by
  have := Y.indexAddr (P := P) (C := C) (n := n) (ty := ty) hx hy hT hz (Int.natCast_nonneg _) (by omega)
  simpa using this
theorem Y.extract {x : Operand} {ty : TypeId} {j : Nat} {vs : List Value} {v : Value} (hx : ev s x = some (.tuple vs.toArray)) (hv : vs[j]? = some v) : Y P C n s (.extract x j) ty v := fun f w o hA _ ho _ => by
  simp [execOp, ho, hA.ev hx, Instr.extract, hv]
theorem Y.load {T ty : TypeId} {x : Operand} {p : Addr} {v : Value} (hx : ev s x = some (.pointer (some p))) (hg : ∀ w, (isAgg T).run P w = .ok false w) (hc : ∀ w, C w → w.cell? p = some v) : Y P C n s (.load T x) ty v := fun f w o hA hC ho _ => by
  simp [execOp, ho, hA.ev hx, Instr.loadAt, Instr.sureAddr, loadVar, hg, Sem.run, hc w hC]
theorem Y.loads {T ty : TypeId} {x : Operand} {p : Addr} {cs : List Value} (hx : ev s x = some (.pointer (some p))) (hg : ∀ w, (isAgg T).run P w = .ok true w) {z : Nat} (hz : ∀ w, (sizeOf T).run P w = .ok z w) (hc : ∀ w, C w → ∀ j v, cs[j]? = some v → w.cell? (p.add j) = some v) (hl : cs.length = z) : Y P C n s (.load T x) ty (.agg cs.toArray) := fun f w o hA hC ho _ => by
  subst hl
  simp [execOp, ho, hA.ev hx, Instr.loadAt, Instr.sureAddr, loadVar, hg, hz, run_loadCells_list w p cs (hc w hC)]
theorem Y.func {fn : Fn} {xs : List Operand} {ty : TypeId} {vs : List Value} (hx : evL s xs = some vs) : Y P C n s (.makeFunc fn #[] xs.toArray) ty (.func fn #[] vs.toArray) := fun f w o hA hC ho _ => by
  simp [execOp, ho, Instr.makeFunc, hA.evL hx]
end
end Go.Proofs.YtljkhijdaaconaaGreat

namespace Go.Proofs.YtljkhijdaaconaaGreat
open Go.RowKit

theorem blt_lt {d n : Nat} (h : Nat.blt d n = true) : d < n := Nat.le_of_ble_eq_true h
section
variable {P : Program} {C : World → Prop} {n : Nat} {s : List (Nat × Value)} {ops : Array Oper} {rest : List Oper} {Q : Exit → Act → World → Prop} {a : Act} {w : World} {B : List Bx} {V : List (Nat × World)}

theorem m1 {d : Nat} {op : Op} {ty : TypeId} {pos : String} {aft : Array Edge} {v : Value} (hA : Fits a n s) (hS : St w B V) (hy : Y P (fun w => St w B V) n s op ty v) (hd : Nat.blt d n = true) (k : ∀ a', Fits a' n ((d, v) :: s) → wpList P ops Q rest a' w) :
    wpList P ops Q (⟨some d, op, ty, pos, aft, none⟩ :: rest) a w := by
  refine wpList_plain rfl fun K hK => ?_
  unfold Oper.wp
  rw [hy a w _ hA hS rfl rfl]
  exact hK _ _ (k _ (hA.put (blt_lt hd) v))

theorem wanted_of {o : Oper} {j : Nat} {b t : Bool} {dj : Nat} (hg : o.guard = some (j, b)) (hA : Fits a n s) (hj : (ops[j]?).bind (·.dst) = some dj) (ht : lk s dj = some (.bool t)) (hn : dj < n) : Region.wanted o (yielded ops a.tmps) = (t == b) := by
  have h1 : a.tmps.getD dj undef = .bool t := hA.look dj _ ht
  have h2 : a.tmps[dj]? = some (.bool t) := by
    have hlt : dj < a.tmps.size := by rw [hA.size]; exact hn
    rw [Array.getD_eq_getD_getElem?, Array.getElem?_eq_getElem hlt] at h1
    rw [Array.getElem?_eq_getElem hlt]
    exact congrArg some h1
  simp [Region.wanted, hg, yielded, hj, h2]

/-- A guarded operation that is carried out. -/
theorem m1g {d : Nat} {op : Op} {ty : TypeId} {pos : String} {aft : Array Edge} {v : Value} {j dj : Nat} {b t : Bool} (hA : Fits a n s) (hS : St w B V) (hj : (ops[j]?).bind (·.dst) = some dj) (ht : lk s dj = some (.bool t)) (hn : Nat.blt dj n = true) (hb : t = b) (hy : Y P (fun w => St w B V) n s op ty v) (hd : Nat.blt d n = true) (k : ∀ a', Fits a' n ((d, v) :: s) → wpList P ops Q rest a' w) :
    wpList P ops Q (⟨some d, op, ty, pos, aft, some (j, b)⟩ :: rest) a w := by
  refine wpList_step fun K hK => ?_
  subst hb
  rw [wanted_of rfl hA hj ht (blt_lt hn), beq_self_eq_true, if_pos rfl]
  unfold Oper.wp
  rw [hy a w _ hA hS rfl rfl]
  exact hK _ _ (k _ (hA.put (blt_lt hd) v))
/-- A guarded operation that is passed over. -/
theorem m1s {d : Nat} {op : Op} {ty : TypeId} {pos : String} {aft : Array Edge} {j dj : Nat} {b t : Bool} (hA : Fits a n s) (hj : (ops[j]?).bind (·.dst) = some dj) (ht : lk s dj = some (.bool t)) (hn : Nat.blt dj n = true) (hb : t = !b) (hd : Nat.blt d n = true) (k : ∀ a', Fits a' n ((d, undef) :: s) → wpList P ops Q rest a' w) :
    wpList P ops Q (⟨some d, op, ty, pos, aft, some (j, b)⟩ :: rest) a w := by
  refine wpList_step fun K hK => ?_
  rw [wanted_of rfl hA hj ht (blt_lt hn), hb, if_neg (by cases b <;> simp)]
  exact hK _ _ (k _ (hA.put (blt_lt hd) undef))

theorem m_nil (h : Q .normal a w) : wpList P ops Q [] a w := h
theorem m_region {id : Nat} {l : List Oper} (h : wpList P l.toArray Q l a w) : (Code.region id l.toArray false).wp P Q a w := wp_region_lit h
theorem m_seq {x y : Code} (h : x.wp P (Exit.then (fun a w => y.wp P Q a w) Q) a w) : (Code.seq x y).wp P Q a w := wp_seq h
theorem m_seqc {x y : Code} (R : Act → World → Prop) (h : x.wp P (Exit.then R Q) a w) (k : ∀ a w, R a w → y.wp P Q a w) : (Code.seq x y).wp P Q a w :=
  wp_seq (Code.wp_mono (fun e a w h => by cases e <;> first | exact k _ _ h | exact h) h)
theorem m_cond {c : Operand} {x y : Code} {t : Bool} (hA : Fits a n s) (hc : ev s c = some (.bool t)) (ht : t = true → x.wp P Q a w) (hf : t = false → y.wp P Q a w) : (Code.cond c x y).wp P Q a w := wp_cond_split (hA.ev hc) ht hf
theorem m_condP {c : Operand} {x y : Code} {p : Prop} [Decidable p] (hA : Fits a n s) (hc : ev s c = some (.bool (decide p))) (ht : p → x.wp P Q a w) (hf : ¬ p → y.wp P Q a w) : (Code.cond c x y).wp P Q a w :=
  wp_cond_split (hA.ev hc) (fun h => ht (of_decide_eq_true h)) (fun h => hf (of_decide_eq_false h))
theorem m_condT {c : Operand} {x y : Code} {t : Bool} (hA : Fits a n s) (hc : ev s c = some (.bool t)) (h : t = true) (ht : x.wp P Q a w) : (Code.cond c x y).wp P Q a w := wp_cond_true (by rw [hA.ev hc, h]) ht
theorem m_condF {c : Operand} {x y : Code} {t : Bool} (hA : Fits a n s) (hc : ev s c = some (.bool t)) (h : t = false) (ht : y.wp P Q a w) : (Code.cond c x y).wp P Q a w := wp_cond_false (by rw [hA.ev hc, h]) ht
theorem m_then {R : Act → World → Prop} (h : R a w) : Exit.then R Q .normal a w := h
theorem m_block {id : Nat} {c : Code} (h : c.wp P (Exit.inBlock id Q) a w) : (Code.block id c).wp P Q a w := wp_block h
theorem x_then {R : Act → World → Prop} {i : Nat} (h : Q (.exit i) a w) : Exit.then R Q (.exit i) a w := h
theorem r_then {R : Act → World → Prop} (h : Q .ret a w) : Exit.then R Q .ret a w := h
theorem n_block {id : Nat} (h : Q .normal a w) : Exit.inBlock id Q .normal a w := h
theorem r_block {id : Nat} (h : Q .ret a w) : Exit.inBlock id Q .ret a w := h
theorem x_block {id : Nat} (h : Q .normal a w) : Exit.inBlock id Q (.exit id) a w := by simpa [Exit.inBlock] using h
theorem x_other {id i : Nat} (hne : i ≠ id) (h : Q (.exit i) a w) : Exit.inBlock id Q (.exit i) a w := by simpa [Exit.inBlock, hne] using h

theorem m_loop {c : Code} (I : Nat → Act → World → Prop) (k0 : Nat) (h0 : I k0 a w) (step : ∀ k a w, I k a w → c.wp P (Exit.then (fun a w => ∃ k', k' < k ∧ I k' a w) Q) a w) : (Code.loop c).wp P Q a w := by
  classical
  have key : ∀ a w, (∃ k, I k a w) → ∃ m, I m a w ∧ ∀ k, I k a w → m ≤ k := fun a w ⟨k, hk⟩ => by
    induction k using Nat.strongRecOn with
    | _ k ih =>
      by_cases h : ∃ j, j < k ∧ I j a w
      · obtain ⟨j, hj, hi⟩ := h; exact ih j hj hi
      · exact ⟨k, hk, fun j hj => Nat.le_of_not_lt fun hlt => h ⟨j, hlt, hj⟩⟩
  let mu : Act → World → Nat := fun a w => if h : ∃ k, I k a w then Classical.choose (key a w h) else 0
  have hmu : ∀ a w k, I k a w → I (mu a w) a w ∧ mu a w ≤ k := fun a w k hk => by
    have h : ∃ k, I k a w := ⟨k, hk⟩
    have e : mu a w = Classical.choose (key a w h) := dif_pos h
    obtain ⟨h1, h2⟩ := Classical.choose_spec (key a w h)
    rw [e]
    exact ⟨h1, h2 k hk⟩
  refine wp_loop (fun a w => ∃ k, I k a w) mu ⟨k0, h0⟩ fun a' w' ⟨k, hk⟩ => ?_
  obtain ⟨h1, h2⟩ := hmu a' w' k hk
  refine Code.wp_mono (fun e a w h => ?_) (step _ _ _ h1)
  cases e <;> first
    | exact h
    | (obtain ⟨k', hlt, hi⟩ := h
       exact ⟨⟨k', hi⟩, Nat.lt_of_le_of_lt (hmu _ _ _ hi).2 hlt⟩)

/-- A list of operations in two parts. -/
theorem wpList_app (l1 l2 : List Oper) : ∀ (a : Act) (w : World), wpList P ops (Exit.then (fun a w => wpList P ops Q l2 a w) Q) l1 a w → wpList P ops Q (l1 ++ l2) a w := by
  induction l1 with
  | nil => intro a w h; exact h
  | cons o l1 ih =>
    intro a w h
    simp only [List.cons_append, wpList] at h ⊢
    split
    · rename_i hw
      rw [if_pos hw] at h
      rcases h with h | ⟨h1, a', w', h2⟩
      · refine .inl ?_
        unfold Oper.wp at h ⊢
        generalize (execOp a.eval o).run P w = r at h ⊢
        cases r with
        | ok x w' => cases x <;> simp only [Oper.upon] at h ⊢ <;> first | exact ih _ _ h | exact h | (refine h.mono fun e w'' he => ?_; cases e <;> first | exact ih _ _ he | exact he) | exact h.mono fun v w'' he => ih _ _ he
        | halt x w' => cases x <;> simp only [Oper.upon] at h ⊢ <;> exact h
      · exact .inr ⟨h1, a', w', h2⟩
    · rename_i hw
      rw [if_neg hw] at h
      exact ih _ _ h
theorem wpList_mono' {Q' : Exit → Act → World → Prop} (hQ : ∀ e a w, Q e a w → Q' e a w) (l : List Oper) : ∀ (a : Act) (w : World), wpList P ops Q l a w → wpList P ops Q' l a w := by
  induction l with
  | nil => intro a w h; exact hQ _ _ _ h
  | cons o l ih =>
    intro a w h
    simp only [wpList] at h ⊢
    split
    · rename_i hw
      rw [if_pos hw] at h
      rcases h with h | ⟨h1, a', w', h2⟩
      · refine .inl ?_
        unfold Oper.wp at h ⊢
        generalize (execOp a.eval o).run P w = r at h ⊢
        cases r with
        | ok x w' => cases x <;> simp only [Oper.upon] at h ⊢ <;> first | exact ih _ _ h | exact h | (refine h.mono fun e w'' he => ?_; cases e <;> first | exact ih _ _ he | exact hQ _ _ _ he | (obtain ⟨a', w', h⟩ := he; exact ⟨a', w', hQ _ _ _ h⟩)) | exact h.mono fun v w'' he => ih _ _ he
        | halt x w' => cases x <;> simp only [Oper.upon] at h ⊢ <;> first | exact hQ _ _ _ h | exact h
      · exact .inr ⟨h1, a', w', hQ _ _ _ h2⟩
    · rename_i hw
      rw [if_neg hw] at h
      exact ih _ _ h
theorem m_split (k : Nat) (R : Act → World → Prop) {l : List Oper} (h1 : wpList P ops (Exit.then R Q) (l.take k) a w) (h2 : ∀ a w, R a w → wpList P ops Q (l.drop k) a w) : wpList P ops Q l a w := by
  have h3 := wpList_app (P := P) (ops := ops) (Q := Q) (l.take k) (l.drop k) a w (wpList_mono' (fun e a w h => by cases e <;> first | exact h2 _ _ h | exact h) _ _ _ h1)
  rwa [List.take_append_drop] at h3

/-- 'p || q': what stands between the first test and its end is carried out where p is false. -/
theorem m_or (k dp th : Nat) {p q : Bool} {l : List Oper} (hA : Fits a n s) (hS : St w B V) (hp : lk s th = some (.bool p)) (h1 : p = true → wpList P ops (Exit.then (fun a w => Fits a n ((dp, .bool true) :: s) ∧ St w B V) Q) (l.take k) a w)
    (h2 : p = false → wpList P ops (Exit.then (fun a w => Fits a n ((dp, .bool q) :: s) ∧ St w B V) Q) (l.take k) a w)
    (h3 : ∀ a w, Fits a n ((dp, .bool (p || q)) :: s) → St w B V → wpList P ops Q (l.drop k) a w) : wpList P ops Q l a w := by
  refine m_split k (fun a w => Fits a n ((dp, .bool (p || q)) :: s) ∧ St w B V) ?_ (fun a w h => h3 a w h.1 h.2)
  cases p with
  | true => exact h1 rfl
  | false => exact h2 rfl
theorem m_and (k dp th : Nat) {p q : Bool} {l : List Oper} (hA : Fits a n s) (hS : St w B V) (hp : lk s th = some (.bool p)) (h1 : p = false → wpList P ops (Exit.then (fun a w => Fits a n ((dp, .bool false) :: s) ∧ St w B V) Q) (l.take k) a w)
    (h2 : p = true → wpList P ops (Exit.then (fun a w => Fits a n ((dp, .bool q) :: s) ∧ St w B V) Q) (l.take k) a w)
    (h3 : ∀ a w, Fits a n ((dp, .bool (p && q)) :: s) → St w B V → wpList P ops Q (l.drop k) a w) : wpList P ops Q l a w := by
  refine m_split k (fun a w => Fits a n ((dp, .bool (p && q)) :: s) ∧ St w B V) ?_ (fun a w h => h3 a w h.1 h.2)
  cases p with
  | true => exact h2 rfl
  | false => exact h1 rfl

/-! ### Memory -/
theorem m_box {d : Nat} {T ty : TypeId} {x : Operand} {pos : String} {aft : Array Edge} {v : Value} (hA : Fits a n s) (hS : St w B V) (hx : ev s x = some v) (hd : Nat.blt d n = true)
    (k : ∀ a' b w', Fits a' n ((d, .pointer (some ⟨b, 0, none⟩)) :: s) → w.heap.size ≤ b → Gr w w' → St w' (cB b v.cells.toList T :: B) V → wpList P ops Q rest a' w') :
    wpList P ops Q (⟨some d, .box T x, ty, pos, aft, none⟩ :: rest) a w := by
  refine wpList_plain rfl fun K hK => ?_
  have hr : (execOp a.eval ⟨some d, .box T x, ty, pos, aft, none⟩).run P w = .ok (.value (.pointer (some ⟨w.heap.size, 0, none⟩))) (w.alloc (.cells v.cells T)) := by
    simp [execOp, hA.ev hx, Instr.box, newVar, newRow, newObj, Sem.run]
  unfold Oper.wp
  rw [hr]
  have hst := hS.new v.cells.toList T
  rw [Array.toArray_toList] at hst
  exact hK _ _ (k _ _ _ (hA.put (blt_lt hd) _) (Nat.le_refl _) ((Gr.rf w).al _) hst)
theorem m_alloc {d : Nat} {T ty : TypeId} {pos : String} {aft : Array Edge} {v : Value} (hA : Fits a n s) (hS : St w B V) (hz : ∀ w, (zeroValue T).run P w = .ok v w) (hd : Nat.blt d n = true)
    (k : ∀ a' b w', Fits a' n ((d, .pointer (some ⟨b, 0, none⟩)) :: s) → w.heap.size ≤ b → Gr w w' → St w' (cB b v.cells.toList T :: B) V → wpList P ops Q rest a' w') :
    wpList P ops Q (⟨some d, .alloc T, ty, pos, aft, none⟩ :: rest) a w := by
  refine wpList_plain rfl fun K hK => ?_
  have hr : (execOp a.eval ⟨some d, .alloc T, ty, pos, aft, none⟩).run P w = .ok (.value (.pointer (some ⟨w.heap.size, 0, none⟩))) (w.alloc (.cells v.cells T)) := by
    simp [execOp, Instr.alloc, hz, newVar, newRow, newObj, Sem.run]
  unfold Oper.wp
  rw [hr]
  have hst := hS.new v.cells.toList T
  rw [Array.toArray_toList] at hst
  exact hK _ _ (k _ _ _ (hA.put (blt_lt hd) _) (Nat.le_refl _) ((Gr.rf w).al _) hst)
theorem m_store {T ty : TypeId} {x y : Operand} {pos : String} {aft : Array Edge} {v : Value} {b o' : Nat} {cs : List Value} {T' : Nat} {z : Nat} (i : Nat) (hA : Fits a n s) (hS : St w B V) (hx : ev s x = some (.pointer (some ⟨b, o', none⟩))) (hy : ev s y = some v)
    (hz : ∀ w, (sizeOf T).run P w = .ok z w) (hB : B[i]? = some (cB b cs T')) (hc : v.cells.size = z) (hl : Nat.ble (o' + z) cs.length = true) (h1 : v.cells.toList.all (·.oneCell') = true)
    (k : ∀ w', St w' (setB B i (.cells (spl cs o' v.cells.toList).toArray T' (0, 0))) V → wpList P ops Q rest a w') :
    wpList P ops Q (⟨none, .store T x y, ty, pos, aft, none⟩ :: rest) a w := by
  refine wpList_plain rfl fun K hK => ?_
  have hb := hS.bx _ (List.mem_of_getElem? hB)
  have hst := run_storeCells_at P b o' T' v.cells.toList 0 cs.toArray w hb (by have := Nat.le_of_ble_eq_true hl; simp [hc]; omega) (List.all_eq_true.1 h1)
  have hr : (execOp a.eval ⟨none, .store T x y, ty, pos, aft, none⟩).run P w = .ok .skip (w.setRow b (spl cs o' v.cells.toList).toArray) := by
    simp [execOp, hA.ev hx, hA.ev hy, Instr.storeAt, Instr.sureAddr, storeVar, hz, hc, hst, spl]
  unfold Oper.wp
  rw [hr]
  exact hK _ _ (k _ (hS.store hB _))

theorem m_storeP {T ty : TypeId} {x y : Operand} {pos : String} {aft : Array Edge} {v : Value} {b o' : Nat} {cs : List Value} {T' : Nat} {z : Nat} (i : Nat) (new : List Value) (hA : Fits a n s) (hS : St w B V) (hx : ev s x = some (.pointer (some ⟨b, o', none⟩))) (hy : ev s y = some v)
    (hz : ∀ w, (sizeOf T).run P w = .ok z w) (hB : B[i]? = some (cB b cs T')) (hc : v.cells.size = z) (hl : o' + z ≤ cs.length) (h1 : ∀ u ∈ v.cells.toList, u.oneCell' = true) (hn : spl cs o' v.cells.toList = new)
    (k : ∀ w', St w' (setB B i (.cells new.toArray T' (0, 0))) V → wpList P ops Q rest a w') :
    wpList P ops Q (⟨none, .store T x y, ty, pos, aft, none⟩ :: rest) a w := by
  subst hn
  refine wpList_plain rfl fun K hK => ?_
  have hb := hS.bx _ (List.mem_of_getElem? hB)
  have hst := run_storeCells_at P b o' T' v.cells.toList 0 cs.toArray w hb (by simp [hc]; omega) h1
  have hr : (execOp a.eval ⟨none, .store T x y, ty, pos, aft, none⟩).run P w = .ok .skip (w.setRow b (spl cs o' v.cells.toList).toArray) := by
    simp [execOp, hA.ev hx, hA.ev hy, Instr.storeAt, Instr.sureAddr, storeVar, hz, hc, hst, spl]
  unfold Oper.wp
  rw [hr]
  exact hK _ _ (k _ (hS.store hB _))
theorem spl_mid {l c r c' : List Value} {o : Nat} (ho : l.length = o) (hc : c'.length = c.length) : spl (l ++ (c ++ r)) o c' = l ++ (c' ++ r) := by
  subst ho
  unfold spl
  rw [List.take_left' rfl, ← List.drop_drop, List.drop_left' rfl, hc, List.drop_left' rfl, List.append_assoc]
/-- A call of a function with a body. -/
theorem m_call {d : Nat} {f : FuncId} {xs : List Operand} {ts : Array TypeId} {ty : TypeId} {pos : String} {aft : Array Edge} {vs : List Value} (hA : Fits a n s) (hf : ∀ args w, (callFunc f args).run P w = .ok (.enter f args) w) (hx : evL s xs = some vs) (hd : Nat.blt d n = true)
    (k : Calls P f vs.toArray w fun e w' => ∃ v, e = .returned v ∧ ∀ a', Fits a' n ((d, v) :: s) → wpList P ops Q rest a' w') :
    wpList P ops Q (⟨some d, .call { callee := .value (.func f), args := xs.toArray, argTypes := ts }, ty, pos, aft, none⟩ :: rest) a w := by
  refine wpList_plain rfl fun K hK => ?_
  have hr : (execOp a.eval ⟨some d, .call { callee := .value (.func f), args := xs.toArray, argTypes := ts }, ty, pos, aft, none⟩).run P w = .ok (.enter f vs.toArray) w := by
    simp [execOp, resolve, Act.eval, Deferred.ofValue, invoke, hA.evL hx, hf]
  unfold Oper.wp
  rw [hr]
  refine k.mono fun e w' h => ?_
  obtain ⟨v, rfl, h⟩ := h
  exact hK _ _ (h _ (hA.put (blt_lt hd) v))
theorem m_callg {d : Nat} {f : FuncId} {xs : List Operand} {ts : Array TypeId} {ty : TypeId} {pos : String} {aft : Array Edge} {vs : List Value} {j dj : Nat} {b t : Bool} (hA : Fits a n s) (hj : (ops[j]?).bind (·.dst) = some dj) (ht : lk s dj = some (.bool t)) (hn : Nat.blt dj n = true) (hb : t = b) (hf : ∀ args w, (callFunc f args).run P w = .ok (.enter f args) w) (hx : evL s xs = some vs) (hd : Nat.blt d n = true)
    (k : Calls P f vs.toArray w fun e w' => ∃ v, e = .returned v ∧ ∀ a', Fits a' n ((d, v) :: s) → wpList P ops Q rest a' w') :
    wpList P ops Q (⟨some d, .call { callee := .value (.func f), args := xs.toArray, argTypes := ts }, ty, pos, aft, some (j, b)⟩ :: rest) a w := by
  refine wpList_step fun K hK => ?_
  subst hb
  rw [wanted_of rfl hA hj ht (blt_lt hn), beq_self_eq_true, if_pos rfl]
  have hr : (execOp a.eval ⟨some d, .call { callee := .value (.func f), args := xs.toArray, argTypes := ts }, ty, pos, aft, some (j, t)⟩).run P w = .ok (.enter f vs.toArray) w := by
    simp [execOp, resolve, Act.eval, Deferred.ofValue, invoke, hA.evL hx, hf]
  unfold Oper.wp
  rw [hr]
  refine k.mono fun e w' h => ?_
  obtain ⟨v, rfl, h⟩ := h
  exact hK _ _ (h _ (hA.put (blt_lt hd) v))
/-- A call of a function value. -/
theorem m_callv {d : Nat} {f : FuncId} {fx : Operand} {xs : List Operand} {ts : Array TypeId} {ty : TypeId} {pos : String} {aft : Array Edge} {vs cap : List Value} (hA : Fits a n s) (hfx : ev s fx = some (.func (.func f) #[] cap.toArray)) (hf : ∀ args w, (callFunc f args).run P w = .ok (.enter f args) w) (hx : evL s xs = some vs) (hd : Nat.blt d n = true)
    (k : Calls P f (vs ++ cap).toArray w fun e w' => ∃ v, e = .returned v ∧ ∀ a', Fits a' n ((d, v) :: s) → wpList P ops Q rest a' w') :
    wpList P ops Q (⟨some d, .call { callee := .value fx, args := xs.toArray, argTypes := ts }, ty, pos, aft, none⟩ :: rest) a w := by
  refine wpList_plain rfl fun K hK => ?_
  have hr : (execOp a.eval ⟨some d, .call { callee := .value fx, args := xs.toArray, argTypes := ts }, ty, pos, aft, none⟩).run P w = .ok (.enter f (vs ++ cap).toArray) w := by
    simp [execOp, resolve, hA.ev hfx, Deferred.ofValue, invoke, hA.evL hx, hf]
  unfold Oper.wp
  rw [hr]
  refine k.mono fun e w' h => ?_
  obtain ⟨v, rfl, h⟩ := h
  exact hK _ _ (h _ (hA.put (blt_lt hd) v))

/-! ### Regions that draw their order and only read -/
theorem q_region {id : Nat} {l : List Oper} (hS : St w B V) (hm : P.follows .mixedOrders = true) (hB : Region.lexB .any l.toArray = true)
    (h : wpQuiet P l.toArray (fun w => St w B V) (fun a' => ∀ w', St w' B V → Q .normal a' w') l a) : (Code.region id l.toArray true).wp P Q a w :=
  wp_region_quiet (C := fun w => St w B V) hm hB hS.drew' h
theorem q_nil {ops : Array Oper} {Q : Act → Prop} (h : Q a) : wpQuiet P ops C Q [] a := h
theorem q1 {Q : Act → Prop} {d : Nat} {op : Op} {ty : TypeId} {pos : String} {aft : Array Edge} {v : Value} (hA : Fits a n s) (hy : Y P (fun w => St w B V) n s op ty v) (hd : Nat.blt d n = true) (k : ∀ a', Fits a' n ((d, v) :: s) → wpQuiet P ops (fun w => St w B V) Q rest a') :
    wpQuiet P ops (fun w => St w B V) Q (⟨some d, op, ty, pos, aft, none⟩ :: rest) a := by
  refine wpQuiet_step fun K hK => ?_
  rw [if_pos (by simp [Region.wanted])]
  exact ⟨v, fun w hw => by unfold Oper.quietAt; rw [hy a w _ hA hw rfl rfl]; exact ⟨rfl, rfl⟩, hK _ (k _ (hA.put (blt_lt hd) v))⟩
theorem q1g {Q : Act → Prop} {d : Nat} {op : Op} {ty : TypeId} {pos : String} {aft : Array Edge} {v : Value} {j dj : Nat} {b t : Bool} (hA : Fits a n s) (hj : (ops[j]?).bind (·.dst) = some dj) (ht : lk s dj = some (.bool t)) (hn : Nat.blt dj n = true) (hb : t = b) (hy : Y P (fun w => St w B V) n s op ty v) (hd : Nat.blt d n = true) (k : ∀ a', Fits a' n ((d, v) :: s) → wpQuiet P ops (fun w => St w B V) Q rest a') :
    wpQuiet P ops (fun w => St w B V) Q (⟨some d, op, ty, pos, aft, some (j, b)⟩ :: rest) a := by
  refine wpQuiet_step fun K hK => ?_
  subst hb
  rw [wanted_of rfl hA hj ht (blt_lt hn), beq_self_eq_true, if_pos rfl]
  exact ⟨v, fun w hw => by unfold Oper.quietAt; rw [hy a w _ hA hw rfl rfl]; exact ⟨rfl, rfl⟩, hK _ (k _ (hA.put (blt_lt hd) v))⟩
theorem q1s {Q : Act → Prop} {d : Nat} {op : Op} {ty : TypeId} {pos : String} {aft : Array Edge} {j dj : Nat} {b t : Bool} (hA : Fits a n s) (hj : (ops[j]?).bind (·.dst) = some dj) (ht : lk s dj = some (.bool t)) (hn : Nat.blt dj n = true) (hb : t = !b) (hd : Nat.blt d n = true) (k : ∀ a', Fits a' n ((d, undef) :: s) → wpQuiet P ops C Q rest a') :
    wpQuiet P ops C Q (⟨some d, op, ty, pos, aft, some (j, b)⟩ :: rest) a := by
  refine wpQuiet_step fun K hK => ?_
  rw [wanted_of rfl hA hj ht (blt_lt hn), hb, if_neg (by cases b <;> simp)]
  exact hK _ (k _ (hA.put (blt_lt hd) undef))
theorem q_call {Q : Act → Prop} {d : Nat} {f : FuncId} {xs : List Operand} {ts : Array TypeId} {ty : TypeId} {pos : String} {aft : Array Edge} {vs : List Value} (v : Value) (hA : Fits a n s) (hf : ∀ args w, (callFunc f args).run P w = .ok (.enter f args) w) (hx : evL s xs = some vs) (hd : Nat.blt d n = true)
    (hc : ∀ w, St w B V → Calls P f vs.toArray w fun e w' => e = .returned v ∧ Gr w w')
    (k : ∀ a', Fits a' n ((d, v) :: s) → wpQuiet P ops (fun w => St w B V) Q rest a') :
    wpQuiet P ops (fun w => St w B V) Q (⟨some d, .call { callee := .value (.func f), args := xs.toArray, argTypes := ts }, ty, pos, aft, none⟩ :: rest) a := by
  refine wpQuiet_step fun K hK => ?_
  rw [if_pos (by simp [Region.wanted])]
  refine ⟨v, fun w hw => ?_, hK _ (k _ (hA.put (blt_lt hd) v))⟩
  have hr : (execOp a.eval ⟨some d, .call { callee := .value (.func f), args := xs.toArray, argTypes := ts }, ty, pos, aft, none⟩).run P w = .ok (.enter f vs.toArray) w := by
    simp [execOp, resolve, Act.eval, Deferred.ofValue, invoke, hA.evL hx, hf]
  unfold Oper.quietAt
  rw [hr]
  exact ⟨rfl, (hc w hw).mono fun e w' ⟨h1, h2⟩ => ⟨h1, hw.gr h2⟩⟩
end

/-! ### A function's beginning and end -/
def argsS : Nat → List Value → List (Nat × Value)
  | _, [] => []
  | i, v :: vs => (i, v) :: argsS (i + 1) vs
theorem lk_argsS : ∀ (vs : List Value) (i t : Nat) (v : Value), lk (argsS i vs) t = some v → ∃ j, t = i + j ∧ vs[j]? = some v
  | [], i, t, v, h => by simp [argsS, lk] at h
  | u :: vs, i, t, v, h => by
    simp only [argsS, lk] at h
    cases hb : Nat.beq i t with
    | true =>
      rw [hb] at h
      simp only [cond_true, Option.some.injEq] at h
      exact ⟨0, by rw [Nat.eq_of_beq_eq_true hb]; rfl, by simp [h]⟩
    | false =>
      rw [hb] at h
      obtain ⟨j, e, hj⟩ := lk_argsS vs (i + 1) t v h
      exact ⟨j + 1, by omega, by simpa using hj⟩
theorem m_enter {P : Program} {f : FuncId} {fn : Func} {c : Code} {vs : List Value} {w : World} {R : Ending → World → Prop} {n : Nat} (hf : P.funcs[f]? = some fn) (hb : fn.body = some c) (hn : fn.ntmps = n) (hl : vs.length ≤ n)
    (h : ∀ a, Fits a n (argsS 0 vs) → c.wp P (bodyPost P fn R) a w) : Calls P f vs.toArray w R := by
  refine calls_of_wp hf hb (h _ ⟨by simp [hn]; omega, rfl, fun t v ht => ?_⟩)
  obtain ⟨j, rfl, hj⟩ := lk_argsS vs 0 t v ht
  have hlt := (List.getElem?_eq_some_iff.1 hj).1
  simp only [Nat.zero_add, Array.getD_eq_getD_getElem?]
  rw [Array.getElem?_append_left (by simpa using hlt)]
  simp [hj]
theorem m_ret1 {P : Program} {fn : Func} {R : Ending → World → Prop} {a : Act} {w : World} {n : Nat} {s : List (Nat × Value)} {t : Tmp} {v : Value} (hA : Fits a n s) (hr : fn.results = #[.tmp t]) (hv : lk s t = some v) (hR : R (.returned v) w) : bodyPost P fn R .ret a w :=
  bodyPost_ret (v := v) (by rw [results_tmp hr, hA.look t v hv]) hA.defs hR
theorem m_ret0 {P : Program} {fn : Func} {R : Ending → World → Prop} {a : Act} {w : World} {n : Nat} {s : List (Nat × Value)} (hA : Fits a n s) (hr : fn.results = #[]) (hR : R (.returned (.tuple #[])) w) : bodyPost P fn R .ret a w :=
  bodyPost_ret (v := .tuple #[]) (results_none hr _ _ _) hA.defs hR
theorem m_end0 {P : Program} {fn : Func} {R : Ending → World → Prop} {a : Act} {w : World} {n : Nat} {s : List (Nat × Value)} (hA : Fits a n s) (hr : fn.results = #[]) (hR : R (.returned (.tuple #[])) w) : bodyPost P fn R .normal a w :=
  bodyPost_end (v := .tuple #[]) (results_none hr _ _ _) hA.defs hR
theorem m_ret2 {P : Program} {fn : Func} {R : Ending → World → Prop} {a : Act} {w : World} {n : Nat} {s : List (Nat × Value)} {t u : Tmp} {v v' : Value} (hA : Fits a n s) (hr : fn.results = #[.tmp t, .tmp u]) (hv : lk s t = some v) (hv' : lk s u = some v') (hR : R (.returned (.tuple #[v, v'])) w) : bodyPost P fn R .ret a w :=
  bodyPost_ret (v := .tuple #[v, v']) (by rw [results_tmp2 hr, hA.look t v hv, hA.look u v' hv']) hA.defs hR
/-- The first result lies in a box (a struct), the second in a temporary. -/
theorem m_retc2 {P : Program} {fn : Func} {R : Ending → World → Prop} {a : Act} {w : World} {n : Nat} {s : List (Nat × Value)} {t u : Tmp} {T T' b : Nat} {cs : List Value} {v' : Value} {B : List Bx} {V : List (Nat × World)} (i : Nat) (hA : Fits a n s) (hS : St w B V) (hr : fn.results = #[.cell t T, .tmp u]) (hv : lk s t = some (.pointer (some ⟨b, 0, none⟩))) (hv' : lk s u = some v')
    (hB : B[i]? = some (cB b cs T')) (hg : ∀ w, (isAgg T).run P w = .ok true w) (hz : ∀ w, (sizeOf T).run P w = .ok cs.length w) (hR : R (.returned (.tuple #[.agg cs.toArray, v'])) w) : bodyPost P fn R .ret a w := by
  have hb := hS.bx _ (List.mem_of_getElem? hB)
  have hl : (loadCells ⟨b, 0, none⟩ cs.length).run P w = .ok cs.toArray w := run_loadCells_list w ⟨b, 0, none⟩ cs (fun j v hj => by
    have ha : (⟨b, 0, none⟩ : Addr).add j = ⟨b, j, none⟩ := by unfold Addr.add; split <;> simp_all
    rw [ha]; simp [World.cell?, hb, hj])
  have ht := hA.look t _ hv
  have hu := hA.look u _ hv'
  rw [Array.getD_eq_getD_getElem?] at ht hu
  exact bodyPost_ret (v := .tuple #[.agg cs.toArray, v']) (by simp [results, hr, ht, hu, asAddr, loadVar, hg, hz, hl]) hA.defs hR
theorem m_retc1 {P : Program} {fn : Func} {R : Ending → World → Prop} {a : Act} {w : World} {n : Nat} {s : List (Nat × Value)} {t : Tmp} {T T' b : Nat} {cs : List Value} {B : List Bx} {V : List (Nat × World)} (i : Nat) (hA : Fits a n s) (hS : St w B V) (hr : fn.results = #[.cell t T]) (hv : lk s t = some (.pointer (some ⟨b, 0, none⟩)))
    (hB : B[i]? = some (cB b cs T')) (hg : ∀ w, (isAgg T).run P w = .ok true w) (hz : ∀ w, (sizeOf T).run P w = .ok cs.length w) (hR : R (.returned (.agg cs.toArray)) w) : bodyPost P fn R .ret a w := by
  have hb := hS.bx _ (List.mem_of_getElem? hB)
  have hl : (loadCells ⟨b, 0, none⟩ cs.length).run P w = .ok cs.toArray w := run_loadCells_list w ⟨b, 0, none⟩ cs (fun j v hj => by
    have ha : (⟨b, 0, none⟩ : Addr).add j = ⟨b, j, none⟩ := by unfold Addr.add; split <;> simp_all
    rw [ha]; simp [World.cell?, hb, hj])
  have ht := hA.look t _ hv
  rw [Array.getD_eq_getD_getElem?] at ht
  exact bodyPost_ret (v := .agg cs.toArray) (by simp [results, hr, ht, asAddr, loadVar, hg, hz, hl]) hA.defs hR

/-- The entries that are still of use. -/
def keepS (s : List (Nat × Value)) : List Nat → Option (List (Nat × Value))
  | [] => some []
  | t :: ts => match lk s t, keepS s ts with | some v, some l => some ((t, v) :: l) | _, _ => none
theorem keepS_sub {s : List (Nat × Value)} : ∀ {ts : List Nat} {l : List (Nat × Value)}, keepS s ts = some l → Sub s l
  | [], l, h => by simp only [keepS, Option.some.injEq] at h; subst h; trivial
  | t :: ts, l, h => by
    simp only [keepS] at h
    split at h
    · rename_i v l' h1 h2
      simp only [Option.some.injEq] at h; subst h
      exact ⟨h1, keepS_sub h2⟩
    · cases h
theorem Fits.keep {a : Act} {n : Nat} {s l : List (Nat × Value)} (h : Fits a n s) (ts : List Nat) (hl : keepS s ts = some l) : Fits a n l := h.sub (keepS_sub hl)
theorem St.rd {w : World} {B : List Bx} {V : List (Nat × World)} (h : St w B V) {lo : Nat} {v : World} (hv : (lo, v) ∈ V) {b o : Nat} {x : Value} (hlo : lo ≤ b) (hc : v.cell? ⟨b, o, none⟩ = some x) : w.cell? ⟨b, o, none⟩ = some x :=
  (World.cell?_of_block (w := v) (h.at hv b hlo (World.block_lt_of_cell? v _ hc))).trans hc
/-- Cells side by side. -/
def Cs (v : World) (b o : Nat) : List Value → Prop
  | [] => True
  | x :: xs => v.cell? ⟨b, o, none⟩ = some x ∧ Cs v b (o + 1) xs
theorem Cs.two {v : World} {b o : Nat} {x0 x1 : Value} (h0 : v.cell? ⟨b, o, none⟩ = some x0) (h1 : v.cell? ⟨b, o + 1, none⟩ = some x1) : Cs v b o [x0, x1] := ⟨h0, h1, trivial⟩
theorem Cs.three {v : World} {b o : Nat} {x0 x1 x2 : Value} (h0 : v.cell? ⟨b, o, none⟩ = some x0) (h1 : v.cell? ⟨b, o + 1, none⟩ = some x1) (h2 : v.cell? ⟨b, o + 2, none⟩ = some x2) : Cs v b o [x0, x1, x2] := ⟨h0, h1, h2, trivial⟩
theorem Cs.four {v : World} {b o : Nat} {x0 x1 x2 x3 : Value} (h0 : v.cell? ⟨b, o, none⟩ = some x0) (h1 : v.cell? ⟨b, o + 1, none⟩ = some x1) (h2 : v.cell? ⟨b, o + 2, none⟩ = some x2) (h3 : v.cell? ⟨b, o + 3, none⟩ = some x3) : Cs v b o [x0, x1, x2, x3] := ⟨h0, h1, h2, h3, trivial⟩
theorem Cs.get {v : World} {b : Nat} : ∀ {xs : List Value} {o : Nat}, Cs v b o xs → ∀ j x, xs[j]? = some x → v.cell? ⟨b, o + j, none⟩ = some x
  | [], o, _, j, x, h => by simp at h
  | y :: ys, o, hc, 0, x, h => by simp at h; subst h; exact hc.1
  | y :: ys, o, hc, j + 1, x, h => by
    have := Cs.get hc.2 j x (by simpa using h)
    rwa [show o + (j + 1) = o + 1 + j from by omega]
theorem St.rds {w : World} {B : List Bx} {V : List (Nat × World)} (h : St w B V) {lo : Nat} {v : World} (hv : (lo, v) ∈ V) {b o : Nat} {cs : List Value} (hlo : lo ≤ b) (hc : Cs v b o cs) : ∀ j x, cs[j]? = some x → w.cell? ((⟨b, o, none⟩ : Addr).add j) = some x := fun j x hj => by
  have ha : (⟨b, o, none⟩ : Addr).add j = ⟨b, o + j, none⟩ := by unfold Addr.add; split <;> simp_all
  rw [ha]; exact h.rd hv hlo (hc.get j x hj)

/-! ### Loads out of boxes, out of rows -/
theorem St.cell {w : World} {B : List Bx} {V : List (Nat × World)} (h : St w B V) {i b j : Nat} {cs : List Value} {T : Nat} {v : Value} (hB : B[i]? = some (cB b cs T)) (hj : cs[j]? = some v) : w.cell? ⟨b, j, none⟩ = some v := by
  have hb := h.bx _ (List.mem_of_getElem? hB)
  simp [World.cell?, hb, hj]
theorem St.cells {w : World} {B : List Bx} {V : List (Nat × World)} (h : St w B V) {i b : Nat} {cs : List Value} {T : Nat} (hB : B[i]? = some (cB b cs T)) : ∀ j v, cs[j]? = some v → w.cell? ((⟨b, 0, none⟩ : Addr).add j) = some v := fun j v hj => by
  have ha : (⟨b, 0, none⟩ : Addr).add j = ⟨b, j, none⟩ := by unfold Addr.add; split <;> simp_all
  rw [ha]; exact h.cell hB hj
theorem St.cellsAt {w : World} {B : List Bx} {V : List (Nat × World)} (h : St w B V) {i b o : Nat} {cs xs : List Value} {T : Nat} (hB : B[i]? = some (cB b cs T)) (hx : ∀ j v, xs[j]? = some v → cs[o + j]? = some v) : ∀ j v, xs[j]? = some v → w.cell? ((⟨b, o, none⟩ : Addr).add j) = some v := fun j v hj => by
  have ha : (⟨b, o, none⟩ : Addr).add j = ⟨b, o + j, none⟩ := by unfold Addr.add; split <;> simp_all
  rw [ha]; exact h.cell hB (hx j v hj)
theorem mid_get {l c r : List Value} {o : Nat} (ho : l.length = o) : ∀ j v, c[j]? = some v → (l ++ (c ++ r))[o + j]? = some v := fun j v hj => by
  subst ho
  rw [List.getElem?_append_right (by omega), Nat.add_sub_cancel_left, List.getElem?_append_left (List.getElem?_eq_some_iff.1 hj).1]
  exact hj
end Go.Proofs.YtljkhijdaaconaaGreat

namespace Go.Proofs.YtljkhijdaaconaaGreat
open Go.RowKit

section
variable {P : Program} {ops : Array Oper} {Q : Exit → Act → World → Prop} {md : Region.Mode} {S : World → Prop}

/-- Might j come up while one of the reads L has not? -/
def need (md : Region.Mode) (ops : Array Oper) (L : List Nat) (listed : Array Bool) (j : Nat) : Bool :=
  L.any fun i => i != j && (Region.ready md ops (listed.setIfInBounds i false)).contains j
/-- What an operation leaves: what only reads leaves the world; else S holds on where a read might come later. -/
def cond (md : Region.Mode) (ops : Array Oper) (S : World → Prop) (L pr : List Nat) (listed : Array Bool) (i : Nat) (w w' : World) : Prop :=
  if pr.contains i then w' = w else (need md ops L listed i = true → S w')
def wpAnyS (P : Program) (md : Region.Mode) (ops : Array Oper) (Q : Exit → Act → World → Prop) (S : World → Prop) (L pr : List Nat) : Nat → Array Bool → Act → World → Prop
  | 0, listed, a, w => Region.ready md ops listed = [] ∧ Q .normal a w
  | fuel + 1, listed, a, w =>
    (Region.ready md ops listed = [] → Q .normal a w) ∧
    ∀ i ∈ Region.ready md ops listed, wpOp P ops Q i (fun a' w' => cond md ops S L pr listed i w w' ∧ wpAnyS P md ops Q S L pr fuel (listed.setIfInBounds i true) a' w') a w
theorem wpAny_of_S {L pr : List Nat} : ∀ (fuel : Nat) (listed : Array Bool) (a : Act) (w : World), wpAnyS P md ops Q S L pr fuel listed a w → wpAny P md ops Q fuel listed a w
  | 0, _, _, _, h => h
  | fuel + 1, _, _, _, h => ⟨h.1, fun i hi => wpOp_mono (fun a' w' h' => wpAny_of_S fuel _ a' w' h'.2) (h.2 i hi)⟩
theorem getD_false {listed : Array Bool} {i j : Nat} (h : (listed.setIfInBounds i false).getD j false = true) : (listed.setIfInBounds i true).getD j false = true := by
  by_cases hij : i = j
  · subst hij
    rcases Nat.lt_or_ge i listed.size with h' | h'
    · simp [h'] at h
    · simp [Array.getElem?_eq_none h'] at h
  · simpa [Array.getElem?_setIfInBounds_ne hij] using h
theorem set_self {listed : Array Bool} {i : Nat} (h : listed.getD i true = false) : (listed.setIfInBounds i true).setIfInBounds i false = listed := by
  have hl : i < listed.size := by
    rcases Nat.lt_or_ge i listed.size with h' | h'
    · exact h'
    · simp [Array.getElem?_eq_none h'] at h
  apply Array.ext
  · simp
  · intro k h1 h2
    by_cases hk : i = k
    · subst hk
      simp [Array.getElem?_eq_getElem h2] at h
      simp [h]
    · have e1 : ((listed.setIfInBounds i true).setIfInBounds i false)[k]? = listed[k]? := by
        rw [Array.getElem?_setIfInBounds_ne hk, Array.getElem?_setIfInBounds_ne hk]
      rw [Array.getElem?_eq_getElem h1, Array.getElem?_eq_getElem h2] at e1
      exact Option.some.inj e1
theorem wpAnyS_first {L pr : List Nat} {T : World → Prop} {i : Nat} {oi : Oper} {v : Value} (hT : (T = S ∧ i ∈ L) ∨ T = fun _ => True) (hpr : pr.contains i = true) (hi : ops[i]? = some oi) (hsel : ∀ (j : Nat) (o : Oper) cs b, ops[j]? = some o → o.op ≠ .select cs b)
    (hQ : ∀ c a w, Q (.panic c) (a.put oi.dst v) w → Q (.panic c) a w) :
    ∀ (fuel : Nat) (listed : Array Bool) (a : Act) (w : World),
      (∀ j oj, ops[j]? = some oj → j ≠ i → listed.getD j true = false → (∀ e ∈ oj.after, Region.binds md e = true → e.on ≠ i) → oi.apart ops oj = true) →
      i ∈ Region.ready md ops listed → YieldsIf P ops T oi v a → T w →
      wpAnyS P md ops Q S L pr fuel (listed.setIfInBounds i true) (a.put oi.dst v) w → wpAnyS P md ops Q S L pr (fuel + 1) listed a w := by
  have own : ∀ (listed : Array Bool) (w : World), cond md ops S L pr listed i w w := fun listed w => by
    unfold cond; rw [if_pos hpr]
  intro fuel
  induction fuel with
  | zero =>
    intro listed a w _ hr hy hTw H
    refine ⟨fun h => (by rw [h] at hr; cases hr), fun j hj => ?_⟩
    by_cases hji : j = i
    · subst hji; exact hy.wpOp hi hTw ⟨own _ _, H⟩
    · have := ready_mono hj hji
      rw [H.1] at this
      cases this
  | succ fuel ih =>
    intro listed a w hfree hr hy hTw H
    refine ⟨fun h => (by rw [h] at hr; cases hr), fun j hj => ?_⟩
    by_cases hji : j = i
    · subst hji; exact hy.wpOp hi hTw ⟨own _ _, H⟩
    · have h1 := H.2 j (ready_mono hj hji)
      have hiun := (mem_ready.1 hr).1
      obtain ⟨hjun, oj, hoj, hall⟩ := mem_ready.1 hj
      have hnot : ∀ e ∈ oj.after, Region.binds md e = true → e.on ≠ i := fun e he hb heq => by
        have h1 := hall e he hb
        rw [heq] at h1
        rcases Nat.lt_or_ge i listed.size with h' | h'
        · simp [h'] at hiun h1; rw [hiun] at h1; cases h1
        · simp [Array.getElem?_eq_none h'] at h1
      have hneed : (i ∈ L ∨ need md ops L listed j = true) → need md ops L (listed.setIfInBounds i true) j = true := fun hk => by
        rcases hk with hk | hk
        · exact List.any_eq_true.2 ⟨i, hk, by simp [Ne.symm hji, set_self hiun, hj]⟩
        · obtain ⟨k, hk, h2⟩ := List.any_eq_true.1 hk
          simp only [Bool.and_eq_true, bne_iff_ne, ne_eq, List.contains_iff_mem] at h2
          refine List.any_eq_true.2 ⟨k, hk, ?_⟩
          simp only [Bool.and_eq_true, bne_iff_ne, ne_eq, List.contains_iff_mem]
          refine ⟨h2.1, ?_⟩
          by_cases hki : k = i
          · subst hki; rw [set_self hiun]; exact hj
          · rw [Array.setIfInBounds_comm _ _ (Ne.symm hki)]
            exact ready_mono h2.2 hji
      have h2 := wpOp_putIf hoj (hfree j oj hoj hji hjun hnot) (fun cs b => hsel i oi cs b hi) (fun cs b => hsel j oj cs b hoj) hQ hy h1
      have hfree' : ∀ k ok, ops[k]? = some ok → k ≠ i → (listed.setIfInBounds j true).getD k true = false →
          (∀ e ∈ ok.after, Region.binds md e = true → e.on ≠ i) → oi.apart ops ok = true := fun k ok hk hki hun hno => by
        refine hfree k ok hk hki ?_ hno
        by_cases hjk : j = k
        · subst hjk; exact hjun
        · rw [getD_set_ne true hjk] at hun; exact hun
      refine wpOp_mono (fun a' w' h3 => ⟨?_, ?_⟩) h2
      · have h4 := h3.2.1
        unfold cond at h4 ⊢
        split
        · rename_i hp; rw [if_pos hp] at h4; exact h4
        · rename_i hp; rw [if_neg hp] at h4; exact fun hn => h4 (hneed (.inr hn))
      · have hTw' : T w' := by
          rcases hT with ⟨rfl, hL⟩ | rfl
          · have h4 := h3.2.1
            unfold cond at h4
            split at h4
            · rw [h4]; exact hTw
            · exact h4 (hneed (.inl hL))
          · trivial
        refine ih (listed.setIfInBounds j true) a' w' hfree' (ready_mono hr (Ne.symm hji)) h3.1 hTw' ?_
        rw [Array.setIfInBounds_comm _ _ hji]
        exact h3.2.2

/-! ### The moves -/
variable {C : World → Prop} {n : Nat} {s : List (Nat × Value)} {a : Act} {w : World} {B : List Bx} {V : List (Nat × World)} {L pr : List Nat}
def arr (l : List Bool) : Array Bool := l.toArray
theorem d_region {id : Nat} {l : List Oper} (S : World → Prop) (L pr : List Nat) (B : List Bx) (V : List (Nat × World)) (hS : St w B V) (hm : P.follows .mixedOrders = true) (N : Nat) (bs : List Bool) (hN : l.length = N) (hb : bs = List.replicate N false)
    (h : ∀ w', St w' B V → w'.heap.size = w.heap.size → wpAnyS P .any l.toArray Q S L pr N bs.toArray a w') : (Code.region id l.toArray true).wp P Q a w := by
  refine wp_region_any hm (wpAny_of_S (S := S) (L := L) (pr := pr) _ _ _ _ ?_)
  have := h { w with drawn := w.drawn + 1 } hS.drew' rfl
  subst hN
  subst hb
  simpa using this
theorem d_regionS {id : Nat} {l : List Oper} (L pr : List Nat) (hS : St w B V) (hm : P.follows .mixedOrders = true) (N : Nat) (bs : List Bool) (hN : l.length = N) (hb : bs = List.replicate N false)
    (h : ∀ w', St w' B V → w'.heap.size = w.heap.size → wpAnyS P .any l.toArray Q (fun w => St w B V) L pr N bs.toArray a w') : (Code.region id l.toArray true).wp P Q a w := d_region _ L pr B V hS hm N bs hN hb h
def okTake (ops : Array Oper) (bs : List Bool) (i : Nat) (bs' : List Bool) : Bool :=
  Region.noSelect ops && Region.free .any ops bs.toArray i && (Region.ready .any ops bs.toArray).contains i && (bs.toArray.setIfInBounds i true).toList == bs'
theorem okTake_spec {bs bs' : List Bool} {i : Nat} (h : okTake ops bs i bs' = true) : Region.noSelect ops = true ∧ Region.free .any ops bs.toArray i = true ∧ i ∈ Region.ready .any ops bs.toArray ∧ bs.toArray.setIfInBounds i true = bs'.toArray := by
  simp only [okTake, Bool.and_eq_true, List.contains_iff_mem, beq_iff_eq] at h
  exact ⟨h.1.1.1, h.1.1.2, h.1.2, by rw [← h.2]⟩
/-- A value of its own, whatever the world. -/
theorem d_take {d : Nat} {op : Op} {ty : TypeId} {pos : String} {aft : Array Edge} {v : Value} {fuel : Nat} (i : Nat) {bs bs' : List Bool} (hA : Fits a n s) (hi : ops[i]? = some ⟨some d, op, ty, pos, aft, none⟩) (hp : pr.contains i = true) (ho : okTake ops bs i bs' = true)
    (hQ : ∀ c a w, Q (.panic c) (a.put (some d) v) w → Q (.panic c) a w) (hy : Y P (fun _ => True) n s op ty v) (hd : Nat.blt d n = true)
    (k : ∀ a', Fits a' n ((d, v) :: s) → wpAnyS P .any ops Q S L pr fuel bs'.toArray a' w) : wpAnyS P .any ops Q S L pr (fuel + 1) bs.toArray a w := by
  obtain ⟨h1, h2, h3, h4⟩ := okTake_spec ho
  refine wpAnyS_first (T := fun _ => True) (.inr rfl) hp hi (Region.noSelect_spec h1) hQ fuel _ a w (Region.free_spec hi h2) h3 (.inl ⟨by simp [Region.wanted], fun w' _ => hy a w' _ hA trivial rfl rfl⟩) trivial ?_
  rw [h4]
  exact k _ (hA.put (blt_lt hd) v)
/-- A read. -/
theorem d_load {d : Nat} {op : Op} {ty : TypeId} {pos : String} {aft : Array Edge} {v : Value} {fuel : Nat} (i : Nat) {bs bs' : List Bool} (hA : Fits a n s) (hs : S w) (hi : ops[i]? = some ⟨some d, op, ty, pos, aft, none⟩) (hl : L.contains i = true) (hp : pr.contains i = true) (ho : okTake ops bs i bs' = true)
    (hQ : ∀ c a w, Q (.panic c) (a.put (some d) v) w → Q (.panic c) a w) (hy : Y P S n s op ty v) (hd : Nat.blt d n = true)
    (k : ∀ a', Fits a' n ((d, v) :: s) → wpAnyS P .any ops Q S L pr fuel bs'.toArray a' w) : wpAnyS P .any ops Q S L pr (fuel + 1) bs.toArray a w := by
  obtain ⟨h1, h2, h3, h4⟩ := okTake_spec ho
  refine wpAnyS_first (T := S) (.inl ⟨rfl, by simpa using hl⟩) hp hi (Region.noSelect_spec h1) hQ fuel _ a w (Region.free_spec hi h2) h3 (.inl ⟨by simp [Region.wanted], fun w' hw => hy a w' _ hA hw rfl rfl⟩) hs ?_
  rw [h4]
  exact k _ (hA.put (blt_lt hd) v)
theorem wpOp_one {i : Nat} {o : Oper} {K : Act → World → Prop} (hi : ops[i]? = some o) (h : wpList P ops (Exit.then K Q) [o] a w) : wpOp P ops Q i K a w := by
  unfold wpOp
  simp only [hi]
  simp only [wpList] at h
  split
  · rename_i hw
    rw [if_pos hw] at h
    rcases h with h | ⟨h1, a', w', h2⟩
    · refine .inl ?_
      unfold Oper.wp at h ⊢
      generalize (execOp a.eval o).run P w = r at h ⊢
      cases r with
      | ok x w' => cases x <;> simp only [Oper.upon] at h ⊢ <;> first | exact h | (refine h.mono fun e w'' he => ?_; cases e <;> exact he) | exact h.mono fun v w'' he => he
      | halt x w' => cases x <;> simp only [Oper.upon] at h ⊢ <;> exact h
    · exact .inr ⟨h1, a', w', h2⟩
  · rename_i hw
    rw [if_neg hw] at h
    exact h
def okOne (ops : Array Oper) (L pr : List Nat) (bs : List Bool) (i : Nat) (bs' : List Bool) (nd : Bool) : Bool :=
  Region.ready .any ops bs.toArray == [i] && (bs.toArray.setIfInBounds i true).toList == bs' && !pr.contains i && need .any ops L bs.toArray i == nd
/-- The only one that may come up now. -/
theorem d_one {o : Oper} {fuel : Nat} (i : Nat) {bs bs' : List Bool} (nd : Bool) (hi : ops[i]? = some o) (ho : okOne ops L pr bs i bs' nd = true)
    (h : wpList P ops (Exit.then (fun a' w' => (nd = true → S w') ∧ wpAnyS P .any ops Q S L pr fuel bs'.toArray a' w') Q) [o] a w) : wpAnyS P .any ops Q S L pr (fuel + 1) bs.toArray a w := by
  simp only [okOne, Bool.and_eq_true, beq_iff_eq, Bool.not_eq_true'] at ho
  obtain ⟨⟨⟨h1, h2⟩, h3⟩, h4⟩ := ho
  refine ⟨fun h0 => (by rw [h1] at h0; cases h0), fun j hj => ?_⟩
  rw [h1] at hj
  simp at hj
  subst hj
  refine wpOp_mono (fun a' w' hk => ⟨?_, ?_⟩) (wpOp_one hi h)
  · unfold cond
    rw [if_neg (by simpa using h3), h4]
    exact hk.1
  · rw [show bs.toArray.setIfInBounds j true = bs'.toArray from by rw [← h2]]
    exact hk.2
/-- One of two comes up. -/
def okTwo (ops : Array Oper) (L pr : List Nat) (bs : List Bool) (i j : Nat) (bi bj : List Bool) (ni nj : Bool) : Bool :=
  Region.ready .any ops bs.toArray == [i, j] && (bs.toArray.setIfInBounds i true).toList == bi && (bs.toArray.setIfInBounds j true).toList == bj && !pr.contains i && !pr.contains j && need .any ops L bs.toArray i == ni && need .any ops L bs.toArray j == nj
theorem d_two {oi oj : Oper} {fuel : Nat} (i j : Nat) {bs bi bj : List Bool} (ni nj : Bool) (hi : ops[i]? = some oi) (hj : ops[j]? = some oj) (ho : okTwo ops L pr bs i j bi bj ni nj = true)
    (h1 : wpList P ops (Exit.then (fun a' w' => (ni = true → S w') ∧ wpAnyS P .any ops Q S L pr fuel bi.toArray a' w') Q) [oi] a w)
    (h2 : wpList P ops (Exit.then (fun a' w' => (nj = true → S w') ∧ wpAnyS P .any ops Q S L pr fuel bj.toArray a' w') Q) [oj] a w) : wpAnyS P .any ops Q S L pr (fuel + 1) bs.toArray a w := by
  simp only [okTwo, Bool.and_eq_true, beq_iff_eq, Bool.not_eq_true'] at ho
  obtain ⟨⟨⟨⟨⟨⟨e1, e2⟩, e3⟩, e4⟩, e5⟩, e6⟩, e7⟩ := ho
  refine ⟨fun h0 => (by rw [e1] at h0; cases h0), fun k hk => ?_⟩
  rw [e1] at hk
  rcases List.mem_cons.1 hk with rfl | hk
  · refine wpOp_mono (fun a' w' hk => ⟨?_, ?_⟩) (wpOp_one hi h1)
    · unfold cond
      rw [if_neg (by simpa using e4), e6]
      exact hk.1
    · rw [show bs.toArray.setIfInBounds k true = bi.toArray from by rw [← e2]]
      exact hk.2
  · simp at hk
    subst hk
    refine wpOp_mono (fun a' w' hk => ⟨?_, ?_⟩) (wpOp_one hj h2)
    · unfold cond
      rw [if_neg (by simpa using e5), e7]
      exact hk.1
    · rw [show bs.toArray.setIfInBounds k true = bj.toArray from by rw [← e3]]
      exact hk.2
theorem d_done {fuel : Nat} {bs : List Bool} (hr : (Region.ready .any ops bs.toArray == []) = true) (h : Q .normal a w) : wpAnyS P .any ops Q S L pr fuel bs.toArray a w := by
  have hr' : Region.ready .any ops bs.toArray = [] := by simpa using hr
  cases fuel with
  | zero => exact ⟨hr', h⟩
  | succ f => exact ⟨fun _ => h, by rw [hr']; simp⟩
end
end Go.Proofs.YtljkhijdaaconaaGreat

namespace Go.Proofs.YtljkhijdaaconaaGreat
open Go.RowKit

section
variable {P : Program} {C : World → Prop} {n : Nat} {s : List (Nat × Value)} {ops : Array Oper} {rest : List Oper} {Q : Exit → Act → World → Prop} {a : Act} {w : World} {B : List Bx} {V : List (Nat × World)}

theorem m_skip (h : Q .normal a w) : Code.skip.wp P Q a w := wp_skip h
theorem m_exit {i : Nat} (h : Q (.exit i) a w) : (Code.exit i).wp P Q a w := wp_exit h
theorem m_retc (h : Q .ret a w) : Code.ret.wp P Q a w := wp_ret h

/-- A loop whose rounds change some slots, some boxes. -/
theorem m_loopX {X : Type} {c : Code} {s0 : List (Nat × Value)} (ts : List Nat) (hk : keepS s ts = some s0) (hA : Fits a n s) (x0 : X) (mv : X → List (Nat × Value)) (BB : X → List Bx) (VV : X → List (Nat × World)) (J : X → Prop) (me : X → Nat)
    {ks : List Nat} (h0' : keepS s ks = some (mv x0)) (hS : St w (BB x0) (VV x0)) (hJ : J x0)
    (step : ∀ x a w, Fits a n (mv x ++ s0) → St w (BB x) (VV x) → J x → c.wp P (Exit.then (fun a w => ∃ x', me x' < me x ∧ Fits a n (mv x' ++ s0) ∧ St w (BB x') (VV x') ∧ J x') Q) a w) : (Code.loop c).wp P Q a w := by
  have h0 : Sub s (mv x0) := keepS_sub h0'
  have hs0 : ∀ l, Sub s l → Sub s (l ++ s0) := fun l hl => by
    induction l with
    | nil => exact keepS_sub hk
    | cons x l ih => exact ⟨hl.1, ih hl.2⟩
  refine m_loop (fun k a w => ∃ x, me x = k ∧ Fits a n (mv x ++ s0) ∧ St w (BB x) (VV x) ∧ J x) (me x0) ⟨x0, rfl, hA.sub (hs0 _ h0), hS, hJ⟩ ?_
  rintro k a' w' ⟨x, rfl, h1, h2, h3⟩
  refine Code.wp_mono (fun e a w h => ?_) (step x a' w' h1 h2 h3)
  cases e <;> first
    | exact h
    | (obtain ⟨x', hlt, hi⟩ := h
       exact ⟨me x', hlt, x', rfl, hi⟩)

theorem wpQuiet_mono {Q Q' : Act → Prop} (hQ : ∀ a, Q a → Q' a) : ∀ (l : List Oper) (a : Act), wpQuiet P ops C Q l a → wpQuiet P ops C Q' l a
  | [], a, h => hQ a h
  | o :: l, a, h => by
    simp only [wpQuiet] at h ⊢
    split
    · rename_i hw
      rw [if_pos hw] at h
      exact Oper.quiet_mono (fun a h => wpQuiet_mono hQ l a h) h
    · rename_i hw
      rw [if_neg hw] at h
      exact wpQuiet_mono hQ l _ h
theorem wpQuiet_app {Q : Act → Prop} (l2 : List Oper) : ∀ (l1 : List Oper) (a : Act), wpQuiet P ops C (fun a => wpQuiet P ops C Q l2 a) l1 a → wpQuiet P ops C Q (l1 ++ l2) a
  | [], a, h => h
  | o :: l, a, h => by
    simp only [List.cons_append, wpQuiet] at h ⊢
    split
    · rename_i hw
      rw [if_pos hw] at h
      exact Oper.quiet_mono (fun a h => wpQuiet_app l2 l a h) h
    · rename_i hw
      rw [if_neg hw] at h
      exact wpQuiet_app l2 l _ h
theorem q_split {Q : Act → Prop} (k : Nat) (R : Act → Prop) {l : List Oper} (h1 : wpQuiet P ops C R (l.take k) a) (h2 : ∀ a, R a → wpQuiet P ops C Q (l.drop k) a) : wpQuiet P ops C Q l a := by
  have h3 := wpQuiet_app (P := P) (ops := ops) (C := C) (Q := Q) (l.drop k) (l.take k) a (wpQuiet_mono h2 _ _ h1)
  rwa [List.take_append_drop] at h3
theorem q_or {Q : Act → Prop} (k dp th : Nat) {p q : Bool} {l : List Oper} (hA : Fits a n s) (hp : lk s th = some (.bool p)) (h1 : p = true → wpQuiet P ops C (fun a => Fits a n ((dp, .bool true) :: s)) (l.take k) a)
    (h2 : p = false → wpQuiet P ops C (fun a => Fits a n ((dp, .bool q) :: s)) (l.take k) a)
    (h3 : ∀ a, Fits a n ((dp, .bool (p || q)) :: s) → wpQuiet P ops C Q (l.drop k) a) : wpQuiet P ops C Q l a := by
  refine q_split k (fun a => Fits a n ((dp, .bool (p || q)) :: s)) ?_ h3
  cases p with
  | true => exact h1 rfl
  | false => exact h2 rfl
theorem q_and {Q : Act → Prop} (k dp th : Nat) {p q : Bool} {l : List Oper} (hA : Fits a n s) (hp : lk s th = some (.bool p)) (h1 : p = false → wpQuiet P ops C (fun a => Fits a n ((dp, .bool false) :: s)) (l.take k) a)
    (h2 : p = true → wpQuiet P ops C (fun a => Fits a n ((dp, .bool q) :: s)) (l.take k) a)
    (h3 : ∀ a, Fits a n ((dp, .bool (p && q)) :: s) → wpQuiet P ops C Q (l.drop k) a) : wpQuiet P ops C Q l a := by
  refine q_split k (fun a => Fits a n ((dp, .bool (p && q)) :: s)) ?_ h3
  cases p with
  | true => exact h2 rfl
  | false => exact h1 rfl
theorem q_callg {Q : Act → Prop} {d : Nat} {f : FuncId} {xs : List Operand} {ts : Array TypeId} {ty : TypeId} {pos : String} {aft : Array Edge} {vs : List Value} {j dj : Nat} {b t : Bool} (v : Value) (hA : Fits a n s) (hj : (ops[j]?).bind (·.dst) = some dj) (ht : lk s dj = some (.bool t)) (hn : Nat.blt dj n = true) (hb : t = b) (hf : ∀ args w, (callFunc f args).run P w = .ok (.enter f args) w) (hx : evL s xs = some vs) (hd : Nat.blt d n = true)
    (hc : ∀ w, St w B V → Calls P f vs.toArray w fun e w' => e = .returned v ∧ Gr w w')
    (k : ∀ a', Fits a' n ((d, v) :: s) → wpQuiet P ops (fun w => St w B V) Q rest a') :
    wpQuiet P ops (fun w => St w B V) Q (⟨some d, .call { callee := .value (.func f), args := xs.toArray, argTypes := ts }, ty, pos, aft, some (j, b)⟩ :: rest) a := by
  refine wpQuiet_step fun K hK => ?_
  subst hb
  rw [wanted_of rfl hA hj ht (blt_lt hn), beq_self_eq_true, if_pos rfl]
  refine ⟨v, fun w hw => ?_, hK _ (k _ (hA.put (blt_lt hd) v))⟩
  have hr : (execOp a.eval ⟨some d, .call { callee := .value (.func f), args := xs.toArray, argTypes := ts }, ty, pos, aft, some (j, t)⟩).run P w = .ok (.enter f vs.toArray) w := by
    simp [execOp, resolve, Act.eval, Deferred.ofValue, invoke, hA.evL hx, hf]
  unfold Oper.quietAt
  rw [hr]
  exact ⟨rfl, (hc w hw).mono fun e w' ⟨h1, h2⟩ => ⟨h1, hw.gr h2⟩⟩
theorem wanted_undef {o : Oper} {j : Nat} {b : Bool} {dj : Nat} (hg : o.guard = some (j, b)) (hA : Fits a n s) (hj : (ops[j]?).bind (·.dst) = some dj) (ht : lk s dj = some undef) (hn : dj < n) : Region.wanted o (yielded ops a.tmps) = false := by
  have h1 : a.tmps.getD dj undef = undef := hA.look dj _ ht
  have h2 : a.tmps[dj]? = some undef := by
    have hlt : dj < a.tmps.size := by rw [hA.size]; exact hn
    rw [Array.getD_eq_getD_getElem?, Array.getElem?_eq_getElem hlt] at h1
    rw [Array.getElem?_eq_getElem hlt]
    exact congrArg some h1
  simp [Region.wanted, hg, yielded, hj, h2, undef]
/-- A guarded operation whose guard was passed over itself. -/
theorem m1u {d : Nat} {op : Op} {ty : TypeId} {pos : String} {aft : Array Edge} {j dj : Nat} {b : Bool} (hA : Fits a n s) (hj : (ops[j]?).bind (·.dst) = some dj) (ht : lk s dj = some undef) (hn : Nat.blt dj n = true) (hd : Nat.blt d n = true) (k : ∀ a', Fits a' n ((d, undef) :: s) → wpList P ops Q rest a' w) :
    wpList P ops Q (⟨some d, op, ty, pos, aft, some (j, b)⟩ :: rest) a w := by
  refine wpList_step fun K hK => ?_
  rw [wanted_undef rfl hA hj ht (blt_lt hn), if_neg (by simp)]
  exact hK _ _ (k _ (hA.put (blt_lt hd) undef))
theorem q1u {Q : Act → Prop} {d : Nat} {op : Op} {ty : TypeId} {pos : String} {aft : Array Edge} {j dj : Nat} {b : Bool} (hA : Fits a n s) (hj : (ops[j]?).bind (·.dst) = some dj) (ht : lk s dj = some undef) (hn : Nat.blt dj n = true) (hd : Nat.blt d n = true) (k : ∀ a', Fits a' n ((d, undef) :: s) → wpQuiet P ops C Q rest a') :
    wpQuiet P ops C Q (⟨some d, op, ty, pos, aft, some (j, b)⟩ :: rest) a := by
  refine wpQuiet_step fun K hK => ?_
  rw [wanted_undef rfl hA hj ht (blt_lt hn), if_neg (by simp)]
  exact hK _ (k _ (hA.put (blt_lt hd) undef))
/-- A call whose answer is known and that leaves all as it was, but for what it lays anew. -/
theorem m_callb {d : Nat} {f : FuncId} {xs : List Operand} {ts : Array TypeId} {ty : TypeId} {pos : String} {aft : Array Edge} {vs : List Value} {v : Value} (hA : Fits a n s) (hS : St w B V) (hf : ∀ args w, (callFunc f args).run P w = .ok (.enter f args) w) (hx : evL s xs = some vs) (hd : Nat.blt d n = true)
    (hc : Calls P f vs.toArray w fun e w' => e = .returned v ∧ Gr w w')
    (k : ∀ a' w', Fits a' n ((d, v) :: s) → St w' B V → Gr w w' → wpList P ops Q rest a' w') :
    wpList P ops Q (⟨some d, .call { callee := .value (.func f), args := xs.toArray, argTypes := ts }, ty, pos, aft, none⟩ :: rest) a w :=
  m_call hA hf hx hd (hc.mono fun e w' ⟨h1, h2⟩ => ⟨v, h1, fun a' hA' => k a' w' hA' (hS.gr h2) h2⟩)
theorem m_callbg {d : Nat} {f : FuncId} {xs : List Operand} {ts : Array TypeId} {ty : TypeId} {pos : String} {aft : Array Edge} {vs : List Value} {v : Value} {j dj : Nat} {b t : Bool} (hA : Fits a n s) (hS : St w B V) (hj : (ops[j]?).bind (·.dst) = some dj) (ht : lk s dj = some (.bool t)) (hn : Nat.blt dj n = true) (hb : t = b) (hf : ∀ args w, (callFunc f args).run P w = .ok (.enter f args) w) (hx : evL s xs = some vs) (hd : Nat.blt d n = true)
    (hc : Calls P f vs.toArray w fun e w' => e = .returned v ∧ Gr w w')
    (k : ∀ a' w', Fits a' n ((d, v) :: s) → St w' B V → Gr w w' → wpList P ops Q rest a' w') :
    wpList P ops Q (⟨some d, .call { callee := .value (.func f), args := xs.toArray, argTypes := ts }, ty, pos, aft, some (j, b)⟩ :: rest) a w :=
  m_callg hA hj ht hn hb hf hx hd (hc.mono fun e w' ⟨h1, h2⟩ => ⟨v, h1, fun a' hA' => k a' w' hA' (hS.gr h2) h2⟩)
end

/-! ### Rows of one's own -/
/-- The value v is a row of n elements with the cells xs, in boxes of its own; nil has none. -/
def RowB (e k : Nat) (v : Value) (n : Nat) (xs : List Value) (bs : List Bx) : Prop :=
  xs.length = n * k ∧ ((v = .slice none 0 0 ∧ n = 0 ∧ bs = []) ∨
    ∃ g cap cur, v = .slice (some ⟨g, 0, none⟩) n cap ∧ bs = [cB g cur e] ∧ n ≤ cap ∧ cap ≤ maxLen ∧ cur.length = cap * k ∧ cur.take (n * k) = xs)
theorem RowB.nil (e k : Nat) : RowB e k (.slice none 0 0) 0 [] [] := ⟨by simp, .inl ⟨rfl, rfl, rfl⟩⟩
theorem RowB.owns {e k : Nat} {v : Value} {n : Nat} {xs : List Value} {bs B : List Bx} {w : World} {V : List (Nat × World)} (h : RowB e k v n xs bs) (hS : St w (bs ++ B) V) : w.ownsRow 0 e k v n xs := by
  refine ⟨h.1, ?_⟩
  rcases h.2 with ⟨h1, h2, _⟩ | ⟨g, cap, cur, h1, h2, h3, h4, h5, h6⟩
  · exact .inl ⟨h1, h2⟩
  · subst h2
    exact .inr ⟨g, cap, cur.toArray, h1, Nat.zero_le _, hS.bx (cB g cur e) (by simp), h3, h4, by simpa using h5, by simpa using h6⟩
/-- The world has grown beside one's own row, of which only the new contents are known. -/
theorem St.rowed {e k : Nat} {v v' : Value} {n n' : Nat} {xs xs' : List Value} {bs B : List Bx} {w w' : World} {V : List (Nat × World)} (h : RowB e k v n xs bs) (hS : St w (bs ++ B) V) (ho : w'.ownsRow 0 e k v' n' xs') (hg : w.grownBy w' v.ownBlock) (hat : v'.ownBlock = v.ownBlock ∨ v'.ownBlock = some w.heap.size) :
    ∃ bs', RowB e k v' n' xs' bs' ∧ St w' (bs' ++ B) V := by
  have hrow : ∀ b, (∃ x ∈ B, x.b = b) → some b ≠ v.ownBlock := fun b ⟨x, hx, e'⟩ he => by
    rcases h.2 with ⟨h1, _⟩ | ⟨g, cap, cur, h1, h2, _⟩
    · subst h1; simp [Value.ownBlock] at he
    · subst h1; subst h2
      simp only [Value.ownBlock, Option.some.injEq] at he
      have := (List.pairwise_cons.1 hS.nd).1 x hx
      exact this (by simp [← he, e'])
  have hview : ∀ p ∈ V, ∀ b, p.1 ≤ b → b < p.2.heap.size → some b ≠ v.ownBlock := fun p hp b hl hb he => by
    rcases h.2 with ⟨h1, _⟩ | ⟨g, cap, cur, h1, h2, _⟩
    · subst h1; simp [Value.ownBlock] at he
    · subst h1; subst h2
      simp only [Value.ownBlock, Option.some.injEq] at he
      have := (hS.vs p hp).2.2.2.2.2 (cB g cur e) (by simp)
      simp only at this
      omega
  have hB : St w' B V := by
    have h0 : St w B V := hS.goneL
    refine ⟨fun x hx => ?_, h0.nd, fun p hp => ?_⟩
    · rw [hg.block _ (h0.lt hx) (hrow _ ⟨x, hx, rfl⟩)]
      exact h0.bx x hx
    · obtain ⟨h1, h2, h3, h4, h5, h6⟩ := h0.vs p hp
      exact ⟨h1.trans hg.os.symm, h2.trans hg.tape.symm, h3.trans hg.output.symm, Nat.le_trans h4 hg.size, fun b hl hb => (hg.block b (by omega) (hview p hp b hl hb)).trans (h5 b hl hb), h6⟩
  rcases ho.2 with ⟨h1, h2⟩ | ⟨g, cap, cur, h1, h2, h3, h4, h5, h6, h7⟩
  · exact ⟨[], ⟨ho.1, .inl ⟨h1, h2, rfl⟩⟩, hB⟩
  · refine ⟨[cB g cur.toList e], ⟨ho.1, .inr ⟨g, cap, cur.toList, h1, rfl, h4, h5, by simpa using h6, h7⟩⟩, ?_⟩
    subst h1
    have hgB : ∀ x ∈ B, g ≠ x.b := fun x hx he => by
      rcases hat with hat | hat
      · exact hrow x.b ⟨x, hx, rfl⟩ (by rw [← hat]; simp [Value.ownBlock, he])
      · simp only [Value.ownBlock, Option.some.injEq] at hat
        have := hS.lt (List.mem_append_right bs hx)
        omega
    refine ⟨fun x hx => ?_, List.pairwise_cons.2 ⟨hgB, hB.nd⟩, fun p hp => ?_⟩
    · rcases List.mem_cons.1 hx with rfl | hx
      · simpa using h3
      · exact hB.bx x hx
    · obtain ⟨e1, e2, e3, e4, e5, e6⟩ := hB.vs p hp
      refine ⟨e1, e2, e3, e4, e5, fun x hx => ?_⟩
      rcases List.mem_cons.1 hx with rfl | hx
      · simp only
        by_cases hc : g < p.1 ∨ p.2.heap.size ≤ g
        · exact hc
        · exfalso
          rcases hat with hat | hat
          · exact hview p hp g (by omega) (by omega) (by rw [← hat]; rfl)
          · simp only [Value.ownBlock, Option.some.injEq] at hat
            have := ((hS.goneL).vs p hp).2.2.2.1
            omega
      · exact e6 x hx
def elemOk (P : Program) (e k bytes : Nat) : Bool :=
  match P.info? e with
  | some i => (match i.zero with | some z => i.size == k && z.cells.size == k && i.bytes == bytes && Nat.blt 0 k | none => false)
  | none => false
theorem elemOk_spec {P : Program} {e k bytes : Nat} (h : elemOk P e k bytes = true) : ∃ i z, P.info? e = some i ∧ i.zero = some z ∧ i.size = k ∧ z.cells.size = k ∧ i.bytes = bytes ∧ 0 < k := by
  unfold elemOk at h
  cases hi : P.info? e with
  | none => rw [hi] at h; cases h
  | some i =>
    rw [hi] at h
    cases hz : i.zero with
    | none => simp [hz] at h
    | some z =>
      simp only [hz, Bool.and_eq_true, beq_iff_eq] at h
      exact ⟨i, z, rfl, hz, h.1.1.1, h.1.1.2, h.1.2, blt_lt h.2⟩
theorem m_append {P : Program} {n' : Nat} {s : List (Nat × Value)} {ops : Array Oper} {rest : List Oper} {Q : Exit → Act → World → Prop} {a : Act} {w : World} {bs B : List Bx} {V : List (Nat × World)} {d : Nat} {t ty : TypeId} {x y : Operand} {pos : String} {aft : Array Edge} {v : Value} {n m c k : Nat} {xs : List Value} {A : Addr}
    (e : TypeId) (bytes : Nat) (news : List Value) (hE : elemOk P e k bytes = true) (hA : Fits a n' s) (hS : St w (bs ++ B) V) (hR : RowB e k v n xs bs) (hx : ev s x = some v) (hy : ev s y = some (.slice (some A) m c)) (hd : Nat.blt d n' = true)
    (ht : P.underlying t = some (.slice e)) (hl : news.length = m * k) (hnews : ∀ j u, news[j]? = some u → w.cell? (A.add j) = some u) (h1 : ∀ u ∈ news, u.oneCell' = true) (h63 : n + m ≤ 1000000) (hbytes : bytes ≤ 1000)
    (kk : ∀ a' w' v' bs', Fits a' n' ((d, v') :: s) → RowB e k v' (n + m) (xs ++ news) bs' → (v' = .slice none 0 0 ↔ v = .slice none 0 0 ∧ m = 0) → St w' (bs' ++ B) V → wpList P ops Q rest a' w') :
    wpList P ops Q (⟨some d, .call { callee := .builtin .append, args := #[x, y], argTypes := #[t, t] }, ty, pos, aft, none⟩ :: rest) a w := by
  refine wpList_plain rfl fun K hK => ?_
  obtain ⟨i, z, hi, hz, hsize, hzs, hb, hk⟩ := elemOk_spec hE
  have hbytes' : (n + m) * bytes ≤ 140737488355328 := Nat.le_trans (Nat.mul_le_mul h63 hbytes) (by decide)
  obtain ⟨v', w', hr, ho, hg, hn, hat⟩ := run_append_own_at (P := P) w 0 t ty e i z k bytes ht hi hz hsize hb hzs hk v n xs (hR.owns hS) A m c news hl hnews h1 (by simp only [maxLen]; omega) hbytes' (Nat.zero_le _)
  obtain ⟨bs', hR', hS'⟩ := hS.rowed hR ho hg hat
  have hr' : (execOp a.eval ⟨some d, .call { callee := .builtin .append, args := #[x, y], argTypes := #[t, t] }, ty, pos, aft, none⟩).run P w = .ok (.value v') w' := by
    simp [execOp, resolve, invoke, builtin, hA.ev hx, hA.ev hy, hr]
  unfold Oper.wp
  rw [hr']
  exact hK _ _ (kk _ _ _ _ (hA.put (blt_lt hd) v') hR' hn hS')
end Go.Proofs.YtljkhijdaaconaaGreat
