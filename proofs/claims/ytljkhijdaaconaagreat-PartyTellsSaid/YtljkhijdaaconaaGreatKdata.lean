/- Halls in memory whose blocks are told by a predicate. -/
import Derived.Test.YtljkhijdaaconaaGreatGiven
import Derived.Test.YtljkhijdaaconaaGreatLaws
set_option linter.unusedVariables false
set_option linter.unusedSectionVars false
namespace Go.Proofs.YtljkhijdaaconaaGreat
open Go.RowKit

/-- What lies in blocks of which K is true has stayed. -/
def Keeps (K : Nat → Prop) (v w : World) : Prop := ∀ b, K b → b < v.heap.size → w.heap[b]? = v.heap[b]?
theorem Keeps.cell {K : Nat → Prop} {v w : World} (h : Keeps K v w) {b o : Nat} {x : Value} (hb : K b) (hc : v.cell? ⟨b, o, none⟩ = some x) : w.cell? ⟨b, o, none⟩ = some x :=
  (World.cell?_of_block (w := v) (h b hb (World.block_lt_of_cell? v _ hc))).trans hc
theorem Gr.keeps {v w : World} (h : Gr v w) (K : Nat → Prop) : Keeps K v w := fun b _ hb => h.block b hb
def elIntK (K : Nat → Prop) (w : World) (x : Int) (b o : Nat) : Prop := K b ∧ w.cell? ⟨b, o, none⟩ = some (.int .i64 x)
abbrev IntsK (K : Nat → Prop) (w : World) (A : Option Addr) (n : Nat) (xs : List Int) : Prop := RowOf 1 (elIntK K) w A n xs
def elInvK (K : Nat → Prop) (w : World) (x : Inv) (b o : Nat) : Prop := K b ∧ w.cell? ⟨b, o, none⟩ = some (.int .i64 x.who) ∧ w.cell? ⟨b, o + 1, none⟩ = some (.int .i64 x.til)
abbrev InvsK (K : Nat → Prop) (w : World) (A : Option Addr) (n : Nat) (xs : List Inv) : Prop := RowOf 2 (elInvK K) w A n xs
structure PtyInK (K : Nat → Prop) (w : World) (M : Option Addr) (m : Nat) (I : Option Addr) (i : Nat) (p : Pty) : Prop where
  mem : IntsK K w M m p.mem
  inv : InvsK K w I i p.inv
def elPtyK (K : Nat → Prop) (w : World) (p : Pty) (b o : Nat) : Prop :=
  ∃ (M : Option Addr) (m mc : Nat) (I : Option Addr) (i ic : Nat), K b ∧ w.cell? ⟨b, o, none⟩ = some (.int .i64 p.id) ∧ w.cell? ⟨b, o + 1, none⟩ = some (.int .i64 p.leader) ∧
    w.cell? ⟨b, o + 2, none⟩ = some (.slice M m mc) ∧ w.cell? ⟨b, o + 3, none⟩ = some (.slice I i ic) ∧ PtyInK K w M m I i p
abbrev PtysK (K : Nat → Prop) (w : World) (A : Option Addr) (n : Nat) (xs : List Pty) : Prop := RowOf 4 (elPtyK K) w A n xs
section
variable {K K' : Nat → Prop} {v w : World}
theorem IntsK.mv {A : Option Addr} {n : Nat} {xs : List Int} (hk : ∀ b, K b → K' b) (ho : Keeps K v w) (h : IntsK K v A n xs) : IntsK K' w A n xs := RowOf.mv (fun x b o h => ⟨hk b h.1, ho.cell h.1 h.2⟩) h
theorem InvsK.mv {A : Option Addr} {n : Nat} {xs : List Inv} (hk : ∀ b, K b → K' b) (ho : Keeps K v w) (h : InvsK K v A n xs) : InvsK K' w A n xs := RowOf.mv (fun x b o h => ⟨hk b h.1, ho.cell h.1 h.2.1, ho.cell h.1 h.2.2⟩) h
theorem PtyInK.mv {M I : Option Addr} {m i : Nat} {p : Pty} (hk : ∀ b, K b → K' b) (ho : Keeps K v w) (h : PtyInK K v M m I i p) : PtyInK K' w M m I i p := ⟨h.mem.mv hk ho, h.inv.mv hk ho⟩
theorem PtysK.mv {A : Option Addr} {n : Nat} {xs : List Pty} (hk : ∀ b, K b → K' b) (ho : Keeps K v w) (h : PtysK K v A n xs) : PtysK K' w A n xs :=
  RowOf.mv (fun p b o h => by
    obtain ⟨M, m, mc, I, i, ic, hb, h0, h1, h2, h3, h4⟩ := h
    exact ⟨M, m, mc, I, i, ic, hk b hb, ho.cell hb h0, ho.cell hb h1, ho.cell hb h2, ho.cell hb h3, h4.mv hk ho⟩) h
theorem Keeps.rf : Keeps K w w := fun _ _ _ => rfl
theorem IntsK.z {A : Option Addr} {n : Nat} {xs : List Int} (h : IntsK K w A n xs) : Ints w A n xs := RowOf.mv (fun x b o h => ⟨Nat.zero_le _, h.2⟩) h
theorem InvsK.z {A : Option Addr} {n : Nat} {xs : List Inv} (h : InvsK K w A n xs) : Invs w A n xs := RowOf.mv (fun x b o h => ⟨Nat.zero_le _, h.2⟩) h
theorem PtyInK.z {M I : Option Addr} {m i : Nat} {p : Pty} (h : PtyInK K w M m I i p) : PtyIn w M m I i p := ⟨h.mem.z, h.inv.z⟩
theorem PtysK.z {A : Option Addr} {n : Nat} {xs : List Pty} (h : PtysK K w A n xs) : Ptys w A n xs :=
  RowOf.mv (fun p b o h => by
    obtain ⟨M, m, mc, I, i, ic, hb, h0, h1, h2, h3, h4⟩ := h
    exact ⟨M, m, mc, I, i, ic, Nat.zero_le _, h0, h1, h2, h3, h4.z⟩) h
theorem IntsL.k {lo : Nat} {A : Option Addr} {n : Nat} {xs : List Int} (h : IntsL lo w A n xs) (hk : ∀ b, lo ≤ b → b < w.heap.size → K b) : IntsK K w A n xs := RowOf.mv (fun x b o h => ⟨hk b h.1 (World.block_lt_of_cell? w _ h.2), h.2⟩) h
theorem InvsL.k {lo : Nat} {A : Option Addr} {n : Nat} {xs : List Inv} (h : InvsL lo w A n xs) (hk : ∀ b, lo ≤ b → b < w.heap.size → K b) : InvsK K w A n xs := RowOf.mv (fun x b o h => ⟨hk b h.1 (World.block_lt_of_cell? w _ h.2.1), h.2⟩) h
theorem PtyInL.k {lo : Nat} {M I : Option Addr} {m i : Nat} {p : Pty} (h : PtyInL lo w M m I i p) (hk : ∀ b, lo ≤ b → b < w.heap.size → K b) : PtyInK K w M m I i p := ⟨h.mem.k hk, h.inv.k hk⟩
theorem PtysL.k {lo : Nat} {A : Option Addr} {n : Nat} {xs : List Pty} (h : PtysL lo w A n xs) (hk : ∀ b, lo ≤ b → b < w.heap.size → K b) : PtysK K w A n xs :=
  RowOf.mv (fun p b o h => by
    obtain ⟨M, m, mc, I, i, ic, hb, h0, h1, h2, h3, h4⟩ := h
    exact ⟨M, m, mc, I, i, ic, hk b hb (World.block_lt_of_cell? w _ h0), h0, h1, h2, h3, h4.k hk⟩) h
theorem PtyInK.none : PtyInK K w Option.none 0 Option.none 0 noPty := ⟨RowOf.nil, RowOf.nil⟩
theorem PtysK.at {A : Option Addr} {n : Nat} {xs : List Pty} (h : PtysK K w A n xs) {j : Nat} (hj : j < n) :
    ∃ b o x M m mc I i ic, A = some ⟨b, o, Option.none⟩ ∧ K b ∧ xs[j]? = some x ∧ w.cell? ⟨b, o + j * 4, Option.none⟩ = some (.int .i64 x.id) ∧ w.cell? ⟨b, o + j * 4 + 1, Option.none⟩ = some (.int .i64 x.leader) ∧
      w.cell? ⟨b, o + j * 4 + 2, Option.none⟩ = some (.slice M m mc) ∧ w.cell? ⟨b, o + j * 4 + 3, Option.none⟩ = some (.slice I i ic) ∧ PtyInK K w M m I i x := by
  obtain ⟨b, o, x, e, hx, M, m, mc, I, i, ic, hb, h0, h1, h2, h3, h4⟩ := RowOf.get h hj
  exact ⟨b, o, x, M, m, mc, I, i, ic, e, hb, hx, h0, h1, h2, h3, h4⟩
/-- The cells of a row. -/
def PtysCK (K : Nat → Prop) (w : World) : List Value → List Pty → Prop
  | cs, [] => cs = []
  | cs, p :: ps => ∃ M m mc I i ic cs', cs = [.int .i64 p.id, .int .i64 p.leader, .slice M m mc, .slice I i ic] ++ cs' ∧ PtyInK K w M m I i p ∧ PtysCK K w cs' ps
theorem PtysCK.len : ∀ {ps : List Pty} {cs : List Value}, PtysCK K w cs ps → cs.length = ps.length * 4
  | [], cs, h => by rw [show cs = [] from h]; rfl
  | p :: ps, cs, h => by
    obtain ⟨M, m, mc, I, i, ic, cs', rfl, _, h2⟩ := h
    rw [List.length_append, PtysCK.len h2, List.length_cons]; simp; omega
theorem PtysCK.mv (hk : ∀ b, K b → K' b) (ho : Keeps K v w) : ∀ {ps : List Pty} {cs : List Value}, PtysCK K v cs ps → PtysCK K' w cs ps
  | [], cs, h => h
  | p :: ps, cs, h => by
    obtain ⟨M, m, mc, I, i, ic, cs', e, h1, h2⟩ := h
    exact ⟨M, m, mc, I, i, ic, cs', e, h1.mv hk ho, PtysCK.mv hk ho h2⟩
theorem PtysCK.one : ∀ {ps : List Pty} {cs : List Value}, PtysCK K w cs ps → ∀ u ∈ cs, u.oneCell' = true
  | [], cs, h, u, hu => by rw [show cs = [] from h] at hu; cases hu
  | p :: ps, cs, h, u, hu => by
    obtain ⟨M, m, mc, I, i, ic, cs', rfl, _, h2⟩ := h
    rcases List.mem_append.1 hu with hu | hu
    · simp at hu
      rcases hu with rfl | rfl | rfl | rfl <;> rfl
    · exact PtysCK.one h2 u hu
theorem PtysCK.app : ∀ {l r : List Pty} {cl cr : List Value}, PtysCK K w cl l → PtysCK K w cr r → PtysCK K w (cl ++ cr) (l ++ r)
  | [], r, cl, cr, hl, hr => by rw [show cl = [] from hl]; exact hr
  | p :: l, r, cl, cr, hl, hr => by
    obtain ⟨M, m, mc, I, i, ic, cs', rfl, h1, h2⟩ := hl
    exact ⟨M, m, mc, I, i, ic, cs' ++ cr, by simp, h1, PtysCK.app h2 hr⟩
theorem PtysCK.split : ∀ {l r : List Pty} {cs : List Value}, PtysCK K w cs (l ++ r) → ∃ cl cr, cs = cl ++ cr ∧ PtysCK K w cl l ∧ PtysCK K w cr r
  | [], r, cs, h => ⟨[], cs, rfl, rfl, h⟩
  | p :: l, r, cs, h => by
    obtain ⟨M, m, mc, I, i, ic, cs', rfl, h1, h2⟩ := h
    obtain ⟨cl, cr, rfl, h3, h4⟩ := PtysCK.split h2
    exact ⟨_, cr, rfl, ⟨M, m, mc, I, i, ic, cl, rfl, h1, h3⟩, h4⟩
theorem PtysK.cells' {b : Nat} : ∀ {xs : List Pty} {o : Nat}, (∀ j x, xs[j]? = some x → elPtyK K w x b (o + j * 4)) → ∃ cs, PtysCK K w cs xs ∧ ∀ j u, cs[j]? = some u → w.cell? ⟨b, o + j, none⟩ = some u
  | [], o, h => ⟨[], rfl, fun j u hj => by simp at hj⟩
  | x :: xs, o, h => by
    obtain ⟨M, m, mc, I, i, ic, hb, h0, h1, h2, h3, h4⟩ := h 0 x rfl
    obtain ⟨cs, hc, hr⟩ := PtysK.cells' (xs := xs) (o := o + 4) (fun j y hj => by
      have := h (j + 1) y (by simpa using hj)
      rwa [show o + 4 + j * 4 = o + (j + 1) * 4 from by omega])
    refine ⟨_, ⟨M, m, mc, I, i, ic, cs, rfl, h4, hc⟩, fun j u hj => ?_⟩
    match j with
    | 0 => simp at hj; subst hj; simpa using h0
    | 1 => simp at hj; subst hj; simpa using h1
    | 2 => simp at hj; subst hj; simpa using h2
    | 3 => simp at hj; subst hj; simpa using h3
    | j + 4 =>
      have hj' : cs[j]? = some u := by simpa using hj
      have := hr j u hj'
      rwa [show o + 4 + j = o + (j + 4) from by omega] at this
theorem PtysK.cells {b o n : Nat} {xs : List Pty} (h : PtysK K w (some ⟨b, o, none⟩) n xs) : ∃ cs, PtysCK K w cs xs ∧ ∀ j u, cs[j]? = some u → w.cell? (((⟨b, o, none⟩ : Addr)).add j) = some u := by
  obtain ⟨cs, h1, h2⟩ := PtysK.cells' (K := K) (w := w) (b := b) (xs := xs) (o := o) fun j x hj => by
    obtain ⟨b', o', e, h'⟩ := h.2.2 j x hj
    cases e
    exact h'
  refine ⟨cs, h1, fun j u hj => ?_⟩
  have ha : (⟨b, o, none⟩ : Addr).add j = ⟨b, o + j, none⟩ := by unfold Addr.add; split <;> simp_all
  rw [ha]; exact h2 j u hj
theorem PtysCK.at : ∀ {ps : List Pty} {cs : List Value}, PtysCK K w cs ps → ∀ {j : Nat} {p : Pty}, ps[j]? = some p → ∃ M m mc I i ic, cs[j * 4]? = some (.int .i64 p.id) ∧ cs[j * 4 + 1]? = some (.int .i64 p.leader) ∧ cs[j * 4 + 2]? = some (.slice M m mc) ∧ cs[j * 4 + 3]? = some (.slice I i ic) ∧ PtyInK K w M m I i p
  | [], cs, h, j, p, hj => by simp at hj
  | q :: ps, cs, h, 0, p, hj => by
    obtain ⟨M, m, mc, I, i, ic, cs', rfl, h1, h2⟩ := h
    simp at hj; subst hj
    exact ⟨M, m, mc, I, i, ic, rfl, rfl, rfl, rfl, h1⟩
  | q :: ps, cs, h, j + 1, p, hj => by
    obtain ⟨M, m, mc, I, i, ic, cs', rfl, h1, h2⟩ := h
    obtain ⟨M, m, mc, I, i, ic, e0, e1, e2, e3, e4⟩ := PtysCK.at h2 (j := j) (p := p) (by simpa using hj)
    refine ⟨M, m, mc, I, i, ic, ?_, ?_, ?_, ?_, e4⟩
    · rw [← e0]; rw [List.getElem?_append_right (by simp; omega)]; congr 1; simp; omega
    · rw [← e1]; rw [List.getElem?_append_right (by simp; omega)]; congr 1; simp; omega
    · rw [← e2]; rw [List.getElem?_append_right (by simp; omega)]; congr 1; simp; omega
    · rw [← e3]; rw [List.getElem?_append_right (by simp; omega)]; congr 1; simp; omega
/-- A row of parties that lies in a block whose first cells are known. -/
theorem PtysCK.row {cs cur : List Value} {ps : List Pty} {b T : Nat} (h : PtysCK K w cs ps) (hb : w.heap[b]? = some (.cells cur.toArray T (0, 0))) (hp : cur.take (ps.length * 4) = cs) (hk : K b) (hle : ps.length ≤ 140737488355328) : PtysK K w (some ⟨b, 0, none⟩) ps.length ps := by
  have hcell : ∀ j u, cs[j]? = some u → w.cell? ⟨b, j, none⟩ = some u := fun j u hj => by
    rw [← hp, List.getElem?_take] at hj
    split at hj
    · simp [World.cell?, hb, hj]
    · cases hj
  refine ⟨rfl, hle, fun j p hj => ?_⟩
  obtain ⟨M, m, mc, I, i, ic, e0, e1, e2, e3, e4⟩ := h.at hj
  exact ⟨b, 0, rfl, M, m, mc, I, i, ic, hk, by simpa using hcell _ _ e0, by simpa [Nat.add_assoc] using hcell _ _ e1, by simpa [Nat.add_assoc] using hcell _ _ e2, by simpa [Nat.add_assoc] using hcell _ _ e3, e4⟩
end
theorem RowB.readI {e : Nat} {v : Value} {xs : List Int} {bs : List Bx} {base : Nat} {w : World} (h : RowB e 1 v xs.length (xs.map (Value.int .i64)) bs) (hf : Fresh base w bs) (hle : xs.length ≤ 100) : ∃ A c, v = .slice A xs.length c ∧ IntsL base w A xs.length xs := by
  obtain ⟨⟨A, c, rfl⟩, h2⟩ := RowB.cell h hf
  refine ⟨A, c, rfl, rfl, by omega, fun j x hj => ?_⟩
  obtain ⟨g, c', e, hb, hc⟩ := h2 j (.int .i64 x) (by simp [hj])
  cases e
  exact ⟨g, 0, rfl, hb, by simpa using hc⟩
theorem PtysK.lt {K : Nat → Prop} {w : World} {A : Option Addr} {n : Nat} {ps : List Pty} (h : PtysK K w A n ps) : PtysK (fun b => K b ∧ b < w.heap.size) w A n ps :=
  RowOf.mv (fun p b o h => by
    obtain ⟨M, m, mc, I, i, ic, hb, h0, h1, h2, h3, h4⟩ := h
    exact ⟨M, m, mc, I, i, ic, ⟨hb, World.block_lt_of_cell? w _ h0⟩, h0, h1, h2, h3, RowOf.mv (fun x b o h => ⟨⟨h.1, World.block_lt_of_cell? w _ h.2⟩, h.2⟩) h4.mem, RowOf.mv (fun x b o h => ⟨⟨h.1, World.block_lt_of_cell? w _ h.2.1⟩, h.2⟩) h4.inv⟩) h
theorem Keeps.cells {K : Nat → Prop} {v w : World} (h : Keeps K v w) {b o : Nat} {cs : List Value} (hb : K b) (hc : Cs v b o cs) : ∀ j x, cs[j]? = some x → w.cell? ((⟨b, o, none⟩ : Addr).add j) = some x := fun j x hj => by
  have ha : (⟨b, o, none⟩ : Addr).add j = ⟨b, o + j, none⟩ := by unfold Addr.add; split <;> simp_all
  rw [ha]; exact h.cell hb (hc.get j x hj)
/-- What lay there at the beginning, and what lies behind a mark. -/
theorem St.keeps2 {w w0 v : World} {B : List Bx} {V : List (Nat × World)} (K : Nat → Prop) {L : Nat} (h : St w B V) (h0 : (0, w0) ∈ V) (hL : (L, v) ∈ V) (hg : Gr w0 v) : Keeps (fun b => (K b ∧ b < w0.heap.size) ∨ L ≤ b) v w := fun b hb hlt => by
  rcases hb with ⟨_, hb⟩ | hb
  · rw [h.at h0 b (Nat.zero_le _) hb, hg.block b hb]
  · exact h.at hL b hb hlt
/-- A hall (of the reference) and what leads to it. -/
def GivesH (r : Hall) (K : Nat → Prop) (w : World) (e : Ending) (w' : World) : Prop :=
  ∃ A n c, e = .returned (.agg #[.int .i64 r.tick, .int .i64 r.last, .slice A n c]) ∧ Gr w w' ∧ PtysK (fun b => K b ∨ w.heap.size ≤ b) w' A n r.ps ∧ n ≤ c
def GivesK (r : Hall × Int) (K : Nat → Prop) (w : World) (e : Ending) (w' : World) : Prop :=
  ∃ A n c, e = .returned (.tuple #[.agg #[.int .i64 r.1.tick, .int .i64 r.1.last, .slice A n c], .int .i64 r.2]) ∧ Gr w w' ∧ PtysK (fun b => K b ∨ w.heap.size ≤ b) w' A n r.1.ps ∧ n ≤ c
/-- What a call in the midst has given, seen from the function's beginning. -/
theorem PtysK.out {K : Nat → Prop} {w0 w w' : World} {A : Option Addr} {n : Nat} {ps : List Pty} (hg : Gr w0 w) (h : PtysK (fun b => K b ∨ w.heap.size ≤ b) w' A n ps) : PtysK (fun b => K b ∨ w0.heap.size ≤ b) w' A n ps :=
  h.mv (fun b hb => hb.imp id (fun hb => Nat.le_trans hg.size hb)) Keeps.rf
end Go.Proofs.YtljkhijdaaconaaGreat
