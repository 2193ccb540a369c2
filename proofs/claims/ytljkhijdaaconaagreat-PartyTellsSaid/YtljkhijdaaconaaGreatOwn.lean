/- Halls in memory of one's own. -/
import Derived.Test.YtljkhijdaaconaaGreatSm
import Derived.Test.YtljkhijdaaconaaGreatData
set_option linter.unusedVariables false
set_option linter.unusedSectionVars false
namespace Go.Proofs.YtljkhijdaaconaaGreat
open Go.RowKit

/-! ### New boxes -/
/-- These boxes lie in w, from base on, apart from each other. -/
structure Fresh (base : Nat) (w : World) (bs : List Bx) : Prop where
  bx : ∀ x ∈ bs, w.heap[x.b]? = some x.o
  nd : bs.Pairwise (fun x y => x.b ≠ y.b)
  ge : ∀ x ∈ bs, base ≤ x.b
theorem St.fresh {w w' : World} {B bs : List Bx} {V : List (Nat × World)} (h : St w B V) (hg : Gr w w') (hf : Fresh w.heap.size w' bs) : St w' (bs ++ B) V where
  bx := fun x hx => by
    rcases List.mem_append.1 hx with hx | hx
    · exact hf.bx x hx
    · exact (h.gr hg).bx x hx
  nd := List.pairwise_append.2 ⟨hf.nd, h.nd, fun x hx y hy => by have := hf.ge x hx; have := h.lt hy; omega⟩
  vs := fun p hp => by
    obtain ⟨h1, h2, h3, h4, h5, h6⟩ := (h.gr hg).vs p hp
    refine ⟨h1, h2, h3, h4, h5, fun x hx => ?_⟩
    rcases List.mem_append.1 hx with hx | hx
    · have h7 := hf.ge x hx
      have h8 := (h.vs p hp).2.2.2.1
      omega
    · exact h6 x hx
theorem St.freshR {w w' : World} {B bs : List Bx} {V : List (Nat × World)} (h : St w B V) (hg : Gr w w') (hf : Fresh w.heap.size w' bs) : St w' (B ++ bs) V := (h.fresh hg hf).perm List.perm_append_comm
/-- What a callee has laid, seen from outside. -/
theorem St.out {w0 w : World} {bs B : List Bx} {V : List (Nat × World)} (h : St w (bs ++ B) V) (hv : (0, w0) ∈ V) : Fresh w0.heap.size w bs :=
  ⟨fun x hx => h.bx x (List.mem_append_left _ hx), (List.pairwise_append.1 h.nd).1, fun x hx => h.ge hv (List.mem_append_left _ hx)⟩
theorem St.outR {w0 w : World} {X bs : List Bx} {V : List (Nat × World)} (h : St w (X ++ bs) V) (hv : (0, w0) ∈ V) : Fresh w0.heap.size w bs := (h.perm List.perm_append_comm).out hv
theorem Fresh.tail {base : Nat} {w : World} {x : Bx} {bs : List Bx} (h : Fresh base w (x :: bs)) : Fresh base w bs := ⟨fun y hy => h.bx y (List.mem_cons_of_mem _ hy), (List.pairwise_cons.1 h.nd).2, fun y hy => h.ge y (List.mem_cons_of_mem _ hy)⟩
theorem Fresh.left {base : Nat} {w : World} {b1 b2 : List Bx} (h : Fresh base w (b1 ++ b2)) : Fresh base w b1 := ⟨fun x hx => h.bx x (List.mem_append_left _ hx), (List.pairwise_append.1 h.nd).1, fun x hx => h.ge x (List.mem_append_left _ hx)⟩
theorem Fresh.right {base : Nat} {w : World} {b1 b2 : List Bx} (h : Fresh base w (b1 ++ b2)) : Fresh base w b2 := ⟨fun x hx => h.bx x (List.mem_append_right _ hx), (List.pairwise_append.1 h.nd).2.1, fun x hx => h.ge x (List.mem_append_right _ hx)⟩

theorem RowB.empty (e k b : Nat) : RowB e k (.slice (some ⟨b, 0, none⟩) 0 0) 0 [] [cB b [] e] := ⟨by simp, .inr ⟨b, 0, [], rfl, rfl, Nat.le_refl _, Nat.zero_le _, by simp, by simp⟩⟩
theorem RowB.shape {e k : Nat} {v : Value} {n : Nat} {xs : List Value} {bs : List Bx} (h : RowB e k v n xs bs) : ∃ A c, v = .slice A n c := by
  rcases h.2 with ⟨rfl, rfl, rfl⟩ | ⟨g, cap, cur, rfl, _⟩
  · exact ⟨_, _, rfl⟩
  · exact ⟨_, _, rfl⟩
/-! ### The data -/
def cInv (i : Inv) : List Value := [.int .i64 i.who, .int .i64 i.til]
abbrev IntsB (v : Value) (xs : List Int) (bs : List Bx) : Prop := RowB 3 1 v xs.length (xs.map (Value.int .i64)) bs
abbrev InvsB (v : Value) (xs : List Inv) (bs : List Bx) : Prop := RowB 61 2 v xs.length (xs.flatMap cInv) bs
def PtyB (c : List Value) (p : Pty) (bs : List Bx) : Prop :=
  ∃ mv iv bm bi, c = [.int .i64 p.id, .int .i64 p.leader, mv, iv] ∧ IntsB mv p.mem bm ∧ InvsB iv p.inv bi ∧ bs = bm ++ bi ∧ p.mem.length ≤ 100 ∧ p.inv.length ≤ 100
def PtysB : List Value → List Pty → List Bx → Prop
  | cs, [], bs => cs = [] ∧ bs = []
  | cs, p :: ps, bs => ∃ c cs' b1 b2, cs = c ++ cs' ∧ bs = b1 ++ b2 ∧ PtyB c p b1 ∧ PtysB cs' ps b2
def HallB (pv : Value) (ps : List Pty) (bs : List Bx) : Prop :=
  ∃ cs b1 b2, RowB 46 4 pv ps.length cs b1 ∧ PtysB cs ps b2 ∧ bs = b1 ++ b2 ∧ ps.length ≤ 100
/-- The cells of a row of parties that is read. -/
def PtysC (lo : Nat) (w : World) : List Value → List Pty → Prop
  | cs, [] => cs = []
  | cs, p :: ps => ∃ M m mc I i ic cs', cs = [.int .i64 p.id, .int .i64 p.leader, .slice M m mc, .slice I i ic] ++ cs' ∧ PtyInL lo w M m I i p ∧ PtysC lo w cs' ps

theorem PtyB.len {c : List Value} {p : Pty} {bs : List Bx} (h : PtyB c p bs) : c.length = 4 := by
  obtain ⟨mv, iv, bm, bi, rfl, _⟩ := h; rfl
theorem PtyB.one {c : List Value} {p : Pty} {bs : List Bx} (h : PtyB c p bs) : ∀ u ∈ c, u.oneCell' = true := by
  obtain ⟨mv, iv, bm, bi, rfl, h1, h2, _⟩ := h
  obtain ⟨A, c, rfl⟩ := h1.shape
  obtain ⟨A', c', rfl⟩ := h2.shape
  intro u hu
  simp at hu
  rcases hu with rfl | rfl | rfl | rfl <;> rfl
theorem PtysB.len : ∀ {ps : List Pty} {cs : List Value} {bs : List Bx}, PtysB cs ps bs → cs.length = ps.length * 4
  | [], cs, bs, h => by rw [h.1]; rfl
  | p :: ps, cs, bs, h => by
    obtain ⟨c, cs', b1, b2, rfl, rfl, h1, h2⟩ := h
    rw [List.length_append, h1.len, PtysB.len h2, List.length_cons]; omega
theorem PtysC.len {lo : Nat} {w : World} : ∀ {ps : List Pty} {cs : List Value}, PtysC lo w cs ps → cs.length = ps.length * 4
  | [], cs, h => by rw [show cs = [] from h]; rfl
  | p :: ps, cs, h => by
    obtain ⟨M, m, mc, I, i, ic, cs', rfl, _, h2⟩ := h
    rw [List.length_append, PtysC.len h2, List.length_cons]; simp; omega
theorem PtysC.ov {lo : Nat} {v w : World} (ho : Ov lo v w) : ∀ {ps : List Pty} {cs : List Value}, PtysC lo v cs ps → PtysC lo w cs ps
  | [], cs, h => h
  | p :: ps, cs, h => by
    obtain ⟨M, m, mc, I, i, ic, cs', e, h1, h2⟩ := h
    exact ⟨M, m, mc, I, i, ic, cs', e, h1.ov ho, PtysC.ov ho h2⟩
theorem PtysB.app : ∀ {l r : List Pty} {cl cr : List Value} {bl br : List Bx}, PtysB cl l bl → PtysB cr r br → PtysB (cl ++ cr) (l ++ r) (bl ++ br)
  | [], r, cl, cr, bl, br, hl, hr => by obtain ⟨rfl, rfl⟩ := hl; simpa using hr
  | p :: l, r, cl, cr, bl, br, hl, hr => by
    obtain ⟨c, cs', b1, b2, rfl, rfl, h1, h2⟩ := hl
    exact ⟨c, cs' ++ cr, b1, b2 ++ br, by simp, by simp, h1, PtysB.app h2 hr⟩
theorem PtysB.split : ∀ {l r : List Pty} {cs : List Value} {bs : List Bx}, PtysB cs (l ++ r) bs → ∃ cl cr bl br, cs = cl ++ cr ∧ bs = bl ++ br ∧ PtysB cl l bl ∧ PtysB cr r br
  | [], r, cs, bs, h => ⟨[], cs, [], bs, rfl, rfl, ⟨rfl, rfl⟩, h⟩
  | p :: l, r, cs, bs, h => by
    obtain ⟨c, cs', b1, b2, rfl, rfl, h1, h2⟩ := h
    obtain ⟨cl, cr, bl, br, rfl, rfl, h3, h4⟩ := PtysB.split h2
    exact ⟨c ++ cl, cr, b1 ++ bl, br, by simp, by simp, ⟨c, cl, b1, bl, rfl, rfl, h1, h3⟩, h4⟩
/-- The k-th party of a row, and what lies around it. -/
theorem PtysB.focus {ps : List Pty} {cs : List Value} {bs : List Bx} (h : PtysB cs ps bs) {k : Nat} {p : Pty} (hp : ps[k]? = some p) :
    ∃ cl c cr bl b br, cs = cl ++ (c ++ cr) ∧ bs = bl ++ (b ++ br) ∧ PtysB cl (ps.take k) bl ∧ PtyB c p b ∧ PtysB cr (ps.drop (k + 1)) br ∧ cl.length = k * 4 := by
  have hk : k < ps.length := (List.getElem?_eq_some_iff.1 hp).1
  have e : ps = ps.take k ++ (p :: ps.drop (k + 1)) := by
    rw [← drop_at hp, List.take_append_drop]
  rw [e] at h
  obtain ⟨cl, cr, bl, br, rfl, rfl, h1, c, cr', b, br', rfl, rfl, h2, h3⟩ := PtysB.split h
  refine ⟨cl, c, cr', bl, b, br', rfl, rfl, h1, h2, h3, ?_⟩
  rw [h1.len, List.length_take]; omega
theorem PtysB.unfocus {ps : List Pty} {cl c cr : List Value} {bl b br : List Bx} {k : Nat} {p : Pty} (hk : k < ps.length) (h1 : PtysB cl (ps.take k) bl) (h2 : PtyB c p b) (h3 : PtysB cr (ps.drop (k + 1)) br) : PtysB (cl ++ (c ++ cr)) (ps.set k p) (bl ++ (b ++ br)) := by
  rw [List.set_eq_take_append_cons_drop, if_pos hk]
  exact h1.app ⟨c, cr, b, br, rfl, rfl, h2, h3⟩

/-! ### What one owns is read -/
theorem flat_len {α : Type} {f : α → List Value} {k : Nat} (hf : ∀ x, (f x).length = k) : ∀ xs : List α, (xs.flatMap f).length = xs.length * k
  | [] => by simp
  | x :: xs => by rw [List.flatMap_cons, List.length_append, hf, flat_len hf xs, List.length_cons, Nat.succ_mul]; omega
theorem flat_get {α : Type} {f : α → List Value} {k : Nat} (hf : ∀ x, (f x).length = k) : ∀ {xs : List α} {j : Nat} {x : α}, xs[j]? = some x → ∀ r, r < k → (xs.flatMap f)[j * k + r]? = (f x)[r]?
  | [], j, x, h, r, hr => by simp at h
  | y :: ys, 0, x, h, r, hr => by
    simp at h; subst h
    rw [List.flatMap_cons, List.getElem?_append_left (by rw [hf]; omega)]
    simp
  | y :: ys, j + 1, x, h, r, hr => by
    rw [List.flatMap_cons, List.getElem?_append_right (by rw [hf, Nat.succ_mul]; omega), hf]
    rw [show (j + 1) * k + r - k = j * k + r from by rw [Nat.succ_mul]; omega]
    exact flat_get hf (by simpa using h) r hr
theorem flat_inv {α : Type} {f : α → List Value} {k : Nat} (hf : ∀ x, (f x).length = k) : ∀ {xs : List α} {j : Nat} {u : Value}, (xs.flatMap f)[j]? = some u → ∃ q x r, xs[q]? = some x ∧ r < k ∧ j = q * k + r ∧ (f x)[r]? = some u
  | [], j, u, h => by simp at h
  | y :: ys, j, u, h => by
    rw [List.flatMap_cons] at h
    by_cases hj : j < k
    · rw [List.getElem?_append_left (by rw [hf]; omega)] at h
      exact ⟨0, y, j, rfl, hj, by omega, h⟩
    · rw [List.getElem?_append_right (by rw [hf]; omega), hf] at h
      obtain ⟨q, x, r, h1, h2, h3, h4⟩ := flat_inv hf h
      exact ⟨q + 1, x, r, by simpa using h1, h2, by rw [Nat.succ_mul]; omega, h4⟩
theorem RowB.cell {e k : Nat} {v : Value} {n : Nat} {xs : List Value} {bs : List Bx} {base : Nat} {w : World} (h : RowB e k v n xs bs) (hf : Fresh base w bs) :
    (∃ A c, v = .slice A n c) ∧ ∀ j u, xs[j]? = some u → ∃ g c, v = .slice (some ⟨g, 0, none⟩) n c ∧ base ≤ g ∧ w.cell? ⟨g, j, none⟩ = some u := by
  rcases h.2 with ⟨rfl, rfl, rfl⟩ | ⟨g, cap, cur, rfl, rfl, h3, h4, h5, h6⟩
  · have : xs = [] := List.eq_nil_of_length_eq_zero (by simpa using h.1)
    subst this
    exact ⟨⟨none, 0, rfl⟩, fun j u hj => by simp at hj⟩
  · refine ⟨⟨some ⟨g, 0, none⟩, cap, rfl⟩, fun j u hj => ⟨g, cap, rfl, hf.ge (cB g cur e) (by simp), ?_⟩⟩
    have hb := hf.bx (cB g cur e) (by simp)
    rw [← h6, List.getElem?_take] at hj
    split at hj
    · simp [World.cell?, hb, hj]
    · cases hj
theorem IntsB.read {v : Value} {xs : List Int} {bs : List Bx} {base : Nat} {w : World} (h : IntsB v xs bs) (hf : Fresh base w bs) (hle : xs.length ≤ 100) : ∃ A c, v = .slice A xs.length c ∧ IntsL base w A xs.length xs := by
  obtain ⟨⟨A, c, rfl⟩, h2⟩ := RowB.cell h hf
  refine ⟨A, c, rfl, rfl, by omega, fun j x hj => ?_⟩
  obtain ⟨g, c', e, hb, hc⟩ := h2 j (.int .i64 x) (by simp [hj])
  cases e
  exact ⟨g, 0, rfl, hb, by simpa using hc⟩
theorem InvsB.read {v : Value} {xs : List Inv} {bs : List Bx} {base : Nat} {w : World} (h : InvsB v xs bs) (hf : Fresh base w bs) (hle : xs.length ≤ 100) : ∃ A c, v = .slice A xs.length c ∧ InvsL base w A xs.length xs := by
  obtain ⟨⟨A, c, rfl⟩, h2⟩ := RowB.cell h hf
  refine ⟨A, c, rfl, rfl, by omega, fun j x hj => ?_⟩
  have f0 := flat_get (f := cInv) (k := 2) (fun _ => rfl) hj 0 (by omega)
  have f1 := flat_get (f := cInv) (k := 2) (fun _ => rfl) hj 1 (by omega)
  obtain ⟨g, c', e, hb, hc⟩ := h2 _ _ f0
  obtain ⟨g', c'', e', hb', hc'⟩ := h2 _ _ f1
  cases e
  cases e'
  exact ⟨g, 0, rfl, hb, by simpa using hc, by simpa using hc'⟩
theorem PtyB.read {c : List Value} {p : Pty} {bs : List Bx} {base : Nat} {w : World} (h : PtyB c p bs) (hf : Fresh base w bs) : ∃ M mc I ic, c = [.int .i64 p.id, .int .i64 p.leader, .slice M p.mem.length mc, .slice I p.inv.length ic] ∧ PtyInL base w M p.mem.length I p.inv.length p := by
  obtain ⟨mv, iv, bm, bi, rfl, h1, h2, rfl, h3, h4⟩ := h
  obtain ⟨M, mc, rfl, h5⟩ := h1.read hf.left h3
  obtain ⟨I, ic, rfl, h6⟩ := h2.read hf.right h4
  exact ⟨M, mc, I, ic, rfl, h5, h6⟩
theorem PtysB.read {base : Nat} {w : World} : ∀ {ps : List Pty} {cs : List Value} {bs : List Bx}, PtysB cs ps bs → Fresh base w bs → PtysC base w cs ps
  | [], cs, bs, h, hf => h.1
  | p :: ps, cs, bs, h, hf => by
    obtain ⟨c, cs', b1, b2, rfl, rfl, h1, h2⟩ := h
    obtain ⟨M, mc, I, ic, rfl, h3⟩ := h1.read hf.left
    exact ⟨M, _, mc, I, _, ic, cs', rfl, h3, PtysB.read h2 hf.right⟩
theorem PtysC.at {lo : Nat} {w : World} : ∀ {ps : List Pty} {cs : List Value}, PtysC lo w cs ps → ∀ {j : Nat} {p : Pty}, ps[j]? = some p → ∃ M m mc I i ic, cs[j * 4]? = some (.int .i64 p.id) ∧ cs[j * 4 + 1]? = some (.int .i64 p.leader) ∧ cs[j * 4 + 2]? = some (.slice M m mc) ∧ cs[j * 4 + 3]? = some (.slice I i ic) ∧ PtyInL lo w M m I i p
  | [], cs, h, j, p, hj => by simp at hj
  | q :: ps, cs, h, 0, p, hj => by
    obtain ⟨M, m, mc, I, i, ic, cs', rfl, h1, h2⟩ := h
    simp at hj; subst hj
    exact ⟨M, m, mc, I, i, ic, rfl, rfl, rfl, rfl, h1⟩
  | q :: ps, cs, h, j + 1, p, hj => by
    obtain ⟨M, m, mc, I, i, ic, cs', rfl, h1, h2⟩ := h
    obtain ⟨M, m, mc, I, i, ic, e0, e1, e2, e3, e4⟩ := PtysC.at h2 (j := j) (p := p) (by simpa using hj)
    have sh : ∀ r, ([Value.int .i64 q.id, .int .i64 q.leader, .slice M m mc, .slice I i ic] ++ cs')[(j + 1) * 4 + r]? = cs'[j * 4 + r]? := fun r => by
      rw [List.getElem?_append_right (by simp; omega)]
      congr 1
      simp; omega
    refine ⟨M, m, mc, I, i, ic, ?_, ?_, ?_, ?_, e4⟩
    · rw [← e0]; rw [List.getElem?_append_right (by simp; omega)]; congr 1; simp; omega
    · rw [← e1]; rw [List.getElem?_append_right (by simp; omega)]; congr 1; simp; omega
    · rw [← e2]; rw [List.getElem?_append_right (by simp; omega)]; congr 1; simp; omega
    · rw [← e3]; rw [List.getElem?_append_right (by simp; omega)]; congr 1; simp; omega
theorem HallB.read {pv : Value} {ps : List Pty} {bs : List Bx} {base : Nat} {w : World} (h : HallB pv ps bs) (hf : Fresh base w bs) : ∃ A c, pv = .slice A ps.length c ∧ PtysL base w A ps.length ps := by
  obtain ⟨cs, b1, b2, h1, h2, rfl, h3⟩ := h
  obtain ⟨⟨A, c, rfl⟩, h5⟩ := RowB.cell h1 hf.left
  have h6 := h2.read hf.right
  refine ⟨A, c, rfl, rfl, by omega, fun j p hj => ?_⟩
  obtain ⟨M, m, mc, I, i, ic, e0, e1, e2, e3, e4⟩ := h6.at hj
  obtain ⟨g, c', e, hb, hc⟩ := h5 _ _ e0
  obtain ⟨g1, _, e', _, hc1⟩ := h5 _ _ e1
  obtain ⟨g2, _, e'', _, hc2⟩ := h5 _ _ e2
  obtain ⟨g3, _, e''', _, hc3⟩ := h5 _ _ e3
  cases e
  cases e'
  cases e''
  cases e'''
  refine ⟨g, 0, rfl, M, m, mc, I, i, ic, hb, ?_, ?_, ?_, ?_, e4⟩ <;> simpa [Nat.add_assoc]

/-! ### The cells of what is read -/
theorem IntsL.news {lo : Nat} {w : World} {A : Addr} {n : Nat} {xs : List Int} (h : IntsL lo w (some A) n xs) : ∀ j u, (xs.map (Value.int .i64))[j]? = some u → w.cell? (A.add j) = some u := fun j u hj => by
  rw [List.getElem?_map] at hj
  cases hx : xs[j]? with
  | none => rw [hx] at hj; cases hj
  | some x =>
    rw [hx] at hj; cases hj
    obtain ⟨b, o, e, h1, h2⟩ := h.2.2 j x hx
    cases e
    have ha : (⟨b, o, none⟩ : Addr).add j = ⟨b, o + j, none⟩ := by unfold Addr.add; split <;> simp_all
    rw [ha]; simpa using h2
theorem InvsL.news {lo : Nat} {w : World} {A : Addr} {n : Nat} {xs : List Inv} (h : InvsL lo w (some A) n xs) : ∀ j u, (xs.flatMap cInv)[j]? = some u → w.cell? (A.add j) = some u := fun j u hj => by
  obtain ⟨q, x, r, h1, h2, rfl, h4⟩ := flat_inv (f := cInv) (k := 2) (fun _ => rfl) hj
  obtain ⟨b, o, e, h5, h6, h7⟩ := h.2.2 q x h1
  cases e
  have ha : (⟨b, o, none⟩ : Addr).add (q * 2 + r) = ⟨b, o + (q * 2 + r), none⟩ := by unfold Addr.add; split <;> simp_all
  rw [ha]
  match r, h2 with
  | 0, _ => simp [cInv] at h4; subst h4; exact h6
  | 1, _ => simp [cInv] at h4; subst h4; exact h7
theorem PtysL.cells' {lo : Nat} {w : World} {b : Nat} : ∀ {xs : List Pty} {o : Nat}, (∀ j x, xs[j]? = some x → elPtyL lo w x b (o + j * 4)) → ∃ cs, PtysC lo w cs xs ∧ ∀ j u, cs[j]? = some u → w.cell? ⟨b, o + j, none⟩ = some u
  | [], o, h => ⟨[], rfl, fun j u hj => by simp at hj⟩
  | x :: xs, o, h => by
    obtain ⟨M, m, mc, I, i, ic, hb, h0, h1, h2, h3, h4⟩ := h 0 x rfl
    obtain ⟨cs, hc, hr⟩ := PtysL.cells' (xs := xs) (o := o + 4) (fun j y hj => by
      have := h (j + 1) y (by simpa using hj)
      rwa [show o + 4 + j * 4 = o + (j + 1) * 4 from by omega])
    refine ⟨_, ⟨M, m, mc, I, i, ic, cs, rfl, h4, hc⟩, fun j u hj => ?_⟩
    match j with
    | 0 => simp at hj; subst hj; simpa using h0
    | 1 => simp at hj; subst hj; simpa using h1
    | 2 => simp at hj; subst hj; simpa using h2
    | 3 => simp at hj; subst hj; simpa using h3
    | j + 4 =>
      have hj' : cs[j]? = some u := by simpa using hj
      have := hr j u hj'
      rwa [show o + 4 + j = o + (j + 4) from by omega] at this
theorem PtysL.cells {lo : Nat} {w : World} {b o n : Nat} {xs : List Pty} (h : PtysL lo w (some ⟨b, o, none⟩) n xs) : ∃ cs, PtysC lo w cs xs ∧ ∀ j u, cs[j]? = some u → w.cell? ⟨b, o + j, none⟩ = some u :=
  PtysL.cells' fun j x hj => by
    obtain ⟨b', o', e, h'⟩ := h.2.2 j x hj
    cases e
    exact h'
end Go.Proofs.YtljkhijdaaconaaGreat
