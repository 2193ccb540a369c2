/- Invitations, parties and halls in memory, as they are read. -/
import Derived.Test.YtljkhijdaaconaaGreatVoc
import Derived.Test.YtljkhijdaaconaaGreatPlain
set_option linter.unusedVariables false
namespace Go.Proofs.YtljkhijdaaconaaGreat
open Go.RowKit

def elInvL (lo : Nat) (w : World) (x : Inv) (b o : Nat) : Prop := lo ≤ b ∧ w.cell? ⟨b, o, none⟩ = some (.int .i64 x.who) ∧ w.cell? ⟨b, o + 1, none⟩ = some (.int .i64 x.til)
abbrev InvsL (lo : Nat) (w : World) (A : Option Addr) (n : Nat) (xs : List Inv) : Prop := RowOf 2 (elInvL lo) w A n xs
abbrev Invs (w : World) (A : Option Addr) (n : Nat) (xs : List Inv) : Prop := InvsL 0 w A n xs
theorem InvsL.ov {lo : Nat} {v w : World} (ho : Ov lo v w) {A : Option Addr} {n : Nat} {xs : List Inv} (h : InvsL lo v A n xs) : InvsL lo w A n xs := RowOf.mv (fun x b o h => ⟨h.1, ho.cell h.1 h.2.1, ho.cell h.1 h.2.2⟩) h
theorem InvsL.lo {lo lo' : Nat} (hl : lo' ≤ lo) {w : World} {A : Option Addr} {n : Nat} {xs : List Inv} (h : InvsL lo w A n xs) : InvsL lo' w A n xs := RowOf.mv (fun x b o h => ⟨Nat.le_trans hl h.1, h.2⟩) h
theorem Invs.gr {w w' : World} (hg : Gr w w') {A : Option Addr} {n : Nat} {xs : List Inv} (h : Invs w A n xs) : Invs w' A n xs := InvsL.ov (hg.ov 0) h
theorem Invs.at {w : World} {A : Option Addr} {n : Nat} {xs : List Inv} (h : Invs w A n xs) {j : Nat} (hj : j < n) : ∃ b o x, A = some ⟨b, o, none⟩ ∧ xs[j]? = some x ∧ w.cell? ⟨b, o + j * 2, none⟩ = some (.int .i64 x.who) ∧ w.cell? ⟨b, o + j * 2 + 1, none⟩ = some (.int .i64 x.til) := by
  obtain ⟨b, o, x, e, hx, he⟩ := RowOf.get h hj
  exact ⟨b, o, x, e, hx, he.2.1, he.2.2⟩

theorem InvsL.gr {lo : Nat} {w w' : World} (hg : Gr w w') {A : Option Addr} {n : Nat} {xs : List Inv} (h : InvsL lo w A n xs) : InvsL lo w' A n xs := InvsL.ov (hg.ov lo) h
theorem InvsL.at {lo : Nat} {w : World} {A : Option Addr} {n : Nat} {xs : List Inv} (h : InvsL lo w A n xs) {j : Nat} (hj : j < n) : ∃ b o x, A = some ⟨b, o, none⟩ ∧ xs[j]? = some x ∧ w.cell? ⟨b, o + j * 2, none⟩ = some (.int .i64 x.who) ∧ w.cell? ⟨b, o + j * 2 + 1, none⟩ = some (.int .i64 x.til) := by
  obtain ⟨b, o, x, e, hx, he⟩ := RowOf.get h hj
  exact ⟨b, o, x, e, hx, he.2.1, he.2.2⟩
theorem InvsL.atL {lo : Nat} {w : World} {A : Option Addr} {n : Nat} {xs : List Inv} (h : InvsL lo w A n xs) {j : Nat} (hj : j < n) : ∃ b o x, A = some ⟨b, o, none⟩ ∧ lo ≤ b ∧ xs[j]? = some x ∧ w.cell? ⟨b, o + j * 2, none⟩ = some (.int .i64 x.who) ∧ w.cell? ⟨b, o + j * 2 + 1, none⟩ = some (.int .i64 x.til) := by
  obtain ⟨b, o, x, e, hx, he⟩ := RowOf.get h hj
  exact ⟨b, o, x, e, he.1, hx, he.2.1, he.2.2⟩
theorem InvsL.zero {lo : Nat} {w : World} {A : Option Addr} {n : Nat} {xs : List Inv} (h : InvsL lo w A n xs) : Invs w A n xs := h.lo (Nat.zero_le _)
/-- What the two slices of a party lead to. -/
structure PtyInL (lo : Nat) (w : World) (M : Option Addr) (m : Nat) (I : Option Addr) (i : Nat) (p : Pty) : Prop where
  mem : IntsL lo w M m p.mem
  inv : InvsL lo w I i p.inv
abbrev PtyIn (w : World) (M : Option Addr) (m : Nat) (I : Option Addr) (i : Nat) (p : Pty) : Prop := PtyInL 0 w M m I i p
theorem PtyInL.ov {lo : Nat} {v w : World} (ho : Ov lo v w) {M I : Option Addr} {m i : Nat} {p : Pty} (h : PtyInL lo v M m I i p) : PtyInL lo w M m I i p := ⟨h.mem.ov ho, h.inv.ov ho⟩
theorem PtyInL.lo {lo lo' : Nat} (hl : lo' ≤ lo) {w : World} {M I : Option Addr} {m i : Nat} {p : Pty} (h : PtyInL lo w M m I i p) : PtyInL lo' w M m I i p := ⟨h.mem.lo hl, h.inv.lo hl⟩
theorem PtyInL.gr {lo : Nat} {w w' : World} (hg : Gr w w') {M I : Option Addr} {m i : Nat} {p : Pty} (h : PtyInL lo w M m I i p) : PtyInL lo w' M m I i p := PtyInL.ov (hg.ov lo) h
theorem PtyInL.zero {lo : Nat} {w : World} {M I : Option Addr} {m i : Nat} {p : Pty} (h : PtyInL lo w M m I i p) : PtyIn w M m I i p := h.lo (Nat.zero_le _)
theorem PtyIn.gr {w w' : World} (hg : Gr w w') {M I : Option Addr} {m i : Nat} {p : Pty} (h : PtyIn w M m I i p) : PtyIn w' M m I i p := PtyInL.ov (hg.ov 0) h
def elPtyL (lo : Nat) (w : World) (p : Pty) (b o : Nat) : Prop :=
  ∃ (M : Option Addr) (m mc : Nat) (I : Option Addr) (i ic : Nat), lo ≤ b ∧ w.cell? ⟨b, o, none⟩ = some (.int .i64 p.id) ∧ w.cell? ⟨b, o + 1, none⟩ = some (.int .i64 p.leader) ∧
    w.cell? ⟨b, o + 2, none⟩ = some (.slice M m mc) ∧ w.cell? ⟨b, o + 3, none⟩ = some (.slice I i ic) ∧ PtyInL lo w M m I i p
theorem elPtyL.ov {lo : Nat} {v w : World} (ho : Ov lo v w) {p : Pty} {b o : Nat} (h : elPtyL lo v p b o) : elPtyL lo w p b o := by
  obtain ⟨M, m, mc, I, i, ic, hb, h0, h1, h2, h3, h4⟩ := h
  exact ⟨M, m, mc, I, i, ic, hb, ho.cell hb h0, ho.cell hb h1, ho.cell hb h2, ho.cell hb h3, h4.ov ho⟩
theorem elPtyL.lo {lo lo' : Nat} (hl : lo' ≤ lo) {w : World} {p : Pty} {b o : Nat} (h : elPtyL lo w p b o) : elPtyL lo' w p b o := by
  obtain ⟨M, m, mc, I, i, ic, hb, h0, h1, h2, h3, h4⟩ := h
  exact ⟨M, m, mc, I, i, ic, Nat.le_trans hl hb, h0, h1, h2, h3, h4.lo hl⟩
abbrev PtysL (lo : Nat) (w : World) (A : Option Addr) (n : Nat) (xs : List Pty) : Prop := RowOf 4 (elPtyL lo) w A n xs
abbrev Ptys (w : World) (A : Option Addr) (n : Nat) (xs : List Pty) : Prop := PtysL 0 w A n xs
theorem PtysL.ov {lo : Nat} {v w : World} (ho : Ov lo v w) {A : Option Addr} {n : Nat} {xs : List Pty} (h : PtysL lo v A n xs) : PtysL lo w A n xs := RowOf.mv (fun x b o h => h.ov ho) h
theorem PtysL.lo {lo lo' : Nat} (hl : lo' ≤ lo) {w : World} {A : Option Addr} {n : Nat} {xs : List Pty} (h : PtysL lo w A n xs) : PtysL lo' w A n xs := RowOf.mv (fun x b o h => h.lo hl) h
theorem Ptys.gr {w w' : World} (hg : Gr w w') {A : Option Addr} {n : Nat} {xs : List Pty} (h : Ptys w A n xs) : Ptys w' A n xs := PtysL.ov (hg.ov 0) h
theorem PtysL.at {lo : Nat} {w : World} {A : Option Addr} {n : Nat} {xs : List Pty} (h : PtysL lo w A n xs) {j : Nat} (hj : j < n) :
    ∃ b o x M m mc I i ic, A = some ⟨b, o, none⟩ ∧ lo ≤ b ∧ xs[j]? = some x ∧ w.cell? ⟨b, o + j * 4, none⟩ = some (.int .i64 x.id) ∧ w.cell? ⟨b, o + j * 4 + 1, none⟩ = some (.int .i64 x.leader) ∧
      w.cell? ⟨b, o + j * 4 + 2, none⟩ = some (.slice M m mc) ∧ w.cell? ⟨b, o + j * 4 + 3, none⟩ = some (.slice I i ic) ∧ PtyInL lo w M m I i x := by
  obtain ⟨b, o, x, e, hx, M, m, mc, I, i, ic, hb, h0, h1, h2, h3, h4⟩ := RowOf.get h hj
  exact ⟨b, o, x, M, m, mc, I, i, ic, e, hb, hx, h0, h1, h2, h3, h4⟩
theorem Ptys.at {w : World} {A : Option Addr} {n : Nat} {xs : List Pty} (h : Ptys w A n xs) {j : Nat} (hj : j < n) :
    ∃ b o x M m mc I i ic, A = some ⟨b, o, none⟩ ∧ xs[j]? = some x ∧ w.cell? ⟨b, o + j * 4, none⟩ = some (.int .i64 x.id) ∧ w.cell? ⟨b, o + j * 4 + 1, none⟩ = some (.int .i64 x.leader) ∧
      w.cell? ⟨b, o + j * 4 + 2, none⟩ = some (.slice M m mc) ∧ w.cell? ⟨b, o + j * 4 + 3, none⟩ = some (.slice I i ic) ∧ PtyIn w M m I i x := by
  obtain ⟨b, o, x, M, m, mc, I, i, ic, e, _, hx, h0, h1, h2, h3, h4⟩ := PtysL.at h hj
  exact ⟨b, o, x, M, m, mc, I, i, ic, e, hx, h0, h1, h2, h3, h4⟩
theorem PtysL.gr {lo : Nat} {w w' : World} (hg : Gr w w') {A : Option Addr} {n : Nat} {xs : List Pty} (h : PtysL lo w A n xs) : PtysL lo w' A n xs := PtysL.ov (hg.ov lo) h
theorem PtysL.zero {lo : Nat} {w : World} {A : Option Addr} {n : Nat} {xs : List Pty} (h : PtysL lo w A n xs) : Ptys w A n xs := h.lo (Nat.zero_le _)
theorem drop_at {α : Type} {xs : List α} {k : Nat} {x : α} (h : xs[k]? = some x) : xs.drop k = x :: xs.drop (k + 1) := by
  obtain ⟨h1, h2⟩ := List.getElem?_eq_some_iff.1 h
  rw [List.drop_eq_getElem_cons h1, h2]
theorem take_at {α : Type} {xs : List α} {k : Nat} {x : α} (h : xs[k]? = some x) : xs.take (k + 1) = xs.take k ++ [x] := by
  obtain ⟨h1, h2⟩ := List.getElem?_eq_some_iff.1 h
  rw [List.take_succ_eq_append_getElem h1, h2]
end Go.Proofs.YtljkhijdaaconaaGreat
