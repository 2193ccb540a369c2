/- What the functions of package party compute, on plain data. What the functions of package party compute, on plain data: the changes. Plain facts on places. -/
set_option linter.unusedVariables false
namespace Go.Proofs.YtljkhijdaaconaaGreat

structure Inv where
  who : Int
  til : Int
  deriving DecidableEq
structure Pty where
  id : Int
  leader : Int
  mem : List Int
  inv : List Inv
  deriving DecidableEq
structure Hall where
  tick : Int
  last : Int
  ps : List Pty
  deriving DecidableEq

def isIDb (n : Int) : Bool := decide (1 ≤ n) && decide (n ≤ 65536)
theorem isIDb_iff {n : Int} : isIDb n = true ↔ 1 ≤ n ∧ n ≤ 65536 := by simp [isIDb]

/-- The first index at which p holds, counted from k; -1 if there is none. -/
def idxF {α : Type} (p : α → Bool) : Nat → List α → Int
  | _, [] => -1
  | k, x :: xs => if p x then (k : Int) else idxF p (k + 1) xs
theorem idxF_ge {α : Type} (p : α → Bool) (xs : List α) : ∀ k, -1 ≤ idxF p k xs := by
  induction xs with
  | nil => intro k; simp [idxF]
  | cons x xs ih => intro k; simp only [idxF]; split; omega; exact ih _
theorem idxF_any {α : Type} (p : α → Bool) (xs : List α) : ∀ k, decide (0 ≤ idxF p k xs) = xs.any p := by
  induction xs with
  | nil => intro k; simp [idxF]
  | cons x xs ih =>
    intro k
    simp only [idxF, List.any_cons]
    split
    · rename_i h; simp [h]
    · rename_i h; rw [ih]; simp [h]

/-- The pairs that members yields: the place of a party, a member. -/
def pairsF : Nat → List Pty → List (Int × Int)
  | _, [] => []
  | k, p :: ps => p.mem.map (fun m => ((k : Int), m)) ++ pairsF (k + 1) ps
def pairs (h : Hall) : List (Int × Int) := pairsF 0 h.ps
/-- What the map of places holds at a key behind these pairs. -/
def placeL (l : List (Int × Int)) (k : Int) : Option Int := l.foldl (fun r x => if x.2 = k then some (x.1 + 1) else r) none
def place (h : Hall) (k : Int) : Int := (placeL (pairs h) k).getD 0
/-- How many keys it has. -/
def keysL (l : List (Int × Int)) : List Int := l.foldl (fun r x => if r.contains x.2 then r else r ++ [x.2]) []
def keyCount (h : Hall) : Nat := (keysL (pairs h)).length

def okInv (h : Hall) : Int → List Inv → Bool
  | _, [] => true
  | w, i :: is => if i.who ≤ w ∨ ¬ isIDb i.who = true ∨ 0 < place h i.who ∨ i.til ≤ h.tick ∨ h.tick + 600 < i.til then false else okInv h i.who is
def okPs (h : Hall) : Int → Nat → List Pty → Bool
  | _, many, [] => decide (many = keyCount h)
  | last, many, p :: ps =>
    if p.id ≤ last ∨ h.last < p.id ∨ p.mem.length < 1 ∨ 5 < p.mem.length + p.inv.length ∨ ¬ p.mem.contains p.leader = true then false
    else if okInv h 0 p.inv = false then false
    else if p.mem.any (fun n => !isIDb n) then false
    else okPs h p.id (many + p.mem.length) ps
def valid (h : Hall) : Bool :=
  if h.tick < 0 ∨ 1073741824 < h.tick ∨ h.last < 0 ∨ 1048576 < h.last ∨ 32 < h.ps.length then false else okPs h 0 0 h.ps
end Go.Proofs.YtljkhijdaaconaaGreat

namespace Go.Proofs.YtljkhijdaaconaaGreat

/-- What becomes of a party when invitations go. -/
def unF (f : Pty → Inv → Bool) (p : Pty) : Pty := { p with inv := p.inv.filter fun i => !f p i }
def noHall : Hall := ⟨0, 0, []⟩
def change (F : Hall → Hall × Int) (h : Hall) : Hall × Int :=
  if valid h = true then (if (F h).2 = 0 then ((F h).1, 0) else (noHall, (F h).2)) else (noHall, 2)
def advF (t : Int) (h : Hall) : Hall × Int :=
  if t < 0 ∨ 1073741824 < t then (h, 2) else if t < h.tick then (h, 360) else ({ h with tick := t, ps := h.ps.map (unF fun _ i => decide (i.til ≤ t)) }, 0)
def creF (who : Int) (h : Hall) : Hall × Int :=
  if isIDb who = false then (h, 2) else if 0 < place h who then (h, 361) else if 32 ≤ h.ps.length ∨ 1048576 ≤ h.last then (h, 4) else
    ({ h with last := h.last + 1, ps := h.ps.map (unF fun _ i => decide (i.who = who)) ++ [⟨h.last + 1, who, [who], []⟩] }, 0)
def leadF (by' : Int) (f : Nat → Hall → Hall × Int) (h : Hall) : Hall × Int :=
  if place h by' = 0 then (h, 6) else
    match h.ps[(place h by' - 1).toNat]? with
    | some p => if p.leader ≠ by' then (h, 362) else f (place h by' - 1).toNat h
    | none => (h, 6)
def insInv (who til : Int) (l : List Inv) : List Inv := l.filter (fun i => decide (i.who < who)) ++ ⟨who, til⟩ :: l.filter (fun i => decide (who < i.who))
def invF (who : Int) (at' : Nat) (h : Hall) : Hall × Int :=
  match h.ps[at']? with
  | none => (h, 6)
  | some p =>
    if isIDb who = false then (h, 2) else if 0 < place h who then (h, 361) else if p.inv.any (fun i => decide (i.who = who)) = true then (h, 363) else if 5 ≤ p.mem.length + p.inv.length then (h, 4) else
      ({ h with ps := h.ps.set at' { p with inv := insInv who (h.tick + 600) p.inv } }, 0)
def leavePs (at' : Nat) (who : Int) (ps : List Pty) : List Pty :=
  match ps[at']? with
  | none => ps
  | some p =>
    match p.mem.filter (fun m => !decide (m = who)) with
    | [] => ps.eraseIdx at'
    | m :: ms => ps.set at' { p with mem := m :: ms, leader := if p.leader = who then m else p.leader }
def leaveF (at' : Nat) (who : Int) (h : Hall) : Hall := { h with ps := leavePs at' who h.ps }
def ansF (who id : Int) (yes : Bool) (h : Hall) : Hall × Int :=
  let at' := idxF (fun p : Pty => decide (p.id = id) && p.inv.any (fun i => decide (i.who = who))) 0 h.ps
  if at' < 0 then (h, 6) else
    let ps := h.ps.map (unF fun p i => decide (i.who = who) && (yes || decide (p.id = id)))
    ({ h with ps := if yes then ps.modify at'.toNat (fun p => { p with mem := p.mem ++ [who] }) else ps }, 0)
def lvF (who : Int) (h : Hall) : Hall × Int :=
  if place h who = 0 then (h, 6) else (leaveF (place h who - 1).toNat who h, 0)
def kickF (by' who : Int) (at' : Nat) (h : Hall) : Hall × Int :=
  if place h who ≠ at' + 1 then (h, 6) else if who = by' then (h, 2) else (leaveF at' who h, 0)
def promF (who : Int) (at' : Nat) (h : Hall) : Hall × Int :=
  if place h who ≠ at' + 1 then (h, 6) else ({ h with ps := h.ps.modify at' fun p => { p with leader := who } }, 0)
def disF (at' : Nat) (h : Hall) : Hall × Int := ({ h with ps := h.ps.eraseIdx at' }, 0)
end Go.Proofs.YtljkhijdaaconaaGreat

namespace Go.Proofs.YtljkhijdaaconaaGreat

theorem rev_ind {α : Type} {P : List α → Prop} (h0 : P []) (h1 : ∀ l x, P l → P (l ++ [x])) : ∀ l, P l := by
  intro l
  rw [← List.reverse_reverse l]
  induction l.reverse with
  | nil => exact h0
  | cons x l ih => rw [List.reverse_cons]; exact h1 _ _ ih
theorem placeL_snoc (l : List (Int × Int)) (x : Int × Int) : placeL (l ++ [x]) = fun k => if k = x.2 then some (x.1 + 1) else placeL l k := by
  funext k
  simp only [placeL, List.foldl_append, List.foldl_cons, List.foldl_nil]
  by_cases h : x.2 = k
  · simp [h]
  · rw [if_neg h, if_neg (fun e => h e.symm)]
theorem keysL_snoc (l : List (Int × Int)) (x : Int × Int) : keysL (l ++ [x]) = if (keysL l).contains x.2 then keysL l else keysL l ++ [x.2] := by
  unfold keysL
  rw [List.foldl_append]
  rfl
theorem placeL_some_iff (l : List (Int × Int)) (k : Int) : (placeL l k).isSome = true ↔ k ∈ keysL l := by
  revert l
  refine rev_ind ?_ ?_
  · simp [placeL, keysL]
  · intro l x ih
    rw [placeL_snoc, keysL_snoc]
    show (if k = x.2 then some (x.1 + 1) else placeL l k).isSome = true ↔ _
    by_cases h : k = x.2
    · subst h
      simp only [if_true, Option.isSome_some, true_iff]
      split
      · rename_i h; simpa using h
      · simp
    · rw [if_neg h, ih]
      split
      · exact Iff.rfl
      · simp [h]
theorem keysL_snoc_len (l : List (Int × Int)) (x : Int × Int) : (keysL (l ++ [x])).length = if (placeL l x.2).isSome = true then (keysL l).length else (keysL l).length + 1 := by
  rw [keysL_snoc]
  by_cases h : x.2 ∈ keysL l
  · rw [if_pos (by simpa using h), if_pos ((placeL_some_iff l x.2).2 h)]
  · rw [if_neg (by simpa using h), if_neg (fun e => h ((placeL_some_iff l x.2).1 e))]; simp


theorem okPs_bad {h : Hall} {last : Int} {many : Nat} {p : Pty} {ps : List Pty} (hb : p.id ≤ last ∨ h.last < p.id ∨ p.mem.length < 1 ∨ 5 < p.mem.length + p.inv.length ∨ ¬ p.mem.contains p.leader = true) : okPs h last many (p :: ps) = false := by
  simp only [okPs]; rw [if_pos hb]
theorem okPs_inv {h : Hall} {last : Int} {many : Nat} {p : Pty} {ps : List Pty} (hi : okInv h 0 p.inv = false) : okPs h last many (p :: ps) = false := by
  simp only [okPs, hi, if_true]
  split <;> rfl
theorem okPs_mem {h : Hall} {last : Int} {many : Nat} {p : Pty} {ps : List Pty} (hi : p.mem.any (fun n => !isIDb n) = true) : okPs h last many (p :: ps) = false := by
  simp only [okPs, hi, if_true]
  split
  · rfl
  · split <;> rfl
theorem okPs_ok {h : Hall} {last : Int} {many : Nat} {p : Pty} {ps : List Pty} (h1 : ¬ p.id ≤ last) (h2 : ¬ h.last < p.id) (h3 : ¬ p.mem.length < 1) (h4 : ¬ 5 < p.mem.length + p.inv.length) (h5 : p.mem.contains p.leader = true)
    (hi : okInv h 0 p.inv = true) (hm : p.mem.any (fun n => !isIDb n) = false) : okPs h last many (p :: ps) = okPs h p.id (many + p.mem.length) ps := by
  simp only [okPs]
  rw [if_neg (by simp only [not_or]; exact ⟨h1, h2, h3, h4, fun h => h h5⟩), if_neg (by rw [hi]; simp), if_neg (by rw [hm]; simp)]
theorem okInv_bad {h : Hall} {wh : Int} {i : Inv} {is : List Inv} (hb : i.who ≤ wh ∨ ¬ isIDb i.who = true ∨ 0 < place h i.who ∨ i.til ≤ h.tick ∨ h.tick + 600 < i.til) : okInv h wh (i :: is) = false := by
  simp only [okInv]; rw [if_pos hb]
theorem okInv_ok {h : Hall} {wh : Int} {i : Inv} {is : List Inv} (h1 : ¬ i.who ≤ wh) (h2 : isIDb i.who = true) (h3 : ¬ 0 < place h i.who) (h4 : ¬ i.til ≤ h.tick) (h5 : ¬ h.tick + 600 < i.til) : okInv h wh (i :: is) = okInv h i.who is := by
  simp only [okInv]
  rw [if_neg (by simp only [not_or]; exact ⟨h1, fun h => h h2, h3, h4, h5⟩)]
end Go.Proofs.YtljkhijdaaconaaGreat
