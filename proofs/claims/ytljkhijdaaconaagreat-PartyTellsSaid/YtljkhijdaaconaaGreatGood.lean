/- Valid halls on plain data: what they are, what places are, what changes leave. What each change of a valid hall leaves, on plain data. -/
import Derived.Test.YtljkhijdaaconaaGreatPlain
set_option linter.unusedVariables false
namespace Go.Proofs.YtljkhijdaaconaaGreat

def memsL (ps : List Pty) : List Int := ps.flatMap (·.mem)
theorem memsL_cons (p : Pty) (ps : List Pty) : memsL (p :: ps) = p.mem ++ memsL ps := rfl
theorem memsL_app (l r : List Pty) : memsL (l ++ r) = memsL l ++ memsL r := by simp [memsL]
theorem mem_memsL {ps : List Pty} {k : Int} : k ∈ memsL ps ↔ ∃ p ∈ ps, k ∈ p.mem := by simp [memsL]
theorem pairsF_snd : ∀ (ps : List Pty) (k : Nat), (pairsF k ps).map (·.2) = memsL ps
  | [], k => rfl
  | p :: ps, k => by
    simp only [pairsF, List.map_append, List.map_map, pairsF_snd ps (k + 1), memsL_cons]
    congr 1
    induction p.mem with
    | nil => rfl
    | cons x xs ih => simp [ih]
theorem pairsF_get : ∀ (ps : List Pty) (k : Nat) (x : Int × Int), x ∈ pairsF k ps → ∃ (j : Nat) (p : Pty), ps[j]? = some p ∧ x.1 = ((k + j : Nat) : Int) ∧ x.2 ∈ p.mem
  | [], k, x, h => by simp [pairsF] at h
  | p :: ps, k, x, h => by
    simp only [pairsF, List.mem_append, List.mem_map] at h
    rcases h with ⟨m, hm, rfl⟩ | h
    · exact ⟨0, p, rfl, rfl, hm⟩
    · obtain ⟨j, q, h1, h2, h3⟩ := pairsF_get ps (k + 1) x h
      exact ⟨j + 1, q, by simpa using h1, by rw [h2]; congr 1; omega, h3⟩
theorem keysL_spec (l : List (Int × Int)) : (∀ k, k ∈ keysL l ↔ k ∈ l.map (·.2)) ∧ (keysL l).length ≤ l.length ∧ ((keysL l).length = l.length ↔ (l.map (·.2)).Nodup) := by
  revert l
  refine rev_ind ?_ ?_
  · simp [keysL]
  · intro l x ⟨h1, h2, h3⟩
    rw [keysL_snoc]
    by_cases hx : x.2 ∈ keysL l
    · rw [if_pos (by simpa using hx)]
      have hx' := (h1 _).1 hx
      refine ⟨fun k => ?_, by simp; omega, ?_⟩
      · rw [h1 k, List.map_append, List.mem_append]
        simp only [List.map_cons, List.map_nil, List.mem_singleton]
        exact ⟨.inl, fun h => h.elim id (fun e => e ▸ hx')⟩
      · constructor
        · intro h; simp at h; omega
        · intro h
          rw [List.map_append] at h
          have := (List.nodup_append.1 h).2.2 _ hx' x.2 (by simp)
          exact absurd rfl this
    · rw [if_neg (by simpa using hx)]
      have hx' := fun h => hx ((h1 x.2).2 h)
      refine ⟨fun k => ?_, by simp; omega, ?_⟩
      · rw [List.mem_append, h1 k, List.map_append, List.mem_append]; simp
      · rw [List.map_append, List.length_append, List.length_append]
        simp only [List.length_singleton, Nat.add_right_cancel_iff, h3]
        rw [List.nodup_append]
        constructor
        · intro h
          refine ⟨h, by simp, fun a ha b hb => ?_⟩
          simp at hb
          intro e
          exact hx' (hb ▸ e ▸ ha)
        · exact fun h => h.1
theorem placeL_get : ∀ (l : List (Int × Int)) (k v : Int), placeL l k = some v → ∃ x ∈ l, v = x.1 + 1 ∧ x.2 = k := by
  intro l
  revert l
  refine rev_ind ?_ ?_
  · intro k v h; simp [placeL] at h
  · intro l x ih k v h
    rw [placeL_snoc] at h
    simp only at h
    by_cases e : k = x.2
    · rw [if_pos e] at h
      cases h
      exact ⟨x, by simp, rfl, e.symm⟩
    · rw [if_neg e] at h
      obtain ⟨y, hy, h1, h2⟩ := ih k v h
      exact ⟨y, by simp [hy], h1, h2⟩
theorem place_none {h : Hall} {k : Int} (hk : k ∉ memsL h.ps) : place h k = 0 := by
  have h1 : ¬ (placeL (pairs h) k).isSome = true := fun e => hk (by
    have := (keysL_spec _).1 k |>.1 ((placeL_some_iff _ k).1 e)
    rwa [pairs, pairsF_snd] at this)
  cases hp : placeL (pairs h) k with
  | none => simp [place, hp]
  | some v => rw [hp] at h1; simp at h1
theorem place_some {h : Hall} {k : Int} (hk : k ∈ memsL h.ps) : ∃ (j : Nat) (p : Pty), h.ps[j]? = some p ∧ k ∈ p.mem ∧ place h k = (j : Int) + 1 := by
  have h1 : (placeL (pairs h) k).isSome = true := (placeL_some_iff _ k).2 (((keysL_spec _).1 k).2 (by rw [pairs, pairsF_snd]; exact hk))
  obtain ⟨v, hv⟩ := Option.isSome_iff_exists.1 h1
  obtain ⟨x, hx, e1, e2⟩ := placeL_get _ _ _ hv
  obtain ⟨j, p, h2, h3, h4⟩ := pairsF_get _ _ _ hx
  exact ⟨j, p, h2, e2 ▸ h4, by simp [place, hv, e1, h3]⟩
theorem place_zero {h : Hall} {k : Int} : place h k = 0 ↔ k ∉ memsL h.ps := by
  refine ⟨fun e hk => ?_, place_none⟩
  obtain ⟨j, p, _, _, e'⟩ := place_some hk
  omega
theorem place_pos {h : Hall} {k : Int} : 0 < place h k ↔ k ∈ memsL h.ps := by
  constructor
  · intro e
    refine Classical.byContradiction fun hk => ?_
    rw [place_none hk] at e; omega
  · intro hk
    obtain ⟨j, p, _, _, e'⟩ := place_some hk
    omega
theorem nodup_index : ∀ {ps : List Pty} {i j : Nat} {p q : Pty} {k : Int}, (memsL ps).Nodup → ps[i]? = some p → ps[j]? = some q → k ∈ p.mem → k ∈ q.mem → i = j
  | [], i, j, p, q, k, _, h, _, _, _ => by simp at h
  | x :: ps, i, j, p, q, k, hn, hi, hj, hp, hq => by
    rw [memsL_cons, List.nodup_append] at hn
    have key : ∀ {y : Pty} {n : Nat}, ps[n]? = some y → k ∈ y.mem → k ∈ memsL ps := fun hy hk => mem_memsL.2 ⟨_, List.mem_of_getElem? hy, hk⟩
    match i, j with
    | 0, 0 => rfl
    | 0, j + 1 =>
      simp at hi hj; subst hi
      exact absurd rfl (hn.2.2 _ hp _ (key hj hq))
    | i + 1, 0 =>
      simp at hi hj; subst hj
      exact absurd rfl (hn.2.2 _ hq _ (key hi hp))
    | i + 1, j + 1 =>
      simp at hi hj
      rw [nodup_index hn.2.1 hi hj hp hq]
theorem place_at {h : Hall} {k : Int} {j : Nat} {p : Pty} (hn : (memsL h.ps).Nodup) (hj : h.ps[j]? = some p) (hk : k ∈ p.mem) : place h k = (j : Int) + 1 := by
  obtain ⟨i, q, h1, h2, h3⟩ := place_some (mem_memsL.2 ⟨p, List.mem_of_getElem? hj, hk⟩)
  rw [h3, nodup_index hn h1 hj h2 hk]

/-! ### Valid halls -/
structure Good (h : Hall) : Prop where
  ti0 : 0 ≤ h.tick
  ti1 : h.tick ≤ 1073741824
  la0 : 0 ≤ h.last
  la1 : h.last ≤ 1048576
  ln : h.ps.length ≤ 32
  pw : h.ps.Pairwise (fun p q => p.id < q.id)
  id : ∀ p ∈ h.ps, 1 ≤ p.id ∧ p.id ≤ h.last
  sz : ∀ p ∈ h.ps, p.mem.length + p.inv.length ≤ 5
  ld : ∀ p ∈ h.ps, p.leader ∈ p.mem
  so : ∀ p ∈ h.ps, p.inv.Pairwise (fun i j => i.who < j.who)
  mi : ∀ p ∈ h.ps, ∀ m ∈ p.mem, 1 ≤ m ∧ m ≤ 65536
  iv : ∀ p ∈ h.ps, ∀ i ∈ p.inv, 1 ≤ i.who ∧ i.who ≤ 65536 ∧ i.who ∉ memsL h.ps ∧ h.tick < i.til ∧ i.til ≤ h.tick + 600
  nd : (memsL h.ps).Nodup
theorem okInv_iff {h : Hall} : ∀ {l : List Inv} {w : Int}, okInv h w l = true ↔ (∀ i ∈ l, w < i.who) ∧ l.Pairwise (fun i j => i.who < j.who) ∧ ∀ i ∈ l, isIDb i.who = true ∧ ¬ 0 < place h i.who ∧ h.tick < i.til ∧ i.til ≤ h.tick + 600
  | [], w => by simp [okInv]
  | x :: l, w => by
    by_cases hb : x.who ≤ w ∨ ¬ isIDb x.who = true ∨ 0 < place h x.who ∨ x.til ≤ h.tick ∨ h.tick + 600 < x.til
    · rw [okInv_bad hb]
      constructor
      · intro e; cases e
      · rintro ⟨h1, _, h3⟩
        have h4 := h1 x (by simp)
        have h5 := h3 x (by simp)
        rcases hb with h | h | h | h | h
        · omega
        · exact absurd h5.1 h
        · exact absurd h h5.2.1
        · omega
        · omega
    · simp only [not_or, Classical.not_not] at hb
      obtain ⟨b1, b2, b3, b4, b5⟩ := hb
      rw [okInv_ok b1 b2 b3 b4 b5, okInv_iff (l := l) (w := x.who)]
      constructor
      · rintro ⟨h1, h2, h3⟩
        refine ⟨fun i hi => ?_, List.pairwise_cons.2 ⟨h1, h2⟩, fun i hi => ?_⟩
        · rcases List.mem_cons.1 hi with rfl | hi
          · omega
          · have := h1 i hi; omega
        · rcases List.mem_cons.1 hi with rfl | hi
          · exact ⟨b2, b3, by omega, by omega⟩
          · exact h3 i hi
      · rintro ⟨h1, h2, h3⟩
        exact ⟨(List.pairwise_cons.1 h2).1, (List.pairwise_cons.1 h2).2, fun i hi => h3 i (by simp [hi])⟩
def PGood (h : Hall) (p : Pty) : Prop := p.id ≤ h.last ∧ 1 ≤ p.mem.length ∧ p.mem.length + p.inv.length ≤ 5 ∧ p.leader ∈ p.mem ∧ okInv h 0 p.inv = true ∧ ∀ m ∈ p.mem, isIDb m = true
theorem okPs_iff {h : Hall} : ∀ {ps : List Pty} {last : Int} {many : Nat}, okPs h last many ps = true ↔ (∀ p ∈ ps, last < p.id) ∧ ps.Pairwise (fun p q => p.id < q.id) ∧ (∀ p ∈ ps, PGood h p) ∧ many + (memsL ps).length = keyCount h
  | [], last, many => by simp [okPs, memsL]
  | p :: ps, last, many => by
    by_cases hb : p.id ≤ last ∨ h.last < p.id ∨ p.mem.length < 1 ∨ 5 < p.mem.length + p.inv.length ∨ ¬ p.mem.contains p.leader = true
    · rw [okPs_bad hb]
      constructor
      · intro e; cases e
      · rintro ⟨h1, _, h3, _⟩
        have h4 := h1 p (by simp)
        obtain ⟨a1, a2, a3, a4, _⟩ := h3 p (by simp)
        rcases hb with h | h | h | h | h
        · omega
        · omega
        · omega
        · omega
        · exact absurd (by simpa using a4) h
    · simp only [not_or, Classical.not_not] at hb
      obtain ⟨b1, b2, b3, b4, b5⟩ := hb
      cases hi : okInv h 0 p.inv with
      | false =>
        rw [okPs_inv hi]
        constructor
        · intro e; cases e
        · rintro ⟨_, _, h3, _⟩
          have := (h3 p (by simp)).2.2.2.2.1
          rw [hi] at this; cases this
      | true =>
        cases hm : p.mem.any (fun n => !isIDb n) with
        | true =>
          rw [okPs_mem hm]
          constructor
          · intro e; cases e
          · rintro ⟨_, _, h3, _⟩
            obtain ⟨m, h1, h2⟩ := List.any_eq_true.1 hm
            have := (h3 p (by simp)).2.2.2.2.2 m h1
            rw [this] at h2; cases h2
        | false =>
          rw [okPs_ok b1 b2 b3 b4 b5 hi hm, okPs_iff (ps := ps) (last := p.id) (many := many + p.mem.length)]
          have hmm : ∀ m ∈ p.mem, isIDb m = true := fun m hm' => by
            have := List.any_eq_false.1 hm m hm'
            simpa using this
          constructor
          · rintro ⟨h1, h2, h3, h4⟩
            refine ⟨fun q hq => ?_, List.pairwise_cons.2 ⟨h1, h2⟩, fun q hq => ?_, by rw [memsL_cons, List.length_append]; omega⟩
            · rcases List.mem_cons.1 hq with rfl | hq
              · omega
              · have := h1 q hq; omega
            · rcases List.mem_cons.1 hq with rfl | hq
              · exact ⟨by omega, by omega, by omega, by simpa using b5, hi, hmm⟩
              · exact h3 q hq
          · rintro ⟨h1, h2, h3, h4⟩
            rw [memsL_cons, List.length_append] at h4
            exact ⟨(List.pairwise_cons.1 h2).1, (List.pairwise_cons.1 h2).2, fun q hq => h3 q (by simp [hq]), by omega⟩
theorem pairsF_len (ps : List Pty) (k : Nat) : (pairsF k ps).length = (memsL ps).length := by rw [← pairsF_snd ps k, List.length_map]
theorem valid_iff {h : Hall} : valid h = true ↔ Good h := by
  have hk : ∀ n : Nat, n = (memsL h.ps).length → (n = keyCount h ↔ (memsL h.ps).Nodup) := fun n e => by
    have h1 := (keysL_spec (pairs h)).2.2
    rw [pairs, pairsF_snd, pairsF_len] at h1
    rw [← h1, e]
    exact eq_comm
  constructor
  · intro hv
    unfold valid at hv
    split at hv
    · cases hv
    · rename_i hb
      simp only [not_or] at hb
      obtain ⟨h1, h2, h3, h4⟩ := okPs_iff.1 hv
      have hinv := fun p hp => okInv_iff.1 (h3 p hp).2.2.2.2.1
      refine ⟨by omega, by omega, by omega, by omega, by omega, h2, fun p hp => ⟨by have := h1 p hp; omega, (h3 p hp).1⟩, fun p hp => (h3 p hp).2.2.1, fun p hp => (h3 p hp).2.2.2.1, fun p hp => (hinv p hp).2.1, fun p hp m hm => isIDb_iff.1 ((h3 p hp).2.2.2.2.2 m hm), fun p hp i hi => ?_, ?_⟩
      · obtain ⟨a1, a2, a3, a4⟩ := (hinv p hp).2.2 i hi
        exact ⟨(isIDb_iff.1 a1).1, (isIDb_iff.1 a1).2, fun h => a2 (place_pos.2 h), a3, a4⟩
      · exact (hk _ rfl).1 (by omega)
  · intro g
    unfold valid
    rw [if_neg (by have := g.ti0; have := g.ti1; have := g.la0; have := g.la1; have := g.ln; omega)]
    refine okPs_iff.2 ⟨fun p hp => by have := g.id p hp; omega, g.pw, fun p hp => ⟨(g.id p hp).2, ?_, g.sz p hp, g.ld p hp, okInv_iff.2 ⟨fun i hi => by have := g.iv p hp i hi; omega, g.so p hp, fun i hi => ?_⟩, fun m hm => isIDb_iff.2 (g.mi p hp m hm)⟩, ?_⟩
    · exact List.length_pos_of_mem (g.ld p hp)
    · obtain ⟨a1, a2, a3, a4, a5⟩ := g.iv p hp i hi
      exact ⟨isIDb_iff.2 ⟨a1, a2⟩, fun h => a3 (place_pos.1 h), a4, a5⟩
    · rw [Nat.zero_add]
      exact (hk _ rfl).2 g.nd

/-! ### What changes leave -/
theorem un_mems (f : Pty → Inv → Bool) (ps : List Pty) : memsL (ps.map (unF f)) = memsL ps := by
  simp [memsL, List.flatMap_map, unF]
theorem Good.un {h : Hall} (g : Good h) (t' : Int) (ht : h.tick ≤ t') (ht1 : t' ≤ 1073741824) (f : Pty → Inv → Bool) (hf : ∀ p ∈ h.ps, ∀ i ∈ p.inv, f p i = false → t' < i.til) : Good ⟨t', h.last, h.ps.map (unF f)⟩ := by
  have hm : ∀ {P : Pty → Prop}, (∀ p ∈ h.ps, P (unF f p)) → ∀ q ∈ h.ps.map (unF f), P q := fun hP q hq => by
    obtain ⟨p, hp, rfl⟩ := List.mem_map.1 hq
    exact hP p hp
  have h0 := g.ti0
  refine ⟨by show 0 ≤ t'; omega, ht1, g.la0, g.la1, by simpa using g.ln, ?_, hm fun p hp => g.id p hp, hm fun p hp => ?_, hm fun p hp => g.ld p hp, hm fun p hp => ?_, hm fun p hp => g.mi p hp, hm fun p hp i hi => ?_, ?_⟩
  · exact List.pairwise_map.2 g.pw
  · have h1 := g.sz p hp
    have h2 : (unF f p).inv.length ≤ p.inv.length := List.length_filter_le _ _
    show p.mem.length + (unF f p).inv.length ≤ 5
    omega
  · exact (g.so p hp).filter _
  · have hi' : i ∈ p.inv ∧ (!f p i) = true := List.mem_filter.1 hi
    obtain ⟨a1, a2, a3, a4, a5⟩ := g.iv p hp i hi'.1
    refine ⟨a1, a2, by rw [un_mems]; exact a3, hf p hp i hi'.1 (by simpa using hi'.2), ?_⟩
    show i.til ≤ t' + 600
    omega
  · rw [un_mems]; exact g.nd
theorem Good.add {h : Hall} (g : Good h) {who : Int} (hw : 1 ≤ who ∧ who ≤ 65536) (hm : who ∉ memsL h.ps) (hi : ∀ p ∈ h.ps, ∀ i ∈ p.inv, i.who ≠ who) (hl : h.ps.length < 32) (hla : h.last < 1048576) :
    Good ⟨h.tick, h.last + 1, h.ps ++ [⟨h.last + 1, who, [who], []⟩]⟩ := by
  have hq : ∀ {P : Pty → Prop}, (∀ p ∈ h.ps, P p) → P ⟨h.last + 1, who, [who], []⟩ → ∀ q ∈ h.ps ++ [⟨h.last + 1, who, [who], []⟩], P q := fun h1 h2 q hq => by
    rcases List.mem_append.1 hq with hq | hq
    · exact h1 q hq
    · simp at hq; subst hq; exact h2
  have h0 := g.la0
  have hms : memsL (h.ps ++ [⟨h.last + 1, who, [who], []⟩]) = memsL h.ps ++ [who] := by rw [memsL_app]; rfl
  refine ⟨g.ti0, g.ti1, by show 0 ≤ h.last + 1; omega, by show h.last + 1 ≤ 1048576; omega, by simp; omega, ?_, hq (fun p hp => ⟨(g.id p hp).1, by have := (g.id p hp).2; show p.id ≤ h.last + 1; omega⟩) ⟨by show 1 ≤ h.last + 1; omega, Int.le_refl _⟩, hq g.sz (by simp), hq g.ld (by simp), hq g.so (by simp), hq g.mi (by simpa using hw), hq (fun p hp i hi' => ?_) (by simp), ?_⟩
  · rw [List.pairwise_append]
    refine ⟨g.pw, by simp, fun p hp q hq' => ?_⟩
    simp at hq'; subst hq'
    have := (g.id p hp).2
    show p.id < h.last + 1
    omega
  · obtain ⟨a1, a2, a3, a4⟩ := g.iv p hp i hi'
    refine ⟨a1, a2, fun hmem => ?_, a4⟩
    simp only [hms, List.mem_append, List.mem_singleton] at hmem
    rcases hmem with h | h
    · exact a3 h
    · exact hi p hp i hi' h
  · simp only [hms]
    rw [List.nodup_append]
    refine ⟨g.nd, by simp, fun a ha b hb e => ?_⟩
    simp at hb
    exact hm (hb ▸ e ▸ ha)
theorem Good.rep {t la : Int} {l r : List Pty} {p q : Pty} (g : Good ⟨t, la, l ++ p :: r⟩) (h1 : q.id = p.id) (h2 : q.leader ∈ q.mem) (h3 : q.mem.length + q.inv.length ≤ 5) (h4 : q.inv.Pairwise (fun i j => i.who < j.who)) (h5 : q.mem.Nodup)
    (h6 : ∀ m ∈ q.mem, m ∈ p.mem ∨ (1 ≤ m ∧ m ≤ 65536 ∧ m ∉ memsL (l ++ p :: r) ∧ ∀ p' ∈ l ++ p :: r, ∀ i ∈ p'.inv, i.who ≠ m))
    (h7 : ∀ i ∈ q.inv, i ∈ p.inv ∨ (1 ≤ i.who ∧ i.who ≤ 65536 ∧ i.who ∉ memsL (l ++ p :: r) ∧ i.who ∉ q.mem ∧ t < i.til ∧ i.til ≤ t + 600)) : Good ⟨t, la, l ++ q :: r⟩ := by
  have hp : p ∈ l ++ p :: r := by simp
  have hq : ∀ {P : Pty → Prop}, (∀ x ∈ l ++ p :: r, P x) → P q → ∀ x ∈ l ++ q :: r, P x := fun h1 h2 x hx => by
    simp only [List.mem_append, List.mem_cons] at hx
    rcases hx with hx | rfl | hx
    · exact h1 x (by simp [hx])
    · exact h2
    · exact h1 x (by simp [hx])
  have hms : memsL (l ++ q :: r) = memsL l ++ (q.mem ++ memsL r) := by rw [memsL_app, memsL_cons]
  have hms' : memsL (l ++ p :: r) = memsL l ++ (p.mem ++ memsL r) := by rw [memsL_app, memsL_cons]
  have hnew : ∀ (x : Pty), x ∈ l ++ p :: r → ∀ i ∈ x.inv, i.who ∉ memsL (l ++ q :: r) := fun x hx i hi hmem => by
    obtain ⟨_, _, a3, _⟩ := g.iv x hx i hi
    simp only [hms, hms', List.mem_append] at hmem a3
    rcases hmem with h | h | h
    · exact a3 (.inl h)
    · rcases h6 _ h with h | ⟨_, _, _, h⟩
      · exact a3 (.inr (.inl h))
      · exact h x hx i hi rfl
    · exact a3 (.inr (.inr h))
  refine ⟨g.ti0, g.ti1, g.la0, g.la1, by simpa using g.ln, ?_, hq g.id (by rw [h1]; exact g.id p hp), hq g.sz h3, hq g.ld h2, hq g.so h4, hq g.mi (fun m hm => ?_), ?_, ?_⟩
  · have := g.pw
    simp only [List.pairwise_append, List.pairwise_cons, List.mem_cons] at this ⊢
    refine ⟨this.1, ⟨fun x hx => by rw [h1]; exact this.2.1.1 x hx, this.2.1.2⟩, fun a ha b hb => ?_⟩
    rcases hb with rfl | hb
    · rw [h1]; exact this.2.2 a ha p (.inl rfl)
    · exact this.2.2 a ha b (.inr hb)
  · rcases h6 m hm with h | h
    · exact g.mi p hp m h
    · exact ⟨h.1, h.2.1⟩
  · intro x hx i hi
    simp only [List.mem_append, List.mem_cons] at hx
    have old : ∀ y ∈ l ++ p :: r, ∀ i ∈ y.inv, 1 ≤ i.who ∧ i.who ≤ 65536 ∧ i.who ∉ memsL (l ++ q :: r) ∧ t < i.til ∧ i.til ≤ t + 600 := fun y hy i hi => by
      obtain ⟨a1, a2, a3, a4⟩ := g.iv y hy i hi
      exact ⟨a1, a2, hnew y hy i hi, a4⟩
    rcases hx with hx | rfl | hx
    · exact old x (by simp [hx]) i hi
    · rcases h7 i hi with h | ⟨a1, a2, a3, a4, a5, a6⟩
      · exact old p hp i h
      · refine ⟨a1, a2, fun hmem => ?_, a5, a6⟩
        simp only [hms, hms', List.mem_append] at hmem a3
        rcases hmem with h | h | h
        · exact a3 (.inl h)
        · exact a4 h
        · exact a3 (.inr (.inr h))
    · exact old x (by simp [hx]) i hi
  · have hn := g.nd
    simp only [hms'] at hn
    simp only [hms]
    rw [List.nodup_append, List.nodup_append] at hn ⊢
    have out : ∀ m ∈ q.mem, (∀ a ∈ memsL l, a ≠ m) ∧ ∀ b ∈ memsL r, m ≠ b := fun m hm => by
      rcases h6 m hm with h | ⟨_, _, h, _⟩
      · exact ⟨fun a ha => hn.2.2 a ha m (by simp [h]), fun b hb => hn.2.1.2.2 m h b hb⟩
      · simp only [hms', List.mem_append, not_or] at h
        exact ⟨fun a ha e => h.1 (e ▸ ha), fun b hb e => h.2.2 (e ▸ hb)⟩
    refine ⟨hn.1, ⟨h5, hn.2.1.2.1, fun a ha b hb => (out a ha).2 b hb⟩, fun a ha b hb => ?_⟩
    rcases List.mem_append.1 hb with hb | hb
    · exact (out b hb).1 a ha
    · exact hn.2.2 a ha b (by simp [hb])
theorem Good.del {t la : Int} {l r : List Pty} {p : Pty} (g : Good ⟨t, la, l ++ p :: r⟩) : Good ⟨t, la, l ++ r⟩ := by
  have hs : (l ++ r).Sublist (l ++ p :: r) := List.Sublist.append_left (List.sublist_cons_self _ _) _
  have hm : ∀ x ∈ l ++ r, x ∈ l ++ p :: r := fun x hx => hs.subset hx
  have hmm : (memsL (l ++ r)).Sublist (memsL (l ++ p :: r)) := by
    rw [memsL_app, memsL_app, memsL_cons]
    exact List.Sublist.append_left (List.sublist_append_right _ _) _
  refine ⟨g.ti0, g.ti1, g.la0, g.la1, Nat.le_trans hs.length_le g.ln, g.pw.sublist hs, fun x hx => g.id x (hm x hx), fun x hx => g.sz x (hm x hx), fun x hx => g.ld x (hm x hx), fun x hx => g.so x (hm x hx), fun x hx => g.mi x (hm x hx), fun x hx i hi => ?_, g.nd.sublist hmm⟩
  obtain ⟨a1, a2, a3, a4⟩ := g.iv x (hm x hx) i hi
  exact ⟨a1, a2, fun h => a3 (hmm.subset h), a4⟩
theorem split_at {α : Type} {ps : List α} {i : Nat} {p : α} (h : ps[i]? = some p) : ps = ps.take i ++ p :: ps.drop (i + 1) := by
  obtain ⟨h1, h2⟩ := List.getElem?_eq_some_iff.1 h
  rw [← h2, ← List.drop_eq_getElem_cons h1, List.take_append_drop]
theorem set_split {α : Type} {ps : List α} {i : Nat} {p : α} (h : ps[i]? = some p) (q : α) : ps.set i q = ps.take i ++ q :: ps.drop (i + 1) := by
  rw [List.set_eq_take_append_cons_drop, if_pos (List.getElem?_eq_some_iff.1 h).1]
end Go.Proofs.YtljkhijdaaconaaGreat

namespace Go.Proofs.YtljkhijdaaconaaGreat

theorem change_good {F : Hall → Hall × Int} {h : Hall} (g : Good h) : change F h = if (F h).2 = 0 then ((F h).1, 0) else (noHall, (F h).2) := by
  unfold change; rw [if_pos (valid_iff.2 g)]
theorem change_bad {F : Hall → Hall × Int} {h : Hall} (g : valid h = false) : change F h = (noHall, 2) := by
  unfold change; rw [g]; rfl
theorem change_zero {F : Hall → Hall × Int} {h h' : Hall} (e : change F h = (h', 0)) : Good h ∧ (F h).2 = 0 ∧ h' = (F h).1 := by
  unfold change at e
  split at e
  · rename_i hv
    split at e
    · rename_i h0
      exact ⟨valid_iff.1 hv, h0, (Prod.mk.inj e).1.symm⟩
    · rename_i h0
      exact absurd (Prod.mk.inj e).2 h0
  · exact absurd (Prod.mk.inj e).2 (by decide)
theorem change_none {F : Hall → Hall × Int} {h : Hall} (e : (change F h).2 ≠ 0) : (change F h).1 = noHall := by
  unfold change at e ⊢
  split
  · rename_i hv
    rw [if_pos hv] at e
    split
    · rename_i h0
      rw [if_pos h0] at e
      exact absurd rfl e
    · rfl
  · rfl
theorem lead_zero {H : Hall} {a : Int} {f : Nat → Hall → Hall × Int} (h : (leadF a f H).2 = 0) : ∃ (j : Nat) (p : Pty), H.ps[j]? = some p ∧ a ∈ p.mem ∧ p.leader = a ∧ leadF a f H = f j H ∧ place H a = (j : Int) + 1 := by
  by_cases h0 : place H a = 0
  · unfold leadF at h; rw [if_pos h0] at h; exact absurd h (by simp)
  · have hm : a ∈ memsL H.ps := Classical.byContradiction fun hk => h0 (place_none hk)
    obtain ⟨j, p, h1, h2, h3⟩ := place_some hm
    have hj : (place H a - 1).toNat = j := by omega
    unfold leadF at h ⊢
    rw [if_neg h0, hj, h1] at h
    rw [if_neg h0, hj, h1]
    simp only at h ⊢
    by_cases hl : p.leader = a
    · rw [if_neg (by simpa using hl)]
      exact ⟨j, p, h1, h2, hl, rfl, h3⟩
    · rw [if_pos hl] at h; exact absurd h (by simp)
theorem inv_zero {H : Hall} {who : Int} {j : Nat} {p : Pty} (hj : H.ps[j]? = some p) (h : (invF who j H).2 = 0) : (1 ≤ who ∧ who ≤ 65536) ∧ who ∉ memsL H.ps ∧ p.inv.any (fun i => decide (i.who = who)) = false ∧ p.mem.length + p.inv.length < 5 ∧
    (invF who j H).1 = ⟨H.tick, H.last, H.ps.take j ++ { p with inv := insInv who (H.tick + 600) p.inv } :: H.ps.drop (j + 1)⟩ := by
  unfold invF at h ⊢
  rw [hj] at h ⊢
  simp only at h ⊢
  split at h
  · exact absurd h (by simp)
  · rename_i h1
    split at h
    · exact absurd h (by simp)
    · rename_i h2
      split at h
      · exact absurd h (by simp)
      · rename_i h3
        split at h
        · exact absurd h (by simp)
        · rename_i h4
          refine ⟨isIDb_iff.1 (by simpa using h1), fun hm => h2 (place_pos.2 hm), by simpa using h3, by omega, ?_⟩
          rw [if_neg h1, if_neg h2, if_neg h3, if_neg h4, set_split hj]
theorem insInv_len {who til : Int} : ∀ {l : List Inv}, l.any (fun i => decide (i.who = who)) = false → (insInv who til l).length = l.length + 1
  | [], _ => rfl
  | x :: l, h => by
    simp only [List.any_cons, Bool.or_eq_false_iff, decide_eq_false_iff_not] at h
    have ih := insInv_len (who := who) (til := til) h.2
    simp only [insInv, List.filter_cons, List.length_append, List.length_cons] at ih ⊢
    by_cases h1 : x.who < who
    · rw [if_pos (by simpa using h1), if_neg (by simp; omega)]; simp only [List.length_cons]; omega
    · rw [if_neg (by simpa using h1), if_pos (by simp; omega)]; simp only [List.length_cons]; omega
theorem insInv_mem {who til : Int} {l : List Inv} {i : Inv} (h : i ∈ insInv who til l) : i = ⟨who, til⟩ ∨ i ∈ l := by
  simp only [insInv, List.mem_append, List.mem_cons, List.mem_filter] at h
  rcases h with h | h | h
  · exact .inr h.1
  · exact .inl h
  · exact .inr h.1
theorem insInv_sorted {who til : Int} {l : List Inv} (h : l.Pairwise (fun i j => i.who < j.who)) : (insInv who til l).Pairwise (fun i j => i.who < j.who) := by
  unfold insInv
  rw [List.pairwise_append, List.pairwise_cons]
  refine ⟨h.filter _, ⟨fun x hx => by simpa using (List.mem_filter.1 hx).2, h.filter _⟩, fun x hx y hy => ?_⟩
  have h1 : x.who < who := by simpa using (List.mem_filter.1 hx).2
  rcases List.mem_cons.1 hy with rfl | hy
  · exact h1
  · have h2 : who < y.who := by simpa using (List.mem_filter.1 hy).2
    omega
theorem leave_cases {ps : List Pty} {j : Nat} {p : Pty} (who : Int) (hj : ps[j]? = some p) :
    (p.mem.filter (fun m => !decide (m = who)) = [] ∧ leavePs j who ps = ps.take j ++ ps.drop (j + 1)) ∨
    ∃ m ms, p.mem.filter (fun m => !decide (m = who)) = m :: ms ∧ leavePs j who ps = ps.take j ++ { p with mem := m :: ms, leader := if p.leader = who then m else p.leader } :: ps.drop (j + 1) := by
  unfold leavePs
  rw [hj]
  simp only
  cases hf : p.mem.filter (fun m => !decide (m = who)) with
  | nil => exact .inl ⟨rfl, by simp only; rw [List.eraseIdx_eq_take_drop_succ]⟩
  | cons m ms => exact .inr ⟨m, ms, rfl, by simp only; rw [set_split hj]⟩
theorem mem_nodup {ps : List Pty} {p : Pty} (hn : (memsL ps).Nodup) (hp : p ∈ ps) : p.mem.Nodup := by
  obtain ⟨j, hj⟩ := List.mem_iff_getElem?.1 hp
  rw [split_at hj, memsL_app, memsL_cons] at hn
  exact (List.nodup_append.1 (List.nodup_append.1 hn).2.1).1
theorem Good.leave {t la : Int} {ps : List Pty} (g : Good ⟨t, la, ps⟩) {j : Nat} {p : Pty} (hj : ps[j]? = some p) (who : Int) : Good ⟨t, la, leavePs j who ps⟩ := by
  have hp : p ∈ ps := List.mem_of_getElem? hj
  have hs := split_at hj
  have g' := g
  rw [hs] at g'
  rcases leave_cases who hj with ⟨h1, h2⟩ | ⟨m, ms, h1, h2⟩
  · rw [h2]; exact g'.del
  · rw [h2]
    have hm : ∀ x ∈ m :: ms, x ∈ p.mem ∧ x ≠ who := fun x hx => by
      rw [← h1] at hx
      have := List.mem_filter.1 hx
      exact ⟨this.1, by simpa using this.2⟩
    have hl : (m :: ms).length ≤ p.mem.length := by rw [← h1]; exact List.length_filter_le _ _
    refine g'.rep rfl ?_ ?_ (g.so p hp) ?_ (fun x hx => .inl (hm x hx).1) (fun i hi => .inl hi)
    · show (if p.leader = who then m else p.leader) ∈ m :: ms
      split
      · simp
      · rename_i hne
        rw [← h1]
        exact List.mem_filter.2 ⟨g.ld p hp, by simpa using hne⟩
    · have := g.sz p hp
      show (m :: ms).length + p.inv.length ≤ 5
      omega
    · show (m :: ms).Nodup
      rw [← h1]
      exact (mem_nodup g.nd hp).filter _
theorem idxF_spec {α : Type} (p : α → Bool) : ∀ (xs : List α) (k : Nat), (idxF p k xs < 0 ∧ ∀ x ∈ xs, p x = false) ∨ ∃ (j : Nat) (x : α), xs[j]? = some x ∧ idxF p k xs = ((k + j : Nat) : Int) ∧ p x = true
  | [], k => .inl ⟨by simp [idxF], by simp⟩
  | x :: xs, k => by
    cases hx : p x with
    | true => exact .inr ⟨0, x, rfl, by simp [idxF, hx], hx⟩
    | false =>
      rcases idxF_spec p xs (k + 1) with ⟨h1, h2⟩ | ⟨j, y, h1, h2, h3⟩
      · refine .inl ⟨by simpa [idxF, hx] using h1, fun y hy => ?_⟩
        rcases List.mem_cons.1 hy with rfl | hy
        · exact hx
        · exact h2 y hy
      · refine .inr ⟨j + 1, y, by simpa using h1, ?_, h3⟩
        simp only [idxF, hx, Bool.false_eq_true, if_false, h2]
        congr 1; omega
theorem modify_split {α : Type} {ps : List α} {i : Nat} {p : α} (h : ps[i]? = some p) (f : α → α) : ps.modify i f = ps.take i ++ f p :: ps.drop (i + 1) := by
  rw [List.modify_eq_take_cons_drop (List.getElem?_eq_some_iff.1 h).1, (List.getElem?_eq_some_iff.1 h).2]
/-- What is asked: who answers, the party's ID. -/
def askP (who id : Int) (p : Pty) : Bool := decide (p.id = id) && p.inv.any (fun i => decide (i.who = who))
theorem ans_cases (who id : Int) (yes : Bool) (H : Hall) :
    ((ansF who id yes H).2 = 6 ∧ ∀ p ∈ H.ps, askP who id p = false) ∨
    ∃ (j : Nat) (p : Pty), H.ps[j]? = some p ∧ p.id = id ∧ p.inv.any (fun i => decide (i.who = who)) = true ∧ (ansF who id yes H).2 = 0 ∧
      (ansF who id yes H).1 = ⟨H.tick, H.last, if yes = true then
        (H.ps.map (unF fun _ i => decide (i.who = who))).take j ++ { p with mem := p.mem ++ [who], inv := p.inv.filter fun i => !decide (i.who = who) } :: (H.ps.map (unF fun _ i => decide (i.who = who))).drop (j + 1)
        else H.ps.map (unF fun p i => decide (i.who = who) && decide (p.id = id))⟩ := by
  rcases idxF_spec (askP who id) H.ps 0 with ⟨h1, h2⟩ | ⟨j, p, h1, h2, h3⟩
  · refine .inl ⟨?_, h2⟩
    unfold askP at h1
    simp only [ansF]
    rw [if_pos h1]
  · simp only [askP, Bool.and_eq_true, decide_eq_true_eq] at h3
    have hn : ¬ idxF (askP who id) 0 H.ps < 0 := by omega
    have hn' := hn
    unfold askP at hn'
    refine .inr ⟨j, p, h1, h3.1, h3.2, ?_, ?_⟩
    · simp only [ansF]; rw [if_neg hn']
    · simp only [ansF]
      rw [if_neg hn']
      cases yes with
      | false => simp
      | true =>
        have e : (idxF (fun p : Pty => decide (p.id = id) && p.inv.any (fun i => decide (i.who = who))) 0 H.ps).toNat = j := by
          have : idxF (askP who id) 0 H.ps = idxF (fun p : Pty => decide (p.id = id) && p.inv.any (fun i => decide (i.who = who))) 0 H.ps := rfl
          rw [← this, h2]; omega
        simp only [e, Bool.true_or, Bool.and_true, if_true]
        rw [modify_split (p := unF (fun _ i => decide (i.who = who)) p) (by rw [List.getElem?_map, h1]; rfl)]
        rfl
theorem Good.uniq {h : Hall} (g : Good h) {p q : Pty} (hp : p ∈ h.ps) (hq : q ∈ h.ps) (e : p.id = q.id) : p = q := by
  obtain ⟨i, hi⟩ := List.mem_iff_getElem?.1 hp
  obtain ⟨j, hj⟩ := List.mem_iff_getElem?.1 hq
  have key : ∀ {i j : Nat} {p q : Pty}, h.ps[i]? = some p → h.ps[j]? = some q → p.id = q.id → ¬ i < j := fun {i j p q} hi hj e hlt => by
    obtain ⟨h1, e1⟩ := List.getElem?_eq_some_iff.1 hi
    obtain ⟨h2, e2⟩ := List.getElem?_eq_some_iff.1 hj
    have := List.pairwise_iff_getElem.1 g.pw i j h1 h2 hlt
    rw [e1, e2] at this
    omega
  have h1 := key hi hj e
  have h2 := key hj hi e.symm
  have : i = j := by omega
  subst this
  rw [hi] at hj; exact Option.some.inj hj
theorem filter_who {who : Int} : ∀ {l : List Inv}, l.any (fun i => decide (i.who = who)) = true → (l.filter fun i => !decide (i.who = who)).length + 1 ≤ l.length
  | [], h => by simp at h
  | x :: l, h => by
    rw [List.filter_cons]
    by_cases hx : x.who = who
    · rw [if_neg (by simp [hx])]
      have := List.length_filter_le (fun i : Inv => !decide (i.who = who)) l
      simp only [List.length_cons]; omega
    · rw [if_pos (by simp [hx])]
      simp only [List.any_cons, hx, decide_false, Bool.false_or] at h
      have := filter_who h
      simp only [List.length_cons]; omega
/-- A step of one who does something: valid, later, new IDs only behind the last one; others stay as they are. -/
structure Stp (H H' : Hall) (a : Int) : Prop where
  good : Good H'
  last : H.last ≤ H'.last
  tick : H.tick ≤ H'.tick
  ids : ∀ p ∈ H'.ps, (∃ q ∈ H.ps, q.id = p.id) ∨ (p.id = H.last + 1 ∧ H'.last = p.id)
structure Oth (H H' : Hall) (a : Int) : Prop where
  up : H'.ps.length ≤ H.ps.length + 1
  dn : H.ps.length ≤ H'.ps.length + 1
  oth : ∀ p ∈ H.ps, a ∉ p.mem → ∃ q ∈ H'.ps, q.id = p.id ∧ (a ∈ q.mem ∨ (q.leader = p.leader ∧ q.mem = p.mem ∧ ∃ f : Inv → Bool, q.inv = p.inv.filter f ∧ ∀ i ∈ p.inv, f i = false → i.who = a))
theorem filter_tt {α : Type} (l : List α) : l = l.filter (fun _ => true) := (List.filter_eq_self.2 (fun _ _ => rfl)).symm
/-- One party of the one who does it is changed, or goes. -/
theorem step_own {H : Hall} {a : Int} {j : Nat} {p : Pty} (hj : H.ps[j]? = some p) (hm : a ∈ p.mem) {x : List Pty} (hx : x.length ≤ 1) (hid : ∀ q ∈ x, q.id = p.id) (hg : Good ⟨H.tick, H.last, H.ps.take j ++ x ++ H.ps.drop (j + 1)⟩) :
    Stp H ⟨H.tick, H.last, H.ps.take j ++ x ++ H.ps.drop (j + 1)⟩ a ∧ Oth H ⟨H.tick, H.last, H.ps.take j ++ x ++ H.ps.drop (j + 1)⟩ a := by
  have hs := split_at hj
  have hlen : H.ps.length = (H.ps.take j).length + (H.ps.drop (j + 1)).length + 1 := by
    conv => lhs; rw [hs]
    simp only [List.length_append, List.length_cons]; omega
  refine ⟨⟨hg, Int.le_refl _, Int.le_refl _, fun q hq => .inl ?_⟩, ⟨?_, ?_, fun q hq hn => ?_⟩⟩
  · simp only [List.mem_append] at hq
    rcases hq with (hq | hq) | hq
    · exact ⟨q, List.mem_of_mem_take hq, rfl⟩
    · exact ⟨p, List.mem_of_getElem? hj, (hid q hq).symm⟩
    · exact ⟨q, List.mem_of_mem_drop hq, rfl⟩
  · simp only [List.length_append]; omega
  · simp only [List.length_append]; omega
  · rw [hs] at hq
    simp only [List.mem_append, List.mem_cons] at hq
    rcases hq with hq | rfl | hq
    · exact ⟨q, by simp [hq], rfl, .inr ⟨rfl, rfl, _, filter_tt _, by simp⟩⟩
    · exact absurd hm hn
    · exact ⟨q, by simp [hq], rfl, .inr ⟨rfl, rfl, _, filter_tt _, by simp⟩⟩
theorem step_leave {H : Hall} {a : Int} (g : Good H) {j : Nat} {p : Pty} (hj : H.ps[j]? = some p) (hm : a ∈ p.mem) (who : Int) : Stp H (leaveF j who H) a ∧ Oth H (leaveF j who H) a := by
  have gl : Good ⟨H.tick, H.last, leavePs j who H.ps⟩ := Good.leave g hj who
  unfold leaveF
  rcases leave_cases who hj with ⟨_, h2⟩ | ⟨m, ms, _, h2⟩
  · rw [h2] at gl ⊢
    have := step_own hj hm (x := []) (by simp) (by simp) (by simpa using gl)
    simpa using this
  · rw [h2] at gl ⊢
    have := step_own hj hm (x := [{ p with mem := m :: ms, leader := if p.leader = who then m else p.leader }]) (by simp) (by simp) (by simpa using gl)
    simpa using this
theorem un_get {F : Pty → Inv → Bool} {H : Hall} {q : Pty} (h : q ∈ H.ps.map (unF F)) : ∃ p ∈ H.ps, q = unF F p := by
  obtain ⟨p, h1, h2⟩ := List.mem_map.1 h
  exact ⟨p, h1, h2.symm⟩
theorem step_un {H : Hall} {a : Int} (g : Good H) (F : Pty → Inv → Bool) (hF : ∀ p i, F p i = true → i.who = a) : Stp H ⟨H.tick, H.last, H.ps.map (unF F)⟩ a ∧ Oth H ⟨H.tick, H.last, H.ps.map (unF F)⟩ a := by
  have gu := g.un H.tick (Int.le_refl _) g.ti1 F (fun p hp i hi _ => (g.iv p hp i hi).2.2.2.1)
  refine ⟨⟨gu, Int.le_refl _, Int.le_refl _, fun q hq => ?_⟩, ⟨by simp, by simp, fun p hp hn => ?_⟩⟩
  · obtain ⟨p, hp, rfl⟩ := un_get hq
    exact .inl ⟨p, hp, rfl⟩
  · exact ⟨unF F p, List.mem_map_of_mem hp, rfl, .inr ⟨rfl, rfl, _, rfl, fun i hi hf => hF p i (by simpa using hf)⟩⟩
theorem cre_zero {H : Hall} {who : Int} (h : (creF who H).2 = 0) : (1 ≤ who ∧ who ≤ 65536) ∧ who ∉ memsL H.ps ∧ H.ps.length < 32 ∧ H.last < 1048576 ∧
    (creF who H).1 = ⟨H.tick, H.last + 1, H.ps.map (unF fun _ i => decide (i.who = who)) ++ [⟨H.last + 1, who, [who], []⟩]⟩ := by
  unfold creF at h ⊢
  split at h
  · exact absurd h (by simp)
  · rename_i h1
    split at h
    · exact absurd h (by simp)
    · rename_i h2
      split at h
      · exact absurd h (by simp)
      · rename_i h3
        rw [if_neg h1, if_neg h2, if_neg h3]
        exact ⟨isIDb_iff.1 (by simpa using h1), fun hm => h2 (place_pos.2 hm), by omega, by omega, rfl⟩
theorem step_cre {H H' : Hall} {a : Int} (e : change (creF a) H = (H', 0)) : Stp H H' a ∧ Oth H H' a := by
  obtain ⟨g, h0, rfl⟩ := change_zero e
  obtain ⟨h1, h2, h3, h4, h5⟩ := cre_zero h0
  rw [h5]
  obtain ⟨s, o⟩ := step_un g (fun _ i => decide (i.who = a)) (fun p i h => by simpa using h)
  have ga : Good ⟨H.tick, H.last + 1, H.ps.map (unF fun _ i => decide (i.who = a)) ++ [⟨H.last + 1, a, [a], []⟩]⟩ := Good.add s.good h1 (by show a ∉ memsL _; rw [un_mems]; exact h2) (fun q hq i hi => by
    obtain ⟨p, hp, rfl⟩ := un_get hq
    have : i ∈ p.inv ∧ (!decide (i.who = a)) = true := List.mem_filter.1 hi
    simpa using this.2) (by simpa using h3) h4
  refine ⟨⟨ga, by show H.last ≤ H.last + 1; omega, Int.le_refl _, fun q hq => ?_⟩, ⟨by simp, by simp; omega, fun p hp hn => ?_⟩⟩
  · rcases List.mem_append.1 hq with hq | hq
    · rcases s.ids q hq with h | h
      · exact .inl h
      · have := (s.good.id q hq).2
        have h2 := h.2
        have h1 := h.1
        simp only at this h1 h2; omega
    · simp at hq; subst hq; exact .inr ⟨rfl, rfl⟩
  · obtain ⟨q, hq, h⟩ := o.oth p hp hn
    exact ⟨q, List.mem_append_left _ hq, h⟩
theorem step_inv {H H' : Hall} {a b : Int} (e : change (leadF a (invF b)) H = (H', 0)) : Stp H H' a ∧ Oth H H' a := by
  obtain ⟨g, h0, rfl⟩ := change_zero e
  obtain ⟨j, p, hj, hm, hl, h1, _⟩ := lead_zero h0
  rw [h1] at h0 ⊢
  obtain ⟨i1, i2, i3, i4, i5⟩ := inv_zero hj h0
  have hp : p ∈ H.ps := List.mem_of_getElem? hj
  rw [i5]
  have g' : Good ⟨H.tick, H.last, H.ps.take j ++ p :: H.ps.drop (j + 1)⟩ := by rw [← split_at hj]; exact g
  have gr := g'.rep (q := { p with inv := insInv b (H.tick + 600) p.inv }) rfl (g.ld p hp) (by simp only; rw [insInv_len i3]; omega) (insInv_sorted (g.so p hp)) (mem_nodup (p := p) g.nd hp) (fun m hm => .inl hm) (fun i hi => by
    rcases insInv_mem hi with rfl | h
    · refine .inr ⟨i1.1, i1.2, by rw [← split_at hj]; exact i2, fun hmem => i2 (mem_memsL.2 ⟨p, hp, hmem⟩), ?_, Int.le_refl _⟩
      show H.tick < H.tick + 600
      omega
    · exact .inl h)
  have := step_own hj hm (x := [{ p with inv := insInv b (H.tick + 600) p.inv }]) (by simp) (by simp) (by simpa using gr)
  simpa using this
theorem step_lv {H H' : Hall} {a : Int} (e : change (lvF a) H = (H', 0)) : Stp H H' a ∧ Oth H H' a := by
  obtain ⟨g, h0, rfl⟩ := change_zero e
  unfold lvF at h0 ⊢
  split at h0
  · exact absurd h0 (by simp)
  · rename_i h1
    have hm : a ∈ memsL H.ps := Classical.byContradiction fun hk => h1 (place_none hk)
    obtain ⟨j, p, h2, h3, h4⟩ := place_some hm
    have hj : (place H a - 1).toNat = j := by omega
    rw [if_neg h1, hj]
    exact step_leave g h2 h3 a
theorem step_kick {H H' : Hall} {a b : Int} (e : change (leadF a (kickF a b)) H = (H', 0)) : Stp H H' a ∧ Oth H H' a := by
  obtain ⟨g, h0, rfl⟩ := change_zero e
  obtain ⟨j, p, hj, hm, hl, h1, _⟩ := lead_zero h0
  rw [h1] at h0 ⊢
  unfold kickF at h0 ⊢
  split at h0
  · exact absurd h0 (by simp)
  · rename_i h2
    split at h0
    · exact absurd h0 (by simp)
    · rename_i h3
      rw [if_neg h2, if_neg h3]
      exact step_leave g hj hm b
theorem step_prom {H H' : Hall} {a b : Int} (e : change (leadF a (promF b)) H = (H', 0)) : Stp H H' a ∧ Oth H H' a := by
  obtain ⟨g, h0, rfl⟩ := change_zero e
  obtain ⟨j, p, hj, hm, hl, h1, _⟩ := lead_zero h0
  rw [h1] at h0 ⊢
  unfold promF at h0 ⊢
  split at h0
  · exact absurd h0 (by simp)
  · rename_i h2
    have hb : b ∈ memsL H.ps := place_pos.1 (by omega)
    obtain ⟨i, q, b1, b2, b3⟩ := place_some hb
    have : i = j := by omega
    subst this
    rw [hj] at b1; cases b1
    have hp : p ∈ H.ps := List.mem_of_getElem? hj
    rw [if_neg h2]
    simp only
    rw [modify_split hj]
    have g' : Good ⟨H.tick, H.last, H.ps.take i ++ p :: H.ps.drop (i + 1)⟩ := by rw [← split_at hj]; exact g
    have gr := g'.rep (q := { p with leader := b }) rfl b2 (g.sz p hp) (g.so p hp) (mem_nodup (p := p) g.nd hp) (fun m hm => .inl hm) (fun i hi => .inl hi)
    have := step_own hj hm (x := [{ p with leader := b }]) (by simp) (by simp) (by simpa using gr)
    simpa using this
theorem step_dis {H H' : Hall} {a : Int} (e : change (leadF a disF) H = (H', 0)) : Stp H H' a ∧ Oth H H' a := by
  obtain ⟨g, h0, rfl⟩ := change_zero e
  obtain ⟨j, p, hj, hm, hl, h1, _⟩ := lead_zero h0
  rw [h1]
  unfold disF
  simp only
  rw [List.eraseIdx_eq_take_drop_succ]
  have g' : Good ⟨H.tick, H.last, H.ps.take j ++ p :: H.ps.drop (j + 1)⟩ := by rw [← split_at hj]; exact g
  have := step_own hj hm (x := []) (by simp) (by simp) (by simpa using g'.del)
  simpa using this
theorem step_adv {H H' : Hall} {t : Int} (e : change (advF t) H = (H', 0)) : H.tick ≤ t ∧ t ≤ 1073741824 ∧ H' = ⟨t, H.last, H.ps.map (unF fun _ i => decide (i.til ≤ t))⟩ ∧ Stp H H' t := by
  obtain ⟨g, h0, rfl⟩ := change_zero e
  unfold advF at h0 ⊢
  split at h0
  · exact absurd h0 (by simp)
  · rename_i h1
    split at h0
    · exact absurd h0 (by simp)
    · rename_i h2
      rw [if_neg h1, if_neg h2]
      refine ⟨by omega, by omega, rfl, ⟨g.un t (by omega) (by omega) _ (fun p hp i hi h => by simpa using h), Int.le_refl _, by show H.tick ≤ t; omega, fun q hq => ?_⟩⟩
      obtain ⟨p, hp, rfl⟩ := un_get hq
      exact .inl ⟨p, hp, rfl⟩
theorem step_dec {H H' : Hall} {a b : Int} (e : change (ansF a b false) H = (H', 0)) : Stp H H' a ∧ Oth H H' a := by
  obtain ⟨g, h0, rfl⟩ := change_zero e
  rcases ans_cases a b false H with ⟨h1, _⟩ | ⟨j, p, hj, h1, h2, _, h3⟩
  · rw [h1] at h0; exact absurd h0 (by simp)
  · rw [h3, if_neg (by simp)]
    exact step_un g _ (fun p i h => by simp only [Bool.and_eq_true, decide_eq_true_eq] at h; exact h.1)
theorem step_acc {H H' : Hall} {a b : Int} (e : change (ansF a b true) H = (H', 0)) : Stp H H' a ∧ Oth H H' a := by
  obtain ⟨g, h0, rfl⟩ := change_zero e
  rcases ans_cases a b true H with ⟨h1, _⟩ | ⟨j, p, hj, h1, h2, _, h3⟩
  · rw [h1] at h0; exact absurd h0 (by simp)
  · rw [h3, if_pos rfl]
    have hp : p ∈ H.ps := List.mem_of_getElem? hj
    obtain ⟨i, hi, hw⟩ := List.any_eq_true.1 h2
    have hw : i.who = a := by simpa using hw
    obtain ⟨a1, a2, a3, _⟩ := g.iv p hp i hi
    rw [hw] at a1 a2 a3
    obtain ⟨s, o⟩ := step_un g (fun _ i => decide (i.who = a)) (fun p i h => by simpa using h)
    have hj' : (H.ps.map (unF fun _ i => decide (i.who = a)))[j]? = some (unF (fun _ i => decide (i.who = a)) p) := by rw [List.getElem?_map, hj]; rfl
    have g' := s.good
    rw [split_at hj'] at g'
    have hne : ∀ m ∈ p.mem, m ≠ a := fun m hm e => a3 (mem_memsL.2 ⟨p, hp, e ▸ hm⟩)
    have gr := g'.rep (q := { p with mem := p.mem ++ [a], inv := p.inv.filter fun i => !decide (i.who = a) }) rfl (List.mem_append_left _ (g.ld p hp)) (by
        have := g.sz p hp
        have h5 := filter_who h2
        simp only [List.length_append, List.length_singleton]
        omega) ((g.so p hp).filter _) (by
        simp only
        rw [List.nodup_append]
        exact ⟨mem_nodup g.nd hp, by simp, fun x hx y hy => by simp at hy; subst hy; exact hne x hx⟩) (fun m hm => by
        simp only [List.mem_append, List.mem_singleton] at hm
        rcases hm with hm | rfl
        · exact .inl hm
        · refine .inr ⟨a1, a2, by rw [← split_at hj', un_mems]; exact a3, fun q hq i hi => ?_⟩
          rw [← split_at hj'] at hq
          obtain ⟨p', hp', rfl⟩ := un_get hq
          have : i ∈ p'.inv ∧ (!decide (i.who = m)) = true := List.mem_filter.1 hi
          simpa using this.2) (fun i hi => .inl hi)
    have hpm : ∀ {x : Pty}, x ∈ H.ps.map (unF fun _ i => decide (i.who = a)) → x ≠ unF (fun _ i => decide (i.who = a)) p → x ∈ (H.ps.map (unF fun _ i => decide (i.who = a))).take j ++ ({ p with mem := p.mem ++ [a], inv := p.inv.filter fun i => !decide (i.who = a) } : Pty) :: (H.ps.map (unF fun _ i => decide (i.who = a))).drop (j + 1) := fun {x} hx hn => by
      rw [split_at hj'] at hx
      simp only [List.mem_append, List.mem_cons] at hx ⊢
      rcases hx with hx | hx | hx
      · exact .inl hx
      · exact absurd hx hn
      · exact .inr (.inr hx)
    have hlen : ((H.ps.map (unF fun _ i => decide (i.who = a))).take j ++ ({ p with mem := p.mem ++ [a], inv := p.inv.filter fun i => !decide (i.who = a) } : Pty) :: (H.ps.map (unF fun _ i => decide (i.who = a))).drop (j + 1)).length = H.ps.length := by
      have e1 := congrArg List.length (split_at hj')
      rw [List.length_map] at e1
      rw [e1]
      simp only [List.length_append, List.length_cons]
    refine ⟨⟨gr, Int.le_refl _, Int.le_refl _, fun q hq => .inl ?_⟩, ⟨by rw [hlen]; omega, by rw [hlen]; omega, fun q hq hn => ?_⟩⟩
    · simp only [List.mem_append, List.mem_cons] at hq
      rcases hq with hq | rfl | hq
      · obtain ⟨p', hp', rfl⟩ := un_get (List.mem_of_mem_take hq)
        exact ⟨p', hp', rfl⟩
      · exact ⟨p, hp, rfl⟩
      · obtain ⟨p', hp', rfl⟩ := un_get (List.mem_of_mem_drop hq)
        exact ⟨p', hp', rfl⟩
    · by_cases hqp : q = p
      · subst hqp
        exact ⟨_, List.mem_append_right _ (List.mem_cons_self ..), rfl, .inl (by simp)⟩
      · obtain ⟨q', hq', e', h⟩ := o.oth q hq hn
        refine ⟨q', hpm hq' (fun e => hqp ?_), e', h⟩
        rw [e] at e'
        exact g.uniq hq hp e'.symm
end Go.Proofs.YtljkhijdaaconaaGreat
