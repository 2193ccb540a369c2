/- The laws of chapter 36 on plain data: what one does, Of, find. The laws of chapter 36 on plain data: leaving, answering, time. -/
import Derived.Test.YtljkhijdaaconaaGreatGood
import Derived.Test.YtljkhijdaaconaaGreatSame
set_option linter.unusedVariables false
namespace Go.Proofs.YtljkhijdaaconaaGreat

theorem step_one {H H' : Hall} {k a b : Int} (e : oneF H k a b = (H', 0)) : Stp H H' a ∧ (pickF k 9 ≠ 0 → Oth H H' a) := by
  unfold oneF at e
  split at e
  · rename_i h
    obtain ⟨_, _, _, s⟩ := step_adv e
    exact ⟨⟨s.good, s.last, s.tick, s.ids⟩, fun hn => absurd h hn⟩
  · have fin : Stp H H' a ∧ Oth H H' a → Stp H H' a ∧ (pickF k 9 ≠ 0 → Oth H H' a) := fun h => ⟨h.1, fun _ => h.2⟩
    split at e
    · exact fin (step_cre e)
    · split at e
      · exact fin (step_inv e)
      · split at e
        · exact fin (step_acc e)
        · split at e
          · exact fin (step_dec e)
          · split at e
            · exact fin (step_lv e)
            · split at e
              · exact fin (step_kick e)
              · split at e
                · exact fin (step_prom e)
                · exact fin (step_dis e)
theorem ofF_mem {H : Hall} (g : Good H) {p : Pty} (hp : p ∈ H.ps) {a : Int} (ha : a ∈ p.mem) : ofF a H = (p, true) := by
  obtain ⟨j, hj⟩ := List.mem_iff_getElem?.1 hp
  have h1 := place_at g.nd hj ha
  unfold ofF
  rw [if_pos (valid_iff.2 g), if_neg (by omega), show (place H a - 1).toNat = j from by omega, hj]
theorem ofF_none {H : Hall} (g : Good H) {a : Int} (ha : a ∉ memsL H.ps) : ofF a H = (noPty, false) := by
  unfold ofF
  rw [if_pos (valid_iff.2 g), if_pos (place_none ha)]
theorem ofF_cases {H : Hall} (g : Good H) (a : Int) : (a ∉ memsL H.ps ∧ ofF a H = (noPty, false)) ∨ ∃ p ∈ H.ps, a ∈ p.mem ∧ ofF a H = (p, true) := by
  by_cases h : a ∈ memsL H.ps
  · obtain ⟨p, hp, ha⟩ := mem_memsL.1 h
    exact .inr ⟨p, hp, ha, ofF_mem g hp ha⟩
  · exact .inl ⟨h, ofF_none g h⟩
theorem findF_mem {H : Hall} (g : Good H) {p : Pty} (hp : p ∈ H.ps) : findF p.id H.ps = (p, true) := by
  unfold findF
  cases h : H.ps.find? (fun q => decide (q.id = p.id)) with
  | none => exact absurd (List.find?_eq_none.1 h p hp) (by simp)
  | some q =>
    have h1 := List.mem_of_find?_eq_some h
    have h2 := List.find?_some h
    rw [g.uniq h1 hp (by simpa using h2)]
theorem findF_cases (id : Int) (ps : List Pty) : (findF id ps = (noPty, false) ∧ ∀ p ∈ ps, p.id ≠ id) ∨ ∃ p ∈ ps, p.id = id ∧ findF id ps = (p, true) := by
  unfold findF
  cases h : ps.find? (fun q => decide (q.id = id)) with
  | none => exact .inl ⟨rfl, fun p hp => by simpa using List.find?_eq_none.1 h p hp⟩
  | some q => exact .inr ⟨q, List.mem_of_find?_eq_some h, by simpa using List.find?_some h, rfl⟩
theorem others_at {H H' : Hall} {a : Int} (g : Good H) (s : Stp H H' a) (o : Oth H H' a) {p : Pty} (hp : p ∈ H.ps) (h1 : p.id ≠ (ofF a H).1.id) (h2 : p.id ≠ (ofF a H').1.id) :
    ∃ (q : Pty) (f : Inv → Bool), findF p.id H'.ps = (q, true) ∧ q.leader = p.leader ∧ q.mem = p.mem ∧ q.inv = p.inv.filter f ∧ ∀ i ∈ p.inv, f i = false → i.who = a := by
  have hn : a ∉ p.mem := fun h => h1 (by rw [ofF_mem g hp h])
  obtain ⟨q, hq, e, h⟩ := o.oth p hp hn
  rcases h with h | ⟨e1, e2, f, e3, e4⟩
  · exact absurd (by rw [ofF_mem s.good hq h, e]) h2
  · exact ⟨q, f, by rw [← e]; exact findF_mem s.good hq, e1, e2, e3, e4⟩
end Go.Proofs.YtljkhijdaaconaaGreat

namespace Go.Proofs.YtljkhijdaaconaaGreat

theorem filter_nodup {who : Int} : ∀ {l : List Int}, l.Nodup → who ∈ l → (l.filter fun m => !decide (m = who)).length + 1 = l.length
  | [], _, h => by cases h
  | x :: l, hn, h => by
    obtain ⟨h1, h2⟩ := List.nodup_cons.1 hn
    rw [List.filter_cons]
    by_cases hx : x = who
    · subst hx
      have e : l.filter (fun m => !decide (m = x)) = l := List.filter_eq_self.2 fun m hm => by
        simp only [Bool.not_eq_true', decide_eq_false_iff_not]
        exact fun e => h1 (e ▸ hm)
      rw [if_neg (by simp), e]; rfl
    · rw [if_pos (by simp [hx])]
      rcases List.mem_cons.1 h with e | hm
      · exact absurd e.symm hx
      · have := filter_nodup h2 hm
        simp only [List.length_cons]; omega
theorem findF_none {id : Int} {ps : List Pty} (h : ∀ p ∈ ps, p.id ≠ id) : findF id ps = (noPty, false) := by
  rcases findF_cases id ps with ⟨e, _⟩ | ⟨p, hp, e, _⟩
  · exact e
  · exact absurd e (h p hp)
theorem leaves_plain {H : Hall} {who : Int} {p : Pty} (g : Good H) (hp : p ∈ H.ps) (hw : who ∈ p.mem) :
    ∃ N : Hall, change (lvF who) H = (N, 0) ∧ Good N ∧ ofF who N = (noPty, false) ∧ change (leadF p.leader (kickF p.leader who)) H = (if p.leader = who then (noHall, 2) else (N, 0)) ∧
      ((p.mem.length = 1 ∧ findF p.id N.ps = (noPty, false) ∧ N.ps.length + 1 = H.ps.length) ∨
       (p.mem.length ≠ 1 ∧ ∃ m ms q, p.mem.filter (fun m => !decide (m = who)) = m :: ms ∧ findF p.id N.ps = (q, true) ∧ q.mem = m :: ms ∧ q.inv = p.inv ∧ q.leader = if p.leader = who then m else p.leader)) := by
  obtain ⟨j, hj⟩ := List.mem_iff_getElem?.1 hp
  have h1 := place_at g.nd hj hw
  have h2 := place_at g.nd hj (g.ld p hp)
  have e1 : lvF who H = (leaveF j who H, 0) := by
    unfold lvF
    rw [if_neg (by omega), show (place H who - 1).toNat = j from by omega]
  have gN : Good (leaveF j who H) := Good.leave g hj who
  have hs := split_at hj
  have hlen : H.ps.length = (H.ps.take j).length + (H.ps.drop (j + 1)).length + 1 := by
    conv => lhs; rw [hs]
    simp only [List.length_append, List.length_cons]; omega
  have hout : ∀ q, q ∈ H.ps.take j ∨ q ∈ H.ps.drop (j + 1) → who ∉ q.mem ∧ q.id ≠ p.id := fun q hq => by
    have hq' : q ∈ H.ps := by
      rcases hq with h | h
      · exact List.mem_of_mem_take h
      · exact List.mem_of_mem_drop h
    have hn := g.nd
    have hpw := g.pw
    rw [hs, List.pairwise_append, List.pairwise_cons] at hpw
    refine ⟨fun hm => ?_, fun e => ?_⟩
    · rw [hs, memsL_app, memsL_cons, List.nodup_append, List.nodup_append] at hn
      rcases hq with h | h
      · exact hn.2.2 who (mem_memsL.2 ⟨q, h, hm⟩) who (by simp [hw]) rfl
      · exact hn.2.1.2.2 who hw who (mem_memsL.2 ⟨q, h, hm⟩) rfl
    · rcases hq with h | h
      · have := hpw.2.2 q h p (by simp); omega
      · have := hpw.2.1.1 q h; omega
  have hf := filter_nodup (mem_nodup g.nd hp) hw
  refine ⟨leaveF j who H, by rw [change_good g, e1]; rfl, gN, ?_, ?_, ?_⟩
  · refine ofF_none gN fun hm => ?_
    obtain ⟨q, hq, hwq⟩ := mem_memsL.1 hm
    unfold leaveF at hq
    rcases leave_cases who hj with ⟨_, e⟩ | ⟨m, ms, e0, e⟩
    · simp only [e, List.mem_append] at hq
      exact (hout q hq).1 hwq
    · simp only [e, List.mem_append, List.mem_cons] at hq
      rcases hq with hq | rfl | hq
      · exact (hout q (.inl hq)).1 hwq
      · have hwq' : who ∈ m :: ms := hwq
        rw [← e0] at hwq'
        simpa using (List.mem_filter.1 hwq').2
      · exact (hout q (.inr hq)).1 hwq
  · have e2 : leadF p.leader (kickF p.leader who) H = kickF p.leader who j H := by
      unfold leadF
      rw [if_neg (by omega), show (place H p.leader - 1).toNat = j from by omega, hj]
      simp
    rw [change_good g, e2]
    have hpl : ¬ place H who ≠ (j : Int) + 1 := fun h => h h1
    by_cases hl : p.leader = who
    · have e3 : kickF p.leader who j H = (H, 2) := by unfold kickF; rw [if_neg hpl, if_pos hl.symm]
      rw [e3, if_pos hl]; rfl
    · have e3 : kickF p.leader who j H = (leaveF j who H, 0) := by unfold kickF; rw [if_neg hpl, if_neg (fun e => hl e.symm)]
      rw [e3, if_neg hl]; rfl
  · rcases leave_cases who hj with ⟨e0, e⟩ | ⟨m, ms, e0, e⟩
    · refine .inl ⟨by rw [e0] at hf; simp at hf; omega, ?_, ?_⟩
      · refine findF_none fun q hq => ?_
        simp only [leaveF, e, List.mem_append] at hq
        exact (hout q hq).2
      · simp only [leaveF, e, List.length_append]; omega
    · refine .inr ⟨by rw [e0] at hf; simp at hf; omega, m, ms, { p with mem := m :: ms, leader := if p.leader = who then m else p.leader }, e0, ?_, rfl, rfl, rfl⟩
      have hq : ({ p with mem := m :: ms, leader := if p.leader = who then m else p.leader } : Pty) ∈ (leaveF j who H).ps := by
        simp only [leaveF, e, List.mem_append, List.mem_cons]
        exact .inr (.inl trivial)
      exact findF_mem gN hq

/-! ### Answers -/
def cntW (who : Int) (l : List Inv) : Nat := (l.filter fun i => decide (i.who = who)).length
/-- How often somebody is invited to parties of which c is true. -/
def cntP (who : Int) (c : Pty → Bool) : List Pty → Nat
  | [] => 0
  | p :: ps => (if c p then cntW who p.inv else 0) + cntP who c ps
theorem cntP_snoc (who : Int) (c : Pty → Bool) (ps : List Pty) (p : Pty) : cntP who c (ps ++ [p]) = cntP who c ps + if c p then cntW who p.inv else 0 := by
  induction ps with
  | nil => simp [cntP]
  | cons q ps ih => simp only [List.cons_append, cntP, ih]; omega
theorem cntW_snoc (who : Int) (l : List Inv) (i : Inv) : cntW who (l ++ [i]) = cntW who l + if i.who = who then 1 else 0 := by
  unfold cntW
  rw [List.filter_append, List.length_append]
  by_cases h : i.who = who <;> simp [h]
theorem cntW_any {who : Int} {l : List Inv} : cntW who l = 0 ↔ l.any (fun i => decide (i.who = who)) = false := by
  unfold cntW
  rw [List.length_eq_zero_iff, List.filter_eq_nil_iff, List.any_eq_false]
theorem cntP_zero {who : Int} {c : Pty → Bool} {ps : List Pty} (h : cntP who c ps = 0) : ∀ p ∈ ps, c p = true → cntW who p.inv = 0 := by
  induction ps with
  | nil => intro p hp; cases hp
  | cons q ps ih =>
    intro p hp hc
    simp only [cntP] at h
    rcases List.mem_cons.1 hp with rfl | hp
    · rw [if_pos hc] at h; omega
    · exact ih (by omega) p hp hc
theorem cntP_pos {who : Int} {c : Pty → Bool} {ps : List Pty} (h : cntP who c ps ≠ 0) : ∃ p ∈ ps, c p = true ∧ cntW who p.inv ≠ 0 := by
  induction ps with
  | nil => exact absurd rfl h
  | cons q ps ih =>
    simp only [cntP] at h
    by_cases h0 : cntP who c ps = 0
    · by_cases hc : c q = true
      · rw [if_pos hc] at h
        exact ⟨q, by simp, hc, by omega⟩
      · rw [if_neg hc] at h; omega
    · obtain ⟨p, hp, h1⟩ := ih h0
      exact ⟨p, by simp [hp], h1⟩
theorem cntW_filter (who : Int) (l : List Inv) : cntW who (l.filter fun i => !decide (i.who = who)) = 0 := by
  rw [cntW_any, List.any_eq_false]
  intro i hi
  have := (List.mem_filter.1 hi).2
  simpa using this
theorem filter_sorted {who : Int} : ∀ {l : List Inv}, l.Pairwise (fun i j => i.who < j.who) → l.any (fun i => decide (i.who = who)) = true → (l.filter fun i => !decide (i.who = who)).length + 1 = l.length
  | [], _, h => by simp at h
  | x :: l, hs, h => by
    obtain ⟨h1, h2⟩ := List.pairwise_cons.1 hs
    rw [List.filter_cons]
    by_cases hx : x.who = who
    · have e : l.filter (fun i => !decide (i.who = who)) = l := List.filter_eq_self.2 fun i hi => by
        have := h1 i hi
        simp only [Bool.not_eq_true', decide_eq_false_iff_not]
        omega
      rw [if_neg (by simp [hx]), e]; rfl
    · rw [if_pos (by simp [hx])]
      simp only [List.any_cons, hx, decide_false, Bool.false_or] at h
      have := filter_sorted h2 h
      simp only [List.length_cons]; omega
theorem cntP_un {who id : Int} (ps : List Pty) : cntP who (fun _ => true) (ps.map (unF fun p i => decide (i.who = who) && decide (p.id = id))) = cntP who (fun p => !decide (p.id = id)) ps := by
  induction ps with
  | nil => rfl
  | cons p ps ih =>
    simp only [List.map_cons, cntP, ih, if_true]
    congr 1
    by_cases h : p.id = id
    · have e : (unF (fun p i => decide (i.who = who) && decide (p.id = id)) p).inv = p.inv.filter fun i => !decide (i.who = who) := by
        simp only [unF, h, decide_true, Bool.and_true]
      rw [e, cntW_filter]
      simp [h]
    · have e : (unF (fun p i => decide (i.who = who) && decide (p.id = id)) p).inv = p.inv := by
        simp only [unF, h, decide_false, Bool.and_false, Bool.not_false]
        exact (filter_tt _).symm
      rw [e]
      simp [h]
theorem joins_none {H : Hall} {who id : Int} (g : Good H) (h : cntP who (fun p => decide (p.id = id)) H.ps = 0) (yes : Bool) : change (ansF who id yes) H = (noHall, 6) := by
  rcases ans_cases who id yes H with ⟨h1, _⟩ | ⟨j, p, hj, h1, h2, _⟩
  · rw [change_good g, h1]; rfl
  · have := cntP_zero h p (List.mem_of_getElem? hj) (by simpa using h1)
    rw [cntW_any, h2] at this; cases this
theorem joins_plain {H : Hall} {who id : Int} (g : Good H) (h : cntP who (fun p => decide (p.id = id)) H.ps ≠ 0) :
    ∃ (p q : Pty) (Y N : Hall) (r : Pty), findF id H.ps = (p, true) ∧ change (ansF who id true) H = (Y, 0) ∧ change (ansF who id false) H = (N, 0) ∧ ofF who Y = (q, true) ∧ q.id = id ∧ q.leader = p.leader ∧ q.mem = p.mem ++ [who] ∧
      findF id N.ps = (r, true) ∧ r.mem = p.mem ∧ r.inv.length + 1 = p.inv.length ∧ cntP who (fun _ => true) N.ps = cntP who (fun p => !decide (p.id = id)) H.ps ∧ change (ansF who id false) N = (noHall, 6) := by
  obtain ⟨p, hp, hid, hw⟩ := cntP_pos h
  have hid : p.id = id := by simpa using hid
  have hany : p.inv.any (fun i => decide (i.who = who)) = true := by
    cases e : p.inv.any (fun i => decide (i.who = who)) with
    | true => rfl
    | false => exact absurd (cntW_any.2 e) hw
  have hf : findF id H.ps = (p, true) := by rw [← hid]; exact findF_mem g hp
  have key : ∀ yes, ∃ j, H.ps[j]? = some p ∧ (ansF who id yes H).2 = 0 ∧
      (ansF who id yes H).1 = ⟨H.tick, H.last, if yes = true then
        (H.ps.map (unF fun _ i => decide (i.who = who))).take j ++ { p with mem := p.mem ++ [who], inv := p.inv.filter fun i => !decide (i.who = who) } :: (H.ps.map (unF fun _ i => decide (i.who = who))).drop (j + 1)
        else H.ps.map (unF fun p i => decide (i.who = who) && decide (p.id = id))⟩ := fun yes => by
    rcases ans_cases who id yes H with ⟨_, h2⟩ | ⟨j, p', hj, h1, h2, h3, h4⟩
    · have := h2 p hp
      simp only [askP, hid, decide_true, Bool.true_and, hany] at this
      cases this
    · have : p' = p := g.uniq (List.mem_of_getElem? hj) hp (h1.trans hid.symm)
      subst this
      exact ⟨j, hj, h3, h4⟩
  obtain ⟨j, hj, y1, y2⟩ := key true
  obtain ⟨_, _, n1, n2⟩ := key false
  rw [if_pos rfl] at y2
  rw [if_neg (by simp)] at n2
  have eY : change (ansF who id true) H = ((ansF who id true H).1, 0) := by rw [change_good g, if_pos y1]
  have eN : change (ansF who id false) H = ((ansF who id false H).1, 0) := by rw [change_good g, if_pos n1]
  have gY := (step_acc eY).1.good
  have gN := (step_dec eN).1.good
  have hr : unF (fun p i => decide (i.who = who) && decide (p.id = id)) p ∈ (ansF who id false H).1.ps := by
    rw [n2]; exact List.mem_map_of_mem hp
  have einv : (unF (fun p i => decide (i.who = who) && decide (p.id = id)) p).inv = p.inv.filter fun i => !decide (i.who = who) := by
    simp only [unF, hid, decide_true, Bool.and_true]
  have fN : findF id (ansF who id false H).1.ps = (unF (fun p i => decide (i.who = who) && decide (p.id = id)) p, true) := by
    have := findF_mem gN hr
    rw [show (unF (fun p i => decide (i.who = who) && decide (p.id = id)) p).id = id from hid] at this
    exact this
  refine ⟨p, { p with mem := p.mem ++ [who], inv := p.inv.filter fun i => !decide (i.who = who) }, _, _, _, hf, eY, eN, ?_, hid, rfl, rfl, fN, rfl, ?_, ?_, ?_⟩
  · refine ofF_mem gY ?_ (by simp)
    rw [y2]
    exact List.mem_append_right _ (List.mem_cons_self ..)
  · rw [einv]; exact filter_sorted (g.so p hp) hany
  · rw [n2]; exact cntP_un _
  · refine joins_none gN ?_ false
    refine Classical.byContradiction fun hne => ?_
    obtain ⟨q, hq, hq1, hq2⟩ := cntP_pos hne
    have : q = unF (fun p i => decide (i.who = who) && decide (p.id = id)) p := gN.uniq hq hr ((by simpa using hq1 : q.id = id).trans hid.symm)
    subst this
    rw [einv, cntW_filter] at hq2
    exact hq2 rfl
/-! ### Time -/
theorem adv_good {H : Hall} (g : Good H) {t : Int} (h1 : H.tick ≤ t) (h2 : t ≤ 1073741824) : change (advF t) H = (⟨t, H.last, H.ps.map (unF fun _ i => decide (i.til ≤ t))⟩, 0) := by
  have h0 := g.ti0
  have e : advF t H = (⟨t, H.last, H.ps.map (unF fun _ i => decide (i.til ≤ t))⟩, 0) := by
    unfold advF
    rw [if_neg (by omega), if_neg (by omega)]
  rw [change_good g, e]; rfl
theorem adv_back {H : Hall} (g : Good H) (h : 0 < H.tick) : change (advF (H.tick - 1)) H = (noHall, 360) := by
  have h1 := g.ti1
  have e : advF (H.tick - 1) H = (H, 360) := by
    unfold advF
    rw [if_neg (by omega), if_pos (by omega)]
  rw [change_good g, e]; rfl
theorem un_un (ps : List Pty) (t u : Int) (h : t ≤ u) : (ps.map (unF fun _ i => decide (i.til ≤ t))).map (unF fun _ i => decide (i.til ≤ u)) = ps.map (unF fun _ i => decide (i.til ≤ u)) := by
  rw [List.map_map]
  refine List.map_congr_left fun p _ => ?_
  simp only [Function.comp, unF, List.filter_filter]
  congr 1
  refine List.filter_congr fun i _ => ?_
  by_cases h1 : i.til ≤ u
  · simp [h1]
  · simp [h1, show ¬ i.til ≤ t from by omega]
end Go.Proofs.YtljkhijdaaconaaGreat
