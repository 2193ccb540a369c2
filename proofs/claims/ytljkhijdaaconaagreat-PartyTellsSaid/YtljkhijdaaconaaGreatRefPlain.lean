/- The reference of chapter 36 and the program do the same, on plain data. -/
import Derived.Test.YtljkhijdaaconaaGreatRef2
import Derived.Test.YtljkhijdaaconaaGreatRef3
set_option linter.unusedVariables false
namespace Go.Proofs.YtljkhijdaaconaaGreat

theorem place_nn (H : Hall) (k : Int) : 0 ≤ place H k := by
  by_cases h : k ∈ memsL H.ps
  · obtain ⟨j, _, _, _, e⟩ := place_some h
    omega
  · rw [place_none h]; exact Int.le_refl _
theorem find_place {H : Hall} (g : Good H) (who : Int) : idxF (hasM who) 0 H.ps = place H who - 1 := by
  rcases idxF_spec (hasM who) H.ps 0 with ⟨h1, h2⟩ | ⟨j, p, h1, h2, h3⟩
  · have h3 := idxF_ge (hasM who) H.ps 0
    have h4 : place H who = 0 := place_none fun hm => by
      obtain ⟨p, hp, hw⟩ := mem_memsL.1 hm
      have := h2 p hp
      rw [hasM_iff.2 hw] at this; cases this
    omega
  · rw [h2, place_at g.nd h1 (hasM_iff.1 h3)]; omega
theorem kept_un {H : Hall} (g : Good H) {t who only : Int} {f : Pty → Inv → Bool} (h : ∀ p ∈ H.ps, ∀ i ∈ p.inv, (decide (t < i.til) && !(decide (i.who = who) && (decide (only = 0) || decide (only = p.id)))) = !f p i) : H.ps.map (keptF t who only) = H.ps.map (unF f) :=
  List.map_congr_left fun p hp => by
    unfold keptF unF
    congr 1
    exact List.filter_congr fun i hi => h p hp i hi
theorem kept_adv {H : Hall} (g : Good H) (t : Int) : H.ps.map (keptF t 0 0) = H.ps.map (unF fun _ i => decide (i.til ≤ t)) := kept_un g fun p hp i hi => by
  have h1 := (g.iv p hp i hi).1
  have h2 : decide (i.who = 0) = false := decide_eq_false (by omega)
  rw [h2]
  by_cases h : i.til ≤ t
  · simp [h, show ¬ t < i.til from by omega]
  · simp [h, show t < i.til from by omega]
theorem kept_who {H : Hall} (g : Good H) (who : Int) : H.ps.map (keptF H.tick who 0) = H.ps.map (unF fun _ i => decide (i.who = who)) := kept_un g fun p hp i hi => by
  have h1 := (g.iv p hp i hi).2.2.2.1
  simp [h1]
theorem kept_id {H : Hall} (g : Good H) (who id : Int) (hid : id ≠ 0) : H.ps.map (keptF H.tick who id) = H.ps.map (unF fun p i => decide (i.who = who) && decide (p.id = id)) := kept_un g fun p hp i hi => by
  have h1 := (g.iv p hp i hi).2.2.2.1
  have h2 : decide (id = p.id) = decide (p.id = id) := by
    by_cases h : id = p.id
    · simp [h]
    · rw [decide_eq_false h, decide_eq_false (fun e => h (Eq.symm e))]
  simp [h1, hid, h2]
theorem kept_len {H : Hall} (t who only : Int) (hq : ∀ p ∈ H.ps, p.mem.length ≤ 100 ∧ p.inv.length ≤ 100) : ∀ p ∈ H.ps.map (keptF t who only), p.mem.length ≤ 100 ∧ p.inv.length ≤ 100 := fun p hp => by
  obtain ⟨q, hq', rfl⟩ := List.mem_map.1 hp
  exact ⟨(hq q hq').1, Nat.le_trans (List.length_filter_le _ _) (hq q hq').2⟩
/-- Who leads, told in both ways. -/
theorem lead_both {H : Hall} (u : Int) (f : Nat → Hall → Hall × Int) : ((leadR u H).2 ≠ 0 ∧ change (leadF u f) H = (noHall, (leadR u H).2)) ∨
    ∃ (j : Nat) (p : Pty), leadR u H = ((j : Int), 0) ∧ Good H ∧ H.ps[j]? = some p ∧ u ∈ p.mem ∧ p.leader = u ∧ place H u = (j : Int) + 1 ∧ change (leadF u f) H = if (f j H).2 = 0 then ((f j H).1, 0) else (noHall, (f j H).2) := by
  cases hv : valid H with
  | false =>
    refine .inl ⟨by unfold leadR; rw [hv]; simp, ?_⟩
    rw [change_bad hv]
    unfold leadR; rw [hv]; rfl
  | true =>
    have g := valid_iff.1 hv
    have hf := find_place g u
    have hpl := place_nn H u
    by_cases h0 : place H u = 0
    · have e1 : leadR u H = (0, 6) := by unfold leadR; rw [if_pos hv, if_pos (by omega)]
      have e2 : leadF u f H = (H, 6) := by unfold leadF; rw [if_pos h0]
      rw [e1]
      exact .inl ⟨by decide, by rw [change_good g, e2]; rfl⟩
    · have hm : u ∈ memsL H.ps := Classical.byContradiction fun hk => h0 (place_none hk)
      obtain ⟨j, p, h1, h2, h3⟩ := place_some hm
      have hj : (place H u - 1).toNat = j := by omega
      have hj2 : (idxF (hasM u) 0 H.ps).toNat = j := by omega
      have e1 : leadR u H = if p.leader ≠ u then (0, 362) else ((j : Int), 0) := by
        unfold leadR
        rw [if_pos hv, if_neg (by omega), hj2, h1, hf, h3]
        simp
      have e2 : leadF u f H = if p.leader ≠ u then (H, 362) else f j H := by
        unfold leadF
        rw [if_neg h0, hj, h1]
      by_cases hl : p.leader = u
      · rw [if_neg (by simpa using hl)] at e1 e2
        refine .inr ⟨j, p, e1, g, h1, h2, hl, h3, ?_⟩
        rw [change_good g, e2]
      · rw [if_pos hl] at e1 e2
        rw [e1]
        exact .inl ⟨by decide, by rw [change_good g, e2]; rfl⟩
end Go.Proofs.YtljkhijdaaconaaGreat
