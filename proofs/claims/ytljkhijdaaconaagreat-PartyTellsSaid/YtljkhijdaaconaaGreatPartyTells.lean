/- The law PartyTells: all functions of the party chapter do as the reference does, for every hall and every row of things done. It answers true, and the input reads as it did. -/
import Derived.Test.YtljkhijdaaconaaGreatArgs
import Derived.Test.YtljkhijdaaconaaGreatLawTells
set_option linter.unusedVariables false
namespace Go.Proofs.YtljkhijdaaconaaGreat
open Go.RowKit Go.ChangeShapes Go.WideShapes Go.ChangeAt

theorem partyTells_types : ∀ t ∈ ([24, 25] : List TypeId), Tryz.prog.readableRec t = true ∧ t < Tryz.prog.types.size := by
  intro t ht
  simp only [List.mem_cons, List.not_mem_nil, or_false] at ht
  rcases ht with rfl | rfl
  · exact ⟨by kernel_rfl, of_decide_eq_true (by kernel_rfl)⟩
  · exact ⟨by kernel_rfl, of_decide_eq_true (by kernel_rfl)⟩
set_option maxRecDepth 100000 in
theorem partyTells_lifted (os : Os) (started : os.Started) (H : Type) (enc : TypeId × Value → H) :
    ReturnsInHanded {} Tryz.checked os 3 .any (Rows.partyTellsSpec.pre6 enc Tryz.prog Tryz.f3 Rows.partyTellsRow.domain false) (Rows.partyTellsSpec.post enc Tryz.prog Tryz.f3 false true false false) := by
  refine returnsInHanded_of_change_sized (C := Tryz.checked) own started (by kernel_rfl) Tryz.func3
    (ChangeSpec.witness6 (enc := enc) (C := Tryz.checked) false ⟨#[], #[.agg #[.int .i64 0, .int .i64 0, .slice none 0 0], .slice none 0 0], []⟩ 8 (by kernel_rfl) (by kernel_rfl) (by kernel_rfl) (by kernel_rfl)) ?_
  intro W base args ds gs before hval0 hW _ hz0 _
  have hval : ∀ (j : Nat) t v, Tryz.f3.params[j]? = some t → args[j]? = some v → Value.okWide Tryz.prog W .any base t v := hval0
  have hz := hz0
  have hW' := hW
  obtain ⟨p, q, hA0, hV, rfl, hfz, hnd⟩ := hW
  have hA : DataW.TrodAll enc Tryz.prog W 0 (fun _ => true) true Tryz.f3.params.toList args.toList ds p := hA0
  rw [Tryz.params3] at hA hval
  have hA2 := hA
  obtain ⟨v1, v2, d1, d2, p1, p2, rfl, rfl, rfl, h1, h2⟩ := trodAll_two hA
  obtain ⟨rfl, rfl⟩ := trodVars_none hV
  have hw1 : ∀ z ∈ d1.weights Tryz.prog 24, z ≤ reachBytes := fun z hz' => by
    have := List.all_eq_true.1 hz z (DataW.weights_mem_each (j := 0) (t := 24) (by rfl) rfl z hz')
    simpa using this
  have hw2 : ∀ z ∈ d2.weights Tryz.prog 25, z ≤ reachBytes := fun z hz' => by
    have := List.all_eq_true.1 hz z (DataW.weights_mem_each (j := 1) (t := 25) (by rfl) rfl z hz')
    simpa using this
  obtain ⟨A1, n1, c1, H1, rfl, hP1⟩ := hall_arg (hval 0 24 v1 rfl rfl) h1 hw1
  obtain ⟨A2, n2, c2, l2, rfl, hP2⟩ := dos_arg (hval 1 25 v2 rfl rfl) h2 hw2
  clear hA0 hval0
  refine (partyTells_c H1 A1 n1 c1 l2 A2 n2 c2 W hP1 hP2).mono fun e W' ⟨he, hg⟩ => ?_
  subst he
  exact ⟨_, rfl, post_gr hW' hg (fun _ _ _ => (trodAll_cons_mk (shut_bool Tryz.underlying4 _) trodAll_mk0))
    (fun sp hsp => by
      have := all_stays (sp := sp) laid partyTells_types hA2 (fun p hp => Below.same hg (hW'.lt p (by simpa using hp))) (fun p hp => hsp p (by simpa using hp))
      simp only [List.append_nil] at this ⊢
      rw [Tryz.params3]
      exact this) (fun _ => rfl)
    (ok_one (by kernel_rfl) rfl (okWide_bool_mk Tryz.underlying4 _))⟩
theorem partyTells_over : Rows.partyTellsRow.holds Tryz.pinned (OpenSpec.ofChange Rows.partyTellsSpec) :=
  OpenClaim.holds_of_wide 3 Tryz.f3 rfl rfl rfl rfl rfl rfl rfl ⟨rfl, rfl, rfl, rfl, rfl⟩ rfl rfl rfl rfl rfl (by kernel_rfl) Tryz.func3 (by kernel_rfl)
    (of_decide_eq_true (by kernel_rfl)) (by unfold Func.isWrapper; first | (rw [if_pos (by decide +kernel)]; kernel_rfl) | (rw [if_neg (by decide +kernel)]; exact ⟨rfl, rfl⟩))
    (fun os started H enc _ => partyTells_lifted os started H enc)
theorem partyTells_proved : Rows.PartyTellsSaid := partyTells_over
end Go.Proofs.YtljkhijdaaconaaGreat
