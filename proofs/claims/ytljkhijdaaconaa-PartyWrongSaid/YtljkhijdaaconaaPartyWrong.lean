/- The law PartyWrong: a hall with one fault is not valid, and nothing can be done in it. For every hall, everything that is done and every fault it answers true, and the input reads as it did. -/
import Derived.Test.YtljkhijdaaconaaArgs
import Derived.Test.YtljkhijdaaconaaLawWrong
set_option linter.unusedVariables false
namespace Go.Proofs.Ytljkhijdaaconaa
open Go.RowKit Go.ChangeShapes Go.WideShapes Go.ChangeAt

theorem partyWrong_types : ∀ t ∈ ([24, 32, 5] : List TypeId), Try.prog.readableRec t = true ∧ t < Try.prog.types.size := by
  intro t ht
  simp only [List.mem_cons, List.not_mem_nil, or_false] at ht
  rcases ht with rfl | rfl | rfl
  · exact ⟨by kernel_rfl, of_decide_eq_true (by kernel_rfl)⟩
  · exact ⟨by kernel_rfl, of_decide_eq_true (by kernel_rfl)⟩
  · exact ⟨by kernel_rfl, of_decide_eq_true (by kernel_rfl)⟩
set_option maxRecDepth 100000 in
theorem partyWrong_lifted (os : Os) (started : os.Started) (H : Type) (enc : TypeId × Value → H) :
    ReturnsInHanded {} Try.checked os 9 .any (Rows.partyWrongSpec.pre6 enc Try.prog Try.f9 Rows.partyWrongRow.domain false) (Rows.partyWrongSpec.post enc Try.prog Try.f9 false true false false) := by
  refine returnsInHanded_of_change_sized (C := Try.checked) own started (by kernel_rfl) Try.func9
    (ChangeSpec.witness6 (enc := enc) (C := Try.checked) false ⟨#[], #[.agg #[.int .i64 0, .int .i64 0, .slice none 0 0], .agg #[.int .i64 0, .int .i64 0, .int .i64 0], .int .u8 0], []⟩ 8 (by kernel_rfl) (by kernel_rfl) (by kernel_rfl) (by kernel_rfl)) ?_
  intro W base args ds gs before hval0 hW _ hz0 _
  have hval : ∀ (j : Nat) t v, Try.f9.params[j]? = some t → args[j]? = some v → Value.okWide Try.prog W .any base t v := hval0
  have hz := hz0
  have hW' := hW
  obtain ⟨p, q, hA0, hV, rfl, hfz, hnd⟩ := hW
  have hA : DataW.TrodAll enc Try.prog W 0 (fun _ => true) true Try.f9.params.toList args.toList ds p := hA0
  rw [Try.params9] at hA hval
  have hA2 := hA
  obtain ⟨v1, v2, v3, d1, d2, d3, p1, p2, p3, rfl, rfl, rfl, h1, h2, h3⟩ := trodAll_three hA
  obtain ⟨rfl, rfl⟩ := trodVars_none hV
  have hw1 : ∀ z ∈ d1.weights Try.prog 24, z ≤ reachBytes := fun z hz' => by
    have := List.all_eq_true.1 hz z (DataW.weights_mem_each (j := 0) (t := 24) (by rfl) rfl z hz')
    simpa using this
  obtain ⟨A1, n1, c1, H1, rfl, hP1⟩ := hall_arg (hval 0 24 v1 rfl rfl) h1 hw1
  obtain ⟨k2, a2, b2, rfl⟩ := do_arg (hval 1 32 v2 rfl rfl) h2
  obtain ⟨x3, rfl, rfl, rfl, wx3⟩ := open_int Try.underlying5 (hval 2 5 v3 rfl rfl) h3
  clear hA0 hval0
  refine (partyWrong_c k2 a2 b2 x3 (wf_u8 wx3) H1 A1 n1 c1 W hP1).mono fun e W' ⟨he, hg⟩ => ?_
  subst he
  exact ⟨_, rfl, post_gr hW' hg (fun _ _ _ => (trodAll_cons_mk (shut_bool Try.underlying4 _) trodAll_mk0))
    (fun sp hsp => by
      have := all_stays (sp := sp) laid partyWrong_types hA2 (fun p hp => Below.same hg (hW'.lt p (by simpa using hp))) (fun p hp => hsp p (by simpa using hp))
      simp only [List.append_nil] at this ⊢
      rw [Try.params9]
      exact this) (fun _ => rfl)
    (ok_one (by kernel_rfl) rfl (okWide_bool_mk Try.underlying4 _))⟩
theorem partyWrong_over : Rows.partyWrongRow.holds Try.pinned (OpenSpec.ofChange Rows.partyWrongSpec) :=
  OpenClaim.holds_of_wide 9 Try.f9 rfl rfl rfl rfl rfl rfl rfl ⟨rfl, rfl, rfl, rfl, rfl⟩ rfl rfl rfl rfl rfl (by kernel_rfl) Try.func9 (by kernel_rfl)
    (of_decide_eq_true (by kernel_rfl)) (by unfold Func.isWrapper; first | (rw [if_pos (by decide +kernel)]; kernel_rfl) | (rw [if_neg (by decide +kernel)]; exact ⟨rfl, rfl⟩))
    (fun os started H enc _ => partyWrong_lifted os started H enc)
theorem partyWrong_proved : Rows.PartyWrongSaid := partyWrong_over
end Go.Proofs.Ytljkhijdaaconaa
