/- The iterator over all members. -/
import Derived.Test.YtljkhijdaaconaaGreatLeaf
import Derived.Test.YtljkhijdaaconaaGreatMap
import Derived.RangeFuncBox
import Derived.RangeFuncLeaves
import Derived.RangeFuncWrites
import Derived.OwnWalkIn
import Derived.TacticsInMore
import Derived.LoopNIn
import Derived.LoopIn
set_option linter.unusedVariables false
namespace Go.Proofs.YtljkhijdaaconaaGreat
open Go.RowKit Go.Shelf

attribute [local go_sem] Oper.semAt_some

/-- A place and a member. -/
abbrev PI := { x : Int × Int // 0 ≤ x.1 ∧ x.1 ≤ 140737488355328 }

theorem abides_alloc {β : Type} {B : Nat} {J : β → World → Prop} (h : AbidesFrom B J) {s : β} {W : World} (o : Obj) (hs : J s W) : J s (W.alloc o) :=
  h s W _ none hs (World.grownBy_alloc W o none) (fun r e => by cases e)

set_option maxHeartbeats 1000000 in
theorem members_in (A : Option Addr) (n c : Nat) (t l : Int) (w : World) :
    CallsIn Fence.wide 3 Tryz.prog 63 #[.agg #[.int .i64 t, .int .i64 l, .slice A n c]] w fun e w' => e = .returned (.func (.func 98) #[] #[.pointer (some ⟨w.heap.size, 0, none⟩)]) ∧ w' = w.alloc (.cells #[.int .i64 t, .int .i64 l, .slice A n c] 24) := by
  refine callsIn_of_wp Tryz.func63 rfl trivial ?_ rfl
  simp only [Tryz.ntmps63, List.size_toArray, List.length_cons, List.length_nil, Nat.reduceAdd, Nat.reduceSub, Array.replicate_succ, Array.replicate_zero, List.push_toArray, List.append_toArray, List.nil_append, List.cons_append]
  gi_wp2
  go_ret
  exact ⟨rfl, rfl⟩

set_option maxRecDepth 100000 in
set_option maxHeartbeats 2000000 in
theorem members1_in (l Bn n₀ : Nat) (A : Option Addr) (n c : Nat) (t la : Int) (ps : List Pty) (w : World) (hn₀ : n₀ = w.heap.size) (hP : Ptys w A n ps) (J Jx : List PI → World → Prop) (W : World) (hW : Below n₀ w W) (hJ : AbidesFrom W.heap.size J)
    (hY : ∀ pre (x : PI) W1, J pre W1 → pre.length < (pairsF 0 ps).length → YieldAt Fence.wide 2 Tryz.prog l #[.int .i64 x.1.1, .int .i64 x.1.2] W1 fun e W' =>
      (e = .returned (.bool true) ∧ J (pre ++ [x]) W' ∧ Below n₀ W1 W') ∨ (e = .returned (.bool false) ∧ Jx (pre ++ [x]) W'))
    (hB : W.heap[Bn]? = some (.cells #[.int .i64 t, .int .i64 la, .slice A n c] 24)) (h0 : J [] W) :
    CallsIn Fence.wide 3 Tryz.prog 98 #[.func (.yield l) #[] #[], .pointer (some ⟨Bn, 0, none⟩)] W fun e W' => (∃ v, e = .returned v) ∧
      ((∃ ys : List PI, ys.map (·.1) = pairsF 0 ps ∧ J ys W') ∨ ∃ pre, Jx pre W') := by
  subst hn₀
  have hl := hid hP.len
  have hn := hP.le
  have HP := hid hP
  clear hP
  have HY := hid hY
  clear hY
  refine callsIn_of_wp Tryz.func98 rfl trivial ?_ rfl
  simp only [Tryz.ntmps98, List.size_toArray, List.length_cons, List.length_nil, Nat.reduceAdd, Nat.reduceSub, Array.replicate_succ, Array.replicate_zero, List.push_toArray, List.append_toArray, List.nil_append, List.cons_append]
  have hc2 : W.cell? ⟨Bn, 2, none⟩ = some (.slice A n c) := by simp [World.cell?, hB]
  gi_wp2
  gi_loopw [10] (fun i wr => ∃ (k : Nat) (pre : List PI), k ≤ n ∧ i = .int .i64 k ∧ pre.map (·.1) ++ pairsF k (ps.drop k) = pairsF 0 ps ∧ J pre wr ∧ Below w.heap.size w wr) (fun i _ => n - (intOf i).toNat)
  case atStart => exact ⟨0, [], Nat.zero_le _, rfl, rfl, h0, hW⟩
  case round =>
    obtain ⟨k, pre, hk, rfl, hpre, hJs, hWr⟩ := hrel
    have HPRE := hid hpre
    have HJS := hid hJs
    clear hpre hJs
    by_cases hlt : k < n
    · obtain ⟨b, o, x, M, m, mc, I, i, ic, rfl, hx, c0, c1, c2, c3, hin⟩ := HP.out.at hlt
      have c0' := Gr.cell hWr c0
      have c1' := Gr.cell hWr c1
      have c2' := Gr.cell hWr c2
      have c3' := Gr.cell hWr c3
      clear c0 c1 c2 c3
      have HX := hid hx
      have HIN := hid hin
      have hm := hin.mem.le
      clear hx hin
      have e1 : 0 ≤ (k : Int) ∧ (k : Int) < (n : Int) := by omega
      gi_wp2
      obtain ⟨wo, hwo⟩ : ∃ wo : World, wo = wr := ⟨_, rfl⟩
      rw [← hwo] at hWr c0' c1' c2' c3' HJS ⊢
      clear hwo
      gi_loopw [18] (fun i wr => ∃ (j : Nat) (pre : List PI), j ≤ m ∧ i = .int .i64 j ∧ pre.map (·.1) ++ ((x.mem.drop j).map (fun q => ((k : Int), q)) ++ pairsF (k + 1) (ps.drop (k + 1))) = pairsF 0 ps ∧ J pre wr ∧ Below w.heap.size w wr) (fun i _ => m - (intOf i).toNat)
      case atStart =>
        refine ⟨0, pre, Nat.zero_le _, rfl, ?_, abides_alloc hJ _ HJS.out, hWr.alloc hWr.size _⟩
        rw [← HPRE.out, drop_at HX.out]
        rfl
      case round =>
        obtain ⟨j, pre1, hj, rfl, hpre1, hJ1, hW1⟩ := hrel
        have HPRE1 := hid hpre1
        have HJ1 := hid hJ1
        clear hpre1 hJ1
        by_cases hlt1 : j < m
        · obtain ⟨b', o', v, rfl, hv, cv⟩ := HIN.out.mem.at hlt1
          have cv' := Gr.cell hW1 cv
          clear cv
          have HV := hid hv
          clear hv
          have hlen : pre1.length < (pairsF 0 ps).length := by
            rw [← HPRE1.out, drop_at HV.out]; simp <;> omega
          obtain ⟨fn, tmps, assign, body, hy, hR⟩ := HY.out pre1 ⟨((k : Int), v), by simp; omega⟩ wr HJ1.out hlen
          have e2 : 0 ≤ (j : Int) ∧ (j : Int) < (m : Int) := by omega
          gi_wp2
          refine hR.mono ?_
          rintro e W3 (⟨rfl, hJ3, hk3⟩ | ⟨rfl, hf⟩)
          · have HJ3 := hid hJ3
            clear hJ3
            gi_wp2
            go_roundw
            case rel =>
              refine ⟨j + 1, _, by omega, by go_num, ?_, HJ3.out, hW1.trans hk3⟩
              rw [← HPRE1.out, drop_at HV.out]
              simp
            case measure => simp [intOf]; omega
          · have HF := hid hf
            clear hf
            gi_wp2
            refine bodyPost_ret (results_none rfl _ _ _) rfl ?_
            exact ⟨⟨_, rfl⟩, .inr ⟨_, HF.out⟩⟩
        · gi_wp2
          go_roundw
          case rel =>
            refine ⟨k + 1, pre1, by omega, by go_num, ?_, HJ1.out, hW1⟩
            have e : x.mem.drop j = [] := List.drop_of_length_le (by rw [HIN.out.mem.len]; omega)
            rw [← HPRE1.out, e]
            rfl
          case measure => simp [intOf]; omega
    · gi_wp2
      go_end0
      refine ⟨⟨_, rfl⟩, .inl ⟨pre, ?_, HJS.out⟩⟩
      have e : k = n := by omega
      rw [← HPRE.out, e, List.drop_of_length_le (by rw [hl.out]; exact Nat.le_refl _)]
      simp [pairsF]
end Go.Proofs.YtljkhijdaaconaaGreat
