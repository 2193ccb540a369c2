/- Contract: change. -/
import Derived.Test.YtljkhijdaaconaaGreatUninv
set_option linter.unusedVariables false
namespace Go.Proofs.YtljkhijdaaconaaGreat
open Go.RowKit

theorem okPs_small {h : Hall} : ∀ {ps : List Pty} {last : Int} {many : Nat}, okPs h last many ps = true → ∀ p ∈ ps, p.mem.length + p.inv.length ≤ 5
  | [], _, _, _, p, hp => by cases hp
  | q :: ps, last, many, hk, p, hp => by
    simp only [okPs] at hk
    split at hk
    · cases hk
    · rename_i h1
      split at hk
      · cases hk
      · split at hk
        · cases hk
        · rcases List.mem_cons.1 hp with rfl | hp
          · omega
          · exact okPs_small hk p hp
theorem valid_small {h : Hall} (hv : valid h = true) : h.ps.length ≤ 32 ∧ (∀ p ∈ h.ps, p.mem.length + p.inv.length ≤ 5) ∧ 0 ≤ h.tick ∧ h.tick ≤ 1073741824 ∧ 0 ≤ h.last ∧ h.last ≤ 1048576 := by
  unfold valid at hv
  split at hv
  · cases hv
  · rename_i h1
    exact ⟨by omega, okPs_small hv, by omega, by omega, by omega, by omega⟩

/-- A closure that changes a hall of its caller's own. -/
def Changes (g : Nat) (cap : List Value) (F : Hall → Hall × Int) (H : Hall) (B : List Bx) (V : List (Nat × World)) : Prop :=
  valid H = true → ∀ W B' b T pv bs, (∀ x ∈ B, x ∈ B') → St W (cB b [.int .i64 H.tick, .int .i64 H.last, pv] T :: (bs ++ B')) V → HallB pv H.ps bs →
    Calls Tryz.prog g ([Value.pointer (some ⟨b, 0, none⟩)] ++ cap).toArray W fun e W' => e = .returned (.int .i64 (F H).2) ∧
      (if (F H).2 = 0 then ∃ pv' bs', HallB pv' (F H).1.ps bs' ∧ St W' (cB b [.int .i64 (F H).1.tick, .int .i64 (F H).1.last, pv'] T :: (bs' ++ B')) V else St W' B' V)
/-- What a function that gives a hall and a code leaves. -/
def Gives (r : Hall × Int) (B : List Bx) (V : List (Nat × World)) (e : Ending) (w : World) : Prop :=
  ∃ pv bs, e = .returned (.tuple #[.agg #[.int .i64 r.1.tick, .int .i64 r.1.last, pv], .int .i64 r.2]) ∧ HallB pv r.1.ps bs ∧ St w (bs ++ B) V
theorem HallB.empty : HallB (.slice none 0 0) [] [] := ⟨[], [], [], RowB.nil _ _, ⟨rfl, rfl⟩, rfl, by simp⟩
theorem HallB.shape {pv : Value} {ps : List Pty} {bs : List Bx} (h : HallB pv ps bs) : ∃ A c, pv = .slice A ps.length c := by
  obtain ⟨cs, b1, b2, h1, _⟩ := h
  exact h1.shape

set_option maxRecDepth 100000 in
theorem change_c (H : Hall) (A : Option Addr) (n c : Nat) (g : Nat) (cap : List Value) (F : Hall → Hall × Int) (B : List Bx) (V : List (Nat × World)) (lo : Nat) (v w0 w : World) (hS : St w B V) (hw0 : (0, w0) ∈ V) (hv : (lo, v) ∈ V) (hP : PtysL lo v A n H.ps)
    (eg : ∀ args w, (callFunc g args).run Tryz.prog w = .ok (.enter g args) w) (hf : Changes g cap F H B V) :
    Calls Tryz.prog 51 #[.agg #[.int .i64 H.tick, .int .i64 H.last, .slice A n c], .func (.func g) #[] cap.toArray] w (Gives (change F H) B V) := by
  refine m_enter Tryz.func51 rfl Tryz.ntmps51 (Nat.le_of_ble_eq_true rfl) ?_
  intro a hA
  refine m_seq ?_
  refine m_region ?_
  refine m_box hA hS rfl rfl ?_
  clear hA hS a; intro a b1 w hA hleb1 hgb1 hS
  refine m_alloc hA hS Tryz.zeroValue24 rfl ?_
  clear hA hS a; intro a b2 w hA hleb2 hgb2 hS
  refine m1 hA hS (Y.assign rfl) rfl ?_
  clear hA a; intro a hA
  refine m_nil ?_
  refine m_then ?_
  refine m_seq ?_
  refine m_seq ?_
  refine m_region ?_
  refine m1 hA hS (Y.loads rfl Tryz.isAgg24 Tryz.sizeOf24 (fun w h => h.cells (i := 1) rfl) rfl) rfl ?_
  clear hA a; intro a hA
  refine m_callb hA hS Tryz.call8 rfl rfl (valid_c H A n c _ (PtysL.zero (hP.ov (hS.at hv)))) ?_
  clear hA hS a; intro a w hA hS hg
  refine m1 hA hS (Y.not rfl) rfl ?_
  clear hA a; intro a hA
  refine m_nil ?_
  refine m_then ?_
  refine m_cond hA rfl (fun hc => ?_) (fun hc => ?_)
  · have hval : valid H = false := by simpa using hc
    refine m_seq ?_
    refine m_region ?_
    refine m1 hA hS (Y.build (vs := []) (cs := [.int .i64 0, .int .i64 0, .slice none 0 0]) rfl (by kernel_rfl)) rfl ?_
    clear hA a; intro a hA
    refine m_store 0 hA hS rfl rfl Tryz.sizeOf24 rfl rfl rfl rfl ?_
    clear hS; intro w hS
    refine m1 hA hS (Y.assign rfl) rfl ?_
    clear hA a; intro a hA
    refine m_nil ?_
    refine m_then ?_
    refine m_retc ?_
    refine r_then ?_
    refine m_retc2 0 hA hS Tryz.results51 rfl rfl rfl Tryz.isAgg24 Tryz.sizeOf24 ?_
    have hch : change F H = (noHall, 2) := by unfold change; rw [hval]; rfl
    rw [hch]
    exact ⟨_, [], rfl, HallB.empty, hS.gone.gone⟩
  · have hval : valid H = true := by simpa using hc
    obtain ⟨q1, q2, q3, q4, q5, q6⟩ := valid_small hval
    have hn : H.ps.length = n := hP.len
    refine m_skip ?_
    refine m_then ?_
    refine m_seq ?_
    refine m_region ?_
    refine m1 hA hS (Y.loads rfl Tryz.isAgg24 Tryz.sizeOf24 (fun w h => h.cells (i := 1) rfl) rfl) rfl ?_
    clear hA a; intro a hA
    refine m_call hA Tryz.call92 rfl rfl ((hallOwn_c H A n c _ (PtysL.zero (hP.ov (hS.at hv))) (by omega) (fun p hp => by have := q2 p hp; omega)).mono ?_)
    rintro e w ⟨pv, bs, rfl, hH, hg1, hf1⟩
    refine ⟨_, rfl, ?_⟩
    clear hA a; intro a hA
    replace hS := hS.freshR hg1 hf1
    obtain ⟨A1, c1, rfl⟩ := hH.shape
    refine m_store 1 hA hS rfl rfl Tryz.sizeOf24 rfl rfl rfl rfl ?_
    clear hS; intro w hS
    refine m_nil ?_
    refine m_then ?_
    refine m_seq ?_
    refine m_seq ?_
    refine m_region ?_
    refine m1 hA hS (Y.move rfl) rfl ?_
    clear hA a; intro a hA
    have hSp : St w (cB b1 [.int .i64 H.tick, .int .i64 H.last, .slice A1 H.ps.length c1] 24 :: (bs ++ (cB b2 [.int .i64 0, .int .i64 0, .slice none 0 0] 24 :: B))) V :=
      St.perm (B := [cB b2 [.int .i64 0, .int .i64 0, .slice none 0 0] 24, cB b1 [.int .i64 H.tick, .int .i64 H.last, .slice A1 H.ps.length c1] 24] ++ B ++ bs) hS (List.perm_iff_count.2 fun a => by simp only [List.count_append, List.count_cons, List.count_nil]; omega)
    refine m_callv hA rfl eg rfl rfl ((hf hval _ _ _ _ _ _ (fun x hx => List.mem_cons_of_mem _ hx) hSp hH).mono ?_)
    rintro e w ⟨rfl, hpost⟩
    refine ⟨_, rfl, ?_⟩
    clear hA a; intro a hA
    have hS : St w ([cB b2 [.int .i64 0, .int .i64 0, .slice none 0 0] 24] ++ B) V := by
      split at hpost
      · obtain ⟨pv', bs', _, h2⟩ := hpost
        exact (h2.gone).goneL
      · exact hpost
    refine m1 hA hS (Y.assign rfl) rfl ?_
    clear hA a; intro a hA
    refine m_nil ?_
    refine m_then ?_
    refine m_seq ?_
    refine m_region ?_
    refine m1 hA hS (Y.move rfl) rfl ?_
    clear hA a; intro a hA
    refine m1 hA hS (Y.neI rfl rfl) rfl ?_
    clear hA a; intro a hA
    refine m_nil ?_
    refine m_then ?_
    refine m_condP hA rfl (fun hne => ?_) (fun hne => ?_)
    · refine m_seq ?_
      refine m_region ?_
      refine m1 hA hS (Y.build (vs := []) (cs := [.int .i64 0, .int .i64 0, .slice none 0 0]) rfl (by kernel_rfl)) rfl ?_
      clear hA a; intro a hA
      refine m1 hA hS (Y.move rfl) rfl ?_
      clear hA a; intro a hA
      refine m_store 0 hA hS rfl rfl Tryz.sizeOf24 rfl rfl rfl rfl ?_
      clear hS; intro w hS
      refine m1 hA hS (Y.assign rfl) rfl ?_
      clear hA a; intro a hA
      refine m_nil ?_
      refine m_then ?_
      refine m_retc ?_
      refine r_then ?_
      refine m_retc2 0 hA hS Tryz.results51 rfl rfl rfl Tryz.isAgg24 Tryz.sizeOf24 ?_
      have hch : change F H = (noHall, (F H).2) := by unfold change; rw [if_pos hval, if_neg hne]
      rw [hch]
      exact ⟨_, [], rfl, HallB.empty, hS.gone⟩
    · have hne' : (F H).2 = 0 := Classical.not_not.1 hne
      rw [if_pos hne'] at hpost
      obtain ⟨pv', bs', hH', hS'⟩ := hpost
      obtain ⟨A', c', rfl⟩ := hH'.shape
      replace hS : St w ([cB b2 [.int .i64 0, .int .i64 0, .slice none 0 0] 24, cB b1 [.int .i64 (F H).1.tick, .int .i64 (F H).1.last, .slice A' (F H).1.ps.length c'] 24] ++ (bs' ++ B)) V :=
        hS'.perm (List.perm_iff_count.2 fun a => by simp only [List.count_append, List.count_cons, List.count_nil]; omega)
      refine m_skip ?_
      refine m_then ?_
      refine m_seq ?_
      refine m_region ?_
      refine m1 hA hS (Y.loads rfl Tryz.isAgg24 Tryz.sizeOf24 (fun w h => h.cells (i := 1) rfl) rfl) rfl ?_
      clear hA a; intro a hA
      refine m_store 0 hA hS rfl rfl Tryz.sizeOf24 rfl rfl rfl rfl ?_
      clear hS; intro w hS
      refine m1 hA hS (Y.assign rfl) rfl ?_
      clear hA a; intro a hA
      refine m_nil ?_
      refine m_then ?_
      refine m_retc ?_
      refine m_retc2 0 hA hS Tryz.results51 rfl rfl rfl Tryz.isAgg24 Tryz.sizeOf24 ?_
      have hch : change F H = ((F H).1, 0) := by unfold change; rw [if_pos hval, if_pos hne']
      rw [hch]
      exact ⟨_, bs', rfl, hH', hS.gone.gone⟩
end Go.Proofs.YtljkhijdaaconaaGreat
