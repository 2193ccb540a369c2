/- Contract: slices.Insert of one invitation. -/
import Derived.Test.YtljkhijdaaconaaGreatEng2
import Derived.Test.YtljkhijdaaconaaGreatClone
import Derived.Test.YtljkhijdaaconaaGreatUninv
import Derived.Test.YtljkhijdaaconaaGreatLeave
set_option linter.unusedVariables false
namespace Go.Proofs.YtljkhijdaaconaaGreat
open Go.RowKit

/-- A call of a function of the model's own that only answers. -/
theorem m_callE {P : Program} {n : Nat} {s : List (Nat × Value)} {ops : Array Oper} {rest : List Oper} {Q : Exit → Act → World → Prop} {a : Act} {w : World} {d : Nat} {f : FuncId} {xs : List Operand} {ts : Array TypeId} {ty : TypeId} {pos : String} {aft : Array Edge} {vs : List Value} {v : Value} (hA : Fits a n s) (hf : (callFunc f vs.toArray).run P w = .ok (.value v) w) (hx : evL s xs = some vs) (hd : Nat.blt d n = true)
    (k : ∀ a', Fits a' n ((d, v) :: s) → wpList P ops Q rest a' w) :
    wpList P ops Q (⟨some d, .call { callee := .value (.func f), args := xs.toArray, argTypes := ts }, ty, pos, aft, none⟩ :: rest) a w := by
  refine wpList_plain rfl fun K hK => ?_
  have hr : (execOp a.eval ⟨some d, .call { callee := .value (.func f), args := xs.toArray, argTypes := ts }, ty, pos, aft, none⟩).run P w = .ok (.value v) w := by
    simp [execOp, resolve, Act.eval, Deferred.ofValue, invoke, hA.evL hx, hf]
  unfold Oper.wp
  rw [hr]
  exact hK _ _ (k _ (hA.put (blt_lt hd) v))
theorem St.mem_ne {w : World} {B : List Bx} {V : List (Nat × World)} {x y : Bx} {l : List Bx} (h : St w (x :: l) V) (hy : y ∈ l) : x.b ≠ y.b := (List.pairwise_cons.1 h.nd).1 y hy
set_option maxRecDepth 100000 in
set_option maxHeartbeats 1000000 in
theorem insert_c (v : Value) (xs : List Inv) (bs B : List Bx) (V : List (Nat × World)) (bx k : Nat) (x : Inv) (w : World) (hS : St w (bs ++ (cB bx [.int .i64 x.who, .int .i64 x.til] 61 :: B)) V) (hR : InvsB v xs bs) (hk : k ≤ xs.length) (hle : xs.length ≤ 50) :
    Calls Tryz.prog 49 #[v, .int .i64 (k : Int), .slice (some ⟨bx, 0, none⟩) 1 1] w fun e w' => ∃ v' bs', e = .returned v' ∧ InvsB v' (xs.take k ++ x :: xs.drop k) bs' ∧ St w' (bs' ++ (cB bx [.int .i64 x.who, .int .i64 x.til] 61 :: B)) V := by
  obtain ⟨A, c, rfl⟩ := hR.shape
  have fl : ∀ ys : List Inv, (ys.flatMap cInv).length = ys.length * 2 := flat_len (fun _ => rfl)
  refine m_enter Tryz.func49 rfl Tryz.ntmps49 (Nat.le_of_ble_eq_true rfl) ?_
  intro a hA
  refine m_seq ?_
  refine m_region ?_
  refine m1 hA hS (Y.assign rfl) rfl ?_
  clear hA a; intro a hA
  refine m_nil ?_
  refine m_then ?_
  refine m_seq ?_
  refine m_region ?_
  refine m1 hA hS (Y.move rfl) rfl ?_
  clear hA a; intro a hA
  refine m1 hA hS (Y.move rfl) rfl ?_
  clear hA a; intro a hA
  refine m1 hA hS (Y.slLg (l := k) rfl rfl Tryz.underlying44 Tryz.sizeOf61 hk) rfl ?_
  clear hA a; intro a hA
  refine m_nil ?_
  refine m_then ?_
  refine m_seq ?_
  refine m_region ?_
  refine m1 hA hS (Y.move rfl) rfl ?_
  clear hA a; intro a hA
  refine m1 hA hS (Y.lenSl rfl Tryz.underlying44) rfl ?_
  clear hA a; intro a hA
  refine m1 hA hS (Y.assign rfl) rfl ?_
  clear hA a; intro a hA
  refine m_nil ?_
  refine m_then ?_
  refine m_seq ?_
  refine m_seq ?_
  refine m_region ?_
  refine m1 hA hS (Y.move rfl) rfl ?_
  clear hA a; intro a hA
  refine m1 hA hS (Y.eqI rfl rfl) rfl ?_
  clear hA a; intro a hA
  refine m_nil ?_
  refine m_then ?_
  refine m_condF hA rfl (rfl) ?_
  refine m_skip ?_
  refine m_then ?_
  refine m_seq ?_
  refine m_region ?_
  refine m1 hA hS (Y.move rfl) rfl ?_
  clear hA a; intro a hA
  refine m1 hA hS (Y.lenSl rfl Tryz.underlying44) rfl ?_
  clear hA a; intro a hA
  refine m1 hA hS (Y.assign rfl) rfl ?_
  clear hA a; intro a hA
  refine m_nil ?_
  refine m_then ?_
  refine m_seq ?_
  refine m_seq ?_
  refine m_region ?_
  refine m1 hA hS (Y.move rfl) rfl ?_
  clear hA a; intro a hA
  refine m1 hA hS (Y.move rfl) rfl ?_
  clear hA a; intro a hA
  refine m1 hA hS (Y.eqI rfl rfl) rfl ?_
  clear hA a; intro a hA
  refine m_nil ?_
  refine m_then ?_
  refine m_condP hA rfl (fun hkn => ?_) (fun hkn => ?_)
  · have hkl : k = xs.length := by omega
    refine m_seq ?_
    refine m_region ?_
    refine m1 hA hS (Y.move rfl) rfl ?_
    clear hA a; intro a hA
    refine m1 hA hS (Y.move rfl) rfl ?_
    clear hA a; intro a hA
    refine m_append (bs := bs) 61 16 [.int .i64 x.who, .int .i64 x.til] elemInv hA hS hR rfl rfl rfl Tryz.underlying44 rfl (hS.cellsM (cs := [.int .i64 x.who, .int .i64 x.til]) (T := 61) (by simp)) (List.all_eq_true.1 rfl) (by omega) (by decide) ?_
    clear hA hS a; intro a w v' bs' hA hR' hn hS
    refine m1 hA hS (Y.assign rfl) rfl ?_
    clear hA a; intro a hA
    refine m_nil ?_
    refine m_then ?_
    refine m_retc ?_
    refine r_then ?_
    refine m_ret1 hA Tryz.results49 rfl ?_
    refine ⟨v', bs', rfl, ?_, hS⟩
    rw [hkl, List.take_of_length_le (Nat.le_refl _), List.drop_eq_nil_of_le (Nat.le_refl _)]
    simpa [InvsB, cInv] using hR'
  · have hkl : k < xs.length := by omega
    obtain ⟨hRl, ⟨he, hn0, rfl⟩ | ⟨b, cap', cur, he, rfl, hcap, hmax, hcur, htake⟩⟩ := hR
    · omega
    cases he
    obtain ⟨rest, hrest⟩ : ∃ rest, cur = (xs.take k).flatMap cInv ++ ((xs.drop k).flatMap cInv ++ rest) := ⟨cur.drop (xs.length * 2), by rw [← List.append_assoc, ← List.flatMap_append, List.take_append_drop, ← htake, List.take_append_drop]⟩
    subst hrest
    have hX1 : ((xs.take k).flatMap cInv).length = k * 2 := by rw [fl, List.length_take]; omega
    have hX2 : ((xs.drop k).flatMap cInv).length = (xs.length - k) * 2 := by rw [fl, List.length_drop]
    have hO2 := one_invs (xs.drop k)
    obtain ⟨X1, hx1⟩ : ∃ X1, X1 = (xs.take k).flatMap cInv := ⟨_, rfl⟩
    obtain ⟨X2, hx2⟩ : ∃ X2, X2 = (xs.drop k).flatMap cInv := ⟨_, rfl⟩
    rw [← hx1] at hX1
    rw [← hx2] at hX2 hO2
    rw [← hx1, ← hx2] at hcur hS
    have hres : (xs.take k ++ x :: xs.drop k).flatMap cInv = X1 ++ (cInv x ++ X2) := by simp [hx1, hx2]
    have hrl : (xs.take k ++ x :: xs.drop k).length = xs.length + 1 := by simp; omega
    have hcl : X1.length + (X2.length + rest.length) = c * 2 := by simpa using hcur
    refine m_skip ?_
    refine m_then ?_
    refine m_seq ?_
    refine m_seq ?_
    refine m_region ?_
    refine m1 hA hS (Y.move rfl) rfl ?_
    clear hA a; intro a hA
    refine m1 hA hS (Y.move rfl) rfl ?_
    clear hA a; intro a hA
    refine m1 hA hS (Y.addI rfl rfl (by omega)) rfl ?_
    clear hA a; intro a hA
    refine m1 hA hS (Y.move rfl) rfl ?_
    clear hA a; intro a hA
    refine m1 hA hS (Y.cap rfl Tryz.underlying44) rfl ?_
    clear hA a; intro a hA
    refine m1 hA hS (Y.gtI rfl rfl) rfl ?_
    clear hA a; intro a hA
    refine m_nil ?_
    refine m_then ?_
    refine m_condP hA rfl (fun hgr => ?_) (fun hgr => ?_)
    · refine m_seq ?_
      refine m_region ?_
      refine m1 hA hS (Y.move rfl) rfl ?_
      clear hA a; intro a hA
      refine m1 hA hS (Y.move rfl) rfl ?_
      clear hA a; intro a hA
      refine m1 hA hS (Y.slH (h := k) rfl rfl Tryz.underlying44 Tryz.sizeOf61 (by omega)) rfl ?_
      clear hA a; intro a hA
      refine m1 hA hS (Y.move rfl) rfl ?_
      clear hA a; intro a hA
      refine m1 hA hS (Y.move rfl) rfl ?_
      clear hA a; intro a hA
      refine m1 hA hS (Y.addI rfl rfl (by omega)) rfl ?_
      clear hA a; intro a hA
      refine m1 hA hS (Y.move rfl) rfl ?_
      clear hA a; intro a hA
      refine m1 hA hS (Y.subI rfl rfl (by omega)) rfl ?_
      clear hA a; intro a hA
      have e1 : ((xs.length : Int) + ((1 : Nat) : Int) - (k : Int)) = ((xs.length + 1 - k : Nat) : Int) := by omega
      rw [e1] at hA
      refine m_appendZ 61 16 X1 elemInv hA hS rfl rfl rfl Tryz.underlying44 Tryz.underlying3 hX1 ?_ (by omega) (by omega) (by omega) (by decide) ?_
      · intro j u hj
        refine hS.cellsAt (i := 0) (xs := X1) rfl (fun j v hv => ?_) j u hj
        rw [Nat.zero_add, List.getElem?_append_left (List.getElem?_eq_some_iff.1 hv).1]
        exact hv
      clear hA hS a; intro a w b' cap zs hA hcp hcm hzl hS
      have hzl' : zs.length = cap * 2 - k * 2 := by
        rw [List.length_append, hX1] at hzl; omega
      refine m1 hA hS (Y.assign rfl) rfl ?_
      clear hA a; intro a hA
      refine m_nil ?_
      refine m_then ?_
      refine m_seq ?_
      refine m_region ?_
      refine m1 hA hS (Y.move rfl) rfl ?_
      clear hA a; intro a hA
      refine m1 hA hS (Y.move rfl) rfl ?_
      clear hA a; intro a hA
      refine m1 hA hS (Y.slL (l := k) rfl rfl Tryz.underlying44 Tryz.sizeOf61 (by omega)) rfl ?_
      clear hA a; intro a hA
      refine m1 hA hS (Y.move rfl) rfl ?_
      clear hA a; intro a hA
      refine m_copy 0 61 16 (cInv x) (X1 ++ (cInv x ++ zs.drop 2)) elemInv hA hS rfl rfl rfl Tryz.underlying44 rfl ?_ (hS.cellsM (cs := cInv x) (T := 61) (by simp [cInv])) (List.all_eq_true.1 rfl) ?_ ?_ ?_
      · rw [show Nat.min 1 (k + (xs.length + 1 - k) - k) = 1 from Nat.min_eq_left (by omega)]; rfl
      · rw [if_neg (by omega), hzl]; simp [cInv]; omega
      · rw [if_neg (by omega)]
        exact spl_end (by omega)
      clear hA hS a; intro a w hA hS
      refine m_nil ?_
      refine m_then ?_
      refine m_seq ?_
      refine d_regionS [] [0, 1, 2, 3, 4, 5, 6, 7] hS rfl 9 [false, false, false, false, false, false, false, false, false] rfl rfl ?_
      clear hS; intro w hS _
      have hQ := hS
      refine d_take 0 (bs' := [true, false, false, false, false, false, false, false, false]) hA rfl rfl (by kernel_rfl) (fun _ _ _ h => h) (Y.move rfl) rfl ?_
      clear hA a; intro a hA
      refine d_take 1 (bs' := [true, true, false, false, false, false, false, false, false]) hA rfl rfl (by kernel_rfl) (fun _ _ _ h => h) (Y.move rfl) rfl ?_
      clear hA a; intro a hA
      refine d_take 2 (bs' := [true, true, true, false, false, false, false, false, false]) hA rfl rfl (by kernel_rfl) (fun _ _ _ h => h) (Y.move rfl) rfl ?_
      clear hA a; intro a hA
      refine d_take 3 (bs' := [true, true, true, true, false, false, false, false, false]) hA rfl rfl (by kernel_rfl) (fun _ _ _ h => h) (Y.addI rfl rfl (by omega)) rfl ?_
      clear hA a; intro a hA
      refine d_take 4 (bs' := [true, true, true, true, true, false, false, false, false]) hA rfl rfl (by kernel_rfl) (fun _ _ _ h => h) (Y.slL (l := k + 1) rfl rfl Tryz.underlying44 Tryz.sizeOf61 (by omega)) rfl ?_
      clear hA a; intro a hA
      refine d_take 5 (bs' := [true, true, true, true, true, true, false, false, false]) hA rfl rfl (by kernel_rfl) (fun _ _ _ h => h) (Y.move rfl) rfl ?_
      clear hA a; intro a hA
      refine d_take 6 (bs' := [true, true, true, true, true, true, true, false, false]) hA rfl rfl (by kernel_rfl) (fun _ _ _ h => h) (Y.move rfl) rfl ?_
      clear hA a; intro a hA
      refine d_take 7 (bs' := [true, true, true, true, true, true, true, true, false]) hA rfl rfl (by kernel_rfl) (fun _ _ _ h => h) (Y.slL (l := k) rfl rfl Tryz.underlying44 Tryz.sizeOf61 (by omega)) rfl ?_
      clear hA a; intro a hA
      refine d_one 8 (bs' := [true, true, true, true, true, true, true, true, true]) false rfl (by kernel_rfl) ?_
      have hmin : Nat.min (xs.length - k) (k + (xs.length + 1 - k) - (k + 1)) = xs.length - k := Nat.min_eq_left (by omega)
      refine m_copy 0 61 16 X2 ((X1 ++ cInv x) ++ (X2 ++ (zs.drop 2).drop X2.length)) elemInv hA hS rfl rfl rfl Tryz.underlying44 rfl ?_ ?_ hO2 ?_ ?_ ?_
      · rw [hmin]; exact hX2
      · rw [if_neg (by omega)]
        exact hS.cellsAt (i := 1) (xs := X2) rfl (mid_get (by omega))
      · rw [if_neg (by omega)]
        simp only [List.length_append, List.length_drop]
        simp [cInv]; omega
      · rw [if_neg (by omega), ← List.append_assoc]
        exact spl_end (by simp [cInv]; omega)
      clear hA hS a; intro a w hA hS
      refine m_nil (m_then ⟨fun h => (by cases h), ?_⟩)
      refine d_done (by kernel_rfl) ?_
      refine m_then ?_
      refine m_seq ?_
      refine m_region ?_
      refine m1 hA hS (Y.move rfl) rfl ?_
      clear hA a; intro a hA
      refine m1 hA hS (Y.assign rfl) rfl ?_
      clear hA a; intro a hA
      refine m_nil ?_
      refine m_then ?_
      refine m_retc ?_
      refine r_then ?_
      refine m_ret1 hA Tryz.results49 rfl ?_
      refine ⟨_, [cB b' ((X1 ++ cInv x) ++ (X2 ++ (zs.drop 2).drop X2.length)) 61], rfl, ⟨?_, .inr ⟨b', cap, _, ?_, rfl, ?_, hcm, ?_, ?_⟩⟩, ?_⟩
      · rw [fl]
      · rw [hrl, show k + (xs.length + 1 - k) = xs.length + 1 from by omega]
      · rw [hrl]; omega
      · simp only [List.length_append, List.length_drop]
        simp [cInv]; omega
      · rw [hres, hrl, ← List.append_assoc, ← List.append_assoc, List.append_assoc X1]
        exact List.take_left' (by simp [cInv]; omega)
      · exact hS.sub (.cons_cons _ (.cons _ (List.Sublist.refl _)))
    · have hc1 : xs.length + 1 ≤ c := by omega
      refine m_skip ?_
      refine m_then ?_
      refine m_seq ?_
      refine m_region ?_
      refine m1 hA hS (Y.move rfl) rfl ?_
      clear hA a; intro a hA
      refine m1 hA hS (Y.move rfl) rfl ?_
      clear hA a; intro a hA
      refine m1 hA hS (Y.move rfl) rfl ?_
      clear hA a; intro a hA
      refine m1 hA hS (Y.addI rfl rfl (by omega)) rfl ?_
      clear hA a; intro a hA
      refine m1 hA hS (Y.slH (h := xs.length + 1) rfl rfl Tryz.underlying44 Tryz.sizeOf61 hc1) rfl ?_
      clear hA a; intro a hA
      refine m1 hA hS (Y.assign rfl) rfl ?_
      clear hA a; intro a hA
      refine m_nil ?_
      refine m_then ?_
      refine m_seq ?_
      refine m_seq ?_
      refine m_region ?_
      refine m1 hA hS (Y.move rfl) rfl ?_
      clear hA a; intro a hA
      refine m1 hA hS (Y.move rfl) rfl ?_
      clear hA a; intro a hA
      refine m1 hA hS (Y.move rfl) rfl ?_
      clear hA a; intro a hA
      refine m1 hA hS (Y.move rfl) rfl ?_
      clear hA a; intro a hA
      refine m1 hA hS (Y.addI rfl rfl (by omega)) rfl ?_
      clear hA a; intro a hA
      refine m1 hA hS (Y.slL (l := k + 1) rfl rfl Tryz.underlying44 Tryz.sizeOf61 (by omega)) rfl ?_
      clear hA a; intro a hA
      have hbb : b ≠ bx := by
        have := (List.pairwise_cons.1 hS.nd).1 (cB bx [.int .i64 x.who, .int .i64 x.til] 61) (by simp)
        simpa using this
      have hb1 := hS.bx (cB bx [.int .i64 x.who, .int .i64 x.til] 61) (by simp)
      have hb2 := hS.bx (cB b (X1 ++ (X2 ++ rest)) 61) (by simp)
      simp only at hb1 hb2
      have hov : (callFunc 88 [Value.slice (some ⟨bx, 0, none⟩) 1 1, .slice (some ⟨b, if c = k + 1 then 0 else 0 + (k + 1) * 2, none⟩) (xs.length + 1 - (k + 1)) (c - (k + 1))].toArray).run Tryz.prog w = .ok (.value (.bool false)) w := by
        rw [run_callFunc_extern Tryz.func88 (by kernel_rfl) (by kernel_rfl) (by kernel_rfl) (e := Extern.SlicesOverlaps.overlaps #[44, 44] #[4]) (by kernel_rfl)]
        rw [Lib.run_overlaps_apart w 44 4 61 Tryz.underlying44 2 Tryz.sizeOf61 ⟨bx, 0, none⟩ ⟨b, if c = k + 1 then 0 else 0 + (k + 1) * 2, none⟩ 1 1 _ _ (by simpa using Ne.symm hbb) 61 61 2 (c * 2) (by simp [World.shape?, hb1]) (by simp [World.shape?, hb2, hcl]) (by omega) (by simp [World.frozen?, hb1]) (by simp [World.frozen?, hb1])]
        rfl
      refine m_callE hA hov rfl rfl ?_
      clear hA a; intro a hA
      refine m1 hA hS (Y.not rfl) rfl ?_
      clear hA a; intro a hA
      refine m_nil ?_
      refine m_then ?_
      refine m_condT hA rfl (rfl) ?_
      refine m_seq ?_
      refine d_regionS [] [0, 1, 2, 3, 4, 5, 6, 7] hS rfl 9 [false, false, false, false, false, false, false, false, false] rfl rfl ?_
      clear hS; intro w hS _
      have hQ := hS
      refine d_take 0 (bs' := [true, false, false, false, false, false, false, false, false]) hA rfl rfl (by kernel_rfl) (fun _ _ _ h => h) (Y.move rfl) rfl ?_
      clear hA a; intro a hA
      refine d_take 1 (bs' := [true, true, false, false, false, false, false, false, false]) hA rfl rfl (by kernel_rfl) (fun _ _ _ h => h) (Y.move rfl) rfl ?_
      clear hA a; intro a hA
      refine d_take 2 (bs' := [true, true, true, false, false, false, false, false, false]) hA rfl rfl (by kernel_rfl) (fun _ _ _ h => h) (Y.move rfl) rfl ?_
      clear hA a; intro a hA
      refine d_take 3 (bs' := [true, true, true, true, false, false, false, false, false]) hA rfl rfl (by kernel_rfl) (fun _ _ _ h => h) (Y.addI rfl rfl (by omega)) rfl ?_
      clear hA a; intro a hA
      refine d_take 4 (bs' := [true, true, true, true, true, false, false, false, false]) hA rfl rfl (by kernel_rfl) (fun _ _ _ h => h) (Y.slL (l := k + 1) rfl rfl Tryz.underlying44 Tryz.sizeOf61 (by omega)) rfl ?_
      clear hA a; intro a hA
      refine d_take 5 (bs' := [true, true, true, true, true, true, false, false, false]) hA rfl rfl (by kernel_rfl) (fun _ _ _ h => h) (Y.move rfl) rfl ?_
      clear hA a; intro a hA
      refine d_take 6 (bs' := [true, true, true, true, true, true, true, false, false]) hA rfl rfl (by kernel_rfl) (fun _ _ _ h => h) (Y.move rfl) rfl ?_
      clear hA a; intro a hA
      refine d_take 7 (bs' := [true, true, true, true, true, true, true, true, false]) hA rfl rfl (by kernel_rfl) (fun _ _ _ h => h) (Y.slL (l := k) rfl rfl Tryz.underlying44 Tryz.sizeOf61 (by omega)) rfl ?_
      clear hA a; intro a hA
      refine d_one 8 (bs' := [true, true, true, true, true, true, true, true, true]) false rfl (by kernel_rfl) ?_
      obtain ⟨u1, u2, tl, htl⟩ : ∃ u1 u2 tl, X2 ++ rest = u1 :: u2 :: tl := by
        have : 2 ≤ (X2 ++ rest).length := by rw [List.length_append]; omega
        match h : X2 ++ rest, this with
        | [], h' => simp at h'
        | [_], h' => simp at h'
        | u1 :: u2 :: tl, _ => exact ⟨u1, u2, tl, rfl⟩
      have htll : tl.length = (X2.length + rest.length) - 2 := by
        have : (X2 ++ rest).length = tl.length + 2 := by rw [htl]; rfl
        rw [List.length_append] at this; omega
      refine m_copy 0 61 16 X2 (X1 ++ ([u1, u2] ++ (X2 ++ tl.drop X2.length))) elemInv hA hS rfl rfl rfl Tryz.underlying44 rfl ?_ ?_ hO2 ?_ ?_ ?_
      · rw [show Nat.min (xs.length + 1 - k) (xs.length + 1 - (k + 1)) = xs.length - k from (Nat.min_eq_right (by omega)).trans (by omega)]; exact hX2
      · rw [if_neg (by omega)]
        exact hS.cellsAt (i := 0) (xs := X2) rfl (mid_get (by omega))
      · rw [if_neg (by omega)]
        simp only [List.length_append]
        omega
      · rw [if_neg (by omega), htl]
        have := spl_end (l := X1 ++ [u1, u2]) (r := tl) (c' := X2) (o := 0 + (k + 1) * 2) (by simp; omega)
        simpa using this
      clear hA hS a; intro a w hA hS
      refine m_nil (m_then ⟨fun h => (by cases h), ?_⟩)
      refine d_done (by kernel_rfl) ?_
      refine m_then ?_
      refine m_seq ?_
      refine m_region ?_
      refine m1 hA hS (Y.move rfl) rfl ?_
      clear hA a; intro a hA
      refine m1 hA hS (Y.move rfl) rfl ?_
      clear hA a; intro a hA
      refine m1 hA hS (Y.slL (l := k) rfl rfl Tryz.underlying44 Tryz.sizeOf61 (by omega)) rfl ?_
      clear hA a; intro a hA
      refine m1 hA hS (Y.move rfl) rfl ?_
      clear hA a; intro a hA
      refine m_copy 0 61 16 (cInv x) (X1 ++ (cInv x ++ (X2 ++ tl.drop X2.length))) elemInv hA hS rfl rfl rfl Tryz.underlying44 rfl ?_ (hS.cellsM (cs := cInv x) (T := 61) (List.mem_cons_of_mem _ (List.mem_cons_self ..))) (List.all_eq_true.1 rfl) ?_ ?_ ?_
      · rw [show Nat.min 1 (xs.length + 1 - k) = 1 from Nat.min_eq_left (by omega)]; rfl
      · rw [if_neg (by omega)]
        simp [cInv]; omega
      · rw [if_neg (by omega)]
        exact spl_mid (by omega) rfl
      clear hA hS a; intro a w hA hS
      refine m_nil ?_
      refine m_then ?_
      refine m_seq ?_
      refine m_region ?_
      refine m1 hA hS (Y.move rfl) rfl ?_
      clear hA a; intro a hA
      refine m1 hA hS (Y.assign rfl) rfl ?_
      clear hA a; intro a hA
      refine m_nil ?_
      refine m_then ?_
      refine m_retc ?_
      refine r_then ?_
      refine m_ret1 hA Tryz.results49 rfl ?_
      refine ⟨_, [cB b (X1 ++ (cInv x ++ (X2 ++ tl.drop X2.length))) 61], rfl, ⟨fl _, .inr ⟨b, c, _, by rw [hrl], rfl, by omega, hmax, ?_, ?_⟩⟩, hS⟩
      · simp only [List.length_append, List.length_drop]
        simp [cInv]; omega
      · rw [hres, hrl, ← List.append_assoc (cInv x), ← List.append_assoc]
        exact List.take_left' (by simp [cInv]; omega)
end Go.Proofs.YtljkhijdaaconaaGreat
