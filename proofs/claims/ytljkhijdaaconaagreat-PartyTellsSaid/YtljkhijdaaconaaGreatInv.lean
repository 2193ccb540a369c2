/- Contract: Invited. -/
import Derived.Test.YtljkhijdaaconaaGreatSrch
import Derived.Test.YtljkhijdaaconaaGreatLead
set_option linter.unusedVariables false
namespace Go.Proofs.YtljkhijdaaconaaGreat
open Go.RowKit

theorem InvsB.in {A : Option Addr} {n c : Nat} {xs : List Inv} {bs B : List Bx} {V : List (Nat × World)} {w : World} (h : InvsB (.slice A n c) xs bs) (hS : St w B V) (hs : bs.Sublist B) (hle : xs.length ≤ 100) : Invs w A xs.length xs := by
  have hS' := hS.sub hs
  obtain ⟨A', c', e, hI⟩ := InvsB.read (base := 0) h ⟨hS'.bx, hS'.nd, fun x _ => Nat.zero_le _⟩ hle
  cases e
  exact hI
theorem okInv_sorted {h : Hall} : ∀ {l : List Inv} {wh : Int}, okInv h wh l = true → (∀ x ∈ l, wh < x.who) ∧ l.Pairwise (fun a b => a.who < b.who)
  | [], _, _ => ⟨by simp, List.Pairwise.nil⟩
  | i :: l, wh, hk => by
    simp only [okInv] at hk
    split at hk
    · cases hk
    · rename_i h1
      obtain ⟨h2, h3⟩ := okInv_sorted hk
      have h4 : wh < i.who := by omega
      exact ⟨fun x hx => by rcases List.mem_cons.1 hx with rfl | hx; exact h4; have := h2 x hx; omega, List.pairwise_cons.2 ⟨h2, h3⟩⟩
theorem okPs_inv_ok {h : Hall} : ∀ {ps : List Pty} {last : Int} {many : Nat}, okPs h last many ps = true → ∀ p ∈ ps, okInv h 0 p.inv = true
  | [], _, _, _, p, hp => by cases hp
  | q :: ps, last, many, hk, p, hp => by
    simp only [okPs] at hk
    split at hk
    · cases hk
    · split at hk
      · cases hk
      · rename_i h2
        split at hk
        · cases hk
        · rcases List.mem_cons.1 hp with rfl | hp
          · simpa using h2
          · exact okPs_inv_ok hk p hp
theorem valid_inv {h : Hall} (hv : valid h = true) : ∀ p ∈ h.ps, p.inv.Pairwise (fun a b => a.who < b.who) := by
  unfold valid at hv
  split at hv
  · cases hv
  · exact fun p hp => (okInv_sorted (okPs_inv_ok hv p hp)).2
theorem sorted_of {xs : List Inv} (h : xs.Pairwise (fun a b => a.who < b.who)) : Sorted xs := fun i j x y hij hx hy => by
  obtain ⟨h1, e1⟩ := List.getElem?_eq_some_iff.1 hx
  obtain ⟨h2, e2⟩ := List.getElem?_eq_some_iff.1 hy
  have := List.pairwise_iff_getElem.1 h i j h1 h2 hij
  rwa [e1, e2] at this
theorem sorted_split {t : Int} : ∀ {xs : List Inv}, xs.Pairwise (fun a b => a.who < b.who) → (xs.any fun i => decide (i.who = t)) = false → xs.take (xs.filter fun i => decide (i.who < t)).length = xs.filter (fun i => decide (i.who < t)) ∧ xs.drop (xs.filter fun i => decide (i.who < t)).length = xs.filter (fun i => decide (t < i.who))
  | [], _, _ => ⟨rfl, rfl⟩
  | x :: xs, hs, ha => by
    obtain ⟨h1, h2⟩ := List.pairwise_cons.1 hs
    simp only [List.any_cons, Bool.or_eq_false_iff, decide_eq_false_iff_not] at ha
    by_cases hx : x.who < t
    · obtain ⟨h3, h4⟩ := sorted_split h2 ha.2
      have e1 : (x :: xs).filter (fun i => decide (i.who < t)) = x :: xs.filter (fun i => decide (i.who < t)) := by rw [List.filter_cons_of_pos (by simpa using hx)]
      have e2 : (x :: xs).filter (fun i => decide (t < i.who)) = xs.filter (fun i => decide (t < i.who)) := by rw [List.filter_cons_of_neg (by simp; omega)]
      rw [e1, e2]
      exact ⟨by rw [List.length_cons, List.take_succ_cons, h3], by rw [List.length_cons, List.drop_succ_cons, h4]⟩
    · have e1 : (x :: xs).filter (fun i => decide (i.who < t)) = [] := List.filter_eq_nil_iff.2 fun y hy => by
        rcases List.mem_cons.1 hy with rfl | hy
        · simpa using hx
        · have := h1 y hy; simp; omega
      have e2 : (x :: xs).filter (fun i => decide (t < i.who)) = x :: xs := List.filter_eq_self.2 fun y hy => by
        rcases List.mem_cons.1 hy with rfl | hy
        · simp; omega
        · have := h1 y hy; simp; omega
      rw [e1, e2]
      exact ⟨rfl, rfl⟩
theorem bs_inv (a b : Value) (w : World) : (Instr.buildSlice 44 1 [(0, Value.agg [a, b].toArray)].toArray).run Tryz.prog w = .ok (.slice (some ⟨w.heap.size, 0, none⟩) 1 1) (w.alloc (.cells [a, b].toArray 61)) := by
  go_simp
set_option maxRecDepth 100000 in
set_option maxHeartbeats 1000000 in
theorem invited1_c (t : Int) (H : Hall) (bc : Nat) (B : List Bx) (V : List (Nat × World)) (w0 : World) (hw0 : (0, w0) ∈ V) (hm : cB bc [.int .i64 t] 3 ∈ B) : LeadsTo 45 [.pointer (some ⟨bc, 0, none⟩)] (invF t) H B V := by
  intro hval i hi w B' b0 T pv bs hsub hS hH
  have hm' := hsub _ hm
  obtain ⟨y1, y2, y3, y4, _⟩ := valid_small hval
  obtain ⟨p, hp⟩ : ∃ p, H.ps[i]? = some p := ⟨_, List.getElem?_eq_getElem hi⟩
  have hsrt := valid_inv hval p (List.mem_of_getElem? hp)
  have hsz := y2 p (List.mem_of_getElem? hp)
  obtain ⟨A', c', rfl⟩ := hH.shape
  have hH' := hH
  obtain ⟨g, c, cs, rest, bp, hpv, rfl, hP, hn, hmax, hl, hle⟩ := hH.row (by omega)
  cases hpv
  obtain ⟨cl, c4, cr, bl, b, br, rfl, rfl, k1, ⟨mv, iv, bm', bi, rfl, hmm, hiv, rfl, hml, hil⟩, k3, hcl⟩ := hP.focus hp
  obtain ⟨A1, e1, rfl⟩ := hmm.shape
  obtain ⟨A2, e2, rfl⟩ := hiv.shape
  have hget : ∀ j v, ([Value.int .i64 p.id, .int .i64 p.leader, .slice A1 p.mem.length e1, .slice A2 p.inv.length e2] : List Value)[j]? = some v → ((cl ++ ([Value.int .i64 p.id, .int .i64 p.leader, .slice A1 p.mem.length e1, .slice A2 p.inv.length e2] ++ cr)) ++ rest)[0 + i * 4 + j]? = some v := by
    intro j v hj
    rw [List.append_assoc, List.append_assoc]
    exact mid_get (by omega) j v hj
  have hbi : bi.Sublist (cB b0 [.int .i64 H.tick, .int .i64 H.last, .slice (some ⟨g, 0, none⟩) H.ps.length c'] T :: (((cB g ((cl ++ ([Value.int .i64 p.id, .int .i64 p.leader, .slice A1 p.mem.length e1, .slice A2 p.inv.length e2] ++ cr)) ++ rest) 46 :: (bl ++ ((bm' ++ bi) ++ br))) ++ B'))) :=
    List.Sublist.cons _ ((List.Sublist.cons _ (((List.sublist_append_right bm' bi).trans (List.sublist_append_left _ br)).trans (List.sublist_append_right bl _))).trans (List.sublist_append_left _ _))
  refine m_enter Tryz.func45 rfl Tryz.ntmps45 (Nat.le_of_ble_eq_true rfl) ?_
  intro a hA
  refine m_seq ?_
  refine m_region ?_
  refine m1 hA hS (Y.assign rfl) rfl ?_
  clear hA a; intro a hA
  refine m_nil ?_
  refine m_then ?_
  refine m_seq ?_
  refine m_region ?_
  refine m1 hA hS (Y.move rfl) rfl ?_
  clear hA a; intro a hA
  refine m1 hA hS (Y.nil rfl) rfl ?_
  clear hA a; intro a hA
  refine m1 hA hS (Y.fieldAddr (k := 2) rfl Tryz.underlying24 rfl rfl Tryz.sizeOf22) rfl ?_
  clear hA a; intro a hA
  refine m1 hA hS (Y.load rfl Tryz.isAgg22 (fun w h => h.cell (i := 0) rfl rfl)) rfl ?_
  clear hA a; intro a hA
  refine m1 hA hS (Y.move rfl) rfl ?_
  clear hA a; intro a hA
  refine m1 hA hS (Y.indexAddrN rfl rfl Tryz.underlying22 Tryz.sizeOf46 (by omega)) rfl ?_
  clear hA a; intro a hA
  refine m1 hA hS (Y.assign rfl) rfl ?_
  clear hA a; intro a hA
  refine m_nil ?_
  refine m_then ?_
  refine m_seq ?_
  refine q_region hS rfl (by kernel_rfl) ?_
  refine q1 hA (Y.move rfl) rfl ?_
  clear hA a; intro a hA
  refine q1 hA (Y.nil rfl) rfl ?_
  clear hA a; intro a hA
  refine q1 hA (Y.fieldAddr (k := 3) rfl Tryz.underlying46 rfl rfl Tryz.sizeOf44) rfl ?_
  clear hA a; intro a hA
  refine q1 hA (Y.load rfl Tryz.isAgg44 (fun w h => h.cell (i := 1) rfl (hget 3 _ rfl))) rfl ?_
  clear hA a; intro a hA
  refine q1 hA (Y.load rfl Tryz.isAgg3 (fun w h => h.cellM (cs := [.int .i64 t]) (T := 3) (by simp [hm']) rfl)) rfl ?_
  clear hA a; intro a hA
  refine q_call _ hA Tryz.call46 rfl rfl (fun w hS => bsearch_c _ _ _ p.inv t _ (hiv.in hS hbi hil) (by omega) (sorted_of hsrt)) ?_
  clear hA a; intro a hA
  refine q1 hA (Y.move rfl) rfl ?_
  clear hA a; intro a hA
  refine q1 hA (Y.extract rfl rfl) rfl ?_
  clear hA a; intro a hA
  refine q1 hA (Y.extract rfl rfl) rfl ?_
  clear hA a; intro a hA
  refine q1 hA (Y.assign rfl) rfl ?_
  clear hA a; intro a hA
  refine q1 hA (Y.assign rfl) rfl ?_
  clear hA a; intro a hA
  refine q_nil ?_
  clear hS; intro w hS
  refine m_then ?_
  refine m_seq ?_
  refine m_block ?_
  refine m_seq ?_
  refine m_region ?_
  refine m1 hA hS (Y.load rfl Tryz.isAgg3 (fun w h => h.cellM (cs := [.int .i64 t]) (T := 3) (by simp [hm']) rfl)) rfl ?_
  clear hA a; intro a hA
  refine m_callb hA hS Tryz.call25 rfl rfl ((isID_c _ _).mono (fun e w' h => ⟨h.1, h.2 ▸ Gr.rf _⟩)) ?_
  clear hA hS a; intro a w hA hS hg
  refine m1 hA hS (Y.not rfl) rfl ?_
  clear hA a; intro a hA
  refine m1 hA hS (Y.assign rfl) rfl ?_
  clear hA a; intro a hA
  refine m_nil ?_
  refine m_then ?_
  refine m_cond hA rfl (fun hc => ?_) (fun hc => ?_)
  · have hF : invF t i H = (H, 2) := by unfold invF; rw [hp]; simp only; rw [if_pos (by simpa using hc)]
    refine m_seq ?_
    refine m_region ?_
    refine m1 hA hS (Y.assign rfl) rfl ?_
    clear hA a; intro a hA
    refine m_nil ?_
    refine m_then ?_
    refine m_retc ?_
    refine r_block ?_
    refine r_then ?_
    refine m_ret1 hA Tryz.results45 rfl ?_
    rw [hF]
    refine ⟨rfl, ?_⟩
    rw [if_neg (by simp)]
    exact (hS.gone).goneL
  · replace hc : ¬ isIDb t = false := by simpa using hc
    refine m_seq ?_
    refine d_regionS [2, 4] [0, 1, 2, 4, 6, 7] hS rfl 8 [false, false, false, false, false, false, false, false] rfl rfl ?_
    clear hS; intro w hS _
    have hQ := hS
    refine d_take 0 (bs' := [true, false, false, false, false, false, false, false]) hA rfl rfl (by kernel_rfl) (fun _ _ _ h => h) (Y.move rfl) rfl ?_
    clear hA a; intro a hA
    refine d_take 1 (bs' := [true, true, false, false, false, false, false, false]) hA rfl rfl (by kernel_rfl) (fun _ _ _ h => h) (Y.nil rfl) rfl ?_
    clear hA a; intro a hA
    refine d_load 2 (bs' := [true, true, true, false, false, false, false, false]) hA hQ rfl rfl rfl (by kernel_rfl) (fun _ _ _ h => h) (Y.loads rfl Tryz.isAgg24 Tryz.sizeOf24 (fun w h => h.cells (i := 0) rfl) rfl) rfl ?_
    clear hA a; intro a hA
    refine d_load 4 (bs' := [true, true, true, false, true, false, false, false]) hA hQ rfl rfl rfl (by kernel_rfl) (fun _ _ _ h => h) (Y.load rfl Tryz.isAgg3 (fun w h => h.cellM (cs := [.int .i64 t]) (T := 3) (by simp [hm']) rfl)) rfl ?_
    clear hA a; intro a hA
    refine d_one 3 (bs' := [true, true, true, true, true, false, false, false]) true rfl (by kernel_rfl) ?_
    refine m_call hA Tryz.call23 rfl rfl ((places_c _ _ _ _ _ H.ps _ (hH'.in hS hw0)).mono ?_)
    rintro e w ⟨bm, rfl, him, hg1, hbm⟩
    refine ⟨_, rfl, ?_⟩
    clear hA a; intro a hA
    replace hS := hS.call hg1
    replace hQ := hQ.gr hg1
    refine m_nil (m_then ⟨fun _ => hQ, ?_⟩)
    refine d_one 5 (bs' := [true, true, true, true, true, true, false, false]) true rfl (by kernel_rfl) ?_
    refine m1 hA hS (Y.look Tryz.underlying58 Tryz.underlying3 Tryz.zeroValue3 rfl rfl (fun w h => h.map (by simp) hbm him)) rfl ?_
    clear hA a; intro a hA
    refine m_nil (m_then ⟨fun _ => hQ, ?_⟩)
    refine d_take 6 (bs' := [true, true, true, true, true, true, true, false]) hA rfl rfl (by kernel_rfl) (fun _ _ _ h => h) (Y.gtI rfl rfl) rfl ?_
    clear hA a; intro a hA
    refine d_take 7 (bs' := [true, true, true, true, true, true, true, true]) hA rfl rfl (by kernel_rfl) (fun _ _ _ h => h) (Y.assign rfl) rfl ?_
    clear hA a; intro a hA
    refine d_done (by kernel_rfl) ?_
    refine m_then ?_
    replace hS := hS.dropC
    refine m_condP hA rfl (fun hlt => ?_) (fun hlt => ?_)
    · replace hlt : 0 < place H t := hlt
      have hF : invF t i H = (H, 361) := by unfold invF; rw [hp]; simp only; rw [if_neg hc, if_pos hlt]
      refine m_seq ?_
      refine m_region ?_
      refine m1 hA hS (Y.assign rfl) rfl ?_
      clear hA a; intro a hA
      refine m_nil ?_
      refine m_then ?_
      refine m_retc ?_
      refine r_block ?_
      refine r_then ?_
      refine m_ret1 hA Tryz.results45 rfl ?_
      rw [hF]
      refine ⟨rfl, ?_⟩
      rw [if_neg (by simp)]
      exact (hS.gone).goneL
    · replace hlt : ¬ 0 < place H t := hlt
      refine m_seq ?_
      refine m_region ?_
      refine m1 hA hS (Y.move rfl) rfl ?_
      clear hA a; intro a hA
      refine m1 hA hS (Y.assign rfl) rfl ?_
      clear hA a; intro a hA
      refine m_nil ?_
      refine m_then ?_
      refine m_cond hA rfl (fun hth => ?_) (fun hth => ?_)
      · have hF : invF t i H = (H, 363) := by unfold invF; rw [hp]; simp only; rw [if_neg hc, if_neg hlt, if_pos hth]
        refine m_seq ?_
        refine m_region ?_
        refine m1 hA hS (Y.assign rfl) rfl ?_
        clear hA a; intro a hA
        refine m_nil ?_
        refine m_then ?_
        refine m_retc ?_
        refine r_block ?_
        refine r_then ?_
        refine m_ret1 hA Tryz.results45 rfl ?_
        rw [hF]
        refine ⟨rfl, ?_⟩
        rw [if_neg (by simp)]
        exact (hS.gone).goneL
      · refine m_seq ?_
        refine q_region hS rfl (by kernel_rfl) ?_
        refine q1 hA (Y.move rfl) rfl ?_
        clear hA a; intro a hA
        refine q1 hA (Y.nil rfl) rfl ?_
        clear hA a; intro a hA
        refine q1 hA (Y.fieldAddr (k := 2) rfl Tryz.underlying46 rfl rfl Tryz.sizeOf38) rfl ?_
        clear hA a; intro a hA
        refine q1 hA (Y.load rfl Tryz.isAgg38 (fun w h => h.cell (i := 1) rfl (hget 2 _ rfl))) rfl ?_
        clear hA a; intro a hA
        refine q1 hA (Y.lenSl rfl Tryz.underlying38) rfl ?_
        clear hA a; intro a hA
        refine q1 hA (Y.move rfl) rfl ?_
        clear hA a; intro a hA
        refine q1 hA (Y.nil rfl) rfl ?_
        clear hA a; intro a hA
        refine q1 hA (Y.fieldAddr (k := 3) rfl Tryz.underlying46 rfl rfl Tryz.sizeOf44) rfl ?_
        clear hA a; intro a hA
        refine q1 hA (Y.load rfl Tryz.isAgg44 (fun w h => h.cell (i := 1) rfl (hget 3 _ rfl))) rfl ?_
        clear hA a; intro a hA
        refine q1 hA (Y.lenSl rfl Tryz.underlying44) rfl ?_
        clear hA a; intro a hA
        refine q1 hA (Y.addI rfl rfl (by omega)) rfl ?_
        clear hA a; intro a hA
        refine q1 hA (Y.geI rfl rfl) rfl ?_
        clear hA a; intro a hA
        refine q1 hA (Y.assign rfl) rfl ?_
        clear hA a; intro a hA
        refine q_nil ?_
        clear hS; intro w hS
        refine m_then ?_
        refine m_condP hA rfl (fun hfu => ?_) (fun hfu => ?_)
        · have hF : invF t i H = (H, 4) := by unfold invF; rw [hp]; simp only; rw [if_neg hc, if_neg hlt, if_neg (by simpa using hth), if_pos (by omega)]
          refine m_seq ?_
          refine m_region ?_
          refine m1 hA hS (Y.assign rfl) rfl ?_
          clear hA a; intro a hA
          refine m_nil ?_
          refine m_then ?_
          refine m_retc ?_
          refine r_block ?_
          refine r_then ?_
          refine m_ret1 hA Tryz.results45 rfl ?_
          rw [hF]
          refine ⟨rfl, ?_⟩
          rw [if_neg (by simp)]
          exact (hS.gone).goneL
        · have hF : invF t i H = ({ H with ps := H.ps.set i { p with inv := insInv t (H.tick + 600) p.inv } }, 0) := by
            unfold invF; rw [hp]; simp only; rw [if_neg hc, if_neg hlt, if_neg (by simpa using hth), if_neg (by omega)]
          obtain ⟨hs1, hs2⟩ := sorted_split (t := t) hsrt hth
          refine m_skip ?_
          refine n_block ?_
          refine m_then ?_
          refine m_seq ?_
          refine d_region (fun w => St w (cB b0 [.int .i64 H.tick, .int .i64 H.last, .slice (some ⟨g, 0, none⟩) H.ps.length c'] T :: (cB g ((cl ++ ([Value.int .i64 p.id, .int .i64 p.leader, .slice A1 p.mem.length e1, .slice A2 p.inv.length e2] ++ cr)) ++ rest) 46 :: B')) V) [4, 6, 10] [0, 1, 2, 3, 4, 5, 6, 7, 8, 9, 10, 11, 12, 15, 16] _ _ hS rfl 18 [false, false, false, false, false, false, false, false, false, false, false, false, false, false, false, false, false, false] rfl rfl ?_
          clear hS; intro w hS _
          have hQ : St w (cB b0 [.int .i64 H.tick, .int .i64 H.last, .slice (some ⟨g, 0, none⟩) H.ps.length c'] T :: (cB g ((cl ++ ([Value.int .i64 p.id, .int .i64 p.leader, .slice A1 p.mem.length e1, .slice A2 p.inv.length e2] ++ cr)) ++ rest) 46 :: B')) V := hS.sub (.cons_cons _ (.cons_cons _ (List.sublist_append_right _ _)))
          refine d_take 0 (bs' := [true, false, false, false, false, false, false, false, false, false, false, false, false, false, false, false, false, false]) hA rfl rfl (by kernel_rfl) (fun _ _ _ h => h) (Y.move rfl) rfl ?_
          clear hA a; intro a hA
          refine d_take 1 (bs' := [true, true, false, false, false, false, false, false, false, false, false, false, false, false, false, false, false, false]) hA rfl rfl (by kernel_rfl) (fun _ _ _ h => h) (Y.move rfl) rfl ?_
          clear hA a; intro a hA
          refine d_take 2 (bs' := [true, true, true, false, false, false, false, false, false, false, false, false, false, false, false, false, false, false]) hA rfl rfl (by kernel_rfl) (fun _ _ _ h => h) (Y.nil rfl) rfl ?_
          clear hA a; intro a hA
          refine d_take 3 (bs' := [true, true, true, true, false, false, false, false, false, false, false, false, false, false, false, false, false, false]) hA rfl rfl (by kernel_rfl) (fun _ _ _ h => h) (Y.fieldAddr (k := 3) rfl Tryz.underlying46 rfl rfl Tryz.sizeOf44) rfl ?_
          clear hA a; intro a hA
          refine d_load 4 (bs' := [true, true, true, true, true, false, false, false, false, false, false, false, false, false, false, false, false, false]) hA hQ rfl rfl rfl (by kernel_rfl) (fun _ _ _ h => h) (Y.load rfl Tryz.isAgg44 (fun w h => h.cell (i := 1) rfl (hget 3 _ rfl))) rfl ?_
          clear hA a; intro a hA
          refine d_take 5 (bs' := [true, true, true, true, true, true, false, false, false, false, false, false, false, false, false, false, false, false]) hA rfl rfl (by kernel_rfl) (fun _ _ _ h => h) (Y.move rfl) rfl ?_
          clear hA a; intro a hA
          refine d_load 6 (bs' := [true, true, true, true, true, true, true, false, false, false, false, false, false, false, false, false, false, false]) hA hQ rfl rfl rfl (by kernel_rfl) (fun _ _ _ h => h) (Y.load rfl Tryz.isAgg3 (fun w h => h.cellM (cs := [.int .i64 t]) (T := 3) (by simp [hm']) rfl)) rfl ?_
          clear hA a; intro a hA
          refine d_take 7 (bs' := [true, true, true, true, true, true, true, true, false, false, false, false, false, false, false, false, false, false]) hA rfl rfl (by kernel_rfl) (fun _ _ _ h => h) (Y.move rfl) rfl ?_
          clear hA a; intro a hA
          refine d_take 8 (bs' := [true, true, true, true, true, true, true, true, true, false, false, false, false, false, false, false, false, false]) hA rfl rfl (by kernel_rfl) (fun _ _ _ h => h) (Y.nil rfl) rfl ?_
          clear hA a; intro a hA
          refine d_take 9 (bs' := [true, true, true, true, true, true, true, true, true, true, false, false, false, false, false, false, false, false]) hA rfl rfl (by kernel_rfl) (fun _ _ _ h => h) (Y.fieldAddr (k := 0) rfl Tryz.underlying24 rfl rfl Tryz.sizeOf3) rfl ?_
          clear hA a; intro a hA
          refine d_load 10 (bs' := [true, true, true, true, true, true, true, true, true, true, true, false, false, false, false, false, false, false]) hA hQ rfl rfl rfl (by kernel_rfl) (fun _ _ _ h => h) (Y.load rfl Tryz.isAgg3 (fun w h => h.cell (i := 0) rfl rfl)) rfl ?_
          clear hA a; intro a hA
          refine d_take 11 (bs' := [true, true, true, true, true, true, true, true, true, true, true, true, false, false, false, false, false, false]) hA rfl rfl (by kernel_rfl) (fun _ _ _ h => h) (Y.addI rfl rfl (by omega)) rfl ?_
          clear hA a; intro a hA
          refine d_take 12 (bs' := [true, true, true, true, true, true, true, true, true, true, true, true, true, false, false, false, false, false]) hA rfl rfl (by kernel_rfl) (fun _ _ _ h => h) (Y.build rfl (cs := [.int .i64 t, .int .i64 (H.tick + 600)]) (by kernel_rfl)) rfl ?_
          clear hA a; intro a hA
          refine d_one 13 (bs' := [true, true, true, true, true, true, true, true, true, true, true, true, true, true, false, false, false, false]) true rfl (by kernel_rfl) ?_
          refine m_buildSlice ([.int .i64 t, .int .i64 (H.tick + 600)]) hA hS rfl rfl (bs_inv _ _) ?_
          clear hA hS a; intro a b1 w hA hgb1 hS
          replace hQ := hQ.gr hgb1
          refine m_nil (m_then ⟨fun _ => hQ, ?_⟩)
          refine d_one 14 (bs' := [true, true, true, true, true, true, true, true, true, true, true, true, true, true, true, false, false, false]) true rfl (by kernel_rfl) ?_
          have hSp : St w (bi ++ (cB b1 [.int .i64 t, .int .i64 (H.tick + 600)] 61 :: ([cB b0 [.int .i64 H.tick, .int .i64 H.last, .slice (some ⟨g, 0, none⟩) H.ps.length c'] T, cB g ((cl ++ ([Value.int .i64 p.id, .int .i64 p.leader, .slice A1 p.mem.length e1, .slice A2 p.inv.length e2] ++ cr)) ++ rest) 46] ++ ((bl ++ (bm' ++ br)) ++ B')))) V :=
            St.perm (B := [cB b1 [.int .i64 t, .int .i64 (H.tick + 600)] 61] ++ ([cB b0 [.int .i64 H.tick, .int .i64 H.last, .slice (some ⟨g, 0, none⟩) H.ps.length c'] T, cB g ((cl ++ ([Value.int .i64 p.id, .int .i64 p.leader, .slice A1 p.mem.length e1, .slice A2 p.inv.length e2] ++ cr)) ++ rest) 46] ++ ((bl ++ ((bm' ++ bi) ++ br)) ++ B'))) hS (List.perm_iff_count.2 fun a => by simp only [List.count_append, List.count_cons, List.count_nil]; omega)
          have hkle : (p.inv.filter fun z => decide (z.who < t)).length ≤ p.inv.length := List.length_filter_le _ _
          refine m_call hA Tryz.call49 rfl rfl ((insert_c _ p.inv bi _ V b1 _ ⟨t, H.tick + 600⟩ _ hSp hiv hkle (by omega)).mono ?_)
          rintro e w ⟨v', bi', rfl, hiv', hSn⟩
          refine ⟨_, rfl, ?_⟩
          clear hA a; intro a hA
          obtain ⟨nv, hnv⟩ : ∃ nv, nv = p.inv.take (p.inv.filter fun z => decide (z.who < t)).length ++ ⟨t, H.tick + 600⟩ :: p.inv.drop (p.inv.filter fun z => decide (z.who < t)).length := ⟨_, rfl⟩
          rw [← hnv] at hiv'
          obtain ⟨A3, e3, rfl⟩ := hiv'.shape
          have hins : nv = insInv t (H.tick + 600) p.inv := by rw [hnv, hs1, hs2]; rfl
          have hnvl : nv.length ≤ 100 := by rw [hnv]; simp; omega
          clear hSp
          replace hQ : St w (cB b0 [.int .i64 H.tick, .int .i64 H.last, .slice (some ⟨g, 0, none⟩) H.ps.length c'] T :: (cB g ((cl ++ ([Value.int .i64 p.id, .int .i64 p.leader, .slice A1 p.mem.length e1, .slice A2 p.inv.length e2] ++ cr)) ++ rest) 46 :: B')) V := (hSn.goneL).sub (.cons _ (.cons_cons _ (.cons_cons _ (List.sublist_append_right _ _))))
          replace hS : St w ([cB b0 [.int .i64 H.tick, .int .i64 H.last, .slice (some ⟨g, 0, none⟩) H.ps.length c'] T, cB g ((cl ++ ([Value.int .i64 p.id, .int .i64 p.leader, .slice A1 p.mem.length e1, .slice A2 p.inv.length e2] ++ cr)) ++ rest) 46] ++ ((bl ++ ((bm' ++ bi') ++ br)) ++ ([cB b1 [.int .i64 t, .int .i64 (H.tick + 600)] 61] ++ B'))) V :=
            St.perm (B := bi' ++ ([cB b1 [.int .i64 t, .int .i64 (H.tick + 600)] 61] ++ ([cB b0 [.int .i64 H.tick, .int .i64 H.last, .slice (some ⟨g, 0, none⟩) H.ps.length c'] T, cB g ((cl ++ ([Value.int .i64 p.id, .int .i64 p.leader, .slice A1 p.mem.length e1, .slice A2 p.inv.length e2] ++ cr)) ++ rest) 46] ++ ((bl ++ (bm' ++ br)) ++ B')))) hSn (List.perm_iff_count.2 fun a => by simp only [List.count_append, List.count_cons, List.count_nil]; omega)
          refine m_nil (m_then ⟨fun _ => hQ, ?_⟩)
          refine d_take 15 (bs' := [true, true, true, true, true, true, true, true, true, true, true, true, true, true, true, true, false, false]) hA rfl rfl (by kernel_rfl) (fun _ _ _ h => h) (Y.nil rfl) rfl ?_
          clear hA a; intro a hA
          refine d_take 16 (bs' := [true, true, true, true, true, true, true, true, true, true, true, true, true, true, true, true, true, false]) hA rfl rfl (by kernel_rfl) (fun _ _ _ h => h) (Y.fieldAddr (k := 3) rfl Tryz.underlying46 rfl rfl Tryz.sizeOf44) rfl ?_
          clear hA a; intro a hA
          refine d_one 17 (bs' := [true, true, true, true, true, true, true, true, true, true, true, true, true, true, true, true, true, true]) false rfl (by kernel_rfl) ?_
          refine m_storeP 1 ((cl ++ ([Value.int .i64 p.id, .int .i64 p.leader, .slice A1 p.mem.length e1, .slice A3 nv.length e3] ++ cr)) ++ rest) hA hS rfl rfl Tryz.sizeOf44 rfl rfl (by simp only [List.length_append, List.length_cons, List.length_nil]; omega) (List.all_eq_true.1 rfl) ?_ ?_
          · have := spl_mid (l := cl ++ [Value.int .i64 p.id, .int .i64 p.leader, .slice A1 p.mem.length e1]) (c := [.slice A2 p.inv.length e2]) (r := cr ++ rest) (c' := [.slice A3 nv.length e3]) (o := 0 + i * 4 + 3) (by simp only [List.length_append, List.length_cons, List.length_nil]; omega) rfl
            simpa [Value.cells] using this
          clear hS; intro w hS
          have hl2 : ((cl ++ ([Value.int .i64 p.id, .int .i64 p.leader, .slice A1 p.mem.length e1, .slice A3 nv.length e3] ++ cr)) ++ rest).length = c' * 4 := by
            simp only [List.length_append, List.length_cons, List.length_nil] at hl ⊢
            omega
          refine m_nil (m_then ⟨fun h => (by cases h), ?_⟩)
          refine d_done (by kernel_rfl) ?_
          refine m_then ?_
          refine m_seq ?_
          refine m_region ?_
          refine m1 hA hS (Y.assign rfl) rfl ?_
          clear hA a; intro a hA
          refine m_nil ?_
          refine m_then ?_
          refine m_retc ?_
          refine m_ret1 hA Tryz.results45 rfl ?_
          have hN := PtysB.unfocus (p := { p with inv := nv }) hi k1 ⟨_, _, bm', bi', rfl, hmm, hiv', rfl, hml, hnvl⟩ k3
          have hN2 := HallB.of (g := g) (c := c') (rest := rest) hN (by simpa using hn) hmax hl2 (by simpa using hle)
          rw [List.length_set] at hN2
          rw [hF]
          refine ⟨rfl, ?_⟩
          rw [if_pos rfl, ← hins]
          refine ⟨_, _, hN2, ?_⟩
          exact (St.perm (B' := [cB b1 [.int .i64 t, .int .i64 (H.tick + 600)] 61] ++ (cB b0 [.int .i64 H.tick, .int .i64 H.last, .slice (some ⟨g, 0, none⟩) H.ps.length c'] T :: ((cB g ((cl ++ ([Value.int .i64 p.id, .int .i64 p.leader, .slice A1 p.mem.length e1, .slice A3 nv.length e3] ++ cr)) ++ rest) 46 :: (bl ++ ((bm' ++ bi') ++ br))) ++ B'))) (B := [cB b0 [.int .i64 H.tick, .int .i64 H.last, .slice (some ⟨g, 0, none⟩) H.ps.length c'] T, cB g ((cl ++ ([Value.int .i64 p.id, .int .i64 p.leader, .slice A1 p.mem.length e1, .slice A3 nv.length e3] ++ cr)) ++ rest) 46] ++ ((bl ++ ((bm' ++ bi') ++ br)) ++ ([cB b1 [.int .i64 t, .int .i64 (H.tick + 600)] 61] ++ B'))) hS (List.perm_iff_count.2 fun a => by simp only [List.count_append, List.count_cons, List.count_nil]; omega)).goneL
set_option maxRecDepth 100000 in
theorem invited_c (u t : Int) (H : Hall) (A : Option Addr) (n c : Nat) (B : List Bx) (V : List (Nat × World)) (lo : Nat) (v w0 w : World) (hS : St w B V) (hw0 : (0, w0) ∈ V) (hv : (lo, v) ∈ V) (hP : PtysL lo v A n H.ps) :
    Calls Tryz.prog 15 #[.agg #[.int .i64 H.tick, .int .i64 H.last, .slice A n c], .int .i64 u, .int .i64 t] w (Gives (change (leadF u (invF t)) H) B V) := by
  refine m_enter Tryz.func15 rfl Tryz.ntmps15 (Nat.le_of_ble_eq_true rfl) ?_
  intro a hA
  refine m_seq ?_
  refine m_region ?_
  refine m_box hA hS rfl rfl ?_
  clear hA hS a; intro a b1 w hA hleb1 hgb1 hS
  refine m_box hA hS rfl rfl ?_
  clear hA hS a; intro a b2 w hA hleb2 hgb2 hS
  refine m_alloc hA hS Tryz.zeroValue24 rfl ?_
  clear hA hS a; intro a b3 w hA hleb3 hgb3 hS
  refine m1 hA hS (Y.assign rfl) rfl ?_
  clear hA a; intro a hA
  refine m_nil ?_
  refine m_then ?_
  refine m_seq ?_
  refine m_region ?_
  refine m1 hA hS (Y.loads rfl Tryz.isAgg24 Tryz.sizeOf24 (fun w h => h.cells (i := 2) rfl) rfl) rfl ?_
  clear hA a; intro a hA
  refine m1 hA hS (Y.move rfl) rfl ?_
  clear hA a; intro a hA
  refine m1 hA hS (Y.func rfl) rfl ?_
  clear hA a; intro a hA
  refine m_call hA Tryz.call44 rfl rfl ((lead_c u H (invF t) 45 [.pointer (some ⟨b2, 0, none⟩)] A n c _ V lo v w0 _ hS hw0 hv hP Tryz.call45 (invited1_c t H b2 _ V w0 hw0 (by simp [Value.cells]))).mono ?_)
  rintro e w ⟨pv, bs, rfl, hH, hSn⟩
  refine ⟨_, rfl, ?_⟩
  clear hA a; intro a hA
  obtain ⟨A', c', rfl⟩ := hH.shape
  have hS := St.front (X := [_, _]) _ hSn
  refine m1 hA hS (Y.extract rfl rfl) rfl ?_
  clear hA a; intro a hA
  refine m1 hA hS (Y.extract rfl rfl) rfl ?_
  clear hA a; intro a hA
  refine m_store 0 hA hS rfl rfl Tryz.sizeOf24 rfl rfl rfl rfl ?_
  clear hS; intro w hS
  refine m1 hA hS (Y.assign rfl) rfl ?_
  clear hA a; intro a hA
  refine m_nil ?_
  refine m_then ?_
  refine m_retc ?_
  refine m_retc2 0 hA hS Tryz.results15 rfl rfl rfl Tryz.isAgg24 Tryz.sizeOf24 ?_
  exact ⟨_, bs, rfl, hH, hS.gone⟩
end Go.Proofs.YtljkhijdaaconaaGreat
