/- Contracts of the reference of chapter 36: Accept, Create, Invited. -/
import Derived.Test.YtljkhijdaaconaaGreatRef5
set_option linter.unusedVariables false
set_option linter.unusedSectionVars false
namespace Go.Proofs.YtljkhijdaaconaaGreat
open Go.RowKit

/-- A slice literal, and where it lies. -/
theorem m_buildSliceW {P : Program} {n : Nat} {s : List (Nat × Value)} {ops : Array Oper} {rest : List Oper} {Q : Exit → Act → World → Prop} {a : Act} {w : World} {B : List Bx} {V : List (Nat × World)} {d : Nat} {t ty e : TypeId} {len : Nat} {parts : List (Nat × Operand)} {vs : List (Nat × Value)} {pos : String} {aft : Array Edge} (cells : List Value) (hA : Fits a n s) (hS : St w B V) (hx : evP s parts = some vs) (hd : Nat.blt d n = true)
    (hr : ∀ w : World, (Instr.buildSlice t len vs.toArray).run P w = .ok (.slice (some ⟨w.heap.size, 0, none⟩) len len) (w.alloc (.cells cells.toArray e)))
    (k : ∀ a' b w', Fits a' n ((d, .slice (some ⟨b, 0, none⟩) len len) :: s) → b = w.heap.size → Gr w w' → St w' (cB b cells e :: B) V → wpList P ops Q rest a' w') :
    wpList P ops Q (⟨some d, .buildSlice t len parts.toArray, ty, pos, aft, none⟩ :: rest) a w := by
  refine wpList_plain rfl fun K hK => ?_
  have e1 : (parts.toArray.map fun x => (x.1, a.eval x.2)) = vs.toArray := by
    rw [List.map_toArray, hA.evP hx]
  have e' : (parts.toArray.map fun (x : Nat × Operand) => match x with | (i, x) => (i, a.eval x)) = vs.toArray := e1
  have hr' : (execOp a.eval ⟨some d, .buildSlice t len parts.toArray, ty, pos, aft, none⟩).run P w = .ok (.value (.slice (some ⟨w.heap.size, 0, none⟩) len len)) (w.alloc (.cells cells.toArray e)) := by
    simp only [execOp]
    simp [e', hr]
  unfold Oper.wp
  rw [hr']
  exact hK _ _ (k _ _ _ (hA.put (blt_lt hd) _) rfl ((Gr.rf w).al _) (hS.new cells e))

set_option maxRecDepth 100000 in
set_option maxHeartbeats 4000000 in
theorem refAccept_c (K : Nat → Prop) (who id : Int) (H : Hall) (A : Option Addr) (n c : Nat) (w0 : World) (hP : PtysK K w0 A n H.ps) (hn : n ≤ 100) (hq : ∀ p ∈ H.ps, p.mem.length ≤ 100 ∧ p.inv.length ≤ 100) (hcap : n ≤ c) :
    Calls Tryz.prog 69 #[.agg #[.int .i64 H.tick, .int .i64 H.last, .slice A n c], .int .i64 who, .int .i64 id] w0 (GivesK (change (ansF who id true) H) K w0) := by
  have hl := hP.len
  have hPl := hP.lt
  refine m_enter Tryz.func69 rfl Tryz.ntmps69 (Nat.le_of_ble_eq_true rfl) ?_
  intro a hA
  have hS := St.start w0
  refine m_seq ?_
  refine m_region ?_
  refine m_box hA hS rfl rfl ?_
  clear hA hS a; intro a b1 w hA hleb1 hgb1 hS
  refine m_alloc hA hS Tryz.zeroValue30 rfl ?_
  clear hA hS a; intro a b2 w hA hleb2 hgb2 hS
  refine m1 hA hS (Y.assign rfl) rfl ?_
  clear hA a; intro a hA
  refine m_nil ?_
  refine m_then ?_
  refine m_seq ?_
  refine m_seq ?_
  refine m_region ?_
  refine m1 hA hS (Y.loads rfl Tryz.isAgg30 Tryz.sizeOf30 (fun w h => h.cells (i := 1) rfl) rfl) rfl ?_
  clear hA a; intro a hA
  refine m_callb hA hS Tryz.call9 rfl rfl (refValid_c H A n c _ (hP.z.gr (hS.gr0 (by simp))) hq) ?_
  clear hA hS a; intro a w hA hS hg
  refine m1 hA hS (Y.not rfl) rfl ?_
  clear hA a; intro a hA
  refine m_nil ?_
  refine m_then ?_
  refine m_cond hA rfl (fun hc => ?_) (fun hc => ?_)
  · have hF : change (ansF who id true) H = (noHall, 2) := change_bad (by simpa using hc)
    refine m_seq ?_
    refine m_region ?_
    refine m1 hA hS (Y.build (vs := []) (cs := [.int .i64 0, .int .i64 0, .slice none 0 0]) rfl (by kernel_rfl)) rfl ?_
    clear hA a; intro a hA
    refine m_store 0 hA hS rfl rfl Tryz.sizeOf30 rfl rfl rfl rfl ?_
    clear hS; intro w hS
    refine m1 hA hS (Y.assign rfl) rfl ?_
    clear hA a; intro a hA
    refine m_nil ?_
    refine m_then ?_
    refine m_retc ?_
    refine r_then ?_
    refine m_retc2 0 hA hS Tryz.results69 rfl rfl rfl Tryz.isAgg30 Tryz.sizeOf30 ?_
    rw [hF]
    exact ⟨_, _, _, rfl, hS.gr0 (by simp), RowOf.nil, Nat.le_refl _⟩
  · have g := valid_iff.1 (show valid H = true by simpa using hc)
    refine m_skip ?_
    refine m_then ?_
    refine m_seq ?_
    refine m_region ?_
    refine m1 hA hS (Y.loads rfl Tryz.isAgg30 Tryz.sizeOf30 (fun w h => h.cells (i := 1) rfl) rfl) rfl ?_
    clear hA a; intro a hA
    refine m1 hA hS (Y.move rfl) rfl ?_
    clear hA a; intro a hA
    refine m1 hA hS (Y.move rfl) rfl ?_
    clear hA a; intro a hA
    refine m_callb hA hS Tryz.call102 rfl rfl (asked_c who id H A n c _ (hP.z.gr (hS.gr0 (by simp)))) ?_
    clear hA hS a; intro a w hA hS hg
    refine m1 hA hS (Y.assign rfl) rfl ?_
    clear hA a; intro a hA
    refine m_nil ?_
    refine m_then ?_
    refine m_seq ?_
    refine m_seq ?_
    refine m_region ?_
    refine m1 hA hS (Y.move rfl) rfl ?_
    clear hA a; intro a hA
    refine m1 hA hS (Y.ltI rfl rfl) rfl ?_
    clear hA a; intro a hA
    refine m_nil ?_
    refine m_then ?_
    refine m_condP hA rfl (fun h0 => ?_) (fun h0 => ?_)
    · have hF : change (ansF who id true) H = (noHall, 6) := by
        rcases ans_cases who id true H with ⟨h1, _⟩ | ⟨j, p, hj, h1, h2, _⟩
        · rw [change_good g, h1]; rfl
        · have h3 : askP who id p = true := by unfold askP; rw [decide_eq_true h1, h2]; rfl
          rcases idxF_spec (askP who id) H.ps 0 with ⟨_, h4⟩ | ⟨_, _, _, h4, _⟩
          · rw [h4 p (List.mem_of_getElem? hj)] at h3; cases h3
          · omega
      refine m_seq ?_
      refine m_region ?_
      refine m1 hA hS (Y.build (vs := []) (cs := [.int .i64 0, .int .i64 0, .slice none 0 0]) rfl (by kernel_rfl)) rfl ?_
      clear hA a; intro a hA
      refine m_store 0 hA hS rfl rfl Tryz.sizeOf30 rfl rfl rfl rfl ?_
      clear hS; intro w hS
      refine m1 hA hS (Y.assign rfl) rfl ?_
      clear hA a; intro a hA
      refine m_nil ?_
      refine m_then ?_
      refine m_retc ?_
      refine r_then ?_
      refine m_retc2 0 hA hS Tryz.results69 rfl rfl rfl Tryz.isAgg30 Tryz.sizeOf30 ?_
      rw [hF]
      exact ⟨_, _, _, rfl, hS.gr0 (by simp), RowOf.nil, Nat.le_refl _⟩
    · rcases ans_cases who id true H with ⟨_, h1⟩ | ⟨j0, p0', hj0, h1, h2, h3, h4⟩
      · rcases idxF_spec (askP who id) H.ps 0 with ⟨h4, _⟩ | ⟨_, p, h5, _, h6⟩
        · exact absurd h4 h0
        · rw [h1 p (List.mem_of_getElem? h5)] at h6; cases h6
      rcases idxF_spec (askP who id) H.ps 0 with ⟨h5, _⟩ | ⟨j, p, hj, hix, hak⟩
      · exact absurd h5 h0
      rw [Nat.zero_add] at hix
      have hpid : p.id = id := by unfold askP at hak; rw [Bool.and_eq_true] at hak; exact of_decide_eq_true hak.1
      have hpp : p0' = p := g.uniq (List.mem_of_getElem? hj0) (List.mem_of_getElem? hj) (h1.trans hpid.symm)
      subst hpp
      have hjj : j0 = j := by
        obtain ⟨a1, e1⟩ := List.getElem?_eq_some_iff.1 hj0
        obtain ⟨a2, e2⟩ := List.getElem?_eq_some_iff.1 hj
        refine Classical.byContradiction fun hne => ?_
        rcases Nat.lt_or_ge j0 j with hlt | hge
        · have := List.pairwise_iff_getElem.1 g.pw j0 j a1 a2 hlt
          rw [e1, e2] at this; omega
        · have := List.pairwise_iff_getElem.1 g.pw j j0 a2 a1 (by omega)
          rw [e1, e2] at this; omega
      subst hjj
      have hjl := (List.getElem?_eq_some_iff.1 hj0).1
      have hsz := g.sz p0' (List.mem_of_getElem? hj0)
      have hF : change (ansF who id true) H = (⟨H.tick, H.last, (H.ps.map (keptF H.tick who 0)).set j0 { p0' with mem := p0'.mem ++ [who], inv := p0'.inv.filter fun i => !decide (i.who = who) }⟩, 0) := by
        have hj' : (H.ps.map (keptF H.tick who 0))[j0]? = some (keptF H.tick who 0 p0') := by rw [List.getElem?_map, hj0]; rfl
        rw [change_good g, if_pos h3, h4, if_pos rfl, set_split hj', kept_who g]
      rw [hix] at hA
      refine m_skip ?_
      refine m_then ?_
      refine m_seq ?_
      refine m_region ?_
      refine m1 hA hS (Y.loads rfl Tryz.isAgg30 Tryz.sizeOf30 (fun w h => h.cells (i := 1) rfl) rfl) rfl ?_
      clear hA a; intro a hA
      refine m1 hA hS (Y.fieldAddr (k := 0) rfl Tryz.underlying30 rfl rfl Tryz.sizeOf3) rfl ?_
      clear hA a; intro a hA
      refine m1 hA hS (Y.load rfl Tryz.isAgg3 (fun w h => h.cell (i := 1) rfl rfl)) rfl ?_
      clear hA a; intro a hA
      refine m1 hA hS (Y.move rfl) rfl ?_
      clear hA a; intro a hA
      have hSq : St w [cB b2 [.int .i64 0, .int .i64 0, .slice none 0 0] 30, cB b1 [.int .i64 H.tick, .int .i64 H.last, .slice A n c] 30] [(0, w0)] := hS
      replace hS := hSq
      clear hSq
      have hg := hS.gr0 (w0 := w0) (by simp)
      obtain ⟨L, hLe⟩ : ∃ L, w.heap.size = L := ⟨_, rfl⟩
      have hL0 : w0.heap.size ≤ L := by rw [← hLe]; exact hg.size
      have hb1 : b1 < L := by rw [← hLe]; exact hS.lt (x := cB b1 [.int .i64 H.tick, .int .i64 H.last, .slice A n c] 30) (by simp)
      have hb2 : b2 < L := by rw [← hLe]; exact hS.lt (x := cB b2 [.int .i64 0, .int .i64 0, .slice none 0 0] 30) (by simp)
      refine m_call hA Tryz.call99 rfl rfl ((kept_c (fun b => K b ∧ b < w0.heap.size) H.tick who 0 H A n c _ (hPl.mv (fun _ h => h) (hg.keeps _)) hn (fun p hp => (hq p hp).2) hcap).mono ?_)
      rintro e w ⟨A5, n5, c5, rfl, hg5, hP5, hc5⟩
      refine ⟨_, rfl, ?_⟩
      clear hA a; intro a hA
      have hn5 : n5 = n := by have := hP5.len; simp only [List.length_map] at this; omega
      subst hn5
      obtain ⟨w5, hw5⟩ : ∃ w5, w5 = w := ⟨_, rfl⟩
      have hg6 := hg.tr hg5
      have hL5 : L ≤ w5.heap.size := by rw [hw5, ← hLe]; exact hg5.size
      replace hS := hS.call hg5
      rw [hLe] at hS hP5
      rw [← hw5] at hP5 hg6
      have hSq : St w [cB b2 [.int .i64 0, .int .i64 0, .slice none 0 0] 30, cB b1 [.int .i64 H.tick, .int .i64 H.last, .slice A n5 c] 30] [(L, w5), (0, w0)] := by rw [hw5] at *; exact hS
      replace hS := hSq
      clear hSq
      have hkk : ∀ (B : List Bx) w, St w B [(L, w5), (0, w0)] → Keeps (fun b => (K b ∧ b < w0.heap.size) ∨ L ≤ b) w5 w := fun B w h => h.keeps2 K (by simp) (by simp) hg6
      obtain ⟨bb, o, p2, M, m, mc, I, i, ic, rfl, hKb, hp2, p0, p1, q2, p3, hin⟩ := hP5.at (j := j0) (by omega)
      have hp2e : p2 = keptF H.tick who 0 p0' := by
        rw [List.getElem?_map, hj0] at hp2
        exact (Option.some.inj hp2).symm
      have hp2m : p2.mem = p0'.mem := by rw [hp2e]; rfl
      have hp2i : p2.inv = p0'.inv.filter fun i => !decide (i.who = who) := by
        rw [hp2e]
        refine List.filter_congr fun i hi => ?_
        have h1 := (g.iv p0' (List.mem_of_getElem? hj0) i hi).2.2.2.1
        simp [h1]
      have hml : p2.mem.length = m := hin.mem.len
      have hm1 : 1 ≤ m := by
        have := List.length_pos_of_mem (g.ld p0' (List.mem_of_getElem? hj0))
        rw [hp2m] at hml; omega
      have hm5 : m ≤ 5 := by rw [hp2m] at hml; omega
      obtain ⟨bm, om, _, rfl, _⟩ := hin.mem.z.at (j := 0) (by omega)
      refine m_store 1 hA hS rfl rfl Tryz.sizeOf30 rfl rfl rfl rfl ?_
      clear hS; intro w hS
      refine m_nil ?_
      refine m_then ?_
      refine m_seq ?_
      refine m_region ?_
      refine m1 hA hS (Y.fieldAddr (k := 2) rfl Tryz.underlying30 rfl rfl Tryz.sizeOf28) rfl ?_
      clear hA a; intro a hA
      refine m1 hA hS (Y.load rfl Tryz.isAgg28 (fun w h => h.cell (i := 1) rfl rfl)) rfl ?_
      clear hA a; intro a hA
      refine m1 hA hS (Y.move rfl) rfl ?_
      clear hA a; intro a hA
      refine m1 hA hS (Y.indexAddrN rfl rfl Tryz.underlying28 Tryz.sizeOf43 (by omega)) rfl ?_
      clear hA a; intro a hA
      refine m1 hA hS (Y.loads rfl Tryz.isAgg43 Tryz.sizeOf43 (fun w h => (hkk _ w h).cells (hKb) (Cs.four p0 p1 q2 p3)) rfl) rfl ?_
      clear hA a; intro a hA
      refine m_alloc hA hS Tryz.zeroValue43 rfl ?_
      clear hA hS a; intro a b3 w hA hleb3 hgb3 hS
      refine m_store 0 hA hS rfl rfl Tryz.sizeOf43 rfl rfl rfl rfl ?_
      clear hS; intro w hS
      refine m_nil ?_
      refine m_then ?_
      refine m_seq ?_
      refine m_region ?_
      refine m_buildSliceW ([]) hA hS rfl rfl (run_bs0 Tryz.underlying38 Tryz.sizeOf3) ?_
      have hLw : L ≤ w.heap.size := Nat.le_trans hL5 (hS.vs (L, w5) (by simp)).2.2.2.1
      clear hA a; intro a b4 w' hA hb4 hgb4 hS
      have hb4L : L ≤ b4 := by omega
      refine m1 hA hS (Y.fieldAddr (k := 2) rfl Tryz.underlying43 rfl rfl Tryz.sizeOf38) rfl ?_
      clear hA a; intro a hA
      refine m1 hA hS (Y.load rfl Tryz.isAgg38 (fun w h => h.cell (i := 1) rfl rfl)) rfl ?_
      clear hA a; intro a hA
      have hSx : St w' ([cB b4 [] 3] ++ [cB b3 [.int .i64 p2.id, .int .i64 p2.leader, .slice (some ⟨bm, om, none⟩) m mc, .slice I i ic] 43, cB b2 [.int .i64 0, .int .i64 0, .slice none 0 0] 30, cB b1 [.int .i64 H.tick, .int .i64 H.last, .slice (some ⟨bb, o, none⟩) n5 c5] 30]) [(L, w5), (0, w0)] := hS
      refine m_appendG (bs := [cB b4 [] 3]) 3 8 (p2.mem.map (Value.int .i64)) elemInt hA hSx (RowB.empty _ _ _) rfl rfl rfl Tryz.underlying38 (by simp [hml]) (IntsL.news (hin.mem.mv (fun _ h => h) (hkk _ _ hSx)).z) (one_ints _) (by omega) (by decide) ?_
      have hLw2 : L ≤ w'.heap.size := Nat.le_trans hL5 (hS.vs (L, w5) (by simp)).2.2.2.1
      clear hA hS hSx a; intro a w v1 bs1 hA hrow1 hwh1 hS
      have hbs1 : ∀ z ∈ bs1, L ≤ z.b := fun z hz => by
        rcases hwh1 z hz with ⟨u, hu, e⟩ | h
        · simp at hu; subst hu; rw [← e]; exact hb4L
        · omega
      rw [Nat.zero_add, List.nil_append] at hrow1
      replace hS : St w ([cB b3 [.int .i64 p2.id, .int .i64 p2.leader, .slice (some ⟨bm, om, none⟩) m mc, .slice I i ic] 43, cB b2 [.int .i64 0, .int .i64 0, .slice none 0 0] 30, cB b1 [.int .i64 H.tick, .int .i64 H.last, .slice (some ⟨bb, o, none⟩) n5 c5] 30] ++ bs1) [(L, w5), (0, w0)] := hS.perm List.perm_append_comm
      refine m1 hA hS (Y.move rfl) rfl ?_
      clear hA a; intro a hA
      refine m_buildSlice ([.int .i64 who]) hA hS rfl rfl (bs_int who) ?_
      clear hA hS a; intro a b5 w hA hgb5 hS
      have hSp : St w (bs1 ++ ([cB b5 [.int .i64 who] 3, cB b3 [.int .i64 p2.id, .int .i64 p2.leader, .slice (some ⟨bm, om, none⟩) m mc, .slice I i ic] 43, cB b2 [.int .i64 0, .int .i64 0, .slice none 0 0] 30, cB b1 [.int .i64 H.tick, .int .i64 H.last, .slice (some ⟨bb, o, none⟩) n5 c5] 30])) [(L, w5), (0, w0)] := hS.perm (List.perm_append_comm (l₁ := [_, _, _, _]))
      have hLw3 : L ≤ w.heap.size := Nat.le_trans hL5 (hS.vs (L, w5) (by simp)).2.2.2.1
      refine m_appendG (bs := bs1) 3 8 [.int .i64 who] elemInt hA hSp hrow1 rfl rfl rfl Tryz.underlying38 rfl (hS.cells (i := 0) rfl) (List.all_eq_true.1 rfl) (by omega) (by decide) ?_
      clear hA hS hSp a; intro a w' v2 bs2 hA hrow2 hwh2 hS
      have hbs2 : ∀ z ∈ bs2, L ≤ z.b := fun z hz => by
        rcases hwh2 z hz with ⟨u, hu, e⟩ | h
        · rw [← e]; exact hbs1 u hu
        · omega
      have hrow : IntsB v2 (p2.mem ++ [who]) bs2 := by
        unfold IntsB
        rw [List.length_append, List.map_append, hml]
        exact hrow2
      obtain ⟨A6, c6, rfl⟩ := hrow.shape
      replace hS : St w' ([cB b3 [.int .i64 p2.id, .int .i64 p2.leader, .slice (some ⟨bm, om, none⟩) m mc, .slice I i ic] 43, cB b2 [.int .i64 0, .int .i64 0, .slice none 0 0] 30, cB b1 [.int .i64 H.tick, .int .i64 H.last, .slice (some ⟨bb, o, none⟩) n5 c5] 30] ++ bs2) [(L, w5), (0, w0)] := (hS.perm (List.perm_append_comm (l₂ := [_, _, _, _]))).gone
      refine m1 hA hS (Y.fieldAddr (k := 2) rfl Tryz.underlying43 rfl rfl Tryz.sizeOf38) rfl ?_
      clear hA a; intro a hA
      refine m_store 0 hA hS rfl rfl Tryz.sizeOf38 rfl rfl rfl rfl ?_
      clear hS; intro w hS
      refine m_nil ?_
      refine m_then ?_
      refine m_seq ?_
      refine m_region ?_
      refine m1 hA hS (Y.loads rfl Tryz.isAgg30 Tryz.sizeOf30 (fun w h => h.cells (i := 2) rfl) rfl) rfl ?_
      clear hA a; intro a hA
      refine m1 hA hS (Y.move rfl) rfl ?_
      clear hA a; intro a hA
      refine m1 hA hS (Y.loads rfl Tryz.isAgg43 Tryz.sizeOf43 (fun w h => h.cells (i := 0) rfl) rfl) rfl ?_
      clear hA a; intro a hA
      have hLw4 : L ≤ w.heap.size := Nat.le_trans hL5 (hS.vs (L, w5) (by simp)).2.2.2.1
      have hg7 := hS.gr0 (w0 := w0) (by simp)
      have hkw := hkk _ w hS
      have hfr := Fresh.of (X := [cB b3 [.int .i64 p2.id, .int .i64 p2.leader, .slice A6 (p2.mem ++ [who]).length c6, .slice I i ic] 43, cB b2 [.int .i64 0, .int .i64 0, .slice none 0 0] 30, cB b1 [.int .i64 H.tick, .int .i64 H.last, .slice (some ⟨bb, o, none⟩) n5 c5] 30]) hS hbs2
      obtain ⟨A6', c6', e6, hrd⟩ := hrow.read hfr (by simp; omega)
      obtain ⟨rfl, _, rfl⟩ := Value.slice.inj e6
      have hpk : PtyInK (fun b => (K b ∧ b < w0.heap.size) ∨ L ≤ b) w A6 (p2.mem ++ [who]).length I i { p2 with mem := p2.mem ++ [who] } := ⟨hrd.k (fun b hb _ => .inr hb), hin.inv.mv (fun _ h => h) hkw⟩
      refine m_call hA Tryz.call101 rfl rfl ((with_c (fun b => (K b ∧ b < w0.heap.size) ∨ L ≤ b) j0 { p2 with mem := p2.mem ++ [who] } A6 (p2.mem ++ [who]).length c6 I i ic ⟨H.tick, H.last, H.ps.map (keptF H.tick who 0)⟩ _ n5 c5 _ (hP5.mv (fun _ h => h) hkw) hpk (by omega) hn).mono ?_)
      rintro e w ⟨A7, n7, c7, rfl, hg8, hP7, hc7⟩
      refine ⟨_, rfl, ?_⟩
      clear hA a; intro a hA
      have hS5 : St w [cB b2 [.int .i64 0, .int .i64 0, .slice none 0 0] 30, cB b1 [.int .i64 H.tick, .int .i64 H.last, .slice (some ⟨bb, o, none⟩) n5 c5] 30] [(L, w), (L, w5), (0, w0)] := St.seal (lo := L) (St.sub (B' := [cB b2 [.int .i64 0, .int .i64 0, .slice none 0 0] 30, cB b1 [.int .i64 H.tick, .int .i64 H.last, .slice (some ⟨bb, o, none⟩) n5 c5] 30]) (hS.gr hg8) (.cons _ (List.sublist_append_left [_, _] _))) (fun x hx => by
        simp at hx
        rcases hx with rfl | rfl
        · exact hb2
        · exact hb1)
      replace hS := hS5
      clear hS5
      have hg9 := hg7.tr hg8
      replace hP7 := PtysK.join hLw4 hP7
      refine m_store 0 hA hS rfl rfl Tryz.sizeOf30 rfl rfl rfl rfl ?_
      clear hS; intro w hS
      refine m1 hA hS (Y.assign rfl) rfl ?_
      clear hA a; intro a hA
      refine m_nil ?_
      refine m_then ?_
      refine m_retc ?_
      refine m_retc2 0 hA hS Tryz.results69 rfl rfl rfl Tryz.isAgg30 Tryz.sizeOf30 ?_
      rw [hF]
      have hfin : ({ p0' with mem := p0'.mem ++ [who], inv := p0'.inv.filter fun i => !decide (i.who = who) } : Pty) = { p2 with mem := p2.mem ++ [who] } := by
        rw [hp2e] at hp2m hp2i ⊢
        rw [← hp2i]; rfl
      rw [hfin]
      exact ⟨_, _, _, rfl, hS.gr0 (by simp), hS.endL (by simp) (List.mem_cons_self ..) hg9 hL0 hP7, hc7⟩

end Go.Proofs.YtljkhijdaaconaaGreat