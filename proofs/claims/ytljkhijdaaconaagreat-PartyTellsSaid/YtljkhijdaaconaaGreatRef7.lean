/- Contract of the reference of chapter 36: Create. -/
import Derived.Test.YtljkhijdaaconaaGreatRef6
set_option linter.unusedVariables false
set_option linter.unusedSectionVars false
namespace Go.Proofs.YtljkhijdaaconaaGreat
open Go.RowKit

theorem m_appendNil0 {P : Program} {n : Nat} {s : List (Nat × Value)} {ops : Array Oper} {rest : List Oper} {Q : Exit → Act → World → Prop} {a : Act} {w : World} {d : Nat} {t ty : TypeId} {x y : Operand} {pos : String} {aft : Array Edge} {n' c c' k m : Nat} {A : Option Addr} (e bytes : Nat) (hE : elemOk P e k bytes = true) (hA : Fits a n s) (hx : ev s x = some (.slice A n' c)) (hy : ev s y = some (.slice none m c')) (hm : m = 0) (hd : Nat.blt d n = true)
    (ht : P.underlying t = some (.slice e)) (hle : n' ≤ c) (kk : ∀ a', Fits a' n ((d, .slice A n' c) :: s) → wpList P ops Q rest a' w) :
    wpList P ops Q (⟨some d, .call { callee := .builtin .append, args := #[x, y], argTypes := #[t, t] }, ty, pos, aft, none⟩ :: rest) a w := by
  subst hm
  exact m_appendNil e bytes hE hA hx hy hd ht hle kk

set_option maxRecDepth 100000 in
set_option maxHeartbeats 8000000 in
theorem refCreate_c (K : Nat → Prop) (who : Int) (H : Hall) (A : Option Addr) (n c : Nat) (w0 : World) (hP : PtysK K w0 A n H.ps) (hn : n ≤ 100) (hq : ∀ p ∈ H.ps, p.mem.length ≤ 100 ∧ p.inv.length ≤ 100) (hcap : n ≤ c) :
    Calls Tryz.prog 67 #[.agg #[.int .i64 H.tick, .int .i64 H.last, .slice A n c], .int .i64 who] w0 (GivesK (change (creF who) H) K w0) := by
  have hl := hP.len
  have hPl := hP.lt
  refine m_enter Tryz.func67 rfl Tryz.ntmps67 (Nat.le_of_ble_eq_true rfl) ?_
  intro a hA
  have hS := St.start w0
  refine m_seq ?_
  refine m_region ?_
  refine m_box hA hS rfl rfl ?_
  clear hA hS a; intro a b1 w hA hleb1 hgb1 hS
  refine m_alloc hA hS Tryz.zeroValue30 rfl ?_
  clear hA hS a; intro a b2 w hA hleb2 hgb2 hS
  refine m1 hA hS (Y.assign rfl) rfl ?_
  clear hA a; intro a hA
  refine m_nil ?_
  refine m_then ?_
  refine m_seq ?_
  refine m_seq ?_
  refine m_region ?_
  refine m1 hA hS (Y.loads rfl Tryz.isAgg30 Tryz.sizeOf30 (fun w h => h.cells (i := 1) rfl) rfl) rfl ?_
  clear hA a; intro a hA
  refine m_callb hA hS Tryz.call9 rfl rfl (refValid_c H A n c _ (hP.z.gr (hS.gr0 (by simp))) hq) ?_
  clear hA hS a; intro a w hA hS hg
  refine m1 hA hS (Y.not rfl) rfl ?_
  clear hA a; intro a hA
  refine m1 hA hS (Y.move rfl) rfl ?_
  clear hA a; intro a hA
  replace hA := hA.keep [9, 5, 4, 2, 1] rfl
  apply m_or 4 13 9 hA hS rfl
  · intro hp1
    refine m1s hA (dj := 9) rfl rfl rfl hp1 rfl ?_
    intro a hA
    refine m1s hA (dj := 9) rfl rfl rfl hp1 rfl ?_
    clear hA a; intro a hA
    refine m1s hA (dj := 9) rfl rfl rfl hp1 rfl ?_
    clear hA a; intro a hA
    refine m1 hA hS (Y.pickT' rfl hp1 rfl) rfl ?_
    clear hA a; intro a hA
    exact m_nil (m_then ⟨hA.keep [13, 9, 5, 4, 2, 1] rfl, hS⟩)
  · intro hp1
    refine m1g hA hS (dj := 9) rfl rfl rfl hp1 (Y.move rfl) rfl ?_
    intro a hA
    refine m_callbg (dj := 9) hA hS rfl rfl rfl hp1 Tryz.call28 rfl rfl (refId_c who _) ?_
    clear hA a; intro a w hA hS hg
    refine m1g hA hS (dj := 9) rfl rfl rfl hp1 (Y.not rfl) rfl ?_
    clear hA a; intro a hA
    refine m1 hA hS (Y.pickF' rfl hp1 rfl) rfl ?_
    clear hA a; intro a hA
    exact m_nil (m_then ⟨hA.keep [13, 9, 5, 4, 2, 1] rfl, hS⟩)
  · clear hA hS a; intro a w hA hS
    refine m_nil ?_
    refine m_then ?_
    refine m_cond hA rfl (fun hc => ?_) (fun hc => ?_)
    · simp only [Bool.or_eq_true, Bool.not_eq_true'] at hc
      have hF : change (creF who) H = (noHall, 2) := by
        cases hv : valid H with
        | false => exact change_bad hv
        | true =>
          have e : creF who H = (H, 2) := by
            unfold creF
            rw [if_pos (by rcases hc with h | h <;> first | (rw [hv] at h; cases h) | exact h)]
          rw [change_good (valid_iff.1 hv), e]; rfl
      refine m_seq ?_
      refine m_region ?_
      refine m1 hA hS (Y.build (vs := []) (cs := [.int .i64 0, .int .i64 0, .slice none 0 0]) rfl (by kernel_rfl)) rfl ?_
      clear hA a; intro a hA
      refine m_store 0 hA hS rfl rfl Tryz.sizeOf30 rfl rfl rfl rfl ?_
      clear hS; intro w hS
      refine m1 hA hS (Y.assign rfl) rfl ?_
      clear hA a; intro a hA
      refine m_nil ?_
      refine m_then ?_
      refine m_retc ?_
      refine r_then ?_
      refine m_retc2 0 hA hS Tryz.results67 rfl rfl rfl Tryz.isAgg30 Tryz.sizeOf30 ?_
      rw [hF]
      exact ⟨_, _, _, rfl, hS.gr0 (by simp), RowOf.nil, Nat.le_refl _⟩
    · simp only [Bool.or_eq_false_iff, Bool.not_eq_false'] at hc
      have g := valid_iff.1 hc.1
      have hid := hc.2
      have hfp := find_place g who
      refine m_skip ?_
      refine m_then ?_
      refine m_seq ?_
      refine m_seq ?_
      refine m_region ?_
      refine m1 hA hS (Y.loads rfl Tryz.isAgg30 Tryz.sizeOf30 (fun w h => h.cells (i := 1) rfl) rfl) rfl ?_
      clear hA a; intro a hA
      refine m1 hA hS (Y.move rfl) rfl ?_
      clear hA a; intro a hA
      refine m_callb hA hS Tryz.call75 rfl rfl (refFind_c who H A n c _ (hP.z.gr (hS.gr0 (by simp)))) ?_
      clear hA hS a; intro a w hA hS hg
      refine m1 hA hS (Y.geI rfl rfl) rfl ?_
      clear hA a; intro a hA
      refine m_nil ?_
      refine m_then ?_
      refine m_condP hA rfl (fun h1 => ?_) (fun h1 => ?_)
      · have hF : change (creF who) H = (noHall, 361) := by
          have e : creF who H = (H, 361) := by
            unfold creF
            rw [if_neg (by rw [hid]; simp), if_pos (by omega)]
          rw [change_good g, e]; rfl
        refine m_seq ?_
        refine m_region ?_
        refine m1 hA hS (Y.build (vs := []) (cs := [.int .i64 0, .int .i64 0, .slice none 0 0]) rfl (by kernel_rfl)) rfl ?_
        clear hA a; intro a hA
        refine m_store 0 hA hS rfl rfl Tryz.sizeOf30 rfl rfl rfl rfl ?_
        clear hS; intro w hS
        refine m1 hA hS (Y.assign rfl) rfl ?_
        clear hA a; intro a hA
        refine m_nil ?_
        refine m_then ?_
        refine m_retc ?_
        refine r_then ?_
        refine m_retc2 0 hA hS Tryz.results67 rfl rfl rfl Tryz.isAgg30 Tryz.sizeOf30 ?_
        rw [hF]
        exact ⟨_, _, _, rfl, hS.gr0 (by simp), RowOf.nil, Nat.le_refl _⟩
      · have hln := g.ln
        have hla := g.la1
        have hla0 := g.la0
        refine m_skip ?_
        refine m_then ?_
        refine m_seq ?_
        refine m_seq ?_
        refine m_region ?_
        refine m1 hA hS (Y.fieldAddr (k := 2) rfl Tryz.underlying30 rfl rfl Tryz.sizeOf28) rfl ?_
        clear hA a; intro a hA
        refine m1 hA hS (Y.load rfl Tryz.isAgg28 (fun w h => h.cell (i := 1) rfl rfl)) rfl ?_
        clear hA a; intro a hA
        refine m1 hA hS (Y.lenSl rfl Tryz.underlying28) rfl ?_
        clear hA a; intro a hA
        refine m1 hA hS (Y.eqI rfl rfl) rfl ?_
        clear hA a; intro a hA
        refine m1 hA hS (Y.move rfl) rfl ?_
        clear hA a; intro a hA
        replace hA := hA.keep [24, 5, 4, 2, 1] rfl
        apply m_or 4 28 24 hA hS rfl
        · intro hp2
          refine m1s hA (dj := 24) rfl rfl rfl hp2 rfl ?_
          intro a hA
          refine m1s hA (dj := 24) rfl rfl rfl hp2 rfl ?_
          clear hA a; intro a hA
          refine m1s hA (dj := 24) rfl rfl rfl hp2 rfl ?_
          clear hA a; intro a hA
          refine m1 hA hS (Y.pickT' rfl hp2 rfl) rfl ?_
          clear hA a; intro a hA
          exact m_nil (m_then ⟨hA.keep [28, 24, 5, 4, 2, 1] rfl, hS⟩)
        · intro hp2
          refine m1g hA hS (dj := 24) rfl rfl rfl hp2 (Y.fieldAddr (k := 1) rfl Tryz.underlying30 rfl rfl Tryz.sizeOf3) rfl ?_
          intro a hA
          refine m1g hA hS (dj := 24) rfl rfl rfl hp2 (Y.load rfl Tryz.isAgg3 (fun w h => h.cell (i := 1) rfl rfl)) rfl ?_
          clear hA a; intro a hA
          refine m1g hA hS (dj := 24) rfl rfl rfl hp2 (Y.eqI rfl rfl) rfl ?_
          clear hA a; intro a hA
          refine m1 hA hS (Y.pickF' rfl hp2 rfl) rfl ?_
          clear hA a; intro a hA
          exact m_nil (m_then ⟨hA.keep [28, 24, 5, 4, 2, 1] rfl, hS⟩)
        · clear hA hS a; intro a w hA hS
          refine m_nil ?_
          refine m_then ?_
          refine m_cond hA rfl (fun h2 => ?_) (fun h2 => ?_)
          · simp only [Bool.or_eq_true, decide_eq_true_eq] at h2
            have hF : change (creF who) H = (noHall, 4) := by
              have e : creF who H = (H, 4) := by
                unfold creF
                rw [if_neg (by rw [hid]; simp), if_neg (by omega), if_pos (by omega)]
              rw [change_good g, e]; rfl
            refine m_seq ?_
            refine m_region ?_
            refine m1 hA hS (Y.build (vs := []) (cs := [.int .i64 0, .int .i64 0, .slice none 0 0]) rfl (by kernel_rfl)) rfl ?_
            clear hA a; intro a hA
            refine m_store 0 hA hS rfl rfl Tryz.sizeOf30 rfl rfl rfl rfl ?_
            clear hS; intro w hS
            refine m1 hA hS (Y.assign rfl) rfl ?_
            clear hA a; intro a hA
            refine m_nil ?_
            refine m_then ?_
            refine m_retc ?_
            refine r_then ?_
            refine m_retc2 0 hA hS Tryz.results67 rfl rfl rfl Tryz.isAgg30 Tryz.sizeOf30 ?_
            rw [hF]
            exact ⟨_, _, _, rfl, hS.gr0 (by simp), RowOf.nil, Nat.le_refl _⟩
          · simp only [Bool.or_eq_false_iff, decide_eq_false_iff_not] at h2
            have hF : change (creF who) H = (⟨H.tick, H.last + 1, H.ps.map (keptF H.tick who 0) ++ [⟨H.last + 1, who, [who], []⟩]⟩, 0) := by
              have e : creF who H = (⟨H.tick, H.last + 1, H.ps.map (unF fun _ i => decide (i.who = who)) ++ [⟨H.last + 1, who, [who], []⟩]⟩, 0) := by
                unfold creF
                rw [if_neg (by rw [hid]; simp), if_neg (by omega), if_neg (by omega)]
              rw [change_good g, e, kept_who g]; rfl
            refine m_skip ?_
            refine m_then ?_
            refine m_seq ?_
            refine m_region ?_
            refine m1 hA hS (Y.loads rfl Tryz.isAgg30 Tryz.sizeOf30 (fun w h => h.cells (i := 1) rfl) rfl) rfl ?_
            clear hA a; intro a hA
            refine m1 hA hS (Y.fieldAddr (k := 0) rfl Tryz.underlying30 rfl rfl Tryz.sizeOf3) rfl ?_
            clear hA a; intro a hA
            refine m1 hA hS (Y.load rfl Tryz.isAgg3 (fun w h => h.cell (i := 1) rfl rfl)) rfl ?_
            clear hA a; intro a hA
            refine m1 hA hS (Y.move rfl) rfl ?_
            clear hA a; intro a hA
            have hSq : St w [cB b2 [.int .i64 0, .int .i64 0, .slice none 0 0] 30, cB b1 [.int .i64 H.tick, .int .i64 H.last, .slice A n c] 30] [(0, w0)] := hS
            replace hS := hSq
            clear hSq
            have hg := hS.gr0 (w0 := w0) (by simp)
            obtain ⟨L, hLe⟩ : ∃ L, w.heap.size = L := ⟨_, rfl⟩
            have hL0 : w0.heap.size ≤ L := by rw [← hLe]; exact hg.size
            have hb1 : b1 < L := by rw [← hLe]; exact hS.lt (x := cB b1 [.int .i64 H.tick, .int .i64 H.last, .slice A n c] 30) (by simp)
            have hb2 : b2 < L := by rw [← hLe]; exact hS.lt (x := cB b2 [.int .i64 0, .int .i64 0, .slice none 0 0] 30) (by simp)
            refine m_call hA Tryz.call99 rfl rfl ((kept_c (fun b => K b ∧ b < w0.heap.size) H.tick who 0 H A n c _ (hPl.mv (fun _ h => h) (hg.keeps _)) hn (fun p hp => (hq p hp).2) hcap).mono ?_)
            rintro e w ⟨A5, n5, c5, rfl, hg5, hP5, hc5⟩
            refine ⟨_, rfl, ?_⟩
            clear hA a; intro a hA
            have hn5 : n5 = n := by have := hP5.len; simp only [List.length_map] at this; omega
            subst hn5
            replace hA := (show Fits a 53 ((34, Value.agg #[.int .i64 H.tick, .int .i64 H.last, .slice A5 n5 c5]) :: _) from hA)
            obtain ⟨w5, hw5⟩ : ∃ w5, w5 = w := ⟨_, rfl⟩
            have hg6 := hg.tr hg5
            have hL5 : L ≤ w5.heap.size := by rw [hw5, ← hLe]; exact hg5.size
            replace hS := hS.call hg5
            rw [hLe] at hS hP5
            rw [← hw5] at hP5 hg6
            have hSq : St w [cB b2 [.int .i64 0, .int .i64 0, .slice none 0 0] 30, cB b1 [.int .i64 H.tick, .int .i64 H.last, .slice A n5 c] 30] [(L, w5), (0, w0)] := by rw [hw5] at *; exact hS
            replace hS := hSq
            clear hSq
            have hkk : ∀ (B : List Bx) w, St w B [(L, w5), (0, w0)] → Keeps (fun b => (K b ∧ b < w0.heap.size) ∨ L ≤ b) w5 w := fun B w h => h.keeps2 K (by simp) (by simp) hg6
            replace hP5 := (show PtysK (fun b => (K b ∧ b < w0.heap.size) ∨ L ≤ b) w5 A5 n5 (H.ps.map (keptF H.tick who 0)) from hP5)
            obtain ⟨cs, hcs, hcsl, hcsc⟩ : ∃ cs, PtysCK (fun b => (K b ∧ b < w0.heap.size) ∨ L ≤ b) w5 cs (H.ps.map (keptF H.tick who 0)) ∧ cs.length = n5 * 4 ∧ ∀ A, A5 = some A → ∀ j u, cs[j]? = some u → ∃ b o, A = ⟨b, o, none⟩ ∧ ((K b ∧ b < w0.heap.size) ∨ L ≤ b) ∧ w5.cell? ⟨b, o + j, none⟩ = some u := by
              cases A5 with
              | none =>
                have h0 := RowOf.nil_of hP5
                have hl5 := hP5.len
                exact ⟨[], by rw [h0]; rfl, by rw [h0] at hl5; simp at hl5; simp; omega, fun A e => by cases e⟩
              | some A =>
                by_cases h0 : n5 = 0
                · have hl5 := hP5.len
                  exact ⟨[], by rw [List.eq_nil_of_length_eq_zero (by omega : (H.ps.map (keptF H.tick who 0)).length = 0)]; rfl, by simp; omega, fun A e j u h => by simp at h⟩
                · obtain ⟨b, o, _, _, _, _, _, _, _, e, hKb, _⟩ := hP5.at (j := 0) (by omega)
                  cases e
                  obtain ⟨cs, h1, h2⟩ := hP5.cells
                  refine ⟨cs, h1, by have := h1.len; have := hP5.len; omega, fun A e j u h => ?_⟩
                  cases e
                  have ha : (⟨b, o, none⟩ : Addr).add j = ⟨b, o + j, none⟩ := by unfold Addr.add; split <;> simp_all
                  exact ⟨b, o, rfl, hKb, ha ▸ h2 j u h⟩
            refine m_store 1 hA hS rfl rfl Tryz.sizeOf30 rfl rfl rfl rfl ?_
            clear hS; intro w hS
            refine m_nil ?_
            refine m_then ?_
            refine m_seq ?_
            refine m_region ?_
            refine m1 hA hS (Y.fieldAddr (k := 1) rfl Tryz.underlying30 rfl rfl Tryz.sizeOf3) rfl ?_
            clear hA a; intro a hA
            refine m1 hA hS (Y.load rfl Tryz.isAgg3 (fun w h => h.cell (i := 1) rfl rfl)) rfl ?_
            clear hA a; intro a hA
            refine m1 hA hS (Y.addI rfl rfl (by omega)) rfl ?_
            clear hA a; intro a hA
            refine m1 hA hS (Y.fieldAddr (k := 1) rfl Tryz.underlying30 rfl rfl Tryz.sizeOf3) rfl ?_
            clear hA a; intro a hA
            refine m_store 1 hA hS rfl rfl Tryz.sizeOf3 rfl rfl rfl rfl ?_
            clear hS; intro w hS
            refine m_nil ?_
            refine m_then ?_
            refine m_seq ?_
            cases A5 with
            | none => ?_
            | some A5 => ?_
            · refine m_cut (fun a w => ∃ A8 c8 m8 bs2 bM, Fits a 53 [(4, .pointer (some ⟨b2, 0, none⟩)), (2, .pointer (some ⟨b1, 0, none⟩))] ∧ RowB 43 4 (.slice A8 m8 c8) (n5 + 1) (cs ++ [.int .i64 (H.last + 1), .int .i64 who, .slice (some ⟨bM, 0, none⟩) 1 1, .slice none 0 0]) bs2 ∧ (∀ z ∈ bs2, L ≤ z.b) ∧ L ≤ bM ∧ St w ([cB b2 [.int .i64 0, .int .i64 0, .slice none 0 0] 30, cB b1 [.int .i64 H.tick, .int .i64 (H.last + 1), .slice A8 m8 c8] 30, cB bM [.int .i64 who] 3] ++ bs2) [(L, w5), (0, w0)]) ?_ ?_
              · have hSn : St w ([cB b2 [.int .i64 0, .int .i64 0, .slice none 0 0] 30, cB b1 [.int .i64 H.tick, .int .i64 (H.last + 1), .slice none n5 c5] 30] ++ ([] : List Bx)) [(L, w5), (0, w0)] := hS
                replace hS := hSn
                clear hSn
                refine d_region (fun w => St w [cB b2 [.int .i64 0, .int .i64 0, .slice none 0 0] 30, cB b1 [.int .i64 H.tick, .int .i64 (H.last + 1), .slice none n5 c5] 30] [(L, w5), (0, w0)]) [2, 5] [1, 2, 4, 5, 6, 7, 9, 12] _ _ hS rfl 14 [false, false, false, false, false, false, false, false, false, false, false, false, false, false] rfl rfl ?_
                clear hS; intro w hS _
                have hQ : St w [cB b2 [.int .i64 0, .int .i64 0, .slice none 0 0] 30, cB b1 [.int .i64 H.tick, .int .i64 (H.last + 1), .slice none n5 c5] 30] [(L, w5), (0, w0)] := hS
                refine d_take 1 (bs' := [false, true, false, false, false, false, false, false, false, false, false, false, false, false]) hA rfl rfl (by kernel_rfl) (fun _ _ _ h => h) (Y.fieldAddr (k := 2) rfl Tryz.underlying30 rfl rfl Tryz.sizeOf28) rfl ?_
                clear hA a; intro a hA
                refine d_load 2 (bs' := [false, true, true, false, false, false, false, false, false, false, false, false, false, false]) hA hQ rfl rfl rfl (by kernel_rfl) (fun _ _ _ h => h) (Y.load rfl Tryz.isAgg28 (fun w h => h.cell (i := 1) rfl rfl)) rfl ?_
                clear hA a; intro a hA
                refine d_take 4 (bs' := [false, true, true, false, true, false, false, false, false, false, false, false, false, false]) hA rfl rfl (by kernel_rfl) (fun _ _ _ h => h) (Y.fieldAddr (k := 1) rfl Tryz.underlying30 rfl rfl Tryz.sizeOf3) rfl ?_
                clear hA a; intro a hA
                refine d_load 5 (bs' := [false, true, true, false, true, true, false, false, false, false, false, false, false, false]) hA hQ rfl rfl rfl (by kernel_rfl) (fun _ _ _ h => h) (Y.load rfl Tryz.isAgg3 (fun w h => h.cell (i := 1) rfl rfl)) rfl ?_
                clear hA a; intro a hA
                refine d_take 6 (bs' := [false, true, true, false, true, true, true, false, false, false, false, false, false, false]) hA rfl rfl (by kernel_rfl) (fun _ _ _ h => h) (Y.move rfl) rfl ?_
                clear hA a; intro a hA
                refine d_take 7 (bs' := [false, true, true, false, true, true, true, true, false, false, false, false, false, false]) hA rfl rfl (by kernel_rfl) (fun _ _ _ h => h) (Y.move rfl) rfl ?_
                clear hA a; intro a hA
                refine d_two 0 8 (bi := [true, true, true, false, true, true, true, true, false, false, false, false, false, false]) (bj := [false, true, true, false, true, true, true, true, true, false, false, false, false, false]) true true rfl rfl (by kernel_rfl) ?_ ?_
                · have hLq : L ≤ w.heap.size := Nat.le_trans hL5 (hS.vs (L, w5) (by simp)).2.2.2.1
                  refine m_buildSliceW ([]) hA hS rfl rfl (run_bs0 Tryz.underlying28 Tryz.sizeOf43) ?_
                  clear hA a; intro a bE w hA hbE hgE hS
                  replace hQ := hQ.gr hgE
                  have hbEL : L ≤ bE := by omega
                  clear hLq
                  refine m_nil (m_then ⟨fun _ => hQ, ?_⟩)
                  refine d_two 3 8 (bi := [true, true, true, true, true, true, true, true, false, false, false, false, false, false]) (bj := [true, true, true, false, true, true, true, true, true, false, false, false, false, false]) true true rfl rfl (by kernel_rfl) ?_ ?_
                  · have hn0 : n5 = 0 := by have := RowOf.nil_of hP5; have h9 := hP5.len; rw [this] at h9; simpa using h9.symm
                    have hcs0 : cs = [] := List.eq_nil_of_length_eq_zero (by omega)
                    refine m_appendNil0 43 64 elemPR hA rfl rfl hn0 rfl Tryz.underlying28 (Nat.le_refl _) ?_
                    clear hA a; intro a hA
                    obtain ⟨v1, bs1, hv1, hb1e⟩ : ∃ v1 bs1, v1 = Value.slice (some ⟨bE, 0, none⟩) 0 0 ∧ bs1 = [cB bE [] 43] := ⟨_, _, rfl, rfl⟩
                    rw [← hv1] at hA
                    have hrow1 : RowB 43 4 v1 n5 cs bs1 := by rw [hv1, hb1e, hcs0, hn0]; exact RowB.empty _ _ _
                    have hbs1 : ∀ z ∈ bs1, L ≤ z.b := by rw [hb1e]; intro z hz; simp at hz; subst hz; exact hbEL
                    have hSn : St w ([cB b2 [.int .i64 0, .int .i64 0, .slice none 0 0] 30, cB b1 [.int .i64 H.tick, .int .i64 (H.last + 1), .slice none n5 c5] 30] ++ bs1) [(L, w5), (0, w0)] := by rw [hb1e]; exact hS.perm (List.perm_iff_count.2 fun a => by simp only [List.count_append, List.count_cons, List.count_nil]; omega)
                    replace hS := hSn
                    clear hSn
                    refine m_nil (m_then ⟨fun _ => hQ, ?_⟩)
                    refine d_one 8 (bs' := [true, true, true, true, true, true, true, true, true, false, false, false, false, false]) true rfl (by kernel_rfl) ?_
                    have hLq : L ≤ w.heap.size := Nat.le_trans hL5 (hS.vs (L, w5) (by simp)).2.2.2.1
                    refine m_buildSliceW ([.int .i64 who]) hA hS rfl rfl (bs_int who) ?_
                    clear hA a; intro a bM w hA hbM hgM hS
                    replace hQ := hQ.gr hgM
                    have hbML : L ≤ bM := by omega
                    clear hLq
                    refine m_nil (m_then ⟨fun _ => hQ, ?_⟩)
                    refine d_take 9 (bs' := [true, true, true, true, true, true, true, true, true, true, false, false, false, false]) hA rfl rfl (by kernel_rfl) (fun _ _ _ h => h) (Y.build rfl (cs := [.int .i64 (H.last + 1), .int .i64 who, .slice (some ⟨bM, 0, none⟩) 1 1, .slice none 0 0]) (by kernel_rfl)) rfl ?_
                    clear hA a; intro a hA
                    refine d_one 10 (bs' := [true, true, true, true, true, true, true, true, true, true, true, false, false, false]) true rfl (by kernel_rfl) ?_
                    refine m_buildSliceW ([.int .i64 (H.last + 1), .int .i64 who, .slice (some ⟨bM, 0, none⟩) 1 1, .slice none 0 0]) hA hS rfl rfl (bs_ptyR _ _ _ _) ?_
                    clear hA a; intro a bP w hA hbP hgP hS
                    replace hQ := hQ.gr hgP
                    refine m_nil (m_then ⟨fun _ => hQ, ?_⟩)
                    refine d_one 11 (bs' := [true, true, true, true, true, true, true, true, true, true, true, true, false, false]) true rfl (by kernel_rfl) ?_
                    have hSp : St w (bs1 ++ [cB bP [.int .i64 (H.last + 1), .int .i64 who, .slice (some ⟨bM, 0, none⟩) 1 1, .slice none 0 0] 43, cB bM [.int .i64 who] 3, cB b2 [.int .i64 0, .int .i64 0, .slice none 0 0] 30, cB b1 [.int .i64 H.tick, .int .i64 (H.last + 1), .slice none n5 c5] 30]) [(L, w5), (0, w0)] := hS.perm (List.perm_iff_count.2 fun a => by simp only [List.count_append, List.count_cons, List.count_nil]; omega)
                    have hLq : L ≤ w.heap.size := Nat.le_trans hL5 (hS.vs (L, w5) (by simp)).2.2.2.1
                    refine m_appendG (bs := bs1) 43 64 [.int .i64 (H.last + 1), .int .i64 who, .slice (some ⟨bM, 0, none⟩) 1 1, .slice none 0 0] elemPR hA hSp hrow1 rfl rfl rfl Tryz.underlying28 rfl (hS.cellsM (b := bP) (cs := [.int .i64 (H.last + 1), .int .i64 who, .slice (some ⟨bM, 0, none⟩) 1 1, .slice none 0 0]) (T := 43) (by simp)) (List.all_eq_true.1 rfl) (by omega) (by decide) ?_
                    clear hA hS hSp a; intro a w v2 bs2 hA hrow2 hwh2 hS
                    have hbs2 : ∀ z ∈ bs2, L ≤ z.b := fun z hz => by
                      rcases hwh2 z hz with ⟨u, hu, e⟩ | h
                      · rw [← e]; exact hbs1 u hu
                      · omega
                    obtain ⟨A8, c8, rfl⟩ := hrow2.shape
                    have hSn : St w ([cB b2 [.int .i64 0, .int .i64 0, .slice none 0 0] 30, cB b1 [.int .i64 H.tick, .int .i64 (H.last + 1), .slice none n5 c5] 30, cB bM [.int .i64 who] 3, cB bP [.int .i64 (H.last + 1), .int .i64 who, .slice (some ⟨bM, 0, none⟩) 1 1, .slice none 0 0] 43] ++ bs2) [(L, w5), (0, w0)] := hS.perm (List.perm_iff_count.2 fun a => by simp only [List.count_append, List.count_cons, List.count_nil]; omega)
                    replace hQ : St w [cB b2 [.int .i64 0, .int .i64 0, .slice none 0 0] 30, cB b1 [.int .i64 H.tick, .int .i64 (H.last + 1), .slice none n5 c5] 30] [(L, w5), (0, w0)] := hSn.sub (List.sublist_append_left [_, _] _)
                    replace hS := hSn
                    clear hSn
                    refine m_nil (m_then ⟨fun _ => hQ, ?_⟩)
                    refine d_take 12 (bs' := [true, true, true, true, true, true, true, true, true, true, true, true, true, false]) hA rfl rfl (by kernel_rfl) (fun _ _ _ h => h) (Y.fieldAddr (k := 2) rfl Tryz.underlying30 rfl rfl Tryz.sizeOf28) rfl ?_
                    clear hA a; intro a hA
                    refine d_one 13 (bs' := [true, true, true, true, true, true, true, true, true, true, true, true, true, true]) false rfl (by kernel_rfl) ?_
                    refine m_store 1 hA hS rfl rfl Tryz.sizeOf28 rfl rfl rfl rfl ?_
                    clear hS; intro w hS
                    refine m_nil (m_then ⟨fun h => (by cases h), ?_⟩)
                    refine d_done (by kernel_rfl) ?_
                    refine m_then ?_
                    exact ⟨_, _, _, bs2, bM, hA.keep [4, 2] rfl, hrow2, hbs2, hbML, hS.sub (.cons_cons _ (.cons_cons _ (.cons_cons _ (.cons _ (List.Sublist.refl _)))))⟩
                  · have hLq : L ≤ w.heap.size := Nat.le_trans hL5 (hS.vs (L, w5) (by simp)).2.2.2.1
                    refine m_buildSliceW ([.int .i64 who]) hA hS rfl rfl (bs_int who) ?_
                    clear hA a; intro a bM w hA hbM hgM hS
                    replace hQ := hQ.gr hgM
                    have hbML : L ≤ bM := by omega
                    clear hLq
                    refine m_nil (m_then ⟨fun _ => hQ, ?_⟩)
                    refine d_take 9 (bs' := [true, true, true, false, true, true, true, true, true, true, false, false, false, false]) hA rfl rfl (by kernel_rfl) (fun _ _ _ h => h) (Y.build rfl (cs := [.int .i64 (H.last + 1), .int .i64 who, .slice (some ⟨bM, 0, none⟩) 1 1, .slice none 0 0]) (by kernel_rfl)) rfl ?_
                    clear hA a; intro a hA
                    refine d_two 3 10 (bi := [true, true, true, true, true, true, true, true, true, true, false, false, false, false]) (bj := [true, true, true, false, true, true, true, true, true, true, true, false, false, false]) true true rfl rfl (by kernel_rfl) ?_ ?_
                    · have hn0 : n5 = 0 := by have := RowOf.nil_of hP5; have h9 := hP5.len; rw [this] at h9; simpa using h9.symm
                      have hcs0 : cs = [] := List.eq_nil_of_length_eq_zero (by omega)
                      refine m_appendNil0 43 64 elemPR hA rfl rfl hn0 rfl Tryz.underlying28 (Nat.le_refl _) ?_
                      clear hA a; intro a hA
                      obtain ⟨v1, bs1, hv1, hb1e⟩ : ∃ v1 bs1, v1 = Value.slice (some ⟨bE, 0, none⟩) 0 0 ∧ bs1 = [cB bE [] 43] := ⟨_, _, rfl, rfl⟩
                      rw [← hv1] at hA
                      have hrow1 : RowB 43 4 v1 n5 cs bs1 := by rw [hv1, hb1e, hcs0, hn0]; exact RowB.empty _ _ _
                      have hbs1 : ∀ z ∈ bs1, L ≤ z.b := by rw [hb1e]; intro z hz; simp at hz; subst hz; exact hbEL
                      have hSn : St w ([cB bM [.int .i64 who] 3, cB b2 [.int .i64 0, .int .i64 0, .slice none 0 0] 30, cB b1 [.int .i64 H.tick, .int .i64 (H.last + 1), .slice none n5 c5] 30] ++ bs1) [(L, w5), (0, w0)] := by rw [hb1e]; exact hS.perm (List.perm_iff_count.2 fun a => by simp only [List.count_append, List.count_cons, List.count_nil]; omega)
                      replace hS := hSn
                      clear hSn
                      refine m_nil (m_then ⟨fun _ => hQ, ?_⟩)
                      refine d_one 10 (bs' := [true, true, true, true, true, true, true, true, true, true, true, false, false, false]) true rfl (by kernel_rfl) ?_
                      refine m_buildSliceW ([.int .i64 (H.last + 1), .int .i64 who, .slice (some ⟨bM, 0, none⟩) 1 1, .slice none 0 0]) hA hS rfl rfl (bs_ptyR _ _ _ _) ?_
                      clear hA a; intro a bP w hA hbP hgP hS
                      replace hQ := hQ.gr hgP
                      refine m_nil (m_then ⟨fun _ => hQ, ?_⟩)
                      refine d_one 11 (bs' := [true, true, true, true, true, true, true, true, true, true, true, true, false, false]) true rfl (by kernel_rfl) ?_
                      have hSp : St w (bs1 ++ [cB bP [.int .i64 (H.last + 1), .int .i64 who, .slice (some ⟨bM, 0, none⟩) 1 1, .slice none 0 0] 43, cB bM [.int .i64 who] 3, cB b2 [.int .i64 0, .int .i64 0, .slice none 0 0] 30, cB b1 [.int .i64 H.tick, .int .i64 (H.last + 1), .slice none n5 c5] 30]) [(L, w5), (0, w0)] := hS.perm (List.perm_iff_count.2 fun a => by simp only [List.count_append, List.count_cons, List.count_nil]; omega)
                      have hLq : L ≤ w.heap.size := Nat.le_trans hL5 (hS.vs (L, w5) (by simp)).2.2.2.1
                      refine m_appendG (bs := bs1) 43 64 [.int .i64 (H.last + 1), .int .i64 who, .slice (some ⟨bM, 0, none⟩) 1 1, .slice none 0 0] elemPR hA hSp hrow1 rfl rfl rfl Tryz.underlying28 rfl (hS.cellsM (b := bP) (cs := [.int .i64 (H.last + 1), .int .i64 who, .slice (some ⟨bM, 0, none⟩) 1 1, .slice none 0 0]) (T := 43) (by simp)) (List.all_eq_true.1 rfl) (by omega) (by decide) ?_
                      clear hA hS hSp a; intro a w v2 bs2 hA hrow2 hwh2 hS
                      have hbs2 : ∀ z ∈ bs2, L ≤ z.b := fun z hz => by
                        rcases hwh2 z hz with ⟨u, hu, e⟩ | h
                        · rw [← e]; exact hbs1 u hu
                        · omega
                      obtain ⟨A8, c8, rfl⟩ := hrow2.shape
                      have hSn : St w ([cB b2 [.int .i64 0, .int .i64 0, .slice none 0 0] 30, cB b1 [.int .i64 H.tick, .int .i64 (H.last + 1), .slice none n5 c5] 30, cB bM [.int .i64 who] 3, cB bP [.int .i64 (H.last + 1), .int .i64 who, .slice (some ⟨bM, 0, none⟩) 1 1, .slice none 0 0] 43] ++ bs2) [(L, w5), (0, w0)] := hS.perm (List.perm_iff_count.2 fun a => by simp only [List.count_append, List.count_cons, List.count_nil]; omega)
                      replace hQ : St w [cB b2 [.int .i64 0, .int .i64 0, .slice none 0 0] 30, cB b1 [.int .i64 H.tick, .int .i64 (H.last + 1), .slice none n5 c5] 30] [(L, w5), (0, w0)] := hSn.sub (List.sublist_append_left [_, _] _)
                      replace hS := hSn
                      clear hSn
                      refine m_nil (m_then ⟨fun _ => hQ, ?_⟩)
                      refine d_take 12 (bs' := [true, true, true, true, true, true, true, true, true, true, true, true, true, false]) hA rfl rfl (by kernel_rfl) (fun _ _ _ h => h) (Y.fieldAddr (k := 2) rfl Tryz.underlying30 rfl rfl Tryz.sizeOf28) rfl ?_
                      clear hA a; intro a hA
                      refine d_one 13 (bs' := [true, true, true, true, true, true, true, true, true, true, true, true, true, true]) false rfl (by kernel_rfl) ?_
                      refine m_store 1 hA hS rfl rfl Tryz.sizeOf28 rfl rfl rfl rfl ?_
                      clear hS; intro w hS
                      refine m_nil (m_then ⟨fun h => (by cases h), ?_⟩)
                      refine d_done (by kernel_rfl) ?_
                      refine m_then ?_
                      exact ⟨_, _, _, bs2, bM, hA.keep [4, 2] rfl, hrow2, hbs2, hbML, hS.sub (.cons_cons _ (.cons_cons _ (.cons_cons _ (.cons _ (List.Sublist.refl _)))))⟩
                    · refine m_buildSliceW ([.int .i64 (H.last + 1), .int .i64 who, .slice (some ⟨bM, 0, none⟩) 1 1, .slice none 0 0]) hA hS rfl rfl (bs_ptyR _ _ _ _) ?_
                      clear hA a; intro a bP w hA hbP hgP hS
                      replace hQ := hQ.gr hgP
                      refine m_nil (m_then ⟨fun _ => hQ, ?_⟩)
                      refine d_one 3 (bs' := [true, true, true, true, true, true, true, true, true, true, true, false, false, false]) true rfl (by kernel_rfl) ?_
                      have hn0 : n5 = 0 := by have := RowOf.nil_of hP5; have h9 := hP5.len; rw [this] at h9; simpa using h9.symm
                      have hcs0 : cs = [] := List.eq_nil_of_length_eq_zero (by omega)
                      refine m_appendNil0 43 64 elemPR hA rfl rfl hn0 rfl Tryz.underlying28 (Nat.le_refl _) ?_
                      clear hA a; intro a hA
                      obtain ⟨v1, bs1, hv1, hb1e⟩ : ∃ v1 bs1, v1 = Value.slice (some ⟨bE, 0, none⟩) 0 0 ∧ bs1 = [cB bE [] 43] := ⟨_, _, rfl, rfl⟩
                      rw [← hv1] at hA
                      have hrow1 : RowB 43 4 v1 n5 cs bs1 := by rw [hv1, hb1e, hcs0, hn0]; exact RowB.empty _ _ _
                      have hbs1 : ∀ z ∈ bs1, L ≤ z.b := by rw [hb1e]; intro z hz; simp at hz; subst hz; exact hbEL
                      have hSn : St w ([cB bP [.int .i64 (H.last + 1), .int .i64 who, .slice (some ⟨bM, 0, none⟩) 1 1, .slice none 0 0] 43, cB bM [.int .i64 who] 3, cB b2 [.int .i64 0, .int .i64 0, .slice none 0 0] 30, cB b1 [.int .i64 H.tick, .int .i64 (H.last + 1), .slice none n5 c5] 30] ++ bs1) [(L, w5), (0, w0)] := by rw [hb1e]; exact hS.perm (List.perm_iff_count.2 fun a => by simp only [List.count_append, List.count_cons, List.count_nil]; omega)
                      replace hS := hSn
                      clear hSn
                      refine m_nil (m_then ⟨fun _ => hQ, ?_⟩)
                      refine d_one 11 (bs' := [true, true, true, true, true, true, true, true, true, true, true, true, false, false]) true rfl (by kernel_rfl) ?_
                      have hSp : St w (bs1 ++ [cB bP [.int .i64 (H.last + 1), .int .i64 who, .slice (some ⟨bM, 0, none⟩) 1 1, .slice none 0 0] 43, cB bM [.int .i64 who] 3, cB b2 [.int .i64 0, .int .i64 0, .slice none 0 0] 30, cB b1 [.int .i64 H.tick, .int .i64 (H.last + 1), .slice none n5 c5] 30]) [(L, w5), (0, w0)] := hS.perm (List.perm_iff_count.2 fun a => by simp only [List.count_append, List.count_cons, List.count_nil]; omega)
                      have hLq : L ≤ w.heap.size := Nat.le_trans hL5 (hS.vs (L, w5) (by simp)).2.2.2.1
                      refine m_appendG (bs := bs1) 43 64 [.int .i64 (H.last + 1), .int .i64 who, .slice (some ⟨bM, 0, none⟩) 1 1, .slice none 0 0] elemPR hA hSp hrow1 rfl rfl rfl Tryz.underlying28 rfl (hS.cellsM (b := bP) (cs := [.int .i64 (H.last + 1), .int .i64 who, .slice (some ⟨bM, 0, none⟩) 1 1, .slice none 0 0]) (T := 43) (by simp)) (List.all_eq_true.1 rfl) (by omega) (by decide) ?_
                      clear hA hS hSp a; intro a w v2 bs2 hA hrow2 hwh2 hS
                      have hbs2 : ∀ z ∈ bs2, L ≤ z.b := fun z hz => by
                        rcases hwh2 z hz with ⟨u, hu, e⟩ | h
                        · rw [← e]; exact hbs1 u hu
                        · omega
                      obtain ⟨A8, c8, rfl⟩ := hrow2.shape
                      have hSn : St w ([cB b2 [.int .i64 0, .int .i64 0, .slice none 0 0] 30, cB b1 [.int .i64 H.tick, .int .i64 (H.last + 1), .slice none n5 c5] 30, cB bM [.int .i64 who] 3, cB bP [.int .i64 (H.last + 1), .int .i64 who, .slice (some ⟨bM, 0, none⟩) 1 1, .slice none 0 0] 43] ++ bs2) [(L, w5), (0, w0)] := hS.perm (List.perm_iff_count.2 fun a => by simp only [List.count_append, List.count_cons, List.count_nil]; omega)
                      replace hQ : St w [cB b2 [.int .i64 0, .int .i64 0, .slice none 0 0] 30, cB b1 [.int .i64 H.tick, .int .i64 (H.last + 1), .slice none n5 c5] 30] [(L, w5), (0, w0)] := hSn.sub (List.sublist_append_left [_, _] _)
                      replace hS := hSn
                      clear hSn
                      refine m_nil (m_then ⟨fun _ => hQ, ?_⟩)
                      refine d_take 12 (bs' := [true, true, true, true, true, true, true, true, true, true, true, true, true, false]) hA rfl rfl (by kernel_rfl) (fun _ _ _ h => h) (Y.fieldAddr (k := 2) rfl Tryz.underlying30 rfl rfl Tryz.sizeOf28) rfl ?_
                      clear hA a; intro a hA
                      refine d_one 13 (bs' := [true, true, true, true, true, true, true, true, true, true, true, true, true, true]) false rfl (by kernel_rfl) ?_
                      refine m_store 1 hA hS rfl rfl Tryz.sizeOf28 rfl rfl rfl rfl ?_
                      clear hS; intro w hS
                      refine m_nil (m_then ⟨fun h => (by cases h), ?_⟩)
                      refine d_done (by kernel_rfl) ?_
                      refine m_then ?_
                      exact ⟨_, _, _, bs2, bM, hA.keep [4, 2] rfl, hrow2, hbs2, hbML, hS.sub (.cons_cons _ (.cons_cons _ (.cons_cons _ (.cons _ (List.Sublist.refl _)))))⟩
                · have hLq : L ≤ w.heap.size := Nat.le_trans hL5 (hS.vs (L, w5) (by simp)).2.2.2.1
                  refine m_buildSliceW ([.int .i64 who]) hA hS rfl rfl (bs_int who) ?_
                  clear hA a; intro a bM w hA hbM hgM hS
                  replace hQ := hQ.gr hgM
                  have hbML : L ≤ bM := by omega
                  clear hLq
                  refine m_nil (m_then ⟨fun _ => hQ, ?_⟩)
                  refine d_take 9 (bs' := [false, true, true, false, true, true, true, true, true, true, false, false, false, false]) hA rfl rfl (by kernel_rfl) (fun _ _ _ h => h) (Y.build rfl (cs := [.int .i64 (H.last + 1), .int .i64 who, .slice (some ⟨bM, 0, none⟩) 1 1, .slice none 0 0]) (by kernel_rfl)) rfl ?_
                  clear hA a; intro a hA
                  refine d_two 0 10 (bi := [true, true, true, false, true, true, true, true, true, true, false, false, false, false]) (bj := [false, true, true, false, true, true, true, true, true, true, true, false, false, false]) true true rfl rfl (by kernel_rfl) ?_ ?_
                  · have hLq : L ≤ w.heap.size := Nat.le_trans hL5 (hS.vs (L, w5) (by simp)).2.2.2.1
                    refine m_buildSliceW ([]) hA hS rfl rfl (run_bs0 Tryz.underlying28 Tryz.sizeOf43) ?_
                    clear hA a; intro a bE w hA hbE hgE hS
                    replace hQ := hQ.gr hgE
                    have hbEL : L ≤ bE := by omega
                    clear hLq
                    refine m_nil (m_then ⟨fun _ => hQ, ?_⟩)
                    refine d_two 3 10 (bi := [true, true, true, true, true, true, true, true, true, true, false, false, false, false]) (bj := [true, true, true, false, true, true, true, true, true, true, true, false, false, false]) true true rfl rfl (by kernel_rfl) ?_ ?_
                    · have hn0 : n5 = 0 := by have := RowOf.nil_of hP5; have h9 := hP5.len; rw [this] at h9; simpa using h9.symm
                      have hcs0 : cs = [] := List.eq_nil_of_length_eq_zero (by omega)
                      refine m_appendNil0 43 64 elemPR hA rfl rfl hn0 rfl Tryz.underlying28 (Nat.le_refl _) ?_
                      clear hA a; intro a hA
                      obtain ⟨v1, bs1, hv1, hb1e⟩ : ∃ v1 bs1, v1 = Value.slice (some ⟨bE, 0, none⟩) 0 0 ∧ bs1 = [cB bE [] 43] := ⟨_, _, rfl, rfl⟩
                      rw [← hv1] at hA
                      have hrow1 : RowB 43 4 v1 n5 cs bs1 := by rw [hv1, hb1e, hcs0, hn0]; exact RowB.empty _ _ _
                      have hbs1 : ∀ z ∈ bs1, L ≤ z.b := by rw [hb1e]; intro z hz; simp at hz; subst hz; exact hbEL
                      have hSn : St w ([cB bM [.int .i64 who] 3, cB b2 [.int .i64 0, .int .i64 0, .slice none 0 0] 30, cB b1 [.int .i64 H.tick, .int .i64 (H.last + 1), .slice none n5 c5] 30] ++ bs1) [(L, w5), (0, w0)] := by rw [hb1e]; exact hS.perm (List.perm_iff_count.2 fun a => by simp only [List.count_append, List.count_cons, List.count_nil]; omega)
                      replace hS := hSn
                      clear hSn
                      refine m_nil (m_then ⟨fun _ => hQ, ?_⟩)
                      refine d_one 10 (bs' := [true, true, true, true, true, true, true, true, true, true, true, false, false, false]) true rfl (by kernel_rfl) ?_
                      refine m_buildSliceW ([.int .i64 (H.last + 1), .int .i64 who, .slice (some ⟨bM, 0, none⟩) 1 1, .slice none 0 0]) hA hS rfl rfl (bs_ptyR _ _ _ _) ?_
                      clear hA a; intro a bP w hA hbP hgP hS
                      replace hQ := hQ.gr hgP
                      refine m_nil (m_then ⟨fun _ => hQ, ?_⟩)
                      refine d_one 11 (bs' := [true, true, true, true, true, true, true, true, true, true, true, true, false, false]) true rfl (by kernel_rfl) ?_
                      have hSp : St w (bs1 ++ [cB bP [.int .i64 (H.last + 1), .int .i64 who, .slice (some ⟨bM, 0, none⟩) 1 1, .slice none 0 0] 43, cB bM [.int .i64 who] 3, cB b2 [.int .i64 0, .int .i64 0, .slice none 0 0] 30, cB b1 [.int .i64 H.tick, .int .i64 (H.last + 1), .slice none n5 c5] 30]) [(L, w5), (0, w0)] := hS.perm (List.perm_iff_count.2 fun a => by simp only [List.count_append, List.count_cons, List.count_nil]; omega)
                      have hLq : L ≤ w.heap.size := Nat.le_trans hL5 (hS.vs (L, w5) (by simp)).2.2.2.1
                      refine m_appendG (bs := bs1) 43 64 [.int .i64 (H.last + 1), .int .i64 who, .slice (some ⟨bM, 0, none⟩) 1 1, .slice none 0 0] elemPR hA hSp hrow1 rfl rfl rfl Tryz.underlying28 rfl (hS.cellsM (b := bP) (cs := [.int .i64 (H.last + 1), .int .i64 who, .slice (some ⟨bM, 0, none⟩) 1 1, .slice none 0 0]) (T := 43) (by simp)) (List.all_eq_true.1 rfl) (by omega) (by decide) ?_
                      clear hA hS hSp a; intro a w v2 bs2 hA hrow2 hwh2 hS
                      have hbs2 : ∀ z ∈ bs2, L ≤ z.b := fun z hz => by
                        rcases hwh2 z hz with ⟨u, hu, e⟩ | h
                        · rw [← e]; exact hbs1 u hu
                        · omega
                      obtain ⟨A8, c8, rfl⟩ := hrow2.shape
                      have hSn : St w ([cB b2 [.int .i64 0, .int .i64 0, .slice none 0 0] 30, cB b1 [.int .i64 H.tick, .int .i64 (H.last + 1), .slice none n5 c5] 30, cB bM [.int .i64 who] 3, cB bP [.int .i64 (H.last + 1), .int .i64 who, .slice (some ⟨bM, 0, none⟩) 1 1, .slice none 0 0] 43] ++ bs2) [(L, w5), (0, w0)] := hS.perm (List.perm_iff_count.2 fun a => by simp only [List.count_append, List.count_cons, List.count_nil]; omega)
                      replace hQ : St w [cB b2 [.int .i64 0, .int .i64 0, .slice none 0 0] 30, cB b1 [.int .i64 H.tick, .int .i64 (H.last + 1), .slice none n5 c5] 30] [(L, w5), (0, w0)] := hSn.sub (List.sublist_append_left [_, _] _)
                      replace hS := hSn
                      clear hSn
                      refine m_nil (m_then ⟨fun _ => hQ, ?_⟩)
                      refine d_take 12 (bs' := [true, true, true, true, true, true, true, true, true, true, true, true, true, false]) hA rfl rfl (by kernel_rfl) (fun _ _ _ h => h) (Y.fieldAddr (k := 2) rfl Tryz.underlying30 rfl rfl Tryz.sizeOf28) rfl ?_
                      clear hA a; intro a hA
                      refine d_one 13 (bs' := [true, true, true, true, true, true, true, true, true, true, true, true, true, true]) false rfl (by kernel_rfl) ?_
                      refine m_store 1 hA hS rfl rfl Tryz.sizeOf28 rfl rfl rfl rfl ?_
                      clear hS; intro w hS
                      refine m_nil (m_then ⟨fun h => (by cases h), ?_⟩)
                      refine d_done (by kernel_rfl) ?_
                      refine m_then ?_
                      exact ⟨_, _, _, bs2, bM, hA.keep [4, 2] rfl, hrow2, hbs2, hbML, hS.sub (.cons_cons _ (.cons_cons _ (.cons_cons _ (.cons _ (List.Sublist.refl _)))))⟩
                    · refine m_buildSliceW ([.int .i64 (H.last + 1), .int .i64 who, .slice (some ⟨bM, 0, none⟩) 1 1, .slice none 0 0]) hA hS rfl rfl (bs_ptyR _ _ _ _) ?_
                      clear hA a; intro a bP w hA hbP hgP hS
                      replace hQ := hQ.gr hgP
                      refine m_nil (m_then ⟨fun _ => hQ, ?_⟩)
                      refine d_one 3 (bs' := [true, true, true, true, true, true, true, true, true, true, true, false, false, false]) true rfl (by kernel_rfl) ?_
                      have hn0 : n5 = 0 := by have := RowOf.nil_of hP5; have h9 := hP5.len; rw [this] at h9; simpa using h9.symm
                      have hcs0 : cs = [] := List.eq_nil_of_length_eq_zero (by omega)
                      refine m_appendNil0 43 64 elemPR hA rfl rfl hn0 rfl Tryz.underlying28 (Nat.le_refl _) ?_
                      clear hA a; intro a hA
                      obtain ⟨v1, bs1, hv1, hb1e⟩ : ∃ v1 bs1, v1 = Value.slice (some ⟨bE, 0, none⟩) 0 0 ∧ bs1 = [cB bE [] 43] := ⟨_, _, rfl, rfl⟩
                      rw [← hv1] at hA
                      have hrow1 : RowB 43 4 v1 n5 cs bs1 := by rw [hv1, hb1e, hcs0, hn0]; exact RowB.empty _ _ _
                      have hbs1 : ∀ z ∈ bs1, L ≤ z.b := by rw [hb1e]; intro z hz; simp at hz; subst hz; exact hbEL
                      have hSn : St w ([cB bP [.int .i64 (H.last + 1), .int .i64 who, .slice (some ⟨bM, 0, none⟩) 1 1, .slice none 0 0] 43, cB bM [.int .i64 who] 3, cB b2 [.int .i64 0, .int .i64 0, .slice none 0 0] 30, cB b1 [.int .i64 H.tick, .int .i64 (H.last + 1), .slice none n5 c5] 30] ++ bs1) [(L, w5), (0, w0)] := by rw [hb1e]; exact hS.perm (List.perm_iff_count.2 fun a => by simp only [List.count_append, List.count_cons, List.count_nil]; omega)
                      replace hS := hSn
                      clear hSn
                      refine m_nil (m_then ⟨fun _ => hQ, ?_⟩)
                      refine d_one 11 (bs' := [true, true, true, true, true, true, true, true, true, true, true, true, false, false]) true rfl (by kernel_rfl) ?_
                      have hSp : St w (bs1 ++ [cB bP [.int .i64 (H.last + 1), .int .i64 who, .slice (some ⟨bM, 0, none⟩) 1 1, .slice none 0 0] 43, cB bM [.int .i64 who] 3, cB b2 [.int .i64 0, .int .i64 0, .slice none 0 0] 30, cB b1 [.int .i64 H.tick, .int .i64 (H.last + 1), .slice none n5 c5] 30]) [(L, w5), (0, w0)] := hS.perm (List.perm_iff_count.2 fun a => by simp only [List.count_append, List.count_cons, List.count_nil]; omega)
                      have hLq : L ≤ w.heap.size := Nat.le_trans hL5 (hS.vs (L, w5) (by simp)).2.2.2.1
                      refine m_appendG (bs := bs1) 43 64 [.int .i64 (H.last + 1), .int .i64 who, .slice (some ⟨bM, 0, none⟩) 1 1, .slice none 0 0] elemPR hA hSp hrow1 rfl rfl rfl Tryz.underlying28 rfl (hS.cellsM (b := bP) (cs := [.int .i64 (H.last + 1), .int .i64 who, .slice (some ⟨bM, 0, none⟩) 1 1, .slice none 0 0]) (T := 43) (by simp)) (List.all_eq_true.1 rfl) (by omega) (by decide) ?_
                      clear hA hS hSp a; intro a w v2 bs2 hA hrow2 hwh2 hS
                      have hbs2 : ∀ z ∈ bs2, L ≤ z.b := fun z hz => by
                        rcases hwh2 z hz with ⟨u, hu, e⟩ | h
                        · rw [← e]; exact hbs1 u hu
                        · omega
                      obtain ⟨A8, c8, rfl⟩ := hrow2.shape
                      have hSn : St w ([cB b2 [.int .i64 0, .int .i64 0, .slice none 0 0] 30, cB b1 [.int .i64 H.tick, .int .i64 (H.last + 1), .slice none n5 c5] 30, cB bM [.int .i64 who] 3, cB bP [.int .i64 (H.last + 1), .int .i64 who, .slice (some ⟨bM, 0, none⟩) 1 1, .slice none 0 0] 43] ++ bs2) [(L, w5), (0, w0)] := hS.perm (List.perm_iff_count.2 fun a => by simp only [List.count_append, List.count_cons, List.count_nil]; omega)
                      replace hQ : St w [cB b2 [.int .i64 0, .int .i64 0, .slice none 0 0] 30, cB b1 [.int .i64 H.tick, .int .i64 (H.last + 1), .slice none n5 c5] 30] [(L, w5), (0, w0)] := hSn.sub (List.sublist_append_left [_, _] _)
                      replace hS := hSn
                      clear hSn
                      refine m_nil (m_then ⟨fun _ => hQ, ?_⟩)
                      refine d_take 12 (bs' := [true, true, true, true, true, true, true, true, true, true, true, true, true, false]) hA rfl rfl (by kernel_rfl) (fun _ _ _ h => h) (Y.fieldAddr (k := 2) rfl Tryz.underlying30 rfl rfl Tryz.sizeOf28) rfl ?_
                      clear hA a; intro a hA
                      refine d_one 13 (bs' := [true, true, true, true, true, true, true, true, true, true, true, true, true, true]) false rfl (by kernel_rfl) ?_
                      refine m_store 1 hA hS rfl rfl Tryz.sizeOf28 rfl rfl rfl rfl ?_
                      clear hS; intro w hS
                      refine m_nil (m_then ⟨fun h => (by cases h), ?_⟩)
                      refine d_done (by kernel_rfl) ?_
                      refine m_then ?_
                      exact ⟨_, _, _, bs2, bM, hA.keep [4, 2] rfl, hrow2, hbs2, hbML, hS.sub (.cons_cons _ (.cons_cons _ (.cons_cons _ (.cons _ (List.Sublist.refl _)))))⟩
                  · refine m_buildSliceW ([.int .i64 (H.last + 1), .int .i64 who, .slice (some ⟨bM, 0, none⟩) 1 1, .slice none 0 0]) hA hS rfl rfl (bs_ptyR _ _ _ _) ?_
                    clear hA a; intro a bP w hA hbP hgP hS
                    replace hQ := hQ.gr hgP
                    refine m_nil (m_then ⟨fun _ => hQ, ?_⟩)
                    refine d_one 0 (bs' := [true, true, true, false, true, true, true, true, true, true, true, false, false, false]) true rfl (by kernel_rfl) ?_
                    have hLq : L ≤ w.heap.size := Nat.le_trans hL5 (hS.vs (L, w5) (by simp)).2.2.2.1
                    refine m_buildSliceW ([]) hA hS rfl rfl (run_bs0 Tryz.underlying28 Tryz.sizeOf43) ?_
                    clear hA a; intro a bE w hA hbE hgE hS
                    replace hQ := hQ.gr hgE
                    have hbEL : L ≤ bE := by omega
                    clear hLq
                    refine m_nil (m_then ⟨fun _ => hQ, ?_⟩)
                    refine d_one 3 (bs' := [true, true, true, true, true, true, true, true, true, true, true, false, false, false]) true rfl (by kernel_rfl) ?_
                    have hn0 : n5 = 0 := by have := RowOf.nil_of hP5; have h9 := hP5.len; rw [this] at h9; simpa using h9.symm
                    have hcs0 : cs = [] := List.eq_nil_of_length_eq_zero (by omega)
                    refine m_appendNil0 43 64 elemPR hA rfl rfl hn0 rfl Tryz.underlying28 (Nat.le_refl _) ?_
                    clear hA a; intro a hA
                    obtain ⟨v1, bs1, hv1, hb1e⟩ : ∃ v1 bs1, v1 = Value.slice (some ⟨bE, 0, none⟩) 0 0 ∧ bs1 = [cB bE [] 43] := ⟨_, _, rfl, rfl⟩
                    rw [← hv1] at hA
                    have hrow1 : RowB 43 4 v1 n5 cs bs1 := by rw [hv1, hb1e, hcs0, hn0]; exact RowB.empty _ _ _
                    have hbs1 : ∀ z ∈ bs1, L ≤ z.b := by rw [hb1e]; intro z hz; simp at hz; subst hz; exact hbEL
                    have hSn : St w ([cB bP [.int .i64 (H.last + 1), .int .i64 who, .slice (some ⟨bM, 0, none⟩) 1 1, .slice none 0 0] 43, cB bM [.int .i64 who] 3, cB b2 [.int .i64 0, .int .i64 0, .slice none 0 0] 30, cB b1 [.int .i64 H.tick, .int .i64 (H.last + 1), .slice none n5 c5] 30] ++ bs1) [(L, w5), (0, w0)] := by rw [hb1e]; exact hS.perm (List.perm_iff_count.2 fun a => by simp only [List.count_append, List.count_cons, List.count_nil]; omega)
                    replace hS := hSn
                    clear hSn
                    refine m_nil (m_then ⟨fun _ => hQ, ?_⟩)
                    refine d_one 11 (bs' := [true, true, true, true, true, true, true, true, true, true, true, true, false, false]) true rfl (by kernel_rfl) ?_
                    have hSp : St w (bs1 ++ [cB bP [.int .i64 (H.last + 1), .int .i64 who, .slice (some ⟨bM, 0, none⟩) 1 1, .slice none 0 0] 43, cB bM [.int .i64 who] 3, cB b2 [.int .i64 0, .int .i64 0, .slice none 0 0] 30, cB b1 [.int .i64 H.tick, .int .i64 (H.last + 1), .slice none n5 c5] 30]) [(L, w5), (0, w0)] := hS.perm (List.perm_iff_count.2 fun a => by simp only [List.count_append, List.count_cons, List.count_nil]; omega)
                    have hLq : L ≤ w.heap.size := Nat.le_trans hL5 (hS.vs (L, w5) (by simp)).2.2.2.1
                    refine m_appendG (bs := bs1) 43 64 [.int .i64 (H.last + 1), .int .i64 who, .slice (some ⟨bM, 0, none⟩) 1 1, .slice none 0 0] elemPR hA hSp hrow1 rfl rfl rfl Tryz.underlying28 rfl (hS.cellsM (b := bP) (cs := [.int .i64 (H.last + 1), .int .i64 who, .slice (some ⟨bM, 0, none⟩) 1 1, .slice none 0 0]) (T := 43) (by simp)) (List.all_eq_true.1 rfl) (by omega) (by decide) ?_
                    clear hA hS hSp a; intro a w v2 bs2 hA hrow2 hwh2 hS
                    have hbs2 : ∀ z ∈ bs2, L ≤ z.b := fun z hz => by
                      rcases hwh2 z hz with ⟨u, hu, e⟩ | h
                      · rw [← e]; exact hbs1 u hu
                      · omega
                    obtain ⟨A8, c8, rfl⟩ := hrow2.shape
                    have hSn : St w ([cB b2 [.int .i64 0, .int .i64 0, .slice none 0 0] 30, cB b1 [.int .i64 H.tick, .int .i64 (H.last + 1), .slice none n5 c5] 30, cB bM [.int .i64 who] 3, cB bP [.int .i64 (H.last + 1), .int .i64 who, .slice (some ⟨bM, 0, none⟩) 1 1, .slice none 0 0] 43] ++ bs2) [(L, w5), (0, w0)] := hS.perm (List.perm_iff_count.2 fun a => by simp only [List.count_append, List.count_cons, List.count_nil]; omega)
                    replace hQ : St w [cB b2 [.int .i64 0, .int .i64 0, .slice none 0 0] 30, cB b1 [.int .i64 H.tick, .int .i64 (H.last + 1), .slice none n5 c5] 30] [(L, w5), (0, w0)] := hSn.sub (List.sublist_append_left [_, _] _)
                    replace hS := hSn
                    clear hSn
                    refine m_nil (m_then ⟨fun _ => hQ, ?_⟩)
                    refine d_take 12 (bs' := [true, true, true, true, true, true, true, true, true, true, true, true, true, false]) hA rfl rfl (by kernel_rfl) (fun _ _ _ h => h) (Y.fieldAddr (k := 2) rfl Tryz.underlying30 rfl rfl Tryz.sizeOf28) rfl ?_
                    clear hA a; intro a hA
                    refine d_one 13 (bs' := [true, true, true, true, true, true, true, true, true, true, true, true, true, true]) false rfl (by kernel_rfl) ?_
                    refine m_store 1 hA hS rfl rfl Tryz.sizeOf28 rfl rfl rfl rfl ?_
                    clear hS; intro w hS
                    refine m_nil (m_then ⟨fun h => (by cases h), ?_⟩)
                    refine d_done (by kernel_rfl) ?_
                    refine m_then ?_
                    exact ⟨_, _, _, bs2, bM, hA.keep [4, 2] rfl, hrow2, hbs2, hbML, hS.sub (.cons_cons _ (.cons_cons _ (.cons_cons _ (.cons _ (List.Sublist.refl _)))))⟩
              · clear hA hS a; rintro a w ⟨A8, c8, m8, bs2, bM, hA, hrow, hbs, hbML, hS⟩
                refine m_seq ?_
                refine m_region ?_
                refine m1 hA hS (Y.loads rfl Tryz.isAgg30 Tryz.sizeOf30 (fun w h => h.cells (i := 1) rfl) rfl) rfl ?_
                clear hA a; intro a hA
                refine m_store 0 hA hS rfl rfl Tryz.sizeOf30 rfl rfl rfl rfl ?_
                clear hS; intro w hS
                refine m1 hA hS (Y.assign rfl) rfl ?_
                clear hA a; intro a hA
                refine m_nil ?_
                refine m_then ?_
                refine m_retc ?_
                refine m_retc2 0 hA hS Tryz.results67 rfl rfl rfl Tryz.isAgg30 Tryz.sizeOf30 ?_
                rw [hF]
                have hgw := hS.gr0 (w0 := w0) (by simp)
                have hkw := hkk _ w hS
                have hrow' := hrow
                obtain ⟨hrl, ⟨_, h0, _⟩ | ⟨gg, cap, cur, e9, rfl, hcap9, hmax9, hcur9, htk9⟩⟩ := hrow
                · omega
                obtain ⟨rfl, rfl, rfl⟩ := Value.slice.inj e9
                have hgb := hS.bx (cB gg cur 43) (by simp [setB])
                have hMb := hS.bx (cB bM [.int .i64 who] 3) (by simp [setB])
                have hggL : L ≤ gg := hbs (cB gg cur 43) (by simp)
                have hmem : IntsK (fun b => K b ∨ w0.heap.size ≤ b) w (some ⟨bM, 0, none⟩) 1 [who] := ⟨rfl, by omega, fun j x hj => by
                  match j, hj with
                  | 0, h => simp at h; subst h; exact ⟨bM, 0, rfl, .inr (by omega), by simp [World.cell?, hMb]⟩⟩
                have hnew : PtysCK (fun b => K b ∨ w0.heap.size ≤ b) w (cs ++ [.int .i64 (H.last + 1), .int .i64 who, .slice (some ⟨bM, 0, none⟩) 1 1, .slice none 0 0]) (H.ps.map (keptF H.tick who 0) ++ [⟨H.last + 1, who, [who], []⟩]) :=
                  (hcs.mv (fun b hb => hb.imp And.left (fun h => Nat.le_trans hL0 h)) hkw).app ⟨_, _, _, _, _, _, [], rfl, ⟨hmem, RowOf.nil⟩, rfl⟩
                have hlen : (H.ps.map (keptF H.tick who 0) ++ [(⟨H.last + 1, who, [who], []⟩ : Pty)]).length = n5 + 1 := by simp; omega
                have hres := hnew.row (b := gg) hgb (by rw [hlen]; exact htk9) (.inr (by omega)) (by rw [hlen]; omega)
                rw [hlen] at hres
                exact ⟨_, _, _, rfl, hgw, hres, hcap9⟩
            · refine m_cut (fun a w => ∃ A8 c8 m8 bs2 bM, Fits a 53 [(4, .pointer (some ⟨b2, 0, none⟩)), (2, .pointer (some ⟨b1, 0, none⟩))] ∧ RowB 43 4 (.slice A8 m8 c8) (n5 + 1) (cs ++ [.int .i64 (H.last + 1), .int .i64 who, .slice (some ⟨bM, 0, none⟩) 1 1, .slice none 0 0]) bs2 ∧ (∀ z ∈ bs2, L ≤ z.b) ∧ L ≤ bM ∧ St w ([cB b2 [.int .i64 0, .int .i64 0, .slice none 0 0] 30, cB b1 [.int .i64 H.tick, .int .i64 (H.last + 1), .slice A8 m8 c8] 30, cB bM [.int .i64 who] 3] ++ bs2) [(L, w5), (0, w0)]) ?_ ?_
              · have hSn : St w ([cB b2 [.int .i64 0, .int .i64 0, .slice none 0 0] 30, cB b1 [.int .i64 H.tick, .int .i64 (H.last + 1), .slice (some A5) n5 c5] 30] ++ ([] : List Bx)) [(L, w5), (0, w0)] := hS
                replace hS := hSn
                clear hSn
                refine d_region (fun w => St w [cB b2 [.int .i64 0, .int .i64 0, .slice none 0 0] 30, cB b1 [.int .i64 H.tick, .int .i64 (H.last + 1), .slice (some A5) n5 c5] 30] [(L, w5), (0, w0)]) [2, 5] [1, 2, 4, 5, 6, 7, 9, 12] _ _ hS rfl 14 [false, false, false, false, false, false, false, false, false, false, false, false, false, false] rfl rfl ?_
                clear hS; intro w hS _
                have hQ : St w [cB b2 [.int .i64 0, .int .i64 0, .slice none 0 0] 30, cB b1 [.int .i64 H.tick, .int .i64 (H.last + 1), .slice (some A5) n5 c5] 30] [(L, w5), (0, w0)] := hS
                refine d_take 1 (bs' := [false, true, false, false, false, false, false, false, false, false, false, false, false, false]) hA rfl rfl (by kernel_rfl) (fun _ _ _ h => h) (Y.fieldAddr (k := 2) rfl Tryz.underlying30 rfl rfl Tryz.sizeOf28) rfl ?_
                clear hA a; intro a hA
                refine d_load 2 (bs' := [false, true, true, false, false, false, false, false, false, false, false, false, false, false]) hA hQ rfl rfl rfl (by kernel_rfl) (fun _ _ _ h => h) (Y.load rfl Tryz.isAgg28 (fun w h => h.cell (i := 1) rfl rfl)) rfl ?_
                clear hA a; intro a hA
                refine d_take 4 (bs' := [false, true, true, false, true, false, false, false, false, false, false, false, false, false]) hA rfl rfl (by kernel_rfl) (fun _ _ _ h => h) (Y.fieldAddr (k := 1) rfl Tryz.underlying30 rfl rfl Tryz.sizeOf3) rfl ?_
                clear hA a; intro a hA
                refine d_load 5 (bs' := [false, true, true, false, true, true, false, false, false, false, false, false, false, false]) hA hQ rfl rfl rfl (by kernel_rfl) (fun _ _ _ h => h) (Y.load rfl Tryz.isAgg3 (fun w h => h.cell (i := 1) rfl rfl)) rfl ?_
                clear hA a; intro a hA
                refine d_take 6 (bs' := [false, true, true, false, true, true, true, false, false, false, false, false, false, false]) hA rfl rfl (by kernel_rfl) (fun _ _ _ h => h) (Y.move rfl) rfl ?_
                clear hA a; intro a hA
                refine d_take 7 (bs' := [false, true, true, false, true, true, true, true, false, false, false, false, false, false]) hA rfl rfl (by kernel_rfl) (fun _ _ _ h => h) (Y.move rfl) rfl ?_
                clear hA a; intro a hA
                refine d_two 0 8 (bi := [true, true, true, false, true, true, true, true, false, false, false, false, false, false]) (bj := [false, true, true, false, true, true, true, true, true, false, false, false, false, false]) true true rfl rfl (by kernel_rfl) ?_ ?_
                · have hLq : L ≤ w.heap.size := Nat.le_trans hL5 (hS.vs (L, w5) (by simp)).2.2.2.1
                  refine m_buildSliceW ([]) hA hS rfl rfl (run_bs0 Tryz.underlying28 Tryz.sizeOf43) ?_
                  clear hA a; intro a bE w hA hbE hgE hS
                  replace hQ := hQ.gr hgE
                  have hbEL : L ≤ bE := by omega
                  clear hLq
                  refine m_nil (m_then ⟨fun _ => hQ, ?_⟩)
                  refine d_two 3 8 (bi := [true, true, true, true, true, true, true, true, false, false, false, false, false, false]) (bj := [true, true, true, false, true, true, true, true, true, false, false, false, false, false]) true true rfl rfl (by kernel_rfl) ?_ ?_
                  · have hSp : St w ([cB bE [] 43] ++ [cB b2 [.int .i64 0, .int .i64 0, .slice none 0 0] 30, cB b1 [.int .i64 H.tick, .int .i64 (H.last + 1), .slice (some A5) n5 c5] 30]) [(L, w5), (0, w0)] := hS.perm (List.perm_iff_count.2 fun a => by simp only [List.count_append, List.count_cons, List.count_nil]; omega)
                    have hLq : L ≤ w.heap.size := Nat.le_trans hL5 (hS.vs (L, w5) (by simp)).2.2.2.1
                    refine m_appendG (bs := [cB bE [] 43]) 43 64 cs elemPR hA hSp (RowB.empty _ _ _) rfl rfl rfl Tryz.underlying28 hcsl (fun j u hj => ?_) hcs.one (by omega) (by decide) ?_
                    · obtain ⟨b9, o9, rfl, hK9, h9⟩ := hcsc A5 rfl j u hj
                      have ha : (⟨b9, o9, none⟩ : Addr).add j = ⟨b9, o9 + j, none⟩ := by unfold Addr.add; split <;> simp_all
                      rw [ha]
                      exact (hkk _ w hS).cell hK9 h9
                    clear hA hS hSp a; intro a w v1 bs1 hA hrow1 hwh1 hS
                    replace hQ : St w [cB b2 [.int .i64 0, .int .i64 0, .slice none 0 0] 30, cB b1 [.int .i64 H.tick, .int .i64 (H.last + 1), .slice (some A5) n5 c5] 30] [(L, w5), (0, w0)] := hS.sub (List.Sublist.trans (by simp : List.Sublist [cB b2 [.int .i64 0, .int .i64 0, .slice none 0 0] 30, cB b1 [.int .i64 H.tick, .int .i64 (H.last + 1), .slice (some A5) n5 c5] 30] [cB b2 [.int .i64 0, .int .i64 0, .slice none 0 0] 30, cB b1 [.int .i64 H.tick, .int .i64 (H.last + 1), .slice (some A5) n5 c5] 30]) (List.sublist_append_right _ _))
                    have hbs1 : ∀ z ∈ bs1, L ≤ z.b := fun z hz => by
                      rcases hwh1 z hz with ⟨u, hu, e⟩ | h
                      · simp at hu; subst hu; rw [← e]; exact hbEL
                      · omega
                    clear hLq hwh1
                    rw [Nat.zero_add, List.nil_append] at hrow1
                    replace hS : St w ([cB b2 [.int .i64 0, .int .i64 0, .slice none 0 0] 30, cB b1 [.int .i64 H.tick, .int .i64 (H.last + 1), .slice (some A5) n5 c5] 30] ++ bs1) [(L, w5), (0, w0)] := hS.perm (List.perm_iff_count.2 fun a => by simp only [List.count_append, List.count_cons, List.count_nil]; omega)
                    refine m_nil (m_then ⟨fun _ => hQ, ?_⟩)
                    refine d_one 8 (bs' := [true, true, true, true, true, true, true, true, true, false, false, false, false, false]) true rfl (by kernel_rfl) ?_
                    have hLq : L ≤ w.heap.size := Nat.le_trans hL5 (hS.vs (L, w5) (by simp)).2.2.2.1
                    refine m_buildSliceW ([.int .i64 who]) hA hS rfl rfl (bs_int who) ?_
                    clear hA a; intro a bM w hA hbM hgM hS
                    replace hQ := hQ.gr hgM
                    have hbML : L ≤ bM := by omega
                    clear hLq
                    refine m_nil (m_then ⟨fun _ => hQ, ?_⟩)
                    refine d_take 9 (bs' := [true, true, true, true, true, true, true, true, true, true, false, false, false, false]) hA rfl rfl (by kernel_rfl) (fun _ _ _ h => h) (Y.build rfl (cs := [.int .i64 (H.last + 1), .int .i64 who, .slice (some ⟨bM, 0, none⟩) 1 1, .slice none 0 0]) (by kernel_rfl)) rfl ?_
                    clear hA a; intro a hA
                    refine d_one 10 (bs' := [true, true, true, true, true, true, true, true, true, true, true, false, false, false]) true rfl (by kernel_rfl) ?_
                    refine m_buildSliceW ([.int .i64 (H.last + 1), .int .i64 who, .slice (some ⟨bM, 0, none⟩) 1 1, .slice none 0 0]) hA hS rfl rfl (bs_ptyR _ _ _ _) ?_
                    clear hA a; intro a bP w hA hbP hgP hS
                    replace hQ := hQ.gr hgP
                    refine m_nil (m_then ⟨fun _ => hQ, ?_⟩)
                    refine d_one 11 (bs' := [true, true, true, true, true, true, true, true, true, true, true, true, false, false]) true rfl (by kernel_rfl) ?_
                    have hSp : St w (bs1 ++ [cB bP [.int .i64 (H.last + 1), .int .i64 who, .slice (some ⟨bM, 0, none⟩) 1 1, .slice none 0 0] 43, cB bM [.int .i64 who] 3, cB b2 [.int .i64 0, .int .i64 0, .slice none 0 0] 30, cB b1 [.int .i64 H.tick, .int .i64 (H.last + 1), .slice (some A5) n5 c5] 30]) [(L, w5), (0, w0)] := hS.perm (List.perm_iff_count.2 fun a => by simp only [List.count_append, List.count_cons, List.count_nil]; omega)
                    have hLq : L ≤ w.heap.size := Nat.le_trans hL5 (hS.vs (L, w5) (by simp)).2.2.2.1
                    refine m_appendG (bs := bs1) 43 64 [.int .i64 (H.last + 1), .int .i64 who, .slice (some ⟨bM, 0, none⟩) 1 1, .slice none 0 0] elemPR hA hSp hrow1 rfl rfl rfl Tryz.underlying28 rfl (hS.cellsM (b := bP) (cs := [.int .i64 (H.last + 1), .int .i64 who, .slice (some ⟨bM, 0, none⟩) 1 1, .slice none 0 0]) (T := 43) (by simp)) (List.all_eq_true.1 rfl) (by omega) (by decide) ?_
                    clear hA hS hSp a; intro a w v2 bs2 hA hrow2 hwh2 hS
                    have hbs2 : ∀ z ∈ bs2, L ≤ z.b := fun z hz => by
                      rcases hwh2 z hz with ⟨u, hu, e⟩ | h
                      · rw [← e]; exact hbs1 u hu
                      · omega
                    obtain ⟨A8, c8, rfl⟩ := hrow2.shape
                    have hSn : St w ([cB b2 [.int .i64 0, .int .i64 0, .slice none 0 0] 30, cB b1 [.int .i64 H.tick, .int .i64 (H.last + 1), .slice (some A5) n5 c5] 30, cB bM [.int .i64 who] 3, cB bP [.int .i64 (H.last + 1), .int .i64 who, .slice (some ⟨bM, 0, none⟩) 1 1, .slice none 0 0] 43] ++ bs2) [(L, w5), (0, w0)] := hS.perm (List.perm_iff_count.2 fun a => by simp only [List.count_append, List.count_cons, List.count_nil]; omega)
                    replace hQ : St w [cB b2 [.int .i64 0, .int .i64 0, .slice none 0 0] 30, cB b1 [.int .i64 H.tick, .int .i64 (H.last + 1), .slice (some A5) n5 c5] 30] [(L, w5), (0, w0)] := hSn.sub (List.sublist_append_left [_, _] _)
                    replace hS := hSn
                    clear hSn
                    refine m_nil (m_then ⟨fun _ => hQ, ?_⟩)
                    refine d_take 12 (bs' := [true, true, true, true, true, true, true, true, true, true, true, true, true, false]) hA rfl rfl (by kernel_rfl) (fun _ _ _ h => h) (Y.fieldAddr (k := 2) rfl Tryz.underlying30 rfl rfl Tryz.sizeOf28) rfl ?_
                    clear hA a; intro a hA
                    refine d_one 13 (bs' := [true, true, true, true, true, true, true, true, true, true, true, true, true, true]) false rfl (by kernel_rfl) ?_
                    refine m_store 1 hA hS rfl rfl Tryz.sizeOf28 rfl rfl rfl rfl ?_
                    clear hS; intro w hS
                    refine m_nil (m_then ⟨fun h => (by cases h), ?_⟩)
                    refine d_done (by kernel_rfl) ?_
                    refine m_then ?_
                    exact ⟨_, _, _, bs2, bM, hA.keep [4, 2] rfl, hrow2, hbs2, hbML, hS.sub (.cons_cons _ (.cons_cons _ (.cons_cons _ (.cons _ (List.Sublist.refl _)))))⟩
                  · have hLq : L ≤ w.heap.size := Nat.le_trans hL5 (hS.vs (L, w5) (by simp)).2.2.2.1
                    refine m_buildSliceW ([.int .i64 who]) hA hS rfl rfl (bs_int who) ?_
                    clear hA a; intro a bM w hA hbM hgM hS
                    replace hQ := hQ.gr hgM
                    have hbML : L ≤ bM := by omega
                    clear hLq
                    refine m_nil (m_then ⟨fun _ => hQ, ?_⟩)
                    refine d_take 9 (bs' := [true, true, true, false, true, true, true, true, true, true, false, false, false, false]) hA rfl rfl (by kernel_rfl) (fun _ _ _ h => h) (Y.build rfl (cs := [.int .i64 (H.last + 1), .int .i64 who, .slice (some ⟨bM, 0, none⟩) 1 1, .slice none 0 0]) (by kernel_rfl)) rfl ?_
                    clear hA a; intro a hA
                    refine d_two 3 10 (bi := [true, true, true, true, true, true, true, true, true, true, false, false, false, false]) (bj := [true, true, true, false, true, true, true, true, true, true, true, false, false, false]) true true rfl rfl (by kernel_rfl) ?_ ?_
                    · have hSp : St w ([cB bE [] 43] ++ [cB bM [.int .i64 who] 3, cB b2 [.int .i64 0, .int .i64 0, .slice none 0 0] 30, cB b1 [.int .i64 H.tick, .int .i64 (H.last + 1), .slice (some A5) n5 c5] 30]) [(L, w5), (0, w0)] := hS.perm (List.perm_iff_count.2 fun a => by simp only [List.count_append, List.count_cons, List.count_nil]; omega)
                      have hLq : L ≤ w.heap.size := Nat.le_trans hL5 (hS.vs (L, w5) (by simp)).2.2.2.1
                      refine m_appendG (bs := [cB bE [] 43]) 43 64 cs elemPR hA hSp (RowB.empty _ _ _) rfl rfl rfl Tryz.underlying28 hcsl (fun j u hj => ?_) hcs.one (by omega) (by decide) ?_
                      · obtain ⟨b9, o9, rfl, hK9, h9⟩ := hcsc A5 rfl j u hj
                        have ha : (⟨b9, o9, none⟩ : Addr).add j = ⟨b9, o9 + j, none⟩ := by unfold Addr.add; split <;> simp_all
                        rw [ha]
                        exact (hkk _ w hS).cell hK9 h9
                      clear hA hS hSp a; intro a w v1 bs1 hA hrow1 hwh1 hS
                      replace hQ : St w [cB b2 [.int .i64 0, .int .i64 0, .slice none 0 0] 30, cB b1 [.int .i64 H.tick, .int .i64 (H.last + 1), .slice (some A5) n5 c5] 30] [(L, w5), (0, w0)] := hS.sub (List.Sublist.trans (by simp : List.Sublist [cB b2 [.int .i64 0, .int .i64 0, .slice none 0 0] 30, cB b1 [.int .i64 H.tick, .int .i64 (H.last + 1), .slice (some A5) n5 c5] 30] [cB bM [.int .i64 who] 3, cB b2 [.int .i64 0, .int .i64 0, .slice none 0 0] 30, cB b1 [.int .i64 H.tick, .int .i64 (H.last + 1), .slice (some A5) n5 c5] 30]) (List.sublist_append_right _ _))
                      have hbs1 : ∀ z ∈ bs1, L ≤ z.b := fun z hz => by
                        rcases hwh1 z hz with ⟨u, hu, e⟩ | h
                        · simp at hu; subst hu; rw [← e]; exact hbEL
                        · omega
                      clear hLq hwh1
                      rw [Nat.zero_add, List.nil_append] at hrow1
                      replace hS : St w ([cB bM [.int .i64 who] 3, cB b2 [.int .i64 0, .int .i64 0, .slice none 0 0] 30, cB b1 [.int .i64 H.tick, .int .i64 (H.last + 1), .slice (some A5) n5 c5] 30] ++ bs1) [(L, w5), (0, w0)] := hS.perm (List.perm_iff_count.2 fun a => by simp only [List.count_append, List.count_cons, List.count_nil]; omega)
                      refine m_nil (m_then ⟨fun _ => hQ, ?_⟩)
                      refine d_one 10 (bs' := [true, true, true, true, true, true, true, true, true, true, true, false, false, false]) true rfl (by kernel_rfl) ?_
                      refine m_buildSliceW ([.int .i64 (H.last + 1), .int .i64 who, .slice (some ⟨bM, 0, none⟩) 1 1, .slice none 0 0]) hA hS rfl rfl (bs_ptyR _ _ _ _) ?_
                      clear hA a; intro a bP w hA hbP hgP hS
                      replace hQ := hQ.gr hgP
                      refine m_nil (m_then ⟨fun _ => hQ, ?_⟩)
                      refine d_one 11 (bs' := [true, true, true, true, true, true, true, true, true, true, true, true, false, false]) true rfl (by kernel_rfl) ?_
                      have hSp : St w (bs1 ++ [cB bP [.int .i64 (H.last + 1), .int .i64 who, .slice (some ⟨bM, 0, none⟩) 1 1, .slice none 0 0] 43, cB bM [.int .i64 who] 3, cB b2 [.int .i64 0, .int .i64 0, .slice none 0 0] 30, cB b1 [.int .i64 H.tick, .int .i64 (H.last + 1), .slice (some A5) n5 c5] 30]) [(L, w5), (0, w0)] := hS.perm (List.perm_iff_count.2 fun a => by simp only [List.count_append, List.count_cons, List.count_nil]; omega)
                      have hLq : L ≤ w.heap.size := Nat.le_trans hL5 (hS.vs (L, w5) (by simp)).2.2.2.1
                      refine m_appendG (bs := bs1) 43 64 [.int .i64 (H.last + 1), .int .i64 who, .slice (some ⟨bM, 0, none⟩) 1 1, .slice none 0 0] elemPR hA hSp hrow1 rfl rfl rfl Tryz.underlying28 rfl (hS.cellsM (b := bP) (cs := [.int .i64 (H.last + 1), .int .i64 who, .slice (some ⟨bM, 0, none⟩) 1 1, .slice none 0 0]) (T := 43) (by simp)) (List.all_eq_true.1 rfl) (by omega) (by decide) ?_
                      clear hA hS hSp a; intro a w v2 bs2 hA hrow2 hwh2 hS
                      have hbs2 : ∀ z ∈ bs2, L ≤ z.b := fun z hz => by
                        rcases hwh2 z hz with ⟨u, hu, e⟩ | h
                        · rw [← e]; exact hbs1 u hu
                        · omega
                      obtain ⟨A8, c8, rfl⟩ := hrow2.shape
                      have hSn : St w ([cB b2 [.int .i64 0, .int .i64 0, .slice none 0 0] 30, cB b1 [.int .i64 H.tick, .int .i64 (H.last + 1), .slice (some A5) n5 c5] 30, cB bM [.int .i64 who] 3, cB bP [.int .i64 (H.last + 1), .int .i64 who, .slice (some ⟨bM, 0, none⟩) 1 1, .slice none 0 0] 43] ++ bs2) [(L, w5), (0, w0)] := hS.perm (List.perm_iff_count.2 fun a => by simp only [List.count_append, List.count_cons, List.count_nil]; omega)
                      replace hQ : St w [cB b2 [.int .i64 0, .int .i64 0, .slice none 0 0] 30, cB b1 [.int .i64 H.tick, .int .i64 (H.last + 1), .slice (some A5) n5 c5] 30] [(L, w5), (0, w0)] := hSn.sub (List.sublist_append_left [_, _] _)
                      replace hS := hSn
                      clear hSn
                      refine m_nil (m_then ⟨fun _ => hQ, ?_⟩)
                      refine d_take 12 (bs' := [true, true, true, true, true, true, true, true, true, true, true, true, true, false]) hA rfl rfl (by kernel_rfl) (fun _ _ _ h => h) (Y.fieldAddr (k := 2) rfl Tryz.underlying30 rfl rfl Tryz.sizeOf28) rfl ?_
                      clear hA a; intro a hA
                      refine d_one 13 (bs' := [true, true, true, true, true, true, true, true, true, true, true, true, true, true]) false rfl (by kernel_rfl) ?_
                      refine m_store 1 hA hS rfl rfl Tryz.sizeOf28 rfl rfl rfl rfl ?_
                      clear hS; intro w hS
                      refine m_nil (m_then ⟨fun h => (by cases h), ?_⟩)
                      refine d_done (by kernel_rfl) ?_
                      refine m_then ?_
                      exact ⟨_, _, _, bs2, bM, hA.keep [4, 2] rfl, hrow2, hbs2, hbML, hS.sub (.cons_cons _ (.cons_cons _ (.cons_cons _ (.cons _ (List.Sublist.refl _)))))⟩
                    · refine m_buildSliceW ([.int .i64 (H.last + 1), .int .i64 who, .slice (some ⟨bM, 0, none⟩) 1 1, .slice none 0 0]) hA hS rfl rfl (bs_ptyR _ _ _ _) ?_
                      clear hA a; intro a bP w hA hbP hgP hS
                      replace hQ := hQ.gr hgP
                      refine m_nil (m_then ⟨fun _ => hQ, ?_⟩)
                      refine d_one 3 (bs' := [true, true, true, true, true, true, true, true, true, true, true, false, false, false]) true rfl (by kernel_rfl) ?_
                      have hSp : St w ([cB bE [] 43] ++ [cB bP [.int .i64 (H.last + 1), .int .i64 who, .slice (some ⟨bM, 0, none⟩) 1 1, .slice none 0 0] 43, cB bM [.int .i64 who] 3, cB b2 [.int .i64 0, .int .i64 0, .slice none 0 0] 30, cB b1 [.int .i64 H.tick, .int .i64 (H.last + 1), .slice (some A5) n5 c5] 30]) [(L, w5), (0, w0)] := hS.perm (List.perm_iff_count.2 fun a => by simp only [List.count_append, List.count_cons, List.count_nil]; omega)
                      have hLq : L ≤ w.heap.size := Nat.le_trans hL5 (hS.vs (L, w5) (by simp)).2.2.2.1
                      refine m_appendG (bs := [cB bE [] 43]) 43 64 cs elemPR hA hSp (RowB.empty _ _ _) rfl rfl rfl Tryz.underlying28 hcsl (fun j u hj => ?_) hcs.one (by omega) (by decide) ?_
                      · obtain ⟨b9, o9, rfl, hK9, h9⟩ := hcsc A5 rfl j u hj
                        have ha : (⟨b9, o9, none⟩ : Addr).add j = ⟨b9, o9 + j, none⟩ := by unfold Addr.add; split <;> simp_all
                        rw [ha]
                        exact (hkk _ w hS).cell hK9 h9
                      clear hA hS hSp a; intro a w v1 bs1 hA hrow1 hwh1 hS
                      replace hQ : St w [cB b2 [.int .i64 0, .int .i64 0, .slice none 0 0] 30, cB b1 [.int .i64 H.tick, .int .i64 (H.last + 1), .slice (some A5) n5 c5] 30] [(L, w5), (0, w0)] := hS.sub (List.Sublist.trans (by simp : List.Sublist [cB b2 [.int .i64 0, .int .i64 0, .slice none 0 0] 30, cB b1 [.int .i64 H.tick, .int .i64 (H.last + 1), .slice (some A5) n5 c5] 30] [cB bP [.int .i64 (H.last + 1), .int .i64 who, .slice (some ⟨bM, 0, none⟩) 1 1, .slice none 0 0] 43, cB bM [.int .i64 who] 3, cB b2 [.int .i64 0, .int .i64 0, .slice none 0 0] 30, cB b1 [.int .i64 H.tick, .int .i64 (H.last + 1), .slice (some A5) n5 c5] 30]) (List.sublist_append_right _ _))
                      have hbs1 : ∀ z ∈ bs1, L ≤ z.b := fun z hz => by
                        rcases hwh1 z hz with ⟨u, hu, e⟩ | h
                        · simp at hu; subst hu; rw [← e]; exact hbEL
                        · omega
                      clear hLq hwh1
                      rw [Nat.zero_add, List.nil_append] at hrow1
                      replace hS : St w ([cB bP [.int .i64 (H.last + 1), .int .i64 who, .slice (some ⟨bM, 0, none⟩) 1 1, .slice none 0 0] 43, cB bM [.int .i64 who] 3, cB b2 [.int .i64 0, .int .i64 0, .slice none 0 0] 30, cB b1 [.int .i64 H.tick, .int .i64 (H.last + 1), .slice (some A5) n5 c5] 30] ++ bs1) [(L, w5), (0, w0)] := hS.perm (List.perm_iff_count.2 fun a => by simp only [List.count_append, List.count_cons, List.count_nil]; omega)
                      refine m_nil (m_then ⟨fun _ => hQ, ?_⟩)
                      refine d_one 11 (bs' := [true, true, true, true, true, true, true, true, true, true, true, true, false, false]) true rfl (by kernel_rfl) ?_
                      have hSp : St w (bs1 ++ [cB bP [.int .i64 (H.last + 1), .int .i64 who, .slice (some ⟨bM, 0, none⟩) 1 1, .slice none 0 0] 43, cB bM [.int .i64 who] 3, cB b2 [.int .i64 0, .int .i64 0, .slice none 0 0] 30, cB b1 [.int .i64 H.tick, .int .i64 (H.last + 1), .slice (some A5) n5 c5] 30]) [(L, w5), (0, w0)] := hS.perm (List.perm_iff_count.2 fun a => by simp only [List.count_append, List.count_cons, List.count_nil]; omega)
                      have hLq : L ≤ w.heap.size := Nat.le_trans hL5 (hS.vs (L, w5) (by simp)).2.2.2.1
                      refine m_appendG (bs := bs1) 43 64 [.int .i64 (H.last + 1), .int .i64 who, .slice (some ⟨bM, 0, none⟩) 1 1, .slice none 0 0] elemPR hA hSp hrow1 rfl rfl rfl Tryz.underlying28 rfl (hS.cellsM (b := bP) (cs := [.int .i64 (H.last + 1), .int .i64 who, .slice (some ⟨bM, 0, none⟩) 1 1, .slice none 0 0]) (T := 43) (by simp)) (List.all_eq_true.1 rfl) (by omega) (by decide) ?_
                      clear hA hS hSp a; intro a w v2 bs2 hA hrow2 hwh2 hS
                      have hbs2 : ∀ z ∈ bs2, L ≤ z.b := fun z hz => by
                        rcases hwh2 z hz with ⟨u, hu, e⟩ | h
                        · rw [← e]; exact hbs1 u hu
                        · omega
                      obtain ⟨A8, c8, rfl⟩ := hrow2.shape
                      have hSn : St w ([cB b2 [.int .i64 0, .int .i64 0, .slice none 0 0] 30, cB b1 [.int .i64 H.tick, .int .i64 (H.last + 1), .slice (some A5) n5 c5] 30, cB bM [.int .i64 who] 3, cB bP [.int .i64 (H.last + 1), .int .i64 who, .slice (some ⟨bM, 0, none⟩) 1 1, .slice none 0 0] 43] ++ bs2) [(L, w5), (0, w0)] := hS.perm (List.perm_iff_count.2 fun a => by simp only [List.count_append, List.count_cons, List.count_nil]; omega)
                      replace hQ : St w [cB b2 [.int .i64 0, .int .i64 0, .slice none 0 0] 30, cB b1 [.int .i64 H.tick, .int .i64 (H.last + 1), .slice (some A5) n5 c5] 30] [(L, w5), (0, w0)] := hSn.sub (List.sublist_append_left [_, _] _)
                      replace hS := hSn
                      clear hSn
                      refine m_nil (m_then ⟨fun _ => hQ, ?_⟩)
                      refine d_take 12 (bs' := [true, true, true, true, true, true, true, true, true, true, true, true, true, false]) hA rfl rfl (by kernel_rfl) (fun _ _ _ h => h) (Y.fieldAddr (k := 2) rfl Tryz.underlying30 rfl rfl Tryz.sizeOf28) rfl ?_
                      clear hA a; intro a hA
                      refine d_one 13 (bs' := [true, true, true, true, true, true, true, true, true, true, true, true, true, true]) false rfl (by kernel_rfl) ?_
                      refine m_store 1 hA hS rfl rfl Tryz.sizeOf28 rfl rfl rfl rfl ?_
                      clear hS; intro w hS
                      refine m_nil (m_then ⟨fun h => (by cases h), ?_⟩)
                      refine d_done (by kernel_rfl) ?_
                      refine m_then ?_
                      exact ⟨_, _, _, bs2, bM, hA.keep [4, 2] rfl, hrow2, hbs2, hbML, hS.sub (.cons_cons _ (.cons_cons _ (.cons_cons _ (.cons _ (List.Sublist.refl _)))))⟩
                · have hLq : L ≤ w.heap.size := Nat.le_trans hL5 (hS.vs (L, w5) (by simp)).2.2.2.1
                  refine m_buildSliceW ([.int .i64 who]) hA hS rfl rfl (bs_int who) ?_
                  clear hA a; intro a bM w hA hbM hgM hS
                  replace hQ := hQ.gr hgM
                  have hbML : L ≤ bM := by omega
                  clear hLq
                  refine m_nil (m_then ⟨fun _ => hQ, ?_⟩)
                  refine d_take 9 (bs' := [false, true, true, false, true, true, true, true, true, true, false, false, false, false]) hA rfl rfl (by kernel_rfl) (fun _ _ _ h => h) (Y.build rfl (cs := [.int .i64 (H.last + 1), .int .i64 who, .slice (some ⟨bM, 0, none⟩) 1 1, .slice none 0 0]) (by kernel_rfl)) rfl ?_
                  clear hA a; intro a hA
                  refine d_two 0 10 (bi := [true, true, true, false, true, true, true, true, true, true, false, false, false, false]) (bj := [false, true, true, false, true, true, true, true, true, true, true, false, false, false]) true true rfl rfl (by kernel_rfl) ?_ ?_
                  · have hLq : L ≤ w.heap.size := Nat.le_trans hL5 (hS.vs (L, w5) (by simp)).2.2.2.1
                    refine m_buildSliceW ([]) hA hS rfl rfl (run_bs0 Tryz.underlying28 Tryz.sizeOf43) ?_
                    clear hA a; intro a bE w hA hbE hgE hS
                    replace hQ := hQ.gr hgE
                    have hbEL : L ≤ bE := by omega
                    clear hLq
                    refine m_nil (m_then ⟨fun _ => hQ, ?_⟩)
                    refine d_two 3 10 (bi := [true, true, true, true, true, true, true, true, true, true, false, false, false, false]) (bj := [true, true, true, false, true, true, true, true, true, true, true, false, false, false]) true true rfl rfl (by kernel_rfl) ?_ ?_
                    · have hSp : St w ([cB bE [] 43] ++ [cB bM [.int .i64 who] 3, cB b2 [.int .i64 0, .int .i64 0, .slice none 0 0] 30, cB b1 [.int .i64 H.tick, .int .i64 (H.last + 1), .slice (some A5) n5 c5] 30]) [(L, w5), (0, w0)] := hS.perm (List.perm_iff_count.2 fun a => by simp only [List.count_append, List.count_cons, List.count_nil]; omega)
                      have hLq : L ≤ w.heap.size := Nat.le_trans hL5 (hS.vs (L, w5) (by simp)).2.2.2.1
                      refine m_appendG (bs := [cB bE [] 43]) 43 64 cs elemPR hA hSp (RowB.empty _ _ _) rfl rfl rfl Tryz.underlying28 hcsl (fun j u hj => ?_) hcs.one (by omega) (by decide) ?_
                      · obtain ⟨b9, o9, rfl, hK9, h9⟩ := hcsc A5 rfl j u hj
                        have ha : (⟨b9, o9, none⟩ : Addr).add j = ⟨b9, o9 + j, none⟩ := by unfold Addr.add; split <;> simp_all
                        rw [ha]
                        exact (hkk _ w hS).cell hK9 h9
                      clear hA hS hSp a; intro a w v1 bs1 hA hrow1 hwh1 hS
                      replace hQ : St w [cB b2 [.int .i64 0, .int .i64 0, .slice none 0 0] 30, cB b1 [.int .i64 H.tick, .int .i64 (H.last + 1), .slice (some A5) n5 c5] 30] [(L, w5), (0, w0)] := hS.sub (List.Sublist.trans (by simp : List.Sublist [cB b2 [.int .i64 0, .int .i64 0, .slice none 0 0] 30, cB b1 [.int .i64 H.tick, .int .i64 (H.last + 1), .slice (some A5) n5 c5] 30] [cB bM [.int .i64 who] 3, cB b2 [.int .i64 0, .int .i64 0, .slice none 0 0] 30, cB b1 [.int .i64 H.tick, .int .i64 (H.last + 1), .slice (some A5) n5 c5] 30]) (List.sublist_append_right _ _))
                      have hbs1 : ∀ z ∈ bs1, L ≤ z.b := fun z hz => by
                        rcases hwh1 z hz with ⟨u, hu, e⟩ | h
                        · simp at hu; subst hu; rw [← e]; exact hbEL
                        · omega
                      clear hLq hwh1
                      rw [Nat.zero_add, List.nil_append] at hrow1
                      replace hS : St w ([cB bM [.int .i64 who] 3, cB b2 [.int .i64 0, .int .i64 0, .slice none 0 0] 30, cB b1 [.int .i64 H.tick, .int .i64 (H.last + 1), .slice (some A5) n5 c5] 30] ++ bs1) [(L, w5), (0, w0)] := hS.perm (List.perm_iff_count.2 fun a => by simp only [List.count_append, List.count_cons, List.count_nil]; omega)
                      refine m_nil (m_then ⟨fun _ => hQ, ?_⟩)
                      refine d_one 10 (bs' := [true, true, true, true, true, true, true, true, true, true, true, false, false, false]) true rfl (by kernel_rfl) ?_
                      refine m_buildSliceW ([.int .i64 (H.last + 1), .int .i64 who, .slice (some ⟨bM, 0, none⟩) 1 1, .slice none 0 0]) hA hS rfl rfl (bs_ptyR _ _ _ _) ?_
                      clear hA a; intro a bP w hA hbP hgP hS
                      replace hQ := hQ.gr hgP
                      refine m_nil (m_then ⟨fun _ => hQ, ?_⟩)
                      refine d_one 11 (bs' := [true, true, true, true, true, true, true, true, true, true, true, true, false, false]) true rfl (by kernel_rfl) ?_
                      have hSp : St w (bs1 ++ [cB bP [.int .i64 (H.last + 1), .int .i64 who, .slice (some ⟨bM, 0, none⟩) 1 1, .slice none 0 0] 43, cB bM [.int .i64 who] 3, cB b2 [.int .i64 0, .int .i64 0, .slice none 0 0] 30, cB b1 [.int .i64 H.tick, .int .i64 (H.last + 1), .slice (some A5) n5 c5] 30]) [(L, w5), (0, w0)] := hS.perm (List.perm_iff_count.2 fun a => by simp only [List.count_append, List.count_cons, List.count_nil]; omega)
                      have hLq : L ≤ w.heap.size := Nat.le_trans hL5 (hS.vs (L, w5) (by simp)).2.2.2.1
                      refine m_appendG (bs := bs1) 43 64 [.int .i64 (H.last + 1), .int .i64 who, .slice (some ⟨bM, 0, none⟩) 1 1, .slice none 0 0] elemPR hA hSp hrow1 rfl rfl rfl Tryz.underlying28 rfl (hS.cellsM (b := bP) (cs := [.int .i64 (H.last + 1), .int .i64 who, .slice (some ⟨bM, 0, none⟩) 1 1, .slice none 0 0]) (T := 43) (by simp)) (List.all_eq_true.1 rfl) (by omega) (by decide) ?_
                      clear hA hS hSp a; intro a w v2 bs2 hA hrow2 hwh2 hS
                      have hbs2 : ∀ z ∈ bs2, L ≤ z.b := fun z hz => by
                        rcases hwh2 z hz with ⟨u, hu, e⟩ | h
                        · rw [← e]; exact hbs1 u hu
                        · omega
                      obtain ⟨A8, c8, rfl⟩ := hrow2.shape
                      have hSn : St w ([cB b2 [.int .i64 0, .int .i64 0, .slice none 0 0] 30, cB b1 [.int .i64 H.tick, .int .i64 (H.last + 1), .slice (some A5) n5 c5] 30, cB bM [.int .i64 who] 3, cB bP [.int .i64 (H.last + 1), .int .i64 who, .slice (some ⟨bM, 0, none⟩) 1 1, .slice none 0 0] 43] ++ bs2) [(L, w5), (0, w0)] := hS.perm (List.perm_iff_count.2 fun a => by simp only [List.count_append, List.count_cons, List.count_nil]; omega)
                      replace hQ : St w [cB b2 [.int .i64 0, .int .i64 0, .slice none 0 0] 30, cB b1 [.int .i64 H.tick, .int .i64 (H.last + 1), .slice (some A5) n5 c5] 30] [(L, w5), (0, w0)] := hSn.sub (List.sublist_append_left [_, _] _)
                      replace hS := hSn
                      clear hSn
                      refine m_nil (m_then ⟨fun _ => hQ, ?_⟩)
                      refine d_take 12 (bs' := [true, true, true, true, true, true, true, true, true, true, true, true, true, false]) hA rfl rfl (by kernel_rfl) (fun _ _ _ h => h) (Y.fieldAddr (k := 2) rfl Tryz.underlying30 rfl rfl Tryz.sizeOf28) rfl ?_
                      clear hA a; intro a hA
                      refine d_one 13 (bs' := [true, true, true, true, true, true, true, true, true, true, true, true, true, true]) false rfl (by kernel_rfl) ?_
                      refine m_store 1 hA hS rfl rfl Tryz.sizeOf28 rfl rfl rfl rfl ?_
                      clear hS; intro w hS
                      refine m_nil (m_then ⟨fun h => (by cases h), ?_⟩)
                      refine d_done (by kernel_rfl) ?_
                      refine m_then ?_
                      exact ⟨_, _, _, bs2, bM, hA.keep [4, 2] rfl, hrow2, hbs2, hbML, hS.sub (.cons_cons _ (.cons_cons _ (.cons_cons _ (.cons _ (List.Sublist.refl _)))))⟩
                    · refine m_buildSliceW ([.int .i64 (H.last + 1), .int .i64 who, .slice (some ⟨bM, 0, none⟩) 1 1, .slice none 0 0]) hA hS rfl rfl (bs_ptyR _ _ _ _) ?_
                      clear hA a; intro a bP w hA hbP hgP hS
                      replace hQ := hQ.gr hgP
                      refine m_nil (m_then ⟨fun _ => hQ, ?_⟩)
                      refine d_one 3 (bs' := [true, true, true, true, true, true, true, true, true, true, true, false, false, false]) true rfl (by kernel_rfl) ?_
                      have hSp : St w ([cB bE [] 43] ++ [cB bP [.int .i64 (H.last + 1), .int .i64 who, .slice (some ⟨bM, 0, none⟩) 1 1, .slice none 0 0] 43, cB bM [.int .i64 who] 3, cB b2 [.int .i64 0, .int .i64 0, .slice none 0 0] 30, cB b1 [.int .i64 H.tick, .int .i64 (H.last + 1), .slice (some A5) n5 c5] 30]) [(L, w5), (0, w0)] := hS.perm (List.perm_iff_count.2 fun a => by simp only [List.count_append, List.count_cons, List.count_nil]; omega)
                      have hLq : L ≤ w.heap.size := Nat.le_trans hL5 (hS.vs (L, w5) (by simp)).2.2.2.1
                      refine m_appendG (bs := [cB bE [] 43]) 43 64 cs elemPR hA hSp (RowB.empty _ _ _) rfl rfl rfl Tryz.underlying28 hcsl (fun j u hj => ?_) hcs.one (by omega) (by decide) ?_
                      · obtain ⟨b9, o9, rfl, hK9, h9⟩ := hcsc A5 rfl j u hj
                        have ha : (⟨b9, o9, none⟩ : Addr).add j = ⟨b9, o9 + j, none⟩ := by unfold Addr.add; split <;> simp_all
                        rw [ha]
                        exact (hkk _ w hS).cell hK9 h9
                      clear hA hS hSp a; intro a w v1 bs1 hA hrow1 hwh1 hS
                      replace hQ : St w [cB b2 [.int .i64 0, .int .i64 0, .slice none 0 0] 30, cB b1 [.int .i64 H.tick, .int .i64 (H.last + 1), .slice (some A5) n5 c5] 30] [(L, w5), (0, w0)] := hS.sub (List.Sublist.trans (by simp : List.Sublist [cB b2 [.int .i64 0, .int .i64 0, .slice none 0 0] 30, cB b1 [.int .i64 H.tick, .int .i64 (H.last + 1), .slice (some A5) n5 c5] 30] [cB bP [.int .i64 (H.last + 1), .int .i64 who, .slice (some ⟨bM, 0, none⟩) 1 1, .slice none 0 0] 43, cB bM [.int .i64 who] 3, cB b2 [.int .i64 0, .int .i64 0, .slice none 0 0] 30, cB b1 [.int .i64 H.tick, .int .i64 (H.last + 1), .slice (some A5) n5 c5] 30]) (List.sublist_append_right _ _))
                      have hbs1 : ∀ z ∈ bs1, L ≤ z.b := fun z hz => by
                        rcases hwh1 z hz with ⟨u, hu, e⟩ | h
                        · simp at hu; subst hu; rw [← e]; exact hbEL
                        · omega
                      clear hLq hwh1
                      rw [Nat.zero_add, List.nil_append] at hrow1
                      replace hS : St w ([cB bP [.int .i64 (H.last + 1), .int .i64 who, .slice (some ⟨bM, 0, none⟩) 1 1, .slice none 0 0] 43, cB bM [.int .i64 who] 3, cB b2 [.int .i64 0, .int .i64 0, .slice none 0 0] 30, cB b1 [.int .i64 H.tick, .int .i64 (H.last + 1), .slice (some A5) n5 c5] 30] ++ bs1) [(L, w5), (0, w0)] := hS.perm (List.perm_iff_count.2 fun a => by simp only [List.count_append, List.count_cons, List.count_nil]; omega)
                      refine m_nil (m_then ⟨fun _ => hQ, ?_⟩)
                      refine d_one 11 (bs' := [true, true, true, true, true, true, true, true, true, true, true, true, false, false]) true rfl (by kernel_rfl) ?_
                      have hSp : St w (bs1 ++ [cB bP [.int .i64 (H.last + 1), .int .i64 who, .slice (some ⟨bM, 0, none⟩) 1 1, .slice none 0 0] 43, cB bM [.int .i64 who] 3, cB b2 [.int .i64 0, .int .i64 0, .slice none 0 0] 30, cB b1 [.int .i64 H.tick, .int .i64 (H.last + 1), .slice (some A5) n5 c5] 30]) [(L, w5), (0, w0)] := hS.perm (List.perm_iff_count.2 fun a => by simp only [List.count_append, List.count_cons, List.count_nil]; omega)
                      have hLq : L ≤ w.heap.size := Nat.le_trans hL5 (hS.vs (L, w5) (by simp)).2.2.2.1
                      refine m_appendG (bs := bs1) 43 64 [.int .i64 (H.last + 1), .int .i64 who, .slice (some ⟨bM, 0, none⟩) 1 1, .slice none 0 0] elemPR hA hSp hrow1 rfl rfl rfl Tryz.underlying28 rfl (hS.cellsM (b := bP) (cs := [.int .i64 (H.last + 1), .int .i64 who, .slice (some ⟨bM, 0, none⟩) 1 1, .slice none 0 0]) (T := 43) (by simp)) (List.all_eq_true.1 rfl) (by omega) (by decide) ?_
                      clear hA hS hSp a; intro a w v2 bs2 hA hrow2 hwh2 hS
                      have hbs2 : ∀ z ∈ bs2, L ≤ z.b := fun z hz => by
                        rcases hwh2 z hz with ⟨u, hu, e⟩ | h
                        · rw [← e]; exact hbs1 u hu
                        · omega
                      obtain ⟨A8, c8, rfl⟩ := hrow2.shape
                      have hSn : St w ([cB b2 [.int .i64 0, .int .i64 0, .slice none 0 0] 30, cB b1 [.int .i64 H.tick, .int .i64 (H.last + 1), .slice (some A5) n5 c5] 30, cB bM [.int .i64 who] 3, cB bP [.int .i64 (H.last + 1), .int .i64 who, .slice (some ⟨bM, 0, none⟩) 1 1, .slice none 0 0] 43] ++ bs2) [(L, w5), (0, w0)] := hS.perm (List.perm_iff_count.2 fun a => by simp only [List.count_append, List.count_cons, List.count_nil]; omega)
                      replace hQ : St w [cB b2 [.int .i64 0, .int .i64 0, .slice none 0 0] 30, cB b1 [.int .i64 H.tick, .int .i64 (H.last + 1), .slice (some A5) n5 c5] 30] [(L, w5), (0, w0)] := hSn.sub (List.sublist_append_left [_, _] _)
                      replace hS := hSn
                      clear hSn
                      refine m_nil (m_then ⟨fun _ => hQ, ?_⟩)
                      refine d_take 12 (bs' := [true, true, true, true, true, true, true, true, true, true, true, true, true, false]) hA rfl rfl (by kernel_rfl) (fun _ _ _ h => h) (Y.fieldAddr (k := 2) rfl Tryz.underlying30 rfl rfl Tryz.sizeOf28) rfl ?_
                      clear hA a; intro a hA
                      refine d_one 13 (bs' := [true, true, true, true, true, true, true, true, true, true, true, true, true, true]) false rfl (by kernel_rfl) ?_
                      refine m_store 1 hA hS rfl rfl Tryz.sizeOf28 rfl rfl rfl rfl ?_
                      clear hS; intro w hS
                      refine m_nil (m_then ⟨fun h => (by cases h), ?_⟩)
                      refine d_done (by kernel_rfl) ?_
                      refine m_then ?_
                      exact ⟨_, _, _, bs2, bM, hA.keep [4, 2] rfl, hrow2, hbs2, hbML, hS.sub (.cons_cons _ (.cons_cons _ (.cons_cons _ (.cons _ (List.Sublist.refl _)))))⟩
                  · refine m_buildSliceW ([.int .i64 (H.last + 1), .int .i64 who, .slice (some ⟨bM, 0, none⟩) 1 1, .slice none 0 0]) hA hS rfl rfl (bs_ptyR _ _ _ _) ?_
                    clear hA a; intro a bP w hA hbP hgP hS
                    replace hQ := hQ.gr hgP
                    refine m_nil (m_then ⟨fun _ => hQ, ?_⟩)
                    refine d_one 0 (bs' := [true, true, true, false, true, true, true, true, true, true, true, false, false, false]) true rfl (by kernel_rfl) ?_
                    have hLq : L ≤ w.heap.size := Nat.le_trans hL5 (hS.vs (L, w5) (by simp)).2.2.2.1
                    refine m_buildSliceW ([]) hA hS rfl rfl (run_bs0 Tryz.underlying28 Tryz.sizeOf43) ?_
                    clear hA a; intro a bE w hA hbE hgE hS
                    replace hQ := hQ.gr hgE
                    have hbEL : L ≤ bE := by omega
                    clear hLq
                    refine m_nil (m_then ⟨fun _ => hQ, ?_⟩)
                    refine d_one 3 (bs' := [true, true, true, true, true, true, true, true, true, true, true, false, false, false]) true rfl (by kernel_rfl) ?_
                    have hSp : St w ([cB bE [] 43] ++ [cB bP [.int .i64 (H.last + 1), .int .i64 who, .slice (some ⟨bM, 0, none⟩) 1 1, .slice none 0 0] 43, cB bM [.int .i64 who] 3, cB b2 [.int .i64 0, .int .i64 0, .slice none 0 0] 30, cB b1 [.int .i64 H.tick, .int .i64 (H.last + 1), .slice (some A5) n5 c5] 30]) [(L, w5), (0, w0)] := hS.perm (List.perm_iff_count.2 fun a => by simp only [List.count_append, List.count_cons, List.count_nil]; omega)
                    have hLq : L ≤ w.heap.size := Nat.le_trans hL5 (hS.vs (L, w5) (by simp)).2.2.2.1
                    refine m_appendG (bs := [cB bE [] 43]) 43 64 cs elemPR hA hSp (RowB.empty _ _ _) rfl rfl rfl Tryz.underlying28 hcsl (fun j u hj => ?_) hcs.one (by omega) (by decide) ?_
                    · obtain ⟨b9, o9, rfl, hK9, h9⟩ := hcsc A5 rfl j u hj
                      have ha : (⟨b9, o9, none⟩ : Addr).add j = ⟨b9, o9 + j, none⟩ := by unfold Addr.add; split <;> simp_all
                      rw [ha]
                      exact (hkk _ w hS).cell hK9 h9
                    clear hA hS hSp a; intro a w v1 bs1 hA hrow1 hwh1 hS
                    replace hQ : St w [cB b2 [.int .i64 0, .int .i64 0, .slice none 0 0] 30, cB b1 [.int .i64 H.tick, .int .i64 (H.last + 1), .slice (some A5) n5 c5] 30] [(L, w5), (0, w0)] := hS.sub (List.Sublist.trans (by simp : List.Sublist [cB b2 [.int .i64 0, .int .i64 0, .slice none 0 0] 30, cB b1 [.int .i64 H.tick, .int .i64 (H.last + 1), .slice (some A5) n5 c5] 30] [cB bP [.int .i64 (H.last + 1), .int .i64 who, .slice (some ⟨bM, 0, none⟩) 1 1, .slice none 0 0] 43, cB bM [.int .i64 who] 3, cB b2 [.int .i64 0, .int .i64 0, .slice none 0 0] 30, cB b1 [.int .i64 H.tick, .int .i64 (H.last + 1), .slice (some A5) n5 c5] 30]) (List.sublist_append_right _ _))
                    have hbs1 : ∀ z ∈ bs1, L ≤ z.b := fun z hz => by
                      rcases hwh1 z hz with ⟨u, hu, e⟩ | h
                      · simp at hu; subst hu; rw [← e]; exact hbEL
                      · omega
                    clear hLq hwh1
                    rw [Nat.zero_add, List.nil_append] at hrow1
                    replace hS : St w ([cB bP [.int .i64 (H.last + 1), .int .i64 who, .slice (some ⟨bM, 0, none⟩) 1 1, .slice none 0 0] 43, cB bM [.int .i64 who] 3, cB b2 [.int .i64 0, .int .i64 0, .slice none 0 0] 30, cB b1 [.int .i64 H.tick, .int .i64 (H.last + 1), .slice (some A5) n5 c5] 30] ++ bs1) [(L, w5), (0, w0)] := hS.perm (List.perm_iff_count.2 fun a => by simp only [List.count_append, List.count_cons, List.count_nil]; omega)
                    refine m_nil (m_then ⟨fun _ => hQ, ?_⟩)
                    refine d_one 11 (bs' := [true, true, true, true, true, true, true, true, true, true, true, true, false, false]) true rfl (by kernel_rfl) ?_
                    have hSp : St w (bs1 ++ [cB bP [.int .i64 (H.last + 1), .int .i64 who, .slice (some ⟨bM, 0, none⟩) 1 1, .slice none 0 0] 43, cB bM [.int .i64 who] 3, cB b2 [.int .i64 0, .int .i64 0, .slice none 0 0] 30, cB b1 [.int .i64 H.tick, .int .i64 (H.last + 1), .slice (some A5) n5 c5] 30]) [(L, w5), (0, w0)] := hS.perm (List.perm_iff_count.2 fun a => by simp only [List.count_append, List.count_cons, List.count_nil]; omega)
                    have hLq : L ≤ w.heap.size := Nat.le_trans hL5 (hS.vs (L, w5) (by simp)).2.2.2.1
                    refine m_appendG (bs := bs1) 43 64 [.int .i64 (H.last + 1), .int .i64 who, .slice (some ⟨bM, 0, none⟩) 1 1, .slice none 0 0] elemPR hA hSp hrow1 rfl rfl rfl Tryz.underlying28 rfl (hS.cellsM (b := bP) (cs := [.int .i64 (H.last + 1), .int .i64 who, .slice (some ⟨bM, 0, none⟩) 1 1, .slice none 0 0]) (T := 43) (by simp)) (List.all_eq_true.1 rfl) (by omega) (by decide) ?_
                    clear hA hS hSp a; intro a w v2 bs2 hA hrow2 hwh2 hS
                    have hbs2 : ∀ z ∈ bs2, L ≤ z.b := fun z hz => by
                      rcases hwh2 z hz with ⟨u, hu, e⟩ | h
                      · rw [← e]; exact hbs1 u hu
                      · omega
                    obtain ⟨A8, c8, rfl⟩ := hrow2.shape
                    have hSn : St w ([cB b2 [.int .i64 0, .int .i64 0, .slice none 0 0] 30, cB b1 [.int .i64 H.tick, .int .i64 (H.last + 1), .slice (some A5) n5 c5] 30, cB bM [.int .i64 who] 3, cB bP [.int .i64 (H.last + 1), .int .i64 who, .slice (some ⟨bM, 0, none⟩) 1 1, .slice none 0 0] 43] ++ bs2) [(L, w5), (0, w0)] := hS.perm (List.perm_iff_count.2 fun a => by simp only [List.count_append, List.count_cons, List.count_nil]; omega)
                    replace hQ : St w [cB b2 [.int .i64 0, .int .i64 0, .slice none 0 0] 30, cB b1 [.int .i64 H.tick, .int .i64 (H.last + 1), .slice (some A5) n5 c5] 30] [(L, w5), (0, w0)] := hSn.sub (List.sublist_append_left [_, _] _)
                    replace hS := hSn
                    clear hSn
                    refine m_nil (m_then ⟨fun _ => hQ, ?_⟩)
                    refine d_take 12 (bs' := [true, true, true, true, true, true, true, true, true, true, true, true, true, false]) hA rfl rfl (by kernel_rfl) (fun _ _ _ h => h) (Y.fieldAddr (k := 2) rfl Tryz.underlying30 rfl rfl Tryz.sizeOf28) rfl ?_
                    clear hA a; intro a hA
                    refine d_one 13 (bs' := [true, true, true, true, true, true, true, true, true, true, true, true, true, true]) false rfl (by kernel_rfl) ?_
                    refine m_store 1 hA hS rfl rfl Tryz.sizeOf28 rfl rfl rfl rfl ?_
                    clear hS; intro w hS
                    refine m_nil (m_then ⟨fun h => (by cases h), ?_⟩)
                    refine d_done (by kernel_rfl) ?_
                    refine m_then ?_
                    exact ⟨_, _, _, bs2, bM, hA.keep [4, 2] rfl, hrow2, hbs2, hbML, hS.sub (.cons_cons _ (.cons_cons _ (.cons_cons _ (.cons _ (List.Sublist.refl _)))))⟩
              · clear hA hS a; rintro a w ⟨A8, c8, m8, bs2, bM, hA, hrow, hbs, hbML, hS⟩
                refine m_seq ?_
                refine m_region ?_
                refine m1 hA hS (Y.loads rfl Tryz.isAgg30 Tryz.sizeOf30 (fun w h => h.cells (i := 1) rfl) rfl) rfl ?_
                clear hA a; intro a hA
                refine m_store 0 hA hS rfl rfl Tryz.sizeOf30 rfl rfl rfl rfl ?_
                clear hS; intro w hS
                refine m1 hA hS (Y.assign rfl) rfl ?_
                clear hA a; intro a hA
                refine m_nil ?_
                refine m_then ?_
                refine m_retc ?_
                refine m_retc2 0 hA hS Tryz.results67 rfl rfl rfl Tryz.isAgg30 Tryz.sizeOf30 ?_
                rw [hF]
                have hgw := hS.gr0 (w0 := w0) (by simp)
                have hkw := hkk _ w hS
                have hrow' := hrow
                obtain ⟨hrl, ⟨_, h0, _⟩ | ⟨gg, cap, cur, e9, rfl, hcap9, hmax9, hcur9, htk9⟩⟩ := hrow
                · omega
                obtain ⟨rfl, rfl, rfl⟩ := Value.slice.inj e9
                have hgb := hS.bx (cB gg cur 43) (by simp [setB])
                have hMb := hS.bx (cB bM [.int .i64 who] 3) (by simp [setB])
                have hggL : L ≤ gg := hbs (cB gg cur 43) (by simp)
                have hmem : IntsK (fun b => K b ∨ w0.heap.size ≤ b) w (some ⟨bM, 0, none⟩) 1 [who] := ⟨rfl, by omega, fun j x hj => by
                  match j, hj with
                  | 0, h => simp at h; subst h; exact ⟨bM, 0, rfl, .inr (by omega), by simp [World.cell?, hMb]⟩⟩
                have hnew : PtysCK (fun b => K b ∨ w0.heap.size ≤ b) w (cs ++ [.int .i64 (H.last + 1), .int .i64 who, .slice (some ⟨bM, 0, none⟩) 1 1, .slice none 0 0]) (H.ps.map (keptF H.tick who 0) ++ [⟨H.last + 1, who, [who], []⟩]) :=
                  (hcs.mv (fun b hb => hb.imp And.left (fun h => Nat.le_trans hL0 h)) hkw).app ⟨_, _, _, _, _, _, [], rfl, ⟨hmem, RowOf.nil⟩, rfl⟩
                have hlen : (H.ps.map (keptF H.tick who 0) ++ [(⟨H.last + 1, who, [who], []⟩ : Pty)]).length = n5 + 1 := by simp; omega
                have hres := hnew.row (b := gg) hgb (by rw [hlen]; exact htk9) (.inr (by omega)) (by rw [hlen]; omega)
                rw [hlen] at hres
                exact ⟨_, _, _, rfl, hgw, hres, hcap9⟩
end Go.Proofs.YtljkhijdaaconaaGreat