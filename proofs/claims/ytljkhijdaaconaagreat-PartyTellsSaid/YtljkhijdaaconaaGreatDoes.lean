/- Contract of `does`. -/
import Derived.Test.YtljkhijdaaconaaGreatOver
import Derived.Test.YtljkhijdaaconaaGreatOneF
import Derived.Test.YtljkhijdaaconaaGreatAwake
import Derived.Test.YtljkhijdaaconaaGreatGiven
set_option linter.unusedVariables false
set_option linter.unusedSectionVars false
namespace Go.Proofs.YtljkhijdaaconaaGreat
open Go.RowKit

def doesF (H : Hall) (k a b : Int) : Hall := if (oneF H k a b).2 = 0 then (oneF H k a b).1 else H
/-- A hall and true are given. -/
def GivesD (N : Hall) (K : Nat → Prop) (w : World) (e : Ending) (w' : World) : Prop :=
  ∃ A n c, e = .returned (.tuple #[.agg #[.int .i64 N.tick, .int .i64 N.last, .slice A n c], .bool true]) ∧ Gr w w' ∧ PtysK (fun b => K b ∨ w.heap.size ≤ b) w' A n N.ps ∧ n ≤ c
theorem PtysB.lens : ∀ {ps : List Pty} {cs : List Value} {bs : List Bx}, PtysB cs ps bs → ∀ p ∈ ps, p.mem.length ≤ 100 ∧ p.inv.length ≤ 100
  | [], _, _, _, p, hp => by cases hp
  | q :: ps, cs, bs, h, p, hp => by
    obtain ⟨c, cs', b1, b2, _, _, ⟨mv, iv, bm, bi, _, _, _, _, h3, h4⟩, h2⟩ := h
    rcases List.mem_cons.1 hp with rfl | hp
    · exact ⟨h3, h4⟩
    · exact PtysB.lens h2 p hp
theorem HallB.lens {pv : Value} {ps : List Pty} {bs : List Bx} (h : HallB pv ps bs) : ps.length ≤ 100 ∧ ∀ p ∈ ps, p.mem.length ≤ 100 ∧ p.inv.length ≤ 100 := by
  obtain ⟨cs, b1, b2, _, h2, _, h3⟩ := h
  exact ⟨h3, h2.lens⟩
theorem spl_midR {cl c cr rest c' : List Value} (h : c'.length = c.length) : spl ((cl ++ (c ++ cr)) ++ rest) cl.length c' = (cl ++ (c' ++ cr)) ++ rest := by
  unfold spl
  rw [h]
  simp [List.append_assoc, List.drop_append]
theorem St.freshZ {w : World} {X bs : List Bx} {V : List (Nat × World)} (h : St w (X ++ bs) V) : Fresh 0 w bs :=
  ⟨fun x hx => h.bx x (List.mem_append_right _ hx), (List.pairwise_append.1 h.nd).2.1, fun _ _ => Nat.zero_le _⟩
theorem eqg_b (op : BinOp) (x y : Operand) (a b : Bool) (w : World) : (eqGuard op 4 x y (.bool a) (.bool b)).run Tryz.prog w = .ok () w := by go_simp
theorem neq_b (a b : Bool) (w : World) : (binOp .neq 4 (.bool a) (.bool b)).run Tryz.prog w = .ok (.bool (a != b)) w := by cases a <;> cases b <;> go_simp
theorem Y.neB {C : World → Prop} {n : Nat} {s : List (Nat × Value)} {T' ty : TypeId} {x y : Operand} {a b : Bool} (hx : ev s x = some (.bool a)) (hy : ev s y = some (.bool b)) : Y Tryz.prog C n s (.binOp .neq 4 x y T') ty (.bool (a != b)) :=
  Y.bin hx hy (fun w => eqg_b _ _ _ _ _ w) (fun w => neq_b _ _ w)
theorem HallB.z {A : Option Addr} {n c : Nat} {ps : List Pty} {bs : List Bx} {w : World} (h : HallB (.slice A n c) ps bs) (hf : Fresh 0 w bs) : Ptys w A n ps := by
  obtain ⟨A', c', e, hP⟩ := h.read hf
  simp only [Value.slice.injEq] at e
  obtain ⟨rfl, rfl, rfl⟩ := e
  exact hP
theorem PtyB.z {M I : Option Addr} {m mc i ic : Nat} {x y : Value} {p : Pty} {bs : List Bx} {w : World} (h : PtyB [x, y, .slice M m mc, .slice I i ic] p bs) (hf : Fresh 0 w bs) : PtyIn w M m I i p := by
  obtain ⟨M', mc', I', ic', e, hP⟩ := h.read hf
  simp only [List.cons.injEq, Value.slice.injEq, and_true] at e
  obtain ⟨_, _, ⟨rfl, rfl, rfl⟩, ⟨rfl, rfl, rfl⟩⟩ := e
  exact hP
theorem mid_getR {cl c cr rest : List Value} {o i : Nat} {u : Value} (ho : cl.length = o) (h : c[i]? = some u) : ((cl ++ (c ++ cr)) ++ rest)[o + i]? = some u := by
  subst ho
  have hi := (List.getElem?_eq_some_iff.1 h).1
  rw [List.append_assoc, List.getElem?_append_right (by omega), Nat.add_sub_cancel_left, List.append_assoc, List.getElem?_append_left hi, h]
theorem perm_in {X bl b br : List Bx} {x : Bx} : (X ++ (x :: (bl ++ (b ++ br)))).Perm (x :: (b ++ ((bl ++ br) ++ X))) := by
  refine (List.perm_append_comm).trans (List.Perm.cons _ ?_)
  rw [← List.append_assoc b]
  exact (List.perm_append_comm_assoc _ _ _).append_right X
theorem perm_out {X u v : List Bx} : (X ++ (u ++ v)).Perm (v ++ (X ++ u)) := by
  rw [← List.append_assoc]; exact List.perm_append_comm
theorem ofF_len {a : Int} {H : Hall} (hq : ∀ p ∈ H.ps, p.mem.length ≤ 100 ∧ p.inv.length ≤ 100) : (ofF a H).1.mem.length ≤ 100 ∧ (ofF a H).1.inv.length ≤ 100 := by
  unfold ofF
  split
  · split
    · simp [noPty]
    · split
      · rename_i p h
        exact hq p (List.mem_of_getElem? h)
      · simp [noPty]
  · simp [noPty]
set_option maxRecDepth 100000 in
set_option maxHeartbeats 4000000 in
theorem does_c (K : Nat → Prop) (H : Hall) (A : Option Addr) (n c : Nat) (k a' b : Int) (w0 : World) (hP : PtysK K w0 A n H.ps) (hn : n ≤ 100) (hq : ∀ p ∈ H.ps, p.mem.length ≤ 100 ∧ p.inv.length ≤ 100) (hcap : n ≤ c) :
    Calls Tryz.prog 10 #[.agg #[.int .i64 H.tick, .int .i64 H.last, .slice A n c], .agg #[.int .i64 k, .int .i64 a', .int .i64 b]] w0 (GivesD (doesF H k a' b) K w0) := by
  have hPl := hP.lt
  have hl : H.ps.length = n := hP.len
  obtain ⟨O, f, hO⟩ : ∃ O f, oneF H k a' b = (O, f) := ⟨_, _, rfl⟩
  obtain ⟨p, okb, hO2⟩ : ∃ p okb, ofF a' H = (p, okb) := ⟨_, _, rfl⟩
  obtain ⟨sh, cde, hO3⟩ : ∃ sh cde, shareF b a' H = (sh, cde) := ⟨_, _, rfl⟩
  have hpl := ofF_len (a := a') hq
  rw [hO2] at hpl
  have hD : doesF H k a' b = if f = 0 then O else H := by unfold doesF; rw [hO]
  rw [hD]
  refine m_enter Tryz.func10 rfl Tryz.ntmps10 (Nat.le_of_ble_eq_true rfl) ?_
  intro a hA
  have hS := St.start w0
  refine m_seq ?_
  refine m_region ?_
  refine m_box hA hS rfl rfl ?_
  clear hA hS a; intro a b1 w hA hleb1 hgb1 hS
  refine m_box hA hS rfl rfl ?_
  clear hA hS a; intro a b2 w hA hleb2 hgb2 hS
  refine m_alloc hA hS Tryz.zeroValue30 rfl ?_
  clear hA hS a; intro a b3 w hA hleb3 hgb3 hS
  refine m1 hA hS (Y.assign rfl) rfl ?_
  clear hA a; intro a hA
  refine m_nil ?_
  refine m_then ?_
  refine m_seq ?_
  refine m_region ?_
  refine m1 hA hS (Y.loads rfl Tryz.isAgg30 Tryz.sizeOf30 (fun w h => h.cells (i := 2) rfl) rfl) rfl ?_
  clear hA a; intro a hA
  refine m_call hA Tryz.call30 rfl rfl ((taken_c H A n c _ (hP.z.gr (hS.gr0 (by simp))) hn hq).mono ?_)
  rintro e w ⟨pv1, bs1, rfl, hT, hg1, hf1⟩
  refine ⟨_, rfl, ?_⟩
  clear hA a; intro a hA
  obtain ⟨A1, c1, rfl, hP1⟩ := hT.read hf1
  obtain ⟨lo1, v1, hP1, hS⟩ := hS.keepP hg1 hP1
  clear hT hf1 hg1
  refine m_alloc hA hS Tryz.zeroValue24 rfl ?_
  clear hA hS a; intro a b4 w hA hleb4 hgb4 hS
  refine m_store 0 hA hS rfl rfl Tryz.sizeOf24 rfl rfl rfl rfl ?_
  clear hS; intro w hS
  refine m_nil ?_
  refine m_then ?_
  refine m_seq ?_
  refine m_region ?_
  refine m1 hA hS (Y.loads rfl Tryz.isAgg24 Tryz.sizeOf24 (fun w h => h.cells (i := 0) rfl) rfl) rfl ?_
  clear hA a; intro a hA
  refine m1 hA hS (Y.loads rfl Tryz.isAgg36 Tryz.sizeOf36 (fun w h => h.cells (i := 2) rfl) rfl) rfl ?_
  clear hA a; intro a hA
  refine m_call hA Tryz.call13 rfl rfl ((one_f H A1 _ c1 k a' b _ (PtysL.zero (hP1.ov (hS.at (by simp))))).mono ?_)
  rintro e w ⟨pv2, bs2, rfl, hH2, hg2, hf2⟩
  refine ⟨_, rfl, ?_⟩
  clear hA a; intro a hA
  rw [hO] at hA hH2
  replace hS := hS.freshR hg2 hf2
  obtain ⟨hOn, hOq⟩ := hH2.lens
  obtain ⟨A2, c2, rfl⟩ := hH2.shape
  clear hg2 hf2
  refine m1 hA hS (Y.move rfl) rfl ?_
  clear hA a; intro a hA
  refine m1 hA hS (Y.extract rfl rfl) rfl ?_
  clear hA a; intro a hA
  refine m1 hA hS (Y.extract rfl rfl) rfl ?_
  clear hA a; intro a hA
  refine m_alloc hA hS Tryz.zeroValue24 rfl ?_
  clear hA hS a; intro a b5 w hA hleb5 hgb5 hS
  refine m_store 0 hA hS rfl rfl Tryz.sizeOf24 rfl rfl rfl rfl ?_
  clear hS; intro w hS
  refine m1 hA hS (Y.assign rfl) rfl ?_
  clear hA a; intro a hA
  refine m_nil ?_
  refine m_then ?_
  refine m_seq ?_
  refine m_region ?_
  refine m1 hA hS (Y.loads rfl Tryz.isAgg30 Tryz.sizeOf30 (fun w h => h.cells (i := 4) rfl) rfl) rfl ?_
  clear hA a; intro a hA
  refine m1 hA hS (Y.loads rfl Tryz.isAgg36 Tryz.sizeOf36 (fun w h => h.cells (i := 3) rfl) rfl) rfl ?_
  clear hA a; intro a hA
  have hg0 := hS.gr0 (w0 := w0) (by simp)
  obtain ⟨L, hL⟩ : ∃ L, L = w.heap.size := ⟨_, rfl⟩
  have hL0 : w0.heap.size ≤ L := by rw [hL]; exact hg0.size
  refine m_call hA Tryz.call31 rfl rfl ((sameR_c (fun b => K b ∧ b < w0.heap.size) H A n c k a' b _ (hPl.mv (fun _ h => h) ((hS.gr0 (w0 := w0) (by simp)).keeps _)) hn hq hcap).mono ?_)
  rintro e w ⟨A3, n3, c3, rfl, hg3, hP3, hc3⟩
  refine ⟨_, rfl, ?_⟩
  clear hA a; intro a hA
  rw [hO] at hA hP3
  have hgg := hg0.tr hg3
  replace hS := hS.call hg3
  rw [← hL] at hP3 hS
  obtain ⟨w3, hw3⟩ : ∃ w3, w3 = w := ⟨_, rfl⟩
  rw [← hw3] at hP3 hgg
  have hS3 : St w ([cB b5 [.int .i64 O.tick, .int .i64 O.last, .slice A2 O.ps.length c2] 24, cB b4 [.int .i64 H.tick, .int .i64 H.last, .slice A1 H.ps.length c1] 24, cB b3 [.int .i64 0, .int .i64 0, .slice none 0 0] 30, cB b2 [.int .i64 k, .int .i64 a', .int .i64 b] 36, cB b1 [.int .i64 H.tick, .int .i64 H.last, .slice A n c] 30] ++ bs2) [(L, w3), (lo1, v1), (0, w0)] := by rw [hw3]; exact hS
  replace hS := hS3
  clear hS3 hw3 hg3 hL hg0
  have hkk : ∀ (B : List Bx) (V : List (Nat × World)) x, (L, w3) ∈ V → (0, w0) ∈ V → St x B V → Keeps (fun b => (K b ∧ b < w0.heap.size) ∨ L ≤ b) w3 x := fun B V x h1 h2 h => St.keeps2 (L := L) K h h2 h1 hgg
  have hn3 : O.ps.length = n3 := hP3.len
  refine m1 hA hS (Y.move rfl) rfl ?_
  clear hA a; intro a hA
  refine m1 hA hS (Y.extract rfl rfl) rfl ?_
  clear hA a; intro a hA
  refine m1 hA hS (Y.extract rfl rfl) rfl ?_
  clear hA a; intro a hA
  refine m_alloc hA hS Tryz.zeroValue30 rfl ?_
  clear hA hS a; intro a b6 w hA hleb6 hgb6 hS
  refine m_store 0 hA hS rfl rfl Tryz.sizeOf30 rfl rfl rfl rfl ?_
  clear hS; intro w hS
  refine m1 hA hS (Y.assign rfl) rfl ?_
  clear hA a; intro a hA
  refine m_nil ?_
  refine m_then ?_
  refine m_seq ?_
  refine m_region ?_
  refine m1 hA hS (Y.loads rfl Tryz.isAgg24 Tryz.sizeOf24 (fun w h => h.cells (i := 2) rfl) rfl) rfl ?_
  clear hA a; intro a hA
  refine m1 hA hS (Y.fieldAddr (k := 1) rfl Tryz.underlying36 rfl rfl Tryz.sizeOf3) rfl ?_
  clear hA a; intro a hA
  refine m1 hA hS (Y.load rfl Tryz.isAgg3 (fun w h => h.cell (i := 4) rfl rfl)) rfl ?_
  clear hA a; intro a hA
  refine m_call hA Tryz.call16 rfl rfl ((of_f a' H A1 _ c1 _ (PtysL.zero (hP1.ov (hS.at (by simp))))).mono ?_)
  rintro e w ⟨cp, bsp, rfl, hp, hg4, hf4⟩
  refine ⟨_, rfl, ?_⟩
  clear hA a; intro a hA
  rw [hO2] at hA hp
  replace hS := hS.freshR hg4 hf4
  have hp' := hp
  obtain ⟨mvp, ivp, bmp, bip, rfl, hmp, hip, hbp, _, _⟩ := hp'
  obtain ⟨Mp, mcp, rfl⟩ := hmp.shape
  obtain ⟨Ip, icp, rfl⟩ := hip.shape
  clear hg4 hf4 hmp hip
  refine m1 hA hS (Y.move rfl) rfl ?_
  clear hA a; intro a hA
  refine m1 hA hS (Y.extract rfl rfl) rfl ?_
  clear hA a; intro a hA
  refine m1 hA hS (Y.extract rfl rfl) rfl ?_
  clear hA a; intro a hA
  refine m_alloc hA hS Tryz.zeroValue46 rfl ?_
  clear hA hS a; intro a b7 w hA hleb7 hgb7 hS
  refine m_store 0 hA hS rfl rfl Tryz.sizeOf46 rfl rfl rfl rfl ?_
  clear hS; intro w hS
  refine m1 hA hS (Y.assign rfl) rfl ?_
  clear hA a; intro a hA
  refine m_nil ?_
  refine m_then ?_
  refine m_seq ?_
  refine m_region ?_
  refine m1 hA hS (Y.loads rfl Tryz.isAgg30 Tryz.sizeOf30 (fun w h => h.cells (i := 6) rfl) rfl) rfl ?_
  clear hA a; intro a hA
  refine m1 hA hS (Y.fieldAddr (k := 1) rfl Tryz.underlying36 rfl rfl Tryz.sizeOf3) rfl ?_
  clear hA a; intro a hA
  refine m1 hA hS (Y.load rfl Tryz.isAgg3 (fun w h => h.cell (i := 5) rfl rfl)) rfl ?_
  clear hA a; intro a hA
  refine m_call hA Tryz.call32 rfl rfl ((refOf_c (fun b => K b ∧ b < w0.heap.size) a' H A n c _ (hPl.mv (fun _ h => h) ((hS.gr0 (w0 := w0) (by simp)).keeps _)) hq).mono ?_)
  rintro e w ⟨Mq, mq, mcq, Iq, iq, icq, rfl, hg5, hq5⟩
  refine ⟨_, rfl, ?_⟩
  clear hA a; intro a hA
  rw [hO2] at hA hq5
  replace hS := hS.gr hg5
  obtain ⟨w5, hw5⟩ : ∃ w5, w5 = w := ⟨_, rfl⟩
  rw [← hw5] at hq5
  have hg5' : Gr w0 w5 := by rw [hw5]; exact hS.gr0 (by simp)
  clear hw5 hg5
  have hkq : ∀ (B : List Bx) (V : List (Nat × World)) x, (0, w0) ∈ V → St x B V → Keeps (fun b => K b ∧ b < w0.heap.size) w5 x := fun B V x h1 h b hb _ => by
    rw [h.at h1 b (Nat.zero_le _) hb.2, hg5'.block b hb.2]
  refine m1 hA hS (Y.move rfl) rfl ?_
  clear hA a; intro a hA
  refine m1 hA hS (Y.extract rfl rfl) rfl ?_
  clear hA a; intro a hA
  refine m1 hA hS (Y.extract rfl rfl) rfl ?_
  clear hA a; intro a hA
  refine m_alloc hA hS Tryz.zeroValue43 rfl ?_
  clear hA hS a; intro a b8 w hA hleb8 hgb8 hS
  refine m_store 0 hA hS rfl rfl Tryz.sizeOf43 rfl rfl rfl rfl ?_
  clear hS; intro w hS
  refine m1 hA hS (Y.assign rfl) rfl ?_
  clear hA a; intro a hA
  refine m_nil ?_
  refine m_then ?_
  refine m_seq ?_
  refine m_region ?_
  refine m1 hA hS (Y.loads rfl Tryz.isAgg24 Tryz.sizeOf24 (fun w h => h.cells (i := 4) rfl) rfl) rfl ?_
  clear hA a; intro a hA
  refine m1 hA hS (Y.fieldAddr (k := 2) rfl Tryz.underlying36 rfl rfl Tryz.sizeOf3) rfl ?_
  clear hA a; intro a hA
  refine m1 hA hS (Y.load rfl Tryz.isAgg3 (fun w h => h.cell (i := 6) rfl rfl)) rfl ?_
  clear hA a; intro a hA
  refine m1 hA hS (Y.fieldAddr (k := 1) rfl Tryz.underlying36 rfl rfl Tryz.sizeOf3) rfl ?_
  clear hA a; intro a hA
  refine m1 hA hS (Y.load rfl Tryz.isAgg3 (fun w h => h.cell (i := 6) rfl rfl)) rfl ?_
  clear hA a; intro a hA
  refine m_call hA Tryz.call20 rfl rfl ((share_c b a' H A1 _ c1 _ (PtysL.zero (hP1.ov (hS.at (by simp))))).mono ?_)
  rintro e w ⟨A7, n7, c7, rfl, hg7, hI7⟩
  refine ⟨_, rfl, ?_⟩
  clear hA a; intro a hA
  rw [hO3] at hA hI7
  obtain ⟨lo7, v7, hI7, hS⟩ := hS.keepI hg7 hI7
  clear hg7
  refine m1 hA hS (Y.move rfl) rfl ?_
  clear hA a; intro a hA
  refine m1 hA hS (Y.extract rfl rfl) rfl ?_
  clear hA a; intro a hA
  refine m1 hA hS (Y.extract rfl rfl) rfl ?_
  clear hA a; intro a hA
  refine m1 hA hS (Y.assign rfl) rfl ?_
  clear hA a; intro a hA
  refine m1 hA hS (Y.assign rfl) rfl ?_
  clear hA a; intro a hA
  refine m_nil ?_
  refine m_then ?_
  refine m_seq ?_
  refine m_region ?_
  refine m1 hA hS (Y.loads rfl Tryz.isAgg30 Tryz.sizeOf30 (fun w h => h.cells (i := 7) rfl) rfl) rfl ?_
  clear hA a; intro a hA
  refine m1 hA hS (Y.fieldAddr (k := 2) rfl Tryz.underlying36 rfl rfl Tryz.sizeOf3) rfl ?_
  clear hA a; intro a hA
  refine m1 hA hS (Y.load rfl Tryz.isAgg3 (fun w h => h.cell (i := 6) rfl rfl)) rfl ?_
  clear hA a; intro a hA
  refine m1 hA hS (Y.fieldAddr (k := 1) rfl Tryz.underlying36 rfl rfl Tryz.sizeOf3) rfl ?_
  clear hA a; intro a hA
  refine m1 hA hS (Y.load rfl Tryz.isAgg3 (fun w h => h.cell (i := 6) rfl rfl)) rfl ?_
  clear hA a; intro a hA
  refine m_call hA Tryz.call33 rfl rfl ((refShare_c b a' H A n c _ (hP.z.gr (hS.gr0 (by simp))) hq).mono ?_)
  rintro e w ⟨A8, n8, c8, rfl, hg8, hI8⟩
  refine ⟨_, rfl, ?_⟩
  clear hA a; intro a hA
  rw [hO3] at hA hI8
  obtain ⟨lo8, v8, hI8, hS⟩ := hS.keepI hg8 hI8
  clear hg8
  refine m1 hA hS (Y.move rfl) rfl ?_
  clear hA a; intro a hA
  refine m1 hA hS (Y.extract rfl rfl) rfl ?_
  clear hA a; intro a hA
  refine m1 hA hS (Y.extract rfl rfl) rfl ?_
  clear hA a; intro a hA
  refine m1 hA hS (Y.assign rfl) rfl ?_
  clear hA a; intro a hA
  refine m1 hA hS (Y.assign rfl) rfl ?_
  clear hA a; intro a hA
  refine m_nil ?_
  refine m_then ?_
  refine m_seq ?_
  refine m_seq ?_
  have hS8 : St w ([cB b8 [.int .i64 p.id, .int .i64 p.leader, .slice Mq mq mcq, .slice Iq iq icq] 43, cB b7 [.int .i64 p.id, .int .i64 p.leader, .slice Mp p.mem.length mcp, .slice Ip p.inv.length icp] 46, cB b6 [.int .i64 O.tick, .int .i64 O.last, .slice A3 n3 c3] 30, cB b5 [.int .i64 O.tick, .int .i64 O.last, .slice A2 O.ps.length c2] 24, cB b4 [.int .i64 H.tick, .int .i64 H.last, .slice A1 H.ps.length c1] 24, cB b3 [.int .i64 0, .int .i64 0, .slice none 0 0] 30, cB b2 [.int .i64 k, .int .i64 a', .int .i64 b] 36, cB b1 [.int .i64 H.tick, .int .i64 H.last, .slice A n c] 30] ++ (bs2 ++ bsp)) [(lo8, v8), (lo7, v7), (L, w3), (lo1, v1), (0, w0)] := hS
  replace hS := hS8
  clear hS8
  simp only at hpl hH2 hP3 hp hq5 hOn hOq
  have hz2 : ∀ (V : List (Nat × World)) x, St x ([cB b8 [.int .i64 p.id, .int .i64 p.leader, .slice Mq mq mcq, .slice Iq iq icq] 43, cB b7 [.int .i64 p.id, .int .i64 p.leader, .slice Mp p.mem.length mcp, .slice Ip p.inv.length icp] 46, cB b6 [.int .i64 O.tick, .int .i64 O.last, .slice A3 n3 c3] 30, cB b5 [.int .i64 O.tick, .int .i64 O.last, .slice A2 O.ps.length c2] 24, cB b4 [.int .i64 H.tick, .int .i64 H.last, .slice A1 H.ps.length c1] 24, cB b3 [.int .i64 0, .int .i64 0, .slice none 0 0] 30, cB b2 [.int .i64 k, .int .i64 a', .int .i64 b] 36, cB b1 [.int .i64 H.tick, .int .i64 H.last, .slice A n c] 30] ++ (bs2 ++ bsp)) V → Ptys x A2 O.ps.length O.ps := fun V x h => hH2.z (St.freshZ h).left
  have hzp : ∀ (V : List (Nat × World)) x, St x ([cB b8 [.int .i64 p.id, .int .i64 p.leader, .slice Mq mq mcq, .slice Iq iq icq] 43, cB b7 [.int .i64 p.id, .int .i64 p.leader, .slice Mp p.mem.length mcp, .slice Ip p.inv.length icp] 46, cB b6 [.int .i64 O.tick, .int .i64 O.last, .slice A3 n3 c3] 30, cB b5 [.int .i64 O.tick, .int .i64 O.last, .slice A2 O.ps.length c2] 24, cB b4 [.int .i64 H.tick, .int .i64 H.last, .slice A1 H.ps.length c1] 24, cB b3 [.int .i64 0, .int .i64 0, .slice none 0 0] 30, cB b2 [.int .i64 k, .int .i64 a', .int .i64 b] 36, cB b1 [.int .i64 H.tick, .int .i64 H.last, .slice A n c] 30] ++ (bs2 ++ bsp)) V → PtyIn x Mp p.mem.length Ip p.inv.length p := fun V x h => hp.z (St.freshZ h).right
  have hqm : p.mem.length = mq := hq5.mem.len
  have hqi : p.inv.length = iq := hq5.inv.len
  have e1 : decide (f ≠ f) = false := by simp
  have e2 : (!decide (O = O)) = false := by simp
  have e3 : (okb != okb) = false := by simp
  have e4 : (!decide (p = p)) = false := by simp
  have e5 : decide (cde ≠ cde) = false := by simp
  have e6 : (!decide (sh = sh)) = false := by simp
  refine d_regionS [4, 5, 16, 17, 34, 36] [0, 1, 2, 3, 4, 5, 8, 9, 10, 11, 12, 13, 14, 15, 16, 17, 20, 21, 22, 23, 24, 25, 26, 27, 28, 29, 31, 32, 33, 34, 36, 38, 39] hS rfl 40 [false, false, false, false, false, false, false, false, false, false, false, false, false, false, false, false, false, false, false, false, false, false, false, false, false, false, false, false, false, false, false, false, false, false, false, false, false, false, false, false] rfl rfl ?_
  clear hS; intro w hS _
  have hQ := hS
  refine d_take 0 (bs' := [true, false, false, false, false, false, false, false, false, false, false, false, false, false, false, false, false, false, false, false, false, false, false, false, false, false, false, false, false, false, false, false, false, false, false, false, false, false, false, false]) hA rfl rfl (by kernel_rfl) (fun _ _ _ h => h) (Y.move rfl) rfl ?_
  clear hA a; intro a hA
  refine d_take 1 (bs' := [true, true, false, false, false, false, false, false, false, false, false, false, false, false, false, false, false, false, false, false, false, false, false, false, false, false, false, false, false, false, false, false, false, false, false, false, false, false, false, false]) hA rfl rfl (by kernel_rfl) (fun _ _ _ h => h) (Y.move rfl) rfl ?_
  clear hA a; intro a hA
  refine d_take 2 (bs' := [true, true, true, false, false, false, false, false, false, false, false, false, false, false, false, false, false, false, false, false, false, false, false, false, false, false, false, false, false, false, false, false, false, false, false, false, false, false, false, false]) hA rfl rfl (by kernel_rfl) (fun _ _ _ h => h) (Y.neI rfl rfl) rfl ?_
  clear hA a; intro a hA
  refine d_take 3 (bs' := [true, true, true, true, false, false, false, false, false, false, false, false, false, false, false, false, false, false, false, false, false, false, false, false, false, false, false, false, false, false, false, false, false, false, false, false, false, false, false, false]) hA rfl rfl (by kernel_rfl) (fun _ _ _ h => h) (Y.move rfl) rfl ?_
  clear hA a; intro a hA
  refine d_loadg 4 (bs' := [true, true, true, true, true, false, false, false, false, false, false, false, false, false, false, false, false, false, false, false, false, false, false, false, false, false, false, false, false, false, false, false, false, false, false, false, false, false, false, false]) (dj := 69) hA hQ rfl rfl rfl e1 rfl rfl rfl (by kernel_rfl) (fun _ _ _ h => h) (Y.loads rfl Tryz.isAgg24 Tryz.sizeOf24 (fun w h => h.cells (i := 3) rfl) rfl) rfl ?_
  clear hA a; intro a hA
  refine d_loadg 5 (bs' := [true, true, true, true, true, true, false, false, false, false, false, false, false, false, false, false, false, false, false, false, false, false, false, false, false, false, false, false, false, false, false, false, false, false, false, false, false, false, false, false]) (dj := 69) hA hQ rfl rfl rfl e1 rfl rfl rfl (by kernel_rfl) (fun _ _ _ h => h) (Y.loads rfl Tryz.isAgg30 Tryz.sizeOf30 (fun w h => h.cells (i := 2) rfl) rfl) rfl ?_
  clear hA a; intro a hA
  refine d_one 6 (bs' := [true, true, true, true, true, true, true, false, false, false, false, false, false, false, false, false, false, false, false, false, false, false, false, false, false, false, false, false, false, false, false, false, false, false, false, false, false, false, false, false]) true rfl (by kernel_rfl) ?_
  refine m_callg hA (dj := 69) rfl rfl rfl e1 Tryz.call30 rfl rfl ((taken_c O A3 n3 c3 _ (PtysK.z (hP3.mv (fun _ h => h) (hkk _ _ _ (by simp) (by simp) hS))) (by omega) hOq).mono ?_)
  rintro e w ⟨pv9, bs9, rfl, hT9, hg9, hf9⟩
  refine ⟨_, rfl, ?_⟩
  clear hA a; intro a hA
  replace hQ := hQ.gr hg9
  obtain ⟨A9, c9, rfl, hP9⟩ := hT9.read hf9
  obtain ⟨lo9, v9, hP9, hS⟩ := hS.keepP hg9 hP9
  clear hT9 hf9 hg9
  refine m_nil (m_then ⟨fun _ => hQ, ?_⟩)
  refine d_one 7 (bs' := [true, true, true, true, true, true, true, true, false, false, false, false, false, false, false, false, false, false, false, false, false, false, false, false, false, false, false, false, false, false, false, false, false, false, false, false, false, false, false, false]) true rfl (by kernel_rfl) ?_
  refine m_callbg (dj := 69) hA hS rfl rfl rfl e1 Tryz.call34 rfl rfl (same_c O O A2 O.ps.length c2 A9 O.ps.length c9 _ (hz2 _ _ hS) (PtysL.zero (hP9.ov (hS.at (by simp))))) ?_
  clear hA hS a; intro a w hA hS hg
  replace hQ := hQ.gr hg
  refine m_nil (m_then ⟨fun _ => hQ, ?_⟩)
  refine d_takeg 8 (bs' := [true, true, true, true, true, true, true, true, true, false, false, false, false, false, false, false, false, false, false, false, false, false, false, false, false, false, false, false, false, false, false, false, false, false, false, false, false, false, false, false]) (dj := 69) hA rfl rfl rfl e1 rfl rfl (by kernel_rfl) (fun _ _ _ h => h) (Y.not rfl) rfl ?_
  clear hA a; intro a hA
  refine d_take 9 (bs' := [true, true, true, true, true, true, true, true, true, true, false, false, false, false, false, false, false, false, false, false, false, false, false, false, false, false, false, false, false, false, false, false, false, false, false, false, false, false, false, false]) hA rfl rfl (by kernel_rfl) (fun _ _ _ h => h) (Y.pickF' rfl e1 rfl) rfl ?_
  clear hA a; intro a hA
  refine d_take 10 (bs' := [true, true, true, true, true, true, true, true, true, true, true, false, false, false, false, false, false, false, false, false, false, false, false, false, false, false, false, false, false, false, false, false, false, false, false, false, false, false, false, false]) hA rfl rfl (by kernel_rfl) (fun _ _ _ h => h) (Y.move rfl) rfl ?_
  clear hA a; intro a hA
  refine d_takeg 11 (bs' := [true, true, true, true, true, true, true, true, true, true, true, true, false, false, false, false, false, false, false, false, false, false, false, false, false, false, false, false, false, false, false, false, false, false, false, false, false, false, false, false]) (dj := 76) hA rfl rfl rfl e2 rfl rfl (by kernel_rfl) (fun _ _ _ h => h) (Y.move rfl) rfl ?_
  clear hA a; intro a hA
  refine d_takeg 12 (bs' := [true, true, true, true, true, true, true, true, true, true, true, true, true, false, false, false, false, false, false, false, false, false, false, false, false, false, false, false, false, false, false, false, false, false, false, false, false, false, false, false]) (dj := 76) hA rfl rfl rfl e2 rfl rfl (by kernel_rfl) (fun _ _ _ h => h) (Y.move rfl) rfl ?_
  clear hA a; intro a hA
  refine d_takeg 13 (bs' := [true, true, true, true, true, true, true, true, true, true, true, true, true, true, false, false, false, false, false, false, false, false, false, false, false, false, false, false, false, false, false, false, false, false, false, false, false, false, false, false]) (dj := 76) hA rfl rfl rfl e2 rfl rfl (by kernel_rfl) (fun _ _ _ h => h) (Y.neB rfl rfl) rfl ?_
  clear hA a; intro a hA
  refine d_take 14 (bs' := [true, true, true, true, true, true, true, true, true, true, true, true, true, true, true, false, false, false, false, false, false, false, false, false, false, false, false, false, false, false, false, false, false, false, false, false, false, false, false, false]) hA rfl rfl (by kernel_rfl) (fun _ _ _ h => h) (Y.pickF' rfl e2 rfl) rfl ?_
  clear hA a; intro a hA
  refine d_take 15 (bs' := [true, true, true, true, true, true, true, true, true, true, true, true, true, true, true, true, false, false, false, false, false, false, false, false, false, false, false, false, false, false, false, false, false, false, false, false, false, false, false, false]) hA rfl rfl (by kernel_rfl) (fun _ _ _ h => h) (Y.move rfl) rfl ?_
  clear hA a; intro a hA
  refine d_loadg 16 (bs' := [true, true, true, true, true, true, true, true, true, true, true, true, true, true, true, true, true, false, false, false, false, false, false, false, false, false, false, false, false, false, false, false, false, false, false, false, false, false, false, false]) (dj := 81) hA hQ rfl rfl rfl e3 rfl rfl rfl (by kernel_rfl) (fun _ _ _ h => h) (Y.loads rfl Tryz.isAgg46 Tryz.sizeOf46 (fun w h => h.cells (i := 1) rfl) rfl) rfl ?_
  clear hA a; intro a hA
  refine d_loadg 17 (bs' := [true, true, true, true, true, true, true, true, true, true, true, true, true, true, true, true, true, true, false, false, false, false, false, false, false, false, false, false, false, false, false, false, false, false, false, false, false, false, false, false]) (dj := 81) hA hQ rfl rfl rfl e3 rfl rfl rfl (by kernel_rfl) (fun _ _ _ h => h) (Y.loads rfl Tryz.isAgg43 Tryz.sizeOf43 (fun w h => h.cells (i := 0) rfl) rfl) rfl ?_
  clear hA a; intro a hA
  refine d_one 18 (bs' := [true, true, true, true, true, true, true, true, true, true, true, true, true, true, true, true, true, true, true, false, false, false, false, false, false, false, false, false, false, false, false, false, false, false, false, false, false, false, false, false]) true rfl (by kernel_rfl) ?_
  refine m_callg hA (dj := 81) rfl rfl rfl e3 Tryz.call36 rfl rfl ((takenParty_c p Mq mq mcq Iq iq icq _ (PtyInK.z (hq5.mv (fun _ h => h) (hkq _ _ _ (by simp) hS))) (by omega) (by omega)).mono ?_)
  rintro e w ⟨cc, bs10, rfl, hT10, hg10, hf10⟩
  refine ⟨_, rfl, ?_⟩
  clear hA a; intro a hA
  replace hQ := hQ.gr hg10
  obtain ⟨M10, mc10, I10, ic10, rfl, hin10⟩ := hT10.read hf10
  obtain ⟨lo10, v10, hin10, hS⟩ := hS.keepY hg10 hin10
  clear hT10 hf10 hg10
  refine m_nil (m_then ⟨fun _ => hQ, ?_⟩)
  refine d_one 19 (bs' := [true, true, true, true, true, true, true, true, true, true, true, true, true, true, true, true, true, true, true, true, false, false, false, false, false, false, false, false, false, false, false, false, false, false, false, false, false, false, false, false]) true rfl (by kernel_rfl) ?_
  refine m_callbg (dj := 81) hA hS rfl rfl rfl e3 Tryz.call35 rfl rfl (sameParty_c p p Mp _ mcp Ip _ icp M10 _ mc10 I10 _ ic10 _ (hzp _ _ hS) (PtyInL.zero (hin10.ov (hS.at (by simp))))) ?_
  clear hA hS a; intro a w hA hS hg
  replace hQ := hQ.gr hg
  refine m_nil (m_then ⟨fun _ => hQ, ?_⟩)
  refine d_takeg 20 (bs' := [true, true, true, true, true, true, true, true, true, true, true, true, true, true, true, true, true, true, true, true, true, false, false, false, false, false, false, false, false, false, false, false, false, false, false, false, false, false, false, false]) (dj := 81) hA rfl rfl rfl e3 rfl rfl (by kernel_rfl) (fun _ _ _ h => h) (Y.not rfl) rfl ?_
  clear hA a; intro a hA
  refine d_take 21 (bs' := [true, true, true, true, true, true, true, true, true, true, true, true, true, true, true, true, true, true, true, true, true, true, false, false, false, false, false, false, false, false, false, false, false, false, false, false, false, false, false, false]) hA rfl rfl (by kernel_rfl) (fun _ _ _ h => h) (Y.pickF' rfl e3 rfl) rfl ?_
  clear hA a; intro a hA
  refine d_take 22 (bs' := [true, true, true, true, true, true, true, true, true, true, true, true, true, true, true, true, true, true, true, true, true, true, true, false, false, false, false, false, false, false, false, false, false, false, false, false, false, false, false, false]) hA rfl rfl (by kernel_rfl) (fun _ _ _ h => h) (Y.move rfl) rfl ?_
  clear hA a; intro a hA
  refine d_takeg 23 (bs' := [true, true, true, true, true, true, true, true, true, true, true, true, true, true, true, true, true, true, true, true, true, true, true, true, false, false, false, false, false, false, false, false, false, false, false, false, false, false, false, false]) (dj := 88) hA rfl rfl rfl e4 rfl rfl (by kernel_rfl) (fun _ _ _ h => h) (Y.move rfl) rfl ?_
  clear hA a; intro a hA
  refine d_takeg 24 (bs' := [true, true, true, true, true, true, true, true, true, true, true, true, true, true, true, true, true, true, true, true, true, true, true, true, true, false, false, false, false, false, false, false, false, false, false, false, false, false, false, false]) (dj := 88) hA rfl rfl rfl e4 rfl rfl (by kernel_rfl) (fun _ _ _ h => h) (Y.move rfl) rfl ?_
  clear hA a; intro a hA
  refine d_takeg 25 (bs' := [true, true, true, true, true, true, true, true, true, true, true, true, true, true, true, true, true, true, true, true, true, true, true, true, true, true, false, false, false, false, false, false, false, false, false, false, false, false, false, false]) (dj := 88) hA rfl rfl rfl e4 rfl rfl (by kernel_rfl) (fun _ _ _ h => h) (Y.neI rfl rfl) rfl ?_
  clear hA a; intro a hA
  refine d_take 26 (bs' := [true, true, true, true, true, true, true, true, true, true, true, true, true, true, true, true, true, true, true, true, true, true, true, true, true, true, true, false, false, false, false, false, false, false, false, false, false, false, false, false]) hA rfl rfl (by kernel_rfl) (fun _ _ _ h => h) (Y.pickF' rfl e4 rfl) rfl ?_
  clear hA a; intro a hA
  refine d_take 27 (bs' := [true, true, true, true, true, true, true, true, true, true, true, true, true, true, true, true, true, true, true, true, true, true, true, true, true, true, true, true, false, false, false, false, false, false, false, false, false, false, false, false]) hA rfl rfl (by kernel_rfl) (fun _ _ _ h => h) (Y.move rfl) rfl ?_
  clear hA a; intro a hA
  refine d_takeg 28 (bs' := [true, true, true, true, true, true, true, true, true, true, true, true, true, true, true, true, true, true, true, true, true, true, true, true, true, true, true, true, true, false, false, false, false, false, false, false, false, false, false, false]) (dj := 93) hA rfl rfl rfl e5 rfl rfl (by kernel_rfl) (fun _ _ _ h => h) (Y.move rfl) rfl ?_
  clear hA a; intro a hA
  refine d_takeg 29 (bs' := [true, true, true, true, true, true, true, true, true, true, true, true, true, true, true, true, true, true, true, true, true, true, true, true, true, true, true, true, true, true, false, false, false, false, false, false, false, false, false, false]) (dj := 93) hA rfl rfl rfl e5 rfl rfl (by kernel_rfl) (fun _ _ _ h => h) (Y.move rfl) rfl ?_
  clear hA a; intro a hA
  refine d_one 30 (bs' := [true, true, true, true, true, true, true, true, true, true, true, true, true, true, true, true, true, true, true, true, true, true, true, true, true, true, true, true, true, true, true, false, false, false, false, false, false, false, false, false]) true rfl (by kernel_rfl) ?_
  refine m_callbg (dj := 93) hA hS rfl rfl rfl e5 Tryz.call21 rfl rfl (sameInts_c A7 n7 c7 sh A8 n8 c8 sh _ (IntsL.zero (hI7.ov (hS.at (by simp)))) (IntsL.zero (hI8.ov (hS.at (by simp))))) ?_
  clear hA hS a; intro a w hA hS hg
  replace hQ := hQ.gr hg
  refine m_nil (m_then ⟨fun _ => hQ, ?_⟩)
  refine d_takeg 31 (bs' := [true, true, true, true, true, true, true, true, true, true, true, true, true, true, true, true, true, true, true, true, true, true, true, true, true, true, true, true, true, true, true, true, false, false, false, false, false, false, false, false]) (dj := 93) hA rfl rfl rfl e5 rfl rfl (by kernel_rfl) (fun _ _ _ h => h) (Y.not rfl) rfl ?_
  clear hA a; intro a hA
  refine d_take 32 (bs' := [true, true, true, true, true, true, true, true, true, true, true, true, true, true, true, true, true, true, true, true, true, true, true, true, true, true, true, true, true, true, true, true, true, false, false, false, false, false, false, false]) hA rfl rfl (by kernel_rfl) (fun _ _ _ h => h) (Y.pickF' rfl e5 rfl) rfl ?_
  clear hA a; intro a hA
  refine d_take 33 (bs' := [true, true, true, true, true, true, true, true, true, true, true, true, true, true, true, true, true, true, true, true, true, true, true, true, true, true, true, true, true, true, true, true, true, true, false, false, false, false, false, false]) hA rfl rfl (by kernel_rfl) (fun _ _ _ h => h) (Y.move rfl) rfl ?_
  clear hA a; intro a hA
  refine d_loadg 34 (bs' := [true, true, true, true, true, true, true, true, true, true, true, true, true, true, true, true, true, true, true, true, true, true, true, true, true, true, true, true, true, true, true, true, true, true, true, false, false, false, false, false]) (dj := 99) hA hQ rfl rfl rfl e6 rfl rfl rfl (by kernel_rfl) (fun _ _ _ h => h) (Y.loads rfl Tryz.isAgg24 Tryz.sizeOf24 (fun w h => h.cells (i := 4) rfl) rfl) rfl ?_
  clear hA a; intro a hA
  refine d_loadg 36 (bs' := [true, true, true, true, true, true, true, true, true, true, true, true, true, true, true, true, true, true, true, true, true, true, true, true, true, true, true, true, true, true, true, true, true, true, true, false, true, false, false, false]) (dj := 99) hA hQ rfl rfl rfl e6 rfl rfl rfl (by kernel_rfl) (fun _ _ _ h => h) (Y.loads rfl Tryz.isAgg30 Tryz.sizeOf30 (fun w h => h.cells (i := 7) rfl) rfl) rfl ?_
  clear hA a; intro a hA
  refine d_one 35 (bs' := [true, true, true, true, true, true, true, true, true, true, true, true, true, true, true, true, true, true, true, true, true, true, true, true, true, true, true, true, true, true, true, true, true, true, true, true, true, false, false, false]) true rfl (by kernel_rfl) ?_
  refine m_callbg (dj := 99) hA hS rfl rfl rfl e6 Tryz.call8 rfl rfl (valid_c H A1 _ c1 _ (PtysL.zero (hP1.ov (hS.at (by simp))))) ?_
  clear hA hS a; intro a w hA hS hg
  replace hQ := hQ.gr hg
  refine m_nil (m_then ⟨fun _ => hQ, ?_⟩)
  refine d_one 37 (bs' := [true, true, true, true, true, true, true, true, true, true, true, true, true, true, true, true, true, true, true, true, true, true, true, true, true, true, true, true, true, true, true, true, true, true, true, true, true, true, false, false]) true rfl (by kernel_rfl) ?_
  refine m_callbg (dj := 99) hA hS rfl rfl rfl e6 Tryz.call9 rfl rfl (refValid_c H A n c _ (hP.z.gr (hS.gr0 (by simp))) hq) ?_
  clear hA hS a; intro a w hA hS hg
  replace hQ := hQ.gr hg
  refine m_nil (m_then ⟨fun _ => hQ, ?_⟩)
  refine d_takeg 38 (bs' := [true, true, true, true, true, true, true, true, true, true, true, true, true, true, true, true, true, true, true, true, true, true, true, true, true, true, true, true, true, true, true, true, true, true, true, true, true, true, true, false]) (dj := 99) hA rfl rfl rfl e6 rfl rfl (by kernel_rfl) (fun _ _ _ h => h) (Y.neB rfl rfl) rfl ?_
  clear hA a; intro a hA
  refine d_take 39 (bs' := [true, true, true, true, true, true, true, true, true, true, true, true, true, true, true, true, true, true, true, true, true, true, true, true, true, true, true, true, true, true, true, true, true, true, true, true, true, true, true, true]) hA rfl rfl (by kernel_rfl) (fun _ _ _ h => h) (Y.pickF' rfl e6 rfl) rfl ?_
  clear hA a; intro a hA
  refine d_done (by kernel_rfl) ?_
  refine m_then ?_
  refine m_condF hA rfl ((by simp)) ?_
  refine m_skip ?_
  refine m_then ?_
  refine m_seq ?_
  refine m_region ?_
  have hS7 : St w (cB b7 [.int .i64 p.id, .int .i64 p.leader, .slice Mp p.mem.length mcp, .slice Ip p.inv.length icp] 46 :: (bsp ++ ([cB b6 [.int .i64 O.tick, .int .i64 O.last, .slice A3 n3 c3] 30, cB b5 [.int .i64 O.tick, .int .i64 O.last, .slice A2 O.ps.length c2] 24, cB b4 [.int .i64 H.tick, .int .i64 H.last, .slice A1 H.ps.length c1] 24, cB b3 [.int .i64 0, .int .i64 0, .slice none 0 0] 30, cB b2 [.int .i64 k, .int .i64 a', .int .i64 b] 36, cB b1 [.int .i64 H.tick, .int .i64 H.last, .slice A n c] 30] ++ bs2))) _ := (St.gone hS).perm (List.Perm.cons _ (perm_out (X := [cB b6 [.int .i64 O.tick, .int .i64 O.last, .slice A3 n3 c3] 30, cB b5 [.int .i64 O.tick, .int .i64 O.last, .slice A2 O.ps.length c2] 24, cB b4 [.int .i64 H.tick, .int .i64 H.last, .slice A1 H.ps.length c1] 24, cB b3 [.int .i64 0, .int .i64 0, .slice none 0 0] 30, cB b2 [.int .i64 k, .int .i64 a', .int .i64 b] 36, cB b1 [.int .i64 H.tick, .int .i64 H.last, .slice A n c] 30]) (u := bs2) (v := bsp)))
  refine m_call hA Tryz.call37 rfl rfl ((over_c b7 0 _ _ p bsp _ _ _ hS7 (fun j u h => by rw [Nat.zero_add]; exact h) hp).mono ?_)
  rintro e w ⟨cz, pz, bz, rfl, _, hSz⟩
  refine ⟨_, rfl, ?_⟩
  clear hA a; intro a hA
  clear hS7
  replace hS : St w ([cB b6 [.int .i64 O.tick, .int .i64 O.last, .slice A3 n3 c3] 30, cB b5 [.int .i64 O.tick, .int .i64 O.last, .slice A2 O.ps.length c2] 24, cB b4 [.int .i64 H.tick, .int .i64 H.last, .slice A1 H.ps.length c1] 24, cB b3 [.int .i64 0, .int .i64 0, .slice none 0 0] 30, cB b2 [.int .i64 k, .int .i64 a', .int .i64 b] 36, cB b1 [.int .i64 H.tick, .int .i64 H.last, .slice A n c] 30] ++ bs2) [(L, w3), (lo1, v1), (0, w0)] := (St.goneL (X := bz) hSz.gone).dropV (fun p hp => by
    simp only [List.mem_cons, List.not_mem_nil, or_false] at hp
    rcases hp with rfl | rfl | rfl <;> simp)
  clear hSz hz2 hzp
  refine m_nil ?_
  refine m_then ?_
  refine m_seq ?_
  refine m_seq ?_
  refine m_region ?_
  refine m1 hA hS (Y.assign rfl) rfl ?_
  clear hA a; intro a hA
  refine m_nil ?_
  refine m_then ?_
  refine m_block ?_
  refine m_loopX [10, 9, 7, 6, 5, 4, 2] rfl hA (((0 : Nat), O.ps, bs2)) (fun x => [(19, .int .i64 (x.1 : Int))]) (fun x => [cB b6 [.int .i64 O.tick, .int .i64 O.last, .slice A3 n3 c3] 30, cB b5 [.int .i64 O.tick, .int .i64 O.last, .slice A2 O.ps.length c2] 24, cB b4 [.int .i64 H.tick, .int .i64 H.last, .slice A1 H.ps.length c1] 24, cB b3 [.int .i64 0, .int .i64 0, .slice none 0 0] 30, cB b2 [.int .i64 k, .int .i64 a', .int .i64 b] 36, cB b1 [.int .i64 H.tick, .int .i64 H.last, .slice A n c] 30] ++ x.2.2) (fun _ => [(L, w3), (lo1, v1), (0, w0)]) (fun x => x.1 ≤ O.ps.length ∧ HallB (.slice A2 O.ps.length c2) x.2.1 x.2.2 ∧ x.2.1.length = O.ps.length) (fun x => O.ps.length - x.1) (ks := [19]) rfl hS (⟨Nat.zero_le _, hH2, rfl⟩) ?_
  clear hA hS a; rintro ⟨j, N, bs⟩ a w hA hS hj
  try dsimp only at hA
  try dsimp only at hS
  try dsimp only at hj
  obtain ⟨hj, hN, hNl⟩ := hj
  replace hA := hA.keep [19, 10, 9, 7, 6, 5, 4, 2] rfl
  refine m_seq ?_
  refine m_seq ?_
  refine m_region ?_
  refine m1 hA hS (Y.move rfl) rfl ?_
  clear hA a; intro a hA
  refine m1 hA hS (Y.fieldAddr (k := 2) rfl Tryz.underlying24 rfl rfl Tryz.sizeOf22) rfl ?_
  clear hA a; intro a hA
  refine m1 hA hS (Y.load rfl Tryz.isAgg22 (fun w h => h.cell (i := 1) rfl rfl)) rfl ?_
  clear hA a; intro a hA
  refine m1 hA hS (Y.lenSl rfl Tryz.underlying22) rfl ?_
  clear hA a; intro a hA
  refine m1 hA hS (Y.ltI rfl rfl) rfl ?_
  clear hA a; intro a hA
  refine m_nil ?_
  refine m_then ?_
  refine m_condP hA rfl (fun hlt => ?_) (fun hlt => ?_)
  · obtain ⟨g, cg, cs, rest, bp, eA, rfl, hPB, hr1, hr2, hr3, hr4⟩ := hN.row (by omega)
    simp only [Value.slice.injEq] at eA
    obtain ⟨rfl, _, rfl⟩ := eA
    obtain ⟨y, hy⟩ : ∃ y, N[j]? = some y := ⟨N[j], List.getElem?_eq_getElem (by omega)⟩
    obtain ⟨cl, c4, cr, bl, b', br, rfl, rfl, k1, k2, k3, hcl⟩ := hPB.focus hy
    refine m_skip ?_
    refine m_then ?_
    refine m_seq ?_
    refine m_block ?_
    refine m_region ?_
    refine m1 hA hS (Y.fieldAddr (k := 2) rfl Tryz.underlying24 rfl rfl Tryz.sizeOf22) rfl ?_
    clear hA a; intro a hA
    refine m1 hA hS (Y.load rfl Tryz.isAgg22 (fun w h => h.cell (i := 1) rfl rfl)) rfl ?_
    clear hA a; intro a hA
    refine m1 hA hS (Y.move rfl) rfl ?_
    clear hA a; intro a hA
    refine m1 hA hS (Y.indexAddrN rfl rfl Tryz.underlying22 Tryz.sizeOf46 (by omega)) rfl ?_
    clear hA a; intro a hA
    have hSp : St w (cB g ((cl ++ (c4 ++ cr)) ++ rest) 46 :: (b' ++ ((bl ++ br) ++ [cB b6 [.int .i64 O.tick, .int .i64 O.last, .slice A3 n3 c3] 30, cB b5 [.int .i64 O.tick, .int .i64 O.last, .slice (some ⟨g, 0, none⟩) O.ps.length c2] 24, cB b4 [.int .i64 H.tick, .int .i64 H.last, .slice A1 H.ps.length c1] 24, cB b3 [.int .i64 0, .int .i64 0, .slice none 0 0] 30, cB b2 [.int .i64 k, .int .i64 a', .int .i64 b] 36, cB b1 [.int .i64 H.tick, .int .i64 H.last, .slice A n c] 30]))) [(L, w3), (lo1, v1), (0, w0)] := hS.perm perm_in
    refine m_call hA Tryz.call37 rfl rfl ((over_c g (0 + j * 4) _ c4 y b' _ _ _ hSp (fun i u h => mid_getR (by omega) h) k2).mono ?_)
    rintro e w ⟨c', p', bs', rfl, hp', hS⟩
    refine ⟨_, rfl, ?_⟩
    clear hA a; intro a hA
    clear hSp
    have hc4 : c'.length = c4.length := by rw [hp'.len, k2.len]
    rw [show 0 + j * 4 = cl.length from by omega, spl_midR hc4] at hS
    replace hS : St w ([cB b6 [.int .i64 O.tick, .int .i64 O.last, .slice A3 n3 c3] 30, cB b5 [.int .i64 O.tick, .int .i64 O.last, .slice (some ⟨g, 0, none⟩) O.ps.length c2] 24, cB b4 [.int .i64 H.tick, .int .i64 H.last, .slice A1 H.ps.length c1] 24, cB b3 [.int .i64 0, .int .i64 0, .slice none 0 0] 30, cB b2 [.int .i64 k, .int .i64 a', .int .i64 b] 36, cB b1 [.int .i64 H.tick, .int .i64 H.last, .slice A n c] 30] ++ (cB g ((cl ++ (c' ++ cr)) ++ rest) 46 :: (bl ++ (bs' ++ br)))) [(L, w3), (lo1, v1), (0, w0)] := hS.perm perm_in.symm
    refine m_nil ?_
    refine n_block ?_
    refine m_then ?_
    refine m_region ?_
    refine m1 hA hS (Y.move rfl) rfl ?_
    clear hA a; intro a hA
    refine m1 hA hS (Y.addI rfl rfl (by omega)) rfl ?_
    clear hA a; intro a hA
    refine m1 hA hS (Y.assign rfl) rfl ?_
    clear hA a; intro a hA
    refine m_nil ?_
    have hjN : j < N.length := by omega
    have hN' : HallB (.slice (some ⟨g, 0, none⟩) O.ps.length c2) (N.set j p') (cB g ((cl ++ (c' ++ cr)) ++ rest) 46 :: (bl ++ (bs' ++ br))) := by
      have := HallB.of (g := g) (c := c2) (rest := rest) (PtysB.unfocus hjN k1 hp' k3) (by rw [List.length_set]; exact hr1) hr2 (by simp only [List.length_append, hc4] at hr3 ⊢; exact hr3) (by rw [List.length_set]; exact hr4)
      rw [List.length_set, hNl] at this
      exact this
    exact m_then ⟨(j + 1, N.set j p', cB g ((cl ++ (c' ++ cr)) ++ rest) 46 :: (bl ++ (bs' ++ br))), by (try dsimp only); omega, hA.keep [19, 10, 9, 7, 6, 5, 4, 2] rfl, hS, by (try dsimp only); exact ⟨by omega, hN', by rw [List.length_set, hNl]⟩⟩
  · refine m_exit ?_
    refine x_then ?_
    refine x_then ?_
    refine x_block ?_
    refine m_then ?_
    refine m_seq ?_
    refine m_seq ?_
    refine m_region ?_
    refine m1 hA hS (Y.move rfl) rfl ?_
    clear hA a; intro a hA
    refine m1 hA hS (Y.neI rfl rfl) rfl ?_
    clear hA a; intro a hA
    refine m_nil ?_
    refine m_then ?_
    refine m_condP hA rfl (fun hne => ?_) (fun hne => ?_)
    · refine m_region ?_
      refine m1 hA hS (Y.loads rfl Tryz.isAgg30 Tryz.sizeOf30 (fun w h => h.cells (i := 5) rfl) rfl) rfl ?_
      clear hA a; intro a hA
      refine m_store 0 hA hS rfl rfl Tryz.sizeOf30 rfl rfl rfl rfl ?_
      clear hS; intro w hS
      refine m_nil ?_
      refine m_then ?_
      refine m_seq ?_
      refine d_region (fun w => St w ([cB b6 [.int .i64 H.tick, .int .i64 H.last, .slice A n c] 30, cB b5 [.int .i64 O.tick, .int .i64 O.last, .slice A2 O.ps.length c2] 24, cB b4 [.int .i64 H.tick, .int .i64 H.last, .slice A1 H.ps.length c1] 24, cB b2 [.int .i64 k, .int .i64 a', .int .i64 b] 36, cB b1 [.int .i64 H.tick, .int .i64 H.last, .slice A n c] 30] ++ bs) [(L, w3), (lo1, v1), (0, w0)]) [0, 1, 2] [0, 1, 2, 6] _ _ hS rfl 7 [false, false, false, false, false, false, false] rfl rfl ?_
      clear hS; intro w hS _
      have hQ : St w ([cB b6 [.int .i64 H.tick, .int .i64 H.last, .slice A n c] 30, cB b5 [.int .i64 O.tick, .int .i64 O.last, .slice A2 O.ps.length c2] 24, cB b4 [.int .i64 H.tick, .int .i64 H.last, .slice A1 H.ps.length c1] 24, cB b2 [.int .i64 k, .int .i64 a', .int .i64 b] 36, cB b1 [.int .i64 H.tick, .int .i64 H.last, .slice A n c] 30] ++ bs) [(L, w3), (lo1, v1), (0, w0)] := St.sub (B' := ([cB b6 [.int .i64 H.tick, .int .i64 H.last, .slice A n c] 30, cB b5 [.int .i64 O.tick, .int .i64 O.last, .slice A2 O.ps.length c2] 24, cB b4 [.int .i64 H.tick, .int .i64 H.last, .slice A1 H.ps.length c1] 24, cB b2 [.int .i64 k, .int .i64 a', .int .i64 b] 36, cB b1 [.int .i64 H.tick, .int .i64 H.last, .slice A n c] 30] ++ bs)) hS (.cons_cons _ (.cons_cons _ (.cons_cons _ (.cons _ (List.Sublist.refl _)))))
      refine d_load 0 (bs' := [true, false, false, false, false, false, false]) hA hQ rfl rfl rfl (by kernel_rfl) (fun _ _ _ h => h) (Y.loads rfl Tryz.isAgg30 Tryz.sizeOf30 (fun w h => h.cells (i := 0) rfl) rfl) rfl ?_
      clear hA a; intro a hA
      refine d_load 1 (bs' := [true, true, false, false, false, false, false]) hA hQ rfl rfl rfl (by kernel_rfl) (fun _ _ _ h => h) (Y.loads rfl Tryz.isAgg24 Tryz.sizeOf24 (fun w h => h.cells (i := 2) rfl) rfl) rfl ?_
      clear hA a; intro a hA
      refine d_load 2 (bs' := [true, true, true, false, false, false, false]) hA hQ rfl rfl rfl (by kernel_rfl) (fun _ _ _ h => h) (Y.loads rfl Tryz.isAgg30 Tryz.sizeOf30 (fun w h => h.cells (i := 4) rfl) rfl) rfl ?_
      clear hA a; intro a hA
      refine d_one 3 (bs' := [true, true, true, true, false, false, false]) true rfl (by kernel_rfl) ?_
      refine m_call hA Tryz.call30 rfl rfl ((taken_c H A n c _ (hP.z.gr (hS.gr0 (by simp))) hn hq).mono ?_)
      rintro e w ⟨pv11, bs11, rfl, hT11, hg11, hf11⟩
      refine ⟨_, rfl, ?_⟩
      clear hA a; intro a hA
      replace hQ := hQ.gr hg11
      obtain ⟨A11, c11, rfl, hP11⟩ := hT11.read hf11
      obtain ⟨lo11, v11, hP11, hS⟩ := hS.keepP hg11 hP11
      refine m_nil (m_then ⟨fun _ => hQ, ?_⟩)
      refine d_one 4 (bs' := [true, true, true, true, true, false, false]) true rfl (by kernel_rfl) ?_
      refine m_callb hA hS Tryz.call34 rfl rfl (same_c H H A1 _ c1 A11 _ c11 _ (PtysL.zero (hP1.ov (hS.at (by simp)))) (PtysL.zero (hP11.ov (hS.at (by simp))))) ?_
      clear hA hS a; intro a w hA hS hg
      replace hQ := hQ.gr hg
      refine m_nil (m_then ⟨fun _ => hQ, ?_⟩)
      refine d_one 5 (bs' := [true, true, true, true, true, true, false]) true rfl (by kernel_rfl) ?_
      refine m_store 3 hA hS rfl rfl Tryz.sizeOf30 rfl rfl rfl rfl ?_
      clear hS; intro w hS
      replace hQ := St.dropC (x := (lo11, v11)) (St.sub (B' := ([cB b6 [.int .i64 H.tick, .int .i64 H.last, .slice A n c] 30, cB b5 [.int .i64 O.tick, .int .i64 O.last, .slice A2 O.ps.length c2] 24, cB b4 [.int .i64 H.tick, .int .i64 H.last, .slice A1 H.ps.length c1] 24, cB b2 [.int .i64 k, .int .i64 a', .int .i64 b] 36, cB b1 [.int .i64 H.tick, .int .i64 H.last, .slice A n c] 30] ++ bs)) hS (.cons_cons _ (.cons_cons _ (.cons_cons _ (.cons _ (List.Sublist.refl _))))))
      refine m_nil (m_then ⟨fun _ => hQ, ?_⟩)
      refine d_take 6 (bs' := [true, true, true, true, true, true, true]) hA rfl rfl (by kernel_rfl) (fun _ _ _ h => h) (Y.assign rfl) rfl ?_
      clear hA a; intro a hA
      refine d_done (by kernel_rfl) ?_
      refine m_then ?_
      refine m_retc ?_
      refine m_retc2 3 hA hS Tryz.results10 rfl rfl rfl Tryz.isAgg30 Tryz.sizeOf30 ?_
      rw [if_neg hne]
      exact ⟨A, n, c, by rw [decide_eq_true rfl]; rfl, hS.gr0 (by simp), hP.mv (fun b hb => .inl hb) ((hS.gr0 (w0 := w0) (by simp)).keeps K), hcap⟩
    · have he : f = 0 := Classical.not_not.1 hne
      refine m_skip ?_
      refine m_then ?_
      refine m_seq ?_
      refine d_region (fun w => St w ([cB b6 [.int .i64 O.tick, .int .i64 O.last, .slice A3 n3 c3] 30, cB b5 [.int .i64 O.tick, .int .i64 O.last, .slice A2 O.ps.length c2] 24, cB b4 [.int .i64 H.tick, .int .i64 H.last, .slice A1 H.ps.length c1] 24, cB b2 [.int .i64 k, .int .i64 a', .int .i64 b] 36, cB b1 [.int .i64 H.tick, .int .i64 H.last, .slice A n c] 30] ++ bs) [(L, w3), (lo1, v1), (0, w0)]) [0, 1, 2] [0, 1, 2, 6] _ _ hS rfl 7 [false, false, false, false, false, false, false] rfl rfl ?_
      clear hS; intro w hS _
      have hQ : St w ([cB b6 [.int .i64 O.tick, .int .i64 O.last, .slice A3 n3 c3] 30, cB b5 [.int .i64 O.tick, .int .i64 O.last, .slice A2 O.ps.length c2] 24, cB b4 [.int .i64 H.tick, .int .i64 H.last, .slice A1 H.ps.length c1] 24, cB b2 [.int .i64 k, .int .i64 a', .int .i64 b] 36, cB b1 [.int .i64 H.tick, .int .i64 H.last, .slice A n c] 30] ++ bs) [(L, w3), (lo1, v1), (0, w0)] := St.sub (B' := ([cB b6 [.int .i64 O.tick, .int .i64 O.last, .slice A3 n3 c3] 30, cB b5 [.int .i64 O.tick, .int .i64 O.last, .slice A2 O.ps.length c2] 24, cB b4 [.int .i64 H.tick, .int .i64 H.last, .slice A1 H.ps.length c1] 24, cB b2 [.int .i64 k, .int .i64 a', .int .i64 b] 36, cB b1 [.int .i64 H.tick, .int .i64 H.last, .slice A n c] 30] ++ bs)) hS (.cons_cons _ (.cons_cons _ (.cons_cons _ (.cons _ (List.Sublist.refl _)))))
      refine d_load 0 (bs' := [true, false, false, false, false, false, false]) hA hQ rfl rfl rfl (by kernel_rfl) (fun _ _ _ h => h) (Y.loads rfl Tryz.isAgg30 Tryz.sizeOf30 (fun w h => h.cells (i := 0) rfl) rfl) rfl ?_
      clear hA a; intro a hA
      refine d_load 1 (bs' := [true, true, false, false, false, false, false]) hA hQ rfl rfl rfl (by kernel_rfl) (fun _ _ _ h => h) (Y.loads rfl Tryz.isAgg24 Tryz.sizeOf24 (fun w h => h.cells (i := 2) rfl) rfl) rfl ?_
      clear hA a; intro a hA
      refine d_load 2 (bs' := [true, true, true, false, false, false, false]) hA hQ rfl rfl rfl (by kernel_rfl) (fun _ _ _ h => h) (Y.loads rfl Tryz.isAgg30 Tryz.sizeOf30 (fun w h => h.cells (i := 4) rfl) rfl) rfl ?_
      clear hA a; intro a hA
      refine d_one 3 (bs' := [true, true, true, true, false, false, false]) true rfl (by kernel_rfl) ?_
      refine m_call hA Tryz.call30 rfl rfl ((taken_c H A n c _ (hP.z.gr (hS.gr0 (by simp))) hn hq).mono ?_)
      rintro e w ⟨pv11, bs11, rfl, hT11, hg11, hf11⟩
      refine ⟨_, rfl, ?_⟩
      clear hA a; intro a hA
      replace hQ := hQ.gr hg11
      obtain ⟨A11, c11, rfl, hP11⟩ := hT11.read hf11
      obtain ⟨lo11, v11, hP11, hS⟩ := hS.keepP hg11 hP11
      refine m_nil (m_then ⟨fun _ => hQ, ?_⟩)
      refine d_one 4 (bs' := [true, true, true, true, true, false, false]) true rfl (by kernel_rfl) ?_
      refine m_callb hA hS Tryz.call34 rfl rfl (same_c H H A1 _ c1 A11 _ c11 _ (PtysL.zero (hP1.ov (hS.at (by simp)))) (PtysL.zero (hP11.ov (hS.at (by simp))))) ?_
      clear hA hS a; intro a w hA hS hg
      replace hQ := hQ.gr hg
      refine m_nil (m_then ⟨fun _ => hQ, ?_⟩)
      refine d_one 5 (bs' := [true, true, true, true, true, true, false]) true rfl (by kernel_rfl) ?_
      refine m_store 3 hA hS rfl rfl Tryz.sizeOf30 rfl rfl rfl rfl ?_
      clear hS; intro w hS
      replace hQ := St.dropC (x := (lo11, v11)) (St.sub (B' := ([cB b6 [.int .i64 O.tick, .int .i64 O.last, .slice A3 n3 c3] 30, cB b5 [.int .i64 O.tick, .int .i64 O.last, .slice A2 O.ps.length c2] 24, cB b4 [.int .i64 H.tick, .int .i64 H.last, .slice A1 H.ps.length c1] 24, cB b2 [.int .i64 k, .int .i64 a', .int .i64 b] 36, cB b1 [.int .i64 H.tick, .int .i64 H.last, .slice A n c] 30] ++ bs)) hS (.cons_cons _ (.cons_cons _ (.cons_cons _ (.cons _ (List.Sublist.refl _))))))
      refine m_nil (m_then ⟨fun _ => hQ, ?_⟩)
      refine d_take 6 (bs' := [true, true, true, true, true, true, true]) hA rfl rfl (by kernel_rfl) (fun _ _ _ h => h) (Y.assign rfl) rfl ?_
      clear hA a; intro a hA
      refine d_done (by kernel_rfl) ?_
      refine m_then ?_
      refine m_retc ?_
      refine m_retc2 3 hA hS Tryz.results10 rfl rfl rfl Tryz.isAgg30 Tryz.sizeOf30 ?_
      rw [if_pos he]
      exact ⟨A3, n3, c3, by rw [decide_eq_true rfl]; rfl, hS.gr0 (by simp), hP3.mv (fun b hb => hb.imp (fun h => h.1) (fun h => Nat.le_trans hL0 h)) (hkk _ _ _ (by simp) (by simp) hS), hc3⟩
end Go.Proofs.YtljkhijdaaconaaGreat
