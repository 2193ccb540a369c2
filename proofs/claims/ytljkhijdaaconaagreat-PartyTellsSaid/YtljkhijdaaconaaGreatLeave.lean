/- Contracts: Delete, drop, leave. Contract: leave. -/
import Derived.Test.YtljkhijdaaconaaGreatCreate
set_option linter.unusedVariables false
namespace Go.Proofs.YtljkhijdaaconaaGreat
open Go.RowKit

theorem spl_end {l r c' : List Value} {o : Nat} (ho : l.length = o) : spl (l ++ r) o c' = l ++ (c' ++ r.drop c'.length) := by
  subst ho
  unfold spl
  rw [List.take_left' rfl, ← List.drop_drop, List.drop_left' rfl, List.append_assoc]
set_option maxRecDepth 100000 in
theorem delete_c (g n c i : Nat) (cl p4 cr rest : List Value) (B : List Bx) (V : List (Nat × World)) (w : World) (hS : St w (cB g ((cl ++ (p4 ++ cr)) ++ rest) 46 :: B) V)
    (h1 : cl.length = i * 4) (h2 : p4.length = 4) (h3 : cr.length = (n - (i + 1)) * 4) (hi : i < n) (hn : n ≤ c) (hl : ((cl ++ (p4 ++ cr)) ++ rest).length = c * 4) (hle : n ≤ 100) (hone : ∀ u ∈ cr, u.oneCell' = true) :
    Calls Tryz.prog 106 #[.slice (some ⟨g, 0, none⟩) n c, .int .i64 (i : Int), .int .i64 ((i : Int) + 1)] w fun e w' => ∃ rest', e = .returned (.slice (some ⟨g, 0, none⟩) (n - 1) c) ∧ St w' (cB g ((cl ++ cr) ++ rest') 46 :: B) V ∧ ((cl ++ cr) ++ rest').length = c * 4 := by
  refine m_enter Tryz.func106 rfl Tryz.ntmps106 (Nat.le_of_ble_eq_true rfl) ?_
  intro a hA
  refine m_seq ?_
  refine m_region ?_
  refine m1 hA hS (Y.assign rfl) rfl ?_
  clear hA a; intro a hA
  refine m_nil ?_
  refine m_then ?_
  refine m_seq ?_
  refine m_region ?_
  refine m1 hA hS (Y.move rfl) rfl ?_
  clear hA a; intro a hA
  refine m1 hA hS (Y.move rfl) rfl ?_
  clear hA a; intro a hA
  refine m1 hA hS (Y.move rfl) rfl ?_
  clear hA a; intro a hA
  refine m1 hA hS (Y.move rfl) rfl ?_
  clear hA a; intro a hA
  refine m1 hA hS (Y.lenSl rfl Tryz.underlying22) rfl ?_
  clear hA a; intro a hA
  refine m1 hA hS (Y.slLHM (l := i) (h := i + 1) (m := n) rfl rfl rfl rfl Tryz.underlying22 Tryz.sizeOf46 (by omega) (by omega) (by omega)) rfl ?_
  clear hA a; intro a hA
  refine m_nil ?_
  refine m_then ?_
  refine m_seq ?_
  refine m_seq ?_
  refine m_region ?_
  refine m1 hA hS (Y.move rfl) rfl ?_
  clear hA a; intro a hA
  refine m1 hA hS (Y.move rfl) rfl ?_
  clear hA a; intro a hA
  refine m1 hA hS (Y.eqI rfl rfl) rfl ?_
  clear hA a; intro a hA
  refine m_nil ?_
  refine m_then ?_
  refine m_condF hA rfl (decide_eq_false (by omega)) ?_
  refine m_skip ?_
  refine m_then ?_
  refine m_seq ?_
  refine m_region ?_
  refine m1 hA hS (Y.move rfl) rfl ?_
  clear hA a; intro a hA
  refine m1 hA hS (Y.lenSl rfl Tryz.underlying22) rfl ?_
  clear hA a; intro a hA
  refine m1 hA hS (Y.assign rfl) rfl ?_
  clear hA a; intro a hA
  refine m_nil ?_
  refine m_then ?_
  refine m_seq ?_
  refine d_regionS [] [0, 1, 2, 3, 4, 5, 7] hS rfl 8 [false, false, false, false, false, false, false, false] rfl rfl ?_
  clear hS; intro w hS _
  have hQ := hS
  refine d_take 0 (bs' := [true, false, false, false, false, false, false, false]) hA rfl rfl (by kernel_rfl) (fun _ _ _ h => h) (Y.move rfl) rfl ?_
  clear hA a; intro a hA
  refine d_take 1 (bs' := [true, true, false, false, false, false, false, false]) hA rfl rfl (by kernel_rfl) (fun _ _ _ h => h) (Y.move rfl) rfl ?_
  clear hA a; intro a hA
  refine d_take 2 (bs' := [true, true, true, false, false, false, false, false]) hA rfl rfl (by kernel_rfl) (fun _ _ _ h => h) (Y.slH (h := i) rfl rfl Tryz.underlying22 Tryz.sizeOf46 (by omega)) rfl ?_
  clear hA a; intro a hA
  refine d_take 3 (bs' := [true, true, true, true, false, false, false, false]) hA rfl rfl (by kernel_rfl) (fun _ _ _ h => h) (Y.move rfl) rfl ?_
  clear hA a; intro a hA
  refine d_take 4 (bs' := [true, true, true, true, true, false, false, false]) hA rfl rfl (by kernel_rfl) (fun _ _ _ h => h) (Y.move rfl) rfl ?_
  clear hA a; intro a hA
  refine d_take 5 (bs' := [true, true, true, true, true, true, false, false]) hA rfl rfl (by kernel_rfl) (fun _ _ _ h => h) (Y.slL (l := i + 1) rfl rfl Tryz.underlying22 Tryz.sizeOf46 (by omega)) rfl ?_
  clear hA a; intro a hA
  refine d_one 6 (bs' := [true, true, true, true, true, true, true, false]) false rfl (by kernel_rfl) ?_
  refine m_appendIn 0 46 64 cr (cl ++ (cr ++ (p4 ++ (cr ++ rest)).drop cr.length)) elemPty hA hS rfl rfl rfl Tryz.underlying22 rfl h3 ?_ hone (by omega) hl ?_ ?_
  · intro j u hj
    have hjl := (List.getElem?_eq_some_iff.1 hj).1
    rw [if_neg (by omega)]
    refine hS.cellsAt (i := 0) (xs := cr) rfl (fun j v hv => ?_) j u hj
    rw [List.append_assoc, List.append_assoc]
    exact get2 (l := cl) (m := p4) (c := cr) (r := rest) (by omega) j v hv
  · rw [List.append_assoc, List.append_assoc]
    exact spl_end (by omega)
  clear hA hS a; intro a w hA hS
  refine m_nil (m_then ⟨fun h => (by cases h), ?_⟩)
  refine d_take 7 (bs' := [true, true, true, true, true, true, true, true]) hA rfl rfl (by kernel_rfl) (fun _ _ _ h => h) (Y.assign rfl) rfl ?_
  clear hA a; intro a hA
  refine d_done (by kernel_rfl) ?_
  refine m_then ?_
  refine m_seq ?_
  refine m_region ?_
  refine m1 hA hS (Y.move rfl) rfl ?_
  clear hA a; intro a hA
  refine m1 hA hS (Y.move rfl) rfl ?_
  clear hA a; intro a hA
  refine m1 hA hS (Y.lenSl rfl Tryz.underlying22) rfl ?_
  clear hA a; intro a hA
  refine m1 hA hS (Y.move rfl) rfl ?_
  clear hA a; intro a hA
  refine m1 hA hS (Y.slLH (l := i + (n - (i + 1))) (h := n) rfl rfl rfl Tryz.underlying22 Tryz.sizeOf46 (by omega) (by omega)) rfl ?_
  clear hA a; intro a hA
  have hX : (cl ++ (cr ++ (p4 ++ (cr ++ rest)).drop cr.length)).length = c * 4 := by
    simp only [List.length_append, List.length_drop] at hl ⊢
    omega
  refine m_clear (k := 4) 0 hA hS rfl Tryz.underlying22 Tryz.zeroValue46 rfl rfl (by decide) rfl (by rw [if_neg (by omega), hX]; omega) ?_
  clear hS; intro w zs hzs hS
  refine m_nil ?_
  refine m_then ?_
  refine m_seq ?_
  refine m_region ?_
  refine m1 hA hS (Y.move rfl) rfl ?_
  clear hA a; intro a hA
  refine m1 hA hS (Y.assign rfl) rfl ?_
  clear hA a; intro a hA
  refine m_nil ?_
  refine m_then ?_
  refine m_retc ?_
  refine m_ret1 hA Tryz.results106 rfl ?_
  have hsp : spl (cl ++ (cr ++ (p4 ++ (cr ++ rest)).drop cr.length)) (0 + (i + (n - (i + 1))) * 4) zs = (cl ++ cr) ++ (zs ++ ((p4 ++ (cr ++ rest)).drop cr.length).drop zs.length) := by
    rw [← List.append_assoc]
    exact spl_end (by rw [List.length_append]; omega)
  rw [if_neg (by omega), hsp] at hS
  refine ⟨_, by rw [show n - 1 = i + (n - (i + 1)) from by omega], hS, ?_⟩
  simp only [List.length_append, List.length_drop] at hl hX ⊢
  omega
theorem PtysB.one : ∀ {ps : List Pty} {cs : List Value} {bs : List Bx}, PtysB cs ps bs → ∀ u ∈ cs, u.oneCell' = true
  | [], cs, bs, h => by rw [h.1]; simp
  | p :: ps, cs, bs, h => by
    obtain ⟨c, cs', b1, b2, rfl, rfl, h1, h2⟩ := h
    intro u hu
    rcases List.mem_append.1 hu with hu | hu
    · exact h1.one u hu
    · exact PtysB.one h2 u hu
/-- A hall's row that is not empty. -/
theorem HallB.row {pv : Value} {ps : List Pty} {bs : List Bx} (h : HallB pv ps bs) (hn : 0 < ps.length) : ∃ g c cs rest bp, pv = .slice (some ⟨g, 0, none⟩) ps.length c ∧ bs = cB g (cs ++ rest) 46 :: bp ∧ PtysB cs ps bp ∧ ps.length ≤ c ∧ c ≤ maxLen ∧ (cs ++ rest).length = c * 4 ∧ ps.length ≤ 100 := by
  obtain ⟨cs, b1, bp, ⟨hRl, ⟨rfl, hn0, rfl⟩ | ⟨g, c, cur, rfl, rfl, hcap, hmax, hcur, htake⟩⟩, hP, rfl, hle⟩ := h
  · omega
  · refine ⟨g, c, cs, cur.drop (ps.length * 4), bp, rfl, ?_, hP, hcap, hmax, ?_, hle⟩
    · rw [← htake, List.take_append_drop]; rfl
    · rw [← htake, List.take_append_drop]; exact hcur
theorem HallB.of {ps : List Pty} {g c : Nat} {cs rest : List Value} {bp : List Bx} (hP : PtysB cs ps bp) (hn : ps.length ≤ c) (hm : c ≤ maxLen) (hl : (cs ++ rest).length = c * 4) (hle : ps.length ≤ 100) : HallB (.slice (some ⟨g, 0, none⟩) ps.length c) ps (cB g (cs ++ rest) 46 :: bp) :=
  ⟨cs, [_], bp, ⟨hP.len, .inr ⟨g, c, _, rfl, rfl, hn, hm, hl, List.take_left' hP.len⟩⟩, hP, rfl, hle⟩
set_option maxRecDepth 100000 in
theorem drop_c (b0 T0 : Nat) (tk la pv : Value) (ps : List Pty) (bs B : List Bx) (V : List (Nat × World)) (i : Nat) (w : World)
    (hS : St w (cB b0 [tk, la, pv] T0 :: (bs ++ B)) V) (hH : HallB pv ps bs) (hi : i < ps.length) :
    Calls Tryz.prog 80 #[.pointer (some ⟨b0, 0, none⟩), .int .i64 (i : Int)] w fun e w' => ∃ pv' bs', e = .returned (.tuple #[]) ∧ HallB pv' (ps.eraseIdx i) bs' ∧ St w' (cB b0 [tk, la, pv'] T0 :: (bs' ++ B)) V := by
  obtain ⟨g, c, cs, rest, bp, rfl, rfl, hP, hn, hmax, hl, hle⟩ := hH.row (by omega)
  obtain ⟨p, hp⟩ : ∃ p, ps[i]? = some p := ⟨_, List.getElem?_eq_getElem hi⟩
  obtain ⟨cl, c4, cr, bl, b, br, rfl, rfl, k1, k2, k3, hcl⟩ := hP.focus hp
  refine m_enter Tryz.func80 rfl Tryz.ntmps80 (Nat.le_of_ble_eq_true rfl) ?_
  intro a hA
  refine m_region ?_
  refine m1 hA hS (Y.move rfl) rfl ?_
  clear hA a; intro a hA
  refine m1 hA hS (Y.move rfl) rfl ?_
  clear hA a; intro a hA
  refine m1 hA hS (Y.nil rfl) rfl ?_
  clear hA a; intro a hA
  refine m1 hA hS (Y.fieldAddr (k := 2) rfl Tryz.underlying24 rfl rfl Tryz.sizeOf22) rfl ?_
  clear hA a; intro a hA
  refine m1 hA hS (Y.load rfl Tryz.isAgg22 (fun w h => h.cell (i := 0) rfl rfl)) rfl ?_
  clear hA a; intro a hA
  refine m1 hA hS (Y.move rfl) rfl ?_
  clear hA a; intro a hA
  refine m1 hA hS (Y.move rfl) rfl ?_
  clear hA a; intro a hA
  refine m1 hA hS (Y.addI rfl rfl (by omega)) rfl ?_
  clear hA a; intro a hA
  have hSp : St w (cB g ((cl ++ (c4 ++ cr)) ++ rest) 46 :: (cB b0 [tk, la, .slice (some ⟨g, 0, none⟩) ps.length c] T0 :: ((bl ++ (b ++ br)) ++ B))) V :=
    hS.perm (List.perm_iff_count.2 fun a => by simp only [List.count_append, List.count_cons, List.count_nil]; omega)
  refine m_call hA Tryz.call106 rfl rfl ((delete_c g ps.length c i cl c4 cr rest _ V _ hSp hcl k2.len (by rw [k3.len, List.length_drop]) hi hn hl hle k3.one).mono ?_)
  rintro e w ⟨rest', rfl, hS', hl'⟩
  refine ⟨_, rfl, ?_⟩
  clear hA a; intro a hA
  replace hS : St w (cB b0 [tk, la, .slice (some ⟨g, 0, none⟩) ps.length c] T0 :: (cB g ((cl ++ cr) ++ rest') 46 :: ((bl ++ (b ++ br)) ++ B))) V :=
    hS'.perm (List.perm_iff_count.2 fun a => by simp only [List.count_append, List.count_cons, List.count_nil]; omega)
  refine m1 hA hS (Y.nil rfl) rfl ?_
  clear hA a; intro a hA
  refine m1 hA hS (Y.fieldAddr (k := 2) rfl Tryz.underlying24 rfl rfl Tryz.sizeOf22) rfl ?_
  clear hA a; intro a hA
  refine m_store 0 hA hS rfl rfl Tryz.sizeOf22 rfl rfl rfl rfl ?_
  clear hS; intro w hS
  refine m_nil ?_
  refine m_end0 hA Tryz.results80 ?_
  have he : ps.eraseIdx i = ps.take i ++ ps.drop (i + 1) := List.eraseIdx_eq_take_drop_succ _ _
  have hlen : (ps.eraseIdx i).length = ps.length - 1 := by rw [List.length_eraseIdx, if_pos hi]
  have hPn : PtysB (cl ++ cr) (ps.eraseIdx i) (bl ++ br) := by rw [he]; exact k1.app k3
  have hN := HallB.of (g := g) (c := c) (rest := rest') hPn (by omega) hmax hl' (by omega)
  rw [hlen] at hN
  refine ⟨_, _, rfl, hN, ?_⟩
  have hS2 : St w ([cB b0 [tk, la, .slice (some ⟨g, 0, none⟩) (ps.length - 1) c] T0, cB g ((cl ++ cr) ++ rest') 46] ++ ((bl ++ (b ++ br)) ++ B)) V := hS
  exact (hS2.perm (B' := b ++ (cB b0 [tk, la, .slice (some ⟨g, 0, none⟩) (ps.length - 1) c] T0 :: ((cB g ((cl ++ cr) ++ rest') 46 :: (bl ++ br)) ++ B))) (List.perm_iff_count.2 fun a => by simp only [List.count_append, List.count_cons, List.count_nil]; omega)).goneL
end Go.Proofs.YtljkhijdaaconaaGreat

namespace Go.Proofs.YtljkhijdaaconaaGreat
open Go.RowKit

set_option maxRecDepth 100000 in
set_option maxHeartbeats 1000000 in
theorem leave_c (b0 T0 : Nat) (tk la pv : Value) (ps : List Pty) (bs B : List Bx) (V : List (Nat × World)) (i : Nat) (who : Int) (w0 w : World) (hw0 : (0, w0) ∈ V)
    (hS : St w (cB b0 [tk, la, pv] T0 :: (bs ++ B)) V) (hH : HallB pv ps bs) (hi : i < ps.length) :
    Calls Tryz.prog 53 #[.pointer (some ⟨b0, 0, none⟩), .int .i64 (i : Int), .int .i64 who] w fun e w' => ∃ pv' bs', e = .returned (.tuple #[]) ∧ HallB pv' (leavePs i who ps) bs' ∧ St w' (cB b0 [tk, la, pv'] T0 :: (bs' ++ B)) V := by
  obtain ⟨g, c, cs, rest, bp, rfl, rfl, hP, hn, hmax, hl, hle⟩ := hH.row (by omega)
  obtain ⟨p, hp⟩ : ∃ p, ps[i]? = some p := ⟨_, List.getElem?_eq_getElem hi⟩
  obtain ⟨cl, c4, cr, bl, b, br, rfl, rfl, k1, ⟨mv, iv, bm, bi, rfl, hm, hiv, rfl, hml, hil⟩, k3, hcl⟩ := hP.focus hp
  obtain ⟨A1, e1, rfl⟩ := hm.shape
  obtain ⟨A2, e2, rfl⟩ := hiv.shape
  have hget : ∀ j v, ([Value.int .i64 p.id, .int .i64 p.leader, .slice A1 p.mem.length e1, .slice A2 p.inv.length e2] : List Value)[j]? = some v → ((cl ++ ([Value.int .i64 p.id, .int .i64 p.leader, .slice A1 p.mem.length e1, .slice A2 p.inv.length e2] ++ cr)) ++ rest)[0 + i * 4 + j]? = some v := by
    intro j v hj
    rw [List.append_assoc, List.append_assoc]
    exact mid_get (by omega) j v hj
  refine m_enter Tryz.func53 rfl Tryz.ntmps53 (Nat.le_of_ble_eq_true rfl) ?_
  intro a hA
  refine m_seq ?_
  refine m_region ?_
  refine m_box hA hS rfl rfl ?_
  clear hA hS a; intro a b1 w hA hleb1 hgb1 hS
  refine m_nil ?_
  refine m_then ?_
  refine m_seq ?_
  refine m_region ?_
  refine m1 hA hS (Y.move rfl) rfl ?_
  clear hA a; intro a hA
  refine m1 hA hS (Y.nil rfl) rfl ?_
  clear hA a; intro a hA
  refine m1 hA hS (Y.fieldAddr (k := 2) rfl Tryz.underlying24 rfl rfl Tryz.sizeOf22) rfl ?_
  clear hA a; intro a hA
  refine m1 hA hS (Y.load rfl Tryz.isAgg22 (fun w h => h.cell (i := 1) rfl rfl)) rfl ?_
  clear hA a; intro a hA
  refine m1 hA hS (Y.move rfl) rfl ?_
  clear hA a; intro a hA
  refine m1 hA hS (Y.indexAddrN rfl rfl Tryz.underlying22 Tryz.sizeOf46 (by omega)) rfl ?_
  clear hA a; intro a hA
  refine m1 hA hS (Y.assign rfl) rfl ?_
  clear hA a; intro a hA
  refine m_nil ?_
  refine m_then ?_
  refine m_seq ?_
  refine m_region ?_
  refine m1 hA hS (Y.move rfl) rfl ?_
  clear hA a; intro a hA
  refine m1 hA hS (Y.move rfl) rfl ?_
  clear hA a; intro a hA
  refine m1 hA hS (Y.nil rfl) rfl ?_
  clear hA a; intro a hA
  refine m1 hA hS (Y.fieldAddr (k := 2) rfl Tryz.underlying46 rfl rfl Tryz.sizeOf38) rfl ?_
  clear hA a; intro a hA
  refine m1 hA hS (Y.load rfl Tryz.isAgg38 (fun w h => h.cell (i := 2) rfl (hget 2 _ rfl))) rfl ?_
  clear hA a; intro a hA
  refine m1 hA hS (Y.func rfl) rfl ?_
  clear hA a; intro a hA
  have hSp : St w (bm ++ (([cB b1 [.int .i64 who] 3, cB b0 [tk, la, .slice (some ⟨g, 0, none⟩) ps.length c] T0, cB g ((cl ++ ([Value.int .i64 p.id, .int .i64 p.leader, .slice A1 p.mem.length e1, .slice A2 p.inv.length e2] ++ cr)) ++ rest) 46] ++ (bl ++ (bi ++ br))) ++ B)) V :=
    St.perm (B := [cB b1 [.int .i64 who] 3, cB b0 [tk, la, .slice (some ⟨g, 0, none⟩) ps.length c] T0, cB g ((cl ++ ([Value.int .i64 p.id, .int .i64 p.leader, .slice A1 p.mem.length e1, .slice A2 p.inv.length e2] ++ cr)) ++ rest) 46] ++ ((bl ++ ((bm ++ bi) ++ br)) ++ B)) hS (List.perm_iff_count.2 fun a => by simp only [List.count_append, List.count_cons, List.count_nil]; omega)
  refine m_call hA Tryz.call93 rfl rfl ((withoutInt_c _ p.mem bm _ V 94 [.pointer (some ⟨b1, 0, none⟩)] (fun x => decide (x = who)) w0 _ hSp hw0 hm hml Tryz.call94 (fun W bs' h x => memEq_c x who b1 W _ V h (by simp))).mono ?_)
  rintro e w ⟨v', bm', rfl, hm', hSn⟩
  refine ⟨_, rfl, ?_⟩
  clear hA a; intro a hA
  obtain ⟨A3, e3, rfl⟩ := hm'.shape
  obtain ⟨ms, hms⟩ : ∃ ms, ms = p.mem.filter fun x => !decide (x = who) := ⟨_, rfl⟩
  rw [← hms] at hm' hA
  have hmsl : ms.length ≤ 100 := by rw [hms]; exact Nat.le_trans (List.length_filter_le _ _) hml
  replace hS : St w ([cB b1 [.int .i64 who] 3, cB b0 [tk, la, .slice (some ⟨g, 0, none⟩) ps.length c] T0, cB g ((cl ++ ([Value.int .i64 p.id, .int .i64 p.leader, .slice A1 p.mem.length e1, .slice A2 p.inv.length e2] ++ cr)) ++ rest) 46] ++ ((bl ++ ((bm' ++ bi) ++ br)) ++ B)) V :=
    hSn.perm (List.perm_iff_count.2 fun a => by simp only [List.count_append, List.count_cons, List.count_nil]; omega)
  clear hSn hSp
  refine m1 hA hS (Y.nil rfl) rfl ?_
  clear hA a; intro a hA
  refine m1 hA hS (Y.fieldAddr (k := 2) rfl Tryz.underlying46 rfl rfl Tryz.sizeOf38) rfl ?_
  clear hA a; intro a hA
  refine m_storeP 2 ((cl ++ ([Value.int .i64 p.id, .int .i64 p.leader, .slice A3 ms.length e3, .slice A2 p.inv.length e2] ++ cr)) ++ rest) hA hS rfl rfl Tryz.sizeOf38 rfl rfl (by simp only [List.length_append, List.length_cons, List.length_nil]; omega) (List.all_eq_true.1 rfl) ?_ ?_
  · have := spl_mid (l := cl ++ [Value.int .i64 p.id, .int .i64 p.leader]) (c := [.slice A1 p.mem.length e1]) (r := [.slice A2 p.inv.length e2] ++ (cr ++ rest)) (c' := [.slice A3 ms.length e3]) (o := 0 + i * 4 + 2) (by simp only [List.length_append, List.length_cons, List.length_nil]; omega) rfl
    simpa [Value.cells] using this
  clear hS; intro w hS
  have hget' : ∀ j v, ([Value.int .i64 p.id, .int .i64 p.leader, .slice A3 ms.length e3, .slice A2 p.inv.length e2] : List Value)[j]? = some v → ((cl ++ ([Value.int .i64 p.id, .int .i64 p.leader, .slice A3 ms.length e3, .slice A2 p.inv.length e2] ++ cr)) ++ rest)[0 + i * 4 + j]? = some v := by
    intro j v hj
    rw [List.append_assoc, List.append_assoc]
    exact mid_get (by omega) j v hj
  have hl' : ((cl ++ ([Value.int .i64 p.id, .int .i64 p.leader, .slice A3 ms.length e3, .slice A2 p.inv.length e2] ++ cr)) ++ rest).length = c * 4 := by
    simp only [List.length_append, List.length_cons, List.length_nil] at hl ⊢
    omega
  refine m_nil ?_
  refine m_then ?_
  refine m_block ?_
  refine m_seq ?_
  refine m_region ?_
  refine m1 hA hS (Y.move rfl) rfl ?_
  clear hA a; intro a hA
  refine m1 hA hS (Y.nil rfl) rfl ?_
  clear hA a; intro a hA
  refine m1 hA hS (Y.fieldAddr (k := 2) rfl Tryz.underlying46 rfl rfl Tryz.sizeOf38) rfl ?_
  clear hA a; intro a hA
  refine m1 hA hS (Y.load rfl Tryz.isAgg38 (fun w h => h.cell (i := 2) rfl (hget' 2 _ rfl))) rfl ?_
  clear hA a; intro a hA
  refine m1 hA hS (Y.lenSl rfl Tryz.underlying38) rfl ?_
  clear hA a; intro a hA
  refine m1 hA hS (Y.eqI rfl rfl) rfl ?_
  clear hA a; intro a hA
  refine m1 hA hS (Y.assign rfl) rfl ?_
  clear hA a; intro a hA
  refine m_nil ?_
  refine m_then ?_
  replace hS : St w ([cB b1 [.int .i64 who] 3, cB b0 [tk, la, .slice (some ⟨g, 0, none⟩) ps.length c] T0, cB g ((cl ++ ([Value.int .i64 p.id, .int .i64 p.leader, .slice A3 ms.length e3, .slice A2 p.inv.length e2] ++ cr)) ++ rest) 46] ++ ((bl ++ ((bm' ++ bi) ++ br)) ++ B)) V := hS
  refine m_condP hA rfl (fun h0 => ?_) (fun h0 => ?_)
  · have hms0 : ms = [] := List.eq_nil_of_length_eq_zero (by omega)
    have hN := PtysB.unfocus (p := { p with mem := ms }) hi k1 ⟨_, _, bm', bi, rfl, hm', hiv, rfl, hmsl, hil⟩ k3
    have hN2 := HallB.of (g := g) (c := c) (rest := rest) hN (by simpa using hn) hmax hl' (by simpa using hle)
    rw [List.length_set] at hN2
    have hSd : St w (cB b0 [tk, la, .slice (some ⟨g, 0, none⟩) ps.length c] T0 :: ((cB g ((cl ++ ([Value.int .i64 p.id, .int .i64 p.leader, .slice A3 ms.length e3, .slice A2 p.inv.length e2] ++ cr)) ++ rest) 46 :: (bl ++ ((bm' ++ bi) ++ br))) ++ ([cB b1 [.int .i64 who] 3] ++ B))) V :=
      hS.perm (List.perm_iff_count.2 fun a => by simp only [List.count_append, List.count_cons, List.count_nil]; omega)
    refine m_region ?_
    refine m1 hA hS (Y.move rfl) rfl ?_
    clear hA a; intro a hA
    refine m1 hA hS (Y.move rfl) rfl ?_
    clear hA a; intro a hA
    refine m_call hA Tryz.call80 rfl rfl ((drop_c b0 T0 tk la _ _ _ _ V i _ hSd hN2 (by simpa using hi)).mono ?_)
    rintro e w ⟨pv', bs', rfl, hH', hSn⟩
    refine ⟨_, rfl, ?_⟩
    clear hA a; intro a hA
    replace hS : St w ([cB b1 [.int .i64 who] 3] ++ (cB b0 [tk, la, pv'] T0 :: (bs' ++ B))) V :=
      hSn.perm (List.perm_iff_count.2 fun a => by simp only [List.count_append, List.count_cons, List.count_nil]; omega)
    refine m_nil ?_
    refine n_block ?_
    refine m_end0 hA Tryz.results53 ?_
    refine ⟨pv', bs', rfl, ?_, hS.gone⟩
    have hlp : leavePs i who ps = ps.eraseIdx i := by
      unfold leavePs
      rw [hp]
      simp only
      rw [← hms, hms0]
    rw [hlp]
    rw [List.eraseIdx_set_eq] at hH'
    exact hH'
  · obtain ⟨m0, ms', hms1⟩ : ∃ m0 ms', ms = m0 :: ms' := by
      cases ms with
      | nil => exact absurd rfl h0
      | cons m0 ms' => exact ⟨m0, ms', rfl⟩
    have hlp : leavePs i who ps = ps.set i { p with mem := ms, leader := if p.leader = who then m0 else p.leader } := by
      unfold leavePs
      rw [hp]
      simp only
      rw [← hms, hms1]
    refine m_seq ?_
    refine q_region hS rfl (by kernel_rfl) ?_
    refine q1 hA (Y.move rfl) rfl ?_
    clear hA a; intro a hA
    refine q1 hA (Y.nil rfl) rfl ?_
    clear hA a; intro a hA
    refine q1 hA (Y.fieldAddr (k := 1) rfl Tryz.underlying46 rfl rfl Tryz.sizeOf3) rfl ?_
    clear hA a; intro a hA
    refine q1 hA (Y.load rfl Tryz.isAgg3 (fun w h => h.cell (i := 2) rfl (hget' 1 _ rfl))) rfl ?_
    clear hA a; intro a hA
    refine q1 hA (Y.load rfl Tryz.isAgg3 (fun w h => h.cell (i := 0) rfl rfl)) rfl ?_
    clear hA a; intro a hA
    refine q1 hA (Y.eqI rfl rfl) rfl ?_
    clear hA a; intro a hA
    refine q1 hA (Y.assign rfl) rfl ?_
    clear hA a; intro a hA
    refine q_nil ?_
    clear hS; intro w hS
    refine m_then ?_
    refine m_condP hA rfl (fun hld => ?_) (fun hld => ?_)
    · obtain ⟨hRl, ⟨he, hn0, rfl⟩ | ⟨gm, cap', cur, he, rfl, hcap', hmax', hcur', htake'⟩⟩ := hm'
      · exfalso
        rw [hms1] at hn0
        simp at hn0
      cases he
      have hcur0 : cur[0]? = some (.int .i64 m0) := by
        have h1 : (cur.take (ms.length * 1))[0]? = some (.int .i64 m0) := by rw [htake', hms1]; rfl
        rw [List.getElem?_take] at h1
        split at h1
        · exact h1
        · cases h1
      refine m_region ?_
      refine m1 hA hS (Y.move rfl) rfl ?_
      clear hA a; intro a hA
      refine m1 hA hS (Y.move rfl) rfl ?_
      clear hA a; intro a hA
      refine m1 hA hS (Y.nil rfl) rfl ?_
      clear hA a; intro a hA
      refine m1 hA hS (Y.fieldAddr (k := 2) rfl Tryz.underlying46 rfl rfl Tryz.sizeOf38) rfl ?_
      clear hA a; intro a hA
      refine m1 hA hS (Y.load rfl Tryz.isAgg38 (fun w h => h.cell (i := 2) rfl (hget' 2 _ rfl))) rfl ?_
      clear hA a; intro a hA
      refine m1 hA hS (Y.indexAddr rfl rfl Tryz.underlying38 Tryz.sizeOf3 (by omega) (by rw [hms1]; simp)) rfl ?_
      clear hA a; intro a hA
      refine m1 hA hS (Y.load rfl Tryz.isAgg3 (fun w h => h.cellM (cs := cur) (T := 3) (by simp) hcur0)) rfl ?_
      clear hA a; intro a hA
      refine m1 hA hS (Y.nil rfl) rfl ?_
      clear hA a; intro a hA
      refine m1 hA hS (Y.fieldAddr (k := 1) rfl Tryz.underlying46 rfl rfl Tryz.sizeOf3) rfl ?_
      clear hA a; intro a hA
      refine m_storeP 2 ((cl ++ ([Value.int .i64 p.id, .int .i64 m0, .slice (some ⟨gm, 0, none⟩) ms.length e3, .slice A2 p.inv.length e2] ++ cr)) ++ rest) hA hS rfl rfl Tryz.sizeOf3 rfl rfl (by simp only [List.length_append, List.length_cons, List.length_nil]; omega) (List.all_eq_true.1 rfl) ?_ ?_
      · have := spl_mid (l := cl ++ [Value.int .i64 p.id]) (c := [.int .i64 p.leader]) (r := [.slice (some ⟨gm, 0, none⟩) ms.length e3, .slice A2 p.inv.length e2] ++ (cr ++ rest)) (c' := [.int .i64 m0]) (o := 0 + i * 4 + 1) (by simp only [List.length_append, List.length_cons, List.length_nil]; omega) rfl
        simpa [Value.cells] using this
      clear hS; intro w hS
      have hl2 : ((cl ++ ([Value.int .i64 p.id, .int .i64 m0, .slice (some ⟨gm, 0, none⟩) ms.length e3, .slice A2 p.inv.length e2] ++ cr)) ++ rest).length = c * 4 := by
        simp only [List.length_append, List.length_cons, List.length_nil] at hl ⊢
        omega
      refine m_nil ?_
      refine n_block ?_
      refine m_end0 hA Tryz.results53 ?_
      have hN := PtysB.unfocus (p := { p with mem := ms, leader := m0 }) hi k1 ⟨_, _, [cB gm cur 3], bi, rfl, ⟨hRl, .inr ⟨gm, e3, cur, rfl, rfl, hcap', hmax', hcur', htake'⟩⟩, hiv, rfl, hmsl, hil⟩ k3
      have hN2 := HallB.of (g := g) (c := c) (rest := rest) hN (by simpa using hn) hmax hl2 (by simpa using hle)
      rw [List.length_set] at hN2
      rw [hlp, if_pos hld]
      exact ⟨_, _, rfl, hN2, hS.gone⟩
    · refine m_skip ?_
      refine n_block ?_
      refine m_end0 hA Tryz.results53 ?_
      have hN := PtysB.unfocus (p := { p with mem := ms, leader := p.leader }) hi k1 ⟨_, _, bm', bi, rfl, hm', hiv, rfl, hmsl, hil⟩ k3
      have hN2 := HallB.of (g := g) (c := c) (rest := rest) hN (by simpa using hn) hmax hl' (by simpa using hle)
      rw [List.length_set] at hN2
      rw [hlp, if_neg hld]
      exact ⟨_, _, rfl, hN2, hS.gone⟩
end Go.Proofs.YtljkhijdaaconaaGreat
