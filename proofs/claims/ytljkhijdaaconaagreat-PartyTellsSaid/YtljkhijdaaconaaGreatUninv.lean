/- Contracts: without, uninvite. -/
import Derived.Test.YtljkhijdaaconaaGreatDel
import Derived.Test.YtljkhijdaaconaaGreatOwn2
import Derived.Test.YtljkhijdaaconaaGreatPlain
set_option linter.unusedVariables false
namespace Go.Proofs.YtljkhijdaaconaaGreat
open Go.RowKit

noncomputable instance : DecidableEq Bx := fun a b => Classical.propDecidable _
theorem St.sub {w : World} {B B' : List Bx} {V : List (Nat × World)} (h : St w B V) (hs : B'.Sublist B) : St w B' V where
  bx := fun x hx => h.bx x (hs.subset hx)
  nd := h.nd.sublist hs
  vs := fun p hp => by
    obtain ⟨h1, h2, h3, h4, h5, h6⟩ := h.vs p hp
    exact ⟨h1, h2, h3, h4, h5, fun x hx => h6 x (hs.subset hx)⟩
theorem unstep {α : Type} (F : α → α) {ps : List α} {k : Nat} {p : α} (hp : ps[k]? = some p) : ((ps.take k).map F ++ ps.drop k)[k]? = some p ∧ ((ps.take k).map F ++ ps.drop k).set k (F p) = (ps.take (k + 1)).map F ++ ps.drop (k + 1) := by
  have hk : k < ps.length := (List.getElem?_eq_some_iff.1 hp).1
  have hl : ((ps.take k).map F).length = k := by simp; omega
  rw [drop_at hp, take_at hp]
  refine ⟨?_, ?_⟩
  · rw [List.getElem?_append_right (by omega), hl]; simp
  · rw [List.set_append_right _ _ (by omega), hl]; simp
theorem St.cellM {w : World} {B : List Bx} {V : List (Nat × World)} (h : St w B V) {b j : Nat} {cs : List Value} {T : Nat} {v : Value} (hB : cB b cs T ∈ B) (hj : cs[j]? = some v) : w.cell? ⟨b, j, none⟩ = some v := by
  have hb := h.bx _ hB
  simp only at hb
  simp [World.cell?, hb, hj]
theorem St.cellsM {w : World} {B : List Bx} {V : List (Nat × World)} (h : St w B V) {b : Nat} {cs : List Value} {T : Nat} (hB : cB b cs T ∈ B) : ∀ j v, cs[j]? = some v → w.cell? ((⟨b, 0, none⟩ : Addr).add j) = some v := fun j v hj => by
  rw [add_none, Nat.zero_add]; exact h.cellM hB hj

set_option maxRecDepth 100000 in
theorem withoutInt_c (v : Value) (xs : List Int) (bs B : List Bx) (V : List (Nat × World)) (g : Nat) (cap : List Value) (p : Int → Bool) (w0 w : World) (hS : St w (bs ++ B) V) (hw0 : (0, w0) ∈ V) (hR : IntsB v xs bs) (hle : xs.length ≤ 100)
    (eg : ∀ args w, (callFunc g args).run Tryz.prog w = .ok (.enter g args) w)
    (hf : ∀ W bs', St W (bs' ++ B) V → ∀ x, Calls Tryz.prog g ([Value.int .i64 x] ++ cap).toArray W fun e W' => e = .returned (.bool (p x)) ∧ Gr W W') :
    Calls Tryz.prog 93 #[v, .func (.func g) #[] cap.toArray] w fun e w' => ∃ v' bs', e = .returned v' ∧ IntsB v' (xs.filter fun x => !p x) bs' ∧ St w' (bs' ++ B) V := by
  refine m_enter Tryz.func93 rfl Tryz.ntmps93 (Nat.le_of_ble_eq_true rfl) ?_
  intro a hA
  refine m_seq ?_
  refine m_region ?_
  refine m1 hA hS (Y.assign rfl) rfl ?_
  clear hA a; intro a hA
  refine m_nil ?_
  refine m_then ?_
  refine m_seq ?_
  refine m_region ?_
  refine m1 hA hS (Y.move rfl) rfl ?_
  clear hA a; intro a hA
  refine m1 hA hS (Y.move rfl) rfl ?_
  clear hA a; intro a hA
  refine m_call hA Tryz.call110 rfl rfl ((delInt_c v xs bs B V g cap p w0 _ hS hw0 hR hle eg hf).mono ?_)
  rintro e w ⟨v', bs', rfl, hR', hS⟩
  refine ⟨_, rfl, ?_⟩
  clear hA a; intro a hA
  refine m1 hA hS (Y.assign rfl) rfl ?_
  clear hA a; intro a hA
  refine m_nil ?_
  refine m_then ?_
  refine m_retc ?_
  refine m_ret1 hA Tryz.results93 rfl ?_
  exact ⟨v', bs', rfl, hR', hS⟩
set_option maxRecDepth 100000 in
theorem withoutInv_c (v : Value) (xs : List Inv) (bs B : List Bx) (V : List (Nat × World)) (g : Nat) (cap : List Value) (p : Inv → Bool) (w0 w : World) (hS : St w (bs ++ B) V) (hw0 : (0, w0) ∈ V) (hR : InvsB v xs bs) (hle : xs.length ≤ 100)
    (eg : ∀ args w, (callFunc g args).run Tryz.prog w = .ok (.enter g args) w)
    (hf : ∀ W bs', St W (bs' ++ B) V → ∀ x : Inv, Calls Tryz.prog g ([Value.agg #[.int .i64 x.who, .int .i64 x.til]] ++ cap).toArray W fun e W' => e = .returned (.bool (p x)) ∧ Gr W W') :
    Calls Tryz.prog 95 #[v, .func (.func g) #[] cap.toArray] w fun e w' => ∃ v' bs', e = .returned v' ∧ InvsB v' (xs.filter fun x => !p x) bs' ∧ St w' (bs' ++ B) V := by
  refine m_enter Tryz.func95 rfl Tryz.ntmps95 (Nat.le_of_ble_eq_true rfl) ?_
  intro a hA
  refine m_seq ?_
  refine m_region ?_
  refine m1 hA hS (Y.assign rfl) rfl ?_
  clear hA a; intro a hA
  refine m_nil ?_
  refine m_then ?_
  refine m_seq ?_
  refine m_region ?_
  refine m1 hA hS (Y.move rfl) rfl ?_
  clear hA a; intro a hA
  refine m1 hA hS (Y.move rfl) rfl ?_
  clear hA a; intro a hA
  refine m_call hA Tryz.call111 rfl rfl ((delInv_c v xs bs B V g cap p w0 _ hS hw0 hR hle eg hf).mono ?_)
  rintro e w ⟨v', bs', rfl, hR', hS⟩
  refine ⟨_, rfl, ?_⟩
  clear hA a; intro a hA
  refine m1 hA hS (Y.assign rfl) rfl ?_
  clear hA a; intro a hA
  refine m_nil ?_
  refine m_then ?_
  refine m_retc ?_
  refine m_ret1 hA Tryz.results95 rfl ?_
  exact ⟨v', bs', rfl, hR', hS⟩
set_option maxRecDepth 100000 in
theorem uninv1_c (x : Inv) (g b1 b3 T1 T3 : Nat) (cap : List Value) (c0 c1 c2 c3 : Value) (Bs : List Bx) (V : List (Nat × World)) (q : Bool) (w : World) (hS : St w Bs V)
    (h1 : cB b1 [.func (.func g) #[] cap.toArray] T1 ∈ Bs) (h3 : cB b3 [c0, c1, c2, c3] T3 ∈ Bs)
    (eg : ∀ args w, (callFunc g args).run Tryz.prog w = .ok (.enter g args) w)
    (hf : ∀ W x', St W (x' :: Bs) V → Calls Tryz.prog g ([.agg #[c0, c1, c2, c3], Value.agg #[.int .i64 x.who, .int .i64 x.til]] ++ cap).toArray W fun e W' => e = .returned (.bool q) ∧ Gr W W') :
    Calls Tryz.prog 96 #[.agg #[.int .i64 x.who, .int .i64 x.til], .pointer (some ⟨b1, 0, none⟩), .pointer (some ⟨b3, 0, none⟩)] w fun e w' => e = .returned (.bool q) ∧ Gr w w' := by
  refine m_enter Tryz.func96 rfl Tryz.ntmps96 (Nat.le_of_ble_eq_true rfl) ?_
  intro a hA
  refine m_seq ?_
  refine m_region ?_
  refine m_box hA hS rfl rfl ?_
  clear hA hS a; intro a b1 w hA hleb1 hgb1 hS
  refine m1 hA hS (Y.assign rfl) rfl ?_
  clear hA a; intro a hA
  refine m_nil ?_
  refine m_then ?_
  refine m_seq ?_
  refine m_region ?_
  refine m1 hA hS (Y.load rfl Tryz.isAgg92 (fun w h => h.cellM (List.mem_cons_of_mem _ h1) rfl)) rfl ?_
  clear hA a; intro a hA
  refine m1 hA hS (Y.loads rfl Tryz.isAgg46 Tryz.sizeOf46 (fun w h => h.cellsM (List.mem_cons_of_mem _ h3)) rfl) rfl ?_
  clear hA a; intro a hA
  refine m1 hA hS (Y.loads rfl Tryz.isAgg61 Tryz.sizeOf61 (fun w h => h.cells (i := 0) rfl) rfl) rfl ?_
  clear hA a; intro a hA
  refine m_callv hA rfl eg rfl rfl ((hf _ _ hS).mono ?_)
  rintro e w ⟨rfl, hg⟩
  refine ⟨_, rfl, ?_⟩
  clear hA a; intro a hA
  replace hS := hS.gr hg
  refine m1 hA hS (Y.assign rfl) rfl ?_
  clear hA a; intro a hA
  refine m_nil ?_
  refine m_then ?_
  refine m_retc ?_
  refine m_ret1 hA Tryz.results96 rfl ?_
  exact ⟨rfl, hgb1.tr hg⟩
set_option maxRecDepth 100000 in
theorem uninvite_c (b0 T0 : Nat) (tk la pv : Value) (ps : List Pty) (bs B : List Bx) (V : List (Nat × World)) (g : Nat) (cap : List Value) (f : Pty → Inv → Bool) (w0 w : World)
    (hS : St w (cB b0 [tk, la, pv] T0 :: (bs ++ B)) V) (hw0 : (0, w0) ∈ V) (hH : HallB pv ps bs)
    (eg : ∀ args w, (callFunc g args).run Tryz.prog w = .ok (.enter g args) w)
    (hf : ∀ W bs', St W (bs' ++ B) V → ∀ (p : Pty) (i : Inv) (m v : Value), Calls Tryz.prog g ([.agg #[.int .i64 p.id, .int .i64 p.leader, m, v], Value.agg #[.int .i64 i.who, .int .i64 i.til]] ++ cap).toArray W fun e W' => e = .returned (.bool (f p i)) ∧ Gr W W') :
    Calls Tryz.prog 55 #[.pointer (some ⟨b0, 0, none⟩), .func (.func g) #[] cap.toArray] w fun e w' => ∃ bs', e = .returned (.tuple #[]) ∧ HallB pv (ps.map (unF f)) bs' ∧ St w' (cB b0 [tk, la, pv] T0 :: (bs' ++ B)) V := by
  obtain ⟨cs, br0, bp, hR, hP, rfl, hle⟩ := hH
  obtain ⟨hRl, ⟨rfl, hn0, rfl⟩ | ⟨gr, c1, cur, rfl, rfl, hcap, hmax, hcur, htake⟩⟩ := hR
  · have hps : ps = [] := List.eq_nil_of_length_eq_zero hn0
    subst hps
    obtain ⟨rfl, rfl⟩ := hP
    refine m_enter Tryz.func55 rfl Tryz.ntmps55 (Nat.le_of_ble_eq_true rfl) ?_
    intro a hA
    refine m_seq ?_
    refine m_region ?_
    refine m_box hA hS rfl rfl ?_
    clear hA hS a; intro a b1 w hA hleb1 hgb1 hS
    refine m_nil ?_
    refine m_then ?_
    refine m_seq ?_
    refine m_region ?_
    refine m1 hA hS (Y.move rfl) rfl ?_
    clear hA a; intro a hA
    refine m1 hA hS (Y.nil rfl) rfl ?_
    clear hA a; intro a hA
    refine m1 hA hS (Y.fieldAddr (k := 2) rfl Tryz.underlying24 rfl rfl Tryz.sizeOf22) rfl ?_
    clear hA a; intro a hA
    refine m1 hA hS (Y.load rfl Tryz.isAgg22 (fun w h => h.cell (i := 1) rfl rfl)) rfl ?_
    clear hA a; intro a hA
    refine m1 hA hS (Y.lenSl rfl Tryz.underlying22) rfl ?_
    clear hA a; intro a hA
    refine m1 hA hS (Y.move rfl) rfl ?_
    clear hA a; intro a hA
    refine m_nil ?_
    refine m_then ?_
    refine m_block ?_
    refine m_loopX [10, 9, 3, 0] rfl hA (()) (fun x => [(11, .int .i64 0)]) (fun _ => _) (fun _ => _) (fun _ => True) (fun x => 0) (ks := [11]) rfl hS (trivial) ?_
    clear hA hS a; rintro x a w hA hS hj
    try dsimp only at hA
    try dsimp only at hS
    try dsimp only at hj
    obtain _ := hj
    replace hA := hA.keep [11, 10, 9, 3, 0] rfl
    refine m_seq ?_
    refine m_region ?_
    refine m1 hA hS (Y.ltI rfl rfl) rfl ?_
    clear hA a; intro a hA
    refine m_nil ?_
    refine m_then ?_
    refine m_seq ?_
    refine m_condF hA rfl (rfl) ?_
    refine m_exit ?_
    refine x_then ?_
    refine x_then ?_
    refine x_block ?_
    refine m_end0 hA Tryz.results55 ?_
    exact ⟨[], rfl, ⟨[], [], [], RowB.nil _ _, ⟨rfl, rfl⟩, rfl, by simp⟩, hS.gone⟩
  obtain ⟨rest, rfl⟩ : ∃ rest, cur = cs ++ rest := ⟨cur.drop (ps.length * 4), by rw [← htake, List.take_append_drop]⟩
  refine m_enter Tryz.func55 rfl Tryz.ntmps55 (Nat.le_of_ble_eq_true rfl) ?_
  intro a hA
  refine m_seq ?_
  refine m_region ?_
  refine m_box hA hS rfl rfl ?_
  clear hA hS a; intro a b1 w hA hleb1 hgb1 hS
  refine m_nil ?_
  refine m_then ?_
  refine m_seq ?_
  refine m_region ?_
  refine m1 hA hS (Y.move rfl) rfl ?_
  clear hA a; intro a hA
  refine m1 hA hS (Y.nil rfl) rfl ?_
  clear hA a; intro a hA
  refine m1 hA hS (Y.fieldAddr (k := 2) rfl Tryz.underlying24 rfl rfl Tryz.sizeOf22) rfl ?_
  clear hA a; intro a hA
  refine m1 hA hS (Y.load rfl Tryz.isAgg22 (fun w h => h.cell (i := 1) rfl rfl)) rfl ?_
  clear hA a; intro a hA
  refine m1 hA hS (Y.lenSl rfl Tryz.underlying22) rfl ?_
  clear hA a; intro a hA
  refine m1 hA hS (Y.move rfl) rfl ?_
  clear hA a; intro a hA
  refine m_nil ?_
  refine m_then ?_
  refine m_block ?_
  refine m_loopX [10, 9, 3, 0] rfl hA (((0 : Nat), cs, bp)) (fun x => [(11, .int .i64 (x.1 : Int))]) (fun x => [cB b1 [.func (.func g) #[] cap.toArray] 92, cB b0 [tk, la, .slice (some ⟨gr, 0, none⟩) ps.length c1] T0, cB gr (x.2.1 ++ rest) 46] ++ (x.2.2 ++ B)) (fun _ => V) (fun x => x.1 ≤ ps.length ∧ PtysB x.2.1 ((ps.take x.1).map (unF f) ++ ps.drop x.1) x.2.2) (fun x => ps.length - x.1) (ks := [11]) rfl hS (⟨Nat.zero_le _, hP⟩) ?_
  clear hA hS a; rintro ⟨k, cs', bp'⟩ a w hA hS hj
  try dsimp only at hA
  try dsimp only at hS
  try dsimp only at hj
  obtain ⟨hk, hPk⟩ := hj
  replace hA := hA.keep [11, 10, 9, 3, 0] rfl
  refine m_seq ?_
  refine m_region ?_
  refine m1 hA hS (Y.ltI rfl rfl) rfl ?_
  clear hA a; intro a hA
  refine m_nil ?_
  refine m_then ?_
  refine m_seq ?_
  refine m_condP hA rfl (fun hlt => ?_) (fun hlt => ?_)
  · have hkn : k < ps.length := by omega
    obtain ⟨p, hp⟩ : ∃ p, ps[k]? = some p := ⟨_, List.getElem?_eq_getElem hkn⟩
    obtain ⟨hp1, hp2⟩ := unstep (unF f) hp
    have hlen : k < ((ps.take k).map (unF f) ++ ps.drop k).length := (List.getElem?_eq_some_iff.1 hp1).1
    obtain ⟨cl, c, cr, bl, b, br, rfl, rfl, h1, ⟨mv, iv, bm, bi, rfl, hm, hi, rfl, hml, hil⟩, h3, hcl⟩ := hPk.focus hp1
    have hget : ∀ j v, ([Value.int .i64 p.id, .int .i64 p.leader, mv, iv] : List Value)[j]? = some v → ((cl ++ ([Value.int .i64 p.id, .int .i64 p.leader, mv, iv] ++ cr)) ++ rest)[0 + k * 4 + j]? = some v := by
      intro j v hj
      rw [List.append_assoc, List.append_assoc]
      exact mid_get (by omega) j v hj
    obtain ⟨A1, e1, rfl⟩ := hm.shape
    obtain ⟨A2, e2, rfl⟩ := hi.shape
    refine m_skip ?_
    refine m_then ?_
    refine m_seq ?_
    refine m_block ?_
    refine m_seq ?_
    refine m_region ?_
    refine m1 hA hS (Y.move rfl) rfl ?_
    clear hA a; intro a hA
    refine m1 hA hS (Y.indexAddrN rfl rfl Tryz.underlying22 Tryz.sizeOf46 (by omega)) rfl ?_
    clear hA a; intro a hA
    refine m1 hA hS (Y.loads rfl Tryz.isAgg46 Tryz.sizeOf46 (fun w h => h.cellsAt (i := 2) rfl hget) rfl) rfl ?_
    clear hA a; intro a hA
    refine m_alloc hA hS Tryz.zeroValue46 rfl ?_
    clear hA hS a; intro a b2 w hA hleb2 hgb2 hS
    refine m1 hA hS (Y.assign rfl) rfl ?_
    clear hA a; intro a hA
    refine m_store 0 hA hS rfl rfl Tryz.sizeOf46 rfl rfl rfl rfl ?_
    clear hS; intro w hS
    refine m_nil ?_
    refine m_then ?_
    obtain ⟨pc, hpc⟩ : ∃ pc, pc = ([Value.int .i64 p.id, .int .i64 p.leader, .slice A1 p.mem.length e1, .slice A2 p.inv.length e2] : List Value) := ⟨_, rfl⟩
    have hS2 : St w ([cB b2 [Value.int .i64 p.id, .int .i64 p.leader, .slice A1 p.mem.length e1, .slice A2 p.inv.length e2] 46, cB b1 [.func (.func g) #[] cap.toArray] 92, cB b0 [tk, la, .slice (some ⟨gr, 0, none⟩) ps.length c1] T0, cB gr ((cl ++ ([Value.int .i64 p.id, .int .i64 p.leader, .slice A1 p.mem.length e1, .slice A2 p.inv.length e2] ++ cr)) ++ rest) 46] ++ ((bl ++ ((bm ++ bi) ++ br)) ++ B)) V := hS
    replace hS := hS2
    clear hS2 hpc
    refine d_region (fun w => St w [cB b2 [Value.int .i64 p.id, .int .i64 p.leader, .slice A1 p.mem.length e1, .slice A2 p.inv.length e2] 46, cB b0 [tk, la, .slice (some ⟨gr, 0, none⟩) ps.length c1] T0] V) [3, 6] [0, 1, 2, 3, 4, 5, 6, 7, 9, 10] _ _ hS rfl 12 [false, false, false, false, false, false, false, false, false, false, false, false] rfl rfl ?_
    clear hS; intro w hS _
    have hQ : St w [cB b2 [Value.int .i64 p.id, .int .i64 p.leader, .slice A1 p.mem.length e1, .slice A2 p.inv.length e2] 46, cB b0 [tk, la, .slice (some ⟨gr, 0, none⟩) ps.length c1] T0] V := hS.sub (.cons_cons _ (.cons _ (.cons_cons _ (List.nil_sublist _))))
    refine d_take 0 (bs' := [true, false, false, false, false, false, false, false, false, false, false, false]) hA rfl rfl (by kernel_rfl) (fun _ _ _ h => h) (Y.move rfl) rfl ?_
    clear hA a; intro a hA
    refine d_take 1 (bs' := [true, true, false, false, false, false, false, false, false, false, false, false]) hA rfl rfl (by kernel_rfl) (fun _ _ _ h => h) (Y.nil rfl) rfl ?_
    clear hA a; intro a hA
    refine d_take 2 (bs' := [true, true, true, false, false, false, false, false, false, false, false, false]) hA rfl rfl (by kernel_rfl) (fun _ _ _ h => h) (Y.fieldAddr (k := 2) rfl Tryz.underlying24 rfl rfl Tryz.sizeOf22) rfl ?_
    clear hA a; intro a hA
    refine d_load 3 (bs' := [true, true, true, true, false, false, false, false, false, false, false, false]) hA hQ rfl rfl rfl (by kernel_rfl) (fun _ _ _ h => h) (Y.load rfl Tryz.isAgg22 (fun w h => h.cell (i := 1) rfl rfl)) rfl ?_
    clear hA a; intro a hA
    refine d_take 4 (bs' := [true, true, true, true, true, false, false, false, false, false, false, false]) hA rfl rfl (by kernel_rfl) (fun _ _ _ h => h) (Y.move rfl) rfl ?_
    clear hA a; intro a hA
    refine d_take 5 (bs' := [true, true, true, true, true, true, false, false, false, false, false, false]) hA rfl rfl (by kernel_rfl) (fun _ _ _ h => h) (Y.fieldAddr (k := 3) rfl Tryz.underlying46 rfl rfl Tryz.sizeOf44) rfl ?_
    clear hA a; intro a hA
    refine d_load 6 (bs' := [true, true, true, true, true, true, true, false, false, false, false, false]) hA hQ rfl rfl rfl (by kernel_rfl) (fun _ _ _ h => h) (Y.load rfl Tryz.isAgg44 (fun w h => h.cell (i := 0) rfl rfl)) rfl ?_
    clear hA a; intro a hA
    refine d_take 7 (bs' := [true, true, true, true, true, true, true, true, false, false, false, false]) hA rfl rfl (by kernel_rfl) (fun _ _ _ h => h) (Y.func rfl) rfl ?_
    clear hA a; intro a hA
    refine d_one 8 (bs' := [true, true, true, true, true, true, true, true, true, false, false, false]) true rfl (by kernel_rfl) ?_
    have hSp : St w (bi ++ (([cB b2 [Value.int .i64 p.id, .int .i64 p.leader, .slice A1 p.mem.length e1, .slice A2 p.inv.length e2] 46, cB b1 [.func (.func g) #[] cap.toArray] 92, cB b0 [tk, la, .slice (some ⟨gr, 0, none⟩) ps.length c1] T0, cB gr ((cl ++ ([Value.int .i64 p.id, .int .i64 p.leader, .slice A1 p.mem.length e1, .slice A2 p.inv.length e2] ++ cr)) ++ rest) 46] ++ (bl ++ (bm ++ br))) ++ B)) V :=
      hS.perm (List.perm_iff_count.2 fun a => by simp only [List.count_append, List.count_cons, List.count_nil]; omega)
    refine m_call hA Tryz.call95 rfl rfl ((withoutInv_c _ p.inv bi _ V 96 [.pointer (some ⟨b1, 0, none⟩), .pointer (some ⟨b2, 0, none⟩)] (fun i => f p i) w0 _ hSp hw0 hi hil Tryz.call96 (fun W bs' hS' x => uninv1_c x g b1 b2 92 46 cap (.int .i64 p.id) (.int .i64 p.leader) (.slice A1 p.mem.length e1) (.slice A2 p.inv.length e2) _ V (f p x) W hS' (by simp) (by simp) eg (fun W x' hS'' => hf W (x' :: (bs' ++ _)) (by rw [List.cons_append, List.append_assoc]; exact hS'') p x _ _))).mono ?_)
    rintro e w ⟨v', bi', rfl, hi', hSn⟩
    refine ⟨_, rfl, ?_⟩
    clear hA a; intro a hA
    obtain ⟨A3, e3, rfl⟩ := hi'.shape
    replace hQ : St w [cB b2 [Value.int .i64 p.id, .int .i64 p.leader, .slice A1 p.mem.length e1, .slice A2 p.inv.length e2] 46, cB b0 [tk, la, .slice (some ⟨gr, 0, none⟩) ps.length c1] T0] V := (hSn.goneL).sub (.cons_cons _ (.cons _ (.cons_cons _ (List.nil_sublist _))))
    replace hS : St w ([cB b2 [Value.int .i64 p.id, .int .i64 p.leader, .slice A1 p.mem.length e1, .slice A2 p.inv.length e2] 46, cB b1 [.func (.func g) #[] cap.toArray] 92, cB b0 [tk, la, .slice (some ⟨gr, 0, none⟩) ps.length c1] T0, cB gr ((cl ++ ([Value.int .i64 p.id, .int .i64 p.leader, .slice A1 p.mem.length e1, .slice A2 p.inv.length e2] ++ cr)) ++ rest) 46] ++ ((bl ++ ((bm ++ bi') ++ br)) ++ B)) V :=
      hSn.perm (List.perm_iff_count.2 fun a => by simp only [List.count_append, List.count_cons, List.count_nil]; omega)
    refine m_nil (m_then ⟨fun _ => hQ, ?_⟩)
    refine d_take 9 (bs' := [true, true, true, true, true, true, true, true, true, true, false, false]) hA rfl rfl (by kernel_rfl) (fun _ _ _ h => h) (Y.indexAddrN rfl rfl Tryz.underlying22 Tryz.sizeOf46 (by omega)) rfl ?_
    clear hA a; intro a hA
    refine d_take 10 (bs' := [true, true, true, true, true, true, true, true, true, true, true, false]) hA rfl rfl (by kernel_rfl) (fun _ _ _ h => h) (Y.fieldAddr (k := 3) rfl Tryz.underlying46 rfl rfl Tryz.sizeOf44) rfl ?_
    clear hA a; intro a hA
    refine d_one 11 (bs' := [true, true, true, true, true, true, true, true, true, true, true, true]) false rfl (by kernel_rfl) ?_
    refine m_storeP 3 ((cl ++ ([Value.int .i64 p.id, .int .i64 p.leader, .slice A1 p.mem.length e1, .slice A3 (p.inv.filter fun i => !f p i).length e3] ++ cr)) ++ rest) hA hS rfl rfl Tryz.sizeOf44 rfl rfl (by simp only [List.length_append, List.length_cons, List.length_nil]; omega) (List.all_eq_true.1 rfl) ?_ ?_
    · have := spl_mid (l := cl ++ [Value.int .i64 p.id, .int .i64 p.leader, .slice A1 p.mem.length e1]) (c := [.slice A2 p.inv.length e2]) (r := cr ++ rest) (c' := [.slice A3 (p.inv.filter fun i => !f p i).length e3]) (o := 0 + k * 4 + 3) (by simp only [List.length_append, List.length_cons, List.length_nil]; omega) rfl
      simpa [Value.cells] using this
    clear hS; intro w hS
    refine m_nil (m_then ⟨fun h => (by cases h), ?_⟩)
    refine d_done (by kernel_rfl) ?_
    refine n_block ?_
    refine m_then ?_
    refine m_region ?_
    refine m1 hA hS (Y.addI rfl rfl (by omega)) rfl ?_
    clear hA a; intro a hA
    refine m1 hA hS (Y.move rfl) rfl ?_
    clear hA a; intro a hA
    refine m_nil ?_
    replace hS := hS.gone
    have hn := PtysB.unfocus (p := unF f p) hlen h1 ⟨_, _, bm, bi', rfl, hm, hi', rfl, hml, Nat.le_trans (List.length_filter_le _ _) hil⟩ h3
    rw [hp2] at hn
    exact m_then ⟨((k + 1 : Nat), cl ++ ([Value.int .i64 p.id, .int .i64 p.leader, .slice A1 p.mem.length e1, .slice A3 (p.inv.filter fun i => !f p i).length e3] ++ cr), bl ++ ((bm ++ bi') ++ br)), by (try dsimp only); omega, hA.keep [11, 10, 9, 3, 0] rfl, hS, by (try dsimp only); exact ⟨by omega, hn⟩⟩
  · have hkn : k = ps.length := by omega
    subst hkn
    rw [List.take_of_length_le (Nat.le_refl _), List.drop_eq_nil_of_le (Nat.le_refl _), List.append_nil] at hPk
    refine m_exit ?_
    refine x_then ?_
    refine x_then ?_
    refine x_block ?_
    refine m_end0 hA Tryz.results55 ?_
    refine ⟨cB gr (cs' ++ rest) 46 :: bp', rfl, ⟨cs', [_], bp', ?_, hPk, rfl, by simpa using hle⟩, hS.gone⟩
    have hl2 : cs'.length = ps.length * 4 := by rw [hPk.len, List.length_map]
    refine ⟨by rw [hPk.len], .inr ⟨gr, c1, _, ?_, rfl, by simpa using hcap, hmax, ?_, List.take_left' (by simpa using hl2)⟩⟩
    · simp
    · simp only [List.length_append] at hcur ⊢
      omega
end Go.Proofs.YtljkhijdaaconaaGreat
