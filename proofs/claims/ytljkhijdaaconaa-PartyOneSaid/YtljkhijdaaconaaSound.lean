/- Contract: sound. A map of one's own that is written in loops. -/
import Derived.Test.YtljkhijdaaconaaLaws
import Derived.Test.YtljkhijdaaconaaAwake
set_option linter.unusedVariables false
set_option linter.unusedSectionVars false
namespace Go.Proofs.Ytljkhijdaaconaa
open Go.RowKit

/-- This object is a map from int to int. -/
def MapO (o : Obj) (f : Int → Option Int) (n : Nat) : Prop := ∃ es ck, o = .map es ck ∧ es.size = n ∧ (∀ e ∈ es.toList, entOk e) ∧ ∀ k, entAt k es.toList = f k
theorem MapO.im {W : World} {b : Nat} {o : Obj} {f : Int → Option Int} {n : Nat} (h : MapO o f n) (hb : W.heap[b]? = some o) : IMap W b f n := by
  obtain ⟨es, ck, rfl, h1⟩ := h
  exact ⟨es, ck, hb, h1⟩
theorem St.imap {w : World} {B : List Bx} {V : List (Nat × World)} (h : St w B V) {i b : Nat} {o : Obj} {f : Int → Option Int} {m : Nat} (hB : B[i]? = some ⟨b, o⟩) (hm : MapO o f m) : IMap w b f m := hm.im (h.bx _ (List.mem_of_getElem? hB))
theorem MapO.nil : MapO (.map #[] 0) (fun _ => none) 0 := ⟨#[], 0, rfl, rfl, by simp, fun _ => rfl⟩
theorem MapO.congr {o : Obj} {f g : Int → Option Int} {n : Nat} (h : MapO o f n) (e : ∀ k, f k = g k) : MapO o g n := by
  rwa [show f = g from funext e] at h
section
variable {P : Program} {C : World → Prop} {n : Nat} {s : List (Nat × Value)} {ops : Array Oper} {rest : List Oper} {Q : Exit → Act → World → Prop} {a : Act} {w : World} {B : List Bx} {V : List (Nat × World)}
theorem m_cut {c : Code} {K : Act → World → Prop} (R : Act → World → Prop) (h : c.wp P (Exit.then R Q) a w) (k : ∀ a w, R a w → K a w) : c.wp P (Exit.then K Q) a w :=
  Code.wp_mono (fun e a w h => by cases e <;> first | exact k _ _ h | exact h) h
theorem m_makeMap {d : Nat} {t ty : TypeId} {pos : String} {aft : Array Edge} (hA : Fits a n s) (hS : St w B V) (hd : Nat.blt d n = true)
    (k : ∀ a' b w', Fits a' n ((d, .map (some b)) :: s) → Gr w w' → St w' (⟨b, .map #[] 0⟩ :: B) V → wpList P ops Q rest a' w') :
    wpList P ops Q (⟨some d, .makeMap t none, ty, pos, aft, none⟩ :: rest) a w := by
  refine wpList_plain rfl fun K hK => ?_
  have hr : (execOp a.eval ⟨some d, .makeMap t none, ty, pos, aft, none⟩).run P w = .ok (.value (.map (some w.heap.size))) (w.alloc (.map #[] 0)) := by
    have : (Instr.makeMap t none).run P w = .ok (.map (some w.heap.size)) (w.alloc (.map #[] 0)) := rfl
    simp [execOp, this]
  unfold Oper.wp
  rw [hr]
  exact hK _ _ (k _ _ _ (hA.put (blt_lt hd) _) ((Gr.rf w).al _) (hS.newO _))
theorem m_mapUpd {t kt et ty : TypeId} {x y z : Operand} {pos : String} {aft : Array Edge} {b m : Nat} {f : Int → Option Int} {k v : Int} {o : Obj} (i : Nat) (hA : Fits a n s) (hS : St w B V) (ht : P.underlying t = some (.map kt et)) (hk : P.underlying kt = some (.int .i64))
    (hx : ev s x = some (.map (some b))) (hy : ev s y = some (.int .i64 k)) (hz : ev s z = some (.int .i64 v)) (hB : B[i]? = some ⟨b, o⟩) (hm : MapO o f m)
    (kk : ∀ w' o', MapO o' (fun k' => if k' = k then some v else f k') (if (f k).isSome then m else m + 1) → St w' (setB B i o') V → wpList P ops Q rest a w') :
    wpList P ops Q (⟨none, .mapUpdate t x y z, ty, pos, aft, none⟩ :: rest) a w := by
  have hlt := (hS.imap hB hm).lt
  obtain ⟨o', hr, _, him⟩ := run_upd ht hk (hS.imap hB hm) k v
  refine wpList_plain rfl fun K hK => ?_
  have hr' : (execOp a.eval ⟨none, .mapUpdate t x y z, ty, pos, aft, none⟩).run P w = .ok .skip (w.putObj b o') := by
    simp [execOp, hA.ev hx, hA.ev hy, hA.ev hz, hr]
  unfold Oper.wp
  rw [hr']
  have hb : (w.putObj b o').heap[b]? = some o' := by simp [World.putObj, hlt]
  have hm' : MapO o' (fun k' => if k' = k then some v else f k') (if (f k).isSome then m else m + 1) := by
    obtain ⟨es, ck, e, h⟩ := him
    rw [hb] at e
    exact ⟨es, ck, Option.some.inj e, h⟩
  refine hK _ _ (kk _ o' hm' (hS.upd hB o' rfl rfl rfl (by simp [World.putObj]) hb (fun b' hb' => ?_)))
  simp only [World.putObj]
  rw [Array.getElem?_setIfInBounds_ne (Ne.symm hb')]
theorem Y.lookV {t kt et ty : TypeId} {x y : Operand} {b m : Nat} {f : Int → Option Int} {k : Int} (v : Int) (ht : P.underlying t = some (.map kt et)) (hk : P.underlying kt = some (.int .i64)) (hz : ∀ W, (zeroValue et).run P W = .ok (.int .i64 0) W)
    (hx : ev s x = some (.map (some b))) (hy : ev s y = some (.int .i64 k)) (hc : ∀ w, C w → IMap w b f m) (hv : (f k).getD 0 = v) : Y P C n s (.lookup t x y false) ty (.int .i64 v) := hv ▸ Y.look ht hk hz hx hy hc
end
def cntE (l : Int) (xs : List Int) : Nat := (xs.filter fun m => decide (m = l)).length
theorem cntE_take {l : Int} {xs : List Int} {j : Nat} {x : Int} (h : xs[j]? = some x) : cntE l (xs.take (j + 1)) = cntE l (xs.take j) + if x = l then 1 else 0 := by
  unfold cntE
  rw [take_at h, List.filter_append, List.length_append]
  by_cases e : x = l <;> simp [e]
theorem cntE_le (l : Int) (xs : List Int) : cntE l xs ≤ xs.length := List.length_filter_le _ _
theorem cntE_one {l : Int} : ∀ {xs : List Int}, xs.Nodup → l ∈ xs → cntE l xs = 1
  | [], _, h => by cases h
  | x :: xs, hn, h => by
    obtain ⟨h1, h2⟩ := List.nodup_cons.1 hn
    unfold cntE
    rw [List.filter_cons]
    by_cases e : x = l
    · subst e
      have : xs.filter (fun m => decide (m = x)) = [] := List.filter_eq_nil_iff.2 fun m hm => by
        simp only [decide_eq_true_eq]
        exact fun e => h1 (e ▸ hm)
      rw [if_pos (by simp), this]; rfl
    · rw [if_neg (by simpa using e)]
      rcases List.mem_cons.1 h with e' | hm
      · exact absurd e'.symm e
      · exact cntE_one h2 hm
theorem memsL_take {ps : List Pty} {j : Nat} {p : Pty} (h : ps[j]? = some p) : memsL (ps.take (j + 1)) = memsL (ps.take j) ++ p.mem := by
  rw [take_at h, memsL_app]; simp [memsL]
/-- What counts those that came up. -/
def seenF (l : List Int) (k : Int) : Option Int := if k ∈ l then some 1 else none
theorem seenF_in {l : List Int} {k : Int} (h : k ∈ l) : (seenF l k).getD 0 = 1 := by simp [seenF, h]
theorem seenF_out {l : List Int} {k : Int} (h : k ∉ l) : (seenF l k).getD 0 = 0 := by simp [seenF, h]
theorem seenF_snoc (l : List Int) (x k : Int) : (if k = x then some (0 + 1) else seenF l k) = seenF (l ++ [x]) k := by
  unfold seenF
  by_cases e : k = x
  · simp [e]
  · simp [e]
set_option maxRecDepth 100000 in
set_option maxHeartbeats 4000000 in
theorem sound_c (H : Hall) (g : Good H) (A : Option Addr) (n c : Nat) (w0 : World) (hP : Ptys w0 A n H.ps) :
    Calls Try.prog 13 #[.agg #[.int .i64 H.tick, .int .i64 H.last, .slice A n c]] w0 fun e w' => e = .returned (.bool true) ∧ Gr w0 w' := by
  have hn := hP.le
  have hl := hP.len
  refine m_enter Try.func13 rfl Try.ntmps13 (Nat.le_of_ble_eq_true rfl) ?_
  intro a hA
  have hS := St.start w0
  refine m_seq ?_
  refine m_region ?_
  refine m_box hA hS rfl rfl ?_
  clear hA hS a; intro a b1 w hA hleb1 hgb1 hS
  refine m1 hA hS (Y.assign rfl) rfl ?_
  clear hA a; intro a hA
  refine m_nil ?_
  refine m_then ?_
  refine m_seq ?_
  refine m_region ?_
  refine m_makeMap hA hS rfl ?_
  clear hA hS a; intro a bm w hA hgm hS
  refine m1 hA hS (Y.assign rfl) rfl ?_
  clear hA a; intro a hA
  refine m_nil ?_
  refine m_then ?_
  refine m_seq ?_
  refine m_seq ?_
  refine m_region ?_
  refine m1 hA hS (Y.assign rfl) rfl ?_
  clear hA a; intro a hA
  refine m_nil ?_
  refine m_then ?_
  refine m_block ?_
  -- LOST [2]
  refine m_loopX [3, 1] rfl hA (((0 : Nat), Obj.map #[] 0, (0 : Nat))) (fun x => [(4, .int .i64 (x.1 : Int))]) (fun x => [⟨bm, x.2.1⟩, cB b1 [.int .i64 H.tick, .int .i64 H.last, .slice A n c] 24]) (fun _ => _) (fun x => x.1 ≤ n ∧ MapO x.2.1 (seenF (memsL (H.ps.take x.1))) x.2.2) (fun x => n - x.1) (ks := [4]) rfl hS (⟨Nat.zero_le _, MapO.nil.congr (fun k => by simp [seenF, memsL])⟩) ?_
  clear hA hS a; rintro ⟨j, om, nk⟩ a w hA hS hj
  try dsimp only at hA
  try dsimp only at hS
  try dsimp only at hj
  obtain ⟨hj, hmo⟩ := hj
  replace hA := hA.keep [4, 3, 1] rfl
  refine m_seq ?_
  refine m_seq ?_
  refine m_region ?_
  refine m1 hA hS (Y.move rfl) rfl ?_
  clear hA a; intro a hA
  refine m1 hA hS (Y.fieldAddr (k := 2) rfl Try.underlying24 rfl rfl Try.sizeOf22) rfl ?_
  clear hA a; intro a hA
  refine m1 hA hS (Y.load rfl Try.isAgg22 (fun w h => h.cell (i := 1) rfl rfl)) rfl ?_
  clear hA a; intro a hA
  refine m1 hA hS (Y.lenSl rfl Try.underlying22) rfl ?_
  clear hA a; intro a hA
  refine m1 hA hS (Y.ltI rfl rfl) rfl ?_
  clear hA a; intro a hA
  refine m_nil ?_
  refine m_then ?_
  refine m_condP hA rfl (fun hlt => ?_) (fun hlt => ?_)
  · obtain ⟨bb, o, p, M, m, mc, I, i, ic, rfl, hp, p0, p1, p2, p3, hin⟩ := hP.at (j := j) (by omega)
    have hpm : p ∈ H.ps := List.mem_of_getElem? hp
    have hml := hin.mem.len
    have hil := hin.inv.len
    have hsz := g.sz p hpm
    have hnd := g.nd
    rw [split_at hp, memsL_app, memsL_cons, List.nodup_append, List.nodup_append] at hnd
    refine m_skip ?_
    refine m_then ?_
    refine m_seq ?_
    refine m_block ?_
    refine m_seq ?_
    refine m_region ?_
    refine m1 hA hS (Y.fieldAddr (k := 2) rfl Try.underlying24 rfl rfl Try.sizeOf22) rfl ?_
    clear hA a; intro a hA
    refine m1 hA hS (Y.load rfl Try.isAgg22 (fun w h => h.cell (i := 1) rfl rfl)) rfl ?_
    clear hA a; intro a hA
    refine m1 hA hS (Y.move rfl) rfl ?_
    clear hA a; intro a hA
    refine m1 hA hS (Y.indexAddrN rfl rfl Try.underlying22 Try.sizeOf37 (by omega)) rfl ?_
    clear hA a; intro a hA
    refine m1 hA hS (Y.loads rfl Try.isAgg37 Try.sizeOf37 (fun w h => h.rds (by simp) (Nat.zero_le _) (Cs.four p0 p1 p2 p3)) rfl) rfl ?_
    clear hA a; intro a hA
    refine m_alloc hA hS Try.zeroValue37 rfl ?_
    clear hA hS a; intro a b3 w hA hleb3 hgb3 hS
    refine m_store 0 hA hS rfl rfl Try.sizeOf37 rfl rfl rfl rfl ?_
    clear hS; intro w hS
    refine m_nil ?_
    refine m_then ?_
    refine m_seq ?_
    refine m_region ?_
    refine m1 hA hS (Y.assign rfl) rfl ?_
    clear hA a; intro a hA
    refine m_nil ?_
    refine m_then ?_
    refine m_seq ?_
    refine m_seq ?_
    refine m_region ?_
    refine m1 hA hS (Y.assign rfl) rfl ?_
    clear hA a; intro a hA
    refine m_nil ?_
    refine m_then ?_
    refine m_block ?_
    refine m_loopX [5, 4, 3, 1] rfl hA (((0 : Nat), om, nk)) (fun x => [(6, .int .i64 ((cntE p.leader (p.mem.take x.1) : Nat) : Int)), (7, .int .i64 (x.1 : Int))]) (fun x => [cB b3 [.int .i64 p.id, .int .i64 p.leader, .slice M m mc, .slice I i ic] 37, ⟨bm, x.2.1⟩, cB b1 [.int .i64 H.tick, .int .i64 H.last, .slice (some ⟨bb, o, none⟩) n c] 24]) (fun _ => _) (fun x => x.1 ≤ m ∧ MapO x.2.1 (seenF (memsL (H.ps.take j) ++ p.mem.take x.1)) x.2.2) (fun x => m - x.1) (ks := [6, 7]) rfl hS (⟨Nat.zero_le _, by simpa using hmo⟩) ?_
    clear hA hS a; rintro ⟨r, oz, nz⟩ a w hA hS hj
    try dsimp only at hA
    try dsimp only at hS
    try dsimp only at hj
    obtain ⟨hr, hmz⟩ := hj
    replace hA := hA.keep [6, 7, 5, 4, 3, 1] rfl
    refine m_seq ?_
    refine m_seq ?_
    refine m_region ?_
    refine m1 hA hS (Y.move rfl) rfl ?_
    clear hA a; intro a hA
    refine m1 hA hS (Y.fieldAddr (k := 2) rfl Try.underlying37 rfl rfl Try.sizeOf34) rfl ?_
    clear hA a; intro a hA
    refine m1 hA hS (Y.load rfl Try.isAgg34 (fun w h => h.cell (i := 0) rfl rfl)) rfl ?_
    clear hA a; intro a hA
    refine m1 hA hS (Y.lenSl rfl Try.underlying34) rfl ?_
    clear hA a; intro a hA
    refine m1 hA hS (Y.ltI rfl rfl) rfl ?_
    clear hA a; intro a hA
    refine m_nil ?_
    refine m_then ?_
    refine m_condP hA rfl (fun hlt2 => ?_) (fun hlt2 => ?_)
    · obtain ⟨bx, ox, x, rfl, hx, q0⟩ := hin.mem.at (j := r) (by omega)
      rw [show ox + r = ox + r * 1 from by omega] at q0
      have hxm := List.mem_of_getElem? hx
      have hxL : x ∉ memsL (H.ps.take j) ++ p.mem.take r := by
        have h1 := hnd.2.1.1
        rw [split_at hx, List.nodup_append] at h1
        rw [List.mem_append]
        rintro (h | h)
        · exact hnd.2.2 x h x (by simp [hxm]) rfl
        · exact h1.2.2 x h x (by simp) rfl
      have hxT : x ∈ memsL (H.ps.take j) ++ p.mem.take (r + 1) := by rw [take_at hx]; simp
      have hce := cntE_take (l := p.leader) hx
      have hcl := cntE_le p.leader (p.mem.take r)
      rw [List.length_take] at hcl
      refine m_skip ?_
      refine m_then ?_
      refine m_seq ?_
      refine m_block ?_
      refine m_seq ?_
      refine m_region ?_
      refine m1 hA hS (Y.move rfl) rfl ?_
      clear hA a; intro a hA
      refine m1 hA hS (Y.fieldAddr (k := 2) rfl Try.underlying37 rfl rfl Try.sizeOf34) rfl ?_
      clear hA a; intro a hA
      refine m1 hA hS (Y.load rfl Try.isAgg34 (fun w h => h.cell (i := 0) rfl rfl)) rfl ?_
      clear hA a; intro a hA
      refine m1 hA hS (Y.move rfl) rfl ?_
      clear hA a; intro a hA
      refine m1 hA hS (Y.indexAddrN rfl rfl Try.underlying34 Try.sizeOf3 (by omega)) rfl ?_
      clear hA a; intro a hA
      refine m1 hA hS (Y.load rfl Try.isAgg3 (fun w h => h.rd (by simp) (Nat.zero_le _) (q0))) rfl ?_
      clear hA a; intro a hA
      refine m1 hA hS (Y.lookV 0 Try.underlying61 Try.underlying3 Try.zeroValue3 rfl rfl (fun w h => h.imap (i := 1) rfl hmz) (seenF_out hxL)) rfl ?_
      clear hA a; intro a hA
      refine m1 hA hS (Y.addI rfl rfl (by omega)) rfl ?_
      clear hA a; intro a hA
      refine m_mapUpd 1 hA hS Try.underlying61 Try.underlying3 rfl rfl rfl rfl hmz ?_
      clear hS; intro w oz' hmz' hS
      replace hmz' := hmz'.congr (g := seenF (memsL (H.ps.take j) ++ p.mem.take (r + 1))) (fun k => by rw [take_at hx, ← List.append_assoc]; exact seenF_snoc _ _ _)
      refine m_nil ?_
      refine m_then ?_
      refine m_seq ?_
      refine m_seq ?_
      refine m_region ?_
      refine m1 hA hS (Y.move rfl) rfl ?_
      clear hA a; intro a hA
      refine m1 hA hS (Y.fieldAddr (k := 2) rfl Try.underlying37 rfl rfl Try.sizeOf34) rfl ?_
      clear hA a; intro a hA
      refine m1 hA hS (Y.load rfl Try.isAgg34 (fun w h => h.cell (i := 0) rfl rfl)) rfl ?_
      clear hA a; intro a hA
      refine m1 hA hS (Y.move rfl) rfl ?_
      clear hA a; intro a hA
      refine m1 hA hS (Y.indexAddrN rfl rfl Try.underlying34 Try.sizeOf3 (by omega)) rfl ?_
      clear hA a; intro a hA
      refine m1 hA hS (Y.load rfl Try.isAgg3 (fun w h => h.rd (by simp) (Nat.zero_le _) (q0))) rfl ?_
      clear hA a; intro a hA
      refine m1 hA hS (Y.lookV 1 Try.underlying61 Try.underlying3 Try.zeroValue3 rfl rfl (fun w h => h.imap (i := 1) rfl hmz') (seenF_in hxT)) rfl ?_
      clear hA a; intro a hA
      refine m1 hA hS (Y.gtI rfl rfl) rfl ?_
      clear hA a; intro a hA
      refine m_nil ?_
      refine m_then ?_
      refine m_condF hA rfl ((by decide)) ?_
      refine m_skip ?_
      refine m_then ?_
      refine m_seq ?_
      refine q_region hS rfl (by kernel_rfl) ?_
      refine q1 hA (Y.fieldAddr (k := 2) rfl Try.underlying37 rfl rfl Try.sizeOf34) rfl ?_
      clear hA a; intro a hA
      refine q1 hA (Y.load rfl Try.isAgg34 (fun w h => h.cell (i := 0) rfl rfl)) rfl ?_
      clear hA a; intro a hA
      refine q1 hA (Y.move rfl) rfl ?_
      clear hA a; intro a hA
      refine q1 hA (Y.indexAddrN rfl rfl Try.underlying34 Try.sizeOf3 (by omega)) rfl ?_
      clear hA a; intro a hA
      refine q1 hA (Y.load rfl Try.isAgg3 (fun w h => h.rd (by simp) (Nat.zero_le _) (q0))) rfl ?_
      clear hA a; intro a hA
      refine q1 hA (Y.fieldAddr (k := 1) rfl Try.underlying37 rfl rfl Try.sizeOf3) rfl ?_
      clear hA a; intro a hA
      refine q1 hA (Y.load rfl Try.isAgg3 (fun w h => h.cell (i := 0) rfl rfl)) rfl ?_
      clear hA a; intro a hA
      refine q1 hA (Y.eqI rfl rfl) rfl ?_
      clear hA a; intro a hA
      refine q_nil ?_
      clear hS; intro w hS
      refine m_then ?_
      refine m_condP hA rfl (fun he => ?_) (fun he => ?_)
      · have hce' : ((cntE p.leader (p.mem.take r) : Nat) : Int) + 1 = ((cntE p.leader (p.mem.take (r + 1)) : Nat) : Int) := by rw [hce, if_pos he]; omega
        refine m_region ?_
        refine m1 hA hS (Y.move rfl) rfl ?_
        clear hA a; intro a hA
        refine m1 hA hS (Y.addI rfl rfl (by omega)) rfl ?_
        clear hA a; intro a hA
        refine m1 hA hS (Y.assign rfl) rfl ?_
        clear hA a; intro a hA
        refine m_nil ?_
        refine n_block ?_
        refine m_then ?_
        refine m_region ?_
        refine m1 hA hS (Y.move rfl) rfl ?_
        clear hA a; intro a hA
        refine m1 hA hS (Y.addI rfl rfl (by omega)) rfl ?_
        clear hA a; intro a hA
        refine m1 hA hS (Y.assign rfl) rfl ?_
        clear hA a; intro a hA
        refine m_nil ?_
        rw [hce'] at hA
        exact m_then ⟨(r + 1, oz', _), by (try dsimp only); omega, hA.keep [6, 7, 5, 4, 3, 1] rfl, hS, by (try dsimp only); exact ⟨by omega, hmz'⟩⟩
      · have hce' : cntE p.leader (p.mem.take r) = cntE p.leader (p.mem.take (r + 1)) := by rw [hce, if_neg he]; rfl
        rw [hce'] at hA
        refine m_skip ?_
        refine n_block ?_
        refine m_then ?_
        refine m_region ?_
        refine m1 hA hS (Y.move rfl) rfl ?_
        clear hA a; intro a hA
        refine m1 hA hS (Y.addI rfl rfl (by omega)) rfl ?_
        clear hA a; intro a hA
        refine m1 hA hS (Y.assign rfl) rfl ?_
        clear hA a; intro a hA
        refine m_nil ?_
        exact m_then ⟨(r + 1, oz', _), by (try dsimp only); omega, hA.keep [6, 7, 5, 4, 3, 1] rfl, hS, by (try dsimp only); exact ⟨by omega, hmz'⟩⟩
    · have hrm : r = p.mem.length := by omega
      rw [hrm, List.take_length] at hA hmz
      rw [cntE_one hnd.2.1.1 (g.ld p hpm)] at hA
      have h11 : decide (((1 : Nat) : Int) ≠ 1) = false := by decide
      refine m_exit ?_
      refine x_then ?_
      refine x_then ?_
      refine x_block ?_
      refine m_then ?_
      refine m_seq ?_
      refine m_region ?_
      refine m1 hA hS (Y.move rfl) rfl ?_
      clear hA a; intro a hA
      refine m1 hA hS (Y.neI rfl rfl) rfl ?_
      clear hA a; intro a hA
      refine m1 hA hS (Y.move rfl) rfl ?_
      clear hA a; intro a hA
      refine m1g hA hS (dj := 59) rfl rfl rfl h11 (Y.fieldAddr (k := 2) rfl Try.underlying37 rfl rfl Try.sizeOf34) rfl ?_
      clear hA a; intro a hA
      refine m1g hA hS (dj := 59) rfl rfl rfl h11 (Y.load rfl Try.isAgg34 (fun w h => h.cell (i := 0) rfl rfl)) rfl ?_
      clear hA a; intro a hA
      refine m1g hA hS (dj := 59) rfl rfl rfl h11 (Y.lenSl rfl Try.underlying34) rfl ?_
      clear hA a; intro a hA
      refine m1g hA hS (dj := 59) rfl rfl rfl h11 (Y.fieldAddr (k := 3) rfl Try.underlying37 rfl rfl Try.sizeOf35) rfl ?_
      clear hA a; intro a hA
      refine m1g hA hS (dj := 59) rfl rfl rfl h11 (Y.load rfl Try.isAgg35 (fun w h => h.cell (i := 0) rfl rfl)) rfl ?_
      clear hA a; intro a hA
      refine m1g hA hS (dj := 59) rfl rfl rfl h11 (Y.lenSl rfl Try.underlying35) rfl ?_
      clear hA a; intro a hA
      refine m1g hA hS (dj := 59) rfl rfl rfl h11 (Y.addI rfl rfl (by omega)) rfl ?_
      clear hA a; intro a hA
      refine m1g hA hS (dj := 59) rfl rfl rfl h11 (Y.gtI rfl rfl) rfl ?_
      clear hA a; intro a hA
      refine m1 hA hS (Y.pickF' rfl h11 rfl) rfl ?_
      clear hA a; intro a hA
      refine m_nil ?_
      refine m_then ?_
      refine m_condF hA rfl (decide_eq_false (by omega)) ?_
      refine m_skip ?_
      refine n_block ?_
      refine m_then ?_
      refine m_region ?_
      refine m1 hA hS (Y.move rfl) rfl ?_
      clear hA a; intro a hA
      refine m1 hA hS (Y.addI rfl rfl (by omega)) rfl ?_
      clear hA a; intro a hA
      refine m1 hA hS (Y.assign rfl) rfl ?_
      clear hA a; intro a hA
      refine m_nil ?_
      replace hS := hS.gone
      exact m_then ⟨(j + 1, oz, nz), by (try dsimp only); omega, hA.keep [4, 3, 1] rfl, hS, by (try dsimp only); exact ⟨by omega, by rw [memsL_take hp]; exact hmz⟩⟩
  · have hjn : j = H.ps.length := by omega
    rw [hjn, List.take_length] at hmo
    refine m_exit ?_
    refine x_then ?_
    refine x_then ?_
    refine x_block ?_
    refine m_then ?_
    refine m_seq ?_
    refine m_seq ?_
    refine m_region ?_
    refine m1 hA hS (Y.assign rfl) rfl ?_
    clear hA a; intro a hA
    refine m_nil ?_
    refine m_then ?_
    refine m_block ?_
    refine m_loopX [3, 1] rfl hA ((0 : Nat)) (fun j => [(8, .int .i64 (j : Int))]) (fun _ => _) (fun _ => _) (fun j => j ≤ n) (fun j => n - j) (ks := [8]) rfl hS (Nat.zero_le _) ?_
    clear hA hS a; rintro k a w hA hS hj
    try dsimp only at hA
    try dsimp only at hS
    try dsimp only at hj
    obtain hk := hj
    replace hA := hA.keep [8, 3, 1] rfl
    refine m_seq ?_
    refine m_seq ?_
    refine m_region ?_
    refine m1 hA hS (Y.move rfl) rfl ?_
    clear hA a; intro a hA
    refine m1 hA hS (Y.fieldAddr (k := 2) rfl Try.underlying24 rfl rfl Try.sizeOf22) rfl ?_
    clear hA a; intro a hA
    refine m1 hA hS (Y.load rfl Try.isAgg22 (fun w h => h.cell (i := 1) rfl rfl)) rfl ?_
    clear hA a; intro a hA
    refine m1 hA hS (Y.lenSl rfl Try.underlying22) rfl ?_
    clear hA a; intro a hA
    refine m1 hA hS (Y.ltI rfl rfl) rfl ?_
    clear hA a; intro a hA
    refine m_nil ?_
    refine m_then ?_
    refine m_condP hA rfl (fun hlt => ?_) (fun hlt => ?_)
    · obtain ⟨bb, o, p, M, m, mc, I, i, ic, rfl, hp, p0, p1, p2, p3, hin⟩ := hP.at (j := k) (by omega)
      have hpm : p ∈ H.ps := List.mem_of_getElem? hp
      have hile := hin.inv.le
      refine m_skip ?_
      refine m_then ?_
      refine m_seq ?_
      refine m_block ?_
      refine m_seq ?_
      refine m_region ?_
      refine m1 hA hS (Y.assign rfl) rfl ?_
      clear hA a; intro a hA
      refine m_nil ?_
      refine m_then ?_
      refine m_block ?_
      refine m_loopX [8, 3, 1] rfl hA ((0 : Nat)) (fun j => [(9, .int .i64 (j : Int))]) (fun _ => _) (fun _ => _) (fun j => j ≤ i) (fun j => i - j) (ks := [9]) rfl hS (Nat.zero_le _) ?_
      clear hA hS a; rintro r a w hA hS hj
      try dsimp only at hA
      try dsimp only at hS
      try dsimp only at hj
      obtain hr := hj
      replace hA := hA.keep [9, 8, 3, 1] rfl
      refine m_seq ?_
      refine m_seq ?_
      refine m_region ?_
      refine m1 hA hS (Y.move rfl) rfl ?_
      clear hA a; intro a hA
      refine m1 hA hS (Y.fieldAddr (k := 2) rfl Try.underlying24 rfl rfl Try.sizeOf22) rfl ?_
      clear hA a; intro a hA
      refine m1 hA hS (Y.load rfl Try.isAgg22 (fun w h => h.cell (i := 1) rfl rfl)) rfl ?_
      clear hA a; intro a hA
      refine m1 hA hS (Y.move rfl) rfl ?_
      clear hA a; intro a hA
      refine m1 hA hS (Y.indexAddrN rfl rfl Try.underlying22 Try.sizeOf37 (by omega)) rfl ?_
      clear hA a; intro a hA
      refine m1 hA hS (Y.fieldAddr (k := 3) rfl Try.underlying37 rfl rfl Try.sizeOf35) rfl ?_
      clear hA a; intro a hA
      refine m1 hA hS (Y.load rfl Try.isAgg35 (fun w h => h.rd (by simp) (Nat.zero_le _) (p3))) rfl ?_
      clear hA a; intro a hA
      refine m1 hA hS (Y.lenSl rfl Try.underlying35) rfl ?_
      clear hA a; intro a hA
      refine m1 hA hS (Y.ltI rfl rfl) rfl ?_
      clear hA a; intro a hA
      refine m_nil ?_
      refine m_then ?_
      refine m_condP hA rfl (fun hlt2 => ?_) (fun hlt2 => ?_)
      · obtain ⟨bx, ox, x, rfl, hx, x0, x1⟩ := hin.inv.at (j := r) (by omega)
        obtain ⟨_, _, i3, i4, _⟩ := g.iv p hpm x (List.mem_of_getElem? hx)
        have h00 : decide ((0 : Int) < 0) = false := by decide
        refine m_skip ?_
        refine m_then ?_
        refine m_seq ?_
        refine m_block ?_
        refine m_seq ?_
        refine m_region ?_
        refine m1 hA hS (Y.fieldAddr (k := 2) rfl Try.underlying24 rfl rfl Try.sizeOf22) rfl ?_
        clear hA a; intro a hA
        refine m1 hA hS (Y.load rfl Try.isAgg22 (fun w h => h.cell (i := 1) rfl rfl)) rfl ?_
        clear hA a; intro a hA
        refine m1 hA hS (Y.move rfl) rfl ?_
        clear hA a; intro a hA
        refine m1 hA hS (Y.indexAddrN rfl rfl Try.underlying22 Try.sizeOf37 (by omega)) rfl ?_
        clear hA a; intro a hA
        refine m1 hA hS (Y.fieldAddr (k := 3) rfl Try.underlying37 rfl rfl Try.sizeOf35) rfl ?_
        clear hA a; intro a hA
        refine m1 hA hS (Y.load rfl Try.isAgg35 (fun w h => h.rd (by simp) (Nat.zero_le _) (p3))) rfl ?_
        clear hA a; intro a hA
        refine m1 hA hS (Y.move rfl) rfl ?_
        clear hA a; intro a hA
        refine m1 hA hS (Y.indexAddrN rfl rfl Try.underlying35 Try.sizeOf44 (by omega)) rfl ?_
        clear hA a; intro a hA
        refine m1 hA hS (Y.loads rfl Try.isAgg44 Try.sizeOf44 (fun w h => h.rds (by simp) (Nat.zero_le _) (Cs.two x0 x1)) rfl) rfl ?_
        clear hA a; intro a hA
        refine m_alloc hA hS Try.zeroValue44 rfl ?_
        clear hA hS a; intro a b4 w hA hleb4 hgb4 hS
        refine m_store 0 hA hS rfl rfl Try.sizeOf44 rfl rfl rfl rfl ?_
        clear hS; intro w hS
        refine m_nil ?_
        refine m_then ?_
        refine m_seq ?_
        refine m_region ?_
        refine m1 hA hS (Y.move rfl) rfl ?_
        clear hA a; intro a hA
        refine m1 hA hS (Y.fieldAddr (k := 0) rfl Try.underlying44 rfl rfl Try.sizeOf3) rfl ?_
        clear hA a; intro a hA
        refine m1 hA hS (Y.load rfl Try.isAgg3 (fun w h => h.cell (i := 0) rfl rfl)) rfl ?_
        clear hA a; intro a hA
        refine m1 hA hS (Y.lookV 0 Try.underlying61 Try.underlying3 Try.zeroValue3 rfl rfl (fun w h => h.imap (i := 1) rfl hmo) (seenF_out i3)) rfl ?_
        clear hA a; intro a hA
        refine m1 hA hS (Y.gtI rfl rfl) rfl ?_
        clear hA a; intro a hA
        refine m1 hA hS (Y.move rfl) rfl ?_
        clear hA a; intro a hA
        refine m1g hA hS (dj := 101) rfl rfl rfl h00 (Y.fieldAddr (k := 1) rfl Try.underlying44 rfl rfl Try.sizeOf3) rfl ?_
        clear hA a; intro a hA
        refine m1g hA hS (dj := 101) rfl rfl rfl h00 (Y.load rfl Try.isAgg3 (fun w h => h.cell (i := 0) rfl rfl)) rfl ?_
        clear hA a; intro a hA
        refine m1g hA hS (dj := 101) rfl rfl rfl h00 (Y.fieldAddr (k := 0) rfl Try.underlying24 rfl rfl Try.sizeOf3) rfl ?_
        clear hA a; intro a hA
        refine m1g hA hS (dj := 101) rfl rfl rfl h00 (Y.load rfl Try.isAgg3 (fun w h => h.cell (i := 2) rfl rfl)) rfl ?_
        clear hA a; intro a hA
        refine m1g hA hS (dj := 101) rfl rfl rfl h00 (Y.leI rfl rfl) rfl ?_
        clear hA a; intro a hA
        refine m1 hA hS (Y.pickF' rfl h00 rfl) rfl ?_
        clear hA a; intro a hA
        refine m_nil ?_
        refine m_then ?_
        refine m_condF hA rfl (decide_eq_false (by omega)) ?_
        refine m_skip ?_
        refine n_block ?_
        refine m_then ?_
        refine m_region ?_
        refine m1 hA hS (Y.move rfl) rfl ?_
        clear hA a; intro a hA
        refine m1 hA hS (Y.addI rfl rfl (by omega)) rfl ?_
        clear hA a; intro a hA
        refine m1 hA hS (Y.assign rfl) rfl ?_
        clear hA a; intro a hA
        refine m_nil ?_
        replace hS := hS.gone
        exact m_then ⟨r + 1, by (try dsimp only); omega, hA.keep [9, 8, 3, 1] rfl, hS, by (try dsimp only); exact (by omega : r + 1 ≤ i)⟩
      · refine m_exit ?_
        refine x_then ?_
        refine x_then ?_
        refine x_block ?_
        refine n_block ?_
        refine m_then ?_
        refine m_region ?_
        refine m1 hA hS (Y.move rfl) rfl ?_
        clear hA a; intro a hA
        refine m1 hA hS (Y.addI rfl rfl (by omega)) rfl ?_
        clear hA a; intro a hA
        refine m1 hA hS (Y.assign rfl) rfl ?_
        clear hA a; intro a hA
        refine m_nil ?_
        exact m_then ⟨k + 1, by (try dsimp only); omega, hA.keep [8, 3, 1] rfl, hS, by (try dsimp only); exact (by omega : k + 1 ≤ n)⟩
    · have hln := g.ln
      refine m_exit ?_
      refine x_then ?_
      refine x_then ?_
      refine x_block ?_
      refine m_then ?_
      refine m_seq ?_
      refine m_region ?_
      refine m1 hA hS (Y.fieldAddr (k := 2) rfl Try.underlying24 rfl rfl Try.sizeOf22) rfl ?_
      clear hA a; intro a hA
      refine m1 hA hS (Y.load rfl Try.isAgg22 (fun w h => h.cell (i := 1) rfl rfl)) rfl ?_
      clear hA a; intro a hA
      refine m1 hA hS (Y.lenSl rfl Try.underlying22) rfl ?_
      clear hA a; intro a hA
      refine m1 hA hS (Y.leI rfl rfl) rfl ?_
      clear hA a; intro a hA
      refine m1 hA hS (Y.assign rfl) rfl ?_
      clear hA a; intro a hA
      refine m_nil ?_
      refine m_then ?_
      refine m_retc ?_
      refine m_ret1 hA Try.results13 rfl ?_
      exact ⟨ret_bool (decide_eq_true (by omega)), hS.gr0 (by simp)⟩
end Go.Proofs.Ytljkhijdaaconaa
