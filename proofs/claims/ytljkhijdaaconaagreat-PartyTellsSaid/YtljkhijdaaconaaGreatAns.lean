/- Contracts: Accept, Decline. Contracts: Accept, Decline. -/
import Derived.Test.YtljkhijdaaconaaGreatLead
set_option linter.unusedVariables false
namespace Go.Proofs.YtljkhijdaaconaaGreat
open Go.RowKit

set_option maxRecDepth 100000 in
theorem has_c (p : Pty) (M : Option Addr) (m mc : Nat) (I : Option Addr) (i ic : Nat) (id who : Int) (bid bmine bwho : Nat) (w : World) (B : List Bx) (V : List (Nat × World)) (hS : St w B V) (hin : PtyIn w M m I i p)
    (h1 : cB bid [.int .i64 id] 3 ∈ B) (h2 : cB bmine [.func (.func 82) #[] [Value.pointer (some ⟨bwho, 0, none⟩)].toArray] 106 ∈ B) (h3 : cB bwho [.int .i64 who] 3 ∈ B) :
    Calls Tryz.prog 83 ([Value.agg #[.int .i64 p.id, .int .i64 p.leader, .slice M m mc, .slice I i ic]] ++ [Value.pointer (some ⟨bid, 0, none⟩), Value.pointer (some ⟨bmine, 0, none⟩)]).toArray w fun e w' => e = .returned (.bool (decide (p.id = id) && p.inv.any fun i => decide (i.who = who))) ∧ Gr w w' := by
  have c1 := hS.cellM (j := 0) h1 rfl
  have c2 := hS.cellM (j := 0) h2 rfl
  have c3 : ∀ W, Gr w W → St W B V := fun W hg => hS.gr hg
  clear hS
  refine m_enter Tryz.func83 rfl Tryz.ntmps83 (Nat.le_of_ble_eq_true rfl) ?_
  intro a hA
  have hS := St.start w
  refine m_seq ?_
  refine m_region ?_
  refine m_box hA hS rfl rfl ?_
  clear hA hS a; intro a b1 w hA hleb1 hgb1 hS
  refine m1 hA hS (Y.assign rfl) rfl ?_
  clear hA a; intro a hA
  refine m_nil ?_
  refine m_then ?_
  refine m_seq ?_
  refine m_region ?_
  refine m1 hA hS (Y.fieldAddr (k := 0) rfl Tryz.underlying46 rfl rfl Tryz.sizeOf3) rfl ?_
  clear hA a; intro a hA
  refine m1 hA hS (Y.load rfl Tryz.isAgg3 (fun w h => h.cell (i := 0) rfl rfl)) rfl ?_
  clear hA a; intro a hA
  refine m1 hA hS (Y.load rfl Tryz.isAgg3 (fun w h => h.rd (by simp) (Nat.zero_le _) (c1))) rfl ?_
  clear hA a; intro a hA
  refine m1 hA hS (Y.eqI rfl rfl) rfl ?_
  clear hA a; intro a hA
  refine m1 hA hS (Y.move rfl) rfl ?_
  clear hA a; intro a hA
  replace hA := hA.keep [9, 4, 3, 2] rfl
  apply m_and 5 14 9 hA hS rfl
  · intro hp1
    refine m1s hA (dj := 9) rfl rfl rfl hp1 rfl ?_
    intro a hA
    refine m1s hA (dj := 9) rfl rfl rfl hp1 rfl ?_
    clear hA a; intro a hA
    refine m1s hA (dj := 9) rfl rfl rfl hp1 rfl ?_
    clear hA a; intro a hA
    refine m1s hA (dj := 9) rfl rfl rfl hp1 rfl ?_
    clear hA a; intro a hA
    refine m1 hA hS (Y.pickF' rfl hp1 rfl) rfl ?_
    clear hA a; intro a hA
    exact m_nil (m_then ⟨hA.keep [14, 9, 4, 3, 2] rfl, hS⟩)
  · intro hp1
    refine m1g hA hS (dj := 9) rfl rfl rfl hp1 (Y.fieldAddr (k := 3) rfl Tryz.underlying46 rfl rfl Tryz.sizeOf44) rfl ?_
    intro a hA
    refine m1g hA hS (dj := 9) rfl rfl rfl hp1 (Y.load rfl Tryz.isAgg44 (fun w h => h.cell (i := 0) rfl rfl)) rfl ?_
    clear hA a; intro a hA
    refine m1g hA hS (dj := 9) rfl rfl rfl hp1 (Y.load rfl Tryz.isAgg106 (fun w h => h.rd (by simp) (Nat.zero_le _) (c2))) rfl ?_
    clear hA a; intro a hA
    refine m_callbg (dj := 9) hA hS rfl rfl rfl hp1 Tryz.call84 rfl rfl (containsFuncInv_c _ _ _ p.inv _ _ (fun i => decide (i.who = who)) _ (hin.inv.gr (hS.gr0 (by simp))) Tryz.call82 (fun W x hg => by simpa using mine_c x who bwho W _ _ (c3 W ((hS.gr0 (by simp)).tr hg)) h3)) ?_
    clear hA a; intro a w hA hS hg
    refine m1 hA hS (Y.pickT' rfl hp1 rfl) rfl ?_
    clear hA a; intro a hA
    exact m_nil (m_then ⟨hA.keep [14, 9, 4, 3, 2] rfl, hS⟩)
  · clear hA hS a; intro a w hA hS
    refine m1 hA hS (Y.assign rfl) rfl ?_
    clear hA a; intro a hA
    refine m_nil ?_
    refine m_then ?_
    refine m_retc ?_
    refine m_ret1 hA Tryz.results83 rfl ?_
    exact ⟨rfl, hS.gr0 (by simp)⟩
set_option maxRecDepth 100000 in
theorem goes_c (p : Pty) (x : Inv) (m v : Value) (id who : Int) (yes : Bool) (bid bmine bwho byes : Nat) (w : World) (B : List Bx) (V : List (Nat × World)) (hS : St w B V)
    (h1 : cB bid [.int .i64 id] 3 ∈ B) (h2 : cB bmine [.func (.func 82) #[] [Value.pointer (some ⟨bwho, 0, none⟩)].toArray] 106 ∈ B) (h3 : cB bwho [.int .i64 who] 3 ∈ B) (h4 : cB byes [.bool yes] 4 ∈ B) :
    Calls Tryz.prog 85 ([Value.agg #[.int .i64 p.id, .int .i64 p.leader, m, v], Value.agg #[.int .i64 x.who, .int .i64 x.til]] ++ [Value.pointer (some ⟨bmine, 0, none⟩), Value.pointer (some ⟨byes, 0, none⟩), Value.pointer (some ⟨bid, 0, none⟩)]).toArray w fun e w' => e = .returned (.bool (decide (x.who = who) && (yes || decide (p.id = id)))) ∧ Gr w w' := by
  have c1 := hS.cellM (j := 0) h1 rfl
  have c2 := hS.cellM (j := 0) h2 rfl
  have c4 := hS.cellM (j := 0) h4 rfl
  have c3 : ∀ W, Gr w W → St W B V := fun W hg => hS.gr hg
  clear hS
  refine m_enter Tryz.func85 rfl Tryz.ntmps85 (Nat.le_of_ble_eq_true rfl) ?_
  intro a hA
  have hS := St.start w
  refine m_seq ?_
  refine m_region ?_
  refine m_box hA hS rfl rfl ?_
  clear hA hS a; intro a b1 w hA hleb1 hgb1 hS
  refine m_box hA hS rfl rfl ?_
  clear hA hS a; intro a b2 w hA hleb2 hgb2 hS
  refine m1 hA hS (Y.assign rfl) rfl ?_
  clear hA a; intro a hA
  refine m_nil ?_
  refine m_then ?_
  refine m_seq ?_
  refine m_region ?_
  refine m1 hA hS (Y.load rfl Tryz.isAgg106 (fun w h => h.rd (by simp) (Nat.zero_le _) (c2))) rfl ?_
  clear hA a; intro a hA
  refine m1 hA hS (Y.loads rfl Tryz.isAgg61 Tryz.sizeOf61 (fun w h => h.cells (i := 0) rfl) rfl) rfl ?_
  clear hA a; intro a hA
  refine m_callv hA rfl Tryz.call82 rfl rfl ((mine_c x who bwho _ _ _ (c3 _ (hS.gr0 (by simp))) h3).mono ?_)
  rintro e w ⟨rfl, hg⟩
  refine ⟨_, rfl, ?_⟩
  clear hA a; intro a hA
  replace hS := hS.gr hg
  refine m1 hA hS (Y.move rfl) rfl ?_
  clear hA a; intro a hA
  replace hA := hA.keep [11, 7, 5, 3, 4] rfl
  apply m_and 8 19 11 hA hS rfl
  · intro hp1
    refine m1s hA (dj := 11) rfl rfl rfl hp1 rfl ?_
    intro a hA
    refine m1s hA (dj := 11) rfl rfl rfl hp1 rfl ?_
    clear hA a; intro a hA
    refine m1u hA (dj := 13) rfl rfl rfl rfl ?_
    clear hA a; intro a hA
    refine m1u hA (dj := 13) rfl rfl rfl rfl ?_
    clear hA a; intro a hA
    refine m1u hA (dj := 13) rfl rfl rfl rfl ?_
    clear hA a; intro a hA
    refine m1u hA (dj := 13) rfl rfl rfl rfl ?_
    clear hA a; intro a hA
    refine m1s hA (dj := 11) rfl rfl rfl hp1 rfl ?_
    clear hA a; intro a hA
    refine m1 hA hS (Y.pickF' rfl hp1 rfl) rfl ?_
    clear hA a; intro a hA
    exact m_nil (m_then ⟨hA.keep [19, 11, 7, 5, 3, 4] rfl, hS⟩)
  · intro hp1
    refine m1g hA hS (dj := 11) rfl rfl rfl hp1 (Y.load rfl Tryz.isAgg4 (fun w h => h.rd (by simp) (Nat.zero_le _) (c4))) rfl ?_
    intro a hA
    refine m1g hA hS (dj := 11) rfl rfl rfl hp1 (Y.move rfl) rfl ?_
    clear hA a; intro a hA
    replace hA := hA.keep [13, 11, 7, 5, 3, 4] rfl
    apply m_or 5 18 13 hA hS rfl
    · intro hp2
      refine m1s hA (dj := 13) rfl rfl rfl hp2 rfl ?_
      intro a hA
      refine m1s hA (dj := 13) rfl rfl rfl hp2 rfl ?_
      clear hA a; intro a hA
      refine m1s hA (dj := 13) rfl rfl rfl hp2 rfl ?_
      clear hA a; intro a hA
      refine m1s hA (dj := 13) rfl rfl rfl hp2 rfl ?_
      clear hA a; intro a hA
      refine m1g hA hS (dj := 11) rfl rfl rfl hp1 (Y.pickT' rfl hp2 rfl) rfl ?_
      clear hA a; intro a hA
      exact m_nil (m_then ⟨hA.keep [18, 13, 11, 7, 5, 3, 4] rfl, hS⟩)
    · intro hp2
      refine m1g hA hS (dj := 13) rfl rfl rfl hp2 (Y.fieldAddr (k := 0) rfl Tryz.underlying46 rfl rfl Tryz.sizeOf3) rfl ?_
      intro a hA
      refine m1g hA hS (dj := 13) rfl rfl rfl hp2 (Y.load rfl Tryz.isAgg3 (fun w h => h.cell (i := 1) rfl rfl)) rfl ?_
      clear hA a; intro a hA
      refine m1g hA hS (dj := 13) rfl rfl rfl hp2 (Y.load rfl Tryz.isAgg3 (fun w h => h.rd (by simp) (Nat.zero_le _) (c1))) rfl ?_
      clear hA a; intro a hA
      refine m1g hA hS (dj := 13) rfl rfl rfl hp2 (Y.eqI rfl rfl) rfl ?_
      clear hA a; intro a hA
      refine m1g hA hS (dj := 11) rfl rfl rfl hp1 (Y.pickF' rfl hp2 rfl) rfl ?_
      clear hA a; intro a hA
      exact m_nil (m_then ⟨hA.keep [18, 13, 11, 7, 5, 3, 4] rfl, hS⟩)
    · clear hA a; intro a w hA hS
      refine m1 hA hS (Y.pickT' rfl hp1 rfl) rfl ?_
      clear hA a; intro a hA
      exact m_nil (m_then ⟨hA.keep [19, 11, 7, 5, 3, 4] rfl, hS⟩)
  · clear hA hS a; intro a w hA hS
    refine m1 hA hS (Y.assign rfl) rfl ?_
    clear hA a; intro a hA
    refine m_nil ?_
    refine m_then ?_
    refine m_retc ?_
    refine m_ret1 hA Tryz.results85 rfl ?_
    exact ⟨rfl, hS.gr0 (by simp)⟩
end Go.Proofs.YtljkhijdaaconaaGreat

namespace Go.Proofs.YtljkhijdaaconaaGreat
open Go.RowKit

set_option maxRecDepth 100000 in
set_option maxHeartbeats 1000000 in
theorem answer1_c (who id : Int) (yes : Bool) (H : Hall) (bw bid byes : Nat) (B : List Bx) (V : List (Nat × World)) (w0 : World) (hw0 : (0, w0) ∈ V) (h1 : cB bw [.int .i64 who] 3 ∈ B) (h2 : cB bid [.int .i64 id] 3 ∈ B) (h3 : cB byes [.bool yes] 4 ∈ B) :
    Changes 81 [.pointer (some ⟨bw, 0, none⟩), .pointer (some ⟨bid, 0, none⟩), .pointer (some ⟨byes, 0, none⟩)] (ansF who id yes) H B V := by
  intro hval w B' b0 T pv bs hsub hS hH
  obtain ⟨y1, y2, _⟩ := valid_small hval
  have h1' := hsub _ h1
  have h2' := hsub _ h2
  have h3' := hsub _ h3
  obtain ⟨A', c', rfl⟩ := hH.shape
  refine m_enter Tryz.func81 rfl Tryz.ntmps81 (Nat.le_of_ble_eq_true rfl) ?_
  intro a hA
  refine m_seq ?_
  refine m_region ?_
  refine m1 hA hS (Y.assign rfl) rfl ?_
  clear hA a; intro a hA
  refine m_nil ?_
  refine m_then ?_
  refine m_seq ?_
  refine m_region ?_
  refine m1 hA hS (Y.func rfl) rfl ?_
  clear hA a; intro a hA
  refine m_alloc hA hS Tryz.zeroValue106 rfl ?_
  clear hA hS a; intro a b1 w hA hleb1 hgb1 hS
  refine m_store 0 hA hS rfl rfl Tryz.sizeOf106 rfl rfl rfl rfl ?_
  clear hS; intro w hS
  refine m_nil ?_
  refine m_then ?_
  refine m_seq ?_
  refine m_region ?_
  refine m1 hA hS (Y.move rfl) rfl ?_
  clear hA a; intro a hA
  refine m1 hA hS (Y.nil rfl) rfl ?_
  clear hA a; intro a hA
  refine m1 hA hS (Y.fieldAddr (k := 2) rfl Tryz.underlying24 rfl rfl Tryz.sizeOf22) rfl ?_
  clear hA a; intro a hA
  refine m1 hA hS (Y.load rfl Tryz.isAgg22 (fun w h => h.cell (i := 1) rfl rfl)) rfl ?_
  clear hA a; intro a hA
  refine m1 hA hS (Y.func rfl) rfl ?_
  clear hA a; intro a hA
  have hS2 : St w ([cB b1 [.func (.func 82) #[] [Value.pointer (some ⟨bw, 0, none⟩)].toArray] 106] ++ (cB b0 [.int .i64 H.tick, .int .i64 H.last, .slice A' H.ps.length c'] T :: (bs ++ B'))) V := hS
  replace hS := hS2
  clear hS2
  refine m_callb hA hS Tryz.call59 rfl rfl (indexFuncPty_c _ _ _ H.ps 83 _ (fun p => decide (p.id = id) && p.inv.any fun i => decide (i.who = who)) _ (hH.in hS.gone hw0) Tryz.call83 (fun W z hz => by simpa using has_c z.1 z.2.1 z.2.2.1 z.2.2.2.1 z.2.2.2.2.1 z.2.2.2.2.2.1 z.2.2.2.2.2.2 id who bid b1 bw W _ V (hS.gr hz.1) hz.2 (by simp [h2']) (by simp) (by simp [h1']))) ?_
  clear hA hS a; intro a w hA hS hg
  obtain ⟨ix, hix⟩ : ∃ ix, ix = idxF (fun p : Pty => decide (p.id = id) && p.inv.any fun i => decide (i.who = who)) 0 H.ps := ⟨_, rfl⟩
  rw [← hix] at hA
  refine m1 hA hS (Y.assign rfl) rfl ?_
  clear hA a; intro a hA
  refine m_nil ?_
  refine m_then ?_
  refine m_seq ?_
  refine m_seq ?_
  refine m_region ?_
  refine m1 hA hS (Y.move rfl) rfl ?_
  clear hA a; intro a hA
  refine m1 hA hS (Y.ltI rfl rfl) rfl ?_
  clear hA a; intro a hA
  refine m_nil ?_
  refine m_then ?_
  refine m_condP hA rfl (fun hlt => ?_) (fun hlt => ?_)
  · have hF : ansF who id yes H = (H, 6) := by
      unfold ansF
      simp only
      rw [← hix, if_pos hlt]
    refine m_seq ?_
    refine m_region ?_
    refine m1 hA hS (Y.assign rfl) rfl ?_
    clear hA a; intro a hA
    refine m_nil ?_
    refine m_then ?_
    refine m_retc ?_
    refine r_then ?_
    refine m_ret1 hA Tryz.results81 rfl ?_
    rw [hF]
    refine ⟨rfl, ?_⟩
    rw [if_neg (by simp)]
    exact (hS.gone.gone).goneL
  · have hSp : St w (cB b0 [.int .i64 H.tick, .int .i64 H.last, .slice A' H.ps.length c'] T :: (bs ++ (cB b1 [.func (.func 82) #[] [Value.pointer (some ⟨bw, 0, none⟩)].toArray] 106 :: B'))) V :=
      hS.perm (List.perm_iff_count.2 fun a => by simp only [List.count_append, List.count_cons, List.count_nil]; omega)
    refine m_skip ?_
    refine m_then ?_
    refine m_seq ?_
    refine m_region ?_
    refine m1 hA hS (Y.move rfl) rfl ?_
    clear hA a; intro a hA
    refine m1 hA hS (Y.func rfl) rfl ?_
    clear hA a; intro a hA
    refine m_call hA Tryz.call55 rfl rfl ((uninvite_c b0 T _ _ _ H.ps bs _ V 85 [.pointer (some ⟨b1, 0, none⟩), .pointer (some ⟨byes, 0, none⟩), .pointer (some ⟨bid, 0, none⟩)] (fun p i => decide (i.who = who) && (yes || decide (p.id = id))) w0 _ hSp hw0 hH Tryz.call85 (fun W bs' h p i m v => goes_c p i m v id who yes bid b1 bw byes W _ V h (by simp [h2']) (by simp) (by simp [h1']) (by simp [h3']))).mono ?_)
    rintro e w ⟨bs1, rfl, hH1, hS⟩
    refine ⟨_, rfl, ?_⟩
    clear hA a; intro a hA
    clear hH hSp
    obtain ⟨k, hk⟩ : ∃ k : Nat, ix = (k : Int) := ⟨ix.toNat, by omega⟩
    subst hk
    refine m_nil ?_
    refine m_then ?_
    refine m_seq ?_
    refine m_seq ?_
    refine m_region ?_
    refine m1 hA hS (Y.load rfl Tryz.isAgg4 (fun w h => h.cellM (cs := [.bool yes]) (T := 4) (by simp [h3']) rfl)) rfl ?_
    clear hA a; intro a hA
    refine m_nil ?_
    refine m_then ?_
    refine m_cond hA rfl (fun hy => ?_) (fun hy => ?_)
    · subst hy
      have hkl : k < H.ps.length := by
        rcases idxF_cases (fun p : Pty => decide (p.id = id) && p.inv.any fun i => decide (i.who = who)) H.ps 0 with ⟨e, _⟩ | ⟨pre, x, post, e, e2, _⟩
        · omega
        · rw [e]; simp; omega
      obtain ⟨p, hp⟩ : ∃ p, H.ps[k]? = some p := ⟨_, List.getElem?_eq_getElem hkl⟩
      obtain ⟨q, hq⟩ : ∃ q, q = unF (fun p i => decide (i.who = who) && (true || decide (p.id = id))) p := ⟨_, rfl⟩
      have hq' : (H.ps.map (unF fun p i => decide (i.who = who) && (true || decide (p.id = id))))[k]? = some q := by rw [List.getElem?_map, hp, hq]; rfl
      have hqm : q.mem.length ≤ 5 := by
        rw [hq]
        have := y2 p (List.mem_of_getElem? hp)
        simp [unF]; omega
      have hF : ansF who id true H = ({ H with ps := (H.ps.map (unF fun p i => decide (i.who = who) && (true || decide (p.id = id)))).set k { q with mem := q.mem ++ [who] } }, 0) := by
        unfold ansF
        simp only
        rw [← hix, if_neg hlt, if_pos trivial, Int.toNat_natCast, modify_at hq']
      obtain ⟨g, c, cs, rest, bp, hpv, rfl, hP, hn, hmax, hl, hle⟩ := hH1.row (by simp; omega)
      rw [List.length_map] at hpv hn hle
      cases hpv
      obtain ⟨cl, c4, cr, bl, b, br, rfl, rfl, k1, ⟨mv, iv, bm, bi, rfl, hmm, hiv, rfl, hml, hil⟩, k3, hcl⟩ := hP.focus hq'
      obtain ⟨A1, e1, rfl⟩ := hmm.shape
      have hget : ∀ j v, ([Value.int .i64 q.id, .int .i64 q.leader, .slice A1 q.mem.length e1, iv] : List Value)[j]? = some v → ((cl ++ ([Value.int .i64 q.id, .int .i64 q.leader, .slice A1 q.mem.length e1, iv] ++ cr)) ++ rest)[0 + k * 4 + j]? = some v := by
        intro j v hj
        rw [List.append_assoc, List.append_assoc]
        exact mid_get (by omega) j v hj
      refine d_region (fun w => St w (cB b0 [.int .i64 H.tick, .int .i64 H.last, .slice (some ⟨g, 0, none⟩) H.ps.length c'] T :: (cB g ((cl ++ ([Value.int .i64 q.id, .int .i64 q.leader, .slice A1 q.mem.length e1, iv] ++ cr)) ++ rest) 46 :: (cB b1 [.func (.func 82) #[] [Value.pointer (some ⟨bw, 0, none⟩)].toArray] 106 :: B'))) V) [3, 8, 12, 13] [0, 1, 2, 3, 4, 5, 6, 7, 8, 9, 10, 11, 12, 13, 16, 17] _ _ hS rfl 19 [false, false, false, false, false, false, false, false, false, false, false, false, false, false, false, false, false, false, false] rfl rfl ?_
      clear hS; intro w hS _
      have hQ : St w (cB b0 [.int .i64 H.tick, .int .i64 H.last, .slice (some ⟨g, 0, none⟩) H.ps.length c'] T :: (cB g ((cl ++ ([Value.int .i64 q.id, .int .i64 q.leader, .slice A1 q.mem.length e1, iv] ++ cr)) ++ rest) 46 :: (cB b1 [.func (.func 82) #[] [Value.pointer (some ⟨bw, 0, none⟩)].toArray] 106 :: B'))) V := hS.sub (.cons_cons _ (.cons_cons _ (List.sublist_append_right _ _)))
      refine d_take 0 (bs' := [true, false, false, false, false, false, false, false, false, false, false, false, false, false, false, false, false, false, false]) hA rfl rfl (by kernel_rfl) (fun _ _ _ h => h) (Y.move rfl) rfl ?_
      clear hA a; intro a hA
      refine d_take 1 (bs' := [true, true, false, false, false, false, false, false, false, false, false, false, false, false, false, false, false, false, false]) hA rfl rfl (by kernel_rfl) (fun _ _ _ h => h) (Y.nil rfl) rfl ?_
      clear hA a; intro a hA
      refine d_take 2 (bs' := [true, true, true, false, false, false, false, false, false, false, false, false, false, false, false, false, false, false, false]) hA rfl rfl (by kernel_rfl) (fun _ _ _ h => h) (Y.fieldAddr (k := 2) rfl Tryz.underlying24 rfl rfl Tryz.sizeOf22) rfl ?_
      clear hA a; intro a hA
      refine d_load 3 (bs' := [true, true, true, true, false, false, false, false, false, false, false, false, false, false, false, false, false, false, false]) hA hQ rfl rfl rfl (by kernel_rfl) (fun _ _ _ h => h) (Y.load rfl Tryz.isAgg22 (fun w h => h.cell (i := 0) rfl rfl)) rfl ?_
      clear hA a; intro a hA
      refine d_take 4 (bs' := [true, true, true, true, true, false, false, false, false, false, false, false, false, false, false, false, false, false, false]) hA rfl rfl (by kernel_rfl) (fun _ _ _ h => h) (Y.move rfl) rfl ?_
      clear hA a; intro a hA
      refine d_take 5 (bs' := [true, true, true, true, true, true, false, false, false, false, false, false, false, false, false, false, false, false, false]) hA rfl rfl (by kernel_rfl) (fun _ _ _ h => h) (Y.move rfl) rfl ?_
      clear hA a; intro a hA
      refine d_take 6 (bs' := [true, true, true, true, true, true, true, false, false, false, false, false, false, false, false, false, false, false, false]) hA rfl rfl (by kernel_rfl) (fun _ _ _ h => h) (Y.nil rfl) rfl ?_
      clear hA a; intro a hA
      refine d_take 7 (bs' := [true, true, true, true, true, true, true, true, false, false, false, false, false, false, false, false, false, false, false]) hA rfl rfl (by kernel_rfl) (fun _ _ _ h => h) (Y.fieldAddr (k := 2) rfl Tryz.underlying24 rfl rfl Tryz.sizeOf22) rfl ?_
      clear hA a; intro a hA
      refine d_load 8 (bs' := [true, true, true, true, true, true, true, true, true, false, false, false, false, false, false, false, false, false, false]) hA hQ rfl rfl rfl (by kernel_rfl) (fun _ _ _ h => h) (Y.load rfl Tryz.isAgg22 (fun w h => h.cell (i := 0) rfl rfl)) rfl ?_
      clear hA a; intro a hA
      refine d_take 9 (bs' := [true, true, true, true, true, true, true, true, true, true, false, false, false, false, false, false, false, false, false]) hA rfl rfl (by kernel_rfl) (fun _ _ _ h => h) (Y.move rfl) rfl ?_
      clear hA a; intro a hA
      refine d_take 10 (bs' := [true, true, true, true, true, true, true, true, true, true, true, false, false, false, false, false, false, false, false]) hA rfl rfl (by kernel_rfl) (fun _ _ _ h => h) (Y.indexAddrN rfl rfl Tryz.underlying22 Tryz.sizeOf46 (by omega)) rfl ?_
      clear hA a; intro a hA
      refine d_take 11 (bs' := [true, true, true, true, true, true, true, true, true, true, true, true, false, false, false, false, false, false, false]) hA rfl rfl (by kernel_rfl) (fun _ _ _ h => h) (Y.fieldAddr (k := 2) rfl Tryz.underlying46 rfl rfl Tryz.sizeOf38) rfl ?_
      clear hA a; intro a hA
      refine d_load 12 (bs' := [true, true, true, true, true, true, true, true, true, true, true, true, true, false, false, false, false, false, false]) hA hQ rfl rfl rfl (by kernel_rfl) (fun _ _ _ h => h) (Y.load rfl Tryz.isAgg38 (fun w h => h.cell (i := 1) rfl (hget 2 _ rfl))) rfl ?_
      clear hA a; intro a hA
      refine d_load 13 (bs' := [true, true, true, true, true, true, true, true, true, true, true, true, true, true, false, false, false, false, false]) hA hQ rfl rfl rfl (by kernel_rfl) (fun _ _ _ h => h) (Y.load rfl Tryz.isAgg3 (fun w h => h.cellM (cs := [.int .i64 who]) (T := 3) (by simp [h1']) rfl)) rfl ?_
      clear hA a; intro a hA
      refine d_one 14 (bs' := [true, true, true, true, true, true, true, true, true, true, true, true, true, true, true, false, false, false, false]) true rfl (by kernel_rfl) ?_
      refine m_buildSlice ([.int .i64 who]) hA hS rfl rfl (bs_int who) ?_
      clear hA hS a; intro a b2 w hA hgb2 hS
      replace hQ := hQ.gr hgb2
      refine m_nil (m_then ⟨fun _ => hQ, ?_⟩)
      refine d_one 15 (bs' := [true, true, true, true, true, true, true, true, true, true, true, true, true, true, true, true, false, false, false]) true rfl (by kernel_rfl) ?_
      have hSp : St w (bm ++ ([cB b2 [.int .i64 who] 3, cB b0 [.int .i64 H.tick, .int .i64 H.last, .slice (some ⟨g, 0, none⟩) H.ps.length c'] T, cB g ((cl ++ ([Value.int .i64 q.id, .int .i64 q.leader, .slice A1 q.mem.length e1, iv] ++ cr)) ++ rest) 46] ++ ((bl ++ (bi ++ br)) ++ (cB b1 [.func (.func 82) #[] [Value.pointer (some ⟨bw, 0, none⟩)].toArray] 106 :: B')))) V :=
        hS.perm (List.perm_iff_count.2 fun a => by simp only [List.count_append, List.count_cons, List.count_nil]; omega)
      refine m_append (bs := bm) 3 8 [.int .i64 who] elemInt hA hSp hmm rfl rfl rfl Tryz.underlying38 rfl (hS.cells (i := 0) rfl) (List.all_eq_true.1 rfl) (by omega) (by decide) ?_
      clear hA hS hSp a; intro a w v' bm' hA hR' hn' hS
      obtain ⟨A3, e3, rfl⟩ := hR'.shape
      replace hQ : St w (cB b0 [.int .i64 H.tick, .int .i64 H.last, .slice (some ⟨g, 0, none⟩) H.ps.length c'] T :: (cB g ((cl ++ ([Value.int .i64 q.id, .int .i64 q.leader, .slice A1 q.mem.length e1, iv] ++ cr)) ++ rest) 46 :: (cB b1 [.func (.func 82) #[] [Value.pointer (some ⟨bw, 0, none⟩)].toArray] 106 :: B'))) V := (hS.goneL).sub (.cons _ (.cons_cons _ (.cons_cons _ (List.sublist_append_right _ _))))
      replace hS : St w ([cB b0 [.int .i64 H.tick, .int .i64 H.last, .slice (some ⟨g, 0, none⟩) H.ps.length c'] T, cB g ((cl ++ ([Value.int .i64 q.id, .int .i64 q.leader, .slice A1 q.mem.length e1, iv] ++ cr)) ++ rest) 46] ++ ((bl ++ ((bm' ++ bi) ++ br)) ++ ([cB b2 [.int .i64 who] 3] ++ (cB b1 [.func (.func 82) #[] [Value.pointer (some ⟨bw, 0, none⟩)].toArray] 106 :: B')))) V :=
        hS.perm (List.perm_iff_count.2 fun a => by simp only [List.count_append, List.count_cons, List.count_nil]; omega)
      refine m_nil (m_then ⟨fun _ => hQ, ?_⟩)
      refine d_take 16 (bs' := [true, true, true, true, true, true, true, true, true, true, true, true, true, true, true, true, true, false, false]) hA rfl rfl (by kernel_rfl) (fun _ _ _ h => h) (Y.indexAddrN rfl rfl Tryz.underlying22 Tryz.sizeOf46 (by omega)) rfl ?_
      clear hA a; intro a hA
      refine d_take 17 (bs' := [true, true, true, true, true, true, true, true, true, true, true, true, true, true, true, true, true, true, false]) hA rfl rfl (by kernel_rfl) (fun _ _ _ h => h) (Y.fieldAddr (k := 2) rfl Tryz.underlying46 rfl rfl Tryz.sizeOf38) rfl ?_
      clear hA a; intro a hA
      refine d_one 18 (bs' := [true, true, true, true, true, true, true, true, true, true, true, true, true, true, true, true, true, true, true]) false rfl (by kernel_rfl) ?_
      refine m_storeP 1 ((cl ++ ([Value.int .i64 q.id, .int .i64 q.leader, .slice A3 (q.mem.length + 1) e3, iv] ++ cr)) ++ rest) hA hS rfl rfl Tryz.sizeOf38 rfl rfl (by simp only [List.length_append, List.length_cons, List.length_nil]; omega) (List.all_eq_true.1 rfl) ?_ ?_
      · have := spl_mid (l := cl ++ [Value.int .i64 q.id, .int .i64 q.leader]) (c := [.slice A1 q.mem.length e1]) (r := [iv] ++ (cr ++ rest)) (c' := [.slice A3 (q.mem.length + 1) e3]) (o := 0 + k * 4 + 2) (by simp only [List.length_append, List.length_cons, List.length_nil]; omega) rfl
        simpa [Value.cells] using this
      clear hS; intro w hS
      have hl2 : ((cl ++ ([Value.int .i64 q.id, .int .i64 q.leader, .slice A3 (q.mem.length + 1) e3, iv] ++ cr)) ++ rest).length = c' * 4 := by
        simp only [List.length_append, List.length_cons, List.length_nil] at hl ⊢
        omega
      refine m_nil (m_then ⟨fun h => (by cases h), ?_⟩)
      refine d_done (by kernel_rfl) ?_
      refine m_then ?_
      refine m_seq ?_
      refine m_region ?_
      refine m1 hA hS (Y.assign rfl) rfl ?_
      clear hA a; intro a hA
      refine m_nil ?_
      refine m_then ?_
      refine m_retc ?_
      refine m_ret1 hA Tryz.results81 rfl ?_
      have hmn : IntsB (.slice A3 (q.mem.length + 1) e3) (q.mem ++ [who]) bm' := by
        have := hR'
        simpa [IntsB] using this
      have hN := PtysB.unfocus (p := { q with mem := q.mem ++ [who] }) (ps := H.ps.map (unF fun p i => decide (i.who = who) && (true || decide (p.id = id)))) (k := k) (by simpa using hkl) k1 ⟨_, _, bm', bi, rfl, hmn, hiv, rfl, by simp; omega, hil⟩ k3
      have hN2 := HallB.of (g := g) (c := c') (rest := rest) hN (by simpa using hn) hmax hl2 (by simpa using hle)
      rw [List.length_set, List.length_map] at hN2
      rw [hF]
      refine ⟨rfl, ?_⟩
      rw [if_pos rfl]
      refine ⟨_, _, hN2, ?_⟩
      exact (St.perm (B' := [cB b2 [.int .i64 who] 3, cB b1 [.func (.func 82) #[] [Value.pointer (some ⟨bw, 0, none⟩)].toArray] 106] ++ (cB b0 [.int .i64 H.tick, .int .i64 H.last, .slice (some ⟨g, 0, none⟩) H.ps.length c'] T :: ((cB g ((cl ++ ([Value.int .i64 q.id, .int .i64 q.leader, .slice A3 (q.mem.length + 1) e3, iv] ++ cr)) ++ rest) 46 :: (bl ++ ((bm' ++ bi) ++ br))) ++ B'))) (B := [cB b0 [.int .i64 H.tick, .int .i64 H.last, .slice (some ⟨g, 0, none⟩) H.ps.length c'] T, cB g ((cl ++ ([Value.int .i64 q.id, .int .i64 q.leader, .slice A3 (q.mem.length + 1) e3, iv] ++ cr)) ++ rest) 46] ++ ((bl ++ ((bm' ++ bi) ++ br)) ++ ([cB b2 [.int .i64 who] 3] ++ (cB b1 [.func (.func 82) #[] [Value.pointer (some ⟨bw, 0, none⟩)].toArray] 106 :: B')))) hS (List.perm_iff_count.2 fun a => by simp only [List.count_append, List.count_cons, List.count_nil]; omega)).goneL
    · subst hy
      have hF : ansF who id false H = ({ H with ps := H.ps.map (unF fun p i => decide (i.who = who) && (false || decide (p.id = id))) }, 0) := by
        unfold ansF
        simp only
        rw [← hix, if_neg hlt]
        simp
      refine m_skip ?_
      refine m_then ?_
      refine m_seq ?_
      refine m_region ?_
      refine m1 hA hS (Y.assign rfl) rfl ?_
      clear hA a; intro a hA
      refine m_nil ?_
      refine m_then ?_
      refine m_retc ?_
      refine m_ret1 hA Tryz.results81 rfl ?_
      rw [hF]
      refine ⟨rfl, ?_⟩
      rw [if_pos rfl]
      refine ⟨_, bs1, hH1, ?_⟩
      exact (St.perm (B' := [cB b1 [.func (.func 82) #[] [Value.pointer (some ⟨bw, 0, none⟩)].toArray] 106] ++ (cB b0 [.int .i64 H.tick, .int .i64 H.last, .slice A' H.ps.length c'] T :: (bs1 ++ B'))) hS (List.perm_iff_count.2 fun a => by simp only [List.count_append, List.count_cons, List.count_nil]; omega)).goneL
set_option maxRecDepth 100000 in
theorem answer_c (who id : Int) (yes : Bool) (H : Hall) (A : Option Addr) (n c : Nat) (B : List Bx) (V : List (Nat × World)) (lo : Nat) (v w0 w : World) (hS : St w B V) (hw0 : (0, w0) ∈ V) (hv : (lo, v) ∈ V) (hP : PtysL lo v A n H.ps) :
    Calls Tryz.prog 43 #[.agg #[.int .i64 H.tick, .int .i64 H.last, .slice A n c], .int .i64 who, .int .i64 id, .bool yes] w (Gives (change (ansF who id yes) H) B V) := by
  refine m_enter Tryz.func43 rfl Tryz.ntmps43 (Nat.le_of_ble_eq_true rfl) ?_
  intro a hA
  refine m_seq ?_
  refine m_region ?_
  refine m_box hA hS rfl rfl ?_
  clear hA hS a; intro a b1 w hA hleb1 hgb1 hS
  refine m_box hA hS rfl rfl ?_
  clear hA hS a; intro a b2 w hA hleb2 hgb2 hS
  refine m_box hA hS rfl rfl ?_
  clear hA hS a; intro a b3 w hA hleb3 hgb3 hS
  refine m_box hA hS rfl rfl ?_
  clear hA hS a; intro a b4 w hA hleb4 hgb4 hS
  refine m_alloc hA hS Tryz.zeroValue24 rfl ?_
  clear hA hS a; intro a b5 w hA hleb5 hgb5 hS
  refine m1 hA hS (Y.assign rfl) rfl ?_
  clear hA a; intro a hA
  refine m_nil ?_
  refine m_then ?_
  refine m_seq ?_
  refine m_region ?_
  refine m1 hA hS (Y.loads rfl Tryz.isAgg24 Tryz.sizeOf24 (fun w h => h.cells (i := 4) rfl) rfl) rfl ?_
  clear hA a; intro a hA
  refine m1 hA hS (Y.func rfl) rfl ?_
  clear hA a; intro a hA
  refine m_call hA Tryz.call51 rfl rfl ((change_c H A n c 81 [.pointer (some ⟨b2, 0, none⟩), .pointer (some ⟨b3, 0, none⟩), .pointer (some ⟨b4, 0, none⟩)] (ansF who id yes) _ V lo v w0 _ hS hw0 hv hP Tryz.call81 (answer1_c who id yes H b2 b3 b4 _ V w0 hw0 (by simp [Value.cells]) (by simp [Value.cells]) (by simp [Value.cells]))).mono ?_)
  rintro e w ⟨pv, bs, rfl, hH, hSn⟩
  refine ⟨_, rfl, ?_⟩
  clear hA a; intro a hA
  obtain ⟨A', c', rfl⟩ := hH.shape
  have hS := St.front (X := [_, _, _, _]) _ hSn
  refine m1 hA hS (Y.extract rfl rfl) rfl ?_
  clear hA a; intro a hA
  refine m1 hA hS (Y.extract rfl rfl) rfl ?_
  clear hA a; intro a hA
  refine m_store 0 hA hS rfl rfl Tryz.sizeOf24 rfl rfl rfl rfl ?_
  clear hS; intro w hS
  refine m1 hA hS (Y.assign rfl) rfl ?_
  clear hA a; intro a hA
  refine m_nil ?_
  refine m_then ?_
  refine m_retc ?_
  refine m_retc2 0 hA hS Tryz.results43 rfl rfl rfl Tryz.isAgg24 Tryz.sizeOf24 ?_
  exact ⟨_, bs, rfl, hH, hS.gone⟩
set_option maxRecDepth 100000 in
theorem accept_c (who id : Int) (H : Hall) (A : Option Addr) (n c : Nat) (B : List Bx) (V : List (Nat × World)) (lo : Nat) (v w0 w : World) (hS : St w B V) (hw0 : (0, w0) ∈ V) (hv : (lo, v) ∈ V) (hP : PtysL lo v A n H.ps) :
    Calls Tryz.prog 14 #[.agg #[.int .i64 H.tick, .int .i64 H.last, .slice A n c], .int .i64 who, .int .i64 id] w (Gives (change (ansF who id true) H) B V) := by
  refine m_enter Tryz.func14 rfl Tryz.ntmps14 (Nat.le_of_ble_eq_true rfl) ?_
  intro a hA
  refine m_seq ?_
  refine m_region ?_
  refine m_box hA hS rfl rfl ?_
  clear hA hS a; intro a b1 w hA hleb1 hgb1 hS
  refine m_alloc hA hS Tryz.zeroValue24 rfl ?_
  clear hA hS a; intro a b2 w hA hleb2 hgb2 hS
  refine m1 hA hS (Y.assign rfl) rfl ?_
  clear hA a; intro a hA
  refine m_nil ?_
  refine m_then ?_
  refine m_seq ?_
  refine m_region ?_
  refine m1 hA hS (Y.loads rfl Tryz.isAgg24 Tryz.sizeOf24 (fun w h => h.cells (i := 1) rfl) rfl) rfl ?_
  clear hA a; intro a hA
  refine m1 hA hS (Y.move rfl) rfl ?_
  clear hA a; intro a hA
  refine m1 hA hS (Y.move rfl) rfl ?_
  clear hA a; intro a hA
  refine m_call hA Tryz.call43 rfl rfl ((answer_c who id true H A n c _ V lo v w0 _ hS hw0 hv hP).mono ?_)
  rintro e w ⟨pv, bs, rfl, hH, hSn⟩
  refine ⟨_, rfl, ?_⟩
  clear hA a; intro a hA
  obtain ⟨A', c', rfl⟩ := hH.shape
  have hS := St.front (X := [_]) _ hSn
  refine m1 hA hS (Y.extract rfl rfl) rfl ?_
  clear hA a; intro a hA
  refine m1 hA hS (Y.extract rfl rfl) rfl ?_
  clear hA a; intro a hA
  refine m_store 0 hA hS rfl rfl Tryz.sizeOf24 rfl rfl rfl rfl ?_
  clear hS; intro w hS
  refine m1 hA hS (Y.assign rfl) rfl ?_
  clear hA a; intro a hA
  refine m_nil ?_
  refine m_then ?_
  refine m_retc ?_
  refine m_retc2 0 hA hS Tryz.results14 rfl rfl rfl Tryz.isAgg24 Tryz.sizeOf24 ?_
  exact ⟨_, bs, rfl, hH, hS.gone⟩
set_option maxRecDepth 100000 in
theorem decline_c (who id : Int) (H : Hall) (A : Option Addr) (n c : Nat) (B : List Bx) (V : List (Nat × World)) (lo : Nat) (v w0 w : World) (hS : St w B V) (hw0 : (0, w0) ∈ V) (hv : (lo, v) ∈ V) (hP : PtysL lo v A n H.ps) :
    Calls Tryz.prog 39 #[.agg #[.int .i64 H.tick, .int .i64 H.last, .slice A n c], .int .i64 who, .int .i64 id] w (Gives (change (ansF who id false) H) B V) := by
  refine m_enter Tryz.func39 rfl Tryz.ntmps39 (Nat.le_of_ble_eq_true rfl) ?_
  intro a hA
  refine m_seq ?_
  refine m_region ?_
  refine m_box hA hS rfl rfl ?_
  clear hA hS a; intro a b1 w hA hleb1 hgb1 hS
  refine m_alloc hA hS Tryz.zeroValue24 rfl ?_
  clear hA hS a; intro a b2 w hA hleb2 hgb2 hS
  refine m1 hA hS (Y.assign rfl) rfl ?_
  clear hA a; intro a hA
  refine m_nil ?_
  refine m_then ?_
  refine m_seq ?_
  refine m_region ?_
  refine m1 hA hS (Y.loads rfl Tryz.isAgg24 Tryz.sizeOf24 (fun w h => h.cells (i := 1) rfl) rfl) rfl ?_
  clear hA a; intro a hA
  refine m1 hA hS (Y.move rfl) rfl ?_
  clear hA a; intro a hA
  refine m1 hA hS (Y.move rfl) rfl ?_
  clear hA a; intro a hA
  refine m_call hA Tryz.call43 rfl rfl ((answer_c who id false H A n c _ V lo v w0 _ hS hw0 hv hP).mono ?_)
  rintro e w ⟨pv, bs, rfl, hH, hSn⟩
  refine ⟨_, rfl, ?_⟩
  clear hA a; intro a hA
  obtain ⟨A', c', rfl⟩ := hH.shape
  have hS := St.front (X := [_]) _ hSn
  refine m1 hA hS (Y.extract rfl rfl) rfl ?_
  clear hA a; intro a hA
  refine m1 hA hS (Y.extract rfl rfl) rfl ?_
  clear hA a; intro a hA
  refine m_store 0 hA hS rfl rfl Tryz.sizeOf24 rfl rfl rfl rfl ?_
  clear hS; intro w hS
  refine m1 hA hS (Y.assign rfl) rfl ?_
  clear hA a; intro a hA
  refine m_nil ?_
  refine m_then ?_
  refine m_retc ?_
  refine m_retc2 0 hA hS Tryz.results39 rfl rfl rfl Tryz.isAgg24 Tryz.sizeOf24 ?_
  exact ⟨_, bs, rfl, hH, hS.gone⟩
end Go.Proofs.YtljkhijdaaconaaGreat
