/- Contracts: SameInts, Of, find. -/
import Derived.Test.YtljkhijdaaconaaGreatOne
set_option linter.unusedVariables false
namespace Go.Proofs.YtljkhijdaaconaaGreat
open Go.RowKit

theorem IntsL.atL {lo : Nat} {w : World} {A : Option Addr} {n : Nat} {xs : List Int} (h : IntsL lo w A n xs) {j : Nat} (hj : j < n) : ∃ b o x, A = some ⟨b, o, none⟩ ∧ lo ≤ b ∧ xs[j]? = some x ∧ w.cell? ⟨b, o + j * 1, none⟩ = some (.int .i64 x) := by
  obtain ⟨b, o, x, e, hx, he⟩ := RowOf.get h hj
  exact ⟨b, o, x, e, he.1, hx, he.2⟩
def noPty : Pty := ⟨0, 0, [], []⟩
theorem PtyInL.none (lo : Nat) (w : World) : PtyInL lo w Option.none 0 Option.none 0 noPty := ⟨RowOf.nil, RowOf.nil⟩
/-- A party and a bool are given; the party's rows lie from lo on. -/
def GivesP (r : Pty × Bool) (lo : Nat) (w : World) (e : Ending) (w' : World) : Prop :=
  ∃ M m mc I i ic, e = .returned (.tuple #[.agg #[.int .i64 r.1.id, .int .i64 r.1.leader, .slice M m mc, .slice I i ic], .bool r.2]) ∧ Gr w w' ∧ PtyInL lo w' M m I i r.1
def ofF (who : Int) (H : Hall) : Pty × Bool :=
  if valid H = true then (if place H who = 0 then (noPty, false) else match H.ps[(place H who - 1).toNat]? with | some p => (p, true) | none => (noPty, false)) else (noPty, false)
theorem RowB.cap_le {e k : Nat} {A : Option Addr} {m n c : Nat} {xs : List Value} {bs : List Bx} (h : RowB e k (.slice A m c) n xs bs) : n ≤ c := by
  rcases h.2 with ⟨e1, h1, _⟩ | ⟨g, cap, cur, e1, _, h2, _⟩
  · cases e1; omega
  · cases e1; exact h2
/-- As GivesP; the members have room. -/
def GivesPc (r : Pty × Bool) (lo : Nat) (w : World) (e : Ending) (w' : World) : Prop :=
  ∃ M m mc I i ic, e = .returned (.tuple #[.agg #[.int .i64 r.1.id, .int .i64 r.1.leader, .slice M m mc, .slice I i ic], .bool r.2]) ∧ Gr w w' ∧ PtyInL lo w' M m I i r.1 ∧ m ≤ mc
set_option maxRecDepth 100000 in
theorem of_cc (who : Int) (H : Hall) (A : Option Addr) (n c : Nat) (w0 : World) (hP : Ptys w0 A n H.ps) :
    Calls Tryz.prog 16 #[.agg #[.int .i64 H.tick, .int .i64 H.last, .slice A n c], .int .i64 who] w0 (GivesPc (ofF who H) w0.heap.size w0) := by
  have hl := hP.len
  have hpl := place_le H who
  have hn := hP.le
  refine m_enter Tryz.func16 rfl Tryz.ntmps16 (Nat.le_of_ble_eq_true rfl) ?_
  intro a hA
  have hS := St.start w0
  refine m_seq ?_
  refine m_region ?_
  refine m_box hA hS rfl rfl ?_
  clear hA hS a; intro a b1 w hA hleb1 hgb1 hS
  refine m_alloc hA hS Tryz.zeroValue46 rfl ?_
  clear hA hS a; intro a b2 w hA hleb2 hgb2 hS
  refine m1 hA hS (Y.assign rfl) rfl ?_
  clear hA a; intro a hA
  refine m_nil ?_
  refine m_then ?_
  refine m_seq ?_
  refine m_seq ?_
  refine m_region ?_
  refine m1 hA hS (Y.loads rfl Tryz.isAgg24 Tryz.sizeOf24 (fun w h => h.cells (i := 1) rfl) rfl) rfl ?_
  clear hA a; intro a hA
  refine m_callb hA hS Tryz.call8 rfl rfl (valid_c H A n c _ (hP.gr (hS.gr0 (by simp)))) ?_
  clear hA hS a; intro a w hA hS hg
  refine m1 hA hS (Y.not rfl) rfl ?_
  clear hA a; intro a hA
  refine m_nil ?_
  refine m_then ?_
  refine m_cond hA rfl (fun hc => ?_) (fun hc => ?_)
  · have hval : valid H = false := by simpa using hc
    have hF : ofF who H = (noPty, false) := by unfold ofF; rw [hval]; rfl
    refine m_seq ?_
    refine m_region ?_
    refine m1 hA hS (Y.build rfl (cs := [.int .i64 0, .int .i64 0, .slice none 0 0, .slice none 0 0]) (by kernel_rfl)) rfl ?_
    clear hA a; intro a hA
    refine m_store 0 hA hS rfl rfl Tryz.sizeOf46 rfl rfl rfl rfl ?_
    clear hS; intro w hS
    refine m1 hA hS (Y.assign rfl) rfl ?_
    clear hA a; intro a hA
    refine m_nil ?_
    refine m_then ?_
    refine m_retc ?_
    refine r_then ?_
    refine m_retc2 0 hA hS Tryz.results16 rfl rfl rfl Tryz.isAgg46 Tryz.sizeOf46 ?_
    rw [hF]
    exact ⟨_, _, _, _, _, _, rfl, hS.gr0 (by simp), PtyInL.none _ _, Nat.le_refl _⟩
  · have hval : valid H = true := by simpa using hc
    obtain ⟨_, y2, _⟩ := valid_small hval
    refine m_skip ?_
    refine m_then ?_
    refine m_seq ?_
    refine m_region ?_
    refine m1 hA hS (Y.loads rfl Tryz.isAgg24 Tryz.sizeOf24 (fun w h => h.cells (i := 1) rfl) rfl) rfl ?_
    clear hA a; intro a hA
    refine m_call hA Tryz.call23 rfl rfl ((places_c _ _ _ _ _ H.ps _ (hP.gr (hS.gr0 (by simp)))).mono ?_)
    rintro e w ⟨bm, rfl, him, hg1, hbm⟩
    refine ⟨_, rfl, ?_⟩
    clear hA a; intro a hA
    replace hS := hS.call hg1
    refine m1 hA hS (Y.move rfl) rfl ?_
    clear hA a; intro a hA
    refine m1 hA hS (Y.look Tryz.underlying58 Tryz.underlying3 Tryz.zeroValue3 rfl rfl (fun w h => h.map (by simp) hbm him)) rfl ?_
    clear hA a; intro a hA
    refine m1 hA hS (Y.assign rfl) rfl ?_
    clear hA a; intro a hA
    refine m_nil ?_
    refine m_then ?_
    refine m_seq ?_
    refine m_seq ?_
    refine m_region ?_
    refine m1 hA hS (Y.move rfl) rfl ?_
    clear hA a; intro a hA
    refine m1 hA hS (Y.eqI rfl rfl) rfl ?_
    clear hA a; intro a hA
    refine m_nil ?_
    refine m_then ?_
    replace hS := hS.dropC
    change Fits a _ ((16, .bool (decide (place H who = 0))) :: (15, .int .i64 (place H who)) :: (6, .int .i64 (place H who)) :: _) at hA
    refine m_condP hA rfl (fun h0 => ?_) (fun h0 => ?_)
    · have hF : ofF who H = (noPty, false) := by unfold ofF; rw [if_pos hval, if_pos h0]
      refine m_seq ?_
      refine m_region ?_
      refine m1 hA hS (Y.build rfl (cs := [.int .i64 0, .int .i64 0, .slice none 0 0, .slice none 0 0]) (by kernel_rfl)) rfl ?_
      clear hA a; intro a hA
      refine m_store 0 hA hS rfl rfl Tryz.sizeOf46 rfl rfl rfl rfl ?_
      clear hS; intro w hS
      refine m1 hA hS (Y.assign rfl) rfl ?_
      clear hA a; intro a hA
      refine m_nil ?_
      refine m_then ?_
      refine m_retc ?_
      refine r_then ?_
      refine m_retc2 0 hA hS Tryz.results16 rfl rfl rfl Tryz.isAgg46 Tryz.sizeOf46 ?_
      rw [hF]
      exact ⟨_, _, _, _, _, _, rfl, hS.gr0 (by simp), PtyInL.none _ _, Nat.le_refl _⟩
    · have hpn : ((place H who - 1).toNat : Int) = place H who - 1 := by omega
      have hpi : (place H who - 1).toNat < n := by omega
      obtain ⟨b, o, p, M, m, mc, I, i, ic, rfl, hp, p0, p1, p2, p3, hin⟩ := hP.at hpi
      have hsz := y2 p (List.mem_of_getElem? hp)
      have hF : ofF who H = (p, true) := by unfold ofF; rw [if_pos hval, if_neg h0, hp]
      have hml := hin.mem.len
      have hil := hin.inv.len
      refine m_skip ?_
      refine m_then ?_
      refine m_seq ?_
      refine m_region ?_
      refine m1 hA hS (Y.fieldAddr (k := 2) rfl Tryz.underlying24 rfl rfl Tryz.sizeOf22) rfl ?_
      clear hA a; intro a hA
      refine m1 hA hS (Y.load rfl Tryz.isAgg22 (fun w h => h.cell (i := 1) rfl rfl)) rfl ?_
      clear hA a; intro a hA
      refine m1 hA hS (Y.move rfl) rfl ?_
      clear hA a; intro a hA
      refine m1 hA hS (Y.subI rfl rfl (by omega)) rfl ?_
      clear hA a; intro a hA
      refine m1 hA hS (Y.indexAddr rfl rfl Tryz.underlying22 Tryz.sizeOf46 (by omega) (by omega)) rfl ?_
      clear hA a; intro a hA
      refine m1 hA hS (Y.loads rfl Tryz.isAgg46 Tryz.sizeOf46 (fun w h => h.rds (by simp) (Nat.zero_le _) (Cs.four p0 p1 p2 p3)) rfl) rfl ?_
      clear hA a; intro a hA
      refine m_call hA Tryz.call50 rfl rfl ((ptyOwn_c p _ _ _ _ _ _ _ (hin.gr (hS.gr0 (by simp))) (by omega) (by omega)).mono ?_)
      rintro e w ⟨c4, bs, rfl, hc4, hg2, hf2⟩
      refine ⟨_, rfl, ?_⟩
      clear hA a; intro a hA
      have hlo := (hS.gr0 (w0 := w0) (by simp)).size
      replace hS := hS.freshR hg2 hf2
      obtain ⟨M', mc', I', ic', rfl, hin'⟩ := hc4.read hf2
      refine m_store 0 hA hS rfl rfl Tryz.sizeOf46 rfl rfl rfl rfl ?_
      clear hS; intro w hS
      refine m1 hA hS (Y.assign rfl) rfl ?_
      clear hA a; intro a hA
      refine m_nil ?_
      refine m_then ?_
      refine m_retc ?_
      refine m_retc2 0 hA hS Tryz.results16 rfl rfl rfl Tryz.isAgg46 Tryz.sizeOf46 ?_
      rw [hF]
      have hcap : p.mem.length ≤ mc' := by
        obtain ⟨mv, iv, bm, bi, e, hm, _⟩ := hc4
        cases e
        exact hm.cap_le
      refine ⟨_, _, _, _, _, _, rfl, hS.gr0 (by simp), ?_, hcap⟩
      obtain ⟨M2, mc2, I2, ic2, e2, hin2⟩ := hc4.read (St.outR (w0 := w0) (X := [_, _]) hS (by simp))
      cases e2
      exact hin2
theorem of_c (who : Int) (H : Hall) (A : Option Addr) (n c : Nat) (w0 : World) (hP : Ptys w0 A n H.ps) :
    Calls Tryz.prog 16 #[.agg #[.int .i64 H.tick, .int .i64 H.last, .slice A n c], .int .i64 who] w0 (GivesP (ofF who H) w0.heap.size w0) :=
  (of_cc who H A n c w0 hP).mono fun e w' ⟨M, m, mc, I, i, ic, h1, h2, h3, _⟩ => ⟨M, m, mc, I, i, ic, h1, h2, h3⟩
end Go.Proofs.YtljkhijdaaconaaGreat
