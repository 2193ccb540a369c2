/- Contracts: Leave, and what a leader does: Kick, Promote, Disband. Contracts: Kick, Promote, Disband. -/
import Derived.Test.YtljkhijdaaconaaGreatLeave
set_option linter.unusedVariables false
namespace Go.Proofs.YtljkhijdaaconaaGreat
open Go.RowKit

theorem placeL_mem : ∀ (l : List (Int × Int)) (k : Int) (r : Option Int) (v : Int), l.foldl (fun r x => if x.2 = k then some (x.1 + 1) else r) r = some v → r = some v ∨ ∃ x ∈ l, v = x.1 + 1 ∧ x.2 = k
  | [], k, r, v, h => .inl h
  | x :: l, k, r, v, h => by
    rcases placeL_mem l k _ v h with h1 | ⟨y, hy, h2⟩
    · simp only at h1
      split at h1
      · rename_i e
        cases h1
        exact .inr ⟨x, by simp, rfl, e⟩
      · exact .inl h1
    · exact .inr ⟨y, List.mem_cons_of_mem _ hy, h2⟩
theorem pairsF_mem : ∀ (ps : List Pty) (k : Nat) (x : Int × Int), x ∈ pairsF k ps → (k : Int) ≤ x.1 ∧ x.1 < k + ps.length
  | [], k, x, h => by simp [pairsF] at h
  | p :: ps, k, x, h => by
    simp only [pairsF, List.mem_append, List.mem_map] at h
    rcases h with ⟨m, _, rfl⟩ | h
    · simp; omega
    · have := pairsF_mem ps (k + 1) x h
      simp at this ⊢
      omega
theorem place_le (h : Hall) (k : Int) : 0 ≤ place h k ∧ place h k ≤ h.ps.length := by
  unfold place
  cases hp : placeL (pairs h) k with
  | none => simp
  | some v =>
    simp only [Option.getD_some]
    rcases placeL_mem _ _ _ _ hp with h1 | ⟨x, hx, rfl, _⟩
    · cases h1
    · have := pairsF_mem _ _ _ hx
      simp at this
      omega
set_option maxRecDepth 100000 in
theorem leave1_c (t : Int) (H : Hall) (bc : Nat) (B : List Bx) (V : List (Nat × World)) (w0 : World) (hw0 : (0, w0) ∈ V) (hm : cB bc [.int .i64 t] 3 ∈ B) : Changes 52 [.pointer (some ⟨bc, 0, none⟩)] (lvF t) H B V := by
  intro hval w B' b0 T pv bs hsub hS hH
  have hm' := hsub _ hm
  have hpl := place_le H t
  obtain ⟨y1, _⟩ := valid_small hval
  obtain ⟨A', c', rfl⟩ := hH.shape
  refine m_enter Tryz.func52 rfl Tryz.ntmps52 (Nat.le_of_ble_eq_true rfl) ?_
  intro a hA
  refine m_seq ?_
  refine m_region ?_
  refine m1 hA hS (Y.assign rfl) rfl ?_
  clear hA a; intro a hA
  refine m_nil ?_
  refine m_then ?_
  refine m_seq ?_
  refine d_regionS [2, 4] [0, 1, 2, 4, 6] hS rfl 7 [false, false, false, false, false, false, false] rfl rfl ?_
  clear hS; intro w hS _
  have hQ := hS
  refine d_take 0 (bs' := [true, false, false, false, false, false, false]) hA rfl rfl (by kernel_rfl) (fun _ _ _ h => h) (Y.move rfl) rfl ?_
  clear hA a; intro a hA
  refine d_take 1 (bs' := [true, true, false, false, false, false, false]) hA rfl rfl (by kernel_rfl) (fun _ _ _ h => h) (Y.nil rfl) rfl ?_
  clear hA a; intro a hA
  refine d_load 2 (bs' := [true, true, true, false, false, false, false]) hA hQ rfl rfl rfl (by kernel_rfl) (fun _ _ _ h => h) (Y.loads rfl Tryz.isAgg24 Tryz.sizeOf24 (fun w h => h.cells (i := 0) rfl) rfl) rfl ?_
  clear hA a; intro a hA
  refine d_load 4 (bs' := [true, true, true, false, true, false, false]) hA hQ rfl rfl rfl (by kernel_rfl) (fun _ _ _ h => h) (Y.load rfl Tryz.isAgg3 (fun w h => h.cellM (cs := [.int .i64 t]) (T := 3) (by simp [hm']) rfl)) rfl ?_
  clear hA a; intro a hA
  refine d_one 3 (bs' := [true, true, true, true, true, false, false]) true rfl (by kernel_rfl) ?_
  refine m_call hA Tryz.call23 rfl rfl ((places_c _ _ _ _ _ H.ps _ (hH.in hS hw0)).mono ?_)
  rintro e w ⟨bm, rfl, him, hg1, hbm⟩
  refine ⟨_, rfl, ?_⟩
  clear hA a; intro a hA
  replace hS := hS.call hg1
  replace hQ := hQ.gr hg1
  refine m_nil (m_then ⟨fun _ => hQ, ?_⟩)
  refine d_one 5 (bs' := [true, true, true, true, true, true, false]) true rfl (by kernel_rfl) ?_
  refine m1 hA hS (Y.look Tryz.underlying58 Tryz.underlying3 Tryz.zeroValue3 rfl rfl (fun w h => h.map (by simp) hbm him)) rfl ?_
  clear hA a; intro a hA
  refine m_nil (m_then ⟨fun _ => hQ, ?_⟩)
  refine d_take 6 (bs' := [true, true, true, true, true, true, true]) hA rfl rfl (by kernel_rfl) (fun _ _ _ h => h) (Y.assign rfl) rfl ?_
  clear hA a; intro a hA
  refine d_done (by kernel_rfl) ?_
  refine m_then ?_
  refine m_seq ?_
  refine m_seq ?_
  refine m_region ?_
  refine m1 hA hS (Y.move rfl) rfl ?_
  clear hA a; intro a hA
  refine m1 hA hS (Y.eqI rfl rfl) rfl ?_
  clear hA a; intro a hA
  refine m_nil ?_
  refine m_then ?_
  replace hS := hS.dropC
  change Fits a _ ((12, .bool (decide (place H t = 0))) :: (11, .int .i64 (place H t)) :: (4, .int .i64 (place H t)) :: _) at hA
  refine m_condP hA rfl (fun h0 => ?_) (fun h0 => ?_)
  · have hF : lvF t H = (H, 6) := by unfold lvF; rw [if_pos h0]
    refine m_seq ?_
    refine m_region ?_
    refine m1 hA hS (Y.assign rfl) rfl ?_
    clear hA a; intro a hA
    refine m_nil ?_
    refine m_then ?_
    refine m_retc ?_
    refine r_then ?_
    refine m_ret1 hA Tryz.results52 rfl ?_
    rw [hF]
    refine ⟨rfl, ?_⟩
    rw [if_neg (by simp)]
    exact (hS.gone).goneL
  · have hF : lvF t H = (leaveF (place H t - 1).toNat t H, 0) := by unfold lvF; rw [if_neg h0]
    have hpn : ((place H t - 1).toNat : Int) = place H t - 1 := by omega
    have hpi : (place H t - 1).toNat < H.ps.length := by omega
    refine m_skip ?_
    refine m_then ?_
    refine m_seq ?_
    refine m_region ?_
    refine m1 hA hS (Y.move rfl) rfl ?_
    clear hA a; intro a hA
    refine m1 hA hS (Y.move rfl) rfl ?_
    clear hA a; intro a hA
    refine m1 hA hS (Y.subI rfl rfl (by omega)) rfl ?_
    clear hA a; intro a hA
    refine m1 hA hS (Y.load rfl Tryz.isAgg3 (fun w h => h.cellM (cs := [.int .i64 t]) (T := 3) (by simp [hm']) rfl)) rfl ?_
    clear hA a; intro a hA
    rw [← hpn] at hA
    refine m_call hA Tryz.call53 rfl rfl ((leave_c b0 T _ _ _ H.ps bs B' V (place H t - 1).toNat t w0 _ hw0 hS hH hpi).mono ?_)
    rintro e w ⟨pv', bs', rfl, hH', hS⟩
    refine ⟨_, rfl, ?_⟩
    clear hA a; intro a hA
    refine m_nil ?_
    refine m_then ?_
    refine m_seq ?_
    refine m_region ?_
    refine m1 hA hS (Y.assign rfl) rfl ?_
    clear hA a; intro a hA
    refine m_nil ?_
    refine m_then ?_
    refine m_retc ?_
    refine m_ret1 hA Tryz.results52 rfl ?_
    rw [hF]
    exact ⟨rfl, by rw [if_pos rfl]; exact ⟨pv', bs', hH', hS⟩⟩
theorem St.front {w : World} {bs X B : List Bx} {V : List (Nat × World)} (x : Bx) (h : St w (bs ++ (x :: (X ++ B))) V) : St w ([x] ++ (bs ++ B)) V :=
  St.goneL (X := X) (h.perm (List.perm_iff_count.2 fun a => by simp only [List.count_append, List.count_cons, List.count_nil]; omega))
set_option maxRecDepth 100000 in
theorem leaveFn_c (t : Int) (H : Hall) (A : Option Addr) (n c : Nat) (B : List Bx) (V : List (Nat × World)) (lo : Nat) (v w0 w : World) (hS : St w B V) (hw0 : (0, w0) ∈ V) (hv : (lo, v) ∈ V) (hP : PtysL lo v A n H.ps) :
    Calls Tryz.prog 17 #[.agg #[.int .i64 H.tick, .int .i64 H.last, .slice A n c], .int .i64 t] w (Gives (change (lvF t) H) B V) := by
  refine m_enter Tryz.func17 rfl Tryz.ntmps17 (Nat.le_of_ble_eq_true rfl) ?_
  intro a hA
  refine m_seq ?_
  refine m_region ?_
  refine m_box hA hS rfl rfl ?_
  clear hA hS a; intro a b1 w hA hleb1 hgb1 hS
  refine m_box hA hS rfl rfl ?_
  clear hA hS a; intro a b2 w hA hleb2 hgb2 hS
  refine m_alloc hA hS Tryz.zeroValue24 rfl ?_
  clear hA hS a; intro a b3 w hA hleb3 hgb3 hS
  refine m1 hA hS (Y.assign rfl) rfl ?_
  clear hA a; intro a hA
  refine m_nil ?_
  refine m_then ?_
  refine m_seq ?_
  refine m_region ?_
  refine m1 hA hS (Y.loads rfl Tryz.isAgg24 Tryz.sizeOf24 (fun w h => h.cells (i := 2) rfl) rfl) rfl ?_
  clear hA a; intro a hA
  refine m1 hA hS (Y.func rfl) rfl ?_
  clear hA a; intro a hA
  refine m_call hA Tryz.call51 rfl rfl ((change_c H A n c 52 [.pointer (some ⟨b2, 0, none⟩)] (lvF t) _ V lo v w0 _ hS hw0 hv hP Tryz.call52 (leave1_c t H b2 _ V w0 hw0 (by simp [Value.cells]))).mono ?_)
  rintro e w ⟨pv, bs, rfl, hH, hSn⟩
  refine ⟨_, rfl, ?_⟩
  clear hA a; intro a hA
  obtain ⟨A', c', rfl⟩ := hH.shape
  have hS := St.front (X := [_, _]) _ hSn
  refine m1 hA hS (Y.extract rfl rfl) rfl ?_
  clear hA a; intro a hA
  refine m1 hA hS (Y.extract rfl rfl) rfl ?_
  clear hA a; intro a hA
  refine m_store 0 hA hS rfl rfl Tryz.sizeOf24 rfl rfl rfl rfl ?_
  clear hS; intro w hS
  refine m1 hA hS (Y.assign rfl) rfl ?_
  clear hA a; intro a hA
  refine m_nil ?_
  refine m_then ?_
  refine m_retc ?_
  refine m_retc2 0 hA hS Tryz.results17 rfl rfl rfl Tryz.isAgg24 Tryz.sizeOf24 ?_
  exact ⟨_, bs, rfl, hH, hS.gone⟩
/-- A closure that changes a hall, given a place in it. -/
def LeadsTo (g : Nat) (cap : List Value) (f : Nat → Hall → Hall × Int) (H : Hall) (B : List Bx) (V : List (Nat × World)) : Prop :=
  valid H = true → ∀ i, i < H.ps.length → ∀ W B' b T pv bs, (∀ x ∈ B, x ∈ B') → St W (cB b [.int .i64 H.tick, .int .i64 H.last, pv] T :: (bs ++ B')) V → HallB pv H.ps bs →
    Calls Tryz.prog g ([Value.pointer (some ⟨b, 0, none⟩), Value.int .i64 (i : Int)] ++ cap).toArray W fun e W' => e = .returned (.int .i64 (f i H).2) ∧
      (if (f i H).2 = 0 then ∃ pv' bs', HallB pv' (f i H).1.ps bs' ∧ St W' (cB b [.int .i64 (f i H).1.tick, .int .i64 (f i H).1.last, pv'] T :: (bs' ++ B')) V else St W' B' V)
set_option maxRecDepth 100000 in
theorem lead1_c (t : Int) (H : Hall) (f : Nat → Hall → Hall × Int) (g' : Nat) (cap : List Value) (bc bf : Nat) (B : List Bx) (V : List (Nat × World)) (w0 : World) (hw0 : (0, w0) ∈ V) (hm : cB bc [.int .i64 t] 3 ∈ B) (hmf : cB bf [.func (.func g') #[] cap.toArray] 86 ∈ B)
    (eg : ∀ args w, (callFunc g' args).run Tryz.prog w = .ok (.enter g' args) w) (hf : LeadsTo g' cap f H B V) : Changes 86 [.pointer (some ⟨bc, 0, none⟩), .pointer (some ⟨bf, 0, none⟩)] (leadF t f) H B V := by
  intro hval w B' b0 T pv bs hsub hS hH
  have hm' := hsub _ hm
  have hmf' := hsub _ hmf
  have hpl := place_le H t
  obtain ⟨y1, _⟩ := valid_small hval
  obtain ⟨A', c', rfl⟩ := hH.shape
  refine m_enter Tryz.func86 rfl Tryz.ntmps86 (Nat.le_of_ble_eq_true rfl) ?_
  intro a hA
  refine m_seq ?_
  refine m_region ?_
  refine m1 hA hS (Y.assign rfl) rfl ?_
  clear hA a; intro a hA
  refine m_nil ?_
  refine m_then ?_
  refine m_seq ?_
  refine d_regionS [2, 4] [0, 1, 2, 4, 6] hS rfl 7 [false, false, false, false, false, false, false] rfl rfl ?_
  clear hS; intro w hS _
  have hQ := hS
  refine d_take 0 (bs' := [true, false, false, false, false, false, false]) hA rfl rfl (by kernel_rfl) (fun _ _ _ h => h) (Y.move rfl) rfl ?_
  clear hA a; intro a hA
  refine d_take 1 (bs' := [true, true, false, false, false, false, false]) hA rfl rfl (by kernel_rfl) (fun _ _ _ h => h) (Y.nil rfl) rfl ?_
  clear hA a; intro a hA
  refine d_load 2 (bs' := [true, true, true, false, false, false, false]) hA hQ rfl rfl rfl (by kernel_rfl) (fun _ _ _ h => h) (Y.loads rfl Tryz.isAgg24 Tryz.sizeOf24 (fun w h => h.cells (i := 0) rfl) rfl) rfl ?_
  clear hA a; intro a hA
  refine d_load 4 (bs' := [true, true, true, false, true, false, false]) hA hQ rfl rfl rfl (by kernel_rfl) (fun _ _ _ h => h) (Y.load rfl Tryz.isAgg3 (fun w h => h.cellM (cs := [.int .i64 t]) (T := 3) (by simp [hm']) rfl)) rfl ?_
  clear hA a; intro a hA
  refine d_one 3 (bs' := [true, true, true, true, true, false, false]) true rfl (by kernel_rfl) ?_
  refine m_call hA Tryz.call23 rfl rfl ((places_c _ _ _ _ _ H.ps _ (hH.in hS hw0)).mono ?_)
  rintro e w ⟨bm, rfl, him, hg1, hbm⟩
  refine ⟨_, rfl, ?_⟩
  clear hA a; intro a hA
  replace hS := hS.call hg1
  replace hQ := hQ.gr hg1
  refine m_nil (m_then ⟨fun _ => hQ, ?_⟩)
  refine d_one 5 (bs' := [true, true, true, true, true, true, false]) true rfl (by kernel_rfl) ?_
  refine m1 hA hS (Y.look Tryz.underlying58 Tryz.underlying3 Tryz.zeroValue3 rfl rfl (fun w h => h.map (by simp) hbm him)) rfl ?_
  clear hA a; intro a hA
  refine m_nil (m_then ⟨fun _ => hQ, ?_⟩)
  refine d_take 6 (bs' := [true, true, true, true, true, true, true]) hA rfl rfl (by kernel_rfl) (fun _ _ _ h => h) (Y.assign rfl) rfl ?_
  clear hA a; intro a hA
  refine d_done (by kernel_rfl) ?_
  refine m_then ?_
  refine m_seq ?_
  refine m_block ?_
  refine m_seq ?_
  refine m_region ?_
  refine m1 hA hS (Y.move rfl) rfl ?_
  clear hA a; intro a hA
  refine m1 hA hS (Y.eqI rfl rfl) rfl ?_
  clear hA a; intro a hA
  refine m1 hA hS (Y.assign rfl) rfl ?_
  clear hA a; intro a hA
  refine m_nil ?_
  refine m_then ?_
  replace hS := hS.dropC
  change Fits a _ ((12, .bool (decide (place H t = 0))) :: (14, .bool (decide (place H t = 0))) :: (13, .int .i64 (place H t)) :: (5, .int .i64 (place H t)) :: _) at hA
  refine m_condP hA rfl (fun h0 => ?_) (fun h0 => ?_)
  · have hF : leadF t f H = (H, 6) := by unfold leadF; rw [if_pos h0]
    refine m_seq ?_
    refine m_region ?_
    refine m1 hA hS (Y.assign rfl) rfl ?_
    clear hA a; intro a hA
    refine m_nil ?_
    refine m_then ?_
    refine m_retc ?_
    refine r_block ?_
    refine r_then ?_
    refine m_ret1 hA Tryz.results86 rfl ?_
    rw [hF]
    refine ⟨rfl, ?_⟩
    rw [if_neg (by simp)]
    exact (hS.gone).goneL
  · have hpn : ((place H t - 1).toNat : Int) = place H t - 1 := by omega
    have hpi : (place H t - 1).toNat < H.ps.length := by omega
    obtain ⟨p, hp⟩ : ∃ p, H.ps[(place H t - 1).toNat]? = some p := ⟨_, List.getElem?_eq_getElem hpi⟩
    obtain ⟨g, c, cs, rest, bp, hpv, hbs, hP, hn, hmax, hl, hle⟩ := hH.row (by omega)
    cases hpv
    subst hbs
    obtain ⟨M, m, mc, I, i, ic, z0, z1, _⟩ := (hP.read (hS.gone.out (bs := _ :: bp) hw0).tail).at hp
    have z1' : (cs ++ rest)[0 + (place H t - 1).toNat * 4 + 1]? = some (.int .i64 p.leader) := by
      rw [List.getElem?_append_left (by have := (List.getElem?_eq_some_iff.1 z1).1; omega), Nat.zero_add]
      exact z1
    refine m_seq ?_
    refine q_region hS rfl (by kernel_rfl) ?_
    refine q1 hA (Y.move rfl) rfl ?_
    clear hA a; intro a hA
    refine q1 hA (Y.nil rfl) rfl ?_
    clear hA a; intro a hA
    refine q1 hA (Y.fieldAddr (k := 2) rfl Tryz.underlying24 rfl rfl Tryz.sizeOf22) rfl ?_
    clear hA a; intro a hA
    refine q1 hA (Y.load rfl Tryz.isAgg22 (fun w h => h.cell (i := 0) rfl rfl)) rfl ?_
    clear hA a; intro a hA
    refine q1 hA (Y.move rfl) rfl ?_
    clear hA a; intro a hA
    refine q1 hA (Y.subI rfl rfl (by omega)) rfl ?_
    clear hA a; intro a hA
    refine q1 hA (Y.indexAddr rfl rfl Tryz.underlying22 Tryz.sizeOf46 (by omega) (by omega)) rfl ?_
    clear hA a; intro a hA
    refine q1 hA (Y.fieldAddr (k := 1) rfl Tryz.underlying46 rfl rfl Tryz.sizeOf3) rfl ?_
    clear hA a; intro a hA
    refine q1 hA (Y.load rfl Tryz.isAgg3 (fun w h => h.cellM (cs := cs ++ rest) (T := 46) (by simp) z1')) rfl ?_
    clear hA a; intro a hA
    refine q1 hA (Y.load rfl Tryz.isAgg3 (fun w h => h.cellM (cs := [.int .i64 t]) (T := 3) (by simp [hm']) rfl)) rfl ?_
    clear hA a; intro a hA
    refine q1 hA (Y.neI rfl rfl) rfl ?_
    clear hA a; intro a hA
    refine q1 hA (Y.assign rfl) rfl ?_
    clear hA a; intro a hA
    refine q_nil ?_
    clear hS; intro w hS
    refine m_then ?_
    refine m_condP hA rfl (fun hld => ?_) (fun hld => ?_)
    · have hF : leadF t f H = (H, 362) := by
        unfold leadF
        rw [if_neg h0, hp]
        simp only
        rw [if_pos hld]
      refine m_seq ?_
      refine m_region ?_
      refine m1 hA hS (Y.assign rfl) rfl ?_
      clear hA a; intro a hA
      refine m_nil ?_
      refine m_then ?_
      refine m_retc ?_
      refine r_block ?_
      refine r_then ?_
      refine m_ret1 hA Tryz.results86 rfl ?_
      rw [hF]
      refine ⟨rfl, ?_⟩
      rw [if_neg (by simp)]
      exact (hS.gone).goneL
    · have hF : leadF t f H = f (place H t - 1).toNat H := by
        unfold leadF
        rw [if_neg h0, hp]
        simp only
        rw [if_neg hld]
      refine m_skip ?_
      refine n_block ?_
      refine m_then ?_
      refine m_seq ?_
      refine m_region ?_
      refine m1 hA hS (Y.load rfl Tryz.isAgg86 (fun w h => h.cellM (cs := [.func (.func g') #[] cap.toArray]) (T := 86) (by simp [hmf']) rfl)) rfl ?_
      clear hA a; intro a hA
      refine m1 hA hS (Y.move rfl) rfl ?_
      clear hA a; intro a hA
      refine m1 hA hS (Y.move rfl) rfl ?_
      clear hA a; intro a hA
      refine m1 hA hS (Y.subI rfl rfl (by omega)) rfl ?_
      clear hA a; intro a hA
      rw [← hpn] at hA
      refine m_callv hA rfl eg rfl rfl ((hf hval _ hpi _ _ _ _ _ _ hsub hS hH).mono ?_)
      rintro e w ⟨rfl, hpost⟩
      refine ⟨_, rfl, ?_⟩
      clear hA a; intro a hA
      replace hS : St w B' V := by
        split at hpost
        · obtain ⟨pv', bs', _, h2⟩ := hpost
          exact (h2.gone).goneL
        · exact hpost
      refine m1 hA hS (Y.assign rfl) rfl ?_
      clear hA a; intro a hA
      refine m_nil ?_
      refine m_then ?_
      refine m_retc ?_
      refine m_ret1 hA Tryz.results86 rfl ?_
      rw [hF]
      exact ⟨rfl, hpost⟩
set_option maxRecDepth 100000 in
theorem lead_c (t : Int) (H : Hall) (f : Nat → Hall → Hall × Int) (g' : Nat) (cap : List Value) (A : Option Addr) (n c : Nat) (B : List Bx) (V : List (Nat × World)) (lo : Nat) (v w0 w : World) (hS : St w B V) (hw0 : (0, w0) ∈ V) (hv : (lo, v) ∈ V) (hP : PtysL lo v A n H.ps)
    (eg : ∀ args w, (callFunc g' args).run Tryz.prog w = .ok (.enter g' args) w) (hf : LeadsTo g' cap f H B V) :
    Calls Tryz.prog 44 #[.agg #[.int .i64 H.tick, .int .i64 H.last, .slice A n c], .int .i64 t, .func (.func g') #[] cap.toArray] w (Gives (change (leadF t f) H) B V) := by
  refine m_enter Tryz.func44 rfl Tryz.ntmps44 (Nat.le_of_ble_eq_true rfl) ?_
  intro a hA
  refine m_seq ?_
  refine m_region ?_
  refine m_box hA hS rfl rfl ?_
  clear hA hS a; intro a b1 w hA hleb1 hgb1 hS
  refine m_box hA hS rfl rfl ?_
  clear hA hS a; intro a b2 w hA hleb2 hgb2 hS
  refine m_box hA hS rfl rfl ?_
  clear hA hS a; intro a b3 w hA hleb3 hgb3 hS
  refine m_alloc hA hS Tryz.zeroValue24 rfl ?_
  clear hA hS a; intro a b4 w hA hleb4 hgb4 hS
  refine m1 hA hS (Y.assign rfl) rfl ?_
  clear hA a; intro a hA
  refine m_nil ?_
  refine m_then ?_
  refine m_seq ?_
  refine m_region ?_
  refine m1 hA hS (Y.loads rfl Tryz.isAgg24 Tryz.sizeOf24 (fun w h => h.cells (i := 3) rfl) rfl) rfl ?_
  clear hA a; intro a hA
  refine m1 hA hS (Y.func rfl) rfl ?_
  clear hA a; intro a hA
  refine m_call hA Tryz.call51 rfl rfl ((change_c H A n c 86 [.pointer (some ⟨b2, 0, none⟩), .pointer (some ⟨b3, 0, none⟩)] (leadF t f) _ V lo v w0 _ hS hw0 hv hP Tryz.call86 (lead1_c t H f g' cap b2 b3 _ V w0 hw0 (by simp [Value.cells]) (by simp [Value.cells]) eg (fun h i hi W B' b T pv bs hs => hf h i hi W B' b T pv bs (fun x hx => hs x (by simp [hx]))))).mono ?_)
  rintro e w ⟨pv, bs, rfl, hH, hSn⟩
  refine ⟨_, rfl, ?_⟩
  clear hA a; intro a hA
  obtain ⟨A', c', rfl⟩ := hH.shape
  have hS := St.front (X := [_, _, _]) _ hSn
  refine m1 hA hS (Y.extract rfl rfl) rfl ?_
  clear hA a; intro a hA
  refine m1 hA hS (Y.extract rfl rfl) rfl ?_
  clear hA a; intro a hA
  refine m_store 0 hA hS rfl rfl Tryz.sizeOf24 rfl rfl rfl rfl ?_
  clear hS; intro w hS
  refine m1 hA hS (Y.assign rfl) rfl ?_
  clear hA a; intro a hA
  refine m_nil ?_
  refine m_then ?_
  refine m_retc ?_
  refine m_retc2 0 hA hS Tryz.results44 rfl rfl rfl Tryz.isAgg24 Tryz.sizeOf24 ?_
  exact ⟨_, bs, rfl, hH, hS.gone⟩
end Go.Proofs.YtljkhijdaaconaaGreat

namespace Go.Proofs.YtljkhijdaaconaaGreat
open Go.RowKit

theorem modify_at {α : Type} {ps : List α} {i : Nat} {p : α} (h : ps[i]? = some p) (f : α → α) : ps.modify i f = ps.set i (f p) := by
  apply List.ext_getElem?
  intro j
  rw [List.getElem?_modify, List.getElem?_set]
  by_cases e : i = j
  · subst e
    obtain ⟨h1, h2⟩ := List.getElem?_eq_some_iff.1 h
    simp [h1, h2]
  · simp [e]
set_option maxRecDepth 100000 in
theorem kick1_c (t u : Int) (H : Hall) (bc bu : Nat) (B : List Bx) (V : List (Nat × World)) (w0 : World) (hw0 : (0, w0) ∈ V) (hm : cB bc [.int .i64 t] 3 ∈ B) (hmu : cB bu [.int .i64 u] 3 ∈ B) : LeadsTo 77 [.pointer (some ⟨bc, 0, none⟩), .pointer (some ⟨bu, 0, none⟩)] (kickF u t) H B V := by
  intro hval i hi w B' b0 T pv bs hsub hS hH
  have hm' := hsub _ hm
  have hmu' := hsub _ hmu
  obtain ⟨y1, _⟩ := valid_small hval
  obtain ⟨A', c', rfl⟩ := hH.shape
  refine m_enter Tryz.func77 rfl Tryz.ntmps77 (Nat.le_of_ble_eq_true rfl) ?_
  intro a hA
  refine m_seq ?_
  refine m_region ?_
  refine m1 hA hS (Y.assign rfl) rfl ?_
  clear hA a; intro a hA
  refine m_nil ?_
  refine m_then ?_
  refine m_seq ?_
  refine m_block ?_
  refine m_seq ?_
  refine d_regionS [2, 4] [0, 1, 2, 4, 6, 7, 8, 9] hS rfl 10 [false, false, false, false, false, false, false, false, false, false] rfl rfl ?_
  clear hS; intro w hS _
  have hQ := hS
  refine d_take 0 (bs' := [true, false, false, false, false, false, false, false, false, false]) hA rfl rfl (by kernel_rfl) (fun _ _ _ h => h) (Y.move rfl) rfl ?_
  clear hA a; intro a hA
  refine d_take 1 (bs' := [true, true, false, false, false, false, false, false, false, false]) hA rfl rfl (by kernel_rfl) (fun _ _ _ h => h) (Y.nil rfl) rfl ?_
  clear hA a; intro a hA
  refine d_load 2 (bs' := [true, true, true, false, false, false, false, false, false, false]) hA hQ rfl rfl rfl (by kernel_rfl) (fun _ _ _ h => h) (Y.loads rfl Tryz.isAgg24 Tryz.sizeOf24 (fun w h => h.cells (i := 0) rfl) rfl) rfl ?_
  clear hA a; intro a hA
  refine d_load 4 (bs' := [true, true, true, false, true, false, false, false, false, false]) hA hQ rfl rfl rfl (by kernel_rfl) (fun _ _ _ h => h) (Y.load rfl Tryz.isAgg3 (fun w h => h.cellM (cs := [.int .i64 t]) (T := 3) (by simp [hm']) rfl)) rfl ?_
  clear hA a; intro a hA
  refine d_take 6 (bs' := [true, true, true, false, true, false, true, false, false, false]) hA rfl rfl (by kernel_rfl) (fun _ _ _ h => h) (Y.move rfl) rfl ?_
  clear hA a; intro a hA
  refine d_take 7 (bs' := [true, true, true, false, true, false, true, true, false, false]) hA rfl rfl (by kernel_rfl) (fun _ _ _ h => h) (Y.addI rfl rfl (by omega)) rfl ?_
  clear hA a; intro a hA
  refine d_one 3 (bs' := [true, true, true, true, true, false, true, true, false, false]) true rfl (by kernel_rfl) ?_
  refine m_call hA Tryz.call23 rfl rfl ((places_c _ _ _ _ _ H.ps _ (hH.in hS hw0)).mono ?_)
  rintro e w ⟨bm, rfl, him, hg1, hbm⟩
  refine ⟨_, rfl, ?_⟩
  clear hA a; intro a hA
  replace hS := hS.call hg1
  replace hQ := hQ.gr hg1
  refine m_nil (m_then ⟨fun _ => hQ, ?_⟩)
  refine d_one 5 (bs' := [true, true, true, true, true, true, true, true, false, false]) true rfl (by kernel_rfl) ?_
  refine m1 hA hS (Y.look Tryz.underlying58 Tryz.underlying3 Tryz.zeroValue3 rfl rfl (fun w h => h.map (by simp) hbm him)) rfl ?_
  clear hA a; intro a hA
  refine m_nil (m_then ⟨fun _ => hQ, ?_⟩)
  refine d_take 8 (bs' := [true, true, true, true, true, true, true, true, true, false]) hA rfl rfl (by kernel_rfl) (fun _ _ _ h => h) (Y.neI rfl rfl) rfl ?_
  clear hA a; intro a hA
  refine d_take 9 (bs' := [true, true, true, true, true, true, true, true, true, true]) hA rfl rfl (by kernel_rfl) (fun _ _ _ h => h) (Y.assign rfl) rfl ?_
  clear hA a; intro a hA
  refine d_done (by kernel_rfl) ?_
  refine m_then ?_
  replace hS := hS.dropC
  refine m_condP hA rfl (fun hne => ?_) (fun hne => ?_)
  · replace hne : place H t ≠ i + 1 := hne
    have hF : kickF u t i H = (H, 6) := by unfold kickF; rw [if_pos hne]
    refine m_seq ?_
    refine m_region ?_
    refine m1 hA hS (Y.assign rfl) rfl ?_
    clear hA a; intro a hA
    refine m_nil ?_
    refine m_then ?_
    refine m_retc ?_
    refine r_block ?_
    refine r_then ?_
    refine m_ret1 hA Tryz.results77 rfl ?_
    rw [hF]
    refine ⟨rfl, ?_⟩
    rw [if_neg (by simp)]
    exact (hS.gone).goneL
  · replace hne : ¬ place H t ≠ i + 1 := hne
    refine m_seq ?_
    refine m_region ?_
    refine m1 hA hS (Y.load rfl Tryz.isAgg3 (fun w h => h.cellM (cs := [.int .i64 t]) (T := 3) (by simp [hm']) rfl)) rfl ?_
    clear hA a; intro a hA
    refine m1 hA hS (Y.load rfl Tryz.isAgg3 (fun w h => h.cellM (cs := [.int .i64 u]) (T := 3) (by simp [hmu']) rfl)) rfl ?_
    clear hA a; intro a hA
    refine m1 hA hS (Y.eqI rfl rfl) rfl ?_
    clear hA a; intro a hA
    refine m1 hA hS (Y.assign rfl) rfl ?_
    clear hA a; intro a hA
    refine m_nil ?_
    refine m_then ?_
    refine m_condP hA rfl (fun heq => ?_) (fun heq => ?_)
    · have hF : kickF u t i H = (H, 2) := by unfold kickF; rw [if_neg hne, if_pos heq]
      refine m_seq ?_
      refine m_region ?_
      refine m1 hA hS (Y.assign rfl) rfl ?_
      clear hA a; intro a hA
      refine m_nil ?_
      refine m_then ?_
      refine m_retc ?_
      refine r_block ?_
      refine r_then ?_
      refine m_ret1 hA Tryz.results77 rfl ?_
      rw [hF]
      refine ⟨rfl, ?_⟩
      rw [if_neg (by simp)]
      exact (hS.gone).goneL
    · have hF : kickF u t i H = (leaveF i t H, 0) := by unfold kickF; rw [if_neg hne, if_neg heq]
      refine m_skip ?_
      refine n_block ?_
      refine m_then ?_
      refine m_seq ?_
      refine m_region ?_
      refine m1 hA hS (Y.move rfl) rfl ?_
      clear hA a; intro a hA
      refine m1 hA hS (Y.move rfl) rfl ?_
      clear hA a; intro a hA
      refine m1 hA hS (Y.load rfl Tryz.isAgg3 (fun w h => h.cellM (cs := [.int .i64 t]) (T := 3) (by simp [hm']) rfl)) rfl ?_
      clear hA a; intro a hA
      refine m_call hA Tryz.call53 rfl rfl ((leave_c b0 T _ _ _ H.ps bs B' V i t w0 _ hw0 hS hH hi).mono ?_)
      rintro e w ⟨pv', bs', rfl, hH', hS⟩
      refine ⟨_, rfl, ?_⟩
      clear hA a; intro a hA
      refine m_nil ?_
      refine m_then ?_
      refine m_seq ?_
      refine m_region ?_
      refine m1 hA hS (Y.assign rfl) rfl ?_
      clear hA a; intro a hA
      refine m_nil ?_
      refine m_then ?_
      refine m_retc ?_
      refine m_ret1 hA Tryz.results77 rfl ?_
      rw [hF]
      exact ⟨rfl, by rw [if_pos rfl]; exact ⟨pv', bs', hH', hS⟩⟩
set_option maxRecDepth 100000 in
theorem promote1_c (t : Int) (H : Hall) (bc : Nat) (B : List Bx) (V : List (Nat × World)) (w0 : World) (hw0 : (0, w0) ∈ V) (hm : cB bc [.int .i64 t] 3 ∈ B) : LeadsTo 78 [.pointer (some ⟨bc, 0, none⟩)] (promF t) H B V := by
  intro hval i hi w B' b0 T pv bs hsub hS hH
  have hm' := hsub _ hm
  obtain ⟨y1, _⟩ := valid_small hval
  obtain ⟨A', c', rfl⟩ := hH.shape
  refine m_enter Tryz.func78 rfl Tryz.ntmps78 (Nat.le_of_ble_eq_true rfl) ?_
  intro a hA
  refine m_seq ?_
  refine m_region ?_
  refine m1 hA hS (Y.assign rfl) rfl ?_
  clear hA a; intro a hA
  refine m_nil ?_
  refine m_then ?_
  refine m_seq ?_
  refine m_seq ?_
  refine d_regionS [2, 4] [0, 1, 2, 4, 6, 7, 8] hS rfl 9 [false, false, false, false, false, false, false, false, false] rfl rfl ?_
  clear hS; intro w hS _
  have hQ := hS
  refine d_take 0 (bs' := [true, false, false, false, false, false, false, false, false]) hA rfl rfl (by kernel_rfl) (fun _ _ _ h => h) (Y.move rfl) rfl ?_
  clear hA a; intro a hA
  refine d_take 1 (bs' := [true, true, false, false, false, false, false, false, false]) hA rfl rfl (by kernel_rfl) (fun _ _ _ h => h) (Y.nil rfl) rfl ?_
  clear hA a; intro a hA
  refine d_load 2 (bs' := [true, true, true, false, false, false, false, false, false]) hA hQ rfl rfl rfl (by kernel_rfl) (fun _ _ _ h => h) (Y.loads rfl Tryz.isAgg24 Tryz.sizeOf24 (fun w h => h.cells (i := 0) rfl) rfl) rfl ?_
  clear hA a; intro a hA
  refine d_load 4 (bs' := [true, true, true, false, true, false, false, false, false]) hA hQ rfl rfl rfl (by kernel_rfl) (fun _ _ _ h => h) (Y.load rfl Tryz.isAgg3 (fun w h => h.cellM (cs := [.int .i64 t]) (T := 3) (by simp [hm']) rfl)) rfl ?_
  clear hA a; intro a hA
  refine d_take 6 (bs' := [true, true, true, false, true, false, true, false, false]) hA rfl rfl (by kernel_rfl) (fun _ _ _ h => h) (Y.move rfl) rfl ?_
  clear hA a; intro a hA
  refine d_take 7 (bs' := [true, true, true, false, true, false, true, true, false]) hA rfl rfl (by kernel_rfl) (fun _ _ _ h => h) (Y.addI rfl rfl (by omega)) rfl ?_
  clear hA a; intro a hA
  refine d_one 3 (bs' := [true, true, true, true, true, false, true, true, false]) true rfl (by kernel_rfl) ?_
  refine m_call hA Tryz.call23 rfl rfl ((places_c _ _ _ _ _ H.ps _ (hH.in hS hw0)).mono ?_)
  rintro e w ⟨bm, rfl, him, hg1, hbm⟩
  refine ⟨_, rfl, ?_⟩
  clear hA a; intro a hA
  replace hS := hS.call hg1
  replace hQ := hQ.gr hg1
  refine m_nil (m_then ⟨fun _ => hQ, ?_⟩)
  refine d_one 5 (bs' := [true, true, true, true, true, true, true, true, false]) true rfl (by kernel_rfl) ?_
  refine m1 hA hS (Y.look Tryz.underlying58 Tryz.underlying3 Tryz.zeroValue3 rfl rfl (fun w h => h.map (by simp) hbm him)) rfl ?_
  clear hA a; intro a hA
  refine m_nil (m_then ⟨fun _ => hQ, ?_⟩)
  refine d_take 8 (bs' := [true, true, true, true, true, true, true, true, true]) hA rfl rfl (by kernel_rfl) (fun _ _ _ h => h) (Y.neI rfl rfl) rfl ?_
  clear hA a; intro a hA
  refine d_done (by kernel_rfl) ?_
  refine m_then ?_
  replace hS := hS.dropC
  refine m_condP hA rfl (fun hne => ?_) (fun hne => ?_)
  · replace hne : place H t ≠ i + 1 := hne
    have hF : promF t i H = (H, 6) := by unfold promF; rw [if_pos hne]
    refine m_seq ?_
    refine m_region ?_
    refine m1 hA hS (Y.assign rfl) rfl ?_
    clear hA a; intro a hA
    refine m_nil ?_
    refine m_then ?_
    refine m_retc ?_
    refine r_then ?_
    refine m_ret1 hA Tryz.results78 rfl ?_
    rw [hF]
    refine ⟨rfl, ?_⟩
    rw [if_neg (by simp)]
    exact (hS.gone).goneL
  · replace hne : ¬ place H t ≠ i + 1 := hne
    obtain ⟨p, hp⟩ : ∃ p, H.ps[i]? = some p := ⟨_, List.getElem?_eq_getElem hi⟩
    have hF : promF t i H = ({ H with ps := H.ps.set i { p with leader := t } }, 0) := by unfold promF; rw [if_neg hne, modify_at hp]
    obtain ⟨g, c, cs, rest, bp, hpv, rfl, hP, hn, hmax, hl, hle⟩ := hH.row (by omega)
    cases hpv
    obtain ⟨cl, c4, cr, bl, b, br, rfl, rfl, k1, ⟨mv, iv, bm', bi, rfl, hmm, hiv, rfl, hml, hil⟩, k3, hcl⟩ := hP.focus hp
    refine m_skip ?_
    refine m_then ?_
    refine m_seq ?_
    refine d_regionS [3, 5] [0, 1, 2, 3, 4, 5, 6, 7] hS rfl 9 [false, false, false, false, false, false, false, false, false] rfl rfl ?_
    clear hS; intro w hS _
    have hQ := hS
    refine d_take 0 (bs' := [true, false, false, false, false, false, false, false, false]) hA rfl rfl (by kernel_rfl) (fun _ _ _ h => h) (Y.move rfl) rfl ?_
    clear hA a; intro a hA
    refine d_take 1 (bs' := [true, true, false, false, false, false, false, false, false]) hA rfl rfl (by kernel_rfl) (fun _ _ _ h => h) (Y.nil rfl) rfl ?_
    clear hA a; intro a hA
    refine d_take 2 (bs' := [true, true, true, false, false, false, false, false, false]) hA rfl rfl (by kernel_rfl) (fun _ _ _ h => h) (Y.fieldAddr (k := 2) rfl Tryz.underlying24 rfl rfl Tryz.sizeOf22) rfl ?_
    clear hA a; intro a hA
    refine d_load 3 (bs' := [true, true, true, true, false, false, false, false, false]) hA hQ rfl rfl rfl (by kernel_rfl) (fun _ _ _ h => h) (Y.load rfl Tryz.isAgg22 (fun w h => h.cell (i := 0) rfl rfl)) rfl ?_
    clear hA a; intro a hA
    refine d_take 4 (bs' := [true, true, true, true, true, false, false, false, false]) hA rfl rfl (by kernel_rfl) (fun _ _ _ h => h) (Y.move rfl) rfl ?_
    clear hA a; intro a hA
    refine d_load 5 (bs' := [true, true, true, true, true, true, false, false, false]) hA hQ rfl rfl rfl (by kernel_rfl) (fun _ _ _ h => h) (Y.load rfl Tryz.isAgg3 (fun w h => h.cellM (cs := [.int .i64 t]) (T := 3) (by simp [hm']) rfl)) rfl ?_
    clear hA a; intro a hA
    refine d_take 6 (bs' := [true, true, true, true, true, true, true, false, false]) hA rfl rfl (by kernel_rfl) (fun _ _ _ h => h) (Y.indexAddrN rfl rfl Tryz.underlying22 Tryz.sizeOf46 (by omega)) rfl ?_
    clear hA a; intro a hA
    refine d_take 7 (bs' := [true, true, true, true, true, true, true, true, false]) hA rfl rfl (by kernel_rfl) (fun _ _ _ h => h) (Y.fieldAddr (k := 1) rfl Tryz.underlying46 rfl rfl Tryz.sizeOf3) rfl ?_
    clear hA a; intro a hA
    refine d_one 8 (bs' := [true, true, true, true, true, true, true, true, true]) false rfl (by kernel_rfl) ?_
    refine m_storeP 1 ((cl ++ ([Value.int .i64 p.id, .int .i64 t, mv, iv] ++ cr)) ++ rest) hA hS rfl rfl Tryz.sizeOf3 rfl rfl (by simp only [List.length_append, List.length_cons, List.length_nil]; omega) (List.all_eq_true.1 rfl) ?_ ?_
    · have := spl_mid (l := cl ++ [Value.int .i64 p.id]) (c := [.int .i64 p.leader]) (r := [mv, iv] ++ (cr ++ rest)) (c' := [.int .i64 t]) (o := 0 + i * 4 + 1) (by simp only [List.length_append, List.length_cons, List.length_nil]; omega) rfl
      simpa [Value.cells] using this
    clear hS; intro w hS
    have hl2 : ((cl ++ ([Value.int .i64 p.id, .int .i64 t, mv, iv] ++ cr)) ++ rest).length = c' * 4 := by
      simp only [List.length_append, List.length_cons, List.length_nil] at hl ⊢
      omega
    refine m_nil (m_then ⟨fun h => (by cases h), ?_⟩)
    refine d_done (by kernel_rfl) ?_
    refine m_then ?_
    refine m_seq ?_
    refine m_region ?_
    refine m1 hA hS (Y.assign rfl) rfl ?_
    clear hA a; intro a hA
    refine m_nil ?_
    refine m_then ?_
    refine m_retc ?_
    refine m_ret1 hA Tryz.results78 rfl ?_
    have hN := PtysB.unfocus (p := { p with leader := t }) hi k1 ⟨_, _, bm', bi, rfl, hmm, hiv, rfl, hml, hil⟩ k3
    have hN2 := HallB.of (g := g) (c := c') (rest := rest) hN (by simpa using hn) hmax hl2 (by simpa using hle)
    rw [List.length_set] at hN2
    rw [hF]
    exact ⟨rfl, by rw [if_pos rfl]; exact ⟨_, _, hN2, hS⟩⟩
set_option maxRecDepth 100000 in
theorem disband1_c (H : Hall) (B : List Bx) (V : List (Nat × World)) : LeadsTo 79 [] disF H B V := by
  intro hval i hi w B' b0 T pv bs hsub hS hH
  obtain ⟨y1, _⟩ := valid_small hval
  refine m_enter Tryz.func79 rfl Tryz.ntmps79 (Nat.le_of_ble_eq_true rfl) ?_
  intro a hA
  refine m_seq ?_
  refine m_region ?_
  refine m1 hA hS (Y.assign rfl) rfl ?_
  clear hA a; intro a hA
  refine m_nil ?_
  refine m_then ?_
  refine m_seq ?_
  refine m_region ?_
  refine m1 hA hS (Y.move rfl) rfl ?_
  clear hA a; intro a hA
  refine m1 hA hS (Y.move rfl) rfl ?_
  clear hA a; intro a hA
  refine m_call hA Tryz.call80 rfl rfl ((drop_c b0 T _ _ _ H.ps bs B' V i _ hS hH hi).mono ?_)
  rintro e w ⟨pv', bs', rfl, hH', hS⟩
  refine ⟨_, rfl, ?_⟩
  clear hA a; intro a hA
  refine m_nil ?_
  refine m_then ?_
  refine m_seq ?_
  refine m_region ?_
  refine m1 hA hS (Y.assign rfl) rfl ?_
  clear hA a; intro a hA
  refine m_nil ?_
  refine m_then ?_
  refine m_retc ?_
  refine m_ret1 hA Tryz.results79 rfl ?_
  exact ⟨rfl, by rw [if_pos (show (disF i H).2 = 0 from rfl)]; exact ⟨pv', bs', hH', hS⟩⟩
set_option maxRecDepth 100000 in
theorem kick_c (u t : Int) (H : Hall) (A : Option Addr) (n c : Nat) (B : List Bx) (V : List (Nat × World)) (lo : Nat) (v w0 w : World) (hS : St w B V) (hw0 : (0, w0) ∈ V) (hv : (lo, v) ∈ V) (hP : PtysL lo v A n H.ps) :
    Calls Tryz.prog 40 #[.agg #[.int .i64 H.tick, .int .i64 H.last, .slice A n c], .int .i64 u, .int .i64 t] w (Gives (change (leadF u (kickF u t)) H) B V) := by
  refine m_enter Tryz.func40 rfl Tryz.ntmps40 (Nat.le_of_ble_eq_true rfl) ?_
  intro a hA
  refine m_seq ?_
  refine m_region ?_
  refine m_box hA hS rfl rfl ?_
  clear hA hS a; intro a b1 w hA hleb1 hgb1 hS
  refine m_box hA hS rfl rfl ?_
  clear hA hS a; intro a b2 w hA hleb2 hgb2 hS
  refine m_box hA hS rfl rfl ?_
  clear hA hS a; intro a b3 w hA hleb3 hgb3 hS
  refine m_alloc hA hS Tryz.zeroValue24 rfl ?_
  clear hA hS a; intro a b4 w hA hleb4 hgb4 hS
  refine m1 hA hS (Y.assign rfl) rfl ?_
  clear hA a; intro a hA
  refine m_nil ?_
  refine m_then ?_
  refine m_seq ?_
  refine m_region ?_
  refine m1 hA hS (Y.loads rfl Tryz.isAgg24 Tryz.sizeOf24 (fun w h => h.cells (i := 3) rfl) rfl) rfl ?_
  clear hA a; intro a hA
  refine m1 hA hS (Y.load rfl Tryz.isAgg3 (fun w h => h.cell (i := 2) rfl rfl)) rfl ?_
  clear hA a; intro a hA
  refine m1 hA hS (Y.func rfl) rfl ?_
  clear hA a; intro a hA
  refine m_call hA Tryz.call44 rfl rfl ((lead_c u H (kickF u t) 77 [.pointer (some ⟨b3, 0, none⟩), .pointer (some ⟨b2, 0, none⟩)] A n c _ V lo v w0 _ hS hw0 hv hP Tryz.call77 (kick1_c t u H b3 b2 _ V w0 hw0 (by simp [Value.cells]) (by simp [Value.cells]))).mono ?_)
  rintro e w ⟨pv, bs, rfl, hH, hSn⟩
  refine ⟨_, rfl, ?_⟩
  clear hA a; intro a hA
  obtain ⟨A', c', rfl⟩ := hH.shape
  have hS := St.front (X := [_, _, _]) _ hSn
  refine m1 hA hS (Y.extract rfl rfl) rfl ?_
  clear hA a; intro a hA
  refine m1 hA hS (Y.extract rfl rfl) rfl ?_
  clear hA a; intro a hA
  refine m_store 0 hA hS rfl rfl Tryz.sizeOf24 rfl rfl rfl rfl ?_
  clear hS; intro w hS
  refine m1 hA hS (Y.assign rfl) rfl ?_
  clear hA a; intro a hA
  refine m_nil ?_
  refine m_then ?_
  refine m_retc ?_
  refine m_retc2 0 hA hS Tryz.results40 rfl rfl rfl Tryz.isAgg24 Tryz.sizeOf24 ?_
  exact ⟨_, bs, rfl, hH, hS.gone⟩
set_option maxRecDepth 100000 in
theorem promote_c (u t : Int) (H : Hall) (A : Option Addr) (n c : Nat) (B : List Bx) (V : List (Nat × World)) (lo : Nat) (v w0 w : World) (hS : St w B V) (hw0 : (0, w0) ∈ V) (hv : (lo, v) ∈ V) (hP : PtysL lo v A n H.ps) :
    Calls Tryz.prog 41 #[.agg #[.int .i64 H.tick, .int .i64 H.last, .slice A n c], .int .i64 u, .int .i64 t] w (Gives (change (leadF u (promF t)) H) B V) := by
  refine m_enter Tryz.func41 rfl Tryz.ntmps41 (Nat.le_of_ble_eq_true rfl) ?_
  intro a hA
  refine m_seq ?_
  refine m_region ?_
  refine m_box hA hS rfl rfl ?_
  clear hA hS a; intro a b1 w hA hleb1 hgb1 hS
  refine m_box hA hS rfl rfl ?_
  clear hA hS a; intro a b2 w hA hleb2 hgb2 hS
  refine m_alloc hA hS Tryz.zeroValue24 rfl ?_
  clear hA hS a; intro a b3 w hA hleb3 hgb3 hS
  refine m1 hA hS (Y.assign rfl) rfl ?_
  clear hA a; intro a hA
  refine m_nil ?_
  refine m_then ?_
  refine m_seq ?_
  refine m_region ?_
  refine m1 hA hS (Y.loads rfl Tryz.isAgg24 Tryz.sizeOf24 (fun w h => h.cells (i := 2) rfl) rfl) rfl ?_
  clear hA a; intro a hA
  refine m1 hA hS (Y.move rfl) rfl ?_
  clear hA a; intro a hA
  refine m1 hA hS (Y.func rfl) rfl ?_
  clear hA a; intro a hA
  refine m_call hA Tryz.call44 rfl rfl ((lead_c u H (promF t) 78 [.pointer (some ⟨b2, 0, none⟩)] A n c _ V lo v w0 _ hS hw0 hv hP Tryz.call78 (promote1_c t H b2 _ V w0 hw0 (by simp [Value.cells]))).mono ?_)
  rintro e w ⟨pv, bs, rfl, hH, hSn⟩
  refine ⟨_, rfl, ?_⟩
  clear hA a; intro a hA
  obtain ⟨A', c', rfl⟩ := hH.shape
  have hS := St.front (X := [_, _]) _ hSn
  refine m1 hA hS (Y.extract rfl rfl) rfl ?_
  clear hA a; intro a hA
  refine m1 hA hS (Y.extract rfl rfl) rfl ?_
  clear hA a; intro a hA
  refine m_store 0 hA hS rfl rfl Tryz.sizeOf24 rfl rfl rfl rfl ?_
  clear hS; intro w hS
  refine m1 hA hS (Y.assign rfl) rfl ?_
  clear hA a; intro a hA
  refine m_nil ?_
  refine m_then ?_
  refine m_retc ?_
  refine m_retc2 0 hA hS Tryz.results41 rfl rfl rfl Tryz.isAgg24 Tryz.sizeOf24 ?_
  exact ⟨_, bs, rfl, hH, hS.gone⟩
set_option maxRecDepth 100000 in
theorem disband_c (u : Int) (H : Hall) (A : Option Addr) (n c : Nat) (B : List Bx) (V : List (Nat × World)) (lo : Nat) (v w0 w : World) (hS : St w B V) (hw0 : (0, w0) ∈ V) (hv : (lo, v) ∈ V) (hP : PtysL lo v A n H.ps) :
    Calls Tryz.prog 42 #[.agg #[.int .i64 H.tick, .int .i64 H.last, .slice A n c], .int .i64 u] w (Gives (change (leadF u disF) H) B V) := by
  refine m_enter Tryz.func42 rfl Tryz.ntmps42 (Nat.le_of_ble_eq_true rfl) ?_
  intro a hA
  refine m_seq ?_
  refine m_region ?_
  refine m_box hA hS rfl rfl ?_
  clear hA hS a; intro a b1 w hA hleb1 hgb1 hS
  refine m_alloc hA hS Tryz.zeroValue24 rfl ?_
  clear hA hS a; intro a b2 w hA hleb2 hgb2 hS
  refine m1 hA hS (Y.assign rfl) rfl ?_
  clear hA a; intro a hA
  refine m_nil ?_
  refine m_then ?_
  refine m_seq ?_
  refine m_region ?_
  refine m1 hA hS (Y.loads rfl Tryz.isAgg24 Tryz.sizeOf24 (fun w h => h.cells (i := 1) rfl) rfl) rfl ?_
  clear hA a; intro a hA
  refine m1 hA hS (Y.move rfl) rfl ?_
  clear hA a; intro a hA
  refine m_call hA Tryz.call44 rfl rfl ((lead_c u H disF 79 [] A n c _ V lo v w0 _ hS hw0 hv hP Tryz.call79 (disband1_c H _ V)).mono ?_)
  rintro e w ⟨pv, bs, rfl, hH, hSn⟩
  refine ⟨_, rfl, ?_⟩
  clear hA a; intro a hA
  obtain ⟨A', c', rfl⟩ := hH.shape
  have hS := St.front (X := [_]) _ hSn
  refine m1 hA hS (Y.extract rfl rfl) rfl ?_
  clear hA a; intro a hA
  refine m1 hA hS (Y.extract rfl rfl) rfl ?_
  clear hA a; intro a hA
  refine m_store 0 hA hS rfl rfl Tryz.sizeOf24 rfl rfl rfl rfl ?_
  clear hS; intro w hS
  refine m1 hA hS (Y.assign rfl) rfl ?_
  clear hA a; intro a hA
  refine m_nil ?_
  refine m_then ?_
  refine m_retc ?_
  refine m_retc2 0 hA hS Tryz.results42 rfl rfl rfl Tryz.isAgg24 Tryz.sizeOf24 ?_
  exact ⟨_, bs, rfl, hH, hS.gone⟩
end Go.Proofs.YtljkhijdaaconaaGreat
