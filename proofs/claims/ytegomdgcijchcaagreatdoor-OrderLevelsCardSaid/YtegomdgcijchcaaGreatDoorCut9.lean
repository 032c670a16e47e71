/- SwL: slices.Clone, reach. -/
import Derived.Test.YtegomdgcijchcaaGreatDoorOwn8
namespace Go.Sx
open Go.Proofs
set_option maxRecDepth 100000
set_option maxHeartbeats 2000000

theorem fn85 : X.fn.get 85 = some Tryz.f85 := by kernel_rfl
theorem fn48 : X.fn.get 48 = some Tryz.f48 := by kernel_rfl
theorem buildS0 : buildSliceA X 25 0 [] = some [] := by kernel_rfl
theorem ty43 : X.ty.get 43 = some (tSl 38) := by kernel_rfl

theorem RowAt.rowA {n : Nat} {h : T Blk} {v : Value} {xs : List Int} (r : RowAt n h v xs) : Go.Sx.rowA h 1 xs.length v = some (ints xs) := by
  rcases r with ⟨rfl, rfl⟩ | ⟨_, b, rfl, hb, h1⟩
  · rfl
  · simp only [slV, Go.Sx.rowA, cells_of h1]
    rw [Nat.mul_one, ← ints_len xs]
    exact seg_all _
theorem RowAt.isS {n : Nat} {h : T Blk} {v : Value} {xs : List Int} (r : RowAt n h v xs) : ∃ xb xc, v = .slice xb xs.length xc := by
  rcases r with ⟨rfl, rfl⟩ | ⟨_, b, rfl, _, _⟩ <;> exact ⟨_, _, rfl⟩
theorem RowAt.bel {n m : Nat} {h : T Blk} {v : Value} {xs : List Int} (r : RowAt n h v xs) (hm : n ≤ m) : BelV m v := by
  rcases r with ⟨_, rfl⟩ | ⟨_, b, rfl, hb, _⟩
  · trivial
  · exact BelV.sl (by omega)

theorem cloneI_cl (xs : List Int) (v : Value) (h : T Blk) (n : Nat) (hf : Fresh h n) (hr : RowAt n h v xs) (hlen : xs.length ≤ 100000) :
    Gives 85 [v] h n fun w h' _ => App 1 n h' w xs.length (ints xs) := by
  have key : ∃ w h' n', Cl X 85 [v] h n (.ret w h' n') ∧ Keep n h h' ∧ n ≤ n' ∧ Fresh h' n' ∧ App 1 n h' w xs.length (ints xs) := by
    refine Cl.wl (memoX (by decide)) fn85 rfl rfl rfl rfl ?_
    refine WL.seq (WL.reg ?_)
    refine OL.asg ?_
    refine OL.nil (WL.seq (WL.seq (WL.reg ?_)))
    refine OL.mv ?_
    rcases hr with ⟨rfl, rfl⟩ | ⟨hne, b, rfl, hb, h1⟩
    · refine OL.bv (v := .bool true) rfl ?_
      refine OL.nil (WL.condT rfl (WL.seq (WL.reg ?_)))
      refine OL.asg ?_
      exact OL.nil (WL.ret ⟨fun id e => (by cases e), _, rfl, .refl _ _, Nat.le_refl _, hf, .inl ⟨rfl, rfl, rfl⟩⟩)
    · refine OL.bv (v := .bool false) rfl ?_
      refine OL.nil (WL.condF rfl (WL.skip ?_))
      have hr : RowAt n h (slV b xs) xs := .inr ⟨hne, b, rfl, hb, h1⟩
      have hk : Keep n h (h.upd (some (.cells [])) n) := (Keep.refl n h).upd (Nat.le_refl _) _
      have a0 : App tInt.size n (h.upd (some (.cells [])) n) (.slice (some ⟨n, 0, none⟩) 0 0) 0 [] := .inr ⟨n, 0, 0, [], rfl, .inr rfl, Nat.le_refl _, T.get_upd_same _ _ _, rfl⟩
      have hpos : 0 < xs.length := by
        cases xs with
        | nil => exact (hne rfl).elim
        | cons a l => simp
      obtain ⟨w, h', happ, q1, q2, q3, q4⟩ := append_app el25 a0 (hf.upd _) (x := slV b xs) (xl := xs.length) (new := ints xs) ⟨_, _, rfl⟩ (hr.mono hk (Nat.le_refl _)).rowA hpos hlen (ints_cell xs) (by omega)
      refine WL.seq (WL.reg ?_)
      refine OL.bs buildS0 ?_
      refine OL.mv ?_
      refine OL.bi (appendB happ) ?_
      refine OL.asg ?_
      refine OL.nil (WL.ret ⟨fun id e => (by cases e), _, rfl, fun q hq => ?_, by omega, q1, ?_⟩)
      · rw [q2 q (by omega) (fun e => by have : n = q := Option.some.inj e; omega)]; exact hk q hq
      · rw [Nat.zero_add] at q4
        exact q4.low (by omega)
  exact key

/- Who comes next, as items. -/
def succN (l : List (Int × Int)) (a : Nat) : List Nat := (succ l a).map Int.toNat
theorem zs_succN {M : Nat} {l : List (Int × Int)} (hg : GoodG (M : Int) l) (a : Nat) : zs (succN l a) = succ l a := by
  unfold zs succN
  rw [List.map_map]
  conv => rhs; rw [← List.map_id (succ l a)]
  apply List.map_congr_left
  intro x hx
  obtain ⟨g1, g2, g3, g4, g5⟩ := hg.ok _ (succ_mem hx)
  simp only at g1 g2 g3 g4 g5
  simp only [Function.comp]
  show ((x.toNat : Nat) : Int) = x
  omega
theorem mem_succN {M : Nat} {l : List (Int × Int)} (hg : GoodG (M : Int) l) (a c : Nat) : c ∈ succN l a ↔ EdgeN l a c := by
  show _ ↔ ((a : Int), (c : Int)) ∈ l
  rw [← mem_succ, ← zs_succN hg]
  unfold zs
  rw [List.mem_map]
  constructor
  · exact fun h => ⟨c, h, rfl⟩
  · rintro ⟨d, h1, h2⟩
    have : d = c := by omega
    rw [← this]; exact h1
theorem succN_len (l : List (Int × Int)) (a : Nat) : (succN l a).length = (succ l a).length := by simp [succN]

theorem reach_cl (M : Nat) (s : Value) (l : List (Int × Int)) (h : T Blk) (n lo from_ : Nat) (p : Value) (hf : Fresh h n) (hgr : Graph lo h p M s (succ l)) (hfr : from_ < M) (hM : M ≤ 60) (hlen : l.length ≤ 400) (hg : GoodG (M : Int) l) :
    Gives 48 [p, .int .i64 (from_ : Int)] h n fun v h' _ => ∃ b, v = .slice (some ⟨b, 0, none⟩) M M ∧ n ≤ b ∧ h'.get b = some (.cells (boolsF M (rchB l from_))) := by
  obtain ⟨g, N, ncs, rfl, hg1, hg2, hgN, _, _, hgG, hgNc, hncs, hrows⟩ := hgr.ex
  have hgn := hf.lt hgG
  have hNn := hf.lt hgNc
  have key : ∃ v h' n', Cl X 48 [.pointer (some ⟨g, 0, none⟩), .int .i64 (from_ : Int)] h n (.ret v h' n') ∧ Keep n h h' ∧ n ≤ n' ∧ Fresh h' n' ∧ ∃ b, v = .slice (some ⟨b, 0, none⟩) M M ∧ n ≤ b ∧ h'.get b = some (.cells (boolsF M (rchB l from_))) := by
    have gG : ∀ {h' : T Blk}, Keep n h h' → h'.get g = some (.cells [.int .i64 (M : Int), .slice (some ⟨N, 0, none⟩) M M, s]) := fun hk => (hk g hgn).trans hgG
    have gN : ∀ {h' : T Blk}, Keep n h h' → h'.get N = some (.cells ncs) := fun hk => (hk N hNn).trans hgNc
    have l0 : ∀ {h' : T Blk}, Keep n h h' → loadA X h' 3 (.pointer (some ⟨g, 0 + 0, none⟩)) = some (.int .i64 (M : Int)) := fun hk => load1 ty3 rfl (cells_of (gG hk)) rfl
    have l1 : ∀ {h' : T Blk}, Keep n h h' → loadA X h' 93 (.pointer (some ⟨g, 0 + 1, none⟩)) = some (.slice (some ⟨N, 0, none⟩) M M) := fun hk => load1 ty93 rfl (cells_of (gG hk)) rfl
    have ix93 : ∀ {b k : Nat}, k < M → idxA X 93 (.slice (some ⟨b, 0, none⟩) M M) (.int .i64 (k : Int)) = some (.pointer (some ⟨b, k, none⟩)) := fun hk => idx1 ty93 ty25 rfl hk
    have jx : ∀ {b k : Nat}, k < M → idxA X 38 (.slice (some ⟨b, 0, none⟩) M M) (.int .i64 (k : Int)) = some (.pointer (some ⟨b, k, none⟩)) := fun hk => idx1 ty38 ty4 rfl hk
    obtain ⟨v0, hv0⟩ : ∃ v, ncs[from_]? = some v := ⟨_, List.getElem?_eq_getElem (by omega)⟩
    have hr0 : RowAt n h v0 (succ l from_) := hrows.row hf hv0
    refine Cl.wl (memoX (by decide)) fn48 rfl rfl rfl rfl ?_
    refine WL.seq (WL.reg ?_)
    refine OL.asg ?_
    refine OL.nil (WL.seq (WL.reg ?_))
    refine OL.mv ?_; refine OL.nc ?_; refine OL.fd f95_0 ?_; refine OL.l3 ?_
    try (refine OL.ld (l0 (Keep.refl _ _)) ?_)
    refine OL.ms (mkS (M := M) ty38 ty4 rfl rfl rfl rfl (by omega)) ?_
    refine OL.asg ?_
    refine OL.heap (fun H => Fresh H (n + 1) ∧ Keep n h H ∧ H.get n = some (.cells (boolsF M fun _ => false))) ⟨hf.upd _, (Keep.refl n h).upd (Nat.le_refl _) _, by rw [T.get_upd_same, boolsF_zero]⟩ ?_
    rintro hA ⟨hfA, hkA, hA0⟩
    obtain ⟨w1, h1, n1, hc1, hk1, hn1, hf1, hW1⟩ := cloneI_cl (succ l from_) v0 hA (n + 1) hfA (hr0.mono hkA (by omega)) (by have := succ_len l from_; omega)
    refine OL.nil (WL.seq (WL.seq (WL.reg ?_)))
    refine OL.mv ?_; refine OL.nc ?_; refine OL.fd f95_1 ?_
    refine OL.ld (l1 hkA) ?_
    refine OL.mv ?_
    refine OL.ix (ix93 hfr) ?_
    refine OL.ld (load1 ty25 rfl (cells_of (gN hkA)) hv0) ?_
    refine OL.cf fn85 hc1 ?_
    refine OL.asg ?_
    refine OL.nil (WL.block ?_)
    have hu0 : unR M (fun _ => false) = M := by unfold unR; simp
    refine WL.loop (k := unR M (fun _ => false) * 401 + (succN l from_).length) (fun k L h2 n2 => ∃ (rb : Nat → Bool) (W : List Nat) (w : Value), k = unR M rb * 401 + W.length ∧ k ≤ 30000 ∧ Sub [(6, w), (5, .slice (some ⟨n, 0, none⟩) M M), (0, .pointer (some ⟨g, 0, none⟩))] L ∧ Keep n h h2 ∧ n + 1 ≤ n2 ∧ Fresh h2 n2 ∧
      h2.get n = some (.cells (boolsF M rb)) ∧ App 1 (n + 1) h2 w W.length (ints (zs W)) ∧ Rea l from_ rb W) ?_
      ⟨fun _ => false, succN l from_, w1, rfl, by have := succ_len l from_; rw [succN_len, hu0]; omega, .cons rfl (.cons rfl (.cons rfl .nil)), hkA.trans (by omega) hk1, hn1, hf1, (hk1 n (by omega)).trans hA0, by rw [zs_succN hg, succN_len]; exact hW1, Rea.mk (fun k hk => Bool.noConfusion hk) (fun k hk => Rch.edge ((mem_succN hg _ _).1 hk)) (fun k c hk => Bool.noConfusion hk) (fun c hc => .inr ((mem_succN hg _ _).2 hc))⟩
    rintro k L h2 n2 ⟨rb, W, w, rfl, hkk, hs2, hk2, hn2, hf2, hB2, hW2, hR⟩
    refine WL.keep hs2 ?_
    refine WL.seq (WL.seq (WL.reg ?_))
    refine OL.mv ?_
    refine OL.bi (hW2.ln ty25) ?_
    by_cases c1 : (0 : Int) < (W.length : Int)
    · refine OL.bT ?_
      refine OL.nil (WL.condT rfl (WL.skip ?_))
      obtain ⟨i, W, rfl⟩ : ∃ i W', W = i :: W' := by
        cases W with
        | nil => simp at c1
        | cons i W => exact ⟨i, W, rfl⟩
      have hWc : (i :: W).length = W.length + 1 := rfl
      have hiM : i < M := ((hR.wsnd i (List.mem_cons_self ..)).lt hg).2
      obtain ⟨ub, uo, hub, hu1, hu2⟩ := hW2.atI (k := 0) (y := (i : Int)) rfl
      obtain ⟨v, hv⟩ : ∃ v, ncs[i]? = some v := ⟨_, List.getElem?_eq_getElem (by omega)⟩
      have hrow : RowAt n h v (succ l i) := hrows.row hf hv
      refine WL.cut (fun L3 h3 n3 => ∃ (rb' : Nat → Bool) (V : List Nat) (w' : Value), Sub [(6, w'), (5, .slice (some ⟨n, 0, none⟩) M M), (0, .pointer (some ⟨g, 0, none⟩))] L3 ∧ Keep n h h3 ∧ n + 1 ≤ n3 ∧ Fresh h3 n3 ∧ h3.get n = some (.cells (boolsF M rb')) ∧ App 1 (n + 1) h3 w' (V.length + 1) (ints (zs (i :: V))) ∧ Rea l from_ rb' V ∧
        unR M rb' * 401 + V.length < unR M rb * 401 + (W.length + 1)) (WL.block (WL.seq (WL.reg ?_))) ?_
      · refine OL.mv ?_
        refine OL.ix hu1 ?_
        refine OL.ld (hu2 _ rfl) ?_
        refine OL.asg ?_
        refine OL.nil (WL.seq (WL.reg ?_))
        refine OL.mv ?_; refine OL.mv ?_
        refine OL.ix (jx hiM) ?_
        refine OL.ld (load1 ty4 rfl (cells_of hB2) (boolsF_at hiM)) ?_
        refine OL.un ?_
        cases hrb : rb i with
        | true =>
          exact OL.nil (WL.condF rfl (WL.skip ⟨rfl, rb, W, w, .cons rfl (.cons rfl (.cons rfl .nil)), hk2, hn2, hf2, hB2, hW2, hR.drop hrb, by omega⟩))
        | false =>
          refine OL.nil (WL.condT rfl (WL.seq (WL.reg ?_)))
          refine OL.mv ?_; refine OL.mv ?_
          refine OL.ix (jx hiM) ?_
          refine OL.st (store1 ty4 rfl hB2 rfl (by rw [boolsF_len]; exact hiM)) ?_
          have hur := unR_up hiM hrb
          have hsl := succ_len l i
          refine OL.heap (fun H => Fresh H n2 ∧ Keep n h H ∧ H.get n = some (.cells (boolsF M (upF rb i true))) ∧ App 1 (n + 1) H w (i :: W).length (ints (zs (i :: W)))) ⟨hf2.set (by omega) _, hk2.upd (Nat.le_refl _) _, by rw [T.get_upd_same]; congr 2; exact boolsF_set hiM fun j => rfl, hW2.keep fun b hb => T.get_upd_ne _ _ (by have := (hW2.blk hb).1; omega)⟩ ?_
          rintro h3 ⟨hf3, hk3, hB3, hW3⟩
          have hrow3 := hrow.mono hk3 (Nat.le_refl n)
          refine OL.nil (WL.reg ?_)
          refine OL.mv ?_; refine OL.mv ?_; refine OL.nc ?_; refine OL.fd f95_1 ?_
          refine OL.ld (l1 hk3) ?_
          refine OL.mv ?_
          refine OL.ix (ix93 hiM) ?_
          refine OL.ld (load1 ty25 rfl (cells_of (gN hk3)) hv) ?_
          have hR3 := hR.add (V := succN l i) fun c => mem_succN hg i c
          by_cases c3 : (succ l i).length = 0
          · have hs0 : succ l i = [] := List.length_eq_zero_iff.1 c3
            have hN0 : succN l i = [] := by unfold succN; rw [hs0]; rfl
            rw [hN0, List.append_nil] at hR3
            rw [hs0] at hrow3
            have happ := append_none (n := n2) el25 (show App tInt.size (n + 1) h3 w (W.length + 1) _ from hW3) hrow3.isS hrow3.rowA (by omega)
            refine OL.bi (appendB happ) ?_
            refine OL.asg ?_
            exact OL.nil ⟨rfl, upF rb i true, W, w, .cons rfl (.cons rfl (.cons rfl .nil)), hk3, hn2, hf3, hB3, hW3, hR3, by omega⟩
          · obtain ⟨w', hG, happ, q1, q2, q3, q4⟩ := append_app el25 (show App tInt.size (n + 1) h3 w (W.length + 1) _ from hW3) hf3 hrow3.isS hrow3.rowA (by omega) (by omega) (ints_cell _) (by omega)
            refine OL.bi (appendB happ) ?_
            refine OL.asg ?_
            refine OL.nil ⟨rfl, upF rb i true, W ++ succN l i, w', .cons rfl (.cons rfl (.cons rfl .nil)), fun q hq => ?_, by omega, q1, ?_, ?_, hR3, by rw [List.length_append, succN_len]; omega⟩
            · rw [q2 q (by omega) (fun e => by have := (hW3.blk e).1; omega)]; exact hk3 q hq
            · rw [q2 n (by omega) (fun e => by have := (hW3.blk e).1; omega)]; exact hB3
            · have e1 : W.length + 1 + (succ l i).length = (W ++ succN l i).length + 1 := by rw [List.length_append, succN_len]; omega
              have e2 : ints (zs (i :: W)) ++ ints (succ l i) = ints (zs (i :: (W ++ succN l i))) := by
                rw [← zs_succN hg i]
                simp [ints, zs]
              rw [← e1, ← e2]
              exact q4.low (by omega)
      · rintro L3 h3 n3 ⟨rb', V, w', hs3, hk3, hn3, hf3, hB3, hW3, hR3, hlt⟩
        refine WL.keep hs3 (WL.reg ?_)
        have hkk' : unR M rb * 401 + (W.length + 1) ≤ 30000 := hkk
        obtain ⟨w'', hw'', hW4, _⟩ := cut1_app el25 (show App tInt.size (n + 1) h3 w' (V.length + 1) _ from hW3) (by omega)
        refine OL.mv ?_
        refine OL.val (by first | rfl | exact WantL.yes rfl rfl rfl) (D.cut1 rfl rfl rfl hW3.isS hw'') rfl rfl ?_
        refine OL.asg ?_
        exact OL.nil ⟨_, hlt, rb', V, w'', rfl, by omega, .cons rfl (.cons rfl (.cons rfl .nil)), hk3, hn3, hf3, hB3, hW4, hR3⟩
    · refine OL.bF ?_
      refine OL.nil (WL.condF rfl (WL.exit ?_))
      have hW0 : W = [] := List.length_eq_zero_iff.1 (by omega)
      subst hW0
      refine WL.seq (WL.reg ?_)
      refine OL.mv ?_; refine OL.asg ?_
      refine OL.nil (WL.ret ⟨fun id e => (by cases e), _, rfl, hk2, by omega, hf2, n, rfl, Nat.le_refl _, ?_⟩)
      rw [hB2]
      congr 3
      funext k
      rw [Bool.eq_iff_iff, hR.fin k, rchB_iff]
  exact key

end Go.Sx

/- SwO: Closure. -/
namespace Go.Sx
open Go.Proofs
set_option maxRecDepth 100000
set_option maxHeartbeats 2000000

theorem fn20 : X.fn.get 20 = some Tryz.f20 := by kernel_rfl
theorem buildE1 {x y : Int} : buildSliceA X 22 1 [(0, .agg #[.int .i64 x, .int .i64 y])] = some [.int .i64 x, .int .i64 y] := by kernel_rfl
theorem build35' {x y : Int} : buildA X 35 [(0, .int .i64 x), (1, .int .i64 y)] = some (.agg #[.int .i64 x, .int .i64 y]) := by kernel_rfl

theorem eCs_append : ∀ (a b : List (Int × Int)), eCs (a ++ b) = eCs a ++ eCs b
  | [], b => rfl
  | e :: a, b => by simp only [List.cons_append, eCs, eCs_append a b]

def rowP (rb : Nat → Nat → Bool) (i k : Nat) : List (Int × Int) := ((List.range k).filter (rb i)).map fun k : Nat => ((i : Int), (k : Int))
def closP (M : Nat) (rb : Nat → Nat → Bool) (i : Nat) : List (Int × Int) := (List.range i).flatMap fun a => rowP rb a M
theorem rowP_succ (rb : Nat → Nat → Bool) (i k : Nat) : rowP rb i (k + 1) = rowP rb i k ++ (if rb i k = true then [((i : Int), (k : Int))] else []) := by
  unfold rowP
  rw [List.range_succ, List.filter_append, List.map_append]
  by_cases h : rb i k = true
  · rw [if_pos h]; simp [h]
  · rw [if_neg h]; simp [h]
theorem closP_succ (M : Nat) (rb : Nat → Nat → Bool) (i : Nat) : closP M rb (i + 1) = closP M rb i ++ rowP rb i M := by
  unfold closP
  rw [List.range_succ, List.flatMap_append]
  simp
theorem rowP_len (rb : Nat → Nat → Bool) (i k : Nat) : (rowP rb i k).length ≤ k := by
  unfold rowP
  rw [List.length_map]
  have := List.length_filter_le (rb i) (List.range k)
  rwa [List.length_range] at this
theorem closP_len (M : Nat) (rb : Nat → Nat → Bool) : ∀ i, (closP M rb i).length ≤ i * M
  | 0 => by simp [closP]
  | i + 1 => by
    rw [closP_succ, List.length_append, Nat.succ_mul]
    have := closP_len M rb i
    have := rowP_len rb i M
    omega

def ClosV (M : Nat) (l : List (Int × Int)) (n : Nat) (h' : T Blk) (v : Value) : Prop := ∃ w, v = .tuple #[w, .int .i64 0] ∧ App 2 n h' w (clos M l).length (eCs (clos M l))

theorem closure_cl (M : Nat) (s : Value) (l : List (Int × Int)) (h : T Blk) (n : Nat) (hf : Fresh h n) (he : Edges h s l) (hbs : ∀ k, n ≤ k → BelV k s) (hM : M ≤ 60) (hlen : l.length ≤ 400) (hg : GoodG (M : Int) l) :
    Gives 20 [.int .i64 (M : Int), s] h n fun v h' _ => ClosV M l n h' v := by
  have key : ∃ v h' n', Cl X 20 [.int .i64 (M : Int), s] h n (.ret v h' n') ∧ Keep n h h' ∧ n ≤ n' ∧ Fresh h' n' ∧ ClosV M l n h' v := by
    obtain ⟨v1, h1, n1, hc1, hk1, hn1', hf1, p, rfl, hgr⟩ := graphOf_cl M s l h n hf he hbs hlen (by omega) hg
    have l0 : ∀ {h' : T Blk}, Keep n1 h1 h' → ∃ g, p = .pointer (some ⟨g, 0, none⟩) ∧ loadA X h' 3 (.pointer (some ⟨g, 0 + 0, none⟩)) = some (.int .i64 (M : Int)) := fun {h'} hk => by
      obtain ⟨g, N, ncs, rfl, _, _, _, _, _, hgG, _⟩ := hgr.ex
      exact ⟨g, rfl, load1 ty3 rfl (cells_of ((hk g (hf1.lt hgG)).trans hgG)) rfl⟩
    obtain ⟨g, rfl, hl0⟩ := l0 (Keep.refl n1 h1)
    refine Cl.wl (memoX (by decide)) fn20 rfl rfl rfl rfl ?_
    refine WL.seq (WL.reg ?_)
    refine OL.asg ?_; refine OL.asg ?_
    refine OL.nil (WL.seq (WL.reg ?_))
    refine OL.mv ?_; refine OL.mv ?_
    refine OL.cf fn40 hc1 ?_
    refine OL.mv ?_; refine OL.ext ?_; refine OL.ext ?_; refine OL.asg ?_; refine OL.asg ?_
    refine OL.nil (WL.seq (WL.seq (WL.reg ?_)))
    refine OL.mv ?_; refine OL.nF ?_
    refine OL.nil (WL.condF rfl (WL.skip ?_))
    refine WL.seq (WL.reg ?_)
    refine OL.asg ?_
    refine OL.nil (WL.seq (WL.seq (WL.reg ?_)))
    refine OL.mv ?_; refine OL.nc ?_; refine OL.fd f95_0 ?_
    try (refine OL.ld hl0 ?_)
    refine OL.mv ?_
    refine OL.nil (WL.block ?_)
    refine WL.loop (k := M) (fun k L h' n' => ∃ (i : Nat) (w : Value), i ≤ M ∧ k = M - i ∧ Sub [(25, .int .i64 (i : Int)), (24, .int .i64 (M : Int)), (8, w), (6, .pointer (some ⟨g, 0, none⟩))] L ∧ Keep n1 h1 h' ∧ n1 ≤ n' ∧ Fresh h' n' ∧ App 2 n1 h' w (closP M (rchB l) i).length (eCs (closP M (rchB l) i))) ?_
      ⟨0, .slice none 0 0, Nat.zero_le _, rfl, .cons rfl (.cons rfl (.cons rfl (.cons rfl .nil))), .refl _ _, Nat.le_refl _, hf1, .inl ⟨rfl, rfl, rfl⟩⟩
    rintro k L h' n' ⟨i, w, hi, rfl, hs, hk, hn, hf', hW⟩
    refine WL.keep hs ?_
    refine WL.seq (WL.reg ?_)
    by_cases c1 : (i : Int) < (M : Int)
    · refine OL.bT ?_
      refine OL.nil (WL.seq (WL.condT rfl (WL.skip ?_)))
      obtain ⟨v2, h2, n2, hc2, hk2, hn2, hf2, bo, rfl, hbo, hB⟩ := reach_cl M s l h' n' n i _ hf' (hgr.keep hf1 hk) (by omega) hM hlen hg
      have hbo2 := hf2.lt hB
      refine WL.seq (WL.block (WL.seq (WL.reg ?_)))
      refine OL.mv ?_; refine OL.asg ?_
      refine OL.nil (WL.seq (WL.reg ?_))
      refine OL.mv ?_; refine OL.mv ?_
      refine OL.cf fn48 hc2 ?_
      refine OL.bi (lenA_slice ty38) ?_
      refine OL.mv ?_
      refine OL.nil (WL.block ?_)
      refine WL.loop (k := M) (fun k L h3 n3 => ∃ (j : Nat) (w : Value), j ≤ M ∧ k = M - j ∧ Sub [(32, .int .i64 (j : Int)), (31, .int .i64 (M : Int)), (30, .slice (some ⟨bo, 0, none⟩) M M), (9, .int .i64 (i : Int)), (25, .int .i64 (i : Int)), (24, .int .i64 (M : Int)), (8, w), (6, .pointer (some ⟨g, 0, none⟩))] L ∧ Keep n1 h1 h3 ∧ n2 ≤ n3 ∧ Fresh h3 n3 ∧ h3.get bo = some (.cells (boolsF M (rchB l i))) ∧
        App 2 n1 h3 w (closP M (rchB l) i ++ rowP (rchB l) i j).length (eCs (closP M (rchB l) i ++ rowP (rchB l) i j)) ∧ blkOf w ≠ some bo) ?_
        ⟨0, w, Nat.zero_le _, rfl, .cons rfl (.cons rfl (.cons rfl (.cons rfl (.cons rfl (.cons rfl (.cons rfl (.cons rfl .nil))))))), hk.trans hn hk2, Nat.le_refl _, hf2, hB, by simpa [rowP] using hW.kp hf' hk2, fun e => by obtain ⟨_, all, q⟩ := hW.blk e; have := hf'.lt q; omega⟩
      rintro k L h3 n3 ⟨j, w, hj, rfl, hs3, hk3, hn3, hf3, hB3, hW3, hwb⟩
      have hcl1 := closP_len M (rchB l) i
      have hcl2 := rowP_len (rchB l) i j
      have hiM : i * M ≤ 60 * 60 := Nat.mul_le_mul (by omega) hM
      have hlen3 : (closP M (rchB l) i ++ rowP (rchB l) i j).length ≤ 4000 := by rw [List.length_append]; omega
      refine WL.keep hs3 ?_
      refine WL.seq (WL.reg ?_)
      by_cases c2 : (j : Int) < (M : Int)
      · refine OL.bT ?_
        refine OL.nil (WL.seq (WL.condT rfl (WL.skip ?_)))
        have hjM : j < M := by omega
        have jx : ∀ {b k : Nat}, k < M → idxA X 38 (.slice (some ⟨b, 0, none⟩) M M) (.int .i64 (k : Int)) = some (.pointer (some ⟨b, k, none⟩)) := fun hk => idx1 ty38 ty4 rfl hk
        refine WL.seq (WL.block (WL.seq (WL.reg ?_)))
        refine OL.mv ?_
        refine OL.ix (jx hjM) ?_
        refine OL.ld (load1 ty4 rfl (cells_of hB3) (boolsF_at hjM)) ?_
        refine OL.asg ?_; refine OL.asg ?_
        refine OL.nil (WL.seq (WL.reg ?_))
        refine OL.mv ?_
        have hrs := rowP_succ (rchB l) i j
        cases hrb : rchB l i j with
        | false =>
          rw [hrb] at hrs
          have hrs : rowP (rchB l) i (j + 1) = rowP (rchB l) i j := by simpa using hrs
          refine OL.nil (WL.condF rfl (WL.skip (WL.reg ?_)))
          refine OL.ad1 ?_
          refine OL.mv ?_
          exact OL.nil ⟨M - (j + 1), by omega, j + 1, w, by omega, rfl, .cons rfl (.cons rfl (.cons rfl (.cons rfl (.cons rfl (.cons rfl (.cons rfl (.cons rfl .nil))))))), hk3, hn3, hf3, hB3, by rw [hrs]; exact hW3, hwb⟩
        | true =>
          rw [hrb] at hrs
          have hrs : rowP (rchB l) i (j + 1) = rowP (rchB l) i j ++ [((i : Int), (j : Int))] := by simpa using hrs
          refine OL.nil (WL.condT rfl (WL.reg ?_))
          have hW4 : App tPair.size n1 (h3.upd (some (.cells [.int .i64 (i : Int), .int .i64 (j : Int)])) n3) w (closP M (rchB l) i ++ rowP (rchB l) i j).length (eCs (closP M (rchB l) i ++ rowP (rchB l) i j)) := hW3.kp hf3 ((Keep.refl n3 h3).upd (Nat.le_refl n3) _)
          obtain ⟨w', hG, happ, q1, q2, q3, q4⟩ := append_app el22 hW4 (hf3.upd _) (x := .slice (some ⟨n3, 0, none⟩) 1 1) (xl := 1) (new := [.int .i64 (i : Int), .int .i64 (j : Int)]) ⟨_, _, rfl⟩ (by simp only [rowA, cells_of (T.get_upd_same _ _ _)]; rfl) (by omega) (by omega) rfl (by omega)
          refine OL.mv ?_; refine OL.mv ?_; refine OL.mv ?_
          refine OL.bd build35' ?_
          refine OL.bs buildE1 ?_
          refine OL.bi (appendB happ) ?_
          refine OL.asg ?_
          refine OL.nil (WL.reg ?_)
          refine OL.ad1 ?_
          refine OL.mv ?_
          refine OL.nil ⟨M - (j + 1), by omega, j + 1, w', by omega, rfl, .cons rfl (.cons rfl (.cons rfl (.cons rfl (.cons rfl (.cons rfl (.cons rfl (.cons rfl .nil))))))), fun q hq => ?_, by omega, q1, ?_, ?_, fun e => by rw [q3] at e; cases e; omega⟩
          · rw [q2 q (by omega) (fun e => by have := (hW3.blk e).1; omega), T.get_upd_ne _ _ (by omega)]; exact hk3 q hq
          · rw [q2 bo (by omega) hwb, T.get_upd_ne _ _ (by omega)]; exact hB3
          · have e1 : (closP M (rchB l) i ++ rowP (rchB l) i j).length + 1 = (closP M (rchB l) i ++ rowP (rchB l) i (j + 1)).length := by rw [hrs]; simp; omega
            have e2 : eCs (closP M (rchB l) i ++ rowP (rchB l) i j) ++ [Value.int .i64 (i : Int), .int .i64 (j : Int)] = eCs (closP M (rchB l) i ++ rowP (rchB l) i (j + 1)) := by
              rw [hrs, ← List.append_assoc, eCs_append (closP M (rchB l) i ++ rowP (rchB l) i j)]; rfl
            rw [← e1, ← e2]
            exact q4.low (by omega)
      · refine OL.bF ?_
        refine OL.nil (WL.seq (WL.condF rfl (WL.exit ?_)))
        have hjM : j = M := by omega
        subst hjM
        rw [← closP_succ] at hW3
        refine WL.reg ?_
        refine OL.ad1 ?_
        refine OL.mv ?_
        exact OL.nil ⟨j - (i + 1), by omega, i + 1, w, by omega, rfl, .cons rfl (.cons rfl (.cons rfl (.cons rfl .nil))), hk3, by omega, hf3, hW3⟩
    · refine OL.bF ?_
      refine OL.nil (WL.seq (WL.condF rfl (WL.exit ?_)))
      have hiM : i = M := by omega
      subst hiM
      refine WL.seq (WL.reg ?_)
      refine OL.mv ?_; refine OL.asg ?_; refine OL.asg ?_
      exact OL.nil (WL.ret ⟨fun id e => (by cases e), _, rfl, hk1.trans hn1' hk, by omega, hf', w, rfl, hW.low hn1'⟩)
  exact key

end Go.Sx

/- SwP: tables of yes and no; the law OrderClosed. -/
namespace Go.Sx
open Go.Proofs
set_option maxRecDepth 100000
set_option maxHeartbeats 2000000

theorem fn8 : X.fn.get 8 = some Tryz.f8 := by kernel_rfl

/- A table: rows of yes and no, of which the first ones are laid. -/
def topL (M i : Nat) (bs : Nat → Nat) : List Value := (List.range M).map fun a => if a < i then .slice (some ⟨bs a, 0, none⟩) M M else .slice none 0 0
structure MatP (M i bm lo : Nat) (h : T Blk) (bs : Nat → Nat) (f : Nat → Nat → Bool) : Prop where
  top : h.get bm = some (.cells (topL M i bs))
  row : ∀ a, a < i → h.get (bs a) = some (.cells (boolsF M (f a)))
  rng : ∀ a, a < i → lo ≤ bs a ∧ bs a ≠ bm
  inj : ∀ a b, a < i → b < i → bs a = bs b → a = b

theorem topL_at {M i a : Nat} {bs : Nat → Nat} (ha : a < M) : (topL M i bs)[a]? = some (if a < i then .slice (some ⟨bs a, 0, none⟩) M M else .slice none 0 0) := by simp [topL, ha]
theorem topL_len (M i : Nat) (bs : Nat → Nat) : (topL M i bs).length = M := by simp [topL]
theorem topL_zero (M : Nat) (bs : Nat → Nat) : List.replicate M (Value.slice none 0 0) = topL M 0 bs := by
  apply List.ext_getElem?
  intro j
  by_cases hj : j < M
  · rw [topL_at hj, List.getElem?_replicate, if_pos hj]; simp
  · rw [List.getElem?_eq_none_iff.2 (by simp; omega), List.getElem?_eq_none_iff.2 (by rw [topL_len]; omega)]
theorem topL_set {M i b : Nat} {bs : Nat → Nat} (hi : i < M) : (topL M i bs).set i (.slice (some ⟨b, 0, none⟩) M M) = topL M (i + 1) (upF bs i b) := by
  apply List.ext_getElem?
  intro j
  rw [List.getElem?_set]
  by_cases hj : j < M
  · rw [topL_at hj, topL_at hj]
    by_cases e : i = j
    · subst e
      rw [if_pos rfl, if_pos (by rw [topL_len]; exact hi), if_pos (by omega), upF_same]
    · rw [if_neg e, upF_ne (Ne.symm e)]
      by_cases h1 : j < i
      · rw [if_pos h1, if_pos (by omega)]
      · rw [if_neg h1, if_neg (by omega)]
  · rw [if_neg (by omega), List.getElem?_eq_none_iff.2 (by rw [topL_len]; omega), List.getElem?_eq_none_iff.2 (by rw [topL_len]; omega)]

section
variable {M i bm lo : Nat} {h h' : T Blk} {bs : Nat → Nat} {f : Nat → Nat → Bool}

theorem MatP.keep {n : Nat} (m : MatP M i bm lo h bs f) (hf : Fresh h n) (hk : Keep n h h') : MatP M i bm lo h' bs f :=
  ⟨(hk _ (hf.lt m.top)).trans m.top, fun a ha => (hk _ (hf.lt (m.row a ha))).trans (m.row a ha), m.rng, m.inj⟩
theorem MatP.l1 (m : MatP M M bm lo h bs f) {a : Nat} (ha : a < M) : loadA X h 38 (.pointer (some ⟨bm, a, none⟩)) = some (.slice (some ⟨bs a, 0, none⟩) M M) := by
  refine load1 ty38 rfl (cells_of m.top) ?_
  rw [topL_at ha, if_pos ha]
theorem MatP.l2 (m : MatP M M bm lo h bs f) {a b : Nat} (ha : a < M) (hb : b < M) : loadA X h 4 (.pointer (some ⟨bs a, b, none⟩)) = some (.bool (f a b)) := load1 ty4 rfl (cells_of (m.row a ha)) (boolsF_at hb)

/- One more row. -/
theorem MatP.add {b : Nat} {r : Nat → Bool} (m : MatP M i bm lo h bs f) (hi : i < M) (hb : h.get b = some (.cells (boolsF M r))) (hlo : lo ≤ b) (hne : b ≠ bm) (hnew : ∀ a, a < i → bs a ≠ b) :
    MatP M (i + 1) bm lo (h.upd (some (.cells ((topL M i bs).set i (.slice (some ⟨b, 0, none⟩) M M)))) bm) (upF bs i b) (upF f i r) := by
  refine ⟨by rw [T.get_upd_same, topL_set hi], fun a ha => ?_, fun a ha => ?_, fun a a' ha ha' e => ?_⟩
  · by_cases e : a = i
    · rw [e, upF_same, upF_same, T.get_upd_ne _ _ hne]; exact hb
    · rw [upF_ne e, upF_ne e, T.get_upd_ne _ _ (m.rng a (by omega)).2]; exact m.row a (by omega)
  · by_cases e : a = i
    · rw [e, upF_same]; exact ⟨hlo, hne⟩
    · rw [upF_ne e]; exact m.rng a (by omega)
  · by_cases e1 : a = i
    · by_cases e2 : a' = i
      · omega
      · rw [e1, upF_same, upF_ne e2] at e
        exact (hnew a' (by omega) e.symm).elim
    · by_cases e2 : a' = i
      · rw [e2, upF_same, upF_ne e1] at e
        exact (hnew a (by omega) e).elim
      · rw [upF_ne e1, upF_ne e2] at e
        exact m.inj a a' (by omega) (by omega) e

/- One place. -/
theorem MatP.set {a b : Nat} {x : Bool} (m : MatP M M bm lo h bs f) (ha : a < M) (hb : b < M) :
    MatP M M bm lo (h.upd (some (.cells ((boolsF M (f a)).set b (.bool x)))) (bs a)) bs (upF f a (upF (f a) b x)) := by
  refine ⟨by rw [T.get_upd_ne _ _ (Ne.symm (m.rng a ha).2)]; exact m.top, fun c hc => ?_, m.rng, m.inj⟩
  by_cases e : c = a
  · rw [e, T.get_upd_same, upF_same]
    congr 2
    exact boolsF_set hb fun j => rfl
  · rw [upF_ne e, T.get_upd_ne _ _ (fun e' => e (m.inj c a hc ha e'))]; exact m.row c hc
end

theorem ix43 {M b k : Nat} (hk : k < M) : idxA X 43 (.slice (some ⟨b, 0, none⟩) M M) (.int .i64 (k : Int)) = some (.pointer (some ⟨b, k, none⟩)) := idx1 ty43 ty38 rfl hk
theorem ix38 {M b k : Nat} (hk : k < M) : idxA X 38 (.slice (some ⟨b, 0, none⟩) M M) (.int .i64 (k : Int)) = some (.pointer (some ⟨b, k, none⟩)) := idx1 ty38 ty4 rfl hk

/- Which pairs are marked so far. -/
def markF (C : List (Int × Int)) (i a b : Nat) : Bool := decide (((a : Int), (b : Int)) ∈ C.take i)
theorem markF_up {C : List (Int × Int)} {i a b : Nat} (hx : C[i]? = some ((a : Int), (b : Int))) (c d : Nat) : upF (markF C i) a (upF (markF C i a) b true) c d = markF C (i + 1) c d := by
  unfold markF
  rw [List.take_add_one, hx]
  by_cases h1 : c = a
  · subst h1
    rw [upF_same]
    by_cases h2 : d = b
    · subst h2; rw [upF_same]; simp
    · rw [upF_ne h2]
      have : (((c : Int), (d : Int)) = ((c : Int), (b : Int))) = False := eq_false fun e => h2 (by simp only [Prod.mk.injEq] at e; omega)
      simp [this]
  · rw [upF_ne h1]
    have : (((c : Int), (d : Int)) = ((a : Int), (b : Int))) = False := eq_false fun e => h1 (by simp only [Prod.mk.injEq] at e; omega)
    simp [this]

end Go.Sx
