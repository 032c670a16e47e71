/- SwI: Cycle. -/
import Derived.Test.YtegomdgcijchcaaGreatDoorOwn7
namespace Go.Sx
open Go.Proofs
set_option maxRecDepth 100000
set_option maxHeartbeats 2000000

theorem fn13 : X.fn.get 13 = some Tryz.f13 := by kernel_rfl
theorem fn45 : X.fn.get 45 = some Tryz.f45 := by kernel_rfl

theorem cyc1_cl (M b9 b11 bf c y : Nat) (fr : Nat → Int) (h : T Blk) (n : Nat) (hf : Fresh h n) (h9 : h.get b9 = some (.cells [.slice (some ⟨bf, 0, none⟩) M M])) (h11 : h.get b11 = some (.cells [.int .i64 (c : Int)])) (hF : h.get bf = some (.cells (natsF M fr))) (hy : y < M) :
    Gives 45 [.int .i64 (y : Int), .pointer (some ⟨b9, 0, none⟩), .pointer (some ⟨b11, 0, none⟩)] h n fun v _ _ => v = .bool (decide (fr y = (c : Int))) := by
  have hb9 := hf.lt h9
  have hb11 := hf.lt h11
  have hbf := hf.lt hF
  have key : ∃ v h' n', Cl X 45 [.int .i64 (y : Int), .pointer (some ⟨b9, 0, none⟩), .pointer (some ⟨b11, 0, none⟩)] h n (.ret v h' n') ∧ Keep n h h' ∧ n ≤ n' ∧ Fresh h' n' ∧ v = .bool (decide (fr y = (c : Int))) := by
    refine Cl.wl (memoX (by decide)) fn45 rfl rfl rfl rfl ?_
    refine WL.seq (WL.reg ?_)
    refine OL.asg ?_
    refine OL.nil (WL.seq (WL.regD (by kernel_rfl) (by kernel_rfl) ?_))
    refine OD.ld (load1 ty25 rfl (cells_of h9) rfl) ?_
    refine OD.mv ?_
    refine OD.ix (idx1 ty25 ty3 rfl hy) ?_
    refine OD.ld (load1 ty3 rfl (cells_of hF) (natsF_at hy)) ?_
    refine OD.l3 ?_
    refine OD.bv rfl ?_
    refine OD.asg ?_
    exact OD.nil (WL.ret ⟨fun id e => (by cases e), _, rfl, .refl _ _, Nat.le_refl _, hf, rfl⟩)
  exact key

def CycleV (M : Nat) (l : List (Int × Int)) (n : Nat) (h' : T Blk) (v : Value) : Prop := ∃ w c, v = .tuple #[w, .int .i64 0] ∧ IsCyc M l c ∧ App 1 n h' w c.length (ints (zs c))

abbrev cycL (M i j sl : Nat) (v : Value) (n2 g : Nat) : LT := [(43, .int .i64 (j : Int)), (42, .int .i64 (sl : Int)), (41, v), (11, .pointer (some ⟨n2 + 1, 0, none⟩)), (10, .int .i64 (i : Int)), (9, .pointer (some ⟨n2, 0, none⟩)), (8, .int .i64 (i : Int)), (28, .int .i64 (i : Int)), (27, .int .i64 (M : Int)), (6, .pointer (some ⟨g, 0, none⟩))]

theorem foldl_take {α β : Type} {f : β → α → β} {b : β} {xs : List α} {j : Nat} {x : α} (hx : xs[j]? = some x) : (xs.take (j + 1)).foldl f b = f ((xs.take j).foldl f b) x := by
  rw [List.take_add_one, hx, List.foldl_append]; rfl

theorem cycle_cl (M : Nat) (s : Value) (l : List (Int × Int)) (h : T Blk) (n : Nat) (hf : Fresh h n) (he : Edges h s l) (hbs : ∀ k, n ≤ k → BelV k s) (hgro : groOK h gro0 = true) (hM : M ≤ 60) (hlen : l.length ≤ 400) (hg : GoodG (M : Int) l) (hn1 : 1 ≤ n) :
    Gives 13 [.int .i64 (M : Int), s] h n fun v h' _ => CycleV M l n h' v := by
  have key : ∃ v h' n', Cl X 13 [.int .i64 (M : Int), s] h n (.ret v h' n') ∧ Keep n h h' ∧ n ≤ n' ∧ Fresh h' n' ∧ CycleV M l n h' v := by
    obtain ⟨v1, h1, n1, hc1, hk1, hn1', hf1, p, rfl, hgr⟩ := graphOf_cl M s l h n hf he hbs hlen (by omega) hg
    obtain ⟨g, N, ncs, rfl, hg1, hg2, hgN, _, _, hgG, hgNc, hncs, hrows⟩ := hgr.ex
    have he1 := he.keep hf hk1
    have hgro1 := gro_keep hgro hk1 hn1
    have hgn := hf1.lt hgG
    have hNn := hf1.lt hgNc
    have gG : ∀ {h' : T Blk}, Keep n1 h1 h' → h'.get g = some (.cells [.int .i64 (M : Int), .slice (some ⟨N, 0, none⟩) M M, s]) := fun hk => (hk g hgn).trans hgG
    have gN : ∀ {h' : T Blk}, Keep n1 h1 h' → h'.get N = some (.cells ncs) := fun hk => (hk N hNn).trans hgNc
    have l0 : ∀ {h' : T Blk}, Keep n1 h1 h' → loadA X h' 3 (.pointer (some ⟨g, 0 + 0, none⟩)) = some (.int .i64 (M : Int)) := fun hk => load1 ty3 rfl (cells_of (gG hk)) rfl
    have l1 : ∀ {h' : T Blk}, Keep n1 h1 h' → loadA X h' 93 (.pointer (some ⟨g, 0 + 1, none⟩)) = some (.slice (some ⟨N, 0, none⟩) M M) := fun hk => load1 ty93 rfl (cells_of (gG hk)) rfl
    have ix : ∀ {b k : Nat}, k < M → idxA X 25 (.slice (some ⟨b, 0, none⟩) M M) (.int .i64 (k : Int)) = some (.pointer (some ⟨b, k, none⟩)) := fun hk => idx1 ty25 ty3 rfl hk
    have ix93 : ∀ {b k : Nat}, k < M → idxA X 93 (.slice (some ⟨b, 0, none⟩) M M) (.int .i64 (k : Int)) = some (.pointer (some ⟨b, k, none⟩)) := fun hk => idx1 ty93 ty25 rfl hk
    refine Cl.wl (memoX (by decide)) fn13 rfl rfl rfl rfl ?_
    refine WL.seq (WL.reg ?_)
    refine OL.asg ?_; refine OL.asg ?_
    refine OL.nil (WL.seq (WL.reg ?_))
    refine OL.mv ?_; refine OL.mv ?_
    refine OL.cf fn40 hc1 ?_
    refine OL.mv ?_; refine OL.ext ?_; refine OL.ext ?_; refine OL.asg ?_; refine OL.asg ?_
    refine OL.nil (WL.seq (WL.seq (WL.reg ?_)))
    refine OL.mv ?_; refine OL.nF ?_
    refine OL.nil (WL.condF rfl (WL.skip ?_))
    refine WL.seq (WL.seq (WL.reg ?_))
    refine OL.mv ?_; refine OL.nc ?_; refine OL.fd f95_0 ?_; refine OL.l3 ?_; refine OL.mv ?_
    try (refine OL.ld (l0 (Keep.refl _ _)) ?_)
    refine OL.nil (WL.block ?_)
    refine WL.loop (k := M) (fun k L h' n' => ∃ i : Nat, i ≤ M ∧ k = M - i ∧ Sub [(28, .int .i64 (i : Int)), (27, .int .i64 (M : Int)), (6, .pointer (some ⟨g, 0, none⟩))] L ∧ Keep n1 h1 h' ∧ n1 ≤ n' ∧ Fresh h' n' ∧ ∀ j, j < i → bestF (dst l j) (succ l j) < 0) ?_
      ⟨0, Nat.zero_le _, rfl, .cons rfl (.cons rfl (.cons rfl .nil)), .refl _ _, Nat.le_refl _, hf1, fun j hj => by omega⟩
    rintro k L h' n' ⟨i, hi, rfl, hs, hk, hn, hf', hno⟩
    refine WL.keep hs ?_
    refine WL.seq (WL.reg ?_)
    by_cases c1 : (i : Int) < (M : Int)
    · refine OL.bT ?_
      refine OL.nil (WL.seq (WL.condT rfl (WL.skip ?_)))
      have hiM : i < M := by omega
      have hgr' : Graph n h' (.pointer (some ⟨g, 0, none⟩)) M s (succ l) := hgr.keep hf1 hk
      obtain ⟨v2, h2, n2, hc2, hk2, hn2, hf2, bf, rfl, hbf, hFar⟩ := far_cl M s l h' n' n i _ hf' hgr' (he1.keep hf1 hk) (fun k hk => hbs k (by omega)) (gro_keep hgro1 hk (by omega)) hiM hM hlen hg (by omega)
      refine WL.seq (WL.block (WL.seq (WL.reg ?_)))
      refine OL.mv ?_; refine OL.asg ?_
      refine OL.nil (WL.seq (WL.reg ?_))
      refine OL.mv ?_; refine OL.mv ?_
      refine OL.cf fn43 hc2 ?_
      refine OL.al ty25 ?_
      refine OL.st (store1 ty25 rfl (T.get_upd_same _ _ _) rfl (o := 0) (by decide)) ?_
      refine OL.nil (WL.seq (WL.reg ?_))
      refine OL.mv ?_
      refine OL.al ty3 ?_
      refine OL.asg ?_
      refine OL.st (store1 ty3 rfl (T.get_upd_same _ _ _) rfl (o := 0) (by decide)) ?_
      have hbf2 := hf2.lt hFar
      refine OL.heap (fun H => Fresh H (n2 + 2) ∧ Keep n2 h2 H ∧ H.get n2 = some (.cells [.slice (some ⟨bf, 0, none⟩) M M]) ∧ H.get (n2 + 1) = some (.cells [.int .i64 (-1)])) ⟨(((hf2.upd _).set (by omega) _).upd _).set (by omega) _, ((((Keep.refl n2 h2).upd (Nat.le_refl _) _).upd (Nat.le_refl _) _).upd (by omega) _).upd (by omega) _, by rw [T.get_upd_ne _ _ (by omega), T.get_upd_ne _ _ (by omega), T.get_upd_same]; rfl, T.get_upd_same _ _ _⟩ ?_
      rintro hC ⟨hfC, hkC, h9, h11⟩
      refine OL.nil ?_
      have hF : hC.get bf = some (.cells (natsF M (dst l i))) := (hkC bf hbf2).trans hFar
      have hkC1 : Keep n1 h1 hC := (hk.trans hn hk2).trans (by omega) hkC
      obtain ⟨v, hv⟩ : ∃ v, ncs[i]? = some v := ⟨_, List.getElem?_eq_getElem (by omega)⟩
      have hrow : RowAt n1 h1 v (succ l i) := hrows.row hf1 hv
      have hsl : (succ l i).length ≤ 400 := by have := succ_len l i; omega
      refine WL.seq (WL.seq (WL.reg ?_))
      refine OL.mv ?_; refine OL.nc ?_; refine OL.fd f95_1 ?_
      refine OL.ld (l1 hkC1) ?_
      refine OL.mv ?_
      refine OL.ix (ix93 hiM) ?_
      refine OL.ld (load1 ty25 rfl (cells_of (gN hkC1)) hv) ?_
      refine OL.bi hrow.len ?_
      refine OL.mv ?_
      refine OL.nil (WL.block ?_)
      refine WL.loop (k := (succ l i).length) (fun k L h3 n3 => ∃ j : Nat, j ≤ (succ l i).length ∧ k = (succ l i).length - j ∧ Sub (cycL M i j (succ l i).length v n2 g) L ∧ n3 = n2 + 2 ∧ Fresh h3 (n2 + 2) ∧ (∀ q, q ≠ n2 + 1 → h3.get q = hC.get q) ∧
        h3.get (n2 + 1) = some (.cells [.int .i64 (((succ l i).take j).foldl (best1 (dst l i)) (-1))])) ?_
        ⟨0, Nat.zero_le _, rfl, .cons rfl (.cons rfl (.cons rfl (.cons rfl (.cons rfl (.cons rfl (.cons rfl (.cons rfl (.cons rfl (.cons rfl .nil))))))))), rfl, hfC, fun q _ => rfl, h11⟩
      rintro k L h3 n3 ⟨j, hj, rfl, hs3, rfl, hf3, hq3, hB3⟩
      have hk3 : Keep n1 h1 h3 := fun q hq => (hq3 q (by omega)).trans (hkC1 q hq)
      have h93 : h3.get n2 = some (.cells [.slice (some ⟨bf, 0, none⟩) M M]) := (hq3 n2 (by omega)).trans h9
      have hF3 : h3.get bf = some (.cells (natsF M (dst l i))) := (hq3 bf (by omega)).trans hF
      refine WL.keep hs3 ?_
      refine WL.seq (WL.reg ?_)
      by_cases c2 : (j : Int) < ((succ l i).length : Int)
      · refine OL.bT ?_
        refine OL.nil (WL.seq (WL.condT rfl (WL.skip ?_)))
        obtain ⟨x, hx⟩ : ∃ x, (succ l i)[j]? = some x := ⟨_, List.getElem?_eq_getElem (by omega)⟩
        obtain ⟨g1, g2, g3, g4, g5⟩ := hg.ok _ (succ_mem (List.mem_of_getElem? hx))
        simp only at g1 g2 g3 g4 g5
        obtain ⟨y, rfl⟩ : ∃ y : Nat, x = (y : Int) := ⟨x.toNat, by omega⟩
        have hyM : y < M := by omega
        obtain ⟨rb, hrb, hr1, hr2⟩ := hrow.at hx
        have hfold := foldl_take (f := best1 (dst l i)) (b := -1) hx
        have hb1 : best1 (dst l i) (((succ l i).take j).foldl (best1 (dst l i)) (-1)) (y : Int) = if 0 ≤ dst l i y ∧ (((succ l i).take j).foldl (best1 (dst l i)) (-1) < 0 ∨ dst l i y < ((succ l i).take j).foldl (best1 (dst l i)) (-1)) then dst l i y else ((succ l i).take j).foldl (best1 (dst l i)) (-1) := by
          unfold best1; rw [Int.toNat_natCast]
        generalize ((succ l i).take j).foldl (best1 (dst l i)) (-1) = left at hfold hb1 hB3 ⊢
        refine WL.seq (WL.block (WL.seq (WL.reg ?_)))
        refine OL.ix hr1 ?_
        refine OL.ld (hr2 _ hk3) ?_
        refine OL.asg ?_
        refine OL.nil (WL.seq (WL.mono (Q := fun x L' h4 n4 => x = .normal ∧ h4 = h3 ∧ n4 = n2 + 2 ∧ Sub ((63, .bool (decide (0 ≤ dst l i y ∧ (left < 0 ∨ dst l i y < left)))) :: (13, .int .i64 (y : Int)) :: cycL M i j (succ l i).length v n2 g) L') (WL.regD (by kernel_rfl) (by kernel_rfl) ?_) ?_))
        · have fin : ∀ {L' : LT} {b : Bool}, decide (0 ≤ dst l i y ∧ (left < 0 ∨ dst l i y < left)) = b → Sub ((63, .bool b) :: (13, .int .i64 (y : Int)) :: cycL M i j (succ l i).length v n2 g) L' → (Ex.normal = .normal ∧ h3 = h3 ∧ n2 + 2 = n2 + 2 ∧ Sub ((63, .bool (decide (0 ≤ dst l i y ∧ (left < 0 ∨ dst l i y < left)))) :: (13, .int .i64 (y : Int)) :: cycL M i j (succ l i).length v n2 g) L') := fun e hsub => ⟨rfl, rfl, rfl, by rw [e]; exact hsub⟩
          refine OD.ld (load1 ty25 rfl (cells_of h93) rfl) ?_
          refine OD.mv ?_
          refine OD.ix (ix hyM) ?_
          refine OD.ld (load1 ty3 rfl (cells_of hF3) (natsF_at hyM)) ?_
          by_cases d1 : 0 ≤ dst l i y
          · by_cases d2 : left < 0
            · refine OD.bT ?_; refine OD.mv ?_; refine OD.l3 ?_; refine OD.bT ?_; refine OD.mv ?_; refine OD.ps ?_; refine OD.ps ?_; refine OD.ps ?_; refine OD.ps ?_; refine OD.ps ?_; refine OD.ps ?_; refine OD.pT ?_; refine OD.pT ?_
              exact OD.nil (fin (decide_eq_true ⟨d1, .inl d2⟩) (.cons rfl (.cons rfl (.cons rfl (.cons rfl (.cons rfl (.cons rfl (.cons rfl (.cons rfl (.cons rfl (.cons rfl (.cons rfl (.cons rfl .nil)))))))))))))
            · refine OD.bT ?_; refine OD.mv ?_; refine OD.l3 ?_; refine OD.bF ?_; refine OD.mv ?_
              refine OD.ld (load1 ty25 rfl (cells_of h93) rfl) ?_
              refine OD.mv ?_
              refine OD.ix (ix hyM) ?_
              refine OD.ld (load1 ty3 rfl (cells_of hF3) (natsF_at hyM)) ?_
              by_cases d3 : dst l i y < left
              · refine OD.l3 ?_; refine OD.bT ?_; refine OD.pF ?_; refine OD.pT ?_
                exact OD.nil (fin (decide_eq_true ⟨d1, .inr d3⟩) (.cons rfl (.cons rfl (.cons rfl (.cons rfl (.cons rfl (.cons rfl (.cons rfl (.cons rfl (.cons rfl (.cons rfl (.cons rfl (.cons rfl .nil)))))))))))))
              · refine OD.l3 ?_; refine OD.bF ?_; refine OD.pF ?_; refine OD.pT ?_
                exact OD.nil (fin (decide_eq_false (by omega)) (.cons rfl (.cons rfl (.cons rfl (.cons rfl (.cons rfl (.cons rfl (.cons rfl (.cons rfl (.cons rfl (.cons rfl (.cons rfl (.cons rfl .nil)))))))))))))
          · refine OD.bF ?_; refine OD.mv ?_; refine OD.ps ?_; refine OD.ps ?_; refine OD.ps ?_; refine OD.ps ?_; refine OD.ps ?_; refine OD.ps ?_; refine OD.ps ?_; refine OD.ps ?_; refine OD.ps ?_; refine OD.ps ?_; refine OD.pF ?_
            exact OD.nil (fin (decide_eq_false (by omega)) (.cons rfl (.cons rfl (.cons rfl (.cons rfl (.cons rfl (.cons rfl (.cons rfl (.cons rfl (.cons rfl (.cons rfl (.cons rfl (.cons rfl .nil)))))))))))))
        · rintro x L' h4 n4 ⟨rfl, rfl, rfl, hs4⟩
          refine WL.keep hs4 ?_
          by_cases d : 0 ≤ dst l i y ∧ (left < 0 ∨ dst l i y < left)
          · rw [decide_eq_true d]
            refine WL.condT rfl (WL.reg ?_)
            refine OL.ld (load1 ty25 rfl (cells_of h93) rfl) ?_
            refine OL.mv ?_
            refine OL.ix (ix hyM) ?_
            refine OL.ld (load1 ty3 rfl (cells_of hF3) (natsF_at hyM)) ?_
            refine OL.st (store1 ty3 rfl hB3 rfl (o := 0) (by simp)) ?_
            refine OL.nil (WL.reg ?_)
            refine OL.ad1 ?_
            refine OL.mv ?_
            refine OL.nil ⟨(succ l i).length - (j + 1), by omega, j + 1, by omega, rfl, .cons rfl (.cons rfl (.cons rfl (.cons rfl (.cons rfl (.cons rfl (.cons rfl (.cons rfl (.cons rfl (.cons rfl .nil))))))))), rfl, hf3.set (by omega) _, fun q hq => (T.get_upd_ne _ _ hq).trans (hq3 q hq), ?_⟩
            rw [T.get_upd_same, hfold, hb1, if_pos d]; rfl
          · rw [decide_eq_false d]
            refine WL.condF rfl (WL.skip (WL.reg ?_))
            refine OL.ad1 ?_
            refine OL.mv ?_
            refine OL.nil ⟨(succ l i).length - (j + 1), by omega, j + 1, by omega, rfl, .cons rfl (.cons rfl (.cons rfl (.cons rfl (.cons rfl (.cons rfl (.cons rfl (.cons rfl (.cons rfl (.cons rfl .nil))))))))), rfl, hf3, hq3, ?_⟩
            rw [hB3, hfold, hb1, if_neg d]
      · refine OL.bF ?_
        refine OL.nil (WL.seq (WL.condF rfl (WL.exit ?_)))
        have hjl : j = (succ l i).length := by omega
        subst hjl
        rw [List.take_length] at hB3
        have hbest := best_cyc hg i
        have hbv := best_inv (dst l i) (succ l i) (-1) (by omega)
        show SeqL _ _ _ _ _ _ _ _
        refine WL.seq (WL.seq (WL.reg ?_))
        refine OL.l3 ?_
        by_cases d : bestF (dst l i) (succ l i) < 0
        · refine OL.bv (v := .bool true) (show binA X .lss 3 _ (.int .i64 (bestF (dst l i) (succ l i))) (.int .i64 0) = _ from congrArg (fun b => some (Value.bool b)) (decide_eq_true d)) ?_
          refine OL.nil (WL.condT rfl (WL.exit ?_))
          refine WL.reg ?_
          refine OL.ad1 ?_
          refine OL.mv ?_
          refine OL.nil ⟨M - (i + 1), by omega, i + 1, by omega, rfl, .cons rfl (.cons rfl (.cons rfl .nil)), hk3, by omega, hf3, fun j hj => ?_⟩
          rcases Nat.lt_or_ge j i with h4 | h4
          · exact hno j h4
          · rw [show j = i by omega]; exact d
        · refine OL.bv (v := .bool false) (show binA X .lss 3 _ (.int .i64 (bestF (dst l i) (succ l i))) (.int .i64 0) = _ from congrArg (fun b => some (Value.bool b)) (decide_eq_false d)) ?_
          refine OL.nil (WL.condF rfl (WL.skip ?_))
          obtain ⟨best, hbest2⟩ : ∃ best : Nat, bestF (dst l i) (succ l i) = (best : Int) := ⟨(bestF (dst l i) (succ l i)).toNat, by omega⟩
          have hst : ∃ c, EdgeN l i c ∧ dst l i c = (best : Int) := by
            rcases hbv.2.1 (show 0 ≤ bestF (dst l i) (succ l i) by omega) with q1 | ⟨k, hk, q1⟩
            · have : bestF (dst l i) (succ l i) = -1 := q1
              omega
            · obtain ⟨g1, g2, g3, g4, g5⟩ := hg.ok _ (succ_mem hk)
              simp only at g1 g2 g3 g4 g5
              refine ⟨k.toNat, ?_, q1.trans hbest2⟩
              show ((i : Int), ((k.toNat : Nat) : Int)) ∈ l
              rw [show ((k.toNat : Nat) : Int) = k by omega]; exact succ_mem hk
          have hbM : best < M := by
            obtain ⟨c, _, q2⟩ := hst
            have := dst_lt hg hiM (k := c)
            omega
          have hB4 : h3.get (n2 + 1) = some (.cells [.int .i64 (best : Int)]) := by rw [hB3, ← hbest2]; rfl
          refine WL.seq (WL.reg ?_)
          refine OL.mv ?_
          refine OL.bs buildS1 ?_
          refine OL.asg ?_
          refine OL.nil (WL.seq (WL.block ?_))
          refine WL.loop (k := best) (fun k L h5 n5 => ∃ (c at_ : Nat) (out : List Nat) (w : Value), k = c ∧ at_ < M ∧ (c ≠ 0 → ∃ y, EdgeN l at_ y ∧ dst l i y = (c : Int)) ∧ i :: pathL l (dst l i) i best = out ++ pathL l (dst l i) at_ c ∧ Sub [(14, w), (10, .int .i64 (at_ : Int)), (11, .pointer (some ⟨n2 + 1, 0, none⟩)), (9, .pointer (some ⟨n2, 0, none⟩)), (6, .pointer (some ⟨g, 0, none⟩))] L ∧ n2 + 2 ≤ n5 ∧ Fresh h5 n5 ∧
            (∀ q, q < n2 + 2 → q ≠ n2 + 1 → h5.get q = hC.get q) ∧ h5.get (n2 + 1) = some (.cells [.int .i64 (c : Int)]) ∧ App 1 (n2 + 2) h5 w out.length (ints (zs out)) ∧ out.length + c = best + 1) ?_
            ⟨best, i, [i], _, rfl, hiM, fun _ => hst, rfl, .cons rfl (.cons rfl (.cons rfl (.cons rfl (.cons rfl .nil)))), by omega, hf3.upd _, fun q hq hq' => (T.get_upd_ne _ _ (by omega)).trans (hq3 q hq'), (T.get_upd_ne _ _ (by omega)).trans hB4, .inr ⟨n2 + 2, 0, 1, _, rfl, .inr rfl, Nat.le_refl _, T.get_upd_same _ _ _, rfl⟩, by simp; omega⟩
          rintro c L h5 n5 ⟨_, at_, out, w, rfl, hat, hstep, hpath, hs5, hn5, hf5, hq5, hB5, hW5, hcnt⟩
          have hk5 : Keep n1 h1 h5 := fun q hq => (hq5 q (by omega) (by omega)).trans (hkC1 q hq)
          have h95 : h5.get n2 = some (.cells [.slice (some ⟨bf, 0, none⟩) M M]) := (hq5 n2 (by omega) (by omega)).trans h9
          have hF5 : h5.get bf = some (.cells (natsF M (dst l i))) := (hq5 bf (by omega) (by omega)).trans hF
          refine WL.keep hs5 ?_
          refine WL.seq (WL.seq (WL.reg ?_))
          refine OL.l3 ?_
          by_cases c5 : (0 : Int) < (c : Int)
          · refine OL.bT ?_
            refine OL.nil (WL.condT rfl (WL.skip ?_))
            obtain ⟨v5, hv5⟩ : ∃ v, ncs[at_]? = some v := ⟨_, List.getElem?_eq_getElem (by omega)⟩
            have hrow5 : RowAt n1 h1 v5 (succ l at_) := hrows.row hf1 hv5
            have hsl5 : (succ l at_).length ≤ 400 := by have := succ_len l at_; omega
            obtain ⟨j, q1, q2, q3⟩ := firstS_at hg (hstep (by omega))
            have hbn : ∀ b, blkOf w = some b → n2 + 2 ≤ b ∧ b < n5 := fun b hb => ⟨(hW5.blk hb).1, hf5.lt (hW5.blk hb).2.choose_spec⟩
            have hfn : Fn1 n5 h5 (.func (.func 45) ⟨[]⟩ ⟨[.pointer (some ⟨n2, 0, none⟩), .pointer (some ⟨n2 + 1, 0, none⟩)]⟩) (Value.int .i64) (fun x => decide (dst l i x.toNat = (c : Int))) (fun x => x ∈ succ l at_) := by
              refine ⟨45, _, _, rfl, fn45, fun x h' n' hx hkx hnx hfx => ?_⟩
              obtain ⟨g1, g2, g3, g4, g5⟩ := hg.ok _ (succ_mem hx)
              simp only at g1 g2 g3 g4 g5
              obtain ⟨y, rfl⟩ : ∃ y : Nat, x = (y : Int) := ⟨x.toNat, by omega⟩
              have := cyc1_cl M n2 (n2 + 1) bf c y (dst l i) h' n' hfx ((hkx _ (by omega)).trans h95) ((hkx _ (by omega)).trans hB5) ((hkx _ (by omega)).trans hF5) (by omega)
              simpa using this
            obtain ⟨r6, h6, n6, hc6, hk6, hn6, hf6, rfl⟩ := indexF_cl (succ l at_) (fun x => decide (dst l i x.toNat = (c : Int))) v5 _ h5 n5 hf5 ((hrow5.rd).mono hk5 (by omega)) hfn (by omega)
            have hidx : idxF (fun x => decide (dst l i x.toNat = (c : Int))) (succ l at_) = (j : Int) := idxF_hit q1 (by simp [q2]) fun j' y hj' hy => decide_eq_false (q3 j' y hj' hy)
            rw [hidx] at hc6
            have hk16 : Keep n1 h1 h6 := fun q hq => (hk6 q (by omega)).trans (hk5 q hq)
            obtain ⟨rb, hrb, hr1, hr2⟩ := hrow5.at q1
            have hatM : firstS l (dst l i) at_ c < M := ((show EdgeN l at_ (firstS l (dst l i) at_ c) from succ_mem (List.mem_of_getElem? q1)).lt hg).2.1
            have hbv5 : BelV n5 v5 := by
              rcases hrow5 with ⟨_, rfl⟩ | ⟨_, b, rfl, hb, _⟩
              · trivial
              · exact BelV.sl (by omega)
            have hbv6 : BelV n6 v5 := by
              rcases hrow5 with ⟨_, rfl⟩ | ⟨_, b, rfl, hb, _⟩
              · trivial
              · exact BelV.sl (by omega)
            refine WL.seq (WL.block (WL.seq (WL.regG [(3, 15), (6, 15)] (by kernel_rfl) (by kernel_rfl) ?_)))
            refine OG.mv ?_; refine OG.nc ?_; refine OG.fd f95_1 ?_
            refine OG.ld (l1 hk5) ?_
            refine OG.mv ?_
            refine OG.ix (ix93 hat) ?_
            refine OG.ld (load1 ty25 rfl (cells_of (gN hk5)) hv5) ?_
            refine OG.mv ?_; refine OG.nc ?_; refine OG.fd f95_1 ?_
            refine OG.ld (l1 hk5) ?_
            refine OG.mv ?_
            refine OG.ix (ix93 hat) ?_
            refine OG.ld (load1 ty25 rfl (cells_of (gN hk5)) hv5) ?_
            refine OG.val (by first | rfl | exact WantL.yes rfl rfl rfl) (by repeat' (first | exact trivial | assumption | exact BelV.ptr (by omega) | exact BelV.sl (by omega) | exact BelV.fn1 (by omega) | exact BelV.fn2 (by omega) (by omega) | exact hbs _ (by omega) | exact rfl | refine And.intro (Exists.intro _ (And.intro rfl ?_)) ?_)) (D.makeFunc rfl rfl rfl) rfl rfl ?_
            refine OG.cf fn44 hc6 ?_
            refine OG.ix hr1 ?_
            refine OG.ld (hr2 _ hk16) ?_
            refine OG.asg ?_
            refine OG.nil ⟨FlOK.cons rfl rfl (l1 hk16) (sameSl _ _ _ _) (FlOK.cons rfl rfl (load1 ty25 rfl (cells_of (gN hk16)) hv5) ?_ FlOK.nil), ?_⟩
            · rcases hrow5 with ⟨_, rfl⟩ | ⟨_, b, rfl, hb, _⟩
              · rfl
              · exact sameSl _ _ _ _
            have hW6 : App 1 (n2 + 2) h6 w out.length (ints (zs out)) := hW5.kp hf5 hk6
            have hW7 : App 1 (n2 + 2) (h6.upd (some (.cells [.int .i64 ((firstS l (dst l i) at_ c : Nat) : Int)])) n6) w out.length (ints (zs out)) := hW6.kp hf6 ((Keep.refl n6 h6).upd (Nat.le_refl n6) _)
            obtain ⟨w', hG, happ, hG1, hG2, hG3, hG4⟩ := append_app el25 (show App tInt.size (n2 + 2) _ w _ _ from hW7) (hf6.upd _) (x := .slice (some ⟨n6, 0, none⟩) 1 1) (xl := 1) (new := [.int .i64 ((firstS l (dst l i) at_ c : Nat) : Int)]) ⟨_, _, rfl⟩ (by simp only [rowA, cells_of (T.get_upd_same _ _ _)]; rfl) (by omega) (by omega) rfl (by omega)
            have hqG : ∀ q, q < n2 + 2 → hG.get q = h5.get q := fun q hq => by
              rw [hG2 q (by omega) (fun e => by have := hbn q e; omega), T.get_upd_ne _ _ (by omega), hk6 q (by omega)]
            have hB6 : hG.get (n2 + 1) = some (.cells [.int .i64 (c : Int)]) := (hqG _ (by omega)).trans hB5
            refine WL.reg ?_
            refine OL.mv ?_; refine OL.mv ?_
            refine OL.bs buildS1 ?_
            refine OL.bi (appendB happ) ?_
            refine OL.asg ?_
            refine OL.nil (WL.reg ?_)
            refine OL.l3 ?_
            refine OL.sb ?_
            refine OL.st (store1 ty3 rfl hB6 rfl (o := 0) (by simp)) ?_
            obtain ⟨c', rfl⟩ : ∃ c', c = c' + 1 := ⟨c - 1, by omega⟩
            refine OL.nil ⟨c', by omega, c', firstS l (dst l i) at_ (c' + 1), out ++ [firstS l (dst l i) at_ (c' + 1)], w', rfl, hatM, fun hc => ?_, ?_, .cons rfl (.cons rfl (.cons rfl (.cons rfl (.cons rfl .nil)))), by omega, hG1.set (by omega) _, fun q hq hq' => ?_, ?_, ?_, ?_⟩
            · obtain ⟨c2, rfl⟩ : ∃ c2, c' = c2 + 1 := ⟨c' - 1, by omega⟩
              obtain ⟨y, y1, y2⟩ := dst_step q2
              exact ⟨y, y1, y2⟩
            · rw [hpath]
              simp [pathL]
            · rw [T.get_upd_ne _ _ hq', hqG q hq]
              exact hq5 q hq hq'
            · rw [T.get_upd_same]
              simp only [List.set_cons_zero]
              rw [show (((c' + 1 : Nat) : Int) - 1) = (c' : Int) by omega]
            · have e2 : ints (zs out) ++ [Value.int .i64 ((firstS l (dst l i) at_ (c' + 1) : Nat) : Int)] = ints (zs (out ++ [firstS l (dst l i) at_ (c' + 1)])) := by
                rw [zs_add]; simp [ints]
              have e1 : out.length + 1 = (out ++ [firstS l (dst l i) at_ (c' + 1)]).length := by simp
              rw [← e1, ← e2]
              exact (hG4.low (by omega)).keep fun b hb => by
                rw [hG3] at hb
                cases hb
                exact T.get_upd_ne _ _ (by omega)
            · simp; omega
          · refine OL.bF ?_
            refine OL.nil (WL.condF rfl (WL.exit ?_))
            have hc0 : c = 0 := by omega
            subst hc0
            refine WL.seq (WL.reg ?_)
            refine OL.mv ?_; refine OL.asg ?_; refine OL.asg ?_
            refine OL.nil (WL.ret ⟨fun id e => (by cases e), _, rfl, fun q hq => ?_, by omega, hf5, w, out, rfl, ⟨.inr ⟨i, hiM, hno, by omega, ?_⟩⟩, hW5.low (by omega)⟩)
            · rw [hk5 q (by omega)]
              exact hk1 q hq
            · rw [hbest2, Int.toNat_natCast, hpath]
              simp [pathL]
    · refine OL.bF ?_
      refine OL.nil (WL.seq (WL.condF rfl (WL.exit ?_)))
      refine WL.seq (WL.reg ?_)
      refine OL.asg ?_; refine OL.asg ?_
      exact OL.nil (WL.ret ⟨fun id e => (by cases e), _, rfl, hk1.trans hn1' hk, by omega, hf', .slice none 0 0, [], rfl, ⟨.inl ⟨rfl, fun j hj => hno j (by omega)⟩⟩, .inl ⟨rfl, rfl, rfl⟩⟩)
  exact key

end Go.Sx

/- SwJ: slices.Index, slices.Contains, slices.ContainsFunc. -/
namespace Go.Sx
open Go.Proofs
set_option maxRecDepth 100000
set_option maxHeartbeats 2000000

theorem fn26 : X.fn.get 26 = some Tryz.f26 := by kernel_rfl
theorem fn27 : X.fn.get 27 = some Tryz.f27 := by kernel_rfl
theorem fn28 : X.fn.get 28 = some Tryz.f28 := by kernel_rfl
theorem fn51 : X.fn.get 51 = some Tryz.f51 := by kernel_rfl
theorem fn54 : X.fn.get 54 = some Tryz.f54 := by kernel_rfl
theorem fn55 : X.fn.get 55 = some Tryz.f55 := by kernel_rfl
theorem fn56 : X.fn.get 56 = some Tryz.f56 := by kernel_rfl
theorem flat35 : flatKs 35 X.flat = some [.int .i64, .int .i64] := by kernel_rfl

def I64 (x : Int) : Prop := -9223372036854775808 ≤ x ∧ x ≤ 9223372036854775807
def I64E (e : Int × Int) : Prop := I64 e.1 ∧ I64 e.2
theorem I64.nat {n : Nat} (h : n ≤ 1000000) : I64 (n : Int) := ⟨by omega, by omega⟩
theorem GoodG.i64 {M : Nat} {l : List (Int × Int)} (hg : GoodG (M : Int) l) (hM : M ≤ 400) {e : Int × Int} (he : e ∈ l) : I64E e := by
  obtain ⟨g1, g2, g3, g4, g5⟩ := hg.ok e he
  exact ⟨⟨by omega, by omega⟩, ⟨by omega, by omega⟩⟩

theorem fit64 {x : Int} (h : I64 x) : fitC (.int .i64) (.int .i64 x) = true := by
  have h1 : kindEq .i64 .i64 = true := rfl
  have h2 : decide (IntKind.i64.min ≤ x) = true := decide_eq_true h.1
  have h3 : decide (x ≤ IntKind.i64.max) = true := decide_eq_true h.2
  simp only [fitC, h1, h2, h3, Bool.and_self]

theorem eq35 {c : Bool} {a b : Int × Int} (ha : I64E a) (hb : I64E b) : binA X .eql 35 c (.agg #[.int .i64 a.1, .int .i64 a.2]) (.agg #[.int .i64 b.1, .int .i64 b.2]) = some (.bool (decide (a = b))) := by
  have hd : decide (a = b) = (decide (a.1 = b.1) && (decide (a.2 = b.2) && true)) := by
    rw [Bool.eq_iff_iff]
    simp only [decide_eq_true_eq, Bool.and_eq_true, and_true]
    exact Prod.ext_iff
  have hk : ∀ {p : Int × Int}, I64E p → fitsK [.int .i64, .int .i64] [.int .i64 p.1, .int .i64 p.2] = true := fun hp => by
    simp only [fitsK, fit64 hp.1, fit64 hp.2, Bool.and_self]
  rw [hd]
  simp only [binA, eqA, ty35, tPair, flat35, eqFlat, hk ha, hk hb, Bool.and_self, cond_true, eqCs, eqC]

theorem ge_any {α : Type} {p : α → Bool} {xs : List α} : Value.bool (decide (0 ≤ idxF p xs)) = .bool (xs.any p) := by rw [idxF_any]

theorem RdE.bel {n m : Nat} {h : T Blk} {v : Value} {l : List (Int × Int)} (r : RdE n h v l) {i : Nat} {y : Int × Int} (hy : l[i]? = some y) (hm : n ≤ m) : BelV m v := by
  obtain ⟨b, o, hb, hx1, _⟩ := r.2 i y hy
  obtain ⟨⟨eb, cap, rfl⟩, _⟩ := r
  cases eb with
  | none => trivial
  | some a =>
    obtain ⟨b', o', s'⟩ := a
    cases s' with
    | some s' => simp [idxA, ty22, tSl] at hx1
    | none =>
      have hlt := (List.getElem?_eq_some_iff.1 hy).1
      rw [idx_slice ty22 ty35 hlt] at hx1
      simp only [Option.some.injEq, Value.pointer.injEq, Addr.mk.injEq] at hx1
      show b' < m
      omega

theorem index55_cl (xs : List Int) (x : Int) (v : Value) (h : T Blk) (n : Nat) (hf : Fresh h n) (hr : RdI n h v xs) (hlen : xs.length ≤ 100000) :
    Gives 55 [v, .int .i64 x] h n fun r _ _ => r = .int .i64 (idxF (fun y => decide (x = y)) xs) := by
  have key : ∃ r h' n', Cl X 55 [v, .int .i64 x] h n (.ret r h' n') ∧ Keep n h h' ∧ n ≤ n' ∧ Fresh h' n' ∧ r = .int .i64 (idxF (fun y => decide (x = y)) xs) := by
    refine Cl.wl (memoX (by decide)) fn55 rfl rfl rfl rfl ?_
    refine WL.seq (WL.reg ?_)
    refine OL.asg ?_
    refine OL.nil (WL.seq (WL.seq (WL.reg ?_)))
    refine OL.mv ?_
    refine OL.bi hr.ln ?_
    refine OL.mv ?_
    refine OL.nil (WL.block ?_)
    refine WL.loop (k := xs.length) (fun k L h' n' => ∃ i : Nat, i ≤ xs.length ∧ k = xs.length - i ∧ Sub [(8, .int .i64 (i : Int)), (7, .int .i64 (xs.length : Int)), (1, .int .i64 x), (0, v)] L ∧ h = h' ∧ n = n' ∧ ∀ (j : Nat) (y : Int), j < i → xs[j]? = some y → decide (x = y) = false) ?_
      ⟨0, Nat.zero_le _, rfl, .cons rfl (.cons rfl (.cons rfl (.cons rfl .nil))), rfl, rfl, fun j y hj => by omega⟩
    rintro k L h' n' ⟨i, hi, rfl, hs, rfl, rfl, hno⟩
    refine WL.keep hs ?_
    refine WL.seq (WL.reg ?_)
    by_cases c1 : (i : Int) < (xs.length : Int)
    · refine OL.bT ?_
      refine OL.nil (WL.seq (WL.condT rfl (WL.skip ?_)))
      obtain ⟨y, hy⟩ : ∃ y, xs[i]? = some y := ⟨_, List.getElem?_eq_getElem (by omega)⟩
      obtain ⟨b, o, hb, hx1, hx2⟩ := hr.2 i y hy
      refine WL.seq (WL.block (WL.seq (WL.reg ?_)))
      refine OL.mv ?_; refine OL.asg ?_
      refine OL.nil (WL.seq (WL.reg ?_))
      refine OL.mv ?_; refine OL.mv ?_; refine OL.mv ?_
      refine OL.ix hx1 ?_
      refine OL.ld (hx2 _ (Keep.refl _ _)) ?_
      by_cases hp : x = y
      · refine OL.bT ?_
        refine OL.nil (WL.condT rfl (WL.seq (WL.reg ?_)))
        refine OL.mv ?_; refine OL.asg ?_
        exact OL.nil (WL.ret ⟨fun id e => (by cases e), _, rfl, .refl _ _, Nat.le_refl _, hf, by rw [idxF_hit hy (decide_eq_true hp) hno]; rfl⟩)
      · refine OL.bF ?_
        refine OL.nil (WL.condF rfl (WL.skip (WL.reg ?_)))
        refine OL.ad1 ?_
        refine OL.mv ?_
        refine OL.nil ⟨xs.length - (i + 1), by omega, i + 1, by omega, rfl, .cons rfl (.cons rfl (.cons rfl (.cons rfl .nil))), rfl, rfl, fun j z hj hz => ?_⟩
        rcases Nat.lt_or_ge j i with h4 | h4
        · exact hno j z h4 hz
        · rw [show j = i by omega, hy] at hz
          cases hz
          exact decide_eq_false hp
    · refine OL.bF ?_
      refine OL.nil (WL.seq (WL.condF rfl (WL.exit ?_)))
      refine WL.seq (WL.reg ?_)
      refine OL.asg ?_
      refine OL.nil (WL.ret ⟨fun id e => (by cases e), _, rfl, .refl _ _, Nat.le_refl _, hf, ?_⟩)
      rw [idxF_miss fun z hz => by
        obtain ⟨j, hj⟩ := List.getElem?_of_mem hz
        exact hno j z (by have := (List.getElem?_eq_some_iff.1 hj).1; omega) hj]
      rfl
  exact key

theorem index54_cl (l : List (Int × Int)) (e : Int × Int) (v : Value) (h : T Blk) (n : Nat) (hf : Fresh h n) (hr : RdE n h v l) (hlen : l.length ≤ 100000) (he : I64E e) (hl : ∀ y ∈ l, I64E y) :
    Gives 54 [v, .agg #[.int .i64 e.1, .int .i64 e.2]] h n fun r _ _ => r = .int .i64 (idxF (fun y => decide (e = y)) l) := by
  have key : ∃ r h' n', Cl X 54 [v, .agg #[.int .i64 e.1, .int .i64 e.2]] h n (.ret r h' n') ∧ Keep n h h' ∧ n ≤ n' ∧ Fresh h' n' ∧ r = .int .i64 (idxF (fun y => decide (e = y)) l) := by
    refine Cl.wl (memoX (by decide)) fn54 rfl rfl rfl rfl ?_
    refine WL.seq (WL.reg ?_)
    refine OL.bx ?_; refine OL.asg ?_
    refine OL.heap (fun H => Fresh H (n + 1) ∧ Keep n h H ∧ H.get n = some (.cells [.int .i64 e.1, .int .i64 e.2])) ⟨hf.upd _, (Keep.refl n h).upd (Nat.le_refl _) _, T.get_upd_same _ _ _⟩ ?_
    rintro hA ⟨hfA, hkA, hAn⟩
    refine OL.nil (WL.seq (WL.seq (WL.reg ?_)))
    refine OL.mv ?_
    refine OL.bi hr.ln ?_
    refine OL.mv ?_
    refine OL.nil (WL.block ?_)
    refine WL.loop (k := l.length) (fun k L h' n' => ∃ i : Nat, i ≤ l.length ∧ k = l.length - i ∧ Sub [(8, .int .i64 (i : Int)), (7, .int .i64 (l.length : Int)), (3, .pointer (some ⟨n, 0, none⟩)), (0, v)] L ∧ hA = h' ∧ n + 1 = n' ∧ ∀ (j : Nat) (y : Int × Int), j < i → l[j]? = some y → decide (e = y) = false) ?_
      ⟨0, Nat.zero_le _, rfl, .cons rfl (.cons rfl (.cons rfl (.cons rfl .nil))), rfl, rfl, fun j y hj => by omega⟩
    rintro k L h' n' ⟨i, hi, rfl, hs, rfl, rfl, hno⟩
    refine WL.keep hs ?_
    refine WL.seq (WL.reg ?_)
    by_cases c1 : (i : Int) < (l.length : Int)
    · refine OL.bT ?_
      refine OL.nil (WL.seq (WL.condT rfl (WL.skip ?_)))
      obtain ⟨y, hy⟩ : ∃ y, l[i]? = some y := ⟨_, List.getElem?_eq_getElem (by omega)⟩
      obtain ⟨b, o, hb, hx1, hx2⟩ := hr.2 i y hy
      have hbv : BelV (n + 1) v := hr.bel hy (by omega)
      refine WL.seq (WL.block (WL.seq (WL.reg ?_)))
      refine OL.mv ?_; refine OL.asg ?_
      refine OL.nil (WL.seq (WL.regD (by kernel_rfl) (by kernel_rfl) ?_))
      refine OD.lp ?_; refine OD.mv ?_; refine OD.mv ?_
      refine OD.ix hx1 ?_
      refine OD.ld (hx2 _ hkA) ?_
      refine OD.bv (eq35 he (hl y (List.mem_of_getElem? hy))) ?_
      by_cases hp : e = y
      · rw [decide_eq_true hp]
        refine OD.nil (WL.condT rfl (WL.seq (WL.reg ?_)))
        refine OL.mv ?_; refine OL.asg ?_
        exact OL.nil (WL.ret ⟨fun id e => (by cases e), _, rfl, hkA, by omega, hfA, by rw [idxF_hit hy (decide_eq_true hp) hno]; rfl⟩)
      · rw [decide_eq_false hp]
        refine OD.nil (WL.condF rfl (WL.skip (WL.reg ?_)))
        refine OL.ad1 ?_
        refine OL.mv ?_
        refine OL.nil ⟨l.length - (i + 1), by omega, i + 1, by omega, rfl, .cons rfl (.cons rfl (.cons rfl (.cons rfl .nil))), rfl, rfl, fun j z hj hz => ?_⟩
        rcases Nat.lt_or_ge j i with h4 | h4
        · exact hno j z h4 hz
        · rw [show j = i by omega, hy] at hz
          cases hz
          exact decide_eq_false hp
    · refine OL.bF ?_
      refine OL.nil (WL.seq (WL.condF rfl (WL.exit ?_)))
      refine WL.seq (WL.reg ?_)
      refine OL.asg ?_
      refine OL.nil (WL.ret ⟨fun id e => (by cases e), _, rfl, hkA, by omega, hfA, ?_⟩)
      rw [idxF_miss fun z hz => by
        obtain ⟨j, hj⟩ := List.getElem?_of_mem hz
        exact hno j z (by have := (List.getElem?_eq_some_iff.1 hj).1; omega) hj]
      rfl
  exact key

theorem indexFE_cl (l : List (Int × Int)) (p : Int × Int → Bool) (v fv : Value) (h : T Blk) (n : Nat) (hf : Fresh h n) (hr : RdE n h v l) (hfv : Fn1 n h fv (fun e : Int × Int => Value.agg #[.int .i64 e.1, .int .i64 e.2]) p (fun x => x ∈ l)) (hlen : l.length ≤ 100000) :
    Gives 56 [v, fv] h n fun r _ _ => r = .int .i64 (idxF p l) := by
  have key : ∃ r h' n', Cl X 56 [v, fv] h n (.ret r h' n') ∧ Keep n h h' ∧ n ≤ n' ∧ Fresh h' n' ∧ r = .int .i64 (idxF p l) := by
    obtain ⟨g, cs, fn, rfl, hg, hcall⟩ := hfv
    refine Cl.wl (memoX (by decide)) fn56 rfl rfl rfl rfl ?_
    refine WL.seq (WL.reg ?_)
    refine OL.asg ?_
    refine OL.nil (WL.seq (WL.seq (WL.reg ?_)))
    refine OL.mv ?_
    refine OL.bi hr.ln ?_
    refine OL.mv ?_
    refine OL.nil (WL.block ?_)
    refine WL.loop (k := l.length) (fun k L h' n' => ∃ i : Nat, i ≤ l.length ∧ k = l.length - i ∧ Sub [(8, .int .i64 (i : Int)), (7, .int .i64 (l.length : Int)), (1, .func (.func g) #[] cs), (0, v)] L ∧ Keep n h h' ∧ n ≤ n' ∧ Fresh h' n' ∧ ∀ (j : Nat) (y : Int × Int), j < i → l[j]? = some y → p y = false) ?_
      ⟨0, Nat.zero_le _, rfl, .cons rfl (.cons rfl (.cons rfl (.cons rfl .nil))), .refl _ _, Nat.le_refl _, hf, fun j y hj => by omega⟩
    rintro k L h' n' ⟨i, hi, rfl, hs, hk, hn, hf', hno⟩
    refine WL.keep hs ?_
    refine WL.seq (WL.reg ?_)
    by_cases c1 : (i : Int) < (l.length : Int)
    · refine OL.bT ?_
      refine OL.nil (WL.seq (WL.condT rfl (WL.skip ?_)))
      obtain ⟨x, hx⟩ : ∃ x, l[i]? = some x := ⟨_, List.getElem?_eq_getElem (by omega)⟩
      obtain ⟨b, o, hb, hx1, hx2⟩ := hr.2 i x hx
      refine WL.seq (WL.block (WL.seq (WL.reg ?_)))
      refine OL.mv ?_; refine OL.asg ?_
      refine OL.nil (WL.seq (WL.reg ?_))
      refine OL.mv ?_; refine OL.mv ?_; refine OL.mv ?_
      refine OL.ix hx1 ?_
      refine OL.ld (hx2 _ hk) ?_
      obtain ⟨v2, h2, n2, hc2, hk2, hn2, hf2, rfl⟩ := hcall x h' n' (List.mem_of_getElem? hx) hk hn hf'
      refine OL.call (by first | rfl | exact WantL.yes rfl rfl rfl) (D.callV rfl rfl rfl rfl hg rfl) hc2 rfl rfl ?_
      cases hp : p x with
      | true =>
        refine OL.nil (WL.condT rfl (WL.seq (WL.reg ?_)))
        refine OL.mv ?_; refine OL.asg ?_
        exact OL.nil (WL.ret ⟨fun id e => (by cases e), _, rfl, hk.trans hn hk2, by omega, hf2, by rw [idxF_hit hx hp hno]; rfl⟩)
      | false =>
        refine OL.nil (WL.condF rfl (WL.skip (WL.reg ?_)))
        refine OL.ad1 ?_
        refine OL.mv ?_
        refine OL.nil ⟨l.length - (i + 1), by omega, i + 1, by omega, rfl, .cons rfl (.cons rfl (.cons rfl (.cons rfl .nil))), hk.trans hn hk2, by omega, hf2, fun j y hj hy => ?_⟩
        rcases Nat.lt_or_ge j i with h4 | h4
        · exact hno j y h4 hy
        · rw [show j = i by omega, hx] at hy
          cases hy
          exact hp
    · refine OL.bF ?_
      refine OL.nil (WL.seq (WL.condF rfl (WL.exit ?_)))
      refine WL.seq (WL.reg ?_)
      refine OL.asg ?_
      refine OL.nil (WL.ret ⟨fun id e => (by cases e), _, rfl, hk, hn, hf', ?_⟩)
      rw [idxF_miss fun x hx => by
        obtain ⟨j, hj⟩ := List.getElem?_of_mem hx
        exact hno j x (by have := (List.getElem?_eq_some_iff.1 hj).1; omega) hj]
      rfl
  exact key

theorem contI_cl (xs : List Int) (x : Int) (v : Value) (h : T Blk) (n : Nat) (hf : Fresh h n) (hr : RdI n h v xs) (hlen : xs.length ≤ 100000) :
    Gives 27 [v, .int .i64 x] h n fun r _ _ => r = .bool (xs.any fun y => decide (x = y)) := by
  have key : ∃ r h' n', Cl X 27 [v, .int .i64 x] h n (.ret r h' n') ∧ Keep n h h' ∧ n ≤ n' ∧ Fresh h' n' ∧ r = .bool (xs.any fun y => decide (x = y)) := by
    obtain ⟨r1, h1, n1, hc1, hk1, hn1, hf1, rfl⟩ := index55_cl xs x v h n hf hr hlen
    refine Cl.wl (memoX (by decide)) fn27 rfl rfl rfl rfl ?_
    refine WL.seq (WL.reg ?_)
    refine OL.asg ?_
    refine OL.nil (WL.seq (WL.reg ?_))
    refine OL.mv ?_; refine OL.mv ?_
    refine OL.cf fn55 hc1 ?_
    refine OL.bv (v := .bool (decide (0 ≤ idxF (fun y => decide (x = y)) xs))) rfl ?_
    refine OL.asg ?_
    exact OL.nil (WL.ret ⟨fun id e => (by cases e), _, rfl, hk1, hn1, hf1, ge_any⟩)
  exact key

theorem contE_cl (l : List (Int × Int)) (e : Int × Int) (v : Value) (h : T Blk) (n : Nat) (hf : Fresh h n) (hr : RdE n h v l) (hlen : l.length ≤ 100000) (he : I64E e) (hl : ∀ y ∈ l, I64E y) :
    Gives 26 [v, .agg #[.int .i64 e.1, .int .i64 e.2]] h n fun r _ _ => r = .bool (l.any fun y => decide (e = y)) := by
  have key : ∃ r h' n', Cl X 26 [v, .agg #[.int .i64 e.1, .int .i64 e.2]] h n (.ret r h' n') ∧ Keep n h h' ∧ n ≤ n' ∧ Fresh h' n' ∧ r = .bool (l.any fun y => decide (e = y)) := by
    have hkA : Keep n h (h.upd (some (.cells [.int .i64 e.1, .int .i64 e.2])) n) := (Keep.refl n h).upd (Nat.le_refl _) _
    obtain ⟨r1, h1, n1, hc1, hk1, hn1, hf1, rfl⟩ := index54_cl l e v (h.upd (some (.cells [.int .i64 e.1, .int .i64 e.2])) n) (n + 1) (hf.upd _) (hr.mono hkA (by omega)) hlen he hl
    refine Cl.wl (memoX (by decide)) fn26 rfl rfl rfl rfl ?_
    refine WL.seq (WL.reg ?_)
    refine OL.bx ?_; refine OL.asg ?_
    refine OL.nil (WL.seq (WL.reg ?_))
    refine OL.mv ?_; refine OL.lp ?_
    refine OL.cf fn54 hc1 ?_
    refine OL.bv (v := .bool (decide (0 ≤ idxF (fun y => decide (e = y)) l))) rfl ?_
    refine OL.asg ?_
    exact OL.nil (WL.ret ⟨fun id e => (by cases e), _, rfl, hkA.trans (by omega) hk1, by omega, hf1, ge_any⟩)
  exact key

theorem contFE_cl (l : List (Int × Int)) (p : Int × Int → Bool) (v fv : Value) (h : T Blk) (n : Nat) (hf : Fresh h n) (hr : RdE n h v l) (hfv : Fn1 n h fv (fun e : Int × Int => Value.agg #[.int .i64 e.1, .int .i64 e.2]) p (fun x => x ∈ l)) (hlen : l.length ≤ 100000) :
    Gives 28 [v, fv] h n fun r _ _ => r = .bool (l.any p) := by
  have key : ∃ r h' n', Cl X 28 [v, fv] h n (.ret r h' n') ∧ Keep n h h' ∧ n ≤ n' ∧ Fresh h' n' ∧ r = .bool (l.any p) := by
    obtain ⟨r1, h1, n1, hc1, hk1, hn1, hf1, rfl⟩ := indexFE_cl l p v fv h n hf hr hfv hlen
    refine Cl.wl (memoX (by decide)) fn28 rfl rfl rfl rfl ?_
    refine WL.seq (WL.reg ?_)
    refine OL.asg ?_
    refine OL.nil (WL.seq (WL.reg ?_))
    refine OL.mv ?_; refine OL.mv ?_
    refine OL.cf fn56 hc1 ?_
    refine OL.bv (v := .bool (decide (0 ≤ idxF p l))) rfl ?_
    refine OL.asg ?_
    exact OL.nil (WL.ret ⟨fun id e => (by cases e), _, rfl, hk1, hn1, hf1, ge_any⟩)
  exact key

theorem contFI_cl (xs : List Int) (p : Int → Bool) (v fv : Value) (h : T Blk) (n : Nat) (hf : Fresh h n) (hr : RdI n h v xs) (hfv : Fn1 n h fv (Value.int .i64) p (fun x => x ∈ xs)) (hlen : xs.length ≤ 100000) :
    Gives 51 [v, fv] h n fun r _ _ => r = .bool (xs.any p) := by
  have key : ∃ r h' n', Cl X 51 [v, fv] h n (.ret r h' n') ∧ Keep n h h' ∧ n ≤ n' ∧ Fresh h' n' ∧ r = .bool (xs.any p) := by
    obtain ⟨r1, h1, n1, hc1, hk1, hn1, hf1, rfl⟩ := indexF_cl xs p v fv h n hf hr hfv hlen
    refine Cl.wl (memoX (by decide)) fn51 rfl rfl rfl rfl ?_
    refine WL.seq (WL.reg ?_)
    refine OL.asg ?_
    refine OL.nil (WL.seq (WL.reg ?_))
    refine OL.mv ?_; refine OL.mv ?_
    refine OL.cf fn44 hc1 ?_
    refine OL.bv (v := .bool (decide (0 ≤ idxF p xs))) rfl ?_
    refine OL.asg ?_
    exact OL.nil (WL.ret ⟨fun id e => (by cases e), _, rfl, hk1, hn1, hf1, ge_any⟩)
  exact key

end Go.Sx

/- SwK: the law OrderSorted. -/
namespace Go.Sx
open Go.Proofs
set_option maxRecDepth 100000
set_option maxHeartbeats 2000000

theorem fn5 : X.fn.get 5 = some Tryz.f5 := by kernel_rfl
theorem fn29 : X.fn.get 29 = some Tryz.f29 := by kernel_rfl

theorem rem_nat {ty : TypeId} {c : Bool} {a b : Nat} (hb : 0 < b) : binA X .rem ty c (.int .i64 (a : Int)) (.int .i64 (b : Int)) = some (.int .i64 ((a % b : Nat) : Int)) := by
  have h1 : decide ((b : Int) = 0) = false := decide_eq_false (by omega)
  have h2 : kindEq .i64 .i64 = true := rfl
  simp only [binA, h1, h2, Bool.not_false, Bool.and_self, cond_true]
  congr 2

theorem build35 {x y : Int} : buildA X 35 [(0, .int .i64 x), (1, .int .i64 y)] = some (.agg #[.int .i64 x, .int .i64 y]) := by kernel_rfl

/- The first ones. -/
theorem take_app {lo n len k : Nat} {h : T Blk} {v : Value} {xs : List Int} (a : App 1 lo h v len (ints xs)) (hf : Fresh h n) (h0 : 0 < len) (hk : k ≤ len) (hl : len ≤ 100000) : ∃ w, sliceA X 25 v none (some (.int .i64 (k : Int))) none = some w ∧ RdI n h w (xs.take k) := by
  have hu : len < UNK := by unfold UNK; omega
  have hxl : xs.length = len := by have := a.csl; rw [ints_len] at this; omega
  rcases a with ⟨_, h1, _⟩ | ⟨b, o, cap, all, rfl, hcap, h3, h4, h5⟩
  · omega
  have hn1 : natV (.int .i64 (k : Int)) len = some k := by
    show natV (.int .i64 (Int.ofNat k)) len = some k
    simp only [natV, bif_eq_ite, bleT]
    rw [if_pos hk]
  have rd : ∀ cap', RdI n h (.slice (some ⟨b, o, none⟩) k cap') (xs.take k) := fun cap' => by
    refine ⟨⟨some ⟨b, o, none⟩, cap', by rw [List.length_take, Nat.min_eq_left (by omega)]⟩, fun j x hj => ?_⟩
    rw [List.getElem?_take] at hj
    split at hj
    · rename_i hjk
      refine ⟨b, o + j, hf.lt h4, ?_, fun h' hk' => ?_⟩
      · rw [idx_slice ty25 ty3 hjk, show tInt.size = 1 from rfl, Nat.mul_one]
      · refine load1 ty3 rfl (cells_of ((hk' b (hf.lt h4)).trans h4)) ?_
        rw [seg_at h5 (by omega)]
        exact ints_at hj
    · cases hj
  rcases hcap with rfl | hcap
  · have q1 : lowCap (UNK * 1 + len) = len := lowCap_u hu
    have q2 : (UNK * 1 + len) / UNK = 1 := divCap_u hu
    have q3 : unkCap (UNK * 1 + len) = true := by unfold unkCap; rw [bleT]; omega
    refine ⟨.slice (some ⟨b, o + 0 * 1, none⟩) (k - 0) (UNK * 1 + len - 0), ?_, by rw [Nat.zero_mul, Nat.add_zero, Nat.sub_zero]; exact rd _⟩
    simp only [sliceA, ty25, tSl, ty3, tInt, boundsA, boundsA.low, q1, hn1, q2, q3, cond_true, Nat.beq_refl]
  · have hcap := hcap.symm
    subst hcap
    have q1 : lowCap len = len := by unfold lowCap; exact Nat.mod_eq_of_lt hu
    have q3 : unkCap len = false := by
      unfold unkCap
      cases hb : Nat.ble UNK len with
      | false => rfl
      | true => rw [bleT] at hb; omega
    have q4 : Nat.beq len 0 = false := by
      cases hb : Nat.beq len 0 with
      | false => rfl
      | true => rw [beqT] at hb; omega
    refine ⟨.slice (some ⟨b, o + 0 * 1, none⟩) (k - 0) (len - 0), ?_, by rw [Nat.zero_mul, Nat.add_zero, Nat.sub_zero]; exact rd _⟩
    simp only [sliceA, ty25, tSl, ty3, tInt, boundsA, boundsA.low, q1, hn1, q3, cond_false, q4]

theorem sorted1_cl (M b9 bf a y : Nat) (fr : Nat → Int) (h : T Blk) (n : Nat) (hf : Fresh h n) (h9 : h.get b9 = some (.cells [.slice (some ⟨bf, 0, none⟩) M M])) (hF : h.get bf = some (.cells (natsF M fr))) (ha : a < M) (hy : y < M) :
    Gives 29 [.agg #[.int .i64 (a : Int), .int .i64 (y : Int)], .pointer (some ⟨b9, 0, none⟩)] h n fun v _ _ => v = .bool (decide (fr y ≤ fr a)) := by
  have hb9 := hf.lt h9
  have hbf := hf.lt hF
  have key : ∃ v h' n', Cl X 29 [.agg #[.int .i64 (a : Int), .int .i64 (y : Int)], .pointer (some ⟨b9, 0, none⟩)] h n (.ret v h' n') ∧ Keep n h h' ∧ n ≤ n' ∧ Fresh h' n' ∧ v = .bool (decide (fr y ≤ fr a)) := by
    refine Cl.wl (memoX (by decide)) fn29 rfl rfl rfl rfl ?_
    refine WL.seq (WL.reg ?_)
    refine OL.bx ?_; refine OL.asg ?_
    refine OL.heap (fun H => Fresh H (n + 1) ∧ Keep n h H ∧ H.get n = some (.cells [.int .i64 (a : Int), .int .i64 (y : Int)])) ⟨hf.upd _, (Keep.refl n h).upd (Nat.le_refl _) _, T.get_upd_same _ _ _⟩ ?_
    rintro hA ⟨hfA, hkA, hAn⟩
    have h9A := (hkA b9 hb9).trans h9
    have hFA := (hkA bf hbf).trans hF
    refine OL.nil (WL.seq (WL.regD (by kernel_rfl) (by kernel_rfl) ?_))
    refine OD.ld (load1 ty25 rfl (cells_of h9A) rfl) ?_
    refine OD.ix idx_pair0 ?_; refine OD.l3 ?_
    refine OD.ix (idx1 ty25 ty3 rfl ha) ?_
    refine OD.ld (load1 ty3 rfl (cells_of hFA) (natsF_at ha)) ?_
    refine OD.ld (load1 ty25 rfl (cells_of h9A) rfl) ?_
    refine OD.ix idx_pair1 ?_; refine OD.l3 ?_
    refine OD.ix (idx1 ty25 ty3 rfl hy) ?_
    refine OD.ld (load1 ty3 rfl (cells_of hFA) (natsF_at hy)) ?_
    refine OD.bv rfl ?_
    refine OD.asg ?_
    exact OD.nil (WL.ret ⟨fun id e => (by cases e), _, rfl, hkA, by omega, hfA, rfl⟩)
  exact key

/- Where an item stands. -/
def posF (out : List Nat) (i k : Nat) : Int := if k ∈ out.take i then (out.idxOf k : Int) else 0
theorem posF_up {out : List Nat} (hn : out.Nodup) {i x : Nat} (hx : out[i]? = some x) (j : Nat) : posF out (i + 1) j = if j = x then (i : Int) else posF out i j := by
  obtain ⟨h1, h2⟩ := List.getElem?_eq_some_iff.1 hx
  unfold posF
  rw [List.take_add_one, hx]
  by_cases hj : j = x
  · subst hj
    rw [if_pos (by simp), if_pos rfl, ← h2, hn.idxOf_getElem]
  · rw [if_neg hj]
    have : (j ∈ out.take i ++ (some x).toList) = (j ∈ out.take i) := by simp [hj]
    by_cases hm : j ∈ out.take i
    · rw [if_pos (Eq.mpr this hm), if_pos hm]
    · rw [if_neg (fun q => hm (Eq.mp this q)), if_neg hm]

theorem sortedLaw_cl (m : Int) (s : Value) (l : List (Int × Int)) (h : T Blk) (n : Nat) (hf : Fresh h n) (he : Edges h s l) (_ : rowA h 2 l.length s = some (eCs l)) (hbs : ∀ k, n ≤ k → BelV k s) (hgro : groOK h gro0 = true) (hn0 : 1 ≤ n) :
    Gives 5 [.int .i64 m, s] h n fun v _ _ => v = .bool true := by
  have key : ∃ v h' n', Cl X 5 [.int .i64 m, s] h n (.ret v h' n') ∧ Keep n h h' ∧ n ≤ n' ∧ Fresh h' n' ∧ v = .bool true := by
    obtain ⟨v1, h1, n1, hc1, hk1, hn1, hf1, bv, rfl, hval⟩ := valid_cl m s l h n hf he hbs
    refine Cl.wl (memoX (by decide)) fn5 rfl rfl rfl rfl ?_
    refine WL.seq (WL.reg ?_)
    refine OL.asg ?_
    refine OL.nil (WL.seq (WL.seq (WL.reg ?_)))
    refine OL.cf fn9 (Cl.memo (memo9 hgro)) ?_
    refine OL.un ?_
    refine OL.nil (WL.condF rfl (WL.skip ?_))
    refine WL.seq (WL.seq (WL.reg ?_))
    refine OL.mv ?_; refine OL.mv ?_
    refine OL.cf fn25 hc1 ?_
    cases bv with
    | false =>
      refine OL.un ?_
      refine OL.nil (WL.condT rfl (WL.seq (WL.reg ?_)))
      refine OL.asg ?_
      exact OL.nil (WL.ret ⟨fun id e => (by cases e), _, rfl, hk1, hn1, hf1, rfl⟩)
    | true =>
    obtain ⟨M, rfl, hM, hlen, hg⟩ := hval rfl
    have he1 := he.keep hf hk1
    have hi64 : ∀ y ∈ l, I64E y := fun y hy => hg.i64 (by omega) hy
    obtain ⟨v2, h2, n2, hc2, hk2, hn2, hf2, w2, hsv⟩ := sort_cl M s l h1 n1 hf1 he1 (fun k hk => hbs k (by omega)) (by omega) hlen hg
    have he2 := he1.keep hf1 hk2
    have hk02 := hk1.trans hn1 hk2
    obtain ⟨v3, h3, n3, hc3, hk3, hn3, hf3, w3, c, rfl, hcyc, hcw⟩ := cycle_cl M s l h2 n2 hf2 he2 (fun k hk => hbs k (by omega)) (gro_keep hgro hk02 hn0) hM hlen hg (by omega)
    have he3 := he2.keep hf2 hk3
    have hk03 := hk02.trans (by omega) hk3
    have hrE : RdE n3 h3 s l := he3.rd hf3 (hbs _ (by omega))
    refine OL.un ?_
    refine OL.nil (WL.condF rfl (WL.skip ?_))
    refine WL.seq (WL.reg ?_)
    refine OL.mv ?_; refine OL.mv ?_
    refine OL.cf fn11 hc2 ?_
    rcases hsv with ⟨rfl, out, ho1, ho2, ho3⟩ | ⟨rfl, hst⟩
    · have hno := topo_nocyc hg ho2 ho3
      have hc0 : c = [] := (hcyc.none hg).2 hno
      subst hc0
      have hl0 : ([] : List Nat).length = 0 := rfl
      refine OL.mv ?_; refine OL.ext ?_; refine OL.ext ?_; refine OL.asg ?_; refine OL.asg ?_
      refine OL.nil (WL.seq (WL.reg ?_))
      refine OL.mv ?_; refine OL.mv ?_
      refine OL.cf fn13 hc3 ?_
      refine OL.mv ?_; refine OL.ext ?_; refine OL.ext ?_; refine OL.asg ?_; refine OL.asg ?_
      refine OL.nil (WL.seq (WL.seq (WL.reg ?_)))
      refine OL.mv ?_; refine OL.nF ?_; refine OL.mv ?_; refine OL.mv ?_; refine OL.nF ?_; refine OL.mv ?_; refine OL.ps ?_; refine OL.ps ?_; refine OL.pF ?_; refine OL.pF ?_; refine OL.mv ?_; refine OL.mv ?_; refine OL.bF ?_; refine OL.mv ?_
      refine OL.bi (hcw.ln ty25) ?_
      refine OL.bF ?_
      refine OL.bv rfl ?_
      refine OL.pF ?_
      refine OL.nil (WL.condF rfl (WL.skip ?_))
      refine WL.seq (WL.seq (WL.reg ?_))
      refine OL.mv ?_; refine OL.bF ?_
      refine OL.nil (WL.condF rfl (WL.skip ?_))
      refine WL.seq (WL.reg ?_)
      refine OL.mv ?_
      refine OL.ms (mkS (M := M) ty25 ty3 rfl rfl rfl rfl (by omega)) ?_
      refine OL.al ty25 ?_
      refine OL.st (store1 ty25 rfl (T.get_upd_same _ _ _) rfl (o := 0) (by simp [tSl])) ?_
      refine OL.nil (WL.seq (WL.reg ?_))
      refine OL.mv ?_
      refine OL.ms (mkS (M := M) ty38 ty4 rfl rfl rfl rfl (by omega)) ?_
      refine OL.asg ?_
      refine OL.heap (fun H => Fresh H (n3 + 3) ∧ Keep n3 h3 H ∧ H.get n3 = some (.cells (natsF M (posF out 0))) ∧ H.get (n3 + 1) = some (.cells [.slice (some ⟨n3, 0, none⟩) M M]) ∧ H.get (n3 + 2) = some (.cells (boolsF M fun k => decide (k ∈ out.take 0)))) ⟨(((hf3.upd _).upd _).set (by omega) _).upd _, ((((Keep.refl n3 h3).upd (Nat.le_refl _) _).upd (by omega) _).upd (by omega) _).upd (by omega) _, ?_, ?_, ?_⟩ ?_
      · rw [T.get_upd_ne _ _ (by omega), T.get_upd_ne _ _ (by omega), T.get_upd_ne _ _ (by omega), T.get_upd_same, natsF_zero]
        congr 3
      · rw [T.get_upd_ne _ _ (by omega), T.get_upd_same]; rfl
      · rw [T.get_upd_same, boolsF_zero]; simp
      rintro hA ⟨hfA, hkA, hA0, hA1, hA2⟩
      have ho : OutAt n1 hA w2 out := (ho1.keep hf2 hk3).keep hf3 hkA
      have hrO : RowAt n3 h3 w2 (zs out) := (ho1.keep hf2 hk3).row hf3
      have hzl := zs_len out
      refine OL.nil (WL.seq (WL.seq (WL.reg ?_)))
      refine OL.mv ?_
      refine OL.bi hrO.len ?_
      refine OL.mv ?_
      refine OL.nil (WL.block ?_)
      refine WL.loop (k := M) (fun k L h4 n4 => ∃ i : Nat, i ≤ M ∧ k = M - i ∧ Sub [(90, .int .i64 (i : Int)), (89, .int .i64 ((zs out).length : Int)), (88, w2), (5, w2), (11, .pointer (some ⟨n3 + 1, 0, none⟩)), (12, .slice (some ⟨n3 + 2, 0, none⟩) M M), (1, s), (0, .int .i64 (M : Int))] L ∧ n4 = n3 + 3 ∧ Fresh h4 (n3 + 3) ∧ Keep n3 h3 h4 ∧
        h4.get n3 = some (.cells (natsF M (posF out i))) ∧ h4.get (n3 + 1) = some (.cells [.slice (some ⟨n3, 0, none⟩) M M]) ∧ h4.get (n3 + 2) = some (.cells (boolsF M fun k => decide (k ∈ out.take i)))) ?_
        ⟨0, Nat.zero_le _, rfl, .cons rfl (.cons rfl (.cons rfl (.cons rfl (.cons rfl (.cons rfl (.cons rfl (.cons rfl .nil))))))), rfl, hfA, hkA, hA0, hA1, hA2⟩
      rintro k L h4 n4 ⟨i, hi, rfl, hs4, rfl, hf4, hk4, hB0, hB1, hB2⟩
      refine WL.keep hs4 ?_
      refine WL.seq (WL.reg ?_)
      by_cases c1 : (i : Int) < ((zs out).length : Int)
      · refine OL.bT ?_
        refine OL.nil (WL.seq (WL.condT rfl (WL.skip ?_)))
        obtain ⟨x, hx⟩ : ∃ x, out[i]? = some x := ⟨_, List.getElem?_eq_getElem (by omega)⟩
        have hxM : x < M := ho2.lt x (List.mem_of_getElem? hx)
        have hxn : x ∉ out.take i := fun hm => by
          obtain ⟨j, hj⟩ := List.getElem?_of_mem hm
          rw [List.getElem?_take] at hj
          split at hj
          · obtain ⟨q1, q2⟩ := List.getElem?_eq_some_iff.1 hj
            obtain ⟨q3, q4⟩ := List.getElem?_eq_some_iff.1 hx
            have := (List.getElem_inj ho2.nd).1 (q2.trans q4.symm)
            omega
          · cases hj
        obtain ⟨rb, hrb, hr1, hr2⟩ := hrO.at (zs_at hx)
        have ix : ∀ {b k : Nat}, k < M → idxA X 25 (.slice (some ⟨b, 0, none⟩) M M) (.int .i64 (k : Int)) = some (.pointer (some ⟨b, k, none⟩)) := fun hk => idx1 ty25 ty3 rfl hk
        have jx : ∀ {b k : Nat}, k < M → idxA X 38 (.slice (some ⟨b, 0, none⟩) M M) (.int .i64 (k : Int)) = some (.pointer (some ⟨b, k, none⟩)) := fun hk => idx1 ty38 ty4 rfl hk
        have hld : (boolsF M fun k => decide (k ∈ out.take i))[x]? = some (.bool false) := by rw [boolsF_at hxM, decide_eq_false hxn]
        refine WL.seq (WL.block (WL.seq (WL.reg ?_)))
        refine OL.mv ?_
        refine OL.ix hr1 ?_
        refine OL.ld (hr2 _ hk4) ?_
        refine OL.asg ?_; refine OL.asg ?_
        refine OL.nil (WL.seq (WL.seq (WL.reg ?_)))
        refine OL.mv ?_; refine OL.bF ?_; refine OL.mv ?_; refine OL.mv ?_; refine OL.mv ?_; refine OL.bF ?_; refine OL.pF ?_; refine OL.mv ?_; refine OL.mv ?_; refine OL.mv ?_
        refine OL.ix (jx hxM) ?_
        refine OL.ld (load1 ty4 rfl (cells_of hB2) hld) ?_
        refine OL.pF ?_
        refine OL.nil (WL.condF rfl (WL.skip ?_))
        refine WL.seq (WL.reg ?_)
        refine OL.mv ?_; refine OL.mv ?_
        refine OL.ix (jx hxM) ?_
        refine OL.st (store1 ty4 rfl hB2 rfl (by rw [boolsF_len]; exact hxM)) ?_
        refine OL.nil (WL.reg ?_)
        have hB1' : (h4.upd (some (.cells ((boolsF M fun k => decide (k ∈ out.take i)).set x (.bool true)))) (n3 + 2)).get (n3 + 1) = some (.cells [.slice (some ⟨n3, 0, none⟩) M M]) := (T.get_upd_ne _ _ (by omega)).trans hB1
        have hB0' : (h4.upd (some (.cells ((boolsF M fun k => decide (k ∈ out.take i)).set x (.bool true)))) (n3 + 2)).get n3 = some (.cells (natsF M (posF out i))) := (T.get_upd_ne _ _ (by omega)).trans hB0
        refine OL.ld (load1 ty25 rfl (cells_of hB1') rfl) ?_
        refine OL.mv ?_; refine OL.mv ?_
        refine OL.ix (ix hxM) ?_
        refine OL.st (store1 ty3 rfl hB0' rfl (by rw [natsF_len]; exact hxM)) ?_
        refine OL.nil (WL.reg ?_)
        refine OL.ad1 ?_
        refine OL.mv ?_
        refine OL.nil ⟨M - (i + 1), by omega, i + 1, by omega, rfl, .cons rfl (.cons rfl (.cons rfl (.cons rfl (.cons rfl (.cons rfl (.cons rfl (.cons rfl .nil))))))), rfl, (hf4.set (by omega) _).set (by omega) _, (hk4.upd (by omega) _).upd (by omega) _, ?_, ?_, ?_⟩
        · rw [T.get_upd_same]
          congr 2
          exact natsF_set hxM fun j => posF_up ho2.nd hx j
        · rw [T.get_upd_ne _ _ (by omega)]; exact hB1'
        · rw [T.get_upd_ne _ _ (by omega), T.get_upd_same]
          congr 2
          refine boolsF_set hxM fun j => ?_
          rw [List.take_add_one, hx]
          by_cases hj : j = x
          · rw [if_pos hj, hj]; simp
          · rw [if_neg hj]; simp [hj]
      · refine OL.bF ?_
        refine OL.nil (WL.seq (WL.condF rfl (WL.exit ?_)))
        have hiM : i = M := by omega
        subst hiM
        have hfn : Fn1 (n3 + 3) h4 (.func (.func 29) ⟨[]⟩ ⟨[.pointer (some ⟨n3 + 1, 0, none⟩)]⟩) (fun e : Int × Int => Value.agg #[.int .i64 e.1, .int .i64 e.2]) (fun e => decide (posF out i e.2.toNat ≤ posF out i e.1.toNat)) (fun x => x ∈ l) := by
          refine ⟨29, _, _, rfl, fn29, fun e h' n' hx hkx hnx hfx => ?_⟩
          obtain ⟨g1, g2, g3, g4, g5⟩ := hg.ok e hx
          obtain ⟨e1, e2⟩ := e
          simp only at g1 g2 g3 g4 g5
          obtain ⟨a, rfl⟩ : ∃ a : Nat, e1 = (a : Int) := ⟨e1.toNat, by omega⟩
          obtain ⟨y, rfl⟩ : ∃ y : Nat, e2 = (y : Int) := ⟨e2.toNat, by omega⟩
          have := sorted1_cl i (n3 + 1) n3 a y (posF out i) h' n' hfx ((hkx _ (by omega)).trans hB1) ((hkx _ (by omega)).trans hB0) (by omega) (by omega)
          simpa using this
        obtain ⟨v5, h5, n5, hc5, hk5, hn5, hf5, rfl⟩ := contFE_cl l _ s _ h4 (n3 + 3) hf4 (hrE.mono hk4 (by omega)) hfn (by omega)
        have hany : (l.any fun e => decide (posF out i e.2.toNat ≤ posF out i e.1.toNat)) = false := by
          rw [List.any_eq_false]
          intro e hel
          obtain ⟨g1, g2, g3, g4, g5⟩ := hg.ok e hel
          obtain ⟨e1, e2⟩ := e
          simp only at g1 g2 g3 g4 g5
          obtain ⟨a, rfl⟩ : ∃ a : Nat, e1 = (a : Int) := ⟨e1.toNat, by omega⟩
          obtain ⟨y, rfl⟩ : ∃ y : Nat, e2 = (y : Int) := ⟨e2.toNat, by omega⟩
          have hr := topo_ranked hg ho2 ho3 a y hel
          have ma := topo_full ho2 ho3 a (by omega)
          have my := topo_full ho2 ho3 y (by omega)
          have ht : out.take i = out := List.take_of_length_le (by omega)
          simp only [Int.toNat_natCast, posF, ht, if_pos ma, if_pos my, decide_eq_true_eq]
          have hr : out.idxOf a < out.idxOf y := hr
          omega
        rw [hany] at hc5
        refine WL.seq (WL.reg ?_)
        refine OL.mv ?_
        refine OL.bi hrO.len ?_
        refine OL.mv ?_; refine OL.bT ?_; refine OL.mv ?_; refine OL.mv ?_
        refine OL.val (by first | rfl | exact WantL.yes rfl rfl rfl) (D.makeFunc rfl rfl rfl) rfl rfl ?_
        refine OL.cf fn28 hc5 ?_
        refine OL.un ?_; refine OL.pT ?_; refine OL.asg ?_
        exact OL.nil (WL.ret ⟨fun id e => (by cases e), _, rfl, fun q hq => by rw [hk5 q (by omega), hk4 q (by omega)]; exact hk03 q hq, by omega, hf5, rfl⟩)
    · have hne : c ≠ [] := fun e => by
        obtain ⟨a, ha, _⟩ := stuck_cyc hst
        exact (hcyc.none hg).1 e a ha
      obtain ⟨y1, y2, y3, y4⟩ := hcyc.cyc hg hne
      have hcl : c.length ≤ 61 := by
        have := pigeon M c y2 y3
        omega
      have hzl := zs_len c
      have hw3 : App 1 n2 h3 w3 (zs c).length (ints (zs c)) := by rw [hzl]; exact hcw
      refine OL.mv ?_; refine OL.ext ?_; refine OL.ext ?_; refine OL.asg ?_; refine OL.asg ?_
      refine OL.nil (WL.seq (WL.reg ?_))
      refine OL.mv ?_; refine OL.mv ?_
      refine OL.cf fn13 hc3 ?_
      refine OL.mv ?_; refine OL.ext ?_; refine OL.ext ?_; refine OL.asg ?_; refine OL.asg ?_
      refine OL.nil (WL.seq (WL.seq (WL.reg ?_)))
      refine OL.mv ?_; refine OL.nF ?_; refine OL.mv ?_; refine OL.mv ?_; refine OL.nT ?_; refine OL.mv ?_; refine OL.mv ?_; refine OL.nF ?_; refine OL.pT ?_; refine OL.pF ?_; refine OL.mv ?_; refine OL.mv ?_; refine OL.bT ?_; refine OL.mv ?_
      refine OL.bi (hcw.ln ty25) ?_
      refine OL.bT ?_
      refine OL.bv rfl ?_
      refine OL.pF ?_
      refine OL.nil (WL.condF rfl (WL.skip ?_))
      refine WL.seq (WL.seq (WL.reg ?_))
      refine OL.mv ?_; refine OL.bT ?_
      refine OL.nil (WL.condT rfl ?_)
      refine WL.seq (WL.seq (WL.reg ?_))
      refine OL.mv ?_
      refine OL.bi (hcw.ln ty25) ?_
      refine OL.mv ?_
      refine OL.nil (WL.block ?_)
      refine WL.loop (k := c.length) (fun k L h4 n4 => ∃ i : Nat, i ≤ c.length ∧ k = c.length - i ∧ Sub [(55, .int .i64 (i : Int)), (54, .int .i64 (c.length : Int)), (53, w3), (7, w3), (1, s)] L ∧ Keep n3 h3 h4 ∧ n3 ≤ n4 ∧ Fresh h4 n4) ?_
        ⟨0, Nat.zero_le _, rfl, .cons rfl (.cons rfl (.cons rfl (.cons rfl (.cons rfl .nil)))), .refl _ _, Nat.le_refl _, hf3⟩
      rintro k L h4 n4 ⟨i, hi, rfl, hs4, hk4, hn4, hf4⟩
      refine WL.keep hs4 ?_
      refine WL.seq (WL.reg ?_)
      by_cases c1 : (i : Int) < (c.length : Int)
      · refine OL.bT ?_
        refine OL.nil (WL.seq (WL.condT rfl (WL.skip ?_)))
        obtain ⟨x, hx⟩ : ∃ x, c[i]? = some x := ⟨_, List.getElem?_eq_getElem (by omega)⟩
        obtain ⟨y, hy, hxy⟩ := y4 i x hx
        have hwr : RdI n4 h4 w3 (zs c) := (hw3.rd hf3).mono hk4 hn4
        have hw4 : App 1 n2 h4 w3 c.length (ints (zs c)) := hcw.kp hf3 hk4
        obtain ⟨b1, o1, hb1, hx1, hx2⟩ := hwr.2 i (x : Int) (zs_at hx)
        obtain ⟨b2, o2, hb2, hz1, hz2⟩ := hwr.2 _ (y : Int) (zs_at hy)
        have hel : ((x : Int), (y : Int)) ∈ l := hxy
        obtain ⟨v5, h5, n5, hc5, hk5, hn5, hf5, rfl⟩ := contE_cl l ((x : Int), (y : Int)) s h4 n4 hf4 (hrE.mono hk4 hn4) (by omega) (hi64 _ hel) hi64
        have hany : (l.any fun e => decide (((x : Int), (y : Int)) = e)) = true := List.any_eq_true.2 ⟨_, hel, decide_eq_true rfl⟩
        rw [hany] at hc5
        obtain ⟨w6, hw6, hr6⟩ := take_app (k := i) (hw4.kp hf4 hk5) hf5 (by omega) (by omega) (by omega)
        obtain ⟨v7, h7, n7, hc7, hk7, hn7, hf7, rfl⟩ := contI_cl ((zs c).take i) (x : Int) w6 h5 n5 hf5 hr6 (by rw [List.length_take]; omega)
        have hany7 : (((zs c).take i).any fun e => decide ((x : Int) = e)) = false := by
          rw [List.any_eq_false]
          intro e hel
          obtain ⟨j, hj⟩ := List.getElem?_of_mem hel
          rw [List.getElem?_take] at hj
          split at hj
          · rename_i hji
            simp only [decide_eq_true_eq]
            intro e'
            subst e'
            have hcj : c[j]? = some x := by
              have hlt : j < c.length := by omega
              rw [zs_at (List.getElem?_eq_getElem hlt)] at hj
              rw [List.getElem?_eq_getElem hlt]
              simp only [Option.some.injEq] at hj ⊢
              omega
            obtain ⟨q1, q2⟩ := List.getElem?_eq_some_iff.1 hcj
            obtain ⟨q3, q4⟩ := List.getElem?_eq_some_iff.1 hx
            have := (List.getElem_inj y2).1 (q2.trans q4.symm)
            omega
          · cases hj
        rw [hany7] at hc7
        refine WL.seq (WL.block (WL.seq (WL.reg ?_)))
        refine OL.mv ?_
        refine OL.ix hx1 ?_
        refine OL.ld (hx2 _ (Keep.refl _ _)) ?_
        refine OL.asg ?_; refine OL.asg ?_
        refine OL.nil (WL.seq (WL.reg ?_))
        refine OL.mv ?_; refine OL.mv ?_; refine OL.mv ?_; refine OL.mv ?_
        refine OL.ad1 ?_
        refine OL.mv ?_
        refine OL.bi (hcw.ln ty25) ?_
        refine OL.bv (rem_nat (a := i + 1) (b := c.length) (by omega)) ?_
        refine OL.ix hz1 ?_
        refine OL.ld (hz2 _ (Keep.refl _ _)) ?_
        refine OL.bd build35 ?_
        refine OL.cf fn26 hc5 ?_
        refine OL.un ?_; refine OL.mv ?_; refine OL.mv ?_; refine OL.mv ?_
        refine OL.val (by first | rfl | exact WantL.yes rfl rfl rfl) (D.cutTo rfl rfl rfl hcw.isS hw6) rfl rfl ?_
        refine OL.mv ?_
        refine OL.cf fn27 hc7 ?_
        refine OL.pF ?_
        refine OL.nil (WL.condF rfl (WL.skip ?_))
        refine WL.reg ?_
        refine OL.ad1 ?_
        refine OL.mv ?_
        exact OL.nil ⟨c.length - (i + 1), by omega, i + 1, by omega, rfl, .cons rfl (.cons rfl (.cons rfl (.cons rfl (.cons rfl .nil)))), (hk4.trans hn4 hk5).trans (by omega) hk7, by omega, hf7⟩
      · refine OL.bF ?_
        refine OL.nil (WL.seq (WL.condF rfl (WL.exit ?_)))
        refine WL.seq (WL.reg ?_)
        refine OL.mv ?_
        refine OL.bi (hcw.ln ty25) ?_
        refine OL.bT ?_; refine OL.asg ?_
        exact OL.nil (WL.ret ⟨fun id e => (by cases e), _, rfl, hk03.trans (by omega) hk4, by omega, hf4, rfl⟩)
  exact key

end Go.Sx
