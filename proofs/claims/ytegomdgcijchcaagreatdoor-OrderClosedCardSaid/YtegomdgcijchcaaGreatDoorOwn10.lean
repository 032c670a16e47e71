/- SwQ: the law OrderClosed. -/
import Derived.Test.YtegomdgcijchcaaGreatDoorOwn9
namespace Go.Sx
open Go.Proofs
set_option maxRecDepth 100000
set_option maxHeartbeats 4000000

theorem less_bool (a b : Int × Int) (h : LessE a b) : decide (a.1 < b.1 ∨ a.1 = b.1 ∧ a.2 < b.2) = true := decide_eq_true h

/- What the law's last lines ask. -/
noncomputable def restF (l : List (Int × Int)) (i j k : Nat) : Bool := (List.range k).any fun c => decide (((i : Int), (c : Int)) ∈ l) && rchB l c j
theorem restF_succ (l : List (Int × Int)) (i j k : Nat) : restF l i j (k + 1) = (restF l i j k || (decide (((i : Int), (k : Int)) ∈ l) && rchB l k j)) := by
  unfold restF
  rw [List.range_succ, List.any_append]
  simp
noncomputable def ownF (l : List (Int × Int)) (i : Nat) : Bool := (List.range i).any fun a => rchB l a a
theorem ownF_succ (l : List (Int × Int)) (i : Nat) : ownF l (i + 1) = (ownF l i || rchB l i i) := by
  unfold ownF
  rw [List.range_succ, List.any_append]
  simp
theorem any_mem (l : List (Int × Int)) (e : Int × Int) : (l.any fun y => decide (e = y)) = decide (e ∈ l) := by
  rw [Bool.eq_iff_iff, List.any_eq_true, decide_eq_true_eq]
  constructor
  · rintro ⟨y, h1, h2⟩
    rw [of_decide_eq_true h2]; exact h1
  · exact fun h => ⟨e, h, decide_eq_true rfl⟩

theorem rchB_no {l : List (Int × Int)} {a b : Nat} (h : ¬ Rch l a b) : rchB l a b = false := by
  cases hb : rchB l a b with
  | false => rfl
  | true => exact (h ((rchB_iff l a b).1 hb)).elim

theorem App.rdE {lo n : Nat} {h : T Blk} {v : Value} {C : List (Int × Int)} (a : App 2 lo h v C.length (eCs C)) (hf : Fresh h n) : RdE n h v C := by
  refine ⟨?_, fun j e hj => ?_⟩
  · rcases a with ⟨rfl, h1, _⟩ | ⟨b, o, cap, all, rfl, _⟩
    · rw [h1]; exact ⟨_, _, rfl⟩
    · exact ⟨_, _, rfl⟩
  · have hlt := (List.getElem?_eq_some_iff.1 hj).1
    obtain ⟨b, o, h1, h2, h3⟩ := App.idx el22 (show App tPair.size lo h v C.length (eCs C) from a) hlt
    obtain ⟨_, all, h4⟩ := a.blk h1
    refine ⟨b, o, hf.lt h4, h2, fun h' hk => ?_⟩
    obtain ⟨all', q1, _, q3⟩ := h3 h' (hk b (hf.lt h4))
    have r0 := q3 0 (by decide)
    have r1 := q3 1 (by decide)
    have e2 := eCs_at hj
    exact load2 (cells_of q1) (by rw [show o = o + 0 from rfl, r0]; exact e2.1) (by rw [r1]; exact e2.2)

theorem closedLaw_cl (m : Int) (s : Value) (l : List (Int × Int)) (h : T Blk) (n : Nat) (hf : Fresh h n) (he : Edges h s l) (_ : rowA h 2 l.length s = some (eCs l)) (hbs : ∀ k, n ≤ k → BelV k s) (hgro : groOK h gro0 = true) (hn0 : 1 ≤ n) :
    Gives 8 [.int .i64 m, s] h n fun v _ _ => v = .bool true := by
  have key : ∃ v h' n', Cl X 8 [.int .i64 m, s] h n (.ret v h' n') ∧ Keep n h h' ∧ n ≤ n' ∧ Fresh h' n' ∧ v = .bool true := by
    obtain ⟨v1, h1, n1, hc1, hk1, hn1, hf1, bv, rfl, hval⟩ := valid_cl m s l h n hf he hbs
    refine Cl.wl (memoX (by decide)) fn8 rfl rfl rfl rfl ?_
    refine WL.seq (WL.reg ?_)
    refine OL.asg ?_
    refine OL.nil (WL.seq (WL.seq (WL.reg ?_)))
    refine OL.cf fn9 (Cl.memo (memo9 hgro)) ?_
    refine OL.un ?_
    refine OL.nil (WL.condF rfl (WL.skip ?_))
    refine WL.seq (WL.seq (WL.reg ?_))
    refine OL.mv ?_; refine OL.mv ?_
    refine OL.cf fn25 hc1 ?_
    cases bv with
    | false =>
      refine OL.un ?_; refine OL.mv ?_; refine OL.ps ?_; refine OL.ps ?_; refine OL.pT ?_
      refine OL.nil (WL.condT rfl (WL.seq (WL.reg ?_)))
      refine OL.asg ?_
      exact OL.nil (WL.ret ⟨fun id e => (by cases e), _, rfl, hk1, hn1, hf1, rfl⟩)
    | true =>
    obtain ⟨M, rfl, hM, hlen, hg⟩ := hval rfl
    by_cases h20 : (20 : Int) < (M : Int)
    · refine OL.un ?_; refine OL.mv ?_; refine OL.mv ?_; refine OL.bT ?_; refine OL.pF ?_
      refine OL.nil (WL.condT rfl (WL.seq (WL.reg ?_)))
      refine OL.asg ?_
      exact OL.nil (WL.ret ⟨fun id e => (by cases e), _, rfl, hk1, hn1, hf1, rfl⟩)
    have he1 := he.keep hf hk1
    have hi64 : ∀ y ∈ l, I64E y := fun y hy => hg.i64 (by omega) hy
    obtain ⟨v2, h2, n2, hc2, hk2, hn2, hf2, w2, rfl, hW2⟩ := closure_cl M s l h1 n1 hf1 he1 (fun k hk => hbs k (by omega)) hM hlen hg
    have he2 := he1.keep hf1 hk2
    have hk02 := hk1.trans hn1 hk2
    obtain ⟨v3, h3, n3, hc3, hk3, hn3, hf3, w3, c, rfl, hcyc, hcw⟩ := cycle_cl M s l h2 n2 hf2 he2 (fun k hk => hbs k (by omega)) (gro_keep hgro hk02 hn0) hM hlen hg (by omega)
    have he3 := he2.keep hf2 hk3
    have hk03 := hk02.trans (by omega) hk3
    have hrE : RdE n3 h3 s l := he3.rd hf3 (hbs _ (by omega))
    have hW3 : App 2 n1 h3 w2 (clos M l).length (eCs (clos M l)) := hW2.kp hf2 hk3
    have hCl : (clos M l).length ≤ 400 := by
      have h1 := closL_len M (rchB l)
      have h2 : M * M ≤ 20 * 20 := Nat.mul_le_mul (by omega) (by omega)
      unfold clos; omega
    refine OL.un ?_; refine OL.mv ?_; refine OL.mv ?_; refine OL.bF ?_; refine OL.pF ?_
    refine OL.nil (WL.condF rfl (WL.skip ?_))
    refine WL.seq (WL.reg ?_)
    refine OL.mv ?_; refine OL.mv ?_
    refine OL.cf fn20 hc2 ?_
    refine OL.mv ?_; refine OL.ext ?_; refine OL.ext ?_; refine OL.asg ?_; refine OL.asg ?_
    refine OL.nil (WL.seq (WL.reg ?_))
    refine OL.mv ?_; refine OL.mv ?_
    refine OL.cf fn13 hc3 ?_
    refine OL.mv ?_; refine OL.ext ?_; refine OL.ext ?_; refine OL.asg ?_; refine OL.asg ?_
    refine OL.nil (WL.seq (WL.seq (WL.reg ?_)))
    refine OL.mv ?_; refine OL.nF ?_; refine OL.mv ?_; refine OL.mv ?_; refine OL.nF ?_; refine OL.pF ?_
    refine OL.nil (WL.condF rfl (WL.skip ?_))
    refine WL.seq (WL.reg ?_)
    refine OL.mv ?_
    refine OL.ms (mkS (M := M) ty43 ty38 rfl rfl rfl rfl (by omega)) ?_
    refine OL.asg ?_
    refine OL.heap (fun H => Fresh H (n3 + 1) ∧ Keep n3 h3 H ∧ MatP M 0 n3 (n3 + 1) H (fun _ => 0) (fun _ _ => false)) ⟨hf3.upd _, (Keep.refl n3 h3).upd (Nat.le_refl _) _, ⟨by rw [T.get_upd_same, topL_zero], fun a ha => by omega, fun a ha => by omega, fun a b ha => by omega⟩⟩ ?_
    rintro hA ⟨hfA, hkA, hmA⟩
    refine OL.nil (WL.seq (WL.seq (WL.reg ?_)))
    refine OL.mv ?_
    refine OL.bi (lenA_slice ty43) ?_
    refine OL.mv ?_
    refine OL.nil (WL.block ?_)
    refine WL.loop (k := M) (fun k L h4 n4 => ∃ (i : Nat) (bs : Nat → Nat) (f : Nat → Nat → Bool), i ≤ M ∧ k = M - i ∧ Sub [(51, .int .i64 (i : Int)), (50, .int .i64 (M : Int)), (9, .slice (some ⟨n3, 0, none⟩) M M), (7, w3), (5, w2), (1, s), (0, .int .i64 (M : Int))] L ∧ Fresh h4 n4 ∧ Keep n3 h3 h4 ∧ n3 + 1 ≤ n4 ∧ MatP M i n3 (n3 + 1) h4 bs f ∧ ∀ a b, a < i → f a b = false) ?_
      ⟨0, _, _, Nat.zero_le _, rfl, .cons rfl (.cons rfl (.cons rfl (.cons rfl (.cons rfl (.cons rfl (.cons rfl .nil)))))), hfA, hkA, Nat.le_refl _, hmA, fun a b ha => by omega⟩
    rintro k L h4 n4 ⟨i, bs, f, hi, rfl, hs4, hf4, hk4, hn4, hm4, hfz⟩
    refine WL.keep hs4 ?_
    refine WL.seq (WL.reg ?_)
    by_cases c1 : (i : Int) < (M : Int)
    · refine OL.bT ?_
      refine OL.nil (WL.seq (WL.condT rfl (WL.skip ?_)))
      have hiM : i < M := by omega
      refine WL.seq (WL.block (WL.seq (WL.reg ?_)))
      refine OL.mv ?_; refine OL.asg ?_
      refine OL.nil (WL.reg ?_)
      refine OL.mv ?_; refine OL.mv ?_; refine OL.mv ?_
      refine OL.ms (mkS (M := M) ty38 ty4 rfl rfl rfl rfl (by omega)) ?_
      have hm5 := hm4.keep hf4 ((Keep.refl n4 h4).upd (Nat.le_refl _) (some (.cells (List.replicate M (Value.bool false)))))
      refine OL.ix (ix43 hiM) ?_
      refine OL.st (store1 ty38 rfl hm5.top rfl (by rw [topL_len]; exact hiM)) ?_
      refine OL.nil (WL.reg ?_)
      refine OL.ad1 ?_
      refine OL.mv ?_
      refine OL.nil ⟨M - (i + 1), by omega, i + 1, upF bs i n4, upF f i (fun _ => false), by omega, rfl, .cons rfl (.cons rfl (.cons rfl (.cons rfl (.cons rfl (.cons rfl (.cons rfl .nil)))))), (hf4.upd _).set (by omega) _, (hk4.upd (by omega) _).upd (Nat.le_refl _) _, by omega, hm5.add hiM (by rw [T.get_upd_same, boolsF_zero]) (by omega) (by omega) (fun a ha e => ?_), fun a b ha => ?_⟩
      · have := hf4.lt (hm4.row a ha)
        omega
      · by_cases e : a = i
        · rw [e, upF_same]
        · rw [upF_ne e]; exact hfz a b (by omega)
    · refine OL.bF ?_
      refine OL.nil (WL.seq (WL.condF rfl (WL.exit ?_)))
      have hiM : i = M := by omega
      rw [hiM] at hm4 hfz
      have hW4 : App 2 n1 h4 w2 (clos M l).length (eCs (clos M l)) := hW3.kp hf3 hk4
      refine WL.seq (WL.seq (WL.reg ?_))
      refine OL.mv ?_
      refine OL.bi (hW2.ln ty22) ?_
      refine OL.mv ?_
      refine OL.nil (WL.block ?_)
      refine WL.loop (k := (clos M l).length) (fun k L h5 n5 => ∃ (i : Nat) (f : Nat → Nat → Bool), i ≤ (clos M l).length ∧ k = (clos M l).length - i ∧ Sub [(62, .int .i64 (i : Int)), (61, .int .i64 ((clos M l).length : Int)), (60, w2), (9, .slice (some ⟨n3, 0, none⟩) M M), (7, w3), (5, w2), (1, s), (0, .int .i64 (M : Int))] L ∧ Fresh h5 n5 ∧ Keep n3 h3 h5 ∧ n4 ≤ n5 ∧ MatP M M n3 (n3 + 1) h5 bs f ∧ (∀ a b, a < M → f a b = markF (clos M l) i a b) ∧ ∀ a, a < M → bs a < n4) ?_
        ⟨0, f, Nat.zero_le _, rfl, .cons rfl (.cons rfl (.cons rfl (.cons rfl (.cons rfl (.cons rfl (.cons rfl (.cons rfl .nil))))))), hf4, hk4, Nat.le_refl _, hm4, fun a b ha => by rw [hfz a b ha]; simp [markF], fun a ha => hf4.lt (hm4.row a ha)⟩
      rintro k L h5 n5 ⟨i, f, hi, rfl, hs5, hf5, hk5, hn5, hm5, hfm, hbn⟩
      have hW5 : App 2 n1 h5 w2 (clos M l).length (eCs (clos M l)) := hW3.kp hf3 hk5
      have hrC : RdE n5 h5 w2 (clos M l) := hW5.rdE hf5
      refine WL.keep hs5 ?_
      refine WL.seq (WL.reg ?_)
      by_cases c2 : (i : Int) < ((clos M l).length : Int)
      · refine OL.bT ?_
        refine OL.nil (WL.seq (WL.condT rfl (WL.skip ?_)))
        obtain ⟨x, hx⟩ : ∃ x, (clos M l)[i]? = some x := ⟨_, List.getElem?_eq_getElem (by omega)⟩
        obtain ⟨a, b, haM, hbM, rfl⟩ := clos_nat (List.mem_of_getElem? hx)
        obtain ⟨rb, ro, hrb, hr1, hr2⟩ := hrC.2 i _ hx
        refine WL.seq (WL.block (WL.seq (WL.reg ?_)))
        refine OL.mv ?_
        refine OL.ix hr1 ?_
        refine OL.ld (hr2 _ (Keep.refl _ _)) ?_
        refine OL.al ty35 ?_; refine OL.asg ?_
        refine OL.st (store2 (T.get_upd_same _ _ _) rfl rfl) ?_
        refine OL.heap (fun H => Fresh H (n5 + 1) ∧ Keep n5 h5 H ∧ H.get n5 = some (.cells [.int .i64 (a : Int), .int .i64 (b : Int)])) ⟨(hf5.upd _).set (by omega) _, ((Keep.refl n5 h5).upd (Nat.le_refl _) _).upd (Nat.le_refl _) _, T.get_upd_same _ _ _⟩ ?_
        rintro h6 ⟨hf6, hk6, hP6⟩
        refine OL.nil (WL.cut (fun L7 h7 n7 => Sub [(12, .pointer (some ⟨n5, 0, none⟩)), (62, .int .i64 (i : Int)), (61, .int .i64 ((clos M l).length : Int)), (60, w2), (9, .slice (some ⟨n3, 0, none⟩) M M), (7, w3), (5, w2), (1, s), (0, .int .i64 (M : Int))] L7 ∧ Keep (n5 + 1) h6 h7 ∧ n5 + 1 ≤ n7 ∧ Fresh h7 n7) ?_ ?_)
        · refine WL.seq (WL.regD (by kernel_rfl) (by kernel_rfl) ?_)
          by_cases c3 : (0 : Int) < (i : Int)
          · obtain ⟨y, hy⟩ : ∃ y, (clos M l)[i - 1]? = some y := ⟨_, List.getElem?_eq_getElem (by omega)⟩
            obtain ⟨y1, y2⟩ := y
            obtain ⟨qb, qo, hqb, hq1, hq2⟩ := hrC.2 (i - 1) _ hy
            have e1 : ((i - 1 : Nat) : Int) = (i : Int) - 1 := by omega
            rw [e1] at hq1
            have hless : LessE (y1, y2) ((a : Int), (b : Int)) := (closL_inc M (rchB l)).next hy (by rw [show i - 1 + 1 = i by omega]; exact hx)
            obtain ⟨v8, h8, n8, hc8, hk8, hn8, hf8, rfl⟩ := less_cl (y1, y2) ((a : Int), (b : Int)) h6 (n5 + 1) hf6
            have hc8 : Cl X 32 [.agg #[.int .i64 y1, .int .i64 y2], .agg #[.int .i64 (a : Int), .int .i64 (b : Int)]] h6 (n5 + 1) (.ret (.bool true) h8 n8) := by
              rw [← less_bool (y1, y2) ((a : Int), (b : Int)) hless]; exact hc8
            have hbw : BelV (n5 + 1) w2 := hrC.bel hx (by omega)
            refine OD.ix idx_pair0 ?_; refine OD.l3 ?_; refine OD.bF ?_; refine OD.mv ?_; refine OD.ix idx_pair0 ?_; refine OD.l3 ?_; refine OD.mv ?_; refine OD.bF ?_; refine OD.pF ?_; refine OD.mv ?_; refine OD.ix idx_pair1 ?_; refine OD.l3 ?_; refine OD.bF ?_; refine OD.pF ?_; refine OD.mv ?_; refine OD.ix idx_pair1 ?_; refine OD.l3 ?_; refine OD.mv ?_; refine OD.bF ?_; refine OD.pF ?_; refine OD.mv ?_; refine OD.mv ?_; refine OD.bT ?_; refine OD.mv ?_; refine OD.mv ?_; refine OD.mv ?_
            refine OD.sb ?_
            refine OD.ix hq1 ?_
            refine OD.ld (hq2 _ hk6) ?_
            refine OD.lp ?_
            refine OD.cf fn32 hc8 ?_
            refine OD.un ?_; refine OD.pT ?_; refine OD.pF ?_
            exact OD.nil (WL.condF rfl (WL.skip ⟨rfl, .cons rfl (.cons rfl (.cons rfl (.cons rfl (.cons rfl (.cons rfl (.cons rfl (.cons rfl (.cons rfl .nil)))))))), hk8, hn8, hf8⟩))
          · refine OD.ix idx_pair0 ?_; refine OD.l3 ?_; refine OD.bF ?_; refine OD.mv ?_; refine OD.ix idx_pair0 ?_; refine OD.l3 ?_; refine OD.mv ?_; refine OD.bF ?_; refine OD.pF ?_; refine OD.mv ?_; refine OD.ix idx_pair1 ?_; refine OD.l3 ?_; refine OD.bF ?_; refine OD.pF ?_; refine OD.mv ?_; refine OD.ix idx_pair1 ?_; refine OD.l3 ?_; refine OD.mv ?_; refine OD.bF ?_; refine OD.pF ?_; refine OD.mv ?_; refine OD.mv ?_; refine OD.bF ?_; refine OD.mv ?_; refine OD.ps ?_; refine OD.ps ?_; refine OD.ps ?_; refine OD.ps ?_; refine OD.ps ?_; refine OD.ps ?_; refine OD.ps ?_; refine OD.ps ?_; refine OD.pF ?_; refine OD.pF ?_
            exact OD.nil (WL.condF rfl (WL.skip ⟨rfl, .cons rfl (.cons rfl (.cons rfl (.cons rfl (.cons rfl (.cons rfl (.cons rfl (.cons rfl (.cons rfl .nil)))))))), .refl _ _, Nat.le_refl _, hf6⟩))
        · rintro L7 h7 n7 ⟨hs7, hk7, hn7, hf7⟩
          have hP7 : h7.get n5 = some (.cells [.int .i64 (a : Int), .int .i64 (b : Int)]) := (hk7 _ (by omega)).trans hP6
          have hk57 : Keep n5 h5 h7 := hk6.trans (by omega) hk7
          have hm7 := hm5.keep hf5 hk57
          have hbsn := hbn a haM
          have hbv : BelV (n7) (.slice (some ⟨n3, 0, none⟩) M M) := BelV.sl (by omega)
          refine WL.keep hs7 (WL.regD (by kernel_rfl) (by kernel_rfl) ?_)
          refine OD.mv ?_; refine OD.ix idx_pair0 ?_; refine OD.l3 ?_
          refine OD.ix (ix43 haM) ?_
          refine OD.ld (hm7.l1 haM) ?_
          refine OD.ix idx_pair1 ?_; refine OD.l3 ?_
          refine OD.ix (ix38 hbM) ?_
          refine OD.st (store1 ty4 rfl (hm7.row a haM) rfl (by rw [boolsF_len]; exact hbM)) ?_
          refine OD.nil (WL.reg ?_)
          refine OL.ad1 ?_
          refine OL.mv ?_
          refine OL.nil ⟨(clos M l).length - (i + 1), by omega, i + 1, _, by omega, rfl, .cons rfl (.cons rfl (.cons rfl (.cons rfl (.cons rfl (.cons rfl (.cons rfl (.cons rfl .nil))))))), hf7.set (by omega) _, fun q hq => ?_, by omega, hm7.set haM hbM, fun c d hc => ?_, hbn⟩
          · have := (hm7.rng a haM).1
            rw [T.get_upd_ne _ _ (by omega), hk57 q (by omega)]
            exact hk5 q hq
          · rw [← markF_up hx c d]
            by_cases e : c = a
            · subst e
              rw [upF_same, upF_same]
              by_cases e2 : d = b
              · rw [e2, upF_same, upF_same]
              · rw [upF_ne e2, upF_ne e2]; exact hfm c d hc
            · rw [upF_ne e, upF_ne e]; exact hfm c d hc
      · refine OL.bF ?_
        refine OL.nil (WL.seq (WL.condF rfl (WL.exit ?_)))
        have hil : i = (clos M l).length := by omega
        have hR : ∀ a b, a < M → f a b = rchB l a b := fun a b ha => by
          rw [hfm a b ha, Bool.eq_iff_iff, rchB_iff]
          unfold markF
          rw [hil, List.take_length, decide_eq_true_eq]
          exact mem_clos hg
        have hkk : Keep n h h5 := fun q hq => by rw [hk5 q (by omega)]; exact hk03 q hq
        have hrE5 : RdE n5 h5 s l := hrE.mono hk5 (by omega)
        have hw5 : App 1 n2 h5 w3 c.length (ints (zs c)) := hcw.kp hf3 hk5
        clear hfm hrC hk5 hW5 hk4 hm4 hfz hf4 hW4
        refine WL.seq (WL.reg ?_)
        refine OL.asg ?_
        refine OL.nil (WL.seq (WL.seq (WL.reg ?_)))
        refine OL.mv ?_; refine OL.mv ?_
        refine OL.nil (WL.block ?_)
        refine WL.loop (k := M) (fun k L h6 n6 => ∃ i : Nat, i ≤ M ∧ k = M - i ∧ Sub [(111, .int .i64 (i : Int)), (110, .int .i64 (M : Int)), (13, .bool (ownF l i)), (9, .slice (some ⟨n3, 0, none⟩) M M), (7, w3), (1, s), (0, .int .i64 (M : Int))] L ∧ Fresh h6 n6 ∧ Keep n5 h5 h6 ∧ n5 ≤ n6) ?_
          ⟨0, Nat.zero_le _, rfl, .cons rfl (.cons rfl (.cons rfl (.cons rfl (.cons rfl (.cons rfl (.cons rfl .nil)))))), hf5, .refl _ _, Nat.le_refl _⟩
        rintro k L h6 n6 ⟨i, hi, rfl, hs6, hf6, hk6, hn6⟩
        have hm6 := hm5.keep hf5 hk6
        refine WL.keep hs6 ?_
        refine WL.seq (WL.reg ?_)
        by_cases c3 : (i : Int) < (M : Int)
        · refine OL.bT ?_
          refine OL.nil (WL.seq (WL.condT rfl (WL.skip ?_)))
          have hiM : i < M := by omega
          refine WL.seq (WL.block (WL.seq (WL.reg ?_)))
          refine OL.mv ?_; refine OL.asg ?_
          refine OL.nil (WL.cut (fun L7 h7 n7 => h7 = h6 ∧ n7 = n6 ∧ Sub [(14, .int .i64 (i : Int)), (111, .int .i64 (i : Int)), (110, .int .i64 (M : Int)), (13, .bool (ownF l (i + 1))), (9, .slice (some ⟨n3, 0, none⟩) M M), (7, w3), (1, s), (0, .int .i64 (M : Int))] L7) (WL.reg ?_) ?_)
          · rw [ownF_succ]
            cases hown : ownF l i with
            | true =>
              refine OL.mv ?_; refine OL.mv ?_; refine OL.ps ?_; refine OL.ps ?_; refine OL.ps ?_; refine OL.ps ?_; refine OL.ps ?_; refine OL.ps ?_; refine OL.ps ?_; refine OL.pT ?_; refine OL.asg ?_
              exact OL.nil ⟨rfl, rfl, rfl, .cons rfl (.cons rfl (.cons rfl (.cons rfl (.cons rfl (.cons rfl (.cons rfl (.cons rfl .nil)))))))⟩
            | false =>
              refine OL.mv ?_; refine OL.mv ?_; refine OL.mv ?_; refine OL.mv ?_
              refine OL.ix (ix43 hiM) ?_
              refine OL.ld (hm6.l1 hiM) ?_
              refine OL.mv ?_
              refine OL.ix (ix38 hiM) ?_
              refine OL.ld (hm6.l2 hiM hiM) ?_
              rw [hR i i hiM]
              refine OL.pF ?_; refine OL.asg ?_
              exact OL.nil ⟨rfl, rfl, rfl, .cons rfl (.cons rfl (.cons rfl (.cons rfl (.cons rfl (.cons rfl (.cons rfl (.cons rfl .nil)))))))⟩
          rintro L7 h7 n7 ⟨rfl, rfl, hs7⟩
          refine WL.keep hs7 (WL.seq (WL.reg ?_))
          refine OL.mv ?_; refine OL.mv ?_
          refine OL.nil (WL.block ?_)
          refine WL.loop (k := M) (fun k L h8 n8 => ∃ j : Nat, j ≤ M ∧ k = M - j ∧ Sub [(125, .int .i64 (j : Int)), (124, .int .i64 (M : Int)), (14, .int .i64 (i : Int)), (111, .int .i64 (i : Int)), (110, .int .i64 (M : Int)), (13, .bool (ownF l (i + 1))), (9, .slice (some ⟨n3, 0, none⟩) M M), (7, w3), (1, s), (0, .int .i64 (M : Int))] L ∧ Fresh h8 n8 ∧ Keep n5 h5 h8 ∧ n5 ≤ n8) ?_
            ⟨0, Nat.zero_le _, rfl, .cons rfl (.cons rfl (.cons rfl (.cons rfl (.cons rfl (.cons rfl (.cons rfl (.cons rfl (.cons rfl (.cons rfl .nil))))))))), hf6, hk6, hn6⟩
          rintro k L h8 n8 ⟨j, hj, rfl, hs8, hf8, hk8, hn8⟩
          refine WL.keep hs8 ?_
          refine WL.seq (WL.reg ?_)
          by_cases c4 : (j : Int) < (M : Int)
          · refine OL.bT ?_
            refine OL.nil (WL.seq (WL.condT rfl (WL.skip ?_)))
            have hjM : j < M := by omega
            have hij : I64E ((i : Int), (j : Int)) := ⟨I64.nat (by omega), I64.nat (by omega)⟩
            obtain ⟨v9, h9, n9, hc9, hk9, hn9, hf9, rfl⟩ := contE_cl l ((i : Int), (j : Int)) s h8 n8 hf8 (hrE5.mono hk8 hn8) (by omega) hij hi64
            rw [any_mem] at hc9
            refine WL.seq (WL.block (WL.seq (WL.reg ?_)))
            refine OL.mv ?_; refine OL.asg ?_
            refine OL.nil (WL.seq (WL.reg ?_))
            refine OL.mv ?_; refine OL.mv ?_; refine OL.mv ?_
            refine OL.bd build35 ?_
            refine OL.cf fn26 hc9 ?_
            refine OL.asg ?_; refine OL.asg ?_
            refine OL.nil (WL.seq (WL.seq (WL.reg ?_)))
            refine OL.mv ?_; refine OL.mv ?_
            refine OL.nil (WL.block ?_)
            refine WL.loop (k := M) (fun k L h10 n10 => ∃ q : Nat, q ≤ M ∧ k = M - q ∧ Sub [(134, .int .i64 (q : Int)), (133, .int .i64 (M : Int)), (17, .bool (restF l i j q)), (16, .bool (decide (((i : Int), (j : Int)) ∈ l))), (15, .int .i64 (j : Int)), (125, .int .i64 (j : Int)), (124, .int .i64 (M : Int)), (14, .int .i64 (i : Int)), (111, .int .i64 (i : Int)), (110, .int .i64 (M : Int)), (13, .bool (ownF l (i + 1))), (9, .slice (some ⟨n3, 0, none⟩) M M), (7, w3), (1, s), (0, .int .i64 (M : Int))] L ∧ Fresh h10 n10 ∧ Keep n5 h5 h10 ∧ n5 ≤ n10) ?_
              ⟨0, Nat.zero_le _, rfl, .cons rfl (.cons rfl (.cons rfl (.cons rfl (.cons rfl (.cons rfl (.cons rfl (.cons rfl (.cons rfl (.cons rfl (.cons rfl (.cons rfl (.cons rfl (.cons rfl (.cons rfl .nil)))))))))))))), hf9, hk8.trans hn8 hk9, by omega⟩
            rintro k L h10 n10 ⟨q, hq, rfl, hs10, hf10, hk10, hn10⟩
            have hm10 := hm5.keep hf5 hk10
            refine WL.keep hs10 ?_
            refine WL.seq (WL.reg ?_)
            by_cases c5 : (q : Int) < (M : Int)
            · refine OL.bT ?_
              refine OL.nil (WL.seq (WL.condT rfl (WL.skip ?_)))
              have hqM : q < M := by omega
              refine WL.seq (WL.block (WL.seq (WL.reg ?_)))
              refine OL.mv ?_; refine OL.asg ?_
              refine OL.nil (WL.cut (fun L11 h11 n11 => Fresh h11 n11 ∧ Keep n5 h5 h11 ∧ n5 ≤ n11 ∧ Sub [(18, .int .i64 (q : Int)), (134, .int .i64 (q : Int)), (133, .int .i64 (M : Int)), (17, .bool (restF l i j (q + 1))), (16, .bool (decide (((i : Int), (j : Int)) ∈ l))), (15, .int .i64 (j : Int)), (125, .int .i64 (j : Int)), (124, .int .i64 (M : Int)), (14, .int .i64 (i : Int)), (111, .int .i64 (i : Int)), (110, .int .i64 (M : Int)), (13, .bool (ownF l (i + 1))), (9, .slice (some ⟨n3, 0, none⟩) M M), (7, w3), (1, s), (0, .int .i64 (M : Int))] L11) (WL.reg ?_) ?_)
              · rw [restF_succ]
                cases hrest : restF l i j q with
                | true =>
                  refine OL.mv ?_; refine OL.mv ?_; refine OL.ps ?_; refine OL.ps ?_; refine OL.ps ?_; refine OL.ps ?_; refine OL.ps ?_; refine OL.ps ?_; refine OL.ps ?_; refine OL.ps ?_; refine OL.ps ?_; refine OL.ps ?_; refine OL.ps ?_; refine OL.ps ?_; refine OL.ps ?_; refine OL.ps ?_; refine OL.pT ?_; refine OL.asg ?_
                  exact OL.nil ⟨rfl, hf10, hk10, hn10, (by repeat (first | exact Sub.nil | refine Sub.cons rfl ?_))⟩
                | false =>
                  have hiq : I64E ((i : Int), (q : Int)) := ⟨I64.nat (by omega), I64.nat (by omega)⟩
                  obtain ⟨v12, h12, n12, hc12, hk12, hn12, hf12, rfl⟩ := contE_cl l ((i : Int), (q : Int)) s h10 n10 hf10 (hrE5.mono hk10 hn10) (by omega) hiq hi64
                  have hk512 := hk10.trans hn10 hk12
                  have hm12 := hm5.keep hf5 hk512
                  rw [any_mem] at hc12
                  refine OL.mv ?_; refine OL.mv ?_; refine OL.mv ?_; refine OL.mv ?_; refine OL.mv ?_
                  refine OL.bd build35 ?_
                  by_cases hm : ((i : Int), (q : Int)) ∈ l
                  · rw [decide_eq_true hm] at hc12 ⊢
                    refine OL.cf fn26 hc12 ?_
                    refine OL.mv ?_; refine OL.mv ?_; refine OL.mv ?_
                    refine OL.ix (ix43 hqM) ?_
                    refine OL.ld (hm12.l1 hqM) ?_
                    refine OL.mv ?_
                    refine OL.ix (ix38 hjM) ?_
                    refine OL.ld (hm12.l2 hqM hjM) ?_
                    rw [hR q j hqM]
                    refine OL.pT ?_; refine OL.pF ?_; refine OL.asg ?_
                    exact OL.nil ⟨rfl, hf12, hk512, by omega, (by repeat (first | exact Sub.nil | refine Sub.cons rfl ?_))⟩
                  · rw [decide_eq_false hm] at hc12 ⊢
                    refine OL.cf fn26 hc12 ?_
                    refine OL.mv ?_; refine OL.ps ?_; refine OL.ps ?_; refine OL.ps ?_; refine OL.ps ?_; refine OL.ps ?_; refine OL.ps ?_; refine OL.ps ?_; refine OL.pF ?_; refine OL.pF ?_; refine OL.asg ?_
                    exact OL.nil ⟨rfl, hf12, hk512, by omega, (by repeat (first | exact Sub.nil | refine Sub.cons rfl ?_))⟩
              rintro L11 h11 n11 ⟨hf11, hk11, hn11, hs11⟩
              have hm11 := hm5.keep hf5 hk11
              have fin : ∀ {L' : LT}, Sub [(18, .int .i64 (q : Int)), (134, .int .i64 (q : Int)), (133, .int .i64 (M : Int)), (17, .bool (restF l i j (q + 1))), (16, .bool (decide (((i : Int), (j : Int)) ∈ l))), (15, .int .i64 (j : Int)), (125, .int .i64 (j : Int)), (124, .int .i64 (M : Int)), (14, .int .i64 (i : Int)), (111, .int .i64 (i : Int)), (110, .int .i64 (M : Int)), (13, .bool (ownF l (i + 1))), (9, .slice (some ⟨n3, 0, none⟩) M M), (7, w3), (1, s), (0, .int .i64 (M : Int))] L' → Sub [(18, .int .i64 (q : Int)), (134, .int .i64 (q : Int)), (133, .int .i64 (M : Int)), (17, .bool (restF l i j (q + 1))), (16, .bool (decide (((i : Int), (j : Int)) ∈ l))), (15, .int .i64 (j : Int)), (125, .int .i64 (j : Int)), (124, .int .i64 (M : Int)), (14, .int .i64 (i : Int)), (111, .int .i64 (i : Int)), (110, .int .i64 (M : Int)), (13, .bool (ownF l (i + 1))), (9, .slice (some ⟨n3, 0, none⟩) M M), (7, w3), (1, s), (0, .int .i64 (M : Int))] L' := fun hh => hh
              refine WL.keep hs11 (WL.seq (WL.reg ?_))
              refine OL.mv ?_; refine OL.mv ?_
              refine OL.ix (ix43 hiM) ?_
              refine OL.ld (hm11.l1 hiM) ?_
              refine OL.mv ?_
              refine OL.ix (ix38 hqM) ?_
              refine OL.ld (hm11.l2 hiM hqM) ?_
              rw [hR i q hiM]
              cases hiq : rchB l i q with
              | false =>
                refine OL.mv ?_; refine OL.ps ?_; refine OL.ps ?_; refine OL.ps ?_; refine OL.ps ?_; refine OL.ps ?_; refine OL.ps ?_; refine OL.ps ?_; refine OL.pF ?_; refine OL.mv ?_; refine OL.ps ?_; refine OL.ps ?_; refine OL.ps ?_; refine OL.ps ?_; refine OL.ps ?_; refine OL.ps ?_; refine OL.ps ?_; refine OL.ps ?_; refine OL.pF ?_
                refine OL.nil (WL.condF rfl (WL.skip (WL.reg ?_)))
                refine OL.ad1 ?_
                refine OL.mv ?_
                exact OL.nil ⟨M - (q + 1), by omega, q + 1, by omega, rfl, .cons rfl (.cons rfl (.cons rfl (.cons rfl (.cons rfl (.cons rfl (.cons rfl (.cons rfl (.cons rfl (.cons rfl (.cons rfl (.cons rfl (.cons rfl (.cons rfl (.cons rfl .nil)))))))))))))), hf11, hk11, hn11⟩
              | true =>
                refine OL.mv ?_; refine OL.mv ?_; refine OL.mv ?_
                refine OL.ix (ix43 hqM) ?_
                refine OL.ld (hm11.l1 hqM) ?_
                refine OL.mv ?_
                refine OL.ix (ix38 hjM) ?_
                refine OL.ld (hm11.l2 hqM hjM) ?_
                rw [hR q j hqM]
                cases hqj : rchB l q j with
                | false =>
                  refine OL.pT ?_; refine OL.mv ?_; refine OL.ps ?_; refine OL.ps ?_; refine OL.ps ?_; refine OL.ps ?_; refine OL.ps ?_; refine OL.ps ?_; refine OL.ps ?_; refine OL.ps ?_; refine OL.pF ?_
                  refine OL.nil (WL.condF rfl (WL.skip (WL.reg ?_)))
                  refine OL.ad1 ?_
                  refine OL.mv ?_
                  exact OL.nil ⟨M - (q + 1), by omega, q + 1, by omega, rfl, .cons rfl (.cons rfl (.cons rfl (.cons rfl (.cons rfl (.cons rfl (.cons rfl (.cons rfl (.cons rfl (.cons rfl (.cons rfl (.cons rfl (.cons rfl (.cons rfl (.cons rfl .nil)))))))))))))), hf11, hk11, hn11⟩
                | true =>
                  have hijt : rchB l i j = true := (rchB_iff l i j).2 (((rchB_iff l i q).1 hiq).trans ((rchB_iff l q j).1 hqj))
                  refine OL.pT ?_; refine OL.mv ?_; refine OL.mv ?_; refine OL.mv ?_
                  refine OL.ix (ix43 hiM) ?_
                  refine OL.ld (hm11.l1 hiM) ?_
                  refine OL.mv ?_
                  refine OL.ix (ix38 hjM) ?_
                  refine OL.ld (hm11.l2 hiM hjM) ?_
                  rw [hR i j hiM, hijt]
                  refine OL.un ?_; refine OL.pT ?_
                  refine OL.nil (WL.condF rfl (WL.skip (WL.reg ?_)))
                  refine OL.ad1 ?_
                  refine OL.mv ?_
                  exact OL.nil ⟨M - (q + 1), by omega, q + 1, by omega, rfl, .cons rfl (.cons rfl (.cons rfl (.cons rfl (.cons rfl (.cons rfl (.cons rfl (.cons rfl (.cons rfl (.cons rfl (.cons rfl (.cons rfl (.cons rfl (.cons rfl (.cons rfl .nil)))))))))))))), hf11, hk11, hn11⟩
            · refine OL.bF ?_
              refine OL.nil (WL.seq (WL.condF rfl (WL.exit ?_)))
              have hqM : q = M := by omega
              subst hqM
              have done : ∀ {L' : LT}, Sub [(125, .int .i64 (j : Int)), (124, .int .i64 (q : Int)), (14, .int .i64 (i : Int)), (111, .int .i64 (i : Int)), (110, .int .i64 (q : Int)), (13, .bool (ownF l (i + 1))), (9, .slice (some ⟨n3, 0, none⟩) q q), (7, w3), (1, s), (0, .int .i64 (q : Int))] L' → True := fun _ => trivial
              refine WL.seq (WL.reg ?_)
              by_cases hm : ((i : Int), (j : Int)) ∈ l
              · have hijt : rchB l i j = true := (rchB_iff l i j).2 (Rch.edge hm)
                rw [decide_eq_true hm]
                refine OL.mv ?_; refine OL.mv ?_; refine OL.mv ?_; refine OL.mv ?_
                refine OL.ix (ix43 hiM) ?_
                refine OL.ld (hm10.l1 hiM) ?_
                refine OL.mv ?_
                refine OL.ix (ix38 hjM) ?_
                refine OL.ld (hm10.l2 hiM hjM) ?_
                rw [hR i j hiM, hijt]
                refine OL.un ?_; refine OL.pT ?_; refine OL.mv ?_; refine OL.mv ?_; refine OL.mv ?_
                refine OL.ix (ix43 hiM) ?_
                refine OL.ld (hm10.l1 hiM) ?_
                refine OL.mv ?_
                refine OL.ix (ix38 hjM) ?_
                refine OL.ld (hm10.l2 hiM hjM) ?_
                rw [hR i j hiM, hijt]
                refine OL.mv ?_; refine OL.mv ?_; refine OL.un ?_; refine OL.pT ?_; refine OL.mv ?_; refine OL.ps ?_; refine OL.ps ?_; refine OL.pF ?_; refine OL.pF ?_
                refine OL.nil (WL.condF rfl (WL.skip (WL.reg ?_)))
                refine OL.ad1 ?_
                refine OL.mv ?_
                exact OL.nil ⟨q - (j + 1), by omega, j + 1, by omega, rfl, .cons rfl (.cons rfl (.cons rfl (.cons rfl (.cons rfl (.cons rfl (.cons rfl (.cons rfl (.cons rfl (.cons rfl .nil))))))))), hf10, hk10, hn10⟩
              · rw [decide_eq_false hm]
                refine OL.mv ?_; refine OL.mv ?_; refine OL.ps ?_; refine OL.ps ?_; refine OL.ps ?_; refine OL.ps ?_; refine OL.ps ?_; refine OL.ps ?_; refine OL.ps ?_; refine OL.ps ?_; refine OL.pF ?_; refine OL.mv ?_; refine OL.mv ?_; refine OL.mv ?_
                refine OL.ix (ix43 hiM) ?_
                refine OL.ld (hm10.l1 hiM) ?_
                refine OL.mv ?_
                refine OL.ix (ix38 hjM) ?_
                refine OL.ld (hm10.l2 hiM hjM) ?_
                rw [hR i j hiM]
                cases hij2 : rchB l i j with
                | false =>
                  refine OL.mv ?_; refine OL.ps ?_; refine OL.ps ?_; refine OL.pF ?_; refine OL.mv ?_; refine OL.ps ?_; refine OL.ps ?_; refine OL.pF ?_; refine OL.pF ?_
                  refine OL.nil (WL.condF rfl (WL.skip (WL.reg ?_)))
                  refine OL.ad1 ?_
                  refine OL.mv ?_
                  exact OL.nil ⟨q - (j + 1), by omega, j + 1, by omega, rfl, .cons rfl (.cons rfl (.cons rfl (.cons rfl (.cons rfl (.cons rfl (.cons rfl (.cons rfl (.cons rfl (.cons rfl .nil))))))))), hf10, hk10, hn10⟩
                | true =>
                  have hrt : restF l i j q = true := by
                    obtain ⟨c, h1, h2⟩ := ((rchB_iff l i j).1 hij2).head
                    rcases h2 with rfl | h2
                    · exact (hm h1).elim
                    · unfold restF
                      rw [List.any_eq_true]
                      refine ⟨c, List.mem_range.2 (h1.lt hg).2.1, ?_⟩
                      rw [(rchB_iff l c j).2 h2, Bool.and_true]
                      exact decide_eq_true h1
                  rw [hrt]
                  refine OL.mv ?_; refine OL.mv ?_; refine OL.un ?_; refine OL.pT ?_; refine OL.mv ?_; refine OL.mv ?_; refine OL.un ?_; refine OL.pT ?_; refine OL.pF ?_
                  refine OL.nil (WL.condF rfl (WL.skip (WL.reg ?_)))
                  refine OL.ad1 ?_
                  refine OL.mv ?_
                  exact OL.nil ⟨q - (j + 1), by omega, j + 1, by omega, rfl, .cons rfl (.cons rfl (.cons rfl (.cons rfl (.cons rfl (.cons rfl (.cons rfl (.cons rfl (.cons rfl (.cons rfl .nil))))))))), hf10, hk10, hn10⟩
          · refine OL.bF ?_
            refine OL.nil (WL.seq (WL.condF rfl (WL.exit ?_)))
            refine WL.reg ?_
            refine OL.ad1 ?_
            refine OL.mv ?_
            exact OL.nil ⟨M - (i + 1), by omega, i + 1, by omega, rfl, .cons rfl (.cons rfl (.cons rfl (.cons rfl (.cons rfl (.cons rfl (.cons rfl .nil)))))), hf8, hk8, hn8⟩
        · refine OL.bF ?_
          refine OL.nil (WL.seq (WL.condF rfl (WL.exit ?_)))
          have hiM : i = M := by omega
          subst hiM
          have hw6 : App 1 n2 h6 w3 c.length (ints (zs c)) := hw5.kp hf5 hk6
          have hbw6 := hw6.bel hf6
          have hbm : BelV n6 (.slice (some ⟨n3, 0, none⟩) i i) := BelV.sl (by omega)
          refine WL.seq (WL.regD (by kernel_rfl) (by kernel_rfl) ?_)
          cases hcc : c with
          | nil =>
            have hnc := (hcyc.none hg).1 hcc
            have hown : ownF l i = false := by
              unfold ownF
              rw [List.any_eq_false]
              intro a _
              rw [rchB_no (hnc a)]; simp
            rw [hcc] at hw6
            have hl0 : ([] : List Nat).length = 0 := rfl
            rw [hown]
            refine OD.mv ?_; refine OD.mv ?_
            refine OD.bi (hw6.ln ty25) ?_
            refine OD.bF ?_
            refine OD.bv (v := .bool true) rfl ?_
            refine OD.mv ?_; refine OD.mv ?_
            refine OD.bi (hw6.ln ty25) ?_
            refine OD.bT ?_; refine OD.mv ?_; refine OD.ps ?_; refine OD.ps ?_; refine OD.ps ?_; refine OD.ps ?_; refine OD.ps ?_; refine OD.ps ?_; refine OD.ps ?_; refine OD.ps ?_; refine OD.ps ?_; refine OD.ps ?_; refine OD.ps ?_; refine OD.ps ?_; refine OD.ps ?_; refine OD.ps ?_; refine OD.ps ?_; refine OD.ps ?_; refine OD.ps ?_; refine OD.ps ?_; refine OD.ps ?_; refine OD.ps ?_; refine OD.ps ?_; refine OD.ps ?_; refine OD.ps ?_; refine OD.ps ?_; refine OD.pT ?_; refine OD.pT ?_; refine OD.asg ?_
            exact OD.nil (WL.ret ⟨fun id e => (by cases e), _, rfl, hkk.trans (by omega) hk6, by omega, hf6, rfl⟩)
          | cons x r =>
            obtain ⟨hx1, hx2⟩ := hcyc.head hg hcc
            have hxx : rchB l x x = true := (rchB_iff l x x).2 hx2
            have hown : ownF l i = true := by
              unfold ownF
              rw [List.any_eq_true]
              exact ⟨x, List.mem_range.2 hx1, hxx⟩
            rw [hcc] at hw6
            have hlc : (x :: r).length = r.length + 1 := rfl
            obtain ⟨ub, uo, hub, hu1, hu2⟩ := hw6.atI (k := 0) (y := (x : Int)) rfl
            have hubn := hf6.lt (hw6.blk hub).2.choose_spec
            have hbx := hbn x hx1
            rw [hown]
            refine OD.mv ?_; refine OD.mv ?_
            refine OD.bi (hw6.ln ty25) ?_
            refine OD.bT ?_
            refine OD.bv (v := .bool true) rfl ?_
            refine OD.mv ?_; refine OD.mv ?_
            refine OD.bi (hw6.ln ty25) ?_
            refine OD.bF ?_; refine OD.mv ?_; refine OD.mv ?_
            refine OD.ix hu1 ?_
            refine OD.ld (hu2 _ rfl) ?_
            refine OD.bT ?_; refine OD.mv ?_; refine OD.mv ?_
            refine OD.ix hu1 ?_
            refine OD.ld (hu2 _ rfl) ?_
            refine OD.mv ?_; refine OD.bT ?_; refine OD.pT ?_; refine OD.mv ?_; refine OD.mv ?_; refine OD.mv ?_
            refine OD.ix hu1 ?_
            refine OD.ld (hu2 _ rfl) ?_
            refine OD.ix (ix43 hx1) ?_
            refine OD.ld (hm6.l1 hx1) ?_
            refine OD.mv ?_
            refine OD.ix hu1 ?_
            refine OD.ld (hu2 _ rfl) ?_
            refine OD.ix (ix38 hx1) ?_
            refine OD.ld (hm6.l2 hx1 hx1) ?_
            rw [hR x x hx1, hxx]
            refine OD.pT ?_; refine OD.pF ?_; refine OD.pT ?_; refine OD.asg ?_
            exact OD.nil (WL.ret ⟨fun id e => (by cases e), _, rfl, hkk.trans (by omega) hk6, by omega, hf6, rfl⟩)
  exact key

end Go.Sx
