/- SvA: the reference's orders. -/
import Derived.Test.YtegomdgcijchcaaGreatDoorOwn11
namespace Go.Sx
open Go.Proofs
set_option maxRecDepth 100000
set_option maxHeartbeats 4000000

theorem fn82 : X.fn.get 82 = some Tryz.f82 := by kernel_rfl
theorem fn42 : X.fn.get 42 = some Tryz.f42 := by kernel_rfl

/- The parts of an edge. -/
theorem Edges.at2 {h : T Blk} {s : Value} {l : List (Int × Int)} (he : Edges h s l) {i : Nat} {e : Int × Int} (hi : l[i]? = some e) : ∃ b o, idxA X 22 s (.int .i64 (i : Int)) = some (.pointer (some ⟨b, o, none⟩)) ∧ loadA X h 3 (.pointer (some ⟨b, o, none⟩)) = some (.int .i64 e.1) ∧ loadA X h 3 (.pointer (some ⟨b, o + 1, none⟩)) = some (.int .i64 e.2) ∧ loadA X h 35 (.pointer (some ⟨b, o, none⟩)) = some (.agg #[.int .i64 e.1, .int .i64 e.2]) ∧ ∀ k, BelV k s → b < k := by
  obtain ⟨eb, c, rfl, hx⟩ := he.ex
  obtain ⟨b, o, rfl, cs, h1, h2, h3⟩ := hx i e hi
  have hlt := (List.getElem?_eq_some_iff.1 hi).1
  exact ⟨b, o + i * 2, idx_slice ty22 ty35 hlt, load1 ty3 rfl h1 h2, load1 ty3 rfl h1 h3, load2 h1 h2 h3, fun k hk => hk⟩

theorem cntO_iff {l : List (Int × Int)} {out : List Nat} {i : Nat} : cntO l out i = 0 ↔ ∀ e ∈ l, e.2 = (i : Int) → ∃ a ∈ out, e.1 = (a : Int) := by
  unfold cntO
  rw [List.countP_eq_zero]
  constructor
  · intro h e he h2
    have := h e he
    simp only [h2, true_and, decide_eq_true_eq, Classical.not_forall, Decidable.not_not] at this
    obtain ⟨a, ha, hx⟩ := this
    exact ⟨a, ha, hx⟩
  · intro h e he
    simp only [decide_eq_true_eq, not_and, Classical.not_forall, Decidable.not_not]
    intro h2
    obtain ⟨a, ha, hx⟩ := h e he h2
    exact ⟨a, ha, hx⟩

def FreeTo (l : List (Int × Int)) (out : List Nat) (i k : Nat) : Prop := i ∉ out ∧ ∀ (q : Nat) (e : Int × Int), q < k → l[q]? = some e → e.2 = (i : Int) → e.1.toNat ∈ out

theorem free_all {M : Nat} {l : List (Int × Int)} {out : List Nat} {i : Nat} (hg : GoodG (M : Int) l) : FreeTo l out i l.length ↔ i ∉ out ∧ cntO l out i = 0 := by
  unfold FreeTo
  rw [cntO_iff]
  refine and_congr_right fun _ => ⟨fun h e he h2 => ?_, fun h q e hq hqe h2 => ?_⟩
  · obtain ⟨q, hq⟩ := List.getElem?_of_mem he
    have g1 := (hg.ok e he).1
    exact ⟨_, h q e (List.getElem?_eq_some_iff.1 hq).1 hq h2, by omega⟩
  · obtain ⟨a, ha, hx⟩ := h e (List.mem_of_getElem? hqe) h2
    rw [hx, Int.toNat_natCast]; exact ha

theorem ready_cl (M bt : Nat) (s : Value) (l : List (Int × Int)) (out : List Nat) (h : T Blk) (n : Nat) (hf : Fresh h n) (he : Edges h s l) (hT : h.get bt = some (.cells (boolsF M fun k => decide (k ∈ out)))) (hM : M ≤ 400) (hlen : l.length ≤ 400) (hg : GoodG (M : Int) l) :
    ∃ r : Int, Cl X 82 [.int .i64 (M : Int), s, .slice (some ⟨bt, 0, none⟩) M M] h n (.ret (.int .i64 r) h n) ∧ ((∃ i : Nat, r = (i : Int) ∧ i < M ∧ i ∉ out ∧ cntO l out i = 0 ∧ ∀ j, j < i → j ∈ out ∨ cntO l out j ≠ 0) ∨ (r = -1 ∧ ∀ j, j < M → j ∈ out ∨ cntO l out j ≠ 0)) := by
  have key : ∃ v h' n', Cl X 82 [.int .i64 (M : Int), s, .slice (some ⟨bt, 0, none⟩) M M] h n (.ret v h' n') ∧ h' = h ∧ n' = n ∧ ∃ r : Int, v = .int .i64 r ∧ ((∃ i : Nat, r = (i : Int) ∧ i < M ∧ i ∉ out ∧ cntO l out i = 0 ∧ ∀ j, j < i → j ∈ out ∨ cntO l out j ≠ 0) ∨ (r = -1 ∧ ∀ j, j < M → j ∈ out ∨ cntO l out j ≠ 0)) := by
    refine Cl.wl (memoX (by decide)) fn82 rfl rfl rfl rfl ?_
    refine WL.seq (WL.reg ?_)
    refine OL.asg ?_
    refine OL.nil (WL.seq (WL.seq (WL.reg ?_)))
    refine OL.asg ?_
    refine OL.nil (WL.block ?_)
    refine WL.loop (k := M) (fun k L h' n' => ∃ i : Nat, i ≤ M ∧ k = M - i ∧ Sub [(7, .int .i64 (i : Int)), (2, .slice (some ⟨bt, 0, none⟩) M M), (1, s), (0, .int .i64 (M : Int))] L ∧ h = h' ∧ n = n' ∧ ∀ j, j < i → j ∈ out ∨ cntO l out j ≠ 0) ?_
      ⟨0, Nat.zero_le _, rfl, (by repeat (first | exact Sub.nil | refine Sub.cons rfl ?_)), rfl, rfl, fun j hj => by omega⟩
    rintro k L h' n' ⟨i, hi, rfl, hs, rfl, rfl, hno⟩
    refine WL.keep hs ?_
    refine WL.seq (WL.seq (WL.reg ?_))
    by_cases c1 : (i : Int) < (M : Int)
    · refine OL.mv ?_; refine OL.mv ?_; refine OL.bT ?_
      refine OL.nil (WL.condT rfl (WL.skip ?_))
      have hiM : i < M := by omega
      refine WL.seq (WL.block (WL.seq (WL.reg ?_)))
      refine OL.mv ?_; refine OL.mv ?_
      refine OL.ix (idx1 ty38 ty4 rfl hiM) ?_
      refine OL.ld (load1 ty4 rfl (cells_of hT) (boolsF_at hiM)) ?_
      refine OL.un ?_
      refine OL.asg ?_
      refine OL.nil (WL.cut (fun L2 h2 n2 => h = h2 ∧ n = n2 ∧ ∃ fr : Bool, (fr = true ↔ i ∉ out ∧ cntO l out i = 0) ∧ Sub [(8, .bool fr), (7, .int .i64 (i : Int)), (2, .slice (some ⟨bt, 0, none⟩) M M), (1, s), (0, .int .i64 (M : Int))] L2) (WL.seq (WL.reg ?_)) ?_)
      · refine OL.asg ?_
        refine OL.nil (WL.block ?_)
        refine WL.loop (k := l.length) (fun k L h' n' => ∃ (q : Nat) (fr : Bool), q ≤ l.length ∧ k = l.length - q ∧ Sub [(9, .int .i64 (q : Int)), (8, .bool fr), (7, .int .i64 (i : Int)), (2, .slice (some ⟨bt, 0, none⟩) M M), (1, s), (0, .int .i64 (M : Int))] L ∧ h = h' ∧ n = n' ∧ (fr = true ↔ FreeTo l out i q)) ?_
          ⟨0, !decide (i ∈ out), Nat.zero_le _, rfl, (by repeat (first | exact Sub.nil | refine Sub.cons rfl ?_)), rfl, rfl, by simp [FreeTo]⟩
        rintro k L h' n' ⟨q, fr, hq, rfl, hs2, rfl, rfl, hfr⟩
        refine WL.keep hs2 ?_
        refine WL.seq (WL.seq (WL.reg ?_))
        refine OL.mv ?_; refine OL.mv ?_
        refine OL.bi he.len ?_
        by_cases c2 : (q : Int) < (l.length : Int)
        · cases fr with
          | false =>
            refine OL.bT ?_; refine OL.mv ?_; refine OL.mv ?_; refine OL.pT ?_
            refine OL.nil (WL.condF rfl (WL.exit ⟨rfl, rfl, rfl, false, ⟨fun e => (by cases e), fun hx => ?_⟩, (by repeat (first | exact Sub.nil | refine Sub.cons rfl ?_))⟩))
            have := hfr.2 ⟨((free_all hg).2 hx).1, fun a e ha => ((free_all hg).2 hx).2 a e (by omega)⟩
            cases this
          | true =>
            have hft := hfr.1 rfl
            refine OL.bT ?_; refine OL.mv ?_; refine OL.mv ?_; refine OL.pT ?_
            refine OL.nil (WL.condT rfl (WL.skip ?_))
            obtain ⟨⟨e1, e2⟩, hie⟩ : ∃ e, l[q]? = some e := ⟨_, List.getElem?_eq_getElem (by omega)⟩
            obtain ⟨g1, g2, g3, g4, g5⟩ := hg.ok (e1, e2) (List.mem_of_getElem? hie)
            simp only at g1 g2 g3 g4 g5
            obtain ⟨a, rfl⟩ : ∃ a : Nat, e1 = (a : Int) := ⟨e1.toNat, by omega⟩
            obtain ⟨b, o, hx1, hx2, hx3, _, _⟩ := he.at2 hie
            have haM : a < M := by omega
            refine WL.seq (WL.block (WL.reg ?_))
            refine OL.mv ?_; refine OL.mv ?_
            refine OL.ix hx1 ?_
            refine OL.ix idx_pair1 ?_
            refine OL.ld hx3 ?_
            refine OL.mv ?_
            by_cases c3 : e2 = (i : Int)
            · refine OL.nF ?_
              refine OL.mv ?_; refine OL.mv ?_; refine OL.mv ?_; refine OL.mv ?_
              refine OL.ix hx1 ?_
              refine OL.ix idx_pair0 ?_
              refine OL.ld hx2 ?_
              refine OL.ix (idx1 ty38 ty4 rfl haM) ?_
              refine OL.ld (load1 ty4 rfl (cells_of hT) (boolsF_at haM)) ?_
              refine OL.pF ?_; refine OL.asg ?_
              refine OL.nil (WL.reg ?_)
              refine OL.mv ?_
              refine OL.ad1 ?_
              refine OL.asg ?_
              refine OL.nil ⟨l.length - (q + 1), by omega, q + 1, decide (a ∈ out), by omega, rfl, (by repeat (first | exact Sub.nil | refine Sub.cons rfl ?_)), rfl, rfl, ?_⟩
              rw [decide_eq_true_eq]
              refine ⟨fun hx => ⟨hft.1, fun q' e hq' hqe h2 => ?_⟩, fun hx => by have := hx.2 q _ (by omega) hie c3; simpa using this⟩
              rcases Nat.lt_or_ge q' q with h4 | h4
              · exact hft.2 q' e h4 hqe h2
              · rw [show q' = q by omega, hie] at hqe
                cases hqe
                simpa using hx
            · refine OL.nT ?_
              refine OL.mv ?_; refine OL.ps ?_; refine OL.ps ?_; refine OL.ps ?_; refine OL.ps ?_; refine OL.ps ?_; refine OL.ps ?_; refine OL.ps ?_; refine OL.ps ?_; refine OL.pT ?_; refine OL.asg ?_
              refine OL.nil (WL.reg ?_)
              refine OL.mv ?_
              refine OL.ad1 ?_
              refine OL.asg ?_
              refine OL.nil ⟨l.length - (q + 1), by omega, q + 1, true, by omega, rfl, (by repeat (first | exact Sub.nil | refine Sub.cons rfl ?_)), rfl, rfl, ⟨fun _ => ⟨hft.1, fun q' e hq' hqe h2 => ?_⟩, fun _ => rfl⟩⟩
              rcases Nat.lt_or_ge q' q with h4 | h4
              · exact hft.2 q' e h4 hqe h2
              · rw [show q' = q by omega, hie] at hqe
                cases hqe
                exact (c3 h2).elim
        · refine OL.bF ?_; refine OL.mv ?_; refine OL.ps ?_; refine OL.pF ?_
          have hql : q = l.length := by omega
          subst hql
          exact OL.nil (WL.condF rfl (WL.exit ⟨rfl, rfl, rfl, fr, hfr.trans (free_all hg), (by repeat (first | exact Sub.nil | refine Sub.cons rfl ?_))⟩))
      · rintro L2 h2 n2 ⟨rfl, rfl, fr, hfr, hs2⟩
        refine WL.keep hs2 (WL.seq (WL.reg ?_))
        refine OL.mv ?_
        cases fr with
        | true =>
          obtain ⟨q1, q2⟩ := hfr.1 rfl
          refine OL.nil (WL.condT rfl (WL.seq (WL.reg ?_)))
          refine OL.mv ?_; refine OL.asg ?_
          exact OL.nil (WL.ret ⟨fun id e => (by cases e), _, rfl, rfl, rfl, (i : Int), rfl, .inl ⟨i, rfl, hiM, q1, q2, hno⟩⟩)
        | false =>
          refine OL.nil (WL.condF rfl (WL.skip (WL.reg ?_)))
          refine OL.mv ?_
          refine OL.ad1 ?_
          refine OL.asg ?_
          refine OL.nil ⟨M - (i + 1), by omega, i + 1, by omega, rfl, (by repeat (first | exact Sub.nil | refine Sub.cons rfl ?_)), rfl, rfl, fun j hj => ?_⟩
          rcases Nat.lt_or_ge j i with h4 | h4
          · exact hno j h4
          · rw [show j = i by omega]
            by_cases hm : i ∈ out
            · exact .inl hm
            · exact .inr fun h0 => by have := hfr.2 ⟨hm, h0⟩; cases this
    · refine OL.mv ?_; refine OL.mv ?_; refine OL.bF ?_
      refine OL.nil (WL.condF rfl (WL.exit ?_))
      refine WL.seq (WL.reg ?_)
      refine OL.asg ?_
      exact OL.nil (WL.ret ⟨fun id e => (by cases e), _, rfl, rfl, rfl, -1, rfl, .inr ⟨rfl, fun j hj => hno j (by omega)⟩⟩)
  obtain ⟨v, h', n', h1, rfl, rfl, r, rfl, h2⟩ := key
  exact ⟨r, h1, h2⟩

theorem sortedR_cl (M : Nat) (s : Value) (l : List (Int × Int)) (h : T Blk) (n : Nat) (hf : Fresh h n) (he : Edges h s l) (hM : M ≤ 400) (hlen : l.length ≤ 400) (hg : GoodG (M : Int) l) :
    Gives 42 [.int .i64 (M : Int), s] h n fun v h' _ => ∃ out, App 1 n h' v out.length (ints (zs out)) ∧ Topo M l out ∧ (out.length = M ∨ out.length < M ∧ Stuck M l) := by
  have key : ∃ v h' n', Cl X 42 [.int .i64 (M : Int), s] h n (.ret v h' n') ∧ Keep n h h' ∧ n ≤ n' ∧ Fresh h' n' ∧ ∃ out, App 1 n h' v out.length (ints (zs out)) ∧ Topo M l out ∧ (out.length = M ∨ out.length < M ∧ Stuck M l) := by
    refine Cl.wl (memoX (by decide)) fn42 rfl rfl rfl rfl ?_
    refine WL.seq (WL.reg ?_)
    refine OL.asg ?_
    refine OL.nil (WL.seq (WL.reg ?_))
    refine OL.mv ?_
    refine OL.ms (mkS (M := M) ty38 ty4 rfl rfl rfl rfl (by omega)) ?_
    refine OL.asg ?_
    refine OL.heap (fun H => Fresh H (n + 1) ∧ Keep n h H ∧ H.get n = some (.cells (boolsF M fun k => decide (k ∈ ([] : List Nat))))) ⟨hf.upd _, (Keep.refl n h).upd (Nat.le_refl _) _, by rw [T.get_upd_same, boolsF_zero]; simp⟩ ?_
    rintro hA ⟨hfA, hkA, hA0⟩
    refine OL.nil (WL.seq (WL.reg ?_))
    refine OL.asg ?_
    refine OL.nil (WL.seq (WL.block ?_))
    refine WL.loop (k := M) (fun k L h2 n2 => ∃ (out : List Nat) (w : Value), k = M - out.length ∧ Sub [(6, w), (5, .slice (some ⟨n, 0, none⟩) M M), (1, s), (0, .int .i64 (M : Int))] L ∧ Keep n h h2 ∧ n + 1 ≤ n2 ∧ Fresh h2 n2 ∧ h2.get n = some (.cells (boolsF M fun k => decide (k ∈ out))) ∧ App 1 (n + 1) h2 w out.length (ints (zs out)) ∧ Topo M l out) ?_
      ⟨[], .slice none 0 0, by simp, (by repeat (first | exact Sub.nil | refine Sub.cons rfl ?_)), hkA, Nat.le_refl _, hfA, hA0, .inl ⟨rfl, rfl, rfl⟩, ⟨List.nodup_nil, by simp, fun j b a hj => by simp at hj, fun j b hj => by simp at hj⟩⟩
    rintro k L h2 n2 ⟨out, w, rfl, hs2, hk2, hn2, hf2, hB2, hW2, hT⟩
    have holen : out.length ≤ M := pigeon M out hT.nd hT.lt
    refine WL.keep hs2 ?_
    refine WL.seq (WL.seq (WL.reg ?_))
    refine OL.mv ?_
    refine OL.bi (hW2.ln ty25) ?_
    by_cases c1 : (out.length : Int) < (M : Int)
    · refine OL.mv ?_; refine OL.bT ?_
      refine OL.nil (WL.condT rfl (WL.skip ?_))
      obtain ⟨r, hcr, hr⟩ := ready_cl M n s l out h2 n2 hf2 (he.keep hf hk2) hB2 hM hlen hg
      refine WL.block (WL.seq (WL.reg ?_))
      refine OL.mv ?_; refine OL.mv ?_; refine OL.mv ?_
      refine OL.cf fn82 hcr ?_
      refine OL.asg ?_
      refine OL.nil (WL.seq (WL.seq (WL.reg ?_)))
      rcases hr with ⟨i, rfl, hiM, q1, q2, q3⟩ | ⟨rfl, hall⟩
      · refine OL.mv ?_; refine OL.bF ?_
        refine OL.nil (WL.condF rfl (WL.skip ?_))
        refine WL.seq (WL.reg ?_)
        refine OL.mv ?_; refine OL.mv ?_
        refine OL.ix (idx1 ty38 ty4 rfl hiM) ?_
        refine OL.st (store1 ty4 rfl hB2 rfl (by rw [boolsF_len]; exact hiM)) ?_
        refine OL.heap (fun H => Fresh H n2 ∧ Keep n h H ∧ H.get n = some (.cells (boolsF M fun k => decide (k ∈ out ++ [i]))) ∧ App 1 (n + 1) H w out.length (ints (zs out))) ⟨hf2.set (by omega) _, hk2.upd (Nat.le_refl _) _, ?_, hW2.keep fun b hb => T.get_upd_ne _ _ (by have := (hW2.blk hb).1; omega)⟩ ?_
        · rw [T.get_upd_same]
          congr 2
          refine boolsF_set hiM fun j => ?_
          by_cases hj : j = i
          · subst hj; simp
          · rw [if_neg hj]; simp [hj]
        rintro h3 ⟨hf3, hk3, hB3, hW3⟩
        have hW4 : App tInt.size (n + 1) (h3.upd (some (.cells [.int .i64 (i : Int)])) n2) w out.length (ints (zs out)) := hW3.kp hf3 ((Keep.refl n2 h3).upd (Nat.le_refl n2) _)
        obtain ⟨w', hG, happ, p1, p2, p3, p4⟩ := append_app el25 hW4 (hf3.upd _) (x := .slice (some ⟨n2, 0, none⟩) 1 1) (xl := 1) (new := [.int .i64 (i : Int)]) ⟨_, _, rfl⟩ (by simp only [rowA, cells_of (T.get_upd_same _ _ _)]; rfl) (by omega) (by omega) rfl (by omega)
        refine OL.nil (WL.reg ?_)
        refine OL.mv ?_; refine OL.mv ?_
        refine OL.bs buildS1 ?_
        refine OL.bi (appendB happ) ?_
        refine OL.asg ?_
        refine OL.nil ⟨M - (out.length + 1), by omega, out ++ [i], w', by simp, (by repeat (first | exact Sub.nil | refine Sub.cons rfl ?_)), fun q hq => ?_, by omega, p1, ?_, ?_, hT.add hiM q1 q2 q3⟩
        · rw [p2 q (by omega) (fun e => by have := (hW3.blk e).1; omega), T.get_upd_ne _ _ (by omega)]; exact hk3 q hq
        · rw [p2 n (by omega) (fun e => by have := (hW3.blk e).1; omega), T.get_upd_ne _ _ (by omega)]; exact hB3
        · have e1 : out.length + 1 = (out ++ [i]).length := by simp
          have e2 : ints (zs out) ++ [Value.int .i64 (i : Int)] = ints (zs (out ++ [i])) := by rw [zs_add]; simp [ints]
          rw [← e1, ← e2]
          exact p4.low (by omega)
      · refine OL.mv ?_; refine OL.bT ?_
        refine OL.nil (WL.condT rfl (WL.seq (WL.reg ?_)))
        refine OL.mv ?_; refine OL.asg ?_
        refine OL.nil (WL.ret ⟨fun id e => (by cases e), _, rfl, hk2, by omega, hf2, out, hW2.low (by omega), hT, .inr ⟨by omega, ⟨fun k => k < M ∧ k ∉ out, some_out (by omega), fun k hk => hk.1, fun k hk => ?_⟩⟩⟩)
        obtain ⟨a, ha1, ha2, ha3⟩ := cntO_pos hg ((hall k hk.1).resolve_left hk.2)
        exact ⟨a, ⟨ha2, ha1⟩, ha3⟩
    · refine OL.mv ?_; refine OL.bF ?_
      refine OL.nil (WL.condF rfl (WL.exit ?_))
      refine WL.seq (WL.reg ?_)
      refine OL.mv ?_; refine OL.asg ?_
      exact OL.nil (WL.ret ⟨fun id e => (by cases e), _, rfl, hk2, by omega, hf2, out, hW2.low (by omega), hT, .inl (by omega)⟩)
  exact key

def RSortV (M : Nat) (l : List (Int × Int)) (lo : Nat) (h' : T Blk) (v : Value) : Prop :=
  (∃ w out, v = .tuple #[w, .int .i64 0] ∧ App 1 lo h' w out.length (ints (zs out)) ∧ Topo M l out ∧ out.length = M) ∨ (v = .tuple #[.slice none 0 0, .int .i64 151] ∧ Stuck M l)

theorem rsort_cl (M : Nat) (s : Value) (l : List (Int × Int)) (h : T Blk) (n : Nat) (hf : Fresh h n) (he : Edges h s l) (hbs : ∀ k, n ≤ k → BelV k s) (hM : M ≤ 400) (hlen : l.length ≤ 400) (hg : GoodG (M : Int) l) :
    Gives 12 [.int .i64 (M : Int), s] h n fun v h' _ => RSortV M l n h' v := by
  have key : ∃ v h' n', Cl X 12 [.int .i64 (M : Int), s] h n (.ret v h' n') ∧ Keep n h h' ∧ n ≤ n' ∧ Fresh h' n' ∧ RSortV M l n h' v := by
    obtain ⟨v1, h1, n1, hc1, hk1, hn1, hf1, c', rfl, hcc⟩ := check2_cl (M : Int) s l h n hf he hbs hlen
    have hc0 : CheckE (M : Int) l 0 := .inr ⟨by omega, by omega, .inl ⟨rfl, hg⟩⟩
    obtain rfl := hcc.uniq hc0
    obtain ⟨v2, h2, n2, hc2, hk2, hn2, hf2, out, hW2, hT, hend⟩ := sortedR_cl M s l h1 n1 hf1 (he.keep hf hk1) hM hlen hg
    refine Cl.wl (memoX (by decide)) fn12 rfl rfl rfl rfl ?_
    refine WL.seq (WL.reg ?_)
    refine OL.asg ?_; refine OL.asg ?_
    refine OL.nil (WL.seq (WL.seq (WL.reg ?_)))
    refine OL.mv ?_; refine OL.mv ?_
    refine OL.cf fn16 hc1 ?_
    refine OL.asg ?_
    refine OL.nil (WL.seq (WL.reg ?_))
    refine OL.mv ?_; refine OL.nF ?_
    refine OL.nil (WL.condF rfl (WL.skip ?_))
    refine WL.seq (WL.reg ?_)
    refine OL.mv ?_; refine OL.mv ?_
    refine OL.cf fn42 hc2 ?_
    refine OL.asg ?_
    refine OL.nil (WL.seq (WL.seq (WL.reg ?_)))
    refine OL.mv ?_
    refine OL.bi (hW2.ln ty25) ?_
    rcases hend with hM' | ⟨hlt, hst⟩
    · refine OL.mv ?_; refine OL.bF ?_
      refine OL.nil (WL.condF rfl (WL.skip ?_))
      refine WL.seq (WL.reg ?_)
      refine OL.mv ?_; refine OL.asg ?_; refine OL.asg ?_
      exact OL.nil (WL.ret ⟨fun id e => (by cases e), _, rfl, hk1.trans hn1 hk2, by omega, hf2, .inl ⟨v2, out, rfl, hW2.low hn1, hT, hM'⟩⟩)
    · refine OL.mv ?_; refine OL.bT ?_
      refine OL.nil (WL.condT rfl (WL.seq (WL.reg ?_)))
      refine OL.asg ?_; refine OL.asg ?_
      exact OL.nil (WL.ret ⟨fun id e => (by cases e), _, rfl, hk1.trans hn1 hk2, by omega, hf2, .inr ⟨rfl, hst⟩⟩)
  exact key

/- Of two good orders that take the least each time, both are one. -/
theorem Topo.uniq {M : Nat} {l : List (Int × Int)} {a b : List Nat} (hg : GoodG (M : Int) l) (ha : Topo M l a) (hb : Topo M l b) (la : a.length = M) (lb : b.length = M) : a = b := by
  have step : ∀ {x y : List Nat} {j u v : Nat}, Topo M l x → Topo M l y → x.take j = y.take j → x[j]? = some u → y[j]? = some v → ¬ u < v := by
    intro x y j u v hx hy hj hu hv hlt
    rcases hy.lst j v hv u hlt with h1 | h1
    · rw [← hj] at h1
      obtain ⟨q, hq⟩ := List.getElem?_of_mem h1
      rw [List.getElem?_take] at hq
      split at hq
      · obtain ⟨q1, q2⟩ := List.getElem?_eq_some_iff.1 hq
        obtain ⟨q3, q4⟩ := List.getElem?_eq_some_iff.1 hu
        have := (List.getElem_inj hx.nd).1 (q2.trans q4.symm)
        omega
      · cases hq
    · apply h1
      rw [← hj, cntO_iff]
      intro e he h2
      obtain ⟨g1, g2, g3, g4, g5⟩ := hg.ok e he
      obtain ⟨e1, e2⟩ := e
      simp only at g1 g2 g3 g4 g5 h2
      subst h2
      exact ⟨e1.toNat, hx.dep j u e1.toNat hu (by rw [show ((e1.toNat : Nat) : Int) = e1 by omega]; exact he), by simp only; omega⟩
  have key : ∀ j, j ≤ M → a.take j = b.take j := by
    intro j
    induction j with
    | zero => intro _; simp
    | succ j ih =>
      intro hj
      have hj' := ih (by omega)
      obtain ⟨u, hu⟩ : ∃ u, a[j]? = some u := ⟨_, List.getElem?_eq_getElem (by omega)⟩
      obtain ⟨v, hv⟩ : ∃ v, b[j]? = some v := ⟨_, List.getElem?_eq_getElem (by omega)⟩
      have h1 := step ha hb hj' hu hv
      have h2 := step hb ha hj'.symm hv hu
      have : u = v := by omega
      rw [List.take_add_one, List.take_add_one, hu, hv, hj', this]
  have := key M (Nat.le_refl M)
  rwa [List.take_of_length_le (by omega), List.take_of_length_le (by omega)] at this

end Go.Sx

/- SvB: the reference's distances and cycles. -/
namespace Go.Sx
open Go.Proofs
set_option maxRecDepth 100000
set_option maxHeartbeats 4000000

theorem fn84 : X.fn.get 84 = some Tryz.f84 := by kernel_rfl
theorem fn46 : X.fn.get 46 = some Tryz.f46 := by kernel_rfl

/- Layer by layer. -/
structure Layr (l : List (Int × Int)) (to : Nat) (fr : Nat → Int) (s q : Nat) (top : Int) : Prop where
  lo : ∀ k, -1 ≤ fr k ∧ fr k ≤ top
  wk : ∀ k, 0 ≤ fr k → Walk l (fr k).toNat k to
  le : ∀ n, n ≤ s → ∀ k, Walk l n k to → 0 ≤ fr k ∧ fr k ≤ (n : Int)
  ed : ∀ (p x y : Nat), p < q → l[p]? = some ((x : Int), (y : Int)) → fr y = (s : Int) → 0 ≤ fr x

theorem Layr.init (l : List (Int × Int)) (to : Nat) : Layr l to (upF (fun _ => -1) to 0) 0 0 0 := by
  refine ⟨fun k => ?_, fun k hk => ?_, fun n hn k hw => ?_, fun p x y hp => by omega⟩
  · by_cases e : k = to
    · rw [e, upF_same]; omega
    · rw [upF_ne e]; omega
  · by_cases e : k = to
    · rw [e, upF_same]; exact rfl
    · rw [upF_ne e] at hk; omega
  · have : n = 0 := by omega
    subst this
    rw [show k = to from hw, upF_same]; omega

theorem Layr.old {l : List (Int × Int)} {to s q x y : Nat} {fr : Nat → Int} {top : Int} (a : Layr l to fr s q top) (hq : l[q]? = some ((x : Int), (y : Int))) (h : ¬ (fr y = (s : Int) ∧ fr x < 0)) : Layr l to fr s (q + 1) top := by
  refine ⟨a.lo, a.wk, a.le, fun p u v hp hl hv => ?_⟩
  rcases Nat.lt_or_ge p q with h1 | h1
  · exact a.ed p u v h1 hl hv
  · rw [show p = q by omega, hq] at hl
    simp only [Option.some.injEq, Prod.mk.injEq] at hl
    have e1 : x = u := by omega
    have e2 : y = v := by omega
    subst e1; subst e2
    omega

theorem Layr.new {l : List (Int × Int)} {to s q x y : Nat} {fr : Nat → Int} (a : Layr l to fr s q ((s : Int) + 1)) (hq : l[q]? = some ((x : Int), (y : Int))) (hy : fr y = (s : Int)) (hx : fr x < 0) : Layr l to (upF fr x ((s : Int) + 1)) s (q + 1) ((s : Int) + 1) := by
  have hyx : y ≠ x := fun e => by rw [e] at hy; omega
  refine ⟨fun k => ?_, fun k hk => ?_, fun n hn k hw => ?_, fun p u v hp hl hv => ?_⟩
  · by_cases e : k = x
    · rw [e, upF_same]; omega
    · rw [upF_ne e]; exact a.lo k
  · by_cases e : k = x
    · rw [e, upF_same, show ((s : Int) + 1).toNat = s + 1 by omega]
      have := a.wk y (by omega)
      rw [hy, Int.toNat_natCast] at this
      exact ⟨y, List.mem_of_getElem? hq, this⟩
    · rw [upF_ne e] at hk ⊢; exact a.wk k hk
  · have := a.le n hn k hw
    by_cases e : k = x
    · rw [e] at this; omega
    · rw [upF_ne e]; exact this
  · by_cases e : u = x
    · rw [e, upF_same]; omega
    · rw [upF_ne e]
      by_cases e2 : v = x
      · rw [e2, upF_same] at hv; omega
      · rw [upF_ne e2] at hv
        rcases Nat.lt_or_ge p q with h1 | h1
        · exact a.ed p u v h1 hl hv
        · rw [show p = q by omega, hq] at hl
          simp only [Option.some.injEq, Prod.mk.injEq] at hl
          exact (e (by omega)).elim

theorem Layr.next {M : Nat} {l : List (Int × Int)} (hg : GoodG (M : Int) l) {to s : Nat} {fr : Nat → Int} (a : Layr l to fr s l.length ((s : Int) + 1)) : Layr l to fr (s + 1) 0 (((s + 1 : Nat) : Int)) := by
  refine ⟨fun k => by have := a.lo k; omega, a.wk, fun n hn k hw => ?_, fun p x y hp => by omega⟩
  rcases Nat.lt_or_ge s n with h1 | h1
  · have : n = s + 1 := by omega
    subst this
    obtain ⟨c, h2, h3⟩ := hw
    have hc := a.le s (Nat.le_refl s) c h3
    by_cases e : fr c = (s : Int)
    · obtain ⟨p, hp⟩ := List.getElem?_of_mem h2
      have := a.ed p k c (List.getElem?_eq_some_iff.1 hp).1 hp e
      have := (a.lo k).2
      omega
    · have hw2 : Walk l ((fr c).toNat + 1) k to := ⟨c, h2, a.wk c hc.1⟩
      have := a.le _ (by omega) k hw2
      omega
  · exact a.le n h1 k hw

theorem Layr.fin {M : Nat} {l : List (Int × Int)} (hg : GoodG (M : Int) l) {to q : Nat} {fr : Nat → Int} {top : Int} (hto : to < M) (a : Layr l to fr M q top) (k : Nat) : fr k = dst l to k := by
  refine IsDist.eq (IsDist.of (a.lo k).1 (a.wk k) fun n hn => ?_)
  have h1 := (dst_is l to k).le hn
  have h2 := dst_lt hg hto (k := k)
  have h3 := a.le _ (by omega) k ((dst_is l to k).walk h1.1)
  omega

theorem from_cl (M : Nat) (s : Value) (l : List (Int × Int)) (to : Nat) (h : T Blk) (n : Nat) (hf : Fresh h n) (he : Edges h s l) (hto : to < M) (hM : M ≤ 60) (hlen : l.length ≤ 400) (hg : GoodG (M : Int) l) :
    Gives 84 [.int .i64 (M : Int), s, .int .i64 (to : Int)] h n fun v h' _ => ∃ b, v = .slice (some ⟨b, 0, none⟩) M M ∧ n ≤ b ∧ h'.get b = some (.cells (natsF M (dst l to))) := by
  have key : ∃ v h' n', Cl X 84 [.int .i64 (M : Int), s, .int .i64 (to : Int)] h n (.ret v h' n') ∧ Keep n h h' ∧ n ≤ n' ∧ Fresh h' n' ∧ ∃ b, v = .slice (some ⟨b, 0, none⟩) M M ∧ n ≤ b ∧ h'.get b = some (.cells (natsF M (dst l to))) := by
    have ix : ∀ {b k : Nat}, k < M → idxA X 25 (.slice (some ⟨b, 0, none⟩) M M) (.int .i64 (k : Int)) = some (.pointer (some ⟨b, k, none⟩)) := fun hk => idx1 ty25 ty3 rfl hk
    refine Cl.wl (memoX (by decide)) fn84 rfl rfl rfl rfl ?_
    refine WL.seq (WL.reg ?_)
    refine OL.asg ?_
    refine OL.nil (WL.seq (WL.reg ?_))
    refine OL.mv ?_
    refine OL.ms (mkS (M := M) ty25 ty3 rfl rfl rfl rfl (by omega)) ?_
    refine OL.asg ?_
    refine OL.heap (fun H => Fresh H (n + 1) ∧ Keep n h H ∧ H.get n = some (.cells (natsF M (fillN 0 (-1))))) ⟨hf.upd _, (Keep.refl n h).upd (Nat.le_refl _) _, by rw [T.get_upd_same, natsF_zero]; congr 2⟩ ?_
    rintro hA ⟨hfA, hkA, hA0⟩
    refine OL.nil (WL.seq (WL.seq (WL.reg ?_)))
    refine OL.asg ?_
    refine OL.nil (WL.block ?_)
    refine WL.loop (k := M) (fun k L h2 n2 => ∃ i : Nat, i ≤ M ∧ k = M - i ∧ Sub [(8, .int .i64 (i : Int)), (7, .slice (some ⟨n, 0, none⟩) M M), (2, .int .i64 (to : Int)), (1, s), (0, .int .i64 (M : Int))] L ∧ n2 = n + 1 ∧ Fresh h2 (n + 1) ∧ Keep n h h2 ∧ h2.get n = some (.cells (natsF M (fillN i (-1))))) ?_
      ⟨0, Nat.zero_le _, rfl, (by repeat (first | exact Sub.nil | refine Sub.cons rfl ?_)), rfl, hfA, hkA, hA0⟩
    rintro k L h2 n2 ⟨i, hi, rfl, hs2, rfl, hf2, hk2, hB2⟩
    refine WL.keep hs2 ?_
    refine WL.seq (WL.seq (WL.reg ?_))
    by_cases c1 : (i : Int) < (M : Int)
    · refine OL.mv ?_; refine OL.mv ?_; refine OL.bT ?_
      refine OL.nil (WL.condT rfl (WL.skip ?_))
      have hiM : i < M := by omega
      refine WL.seq (WL.block (WL.reg ?_))
      refine OL.mv ?_; refine OL.mv ?_
      refine OL.ix (ix hiM) ?_
      refine OL.st (store1 ty3 rfl hB2 rfl (by rw [natsF_len]; exact hiM)) ?_
      refine OL.nil (WL.reg ?_)
      refine OL.mv ?_
      refine OL.ad1 ?_
      refine OL.asg ?_
      refine OL.nil ⟨M - (i + 1), by omega, i + 1, by omega, rfl, (by repeat (first | exact Sub.nil | refine Sub.cons rfl ?_)), rfl, hf2.set (by omega) _, hk2.upd (Nat.le_refl _) _, ?_⟩
      rw [T.get_upd_same]
      congr 2
      refine natsF_set hiM fun j => ?_
      unfold fillN
      by_cases e : j = i
      · rw [if_pos (by omega), if_pos e]
      · rw [if_neg e]
        by_cases h3 : j < i
        · rw [if_pos (by omega), if_pos h3]
        · rw [if_neg (by omega), if_neg h3]
    · refine OL.mv ?_; refine OL.mv ?_; refine OL.bF ?_
      refine OL.nil (WL.condF rfl (WL.exit ?_))
      have hiM : i = M := by omega
      subst hiM
      refine WL.seq (WL.reg ?_)
      refine OL.mv ?_; refine OL.mv ?_
      refine OL.ix (ix hto) ?_
      refine OL.st (store1 ty3 rfl hB2 rfl (by rw [natsF_len]; exact hto)) ?_
      refine OL.heap (fun H => Fresh H (n + 1) ∧ Keep n h H ∧ H.get n = some (.cells (natsF i (upF (fun _ => -1) to 0)))) ⟨hf2.set (by omega) _, hk2.upd (Nat.le_refl _) _, ?_⟩ ?_
      · rw [T.get_upd_same]
        congr 2
        rw [natsF_set hto (g := upF (fillN i (-1)) to 0) fun j => rfl]
        apply List.ext_getElem?
        intro j
        by_cases hj : j < i
        · rw [natsF_at hj, natsF_at hj]
          by_cases e : j = to
          · rw [e, upF_same, upF_same]
          · rw [upF_ne e, upF_ne e]; simp only [fillN, if_pos hj]
        · rw [List.getElem?_eq_none_iff.2 (by rw [natsF_len]; omega), List.getElem?_eq_none_iff.2 (by rw [natsF_len]; omega)]
      rintro h3 ⟨hf3, hk3, hB3⟩
      refine OL.nil (WL.seq (WL.seq (WL.reg ?_)))
      refine OL.asg ?_
      refine OL.nil (WL.block ?_)
      refine WL.loop (k := i) (fun k L h4 n4 => ∃ (st : Nat) (fr : Nat → Int), st ≤ i ∧ k = i - st ∧ Sub [(9, .int .i64 (st : Int)), (7, .slice (some ⟨n, 0, none⟩) i i), (1, s), (0, .int .i64 (i : Int))] L ∧ n4 = n + 1 ∧ Fresh h4 (n + 1) ∧ Keep n h h4 ∧ h4.get n = some (.cells (natsF i fr)) ∧ Layr l to fr st 0 (st : Int)) ?_
        ⟨0, _, Nat.zero_le _, rfl, (by repeat (first | exact Sub.nil | refine Sub.cons rfl ?_)), rfl, hf3, hk3, hB3, Layr.init l to⟩
      rintro k L h4 n4 ⟨st, fr, hst, rfl, hs4, rfl, hf4, hk4, hB4, hL4⟩
      refine WL.keep hs4 ?_
      refine WL.seq (WL.seq (WL.reg ?_))
      by_cases c2 : (st : Int) < (i : Int)
      · refine OL.mv ?_; refine OL.mv ?_; refine OL.bT ?_
        refine OL.nil (WL.condT rfl (WL.skip ?_))
        refine WL.seq (WL.block (WL.seq (WL.reg ?_)))
        refine OL.asg ?_
        refine OL.nil (WL.block ?_)
        refine WL.loop (k := l.length) (fun k L h5 n5 => ∃ (q : Nat) (fr : Nat → Int), q ≤ l.length ∧ k = l.length - q ∧ Sub [(10, .int .i64 (q : Int)), (9, .int .i64 (st : Int)), (7, .slice (some ⟨n, 0, none⟩) i i), (1, s), (0, .int .i64 (i : Int))] L ∧ n5 = n + 1 ∧ Fresh h5 (n + 1) ∧ Keep n h h5 ∧ h5.get n = some (.cells (natsF i fr)) ∧ Layr l to fr st q ((st : Int) + 1)) ?_
          ⟨0, fr, Nat.zero_le _, rfl, (by repeat (first | exact Sub.nil | refine Sub.cons rfl ?_)), rfl, hf4, hk4, hB4, ⟨fun k => by have := hL4.lo k; omega, hL4.wk, hL4.le, hL4.ed⟩⟩
        rintro k L h5 n5 ⟨q, fr, hq, rfl, hs5, rfl, hf5, hk5, hB5, hL5⟩
        have he5 := he.keep hf hk5
        refine WL.keep hs5 ?_
        refine WL.seq (WL.seq (WL.reg ?_))
        refine OL.mv ?_; refine OL.mv ?_
        refine OL.bi he.len ?_
        by_cases c3 : (q : Int) < (l.length : Int)
        · refine OL.bT ?_
          refine OL.nil (WL.condT rfl (WL.skip ?_))
          obtain ⟨⟨e1, e2⟩, hie⟩ : ∃ e, l[q]? = some e := ⟨_, List.getElem?_eq_getElem (by omega)⟩
          obtain ⟨g1, g2, g3, g4, g5⟩ := hg.ok (e1, e2) (List.mem_of_getElem? hie)
          simp only at g1 g2 g3 g4 g5
          obtain ⟨x, rfl⟩ : ∃ x : Nat, e1 = (x : Int) := ⟨e1.toNat, by omega⟩
          obtain ⟨y, rfl⟩ : ∃ y : Nat, e2 = (y : Int) := ⟨e2.toNat, by omega⟩
          have hxM : x < i := by omega
          have hyM : y < i := by omega
          obtain ⟨b, o, hx1, hx2, hx3, _, _⟩ := he5.at2 hie
          refine WL.seq (WL.block (WL.seq (WL.reg ?_)))
          refine OL.mv ?_; refine OL.mv ?_; refine OL.mv ?_
          refine OL.ix hx1 ?_
          refine OL.ix idx_pair1 ?_
          refine OL.ld hx3 ?_
          refine OL.ix (ix hyM) ?_
          refine OL.ld (load1 ty3 rfl (cells_of hB5) (natsF_at hyM)) ?_
          refine OL.mv ?_
          by_cases d1 : fr y = (st : Int)
          · refine OL.bT ?_; refine OL.mv ?_; refine OL.mv ?_; refine OL.mv ?_; refine OL.mv ?_
            refine OL.ix hx1 ?_
            refine OL.ix idx_pair0 ?_
            refine OL.ld hx2 ?_
            refine OL.ix (ix hxM) ?_
            refine OL.ld (load1 ty3 rfl (cells_of hB5) (natsF_at hxM)) ?_
            by_cases d2 : fr x < 0
            · refine OL.bT ?_; refine OL.pT ?_
              refine OL.nil (WL.condT rfl (WL.reg ?_))
              refine OL.mv ?_; refine OL.mv ?_; refine OL.mv ?_
              refine OL.ix hx1 ?_
              refine OL.ix idx_pair0 ?_
              refine OL.ld hx2 ?_
              refine OL.mv ?_
              refine OL.ad ?_
              refine OL.ix (ix hxM) ?_
              refine OL.st (store1 ty3 rfl hB5 rfl (by rw [natsF_len]; exact hxM)) ?_
              refine OL.nil (WL.reg ?_)
              refine OL.mv ?_
              refine OL.ad1 ?_
              refine OL.asg ?_
              refine OL.nil ⟨l.length - (q + 1), by omega, q + 1, upF fr x ((st : Int) + 1), by omega, rfl, (by repeat (first | exact Sub.nil | refine Sub.cons rfl ?_)), rfl, hf5.set (by omega) _, hk5.upd (Nat.le_refl _) _, ?_, hL5.new hie d1 d2⟩
              rw [T.get_upd_same]
              congr 2
              exact natsF_set hxM fun j => rfl
            · refine OL.bF ?_; refine OL.pT ?_
              refine OL.nil (WL.condF rfl (WL.skip (WL.reg ?_)))
              refine OL.mv ?_
              refine OL.ad1 ?_
              refine OL.asg ?_
              exact OL.nil ⟨l.length - (q + 1), by omega, q + 1, fr, by omega, rfl, (by repeat (first | exact Sub.nil | refine Sub.cons rfl ?_)), rfl, hf5, hk5, hB5, hL5.old hie (fun e => d2 e.2)⟩
          · refine OL.bF ?_; refine OL.mv ?_; refine OL.ps ?_; refine OL.ps ?_; refine OL.ps ?_; refine OL.ps ?_; refine OL.ps ?_; refine OL.ps ?_; refine OL.ps ?_; refine OL.ps ?_; refine OL.ps ?_; refine OL.pF ?_
            refine OL.nil (WL.condF rfl (WL.skip (WL.reg ?_)))
            refine OL.mv ?_
            refine OL.ad1 ?_
            refine OL.asg ?_
            exact OL.nil ⟨l.length - (q + 1), by omega, q + 1, fr, by omega, rfl, (by repeat (first | exact Sub.nil | refine Sub.cons rfl ?_)), rfl, hf5, hk5, hB5, hL5.old hie (fun e => d1 e.1)⟩
        · refine OL.bF ?_
          refine OL.nil (WL.condF rfl (WL.exit ?_))
          have hql : q = l.length := by omega
          subst hql
          refine WL.reg ?_
          refine OL.mv ?_
          refine OL.ad1 ?_
          refine OL.asg ?_
          exact OL.nil ⟨i - (st + 1), by omega, st + 1, fr, by omega, rfl, (by repeat (first | exact Sub.nil | refine Sub.cons rfl ?_)), rfl, hf5, hk5, hB5, hL5.next hg⟩
      · refine OL.mv ?_; refine OL.mv ?_; refine OL.bF ?_
        refine OL.nil (WL.condF rfl (WL.exit ?_))
        have hsi : st = i := by omega
        subst hsi
        refine WL.seq (WL.reg ?_)
        refine OL.mv ?_; refine OL.asg ?_
        refine OL.nil (WL.ret ⟨fun id e => (by cases e), _, rfl, hk4, by omega, hf4, n, rfl, Nat.le_refl _, ?_⟩)
        rw [hB4]
        congr 3
        funext k
        exact hL4.fin hg hto k
  exact key

end Go.Sx

/- SvC: the reference's cycles. -/
namespace Go.Sx
open Go.Proofs
set_option maxRecDepth 100000
set_option maxHeartbeats 4000000

def nx (fr : Nat → Int) (left : Nat) (nxt y : Int) : Int := if fr y.toNat = (left : Int) ∧ (nxt < 0 ∨ y < nxt) then y else nxt

theorem nx_stay {fr : Nat → Int} {left : Nat} {z : Int} (hz : 0 ≤ z) : ∀ {xs : List Int}, (∀ x ∈ xs, z < x) → xs.foldl (nx fr left) z = z
  | [], _ => rfl
  | x :: xs, h => by
    have hx := h x (List.mem_cons_self ..)
    have : nx fr left z x = z := if_neg (by omega)
    rw [List.foldl_cons, this]
    exact nx_stay hz fun y hy => h y (List.mem_cons_of_mem _ hy)

theorem nx_find {fr : Nat → Int} {left : Nat} : ∀ {xs : List Int}, xs.Pairwise (· < ·) → (∀ x ∈ xs, 0 ≤ x) → xs.foldl (nx fr left) (-1) = (xs.find? fun y => decide (fr y.toNat = (left : Int))).getD (-1)
  | [], _, _ => rfl
  | x :: xs, hp, h0 => by
    obtain ⟨p1, p2⟩ := List.pairwise_cons.1 hp
    have hx := h0 x (List.mem_cons_self ..)
    by_cases h : fr x.toNat = (left : Int)
    · have : nx fr left (-1) x = x := if_pos ⟨h, by omega⟩
      rw [List.foldl_cons, this, nx_stay hx p1]
      simp [h]
    · have : nx fr left (-1) x = -1 := if_neg (fun e => h e.1)
      rw [List.foldl_cons, this, nx_find p2 fun y hy => h0 y (List.mem_cons_of_mem _ hy)]
      simp [h]

theorem succ_inc {l : List (Int × Int)} (h : Inc l) (a : Nat) : (succ l a).Pairwise (· < ·) := by
  unfold succ
  rw [List.pairwise_map, List.pairwise_filter]
  refine h.imp fun hab h1 h2 => ?_
  simp only [decide_eq_true_eq] at h1 h2
  rcases hab with h3 | ⟨_, h3⟩
  · omega
  · exact h3

theorem nx_first {M : Nat} {l : List (Int × Int)} (hg : GoodG (M : Int) l) {fr : Nat → Int} {a left : Nat} (h : ∃ c, EdgeN l a c ∧ fr c = (left : Int)) : (succ l a).foldl (nx fr left) (-1) = ((firstS l fr a left : Nat) : Int) := by
  rw [nx_find (succ_inc hg.inc' a) fun x hx => (hg.ok _ (succ_mem hx)).2.2.1]
  obtain ⟨c, h1, h2⟩ := h
  unfold firstS
  cases hx : (succ l a).find? fun y => decide (fr y.toNat = (left : Int)) with
  | none =>
    have := List.find?_eq_none.1 hx (c : Int) (mem_succ.2 h1)
    simp [h2] at this
  | some y =>
    have hy : y ∈ succ l a := List.mem_of_find?_eq_some hx
    have g3 : 0 ≤ y := (hg.ok _ (succ_mem hy)).2.2.1
    simp only [Option.getD_some]
    omega

theorem succ_take' {l : List (Int × Int)} {q x y : Nat} (hi : l[q]? = some ((x : Int), (y : Int))) (a : Nat) (f : Int → Int → Int) (z : Int) : (succ (l.take (q + 1)) a).foldl f z = if x = a then f ((succ (l.take q) a).foldl f z) (y : Int) else (succ (l.take q) a).foldl f z := by
  rw [succ_take hi]
  by_cases h : x = a
  · rw [if_pos h, if_pos (by simp only; omega), List.foldl_append]; rfl
  · rw [if_neg h, if_neg (by simp only; omega)]

theorem shortest_cl (M : Nat) (s : Value) (l : List (Int × Int)) (i : Nat) (h : T Blk) (n : Nat) (hf : Fresh h n) (he : Edges h s l) (hiM : i < M) (hM : M ≤ 60) (hlen : l.length ≤ 400) (hg : GoodG (M : Int) l) :
    Gives 46 [.int .i64 (M : Int), s, .int .i64 (i : Int)] h n fun v h' _ => (bestF (dst l i) (succ l i) < 0 ∧ v = .slice none 0 0) ∨ (0 ≤ bestF (dst l i) (succ l i) ∧ ∃ c, c = i :: pathL l (dst l i) i (bestF (dst l i) (succ l i)).toNat ∧ App 1 n h' v c.length (ints (zs c))) := by
  have key : ∃ v h' n', Cl X 46 [.int .i64 (M : Int), s, .int .i64 (i : Int)] h n (.ret v h' n') ∧ Keep n h h' ∧ n ≤ n' ∧ Fresh h' n' ∧ ((bestF (dst l i) (succ l i) < 0 ∧ v = .slice none 0 0) ∨ (0 ≤ bestF (dst l i) (succ l i) ∧ ∃ c, c = i :: pathL l (dst l i) i (bestF (dst l i) (succ l i)).toNat ∧ App 1 n h' v c.length (ints (zs c)))) := by
    have ix : ∀ {b k : Nat}, k < M → idxA X 25 (.slice (some ⟨b, 0, none⟩) M M) (.int .i64 (k : Int)) = some (.pointer (some ⟨b, k, none⟩)) := fun hk => idx1 ty25 ty3 rfl hk
    obtain ⟨v1, h1, n1, hc1, hk1, hn1, hf1, bf, rfl, hbf, hF⟩ := from_cl M s l i h n hf he hiM hM hlen hg
    have hbf1 := hf1.lt hF
    refine Cl.wl (memoX (by decide)) fn46 rfl rfl rfl rfl ?_
    refine WL.seq (WL.reg ?_)
    refine OL.asg ?_
    refine OL.nil (WL.seq (WL.reg ?_))
    refine OL.mv ?_; refine OL.mv ?_; refine OL.mv ?_
    refine OL.cf fn84 hc1 ?_
    refine OL.asg ?_
    refine OL.nil (WL.seq (WL.reg ?_))
    refine OL.mv ?_; refine OL.asg ?_
    refine OL.nil (WL.seq (WL.reg ?_))
    refine OL.mv ?_
    refine OL.bs buildS1 ?_
    refine OL.asg ?_
    refine OL.heap (fun H => Fresh H (n1 + 1) ∧ Keep n1 h1 H ∧ App 1 n1 H (.slice (some ⟨n1, 0, none⟩) 1 1) 1 (ints (zs [i]))) ⟨hf1.upd _, (Keep.refl n1 h1).upd (Nat.le_refl _) _, .inr ⟨n1, 0, 1, _, rfl, .inr rfl, Nat.le_refl _, T.get_upd_same _ _ _, rfl⟩⟩ ?_
    rintro hA ⟨hfA, hkA, hWA⟩
    have hFA : hA.get bf = some (.cells (natsF M (dst l i))) := (hkA bf hbf1).trans hF
    have hkA0 : Keep n h hA := hk1.trans hn1 hkA
    have heA := he.keep hf hkA0
    refine OL.nil (WL.seq (WL.reg ?_))
    refine OL.asg ?_
    refine OL.nil (WL.seq (WL.seq (WL.reg ?_)))
    refine OL.asg ?_
    refine OL.nil (WL.block ?_)
    refine WL.loop (k := l.length) (fun k L h2 n2 => ∃ q : Nat, q ≤ l.length ∧ k = l.length - q ∧ Sub [(11, .int .i64 (q : Int)), (10, .int .i64 ((succ (l.take q) i).foldl (best1 (dst l i)) (-1))), (9, .slice (some ⟨n1, 0, none⟩) 1 1), (8, .int .i64 (i : Int)), (7, .slice (some ⟨bf, 0, none⟩) M M), (2, .int .i64 (i : Int)), (1, s), (0, .int .i64 (M : Int))] L ∧ hA = h2 ∧ n1 + 1 = n2) ?_
      ⟨0, Nat.zero_le _, rfl, (by repeat (first | exact Sub.nil | refine Sub.cons rfl ?_)), rfl, rfl⟩
    rintro k L h2 n2 ⟨q, hq, rfl, hs2, rfl, rfl⟩
    refine WL.keep hs2 ?_
    refine WL.seq (WL.seq (WL.reg ?_))
    refine OL.mv ?_; refine OL.mv ?_
    refine OL.bi he.len ?_
    by_cases c1 : (q : Int) < (l.length : Int)
    · refine OL.bT ?_
      refine OL.nil (WL.condT rfl (WL.skip ?_))
      obtain ⟨⟨e1, e2⟩, hie⟩ : ∃ e, l[q]? = some e := ⟨_, List.getElem?_eq_getElem (by omega)⟩
      obtain ⟨g1, g2, g3, g4, g5⟩ := hg.ok (e1, e2) (List.mem_of_getElem? hie)
      simp only at g1 g2 g3 g4 g5
      obtain ⟨x, rfl⟩ : ∃ x : Nat, e1 = (x : Int) := ⟨e1.toNat, by omega⟩
      obtain ⟨y, rfl⟩ : ∃ y : Nat, e2 = (y : Int) := ⟨e2.toNat, by omega⟩
      have hyM : y < M := by omega
      obtain ⟨b, o, hx1, hx2, hx3, _, _⟩ := heA.at2 hie
      have hfold := succ_take' hie i (best1 (dst l i)) (-1)
      have hb1 : ∀ left : Int, best1 (dst l i) left (y : Int) = if 0 ≤ dst l i y ∧ (left < 0 ∨ dst l i y < left) then dst l i y else left := fun left => by unfold best1; rw [Int.toNat_natCast]
      rw [hb1] at hfold
      generalize (succ (l.take q) i).foldl (best1 (dst l i)) (-1) = left at hfold ⊢
      refine WL.seq (WL.block (WL.seq (WL.reg ?_)))
      refine OL.mv ?_; refine OL.mv ?_; refine OL.mv ?_
      refine OL.ix hx1 ?_
      refine OL.ix idx_pair1 ?_
      refine OL.ld hx3 ?_
      refine OL.ix (ix hyM) ?_
      refine OL.ld (load1 ty3 rfl (cells_of hFA) (natsF_at hyM)) ?_
      refine OL.asg ?_
      refine OL.nil (WL.cut (fun L4 h4 n4 => hA = h4 ∧ n1 + 1 = n4 ∧ Sub [(56, .bool (decide (x = i ∧ 0 ≤ dst l i y ∧ (left < 0 ∨ dst l i y < left)))), (12, .int .i64 (dst l i y)), (11, .int .i64 (q : Int)), (10, .int .i64 left), (9, .slice (some ⟨n1, 0, none⟩) 1 1), (8, .int .i64 (i : Int)), (7, .slice (some ⟨bf, 0, none⟩) M M), (2, .int .i64 (i : Int)), (1, s), (0, .int .i64 (M : Int))] L4) (WL.reg ?_) ?_)
      · have fin : ∀ {b : Bool} {L' : LT}, decide (x = i ∧ 0 ≤ dst l i y ∧ (left < 0 ∨ dst l i y < left)) = b → Sub [(56, .bool b), (12, .int .i64 (dst l i y)), (11, .int .i64 (q : Int)), (10, .int .i64 left), (9, .slice (some ⟨n1, 0, none⟩) 1 1), (8, .int .i64 (i : Int)), (7, .slice (some ⟨bf, 0, none⟩) M M), (2, .int .i64 (i : Int)), (1, s), (0, .int .i64 (M : Int))] L' → (Ex.normal = .normal ∧ hA = hA ∧ n1 + 1 = n1 + 1 ∧ Sub [(56, .bool (decide (x = i ∧ 0 ≤ dst l i y ∧ (left < 0 ∨ dst l i y < left)))), (12, .int .i64 (dst l i y)), (11, .int .i64 (q : Int)), (10, .int .i64 left), (9, .slice (some ⟨n1, 0, none⟩) 1 1), (8, .int .i64 (i : Int)), (7, .slice (some ⟨bf, 0, none⟩) M M), (2, .int .i64 (i : Int)), (1, s), (0, .int .i64 (M : Int))] L') := fun e hh => ⟨rfl, rfl, rfl, by rw [e]; exact hh⟩
        refine OL.mv ?_; refine OL.mv ?_
        refine OL.ix hx1 ?_
        refine OL.ix idx_pair0 ?_
        refine OL.ld hx2 ?_
        refine OL.mv ?_
        by_cases d0 : x = i
        · have d0' : (x : Int) = (i : Int) := by omega
          by_cases d1 : 0 ≤ dst l i y
          · by_cases d2 : left < 0
            · refine OL.bT ?_; refine OL.mv ?_; refine OL.mv ?_; refine OL.bT ?_; refine OL.pT ?_; refine OL.mv ?_; refine OL.mv ?_; refine OL.bT ?_; refine OL.mv ?_; refine OL.ps ?_; refine OL.ps ?_; refine OL.ps ?_; refine OL.pT ?_; refine OL.pT ?_
              exact OL.nil (fin (decide_eq_true ⟨d0, d1, .inl d2⟩) (by repeat (first | exact Sub.nil | refine Sub.cons rfl ?_)))
            · by_cases d3 : dst l i y < left
              · refine OL.bT ?_; refine OL.mv ?_; refine OL.mv ?_; refine OL.bT ?_; refine OL.pT ?_; refine OL.mv ?_; refine OL.mv ?_; refine OL.bF ?_; refine OL.mv ?_; refine OL.mv ?_; refine OL.mv ?_; refine OL.bT ?_; refine OL.pF ?_; refine OL.pT ?_
                exact OL.nil (fin (decide_eq_true ⟨d0, d1, .inr d3⟩) (by repeat (first | exact Sub.nil | refine Sub.cons rfl ?_)))
              · refine OL.bT ?_; refine OL.mv ?_; refine OL.mv ?_; refine OL.bT ?_; refine OL.pT ?_; refine OL.mv ?_; refine OL.mv ?_; refine OL.bF ?_; refine OL.mv ?_; refine OL.mv ?_; refine OL.mv ?_; refine OL.bF ?_; refine OL.pF ?_; refine OL.pT ?_
                exact OL.nil (fin (decide_eq_false (by omega)) (by repeat (first | exact Sub.nil | refine Sub.cons rfl ?_)))
          · refine OL.bT ?_; refine OL.mv ?_; refine OL.mv ?_; refine OL.bF ?_; refine OL.pT ?_; refine OL.mv ?_; refine OL.ps ?_; refine OL.ps ?_; refine OL.ps ?_; refine OL.ps ?_; refine OL.ps ?_; refine OL.ps ?_; refine OL.ps ?_; refine OL.pF ?_
            exact OL.nil (fin (decide_eq_false (by omega)) (by repeat (first | exact Sub.nil | refine Sub.cons rfl ?_)))
        · have d0' : ¬ (x : Int) = (i : Int) := by omega
          refine OL.bF ?_; refine OL.mv ?_; refine OL.ps ?_; refine OL.ps ?_; refine OL.pF ?_; refine OL.mv ?_; refine OL.ps ?_; refine OL.ps ?_; refine OL.ps ?_; refine OL.ps ?_; refine OL.ps ?_; refine OL.ps ?_; refine OL.ps ?_; refine OL.pF ?_
          exact OL.nil (fin (decide_eq_false (by omega)) (by repeat (first | exact Sub.nil | refine Sub.cons rfl ?_)))
      · rintro L4 h4 n4 ⟨rfl, rfl, hs4⟩
        refine WL.keep hs4 ?_
        by_cases d : x = i ∧ 0 ≤ dst l i y ∧ (left < 0 ∨ dst l i y < left)
        · rw [decide_eq_true d]
          rw [if_pos d.1, if_pos d.2] at hfold
          refine WL.condT rfl (WL.reg ?_)
          refine OL.mv ?_; refine OL.asg ?_
          refine OL.nil (WL.reg ?_)
          refine OL.mv ?_
          refine OL.ad1 ?_
          refine OL.asg ?_
          exact OL.nil ⟨l.length - (q + 1), by omega, q + 1, by omega, rfl, by rw [hfold]; exact (by repeat (first | exact Sub.nil | refine Sub.cons rfl ?_)), rfl, rfl⟩
        · rw [decide_eq_false d]
          have hfold' : (succ (l.take (q + 1)) i).foldl (best1 (dst l i)) (-1) = left := by
            rw [hfold]
            by_cases d0 : x = i
            · rw [if_pos d0, if_neg (fun e => d ⟨d0, e⟩)]
            · rw [if_neg d0]
          refine WL.condF rfl (WL.skip (WL.reg ?_))
          refine OL.mv ?_
          refine OL.ad1 ?_
          refine OL.asg ?_
          exact OL.nil ⟨l.length - (q + 1), by omega, q + 1, by omega, rfl, by rw [hfold']; exact (by repeat (first | exact Sub.nil | refine Sub.cons rfl ?_)), rfl, rfl⟩
    · refine OL.bF ?_
      refine OL.nil (WL.condF rfl (WL.exit ?_))
      have hql : q = l.length := by omega
      subst hql
      rw [List.take_length]
      have hbv := best_inv (dst l i) (succ l i) (-1) (by omega)
      have hbe : (succ l i).foldl (best1 (dst l i)) (-1) = bestF (dst l i) (succ l i) := rfl
      rw [hbe] at hbv ⊢
      refine WL.seq (WL.seq (WL.reg ?_))
      by_cases d : bestF (dst l i) (succ l i) < 0
      · refine OL.mv ?_; refine OL.bT ?_
        refine OL.nil (WL.condT rfl (WL.seq (WL.reg ?_)))
        refine OL.asg ?_
        exact OL.nil (WL.ret ⟨fun id e => (by cases e), _, rfl, hkA0, by omega, hfA, .inl ⟨d, rfl⟩⟩)
      · refine OL.mv ?_; refine OL.bF ?_
        refine OL.nil (WL.condF rfl (WL.skip ?_))
        obtain ⟨best, hbest2⟩ : ∃ best : Nat, bestF (dst l i) (succ l i) = (best : Int) := ⟨(bestF (dst l i) (succ l i)).toNat, by omega⟩
        have hst : ∃ c, EdgeN l i c ∧ dst l i c = (best : Int) := by
          rcases hbv.2.1 (by omega) with q1 | ⟨k, hk, q1⟩
          · omega
          · obtain ⟨g1, g2, g3, g4, g5⟩ := hg.ok _ (succ_mem hk)
            simp only at g1 g2 g3 g4 g5
            refine ⟨k.toNat, ?_, q1.trans hbest2⟩
            show ((i : Int), ((k.toNat : Nat) : Int)) ∈ l
            rw [show ((k.toNat : Nat) : Int) = k by omega]; exact succ_mem hk
        have hbM : best < M := by
          obtain ⟨c, _, q2⟩ := hst
          have := dst_lt hg hiM (k := c)
          omega
        rw [hbest2]
        refine WL.seq (WL.seq (WL.reg ?_))
        refine OL.mv ?_; refine OL.asg ?_
        refine OL.nil (WL.block ?_)
        refine WL.loop (k := best) (fun k L h5 n5 => ∃ (c at_ : Nat) (out : List Nat) (w : Value), k = c ∧ at_ < M ∧ (c ≠ 0 → ∃ y, EdgeN l at_ y ∧ dst l i y = (c : Int)) ∧ i :: pathL l (dst l i) i best = out ++ pathL l (dst l i) at_ c ∧ Sub [(13, .int .i64 (c : Int)), (9, w), (8, .int .i64 (at_ : Int)), (7, .slice (some ⟨bf, 0, none⟩) M M), (1, s), (0, .int .i64 (M : Int))] L ∧ n1 + 1 ≤ n5 ∧ Fresh h5 n5 ∧
          Keep n1 h1 h5 ∧ App 1 n1 h5 w out.length (ints (zs out)) ∧ out.length + c = best + 1) ?_
          ⟨best, i, [i], _, rfl, hiM, fun _ => hst, rfl, (by repeat (first | exact Sub.nil | refine Sub.cons rfl ?_)), by omega, hfA, hkA, hWA, by simp; omega⟩
        rintro c L h5 n5 ⟨_, at_, out, w, rfl, hat, hstep, hpath, hs5, hn5, hf5, hk5, hW5, hcnt⟩
        have hF5 : h5.get bf = some (.cells (natsF M (dst l i))) := (hk5 bf hbf1).trans hF
        have he5 := he.keep hf (hk1.trans hn1 hk5)
        refine WL.keep hs5 ?_
        refine WL.seq (WL.seq (WL.reg ?_))
        by_cases c5 : (0 : Int) < (c : Int)
        · refine OL.mv ?_; refine OL.bT ?_
          refine OL.nil (WL.condT rfl (WL.skip ?_))
          have hnf := nx_first hg (hstep (by omega))
          refine WL.seq (WL.block (WL.seq (WL.reg ?_)))
          refine OL.asg ?_
          refine OL.nil (WL.cut (fun L6 h6 n6 => h5 = h6 ∧ n5 = n6 ∧ Sub [(14, .int .i64 ((firstS l (dst l i) at_ c : Nat) : Int)), (13, .int .i64 (c : Int)), (9, w), (8, .int .i64 (at_ : Int)), (7, .slice (some ⟨bf, 0, none⟩) M M), (1, s), (0, .int .i64 (M : Int))] L6) (WL.seq (WL.reg ?_)) ?_)
          · refine OL.asg ?_
            refine OL.nil (WL.block ?_)
            refine WL.loop (k := l.length) (fun k L h6 n6 => ∃ q : Nat, q ≤ l.length ∧ k = l.length - q ∧ Sub [(15, .int .i64 (q : Int)), (14, .int .i64 ((succ (l.take q) at_).foldl (nx (dst l i) c) (-1))), (13, .int .i64 (c : Int)), (9, w), (8, .int .i64 (at_ : Int)), (7, .slice (some ⟨bf, 0, none⟩) M M), (1, s), (0, .int .i64 (M : Int))] L ∧ h5 = h6 ∧ n5 = n6) ?_
              ⟨0, Nat.zero_le _, rfl, (by repeat (first | exact Sub.nil | refine Sub.cons rfl ?_)), rfl, rfl⟩
            rintro k L h6 n6 ⟨q, hq, rfl, hs6, rfl, rfl⟩
            refine WL.keep hs6 ?_
            refine WL.seq (WL.seq (WL.reg ?_))
            refine OL.mv ?_; refine OL.mv ?_
            refine OL.bi he.len ?_
            by_cases c6 : (q : Int) < (l.length : Int)
            · refine OL.bT ?_
              refine OL.nil (WL.condT rfl (WL.skip ?_))
              obtain ⟨⟨e1, e2⟩, hie⟩ : ∃ e, l[q]? = some e := ⟨_, List.getElem?_eq_getElem (by omega)⟩
              obtain ⟨g1, g2, g3, g4, g5⟩ := hg.ok (e1, e2) (List.mem_of_getElem? hie)
              simp only at g1 g2 g3 g4 g5
              obtain ⟨x, rfl⟩ : ∃ x : Nat, e1 = (x : Int) := ⟨e1.toNat, by omega⟩
              obtain ⟨y, rfl⟩ : ∃ y : Nat, e2 = (y : Int) := ⟨e2.toNat, by omega⟩
              have hyM : y < M := by omega
              obtain ⟨b, o, hx1, hx2, hx3, _, _⟩ := he5.at2 hie
              have hfold := succ_take' hie at_ (nx (dst l i) c) (-1)
              have hb1 : ∀ z : Int, nx (dst l i) c z (y : Int) = if dst l i y = (c : Int) ∧ (z < 0 ∨ (y : Int) < z) then (y : Int) else z := fun z => by unfold nx; rw [Int.toNat_natCast]
              rw [hb1] at hfold
              generalize (succ (l.take q) at_).foldl (nx (dst l i) c) (-1) = z at hfold ⊢
              refine WL.seq (WL.block (WL.cut (fun L7 h7 n7 => h5 = h7 ∧ n5 = n7 ∧ Sub [(102, .bool (decide (x = at_ ∧ dst l i y = (c : Int) ∧ (z < 0 ∨ (y : Int) < z)))), (15, .int .i64 (q : Int)), (14, .int .i64 z), (13, .int .i64 (c : Int)), (9, w), (8, .int .i64 (at_ : Int)), (7, .slice (some ⟨bf, 0, none⟩) M M), (1, s), (0, .int .i64 (M : Int))] L7) (WL.reg ?_) ?_))
              · have fin : ∀ {b : Bool} {L' : LT}, decide (x = at_ ∧ dst l i y = (c : Int) ∧ (z < 0 ∨ (y : Int) < z)) = b → Sub [(102, .bool b), (15, .int .i64 (q : Int)), (14, .int .i64 z), (13, .int .i64 (c : Int)), (9, w), (8, .int .i64 (at_ : Int)), (7, .slice (some ⟨bf, 0, none⟩) M M), (1, s), (0, .int .i64 (M : Int))] L' → (Ex.normal = .normal ∧ h5 = h5 ∧ n5 = n5 ∧ Sub [(102, .bool (decide (x = at_ ∧ dst l i y = (c : Int) ∧ (z < 0 ∨ (y : Int) < z)))), (15, .int .i64 (q : Int)), (14, .int .i64 z), (13, .int .i64 (c : Int)), (9, w), (8, .int .i64 (at_ : Int)), (7, .slice (some ⟨bf, 0, none⟩) M M), (1, s), (0, .int .i64 (M : Int))] L') := fun e hh => ⟨rfl, rfl, rfl, by rw [e]; exact hh⟩
                refine OL.mv ?_; refine OL.mv ?_
                refine OL.ix hx1 ?_
                refine OL.ix idx_pair0 ?_
                refine OL.ld hx2 ?_
                refine OL.mv ?_
                by_cases d0 : x = at_
                · have d0' : (x : Int) = (at_ : Int) := by omega
                  refine OL.bT ?_; refine OL.mv ?_; refine OL.mv ?_; refine OL.mv ?_; refine OL.mv ?_
                  refine OL.ix hx1 ?_
                  refine OL.ix idx_pair1 ?_
                  refine OL.ld hx3 ?_
                  refine OL.ix (ix hyM) ?_
                  refine OL.ld (load1 ty3 rfl (cells_of hF5) (natsF_at hyM)) ?_
                  refine OL.mv ?_
                  by_cases d1 : dst l i y = (c : Int)
                  · by_cases d2 : z < 0
                    · refine OL.bT ?_; refine OL.pT ?_; refine OL.mv ?_; refine OL.mv ?_; refine OL.bT ?_; refine OL.mv ?_; refine OL.ps ?_; refine OL.ps ?_; refine OL.ps ?_; refine OL.ps ?_; refine OL.ps ?_; refine OL.ps ?_; refine OL.ps ?_; refine OL.pT ?_; refine OL.pT ?_
                      exact OL.nil (fin (decide_eq_true ⟨d0, d1, .inl d2⟩) (by repeat (first | exact Sub.nil | refine Sub.cons rfl ?_)))
                    · refine OL.bT ?_; refine OL.pT ?_; refine OL.mv ?_; refine OL.mv ?_; refine OL.bF ?_; refine OL.mv ?_; refine OL.mv ?_; refine OL.mv ?_
                      refine OL.ix hx1 ?_
                      refine OL.ix idx_pair1 ?_
                      refine OL.ld hx3 ?_
                      by_cases d3 : (y : Int) < z
                      · refine OL.mv ?_; refine OL.bT ?_; refine OL.pF ?_; refine OL.pT ?_
                        exact OL.nil (fin (decide_eq_true ⟨d0, d1, .inr d3⟩) (by repeat (first | exact Sub.nil | refine Sub.cons rfl ?_)))
                      · refine OL.mv ?_; refine OL.bF ?_; refine OL.pF ?_; refine OL.pT ?_
                        exact OL.nil (fin (decide_eq_false (by omega)) (by repeat (first | exact Sub.nil | refine Sub.cons rfl ?_)))
                  · refine OL.bF ?_; refine OL.pT ?_; refine OL.mv ?_; refine OL.ps ?_; refine OL.ps ?_; refine OL.ps ?_; refine OL.ps ?_; refine OL.ps ?_; refine OL.ps ?_; refine OL.ps ?_; refine OL.ps ?_; refine OL.ps ?_; refine OL.ps ?_; refine OL.ps ?_; refine OL.pF ?_
                    exact OL.nil (fin (decide_eq_false (by omega)) (by repeat (first | exact Sub.nil | refine Sub.cons rfl ?_)))
                · have d0' : ¬ (x : Int) = (at_ : Int) := by omega
                  refine OL.bF ?_; refine OL.mv ?_; refine OL.ps ?_; refine OL.ps ?_; refine OL.ps ?_; refine OL.ps ?_; refine OL.ps ?_; refine OL.ps ?_; refine OL.ps ?_; refine OL.ps ?_; refine OL.ps ?_; refine OL.ps ?_; refine OL.pF ?_; refine OL.mv ?_; refine OL.ps ?_; refine OL.ps ?_; refine OL.ps ?_; refine OL.ps ?_; refine OL.ps ?_; refine OL.ps ?_; refine OL.ps ?_; refine OL.ps ?_; refine OL.ps ?_; refine OL.ps ?_; refine OL.ps ?_; refine OL.pF ?_
                  exact OL.nil (fin (decide_eq_false (by omega)) (by repeat (first | exact Sub.nil | refine Sub.cons rfl ?_)))
              · rintro L7 h7 n7 ⟨rfl, rfl, hs7⟩
                refine WL.keep hs7 ?_
                by_cases d : x = at_ ∧ dst l i y = (c : Int) ∧ (z < 0 ∨ (y : Int) < z)
                · rw [decide_eq_true d]
                  rw [if_pos d.1, if_pos d.2] at hfold
                  refine WL.condT rfl (WL.reg ?_)
                  refine OL.mv ?_; refine OL.mv ?_
                  refine OL.ix hx1 ?_
                  refine OL.ix idx_pair1 ?_
                  refine OL.ld hx3 ?_
                  refine OL.asg ?_
                  refine OL.nil (WL.reg ?_)
                  refine OL.mv ?_
                  refine OL.ad1 ?_
                  refine OL.asg ?_
                  exact OL.nil ⟨l.length - (q + 1), by omega, q + 1, by omega, rfl, by rw [hfold]; exact (by repeat (first | exact Sub.nil | refine Sub.cons rfl ?_)), rfl, rfl⟩
                · rw [decide_eq_false d]
                  have hfold' : (succ (l.take (q + 1)) at_).foldl (nx (dst l i) c) (-1) = z := by
                    rw [hfold]
                    by_cases d0 : x = at_
                    · rw [if_pos d0, if_neg (fun e => d ⟨d0, e⟩)]
                    · rw [if_neg d0]
                  refine WL.condF rfl (WL.skip (WL.reg ?_))
                  refine OL.mv ?_
                  refine OL.ad1 ?_
                  refine OL.asg ?_
                  exact OL.nil ⟨l.length - (q + 1), by omega, q + 1, by omega, rfl, by rw [hfold']; exact (by repeat (first | exact Sub.nil | refine Sub.cons rfl ?_)), rfl, rfl⟩
            · refine OL.bF ?_
              have hql : q = l.length := by omega
              subst hql
              rw [List.take_length] at *
              exact OL.nil (WL.condF rfl (WL.exit ⟨rfl, rfl, rfl, by rw [← hnf]; exact (by repeat (first | exact Sub.nil | refine Sub.cons rfl ?_))⟩))
          · rintro L6 h6 n6 ⟨rfl, rfl, hs6⟩
            obtain ⟨j, q1, q2, _⟩ := firstS_at hg (hstep (by omega))
            have hatM : firstS l (dst l i) at_ c < M := ((show EdgeN l at_ (firstS l (dst l i) at_ c) from succ_mem (List.mem_of_getElem? q1)).lt hg).2.1
            have hW7 : App tInt.size n1 (h5.upd (some (.cells [.int .i64 ((firstS l (dst l i) at_ c : Nat) : Int)])) n5) w out.length (ints (zs out)) := hW5.kp hf5 ((Keep.refl n5 h5).upd (Nat.le_refl n5) _)
            obtain ⟨w', hG, happ, hG1, hG2, hG3, hG4⟩ := append_app el25 hW7 (hf5.upd _) (x := .slice (some ⟨n5, 0, none⟩) 1 1) (xl := 1) (new := [.int .i64 ((firstS l (dst l i) at_ c : Nat) : Int)]) ⟨_, _, rfl⟩ (by simp only [rowA, cells_of (T.get_upd_same _ _ _)]; rfl) (by omega) (by omega) rfl (by omega)
            refine WL.keep hs6 (WL.seq (WL.reg ?_))
            refine OL.mv ?_; refine OL.mv ?_
            refine OL.bs buildS1 ?_
            refine OL.bi (appendB happ) ?_
            refine OL.asg ?_
            refine OL.nil (WL.reg ?_)
            refine OL.mv ?_; refine OL.asg ?_
            refine OL.nil (WL.reg ?_)
            refine OL.mv ?_
            obtain ⟨c', rfl⟩ : ∃ c', c = c' + 1 := ⟨c - 1, by omega⟩
            refine OL.sb ?_
            refine OL.asg ?_
            refine OL.nil ⟨c', by omega, c', firstS l (dst l i) at_ (c' + 1), out ++ [firstS l (dst l i) at_ (c' + 1)], w', rfl, hatM, fun hc => ?_, ?_, ?_, by omega, hG1, fun q hq => ?_, ?_, ?_⟩
            · obtain ⟨c2, rfl⟩ : ∃ c2, c' = c2 + 1 := ⟨c' - 1, by omega⟩
              obtain ⟨y, y1, y2⟩ := dst_step q2
              exact ⟨y, y1, y2⟩
            · rw [hpath]
              simp [pathL]
            · have e3 : (((c' + 1 : Nat) : Int) - 1) = (c' : Int) := by omega
              rw [← e3]
              exact (by repeat (first | exact Sub.nil | refine Sub.cons rfl ?_))
            · rw [hG2 q (by omega) (fun e => by have := (hW5.blk e).1; omega), T.get_upd_ne _ _ (by omega)]
              exact hk5 q hq
            · have e2 : ints (zs out) ++ [Value.int .i64 ((firstS l (dst l i) at_ (c' + 1) : Nat) : Int)] = ints (zs (out ++ [firstS l (dst l i) at_ (c' + 1)])) := by
                rw [zs_add]; simp [ints]
              have e1 : out.length + 1 = (out ++ [firstS l (dst l i) at_ (c' + 1)]).length := by simp
              rw [← e1, ← e2]
              exact hG4.low (by omega)
            · simp; omega
        · refine OL.mv ?_; refine OL.bF ?_
          refine OL.nil (WL.condF rfl (WL.exit ?_))
          have hc0 : c = 0 := by omega
          subst hc0
          refine WL.seq (WL.reg ?_)
          refine OL.mv ?_; refine OL.asg ?_
          refine OL.nil (WL.ret ⟨fun id e => (by cases e), _, rfl, hk1.trans hn1 hk5, by omega, hf5, .inr ⟨by omega, out, ?_, hW5.low (by omega)⟩⟩)
          rw [Int.toNat_natCast, hpath]
          simp [pathL]
  exact key

end Go.Sx

/- SvD: slices.Equal of numbers; the law OrderGraphs. -/
namespace Go.Sx
open Go.Proofs
set_option maxRecDepth 100000
set_option maxHeartbeats 4000000

theorem fn17 : X.fn.get 17 = some Tryz.f17 := by kernel_rfl
theorem fn3 : X.fn.get 3 = some Tryz.f3 := by kernel_rfl

theorem RdI.bel {n m : Nat} {h : T Blk} {v : Value} {xs : List Int} (r : RdI n h v xs) {i : Nat} {y : Int} (hy : xs[i]? = some y) (hm : n ≤ m) : BelV m v := by
  obtain ⟨b, o, hb, hx1, _⟩ := r.2 i y hy
  obtain ⟨⟨eb, cap, rfl⟩, _⟩ := r
  cases eb with
  | none => trivial
  | some a =>
    obtain ⟨b', o', s'⟩ := a
    cases s' with
    | some s' => simp [idxA, ty25, tSl] at hx1
    | none =>
      have hlt := (List.getElem?_eq_some_iff.1 hy).1
      rw [idx_slice ty25 ty3 hlt] at hx1
      simp only [Option.some.injEq, Value.pointer.injEq, Addr.mk.injEq] at hx1
      show b' < m
      omega

theorem equalI_cl (C D : List Int) (v w : Value) (h : T Blk) (n : Nat) (hf : Fresh h n) (hv : RdI n h v C) (hw : RdI n h w D) (hlen : C.length ≤ 100000) :
    Gives 17 [v, w] h n fun r _ _ => r = .bool (decide (C = D)) := by
  have key : ∃ r h' n', Cl X 17 [v, w] h n (.ret r h' n') ∧ Keep n h h' ∧ n ≤ n' ∧ Fresh h' n' ∧ r = .bool (decide (C = D)) := by
    refine Cl.wl (memoX (by decide)) fn17 rfl rfl rfl rfl ?_
    refine WL.seq (WL.reg ?_)
    refine OL.asg ?_
    refine OL.nil (WL.seq (WL.seq (WL.reg ?_)))
    refine OL.mv ?_
    refine OL.bi hv.ln ?_
    refine OL.mv ?_
    refine OL.bi hw.ln ?_
    by_cases h0 : (C.length : Int) = (D.length : Int)
    · refine OL.nF ?_
      refine OL.nil (WL.condF rfl (WL.skip ?_))
      refine WL.seq (WL.seq (WL.reg ?_))
      refine OL.mv ?_
      refine OL.bi hv.ln ?_
      refine OL.mv ?_
      refine OL.nil (WL.block ?_)
      refine WL.loop (k := C.length) (fun k L h' n' => ∃ i : Nat, i ≤ C.length ∧ k = C.length - i ∧ Sub [(13, .int .i64 (i : Int)), (12, .int .i64 (C.length : Int)), (1, w), (0, v)] L ∧ h = h' ∧ n = n' ∧ ∀ j, j < i → C[j]? = D[j]?) ?_
        ⟨0, Nat.zero_le _, rfl, (by repeat (first | exact Sub.nil | refine Sub.cons rfl ?_)), rfl, rfl, fun j hj => by omega⟩
      rintro k L h' n' ⟨i, hi, rfl, hs, rfl, rfl, hsame⟩
      refine WL.keep hs ?_
      refine WL.seq (WL.reg ?_)
      by_cases c1 : (i : Int) < (C.length : Int)
      · refine OL.bT ?_
        refine OL.nil (WL.seq (WL.condT rfl (WL.skip ?_)))
        obtain ⟨x, hx⟩ : ∃ x, C[i]? = some x := ⟨_, List.getElem?_eq_getElem (by omega)⟩
        obtain ⟨y, hy⟩ : ∃ y, D[i]? = some y := ⟨_, List.getElem?_eq_getElem (by omega)⟩
        obtain ⟨b1, o1, hb1, hx1, hx2⟩ := hv.2 i x hx
        obtain ⟨b2, o2, hb2, hy1, hy2⟩ := hw.2 i y hy
        have hbv := hv.bel hx (Nat.le_refl n)
        have hbw := hw.bel hy (Nat.le_refl n)
        refine WL.seq (WL.block (WL.seq (WL.reg ?_)))
        refine OL.mv ?_; refine OL.asg ?_
        refine OL.nil (WL.seq (WL.regD (by kernel_rfl) (by kernel_rfl) ?_))
        refine OD.mv ?_; refine OD.mv ?_
        refine OD.ix hx1 ?_
        refine OD.ld (hx2 _ (Keep.refl _ _)) ?_
        refine OD.mv ?_; refine OD.mv ?_
        refine OD.ix hy1 ?_
        refine OD.ld (hy2 _ (Keep.refl _ _)) ?_
        by_cases hxy : x = y
        · refine OD.nF ?_
          refine OD.nil (WL.condF rfl (WL.skip (WL.reg ?_)))
          refine OL.ad1 ?_
          refine OL.mv ?_
          refine OL.nil ⟨C.length - (i + 1), by omega, i + 1, by omega, rfl, (by repeat (first | exact Sub.nil | refine Sub.cons rfl ?_)), rfl, rfl, fun j hj => ?_⟩
          rcases Nat.lt_or_ge j i with h4 | h4
          · exact hsame j h4
          · rw [show j = i by omega, hx, hy, hxy]
        · refine OD.nT ?_
          refine OD.nil (WL.condT rfl (WL.seq (WL.reg ?_)))
          refine OL.asg ?_
          refine OL.nil (WL.ret ⟨fun id e => (by cases e), _, rfl, .refl _ _, Nat.le_refl _, hf, ?_⟩)
          rw [decide_eq_false (fun e => hxy (by rw [e, hy] at hx; exact (Option.some.inj hx).symm))]
          rfl
      · refine OL.bF ?_
        refine OL.nil (WL.seq (WL.condF rfl (WL.exit ?_)))
        refine WL.seq (WL.reg ?_)
        refine OL.asg ?_
        refine OL.nil (WL.ret ⟨fun id e => (by cases e), _, rfl, .refl _ _, Nat.le_refl _, hf, ?_⟩)
        have : C = D := by
          apply List.ext_getElem?
          intro j
          rcases Nat.lt_or_ge j i with h4 | h4
          · exact hsame j h4
          · rw [List.getElem?_eq_none_iff.2 (by omega), List.getElem?_eq_none_iff.2 (by omega)]
        rw [decide_eq_true this]
        rfl
    · refine OL.nT ?_
      refine OL.nil (WL.condT rfl (WL.seq (WL.reg ?_)))
      refine OL.asg ?_
      refine OL.nil (WL.ret ⟨fun id e => (by cases e), _, rfl, .refl _ _, Nat.le_refl _, hf, ?_⟩)
      rw [decide_eq_false (fun e => h0 (by rw [e]))]
      rfl
  exact key

theorem rcycle_cl (M : Nat) (s : Value) (l : List (Int × Int)) (h : T Blk) (n : Nat) (hf : Fresh h n) (he : Edges h s l) (hbs : ∀ k, n ≤ k → BelV k s) (hM : M ≤ 60) (hlen : l.length ≤ 400) (hg : GoodG (M : Int) l) :
    Gives 14 [.int .i64 (M : Int), s] h n fun v h' _ => CycleV M l n h' v := by
  have key : ∃ v h' n', Cl X 14 [.int .i64 (M : Int), s] h n (.ret v h' n') ∧ Keep n h h' ∧ n ≤ n' ∧ Fresh h' n' ∧ CycleV M l n h' v := by
    obtain ⟨v1, h1, n1, hc1, hk1, hn1, hf1, c', rfl, hcc⟩ := check2_cl (M : Int) s l h n hf he hbs hlen
    obtain rfl := hcc.uniq (.inr ⟨by omega, by omega, .inl ⟨rfl, hg⟩⟩ : CheckE (M : Int) l 0)
    refine Cl.wl (memoX (by decide)) fn14 rfl rfl rfl rfl ?_
    refine WL.seq (WL.reg ?_)
    refine OL.asg ?_; refine OL.asg ?_
    refine OL.nil (WL.seq (WL.seq (WL.reg ?_)))
    refine OL.mv ?_; refine OL.mv ?_
    refine OL.cf fn16 hc1 ?_
    refine OL.asg ?_
    refine OL.nil (WL.seq (WL.reg ?_))
    refine OL.mv ?_; refine OL.nF ?_
    refine OL.nil (WL.condF rfl (WL.skip ?_))
    refine WL.seq (WL.seq (WL.reg ?_))
    refine OL.asg ?_
    refine OL.nil (WL.block ?_)
    refine WL.loop (k := M) (fun k L h2 n2 => ∃ i : Nat, i ≤ M ∧ k = M - i ∧ Sub [(7, .int .i64 (i : Int)), (1, s), (0, .int .i64 (M : Int))] L ∧ Keep n h h2 ∧ n ≤ n2 ∧ Fresh h2 n2 ∧ ∀ j, j < i → bestF (dst l j) (succ l j) < 0) ?_
      ⟨0, Nat.zero_le _, rfl, (by repeat (first | exact Sub.nil | refine Sub.cons rfl ?_)), hk1, hn1, hf1, fun j hj => by omega⟩
    rintro k L h2 n2 ⟨i, hi, rfl, hs2, hk2, hn2, hf2, hno⟩
    refine WL.keep hs2 ?_
    refine WL.seq (WL.seq (WL.reg ?_))
    by_cases c1 : (i : Int) < (M : Int)
    · refine OL.mv ?_; refine OL.mv ?_; refine OL.bT ?_
      refine OL.nil (WL.condT rfl (WL.skip ?_))
      have hiM : i < M := by omega
      obtain ⟨v3, h3, n3, hc3, hk3, hn3, hf3, hr3⟩ := shortest_cl M s l i h2 n2 hf2 (he.keep hf hk2) hiM hM hlen hg
      refine WL.seq (WL.block (WL.seq (WL.reg ?_)))
      refine OL.mv ?_; refine OL.mv ?_; refine OL.mv ?_
      refine OL.cf fn46 hc3 ?_
      refine OL.asg ?_
      refine OL.nil (WL.seq (WL.reg ?_))
      refine OL.mv ?_
      rcases hr3 with ⟨d, rfl⟩ | ⟨d, c, hc, hW⟩
      · refine OL.bi (lenA_slice ty25) ?_
        refine OL.bF ?_
        refine OL.nil (WL.condF rfl (WL.skip (WL.reg ?_)))
        refine OL.mv ?_
        refine OL.ad1 ?_
        refine OL.asg ?_
        refine OL.nil ⟨M - (i + 1), by omega, i + 1, by omega, rfl, (by repeat (first | exact Sub.nil | refine Sub.cons rfl ?_)), hk2.trans hn2 hk3, by omega, hf3, fun j hj => ?_⟩
        rcases Nat.lt_or_ge j i with h4 | h4
        · exact hno j h4
        · rw [show j = i by omega]; exact d
      · have hcl : 0 < c.length := by rw [hc]; simp
        refine OL.bi (hW.ln ty25) ?_
        refine OL.bT ?_
        refine OL.nil (WL.condT rfl (WL.seq (WL.reg ?_)))
        refine OL.mv ?_; refine OL.asg ?_; refine OL.asg ?_
        exact OL.nil (WL.ret ⟨fun id e => (by cases e), _, rfl, hk2.trans hn2 hk3, by omega, hf3, v3, c, rfl, ⟨.inr ⟨i, hiM, hno, d, hc⟩⟩, hW.low hn2⟩)
    · refine OL.mv ?_; refine OL.mv ?_; refine OL.bF ?_
      refine OL.nil (WL.condF rfl (WL.exit ?_))
      refine WL.seq (WL.reg ?_)
      refine OL.asg ?_; refine OL.asg ?_
      exact OL.nil (WL.ret ⟨fun id e => (by cases e), _, rfl, hk2, hn2, hf2, .slice none 0 0, [], rfl, ⟨.inl ⟨rfl, fun j hj => hno j (by omega)⟩⟩, .inl ⟨rfl, rfl, rfl⟩⟩)
  exact key

theorem sort2_cl (M : Nat) (s : Value) (l : List (Int × Int)) (h : T Blk) (n : Nat) (hf : Fresh h n) (he : Edges h s l) (hbs : ∀ k, n ≤ k → BelV k s) (hM : M ≤ 400) (hlen : l.length ≤ 400) (hg : GoodG (M : Int) l) :
    Gives 11 [.int .i64 (M : Int), s] h n fun v h' _ => (∃ w out, v = .tuple #[w, .int .i64 0] ∧ OutAt n h' w out ∧ Topo M l out ∧ out.length = M) ∨ (v = .tuple #[.slice none 0 0, .int .i64 151] ∧ Stuck M l) := by
  have key : ∃ v h' n', Cl X 11 [.int .i64 (M : Int), s] h n (.ret v h' n') ∧ Keep n h h' ∧ n ≤ n' ∧ Fresh h' n' ∧ ((∃ w out, v = .tuple #[w, .int .i64 0] ∧ OutAt n h' w out ∧ Topo M l out ∧ out.length = M) ∨ (v = .tuple #[.slice none 0 0, .int .i64 151] ∧ Stuck M l)) := by
    obtain ⟨v1, h1, n1, hc1, hk1, hn1, hf1, p, rfl, hgr⟩ := graphOf_cl M s l h n hf he hbs hlen hM hg
    obtain ⟨v2, h2, n2, hc2, hk2, hn2, hf2, w, ok, rfl, hok1, hok2⟩ := sorted_cl M s l h1 n1 n p hf1 hgr (he.keep hf hk1) hM hlen hg
    refine Cl.wl (memoX (by decide)) fn11 rfl rfl rfl rfl ?_
    refine WL.seq (WL.reg ?_)
    refine OL.asg ?_; refine OL.asg ?_
    refine OL.nil (WL.seq (WL.reg ?_))
    refine OL.mv ?_; refine OL.mv ?_
    refine OL.cf fn40 hc1 ?_
    refine OL.mv ?_; refine OL.ext ?_; refine OL.ext ?_; refine OL.asg ?_; refine OL.asg ?_
    refine OL.nil (WL.seq (WL.seq (WL.reg ?_)))
    refine OL.mv ?_; refine OL.nF ?_
    refine OL.nil (WL.condF rfl (WL.skip ?_))
    refine WL.seq (WL.reg ?_)
    refine OL.mv ?_
    refine OL.cf fn41 hc2 ?_
    refine OL.mv ?_; refine OL.ext ?_; refine OL.ext ?_; refine OL.asg ?_; refine OL.asg ?_
    refine OL.nil (WL.seq (WL.seq (WL.reg ?_)))
    cases ok with
    | true =>
      obtain ⟨out, ho1, ho2, ho3⟩ := hok1 rfl
      refine OL.mv ?_; refine OL.un ?_
      refine OL.nil (WL.condF rfl (WL.skip ?_))
      refine WL.seq (WL.reg ?_)
      refine OL.mv ?_; refine OL.asg ?_; refine OL.asg ?_
      exact OL.nil (WL.ret ⟨fun id e => (by cases e), _, rfl, hk1.trans hn1 hk2, by omega, hf2, .inl ⟨w, out, rfl, ho1.low hn1, ho2, ho3⟩⟩)
    | false =>
      refine OL.mv ?_; refine OL.un ?_
      refine OL.nil (WL.condT rfl (WL.seq (WL.reg ?_)))
      refine OL.asg ?_; refine OL.asg ?_
      exact OL.nil (WL.ret ⟨fun id e => (by cases e), _, rfl, hk1.trans hn1 hk2, by omega, hf2, .inr ⟨rfl, hok2 rfl⟩⟩)
  exact key

/- An answer: numbers, and an error. -/
def AnsI (f : FuncId) (m : Int) (s : Value) (e : Int) (xs : List Int) (h : T Blk) (n : Nat) : Prop := Gives f [.int .i64 m, s] h n fun v h' n' => ∃ a, v = .tuple #[a, .int .i64 e] ∧ RdI n' h' a xs

theorem RdI.nil {n : Nat} {h : T Blk} : RdI n h (.slice none 0 0) [] := ⟨⟨_, _, rfl⟩, fun j x hj => by simp at hj⟩
theorem AnsI.err {f : FuncId} {m : Int} {s : Value} {e : Int} {h : T Blk} {n : Nat} (g : Gives f [.int .i64 m, s] h n fun v _ _ => ErrV e v) : AnsI f m s e [] h n := by
  obtain ⟨v, h', n', q1, q2, q3, q4, q5⟩ := g
  exact ⟨v, h', n', q1, q2, q3, q4, _, q5, .nil⟩
theorem App.rdN {lo n : Nat} {h : T Blk} {v : Value} {out : List Nat} (a : App 1 lo h v out.length (ints (zs out))) (hf : Fresh h n) : RdI n h v (zs out) := by
  rw [← zs_len out] at a
  exact a.rd hf

theorem check_ex (m : Int) (l : List (Int × Int)) : ∃ c, CheckE m l c := by
  by_cases h1 : m < 0 ∨ 400 < m
  · exact ⟨1, .inl ⟨rfl, h1⟩⟩
  · by_cases h2 : GoodG m l
    · exact ⟨0, .inr ⟨by omega, by omega, .inl ⟨rfl, h2⟩⟩⟩
    · exact ⟨150, .inr ⟨by omega, by omega, .inr ⟨rfl, h2⟩⟩⟩

section
variable {m c : Int} {s : Value} {l : List (Int × Int)} {h : T Blk} {n : Nat}

theorem sort_ans (hf : Fresh h n) (he : Edges h s l) (hbs : ∀ k, n ≤ k → BelV k s) (hlen : l.length ≤ 400) (hm : m ≤ 60 ∨ 400 < m) (hc : CheckE m l c) :
    ∃ e xs, xs.length ≤ 400 ∧ ∀ h2 n2, Keep n h h2 → n ≤ n2 → Fresh h2 n2 → AnsI 11 m s e xs h2 n2 ∧ AnsI 12 m s e xs h2 n2 := by
  by_cases h0 : c = 0
  · subst h0
    obtain ⟨hg, h400⟩ := hc.zero
    have hlo := hg.lo
    obtain ⟨M, rfl⟩ : ∃ M : Nat, m = (M : Int) := ⟨m.toNat, by omega⟩
    obtain ⟨v0, h0, n0, _, _, _, _, hr⟩ := sort2_cl M s l h n hf he hbs (by omega) hlen hg
    rcases hr with ⟨w, out, _, _, ho2, ho3⟩ | ⟨_, hst⟩
    · refine ⟨0, zs out, by rw [zs_len]; omega, fun h2 n2 hk hn hf2 => ⟨?_, ?_⟩⟩
      · obtain ⟨v, h', n', q1, q2, q3, q4, q5⟩ := sort2_cl M s l h2 n2 hf2 (he.keep hf hk) (fun k hk => hbs k (by omega)) (by omega) hlen hg
        rcases q5 with ⟨w, out', rfl, p1, p2, p3⟩ | ⟨_, hst⟩
        · obtain rfl := Topo.uniq hg p2 ho2 p3 ho3
          exact ⟨_, h', n', q1, q2, q3, q4, w, rfl, (p1.row q4).rd⟩
        · exact (topo_stuck ho2 ho3 hst).elim
      · obtain ⟨v, h', n', q1, q2, q3, q4, q5⟩ := rsort_cl M s l h2 n2 hf2 (he.keep hf hk) (fun k hk => hbs k (by omega)) (by omega) hlen hg
        rcases q5 with ⟨w, out', rfl, p1, p2, p3⟩ | ⟨_, hst⟩
        · obtain rfl := Topo.uniq hg p2 ho2 p3 ho3
          exact ⟨_, h', n', q1, q2, q3, q4, w, rfl, p1.rdN q4⟩
        · exact (topo_stuck ho2 ho3 hst).elim
    · refine ⟨151, [], by simp, fun h2 n2 hk hn hf2 => ⟨?_, ?_⟩⟩
      · obtain ⟨v, h', n', q1, q2, q3, q4, q5⟩ := sort2_cl M s l h2 n2 hf2 (he.keep hf hk) (fun k hk => hbs k (by omega)) (by omega) hlen hg
        rcases q5 with ⟨w, out', rfl, p1, p2, p3⟩ | ⟨rfl, _⟩
        · exact (topo_stuck p2 p3 hst).elim
        · exact ⟨_, h', n', q1, q2, q3, q4, _, rfl, .nil⟩
      · obtain ⟨v, h', n', q1, q2, q3, q4, q5⟩ := rsort_cl M s l h2 n2 hf2 (he.keep hf hk) (fun k hk => hbs k (by omega)) (by omega) hlen hg
        rcases q5 with ⟨w, out', rfl, p1, p2, p3⟩ | ⟨rfl, _⟩
        · exact (topo_stuck p2 p3 hst).elim
        · exact ⟨_, h', n', q1, q2, q3, q4, _, rfl, .nil⟩
  · exact ⟨c, [], by simp, fun h2 n2 hk hn hf2 => ⟨.err (sortE_cl m s l c h2 n2 hf2 (he.keep hf hk) (fun k hk => hbs k (by omega)) hlen hc h0), .err (rsortE_cl m s l c h2 n2 hf2 (he.keep hf hk) (fun k hk => hbs k (by omega)) hlen hc h0)⟩⟩

theorem cycle_ans (hf : Fresh h n) (he : Edges h s l) (hbs : ∀ k, n ≤ k → BelV k s) (hgro : groOK h gro0 = true) (hn1 : 1 ≤ n) (hlen : l.length ≤ 400) (hm : m ≤ 60 ∨ 400 < m) (hc : CheckE m l c) :
    ∃ e xs, xs.length ≤ 400 ∧ ∀ h2 n2, Keep n h h2 → n ≤ n2 → Fresh h2 n2 → AnsI 13 m s e xs h2 n2 ∧ AnsI 14 m s e xs h2 n2 := by
  by_cases h0 : c = 0
  · subst h0
    obtain ⟨hg, h400⟩ := hc.zero
    have hlo := hg.lo
    obtain ⟨M, rfl⟩ : ∃ M : Nat, m = (M : Int) := ⟨m.toNat, by omega⟩
    obtain ⟨v0, h0, n0, _, _, _, _, w0, c0, _, hcyc, _⟩ := cycle_cl M s l h n hf he hbs hgro (by omega) hlen hg hn1
    have hcl : c0.length ≤ 60 := by
      by_cases e : c0 = []
      · subst e; simp
      · obtain ⟨_, y2, y3, _⟩ := hcyc.cyc hg e
        have := pigeon M c0 y2 y3
        omega
    refine ⟨0, zs c0, by rw [zs_len]; omega, fun h2 n2 hk hn hf2 => ⟨?_, ?_⟩⟩
    · obtain ⟨v, h', n', q1, q2, q3, q4, w, c', rfl, hcyc', hW⟩ := cycle_cl M s l h2 n2 hf2 (he.keep hf hk) (fun k hk => hbs k (by omega)) (gro_keep hgro hk hn1) (by omega) hlen hg (by omega)
      obtain rfl := hcyc'.uniq hcyc
      exact ⟨_, h', n', q1, q2, q3, q4, w, rfl, hW.rdN q4⟩
    · obtain ⟨v, h', n', q1, q2, q3, q4, w, c', rfl, hcyc', hW⟩ := rcycle_cl M s l h2 n2 hf2 (he.keep hf hk) (fun k hk => hbs k (by omega)) (by omega) hlen hg
      obtain rfl := hcyc'.uniq hcyc
      exact ⟨_, h', n', q1, q2, q3, q4, w, rfl, hW.rdN q4⟩
  · exact ⟨c, [], by simp, fun h2 n2 hk hn hf2 => ⟨.err (cycleE_cl m s l c h2 n2 hf2 (he.keep hf hk) (fun k hk => hbs k (by omega)) hlen hc h0), .err (rcycleE_cl m s l c h2 n2 hf2 (he.keep hf hk) (fun k hk => hbs k (by omega)) hlen hc h0)⟩⟩

end

theorem graphsLaw_cl (m : Int) (s : Value) (l : List (Int × Int)) (h : T Blk) (n : Nat) (hf : Fresh h n) (he : Edges h s l) (_ : rowA h 2 l.length s = some (eCs l)) (hbs : ∀ k, n ≤ k → BelV k s) (hgro : groOK h gro0 = true) (hn0 : 1 ≤ n) :
    Gives 3 [.int .i64 m, s] h n fun v _ _ => v = .bool true := by
  have key : ∃ v h' n', Cl X 3 [.int .i64 m, s] h n (.ret v h' n') ∧ Keep n h h' ∧ n ≤ n' ∧ Fresh h' n' ∧ v = .bool true := by
    obtain ⟨v1, h1, n1, hc1, hk1, hn1, hf1, rfl⟩ := small_cl m 60 s l h n hf he
    refine Cl.wl (memoX (by decide)) fn3 rfl rfl rfl rfl ?_
    refine WL.seq (WL.reg ?_)
    refine OL.asg ?_
    refine OL.nil (WL.seq (WL.seq (WL.reg ?_)))
    refine OL.cf fn9 (Cl.memo (memo9 hgro)) ?_
    refine OL.un ?_
    refine OL.nil (WL.condF rfl (WL.skip ?_))
    refine WL.seq (WL.seq (WL.reg ?_))
    refine OL.mv ?_; refine OL.mv ?_
    refine OL.cf fn10 hc1 ?_
    by_cases hsm : l.length ≤ 400 ∧ (m ≤ 60 ∨ 400 < m)
    · rw [decide_eq_true hsm]
      obtain ⟨hlen, hm⟩ := hsm
      obtain ⟨c, hc⟩ := check_ex m l
      obtain ⟨e1, xs1, hx1, ha1⟩ := sort_ans hf he hbs hlen hm hc
      obtain ⟨e2, xs2, hx2, ha2⟩ := cycle_ans hf he hbs hgro hn0 hlen hm hc
      obtain ⟨va, h2, n2, hc2, hk2, hn2, hf2, wa, rfl, ra⟩ := (ha1 h1 n1 hk1 hn1 hf1).1
      have k2 := hk1.trans hn1 hk2
      obtain ⟨vb, h3, n3, hc3, hk3, hn3, hf3, wb, rfl, rb⟩ := (ha1 h2 n2 k2 (by omega) hf2).2
      have k3 := k2.trans (by omega) hk3
      obtain ⟨vc, h4, n4, hc4, hk4, hn4, hf4, wc, rfl, rc⟩ := (ha2 h3 n3 k3 (by omega) hf3).1
      have k4 := k3.trans (by omega) hk4
      obtain ⟨vd, h5, n5, hc5, hk5, hn5, hf5, wd, rfl, rd⟩ := (ha2 h4 n4 k4 (by omega) hf4).2
      have k5 := k4.trans (by omega) hk5
      obtain ⟨v6, h6, n6, hc6, hk6, hn6, hf6, rfl⟩ := checkP_cl m s l c h5 n5 hf5 (he.keep hf k5) (fun k hk => hbs k (by omega)) hlen hc
      have k6 := k5.trans (by omega) hk6
      obtain ⟨v7, h7, n7, hc7, hk7, hn7, hf7, c', rfl, hcc⟩ := check2_cl m s l h6 n6 hf6 (he.keep hf k6) (fun k hk => hbs k (by omega)) hlen
      obtain rfl := hcc.uniq hc
      have k7 := k6.trans (by omega) hk7
      have k57 : Keep n5 h5 h7 := hk6.trans hn6 hk7
      have ra7 : RdI n7 h7 wa xs1 := ((ra.mono hk3 hn3).mono (hk4.trans hn4 hk5) (by omega)).mono k57 (by omega)
      have rb7 : RdI n7 h7 wb xs1 := (rb.mono (hk4.trans hn4 hk5) (by omega)).mono k57 (by omega)
      obtain ⟨v8, h8, n8, hc8, hk8, hn8, hf8, rfl⟩ := equalI_cl xs1 xs1 wa wb h7 n7 hf7 ra7 rb7 (by omega)
      rw [decide_eq_true rfl] at hc8
      have rc8 : RdI n8 h8 wc xs2 := ((rc.mono hk5 hn5).mono k57 (by omega)).mono hk8 hn8
      have rd8 : RdI n8 h8 wd xs2 := (rd.mono k57 (by omega)).mono hk8 hn8
      obtain ⟨v9, h9, n9, hc9, hk9, hn9, hf9, rfl⟩ := equalI_cl xs2 xs2 wc wd h8 n8 hf8 rc8 rd8 (by omega)
      rw [decide_eq_true rfl] at hc9
      refine OL.un ?_
      refine OL.nil (WL.condF rfl (WL.skip ?_))
      refine WL.seq (WL.reg ?_)
      refine OL.mv ?_; refine OL.mv ?_
      refine OL.cf fn11 hc2 ?_
      refine OL.mv ?_; refine OL.ext ?_; refine OL.ext ?_; refine OL.asg ?_; refine OL.asg ?_
      refine OL.nil (WL.seq (WL.reg ?_))
      refine OL.mv ?_; refine OL.mv ?_
      refine OL.cf fn12 hc3 ?_
      refine OL.mv ?_; refine OL.ext ?_; refine OL.ext ?_; refine OL.asg ?_; refine OL.asg ?_
      refine OL.nil (WL.seq (WL.reg ?_))
      refine OL.mv ?_; refine OL.mv ?_
      refine OL.cf fn13 hc4 ?_
      refine OL.mv ?_; refine OL.ext ?_; refine OL.ext ?_; refine OL.asg ?_; refine OL.asg ?_
      refine OL.nil (WL.seq (WL.reg ?_))
      refine OL.mv ?_; refine OL.mv ?_
      refine OL.cf fn14 hc5 ?_
      refine OL.mv ?_; refine OL.ext ?_; refine OL.ext ?_; refine OL.asg ?_; refine OL.asg ?_
      refine OL.nil (WL.seq (WL.reg ?_))
      refine OL.mv ?_; refine OL.mv ?_
      refine OL.cf fn15 hc6 ?_
      refine OL.mv ?_; refine OL.mv ?_
      refine OL.cf fn16 hc7 ?_
      have t1 : (c' : Int) = c' := rfl
      have t2 : e1 = e1 := rfl
      have t3 : e2 = e2 := rfl
      refine OL.bT ?_; refine OL.mv ?_; refine OL.mv ?_; refine OL.mv ?_
      refine OL.cf fn17 hc8 ?_
      refine OL.pT ?_; refine OL.mv ?_; refine OL.mv ?_; refine OL.mv ?_; refine OL.bT ?_; refine OL.pT ?_; refine OL.mv ?_; refine OL.mv ?_; refine OL.mv ?_
      refine OL.cf fn17 hc9 ?_
      refine OL.pT ?_; refine OL.mv ?_; refine OL.mv ?_; refine OL.mv ?_; refine OL.bT ?_; refine OL.pT ?_; refine OL.asg ?_
      exact OL.nil (WL.ret ⟨fun id e => (by cases e), _, rfl, (k7.trans (by omega) hk8).trans (by omega) hk9, by omega, hf9, rfl⟩)
    · rw [decide_eq_false hsm]
      refine OL.un ?_
      refine OL.nil (WL.condT rfl (WL.seq (WL.reg ?_)))
      refine OL.asg ?_
      exact OL.nil (WL.ret ⟨fun id e => (by cases e), _, rfl, hk1, hn1, hf1, rfl⟩)
  exact key

end Go.Sx
