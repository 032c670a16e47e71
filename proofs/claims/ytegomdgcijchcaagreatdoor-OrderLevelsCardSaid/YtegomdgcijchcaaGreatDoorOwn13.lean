/- SvE: the reference's levels. -/
import Derived.Test.YtegomdgcijchcaaGreatDoorOwn12
namespace Go.Sx
open Go.Proofs
set_option maxRecDepth 100000
set_option maxHeartbeats 4000000

/- Levels of a closed set of items. -/
structure LvR (l : List (Int × Int)) (S : List Nat) (lv : Nat → Int) (c : Int) : Prop where
  zero : ∀ k, k ∉ S → lv k = 0
  nn : ∀ k, 0 ≤ lv k
  hi : ∀ k, lv k ≤ c
  up : ∀ x y : Nat, y ∈ S → ((x : Int), (y : Int)) ∈ l → lv x < lv y
  cov : ∀ k : Nat, lv k = 0 ∨ ∃ x : Nat, ((x : Int), (k : Int)) ∈ l ∧ lv k = lv x + 1

/- One item's level, as far as its edges are read. -/
structure Lv1 (l : List (Int × Int)) (y q : Nat) (lv : Nat → Int) (m : Int) : Prop where
  nn : 0 ≤ m
  up : ∀ (p : Nat) (x : Nat), p < q → l[p]? = some ((x : Int), (y : Int)) → lv x < m
  cov : m = 0 ∨ ∃ x : Nat, ((x : Int), (y : Int)) ∈ l ∧ m = lv x + 1

theorem LvR.step {l : List (Int × Int)} {S : List Nat} {lv : Nat → Int} {c m : Int} {y : Nat} (s : LvR l S lv c) (hy : y ∉ S) (hcl : ∀ u v : Nat, v ∈ S ∨ v = y → ((u : Int), (v : Int)) ∈ l → u ∈ S) (a : Lv1 l y l.length lv m) : LvR l (S ++ [y]) (upF lv y m) (c + 1) := by
  have hc : 0 ≤ c := Int.le_trans (s.nn 0) (s.hi 0)
  refine ⟨fun k hk => ?_, fun k => ?_, fun k => ?_, fun u v hv hl => ?_, fun k => ?_⟩
  · have hk2 : k ∉ S ∧ k ≠ y := by simpa using hk
    rw [upF_ne hk2.2]; exact s.zero k hk2.1
  · by_cases e : k = y
    · rw [e, upF_same]; exact a.nn
    · rw [upF_ne e]; exact s.nn k
  · by_cases e : k = y
    · rw [e, upF_same]
      rcases a.cov with h1 | ⟨x, _, h1⟩
      · omega
      · have := s.hi x; omega
    · rw [upF_ne e]; have := s.hi k; omega
  · have hv2 : v ∈ S ∨ v = y := by simpa using hv
    have hu := hcl u v hv2 hl
    rw [upF_ne (fun e => hy (by rw [← e]; exact hu))]
    rcases hv2 with h1 | h1
    · rw [upF_ne (fun e => hy (by rw [← e]; exact h1))]; exact s.up u v h1 hl
    · subst h1
      rw [upF_same]
      obtain ⟨p, hp⟩ := List.getElem?_of_mem hl
      exact a.up p u (List.getElem?_eq_some_iff.1 hp).1 hp
  · by_cases e : k = y
    · subst e
      rw [upF_same]
      refine a.cov.imp id fun ⟨x, h1, h2⟩ => ⟨x, h1, ?_⟩
      rw [upF_ne (fun e => hy (by rw [← e]; exact hcl x k (.inr rfl) h1))]; exact h2
    · rw [upF_ne e]
      by_cases hk : k ∈ S
      · refine (s.cov k).imp id fun ⟨x, h1, h2⟩ => ⟨x, h1, ?_⟩
        rw [upF_ne (fun e => hy (by rw [← e]; exact hcl x k (.inl hk) h1))]; exact h2
      · exact .inl (s.zero k hk)

theorem LvR.fin {M : Nat} {l : List (Int × Int)} {out : List Nat} {lv : Nat → Int} (hg : GoodG (M : Int) l) (hT : Topo M l out) (hlen : out.length = M) (s : LvR l out lv (M : Int)) : LvOK M l lv := by
  refine ⟨s.nn, s.hi, fun x y hxy => ?_, s.cov⟩
  obtain ⟨g1, g2, g3, g4, _⟩ := hg.ok _ hxy
  simp only at g3 g4
  exact s.up x y (topo_full hT hlen y (by omega)) hxy

theorem Lv1.old {l : List (Int × Int)} {y q a b : Nat} {lv : Nat → Int} {m : Int} (s : Lv1 l y q lv m) (hq : l[q]? = some ((a : Int), (b : Int))) (h : b ≠ y) : Lv1 l y (q + 1) lv m := by
  refine ⟨s.nn, fun p x hp hl => ?_, s.cov⟩
  rcases Nat.lt_or_ge p q with h1 | h1
  · exact s.up p x h1 hl
  · rw [show p = q by omega, hq] at hl
    simp only [Option.some.injEq, Prod.mk.injEq] at hl
    omega

theorem Lv1.new {l : List (Int × Int)} {y q a : Nat} {lv : Nat → Int} {m : Int} (s : Lv1 l y q lv m) (hq : l[q]? = some ((a : Int), (y : Int))) (hn : 0 ≤ lv a) : Lv1 l y (q + 1) lv (if m < lv a + 1 then lv a + 1 else m) := by
  have hm := s.nn
  refine ⟨by split <;> omega, fun p x hp hl => ?_, ?_⟩
  · rcases Nat.lt_or_ge p q with h1 | h1
    · have := s.up p x h1 hl
      split <;> omega
    · rw [show p = q by omega, hq] at hl
      simp only [Option.some.injEq, Prod.mk.injEq] at hl
      have : a = x := by omega
      subst this
      split <;> omega
  · split
    · exact .inr ⟨a, List.mem_of_getElem? hq, rfl⟩
    · exact s.cov

def RLevelsV (M : Nat) (l : List (Int × Int)) (lo : Nat) (h' : T Blk) (v : Value) : Prop :=
  (∃ lv b, v = .tuple #[.slice (some ⟨b, 0, none⟩) M M, .int .i64 0] ∧ lo ≤ b ∧ h'.get b = some (.cells (natsF M lv)) ∧ LvOK M l lv) ∨ (v = .tuple #[.slice none 0 0, .int .i64 151] ∧ Stuck M l)

theorem rlevels_cl (M : Nat) (s : Value) (l : List (Int × Int)) (h : T Blk) (n : Nat) (hf : Fresh h n) (he : Edges h s l) (hbs : ∀ k, n ≤ k → BelV k s) (hM : M ≤ 400) (hlen : l.length ≤ 400) (hg : GoodG (M : Int) l) :
    Gives 19 [.int .i64 (M : Int), s] h n fun v h' _ => RLevelsV M l n h' v := by
  have key : ∃ v h' n', Cl X 19 [.int .i64 (M : Int), s] h n (.ret v h' n') ∧ Keep n h h' ∧ n ≤ n' ∧ Fresh h' n' ∧ RLevelsV M l n h' v := by
    have ix : ∀ {b k : Nat}, k < M → idxA X 25 (.slice (some ⟨b, 0, none⟩) M M) (.int .i64 (k : Int)) = some (.pointer (some ⟨b, k, none⟩)) := fun hk => idx1 ty25 ty3 rfl hk
    obtain ⟨v1, h1, n1, hc1, hk1, hn1, hf1, hsv⟩ := rsort_cl M s l h n hf he hbs hM hlen hg
    refine Cl.wl (memoX (by decide)) fn19 rfl rfl rfl rfl ?_
    refine WL.seq (WL.reg ?_)
    refine OL.asg ?_; refine OL.asg ?_
    refine OL.nil (WL.seq (WL.reg ?_))
    rcases hsv with ⟨w, out, rfl, ha1, hT, hoM⟩ | ⟨rfl, hst⟩
    · refine OL.mv ?_; refine OL.mv ?_
      refine OL.cf fn12 hc1 ?_
      refine OL.mv ?_; refine OL.ext ?_; refine OL.ext ?_; refine OL.asg ?_; refine OL.asg ?_
      refine OL.nil (WL.seq (WL.seq (WL.reg ?_)))
      refine OL.mv ?_; refine OL.nF ?_
      refine OL.nil (WL.condF rfl (WL.skip ?_))
      have hrI := ha1.rdN hf1
      have hbw : BelV (n1 + 1) w := App.bel ha1 (fun b hb => hf1 b (by omega))
      have he1 := he.keep hf hk1
      refine WL.seq (WL.reg ?_)
      refine OL.mv ?_
      refine OL.ms (mkS (M := M) ty25 ty3 rfl rfl rfl rfl (by omega)) ?_
      refine OL.asg ?_
      refine OL.heap (fun H => Fresh H (n1 + 1) ∧ Keep n1 h1 H ∧ H.get n1 = some (.cells (natsF M (fun _ => 0)))) ⟨hf1.upd _, (Keep.refl n1 h1).upd (Nat.le_refl _) _, by rw [T.get_upd_same, natsF_zero]⟩ ?_
      rintro hA ⟨hfA, hkA, hA0⟩
      refine OL.nil (WL.seq (WL.seq (WL.reg ?_)))
      refine OL.asg ?_
      refine OL.nil (WL.block ?_)
      refine WL.loop (k := M) (fun k L h2 n2 => ∃ (i : Nat) (lv : Nat → Int), i ≤ M ∧ k = M - i ∧ Sub [(9, .int .i64 (i : Int)), (8, .slice (some ⟨n1, 0, none⟩) M M), (6, w), (1, s), (0, .int .i64 (M : Int))] L ∧ n2 = n1 + 1 ∧ Fresh h2 (n1 + 1) ∧ Keep n1 h1 h2 ∧ h2.get n1 = some (.cells (natsF M lv)) ∧ LvR l (out.take i) lv (i : Int)) ?_
        ⟨0, fun _ => 0, Nat.zero_le _, rfl, (by repeat (first | exact Sub.nil | refine Sub.cons rfl ?_)), rfl, hfA, hkA, hA0, ⟨fun _ _ => rfl, fun _ => Int.le_refl _, fun _ => Int.le_refl _, fun x y hy => by simp at hy, fun _ => .inl rfl⟩⟩
      rintro k L h2 n2 ⟨i, lv, hi, rfl, hs2, rfl, hf2, hk2, hB2, hL2⟩
      refine WL.keep hs2 ?_
      refine WL.seq (WL.seq (WL.reg ?_))
      by_cases c1 : (i : Int) < (M : Int)
      · refine OL.mv ?_; refine OL.mv ?_; refine OL.bT ?_
        refine OL.nil (WL.condT rfl (WL.skip ?_))
        obtain ⟨y, hy⟩ : ∃ y, out[i]? = some y := ⟨_, List.getElem?_eq_getElem (by omega)⟩
        have hyM : y < M := hT.lt y (List.mem_of_getElem? hy)
        have hyI : (zs out)[i]? = some (y : Int) := by rw [zs, List.getElem?_map, hy]; rfl
        have hyS : y ∉ out.take i := fun hm => by
          obtain ⟨j, hj⟩ := List.getElem?_of_mem hm
          rw [List.getElem?_take] at hj
          split at hj
          · obtain ⟨q1, q2⟩ := List.getElem?_eq_some_iff.1 hj
            obtain ⟨q3, q4⟩ := List.getElem?_eq_some_iff.1 hy
            have := (List.getElem_inj hT.nd).1 (q2.trans q4.symm)
            omega
          · cases hj
        obtain ⟨bo, oo, hbo, ho1, ho2⟩ := hrI.2 i (y : Int) hyI
        have e0 : lv = upF lv y 0 := by
          funext k
          by_cases e : k = y
          · rw [e, upF_same]; exact hL2.zero y hyS
          · rw [upF_ne e]
        refine WL.seq (WL.block (WL.seq (WL.reg ?_)))
        refine OL.asg ?_
        refine OL.nil (WL.block ?_)
        refine WL.loop (k := l.length) (fun k L h3 n3 => ∃ (q : Nat) (m : Int), q ≤ l.length ∧ k = l.length - q ∧ Sub [(10, .int .i64 (q : Int)), (9, .int .i64 (i : Int)), (8, .slice (some ⟨n1, 0, none⟩) M M), (6, w), (1, s), (0, .int .i64 (M : Int))] L ∧ n3 = n1 + 1 ∧ Fresh h3 (n1 + 1) ∧ Keep n1 h1 h3 ∧ h3.get n1 = some (.cells (natsF M (upF lv y m))) ∧ Lv1 l y q lv m) ?_
          ⟨0, 0, Nat.zero_le _, rfl, (by repeat (first | exact Sub.nil | refine Sub.cons rfl ?_)), rfl, hf2, hk2, by rw [← e0]; exact hB2, ⟨Int.le_refl _, fun p x hp => by omega, .inl rfl⟩⟩
        rintro k L h3 n3 ⟨q, m, hq, rfl, hs3, rfl, hf3, hk3, hB3, hL3⟩
        have he3 := he1.keep hf1 hk3
        refine WL.keep hs3 ?_
        refine WL.seq (WL.seq (WL.reg ?_))
        refine OL.mv ?_; refine OL.mv ?_
        refine OL.bi he.len ?_
        by_cases c3 : (q : Int) < (l.length : Int)
        · refine OL.bT ?_
          refine OL.nil (WL.condT rfl (WL.skip ?_))
          obtain ⟨⟨e1, e2⟩, hie⟩ : ∃ e, l[q]? = some e := ⟨_, List.getElem?_eq_getElem (by omega)⟩
          obtain ⟨g1, g2, g3, g4, g5⟩ := hg.ok (e1, e2) (List.mem_of_getElem? hie)
          simp only at g1 g2 g3 g4 g5
          obtain ⟨x, rfl⟩ : ∃ x : Nat, e1 = (x : Int) := ⟨e1.toNat, by omega⟩
          obtain ⟨z, rfl⟩ : ∃ z : Nat, e2 = (z : Int) := ⟨e2.toNat, by omega⟩
          have hxM : x < M := by omega
          have hzM : z < M := by omega
          obtain ⟨b, o, hx1, hx2, hx3, _, hbl⟩ := he3.at2 hie
          have hbs2 : BelV (n1 + 1) s := hbs _ (by omega)
          have hbp := hbl _ hbs2
          refine WL.seq (WL.block (WL.seq (WL.regD (by kernel_rfl) (by kernel_rfl) ?_)))
          refine OD.mv ?_; refine OD.mv ?_
          refine OD.ix hx1 ?_
          refine OD.ix idx_pair1 ?_
          refine OD.ld hx3 ?_
          refine OD.mv ?_; refine OD.mv ?_
          refine OD.ix ho1 ?_
          refine OD.ld (ho2 _ hk3) ?_
          by_cases d1 : z = y
          · subst d1
            refine OD.bT ?_
            refine OD.nil (WL.condT rfl (WL.regD (by kernel_rfl) (by kernel_rfl) ?_))
            have hxz : x ≠ z := fun e => g5 (by rw [e])
            have hlx := hL2.nn x
            have hlx2 := hL2.hi x
            have hm0 := hL3.nn
            refine OD.mv ?_; refine OD.mv ?_; refine OD.mv ?_
            refine OD.ix ho1 ?_
            refine OD.ld (ho2 _ hk3) ?_
            refine OD.mv ?_; refine OD.mv ?_; refine OD.mv ?_
            refine OD.ix ho1 ?_
            refine OD.ld (ho2 _ hk3) ?_
            refine OD.ix (ix hzM) ?_
            refine OD.ld (load1 ty3 rfl (cells_of hB3) (natsF_at hzM)) ?_
            refine OD.mv ?_; refine OD.mv ?_; refine OD.mv ?_
            refine OD.ix hx1 ?_
            refine OD.ix idx_pair0 ?_
            refine OD.ld hx2 ?_
            refine OD.ix (ix hxM) ?_
            refine OD.ld (load1 ty3 rfl (cells_of hB3) (natsF_at hxM)) ?_
            rw [upF_same, upF_ne hxz]
            refine OD.ad ?_
            refine OD.bi max_at ?_
            refine OD.ix (ix hzM) ?_
            refine OD.st (store1 ty3 rfl hB3 rfl (by rw [natsF_len]; exact hzM)) ?_
            refine OD.nil (WL.reg ?_)
            refine OL.mv ?_
            refine OL.ad1 ?_
            refine OL.asg ?_
            refine OL.nil ⟨l.length - (q + 1), by omega, q + 1, _, by omega, rfl, (by repeat (first | exact Sub.nil | refine Sub.cons rfl ?_)), rfl, hf3.set (by omega) _, hk3.upd (Nat.le_refl _) _, ?_, hL3.new hie hlx⟩
            rw [T.get_upd_same]
            congr 2
            refine natsF_set hzM fun j => ?_
            by_cases e : j = z
            · rw [if_pos e, e, upF_same]
            · rw [if_neg e, upF_ne e, upF_ne e]
          · have d2 : ¬ ((z : Int) = (y : Int)) := by omega
            refine OD.bF ?_
            refine OD.nil (WL.condF rfl (WL.skip (WL.reg ?_)))
            refine OL.mv ?_
            refine OL.ad1 ?_
            refine OL.asg ?_
            exact OL.nil ⟨l.length - (q + 1), by omega, q + 1, m, by omega, rfl, (by repeat (first | exact Sub.nil | refine Sub.cons rfl ?_)), rfl, hf3, hk3, hB3, hL3.old hie d1⟩
        · refine OL.bF ?_
          refine OL.nil (WL.condF rfl (WL.exit ?_))
          have hql : q = l.length := by omega
          subst hql
          refine WL.reg ?_
          refine OL.mv ?_
          refine OL.ad1 ?_
          refine OL.asg ?_
          refine OL.nil ⟨M - (i + 1), by omega, i + 1, _, by omega, rfl, (by repeat (first | exact Sub.nil | refine Sub.cons rfl ?_)), rfl, hf3, hk3, hB3, ?_⟩
          rw [List.take_add_one, hy]
          refine hL2.step hyS (fun u v hv hl => ?_) hL3
          have : ∃ j, j ≤ i ∧ out[j]? = some v := by
            rcases hv with h1 | h1
            · obtain ⟨j, hj⟩ := List.getElem?_of_mem h1
              rw [List.getElem?_take] at hj
              split at hj
              · exact ⟨j, by omega, hj⟩
              · cases hj
            · exact ⟨i, Nat.le_refl _, by rw [hy, h1]⟩
          obtain ⟨j, hj, hjv⟩ := this
          have hd := hT.dep j v u hjv hl
          exact List.mem_of_mem_take (show u ∈ (out.take i).take j by rw [List.take_take, Nat.min_eq_left hj]; exact hd)
      · refine OL.mv ?_; refine OL.mv ?_; refine OL.bF ?_
        refine OL.nil (WL.condF rfl (WL.exit ?_))
        have hiM : i = M := by omega
        subst hiM
        refine WL.seq (WL.reg ?_)
        refine OL.mv ?_; refine OL.asg ?_; refine OL.asg ?_
        refine OL.nil (WL.ret ⟨fun id e => (by cases e), _, rfl, hk1.trans hn1 hk2, by omega, hf2, .inl ⟨lv, n1, rfl, hn1, hB2, ?_⟩⟩)
        rw [List.take_of_length_le (by omega)] at hL2
        exact hL2.fin hg hT hoM
    · refine OL.mv ?_; refine OL.mv ?_
      refine OL.cf fn12 hc1 ?_
      refine OL.mv ?_; refine OL.ext ?_; refine OL.ext ?_; refine OL.asg ?_; refine OL.asg ?_
      refine OL.nil (WL.seq (WL.seq (WL.reg ?_)))
      refine OL.mv ?_; refine OL.nT ?_
      refine OL.nil (WL.condT rfl (WL.seq (WL.reg ?_)))
      refine OL.mv ?_; refine OL.asg ?_; refine OL.asg ?_
      exact OL.nil (WL.ret ⟨fun id e => (by cases e), _, rfl, hk1, hn1, hf1, .inr ⟨rfl, hst⟩⟩)
  exact key

end Go.Sx

/- SvF: the reference's reach. -/
namespace Go.Sx
open Go.Proofs
set_option maxRecDepth 100000
set_option maxHeartbeats 4000000

theorem fn49 : X.fn.get 49 = some Tryz.f49 := by kernel_rfl

/- The list of what is to be looked at: an item, and what is reached from it; so many of them are looked at. -/
structure Rq (l : List (Int × Int)) (a : Nat) (V : List Nat) (d : Nat) : Prop where
  nd : V.Nodup
  snd : ∀ c ∈ V, Rch l a c
  cl : ∀ j u c : Nat, j < d → (a :: V)[j]? = some u → EdgeN l u c → c ∈ V
structure Rq1 (l : List (Int × Int)) (a : Nat) (V : List Nat) (d u q : Nat) : Prop where
  at_ : (a :: V)[d]? = some u
  rq : Rq l a V d
  ed : ∀ p y : Nat, p < q → l[p]? = some ((u : Int), (y : Int)) → y ∈ V

theorem Rq.len {M : Nat} {l : List (Int × Int)} {a d : Nat} {V : List Nat} (hg : GoodG (M : Int) l) (r : Rq l a V d) : V.length ≤ M := pigeon M V r.nd fun c hc => ((r.snd c hc).lt hg).2
theorem Rq1.own {l : List (Int × Int)} {a d u q : Nat} {V : List Nat} (r : Rq1 l a V d u q) : u = a ∨ u ∈ V := by
  rcases List.mem_cons.1 (List.mem_of_getElem? r.at_) with h | h
  · exact .inl h
  · exact .inr h
theorem Rq1.old {l : List (Int × Int)} {a d u q x y : Nat} {V : List Nat} (r : Rq1 l a V d u q) (hq : l[q]? = some ((x : Int), (y : Int))) (h : x ≠ u ∨ y ∈ V) : Rq1 l a V d u (q + 1) := by
  refine ⟨r.at_, r.rq, fun p z hp hl => ?_⟩
  rcases Nat.lt_or_ge p q with h1 | h1
  · exact r.ed p z h1 hl
  · rw [show p = q by omega, hq] at hl
    simp only [Option.some.injEq, Prod.mk.injEq] at hl
    rw [show z = y by omega]
    exact h.resolve_left (by omega)
theorem Rq1.new {l : List (Int × Int)} {a d u q y : Nat} {V : List Nat} (r : Rq1 l a V d u q) (hq : l[q]? = some ((u : Int), (y : Int))) (h : y ∉ V) : Rq1 l a (V ++ [y]) d u (q + 1) := by
  have hd := (List.getElem?_eq_some_iff.1 r.at_).1
  have hat : ∀ j, j ≤ d → (a :: (V ++ [y]))[j]? = (a :: V)[j]? := fun j hj => by
    rw [← List.cons_append, List.getElem?_append_left (by omega)]
  refine ⟨by rw [hat d (Nat.le_refl _)]; exact r.at_, ⟨?_, fun c hc => ?_, fun j v c hj hv he => ?_⟩, fun p z hp hl => ?_⟩
  · rw [List.nodup_append]
    exact ⟨r.rq.nd, by simp, fun c hc b hb e => by rw [List.mem_singleton] at hb; subst hb; exact h (e ▸ hc)⟩
  · rcases List.mem_append.1 hc with h1 | h1
    · exact r.rq.snd c h1
    · rw [List.mem_singleton.1 h1]
      have he : EdgeN l u y := List.mem_of_getElem? hq
      rcases r.own with h2 | h2
      · rw [← h2]; exact Rch.edge he
      · exact (r.rq.snd u h2).trans (Rch.edge he)
  · rw [hat j (by omega)] at hv
    exact List.mem_append_left _ (r.rq.cl j v c hj hv he)
  · rcases Nat.lt_or_ge p q with h1 | h1
    · exact List.mem_append_left _ (r.ed p z h1 hl)
    · rw [show p = q by omega, hq] at hl
      simp only [Option.some.injEq, Prod.mk.injEq] at hl
      rw [show z = y by omega]
      simp
theorem Rq1.done {l : List (Int × Int)} {a d u : Nat} {V : List Nat} (r : Rq1 l a V d u l.length) : Rq l a V (d + 1) := by
  refine ⟨r.rq.nd, r.rq.snd, fun j v c hj hv he => ?_⟩
  rcases Nat.lt_or_ge j d with h1 | h1
  · exact r.rq.cl j v c h1 hv he
  · rw [show j = d by omega, r.at_] at hv
    cases hv
    obtain ⟨p, hp⟩ := List.getElem?_of_mem he
    exact r.ed p c (List.getElem?_eq_some_iff.1 hp).1 hp
theorem Rq.fin {l : List (Int × Int)} {a : Nat} {V : List Nat} (r : Rq l a V (V.length + 1)) (k : Nat) : decide (k ∈ V) = rchB l a k := by
  have h : Rea l a (fun k => decide (k ∈ V)) [] := by
    refine Rea.mk (fun k hk => r.snd k (of_decide_eq_true hk)) (fun k hk => by simp at hk) (fun k c hk he => .inl (decide_eq_true ?_)) (fun c he => .inl (decide_eq_true ?_))
    · obtain ⟨j, hj⟩ := List.getElem?_of_mem (of_decide_eq_true hk)
      exact r.cl (j + 1) k c (by have := (List.getElem?_eq_some_iff.1 hj).1; omega) hj he
    · exact r.cl 0 a c (by omega) rfl he
  rw [Bool.eq_iff_iff, rchB_iff]
  exact h.fin k

theorem reachR_cl (M it : Nat) (s : Value) (l : List (Int × Int)) (h : T Blk) (n : Nat) (hf : Fresh h n) (he : Edges h s l) (hit : it < M) (hM : M ≤ 400) (hlen : l.length ≤ 400) (hg : GoodG (M : Int) l) :
    Gives 49 [.int .i64 (M : Int), s, .int .i64 (it : Int)] h n fun v h' _ => ∃ b, v = .slice (some ⟨b, 0, none⟩) M M ∧ n ≤ b ∧ h'.get b = some (.cells (boolsF M (rchB l it))) := by
  have key : ∃ v h' n', Cl X 49 [.int .i64 (M : Int), s, .int .i64 (it : Int)] h n (.ret v h' n') ∧ Keep n h h' ∧ n ≤ n' ∧ Fresh h' n' ∧ ∃ b, v = .slice (some ⟨b, 0, none⟩) M M ∧ n ≤ b ∧ h'.get b = some (.cells (boolsF M (rchB l it))) := by
    have jx : ∀ {b k : Nat}, k < M → idxA X 38 (.slice (some ⟨b, 0, none⟩) M M) (.int .i64 (k : Int)) = some (.pointer (some ⟨b, k, none⟩)) := fun hk => idx1 ty38 ty4 rfl hk
    refine Cl.wl (memoX (by decide)) fn49 rfl rfl rfl rfl ?_
    refine WL.seq (WL.reg ?_)
    refine OL.asg ?_
    refine OL.nil (WL.seq (WL.reg ?_))
    refine OL.mv ?_
    refine OL.ms (mkS (M := M) ty38 ty4 rfl rfl rfl rfl (by omega)) ?_
    refine OL.asg ?_
    refine OL.heap (fun H => Fresh H (n + 1) ∧ Keep n h H ∧ H.get n = some (.cells (boolsF M fun k => decide (k ∈ ([] : List Nat))))) ⟨hf.upd _, (Keep.refl n h).upd (Nat.le_refl _) _, by rw [T.get_upd_same, boolsF_zero]; simp⟩ ?_
    rintro hA ⟨hfA, hkA, hA0⟩
    refine OL.nil (WL.seq (WL.reg ?_))
    refine OL.mv ?_
    refine OL.bs buildS1 ?_
    refine OL.asg ?_
    refine OL.heap (fun H => Fresh H (n + 2) ∧ Keep n h H ∧ H.get n = some (.cells (boolsF M fun k => decide (k ∈ ([] : List Nat)))) ∧ App 1 (n + 1) H (.slice (some ⟨n + 1, 0, none⟩) 1 1) 1 (ints (zs [it]))) ⟨hfA.upd _, hkA.upd (by omega) _, by rw [T.get_upd_ne _ _ (by omega)]; exact hA0, .inr ⟨n + 1, 0, 1, _, rfl, .inr rfl, Nat.le_refl _, T.get_upd_same _ _ _, rfl⟩⟩ ?_
    rintro hB ⟨hfB, hkB, hB0, hBW⟩
    refine OL.nil (WL.seq (WL.reg ?_))
    refine OL.asg ?_
    refine OL.nil (WL.seq (WL.block ?_))
    refine WL.loop (k := M + 1) (fun k L h2 n2 => ∃ (d : Nat) (V : List Nat) (w : Value), d ≤ V.length + 1 ∧ k = M + 1 - d ∧ Sub [(9, .int .i64 (d : Int)), (8, w), (7, .slice (some ⟨n, 0, none⟩) M M), (1, s), (0, .int .i64 (M : Int))] L ∧ Keep n h h2 ∧ n + 1 ≤ n2 ∧ Fresh h2 n2 ∧ h2.get n = some (.cells (boolsF M fun k => decide (k ∈ V))) ∧ App 1 (n + 1) h2 w (V.length + 1) (ints (zs (it :: V))) ∧ Rq l it V d) ?_
      ⟨0, [], _, by simp, rfl, (by repeat (first | exact Sub.nil | refine Sub.cons rfl ?_)), hkB, by omega, hfB, hB0, hBW, ⟨List.nodup_nil, by simp, fun j u c hj => by omega⟩⟩
    rintro k L h2 n2 ⟨d, V, w, hd, rfl, hs2, hk2, hn2, hf2, hB2, hW2, hR⟩
    have hV := hR.len hg
    refine WL.keep hs2 ?_
    refine WL.seq (WL.seq (WL.reg ?_))
    refine OL.mv ?_; refine OL.mv ?_
    refine OL.bi (hW2.ln ty25) ?_
    by_cases c1 : (d : Int) < ((V.length + 1 : Nat) : Int)
    · refine OL.bT ?_
      refine OL.nil (WL.condT rfl (WL.skip ?_))
      obtain ⟨u, hu⟩ : ∃ u, (it :: V)[d]? = some u := ⟨_, List.getElem?_eq_getElem (by simp; omega)⟩
      obtain ⟨ub, uo, hub, hu1, hu2⟩ := hW2.atI (k := d) (y := (u : Int)) (by rw [zs, List.getElem?_map, hu]; rfl)
      refine WL.block (WL.seq (WL.reg ?_))
      refine OL.mv ?_; refine OL.mv ?_
      refine OL.ix hu1 ?_
      refine OL.ld (hu2 _ rfl) ?_
      refine OL.asg ?_
      refine OL.nil (WL.seq (WL.reg ?_))
      refine OL.mv ?_
      refine OL.ad1 ?_
      refine OL.asg ?_
      refine OL.nil (WL.seq (WL.reg ?_))
      refine OL.asg ?_
      refine OL.nil (WL.block ?_)
      refine WL.loop (k := l.length) (fun k L h3 n3 => ∃ (q : Nat) (V : List Nat) (w : Value), q ≤ l.length ∧ k = l.length - q ∧ Sub [(11, .int .i64 (q : Int)), (10, .int .i64 (u : Int)), (9, .int .i64 ((d + 1 : Nat) : Int)), (8, w), (7, .slice (some ⟨n, 0, none⟩) M M), (1, s), (0, .int .i64 (M : Int))] L ∧ Keep n h h3 ∧ n + 1 ≤ n3 ∧ Fresh h3 n3 ∧ h3.get n = some (.cells (boolsF M fun k => decide (k ∈ V))) ∧ App 1 (n + 1) h3 w (V.length + 1) (ints (zs (it :: V))) ∧ Rq1 l it V d u q) ?_
        ⟨0, V, w, Nat.zero_le _, rfl, (by repeat (first | exact Sub.nil | refine Sub.cons rfl ?_)), hk2, hn2, hf2, hB2, hW2, ⟨hu, hR, fun p y hp => by omega⟩⟩
      rintro k L h3 n3 ⟨q, V, w, hq, rfl, hs3, hk3, hn3, hf3, hB3, hW3, hR3⟩
      have he3 := he.keep hf hk3
      refine WL.keep hs3 ?_
      refine WL.seq (WL.seq (WL.reg ?_))
      refine OL.mv ?_; refine OL.mv ?_
      refine OL.bi he.len ?_
      by_cases c3 : (q : Int) < (l.length : Int)
      · refine OL.bT ?_
        refine OL.nil (WL.condT rfl (WL.skip ?_))
        obtain ⟨⟨e1, e2⟩, hie⟩ : ∃ e, l[q]? = some e := ⟨_, List.getElem?_eq_getElem (by omega)⟩
        obtain ⟨g1, g2, g3, g4, g5⟩ := hg.ok (e1, e2) (List.mem_of_getElem? hie)
        simp only at g1 g2 g3 g4 g5
        obtain ⟨x, rfl⟩ : ∃ x : Nat, e1 = (x : Int) := ⟨e1.toNat, by omega⟩
        obtain ⟨y, rfl⟩ : ∃ y : Nat, e2 = (y : Int) := ⟨e2.toNat, by omega⟩
        have hyM : y < M := by omega
        obtain ⟨b, o, hx1, hx2, hx3, _, _⟩ := he3.at2 hie
        refine WL.seq (WL.block (WL.seq (WL.reg ?_)))
        refine OL.mv ?_; refine OL.mv ?_
        refine OL.ix hx1 ?_
        refine OL.ix idx_pair0 ?_
        refine OL.ld hx2 ?_
        refine OL.mv ?_
        by_cases d1 : (x : Int) = (u : Int)
        · refine OL.bT ?_; refine OL.mv ?_; refine OL.mv ?_; refine OL.mv ?_; refine OL.mv ?_
          refine OL.ix hx1 ?_
          refine OL.ix idx_pair1 ?_
          refine OL.ld hx3 ?_
          refine OL.ix (jx hyM) ?_
          have hxu : x = u := by omega
          subst hxu
          by_cases d2 : y ∈ V
          · have hbv : (boolsF M fun k => decide (k ∈ V))[y]? = some (.bool true) := by rw [boolsF_at hyM]; simp only [decide_eq_true d2]
            refine OL.ld (load1 ty4 rfl (cells_of hB3) hbv) ?_
            refine OL.un ?_; refine OL.pT ?_
            refine OL.nil (WL.condF rfl (WL.skip (WL.reg ?_)))
            refine OL.mv ?_
            refine OL.ad1 ?_
            refine OL.asg ?_
            exact OL.nil ⟨l.length - (q + 1), by omega, q + 1, V, w, by omega, rfl, (by repeat (first | exact Sub.nil | refine Sub.cons rfl ?_)), hk3, hn3, hf3, hB3, hW3, hR3.old hie (.inr d2)⟩
          · have hbv : (boolsF M fun k => decide (k ∈ V))[y]? = some (.bool false) := by rw [boolsF_at hyM]; simp only [decide_eq_false d2]
            refine OL.ld (load1 ty4 rfl (cells_of hB3) hbv) ?_
            refine OL.un ?_; refine OL.pT ?_
            have hR4 := hR3.new hie d2
            have hVM := hR4.rq.len hg
            rw [List.length_append, List.length_singleton] at hVM
            refine OL.nil (WL.condT rfl (WL.seq (WL.reg ?_)))
            refine OL.mv ?_; refine OL.mv ?_; refine OL.mv ?_
            refine OL.ix hx1 ?_
            refine OL.ix idx_pair1 ?_
            refine OL.ld hx3 ?_
            refine OL.ix (jx hyM) ?_
            refine OL.st (store1 ty4 rfl hB3 rfl (by rw [boolsF_len]; exact hyM)) ?_
            refine OL.heap (fun H => Fresh H n3 ∧ Keep n h H ∧ H.get n = some (.cells (boolsF M fun k => decide (k ∈ V ++ [y]))) ∧ App 1 (n + 1) H w (V.length + 1) (ints (zs (it :: V)))) ⟨hf3.set (by omega) _, hk3.upd (Nat.le_refl _) _, ?_, hW3.keep fun b hb => T.get_upd_ne _ _ (by have := (hW3.blk hb).1; omega)⟩ ?_
            · rw [T.get_upd_same]
              congr 2
              refine boolsF_set hyM fun j => ?_
              by_cases hj : j = y
              · subst hj; simp
              · rw [if_neg hj]; simp [hj]
            rintro h4 ⟨hf4, hk4, hB4, hW4⟩
            have he4 := he.keep hf hk4
            obtain ⟨b', o', hy1, _, hy3, _, _⟩ := he4.at2 hie
            have hW5 : App tInt.size (n + 1) (h4.upd (some (.cells [.int .i64 (y : Int)])) n3) w (V.length + 1) (ints (zs (it :: V))) := hW4.kp hf4 ((Keep.refl n3 h4).upd (Nat.le_refl n3) _)
            obtain ⟨w', hG, happ, p1, p2, p3, p4⟩ := append_app el25 hW5 (hf4.upd _) (x := .slice (some ⟨n3, 0, none⟩) 1 1) (xl := 1) (new := [.int .i64 (y : Int)]) ⟨_, _, rfl⟩ (by simp only [rowA, cells_of (T.get_upd_same _ _ _)]; rfl) (by omega) (by omega) rfl (by omega)
            refine OL.nil (WL.reg ?_)
            refine OL.mv ?_; refine OL.mv ?_; refine OL.mv ?_
            refine OL.ix hy1 ?_
            refine OL.ix idx_pair1 ?_
            refine OL.ld hy3 ?_
            refine OL.bs buildS1 ?_
            refine OL.bi (appendB happ) ?_
            refine OL.asg ?_
            refine OL.nil (WL.reg ?_)
            refine OL.mv ?_
            refine OL.ad1 ?_
            refine OL.asg ?_
            refine OL.nil ⟨l.length - (q + 1), by omega, q + 1, V ++ [y], w', by omega, rfl, (by repeat (first | exact Sub.nil | refine Sub.cons rfl ?_)), fun z hz => ?_, by omega, p1, ?_, ?_, hR4⟩
            · rw [p2 z (by omega) (fun e => by have := (hW4.blk e).1; omega), T.get_upd_ne _ _ (by omega)]; exact hk4 z hz
            · rw [p2 n (by omega) (fun e => by have := (hW4.blk e).1; omega), T.get_upd_ne _ _ (by omega)]; exact hB4
            · have e1 : V.length + 1 + 1 = (V ++ [y]).length + 1 := by simp
              have e2 : ints (zs (it :: V)) ++ [Value.int .i64 (y : Int)] = ints (zs (it :: (V ++ [y]))) := by simp [ints, zs]
              rw [← e1, ← e2]
              exact p4.low (by omega)
        · refine OL.bF ?_; refine OL.mv ?_; refine OL.ps ?_; refine OL.ps ?_; refine OL.ps ?_; refine OL.ps ?_; refine OL.ps ?_; refine OL.ps ?_; refine OL.ps ?_; refine OL.ps ?_; refine OL.ps ?_; refine OL.pF ?_
          refine OL.nil (WL.condF rfl (WL.skip (WL.reg ?_)))
          refine OL.mv ?_
          refine OL.ad1 ?_
          refine OL.asg ?_
          exact OL.nil ⟨l.length - (q + 1), by omega, q + 1, V, w, by omega, rfl, (by repeat (first | exact Sub.nil | refine Sub.cons rfl ?_)), hk3, hn3, hf3, hB3, hW3, hR3.old hie (.inl (by omega))⟩
      · refine OL.bF ?_
        refine OL.nil (WL.condF rfl (WL.exit ?_))
        have hql : q = l.length := by omega
        subst hql
        have hd3 : d < V.length + 1 := (List.getElem?_eq_some_iff.1 hR3.at_).1
        have hV3 := hR3.rq.len hg
        exact ⟨_, by omega, d + 1, V, w, by omega, rfl, (by repeat (first | exact Sub.nil | refine Sub.cons rfl ?_)), hk3, hn3, hf3, hB3, hW3, hR3.done⟩
    · refine OL.bF ?_
      refine OL.nil (WL.condF rfl (WL.exit ?_))
      have hdV : d = V.length + 1 := by omega
      subst hdV
      refine WL.seq (WL.reg ?_)
      refine OL.mv ?_; refine OL.asg ?_
      refine OL.nil (WL.ret ⟨fun id e => (by cases e), _, rfl, hk2, by omega, hf2, n, rfl, Nat.le_refl _, ?_⟩)
      rw [hB2]
      congr 3
      funext k
      exact hR.fin k
  exact key

end Go.Sx

/- SvG: the reference's closure. -/
namespace Go.Sx
open Go.Proofs
set_option maxRecDepth 100000
set_option maxHeartbeats 4000000

theorem rclosure_cl (M : Nat) (s : Value) (l : List (Int × Int)) (h : T Blk) (n : Nat) (hf : Fresh h n) (he : Edges h s l) (hbs : ∀ k, n ≤ k → BelV k s) (hM : M ≤ 60) (hlen : l.length ≤ 400) (hg : GoodG (M : Int) l) :
    Gives 21 [.int .i64 (M : Int), s] h n fun v h' _ => ClosV M l n h' v := by
  have key : ∃ v h' n', Cl X 21 [.int .i64 (M : Int), s] h n (.ret v h' n') ∧ Keep n h h' ∧ n ≤ n' ∧ Fresh h' n' ∧ ClosV M l n h' v := by
    obtain ⟨v1, h1, n1, hc1, hk1, hn1, hf1, c', rfl, hcc⟩ := check2_cl (M : Int) s l h n hf he hbs hlen
    obtain rfl := hcc.uniq (.inr ⟨by omega, by omega, .inl ⟨rfl, hg⟩⟩ : CheckE (M : Int) l 0)
    refine Cl.wl (memoX (by decide)) fn21 rfl rfl rfl rfl ?_
    refine WL.seq (WL.reg ?_)
    refine OL.asg ?_; refine OL.asg ?_
    refine OL.nil (WL.seq (WL.seq (WL.reg ?_)))
    refine OL.mv ?_; refine OL.mv ?_
    refine OL.cf fn16 hc1 ?_
    refine OL.asg ?_
    refine OL.nil (WL.seq (WL.reg ?_))
    refine OL.mv ?_; refine OL.nF ?_
    refine OL.nil (WL.condF rfl (WL.skip ?_))
    refine WL.seq (WL.reg ?_)
    refine OL.asg ?_
    refine OL.nil (WL.seq (WL.seq (WL.reg ?_)))
    refine OL.asg ?_
    refine OL.nil (WL.block ?_)
    refine WL.loop (k := M) (fun k L h' n' => ∃ (i : Nat) (w : Value), i ≤ M ∧ k = M - i ∧ Sub [(8, .int .i64 (i : Int)), (7, w), (1, s), (0, .int .i64 (M : Int))] L ∧ Keep n h h' ∧ n ≤ n' ∧ Fresh h' n' ∧ App 2 n h' w (closP M (rchB l) i).length (eCs (closP M (rchB l) i))) ?_
      ⟨0, .slice none 0 0, Nat.zero_le _, rfl, (by repeat (first | exact Sub.nil | refine Sub.cons rfl ?_)), hk1, hn1, hf1, .inl ⟨rfl, rfl, rfl⟩⟩
    rintro k L h' n' ⟨i, w, hi, rfl, hs, hk, hn, hf', hW⟩
    refine WL.keep hs ?_
    refine WL.seq (WL.seq (WL.reg ?_))
    by_cases c1 : (i : Int) < (M : Int)
    · refine OL.mv ?_; refine OL.mv ?_; refine OL.bT ?_
      refine OL.nil (WL.condT rfl (WL.skip ?_))
      obtain ⟨v2, h2, n2, hc2, hk2, hn2, hf2, bo, rfl, hbo, hB⟩ := reachR_cl M i s l h' n' hf' (he.keep hf hk) (by omega) (by omega) hlen hg
      refine WL.seq (WL.block (WL.seq (WL.reg ?_)))
      refine OL.mv ?_; refine OL.mv ?_; refine OL.mv ?_
      refine OL.cf fn49 hc2 ?_
      refine OL.asg ?_
      refine OL.nil (WL.seq (WL.reg ?_))
      refine OL.asg ?_
      refine OL.nil (WL.block ?_)
      refine WL.loop (k := M) (fun k L h3 n3 => ∃ (j : Nat) (w : Value), j ≤ M ∧ k = M - j ∧ Sub [(10, .int .i64 (j : Int)), (9, .slice (some ⟨bo, 0, none⟩) M M), (8, .int .i64 (i : Int)), (7, w), (1, s), (0, .int .i64 (M : Int))] L ∧ Keep n h h3 ∧ n2 ≤ n3 ∧ Fresh h3 n3 ∧ h3.get bo = some (.cells (boolsF M (rchB l i))) ∧
        App 2 n h3 w (closP M (rchB l) i ++ rowP (rchB l) i j).length (eCs (closP M (rchB l) i ++ rowP (rchB l) i j)) ∧ blkOf w ≠ some bo) ?_
        ⟨0, w, Nat.zero_le _, rfl, (by repeat (first | exact Sub.nil | refine Sub.cons rfl ?_)), hk.trans hn hk2, Nat.le_refl _, hf2, hB, by simpa [rowP] using hW.kp hf' hk2, fun e => by obtain ⟨_, all, q⟩ := hW.blk e; have := hf'.lt q; omega⟩
      have hbo2 := hf2.lt hB
      rintro k L h3 n3 ⟨j, w, hj, rfl, hs3, hk3, hn3, hf3, hB3, hW3, hwb⟩
      have hcl1 := closP_len M (rchB l) i
      have hcl2 := rowP_len (rchB l) i j
      have hiM : i * M ≤ 60 * 60 := Nat.mul_le_mul (by omega) hM
      have hlen3 : (closP M (rchB l) i ++ rowP (rchB l) i j).length ≤ 4000 := by rw [List.length_append]; omega
      refine WL.keep hs3 ?_
      refine WL.seq (WL.seq (WL.reg ?_))
      by_cases c2 : (j : Int) < (M : Int)
      · refine OL.mv ?_; refine OL.mv ?_; refine OL.bT ?_
        refine OL.nil (WL.condT rfl (WL.skip ?_))
        have hjM : j < M := by omega
        have jx : ∀ {b k : Nat}, k < M → idxA X 38 (.slice (some ⟨b, 0, none⟩) M M) (.int .i64 (k : Int)) = some (.pointer (some ⟨b, k, none⟩)) := fun hk => idx1 ty38 ty4 rfl hk
        refine WL.seq (WL.block (WL.seq (WL.reg ?_)))
        refine OL.mv ?_; refine OL.mv ?_
        refine OL.ix (jx hjM) ?_
        refine OL.ld (load1 ty4 rfl (cells_of hB3) (boolsF_at hjM)) ?_
        have hrs := rowP_succ (rchB l) i j
        cases hrb : rchB l i j with
        | false =>
          rw [hrb] at hrs
          have hrs : rowP (rchB l) i (j + 1) = rowP (rchB l) i j := by simpa using hrs
          refine OL.nil (WL.condF rfl (WL.skip (WL.reg ?_)))
          refine OL.mv ?_
          refine OL.ad1 ?_
          refine OL.asg ?_
          exact OL.nil ⟨M - (j + 1), by omega, j + 1, w, by omega, rfl, (by repeat (first | exact Sub.nil | refine Sub.cons rfl ?_)), hk3, hn3, hf3, hB3, by rw [hrs]; exact hW3, hwb⟩
        | true =>
          rw [hrb] at hrs
          have hrs : rowP (rchB l) i (j + 1) = rowP (rchB l) i j ++ [((i : Int), (j : Int))] := by simpa using hrs
          refine OL.nil (WL.condT rfl (WL.reg ?_))
          have hW4 : App tPair.size n (h3.upd (some (.cells [.int .i64 (i : Int), .int .i64 (j : Int)])) n3) w (closP M (rchB l) i ++ rowP (rchB l) i j).length (eCs (closP M (rchB l) i ++ rowP (rchB l) i j)) := hW3.kp hf3 ((Keep.refl n3 h3).upd (Nat.le_refl n3) _)
          obtain ⟨w', hG, happ, q1, q2, q3, q4⟩ := append_app el22 hW4 (hf3.upd _) (x := .slice (some ⟨n3, 0, none⟩) 1 1) (xl := 1) (new := [.int .i64 (i : Int), .int .i64 (j : Int)]) ⟨_, _, rfl⟩ (by simp only [rowA, cells_of (T.get_upd_same _ _ _)]; rfl) (by omega) (by omega) rfl (by omega)
          refine OL.mv ?_; refine OL.mv ?_; refine OL.mv ?_
          refine OL.bd build35' ?_
          refine OL.bs buildE1 ?_
          refine OL.bi (appendB happ) ?_
          refine OL.asg ?_
          refine OL.nil (WL.reg ?_)
          refine OL.mv ?_
          refine OL.ad1 ?_
          refine OL.asg ?_
          refine OL.nil ⟨M - (j + 1), by omega, j + 1, w', by omega, rfl, (by repeat (first | exact Sub.nil | refine Sub.cons rfl ?_)), fun q hq => ?_, by omega, q1, ?_, ?_, fun e => by rw [q3] at e; cases e; omega⟩
          · rw [q2 q (by omega) (fun e => by have := (hW3.blk e).1; omega), T.get_upd_ne _ _ (by omega)]; exact hk3 q hq
          · rw [q2 bo (by omega) hwb, T.get_upd_ne _ _ (by omega)]; exact hB3
          · have e1 : (closP M (rchB l) i ++ rowP (rchB l) i j).length + 1 = (closP M (rchB l) i ++ rowP (rchB l) i (j + 1)).length := by rw [hrs]; simp; omega
            have e2 : eCs (closP M (rchB l) i ++ rowP (rchB l) i j) ++ [Value.int .i64 (i : Int), .int .i64 (j : Int)] = eCs (closP M (rchB l) i ++ rowP (rchB l) i (j + 1)) := by
              rw [hrs, ← List.append_assoc, eCs_append (closP M (rchB l) i ++ rowP (rchB l) i j)]; rfl
            rw [← e1, ← e2]
            exact q4.low (by omega)
      · refine OL.mv ?_; refine OL.mv ?_; refine OL.bF ?_
        refine OL.nil (WL.condF rfl (WL.exit ?_))
        have hjM : j = M := by omega
        subst hjM
        refine WL.reg ?_
        refine OL.mv ?_
        refine OL.ad1 ?_
        refine OL.asg ?_
        exact OL.nil ⟨j - (i + 1), by omega, i + 1, w, by omega, rfl, (by repeat (first | exact Sub.nil | refine Sub.cons rfl ?_)), hk3, by omega, hf3, by rw [closP_succ]; exact hW3⟩
    · refine OL.mv ?_; refine OL.mv ?_; refine OL.bF ?_
      refine OL.nil (WL.condF rfl (WL.exit ?_))
      have hiM : i = M := by omega
      subst hiM
      refine WL.seq (WL.reg ?_)
      refine OL.mv ?_; refine OL.asg ?_; refine OL.asg ?_
      exact OL.nil (WL.ret ⟨fun id e => (by cases e), _, rfl, hk, hn, hf', w, rfl, hW⟩)
  exact key

end Go.Sx

/- SvH: the reference's reduction. -/
namespace Go.Sx
open Go.Proofs
set_option maxRecDepth 100000
set_option maxHeartbeats 4000000

noncomputable def redT (l : List (Int × Int)) (i : Nat) : List (Int × Int) := (l.take i).filter fun e => !arndB l e
theorem redT_succ {l : List (Int × Int)} {i : Nat} {e : Int × Int} (hi : l[i]? = some e) : redT l (i + 1) = redT l i ++ (if arndB l e = true then [] else [e]) := by
  unfold redT
  rw [List.take_add_one, hi, List.filter_append]
  cases h : arndB l e <;> simp [h]
theorem redT_all (l : List (Int × Int)) : redT l l.length = redL l := by unfold redT redL; rw [List.take_length]
theorem redT_len (l : List (Int × Int)) (i : Nat) : (redT l i).length ≤ l.length := by
  unfold redT
  have := List.length_filter_le (fun e => !arndB l e) (l.take i)
  rw [List.length_take] at this
  omega

def RRedV (M : Nat) (l : List (Int × Int)) (n : Nat) (h' : T Blk) (v : Value) : Prop :=
  (∃ w, v = .tuple #[w, .int .i64 0] ∧ App 2 n h' w (redL l).length (eCs (redL l)) ∧ ∃ rk, Ranked l rk) ∨ (v = .tuple #[.slice none 0 0, .int .i64 151] ∧ Stuck M l)

theorem rreduce_cl (M : Nat) (s : Value) (l : List (Int × Int)) (h : T Blk) (n : Nat) (hf : Fresh h n) (hE : EdR n h s l) (hM : M ≤ 60) (hlen : l.length ≤ 400) (hg : GoodG (M : Int) l) :
    Gives 23 [.int .i64 (M : Int), s] h n fun v h' _ => RRedV M l n h' v := by
  have hbs : ∀ k, n ≤ k → BelV k s := fun k hk => hE.belW hk
  have he := hE.ed
  have key : ∃ v h' n', Cl X 23 [.int .i64 (M : Int), s] h n (.ret v h' n') ∧ Keep n h h' ∧ n ≤ n' ∧ Fresh h' n' ∧ RRedV M l n h' v := by
    obtain ⟨v1, h1, n1, hc1, hk1, hn1, hf1, hsv⟩ := rsort_cl M s l h n hf he hbs (by omega) hlen hg
    refine Cl.wl (memoX (by decide)) fn23 rfl rfl rfl rfl ?_
    refine WL.seq (WL.reg ?_)
    refine OL.asg ?_; refine OL.asg ?_
    refine OL.nil (WL.seq (WL.seq (WL.reg ?_)))
    rcases hsv with ⟨ws, out, rfl, _, hT, hoM⟩ | ⟨rfl, hst⟩
    · obtain ⟨rk, hrk⟩ : ∃ rk, Ranked l rk := ⟨_, topo_ranked hg hT hoM⟩
      refine OL.mv ?_; refine OL.mv ?_
      refine OL.cf fn12 hc1 ?_
      refine OL.mv ?_; refine OL.ext ?_; refine OL.ext ?_; refine OL.asg ?_; refine OL.asg ?_
      refine OL.nil (WL.seq (WL.reg ?_))
      refine OL.mv ?_; refine OL.nF ?_
      refine OL.nil (WL.condF rfl (WL.skip ?_))
      refine WL.seq (WL.reg ?_)
      refine OL.asg ?_
      refine OL.nil (WL.seq (WL.seq (WL.reg ?_)))
      refine OL.asg ?_
      refine OL.nil (WL.block ?_)
      refine WL.loop (k := l.length) (fun k L h2 n2 => ∃ (i : Nat) (w : Value), i ≤ l.length ∧ k = l.length - i ∧ Sub [(9, .int .i64 (i : Int)), (8, w), (1, s), (0, .int .i64 (M : Int))] L ∧ Keep n h h2 ∧ n ≤ n2 ∧ Fresh h2 n2 ∧ App 2 n h2 w (redT l i).length (eCs (redT l i))) ?_
        ⟨0, .slice none 0 0, Nat.zero_le _, rfl, (by repeat (first | exact Sub.nil | refine Sub.cons rfl ?_)), hk1, hn1, hf1, .inl ⟨rfl, rfl, rfl⟩⟩
      rintro k L h2 n2 ⟨i, w, hi, rfl, hs2, hk2, hn2, hf2, hW2⟩
      have hrl := redT_len l i
      refine WL.keep hs2 ?_
      refine WL.seq (WL.seq (WL.reg ?_))
      refine OL.mv ?_; refine OL.mv ?_
      refine OL.bi he.len ?_
      by_cases c1 : (i : Int) < (l.length : Int)
      · refine OL.bT ?_
        refine OL.nil (WL.condT rfl (WL.skip ?_))
        obtain ⟨⟨e1, e2⟩, hie⟩ : ∃ e, l[i]? = some e := ⟨_, List.getElem?_eq_getElem (by omega)⟩
        obtain ⟨g1, g2, g3, g4, g5⟩ := hg.ok (e1, e2) (List.mem_of_getElem? hie)
        simp only at g1 g2 g3 g4 g5
        obtain ⟨x, rfl⟩ : ∃ x : Nat, e1 = (x : Int) := ⟨e1.toNat, by omega⟩
        obtain ⟨y, rfl⟩ : ∃ y : Nat, e2 = (y : Int) := ⟨e2.toNat, by omega⟩
        have hyM : y < M := by omega
        have hE2 : EdR n2 h2 s l := hE.keep hf hk2 hn2
        obtain ⟨v3, h3, n3, hc3, hk3, hn3, hf3, hO3⟩ := cloneE_cl l s h2 n2 hf2 hE2 (by omega)
        obtain ⟨v4, h4, n4, hc4, hk4, hn4, hf4, hE4⟩ := deleteE_cl l i v3 h3 n3 n2 hf3 hO3 (by omega) (by omega)
        have hk24 : Keep n2 h2 h4 := fun q hq => (hk4 q hq).trans (hk3 q hq)
        have hg4 : GoodG (M : Int) (l.eraseIdx i) := hg.sub (hg.inc'.erase i) fun e he => (List.eraseIdx_sublist l i).subset he
        have hl4 : (l.eraseIdx i).length ≤ 400 := by have := (List.eraseIdx_sublist l i).length_le; omega
        obtain ⟨v5, h5, n5, hc5, hk5, hn5, hf5, bo, rfl, hbo, hB5⟩ := reachR_cl M x v4 (l.eraseIdx i) h4 n4 hf4 hE4.ed (by omega) (by omega) hl4 hg4
        have hk25 : Keep n2 h2 h5 := hk24.trans (by omega) hk5
        have hk05 : Keep n h h5 := hk2.trans hn2 hk25
        have he4 := he.keep hf (hk2.trans hn2 hk24)
        have he5 := he.keep hf hk05
        have hW5 := hW2.kp hf2 hk25
        obtain ⟨b4, o4, hx1, hx2, hx3, _, _⟩ := he4.at2 hie
        obtain ⟨b5, o5, hy1, hy2, hy3, hy4, _⟩ := he5.at2 hie
        have hrc : rchB (l.eraseIdx i) x y = arndB l ((x : Int), (y : Int)) := by
          rw [Bool.eq_iff_iff, rchB_iff, arndB_iff]
          exact arnd_erase hg.inc' hrk hie
        have hrs := redT_succ hie
        refine WL.seq (WL.block (WL.seq (WL.reg ?_)))
        refine OL.mv ?_
        refine OL.cf fn31 hc3 ?_
        refine OL.mv ?_; refine OL.mv ?_
        refine OL.ad1 ?_
        refine OL.cf fn30 hc4 ?_
        refine OL.asg ?_
        refine OL.nil (WL.seq (WL.reg ?_))
        refine OL.mv ?_; refine OL.mv ?_; refine OL.mv ?_; refine OL.mv ?_
        refine OL.ix hx1 ?_
        refine OL.ix idx_pair0 ?_
        refine OL.ld hx2 ?_
        refine OL.cf fn49 hc5 ?_
        refine OL.asg ?_
        refine OL.nil (WL.seq (WL.reg ?_))
        refine OL.mv ?_; refine OL.mv ?_; refine OL.mv ?_
        refine OL.ix hy1 ?_
        refine OL.ix idx_pair1 ?_
        refine OL.ld hy3 ?_
        refine OL.ix (ix38 hyM) ?_
        cases ha : arndB l ((x : Int), (y : Int)) with
        | true =>
          rw [ha] at hrc
          have hbv : (boolsF M (rchB (l.eraseIdx i) x))[y]? = some (.bool true) := by rw [boolsF_at hyM, hrc]
          rw [if_pos ha, List.append_nil] at hrs
          refine OL.ld (load1 ty4 rfl (cells_of hB5) hbv) ?_
          refine OL.un ?_
          refine OL.nil (WL.condF rfl (WL.skip (WL.reg ?_)))
          refine OL.mv ?_
          refine OL.ad1 ?_
          refine OL.asg ?_
          exact OL.nil ⟨l.length - (i + 1), by omega, i + 1, w, by omega, rfl, (by repeat (first | exact Sub.nil | refine Sub.cons rfl ?_)), hk05, by omega, hf5, by rw [hrs]; exact hW5⟩
        | false =>
          rw [ha] at hrc
          have hbv : (boolsF M (rchB (l.eraseIdx i) x))[y]? = some (.bool false) := by rw [boolsF_at hyM, hrc]
          rw [if_neg (by rw [ha]; simp)] at hrs
          refine OL.ld (load1 ty4 rfl (cells_of hB5) hbv) ?_
          have hW6 : App tPair.size n (h5.upd (some (.cells [.int .i64 (x : Int), .int .i64 (y : Int)])) n5) w (redT l i).length (eCs (redT l i)) := hW5.kp hf5 ((Keep.refl n5 h5).upd (Nat.le_refl n5) _)
          obtain ⟨w', hG, happ, q1, q2, q3, q4⟩ := append_app el22 hW6 (hf5.upd _) (x := .slice (some ⟨n5, 0, none⟩) 1 1) (xl := 1) (new := [.int .i64 (x : Int), .int .i64 (y : Int)]) ⟨_, _, rfl⟩ (by simp only [rowA, cells_of (T.get_upd_same _ _ _)]; rfl) (by omega) (by omega) rfl (by omega)
          refine OL.un ?_
          refine OL.nil (WL.condT rfl (WL.reg ?_))
          refine OL.mv ?_; refine OL.mv ?_; refine OL.mv ?_
          refine OL.ix hy1 ?_
          refine OL.ld hy4 ?_
          refine OL.bs buildE1 ?_
          refine OL.bi (appendB happ) ?_
          refine OL.asg ?_
          refine OL.nil (WL.reg ?_)
          refine OL.mv ?_
          refine OL.ad1 ?_
          refine OL.asg ?_
          refine OL.nil ⟨l.length - (i + 1), by omega, i + 1, w', by omega, rfl, (by repeat (first | exact Sub.nil | refine Sub.cons rfl ?_)), fun q hq => ?_, by omega, q1, ?_⟩
          · rw [q2 q (by omega) (fun e => by have := (hW5.blk e).1; omega), T.get_upd_ne _ _ (by omega)]; exact hk05 q hq
          · have e1 : (redT l i).length + 1 = (redT l (i + 1)).length := by rw [hrs]; simp
            have e2 : eCs (redT l i) ++ [Value.int .i64 (x : Int), .int .i64 (y : Int)] = eCs (redT l (i + 1)) := by rw [hrs, eCs_append]; rfl
            rw [← e1, ← e2]
            exact q4.low (by omega)
      · refine OL.bF ?_
        refine OL.nil (WL.condF rfl (WL.exit ?_))
        have hil : i = l.length := by omega
        subst hil
        rw [redT_all] at hW2
        refine WL.seq (WL.reg ?_)
        refine OL.mv ?_; refine OL.asg ?_; refine OL.asg ?_
        exact OL.nil (WL.ret ⟨fun id e => (by cases e), _, rfl, hk2, hn2, hf2, .inl ⟨w, rfl, hW2, rk, hrk⟩⟩)
    · refine OL.mv ?_; refine OL.mv ?_
      refine OL.cf fn12 hc1 ?_
      refine OL.mv ?_; refine OL.ext ?_; refine OL.ext ?_; refine OL.asg ?_; refine OL.asg ?_
      refine OL.nil (WL.seq (WL.reg ?_))
      refine OL.mv ?_; refine OL.nT ?_
      refine OL.nil (WL.condT rfl (WL.seq (WL.reg ?_)))
      refine OL.mv ?_; refine OL.asg ?_; refine OL.asg ?_
      exact OL.nil (WL.ret ⟨fun id e => (by cases e), _, rfl, hk1, hn1, hf1, .inr ⟨rfl, hst⟩⟩)
  exact key

end Go.Sx

/- SvI: the law OrderLevels. -/
namespace Go.Sx
open Go.Proofs
set_option maxRecDepth 100000
set_option maxHeartbeats 4000000

theorem fn4 : X.fn.get 4 = some Tryz.f4 := by kernel_rfl

theorem ranked_stuck {M : Nat} {l : List (Int × Int)} {rk : Nat → Nat} (hr : Ranked l rk) (hs : Stuck M l) : False := by
  obtain ⟨R, ⟨k0, h0⟩, _, hR⟩ := hs
  have key : ∀ n k, rk k ≤ n → ¬ R k := by
    intro n
    induction n with
    | zero => intro k hk h; obtain ⟨a, _, he⟩ := hR k h; have := hr a k he; omega
    | succ n ih => intro k hk h; obtain ⟨a, ha, he⟩ := hR k h; have := hr a k he; exact ih a (by omega) ha
  exact key _ k0 (Nat.le_refl _) h0
theorem LvOK.ranked {M : Nat} {l : List (Int × Int)} {lv : Nat → Int} (h : LvOK M l lv) : Ranked l fun k => (lv k).toNat := fun a b he => by
  have h1 := h.up a b he
  have h2 := h.nn a
  show (lv a).toNat < (lv b).toNat
  omega

theorem levels2_cl (M : Nat) (s : Value) (l : List (Int × Int)) (h : T Blk) (n : Nat) (hf : Fresh h n) (he : Edges h s l) (hbs : ∀ k, n ≤ k → BelV k s) (hM : M ≤ 400) (hlen : l.length ≤ 400) (hg : GoodG (M : Int) l) :
    Gives 18 [.int .i64 (M : Int), s] h n fun v h' _ => RLevelsV M l n h' v := by
  have key : ∃ v h' n', Cl X 18 [.int .i64 (M : Int), s] h n (.ret v h' n') ∧ Keep n h h' ∧ n ≤ n' ∧ Fresh h' n' ∧ RLevelsV M l n h' v := by
    obtain ⟨v1, h1, n1, hc1, hk1, hn1, hf1, hsv⟩ := sort2_cl M s l h n hf he hbs hM hlen hg
    refine Cl.wl (memoX (by decide)) fn18 rfl rfl rfl rfl ?_
    refine WL.seq (WL.reg ?_)
    refine OL.asg ?_; refine OL.asg ?_
    refine OL.nil (WL.seq (WL.reg ?_))
    rcases hsv with ⟨w, out, rfl, ho1, ho2, ho3⟩ | ⟨rfl, hst⟩
    · refine OL.mv ?_; refine OL.mv ?_
      refine OL.cf fn11 hc1 ?_
      refine OL.mv ?_; refine OL.ext ?_; refine OL.ext ?_; refine OL.asg ?_; refine OL.asg ?_
      refine OL.nil (WL.seq (WL.seq (WL.reg ?_)))
      refine OL.mv ?_; refine OL.nF ?_
      refine OL.nil (WL.condF rfl (WL.skip ?_))
      obtain ⟨v2, h2, n2, hc2, hk2, hn2, hf2, p, rfl, hgr⟩ := graphOf_cl M s l h1 n1 hf1 (he.keep hf hk1) (fun k hk => hbs k (by omega)) hlen hM hg
      obtain ⟨v3, h3, n3, hc3, hk3, hn3, hf3, lv, b, rfl, hb1, hb2, hb3⟩ := levels_cl M s l h2 n2 n1 n p w out hf2 hgr (ho1.keep hf1 hk2) ho2 ho3 hM hlen hg
      refine WL.seq (WL.reg ?_)
      refine OL.mv ?_; refine OL.mv ?_
      refine OL.cf fn40 hc2 ?_
      refine OL.mv ?_; refine OL.ext ?_; refine OL.ext ?_; refine OL.asg ?_; refine OL.asg ?_
      refine OL.nil (WL.seq (WL.reg ?_))
      refine OL.mv ?_; refine OL.mv ?_
      refine OL.cf fn47 hc3 ?_
      refine OL.asg ?_; refine OL.asg ?_
      exact OL.nil (WL.ret ⟨fun id e => (by cases e), _, rfl, (hk1.trans hn1 hk2).trans (by omega) hk3, by omega, hf3, .inl ⟨lv, b, rfl, by omega, hb2, hb3⟩⟩)
    · refine OL.mv ?_; refine OL.mv ?_
      refine OL.cf fn11 hc1 ?_
      refine OL.mv ?_; refine OL.ext ?_; refine OL.ext ?_; refine OL.asg ?_; refine OL.asg ?_
      refine OL.nil (WL.seq (WL.seq (WL.reg ?_)))
      refine OL.mv ?_; refine OL.nT ?_
      refine OL.nil (WL.condT rfl (WL.seq (WL.reg ?_)))
      refine OL.mv ?_; refine OL.asg ?_; refine OL.asg ?_
      exact OL.nil (WL.ret ⟨fun id e => (by cases e), _, rfl, hk1, hn1, hf1, .inr ⟨rfl, hst⟩⟩)
  exact key

theorem natsF_rd {M b n : Nat} {h : T Blk} {lv : Nat → Int} (hf : Fresh h n) (hb : h.get b = some (.cells (natsF M lv))) : RdI n h (.slice (some ⟨b, 0, none⟩) M M) ((List.range M).map lv) := by
  have hbn := hf.lt hb
  refine ⟨⟨_, M, by rw [List.length_map, List.length_range]⟩, fun j x hx => ⟨b, j, hbn, ?_, fun h' hk => ?_⟩⟩
  · have hj : j < M := by
      have := (List.getElem?_eq_some_iff.1 hx).1
      simpa using this
    exact idx1 ty25 ty3 rfl hj
  · have hj : j < M := by
      have := (List.getElem?_eq_some_iff.1 hx).1
      simpa using this
    have hxj : lv j = x := by simpa [hj] using hx
    exact load1 ty3 rfl (cells_of ((hk b hbn).trans hb)) (by rw [natsF_at hj, hxj])

theorem RLevelsV.ans {f : FuncId} {M n : Nat} {l : List (Int × Int)} {s : Value} {lv : Nat → Int} {h : T Blk} (hg : GoodG (M : Int) l) (hL : LvOK M l lv) (g : Gives f [.int .i64 (M : Int), s] h n fun v h' _ => RLevelsV M l n h' v) : AnsI f M s 0 ((List.range M).map lv) h n := by
  obtain ⟨v, h', n', q1, q2, q3, q4, q5⟩ := g
  rcases q5 with ⟨lv', b, rfl, p1, p2, p3⟩ | ⟨_, hst⟩
  · obtain rfl : lv' = lv := funext fun k => p3.uniq hg hL.ranked hL k
    exact ⟨_, h', n', q1, q2, q3, q4, _, rfl, natsF_rd q4 p2⟩
  · exact (ranked_stuck hL.ranked hst).elim
theorem RLevelsV.stuck {f : FuncId} {M n : Nat} {l : List (Int × Int)} {s : Value} {h : T Blk} (hst : Stuck M l) (g : Gives f [.int .i64 (M : Int), s] h n fun v h' _ => RLevelsV M l n h' v) : AnsI f M s 151 [] h n := by
  obtain ⟨v, h', n', q1, q2, q3, q4, q5⟩ := g
  rcases q5 with ⟨lv', b, rfl, p1, p2, p3⟩ | ⟨rfl, _⟩
  · exact (ranked_stuck p3.ranked hst).elim
  · exact ⟨_, h', n', q1, q2, q3, q4, _, rfl, .nil⟩

theorem App.rdP {lo n : Nat} {h : T Blk} {v : Value} {C : List (Int × Int)} (a : App 2 lo h v C.length (eCs C)) (hf : Fresh h n) : RdE n h v C := by
  refine ⟨?_, fun j e hj => ?_⟩
  · rcases a with ⟨rfl, h1, _⟩ | ⟨b, o, cap, all, rfl, _⟩
    · rw [h1]; exact ⟨_, _, rfl⟩
    · exact ⟨_, _, rfl⟩
  · have hlt := (List.getElem?_eq_some_iff.1 hj).1
    obtain ⟨b, o, h1, h2, h3⟩ := App.idx el22 (show App tPair.size lo h v C.length (eCs C) from a) hlt
    obtain ⟨_, all, h4⟩ := a.blk h1
    refine ⟨b, o, hf.lt h4, h2, fun h' hk => ?_⟩
    obtain ⟨all', q1, _, q3⟩ := h3 h' (hk b (hf.lt h4))
    have r0 := q3 0 (by decide)
    have r1 := q3 1 (by decide)
    have e2 := eCs_at hj
    exact load2 (cells_of q1) (by rw [show o = o + 0 from rfl, r0]; exact e2.1) (by rw [r1]; exact e2.2)

/- An answer: pairs, and an error. -/
def AnsE (f : FuncId) (m : Int) (s : Value) (e : Int) (C : List (Int × Int)) (h : T Blk) (n : Nat) : Prop := Gives f [.int .i64 m, s] h n fun v h' n' => ∃ a, v = .tuple #[a, .int .i64 e] ∧ RdE n' h' a C
theorem RdE.nil {n : Nat} {h : T Blk} : RdE n h (.slice none 0 0) [] := ⟨⟨_, _, rfl⟩, fun j x hj => by simp at hj⟩
theorem AnsE.err {f : FuncId} {m : Int} {s : Value} {e : Int} {h : T Blk} {n : Nat} (g : Gives f [.int .i64 m, s] h n fun v _ _ => ErrV e v) : AnsE f m s e [] h n := by
  obtain ⟨v, h', n', q1, q2, q3, q4, q5⟩ := g
  exact ⟨v, h', n', q1, q2, q3, q4, _, q5, .nil⟩
theorem ClosV.ans {f : FuncId} {M n : Nat} {l : List (Int × Int)} {s : Value} {h : T Blk} (g : Gives f [.int .i64 (M : Int), s] h n fun v h' _ => ClosV M l n h' v) : AnsE f M s 0 (clos M l) h n := by
  obtain ⟨v, h', n', q1, q2, q3, q4, w, rfl, p⟩ := g
  exact ⟨_, h', n', q1, q2, q3, q4, w, rfl, App.rdP p q4⟩

section
variable {m c : Int} {s : Value} {l : List (Int × Int)} {h : T Blk} {n : Nat}

theorem levels_ans (hf : Fresh h n) (he : Edges h s l) (hbs : ∀ k, n ≤ k → BelV k s) (hlen : l.length ≤ 400) (hm : m ≤ 60 ∨ 400 < m) (hc : CheckE m l c) :
    ∃ e xs, xs.length ≤ 400 ∧ ∀ h2 n2, Keep n h h2 → n ≤ n2 → Fresh h2 n2 → AnsI 18 m s e xs h2 n2 ∧ AnsI 19 m s e xs h2 n2 := by
  by_cases h0 : c = 0
  · subst h0
    obtain ⟨hg, h400⟩ := hc.zero
    have hlo := hg.lo
    obtain ⟨M, rfl⟩ : ∃ M : Nat, m = (M : Int) := ⟨m.toNat, by omega⟩
    have g1 := fun h2 n2 (hk : Keep n h h2) (hn : n ≤ n2) (hf2 : Fresh h2 n2) => levels2_cl M s l h2 n2 hf2 (he.keep hf hk) (fun k hk => hbs k (by omega)) (by omega) hlen hg
    have g2 := fun h2 n2 (hk : Keep n h h2) (hn : n ≤ n2) (hf2 : Fresh h2 n2) => rlevels_cl M s l h2 n2 hf2 (he.keep hf hk) (fun k hk => hbs k (by omega)) (by omega) hlen hg
    obtain ⟨v0, h0, n0, _, _, _, _, hr⟩ := g1 h n (Keep.refl _ _) (Nat.le_refl _) hf
    rcases hr with ⟨lv, b, _, _, _, hL⟩ | ⟨_, hst⟩
    · exact ⟨0, (List.range M).map lv, by rw [List.length_map, List.length_range]; omega, fun h2 n2 hk hn hf2 => ⟨RLevelsV.ans hg hL (g1 h2 n2 hk hn hf2), RLevelsV.ans hg hL (g2 h2 n2 hk hn hf2)⟩⟩
    · exact ⟨151, [], by simp, fun h2 n2 hk hn hf2 => ⟨RLevelsV.stuck hst (g1 h2 n2 hk hn hf2), RLevelsV.stuck hst (g2 h2 n2 hk hn hf2)⟩⟩
  · exact ⟨c, [], by simp, fun h2 n2 hk hn hf2 => ⟨.err (levelsE_cl m s l c h2 n2 hf2 (he.keep hf hk) (fun k hk => hbs k (by omega)) hlen hc h0), .err (rlevelsE_cl m s l c h2 n2 hf2 (he.keep hf hk) (fun k hk => hbs k (by omega)) hlen hc h0)⟩⟩

theorem closure_ans (hf : Fresh h n) (he : Edges h s l) (hbs : ∀ k, n ≤ k → BelV k s) (hlen : l.length ≤ 400) (hm : m ≤ 60 ∨ 400 < m) (hc : CheckE m l c) :
    ∃ e C, C.length ≤ 100000 ∧ (∀ y ∈ C, I64E y) ∧ ∀ h2 n2, Keep n h h2 → n ≤ n2 → Fresh h2 n2 → AnsE 20 m s e C h2 n2 ∧ AnsE 21 m s e C h2 n2 := by
  by_cases h0 : c = 0
  · subst h0
    obtain ⟨hg, h400⟩ := hc.zero
    have hlo := hg.lo
    obtain ⟨M, rfl⟩ : ∃ M : Nat, m = (M : Int) := ⟨m.toNat, by omega⟩
    refine ⟨0, clos M l, ?_, fun y hy => ?_, fun h2 n2 hk hn hf2 => ⟨ClosV.ans (closure_cl M s l h2 n2 hf2 (he.keep hf hk) (fun k hk => hbs k (by omega)) (by omega) hlen hg), ClosV.ans (rclosure_cl M s l h2 n2 hf2 (he.keep hf hk) (fun k hk => hbs k (by omega)) (by omega) hlen hg)⟩⟩
    · have h1 := closL_len M (rchB l)
      have h2 : M * M ≤ 60 * 60 := Nat.mul_le_mul (by omega) (by omega)
      unfold clos; omega
    · obtain ⟨a, b, ha, hb, rfl⟩ := clos_nat hy
      exact ⟨I64.nat (by omega), I64.nat (by omega)⟩
  · exact ⟨c, [], by simp, by simp, fun h2 n2 hk hn hf2 => ⟨.err (closureE_cl m s l c h2 n2 hf2 (he.keep hf hk) (fun k hk => hbs k (by omega)) hlen hc h0), .err (rclosureE_cl m s l c h2 n2 hf2 (he.keep hf hk) (fun k hk => hbs k (by omega)) hlen hc h0)⟩⟩

theorem reduce_ans (hf : Fresh h n) (hE : EdR n h s l) (hlen : l.length ≤ 400) (hm : m ≤ 60 ∨ 400 < m) (hc : CheckE m l c) :
    ∃ e C, C.length ≤ 100000 ∧ (∀ y ∈ C, I64E y) ∧ ∀ h2 n2, Keep n h h2 → n ≤ n2 → Fresh h2 n2 → AnsE 22 m s e C h2 n2 ∧ AnsE 23 m s e C h2 n2 := by
  have he := hE.ed
  have hbs : ∀ k, n ≤ k → BelV k s := fun k hk => hE.belW hk
  by_cases h0 : c = 0
  · subst h0
    obtain ⟨hg, h400⟩ := hc.zero
    have hlo := hg.lo
    obtain ⟨M, rfl⟩ : ∃ M : Nat, m = (M : Int) := ⟨m.toNat, by omega⟩
    have g1 := fun h2 n2 (hk : Keep n h h2) (hn : n ≤ n2) (hf2 : Fresh h2 n2) => reduce_cl M s l h2 n2 hf2 (hE.keep hf hk hn) (by omega) hlen hg
    have g2 := fun h2 n2 (hk : Keep n h h2) (hn : n ≤ n2) (hf2 : Fresh h2 n2) => rreduce_cl M s l h2 n2 hf2 (hE.keep hf hk hn) (by omega) hlen hg
    obtain ⟨v0, h0, n0, _, _, _, _, hr⟩ := g2 h n (Keep.refl _ _) (Nat.le_refl _) hf
    rcases hr with ⟨_, _, _, rk, hrk⟩ | ⟨_, hst⟩
    · refine ⟨0, redL l, by have := redL_len l; omega, fun y hy => hg.i64 (by omega) (redL_sub hy), fun h2 n2 hk hn hf2 => ⟨?_, ?_⟩⟩
      · obtain ⟨v, h', n', q1, q2, q3, q4, w, q5⟩ := g1 h2 n2 hk hn hf2
        rcases q5 with ⟨rfl, p1, _⟩ | ⟨_, _, hst⟩
        · exact ⟨_, h', n', q1, q2, q3, q4, w, rfl, p1.rd q4⟩
        · exact (ranked_stuck hrk hst).elim
      · obtain ⟨v, h', n', q1, q2, q3, q4, q5⟩ := g2 h2 n2 hk hn hf2
        rcases q5 with ⟨w, rfl, p1, _⟩ | ⟨_, hst⟩
        · exact ⟨_, h', n', q1, q2, q3, q4, w, rfl, App.rdP p1 q4⟩
        · exact (ranked_stuck hrk hst).elim
    · refine ⟨151, [], by simp, by simp, fun h2 n2 hk hn hf2 => ⟨?_, ?_⟩⟩
      · obtain ⟨v, h', n', q1, q2, q3, q4, w, q5⟩ := g1 h2 n2 hk hn hf2
        rcases q5 with ⟨_, _, rk, hrk⟩ | ⟨rfl, rfl, _⟩
        · exact (ranked_stuck hrk hst).elim
        · exact ⟨_, h', n', q1, q2, q3, q4, _, rfl, .nil⟩
      · obtain ⟨v, h', n', q1, q2, q3, q4, q5⟩ := g2 h2 n2 hk hn hf2
        rcases q5 with ⟨w, _, _, rk, hrk⟩ | ⟨rfl, _⟩
        · exact (ranked_stuck hrk hst).elim
        · exact ⟨_, h', n', q1, q2, q3, q4, _, rfl, .nil⟩
  · exact ⟨c, [], by simp, by simp, fun h2 n2 hk hn hf2 => ⟨.err (reduceE_cl m s l c h2 n2 hf2 (he.keep hf hk) (fun k hk => hbs k (by omega)) hlen hc h0), .err (rreduceE_cl m s l c h2 n2 hf2 (he.keep hf hk) (fun k hk => hbs k (by omega)) hlen hc h0)⟩⟩

end

theorem levelsLaw_cl (m : Int) (s : Value) (l : List (Int × Int)) (h : T Blk) (n : Nat) (hf : Fresh h n) (he : Edges h s l) (hrow : rowA h 2 l.length s = some (eCs l)) (hbs : ∀ k, n ≤ k → BelV k s) (hgro : groOK h gro0 = true) (_ : 1 ≤ n) :
    Gives 4 [.int .i64 m, s] h n fun v _ _ => v = .bool true := by
  have hE : EdR n h s l := ⟨he, hrow, hbs n (Nat.le_refl _)⟩
  have key : ∃ v h' n', Cl X 4 [.int .i64 m, s] h n (.ret v h' n') ∧ Keep n h h' ∧ n ≤ n' ∧ Fresh h' n' ∧ v = .bool true := by
    obtain ⟨v1, h1, n1, hc1, hk1, hn1, hf1, rfl⟩ := small_cl m 60 s l h n hf he
    refine Cl.wl (memoX (by decide)) fn4 rfl rfl rfl rfl ?_
    refine WL.seq (WL.reg ?_)
    refine OL.asg ?_
    refine OL.nil (WL.seq (WL.seq (WL.reg ?_)))
    refine OL.cf fn9 (Cl.memo (memo9 hgro)) ?_
    refine OL.un ?_
    refine OL.nil (WL.condF rfl (WL.skip ?_))
    refine WL.seq (WL.seq (WL.reg ?_))
    refine OL.mv ?_; refine OL.mv ?_
    refine OL.cf fn10 hc1 ?_
    by_cases hsm : l.length ≤ 400 ∧ (m ≤ 60 ∨ 400 < m)
    · rw [decide_eq_true hsm]
      obtain ⟨hlen, hm⟩ := hsm
      obtain ⟨c, hc⟩ := check_ex m l
      obtain ⟨e1, xs1, hx1, ha1⟩ := levels_ans hf he hbs hlen hm hc
      obtain ⟨e2, C2, hx2, hi2, ha2⟩ := closure_ans hf he hbs hlen hm hc
      obtain ⟨e3, C3, hx3, hi3, ha3⟩ := reduce_ans hf hE hlen hm hc
      obtain ⟨va, h2, n2, hc2, hk2, hn2, hf2, wa, rfl, ra⟩ := (ha1 h1 n1 hk1 hn1 hf1).1
      have k2 := hk1.trans hn1 hk2
      obtain ⟨vb, h3, n3, hc3, hk3, hn3, hf3, wb, rfl, rb⟩ := (ha1 h2 n2 k2 (by omega) hf2).2
      have k3 := k2.trans (by omega) hk3
      obtain ⟨vc, h4, n4, hc4, hk4, hn4, hf4, wc, rfl, rc⟩ := (ha2 h3 n3 k3 (by omega) hf3).1
      have k4 := k3.trans (by omega) hk4
      obtain ⟨vd, h5, n5, hc5, hk5, hn5, hf5, wd, rfl, rd⟩ := (ha2 h4 n4 k4 (by omega) hf4).2
      have k5 := k4.trans (by omega) hk5
      obtain ⟨ve, h6, n6, hc6, hk6, hn6, hf6, we, rfl, re⟩ := (ha3 h5 n5 k5 (by omega) hf5).1
      have k6 := k5.trans (by omega) hk6
      obtain ⟨vf, h7, n7, hc7, hk7, hn7, hf7, wf, rfl, rf⟩ := (ha3 h6 n6 k6 (by omega) hf6).2
      have k7 := k6.trans (by omega) hk7
      have k57 : Keep n5 h5 h7 := hk6.trans hn6 hk7
      have k37 : Keep n3 h3 h7 := (hk4.trans hn4 hk5).trans (by omega) k57
      have ra7 : RdI n7 h7 wa xs1 := (ra.mono hk3 hn3).mono k37 (by omega)
      have rb7 : RdI n7 h7 wb xs1 := rb.mono k37 (by omega)
      obtain ⟨v8, h8, n8, hc8, hk8, hn8, hf8, rfl⟩ := equalI_cl xs1 xs1 wa wb h7 n7 hf7 ra7 rb7 (by omega)
      rw [decide_eq_true rfl] at hc8
      have rc8 : RdE n8 h8 wc C2 := ((rc.mono hk5 hn5).mono k57 (by omega)).mono hk8 hn8
      have rd8 : RdE n8 h8 wd C2 := (rd.mono k57 (by omega)).mono hk8 hn8
      obtain ⟨v9, h9, n9, hc9, hk9, hn9, hf9, rfl⟩ := equalE_cl C2 C2 wc wd h8 n8 hf8 rc8 rd8 hi2 hi2 hx2
      rw [decide_eq_true rfl] at hc9
      have re9 : RdE n9 h9 we C3 := ((re.mono hk7 hn7).mono hk8 hn8).mono hk9 hn9
      have rf9 : RdE n9 h9 wf C3 := (rf.mono hk8 hn8).mono hk9 hn9
      obtain ⟨v10, h10, n10, hc10, hk10, hn10, hf10, rfl⟩ := equalE_cl C3 C3 we wf h9 n9 hf9 re9 rf9 hi3 hi3 hx3
      rw [decide_eq_true rfl] at hc10
      refine OL.un ?_
      refine OL.nil (WL.condF rfl (WL.skip ?_))
      refine WL.seq (WL.reg ?_)
      refine OL.mv ?_; refine OL.mv ?_
      refine OL.cf fn18 hc2 ?_
      refine OL.mv ?_; refine OL.ext ?_; refine OL.ext ?_; refine OL.asg ?_; refine OL.asg ?_
      refine OL.nil (WL.seq (WL.reg ?_))
      refine OL.mv ?_; refine OL.mv ?_
      refine OL.cf fn19 hc3 ?_
      refine OL.mv ?_; refine OL.ext ?_; refine OL.ext ?_; refine OL.asg ?_; refine OL.asg ?_
      refine OL.nil (WL.seq (WL.reg ?_))
      refine OL.mv ?_; refine OL.mv ?_
      refine OL.cf fn20 hc4 ?_
      refine OL.mv ?_; refine OL.ext ?_; refine OL.ext ?_; refine OL.asg ?_; refine OL.asg ?_
      refine OL.nil (WL.seq (WL.reg ?_))
      refine OL.mv ?_; refine OL.mv ?_
      refine OL.cf fn21 hc5 ?_
      refine OL.mv ?_; refine OL.ext ?_; refine OL.ext ?_; refine OL.asg ?_; refine OL.asg ?_
      refine OL.nil (WL.seq (WL.reg ?_))
      refine OL.mv ?_; refine OL.mv ?_
      refine OL.cf fn22 hc6 ?_
      refine OL.mv ?_; refine OL.ext ?_; refine OL.ext ?_; refine OL.asg ?_; refine OL.asg ?_
      refine OL.nil (WL.seq (WL.reg ?_))
      refine OL.mv ?_; refine OL.mv ?_
      refine OL.cf fn23 hc7 ?_
      refine OL.mv ?_; refine OL.ext ?_; refine OL.ext ?_; refine OL.asg ?_; refine OL.asg ?_
      refine OL.nil (WL.seq (WL.reg ?_))
      have t1 : e1 = e1 := rfl
      have t2 : e2 = e2 := rfl
      have t3 : e3 = e3 := rfl
      refine OL.mv ?_; refine OL.mv ?_
      refine OL.cf fn17 hc8 ?_
      refine OL.mv ?_; refine OL.mv ?_; refine OL.mv ?_; refine OL.bT ?_; refine OL.pT ?_; refine OL.mv ?_; refine OL.mv ?_; refine OL.mv ?_
      refine OL.cf fn24 hc9 ?_
      refine OL.pT ?_; refine OL.mv ?_; refine OL.mv ?_; refine OL.mv ?_; refine OL.bT ?_; refine OL.pT ?_; refine OL.mv ?_; refine OL.mv ?_; refine OL.mv ?_
      refine OL.cf fn24 hc10 ?_
      refine OL.pT ?_; refine OL.mv ?_; refine OL.mv ?_; refine OL.mv ?_; refine OL.bT ?_; refine OL.pT ?_; refine OL.asg ?_
      exact OL.nil (WL.ret ⟨fun id e => (by cases e), _, rfl, ((k7.trans (by omega) hk8).trans (by omega) hk9).trans (by omega) hk10, by omega, hf10, rfl⟩)
    · rw [decide_eq_false hsm]
      refine OL.un ?_
      refine OL.nil (WL.condT rfl (WL.seq (WL.reg ?_)))
      refine OL.asg ?_
      exact OL.nil (WL.ret ⟨fun id e => (by cases e), _, rfl, hk1, hn1, hf1, rfl⟩)
  exact key

end Go.Sx
