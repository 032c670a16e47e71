/- SwX: order.less, the reference's Check and graphOf for all graphs, good or not. -/
import Derived.Test.YtegomdgcijchcaaGreatDoorCut10
namespace Go.Sx
open Go.Proofs
set_option maxRecDepth 100000
set_option maxHeartbeats 4000000

/- -1, 0, 1. -/
def sgn (x y : Int) : Int := if x < y then -1 else if y < x then 1 else 0

theorem cmp2_cl (x y : Int) (h : T Blk) (n : Nat) : Cl X 191 [.int .i64 x, .int .i64 y] h n (.ret (.int .i64 (sgn x y)) h n) := by
  have key : ∃ v h' n', Cl X 191 [.int .i64 x, .int .i64 y] h n (.ret v h' n') ∧ h' = h ∧ n' = n ∧ v = .int .i64 (sgn x y) := by
    refine Cl.wl (memoX (by decide)) fn191 rfl rfl rfl rfl ?_
    refine WL.seq (WL.reg ?_)
    refine OL.asg ?_
    refine OL.nil (WL.seq (WL.reg ?_))
    refine OL.mv ?_
    refine OL.cf fn248 (nan_cl x h n) ?_
    refine OL.asg ?_
    refine OL.nil (WL.seq (WL.reg ?_))
    refine OL.mv ?_
    refine OL.cf fn248 (nan_cl y h n) ?_
    refine OL.asg ?_
    refine OL.nil (WL.seq (WL.seq (WL.reg ?_)))
    refine OL.mv ?_
    refine OL.nil (WL.condF rfl (WL.skip ?_))
    refine WL.seq (WL.seq (WL.reg ?_))
    refine OL.mv ?_
    refine OL.nil (WL.condF rfl (WL.skip ?_))
    refine WL.seq (WL.seq (WL.reg ?_))
    unfold sgn
    by_cases h1 : x < y
    · rw [if_pos h1]
      refine OL.mv ?_; refine OL.mv ?_; refine OL.bT ?_
      refine OL.nil (WL.condT rfl (WL.seq (WL.reg ?_)))
      refine OL.asg ?_
      exact OL.nil (WL.ret ⟨fun id e => (by cases e), _, rfl, rfl, rfl, rfl⟩)
    · rw [if_neg h1]
      refine OL.mv ?_; refine OL.mv ?_; refine OL.bF ?_
      refine OL.nil (WL.condF rfl (WL.skip ?_))
      refine WL.seq (WL.seq (WL.reg ?_))
      by_cases h2 : y < x
      · rw [if_pos h2]
        refine OL.mv ?_; refine OL.mv ?_; refine OL.bT ?_
        refine OL.nil (WL.condT rfl (WL.seq (WL.reg ?_)))
        refine OL.asg ?_
        exact OL.nil (WL.ret ⟨fun id e => (by cases e), _, rfl, rfl, rfl, rfl⟩)
      · rw [if_neg h2]
        refine OL.mv ?_; refine OL.mv ?_; refine OL.bF ?_
        refine OL.nil (WL.condF rfl (WL.skip ?_))
        refine WL.seq (WL.reg ?_)
        refine OL.asg ?_
        exact OL.nil (WL.ret ⟨fun id e => (by cases e), _, rfl, rfl, rfl, rfl⟩)
  obtain ⟨v, h', n', h1, rfl, rfl, rfl⟩ := key
  exact h1

def sgnE (a b : Int × Int) : Int := if sgn a.1 b.1 = 0 then sgn a.2 b.2 else sgn a.1 b.1
theorem sgnE_lt (a b : Int × Int) : sgnE a b < 0 ↔ LessE a b := by
  unfold sgnE sgn LessE
  split <;> split <;> (try split) <;> omega

theorem compare2_cl (a b : Int × Int) (h : T Blk) (n b1 b2 : Nat) (h1 : h.get b1 = some (.cells [.int .i64 a.1, .int .i64 a.2])) (h2 : h.get b2 = some (.cells [.int .i64 b.1, .int .i64 b.2])) :
    Cl X 127 [.slice (some ⟨b1, 0, none⟩) 2 2, .slice (some ⟨b2, 0, none⟩) 2 2] h n (.ret (.int .i64 (sgnE a b)) h n) := by
  have key : ∃ v h' n', Cl X 127 [.slice (some ⟨b1, 0, none⟩) 2 2, .slice (some ⟨b2, 0, none⟩) 2 2] h n (.ret v h' n') ∧ h' = h ∧ n' = n ∧ v = .int .i64 (sgnE a b) := by
    refine Cl.wl (memoX (by decide)) fn127 rfl rfl rfl rfl ?_
    refine WL.seq (WL.reg ?_)
    refine OL.asg ?_
    refine OL.nil (WL.seq (WL.seq (WL.reg ?_)))
    refine OL.mv ?_
    refine OL.bi (lenA_slice ty25) ?_
    refine OL.mv ?_
    refine OL.nil (WL.block (WL.unroll (WL.seq (WL.reg ?_))))
    refine OL.bT ?_
    refine OL.nil (WL.seq (WL.condT rfl (WL.skip ?_)))
    refine WL.seq (WL.block (WL.seq (WL.reg ?_)))
    refine OL.mv ?_
    refine OL.ix idx2a ?_
    refine OL.l3 ?_; refine OL.asg ?_; refine OL.asg ?_
    refine OL.nil (WL.seq (WL.seq (WL.reg ?_)))
    refine OL.mv ?_; refine OL.mv ?_
    refine OL.bi (lenA_slice ty25) ?_
    refine OL.bF ?_
    refine OL.nil (WL.condF rfl (WL.skip ?_))
    refine WL.seq (WL.reg ?_)
    refine OL.mv ?_; refine OL.mv ?_
    refine OL.ix idx2a ?_
    refine OL.l3 ?_; refine OL.asg ?_
    refine OL.nil (WL.seq (WL.reg ?_))
    refine OL.mv ?_; refine OL.mv ?_
    refine OL.cf fn191 (cmp2_cl a.1 b.1 h n) ?_
    unfold sgnE
    by_cases c1 : sgn a.1 b.1 = 0
    · rw [if_pos c1]
      refine OL.asg ?_
      refine OL.nil (WL.seq (WL.reg ?_))
      refine OL.mv ?_; refine OL.nF ?_
      refine OL.nil (WL.condF rfl (WL.skip ?_))
      refine WL.reg ?_
      refine OL.val (by first | rfl | exact WantL.yes rfl rfl rfl) (D.addN (a := 0) rfl rfl rfl (by omega)) rfl rfl ?_
      refine OL.mv ?_
      refine OL.nil (WL.unroll (WL.seq (WL.reg ?_)))
      refine OL.bT ?_
      refine OL.nil (WL.seq (WL.condT rfl (WL.skip ?_)))
      refine WL.seq (WL.block (WL.seq (WL.reg ?_)))
      refine OL.mv ?_
      refine OL.ix idx2b ?_
      refine OL.l3 ?_; refine OL.asg ?_; refine OL.asg ?_
      refine OL.nil (WL.seq (WL.seq (WL.reg ?_)))
      refine OL.mv ?_; refine OL.mv ?_
      refine OL.bi (lenA_slice ty25) ?_
      refine OL.bF ?_
      refine OL.nil (WL.condF rfl (WL.skip ?_))
      refine WL.seq (WL.reg ?_)
      refine OL.mv ?_; refine OL.mv ?_
      refine OL.ix idx2b ?_
      refine OL.l3 ?_; refine OL.asg ?_
      refine OL.nil (WL.seq (WL.reg ?_))
      refine OL.mv ?_; refine OL.mv ?_
      refine OL.cf fn191 (cmp2_cl a.2 b.2 h n) ?_
      by_cases c2 : sgn a.2 b.2 = 0
      · refine OL.asg ?_
        refine OL.nil (WL.seq (WL.reg ?_))
        refine OL.mv ?_; refine OL.nF ?_
        refine OL.nil (WL.condF rfl (WL.skip ?_))
        refine WL.reg ?_
        refine OL.val (by first | rfl | exact WantL.yes rfl rfl rfl) (D.addN (a := 1) rfl rfl rfl (by omega)) rfl rfl ?_
        refine OL.mv ?_
        refine OL.nil (WL.unroll (WL.seq (WL.reg ?_)))
        refine OL.bF ?_
        refine OL.nil (WL.seq (WL.condF rfl (WL.exit ?_)))
        refine WL.seq (WL.seq (WL.reg ?_))
        refine OL.mv ?_
        refine OL.bi (lenA_slice ty25) ?_
        refine OL.mv ?_
        refine OL.bi (lenA_slice ty25) ?_
        refine OL.bF ?_
        refine OL.nil (WL.condF rfl (WL.skip ?_))
        refine WL.seq (WL.reg ?_)
        refine OL.asg ?_
        exact OL.nil (WL.ret ⟨fun id e => (by cases e), _, rfl, rfl, rfl, by rw [c2]; rfl⟩)
      · refine OL.asg ?_
        refine OL.nil (WL.seq (WL.reg ?_))
        refine OL.mv ?_; refine OL.nT ?_
        refine OL.nil (WL.condT rfl (WL.seq (WL.reg ?_)))
        refine OL.mv ?_; refine OL.asg ?_
        exact OL.nil (WL.ret ⟨fun id e => (by cases e), _, rfl, rfl, rfl, rfl⟩)
    · rw [if_neg c1]
      refine OL.asg ?_
      refine OL.nil (WL.seq (WL.reg ?_))
      refine OL.mv ?_; refine OL.nT ?_
      refine OL.nil (WL.condT rfl (WL.seq (WL.reg ?_)))
      refine OL.mv ?_; refine OL.asg ?_
      exact OL.nil (WL.ret ⟨fun id e => (by cases e), _, rfl, rfl, rfl, rfl⟩)
  obtain ⟨v, h', n', h1, rfl, rfl, rfl⟩ := key
  exact h1

theorem oless2_cl (a b : Int × Int) (h : T Blk) (n : Nat) (hf : Fresh h n) :
    Gives 81 [.agg #[.int .i64 a.1, .int .i64 a.2], .agg #[.int .i64 b.1, .int .i64 b.2]] h n fun v _ _ => v = .int .i64 (sgnE a b) := by
  have key : ∃ v h' n', Cl X 81 [.agg #[.int .i64 a.1, .int .i64 a.2], .agg #[.int .i64 b.1, .int .i64 b.2]] h n (.ret v h' n') ∧
      h' = (h.upd (some (.cells [.int .i64 a.1, .int .i64 a.2])) n).upd (some (.cells [.int .i64 b.1, .int .i64 b.2])) (n + 1) ∧ n' = n + 2 ∧ v = .int .i64 (sgnE a b) := by
    refine Cl.wl (memoX (by decide)) fn81 rfl rfl rfl rfl ?_
    refine WL.seq (WL.reg ?_)
    refine OL.bx ?_; refine OL.bx ?_; refine OL.asg ?_
    refine OL.nil (WL.seq (WL.regD (by kernel_rfl) (by kernel_rfl) ?_))
    refine OD.val (by first | rfl | exact WantL.yes rfl rfl rfl) (by repeat' (first | exact trivial | assumption | exact BelV.ptr (by omega) | exact BelV.sl (by omega) | exact BelV.fn1 (by omega) | exact BelV.fn2 (by omega) (by omega) | exact hbs _ (by omega) | exact rfl | refine And.intro (Exists.intro _ (And.intro rfl ?_)) ?_)) (D.slice0 rfl rfl slice_pair) rfl rfl ?_
    refine OD.val (by first | rfl | exact WantL.yes rfl rfl rfl) (by repeat' (first | exact trivial | assumption | exact BelV.ptr (by omega) | exact BelV.sl (by omega) | exact BelV.fn1 (by omega) | exact BelV.fn2 (by omega) (by omega) | exact hbs _ (by omega) | exact rfl | refine And.intro (Exists.intro _ (And.intro rfl ?_)) ?_)) (D.slice0 rfl rfl slice_pair) rfl rfl ?_
    refine OD.cf fn127 (compare2_cl a b _ _ n (n + 1) ((T.get_upd_ne _ _ (by omega)).trans (T.get_upd_same _ _ _)) (T.get_upd_same _ _ _)) ?_
    refine OD.asg ?_
    exact OD.nil (WL.ret ⟨fun id e => (by cases e), _, rfl, rfl, rfl, rfl⟩)
  obtain ⟨v, h', n', h1, rfl, rfl, h2⟩ := key
  exact ⟨v, _, _, h1, ((Keep.refl n h).upd (Nat.le_refl n) _).upd (Nat.le_succ n) _, by omega, (hf.upd _).upd _, h2⟩

/- The error of a graph. -/
def CheckE (m : Int) (l : List (Int × Int)) (c : Int) : Prop := (c = 1 ∧ (m < 0 ∨ 400 < m)) ∨ (0 ≤ m ∧ m ≤ 400 ∧ (c = 0 ∧ GoodG m l ∨ c = 150 ∧ ¬ GoodG m l))
theorem CheckE.uniq {m : Int} {l : List (Int × Int)} {c d : Int} (h1 : CheckE m l c) (h2 : CheckE m l d) : c = d := by
  rcases h1 with ⟨rfl, a⟩ | ⟨a1, a2, ⟨rfl, a⟩ | ⟨rfl, a⟩⟩ <;> rcases h2 with ⟨rfl, b⟩ | ⟨b1, b2, ⟨rfl, b⟩ | ⟨rfl, b⟩⟩ <;> first | rfl | omega | exact (a b).elim | exact (b a).elim
theorem CheckE.zero {m : Int} {l : List (Int × Int)} (h : CheckE m l 0) : GoodG m l ∧ m ≤ 400 := by
  rcases h with ⟨h, _⟩ | ⟨_, h1, ⟨_, h2⟩ | ⟨h, _⟩⟩
  · omega
  · exact ⟨h2, h1⟩
  · omega

/- A bad edge. -/
def StepOK (m : Int) (l : List (Int × Int)) (i : Nat) (e : Int × Int) : Prop := EdgeOK m e ∧ ∀ a, 0 < i → l[i - 1]? = some a → LessE a e
theorem step_good {m : Int} {l : List (Int × Int)} (hg : GoodG m l) {i : Nat} {e : Int × Int} (hi : l[i]? = some e) : StepOK m l i e :=
  ⟨hg.ok e (List.mem_of_getElem? hi), fun a h0 ha => hg.inc (i - 1) a e ha (by rw [show i - 1 + 1 = i by omega]; exact hi)⟩

theorem check2_cl (m : Int) (s : Value) (l : List (Int × Int)) (h : T Blk) (n : Nat) (hf : Fresh h n) (he : Edges h s l) (hbs : ∀ k, n ≤ k → BelV k s) (hlen : l.length ≤ 400) :
    Gives 16 [.int .i64 m, s] h n fun v _ _ => ∃ c : Int, v = .int .i64 c ∧ CheckE m l c := by
  have key : ∃ v h' n', Cl X 16 [.int .i64 m, s] h n (.ret v h' n') ∧ Keep n h h' ∧ n ≤ n' ∧ Fresh h' n' ∧ ∃ c : Int, v = .int .i64 c ∧ CheckE m l c := by
    refine Cl.wl (many := 64) (memoX (by decide)) fn16 rfl rfl rfl rfl ?_
    refine WL.seq (WL.reg ?_)
    refine OL.asg ?_
    refine OL.nil ?_
    refine WL.seq (WL.seq (WL.reg ?_))
    by_cases h1 : m < 0
    · refine OL.mv ?_; refine OL.bT ?_; refine OL.mv ?_; refine OL.ps ?_; refine OL.ps ?_; refine OL.pT ?_
      refine OL.nil (WL.condT rfl (WL.seq (WL.reg ?_)))
      refine OL.asg ?_
      exact OL.nil (WL.ret ⟨fun id e => (by cases e), _, rfl, .refl _ _, Nat.le_refl _, hf, 1, rfl, .inl ⟨rfl, by omega⟩⟩)
    by_cases h2 : 400 < m
    · refine OL.mv ?_; refine OL.bF ?_; refine OL.mv ?_; refine OL.mv ?_; refine OL.bT ?_; refine OL.pF ?_
      refine OL.nil (WL.condT rfl (WL.seq (WL.reg ?_)))
      refine OL.asg ?_
      exact OL.nil (WL.ret ⟨fun id e => (by cases e), _, rfl, .refl _ _, Nat.le_refl _, hf, 1, rfl, .inl ⟨rfl, by omega⟩⟩)
    refine OL.mv ?_; refine OL.bF ?_; refine OL.mv ?_; refine OL.mv ?_; refine OL.bF ?_; refine OL.pF ?_
    refine OL.nil (WL.condF rfl (WL.skip ?_))
    refine WL.seq (WL.seq (WL.reg ?_))
    refine OL.asg ?_
    refine OL.nil (WL.block ?_)
    refine WL.loop (k := l.length) (fun k L h' n' => ∃ i : Nat, i ≤ l.length ∧ k = l.length - i ∧ Sub [(5, .int .i64 (i : Int)), (1, s), (0, .int .i64 m)] L ∧ Keep n h h' ∧ n ≤ n' ∧ Fresh h' n' ∧
      (∀ j e, j < i → l[j]? = some e → EdgeOK m e) ∧ (∀ j a b, j + 1 < i → l[j]? = some a → l[j + 1]? = some b → LessE a b)) ?_
      ⟨0, Nat.zero_le _, rfl, .cons rfl (.cons rfl (.cons rfl .nil)), .refl _ _, Nat.le_refl _, hf, fun j e h => by omega, fun j a b h => by omega⟩
    rintro k L h' n' ⟨i, hi, rfl, hs, hk, hn, hf', hok, hinc⟩
    refine WL.keep hs ?_
    refine WL.seq (WL.seq (WL.reg ?_))
    refine OL.mv ?_; refine OL.mv ?_
    refine OL.val (by first | rfl | exact WantL.yes rfl rfl rfl) (D.builtinV rfl rfl rfl he.len) rfl rfl ?_
    by_cases h3 : (i : Int) < (l.length : Int)
    · refine OL.bT ?_
      refine OL.nil (WL.condT rfl (WL.skip ?_))
      obtain ⟨e, hie⟩ : ∃ e, l[i]? = some e := ⟨l[i], List.getElem?_eq_getElem (by omega)⟩
      have he' := he.keep hf hk
      obtain ⟨b, o, hx1, hx2, _⟩ := he'.at hie
      refine WL.seq (WL.block (WL.seq (WL.reg ?_)))
      refine OL.mv ?_; refine OL.mv ?_
      refine OL.val (by first | rfl | exact WantL.yes rfl rfl rfl) (D.index rfl rfl rfl hx1) rfl rfl ?_
      refine OL.val (by first | rfl | exact WantL.yes rfl rfl rfl) (D.load rfl rfl hx2) rfl rfl ?_
      refine OL.al ty35 ?_
      refine OL.skip rfl (D.store rfl rfl rfl (store2 (T.get_upd_same _ _ _) rfl rfl)) rfl ?_
      refine OL.nil ?_
      have hfa := (hf'.upd (some (.cells tPair.zero))).set (Nat.lt_succ_self n') (some (.cells [.int .i64 e.1, .int .i64 e.2]))
      have hka := (hk.upd hn (some (.cells tPair.zero))).upd hn (some (.cells [.int .i64 e.1, .int .i64 e.2]))
      have hga : (T.upd (some (Blk.cells [.int .i64 e.1, .int .i64 e.2])) (h'.upd (some (.cells tPair.zero)) n') n').get n' = some (.cells [.int .i64 e.1, .int .i64 e.2]) := T.get_upd_same _ _ _
      generalize T.upd (some (Blk.cells [.int .i64 e.1, .int .i64 e.2])) (h'.upd (some (.cells tPair.zero)) n') n' = ha at hfa hka hga ⊢
      have hbs' : ∀ k, n' + 1 ≤ k → BelV k s := fun k hk => hbs k (by omega)
      refine WL.seq (WL.mono (Q := fun x L' h2 n2 => x = .normal ∧ ∃ bad : Bool, Sub [(63, .bool bad), (5, .int .i64 (i : Int)), (1, s), (0, .int .i64 m)] L' ∧ Keep n h h2 ∧ n ≤ n2 ∧ Fresh h2 n2 ∧
        (bad = false → EdgeOK m e ∧ ∀ a, 0 < i → l[i - 1]? = some a → LessE a e) ∧ (bad = true → ¬ StepOK m l i e)) (WL.regD (by kernel_rfl) (by kernel_rfl) ?_) ?_)
      · by_cases c1 : e.1 < 0
        · refine OD.ix idx_pair0 ?_; refine OD.l3 ?_; refine OD.bT ?_; refine OD.mv ?_; refine OD.ps ?_; refine OD.ps ?_; refine OD.ps ?_; refine OD.ps ?_; refine OD.pT ?_; refine OD.mv ?_; refine OD.ps ?_; refine OD.ps ?_; refine OD.ps ?_; refine OD.pT ?_; refine OD.mv ?_; refine OD.ps ?_; refine OD.ps ?_; refine OD.ps ?_; refine OD.ps ?_; refine OD.pT ?_; refine OD.mv ?_; refine OD.ps ?_; refine OD.ps ?_; refine OD.ps ?_; refine OD.ps ?_; refine OD.ps ?_; refine OD.pT ?_; refine OD.mv ?_; refine OD.ps ?_; refine OD.ps ?_; refine OD.ps ?_; refine OD.ps ?_; refine OD.ps ?_; refine OD.ps ?_; refine OD.ps ?_; refine OD.ps ?_; refine OD.ps ?_; refine OD.ps ?_; refine OD.ps ?_; refine OD.ps ?_; refine OD.pT ?_
          exact OD.nil ⟨rfl, true, .cons rfl (.cons rfl (.cons rfl (.cons rfl .nil))), hka, by omega, hfa, (fun x => by cases x), fun _ q => by obtain ⟨⟨_, _, _, _, _⟩, _⟩ := q; omega⟩
        by_cases c2 : m ≤ e.1
        · refine OD.ix idx_pair0 ?_; refine OD.l3 ?_; refine OD.bF ?_; refine OD.mv ?_; refine OD.ix idx_pair0 ?_; refine OD.l3 ?_; refine OD.mv ?_; refine OD.bT ?_; refine OD.pF ?_; refine OD.mv ?_; refine OD.ps ?_; refine OD.ps ?_; refine OD.ps ?_; refine OD.pT ?_; refine OD.mv ?_; refine OD.ps ?_; refine OD.ps ?_; refine OD.ps ?_; refine OD.ps ?_; refine OD.pT ?_; refine OD.mv ?_; refine OD.ps ?_; refine OD.ps ?_; refine OD.ps ?_; refine OD.ps ?_; refine OD.ps ?_; refine OD.pT ?_; refine OD.mv ?_; refine OD.ps ?_; refine OD.ps ?_; refine OD.ps ?_; refine OD.ps ?_; refine OD.ps ?_; refine OD.ps ?_; refine OD.ps ?_; refine OD.ps ?_; refine OD.ps ?_; refine OD.ps ?_; refine OD.ps ?_; refine OD.ps ?_; refine OD.pT ?_
          exact OD.nil ⟨rfl, true, .cons rfl (.cons rfl (.cons rfl (.cons rfl .nil))), hka, by omega, hfa, (fun x => by cases x), fun _ q => by obtain ⟨⟨_, _, _, _, _⟩, _⟩ := q; omega⟩
        by_cases c3 : e.2 < 0
        · refine OD.ix idx_pair0 ?_; refine OD.l3 ?_; refine OD.bF ?_; refine OD.mv ?_; refine OD.ix idx_pair0 ?_; refine OD.l3 ?_; refine OD.mv ?_; refine OD.bF ?_; refine OD.pF ?_; refine OD.mv ?_; refine OD.ix idx_pair1 ?_; refine OD.l3 ?_; refine OD.bT ?_; refine OD.pF ?_; refine OD.mv ?_; refine OD.ps ?_; refine OD.ps ?_; refine OD.ps ?_; refine OD.ps ?_; refine OD.pT ?_; refine OD.mv ?_; refine OD.ps ?_; refine OD.ps ?_; refine OD.ps ?_; refine OD.ps ?_; refine OD.ps ?_; refine OD.pT ?_; refine OD.mv ?_; refine OD.ps ?_; refine OD.ps ?_; refine OD.ps ?_; refine OD.ps ?_; refine OD.ps ?_; refine OD.ps ?_; refine OD.ps ?_; refine OD.ps ?_; refine OD.ps ?_; refine OD.ps ?_; refine OD.ps ?_; refine OD.ps ?_; refine OD.pT ?_
          exact OD.nil ⟨rfl, true, .cons rfl (.cons rfl (.cons rfl (.cons rfl .nil))), hka, by omega, hfa, (fun x => by cases x), fun _ q => by obtain ⟨⟨_, _, _, _, _⟩, _⟩ := q; omega⟩
        by_cases c4 : m ≤ e.2
        · refine OD.ix idx_pair0 ?_; refine OD.l3 ?_; refine OD.bF ?_; refine OD.mv ?_; refine OD.ix idx_pair0 ?_; refine OD.l3 ?_; refine OD.mv ?_; refine OD.bF ?_; refine OD.pF ?_; refine OD.mv ?_; refine OD.ix idx_pair1 ?_; refine OD.l3 ?_; refine OD.bF ?_; refine OD.pF ?_; refine OD.mv ?_; refine OD.ix idx_pair1 ?_; refine OD.l3 ?_; refine OD.mv ?_; refine OD.bT ?_; refine OD.pF ?_; refine OD.mv ?_; refine OD.ps ?_; refine OD.ps ?_; refine OD.ps ?_; refine OD.ps ?_; refine OD.ps ?_; refine OD.pT ?_; refine OD.mv ?_; refine OD.ps ?_; refine OD.ps ?_; refine OD.ps ?_; refine OD.ps ?_; refine OD.ps ?_; refine OD.ps ?_; refine OD.ps ?_; refine OD.ps ?_; refine OD.ps ?_; refine OD.ps ?_; refine OD.ps ?_; refine OD.ps ?_; refine OD.pT ?_
          exact OD.nil ⟨rfl, true, .cons rfl (.cons rfl (.cons rfl (.cons rfl .nil))), hka, by omega, hfa, (fun x => by cases x), fun _ q => by obtain ⟨⟨_, _, _, _, _⟩, _⟩ := q; omega⟩
        by_cases c5 : e.1 = e.2
        · refine OD.ix idx_pair0 ?_; refine OD.l3 ?_; refine OD.bF ?_; refine OD.mv ?_; refine OD.ix idx_pair0 ?_; refine OD.l3 ?_; refine OD.mv ?_; refine OD.bF ?_; refine OD.pF ?_; refine OD.mv ?_; refine OD.ix idx_pair1 ?_; refine OD.l3 ?_; refine OD.bF ?_; refine OD.pF ?_; refine OD.mv ?_; refine OD.ix idx_pair1 ?_; refine OD.l3 ?_; refine OD.mv ?_; refine OD.bF ?_; refine OD.pF ?_; refine OD.mv ?_; refine OD.ix idx_pair0 ?_; refine OD.l3 ?_; refine OD.ix idx_pair1 ?_; refine OD.l3 ?_; refine OD.bT ?_; refine OD.pF ?_; refine OD.mv ?_; refine OD.ps ?_; refine OD.ps ?_; refine OD.ps ?_; refine OD.ps ?_; refine OD.ps ?_; refine OD.ps ?_; refine OD.ps ?_; refine OD.ps ?_; refine OD.ps ?_; refine OD.ps ?_; refine OD.ps ?_; refine OD.ps ?_; refine OD.pT ?_
          exact OD.nil ⟨rfl, true, .cons rfl (.cons rfl (.cons rfl (.cons rfl .nil))), hka, by omega, hfa, (fun x => by cases x), fun _ q => by obtain ⟨⟨_, _, _, _, _⟩, _⟩ := q; omega⟩
        have good : EdgeOK m e := ⟨by omega, by omega, by omega, by omega, c5⟩
        by_cases c6 : (0 : Int) < (i : Int)
        · obtain ⟨a, hia⟩ : ∃ a, l[i - 1]? = some a := ⟨l[i - 1], List.getElem?_eq_getElem (by omega)⟩
          obtain ⟨b', o', hy1, hy2, hy3⟩ := (he.keep hf hka).at hia
          have e1 : ((i - 1 : Nat) : Int) = (i : Int) - 1 := by omega
          rw [e1] at hy1
          obtain ⟨v, h2, n2, hcl, hk2, hn2, hf2, rfl⟩ := less_cl a e ha (n' + 1) hfa
          refine OD.ix idx_pair0 ?_; refine OD.l3 ?_; refine OD.bF ?_; refine OD.mv ?_; refine OD.ix idx_pair0 ?_; refine OD.l3 ?_; refine OD.mv ?_; refine OD.bF ?_; refine OD.pF ?_; refine OD.mv ?_; refine OD.ix idx_pair1 ?_; refine OD.l3 ?_; refine OD.bF ?_; refine OD.pF ?_; refine OD.mv ?_; refine OD.ix idx_pair1 ?_; refine OD.l3 ?_; refine OD.mv ?_; refine OD.bF ?_; refine OD.pF ?_; refine OD.mv ?_; refine OD.ix idx_pair0 ?_; refine OD.l3 ?_; refine OD.ix idx_pair1 ?_; refine OD.l3 ?_; refine OD.bF ?_; refine OD.pF ?_; refine OD.mv ?_; refine OD.mv ?_; refine OD.bT ?_; refine OD.mv ?_; refine OD.mv ?_; refine OD.mv ?_
          refine OD.val (by first | rfl | exact WantL.yes rfl rfl rfl) (by repeat' (first | exact trivial | assumption | exact BelV.ptr (by omega) | exact BelV.sl (by omega) | exact BelV.fn1 (by omega) | exact BelV.fn2 (by omega) (by omega) | exact hbs _ (by omega) | exact rfl | refine And.intro (Exists.intro _ (And.intro rfl ?_)) ?_)) (D.sub rfl rfl rfl (by omega)) rfl rfl ?_
          have hb' : b' < n' + 1 := hy3 _ (hbs' _ (Nat.le_refl _))
          refine OD.val (by first | rfl | exact WantL.yes rfl rfl rfl) (by repeat' (first | exact trivial | assumption | exact BelV.ptr (by omega) | exact BelV.sl (by omega) | exact BelV.fn1 (by omega) | exact BelV.fn2 (by omega) (by omega) | exact hbs _ (by omega) | exact rfl | refine And.intro (Exists.intro _ (And.intro rfl ?_)) ?_)) (D.index rfl rfl rfl hy1) rfl rfl ?_
          refine OD.val (by first | rfl | exact WantL.yes rfl rfl rfl) (by repeat' (first | exact trivial | assumption | exact BelV.ptr (by omega) | exact BelV.sl (by omega) | exact BelV.fn1 (by omega) | exact BelV.fn2 (by omega) (by omega) | exact hbs _ (by omega) | exact rfl | refine And.intro (Exists.intro _ (And.intro rfl ?_)) ?_)) (D.load rfl rfl hy2) rfl rfl ?_
          refine OD.val (by first | rfl | exact WantL.yes rfl rfl rfl) (by repeat' (first | exact trivial | assumption | exact BelV.ptr (by omega) | exact BelV.sl (by omega) | exact BelV.fn1 (by omega) | exact BelV.fn2 (by omega) (by omega) | exact hbs _ (by omega) | exact rfl | refine And.intro (Exists.intro _ (And.intro rfl ?_)) ?_)) (D.load rfl rfl (load2 (cells_of hga) rfl rfl)) rfl rfl ?_
          refine OD.call (by first | rfl | exact WantL.yes rfl rfl rfl) (by repeat' (first | exact trivial | assumption | exact BelV.ptr (by omega) | exact BelV.sl (by omega) | exact BelV.fn1 (by omega) | exact BelV.fn2 (by omega) (by omega) | exact hbs _ (by omega) | exact rfl | refine And.intro (Exists.intro _ (And.intro rfl ?_)) ?_)) (D.callF rfl rfl rfl fn32) hcl rfl rfl ?_
          by_cases c7 : a.1 < e.1 ∨ a.1 = e.1 ∧ a.2 < e.2
          · rw [decide_eq_true c7]
            refine OD.un ?_; refine OD.pT ?_; refine OD.pF ?_
            exact OD.nil ⟨rfl, false, .cons rfl (.cons rfl (.cons rfl (.cons rfl .nil))), hka.trans (by omega) hk2, by omega, hf2, (fun _ => ⟨good, fun a' _ ha' => by rw [hia] at ha'; cases ha'; exact c7⟩), fun x => by cases x⟩
          · rw [decide_eq_false c7]
            refine OD.un ?_; refine OD.pT ?_; refine OD.pF ?_
            exact OD.nil ⟨rfl, true, .cons rfl (.cons rfl (.cons rfl (.cons rfl .nil))), hka.trans (by omega) hk2, by omega, hf2, (fun x => by cases x), fun _ q => c7 (q.2 a (by omega) hia)⟩
        · refine OD.ix idx_pair0 ?_; refine OD.l3 ?_; refine OD.bF ?_; refine OD.mv ?_; refine OD.ix idx_pair0 ?_; refine OD.l3 ?_; refine OD.mv ?_; refine OD.bF ?_; refine OD.pF ?_; refine OD.mv ?_; refine OD.ix idx_pair1 ?_; refine OD.l3 ?_; refine OD.bF ?_; refine OD.pF ?_; refine OD.mv ?_; refine OD.ix idx_pair1 ?_; refine OD.l3 ?_; refine OD.mv ?_; refine OD.bF ?_; refine OD.pF ?_; refine OD.mv ?_; refine OD.ix idx_pair0 ?_; refine OD.l3 ?_; refine OD.ix idx_pair1 ?_; refine OD.l3 ?_; refine OD.bF ?_; refine OD.pF ?_; refine OD.mv ?_; refine OD.mv ?_; refine OD.bF ?_; refine OD.mv ?_; refine OD.ps ?_; refine OD.ps ?_; refine OD.ps ?_; refine OD.ps ?_; refine OD.ps ?_; refine OD.ps ?_; refine OD.ps ?_; refine OD.ps ?_; refine OD.pF ?_; refine OD.pF ?_
          exact OD.nil ⟨rfl, false, .cons rfl (.cons rfl (.cons rfl (.cons rfl .nil))), hka, by omega, hfa, (fun _ => ⟨good, fun a' hp _ => by omega⟩), fun x => by cases x⟩
      · rintro x L' h2 n2 ⟨rfl, bad, hs2, hk2, hn2, hf2, hgood, hbad⟩
        refine WL.keep hs2 ?_
        cases bad with
        | true =>
          refine WL.condT rfl (WL.seq (WL.reg ?_))
          refine OL.asg ?_
          exact OL.nil (WL.ret ⟨fun id e => (by cases e), _, rfl, hk2, hn2, hf2, 150, rfl, .inr ⟨by omega, by omega, .inr ⟨rfl, fun hg => hbad rfl (step_good hg hie)⟩⟩⟩)
        | false =>
          obtain ⟨g1, g2⟩ := hgood rfl
          refine WL.condF rfl (WL.skip ?_)
          refine WL.reg ?_
          refine OL.mv ?_
          refine OL.val (by first | rfl | exact WantL.yes rfl rfl rfl) (D.addN rfl rfl rfl (by omega)) rfl rfl ?_
          refine OL.asg ?_
          refine OL.nil ⟨l.length - (i + 1), by omega, i + 1, by omega, rfl, .cons rfl (.cons rfl (.cons rfl .nil)), hk2, hn2, hf2, fun j e' hj hje => ?_, fun j a b hj hja hjb => ?_⟩
          · rcases Nat.lt_or_ge j i with h4 | h4
            · exact hok j e' h4 hje
            · have : j = i := by omega
              subst this
              rw [hie] at hje; cases hje
              exact g1
          · rcases Nat.lt_or_ge (j + 1) i with h4 | h4
            · exact hinc j a b h4 hja hjb
            · have : j + 1 = i := by omega
              subst this
              rw [hie] at hjb; cases hjb
              exact g2 a (by omega) (by simpa using hja)
    · refine OL.bF ?_
      refine OL.nil (WL.condF rfl (WL.exit ?_))
      refine WL.seq (WL.reg ?_)
      refine OL.asg ?_
      refine OL.nil (WL.ret ⟨fun id e => (by cases e), _, rfl, hk, hn, hf', 0, rfl, .inr ⟨by omega, by omega, .inl ⟨rfl, ⟨by omega, fun e he => ?_, fun j a b hja hjb => ?_⟩⟩⟩⟩)
      · obtain ⟨j, hj⟩ := List.getElem?_of_mem he
        have := (List.getElem?_eq_some_iff.1 hj).1
        exact hok j e (by omega) hj
      · have := (List.getElem?_eq_some_iff.1 hjb).1
        exact hinc j a b (by omega) hja hjb
  obtain ⟨v, h', n', h1, h2, h3, h4, h5⟩ := key
  exact ⟨v, h', n', h1, h2, h3, h4, h5⟩

end Go.Sx

/- SwY: graphOf for all graphs, good or not; the functions' errors. -/
namespace Go.Sx
open Go.Proofs
set_option maxRecDepth 100000
set_option maxHeartbeats 4000000

theorem min2 {ats : List TypeId} {h : T Blk} {n : Nat} {a b : Int} : builtinA X .min ats [.int .i64 a, .int .i64 b] h n = .val (.int .i64 (if b < a then b else a)) h n := by
  show val? h n "min" (some (Value.int .i64 (bif decide (b < a) then b else a))) = _
  by_cases hx : b < a
  · rw [decide_eq_true hx, if_pos hx]; rfl
  · rw [decide_eq_false hx, if_neg hx]; rfl

theorem sgnE_ge (a b : Int × Int) : 0 ≤ sgnE a b ↔ ¬ LessE a b := by rw [← sgnE_lt]; omega

theorem graphOf2_cl (M : Nat) (s : Value) (l : List (Int × Int)) (h : T Blk) (n : Nat) (hf : Fresh h n) (he : Edges h s l) (hbs : ∀ k, n ≤ k → BelV k s) (hlen : l.length ≤ 400) (hM : M ≤ 400) :
    Gives 40 [.int .i64 (M : Int), s] h n fun v h' _ => (∃ p, v = .tuple #[p, .int .i64 0] ∧ GoodG (M : Int) l ∧ Graph n h' p M s (succ l)) ∨ (v = .tuple #[.pointer none, .int .i64 150] ∧ ¬ GoodG (M : Int) l) := by
  have he0 := he
  obtain ⟨eb, c, rfl, _⟩ := he.ex
  have key : ∃ v h' n', Cl X 40 [.int .i64 (M : Int), .slice eb l.length c] h n (.ret v h' n') ∧ Keep n h h' ∧ n ≤ n' ∧ Fresh h' n' ∧ ((∃ p, v = .tuple #[p, .int .i64 0] ∧ GoodG (M : Int) l ∧ Graph n h' p M (.slice eb l.length c) (succ l)) ∨ (v = .tuple #[.pointer none, .int .i64 150] ∧ ¬ GoodG (M : Int) l)) := by
    have ix93 : ∀ {b k : Nat}, k < M → idxA X 93 (.slice (some ⟨b, 0, none⟩) M M) (.int .i64 (k : Int)) = some (.pointer (some ⟨b, k, none⟩)) := fun hk => idx1 ty93 ty25 rfl hk
    refine Cl.wl (memoX (by decide)) fn40 rfl rfl rfl rfl ?_
    refine WL.seq (WL.reg ?_)
    refine OL.asg ?_; refine OL.asg ?_
    refine OL.nil (WL.seq (WL.seq (WL.reg ?_)))
    refine OL.mv ?_; refine OL.bF ?_; refine OL.mv ?_; refine OL.mv ?_; refine OL.bF ?_; refine OL.pF ?_
    refine OL.nil (WL.condF rfl (WL.skip ?_))
    refine WL.seq (WL.reg ?_)
    refine OL.mv ?_; refine OL.mv ?_
    refine OL.ms (mkS (M := M) ty93 ty25 rfl rfl rfl rfl (by omega)) ?_
    refine OL.mv ?_
    refine OL.bd build95 ?_
    refine OL.bx ?_; refine OL.asg ?_
    refine OL.heap (fun H => Fresh H (n + 2) ∧ Keep n h H ∧ H.get (n + 1) = some (.cells [.int .i64 (M : Int), .slice (some ⟨n, 0, none⟩) M M, .slice eb l.length c]) ∧ H.get n = some (.cells (List.replicate M (.slice none 0 0)))) ⟨(hf.upd _).upd _, ((Keep.refl n h).upd (Nat.le_refl n) _).upd (Nat.le_succ n) _, T.get_upd_same _ _ _, (T.get_upd_ne _ _ (by omega)).trans (T.get_upd_same _ _ _)⟩ ?_
    rintro hA ⟨hfA, hkA, hA1, hA0⟩
    refine OL.nil (WL.seq (WL.seq (WL.reg ?_)))
    refine OL.mv ?_
    refine OL.bi he0.len ?_
    refine OL.mv ?_
    refine OL.nil (WL.block ?_)
    refine WL.loop (k := l.length) (fun k L h' n' => ∃ (i : Nat) (ncs : List Value), i ≤ l.length ∧ k = l.length - i ∧ Sub [(24, .int .i64 (i : Int)), (23, .int .i64 (l.length : Int)), (22, .slice eb l.length c), (6, .pointer (some ⟨n + 1, 0, none⟩)), (1, .slice eb l.length c), (0, .int .i64 (M : Int))] L ∧
      Keep n h h' ∧ n + 2 ≤ n' ∧ Fresh h' n' ∧ h'.get (n + 1) = some (.cells [.int .i64 (M : Int), .slice (some ⟨n, 0, none⟩) M M, .slice eb l.length c]) ∧ h'.get n = some (.cells ncs) ∧ ncs.length = M ∧ Rows (n + 2) h' ncs (succ (l.take i)) ∧ ∀ j e, j < i → l[j]? = some e → StepOK (M : Int) l j e) ?_
      ⟨0, List.replicate M (.slice none 0 0), Nat.zero_le _, rfl, (by repeat (first | exact Sub.nil | refine Sub.cons rfl ?_)), hkA, Nat.le_refl _, hfA, hA1, hA0, by simp, ⟨fun a v hv => .inl ⟨by simp [succ], ?_⟩, fun a a' b _ hu _ => ?_⟩, fun j e hj => by omega⟩
    · rintro k L h' n' ⟨i, ncs, hi, rfl, hs, hk, hn, hf', hg1, hg2, hncs, hrows, hok⟩
      refine WL.keep hs ?_
      refine WL.seq (WL.reg ?_)
      by_cases h3 : (i : Int) < (l.length : Int)
      · refine OL.bT ?_
        refine OL.nil (WL.seq (WL.condT rfl (WL.skip ?_)))
        obtain ⟨⟨e1, e2⟩, hie⟩ : ∃ e, l[i]? = some e := ⟨l[i], List.getElem?_eq_getElem (by omega)⟩
        have he' := he0.keep hf hk
        obtain ⟨b, o, hx1, hx2, _⟩ := he'.at hie
        refine WL.seq (WL.block (WL.seq (WL.reg ?_)))
        refine OL.mv ?_
        refine OL.ix hx1 ?_
        refine OL.ld hx2 ?_
        refine OL.al ty35 ?_; refine OL.asg ?_
        refine OL.st (store2 (T.get_upd_same _ _ _) rfl rfl) ?_
        refine OL.heap (fun H => Fresh H (n' + 1) ∧ Keep n' h' H ∧ H.get n' = some (.cells [.int .i64 e1, .int .i64 e2])) ⟨(hf'.upd _).set (by omega) _, ((Keep.refl n' h').upd (Nat.le_refl _) _).upd (Nat.le_refl _) _, T.get_upd_same _ _ _⟩ ?_
        rintro ha ⟨hfa, hka', hga⟩
        have hbs' : ∀ k, n' + 1 ≤ k → BelV k (.slice eb l.length c) := fun k hk => hbs k (by omega)
        refine OL.nil (WL.cut (fun L7 h7 n7 => h7 = ha ∧ n7 = n' + 1 ∧ ∃ ins : Bool, (ins = true ↔ (0 ≤ e1 ∧ 0 ≤ e2 ∧ e1 < (M : Int) ∧ e2 < (M : Int))) ∧ Sub [(9, .bool ins), (7, .int .i64 (i : Int)), (24, .int .i64 (i : Int)), (23, .int .i64 (l.length : Int)), (22, .slice eb l.length c), (8, .pointer (some ⟨n', 0, none⟩)), (6, .pointer (some ⟨n + 1, 0, none⟩)), (1, .slice eb l.length c), (0, .int .i64 (M : Int))] L7) (WL.reg ?_) ?_)
        · refine OL.ix idx_pair0 ?_; refine OL.l3 ?_; refine OL.ix idx_pair1 ?_; refine OL.l3 ?_
          refine OL.bi min2 ?_
          by_cases p1 : 0 ≤ (if e2 < e1 then e2 else e1)
          · refine OL.bT ?_; refine OL.mv ?_; refine OL.ix idx_pair0 ?_; refine OL.l3 ?_; refine OL.ix idx_pair1 ?_; refine OL.l3 ?_
            refine OL.bi max_at ?_
            by_cases p2 : (if e1 < e2 then e2 else e1) < (M : Int)
            · refine OL.mv ?_; refine OL.bT ?_; refine OL.pT ?_; refine OL.asg ?_
              refine OL.nil ⟨rfl, rfl, rfl, true, ⟨fun _ => ?_, fun _ => rfl⟩, (by repeat (first | exact Sub.nil | refine Sub.cons rfl ?_))⟩
              split at p1 <;> split at p2 <;> omega
            · refine OL.mv ?_; refine OL.bF ?_; refine OL.pT ?_; refine OL.asg ?_
              refine OL.nil ⟨rfl, rfl, rfl, false, ⟨fun e => (by cases e), fun q => (p2 ?_).elim⟩, (by repeat (first | exact Sub.nil | refine Sub.cons rfl ?_))⟩
              split <;> omega
          · refine OL.bF ?_; refine OL.mv ?_; refine OL.ps ?_; refine OL.ps ?_; refine OL.ps ?_; refine OL.ps ?_; refine OL.ps ?_; refine OL.ps ?_; refine OL.ps ?_; refine OL.pF ?_; refine OL.asg ?_
            refine OL.nil ⟨rfl, rfl, rfl, false, ⟨fun e => (by cases e), fun q => (p1 ?_).elim⟩, (by repeat (first | exact Sub.nil | refine Sub.cons rfl ?_))⟩
            split <;> omega
        rintro L7 h7 n7 ⟨rfl, rfl, ins, hins, hs7⟩
        refine WL.keep hs7 (WL.seq (WL.cut (fun L8 h8 n8 => Keep (n' + 1) h7 h8 ∧ n' + 1 ≤ n8 ∧ Fresh h8 n8 ∧ ∃ bad : Bool, (bad = false → StepOK (M : Int) l i (e1, e2)) ∧ (bad = true → ¬ StepOK (M : Int) l i (e1, e2)) ∧ Sub [(66, .bool bad), (24, .int .i64 (i : Int)), (23, .int .i64 (l.length : Int)), (22, .slice eb l.length c), (8, .pointer (some ⟨n', 0, none⟩)), (6, .pointer (some ⟨n + 1, 0, none⟩)), (1, .slice eb l.length c), (0, .int .i64 (M : Int))] L8) (WL.regD (by kernel_rfl) (by kernel_rfl) ?_) ?_))
        · cases ins with
          | false =>
            refine OD.mv ?_; refine OD.un ?_; refine OD.mv ?_; refine OD.ps ?_; refine OD.ps ?_; refine OD.ps ?_; refine OD.ps ?_; refine OD.ps ?_; refine OD.pT ?_; refine OD.mv ?_; refine OD.ps ?_; refine OD.ps ?_; refine OD.ps ?_; refine OD.ps ?_; refine OD.ps ?_; refine OD.ps ?_; refine OD.ps ?_; refine OD.ps ?_; refine OD.ps ?_; refine OD.ps ?_; refine OD.ps ?_; refine OD.ps ?_; refine OD.pT ?_
            refine OD.nil ⟨rfl, .refl _ _, Nat.le_refl _, hfa, true, (fun e => by cases e), fun _ q => ?_, (by repeat (first | exact Sub.nil | refine Sub.cons rfl ?_))⟩
            have := hins.2 (by obtain ⟨⟨q1, q2, q3, q4, q5⟩, _⟩ := q; exact ⟨q1, q3, q2, q4⟩)
            cases this
          | true =>
            obtain ⟨r1, r2, r3, r4⟩ := hins.1 rfl
            by_cases c5 : e1 = e2
            · refine OD.mv ?_; refine OD.un ?_; refine OD.mv ?_; refine OD.ix idx_pair0 ?_; refine OD.l3 ?_; refine OD.ix idx_pair1 ?_; refine OD.l3 ?_; refine OD.bT ?_; refine OD.pF ?_; refine OD.mv ?_; refine OD.ps ?_; refine OD.ps ?_; refine OD.ps ?_; refine OD.ps ?_; refine OD.ps ?_; refine OD.ps ?_; refine OD.ps ?_; refine OD.ps ?_; refine OD.ps ?_; refine OD.ps ?_; refine OD.ps ?_; refine OD.ps ?_; refine OD.pT ?_
              exact OD.nil ⟨rfl, .refl _ _, Nat.le_refl _, hfa, true, (fun e => by cases e), fun _ q => q.1.2.2.2.2 c5, (by repeat (first | exact Sub.nil | refine Sub.cons rfl ?_))⟩
            · have good : EdgeOK (M : Int) (e1, e2) := ⟨r1, r3, r2, r4, c5⟩
              by_cases c6 : (0 : Int) < (i : Int)
              · obtain ⟨⟨p1, p2⟩, hip⟩ : ∃ a, l[i - 1]? = some a := ⟨l[i - 1], List.getElem?_eq_getElem (by omega)⟩
                have hka : Keep n h h7 := fun q hq => (hka' q (by omega)).trans (hk q hq)
                obtain ⟨b', o', hy1, hy2, hy3⟩ := (he0.keep hf hka).at hip
                have e1' : ((i - 1 : Nat) : Int) = (i : Int) - 1 := by omega
                rw [e1'] at hy1
                have hb' : b' < n' + 1 := hy3 _ (hbs' _ (Nat.le_refl _))
                obtain ⟨v, h2, n2, hcl, hk2, hn2, hf2, rfl⟩ := oless2_cl (p1, p2) (e1, e2) h7 (n' + 1) hfa
                have hsg := sgnE_ge (p1, p2) (e1, e2)
                refine OD.mv ?_; refine OD.un ?_; refine OD.mv ?_; refine OD.ix idx_pair0 ?_; refine OD.l3 ?_; refine OD.ix idx_pair1 ?_; refine OD.l3 ?_; refine OD.bF ?_; refine OD.pF ?_; refine OD.mv ?_; refine OD.mv ?_; refine OD.bT ?_; refine OD.mv ?_; refine OD.mv ?_; refine OD.mv ?_
                refine OD.sb ?_
                refine OD.ix hy1 ?_
                refine OD.ld hy2 ?_
                refine OD.lp ?_
                refine OD.cf fn81 hcl ?_
                by_cases c7 : 0 ≤ sgnE (p1, p2) (e1, e2)
                · refine OD.bT ?_; refine OD.pT ?_; refine OD.pF ?_
                  exact OD.nil ⟨rfl, hk2, hn2, hf2, true, (fun e => by cases e), fun _ q => hsg.1 c7 (q.2 _ (by omega) hip), (by repeat (first | exact Sub.nil | refine Sub.cons rfl ?_))⟩
                · refine OD.bF ?_; refine OD.pT ?_; refine OD.pF ?_
                  refine OD.nil ⟨rfl, hk2, hn2, hf2, false, (fun _ => ⟨good, fun a h0 ha => ?_⟩), (fun e => by cases e), (by repeat (first | exact Sub.nil | refine Sub.cons rfl ?_))⟩
                  rw [hip] at ha
                  cases ha
                  exact Classical.byContradiction fun q => c7 (hsg.2 q)
              · refine OD.mv ?_; refine OD.un ?_; refine OD.mv ?_; refine OD.ix idx_pair0 ?_; refine OD.l3 ?_; refine OD.ix idx_pair1 ?_; refine OD.l3 ?_; refine OD.bF ?_; refine OD.pF ?_; refine OD.mv ?_; refine OD.mv ?_; refine OD.bF ?_; refine OD.mv ?_; refine OD.ps ?_; refine OD.ps ?_; refine OD.ps ?_; refine OD.ps ?_; refine OD.ps ?_; refine OD.ps ?_; refine OD.ps ?_; refine OD.ps ?_; refine OD.pF ?_; refine OD.pF ?_
                exact OD.nil ⟨rfl, .refl _ _, Nat.le_refl _, hfa, false, (fun _ => ⟨good, fun a h0 _ => absurd h0 (by omega)⟩), (fun e => by cases e), (by repeat (first | exact Sub.nil | refine Sub.cons rfl ?_))⟩
        rintro L8 H K ⟨hk2, hn2, hf2, bad, hb1, hb2, hs8⟩
        refine WL.keep hs8 ?_
        cases bad with
        | true =>
          refine WL.condT rfl (WL.seq (WL.reg ?_))
          refine OL.asg ?_; refine OL.asg ?_
          exact OL.nil (WL.ret ⟨fun id e => (by cases e), _, rfl, fun q hq => by rw [hk2 q (by omega), hka' q (by omega)]; exact hk q hq, by omega, hf2, .inr ⟨rfl, fun hg => hb2 rfl (step_good hg hie)⟩⟩)
        | false =>
        have hst := hb1 rfl
        obtain ⟨g1, g2, g3, g4, g5⟩ := hst.1
        simp only at g1 g2 g3 g4 g5
        obtain ⟨a, rfl⟩ : ∃ a : Nat, e1 = (a : Int) := ⟨e1.toNat, by omega⟩
        obtain ⟨y, rfl⟩ : ∃ y : Nat, e2 = (y : Int) := ⟨e2.toNat, by omega⟩
        refine WL.condF rfl (WL.skip ?_)
        have hG1 : H.get (n + 1) = some (.cells [.int .i64 (M : Int), .slice (some ⟨n, 0, none⟩) M M, .slice eb l.length c]) := (hk2 _ (by omega)).trans ((hka' _ (by omega)).trans hg1)
        have hG2 : H.get n = some (.cells ncs) := (hk2 _ (by omega)).trans ((hka' _ (by omega)).trans hg2)
        have hP : H.get n' = some (.cells [.int .i64 (a : Int), .int .i64 (y : Int)]) := (hk2 _ (by omega)).trans hga
        have hrH : Rows (n + 2) H ncs (succ (l.take i)) := (hrows.keep hf' hka').keep hfa hk2
        have haM : a < M := by omega
        have hH1 : ∀ b, b < K → (H.upd (some (.cells [.int .i64 (y : Int)])) K).get b = H.get b := fun b hb => T.get_upd_ne _ _ (by omega)
        obtain ⟨v, w, H2, hv, happ, hwc, hbw, hbv, hf2', hfr, hlo2, hr2⟩ := Rows.add (g := succ (l.take (i + 1))) (hrH.keep hf2 (fun b hb => hH1 b hb) : Rows (n + 2) (H.upd (some (.cells [.int .i64 (y : Int)])) K) ncs (succ (l.take i))) (hf2.upd _) (by omega) (T.get_upd_same _ _ _)
          (fun k b hkb => by
            rcases hrH.at_ k _ hkb with ⟨_, h1⟩ | ⟨_, b', h1, _, h2⟩
            · simp [slV] at h1
            · simp only [slV, Value.slice.injEq, Option.some.injEq, Addr.mk.injEq] at h1
              have := hf2.lt h2
              omega)
          (fun k => by have := succ_len (l.take i) k; have := List.length_take_le i l; omega) (a := a)
          (fun k => by
            rw [succ_take hie]
            by_cases hka : k = a
            · subst hka; simp
            · rw [if_neg hka, if_neg (fun e => hka (by simp only at e; omega))]) (by omega)
        have hvb : ∀ c', v = slV c' (succ (l.take i) a) → c' < n' := fun c' hc => by
          rcases hrows.at_ a v hv with ⟨_, h1⟩ | ⟨_, b', h1, _, h2⟩
          · rw [hc] at h1; simp [slV] at h1
          · rw [hc] at h1
            simp only [slV, Value.slice.injEq, Option.some.injEq, Addr.mk.injEq] at h1
            have := hf'.lt h2
            omega
        have hH2n : H2.get n = some (.cells ncs) := (hfr n (by omega) (fun c' hc => by have := (hlo2 c' hc).1; omega)).trans ((hH1 n (by omega)).trans hG2)
        have hH2g : H2.get (n + 1) = some (.cells [.int .i64 (M : Int), .slice (some ⟨n, 0, none⟩) M M, .slice eb l.length c]) := (hfr _ (by omega) (fun c' hc => by have := (hlo2 c' hc).1; omega)).trans ((hH1 _ (by omega)).trans hG1)
        have hP2 : H2.get n' = some (.cells [.int .i64 (a : Int), .int .i64 (y : Int)]) := (hfr n' (by omega) (fun c' hc => by have := hvb c' hc; omega)).trans ((hH1 n' (by omega)).trans hP)
        have lg : ∀ {H' : T Blk}, H'.get (n + 1) = some (.cells [.int .i64 (M : Int), .slice (some ⟨n, 0, none⟩) M M, .slice eb l.length c]) → loadA X H' 93 (.pointer (some ⟨n + 1, 0 + 1, none⟩)) = some (.slice (some ⟨n, 0, none⟩) M M) := fun hH => load1 ty93 rfl (cells_of hH) rfl
        have lp : ∀ {H' : T Blk}, H'.get n' = some (.cells [.int .i64 (a : Int), .int .i64 (y : Int)]) → loadA X H' 3 (.pointer (some ⟨n', 0, none⟩)) = some (.int .i64 (a : Int)) := fun hH => load1 ty3 rfl (cells_of hH) rfl
        have hlv : (ncs)[a]? = some v := hv
        refine WL.regG [(3, 17), (5, 17)] (by kernel_rfl) (by kernel_rfl) ?_
        refine OG.mv ?_; refine OG.nc ?_; refine OG.fd f95_1 ?_
        refine OG.ld (lg hG1) ?_
        refine OG.ix idx_pair0 ?_; refine OG.l3 ?_; refine OG.mv ?_; refine OG.nc ?_; refine OG.fd f95_1 ?_
        refine OG.ld (lg hG1) ?_
        refine OG.ix idx_pair0 ?_; refine OG.l3 ?_
        refine OG.ix (ix93 haM) ?_
        refine OG.ld (load1 ty25 rfl (cells_of hG2) hlv) ?_
        refine OG.ix idx_pair1 ?_; refine OG.l3 ?_
        refine OG.bs buildS1 ?_
        refine OG.bi (appendV happ) ?_
        refine OG.ix (ix93 haM) ?_
        refine OG.st (store1 ty25 rfl hH2n hwc (show a < ncs.length by omega)) ?_
        refine OG.nil ⟨FlOK.cons rfl rfl (lg hH2g) (sameSl _ _ _ _) (FlOK.cons rfl rfl (lp hP2) (sameInt _) FlOK.nil), ?_⟩
        refine WL.reg ?_
        refine OL.ad1 ?_
        refine OL.mv ?_
        refine OL.nil ⟨l.length - (i + 1), by omega, i + 1, ncs.set a w, by omega, rfl, (by repeat (first | exact Sub.nil | refine Sub.cons rfl ?_)), fun q hq => ?_, by omega, hf2'.set (by omega) _, ?_, T.get_upd_same _ _ _, by simp [hncs], hr2.lo (by omega) _, fun j e hj hje => ?_⟩
        · rw [T.get_upd_ne _ _ (by omega), hfr q (by omega) (fun c' hc => by have := (hlo2 c' hc).1; omega), hH1 q (by omega), hk2 q (by omega), hka' q (by omega)]
          exact hk q hq
        · rw [T.get_upd_ne _ _ (by omega)]; exact hH2g
        · rcases Nat.lt_or_ge j i with h4 | h4
          · exact hok j e h4 hje
          · have : j = i := by omega
            subst this
            rw [hie] at hje; cases hje
            exact hst
      · refine OL.bF ?_
        refine OL.nil (WL.seq (WL.condF rfl (WL.exit ?_)))
        have hi' : i = l.length := by omega
        subst hi'
        rw [List.take_length] at hrows
        refine WL.seq (WL.reg ?_)
        refine OL.mv ?_; refine OL.asg ?_; refine OL.asg ?_
        refine OL.nil (WL.ret ⟨fun id e => (by cases e), _, rfl, hk, by omega, hf', .inl ⟨_, rfl, ⟨by omega, fun e he => ?_, fun j a b hja hjb => ?_⟩, ⟨n + 1, n, ncs, rfl, by omega, by omega, by omega, by omega, by omega, hg1, hg2, hncs, hrows⟩⟩⟩)
        · obtain ⟨j, hj⟩ := List.getElem?_of_mem he
          exact (hok j e (List.getElem?_eq_some_iff.1 hj).1 hj).1
        · exact (hok (j + 1) b (List.getElem?_eq_some_iff.1 hjb).1 hjb).2 a (by omega) (by simpa using hja)
    · rw [List.getElem?_replicate] at hv
      split at hv
      · cases hv; rfl
      · cases hv
    · rw [List.getElem?_replicate] at hu
      split at hu
      · simp [slV] at hu
      · cases hu
  exact key

end Go.Sx

/- SwZ: what the functions of graphs say of a graph that is none. -/
namespace Go.Sx
open Go.Proofs
set_option maxRecDepth 100000
set_option maxHeartbeats 4000000

theorem fn15 : X.fn.get 15 = some Tryz.f15 := by kernel_rfl
theorem fn12 : X.fn.get 12 = some Tryz.f12 := by kernel_rfl
theorem fn14 : X.fn.get 14 = some Tryz.f14 := by kernel_rfl
theorem fn19 : X.fn.get 19 = some Tryz.f19 := by kernel_rfl
theorem fn21 : X.fn.get 21 = some Tryz.f21 := by kernel_rfl
theorem fn23 : X.fn.get 23 = some Tryz.f23 := by kernel_rfl

theorem graphE_cl (m : Int) (s : Value) (l : List (Int × Int)) (c : Int) (h : T Blk) (n : Nat) (hf : Fresh h n) (he : Edges h s l) (hbs : ∀ k, n ≤ k → BelV k s) (hlen : l.length ≤ 400) (hc : CheckE m l c) (h0 : c ≠ 0) :
    Gives 40 [.int .i64 m, s] h n fun v _ _ => v = .tuple #[.pointer none, .int .i64 c] := by
  rcases hc with ⟨rfl, hm⟩ | ⟨h1, h2, ⟨rfl, _⟩ | ⟨rfl, hng⟩⟩
  · have key : ∃ v h' n', Cl X 40 [.int .i64 m, s] h n (.ret v h' n') ∧ Keep n h h' ∧ n ≤ n' ∧ Fresh h' n' ∧ v = .tuple #[.pointer none, .int .i64 1] := by
      refine Cl.wl (memoX (by decide)) fn40 rfl rfl rfl rfl ?_
      refine WL.seq (WL.reg ?_)
      refine OL.asg ?_; refine OL.asg ?_
      refine OL.nil (WL.seq (WL.seq (WL.reg ?_)))
      by_cases c1 : m < 0
      · refine OL.mv ?_; refine OL.bT ?_; refine OL.mv ?_; refine OL.ps ?_; refine OL.ps ?_; refine OL.pT ?_
        refine OL.nil (WL.condT rfl (WL.seq (WL.reg ?_)))
        refine OL.asg ?_; refine OL.asg ?_
        exact OL.nil (WL.ret ⟨fun id e => (by cases e), _, rfl, .refl _ _, Nat.le_refl _, hf, rfl⟩)
      · refine OL.mv ?_; refine OL.bF ?_; refine OL.mv ?_; refine OL.mv ?_; refine OL.bT ?_; refine OL.pF ?_
        refine OL.nil (WL.condT rfl (WL.seq (WL.reg ?_)))
        refine OL.asg ?_; refine OL.asg ?_
        exact OL.nil (WL.ret ⟨fun id e => (by cases e), _, rfl, .refl _ _, Nat.le_refl _, hf, rfl⟩)
    exact key
  · exact (h0 rfl).elim
  · obtain ⟨M, rfl⟩ : ∃ M : Nat, m = (M : Int) := ⟨m.toNat, by omega⟩
    obtain ⟨v, h', n', q1, q2, q3, q4, q5⟩ := graphOf2_cl M s l h n hf he hbs hlen (by omega)
    rcases q5 with ⟨_, _, hg, _⟩ | ⟨rfl, _⟩
    · exact (hng hg).elim
    · exact ⟨_, h', n', q1, q2, q3, q4, rfl⟩

theorem checkP_cl (m : Int) (s : Value) (l : List (Int × Int)) (c : Int) (h : T Blk) (n : Nat) (hf : Fresh h n) (he : Edges h s l) (hbs : ∀ k, n ≤ k → BelV k s) (hlen : l.length ≤ 400) (hc : CheckE m l c) :
    Gives 15 [.int .i64 m, s] h n fun v _ _ => v = .int .i64 c := by
  have key : ∃ v h' n', Cl X 15 [.int .i64 m, s] h n (.ret v h' n') ∧ Keep n h h' ∧ n ≤ n' ∧ Fresh h' n' ∧ v = .int .i64 c := by
    have hgr : ∃ p, Gives 40 [.int .i64 m, s] h n fun v _ _ => v = .tuple #[p, .int .i64 c] := by
      by_cases h0 : c = 0
      · subst h0
        obtain ⟨hg, h400⟩ := hc.zero
        have hlo := hg.lo
        obtain ⟨M, rfl⟩ : ∃ M : Nat, m = (M : Int) := ⟨m.toNat, by omega⟩
        obtain ⟨v, h', n', q1, q2, q3, q4, p, rfl, _⟩ := graphOf_cl M s l h n hf he hbs hlen (by omega) hg
        exact ⟨p, _, h', n', q1, q2, q3, q4, rfl⟩
      · exact ⟨_, graphE_cl m s l c h n hf he hbs hlen hc h0⟩
    obtain ⟨p, v1, h1, n1, hc1, hk1, hn1, hf1, rfl⟩ := hgr
    refine Cl.wl (memoX (by decide)) fn15 rfl rfl rfl rfl ?_
    refine WL.seq (WL.reg ?_)
    refine OL.asg ?_
    refine OL.nil (WL.seq (WL.reg ?_))
    refine OL.mv ?_; refine OL.mv ?_
    refine OL.cf fn40 hc1 ?_
    refine OL.mv ?_; refine OL.ext ?_; refine OL.ext ?_; refine OL.asg ?_; refine OL.asg ?_
    refine OL.nil (WL.seq (WL.reg ?_))
    refine OL.mv ?_; refine OL.asg ?_
    exact OL.nil (WL.ret ⟨fun id e => (by cases e), _, rfl, hk1, hn1, hf1, rfl⟩)
  exact key

def ErrV (c : Int) (v : Value) : Prop := v = .tuple #[.slice none 0 0, .int .i64 c]

theorem sortE_cl (m : Int) (s : Value) (l : List (Int × Int)) (c : Int) (h : T Blk) (n : Nat) (hf : Fresh h n) (he : Edges h s l) (hbs : ∀ k, n ≤ k → BelV k s) (hlen : l.length ≤ 400) (hc : CheckE m l c) (h0 : c ≠ 0) :
    Gives 11 [.int .i64 m, s] h n fun v _ _ => ErrV c v := by
  have key : ∃ v h' n', Cl X 11 [.int .i64 m, s] h n (.ret v h' n') ∧ Keep n h h' ∧ n ≤ n' ∧ Fresh h' n' ∧ ErrV c v := by
    obtain ⟨v1, h1, n1, hc1, hk1, hn1, hf1, rfl⟩ := graphE_cl m s l c h n hf he hbs hlen hc h0
    refine Cl.wl (memoX (by decide)) fn11 rfl rfl rfl rfl ?_
    refine WL.seq (WL.reg ?_)
    refine OL.asg ?_; refine OL.asg ?_
    refine OL.nil (WL.seq (WL.reg ?_))
    refine OL.mv ?_; refine OL.mv ?_
    refine OL.cf fn40 hc1 ?_
    refine OL.mv ?_; refine OL.ext ?_; refine OL.ext ?_; refine OL.asg ?_; refine OL.asg ?_
    refine OL.nil (WL.seq (WL.seq (WL.reg ?_)))
    refine OL.mv ?_; refine OL.nT ?_
    refine OL.nil (WL.condT rfl (WL.seq (WL.reg ?_)))
    refine OL.mv ?_; refine OL.asg ?_; refine OL.asg ?_
    exact OL.nil (WL.ret ⟨fun id e => (by cases e), _, rfl, hk1, hn1, hf1, rfl⟩)
  exact key

theorem cycleE_cl (m : Int) (s : Value) (l : List (Int × Int)) (c : Int) (h : T Blk) (n : Nat) (hf : Fresh h n) (he : Edges h s l) (hbs : ∀ k, n ≤ k → BelV k s) (hlen : l.length ≤ 400) (hc : CheckE m l c) (h0 : c ≠ 0) :
    Gives 13 [.int .i64 m, s] h n fun v _ _ => ErrV c v := by
  have key : ∃ v h' n', Cl X 13 [.int .i64 m, s] h n (.ret v h' n') ∧ Keep n h h' ∧ n ≤ n' ∧ Fresh h' n' ∧ ErrV c v := by
    obtain ⟨v1, h1, n1, hc1, hk1, hn1, hf1, rfl⟩ := graphE_cl m s l c h n hf he hbs hlen hc h0
    refine Cl.wl (memoX (by decide)) fn13 rfl rfl rfl rfl ?_
    refine WL.seq (WL.reg ?_)
    refine OL.asg ?_; refine OL.asg ?_
    refine OL.nil (WL.seq (WL.reg ?_))
    refine OL.mv ?_; refine OL.mv ?_
    refine OL.cf fn40 hc1 ?_
    refine OL.mv ?_; refine OL.ext ?_; refine OL.ext ?_; refine OL.asg ?_; refine OL.asg ?_
    refine OL.nil (WL.seq (WL.seq (WL.reg ?_)))
    refine OL.mv ?_; refine OL.nT ?_
    refine OL.nil (WL.condT rfl (WL.seq (WL.reg ?_)))
    refine OL.mv ?_; refine OL.asg ?_; refine OL.asg ?_
    exact OL.nil (WL.ret ⟨fun id e => (by cases e), _, rfl, hk1, hn1, hf1, rfl⟩)
  exact key

theorem closureE_cl (m : Int) (s : Value) (l : List (Int × Int)) (c : Int) (h : T Blk) (n : Nat) (hf : Fresh h n) (he : Edges h s l) (hbs : ∀ k, n ≤ k → BelV k s) (hlen : l.length ≤ 400) (hc : CheckE m l c) (h0 : c ≠ 0) :
    Gives 20 [.int .i64 m, s] h n fun v _ _ => ErrV c v := by
  have key : ∃ v h' n', Cl X 20 [.int .i64 m, s] h n (.ret v h' n') ∧ Keep n h h' ∧ n ≤ n' ∧ Fresh h' n' ∧ ErrV c v := by
    obtain ⟨v1, h1, n1, hc1, hk1, hn1, hf1, rfl⟩ := graphE_cl m s l c h n hf he hbs hlen hc h0
    refine Cl.wl (memoX (by decide)) fn20 rfl rfl rfl rfl ?_
    refine WL.seq (WL.reg ?_)
    refine OL.asg ?_; refine OL.asg ?_
    refine OL.nil (WL.seq (WL.reg ?_))
    refine OL.mv ?_; refine OL.mv ?_
    refine OL.cf fn40 hc1 ?_
    refine OL.mv ?_; refine OL.ext ?_; refine OL.ext ?_; refine OL.asg ?_; refine OL.asg ?_
    refine OL.nil (WL.seq (WL.seq (WL.reg ?_)))
    refine OL.mv ?_; refine OL.nT ?_
    refine OL.nil (WL.condT rfl (WL.seq (WL.reg ?_)))
    refine OL.mv ?_; refine OL.asg ?_; refine OL.asg ?_
    exact OL.nil (WL.ret ⟨fun id e => (by cases e), _, rfl, hk1, hn1, hf1, rfl⟩)
  exact key

theorem reduceE_cl (m : Int) (s : Value) (l : List (Int × Int)) (c : Int) (h : T Blk) (n : Nat) (hf : Fresh h n) (he : Edges h s l) (hbs : ∀ k, n ≤ k → BelV k s) (hlen : l.length ≤ 400) (hc : CheckE m l c) (h0 : c ≠ 0) :
    Gives 22 [.int .i64 m, s] h n fun v _ _ => ErrV c v := by
  have key : ∃ v h' n', Cl X 22 [.int .i64 m, s] h n (.ret v h' n') ∧ Keep n h h' ∧ n ≤ n' ∧ Fresh h' n' ∧ ErrV c v := by
    obtain ⟨v1, h1, n1, hc1, hk1, hn1, hf1, rfl⟩ := graphE_cl m s l c h n hf he hbs hlen hc h0
    refine Cl.wl (memoX (by decide)) fn22 rfl rfl rfl rfl ?_
    refine WL.seq (WL.reg ?_)
    refine OL.asg ?_; refine OL.asg ?_
    refine OL.nil (WL.seq (WL.reg ?_))
    refine OL.mv ?_; refine OL.mv ?_
    refine OL.cf fn40 hc1 ?_
    refine OL.mv ?_; refine OL.ext ?_; refine OL.ext ?_
    refine OL.al ty87' ?_
    refine OL.st (store1 ty87' rfl (T.get_upd_same _ _ _) rfl (o := 0) (by decide)) ?_
    refine OL.asg ?_
    refine OL.nil (WL.seq (WL.seq (WL.reg ?_)))
    refine OL.mv ?_; refine OL.nT ?_
    refine OL.nil (WL.condT rfl (WL.seq (WL.reg ?_)))
    refine OL.mv ?_; refine OL.asg ?_; refine OL.asg ?_
    exact OL.nil (WL.ret ⟨fun id e => (by cases e), _, rfl, (hk1.upd hn1 _).upd hn1 _, by omega, (hf1.upd _).set (by omega) _, rfl⟩)
  exact key

theorem levelsE_cl (m : Int) (s : Value) (l : List (Int × Int)) (c : Int) (h : T Blk) (n : Nat) (hf : Fresh h n) (he : Edges h s l) (hbs : ∀ k, n ≤ k → BelV k s) (hlen : l.length ≤ 400) (hc : CheckE m l c) (h0 : c ≠ 0) :
    Gives 18 [.int .i64 m, s] h n fun v _ _ => ErrV c v := by
  have key : ∃ v h' n', Cl X 18 [.int .i64 m, s] h n (.ret v h' n') ∧ Keep n h h' ∧ n ≤ n' ∧ Fresh h' n' ∧ ErrV c v := by
    obtain ⟨v1, h1, n1, hc1, hk1, hn1, hf1, hv1⟩ := sortE_cl m s l c h n hf he hbs hlen hc h0
    cases hv1
    refine Cl.wl (memoX (by decide)) fn18 rfl rfl rfl rfl ?_
    refine WL.seq (WL.reg ?_)
    refine OL.asg ?_; refine OL.asg ?_
    refine OL.nil (WL.seq (WL.reg ?_))
    refine OL.mv ?_; refine OL.mv ?_
    refine OL.cf fn11 hc1 ?_
    refine OL.mv ?_; refine OL.ext ?_; refine OL.ext ?_; refine OL.asg ?_; refine OL.asg ?_
    refine OL.nil (WL.seq (WL.seq (WL.reg ?_)))
    refine OL.mv ?_; refine OL.nT ?_
    refine OL.nil (WL.condT rfl (WL.seq (WL.reg ?_)))
    refine OL.mv ?_; refine OL.asg ?_; refine OL.asg ?_
    exact OL.nil (WL.ret ⟨fun id e => (by cases e), _, rfl, hk1, hn1, hf1, rfl⟩)
  exact key

theorem rsortE_cl (m : Int) (s : Value) (l : List (Int × Int)) (c : Int) (h : T Blk) (n : Nat) (hf : Fresh h n) (he : Edges h s l) (hbs : ∀ k, n ≤ k → BelV k s) (hlen : l.length ≤ 400) (hc : CheckE m l c) (h0 : c ≠ 0) :
    Gives 12 [.int .i64 m, s] h n fun v _ _ => ErrV c v := by
  have key : ∃ v h' n', Cl X 12 [.int .i64 m, s] h n (.ret v h' n') ∧ Keep n h h' ∧ n ≤ n' ∧ Fresh h' n' ∧ ErrV c v := by
    obtain ⟨v1, h1, n1, hc1, hk1, hn1, hf1, c', rfl, hcc⟩ := check2_cl m s l h n hf he hbs hlen
    obtain rfl := hcc.uniq hc
    refine Cl.wl (memoX (by decide)) fn12 rfl rfl rfl rfl ?_
    refine WL.seq (WL.reg ?_)
    refine OL.asg ?_; refine OL.asg ?_
    refine OL.nil (WL.seq (WL.seq (WL.reg ?_)))
    refine OL.mv ?_; refine OL.mv ?_
    refine OL.cf fn16 hc1 ?_
    refine OL.asg ?_
    refine OL.nil (WL.seq (WL.reg ?_))
    refine OL.mv ?_; refine OL.nT ?_
    refine OL.nil (WL.condT rfl (WL.seq (WL.reg ?_)))
    refine OL.mv ?_; refine OL.asg ?_; refine OL.asg ?_
    exact OL.nil (WL.ret ⟨fun id e => (by cases e), _, rfl, hk1, hn1, hf1, rfl⟩)
  exact key

theorem rcycleE_cl (m : Int) (s : Value) (l : List (Int × Int)) (c : Int) (h : T Blk) (n : Nat) (hf : Fresh h n) (he : Edges h s l) (hbs : ∀ k, n ≤ k → BelV k s) (hlen : l.length ≤ 400) (hc : CheckE m l c) (h0 : c ≠ 0) :
    Gives 14 [.int .i64 m, s] h n fun v _ _ => ErrV c v := by
  have key : ∃ v h' n', Cl X 14 [.int .i64 m, s] h n (.ret v h' n') ∧ Keep n h h' ∧ n ≤ n' ∧ Fresh h' n' ∧ ErrV c v := by
    obtain ⟨v1, h1, n1, hc1, hk1, hn1, hf1, c', rfl, hcc⟩ := check2_cl m s l h n hf he hbs hlen
    obtain rfl := hcc.uniq hc
    refine Cl.wl (memoX (by decide)) fn14 rfl rfl rfl rfl ?_
    refine WL.seq (WL.reg ?_)
    refine OL.asg ?_; refine OL.asg ?_
    refine OL.nil (WL.seq (WL.seq (WL.reg ?_)))
    refine OL.mv ?_; refine OL.mv ?_
    refine OL.cf fn16 hc1 ?_
    refine OL.asg ?_
    refine OL.nil (WL.seq (WL.reg ?_))
    refine OL.mv ?_; refine OL.nT ?_
    refine OL.nil (WL.condT rfl (WL.seq (WL.reg ?_)))
    refine OL.mv ?_; refine OL.asg ?_; refine OL.asg ?_
    exact OL.nil (WL.ret ⟨fun id e => (by cases e), _, rfl, hk1, hn1, hf1, rfl⟩)
  exact key

theorem rclosureE_cl (m : Int) (s : Value) (l : List (Int × Int)) (c : Int) (h : T Blk) (n : Nat) (hf : Fresh h n) (he : Edges h s l) (hbs : ∀ k, n ≤ k → BelV k s) (hlen : l.length ≤ 400) (hc : CheckE m l c) (h0 : c ≠ 0) :
    Gives 21 [.int .i64 m, s] h n fun v _ _ => ErrV c v := by
  have key : ∃ v h' n', Cl X 21 [.int .i64 m, s] h n (.ret v h' n') ∧ Keep n h h' ∧ n ≤ n' ∧ Fresh h' n' ∧ ErrV c v := by
    obtain ⟨v1, h1, n1, hc1, hk1, hn1, hf1, c', rfl, hcc⟩ := check2_cl m s l h n hf he hbs hlen
    obtain rfl := hcc.uniq hc
    refine Cl.wl (memoX (by decide)) fn21 rfl rfl rfl rfl ?_
    refine WL.seq (WL.reg ?_)
    refine OL.asg ?_; refine OL.asg ?_
    refine OL.nil (WL.seq (WL.seq (WL.reg ?_)))
    refine OL.mv ?_; refine OL.mv ?_
    refine OL.cf fn16 hc1 ?_
    refine OL.asg ?_
    refine OL.nil (WL.seq (WL.reg ?_))
    refine OL.mv ?_; refine OL.nT ?_
    refine OL.nil (WL.condT rfl (WL.seq (WL.reg ?_)))
    refine OL.mv ?_; refine OL.asg ?_; refine OL.asg ?_
    exact OL.nil (WL.ret ⟨fun id e => (by cases e), _, rfl, hk1, hn1, hf1, rfl⟩)
  exact key

theorem rlevelsE_cl (m : Int) (s : Value) (l : List (Int × Int)) (c : Int) (h : T Blk) (n : Nat) (hf : Fresh h n) (he : Edges h s l) (hbs : ∀ k, n ≤ k → BelV k s) (hlen : l.length ≤ 400) (hc : CheckE m l c) (h0 : c ≠ 0) :
    Gives 19 [.int .i64 m, s] h n fun v _ _ => ErrV c v := by
  have key : ∃ v h' n', Cl X 19 [.int .i64 m, s] h n (.ret v h' n') ∧ Keep n h h' ∧ n ≤ n' ∧ Fresh h' n' ∧ ErrV c v := by
    obtain ⟨v1, h1, n1, hc1, hk1, hn1, hf1, hv1⟩ := rsortE_cl m s l c h n hf he hbs hlen hc h0
    cases hv1
    refine Cl.wl (memoX (by decide)) fn19 rfl rfl rfl rfl ?_
    refine WL.seq (WL.reg ?_)
    refine OL.asg ?_; refine OL.asg ?_
    refine OL.nil (WL.seq (WL.reg ?_))
    refine OL.mv ?_; refine OL.mv ?_
    refine OL.cf fn12 hc1 ?_
    refine OL.mv ?_; refine OL.ext ?_; refine OL.ext ?_; refine OL.asg ?_; refine OL.asg ?_
    refine OL.nil (WL.seq (WL.seq (WL.reg ?_)))
    refine OL.mv ?_; refine OL.nT ?_
    refine OL.nil (WL.condT rfl (WL.seq (WL.reg ?_)))
    refine OL.mv ?_; refine OL.asg ?_; refine OL.asg ?_
    exact OL.nil (WL.ret ⟨fun id e => (by cases e), _, rfl, hk1, hn1, hf1, rfl⟩)
  exact key

theorem rreduceE_cl (m : Int) (s : Value) (l : List (Int × Int)) (c : Int) (h : T Blk) (n : Nat) (hf : Fresh h n) (he : Edges h s l) (hbs : ∀ k, n ≤ k → BelV k s) (hlen : l.length ≤ 400) (hc : CheckE m l c) (h0 : c ≠ 0) :
    Gives 23 [.int .i64 m, s] h n fun v _ _ => ErrV c v := by
  have key : ∃ v h' n', Cl X 23 [.int .i64 m, s] h n (.ret v h' n') ∧ Keep n h h' ∧ n ≤ n' ∧ Fresh h' n' ∧ ErrV c v := by
    obtain ⟨v1, h1, n1, hc1, hk1, hn1, hf1, hv1⟩ := rsortE_cl m s l c h n hf he hbs hlen hc h0
    cases hv1
    refine Cl.wl (memoX (by decide)) fn23 rfl rfl rfl rfl ?_
    refine WL.seq (WL.reg ?_)
    refine OL.asg ?_; refine OL.asg ?_
    refine OL.nil (WL.seq (WL.seq (WL.reg ?_)))
    refine OL.mv ?_; refine OL.mv ?_
    refine OL.cf fn12 hc1 ?_
    refine OL.mv ?_; refine OL.ext ?_; refine OL.ext ?_; refine OL.asg ?_; refine OL.asg ?_
    refine OL.nil (WL.seq (WL.reg ?_))
    refine OL.mv ?_; refine OL.nT ?_
    refine OL.nil (WL.condT rfl (WL.seq (WL.reg ?_)))
    refine OL.mv ?_; refine OL.asg ?_; refine OL.asg ?_
    exact OL.nil (WL.ret ⟨fun id e => (by cases e), _, rfl, hk1, hn1, hf1, rfl⟩)
  exact key

end Go.Sx
