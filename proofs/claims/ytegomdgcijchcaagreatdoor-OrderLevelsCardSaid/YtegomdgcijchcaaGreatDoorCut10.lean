/- SwR: pairs in cells; slices.Clone, slices.DeleteFunc of pairs. -/
import Derived.Test.YtegomdgcijchcaaGreatDoorCut9
namespace Go.Sx
open Go.Proofs
set_option maxRecDepth 100000
set_option maxHeartbeats 2000000

theorem fn31 : X.fn.get 31 = some Tryz.f31 := by kernel_rfl
theorem fn53 : X.fn.get 53 = some Tryz.f53 := by kernel_rfl
theorem buildE0 : buildSliceA X 22 0 [] = some [] := by kernel_rfl

/- Pairs that lie in cells. -/
def Pts (all : List Value) (o : Nat) (D : List (Int × Int)) : Prop := o + D.length * 2 ≤ all.length ∧ ∀ (a : Nat) (e : Int × Int), D[a]? = some e → all[o + a * 2]? = some (.int .i64 e.1) ∧ all[o + a * 2 + 1]? = some (.int .i64 e.2)

theorem Pts.seg : ∀ {D : List (Int × Int)} {all : List Value} {o : Nat}, Pts all o D → Go.Sx.seg all o (D.length * 2) = some (eCs D)
  | [], all, o, _ => rfl
  | e :: D, all, o, p => by
    have h0 := p.2 0 e rfl
    have ih : Go.Sx.seg all (o + 2) (D.length * 2) = some (eCs D) := Pts.seg ⟨by have := p.1; simp at this; omega, fun a e' ha => by
      have := p.2 (a + 1) e' (by simpa using ha)
      rw [show o + (a + 1) * 2 = o + 2 + a * 2 by omega] at this
      exact this⟩
    have hl := p.1
    simp only [List.length_cons] at hl
    rw [seg_of (by simp only [List.length_cons]; omega)] 
    rw [seg_of (by omega)] at ih
    simp only [Nat.zero_mul, Nat.add_zero] at h0
    obtain ⟨q1, q2⟩ := List.getElem?_eq_some_iff.1 h0.1
    obtain ⟨q3, q4⟩ := List.getElem?_eq_some_iff.1 h0.2
    rw [List.drop_eq_getElem_cons q1, List.drop_eq_getElem_cons q3, q2, q4, List.length_cons, show (D.length + 1) * 2 = D.length * 2 + 1 + 1 by omega, List.take_succ_cons, List.take_succ_cons]
    simp only [Option.some.injEq] at ih
    rw [show o + 1 + 1 = o + 2 by omega, ih]
    rfl

theorem pts_of {D : List (Int × Int)} {all : List Value} {o : Nat} (ho : o ≤ all.length) (h : seg all o (D.length * 2) = some (eCs D)) : Pts all o D := by
  refine ⟨?_, fun a e ha => ?_⟩
  · by_cases h0 : D.length = 0
    · omega
    · have := ((seg_some h).2 (D.length * 2 - 1) (by omega)).2
      omega
  · have hlt := (List.getElem?_eq_some_iff.1 ha).1
    have := eCs_at ha
    rw [show o + a * 2 + 1 = o + (a * 2 + 1) by omega, seg_at h (by omega), seg_at h (by omega)]
    exact this

theorem over_get {α : Type} {all vs : List α} {k : Nat} (hk : k + vs.length ≤ all.length) (a : Nat) : (all.take k ++ vs ++ all.drop (k + vs.length))[a]? = if a < k then all[a]? else if a < k + vs.length then vs[a - k]? else all[a]? := by
  have hl : (all.take k).length = k := by rw [List.length_take]; omega
  by_cases h1 : a < k
  · rw [if_pos h1, List.append_assoc, List.getElem?_append_left (by omega), List.getElem?_take, if_pos h1]
  · rw [if_neg h1]
    by_cases h2 : a < k + vs.length
    · rw [if_pos h2, List.getElem?_append_left (by rw [List.length_append]; omega), List.getElem?_append_right (by omega), hl]
    · rw [if_neg h2, List.getElem?_append_right (by rw [List.length_append]; omega), List.getElem?_drop]
      congr 1
      rw [List.length_append, hl]
      omega
theorem over_len {α : Type} {all vs : List α} {k : Nat} (hk : k + vs.length ≤ all.length) : (all.take k ++ vs ++ all.drop (k + vs.length)).length = all.length := by
  simp only [List.length_append, List.length_take, List.length_drop]
  omega

theorem put_of {h : T Blk} {b k : Nat} {all vs : List Value} (hb : h.get b = some (.cells all)) (hv : allCells vs = true) (hk : k + vs.length ≤ all.length) : putA h b k vs = some (h.upd (some (.cells (all.take k ++ vs ++ all.drop (k + vs.length)))) b) := by
  simp only [putA, hb, hv, cond_true, overAt_of vs hk]

theorem Pts.set {all : List Value} {o i : Nat} {D : List (Int × Int)} {x y : Int} (p : Pts all o D) (hi : i < D.length) : Pts (all.take (o + i * 2) ++ [.int .i64 x, .int .i64 y] ++ all.drop (o + i * 2 + 2)) o (D.set i (x, y)) := by
  have hk : o + i * 2 + [Value.int .i64 x, .int .i64 y].length ≤ all.length := by have := p.1; simp; omega
  refine ⟨by rw [show o + i * 2 + 2 = o + i * 2 + [Value.int .i64 x, .int .i64 y].length from rfl, over_len hk, List.length_set]; exact p.1, fun a e ha => ?_⟩
  rw [show o + i * 2 + 2 = o + i * 2 + [Value.int .i64 x, .int .i64 y].length from rfl, over_get hk, over_get hk]
  rw [List.getElem?_set] at ha
  have hl2 : [Value.int .i64 x, .int .i64 y].length = 2 := rfl
  by_cases e1 : i = a
  · subst e1
    rw [if_pos rfl, if_pos hi] at ha
    cases ha
    rw [if_neg (by omega), if_pos (by omega), if_neg (by omega), if_pos (by omega), show o + i * 2 - (o + i * 2) = 0 by omega, show o + i * 2 + 1 - (o + i * 2) = 1 by omega]
    exact ⟨rfl, rfl⟩
  · rw [if_neg e1] at ha
    have := p.2 a e ha
    rcases Nat.lt_or_ge a i with h1 | h1
    · rw [if_pos (by omega), if_pos (by omega)]; exact this
    · rw [if_neg (by omega), if_neg (by omega), if_neg (by omega), if_neg (by omega)]; exact this

theorem Pts.cut {all vs : List Value} {o k m : Nat} {D : List (Int × Int)} (p : Pts all o D) (hm : m ≤ D.length) (hk : k = o + m * 2) (hv : k + vs.length ≤ all.length) : Pts (all.take k ++ vs ++ all.drop (k + vs.length)) o (D.take m) := by
  refine ⟨by rw [over_len hv, List.length_take]; omega, fun a e ha => ?_⟩
  rw [List.getElem?_take] at ha
  split at ha
  · rw [over_get hv, over_get hv, if_pos (by omega), if_pos (by omega)]
    exact p.2 a e ha
  · cases ha

/- Pairs that are read, and can be copied. -/
structure EdR (n : Nat) (h : T Blk) (v : Value) (C : List (Int × Int)) : Prop where
  ed : Edges h v C
  row : rowA h 2 C.length v = some (eCs C)
  bel : BelV n v

theorem EdR.keep {n m : Nat} {h h' : T Blk} {v : Value} {C : List (Int × Int)} (r : EdR n h v C) (hf : Fresh h n) (hk : Keep n h h') (hm : n ≤ m) : EdR m h' v C := by
  have hb := r.bel
  have hr := r.row
  have hb2 := hb
  obtain ⟨eb, c, rfl, _⟩ := r.ed.ex
  refine ⟨r.ed.keep hf hk, ?_, ?_⟩
  · cases eb with
    | none => exact hr
    | some a =>
      obtain ⟨b, o, s⟩ := a
      cases s with
      | some s => simp [rowA] at hr
      | none =>
        simp only [rowA, cellsOf] at hr ⊢
        rw [hk b hb]
        exact hr
  · cases eb with
    | none => trivial
    | some a => show a.block < m; have : a.block < n := hb2; omega

theorem EdR.rd {n : Nat} {h : T Blk} {v : Value} {C : List (Int × Int)} (r : EdR n h v C) (hf : Fresh h n) : RdE n h v C := r.ed.rd hf r.bel
theorem EdR.belW {n m : Nat} {h : T Blk} {v : Value} {C : List (Int × Int)} (r : EdR n h v C) (hm : n ≤ m) : BelV m v := by
  have hb2 := r.bel
  obtain ⟨eb, c, rfl, _⟩ := r.ed.ex
  cases eb with
  | none => trivial
  | some a => show a.block < m; have : a.block < n := hb2; omega

/- A slice over cells. -/
theorem EdR.of {n b o cap : Nat} {h : T Blk} {all : List Value} {D : List (Int × Int)} (hb : h.get b = some (.cells all)) (hbn : b < n) (p : Pts all o D) : EdR n h (.slice (some ⟨b, o, none⟩) D.length cap) D :=
  ⟨⟨_, cap, rfl, fun i e hi => ⟨b, o, rfl, all, cells_of hb, p.2 i e hi⟩⟩, by simp only [rowA, cells_of hb]; exact p.seg, BelV.sl hbn⟩
theorem EdR.nil {n : Nat} {h : T Blk} : EdR n h (.slice none 0 0) [] := ⟨⟨none, 0, rfl, fun i e hi => by simp at hi⟩, rfl, trivial⟩

/- A copy: cells of one's own; its capacity is not told. -/
def Own2 (lo : Nat) (h : T Blk) (v : Value) (D : List (Int × Int)) : Prop :=
  (v = .slice none 0 0 ∧ D = []) ∨ ∃ b cap all, v = .slice (some ⟨b, 0, none⟩) D.length cap ∧ lo ≤ b ∧ h.get b = some (.cells all) ∧ Pts all 0 D ∧ (cap = UNK * 2 + D.length ∨ cap = D.length ∧ D = [])

theorem cloneE_cl (C : List (Int × Int)) (v : Value) (h : T Blk) (n : Nat) (hf : Fresh h n) (hr : EdR n h v C) (hlen : C.length ≤ 100000) :
    Gives 31 [v] h n fun w h' _ => Own2 n h' w C := by
  have key : ∃ w h' n', Cl X 31 [v] h n (.ret w h' n') ∧ Keep n h h' ∧ n ≤ n' ∧ Fresh h' n' ∧ Own2 n h' w C := by
    have hk : Keep n h (h.upd (some (.cells [])) n) := (Keep.refl n h).upd (Nat.le_refl _) _
    have hr1 := hr.keep hf hk (Nat.le_succ n)
    obtain ⟨eb, c, rfl, hx⟩ := hr.ed.ex
    refine Cl.wl (memoX (by decide)) fn31 rfl rfl rfl rfl ?_
    refine WL.seq (WL.reg ?_)
    refine OL.asg ?_
    refine OL.nil (WL.seq (WL.seq (WL.reg ?_)))
    refine OL.mv ?_
    cases eb with
    | none =>
      have hC : C = [] := by
        have := hr.row
        simp only [rowA] at this
        cases C with
        | nil => rfl
        | cons e C => simp [bif_eq_ite] at this
      refine OL.bv (v := .bool true) rfl ?_
      refine OL.nil (WL.condT rfl (WL.seq (WL.reg ?_)))
      refine OL.asg ?_
      exact OL.nil (WL.ret ⟨fun id e => (by cases e), _, rfl, .refl _ _, Nat.le_refl _, hf, .inl ⟨rfl, hC⟩⟩)
    | some a =>
      refine OL.bv (v := .bool false) rfl ?_
      refine OL.nil (WL.condF rfl (WL.skip ?_))
      have a0 : App tPair.size n (h.upd (some (.cells [])) n) (.slice (some ⟨n, 0, none⟩) 0 0) 0 [] := .inr ⟨n, 0, 0, [], rfl, .inr rfl, Nat.le_refl _, T.get_upd_same _ _ _, rfl⟩
      refine WL.seq (WL.reg ?_)
      refine OL.bs buildE0 ?_
      refine OL.mv ?_
      by_cases h0 : C.length = 0
      · have hC := List.length_eq_zero_iff.1 h0
        subst hC
        have happ := append_none (n := n + 1) el22 a0 ⟨_, _, rfl⟩ hr1.row (by omega)
        refine OL.bi (appendB happ) ?_
        refine OL.asg ?_
        exact OL.nil (WL.ret ⟨fun id e => (by cases e), _, rfl, hk, by omega, hf.upd _, .inr ⟨n, 0, [], rfl, Nat.le_refl _, T.get_upd_same _ _ _, ⟨by simp, fun a e ha => by simp at ha⟩, .inr ⟨rfl, rfl⟩⟩⟩)
      · have hac : ∀ D : List (Int × Int), allCells (eCs D) = true := fun D => by
          induction D with
          | nil => rfl
          | cons e D ih => simp only [eCs, allCells, isCell, cond_true, ih]
        obtain ⟨w, h', happ, q1, q2, q3, q4, q5, q6⟩ := append_own el22 a0 (hf.upd _) (xl := C.length) (new := eCs C) ⟨_, _, rfl⟩ hr1.row (by omega) hlen (hac C) (by omega)
        refine OL.bi (appendB happ) ?_
        refine OL.asg ?_
        refine OL.nil (WL.ret ⟨fun id e => (by cases e), _, rfl, fun q hq => ?_, by omega, q1, ?_⟩)
        · rw [q2 q (by omega) (fun e => by have : n = q := Option.some.inj e; omega)]; exact hk q hq
        · rw [Nat.zero_add] at q5
          subst q5
          rw [List.nil_append] at q6
          exact .inr ⟨n + 1, _, _, rfl, by omega, q6, pts_of (Nat.zero_le _) (by rw [← eCs_len]; exact seg_all _), .inl rfl⟩
  exact key

end Go.Sx

/- SwT: slices.DeleteFunc of pairs, Reduce. -/
namespace Go.Sx
open Go.Proofs
set_option maxRecDepth 100000
set_option maxHeartbeats 2000000

theorem fn50 : X.fn.get 50 = some Tryz.f50 := by kernel_rfl
theorem fn52 : X.fn.get 52 = some Tryz.f52 := by kernel_rfl
theorem fn22 : X.fn.get 22 = some Tryz.f22 := by kernel_rfl

theorem OL.biN {E : Env} {many : Nat} {all l : List Oper} {L : LT} {h h' : T Blk} {n n' : Nat} {Q : LT → T Blk → Nat → Prop} {o : Oper} {v : Value} {c : Call} {b : Builtin} {args : List Value} (hr : builtinA E b c.argTypes.toList args h n = .val v h' n') (hk : OL E many all l L h' n' Q) (ho : o.op = .call c := by rfl) (hc : c.callee = .builtin b := by rfl) (ha : evLs E L c.args.toList = some args := by rfl) (hw : WantL all L o.guard true := by first | rfl | exact WantL.yes rfl rfl rfl) (hd : o.dst = none := by rfl) : OL E many all (o :: l) L h n Q := by
  intro t ht
  simp only [OpsW, hw.ok ht, (D.builtinV ho hc ha hr) t ht, putT, hd]
  exact hk _ ht

/- What a call hands back, what lies below a number being kept. -/
def GivesM (m : Nat) (f : FuncId) (args : List Value) (h : T Blk) (n : Nat) (R : Value → T Blk → Nat → Prop) : Prop :=
  ∃ v h' n', Cl X f args h n (.ret v h' n') ∧ Keep m h h' ∧ n ≤ n' ∧ Fresh h' n' ∧ R v h' n'

theorem sl2_from {len k b : Nat} (hk : k ≤ len) (hl : len ≤ 100000) : sliceA X 22 (.slice (some ⟨b, 0, none⟩) len (UNK * 2 + len)) (some (.int .i64 (k : Int))) none none = some (.slice (some ⟨b, k * 2, none⟩) (len - k) (UNK * 2 + len - k)) := by
  have hu : len < UNK := by unfold UNK; omega
  have hn1 : natV (.int .i64 (k : Int)) len = some k := by
    show natV (.int .i64 (Int.ofNat k)) len = some k
    simp only [natV, bif_eq_ite, bleT]
    rw [if_pos hk]
  have q1 : lowCap (UNK * 2 + len) = len := lowCap_u hu
  have q2 : (UNK * 2 + len) / UNK = 2 := divCap_u hu
  have q3 : unkCap (UNK * 2 + len) = true := by unfold unkCap; rw [bleT]; omega
  simp only [sliceA, ty22, tSl, ty35, tPair, boundsA, boundsA.low, q1, hn1, q2, q3, cond_true, Nat.beq_refl, Nat.zero_add]
theorem sl2_to {len k b : Nat} (hk : k ≤ len) (hl : len ≤ 100000) : sliceA X 22 (.slice (some ⟨b, 0, none⟩) len (UNK * 2 + len)) none (some (.int .i64 (k : Int))) none = some (.slice (some ⟨b, 0, none⟩) k (UNK * 2 + len)) := by
  have hu : len < UNK := by unfold UNK; omega
  have hn1 : natV (.int .i64 (k : Int)) len = some k := by
    show natV (.int .i64 (Int.ofNat k)) len = some k
    simp only [natV, bif_eq_ite, bleT]
    rw [if_pos hk]
  have q1 : lowCap (UNK * 2 + len) = len := lowCap_u hu
  have q2 : (UNK * 2 + len) / UNK = 2 := divCap_u hu
  have q3 : unkCap (UNK * 2 + len) = true := by unfold unkCap; rw [bleT]; omega
  simp only [sliceA, ty22, tSl, ty35, tPair, boundsA, boundsA.low, q1, hn1, q2, q3, cond_true, Nat.beq_refl, Nat.zero_mul, Nat.zero_add, Nat.sub_zero]

theorem repL_cell {l : List Value} (h : allCells l = true) : ∀ k, allCells (repL l k) = true ∧ (repL l k).length = k * l.length
  | 0 => ⟨rfl, by simp [repL]⟩
  | k + 1 => by
    obtain ⟨h1, h2⟩ := repL_cell h k
    have ha : ∀ (a b : List Value), allCells a = true → allCells b = true → allCells (a ++ b) = true := by
      intro a b
      induction a with
      | nil => intro _ hb; exact hb
      | cons x a ih =>
        intro hx hb
        simp only [allCells, bif_eq_ite] at hx
        split at hx
        · rename_i q; simp only [List.cons_append, allCells, q, cond_true]; exact ih hx hb
        · cases hx
    exact ⟨ha _ _ h h1, by rw [repL, List.length_append, h2, Nat.succ_mul]; omega⟩

/- clear of what stands behind. -/
theorem clear2 {h : T Blk} {n b k len cap : Nat} {all : List Value} {D : List (Int × Int)} (hb : h.get b = some (.cells all)) (p : Pts all 0 D) (hl : D.length = len) (hk : k ≤ len) : ∃ v h' all', builtinA X .clear [22] [.slice (some ⟨b, k * 2, none⟩) (len - k) cap] h n = .val v h' n ∧ h'.get b = some (.cells all') ∧ (∀ q, q ≠ b → h'.get q = h.get q) ∧ Pts all' 0 (D.take k) := by
  by_cases h0 : len - k = 0
  · refine ⟨.tuple #[], h, all, ?_, hb, fun q _ => rfl, ?_⟩
    · simp only [builtinA, clearA, ty22, tSl, ty35, h0, Nat.beq_refl, cond_true]
    · rw [List.take_of_length_le (by omega)]; exact p
  · have hne : Nat.beq (len - k) 0 = false := by
      cases hq : Nat.beq (len - k) 0 with
      | false => rfl
      | true => rw [beqT] at hq; omega
    obtain ⟨z1, z2⟩ := repL_cell (l := tPair.zero) rfl (len - k)
    have z3 : (repL tPair.zero (len - k)).length = (len - k) * 2 := z2
    have hle : k * 2 + (repL tPair.zero (len - k)).length ≤ all.length := by have := p.1; rw [z3]; omega
    refine ⟨.tuple #[], _, _, ?_, T.get_upd_same _ _ _, fun q hq => T.get_upd_ne _ _ hq, p.cut (k := k * 2) (by omega) (by omega) hle⟩
    have hz : (tPair.zok && Nat.beq tPair.zero.length tPair.size && Nat.blt 0 tPair.size) = true := rfl
    simp only [builtinA, clearA, ty22, tSl, ty35, hne, cond_false, hz, cond_true, put_of hb z1 hle]

theorem deleteF_cl (C : List (Int × Int)) (p : Int × Int → Bool) (w fv : Value) (h : T Blk) (n m : Nat) (hf : Fresh h n) (hw : Own2 m h w C) (hfv : Fn1 m h fv (fun e : Int × Int => Value.agg #[.int .i64 e.1, .int .i64 e.2]) p (fun x => x ∈ C)) (hm : m ≤ n) (hlen : C.length ≤ 100000) :
    GivesM m 53 [w, fv] h n fun v h' n' => EdR n' h' v (C.filter fun e => !p e) := by
  have hE : EdR n h w C := by
    rcases hw with ⟨rfl, rfl⟩ | ⟨b, cap, all, rfl, hb, hg, hp, _⟩
    · exact .nil
    · exact .of hg (hf.lt hg) hp
  obtain ⟨v1, h1, n1, hc1, hk1, hn1, hf1, rfl⟩ := indexFE_cl C p w fv h n hf (hE.rd hf) (hfv.mono (Keep.refl _ _) hm) hlen
  obtain ⟨g, cs, fn, rfl, hgf, hcall⟩ := hfv
  have key : ∃ v h' n', Cl X 53 [w, .func (.func g) #[] cs] h n (.ret v h' n') ∧ Keep m h h' ∧ n ≤ n' ∧ Fresh h' n' ∧ EdR n' h' v (C.filter fun e => !p e) := by
    refine Cl.wl (memoX (by decide)) fn53 rfl rfl rfl rfl ?_
    refine WL.seq (WL.reg ?_)
    refine OL.asg ?_
    refine OL.nil (WL.seq (WL.reg ?_))
    refine OL.mv ?_; refine OL.mv ?_
    refine OL.cf fn56 hc1 ?_
    refine OL.asg ?_
    have hkm : Keep m h h1 := fun q hq => hk1 q (by omega)
    rcases idxF_cases p C with ⟨q1, q2⟩ | ⟨i, x, q1, q2, q3, q4⟩
    · rw [q1]
      refine OL.nil (WL.seq (WL.seq (WL.reg ?_)))
      refine OL.mv ?_; refine OL.bT ?_
      refine OL.nil (WL.condT rfl (WL.seq (WL.reg ?_)))
      refine OL.mv ?_; refine OL.asg ?_
      refine OL.nil (WL.ret ⟨fun id e => (by cases e), _, rfl, hkm, hn1, hf1, ?_⟩)
      have : C.filter (fun e => !p e) = C := List.filter_eq_self.2 fun e he => by simp [q2 e he]
      rw [this]
      exact hE.keep hf hk1 hn1
    · rw [q1]
      have hiC := (List.getElem?_eq_some_iff.1 q2).1
      obtain ⟨b, cap, all, rfl, hb, hg, hp, hcap⟩ : ∃ b cap all, w = .slice (some ⟨b, 0, none⟩) C.length cap ∧ m ≤ b ∧ h.get b = some (.cells all) ∧ Pts all 0 C ∧ (cap = UNK * 2 + C.length ∨ cap = C.length ∧ C = []) := by
        rcases hw with ⟨_, rfl⟩ | h1
        · simp at hiC
        · exact h1
      have hcap : cap = UNK * 2 + C.length := hcap.resolve_right fun e => by rw [e.2] at hiC; simp at hiC
      subst hcap
      have hbn := hf.lt hg
      have hfil : C.take i = (C.take (i + 1)).filter fun e => !p e := by
        rw [List.take_add_one, q2, List.filter_append]
        have h1 : (C.take i).filter (fun e => !p e) = C.take i := List.filter_eq_self.2 fun e he => by
          obtain ⟨j, hj⟩ := List.getElem?_of_mem he
          rw [List.getElem?_take] at hj
          split at hj
          · rename_i hji; simp [q4 j e hji hj]
          · cases hj
        rw [h1]
        simp [q3]
      refine OL.nil (WL.seq (WL.seq (WL.reg ?_)))
      refine OL.mv ?_; refine OL.bF ?_
      refine OL.nil (WL.condF rfl (WL.skip ?_))
      refine WL.seq (WL.seq (WL.reg ?_))
      refine OL.mv ?_
      refine OL.ad1 ?_
      refine OL.asg ?_
      refine OL.nil (WL.block ?_)
      refine WL.loop (k := C.length - (i + 1)) (fun q L h2 n2 => ∃ (j k : Nat) (D : List (Int × Int)) (all : List Value), j ≤ C.length ∧ q = C.length - j ∧ k < j ∧ Sub [(6, .int .i64 (j : Int)), (5, .int .i64 (k : Int)), (1, .func (.func g) #[] cs), (0, .slice (some ⟨b, 0, none⟩) C.length (UNK * 2 + C.length))] L ∧ Keep m h h2 ∧ n ≤ n2 ∧ Fresh h2 n2 ∧
        h2.get b = some (.cells all) ∧ Pts all 0 D ∧ D.length = C.length ∧ D.take k = ((C.take j).filter fun e => !p e) ∧ ∀ a, j ≤ a → D[a]? = C[a]?) ?_
        ⟨i + 1, i, C, all, by omega, rfl, by omega, (by repeat (first | exact Sub.nil | refine Sub.cons rfl ?_)), hkm, hn1, hf1, (hk1 b hbn).trans hg, hp, rfl, hfil, fun a _ => rfl⟩
      rintro q L h2 n2 ⟨j, k, D, all2, hj, rfl, hkj, hs2, hk2, hn2, hf2, hg2, hp2, hDl, hDk, hDj⟩
      refine WL.keep hs2 ?_
      refine WL.seq (WL.seq (WL.reg ?_))
      refine OL.mv ?_; refine OL.mv ?_
      refine OL.bi (lenA_slice ty22) ?_
      by_cases c1 : (j : Int) < (C.length : Int)
      · refine OL.bT ?_
        refine OL.nil (WL.condT rfl (WL.skip ?_))
        obtain ⟨⟨x1, x2⟩, hx⟩ : ∃ e, C[j]? = some e := ⟨_, List.getElem?_eq_getElem (by omega)⟩
        have hxD := (hDj j (Nat.le_refl j)).trans hx
        have hr2 : EdR n2 h2 (.slice (some ⟨b, 0, none⟩) D.length (UNK * 2 + C.length)) D := .of hg2 (hf2.lt hg2) hp2
        rw [hDl] at hr2
        obtain ⟨rb, ro, hrb, hr3, hr4⟩ := (hr2.rd hf2).2 j _ hxD
        have hb2 := hf2.lt hg2
        refine WL.cut (fun L5 h5 n5 => ∃ (k' : Nat) (D' : List (Int × Int)) (all5 : List Value), k' < j + 1 ∧ Sub [(6, .int .i64 (j : Int)), (5, .int .i64 (k' : Int)), (1, .func (.func g) #[] cs), (0, .slice (some ⟨b, 0, none⟩) C.length (UNK * 2 + C.length))] L5 ∧ Keep m h h5 ∧ n ≤ n5 ∧ Fresh h5 n5 ∧
          h5.get b = some (.cells all5) ∧ Pts all5 0 D' ∧ D'.length = C.length ∧ D'.take k' = ((C.take (j + 1)).filter fun e => !p e) ∧ ∀ a, j + 1 ≤ a → D'[a]? = C[a]?) (WL.block (WL.seq (WL.reg ?_))) ?_
        · refine OL.mv ?_; refine OL.mv ?_
          refine OL.ix hr3 ?_
          refine OL.ld (hr4 _ (Keep.refl _ _)) ?_
          refine OL.al ty35 ?_
          refine OL.st (store2 (T.get_upd_same _ _ _) rfl rfl) ?_
          refine OL.heap (fun H => Fresh H (n2 + 1) ∧ Keep n2 h2 H ∧ H.get n2 = some (.cells [.int .i64 x1, .int .i64 x2])) ⟨(hf2.upd _).set (by omega) _, ((Keep.refl n2 h2).upd (Nat.le_refl _) _).upd (Nat.le_refl _) _, T.get_upd_same _ _ _⟩ ?_
          rintro h3 ⟨hf3, hk3, hP3⟩
          have hkm3 : Keep m h h3 := fun q hq => (hk3 q (by omega)).trans (hk2 q hq)
          obtain ⟨v4, h4, n4, hc4, hk4, hn4, hf4, rfl⟩ := hcall (x1, x2) h3 (n2 + 1) (List.mem_of_getElem? hx) hkm3 (by omega) hf3
          have hP4 : h4.get n2 = some (.cells [.int .i64 x1, .int .i64 x2]) := (hk4 _ (by omega)).trans hP3
          have hg4 : h4.get b = some (.cells all2) := (hk4 b (by omega)).trans ((hk3 b hb2).trans hg2)
          have hkm4 : Keep m h h4 := fun q hq => (hk4 q (by omega)).trans (hkm3 q hq)
          refine OL.nil (WL.seq (WL.reg ?_))
          refine OL.mv ?_; refine OL.lp ?_
          refine OL.call (by first | rfl | exact WantL.yes rfl rfl rfl) (Go.Sx.D.callV rfl rfl rfl rfl hgf rfl) hc4 rfl rfl ?_
          have htk : (C.take (j + 1)).filter (fun e => !p e) = (C.take j).filter (fun e => !p e) ++ (if p (x1, x2) = true then [] else [(x1, x2)]) := by
            rw [List.take_add_one, hx, List.filter_append]
            congr 1
            cases hpx : p (x1, x2) <;> simp [hpx]
          cases hpx : p (x1, x2) with
          | true =>
            rw [hpx] at htk
            refine OL.un ?_
            refine OL.nil (WL.condF rfl (WL.skip ⟨rfl, k, D, all2, by omega, (by repeat (first | exact Sub.nil | refine Sub.cons rfl ?_)), hkm4, by omega, hf4, hg4, hp2, hDl, ?_, fun a ha => hDj a (by omega)⟩))
            rw [hDk, htk]; simp
          | false =>
            rw [hpx] at htk
            refine OL.un ?_
            refine OL.nil (WL.condT rfl (WL.seq (WL.reg ?_)))
            refine OL.mv ?_; refine OL.mv ?_; refine OL.lp ?_
            refine OL.ix (idx_slice ty22 ty35 (show k < C.length by omega)) ?_
            have hst := put_of (vs := [.int .i64 x1, .int .i64 x2]) (k := 0 + k * 2) hg4 rfl (by have := hp2.1; simp; omega)
            have hst2 : storeA X h4 35 (.pointer (some ⟨b, 0 + k * tPair.size, none⟩)) (.agg #[.int .i64 x1, .int .i64 x2]) = some (h4.upd (some (.cells (all2.take (0 + k * 2) ++ [.int .i64 x1, .int .i64 x2] ++ all2.drop (0 + k * 2 + [Value.int .i64 x1, .int .i64 x2].length)))) b) := by
              simp only [storeA, ty35, cellsL]
              exact hst
            refine OL.st hst2 ?_
            have hpS := hp2.set (i := k) (x := x1) (y := x2) (by omega)
            refine OL.nil (WL.reg ?_)
            refine OL.mv ?_
            refine OL.ad1 ?_
            refine OL.asg ?_
            refine OL.nil ⟨rfl, k + 1, D.set k (x1, x2), _, by omega, (by repeat (first | exact Sub.nil | refine Sub.cons rfl ?_)), fun q hq => by rw [T.get_upd_ne _ _ (by omega)]; exact hkm4 q hq, by omega, hf4.set (by omega) _, T.get_upd_same _ _ _, hpS, by rw [List.length_set]; exact hDl, ?_, fun a ha => by rw [List.getElem?_set, if_neg (by omega)]; exact hDj a (by omega)⟩
            rw [htk, ← hDk]
            apply List.ext_getElem?
            intro a
            rw [List.getElem?_take]
            have hkD : k < D.length := by omega
            have hll : (D.take k).length = k := by rw [List.length_take]; omega
            by_cases h1 : a < k
            · rw [if_pos (by omega), List.getElem?_set, if_neg (by omega), List.getElem?_append_left (by omega), List.getElem?_take, if_pos h1]
            · by_cases h2 : a = k
              · subst h2
                rw [if_pos (by omega), List.getElem?_set, if_pos rfl, if_pos hkD, List.getElem?_append_right (by omega), hll]
                simp
              · rw [if_neg (by omega), List.getElem?_append_right (by omega), hll]
                symm
                rw [List.getElem?_eq_none_iff]
                simp; omega
        · rintro L5 h5 n5 ⟨k', D', all5, hk', hs5, hk5, hn5, hf5, hg5, hp5, hDl5, hDk5, hDj5⟩
          refine WL.keep hs5 (WL.reg ?_)
          refine OL.mv ?_
          refine OL.ad1 ?_
          refine OL.asg ?_
          exact OL.nil ⟨C.length - (j + 1), by omega, j + 1, k', D', all5, by omega, rfl, hk', (by repeat (first | exact Sub.nil | refine Sub.cons rfl ?_)), hk5, hn5, hf5, hg5, hp5, hDl5, hDk5, hDj5⟩
      · refine OL.bF ?_
        refine OL.nil (WL.condF rfl (WL.exit ?_))
        have hjC : j = C.length := by omega
        rw [hjC, List.take_length] at hDk
        obtain ⟨v6, h6, all6, hcl, hg6, hq6, hp6⟩ := clear2 (n := n2) (k := k) (cap := UNK * 2 + C.length - k) hg2 hp2 hDl (by omega)
        have hb2 := hf2.lt hg2
        have hf6 : Fresh h6 n2 := fun q hq => by rw [hq6 q (by omega)]; exact hf2 q hq
        have hl6 : (D.take k).length = k := by rw [List.length_take]; omega
        have hE6 : EdR n2 h6 (.slice (some ⟨b, 0, none⟩) (D.take k).length (UNK * 2 + C.length)) (D.take k) := .of hg6 (by omega) hp6
        rw [hl6, hDk] at hE6
        refine WL.seq (WL.reg ?_)
        refine OL.mv ?_; refine OL.mv ?_
        refine OL.val (by first | rfl | exact WantL.yes rfl rfl rfl) (Go.Sx.D.cut1 rfl rfl rfl ⟨_, _, _, rfl⟩ (sl2_from (k := k) (by omega) (by omega))) rfl rfl ?_
        refine OL.biN hcl ?_
        refine OL.nil (WL.seq (WL.reg ?_))
        refine OL.mv ?_; refine OL.mv ?_
        refine OL.val (by first | rfl | exact WantL.yes rfl rfl rfl) (Go.Sx.D.cutTo rfl rfl rfl ⟨_, _, _, rfl⟩ (sl2_to (k := k) (by omega) (by omega))) rfl rfl ?_
        refine OL.asg ?_
        exact OL.nil (WL.ret ⟨fun id e => (by cases e), _, rfl, fun q hq => by rw [hq6 q (by omega)]; exact hk2 q hq, by omega, hf6, hE6⟩)
  exact key

end Go.Sx

/- SwU: Reduce. -/
namespace Go.Sx
open Go.Proofs
set_option maxRecDepth 100000
set_option maxHeartbeats 2000000

theorem ty87' : X.ty.get 87 = some { size := 1, bytes := 8, d := .pointer 95, zero := [.pointer none], zok := true } := by kernel_rfl

theorem red1_cl (M bR bE bm lo x y c : Nat) (bs : Nat → Nat) (f : Nat → Nat → Bool) (h : T Blk) (n : Nat) (hf : Fresh h n) (hR : h.get bR = some (.cells [.slice (some ⟨bm, 0, none⟩) M M])) (hE : h.get bE = some (.cells [.int .i64 (x : Int), .int .i64 (y : Int)])) (hm : MatP M M bm lo h bs f) (hc : c < M) (hy : y < M) :
    Gives 52 [.int .i64 (c : Int), .pointer (some ⟨bR, 0, none⟩), .pointer (some ⟨bE, 0, none⟩)] h n fun v _ _ => v = .bool (f c y) := by
  have h1 := hf.lt hR
  have h2 := hf.lt hE
  have h3 := hf.lt hm.top
  have h4 := hf.lt (hm.row c hc)
  have key : ∃ v h' n', Cl X 52 [.int .i64 (c : Int), .pointer (some ⟨bR, 0, none⟩), .pointer (some ⟨bE, 0, none⟩)] h n (.ret v h' n') ∧ Keep n h h' ∧ n ≤ n' ∧ Fresh h' n' ∧ v = .bool (f c y) := by
    refine Cl.wl (memoX (by decide)) fn52 rfl rfl rfl rfl ?_
    refine WL.seq (WL.reg ?_)
    refine OL.asg ?_
    refine OL.nil (WL.seq (WL.regD (by kernel_rfl) (by kernel_rfl) ?_))
    refine OD.ld (load1 ty43 rfl (cells_of hR) rfl) ?_
    refine OD.mv ?_
    refine OD.ix (ix43 hc) ?_
    refine OD.ld (hm.l1 hc) ?_
    refine OD.ix idx_pair1 ?_; refine OD.l3 ?_
    refine OD.ix (ix38 hy) ?_
    refine OD.ld (hm.l2 hc hy) ?_
    refine OD.asg ?_
    exact OD.nil (WL.ret ⟨fun id e => (by cases e), _, rfl, .refl _ _, Nat.le_refl _, hf, rfl⟩)
  exact key

theorem red_cl (M bG bR bm lo glo x y : Nat) (s p : Value) (l : List (Int × Int)) (bs : Nat → Nat) (f : Nat → Nat → Bool) (h : T Blk) (n : Nat) (hf : Fresh h n) (hG : h.get bG = some (.cells [p])) (hgr : Graph glo h p M s (succ l)) (hR : h.get bR = some (.cells [.slice (some ⟨bm, 0, none⟩) M M])) (hm : MatP M M bm lo h bs f)
    (hff : ∀ a b, a < M → f a b = rchB l a b) (hx : x < M) (hy : y < M) (hlen : l.length ≤ 400) (hg : GoodG (M : Int) l) :
    Gives 50 [.agg #[.int .i64 (x : Int), .int .i64 (y : Int)], .pointer (some ⟨bG, 0, none⟩), .pointer (some ⟨bR, 0, none⟩)] h n fun v _ _ => v = .bool (arndB l ((x : Int), (y : Int))) := by
  obtain ⟨g, N, ncs, rfl, hg1, hg2, hgN, _, _, hgG, hgNc, hncs, hrows⟩ := hgr.ex
  have h1 := hf.lt hG
  have h2 := hf.lt hR
  have h3 := hf.lt hgG
  have h4 := hf.lt hgNc
  have key : ∃ v h' n', Cl X 50 [.agg #[.int .i64 (x : Int), .int .i64 (y : Int)], .pointer (some ⟨bG, 0, none⟩), .pointer (some ⟨bR, 0, none⟩)] h n (.ret v h' n') ∧ Keep n h h' ∧ n ≤ n' ∧ Fresh h' n' ∧ v = .bool (arndB l ((x : Int), (y : Int))) := by
    obtain ⟨v, hv⟩ : ∃ v, ncs[x]? = some v := ⟨_, List.getElem?_eq_getElem (by omega)⟩
    have hrow : RowAt n h v (succ l x) := hrows.row hf hv
    refine Cl.wl (memoX (by decide)) fn50 rfl rfl rfl rfl ?_
    refine WL.seq (WL.reg ?_)
    refine OL.bx ?_; refine OL.asg ?_
    refine OL.heap (fun H => Fresh H (n + 1) ∧ Keep n h H ∧ H.get n = some (.cells [.int .i64 (x : Int), .int .i64 (y : Int)])) ⟨hf.upd _, (Keep.refl n h).upd (Nat.le_refl _) _, T.get_upd_same _ _ _⟩ ?_
    rintro hA ⟨hfA, hkA, hAn⟩
    have hGA := (hkA bG h1).trans hG
    have hRA := (hkA bR h2).trans hR
    have hmA := hm.keep hf hkA
    have hfn : Fn1 (n + 1) hA (.func (.func 52) ⟨[]⟩ ⟨[.pointer (some ⟨bR, 0, none⟩), .pointer (some ⟨n, 0, none⟩)]⟩) (Value.int .i64) (fun c => rchB l c.toNat y) (fun c => c ∈ succ l x) := by
      refine ⟨52, _, _, rfl, fn52, fun c h' n' hc hkx hnx hfx => ?_⟩
      obtain ⟨g1, g2, g3, g4, g5⟩ := hg.ok _ (succ_mem hc)
      simp only at g1 g2 g3 g4 g5
      obtain ⟨c, rfl⟩ : ∃ c' : Nat, c = (c' : Int) := ⟨c.toNat, by omega⟩
      have := red1_cl M bR n bm lo x y c bs f h' n' hfx ((hkx _ (by omega)).trans hRA) ((hkx _ (by omega)).trans hAn) (hmA.keep hfA hkx) (by omega) hy
      rw [hff c y (by omega)] at this
      simpa using this
    obtain ⟨v5, h5, n5, hc5, hk5, hn5, hf5, rfl⟩ := contFI_cl (succ l x) _ v _ hA (n + 1) hfA (hrow.rd.mono hkA (by omega)) hfn (by have := succ_len l x; omega)
    have hany : ((succ l x).any fun c => rchB l c.toNat y) = arndB l ((x : Int), (y : Int)) := by
      rw [Bool.eq_iff_iff, List.any_eq_true, arndB_iff]
      constructor
      · rintro ⟨c, hc, hcy⟩
        obtain ⟨g1, g2, g3, g4, g5⟩ := hg.ok _ (succ_mem hc)
        simp only at g1 g2 g3 g4 g5
        refine ⟨c.toNat, ?_, (rchB_iff _ _ _).1 hcy⟩
        show ((x : Int), ((c.toNat : Nat) : Int)) ∈ l
        rw [show ((c.toNat : Nat) : Int) = c by omega]
        exact succ_mem hc
      · rintro ⟨c, hc, hcy⟩
        exact ⟨(c : Int), mem_succ.2 hc, by simpa using (rchB_iff _ _ _).2 hcy⟩
    rw [hany] at hc5
    have hbv : BelV (n + 1) v := hrow.bel (by omega)
    refine OL.nil (WL.seq (WL.regD (by kernel_rfl) (by kernel_rfl) ?_))
    refine OD.ld (load1 ty87' rfl (cells_of hGA) rfl) ?_
    refine OD.nc ?_; refine OD.fd f95_1 ?_
    refine OD.ld (load1 ty93 rfl (cells_of ((hkA g h3).trans hgG)) rfl) ?_
    refine OD.ix idx_pair0 ?_; refine OD.l3 ?_
    refine OD.ix (idx1 ty93 ty25 rfl hx) ?_
    refine OD.ld (load1 ty25 rfl (cells_of ((hkA N h4).trans hgNc)) hv) ?_
    refine OD.val (by first | rfl | exact WantL.yes rfl rfl rfl) (by repeat' (first | exact trivial | assumption | exact BelV.ptr (by omega) | exact BelV.sl (by omega) | exact BelV.fn1 (by omega) | exact BelV.fn2 (by omega) (by omega) | exact hbs _ (by omega) | exact rfl | refine And.intro (Exists.intro _ (And.intro rfl ?_)) ?_)) (D.makeFunc rfl rfl rfl) rfl rfl ?_
    refine OD.cf fn51 hc5 ?_
    refine OD.asg ?_
    exact OD.nil (WL.ret ⟨fun id e => (by cases e), _, rfl, hkA.trans (by omega) hk5, by omega, hf5, rfl⟩)
  exact key

def RedV (M : Nat) (l : List (Int × Int)) (h' : T Blk) (n' : Nat) (v : Value) : Prop :=
  ∃ w, (v = .tuple #[w, .int .i64 0] ∧ EdR n' h' w (redL l) ∧ ∃ rk, Ranked l rk) ∨ (v = .tuple #[w, .int .i64 151] ∧ w = .slice none 0 0 ∧ Stuck M l)

theorem reduce_cl (M : Nat) (s : Value) (l : List (Int × Int)) (h : T Blk) (n : Nat) (hf : Fresh h n) (hE : EdR n h s l) (hM : M ≤ 60) (hlen : l.length ≤ 400) (hg : GoodG (M : Int) l) :
    Gives 22 [.int .i64 (M : Int), s] h n fun v h' n' => RedV M l h' n' v := by
  have hbs : ∀ k, n ≤ k → BelV k s := fun k hk => hE.belW hk
  have he := hE.ed
  have key : ∃ v h' n', Cl X 22 [.int .i64 (M : Int), s] h n (.ret v h' n') ∧ Keep n h h' ∧ n ≤ n' ∧ Fresh h' n' ∧ RedV M l h' n' v := by
    obtain ⟨v1, h1, n1, hc1, hk1, hn1', hf1, p, rfl, hgr⟩ := graphOf_cl M s l h n hf he hbs hlen (by omega) hg
    have hgr0 := hgr
    obtain ⟨g, N, ncs, rfl, hg1, hg2, hgN, _, _, hgG, hgNc, hncs, hrows⟩ := hgr.ex
    have he1 := he.keep hf hk1
    have hgn := hf1.lt hgG
    refine Cl.wl (memoX (by decide)) fn22 rfl rfl rfl rfl ?_
    refine WL.seq (WL.reg ?_)
    refine OL.asg ?_; refine OL.asg ?_
    refine OL.nil (WL.seq (WL.reg ?_))
    refine OL.mv ?_; refine OL.mv ?_
    refine OL.cf fn40 hc1 ?_
    refine OL.mv ?_; refine OL.ext ?_; refine OL.ext ?_
    refine OL.al ty87' ?_
    refine OL.st (store1 ty87' rfl (T.get_upd_same _ _ _) rfl (o := 0) (by decide)) ?_
    refine OL.asg ?_
    refine OL.heap (fun H => Fresh H (n1 + 1) ∧ Keep n1 h1 H ∧ H.get n1 = some (.cells [.pointer (some ⟨g, 0, none⟩)])) ⟨(hf1.upd _).set (by omega) _, ((Keep.refl n1 h1).upd (Nat.le_refl _) _).upd (Nat.le_refl _) _, T.get_upd_same _ _ _⟩ ?_
    rintro hA ⟨hfA, hkA, hA6⟩
    have hgrA := hgr0.keep hf1 hkA
    have heA := he1.keep hf1 hkA
    obtain ⟨v2, h2, n2, hc2, hk2, hn2, hf2, w2, ok, rfl, hok1, hok2⟩ := sorted_cl M s l hA (n1 + 1) n _ hfA hgrA heA (by omega) hlen hg
    have hk2' : Keep n h h2 := fun q hq => by rw [hk2 q (by omega), hkA q (by omega)]; exact hk1 q hq
    refine OL.nil (WL.seq (WL.seq (WL.reg ?_)))
    refine OL.mv ?_; refine OL.nF ?_
    refine OL.nil (WL.condF rfl (WL.skip ?_))
    refine WL.seq (WL.seq (WL.reg ?_))
    refine OL.ld (load1 ty87' rfl (cells_of hA6) rfl) ?_
    refine OL.cf fn41 hc2 ?_
    refine OL.mv ?_; refine OL.ext ?_; refine OL.ext ?_; refine OL.asg ?_; refine OL.asg ?_
    refine OL.nil (WL.seq (WL.reg ?_))
    cases ok with
    | false =>
      refine OL.mv ?_; refine OL.un ?_
      refine OL.nil (WL.condT rfl (WL.seq (WL.reg ?_)))
      refine OL.asg ?_; refine OL.asg ?_
      exact OL.nil (WL.ret ⟨fun id e => (by cases e), _, rfl, hk2', by omega, hf2, _, .inr ⟨rfl, rfl, hok2 rfl⟩⟩)
    | true =>
    obtain ⟨out, _, ho2, ho3⟩ := hok1 rfl
    have hrk := topo_ranked hg ho2 ho3
    have hA6' : h2.get n1 = some (.cells [.pointer (some ⟨g, 0, none⟩)]) := (hk2 _ (by omega)).trans hA6
    have hgr2 := hgrA.keep hfA hk2
    have hgG2 : h2.get g = some (.cells [.int .i64 (M : Int), .slice (some ⟨N, 0, none⟩) M M, s]) := (hk2 g (by omega)).trans ((hkA g hgn).trans hgG)
    refine OL.mv ?_; refine OL.un ?_
    refine OL.nil (WL.condF rfl (WL.skip ?_))
    refine WL.seq (WL.reg ?_)
    refine OL.ld (load1 ty87' rfl (cells_of hA6') rfl) ?_
    refine OL.nc ?_; refine OL.fd f95_0 ?_; refine OL.l3 ?_
    refine OL.ms (mkS (M := M) ty43 ty38 rfl rfl rfl rfl (by omega)) ?_
    refine OL.al ty43 ?_
    refine OL.st (store1 ty43 rfl (T.get_upd_same _ _ _) rfl (o := 0) (by decide)) ?_
    refine OL.heap (fun H => Fresh H (n2 + 2) ∧ Keep n2 h2 H ∧ H.get (n2 + 1) = some (.cells [.slice (some ⟨n2, 0, none⟩) M M]) ∧ MatP M 0 n2 (n2 + 2) H (fun _ => 0) (fun _ _ => false)) ⟨((hf2.upd _).upd _).set (by omega) _, (((Keep.refl n2 h2).upd (Nat.le_refl _) _).upd (by omega) _).upd (by omega) _, T.get_upd_same _ _ _, ⟨by rw [T.get_upd_ne _ _ (by omega), T.get_upd_ne _ _ (by omega), T.get_upd_same, topL_zero], fun a ha => by omega, fun a ha => by omega, fun a b ha => by omega⟩⟩ ?_
    rintro hB ⟨hfB, hkB, hB10, hmB⟩
    refine OL.nil (WL.seq (WL.seq (WL.reg ?_)))
    refine OL.ld (load1 ty43 rfl (cells_of hB10) rfl) ?_
    refine OL.bi (lenA_slice ty43) ?_
    refine OL.mv ?_
    refine OL.nil (WL.block ?_)
    refine WL.loop (k := M) (fun k L h4 n4 => ∃ (i : Nat) (bs : Nat → Nat) (f : Nat → Nat → Bool), i ≤ M ∧ k = M - i ∧ Sub [(36, .int .i64 (i : Int)), (35, .int .i64 (M : Int)), (10, .pointer (some ⟨n2 + 1, 0, none⟩)), (6, .pointer (some ⟨n1, 0, none⟩)), (1, s)] L ∧ Fresh h4 n4 ∧ Keep n2 h2 h4 ∧ n2 + 2 ≤ n4 ∧ h4.get (n2 + 1) = some (.cells [.slice (some ⟨n2, 0, none⟩) M M]) ∧ MatP M i n2 (n2 + 2) h4 bs f ∧ ∀ a b, a < i → f a b = rchB l a b) ?_
      ⟨0, _, _, Nat.zero_le _, rfl, (by repeat (first | exact Sub.nil | refine Sub.cons rfl ?_)), hfB, hkB, Nat.le_refl _, hB10, hmB, fun a b ha => by omega⟩
    rintro k L h4 n4 ⟨i, bs, f, hi, rfl, hs4, hf4, hk4, hn4, hB4, hm4, hff⟩
    have hA64 : h4.get n1 = some (.cells [.pointer (some ⟨g, 0, none⟩)]) := (hk4 _ (by omega)).trans hA6'
    refine WL.keep hs4 ?_
    refine WL.seq (WL.reg ?_)
    by_cases c1 : (i : Int) < (M : Int)
    · refine OL.bT ?_
      refine OL.nil (WL.seq (WL.condT rfl (WL.skip ?_)))
      have hiM : i < M := by omega
      obtain ⟨v5, h5, n5, hc5, hk5, hn5, hf5, bo, rfl, hbo, hBo⟩ := reach_cl M s l h4 n4 n i _ hf4 (hgr2.keep hf2 hk4) hiM hM hlen hg
      have hm5 := hm4.keep hf4 hk5
      have hbo5 := hf5.lt hBo
      refine WL.seq (WL.block (WL.seq (WL.reg ?_)))
      refine OL.mv ?_; refine OL.asg ?_
      refine OL.nil (WL.regG [(0, 4)] (by kernel_rfl) (by kernel_rfl) ?_)
      refine OG.ld (load1 ty43 rfl (cells_of hB4) rfl) ?_
      refine OG.mv ?_
      refine OG.ld (load1 ty87' rfl (cells_of hA64) rfl) ?_
      refine OG.mv ?_
      refine OG.cf fn48 hc5 ?_
      refine OG.ix (ix43 hiM) ?_
      refine OG.st (store1 ty38 rfl hm5.top rfl (by rw [topL_len]; exact hiM)) ?_
      refine OG.nil ⟨FlOK.cons rfl rfl (load1 ty43 rfl (cells_of ((hk5 _ (by omega)).trans hB4)) rfl) (sameSl _ _ _ _) FlOK.nil, ?_⟩
      refine WL.reg ?_
      refine OL.ad1 ?_
      refine OL.mv ?_
      refine OL.nil ⟨M - (i + 1), by omega, i + 1, upF bs i bo, upF f i (rchB l i), by omega, rfl, (by repeat (first | exact Sub.nil | refine Sub.cons rfl ?_)), hf5.set (by omega) _, (hk4.trans (by omega) hk5).upd (Nat.le_refl _) _, by omega, (T.get_upd_ne _ _ (by omega)).trans ((hk5 _ (by omega)).trans hB4), hm5.add hiM hBo (by omega) (by omega) (fun a ha e => ?_), fun a b ha => ?_⟩
      · have := hf4.lt (hm4.row a ha)
        omega
      · by_cases e : a = i
        · rw [e, upF_same]
        · rw [upF_ne e]; exact hff a b (by omega)
    · refine OL.bF ?_
      refine OL.nil (WL.seq (WL.condF rfl (WL.exit ?_)))
      have hiM : i = M := by omega
      subst hiM
      have hk04 : Keep n h h4 := fun q hq => by rw [hk4 q (by omega)]; exact hk2' q hq
      obtain ⟨v6, h6, n6, hc6, hk6, hn6, hf6, hO6⟩ := cloneE_cl l s h4 n4 hf4 (hE.keep hf hk04 (by omega)) (by omega)
      have hfn : Fn1 n4 h6 (.func (.func 50) ⟨[]⟩ ⟨[.pointer (some ⟨n1, 0, none⟩), .pointer (some ⟨n2 + 1, 0, none⟩)]⟩) (fun e : Int × Int => Value.agg #[.int .i64 e.1, .int .i64 e.2]) (arndB l) (fun e => e ∈ l) := by
        refine ⟨50, _, _, rfl, fn50, fun e h' n' hel hkx hnx hfx => ?_⟩
        obtain ⟨g1, g2, g3, g4, g5⟩ := hg.ok e hel
        obtain ⟨e1, e2⟩ := e
        simp only at g1 g2 g3 g4 g5
        obtain ⟨a, rfl⟩ : ∃ a : Nat, e1 = (a : Int) := ⟨e1.toNat, by omega⟩
        obtain ⟨b, rfl⟩ : ∃ b : Nat, e2 = (b : Int) := ⟨e2.toNat, by omega⟩
        have hkk : Keep n4 h4 h' := hk6.trans (Nat.le_refl _) hkx
        exact red_cl i n1 (n2 + 1) n2 (n2 + 2) n a b s _ l bs f h' n' hfx ((hkk _ (by omega)).trans hA64) ((hgr2.keep hf2 hk4).keep hf4 hkk) ((hkk _ (by omega)).trans hB4) (hm4.keep hf4 hkk) hff (by omega) (by omega) hlen hg
      obtain ⟨v7, h7, n7, hc7, hk7, hn7, hf7, hE7⟩ := deleteF_cl l (arndB l) v6 _ h6 n6 n4 hf6 hO6 hfn (by omega) (by omega)
      refine WL.seq (WL.reg ?_)
      refine OL.val (by first | rfl | exact WantL.yes rfl rfl rfl) (D.makeFunc rfl rfl rfl) rfl rfl ?_
      refine OL.asg ?_
      refine OL.nil (WL.seq (WL.reg ?_))
      refine OL.mv ?_
      refine OL.cf fn31 hc6 ?_
      refine OL.mv ?_
      refine OL.cf fn53 hc7 ?_
      refine OL.asg ?_; refine OL.asg ?_
      exact OL.nil (WL.ret ⟨fun id e => (by cases e), _, rfl, fun q hq => by rw [hk7 q (by omega), hk6 q (by omega)]; exact hk04 q hq, by omega, hf7, v7, .inl ⟨rfl, hE7, _, hrk⟩⟩)
  exact key

end Go.Sx

/- SwV: slices.Equal, slices.Delete of pairs. -/
namespace Go.Sx
open Go.Proofs
set_option maxRecDepth 100000
set_option maxHeartbeats 2000000

theorem fn24 : X.fn.get 24 = some Tryz.f24 := by kernel_rfl
theorem fn30 : X.fn.get 30 = some Tryz.f30 := by kernel_rfl

theorem ne35 {c : Bool} {a b : Int × Int} (ha : I64E a) (hb : I64E b) : binA X .neq 35 c (.agg #[.int .i64 a.1, .int .i64 a.2]) (.agg #[.int .i64 b.1, .int .i64 b.2]) = some (.bool (!decide (a = b))) := by
  have h := eq35 (c := c) ha hb
  simp only [binA] at h ⊢
  split at h
  · rename_i q
    simp only [Option.some.injEq, Value.bool.injEq] at h
    rw [h]
  · cases h

theorem equalE_cl (C D : List (Int × Int)) (v w : Value) (h : T Blk) (n : Nat) (hf : Fresh h n) (hv : RdE n h v C) (hw : RdE n h w D) (hC : ∀ e ∈ C, I64E e) (hD : ∀ e ∈ D, I64E e) (hlen : C.length ≤ 100000) :
    Gives 24 [v, w] h n fun r _ _ => r = .bool (decide (C = D)) := by
  have key : ∃ r h' n', Cl X 24 [v, w] h n (.ret r h' n') ∧ Keep n h h' ∧ n ≤ n' ∧ Fresh h' n' ∧ r = .bool (decide (C = D)) := by
    refine Cl.wl (memoX (by decide)) fn24 rfl rfl rfl rfl ?_
    refine WL.seq (WL.reg ?_)
    refine OL.asg ?_
    refine OL.nil (WL.seq (WL.seq (WL.reg ?_)))
    refine OL.mv ?_
    refine OL.bi hv.ln ?_
    refine OL.mv ?_
    refine OL.bi hw.ln ?_
    by_cases h0 : (C.length : Int) = (D.length : Int)
    · refine OL.nF ?_
      refine OL.nil (WL.condF rfl (WL.skip ?_))
      refine WL.seq (WL.seq (WL.reg ?_))
      refine OL.mv ?_
      refine OL.bi hv.ln ?_
      refine OL.mv ?_
      refine OL.nil (WL.block ?_)
      refine WL.loop (k := C.length) (fun k L h' n' => ∃ i : Nat, i ≤ C.length ∧ k = C.length - i ∧ Sub [(13, .int .i64 (i : Int)), (12, .int .i64 (C.length : Int)), (1, w), (0, v)] L ∧ h = h' ∧ n = n' ∧ ∀ j, j < i → C[j]? = D[j]?) ?_
        ⟨0, Nat.zero_le _, rfl, (by repeat (first | exact Sub.nil | refine Sub.cons rfl ?_)), rfl, rfl, fun j hj => by omega⟩
      rintro k L h' n' ⟨i, hi, rfl, hs, rfl, rfl, hsame⟩
      refine WL.keep hs ?_
      refine WL.seq (WL.reg ?_)
      by_cases c1 : (i : Int) < (C.length : Int)
      · refine OL.bT ?_
        refine OL.nil (WL.seq (WL.condT rfl (WL.skip ?_)))
        obtain ⟨x, hx⟩ : ∃ x, C[i]? = some x := ⟨_, List.getElem?_eq_getElem (by omega)⟩
        obtain ⟨y, hy⟩ : ∃ y, D[i]? = some y := ⟨_, List.getElem?_eq_getElem (by omega)⟩
        obtain ⟨b1, o1, hb1, hx1, hx2⟩ := hv.2 i x hx
        obtain ⟨b2, o2, hb2, hy1, hy2⟩ := hw.2 i y hy
        have hbv := hv.bel hx (Nat.le_refl n)
        have hbw := hw.bel hy (Nat.le_refl n)
        refine WL.seq (WL.block (WL.seq (WL.reg ?_)))
        refine OL.mv ?_; refine OL.asg ?_
        refine OL.nil (WL.seq (WL.regD (by kernel_rfl) (by kernel_rfl) ?_))
        refine OD.mv ?_; refine OD.mv ?_
        refine OD.ix hx1 ?_
        refine OD.ld (hx2 _ (Keep.refl _ _)) ?_
        refine OD.mv ?_; refine OD.mv ?_
        refine OD.ix hy1 ?_
        refine OD.ld (hy2 _ (Keep.refl _ _)) ?_
        refine OD.bv (ne35 (hC x (List.mem_of_getElem? hx)) (hD y (List.mem_of_getElem? hy))) ?_
        by_cases hxy : x = y
        · rw [decide_eq_true hxy]
          refine OD.nil (WL.condF rfl (WL.skip (WL.reg ?_)))
          refine OL.ad1 ?_
          refine OL.mv ?_
          refine OL.nil ⟨C.length - (i + 1), by omega, i + 1, by omega, rfl, (by repeat (first | exact Sub.nil | refine Sub.cons rfl ?_)), rfl, rfl, fun j hj => ?_⟩
          rcases Nat.lt_or_ge j i with h4 | h4
          · exact hsame j h4
          · rw [show j = i by omega, hx, hy, hxy]
        · rw [decide_eq_false hxy]
          refine OD.nil (WL.condT rfl (WL.seq (WL.reg ?_)))
          refine OL.asg ?_
          refine OL.nil (WL.ret ⟨fun id e => (by cases e), _, rfl, .refl _ _, Nat.le_refl _, hf, ?_⟩)
          rw [decide_eq_false (fun e => hxy (by rw [e, hy] at hx; exact (Option.some.inj hx).symm))]
          rfl
      · refine OL.bF ?_
        refine OL.nil (WL.seq (WL.condF rfl (WL.exit ?_)))
        refine WL.seq (WL.reg ?_)
        refine OL.asg ?_
        refine OL.nil (WL.ret ⟨fun id e => (by cases e), _, rfl, .refl _ _, Nat.le_refl _, hf, ?_⟩)
        have : C = D := by
          apply List.ext_getElem?
          intro j
          rcases Nat.lt_or_ge j i with h4 | h4
          · exact hsame j h4
          · rw [List.getElem?_eq_none_iff.2 (by omega), List.getElem?_eq_none_iff.2 (by omega)]
        rw [decide_eq_true this]
        rfl
    · refine OL.nT ?_
      refine OL.nil (WL.condT rfl (WL.seq (WL.reg ?_)))
      refine OL.asg ?_
      refine OL.nil (WL.ret ⟨fun id e => (by cases e), _, rfl, .refl _ _, Nat.le_refl _, hf, ?_⟩)
      rw [decide_eq_false (fun e => h0 (by rw [e]))]
      rfl
  exact key

theorem D.slice3 {E : Env} {L : LT} {h : T Blk} {n : Nat} {o : Oper} {ty : TypeId} {x lo hi mx : Operand} {v a b c w : Value} (ho : o.op = .slice ty x (some lo) (some hi) (some mx)) (hx : evL E L x = some v) (ha : evL E L lo = some a) (hb : evL E L hi = some b) (hc : evL E L mx = some c) (hs : ∃ a len cap, v = .slice a len cap) (hv : sliceA E ty v (some a) (some b) (some c) = some w) : Does E L h n o (.val w h n) := fun t ht => by
  obtain ⟨a, len, cap, rfl⟩ := hs
  simp only [opA, ho, evL_ok ht hx, evOpt, evL_ok ht ha, evL_ok ht hb, evL_ok ht hc, hv, val?]
theorem D.slice2 {E : Env} {L : LT} {h : T Blk} {n : Nat} {o : Oper} {ty : TypeId} {x lo hi : Operand} {v a b w : Value} (ho : o.op = .slice ty x (some lo) (some hi) none) (hx : evL E L x = some v) (ha : evL E L lo = some a) (hb : evL E L hi = some b) (hs : ∃ a len cap, v = .slice a len cap) (hv : sliceA E ty v (some a) (some b) none = some w) : Does E L h n o (.val w h n) := fun t ht => by
  obtain ⟨a, len, cap, rfl⟩ := hs
  simp only [opA, ho, evL_ok ht hx, evOpt, evL_ok ht ha, evL_ok ht hb, hv, val?]

theorem natV_of {k hi : Nat} (h : k ≤ hi) : natV (.int .i64 (k : Int)) hi = some k := by
  show natV (.int .i64 (Int.ofNat k)) hi = some k
  simp only [natV, bif_eq_ite, bleT]
  rw [if_pos h]

theorem Pts.over {all : List Value} {C E : List (Int × Int)} {i : Nat} (p : Pts all 0 C) (hi : i + E.length ≤ C.length) : Pts (all.take (i * 2) ++ eCs E ++ all.drop (i * 2 + (eCs E).length)) 0 (C.take i ++ E ++ C.drop (i + E.length)) := by
  have hl := eCs_len E
  have hk : i * 2 + (eCs E).length ≤ all.length := by have := p.1; rw [hl]; omega
  refine ⟨by rw [over_len hk, over_len hi]; exact p.1, fun a e ha => ?_⟩
  rw [over_get hi] at ha
  rw [over_get hk, over_get hk, hl]
  split at ha
  · rw [if_pos (by omega), if_pos (by omega)]; exact p.2 a e ha
  · split at ha
    · rw [if_neg (by omega), if_pos (by omega), if_neg (by omega), if_pos (by omega)]
      have := eCs_at ha
      rw [show 0 + a * 2 - i * 2 = (a - i) * 2 by omega, show 0 + a * 2 + 1 - i * 2 = (a - i) * 2 + 1 by omega]
      exact this
    · rw [if_neg (by omega), if_neg (by omega), if_neg (by omega), if_neg (by omega)]; exact p.2 a e ha

theorem eCs_cell : ∀ D : List (Int × Int), allCells (eCs D) = true
  | [] => rfl
  | e :: D => by simp only [eCs, allCells, isCell, cond_true, eCs_cell D]

theorem Pts.drop {all : List Value} {C : List (Int × Int)} {k : Nat} (p : Pts all 0 C) (hk : k ≤ C.length) : Pts all (k * 2) (C.drop k) := by
  refine ⟨by have := p.1; rw [List.length_drop]; omega, fun a e ha => ?_⟩
  rw [List.getElem?_drop] at ha
  have := p.2 (k + a) e ha
  rw [show 0 + (k + a) * 2 = k * 2 + a * 2 by omega] at this
  exact this

/- Appended in place. -/
theorem append_here {h : T Blk} {n b i len : Nat} {all : List Value} {C : List (Int × Int)} (hb : h.get b = some (.cells all)) (p : Pts all 0 C) (hl : C.length = len) (hi : i < len) (hle : len ≤ 100000) :
    ∃ h' all', builtinA X .append [22, 22] [.slice (some ⟨b, 0, none⟩) i (UNK * 2 + len), .slice (some ⟨b, (i + 1) * 2, none⟩) (len - (i + 1)) (UNK * 2 + len - (i + 1))] h n = .val (.slice (some ⟨b, 0, none⟩) (len - 1) (UNK * 2 + len)) h' n ∧ h'.get b = some (.cells all') ∧ (∀ q, q ≠ b → h'.get q = h.get q) ∧
      ∃ D', Pts all' 0 D' ∧ D'.length = len ∧ D'.take (len - 1) = C.eraseIdx i := by
  have hu : len < UNK := by unfold UNK; omega
  have q1 : lowCap (UNK * 2 + len) = len := lowCap_u hu
  have hrow : rowA h 2 (len - (i + 1)) (.slice (some ⟨b, (i + 1) * 2, none⟩) (len - (i + 1)) (UNK * 2 + len - (i + 1))) = some (eCs (C.drop (i + 1))) := by
    have := (p.drop (k := i + 1) (by omega)).seg
    rw [List.length_drop, hl] at this
    simp only [rowA, cells_of hb]
    exact this
  have e2 : newCells X h tPair (some 22) (.slice (some ⟨b, (i + 1) * 2, none⟩) (len - (i + 1)) (UNK * 2 + len - (i + 1))) = some (len - (i + 1), eCs (C.drop (i + 1))) := by
    simp only [newCells, ty22, tSl, show tPair.size = 2 from rfl, hrow]
    rw [show Nat.ble (len - (i + 1)) 100000 = true by rw [bleT]; omega]
    rfl
  have c1 : (Nat.ble tPair.bytes 4096 && Nat.blt 0 tPair.size && Nat.blt 0 tPair.bytes && tPair.zok && Nat.beq tPair.zero.length tPair.size && Nat.ble i 100000 && Nat.ble i (lowCap (UNK * 2 + len))) = true := by
    have a1 : Nat.ble i 100000 = true := by rw [bleT]; omega
    have a2 : Nat.ble i len = true := by rw [bleT]; omega
    rw [q1, a1, a2]; rfl
  by_cases h0 : len - (i + 1) = 0
  · refine ⟨h, all, ?_, hb, fun q _ => rfl, C, p, hl, ?_⟩
    · refine appendB ?_
      simp only [appendA, ty22, tSl, ty35, c1, cond_true, e2]
      rw [h0]
      simp only [Nat.beq_refl, cond_true]
      rw [show len - 1 = i by omega]
    · rw [show len - 1 = i by omega, List.eraseIdx_eq_take_drop_succ, List.drop_eq_nil_iff.2 (by omega), List.append_nil]
  · have hne : Nat.beq (len - (i + 1)) 0 = false := by
      cases hq : Nat.beq (len - (i + 1)) 0 with
      | false => rfl
      | true => rw [beqT] at hq; omega
    have hfit : Nat.ble (i + (len - (i + 1))) len = true := by rw [bleT]; omega
    have hel : (eCs (C.drop (i + 1))).length = (len - (i + 1)) * 2 := by rw [eCs_len, List.length_drop, hl]
    have hle2 : i * 2 + (eCs (C.drop (i + 1))).length ≤ all.length := by have := p.1; rw [hel]; omega
    have hput := put_of (k := i * 2) hb (eCs_cell (C.drop (i + 1))) hle2
    have hov := p.over (E := C.drop (i + 1)) (i := i) (by rw [List.length_drop]; omega)
    refine ⟨_, _, ?_, T.get_upd_same _ _ _, fun q hq => T.get_upd_ne _ _ hq, _, hov, ?_, ?_⟩
    · refine appendB ?_
      have c1b : (Nat.ble tPair.bytes 4096 && Nat.blt 0 2 && Nat.blt 0 tPair.bytes && tPair.zok && Nat.beq tPair.zero.length 2 && Nat.ble i 100000 && Nat.ble i len) = true := by
        have a1 : Nat.ble i 100000 = true := by rw [bleT]; omega
        have a2 : Nat.ble i len = true := by rw [bleT]; omega
        rw [a1, a2]; rfl
      simp only [appendA, ty22, tSl, ty35, cond_true, e2, hne, cond_false, q1, hfit, show tPair.size = 2 from rfl, Nat.zero_add, hput, c1b]
      rw [show i + (len - (i + 1)) = len - 1 by omega]
    · rw [over_len (by rw [List.length_drop]; omega)]; exact hl
    · rw [List.eraseIdx_eq_take_drop_succ, List.take_append_of_le_length (by simp; omega), List.take_of_length_le (by simp; omega)]

theorem deleteE_cl (C : List (Int × Int)) (i : Nat) (w : Value) (h : T Blk) (n m : Nat) (hf : Fresh h n) (hw : Own2 m h w C) (hi : i < C.length) (hlen : C.length ≤ 100000) :
    GivesM m 30 [w, .int .i64 (i : Int), .int .i64 ((i + 1 : Nat) : Int)] h n fun v h' n' => EdR n' h' v (C.eraseIdx i) := by
  have key : ∃ v h' n', Cl X 30 [w, .int .i64 (i : Int), .int .i64 ((i + 1 : Nat) : Int)] h n (.ret v h' n') ∧ Keep m h h' ∧ n ≤ n' ∧ Fresh h' n' ∧ EdR n' h' v (C.eraseIdx i) := by
    obtain ⟨b, cap, all, rfl, hb, hg, hp, hcap⟩ : ∃ b cap all, w = .slice (some ⟨b, 0, none⟩) C.length cap ∧ m ≤ b ∧ h.get b = some (.cells all) ∧ Pts all 0 C ∧ (cap = UNK * 2 + C.length ∨ cap = C.length ∧ C = []) := by
      rcases hw with ⟨_, rfl⟩ | h1
      · simp at hi
      · exact h1
    have hcap : cap = UNK * 2 + C.length := hcap.resolve_right fun e => by rw [e.2] at hi; simp at hi
    subst hcap
    have hbn := hf.lt hg
    have hu : C.length < UNK := by unfold UNK; omega
    have q1 : lowCap (UNK * 2 + C.length) = C.length := lowCap_u hu
    have q2 : (UNK * 2 + C.length) / UNK = 2 := divCap_u hu
    have q3 : unkCap (UNK * 2 + C.length) = true := by unfold unkCap; rw [bleT]; omega
    have s3 : sliceA X 22 (.slice (some ⟨b, 0, none⟩) C.length (UNK * 2 + C.length)) (some (.int .i64 (i : Int))) (some (.int .i64 ((i + 1 : Nat) : Int))) (some (.int .i64 (C.length : Int))) = some (.slice (some ⟨b, 0 + i * 2, none⟩) (i + 1 - i) (C.length - i)) := by
      have z1 : Nat.beq C.length 0 = false := by
        cases hq : Nat.beq C.length 0 with
        | false => rfl
        | true => rw [beqT] at hq; omega
      have z2 : Nat.beq C.length i = false := by
        cases hq : Nat.beq C.length i with
        | false => rfl
        | true => rw [beqT] at hq; omega
      simp only [sliceA, ty22, tSl, ty35, tPair, boundsA, boundsA.low, q1, natV_of (Nat.le_refl C.length), natV_of (show i + 1 ≤ C.length by omega), natV_of (show i ≤ i + 1 by omega), q3, cond_true, z1, cond_false, z2]
    obtain ⟨h1, all1, happ, hg1, hq1, D1, hp1, hDl, hDt⟩ := append_here (n := n) hg hp rfl hi hlen
    have s2 : sliceA X 22 (.slice (some ⟨b, 0, none⟩) (C.length - 1) (UNK * 2 + C.length)) (some (.int .i64 ((C.length - 1 : Nat) : Int))) (some (.int .i64 (C.length : Int))) none = some (.slice (some ⟨b, (C.length - 1) * 2, none⟩) (C.length - (C.length - 1)) (UNK * 2 + C.length - (C.length - 1))) := by
      simp only [sliceA, ty22, tSl, ty35, tPair, boundsA, boundsA.low, q1, q2, natV_of (Nat.le_refl C.length), natV_of (show C.length - 1 ≤ C.length by omega), q3, cond_true, Nat.beq_refl, Nat.zero_add]
    obtain ⟨v6, h6, all6, hcl, hg6, hq6, hp6⟩ := clear2 (n := n) (k := C.length - 1) (cap := UNK * 2 + C.length - (C.length - 1)) hg1 hp1 hDl (by omega)
    have hf6 : Fresh h6 n := fun q hq => by rw [hq6 q (by omega), hq1 q (by omega)]; exact hf q hq
    have hl6 : (D1.take (C.length - 1)).length = C.length - 1 := by rw [List.length_take]; omega
    have hE6 : EdR n h6 (.slice (some ⟨b, 0, none⟩) (D1.take (C.length - 1)).length (UNK * 2 + C.length)) (D1.take (C.length - 1)) := .of hg6 hbn hp6
    rw [hl6, hDt] at hE6
    refine Cl.wl (memoX (by decide)) fn30 rfl rfl rfl rfl ?_
    refine WL.seq (WL.reg ?_)
    refine OL.asg ?_
    refine OL.nil (WL.seq (WL.reg ?_))
    refine OL.mv ?_; refine OL.mv ?_; refine OL.mv ?_; refine OL.mv ?_
    refine OL.bi (lenA_slice ty22) ?_
    refine OL.val (by first | rfl | exact WantL.yes rfl rfl rfl) (D.slice3 rfl rfl rfl rfl rfl ⟨_, _, _, rfl⟩ s3) rfl rfl ?_
    refine OL.nil (WL.seq (WL.seq (WL.reg ?_)))
    refine OL.mv ?_; refine OL.mv ?_; refine OL.bF ?_
    refine OL.nil (WL.condF rfl (WL.skip ?_))
    refine WL.seq (WL.reg ?_)
    refine OL.mv ?_
    refine OL.bi (lenA_slice ty22) ?_
    refine OL.asg ?_
    refine OL.nil (WL.seq (WL.regD (by kernel_rfl) (by kernel_rfl) ?_))
    refine OD.mv ?_; refine OD.mv ?_
    refine OD.val (by first | rfl | exact WantL.yes rfl rfl rfl) (by repeat' (first | exact trivial | assumption | exact BelV.ptr (by omega) | exact BelV.sl (by omega) | exact BelV.fn1 (by omega) | exact BelV.fn2 (by omega) (by omega) | exact hbs _ (by omega) | exact rfl | refine And.intro (Exists.intro _ (And.intro rfl ?_)) ?_)) (D.cutTo rfl rfl rfl ⟨_, _, _, rfl⟩ (sl2_to (k := i) (by omega) hlen)) rfl rfl ?_
    refine OD.mv ?_; refine OD.mv ?_
    refine OD.val (by first | rfl | exact WantL.yes rfl rfl rfl) (by repeat' (first | exact trivial | assumption | exact BelV.ptr (by omega) | exact BelV.sl (by omega) | exact BelV.fn1 (by omega) | exact BelV.fn2 (by omega) (by omega) | exact hbs _ (by omega) | exact rfl | refine And.intro (Exists.intro _ (And.intro rfl ?_)) ?_)) (D.cut1 rfl rfl rfl ⟨_, _, _, rfl⟩ (sl2_from (k := i + 1) (by omega) hlen)) rfl rfl ?_
    refine OD.bi happ ?_
    refine OD.asg ?_
    refine OD.nil (WL.seq (WL.reg ?_))
    refine OL.mv ?_; refine OL.mv ?_
    refine OL.bi (lenA_slice ty22) ?_
    refine OL.mv ?_
    refine OL.val (by first | rfl | exact WantL.yes rfl rfl rfl) (D.slice2 rfl rfl rfl rfl ⟨_, _, _, rfl⟩ s2) rfl rfl ?_
    refine OL.biN hcl ?_
    refine OL.nil (WL.seq (WL.reg ?_))
    refine OL.mv ?_; refine OL.asg ?_
    exact OL.nil (WL.ret ⟨fun id e => (by cases e), _, rfl, fun q hq => by rw [hq6 q (by omega), hq1 q (by omega)], Nat.le_refl _, hf6, hE6⟩)
  exact key

end Go.Sx
