/- SzP: sorted. -/
import Derived.Test.YtegomdgcijchcaaGreatDoorOwn5
namespace Go.Sx
open Go.Proofs
set_option maxRecDepth 100000
set_option maxHeartbeats 2000000

theorem fn41 : X.fn.get 41 = some Tryz.f41 := by kernel_rfl

theorem cntE_take {l : List (Int × Int)} {i : Nat} {e : Int × Int} (hi : l[i]? = some e) (k : Nat) : cntE (l.take (i + 1)) k = cntE (l.take i) k + if e.2 = (k : Int) then 1 else 0 := by
  have : l.take (i + 1) = l.take i ++ [e] := by rw [List.take_add_one, hi]; rfl
  unfold cntE
  rw [this, List.countP_append, List.countP_singleton]
  by_cases h : e.2 = (k : Int) <;> simp [h]

theorem cntE_le (l : List (Int × Int)) (k : Nat) : cntE l k ≤ l.length := List.countP_le_length
theorem cntO_le (l : List (Int × Int)) (out : List Nat) (k : Nat) : cntO l out k ≤ l.length := List.countP_le_length

theorem sub_len : ∀ (a b : List Nat), a.Nodup → (∀ x ∈ a, x ∈ b) → a.length ≤ b.length
  | [], _, _, _ => by simp
  | x :: a, b, hn, hs => by
    obtain ⟨h1, h2⟩ := List.nodup_cons.1 hn
    have hx := hs x (List.mem_cons_self ..)
    have := sub_len a (b.erase x) h2 fun y hy => (List.mem_erase_of_ne (fun e => by subst e; exact h1 hy)).2 (hs y (List.mem_cons_of_mem _ hy))
    rw [List.length_erase_of_mem hx] at this
    have := List.length_pos_of_mem hx
    simp; omega

theorem some_out {M : Nat} {out : List Nat} (h : out.length < M) : ∃ k, k < M ∧ k ∉ out := by
  refine Classical.byContradiction fun hno => ?_
  have := sub_len (List.range M) out List.nodup_range fun x hx => Classical.byContradiction fun hx' => hno ⟨x, List.mem_range.1 hx, hx'⟩
  simp at this
  omega

/- A row of the graph. -/
def RowAt (n : Nat) (h : T Blk) (v : Value) (xs : List Int) : Prop := (xs = [] ∧ v = .slice none 0 0) ∨ (xs ≠ [] ∧ ∃ b, v = slV b xs ∧ b < n ∧ h.get b = some (.cells (ints xs)))

theorem RowAt.len {n : Nat} {h : T Blk} {v : Value} {xs : List Int} (r : RowAt n h v xs) {h' : T Blk} {n' : Nat} : builtinA X .len [25] [v] h' n' = .val (.int .i64 (xs.length : Int)) h' n' := by
  rcases r with ⟨rfl, rfl⟩ | ⟨_, b, rfl, _, _⟩
  · exact lenA_slice ty25
  · exact lenA_slice ty25

theorem RowAt.at {n : Nat} {h : T Blk} {v : Value} {xs : List Int} (r : RowAt n h v xs) {j : Nat} {x : Int} (hj : xs[j]? = some x) : ∃ b, b < n ∧ idxA X 25 v (.int .i64 (j : Int)) = some (.pointer (some ⟨b, j, none⟩)) ∧ ∀ h' : T Blk, Keep n h h' → loadA X h' 3 (.pointer (some ⟨b, j, none⟩)) = some (.int .i64 x) := by
  rcases r with ⟨rfl, rfl⟩ | ⟨_, b, rfl, hb, h1⟩
  · simp at hj
  · exact ⟨b, hb, idx1 ty25 ty3 rfl (List.getElem?_eq_some_iff.1 hj).1, fun h' hk => load1 ty3 rfl (cells_of ((hk b hb).trans h1)) (ints_at hj)⟩

theorem succ_mem {l : List (Int × Int)} {i : Nat} {x : Int} (h : x ∈ succ l i) : ((i : Int), x) ∈ l := by
  unfold succ at h
  obtain ⟨e, he, rfl⟩ := List.mem_map.1 h
  obtain ⟨h1, h2⟩ := List.mem_filter.1 he
  simp only [decide_eq_true_eq] at h2
  rw [← h2]
  exact h1

theorem sorted_cl (M : Nat) (s : Value) (l : List (Int × Int)) (h : T Blk) (n lo : Nat) (p : Value) (hf : Fresh h n) (hgr : Graph lo h p M s (succ l)) (he : Edges h s l) (hM : M ≤ 400) (hlen : l.length ≤ 400) (hg : GoodG (M : Int) l) :
    Gives 41 [p] h n fun v h' _ => ∃ w ok, v = .tuple #[w, .bool ok] ∧ (ok = true → ∃ out, OutAt n h' w out ∧ Topo M l out ∧ out.length = M) ∧ (ok = false → Stuck M l) := by
  obtain ⟨g, N, ncs, rfl, hg1, hg2, hgN, _, _, hgG, hgNc, hncs, hrows⟩ := hgr.ex
  have hgn := hf.lt hgG
  have hNn := hf.lt hgNc
  have key : ∃ v h' n', Cl X 41 [.pointer (some ⟨g, 0, none⟩)] h n (.ret v h' n') ∧ Keep n h h' ∧ n ≤ n' ∧ Fresh h' n' ∧ ∃ w ok, v = .tuple #[w, .bool ok] ∧ (ok = true → ∃ out, OutAt n h' w out ∧ Topo M l out ∧ out.length = M) ∧ (ok = false → Stuck M l) := by
    have gG : ∀ {h' : T Blk}, Keep n h h' → h'.get g = some (.cells [.int .i64 (M : Int), .slice (some ⟨N, 0, none⟩) M M, s]) := fun hk => (hk g hgn).trans hgG
    have gN : ∀ {h' : T Blk}, Keep n h h' → h'.get N = some (.cells ncs) := fun hk => (hk N hNn).trans hgNc
    have l0 : ∀ {h' : T Blk}, Keep n h h' → loadA X h' 3 (.pointer (some ⟨g, 0 + 0, none⟩)) = some (.int .i64 (M : Int)) := fun hk => load1 ty3 rfl (cells_of (gG hk)) rfl
    have l1 : ∀ {h' : T Blk}, Keep n h h' → loadA X h' 93 (.pointer (some ⟨g, 0 + 1, none⟩)) = some (.slice (some ⟨N, 0, none⟩) M M) := fun hk => load1 ty93 rfl (cells_of (gG hk)) rfl
    have l2 : ∀ {h' : T Blk}, Keep n h h' → loadA X h' 22 (.pointer (some ⟨g, 0 + 2, none⟩)) = some s := fun hk => load1 ty22 rfl (cells_of (gG hk)) rfl
    have ix : ∀ {b k : Nat}, k < M → idxA X 25 (.slice (some ⟨b, 0, none⟩) M M) (.int .i64 (k : Int)) = some (.pointer (some ⟨b, k, none⟩)) := fun hk => idx1 ty25 ty3 rfl hk
    have jx : ∀ {b k : Nat}, k < M → idxA X 38 (.slice (some ⟨b, 0, none⟩) M M) (.int .i64 (k : Int)) = some (.pointer (some ⟨b, k, none⟩)) := fun hk => idx1 ty38 ty4 rfl hk
    refine Cl.wl (memoX (by decide)) fn41 rfl rfl rfl rfl ?_
    refine WL.seq (WL.reg ?_)
    refine OL.asg ?_; refine OL.asg ?_
    refine OL.nil (WL.scope (WL.seq (WL.reg ?_)))
    refine OL.mv ?_; refine OL.nc ?_; refine OL.fd f95_0 ?_; refine OL.l3 ?_
    try (refine OL.val (by first | rfl | exact WantL.yes rfl rfl rfl) (D.load rfl rfl (l0 (Keep.refl n h))) rfl rfl ?_)
    refine OL.val (by first | rfl | exact WantL.yes rfl rfl rfl) (D.makeSlice rfl rfl rfl (mkS ty25 ty3 rfl rfl rfl rfl (by omega))) rfl rfl ?_
    refine OL.asg ?_
    refine OL.nil (WL.seq (WL.seq (WL.reg ?_)))
    have hk0 : Keep n h (h.upd (some (.cells (List.replicate M (.int .i64 0)))) n) := (Keep.refl n h).upd (Nat.le_refl n) _
    refine OL.mv ?_; refine OL.nc ?_; refine OL.fd f95_2 ?_
    refine OL.val (by first | rfl | exact WantL.yes rfl rfl rfl) (D.load rfl rfl (l2 hk0)) rfl rfl ?_
    refine OL.val (by first | rfl | exact WantL.yes rfl rfl rfl) (D.builtinV rfl rfl rfl he.len) rfl rfl ?_
    refine OL.mv ?_
    refine OL.nil (WL.block ?_)
    refine WL.loop (k := l.length) (fun k L h' n' => ∃ i : Nat, i ≤ l.length ∧ k = l.length - i ∧ Sub [(22, .int .i64 (i : Int)), (21, .int .i64 (l.length : Int)), (20, s), (4, .slice (some ⟨n, 0, none⟩) M M), (0, .pointer (some ⟨g, 0, none⟩))] L ∧
      Keep n h h' ∧ n + 1 ≤ n' ∧ Fresh h' n' ∧ h'.get n = some (.cells (natsF M fun k => (cntE (l.take i) k : Int)))) ?_
      ⟨0, Nat.zero_le _, rfl, .cons rfl (.cons rfl (.cons rfl (.cons rfl (.cons rfl .nil)))), hk0, Nat.le_refl _, hf.upd _, by rw [T.get_upd_same, natsF_zero]; rfl⟩
    rintro k L h' n' ⟨i, hi, rfl, hs, hk, hn, hf', hA⟩
    refine WL.keep hs ?_
    refine WL.seq (WL.reg ?_)
    by_cases h3 : (i : Int) < (l.length : Int)
    · refine OL.bT ?_
      refine OL.nil (WL.seq (WL.condT rfl (WL.skip ?_)))
      obtain ⟨⟨e1, e2⟩, hie⟩ : ∃ e, l[i]? = some e := ⟨l[i], List.getElem?_eq_getElem (by omega)⟩
      obtain ⟨g1, g2, g3, g4, g5⟩ := hg.ok (e1, e2) (List.mem_of_getElem? hie)
      simp only at g1 g2 g3 g4 g5
      obtain ⟨y, rfl⟩ : ∃ y : Nat, e2 = (y : Int) := ⟨e2.toNat, by omega⟩
      have hyM : y < M := by omega
      obtain ⟨b, o, hx1, hx2, _⟩ := (he.keep hf hk).at hie
      refine WL.seq (WL.block (WL.seq (WL.reg ?_)))
      refine OL.val (by first | rfl | exact WantL.yes rfl rfl rfl) (D.index rfl rfl rfl hx1) rfl rfl ?_
      refine OL.val (by first | rfl | exact WantL.yes rfl rfl rfl) (D.load rfl rfl hx2) rfl rfl ?_
      refine OL.al ty35 ?_
      refine OL.skip rfl (D.store rfl rfl rfl (store2 (T.get_upd_same _ _ _) rfl rfl)) rfl ?_
      refine OL.nil ?_
      have hfa := (hf'.upd (some (.cells tPair.zero))).set (Nat.lt_succ_self n') (some (.cells [.int .i64 e1, .int .i64 (y : Int)]))
      have hka := ((Keep.refl n' h').upd (Nat.le_refl n') (some (.cells tPair.zero))).upd (Nat.le_refl n') (some (.cells [.int .i64 e1, .int .i64 (y : Int)]))
      have hga : (T.upd (some (Blk.cells [.int .i64 e1, .int .i64 (y : Int)])) (h'.upd (some (.cells tPair.zero)) n') n').get n' = some (.cells [.int .i64 e1, .int .i64 (y : Int)]) := T.get_upd_same _ _ _
      generalize T.upd (some (Blk.cells [.int .i64 e1, .int .i64 (y : Int)])) (h'.upd (some (.cells tPair.zero)) n') n' = ha at hfa hka hga ⊢
      have hA' : ha.get n = some (.cells (natsF M fun k => (cntE (l.take i) k : Int))) := (hka n (by omega)).trans hA
      refine WL.reg ?_
      refine OL.mv ?_; refine OL.ix idx_pair1 ?_; refine OL.l3 ?_
      refine OL.val (by first | rfl | exact WantL.yes rfl rfl rfl) (D.index rfl rfl rfl (ix hyM)) rfl rfl ?_
      refine OL.val (by first | rfl | exact WantL.yes rfl rfl rfl) (D.load rfl rfl (load1 ty3 rfl (cells_of hA') (natsF_at hyM))) rfl rfl ?_
      refine OL.val (by first | rfl | exact WantL.yes rfl rfl rfl) (D.add rfl rfl rfl (by have := cntE_le (l.take i) y; have := List.length_take_le i l; omega)) rfl rfl ?_
      refine OL.val (by first | rfl | exact WantL.yes rfl rfl rfl) (D.index rfl rfl rfl (ix hyM)) rfl rfl ?_
      refine OL.skip rfl (D.store rfl rfl rfl (store1 ty3 rfl hA' rfl (by rw [natsF_len]; exact hyM))) rfl ?_
      refine OL.nil (WL.reg ?_)
      refine OL.val (by first | rfl | exact WantL.yes rfl rfl rfl) (D.addN rfl rfl rfl (by omega)) rfl rfl ?_
      refine OL.mv ?_
      refine OL.nil ⟨l.length - (i + 1), by omega, i + 1, by omega, rfl, .cons rfl (.cons rfl (.cons rfl (.cons rfl (.cons rfl .nil)))), fun q hq => ?_, by omega, hfa.set (by omega) _, ?_⟩
      · rw [T.get_upd_ne _ _ (by omega), hka q (by omega)]; exact hk q hq
      · rw [T.get_upd_same]
        congr 2
        refine natsF_set hyM fun j => ?_
        rw [cntE_take hie]
        by_cases hj : j = y
        · subst hj; simp
        · rw [if_neg hj, if_neg (fun e => hj (by simp only at e; omega))]; simp
    · refine OL.bF ?_
      refine OL.nil (WL.seq (WL.condF rfl (WL.exit ?_)))
      have hi' : i = l.length := by omega
      subst hi'
      rw [List.take_length] at hA
      refine WL.seq (WL.reg ?_)
      refine OL.asg ?_
      refine OL.nil (WL.seq (WL.reg ?_))
      refine OL.mv ?_; refine OL.nc ?_; refine OL.fd f95_0 ?_
      refine OL.val (by first | rfl | exact WantL.yes rfl rfl rfl) (D.load rfl rfl (l0 hk)) rfl rfl ?_
      refine OL.val (by first | rfl | exact WantL.yes rfl rfl rfl) (D.makeSlice rfl rfl rfl (mkS ty38 ty4 rfl rfl rfl rfl (by omega))) rfl rfl ?_
      refine OL.asg ?_
      refine OL.nil (WL.seq (WL.label ?_))
      have hkD : Keep n h (h'.upd (some (.cells (List.replicate M (.bool false)))) n') := hk.upd (by omega) _
      have hAD : (h'.upd (some (.cells (List.replicate M (.bool false)))) n').get n = some (.cells (natsF M fun k => (cntO l [] k : Int))) := by
        rw [T.get_upd_ne _ _ (by omega), hA]
        congr 2
        simp only [cntO_nil]
      have hBD : (h'.upd (some (.cells (List.replicate M (.bool false)))) n').get n' = some (.cells (boolsF M fun k => decide (k ∈ ([] : List Nat)))) := by
        rw [T.get_upd_same, boolsF_zero]
        simp
      have hfD := hf'.upd (some (.cells (List.replicate M (.bool false))))
      refine WL.seq (WL.block ?_)
      refine WL.loop (k := M) (fun k L h2 n2 => ∃ (out : List Nat) (w : Value), k = M - out.length ∧ Sub [(7, w), (8, .slice (some ⟨n', 0, none⟩) M M), (4, .slice (some ⟨n, 0, none⟩) M M), (0, .pointer (some ⟨g, 0, none⟩))] L ∧ Keep n h h2 ∧ n' + 1 ≤ n2 ∧ Fresh h2 n2 ∧
        h2.get n = some (.cells (natsF M fun k => (cntO l out k : Int))) ∧ h2.get n' = some (.cells (boolsF M fun k => decide (k ∈ out))) ∧ OutAt (n' + 1) h2 w out ∧ Topo M l out) ?_
        ⟨[], .slice none 0 0, by simp, .cons rfl (.cons rfl (.cons rfl (.cons rfl .nil))), hkD, Nat.le_refl _, hfD, hAD, hBD, .inl ⟨rfl, rfl⟩, ⟨List.nodup_nil, by simp, fun j b a hj => by simp at hj, fun j b hj => by simp at hj⟩⟩
      rintro k L h2 n2 ⟨out, w, rfl, hs2, hk2, hn2, hf2, hA2, hB2, hO2, hT⟩
      refine WL.keep hs2 ?_
      refine WL.seq (WL.seq (WL.reg ?_))
      refine OL.mv ?_
      refine OL.val (by first | rfl | exact WantL.yes rfl rfl rfl) (D.builtinV rfl rfl rfl hO2.len) rfl rfl ?_
      refine OL.mv ?_; refine OL.nc ?_; refine OL.fd f95_0 ?_
      try (refine OL.val (by first | rfl | exact WantL.yes rfl rfl rfl) (D.load rfl rfl (l0 hk2)) rfl rfl ?_)
      by_cases c1 : (out.length : Int) < (M : Int)
      · refine OL.bT ?_
        refine OL.nil (WL.condT rfl (WL.skip ?_))
        refine WL.block (WL.seq (WL.seq (WL.reg ?_)))
        refine OL.mv ?_; refine OL.nc ?_; refine OL.fd f95_0 ?_
        try (refine OL.val (by first | rfl | exact WantL.yes rfl rfl rfl) (D.load rfl rfl (l0 hk2)) rfl rfl ?_)
        refine OL.mv ?_
        refine OL.nil (WL.block ?_)
        refine WL.loop (k := M) (fun k L h3 n3 => ∃ i : Nat, i ≤ M ∧ k = M - i ∧ Sub [(50, .int .i64 (i : Int)), (49, .int .i64 (M : Int)), (7, w), (8, .slice (some ⟨n', 0, none⟩) M M), (4, .slice (some ⟨n, 0, none⟩) M M), (0, .pointer (some ⟨g, 0, none⟩))] L ∧ h2 = h3 ∧ n2 = n3 ∧
          ∀ j, j < i → j ∈ out ∨ cntO l out j ≠ 0) ?_ ⟨0, Nat.zero_le _, rfl, .cons rfl (.cons rfl (.cons rfl (.cons rfl (.cons rfl (.cons rfl .nil))))), rfl, rfl, fun j hj => by omega⟩
        rintro k L h3 n3 ⟨i, hi, rfl, hs3, rfl, rfl, hno⟩
        refine WL.keep hs3 ?_
        refine WL.seq (WL.reg ?_)
        by_cases c2 : (i : Int) < (M : Int)
        · refine OL.bT ?_
          refine OL.nil (WL.seq (WL.condT rfl (WL.skip ?_)))
          have hiM : i < M := by omega
          refine WL.seq (WL.block (WL.seq (WL.reg ?_)))
          refine OL.mv ?_; refine OL.asg ?_
          refine OL.nil (WL.seq (WL.reg ?_))
          refine OL.mv ?_; refine OL.mv ?_
          refine OL.val (by first | rfl | exact WantL.yes rfl rfl rfl) (D.index rfl rfl rfl (jx hiM)) rfl rfl ?_
          refine OL.val (by first | rfl | exact WantL.yes rfl rfl rfl) (D.load rfl rfl (load1 ty4 rfl (cells_of hB2) (boolsF_at hiM))) rfl rfl ?_
          by_cases c3 : i ∈ out
          · rw [decide_eq_true c3]
            refine OL.un ?_; refine OL.mv ?_; refine OL.ps ?_; refine OL.ps ?_; refine OL.ps ?_; refine OL.ps ?_; refine OL.ps ?_; refine OL.pF ?_
            refine OL.nil (WL.condF rfl (WL.skip (WL.reg ?_)))
            refine OL.val (by first | rfl | exact WantL.yes rfl rfl rfl) (D.addN rfl rfl rfl (by omega)) rfl rfl ?_
            refine OL.mv ?_
            refine OL.nil ⟨M - (i + 1), by omega, i + 1, by omega, rfl, .cons rfl (.cons rfl (.cons rfl (.cons rfl (.cons rfl (.cons rfl .nil))))), rfl, rfl, fun j hj => ?_⟩
            rcases Nat.lt_or_ge j i with h4 | h4
            · exact hno j h4
            · rw [show j = i by omega]; exact .inl c3
          · rw [decide_eq_false c3]
            refine OL.un ?_; refine OL.mv ?_; refine OL.mv ?_; refine OL.mv ?_
            refine OL.val (by first | rfl | exact WantL.yes rfl rfl rfl) (D.index rfl rfl rfl (ix hiM)) rfl rfl ?_
            refine OL.val (by first | rfl | exact WantL.yes rfl rfl rfl) (D.load rfl rfl (load1 ty3 rfl (cells_of hA2) (natsF_at hiM))) rfl rfl ?_
            by_cases c4 : (cntO l out i : Int) = 0
            · refine OL.bT ?_; refine OL.pT ?_
              refine OL.nil (WL.condT rfl (WL.seq (WL.reg ?_)))
              refine OL.mv ?_; refine OL.mv ?_
              refine OL.val (by first | rfl | exact WantL.yes rfl rfl rfl) (D.index rfl rfl rfl (jx hiM)) rfl rfl ?_
              refine OL.skip rfl (D.store rfl rfl rfl (store1 ty4 rfl hB2 rfl (by rw [boolsF_len]; exact hiM))) rfl ?_
              refine OL.nil ?_
              have hDh : (h2.upd (some (.cells ((boolsF M fun k => decide (k ∈ out)).set i (.bool true)))) n').get n' = some (.cells (boolsF M fun k => decide (k ∈ out ++ [i]))) := by
                rw [T.get_upd_same]
                congr 2
                refine boolsF_set hiM fun j => ?_
                by_cases hj : j = i
                · subst hj; simp
                · rw [if_neg hj]; simp [hj]
              have hDn : (h2.upd (some (.cells ((boolsF M fun k => decide (k ∈ out)).set i (.bool true)))) n').get n = some (.cells (natsF M fun k => (cntO l out k : Int))) := (T.get_upd_ne _ _ (by omega)).trans hA2
              have hDk : Keep n h (h2.upd (some (.cells ((boolsF M fun k => decide (k ∈ out)).set i (.bool true)))) n') := hk2.upd (by omega) _
              have hDf := hf2.set (show n' < n2 by omega) (some (.cells ((boolsF M fun k => decide (k ∈ out)).set i (.bool true))))
              have hDo : OutAt (n' + 1) (h2.upd (some (.cells ((boolsF M fun k => decide (k ∈ out)).set i (.bool true)))) n') w out := hO2.set (Nat.lt_succ_self n') _
              generalize T.upd (some (Blk.cells ((boolsF M fun k => decide (k ∈ out)).set i (.bool true)))) h2 n' = hD at hDh hDn hDk hDf hDo ⊢
              have holen : out.length ≤ M := pigeon M out hT.nd hT.lt
              have hEf := hDf.upd (some (.cells [.int .i64 (i : Int)]))
              have hEo := hDo.keep hDf ((Keep.refl n2 hD).upd (Nat.le_refl n2) (some (.cells [.int .i64 (i : Int)])))
              have hne : ∀ b, w = slV b (zs out) → b ≠ n2 := fun b hb e => by
                rcases hDo with ⟨_, h7⟩ | ⟨_, b', h7, _, h8⟩
                · rw [h7] at hb; simp [slV] at hb
                · rw [h7] at hb
                  simp only [slV, Value.slice.injEq, Option.some.injEq, Addr.mk.injEq] at hb
                  have := hDf.lt h8
                  omega
              obtain ⟨w', hE, happ, hE1, hE2, _, hE4⟩ := hEo.add (nb := n2) hEf (by omega) (T.get_upd_same _ _ _) (by omega) hne
              have hEk : Keep n h hE := fun q hq => by rw [hE2 q (by omega), T.get_upd_ne _ _ (by omega)]; exact hDk q hq
              have hEn := (hE2 n (by omega)).trans ((T.get_upd_ne _ _ (by omega)).trans hDn)
              have hEd := (hE2 n' (by omega)).trans ((T.get_upd_ne _ _ (by omega)).trans hDh)
              refine WL.seq (WL.reg ?_)
              refine OL.mv ?_; refine OL.mv ?_
              refine OL.val (by first | rfl | exact WantL.yes rfl rfl rfl) (D.buildSlice rfl rfl buildS1) rfl rfl ?_
              refine OL.val (by first | rfl | exact WantL.yes rfl rfl rfl) (D.builtinV rfl rfl rfl (appendV happ)) rfl rfl ?_
              refine OL.asg ?_
              refine OL.nil (WL.seq (WL.seq (WL.reg ?_)))
              obtain ⟨v, hv⟩ : ∃ v, ncs[i]? = some v := ⟨_, List.getElem?_eq_getElem (by omega)⟩
              have hrow : RowAt n h v (succ l i) := by
                rcases hrows.at_ i v hv with h7 | ⟨h7, b, h8, _, h9⟩
                · exact .inl h7
                · exact .inr ⟨h7, b, h8, hf.lt h9, h9⟩
              refine OL.mv ?_; refine OL.nc ?_; refine OL.fd f95_1 ?_
              refine OL.val (by first | rfl | exact WantL.yes rfl rfl rfl) (D.load rfl rfl (l1 hEk)) rfl rfl ?_
              refine OL.mv ?_
              refine OL.val (by first | rfl | exact WantL.yes rfl rfl rfl) (D.index rfl rfl rfl (idx1 ty93 ty25 rfl hiM)) rfl rfl ?_
              refine OL.val (by first | rfl | exact WantL.yes rfl rfl rfl) (D.load rfl rfl (load1 ty25 rfl (cells_of (gN hEk)) hv)) rfl rfl ?_
              refine OL.val (by first | rfl | exact WantL.yes rfl rfl rfl) (D.builtinV rfl rfl rfl hrow.len) rfl rfl ?_
              refine OL.mv ?_
              refine OL.nil (WL.block ?_)
              refine WL.loop (k := (succ l i).length) (fun k L h3 n3 => ∃ j : Nat, j ≤ (succ l i).length ∧ k = (succ l i).length - j ∧ Sub [(80, .int .i64 (j : Int)), (79, .int .i64 ((succ l i).length : Int)), (78, v), (7, w'), (8, .slice (some ⟨n', 0, none⟩) M M), (4, .slice (some ⟨n, 0, none⟩) M M), (0, .pointer (some ⟨g, 0, none⟩))] L ∧ n3 = n2 + 1 + 1 ∧
                Keep n h h3 ∧ Fresh h3 (n2 + 1 + 1) ∧ (∀ q, q ≠ n → h3.get q = hE.get q) ∧ h3.get n = some (.cells (natsF M fun k => (cntO l out k : Int) - (((succ l i).take j).count (k : Int) : Int)))) ?_
                ⟨0, Nat.zero_le _, rfl, .cons rfl (.cons rfl (.cons rfl (.cons rfl (.cons rfl (.cons rfl (.cons rfl .nil)))))), rfl, hEk, hE1, fun q _ => rfl, by rw [hEn]; simp⟩
              rintro k L h3 n3 ⟨j, hj, rfl, hs4, rfl, hk4, hf4, hq4, hA4⟩
              refine WL.keep hs4 ?_
              refine WL.seq (WL.reg ?_)
              by_cases c5 : (j : Int) < ((succ l i).length : Int)
              · refine OL.bT ?_
                refine OL.nil (WL.seq (WL.condT rfl (WL.skip ?_)))
                obtain ⟨x, hx⟩ : ∃ x, (succ l i)[j]? = some x := ⟨_, List.getElem?_eq_getElem (by omega)⟩
                obtain ⟨g1, g2, g3, g4, g5⟩ := hg.ok _ (succ_mem (List.mem_of_getElem? hx))
                simp only at g1 g2 g3 g4 g5
                obtain ⟨y, rfl⟩ : ∃ y : Nat, x = (y : Int) := ⟨x.toNat, by omega⟩
                have hyM : y < M := by omega
                obtain ⟨b, hb, hx1, hx2⟩ := hrow.at hx
                have hc1 : ((succ l i).take j).count (y : Int) ≤ 400 := by
                  have h7 : ((succ l i).take j).count (y : Int) ≤ ((succ l i).take j).length := List.count_le_length
                  have h8 := List.length_take_le j (succ l i)
                  have h9 : (succ l i).length ≤ l.length := by unfold succ; rw [List.length_map]; exact List.length_filter_le _ _
                  omega
                have hc2 := cntO_le l out y
                have hrl : (succ l i).length ≤ 400 := by
                  have h9 : (succ l i).length ≤ l.length := by unfold succ; rw [List.length_map]; exact List.length_filter_le _ _
                  omega
                refine WL.seq (WL.block (WL.seq (WL.reg ?_)))
                refine OL.val (by first | rfl | exact WantL.yes rfl rfl rfl) (D.index rfl rfl rfl hx1) rfl rfl ?_
                refine OL.val (by first | rfl | exact WantL.yes rfl rfl rfl) (D.load rfl rfl (hx2 _ hk4)) rfl rfl ?_
                refine OL.asg ?_
                refine OL.nil (WL.reg ?_)
                refine OL.mv ?_; refine OL.mv ?_
                refine OL.val (by first | rfl | exact WantL.yes rfl rfl rfl) (D.index rfl rfl rfl (ix hyM)) rfl rfl ?_
                refine OL.val (by first | rfl | exact WantL.yes rfl rfl rfl) (D.load rfl rfl (load1 ty3 rfl (cells_of hA4) (natsF_at hyM))) rfl rfl ?_
                refine OL.val (by first | rfl | exact WantL.yes rfl rfl rfl) (D.sub rfl rfl rfl (by omega)) rfl rfl ?_
                refine OL.val (by first | rfl | exact WantL.yes rfl rfl rfl) (D.index rfl rfl rfl (ix hyM)) rfl rfl ?_
                refine OL.skip rfl (D.store rfl rfl rfl (store1 ty3 rfl hA4 rfl (by rw [natsF_len]; exact hyM))) rfl ?_
                refine OL.nil (WL.reg ?_)
                refine OL.val (by first | rfl | exact WantL.yes rfl rfl rfl) (D.addN rfl rfl rfl (by omega)) rfl rfl ?_
                refine OL.mv ?_
                refine OL.nil ⟨(succ l i).length - (j + 1), by omega, j + 1, by omega, rfl, .cons rfl (.cons rfl (.cons rfl (.cons rfl (.cons rfl (.cons rfl (.cons rfl .nil)))))), rfl, hk4.upd (Nat.le_refl n) _, hf4.set (by omega) _, fun q hq => ?_, ?_⟩
                · rw [T.get_upd_ne _ _ hq]; exact hq4 q hq
                · rw [T.get_upd_same]
                  congr 2
                  refine natsF_set hyM fun q => ?_
                  have htk : (succ l i).take (j + 1) = (succ l i).take j ++ [(y : Int)] := by rw [List.take_add_one, hx]; rfl
                  have hct : ((succ l i).take (j + 1)).count (q : Int) = ((succ l i).take j).count (q : Int) + ([(y : Int)]).count (q : Int) := by rw [htk, List.count_append]
                  rw [hct]
                  by_cases hqy : q = y
                  · subst hqy
                    rw [if_pos rfl, List.count_singleton_self]
                    omega
                  · have h0 : ([(y : Int)]).count (q : Int) = 0 := List.count_eq_zero_of_not_mem (fun hm => hqy (by have := List.mem_singleton.1 hm; omega))
                    rw [if_neg hqy, h0]
                    omega
              · refine OL.bF ?_
                refine OL.nil (WL.seq (WL.condF rfl (WL.exit ?_)))
                have hjl : j = (succ l i).length := by omega
                subst hjl
                have hA5 : h3.get n = some (.cells (natsF M fun k => (cntO l (out ++ [i]) k : Int))) := by
                  rw [hA4]
                  congr 3
                  funext k
                  rw [List.take_length, succ_count]
                  have := cntO_add (l := l) c3 k
                  omega
                refine WL.exit ⟨M - (out.length + 1), by omega, out ++ [i], w', by simp, .cons rfl (.cons rfl (.cons rfl (.cons rfl .nil))), hk4, by omega, hf4, hA5, (hq4 n' (by omega)).trans hEd, ?_, hT.add hiM c3 (by omega) hno⟩
                rcases hE4 with h7 | ⟨h7, b, h8, h9, h10⟩
                · exact .inl h7
                · exact .inr ⟨h7, b, h8, h9, (hq4 b (by omega)).trans h10⟩
            · refine OL.bF ?_; refine OL.pT ?_
              refine OL.nil (WL.condF rfl (WL.skip (WL.reg ?_)))
              refine OL.val (by first | rfl | exact WantL.yes rfl rfl rfl) (D.addN rfl rfl rfl (by omega)) rfl rfl ?_
              refine OL.mv ?_
              refine OL.nil ⟨M - (i + 1), by omega, i + 1, by omega, rfl, .cons rfl (.cons rfl (.cons rfl (.cons rfl (.cons rfl (.cons rfl .nil))))), rfl, rfl, fun j hj => ?_⟩
              rcases Nat.lt_or_ge j i with h4 | h4
              · exact hno j h4
              · rw [show j = i by omega]; exact .inr (by omega)
        · refine OL.bF ?_
          refine OL.nil (WL.seq (WL.condF rfl (WL.exit ?_)))
          refine WL.seq (WL.reg ?_)
          refine OL.asg ?_; refine OL.asg ?_
          refine OL.nil (WL.ret ⟨fun id e => (by cases e), _, rfl, hk2, by omega, hf2, .slice none 0 0, false, rfl, fun e => (by cases e), fun _ => ⟨fun k => k < M ∧ k ∉ out, some_out (by omega), fun k hk => hk.1, fun k hk => ?_⟩⟩)
          obtain ⟨a, ha1, ha2, ha3⟩ := cntO_pos hg ((hno k (by omega)).resolve_left hk.2)
          exact ⟨a, ⟨ha2, ha1⟩, ha3⟩
      · refine OL.bF ?_
        refine OL.nil (WL.condF rfl (WL.exit ?_))
        refine WL.seq (WL.reg ?_)
        refine OL.mv ?_; refine OL.asg ?_; refine OL.asg ?_
        refine OL.nil (WL.ret ⟨fun id e => (by cases e), _, rfl, hk2, by omega, hf2, w, true, rfl, fun _ => ⟨out, ?_, hT, ?_⟩, fun e => (by cases e)⟩)
        · rcases hO2 with h1 | ⟨h1, b, h3, h4, h5⟩
          · exact .inl h1
          · exact .inr ⟨h1, b, h3, by omega, h5⟩
        · have := pigeon M out hT.nd hT.lt
          omega
  exact key

end Go.Sx

/- SzQ: valid, levels. -/
namespace Go.Sx
open Go.Proofs
set_option maxRecDepth 100000
set_option maxHeartbeats 2000000

theorem valid_cl (m : Int) (s : Value) (l : List (Int × Int)) (h : T Blk) (n : Nat) (hf : Fresh h n) (he : Edges h s l) (hbs : ∀ k, n ≤ k → BelV k s) :
    Gives 25 [.int .i64 m, s] h n fun v _ _ => ∃ b, v = .bool b ∧ (b = true → ∃ M : Nat, m = (M : Int) ∧ M ≤ 60 ∧ l.length ≤ 400 ∧ GoodG (M : Int) l) := by
  have key : ∃ v h' n', Cl X 25 [.int .i64 m, s] h n (.ret v h' n') ∧ Keep n h h' ∧ n ≤ n' ∧ Fresh h' n' ∧ ∃ b, v = .bool b ∧ (b = true → ∃ M : Nat, m = (M : Int) ∧ M ≤ 60 ∧ l.length ≤ 400 ∧ GoodG (M : Int) l) := by
    obtain ⟨v, h1, n1, hc1, hk1, hn1, hf1, rfl⟩ := small_cl m 60 s l h n hf he
    refine Cl.wl (memoX (by decide)) fn25 rfl rfl rfl rfl ?_
    refine WL.seq (WL.reg ?_)
    refine OL.asg ?_
    refine OL.nil (WL.seq (WL.reg ?_))
    refine OL.mv ?_; refine OL.mv ?_
    refine OL.call (by first | rfl | exact WantL.yes rfl rfl rfl) (D.callF rfl rfl rfl fn10) hc1 rfl rfl ?_
    by_cases c1 : l.length ≤ 400 ∧ (m ≤ 60 ∨ 400 < m)
    · rw [decide_eq_true c1]
      obtain ⟨v2, h2, n2, hc2, hk2, hn2, hf2, c, rfl, hg⟩ := check_cl m s l h1 n1 hf1 (he.keep hf hk1) (fun k hk => hbs k (by omega)) c1.1
      refine OL.mv ?_; refine OL.mv ?_; refine OL.mv ?_
      refine OL.call (by first | rfl | exact WantL.yes rfl rfl rfl) (D.callF rfl rfl rfl fn16) hc2 rfl rfl ?_
      by_cases c2 : c = 0
      · refine OL.bT ?_; refine OL.pT ?_; refine OL.asg ?_
        refine OL.nil (WL.ret ⟨fun id e => (by cases e), _, rfl, hk1.trans hn1 hk2, by omega, hf2, true, rfl, fun _ => ?_⟩)
        obtain ⟨g1, g2⟩ := hg c2
        have g3 := g1.lo
        have e : ((m.toNat : Nat) : Int) = m := by omega
        exact ⟨m.toNat, e.symm, by omega, c1.1, by rw [e]; exact g1⟩
      · refine OL.bF ?_; refine OL.pT ?_; refine OL.asg ?_
        exact OL.nil (WL.ret ⟨fun id e => (by cases e), _, rfl, hk1.trans hn1 hk2, by omega, hf2, false, rfl, fun e => (by cases e)⟩)
    · rw [decide_eq_false c1]
      refine OL.mv ?_; refine OL.ps ?_; refine OL.ps ?_; refine OL.ps ?_; refine OL.ps ?_; refine OL.pF ?_; refine OL.asg ?_
      exact OL.nil (WL.ret ⟨fun id e => (by cases e), _, rfl, hk1, hn1, hf1, false, rfl, fun e => (by cases e)⟩)
  exact key

/- Levels: plain law. -/
structure LvS (PE : Nat → Nat → Prop) (lv : Nat → Int) (c : Int) : Prop where
  nn : ∀ k, 0 ≤ lv k
  hi : ∀ k, lv k ≤ c
  up : ∀ x y, PE x y → lv x + 1 ≤ lv y
  cov : ∀ k, lv k = 0 ∨ ∃ x, PE x k ∧ lv k = lv x + 1

def raise (lv : Nat → Int) (a y : Nat) (k : Nat) : Int := if k = y then (if lv y < lv a + 1 then lv a + 1 else lv y) else lv k
theorem raise_ne {lv : Nat → Int} {a y k : Nat} (h : k ≠ y) : raise lv a y k = lv k := if_neg h
theorem raise_same (lv : Nat → Int) (a y : Nat) : raise lv a y y = if lv y < lv a + 1 then lv a + 1 else lv y := if_pos rfl

theorem LvS.step {PE PE' : Nat → Nat → Prop} {lv : Nat → Int} {c : Int} (s : LvS PE lv c) {a y : Nat} (hac : lv a + 1 ≤ c) (hno : ∀ z, ¬ PE y z) (hya : y ≠ a) (hp : ∀ x z, (PE x z ∨ x = a ∧ z = y) ↔ PE' x z) :
    LvS PE' (raise lv a y) c := by
  have ra : raise lv a y a = lv a := raise_ne (Ne.symm hya)
  have rs := raise_same lv a y
  have na := s.nn a
  have ny := s.nn y
  have hy := s.hi y
  refine ⟨fun k => ?_, fun k => ?_, fun x z hx => ?_, fun k => ?_⟩
  · by_cases hk : k = y
    · rw [hk, rs]; split <;> omega
    · rw [raise_ne hk]; exact s.nn k
  · by_cases hk : k = y
    · rw [hk, rs]; split <;> omega
    · rw [raise_ne hk]; exact s.hi k
  · rcases (hp x z).2 hx with hx | ⟨e1, e2⟩
    · have h1 : x ≠ y := fun e => hno z (e ▸ hx)
      have h2 := s.up x z hx
      rw [raise_ne h1]
      by_cases hz : z = y
      · rw [hz] at h2 ⊢
        rw [rs]; split <;> omega
      · rw [raise_ne hz]; exact h2
    · rw [e1, e2, ra, rs]
      split <;> omega
  · by_cases hk : k = y
    · rw [hk, rs]
      by_cases h1 : lv y < lv a + 1
      · rw [if_pos h1]
        exact .inr ⟨a, (hp _ _).1 (.inr ⟨rfl, rfl⟩), by rw [ra]⟩
      · rw [if_neg h1]
        rcases s.cov y with h2 | ⟨x, h2, h3⟩
        · exact .inl h2
        · refine .inr ⟨x, (hp _ _).1 (.inl h2), ?_⟩
          rw [raise_ne (fun e => hno y (by rw [e] at h2; exact h2))]
          exact h3
    · rw [raise_ne hk]
      rcases s.cov k with h2 | ⟨x, h2, h3⟩
      · exact .inl h2
      · refine .inr ⟨x, (hp _ _).1 (.inl h2), ?_⟩
        rw [raise_ne (fun e => hno k (by rw [e] at h2; exact h2))]
        exact h3

theorem LvS.congr {PE PE' : Nat → Nat → Prop} {lv : Nat → Int} {c c' : Int} (s : LvS PE lv c) (hp : ∀ x y, PE x y ↔ PE' x y) (hc : c ≤ c') : LvS PE' lv c' :=
  ⟨s.nn, fun k => Int.le_trans (s.hi k) hc, fun x y h => s.up x y ((hp x y).2 h), fun k => (s.cov k).imp id fun ⟨x, h1, h2⟩ => ⟨x, (hp x k).1 h1, h2⟩⟩

def PEo (l : List (Int × Int)) (out : List Nat) (j : Nat) (x y : Nat) : Prop := ((x : Int), (y : Int)) ∈ l ∧ x ∈ out.take j
def PEi (l : List (Int × Int)) (out : List Nat) (j a q : Nat) (x y : Nat) : Prop := PEo l out j x y ∨ x = a ∧ (y : Int) ∈ (succ l a).take q

theorem mem_succ {l : List (Int × Int)} {a y : Nat} : (y : Int) ∈ succ l a ↔ ((a : Int), (y : Int)) ∈ l := by
  refine ⟨succ_mem, fun h => ?_⟩
  unfold succ
  exact List.mem_map.2 ⟨_, List.mem_filter.2 ⟨h, by simp⟩, rfl⟩

theorem pe_zero (l : List (Int × Int)) (out : List Nat) (j a x y : Nat) : PEo l out j x y ↔ PEi l out j a 0 x y := by
  unfold PEi
  simp

theorem pe_full {l : List (Int × Int)} {out : List Nat} {j a : Nat} (ha : out[j]? = some a) (x y : Nat) : PEi l out j a (succ l a).length x y ↔ PEo l out (j + 1) x y := by
  unfold PEi PEo
  rw [List.take_length, mem_succ, List.take_add_one, ha, List.mem_append]
  constructor
  · rintro (⟨h1, h2⟩ | ⟨rfl, h1⟩)
    · exact ⟨h1, .inl h2⟩
    · exact ⟨h1, .inr (by simp)⟩
  · rintro ⟨h1, h2 | h2⟩
    · exact .inl ⟨h1, h2⟩
    · have : x = a := by simpa using h2
      subst this
      exact .inr ⟨rfl, h1⟩

theorem pe_step {l : List (Int × Int)} {out : List Nat} {j a q y0 : Nat} (hy : (succ l a)[q]? = some (y0 : Int)) (x y : Nat) : (PEi l out j a q x y ∨ x = a ∧ y = y0) ↔ PEi l out j a (q + 1) x y := by
  unfold PEi
  rw [List.take_add_one, hy, List.mem_append]
  constructor
  · rintro ((h1 | ⟨h1, h2⟩) | ⟨h1, rfl⟩)
    · exact .inl h1
    · exact .inr ⟨h1, .inl h2⟩
    · exact .inr ⟨h1, .inr (by simp)⟩
  · rintro (h1 | ⟨h1, h2 | h2⟩)
    · exact .inl (.inl h1)
    · exact .inl (.inr ⟨h1, h2⟩)
    · have : y = y0 := by
        simp at h2
        omega
      exact .inr ⟨h1, this⟩

theorem pe_no {M : Nat} {l : List (Int × Int)} {out : List Nat} {j a q y : Nat} (hT : Topo M l out) (ha : out[j]? = some a) (hay : ((a : Int), (y : Int)) ∈ l) (hne : y ≠ a) (z : Nat) : ¬ PEi l out j a q y z := by
  rintro (⟨_, h1⟩ | ⟨h1, _⟩)
  · obtain ⟨i, hi⟩ := List.getElem?_of_mem h1
    rw [List.getElem?_take] at hi
    split at hi
    · rename_i hij
      have h2 := hT.dep i y a hi hay
      obtain ⟨i2, hi2⟩ := List.getElem?_of_mem h2
      rw [List.getElem?_take] at hi2
      split at hi2
      · rename_i h3
        obtain ⟨q1, q2⟩ := List.getElem?_eq_some_iff.1 hi2
        obtain ⟨q3, q4⟩ := List.getElem?_eq_some_iff.1 ha
        have := (List.getElem_inj hT.nd).1 (q2.trans q4.symm)
        omega
      · cases hi2
    · cases hi
  · exact hne h1

/- What levels must be. -/
structure LvOK (M : Nat) (l : List (Int × Int)) (lv : Nat → Int) : Prop where
  nn : ∀ k, 0 ≤ lv k
  hi : ∀ k, lv k ≤ (M : Int)
  up : ∀ x y : Nat, ((x : Int), (y : Int)) ∈ l → lv x < lv y
  cov : ∀ k : Nat, lv k = 0 ∨ ∃ x : Nat, ((x : Int), (k : Int)) ∈ l ∧ lv k = lv x + 1

theorem lv_end {M : Nat} {l : List (Int × Int)} {out : List Nat} {lv : Nat → Int} (hg : GoodG (M : Int) l) (hT : Topo M l out) (hlen : out.length = M) (s : LvS (PEo l out M) lv (M : Int)) : LvOK M l lv := by
  refine ⟨s.nn, s.hi, fun x y hxy => ?_, fun k => ?_⟩
  · obtain ⟨g1, g2, _⟩ := hg.ok _ hxy
    simp only at g1 g2
    have := s.up x y ⟨hxy, by rw [List.take_of_length_le (by omega)]; exact topo_full hT hlen x (by omega)⟩
    omega
  · exact (s.cov k).imp id fun ⟨x, h1, h2⟩ => ⟨x, h1.1, h2⟩

theorem fn47 : X.fn.get 47 = some Tryz.f47 := by kernel_rfl

theorem OutAt.row {lo n : Nat} {h : T Blk} {w : Value} {out : List Nat} (o : OutAt lo h w out) (hf : Fresh h n) : RowAt n h w (zs out) := by
  rcases o with ⟨rfl, h1⟩ | ⟨h1, b, h2, h3, h4⟩
  · exact .inl ⟨rfl, h1⟩
  · exact .inr ⟨fun e => h1 (List.map_eq_nil_iff.1 e), b, h2, hf.lt h4, h4⟩

theorem levels_cl (M : Nat) (s : Value) (l : List (Int × Int)) (h : T Blk) (n lo lo' : Nat) (p w : Value) (out : List Nat) (hf : Fresh h n) (hgr : Graph lo h p M s (succ l)) (hO : OutAt lo' h w out) (hT : Topo M l out) (hol : out.length = M) (hM : M ≤ 400) (hlen : l.length ≤ 400) (hg : GoodG (M : Int) l) :
    Gives 47 [p, w] h n fun v h' _ => ∃ lv b, v = .slice (some ⟨b, 0, none⟩) M M ∧ n ≤ b ∧ h'.get b = some (.cells (natsF M lv)) ∧ LvOK M l lv := by
  obtain ⟨g, N, ncs, rfl, hg1, hg2, hgN, _, _, hgG, hgNc, hncs, hrows⟩ := hgr.ex
  have hgn := hf.lt hgG
  have hNn := hf.lt hgNc
  have key : ∃ v h' n', Cl X 47 [.pointer (some ⟨g, 0, none⟩), w] h n (.ret v h' n') ∧ Keep n h h' ∧ n ≤ n' ∧ Fresh h' n' ∧ ∃ lv b, v = .slice (some ⟨b, 0, none⟩) M M ∧ n ≤ b ∧ h'.get b = some (.cells (natsF M lv)) ∧ LvOK M l lv := by
    have gG : ∀ {h' : T Blk}, Keep n h h' → h'.get g = some (.cells [.int .i64 (M : Int), .slice (some ⟨N, 0, none⟩) M M, s]) := fun hk => (hk g hgn).trans hgG
    have gN : ∀ {h' : T Blk}, Keep n h h' → h'.get N = some (.cells ncs) := fun hk => (hk N hNn).trans hgNc
    have l0 : ∀ {h' : T Blk}, Keep n h h' → loadA X h' 3 (.pointer (some ⟨g, 0 + 0, none⟩)) = some (.int .i64 (M : Int)) := fun hk => load1 ty3 rfl (cells_of (gG hk)) rfl
    have l1 : ∀ {h' : T Blk}, Keep n h h' → loadA X h' 93 (.pointer (some ⟨g, 0 + 1, none⟩)) = some (.slice (some ⟨N, 0, none⟩) M M) := fun hk => load1 ty93 rfl (cells_of (gG hk)) rfl
    have ix : ∀ {b k : Nat}, k < M → idxA X 25 (.slice (some ⟨b, 0, none⟩) M M) (.int .i64 (k : Int)) = some (.pointer (some ⟨b, k, none⟩)) := fun hk => idx1 ty25 ty3 rfl hk
    have hrow := hO.row hf
    refine Cl.wl (memoX (by decide)) fn47 rfl rfl rfl rfl ?_
    refine WL.seq (WL.reg ?_)
    refine OL.asg ?_
    refine OL.nil (WL.seq (WL.reg ?_))
    refine OL.mv ?_; refine OL.nc ?_; refine OL.fd f95_0 ?_; refine OL.l3 ?_
    try (refine OL.val (by first | rfl | exact WantL.yes rfl rfl rfl) (D.load rfl rfl (l0 (Keep.refl n h))) rfl rfl ?_)
    refine OL.val (by first | rfl | exact WantL.yes rfl rfl rfl) (D.makeSlice rfl rfl rfl (mkS ty25 ty3 rfl rfl rfl rfl (by omega))) rfl rfl ?_
    refine OL.asg ?_
    refine OL.nil (WL.seq (WL.seq (WL.reg ?_)))
    refine OL.mv ?_
    refine OL.val (by first | rfl | exact WantL.yes rfl rfl rfl) (D.builtinV rfl rfl rfl hrow.len) rfl rfl ?_
    refine OL.mv ?_
    refine OL.nil (WL.block ?_)
    refine WL.loop (k := M) (fun k L h' n' => ∃ (j : Nat) (lv : Nat → Int), j ≤ M ∧ k = M - j ∧ Sub [(17, .int .i64 (j : Int)), (16, .int .i64 ((zs out).length : Int)), (15, w), (5, .slice (some ⟨n, 0, none⟩) M M), (0, .pointer (some ⟨g, 0, none⟩))] L ∧ n' = n + 1 ∧
      Keep n h h' ∧ Fresh h' (n + 1) ∧ h'.get n = some (.cells (natsF M lv)) ∧ LvS (PEo l out j) lv (j : Int)) ?_
      ⟨0, fun _ => 0, Nat.zero_le _, rfl, .cons rfl (.cons rfl (.cons rfl (.cons rfl (.cons rfl .nil)))), rfl, (Keep.refl n h).upd (Nat.le_refl n) _, hf.upd _, by rw [T.get_upd_same, natsF_zero], ⟨fun _ => Int.le_refl _, fun _ => Int.le_refl _, fun x y hxy => by simp [PEo] at hxy, fun k => .inl rfl⟩⟩
    rintro k L h' n' ⟨j, lv, hj, rfl, hs, rfl, hk, hf', hA, hL⟩
    refine WL.keep hs ?_
    refine WL.seq (WL.reg ?_)
    have hzl := zs_len out
    by_cases c1 : (j : Int) < ((zs out).length : Int)
    · refine OL.bT ?_
      refine OL.nil (WL.seq (WL.condT rfl (WL.skip ?_)))
      obtain ⟨a, ha⟩ : ∃ a, out[j]? = some a := ⟨_, List.getElem?_eq_getElem (by omega)⟩
      have haM : a < M := hT.lt a (List.mem_of_getElem? ha)
      obtain ⟨b, hb, hx1, hx2⟩ := hrow.at (zs_at ha)
      refine WL.seq (WL.block (WL.seq (WL.reg ?_)))
      refine OL.val (by first | rfl | exact WantL.yes rfl rfl rfl) (D.index rfl rfl rfl hx1) rfl rfl ?_
      refine OL.val (by first | rfl | exact WantL.yes rfl rfl rfl) (D.load rfl rfl (hx2 _ hk)) rfl rfl ?_
      refine OL.asg ?_
      refine OL.nil (WL.seq (WL.reg ?_))
      obtain ⟨v, hv⟩ : ∃ v, ncs[a]? = some v := ⟨_, List.getElem?_eq_getElem (by omega)⟩
      have hsr : RowAt n h v (succ l a) := by
        rcases hrows.at_ a v hv with h7 | ⟨h7, b, h8, _, h9⟩
        · exact .inl h7
        · exact .inr ⟨h7, b, h8, hf.lt h9, h9⟩
      refine OL.mv ?_; refine OL.nc ?_; refine OL.fd f95_1 ?_
      refine OL.val (by first | rfl | exact WantL.yes rfl rfl rfl) (D.load rfl rfl (l1 hk)) rfl rfl ?_
      refine OL.mv ?_
      refine OL.val (by first | rfl | exact WantL.yes rfl rfl rfl) (D.index rfl rfl rfl (idx1 ty93 ty25 rfl haM)) rfl rfl ?_
      refine OL.val (by first | rfl | exact WantL.yes rfl rfl rfl) (D.load rfl rfl (load1 ty25 rfl (cells_of (gN hk)) hv)) rfl rfl ?_
      refine OL.val (by first | rfl | exact WantL.yes rfl rfl rfl) (D.builtinV rfl rfl rfl hsr.len) rfl rfl ?_
      refine OL.mv ?_
      refine OL.nil (WL.block ?_)
      have hla := hL.hi a
      refine WL.loop (k := (succ l a).length) (fun k L h2 n2 => ∃ (q : Nat) (lv2 : Nat → Int), q ≤ (succ l a).length ∧ k = (succ l a).length - q ∧ Sub [(29, .int .i64 (q : Int)), (28, .int .i64 ((succ l a).length : Int)), (27, v), (7, .int .i64 (a : Int)), (17, .int .i64 (j : Int)), (16, .int .i64 ((zs out).length : Int)), (15, w), (5, .slice (some ⟨n, 0, none⟩) M M), (0, .pointer (some ⟨g, 0, none⟩))] L ∧ n2 = n + 1 ∧
        Keep n h h2 ∧ Fresh h2 (n + 1) ∧ h2.get n = some (.cells (natsF M lv2)) ∧ lv2 a = lv a ∧ LvS (PEi l out j a q) lv2 ((j : Int) + 1)) ?_
        ⟨0, lv, Nat.zero_le _, rfl, .cons rfl (.cons rfl (.cons rfl (.cons rfl (.cons rfl (.cons rfl (.cons rfl (.cons rfl (.cons rfl .nil)))))))), rfl, hk, hf', hA, rfl, hL.congr (pe_zero l out j a) (by omega)⟩
      rintro k L h2 n2 ⟨q, lv2, hq, rfl, hs2, rfl, hk2, hf2, hA2, hlva, hL2⟩
      refine WL.keep hs2 ?_
      refine WL.seq (WL.reg ?_)
      by_cases c2 : (q : Int) < ((succ l a).length : Int)
      · refine OL.bT ?_
        refine OL.nil (WL.seq (WL.condT rfl (WL.skip ?_)))
        obtain ⟨x, hx⟩ : ∃ x, (succ l a)[q]? = some x := ⟨_, List.getElem?_eq_getElem (by omega)⟩
        have hxl := succ_mem (List.mem_of_getElem? hx)
        obtain ⟨g1, g2, g3, g4, g5⟩ := hg.ok _ hxl
        simp only at g1 g2 g3 g4 g5
        obtain ⟨y, rfl⟩ : ∃ y : Nat, x = (y : Int) := ⟨x.toNat, by omega⟩
        have hyM : y < M := by omega
        have hya : y ≠ a := fun e => g5 (by rw [e])
        obtain ⟨b2, hb2, hy1, hy2⟩ := hsr.at hx
        have hrl : (succ l a).length ≤ 400 := by
          have h9 : (succ l a).length ≤ l.length := by unfold succ; rw [List.length_map]; exact List.length_filter_le _ _
          omega
        have hn2a := hL2.nn a
        refine WL.seq (WL.block (WL.seq (WL.reg ?_)))
        refine OL.val (by first | rfl | exact WantL.yes rfl rfl rfl) (D.index rfl rfl rfl hy1) rfl rfl ?_
        refine OL.val (by first | rfl | exact WantL.yes rfl rfl rfl) (D.load rfl rfl (hy2 _ hk2)) rfl rfl ?_
        refine OL.asg ?_
        refine OL.nil (WL.regD (by kernel_rfl) (by kernel_rfl) ?_)
        have hbs : ∀ k, n + 1 ≤ k → BelV k (.slice (some ⟨n, 0, none⟩) M M) := fun k hk => BelV.sl (by omega)
        refine OD.mv ?_; refine OD.mv ?_; refine OD.mv ?_; refine OD.mv ?_
        refine OD.val (by first | rfl | exact WantL.yes rfl rfl rfl) (by repeat' (first | exact trivial | assumption | exact BelV.ptr (by omega) | exact BelV.sl (by omega) | exact BelV.fn1 (by omega) | exact BelV.fn2 (by omega) (by omega) | exact hbs _ (by omega) | exact rfl | refine And.intro (Exists.intro _ (And.intro rfl ?_)) ?_)) (D.index rfl rfl rfl (ix hyM)) rfl rfl ?_
        refine OD.val (by first | rfl | exact WantL.yes rfl rfl rfl) (by repeat' (first | exact trivial | assumption | exact BelV.ptr (by omega) | exact BelV.sl (by omega) | exact BelV.fn1 (by omega) | exact BelV.fn2 (by omega) (by omega) | exact hbs _ (by omega) | exact rfl | refine And.intro (Exists.intro _ (And.intro rfl ?_)) ?_)) (D.load rfl rfl (load1 ty3 rfl (cells_of hA2) (natsF_at hyM))) rfl rfl ?_
        refine OD.mv ?_; refine OD.mv ?_
        refine OD.val (by first | rfl | exact WantL.yes rfl rfl rfl) (by repeat' (first | exact trivial | assumption | exact BelV.ptr (by omega) | exact BelV.sl (by omega) | exact BelV.fn1 (by omega) | exact BelV.fn2 (by omega) (by omega) | exact hbs _ (by omega) | exact rfl | refine And.intro (Exists.intro _ (And.intro rfl ?_)) ?_)) (D.index rfl rfl rfl (ix haM)) rfl rfl ?_
        refine OD.val (by first | rfl | exact WantL.yes rfl rfl rfl) (by repeat' (first | exact trivial | assumption | exact BelV.ptr (by omega) | exact BelV.sl (by omega) | exact BelV.fn1 (by omega) | exact BelV.fn2 (by omega) (by omega) | exact hbs _ (by omega) | exact rfl | refine And.intro (Exists.intro _ (And.intro rfl ?_)) ?_)) (D.load rfl rfl (load1 ty3 rfl (cells_of hA2) (natsF_at haM))) rfl rfl ?_
        refine OD.val (by first | rfl | exact WantL.yes rfl rfl rfl) (by repeat' (first | exact trivial | assumption | exact BelV.ptr (by omega) | exact BelV.sl (by omega) | exact BelV.fn1 (by omega) | exact BelV.fn2 (by omega) (by omega) | exact hbs _ (by omega) | exact rfl | refine And.intro (Exists.intro _ (And.intro rfl ?_)) ?_)) (D.add rfl rfl rfl (by omega)) rfl rfl ?_
        refine OD.val (by first | rfl | exact WantL.yes rfl rfl rfl) (by repeat' (first | exact trivial | assumption | exact BelV.ptr (by omega) | exact BelV.sl (by omega) | exact BelV.fn1 (by omega) | exact BelV.fn2 (by omega) (by omega) | exact hbs _ (by omega) | exact rfl | refine And.intro (Exists.intro _ (And.intro rfl ?_)) ?_)) (D.builtinV rfl rfl rfl max_at) rfl rfl ?_
        refine OD.val (by first | rfl | exact WantL.yes rfl rfl rfl) (by repeat' (first | exact trivial | assumption | exact BelV.ptr (by omega) | exact BelV.sl (by omega) | exact BelV.fn1 (by omega) | exact BelV.fn2 (by omega) (by omega) | exact hbs _ (by omega) | exact rfl | refine And.intro (Exists.intro _ (And.intro rfl ?_)) ?_)) (D.index rfl rfl rfl (ix hyM)) rfl rfl ?_
        refine OD.skip (by first | rfl | exact WantL.yes rfl rfl rfl) (by repeat' (first | exact trivial | assumption | exact BelV.ptr (by omega) | exact BelV.sl (by omega) | exact BelV.fn1 (by omega) | exact BelV.fn2 (by omega) (by omega) | exact hbs _ (by omega) | exact rfl | refine And.intro (Exists.intro _ (And.intro rfl ?_)) ?_)) (D.store rfl rfl rfl (store1 ty3 rfl hA2 rfl (by rw [natsF_len]; exact hyM))) rfl ?_
        refine OD.nil (WL.reg ?_)
        refine OL.val (by first | rfl | exact WantL.yes rfl rfl rfl) (D.addN rfl rfl rfl (by omega)) rfl rfl ?_
        refine OL.mv ?_
        refine OL.nil ⟨(succ l a).length - (q + 1), by omega, q + 1, raise lv2 a y, by omega, rfl, .cons rfl (.cons rfl (.cons rfl (.cons rfl (.cons rfl (.cons rfl (.cons rfl (.cons rfl (.cons rfl .nil)))))))), rfl, hk2.upd (Nat.le_refl n) _, hf2.set (by omega) _, ?_, ?_, hL2.step (a := a) (y := y) (by omega) (pe_no hT ha hxl hya) hya (pe_step hx)⟩
        · rw [T.get_upd_same]
          congr 2
          exact natsF_set hyM fun k => rfl
        · rw [raise_ne (Ne.symm hya)]
          exact hlva
      · refine OL.bF ?_
        refine OL.nil (WL.seq (WL.condF rfl (WL.exit ?_)))
        have hql : q = (succ l a).length := by omega
        subst hql
        refine WL.reg ?_
        refine OL.val (by first | rfl | exact WantL.yes rfl rfl rfl) (D.addN rfl rfl rfl (by omega)) rfl rfl ?_
        refine OL.mv ?_
        exact OL.nil ⟨M - (j + 1), by omega, j + 1, lv2, by omega, rfl, .cons rfl (.cons rfl (.cons rfl (.cons rfl (.cons rfl .nil)))), rfl, hk2, hf2, hA2, hL2.congr (pe_full ha) (by omega)⟩
    · refine OL.bF ?_
      refine OL.nil (WL.seq (WL.condF rfl (WL.exit ?_)))
      have hjM : j = M := by omega
      subst hjM
      refine WL.seq (WL.reg ?_)
      refine OL.mv ?_; refine OL.asg ?_
      exact OL.nil (WL.ret ⟨fun id e => (by cases e), _, rfl, hk, by omega, hf', lv, n, rfl, Nat.le_refl n, hA, lv_end hg hT hol hL⟩)
  exact key

end Go.Sx

/- SzR: Sort, Levels. -/
namespace Go.Sx
open Go.Proofs
set_option maxRecDepth 100000
set_option maxHeartbeats 2000000

theorem fn11 : X.fn.get 11 = some Tryz.f11 := by kernel_rfl
theorem fn18 : X.fn.get 18 = some Tryz.f18 := by kernel_rfl

theorem OutAt.low {lo lo' : Nat} {h : T Blk} {v : Value} {out : List Nat} (o : OutAt lo h v out) (hl : lo' ≤ lo) : OutAt lo' h v out := by
  rcases o with h1 | ⟨h1, b, h2, h3, h4⟩
  · exact .inl h1
  · exact .inr ⟨h1, b, h2, by omega, h4⟩

def SortV (M : Nat) (l : List (Int × Int)) (lo : Nat) (h' : T Blk) (v : Value) : Prop :=
  ∃ w, (v = .tuple #[w, .int .i64 0] ∧ ∃ out, OutAt lo h' w out ∧ Topo M l out ∧ out.length = M) ∨ (v = .tuple #[w, .int .i64 151] ∧ Stuck M l)

theorem sort_cl (M : Nat) (s : Value) (l : List (Int × Int)) (h : T Blk) (n : Nat) (hf : Fresh h n) (he : Edges h s l) (hbs : ∀ k, n ≤ k → BelV k s) (hM : M ≤ 400) (hlen : l.length ≤ 400) (hg : GoodG (M : Int) l) :
    Gives 11 [.int .i64 (M : Int), s] h n fun v h' _ => SortV M l n h' v := by
  have key : ∃ v h' n', Cl X 11 [.int .i64 (M : Int), s] h n (.ret v h' n') ∧ Keep n h h' ∧ n ≤ n' ∧ Fresh h' n' ∧ SortV M l n h' v := by
    obtain ⟨v1, h1, n1, hc1, hk1, hn1, hf1, p, rfl, hgr⟩ := graphOf_cl M s l h n hf he hbs hlen hM hg
    obtain ⟨v2, h2, n2, hc2, hk2, hn2, hf2, w, ok, rfl, hok1, hok2⟩ := sorted_cl M s l h1 n1 n p hf1 hgr (he.keep hf hk1) hM hlen hg
    refine Cl.wl (memoX (by decide)) fn11 rfl rfl rfl rfl ?_
    refine WL.seq (WL.reg ?_)
    refine OL.asg ?_; refine OL.asg ?_
    refine OL.nil (WL.seq (WL.reg ?_))
    refine OL.mv ?_; refine OL.mv ?_
    refine OL.call (by first | rfl | exact WantL.yes rfl rfl rfl) (D.callF rfl rfl rfl fn40) hc1 rfl rfl ?_
    refine OL.mv ?_; refine OL.ext ?_; refine OL.ext ?_; refine OL.asg ?_; refine OL.asg ?_
    refine OL.nil (WL.seq (WL.seq (WL.reg ?_)))
    refine OL.mv ?_; refine OL.nF ?_
    refine OL.nil (WL.condF rfl (WL.skip ?_))
    refine WL.seq (WL.reg ?_)
    refine OL.mv ?_
    refine OL.call (by first | rfl | exact WantL.yes rfl rfl rfl) (D.callF rfl rfl rfl fn41) hc2 rfl rfl ?_
    refine OL.mv ?_; refine OL.ext ?_; refine OL.ext ?_; refine OL.asg ?_; refine OL.asg ?_
    refine OL.nil (WL.seq (WL.seq (WL.reg ?_)))
    cases ok with
    | true =>
      obtain ⟨out, ho1, ho2, ho3⟩ := hok1 rfl
      refine OL.mv ?_; refine OL.un ?_
      refine OL.nil (WL.condF rfl (WL.skip ?_))
      refine WL.seq (WL.reg ?_)
      refine OL.mv ?_; refine OL.asg ?_; refine OL.asg ?_
      exact OL.nil (WL.ret ⟨fun id e => (by cases e), _, rfl, hk1.trans hn1 hk2, by omega, hf2, w, .inl ⟨rfl, out, ho1.low hn1, ho2, ho3⟩⟩)
    | false =>
      refine OL.mv ?_; refine OL.un ?_
      refine OL.nil (WL.condT rfl (WL.seq (WL.reg ?_)))
      refine OL.asg ?_; refine OL.asg ?_
      exact OL.nil (WL.ret ⟨fun id e => (by cases e), _, rfl, hk1.trans hn1 hk2, by omega, hf2, _, .inr ⟨rfl, hok2 rfl⟩⟩)
  exact key

def LevelsV (M : Nat) (l : List (Int × Int)) (lo : Nat) (h' : T Blk) (v : Value) : Prop :=
  (∃ lv b, v = .tuple #[.slice (some ⟨b, 0, none⟩) M M, .int .i64 0] ∧ lo ≤ b ∧ h'.get b = some (.cells (natsF M lv)) ∧ LvOK M l lv) ∨ ∃ w, v = .tuple #[w, .int .i64 151] ∧ Stuck M l

theorem Levels_cl (M : Nat) (s : Value) (l : List (Int × Int)) (h : T Blk) (n : Nat) (hf : Fresh h n) (he : Edges h s l) (hbs : ∀ k, n ≤ k → BelV k s) (hM : M ≤ 400) (hlen : l.length ≤ 400) (hg : GoodG (M : Int) l) :
    Gives 18 [.int .i64 (M : Int), s] h n fun v h' _ => LevelsV M l n h' v := by
  have key : ∃ v h' n', Cl X 18 [.int .i64 (M : Int), s] h n (.ret v h' n') ∧ Keep n h h' ∧ n ≤ n' ∧ Fresh h' n' ∧ LevelsV M l n h' v := by
    obtain ⟨v1, h1, n1, hc1, hk1, hn1, hf1, w, hsv⟩ := sort_cl M s l h n hf he hbs hM hlen hg
    refine Cl.wl (memoX (by decide)) fn18 rfl rfl rfl rfl ?_
    refine WL.seq (WL.reg ?_)
    refine OL.asg ?_; refine OL.asg ?_
    refine OL.nil (WL.seq (WL.reg ?_))
    refine OL.mv ?_; refine OL.mv ?_
    refine OL.call (by first | rfl | exact WantL.yes rfl rfl rfl) (D.callF rfl rfl rfl fn11) hc1 rfl rfl ?_
    rcases hsv with ⟨rfl, out, ho1, ho2, ho3⟩ | ⟨rfl, hst⟩
    · refine OL.mv ?_; refine OL.ext ?_; refine OL.ext ?_; refine OL.asg ?_; refine OL.asg ?_
      refine OL.nil (WL.seq (WL.seq (WL.reg ?_)))
      refine OL.mv ?_; refine OL.nF ?_
      refine OL.nil (WL.condF rfl (WL.skip ?_))
      obtain ⟨v2, h2, n2, hc2, hk2, hn2, hf2, p, rfl, hgr⟩ := graphOf_cl M s l h1 n1 hf1 (he.keep hf hk1) (fun k hk => hbs k (by omega)) hlen hM hg
      obtain ⟨v3, h3, n3, hc3, hk3, hn3, hf3, lv, b, rfl, hb1, hb2, hb3⟩ := levels_cl M s l h2 n2 n1 n p w out hf2 hgr (ho1.keep hf1 hk2) ho2 ho3 hM hlen hg
      refine WL.seq (WL.reg ?_)
      refine OL.mv ?_; refine OL.mv ?_
      refine OL.call (by first | rfl | exact WantL.yes rfl rfl rfl) (D.callF rfl rfl rfl fn40) hc2 rfl rfl ?_
      refine OL.mv ?_; refine OL.ext ?_; refine OL.ext ?_; refine OL.asg ?_; refine OL.asg ?_
      refine OL.nil (WL.seq (WL.reg ?_))
      refine OL.mv ?_; refine OL.mv ?_
      refine OL.call (by first | rfl | exact WantL.yes rfl rfl rfl) (D.callF rfl rfl rfl fn47) hc3 rfl rfl ?_
      refine OL.asg ?_; refine OL.asg ?_
      exact OL.nil (WL.ret ⟨fun id e => (by cases e), _, rfl, (hk1.trans hn1 hk2).trans (by omega) hk3, by omega, hf3, .inl ⟨lv, b, rfl, by omega, hb2, hb3⟩⟩)
    · refine OL.mv ?_; refine OL.ext ?_; refine OL.ext ?_; refine OL.asg ?_; refine OL.asg ?_
      refine OL.nil (WL.seq (WL.seq (WL.reg ?_)))
      refine OL.mv ?_; refine OL.nT ?_
      refine OL.nil (WL.condT rfl (WL.seq (WL.reg ?_)))
      refine OL.mv ?_; refine OL.asg ?_; refine OL.asg ?_
      exact OL.nil (WL.ret ⟨fun id e => (by cases e), _, rfl, hk1, hn1, hf1, .inr ⟨_, rfl, hst⟩⟩)
  exact key

end Go.Sx

/- SzS: the law OrderLeveled. -/
namespace Go.Sx
open Go.Proofs
set_option maxRecDepth 100000
set_option maxHeartbeats 2000000

theorem fn7 : X.fn.get 7 = some Tryz.f7 := by kernel_rfl
theorem fn9 : X.fn.get 9 = some Tryz.f9 := by kernel_rfl
theorem xmemo9 : X.memo.get 9 = some L9 := by kernel_rfl
theorem xgro : X.gro = gro0 := rfl

theorem memo9 {h : T Blk} (hg : groOK h gro0 = true) : memoA X 9 [] h = some (.bool true) := by
  unfold memoA
  rw [xmemo9, xgro, hg]
  rfl

/- An item is covered by an edge of just one level less. -/
def covF (lv : Nat → Int) (l : List (Int × Int)) (k : Nat) : Bool := l.any fun e => decide (e.2 = (k : Int)) && decide (lv e.1.toNat = lv k - 1)

theorem covF_take {lv : Nat → Int} {l : List (Int × Int)} {i x y : Nat} (hi : l[i]? = some ((x : Int), (y : Int))) (k : Nat) :
    covF lv (l.take (i + 1)) k = if k = y then (covF lv (l.take i) y || decide (lv x = lv y - 1)) else covF lv (l.take i) k := by
  unfold covF
  rw [List.take_add_one, hi]
  simp only [Option.toList_some, List.any_append, List.any_cons, List.any_nil, Bool.or_false, Int.toNat_natCast]
  by_cases hk : k = y
  · subst hk; simp
  · rw [if_neg hk]
    have : ((y : Int) = (k : Int)) ↔ False := ⟨fun e => hk (by omega), False.elim⟩
    simp only [this, decide_false, Bool.false_and, Bool.or_false]

theorem covF_all {M : Nat} {l : List (Int × Int)} {lv : Nat → Int} (hL : LvOK M l lv) (k : Nat) : covF lv l k = decide (0 < lv k) := by
  unfold covF
  rw [Bool.eq_iff_iff, List.any_eq_true, decide_eq_true_eq]
  constructor
  · rintro ⟨⟨e1, e2⟩, he, hd⟩
    simp only [Bool.and_eq_true, decide_eq_true_eq] at hd
    have := hL.nn e1.toNat
    omega
  · intro h0
    rcases hL.cov k with h1 | ⟨x, h1, h2⟩
    · omega
    · refine ⟨_, h1, ?_⟩
      simp only [decide_true, Bool.true_and, Int.toNat_natCast, decide_eq_true_eq]
      omega

theorem leveled_cl (m : Int) (s : Value) (l : List (Int × Int)) (h : T Blk) (n : Nat) (hf : Fresh h n) (he : Edges h s l) (_ : rowA h 2 l.length s = some (eCs l)) (hbs : ∀ k, n ≤ k → BelV k s) (hgro : groOK h gro0 = true) (_ : 1 ≤ n) :
    Gives 7 [.int .i64 m, s] h n fun v _ _ => v = .bool true := by
  have key : ∃ v h' n', Cl X 7 [.int .i64 m, s] h n (.ret v h' n') ∧ Keep n h h' ∧ n ≤ n' ∧ Fresh h' n' ∧ v = .bool true := by
    obtain ⟨v1, h1, n1, hc1, hk1, hn1, hf1, bv, rfl, hval⟩ := valid_cl m s l h n hf he hbs
    refine Cl.wl (memoX (by decide)) fn7 rfl rfl rfl rfl ?_
    refine WL.seq (WL.reg ?_)
    refine OL.asg ?_
    refine OL.nil (WL.seq (WL.seq (WL.reg ?_)))
    refine OL.call (by first | rfl | exact WantL.yes rfl rfl rfl) (D.callF rfl rfl rfl fn9) (Cl.memo (memo9 hgro)) rfl rfl ?_
    refine OL.un ?_
    refine OL.nil (WL.condF rfl (WL.skip ?_))
    refine WL.seq (WL.seq (WL.reg ?_))
    refine OL.mv ?_; refine OL.mv ?_
    refine OL.call (by first | rfl | exact WantL.yes rfl rfl rfl) (D.callF rfl rfl rfl fn25) hc1 rfl rfl ?_
    cases bv with
    | false =>
      refine OL.un ?_
      refine OL.nil (WL.condT rfl (WL.seq (WL.reg ?_)))
      refine OL.asg ?_
      exact OL.nil (WL.ret ⟨fun id e => (by cases e), _, rfl, hk1, hn1, hf1, rfl⟩)
    | true =>
    obtain ⟨M, rfl, hM, hlen, hg⟩ := hval rfl
    have he1 := he.keep hf hk1
    obtain ⟨v2, h2, n2, hc2, hk2, hn2, hf2, hlvv⟩ := Levels_cl M s l h1 n1 hf1 he1 (fun k hk => hbs k (by omega)) (by omega) hlen hg
    have he2 := he1.keep hf1 hk2
    refine OL.un ?_
    refine OL.nil (WL.condF rfl (WL.skip ?_))
    refine WL.seq (WL.reg ?_)
    refine OL.mv ?_; refine OL.mv ?_
    refine OL.call (by first | rfl | exact WantL.yes rfl rfl rfl) (D.callF rfl rfl rfl fn18) hc2 rfl rfl ?_
    rcases hlvv with ⟨lv, b, rfl, hb1, hb2, hL⟩ | ⟨w, rfl, hst⟩
    · refine OL.mv ?_; refine OL.ext ?_; refine OL.ext ?_; refine OL.asg ?_; refine OL.asg ?_
      refine OL.nil (WL.seq (WL.seq (WL.reg ?_)))
      refine OL.mv ?_; refine OL.nF ?_
      refine OL.nil (WL.condF rfl (WL.skip ?_))
      refine WL.seq (WL.seq (WL.reg ?_))
      refine OL.mv ?_
      refine OL.val (by first | rfl | exact WantL.yes rfl rfl rfl) (D.builtinV rfl rfl rfl (lenA_slice ty25)) rfl rfl ?_
      refine OL.mv ?_; refine OL.nF ?_
      refine OL.nil (WL.condF rfl (WL.skip ?_))
      refine WL.seq (WL.reg ?_)
      refine OL.mv ?_
      refine OL.val (by first | rfl | exact WantL.yes rfl rfl rfl) (D.makeSlice rfl rfl rfl (mkS ty38 ty4 rfl rfl rfl rfl (by omega))) rfl rfl ?_
      refine OL.asg ?_
      have hbn := hf2.lt hb2
      have hk02 := hk1.trans hn1 hk2
      have ix : ∀ {b k : Nat}, k < M → idxA X 25 (.slice (some ⟨b, 0, none⟩) M M) (.int .i64 (k : Int)) = some (.pointer (some ⟨b, k, none⟩)) := fun hk => idx1 ty25 ty3 rfl hk
      have jx : ∀ {b k : Nat}, k < M → idxA X 38 (.slice (some ⟨b, 0, none⟩) M M) (.int .i64 (k : Int)) = some (.pointer (some ⟨b, k, none⟩)) := fun hk => idx1 ty38 ty4 rfl hk
      refine OL.nil (WL.seq (WL.seq (WL.reg ?_)))
      refine OL.mv ?_
      refine OL.val (by first | rfl | exact WantL.yes rfl rfl rfl) (D.builtinV rfl rfl rfl he.len) rfl rfl ?_
      refine OL.mv ?_
      refine OL.nil (WL.block ?_)
      refine WL.loop (k := l.length) (fun k L h3 n3 => ∃ i : Nat, i ≤ l.length ∧ k = l.length - i ∧ Sub [(48, .int .i64 (i : Int)), (47, .int .i64 (l.length : Int)), (46, s), (9, .slice (some ⟨n2, 0, none⟩) M M), (5, .slice (some ⟨b, 0, none⟩) M M)] L ∧
        Keep n2 h2 h3 ∧ n2 + 1 ≤ n3 ∧ Fresh h3 n3 ∧ h3.get n2 = some (.cells (boolsF M (covF lv (l.take i))))) ?_
        ⟨0, Nat.zero_le _, rfl, .cons rfl (.cons rfl (.cons rfl (.cons rfl (.cons rfl .nil)))), (Keep.refl n2 h2).upd (Nat.le_refl n2) _, Nat.le_refl _, hf2.upd _, by rw [T.get_upd_same, boolsF_zero]; rfl⟩
      rintro k L h3 n3 ⟨i, hi, rfl, hs, hk3, hn3, hf3, hA3⟩
      refine WL.keep hs ?_
      refine WL.seq (WL.reg ?_)
      by_cases c1 : (i : Int) < (l.length : Int)
      · refine OL.bT ?_
        refine OL.nil (WL.seq (WL.condT rfl (WL.skip ?_)))
        obtain ⟨⟨e1, e2⟩, hie⟩ : ∃ e, l[i]? = some e := ⟨l[i], List.getElem?_eq_getElem (by omega)⟩
        obtain ⟨g1, g2, g3, g4, g5⟩ := hg.ok (e1, e2) (List.mem_of_getElem? hie)
        simp only at g1 g2 g3 g4 g5
        obtain ⟨x, rfl⟩ : ∃ x : Nat, e1 = (x : Int) := ⟨e1.toNat, by omega⟩
        obtain ⟨y, rfl⟩ : ∃ y : Nat, e2 = (y : Int) := ⟨e2.toNat, by omega⟩
        have hxM : x < M := by omega
        have hyM : y < M := by omega
        obtain ⟨eb, o, hx1, hx2, hx3⟩ := (he2.keep hf2 hk3).at hie
        refine WL.seq (WL.block (WL.seq (WL.reg ?_)))
        refine OL.val (by first | rfl | exact WantL.yes rfl rfl rfl) (D.index rfl rfl rfl hx1) rfl rfl ?_
        refine OL.val (by first | rfl | exact WantL.yes rfl rfl rfl) (D.load rfl rfl hx2) rfl rfl ?_
        refine OL.al ty35 ?_
        refine OL.skip rfl (D.store rfl rfl rfl (store2 (T.get_upd_same _ _ _) rfl rfl)) rfl ?_
        refine OL.nil ?_
        have hfa := (hf3.upd (some (.cells tPair.zero))).set (Nat.lt_succ_self n3) (some (.cells [.int .i64 (x : Int), .int .i64 (y : Int)]))
        have hka := ((Keep.refl n3 h3).upd (Nat.le_refl n3) (some (.cells tPair.zero))).upd (Nat.le_refl n3) (some (.cells [.int .i64 (x : Int), .int .i64 (y : Int)]))
        have hga : (T.upd (some (Blk.cells [.int .i64 (x : Int), .int .i64 (y : Int)])) (h3.upd (some (.cells tPair.zero)) n3) n3).get n3 = some (.cells [.int .i64 (x : Int), .int .i64 (y : Int)]) := T.get_upd_same _ _ _
        generalize T.upd (some (Blk.cells [.int .i64 (x : Int), .int .i64 (y : Int)])) (h3.upd (some (.cells tPair.zero)) n3) n3 = ha at hfa hka hga ⊢
        have hAa : ha.get n2 = some (.cells (boolsF M (covF lv (l.take i)))) := (hka n2 (by omega)).trans hA3
        have hBa : ha.get b = some (.cells (natsF M lv)) := (hka b (by omega)).trans ((hk3 b hbn).trans hb2)
        have hbs' : ∀ k, n3 + 1 ≤ k → BelV k (.slice (some ⟨n2, 0, none⟩) M M) := fun k hk => BelV.sl (by omega)
        have hbs : ∀ k, n3 + 1 ≤ k → BelV k (.slice (some ⟨b, 0, none⟩) M M) := fun k hk => BelV.sl (by omega)
        have hup := hL.up x y (List.mem_of_getElem? hie)
        have hlx := hL.nn x
        have hly := hL.nn y
        have hhy := hL.hi y
        refine WL.seq (WL.seq (WL.regD (by kernel_rfl) (by kernel_rfl) ?_))
        refine OD.mv ?_; refine OD.ix idx_pair0 ?_; refine OD.l3 ?_
        refine OD.val (by first | rfl | exact WantL.yes rfl rfl rfl) (by repeat' (first | exact trivial | assumption | exact BelV.ptr (by omega) | exact BelV.sl (by omega) | exact BelV.fn1 (by omega) | exact BelV.fn2 (by omega) (by omega) | exact hbs _ (by omega) | exact rfl | refine And.intro (Exists.intro _ (And.intro rfl ?_)) ?_)) (D.index rfl rfl rfl (ix hxM)) rfl rfl ?_
        refine OD.val (by first | rfl | exact WantL.yes rfl rfl rfl) (by repeat' (first | exact trivial | assumption | exact BelV.ptr (by omega) | exact BelV.sl (by omega) | exact BelV.fn1 (by omega) | exact BelV.fn2 (by omega) (by omega) | exact hbs _ (by omega) | exact rfl | refine And.intro (Exists.intro _ (And.intro rfl ?_)) ?_)) (D.load rfl rfl (load1 ty3 rfl (cells_of hBa) (natsF_at hxM))) rfl rfl ?_
        refine OD.mv ?_; refine OD.ix idx_pair1 ?_; refine OD.l3 ?_
        refine OD.val (by first | rfl | exact WantL.yes rfl rfl rfl) (by repeat' (first | exact trivial | assumption | exact BelV.ptr (by omega) | exact BelV.sl (by omega) | exact BelV.fn1 (by omega) | exact BelV.fn2 (by omega) (by omega) | exact hbs _ (by omega) | exact rfl | refine And.intro (Exists.intro _ (And.intro rfl ?_)) ?_)) (D.index rfl rfl rfl (ix hyM)) rfl rfl ?_
        refine OD.val (by first | rfl | exact WantL.yes rfl rfl rfl) (by repeat' (first | exact trivial | assumption | exact BelV.ptr (by omega) | exact BelV.sl (by omega) | exact BelV.fn1 (by omega) | exact BelV.fn2 (by omega) (by omega) | exact hbs _ (by omega) | exact rfl | refine And.intro (Exists.intro _ (And.intro rfl ?_)) ?_)) (D.load rfl rfl (load1 ty3 rfl (cells_of hBa) (natsF_at hyM))) rfl rfl ?_
        refine OD.bF ?_
        refine OD.nil (WL.condF rfl (WL.skip ?_))
        refine WL.regD (by kernel_rfl) (by kernel_rfl) ?_
        cases hcv : covF lv (l.take i) y with
        | true =>
          have hld : (boolsF M (covF lv (l.take i)))[y]? = some (.bool true) := by rw [boolsF_at hyM, hcv]
          refine OD.mv ?_; refine OD.ix idx_pair1 ?_; refine OD.l3 ?_; refine OD.mv ?_; refine OD.ix idx_pair1 ?_; refine OD.l3 ?_
          refine OD.val (by first | rfl | exact WantL.yes rfl rfl rfl) (by repeat' (first | exact trivial | assumption | exact BelV.ptr (by omega) | exact BelV.sl (by omega) | exact BelV.fn1 (by omega) | exact BelV.fn2 (by omega) (by omega) | exact hbs _ (by omega) | exact rfl | refine And.intro (Exists.intro _ (And.intro rfl ?_)) ?_)) (D.index rfl rfl rfl (jx hyM)) rfl rfl ?_
          refine OD.val (by first | rfl | exact WantL.yes rfl rfl rfl) (by repeat' (first | exact trivial | assumption | exact BelV.ptr (by omega) | exact BelV.sl (by omega) | exact BelV.fn1 (by omega) | exact BelV.fn2 (by omega) (by omega) | exact hbs _ (by omega) | exact rfl | refine And.intro (Exists.intro _ (And.intro rfl ?_)) ?_)) (D.load rfl rfl (load1 ty4 rfl (cells_of hAa) hld)) rfl rfl ?_
          refine OD.mv ?_; refine OD.ps ?_; refine OD.ps ?_; refine OD.ps ?_; refine OD.ps ?_; refine OD.ps ?_; refine OD.ps ?_; refine OD.ps ?_; refine OD.ps ?_; refine OD.ps ?_; refine OD.ps ?_; refine OD.ps ?_; refine OD.ps ?_; refine OD.pT ?_
          refine OD.val (by first | rfl | exact WantL.yes rfl rfl rfl) (by repeat' (first | exact trivial | assumption | exact BelV.ptr (by omega) | exact BelV.sl (by omega) | exact BelV.fn1 (by omega) | exact BelV.fn2 (by omega) (by omega) | exact hbs _ (by omega) | exact rfl | refine And.intro (Exists.intro _ (And.intro rfl ?_)) ?_)) (D.index rfl rfl rfl (jx hyM)) rfl rfl ?_
          refine OD.skip (by first | rfl | exact WantL.yes rfl rfl rfl) (by repeat' (first | exact trivial | assumption | exact BelV.ptr (by omega) | exact BelV.sl (by omega) | exact BelV.fn1 (by omega) | exact BelV.fn2 (by omega) (by omega) | exact hbs _ (by omega) | exact rfl | refine And.intro (Exists.intro _ (And.intro rfl ?_)) ?_)) (D.store rfl rfl rfl (store1 ty4 rfl hAa rfl (by rw [boolsF_len]; exact hyM))) rfl ?_
          refine OD.nil (WL.reg ?_)
          refine OL.val (by first | rfl | exact WantL.yes rfl rfl rfl) (D.addN rfl rfl rfl (by omega)) rfl rfl ?_
          refine OL.mv ?_
          refine OL.nil ⟨l.length - (i + 1), by omega, i + 1, by omega, rfl, .cons rfl (.cons rfl (.cons rfl (.cons rfl (.cons rfl .nil)))), fun q hq => ?_, by omega, hfa.set (by omega) _, ?_⟩
          · rw [T.get_upd_ne _ _ (by omega), hka q (by omega)]; exact hk3 q hq
          · rw [T.get_upd_same]
            congr 2
            refine boolsF_set hyM fun j => ?_
            rw [covF_take hie, hcv]
            by_cases hj : j = y
            · rw [if_pos hj, if_pos hj]; rfl
            · rw [if_neg hj, if_neg hj]
        | false =>
          have hld : (boolsF M (covF lv (l.take i)))[y]? = some (.bool false) := by rw [boolsF_at hyM, hcv]
          refine OD.mv ?_; refine OD.ix idx_pair1 ?_; refine OD.l3 ?_; refine OD.mv ?_; refine OD.ix idx_pair1 ?_; refine OD.l3 ?_
          refine OD.val (by first | rfl | exact WantL.yes rfl rfl rfl) (by repeat' (first | exact trivial | assumption | exact BelV.ptr (by omega) | exact BelV.sl (by omega) | exact BelV.fn1 (by omega) | exact BelV.fn2 (by omega) (by omega) | exact hbs _ (by omega) | exact rfl | refine And.intro (Exists.intro _ (And.intro rfl ?_)) ?_)) (D.index rfl rfl rfl (jx hyM)) rfl rfl ?_
          refine OD.val (by first | rfl | exact WantL.yes rfl rfl rfl) (by repeat' (first | exact trivial | assumption | exact BelV.ptr (by omega) | exact BelV.sl (by omega) | exact BelV.fn1 (by omega) | exact BelV.fn2 (by omega) (by omega) | exact hbs _ (by omega) | exact rfl | refine And.intro (Exists.intro _ (And.intro rfl ?_)) ?_)) (D.load rfl rfl (load1 ty4 rfl (cells_of hAa) hld)) rfl rfl ?_
          refine OD.mv ?_; refine OD.mv ?_; refine OD.ix idx_pair0 ?_; refine OD.l3 ?_
          refine OD.val (by first | rfl | exact WantL.yes rfl rfl rfl) (by repeat' (first | exact trivial | assumption | exact BelV.ptr (by omega) | exact BelV.sl (by omega) | exact BelV.fn1 (by omega) | exact BelV.fn2 (by omega) (by omega) | exact hbs _ (by omega) | exact rfl | refine And.intro (Exists.intro _ (And.intro rfl ?_)) ?_)) (D.index rfl rfl rfl (ix hxM)) rfl rfl ?_
          refine OD.val (by first | rfl | exact WantL.yes rfl rfl rfl) (by repeat' (first | exact trivial | assumption | exact BelV.ptr (by omega) | exact BelV.sl (by omega) | exact BelV.fn1 (by omega) | exact BelV.fn2 (by omega) (by omega) | exact hbs _ (by omega) | exact rfl | refine And.intro (Exists.intro _ (And.intro rfl ?_)) ?_)) (D.load rfl rfl (load1 ty3 rfl (cells_of hBa) (natsF_at hxM))) rfl rfl ?_
          refine OD.mv ?_; refine OD.ix idx_pair1 ?_; refine OD.l3 ?_
          refine OD.val (by first | rfl | exact WantL.yes rfl rfl rfl) (by repeat' (first | exact trivial | assumption | exact BelV.ptr (by omega) | exact BelV.sl (by omega) | exact BelV.fn1 (by omega) | exact BelV.fn2 (by omega) (by omega) | exact hbs _ (by omega) | exact rfl | refine And.intro (Exists.intro _ (And.intro rfl ?_)) ?_)) (D.index rfl rfl rfl (ix hyM)) rfl rfl ?_
          refine OD.val (by first | rfl | exact WantL.yes rfl rfl rfl) (by repeat' (first | exact trivial | assumption | exact BelV.ptr (by omega) | exact BelV.sl (by omega) | exact BelV.fn1 (by omega) | exact BelV.fn2 (by omega) (by omega) | exact hbs _ (by omega) | exact rfl | refine And.intro (Exists.intro _ (And.intro rfl ?_)) ?_)) (D.load rfl rfl (load1 ty3 rfl (cells_of hBa) (natsF_at hyM))) rfl rfl ?_
          refine OD.val (by first | rfl | exact WantL.yes rfl rfl rfl) (by repeat' (first | exact trivial | assumption | exact BelV.ptr (by omega) | exact BelV.sl (by omega) | exact BelV.fn1 (by omega) | exact BelV.fn2 (by omega) (by omega) | exact hbs _ (by omega) | exact rfl | refine And.intro (Exists.intro _ (And.intro rfl ?_)) ?_)) (D.sub rfl rfl rfl (by omega)) rfl rfl ?_
          by_cases hxy : lv x = lv y - 1
          · refine OD.bT ?_; refine OD.pF ?_
            refine OD.val (by first | rfl | exact WantL.yes rfl rfl rfl) (by repeat' (first | exact trivial | assumption | exact BelV.ptr (by omega) | exact BelV.sl (by omega) | exact BelV.fn1 (by omega) | exact BelV.fn2 (by omega) (by omega) | exact hbs _ (by omega) | exact rfl | refine And.intro (Exists.intro _ (And.intro rfl ?_)) ?_)) (D.index rfl rfl rfl (jx hyM)) rfl rfl ?_
            refine OD.skip (by first | rfl | exact WantL.yes rfl rfl rfl) (by repeat' (first | exact trivial | assumption | exact BelV.ptr (by omega) | exact BelV.sl (by omega) | exact BelV.fn1 (by omega) | exact BelV.fn2 (by omega) (by omega) | exact hbs _ (by omega) | exact rfl | refine And.intro (Exists.intro _ (And.intro rfl ?_)) ?_)) (D.store rfl rfl rfl (store1 ty4 rfl hAa rfl (by rw [boolsF_len]; exact hyM))) rfl ?_
            refine OD.nil (WL.reg ?_)
            refine OL.val (by first | rfl | exact WantL.yes rfl rfl rfl) (D.addN rfl rfl rfl (by omega)) rfl rfl ?_
            refine OL.mv ?_
            refine OL.nil ⟨l.length - (i + 1), by omega, i + 1, by omega, rfl, .cons rfl (.cons rfl (.cons rfl (.cons rfl (.cons rfl .nil)))), fun q hq => ?_, by omega, hfa.set (by omega) _, ?_⟩
            · rw [T.get_upd_ne _ _ (by omega), hka q (by omega)]; exact hk3 q hq
            · rw [T.get_upd_same]
              congr 2
              refine boolsF_set hyM fun j => ?_
              rw [covF_take hie, hcv, decide_eq_true hxy]
              by_cases hj : j = y
              · rw [if_pos hj, if_pos hj]; rfl
              · rw [if_neg hj, if_neg hj]
          · refine OD.bF ?_; refine OD.pF ?_
            refine OD.val (by first | rfl | exact WantL.yes rfl rfl rfl) (by repeat' (first | exact trivial | assumption | exact BelV.ptr (by omega) | exact BelV.sl (by omega) | exact BelV.fn1 (by omega) | exact BelV.fn2 (by omega) (by omega) | exact hbs _ (by omega) | exact rfl | refine And.intro (Exists.intro _ (And.intro rfl ?_)) ?_)) (D.index rfl rfl rfl (jx hyM)) rfl rfl ?_
            refine OD.skip (by first | rfl | exact WantL.yes rfl rfl rfl) (by repeat' (first | exact trivial | assumption | exact BelV.ptr (by omega) | exact BelV.sl (by omega) | exact BelV.fn1 (by omega) | exact BelV.fn2 (by omega) (by omega) | exact hbs _ (by omega) | exact rfl | refine And.intro (Exists.intro _ (And.intro rfl ?_)) ?_)) (D.store rfl rfl rfl (store1 ty4 rfl hAa rfl (by rw [boolsF_len]; exact hyM))) rfl ?_
            refine OD.nil (WL.reg ?_)
            refine OL.val (by first | rfl | exact WantL.yes rfl rfl rfl) (D.addN rfl rfl rfl (by omega)) rfl rfl ?_
            refine OL.mv ?_
            refine OL.nil ⟨l.length - (i + 1), by omega, i + 1, by omega, rfl, .cons rfl (.cons rfl (.cons rfl (.cons rfl (.cons rfl .nil)))), fun q hq => ?_, by omega, hfa.set (by omega) _, ?_⟩
            · rw [T.get_upd_ne _ _ (by omega), hka q (by omega)]; exact hk3 q hq
            · rw [T.get_upd_same]
              congr 2
              refine boolsF_set hyM fun j => ?_
              rw [covF_take hie, hcv, decide_eq_false hxy]
              by_cases hj : j = y
              · rw [if_pos hj, if_pos hj]; rfl
              · rw [if_neg hj, if_neg hj]
      · refine OL.bF ?_
        refine OL.nil (WL.seq (WL.condF rfl (WL.exit ?_)))
        have hi' : i = l.length := by omega
        subst hi'
        rw [List.take_length] at hA3
        refine WL.seq (WL.seq (WL.reg ?_))
        refine OL.mv ?_
        refine OL.val (by first | rfl | exact WantL.yes rfl rfl rfl) (D.builtinV rfl rfl rfl (lenA_slice ty25)) rfl rfl ?_
        refine OL.mv ?_
        refine OL.nil (WL.block ?_)
        have hB3 : h3.get b = some (.cells (natsF M lv)) := (hk3 b hbn).trans hb2
        refine WL.loop (k := M) (fun k L h4 n4 => ∃ i : Nat, i ≤ M ∧ k = M - i ∧ Sub [(89, .int .i64 (i : Int)), (88, .int .i64 (M : Int)), (87, .slice (some ⟨b, 0, none⟩) M M), (9, .slice (some ⟨n2, 0, none⟩) M M)] L ∧ h3 = h4 ∧ n3 = n4) ?_
          ⟨0, Nat.zero_le _, rfl, .cons rfl (.cons rfl (.cons rfl (.cons rfl .nil))), rfl, rfl⟩
        rintro k L h4 n4 ⟨i, hi, rfl, hs4, rfl, rfl⟩
        refine WL.keep hs4 ?_
        refine WL.seq (WL.reg ?_)
        by_cases c2 : (i : Int) < (M : Int)
        · refine OL.bT ?_
          refine OL.nil (WL.seq (WL.condT rfl (WL.skip ?_)))
          have hiM : i < M := by omega
          have hli := hL.nn i
          refine WL.seq (WL.block (WL.seq (WL.reg ?_)))
          refine OL.mv ?_
          refine OL.val (by first | rfl | exact WantL.yes rfl rfl rfl) (D.index rfl rfl rfl (ix hiM)) rfl rfl ?_
          refine OL.val (by first | rfl | exact WantL.yes rfl rfl rfl) (D.load rfl rfl (load1 ty3 rfl (cells_of hB3) (natsF_at hiM))) rfl rfl ?_
          refine OL.asg ?_; refine OL.asg ?_
          refine OL.nil (WL.seq (WL.reg ?_))
          by_cases hpos : 0 < lv i
          · have hld : (boolsF M (covF lv l))[i]? = some (.bool true) := by rw [boolsF_at hiM, covF_all hL, decide_eq_true hpos]
            refine OL.mv ?_; refine OL.bF ?_; refine OL.mv ?_; refine OL.mv ?_; refine OL.mv ?_
            refine OL.val (by first | rfl | exact WantL.yes rfl rfl rfl) (D.index rfl rfl rfl (jx hiM)) rfl rfl ?_
            refine OL.val (by first | rfl | exact WantL.yes rfl rfl rfl) (D.load rfl rfl (load1 ty4 rfl (cells_of hA3) hld)) rfl rfl ?_
            refine OL.mv ?_; refine OL.bT ?_
            try (refine OL.val (by first | rfl | exact WantL.yes rfl rfl rfl) (D.bin (v := .bool false) rfl rfl rfl rfl) rfl rfl ?_)
            refine OL.pF ?_
            refine OL.nil (WL.condF rfl (WL.skip (WL.reg ?_)))
            refine OL.val (by first | rfl | exact WantL.yes rfl rfl rfl) (D.addN rfl rfl rfl (by omega)) rfl rfl ?_
            refine OL.mv ?_
            exact OL.nil ⟨M - (i + 1), by omega, i + 1, by omega, rfl, .cons rfl (.cons rfl (.cons rfl (.cons rfl .nil))), rfl, rfl⟩
          · have hld : (boolsF M (covF lv l))[i]? = some (.bool false) := by rw [boolsF_at hiM, covF_all hL, decide_eq_false hpos]
            refine OL.mv ?_; refine OL.bF ?_; refine OL.mv ?_; refine OL.mv ?_; refine OL.mv ?_
            refine OL.val (by first | rfl | exact WantL.yes rfl rfl rfl) (D.index rfl rfl rfl (jx hiM)) rfl rfl ?_
            refine OL.val (by first | rfl | exact WantL.yes rfl rfl rfl) (D.load rfl rfl (load1 ty4 rfl (cells_of hA3) hld)) rfl rfl ?_
            refine OL.mv ?_; refine OL.bF ?_
            try (refine OL.val (by first | rfl | exact WantL.yes rfl rfl rfl) (D.bin (v := .bool false) rfl rfl rfl rfl) rfl rfl ?_)
            refine OL.pF ?_
            refine OL.nil (WL.condF rfl (WL.skip (WL.reg ?_)))
            refine OL.val (by first | rfl | exact WantL.yes rfl rfl rfl) (D.addN rfl rfl rfl (by omega)) rfl rfl ?_
            refine OL.mv ?_
            exact OL.nil ⟨M - (i + 1), by omega, i + 1, by omega, rfl, .cons rfl (.cons rfl (.cons rfl (.cons rfl .nil))), rfl, rfl⟩
        · refine OL.bF ?_
          refine OL.nil (WL.seq (WL.condF rfl (WL.exit ?_)))
          refine WL.seq (WL.reg ?_)
          refine OL.asg ?_
          exact OL.nil (WL.ret ⟨fun id e => (by cases e), _, rfl, hk02.trans (by omega) hk3, by omega, hf3, rfl⟩)
    · have he2' := he2
      obtain ⟨v3, h3, n3, hc3, hk3, hn3, hf3, w3, hsv⟩ := sort_cl M s l h2 n2 hf2 he2 (fun k hk => hbs k (by omega)) (by omega) hlen hg
      refine OL.mv ?_; refine OL.ext ?_; refine OL.ext ?_; refine OL.asg ?_; refine OL.asg ?_
      refine OL.nil (WL.seq (WL.seq (WL.reg ?_)))
      refine OL.mv ?_; refine OL.nT ?_
      refine OL.nil (WL.condT rfl (WL.seq (WL.reg ?_)))
      refine OL.mv ?_; refine OL.mv ?_
      refine OL.call (by first | rfl | exact WantL.yes rfl rfl rfl) (D.callF rfl rfl rfl fn11) hc3 rfl rfl ?_
      rcases hsv with ⟨rfl, out, _, ho2, ho3⟩ | ⟨rfl, _⟩
      · exact (topo_stuck ho2 ho3 hst).elim
      · refine OL.mv ?_; refine OL.ext ?_; refine OL.ext ?_; refine OL.asg ?_; refine OL.asg ?_
        refine OL.nil (WL.seq (WL.reg ?_))
        refine OL.mv ?_; refine OL.bT ?_; refine OL.mv ?_; refine OL.mv ?_; refine OL.bT ?_; refine OL.pT ?_; refine OL.asg ?_
        exact OL.nil (WL.ret ⟨fun id e => (by cases e), _, rfl, (hk1.trans hn1 hk2).trans (by omega) hk3, by omega, hf3, rfl⟩)
  exact key

end Go.Sx
