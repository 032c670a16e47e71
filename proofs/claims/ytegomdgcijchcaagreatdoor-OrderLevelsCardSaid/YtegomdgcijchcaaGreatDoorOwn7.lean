/- SwA: chains of edges: plain laws. -/
import Derived.Test.YtegomdgcijchcaaGreatDoorOwn6
namespace Go.Sx
set_option maxRecDepth 100000

def EdgeN (l : List (Int × Int)) (a b : Nat) : Prop := ((a : Int), (b : Int)) ∈ l

/- A chain of so many edges. -/
def Walk (l : List (Int × Int)) : Nat → Nat → Nat → Prop
  | 0, a, b => a = b
  | n + 1, a, b => ∃ c : Nat, EdgeN l a c ∧ Walk l n c b

theorem EdgeN.lt {M : Nat} {l : List (Int × Int)} (hg : GoodG (M : Int) l) {a b : Nat} (h : EdgeN l a b) : a < M ∧ b < M ∧ a ≠ b := by
  obtain ⟨g1, g2, g3, g4, g5⟩ := hg.ok _ h
  simp only at g1 g2 g3 g4 g5
  exact ⟨by omega, by omega, fun e => g5 (by rw [e])⟩

theorem Walk.lt {M : Nat} {l : List (Int × Int)} (hg : GoodG (M : Int) l) {n a b : Nat} (h : Walk l n a b) (hb : b < M) : a < M := by
  cases n with
  | zero => rw [show a = b from h]; exact hb
  | succ n => obtain ⟨c, h1, _⟩ := h; exact (h1.lt hg).1

theorem Walk.lt2 {M : Nat} {l : List (Int × Int)} (hg : GoodG (M : Int) l) : ∀ {n a b : Nat}, Walk l n a b → a < M → b < M
  | 0, a, b, h, ha => by rw [← show a = b from h]; exact ha
  | n + 1, a, b, h, ha => by obtain ⟨c, h1, h2⟩ := h; exact Walk.lt2 hg h2 (h1.lt hg).2.1

theorem Walk.trans {l : List (Int × Int)} : ∀ {n m a b c : Nat}, Walk l n a b → Walk l m b c → Walk l (n + m) a c
  | 0, m, a, b, c, h1, h2 => by rw [show a = b from h1, Nat.zero_add]; exact h2
  | n + 1, m, a, b, c, h1, h2 => by
    obtain ⟨d, h3, h4⟩ := h1
    rw [show n + 1 + m = (n + m) + 1 by omega]
    exact ⟨d, h3, Walk.trans h4 h2⟩

theorem Walk.snoc {l : List (Int × Int)} {n a b c : Nat} (h : Walk l n a b) (hb : EdgeN l b c) : Walk l (n + 1) a c := Walk.trans h (show Walk l 1 b c from ⟨c, hb, rfl⟩)

theorem Walk.last {l : List (Int × Int)} : ∀ {n a b : Nat}, Walk l (n + 1) a b → ∃ c, Walk l n a c ∧ EdgeN l c b
  | 0, a, b, h => by obtain ⟨c, h1, h2⟩ := h; exact ⟨a, rfl, by rw [← show c = b from h2]; exact h1⟩
  | n + 1, a, b, h => by
    obtain ⟨c, h1, h2⟩ := h
    obtain ⟨d, h3, h4⟩ := Walk.last h2
    exact ⟨d, ⟨c, h1, h3⟩, h4⟩

/- How many edges a shortest chain has (-1: there is none). -/
def IsDist (l : List (Int × Int)) (to k : Nat) (d : Int) : Prop :=
  (∃ n : Nat, d = (n : Int) ∧ Walk l n k to ∧ ∀ m, m < n → ¬ Walk l m k to) ∨ (d = -1 ∧ ∀ m, ¬ Walk l m k to)

theorem IsDist.uniq {l : List (Int × Int)} {to k : Nat} {d e : Int} (h1 : IsDist l to k d) (h2 : IsDist l to k e) : d = e := by
  rcases h1 with ⟨n, rfl, a1, a2⟩ | ⟨rfl, a1⟩ <;> rcases h2 with ⟨m, rfl, b1, b2⟩ | ⟨rfl, b1⟩
  · rcases Nat.lt_trichotomy n m with h | h | h
    · exact (b2 n h a1).elim
    · rw [h]
    · exact (a2 m h b1).elim
  · exact (b1 n a1).elim
  · exact (a1 m b1).elim
  · rfl

theorem IsDist.of {l : List (Int × Int)} {to k : Nat} {d : Int} (h0 : -1 ≤ d) (h1 : 0 ≤ d → Walk l d.toNat k to) (h2 : ∀ n : Nat, Walk l n k to → 0 ≤ d ∧ d ≤ (n : Int)) : IsDist l to k d := by
  by_cases h : 0 ≤ d
  · refine .inl ⟨d.toNat, by omega, h1 h, fun m hm hw => ?_⟩
    have := (h2 m hw).2
    omega
  · exact .inr ⟨by omega, fun m hw => h (h2 m hw).1⟩

theorem IsDist.walk {l : List (Int × Int)} {to k : Nat} {d : Int} (h : IsDist l to k d) (h0 : 0 ≤ d) : Walk l d.toNat k to := by
  rcases h with ⟨n, rfl, h1, _⟩ | ⟨rfl, _⟩
  · simpa using h1
  · omega
theorem IsDist.le {l : List (Int × Int)} {to k : Nat} {d : Int} (h : IsDist l to k d) {n : Nat} (hw : Walk l n k to) : 0 ≤ d ∧ d ≤ (n : Int) := by
  rcases h with ⟨m, rfl, h1, h2⟩ | ⟨rfl, h2⟩
  · refine ⟨by omega, ?_⟩
    rcases Nat.lt_or_ge n m with h3 | h3
    · exact (h2 n h3 hw).elim
    · omega
  · exact (h2 n hw).elim

theorem IsDist.lo {l : List (Int × Int)} {to k : Nat} {d : Int} (h : IsDist l to k d) : -1 ≤ d := by
  rcases h with ⟨m, rfl, h1, h2⟩ | ⟨rfl, h2⟩ <;> omega

theorem dist_ex (l : List (Int × Int)) (to k : Nat) : ∃ d, IsDist l to k d := by
  by_cases h : ∃ n, Walk l n k to
  · obtain ⟨n, hn⟩ := h
    have key : ∀ m n, n ≤ m → Walk l n k to → ∃ q, Walk l q k to ∧ ∀ m, m < q → ¬ Walk l m k to := by
      intro m
      induction m with
      | zero => intro n hn hw; exact ⟨n, hw, fun q hq => by omega⟩
      | succ m ih =>
        intro n hn hw
        by_cases hx : ∃ q, q < n ∧ Walk l q k to
        · obtain ⟨q, h1, h2⟩ := hx
          exact ih q (by omega) h2
        · exact ⟨n, hw, fun q hq hw' => hx ⟨q, hq, hw'⟩⟩
    obtain ⟨q, h1, h2⟩ := key n n (Nat.le_refl n) hn
    exact ⟨(q : Int), .inl ⟨q, rfl, h1, h2⟩⟩
  · exact ⟨-1, .inr ⟨rfl, fun m hm => h ⟨m, hm⟩⟩⟩

/- The one. -/
noncomputable def dst (l : List (Int × Int)) (to k : Nat) : Int := Classical.choose (dist_ex l to k)
theorem dst_is (l : List (Int × Int)) (to k : Nat) : IsDist l to k (dst l to k) := Classical.choose_spec (dist_ex l to k)
theorem IsDist.eq {l : List (Int × Int)} {to k : Nat} {d : Int} (h : IsDist l to k d) : d = dst l to k := h.uniq (dst_is l to k)

/- A step nearer. -/
theorem dst_step {l : List (Int × Int)} {to k n : Nat} (h : dst l to k = ((n + 1 : Nat) : Int)) : ∃ c, EdgeN l k c ∧ dst l to c = (n : Int) := by
  have hw := (dst_is l to k).walk (by omega)
  rw [h, Int.toNat_natCast] at hw
  obtain ⟨c, h1, h2⟩ := hw
  refine ⟨c, h1, ?_⟩
  have h3 := (dst_is l to c).le h2
  have h4 := (dst_is l to c).walk h3.1
  have h5 := (dst_is l to k).le (show Walk l ((dst l to c).toNat + 1) k to from ⟨c, h1, h4⟩)
  omega

theorem dst_self (l : List (Int × Int)) (to : Nat) : dst l to to = 0 := by
  have := (dst_is l to to).le (show Walk l 0 to to from rfl)
  omega
theorem dst_zero {l : List (Int × Int)} {to k : Nat} (h : dst l to k = 0) : k = to := by
  have := (dst_is l to k).walk (by omega)
  rw [h] at this
  exact this

/- Every shorter way is had by somebody; so no way is as long as there are items. -/
theorem dst_all {l : List (Int × Int)} {to : Nat} : ∀ {n k : Nat}, dst l to k = (n : Int) → ∀ j, j ≤ n → ∃ c, dst l to c = (j : Int) ∧ (j = n → c = k)
  | 0, k, h, j, hj => ⟨k, by rw [h]; omega, fun _ => rfl⟩
  | n + 1, k, h, j, hj => by
    rcases Nat.lt_or_ge n j with h1 | h1
    · have : j = n + 1 := by omega
      subst this
      exact ⟨k, h, fun _ => rfl⟩
    · obtain ⟨c, _, h3⟩ := dst_step h
      obtain ⟨d, h4, _⟩ := dst_all h3 j h1
      exact ⟨d, h4, fun e => by omega⟩

theorem map_nodup {α β : Type} {f : α → β} : ∀ {l : List α}, l.Nodup → (∀ a ∈ l, ∀ b ∈ l, f a = f b → a = b) → (l.map f).Nodup
  | [], _, _ => by simp
  | a :: l, hn, hi => by
    obtain ⟨h1, h2⟩ := List.nodup_cons.1 hn
    rw [List.map_cons, List.nodup_cons]
    refine ⟨fun hm => ?_, map_nodup h2 fun x hx y hy => hi x (List.mem_cons_of_mem _ hx) y (List.mem_cons_of_mem _ hy)⟩
    obtain ⟨b, hb, he⟩ := List.mem_map.1 hm
    have := hi a (List.mem_cons_self ..) b (List.mem_cons_of_mem _ hb) he.symm
    exact h1 (this ▸ hb)

theorem dst_lt {M : Nat} {l : List (Int × Int)} (hg : GoodG (M : Int) l) {to k : Nat} (hto : to < M) : dst l to k < (M : Int) := by
  by_cases h0 : dst l to k < 0
  · omega
  obtain ⟨n, hn⟩ : ∃ n : Nat, dst l to k = (n : Int) := ⟨(dst l to k).toNat, by omega⟩
  have hall := dst_all hn
  obtain ⟨f, hf⟩ := Classical.axiomOfChoice (fun j : Nat => (show ∃ c : Nat, j ≤ n → dst l to c = (j : Int) from by
    by_cases hj : j ≤ n
    · obtain ⟨c, hc, _⟩ := hall j hj; exact ⟨c, fun _ => hc⟩
    · exact ⟨0, fun h => absurd h hj⟩))
  have hp := pigeon M ((List.range (n + 1)).map f) (map_nodup List.nodup_range fun a ha b hb hab => by
    have h1 := hf a (by have := List.mem_range.1 ha; omega)
    have h2 := hf b (by have := List.mem_range.1 hb; omega)
    rw [hab, h2] at h1
    omega) fun a ha => by
      obtain ⟨j, hj, rfl⟩ := List.mem_map.1 ha
      have h1 := hf j (by have := List.mem_range.1 hj; omega)
      exact ((dst_is l to (f j)).walk (by omega)).lt hg hto
  simp at hp
  omega

/- What lies on a cycle. -/
def OnCyc (l : List (Int × Int)) (a : Nat) : Prop := ∃ n, Walk l (n + 1) a a
def Rch (l : List (Int × Int)) (a b : Nat) : Prop := ∃ n, Walk l (n + 1) a b

theorem Rch.trans {l : List (Int × Int)} {a b c : Nat} (h1 : Rch l a b) (h2 : Rch l b c) : Rch l a c := by
  obtain ⟨n, h1⟩ := h1
  obtain ⟨m, h2⟩ := h2
  exact ⟨n + 1 + m, by have := h1.trans h2; rwa [show n + 1 + (m + 1) = n + 1 + m + 1 by omega] at this⟩
theorem Rch.edge {l : List (Int × Int)} {a b : Nat} (h : EdgeN l a b) : Rch l a b := ⟨0, b, h, rfl⟩
theorem Rch.head {l : List (Int × Int)} {a b : Nat} (h : Rch l a b) : ∃ c, EdgeN l a c ∧ (c = b ∨ Rch l c b) := by
  obtain ⟨n, c, h1, h2⟩ := h
  refine ⟨c, h1, ?_⟩
  cases n with
  | zero => exact .inl h2
  | succ n => exact .inr ⟨n, h2⟩
theorem Rch.tail {l : List (Int × Int)} {a b : Nat} (h : Rch l a b) : ∃ c, (c = a ∨ Rch l a c) ∧ EdgeN l c b := by
  obtain ⟨n, h⟩ := h
  obtain ⟨c, h1, h2⟩ := h.last
  refine ⟨c, ?_, h2⟩
  cases n with
  | zero => exact .inl (show a = c from h1).symm
  | succ n => exact .inr ⟨n, h1⟩
theorem Rch.lt {M : Nat} {l : List (Int × Int)} (hg : GoodG (M : Int) l) {a b : Nat} (h : Rch l a b) : a < M ∧ b < M := by
  obtain ⟨c, h1, _⟩ := h.head
  obtain ⟨d, _, h2⟩ := h.tail
  exact ⟨(h1.lt hg).1, (h2.lt hg).2.1⟩

/- A good order goes up along chains; so there is no cycle. -/
theorem topo_walk {M : Nat} {l : List (Int × Int)} {out : List Nat} (t : Topo M l out) : ∀ {n a b j : Nat}, Walk l (n + 1) a b → out[j]? = some b → ∃ i, i < j ∧ out[i]? = some a
  | 0, a, b, j, h, hj => by
    obtain ⟨c, h1, h2⟩ := h
    have h2 : c = b := h2
    subst h2
    obtain ⟨i, hi⟩ := List.getElem?_of_mem (t.dep j c a hj h1)
    rw [List.getElem?_take] at hi
    split at hi
    · rename_i hlt; exact ⟨i, hlt, hi⟩
    · cases hi
  | n + 1, a, b, j, h, hj => by
    obtain ⟨c, h1, h2⟩ := h
    obtain ⟨i, hi, h3⟩ := topo_walk t h2 hj
    obtain ⟨q, hq⟩ := List.getElem?_of_mem (t.dep i c a h3 h1)
    rw [List.getElem?_take] at hq
    split at hq
    · rename_i hlt; exact ⟨q, by omega, hq⟩
    · cases hq

theorem topo_nocyc {M : Nat} {l : List (Int × Int)} {out : List Nat} (hg : GoodG (M : Int) l) (t : Topo M l out) (hlen : out.length = M) (a : Nat) : ¬ OnCyc l a := by
  rintro ⟨n, h⟩
  have ha : a < M := (Rch.lt hg ⟨n, h⟩).1
  obtain ⟨j, hj⟩ := List.getElem?_of_mem (topo_full t hlen a ha)
  obtain ⟨i, hi, h2⟩ := topo_walk t h hj
  obtain ⟨q1, q2⟩ := List.getElem?_eq_some_iff.1 hj
  obtain ⟨q3, q4⟩ := List.getElem?_eq_some_iff.1 h2
  have := (List.getElem_inj t.nd).1 (q2.trans q4.symm)
  omega

/- Who is stuck: some are on a cycle. -/
theorem stuck_cyc {M : Nat} {l : List (Int × Int)} (s : Stuck M l) : ∃ a, OnCyc l a ∧ a < M := by
  obtain ⟨R, ⟨k0, hk0⟩, hlt, hR⟩ := s
  obtain ⟨f, hf⟩ := Classical.axiomOfChoice (fun k : Nat => (show ∃ a : Nat, R k → R a ∧ ((a : Int), (k : Int)) ∈ l from by
    by_cases hk : R k
    · obtain ⟨a, h⟩ := hR k hk; exact ⟨a, fun _ => h⟩
    · exact ⟨0, fun h => absurd h hk⟩))
  let g : Nat → Nat := fun n => Nat.rec k0 (fun _ x => f x) n
  have hg : ∀ n, R (g n) := by
    intro n
    induction n with
    | zero => exact hk0
    | succ n ih => exact (hf (g n) ih).1
  have hw : ∀ d n, Walk l d (g (n + d)) (g n) := by
    intro d
    induction d with
    | zero => intro n; exact rfl
    | succ d ih => intro n; exact ⟨g (n + d), (hf (g (n + d)) (hg _)).2, ih n⟩
  have hno : ¬ ((List.range (M + 1)).map g).Nodup := fun hn => by
    have := pigeon M _ hn fun a ha => by
      obtain ⟨j, _, rfl⟩ := List.mem_map.1 ha
      exact hlt _ (hg j)
    simp at this
    omega
  have hex : ∃ i j, i < j ∧ g i = g j := by
    refine Classical.byContradiction fun hx => hno (map_nodup List.nodup_range fun a _ b _ hab => ?_)
    rcases Nat.lt_trichotomy a b with h | h | h
    · exact (hx ⟨a, b, h, hab⟩).elim
    · exact h
    · exact (hx ⟨b, a, h, hab.symm⟩).elim
  obtain ⟨i, j, hij, he⟩ := hex
  refine ⟨g i, ⟨j - i - 1, ?_⟩, hlt _ (hg i)⟩
  have := hw (j - i - 1 + 1) i
  rwa [show i + (j - i - 1 + 1) = j by omega, ← he] at this

end Go.Sx

/- SwB: distances, what is reached, cycles: plain laws. -/
namespace Go.Sx
set_option maxRecDepth 100000

/- Who comes before. -/
def pred (l : List (Int × Int)) (a : Nat) : List Int := (l.filter (fun e => decide (e.2 = (a : Int)))).map (·.1)

theorem mem_pred {l : List (Int × Int)} {a y : Nat} : (y : Int) ∈ pred l a ↔ EdgeN l y a := by
  unfold pred EdgeN
  constructor
  · intro h
    obtain ⟨⟨e1, e2⟩, he, h1⟩ := List.mem_map.1 h
    obtain ⟨h2, h3⟩ := List.mem_filter.1 he
    simp only [decide_eq_true_eq] at h3
    simp only at h1
    rw [← h3, ← h1]; exact h2
  · intro h
    exact List.mem_map.2 ⟨_, List.mem_filter.2 ⟨h, by simp⟩, rfl⟩

theorem pred_take {l : List (Int × Int)} {i : Nat} {e : Int × Int} (hi : l[i]? = some e) (a : Nat) : pred (l.take (i + 1)) a = if e.2 = (a : Int) then pred (l.take i) a ++ [e.1] else pred (l.take i) a := by
  have : l.take (i + 1) = l.take i ++ [e] := by rw [List.take_add_one, hi]; rfl
  unfold pred
  rw [this, List.filter_append, List.map_append]
  by_cases h : e.2 = (a : Int)
  · rw [if_pos h]; simp [h]
  · rw [if_neg h]; simp [h]

theorem pred_len (l : List (Int × Int)) (a : Nat) : (pred l a).length ≤ l.length := by
  unfold pred
  rw [List.length_map]
  exact List.length_filter_le _ _

theorem pred_mem {l : List (Int × Int)} {i : Nat} {x : Int} (h : x ∈ pred l i) : (x, (i : Int)) ∈ l := by
  unfold pred at h
  obtain ⟨e, he, rfl⟩ := List.mem_map.1 h
  obtain ⟨h1, h2⟩ := List.mem_filter.1 he
  simp only [decide_eq_true_eq] at h2
  rw [← h2]
  exact h1

/- One place of a function, anew. -/
def upF {α : Type} (f : Nat → α) (i : Nat) (x : α) (k : Nat) : α := if k = i then x else f k
theorem upF_same {α : Type} (f : Nat → α) (i : Nat) (x : α) : upF f i x i = x := if_pos rfl
theorem upF_ne {α : Type} {f : Nat → α} {i k : Nat} {x : α} (h : k ≠ i) : upF f i x k = f k := if_neg h

/- Breadth first. -/
structure Bfs (M : Nat) (l : List (Int × Int)) (to : Nat) (fr : Nat → Int) (Q : List Nat) (p : Nat) : Prop where
  lo : ∀ k, -1 ≤ fr k
  mem : ∀ k, 0 ≤ fr k ↔ k ∈ Q
  wk : ∀ k, k ∈ Q → Walk l (fr k).toNat k to
  lt : ∀ k ∈ Q, k < M
  nd : Q.Nodup
  hd : to ∈ Q
  mono : ∀ (i j a b : Nat), i ≤ j → Q[i]? = some a → Q[j]? = some b → fr a ≤ fr b
  near : ∀ a b : Nat, Q[p]? = some a → b ∈ Q → fr b ≤ fr a + 1
  done : ∀ (j a i : Nat), j < p → Q[j]? = some a → EdgeN l i a → i ∈ Q ∧ fr i ≤ fr a + 1
  bd : ∀ (j a : Nat), Q[j]? = some a → fr a ≤ (j : Int)

def Seen (l : List (Int × Int)) (fr : Nat → Int) (Q : List Nat) (a r : Nat) : Prop := ∀ i : Nat, (i : Int) ∈ (pred l a).take r → i ∈ Q ∧ fr i ≤ fr a + 1

theorem Bfs.init {M : Nat} {l : List (Int × Int)} {to : Nat} (h : to < M) : Bfs M l to (upF (fun _ => -1) to 0) [to] 0 := by
  have h1 : ∀ k, 0 ≤ upF (fun _ => (-1 : Int)) to 0 k ↔ k ∈ [to] := fun k => by
    by_cases hk : k = to
    · subst hk; rw [upF_same]; simp
    · rw [upF_ne hk]; simp [hk]
  refine ⟨fun k => ?_, h1, fun k hk => ?_, fun k hk => ?_, by simp, by simp, fun i j a b hij ha hb => ?_, fun a b ha hb => ?_, fun j a i hj => by omega, fun j a ha => ?_⟩
  · by_cases hk : k = to
    · subst hk; rw [upF_same]; omega
    · rw [upF_ne hk]; omega
  · rw [List.mem_singleton.1 hk, upF_same]; exact rfl
  · rw [List.mem_singleton.1 hk]; exact h
  · have e1 := List.mem_singleton.1 (List.mem_of_getElem? ha)
    have e2 := List.mem_singleton.1 (List.mem_of_getElem? hb)
    rw [e1, e2]; exact Int.le_refl _
  · have e1 := List.mem_singleton.1 (List.mem_of_getElem? ha)
    have e2 := List.mem_singleton.1 hb
    rw [e1, e2]; omega
  · have e1 := List.mem_singleton.1 (List.mem_of_getElem? ha)
    rw [e1, upF_same]; omega

theorem Bfs.old {M : Nat} {l : List (Int × Int)} {to : Nat} {fr : Nat → Int} {Q : List Nat} {p a r i : Nat} (b : Bfs M l to fr Q p) (ha : Q[p]? = some a) (hs : Seen l fr Q a r) (hi : (pred l a)[r]? = some (i : Int)) (h0 : 0 ≤ fr i) : Seen l fr Q a (r + 1) := by
  intro j hj
  rw [List.take_add_one, hi, List.mem_append] at hj
  rcases hj with h1 | h1
  · exact hs j h1
  · have : j = i := by simp at h1; omega
    subst this
    have hm := (b.mem j).1 h0
    exact ⟨hm, b.near a j ha hm⟩

theorem Bfs.new {M : Nat} {l : List (Int × Int)} {to : Nat} {fr : Nat → Int} {Q : List Nat} {p a r i : Nat} (b : Bfs M l to fr Q p) (ha : Q[p]? = some a) (hs : Seen l fr Q a r) (hi : (pred l a)[r]? = some (i : Int)) (hM : i < M) (h0 : fr i < 0) :
    Bfs M l to (upF fr i (fr a + 1)) (Q ++ [i]) p ∧ (Q ++ [i])[p]? = some a ∧ Seen l (upF fr i (fr a + 1)) (Q ++ [i]) a (r + 1) ∧ upF fr i (fr a + 1) a = fr a := by
  have hiQ : i ∉ Q := fun hm => by have := (b.mem i).2 hm; omega
  have hp : p < Q.length := (List.getElem?_eq_some_iff.1 ha).1
  have haQ : a ∈ Q := List.mem_of_getElem? ha
  have hai : a ≠ i := fun e => hiQ (e ▸ haQ)
  have hfa : 0 ≤ fr a := (b.mem a).2 haQ
  have hq : ∀ k, k ∈ Q → upF fr i (fr a + 1) k = fr k := fun k hk => upF_ne fun e => hiQ (e ▸ hk)
  have hedge : EdgeN l i a := mem_pred.1 (List.mem_of_getElem? hi)
  have hnth : ∀ {j x : Nat}, (Q ++ [i])[j]? = some x → (j < Q.length ∧ Q[j]? = some x) ∨ (j = Q.length ∧ x = i) := by
    intro j x hx
    rcases Nat.lt_or_ge j Q.length with h1 | h1
    · rw [List.getElem?_append_left h1] at hx; exact .inl ⟨h1, hx⟩
    · rw [List.getElem?_append_right h1] at hx
      have hj0 : j - Q.length = 0 := by
        rcases Nat.eq_zero_or_pos (j - Q.length) with h2 | h2
        · exact h2
        · rw [List.getElem?_eq_none_iff.2 (by simp; omega)] at hx; cases hx
      rw [hj0] at hx
      simp at hx
      exact .inr ⟨by omega, hx.symm⟩
  have hpa : (Q ++ [i])[p]? = some a := by rw [List.getElem?_append_left hp]; exact ha
  refine ⟨⟨fun k => ?_, fun k => ?_, fun k hk => ?_, fun k hk => ?_, ?_, List.mem_append_left _ b.hd, fun j1 j2 x y hj hx hy => ?_, fun x y hx hy => ?_, fun j x k hj hx hk => ?_, fun j x hx => ?_⟩, hpa, fun k hk => ?_, upF_ne hai⟩
  · by_cases hk : k = i
    · rw [hk, upF_same]; omega
    · rw [upF_ne hk]; exact b.lo k
  · by_cases hk : k = i
    · rw [hk, upF_same]; simp; omega
    · rw [upF_ne hk, b.mem k]; simp [hk]
  · rcases List.mem_append.1 hk with h1 | h1
    · rw [hq k h1]; exact b.wk k h1
    · rw [List.mem_singleton.1 h1, upF_same, show (fr a + 1).toNat = (fr a).toNat + 1 by omega]
      exact ⟨a, hedge, b.wk a haQ⟩
  · rcases List.mem_append.1 hk with h1 | h1
    · exact b.lt k h1
    · rw [List.mem_singleton.1 h1]; exact hM
  · rw [List.nodup_append]
    refine ⟨b.nd, by simp, fun x hx y hy e => ?_⟩
    rw [List.mem_singleton.1 hy] at e
    exact hiQ (e ▸ hx)
  · rcases hnth hx with ⟨h1, h2⟩ | ⟨h1, rfl⟩ <;> rcases hnth hy with ⟨h3, h4⟩ | ⟨h3, rfl⟩
    · rw [hq x (List.mem_of_getElem? h2), hq y (List.mem_of_getElem? h4)]
      exact b.mono j1 j2 x y hj h2 h4
    · rw [hq x (List.mem_of_getElem? h2), upF_same]
      exact b.near a x ha (List.mem_of_getElem? h2)
    · omega
    · exact Int.le_refl _
  · rw [hpa] at hx
    cases hx
    rw [upF_ne hai]
    rcases List.mem_append.1 hy with h1 | h1
    · rw [hq y h1]; exact b.near a y ha h1
    · rw [List.mem_singleton.1 h1, upF_same]; exact Int.le_refl _
  · rcases hnth hx with ⟨h1, h2⟩ | ⟨h1, rfl⟩
    · have := b.done j x k hj h2 hk
      rw [hq x (List.mem_of_getElem? h2), hq k this.1]
      exact ⟨List.mem_append_left _ this.1, this.2⟩
    · omega
  · rcases hnth hx with ⟨h1, h2⟩ | ⟨h1, rfl⟩
    · rw [hq x (List.mem_of_getElem? h2)]; exact b.bd j x h2
    · rw [upF_same]
      have := b.bd p a ha
      omega
  · rw [upF_ne hai]
    rw [List.take_add_one, hi, List.mem_append] at hk
    rcases hk with h1 | h1
    · have := hs k h1
      rw [hq k this.1]
      exact ⟨List.mem_append_left _ this.1, this.2⟩
    · have : k = i := by simp at h1; omega
      subst this
      rw [upF_same]
      exact ⟨by simp, Int.le_refl _⟩

theorem Bfs.next {M : Nat} {l : List (Int × Int)} {to : Nat} {fr : Nat → Int} {Q : List Nat} {p a : Nat} (b : Bfs M l to fr Q p) (ha : Q[p]? = some a) (hs : Seen l fr Q a (pred l a).length) : Bfs M l to fr Q (p + 1) := by
  refine ⟨b.lo, b.mem, b.wk, b.lt, b.nd, b.hd, b.mono, fun x y hx hy => ?_, fun j x k hj hx hk => ?_, b.bd⟩
  · have h1 := b.near a y ha hy
    have h2 := b.mono p (p + 1) a x (Nat.le_succ p) ha hx
    omega
  · rcases Nat.lt_or_ge j p with h1 | h1
    · exact b.done j x k h1 hx hk
    · have : j = p := by omega
      subst this
      rw [ha] at hx
      cases hx
      exact hs k (by rw [List.take_length]; exact mem_pred.2 hk)

theorem Bfs.len {M : Nat} {l : List (Int × Int)} {to : Nat} {fr : Nat → Int} {Q : List Nat} {p : Nat} (b : Bfs M l to fr Q p) : Q.length ≤ M := pigeon M Q b.nd b.lt

theorem Bfs.fin {M : Nat} {l : List (Int × Int)} {to : Nat} {fr : Nat → Int} {Q : List Nat} {p : Nat} (b : Bfs M l to fr Q p) (hp : Q.length ≤ p) (hto : fr to = 0) (k : Nat) : IsDist l to k (fr k) := by
  have key : ∀ n k, Walk l n k to → k ∈ Q ∧ fr k ≤ (n : Int) := by
    intro n
    induction n with
    | zero => intro k hk; rw [show k = to from hk]; exact ⟨b.hd, by omega⟩
    | succ n ih =>
      rintro k ⟨c, h1, h2⟩
      obtain ⟨h3, h4⟩ := ih c h2
      obtain ⟨j, hj⟩ := List.getElem?_of_mem h3
      have := b.done j c k (by have := (List.getElem?_eq_some_iff.1 hj).1; omega) hj h1
      exact ⟨this.1, by omega⟩
  exact IsDist.of (b.lo k) (fun h => b.wk k ((b.mem k).1 h)) fun n hn => ⟨(b.mem k).2 (key n k hn).1, (key n k hn).2⟩

/- What is reached. -/
structure Rea (l : List (Int × Int)) (a : Nat) (rb : Nat → Bool) (W : List Nat) : Prop where
  snd : ∀ k, rb k = true → Rch l a k
  wsnd : ∀ k ∈ W, Rch l a k
  cl : ∀ k c, rb k = true → EdgeN l k c → rb c = true ∨ c ∈ W
  st : ∀ c, EdgeN l a c → rb c = true ∨ c ∈ W

theorem Rea.drop {l : List (Int × Int)} {a i : Nat} {rb : Nat → Bool} {W : List Nat} (r : Rea l a rb (i :: W)) (hi : rb i = true) : Rea l a rb W := by
  have h : ∀ c, rb c = true ∨ c ∈ i :: W → rb c = true ∨ c ∈ W := fun c hc => by
    rcases hc with h1 | h1
    · exact .inl h1
    · rcases List.mem_cons.1 h1 with rfl | h2
      · exact .inl hi
      · exact .inr h2
  exact ⟨r.snd, fun k hk => r.wsnd k (List.mem_cons_of_mem _ hk), fun k c h1 h2 => h c (r.cl k c h1 h2), fun c h1 => h c (r.st c h1)⟩

theorem Rea.add {l : List (Int × Int)} {a i : Nat} {rb : Nat → Bool} {W V : List Nat} (r : Rea l a rb (i :: W)) (hV : ∀ c, c ∈ V ↔ EdgeN l i c) : Rea l a (upF rb i true) (W ++ V) := by
  have hi := r.wsnd i (List.mem_cons_self ..)
  have h : ∀ c, rb c = true ∨ c ∈ i :: W → upF rb i true c = true ∨ c ∈ W ++ V := fun c hc => by
    by_cases e : c = i
    · rw [e, upF_same]; exact .inl rfl
    · rw [upF_ne e]
      rcases hc with h1 | h1
      · exact .inl h1
      · rcases List.mem_cons.1 h1 with h2 | h2
        · exact (e h2).elim
        · exact .inr (List.mem_append_left _ h2)
  refine ⟨fun k hk => ?_, fun k hk => ?_, fun k c h1 h2 => ?_, fun c h1 => h c (r.st c h1)⟩
  · by_cases e : k = i
    · rw [e]; exact hi
    · rw [upF_ne e] at hk; exact r.snd k hk
  · rcases List.mem_append.1 hk with h1 | h1
    · exact r.wsnd k (List.mem_cons_of_mem _ h1)
    · exact hi.trans (Rch.edge ((hV k).1 h1))
  · by_cases e : k = i
    · subst e
      exact .inr (List.mem_append_right _ ((hV c).2 h2))
    · rw [upF_ne e] at h1
      exact h c (r.cl k c h1 h2)

theorem Rea.fin {l : List (Int × Int)} {a : Nat} {rb : Nat → Bool} (r : Rea l a rb []) (k : Nat) : rb k = true ↔ Rch l a k := by
  refine ⟨r.snd k, ?_⟩
  rintro ⟨n, h⟩
  have key : ∀ n k, Walk l (n + 1) a k → rb k = true := by
    intro n
    induction n with
    | zero =>
      rintro k ⟨c, h1, h2⟩
      rw [← show c = k from h2]
      exact (r.st c h1).resolve_right (by simp)
    | succ n ih =>
      intro k h
      obtain ⟨c, h1, h2⟩ := h.last
      exact (r.cl c k (ih c h1) h2).resolve_right (by simp)
  exact key n k h

/- How many are not reached yet. -/
def unR (M : Nat) (rb : Nat → Bool) : Nat := (List.range M).countP fun k => !rb k
theorem unR_up {M : Nat} {rb : Nat → Bool} {i : Nat} (hi : i < M) (h : rb i = false) : unR M (upF rb i true) + 1 = unR M rb := by
  unfold unR
  induction M with
  | zero => omega
  | succ M ih =>
    rw [List.range_succ, List.countP_append, List.countP_append, List.countP_singleton, List.countP_singleton]
    by_cases e : i = M
    · subst e
      rw [upF_same, h]
      have : (List.range i).countP (fun k => !upF rb i true k) = (List.range i).countP (fun k => !rb k) := by
        apply List.countP_congr
        intro k hk
        have := List.mem_range.1 hk
        rw [upF_ne (by omega)]
      rw [this]
      simp
    · rw [upF_ne (Ne.symm e)]
      have := ih (by omega)
      omega

/- Cycles. -/
def best1 (fr : Nat → Int) (left : Int) (k : Int) : Int := if 0 ≤ fr k.toNat ∧ (left < 0 ∨ fr k.toNat < left) then fr k.toNat else left
def bestF (fr : Nat → Int) (xs : List Int) : Int := xs.foldl (best1 fr) (-1)

theorem best_inv (fr : Nat → Int) : ∀ (xs : List Int) (left : Int), -1 ≤ left → -1 ≤ xs.foldl (best1 fr) left ∧
    (0 ≤ xs.foldl (best1 fr) left → xs.foldl (best1 fr) left = left ∨ ∃ k ∈ xs, fr k.toNat = xs.foldl (best1 fr) left) ∧ ((0 ≤ left ∨ ∃ k ∈ xs, 0 ≤ fr k.toNat) → 0 ≤ xs.foldl (best1 fr) left)
  | [], left, h => ⟨h, fun _ => .inl rfl, fun hx => hx.elim id fun ⟨k, hk, _⟩ => by simp at hk⟩
  | x :: xs, left, h => by
    have h1 : -1 ≤ best1 fr left x := by unfold best1; split <;> omega
    obtain ⟨a1, a2, a3⟩ := best_inv fr xs (best1 fr left x) h1
    refine ⟨a1, fun h0 => ?_, fun hx => ?_⟩
    · rcases a2 h0 with h2 | ⟨k, hk, h2⟩
      · rw [List.foldl_cons, h2]
        unfold best1
        split
        · exact .inr ⟨x, List.mem_cons_self .., rfl⟩
        · exact .inl rfl
      · exact .inr ⟨k, List.mem_cons_of_mem _ hk, h2⟩
    · apply a3
      rcases hx with h2 | ⟨k, hk, h2⟩
      · left; unfold best1; split <;> omega
      · rcases List.mem_cons.1 hk with rfl | h3
        · left; unfold best1; split <;> omega
        · exact .inr ⟨k, h3, h2⟩

theorem best_cyc {l : List (Int × Int)} {M : Nat} (hg : GoodG (M : Int) l) (f : Nat) : 0 ≤ bestF (dst l f) (succ l f) ↔ OnCyc l f := by
  have key := best_inv (dst l f) (succ l f) (-1) (by omega)
  constructor
  · intro h
    rcases key.2.1 h with h1 | ⟨k, hk, h1⟩
    · unfold bestF at h; omega
    · obtain ⟨g1, g2, g3, g4, g5⟩ := hg.ok _ (succ_mem hk)
      simp only at g1 g2 g3 g4 g5
      have hw := (dst_is l f k.toNat).walk (by unfold bestF at h; omega)
      exact ⟨_, k.toNat, by show ((f : Int), ((k.toNat : Nat) : Int)) ∈ l; rw [show ((k.toNat : Nat) : Int) = k by omega]; exact succ_mem hk, hw⟩
  · rintro ⟨n, c, h1, h2⟩
    refine key.2.2 (.inr ⟨(c : Int), mem_succ.2 h1, ?_⟩)
    rw [Int.toNat_natCast]
    exact ((dst_is l f c).le h2).1

/- The first one that is so far. -/
def firstS (l : List (Int × Int)) (fr : Nat → Int) (a : Nat) (left : Nat) : Nat := (((succ l a).find? fun y => decide (fr y.toNat = (left : Int))).getD 0).toNat
def pathL (l : List (Int × Int)) (fr : Nat → Int) : Nat → Nat → List Nat
  | _, 0 => []
  | a, n + 1 => firstS l fr a (n + 1) :: pathL l fr (firstS l fr a (n + 1)) n

theorem firstS_at {l : List (Int × Int)} {M : Nat} (hg : GoodG (M : Int) l) {fr : Nat → Int} {a left : Nat} (h : ∃ c, EdgeN l a c ∧ fr c = (left : Int)) :
    ∃ j, (succ l a)[j]? = some ((firstS l fr a left : Nat) : Int) ∧ fr (firstS l fr a left) = (left : Int) ∧ (∀ (i : Nat) (x : Int), i < j → (succ l a)[i]? = some x → fr x.toNat ≠ (left : Int)) := by
  obtain ⟨c, h1, h2⟩ := h
  cases hx : (succ l a).find? fun y => decide (fr y.toNat = (left : Int)) with
  | none =>
    have := List.find?_eq_none.1 hx (c : Int) (mem_succ.2 h1)
    simp [h2] at this
  | some y =>
    obtain ⟨hp, xs, bs, hl, hno⟩ := List.find?_eq_some_iff_append.1 hx
    have hy : y ∈ succ l a := by rw [hl]; simp
    obtain ⟨g1, g2, g3, g4, g5⟩ := hg.ok _ (succ_mem hy)
    simp only at g1 g2 g3 g4 g5
    have hf : ((firstS l fr a left : Nat) : Int) = y := by unfold firstS; rw [hx]; simp; omega
    have hf' : firstS l fr a left = y.toNat := by omega
    refine ⟨xs.length, by rw [hf, hl]; simp, by rw [hf']; simpa using hp, fun i x hi hxi => ?_⟩
    rw [hl, List.getElem?_append_left hi] at hxi
    have := hno x (List.mem_of_getElem? hxi)
    simpa using this

theorem path_len (l : List (Int × Int)) (fr : Nat → Int) : ∀ (n a : Nat), (pathL l fr a n).length = n
  | 0, _ => rfl
  | n + 1, a => by simp only [pathL, List.length_cons, path_len l fr n]

/- Each item of the way: how far it is, and that an edge leads there from the one before. -/
theorem path_at {l : List (Int × Int)} {M : Nat} (hg : GoodG (M : Int) l) {to : Nat} : ∀ (n a : Nat), (n ≠ 0 → ∃ c, EdgeN l a c ∧ dst l to c = (n : Int)) → ∀ j x, (a :: pathL l (dst l to) a n)[j + 1]? = some x →
    dst l to x = ((n - j : Nat) : Int) ∧ j < n ∧ ∃ y, (a :: pathL l (dst l to) a n)[j]? = some y ∧ EdgeN l y x
  | 0, a, _, j, x, hx => by simp [pathL] at hx
  | n + 1, a, h, j, x, hx => by
    obtain ⟨i, h1, h2, _⟩ := firstS_at hg (h (by omega))
    have hedge : EdgeN l a (firstS l (dst l to) a (n + 1)) := succ_mem (List.mem_of_getElem? h1)
    cases j with
    | zero =>
      simp [pathL] at hx
      subst hx
      exact ⟨by simpa using h2, by omega, a, rfl, hedge⟩
    | succ j =>
      have ih := path_at hg n (firstS l (dst l to) a (n + 1)) (fun hn => dst_step h2) j x (by simpa [pathL] using hx)
      obtain ⟨a1, a2, y, a3, a4⟩ := ih
      exact ⟨by rw [a1]; omega, by omega, y, by simpa [pathL] using a3, a4⟩

structure IsCyc (M : Nat) (l : List (Int × Int)) (c : List Nat) : Prop where
  ex : (c = [] ∧ ∀ i, i < M → bestF (dst l i) (succ l i) < 0) ∨
    ∃ f, f < M ∧ (∀ j, j < f → bestF (dst l j) (succ l j) < 0) ∧ 0 ≤ bestF (dst l f) (succ l f) ∧ c = f :: pathL l (dst l f) f (bestF (dst l f) (succ l f)).toNat

theorem IsCyc.uniq {M : Nat} {l : List (Int × Int)} {c d : List Nat} (h1 : IsCyc M l c) (h2 : IsCyc M l d) : c = d := by
  rcases h1.ex with ⟨rfl, a1⟩ | ⟨f, a1, a2, a3, rfl⟩ <;> rcases h2.ex with ⟨rfl, b1⟩ | ⟨g, b1, b2, b3, rfl⟩
  · rfl
  · have := a1 g b1; omega
  · have := b1 f a1; omega
  · rcases Nat.lt_trichotomy f g with h | h | h
    · have := b2 f h; omega
    · subst h; rfl
    · have := a2 g h; omega

theorem IsCyc.none {M : Nat} {l : List (Int × Int)} {c : List Nat} (hg : GoodG (M : Int) l) (h : IsCyc M l c) : c = [] ↔ ∀ a, ¬ OnCyc l a := by
  rcases h.ex with ⟨rfl, a1⟩ | ⟨f, a1, a2, a3, rfl⟩
  · refine ⟨fun _ a ha => ?_, fun _ => rfl⟩
    obtain ⟨n, hn⟩ := ha
    have := a1 a (Rch.lt hg ⟨n, hn⟩).1
    have := (best_cyc hg a).2 ⟨n, hn⟩
    omega
  · refine ⟨fun e => by simp at e, fun hno => (hno f ((best_cyc hg f).1 a3)).elim⟩

theorem IsCyc.head {M : Nat} {l : List (Int × Int)} {c : List Nat} (hg : GoodG (M : Int) l) (h : IsCyc M l c) {x : Nat} {r : List Nat} (hc : c = x :: r) : x < M ∧ OnCyc l x := by
  rcases h.ex with ⟨rfl, a1⟩ | ⟨f, a1, a2, a3, rfl⟩
  · cases hc
  · cases hc
    exact ⟨a1, (best_cyc hg _).1 a3⟩

/- A cycle: an edge from each one to the next one; each item once; more than one. -/
theorem IsCyc.cyc {M : Nat} {l : List (Int × Int)} {c : List Nat} (hg : GoodG (M : Int) l) (h : IsCyc M l c) (hne : c ≠ []) : 1 < c.length ∧ c.Nodup ∧ (∀ x ∈ c, x < M) ∧ ∀ i x, c[i]? = some x → ∃ y, c[(i + 1) % c.length]? = some y ∧ EdgeN l x y := by
  rcases h.ex with ⟨rfl, a1⟩ | ⟨f, a1, a2, a3, rfl⟩
  · exact (hne rfl).elim
  have key := best_inv (dst l f) (succ l f) (-1) (by omega)
  obtain ⟨n, hn⟩ : ∃ n : Nat, bestF (dst l f) (succ l f) = (n : Int) := ⟨(bestF (dst l f) (succ l f)).toNat, by omega⟩
  have hst : ∃ c, EdgeN l f c ∧ dst l f c = (n : Int) := by
    rcases key.2.1 a3 with h1 | ⟨k, hk, h1⟩
    · unfold bestF at a3; omega
    · obtain ⟨g1, g2, g3, g4, g5⟩ := hg.ok _ (succ_mem hk)
      simp only at g1 g2 g3 g4 g5
      refine ⟨k.toNat, ?_, by rw [h1]; exact hn⟩
      show ((f : Int), ((k.toNat : Nat) : Int)) ∈ l
      rw [show ((k.toNat : Nat) : Int) = k by omega]; exact succ_mem hk
  have hn0 : n ≠ 0 := fun e => by
    subst e
    obtain ⟨c, h1, h2⟩ := hst
    have := dst_zero h2
    exact (h1.lt hg).2.2 this.symm
  rw [hn, Int.toNat_natCast]
  have hp := path_at hg (to := f) n f (fun _ => hst)
  have hl : (f :: pathL l (dst l f) f n).length = n + 1 := by rw [List.length_cons, path_len]
  have hd : ∀ j x, (f :: pathL l (dst l f) f n)[j]? = some x → dst l f x = if j = 0 then 0 else ((n + 1 - j : Nat) : Int) := by
    intro j x hx
    cases j with
    | zero => simp at hx; subst hx; rw [if_pos rfl]; exact dst_self l f
    | succ j => rw [if_neg (by omega), (hp j x hx).1]; omega
  refine ⟨by omega, ?_, fun x hx => ?_, fun i x hx => ?_⟩
  · rw [List.nodup_iff_pairwise_ne, List.pairwise_iff_getElem]
    intro i j hi hj hij e
    have h1 := hd i _ (List.getElem?_eq_getElem hi)
    have h2 := hd j _ (List.getElem?_eq_getElem hj)
    rw [e, h2] at h1
    rw [hl] at hj
    rw [if_neg (by omega)] at h1
    split at h1 <;> omega
  · obtain ⟨j, hj⟩ := List.getElem?_of_mem hx
    cases j with
    | zero => simp at hj; subst hj; exact a1
    | succ j => obtain ⟨_, _, y, _, h4⟩ := hp j x hj; exact (h4.lt hg).2.1
  · have hi : i < n + 1 := by have := (List.getElem?_eq_some_iff.1 hx).1; omega
    rw [hl]
    by_cases hin : i = n
    · subst hin
      rw [Nat.mod_self]
      refine ⟨f, rfl, ?_⟩
      have h1 := hd i x hx
      rw [if_neg hn0] at h1
      obtain ⟨c, h2, h3⟩ := dst_step (n := 0) (by rw [h1]; omega : dst l f x = ((0 + 1 : Nat) : Int))
      rw [← dst_zero h3]
      exact h2
    · rw [Nat.mod_eq_of_lt (by omega)]
      obtain ⟨y, hy⟩ : ∃ y, (f :: pathL l (dst l f) f n)[i + 1]? = some y := ⟨_, List.getElem?_eq_getElem (by omega)⟩
      obtain ⟨_, _, z, h3, h4⟩ := hp i y hy
      rw [hx] at h3
      cases h3
      exact ⟨y, hy, h4⟩

end Go.Sx

/- SwC: closures, reductions, levels: plain laws. -/
namespace Go.Sx
set_option maxRecDepth 100000

/- Lists of pairs that go up. -/
def Inc (l : List (Int × Int)) : Prop := l.Pairwise LessE

theorem LessE.trans {a b c : Int × Int} (h1 : LessE a b) (h2 : LessE b c) : LessE a c := by unfold LessE at *; omega
theorem LessE.irr {a : Int × Int} (h : LessE a a) : False := by unfold LessE at h; omega

theorem inc_of : ∀ {l : List (Int × Int)}, (∀ i a b, l[i]? = some a → l[i + 1]? = some b → LessE a b) → Inc l
  | [], _ => List.Pairwise.nil
  | [a], _ => by simp [Inc]
  | a :: b :: l, h => by
    have ih : Inc (b :: l) := inc_of fun i x y hx hy => h (i + 1) x y (by simpa using hx) (by simpa using hy)
    have hab : LessE a b := h 0 a b rfl rfl
    refine List.Pairwise.cons (fun x hx => ?_) ih
    rcases List.mem_cons.1 hx with rfl | hx
    · exact hab
    · exact hab.trans ((List.pairwise_cons.1 ih).1 x hx)

theorem GoodG.inc' {m : Int} {l : List (Int × Int)} (hg : GoodG m l) : Inc l := inc_of hg.inc

theorem Inc.next {l : List (Int × Int)} (h : Inc l) {i : Nat} {a b : Int × Int} (ha : l[i]? = some a) (hb : l[i + 1]? = some b) : LessE a b := by
  obtain ⟨h1, rfl⟩ := List.getElem?_eq_some_iff.1 ha
  obtain ⟨h2, rfl⟩ := List.getElem?_eq_some_iff.1 hb
  exact List.pairwise_iff_getElem.1 h i (i + 1) h1 h2 (Nat.lt_succ_self i)

theorem Inc.good {m : Int} {l : List (Int × Int)} (h0 : 0 ≤ m) (h : Inc l) (hok : ∀ e ∈ l, EdgeOK m e) : GoodG m l := ⟨h0, hok, fun _ _ _ ha hb => h.next ha hb⟩

theorem Inc.nodup {l : List (Int × Int)} (h : Inc l) : l.Nodup := h.imp fun hab e => (e ▸ hab).irr

/- Two lists that go up, with the same members. -/
theorem Inc.ext : ∀ {l r : List (Int × Int)}, Inc l → Inc r → (∀ e, e ∈ l ↔ e ∈ r) → l = r
  | [], [], _, _, _ => rfl
  | [], b :: r, _, _, h => by have := (h b).2 (List.mem_cons_self ..); simp at this
  | a :: l, [], _, _, h => by have := (h a).1 (List.mem_cons_self ..); simp at this
  | a :: l, b :: r, hl, hr, h => by
    obtain ⟨l1, l2⟩ := List.pairwise_cons.1 hl
    obtain ⟨r1, r2⟩ := List.pairwise_cons.1 hr
    have hab : a = b := by
      rcases List.mem_cons.1 ((h a).1 (List.mem_cons_self ..)) with h1 | h1
      · exact h1
      · rcases List.mem_cons.1 ((h b).2 (List.mem_cons_self ..)) with h2 | h2
        · exact h2.symm
        · exact ((r1 a h1).trans (l1 b h2)).irr.elim
    subst hab
    congr 1
    refine Inc.ext l2 r2 fun e => ⟨fun he => ?_, fun he => ?_⟩
    · rcases List.mem_cons.1 ((h e).1 (List.mem_cons_of_mem _ he)) with h1 | h1
      · subst h1; exact (l1 e he).irr.elim
      · exact h1
    · rcases List.mem_cons.1 ((h e).2 (List.mem_cons_of_mem _ he)) with h1 | h1
      · subst h1; exact (r1 e he).irr.elim
      · exact h1

theorem Inc.filter {l : List (Int × Int)} (h : Inc l) (p : Int × Int → Bool) : Inc (l.filter p) := List.Pairwise.filter p h
theorem Inc.erase {l : List (Int × Int)} (h : Inc l) (i : Nat) : Inc (l.eraseIdx i) := List.Pairwise.sublist (List.eraseIdx_sublist l i) h
theorem GoodG.sub {m : Int} {l r : List (Int × Int)} (hg : GoodG m l) (h : Inc r) (hs : ∀ e ∈ r, e ∈ l) : GoodG m r := h.good hg.lo fun e he => hg.ok e (hs e he)

theorem mem_erase {l : List (Int × Int)} (h : Inc l) {i : Nat} {x : Int × Int} (hi : l[i]? = some x) (e : Int × Int) : e ∈ l.eraseIdx i ↔ e ∈ l ∧ e ≠ x := by
  constructor
  · intro he
    refine ⟨(List.eraseIdx_sublist l i).subset he, fun e' => ?_⟩
    subst e'
    obtain ⟨j, hj⟩ := List.getElem?_of_mem he
    rw [List.getElem?_eraseIdx] at hj
    obtain ⟨h1, h2⟩ := List.getElem?_eq_some_iff.1 hi
    split at hj
    · obtain ⟨h3, h4⟩ := List.getElem?_eq_some_iff.1 hj
      have := (List.getElem_inj h.nodup).1 (h2.trans h4.symm)
      omega
    · obtain ⟨h3, h4⟩ := List.getElem?_eq_some_iff.1 hj
      have := (List.getElem_inj h.nodup).1 (h2.trans h4.symm)
      omega
  · rintro ⟨he, hne⟩
    obtain ⟨j, hj⟩ := List.getElem?_of_mem he
    rcases Nat.lt_trichotomy j i with h1 | h1 | h1
    · exact List.mem_of_getElem? (i := j) (by rw [List.getElem?_eraseIdx, if_pos h1]; exact hj)
    · subst h1; rw [hi] at hj; cases hj; exact (hne rfl).elim
    · exact List.mem_of_getElem? (i := j - 1) (by rw [List.getElem?_eraseIdx, if_neg (by omega), show j - 1 + 1 = j by omega]; exact hj)

/- All pairs of which the second is reached from the first. -/
def closL (M : Nat) (rb : Nat → Nat → Bool) : List (Int × Int) := (List.range M).flatMap fun i => ((List.range M).filter (rb i)).map fun k : Nat => ((i : Int), (k : Int))

noncomputable def rchB (l : List (Int × Int)) (a b : Nat) : Bool := @decide (Rch l a b) (Classical.propDecidable _)
theorem rchB_iff (l : List (Int × Int)) (a b : Nat) : rchB l a b = true ↔ Rch l a b := by unfold rchB; exact @decide_eq_true_iff _ (Classical.propDecidable _)

theorem mem_closL {M : Nat} {rb : Nat → Nat → Bool} {e : Int × Int} : e ∈ closL M rb ↔ ∃ i k : Nat, i < M ∧ k < M ∧ rb i k = true ∧ e = ((i : Int), (k : Int)) := by
  unfold closL
  simp only [List.mem_flatMap, List.mem_map, List.mem_filter, List.mem_range]
  constructor
  · rintro ⟨i, hi, k, ⟨hk, hb⟩, rfl⟩
    exact ⟨i, k, hi, hk, hb, rfl⟩
  · rintro ⟨i, k, hi, hk, hb, rfl⟩
    exact ⟨i, hi, k, ⟨hk, hb⟩, rfl⟩

theorem closL_inc (M : Nat) (rb : Nat → Nat → Bool) : Inc (closL M rb) := by
  unfold closL Inc
  rw [List.pairwise_flatMap]
  refine ⟨fun i _ => ?_, ?_⟩
  · rw [List.pairwise_map]
    refine List.Pairwise.filter _ (List.pairwise_lt_range.imp fun h => ?_)
    exact .inr ⟨rfl, by simp only; omega⟩
  · refine List.pairwise_lt_range.imp fun h x hx y hy => ?_
    obtain ⟨a, _, rfl⟩ := List.mem_map.1 hx
    obtain ⟨b, _, rfl⟩ := List.mem_map.1 hy
    exact .inl (by simp only; omega)

noncomputable def clos (M : Nat) (l : List (Int × Int)) : List (Int × Int) := closL M (rchB l)

theorem mem_clos {M : Nat} {l : List (Int × Int)} (hg : GoodG (M : Int) l) {a b : Nat} : ((a : Int), (b : Int)) ∈ clos M l ↔ Rch l a b := by
  unfold clos
  rw [mem_closL]
  constructor
  · rintro ⟨i, k, _, _, h, e⟩
    simp only [Prod.mk.injEq] at e
    have e1 : a = i := by omega
    have e2 : b = k := by omega
    rw [e1, e2]
    exact (rchB_iff l i k).1 h
  · intro h
    exact ⟨a, b, (h.lt hg).1, (h.lt hg).2, (rchB_iff l a b).2 h, rfl⟩

theorem clos_nat {M : Nat} {l : List (Int × Int)} {e : Int × Int} (h : e ∈ clos M l) : ∃ a b : Nat, a < M ∧ b < M ∧ e = ((a : Int), (b : Int)) := by
  obtain ⟨i, k, h1, h2, _, h3⟩ := mem_closL.1 h
  exact ⟨i, k, h1, h2, h3⟩

theorem closL_len (M : Nat) (rb : Nat → Nat → Bool) : (closL M rb).length ≤ M * M := by
  unfold closL
  rw [List.length_flatMap]
  have : ∀ (xs : List Nat), (xs.map fun i => (((List.range M).filter (rb i)).map fun k : Nat => ((i : Int), (k : Int))).length).sum ≤ xs.length * M := by
    intro xs
    induction xs with
    | nil => simp
    | cons x xs ih =>
      have h1 : (((List.range M).filter (rb x)).map fun k : Nat => ((x : Int), (k : Int))).length ≤ M := by
        rw [List.length_map]
        have := List.length_filter_le (rb x) (List.range M)
        rwa [List.length_range] at this
      simp only [List.map_cons, List.sum_cons, List.length_cons, Nat.succ_mul]
      omega
  have h := this (List.range M)
  rwa [List.length_range] at h

theorem Rch.mono {l r : List (Int × Int)} (h : ∀ a b : Nat, EdgeN l a b → EdgeN r a b) {a b : Nat} (hr : Rch l a b) : Rch r a b := by
  obtain ⟨n, hn⟩ := hr
  refine ⟨n, ?_⟩
  have key : ∀ n a b, Walk l n a b → Walk r n a b := by
    intro n
    induction n with
    | zero => intro a b h; exact h
    | succ n ih => rintro a b ⟨c, h1, h2⟩; exact ⟨c, h a c h1, ih c b h2⟩
  exact key _ a b hn

theorem Rch.of {l r : List (Int × Int)} (h : ∀ a b : Nat, EdgeN l a b → Rch r a b) {a b : Nat} (hr : Rch l a b) : Rch r a b := by
  obtain ⟨n, hn⟩ := hr
  have key : ∀ n a b, Walk l (n + 1) a b → Rch r a b := by
    intro n
    induction n with
    | zero => rintro a b ⟨c, h1, h2⟩; rw [← show c = b from h2]; exact h a c h1
    | succ n ih => rintro a b ⟨c, h1, h2⟩; exact (h a c h1).trans (ih c b h2)
  exact key n a b hn

/- An edge that can be left out. -/
def Arnd (l : List (Int × Int)) (a b : Nat) : Prop := ∃ c, EdgeN l a c ∧ Rch l c b
noncomputable def arndB (l : List (Int × Int)) (e : Int × Int) : Bool := @decide (Arnd l e.1.toNat e.2.toNat) (Classical.propDecidable _)
theorem arndB_iff (l : List (Int × Int)) (a b : Nat) : arndB l ((a : Int), (b : Int)) = true ↔ Arnd l a b := by
  unfold arndB
  simp only [Int.toNat_natCast]
  exact @decide_eq_true_iff _ (Classical.propDecidable _)

noncomputable def redL (l : List (Int × Int)) : List (Int × Int) := l.filter fun e => !arndB l e

theorem mem_redL {l : List (Int × Int)} {a b : Nat} : ((a : Int), (b : Int)) ∈ redL l ↔ EdgeN l a b ∧ ¬ Arnd l a b := by
  unfold redL
  rw [List.mem_filter]
  have := arndB_iff l a b
  cases h : arndB l ((a : Int), (b : Int)) with
  | true => simp only [Bool.not_true, Bool.false_eq_true, and_false, false_iff]; exact fun hx => hx.2 (this.1 h)
  | false => simp only [Bool.not_false, and_true]; exact ⟨fun hx => ⟨hx, fun hy => by rw [this.2 hy] at h; cases h⟩, fun hx => hx.1⟩

theorem redL_sub {l : List (Int × Int)} {e : Int × Int} (h : e ∈ redL l) : e ∈ l := (List.mem_filter.1 h).1
theorem redL_good {M : Nat} {l : List (Int × Int)} (hg : GoodG (M : Int) l) : GoodG (M : Int) (redL l) := hg.sub (hg.inc'.filter _) fun _ => redL_sub
theorem redL_len (l : List (Int × Int)) : (redL l).length ≤ l.length := List.length_filter_le _ _

/- Numbers that go up along edges. -/
def Ranked (l : List (Int × Int)) (rk : Nat → Nat) : Prop := ∀ a b, EdgeN l a b → rk a < rk b

theorem Ranked.rch {l : List (Int × Int)} {rk : Nat → Nat} (h : Ranked l rk) {a b : Nat} (hr : Rch l a b) : rk a < rk b := by
  obtain ⟨n, hn⟩ := hr
  have key : ∀ n a b, Walk l (n + 1) a b → rk a < rk b := by
    intro n
    induction n with
    | zero => rintro a b ⟨c, h1, h2⟩; rw [← show c = b from h2]; exact h a c h1
    | succ n ih => rintro a b ⟨c, h1, h2⟩; exact Nat.lt_trans (h a c h1) (ih c b h2)
  exact key n a b hn

theorem Ranked.irr {l : List (Int × Int)} {rk : Nat → Nat} (h : Ranked l rk) (a : Nat) : ¬ Rch l a a := fun hr => Nat.lt_irrefl _ (h.rch hr)

theorem topo_ranked {M : Nat} {l : List (Int × Int)} {out : List Nat} (hg : GoodG (M : Int) l) (t : Topo M l out) (hlen : out.length = M) : Ranked l fun a => out.idxOf a := by
  intro a b hab
  have hb := (hab.lt hg).2.1
  obtain ⟨j, hj⟩ := List.getElem?_of_mem (topo_full t hlen b hb)
  obtain ⟨i, hi, h2⟩ := topo_walk t (⟨b, hab, rfl⟩ : Walk l 1 a b) hj
  obtain ⟨q1, q2⟩ := List.getElem?_eq_some_iff.1 hj
  obtain ⟨q3, q4⟩ := List.getElem?_eq_some_iff.1 h2
  show out.idxOf a < out.idxOf b
  rw [← q2, ← q4, t.nd.idxOf_getElem, t.nd.idxOf_getElem]
  exact hi

/- Without cycles: the reduction reaches what the graph reaches. -/
theorem red_rch {l : List (Int × Int)} {rk : Nat → Nat} (hr : Ranked l rk) {a b : Nat} : Rch (redL l) a b ↔ Rch l a b := by
  refine ⟨Rch.mono fun a b h => redL_sub h, ?_⟩
  have key : ∀ (m a b : Nat), rk b - rk a = m → Rch l a b → Rch (redL l) a b := by
    intro m
    induction m using Nat.strongRecOn with
    | _ m ih =>
      intro a b hm h
      have two : ∀ c, EdgeN l a c → Rch l c b → Rch (redL l) a b := fun c h1 h2 => by
        have r1 := hr a c h1
        have r2 := hr.rch h2
        exact (ih _ (by omega) a c rfl (Rch.edge h1)).trans (ih _ (by omega) c b rfl h2)
      obtain ⟨c, h1, h2⟩ := h.head
      rcases h2 with rfl | h2
      · by_cases har : Arnd l a c
        · obtain ⟨d, h3, h4⟩ := har
          exact two d h3 h4
        · exact Rch.edge (mem_redL.2 ⟨h1, har⟩)
      · exact two c h1 h2
  exact fun h => key _ a b rfl h

theorem Ranked.sub {l r : List (Int × Int)} {rk : Nat → Nat} (h : Ranked l rk) (hs : ∀ e ∈ r, e ∈ l) : Ranked r rk := fun a b hab => h a b (hs _ hab)

theorem clos_eq {M : Nat} {l r : List (Int × Int)} (h : ∀ a b, Rch l a b ↔ Rch r a b) : clos M l = clos M r := by
  unfold clos
  congr 1
  funext a b
  rw [Bool.eq_iff_iff, rchB_iff, rchB_iff]
  exact h a b

theorem clos_good {M : Nat} {l : List (Int × Int)} {rk : Nat → Nat} (hr : Ranked l rk) : GoodG (M : Int) (clos M l) := by
  refine (closL_inc M _).good (by omega) fun e he => ?_
  obtain ⟨i, k, h1, h2, h3, rfl⟩ := mem_closL.1 he
  refine ⟨by simp only; omega, by simp only; omega, by simp only; omega, by simp only; omega, fun e => ?_⟩
  simp only at e
  have : i = k := by omega
  subst this
  exact hr.irr i ((rchB_iff l i i).1 h3)

theorem clos_rch {M : Nat} {l : List (Int × Int)} (hg : GoodG (M : Int) l) {a b : Nat} : Rch (clos M l) a b ↔ Rch l a b :=
  ⟨Rch.of fun _ _ h => (mem_clos hg).1 h, fun h => Rch.edge ((mem_clos hg).2 h)⟩

theorem clos_ranked {M : Nat} {l : List (Int × Int)} {rk : Nat → Nat} (hg : GoodG (M : Int) l) (hr : Ranked l rk) : Ranked (clos M l) rk := fun _ _ h => hr.rch ((mem_clos hg).1 h)

/- The reduction of the closure. -/
theorem red_clos {M : Nat} {l : List (Int × Int)} {rk : Nat → Nat} (hg : GoodG (M : Int) l) (hr : Ranked l rk) : redL (clos M l) = redL l := by
  refine Inc.ext ((closL_inc M _).filter _) (hg.inc'.filter _) fun e => ?_
  constructor
  · intro he
    obtain ⟨a, b, _, _, rfl⟩ := clos_nat (redL_sub he)
    obtain ⟨h1, h2⟩ := mem_redL.1 he
    have h1 := (mem_clos hg).1 h1
    have hno : ∀ c, EdgeN l a c → ¬ Rch l c b := fun c h3 h4 => h2 ⟨c, (mem_clos hg).2 (Rch.edge h3), (clos_rch hg).2 h4⟩
    obtain ⟨c, h3, h4⟩ := h1.head
    rcases h4 with rfl | h4
    · exact mem_redL.2 ⟨h3, fun ⟨d, h5, h6⟩ => hno d h5 h6⟩
    · exact (hno c h3 h4).elim
  · intro he
    obtain ⟨g1, g2, g3, g4, g5⟩ := hg.ok _ (redL_sub he)
    obtain ⟨a, b, rfl⟩ : ∃ a b : Nat, e = ((a : Int), (b : Int)) := ⟨e.1.toNat, e.2.toNat, by ext <;> simp only <;> omega⟩
    obtain ⟨h1, h2⟩ := mem_redL.1 he
    refine mem_redL.2 ⟨(mem_clos hg).2 (Rch.edge h1), fun ⟨c, h3, h4⟩ => ?_⟩
    have h3 := (mem_clos hg).1 h3
    have h4 := (clos_rch hg).1 h4
    obtain ⟨d, h5, h6⟩ := h3.head
    rcases h6 with rfl | h6
    · exact h2 ⟨d, h5, h4⟩
    · exact h2 ⟨d, h5, h6.trans h4⟩

/- Without one of its edges the reduction reaches less. -/
theorem red_less {M : Nat} {l : List (Int × Int)} {rk : Nat → Nat} (hg : GoodG (M : Int) l) (hr : Ranked l rk) {i a b : Nat} (hi : (redL l)[i]? = some ((a : Int), (b : Int))) : ¬ Rch ((redL l).eraseIdx i) a b := by
  intro h
  have hinc := hg.inc'.filter (fun e => !arndB l e)
  have hm := fun e => mem_erase (l := redL l) hinc hi e
  obtain ⟨c, h1, h2⟩ := h.head
  have h1' := (hm _).1 h1
  rcases h2 with rfl | h2
  · exact h1'.2 rfl
  · have h3 : Rch l c b := h2.mono fun _ _ he => redL_sub ((hm _).1 he).1
    exact (mem_redL.1 (List.mem_of_getElem? hi)).2 ⟨c, redL_sub h1'.1, h3⟩

theorem nodup_sub_len {α : Type} [DecidableEq α] : ∀ (a b : List α), a.Nodup → (∀ x ∈ a, x ∈ b) → a.length ≤ b.length
  | [], _, _, _ => by simp
  | x :: a, b, hn, hs => by
    obtain ⟨h1, h2⟩ := List.nodup_cons.1 hn
    have hx := hs x (List.mem_cons_self ..)
    have := nodup_sub_len a (b.erase x) h2 fun y hy => (List.mem_erase_of_ne (fun e => by subst e; exact h1 hy)).2 (hs y (List.mem_cons_of_mem _ hy))
    rw [List.length_erase_of_mem hx] at this
    have := List.length_pos_of_mem hx
    simp; omega

theorem clos_less {M : Nat} {l r : List (Int × Int)} (hl : GoodG (M : Int) l) (hr : GoodG (M : Int) r) (hs : ∀ e ∈ r, e ∈ l) {a b : Nat} (h1 : Rch l a b) (h2 : ¬ Rch r a b) : (clos M r).length < (clos M l).length := by
  have hm : ((a : Int), (b : Int)) ∉ clos M r := fun h => h2 ((mem_clos hr).1 h)
  have := nodup_sub_len (((a : Int), (b : Int)) :: clos M r) (clos M l) (List.nodup_cons.2 ⟨hm, (closL_inc M _).nodup⟩) fun e he => by
    rcases List.mem_cons.1 he with rfl | he
    · exact (mem_clos hl).2 h1
    · obtain ⟨x, y, _, _, rfl⟩ := clos_nat he
      exact (mem_clos hl).2 (Rch.mono (fun _ _ h => hs _ h) ((mem_clos hr).1 he))
  simp at this
  omega

/- What the reference asks: whether a chain leads there without the edge. -/
theorem arnd_erase {l : List (Int × Int)} {rk : Nat → Nat} (hinc : Inc l) (hr : Ranked l rk) {i a b : Nat} (hi : l[i]? = some ((a : Int), (b : Int))) : Rch (l.eraseIdx i) a b ↔ Arnd l a b := by
  have hm := fun e => mem_erase hinc hi e
  constructor
  · intro h
    obtain ⟨c, h1, h2⟩ := h.head
    have h1' := (hm _).1 h1
    rcases h2 with rfl | h2
    · exact (h1'.2 rfl).elim
    · exact ⟨c, h1'.1, h2.mono fun _ _ he => ((hm _).1 he).1⟩
  · rintro ⟨c, h1, n, h2⟩
    have key : ∀ n c, Rch l a c → Walk l n c b → Walk (l.eraseIdx i) n c b := by
      intro n
      induction n with
      | zero => intro c _ h; exact h
      | succ n ih =>
        rintro c hc ⟨d, h3, h4⟩
        refine ⟨d, (hm _).2 ⟨h3, fun e => ?_⟩, ih d (hc.trans (Rch.edge h3)) h4⟩
        simp only [Prod.mk.injEq] at e
        have : c = a := by omega
        subst this
        exact hr.irr c hc
    have hcb : c ≠ b := fun e => by subst e; exact hr.irr c ⟨n, h2⟩
    exact ⟨n + 1, c, (hm _).2 ⟨h1, fun e => hcb (by simp only [Prod.mk.injEq] at e; omega)⟩, key _ c (Rch.edge h1) h2⟩

/- Levels are what they are. -/
theorem LvOK.uniq {M : Nat} {l : List (Int × Int)} {lv lv' : Nat → Int} {rk : Nat → Nat} (hg : GoodG (M : Int) l) (hr : Ranked l rk) (h1 : LvOK M l lv) (h2 : LvOK M l lv') (k : Nat) : lv k = lv' k := by
  have key : ∀ (m k : Nat), rk k = m → lv k = lv' k := by
    intro m
    induction m using Nat.strongRecOn with
    | _ m ih =>
      intro k hk
      have le : ∀ {u v : Nat → Int}, LvOK M l u → LvOK M l v → (∀ x, EdgeN l x k → u x = v x) → u k ≤ v k := fun hu hv hx => by
        rcases hu.cov k with h3 | ⟨x, h3, h4⟩
        · rw [h3]; exact hv.nn k
        · have := hv.up x k h3
          rw [h4, hx x h3]; omega
      have hx : ∀ x, EdgeN l x k → lv x = lv' x := fun x hx => ih (rk x) (by have := hr x k hx; omega) x rfl
      have := le h1 h2 hx
      have := le h2 h1 fun x hx' => (hx x hx').symm
      omega
  exact key _ k rfl

end Go.Sx

/- SwD: slices in the heap that grow, and are cut. -/
namespace Go.Sx
open Go.Proofs
set_option maxRecDepth 100000
set_option maxHeartbeats 1000000

/- An element's type, as append wants it. -/
structure ElT (st e : TypeId) (j : TyI) : Prop where
  hs : X.ty.get st = some (tSl e)
  he : X.ty.get e = some j
  b1 : Nat.ble j.bytes 4096 = true
  b2 : Nat.blt 0 j.size = true
  b3 : Nat.blt 0 j.bytes = true
  zk : j.zok = true
  zl : Nat.beq j.zero.length j.size = true

theorem el25 : ElT 25 3 tInt := ⟨ty25, ty3, rfl, rfl, rfl, rfl, rfl⟩
theorem el22 : ElT 22 35 tPair := ⟨ty22, ty35, rfl, rfl, rfl, rfl, rfl⟩
theorem el38 : ElT 38 4 tBool := ⟨ty38, ty4, rfl, rfl, rfl, rfl, rfl⟩

/- A slice that can grow: nothing, or cells of one's own; its capacity is told or not. -/
def App (sz lo : Nat) (h : T Blk) (v : Value) (len : Nat) (cs : List Value) : Prop :=
  (v = .slice none 0 0 ∧ len = 0 ∧ cs = []) ∨ ∃ b o cap all, v = .slice (some ⟨b, o, none⟩) len cap ∧ (cap = UNK * sz + len ∨ cap = len) ∧ lo ≤ b ∧ h.get b = some (.cells all) ∧ seg all o (len * sz) = some cs

def blkOf : Value → Option Nat
  | .slice (some a) _ _ => some a.block
  | _ => none

section
variable {st e : TypeId} {j : TyI} {lo n len xl : Nat} {h : T Blk} {v x : Value} {cs new : List Value}

theorem App.csl {sz : Nat} (a : App sz lo h v len cs) : cs.length = len * sz := by
  rcases a with ⟨_, rfl, rfl⟩ | ⟨b, o, cap, all, _, _, _, _, h5⟩
  · simp
  · exact seg_len h5

theorem App.keep {sz : Nat} {h' : T Blk} (a : App sz lo h v len cs) (hk : ∀ b, blkOf v = some b → h'.get b = h.get b) : App sz lo h' v len cs := by
  rcases a with h1 | ⟨b, o, cap, all, rfl, h2, h3, h4, h5⟩
  · exact .inl h1
  · exact .inr ⟨b, o, cap, all, rfl, h2, h3, by rw [hk b rfl]; exact h4, h5⟩

theorem App.low {sz lo' : Nat} (a : App sz lo h v len cs) (hl : lo' ≤ lo) : App sz lo' h v len cs := by
  rcases a with h1 | ⟨b, o, cap, all, h1, h2, h3, h4, h5⟩
  · exact .inl h1
  · exact .inr ⟨b, o, cap, all, h1, h2, by omega, h4, h5⟩

theorem App.blk {sz : Nat} (a : App sz lo h v len cs) {b : Nat} (hb : blkOf v = some b) : lo ≤ b ∧ ∃ all, h.get b = some (.cells all) := by
  rcases a with ⟨rfl, _⟩ | ⟨b', o, cap, all, rfl, _, h3, h4, _⟩
  · cases hb
  · cases hb; exact ⟨h3, all, h4⟩

theorem App.kp {sz n : Nat} {h' : T Blk} (a : App sz lo h v len cs) (hf : Fresh h n) (hk : Keep n h h') : App sz lo h' v len cs := a.keep fun b hb => by
  obtain ⟨_, all, h1⟩ := a.blk hb
  exact hk b (hf.lt h1)

theorem App.bel {sz n : Nat} (a : App sz lo h v len cs) (hf : Fresh h n) : BelV n v := by
  rcases a with ⟨rfl, _⟩ | ⟨b', o, cap, all, rfl, _, h3, h4, _⟩
  · exact trivial
  · exact BelV.sl (hf.lt h4)

theorem App.row {sz : Nat} (a : App sz lo h v len cs) : rowA h sz len v = some cs := by
  rcases a with ⟨rfl, rfl, rfl⟩ | ⟨b', o, cap, all, rfl, _, h3, h4, h5⟩
  · rfl
  · simp only [rowA, cells_of h4]; exact h5

theorem App.isC {sz : Nat} (a : App sz lo h v len cs) : isCell v = true := by
  rcases a with ⟨rfl, rfl, rfl⟩ | ⟨b', o, cap, all, rfl, _, h3, h4, h5⟩ <;> rfl

theorem App.ln {sz : Nat} (hs : X.ty.get st = some (tSl e)) (a : App sz lo h v len cs) {h' : T Blk} {n : Nat} : builtinA X .len [st] [v] h' n = .val (.int .i64 (len : Int)) h' n := by
  rcases a with ⟨rfl, rfl, rfl⟩ | ⟨b', o, cap, all, rfl, _, h3, h4, h5⟩
  · exact lenA_slice hs
  · exact lenA_slice hs

theorem App.isS {sz : Nat} (a : App sz lo h v len cs) : ∃ b l c, v = .slice b l c := by
  rcases a with ⟨rfl, rfl, rfl⟩ | ⟨b', o, cap, all, rfl, _, h3, h4, h5⟩ <;> exact ⟨_, _, _, rfl⟩

/- A place. -/
theorem App.idx (el : ElT st e j) (a : App j.size lo h v len cs) {k : Nat} (hk : k < len) : ∃ b o, blkOf v = some b ∧ idxA X st v (.int .i64 (k : Int)) = some (.pointer (some ⟨b, o, none⟩)) ∧
    ∀ h' : T Blk, h'.get b = h.get b → ∃ all, h'.get b = some (.cells all) ∧ o + j.size ≤ all.length ∧ ∀ i, i < j.size → all[o + i]? = cs[k * j.size + i]? := by
  rcases a with ⟨rfl, rfl, rfl⟩ | ⟨b, o, cap, all, rfl, _, h3, h4, h5⟩
  · omega
  · have hm : k * j.size + j.size ≤ len * j.size := by
      have := Nat.mul_le_mul_right j.size (show k + 1 ≤ len by omega)
      rwa [Nat.succ_mul] at this
    refine ⟨b, o + k * j.size, rfl, idx_slice el.hs el.he hk, fun h' hb => ⟨all, hb.trans h4, ?_, fun i hi => ?_⟩⟩
    · have hz : 0 < j.size := by have := el.b2; rwa [bltT] at this
      have := ((seg_some h5).2 (k * j.size + j.size - 1) (by omega)).2
      omega
    · rw [Nat.add_assoc]; exact seg_at h5 (by omega)

theorem App.atI {xs : List Int} (a : App 1 lo h v len (ints xs)) {k : Nat} {y : Int} (hk : xs[k]? = some y) : ∃ b o, blkOf v = some b ∧ idxA X 25 v (.int .i64 (k : Int)) = some (.pointer (some ⟨b, o, none⟩)) ∧ ∀ h' : T Blk, h'.get b = h.get b → loadA X h' 3 (.pointer (some ⟨b, o, none⟩)) = some (.int .i64 y) := by
  have hl : k < len := by
    have h1 := a.csl
    rw [ints_len] at h1
    have := (List.getElem?_eq_some_iff.1 hk).1
    omega
  obtain ⟨b, o, h1, h2, h3⟩ := App.idx el25 (show App tInt.size lo h v len (ints xs) from a) hl
  refine ⟨b, o, h1, h2, fun h' hb => ?_⟩
  obtain ⟨all, h4, _, h6⟩ := h3 h' hb
  have h7 := h6 0 (by decide)
  exact load1 ty3 rfl (cells_of h4) (by rw [show o = o + 0 from rfl, h7]; simpa [tInt] using ints_at hk)

/- Append. -/
theorem append_own (el : ElT st e j) (a : App j.size lo h v len cs) (hf : Fresh h n) (hx : ∃ xb xc, x = .slice xb xl xc) (hr : rowA h j.size xl x = some new) (h0 : 0 < xl) (hxl : xl ≤ 100000) (hc : allCells new = true) (hl : len ≤ 100000) :
    ∃ w h', appendA X st (some st) v x h n = some (w, h', n + 1) ∧ Fresh h' (n + 1) ∧ (∀ b, b < n → blkOf v ≠ some b → h'.get b = h.get b) ∧ blkOf w = some n ∧ App j.size n h' w (len + xl) (cs ++ new) ∧ w = .slice (some ⟨n, 0, none⟩) (len + xl) (UNK * j.size + (len + xl)) ∧ h'.get n = some (.cells (cs ++ new)) := by
  obtain ⟨xb, xc, rfl⟩ := hx
  have hu : len < UNK := by unfold UNK; omega
  have hu2 : len + xl < UNK := by unfold UNK; omega
  have e2 : newCells X h j (some st) (.slice xb xl xc) = some (xl, new) := by
    simp only [newCells, el.hs, tSl, hr]
    rw [show Nat.ble xl 100000 = true by rw [bleT]; exact hxl]
    rfl
  have e3 : Nat.beq xl 0 = false := by
    cases hb : Nat.beq xl 0 with
    | false => rfl
    | true => rw [beqT] at hb; omega
  have e4 : Nat.ble len 100000 = true := by rw [bleT]; exact hl
  have e5 : Nat.ble len len = true := by rw [bleT]; exact Nat.le_refl _
  have e6 : Nat.ble (len + xl) len = false := by
    cases hb : Nat.ble (len + xl) len with
    | false => rfl
    | true => rw [bleT] at hb; omega
  have hrow := a.row
  have fin : ∀ (h1 : T Blk), Fresh h1 n → App j.size n (h1.upd (some (.cells (cs ++ new))) n) (.slice (some ⟨n, 0, none⟩) (len + xl) (UNK * j.size + (len + xl))) (len + xl) (cs ++ new) := fun h1 _ => by
    refine .inr ⟨n, 0, _, cs ++ new, rfl, .inl rfl, Nat.le_refl n, T.get_upd_same _ _ _, ?_⟩
    have h1 := a.csl
    have h2 : new.length = xl * j.size := by
      cases xb with
      | none =>
        simp only [rowA, e3, cond_false] at hr
        cases hr
      | some a' =>
        obtain ⟨b', o', s'⟩ := a'
        cases s' with
        | some s' => simp [rowA] at hr
        | none =>
          simp only [rowA] at hr
          split at hr
          · exact seg_len hr
          · cases hr
    rw [show (len + xl) * j.size = (cs ++ new).length by rw [List.length_append, h1, h2, Nat.add_mul]]
    exact seg_all _
  rcases a with ⟨rfl, rfl, rfl⟩ | ⟨b, o, cap, all, rfl, hcap, h3, h4, h5⟩
  · refine ⟨_, h.upd (some (.cells ([] ++ new))) n, ?_, hf.upd _, fun b hb _ => T.get_upd_ne _ _ (by omega), rfl, fin h hf, rfl, T.get_upd_same _ _ _⟩
    simp only [appendA, el.hs, tSl, el.he, e2, el.b1, el.b2, el.b3, el.zk, el.zl, show lowCap 0 = 0 from rfl, e4, e5, Bool.and_self, cond_true, e3, cond_false, e6, hrow, show unkCap 0 = false from rfl]
  · have hbn := hf.lt h4
    rcases hcap with rfl | hcap
    · have q1 : lowCap (UNK * j.size + len) = len := lowCap_u hu
      have q2 : (UNK * j.size + len) / UNK = j.size := divCap_u hu
      have q3 : unkCap (UNK * j.size + len) = true := by
        have hz : 0 < j.size := by have := el.b2; rwa [bltT] at this
        unfold unkCap; rw [bleT]
        have := Nat.le_mul_of_pos_right UNK hz
        omega
      refine ⟨_, (h.upd none b).upd (some (.cells (cs ++ new))) n, ?_, (hf.set hbn none).upd _, fun c hc hcb => ?_, rfl, fin _ (hf.set hbn none), rfl, T.get_upd_same _ _ _⟩
      · simp only [appendA, el.hs, tSl, el.he, e2, el.b1, el.b2, el.b3, el.zk, el.zl, q1, e4, e5, Bool.and_self, cond_true, e3, cond_false, e6, hrow, q3, q2, Nat.beq_refl, hc, h4, Bool.not_true]
      · rw [T.get_upd_ne _ _ (by omega), T.get_upd_ne _ _ (fun e => hcb (by subst e; rfl))]
    · have hcap := hcap.symm
      subst hcap
      have q1 : lowCap len = len := by unfold lowCap; exact Nat.mod_eq_of_lt hu
      have q3 : unkCap len = false := by
        unfold unkCap
        cases hb : Nat.ble UNK len with
        | false => rfl
        | true => rw [bleT] at hb; omega
      refine ⟨_, h.upd (some (.cells (cs ++ new))) n, ?_, hf.upd _, fun c hc _ => T.get_upd_ne _ _ (by omega), rfl, fin h hf, rfl, T.get_upd_same _ _ _⟩
      simp only [appendA, el.hs, tSl, el.he, e2, el.b1, el.b2, el.b3, el.zk, el.zl, q1, e4, e5, Bool.and_self, cond_true, e3, cond_false, e6, hrow, q3]

theorem append_app (el : ElT st e j) (a : App j.size lo h v len cs) (hf : Fresh h n) (hx : ∃ xb xc, x = .slice xb xl xc) (hr : rowA h j.size xl x = some new) (h0 : 0 < xl) (hxl : xl ≤ 100000) (hc : allCells new = true) (hl : len ≤ 100000) :
    ∃ w h', appendA X st (some st) v x h n = some (w, h', n + 1) ∧ Fresh h' (n + 1) ∧ (∀ b, b < n → blkOf v ≠ some b → h'.get b = h.get b) ∧ blkOf w = some n ∧ App j.size n h' w (len + xl) (cs ++ new) := by
  obtain ⟨w, h', q1, q2, q3, q4, q5, _⟩ := append_own el a hf hx hr h0 hxl hc hl
  exact ⟨w, h', q1, q2, q3, q4, q5⟩

/- Nothing appended. -/
theorem append_none (el : ElT st e j) (a : App j.size lo h v len cs) (hx : ∃ xb xc, x = .slice xb 0 xc) (hr : rowA h j.size 0 x = some new) (hl : len ≤ 100000) : appendA X st (some st) v x h n = some (v, h, n) := by
  obtain ⟨xb, xc, rfl⟩ := hx
  have hu : len < UNK := by unfold UNK; omega
  have e2 : newCells X h j (some st) (.slice xb 0 xc) = some (0, new) := by
    simp only [newCells, el.hs, tSl, hr]
    rfl
  have e4 : Nat.ble len 100000 = true := by rw [bleT]; exact hl
  have e5 : Nat.ble len len = true := by rw [bleT]; exact Nat.le_refl _
  rcases a with ⟨rfl, rfl, rfl⟩ | ⟨b, o, cap, all, rfl, hcap, h3, h4, h5⟩
  · simp only [appendA, el.hs, tSl, el.he, e2, el.b1, el.b2, el.b3, el.zk, el.zl, show lowCap 0 = 0 from rfl, e4, e5, Bool.and_self, cond_true, Nat.beq_refl]
  · rcases hcap with rfl | hcap
    · have q1 : lowCap (UNK * j.size + len) = len := lowCap_u hu
      simp only [appendA, el.hs, tSl, el.he, e2, el.b1, el.b2, el.b3, el.zk, el.zl, q1, e4, e5, Bool.and_self, cond_true, Nat.beq_refl]
    · have hcap := hcap.symm
      subst hcap
      have q1 : lowCap len = len := by unfold lowCap; exact Nat.mod_eq_of_lt hu
      simp only [appendA, el.hs, tSl, el.he, e2, el.b1, el.b2, el.b3, el.zk, el.zl, q1, e4, e5, Bool.and_self, cond_true, Nat.beq_refl]

theorem appendB {h' : T Blk} {n' : Nat} {s x v : Value} (ha : appendA X st (some st) s x h n = some (v, h', n')) : builtinA X .append [st, st] [s, x] h n = .val v h' n' := by
  simp only [builtinA, nth]
  show (match appendA X st (some st) s x h n with | some (v, h', n') => OO.val v h' n' | none => .no "append") = _
  rw [ha]

/- Without its first one. -/
theorem cut1_app (el : ElT st e j) (a : App j.size lo h v (len + 1) cs) (hl : len + 1 ≤ 100000) : ∃ w, sliceA X st v (some (.int .i64 1)) none none = some w ∧ App j.size lo h w len (cs.drop j.size) ∧ blkOf w = blkOf v := by
  have hu : len + 1 < UNK := by unfold UNK; omega
  have hn1 : natV (.int .i64 1) (len + 1) = some 1 := by
    show natV (.int .i64 (Int.ofNat 1)) (len + 1) = some 1
    simp only [natV, bif_eq_ite, bleT]
    rw [if_pos (by omega)]
  rcases a with ⟨_, h1, _⟩ | ⟨b, o, cap, all, rfl, hcap, h3, h4, h5⟩
  · omega
  have h6 : seg all (o + 1 * j.size) (len * j.size) = some (cs.drop j.size) := by
    have := seg_sub (k := 1 * j.size) (m := len * j.size) h5 (by rw [Nat.add_mul]; omega)
    rw [this, Nat.one_mul, List.take_of_length_le (by rw [List.length_drop, seg_len h5, Nat.add_mul]; omega)]
  have hz : 0 < j.size := by have := el.b2; rwa [bltT] at this
  rcases hcap with rfl | hcap
  · have q1 : lowCap (UNK * j.size + (len + 1)) = len + 1 := lowCap_u hu
    have q2 : (UNK * j.size + (len + 1)) / UNK = j.size := divCap_u hu
    have q3 : unkCap (UNK * j.size + (len + 1)) = true := by
      unfold unkCap; rw [bleT]
      have := Nat.le_mul_of_pos_right UNK hz
      omega
    refine ⟨.slice (some ⟨b, o + 1 * j.size, none⟩) (len + 1 - 1) (UNK * j.size + (len + 1) - 1), ?_, .inr ⟨b, _, _, all, rfl, .inl (by omega), h3, h4, h6⟩, rfl⟩
    simp only [sliceA, el.hs, tSl, el.he, boundsA, boundsA.low, hn1, q1, q2, q3, cond_true, Nat.beq_refl]
  · have hcap := hcap.symm
    subst hcap
    have q1 : lowCap (len + 1) = len + 1 := by unfold lowCap; exact Nat.mod_eq_of_lt hu
    have q3 : unkCap (len + 1) = false := by
      unfold unkCap
      cases hb : Nat.ble UNK (len + 1) with
      | false => rfl
      | true => rw [bleT] at hb; omega
    by_cases h0 : len = 0
    · subst h0
      refine ⟨.slice (some ⟨b, o, none⟩) (0 + 1 - 1) 0, ?_, .inr ⟨b, o, 0, all, rfl, .inr rfl, h3, h4, ?_⟩, rfl⟩
      · simp only [sliceA, el.hs, tSl, el.he, boundsA, boundsA.low, hn1, q1, q3, cond_false, Nat.beq_refl, cond_true]
      · rw [Nat.zero_mul]
        have : cs.drop j.size = [] := List.drop_eq_nil_iff.2 (by rw [seg_len h5]; omega)
        rw [this]; rfl
    · have q4 : Nat.beq (len + 1) 1 = false := by
        cases hb : Nat.beq (len + 1) 1 with
        | false => rfl
        | true => rw [beqT] at hb; omega
      refine ⟨.slice (some ⟨b, o + 1 * j.size, none⟩) (len + 1 - 1) (len + 1 - 1), ?_, .inr ⟨b, _, _, all, rfl, .inr (by omega), h3, h4, h6⟩, rfl⟩
      simp only [sliceA, el.hs, tSl, el.he, boundsA, boundsA.low, hn1, q1, q3, cond_false, q4]

end

section
variable {E : Env} {L : LT} {h h' : T Blk} {n n' : Nat} {o : Oper}
theorem D.cut1 {ty : TypeId} {x lo : Operand} {v c w : Value} (ho : o.op = .slice ty x (some lo) none none) (hx : evL E L x = some v) (hl : evL E L lo = some c) (hs : ∃ a len cap, v = .slice a len cap) (hv : sliceA E ty v (some c) none none = some w) : Does E L h n o (.val w h n) := fun t ht => by
  obtain ⟨a, len, cap, rfl⟩ := hs
  simp only [opA, ho, evL_ok ht hx, evOpt, evL_ok ht hl, hv, val?]
theorem D.cutTo {ty : TypeId} {x hi : Operand} {v c w : Value} (ho : o.op = .slice ty x none (some hi) none) (hx : evL E L x = some v) (hl : evL E L hi = some c) (hs : ∃ a len cap, v = .slice a len cap) (hv : sliceA E ty v none (some c) none = some w) : Does E L h n o (.val w h n) := fun t ht => by
  obtain ⟨a, len, cap, rfl⟩ := hs
  simp only [opA, ho, evL_ok ht hx, evOpt, evL_ok ht hl, hv, val?]
theorem D.conv {s d : TypeId} {x : Operand} {i : TyI} {a v : Value} (ho : o.op = .convert s d x) (hi : E.ty.get s = some i) (hx : evL E L x = some a) (hv : convA E d a = some v) : Does E L h n o (.val v h n) := fun t ht => by
  simp only [opA, ho, hi, evL_ok ht hx, hv, val?]
theorem D.makeFunc {k : Nat} {fs cs : Array Operand} {a b : List Value} (ho : o.op = .makeFunc (.func k) fs cs) (ha : evLs E L fs.toList = some a) (hb : evLs E L cs.toList = some b) : Does E L h n o (.val (.func (.func k) ⟨a⟩ ⟨b⟩) h n) := fun t ht => by
  simp only [opA, ho, evLs_ok ht ha, evLs_ok ht hb]
theorem D.callV {c : Call} {x : Operand} {f : FuncId} {fs cs : Array Value} {fn : Func} {args al : List Value} (ho : o.op = .call c) (hc : c.callee = .value x) (hx : evL E L x = some (.func (.func f) fs cs)) (ha : evLs E L c.args.toList = some args) (hf : E.fn.get f = some fn) (has : fs.toList ++ args ++ cs.toList = al) :
    Does E L h n o (.enter f al) := fun t ht => by
  subst has
  simp only [opA, ho, hc, evLs_ok ht ha, evL_ok ht hx, callA, hf]
theorem D.builtinS {c : Call} {b : Builtin} {args : List Value} {v : Value} (ho : o.op = .call c) (hc : c.callee = .builtin b) (ha : evLs E L c.args.toList = some args) (hr : builtinA E b c.argTypes.toList args h n = .val v h' n') : Does E L h n o (.val v h' n') := D.builtinV ho hc ha hr
end

end Go.Sx

/- SwE: slices.Repeat of one number. -/
namespace Go.Sx
open Go.Proofs
set_option maxRecDepth 100000
set_option maxHeartbeats 2000000

theorem fn83 : X.fn.get 83 = some Tryz.f83 := by kernel_rfl
theorem fn128 : X.fn.get 128 = some Tryz.f128 := by kernel_rfl
theorem xmemo128 : X.memo.get 128 = some L128 := by kernel_rfl
theorem ty213 : X.ty.get 213 = some { size := 1, bytes := 8, d := .int .u64, zero := [.int .u64 0], zok := true } := by kernel_rfl

theorem find128 {h : T Blk} {M : Nat} : ∀ {ms : List Nat}, M ∈ ms → findM h [.int .u64 1, .int .u64 (M : Int)] (ms.map fun m : Nat => (.lit (.int .u64 1) (.lit (.int .u64 (m : Int)) .nil), .tuple #[.int .u64 0, .int .u64 (m : Int)])) = some (.tuple #[.int .u64 0, .int .u64 (M : Int)])
  | [], hm => by simp at hm
  | m :: ms, hm => by
    have hh : hitC h (.lit (.int .u64 1) (.lit (.int .u64 (m : Int)) .nil)) [.int .u64 1, .int .u64 (M : Int)] = if m = M then some [] else none := by
      have e1 : sameV 6 (.int .u64 1) (.int .u64 1) = true := rfl
      have e2 : sameV 6 (.int .u64 (m : Int)) (.int .u64 (M : Int)) = decide ((m : Int) = (M : Int)) := by
        show (kindEq .u64 .u64 && decide ((m : Int) = (M : Int))) = _
        rw [show kindEq .u64 .u64 = true from rfl, Bool.true_and]
      simp only [hitC, e1, cond_true, e2]
      by_cases he : m = M
      · subst he; simp
      · rw [if_neg he, decide_eq_false (fun e => he (by omega))]; rfl
    rw [List.map_cons, findM]
    simp only [hh]
    by_cases he : m = M
    · subst he; simp
    · simp only [if_neg he]
      exact find128 ((List.mem_cons.1 hm).resolve_left (Ne.symm he))

theorem memo128 {h : T Blk} {M : Nat} (hg : groOK h gro0 = true) (hM : M ≤ 60) : memoA X 128 [.int .u64 1, .int .u64 (M : Int)] h = some (.tuple #[.int .u64 0, .int .u64 (M : Int)]) := by
  unfold memoA
  rw [xmemo128, show X.gro = gro0 from rfl, hg]
  exact find128 (List.mem_range.2 (by omega))

theorem convU {M : Nat} (hM : M ≤ 100000) : convA X 213 (.int .i64 (M : Int)) = some (.int .u64 (M : Int)) := by
  have : IntKind.u64.wrap (M : Int) = (M : Int) := IntWalk.u64_in _ (by omega)
  simp only [convA, ty213, this]
theorem convI {M : Nat} (hM : M ≤ 100000) : convA X 3 (.int .u64 (M : Int)) = some (.int .i64 (M : Int)) := by
  simp only [convA, ty3, tInt, IntWalk.i64_in _ (show -9223372036854775808 ≤ (M : Int) ∧ (M : Int) ≤ 9223372036854775807 by omega)]

theorem overAt_of {α : Type} (m : List α) : ∀ {l : List α} {o : Nat}, o + m.length ≤ l.length → overAt m l o = some (l.take o ++ m ++ l.drop (o + m.length)) := by
  have ov : ∀ (m l : List α), m.length ≤ l.length → over l m = some (m ++ l.drop m.length) := by
    intro m
    induction m with
    | nil => intro l _; cases l <;> rfl
    | cons b m ih =>
      intro l hl
      cases l with
      | nil => simp at hl
      | cons a l =>
        simp only [over, ih l (by simpa using hl), List.length_cons, List.drop_succ_cons, List.cons_append]
  intro l
  induction l with
  | nil =>
    intro o h
    have h1 : o = 0 := by simp at h; omega
    have h2 : m = [] := by cases m with
      | nil => rfl
      | cons b m => simp at h
    subst h1; subst h2; rfl
  | cons a l ih =>
    intro o h
    cases o with
    | zero =>
      simp only [overAt, Nat.beq_refl, cond_true, ov m (a :: l) (by simpa using h), List.take_zero, List.nil_append, Nat.zero_add]
    | succ o =>
      have hb : Nat.beq (o + 1) 0 = false := rfl
      simp only [overAt, hb, cond_false, Nat.add_sub_cancel, ih (o := o) (by simp at h; omega), List.take_succ_cons, List.cons_append, show o + 1 + m.length = (o + m.length) + 1 by omega, List.drop_succ_cons]

theorem sl_from {M c b : Nat} (hc : c < M) (hM : M ≤ 100000) : sliceA X 25 (.slice (some ⟨b, 0, none⟩) M M) (some (.int .i64 (c : Int))) none none = some (.slice (some ⟨b, c, none⟩) (M - c) (M - c)) := by
  have hu : M < UNK := by unfold UNK; omega
  have q1 : lowCap M = M := by unfold lowCap; exact Nat.mod_eq_of_lt hu
  have q3 : unkCap M = false := by
    unfold unkCap
    cases hb : Nat.ble UNK M with
    | false => rfl
    | true => rw [bleT] at hb; omega
  have hn1 : natV (.int .i64 (c : Int)) M = some c := by
    show natV (.int .i64 (Int.ofNat c)) M = some c
    simp only [natV, bif_eq_ite, bleT]
    rw [if_pos (by omega)]
  have q4 : Nat.beq M c = false := by
    cases hb : Nat.beq M c with
    | false => rfl
    | true => rw [beqT] at hb; omega
  simp only [sliceA, ty25, tSl, ty3, boundsA, boundsA.low, hn1, q1, q3, cond_false, q4, tInt, Nat.mul_one, Nat.zero_add]

theorem sl_to {M c b : Nat} (hc : c ≤ M) (h0 : 0 < M) (hM : M ≤ 100000) : sliceA X 25 (.slice (some ⟨b, 0, none⟩) M M) none (some (.int .i64 (c : Int))) none = some (.slice (some ⟨b, 0, none⟩) c M) := by
  have hu : M < UNK := by unfold UNK; omega
  have q1 : lowCap M = M := by unfold lowCap; exact Nat.mod_eq_of_lt hu
  have q3 : unkCap M = false := by
    unfold unkCap
    cases hb : Nat.ble UNK M with
    | false => rfl
    | true => rw [bleT] at hb; omega
  have hn1 : natV (.int .i64 (c : Int)) M = some c := by
    show natV (.int .i64 (Int.ofNat c)) M = some c
    simp only [natV, bif_eq_ite, bleT]
    rw [if_pos (by omega)]
  have q4 : Nat.beq M 0 = false := by
    cases hb : Nat.beq M 0 with
    | false => rfl
    | true => rw [beqT] at hb; omega
  simp only [sliceA, ty25, tSl, ty3, boundsA, boundsA.low, hn1, q1, q3, cond_false, q4, Nat.zero_mul, Nat.zero_add, Nat.sub_zero]

def fillN (c : Nat) (x : Int) (k : Nat) : Int := if k < c then x else 0

theorem natsF_over {M c k : Nat} {x : Int} (hk : c + k ≤ M) : overAt (List.replicate k (Value.int .i64 x)) (natsF M (fillN c x)) c = some (natsF M (fillN (c + k) x)) := by
  rw [overAt_of _ (by rw [List.length_replicate, natsF_len]; exact hk)]
  congr 1
  apply List.ext_getElem?
  intro j
  rw [List.length_replicate]
  by_cases hj : j < M
  · rw [natsF_at hj]
    by_cases h1 : j < c
    · rw [List.getElem?_append_left (by simp [natsF_len]; omega), List.getElem?_append_left (by simp [natsF_len]; omega), List.getElem?_take, if_pos h1, natsF_at hj]
      simp only [fillN, if_pos h1, if_pos (show j < c + k by omega)]
    · by_cases h2 : j < c + k
      · rw [List.getElem?_append_left (by simp [natsF_len]; omega), List.getElem?_append_right (by simp [natsF_len]; omega), List.getElem?_replicate]
        rw [if_pos (by simp [natsF_len]; omega)]
        simp only [fillN, if_pos h2]
      · rw [List.getElem?_append_right (by simp [natsF_len]; omega), List.getElem?_drop]
        have e : c + k + (j - ((natsF M (fillN c x)).take c ++ List.replicate k (Value.int .i64 x)).length) = j := by simp [natsF_len]; omega
        rw [e, natsF_at hj]
        simp only [fillN, if_neg h1, if_neg h2]
  · rw [List.getElem?_eq_none_iff.2 (by simp [natsF_len]; omega), List.getElem?_eq_none_iff.2 (by rw [natsF_len]; omega)]

theorem natsF_seg {M c k : Nat} {x : Int} (hk : k ≤ c) (hc : c ≤ M) : seg (natsF M (fillN c x)) 0 (k * 1) = some (List.replicate k (Value.int .i64 x)) := by
  rw [Nat.mul_one, seg_of (by rw [natsF_len]; omega)]
  congr 1
  apply List.ext_getElem?
  intro j
  rw [List.drop_zero, List.getElem?_take, List.getElem?_replicate]
  by_cases hj : j < k
  · rw [if_pos hj, if_pos hj, natsF_at (by omega)]
    simp only [fillN, if_pos (show j < c by omega)]
  · rw [if_neg hj, if_neg hj]

theorem allC_rep (k : Nat) (x : Int) : allCells (List.replicate k (Value.int .i64 x)) = true := by
  induction k with
  | zero => rfl
  | succ k ih => simp only [List.replicate_succ, allCells, isCell, cond_true, ih]

theorem repeat_cl (M b0 : Nat) (x : Int) (h : T Blk) (n : Nat) (hf : Fresh h n) (hb : h.get b0 = some (.cells [.int .i64 x])) (hgro : groOK h gro0 = true) (h0 : 0 < M) (hM : M ≤ 60) :
    Gives 83 [.slice (some ⟨b0, 0, none⟩) 1 1, .int .i64 (M : Int)] h n fun v h' _ => ∃ b, v = .slice (some ⟨b, 0, none⟩) M M ∧ n ≤ b ∧ h'.get b = some (.cells (natsF M fun _ => x)) := by
  have hbn := hf.lt hb
  have key : ∃ v h' n', Cl X 83 [.slice (some ⟨b0, 0, none⟩) 1 1, .int .i64 (M : Int)] h n (.ret v h' n') ∧ Keep n h h' ∧ n ≤ n' ∧ Fresh h' n' ∧ ∃ b, v = .slice (some ⟨b, 0, none⟩) M M ∧ n ≤ b ∧ h'.get b = some (.cells (natsF M fun _ => x)) := by
    refine Cl.wl (memoX (by decide)) fn83 rfl rfl rfl rfl ?_
    refine WL.seq (WL.reg ?_)
    refine OL.asg ?_
    refine OL.nil (WL.seq (WL.seq (WL.reg ?_)))
    refine OL.mv ?_; refine OL.bF ?_
    refine OL.nil (WL.condF rfl (WL.skip ?_))
    refine WL.seq (WL.reg ?_)
    refine OL.mv ?_
    refine OL.bi (lenA_slice ty25) ?_
    refine OL.val (by first | rfl | exact WantL.yes rfl rfl rfl) (D.conv rfl ty3 rfl (convU (M := 1) (by omega))) rfl rfl ?_
    refine OL.mv ?_
    refine OL.val (by first | rfl | exact WantL.yes rfl rfl rfl) (D.conv rfl ty3 rfl (convU (by omega))) rfl rfl ?_
    refine OL.cf fn128 (Cl.memo (memo128 hgro hM)) ?_
    refine OL.mv ?_; refine OL.ext ?_; refine OL.ext ?_; refine OL.asg ?_; refine OL.asg ?_
    refine OL.nil (WL.seq (WL.seq (WL.reg ?_)))
    refine OL.mv ?_; refine OL.bF ?_; refine OL.mv ?_; refine OL.mv ?_; refine OL.bF ?_; refine OL.pF ?_
    refine OL.nil (WL.condF rfl (WL.skip ?_))
    refine WL.seq (WL.reg ?_)
    refine OL.mv ?_
    refine OL.val (by first | rfl | exact WantL.yes rfl rfl rfl) (D.conv rfl ty213 rfl (convI (by omega))) rfl rfl ?_
    refine OL.ms (mkS (M := M) ty25 ty3 rfl rfl rfl rfl (by omega)) ?_
    refine OL.asg ?_
    refine OL.nil (WL.seq (WL.reg ?_))
    refine OL.mv ?_; refine OL.mv ?_
    have hcp : builtinA X .copy [25, 25] [.slice (some ⟨n, 0, none⟩) M M, .slice (some ⟨b0, 0, none⟩) 1 1] (h.upd (some (.cells (List.replicate M (.int .i64 0)))) n) n.succ = .val (.int .i64 ((1 : Nat) : Int)) (T.upd (some (.cells (natsF M (fillN 1 x)))) (h.upd (some (.cells (List.replicate M (.int .i64 0)))) n) n) n.succ := by
      have hm : Nat.min 1 M = 1 := by show min 1 M = 1; omega
      have hr : rowA (h.upd (some (.cells (List.replicate M (.int .i64 0)))) n) 1 1 (.slice (some ⟨b0, 0, none⟩) 1 1) = some [.int .i64 x] := by
        simp only [rowA, cells_of ((T.get_upd_ne _ _ (by omega : b0 ≠ n)).trans hb)]
        rfl
      have hz : List.replicate M (Value.int .i64 0) = natsF M (fillN 0 x) := by
        exact (natsF_zero M).trans (by congr 1)
      have ho := natsF_over (M := M) (c := 0) (k := 1) (x := x) (by omega)
      have hp : putA (h.upd (some (.cells (List.replicate M (.int .i64 0)))) n) n 0 [.int .i64 x] = some (T.upd (some (.cells (natsF M (fillN 1 x)))) (h.upd (some (.cells (List.replicate M (.int .i64 0)))) n) n) := by
        simp only [putA, T.get_upd_same, hz]
        rw [show [Value.int .i64 x] = List.replicate 1 (Value.int .i64 x) from rfl, allC_rep, ho]
        rfl
      simp only [builtinA, copyA, ty25, tSl, ty3, show tInt.size = 1 from rfl, hm, hr, hp]
    refine OL.bi hcp ?_
    refine OL.asg ?_
    refine OL.nil (WL.seq (WL.block ?_))
    refine WL.loop (k := M - 1) (fun k L h' n' => ∃ c : Nat, 1 ≤ c ∧ c ≤ M ∧ k = M - c ∧ Sub [(8, .int .i64 (c : Int)), (7, .slice (some ⟨n, 0, none⟩) M M)] L ∧ n' = n + 1 ∧ Keep n h h' ∧ Fresh h' (n + 1) ∧ h'.get n = some (.cells (natsF M (fillN c x)))) ?_
      ⟨1, Nat.le_refl _, h0, rfl, .cons rfl (.cons rfl .nil), rfl, ((Keep.refl n h).upd (Nat.le_refl n) _).upd (Nat.le_refl n) _, (hf.upd _).set (by omega) _, T.get_upd_same _ _ _⟩
    rintro k L h' n' ⟨c, h1, hcM, rfl, hs, rfl, hk, hf', hA⟩
    refine WL.keep hs ?_
    refine WL.seq (WL.seq (WL.reg ?_))
    refine OL.mv ?_; refine OL.mv ?_
    refine OL.bi (lenA_slice ty25) ?_
    by_cases c1 : (c : Int) < (M : Int)
    · refine OL.bT ?_
      refine OL.nil (WL.condT rfl (WL.skip ?_))
      refine WL.block (WL.regD (by kernel_rfl) (by kernel_rfl) ?_)
      refine OD.mv ?_; refine OD.mv ?_; refine OD.mv ?_
      refine OD.val (by first | rfl | exact WantL.yes rfl rfl rfl) (by repeat' (first | exact trivial | assumption | exact BelV.ptr (by omega) | exact BelV.sl (by omega) | exact BelV.fn1 (by omega) | exact BelV.fn2 (by omega) (by omega) | exact hbs _ (by omega) | exact rfl | refine And.intro (Exists.intro _ (And.intro rfl ?_)) ?_)) (D.cut1 rfl rfl rfl ⟨_, _, _, rfl⟩ (sl_from (by omega) (by omega))) rfl rfl ?_
      refine OD.mv ?_; refine OD.mv ?_
      refine OD.val (by first | rfl | exact WantL.yes rfl rfl rfl) (by repeat' (first | exact trivial | assumption | exact BelV.ptr (by omega) | exact BelV.sl (by omega) | exact BelV.fn1 (by omega) | exact BelV.fn2 (by omega) (by omega) | exact hbs _ (by omega) | exact rfl | refine And.intro (Exists.intro _ (And.intro rfl ?_)) ?_)) (D.cutTo rfl rfl rfl ⟨_, _, _, rfl⟩ (sl_to (by omega) h0 (by omega))) rfl rfl ?_
      have hcp : builtinA X .copy [25, 25] [.slice (some ⟨n, c, none⟩) (M - c) (M - c), .slice (some ⟨n, 0, none⟩) c M] h' (n + 1) = .val (.int .i64 ((min c (M - c) : Nat) : Int)) (T.upd (some (.cells (natsF M (fillN (c + min c (M - c)) x)))) h' n) (n + 1) := by
        have hr : rowA h' 1 (Nat.min c (M - c)) (.slice (some ⟨n, 0, none⟩) c M) = some (List.replicate (min c (M - c)) (.int .i64 x)) := by
          simp only [rowA, cells_of hA]
          exact natsF_seg (k := min c (M - c)) (by omega) hcM
        have hp : putA h' n c (List.replicate (min c (M - c)) (.int .i64 x)) = some (T.upd (some (.cells (natsF M (fillN (c + min c (M - c)) x)))) h' n) := by
          simp only [putA, hA, allC_rep, natsF_over (M := M) (c := c) (k := min c (M - c)) (x := x) (by omega)]
          rfl
        simp only [builtinA, copyA, ty25, tSl, ty3, show tInt.size = 1 from rfl, hr, hp]
      refine OD.bi hcp ?_
      refine OD.ad ?_
      refine OD.asg ?_
      refine OD.nil ⟨M - (c + min c (M - c)), by omega, c + min c (M - c), by omega, by omega, rfl, .cons ?_ (.cons rfl .nil), rfl, hk.upd (Nat.le_refl n) _, hf'.set (by omega) _, T.get_upd_same _ _ _⟩
      rw [show ((c + min c (M - c) : Nat) : Int) = (c : Int) + ((min c (M - c) : Nat) : Int) by omega]
      rfl
    · refine OL.bF ?_
      refine OL.nil (WL.condF rfl (WL.exit ?_))
      refine WL.seq (WL.reg ?_)
      refine OL.mv ?_; refine OL.asg ?_
      have hc : c = M := by omega
      subst hc
      refine OL.nil (WL.ret ⟨fun id e => (by cases e), _, rfl, hk, by omega, hf', n, rfl, Nat.le_refl n, ?_⟩)
      rw [hA]
      congr 2
      apply List.ext_getElem?
      intro j
      by_cases hj : j < c
      · rw [natsF_at hj, natsF_at hj]; simp only [fillN, if_pos hj]
      · rw [List.getElem?_eq_none_iff.2 (by rw [natsF_len]; omega), List.getElem?_eq_none_iff.2 (by rw [natsF_len]; omega)]
  exact key

end Go.Sx

/- SwG: regions that draw in which reading operations and others stand in no order: what was read is noted. -/
namespace Go.Sx
open Go.Proofs

/- What an operation was, as far as its place in the order asks. -/
inductive Evt where
  | pure
  | pass
  | rd (ty : TypeId) (p v : Value)
  | loud (h0 h1 : T Blk)

def EvtOK (E : Env) (all : List Oper) (i : Nat) (x : Ent) : Evt → Prop
  | .pure => True
  | .pass => x.did = false
  | .rd ty p v => x.did = true ∧ x.v = v ∧ ∃ o, nth all i = some o ∧ ∀ h, loadA E h ty p = some v → opA E x.t h 0 o = .val v h 0
  | .loud h0 h1 => x.h0 = h0 ∧ x.h1 = h1

def EvtsOK (E : Env) (all : List Oper) (acc : List Ent) (evs : List Evt) : Prop := acc.length = evs.length ∧ ∀ i e, nth evs i = some e → ∃ x, nth acc i = some x ∧ EvtOK E all i x e

theorem EvtsOK.add {E : Env} {all : List Oper} {acc : List Ent} {evs : List Evt} (h : EvtsOK E all acc evs) {x : Ent} {e : Evt} (he : EvtOK E all acc.length x e) : EvtsOK E all (acc ++ [x]) (evs ++ [e]) := by
  refine ⟨by simp [h.1], fun i e' hi => ?_⟩
  rw [nth_eq] at hi
  rcases Nat.lt_or_ge i evs.length with h1 | h1
  · rw [List.getElem?_append_left h1] at hi
    obtain ⟨x', h2, h3⟩ := h.2 i e' (by rw [nth_eq]; exact hi)
    exact ⟨x', nth_keep' h2, h3⟩
  · rw [List.getElem?_append_right h1] at hi
    have h2 : i - evs.length = 0 := by
      rcases Nat.eq_zero_or_pos (i - evs.length) with h3 | h3
      · exact h3
      · rw [List.getElem?_eq_none_iff.2 (by simp; omega)] at hi; cases hi
    rw [h2] at hi
    cases hi
    have h3 : i = acc.length := by have := h.1; omega
    subst h3
    exact ⟨x, by rw [nth_eq, List.getElem?_append_right (Nat.le_refl _)]; simp, he⟩
where
  nth_keep' {acc : List Ent} {k : Nat} {x e : Ent} (h : nth acc k = some x) : nth (acc ++ [e]) k = some x := by
    rw [nth_eq] at h ⊢
    rw [List.getElem?_append_left (List.getElem?_eq_some_iff.1 h).1]
    exact h

theorem EvtsOK.radd {E : Env} {all : List Oper} {acc : List Ent} {evs : List Evt} (h : EvtsOK E all acc evs.reverse) {x : Ent} {e : Evt} (he : EvtOK E all acc.length x e) : EvtsOK E all (acc ++ [x]) (e :: evs).reverse := by
  rw [List.reverse_cons]
  exact h.add he

/- What is read in no order with another operation reads the same on either side of it. -/
def FlOK (E : Env) (evs : List Evt) : List (Nat × Nat) → Prop
  | [] => True
  | (r, l) :: fl => (match nth evs r, nth evs l with
    | some .pass, some (.loud _ _) => True
    | some (.rd ty p v), some (.loud h0 h1) => loadA E (bif Nat.blt r l then h1 else h0) ty p = some v ∧ sameV 8 v v = true
    | _, some .pass => False
    | _, _ => False) ∧ FlOK E evs fl

theorem FlOK.nil {E : Env} {evs : List Evt} : FlOK E evs [] := trivial
theorem FlOK.cons {E : Env} {evs : List Evt} {r l : Nat} {fl : List (Nat × Nat)} {ty : TypeId} {p v : Value} {h0 h1 : T Blk} (a1 : nth evs r = some (.rd ty p v)) (a2 : nth evs l = some (.loud h0 h1)) (a3 : loadA E (bif Nat.blt r l then h1 else h0) ty p = some v) (a4 : sameV 8 v v = true) (a5 : FlOK E evs fl) : FlOK E evs ((r, l) :: fl) := by
  simp only [FlOK, a1, a2]
  exact ⟨⟨a3, a4⟩, a5⟩
theorem FlOK.pass {E : Env} {evs : List Evt} {r l : Nat} {fl : List (Nat × Nat)} {h0 h1 : T Blk} (a1 : nth evs r = some .pass) (a2 : nth evs l = some (.loud h0 h1)) (a5 : FlOK E evs fl) : FlOK E evs ((r, l) :: fl) := by
  simp only [FlOK, a1, a2]
  exact ⟨trivial, a5⟩

theorem FlOK.ok {E : Env} {all : List Oper} {acc : List Ent} {evs : List Evt} (hE : EvtsOK E all acc evs) (hall : ∀ i e, nth evs i = some e → ∃ o, nth all i = some o) : ∀ {fl : List (Nat × Nat)}, FlOK E evs fl → floatOK E all acc fl = true
  | [], _ => rfl
  | (r, l) :: fl, h => by
    obtain ⟨h1, h2⟩ := h
    have ih := FlOK.ok hE hall h2
    split at h1
    · rename_i a b q1 q2
      obtain ⟨x, x1, x2⟩ := hE.2 _ _ q1
      obtain ⟨y, y1, y2⟩ := hE.2 _ _ q2
      obtain ⟨o, ho⟩ := hall _ _ q1
      have x2 : x.did = false := x2
      simp only [floatOK, ho, x1, y1, ih, readsSame, x2, cond_false, Bool.and_self]
    · rename_i ty p v b0 b1 q1 q2
      obtain ⟨x, x1, x2, x3, o, x4, x5⟩ := hE.2 _ _ q1
      obtain ⟨y, y1, y2, y3⟩ := hE.2 _ _ q2
      have h3 := x5 _ h1.1
      have h4 := h1.2
      simp only [floatOK, x4, x1, y1, ih, y2, y3, readsSame, x2, cond_true, h3, x3, h4, Bool.and_self]
    · exact h1.elim
    · exact h1.elim

def OG (E : Env) (many : Nat) (all l : List Oper) (evs : List Evt) (L : LT) (h : T Blk) (n : Nat) (Q : List Evt → LT → T Blk → Nat → Prop) : Prop :=
  ∀ t acc, Has t L → EvtsOK E all acc evs.reverse → (∃ pre, all = pre ++ l ∧ pre.length = evs.length) → OpsDW E many all l acc t h n (fun log t' h' n' => ∃ L' evs', Has t' L' ∧ EvtsOK E all log evs' ∧ evs'.length = all.length ∧ Q evs' L' h' n')

theorem all_at {all pre l : List Oper} {o : Oper} {evs : List Evt} (h : all = pre ++ o :: l) (hp : pre.length = evs.length) : nth all evs.length = some o := by
  rw [h, nth_eq, ← hp, List.getElem?_append_right (Nat.le_refl _)]
  simp

section
variable {E : Env} {many : Nat} {all l : List Oper} {evs : List Evt} {L : LT} {h h' : T Blk} {n n' : Nat} {Q : List Evt → LT → T Blk → Nat → Prop} {o : Oper}

theorem OG.nil (hq : Q evs.reverse L h n) : OG E many all [] evs L h n Q := fun _ _ ht he hp => ⟨L, evs.reverse, ht, he, by obtain ⟨pre, h1, h2⟩ := hp; rw [List.length_reverse, h1, ← h2]; simp, hq⟩
theorem pre_next {all pre l : List Oper} {o : Oper} {evs : List Evt} {e : Evt} (h : all = pre ++ o :: l) (hp : pre.length = evs.length) : ∃ pre', all = pre' ++ l ∧ pre'.length = (e :: evs).length := ⟨pre ++ [o], by rw [h]; simp, by simp [hp]⟩

theorem OG.val {v : Value} {d : Tmp} (hw : WantL all L o.guard true) (hb : BelT n L (opTmps o)) (ho : Does E L h n o (.val v h' n')) (hd : o.dst = some d) (hm : Nat.blt d many = true) (hk : OG E many all l (.pure :: evs) ((d, v) :: L) h' n' Q) : OG E many all (o :: l) evs L h n Q := by
  rintro t acc ht he ⟨pre, h1, h2⟩
  exact OT.val ht hw hb ho hd hm (hk _ _ (ht.put d v) (he.radd (e := .pure) trivial) (pre_next h1 h2))
theorem OG.valR {v p : Value} {ty : TypeId} {x : Operand} {d : Tmp} (hw : WantL all L o.guard true) (hb : BelT n L (opTmps o)) (ho : o.op = .load ty x) (hx : evL E L x = some p) (hv : loadA E h ty p = some v) (hd : o.dst = some d) (hm : Nat.blt d many = true) (hk : OG E many all l (.rd ty p v :: evs) ((d, v) :: L) h n Q) : OG E many all (o :: l) evs L h n Q := by
  rintro t acc ht he ⟨pre, h1, h2⟩
  refine OT.val ht hw hb (D.load ho hx hv) hd hm (hk _ _ (ht.put d v) (he.radd (e := .rd ty p v) ⟨rfl, rfl, o, ?_, fun h2 hv2 => ?_⟩) (pre_next h1 h2))
  · rw [he.1, List.length_reverse]; exact all_at h1 h2
  · exact D.load ho hx hv2 t ht
theorem OG.valL {v : Value} {d : Tmp} (hw : WantL all L o.guard true) (hb : BelT n L (opTmps o)) (ho : Does E L h n o (.val v h' n')) (hd : o.dst = some d) (hm : Nat.blt d many = true) (hk : OG E many all l (.loud h h' :: evs) ((d, v) :: L) h' n' Q) : OG E many all (o :: l) evs L h n Q := by
  rintro t acc ht he ⟨pre, h1, h2⟩
  exact OT.val ht hw hb ho hd hm (hk _ _ (ht.put d v) (he.radd (e := .loud h h') ⟨rfl, rfl⟩) (pre_next h1 h2))
theorem OG.skip (hw : WantL all L o.guard true) (hb : BelT n L (opTmps o)) (ho : Does E L h n o (.skip h' n')) (hd : o.dst = none) (hk : OG E many all l (.loud h h' :: evs) L h' n' Q) : OG E many all (o :: l) evs L h n Q := by
  rintro t acc ht he ⟨pre, h1, h2⟩
  exact OT.skip ht hw hb ho hd (hk _ _ ht (he.radd (e := .loud h h') ⟨rfl, rfl⟩) (pre_next h1 h2))
theorem OG.call {f : FuncId} {args : List Value} {v : Value} {d : Tmp} (hw : WantL all L o.guard true) (hb : BelT n L (opTmps o)) (ho : Does E L h n o (.enter f args)) (hc : Cl E f args h n (.ret v h' n')) (hd : o.dst = some d) (hm : Nat.blt d many = true)
    (hk : OG E many all l (.loud h h' :: evs) ((d, v) :: L) h' n' Q) : OG E many all (o :: l) evs L h n Q := by
  rintro t acc ht he ⟨pre, h1, h2⟩
  exact OT.call ht hw hb ho hc hd hm (hk _ _ (ht.put d v) (he.radd (e := .loud h h') ⟨rfl, rfl⟩) (pre_next h1 h2))
theorem OG.pass {d : Tmp} (hw : WantL all L o.guard false) (hd : o.dst = some d) (hm : Nat.blt d many = true) (hk : OG E many all l (.pass :: evs) ((d, undefV) :: L) h n Q) : OG E many all (o :: l) evs L h n Q := by
  rintro t acc ht he ⟨pre, h1, h2⟩
  exact OT.pass ht hw hd hm (hk _ _ (ht.put d undefV) (he.radd (e := .pass) rfl) (pre_next h1 h2))

end

theorem OpsDW.mono {E : Env} {many : Nat} {all : List Oper} : ∀ {l : List Oper} {acc : List Ent} {t : T Value} {h : T Blk} {n : Nat} {Q Q' : List Ent → T Value → T Blk → Nat → Prop}, (∀ a t h n, Q a t h n → Q' a t h n) → OpsDW E many all l acc t h n Q → OpsDW E many all l acc t h n Q'
  | [], acc, t, h, n, Q, Q', hq, hx => hq _ _ _ _ hx
  | o :: l, acc, t, h, n, Q, Q', hq, hx => by
    simp only [OpsDW] at hx ⊢
    split
    · rename_i hw
      rw [hw] at hx
      refine ⟨hx.1, ?_⟩
      have hx := hx.2
      split
      · rename_i ho; rw [ho] at hx
        simp only at hx
        split
        · rename_i hp; rw [hp] at hx; exact OpsDW.mono hq hx
        · rename_i hp; rw [hp] at hx; exact hx
      · rename_i ho; rw [ho] at hx
        simp only at hx
        split
        · rename_i hp; rw [hp] at hx; exact OpsDW.mono hq hx
        · rename_i hp; rw [hp] at hx; exact hx
      · rename_i ho; rw [ho] at hx
        simp only at hx
        obtain ⟨v, h1, n1, h2, hx⟩ := hx
        refine ⟨v, h1, n1, h2, ?_⟩
        split
        · rename_i hp; rw [hp] at hx; exact OpsDW.mono hq hx
        · rename_i hp; rw [hp] at hx; exact hx
      · rename_i h1 h2 h3
        split at hx
        · rename_i e; exact (h1 _ _ _ e).elim
        · rename_i e; exact (h2 _ _ e).elim
        · rename_i e; exact (h3 _ _ e).elim
        · exact hx
    · rename_i hw
      rw [hw] at hx
      simp only at hx
      split
      · rename_i hp; rw [hp] at hx; exact OpsDW.mono hq hx
      · rename_i hp; rw [hp] at hx; exact hx
    · rename_i hw
      rw [hw] at hx; exact hx

theorem WL.regG {E : Env} {many : Nat} {L : LT} {h : T Blk} {n : Nat} {Q : Ex → LT → T Blk → Nat → Prop} {id : Nat} {ops : Array Oper} (fl : List (Nat × Nat)) (hR : regOK ops.toList = true) (hF : regFl ops.toList = fl)
    (hw : OG E many ops.toList ops.toList [] L h n (fun evs L' h' n' => FlOK E evs fl ∧ Q .normal L' h' n')) : WL E many (.region id ops true) L h n Q := by
  subst hF
  intro t ht
  refine WP.regD hR (OpsDW.mono ?_ (hw t [] ht ⟨rfl, fun i e hi => by simp [nth] at hi⟩ ⟨[], rfl, rfl⟩))
  rintro log t' h' n' ⟨L', evs', h1, h2, h3, h4, h5⟩
  refine ⟨h4.ok h2 fun i e hi => ?_, L', h1, h5⟩
  rw [nth_eq] at hi
  have := (List.getElem?_eq_some_iff.1 hi).1
  exact ⟨_, by rw [nth_eq]; exact List.getElem?_eq_getElem (by omega)⟩

section
variable {E : Env} {many : Nat} {all l : List Oper} {evs : List Evt} {L : LT} {h h' : T Blk} {n n' : Nat} {Q : List Evt → LT → T Blk → Nat → Prop} {o : Oper} {d : Tmp} {v : Value}

theorem OG.mv {x : Operand} (hk : OG E many all l (.pure :: evs) ((d, v) :: L) h n Q) (ho : o.op = .move x := by rfl) (hx : evL E L x = some v := by rfl) (hw : WantL all L o.guard true := by first | rfl | exact WantL.yes rfl rfl rfl) (hd : o.dst = some d := by rfl) (hm : Nat.blt d many = true := by rfl) (hb' : BelT n L (opTmps o) := by repeat' (first | exact trivial | assumption | exact BelV.ptr (by omega) | exact BelV.sl (by omega) | exact BelV.fn1 (by omega) | exact BelV.fn2 (by omega) (by omega) | exact rfl | exact (show ∀ k, _ ≤ k → BelV k _ from by assumption) _ (by omega) | refine And.intro (Exists.intro _ (And.intro rfl ?_)) ?_)) : OG E many all (o :: l) evs L h n Q := OG.val hw hb' (D.move ho hx) hd hm hk
theorem OG.asg {x : Operand} (hk : OG E many all l (.pure :: evs) ((d, v) :: L) h n Q) (ho : o.op = .assign x := by rfl) (hx : evL E L x = some v := by rfl) (hw : WantL all L o.guard true := by first | rfl | exact WantL.yes rfl rfl rfl) (hd : o.dst = some d := by rfl) (hm : Nat.blt d many = true := by rfl) (hb' : BelT n L (opTmps o) := by repeat' (first | exact trivial | assumption | exact BelV.ptr (by omega) | exact BelV.sl (by omega) | exact BelV.fn1 (by omega) | exact BelV.fn2 (by omega) (by omega) | exact rfl | exact (show ∀ k, _ ≤ k → BelV k _ from by assumption) _ (by omega) | refine And.intro (Exists.intro _ (And.intro rfl ?_)) ?_)) : OG E many all (o :: l) evs L h n Q := OG.val hw hb' (D.assign ho hx) hd hm hk
theorem OG.ps (hk : OG E many all l (.pass :: evs) ((d, undefV) :: L) h n Q) (hw : WantL all L o.guard false := by first | exact WantL.no rfl rfl rfl | exact WantL.un rfl rfl rfl) (hd : o.dst = some d := by rfl) (hm : Nat.blt d many = true := by rfl) : OG E many all (o :: l) evs L h n Q := OG.pass hw hd hm hk
theorem OG.pT {c x y : Operand} (hk : OG E many all l (.pure :: evs) ((d, v) :: L) h n Q) (ho : o.op = .pick c x y := by rfl) (hc : evL E L c = some (.bool true) := by rfl) (hx : evL E L x = some v := by rfl) (hw : WantL all L o.guard true := by first | rfl | exact WantL.yes rfl rfl rfl) (hd : o.dst = some d := by rfl) (hm : Nat.blt d many = true := by rfl) (hb' : BelT n L (opTmps o) := by repeat' (first | exact trivial | assumption | exact BelV.ptr (by omega) | exact BelV.sl (by omega) | exact BelV.fn1 (by omega) | exact BelV.fn2 (by omega) (by omega) | exact rfl | exact (show ∀ k, _ ≤ k → BelV k _ from by assumption) _ (by omega) | refine And.intro (Exists.intro _ (And.intro rfl ?_)) ?_)) : OG E many all (o :: l) evs L h n Q := OG.val hw hb' (D.pickT ho hc hx) hd hm hk
theorem OG.pF {c x y : Operand} (hk : OG E many all l (.pure :: evs) ((d, v) :: L) h n Q) (ho : o.op = .pick c x y := by rfl) (hc : evL E L c = some (.bool false) := by rfl) (hx : evL E L y = some v := by rfl) (hw : WantL all L o.guard true := by first | rfl | exact WantL.yes rfl rfl rfl) (hd : o.dst = some d := by rfl) (hm : Nat.blt d many = true := by rfl) (hb' : BelT n L (opTmps o) := by repeat' (first | exact trivial | assumption | exact BelV.ptr (by omega) | exact BelV.sl (by omega) | exact BelV.fn1 (by omega) | exact BelV.fn2 (by omega) (by omega) | exact rfl | exact (show ∀ k, _ ≤ k → BelV k _ from by assumption) _ (by omega) | refine And.intro (Exists.intro _ (And.intro rfl ?_)) ?_)) : OG E many all (o :: l) evs L h n Q := OG.val hw hb' (D.pickF ho hc hx) hd hm hk
theorem OG.un {op : UnOp} {ty : TypeId} {x : Operand} {a : Value} (hk : OG E many all l (.pure :: evs) ((d, v) :: L) h n Q) (ho : o.op = .unOp op ty x := by rfl) (hx : evL E L x = some a := by rfl) (hb : unA op a = some v := by rfl) (hw : WantL all L o.guard true := by first | rfl | exact WantL.yes rfl rfl rfl) (hd : o.dst = some d := by rfl) (hm : Nat.blt d many = true := by rfl) (hb' : BelT n L (opTmps o) := by repeat' (first | exact trivial | assumption | exact BelV.ptr (by omega) | exact BelV.sl (by omega) | exact BelV.fn1 (by omega) | exact BelV.fn2 (by omega) (by omega) | exact rfl | exact (show ∀ k, _ ≤ k → BelV k _ from by assumption) _ (by omega) | refine And.intro (Exists.intro _ (And.intro rfl ?_)) ?_)) : OG E many all (o :: l) evs L h n Q := OG.val hw hb' (D.un ho hx hb) hd hm hk
theorem OG.ext {x : Operand} {k : Nat} {vs : Array Value} (hk : OG E many all l (.pure :: evs) ((d, v) :: L) h n Q) (ho : o.op = .extract x k := by rfl) (hx : evL E L x = some (.tuple vs) := by rfl) (hv : nth vs.toList k = some v := by rfl) (hw : WantL all L o.guard true := by first | rfl | exact WantL.yes rfl rfl rfl) (hd : o.dst = some d := by rfl) (hm : Nat.blt d many = true := by rfl) (hb' : BelT n L (opTmps o) := by repeat' (first | exact trivial | assumption | exact BelV.ptr (by omega) | exact BelV.sl (by omega) | exact BelV.fn1 (by omega) | exact BelV.fn2 (by omega) (by omega) | exact rfl | exact (show ∀ k, _ ≤ k → BelV k _ from by assumption) _ (by omega) | refine And.intro (Exists.intro _ (And.intro rfl ?_)) ?_)) : OG E many all (o :: l) evs L h n Q := OG.val hw hb' (D.extract ho hx hv) hd hm hk
theorem OG.nc {x : Operand} {a : Addr} (hk : OG E many all l (.pure :: evs) ((d, .pointer (some a)) :: L) h n Q) (ho : o.op = .nilCheck x := by rfl) (hx : evL E L x = some (.pointer (some a)) := by rfl) (hw : WantL all L o.guard true := by first | rfl | exact WantL.yes rfl rfl rfl) (hd : o.dst = some d := by rfl) (hm : Nat.blt d many = true := by rfl) (hb' : BelT n L (opTmps o) := by repeat' (first | exact trivial | assumption | exact BelV.ptr (by omega) | exact BelV.sl (by omega) | exact BelV.fn1 (by omega) | exact BelV.fn2 (by omega) (by omega) | exact rfl | exact (show ∀ k, _ ≤ k → BelV k _ from by assumption) _ (by omega) | refine And.intro (Exists.intro _ (And.intro rfl ?_)) ?_)) : OG E many all (o :: l) evs L h n Q := OG.val hw hb' (D.nilCheck ho hx) hd hm hk
theorem OG.ix {ty : TypeId} {x i : Operand} {a k : Value} (hv : idxA E ty a k = some v) (hk : OG E many all l (.pure :: evs) ((d, v) :: L) h n Q) (ho : o.op = .indexAddr ty x i := by rfl) (hx : evL E L x = some a := by rfl) (hi : evL E L i = some k := by rfl) (hw : WantL all L o.guard true := by first | rfl | exact WantL.yes rfl rfl rfl) (hd : o.dst = some d := by rfl) (hm : Nat.blt d many = true := by rfl) (hb' : BelT n L (opTmps o) := by repeat' (first | exact trivial | assumption | exact BelV.ptr (by omega) | exact BelV.sl (by omega) | exact BelV.fn1 (by omega) | exact BelV.fn2 (by omega) (by omega) | exact rfl | exact (show ∀ k, _ ≤ k → BelV k _ from by assumption) _ (by omega) | refine And.intro (Exists.intro _ (And.intro rfl ?_)) ?_)) : OG E many all (o :: l) evs L h n Q := OG.val hw hb' (D.index ho hx hi hv) hd hm hk
theorem OG.ld {ty : TypeId} {x : Operand} {p : Value} (hv : loadA E h ty p = some v) (hk : OG E many all l (.rd ty p v :: evs) ((d, v) :: L) h n Q) (ho : o.op = .load ty x := by rfl) (hx : evL E L x = some p := by rfl) (hw : WantL all L o.guard true := by first | rfl | exact WantL.yes rfl rfl rfl) (hd : o.dst = some d := by rfl) (hm : Nat.blt d many = true := by rfl) (hb' : BelT n L (opTmps o) := by repeat' (first | exact trivial | assumption | exact BelV.ptr (by omega) | exact BelV.sl (by omega) | exact BelV.fn1 (by omega) | exact BelV.fn2 (by omega) (by omega) | exact rfl | exact (show ∀ k, _ ≤ k → BelV k _ from by assumption) _ (by omega) | refine And.intro (Exists.intro _ (And.intro rfl ?_)) ?_)) : OG E many all (o :: l) evs L h n Q := OG.valR hw hb' ho hx hv hd hm hk
theorem OG.st {ty : TypeId} {x y : Operand} {p w : Value} (hv : storeA E h ty p w = some h') (hk : OG E many all l (.loud h h' :: evs) L h' n Q) (ho : o.op = .store ty x y := by rfl) (hx : evL E L x = some p := by rfl) (hy : evL E L y = some w := by rfl) (hw : WantL all L o.guard true := by first | rfl | exact WantL.yes rfl rfl rfl) (hd : o.dst = none := by rfl) (hb' : BelT n L (opTmps o) := by repeat' (first | exact trivial | assumption | exact BelV.ptr (by omega) | exact BelV.sl (by omega) | exact BelV.fn1 (by omega) | exact BelV.fn2 (by omega) (by omega) | exact rfl | exact (show ∀ k, _ ≤ k → BelV k _ from by assumption) _ (by omega) | refine And.intro (Exists.intro _ (And.intro rfl ?_)) ?_)) : OG E many all (o :: l) evs L h n Q := OG.skip hw hb' (D.store ho hx hy hv) hd hk
theorem OG.fd {s : TypeId} {x : Operand} {k b off f : Nat} (hf : fieldOff E s k = some f) (hk : OG E many all l (.pure :: evs) ((d, .pointer (some ⟨b, off + f, none⟩)) :: L) h n Q) (ho : o.op = .fieldAddr s x k := by rfl) (hx : evL E L x = some (.pointer (some ⟨b, off, none⟩)) := by rfl) (hw : WantL all L o.guard true := by first | rfl | exact WantL.yes rfl rfl rfl) (hd : o.dst = some d := by rfl) (hm : Nat.blt d many = true := by rfl) (hb' : BelT n L (opTmps o) := by repeat' (first | exact trivial | assumption | exact BelV.ptr (by omega) | exact BelV.sl (by omega) | exact BelV.fn1 (by omega) | exact BelV.fn2 (by omega) (by omega) | exact rfl | exact (show ∀ k, _ ≤ k → BelV k _ from by assumption) _ (by omega) | refine And.intro (Exists.intro _ (And.intro rfl ?_)) ?_)) : OG E many all (o :: l) evs L h n Q := OG.val hw hb' (D.field ho hx hf) hd hm hk
theorem OG.bT {op : BinOp} {ty yt : TypeId} {x y : Operand} {a b : Value} {P : Prop} {i : Decidable P} (hk : OG E many all l (.pure :: evs) ((d, .bool true) :: L) h n Q) (ho : o.op = .binOp op ty x y yt := by rfl) (hx : evL E L x = some a := by rfl) (hy : evL E L y = some b := by rfl) (hb : binA E op ty (isConstO x || isConstO y) a b = some (.bool (@decide P i)) := by rfl) (hp : P := by first | assumption | omega) (hw : WantL all L o.guard true := by first | rfl | exact WantL.yes rfl rfl rfl) (hd : o.dst = some d := by rfl) (hm : Nat.blt d many = true := by rfl) (hb' : BelT n L (opTmps o) := by repeat' (first | exact trivial | assumption | exact BelV.ptr (by omega) | exact BelV.sl (by omega) | exact BelV.fn1 (by omega) | exact BelV.fn2 (by omega) (by omega) | exact rfl | exact (show ∀ k, _ ≤ k → BelV k _ from by assumption) _ (by omega) | refine And.intro (Exists.intro _ (And.intro rfl ?_)) ?_)) : OG E many all (o :: l) evs L h n Q := OG.val hw hb' (D.binT ho hx hy hb hp) hd hm hk
theorem OG.bF {op : BinOp} {ty yt : TypeId} {x y : Operand} {a b : Value} {P : Prop} {i : Decidable P} (hk : OG E many all l (.pure :: evs) ((d, .bool false) :: L) h n Q) (ho : o.op = .binOp op ty x y yt := by rfl) (hx : evL E L x = some a := by rfl) (hy : evL E L y = some b := by rfl) (hb : binA E op ty (isConstO x || isConstO y) a b = some (.bool (@decide P i)) := by rfl) (hp : ¬ P := by first | assumption | omega) (hw : WantL all L o.guard true := by first | rfl | exact WantL.yes rfl rfl rfl) (hd : o.dst = some d := by rfl) (hm : Nat.blt d many = true := by rfl) (hb' : BelT n L (opTmps o) := by repeat' (first | exact trivial | assumption | exact BelV.ptr (by omega) | exact BelV.sl (by omega) | exact BelV.fn1 (by omega) | exact BelV.fn2 (by omega) (by omega) | exact rfl | exact (show ∀ k, _ ≤ k → BelV k _ from by assumption) _ (by omega) | refine And.intro (Exists.intro _ (And.intro rfl ?_)) ?_)) : OG E many all (o :: l) evs L h n Q := OG.val hw hb' (D.binF ho hx hy hb hp) hd hm hk
theorem OG.nT {ty yt : TypeId} {x y : Operand} {a b : Value} {P : Prop} {i : Decidable P} (hk : OG E many all l (.pure :: evs) ((d, .bool true) :: L) h n Q) (ho : o.op = .binOp .neq ty x y yt := by rfl) (hx : evL E L x = some a := by rfl) (hy : evL E L y = some b := by rfl) (hb : binA E .neq ty (isConstO x || isConstO y) a b = some (.bool (!@decide P i)) := by rfl) (hp : ¬ P := by first | assumption | omega) (hw : WantL all L o.guard true := by first | rfl | exact WantL.yes rfl rfl rfl) (hd : o.dst = some d := by rfl) (hm : Nat.blt d many = true := by rfl) (hb' : BelT n L (opTmps o) := by repeat' (first | exact trivial | assumption | exact BelV.ptr (by omega) | exact BelV.sl (by omega) | exact BelV.fn1 (by omega) | exact BelV.fn2 (by omega) (by omega) | exact rfl | exact (show ∀ k, _ ≤ k → BelV k _ from by assumption) _ (by omega) | refine And.intro (Exists.intro _ (And.intro rfl ?_)) ?_)) : OG E many all (o :: l) evs L h n Q := OG.val hw hb' (D.neT ho hx hy hb hp) hd hm hk
theorem OG.nF {ty yt : TypeId} {x y : Operand} {a b : Value} {P : Prop} {i : Decidable P} (hk : OG E many all l (.pure :: evs) ((d, .bool false) :: L) h n Q) (ho : o.op = .binOp .neq ty x y yt := by rfl) (hx : evL E L x = some a := by rfl) (hy : evL E L y = some b := by rfl) (hb : binA E .neq ty (isConstO x || isConstO y) a b = some (.bool (!@decide P i)) := by rfl) (hp : P := by first | assumption | omega) (hw : WantL all L o.guard true := by first | rfl | exact WantL.yes rfl rfl rfl) (hd : o.dst = some d := by rfl) (hm : Nat.blt d many = true := by rfl) (hb' : BelT n L (opTmps o) := by repeat' (first | exact trivial | assumption | exact BelV.ptr (by omega) | exact BelV.sl (by omega) | exact BelV.fn1 (by omega) | exact BelV.fn2 (by omega) (by omega) | exact rfl | exact (show ∀ k, _ ≤ k → BelV k _ from by assumption) _ (by omega) | refine And.intro (Exists.intro _ (And.intro rfl ?_)) ?_)) : OG E many all (o :: l) evs L h n Q := OG.val hw hb' (D.neF ho hx hy hb hp) hd hm hk
theorem OG.bv {op : BinOp} {ty yt : TypeId} {x y : Operand} {a b : Value} (hb : binA E op ty (isConstO x || isConstO y) a b = some v) (hk : OG E many all l (.pure :: evs) ((d, v) :: L) h n Q) (ho : o.op = .binOp op ty x y yt := by rfl) (hx : evL E L x = some a := by rfl) (hy : evL E L y = some b := by rfl) (hw : WantL all L o.guard true := by first | rfl | exact WantL.yes rfl rfl rfl) (hd : o.dst = some d := by rfl) (hm : Nat.blt d many = true := by rfl) (hb' : BelT n L (opTmps o) := by repeat' (first | exact trivial | assumption | exact BelV.ptr (by omega) | exact BelV.sl (by omega) | exact BelV.fn1 (by omega) | exact BelV.fn2 (by omega) (by omega) | exact rfl | exact (show ∀ k, _ ≤ k → BelV k _ from by assumption) _ (by omega) | refine And.intro (Exists.intro _ (And.intro rfl ?_)) ?_)) : OG E many all (o :: l) evs L h n Q := OG.val hw hb' (D.bin ho hx hy hb) hd hm hk
theorem OG.ad1 {ty yt : TypeId} {x y : Operand} {a : Nat} (hk : OG E many all l (.pure :: evs) ((d, .int .i64 ((a + 1 : Nat) : Int)) :: L) h n Q) (ho : o.op = .binOp .add ty x y yt := by rfl) (hx : evL E L x = some (.int .i64 (a : Int)) := by rfl) (hy : evL E L y = some (.int .i64 1) := by rfl) (hr : a < 9223372036854775807 := by omega) (hw : WantL all L o.guard true := by first | rfl | exact WantL.yes rfl rfl rfl) (hd : o.dst = some d := by rfl) (hm : Nat.blt d many = true := by rfl) (hb' : BelT n L (opTmps o) := by repeat' (first | exact trivial | assumption | exact BelV.ptr (by omega) | exact BelV.sl (by omega) | exact BelV.fn1 (by omega) | exact BelV.fn2 (by omega) (by omega) | exact rfl | exact (show ∀ k, _ ≤ k → BelV k _ from by assumption) _ (by omega) | refine And.intro (Exists.intro _ (And.intro rfl ?_)) ?_)) : OG E many all (o :: l) evs L h n Q := OG.val hw hb' (D.addN ho hx hy hr) hd hm hk
theorem OG.ad {ty yt : TypeId} {x y : Operand} {a b : Int} (hk : OG E many all l (.pure :: evs) ((d, .int .i64 (a + b)) :: L) h n Q) (ho : o.op = .binOp .add ty x y yt := by rfl) (hx : evL E L x = some (.int .i64 a) := by rfl) (hy : evL E L y = some (.int .i64 b) := by rfl) (hr : -9223372036854775808 ≤ a + b ∧ a + b ≤ 9223372036854775807 := by omega) (hw : WantL all L o.guard true := by first | rfl | exact WantL.yes rfl rfl rfl) (hd : o.dst = some d := by rfl) (hm : Nat.blt d many = true := by rfl) (hb' : BelT n L (opTmps o) := by repeat' (first | exact trivial | assumption | exact BelV.ptr (by omega) | exact BelV.sl (by omega) | exact BelV.fn1 (by omega) | exact BelV.fn2 (by omega) (by omega) | exact rfl | exact (show ∀ k, _ ≤ k → BelV k _ from by assumption) _ (by omega) | refine And.intro (Exists.intro _ (And.intro rfl ?_)) ?_)) : OG E many all (o :: l) evs L h n Q := OG.val hw hb' (D.add ho hx hy hr) hd hm hk
theorem OG.sb {ty yt : TypeId} {x y : Operand} {a b : Int} (hk : OG E many all l (.pure :: evs) ((d, .int .i64 (a - b)) :: L) h n Q) (ho : o.op = .binOp .sub ty x y yt := by rfl) (hx : evL E L x = some (.int .i64 a) := by rfl) (hy : evL E L y = some (.int .i64 b) := by rfl) (hr : -9223372036854775808 ≤ a - b ∧ a - b ≤ 9223372036854775807 := by omega) (hw : WantL all L o.guard true := by first | rfl | exact WantL.yes rfl rfl rfl) (hd : o.dst = some d := by rfl) (hm : Nat.blt d many = true := by rfl) (hb' : BelT n L (opTmps o) := by repeat' (first | exact trivial | assumption | exact BelV.ptr (by omega) | exact BelV.sl (by omega) | exact BelV.fn1 (by omega) | exact BelV.fn2 (by omega) (by omega) | exact rfl | exact (show ∀ k, _ ≤ k → BelV k _ from by assumption) _ (by omega) | refine And.intro (Exists.intro _ (And.intro rfl ?_)) ?_)) : OG E many all (o :: l) evs L h n Q := OG.val hw hb' (D.sub ho hx hy hr) hd hm hk
theorem OG.al {e : TypeId} {i : TyI} (hi : E.ty.get e = some i) (hk : OG E many all l (.pure :: evs) ((d, ptrTo n) :: L) (h.upd (some (.cells i.zero)) n) (n + 1) Q) (ho : o.op = .alloc e := by rfl) (hz : i.zok = true := by rfl) (hw : WantL all L o.guard true := by first | rfl | exact WantL.yes rfl rfl rfl) (hd : o.dst = some d := by rfl) (hm : Nat.blt d many = true := by rfl) (hb' : BelT n L (opTmps o) := by repeat' (first | exact trivial | assumption | exact BelV.ptr (by omega) | exact BelV.sl (by omega) | exact BelV.fn1 (by omega) | exact BelV.fn2 (by omega) (by omega) | exact rfl | exact (show ∀ k, _ ≤ k → BelV k _ from by assumption) _ (by omega) | refine And.intro (Exists.intro _ (And.intro rfl ?_)) ?_)) : OG E many all (o :: l) evs L h n Q := OG.val hw hb' (D.alloc ho hi hz) hd hm hk
theorem OG.bx {e : TypeId} {x : Operand} {w : Value} (hk : OG E many all l (.pure :: evs) ((d, ptrTo n) :: L) (h.upd (some (.cells (cellsL w))) n) (n + 1) Q) (ho : o.op = .box e x := by rfl) (hx : evL E L x = some w := by rfl) (hw : WantL all L o.guard true := by first | rfl | exact WantL.yes rfl rfl rfl) (hd : o.dst = some d := by rfl) (hm : Nat.blt d many = true := by rfl) (hb' : BelT n L (opTmps o) := by repeat' (first | exact trivial | assumption | exact BelV.ptr (by omega) | exact BelV.sl (by omega) | exact BelV.fn1 (by omega) | exact BelV.fn2 (by omega) (by omega) | exact rfl | exact (show ∀ k, _ ≤ k → BelV k _ from by assumption) _ (by omega) | refine And.intro (Exists.intro _ (And.intro rfl ?_)) ?_)) : OG E many all (o :: l) evs L h n Q := OG.val hw hb' (D.box ho hx) hd hm hk
theorem OG.ms {ty : TypeId} {x y : Operand} {a b : Value} {cs : List Value} (hv : makeSliceA E ty a b n = some (v, cs)) (hk : OG E many all l (.pure :: evs) ((d, v) :: L) (h.upd (some (.cells cs)) n) (n + 1) Q) (ho : o.op = .makeSlice ty x y := by rfl) (hx : evL E L x = some a := by rfl) (hy : evL E L y = some b := by rfl) (hw : WantL all L o.guard true := by first | rfl | exact WantL.yes rfl rfl rfl) (hd : o.dst = some d := by rfl) (hm : Nat.blt d many = true := by rfl) (hb' : BelT n L (opTmps o) := by repeat' (first | exact trivial | assumption | exact BelV.ptr (by omega) | exact BelV.sl (by omega) | exact BelV.fn1 (by omega) | exact BelV.fn2 (by omega) (by omega) | exact rfl | exact (show ∀ k, _ ≤ k → BelV k _ from by assumption) _ (by omega) | refine And.intro (Exists.intro _ (And.intro rfl ?_)) ?_)) : OG E many all (o :: l) evs L h n Q := OG.val hw hb' (D.makeSlice ho hx hy hv) hd hm hk
theorem OG.bs {ty : TypeId} {len : Nat} {ps : Array (Nat × Operand)} {q : List (Nat × Value)} {cs : List Value} (hv : buildSliceA E ty len q = some cs) (hk : OG E many all l (.pure :: evs) ((d, .slice (some ⟨n, 0, none⟩) len len) :: L) (h.upd (some (.cells cs)) n) (n + 1) Q) (ho : o.op = .buildSlice ty len ps := by rfl) (hp : evPs E L ps.toList = some q := by rfl) (hw : WantL all L o.guard true := by first | rfl | exact WantL.yes rfl rfl rfl) (hd : o.dst = some d := by rfl) (hm : Nat.blt d many = true := by rfl) (hb' : BelT n L (opTmps o) := by repeat' (first | exact trivial | assumption | exact BelV.ptr (by omega) | exact BelV.sl (by omega) | exact BelV.fn1 (by omega) | exact BelV.fn2 (by omega) (by omega) | exact rfl | exact (show ∀ k, _ ≤ k → BelV k _ from by assumption) _ (by omega) | refine And.intro (Exists.intro _ (And.intro rfl ?_)) ?_)) : OG E many all (o :: l) evs L h n Q := OG.val hw hb' (D.buildSlice ho hp hv) hd hm hk
theorem OG.bd {ty : TypeId} {ps : Array (Nat × Operand)} {q : List (Nat × Value)} (hv : buildA E ty q = some v) (hk : OG E many all l (.pure :: evs) ((d, v) :: L) h n Q) (ho : o.op = .build ty ps := by rfl) (hp : evPs E L ps.toList = some q := by rfl) (hw : WantL all L o.guard true := by first | rfl | exact WantL.yes rfl rfl rfl) (hd : o.dst = some d := by rfl) (hm : Nat.blt d many = true := by rfl) (hb' : BelT n L (opTmps o) := by repeat' (first | exact trivial | assumption | exact BelV.ptr (by omega) | exact BelV.sl (by omega) | exact BelV.fn1 (by omega) | exact BelV.fn2 (by omega) (by omega) | exact rfl | exact (show ∀ k, _ ≤ k → BelV k _ from by assumption) _ (by omega) | refine And.intro (Exists.intro _ (And.intro rfl ?_)) ?_)) : OG E many all (o :: l) evs L h n Q := OG.val hw hb' (D.build ho hp hv) hd hm hk
theorem OG.bi {c : Call} {b : Builtin} {args : List Value} (hr : builtinA E b c.argTypes.toList args h n = .val v h' n') (hk : OG E many all l (.loud h h' :: evs) ((d, v) :: L) h' n' Q) (ho : o.op = .call c := by rfl) (hc : c.callee = .builtin b := by rfl) (ha : evLs E L c.args.toList = some args := by rfl) (hw : WantL all L o.guard true := by first | rfl | exact WantL.yes rfl rfl rfl) (hd : o.dst = some d := by rfl) (hm : Nat.blt d many = true := by rfl) (hb' : BelT n L (opTmps o) := by repeat' (first | exact trivial | assumption | exact BelV.ptr (by omega) | exact BelV.sl (by omega) | exact BelV.fn1 (by omega) | exact BelV.fn2 (by omega) (by omega) | exact rfl | exact (show ∀ k, _ ≤ k → BelV k _ from by assumption) _ (by omega) | refine And.intro (Exists.intro _ (And.intro rfl ?_)) ?_)) : OG E many all (o :: l) evs L h n Q := OG.valL hw hb' (D.builtinV ho hc ha hr) hd hm hk
theorem OG.cf {c : Call} {f : FuncId} {fn : Func} {args : List Value} (hf : E.fn.get f = some fn) (hcl : Cl E f args h n (.ret v h' n')) (hk : OG E many all l (.loud h h' :: evs) ((d, v) :: L) h' n' Q) (ho : o.op = .call c := by rfl) (hc : c.callee = .value (.func f) := by rfl) (ha : evLs E L c.args.toList = some args := by rfl) (hw : WantL all L o.guard true := by first | rfl | exact WantL.yes rfl rfl rfl) (hd : o.dst = some d := by rfl) (hm : Nat.blt d many = true := by rfl) (hb' : BelT n L (opTmps o) := by repeat' (first | exact trivial | assumption | exact BelV.ptr (by omega) | exact BelV.sl (by omega) | exact BelV.fn1 (by omega) | exact BelV.fn2 (by omega) (by omega) | exact rfl | exact (show ∀ k, _ ≤ k → BelV k _ from by assumption) _ (by omega) | refine And.intro (Exists.intro _ (And.intro rfl ?_)) ?_)) : OG E many all (o :: l) evs L h n Q := OG.call hw hb' (D.callF ho hc ha hf) hcl hd hm hk
theorem OG.l3 {x : Operand} {b k : Nat} {cs : List Value} (hk : OG X many all l (.rd 3 (.pointer (some ⟨b, k, none⟩)) v :: evs) ((d, v) :: L) h n Q) (ho : o.op = .load 3 x := by rfl) (hx : evL X L x = some (.pointer (some ⟨b, k, none⟩)) := by rfl) (hc : h.get b = some (.cells cs) := by repeat (first | exact T.get_upd_same _ _ _ | assumption | refine (T.get_upd_ne _ _ (by omega)).trans ?_)) (hv : cs[k]? = some v := by rfl) (hw : WantL all L o.guard true := by first | rfl | exact WantL.yes rfl rfl rfl) (hd : o.dst = some d := by rfl) (hm : Nat.blt d many = true := by rfl) (hb' : BelT n L (opTmps o) := by repeat' (first | exact trivial | assumption | exact BelV.ptr (by omega) | exact BelV.sl (by omega) | exact BelV.fn1 (by omega) | exact BelV.fn2 (by omega) (by omega) | exact rfl | exact (show ∀ k, _ ≤ k → BelV k _ from by assumption) _ (by omega) | refine And.intro (Exists.intro _ (And.intro rfl ?_)) ?_)) : OG X many all (o :: l) evs L h n Q := OG.valR hw hb' ho hx (load1 ty3 rfl (cells_of hc) hv) hd hm hk
theorem OG.l4 {x : Operand} {b k : Nat} {cs : List Value} (hk : OG X many all l (.rd 4 (.pointer (some ⟨b, k, none⟩)) v :: evs) ((d, v) :: L) h n Q) (ho : o.op = .load 4 x := by rfl) (hx : evL X L x = some (.pointer (some ⟨b, k, none⟩)) := by rfl) (hc : h.get b = some (.cells cs) := by repeat (first | exact T.get_upd_same _ _ _ | assumption | refine (T.get_upd_ne _ _ (by omega)).trans ?_)) (hv : cs[k]? = some v := by rfl) (hw : WantL all L o.guard true := by first | rfl | exact WantL.yes rfl rfl rfl) (hd : o.dst = some d := by rfl) (hm : Nat.blt d many = true := by rfl) (hb' : BelT n L (opTmps o) := by repeat' (first | exact trivial | assumption | exact BelV.ptr (by omega) | exact BelV.sl (by omega) | exact BelV.fn1 (by omega) | exact BelV.fn2 (by omega) (by omega) | exact rfl | exact (show ∀ k, _ ≤ k → BelV k _ from by assumption) _ (by omega) | refine And.intro (Exists.intro _ (And.intro rfl ?_)) ?_)) : OG X many all (o :: l) evs L h n Q := OG.valR hw hb' ho hx (load1 ty4 rfl (cells_of hc) hv) hd hm hk
theorem OG.lp {x : Operand} {b k : Nat} {cs : List Value} {u w : Value} (hk : OG X many all l (.rd 35 (.pointer (some ⟨b, k, none⟩)) (.agg #[u, w]) :: evs) ((d, .agg #[u, w]) :: L) h n Q) (ho : o.op = .load 35 x := by rfl) (hx : evL X L x = some (.pointer (some ⟨b, k, none⟩)) := by rfl) (hc : h.get b = some (.cells cs) := by repeat (first | exact T.get_upd_same _ _ _ | assumption | refine (T.get_upd_ne _ _ (by omega)).trans ?_)) (hv : cs[k]? = some u := by rfl) (hv' : cs[k + 1]? = some w := by rfl) (hw : WantL all L o.guard true := by first | rfl | exact WantL.yes rfl rfl rfl) (hd : o.dst = some d := by rfl) (hm : Nat.blt d many = true := by rfl) (hb' : BelT n L (opTmps o) := by repeat' (first | exact trivial | assumption | exact BelV.ptr (by omega) | exact BelV.sl (by omega) | exact BelV.fn1 (by omega) | exact BelV.fn2 (by omega) (by omega) | exact rfl | exact (show ∀ k, _ ≤ k → BelV k _ from by assumption) _ (by omega) | refine And.intro (Exists.intro _ (And.intro rfl ?_)) ?_)) : OG X many all (o :: l) evs L h n Q := OG.valR hw hb' ho hx (load2 (cells_of hc) hv hv') hd hm hk

end
end Go.Sx

/- SwF: far: how far the items are. -/
namespace Go.Sx
open Go.Proofs
set_option maxRecDepth 100000
set_option maxHeartbeats 2000000

theorem fn43 : X.fn.get 43 = some Tryz.f43 := by kernel_rfl

theorem gro_keep {n : Nat} {h h' : T Blk} (hg : groOK h gro0 = true) (hk : Keep n h h') (hn : 1 ≤ n) : groOK h' gro0 = true := by
  simp only [groOK, gro0] at hg ⊢
  rw [hk 0 (by omega)]
  exact hg

theorem RowAt.mono {n m : Nat} {h h' : T Blk} {v : Value} {xs : List Int} (r : RowAt n h v xs) (hk : Keep n h h') (hm : n ≤ m) : RowAt m h' v xs := by
  rcases r with h1 | ⟨h1, b, h2, h3, h4⟩
  · exact .inl h1
  · exact .inr ⟨h1, b, h2, by omega, (hk b h3).trans h4⟩

theorem Rows.row {lo n a : Nat} {h : T Blk} {ncs : List Value} {f : Nat → List Int} (r : Rows lo h ncs f) (hf : Fresh h n) {v : Value} (hv : ncs[a]? = some v) : RowAt n h v (f a) := by
  rcases r.at_ a v hv with h7 | ⟨h7, b, h8, _, h9⟩
  · exact .inl h7
  · exact .inr ⟨h7, b, h8, hf.lt h9, h9⟩

theorem zs_drop (Q : List Nat) (p : Nat) : zs (Q.drop p) = (zs Q).drop p := by simp [zs]
theorem ints_zs_drop (Q : List Nat) (p : Nat) : (ints (zs (Q.drop p))).drop 1 = ints (zs (Q.drop (p + 1))) := by
  rw [ints, ← List.map_drop, zs_drop, zs_drop, List.drop_drop]
  rfl
theorem ints_app (xs ys : List Int) : ints xs ++ ints ys = ints (xs ++ ys) := by simp [ints]

theorem far_cl (M : Nat) (s : Value) (l : List (Int × Int)) (h : T Blk) (n lo to : Nat) (p : Value) (hf : Fresh h n) (hgr : Graph lo h p M s (succ l)) (he : Edges h s l) (hbs : ∀ k, n ≤ k → BelV k s) (hgro : groOK h gro0 = true) (hto : to < M) (hM : M ≤ 60) (hlen : l.length ≤ 400) (hg : GoodG (M : Int) l) (hn1 : 1 ≤ n) :
    Gives 43 [p, .int .i64 (to : Int)] h n fun v h' _ => ∃ b, v = .slice (some ⟨b, 0, none⟩) M M ∧ n ≤ b ∧ h'.get b = some (.cells (natsF M (dst l to))) := by
  obtain ⟨g, N, ncs, rfl, hg1, hg2, hgN, _, _, hgG, hgNc, hncs, hrows⟩ := hgr.ex
  have hgn := hf.lt hgG
  have hNn := hf.lt hgNc
  have key : ∃ v h' n', Cl X 43 [.pointer (some ⟨g, 0, none⟩), .int .i64 (to : Int)] h n (.ret v h' n') ∧ Keep n h h' ∧ n ≤ n' ∧ Fresh h' n' ∧ ∃ b, v = .slice (some ⟨b, 0, none⟩) M M ∧ n ≤ b ∧ h'.get b = some (.cells (natsF M (dst l to))) := by
    have gG : ∀ {h' : T Blk}, Keep n h h' → h'.get g = some (.cells [.int .i64 (M : Int), .slice (some ⟨N, 0, none⟩) M M, s]) := fun hk => (hk g hgn).trans hgG
    have l0 : ∀ {h' : T Blk}, Keep n h h' → loadA X h' 3 (.pointer (some ⟨g, 0 + 0, none⟩)) = some (.int .i64 (M : Int)) := fun hk => load1 ty3 rfl (cells_of (gG hk)) rfl
    have l2 : ∀ {h' : T Blk}, Keep n h h' → loadA X h' 22 (.pointer (some ⟨g, 0 + 2, none⟩)) = some s := fun hk => load1 ty22 rfl (cells_of (gG hk)) rfl
    have ix : ∀ {b k : Nat}, k < M → idxA X 25 (.slice (some ⟨b, 0, none⟩) M M) (.int .i64 (k : Int)) = some (.pointer (some ⟨b, k, none⟩)) := fun hk => idx1 ty25 ty3 rfl hk
    have ix93 : ∀ {b k : Nat}, k < M → idxA X 93 (.slice (some ⟨b, 0, none⟩) M M) (.int .i64 (k : Int)) = some (.pointer (some ⟨b, k, none⟩)) := fun hk => idx1 ty93 ty25 rfl hk
    refine Cl.wl (memoX (by decide)) fn43 rfl rfl rfl rfl ?_
    refine WL.seq (WL.reg ?_)
    refine OL.asg ?_
    refine OL.nil (WL.seq (WL.reg ?_))
    refine OL.mv ?_; refine OL.nc ?_; refine OL.fd f95_0 ?_; refine OL.l3 ?_
    refine OL.ms (mkS (M := M) ty93 ty25 rfl rfl rfl rfl (by omega)) ?_
    refine OL.asg ?_
    refine OL.nil (WL.seq (WL.seq (WL.reg ?_)))
    have hk0 : Keep n h (h.upd (some (.cells (List.replicate M (.slice none 0 0)))) n) := (Keep.refl n h).upd (Nat.le_refl n) _
    refine OL.mv ?_; refine OL.nc ?_; refine OL.fd f95_2 ?_
    refine OL.ld (l2 hk0) ?_
    refine OL.bi he.len ?_
    refine OL.mv ?_
    refine OL.nil (WL.block ?_)
    refine WL.loop (k := l.length) (fun k L h' n' => ∃ (i : Nat) (pcs : List Value), i ≤ l.length ∧ k = l.length - i ∧ Sub [(22, .int .i64 (i : Int)), (21, .int .i64 (l.length : Int)), (20, s), (5, .slice (some ⟨n, 0, none⟩) M M), (1, .int .i64 (to : Int)), (0, .pointer (some ⟨g, 0, none⟩))] L ∧
      Keep n h h' ∧ n + 1 ≤ n' ∧ Fresh h' n' ∧ h'.get n = some (.cells pcs) ∧ pcs.length = M ∧ Rows (n + 1) h' pcs (pred (l.take i))) ?_
      ⟨0, List.replicate M (.slice none 0 0), Nat.zero_le _, rfl, .cons rfl (.cons rfl (.cons rfl (.cons rfl (.cons rfl (.cons rfl .nil))))), hk0, Nat.le_refl _, hf.upd _, T.get_upd_same _ _ _, by simp, ⟨fun a v hv => .inl ⟨by simp [pred], ?_⟩, fun a a' b _ hu _ => ?_⟩⟩
    · rintro k L h' n' ⟨i, pcs, hi, rfl, hs, hk, hn, hf', hPn, hpcs, hrowsP⟩
      refine WL.keep hs ?_
      refine WL.seq (WL.reg ?_)
      by_cases h3 : (i : Int) < (l.length : Int)
      · refine OL.bT ?_
        refine OL.nil (WL.seq (WL.condT rfl (WL.skip ?_)))
        obtain ⟨⟨e1, e2⟩, hie⟩ : ∃ e, l[i]? = some e := ⟨l[i], List.getElem?_eq_getElem (by omega)⟩
        obtain ⟨g1, g2, g3, g4, g5⟩ := hg.ok (e1, e2) (List.mem_of_getElem? hie)
        simp only at g1 g2 g3 g4 g5
        obtain ⟨y, rfl⟩ : ∃ y : Nat, e1 = (y : Int) := ⟨e1.toNat, by omega⟩
        obtain ⟨a, rfl⟩ : ∃ a : Nat, e2 = (a : Int) := ⟨e2.toNat, by omega⟩
        have he' := he.keep hf hk
        obtain ⟨b, o, hx1, hx2, _⟩ := he'.at hie
        refine WL.seq (WL.block (WL.seq (WL.reg ?_)))
        refine OL.ix hx1 ?_
        refine OL.ld hx2 ?_
        refine OL.al ty35 ?_
        refine OL.st (store2 (T.get_upd_same _ _ _) rfl rfl) ?_
        refine OL.nil ?_
        have hfa := (hf'.upd (some (.cells tPair.zero))).set (Nat.lt_succ_self n') (some (.cells [.int .i64 (y : Int), .int .i64 (a : Int)]))
        have hka' := ((Keep.refl n' h').upd (Nat.le_refl n') (some (.cells tPair.zero))).upd (Nat.le_refl n') (some (.cells [.int .i64 (y : Int), .int .i64 (a : Int)]))
        have hga : (T.upd (some (Blk.cells [.int .i64 (y : Int), .int .i64 (a : Int)])) (h'.upd (some (.cells tPair.zero)) n') n').get n' = some (.cells [.int .i64 (y : Int), .int .i64 (a : Int)]) := T.get_upd_same _ _ _
        generalize T.upd (some (Blk.cells [.int .i64 (y : Int), .int .i64 (a : Int)])) (h'.upd (some (.cells tPair.zero)) n') n' = ha at hfa hka' hga ⊢
        have hPa : ha.get n = some (.cells pcs) := (hka' n (by omega)).trans hPn
        have hrA := hrowsP.keep hf' hka'
        have haM : a < M := by omega
        have hH1 : ∀ b, b < n' + 1 → (ha.upd (some (.cells [.int .i64 (y : Int)])) (n' + 1)).get b = ha.get b := fun b hb => T.get_upd_ne _ _ (by omega)
        obtain ⟨v, w, H2, hv, happ, hwc, hbw, hbv, hf2', hfr, hlo2, hr2⟩ := Rows.add (g := pred (l.take (i + 1))) (hrA.keep hfa (fun b hb => hH1 b hb) : Rows (n + 1) (ha.upd (some (.cells [.int .i64 (y : Int)])) (n' + 1)) pcs (pred (l.take i))) (hfa.upd _) (by omega) (T.get_upd_same _ _ _)
          (fun k b hkb => by
            rcases hrA.at_ k _ hkb with ⟨_, h1⟩ | ⟨_, b', h1, _, h2⟩
            · simp [slV] at h1
            · simp only [slV, Value.slice.injEq, Option.some.injEq, Addr.mk.injEq] at h1
              have := hfa.lt h2
              omega)
          (fun k => by have := pred_len (l.take i) k; have := List.length_take_le i l; omega) (a := a)
          (fun k => by
            rw [pred_take hie]
            by_cases hka : k = a
            · subst hka; simp
            · rw [if_neg hka, if_neg (fun e => hka (by simp only at e; omega))]) (by omega)
        have hvb : ∀ c, v = slV c (pred (l.take i) a) → c < n' := fun c hc => by
          rcases hrowsP.at_ a v hv with ⟨_, h1⟩ | ⟨_, b', h1, _, h2⟩
          · rw [hc] at h1; simp [slV] at h1
          · rw [hc] at h1
            simp only [slV, Value.slice.injEq, Option.some.injEq, Addr.mk.injEq] at h1
            have := hf'.lt h2
            omega
        have hH2n : H2.get n = some (.cells pcs) := (hfr n (by omega) (fun c hc => by have := (hlo2 c hc).1; omega)).trans ((hH1 n (by omega)).trans hPa)
        have hP2 : H2.get n' = some (.cells [.int .i64 (y : Int), .int .i64 (a : Int)]) := (hfr n' (by omega) (fun c hc => by have := hvb c hc; omega)).trans ((hH1 n' (by omega)).trans hga)
        have lq : ∀ {H' : T Blk}, H'.get n' = some (.cells [.int .i64 (y : Int), .int .i64 (a : Int)]) → loadA X H' 3 (.pointer (some ⟨n', 1, none⟩)) = some (.int .i64 (a : Int)) := fun hH => load1 ty3 rfl (cells_of hH) rfl
        have lp : ∀ {H' : T Blk}, H'.get n' = some (.cells [.int .i64 (y : Int), .int .i64 (a : Int)]) → loadA X H' 3 (.pointer (some ⟨n', 0, none⟩)) = some (.int .i64 (y : Int)) := fun hH => load1 ty3 rfl (cells_of hH) rfl
        have hlv : (pcs)[a]? = some v := hv
        refine WL.regG [(2, 11)] (by kernel_rfl) (by kernel_rfl) ?_
        refine OG.mv ?_; refine OG.ix idx_pair1 ?_; refine OG.l3 ?_; refine OG.mv ?_; refine OG.ix idx_pair1 ?_; refine OG.l3 ?_
        refine OG.ix (ix93 haM) ?_
        refine OG.ld (load1 ty25 rfl (cells_of hPa) hlv) ?_
        refine OG.ix idx_pair0 ?_; refine OG.l3 ?_
        refine OG.bs buildS1 ?_
        refine OG.bi (appendV happ) ?_
        refine OG.ix (ix93 haM) ?_
        refine OG.st (store1 ty25 rfl hH2n hwc (show a < pcs.length by omega)) ?_
        refine OG.nil ⟨FlOK.cons rfl rfl (lq hP2) (sameInt _) FlOK.nil, ?_⟩
        refine WL.reg ?_
        refine OL.ad1 ?_
        refine OL.mv ?_
        refine OL.nil ⟨l.length - (i + 1), by omega, i + 1, pcs.set a w, by omega, rfl, .cons rfl (.cons rfl (.cons rfl (.cons rfl (.cons rfl (.cons rfl .nil))))), fun q hq => ?_, by omega, hf2'.set (by omega) _, T.get_upd_same _ _ _, by simp [hpcs], hr2.lo (by omega) _⟩
        rw [T.get_upd_ne _ _ (by omega), hfr q (by omega) (fun c hc => by have := (hlo2 c hc).1; omega), hH1 q (by omega), hka' q (by omega)]
        exact hk q hq
      · refine OL.bF ?_
        refine OL.nil (WL.seq (WL.condF rfl (WL.exit ?_)))
        have hi' : i = l.length := by omega
        subst hi'
        rw [List.take_length] at hrowsP
        have hkb : Keep n h (h'.upd (some (.cells [.int .i64 (-1)])) n') := hk.upd (by omega) _
        obtain ⟨v2, h2, n2, hc2, hk2, hn2, hf2, bo, rfl, hbo, hO⟩ := repeat_cl M n' (-1) (h'.upd (some (.cells [.int .i64 (-1)])) n') (n' + 1) (hf'.upd _) (T.get_upd_same _ _ _) (gro_keep hgro hkb hn1) (by omega) hM
        refine WL.seq (WL.reg ?_)
        refine OL.bs buildS1 ?_
        refine OL.mv ?_; refine OL.nc ?_; refine OL.fd f95_0 ?_
        refine OL.ld (l0 hkb) ?_
        refine OL.cf fn83 hc2 ?_
        refine OL.asg ?_
        refine OL.nil (WL.seq (WL.reg ?_))
        refine OL.mv ?_; refine OL.mv ?_
        refine OL.ix (ix hto) ?_
        refine OL.st (store1 ty3 rfl hO rfl (by rw [natsF_len]; exact hto)) ?_
        refine OL.nil (WL.seq (WL.seq (WL.reg ?_)))
        have hob : bo < n2 := hf2.lt hO
        have hkR : Keep n' h' (T.upd (some (.cells ((natsF M fun _ => -1).set to (.int .i64 0)))) h2 bo) := fun q hq => by
          rw [T.get_upd_ne _ _ (by omega), hk2 q (by omega), T.get_upd_ne _ _ (by omega)]
        have hOO : (T.upd (some (.cells ((natsF M fun _ => -1).set to (.int .i64 0)))) h2 bo).get bo = some (.cells (natsF M (upF (fun _ => -1) to 0))) := by
          rw [T.get_upd_same]
          congr 2
          exact natsF_set hto fun j => rfl
        have hfO := hf2.set hob (some (.cells ((natsF M fun _ => -1).set to (.int .i64 0))))
        generalize T.upd (some (.cells ((natsF M fun _ => -1).set to (.int .i64 0)))) h2 bo = hB at hkR hOO hfO ⊢
        refine OL.mv ?_
        refine OL.bs buildS1 ?_
        refine OL.asg ?_
        refine OL.nil (WL.block ?_)
        have hrowR : ∀ {a : Nat} {v : Value}, pcs[a]? = some v → RowAt n' h' v (pred l a) := fun hv => hrowsP.row hf' hv
        refine WL.loop (k := M) (fun k L h3 n3 => ∃ (Q : List Nat) (p : Nat) (fr : Nat → Int) (w : Value), k = M - p ∧ p ≤ Q.length ∧ Sub [(9, w), (8, .slice (some ⟨bo, 0, none⟩) M M), (5, .slice (some ⟨n, 0, none⟩) M M)] L ∧ Keep n' h' h3 ∧ n2 ≤ n3 ∧ Fresh h3 n3 ∧
          h3.get bo = some (.cells (natsF M fr)) ∧ App 1 n2 h3 w (Q.length - p) (ints (zs (Q.drop p))) ∧ Bfs M l to fr Q p ∧ fr to = 0) ?_
          ⟨[to], 0, upF (fun _ => -1) to 0, _, rfl, by simp, .cons rfl (.cons rfl (.cons rfl .nil)), hkR.upd (by omega) _, by omega, hfO.upd _, (T.get_upd_ne _ _ (by omega)).trans hOO, .inr ⟨n2, 0, 1, _, rfl, .inr rfl, Nat.le_refl _, T.get_upd_same _ _ _, rfl⟩, Bfs.init hto, upF_same _ _ _⟩
        rintro k L h3 n3 ⟨Q, p, fr, w, rfl, hpQ, hs3, hk3, hn3, hf3, hO3, hW3, hB3, hto3⟩
        have hQM := hB3.len
        refine WL.keep hs3 ?_
        refine WL.seq (WL.seq (WL.reg ?_))
        refine OL.mv ?_
        refine OL.bi (hW3.ln ty25) ?_
        by_cases c1 : (0 : Int) < ((Q.length - p : Nat) : Int)
        · refine OL.bT ?_
          refine OL.nil (WL.condT rfl (WL.skip ?_))
          obtain ⟨a, ha⟩ : ∃ a, Q[p]? = some a := ⟨_, List.getElem?_eq_getElem (by omega)⟩
          have haM : a < M := hB3.lt a (List.mem_of_getElem? ha)
          obtain ⟨v, hv⟩ : ∃ v, pcs[a]? = some v := ⟨_, List.getElem?_eq_getElem (by omega)⟩
          have hrow := hrowR hv
          obtain ⟨wb, wo, hwb, hw1, hw2⟩ := hW3.atI (k := 0) (y := (a : Int)) (by rw [zs_drop, List.getElem?_drop, Nat.add_zero]; exact zs_at ha)
          refine WL.seq (WL.block (WL.seq (WL.reg ?_)))
          refine OL.mv ?_; refine OL.mv ?_
          refine OL.ix hw1 ?_
          refine OL.ld (hw2 _ rfl) ?_
          refine OL.ix (ix93 haM) ?_
          refine OL.ld (load1 ty25 rfl (cells_of ((hk3 n (by omega)).trans hPn)) hv) ?_
          refine OL.bi hrow.len ?_
          refine OL.mv ?_
          refine OL.nil (WL.block ?_)
          refine WL.loop (k := (pred l a).length) (fun k L h4 n4 => ∃ (j : Nat) (Q : List Nat) (fr : Nat → Int) (w : Value), j ≤ (pred l a).length ∧ k = (pred l a).length - j ∧ p < Q.length ∧ Sub [(63, .int .i64 (j : Int)), (62, .int .i64 ((pred l a).length : Int)), (61, v), (9, w), (8, .slice (some ⟨bo, 0, none⟩) M M), (5, .slice (some ⟨n, 0, none⟩) M M)] L ∧ Keep n' h' h4 ∧ n2 ≤ n4 ∧ Fresh h4 n4 ∧
            h4.get bo = some (.cells (natsF M fr)) ∧ App 1 n2 h4 w (Q.length - p) (ints (zs (Q.drop p))) ∧ Bfs M l to fr Q p ∧ fr to = 0 ∧ Q[p]? = some a ∧ Seen l fr Q a j) ?_
            ⟨0, Q, fr, w, Nat.zero_le _, rfl, by omega, .cons rfl (.cons rfl (.cons rfl (.cons rfl (.cons rfl (.cons rfl .nil))))), hk3, hn3, hf3, hO3, hW3, hB3, hto3, ha, fun i hi => by simp at hi⟩
          rintro k L h4 n4 ⟨j, Q, fr, w, hj, rfl, hpQ, hs4, hk4, hn4, hf4, hO4, hW4, hB4, hto4, ha4, hS4⟩
          have hQM := hB4.len
          refine WL.keep hs4 ?_
          refine WL.seq (WL.reg ?_)
          by_cases c2 : (j : Int) < ((pred l a).length : Int)
          · refine OL.bT ?_
            refine OL.nil (WL.seq (WL.condT rfl (WL.skip ?_)))
            obtain ⟨x, hx⟩ : ∃ x, (pred l a)[j]? = some x := ⟨_, List.getElem?_eq_getElem (by omega)⟩
            obtain ⟨g1, g2, g3, g4, g5⟩ := hg.ok _ (pred_mem (List.mem_of_getElem? hx))
            simp only at g1 g2 g3 g4 g5
            obtain ⟨y, rfl⟩ : ∃ y : Nat, x = (y : Int) := ⟨x.toNat, by omega⟩
            have hyM : y < M := by omega
            have hpl := pred_len l a
            obtain ⟨rb, hrb, hr1, hr2⟩ := hrow.at hx
            obtain ⟨ub, uo, hub, hu1, hu2⟩ := hW4.atI (k := 0) (y := (a : Int)) (by rw [zs_drop, List.getElem?_drop, Nat.add_zero]; exact zs_at ha4)
            have hub2 := (hW4.blk hub).1
            refine WL.seq (WL.block (WL.seq (WL.reg ?_)))
            refine OL.ix hr1 ?_
            refine OL.ld (hr2 _ hk4) ?_
            refine OL.asg ?_
            refine OL.nil (WL.seq (WL.reg ?_))
            refine OL.mv ?_; refine OL.mv ?_
            refine OL.ix (ix hyM) ?_
            refine OL.ld (load1 ty3 rfl (cells_of hO4) (natsF_at hyM)) ?_
            by_cases c3 : fr y < 0
            · refine OL.bT ?_
              refine OL.nil (WL.condT rfl (WL.seq (WL.reg ?_)))
              obtain ⟨n1, n2', n3', n4'⟩ := hB4.new ha4 hS4 hx hyM c3
              have hfa := hB4.lo a
              have hQ2 := n1.len
              have hfa2 := hB4.bd p a ha4
              refine OL.mv ?_; refine OL.mv ?_; refine OL.mv ?_; refine OL.mv ?_
              refine OL.ix hu1 ?_
              refine OL.ld (hu2 _ rfl) ?_
              refine OL.ix (ix haM) ?_
              refine OL.ld (load1 ty3 rfl (cells_of hO4) (natsF_at haM)) ?_
              refine OL.ad ?_
              refine OL.ix (ix hyM) ?_
              refine OL.st (store1 ty3 rfl hO4 rfl (by rw [natsF_len]; exact hyM)) ?_
              refine OL.nil ?_
              have hO5 : (h4.upd (some (.cells ((natsF M fr).set y (.int .i64 (fr a + 1))))) bo).get bo = some (.cells (natsF M (upF fr y (fr a + 1)))) := by
                rw [T.get_upd_same]
                congr 2
                exact natsF_set hyM fun j => rfl
              have hk5 : Keep n' h' (h4.upd (some (.cells ((natsF M fr).set y (.int .i64 (fr a + 1))))) bo) := hk4.upd (by omega) _
              have hf5 := hf4.set (show bo < n4 by omega) (some (.cells ((natsF M fr).set y (.int .i64 (fr a + 1)))))
              have hW5 : App 1 n2 (h4.upd (some (.cells ((natsF M fr).set y (.int .i64 (fr a + 1))))) bo) w (Q.length - p) (ints (zs (Q.drop p))) := hW4.keep fun b hb => by
                have := (hW4.blk hb).1
                exact T.get_upd_ne _ _ (by omega)
              generalize T.upd (some (.cells ((natsF M fr).set y (.int .i64 (fr a + 1))))) h4 bo = hE at hO5 hk5 hf5 hW5 ⊢
              have hW6 : App 1 n2 (hE.upd (some (.cells [.int .i64 (y : Int)])) n4) w (Q.length - p) (ints (zs (Q.drop p))) := hW5.kp hf5 ((Keep.refl n4 hE).upd (Nat.le_refl n4) _)
              obtain ⟨w', hG, happ, hG1, hG2, hG3, hG4⟩ := append_app el25 (show App tInt.size n2 _ w _ _ from hW6) (hf5.upd _) (x := .slice (some ⟨n4, 0, none⟩) 1 1) (xl := 1) (new := [.int .i64 (y : Int)]) ⟨_, _, rfl⟩ (by simp only [rowA, cells_of (T.get_upd_same _ _ _)]; rfl) (by omega) (by omega) rfl (by omega)
              have hwn : ∀ b, blkOf w = some b → n2 ≤ b ∧ b < n4 := fun b hb => ⟨(hW5.blk hb).1, hf5.lt (hW5.blk hb).2.choose_spec⟩
              refine WL.reg ?_
              refine OL.mv ?_; refine OL.mv ?_
              refine OL.bs buildS1 ?_
              refine OL.bi (appendB happ) ?_
              refine OL.asg ?_
              refine OL.nil (WL.reg ?_)
              refine OL.ad1 ?_
              refine OL.mv ?_
              refine OL.nil ⟨(pred l a).length - (j + 1), by omega, j + 1, Q ++ [y], upF fr y (fr a + 1), w', by omega, rfl, by simp; omega, .cons rfl (.cons rfl (.cons rfl (.cons rfl (.cons rfl (.cons rfl .nil))))), fun q hq => ?_, by omega, hG1, ?_, ?_, n1, ?_, n2', n3'⟩
              · rw [hG2 q (by omega) (fun e => by have := hwn q e; omega), T.get_upd_ne _ _ (by omega)]
                exact hk5 q hq
              · rw [hG2 bo (by omega) (fun e => by have := hwn bo e; omega), T.get_upd_ne _ _ (by omega)]
                exact hO5
              · have e1 : Q.length - p + 1 = (Q ++ [y]).length - p := by simp; omega
                have e2 : ints (zs (Q.drop p)) ++ [Value.int .i64 (y : Int)] = ints (zs ((Q ++ [y]).drop p)) := by
                  rw [List.drop_append_of_le_length (by omega), zs_add]
                  simp [ints]
                rw [← e1, ← e2]
                exact hG4.low (by omega)
              · rw [upF_ne (fun e => by rw [← e] at c3; omega)]
                exact hto4
            · refine OL.bF ?_
              refine OL.nil (WL.condF rfl (WL.skip (WL.reg ?_)))
              refine OL.ad1 ?_
              refine OL.mv ?_
              exact OL.nil ⟨(pred l a).length - (j + 1), by omega, j + 1, Q, fr, w, by omega, rfl, hpQ, .cons rfl (.cons rfl (.cons rfl (.cons rfl (.cons rfl (.cons rfl .nil))))), hk4, hn4, hf4, hO4, hW4, hB4, hto4, ha4, hB4.old ha4 hS4 hx (by omega)⟩
          · refine OL.bF ?_
            refine OL.nil (WL.seq (WL.condF rfl (WL.exit ?_)))
            have hjl : j = (pred l a).length := by omega
            subst hjl
            have hW5 : App tInt.size n2 h4 w ((Q.length - (p + 1)) + 1) (ints (zs (Q.drop p))) := by
              rw [show Q.length - (p + 1) + 1 = Q.length - p by omega]; exact hW4
            obtain ⟨w', hw', hW6, _⟩ := cut1_app el25 hW5 (by omega)
            refine WL.reg ?_
            refine OL.mv ?_
            refine OL.val (by first | rfl | exact WantL.yes rfl rfl rfl) (D.cut1 rfl rfl rfl hW4.isS hw') rfl rfl ?_
            refine OL.asg ?_
            refine OL.nil ⟨M - (p + 1), by omega, Q, p + 1, fr, w', rfl, by omega, .cons rfl (.cons rfl (.cons rfl .nil)), hk4, hn4, hf4, hO4, ?_, hB4.next ha4 hS4, hto4⟩
            have := ints_zs_drop Q p
            rw [← this]
            exact hW6
        · refine OL.bF ?_
          refine OL.nil (WL.condF rfl (WL.exit ?_))
          refine WL.seq (WL.reg ?_)
          refine OL.mv ?_; refine OL.asg ?_
          refine OL.nil (WL.ret ⟨fun id e => (by cases e), _, rfl, ?_, by omega, hf3, bo, rfl, by omega, ?_⟩)
          · exact fun q hq => (hk3 q (by omega)).trans (hk q hq)
          · rw [hO3]
            congr 3
            funext k
            exact (hB3.fin (by omega) hto3 k).eq
    · rw [List.getElem?_replicate] at hv
      split at hv
      · cases hv; rfl
      · cases hv
    · rw [List.getElem?_replicate] at hu
      split at hu
      · simp [slV] at hu
      · cases hu
  exact key

end Go.Sx

/- SwH: slices that are read; slices.IndexFunc; Cycle. -/
namespace Go.Sx
open Go.Proofs
set_option maxRecDepth 100000
set_option maxHeartbeats 2000000

/- Numbers that are read. -/
def RdI (n : Nat) (h : T Blk) (v : Value) (xs : List Int) : Prop := (∃ eb cap, v = .slice eb xs.length cap) ∧ ∀ (j : Nat) (x : Int), xs[j]? = some x → ∃ b o, b < n ∧ idxA X 25 v (.int .i64 (j : Int)) = some (.pointer (some ⟨b, o, none⟩)) ∧ ∀ h' : T Blk, Keep n h h' → loadA X h' 3 (.pointer (some ⟨b, o, none⟩)) = some (.int .i64 x)
def RdE (n : Nat) (h : T Blk) (v : Value) (l : List (Int × Int)) : Prop := (∃ eb cap, v = .slice eb l.length cap) ∧ ∀ (j : Nat) (e : Int × Int), l[j]? = some e → ∃ b o, b < n ∧ idxA X 22 v (.int .i64 (j : Int)) = some (.pointer (some ⟨b, o, none⟩)) ∧ ∀ h' : T Blk, Keep n h h' → loadA X h' 35 (.pointer (some ⟨b, o, none⟩)) = some (.agg #[.int .i64 e.1, .int .i64 e.2])

section
variable {n m : Nat} {h h' : T Blk} {v : Value}
theorem RdI.mono {xs : List Int} (r : RdI n h v xs) (hk : Keep n h h') (hm : n ≤ m) : RdI m h' v xs := by
  refine ⟨r.1, fun j x hx => ?_⟩
  obtain ⟨b, o, h1, h2, h3⟩ := r.2 j x hx
  exact ⟨b, o, by omega, h2, fun h'' hk2 => h3 h'' (hk.trans hm hk2)⟩
theorem RdE.mono {l : List (Int × Int)} (r : RdE n h v l) (hk : Keep n h h') (hm : n ≤ m) : RdE m h' v l := by
  refine ⟨r.1, fun j x hx => ?_⟩
  obtain ⟨b, o, h1, h2, h3⟩ := r.2 j x hx
  exact ⟨b, o, by omega, h2, fun h'' hk2 => h3 h'' (hk.trans hm hk2)⟩
theorem RdI.ln {xs : List Int} (r : RdI n h v xs) {g : T Blk} {k : Nat} : builtinA X .len [25] [v] g k = .val (.int .i64 (xs.length : Int)) g k := by
  obtain ⟨⟨eb, cap, rfl⟩, _⟩ := r
  exact lenA_slice ty25
theorem RdE.ln {l : List (Int × Int)} (r : RdE n h v l) {g : T Blk} {k : Nat} : builtinA X .len [22] [v] g k = .val (.int .i64 (l.length : Int)) g k := by
  obtain ⟨⟨eb, cap, rfl⟩, _⟩ := r
  exact lenA_slice ty22
theorem RowAt.rd {xs : List Int} (r : RowAt n h v xs) : RdI n h v xs := by
  refine ⟨?_, fun j x hx => ?_⟩
  · rcases r with ⟨rfl, rfl⟩ | ⟨_, b, rfl, _, _⟩ <;> exact ⟨_, _, rfl⟩
  · obtain ⟨b, h1, h2, h3⟩ := r.at hx
    exact ⟨b, j, h1, h2, h3⟩
theorem App.rd {lo : Nat} {xs : List Int} (a : App 1 lo h v xs.length (ints xs)) (hf : Fresh h n) : RdI n h v xs := by
  refine ⟨?_, fun j x hx => ?_⟩
  · rcases a with ⟨rfl, h1, _⟩ | ⟨b, o, cap, all, rfl, _⟩
    · rw [h1]; exact ⟨_, _, rfl⟩
    · exact ⟨_, _, rfl⟩
  · obtain ⟨b, o, h1, h2, h3⟩ := a.atI hx
    obtain ⟨_, all, h4⟩ := a.blk h1
    exact ⟨b, o, hf.lt h4, h2, fun h' hk => h3 h' (hk b (hf.lt h4))⟩
theorem Edges.rd {l : List (Int × Int)} (he : Edges h v l) (hf : Fresh h n) (hb : BelV n v) : RdE n h v l := by
  refine ⟨?_, fun j e hj => ?_⟩
  · obtain ⟨eb, c, rfl, _⟩ := he.ex
    exact ⟨_, _, rfl⟩
  · obtain ⟨b, o, h1, _, h3⟩ := he.at hj
    refine ⟨b, o, h3 n hb, h1, fun h' hk => ?_⟩
    obtain ⟨b', o', h1', h2', _⟩ := (he.keep hf hk).at hj
    rw [h1] at h1'
    simp only [Option.some.injEq, Value.pointer.injEq, Addr.mk.injEq] at h1'
    obtain ⟨rfl, rfl, _⟩ := h1'
    exact h2'
theorem RdI.isS {xs : List Int} (r : RdI n h v xs) : ∃ b l c, v = .slice b l c := by obtain ⟨⟨eb, cap, rfl⟩, _⟩ := r; exact ⟨_, _, _, rfl⟩
theorem RdE.isS {l : List (Int × Int)} (r : RdE n h v l) : ∃ b l c, v = .slice b l c := by obtain ⟨⟨eb, cap, rfl⟩, _⟩ := r; exact ⟨_, _, _, rfl⟩
end

section
variable {E : Env} {many : Nat} {all l : List Oper} {L : LT} {h : T Blk} {n : Nat}
theorem OL.heap {Q : LT → T Blk → Nat → Prop} (P : T Blk → Prop) (hp : P h) (hk : ∀ h', P h' → OL E many all l L h' n Q) : OL E many all l L h n Q := hk h hp
theorem OD.heap {Q : LT → T Blk → Nat → Prop} (P : T Blk → Prop) (hp : P h) (hk : ∀ h', P h' → OD E many all l L h' n Q) : OD E many all l L h n Q := hk h hp
theorem WL.heap {c : Code} {Q : Ex → LT → T Blk → Nat → Prop} (P : T Blk → Prop) (hp : P h) (hk : ∀ h', P h' → WL E many c L h' n Q) : WL E many c L h n Q := hk h hp
end

/- What holds between two pieces of code. -/
theorem WL.cut {E : Env} {many : Nat} {L : LT} {h : T Blk} {n : Nat} {Q : Ex → LT → T Blk → Nat → Prop} {a b : Code} (P : LT → T Blk → Nat → Prop) (ha : WL E many a L h n (fun e L' h' n' => e = .normal ∧ P L' h' n')) (hb : ∀ L' h' n', P L' h' n' → WL E many b L' h' n' Q) : WL E many (.seq a b) L h n Q :=
  WL.seq (ha.mono fun e L' h' n' hx => by
    obtain ⟨rfl, hx⟩ := hx
    exact hb L' h' n' hx)

/- A function of one thing that says yes or no. -/
def Fn1 {α : Type} (n : Nat) (h : T Blk) (fv : Value) (enc : α → Value) (p : α → Bool) (ok : α → Prop) : Prop :=
  ∃ g cs fn, fv = .func (.func g) #[] cs ∧ X.fn.get g = some fn ∧ ∀ x h' n', ok x → Keep n h h' → n ≤ n' → Fresh h' n' → Gives g (enc x :: cs.toList) h' n' fun v _ _ => v = .bool (p x)

theorem Fn1.mono {α : Type} {n m : Nat} {h h' : T Blk} {fv : Value} {enc : α → Value} {p : α → Bool} {ok : α → Prop} (f : Fn1 n h fv enc p ok) (hk : Keep n h h') (hm : n ≤ m) : Fn1 m h' fv enc p ok := by
  obtain ⟨g, cs, fn, h1, h2, h3⟩ := f
  exact ⟨g, cs, fn, h1, h2, fun x h'' n'' ho hk2 hn2 hf2 => h3 x h'' n'' ho (hk.trans hm hk2) (by omega) hf2⟩

/- The first index. -/
def idxF {α : Type} (p : α → Bool) (xs : List α) : Int := match xs.findIdx? p with
  | some i => (i : Int)
  | none => -1

theorem idxF_hit {α : Type} {p : α → Bool} {xs : List α} {i : Nat} {x : α} (hx : xs[i]? = some x) (hp : p x = true) (hno : ∀ (j : Nat) (y : α), j < i → xs[j]? = some y → p y = false) : idxF p xs = (i : Int) := by
  obtain ⟨h1, rfl⟩ := List.getElem?_eq_some_iff.1 hx
  have : xs.findIdx? p = some i := List.findIdx?_eq_some_iff_getElem.2 ⟨h1, hp, fun j hj => by simp [hno j _ hj (List.getElem?_eq_getElem (by omega))]⟩
  unfold idxF
  rw [this]
theorem idxF_miss {α : Type} {p : α → Bool} {xs : List α} (hno : ∀ x ∈ xs, p x = false) : idxF p xs = -1 := by
  have : xs.findIdx? p = none := List.findIdx?_eq_none_iff.2 hno
  unfold idxF
  rw [this]
theorem idxF_cases {α : Type} (p : α → Bool) (xs : List α) : (idxF p xs = -1 ∧ ∀ x ∈ xs, p x = false) ∨ ∃ (i : Nat) (x : α), idxF p xs = (i : Int) ∧ xs[i]? = some x ∧ p x = true ∧ ∀ (j : Nat) (y : α), j < i → xs[j]? = some y → p y = false := by
  by_cases h : ∀ x ∈ xs, p x = false
  · exact .inl ⟨idxF_miss h, h⟩
  · cases hx : xs.findIdx? p with
    | none => exact (h (List.findIdx?_eq_none_iff.1 hx)).elim
    | some i =>
      obtain ⟨h1, h2, h3⟩ := List.findIdx?_eq_some_iff_getElem.1 hx
      refine .inr ⟨i, xs[i], by unfold idxF; rw [hx], List.getElem?_eq_getElem h1, h2, fun j y hj hy => ?_⟩
      obtain ⟨h4, rfl⟩ := List.getElem?_eq_some_iff.1 hy
      simpa using h3 j hj
theorem idxF_any {α : Type} (p : α → Bool) (xs : List α) : decide (0 ≤ idxF p xs) = xs.any p := by
  rcases idxF_cases p xs with ⟨h1, h2⟩ | ⟨i, x, h1, h2, h3, _⟩
  · rw [h1]
    have : xs.any p = false := by rw [List.any_eq_false]; intro x hx; simp [h2 x hx]
    rw [this]; rfl
  · rw [h1]
    have : xs.any p = true := List.any_eq_true.2 ⟨x, List.mem_of_getElem? h2, h3⟩
    rw [this, decide_eq_true (by omega)]

theorem fn44 : X.fn.get 44 = some Tryz.f44 := by kernel_rfl

theorem indexF_cl (xs : List Int) (p : Int → Bool) (v fv : Value) (h : T Blk) (n : Nat) (hf : Fresh h n) (hr : RdI n h v xs) (hfv : Fn1 n h fv (Value.int .i64) p (fun x => x ∈ xs)) (hlen : xs.length ≤ 100000) :
    Gives 44 [v, fv] h n fun r _ _ => r = .int .i64 (idxF p xs) := by
  have key : ∃ r h' n', Cl X 44 [v, fv] h n (.ret r h' n') ∧ Keep n h h' ∧ n ≤ n' ∧ Fresh h' n' ∧ r = .int .i64 (idxF p xs) := by
    obtain ⟨g, cs, fn, rfl, hg, hcall⟩ := hfv
    refine Cl.wl (memoX (by decide)) fn44 rfl rfl rfl rfl ?_
    refine WL.seq (WL.reg ?_)
    refine OL.asg ?_
    refine OL.nil (WL.seq (WL.seq (WL.reg ?_)))
    refine OL.mv ?_
    refine OL.bi hr.ln ?_
    refine OL.mv ?_
    refine OL.nil (WL.block ?_)
    refine WL.loop (k := xs.length) (fun k L h' n' => ∃ i : Nat, i ≤ xs.length ∧ k = xs.length - i ∧ Sub [(8, .int .i64 (i : Int)), (7, .int .i64 (xs.length : Int)), (1, .func (.func g) #[] cs), (0, v)] L ∧ Keep n h h' ∧ n ≤ n' ∧ Fresh h' n' ∧ ∀ (j : Nat) (y : Int), j < i → xs[j]? = some y → p y = false) ?_
      ⟨0, Nat.zero_le _, rfl, .cons rfl (.cons rfl (.cons rfl (.cons rfl .nil))), .refl _ _, Nat.le_refl _, hf, fun j y hj => by omega⟩
    rintro k L h' n' ⟨i, hi, rfl, hs, hk, hn, hf', hno⟩
    refine WL.keep hs ?_
    refine WL.seq (WL.reg ?_)
    by_cases c1 : (i : Int) < (xs.length : Int)
    · refine OL.bT ?_
      refine OL.nil (WL.seq (WL.condT rfl (WL.skip ?_)))
      obtain ⟨x, hx⟩ : ∃ x, xs[i]? = some x := ⟨_, List.getElem?_eq_getElem (by omega)⟩
      obtain ⟨b, o, hb, hx1, hx2⟩ := hr.2 i x hx
      refine WL.seq (WL.block (WL.seq (WL.reg ?_)))
      refine OL.mv ?_; refine OL.asg ?_
      refine OL.nil (WL.seq (WL.reg ?_))
      refine OL.mv ?_; refine OL.mv ?_; refine OL.mv ?_
      refine OL.ix hx1 ?_
      refine OL.ld (hx2 _ hk) ?_
      obtain ⟨v2, h2, n2, hc2, hk2, hn2, hf2, rfl⟩ := hcall x h' n' (List.mem_of_getElem? hx) hk hn hf'
      refine OL.call (by first | rfl | exact WantL.yes rfl rfl rfl) (D.callV rfl rfl rfl rfl hg rfl) hc2 rfl rfl ?_
      cases hp : p x with
      | true =>
        refine OL.nil (WL.condT rfl (WL.seq (WL.reg ?_)))
        refine OL.mv ?_; refine OL.asg ?_
        exact OL.nil (WL.ret ⟨fun id e => (by cases e), _, rfl, hk.trans hn hk2, by omega, hf2, by rw [idxF_hit hx hp hno]; rfl⟩)
      | false =>
        refine OL.nil (WL.condF rfl (WL.skip (WL.reg ?_)))
        refine OL.ad1 ?_
        refine OL.mv ?_
        refine OL.nil ⟨xs.length - (i + 1), by omega, i + 1, by omega, rfl, .cons rfl (.cons rfl (.cons rfl (.cons rfl .nil))), hk.trans hn hk2, by omega, hf2, fun j y hj hy => ?_⟩
        rcases Nat.lt_or_ge j i with h4 | h4
        · exact hno j y h4 hy
        · rw [show j = i by omega, hx] at hy
          cases hy
          exact hp
    · refine OL.bF ?_
      refine OL.nil (WL.seq (WL.condF rfl (WL.exit ?_)))
      refine WL.seq (WL.reg ?_)
      refine OL.asg ?_
      refine OL.nil (WL.ret ⟨fun id e => (by cases e), _, rfl, hk, hn, hf', ?_⟩)
      rw [idxF_miss fun x hx => by
        obtain ⟨j, hj⟩ := List.getElem?_of_mem hx
        exact hno j x (by have := (List.getElem?_eq_some_iff.1 hj).1; omega) hj]
      rfl
  exact key

end Go.Sx
