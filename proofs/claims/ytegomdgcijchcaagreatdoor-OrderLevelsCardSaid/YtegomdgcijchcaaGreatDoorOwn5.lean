/- SzD: what code comes to, with fuel enough. -/
import Derived.Test.YtegomdgcijchcaaGreatDoorOwn4
import Derived.ProofKit
import Derived.LaidLaws
import Derived.OpenShut
import Derived.Handed
import Derived.Test.YtegomdgcijchcaaGreatDoorTie
import Derived.Test.YtegomdgcijchcaaGreatDoorCards
namespace Go.Sx
open Go.Proofs

/- With fuel enough, code comes to this. -/
def Ev (E : Env) (c : Code) (rd : Option Nat) (many : Nat) (t : T Value) (d : List Deferred) (h : T Blk) (n : Nat) (o : Out) : Prop := ∃ F, ∀ f, F ≤ f → exec E f c rd many t d h n = o
def Cl (E : Env) (g : FuncId) (args : List Value) (h : T Blk) (n : Nat) (o : COut) : Prop := ∃ F, ∀ f, F ≤ f → callF E (exec E f) g args h n = o

section
variable {E : Env} {rd : Option Nat} {many : Nat} {t t1 : T Value} {d d1 : List Deferred} {h h1 : T Blk} {n n1 : Nat} {o : Out}

theorem Ev.step {c : Code} (hx : ∃ F, ∀ f, F ≤ f → stepA E (exec E f) c rd many t d h n = o) : Ev E c rd many t d h n o := by
  obtain ⟨F, hF⟩ := hx
  refine ⟨F + 1, fun f hf => ?_⟩
  obtain ⟨k, rfl⟩ : ∃ k, f = k + 1 := ⟨f - 1, by omega⟩
  exact hF k (by omega)

theorem Ev.seq {a b : Code} (ha : Ev E a rd many t d h n (.ok .normal t1 d1 h1 n1)) (hb : Ev E b rd many t1 d1 h1 n1 o) : Ev E (.seq a b) rd many t d h n o := by
  obtain ⟨F, hF⟩ := ha
  obtain ⟨F', hF'⟩ := hb
  refine Ev.step ⟨max F F', fun f hf => ?_⟩
  simp only [stepA, hF f (by omega)]
  exact hF' f (by omega)

theorem Ev.seq_out {a b : Code} {e : Ex} (ha : Ev E a rd many t d h n (.ok e t1 d1 h1 n1)) (he : e ≠ .normal) : Ev E (.seq a b) rd many t d h n (.ok e t1 d1 h1 n1) := by
  obtain ⟨F, hF⟩ := ha
  refine Ev.step ⟨F, fun f hf => ?_⟩
  simp only [stepA, hF f hf]
  cases e <;> first | rfl | exact absurd rfl he

theorem Ev.ret : Ev E .ret rd many t d h n (.ok .ret t d h n) := Ev.step ⟨0, fun _ _ => rfl⟩
theorem Ev.skip : Ev E .skip rd many t d h n (.ok .normal t d h n) := Ev.step ⟨0, fun _ _ => rfl⟩
theorem Ev.exit {id : Nat} : Ev E (.exit id) rd many t d h n (.ok (.exit id) t d h n) := Ev.step ⟨0, fun _ _ => rfl⟩
theorem Ev.label {l : Nat} : Ev E (.label l) rd many t d h n (.ok .normal t d h n) := Ev.step ⟨0, fun _ _ => rfl⟩

theorem Ev.cond_true {x : Operand} {a b : Code} (hx : evA E t x = some (.bool true)) (ha : Ev E a rd many t d h n o) : Ev E (.cond x a b) rd many t d h n o := by
  obtain ⟨F, hF⟩ := ha
  exact Ev.step ⟨F, fun f hf => by simp only [stepA, hx, hF f hf]⟩

theorem Ev.cond_false {x : Operand} {a b : Code} (hx : evA E t x = some (.bool false)) (hb : Ev E b rd many t d h n o) : Ev E (.cond x a b) rd many t d h n o := by
  obtain ⟨F, hF⟩ := hb
  exact Ev.step ⟨F, fun f hf => by simp only [stepA, hx, hF f hf]⟩

theorem Ev.scope {b : Code} (hb : Ev E b none many t d h n o) : Ev E (.scope b) none many t d h n o := by
  obtain ⟨F, hF⟩ := hb
  exact Ev.step ⟨F, fun f hf => by simp only [stepA, hF f hf]⟩

theorem Ev.block_normal {id : Nat} {b : Code} (hb : Ev E b rd many t d h n (.ok .normal t1 d1 h1 n1)) : Ev E (.block id b) rd many t d h n (.ok .normal t1 d1 h1 n1) := by
  obtain ⟨F, hF⟩ := hb
  exact Ev.step ⟨F, fun f hf => by simp only [stepA, hF f hf]⟩

theorem Ev.block_ret {id : Nat} {b : Code} (hb : Ev E b rd many t d h n (.ok .ret t1 d1 h1 n1)) : Ev E (.block id b) rd many t d h n (.ok .ret t1 d1 h1 n1) := by
  obtain ⟨F, hF⟩ := hb
  exact Ev.step ⟨F, fun f hf => by simp only [stepA, hF f hf]⟩

theorem Ev.block_exit {id : Nat} {b : Code} (hb : Ev E b rd many t d h n (.ok (.exit id) t1 d1 h1 n1)) : Ev E (.block id b) rd many t d h n (.ok .normal t1 d1 h1 n1) := by
  obtain ⟨F, hF⟩ := hb
  exact Ev.step ⟨F, fun f hf => by simp only [stepA, hF f hf, Nat.beq_refl, _root_.cond_true]⟩

theorem Ev.block_other {id id' : Nat} {b : Code} (hne : Nat.beq id' id = false) (hb : Ev E b rd many t d h n (.ok (.exit id') t1 d1 h1 n1)) : Ev E (.block id b) rd many t d h n (.ok (.exit id') t1 d1 h1 n1) := by
  obtain ⟨F, hF⟩ := hb
  exact Ev.step ⟨F, fun f hf => by simp only [stepA, hF f hf, hne, _root_.cond_false]⟩

theorem Ev.loop_step {b : Code} (hb : Ev E b rd many t d h n (.ok .normal t1 d1 h1 n1)) (hl : Ev E (.loop b) rd many t1 d1 h1 n1 o) : Ev E (.loop b) rd many t d h n o := by
  obtain ⟨F, hF⟩ := hb
  obtain ⟨F', hF'⟩ := hl
  refine Ev.step ⟨max F F', fun f hf => ?_⟩
  simp only [stepA, hF f (by omega)]
  exact hF' f (by omega)

theorem Ev.loop_out {b : Code} {e : Ex} (hb : Ev E b rd many t d h n (.ok e t1 d1 h1 n1)) (he : e ≠ .normal) : Ev E (.loop b) rd many t d h n (.ok e t1 d1 h1 n1) := by
  obtain ⟨F, hF⟩ := hb
  refine Ev.step ⟨F, fun f hf => ?_⟩
  simp only [stepA, hF f hf]
  cases e <;> first | rfl | exact absurd rfl he

/- A region without calls. -/
theorem Ev.reg {id : Nat} {ops : Array Oper} (hx : ∀ ih, opsS E ih rd many ops.toList ops.toList t d h n = o) : Ev E (.region id ops false) rd many t d h n o := Ev.step ⟨0, fun f _ => by simp only [stepA]; exact hx _⟩
theorem Ev.regD {id : Nat} {ops : Array Oper} (hx : ∀ ih, Go.Sx.regD E ih rd many ops.toList t d h n = o) : Ev E (.region id ops true) rd many t d h n o := Ev.step ⟨0, fun f _ => by simp only [stepA]; exact hx _⟩

/- A region with one call. -/
theorem Ev.reg1 {id : Nat} {ops : Array Oper} {g : FuncId} {args : List Value} {hc : T Blk} {nc : Nat} {r : COut} (hcl : Cl E g args hc nc r) (hx : ∀ ih, callF E ih g args hc nc = r → opsS E ih rd many ops.toList ops.toList t d h n = o) :
    Ev E (.region id ops false) rd many t d h n o := by
  obtain ⟨F, hF⟩ := hcl
  exact Ev.step ⟨F, fun f hf => by simp only [stepA]; exact hx _ (hF f hf)⟩

theorem Ev.regD1 {id : Nat} {ops : Array Oper} {g : FuncId} {args : List Value} {hc : T Blk} {nc : Nat} {r : COut} (hcl : Cl E g args hc nc r) (hx : ∀ ih, callF E ih g args hc nc = r → Go.Sx.regD E ih rd many ops.toList t d h n = o) :
    Ev E (.region id ops true) rd many t d h n o := by
  obtain ⟨F, hF⟩ := hcl
  exact Ev.step ⟨F, fun f hf => by simp only [stepA]; exact hx _ (hF f hf)⟩

theorem Ev.reg2 {id : Nat} {ops : Array Oper} {g g' : FuncId} {args args' : List Value} {hc hc' : T Blk} {nc nc' : Nat} {r r' : COut} (hcl : Cl E g args hc nc r) (hcl' : Cl E g' args' hc' nc' r')
    (hx : ∀ ih, callF E ih g args hc nc = r → callF E ih g' args' hc' nc' = r' → opsS E ih rd many ops.toList ops.toList t d h n = o) : Ev E (.region id ops false) rd many t d h n o := by
  obtain ⟨F, hF⟩ := hcl
  obtain ⟨F', hF'⟩ := hcl'
  exact Ev.step ⟨max F F', fun f hf => by simp only [stepA]; exact hx _ (hF f (by omega)) (hF' f (by omega))⟩

/- A call, by its body. -/
theorem Cl.body {g : FuncId} {args : List Value} {fn : Func} {c : Code} {e : Ex} {v : Value} (hm : memoA E g args h = none) (hf : E.fn.get g = some fn) (hb : fn.body = some c) (hl : Nat.ble args.length fn.ntmps = true) (he : ∀ id, e ≠ .exit id)
    (hc : Ev E c none fn.ntmps (argsT args 0 .leaf) [] h n (.ok e t1 [] h1 n1)) (hr : resA E fn t1 h1 = some v) : Cl E g args h n (.ret v h1 n1) := by
  obtain ⟨F, hF⟩ := hc
  refine ⟨F, fun f hf' => ?_⟩
  unfold callF callG
  simp only [hm, hf, hb, hl, _root_.cond_true, hF f hf']
  cases e <;> first | exact absurd rfl (he _) | simp only [leaveA, hr]

theorem Cl.memo {g : FuncId} {args : List Value} {v : Value} (hm : memoA E g args h = some v) : Cl E g args h n (.ret v h n) := ⟨0, fun f _ => by unfold callF; rw [hm]⟩

end

/- The tables with all that is known. -/
noncomputable def M6 : List (FuncId × List (Ct × Value)) := [(9, L9), (128, L128)]
theorem K6 : EOk (EE M6) Tryz.prog := EE_ok fun f r h e he => by
  simp only [M6, List.mem_cons, Prod.mk.injEq, List.not_mem_nil, or_false] at h
  rcases h with ⟨rfl, rfl⟩ | ⟨rfl, rfl⟩
  · exact EE_calls K5 c9 e he
  · exact EE_calls K5 c128 e he
noncomputable def X : Env := EE M6

end Go.Sx

/- SzE: conditions under which code comes to something. -/
namespace Go.Sx
open Go.Proofs

def WP (E : Env) (many : Nat) (c : Code) (t : T Value) (h : T Blk) (n : Nat) (Q : Ex → T Value → T Blk → Nat → Prop) : Prop :=
  ∃ e t' h' n', Ev E c none many t [] h n (.ok e t' [] h' n') ∧ Q e t' h' n'

def OpsW (E : Env) (many : Nat) (all : List Oper) : List Oper → T Value → T Blk → Nat → (T Value → T Blk → Nat → Prop) → Prop
  | [], t, h, n, Q => Q t h n
  | o :: l, t, h, n, Q =>
    match wantedA all t o with
    | some true =>
      (match opA E t h n o with
       | .val v h' n' => (match putT many o.dst v t with | some t' => OpsW E many all l t' h' n' Q | none => False)
       | .skip h' n' => (match putT many o.dst undefV t with | some t' => OpsW E many all l t' h' n' Q | none => False)
       | .enter f args => ∃ v h' n', Cl E f args h n (.ret v h' n') ∧ (match putT many o.dst v t with | some t' => OpsW E many all l t' h' n' Q | none => False)
       | _ => False)
    | some false => (match putT many o.dst undefV t with | some t' => OpsW E many all l t' h n Q | none => False)
    | none => False

theorem OpsW.sound {E : Env} {many : Nat} {all : List Oper} : ∀ {l : List Oper} {t : T Value} {h : T Blk} {n : Nat} {Q : T Value → T Blk → Nat → Prop}, OpsW E many all l t h n Q →
    ∃ t' h' n', Q t' h' n' ∧ ∃ F, ∀ f, F ≤ f → opsS E (exec E f) none many all l t [] h n = .ok .normal t' [] h' n'
  | [], t, h, n, Q, hq => ⟨t, h, n, hq, 0, fun _ _ => rfl⟩
  | o :: l, t, h, n, Q, hq => by
    simp only [OpsW] at hq
    split at hq
    · rename_i hw
      split at hq
      · rename_i v h1 n1 ho
        split at hq
        · rename_i t1 hp
          obtain ⟨t', h', n', q, F, hF⟩ := OpsW.sound hq
          exact ⟨t', h', n', q, F, fun f hf => by simp only [opsS, hw, opC, ho, hp, hF f hf]⟩
        · exact hq.elim
      · rename_i h1 n1 ho
        split at hq
        · rename_i t1 hp
          obtain ⟨t', h', n', q, F, hF⟩ := OpsW.sound hq
          exact ⟨t', h', n', q, F, fun f hf => by simp only [opsS, hw, opC, ho, hp, hF f hf]⟩
        · exact hq.elim
      · rename_i g args ho
        obtain ⟨v, h1, n1, ⟨F1, hF1⟩, hq⟩ := hq
        split at hq
        · rename_i t1 hp
          obtain ⟨t', h', n', q, F, hF⟩ := OpsW.sound hq
          exact ⟨t', h', n', q, max F F1, fun f hf => by simp only [opsS, hw, opC, ho, hF1 f (by omega), hp, hF f (by omega)]⟩
        · exact hq.elim
      · exact hq.elim
    · rename_i hw
      split at hq
      · rename_i t1 hp
        obtain ⟨t', h', n', q, F, hF⟩ := OpsW.sound hq
        exact ⟨t', h', n', q, F, fun f hf => by simp only [opsS, hw, hp, hF f hf]⟩
      · exact hq.elim
    · exact hq.elim

/- .. and where the order is drawn. -/
def OpsDW (E : Env) (many : Nat) (all : List Oper) : List Oper → List Ent → T Value → T Blk → Nat → (List Ent → T Value → T Blk → Nat → Prop) → Prop
  | [], acc, t, h, n, Q => Q acc t h n
  | o :: l, acc, t, h, n, Q =>
    match wantedA all t o with
    | some true =>
      belowT n t (opTmps o) = true ∧
      (match opA E t h n o with
       | .val v h' n' => (match putT many o.dst v t with | some t' => OpsDW E many all l (acc ++ [⟨true, t, v, h, h', n, n'⟩]) t' h' n' Q | none => False)
       | .skip h' n' => (match putT many o.dst undefV t with | some t' => OpsDW E many all l (acc ++ [⟨true, t, undefV, h, h', n, n'⟩]) t' h' n' Q | none => False)
       | .enter f args => ∃ v h' n', Cl E f args h n (.ret v h' n') ∧ (match putT many o.dst v t with | some t' => OpsDW E many all l (acc ++ [⟨true, t, v, h, h', n, n'⟩]) t' h' n' Q | none => False)
       | _ => False)
    | some false => (match putT many o.dst undefV t with | some t' => OpsDW E many all l (acc ++ [⟨false, t, undefV, h, h, n, n⟩]) t' h n Q | none => False)
    | none => False

theorem OpsDW.sound {E : Env} {many : Nat} {all : List Oper} : ∀ {l : List Oper} {acc : List Ent} {t : T Value} {h : T Blk} {n : Nat} {Q : List Ent → T Value → T Blk → Nat → Prop}, OpsDW E many all l acc t h n Q →
    ∃ log t' h' n', Q log t' h' n' ∧ ∃ F, ∀ f, F ≤ f → opsD E (exec E f) many all l acc t h n = .ok log t' h' n'
  | [], acc, t, h, n, Q, hq => ⟨acc, t, h, n, hq, 0, fun _ _ => rfl⟩
  | o :: l, acc, t, h, n, Q, hq => by
    simp only [OpsDW] at hq
    split at hq
    · rename_i hw
      obtain ⟨hb, hq⟩ := hq
      split at hq
      · rename_i v h1 n1 ho
        split at hq
        · rename_i t1 hp
          obtain ⟨log, t', h', n', q, F, hF⟩ := OpsDW.sound hq
          exact ⟨log, t', h', n', q, F, fun f hf => by simp only [opsD, hw, opN, ho, hp, hb, _root_.cond_true, hF f hf]⟩
        · exact hq.elim
      · rename_i h1 n1 ho
        split at hq
        · rename_i t1 hp
          obtain ⟨log, t', h', n', q, F, hF⟩ := OpsDW.sound hq
          exact ⟨log, t', h', n', q, F, fun f hf => by simp only [opsD, hw, opN, ho, hp, hb, _root_.cond_true, hF f hf]⟩
        · exact hq.elim
      · rename_i g args ho
        obtain ⟨v, h1, n1, ⟨F1, hF1⟩, hq⟩ := hq
        split at hq
        · rename_i t1 hp
          obtain ⟨log, t', h', n', q, F, hF⟩ := OpsDW.sound hq
          exact ⟨log, t', h', n', q, max F F1, fun f hf => by simp only [opsD, hw, opN, ho, hF1 f (by omega), hp, hb, _root_.cond_true, hF f (by omega)]⟩
        · exact hq.elim
      · exact hq.elim
    · rename_i hw
      split at hq
      · rename_i t1 hp
        obtain ⟨log, t', h', n', q, F, hF⟩ := OpsDW.sound hq
        exact ⟨log, t', h', n', q, F, fun f hf => by simp only [opsD, hw, hp, hF f hf]⟩
      · exact hq.elim
    · exact hq.elim

section
variable {E : Env} {many : Nat} {t : T Value} {h : T Blk} {n : Nat} {Q : Ex → T Value → T Blk → Nat → Prop}

theorem WP.mono {c : Code} {Q' : Ex → T Value → T Blk → Nat → Prop} (hw : WP E many c t h n Q) (hq : ∀ e t h n, Q e t h n → Q' e t h n) : WP E many c t h n Q' := by
  obtain ⟨e, t', h', n', h1, h2⟩ := hw
  exact ⟨e, t', h', n', h1, hq _ _ _ _ h2⟩

def SeqQ (E : Env) (many : Nat) (b : Code) (Q : Ex → T Value → T Blk → Nat → Prop) (e : Ex) (t : T Value) (h : T Blk) (n : Nat) : Prop :=
  match e with
  | .normal => WP E many b t h n Q
  | e => Q e t h n

theorem WP.seq {a b : Code} (hw : WP E many a t h n (SeqQ E many b Q)) : WP E many (.seq a b) t h n Q := by
  obtain ⟨e, t', h', n', h1, h2⟩ := hw
  cases e with
  | normal =>
    obtain ⟨e, t2, h2', n2, h3, h4⟩ := h2
    exact ⟨e, t2, h2', n2, .seq h1 h3, h4⟩
  | exit id => exact ⟨_, t', h', n', .seq_out h1 (by simp), h2⟩
  | ret => exact ⟨_, t', h', n', .seq_out h1 (by simp), h2⟩

theorem WP.reg {id : Nat} {ops : Array Oper} (hw : OpsW E many ops.toList ops.toList t h n (Q .normal)) : WP E many (.region id ops false) t h n Q := by
  obtain ⟨t', h', n', h1, F, hF⟩ := hw.sound
  exact ⟨.normal, t', h', n', Ev.step ⟨F, fun f hf => by simp only [stepA]; exact hF f hf⟩, h1⟩

theorem WP.regD {id : Nat} {ops : Array Oper} (hR : regOK ops.toList = true) (hw : OpsDW E many ops.toList ops.toList [] t h n (fun log t' h' n' => floatOK E ops.toList log (regFl ops.toList) = true ∧ Q .normal t' h' n')) : WP E many (.region id ops true) t h n Q := by
  obtain ⟨log, t', h', n', ⟨h0, h1⟩, F, hF⟩ := hw.sound
  refine ⟨.normal, t', h', n', Ev.step ⟨F, fun f hf => ?_⟩, h1⟩
  simp only [stepA, Go.Sx.regD, hR, _root_.cond_true, hF f hf, h0]

theorem WP.ret (hq : Q .ret t h n) : WP E many .ret t h n Q := ⟨.ret, t, h, n, .ret, hq⟩
theorem WP.skip (hq : Q .normal t h n) : WP E many .skip t h n Q := ⟨.normal, t, h, n, .skip, hq⟩
theorem WP.label {l : Nat} (hq : Q .normal t h n) : WP E many (.label l) t h n Q := ⟨.normal, t, h, n, .label, hq⟩
theorem WP.exit {id : Nat} (hq : Q (.exit id) t h n) : WP E many (.exit id) t h n Q := ⟨.exit id, t, h, n, .exit, hq⟩

theorem WP.cond {x : Operand} {a b : Code} {v : Bool} (hx : evA E t x = some (.bool v)) (ha : v = true → WP E many a t h n Q) (hb : v = false → WP E many b t h n Q) : WP E many (.cond x a b) t h n Q := by
  cases v with
  | true =>
    obtain ⟨e, t', h', n', h1, h2⟩ := ha rfl
    exact ⟨e, t', h', n', .cond_true hx h1, h2⟩
  | false =>
    obtain ⟨e, t', h', n', h1, h2⟩ := hb rfl
    exact ⟨e, t', h', n', .cond_false hx h1, h2⟩

theorem WP.scope {b : Code} (hw : WP E many b t h n Q) : WP E many (.scope b) t h n Q := by
  obtain ⟨e, t', h', n', h1, h2⟩ := hw
  exact ⟨e, t', h', n', .scope h1, h2⟩

def BlockQ (id : Nat) (Q : Ex → T Value → T Blk → Nat → Prop) (e : Ex) (t : T Value) (h : T Blk) (n : Nat) : Prop :=
  match e with
  | .exit i => bif Nat.beq i id then Q .normal t h n else Q (.exit i) t h n
  | e => Q e t h n

theorem WP.block {id : Nat} {b : Code} (hw : WP E many b t h n (BlockQ id Q)) : WP E many (.block id b) t h n Q := by
  obtain ⟨e, t', h', n', h1, h2⟩ := hw
  cases e with
  | normal => exact ⟨_, t', h', n', .block_normal h1, h2⟩
  | ret => exact ⟨_, t', h', n', .block_ret h1, h2⟩
  | exit i =>
    simp only [BlockQ, bif_eq_ite, beqT] at h2
    by_cases hi : i = id
    · subst hi
      rw [if_pos rfl] at h2
      exact ⟨_, t', h', n', .block_exit h1, h2⟩
    · rw [if_neg hi] at h2
      refine ⟨_, t', h', n', .block_other ?_ h1, h2⟩
      cases hb : Nat.beq i id with
      | false => rfl
      | true => rw [beqT] at hb; exact absurd hb hi

/- A loop, by a number that goes down. -/
theorem WP.loop {b : Code} (I : Nat → T Value → T Blk → Nat → Prop) (hb : ∀ k t h n, I k t h n → WP E many b t h n (fun e t' h' n' => match e with | .normal => ∃ k', k' < k ∧ I k' t' h' n' | e => Q e t' h' n')) :
    ∀ k t h n, I k t h n → WP E many (.loop b) t h n Q := by
  intro k
  induction k using Nat.strongRecOn with
  | _ k ih =>
    intro t h n hi
    obtain ⟨e, t', h', n', h1, h2⟩ := hb k t h n hi
    cases e with
    | normal =>
      obtain ⟨k', h3, h4⟩ := h2
      obtain ⟨e, t2, h2', n2, h5, h6⟩ := ih k' h3 t' h' n' h4
      exact ⟨e, t2, h2', n2, .loop_step h1 h5, h6⟩
    | exit id => exact ⟨_, t', h', n', .loop_out h1 (by simp), h2⟩
    | ret => exact ⟨_, t', h', n', .loop_out h1 (by simp), h2⟩

end

/- A function, by its body. -/
theorem Cl.wp {E : Env} {g : FuncId} {args : List Value} {h : T Blk} {n : Nat} {R : Value → T Blk → Nat → Prop} {fn : Func} {c : Code} {many : Nat} (hm : memoA E g args h = none) (hf : E.fn.get g = some fn) (hb : fn.body = some c) (hmany : fn.ntmps = many)
    (hl : Nat.ble args.length many = true) (hw : WP E many c (argsT args 0 .leaf) h n (fun e t' h' n' => (∀ id, e ≠ .exit id) ∧ ∃ v, resA E fn t' h' = some v ∧ R v h' n')) : ∃ v h' n', Cl E g args h n (.ret v h' n') ∧ R v h' n' := by
  subst hmany
  obtain ⟨e, t', h', n', h1, h2, v, h3, h4⟩ := hw
  exact ⟨v, h', n', Cl.body hm hf hb hl h2 h1 h3, h4⟩

end Go.Sx

/- SzF: regions, operation by operation; the temporaries are an explicit list. -/
namespace Go.Sx
open Go.Proofs

abbrev LT := List (Nat × Value)

def lk : LT → Nat → Option Value
  | [], _ => none
  | p :: l, k => bif Nat.beq p.1 k then some p.2 else lk l k

noncomputable def toT : LT → T Value
  | [] => .leaf
  | p :: l => (toT l).upd (some p.2) p.1

theorem toT_get : ∀ (L : LT) (k : Nat), (toT L).get k = lk L k
  | [], k => rfl
  | p :: l, k => by
    rw [toT, T.get_upd, lk, toT_get l k, bif_eq_ite]
    by_cases h : p.1 = k
    · subst h; simp
    · rw [if_neg (fun e => h e.symm), if_neg (by rw [beqT]; exact h)]

def Has (t : T Value) (L : LT) : Prop := ∀ k v, lk L k = some v → t.get k = some v

theorem Has.put {t : T Value} {L : LT} (h : Has t L) (d : Nat) (v : Value) : Has (t.upd (some v) d) ((d, v) :: L) := by
  intro k x hk
  rw [T.get_upd]
  rw [lk, bif_eq_ite] at hk
  split at hk
  · rename_i e
    rw [beqT] at e
    have e : d = k := e
    rw [if_pos e.symm]
    exact hk
  · rename_i e
    rw [beqT] at e
    have e : ¬ d = k := e
    rw [if_neg (fun h => e h.symm)]
    exact h k x hk

theorem Has.toT (L : LT) : Has (toT L) L := fun k v h => by rw [toT_get]; exact h

section
variable {E : Env} {h : T Blk} {n : Nat} {t t' : T Value}

def More (t t' : T Value) : Prop := ∀ k v, t.get k = some v → t'.get k = some v

theorem evA_more (m : More t t') {x : Operand} {v : Value} (hx : evA E t x = some v) : evA E t' x = some v := by
  cases x with
  | tmp k => exact m k v hx
  | const c => exact hx
  | global g => exact hx
  | func f => exact hx

theorem evAll_more (m : More t t') : ∀ {l : List Operand} {v : List Value}, evAll E t l = some v → evAll E t' l = some v
  | [], v, h => h
  | x :: l, v, h => by
    simp only [evAll] at h ⊢
    split at h
    · rename_i a b h1 h2
      rw [evA_more m h1, evAll_more m h2]
      exact h
    · cases h

theorem evParts_more (m : More t t') : ∀ {l : List (Nat × Operand)} {v : List (Nat × Value)}, evParts E t l = some v → evParts E t' l = some v
  | [], v, h => h
  | (i, x) :: l, v, h => by
    simp only [evParts] at h ⊢
    split at h
    · rename_i a b h1 h2
      rw [evA_more m h1, evParts_more m h2]
      exact h
    · cases h

theorem evOpt_more (m : More t t') {x : Option Operand} {v : Option Value} (hx : evOpt E t x = some v) : evOpt E t' x = some v := by
  cases x with
  | none => exact hx
  | some y =>
    simp only [evOpt] at hx ⊢
    split at hx
    · rename_i a h1
      rw [evA_more m h1]
      exact hx
    · cases hx

end

/- An operation's outcome that holds of any temporaries that hold what is listed. -/
def Does (E : Env) (L : LT) (h : T Blk) (n : Nat) (o : Oper) (r : OO) : Prop := ∀ t, Has t L → opA E t h n o = r

def evL (E : Env) (L : LT) : Operand → Option Value
  | .tmp k => lk L k
  | .const v => bif lit 6 v then some v else none
  | .global g => bif Nat.blt g E.glob then some (.pointer (some ⟨g, 0, none⟩)) else none
  | .func f => some (.func (.func f) #[] #[])

theorem evL_ok {E : Env} {L : LT} {t : T Value} (ht : Has t L) {x : Operand} {v : Value} (hx : evL E L x = some v) : evA E t x = some v := by
  cases x with
  | tmp k => exact ht k v hx
  | const c => exact hx
  | global g => exact hx
  | func f => exact hx

def evLs (E : Env) (L : LT) : List Operand → Option (List Value)
  | [] => some []
  | x :: l => match evL E L x, evLs E L l with
    | some v, some r => some (v :: r)
    | _, _ => none

theorem evLs_ok {E : Env} {L : LT} {t : T Value} (ht : Has t L) : ∀ {l : List Operand} {v : List Value}, evLs E L l = some v → evAll E t l = some v
  | [], v, h => h
  | x :: l, v, h => by
    simp only [evLs] at h
    split at h
    · rename_i a b h1 h2
      simp only [evAll, evL_ok ht h1, evLs_ok ht h2]
      exact h
    · cases h

/- Whether an operation is wanted. -/
def WantL (all : List Oper) (L : LT) (g : Option (Nat × Bool)) (b : Bool) : Prop :=
  match g with
  | none => b = true
  | some (j, want) => ∃ oj d, nth all j = some oj ∧ oj.dst = some d ∧ ((∃ c, lk L d = some (.bool c) ∧ b = (c == want)) ∨ (∃ a, lk L d = some (.tuple a) ∧ b = false))

theorem WantL.ok {all : List Oper} {L : LT} {t : T Value} (ht : Has t L) {o : Oper} {b : Bool} (h : WantL all L o.guard b) : wantedA all t o = some b := by
  unfold WantL at h
  unfold wantedA
  cases hg : o.guard with
  | none => rw [hg] at h; simp only at h; rw [h]
  | some jw =>
    obtain ⟨j, want⟩ := jw
    rw [hg] at h
    obtain ⟨oj, d, h1, h2, h3⟩ := h
    simp only [h1, h2]
    rcases h3 with ⟨c, h3, h4⟩ | ⟨a, h3, h4⟩
    · rw [ht d _ h3, h4]
    · rw [ht d _ h3, h4]

/- A region, by the list of what the temporaries hold. -/
def OL (E : Env) (many : Nat) (all l : List Oper) (L : LT) (h : T Blk) (n : Nat) (Q : LT → T Blk → Nat → Prop) : Prop :=
  ∀ t, Has t L → OpsW E many all l t h n (fun t' h' n' => ∃ L', Has t' L' ∧ Q L' h' n')

section
variable {E : Env} {many : Nat} {all l : List Oper} {L : LT} {h h' : T Blk} {n n' : Nat} {Q : LT → T Blk → Nat → Prop} {o : Oper}

theorem OL.nil (hq : Q L h n) : OL E many all [] L h n Q := fun _ ht => ⟨L, ht, hq⟩

theorem OL.val {v : Value} {d : Tmp} (hw : WantL all L o.guard true) (ho : Does E L h n o (.val v h' n')) (hd : o.dst = some d) (hm : Nat.blt d many = true) (hk : OL E many all l ((d, v) :: L) h' n' Q) : OL E many all (o :: l) L h n Q := by
  intro t ht
  simp only [OpsW, hw.ok ht, ho t ht, putT, hd, hm, cond_true]
  exact hk _ (ht.put d v)

theorem OL.skip (hw : WantL all L o.guard true) (ho : Does E L h n o (.skip h' n')) (hd : o.dst = none) (hk : OL E many all l L h' n' Q) : OL E many all (o :: l) L h n Q := by
  intro t ht
  simp only [OpsW, hw.ok ht, ho t ht, putT, hd]
  exact hk _ ht

theorem OL.call {f : FuncId} {args : List Value} {v : Value} {d : Tmp} (hw : WantL all L o.guard true) (ho : Does E L h n o (.enter f args)) (hc : Cl E f args h n (.ret v h' n')) (hd : o.dst = some d) (hm : Nat.blt d many = true)
    (hk : OL E many all l ((d, v) :: L) h' n' Q) : OL E many all (o :: l) L h n Q := by
  intro t ht
  simp only [OpsW, hw.ok ht, ho t ht]
  refine ⟨v, h', n', hc, ?_⟩
  simp only [putT, hd, hm, cond_true]
  exact hk _ (ht.put d v)

theorem OL.pass {d : Tmp} (hw : WantL all L o.guard false) (hd : o.dst = some d) (hm : Nat.blt d many = true) (hk : OL E many all l ((d, undefV) :: L) h n Q) : OL E many all (o :: l) L h n Q := by
  intro t ht
  simp only [OpsW, hw.ok ht, putT, hd, hm, cond_true]
  exact hk _ (ht.put d undefV)

/- Fewer facts. -/
theorem OL.keep {L' : LT} (hs : ∀ k v, lk L' k = some v → lk L k = some v) (hk : OL E many all l L' h n Q) : OL E many all l L h n Q :=
  fun t ht => hk t fun k v hv => ht k v (hs k v hv)

end

/- Code, by the list of what the temporaries hold. -/
def WL (E : Env) (many : Nat) (c : Code) (L : LT) (h : T Blk) (n : Nat) (Q : Ex → LT → T Blk → Nat → Prop) : Prop :=
  ∀ t, Has t L → WP E many c t h n (fun e t' h' n' => ∃ L', Has t' L' ∧ Q e L' h' n')

section
variable {E : Env} {many : Nat} {L : LT} {h : T Blk} {n : Nat} {Q : Ex → LT → T Blk → Nat → Prop}

def SeqL (E : Env) (many : Nat) (b : Code) (Q : Ex → LT → T Blk → Nat → Prop) (e : Ex) (L : LT) (h : T Blk) (n : Nat) : Prop :=
  match e with
  | .normal => WL E many b L h n Q
  | e => Q e L h n

theorem WL.mono {c : Code} {Q' : Ex → LT → T Blk → Nat → Prop} (hw : WL E many c L h n Q) (hq : ∀ e L h n, Q e L h n → Q' e L h n) : WL E many c L h n Q' :=
  fun t ht => (hw t ht).mono fun _ _ _ _ ⟨L', h1, h2⟩ => ⟨L', h1, hq _ _ _ _ h2⟩

theorem WL.keep {c : Code} {L' : LT} (hs : ∀ k v, lk L' k = some v → lk L k = some v) (hk : WL E many c L' h n Q) : WL E many c L h n Q :=
  fun t ht => hk t fun k v hv => ht k v (hs k v hv)

theorem WL.seq {a b : Code} (hw : WL E many a L h n (SeqL E many b Q)) : WL E many (.seq a b) L h n Q := by
  intro t ht
  refine WP.seq ((hw t ht).mono fun e t' h' n' ⟨L', h1, h2⟩ => ?_)
  cases e with
  | normal => exact h2 t' h1
  | exit id => exact ⟨L', h1, h2⟩
  | ret => exact ⟨L', h1, h2⟩

theorem WL.reg {id : Nat} {ops : Array Oper} (hw : OL E many ops.toList ops.toList L h n (Q .normal)) : WL E many (.region id ops false) L h n Q := fun t ht => WP.reg (hw t ht)

theorem WL.ret (hq : Q .ret L h n) : WL E many .ret L h n Q := fun _ ht => WP.ret ⟨L, ht, hq⟩
theorem WL.skip (hq : Q .normal L h n) : WL E many .skip L h n Q := fun _ ht => WP.skip ⟨L, ht, hq⟩
theorem WL.label {l : Nat} (hq : Q .normal L h n) : WL E many (.label l) L h n Q := fun _ ht => WP.label ⟨L, ht, hq⟩
theorem WL.exit {id : Nat} (hq : Q (.exit id) L h n) : WL E many (.exit id) L h n Q := fun _ ht => WP.exit ⟨L, ht, hq⟩
theorem WL.scope {b : Code} (hw : WL E many b L h n Q) : WL E many (.scope b) L h n Q := fun t ht => WP.scope (hw t ht)

theorem WL.condT {x : Operand} {a b : Code} (hx : evL E L x = some (.bool true)) (ha : WL E many a L h n Q) : WL E many (.cond x a b) L h n Q :=
  fun t ht => WP.cond (evL_ok ht hx) (fun _ => ha t ht) (fun e => by cases e)
theorem WL.condF {x : Operand} {a b : Code} (hx : evL E L x = some (.bool false)) (hb : WL E many b L h n Q) : WL E many (.cond x a b) L h n Q :=
  fun t ht => WP.cond (evL_ok ht hx) (fun e => by cases e) (fun _ => hb t ht)

def BlockL (id : Nat) (Q : Ex → LT → T Blk → Nat → Prop) (e : Ex) (L : LT) (h : T Blk) (n : Nat) : Prop :=
  match e with
  | .exit i => bif Nat.beq i id then Q .normal L h n else Q (.exit i) L h n
  | e => Q e L h n

theorem WL.block {id : Nat} {b : Code} (hw : WL E many b L h n (BlockL id Q)) : WL E many (.block id b) L h n Q := by
  intro t ht
  refine WP.block ((hw t ht).mono fun e t' h' n' ⟨L', h1, h2⟩ => ?_)
  cases e with
  | normal => exact ⟨L', h1, h2⟩
  | ret => exact ⟨L', h1, h2⟩
  | exit i =>
    simp only [BlockQ, BlockL] at h2 ⊢
    cases hb : Nat.beq i id with
    | true => rw [hb] at h2; exact ⟨L', h1, h2⟩
    | false => rw [hb] at h2; exact ⟨L', h1, h2⟩

def LoopL (k : Nat) (I : Nat → LT → T Blk → Nat → Prop) (Q : Ex → LT → T Blk → Nat → Prop) (e : Ex) (L : LT) (h : T Blk) (n : Nat) : Prop :=
  match e with
  | .normal => ∃ k', k' < k ∧ I k' L h n
  | e => Q e L h n

/- A loop, by a number that goes down. -/
theorem WL.loop {b : Code} (I : Nat → LT → T Blk → Nat → Prop) (hb : ∀ k L h n, I k L h n → WL E many b L h n (LoopL k I Q)) {k : Nat} (hi : I k L h n) : WL E many (.loop b) L h n Q := by
  intro t ht
  refine WP.loop (fun k t h n => ∃ L, Has t L ∧ I k L h n) (fun k t h n ⟨L, ht, hi⟩ => ?_) k t h n ⟨L, ht, hi⟩
  refine ((hb k L h n hi) t ht).mono fun e t' h' n' ⟨L', h1, h2⟩ => ?_
  cases e with
  | normal =>
    obtain ⟨k', h3, h4⟩ := h2
    exact ⟨k', h3, L', h1, h4⟩
  | exit id => exact ⟨L', h1, h2⟩
  | ret => exact ⟨L', h1, h2⟩

end

/- The arguments of a call. -/
def argL : List Value → Nat → LT → LT
  | [], _, L => L
  | v :: l, i, L => argL l (i + 1) ((i, v) :: L)

theorem argL_has : ∀ (l : List Value) (i : Nat) (L : LT) (t : T Value), Has t L → Has (argsT l i t) (argL l i L)
  | [], _, _, _, ht => ht
  | v :: l, i, L, t, ht => argL_has l (i + 1) ((i, v) :: L) (t.upd (some v) i) (ht.put i v)

def resLs (L : LT) : List ResultVar → Option (List Value)
  | [] => some []
  | .tmp k :: l => (match lk L k, resLs L l with | some v, some r => some (v :: r) | _, _ => none)
  | .cell _ _ :: _ => none

def resV : List Value → Value
  | [v] => v
  | l => .tuple ⟨l⟩

theorem resLs_ok {E : Env} {L : LT} {t : T Value} {h : T Blk} (ht : Has t L) : ∀ {rs : List ResultVar} {vs : List Value}, resLs L rs = some vs → resL E t h rs = some vs
  | [], vs, hx => hx
  | .tmp k :: l, vs, hx => by
    simp only [resLs] at hx
    split at hx
    · rename_i v r h1 h2
      simp only [resL, ht k v h1, resLs_ok ht h2]
      exact hx
    · cases hx
  | .cell _ _ :: l, vs, hx => by simp [resLs] at hx

/- A function, by its body. -/
theorem Cl.wl {E : Env} {g : FuncId} {args : List Value} {h : T Blk} {n : Nat} {R : Value → T Blk → Nat → Prop} {fn : Func} {c : Code} {many : Nat} {rs : List ResultVar} (hm : memoA E g args h = none) (hf : E.fn.get g = some fn) (hb : fn.body = some c) (hmany : fn.ntmps = many)
    (hrs : fn.results.toList = rs) (hl : Nat.ble args.length many = true) (hw : WL E many c (argL args 0 []) h n (fun e L' h' n' => (∀ id, e ≠ .exit id) ∧ ∃ vs, resLs L' rs = some vs ∧ R (resV vs) h' n')) :
    ∃ v h' n', Cl E g args h n (.ret v h' n') ∧ R v h' n' := by
  refine Cl.wp hm hf hb hmany hl ((hw (argsT args 0 .leaf) (argL_has args 0 [] .leaf fun k v hv => by cases hv)).mono fun e t' h' n' ⟨L', h1, h2, vs, h3, h4⟩ => ?_)
  refine ⟨h2, resV vs, ?_, h4⟩
  subst hrs
  unfold resA
  rw [resLs_ok h1 h3]
  match vs with
  | [] => rfl
  | [v] => rfl
  | _ :: _ :: _ => rfl

end Go.Sx

/- SzG: what single operations do, by the list of what the temporaries hold. -/
namespace Go.Sx
open Go.Proofs

section
variable {E : Env} {L : LT} {h h' : T Blk} {n n' : Nat} {o : Oper}

theorem D.move {x : Operand} {v : Value} (ho : o.op = .move x) (hx : evL E L x = some v) : Does E L h n o (.val v h n) := fun t ht => by simp only [opA, ho, evL_ok ht hx, val?]
theorem D.assign {x : Operand} {v : Value} (ho : o.op = .assign x) (hx : evL E L x = some v) : Does E L h n o (.val v h n) := fun t ht => by simp only [opA, ho, evL_ok ht hx, val?]
theorem D.bin {op : BinOp} {ty yt : TypeId} {x y : Operand} {a b v : Value} (ho : o.op = .binOp op ty x y yt) (hx : evL E L x = some a) (hy : evL E L y = some b) (hb : binA E op ty (isConstO x || isConstO y) a b = some v) :
    Does E L h n o (.val v h n) := fun t ht => by simp only [opA, ho, evL_ok ht hx, evL_ok ht hy, hb, val?]
theorem D.un {op : UnOp} {ty : TypeId} {x : Operand} {a v : Value} (ho : o.op = .unOp op ty x) (hx : evL E L x = some a) (hb : unA op a = some v) : Does E L h n o (.val v h n) := fun t ht => by simp only [opA, ho, evL_ok ht hx, hb, val?]
theorem D.pickT {c x y : Operand} {v : Value} (ho : o.op = .pick c x y) (hc : evL E L c = some (.bool true)) (hx : evL E L x = some v) : Does E L h n o (.val v h n) := fun t ht => by simp only [opA, ho, evL_ok ht hc, evL_ok ht hx, val?]
theorem D.pickF {c x y : Operand} {v : Value} (ho : o.op = .pick c x y) (hc : evL E L c = some (.bool false)) (hy : evL E L y = some v) : Does E L h n o (.val v h n) := fun t ht => by simp only [opA, ho, evL_ok ht hc, evL_ok ht hy, val?]
theorem D.extract {x : Operand} {k : Nat} {vs : Array Value} {v : Value} (ho : o.op = .extract x k) (hx : evL E L x = some (.tuple vs)) (hv : nth vs.toList k = some v) : Does E L h n o (.val v h n) := fun t ht => by simp only [opA, ho, evL_ok ht hx, hv, val?]
theorem D.nilCheck {x : Operand} {a : Addr} (ho : o.op = .nilCheck x) (hx : evL E L x = some (.pointer (some a))) : Does E L h n o (.val (.pointer (some a)) h n) := fun t ht => by simp only [opA, ho, evL_ok ht hx]
theorem D.load {ty : TypeId} {x : Operand} {p v : Value} (ho : o.op = .load ty x) (hx : evL E L x = some p) (hv : loadA E h ty p = some v) : Does E L h n o (.val v h n) := fun t ht => by simp only [opA, ho, evL_ok ht hx, hv, val?]
theorem D.store {ty : TypeId} {x y : Operand} {p v : Value} (ho : o.op = .store ty x y) (hx : evL E L x = some p) (hy : evL E L y = some v) (hv : storeA E h ty p v = some h') : Does E L h n o (.skip h' n) := fun t ht => by
  simp only [opA, ho, evL_ok ht hx, evL_ok ht hy, hv]
theorem D.alloc {e : TypeId} {i : TyI} (ho : o.op = .alloc e) (hi : E.ty.get e = some i) (hz : i.zok = true) : Does E L h n o (.val (ptrTo n) (h.upd (some (.cells i.zero)) n) (n + 1)) := fun t _ => by simp only [opA, ho, hi, hz, cond_true, newA]
theorem D.box {e : TypeId} {x : Operand} {v : Value} (ho : o.op = .box e x) (hx : evL E L x = some v) : Does E L h n o (.val (ptrTo n) (h.upd (some (.cells (cellsL v))) n) (n + 1)) := fun t ht => by simp only [opA, ho, evL_ok ht hx, newA]
theorem D.field {s : TypeId} {x : Operand} {k b off f : Nat} (ho : o.op = .fieldAddr s x k) (hx : evL E L x = some (.pointer (some ⟨b, off, none⟩))) (hf : fieldOff E s k = some f) : Does E L h n o (.val (.pointer (some ⟨b, off + f, none⟩)) h n) := fun t ht => by
  simp only [opA, ho, evL_ok ht hx, hf]
theorem D.index {ty : TypeId} {x i : Operand} {a k v : Value} (ho : o.op = .indexAddr ty x i) (hx : evL E L x = some a) (hi : evL E L i = some k) (hv : idxA E ty a k = some v) : Does E L h n o (.val v h n) := fun t ht => by
  simp only [opA, ho, evL_ok ht hx, evL_ok ht hi, hv, val?]
theorem D.makeSlice {ty : TypeId} {x y : Operand} {a b v : Value} {cs : List Value} (ho : o.op = .makeSlice ty x y) (hx : evL E L x = some a) (hy : evL E L y = some b) (hv : makeSliceA E ty a b n = some (v, cs)) :
    Does E L h n o (.val v (h.upd (some (.cells cs)) n) (n + 1)) := fun t ht => by simp only [opA, ho, evL_ok ht hx, evL_ok ht hy, hv, newA]
theorem D.slice0 {ty : TypeId} {x : Operand} {a : Option Addr} {v : Value} (ho : o.op = .slice ty x none none none) (hx : evL E L x = some (.pointer a)) (hv : sliceArrA E ty (.pointer a) none none none = some v) : Does E L h n o (.val v h n) := fun t ht => by
  simp only [opA, ho, evL_ok ht hx, evOpt, hv, val?]
theorem D.builtinV {c : Call} {b : Builtin} {args : List Value} {v : Value} (ho : o.op = .call c) (hc : c.callee = .builtin b) (ha : evLs E L c.args.toList = some args) (hr : builtinA E b c.argTypes.toList args h n = .val v h' n') : Does E L h n o (.val v h' n') := fun t ht => by
  simp only [opA, ho, hc, evLs_ok ht ha, hr]
theorem D.callF {c : Call} {f : FuncId} {fn : Func} {args : List Value} (ho : o.op = .call c) (hc : c.callee = .value (.func f)) (ha : evLs E L c.args.toList = some args) (hf : E.fn.get f = some fn) : Does E L h n o (.enter f args) := fun t ht => by
  simp only [opA, ho, hc, evLs_ok ht ha, evA, callA, hf, List.nil_append, List.append_nil]

end

/- Parts that are evaluated. -/
def evPs (E : Env) (L : LT) : List (Nat × Operand) → Option (List (Nat × Value))
  | [] => some []
  | (i, x) :: l => match evL E L x, evPs E L l with
    | some v, some r => some ((i, v) :: r)
    | _, _ => none

theorem evPs_ok {E : Env} {L : LT} {t : T Value} (ht : Has t L) : ∀ {l : List (Nat × Operand)} {v : List (Nat × Value)}, evPs E L l = some v → evParts E t l = some v
  | [], v, h => h
  | (i, x) :: l, v, h => by
    simp only [evPs] at h
    split at h
    · rename_i a b h1 h2
      simp only [evParts, evL_ok ht h1, evPs_ok ht h2]
      exact h
    · cases h

section
variable {E : Env} {L : LT} {h h' : T Blk} {n n' : Nat} {o : Oper}

theorem D.build {ty : TypeId} {ps : Array (Nat × Operand)} {l : List (Nat × Value)} {v : Value} (ho : o.op = .build ty ps) (hp : evPs E L ps.toList = some l) (hv : buildA E ty l = some v) : Does E L h n o (.val v h n) := fun t ht => by
  simp only [opA, ho, evPs_ok ht hp, hv, val?]
theorem D.buildSlice {ty : TypeId} {len : Nat} {ps : Array (Nat × Operand)} {l : List (Nat × Value)} {cs : List Value} (ho : o.op = .buildSlice ty len ps) (hp : evPs E L ps.toList = some l) (hv : buildSliceA E ty len l = some cs) :
    Does E L h n o (.val (.slice (some ⟨n, 0, none⟩) len len) (h.upd (some (.cells cs)) n) (n + 1)) := fun t ht => by simp only [opA, ho, evPs_ok ht hp, hv, newA]

end

/- The types of the graph functions. -/
def tInt : TyI := { size := 1, bytes := 8, d := .int .i64, zero := [.int .i64 0], zok := true }
def tBool : TyI := { size := 1, bytes := 1, d := .bool, zero := [.bool false], zok := true }
def tSl (e : TypeId) : TyI := { size := 1, bytes := 24, d := .slice e, zero := [.slice none 0 0], zok := true }
def tPair : TyI := { size := 2, bytes := 16, d := .array 2 3, zero := [.int .i64 0, .int .i64 0], zok := true }

set_option maxRecDepth 100000
theorem ty3 : X.ty.get 3 = some tInt := by kernel_rfl
theorem ty4 : X.ty.get 4 = some tBool := by kernel_rfl
theorem ty22 : X.ty.get 22 = some (tSl 35) := by kernel_rfl
theorem ty25 : X.ty.get 25 = some (tSl 3) := by kernel_rfl
theorem ty26 : X.ty.get 26 = some tInt := by kernel_rfl
theorem ty35 : X.ty.get 35 = some tPair := by kernel_rfl
theorem ty38 : X.ty.get 38 = some (tSl 4) := by kernel_rfl
theorem ty93 : X.ty.get 93 = some (tSl 25) := by kernel_rfl

theorem memoX {f : FuncId} (hf : f ≠ 9 ∧ f ≠ 128) {args : List Value} {h : T Blk} : memoA X f args h = none := by
  have : X.memo.get f = none := by
    show (memoT M6).get f = none
    cases hx : (memoT M6).get f with
    | none => rfl
    | some r =>
      have := memoT_some hx
      simp only [M6, List.mem_cons, Prod.mk.injEq, List.not_mem_nil, or_false] at this
      rcases this with h1 | h1
      · exact absurd h1.1 hf.1
      · exact absurd h1.1 hf.2
  unfold memoA
  rw [this]

section
variable {h : T Blk} {n : Nat}

/- Loads. -/
theorem load1 {ty : TypeId} {i : TyI} (hty : X.ty.get ty = some i) (hi : isAgg i.d = false) {b o : Nat} {cs : List Value} (hc : cellsOf h b = some cs) {v : Value} (hv : cs[o]? = some v) : loadA X h ty (.pointer (some ⟨b, o, none⟩)) = some v := by
  simp only [loadA, hty, hc, ldA, hi, cond_false, nth_eq, hv]

theorem load2 {b o : Nat} {cs : List Value} (hc : cellsOf h b = some cs) {x y : Value} (hx : cs[o]? = some x) (hy : cs[o + 1]? = some y) : loadA X h 35 (.pointer (some ⟨b, o, none⟩)) = some (.agg #[x, y]) := by
  have hs : seg cs o 2 = some [x, y] := by
    rw [seg, dropL_eq]
    obtain ⟨h1, h2⟩ := List.getElem?_eq_some_iff.1 hx
    obtain ⟨h3, h4⟩ := List.getElem?_eq_some_iff.1 hy
    rw [List.drop_eq_getElem_cons h1, List.drop_eq_getElem_cons h3, h2, h4]
    rfl
  simp only [loadA, ty35, hc, ldA, tPair, isAgg, cond_true, hs]

theorem cells_of {b : Nat} {cs : List Value} (hb : h.get b = some (.cells cs)) : cellsOf h b = some cs := by simp only [cellsOf, hb]
theorem cells_ro {b : Nat} {cs : List Value} (hb : h.get b = some (.ro cs)) : cellsOf h b = some cs := by simp only [cellsOf, hb]

/- Stores. -/
theorem overAt1 {v : Value} : ∀ {cs : List Value} {o : Nat}, o < cs.length → overAt [v] cs o = some (cs.set o v)
  | [], o, h => by simp at h
  | a :: cs, 0, _ => by simp [overAt, over]
  | a :: cs, o + 1, h => by
    have := overAt1 (v := v) (cs := cs) (o := o) (by simpa using h)
    simp [overAt, bif_eq_ite, this]

theorem store1 {ty : TypeId} {i : TyI} (hty : X.ty.get ty = some i) (hi : i.size = 1) {b o : Nat} {cs : List Value} (hc : h.get b = some (.cells cs)) {v : Value} (hv : isCell v = true) (ho : o < cs.length) :
    storeA X h ty (.pointer (some ⟨b, o, none⟩)) v = some (h.upd (some (.cells (cs.set o v))) b) := by
  simp only [storeA, hty, cellsL_cell hv, hi, putA, hc, allCells, hv, overAt1 ho, List.length_singleton, Nat.beq_refl, cond_true]

theorem store2 {b : Nat} {x0 y0 x y : Value} (hc : h.get b = some (.cells [x0, y0])) (hx : isCell x = true) (hy : isCell y = true) :
    storeA X h 35 (.pointer (some ⟨b, 0, none⟩)) (.agg #[x, y]) = some (h.upd (some (.cells [x, y])) b) := by
  simp [storeA, ty35, tPair, cellsL, putA, hc, allCells, hx, hy, overAt, over, bif_eq_ite]

/- Places in slices. -/
theorem idx_slice {ty e : TypeId} {j : TyI} (hty : X.ty.get ty = some (tSl e)) (he : X.ty.get e = some j) {b o len cap k : Nat} (hk : k < len) :
    idxA X ty (.slice (some ⟨b, o, none⟩) len cap) (.int .i64 (k : Int)) = some (.pointer (some ⟨b, o + k * j.size, none⟩)) := by
  have h1 : natV (.int .i64 (k : Int)) (len - 1) = some k := by
    show natV (.int .i64 (Int.ofNat k)) (len - 1) = some k
    simp only [natV, bif_eq_ite, bleT]
    rw [if_pos (by omega)]
  have h2 : Nat.blt k len = true := by rw [bltT]; exact hk
  simp only [idxA, hty, tSl, he, h1, h2, cond_true]

theorem idx_pair0 {b o : Nat} : idxA X 35 (.pointer (some ⟨b, o, none⟩)) (.int .i64 0) = some (.pointer (some ⟨b, o, none⟩)) := by
  have h1 : natV (.int .i64 0) 1 = some 0 := rfl
  simp only [idxA, ty35, tPair, ty3, tInt, h1]
  rfl
theorem idx_pair1 {b o : Nat} : idxA X 35 (.pointer (some ⟨b, o, none⟩)) (.int .i64 1) = some (.pointer (some ⟨b, o + 1, none⟩)) := by
  have h1 : natV (.int .i64 1) 1 = some 1 := rfl
  simp only [idxA, ty35, tPair, ty3, tInt, h1]
  rfl

end
end Go.Sx

/- SzH: small laws for going through code. -/
namespace Go.Sx
open Go.Proofs

theorem WantL.yes {all : List Oper} {L : LT} {j : Nat} {want : Bool} {oj : Oper} {d : Tmp} (h1 : nth all j = some oj) (h2 : oj.dst = some d) (h3 : lk L d = some (.bool want)) : WantL all L (some (j, want)) true :=
  ⟨oj, d, h1, h2, .inl ⟨want, h3, by simp⟩⟩
theorem WantL.no {all : List Oper} {L : LT} {j : Nat} {want : Bool} {oj : Oper} {d : Tmp} (h1 : nth all j = some oj) (h2 : oj.dst = some d) (h3 : lk L d = some (.bool (!want))) : WantL all L (some (j, want)) false :=
  ⟨oj, d, h1, h2, .inl ⟨!want, h3, by cases want <;> rfl⟩⟩
theorem WantL.un {all : List Oper} {L : LT} {j : Nat} {want : Bool} {oj : Oper} {d : Tmp} {a : Array Value} (h1 : nth all j = some oj) (h2 : oj.dst = some d) (h3 : lk L d = some (.tuple a)) : WantL all L (some (j, want)) false :=
  ⟨oj, d, h1, h2, .inr ⟨a, h3, rfl⟩⟩

section
variable {E : Env} {L : LT} {h : T Blk} {n : Nat} {o : Oper}

theorem D.binT {op : BinOp} {ty yt : TypeId} {x y : Operand} {a b : Value} {P : Prop} {i : Decidable P} (ho : o.op = .binOp op ty x y yt) (hx : evL E L x = some a) (hy : evL E L y = some b) (hb : binA E op ty (isConstO x || isConstO y) a b = some (.bool (@decide P i))) (hp : P) :
    Does E L h n o (.val (.bool true) h n) := D.bin ho hx hy (by rw [hb, decide_eq_true hp])
theorem D.binF {op : BinOp} {ty yt : TypeId} {x y : Operand} {a b : Value} {P : Prop} {i : Decidable P} (ho : o.op = .binOp op ty x y yt) (hx : evL E L x = some a) (hy : evL E L y = some b) (hb : binA E op ty (isConstO x || isConstO y) a b = some (.bool (@decide P i))) (hp : ¬ P) :
    Does E L h n o (.val (.bool false) h n) := D.bin ho hx hy (by rw [hb, decide_eq_false hp])
theorem D.neT {ty yt : TypeId} {x y : Operand} {a b : Value} {P : Prop} {i : Decidable P} (ho : o.op = .binOp .neq ty x y yt) (hx : evL E L x = some a) (hy : evL E L y = some b) (hb : binA E .neq ty (isConstO x || isConstO y) a b = some (.bool (!@decide P i))) (hp : ¬ P) :
    Does E L h n o (.val (.bool true) h n) := D.bin ho hx hy (by rw [hb, decide_eq_false hp]; rfl)
theorem D.neF {ty yt : TypeId} {x y : Operand} {a b : Value} {P : Prop} {i : Decidable P} (ho : o.op = .binOp .neq ty x y yt) (hx : evL E L x = some a) (hy : evL E L y = some b) (hb : binA E .neq ty (isConstO x || isConstO y) a b = some (.bool (!@decide P i))) (hp : P) :
    Does E L h n o (.val (.bool false) h n) := D.bin ho hx hy (by rw [hb, decide_eq_true hp]; rfl)

/- One more, one less. -/
theorem D.add {ty yt : TypeId} {x y : Operand} {a b : Int} (ho : o.op = .binOp .add ty x y yt) (hx : evL E L x = some (.int .i64 a)) (hy : evL E L y = some (.int .i64 b)) (hr : -9223372036854775808 ≤ a + b ∧ a + b ≤ 9223372036854775807) :
    Does E L h n o (.val (.int .i64 (a + b)) h n) := D.bin ho hx hy (by
  show (bif kindEq .i64 .i64 then some (Value.int .i64 (IntKind.i64.wrap (a + b))) else none) = _
  rw [IntWalk.i64_in _ hr]
  rfl)
theorem D.addN {ty yt : TypeId} {x y : Operand} {a : Nat} (ho : o.op = .binOp .add ty x y yt) (hx : evL E L x = some (.int .i64 (a : Int))) (hy : evL E L y = some (.int .i64 1)) (hr : a < 9223372036854775807) :
    Does E L h n o (.val (.int .i64 ((a + 1 : Nat) : Int)) h n) := by
  have := D.add (E := E) (L := L) (h := h) (n := n) ho hx hy (by omega)
  rwa [show ((a + 1 : Nat) : Int) = (a : Int) + 1 by omega]
theorem D.sub {ty yt : TypeId} {x y : Operand} {a b : Int} (ho : o.op = .binOp .sub ty x y yt) (hx : evL E L x = some (.int .i64 a)) (hy : evL E L y = some (.int .i64 b)) (hr : -9223372036854775808 ≤ a - b ∧ a - b ≤ 9223372036854775807) :
    Does E L h n o (.val (.int .i64 (a - b)) h n) := D.bin ho hx hy (by
  show (bif kindEq .i64 .i64 then some (Value.int .i64 (IntKind.i64.wrap (a - b))) else none) = _
  rw [IntWalk.i64_in _ hr]
  rfl)

end

/- What is listed is among what is listed. -/
def Sub (L' L : LT) : Prop := ∀ k v, lk L' k = some v → lk L k = some v
theorem Sub.nil {L : LT} : Sub [] L := fun k v h => by cases h
theorem Sub.cons {L' L : LT} {k : Nat} {v : Value} (h : lk L k = some v) (hs : Sub L' L) : Sub ((k, v) :: L') L := by
  intro j x hx
  rw [lk, bif_eq_ite] at hx
  split at hx
  · rename_i e
    rw [beqT] at e
    have e : k = j := e
    cases hx
    rw [← e]
    exact h
  · exact hs j x hx

/- Lengths. -/
theorem lenA_slice {ty e : TypeId} (hty : X.ty.get ty = some (tSl e)) {h : T Blk} {n : Nat} {eb : Option Addr} {l c : Nat} : builtinA X .len [ty] [.slice eb l c] h n = .val (.int .i64 (l : Int)) h n := by
  simp only [builtinA, lenA, hty, tSl, val?]

/- Edges. -/
def eV (e : Int × Int) : List Value := [.int .i64 e.1, .int .i64 e.2]
def eCs : List (Int × Int) → List Value
  | [] => []
  | e :: l => .int .i64 e.1 :: .int .i64 e.2 :: eCs l

theorem eCs_at : ∀ {l : List (Int × Int)} {i : Nat} {e : Int × Int}, l[i]? = some e → (eCs l)[i * 2]? = some (.int .i64 e.1) ∧ (eCs l)[i * 2 + 1]? = some (.int .i64 e.2)
  | [], i, e, h => by simp at h
  | a :: l, 0, e, h => by
    simp at h
    subst h
    exact ⟨rfl, rfl⟩
  | a :: l, i + 1, e, h => by
    have := eCs_at (l := l) (i := i) (e := e) (by simpa using h)
    rw [show (i + 1) * 2 = i * 2 + 1 + 1 by omega]
    simpa [eCs] using this

/- The edges' slice: nothing, or cells of a block. -/
structure Edges (h : T Blk) (s : Value) (l : List (Int × Int)) : Prop where
  ex : ∃ eb c, s = .slice eb l.length c ∧ (∀ (i : Nat) (e : Int × Int), l[i]? = some e → ∃ b o, eb = some ⟨b, o, none⟩ ∧ ∃ cs, cellsOf h b = some cs ∧ cs[o + i * 2]? = some (.int .i64 e.1) ∧ cs[o + i * 2 + 1]? = some (.int .i64 e.2))

theorem Edges.len {h : T Blk} {s : Value} {l : List (Int × Int)} (he : Edges h s l) {h' : T Blk} {n : Nat} : builtinA X .len [22] [s] h' n = .val (.int .i64 (l.length : Int)) h' n := by
  obtain ⟨eb, c, rfl, _⟩ := he.ex
  exact lenA_slice ty22

theorem Edges.mono {h h' : T Blk} {s : Value} {l : List (Int × Int)} (he : Edges h s l) (hh : ∀ b cs, cellsOf h b = some cs → cellsOf h' b = some cs) : Edges h' s l := by
  obtain ⟨eb, c, rfl, hx⟩ := he.ex
  refine ⟨eb, c, rfl, fun i e hi => ?_⟩
  obtain ⟨b, o, h1, cs, h2, h3⟩ := hx i e hi
  exact ⟨b, o, h1, cs, hh b cs h2, h3⟩

end Go.Sx

/- SwS: parts of lists. -/
namespace Go.Sx

theorem takeL_of {α : Type} : ∀ {n : Nat} {l : List α}, n ≤ l.length → takeL n l = some (l.take n)
  | 0, l, _ => by simp [takeL]
  | n + 1, [], h => by simp at h
  | n + 1, a :: l, h => by simp only [takeL, takeL_of (show n ≤ l.length by simpa using h), List.take_succ_cons]

theorem seg_of {α : Type} {l : List α} {o n : Nat} (h : o + n ≤ l.length) : seg l o n = some ((l.drop o).take n) := by
  rw [seg, dropL_eq]
  exact takeL_of (by rw [List.length_drop]; omega)
theorem seg_zero {α : Type} {l : List α} {o : Nat} : seg l o 0 = some [] := rfl
theorem seg_all {α : Type} (l : List α) : seg l 0 l.length = some l := by rw [seg_of (by omega), List.drop_zero, List.take_length]
theorem seg_sub {α : Type} {l r : List α} {o n k m : Nat} (h : seg l o n = some r) (hk : k + m ≤ n) : seg l (o + k) m = some ((r.drop k).take m) := by
  rw [seg, dropL_eq] at h
  obtain ⟨h1, h2⟩ := takeL_some _ _ _ h
  rw [List.length_drop] at h2
  by_cases hm : m = 0
  · subst hm; simp [seg, takeL]
  rw [seg_of (by omega), h1]
  congr 1
  rw [List.drop_take, List.drop_drop, List.take_take, Nat.min_eq_left (by omega)]
theorem seg_len {α : Type} {l r : List α} {o n : Nat} (h : seg l o n = some r) : r.length = n := (seg_some h).1
theorem seg_at {α : Type} {l r : List α} {o n i : Nat} (h : seg l o n = some r) (hi : i < n) : l[o + i]? = r[i]? := ((seg_some h).2 i hi).1.symm

end Go.Sx

/- SwM: single operations, with what is plain left to be found. -/
namespace Go.Sx
open Go.Proofs

section
variable {E : Env} {many : Nat} {all l : List Oper} {L : LT} {h h' : T Blk} {n n' : Nat} {Q : LT → T Blk → Nat → Prop} {o : Oper} {d : Tmp} {v : Value}

/- A region in order. -/
theorem OL.mv {x : Operand} (hk : OL E many all l ((d, v) :: L) h n Q) (ho : o.op = .move x := by rfl) (hx : evL E L x = some v := by rfl) (hw : WantL all L o.guard true := by first | rfl | exact WantL.yes rfl rfl rfl) (hd : o.dst = some d := by rfl) (hm : Nat.blt d many = true := by rfl) : OL E many all (o :: l) L h n Q := OL.val hw (D.move ho hx) hd hm hk
theorem OL.asg {x : Operand} (hk : OL E many all l ((d, v) :: L) h n Q) (ho : o.op = .assign x := by rfl) (hx : evL E L x = some v := by rfl) (hw : WantL all L o.guard true := by first | rfl | exact WantL.yes rfl rfl rfl) (hd : o.dst = some d := by rfl) (hm : Nat.blt d many = true := by rfl) : OL E many all (o :: l) L h n Q := OL.val hw (D.assign ho hx) hd hm hk
theorem OL.ps (hk : OL E many all l ((d, undefV) :: L) h n Q) (hw : WantL all L o.guard false := by first | exact WantL.no rfl rfl rfl | exact WantL.un rfl rfl rfl) (hd : o.dst = some d := by rfl) (hm : Nat.blt d many = true := by rfl) : OL E many all (o :: l) L h n Q := OL.pass hw hd hm hk
theorem OL.pT {c x y : Operand} (hk : OL E many all l ((d, v) :: L) h n Q) (ho : o.op = .pick c x y := by rfl) (hc : evL E L c = some (.bool true) := by rfl) (hx : evL E L x = some v := by rfl) (hw : WantL all L o.guard true := by first | rfl | exact WantL.yes rfl rfl rfl) (hd : o.dst = some d := by rfl) (hm : Nat.blt d many = true := by rfl) : OL E many all (o :: l) L h n Q := OL.val hw (D.pickT ho hc hx) hd hm hk
theorem OL.pF {c x y : Operand} (hk : OL E many all l ((d, v) :: L) h n Q) (ho : o.op = .pick c x y := by rfl) (hc : evL E L c = some (.bool false) := by rfl) (hx : evL E L y = some v := by rfl) (hw : WantL all L o.guard true := by first | rfl | exact WantL.yes rfl rfl rfl) (hd : o.dst = some d := by rfl) (hm : Nat.blt d many = true := by rfl) : OL E many all (o :: l) L h n Q := OL.val hw (D.pickF ho hc hx) hd hm hk
theorem OL.un {op : UnOp} {ty : TypeId} {x : Operand} {a : Value} (hk : OL E many all l ((d, v) :: L) h n Q) (ho : o.op = .unOp op ty x := by rfl) (hx : evL E L x = some a := by rfl) (hb : unA op a = some v := by rfl) (hw : WantL all L o.guard true := by first | rfl | exact WantL.yes rfl rfl rfl) (hd : o.dst = some d := by rfl) (hm : Nat.blt d many = true := by rfl) : OL E many all (o :: l) L h n Q := OL.val hw (D.un ho hx hb) hd hm hk
theorem OL.ext {x : Operand} {k : Nat} {vs : Array Value} (hk : OL E many all l ((d, v) :: L) h n Q) (ho : o.op = .extract x k := by rfl) (hx : evL E L x = some (.tuple vs) := by rfl) (hv : nth vs.toList k = some v := by rfl) (hw : WantL all L o.guard true := by first | rfl | exact WantL.yes rfl rfl rfl) (hd : o.dst = some d := by rfl) (hm : Nat.blt d many = true := by rfl) : OL E many all (o :: l) L h n Q := OL.val hw (D.extract ho hx hv) hd hm hk
theorem OL.nc {x : Operand} {a : Addr} (hk : OL E many all l ((d, .pointer (some a)) :: L) h n Q) (ho : o.op = .nilCheck x := by rfl) (hx : evL E L x = some (.pointer (some a)) := by rfl) (hw : WantL all L o.guard true := by first | rfl | exact WantL.yes rfl rfl rfl) (hd : o.dst = some d := by rfl) (hm : Nat.blt d many = true := by rfl) : OL E many all (o :: l) L h n Q := OL.val hw (D.nilCheck ho hx) hd hm hk
theorem OL.ix {ty : TypeId} {x i : Operand} {a k : Value} (hv : idxA E ty a k = some v) (hk : OL E many all l ((d, v) :: L) h n Q) (ho : o.op = .indexAddr ty x i := by rfl) (hx : evL E L x = some a := by rfl) (hi : evL E L i = some k := by rfl) (hw : WantL all L o.guard true := by first | rfl | exact WantL.yes rfl rfl rfl) (hd : o.dst = some d := by rfl) (hm : Nat.blt d many = true := by rfl) : OL E many all (o :: l) L h n Q := OL.val hw (D.index ho hx hi hv) hd hm hk
theorem OL.ld {ty : TypeId} {x : Operand} {p : Value} (hv : loadA E h ty p = some v) (hk : OL E many all l ((d, v) :: L) h n Q) (ho : o.op = .load ty x := by rfl) (hx : evL E L x = some p := by rfl) (hw : WantL all L o.guard true := by first | rfl | exact WantL.yes rfl rfl rfl) (hd : o.dst = some d := by rfl) (hm : Nat.blt d many = true := by rfl) : OL E many all (o :: l) L h n Q := OL.val hw (D.load ho hx hv) hd hm hk
theorem OL.st {ty : TypeId} {x y : Operand} {p w : Value} (hv : storeA E h ty p w = some h') (hk : OL E many all l L h' n Q) (ho : o.op = .store ty x y := by rfl) (hx : evL E L x = some p := by rfl) (hy : evL E L y = some w := by rfl) (hw : WantL all L o.guard true := by first | rfl | exact WantL.yes rfl rfl rfl) (hd : o.dst = none := by rfl) : OL E many all (o :: l) L h n Q := OL.skip hw (D.store ho hx hy hv) hd hk
theorem OL.fd {s : TypeId} {x : Operand} {k b off f : Nat} (hf : fieldOff E s k = some f) (hk : OL E many all l ((d, .pointer (some ⟨b, off + f, none⟩)) :: L) h n Q) (ho : o.op = .fieldAddr s x k := by rfl) (hx : evL E L x = some (.pointer (some ⟨b, off, none⟩)) := by rfl) (hw : WantL all L o.guard true := by first | rfl | exact WantL.yes rfl rfl rfl) (hd : o.dst = some d := by rfl) (hm : Nat.blt d many = true := by rfl) : OL E many all (o :: l) L h n Q := OL.val hw (D.field ho hx hf) hd hm hk
theorem OL.bT {op : BinOp} {ty yt : TypeId} {x y : Operand} {a b : Value} {P : Prop} {i : Decidable P} (hk : OL E many all l ((d, .bool true) :: L) h n Q) (ho : o.op = .binOp op ty x y yt := by rfl) (hx : evL E L x = some a := by rfl) (hy : evL E L y = some b := by rfl) (hb : binA E op ty (isConstO x || isConstO y) a b = some (.bool (@decide P i)) := by rfl) (hp : P := by first | assumption | omega) (hw : WantL all L o.guard true := by first | rfl | exact WantL.yes rfl rfl rfl) (hd : o.dst = some d := by rfl) (hm : Nat.blt d many = true := by rfl) : OL E many all (o :: l) L h n Q := OL.val hw (D.binT ho hx hy hb hp) hd hm hk
theorem OL.bF {op : BinOp} {ty yt : TypeId} {x y : Operand} {a b : Value} {P : Prop} {i : Decidable P} (hk : OL E many all l ((d, .bool false) :: L) h n Q) (ho : o.op = .binOp op ty x y yt := by rfl) (hx : evL E L x = some a := by rfl) (hy : evL E L y = some b := by rfl) (hb : binA E op ty (isConstO x || isConstO y) a b = some (.bool (@decide P i)) := by rfl) (hp : ¬ P := by first | assumption | omega) (hw : WantL all L o.guard true := by first | rfl | exact WantL.yes rfl rfl rfl) (hd : o.dst = some d := by rfl) (hm : Nat.blt d many = true := by rfl) : OL E many all (o :: l) L h n Q := OL.val hw (D.binF ho hx hy hb hp) hd hm hk
theorem OL.nT {ty yt : TypeId} {x y : Operand} {a b : Value} {P : Prop} {i : Decidable P} (hk : OL E many all l ((d, .bool true) :: L) h n Q) (ho : o.op = .binOp .neq ty x y yt := by rfl) (hx : evL E L x = some a := by rfl) (hy : evL E L y = some b := by rfl) (hb : binA E .neq ty (isConstO x || isConstO y) a b = some (.bool (!@decide P i)) := by rfl) (hp : ¬ P := by first | assumption | omega) (hw : WantL all L o.guard true := by first | rfl | exact WantL.yes rfl rfl rfl) (hd : o.dst = some d := by rfl) (hm : Nat.blt d many = true := by rfl) : OL E many all (o :: l) L h n Q := OL.val hw (D.neT ho hx hy hb hp) hd hm hk
theorem OL.nF {ty yt : TypeId} {x y : Operand} {a b : Value} {P : Prop} {i : Decidable P} (hk : OL E many all l ((d, .bool false) :: L) h n Q) (ho : o.op = .binOp .neq ty x y yt := by rfl) (hx : evL E L x = some a := by rfl) (hy : evL E L y = some b := by rfl) (hb : binA E .neq ty (isConstO x || isConstO y) a b = some (.bool (!@decide P i)) := by rfl) (hp : P := by first | assumption | omega) (hw : WantL all L o.guard true := by first | rfl | exact WantL.yes rfl rfl rfl) (hd : o.dst = some d := by rfl) (hm : Nat.blt d many = true := by rfl) : OL E many all (o :: l) L h n Q := OL.val hw (D.neF ho hx hy hb hp) hd hm hk
theorem OL.bv {op : BinOp} {ty yt : TypeId} {x y : Operand} {a b : Value} (hb : binA E op ty (isConstO x || isConstO y) a b = some v) (hk : OL E many all l ((d, v) :: L) h n Q) (ho : o.op = .binOp op ty x y yt := by rfl) (hx : evL E L x = some a := by rfl) (hy : evL E L y = some b := by rfl) (hw : WantL all L o.guard true := by first | rfl | exact WantL.yes rfl rfl rfl) (hd : o.dst = some d := by rfl) (hm : Nat.blt d many = true := by rfl) : OL E many all (o :: l) L h n Q := OL.val hw (D.bin ho hx hy hb) hd hm hk
theorem OL.ad1 {ty yt : TypeId} {x y : Operand} {a : Nat} (hk : OL E many all l ((d, .int .i64 ((a + 1 : Nat) : Int)) :: L) h n Q) (ho : o.op = .binOp .add ty x y yt := by rfl) (hx : evL E L x = some (.int .i64 (a : Int)) := by rfl) (hy : evL E L y = some (.int .i64 1) := by rfl) (hr : a < 9223372036854775807 := by omega) (hw : WantL all L o.guard true := by first | rfl | exact WantL.yes rfl rfl rfl) (hd : o.dst = some d := by rfl) (hm : Nat.blt d many = true := by rfl) : OL E many all (o :: l) L h n Q := OL.val hw (D.addN ho hx hy hr) hd hm hk
theorem OL.ad {ty yt : TypeId} {x y : Operand} {a b : Int} (hk : OL E many all l ((d, .int .i64 (a + b)) :: L) h n Q) (ho : o.op = .binOp .add ty x y yt := by rfl) (hx : evL E L x = some (.int .i64 a) := by rfl) (hy : evL E L y = some (.int .i64 b) := by rfl) (hr : -9223372036854775808 ≤ a + b ∧ a + b ≤ 9223372036854775807 := by omega) (hw : WantL all L o.guard true := by first | rfl | exact WantL.yes rfl rfl rfl) (hd : o.dst = some d := by rfl) (hm : Nat.blt d many = true := by rfl) : OL E many all (o :: l) L h n Q := OL.val hw (D.add ho hx hy hr) hd hm hk
theorem OL.sb {ty yt : TypeId} {x y : Operand} {a b : Int} (hk : OL E many all l ((d, .int .i64 (a - b)) :: L) h n Q) (ho : o.op = .binOp .sub ty x y yt := by rfl) (hx : evL E L x = some (.int .i64 a) := by rfl) (hy : evL E L y = some (.int .i64 b) := by rfl) (hr : -9223372036854775808 ≤ a - b ∧ a - b ≤ 9223372036854775807 := by omega) (hw : WantL all L o.guard true := by first | rfl | exact WantL.yes rfl rfl rfl) (hd : o.dst = some d := by rfl) (hm : Nat.blt d many = true := by rfl) : OL E many all (o :: l) L h n Q := OL.val hw (D.sub ho hx hy hr) hd hm hk
theorem OL.al {e : TypeId} {i : TyI} (hi : E.ty.get e = some i) (hk : OL E many all l ((d, ptrTo n) :: L) (h.upd (some (.cells i.zero)) n) (n + 1) Q) (ho : o.op = .alloc e := by rfl) (hz : i.zok = true := by rfl) (hw : WantL all L o.guard true := by first | rfl | exact WantL.yes rfl rfl rfl) (hd : o.dst = some d := by rfl) (hm : Nat.blt d many = true := by rfl) : OL E many all (o :: l) L h n Q := OL.val hw (D.alloc ho hi hz) hd hm hk
theorem OL.bx {e : TypeId} {x : Operand} {w : Value} (hk : OL E many all l ((d, ptrTo n) :: L) (h.upd (some (.cells (cellsL w))) n) (n + 1) Q) (ho : o.op = .box e x := by rfl) (hx : evL E L x = some w := by rfl) (hw : WantL all L o.guard true := by first | rfl | exact WantL.yes rfl rfl rfl) (hd : o.dst = some d := by rfl) (hm : Nat.blt d many = true := by rfl) : OL E many all (o :: l) L h n Q := OL.val hw (D.box ho hx) hd hm hk
theorem OL.ms {ty : TypeId} {x y : Operand} {a b : Value} {cs : List Value} (hv : makeSliceA E ty a b n = some (v, cs)) (hk : OL E many all l ((d, v) :: L) (h.upd (some (.cells cs)) n) (n + 1) Q) (ho : o.op = .makeSlice ty x y := by rfl) (hx : evL E L x = some a := by rfl) (hy : evL E L y = some b := by rfl) (hw : WantL all L o.guard true := by first | rfl | exact WantL.yes rfl rfl rfl) (hd : o.dst = some d := by rfl) (hm : Nat.blt d many = true := by rfl) : OL E many all (o :: l) L h n Q := OL.val hw (D.makeSlice ho hx hy hv) hd hm hk
theorem OL.bs {ty : TypeId} {len : Nat} {ps : Array (Nat × Operand)} {q : List (Nat × Value)} {cs : List Value} (hv : buildSliceA E ty len q = some cs) (hk : OL E many all l ((d, .slice (some ⟨n, 0, none⟩) len len) :: L) (h.upd (some (.cells cs)) n) (n + 1) Q) (ho : o.op = .buildSlice ty len ps := by rfl) (hp : evPs E L ps.toList = some q := by rfl) (hw : WantL all L o.guard true := by first | rfl | exact WantL.yes rfl rfl rfl) (hd : o.dst = some d := by rfl) (hm : Nat.blt d many = true := by rfl) : OL E many all (o :: l) L h n Q := OL.val hw (D.buildSlice ho hp hv) hd hm hk
theorem OL.bd {ty : TypeId} {ps : Array (Nat × Operand)} {q : List (Nat × Value)} (hv : buildA E ty q = some v) (hk : OL E many all l ((d, v) :: L) h n Q) (ho : o.op = .build ty ps := by rfl) (hp : evPs E L ps.toList = some q := by rfl) (hw : WantL all L o.guard true := by first | rfl | exact WantL.yes rfl rfl rfl) (hd : o.dst = some d := by rfl) (hm : Nat.blt d many = true := by rfl) : OL E many all (o :: l) L h n Q := OL.val hw (D.build ho hp hv) hd hm hk
theorem OL.bi {c : Call} {b : Builtin} {args : List Value} (hr : builtinA E b c.argTypes.toList args h n = .val v h' n') (hk : OL E many all l ((d, v) :: L) h' n' Q) (ho : o.op = .call c := by rfl) (hc : c.callee = .builtin b := by rfl) (ha : evLs E L c.args.toList = some args := by rfl) (hw : WantL all L o.guard true := by first | rfl | exact WantL.yes rfl rfl rfl) (hd : o.dst = some d := by rfl) (hm : Nat.blt d many = true := by rfl) : OL E many all (o :: l) L h n Q := OL.val hw (D.builtinV ho hc ha hr) hd hm hk
theorem OL.cf {c : Call} {f : FuncId} {fn : Func} {args : List Value} (hf : E.fn.get f = some fn) (hcl : Cl E f args h n (.ret v h' n')) (hk : OL E many all l ((d, v) :: L) h' n' Q) (ho : o.op = .call c := by rfl) (hc : c.callee = .value (.func f) := by rfl) (ha : evLs E L c.args.toList = some args := by rfl) (hw : WantL all L o.guard true := by first | rfl | exact WantL.yes rfl rfl rfl) (hd : o.dst = some d := by rfl) (hm : Nat.blt d many = true := by rfl) : OL E many all (o :: l) L h n Q := OL.call hw (D.callF ho hc ha hf) hcl hd hm hk


theorem OL.l3 {x : Operand} {b k : Nat} {cs : List Value} (hk : OL X many all l ((d, v) :: L) h n Q) (ho : o.op = .load 3 x := by rfl) (hx : evL X L x = some (.pointer (some ⟨b, k, none⟩)) := by rfl) (hc : h.get b = some (.cells cs) := by repeat (first | exact T.get_upd_same _ _ _ | assumption | refine (T.get_upd_ne _ _ (by omega)).trans ?_)) (hv : cs[k]? = some v := by rfl) (hw : WantL all L o.guard true := by first | rfl | exact WantL.yes rfl rfl rfl) (hd : o.dst = some d := by rfl) (hm : Nat.blt d many = true := by rfl) : OL X many all (o :: l) L h n Q := OL.val hw (D.load ho hx (load1 ty3 rfl (cells_of hc) hv)) hd hm hk
theorem OL.l4 {x : Operand} {b k : Nat} {cs : List Value} (hk : OL X many all l ((d, v) :: L) h n Q) (ho : o.op = .load 4 x := by rfl) (hx : evL X L x = some (.pointer (some ⟨b, k, none⟩)) := by rfl) (hc : h.get b = some (.cells cs) := by repeat (first | exact T.get_upd_same _ _ _ | assumption | refine (T.get_upd_ne _ _ (by omega)).trans ?_)) (hv : cs[k]? = some v := by rfl) (hw : WantL all L o.guard true := by first | rfl | exact WantL.yes rfl rfl rfl) (hd : o.dst = some d := by rfl) (hm : Nat.blt d many = true := by rfl) : OL X many all (o :: l) L h n Q := OL.val hw (D.load ho hx (load1 ty4 rfl (cells_of hc) hv)) hd hm hk
theorem OL.lp {x : Operand} {b k : Nat} {cs : List Value} {u w : Value} (hk : OL X many all l ((d, .agg #[u, w]) :: L) h n Q) (ho : o.op = .load 35 x := by rfl) (hx : evL X L x = some (.pointer (some ⟨b, k, none⟩)) := by rfl) (hc : h.get b = some (.cells cs) := by repeat (first | exact T.get_upd_same _ _ _ | assumption | refine (T.get_upd_ne _ _ (by omega)).trans ?_)) (hv : cs[k]? = some u := by rfl) (hv' : cs[k + 1]? = some w := by rfl) (hw : WantL all L o.guard true := by first | rfl | exact WantL.yes rfl rfl rfl) (hd : o.dst = some d := by rfl) (hm : Nat.blt d many = true := by rfl) : OL X many all (o :: l) L h n Q := OL.val hw (D.load ho hx (load2 (cells_of hc) hv hv')) hd hm hk

end
end Go.Sx

/- SzI: small functions of the graph laws. -/
namespace Go.Sx
open Go.Proofs
set_option maxRecDepth 100000

def Fresh (h : T Blk) (n : Nat) : Prop := ∀ b, n ≤ b → h.get b = none
def Keep (n : Nat) (h h' : T Blk) : Prop := ∀ b, b < n → h'.get b = h.get b

theorem Fresh.upd {h : T Blk} {n : Nat} (hf : Fresh h n) (k : Option Blk) : Fresh (h.upd k n) (n + 1) := fun b hb => by
  rw [T.get_upd_ne _ _ (by omega)]; exact hf b (by omega)
theorem Fresh.set {h : T Blk} {n : Nat} (hf : Fresh h n) {b : Nat} (hb : b < n) (k : Option Blk) : Fresh (h.upd k b) n := fun c hc => by
  rw [T.get_upd_ne _ _ (by omega)]; exact hf c hc
theorem Fresh.lt {h : T Blk} {n b : Nat} {k : Blk} (hf : Fresh h n) (hb : h.get b = some k) : b < n := by
  rcases Nat.lt_or_ge b n with h1 | h1
  · exact h1
  · rw [hf b h1] at hb; cases hb
theorem Keep.refl (n : Nat) (h : T Blk) : Keep n h h := fun _ _ => rfl
theorem Keep.upd {n m : Nat} {h h' : T Blk} (hk : Keep n h h') (hm : n ≤ m) (k : Option Blk) : Keep n h (h'.upd k m) := fun b hb => by
  rw [T.get_upd_ne _ _ (by omega)]; exact hk b hb
theorem Keep.trans {n m : Nat} {h h' h2 : T Blk} (hk : Keep n h h') (hm : n ≤ m) (hk' : Keep m h' h2) : Keep n h h2 := fun b hb => (hk' b (by omega)).trans (hk b hb)
theorem Keep.cells {n : Nat} {h h' : T Blk} (hf : Fresh h n) (hk : Keep n h h') {b : Nat} {cs : List Value} (hc : cellsOf h b = some cs) : cellsOf h' b = some cs := by
  have hb : b < n := by
    rcases Nat.lt_or_ge b n with h1 | h1
    · exact h1
    · unfold cellsOf at hc; rw [hf b h1] at hc; cases hc
  unfold cellsOf at hc ⊢
  rw [hk b hb]; exact hc
theorem Edges.keep {n : Nat} {h h' : T Blk} {s : Value} {l : List (Int × Int)} (he : Edges h s l) (hf : Fresh h n) (hk : Keep n h h') : Edges h' s l := he.mono fun _ _ hc => hk.cells hf hc

theorem fn10 : X.fn.get 10 = some Tryz.f10 := by kernel_rfl
theorem fn32 : X.fn.get 32 = some Tryz.f32 := by kernel_rfl

/- What a call hands back: a value, with what was there kept. -/
def Gives (f : FuncId) (args : List Value) (h : T Blk) (n : Nat) (R : Value → T Blk → Nat → Prop) : Prop :=
  ∃ v h' n', Cl X f args h n (.ret v h' n') ∧ Keep n h h' ∧ n ≤ n' ∧ Fresh h' n' ∧ R v h' n'

theorem small_cl (x m : Int) (s : Value) (l : List (Int × Int)) (h : T Blk) (n : Nat) (hf : Fresh h n) (he : Edges h s l) :
    Gives 10 [.int .i64 x, .int .i64 m, s] h n fun v _ _ => v = .bool (decide (l.length ≤ 400 ∧ (x ≤ m ∨ 400 < x))) := by
  have key : ∃ v h' n', Cl X 10 [.int .i64 x, .int .i64 m, s] h n (.ret v h' n') ∧ h' = h ∧ n' = n ∧ v = .bool (decide (l.length ≤ 400 ∧ (x ≤ m ∨ 400 < x))) := by
    refine Cl.wl (many := 19) (memoX (by decide)) fn10 rfl rfl rfl rfl ?_
    refine WL.seq (WL.reg ?_)
    refine OL.asg ?_
    refine OL.nil ?_
    refine WL.seq (WL.reg ?_)
    refine OL.mv ?_
    refine OL.val (by first | rfl | exact WantL.yes rfl rfl rfl) (D.builtinV rfl rfl rfl he.len) rfl rfl ?_
    by_cases h1 : (l.length : Int) ≤ 400
    · by_cases h2 : x ≤ m
      · refine OL.bT ?_; refine OL.mv ?_; refine OL.mv ?_; refine OL.mv ?_; refine OL.bT ?_; refine OL.mv ?_; refine OL.ps ?_; refine OL.ps ?_; refine OL.pT ?_; refine OL.pT ?_; refine OL.asg ?_
        refine OL.nil (WL.ret ⟨fun id e => (by cases e), _, rfl, rfl, rfl, ?_⟩)
        rw [decide_eq_true (show l.length ≤ 400 ∧ (x ≤ m ∨ 400 < x) by omega)]
        rfl
      · by_cases h3 : 400 < x
        · refine OL.bT ?_; refine OL.mv ?_; refine OL.mv ?_; refine OL.mv ?_; refine OL.bF ?_; refine OL.mv ?_; refine OL.mv ?_; refine OL.bT ?_; refine OL.pF ?_; refine OL.pT ?_; refine OL.asg ?_
          refine OL.nil (WL.ret ⟨fun id e => (by cases e), _, rfl, rfl, rfl, ?_⟩)
          rw [decide_eq_true (show l.length ≤ 400 ∧ (x ≤ m ∨ 400 < x) by omega)]
          rfl
        · refine OL.bT ?_; refine OL.mv ?_; refine OL.mv ?_; refine OL.mv ?_; refine OL.bF ?_; refine OL.mv ?_; refine OL.mv ?_; refine OL.bF ?_; refine OL.pF ?_; refine OL.pT ?_; refine OL.asg ?_
          refine OL.nil (WL.ret ⟨fun id e => (by cases e), _, rfl, rfl, rfl, ?_⟩)
          rw [decide_eq_false (show ¬ (l.length ≤ 400 ∧ (x ≤ m ∨ 400 < x)) by omega)]
          rfl
    · refine OL.bF ?_; refine OL.mv ?_; refine OL.ps ?_; refine OL.ps ?_; refine OL.ps ?_; refine OL.ps ?_; refine OL.ps ?_; refine OL.ps ?_; refine OL.ps ?_; refine OL.pF ?_; refine OL.asg ?_
      refine OL.nil (WL.ret ⟨fun id e => (by cases e), _, rfl, rfl, rfl, ?_⟩)
      rw [decide_eq_false (show ¬ (l.length ≤ 400 ∧ (x ≤ m ∨ 400 < x)) by omega)]
      rfl
  obtain ⟨v, h', n', h1, rfl, rfl, h2⟩ := key
  exact ⟨v, _, _, h1, .refl _ _, Nat.le_refl _, hf, h2⟩

theorem less_cl (a b : Int × Int) (h : T Blk) (n : Nat) (hf : Fresh h n) :
    Gives 32 [.agg #[.int .i64 a.1, .int .i64 a.2], .agg #[.int .i64 b.1, .int .i64 b.2]] h n fun v _ _ => v = .bool (decide (a.1 < b.1 ∨ a.1 = b.1 ∧ a.2 < b.2)) := by
  have key : ∃ v h' n', Cl X 32 [.agg #[.int .i64 a.1, .int .i64 a.2], .agg #[.int .i64 b.1, .int .i64 b.2]] h n (.ret v h' n') ∧
      h' = (h.upd (some (.cells [.int .i64 a.1, .int .i64 a.2])) n).upd (some (.cells [.int .i64 b.1, .int .i64 b.2])) (n + 1) ∧ n' = n + 2 ∧ v = .bool (decide (a.1 < b.1 ∨ a.1 = b.1 ∧ a.2 < b.2)) := by
    refine Cl.wl (many := 24) (memoX (by decide)) fn32 rfl rfl rfl rfl ?_
    refine WL.seq (WL.reg ?_)
    refine OL.bx ?_; refine OL.bx ?_; refine OL.asg ?_
    refine OL.nil ?_
    refine WL.seq (WL.reg ?_)
    by_cases h1 : a.1 < b.1
    · refine OL.ix idx_pair0 ?_; refine OL.l3 ?_; refine OL.ix idx_pair0 ?_; refine OL.l3 ?_; refine OL.bT ?_; refine OL.mv ?_; refine OL.ps ?_; refine OL.ps ?_; refine OL.ps ?_; refine OL.ps ?_; refine OL.ps ?_; refine OL.ps ?_; refine OL.ps ?_; refine OL.ps ?_; refine OL.ps ?_; refine OL.ps ?_; refine OL.ps ?_; refine OL.ps ?_; refine OL.pT ?_; refine OL.asg ?_
      refine OL.nil (WL.ret ⟨fun id e => (by cases e), _, rfl, rfl, rfl, ?_⟩)
      rw [decide_eq_true (show a.1 < b.1 ∨ a.1 = b.1 ∧ a.2 < b.2 by omega)]
      rfl
    · by_cases h2 : a.1 = b.1
      · by_cases h3 : a.2 < b.2
        · refine OL.ix idx_pair0 ?_; refine OL.l3 ?_; refine OL.ix idx_pair0 ?_; refine OL.l3 ?_; refine OL.bF ?_; refine OL.mv ?_; refine OL.ix idx_pair0 ?_; refine OL.l3 ?_; refine OL.ix idx_pair0 ?_; refine OL.l3 ?_; refine OL.bT ?_; refine OL.mv ?_; refine OL.ix idx_pair1 ?_; refine OL.l3 ?_; refine OL.ix idx_pair1 ?_; refine OL.l3 ?_; refine OL.bT ?_; refine OL.pT ?_; refine OL.pF ?_; refine OL.asg ?_
          refine OL.nil (WL.ret ⟨fun id e => (by cases e), _, rfl, rfl, rfl, ?_⟩)
          rw [decide_eq_true (show a.1 < b.1 ∨ a.1 = b.1 ∧ a.2 < b.2 by omega)]
          rfl
        · refine OL.ix idx_pair0 ?_; refine OL.l3 ?_; refine OL.ix idx_pair0 ?_; refine OL.l3 ?_; refine OL.bF ?_; refine OL.mv ?_; refine OL.ix idx_pair0 ?_; refine OL.l3 ?_; refine OL.ix idx_pair0 ?_; refine OL.l3 ?_; refine OL.bT ?_; refine OL.mv ?_; refine OL.ix idx_pair1 ?_; refine OL.l3 ?_; refine OL.ix idx_pair1 ?_; refine OL.l3 ?_; refine OL.bF ?_; refine OL.pT ?_; refine OL.pF ?_; refine OL.asg ?_
          refine OL.nil (WL.ret ⟨fun id e => (by cases e), _, rfl, rfl, rfl, ?_⟩)
          rw [decide_eq_false (show ¬ (a.1 < b.1 ∨ a.1 = b.1 ∧ a.2 < b.2) by omega)]
          rfl
      · refine OL.ix idx_pair0 ?_; refine OL.l3 ?_; refine OL.ix idx_pair0 ?_; refine OL.l3 ?_; refine OL.bF ?_; refine OL.mv ?_; refine OL.ix idx_pair0 ?_; refine OL.l3 ?_; refine OL.ix idx_pair0 ?_; refine OL.l3 ?_; refine OL.bF ?_; refine OL.mv ?_; refine OL.ps ?_; refine OL.ps ?_; refine OL.ps ?_; refine OL.ps ?_; refine OL.ps ?_; refine OL.pF ?_; refine OL.pF ?_; refine OL.asg ?_
        refine OL.nil (WL.ret ⟨fun id e => (by cases e), _, rfl, rfl, rfl, ?_⟩)
        rw [decide_eq_false (show ¬ (a.1 < b.1 ∨ a.1 = b.1 ∧ a.2 < b.2) by omega)]
        rfl
  obtain ⟨v, h', n', h1, rfl, rfl, h2⟩ := key
  exact ⟨v, _, _, h1, ((Keep.refl n h).upd (Nat.le_refl n) _).upd (Nat.le_succ n) _, by omega, (hf.upd _).upd _, h2⟩

end Go.Sx

/- SzJ: regions that draw, operation by operation. -/
namespace Go.Sx
open Go.Proofs

def flatB : Value → Bool
  | .bool _ => true
  | .int _ _ => true
  | .string _ => true
  | _ => false

/- Numbers below. -/
def BelV (n : Nat) : Value → Prop
  | .pointer (some a) => a.block < n
  | .slice (some a) _ _ => a.block < n
  | .map (some b) => b < n
  | .bool _ => True
  | .int _ _ => True
  | .string _ => True
  | .pointer none => True
  | .slice none _ _ => True
  | .map none => True
  | .nilFunc => True
  | .nilIface => True
  | .agg a => a.toList.all flatB = true
  | .tuple a => a.toList.all flatB = true
  | .func (.func _) a b => belowV.belowL n 7 a.toList = true ∧ belowV.belowL n 7 b.toList = true
  | _ => False

theorem flatB_below {n f : Nat} {v : Value} (h : flatB v = true) : belowV n f v = true := by
  cases v <;> first | (simp [flatB] at h; done) | (cases f <;> rfl)

theorem flatB_all {n f : Nat} : ∀ {l : List Value}, l.all flatB = true → belowV.belowL n f l = true
  | [], _ => rfl
  | v :: l, h => by
    simp only [List.all_cons, Bool.and_eq_true] at h
    simp only [belowV.belowL, flatB_below h.1, flatB_all h.2, Bool.and_self]

theorem BelV.ok {n : Nat} {v : Value} (h : BelV n v) : belowV n 8 v = true := by
  unfold BelV at h
  split at h <;> first | exact h.elim | rfl | (simp only [belowV, bltT]; exact h) | (simp only [belowV]; exact flatB_all h) | (simp only [belowV, h.1, h.2]; rfl)

theorem BelV.fn1 {n b : Nat} {g : FuncId} (h : b < n) : BelV n (.func (.func g) ⟨[]⟩ ⟨[.pointer (some ⟨b, 0, none⟩)]⟩) := ⟨rfl, by
  have e : Nat.blt b n = true := by rw [bltT]; exact h
  simp only [belowV.belowL, belowV, e]; rfl⟩
theorem BelV.fn2 {n b c : Nat} {g : FuncId} (h : b < n) (h' : c < n) : BelV n (.func (.func g) ⟨[]⟩ ⟨[.pointer (some ⟨b, 0, none⟩), .pointer (some ⟨c, 0, none⟩)]⟩) := ⟨rfl, by
  have e : Nat.blt b n = true := by rw [bltT]; exact h
  have e' : Nat.blt c n = true := by rw [bltT]; exact h'
  simp only [belowV.belowL, belowV, e, e']; rfl⟩
theorem BelV.ptr {n b o : Nat} (h : b < n) : BelV n (.pointer (some ⟨b, o, none⟩)) := h
theorem BelV.sl {n b o l c : Nat} (h : b < n) : BelV n (.slice (some ⟨b, o, none⟩) l c) := h

def BelT (n : Nat) (L : LT) : List Tmp → Prop
  | [] => True
  | k :: l => (∃ v, lk L k = some v ∧ BelV n v) ∧ BelT n L l

theorem BelT.ok {n : Nat} {L : LT} {t : T Value} (ht : Has t L) : ∀ {l : List Tmp}, BelT n L l → belowT n t l = true
  | [], _ => rfl
  | k :: l, h => by
    obtain ⟨⟨v, h1, h2⟩, h3⟩ := h
    simp only [belowT, ht k v h1, h2.ok, BelT.ok ht h3, Bool.and_self]

section
variable {E : Env} {many : Nat} {all l : List Oper} {acc : List Ent} {L : LT} {h h' : T Blk} {n n' : Nat} {t : T Value} {o : Oper} {Q : List Ent → T Value → T Blk → Nat → Prop}

theorem OT.val {v : Value} {d : Tmp} (ht : Has t L) (hw : WantL all L o.guard true) (hb : BelT n L (opTmps o)) (ho : Does E L h n o (.val v h' n')) (hd : o.dst = some d) (hm : Nat.blt d many = true)
    (hk : OpsDW E many all l (acc ++ [⟨true, t, v, h, h', n, n'⟩]) (t.upd (some v) d) h' n' Q) : OpsDW E many all (o :: l) acc t h n Q := by
  simp only [OpsDW, hw.ok ht, hb.ok ht, ho t ht, putT, hd, hm, cond_true, true_and]
  exact hk

theorem OT.skip (ht : Has t L) (hw : WantL all L o.guard true) (hb : BelT n L (opTmps o)) (ho : Does E L h n o (.skip h' n')) (hd : o.dst = none)
    (hk : OpsDW E many all l (acc ++ [⟨true, t, undefV, h, h', n, n'⟩]) t h' n' Q) : OpsDW E many all (o :: l) acc t h n Q := by
  simp only [OpsDW, hw.ok ht, hb.ok ht, ho t ht, putT, hd, true_and]
  exact hk

theorem OT.call {f : FuncId} {args : List Value} {v : Value} {d : Tmp} (ht : Has t L) (hw : WantL all L o.guard true) (hb : BelT n L (opTmps o)) (ho : Does E L h n o (.enter f args)) (hc : Cl E f args h n (.ret v h' n')) (hd : o.dst = some d) (hm : Nat.blt d many = true)
    (hk : OpsDW E many all l (acc ++ [⟨true, t, v, h, h', n, n'⟩]) (t.upd (some v) d) h' n' Q) : OpsDW E many all (o :: l) acc t h n Q := by
  simp only [OpsDW, hw.ok ht, hb.ok ht, ho t ht, true_and]
  refine ⟨v, h', n', hc, ?_⟩
  simp only [putT, hd, hm, cond_true]
  exact hk

theorem OT.pass {d : Tmp} (ht : Has t L) (hw : WantL all L o.guard false) (hd : o.dst = some d) (hm : Nat.blt d many = true) (hk : OpsDW E many all l (acc ++ [⟨false, t, undefV, h, h, n, n⟩]) (t.upd (some undefV) d) h n Q) :
    OpsDW E many all (o :: l) acc t h n Q := by
  simp only [OpsDW, hw.ok ht, putT, hd, hm, cond_true]
  exact hk

end

/- A region that draws, by the list of what the temporaries hold, where no reading operation stands beside one that acts. -/
def OD (E : Env) (many : Nat) (all l : List Oper) (L : LT) (h : T Blk) (n : Nat) (Q : LT → T Blk → Nat → Prop) : Prop :=
  ∀ t acc, Has t L → OpsDW E many all l acc t h n (fun _ t' h' n' => ∃ L', Has t' L' ∧ Q L' h' n')

section
variable {E : Env} {many : Nat} {all l : List Oper} {L : LT} {h h' : T Blk} {n n' : Nat} {Q : LT → T Blk → Nat → Prop} {o : Oper}

theorem OD.nil (hq : Q L h n) : OD E many all [] L h n Q := fun _ _ ht => ⟨L, ht, hq⟩
theorem OD.val {v : Value} {d : Tmp} (hw : WantL all L o.guard true) (hb : BelT n L (opTmps o)) (ho : Does E L h n o (.val v h' n')) (hd : o.dst = some d) (hm : Nat.blt d many = true) (hk : OD E many all l ((d, v) :: L) h' n' Q) : OD E many all (o :: l) L h n Q :=
  fun _ _ ht => OT.val ht hw hb ho hd hm (hk _ _ (ht.put d v))
theorem OD.skip (hw : WantL all L o.guard true) (hb : BelT n L (opTmps o)) (ho : Does E L h n o (.skip h' n')) (hd : o.dst = none) (hk : OD E many all l L h' n' Q) : OD E many all (o :: l) L h n Q :=
  fun _ _ ht => OT.skip ht hw hb ho hd (hk _ _ ht)
theorem OD.call {f : FuncId} {args : List Value} {v : Value} {d : Tmp} (hw : WantL all L o.guard true) (hb : BelT n L (opTmps o)) (ho : Does E L h n o (.enter f args)) (hc : Cl E f args h n (.ret v h' n')) (hd : o.dst = some d) (hm : Nat.blt d many = true)
    (hk : OD E many all l ((d, v) :: L) h' n' Q) : OD E many all (o :: l) L h n Q := fun _ _ ht => OT.call ht hw hb ho hc hd hm (hk _ _ (ht.put d v))
theorem OD.pass {d : Tmp} (hw : WantL all L o.guard false) (hd : o.dst = some d) (hm : Nat.blt d many = true) (hk : OD E many all l ((d, undefV) :: L) h n Q) : OD E many all (o :: l) L h n Q :=
  fun _ _ ht => OT.pass ht hw hd hm (hk _ _ (ht.put d undefV))

end

theorem WL.regD {E : Env} {many : Nat} {L : LT} {h : T Blk} {n : Nat} {Q : Ex → LT → T Blk → Nat → Prop} {id : Nat} {ops : Array Oper} (hR : regOK ops.toList = true) (hF : regFl ops.toList = []) (hw : OD E many ops.toList ops.toList L h n (Q .normal)) :
    WL E many (.region id ops true) L h n Q := by
  intro t ht
  refine WP.regD hR ?_
  rw [hF]
  have := hw t [] ht
  have mono : ∀ {l : List Oper} {acc : List Ent} {t : T Value} {h : T Blk} {n : Nat} {Q Q' : List Ent → T Value → T Blk → Nat → Prop}, (∀ a t h n, Q a t h n → Q' a t h n) → OpsDW E many ops.toList l acc t h n Q → OpsDW E many ops.toList l acc t h n Q' := by
    intro l
    induction l with
    | nil => intro acc t h n Q Q' hq hx; exact hq _ _ _ _ hx
    | cons o l ih =>
      intro acc t h n Q Q' hq hx
      simp only [OpsDW] at hx ⊢
      split
      · rename_i hw
        rw [hw] at hx
        refine ⟨hx.1, ?_⟩
        have hx := hx.2
        split
        · rename_i ho; rw [ho] at hx
          simp only at hx
          split
          · rename_i hp; rw [hp] at hx; exact ih hq hx
          · rename_i hp; rw [hp] at hx; exact hx
        · rename_i ho; rw [ho] at hx
          simp only at hx
          split
          · rename_i hp; rw [hp] at hx; exact ih hq hx
          · rename_i hp; rw [hp] at hx; exact hx
        · rename_i ho; rw [ho] at hx
          simp only at hx
          obtain ⟨v, h1, n1, h2, hx⟩ := hx
          refine ⟨v, h1, n1, h2, ?_⟩
          split
          · rename_i hp; rw [hp] at hx; exact ih hq hx
          · rename_i hp; rw [hp] at hx; exact hx
        · rename_i h1 h2 h3
          split at hx
          · rename_i e; exact (h1 _ _ _ e).elim
          · rename_i e; exact (h2 _ _ e).elim
          · rename_i e; exact (h3 _ _ e).elim
          · exact hx
      · rename_i hw
        rw [hw] at hx
        simp only at hx
        split
        · rename_i hp; rw [hp] at hx; exact ih hq hx
        · rename_i hp; rw [hp] at hx; exact hx
      · rename_i hw
        rw [hw] at hx; exact hx
  exact mono (fun a t h n hq => ⟨rfl, hq⟩) this

theorem Edges.at {h : T Blk} {s : Value} {l : List (Int × Int)} (he : Edges h s l) {i : Nat} {e : Int × Int} (hi : l[i]? = some e) : ∃ b o, idxA X 22 s (.int .i64 (i : Int)) = some (.pointer (some ⟨b, o, none⟩)) ∧ loadA X h 35 (.pointer (some ⟨b, o, none⟩)) = some (.agg #[.int .i64 e.1, .int .i64 e.2]) ∧ ∀ k, BelV k s → b < k := by
  obtain ⟨eb, c, rfl, hx⟩ := he.ex
  obtain ⟨b, o, rfl, cs, h1, h2, h3⟩ := hx i e hi
  have hlt := (List.getElem?_eq_some_iff.1 hi).1
  exact ⟨b, o + i * 2, idx_slice ty22 ty35 hlt, load2 h1 h2 h3, fun k hk => hk⟩

/- Once through a loop. -/
def UnL (E : Env) (many : Nat) (b : Code) (Q : Ex → LT → T Blk → Nat → Prop) (e : Ex) (L : LT) (h : T Blk) (n : Nat) : Prop :=
  match e with
  | .normal => WL E many (.loop b) L h n Q
  | e => Q e L h n

theorem WL.unroll {E : Env} {many : Nat} {L : LT} {h : T Blk} {n : Nat} {Q : Ex → LT → T Blk → Nat → Prop} {b : Code} (hw : WL E many b L h n (UnL E many b Q)) : WL E many (.loop b) L h n Q := by
  intro t ht
  obtain ⟨e, t', h', n', h1, L', h2, h3⟩ := hw t ht
  cases e with
  | normal =>
    obtain ⟨e2, t2, h2', n2, h4, h5⟩ := h3 t' h2
    exact ⟨e2, t2, h2', n2, .loop_step h1 h4, h5⟩
  | exit id => exact ⟨_, t', h', n', .loop_out h1 (by simp), L', h2, h3⟩
  | ret => exact ⟨_, t', h', n', .loop_out h1 (by simp), L', h2, h3⟩

end Go.Sx

/- SzT: from the executor to the rows. -/
namespace Go.Sx
open Go.Proofs Go.ChangeShapes Go.WideShapes Go.RowKit
set_option maxRecDepth 100000

/- What a law of this seat does, whatever the arguments, in the executor. -/
def LawX (f : FuncId) : Prop := ∀ (m : Int) (s : Value) (l : List (Int × Int)) (h : T Blk) (n : Nat), Fresh h n → Edges h s l → rowA h 2 l.length s = some (eCs l) → (∀ k, n ≤ k → BelV k s) → groOK h gro0 = true → 1 ≤ n → Gives f [.int .i64 m, s] h n fun v _ _ => v = .bool true

def EndW (W : World) (e : Ending) (W' : World) : Prop := e = .returned (.bool true) ∧ W.heap.size ≤ W'.heap.size ∧ (∀ r, r < W.heap.size → W'.heap[r]? = W.heap[r]?) ∧ W'.os = W.os ∧ W'.output = W.output

def gh (W : World) : Gh := { heap := W.heap, own := fun _ => False, ng := 1, oo := Oo W }

theorem xglob : X.glob = 1 := by kernel_rfl

theorem core {f : FuncId} (hl : LawX f) {W : World} {ρ : Ren} {h : T Blk} {n : Nat} (S : St (gh W) ρ h n W) {m : Int} {s v1 : Value} {l : List (Int × Int)} (hv : VRel ρ s v1) (he : Edges h s l) (hr : rowA h 2 l.length s = some (eCs l)) (hb : ∀ k, n ≤ k → BelV k s) (hgro : groOK h gro0 = true) (hn : 1 ≤ n) :
    Calls Tryz.prog f #[.int .i64 m, v1] W (EndW W) := by
  obtain ⟨v, h', n', ⟨F, hF⟩, _, _, _, rfl⟩ := hl m s l h n S.hb he hr hb hgro hn
  have hx := callF_sim K6 (sx_sim K6 mixed0 F) f _ h n _ h' n' (hF F (Nat.le_refl F)) (gh W) ρ #[.int .i64 m, v1] W (Nat.le_of_eq xglob) S
    ⟨rfl, fun i x y h1 h2 => by
      match i, h1, h2 with
      | 0, h1, h2 => simp at h1 h2; subst h1; subst h2; exact .int _ _
      | 1, h1, h2 => simp at h1 h2; subst h1; subst h2; exact hv
      | i + 2, h1, _ => simp at h1⟩
  refine (callsIn_wide.1 hx).mono fun e w' ⟨y, ρ', he, hy, st⟩ => ?_
  subst he
  cases hy
  have ho := st.st.wr.out
  have ho1 : w'.os = W.os := congrArg Prod.fst ho
  have ho2 : w'.output = W.output := congrArg Prod.snd ho
  exact ⟨rfl, st.st.wr.size, fun r hr => st.st.wr.frame r hr id, ho1, ho2⟩

/- The six words. -/
def six : Array Value := #[.string ⟨#[43]⟩, .string ⟨#[45]⟩, .string ⟨#[42]⟩, .string ⟨#[47]⟩, .string ⟨#[109, 111, 100]⟩, .string ⟨#[45]⟩]
def six' : List Value := [.string ⟨#[43]⟩, .string ⟨#[45]⟩, .string ⟨#[42]⟩, .string ⟨#[47]⟩, .string ⟨#[109, 111, 100]⟩, .string ⟨#[45]⟩]

/- What the edges' slice is, in the world. -/
def EdgesW (W : World) (v : Value) : Prop :=
  v = .slice none 0 0 ∨ ∃ (b o len cap : Nat) (l : List (Int × Int)), v = .slice (some ⟨b, o, none⟩) len cap ∧ cap < UNK ∧ l.length = len ∧ (∃ c e fr, W.heap[b]? = some (.cells c e fr)) ∧
    ∀ i e, l[i]? = some e → W.cell? ⟨b, o + i * 2, none⟩ = some (.int .i64 e.1) ∧ W.cell? ⟨b, o + i * 2 + 1, none⟩ = some (.int .i64 e.2)

theorem eCs_len : ∀ l : List (Int × Int), (eCs l).length = l.length * 2
  | [] => rfl
  | e :: l => by
    simp only [eCs, List.length_cons, eCs_len l]
    omega

theorem eCs_of {c : Array Value} {o : Nat} : ∀ (l : List (Int × Int)) (k : Nat), (∀ i e, l[i]? = some e → c[o + (k + i) * 2]? = some (.int .i64 e.1) ∧ c[o + (k + i) * 2 + 1]? = some (.int .i64 e.2)) →
    ∀ (j : Nat) (x : Value), (eCs l)[j]? = some x → c[o + k * 2 + j]? = some x ∧ ∃ z, x = .int .i64 z
  | [], k, _, j, x, hx => by simp [eCs] at hx
  | e :: l, k, hc, 0, x, hx => by
    simp [eCs] at hx
    subst hx
    exact ⟨(hc 0 e rfl).1, _, rfl⟩
  | e :: l, k, hc, 1, x, hx => by
    simp [eCs] at hx
    subst hx
    exact ⟨(hc 0 e rfl).2, _, rfl⟩
  | e :: l, k, hc, j + 2, x, hx => by
    have := eCs_of l (k + 1) (fun i e' hi => by
      have := hc (i + 1) e' (by simpa using hi)
      rw [show k + 1 + i = k + (i + 1) by omega]
      exact this) j x (by simpa [eCs] using hx)
    rw [show o + k * 2 + (j + 2) = o + (k + 1) * 2 + j by omega]
    exact this

theorem eCs_edges {h : T Blk} {b : Nat} {l : List (Int × Int)} {c : Nat} (hb : h.get b = some (.ro (eCs l))) : Edges h (.slice (some ⟨b, 0, none⟩) l.length c) l :=
  ⟨_, c, rfl, fun i e hi => ⟨b, 0, rfl, eCs l, by simp only [cellsOf, hb], by rw [Nat.zero_add]; exact eCs_at hi⟩⟩

noncomputable def h0 : T Blk := T.leaf.upd (some (.ro six')) 0
def r0 : Ren := fun b => if b = 0 then some ⟨0, 0, 6⟩ else none

theorem h0_get {b : Nat} {k : Blk} (h : h0.get b = some k) : b = 0 ∧ k = .ro six' := by
  unfold h0 at h
  rw [T.get_upd] at h
  split at h
  · rename_i e; cases h; exact ⟨e, rfl⟩
  · rw [T.get_leaf] at h; cases h
theorem h0_zero : h0.get 0 = some (.ro six') := T.get_upd_same _ _ _

theorem six_rel {ρ : Ren} {W : World} {e : TypeId} {fr : Nat × Nat} (hw : W.heap[0]? = some (.cells six e fr)) : BRel ρ ⟨0, 0, 6⟩ (.ro six') W.heap[0]? := by
  refine ⟨six, e, fr, hw, by decide, by decide, fun i x hx => ⟨x, ?_, ?_⟩⟩
  · rw [Nat.zero_add, ← Array.getElem?_toList]; exact hx
  · have : ∀ x ∈ six', ∃ s, x = Value.string s := fun x hx => by
      simp only [six', List.mem_cons, List.not_mem_nil, or_false] at hx
      rcases hx with rfl | rfl | rfl | rfl | rfl | rfl <;> exact ⟨_, rfl⟩
    obtain ⟨s, rfl⟩ := this x (List.mem_of_getElem? hx)
    exact .string s

theorem gro_of {h : T Blk} (h1 : h.get 0 = some (.ro six')) : groOK h gro0 = true := by
  simp only [groOK, gro0, h1, six']
  rfl

theorem law_calls {f : FuncId} (hl : LawX f) {W : World} {e : TypeId} {fr : Nat × Nat} (hw : W.heap[0]? = some (.cells six e fr)) {m : Int} {v1 : Value} (hE : EdgesW W v1) : Calls Tryz.prog f #[.int .i64 m, v1] W (EndW W) := by
  have h0s : 0 < W.heap.size := (Array.getElem?_eq_some_iff.1 hw).1
  rcases hE with rfl | ⟨b, o, len, cap, l, rfl, hcap, hlen, ⟨c, et, fr', hb⟩, hc⟩
  · have S : St (gh W) r0 h0 1 W := by
      refine ⟨⟨fun c L k h1 h2 => ?_, fun c c' L L' k k' hne h1 h1' h2 h2' hr => ?_, fun c L k h1 h2 hr => ?_, fun _ _ _ => rfl, Nat.le_refl _, fun g hg => ?_, rfl⟩, fun c hc => ?_, fun c hc => ?_⟩
      · obtain ⟨rfl, rfl⟩ := h0_get h2
        simp [r0] at h1
        subst h1
        exact six_rel hw
      · obtain ⟨rfl, rfl⟩ := h0_get h2
        obtain ⟨rfl, rfl⟩ := h0_get h2'
        exact absurd rfl hne
      · obtain ⟨rfl, rfl⟩ := h0_get h2
        cases hr
      · have : g = 0 := by have : g < 1 := hg; omega
        subst this
        exact ⟨6, rfl⟩
      · simp only [r0]; rw [if_neg (by omega)]
      · cases hh : h0.get c with
        | none => rfl
        | some k => have := (h0_get hh).1; omega
    exact core hl S (.slice0 0 0) (l := []) ⟨none, 0, rfl, fun i e hi => by simp at hi⟩ rfl (fun _ _ => trivial) (gro_of h0_zero) (Nat.le_refl 1)
  · have hget : ∀ {q : Nat} {k : Blk}, (h0.upd (some (.ro (eCs l))) 1).get q = some k → q = 1 ∧ k = .ro (eCs l) ∨ q = 0 ∧ k = .ro six' := fun {q k} hh => by
      rw [T.get_upd] at hh
      split at hh
      · rename_i e; cases hh; exact .inl ⟨e, rfl⟩
      · exact .inr (h0_get hh)
    have mk : ∀ (sh : Nat), CellsRel (r0.add 1 ⟨b, sh, c.size⟩) (eCs l) ⟨b, sh, c.size⟩ c → St (gh W) (r0.add 1 ⟨b, sh, c.size⟩) (h0.upd (some (.ro (eCs l))) 1) 2 W := by
      intro sh hcr
      refine ⟨⟨fun q L k h1 h2 => ?_, fun q q' L L' k k' hne h1 h1' h2 h2' hr => ?_, fun q L k h1 h2 hr => ?_, fun _ _ _ => rfl, Nat.le_refl _, fun g hg => ?_, rfl⟩, fun q hq => ?_, fun q hq => ?_⟩
      · rcases hget h2 with ⟨rfl, rfl⟩ | ⟨rfl, rfl⟩
        · rw [Ren.add_same] at h1
          cases h1
          exact ⟨c, et, fr', hb, hcr⟩
        · rw [Ren.add_ne _ _ (by omega)] at h1
          simp [r0] at h1
          subst h1
          exact six_rel hw
      · rcases hget h2 with ⟨_, rfl⟩ | ⟨_, rfl⟩ <;> rcases hget h2' with ⟨_, rfl⟩ | ⟨_, rfl⟩ <;> rcases hr with hr | hr <;> cases hr
      · rcases hget h2 with ⟨_, rfl⟩ | ⟨_, rfl⟩ <;> cases hr
      · have : g = 0 := by have : g < 1 := hg; omega
        subst this
        exact ⟨6, by rw [Ren.add_ne _ _ (by omega)]; rfl⟩
      · rw [Ren.add_ne _ _ (by omega)]
        simp only [r0]; rw [if_neg (by omega)]
      · cases hh : (h0.upd (some (.ro (eCs l))) 1).get q with
        | none => rfl
        | some k => rcases hget hh with ⟨h1, _⟩ | ⟨h1, _⟩ <;> omega
    have hbl : (h0.upd (some (.ro (eCs l))) 1).get 1 = some (.ro (eCs l)) := T.get_upd_same _ _ _
    have hgr : groOK (h0.upd (some (.ro (eCs l))) 1) gro0 = true := gro_of (by rw [T.get_upd_ne _ _ (by omega)]; exact h0_zero)
    by_cases hl0 : l = []
    · subst hl0
      have hlen : 0 = len := hlen
      subst hlen
      have S := mk 0 ⟨by simp [eCs], Nat.le_refl _, fun i x hx => by simp [eCs] at hx⟩
      have hv : VRel (r0.add 1 ⟨b, 0, c.size⟩) (.slice (some ⟨1, o, none⟩) 0 cap) (.slice (some ⟨b, 0 + o, none⟩) 0 cap) := .slice 0 cap (Ren.add_same _ _ _) hcap
      rw [Nat.zero_add] at hv
      exact core hl S hv (l := []) ⟨some ⟨1, o, none⟩, cap, rfl, fun i e hi => by simp at hi⟩ (by simp only [rowA, cells_ro hbl]; rfl) (fun k hk => by show 1 < k; omega) hgr (by omega)
    · obtain ⟨e0, hm⟩ := List.exists_mem_of_ne_nil l hl0
      obtain ⟨i0, hi0⟩ := List.getElem?_of_mem hm
      have hc' : ∀ i e, l[i]? = some e → c[o + i * 2]? = some (.int .i64 e.1) ∧ c[o + i * 2 + 1]? = some (.int .i64 e.2) := fun i e hi => by
        have := hc i e hi
        rw [cell_at (a := ⟨b, o + i * 2, none⟩) hb rfl, cell_at (a := ⟨b, o + i * 2 + 1, none⟩) hb rfl] at this
        exact this
      have hec := eCs_of (c := c) (o := o) l 0 (fun i e hi => by rw [Nat.zero_add]; exact hc' i e hi)
      have hsz : o + l.length * 2 ≤ c.size := by
        have h1 : l.length - 1 < l.length := by have := (List.getElem?_eq_some_iff.1 hi0).1; omega
        have h2 := (hc' (l.length - 1) _ (List.getElem?_eq_getElem h1)).2
        have := (Array.getElem?_eq_some_iff.1 h2).1
        omega
      have S := mk o ⟨by rw [eCs_len]; exact hsz, Nat.le_refl _, fun i x hx => by
        obtain ⟨h3, z, rfl⟩ := hec i x hx
        exact ⟨_, by simpa using h3, .int _ _⟩⟩
      have hv : VRel (r0.add 1 ⟨b, o, c.size⟩) (.slice (some ⟨1, 0, none⟩) l.length cap) (.slice (some ⟨b, o + 0, none⟩) l.length cap) := .slice l.length cap (Ren.add_same _ _ _) hcap
      subst hlen
      refine core hl S hv (eCs_edges hbl) ?_ (fun k hk => by show 1 < k; omega) hgr (by omega)
      have hs : seg (eCs l) 0 (l.length * 2) = some (eCs l) := by rw [← eCs_len]; exact seg_all _
      simp only [rowA, cells_ro hbl]
      exact hs

end Go.Sx

/- SzU: the rows of this seat. -/
namespace Go.Sx
open Go.Proofs Go.Proofs.YtegomdgcijchcaaGreatDoor Go.ChangeShapes Go.WideShapes Go.ChangeAt Go.RowKit
set_option maxRecDepth 100000

theorem own0 : ownKnob Tryz.prog.godebug = none := by kernel_rfl
theorem laid0 : laidOutB Tryz.prog = true := by kernel_rfl
theorem cells35 : Tryz.prog.cellsOf 35 = 2 := by kernel_rfl
theorem cells3 : Tryz.prog.cellsOf 3 = 1 := by kernel_rfl
theorem cells9 : Tryz.prog.cellsOf 9 = 1 := by kernel_rfl
theorem glob_calc : Tryz.prog.globalNamed "riparian/prog.calculations" = some 0 := by kernel_rfl
theorem glob_type : (Tryz.prog.globals[0]?).map (·.type) = some 370 := by kernel_rfl

/-- A world that meets the condition: the settled one, the variable's cells laid. -/
noncomputable def laidW (os : Os) : World :=
  let w0 := World.holding Tryz.prog os ⟨#[], #[], []⟩
  { w0 with heap := w0.heap.modify 0 fun
      | .cells _ t frozen => .cells six t frozen
      | o => o }
theorem laidW_met (os : Os) (args : Array Value) : laidMetH Tryz.prog [("riparian/prog.calculations", Rows.laid_riparian_prog_calculations)] ((laidW os).forCall (fun _ _ => 0) ⟨#[], args, []⟩).memory :=
  laidMet_of_run (ps := MemPlace.row ⟨0, 0, none⟩ 6) 8 (by kernel_rfl) (by kernel_rfl) (by kernel_rfl)

theorem laidW_vars (os : Os) : ((laidW os).forCall (fun _ _ => 0) ⟨#[], #[.int .i64 0, .slice none 0 0], []⟩).variablesB Tryz.prog = true := by kernel_rfl
theorem laidW_rest (os : Os) : (((laidW os).forCall (fun _ _ => 0) ⟨#[], #[.int .i64 0, .slice none 0 0], []⟩).heap.toList.drop Tryz.prog.globals.size).take ((begin Tryz.prog (fun _ _ => 0) default).world.heap.size - Tryz.prog.globals.size) =
    (begin Tryz.prog (fun _ _ => 0) default).world.heap.toList.drop Tryz.prog.globals.size := by kernel_rfl

theorem str_of {s : ByteArray} {bs : List UInt8} (h : s.data.toList = bs) : s = ⟨⟨bs⟩⟩ := by
  cases s with
  | mk d => cases d; simp at h; subst h; rfl

theorem six_of_laid {W : World} (h : laidMetH Tryz.prog [("riparian/prog.calculations", Rows.laid_riparian_prog_calculations)] W) : ∃ e fr, W.heap[0]? = some (.cells six e fr) := by
  have h' : laidMet Tryz.prog [("riparian/prog.calculations", Rows.laid_riparian_prog_calculations)] W := h
  obtain ⟨ps, ⟨g, t, cs, fuel, p, q, h1, h2, h3, h4, _, _⟩, _, _⟩ := h'
  rw [glob_calc] at h1
  cases h1
  rw [glob_type] at h2
  cases h2
  have hh : ∃ e fr, W.heap[0]? = some (.cells cs e fr) := by
    unfold World.var? at h3
    rw [glob_calc] at h3
    simp only [Option.bind_some] at h3
    split at h3
    · rename_i hx
      cases h3
      exact ⟨_, _, hx⟩
    · cases h3
  obtain ⟨e, fr, hh⟩ := hh
  refine ⟨e, fr, ?_⟩
  obtain ⟨xs, m, _, hx, hl, hn, hi⟩ := DataW.trod_array Tryz.underlying370 h4
  have hl6 : cs.toList.length = 6 := hl.trans (by kernel_rfl)
  have hxs : xs.map (·.1) = [.lit (.string [43]), .lit (.string [45]), .lit (.string [42]), .lit (.string [47]), .lit (.string [109, 111, 100]), .lit (.string [45])] := by
    have := congrArg Prod.fst hx
    simpa [Rows.laid_riparian_prog_calculations] using this.symm
  have one : ∀ (i : Nat) (bs : List UInt8), i < 6 → (xs.map (·.1))[i]? = some (.lit (.string bs)) → cs.toList[i]? = some (.string ⟨⟨bs⟩⟩) := by
    intro i bs hi6 hb
    have h5 := hi i hi6
    rw [cells9, Nat.mul_one] at h5
    cases hxi : xs[i]? with
    | none => rw [List.getElem?_map, hxi] at hb; cases hb
    | some y =>
      rw [List.getElem?_map, hxi] at hb
      rw [hxi] at h5
      obtain ⟨s, hs1, hs2, _⟩ := DataW.trod_string Tryz.underlying9 h5
      have h6 : y.1 = .lit (.string bs) := by simpa using hb
      rw [hs2] at h6
      have h7 : s.data.toList = bs := by simpa using h6
      rw [str_of h7] at hs1
      have := congrArg (fun l : List Value => l[0]?) hs1
      simpa using this
  have e6 : cs = six := by
    apply Array.ext'
    apply List.ext_getElem?
    intro i
    by_cases hi6 : i < 6
    · rw [hxs] at one
      match i, hi6 with
      | 0, h => exact one 0 _ h rfl
      | 1, h => exact one 1 _ h rfl
      | 2, h => exact one 2 _ h rfl
      | 3, h => exact one 3 _ h rfl
      | 4, h => exact one 4 _ h rfl
      | 5, h => exact one 5 _ h rfl
    · rw [List.getElem?_eq_none_iff.2 (by omega), List.getElem?_eq_none_iff.2 (by show 6 ≤ i; omega)]
  rw [← e6]
  exact hh

/- The edges. -/
theorem open_pairs {H : Type} {enc : TypeId × Value → H} {W : World} {r : Reach} {b0 : Nat} {v : Value} {d : DataW H} {ps : List MemPlace} (hval : Value.okWide Tryz.prog W r b0 22 v) (h : DataW.Trod enc Tryz.prog W 0 (fun _ => true) true 22 v d ps) : EdgesW W v := by
  obtain ⟨a, len, cap, rfl⟩ := okWide_slice Tryz.underlying22 hval
  obtain ⟨fuel, hf⟩ := h
  have hf : DataW.trod enc Tryz.prog W 0 (fun _ => true) true fuel 22 [.slice a len cap] = some (d, ps) := hf
  rcases DataW.trod_slice Tryz.underlying22 hf with ⟨h1, _⟩ | ⟨a', len', cap', elems, rest, n, _, h1, _, _, h4, h5, h6, h7, _, _⟩
  · have : Value.slice a len cap = .slice none 0 0 := by simpa using h1
    exact .inl this
  · have h1 : Value.slice a len cap = .slice (some a') len' cap' := by simpa using h1
    cases h1
    have hsp : a'.spot = none := by
      simp only [Value.okWide, Tryz.underlying22, Cell.okWide, Cell.ok] at hval
      exact hval.2.2.2.1
    have each : ∀ i, ∃ p : Int × Int, i < len → W.cell? ⟨a'.block, a'.off + i * 2, none⟩ = some (.int .i64 p.1) ∧ W.cell? ⟨a'.block, a'.off + i * 2 + 1, none⟩ = some (.int .i64 p.2) := by
      intro i
      by_cases hi : i < len
      · have h8 := h7 i hi
        rw [cells35, List.getElem?_eq_getElem (by omega)] at h8
        simp only [Option.bind_eq_some_iff] at h8
        obtain ⟨cs, h9, h10⟩ := h8
        obtain ⟨_, q2, q3⟩ := World.cells?_some h9
        obtain ⟨xs, m, _, _, _, hn, hx⟩ := DataW.trod_array Tryz.underlying35 h10
        have part : ∀ j, j < 2 → ∃ z, cs[j]? = some (.int .i64 z) := by
          intro j hj
          have h11 := hx j hj
          rw [cells3, Nat.mul_one, List.getElem?_eq_getElem (by omega)] at h11
          obtain ⟨z, hz, _⟩ := DataW.trod_int Tryz.underlying3 h11
          have := congrArg (fun l : List Value => l[0]?) hz
          exact ⟨z, by simpa using this⟩
        obtain ⟨z0, hz0⟩ := part 0 (by omega)
        obtain ⟨z1, hz1⟩ := part 1 (by omega)
        refine ⟨(z0, z1), fun _ => ⟨?_, ?_⟩⟩
        · have := q3 0 (by omega)
          rw [hz0, add_eq hsp, add_eq rfl] at this
          exact this
        · have := q3 1 (by omega)
          rw [hz1, add_eq hsp, add_eq rfl] at this
          exact this
      · exact ⟨(0, 0), fun h => absurd h hi⟩
    obtain ⟨g, hg⟩ := Classical.axiomOfChoice each
    have hblk : ∃ c e fr, W.heap[a'.block]? = some (.cells c e fr) := by
      simp only [Value.okWide, Tryz.underlying22, Cell.okWide, Cell.ok] at hval
      obtain ⟨_, _, _, _, row, cells, hsh, _⟩ := hval
      unfold World.shape? at hsh
      split at hsh
      · rename_i hh; exact ⟨_, _, _, hh⟩
      · cases hsh
    refine .inr ⟨a'.block, a'.off, len, cap, (List.range len).map g, ?_, ?_, by simp, hblk, fun i e hi => ?_⟩
    · cases a' with
      | mk b o s => simp only at hsp; subst hsp; rfl
    · unfold maxLen at h5; unfold UNK; omega
    · have hlt : i < len := by have := (List.getElem?_eq_some_iff.1 hi).1; simpa using this
      have : g i = e := by simpa [hlt] using hi
      rw [← this]
      exact hg i hlt

/- A law whose input reads as it did, and which returns true. -/
def lawSpec (nm : String) : ChangeSpec := { name := nm, fn := fun _ => fun
  | [d1, d2] => { results := [.lit (.bool true)], args := [d1, d2] }
  | _ => Rows.none }

theorem law_post {H : Type} {enc : TypeId × Value → H} {fn : Func} {s : ChangeSpec} (hp : fn.params = #[3, 22]) (hr : fn.resultTypes = #[4]) (hs : s.vars = [])
    (hfn : ∀ (H : Type) (a b : DataW H), s.fn H [a, b] = { results := [.lit (.bool true)], args := [a, b] }) {f : FuncId} (hl : LawX f)
    {W : World} {base : Nat} {args : Array Value} {ds gs : List (DataW H)} {before : List MemPlace}
    (hval0 : ∀ (j : Nat) t v, fn.params[j]? = some t → args[j]? = some v → Value.okWide Tryz.prog W .any base t v) (hW : DataW.Whole enc Tryz.prog fn.params.toList s.vars false W args.toList ds gs before)
    (hL : laidMetH Tryz.prog [("riparian/prog.calculations", Rows.laid_riparian_prog_calculations)] W) :
    Calls Tryz.prog f args W fun e W' => ∃ v, e = .returned v ∧ s.post enc Tryz.prog fn false true false false W args v W' := by
  have hW' := hW
  obtain ⟨p, q, hA, hV, rfl, hfz, hnd⟩ := hW
  rw [hp] at hA hval0
  rw [hs] at hV
  obtain ⟨rfl, rfl⟩ := trodVars_none hV
  obtain ⟨v0, v1, d0, d1, p0, p1, rfl, rfl, rfl, t0, t1⟩ := trodAll_two hA
  have t0' := t0
  obtain ⟨m, rfl, rfl, rfl, wm⟩ := open_int Tryz.underlying3 (hval0 0 3 v0 rfl rfl) t0
  have hE := open_pairs (hval0 1 22 v1 rfl rfl) t1
  obtain ⟨e, fr, h6⟩ := six_of_laid hL
  refine (law_calls hl h6 (m := m) hE).mono fun e W' ⟨he, hsz, hfrm, hos, hout⟩ => ?_
  subst he
  have hlt : ∀ x ∈ p1, x.block < W.heap.size := fun x hx => hW'.lt x (List.mem_append_left _ (List.mem_append_right _ hx))
  have same : ∀ x ∈ p1, W.sameAt W' x := fun x hx => by
    have := hlt x hx
    cases x with
    | cell b off => simp only [World.sameAt, World.cell?]; rw [hfrm b this]
    | map b => exact hfrm b this
  have e1 : s.fn H ([.lit (.int .i64 m), d1] ++ []) = { results := [.lit (.bool true)], args := [.lit (.int .i64 m), d1] } := hfn H _ _
  refine ⟨_, rfl, _, _, _, [], p1, [], hW', ?_, ?_, ?_, ?_, fun h => by cases h⟩
  · rw [e1, hr]; exact trodAll_mk1 (shut_bool Tryz.underlying4 true)
  · rw [e1, hp]
    exact trodAll_mk2 (p := []) (shut_int Tryz.underlying3 wm) (Go.WideElems.Trod_stays laid0 (by kernel_rfl) (of_decide_eq_true (by kernel_rfl)) t1 same (fun x hx => by simpa using hlt x hx))
  · rw [e1, hs]; rfl
  · refine ⟨hos, hout, fun i hi => ?_⟩
    rw [hfrm i hi]
    cases hb : W.heap[i]? with
    | none => rfl
    | some o => cases o <;> first | exact ⟨rfl, rfl, rfl, fun _ _ => rfl⟩ | exact .inr ⟨rfl, rfl⟩ | rfl

end Go.Sx

/- SzV: closed facts that all rows of this seat share. -/
namespace Go.Sx
open Go.Proofs Go.Proofs.YtegomdgcijchcaaGreatDoor
set_option maxRecDepth 100000

theorem joined_of {P : Program} {f : FuncId} {fn : Func} {s : ChangeSpec} {c : OpenClaim} (h1 : c.wf (OpenSpec.ofChange s) = true) (h2 : laidOutB P = true) (h3 : mapsRowed P = true) (h4 : fn.params.all (P.readableRec ·) = true) (h5 : namedTie P c.named s.vars = true)
    (h6 : (c.stops == []) = true) (h7 : (P.stops == []) = true) (h8 : (c.knobs == []) = true) (h9 : (P.stopKnobs == []) = true)
    (h10 : (c.inPlace == P.inPlace f) = true) (h11 : (c.unfollowed == P.unfollowed f) = true) (h12 : (c.recurses == P.recurses f) = true) (h13 : (c.named == P.varsNamed f) = true)
    (h14 : ((c.maps == (fn.params.toList ++ s.plain.varTypes P).any (P.mapsRec ·)) && (c.ifaces == (fn.params.toList ++ s.plain.varTypes P).any (P.ifacesRec ·)) && (c.mapsOut == P.mapsAmong fn.resultTypes.toList) &&
      (c.loops == (fn.params.toList ++ s.plain.varTypes P).any (P.loopsFrom ·)) && (c.wideKeys == (fn.params.toList ++ s.plain.varTypes P ++ fn.resultTypes.toList).any (P.wideKeysFrom ·)) &&
      s.vars.all (P.varReadable ·) && fn.resultTypes.all (fun t => P.readableRec t && decide (t < P.types.size)) && (c.ifacesOut == fn.resultTypes.toList.any (P.ifacesRec ·)) && (c.loopsOut == fn.resultTypes.toList.any (P.loopsFrom ·))) = true)
    (h23 : (c.plainKeys == P.plainKeys) = true) (h24 : c.shortTexts.isNone = true) (h25 : P.stopsHeard = true) (h26 : P.mayEnter = true) (h27 : (c.lifted == P.liftsFinal) = true) (h28 : (P.make == some c.make) = true)
    (h29 : c.domain = []) (h29' : c.kinds = []) (h30 : (c.pinned == c.pinnedBy) = true)
    (h31 : ((c.veiled == (fn.params.toList ++ s.plain.varTypes P ++ fn.resultTypes.toList).any (P.veiledRec ·)) && c.veiledFits P fn.params.toList (fn.params.toList ++ s.plain.varTypes P ++ fn.resultTypes.toList)) = true) : joinedFacts P f fn s c = true := by
  simp only [Bool.and_eq_true] at h14 h31
  obtain ⟨⟨⟨⟨⟨⟨⟨⟨a1, a2⟩, a3⟩, a4⟩, a5⟩, a6⟩, a7⟩, a8⟩, a9⟩ := h14
  obtain ⟨b1, b2⟩ := h31
  unfold joinedFacts
  rw [h1, h2, h3, h4, h5, h6, h7, h8, h9, h10, h11, h12, h13, a1, a2, a3, a4, a5, a6, a7, a8, a9, h23, h24, h25, h26, h27, h28, h29, h29', h30, b1, b2]
  rfl

theorem p3 : mapsRowed Tryz.prog = true := by kernel_rfl
theorem p7 : (Tryz.prog.stops == []) = true := by kernel_rfl
theorem p9 : (Tryz.prog.stopKnobs == []) = true := by kernel_rfl
theorem p23 : (false == Tryz.prog.plainKeys) = true := by kernel_rfl
theorem p25 : Tryz.prog.stopsHeard = true := by kernel_rfl
theorem p26 : Tryz.prog.mayEnter = true := by kernel_rfl
theorem p27 : (false == Tryz.prog.liftsFinal) = true := by kernel_rfl
theorem p28 : (Tryz.prog.make == some .cut) = true := by kernel_rfl
theorem pmain : Tryz.prog.mainIs = some (true, "e8bee4214bb5d5814754e32cf4ba9f625655bbbacea81a099ad02db1d222b277".toList) := by kernel_rfl
theorem plooks : true = Tryz.prog.looks [] := by kernel_rfl
theorem pstand3 : Tryz.prog.wantsStandIn 3 = false := by kernel_rfl
theorem pstand22 : Tryz.prog.wantsStandIn 22 = false := by kernel_rfl

end Go.Sx

/- SwN: single operations of regions that draw, with what is plain left to be found. -/
namespace Go.Sx
open Go.Proofs

section
variable {E : Env} {many : Nat} {all l : List Oper} {L : LT} {h h' : T Blk} {n n' : Nat} {Q : LT → T Blk → Nat → Prop} {o : Oper} {d : Tmp} {v : Value}


theorem OD.mv {x : Operand} (hk : OD E many all l ((d, v) :: L) h n Q) (ho : o.op = .move x := by rfl) (hx : evL E L x = some v := by rfl) (hw : WantL all L o.guard true := by first | rfl | exact WantL.yes rfl rfl rfl) (hd : o.dst = some d := by rfl) (hm : Nat.blt d many = true := by rfl) (hb' : BelT n L (opTmps o) := by repeat' (first | exact trivial | assumption | exact BelV.ptr (by omega) | exact BelV.sl (by omega) | exact BelV.fn1 (by omega) | exact BelV.fn2 (by omega) (by omega) | exact rfl | exact (show ∀ k, _ ≤ k → BelV k _ from by assumption) _ (by omega) | refine And.intro (Exists.intro _ (And.intro rfl ?_)) ?_)) : OD E many all (o :: l) L h n Q := OD.val hw hb' (D.move ho hx) hd hm hk
theorem OD.asg {x : Operand} (hk : OD E many all l ((d, v) :: L) h n Q) (ho : o.op = .assign x := by rfl) (hx : evL E L x = some v := by rfl) (hw : WantL all L o.guard true := by first | rfl | exact WantL.yes rfl rfl rfl) (hd : o.dst = some d := by rfl) (hm : Nat.blt d many = true := by rfl) (hb' : BelT n L (opTmps o) := by repeat' (first | exact trivial | assumption | exact BelV.ptr (by omega) | exact BelV.sl (by omega) | exact BelV.fn1 (by omega) | exact BelV.fn2 (by omega) (by omega) | exact rfl | exact (show ∀ k, _ ≤ k → BelV k _ from by assumption) _ (by omega) | refine And.intro (Exists.intro _ (And.intro rfl ?_)) ?_)) : OD E many all (o :: l) L h n Q := OD.val hw hb' (D.assign ho hx) hd hm hk
theorem OD.ps (hk : OD E many all l ((d, undefV) :: L) h n Q) (hw : WantL all L o.guard false := by first | exact WantL.no rfl rfl rfl | exact WantL.un rfl rfl rfl) (hd : o.dst = some d := by rfl) (hm : Nat.blt d many = true := by rfl) : OD E many all (o :: l) L h n Q := OD.pass hw hd hm hk
theorem OD.pT {c x y : Operand} (hk : OD E many all l ((d, v) :: L) h n Q) (ho : o.op = .pick c x y := by rfl) (hc : evL E L c = some (.bool true) := by rfl) (hx : evL E L x = some v := by rfl) (hw : WantL all L o.guard true := by first | rfl | exact WantL.yes rfl rfl rfl) (hd : o.dst = some d := by rfl) (hm : Nat.blt d many = true := by rfl) (hb' : BelT n L (opTmps o) := by repeat' (first | exact trivial | assumption | exact BelV.ptr (by omega) | exact BelV.sl (by omega) | exact BelV.fn1 (by omega) | exact BelV.fn2 (by omega) (by omega) | exact rfl | exact (show ∀ k, _ ≤ k → BelV k _ from by assumption) _ (by omega) | refine And.intro (Exists.intro _ (And.intro rfl ?_)) ?_)) : OD E many all (o :: l) L h n Q := OD.val hw hb' (D.pickT ho hc hx) hd hm hk
theorem OD.pF {c x y : Operand} (hk : OD E many all l ((d, v) :: L) h n Q) (ho : o.op = .pick c x y := by rfl) (hc : evL E L c = some (.bool false) := by rfl) (hx : evL E L y = some v := by rfl) (hw : WantL all L o.guard true := by first | rfl | exact WantL.yes rfl rfl rfl) (hd : o.dst = some d := by rfl) (hm : Nat.blt d many = true := by rfl) (hb' : BelT n L (opTmps o) := by repeat' (first | exact trivial | assumption | exact BelV.ptr (by omega) | exact BelV.sl (by omega) | exact BelV.fn1 (by omega) | exact BelV.fn2 (by omega) (by omega) | exact rfl | exact (show ∀ k, _ ≤ k → BelV k _ from by assumption) _ (by omega) | refine And.intro (Exists.intro _ (And.intro rfl ?_)) ?_)) : OD E many all (o :: l) L h n Q := OD.val hw hb' (D.pickF ho hc hx) hd hm hk
theorem OD.un {op : UnOp} {ty : TypeId} {x : Operand} {a : Value} (hk : OD E many all l ((d, v) :: L) h n Q) (ho : o.op = .unOp op ty x := by rfl) (hx : evL E L x = some a := by rfl) (hb : unA op a = some v := by rfl) (hw : WantL all L o.guard true := by first | rfl | exact WantL.yes rfl rfl rfl) (hd : o.dst = some d := by rfl) (hm : Nat.blt d many = true := by rfl) (hb' : BelT n L (opTmps o) := by repeat' (first | exact trivial | assumption | exact BelV.ptr (by omega) | exact BelV.sl (by omega) | exact BelV.fn1 (by omega) | exact BelV.fn2 (by omega) (by omega) | exact rfl | exact (show ∀ k, _ ≤ k → BelV k _ from by assumption) _ (by omega) | refine And.intro (Exists.intro _ (And.intro rfl ?_)) ?_)) : OD E many all (o :: l) L h n Q := OD.val hw hb' (D.un ho hx hb) hd hm hk
theorem OD.ext {x : Operand} {k : Nat} {vs : Array Value} (hk : OD E many all l ((d, v) :: L) h n Q) (ho : o.op = .extract x k := by rfl) (hx : evL E L x = some (.tuple vs) := by rfl) (hv : nth vs.toList k = some v := by rfl) (hw : WantL all L o.guard true := by first | rfl | exact WantL.yes rfl rfl rfl) (hd : o.dst = some d := by rfl) (hm : Nat.blt d many = true := by rfl) (hb' : BelT n L (opTmps o) := by repeat' (first | exact trivial | assumption | exact BelV.ptr (by omega) | exact BelV.sl (by omega) | exact BelV.fn1 (by omega) | exact BelV.fn2 (by omega) (by omega) | exact rfl | exact (show ∀ k, _ ≤ k → BelV k _ from by assumption) _ (by omega) | refine And.intro (Exists.intro _ (And.intro rfl ?_)) ?_)) : OD E many all (o :: l) L h n Q := OD.val hw hb' (D.extract ho hx hv) hd hm hk
theorem OD.nc {x : Operand} {a : Addr} (hk : OD E many all l ((d, .pointer (some a)) :: L) h n Q) (ho : o.op = .nilCheck x := by rfl) (hx : evL E L x = some (.pointer (some a)) := by rfl) (hw : WantL all L o.guard true := by first | rfl | exact WantL.yes rfl rfl rfl) (hd : o.dst = some d := by rfl) (hm : Nat.blt d many = true := by rfl) (hb' : BelT n L (opTmps o) := by repeat' (first | exact trivial | assumption | exact BelV.ptr (by omega) | exact BelV.sl (by omega) | exact BelV.fn1 (by omega) | exact BelV.fn2 (by omega) (by omega) | exact rfl | exact (show ∀ k, _ ≤ k → BelV k _ from by assumption) _ (by omega) | refine And.intro (Exists.intro _ (And.intro rfl ?_)) ?_)) : OD E many all (o :: l) L h n Q := OD.val hw hb' (D.nilCheck ho hx) hd hm hk
theorem OD.ix {ty : TypeId} {x i : Operand} {a k : Value} (hv : idxA E ty a k = some v) (hk : OD E many all l ((d, v) :: L) h n Q) (ho : o.op = .indexAddr ty x i := by rfl) (hx : evL E L x = some a := by rfl) (hi : evL E L i = some k := by rfl) (hw : WantL all L o.guard true := by first | rfl | exact WantL.yes rfl rfl rfl) (hd : o.dst = some d := by rfl) (hm : Nat.blt d many = true := by rfl) (hb' : BelT n L (opTmps o) := by repeat' (first | exact trivial | assumption | exact BelV.ptr (by omega) | exact BelV.sl (by omega) | exact BelV.fn1 (by omega) | exact BelV.fn2 (by omega) (by omega) | exact rfl | exact (show ∀ k, _ ≤ k → BelV k _ from by assumption) _ (by omega) | refine And.intro (Exists.intro _ (And.intro rfl ?_)) ?_)) : OD E many all (o :: l) L h n Q := OD.val hw hb' (D.index ho hx hi hv) hd hm hk
theorem OD.ld {ty : TypeId} {x : Operand} {p : Value} (hv : loadA E h ty p = some v) (hk : OD E many all l ((d, v) :: L) h n Q) (ho : o.op = .load ty x := by rfl) (hx : evL E L x = some p := by rfl) (hw : WantL all L o.guard true := by first | rfl | exact WantL.yes rfl rfl rfl) (hd : o.dst = some d := by rfl) (hm : Nat.blt d many = true := by rfl) (hb' : BelT n L (opTmps o) := by repeat' (first | exact trivial | assumption | exact BelV.ptr (by omega) | exact BelV.sl (by omega) | exact BelV.fn1 (by omega) | exact BelV.fn2 (by omega) (by omega) | exact rfl | exact (show ∀ k, _ ≤ k → BelV k _ from by assumption) _ (by omega) | refine And.intro (Exists.intro _ (And.intro rfl ?_)) ?_)) : OD E many all (o :: l) L h n Q := OD.val hw hb' (D.load ho hx hv) hd hm hk
theorem OD.st {ty : TypeId} {x y : Operand} {p w : Value} (hv : storeA E h ty p w = some h') (hk : OD E many all l L h' n Q) (ho : o.op = .store ty x y := by rfl) (hx : evL E L x = some p := by rfl) (hy : evL E L y = some w := by rfl) (hw : WantL all L o.guard true := by first | rfl | exact WantL.yes rfl rfl rfl) (hd : o.dst = none := by rfl) (hb' : BelT n L (opTmps o) := by repeat' (first | exact trivial | assumption | exact BelV.ptr (by omega) | exact BelV.sl (by omega) | exact BelV.fn1 (by omega) | exact BelV.fn2 (by omega) (by omega) | exact rfl | exact (show ∀ k, _ ≤ k → BelV k _ from by assumption) _ (by omega) | refine And.intro (Exists.intro _ (And.intro rfl ?_)) ?_)) : OD E many all (o :: l) L h n Q := OD.skip hw hb' (D.store ho hx hy hv) hd hk
theorem OD.fd {s : TypeId} {x : Operand} {k b off f : Nat} (hf : fieldOff E s k = some f) (hk : OD E many all l ((d, .pointer (some ⟨b, off + f, none⟩)) :: L) h n Q) (ho : o.op = .fieldAddr s x k := by rfl) (hx : evL E L x = some (.pointer (some ⟨b, off, none⟩)) := by rfl) (hw : WantL all L o.guard true := by first | rfl | exact WantL.yes rfl rfl rfl) (hd : o.dst = some d := by rfl) (hm : Nat.blt d many = true := by rfl) (hb' : BelT n L (opTmps o) := by repeat' (first | exact trivial | assumption | exact BelV.ptr (by omega) | exact BelV.sl (by omega) | exact BelV.fn1 (by omega) | exact BelV.fn2 (by omega) (by omega) | exact rfl | exact (show ∀ k, _ ≤ k → BelV k _ from by assumption) _ (by omega) | refine And.intro (Exists.intro _ (And.intro rfl ?_)) ?_)) : OD E many all (o :: l) L h n Q := OD.val hw hb' (D.field ho hx hf) hd hm hk
theorem OD.bT {op : BinOp} {ty yt : TypeId} {x y : Operand} {a b : Value} {P : Prop} {i : Decidable P} (hk : OD E many all l ((d, .bool true) :: L) h n Q) (ho : o.op = .binOp op ty x y yt := by rfl) (hx : evL E L x = some a := by rfl) (hy : evL E L y = some b := by rfl) (hb : binA E op ty (isConstO x || isConstO y) a b = some (.bool (@decide P i)) := by rfl) (hp : P := by first | assumption | omega) (hw : WantL all L o.guard true := by first | rfl | exact WantL.yes rfl rfl rfl) (hd : o.dst = some d := by rfl) (hm : Nat.blt d many = true := by rfl) (hb' : BelT n L (opTmps o) := by repeat' (first | exact trivial | assumption | exact BelV.ptr (by omega) | exact BelV.sl (by omega) | exact BelV.fn1 (by omega) | exact BelV.fn2 (by omega) (by omega) | exact rfl | exact (show ∀ k, _ ≤ k → BelV k _ from by assumption) _ (by omega) | refine And.intro (Exists.intro _ (And.intro rfl ?_)) ?_)) : OD E many all (o :: l) L h n Q := OD.val hw hb' (D.binT ho hx hy hb hp) hd hm hk
theorem OD.bF {op : BinOp} {ty yt : TypeId} {x y : Operand} {a b : Value} {P : Prop} {i : Decidable P} (hk : OD E many all l ((d, .bool false) :: L) h n Q) (ho : o.op = .binOp op ty x y yt := by rfl) (hx : evL E L x = some a := by rfl) (hy : evL E L y = some b := by rfl) (hb : binA E op ty (isConstO x || isConstO y) a b = some (.bool (@decide P i)) := by rfl) (hp : ¬ P := by first | assumption | omega) (hw : WantL all L o.guard true := by first | rfl | exact WantL.yes rfl rfl rfl) (hd : o.dst = some d := by rfl) (hm : Nat.blt d many = true := by rfl) (hb' : BelT n L (opTmps o) := by repeat' (first | exact trivial | assumption | exact BelV.ptr (by omega) | exact BelV.sl (by omega) | exact BelV.fn1 (by omega) | exact BelV.fn2 (by omega) (by omega) | exact rfl | exact (show ∀ k, _ ≤ k → BelV k _ from by assumption) _ (by omega) | refine And.intro (Exists.intro _ (And.intro rfl ?_)) ?_)) : OD E many all (o :: l) L h n Q := OD.val hw hb' (D.binF ho hx hy hb hp) hd hm hk
theorem OD.nT {ty yt : TypeId} {x y : Operand} {a b : Value} {P : Prop} {i : Decidable P} (hk : OD E many all l ((d, .bool true) :: L) h n Q) (ho : o.op = .binOp .neq ty x y yt := by rfl) (hx : evL E L x = some a := by rfl) (hy : evL E L y = some b := by rfl) (hb : binA E .neq ty (isConstO x || isConstO y) a b = some (.bool (!@decide P i)) := by rfl) (hp : ¬ P := by first | assumption | omega) (hw : WantL all L o.guard true := by first | rfl | exact WantL.yes rfl rfl rfl) (hd : o.dst = some d := by rfl) (hm : Nat.blt d many = true := by rfl) (hb' : BelT n L (opTmps o) := by repeat' (first | exact trivial | assumption | exact BelV.ptr (by omega) | exact BelV.sl (by omega) | exact BelV.fn1 (by omega) | exact BelV.fn2 (by omega) (by omega) | exact rfl | exact (show ∀ k, _ ≤ k → BelV k _ from by assumption) _ (by omega) | refine And.intro (Exists.intro _ (And.intro rfl ?_)) ?_)) : OD E many all (o :: l) L h n Q := OD.val hw hb' (D.neT ho hx hy hb hp) hd hm hk
theorem OD.nF {ty yt : TypeId} {x y : Operand} {a b : Value} {P : Prop} {i : Decidable P} (hk : OD E many all l ((d, .bool false) :: L) h n Q) (ho : o.op = .binOp .neq ty x y yt := by rfl) (hx : evL E L x = some a := by rfl) (hy : evL E L y = some b := by rfl) (hb : binA E .neq ty (isConstO x || isConstO y) a b = some (.bool (!@decide P i)) := by rfl) (hp : P := by first | assumption | omega) (hw : WantL all L o.guard true := by first | rfl | exact WantL.yes rfl rfl rfl) (hd : o.dst = some d := by rfl) (hm : Nat.blt d many = true := by rfl) (hb' : BelT n L (opTmps o) := by repeat' (first | exact trivial | assumption | exact BelV.ptr (by omega) | exact BelV.sl (by omega) | exact BelV.fn1 (by omega) | exact BelV.fn2 (by omega) (by omega) | exact rfl | exact (show ∀ k, _ ≤ k → BelV k _ from by assumption) _ (by omega) | refine And.intro (Exists.intro _ (And.intro rfl ?_)) ?_)) : OD E many all (o :: l) L h n Q := OD.val hw hb' (D.neF ho hx hy hb hp) hd hm hk
theorem OD.bv {op : BinOp} {ty yt : TypeId} {x y : Operand} {a b : Value} (hb : binA E op ty (isConstO x || isConstO y) a b = some v) (hk : OD E many all l ((d, v) :: L) h n Q) (ho : o.op = .binOp op ty x y yt := by rfl) (hx : evL E L x = some a := by rfl) (hy : evL E L y = some b := by rfl) (hw : WantL all L o.guard true := by first | rfl | exact WantL.yes rfl rfl rfl) (hd : o.dst = some d := by rfl) (hm : Nat.blt d many = true := by rfl) (hb' : BelT n L (opTmps o) := by repeat' (first | exact trivial | assumption | exact BelV.ptr (by omega) | exact BelV.sl (by omega) | exact BelV.fn1 (by omega) | exact BelV.fn2 (by omega) (by omega) | exact rfl | exact (show ∀ k, _ ≤ k → BelV k _ from by assumption) _ (by omega) | refine And.intro (Exists.intro _ (And.intro rfl ?_)) ?_)) : OD E many all (o :: l) L h n Q := OD.val hw hb' (D.bin ho hx hy hb) hd hm hk
theorem OD.ad1 {ty yt : TypeId} {x y : Operand} {a : Nat} (hk : OD E many all l ((d, .int .i64 ((a + 1 : Nat) : Int)) :: L) h n Q) (ho : o.op = .binOp .add ty x y yt := by rfl) (hx : evL E L x = some (.int .i64 (a : Int)) := by rfl) (hy : evL E L y = some (.int .i64 1) := by rfl) (hr : a < 9223372036854775807 := by omega) (hw : WantL all L o.guard true := by first | rfl | exact WantL.yes rfl rfl rfl) (hd : o.dst = some d := by rfl) (hm : Nat.blt d many = true := by rfl) (hb' : BelT n L (opTmps o) := by repeat' (first | exact trivial | assumption | exact BelV.ptr (by omega) | exact BelV.sl (by omega) | exact BelV.fn1 (by omega) | exact BelV.fn2 (by omega) (by omega) | exact rfl | exact (show ∀ k, _ ≤ k → BelV k _ from by assumption) _ (by omega) | refine And.intro (Exists.intro _ (And.intro rfl ?_)) ?_)) : OD E many all (o :: l) L h n Q := OD.val hw hb' (D.addN ho hx hy hr) hd hm hk
theorem OD.ad {ty yt : TypeId} {x y : Operand} {a b : Int} (hk : OD E many all l ((d, .int .i64 (a + b)) :: L) h n Q) (ho : o.op = .binOp .add ty x y yt := by rfl) (hx : evL E L x = some (.int .i64 a) := by rfl) (hy : evL E L y = some (.int .i64 b) := by rfl) (hr : -9223372036854775808 ≤ a + b ∧ a + b ≤ 9223372036854775807 := by omega) (hw : WantL all L o.guard true := by first | rfl | exact WantL.yes rfl rfl rfl) (hd : o.dst = some d := by rfl) (hm : Nat.blt d many = true := by rfl) (hb' : BelT n L (opTmps o) := by repeat' (first | exact trivial | assumption | exact BelV.ptr (by omega) | exact BelV.sl (by omega) | exact BelV.fn1 (by omega) | exact BelV.fn2 (by omega) (by omega) | exact rfl | exact (show ∀ k, _ ≤ k → BelV k _ from by assumption) _ (by omega) | refine And.intro (Exists.intro _ (And.intro rfl ?_)) ?_)) : OD E many all (o :: l) L h n Q := OD.val hw hb' (D.add ho hx hy hr) hd hm hk
theorem OD.sb {ty yt : TypeId} {x y : Operand} {a b : Int} (hk : OD E many all l ((d, .int .i64 (a - b)) :: L) h n Q) (ho : o.op = .binOp .sub ty x y yt := by rfl) (hx : evL E L x = some (.int .i64 a) := by rfl) (hy : evL E L y = some (.int .i64 b) := by rfl) (hr : -9223372036854775808 ≤ a - b ∧ a - b ≤ 9223372036854775807 := by omega) (hw : WantL all L o.guard true := by first | rfl | exact WantL.yes rfl rfl rfl) (hd : o.dst = some d := by rfl) (hm : Nat.blt d many = true := by rfl) (hb' : BelT n L (opTmps o) := by repeat' (first | exact trivial | assumption | exact BelV.ptr (by omega) | exact BelV.sl (by omega) | exact BelV.fn1 (by omega) | exact BelV.fn2 (by omega) (by omega) | exact rfl | exact (show ∀ k, _ ≤ k → BelV k _ from by assumption) _ (by omega) | refine And.intro (Exists.intro _ (And.intro rfl ?_)) ?_)) : OD E many all (o :: l) L h n Q := OD.val hw hb' (D.sub ho hx hy hr) hd hm hk
theorem OD.al {e : TypeId} {i : TyI} (hi : E.ty.get e = some i) (hk : OD E many all l ((d, ptrTo n) :: L) (h.upd (some (.cells i.zero)) n) (n + 1) Q) (ho : o.op = .alloc e := by rfl) (hz : i.zok = true := by rfl) (hw : WantL all L o.guard true := by first | rfl | exact WantL.yes rfl rfl rfl) (hd : o.dst = some d := by rfl) (hm : Nat.blt d many = true := by rfl) (hb' : BelT n L (opTmps o) := by repeat' (first | exact trivial | assumption | exact BelV.ptr (by omega) | exact BelV.sl (by omega) | exact BelV.fn1 (by omega) | exact BelV.fn2 (by omega) (by omega) | exact rfl | exact (show ∀ k, _ ≤ k → BelV k _ from by assumption) _ (by omega) | refine And.intro (Exists.intro _ (And.intro rfl ?_)) ?_)) : OD E many all (o :: l) L h n Q := OD.val hw hb' (D.alloc ho hi hz) hd hm hk
theorem OD.bx {e : TypeId} {x : Operand} {w : Value} (hk : OD E many all l ((d, ptrTo n) :: L) (h.upd (some (.cells (cellsL w))) n) (n + 1) Q) (ho : o.op = .box e x := by rfl) (hx : evL E L x = some w := by rfl) (hw : WantL all L o.guard true := by first | rfl | exact WantL.yes rfl rfl rfl) (hd : o.dst = some d := by rfl) (hm : Nat.blt d many = true := by rfl) (hb' : BelT n L (opTmps o) := by repeat' (first | exact trivial | assumption | exact BelV.ptr (by omega) | exact BelV.sl (by omega) | exact BelV.fn1 (by omega) | exact BelV.fn2 (by omega) (by omega) | exact rfl | exact (show ∀ k, _ ≤ k → BelV k _ from by assumption) _ (by omega) | refine And.intro (Exists.intro _ (And.intro rfl ?_)) ?_)) : OD E many all (o :: l) L h n Q := OD.val hw hb' (D.box ho hx) hd hm hk
theorem OD.ms {ty : TypeId} {x y : Operand} {a b : Value} {cs : List Value} (hv : makeSliceA E ty a b n = some (v, cs)) (hk : OD E many all l ((d, v) :: L) (h.upd (some (.cells cs)) n) (n + 1) Q) (ho : o.op = .makeSlice ty x y := by rfl) (hx : evL E L x = some a := by rfl) (hy : evL E L y = some b := by rfl) (hw : WantL all L o.guard true := by first | rfl | exact WantL.yes rfl rfl rfl) (hd : o.dst = some d := by rfl) (hm : Nat.blt d many = true := by rfl) (hb' : BelT n L (opTmps o) := by repeat' (first | exact trivial | assumption | exact BelV.ptr (by omega) | exact BelV.sl (by omega) | exact BelV.fn1 (by omega) | exact BelV.fn2 (by omega) (by omega) | exact rfl | exact (show ∀ k, _ ≤ k → BelV k _ from by assumption) _ (by omega) | refine And.intro (Exists.intro _ (And.intro rfl ?_)) ?_)) : OD E many all (o :: l) L h n Q := OD.val hw hb' (D.makeSlice ho hx hy hv) hd hm hk
theorem OD.bs {ty : TypeId} {len : Nat} {ps : Array (Nat × Operand)} {q : List (Nat × Value)} {cs : List Value} (hv : buildSliceA E ty len q = some cs) (hk : OD E many all l ((d, .slice (some ⟨n, 0, none⟩) len len) :: L) (h.upd (some (.cells cs)) n) (n + 1) Q) (ho : o.op = .buildSlice ty len ps := by rfl) (hp : evPs E L ps.toList = some q := by rfl) (hw : WantL all L o.guard true := by first | rfl | exact WantL.yes rfl rfl rfl) (hd : o.dst = some d := by rfl) (hm : Nat.blt d many = true := by rfl) (hb' : BelT n L (opTmps o) := by repeat' (first | exact trivial | assumption | exact BelV.ptr (by omega) | exact BelV.sl (by omega) | exact BelV.fn1 (by omega) | exact BelV.fn2 (by omega) (by omega) | exact rfl | exact (show ∀ k, _ ≤ k → BelV k _ from by assumption) _ (by omega) | refine And.intro (Exists.intro _ (And.intro rfl ?_)) ?_)) : OD E many all (o :: l) L h n Q := OD.val hw hb' (D.buildSlice ho hp hv) hd hm hk
theorem OD.bd {ty : TypeId} {ps : Array (Nat × Operand)} {q : List (Nat × Value)} (hv : buildA E ty q = some v) (hk : OD E many all l ((d, v) :: L) h n Q) (ho : o.op = .build ty ps := by rfl) (hp : evPs E L ps.toList = some q := by rfl) (hw : WantL all L o.guard true := by first | rfl | exact WantL.yes rfl rfl rfl) (hd : o.dst = some d := by rfl) (hm : Nat.blt d many = true := by rfl) (hb' : BelT n L (opTmps o) := by repeat' (first | exact trivial | assumption | exact BelV.ptr (by omega) | exact BelV.sl (by omega) | exact BelV.fn1 (by omega) | exact BelV.fn2 (by omega) (by omega) | exact rfl | exact (show ∀ k, _ ≤ k → BelV k _ from by assumption) _ (by omega) | refine And.intro (Exists.intro _ (And.intro rfl ?_)) ?_)) : OD E many all (o :: l) L h n Q := OD.val hw hb' (D.build ho hp hv) hd hm hk
theorem OD.bi {c : Call} {b : Builtin} {args : List Value} (hr : builtinA E b c.argTypes.toList args h n = .val v h' n') (hk : OD E many all l ((d, v) :: L) h' n' Q) (ho : o.op = .call c := by rfl) (hc : c.callee = .builtin b := by rfl) (ha : evLs E L c.args.toList = some args := by rfl) (hw : WantL all L o.guard true := by first | rfl | exact WantL.yes rfl rfl rfl) (hd : o.dst = some d := by rfl) (hm : Nat.blt d many = true := by rfl) (hb' : BelT n L (opTmps o) := by repeat' (first | exact trivial | assumption | exact BelV.ptr (by omega) | exact BelV.sl (by omega) | exact BelV.fn1 (by omega) | exact BelV.fn2 (by omega) (by omega) | exact rfl | exact (show ∀ k, _ ≤ k → BelV k _ from by assumption) _ (by omega) | refine And.intro (Exists.intro _ (And.intro rfl ?_)) ?_)) : OD E many all (o :: l) L h n Q := OD.val hw hb' (D.builtinV ho hc ha hr) hd hm hk
theorem OD.cf {c : Call} {f : FuncId} {fn : Func} {args : List Value} (hf : E.fn.get f = some fn) (hcl : Cl E f args h n (.ret v h' n')) (hk : OD E many all l ((d, v) :: L) h' n' Q) (ho : o.op = .call c := by rfl) (hc : c.callee = .value (.func f) := by rfl) (ha : evLs E L c.args.toList = some args := by rfl) (hw : WantL all L o.guard true := by first | rfl | exact WantL.yes rfl rfl rfl) (hd : o.dst = some d := by rfl) (hm : Nat.blt d many = true := by rfl) (hb' : BelT n L (opTmps o) := by repeat' (first | exact trivial | assumption | exact BelV.ptr (by omega) | exact BelV.sl (by omega) | exact BelV.fn1 (by omega) | exact BelV.fn2 (by omega) (by omega) | exact rfl | exact (show ∀ k, _ ≤ k → BelV k _ from by assumption) _ (by omega) | refine And.intro (Exists.intro _ (And.intro rfl ?_)) ?_)) : OD E many all (o :: l) L h n Q := OD.call hw hb' (D.callF ho hc ha hf) hcl hd hm hk
theorem OD.l3 {x : Operand} {b k : Nat} {cs : List Value} (hk : OD X many all l ((d, v) :: L) h n Q) (ho : o.op = .load 3 x := by rfl) (hx : evL X L x = some (.pointer (some ⟨b, k, none⟩)) := by rfl) (hc : h.get b = some (.cells cs) := by repeat (first | exact T.get_upd_same _ _ _ | assumption | refine (T.get_upd_ne _ _ (by omega)).trans ?_)) (hv : cs[k]? = some v := by rfl) (hw : WantL all L o.guard true := by first | rfl | exact WantL.yes rfl rfl rfl) (hd : o.dst = some d := by rfl) (hm : Nat.blt d many = true := by rfl) (hb' : BelT n L (opTmps o) := by repeat' (first | exact trivial | assumption | exact BelV.ptr (by omega) | exact BelV.sl (by omega) | exact BelV.fn1 (by omega) | exact BelV.fn2 (by omega) (by omega) | exact rfl | exact (show ∀ k, _ ≤ k → BelV k _ from by assumption) _ (by omega) | refine And.intro (Exists.intro _ (And.intro rfl ?_)) ?_)) : OD X many all (o :: l) L h n Q := OD.val hw hb' (D.load ho hx (load1 ty3 rfl (cells_of hc) hv)) hd hm hk
theorem OD.l4 {x : Operand} {b k : Nat} {cs : List Value} (hk : OD X many all l ((d, v) :: L) h n Q) (ho : o.op = .load 4 x := by rfl) (hx : evL X L x = some (.pointer (some ⟨b, k, none⟩)) := by rfl) (hc : h.get b = some (.cells cs) := by repeat (first | exact T.get_upd_same _ _ _ | assumption | refine (T.get_upd_ne _ _ (by omega)).trans ?_)) (hv : cs[k]? = some v := by rfl) (hw : WantL all L o.guard true := by first | rfl | exact WantL.yes rfl rfl rfl) (hd : o.dst = some d := by rfl) (hm : Nat.blt d many = true := by rfl) (hb' : BelT n L (opTmps o) := by repeat' (first | exact trivial | assumption | exact BelV.ptr (by omega) | exact BelV.sl (by omega) | exact BelV.fn1 (by omega) | exact BelV.fn2 (by omega) (by omega) | exact rfl | exact (show ∀ k, _ ≤ k → BelV k _ from by assumption) _ (by omega) | refine And.intro (Exists.intro _ (And.intro rfl ?_)) ?_)) : OD X many all (o :: l) L h n Q := OD.val hw hb' (D.load ho hx (load1 ty4 rfl (cells_of hc) hv)) hd hm hk
theorem OD.lp {x : Operand} {b k : Nat} {cs : List Value} {u w : Value} (hk : OD X many all l ((d, .agg #[u, w]) :: L) h n Q) (ho : o.op = .load 35 x := by rfl) (hx : evL X L x = some (.pointer (some ⟨b, k, none⟩)) := by rfl) (hc : h.get b = some (.cells cs) := by repeat (first | exact T.get_upd_same _ _ _ | assumption | refine (T.get_upd_ne _ _ (by omega)).trans ?_)) (hv : cs[k]? = some u := by rfl) (hv' : cs[k + 1]? = some w := by rfl) (hw : WantL all L o.guard true := by first | rfl | exact WantL.yes rfl rfl rfl) (hd : o.dst = some d := by rfl) (hm : Nat.blt d many = true := by rfl) (hb' : BelT n L (opTmps o) := by repeat' (first | exact trivial | assumption | exact BelV.ptr (by omega) | exact BelV.sl (by omega) | exact BelV.fn1 (by omega) | exact BelV.fn2 (by omega) (by omega) | exact rfl | exact (show ∀ k, _ ≤ k → BelV k _ from by assumption) _ (by omega) | refine And.intro (Exists.intro _ (And.intro rfl ?_)) ?_)) : OD X many all (o :: l) L h n Q := OD.val hw hb' (D.load ho hx (load2 (cells_of hc) hv hv')) hd hm hk
end
end Go.Sx

/- SzK: the reference's Check, and valid. -/
namespace Go.Sx
open Go.Proofs
set_option maxRecDepth 100000
set_option maxHeartbeats 4000000

/- One edge of a valid graph. -/
def EdgeOK (m : Int) (e : Int × Int) : Prop := 0 ≤ e.1 ∧ e.1 < m ∧ 0 ≤ e.2 ∧ e.2 < m ∧ e.1 ≠ e.2
def LessE (a b : Int × Int) : Prop := a.1 < b.1 ∨ a.1 = b.1 ∧ a.2 < b.2

structure GoodG (m : Int) (l : List (Int × Int)) : Prop where
  lo : 0 ≤ m
  ok : ∀ e ∈ l, EdgeOK m e
  inc : ∀ i a b, l[i]? = some a → l[i + 1]? = some b → LessE a b

theorem fn16 : X.fn.get 16 = some Tryz.f16 := by kernel_rfl
theorem fn25 : X.fn.get 25 = some Tryz.f25 := by kernel_rfl

theorem eqInt (n : Nat) : (Value.int .i64 ((n : Nat) : Int)) = .int .i64 (n : Int) := rfl

theorem check_cl (m : Int) (s : Value) (l : List (Int × Int)) (h : T Blk) (n : Nat) (hf : Fresh h n) (he : Edges h s l) (hbs : ∀ k, n ≤ k → BelV k s) (hlen : l.length ≤ 400) :
    Gives 16 [.int .i64 m, s] h n fun v _ _ => ∃ c : Int, v = .int .i64 c ∧ (c = 0 → GoodG m l ∧ m ≤ 400) := by
  have key : ∃ v h' n', Cl X 16 [.int .i64 m, s] h n (.ret v h' n') ∧ Keep n h h' ∧ n ≤ n' ∧ Fresh h' n' ∧ ∃ c : Int, v = .int .i64 c ∧ (c = 0 → GoodG m l ∧ m ≤ 400) := by
    refine Cl.wl (many := 64) (memoX (by decide)) fn16 rfl rfl rfl rfl ?_
    refine WL.seq (WL.reg ?_)
    refine OL.asg ?_
    refine OL.nil ?_
    refine WL.seq (WL.seq (WL.reg ?_))
    by_cases h1 : m < 0
    · refine OL.mv ?_; refine OL.bT ?_; refine OL.mv ?_; refine OL.ps ?_; refine OL.ps ?_; refine OL.pT ?_
      refine OL.nil (WL.condT rfl (WL.seq (WL.reg ?_)))
      refine OL.asg ?_
      exact OL.nil (WL.ret ⟨fun id e => (by cases e), _, rfl, .refl _ _, Nat.le_refl _, hf, 1, rfl, fun e => (by cases e)⟩)
    by_cases h2 : 400 < m
    · refine OL.mv ?_; refine OL.bF ?_; refine OL.mv ?_; refine OL.mv ?_; refine OL.bT ?_; refine OL.pF ?_
      refine OL.nil (WL.condT rfl (WL.seq (WL.reg ?_)))
      refine OL.asg ?_
      exact OL.nil (WL.ret ⟨fun id e => (by cases e), _, rfl, .refl _ _, Nat.le_refl _, hf, 1, rfl, fun e => (by cases e)⟩)
    refine OL.mv ?_; refine OL.bF ?_; refine OL.mv ?_; refine OL.mv ?_; refine OL.bF ?_; refine OL.pF ?_
    refine OL.nil (WL.condF rfl (WL.skip ?_))
    refine WL.seq (WL.seq (WL.reg ?_))
    refine OL.asg ?_
    refine OL.nil (WL.block ?_)
    refine WL.loop (k := l.length) (fun k L h' n' => ∃ i : Nat, i ≤ l.length ∧ k = l.length - i ∧ Sub [(5, .int .i64 (i : Int)), (1, s), (0, .int .i64 m)] L ∧ Keep n h h' ∧ n ≤ n' ∧ Fresh h' n' ∧
      (∀ j e, j < i → l[j]? = some e → EdgeOK m e) ∧ (∀ j a b, j + 1 < i → l[j]? = some a → l[j + 1]? = some b → LessE a b)) ?_
      ⟨0, Nat.zero_le _, rfl, .cons rfl (.cons rfl (.cons rfl .nil)), .refl _ _, Nat.le_refl _, hf, fun j e h => by omega, fun j a b h => by omega⟩
    rintro k L h' n' ⟨i, hi, rfl, hs, hk, hn, hf', hok, hinc⟩
    refine WL.keep hs ?_
    refine WL.seq (WL.seq (WL.reg ?_))
    refine OL.mv ?_; refine OL.mv ?_
    refine OL.val (by first | rfl | exact WantL.yes rfl rfl rfl) (D.builtinV rfl rfl rfl he.len) rfl rfl ?_
    by_cases h3 : (i : Int) < (l.length : Int)
    · refine OL.bT ?_
      refine OL.nil (WL.condT rfl (WL.skip ?_))
      obtain ⟨e, hie⟩ : ∃ e, l[i]? = some e := ⟨l[i], List.getElem?_eq_getElem (by omega)⟩
      have he' := he.keep hf hk
      obtain ⟨b, o, hx1, hx2, _⟩ := he'.at hie
      refine WL.seq (WL.block (WL.seq (WL.reg ?_)))
      refine OL.mv ?_; refine OL.mv ?_
      refine OL.val (by first | rfl | exact WantL.yes rfl rfl rfl) (D.index rfl rfl rfl hx1) rfl rfl ?_
      refine OL.val (by first | rfl | exact WantL.yes rfl rfl rfl) (D.load rfl rfl hx2) rfl rfl ?_
      refine OL.al ty35 ?_
      refine OL.skip rfl (D.store rfl rfl rfl (store2 (T.get_upd_same _ _ _) rfl rfl)) rfl ?_
      refine OL.nil ?_
      have hfa := (hf'.upd (some (.cells tPair.zero))).set (Nat.lt_succ_self n') (some (.cells [.int .i64 e.1, .int .i64 e.2]))
      have hka := (hk.upd hn (some (.cells tPair.zero))).upd hn (some (.cells [.int .i64 e.1, .int .i64 e.2]))
      have hga : (T.upd (some (Blk.cells [.int .i64 e.1, .int .i64 e.2])) (h'.upd (some (.cells tPair.zero)) n') n').get n' = some (.cells [.int .i64 e.1, .int .i64 e.2]) := T.get_upd_same _ _ _
      generalize T.upd (some (Blk.cells [.int .i64 e.1, .int .i64 e.2])) (h'.upd (some (.cells tPair.zero)) n') n' = ha at hfa hka hga ⊢
      have hbs' : ∀ k, n' + 1 ≤ k → BelV k s := fun k hk => hbs k (by omega)
      refine WL.seq (WL.mono (Q := fun x L' h2 n2 => x = .normal ∧ ∃ bad : Bool, Sub [(63, .bool bad), (5, .int .i64 (i : Int)), (1, s), (0, .int .i64 m)] L' ∧ Keep n h h2 ∧ n ≤ n2 ∧ Fresh h2 n2 ∧
        (bad = false → EdgeOK m e ∧ ∀ a, 0 < i → l[i - 1]? = some a → LessE a e)) (WL.regD (by kernel_rfl) (by kernel_rfl) ?_) ?_)
      · by_cases c1 : e.1 < 0
        · refine OD.ix idx_pair0 ?_; refine OD.l3 ?_; refine OD.bT ?_; refine OD.mv ?_; refine OD.ps ?_; refine OD.ps ?_; refine OD.ps ?_; refine OD.ps ?_; refine OD.pT ?_; refine OD.mv ?_; refine OD.ps ?_; refine OD.ps ?_; refine OD.ps ?_; refine OD.pT ?_; refine OD.mv ?_; refine OD.ps ?_; refine OD.ps ?_; refine OD.ps ?_; refine OD.ps ?_; refine OD.pT ?_; refine OD.mv ?_; refine OD.ps ?_; refine OD.ps ?_; refine OD.ps ?_; refine OD.ps ?_; refine OD.ps ?_; refine OD.pT ?_; refine OD.mv ?_; refine OD.ps ?_; refine OD.ps ?_; refine OD.ps ?_; refine OD.ps ?_; refine OD.ps ?_; refine OD.ps ?_; refine OD.ps ?_; refine OD.ps ?_; refine OD.ps ?_; refine OD.ps ?_; refine OD.ps ?_; refine OD.ps ?_; refine OD.pT ?_
          exact OD.nil ⟨rfl, true, .cons rfl (.cons rfl (.cons rfl (.cons rfl .nil))), hka, by omega, hfa, fun x => by cases x⟩
        by_cases c2 : m ≤ e.1
        · refine OD.ix idx_pair0 ?_; refine OD.l3 ?_; refine OD.bF ?_; refine OD.mv ?_; refine OD.ix idx_pair0 ?_; refine OD.l3 ?_; refine OD.mv ?_; refine OD.bT ?_; refine OD.pF ?_; refine OD.mv ?_; refine OD.ps ?_; refine OD.ps ?_; refine OD.ps ?_; refine OD.pT ?_; refine OD.mv ?_; refine OD.ps ?_; refine OD.ps ?_; refine OD.ps ?_; refine OD.ps ?_; refine OD.pT ?_; refine OD.mv ?_; refine OD.ps ?_; refine OD.ps ?_; refine OD.ps ?_; refine OD.ps ?_; refine OD.ps ?_; refine OD.pT ?_; refine OD.mv ?_; refine OD.ps ?_; refine OD.ps ?_; refine OD.ps ?_; refine OD.ps ?_; refine OD.ps ?_; refine OD.ps ?_; refine OD.ps ?_; refine OD.ps ?_; refine OD.ps ?_; refine OD.ps ?_; refine OD.ps ?_; refine OD.ps ?_; refine OD.pT ?_
          exact OD.nil ⟨rfl, true, .cons rfl (.cons rfl (.cons rfl (.cons rfl .nil))), hka, by omega, hfa, fun x => by cases x⟩
        by_cases c3 : e.2 < 0
        · refine OD.ix idx_pair0 ?_; refine OD.l3 ?_; refine OD.bF ?_; refine OD.mv ?_; refine OD.ix idx_pair0 ?_; refine OD.l3 ?_; refine OD.mv ?_; refine OD.bF ?_; refine OD.pF ?_; refine OD.mv ?_; refine OD.ix idx_pair1 ?_; refine OD.l3 ?_; refine OD.bT ?_; refine OD.pF ?_; refine OD.mv ?_; refine OD.ps ?_; refine OD.ps ?_; refine OD.ps ?_; refine OD.ps ?_; refine OD.pT ?_; refine OD.mv ?_; refine OD.ps ?_; refine OD.ps ?_; refine OD.ps ?_; refine OD.ps ?_; refine OD.ps ?_; refine OD.pT ?_; refine OD.mv ?_; refine OD.ps ?_; refine OD.ps ?_; refine OD.ps ?_; refine OD.ps ?_; refine OD.ps ?_; refine OD.ps ?_; refine OD.ps ?_; refine OD.ps ?_; refine OD.ps ?_; refine OD.ps ?_; refine OD.ps ?_; refine OD.ps ?_; refine OD.pT ?_
          exact OD.nil ⟨rfl, true, .cons rfl (.cons rfl (.cons rfl (.cons rfl .nil))), hka, by omega, hfa, fun x => by cases x⟩
        by_cases c4 : m ≤ e.2
        · refine OD.ix idx_pair0 ?_; refine OD.l3 ?_; refine OD.bF ?_; refine OD.mv ?_; refine OD.ix idx_pair0 ?_; refine OD.l3 ?_; refine OD.mv ?_; refine OD.bF ?_; refine OD.pF ?_; refine OD.mv ?_; refine OD.ix idx_pair1 ?_; refine OD.l3 ?_; refine OD.bF ?_; refine OD.pF ?_; refine OD.mv ?_; refine OD.ix idx_pair1 ?_; refine OD.l3 ?_; refine OD.mv ?_; refine OD.bT ?_; refine OD.pF ?_; refine OD.mv ?_; refine OD.ps ?_; refine OD.ps ?_; refine OD.ps ?_; refine OD.ps ?_; refine OD.ps ?_; refine OD.pT ?_; refine OD.mv ?_; refine OD.ps ?_; refine OD.ps ?_; refine OD.ps ?_; refine OD.ps ?_; refine OD.ps ?_; refine OD.ps ?_; refine OD.ps ?_; refine OD.ps ?_; refine OD.ps ?_; refine OD.ps ?_; refine OD.ps ?_; refine OD.ps ?_; refine OD.pT ?_
          exact OD.nil ⟨rfl, true, .cons rfl (.cons rfl (.cons rfl (.cons rfl .nil))), hka, by omega, hfa, fun x => by cases x⟩
        by_cases c5 : e.1 = e.2
        · refine OD.ix idx_pair0 ?_; refine OD.l3 ?_; refine OD.bF ?_; refine OD.mv ?_; refine OD.ix idx_pair0 ?_; refine OD.l3 ?_; refine OD.mv ?_; refine OD.bF ?_; refine OD.pF ?_; refine OD.mv ?_; refine OD.ix idx_pair1 ?_; refine OD.l3 ?_; refine OD.bF ?_; refine OD.pF ?_; refine OD.mv ?_; refine OD.ix idx_pair1 ?_; refine OD.l3 ?_; refine OD.mv ?_; refine OD.bF ?_; refine OD.pF ?_; refine OD.mv ?_; refine OD.ix idx_pair0 ?_; refine OD.l3 ?_; refine OD.ix idx_pair1 ?_; refine OD.l3 ?_; refine OD.bT ?_; refine OD.pF ?_; refine OD.mv ?_; refine OD.ps ?_; refine OD.ps ?_; refine OD.ps ?_; refine OD.ps ?_; refine OD.ps ?_; refine OD.ps ?_; refine OD.ps ?_; refine OD.ps ?_; refine OD.ps ?_; refine OD.ps ?_; refine OD.ps ?_; refine OD.ps ?_; refine OD.pT ?_
          exact OD.nil ⟨rfl, true, .cons rfl (.cons rfl (.cons rfl (.cons rfl .nil))), hka, by omega, hfa, fun x => by cases x⟩
        have good : EdgeOK m e := ⟨by omega, by omega, by omega, by omega, c5⟩
        by_cases c6 : (0 : Int) < (i : Int)
        · obtain ⟨a, hia⟩ : ∃ a, l[i - 1]? = some a := ⟨l[i - 1], List.getElem?_eq_getElem (by omega)⟩
          obtain ⟨b', o', hy1, hy2, hy3⟩ := (he.keep hf hka).at hia
          have e1 : ((i - 1 : Nat) : Int) = (i : Int) - 1 := by omega
          rw [e1] at hy1
          obtain ⟨v, h2, n2, hcl, hk2, hn2, hf2, rfl⟩ := less_cl a e ha (n' + 1) hfa
          refine OD.ix idx_pair0 ?_; refine OD.l3 ?_; refine OD.bF ?_; refine OD.mv ?_; refine OD.ix idx_pair0 ?_; refine OD.l3 ?_; refine OD.mv ?_; refine OD.bF ?_; refine OD.pF ?_; refine OD.mv ?_; refine OD.ix idx_pair1 ?_; refine OD.l3 ?_; refine OD.bF ?_; refine OD.pF ?_; refine OD.mv ?_; refine OD.ix idx_pair1 ?_; refine OD.l3 ?_; refine OD.mv ?_; refine OD.bF ?_; refine OD.pF ?_; refine OD.mv ?_; refine OD.ix idx_pair0 ?_; refine OD.l3 ?_; refine OD.ix idx_pair1 ?_; refine OD.l3 ?_; refine OD.bF ?_; refine OD.pF ?_; refine OD.mv ?_; refine OD.mv ?_; refine OD.bT ?_; refine OD.mv ?_; refine OD.mv ?_; refine OD.mv ?_
          refine OD.val (by first | rfl | exact WantL.yes rfl rfl rfl) (by repeat' (first | exact trivial | assumption | exact BelV.ptr (by omega) | exact BelV.sl (by omega) | exact BelV.fn1 (by omega) | exact BelV.fn2 (by omega) (by omega) | exact hbs _ (by omega) | exact rfl | refine And.intro (Exists.intro _ (And.intro rfl ?_)) ?_)) (D.sub rfl rfl rfl (by omega)) rfl rfl ?_
          have hb' : b' < n' + 1 := hy3 _ (hbs' _ (Nat.le_refl _))
          refine OD.val (by first | rfl | exact WantL.yes rfl rfl rfl) (by repeat' (first | exact trivial | assumption | exact BelV.ptr (by omega) | exact BelV.sl (by omega) | exact BelV.fn1 (by omega) | exact BelV.fn2 (by omega) (by omega) | exact hbs _ (by omega) | exact rfl | refine And.intro (Exists.intro _ (And.intro rfl ?_)) ?_)) (D.index rfl rfl rfl hy1) rfl rfl ?_
          refine OD.val (by first | rfl | exact WantL.yes rfl rfl rfl) (by repeat' (first | exact trivial | assumption | exact BelV.ptr (by omega) | exact BelV.sl (by omega) | exact BelV.fn1 (by omega) | exact BelV.fn2 (by omega) (by omega) | exact hbs _ (by omega) | exact rfl | refine And.intro (Exists.intro _ (And.intro rfl ?_)) ?_)) (D.load rfl rfl hy2) rfl rfl ?_
          refine OD.val (by first | rfl | exact WantL.yes rfl rfl rfl) (by repeat' (first | exact trivial | assumption | exact BelV.ptr (by omega) | exact BelV.sl (by omega) | exact BelV.fn1 (by omega) | exact BelV.fn2 (by omega) (by omega) | exact hbs _ (by omega) | exact rfl | refine And.intro (Exists.intro _ (And.intro rfl ?_)) ?_)) (D.load rfl rfl (load2 (cells_of hga) rfl rfl)) rfl rfl ?_
          refine OD.call (by first | rfl | exact WantL.yes rfl rfl rfl) (by repeat' (first | exact trivial | assumption | exact BelV.ptr (by omega) | exact BelV.sl (by omega) | exact BelV.fn1 (by omega) | exact BelV.fn2 (by omega) (by omega) | exact hbs _ (by omega) | exact rfl | refine And.intro (Exists.intro _ (And.intro rfl ?_)) ?_)) (D.callF rfl rfl rfl fn32) hcl rfl rfl ?_
          by_cases c7 : a.1 < e.1 ∨ a.1 = e.1 ∧ a.2 < e.2
          · rw [decide_eq_true c7]
            refine OD.un ?_; refine OD.pT ?_; refine OD.pF ?_
            exact OD.nil ⟨rfl, false, .cons rfl (.cons rfl (.cons rfl (.cons rfl .nil))), hka.trans (by omega) hk2, by omega, hf2, fun _ => ⟨good, fun a' _ ha' => by rw [hia] at ha'; cases ha'; exact c7⟩⟩
          · rw [decide_eq_false c7]
            refine OD.un ?_; refine OD.pT ?_; refine OD.pF ?_
            exact OD.nil ⟨rfl, true, .cons rfl (.cons rfl (.cons rfl (.cons rfl .nil))), hka.trans (by omega) hk2, by omega, hf2, fun x => by cases x⟩
        · refine OD.ix idx_pair0 ?_; refine OD.l3 ?_; refine OD.bF ?_; refine OD.mv ?_; refine OD.ix idx_pair0 ?_; refine OD.l3 ?_; refine OD.mv ?_; refine OD.bF ?_; refine OD.pF ?_; refine OD.mv ?_; refine OD.ix idx_pair1 ?_; refine OD.l3 ?_; refine OD.bF ?_; refine OD.pF ?_; refine OD.mv ?_; refine OD.ix idx_pair1 ?_; refine OD.l3 ?_; refine OD.mv ?_; refine OD.bF ?_; refine OD.pF ?_; refine OD.mv ?_; refine OD.ix idx_pair0 ?_; refine OD.l3 ?_; refine OD.ix idx_pair1 ?_; refine OD.l3 ?_; refine OD.bF ?_; refine OD.pF ?_; refine OD.mv ?_; refine OD.mv ?_; refine OD.bF ?_; refine OD.mv ?_; refine OD.ps ?_; refine OD.ps ?_; refine OD.ps ?_; refine OD.ps ?_; refine OD.ps ?_; refine OD.ps ?_; refine OD.ps ?_; refine OD.ps ?_; refine OD.pF ?_; refine OD.pF ?_
          exact OD.nil ⟨rfl, false, .cons rfl (.cons rfl (.cons rfl (.cons rfl .nil))), hka, by omega, hfa, fun _ => ⟨good, fun a' hp _ => by omega⟩⟩
      · rintro x L' h2 n2 ⟨rfl, bad, hs2, hk2, hn2, hf2, hgood⟩
        refine WL.keep hs2 ?_
        cases bad with
        | true =>
          refine WL.condT rfl (WL.seq (WL.reg ?_))
          refine OL.asg ?_
          exact OL.nil (WL.ret ⟨fun id e => (by cases e), _, rfl, hk2, hn2, hf2, 150, rfl, fun e => (by cases e)⟩)
        | false =>
          obtain ⟨g1, g2⟩ := hgood rfl
          refine WL.condF rfl (WL.skip ?_)
          refine WL.reg ?_
          refine OL.mv ?_
          refine OL.val (by first | rfl | exact WantL.yes rfl rfl rfl) (D.addN rfl rfl rfl (by omega)) rfl rfl ?_
          refine OL.asg ?_
          refine OL.nil ⟨l.length - (i + 1), by omega, i + 1, by omega, rfl, .cons rfl (.cons rfl (.cons rfl .nil)), hk2, hn2, hf2, fun j e' hj hje => ?_, fun j a b hj hja hjb => ?_⟩
          · rcases Nat.lt_or_ge j i with h4 | h4
            · exact hok j e' h4 hje
            · have : j = i := by omega
              subst this
              rw [hie] at hje; cases hje
              exact g1
          · rcases Nat.lt_or_ge (j + 1) i with h4 | h4
            · exact hinc j a b h4 hja hjb
            · have : j + 1 = i := by omega
              subst this
              rw [hie] at hjb; cases hjb
              exact g2 a (by omega) (by simpa using hja)
    · refine OL.bF ?_
      refine OL.nil (WL.condF rfl (WL.exit ?_))
      refine WL.seq (WL.reg ?_)
      refine OL.asg ?_
      refine OL.nil (WL.ret ⟨fun id e => (by cases e), _, rfl, hk, hn, hf', 0, rfl, fun _ => ⟨⟨by omega, fun e he => ?_, fun j a b hja hjb => ?_⟩, by omega⟩⟩)
      · obtain ⟨j, hj⟩ := List.getElem?_of_mem he
        have := (List.getElem?_eq_some_iff.1 hj).1
        exact hok j e (by omega) hj
      · have := (List.getElem?_eq_some_iff.1 hjb).1
        exact hinc j a b (by omega) hja hjb
  obtain ⟨v, h', n', h1, h2, h3, h4, h5⟩ := key
  exact ⟨v, h', n', h1, h2, h3, h4, h5⟩

end Go.Sx

/- SzL: order.less. -/
namespace Go.Sx
open Go.Proofs
set_option maxRecDepth 100000
set_option maxHeartbeats 4000000

theorem fn248 : X.fn.get 248 = some Tryz.f248 := by kernel_rfl
theorem fn191 : X.fn.get 191 = some Tryz.f191 := by kernel_rfl
theorem fn127 : X.fn.get 127 = some Tryz.f127 := by kernel_rfl
theorem fn81 : X.fn.get 81 = some Tryz.f81 := by kernel_rfl

theorem nan_cl (x : Int) (h : T Blk) (n : Nat) : Cl X 248 [.int .i64 x] h n (.ret (.bool false) h n) := by
  have key : ∃ v h' n', Cl X 248 [.int .i64 x] h n (.ret v h' n') ∧ h' = h ∧ n' = n ∧ v = .bool false := by
    refine Cl.wl (memoX (by decide)) fn248 rfl rfl rfl rfl ?_
    refine WL.seq (WL.reg ?_)
    refine OL.asg ?_
    refine OL.nil ?_
    refine WL.seq (WL.reg ?_)
    refine OL.mv ?_; refine OL.mv ?_; refine OL.nF ?_; refine OL.asg ?_
    exact OL.nil (WL.ret ⟨fun id e => (by cases e), _, rfl, rfl, rfl, rfl⟩)
  obtain ⟨v, h', n', h1, rfl, rfl, rfl⟩ := key
  exact h1

theorem cmp_cl (x y : Int) (h : T Blk) (n : Nat) (hxy : x ≤ y) : Cl X 191 [.int .i64 x, .int .i64 y] h n (.ret (.int .i64 (if x < y then -1 else 0)) h n) := by
  have key : ∃ v h' n', Cl X 191 [.int .i64 x, .int .i64 y] h n (.ret v h' n') ∧ h' = h ∧ n' = n ∧ v = .int .i64 (if x < y then -1 else 0) := by
    refine Cl.wl (memoX (by decide)) fn191 rfl rfl rfl rfl ?_
    refine WL.seq (WL.reg ?_)
    refine OL.asg ?_
    refine OL.nil (WL.seq (WL.reg ?_))
    refine OL.mv ?_
    refine OL.call (by first | rfl | exact WantL.yes rfl rfl rfl) (D.callF rfl rfl rfl fn248) (nan_cl x h n) rfl rfl ?_
    refine OL.asg ?_
    refine OL.nil (WL.seq (WL.reg ?_))
    refine OL.mv ?_
    refine OL.call (by first | rfl | exact WantL.yes rfl rfl rfl) (D.callF rfl rfl rfl fn248) (nan_cl y h n) rfl rfl ?_
    refine OL.asg ?_
    refine OL.nil (WL.seq (WL.seq (WL.reg ?_)))
    refine OL.mv ?_
    refine OL.nil (WL.condF rfl (WL.skip ?_))
    refine WL.seq (WL.seq (WL.reg ?_))
    refine OL.mv ?_
    refine OL.nil (WL.condF rfl (WL.skip ?_))
    refine WL.seq (WL.seq (WL.reg ?_))
    by_cases h1 : x < y
    · refine OL.mv ?_; refine OL.mv ?_; refine OL.bT ?_
      refine OL.nil (WL.condT rfl (WL.seq (WL.reg ?_)))
      refine OL.asg ?_
      exact OL.nil (WL.ret ⟨fun id e => (by cases e), _, rfl, rfl, rfl, by rw [if_pos h1]; rfl⟩)
    · refine OL.mv ?_; refine OL.mv ?_; refine OL.bF ?_
      refine OL.nil (WL.condF rfl (WL.skip ?_))
      refine WL.seq (WL.seq (WL.reg ?_))
      refine OL.mv ?_; refine OL.mv ?_; refine OL.bF ?_
      refine OL.nil (WL.condF rfl (WL.skip ?_))
      refine WL.seq (WL.reg ?_)
      refine OL.asg ?_
      exact OL.nil (WL.ret ⟨fun id e => (by cases e), _, rfl, rfl, rfl, by rw [if_neg h1]; rfl⟩)
  obtain ⟨v, h', n', h1, rfl, rfl, rfl⟩ := key
  exact h1

theorem idx2a {b : Nat} : idxA X 25 (.slice (some ⟨b, 0, none⟩) 2 2) (.int .i64 0) = some (.pointer (some ⟨b, 0, none⟩)) := idx_slice (k := 0) ty25 ty3 (by decide)
theorem idx2b {b : Nat} : idxA X 25 (.slice (some ⟨b, 0, none⟩) 2 2) (.int .i64 ((0 + 1 : Nat) : Int)) = some (.pointer (some ⟨b, 1, none⟩)) := idx_slice (k := 1) ty25 ty3 (by decide)

/- Two pairs, compared: the first one is less. -/
theorem compare_cl (a b : Int × Int) (h : T Blk) (n b1 b2 : Nat) (h1 : h.get b1 = some (.cells [.int .i64 a.1, .int .i64 a.2])) (h2 : h.get b2 = some (.cells [.int .i64 b.1, .int .i64 b.2])) (hl : a.1 < b.1 ∨ a.1 = b.1 ∧ a.2 < b.2) :
    Cl X 127 [.slice (some ⟨b1, 0, none⟩) 2 2, .slice (some ⟨b2, 0, none⟩) 2 2] h n (.ret (.int .i64 (-1)) h n) := by
  have key : ∃ v h' n', Cl X 127 [.slice (some ⟨b1, 0, none⟩) 2 2, .slice (some ⟨b2, 0, none⟩) 2 2] h n (.ret v h' n') ∧ h' = h ∧ n' = n ∧ v = .int .i64 (-1) := by
    refine Cl.wl (memoX (by decide)) fn127 rfl rfl rfl rfl ?_
    refine WL.seq (WL.reg ?_)
    refine OL.asg ?_
    refine OL.nil (WL.seq (WL.seq (WL.reg ?_)))
    refine OL.mv ?_
    refine OL.val (by first | rfl | exact WantL.yes rfl rfl rfl) (D.builtinV rfl rfl rfl (lenA_slice ty25)) rfl rfl ?_
    refine OL.mv ?_
    refine OL.nil (WL.block (WL.unroll (WL.seq (WL.reg ?_))))
    refine OL.bT ?_
    refine OL.nil (WL.seq (WL.condT rfl (WL.skip ?_)))
    refine WL.seq (WL.block (WL.seq (WL.reg ?_)))
    refine OL.mv ?_; refine OL.ix idx2a ?_; refine OL.l3 ?_; refine OL.asg ?_; refine OL.asg ?_
    refine OL.nil (WL.seq (WL.seq (WL.reg ?_)))
    refine OL.mv ?_; refine OL.mv ?_
    refine OL.val (by first | rfl | exact WantL.yes rfl rfl rfl) (D.builtinV rfl rfl rfl (lenA_slice ty25)) rfl rfl ?_
    refine OL.bF ?_
    refine OL.nil (WL.condF rfl (WL.skip ?_))
    refine WL.seq (WL.reg ?_)
    refine OL.mv ?_; refine OL.mv ?_; refine OL.ix idx2a ?_; refine OL.l3 ?_; refine OL.asg ?_
    refine OL.nil (WL.seq (WL.reg ?_))
    refine OL.mv ?_; refine OL.mv ?_
    refine OL.call (by first | rfl | exact WantL.yes rfl rfl rfl) (D.callF rfl rfl rfl fn191) (cmp_cl a.1 b.1 h n (by omega)) rfl rfl ?_
    by_cases c1 : a.1 < b.1
    · rw [if_pos c1]
      refine OL.asg ?_
      refine OL.nil (WL.seq (WL.reg ?_))
      refine OL.mv ?_; refine OL.nT ?_
      refine OL.nil (WL.condT rfl (WL.seq (WL.reg ?_)))
      refine OL.mv ?_; refine OL.asg ?_
      exact OL.nil (WL.ret ⟨fun id e => (by cases e), _, rfl, rfl, rfl, rfl⟩)
    · rw [if_neg c1]
      refine OL.asg ?_
      refine OL.nil (WL.seq (WL.reg ?_))
      refine OL.mv ?_; refine OL.nF ?_
      refine OL.nil (WL.condF rfl (WL.skip ?_))
      refine WL.reg ?_
      refine OL.val (by first | rfl | exact WantL.yes rfl rfl rfl) (D.addN (a := 0) rfl rfl rfl (by omega)) rfl rfl ?_
      refine OL.mv ?_
      refine OL.nil (WL.unroll (WL.seq (WL.reg ?_)))
      refine OL.bT ?_
      refine OL.nil (WL.seq (WL.condT rfl (WL.skip ?_)))
      refine WL.seq (WL.block (WL.seq (WL.reg ?_)))
      refine OL.mv ?_; refine OL.ix idx2b ?_; refine OL.l3 ?_; refine OL.asg ?_; refine OL.asg ?_
      refine OL.nil (WL.seq (WL.seq (WL.reg ?_)))
      refine OL.mv ?_; refine OL.mv ?_
      refine OL.val (by first | rfl | exact WantL.yes rfl rfl rfl) (D.builtinV rfl rfl rfl (lenA_slice ty25)) rfl rfl ?_
      refine OL.bF ?_
      refine OL.nil (WL.condF rfl (WL.skip ?_))
      refine WL.seq (WL.reg ?_)
      refine OL.mv ?_; refine OL.mv ?_; refine OL.ix idx2b ?_; refine OL.l3 ?_; refine OL.asg ?_
      refine OL.nil (WL.seq (WL.reg ?_))
      refine OL.mv ?_; refine OL.mv ?_
      refine OL.call (by first | rfl | exact WantL.yes rfl rfl rfl) (D.callF rfl rfl rfl fn191) (cmp_cl a.2 b.2 h n (by omega)) rfl rfl ?_
      rw [if_pos (by omega : a.2 < b.2)]
      refine OL.asg ?_
      refine OL.nil (WL.seq (WL.reg ?_))
      refine OL.mv ?_; refine OL.nT ?_
      refine OL.nil (WL.condT rfl (WL.seq (WL.reg ?_)))
      refine OL.mv ?_; refine OL.asg ?_
      exact OL.nil (WL.ret ⟨fun id e => (by cases e), _, rfl, rfl, rfl, rfl⟩)
  obtain ⟨v, h', n', h1, rfl, rfl, rfl⟩ := key
  exact h1

theorem slice_pair {b : Nat} : sliceArrA X 35 (.pointer (some ⟨b, 0, none⟩)) none none none = some (.slice (some ⟨b, 0, none⟩) 2 2) := by
  simp only [sliceArrA, ty35, tPair, ty3, boundsA, boundsA.low]
  rfl

theorem oless_cl (a b : Int × Int) (h : T Blk) (n : Nat) (hf : Fresh h n) (hl : a.1 < b.1 ∨ a.1 = b.1 ∧ a.2 < b.2) :
    Gives 81 [.agg #[.int .i64 a.1, .int .i64 a.2], .agg #[.int .i64 b.1, .int .i64 b.2]] h n fun v _ _ => v = .int .i64 (-1) := by
  have key : ∃ v h' n', Cl X 81 [.agg #[.int .i64 a.1, .int .i64 a.2], .agg #[.int .i64 b.1, .int .i64 b.2]] h n (.ret v h' n') ∧
      h' = (h.upd (some (.cells [.int .i64 a.1, .int .i64 a.2])) n).upd (some (.cells [.int .i64 b.1, .int .i64 b.2])) (n + 1) ∧ n' = n + 2 ∧ v = .int .i64 (-1) := by
    refine Cl.wl (memoX (by decide)) fn81 rfl rfl rfl rfl ?_
    refine WL.seq (WL.reg ?_)
    refine OL.bx ?_; refine OL.bx ?_; refine OL.asg ?_
    refine OL.nil (WL.seq (WL.regD (by kernel_rfl) (by kernel_rfl) ?_))
    refine OD.val (by first | rfl | exact WantL.yes rfl rfl rfl) (by repeat' (first | exact trivial | assumption | exact BelV.ptr (by omega) | exact BelV.sl (by omega) | exact BelV.fn1 (by omega) | exact BelV.fn2 (by omega) (by omega) | exact hbs _ (by omega) | exact rfl | refine And.intro (Exists.intro _ (And.intro rfl ?_)) ?_)) (D.slice0 rfl rfl slice_pair) rfl rfl ?_
    refine OD.val (by first | rfl | exact WantL.yes rfl rfl rfl) (by repeat' (first | exact trivial | assumption | exact BelV.ptr (by omega) | exact BelV.sl (by omega) | exact BelV.fn1 (by omega) | exact BelV.fn2 (by omega) (by omega) | exact hbs _ (by omega) | exact rfl | refine And.intro (Exists.intro _ (And.intro rfl ?_)) ?_)) (D.slice0 rfl rfl slice_pair) rfl rfl ?_
    refine OD.call (by first | rfl | exact WantL.yes rfl rfl rfl) (by repeat' (first | exact trivial | assumption | exact BelV.ptr (by omega) | exact BelV.sl (by omega) | exact BelV.fn1 (by omega) | exact BelV.fn2 (by omega) (by omega) | exact hbs _ (by omega) | exact rfl | refine And.intro (Exists.intro _ (And.intro rfl ?_)) ?_)) (D.callF rfl rfl rfl fn127) (compare_cl a b _ _ n (n + 1) ((T.get_upd_ne _ _ (by omega)).trans (T.get_upd_same _ _ _)) (T.get_upd_same _ _ _) hl) rfl rfl ?_
    refine OD.asg ?_
    exact OD.nil (WL.ret ⟨fun id e => (by cases e), _, rfl, rfl, rfl, rfl⟩)
  obtain ⟨v, h', n', h1, rfl, rfl, h2⟩ := key
  exact ⟨v, _, _, h1, ((Keep.refl n h).upd (Nat.le_refl n) _).upd (Nat.le_succ n) _, by omega, (hf.upd _).upd _, h2⟩

end Go.Sx

/- SzM: rows of numbers in the heap; graphOf. -/
namespace Go.Sx
open Go.Proofs
set_option maxRecDepth 100000
set_option maxHeartbeats 4000000

def ints (xs : List Int) : List Value := xs.map (Value.int .i64)
def slV (b : Nat) (xs : List Int) : Value := .slice (some ⟨b, 0, none⟩) xs.length (UNK * 1 + xs.length)

theorem ints_len (xs : List Int) : (ints xs).length = xs.length := by simp [ints]
theorem ints_at {xs : List Int} {i : Nat} {x : Int} (h : xs[i]? = some x) : (ints xs)[i]? = some (.int .i64 x) := by simp [ints, h]
theorem ints_cell : ∀ xs : List Int, allCells (ints xs) = true
  | [] => rfl
  | x :: xs => by simp [ints, allCells, isCell]; exact ints_cell xs

theorem app1 {h : T Blk} {nb : Nat} {y : Int} (hb : h.get nb = some (.cells [.int .i64 y])) : newCells X h tInt (some 25) (.slice (some ⟨nb, 0, none⟩) 1 1) = some (1, [.int .i64 y]) := by
  simp only [newCells, ty25, tSl, rowA, cells_of hb]
  rfl

theorem append_nil {h : T Blk} {n nb : Nat} {y : Int} (hb : h.get nb = some (.cells [.int .i64 y])) :
    appendA X 25 (some 25) (.slice none 0 0) (.slice (some ⟨nb, 0, none⟩) 1 1) h n = some (slV n [y], h.upd (some (.cells (ints [y]))) n, n + 1) := by
  simp only [appendA, ty25, tSl, ty3, app1 hb]
  rfl

theorem append_more {h : T Blk} {n nb b : Nat} {y : Int} {xs : List Int} (hb : h.get nb = some (.cells [.int .i64 y])) (hx : h.get b = some (.cells (ints xs))) (hl : xs.length ≤ 100000) :
    appendA X 25 (some 25) (slV b xs) (.slice (some ⟨nb, 0, none⟩) 1 1) h n = some (slV n (xs ++ [y]), (h.upd none b).upd (some (.cells (ints (xs ++ [y])))) n, n + 1) := by
  have hu : xs.length < UNK := by unfold UNK; omega
  have e1 : lowCap (UNK * 1 + xs.length) = xs.length := lowCap_u hu
  have e2 : (UNK * 1 + xs.length) / UNK = 1 := divCap_u hu
  have e3 : unkCap (UNK * 1 + xs.length) = true := by unfold unkCap; rw [bleT]; omega
  have e4 : Nat.ble xs.length 100000 = true := by rw [bleT]; exact hl
  have e5 : Nat.ble xs.length xs.length = true := by rw [bleT]; exact Nat.le_refl _
  have e6 : Nat.ble (xs.length + 1) xs.length = false := by
    cases hb : Nat.ble (xs.length + 1) xs.length with
    | false => rfl
    | true => rw [bleT] at hb; omega
  have e7 : rowA h tInt.size xs.length (slV b xs) = some (ints xs) := by
    have hs : seg (ints xs) 0 (xs.length * 1) = some (ints xs) := by
      rw [seg, dropL_eq, List.drop_zero]
      have : ∀ l : List Value, takeL l.length l = some l := by
        intro l
        induction l with
        | nil => rfl
        | cons a l ih => simp only [List.length_cons, takeL, ih]
      rw [Nat.mul_one, ← ints_len xs]
      exact this _
    simp only [slV, rowA, cells_of hx]
    exact hs
  have e8 : ints xs ++ [.int .i64 y] = ints (xs ++ [y]) := by simp [ints]
  unfold slV at e7 ⊢
  simp only [appendA, ty25, tSl, ty3, app1 hb, e1, e4, e5, e6, e2, e3, e7, hx, e8]
  simp only [tInt, List.length_append, List.length_singleton]
  rfl

theorem appendV {h h' : T Blk} {n n' : Nat} {s x v : Value} (ha : appendA X 25 (some 25) s x h n = some (v, h', n')) : builtinA X .append [25, 25] [s, x] h n = .val v h' n' := by
  simp only [builtinA, nth]
  show (match appendA X 25 (some 25) s x h n with | some (v, h', n') => OO.val v h' n' | none => .no "append") = _
  rw [ha]

theorem buildS1 {y : Int} : buildSliceA X 25 1 [(0, .int .i64 y)] = some [.int .i64 y] := by kernel_rfl
theorem build95 {m : Int} {a d : Option Addr} {b c e f : Nat} : buildA X 95 [(0, .int .i64 m), (1, .slice a b c), (2, .slice d e f)] = some (.agg #[.int .i64 m, .slice a b c, .slice d e f]) := by kernel_rfl
theorem f95_0 : fieldOff X 95 0 = some 0 := by kernel_rfl
theorem f95_1 : fieldOff X 95 1 = some 1 := by kernel_rfl
theorem f95_2 : fieldOff X 95 2 = some 2 := by kernel_rfl
theorem ty87 : X.ty.get 87 = some { size := 1, bytes := 8, d := .pointer 95, zero := [.pointer none], zok := true } := by kernel_rfl

theorem repL_one {v : Value} : ∀ n : Nat, repL [v] n = List.replicate n v
  | 0 => rfl
  | n + 1 => by rw [repL, repL_one n]; rfl

theorem mkS {ty e : TypeId} {j : TyI} {z : Value} (hty : X.ty.get ty = some (tSl e)) (he : X.ty.get e = some j) (hz : j.zero = [z]) (hs : j.size = 1) (hzk : j.zok = true) (hb : Nat.ble j.bytes 4096 = true) {M n : Nat} (hM : M ≤ 100000) :
    makeSliceA X ty (.int .i64 (M : Int)) (.int .i64 (M : Int)) n = some (.slice (some ⟨n, 0, none⟩) M M, List.replicate M z) := by
  have h1 : natV (.int .i64 (M : Int)) 100000 = some M := by
    show natV (.int .i64 (Int.ofNat M)) 100000 = some M
    simp only [natV, bif_eq_ite, bleT, if_pos hM]
  have h2 : natV (.int .i64 (M : Int)) M = some M := by
    show natV (.int .i64 (Int.ofNat M)) M = some M
    simp only [natV, bif_eq_ite, bleT, if_pos (Nat.le_refl M)]
  simp only [makeSliceA, hty, tSl, he, h1, h2, hz, hs, hzk, hb, repL_one]
  rfl

theorem ble_refl (n : Nat) : Nat.ble n n = true := by rw [bleT]; exact Nat.le_refl _

/- Rows: of each place a list of numbers. -/
structure Rows (lo : Nat) (h : T Blk) (ncs : List Value) (f : Nat → List Int) : Prop where
  at_ : ∀ a v, ncs[a]? = some v → (f a = [] ∧ v = .slice none 0 0) ∨ (f a ≠ [] ∧ ∃ b, v = slV b (f a) ∧ lo ≤ b ∧ h.get b = some (.cells (ints (f a))))
  inj : ∀ a a' b, a ≠ a' → ncs[a]? = some (slV b (f a)) → ncs[a']? = some (slV b (f a')) → False

theorem Rows.keep {lo n : Nat} {h h' : T Blk} {ncs : List Value} {f : Nat → List Int} (r : Rows lo h ncs f) (hf : Fresh h n) (hk : Keep n h h') : Rows lo h' ncs f := by
  refine ⟨fun a v hv => ?_, r.inj⟩
  rcases r.at_ a v hv with h1 | ⟨h1, b, h2, h3, h4⟩
  · exact .inl h1
  · exact .inr ⟨h1, b, h2, h3, by rw [hk b (hf.lt h4)]; exact h4⟩

structure Graph (lo : Nat) (h : T Blk) (p : Value) (M : Nat) (s : Value) (f : Nat → List Int) : Prop where
  ex : ∃ g N ncs, p = .pointer (some ⟨g, 0, none⟩) ∧ lo ≤ g ∧ lo ≤ N ∧ g ≠ N ∧ g < lo + 2 ∧ N < lo + 2 ∧ h.get g = some (.cells [.int .i64 (M : Int), .slice (some ⟨N, 0, none⟩) M M, s]) ∧ h.get N = some (.cells ncs) ∧ ncs.length = M ∧ Rows (lo + 2) h ncs f

theorem Graph.keep {lo n : Nat} {h h' : T Blk} {p : Value} {M : Nat} {s : Value} {f : Nat → List Int} (r : Graph lo h p M s f) (hf : Fresh h n) (hk : Keep n h h') : Graph lo h' p M s f := by
  obtain ⟨g, N, ncs, h1, h2, h3, h4, h5, h6, h7, h8, h9, h10⟩ := r.ex
  exact ⟨g, N, ncs, h1, h2, h3, h4, h5, h6, by rw [hk g (hf.lt h7)]; exact h7, by rw [hk N (hf.lt h8)]; exact h8, h9, h10.keep hf hk⟩

/- Who comes next. -/
def succ (l : List (Int × Int)) (a : Nat) : List Int := (l.filter (fun e => decide (e.1 = (a : Int)))).map (·.2)

theorem succ_take {l : List (Int × Int)} {i : Nat} {e : Int × Int} (hi : l[i]? = some e) (a : Nat) : succ (l.take (i + 1)) a = if e.1 = (a : Int) then succ (l.take i) a ++ [e.2] else succ (l.take i) a := by
  have : l.take (i + 1) = l.take i ++ [e] := by rw [List.take_add_one, hi]; rfl
  unfold succ
  rw [this, List.filter_append, List.map_append]
  by_cases h : e.1 = (a : Int)
  · rw [if_pos h]; simp [h]
  · rw [if_neg h]; simp [h]

/- One more in a row. -/
theorem Rows.add {lo n nb a : Nat} {y : Int} {h : T Blk} {ncs : List Value} {f g : Nat → List Int} (r : Rows lo h ncs f) (hf : Fresh h n) (hlo : lo ≤ n) (hnb : h.get nb = some (.cells [.int .i64 y])) (hnbr : ∀ k b, ncs[k]? = some (slV b (f k)) → b ≠ nb)
    (hl : ∀ k, (f k).length ≤ 100000) (hg : ∀ k, g k = if k = a then f a ++ [y] else f k) (ha : a < ncs.length) :
    ∃ v w h', ncs[a]? = some v ∧ appendA X 25 (some 25) v (.slice (some ⟨nb, 0, none⟩) 1 1) h n = some (w, h', n + 1) ∧ isCell w = true ∧ BelV (n + 1) w ∧ BelV n v ∧ Fresh h' (n + 1) ∧ (∀ b, b < n → (∀ c, v = slV c (f a) → b ≠ c) → h'.get b = h.get b) ∧ (∀ c, v = slV c (f a) → lo ≤ c ∧ c < n) ∧ Rows lo h' (ncs.set a w) g := by
  obtain ⟨v, hv⟩ : ∃ v, ncs[a]? = some v := ⟨_, List.getElem?_eq_getElem ha⟩
  have slen : ∀ {b : Nat} {xs : List Int}, slV b xs = .slice none 0 0 → False := fun h => by simp [slV] at h
  have sinj : ∀ {b c : Nat} {xs ys : List Int}, slV b xs = slV c ys → b = c := fun h => by
    simp only [slV, Value.slice.injEq, Option.some.injEq, Addr.mk.injEq] at h
    exact h.1.1
  have rest : ∀ (h' : T Blk), (∀ b, b < n → (∀ c, v = slV c (f a) → b ≠ c) → h'.get b = h.get b) → h'.get n = some (.cells (ints (f a ++ [y]))) → Rows lo h' (ncs.set a (slV n (f a ++ [y]))) g := by
    intro h' hk hn
    refine ⟨fun k u hu => ?_, fun k k' b hne hu hu' => ?_⟩
    · rw [List.getElem?_set] at hu
      rw [hg]
      split at hu
      · rename_i e
        subst e
        cases hu
        rw [if_pos rfl]
        exact .inr ⟨by simp, n, rfl, hlo, hn⟩
      · rename_i e
        rw [if_neg (Ne.symm e)]
        rcases r.at_ k u hu with h1 | ⟨h1, b, rfl, h3, h4⟩
        · exact .inl h1
        · refine .inr ⟨h1, b, rfl, h3, ?_⟩
          rw [hk b (hf.lt h4) fun c hc hbc => ?_]
          · exact h4
          · subst hbc
            exact r.inj k a b (Ne.symm e) hu (by rw [hv, hc])
    · rw [List.getElem?_set] at hu hu'
      have old : ∀ j, j ≠ a → ncs[j]? = some (slV b (g j)) → ncs[j]? = some (slV b (f j)) ∧ b < n := by
        intro j hj hx
        rw [hg, if_neg hj] at hx
        refine ⟨hx, ?_⟩
        rcases r.at_ j _ hx with ⟨_, h1⟩ | ⟨_, b', h1, _, h2⟩
        · exact (slen h1).elim
        · have := sinj h1
          subst this
          exact hf.lt h2
      split at hu
      · rename_i e
        subst e
        have hbn := sinj (Option.some.inj hu)
        rw [if_neg hne] at hu'
        have := (old k' (Ne.symm hne) hu').2
        omega
      · rename_i e
        obtain ⟨q1, q2⟩ := old k (Ne.symm e) hu
        split at hu'
        · rename_i e'
          subst e'
          have hbn := sinj (Option.some.inj hu')
          omega
        · rename_i e'
          obtain ⟨q3, _⟩ := old k' (Ne.symm e') hu'
          exact r.inj k k' b hne q1 q3
  rcases r.at_ a v hv with ⟨h1, rfl⟩ | ⟨h1, b, rfl, h3, h4⟩
  · refine ⟨_, slV n [y], _, hv, append_nil hnb, rfl, BelV.sl (by omega), trivial, hf.upd _, fun b hb _ => T.get_upd_ne _ _ (by omega), fun c hc => (slen hc.symm).elim, ?_⟩
    have := rest (h.upd (some (.cells (ints [y]))) n) (fun b hb _ => T.get_upd_ne _ _ (by omega)) (by rw [T.get_upd_same, h1]; rfl)
    rwa [h1, List.nil_append] at this
  · have hbn := hf.lt h4
    have hbb : b ≠ nb := hnbr a b hv
    refine ⟨_, slV n (f a ++ [y]), _, hv, append_more hnb h4 (hl a), rfl, BelV.sl (by omega), BelV.sl hbn, (hf.set hbn none).upd _, ?_, ?_, rest _ ?_ (T.get_upd_same _ _ _)⟩
    · intro c hc hcb
      rw [T.get_upd_ne _ _ (by omega), T.get_upd_ne _ _ (hcb b rfl)]
    · intro c hc
      have := sinj hc
      omega
    · intro c hc hcb
      rw [T.get_upd_ne _ _ (by omega), T.get_upd_ne _ _ (hcb b rfl)]

end Go.Sx

/- SzN: graphOf. -/
namespace Go.Sx
open Go.Proofs
set_option maxRecDepth 100000
set_option maxHeartbeats 1000000

theorem fn40 : X.fn.get 40 = some Tryz.f40 := by kernel_rfl

theorem idx1 {ty e : TypeId} {j : TyI} (hty : X.ty.get ty = some (tSl e)) (he : X.ty.get e = some j) (hj : j.size = 1) {b len cap k : Nat} (hk : k < len) : idxA X ty (.slice (some ⟨b, 0, none⟩) len cap) (.int .i64 (k : Int)) = some (.pointer (some ⟨b, k, none⟩)) := by
  rw [idx_slice hty he hk, hj, Nat.mul_one, Nat.zero_add]

theorem min_at {ats : List TypeId} {h : T Blk} {n : Nat} {a b : Int} (ha : 0 ≤ a) (hb : 0 ≤ b) : ∃ r : Int, 0 ≤ r ∧ builtinA X .min ats [.int .i64 a, .int .i64 b] h n = .val (.int .i64 r) h n := by
  by_cases hx : b < a
  · refine ⟨b, hb, ?_⟩
    show val? h n "min" (some (Value.int .i64 (bif decide (b < a) then b else a))) = _
    rw [decide_eq_true hx]; rfl
  · refine ⟨a, ha, ?_⟩
    show val? h n "min" (some (Value.int .i64 (bif decide (b < a) then b else a))) = _
    rw [decide_eq_false hx]; rfl

theorem max_at {ats : List TypeId} {h : T Blk} {n : Nat} {a b : Int} : builtinA X .max ats [.int .i64 a, .int .i64 b] h n = .val (.int .i64 (if a < b then b else a)) h n := by
  show val? h n "max" (some (Value.int .i64 (bif decide (b > a) then b else a))) = _
  by_cases hx : a < b
  · rw [decide_eq_true (show b > a from hx), if_pos hx]; rfl
  · rw [decide_eq_false (show ¬ b > a from hx), if_neg hx]; rfl

theorem succ_len (l : List (Int × Int)) (a : Nat) : (succ l a).length ≤ l.length := by
  unfold succ
  rw [List.length_map]
  exact List.length_filter_le _ _

theorem Rows.lo {lo b0 : Nat} {h : T Blk} {ncs : List Value} {f : Nat → List Int} (r : Rows lo h ncs f) (hb : b0 < lo) (k : Option Blk) : Rows lo (h.upd k b0) ncs f := by
  refine ⟨fun a v hv => ?_, r.inj⟩
  rcases r.at_ a v hv with h1 | ⟨h1, b, h2, h3, h4⟩
  · exact .inl h1
  · exact .inr ⟨h1, b, h2, h3, by rw [T.get_upd_ne _ _ (by omega)]; exact h4⟩

theorem WL.regDf {E : Env} {many : Nat} {L : LT} {h : T Blk} {n : Nat} {Q : Ex → LT → T Blk → Nat → Prop} {id : Nat} {ops : Array Oper} (fl : List (Nat × Nat)) (hR : regOK ops.toList = true) (hF : regFl ops.toList = fl)
    (hw : ∀ t, Has t L → OpsDW E many ops.toList ops.toList [] t h n (fun log t' h' n' => floatOK E ops.toList log fl = true ∧ ∃ L', Has t' L' ∧ Q .normal L' h' n')) : WL E many (.region id ops true) L h n Q := by
  subst hF
  exact fun t ht => WP.regD hR (hw t ht)

section
variable {E : Env} {many : Nat} {all l : List Oper} {acc : List Ent} {L : LT} {h h' : T Blk} {n n' : Nat} {t : T Value} {o : Oper} {Q : List Ent → T Value → T Blk → Nat → Prop}
theorem OT.val' {v : Value} {d : Tmp} (ht : Has t L) (hw : WantL all L o.guard true) (hb : BelT n L (opTmps o)) (ho : Does E L h n o (.val v h' n')) (hd : o.dst = some d) (hm : Nat.blt d many = true)
    (hk : Has (t.upd (some v) d) ((d, v) :: L) → OpsDW E many all l (acc ++ [⟨true, t, v, h, h', n, n'⟩]) (t.upd (some v) d) h' n' Q) : OpsDW E many all (o :: l) acc t h n Q := OT.val ht hw hb ho hd hm (hk (ht.put d v))
end

theorem reads_same {E : Env} {o : Oper} {x : Ent} {h : T Blk} (hd : x.did = true) (ho : opA E x.t h 0 o = .val x.v h 0) (hs : sameV 8 x.v x.v = true) : readsSame E o x h = true := by
  unfold readsSame
  rw [hd, ho]
  exact hs

theorem float2 {E : Env} {all : List Oper} {log : List Ent} {r1 l1 r2 l2 : Nat} {o1 o2 : Oper} {x1 y1 x2 y2 : Ent} (a1 : nth all r1 = some o1) (a2 : nth log r1 = some x1) (a3 : nth log l1 = some y1) (a4 : Nat.blt r1 l1 = true) (a5 : readsSame E o1 x1 y1.h1 = true)
    (b1 : nth all r2 = some o2) (b2 : nth log r2 = some x2) (b3 : nth log l2 = some y2) (b4 : Nat.blt r2 l2 = true) (b5 : readsSame E o2 x2 y2.h1 = true) : floatOK E all log [(r1, l1), (r2, l2)] = true := by
  simp only [floatOK, a1, a2, a3, a4, b1, b2, b3, b4, cond_true, a5, b5, Bool.and_self]

theorem sameInt (a : Int) : sameV 8 (.int .i64 a) (.int .i64 a) = true := by
  show (kindEq .i64 .i64 && decide (a = a)) = true
  rw [decide_eq_true rfl]; rfl

theorem sameSl (b o l c : Nat) : sameV 8 (.slice (some ⟨b, o, none⟩) l c) (.slice (some ⟨b, o, none⟩) l c) = true := by
  show (Nat.beq b b && Nat.beq o o && Nat.beq l l && Nat.beq c c) = true
  simp [Nat.beq_refl]

theorem nth_keep {acc : List Ent} {k : Nat} {x e : Ent} (h : nth acc k = some x) : nth (acc ++ [e]) k = some x := by
  rw [nth_eq] at h ⊢
  rw [List.getElem?_append_left (List.getElem?_eq_some_iff.1 h).1]
  exact h

theorem OT.gen {E : Env} {many : Nat} {all l : List Oper} {acc0 : List Ent} {e : Ent} {h : T Blk} {n : Nat} {t : T Value} {Q : List Ent → T Value → T Blk → Nat → Prop} (k : Nat) (hl : acc0.length = k)
    (hk : ∀ acc : List Ent, acc.length = k + 1 → nth acc k = some e → (∀ j x, nth acc0 j = some x → nth acc j = some x) → OpsDW E many all l acc t h n Q) : OpsDW E many all l (acc0 ++ [e]) t h n Q := by
  refine hk _ (by simp [hl]) ?_ fun j x hx => nth_keep hx
  rw [nth_eq, List.getElem?_append_right (by omega), hl]
  simp

theorem graphOf_cl (M : Nat) (s : Value) (l : List (Int × Int)) (h : T Blk) (n : Nat) (hf : Fresh h n) (he : Edges h s l) (hbs : ∀ k, n ≤ k → BelV k s) (hlen : l.length ≤ 400) (hM : M ≤ 400) (hg : GoodG (M : Int) l) :
    Gives 40 [.int .i64 (M : Int), s] h n fun v h' _ => ∃ p, v = .tuple #[p, .int .i64 0] ∧ Graph n h' p M s (succ l) := by
  have he0 := he
  obtain ⟨eb, c, rfl, _⟩ := he.ex
  have key : ∃ v h' n', Cl X 40 [.int .i64 (M : Int), .slice eb l.length c] h n (.ret v h' n') ∧ Keep n h h' ∧ n ≤ n' ∧ Fresh h' n' ∧ ∃ p, v = .tuple #[p, .int .i64 0] ∧ Graph n h' p M (.slice eb l.length c) (succ l) := by
    refine Cl.wl (memoX (by decide)) fn40 rfl rfl rfl rfl ?_
    refine WL.seq (WL.reg ?_)
    refine OL.asg ?_; refine OL.asg ?_
    refine OL.nil (WL.seq (WL.seq (WL.reg ?_)))
    refine OL.mv ?_; refine OL.bF ?_; refine OL.mv ?_; refine OL.mv ?_; refine OL.bF ?_; refine OL.pF ?_
    refine OL.nil (WL.condF rfl (WL.skip ?_))
    refine WL.seq (WL.reg ?_)
    refine OL.mv ?_; refine OL.mv ?_
    refine OL.val (by first | rfl | exact WantL.yes rfl rfl rfl) (D.makeSlice rfl rfl rfl (mkS ty93 ty25 rfl rfl rfl rfl (by omega))) rfl rfl ?_
    refine OL.mv ?_
    refine OL.val (by first | rfl | exact WantL.yes rfl rfl rfl) (D.build rfl rfl build95) rfl rfl ?_
    refine OL.bx ?_; refine OL.asg ?_
    refine OL.nil (WL.seq (WL.seq (WL.reg ?_)))
    refine OL.mv ?_
    refine OL.val (by first | rfl | exact WantL.yes rfl rfl rfl) (D.builtinV rfl rfl rfl he0.len) rfl rfl ?_
    refine OL.mv ?_
    refine OL.nil (WL.block ?_)
    refine WL.loop (k := l.length) (fun k L h' n' => ∃ (i : Nat) (ncs : List Value), i ≤ l.length ∧ k = l.length - i ∧ Sub [(24, .int .i64 (i : Int)), (23, .int .i64 (l.length : Int)), (22, .slice eb l.length c), (6, .pointer (some ⟨n + 1, 0, none⟩)), (1, .slice eb l.length c), (0, .int .i64 (M : Int))] L ∧
      Keep n h h' ∧ n + 2 ≤ n' ∧ Fresh h' n' ∧ h'.get (n + 1) = some (.cells [.int .i64 (M : Int), .slice (some ⟨n, 0, none⟩) M M, .slice eb l.length c]) ∧ h'.get n = some (.cells ncs) ∧ ncs.length = M ∧ Rows (n + 2) h' ncs (succ (l.take i))) ?_
      ⟨0, List.replicate M (.slice none 0 0), Nat.zero_le _, rfl, .cons rfl (.cons rfl (.cons rfl (.cons rfl (.cons rfl (.cons rfl .nil))))), ((Keep.refl n h).upd (Nat.le_refl n) _).upd (Nat.le_succ n) _, Nat.le_refl _, (hf.upd _).upd _, T.get_upd_same _ _ _,
        (T.get_upd_ne _ _ (by omega)).trans (T.get_upd_same _ _ _), by simp, ⟨fun a v hv => .inl ⟨by simp [succ], ?_⟩, fun a a' b _ hu _ => ?_⟩⟩
    · rintro k L h' n' ⟨i, ncs, hi, rfl, hs, hk, hn, hf', hg1, hg2, hncs, hrows⟩
      refine WL.keep hs ?_
      refine WL.seq (WL.reg ?_)
      by_cases h3 : (i : Int) < (l.length : Int)
      · refine OL.bT ?_
        refine OL.nil (WL.seq (WL.condT rfl (WL.skip ?_)))
        obtain ⟨⟨e1, e2⟩, hie⟩ : ∃ e, l[i]? = some e := ⟨l[i], List.getElem?_eq_getElem (by omega)⟩
        obtain ⟨g1, g2, g3, g4, g5⟩ := hg.ok (e1, e2) (List.mem_of_getElem? hie)
        simp only at g1 g2 g3 g4 g5
        obtain ⟨a, rfl⟩ : ∃ a : Nat, e1 = (a : Int) := ⟨e1.toNat, by omega⟩
        obtain ⟨y, rfl⟩ : ∃ y : Nat, e2 = (y : Int) := ⟨e2.toNat, by omega⟩
        have he' := he0.keep hf hk
        obtain ⟨b, o, hx1, hx2, _⟩ := he'.at hie
        refine WL.seq (WL.block (WL.seq (WL.reg ?_)))
        refine OL.mv ?_
        refine OL.val (by first | rfl | exact WantL.yes rfl rfl rfl) (D.index rfl rfl rfl hx1) rfl rfl ?_
        refine OL.val (by first | rfl | exact WantL.yes rfl rfl rfl) (D.load rfl rfl hx2) rfl rfl ?_
        refine OL.al ty35 ?_; refine OL.asg ?_
        refine OL.skip rfl (D.store rfl rfl rfl (store2 (T.get_upd_same _ _ _) rfl rfl)) rfl ?_
        refine OL.nil ?_
        have hfa := (hf'.upd (some (.cells tPair.zero))).set (Nat.lt_succ_self n') (some (.cells [.int .i64 (a : Int), .int .i64 (y : Int)]))
        have hka' := ((Keep.refl n' h').upd (Nat.le_refl n') (some (.cells tPair.zero))).upd (Nat.le_refl n') (some (.cells [.int .i64 (a : Int), .int .i64 (y : Int)]))
        have hga : (T.upd (some (Blk.cells [.int .i64 (a : Int), .int .i64 (y : Int)])) (h'.upd (some (.cells tPair.zero)) n') n').get n' = some (.cells [.int .i64 (a : Int), .int .i64 (y : Int)]) := T.get_upd_same _ _ _
        generalize T.upd (some (Blk.cells [.int .i64 (a : Int), .int .i64 (y : Int)])) (h'.upd (some (.cells tPair.zero)) n') n' = ha at hfa hka' hga ⊢
        have hbs' : ∀ k, n' + 1 ≤ k → BelV k (.slice eb l.length c) := fun k hk => hbs k (by omega)
        obtain ⟨r1, hr1, hmin⟩ := min_at (ats := [3, 3]) (h := ha) (n := n' + 1) (show (0 : Int) ≤ (a : Int) by omega) (show (0 : Int) ≤ (y : Int) by omega)
        refine WL.seq (WL.reg ?_)
        refine OL.ix idx_pair0 ?_; refine OL.l3 ?_; refine OL.ix idx_pair1 ?_; refine OL.l3 ?_
        refine OL.val (by first | rfl | exact WantL.yes rfl rfl rfl) (D.builtinV rfl rfl rfl hmin) rfl rfl ?_
        refine OL.bT ?_; refine OL.mv ?_; refine OL.ix idx_pair0 ?_; refine OL.l3 ?_; refine OL.ix idx_pair1 ?_; refine OL.l3 ?_
        refine OL.val (by first | rfl | exact WantL.yes rfl rfl rfl) (D.builtinV rfl rfl rfl max_at) rfl rfl ?_
        refine OL.mv ?_; refine OL.bT ?_; refine OL.pT ?_; refine OL.asg ?_
        refine OL.nil (WL.seq (WL.seq (WL.mono (Q := fun x L' h2 n2 => x = .normal ∧ Sub [(66, .bool false), (24, .int .i64 (i : Int)), (23, .int .i64 (l.length : Int)), (22, .slice eb l.length c), (8, .pointer (some ⟨n', 0, none⟩)), (6, .pointer (some ⟨n + 1, 0, none⟩)), (1, .slice eb l.length c), (0, .int .i64 (M : Int))] L' ∧
          Keep (n' + 1) ha h2 ∧ n' + 1 ≤ n2 ∧ Fresh h2 n2) (WL.regD (by kernel_rfl) (by kernel_rfl) ?_) ?_)))
        · by_cases c6 : (0 : Int) < (i : Int)
          · obtain ⟨⟨p1, p2⟩, hip⟩ : ∃ a, l[i - 1]? = some a := ⟨l[i - 1], List.getElem?_eq_getElem (by omega)⟩
            have hka : Keep n h ha := fun q hq => (hka' q (by omega)).trans (hk q hq)
            obtain ⟨b', o', hy1, hy2, hy3⟩ := (he0.keep hf hka).at hip
            have e1 : ((i - 1 : Nat) : Int) = (i : Int) - 1 := by omega
            rw [e1] at hy1
            have hb' : b' < n' + 1 := hy3 _ (hbs' _ (Nat.le_refl _))
            have hless := hg.inc (i - 1) (p1, p2) ((a : Int), (y : Int)) hip (by rw [show i - 1 + 1 = i by omega]; exact hie)
            obtain ⟨v, h2, n2, hcl, hk2, hn2, hf2, rfl⟩ := oless_cl (p1, p2) ((a : Int), (y : Int)) ha (n' + 1) hfa hless
            refine OD.mv ?_; refine OD.un ?_; refine OD.mv ?_; refine OD.ix idx_pair0 ?_; refine OD.l3 ?_; refine OD.ix idx_pair1 ?_; refine OD.l3 ?_; refine OD.bF ?_; refine OD.pF ?_; refine OD.mv ?_; refine OD.mv ?_; refine OD.bT ?_; refine OD.mv ?_; refine OD.mv ?_; refine OD.mv ?_
            refine OD.val (by first | rfl | exact WantL.yes rfl rfl rfl) (by repeat' (first | exact trivial | assumption | exact BelV.ptr (by omega) | exact BelV.sl (by omega) | exact BelV.fn1 (by omega) | exact BelV.fn2 (by omega) (by omega) | exact hbs _ (by omega) | exact rfl | refine And.intro (Exists.intro _ (And.intro rfl ?_)) ?_)) (D.sub rfl rfl rfl (by omega)) rfl rfl ?_
            refine OD.val (by first | rfl | exact WantL.yes rfl rfl rfl) (by repeat' (first | exact trivial | assumption | exact BelV.ptr (by omega) | exact BelV.sl (by omega) | exact BelV.fn1 (by omega) | exact BelV.fn2 (by omega) (by omega) | exact hbs _ (by omega) | exact rfl | refine And.intro (Exists.intro _ (And.intro rfl ?_)) ?_)) (D.index rfl rfl rfl hy1) rfl rfl ?_
            refine OD.val (by first | rfl | exact WantL.yes rfl rfl rfl) (by repeat' (first | exact trivial | assumption | exact BelV.ptr (by omega) | exact BelV.sl (by omega) | exact BelV.fn1 (by omega) | exact BelV.fn2 (by omega) (by omega) | exact hbs _ (by omega) | exact rfl | refine And.intro (Exists.intro _ (And.intro rfl ?_)) ?_)) (D.load rfl rfl hy2) rfl rfl ?_
            refine OD.val (by first | rfl | exact WantL.yes rfl rfl rfl) (by repeat' (first | exact trivial | assumption | exact BelV.ptr (by omega) | exact BelV.sl (by omega) | exact BelV.fn1 (by omega) | exact BelV.fn2 (by omega) (by omega) | exact hbs _ (by omega) | exact rfl | refine And.intro (Exists.intro _ (And.intro rfl ?_)) ?_)) (D.load rfl rfl (load2 (cells_of hga) rfl rfl)) rfl rfl ?_
            refine OD.call (by first | rfl | exact WantL.yes rfl rfl rfl) (by repeat' (first | exact trivial | assumption | exact BelV.ptr (by omega) | exact BelV.sl (by omega) | exact BelV.fn1 (by omega) | exact BelV.fn2 (by omega) (by omega) | exact hbs _ (by omega) | exact rfl | refine And.intro (Exists.intro _ (And.intro rfl ?_)) ?_)) (D.callF rfl rfl rfl fn81) hcl rfl rfl ?_
            refine OD.bF ?_; refine OD.pT ?_; refine OD.pF ?_
            exact OD.nil ⟨rfl, .cons rfl (.cons rfl (.cons rfl (.cons rfl (.cons rfl (.cons rfl (.cons rfl (.cons rfl .nil))))))), hk2, hn2, hf2⟩
          · refine OD.mv ?_; refine OD.un ?_; refine OD.mv ?_; refine OD.ix idx_pair0 ?_; refine OD.l3 ?_; refine OD.ix idx_pair1 ?_; refine OD.l3 ?_; refine OD.bF ?_; refine OD.pF ?_; refine OD.mv ?_; refine OD.mv ?_; refine OD.bF ?_; refine OD.mv ?_; refine OD.ps ?_; refine OD.ps ?_; refine OD.ps ?_; refine OD.ps ?_; refine OD.ps ?_; refine OD.ps ?_; refine OD.ps ?_; refine OD.ps ?_; refine OD.pF ?_; refine OD.pF ?_
            exact OD.nil ⟨rfl, .cons rfl (.cons rfl (.cons rfl (.cons rfl (.cons rfl (.cons rfl (.cons rfl (.cons rfl .nil))))))), .refl _ _, Nat.le_refl _, hfa⟩
        · rintro x L' H K ⟨rfl, hs2, hk2, hn2, hf2⟩
          refine WL.keep hs2 ?_
          refine WL.condF rfl (WL.skip ?_)
          have hG1 : H.get (n + 1) = some (.cells [.int .i64 (M : Int), .slice (some ⟨n, 0, none⟩) M M, .slice eb l.length c]) := (hk2 _ (by omega)).trans ((hka' _ (by omega)).trans hg1)
          have hG2 : H.get n = some (.cells ncs) := (hk2 _ (by omega)).trans ((hka' _ (by omega)).trans hg2)
          have hP : H.get n' = some (.cells [.int .i64 (a : Int), .int .i64 (y : Int)]) := (hk2 _ (by omega)).trans hga
          have hrH : Rows (n + 2) H ncs (succ (l.take i)) := (hrows.keep hf' hka').keep hfa hk2
          have haM : a < M := by omega
          have hH1 : ∀ b, b < K → (H.upd (some (.cells [.int .i64 (y : Int)])) K).get b = H.get b := fun b hb => T.get_upd_ne _ _ (by omega)
          obtain ⟨v, w, H2, hv, happ, hwc, hbw, hbv, hf2', hfr, hlo2, hr2⟩ := Rows.add (g := succ (l.take (i + 1))) (hrH.keep hf2 (fun b hb => hH1 b hb) : Rows (n + 2) (H.upd (some (.cells [.int .i64 (y : Int)])) K) ncs (succ (l.take i))) (hf2.upd _) (by omega) (T.get_upd_same _ _ _)
            (fun k b hkb => by
              rcases hrH.at_ k _ hkb with ⟨_, h1⟩ | ⟨_, b', h1, _, h2⟩
              · simp [slV] at h1
              · simp only [slV, Value.slice.injEq, Option.some.injEq, Addr.mk.injEq] at h1
                have := hf2.lt h2
                omega)
            (fun k => by have := succ_len (l.take i) k; have := List.length_take_le i l; omega) (a := a)
            (fun k => by
              rw [succ_take hie]
              by_cases hka : k = a
              · subst hka; simp
              · rw [if_neg hka, if_neg (fun e => hka (by simp only at e; omega))]) (by omega)
          have hH2n : H2.get n = some (.cells ncs) := (hfr n (by omega) (fun c hc => by have := (hlo2 c hc).1; omega)).trans ((hH1 n (by omega)).trans hG2)
          have hH2g : H2.get (n + 1) = some (.cells [.int .i64 (M : Int), .slice (some ⟨n, 0, none⟩) M M, .slice eb l.length c]) := (hfr _ (by omega) (fun c hc => by have := (hlo2 c hc).1; omega)).trans ((hH1 _ (by omega)).trans hG1)
          have hbs2 : ∀ k, K ≤ k → BelV k (.slice eb l.length c) := fun k hk => hbs k (by omega)
          have hv1 : (ncs)[a]? = some v := hv
          have ix : idxA X 93 (.slice (some ⟨n, 0, none⟩) M M) (.int .i64 (a : Int)) = some (.pointer (some ⟨n, a, none⟩)) := idx1 ty93 ty25 rfl haM
          have lg : ∀ {H' : T Blk}, H'.get (n + 1) = some (.cells [.int .i64 (M : Int), .slice (some ⟨n, 0, none⟩) M M, .slice eb l.length c]) → loadA X H' 93 (.pointer (some ⟨n + 1, 0 + 1, none⟩)) = some (.slice (some ⟨n, 0, none⟩) M M) := fun hH => load1 ty93 rfl (cells_of hH) rfl
          have lp : ∀ {H' : T Blk}, H'.get n' = some (.cells [.int .i64 (a : Int), .int .i64 (y : Int)]) → loadA X H' 3 (.pointer (some ⟨n', 0, none⟩)) = some (.int .i64 (a : Int)) := fun hH => load1 ty3 rfl (cells_of hH) rfl
          have lq : ∀ {H' : T Blk}, H'.get n' = some (.cells [.int .i64 (a : Int), .int .i64 (y : Int)]) → loadA X H' 3 (.pointer (some ⟨n', 0 + 1, none⟩)) = some (.int .i64 (y : Int)) := fun hH => load1 ty3 rfl (cells_of hH) rfl
          have hP2 : H2.get n' = some (.cells [.int .i64 (a : Int), .int .i64 (y : Int)]) := by
            refine (hfr n' (by omega) (fun c hc hcn => ?_)).trans ((hH1 n' (by omega)).trans hP)
            subst hcn
            rcases hrH.at_ a v hv with ⟨_, h1⟩ | ⟨_, b', h1, _, h2⟩
            · rw [hc] at h1; simp [slV] at h1
            · rw [hc] at h1
              simp only [slV, Value.slice.injEq, Option.some.injEq, Addr.mk.injEq] at h1
              have e3 : n' = b' := h1.1.1
              subst e3
              have hlen2 := h1.2.1
              rcases hrows.at_ a v hv with ⟨_, h5⟩ | ⟨_, b5, h5, _, h6⟩
              · rw [hc] at h5; simp [slV] at h5
              · rw [hc] at h5
                simp only [slV, Value.slice.injEq, Option.some.injEq, Addr.mk.injEq] at h5
                have := hf'.lt h6
                have e5 : n' = b5 := h5.1.1
                omega
          refine WL.regDf [(3, 17), (5, 17)] (by kernel_rfl) (by kernel_rfl) fun t0 ht => ?_
          refine OT.val' ht rfl (by repeat' (first | exact trivial | assumption | exact BelV.ptr (by omega) | exact BelV.sl (by omega) | exact BelV.fn1 (by omega) | exact BelV.fn2 (by omega) (by omega) | exact hbs _ (by omega) | exact rfl | refine And.intro (Exists.intro _ (And.intro rfl ?_)) ?_)) (D.move rfl rfl) rfl rfl fun ht => ?_
          refine OT.val' ht rfl (by repeat' (first | exact trivial | assumption | exact BelV.ptr (by omega) | exact BelV.sl (by omega) | exact BelV.fn1 (by omega) | exact BelV.fn2 (by omega) (by omega) | exact hbs _ (by omega) | exact rfl | refine And.intro (Exists.intro _ (And.intro rfl ?_)) ?_)) (D.nilCheck rfl rfl) rfl rfl fun ht => ?_
          refine OT.val' ht rfl (by repeat' (first | exact trivial | assumption | exact BelV.ptr (by omega) | exact BelV.sl (by omega) | exact BelV.fn1 (by omega) | exact BelV.fn2 (by omega) (by omega) | exact hbs _ (by omega) | exact rfl | refine And.intro (Exists.intro _ (And.intro rfl ?_)) ?_)) (D.field rfl rfl f95_1) rfl rfl fun ht3 => ?_
          refine OT.val' ht3 rfl (by repeat' (first | exact trivial | assumption | exact BelV.ptr (by omega) | exact BelV.sl (by omega) | exact BelV.fn1 (by omega) | exact BelV.fn2 (by omega) (by omega) | exact hbs _ (by omega) | exact rfl | refine And.intro (Exists.intro _ (And.intro rfl ?_)) ?_)) (D.load rfl rfl (lg hG1)) rfl rfl fun ht => ?_
          refine OT.gen 3 rfl fun acc3 hl3 h3' _ => ?_
          refine OT.val' ht rfl (by repeat' (first | exact trivial | assumption | exact BelV.ptr (by omega) | exact BelV.sl (by omega) | exact BelV.fn1 (by omega) | exact BelV.fn2 (by omega) (by omega) | exact hbs _ (by omega) | exact rfl | refine And.intro (Exists.intro _ (And.intro rfl ?_)) ?_)) (D.index rfl rfl rfl idx_pair0) rfl rfl fun ht5 => ?_
          refine OT.val' ht5 rfl (by repeat' (first | exact trivial | assumption | exact BelV.ptr (by omega) | exact BelV.sl (by omega) | exact BelV.fn1 (by omega) | exact BelV.fn2 (by omega) (by omega) | exact hbs _ (by omega) | exact rfl | refine And.intro (Exists.intro _ (And.intro rfl ?_)) ?_)) (D.load rfl rfl (lp hP)) rfl rfl fun ht => ?_
          refine OT.gen 5 (by simp [hl3]) fun acc5 hl5 h5' k5 => ?_
          have h35 := k5 3 _ (nth_keep h3')
          clear k5
          refine OT.val' ht rfl (by repeat' (first | exact trivial | assumption | exact BelV.ptr (by omega) | exact BelV.sl (by omega) | exact BelV.fn1 (by omega) | exact BelV.fn2 (by omega) (by omega) | exact hbs _ (by omega) | exact rfl | refine And.intro (Exists.intro _ (And.intro rfl ?_)) ?_)) (D.move rfl rfl) rfl rfl fun ht => ?_
          refine OT.val' ht rfl (by repeat' (first | exact trivial | assumption | exact BelV.ptr (by omega) | exact BelV.sl (by omega) | exact BelV.fn1 (by omega) | exact BelV.fn2 (by omega) (by omega) | exact hbs _ (by omega) | exact rfl | refine And.intro (Exists.intro _ (And.intro rfl ?_)) ?_)) (D.nilCheck rfl rfl) rfl rfl fun ht => ?_
          refine OT.val' ht rfl (by repeat' (first | exact trivial | assumption | exact BelV.ptr (by omega) | exact BelV.sl (by omega) | exact BelV.fn1 (by omega) | exact BelV.fn2 (by omega) (by omega) | exact hbs _ (by omega) | exact rfl | refine And.intro (Exists.intro _ (And.intro rfl ?_)) ?_)) (D.field rfl rfl f95_1) rfl rfl fun ht => ?_
          refine OT.val' ht rfl (by repeat' (first | exact trivial | assumption | exact BelV.ptr (by omega) | exact BelV.sl (by omega) | exact BelV.fn1 (by omega) | exact BelV.fn2 (by omega) (by omega) | exact hbs _ (by omega) | exact rfl | refine And.intro (Exists.intro _ (And.intro rfl ?_)) ?_)) (D.load rfl rfl (lg hG1)) rfl rfl fun ht => ?_
          refine OT.val' ht rfl (by repeat' (first | exact trivial | assumption | exact BelV.ptr (by omega) | exact BelV.sl (by omega) | exact BelV.fn1 (by omega) | exact BelV.fn2 (by omega) (by omega) | exact hbs _ (by omega) | exact rfl | refine And.intro (Exists.intro _ (And.intro rfl ?_)) ?_)) (D.index rfl rfl rfl idx_pair0) rfl rfl fun ht => ?_
          refine OT.val' ht rfl (by repeat' (first | exact trivial | assumption | exact BelV.ptr (by omega) | exact BelV.sl (by omega) | exact BelV.fn1 (by omega) | exact BelV.fn2 (by omega) (by omega) | exact hbs _ (by omega) | exact rfl | refine And.intro (Exists.intro _ (And.intro rfl ?_)) ?_)) (D.load rfl rfl (lp hP)) rfl rfl fun ht => ?_
          refine OT.val' ht rfl (by repeat' (first | exact trivial | assumption | exact BelV.ptr (by omega) | exact BelV.sl (by omega) | exact BelV.fn1 (by omega) | exact BelV.fn2 (by omega) (by omega) | exact hbs _ (by omega) | exact rfl | refine And.intro (Exists.intro _ (And.intro rfl ?_)) ?_)) (D.index rfl rfl rfl ix) rfl rfl fun ht => ?_
          refine OT.val' ht rfl (by repeat' (first | exact trivial | assumption | exact BelV.ptr (by omega) | exact BelV.sl (by omega) | exact BelV.fn1 (by omega) | exact BelV.fn2 (by omega) (by omega) | exact hbs _ (by omega) | exact rfl | refine And.intro (Exists.intro _ (And.intro rfl ?_)) ?_)) (D.load rfl rfl (load1 ty25 rfl (cells_of hG2) hv1)) rfl rfl fun ht => ?_
          refine OT.val' ht rfl (by repeat' (first | exact trivial | assumption | exact BelV.ptr (by omega) | exact BelV.sl (by omega) | exact BelV.fn1 (by omega) | exact BelV.fn2 (by omega) (by omega) | exact hbs _ (by omega) | exact rfl | refine And.intro (Exists.intro _ (And.intro rfl ?_)) ?_)) (D.index rfl rfl rfl idx_pair1) rfl rfl fun ht => ?_
          refine OT.val' ht rfl (by repeat' (first | exact trivial | assumption | exact BelV.ptr (by omega) | exact BelV.sl (by omega) | exact BelV.fn1 (by omega) | exact BelV.fn2 (by omega) (by omega) | exact hbs _ (by omega) | exact rfl | refine And.intro (Exists.intro _ (And.intro rfl ?_)) ?_)) (D.load rfl rfl (lq hP)) rfl rfl fun ht => ?_
          refine OT.val' ht rfl (by repeat' (first | exact trivial | assumption | exact BelV.ptr (by omega) | exact BelV.sl (by omega) | exact BelV.fn1 (by omega) | exact BelV.fn2 (by omega) (by omega) | exact hbs _ (by omega) | exact rfl | refine And.intro (Exists.intro _ (And.intro rfl ?_)) ?_)) (D.buildSlice rfl rfl buildS1) rfl rfl fun ht => ?_
          refine OT.val' ht rfl (by repeat' (first | exact trivial | assumption | exact BelV.ptr (by omega) | exact BelV.sl (by omega) | exact BelV.fn1 (by omega) | exact BelV.fn2 (by omega) (by omega) | exact hbs _ (by omega) | exact rfl | refine And.intro (Exists.intro _ (And.intro rfl ?_)) ?_)) (D.builtinV rfl rfl rfl (appendV happ)) rfl rfl fun ht => ?_
          refine OT.gen 17 (by simp [hl5]) fun acc17 hl17 h17 k17 => ?_
          have h357 := k17 3 _ (nth_keep (nth_keep (nth_keep (nth_keep (nth_keep (nth_keep (nth_keep (nth_keep (nth_keep (nth_keep (nth_keep (h35))))))))))))
          have h557 := k17 5 _ (nth_keep (nth_keep (nth_keep (nth_keep (nth_keep (nth_keep (nth_keep (nth_keep (nth_keep (nth_keep (nth_keep (h5'))))))))))))
          clear k17
          refine OT.val' ht rfl (by repeat' (first | exact trivial | assumption | exact BelV.ptr (by omega) | exact BelV.sl (by omega) | exact BelV.fn1 (by omega) | exact BelV.fn2 (by omega) (by omega) | exact hbs _ (by omega) | exact rfl | refine And.intro (Exists.intro _ (And.intro rfl ?_)) ?_)) (D.index rfl rfl rfl ix) rfl rfl fun ht => ?_
          refine OT.skip ht rfl (by repeat' (first | exact trivial | assumption | exact BelV.ptr (by omega) | exact BelV.sl (by omega) | exact BelV.fn1 (by omega) | exact BelV.fn2 (by omega) (by omega) | exact hbs _ (by omega) | exact rfl | refine And.intro (Exists.intro _ (And.intro rfl ?_)) ?_)) (D.store rfl rfl rfl (store1 ty25 rfl hH2n hwc (by omega))) rfl ?_
          refine ⟨?_, _, ht, ?_⟩
          · exact float2 rfl (nth_keep (nth_keep h357)) (nth_keep (nth_keep h17)) rfl (reads_same rfl (D.load rfl rfl (lg hH2g) _ ht3) (sameSl _ _ _ _)) rfl (nth_keep (nth_keep h557)) (nth_keep (nth_keep h17)) rfl (reads_same rfl (D.load rfl rfl (lp hP2) _ ht5) (sameInt _))
          · refine WL.reg ?_
            refine OL.val (by first | rfl | exact WantL.yes rfl rfl rfl) (D.addN rfl rfl rfl (by omega)) rfl rfl ?_
            refine OL.mv ?_
            refine OL.nil ⟨l.length - (i + 1), by omega, i + 1, ncs.set a w, by omega, rfl, .cons rfl (.cons rfl (.cons rfl (.cons rfl (.cons rfl (.cons rfl .nil))))), fun q hq => ?_, by omega, hf2'.set (by omega) _, ?_, T.get_upd_same _ _ _, by simp [hncs], hr2.lo (by omega) _⟩
            · rw [T.get_upd_ne _ _ (by omega), hfr q (by omega) (fun c hc => by have := (hlo2 c hc).1; omega), hH1 q (by omega), hk2 q (by omega), hka' q (by omega)]
              exact hk q hq
            · rw [T.get_upd_ne _ _ (by omega)]; exact hH2g
      · refine OL.bF ?_
        refine OL.nil (WL.seq (WL.condF rfl (WL.exit ?_)))
        refine WL.seq (WL.reg ?_)
        refine OL.mv ?_; refine OL.asg ?_; refine OL.asg ?_
        have hi' : i = l.length := by omega
        subst hi'
        rw [List.take_length] at hrows
        exact OL.nil (WL.ret ⟨fun id e => (by cases e), _, rfl, hk, by omega, hf', _, rfl, ⟨n + 1, n, ncs, rfl, by omega, by omega, by omega, by omega, by omega, hg1, hg2, hncs, hrows⟩⟩)
    · rw [List.getElem?_replicate] at hv
      split at hv
      · cases hv; rfl
      · cases hv
    · rw [List.getElem?_replicate] at hu
      split at hu
      · simp [slV] at hu
      · cases hu
  exact key

end Go.Sx

/- SzO: orders of items: plain laws, and how the heap holds them. -/
namespace Go.Sx
open Go.Proofs
set_option maxRecDepth 100000
set_option maxHeartbeats 1000000

/- How many edges lead to an item. -/
def cntE (l : List (Int × Int)) (k : Nat) : Nat := l.countP (fun e => decide (e.2 = (k : Int)))

/- How many edges lead to an item from items that are not listed. -/
def cntO (l : List (Int × Int)) (out : List Nat) (k : Nat) : Nat := l.countP (fun e => decide (e.2 = (k : Int) ∧ ∀ a ∈ out, e.1 ≠ (a : Int)))

/- How many edges lead from one item to another. -/
def cntI (l : List (Int × Int)) (i k : Nat) : Nat := l.countP (fun e => decide (e.2 = (k : Int) ∧ e.1 = (i : Int)))

theorem cntO_nil (l : List (Int × Int)) (k : Nat) : cntO l [] k = cntE l k := by
  unfold cntO cntE
  congr 1
  funext e
  simp

theorem cntO_add {l : List (Int × Int)} {out : List Nat} {i : Nat} (hi : i ∉ out) (k : Nat) : cntO l out k = cntO l (out ++ [i]) k + cntI l i k := by
  unfold cntO cntI
  induction l with
  | nil => rfl
  | cons e l ih =>
    simp only [List.countP_cons, ih]
    by_cases h1 : e.2 = (k : Int)
    · by_cases h2 : e.1 = (i : Int)
      · have h3 : ∀ a ∈ out, e.1 ≠ (a : Int) := fun a ha he => hi (by
          have : (i : Int) = (a : Int) := h2.symm.trans he
          have : i = a := by omega
          exact this ▸ ha)
        have h4 : ¬ ∀ a ∈ out ++ [i], e.1 ≠ (a : Int) := fun h => h i (by simp) h2
        simp only [h1, h2, true_and, and_self, decide_true, if_true]
        rw [if_pos (by rw [← h2]; exact decide_eq_true h3), if_neg (by rw [← h2]; simp only [decide_eq_true_eq]; exact h4)]
        omega
      · have h4 : (∀ a ∈ out ++ [i], e.1 ≠ (a : Int)) ↔ ∀ a ∈ out, e.1 ≠ (a : Int) := by
          refine ⟨fun h a ha => h a (by simp [ha]), fun h a ha => ?_⟩
          rcases List.mem_append.1 ha with h5 | h5
          · exact h a h5
          · rw [List.mem_singleton.1 h5]; exact h2
        simp only [h1, h2, true_and, and_false, decide_false, Bool.false_eq_true, if_false, h4]
        omega
    · simp only [h1, false_and, decide_false, Bool.false_eq_true, if_false]
      omega

theorem succ_count (l : List (Int × Int)) (i k : Nat) : (succ l i).count (k : Int) = cntI l i k := by
  unfold succ cntI
  induction l with
  | nil => rfl
  | cons e l ih =>
    simp only [List.filter_cons, List.countP_cons]
    by_cases h1 : e.1 = (i : Int)
    · simp only [h1, decide_true, if_true, List.map_cons, List.count_cons, ih, and_true]
      by_cases h2 : e.2 = (k : Int)
      · simp [h2]
      · simp [h2]
    · simp only [h1, decide_false, Bool.false_eq_true, if_false, ih, and_false]
      omega

/- A good order: each item once, each behind those on which it depends. -/
structure Topo (M : Nat) (l : List (Int × Int)) (out : List Nat) : Prop where
  nd : out.Nodup
  lt : ∀ a ∈ out, a < M
  dep : ∀ (j : Nat) (b a : Nat), out[j]? = some b → ((a : Int), (b : Int)) ∈ l → a ∈ out.take j
  lst : ∀ (j : Nat) (b : Nat), out[j]? = some b → ∀ c, c < b → c ∈ out.take j ∨ cntO l (out.take j) c ≠ 0

/- Items of which each depends on another one of them. -/
def Stuck (M : Nat) (l : List (Int × Int)) : Prop := ∃ R : Nat → Prop, (∃ k, R k) ∧ (∀ k, R k → k < M) ∧ ∀ k, R k → ∃ a, R a ∧ ((a : Int), (k : Int)) ∈ l

theorem pigeon : ∀ (M : Nat) (out : List Nat), out.Nodup → (∀ a ∈ out, a < M) → out.length ≤ M
  | 0, out, _, h => by
    cases out with
    | nil => simp
    | cons a l => exact absurd (h a (List.mem_cons_self ..)) (by omega)
  | M + 1, out, hn, h => by
    by_cases hm : M ∈ out
    · have := pigeon M (out.erase M) (hn.erase M) fun a ha => by
        have h1 := (hn.mem_erase_iff).1 ha
        have := h a h1.2
        have := h1.1
        omega
      rw [List.length_erase_of_mem hm] at this
      omega
    · have := pigeon M out hn fun a ha => by
        have := h a ha
        have : a ≠ M := fun e => hm (e ▸ ha)
        omega
      omega

theorem topo_full {M : Nat} {l : List (Int × Int)} {out : List Nat} (t : Topo M l out) (hlen : out.length = M) : ∀ k, k < M → k ∈ out := by
  intro k hk
  refine Decidable.byContradiction fun hno => ?_
  have := pigeon M (k :: out) (List.nodup_cons.2 ⟨hno, t.nd⟩) fun a ha => by
    rcases List.mem_cons.1 ha with rfl | h
    · exact hk
    · exact t.lt a h
  simp at this
  omega

theorem topo_stuck {M : Nat} {l : List (Int × Int)} {out : List Nat} (t : Topo M l out) (hlen : out.length = M) (s : Stuck M l) : False := by
  obtain ⟨R, ⟨k0, hk0⟩, hlt, hR⟩ := s
  have key : ∀ (j k : Nat), out[j]? = some k → ¬ R k := by
    intro j
    induction j using Nat.strongRecOn with
    | _ j ih =>
      intro k hk hRk
      obtain ⟨a, ha, hak⟩ := hR k hRk
      have hm := t.dep j k a hk hak
      obtain ⟨q, hq⟩ := List.getElem?_of_mem hm
      rw [List.getElem?_take] at hq
      split at hq
      · rename_i hlt'
        exact ih q hlt' a hq ha
      · cases hq
  obtain ⟨j, hj⟩ := List.getElem?_of_mem (topo_full t hlen k0 (hlt k0 hk0))
  exact key j k0 hj hk0

theorem cntO_zero {l : List (Int × Int)} {out : List Nat} {k : Nat} (h : cntO l out k = 0) {a : Nat} (ha : ((a : Int), (k : Int)) ∈ l) : a ∈ out := by
  unfold cntO at h
  rw [List.countP_eq_zero] at h
  have := h _ ha
  simp only [true_and, decide_eq_true_eq, Classical.not_forall, Decidable.not_not] at this
  obtain ⟨b, hb, he⟩ := this
  have : a = b := by omega
  exact this ▸ hb

theorem cntO_pos {M : Nat} {l : List (Int × Int)} {out : List Nat} {k : Nat} (hg : GoodG (M : Int) l) (h : cntO l out k ≠ 0) : ∃ a : Nat, a ∉ out ∧ a < M ∧ ((a : Int), (k : Int)) ∈ l := by
  have hpos : 0 < cntO l out k := Nat.pos_of_ne_zero h
  unfold cntO at hpos
  rw [List.countP_pos_iff] at hpos
  obtain ⟨⟨e1, e2⟩, he, hd⟩ := hpos
  simp only [decide_eq_true_eq] at hd
  obtain ⟨g1, g2, _⟩ := hg.ok _ he
  obtain ⟨rfl, h2⟩ := hd
  simp only at g1 g2
  refine ⟨e1.toNat, fun hm => h2 _ hm (by omega), by omega, ?_⟩
  rw [show ((e1.toNat : Nat) : Int) = e1 by omega]
  exact he

/- One more item. -/
theorem Topo.add {M : Nat} {l : List (Int × Int)} {out : List Nat} (t : Topo M l out) {i : Nat} (hi : i < M) (hni : i ∉ out) (h0 : cntO l out i = 0) (hno : ∀ c, c < i → c ∈ out ∨ cntO l out c ≠ 0) : Topo M l (out ++ [i]) := by
  have hlast : ∀ {j b : Nat}, out.length ≤ j → (out ++ [i])[j]? = some b → j = out.length ∧ b = i := by
    intro j b h1 hj
    rw [List.getElem?_append_right h1] at hj
    have hj0 : j - out.length = 0 := by
      rcases Nat.eq_zero_or_pos (j - out.length) with h2 | h2
      · exact h2
      · rw [List.getElem?_eq_none_iff.2 (by simp; omega)] at hj; cases hj
    rw [hj0] at hj
    simp at hj
    exact ⟨by omega, hj.symm⟩
  refine ⟨?_, fun a ha => ?_, fun j b a hj hab => ?_, fun j b hj => ?_⟩
  · rw [List.nodup_append]
    refine ⟨t.nd, by simp, fun x hx y hy e => ?_⟩
    rw [List.mem_singleton.1 hy] at e
    exact hni (e ▸ hx)
  · rcases List.mem_append.1 ha with h1 | h1
    · exact t.lt a h1
    · rw [List.mem_singleton.1 h1]; exact hi
  · rcases Nat.lt_or_ge j out.length with h1 | h1
    · rw [List.getElem?_append_left h1] at hj
      rw [List.take_append_of_le_length (by omega)]
      exact t.dep j b a hj hab
    · obtain ⟨rfl, rfl⟩ := hlast h1 hj
      have := cntO_zero h0 hab
      rw [List.take_left]
      exact this
  · rcases Nat.lt_or_ge j out.length with h1 | h1
    · rw [List.getElem?_append_left h1] at hj
      rw [List.take_append_of_le_length (by omega)]
      exact t.lst j b hj
    · obtain ⟨rfl, rfl⟩ := hlast h1 hj
      rw [List.take_left]
      exact hno

/- Numbers in a block. -/
def natsF (M : Nat) (f : Nat → Int) : List Value := (List.range M).map fun k => .int .i64 (f k)
def boolsF (M : Nat) (f : Nat → Bool) : List Value := (List.range M).map fun k => .bool (f k)

theorem natsF_len (M : Nat) (f : Nat → Int) : (natsF M f).length = M := by simp [natsF]
theorem boolsF_len (M : Nat) (f : Nat → Bool) : (boolsF M f).length = M := by simp [boolsF]
theorem natsF_at {M : Nat} {f : Nat → Int} {k : Nat} (hk : k < M) : (natsF M f)[k]? = some (.int .i64 (f k)) := by simp [natsF, hk]
theorem boolsF_at {M : Nat} {f : Nat → Bool} {k : Nat} (hk : k < M) : (boolsF M f)[k]? = some (.bool (f k)) := by simp [boolsF, hk]
theorem natsF_set {M : Nat} {f g : Nat → Int} {k : Nat} {x : Int} (hk : k < M) (hg : ∀ j, g j = if j = k then x else f j) : (natsF M f).set k (.int .i64 x) = natsF M g := by
  apply List.ext_getElem?
  intro j
  rw [List.getElem?_set]
  by_cases hj : j < M
  · rw [natsF_at hj, natsF_at hj, hg]
    by_cases e : k = j
    · subst e
      rw [if_pos rfl, if_pos (by rw [natsF_len]; exact hk), if_pos rfl]
    · rw [if_neg e, if_neg (Ne.symm e)]
  · have h1 : (natsF M g)[j]? = none := by rw [List.getElem?_eq_none_iff, natsF_len]; omega
    have h2 : (natsF M f)[j]? = none := by rw [List.getElem?_eq_none_iff, natsF_len]; omega
    rw [h1, if_neg (by omega), h2]
theorem boolsF_set {M : Nat} {f g : Nat → Bool} {k : Nat} {x : Bool} (hk : k < M) (hg : ∀ j, g j = if j = k then x else f j) : (boolsF M f).set k (.bool x) = boolsF M g := by
  apply List.ext_getElem?
  intro j
  rw [List.getElem?_set]
  by_cases hj : j < M
  · rw [boolsF_at hj, boolsF_at hj, hg]
    by_cases e : k = j
    · subst e
      rw [if_pos rfl, if_pos (by rw [boolsF_len]; exact hk), if_pos rfl]
    · rw [if_neg e, if_neg (Ne.symm e)]
  · have h1 : (boolsF M g)[j]? = none := by rw [List.getElem?_eq_none_iff, boolsF_len]; omega
    have h2 : (boolsF M f)[j]? = none := by rw [List.getElem?_eq_none_iff, boolsF_len]; omega
    rw [h1, if_neg (by omega), h2]
theorem natsF_zero (M : Nat) : List.replicate M (Value.int .i64 0) = natsF M fun _ => 0 := by
  apply List.ext_getElem?
  intro j
  by_cases hj : j < M
  · rw [natsF_at hj, List.getElem?_replicate, if_pos hj]
  · rw [List.getElem?_eq_none_iff.2 (by simp; omega), List.getElem?_eq_none_iff.2 (by rw [natsF_len]; omega)]
theorem boolsF_zero (M : Nat) : List.replicate M (Value.bool false) = boolsF M fun _ => false := by
  apply List.ext_getElem?
  intro j
  by_cases hj : j < M
  · rw [boolsF_at hj, List.getElem?_replicate, if_pos hj]
  · rw [List.getElem?_eq_none_iff.2 (by simp; omega), List.getElem?_eq_none_iff.2 (by rw [boolsF_len]; omega)]

def zs (out : List Nat) : List Int := out.map fun a : Nat => (a : Int)
theorem zs_len (out : List Nat) : (zs out).length = out.length := by simp [zs]
theorem zs_add (out : List Nat) (i : Nat) : zs (out ++ [i]) = zs out ++ [(i : Int)] := by simp [zs]
theorem zs_at {out : List Nat} {j a : Nat} (h : out[j]? = some a) : (zs out)[j]? = some (a : Int) := by simp [zs, h]

/- A list of items in the heap: nothing, or a block of one's own. -/
def OutAt (lo : Nat) (h : T Blk) (v : Value) (out : List Nat) : Prop :=
  (out = [] ∧ v = .slice none 0 0) ∨ (out ≠ [] ∧ ∃ b, v = slV b (zs out) ∧ lo ≤ b ∧ h.get b = some (.cells (ints (zs out))))

theorem OutAt.keep {lo n : Nat} {h h' : T Blk} {v : Value} {out : List Nat} (o : OutAt lo h v out) (hf : Fresh h n) (hk : Keep n h h') : OutAt lo h' v out := by
  rcases o with h1 | ⟨h1, b, h2, h3, h4⟩
  · exact .inl h1
  · exact .inr ⟨h1, b, h2, h3, by rw [hk b (hf.lt h4)]; exact h4⟩

theorem OutAt.set {lo b0 : Nat} {h : T Blk} {v : Value} {out : List Nat} (o : OutAt lo h v out) (hb : b0 < lo) (k : Option Blk) : OutAt lo (h.upd k b0) v out := by
  rcases o with h1 | ⟨h1, b, h2, h3, h4⟩
  · exact .inl h1
  · exact .inr ⟨h1, b, h2, h3, by rw [T.get_upd_ne _ _ (by omega)]; exact h4⟩

theorem OutAt.len {lo : Nat} {h : T Blk} {v : Value} {out : List Nat} (o : OutAt lo h v out) {h' : T Blk} {n : Nat} : builtinA X .len [25] [v] h' n = .val (.int .i64 (out.length : Int)) h' n := by
  rcases o with ⟨rfl, rfl⟩ | ⟨_, b, rfl, _, _⟩
  · exact lenA_slice ty25
  · have := lenA_slice ty25 (h := h') (n := n) (eb := some ⟨b, 0, none⟩) (l := (zs out).length) (c := UNK * 1 + (zs out).length)
    rw [zs_len] at this
    show builtinA X .len [25] [.slice (some ⟨b, 0, none⟩) (zs out).length (UNK * 1 + (zs out).length)] h' n = _
    rw [zs_len]
    exact this

/- One more behind. -/
theorem OutAt.add {lo n nb i : Nat} {h : T Blk} {v : Value} {out : List Nat} (o : OutAt lo h v out) (hf : Fresh h n) (hlo : lo ≤ n) (hnb : h.get nb = some (.cells [.int .i64 (i : Int)])) (hl : out.length ≤ 100000) (hne : ∀ b, v = slV b (zs out) → b ≠ nb) :
    ∃ w h', appendA X 25 (some 25) v (.slice (some ⟨nb, 0, none⟩) 1 1) h n = some (w, h', n + 1) ∧ Fresh h' (n + 1) ∧ (∀ b, b < lo → h'.get b = h.get b) ∧ (∀ b, b < n → (∀ c, v = slV c (zs out) → b ≠ c) → h'.get b = h.get b) ∧ OutAt lo h' w (out ++ [i]) := by
  rcases o with ⟨rfl, rfl⟩ | ⟨h1, b, rfl, h3, h4⟩
  · exact ⟨_, _, append_nil hnb, hf.upd _, fun b hb => T.get_upd_ne _ _ (by omega), fun b hb _ => T.get_upd_ne _ _ (by omega), .inr ⟨by simp, n, rfl, hlo, T.get_upd_same _ _ _⟩⟩
  · have hbn := hf.lt h4
    refine ⟨_, _, append_more hnb h4 (by rw [zs_len]; exact hl), (hf.set hbn none).upd _, fun c hc => ?_, fun c hc hcb => ?_, .inr ⟨by simp, n, ?_, hlo, ?_⟩⟩
    · rw [T.get_upd_ne _ _ (by omega), T.get_upd_ne _ _ (by omega)]
    · rw [T.get_upd_ne _ _ (by omega), T.get_upd_ne _ _ (hcb b rfl)]
    · rw [zs_add]
    · rw [T.get_upd_same, zs_add]

end Go.Sx
