/- The law riparianlaw15.OrderClosed: its row and its tied card, for every input: whatever integer and whatever slice of pairs it is given, it returns true, and each argument reads afterwards as it read before. The package variable riparian/prog.calculations holds what the program's text lays (the card ties it). -/
import Derived.Test.YtegomdgcijchcaaGreatDoorOwn10
namespace Go.Proofs.YtegomdgcijchcaaGreatDoor
open Go.ChangeShapes Go.WideShapes Go.RowKit Go.Sx
set_option maxRecDepth 100000

theorem orderClosed_q1 : Rows.orderClosedRow.wf (OpenSpec.ofChange Rows.orderClosedSpec) = true := by kernel_rfl
theorem orderClosed_q4 : Tryz.f8.params.all (Tryz.prog.readableRec ·) = true := by kernel_rfl
theorem orderClosed_q5 : namedTie Tryz.prog Rows.orderClosedRow.named Rows.orderClosedSpec.vars = true := by kernel_rfl
theorem orderClosed_q10 : (Rows.orderClosedRow.inPlace == Tryz.prog.inPlace 8) = true := by kernel_rfl
theorem orderClosed_q11 : (Rows.orderClosedRow.unfollowed == Tryz.prog.unfollowed 8) = true := by kernel_rfl
theorem orderClosed_q12 : (Rows.orderClosedRow.recurses == Tryz.prog.recurses 8) = true := by kernel_rfl
theorem orderClosed_q13 : (Rows.orderClosedRow.named == Tryz.prog.varsNamed 8) = true := by kernel_rfl
theorem orderClosed_q14 : ((Rows.orderClosedRow.maps == (Tryz.f8.params.toList ++ Rows.orderClosedSpec.plain.varTypes Tryz.prog).any (Tryz.prog.mapsRec ·)) && (Rows.orderClosedRow.ifaces == (Tryz.f8.params.toList ++ Rows.orderClosedSpec.plain.varTypes Tryz.prog).any (Tryz.prog.ifacesRec ·)) && (Rows.orderClosedRow.mapsOut == Tryz.prog.mapsAmong Tryz.f8.resultTypes.toList) &&
    (Rows.orderClosedRow.loops == (Tryz.f8.params.toList ++ Rows.orderClosedSpec.plain.varTypes Tryz.prog).any (Tryz.prog.loopsFrom ·)) && (Rows.orderClosedRow.wideKeys == (Tryz.f8.params.toList ++ Rows.orderClosedSpec.plain.varTypes Tryz.prog ++ Tryz.f8.resultTypes.toList).any (Tryz.prog.wideKeysFrom ·)) &&
    Rows.orderClosedSpec.vars.all (Tryz.prog.varReadable ·) && Tryz.f8.resultTypes.all (fun t => Tryz.prog.readableRec t && decide (t < Tryz.prog.types.size)) && (Rows.orderClosedRow.ifacesOut == Tryz.f8.resultTypes.toList.any (Tryz.prog.ifacesRec ·)) && (Rows.orderClosedRow.loopsOut == Tryz.f8.resultTypes.toList.any (Tryz.prog.loopsFrom ·))) = true := by kernel_rfl
theorem orderClosed_q31 : ((Rows.orderClosedRow.veiled == (Tryz.f8.params.toList ++ Rows.orderClosedSpec.plain.varTypes Tryz.prog ++ Tryz.f8.resultTypes.toList).any (Tryz.prog.veiledRec ·)) && Rows.orderClosedRow.veiledFits Tryz.prog Tryz.f8.params.toList (Tryz.f8.params.toList ++ Rows.orderClosedSpec.plain.varTypes Tryz.prog ++ Tryz.f8.resultTypes.toList)) = true := by kernel_rfl
theorem orderClosed_joined : joinedFacts Tryz.prog 8 Tryz.f8 Rows.orderClosedSpec Rows.orderClosedRow = true :=
  joined_of orderClosed_q1 laid0 p3 orderClosed_q4 orderClosed_q5 rfl p7 rfl p9 orderClosed_q10 orderClosed_q11 orderClosed_q12 orderClosed_q13 orderClosed_q14 p23 rfl p25 p26 p27 p28 rfl rfl rfl orderClosed_q31
theorem orderClosed_inits : Tryz.prog.inits.idxOf? 8 = none := by kernel_rfl
theorem orderClosed_named : Tryz.prog.funcNamed "riparian/riparianlaw15.OrderClosed" = some 8 := by kernel_rfl
theorem orderClosed_inst : Tryz.f8.isInstance Tryz.prog "" [] := of_decide_eq_true (by kernel_rfl)
theorem orderClosed_wrap : Tryz.f8.isWrapper Tryz.prog false "" := by
  unfold Func.isWrapper
  rw [if_neg (of_decide_eq_false (by kernel_rfl))]
  exact ⟨rfl, rfl⟩
theorem orderClosed_goes : false = Rows.orderClosedRow.goesBy Tryz.prog := by kernel_rfl
theorem orderClosed_wft : Rows.orderClosedRow.wfByText (OpenSpec.ofChange Rows.orderClosedSpec) = true := by kernel_rfl

theorem orderClosed_okB (os : Os) : Input.okWideB Tryz.prog ((laidW os).forCall (fun _ _ => 0) ⟨#[], #[.int .i64 0, .slice none 0 0], []⟩) 8 ⟨#[], #[.int .i64 0, .slice none 0 0], []⟩ = true := by kernel_rfl
theorem orderClosed_preB (os : Os) (H : Type) (enc : TypeId × Value → H) : Rows.orderClosedSpec.preB enc Tryz.prog Tryz.f8 [] false ((laidW os).forCall (fun _ _ => 0) ⟨#[], #[.int .i64 0, .slice none 0 0], []⟩).memory #[.int .i64 0, .slice none 0 0] 8 = true := by kernel_rfl
theorem orderClosed_sizedB (os : Os) (H : Type) (enc : TypeId × Value → H) : Rows.orderClosedSpec.sizedB enc Tryz.prog Tryz.f8 false ((laidW os).forCall (fun _ _ => 0) ⟨#[], #[.int .i64 0, .slice none 0 0], []⟩).memory #[.int .i64 0, .slice none 0 0] 8 = true := by kernel_rfl

theorem orderClosed_lifted (os : Os) (started : os.Started) (H : Type) (enc : TypeId × Value → H) :
    ReturnsInHanded {} Tryz.checked os 8 .any (fun w args => (Rows.orderClosedSpec.pre enc Tryz.prog Tryz.f8 [] false w args ∧ laidMetH Tryz.prog [("riparian/prog.calculations", Rows.laid_riparian_prog_calculations)] w) ∧ sizedMet enc Tryz.prog Tryz.f8 (OpenSpec.ofChange Rows.orderClosedSpec) false w args)
      (Rows.orderClosedSpec.post enc Tryz.prog Tryz.f8 false true false false) := by
  refine returnsInHanded_of_change_and (C := Tryz.checked) (X := fun w _ => laidMetH Tryz.prog [("riparian/prog.calculations", Rows.laid_riparian_prog_calculations)] w) (fun _ _ _ hh h => h.of_heap hh) own0 started orderClosed_inits Tryz.func8
    (ChangeSpec.witness_at (enc := enc) (C := Tryz.checked) (os := os) (X := fun w _ => laidMetH Tryz.prog [("riparian/prog.calculations", Rows.laid_riparian_prog_calculations)] w) false (laidW os) #[.int .i64 0, .slice none 0 0] 8 rfl (laidW_vars os) (laidW_rest os) (orderClosed_okB os) (orderClosed_preB os H enc) (orderClosed_sizedB os H enc) (laidW_met os _)) ?_
  intro W base args ds gs before hval hW _ _ hL _
  exact law_post Tryz.params8 rfl rfl (fun _ _ _ => rfl) (fun m s l h n => closedLaw_cl m s l h n) hval hW hL

theorem orderClosed_holds : Rows.OrderClosedSaid :=
  OpenClaim.holds_of_wide 8 Tryz.f8 rfl rfl rfl rfl rfl rfl rfl ⟨rfl, rfl, rfl, rfl, rfl⟩ rfl rfl rfl rfl rfl orderClosed_named Tryz.func8 orderClosed_joined orderClosed_inst orderClosed_wrap
    (fun os started H enc _ => orderClosed_lifted os started H enc)

theorem orderClosed_card_holds : Rows.OrderClosedCardSaid :=
  Claim7.holds_tied_plain_at .later [] [.widerDeep] true (true, "e8bee4214bb5d5814754e32cf4ba9f625655bbbacea81a099ad02db1d222b277") true
    orderClosed_holds (fun _ h => by cases h) orderClosed_wft (fun _ h => by cases h) orderClosed_row_tie rfl ⟨rfl, rfl⟩ pmain rfl
    (fun f fn hf hfn => by
      have hf' : Tryz.prog.funcNamed "riparian/riparianlaw15.OrderClosed" = some f := hf
      rw [orderClosed_named] at hf'
      cases hf'
      obtain rfl : fn = Tryz.f8 := (Option.some.inj (Tryz.func8.symm.trans hfn)).symm
      exact ⟨plooks, fun j t ht => by
        rw [Tryz.params8] at ht
        rcases j with _ | _ | j
        · have h3 : t = 3 := by simpa using ht.symm
          subst h3
          exact pstand3
        · have h3 : t = 22 := by simpa using ht.symm
          subst h3
          exact pstand22
        · simp at ht⟩)
    orderClosed_goes

#print axioms orderClosed_card_holds
end Go.Proofs.YtegomdgcijchcaaGreatDoor
