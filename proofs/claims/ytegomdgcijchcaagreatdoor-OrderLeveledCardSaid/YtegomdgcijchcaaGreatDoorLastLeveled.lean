/- The law riparianlaw15.OrderLeveled: its row and its tied card, for every input: whatever integer and whatever slice of pairs it is given, it returns true, and each argument reads afterwards as it read before. The package variable riparian/prog.calculations holds what the program's text lays (the card ties it). -/
import Derived.Test.YtegomdgcijchcaaGreatDoorOwn6
namespace Go.Proofs.YtegomdgcijchcaaGreatDoor
open Go.ChangeShapes Go.WideShapes Go.RowKit Go.Sx
set_option maxRecDepth 100000

theorem orderLeveled_q1 : Rows.orderLeveledRow.wf (OpenSpec.ofChange Rows.orderLeveledSpec) = true := by kernel_rfl
theorem orderLeveled_q4 : Tryz.f7.params.all (Tryz.prog.readableRec ·) = true := by kernel_rfl
theorem orderLeveled_q5 : namedTie Tryz.prog Rows.orderLeveledRow.named Rows.orderLeveledSpec.vars = true := by kernel_rfl
theorem orderLeveled_q10 : (Rows.orderLeveledRow.inPlace == Tryz.prog.inPlace 7) = true := by kernel_rfl
theorem orderLeveled_q11 : (Rows.orderLeveledRow.unfollowed == Tryz.prog.unfollowed 7) = true := by kernel_rfl
theorem orderLeveled_q12 : (Rows.orderLeveledRow.recurses == Tryz.prog.recurses 7) = true := by kernel_rfl
theorem orderLeveled_q13 : (Rows.orderLeveledRow.named == Tryz.prog.varsNamed 7) = true := by kernel_rfl
theorem orderLeveled_q14 : ((Rows.orderLeveledRow.maps == (Tryz.f7.params.toList ++ Rows.orderLeveledSpec.plain.varTypes Tryz.prog).any (Tryz.prog.mapsRec ·)) && (Rows.orderLeveledRow.ifaces == (Tryz.f7.params.toList ++ Rows.orderLeveledSpec.plain.varTypes Tryz.prog).any (Tryz.prog.ifacesRec ·)) && (Rows.orderLeveledRow.mapsOut == Tryz.prog.mapsAmong Tryz.f7.resultTypes.toList) &&
    (Rows.orderLeveledRow.loops == (Tryz.f7.params.toList ++ Rows.orderLeveledSpec.plain.varTypes Tryz.prog).any (Tryz.prog.loopsFrom ·)) && (Rows.orderLeveledRow.wideKeys == (Tryz.f7.params.toList ++ Rows.orderLeveledSpec.plain.varTypes Tryz.prog ++ Tryz.f7.resultTypes.toList).any (Tryz.prog.wideKeysFrom ·)) &&
    Rows.orderLeveledSpec.vars.all (Tryz.prog.varReadable ·) && Tryz.f7.resultTypes.all (fun t => Tryz.prog.readableRec t && decide (t < Tryz.prog.types.size)) && (Rows.orderLeveledRow.ifacesOut == Tryz.f7.resultTypes.toList.any (Tryz.prog.ifacesRec ·)) && (Rows.orderLeveledRow.loopsOut == Tryz.f7.resultTypes.toList.any (Tryz.prog.loopsFrom ·))) = true := by kernel_rfl
theorem orderLeveled_q31 : ((Rows.orderLeveledRow.veiled == (Tryz.f7.params.toList ++ Rows.orderLeveledSpec.plain.varTypes Tryz.prog ++ Tryz.f7.resultTypes.toList).any (Tryz.prog.veiledRec ·)) && Rows.orderLeveledRow.veiledFits Tryz.prog Tryz.f7.params.toList (Tryz.f7.params.toList ++ Rows.orderLeveledSpec.plain.varTypes Tryz.prog ++ Tryz.f7.resultTypes.toList)) = true := by kernel_rfl
theorem orderLeveled_joined : joinedFacts Tryz.prog 7 Tryz.f7 Rows.orderLeveledSpec Rows.orderLeveledRow = true :=
  joined_of orderLeveled_q1 laid0 p3 orderLeveled_q4 orderLeveled_q5 rfl p7 rfl p9 orderLeveled_q10 orderLeveled_q11 orderLeveled_q12 orderLeveled_q13 orderLeveled_q14 p23 rfl p25 p26 p27 p28 rfl rfl rfl orderLeveled_q31
theorem orderLeveled_inits : Tryz.prog.inits.idxOf? 7 = none := by kernel_rfl
theorem orderLeveled_named : Tryz.prog.funcNamed "riparian/riparianlaw15.OrderLeveled" = some 7 := by kernel_rfl
theorem orderLeveled_inst : Tryz.f7.isInstance Tryz.prog "" [] := of_decide_eq_true (by kernel_rfl)
theorem orderLeveled_wrap : Tryz.f7.isWrapper Tryz.prog false "" := by
  unfold Func.isWrapper
  rw [if_neg (of_decide_eq_false (by kernel_rfl))]
  exact ⟨rfl, rfl⟩
theorem orderLeveled_goes : false = Rows.orderLeveledRow.goesBy Tryz.prog := by kernel_rfl
theorem orderLeveled_wft : Rows.orderLeveledRow.wfByText (OpenSpec.ofChange Rows.orderLeveledSpec) = true := by kernel_rfl

theorem orderLeveled_okB (os : Os) : Input.okWideB Tryz.prog ((laidW os).forCall (fun _ _ => 0) ⟨#[], #[.int .i64 0, .slice none 0 0], []⟩) 7 ⟨#[], #[.int .i64 0, .slice none 0 0], []⟩ = true := by kernel_rfl
theorem orderLeveled_preB (os : Os) (H : Type) (enc : TypeId × Value → H) : Rows.orderLeveledSpec.preB enc Tryz.prog Tryz.f7 [] false ((laidW os).forCall (fun _ _ => 0) ⟨#[], #[.int .i64 0, .slice none 0 0], []⟩).memory #[.int .i64 0, .slice none 0 0] 8 = true := by kernel_rfl
theorem orderLeveled_sizedB (os : Os) (H : Type) (enc : TypeId × Value → H) : Rows.orderLeveledSpec.sizedB enc Tryz.prog Tryz.f7 false ((laidW os).forCall (fun _ _ => 0) ⟨#[], #[.int .i64 0, .slice none 0 0], []⟩).memory #[.int .i64 0, .slice none 0 0] 8 = true := by kernel_rfl

theorem orderLeveled_lifted (os : Os) (started : os.Started) (H : Type) (enc : TypeId × Value → H) :
    ReturnsInHanded {} Tryz.checked os 7 .any (fun w args => (Rows.orderLeveledSpec.pre enc Tryz.prog Tryz.f7 [] false w args ∧ laidMetH Tryz.prog [("riparian/prog.calculations", Rows.laid_riparian_prog_calculations)] w) ∧ sizedMet enc Tryz.prog Tryz.f7 (OpenSpec.ofChange Rows.orderLeveledSpec) false w args)
      (Rows.orderLeveledSpec.post enc Tryz.prog Tryz.f7 false true false false) := by
  refine returnsInHanded_of_change_and (C := Tryz.checked) (X := fun w _ => laidMetH Tryz.prog [("riparian/prog.calculations", Rows.laid_riparian_prog_calculations)] w) (fun _ _ _ hh h => h.of_heap hh) own0 started orderLeveled_inits Tryz.func7
    (ChangeSpec.witness_at (enc := enc) (C := Tryz.checked) (os := os) (X := fun w _ => laidMetH Tryz.prog [("riparian/prog.calculations", Rows.laid_riparian_prog_calculations)] w) false (laidW os) #[.int .i64 0, .slice none 0 0] 8 rfl (laidW_vars os) (laidW_rest os) (orderLeveled_okB os) (orderLeveled_preB os H enc) (orderLeveled_sizedB os H enc) (laidW_met os _)) ?_
  intro W base args ds gs before hval hW _ _ hL _
  exact law_post Tryz.params7 rfl rfl (fun _ _ _ => rfl) (fun m s l h n => leveled_cl m s l h n) hval hW hL

theorem orderLeveled_holds : Rows.OrderLeveledSaid :=
  OpenClaim.holds_of_wide 7 Tryz.f7 rfl rfl rfl rfl rfl rfl rfl ⟨rfl, rfl, rfl, rfl, rfl⟩ rfl rfl rfl rfl rfl orderLeveled_named Tryz.func7 orderLeveled_joined orderLeveled_inst orderLeveled_wrap
    (fun os started H enc _ => orderLeveled_lifted os started H enc)

theorem orderLeveled_card_holds : Rows.OrderLeveledCardSaid :=
  Claim7.holds_tied_plain_at .later [] [.widerDeep] true (true, "e8bee4214bb5d5814754e32cf4ba9f625655bbbacea81a099ad02db1d222b277") true
    orderLeveled_holds (fun _ h => by cases h) orderLeveled_wft (fun _ h => by cases h) orderLeveled_row_tie rfl ⟨rfl, rfl⟩ pmain rfl
    (fun f fn hf hfn => by
      have hf' : Tryz.prog.funcNamed "riparian/riparianlaw15.OrderLeveled" = some f := hf
      rw [orderLeveled_named] at hf'
      cases hf'
      obtain rfl : fn = Tryz.f7 := (Option.some.inj (Tryz.func7.symm.trans hfn)).symm
      exact ⟨plooks, fun j t ht => by
        rw [Tryz.params7] at ht
        rcases j with _ | _ | j
        · have h3 : t = 3 := by simpa using ht.symm
          subst h3
          exact pstand3
        · have h3 : t = 22 := by simpa using ht.symm
          subst h3
          exact pstand22
        · simp at ht⟩)
    orderLeveled_goes

#print axioms orderLeveled_card_holds
end Go.Proofs.YtegomdgcijchcaaGreatDoor
