/- The law riparianlaw15.OrderLevels: its row and its tied card, for every input: whatever integer and whatever slice of pairs it is given, it returns true, and each argument reads afterwards as it read before. The package variable riparian/prog.calculations holds what the program's text lays (the card ties it). -/
import Derived.Test.YtegomdgcijchcaaGreatDoorOwn13
namespace Go.Proofs.YtegomdgcijchcaaGreatDoor
open Go.ChangeShapes Go.WideShapes Go.RowKit Go.Sx
set_option maxRecDepth 100000

theorem orderLevels_q1 : Rows.orderLevelsRow.wf (OpenSpec.ofChange Rows.orderLevelsSpec) = true := by kernel_rfl
theorem orderLevels_q4 : Tryz.f4.params.all (Tryz.prog.readableRec ·) = true := by kernel_rfl
theorem orderLevels_q5 : namedTie Tryz.prog Rows.orderLevelsRow.named Rows.orderLevelsSpec.vars = true := by kernel_rfl
theorem orderLevels_q10 : (Rows.orderLevelsRow.inPlace == Tryz.prog.inPlace 4) = true := by kernel_rfl
theorem orderLevels_q11 : (Rows.orderLevelsRow.unfollowed == Tryz.prog.unfollowed 4) = true := by kernel_rfl
theorem orderLevels_q12 : (Rows.orderLevelsRow.recurses == Tryz.prog.recurses 4) = true := by kernel_rfl
theorem orderLevels_q13 : (Rows.orderLevelsRow.named == Tryz.prog.varsNamed 4) = true := by kernel_rfl
theorem orderLevels_q14 : ((Rows.orderLevelsRow.maps == (Tryz.f4.params.toList ++ Rows.orderLevelsSpec.plain.varTypes Tryz.prog).any (Tryz.prog.mapsRec ·)) && (Rows.orderLevelsRow.ifaces == (Tryz.f4.params.toList ++ Rows.orderLevelsSpec.plain.varTypes Tryz.prog).any (Tryz.prog.ifacesRec ·)) && (Rows.orderLevelsRow.mapsOut == Tryz.prog.mapsAmong Tryz.f4.resultTypes.toList) &&
    (Rows.orderLevelsRow.loops == (Tryz.f4.params.toList ++ Rows.orderLevelsSpec.plain.varTypes Tryz.prog).any (Tryz.prog.loopsFrom ·)) && (Rows.orderLevelsRow.wideKeys == (Tryz.f4.params.toList ++ Rows.orderLevelsSpec.plain.varTypes Tryz.prog ++ Tryz.f4.resultTypes.toList).any (Tryz.prog.wideKeysFrom ·)) &&
    Rows.orderLevelsSpec.vars.all (Tryz.prog.varReadable ·) && Tryz.f4.resultTypes.all (fun t => Tryz.prog.readableRec t && decide (t < Tryz.prog.types.size)) && (Rows.orderLevelsRow.ifacesOut == Tryz.f4.resultTypes.toList.any (Tryz.prog.ifacesRec ·)) && (Rows.orderLevelsRow.loopsOut == Tryz.f4.resultTypes.toList.any (Tryz.prog.loopsFrom ·))) = true := by kernel_rfl
theorem orderLevels_q31 : ((Rows.orderLevelsRow.veiled == (Tryz.f4.params.toList ++ Rows.orderLevelsSpec.plain.varTypes Tryz.prog ++ Tryz.f4.resultTypes.toList).any (Tryz.prog.veiledRec ·)) && Rows.orderLevelsRow.veiledFits Tryz.prog Tryz.f4.params.toList (Tryz.f4.params.toList ++ Rows.orderLevelsSpec.plain.varTypes Tryz.prog ++ Tryz.f4.resultTypes.toList)) = true := by kernel_rfl
theorem orderLevels_joined : joinedFacts Tryz.prog 4 Tryz.f4 Rows.orderLevelsSpec Rows.orderLevelsRow = true :=
  joined_of orderLevels_q1 laid0 p3 orderLevels_q4 orderLevels_q5 rfl p7 rfl p9 orderLevels_q10 orderLevels_q11 orderLevels_q12 orderLevels_q13 orderLevels_q14 p23 rfl p25 p26 p27 p28 rfl rfl rfl orderLevels_q31
theorem orderLevels_inits : Tryz.prog.inits.idxOf? 4 = none := by kernel_rfl
theorem orderLevels_named : Tryz.prog.funcNamed "riparian/riparianlaw15.OrderLevels" = some 4 := by kernel_rfl
theorem orderLevels_inst : Tryz.f4.isInstance Tryz.prog "" [] := of_decide_eq_true (by kernel_rfl)
theorem orderLevels_wrap : Tryz.f4.isWrapper Tryz.prog false "" := by
  unfold Func.isWrapper
  rw [if_neg (of_decide_eq_false (by kernel_rfl))]
  exact ⟨rfl, rfl⟩
theorem orderLevels_goes : false = Rows.orderLevelsRow.goesBy Tryz.prog := by kernel_rfl
theorem orderLevels_wft : Rows.orderLevelsRow.wfByText (OpenSpec.ofChange Rows.orderLevelsSpec) = true := by kernel_rfl

theorem orderLevels_okB (os : Os) : Input.okWideB Tryz.prog ((laidW os).forCall (fun _ _ => 0) ⟨#[], #[.int .i64 0, .slice none 0 0], []⟩) 4 ⟨#[], #[.int .i64 0, .slice none 0 0], []⟩ = true := by kernel_rfl
theorem orderLevels_preB (os : Os) (H : Type) (enc : TypeId × Value → H) : Rows.orderLevelsSpec.preB enc Tryz.prog Tryz.f4 [] false ((laidW os).forCall (fun _ _ => 0) ⟨#[], #[.int .i64 0, .slice none 0 0], []⟩).memory #[.int .i64 0, .slice none 0 0] 8 = true := by kernel_rfl
theorem orderLevels_sizedB (os : Os) (H : Type) (enc : TypeId × Value → H) : Rows.orderLevelsSpec.sizedB enc Tryz.prog Tryz.f4 false ((laidW os).forCall (fun _ _ => 0) ⟨#[], #[.int .i64 0, .slice none 0 0], []⟩).memory #[.int .i64 0, .slice none 0 0] 8 = true := by kernel_rfl

theorem orderLevels_lifted (os : Os) (started : os.Started) (H : Type) (enc : TypeId × Value → H) :
    ReturnsInHanded {} Tryz.checked os 4 .any (fun w args => (Rows.orderLevelsSpec.pre enc Tryz.prog Tryz.f4 [] false w args ∧ laidMetH Tryz.prog [("riparian/prog.calculations", Rows.laid_riparian_prog_calculations)] w) ∧ sizedMet enc Tryz.prog Tryz.f4 (OpenSpec.ofChange Rows.orderLevelsSpec) false w args)
      (Rows.orderLevelsSpec.post enc Tryz.prog Tryz.f4 false true false false) := by
  refine returnsInHanded_of_change_and (C := Tryz.checked) (X := fun w _ => laidMetH Tryz.prog [("riparian/prog.calculations", Rows.laid_riparian_prog_calculations)] w) (fun _ _ _ hh h => h.of_heap hh) own0 started orderLevels_inits Tryz.func4
    (ChangeSpec.witness_at (enc := enc) (C := Tryz.checked) (os := os) (X := fun w _ => laidMetH Tryz.prog [("riparian/prog.calculations", Rows.laid_riparian_prog_calculations)] w) false (laidW os) #[.int .i64 0, .slice none 0 0] 8 rfl (laidW_vars os) (laidW_rest os) (orderLevels_okB os) (orderLevels_preB os H enc) (orderLevels_sizedB os H enc) (laidW_met os _)) ?_
  intro W base args ds gs before hval hW _ _ hL _
  exact law_post Tryz.params4 rfl rfl (fun _ _ _ => rfl) (fun m s l h n => levelsLaw_cl m s l h n) hval hW hL

theorem orderLevels_holds : Rows.OrderLevelsSaid :=
  OpenClaim.holds_of_wide 4 Tryz.f4 rfl rfl rfl rfl rfl rfl rfl ⟨rfl, rfl, rfl, rfl, rfl⟩ rfl rfl rfl rfl rfl orderLevels_named Tryz.func4 orderLevels_joined orderLevels_inst orderLevels_wrap
    (fun os started H enc _ => orderLevels_lifted os started H enc)

theorem orderLevels_card_holds : Rows.OrderLevelsCardSaid :=
  Claim7.holds_tied_plain_at .later [] [.widerDeep] true (true, "e8bee4214bb5d5814754e32cf4ba9f625655bbbacea81a099ad02db1d222b277") true
    orderLevels_holds (fun _ h => by cases h) orderLevels_wft (fun _ h => by cases h) orderLevels_row_tie rfl ⟨rfl, rfl⟩ pmain rfl
    (fun f fn hf hfn => by
      have hf' : Tryz.prog.funcNamed "riparian/riparianlaw15.OrderLevels" = some f := hf
      rw [orderLevels_named] at hf'
      cases hf'
      obtain rfl : fn = Tryz.f4 := (Option.some.inj (Tryz.func4.symm.trans hfn)).symm
      exact ⟨plooks, fun j t ht => by
        rw [Tryz.params4] at ht
        rcases j with _ | _ | j
        · have h3 : t = 3 := by simpa using ht.symm
          subst h3
          exact pstand3
        · have h3 : t = 22 := by simpa using ht.symm
          subst h3
          exact pstand22
        · simp at ht⟩)
    orderLevels_goes

#print axioms orderLevels_card_holds
end Go.Proofs.YtegomdgcijchcaaGreatDoor
