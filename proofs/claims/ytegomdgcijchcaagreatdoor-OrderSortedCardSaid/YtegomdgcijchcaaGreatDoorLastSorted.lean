/- The law riparianlaw15.OrderSorted: its row and its tied card, for every input: whatever integer and whatever slice of pairs it is given, it returns true, and each argument reads afterwards as it read before. The package variable riparian/prog.calculations holds what the program's text lays (the card ties it). -/
import Derived.Test.YtegomdgcijchcaaGreatDoorOwn8
namespace Go.Proofs.YtegomdgcijchcaaGreatDoor
open Go.ChangeShapes Go.WideShapes Go.RowKit Go.Sx
set_option maxRecDepth 100000

theorem orderSorted_q1 : Rows.orderSortedRow.wf (OpenSpec.ofChange Rows.orderSortedSpec) = true := by kernel_rfl
theorem orderSorted_q4 : Tryz.f5.params.all (Tryz.prog.readableRec ·) = true := by kernel_rfl
theorem orderSorted_q5 : namedTie Tryz.prog Rows.orderSortedRow.named Rows.orderSortedSpec.vars = true := by kernel_rfl
theorem orderSorted_q10 : (Rows.orderSortedRow.inPlace == Tryz.prog.inPlace 5) = true := by kernel_rfl
theorem orderSorted_q11 : (Rows.orderSortedRow.unfollowed == Tryz.prog.unfollowed 5) = true := by kernel_rfl
theorem orderSorted_q12 : (Rows.orderSortedRow.recurses == Tryz.prog.recurses 5) = true := by kernel_rfl
theorem orderSorted_q13 : (Rows.orderSortedRow.named == Tryz.prog.varsNamed 5) = true := by kernel_rfl
theorem orderSorted_q14 : ((Rows.orderSortedRow.maps == (Tryz.f5.params.toList ++ Rows.orderSortedSpec.plain.varTypes Tryz.prog).any (Tryz.prog.mapsRec ·)) && (Rows.orderSortedRow.ifaces == (Tryz.f5.params.toList ++ Rows.orderSortedSpec.plain.varTypes Tryz.prog).any (Tryz.prog.ifacesRec ·)) && (Rows.orderSortedRow.mapsOut == Tryz.prog.mapsAmong Tryz.f5.resultTypes.toList) &&
    (Rows.orderSortedRow.loops == (Tryz.f5.params.toList ++ Rows.orderSortedSpec.plain.varTypes Tryz.prog).any (Tryz.prog.loopsFrom ·)) && (Rows.orderSortedRow.wideKeys == (Tryz.f5.params.toList ++ Rows.orderSortedSpec.plain.varTypes Tryz.prog ++ Tryz.f5.resultTypes.toList).any (Tryz.prog.wideKeysFrom ·)) &&
    Rows.orderSortedSpec.vars.all (Tryz.prog.varReadable ·) && Tryz.f5.resultTypes.all (fun t => Tryz.prog.readableRec t && decide (t < Tryz.prog.types.size)) && (Rows.orderSortedRow.ifacesOut == Tryz.f5.resultTypes.toList.any (Tryz.prog.ifacesRec ·)) && (Rows.orderSortedRow.loopsOut == Tryz.f5.resultTypes.toList.any (Tryz.prog.loopsFrom ·))) = true := by kernel_rfl
theorem orderSorted_q31 : ((Rows.orderSortedRow.veiled == (Tryz.f5.params.toList ++ Rows.orderSortedSpec.plain.varTypes Tryz.prog ++ Tryz.f5.resultTypes.toList).any (Tryz.prog.veiledRec ·)) && Rows.orderSortedRow.veiledFits Tryz.prog Tryz.f5.params.toList (Tryz.f5.params.toList ++ Rows.orderSortedSpec.plain.varTypes Tryz.prog ++ Tryz.f5.resultTypes.toList)) = true := by kernel_rfl
theorem orderSorted_joined : joinedFacts Tryz.prog 5 Tryz.f5 Rows.orderSortedSpec Rows.orderSortedRow = true :=
  joined_of orderSorted_q1 laid0 p3 orderSorted_q4 orderSorted_q5 rfl p7 rfl p9 orderSorted_q10 orderSorted_q11 orderSorted_q12 orderSorted_q13 orderSorted_q14 p23 rfl p25 p26 p27 p28 rfl rfl rfl orderSorted_q31
theorem orderSorted_inits : Tryz.prog.inits.idxOf? 5 = none := by kernel_rfl
theorem orderSorted_named : Tryz.prog.funcNamed "riparian/riparianlaw15.OrderSorted" = some 5 := by kernel_rfl
theorem orderSorted_inst : Tryz.f5.isInstance Tryz.prog "" [] := of_decide_eq_true (by kernel_rfl)
theorem orderSorted_wrap : Tryz.f5.isWrapper Tryz.prog false "" := by
  unfold Func.isWrapper
  rw [if_neg (of_decide_eq_false (by kernel_rfl))]
  exact ⟨rfl, rfl⟩
theorem orderSorted_goes : false = Rows.orderSortedRow.goesBy Tryz.prog := by kernel_rfl
theorem orderSorted_wft : Rows.orderSortedRow.wfByText (OpenSpec.ofChange Rows.orderSortedSpec) = true := by kernel_rfl

theorem orderSorted_okB (os : Os) : Input.okWideB Tryz.prog ((laidW os).forCall (fun _ _ => 0) ⟨#[], #[.int .i64 0, .slice none 0 0], []⟩) 5 ⟨#[], #[.int .i64 0, .slice none 0 0], []⟩ = true := by kernel_rfl
theorem orderSorted_preB (os : Os) (H : Type) (enc : TypeId × Value → H) : Rows.orderSortedSpec.preB enc Tryz.prog Tryz.f5 [] false ((laidW os).forCall (fun _ _ => 0) ⟨#[], #[.int .i64 0, .slice none 0 0], []⟩).memory #[.int .i64 0, .slice none 0 0] 8 = true := by kernel_rfl
theorem orderSorted_sizedB (os : Os) (H : Type) (enc : TypeId × Value → H) : Rows.orderSortedSpec.sizedB enc Tryz.prog Tryz.f5 false ((laidW os).forCall (fun _ _ => 0) ⟨#[], #[.int .i64 0, .slice none 0 0], []⟩).memory #[.int .i64 0, .slice none 0 0] 8 = true := by kernel_rfl

theorem orderSorted_lifted (os : Os) (started : os.Started) (H : Type) (enc : TypeId × Value → H) :
    ReturnsInHanded {} Tryz.checked os 5 .any (fun w args => (Rows.orderSortedSpec.pre enc Tryz.prog Tryz.f5 [] false w args ∧ laidMetH Tryz.prog [("riparian/prog.calculations", Rows.laid_riparian_prog_calculations)] w) ∧ sizedMet enc Tryz.prog Tryz.f5 (OpenSpec.ofChange Rows.orderSortedSpec) false w args)
      (Rows.orderSortedSpec.post enc Tryz.prog Tryz.f5 false true false false) := by
  refine returnsInHanded_of_change_and (C := Tryz.checked) (X := fun w _ => laidMetH Tryz.prog [("riparian/prog.calculations", Rows.laid_riparian_prog_calculations)] w) (fun _ _ _ hh h => h.of_heap hh) own0 started orderSorted_inits Tryz.func5
    (ChangeSpec.witness_at (enc := enc) (C := Tryz.checked) (os := os) (X := fun w _ => laidMetH Tryz.prog [("riparian/prog.calculations", Rows.laid_riparian_prog_calculations)] w) false (laidW os) #[.int .i64 0, .slice none 0 0] 8 rfl (laidW_vars os) (laidW_rest os) (orderSorted_okB os) (orderSorted_preB os H enc) (orderSorted_sizedB os H enc) (laidW_met os _)) ?_
  intro W base args ds gs before hval hW _ _ hL _
  exact law_post Tryz.params5 rfl rfl (fun _ _ _ => rfl) (fun m s l h n => sortedLaw_cl m s l h n) hval hW hL

theorem orderSorted_holds : Rows.OrderSortedSaid :=
  OpenClaim.holds_of_wide 5 Tryz.f5 rfl rfl rfl rfl rfl rfl rfl ⟨rfl, rfl, rfl, rfl, rfl⟩ rfl rfl rfl rfl rfl orderSorted_named Tryz.func5 orderSorted_joined orderSorted_inst orderSorted_wrap
    (fun os started H enc _ => orderSorted_lifted os started H enc)

theorem orderSorted_card_holds : Rows.OrderSortedCardSaid :=
  Claim7.holds_tied_plain_at .later [] [.widerDeep] true (true, "e8bee4214bb5d5814754e32cf4ba9f625655bbbacea81a099ad02db1d222b277") true
    orderSorted_holds (fun _ h => by cases h) orderSorted_wft (fun _ h => by cases h) orderSorted_row_tie rfl ⟨rfl, rfl⟩ pmain rfl
    (fun f fn hf hfn => by
      have hf' : Tryz.prog.funcNamed "riparian/riparianlaw15.OrderSorted" = some f := hf
      rw [orderSorted_named] at hf'
      cases hf'
      obtain rfl : fn = Tryz.f5 := (Option.some.inj (Tryz.func5.symm.trans hfn)).symm
      exact ⟨plooks, fun j t ht => by
        rw [Tryz.params5] at ht
        rcases j with _ | _ | j
        · have h3 : t = 3 := by simpa using ht.symm
          subst h3
          exact pstand3
        · have h3 : t = 22 := by simpa using ht.symm
          subst h3
          exact pstand22
        · simp at ht⟩)
    orderSorted_goes

#print axioms orderSorted_card_holds
end Go.Proofs.YtegomdgcijchcaaGreatDoor
