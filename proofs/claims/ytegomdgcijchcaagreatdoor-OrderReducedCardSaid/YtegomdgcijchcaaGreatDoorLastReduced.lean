/- The law riparianlaw15.OrderReduced: its row and its tied card, for every input: whatever integer and whatever slice of pairs it is given, it returns true, and each argument reads afterwards as it read before. The package variable riparian/prog.calculations holds what the program's text lays (the card ties it). -/
import Derived.Test.YtegomdgcijchcaaGreatDoorOwn10
namespace Go.Proofs.YtegomdgcijchcaaGreatDoor
open Go.ChangeShapes Go.WideShapes Go.RowKit Go.Sx
set_option maxRecDepth 100000

theorem orderReduced_q1 : Rows.orderReducedRow.wf (OpenSpec.ofChange Rows.orderReducedSpec) = true := by kernel_rfl
theorem orderReduced_q4 : Tryz.f6.params.all (Tryz.prog.readableRec ·) = true := by kernel_rfl
theorem orderReduced_q5 : namedTie Tryz.prog Rows.orderReducedRow.named Rows.orderReducedSpec.vars = true := by kernel_rfl
theorem orderReduced_q10 : (Rows.orderReducedRow.inPlace == Tryz.prog.inPlace 6) = true := by kernel_rfl
theorem orderReduced_q11 : (Rows.orderReducedRow.unfollowed == Tryz.prog.unfollowed 6) = true := by kernel_rfl
theorem orderReduced_q12 : (Rows.orderReducedRow.recurses == Tryz.prog.recurses 6) = true := by kernel_rfl
theorem orderReduced_q13 : (Rows.orderReducedRow.named == Tryz.prog.varsNamed 6) = true := by kernel_rfl
theorem orderReduced_q14 : ((Rows.orderReducedRow.maps == (Tryz.f6.params.toList ++ Rows.orderReducedSpec.plain.varTypes Tryz.prog).any (Tryz.prog.mapsRec ·)) && (Rows.orderReducedRow.ifaces == (Tryz.f6.params.toList ++ Rows.orderReducedSpec.plain.varTypes Tryz.prog).any (Tryz.prog.ifacesRec ·)) && (Rows.orderReducedRow.mapsOut == Tryz.prog.mapsAmong Tryz.f6.resultTypes.toList) &&
    (Rows.orderReducedRow.loops == (Tryz.f6.params.toList ++ Rows.orderReducedSpec.plain.varTypes Tryz.prog).any (Tryz.prog.loopsFrom ·)) && (Rows.orderReducedRow.wideKeys == (Tryz.f6.params.toList ++ Rows.orderReducedSpec.plain.varTypes Tryz.prog ++ Tryz.f6.resultTypes.toList).any (Tryz.prog.wideKeysFrom ·)) &&
    Rows.orderReducedSpec.vars.all (Tryz.prog.varReadable ·) && Tryz.f6.resultTypes.all (fun t => Tryz.prog.readableRec t && decide (t < Tryz.prog.types.size)) && (Rows.orderReducedRow.ifacesOut == Tryz.f6.resultTypes.toList.any (Tryz.prog.ifacesRec ·)) && (Rows.orderReducedRow.loopsOut == Tryz.f6.resultTypes.toList.any (Tryz.prog.loopsFrom ·))) = true := by kernel_rfl
theorem orderReduced_q31 : ((Rows.orderReducedRow.veiled == (Tryz.f6.params.toList ++ Rows.orderReducedSpec.plain.varTypes Tryz.prog ++ Tryz.f6.resultTypes.toList).any (Tryz.prog.veiledRec ·)) && Rows.orderReducedRow.veiledFits Tryz.prog Tryz.f6.params.toList (Tryz.f6.params.toList ++ Rows.orderReducedSpec.plain.varTypes Tryz.prog ++ Tryz.f6.resultTypes.toList)) = true := by kernel_rfl
theorem orderReduced_joined : joinedFacts Tryz.prog 6 Tryz.f6 Rows.orderReducedSpec Rows.orderReducedRow = true :=
  joined_of orderReduced_q1 laid0 p3 orderReduced_q4 orderReduced_q5 rfl p7 rfl p9 orderReduced_q10 orderReduced_q11 orderReduced_q12 orderReduced_q13 orderReduced_q14 p23 rfl p25 p26 p27 p28 rfl rfl rfl orderReduced_q31
theorem orderReduced_inits : Tryz.prog.inits.idxOf? 6 = none := by kernel_rfl
theorem orderReduced_named : Tryz.prog.funcNamed "riparian/riparianlaw15.OrderReduced" = some 6 := by kernel_rfl
theorem orderReduced_inst : Tryz.f6.isInstance Tryz.prog "" [] := of_decide_eq_true (by kernel_rfl)
theorem orderReduced_wrap : Tryz.f6.isWrapper Tryz.prog false "" := by
  unfold Func.isWrapper
  rw [if_neg (of_decide_eq_false (by kernel_rfl))]
  exact ⟨rfl, rfl⟩
theorem orderReduced_goes : false = Rows.orderReducedRow.goesBy Tryz.prog := by kernel_rfl
theorem orderReduced_wft : Rows.orderReducedRow.wfByText (OpenSpec.ofChange Rows.orderReducedSpec) = true := by kernel_rfl

theorem orderReduced_okB (os : Os) : Input.okWideB Tryz.prog ((laidW os).forCall (fun _ _ => 0) ⟨#[], #[.int .i64 0, .slice none 0 0], []⟩) 6 ⟨#[], #[.int .i64 0, .slice none 0 0], []⟩ = true := by kernel_rfl
theorem orderReduced_preB (os : Os) (H : Type) (enc : TypeId × Value → H) : Rows.orderReducedSpec.preB enc Tryz.prog Tryz.f6 [] false ((laidW os).forCall (fun _ _ => 0) ⟨#[], #[.int .i64 0, .slice none 0 0], []⟩).memory #[.int .i64 0, .slice none 0 0] 8 = true := by kernel_rfl
theorem orderReduced_sizedB (os : Os) (H : Type) (enc : TypeId × Value → H) : Rows.orderReducedSpec.sizedB enc Tryz.prog Tryz.f6 false ((laidW os).forCall (fun _ _ => 0) ⟨#[], #[.int .i64 0, .slice none 0 0], []⟩).memory #[.int .i64 0, .slice none 0 0] 8 = true := by kernel_rfl

theorem orderReduced_lifted (os : Os) (started : os.Started) (H : Type) (enc : TypeId × Value → H) :
    ReturnsInHanded {} Tryz.checked os 6 .any (fun w args => (Rows.orderReducedSpec.pre enc Tryz.prog Tryz.f6 [] false w args ∧ laidMetH Tryz.prog [("riparian/prog.calculations", Rows.laid_riparian_prog_calculations)] w) ∧ sizedMet enc Tryz.prog Tryz.f6 (OpenSpec.ofChange Rows.orderReducedSpec) false w args)
      (Rows.orderReducedSpec.post enc Tryz.prog Tryz.f6 false true false false) := by
  refine returnsInHanded_of_change_and (C := Tryz.checked) (X := fun w _ => laidMetH Tryz.prog [("riparian/prog.calculations", Rows.laid_riparian_prog_calculations)] w) (fun _ _ _ hh h => h.of_heap hh) own0 started orderReduced_inits Tryz.func6
    (ChangeSpec.witness_at (enc := enc) (C := Tryz.checked) (os := os) (X := fun w _ => laidMetH Tryz.prog [("riparian/prog.calculations", Rows.laid_riparian_prog_calculations)] w) false (laidW os) #[.int .i64 0, .slice none 0 0] 8 rfl (laidW_vars os) (laidW_rest os) (orderReduced_okB os) (orderReduced_preB os H enc) (orderReduced_sizedB os H enc) (laidW_met os _)) ?_
  intro W base args ds gs before hval hW _ _ hL _
  exact law_post Tryz.params6 rfl rfl (fun _ _ _ => rfl) (fun m s l h n => reducedLaw_cl m s l h n) hval hW hL

theorem orderReduced_holds : Rows.OrderReducedSaid :=
  OpenClaim.holds_of_wide 6 Tryz.f6 rfl rfl rfl rfl rfl rfl rfl ⟨rfl, rfl, rfl, rfl, rfl⟩ rfl rfl rfl rfl rfl orderReduced_named Tryz.func6 orderReduced_joined orderReduced_inst orderReduced_wrap
    (fun os started H enc _ => orderReduced_lifted os started H enc)

theorem orderReduced_card_holds : Rows.OrderReducedCardSaid :=
  Claim7.holds_tied_plain_at .later [] [.widerDeep] true (true, "e8bee4214bb5d5814754e32cf4ba9f625655bbbacea81a099ad02db1d222b277") true
    orderReduced_holds (fun _ h => by cases h) orderReduced_wft (fun _ h => by cases h) orderReduced_row_tie rfl ⟨rfl, rfl⟩ pmain rfl
    (fun f fn hf hfn => by
      have hf' : Tryz.prog.funcNamed "riparian/riparianlaw15.OrderReduced" = some f := hf
      rw [orderReduced_named] at hf'
      cases hf'
      obtain rfl : fn = Tryz.f6 := (Option.some.inj (Tryz.func6.symm.trans hfn)).symm
      exact ⟨plooks, fun j t ht => by
        rw [Tryz.params6] at ht
        rcases j with _ | _ | j
        · have h3 : t = 3 := by simpa using ht.symm
          subst h3
          exact pstand3
        · have h3 : t = 22 := by simpa using ht.symm
          subst h3
          exact pstand22
        · simp at ht⟩)
    orderReduced_goes

#print axioms orderReduced_card_holds
end Go.Proofs.YtegomdgcijchcaaGreatDoor
