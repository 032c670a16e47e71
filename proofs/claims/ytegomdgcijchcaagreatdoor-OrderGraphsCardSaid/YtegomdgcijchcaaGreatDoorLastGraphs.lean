/- The law riparianlaw15.OrderGraphs: its row and its tied card, for every input: whatever integer and whatever slice of pairs it is given, it returns true, and each argument reads afterwards as it read before. The package variable riparian/prog.calculations holds what the program's text lays (the card ties it). -/
import Derived.Test.YtegomdgcijchcaaGreatDoorOwn12
namespace Go.Proofs.YtegomdgcijchcaaGreatDoor
open Go.ChangeShapes Go.WideShapes Go.RowKit Go.Sx
set_option maxRecDepth 100000

theorem orderGraphs_q1 : Rows.orderGraphsRow.wf (OpenSpec.ofChange Rows.orderGraphsSpec) = true := by kernel_rfl
theorem orderGraphs_q4 : Tryz.f3.params.all (Tryz.prog.readableRec ·) = true := by kernel_rfl
theorem orderGraphs_q5 : namedTie Tryz.prog Rows.orderGraphsRow.named Rows.orderGraphsSpec.vars = true := by kernel_rfl
theorem orderGraphs_q10 : (Rows.orderGraphsRow.inPlace == Tryz.prog.inPlace 3) = true := by kernel_rfl
theorem orderGraphs_q11 : (Rows.orderGraphsRow.unfollowed == Tryz.prog.unfollowed 3) = true := by kernel_rfl
theorem orderGraphs_q12 : (Rows.orderGraphsRow.recurses == Tryz.prog.recurses 3) = true := by kernel_rfl
theorem orderGraphs_q13 : (Rows.orderGraphsRow.named == Tryz.prog.varsNamed 3) = true := by kernel_rfl
theorem orderGraphs_q14 : ((Rows.orderGraphsRow.maps == (Tryz.f3.params.toList ++ Rows.orderGraphsSpec.plain.varTypes Tryz.prog).any (Tryz.prog.mapsRec ·)) && (Rows.orderGraphsRow.ifaces == (Tryz.f3.params.toList ++ Rows.orderGraphsSpec.plain.varTypes Tryz.prog).any (Tryz.prog.ifacesRec ·)) && (Rows.orderGraphsRow.mapsOut == Tryz.prog.mapsAmong Tryz.f3.resultTypes.toList) &&
    (Rows.orderGraphsRow.loops == (Tryz.f3.params.toList ++ Rows.orderGraphsSpec.plain.varTypes Tryz.prog).any (Tryz.prog.loopsFrom ·)) && (Rows.orderGraphsRow.wideKeys == (Tryz.f3.params.toList ++ Rows.orderGraphsSpec.plain.varTypes Tryz.prog ++ Tryz.f3.resultTypes.toList).any (Tryz.prog.wideKeysFrom ·)) &&
    Rows.orderGraphsSpec.vars.all (Tryz.prog.varReadable ·) && Tryz.f3.resultTypes.all (fun t => Tryz.prog.readableRec t && decide (t < Tryz.prog.types.size)) && (Rows.orderGraphsRow.ifacesOut == Tryz.f3.resultTypes.toList.any (Tryz.prog.ifacesRec ·)) && (Rows.orderGraphsRow.loopsOut == Tryz.f3.resultTypes.toList.any (Tryz.prog.loopsFrom ·))) = true := by kernel_rfl
theorem orderGraphs_q31 : ((Rows.orderGraphsRow.veiled == (Tryz.f3.params.toList ++ Rows.orderGraphsSpec.plain.varTypes Tryz.prog ++ Tryz.f3.resultTypes.toList).any (Tryz.prog.veiledRec ·)) && Rows.orderGraphsRow.veiledFits Tryz.prog Tryz.f3.params.toList (Tryz.f3.params.toList ++ Rows.orderGraphsSpec.plain.varTypes Tryz.prog ++ Tryz.f3.resultTypes.toList)) = true := by kernel_rfl
theorem orderGraphs_joined : joinedFacts Tryz.prog 3 Tryz.f3 Rows.orderGraphsSpec Rows.orderGraphsRow = true :=
  joined_of orderGraphs_q1 laid0 p3 orderGraphs_q4 orderGraphs_q5 rfl p7 rfl p9 orderGraphs_q10 orderGraphs_q11 orderGraphs_q12 orderGraphs_q13 orderGraphs_q14 p23 rfl p25 p26 p27 p28 rfl rfl rfl orderGraphs_q31
theorem orderGraphs_inits : Tryz.prog.inits.idxOf? 3 = none := by kernel_rfl
theorem orderGraphs_named : Tryz.prog.funcNamed "riparian/riparianlaw15.OrderGraphs" = some 3 := by kernel_rfl
theorem orderGraphs_inst : Tryz.f3.isInstance Tryz.prog "" [] := of_decide_eq_true (by kernel_rfl)
theorem orderGraphs_wrap : Tryz.f3.isWrapper Tryz.prog false "" := by
  unfold Func.isWrapper
  rw [if_neg (of_decide_eq_false (by kernel_rfl))]
  exact ⟨rfl, rfl⟩
theorem orderGraphs_goes : false = Rows.orderGraphsRow.goesBy Tryz.prog := by kernel_rfl
theorem orderGraphs_wft : Rows.orderGraphsRow.wfByText (OpenSpec.ofChange Rows.orderGraphsSpec) = true := by kernel_rfl

theorem orderGraphs_okB (os : Os) : Input.okWideB Tryz.prog ((laidW os).forCall (fun _ _ => 0) ⟨#[], #[.int .i64 0, .slice none 0 0], []⟩) 3 ⟨#[], #[.int .i64 0, .slice none 0 0], []⟩ = true := by kernel_rfl
theorem orderGraphs_preB (os : Os) (H : Type) (enc : TypeId × Value → H) : Rows.orderGraphsSpec.preB enc Tryz.prog Tryz.f3 [] false ((laidW os).forCall (fun _ _ => 0) ⟨#[], #[.int .i64 0, .slice none 0 0], []⟩).memory #[.int .i64 0, .slice none 0 0] 8 = true := by kernel_rfl
theorem orderGraphs_sizedB (os : Os) (H : Type) (enc : TypeId × Value → H) : Rows.orderGraphsSpec.sizedB enc Tryz.prog Tryz.f3 false ((laidW os).forCall (fun _ _ => 0) ⟨#[], #[.int .i64 0, .slice none 0 0], []⟩).memory #[.int .i64 0, .slice none 0 0] 8 = true := by kernel_rfl

theorem orderGraphs_lifted (os : Os) (started : os.Started) (H : Type) (enc : TypeId × Value → H) :
    ReturnsInHanded {} Tryz.checked os 3 .any (fun w args => (Rows.orderGraphsSpec.pre enc Tryz.prog Tryz.f3 [] false w args ∧ laidMetH Tryz.prog [("riparian/prog.calculations", Rows.laid_riparian_prog_calculations)] w) ∧ sizedMet enc Tryz.prog Tryz.f3 (OpenSpec.ofChange Rows.orderGraphsSpec) false w args)
      (Rows.orderGraphsSpec.post enc Tryz.prog Tryz.f3 false true false false) := by
  refine returnsInHanded_of_change_and (C := Tryz.checked) (X := fun w _ => laidMetH Tryz.prog [("riparian/prog.calculations", Rows.laid_riparian_prog_calculations)] w) (fun _ _ _ hh h => h.of_heap hh) own0 started orderGraphs_inits Tryz.func3
    (ChangeSpec.witness_at (enc := enc) (C := Tryz.checked) (os := os) (X := fun w _ => laidMetH Tryz.prog [("riparian/prog.calculations", Rows.laid_riparian_prog_calculations)] w) false (laidW os) #[.int .i64 0, .slice none 0 0] 8 rfl (laidW_vars os) (laidW_rest os) (orderGraphs_okB os) (orderGraphs_preB os H enc) (orderGraphs_sizedB os H enc) (laidW_met os _)) ?_
  intro W base args ds gs before hval hW _ _ hL _
  exact law_post Tryz.params3 rfl rfl (fun _ _ _ => rfl) (fun m s l h n => graphsLaw_cl m s l h n) hval hW hL

theorem orderGraphs_holds : Rows.OrderGraphsSaid :=
  OpenClaim.holds_of_wide 3 Tryz.f3 rfl rfl rfl rfl rfl rfl rfl ⟨rfl, rfl, rfl, rfl, rfl⟩ rfl rfl rfl rfl rfl orderGraphs_named Tryz.func3 orderGraphs_joined orderGraphs_inst orderGraphs_wrap
    (fun os started H enc _ => orderGraphs_lifted os started H enc)

theorem orderGraphs_card_holds : Rows.OrderGraphsCardSaid :=
  Claim7.holds_tied_plain_at .later [] [.widerDeep] true (true, "e8bee4214bb5d5814754e32cf4ba9f625655bbbacea81a099ad02db1d222b277") true
    orderGraphs_holds (fun _ h => by cases h) orderGraphs_wft (fun _ h => by cases h) orderGraphs_row_tie rfl ⟨rfl, rfl⟩ pmain rfl
    (fun f fn hf hfn => by
      have hf' : Tryz.prog.funcNamed "riparian/riparianlaw15.OrderGraphs" = some f := hf
      rw [orderGraphs_named] at hf'
      cases hf'
      obtain rfl : fn = Tryz.f3 := (Option.some.inj (Tryz.func3.symm.trans hfn)).symm
      exact ⟨plooks, fun j t ht => by
        rw [Tryz.params3] at ht
        rcases j with _ | _ | j
        · have h3 : t = 3 := by simpa using ht.symm
          subst h3
          exact pstand3
        · have h3 : t = 22 := by simpa using ht.symm
          subst h3
          exact pstand22
        · simp at ht⟩)
    orderGraphs_goes

#print axioms orderGraphs_card_holds
end Go.Proofs.YtegomdgcijchcaaGreatDoor
