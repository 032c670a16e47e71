/- The law riparianlaw10.ModeParts: its row and its tied card in the second form: where what it reads is of bulk at most 1048576, it returns true, and each argument reads afterwards as it read before. The package variable riparian/prog.calculations holds what the program's text lays (the card ties it). -/
import Derived.Test.YtkcjinnlpmhopaaGreatDoorOwn16
namespace Go.Proofs.YtkcjinnlpmhopaaGreatDoor
open Go.ChangeShapes Go.WideShapes Go.ChangeAt Go.RowKit Go.Sx
set_option maxRecDepth 100000
noncomputable def partsArgs:Array Value:=#[.agg #[.slice none 0 0],.agg #[.int .i64 0,.slice none 0 0],.agg #[.slice none 0 0,.slice none 0 0,.slice none 0 0,.slice none 0 0],.int .i64 0,.int .i64 0,.slice none 0 0]
def partsRead(H:Type):List (DataW H):=[.agg [.nil],.agg [.lit (.int .i64 0),.nil],.agg [.nil,.nil,.nil,.nil],.lit (.int .i64 0),.lit (.int .i64 0),.nil]
theorem parts_contract(H:Type)(enc:TypeId×Value→H)(W:World)(base:Nat)(args:Array Value)(ds gs:List (DataW H))(before:List MemPlace)
 (hval:∀ (j:Nat) t v,Tryz.f3.params[j]? =some t→args[j]? =some v→Value.okWide Tryz.prog W .any base t v)
 (hW:DataW.Whole enc Tryz.prog Tryz.f3.params.toList Rows.modePartsSpec.vars false W args.toList ds gs before) (hk:Rows.uptoSmall H (ds ++ gs)=true)
 (hL:laidMetH Tryz.prog Rows.modePartsUptoRow.laid W) :
 Calls Tryz.prog 3 args W fun e W'=>∃ v,e= .returned v∧Rows.modePartsSpec.post enc Tryz.prog Tryz.f3 false true false false W args v W':=by
 obtain⟨e,fr,h0⟩:=six_of_laid hL;have hp:Tryz.f3.params.toList=[24,27,33,3,3,34]:=by rw[Tryz.params3]
 rw[Tryz.params3] at hval;refine law_post hp rfl rfl parts_types (fun hg=>?_) hW (fun hA hg=>?_)
 · obtain⟨p,q,hA,_⟩:=hW;rw[hp] at hA;obtain⟨_,_,d0,ds0,_,_,_,rfl,_,_,s0⟩:=trodAll_cons hA;obtain⟨_,_,d1,ds1,_,_,_,rfl,_,_,s1⟩:=trodAll_cons s0;obtain⟨_,_,d2,ds2,_,_,_,rfl,_,_,s2⟩:=trodAll_cons s1;obtain⟨_,_,d3,ds3,_,_,_,rfl,_,_,s3⟩:=trodAll_cons s2;obtain⟨_,_,d4,ds4,_,_,_,rfl,_,_,s4⟩:=trodAll_cons s3;obtain⟨_,_,d5,ds5,_,_,_,rfl,_,_,s5⟩:=trodAll_cons s4;obtain⟨_,rfl,_⟩:=trodAll_nil s5;subst hg;rfl
 · subst hg;rw[List.append_nil] at hk;exact parts_calls hval hA (of_decide_eq_true hk) h0
theorem parts_lifted(os:Os)(started:os.Started)(H:Type)(enc:TypeId×Value→H)(F:Stop.Interp) :
 ReturnsInHanded {} Tryz.checked os 3 .any ((Rows.OpenSpec.upto Rows.modePartsSpec).preRow enc Tryz.prog Tryz.f3 Rows.modePartsUptoRow.domain false Rows.modePartsUptoRow.laid) (((Rows.OpenSpec.upto Rows.modePartsSpec).at F).post enc Tryz.prog Tryz.f3 false true false false):=by
 have hx:∃ places,DataW.whole enc Tryz.prog ((laidW os).forCall (fun _ _=>0) ⟨#[],partsArgs,[]⟩).memory Tryz.f3.params.toList Rows.modePartsSpec.vars false partsArgs.toList 8=some (partsRead H,[],places):=⟨[],by kernel_rfl⟩
 obtain⟨places,hx⟩:=hx;refine returnsInHanded_of_row (C:=Tryz.checked) (s:=Rows.OpenSpec.upto Rows.modePartsSpec) own0 started (by kernel_rfl) Tryz.func3
  (witness_row_at (enc:=enc) (C:=Tryz.checked) false (laidW os) partsArgs rfl (by kernel_rfl) (by kernel_rfl) (by kernel_rfl)
   (OpenSpec.preRow_of_cond 8 hx (by kernel_rfl) (fun k hk=>by cases hk;kernel_rfl) (by kernel_rfl) (laidMet_of_run' 8 (by kernel_rfl) (by kernel_rfl)))) ?_
 intro W base args ds gs before hval hW _ hcond _ hL _ _;exact parts_contract H enc W base args ds gs before hval hW (hcond _ rfl) hL
theorem modePartsUpto_holds:Rows.ModePartsUptoSaid :=
 OpenClaim.holds_of_cond 3 Tryz.f3 rfl rfl rfl rfl rfl rfl rfl ⟨rfl,rfl,rfl,rfl,rfl⟩ rfl rfl rfl rfl rfl (by kernel_rfl) Tryz.func3 (by kernel_rfl)
  (of_decide_eq_true (by kernel_rfl)) (by unfold Func.isWrapper;rw[if_neg (of_decide_eq_false (by kernel_rfl))];exact⟨rfl,rfl⟩)
  (fun os started H enc _ F=>by rw[OpenClaim.pre_eq_preRow];exact parts_lifted os started H enc F)
theorem parts_plain(f:FuncId)(fn:Func)(hf:Tryz.pinned.checked.prog.funcNamed "riparian/riparianlaw10.ModeParts" =some f)(hfn:Tryz.pinned.checked.prog.funcs[f]? =some fn) :
 true=Tryz.pinned.checked.prog.looks []∧∀ (j:Nat) t,fn.params[j]? =some t→Tryz.pinned.checked.prog.wantsStandIn t=false:=by
 obtain rfl:f=3:=Option.some.inj ((show Tryz.prog.funcNamed "riparian/riparianlaw10.ModeParts" =some 3 by kernel_rfl).symm.trans hf) |>.symm;obtain rfl:fn=Tryz.f3:=(Option.some.inj (Tryz.func3.symm.trans hfn)).symm;refine⟨by kernel_rfl,fun j t ht=>?_⟩;rw[Tryz.params3] at ht;have hm:t∈ [24,27,33,3,3,34]:=by simpa using Array.mem_of_getElem? ht
 have key:[24,27,33,3,3,34].all (fun t=> !Tryz.prog.wantsStandIn t)=true:=by kernel_rfl
 have h1:=List.all_eq_true.1 key t hm;have h2:Tryz.prog.wantsStandIn t=false:=by simpa using h1
 exact h2
theorem modePartsUpto_card_holds:Rows.ModePartsUptoCardSaid :=
 Claim7.holds_tied_plain_at .later [] _ _ _ _ modePartsUpto_holds (fun _ h=>by cases h) (by kernel_rfl) (fun _ h=>by cases h) modePartsUpto_row_tie rfl ⟨rfl,rfl⟩ (by kernel_rfl) rfl parts_plain (by kernel_rfl)
#print axioms modePartsUpto_card_holds
end Go.Proofs.YtkcjinnlpmhopaaGreatDoor
