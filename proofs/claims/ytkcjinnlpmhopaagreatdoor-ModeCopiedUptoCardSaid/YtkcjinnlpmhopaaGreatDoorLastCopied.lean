/- The law riparianlaw10.ModeCopied: its row and its tied card in the second form: where what it reads is of bulk at most 1048576, it returns true, and each argument reads afterwards as it read before. The package variable riparian/prog.calculations holds what the program's text lays (the card ties it). -/
import Derived.Test.YtkcjinnlpmhopaaGreatDoorOwn18
namespace Go.Proofs.YtkcjinnlpmhopaaGreatDoor
open Go.ChangeShapes Go.WideShapes Go.ChangeAt Go.RowKit Go.Sx
set_option maxRecDepth 100000
theorem copied_types:∀ t∈ [24,27,33,3,53,3,3,34],Tryz.prog.readableRec t=true∧t<Tryz.prog.types.size:=by
 have key:[24,27,33,3,53,3,3,34].all (fun t=>Tryz.prog.readableRec t&&decide (t<Tryz.prog.types.size))=true:=by kernel_rfl
 intro t ht;have:=List.all_eq_true.1 key t ht;simpa using this
noncomputable def copiedArgs:Array Value:=#[.agg #[.slice none 0 0],.agg #[.int .i64 0,.slice none 0 0],.agg #[.slice none 0 0,.slice none 0 0,.slice none 0 0,.slice none 0 0],.int .i64 0,.slice none 0 0,.int .i64 0,.int .i64 0,.slice none 0 0]
def copiedRead(H:Type):List (DataW H):=[.agg [.nil],.agg [.lit (.int .i64 0),.nil],.agg [.nil,.nil,.nil,.nil],.lit (.int .i64 0),.nil,.lit (.int .i64 0),.lit (.int .i64 0),.nil]
theorem copied_contract(H:Type)(enc:TypeId×Value→H)(W:World)(base:Nat)(args:Array Value)(ds gs:List (DataW H))(before:List MemPlace)
 (hval:∀ (j:Nat) t v,Tryz.f4.params[j]? =some t→args[j]? =some v→Value.okWide Tryz.prog W .any base t v)
 (hW:DataW.Whole enc Tryz.prog Tryz.f4.params.toList Rows.modeCopiedSpec.vars false W args.toList ds gs before) (hk:Rows.uptoSmall H (ds ++ gs)=true)
 (hL:laidMetH Tryz.prog Rows.modeCopiedUptoRow.laid W) :
 Calls Tryz.prog 4 args W fun e W'=>∃ v,e= .returned v∧Rows.modeCopiedSpec.post enc Tryz.prog Tryz.f4 false true false false W args v W':=by
 obtain⟨e,fr,h0⟩:=six_of_laid hL;have hp:Tryz.f4.params.toList=[24,27,33,3,53,3,3,34]:=by rw[Tryz.params4]
 rw[Tryz.params4] at hval;refine law_post hp rfl rfl copied_types (fun hg=>?_) hW (fun hA hg=>?_)
 ·obtain⟨p,q,hA,_⟩:=hW;rw[hp] at hA;obtain⟨_,_,d0,ds0,_,_,_,rfl,_,_,s0⟩:=trodAll_cons hA;obtain⟨_,_,d1,ds1,_,_,_,rfl,_,_,s1⟩:=trodAll_cons s0;obtain⟨_,_,d2,ds2,_,_,_,rfl,_,_,s2⟩:=trodAll_cons s1;obtain⟨_,_,d3,ds3,_,_,_,rfl,_,_,s3⟩:=trodAll_cons s2;obtain⟨_,_,d4,ds4,_,_,_,rfl,_,_,s4⟩:=trodAll_cons s3;obtain⟨_,_,d5,ds5,_,_,_,rfl,_,_,s5⟩:=trodAll_cons s4;obtain⟨_,_,d6,ds6,_,_,_,rfl,_,_,s6⟩:=trodAll_cons s5;obtain⟨_,_,d7,ds7,_,_,_,rfl,_,_,s7⟩:=trodAll_cons s6;obtain⟨_,rfl,_⟩:=trodAll_nil s7;subst hg;rfl
 ·subst hg;rw[List.append_nil] at hk;exact copied_calls hval hA (of_decide_eq_true hk) h0
theorem copied_lifted(os:Os)(started:os.Started)(H:Type)(enc:TypeId×Value→H)(F:Stop.Interp) :
 ReturnsInHanded {} Tryz.checked os 4 .any ((Rows.OpenSpec.upto Rows.modeCopiedSpec).preRow enc Tryz.prog Tryz.f4 Rows.modeCopiedUptoRow.domain false Rows.modeCopiedUptoRow.laid) (((Rows.OpenSpec.upto Rows.modeCopiedSpec).at F).post enc Tryz.prog Tryz.f4 false true false false):=by
 have hx:∃ places,DataW.whole enc Tryz.prog ((laidW os).forCall (fun _ _=>0) ⟨#[],copiedArgs,[]⟩).memory Tryz.f4.params.toList Rows.modeCopiedSpec.vars false copiedArgs.toList 8=some (copiedRead H,[],places):=⟨[],by kernel_rfl⟩
 obtain⟨places,hx⟩:=hx;refine returnsInHanded_of_row (C:=Tryz.checked) (s:=Rows.OpenSpec.upto Rows.modeCopiedSpec) own0 started (by kernel_rfl) Tryz.func4
  (witness_row_at (enc:=enc) (C:=Tryz.checked) false (laidW os) copiedArgs rfl (by kernel_rfl) (by kernel_rfl) (by kernel_rfl)
   (OpenSpec.preRow_of_cond 8 hx (by kernel_rfl) (fun k hk=>by cases hk;kernel_rfl) (by kernel_rfl) (laidMet_of_run' 8 (by kernel_rfl) (by kernel_rfl)))) ?_
 intro W base args ds gs before hval hW _ hcond _ hL _ _;exact copied_contract H enc W base args ds gs before hval hW (hcond _ rfl) hL
theorem modeCopiedUpto_holds:Rows.ModeCopiedUptoSaid :=
 OpenClaim.holds_of_cond 4 Tryz.f4 rfl rfl rfl rfl rfl rfl rfl ⟨rfl,rfl,rfl,rfl,rfl⟩ rfl rfl rfl rfl rfl (by kernel_rfl) Tryz.func4 (by kernel_rfl)
  (of_decide_eq_true (by kernel_rfl)) (by unfold Func.isWrapper;rw[if_neg (of_decide_eq_false (by kernel_rfl))];exact⟨rfl,rfl⟩)
  (fun os started H enc _ F=>by rw[OpenClaim.pre_eq_preRow];exact copied_lifted os started H enc F)
theorem copied_plain(f:FuncId)(fn:Func)(hf:Tryz.pinned.checked.prog.funcNamed "riparian/riparianlaw10.ModeCopied" =some f)(hfn:Tryz.pinned.checked.prog.funcs[f]? =some fn) :
 true=Tryz.pinned.checked.prog.looks []∧∀ (j:Nat) t,fn.params[j]? =some t→Tryz.pinned.checked.prog.wantsStandIn t=false:=by
 obtain rfl:f=4:=Option.some.inj ((show Tryz.prog.funcNamed "riparian/riparianlaw10.ModeCopied" =some 4 by kernel_rfl).symm.trans hf) |>.symm;obtain rfl:fn=Tryz.f4:=(Option.some.inj (Tryz.func4.symm.trans hfn)).symm;refine⟨by kernel_rfl,fun j t ht=>?_⟩;rw[Tryz.params4] at ht;have hm:t∈ [24,27,33,3,53,3,3,34]:=by simpa using Array.mem_of_getElem? ht
 have key:[24,27,33,3,53,3,3,34].all (fun t=> !Tryz.prog.wantsStandIn t)=true:=by kernel_rfl
 have h1:=List.all_eq_true.1 key t hm;have h2:Tryz.prog.wantsStandIn t=false:=by simpa using h1
 exact h2
theorem modeCopiedUpto_card_holds:Rows.ModeCopiedUptoCardSaid :=
 Claim7.holds_tied_plain_at .later [] _ _ _ _ modeCopiedUpto_holds (fun _ h=>by cases h) (by kernel_rfl) (fun _ h=>by cases h) modeCopiedUpto_row_tie rfl ⟨rfl,rfl⟩ (by kernel_rfl) rfl copied_plain (by kernel_rfl)
#print axioms modeCopiedUpto_card_holds
end Go.Proofs.YtkcjinnlpmhopaaGreatDoor
