/- The statemen -/
import Derived.Test.YtmjaepibdpfblaaGreatDoorTie
import Derived.Test.YtmjaepibdpfblaaGreatDoorCards
import Derived.SevenTiedAt
import Derived.Test.YtmjaepibdpfblaaGreatDoorK01
import Derived.Test.YtmjaepibdpfblaaGreatDoorZLawCkLonger
import Derived.Test.YtmjaepibdpfblaaGreatDoorK16
namespace Go.Proofs.YtmjaepibdpfblaaGreatDoor
open Go Go.ChangeShapes Go.WideShapes Go.ChangeAt Go.RowKit Go.Deep
theorem checkLonger_met (os:Os) (args:Array Value):laidMetH Tryz.prog Rows.fnCheckLongerRow.laid ((World.doorLaid Tryz.prog 400 os).forCall (fun _ _=>0) ⟨#[],args,[]⟩).memory:=
 laidMetH_of_parts3 (fuel:=8) (laidMet_of_run' 8 (by kernel_rfl) (by kernel_rfl)) (by kernel_rfl) (by kernel_rfl)
set_option maxRecDepth 100000 in
theorem checkLonger_lifted (os:Os) (started:os.Started) (H:Type) (enc:TypeId × Value→H) :
  ReturnsInHanded {} Tryz.checked os 5 .any (fun w args=>(Rows.fnCheckLongerSpec.pre enc Tryz.prog Tryz.f5 [] false w args∧laidMetH Tryz.prog Rows.fnCheckLongerRow.laid w)∧sizedMet enc Tryz.prog Tryz.f5 (OpenSpec.ofChange Rows.fnCheckLongerSpec) false w args)
   (Rows.fnCheckLongerSpec.post enc Tryz.prog Tryz.f5 false true false false):=by
 refine returnsInHanded_of_change_and (C:=Tryz.checked) (X:=fun w _=>laidMetH Tryz.prog Rows.fnCheckLongerRow.laid w) (fun _ _ _ hh h=>h.of_heap hh) own_ started (by kernel_rfl) Tryz.func5
  (ChangeSpec.witness_shaped (enc:=enc) (C:=Tryz.checked) (os:=os) (X:=fun w _=>laidMetH Tryz.prog Rows.fnCheckLongerRow.laid w) false (World.doorLaid Tryz.prog 400 os) #[.slice none 0 0] 8 rfl (World.shaped_of_RefB (by kernel_rfl) (by kernel_rfl)) (by kernel_rfl) (by kernel_rfl) (by kernel_rfl) (checkLonger_met os _)) ?_
 intro W base args ds gs before hval0 hW _ _ hL _
 have hval:∀ (j:Nat) t v,Tryz.f5.params[j]?=some t→args[j]?=some v→Value.okWide Tryz.prog W .any base t v:=hval0
 have hW':=hW
 obtain⟨p,q,hA0,hV,rfl,hfz,hnd⟩:=hW
 have hA:DataW.TrodAll enc Tryz.prog W 0 (fun _=>true) true Tryz.f5.params.toList args.toList ds p:=hA0
 rw [Tryz.params5] at hA hval
 obtain⟨v0,vs0,d0,ds0,p0,q0,hargs0,rfl,rfl,h0,r0⟩:=trodAll_cons hA
 obtain⟨rfl,rfl,rfl⟩:=trodAll_nil r0
 obtain rfl:args=#[v0]:=by cases args;simp_all
 obtain⟨rfl,rfl⟩:=trodVars_none hV
 have k0:=h0
 have lt0:∀ x∈p0,x.block<W.heap.size:=by obtain⟨m,hm⟩:=k0;exact DataW.trod_lt m _ _ _ hm
 obtain⟨A0,n0,c0,rfl,g0⟩:=arg_bytes (hval 0 _ v0 rfl rfl) h0
 rw [MakeChecks.laidMetH_plain _ _ _ (by kernel_rfl)] at hL
 have hTab:Tab W:=tab_two hL
 clear hA0 hval0 hval
 refine (law_CheckLonger g0.1 g0.2.1 g0.2.2.1 g0.2.2.2 hTab).mono fun e W' ⟨he,hx⟩=>?_
 subst he
 have bel:Below W.heap.size W W':=⟨hx.os,hx.tape,hx.output,hx.size,fun k hk=>hx.block k hk id⟩
 exact⟨_,rfl,_,_,_,[],_,[],hW',trodAll_mk1 (shut_bool Tryz.underlying4 _),(trodAll_cons_mk (Below.trod laidOut_ (by kernel_rfl) (of_decide_eq_true (by kernel_rfl)) k0 bel lt0) trodAll_mk0),rfl,bel.frame _,fun h=>by cases h⟩
set_option maxHeartbeats 4000000
theorem checkLonger_closed:joinedFacts Tryz.pinned.checked.prog 5 Tryz.f5 Rows.fnCheckLongerSpec Rows.fnCheckLongerRow=true:=by
 unfold joinedFacts
 iterate 31 (refine and_t ?_ ?_;rotate_left;as_aux_lemma=>kernel_rfl)
 as_aux_lemma=>kernel_rfl
theorem checkLonger_row:Rows.FnCheckLongerSaid:=
 OpenClaim.holds_of_wide 5 Tryz.f5 rfl rfl rfl rfl rfl rfl rfl ⟨rfl,rfl,rfl,rfl,rfl⟩ rfl rfl rfl rfl rfl (by as_aux_lemma=>kernel_rfl) Tryz.func5 checkLonger_closed
  (of_decide_eq_true (by as_aux_lemma=>kernel_rfl)) (by unfold Func.isWrapper;first|(rw [if_pos (by decide +kernel)];kernel_rfl)|(rw [if_neg (by decide +kernel)];exact⟨rfl,rfl⟩))
  (fun os started H enc _=>checkLonger_lifted os started H enc)
theorem checkLonger_holds:Rows.FnCheckLongerCardSaid:=
 Claim7.holds_tied_plain_at .later [] [.data, .data] true (true, "f5137c83c72f010788caafbe5056df3e73ce72faf3d07bccaff3450f48c7afb8") false
  checkLonger_row (fun _ h=>by cases h) (by as_aux_lemma=>kernel_rfl) (fun _ h=>by cases h) fnCheckLonger_row_tie rfl ⟨rfl,rfl⟩ (by as_aux_lemma=>kernel_rfl) rfl
  (fun f fn hf hfn=>by
   obtain rfl : f = 5 := Option.some.inj ((show Tryz.prog.funcNamed "loop.example/assumeguarantee/laws.FnCheckLonger" = some 5 by as_aux_lemma => kernel_rfl).symm.trans hf) |>.symm
   obtain rfl:fn=Tryz.f5:=(Option.some.inj (Tryz.func5.symm.trans hfn)).symm
   exact⟨by as_aux_lemma=>kernel_rfl,fun j t ht=>by
    have hall:(Tryz.f5.params.toList.all fun u=>!Tryz.prog.wantsStandIn u)=true:=by as_aux_lemma=>kernel_rfl
    exact (show Tryz.prog.wantsStandIn t=false by simpa using List.all_eq_true.1 hall t (by simpa using Array.mem_of_getElem? ht))⟩)
  (by as_aux_lemma=>kernel_rfl)
end Go.Proofs.YtmjaepibdpfblaaGreatDoor
