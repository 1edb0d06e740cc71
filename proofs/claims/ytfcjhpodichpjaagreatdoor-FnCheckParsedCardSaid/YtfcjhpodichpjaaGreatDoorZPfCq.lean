/- The statemen -/
import Derived.Test.YtfcjhpodichpjaaGreatDoorTie
import Derived.Test.YtfcjhpodichpjaaGreatDoorCards
import Derived.SevenTiedAt
import Derived.Lay
import Derived.Test.YtfcjhpodichpjaaGreatDoorQ02
import Derived.Test.YtfcjhpodichpjaaGreatDoorZLawCq
import Derived.Test.YtfcjhpodichpjaaGreatDoorQ16
namespace Go.Proofs.YtfcjhpodichpjaaGreatDoor
open Go Go.ChangeShapes Go.WideShapes Go.ChangeAt Go.RowKit Go.Deep
theorem checkParsed_met (os:Os) (args:Array Value):laidMetH Tryz.prog Rows.fnCheckParsedRow.laid ((World.laidAll Tryz.prog os Rows.fnCheckParsedRow.laid).forCall (fun _ _=>0) ⟨#[],args,[]⟩).memory:=by
 rw [MakeChecks.laidMetH_plain _ _ _ kM];exact laidMet_laidAll _ kM kM
set_option maxRecDepth 100000 in
theorem checkParsed_lifted (os:Os) (started:os.Started) (H:Type) (enc:TypeId × Value->H) :
  ReturnsInHanded {} Tryz.checked os 4 .any (fun w args=>(Rows.fnCheckParsedSpec.pre enc Tryz.prog Tryz.f4 [] false w args∧laidMetH Tryz.prog Rows.fnCheckParsedRow.laid w)∧sizedMet enc Tryz.prog Tryz.f4 (OpenSpec.ofChange Rows.fnCheckParsedSpec) false w args)
   (Rows.fnCheckParsedSpec.post enc Tryz.prog Tryz.f4 false true false false):=by
 refine returnsInHanded_of_change_and (C:=Tryz.checked) (X:=fun w _=>laidMetH Tryz.prog Rows.fnCheckParsedRow.laid w) (fun _ _ _ hh h=>h.of_heap hh) own_ started kM Tryz.func4
  (ChangeSpec.witness_shaped (enc:=enc) (C:=Tryz.checked) (os:=os) (X:=fun w _=>laidMetH Tryz.prog Rows.fnCheckParsedRow.laid w) false (World.laidAll Tryz.prog os Rows.fnCheckParsedRow.laid) #[.slice none 0 0] 8 (World.laidAll_os _ _ _) (World.shaped_of_ZipB kM kM) kM kM kM (checkParsed_met os _)) ?_
 intro W base args ds gs before hval0 hW _ _ hL _;have a:∀ (j:Nat) t v,Tryz.f4.params[j]?=some t->args[j]?=some v->Value.okWide Tryz.prog W .any base t v:=hval0;have l:=hW;obtain⟨p,q,d,z,rfl,B,E⟩:=hW;have r:DataW.TrodAll enc Tryz.prog W 0 (fun _=>true) true Tryz.f4.params.toList args.toList ds p:=d;rw [Tryz.params4] at r a;obtain⟨u,I,M,y,F,Q,i,rfl,rfl,o,G⟩:=trodAll_cons r;obtain⟨rfl,rfl,rfl⟩:=trodAll_nil G;obtain rfl:args=#[u]:=by cases args;simp_all
 obtain⟨rfl,rfl⟩:=trodVars_none z;have s:=o;have n:∀ x∈F,x.block<W.heap.size:=by obtain⟨m,D⟩:=s;exact DataW.trod_lt m _ _ _ D
 obtain⟨J,O,L,rfl,g⟩:=arg_bytes (a 0 _ u rfl rfl) o;rw [MakeChecks.laidMetH_plain _ _ _ kM] at hL;have f:Tab W:=tab_two hL;have b:Sent W:=sent_of (laidMet.tail (laidMet.tail (laidMet.tail (laidMet.tail hL))));clear d hval0 a;refine (law_CheckParsed g.1 g.2.1 g.2.2.1 g.2.2.2 f b).mono fun e W' ⟨he,hx⟩=>?_;subst he;have c:Below W.heap.size W W':=⟨hx.os,hx.tape,hx.output,hx.size,fun k hk=>hx.block k hk id⟩;exact⟨_,rfl,_,_,_,[],_,[],l,trodAll_mk1 (shut_bool Tryz.underlying4 _),(trodAll_cons_mk (Below.trod laidOut_ kM (of_decide_eq_true kM) s c n) trodAll_mk0),rfl,c.frame _,fun h=>by cases h⟩
set_option maxHeartbeats 4000000
theorem checkParsed_closed:joinedFacts Tryz.pinned.checked.prog 4 Tryz.f4 Rows.fnCheckParsedSpec Rows.fnCheckParsedRow=true:=by
 unfold joinedFacts
 iterate 31 (refine and_t ?_ ?_;rotate_left;as_aux_lemma=>kernel_rfl)
 as_aux_lemma=>kernel_rfl
theorem checkParsed_row:Rows.FnCheckParsedSaid:=
 OpenClaim.holds_of_wide 4 Tryz.f4 rfl rfl rfl rfl rfl rfl rfl ⟨rfl,rfl,rfl,rfl,rfl⟩ rfl rfl rfl rfl rfl (by as_aux_lemma=>kernel_rfl) Tryz.func4 checkParsed_closed
  (of_decide_eq_true (by as_aux_lemma=>kernel_rfl)) (by unfold Func.isWrapper;first|(rw [if_pos (by decide +kernel)];kernel_rfl)|(rw [if_neg (by decide +kernel)];exact⟨rfl,rfl⟩))
  (fun os started H enc _=>checkParsed_lifted os started H enc)
theorem checkParsed_holds:Rows.FnCheckParsedCardSaid:=
 Claim7.holds_tied_plain_at .later [] [.data, .data, .data, .data, .sentinel, .sentinel, .pinned] true (true, "4d14b9cc3685e65b5479827519d1f84885a2aea983a2a27a6ca3cde44893750c") true
  checkParsed_row (fun _ h=>by cases h) (by as_aux_lemma=>kernel_rfl) (fun _ h=>by cases h) fnCheckParsed_row_tie rfl ⟨rfl,rfl⟩ (by as_aux_lemma=>kernel_rfl) rfl
  (fun f fn hf hfn=>by
   obtain rfl : f = 4 := Option.some.inj ((show Tryz.prog.funcNamed "loop.example/assumeguarantee/laws.FnCheckParsed" = some 4 by as_aux_lemma => kernel_rfl).symm.trans hf) |>.symm
   obtain rfl:fn=Tryz.f4:=(Option.some.inj (Tryz.func4.symm.trans hfn)).symm;exact⟨by as_aux_lemma=>kernel_rfl,fun j t ht=>by
    have hall:(Tryz.f4.params.toList.all fun u=>!Tryz.prog.wantsStandIn u)=true:=by as_aux_lemma=>kernel_rfl
    exact (show Tryz.prog.wantsStandIn t=false by simpa using List.all_eq_true.1 hall t (by simpa using Array.mem_of_getElem? ht))⟩)
  (by as_aux_lemma=>kernel_rfl)
end Go.Proofs.YtfcjhpodichpjaaGreatDoor
