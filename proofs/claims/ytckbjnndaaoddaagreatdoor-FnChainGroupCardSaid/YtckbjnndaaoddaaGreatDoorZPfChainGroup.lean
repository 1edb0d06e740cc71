/- The statemen -/
import Derived.Test.YtckbjnndaaoddaaGreatDoorTie
import Derived.Test.YtckbjnndaaoddaaGreatDoorCards
import Derived.SevenTiedAt
import Derived.Test.YtckbjnndaaoddaaGreatDoorY01
import Derived.Test.YtckbjnndaaoddaaGreatDoorZLawVGroup
import Derived.Test.YtckbjnndaaoddaaGreatDoorY18
namespace Go.Proofs.YtckbjnndaaoddaaGreatDoor
open Go Go.ChangeShapes Go.WideShapes Go.ChangeAt Go.RowKit Go.Deep
theorem chainGroup_met (os:Os) (args:Array Value):laidMetH Tryz.prog Rows.fnChainGroupRow.laid ((World.doorLaid Tryz.prog 400 os).forCall (fun _ _=>0) ⟨#[],args,[]⟩).memory:=
 laidMetH_of_parts3 (fuel:=8) (laidMet_of_run' 8 kM kM) kM kM
set_option maxRecDepth 100000 in
theorem chainGroup_lifted (os:Os) (started:os.Started) (H:Type) (enc:TypeId × Value->H) :
  ReturnsInHanded {} Tryz.checked os 3 .any (fun w args=>(Rows.fnChainGroupSpec.pre enc Tryz.prog Tryz.f3 [] false w args∧laidMetH Tryz.prog Rows.fnChainGroupRow.laid w)∧sizedMet enc Tryz.prog Tryz.f3 (OpenSpec.ofChange Rows.fnChainGroupSpec) false w args)
   (Rows.fnChainGroupSpec.post enc Tryz.prog Tryz.f3 false true false false):=by
 refine returnsInHanded_of_change_and (C:=Tryz.checked) (X:=fun w _=>laidMetH Tryz.prog Rows.fnChainGroupRow.laid w) (fun _ _ _ hh h=>h.of_heap hh) own_ started kM Tryz.func3
  (ChangeSpec.witness_shaped (enc:=enc) (C:=Tryz.checked) (os:=os) (X:=fun w _=>laidMetH Tryz.prog Rows.fnChainGroupRow.laid w) false (World.doorLaid Tryz.prog 400 os) #[.slice none 0 0] 8 rfl (World.shaped_of_RefB kM kM) kM kM kM (chainGroup_met os _)) ?_
 intro W base args ds gs before hval0 hW _ _ hL _;have a:∀ (j:Nat) t v,Tryz.f3.params[j]?=some t->args[j]?=some v->Value.okWide Tryz.prog W .any base t v:=hval0;have i:=hW;obtain⟨p,q,c,y,rfl,z,D⟩:=hW;have o:DataW.TrodAll enc Tryz.prog W 0 (fun _=>true) true Tryz.f3.params.toList args.toList ds p:=c;rw [Tryz.params3] at o a;obtain⟨s,G,L,u,E,O,g,rfl,rfl,n,F⟩:=trodAll_cons o;obtain⟨rfl,rfl,rfl⟩:=trodAll_nil F;obtain rfl:args=#[s]:=by cases args;simp_all
 obtain⟨rfl,rfl⟩:=trodVars_none y;have r:=n;have l:∀ x∈E,x.block<W.heap.size:=by obtain⟨m,B⟩:=r;exact DataW.trod_lt m _ _ _ B
 obtain⟨I,M,J,rfl,f⟩:=arg_bytes (a 0 _ s rfl rfl) n;rw [MakeChecks.laidMetH_plain _ _ _ kM] at hL;have d:Tab W:=tab_two hL;clear c hval0 a;refine (law_ChainGroup f.1 f.2.1 f.2.2.1 f.2.2.2 d).mono fun e W' ⟨he,hx⟩=>?_;subst he;have b:Below W.heap.size W W':=⟨hx.os,hx.tape,hx.output,hx.size,fun k hk=>hx.block k hk id⟩;exact⟨_,rfl,_,_,_,[],_,[],i,trodAll_mk1 (shut_bool Tryz.underlying4 _),(trodAll_cons_mk (Below.trod laidOut_ kM (of_decide_eq_true kM) r b l) trodAll_mk0),rfl,b.frame _,fun h=>by cases h⟩
set_option maxHeartbeats 4000000
theorem chainGroup_closed:joinedFacts Tryz.pinned.checked.prog 3 Tryz.f3 Rows.fnChainGroupSpec Rows.fnChainGroupRow=true:=by
 unfold joinedFacts
 iterate 31 (refine and_t ?_ ?_;rotate_left;as_aux_lemma=>kernel_rfl)
 as_aux_lemma=>kernel_rfl
theorem chainGroup_row:Rows.FnChainGroupSaid:=
 OpenClaim.holds_of_wide 3 Tryz.f3 rfl rfl rfl rfl rfl rfl rfl ⟨rfl,rfl,rfl,rfl,rfl⟩ rfl rfl rfl rfl rfl (by as_aux_lemma=>kernel_rfl) Tryz.func3 chainGroup_closed
  (of_decide_eq_true (by as_aux_lemma=>kernel_rfl)) (by unfold Func.isWrapper;first|(rw [if_pos (by decide +kernel)];kernel_rfl)|(rw [if_neg (by decide +kernel)];exact⟨rfl,rfl⟩))
  (fun os started H enc _=>chainGroup_lifted os started H enc)
theorem chainGroup_holds:Rows.FnChainGroupCardSaid:=
 Claim7.holds_tied_plain_at .later [] [.data, .data] true (true, "bdf1789aad60a3d712b9ae5ccdd5bcc8f25c86e07e96b12c2c3c17451d746298") false
  chainGroup_row (fun _ h=>by cases h) (by as_aux_lemma=>kernel_rfl) (fun _ h=>by cases h) fnChainGroup_row_tie rfl ⟨rfl,rfl⟩ (by as_aux_lemma=>kernel_rfl) rfl
  (fun f fn hf hfn=>by
   obtain rfl : f = 3 := Option.some.inj ((show Tryz.prog.funcNamed "loop.example/assumeguarantee/laws.FnChainGroup" = some 3 by as_aux_lemma => kernel_rfl).symm.trans hf) |>.symm
   obtain rfl:fn=Tryz.f3:=(Option.some.inj (Tryz.func3.symm.trans hfn)).symm;exact⟨by as_aux_lemma=>kernel_rfl,fun j t ht=>by
    have hall:(Tryz.f3.params.toList.all fun u=>!Tryz.prog.wantsStandIn u)=true:=by as_aux_lemma=>kernel_rfl
    exact (show Tryz.prog.wantsStandIn t=false by simpa using List.all_eq_true.1 hall t (by simpa using Array.mem_of_getElem? ht))⟩)
  (by as_aux_lemma=>kernel_rfl)
end Go.Proofs.YtckbjnndaaoddaaGreatDoor
