/- The statemen -/
import Derived.Test.YtcfchopfijalpaaGreatDoorTie
import Derived.Test.YtcfchopfijalpaaGreatDoorCards
import Derived.SevenTiedAt
import Derived.Test.YtcfchopfijalpaaGreatDoorV01
import Derived.Test.YtcfchopfijalpaaGreatDoorZLawVc
namespace Go.Proofs.YtcfchopfijalpaaGreatDoor
open Go Go.ChangeShapes Go.WideShapes Go.ChangeAt Go.RowKit Go.Deep
theorem exactVerifyChain_met (os:Os) (args:Array Value):laidMetH Tryz.prog Rows.fnExactVerifyChainRow.laid ((World.doorLaid Tryz.prog 400 os).forCall (fun _ _=>0) ⟨#[],args,[]⟩).memory:=
 laidMetH_of_parts3 (fuel:=8) (laidMet_of_run' 8 kM kM) kM kM
set_option maxRecDepth 100000 in
theorem exactVerifyChain_lifted (os:Os) (started:os.Started) (H:Type) (enc:TypeId × Value->H) :
  ReturnsInHanded {} Tryz.checked os 4 .any (fun w args=>(Rows.fnExactVerifyChainSpec.pre enc Tryz.prog Tryz.f4 [] false w args∧laidMetH Tryz.prog Rows.fnExactVerifyChainRow.laid w)∧sizedMet enc Tryz.prog Tryz.f4 (OpenSpec.ofChange Rows.fnExactVerifyChainSpec) false w args)
   (Rows.fnExactVerifyChainSpec.post enc Tryz.prog Tryz.f4 false true false false):=by
 refine returnsInHanded_of_change_and (C:=Tryz.checked) (X:=fun w _=>laidMetH Tryz.prog Rows.fnExactVerifyChainRow.laid w) (fun _ _ _ hh h=>h.of_heap hh) own_ started kM Tryz.func4
  (ChangeSpec.witness_shaped (enc:=enc) (C:=Tryz.checked) (os:=os) (X:=fun w _=>laidMetH Tryz.prog Rows.fnExactVerifyChainRow.laid w) false (World.doorLaid Tryz.prog 400 os) #[.slice none 0 0,.agg #[.int .i64 0,.slice none 0 0,.slice none 0 0]] 8 rfl (World.shaped_of_RefB kM kM) kM kM kM (exactVerifyChain_met os _)) ?_
 intro W base args ds gs before hval0 hW _ _ hL _;have a:∀ (j:Nat) t v,Tryz.f4.params[j]?=some t->args[j]?=some v->Value.okWide Tryz.prog W .any base t v:=hval0;have i:=hW;obtain⟨p,q,d,J,rfl,L,M⟩:=hW;have u:DataW.TrodAll enc Tryz.prog W 0 (fun _=>true) true Tryz.f4.params.toList args.toList ds p:=d;rw [Tryz.params4] at u a;obtain⟨B,T,d0,E,O,q0,g,rfl,rfl,r,R⟩:=trodAll_cons u;obtain⟨D,U,d1,F,Q,q1,b,rfl,rfl,s,S⟩:=trodAll_cons R;subst b;obtain⟨rfl,rfl,rfl⟩:=trodAll_nil S;obtain rfl:args=#[B,D]:=by cases args;simp_all
 obtain⟨rfl,rfl⟩:=trodVars_none J;have y:=r;have n:∀ x∈O,x.block<W.heap.size:=by obtain⟨m,l⟩:=y;exact DataW.trod_lt m _ _ _ l
 have z:=s;have o:∀ x∈Q,x.block<W.heap.size:=by obtain⟨m,l⟩:=z;exact DataW.trod_lt m _ _ _ l
 obtain⟨a0,V,n0,c0,rfl,G⟩:=arg_systems (a 0 _ B rfl rfl) r;obtain⟨a1,Y,n1,c1,Z,m1,e1,rfl,I⟩:=arg_aut (a 1 _ D rfl rfl) s;rw [MakeChecks.laidMetH_plain _ _ _ kM] at hL;have f:Tab W:=tab_two hL;clear d hval0 a;refine (law_ExactVerifyChain G I f).mono fun e W' ⟨he,hx⟩=>?_;subst he;have c:Below W.heap.size W W':=⟨hx.os,hx.tape,hx.output,hx.size,fun k hk=>hx.block k hk id⟩;exact⟨_,rfl,_,_,_,[],_,[],i,trodAll_mk1 (shut_bool Tryz.underlying4 _),(trodAll_cons_mk (Below.trod laidOut_ kM (of_decide_eq_true kM) y c n) (trodAll_cons_mk (Below.trod laidOut_ kM (of_decide_eq_true kM) z c o) trodAll_mk0)),rfl,c.frame _,fun h=>by cases h⟩
set_option maxHeartbeats 4000000
theorem exactVerifyChain_closed:joinedFacts Tryz.pinned.checked.prog 4 Tryz.f4 Rows.fnExactVerifyChainSpec Rows.fnExactVerifyChainRow=true:=by
 unfold joinedFacts
 iterate 31 (refine and_t ?_ ?_;rotate_left;as_aux_lemma=>kernel_rfl)
 as_aux_lemma=>kernel_rfl
theorem exactVerifyChain_row:Rows.FnExactVerifyChainSaid:=
 OpenClaim.holds_of_wide 4 Tryz.f4 rfl rfl rfl rfl rfl rfl rfl ⟨rfl,rfl,rfl,rfl,rfl⟩ rfl rfl rfl rfl rfl (by as_aux_lemma=>kernel_rfl) Tryz.func4 exactVerifyChain_closed
  (of_decide_eq_true (by as_aux_lemma=>kernel_rfl)) (by unfold Func.isWrapper;first|(rw [if_pos (by decide +kernel)];kernel_rfl)|(rw [if_neg (by decide +kernel)];exact⟨rfl,rfl⟩))
  (fun os started H enc _=>exactVerifyChain_lifted os started H enc)
theorem exactVerifyChain_holds:Rows.FnExactVerifyChainCardSaid:=
 Claim7.holds_tied_plain_at .later [] [.data, .data] true (true, "6b22d0b67bc171b43e9bfb5c88b3c7120b9fb5a69a027ab593f80e0dbfe20da8") false
  exactVerifyChain_row (fun _ h=>by cases h) (by as_aux_lemma=>kernel_rfl) (fun _ h=>by cases h) fnExactVerifyChain_row_tie rfl ⟨rfl,rfl⟩ (by as_aux_lemma=>kernel_rfl) rfl
  (fun f fn hf hfn=>by
   obtain rfl : f = 4 := Option.some.inj ((show Tryz.prog.funcNamed "loop.example/assumeguarantee/laws.FnExactVerifyChain" = some 4 by as_aux_lemma => kernel_rfl).symm.trans hf) |>.symm
   obtain rfl:fn=Tryz.f4:=(Option.some.inj (Tryz.func4.symm.trans hfn)).symm;exact⟨by as_aux_lemma=>kernel_rfl,fun j t ht=>by
    have hall:(Tryz.f4.params.toList.all fun u=>!Tryz.prog.wantsStandIn u)=true:=by as_aux_lemma=>kernel_rfl
    exact (show Tryz.prog.wantsStandIn t=false by simpa using List.all_eq_true.1 hall t (by simpa using Array.mem_of_getElem? ht))⟩)
  (by as_aux_lemma=>kernel_rfl)
end Go.Proofs.YtcfchopfijalpaaGreatDoor
