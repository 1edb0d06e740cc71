/- The statemen -/
import Derived.Test.YtcfchopfijalpaaGreatDoorTie
import Derived.Test.YtcfchopfijalpaaGreatDoorCards
import Derived.SevenTiedAt
import Derived.Test.YtcfchopfijalpaaGreatDoorE01
import Derived.Test.YtcfchopfijalpaaGreatDoorZLawPCheckAgainst
import Derived.Test.YtcfchopfijalpaaGreatDoorE17
namespace Go.Proofs.YtcfchopfijalpaaGreatDoor
open Go Go.ChangeShapes Go.WideShapes Go.ChangeAt Go.RowKit Go.Deep
theorem checkAgainst_met (os:Os) (args:Array Value):laidMetH Tryz.prog Rows.fnCheckAgainstRow.laid ((World.doorLaid Tryz.prog 400 os).forCall (fun _ _=>0) ⟨#[],args,[]⟩).memory:=
 laidMetH_of_parts3 (fuel:=8) (laidMet_of_run' 8 kM kM) kM kM
set_option maxRecDepth 100000 in
theorem checkAgainst_lifted (os:Os) (started:os.Started) (H:Type) (enc:TypeId × Value->H) :
  ReturnsInHanded {} Tryz.checked os 14 .any (fun w args=>(Rows.fnCheckAgainstSpec.pre enc Tryz.prog Tryz.f14 [] false w args∧laidMetH Tryz.prog Rows.fnCheckAgainstRow.laid w)∧sizedMet enc Tryz.prog Tryz.f14 (OpenSpec.ofChange Rows.fnCheckAgainstSpec) false w args)
   (Rows.fnCheckAgainstSpec.post enc Tryz.prog Tryz.f14 false true false false):=by
 refine returnsInHanded_of_change_and (C:=Tryz.checked) (X:=fun w _=>laidMetH Tryz.prog Rows.fnCheckAgainstRow.laid w) (fun _ _ _ hh h=>h.of_heap hh) own_ started kM Tryz.func14
  (ChangeSpec.witness_shaped (enc:=enc) (C:=Tryz.checked) (os:=os) (X:=fun w _=>laidMetH Tryz.prog Rows.fnCheckAgainstRow.laid w) false (World.doorLaid Tryz.prog 400 os) #[.slice none 0 0,.slice none 0 0] 8 rfl (World.shaped_of_RefB kM kM) kM kM kM (checkAgainst_met os _)) ?_
 intro W base args ds gs before hval0 hW _ _ hL _;have a:∀ (j:Nat) t v,Tryz.f14.params[j]?=some t->args[j]?=some v->Value.okWide Tryz.prog W .any base t v:=hval0;have n:=hW;obtain⟨p,q,d,J,rfl,L,M⟩:=hW;have z:DataW.TrodAll enc Tryz.prog W 0 (fun _=>true) true Tryz.f14.params.toList args.toList ds p:=d;rw [Tryz.params14] at z a;obtain⟨E,T,d0,G,O,q0,l,rfl,rfl,u,R⟩:=trodAll_cons z;obtain⟨F,U,d1,I,Q,q1,b,rfl,rfl,y,S⟩:=trodAll_cons R;subst b;obtain⟨rfl,rfl,rfl⟩:=trodAll_nil S;obtain rfl:args=#[E,F]:=by cases args;simp_all
 obtain⟨rfl,rfl⟩:=trodVars_none J;have B:=u;have r:∀ x∈O,x.block<W.heap.size:=by obtain⟨m,o⟩:=B;exact DataW.trod_lt m _ _ _ o
 have D:=y;have s:∀ x∈Q,x.block<W.heap.size:=by obtain⟨m,o⟩:=D;exact DataW.trod_lt m _ _ _ o
 obtain⟨V,n0,Z,rfl,g⟩:=arg_bytes (a 0 _ E rfl rfl) u;obtain⟨Y,n1,c1,rfl,i⟩:=arg_bytes (a 1 _ F rfl rfl) y;rw [MakeChecks.laidMetH_plain _ _ _ kM] at hL;have f:Tab W:=tab_two hL;clear d hval0 a;refine (law_CheckAgainst g.1 g.2.1 g.2.2.1 g.2.2.2 i.1 i.2.1 i.2.2.1 i.2.2.2 f).mono fun e W' ⟨he,hx⟩=>?_;subst he;have c:Below W.heap.size W W':=⟨hx.os,hx.tape,hx.output,hx.size,fun k hk=>hx.block k hk id⟩;exact⟨_,rfl,_,_,_,[],_,[],n,trodAll_mk1 (shut_bool Tryz.underlying4 _),(trodAll_cons_mk (Below.trod laidOut_ kM (of_decide_eq_true kM) B c r) (trodAll_cons_mk (Below.trod laidOut_ kM (of_decide_eq_true kM) D c s) trodAll_mk0)),rfl,c.frame _,fun h=>by cases h⟩
set_option maxHeartbeats 4000000
theorem checkAgainst_closed:joinedFacts Tryz.pinned.checked.prog 14 Tryz.f14 Rows.fnCheckAgainstSpec Rows.fnCheckAgainstRow=true:=by
 unfold joinedFacts
 iterate 31 (refine and_t ?_ ?_;rotate_left;as_aux_lemma=>kernel_rfl)
 as_aux_lemma=>kernel_rfl
theorem checkAgainst_row:Rows.FnCheckAgainstSaid:=
 OpenClaim.holds_of_wide 14 Tryz.f14 rfl rfl rfl rfl rfl rfl rfl ⟨rfl,rfl,rfl,rfl,rfl⟩ rfl rfl rfl rfl rfl (by as_aux_lemma=>kernel_rfl) Tryz.func14 checkAgainst_closed
  (of_decide_eq_true (by as_aux_lemma=>kernel_rfl)) (by unfold Func.isWrapper;first|(rw [if_pos (by decide +kernel)];kernel_rfl)|(rw [if_neg (by decide +kernel)];exact⟨rfl,rfl⟩))
  (fun os started H enc _=>checkAgainst_lifted os started H enc)
theorem checkAgainst_holds:Rows.FnCheckAgainstCardSaid:=
 Claim7.holds_tied_plain_at .later [] [.data, .data] true (true, "6b22d0b67bc171b43e9bfb5c88b3c7120b9fb5a69a027ab593f80e0dbfe20da8") false
  checkAgainst_row (fun _ h=>by cases h) (by as_aux_lemma=>kernel_rfl) (fun _ h=>by cases h) fnCheckAgainst_row_tie rfl ⟨rfl,rfl⟩ (by as_aux_lemma=>kernel_rfl) rfl
  (fun f fn hf hfn=>by
   obtain rfl : f = 14 := Option.some.inj ((show Tryz.prog.funcNamed "loop.example/assumeguarantee/laws.FnCheckAgainst" = some 14 by as_aux_lemma => kernel_rfl).symm.trans hf) |>.symm
   obtain rfl:fn=Tryz.f14:=(Option.some.inj (Tryz.func14.symm.trans hfn)).symm;exact⟨by as_aux_lemma=>kernel_rfl,fun j t ht=>by
    have hall:(Tryz.f14.params.toList.all fun u=>!Tryz.prog.wantsStandIn u)=true:=by as_aux_lemma=>kernel_rfl
    exact (show Tryz.prog.wantsStandIn t=false by simpa using List.all_eq_true.1 hall t (by simpa using Array.mem_of_getElem? ht))⟩)
  (by as_aux_lemma=>kernel_rfl)
end Go.Proofs.YtcfchopfijalpaaGreatDoor
