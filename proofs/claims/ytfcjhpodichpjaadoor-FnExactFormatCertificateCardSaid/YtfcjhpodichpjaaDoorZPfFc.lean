/- The statemen -/
import Derived.Test.YtfcjhpodichpjaaDoorTie
import Derived.Test.YtfcjhpodichpjaaDoorCards
import Derived.SevenTiedAt
import Derived.Lib.LaidTab
import Derived.LaidMore
import Derived.ProofKit
import Derived.Stop.Joined
import Derived.Stop.LaidErr
import Derived.Lib.TrailingZeros
import Derived.Shelf.Spec.TrailingZeros
import Derived.Test.YtfcjhpodichpjaaDoorU01
import Derived.Test.YtfcjhpodichpjaaDoorZLawFc
import Derived.Test.YtfcjhpodichpjaaDoorU02
namespace Go.Proofs.YtfcjhpodichpjaaDoor
open Go Go.ChangeShapes Go.WideShapes Go.ChangeAt Go.RowKit Go.Deep
theorem exactFormatCertificate_met (os:Os) (args:Array Value):laidMetH Tryd.prog Rows.fnExactFormatCertificateRow.laid ((World.doorLaid Tryd.prog 400 os).forCall (fun _ _=>0) ⟨#[],args,[]⟩).memory:=
 laidMetH_of_parts3 (fuel:=8) (laidMet_of_run' 8 (by kernel_rfl) (by kernel_rfl)) (by kernel_rfl) (by kernel_rfl)
set_option maxRecDepth 100000 in
theorem exactFormatCertificate_lifted (os:Os) (started:os.Started) (H:Type) (enc:TypeId × Value→H) :
  ReturnsInHanded {} Tryd.checked os 3 .any (fun w args=>(Rows.fnExactFormatCertificateSpec.pre enc Tryd.prog Tryd.f3 [] false w args∧laidMetH Tryd.prog Rows.fnExactFormatCertificateRow.laid w)∧sizedMet enc Tryd.prog Tryd.f3 (OpenSpec.ofChange Rows.fnExactFormatCertificateSpec) false w args)
   (Rows.fnExactFormatCertificateSpec.post enc Tryd.prog Tryd.f3 false true false false):=by
 refine returnsInHanded_of_change_and (C:=Tryd.checked) (X:=fun w _=>laidMetH Tryd.prog Rows.fnExactFormatCertificateRow.laid w) (fun _ _ _ hh h=>h.of_heap hh) own_ started (by kernel_rfl) Tryd.func3
  (ChangeSpec.witness_shaped (enc:=enc) (C:=Tryd.checked) (os:=os) (X:=fun w _=>laidMetH Tryd.prog Rows.fnExactFormatCertificateRow.laid w) false (World.doorLaid Tryd.prog 400 os) #[.agg #[.bool false,.int .i64 0,.slice none 0 0,.slice none 0 0,.string ByteArray.empty]] 8 rfl (World.shaped_of_RefB (by kernel_rfl) (by kernel_rfl)) (by kernel_rfl) (by kernel_rfl) (by kernel_rfl) (exactFormatCertificate_met os _)) ?_
 intro W base args ds gs before hval0 hW _ _ hL _
 have hval:∀ (j:Nat) t v,Tryd.f3.params[j]?=some t→args[j]?=some v→Value.okWide Tryd.prog W .any base t v:=hval0
 have hW':=hW
 obtain⟨p,q,hA0,hV,rfl,hfz,hnd⟩:=hW
 have hA:DataW.TrodAll enc Tryd.prog W 0 (fun _=>true) true Tryd.f3.params.toList args.toList ds p:=hA0
 rw [Tryd.params3] at hA hval
 obtain⟨v0,vs0,d0,ds0,p0,q0,hargs0,rfl,rfl,h0,r0⟩:=trodAll_cons hA
 obtain⟨rfl,rfl,rfl⟩:=trodAll_nil r0
 obtain rfl:args=#[v0]:=by cases args;simp_all
 obtain⟨rfl,rfl⟩:=trodVars_none hV
 have k0:=h0
 have lt0:∀ x∈p0,x.block<W.heap.size:=by obtain⟨m,hm⟩:=k0;exact DataW.trod_lt m _ _ _ hm
 obtain⟨hd0,a0,A0,n0,c0,B0,m0,e0,s0,rfl,g0⟩:=arg_cert (hval 0 _ v0 rfl rfl) h0
 clear hA0 hval0 hval
 refine (law_FormatCertificate g0.1 g0.2).mono fun e W' ⟨he,hx⟩=>?_
 subst he
 have bel:Below W.heap.size W W':=⟨hx.os,hx.tape,hx.output,hx.size,fun k hk=>hx.block k hk id⟩
 exact⟨_,rfl,_,_,_,[],_,[],hW',trodAll_mk1 (shut_bool Tryd.underlying4 _),(trodAll_cons_mk (Below.trod laidOut_ (by kernel_rfl) (of_decide_eq_true (by kernel_rfl)) k0 bel lt0) trodAll_mk0),rfl,bel.frame _,fun h=>by cases h⟩
set_option maxHeartbeats 4000000
theorem exactFormatCertificate_closed:joinedFacts Tryd.pinned.checked.prog 3 Tryd.f3 Rows.fnExactFormatCertificateSpec Rows.fnExactFormatCertificateRow=true:=by
 unfold joinedFacts
 iterate 31 (refine and_t ?_ ?_;rotate_left;as_aux_lemma=>kernel_rfl)
 as_aux_lemma=>kernel_rfl
theorem exactFormatCertificate_row:Rows.FnExactFormatCertificateSaid:=
 OpenClaim.holds_of_wide 3 Tryd.f3 rfl rfl rfl rfl rfl rfl rfl ⟨rfl,rfl,rfl,rfl,rfl⟩ rfl rfl rfl rfl rfl (by as_aux_lemma=>kernel_rfl) Tryd.func3 exactFormatCertificate_closed
  (of_decide_eq_true (by as_aux_lemma=>kernel_rfl)) (by unfold Func.isWrapper;first|(rw [if_pos (by decide +kernel)];kernel_rfl)|(rw [if_neg (by decide +kernel)];exact⟨rfl,rfl⟩))
  (fun os started H enc _=>exactFormatCertificate_lifted os started H enc)
theorem exactFormatCertificate_holds:Rows.FnExactFormatCertificateCardSaid:=
 Claim7.holds_tied_plain_at .later [] [.data, .data, .data] true (true, "a25f9de0bd099242908f275e3ef0e0e504a0f11154fe618235bdf65dc9a5e356") false
  exactFormatCertificate_row (fun _ h=>by cases h) (by as_aux_lemma=>kernel_rfl) (fun _ h=>by cases h) fnExactFormatCertificate_row_tie rfl ⟨rfl,rfl⟩ (by as_aux_lemma=>kernel_rfl) rfl
  (fun f fn hf hfn=>by
   obtain rfl : f = 3 := Option.some.inj ((show Tryd.prog.funcNamed "loop.example/assumeguarantee/laws.FnExactFormatCertificate" = some 3 by as_aux_lemma => kernel_rfl).symm.trans hf) |>.symm
   obtain rfl:fn=Tryd.f3:=(Option.some.inj (Tryd.func3.symm.trans hfn)).symm
   exact⟨by as_aux_lemma=>kernel_rfl,fun j t ht=>by
    have hall:(Tryd.f3.params.toList.all fun u=>!Tryd.prog.wantsStandIn u)=true:=by as_aux_lemma=>kernel_rfl
    exact (show Tryd.prog.wantsStandIn t=false by simpa using List.all_eq_true.1 hall t (by simpa using Array.mem_of_getElem? ht))⟩)
  (by as_aux_lemma=>kernel_rfl)
end Go.Proofs.YtfcjhpodichpjaaDoor
