/- impl.firstPath, walked. | impl.(*moves).step, walked; what a set of states goes to. | impl.FirstTraceOutside's closures, walked. | impl.FirstTraceOutside, walked: a search through pairs of a state and a set of states. | impl.TracesWithin and impl.SameTraces, walked. | Plain: the quotient of a system by its greatest relation. No program in sight. | spec.l4Choices and spec.l4Nexts, walked. | spec.l4Nexts, walked. | spec.l4Moves, walked. | Plain: distances to a goal, and the word that is found by going closer at every letter: it is the first word that leads to a goal. No program in sight. -/
import Derived.Test.YtndhahednhnnbaaGreatDoorM05
import Derived.Test.YtndhahednhnnbaaGreatDoorM02
import Derived.Deep.DeepCutAuto
import Derived.Test.YtndhahednhnnbaaGreatDoorM01
namespace Go.Proofs.YtndhahednhnnbaaGreatDoor
open Go Go.RowKit
set_option maxHeartbeats 2000000
def zes (w:World) (d:Nat→Nat→List Nat) (start:List Nat) (goal:Nat→Bool) (L:List Nat) (e:Ending) (w':World):Prop:=
 Ext w w'∧((∃ v,e=.returned (.tuple #[.string (strOfNums (lbs v)),.bool true])∧Found d start goal L v)∨(e=.returned (.tuple #[.string ByteArray.empty,.bool false])∧Lost d start goal L))
theorem Sea.start {w w1:World} {N:Nat} {fg:Value} {t:TypeId}(hx:Ext (w.alloc (.cells #[fg] t)) w1)(hsz:(w.alloc (.cells #[fg] t)).heap.size<w1.heap.size)(hg:Blk (w.alloc (.cells #[fg] t)) w.heap.size t #[fg])(hown:w1.ownsRow w.heap.size 4 1 (.slice (some ⟨w.heap.size+1,0,none⟩) N N) N (zaE (List.replicate N false))) :
  Sea w ((w1.alloc (.cells #[.slice (some ⟨w.heap.size+1,0,none⟩) N N] 25)).alloc (.cells #[.slice none 0 0] 197)) w1.heap.size w.heap.size (w1.heap.size+1) (w.heap.size+1) N N fg (List.replicate N false) (.slice none 0 0) []:=by
 simp only [World.size_alloc] at hsz
 have h0:Ext w w1:=((Ext.refl w).alloc _).trans hx
 have hv:=Blk.new w1 25 #[.slice (some ⟨w.heap.size+1,0,none⟩) N N]
 have ht:=Blk.new (w1.alloc (.cells #[.slice (some ⟨w.heap.size+1,0,none⟩) N N] 25)) 197 #[.slice none 0 0]
 have hx2:Ext w1 ((w1.alloc (.cells #[.slice (some ⟨w.heap.size+1,0,none⟩) N N] 25)).alloc (.cells #[.slice none 0 0] 197)):=((Ext.refl w1).alloc _).alloc _
 refine⟨h0.trans hx2,hv.ext ((Ext.refl _).alloc _),zd hown hx2,⟨t,hg.ext (hx.trans hx2)⟩,by simpa using ht,World.ownsRow_nil _ _ _ _,fun k p v hk=>by simp at hk,by omega,Nat.le_refl _,by omega,by omega,by omega,fun b hb=>by simp [Value.ownBlock] at hb⟩
theorem sts_add {sts sts':List (Stp × Value)} {a:Int} {l:Nat} {fr:List Nat}(h:(fr=[]∧sts'=sts)∨(fr≠[]∧∃ v,sts'=sts++[(⟨a,l,fr⟩,v)])):sts'.map Prod.fst=addS (sts.map Prod.fst) a l fr:=by
 rcases h with ⟨h1,rfl⟩|⟨h1,v,rfl⟩
 ·rw [addS,if_pos h1]
 ·rw [addS,if_neg h1];simp
theorem Bfs.letters {d:Nat→Nat→List Nat} {start:List Nat} {goal:Nat→Bool} {L:List Nat} {N:Nat} {S:List Bool} {st:List Stp} {ws:List (List Nat)} {i j:Nat}(h:Bfs d start goal L N S st ws i j):∀ (m k:Nat),k≤m→k<st.length→∀ l∈ws.getD k [],l∈L:=by
 intro m
 induction m with
 |zero =>
  intro k hk hlt l hl
  obtain rfl:k=0:=by omega
  rw [h.zero _ (List.getElem?_eq_getElem hlt)] at hl
  cases hl
 |succ m ih =>
  intro k hk hlt l hl
  rcases h.word k _ (List.getElem?_eq_getElem hlt) with ⟨_,_,e⟩|⟨a,b,_,hak,_,hb,e⟩
  ·rw [e] at hl;cases hl
  ·rw [e] at hl
   rcases List.mem_append.1 hl with h1|h1
   ·exact ih a (by omega) (by omega) l h1
   ·rw [List.mem_singleton.1 h1];exact List.mem_of_getElem? hb
theorem Bfs.words {d:Nat→Nat→List Nat} {start:List Nat} {goal:Nat→Bool} {L:List Nat} {N:Nat} {S:List Bool} {st:List Stp} {ws:List (List Nat)} {i j:Nat}(h:Bfs d start goal L N S st ws i j)(hL:Rise L) {a l:Nat} {fr:List Nat}(ha:a<st.length)(hl:l∈L) (k:Nat) (p:Stp)(hp:(st++[⟨a,l,fr⟩])[k]?=some p) :
  (p.parent = -1∧(ws++[ws.getD a []++[l]]).getD k []=[])∨∃ b:Nat,p.parent=(b:Int)∧b<k∧p.letter<6∧(ws++[ws.getD a []++[l]]).getD k []=(ws++[ws.getD a []++[l]]).getD b []++[p.letter]:=by
 rcases Nat.lt_trichotomy k st.length with h1|h1|h1
 ·rw [List.getElem?_append_left h1] at hp
  rw [zdZ _ (by rw [h.wl];exact h1)]
  rcases h.word k p hp with ⟨_,h2,h3⟩|⟨b,c,h2,h3,_,h4,h5⟩
  ·exact Or.inl ⟨h2,h3⟩
  ·exact Or.inr ⟨b,h2,h3,hL.1 _ (List.mem_of_getElem? h4),by rw [zdZ _ (by rw [h.wl];omega)];exact h5⟩
 ·rw [h1,List.getElem?_append_right (Nat.le_refl _),Nat.sub_self] at hp
  obtain rfl:=Option.some.inj hp
  refine Or.inr ⟨a,rfl,by omega,hL.1 _ hl,?_⟩
  rw [h1,← h.wl,zfx,zdZ _ (by rw [h.wl];exact ha)]
 ·rw [List.getElem?_eq_none (by simp;omega)] at hp
  cases hp
theorem Frm.out {T S:Nat→Prop} {a b c:World}(h:Frm T a b) (k:Frm S b c)(hS:∀ x,S x→T x):Frm T a c:=h.trans (k.mono fun x _ hx=>hS x hx)
set_option maxHeartbeats 16000000 in
set_option maxRecDepth 100000 in
theorem zgK {w:World} {N kn kg m c q cL:Nat} {A AL:Option Addr} {capn capg:Array Value} {goal:Nat→Bool} {d:Nat→Nat→List Nat} {start L:List Nat} {D:Nat}
  (hA:zaX w A m start) (hstart:∀ n∈start,n<N) (hm:m≤1099511627776) (hL:zaX w AL q L) (hrise:Rise L) (hN:N≤16777216) (hD:D≤4096)
  (hinn:∀ args W,(callFunc kn args).run Tryz.prog W=.ok (.enter kn args) W) (hin:∀ args W,(callFunc kg args).run Tryz.prog W=.ok (.enter kg args) W)
  (hgoal:∀ W,Ext w W→∀ n,n<N→Calls Tryz.prog kg (#[.int .i64 (n:Nat)]++capg) W fun e W'=>e=.returned (.bool (goal n))∧Ext W W')
  (hd:∀ n l,n<N→l∈L→(d n l).length≤D∧∀ x∈d n l,x<N)
  (hnext:∀ W,Ext w W→∀ n l,n<N→l∈L→∀ (base:Nat) (A:Option Addr) (m c:Nat) (xs:List Nat),w.heap.size≤base→base≤W.heap.size→m≤1099511627776→W.ownsRow base 3 1 (.slice A m c) m (nats xs) →
   Calls Tryz.prog kn (#[.int .i64 (n:Nat),.int .i64 (l:Nat),.slice A m c]++capn) W fun e W'=>∃ A' c',e=.returned (.slice A' (xs++d n l).length c')∧W'.ownsRow base 3 1 (.slice A' (xs++d n l).length c') (xs++d n l).length (nats (xs++d n l))∧Frm (fun k=>(Value.slice A m c).ownBlock=some k) W W') :
  Calls Tryz.prog 127 #[.int .i64 (N:Nat),.slice A m c,.slice AL q cL,.func (.func kn) #[] capn,.func (.func kg) #[] capg] w (zes w d start goal L):=by
 have HA:=hide hA
 have Hstart:=hide hstart
 have Hgoal:=hide hgoal
 have Hnext:=hide hnext
 have Hd:=hide hd
 have hqm:q≤9223372036854775807:=hL.2.1
 clear hA hstart hgoal hnext hd
 go_enter Tryz.func127,Tryz.ntmps127
 have hwa:Ext w (w.alloc (.cells #[.func (.func kg) #[] capg] 70)):=(Ext.refl w).alloc _
 have hgx:=hide (Blk.new w 70 #[.func (.func kg) #[] capg])
 go_upto_region 4 with (at_make;refine zbI w _ rfl _ _ 25 rfl 4 _ 1 1 Tryz.underlying25 zbh _ _ N rfl rfl hwa (by omega) (by unfold maxLen;omega) ?_;intro w1 hext1 hown1 hx1 hsz1)
 have hown2:w1.ownsRow w.heap.size 4 1 (.slice (some ⟨w.heap.size+1,0,none⟩) N N) N (zaE (List.replicate N false)):=by
  have h:=hown1
  rw [World.size_alloc] at h
  simpa [zaE,Value.cells,toList_madeCells_one] using h
 have hsea:=Sea.start hx1 hsz1 hgx.out hown2
 have hx2:Ext w ((w1.alloc (.cells #[.slice (some ⟨w.heap.size+1,0,none⟩) N N] 25)).alloc (.cells #[.slice none 0 0] 197)):=(hext1.alloc _).alloc _
 clear hown1 hown2 hx1 hsz1 hgx hext1 hwa
 generalize w1.heap.size+1=bt at *
 generalize w1.heap.size=bs at *
 generalize (w1.alloc (.cells #[.slice (some ⟨w.heap.size+1,0,none⟩) N N] 25)).alloc (.cells #[.slice none 0 0] 197)=w2 at *
 have hvs:=zfm (List.replicate N false) start (fun n hn=>by have:=Hstart.out n hn;simpa using this)
 cases hg:(vis (List.replicate N false) start).2.any goal
 ·have Hg:=hide hg
  have hB:=hide (Bfs.begin_ (d:=d) (L:=L) (goal:=goal) Hstart.out (fun x hx=>by
   cases hgx:goal x
   ·rfl
   ·rw [List.any_eq_true.2 ⟨x,hx,hgx⟩] at hg;cases hg))
  have hC:=hide ((Cnt.nil N).add (-1) 0 start)
  clear hg hvs
  go_wp2_with (go_at_call 180;refine (zfW (letter:=0) (parent := -1) hsea (HA.out.ext hx2) Hstart.out hm (by simp) hin Hgoal.out).mono ?_;rintro e w3 ⟨rfl,hx3,hsz3,vst,sts,hsea3,hcase⟩;rw [Hg.out];have hst:=hide (sts_add hcase);clear hcase)
  go_loopw [15,17,18,20] (fun i l r x wr=>∃ (k:Nat) (S:List Bool) (vst:Value) (sts:List (Stp × Value)) (ws:List (List Nat)),i=.int .i64 k∧k≤sts.length∧sts.length≤N∧Sea w wr bs w.heap.size bt (w.heap.size+1) N N (.func (.func kg) #[] capg) S vst sts∧Hid (Bfs d start goal L N S (sts.map Prod.fst) ws k 0)∧Hid (Cnt S (sts.map Prod.fst)))
   (fun i _ _ _ _=>N+1 - (intOf i).toNat)
  case atStart =>
   simp only [List.map_nil] at hst
   have hB':=hB.out
   have hC':=hC.out
   rw [← hst.out] at hB' hC'
   exact⟨0,_,vst,sts,_,rfl,Nat.zero_le _,by have:=hC'.steps hB'.some_;rw [hB'.len] at this;simpa using this,hsea3,hide hB',hide hC'⟩
  case round =>
   clear hsea3 hst hB hC hx3 hsz3
   clear vst sts
   obtain⟨k,S,vst,sts,ws,rfl,hk,hsN,hS,hB,hC⟩:=hrel
   obtain⟨Av,cv,rfl⟩:=ze hS.dt
   have cT:=hS.vt.cell 0
   by_cases hlt:k<sts.length
   ·have hcast:((k:Int)<(sts.length:Int)):=by omega
    go_wp2
    go_loopw [17,18,20,35] (fun _ _ _ i2 wi=>∃ (j:Nat) (S:List Bool) (vst:Value) (sts:List (Stp × Value)) (ws:List (List Nat)),i2=.int .i64 j∧j≤q∧k<sts.length∧sts.length≤N∧Sea w wi bs w.heap.size bt (w.heap.size+1) N N (.func (.func kg) #[] capg) S vst sts∧Hid (Bfs d start goal L N S (sts.map Prod.fst) ws k j)∧Hid (Cnt S (sts.map Prod.fst)))
     (fun _ _ _ i2 _=>q - (intOf i2).toNat)
    case atStart=>exact⟨0,S,_,sts,ws,rfl,Nat.zero_le _,hlt,hsN,hS,hB,hC⟩
    case round =>
     clear hS hB hC cT hlt hcast hk hsN
     rename World=>wi
     obtain⟨j,S,vst,sts,ws,rfl,hj,hk,hsN,hS,hB,hC⟩:=hrel
     by_cases hjq:j<q
     ·obtain⟨gl,ol,l,rfl,hxl,hcl⟩:=hL.at_ hjq
      have cL:wi.cell? ⟨gl,ol+j,none⟩=some (.int .i64 (l:Nat)):=hS.ext.cell_some hcl
      have hlL:=hide (List.mem_of_getElem? hxl.out)
      obtain⟨⟨⟨pp,pl,pn⟩,vk⟩,hpk⟩:∃ x,Hid (sts[k]?=some x):=⟨_,List.getElem?_eq_getElem hk⟩
      obtain⟨Ak,ck,rfl,hnk⟩:=hS.nd k _ vk hpk.out
      dsimp only at hnk hpk
      have hpm:=hide (show (sts.map Prod.fst)[k]?=some ⟨pp,pl,pn⟩ by rw [List.getElem?_map,hpk.out];rfl)
      have hne:=List.length_pos_iff.2 (hB.out.some_ k _ hpm.out)
      have hnN:pn.length≤N:=by have:=hC.out.nodes hpm.out;rw [hB.out.len] at this;exact this
      have hsmall:=hide (hB.out.small k _ hpm.out)
      dsimp only at hne hsmall
      have cV:wi.cell? ⟨bt,0,none⟩=some vst:=hS.vt.cell 0
      obtain⟨Av,cv,rfl⟩:=ze hS.dt
      obtain⟨gv,rfl⟩:∃ gv,Av=some ⟨gv,0,none⟩:=by
       rcases hS.dt.2 with ⟨_,hh⟩|⟨g,cap,cur,hv,_⟩
       ·omega
       ·exact⟨g,by injection hv⟩
      obtain⟨mk,hmk⟩:∃ mk,Hid (mk=pn.length):=⟨_,rfl⟩
      have cK:wi.cell? ⟨gv,k*3+2,none⟩=some (.slice Ak mk ck):=by
       rw [hS.dt.cellAt _ (by omega),hmk.out]
       exact (zfT hpk.out).2.2
      rw [← hmk.out] at hnk hne hnN
      obtain⟨gk,ok,_,rfl,_,_⟩:=hnk.at_ hne
      have Hnk:=hide hnk
      have h1:=hS.vs.lt
      have h2:w.heap.size<wi.heap.size:=by obtain⟨t,hh⟩:=hS.vg;exact hh.lt
      have h3:=hS.vt.lt
      have h4:=hS.gs_lt.2
      have h0:=hS.ext.size
      have HnI:=hide (show ∀ b,wi.heap.size≤b→∀ cs,wi.heap[b]?≠some (.cells cs 3 (0,0)) from fun b hb cs hc=>by
       have:=(Array.getElem?_eq_some_iff.1 hc).1
       omega)
      have hvl:=(hS.dt.lt gv rfl).2
      have HSea:=hide (fun W (hW:Frm (fun b=>wi.heap.size≤b) wi W)=>hS.far hW (fun _ h=>h) h1 h2 h3 h4 (fun b hb=>by have:gv=b:=(by simpa [Value.ownBlock] using hb);omega) h0 (hS.nd.frm hW HnI.out))
      have hkc:(k:Int)<(sts.length:Int):=by omega
      have hjc:(j:Int)<(q:Int):=by omega
      clear hnk hcl hS h1 h3 h4
      go_wp2_with fail
      go_loopw [18,20,45] (fun v _ i3 wr=>∃ i:Nat,i3=.int .i64 i∧i≤mk∧wr.ownsRow wi.heap.size 3 1 v (reach d l (pn.take i)).length (nats (reach d l (pn.take i)))∧Frm (fun b=>wi.heap.size≤b) wi wr) (fun _ _ i3 _=>mk - (intOf i3).toNat)
      case atStart=>exact⟨0,rfl,Nat.zero_le _,World.ownsRow_nil _ _ _ _,Frm.refl _ _⟩
      case round =>
       obtain⟨i,rfl,hi,hown,hfr⟩:=hrel
       have hSr:=hide (HSea.out wr hfr)
       have hsz:=hfr.size
       have hrl:(reach d l (pn.take i)).length≤1099511627776 - 4096:=by
        have e1:=reach_len (d:=d) (l:=l) (D:=D) (ns:=pn.take i) (fun n hn=>(Hd.out n l (hsmall.out n (List.mem_of_mem_take hn)) hlL.out).1)
        have e2:=Nat.mul_le_mul (show (pn.take i).length≤16777216 by rw [List.length_take];omega) hD
        omega
       obtain⟨A0,c0,rfl⟩:=ze hown
       clear cL cV cK
       by_cases hil:i<mk
       ·obtain⟨g',o',n,hA',hn,cN⟩:=(Hnk.out.frm hfr HnI.out).at_ hil
        obtain⟨rfl,rfl⟩:gk=g'∧ok=o':=by injection hA' with e;injection e with e1 e2;exact⟨e1,e2⟩
        have hnlt:=hsmall.out n (List.mem_of_getElem? hn.out)
        have hnx:=hide (Hnext.out wr hSr.out.ext n l hnlt hlL.out wi.heap.size A0 _ c0 _ h0 hsz (by omega) hown)
        clear hA'
        go_wp2_with fail
        refine hnx.out.mono ?_
        rintro e w4 ⟨A',c',rfl,hown4,hf4⟩
        have hlow:=hide (fun b (hb:(Value.slice A0 (reach d l (pn.take i)).length c0).ownBlock=some b)=>(hown.lt b hb).1)
        go_wp2_with fail
        go_roundw
        case rel=>exact⟨i+1,by go_num,by omega,by rw [reach_take hn.out];rw [List.length_append] at hown4 ⊢;exact hown4,hfr.out hf4 hlow.out⟩
        case measure=>simp [intOf];omega
       ·obtain rfl:i=mk:=by omega
        have htk:pn.take i=pn:=List.take_of_length_le (by have:=hmk.out;omega)
        rw [htk] at hown hrl ⊢
        have hrs:=hide (fun x (hx:x∈reach d l pn)=>by
         obtain⟨n,hn,hx⟩:=zfD.1 hx
         exact (Hd.out n l (hsmall.out n hn) hlL.out).2 x hx)
        have hvis:=hide (zfW (letter:=l) (parent:=(k:Int)) (c:=c0) hSr.out (zaX.own hown) hrs.out (by omega) (by omega) hin Hgoal.out)
        cases hg:(vis S (reach d l pn)).2.any goal
        ·have Hg:=hide hg
         have hB':=hide (hB.out.step hrise hpm.out hxl.out (fun x=>zfD) hrs.out (fun x hx=>by
          cases hgx:goal x
          ·rfl
          ·rw [List.any_eq_true.2 ⟨x,hx,hgx⟩] at hg;cases hg))
         have hC':=hide (hC.out.add (k:Int) l (reach d l pn))
         clear hg
         go_wp2_with fail
         refine hvis.out.mono ?_
         rintro e w4 ⟨rfl,hx4,hsz4,vst4,sts4,hsea4,hcase⟩
         rw [Hg.out]
         have hst:=hide (sts_add hcase)
         have hlen:sts.length≤sts4.length:=by
          rcases hcase with ⟨_,rfl⟩|⟨_,v,rfl⟩<;>simp
         rw [← hst.out] at hB' hC'
         go_wp2_with fail
         go_roundw
         case rel=>exact⟨j+1,_,vst4,sts4,_,by go_num,by omega,by omega,(by have:=hC'.out.steps hB'.out.some_;rw [hB'.out.len] at this;simpa using this),hsea4,hB',hC'⟩
         case measure=>simp [intOf];omega
        ·have Hg:=hide hg
         obtain⟨x,hx,hgx⟩:=List.any_eq_true.1 hg
         have hxr:=((zfm S (reach d l pn) (fun n hn=>by rw [hB.out.len];exact hrs.out n hn)).2.2 x).1 hx
         obtain⟨n,hn,hxd⟩:=zfD.1 hxr.1
         have hF:=hide (show Found d start goal L (ws.getD k []++[l]) from ⟨fun m hm=>(by
          rcases List.mem_append.1 hm with h|h
          ·exact hB.out.letters k k (Nat.le_refl _) (by simpa using hk) m h
          ·rw [List.mem_singleton.1 h];exact hlL.out),⟨x,(hB.out.goes k _ hpm.out n hn).snoc hxd,hgx⟩,fun u hu hlt y hy=>hB.out.found hrise (by simpa using hk) hxl.out hu hlt hy⟩)
         clear hg hgx hxr hxd
         go_wp2_with fail
         refine hvis.out.mono ?_
         rintro e w4 ⟨rfl,hx4,hsz4,vst4,sts4,hsea4,hcase⟩
         rw [Hg.out]
         obtain⟨_,v4,hst4⟩:(vis S (reach d l pn)).2≠[]∧∃ v,sts4=sts++[(⟨(k:Int),l,(vis S (reach d l pn)).2⟩,v)]:=by
          rcases hcase with ⟨h,_⟩|h
          ·rw [h] at hx;cases hx
          ·exact h
         have hl4:sts4.length=sts.length+1:=by rw [hst4];simp
         obtain⟨A4,c4,rfl⟩:=ze hsea4.dt
         have cV4:=hsea4.vt.cell 0
         have hpw:=hide (show Calls Tryz.prog 181 #[.slice A4 sts4.length c4] w4 fun e w'=>e=.returned (.string (strOfNums (lbs (ws.getD k []++[l]))))∧Ext w4 w' by
          have key:=pathWord_any (ws:=ws++[ws.getD k []++[l]]) hsea4.dt rfl (by omega) (by omega) (fun i p v hi=>by
           have hm:(sts4.map Prod.fst)[i]?=some p:=by rw [List.getElem?_map,hi];rfl
           rw [hst4,List.map_append] at hm
           exact hB.out.words hrise (by simpa using hk) hlL.out i p hm)
          rw [hl4,Nat.add_sub_cancel,show sts.length=ws.length by have:=hB.out.wl;simpa using this.symm,zfx] at key
          rw [hl4,show sts.length=ws.length by have:=hB.out.wl;simpa using this.symm]
          exact key)
         clear hx hcase hst4 hl4
         go_wp2_with fail
         refine hpw.out.mono ?_
         rintro e w5 ⟨rfl,hx5⟩
         go_wp2_with fail
         go_ret2
         exact⟨hx4.trans hx5,Or.inl ⟨_,rfl,hF.out⟩⟩
     ·obtain rfl:j=q:=by omega
      have hql:=hL.1
      have hB2:=hide (hB.out.row (by omega))
      go_wp2
      go_roundw
      case rel=>exact⟨k+1,S,vst,sts,ws,by go_num,by omega,hsN,hS,hB2,hC⟩
      case measure=>simp [intOf];omega
   ·obtain rfl:k=sts.length:=by omega
    have hlost:=hide (show Lost d start goal L from fun v hv x hx=>hB.out.none (by simp) hv hx)
    have hxr:=hS.ext
    go_wp2
    go_ret2
    exact⟨hxr,Or.inr ⟨rfl,hlost.out⟩⟩
 ·have Hg:=hide hg
  obtain⟨x,hx,hgx⟩:=List.any_eq_true.1 hg
  have hF:=hide (show Found d start goal L [] from ⟨fun l hl=>(by cases hl),⟨x,.nil ((hvs.2.2 x).1 hx).1,hgx⟩,fun u _ hu=>by rw [zer] at hu;omega⟩)
  clear hg hvs
  go_wp2_with (go_at_call 180;refine (zfW (letter:=0) (parent := -1) hsea (HA.out.ext hx2) Hstart.out hm (by simp) hin Hgoal.out).mono ?_;rintro e w' ⟨rfl,hx3,_⟩;rw [Hg.out])
  go_ret2
  exact⟨hx3,Or.inl ⟨[],rfl,hF.out⟩⟩
set_option maxHeartbeats 2000000
theorem stepB_low {es:List Edg} {k0 x j:Nat}(hf:Few k0 es)(hb:x.testBit j=true)(hl:∀ i,i<j→x.testBit i=false) (l:Int):zad es x l=succ es j l|||zad es (x - 2 ^ j) l:=by
 apply Nat.eq_of_testBit_eq
 intro k
 rw [Nat.testBit_or,Bool.eq_iff_iff,Bool.or_eq_true,zco,zco,zcy]
 constructor
 ·rintro ⟨e,he,⟨h1,h2⟩,h3⟩
  have:=hf e he
  by_cases e1:e.fr.toNat=j
  ·exact Or.inl ⟨e,he,⟨by omega,h1⟩,h3⟩
  ·refine Or.inr ⟨e,he,⟨h1,?_⟩,h3⟩
   rw [zcp hb hl,h2]
   simp [e1]
 ·rintro (⟨e,he,⟨h1,h2⟩,h3⟩|⟨e,he,⟨h1,h2⟩,h3⟩)
  ·exact⟨e,he,⟨h2,by rw [h1];exact hb⟩,h3⟩
  ·rw [zcp hb hl] at h2
   simp only [Bool.and_eq_true] at h2
   exact⟨e,he,⟨h1,h2.1⟩,h3⟩
theorem zgy (es:List Edg) (l:Int):zad es 0 l=0:=by
 apply Nat.eq_of_testBit_eq
 intro k
 rw [Nat.zero_testBit,Bool.eq_false_iff]
 intro h
 obtain⟨e,_,⟨_,h2⟩,_⟩:=(zco es 0 l k).1 h
 simp at h2
theorem impl_step {es:List Edg} {bm k0 set l:Nat} {w:World}(hm:MovAt w bm es)(hT:Tab w)(hset:set<2 ^ 16)(hl:l<6)(hf:Few k0 es)(hk0:k0≤16) :
  Calls Tryz.prog 125 #[.pointer (some ⟨bm,0,none⟩),.int .i64 set,.int .i64 l] w fun e w'=>e=.returned (.int .i64 (zad es set l:Nat))∧Ext w w':=by
 have hset':set<65536:=by simpa using hset
 have Hf:=hide hf
 clear hf
 go_enter Tryz.func125,Tryz.ntmps125
 go_wp2
 go_loopw [1,7] (fun s v wr=>∃ x:Nat,s=.int .i64 x∧x<65536∧∃ y:Nat,v=.int .i64 y∧Sm y∧Hid (zad es set l=y|||zad es x l)∧Ext w wr) (fun s _ _=>(intOf s).toNat)
 case atStart=>exact⟨set,rfl,hset',0,rfl,by unfold Sm;omega,by simp [Hid],Ext.refl _⟩
 case round =>
  obtain⟨x,rfl,hx,y,rfl,hy,hyo,hext⟩:=hrel
  by_cases h0:x=0
  ·subst h0
   go_wp2
   go_ret
   have h1:=hyo.out
   rw [zgy,Nat.or_zero] at h1
   exact⟨zK (by rw [h1]),hext⟩
  ·have hxs:Sm x:=by unfold Sm;omega
   obtain⟨j,hj,hj32,hjb,hjl,hand,hle⟩:=lowest h0 hxs
   have hj16:j<16:=by
    rcases Nat.lt_or_ge j 16 with h|h
    ·exact h
    ·have:=Nat.pow_le_pow_right (n:=2) (by omega) h
     omega
   have hp:=Nat.two_pow_pos j
   have hlow:=hide (stepB_low Hf.out hjb hjl l)
   have c1:=hm j l hj16 hl
   have cM:∀ W,Ext wr W→W.cell? ⟨bm,j*6+l,none⟩=some (.int .i64 (succ es j l:Nat)):=fun W hW=>(hext.trans hW).cell_some c1
   have hTs:=hide (fun W (hW:Ext wr W)=>hT.ext (hext.trans hW))
   have s1:=succ_sm Hf.out hk0 j l
   have bo:=hide (zcd hy s1)
   have hne:((x:Int) != 0)=true:=by simp;omega
   have hb:=hide (zcr (a:=x) (b:=x - 1) hxs (by unfold Sm;omega))
   have hi:=hide (show ((x:Int) - 1)=((x - 1:Nat):Int) by omega)
   have ux:IntKind.u64.wrap (x:Int)=x:=by rw [IntKind.wrap_u64];omega
   have htz:=hide (fun W (hW:Ext wr W)=>(show Calls Tryz.prog 179 #[.int .u64 x] W fun e w'=>e=.returned (.int .i64 j)∧W=w' by rw [← hj];exact tz x (by omega) h0 W (hTs.out W hW)))
   have hww:=Ext.refl wr
   have hx1:x - 2 ^ j<x:=by omega
   have hx2:x&&&(x - 1)=x - 2 ^ j:=hand
   have Hx2:=hide hx2
   have hl6:(l:Int)<6:=by omega
   have hj16':(j:Int)<16:=by omega
   clear hj hjb hjl hand hx2 h0 hle c1
   generalize succ es j l=z at *
   go_wp2_with fail
   go_region_held3 (fun W=>Ext wr W) (first|assumption|(refine Ext.drew ?_;assumption)|(refine Ext.trans ?_ (by assumption);assumption)|(refine Ext.trans ?_ (by assumption);refine Ext.drew ?_;assumption)) ((go_at_call 179;refine (htz.out _ ?_).mono ?_;(first|assumption|(refine Ext.drew ?_;assumption));rintro e w' ⟨rfl,rfl⟩))
   go_wp2_with fail
   go_roundw
   case rel=>exact⟨x&&&(x - 1),by rw [hi.out,hb.out],by rw [Hx2.out];omega,y|||z,by rw [bo.out],hy.or s1,by unfold Hid;rw [hyo.out,hlow.out,Hx2.out,Nat.or_assoc],hext.trans (by assumption)⟩
   case measure =>
    have:=hb.out
    rw [← hi.out] at this
    have h3:=Hx2.out
    simp [intOf]
    omega
set_option maxHeartbeats 2000000
theorem out_goal {w:World} {g8 n Z:Nat}(h8:Blk w g8 3 #[.int .i64 (Z:Nat)])(hZ:0<Z)(hn:n≤16777216) :
  Calls Tryz.prog 128 #[.int .i64 (n:Nat),.pointer (some ⟨g8,0,none⟩)] w fun e w'=>e=.returned (.bool (n % Z==0))∧Ext w w':=by
 have c8:=h8.cell
 have hz:((Z:Int)==0)=false:=by simp;omega
 go_enter Tryz.func128,Tryz.ntmps128
 go_wp2
 go_ret
 exact⟨zh (by rw [Bool.eq_iff_iff,beq_iff_eq,beq_iff_eq];omega),Ext.refl _⟩
theorem Frm.grown2 {T:Nat→Prop} {w W W':World} {row:Option Nat}(h:Frm T w W)(hg:W.grownBy W' row)(hr:∀ k,row=some k→T k∨w.heap.size≤k):Frm T w W':=
 ⟨hg.os.trans h.os,hg.tape.trans h.tape,hg.output.trans h.output,Nat.le_trans h.size hg.size,fun k hk hn=>(hg.block k (Nat.lt_of_lt_of_le hk h.size) (fun e=>by
  rcases hr k e.symm with h1|h1
  ·exact hn h1
  ·omega)).trans (h.block k hk hn)⟩
structure Caps (w:World) (g6 g7 g8 bm bn Z:Nat) (es es':List Edg):Prop where
 h6:Blk w g6 142 #[.pointer (some ⟨bm,0,none⟩)]
 h7:Blk w g7 142 #[.pointer (some ⟨bn,0,none⟩)]
 h8:Blk w g8 3 #[.int .i64 (Z:Nat)]
 hm:MovB w bm es
 hn:MovB w bn es'
theorem Caps.ext {w w':World} {g6 g7 g8 bm bn Z:Nat} {es es':List Edg}(h:Caps w g6 g7 g8 bm bn Z es es')(hx:Ext w w'):Caps w' g6 g7 g8 bm bn Z es es':=⟨h.h6.ext hx,h.h7.ext hx,h.h8.ext hx,h.hm.ext hx,h.hn.ext hx⟩
theorem map_take {α β:Type} {f:α→β} {l:List α} {k:Nat} {x:α}(h:l[k]?=some x):(l.take (k+1)).map f=(l.take k).map f++[f x]:=by
 rw [List.take_add_one,h];simp
set_option maxRecDepth 100000 in
theorem out_next {w:World} {g6 g7 g8 bm bn p q n l base m c Z:Nat} {A:Option Addr} {xs:List Nat} {es es':List Edg}(hC:Caps w g6 g7 g8 bm bn Z es es')(hZe:Z=2 ^ q)(hT:Tab w)(hf:Few p es)(hg:Few q es')(hp:p≤16)(hq:q≤16)(hn:n<p*Z)(hl:l<6)
  (hb8:g8<base) (hb:base≤w.heap.size) (hm:m≤1099511627776) (hown:w.ownsRow base 3 1 (.slice A m c) m (nats xs)) :
  Calls Tryz.prog 124 #[.int .i64 (n:Nat),.int .i64 (l:Nat),.slice A m c,.pointer (some ⟨g7,0,none⟩),.pointer (some ⟨g8,0,none⟩),.pointer (some ⟨g6,0,none⟩)] w fun e w'=>∃ A' c',e=.returned (.slice A' (xs++dW es es' Z n l).length c')∧w'.ownsRow base 3 1 (.slice A' (xs++dW es es' Z n l).length c') (xs++dW es es' Z n l).length (nats (xs++dW es es' Z n l))∧Frm (fun k=>(Value.slice A m c).ownBlock=some k) w w':=by
 have hZ0:0<Z:=by rw [hZe];exact Nat.two_pow_pos q
 have hZ1:Z≤65536:=by rw [hZe,show (65536:Nat)=2 ^ 16 from rfl];exact Nat.pow_le_pow_right (by omega) hq
 have hset:n % Z<65536:=Nat.lt_of_lt_of_le (Nat.mod_lt _ hZ0) hZ1
 have hq16:n / Z<16:=Nat.lt_of_lt_of_le (Nat.div_lt_of_lt_mul (by rw [Nat.mul_comm];exact hn)) hp
 have hn2:n≤1048576:=by
  have:=Nat.mul_le_mul hp hZ1
  omega
 have hmx:=hide (show m=xs.length by have:=hown.1;rw [zfE] at this;omega)
 have hst:=hide (fun W (hW:Ext w W)=>impl_step ((hC.hn.ext hW).at_) (hT.ext hW) (show n % Z<2 ^ 16 from hset) hl hg hq)
 have hs2:=succ_sm hf hp (n / Z:Nat) l
 have hcm:=hC.hm.at_ (n / Z) l hq16 hl
 have hdW:=hide (show dW es es' Z n l=(letters (succ es (n / Z:Nat) l) 32).map fun k=>k*Z+zad es' (n % Z) l from rfl)
 generalize dW es es' Z n l=res at *
 have hll:=zx (succ es (n / Z:Nat) l) 32
 have hlt32:=hide (fun k (hk:k∈letters (succ es (n / Z:Nat) l) 32)=>(zaF.1 hk).1)
 have hsl:zad es' (n % Z) l<Z:=by rw [hZe];exact zcx hg _ l
 have hmem:=hide (fun W (hW:Ext w W)=>impl_members (succ es (n / Z:Nat) l) hs2 W (hT.ext hW))
 generalize zad es' (n % Z) l=y at *
 generalize letters (succ es (n / Z:Nat) l) 32=ms at *
 generalize succ es (n / Z:Nat) l=sc at *
 have c6:∀ W,Ext w W→∀ k,W.cell? ⟨g6,k,none⟩=_:=fun W hW=>(hC.h6.ext hW).cell
 have c7:∀ W,Ext w W→∀ k,W.cell? ⟨g7,k,none⟩=_:=fun W hW=>(hC.h7.ext hW).cell
 have c8:∀ W,Ext w W→∀ k,W.cell? ⟨g8,k,none⟩=_:=fun W hW=>(hC.h8.ext hW).cell
 have cM:∀ W,Ext w W→W.cell? ⟨bm,n / Z*6+l,none⟩=some (.int .i64 (sc:Nat)):=fun W hW=>hW.cell_some hcm
 have h8:=hC.h8
 clear hC hcm hZe
 have hz:((Z:Int)==0)=false:=by simp;omega
 have hdl:=Nat.div_le_self n Z
 have hz2:¬ Z=0:=by omega
 have hdc:Int.tdiv (n:Int) (Z:Int)=((n / Z:Nat):Int):=rfl
 have hnm:Int.tmod (n:Int) (Z:Int)=((n % Z:Nat):Int):=rfl
 generalize n / Z=dq at *
 generalize n % Z=rm at *
 have hnd:IntKind.i64.wrap (dq:Int)=(dq:Int):=IntWalk.i64_in _ (by omega)
 have hq16':(dq:Int)<16:=by omega
 have hl6':(l:Int)<6:=by omega
 have hww:=Ext.refl w
 go_enter Tryz.func124,Tryz.ntmps124
 go_wp2
 refine uR (fun X=>Ext w X) [5] (OrdU.of [0,1,2,3,4,5,6]) ?_
 refine uQ ?_
 (refine za rfl rfl rfl (fun K hK=>?_);go_simp)
 refine (hst.out _ (Ext.refl w).drew).mono ?_
 rintro e w2 ⟨rfl,hx2⟩
 have hw2:=(Ext.refl w).drew.trans hx2
 refine hK.out _ _ hw2 ?_
 refine pT ?_
 refine uQ ?_
 refine zf ?_
 go_wp2_with fail
 have hS2:=hw2
 refine uR (fun X=>Ext w X) [] (OrdU.of [0,1,2,3,4,11,5,6,7,8,9,10]) ?_
 refine uQ ?_
 (refine za rfl rfl rfl (fun K hK=>?_);go_simp)
 refine hK.out _ _ hw2.drew ?_
 refine pT ?_
 refine uQ ?_
 (refine za rfl rfl rfl (fun K hK=>?_);go_simp)
 refine (hmem.out _ hw2.drew).mono ?_
 rintro e w3 ⟨A3,c3,rfl,hown3,hx3⟩
 have hw3:=hw2.drew.trans hx3
 refine hK.out _ _ hw3 ?_
 refine pT ?_
 refine uQ ?_
 refine zf ?_
 obtain⟨k3,hk3⟩:∃ k3,Hid (k3=ms.length):=⟨_,rfl⟩
 rw [← hk3.out] at hown3 ⊢
 obtain⟨wb,hwb⟩:∃ wb:World,wb.heap.size=base:=⟨{ w with heap:=w.heap.extract 0 base },by simp;omega⟩
 subst hwb
 have hTl:=hide (fun b (hb:(Value.slice A m c).ownBlock=some b)=>hown.lt b hb)
 have hown3':=hide (show ∀ W,Frm (fun b=>(Value.slice A m c).ownBlock=some b) w3 W→W.ownsRow w2.drew.heap.size 3 1 (.slice A3 k3 c3) k3 (nats ms) from fun W hW=>zb hown3 hW (fun b hv hS=>by
  have h1:=(hown3.lt b hv).1
  have h2:=(hTl.out b hS).2
  have h3:=hw2.drew.size
  omega))
 have h8':=hide (show ∀ W,Frm (fun b=>(Value.slice A m c).ownBlock=some b) w3 W→Blk W g8 3 #[.int .i64 (Z:Nat)] from fun W hW=>(h8.ext hw3).frm hW (fun hS=>by
  have h1:=(hTl.out g8 hS).1
  omega))
 have hown0:=zd hown hw3
 have hb3:=hw3.size
 have hres:=hide hdW.out
 clear hdW hown h8 hst hmem c6 c7 c8 cM hx2 hx3 hS2
 have hk32:k3≤32:=by have:=hk3.out;omega
 go_wp2_with fail
 go_loopw [2,12,30] (fun v _ i wr=>∃ k:Nat,k≤k3∧i=.int .i64 k∧wr.ownsRow wb.heap.size 3 1 v (m+k) (nats (xs++(ms.take k).map fun k=>k*Z+y))∧Frm (fun b=>(Value.slice A m c).ownBlock=some b) w3 wr∧Hid (∀ b,v.ownBlock=some b→(Value.slice A m c).ownBlock=some b∨w3.heap.size≤b)) (fun _ _ i _=>k3 - (intOf i).toNat)
 case atStart=>exact⟨0,Nat.zero_le _,rfl,by simpa using hown0,Frm.refl _ _,(show Hid _ from fun b hb=>Or.inl hb)⟩
 case round =>
  clear hown0
  obtain⟨k,hk,rfl,hown,hfr,hat⟩:=hrel
  have hsz:=hfr.size
  by_cases hlt:k<k3
  ·obtain⟨g,o,n,rfl,hx,hc⟩:=(zaX.own (hown3'.out _ hfr)).at_ hlt
   have hn32:=hlt32.out n (List.mem_of_getElem? hx.out)
   have c8:=(h8'.out _ hfr).cell
   have hmul:n*Z≤32*65536:=Nat.mul_le_mul (by omega) hZ1
   have hmi:(n:Int)*(Z:Int)=((n*Z:Nat):Int):=by simp
   have htk:=hide (map_take (f:=fun k=>k*Z+y) hx.out)
   have hkc:(k:Int)<(k3:Int):=by omega
   generalize n*Z=nz at *
   go_wp2_with (at_builtin;refine zV wb _ rfl _ _ _ rfl 3 _ 1 8 Tryz.underlying71 zaf rfl (by decide) u2 (m+k) (nats (xs++(ms.take k).map fun k=>k*Z+y)) _ _ rfl rfl (by omega) hown rfl (by simp [Value.oneCell']) (by unfold maxLen;omega) (by omega) ?_;intro g5 cap5 w5 hown5 hg5 hat5 hlt5)
   have hfr5:=hfr.grown2 hg5 hat.out
   go_roundw
   case rel =>
    refine⟨k+1,by omega,by go_num,?_,hfr5,(show Hid _ from fun b hb=>?_)⟩
    ·rw [htk.out,← List.append_assoc,nats_append]
     exact hown5
    ·have hbg:g5=b:=by simpa [Value.ownBlock] using hb
     subst hbg
     rcases hat5 with h|h
     ·exact hat.out _ h
     ·exact Or.inr (by omega)
   case measure=>simp [intOf];omega
  ·obtain rfl:k=k3:=by omega
   have htk:ms.take k=ms:=List.take_of_length_le (by have:=hk3.out;omega)
   rw [htk] at hown
   obtain⟨A5,c5,rfl⟩:=ze hown
   have hfin:=hw3.toFrm.trans hfr
   have hlen:=hide (show (xs++res).length=m+k by rw [hres.out];simp;have:=hk3.out;have:=hmx.out;omega)
   go_wp2_with fail
   go_ret
   rw [← hres.out] at hown
   exact⟨A5,c5,by rw [hlen.out];rfl,by rw [hlen.out];exact hown,hfin⟩
set_option maxHeartbeats 4000000
theorem zeJ (a:Nat):Rise (letters a 6):=by
 refine⟨fun l hl=>(zaF.1 hl).1,fun i j x y hx hy hij=>?_⟩
 have h1:(letters a 6).Pairwise (·<·):=List.Pairwise.filter _ List.pairwise_lt_range
 obtain⟨hi,rfl⟩:=List.getElem?_eq_some_iff.1 hx
 obtain⟨hj,rfl⟩:=List.getElem?_eq_some_iff.1 hy
 exact List.pairwise_iff_getElem.1 h1 i j hi hj hij
noncomputable def outB (s t:Sys):Bool:=zcj s t&&@decide (¬ Lost (dW s.edges t.edges (2 ^ t.st.toNat)) [1] (fun n=>n % 2 ^ t.st.toNat==0) (letters s.al.toNat 6)) (Classical.propDecidable _)
theorem outB_true {s t:Sys} {Z:Nat} {L v:List Nat}(h:zcj s t=true)(hZ:Z=2 ^ t.st.toNat)(hL:L=letters s.al.toNat 6)(hF:Found (dW s.edges t.edges Z) [1] (fun n=>n % Z==0) L v):outB s t=true:=by
 subst hZ hL
 unfold outB
 rw [h,Bool.true_and]
 refine @decide_eq_true _ (Classical.propDecidable _) fun hl=>?_
 obtain⟨h1,⟨x,hx,hg⟩,_⟩:=hF
 have:=hl v h1 x hx
 rw [hg] at this
 cases this
theorem zgs {s t:Sys} {Z:Nat} {L:List Nat}(h:zcj s t=true)(hZ:Z=2 ^ t.st.toNat)(hL:L=letters s.al.toNat 6)(hF:Lost (dW s.edges t.edges Z) [1] (fun n=>n % Z==0) L):outB s t=false:=by
 subst hZ hL
 unfold outB
 rw [h,Bool.true_and]
 exact @decide_eq_false _ (Classical.propDecidable _) fun hn=>hn hF
theorem Blk.ne {w:World} {a b:Nat} {t u:TypeId} {cs ds:Array Value}(h:Blk w a t cs)(h':Blk w b u ds)(ht:t≠u):a≠b:=by
 rintro rfl
 unfold Blk at h h'
 rw [h] at h'
 injection h' with h'
 injection h' with _ h2
 exact ht h2
theorem MovB.set {w:World} {b g:Nat} {es:List Edg} {cs:Array Value} {v:Value}(h:MovB w b es)(hg:Blk w g 142 cs):MovB (w.setCell ⟨g,0,none⟩ v) b es:=by
 obtain⟨ds,hb,hc⟩:=h
 exact⟨ds,hb.frm (Frm.setCell w g 0 v) (hb.ne hg (by decide)),hc⟩
theorem zav {w:World} {g b:Nat} {v:Value}(h:Blk w g 142 #[v]):Blk (w.setCell ⟨g,0,none⟩ (.pointer (some ⟨b,0,none⟩))) g 142 #[.pointer (some ⟨b,0,none⟩)]:=by
 simpa using h.set_ 0 (.pointer (some ⟨b,0,none⟩))
theorem one_at {w:World} {g x:Nat}(h:Blk w g 3 #[.int .i64 (x:Nat)]):zaX w (some ⟨g,0,none⟩) 1 [x]:=by
 refine⟨rfl,by omega,fun _=>⟨g,0,_,rfl,h,fun j y hj=>?_⟩⟩
 cases j with
 |zero =>
  obtain rfl:=Option.some.inj hj
  rw [h.cell];rfl
 |succ j=>simp at hj
theorem yM06c1 {P:Prop}(h:P:=by
 refine pT ?_
 have cG:=h6.cell
 have fG:=h6.frozen
 refine za rfl rfl rfl (fun K hK=>?_)
 go_simp
 clear cG fG
 replace hMm:=hMm.set (v:=.pointer (some ⟨bm,0,none⟩)) h6
 replace hMn:=hMn.set (v:=.pointer (some ⟨bm,0,none⟩)) h6
 replace h7:=h7.frm (Frm.setCell w13 g6 0 (.pointer (some ⟨bm,0,none⟩))) (by omega)
 replace h6:=zav (b:=bm) h6
 replace hx0:=hx0.setCell (p:=⟨g6,0,none⟩) hl6 (.pointer (some ⟨bm,0,none⟩))
 refine hK.out _ _ hx0 ?_
 generalize w13.setCell ⟨g6,0,none⟩ (.pointer (some ⟨bm,0,none⟩))=w14 at *
 refine pT ?_
 have cG:=h7.cell
 have fG:=h7.frozen
 refine za rfl rfl rfl (fun K hK=>?_)
 go_simp
 clear cG fG
 replace hMm:=hMm.set (v:=.pointer (some ⟨bn,0,none⟩)) h7
 replace hMn:=hMn.set (v:=.pointer (some ⟨bn,0,none⟩)) h7
 replace h6:=h6.frm (Frm.setCell w14 g7 0 (.pointer (some ⟨bn,0,none⟩))) (by omega)
 replace h7:=zav (b:=bn) h7
 replace hx0:=hx0.setCell (p:=⟨g7,0,none⟩) hl7 (.pointer (some ⟨bn,0,none⟩))
 refine hK.out _ _ hx0 ?_
 generalize w14.setCell ⟨g7,0,none⟩ (.pointer (some ⟨bn,0,none⟩))=w15 at *
 refine pT ?_
 refine zf ?_
 go_wp2_with fail
 go_meet
 exact⟨g6,g7,bm,bn,rfl,rfl,hx0,h6,h7,hMm,hMn⟩
 ):P:=h
theorem yM06b1 {P:Prop}(h:P:=by
 refine pT ?_
 (refine za rfl rfl rfl (fun K hK=>?_);go_simp)
 refine (hmB.out _ hx0).mono ?_
 rintro e w13 ⟨bn,rfl,_,hMn,hx1⟩
 replace hx0:=hx0.trans hx1
 replace hMm:=hMm.ext hx1
 replace h6:=h6.ext hx1
 replace h7:=h7.ext hx1
 clear hx1
 refine hK.out _ _ hx0 ?_
 exact yM06c1
 ):P:=h
theorem yM06b2 {P:Prop}(h:P:=by
 exact yM06c1
 ):P:=h
def RetOut (w:World) (s t:Sys) (e:Ending) (w':World):Prop:=∃ v,e=.returned (.tuple #[.string v,.bool (outB s t)])∧Ext w w'
theorem yM06a1 {P:Prop}(h:P:=by
 refine pT ?_
 refine zA rfl rfl rfl rfl (fun K hK=>?_) (fun K hK=>?_)
 ·go_simp
  refine (hmB.out _ hx0).mono ?_
  rintro e w12 ⟨bn,rfl,_,hMn,hx1⟩
  replace hx0:=hx0.trans hx1
  replace hMm:=hMm.ext hx1
  replace h7:=h7.ext hx1
  clear hx1
  refine hK.out _ _ hx0 ?_
  refine pT ?_
  (refine za rfl rfl rfl (fun K hK=>?_);go_simp)
  have hl6:=hx0.size
  have hne:=Nat.ne_of_lt h7.lt
  have hx1:=(Ext.refl w12).alloc (.cells #[.pointer none] 142)
  replace hx0:=hx0.trans hx1
  replace hMm:=hMm.ext hx1
  replace hMn:=hMn.ext hx1
  replace h7:=h7.ext hx1
  clear hx1
  have h6:=Blk.new w12 142 #[.pointer none]
  refine hK.out _ _ hx0 ?_
  generalize w12.alloc (.cells #[.pointer none] 142)=w13 at *
  generalize w12.heap.size=g6 at *
  exact yM06b2
 ·go_simp
  have hl6:=hx0.size
  have hne:=Nat.ne_of_lt h7.lt
  have hx1:=(Ext.refl w11).alloc (.cells #[.pointer none] 142)
  replace hx0:=hx0.trans hx1
  replace hMm:=hMm.ext hx1
  replace h7:=h7.ext hx1
  clear hx1
  have h6:=Blk.new w11 142 #[.pointer none]
  refine hK.out _ _ hx0 ?_
  generalize w11.alloc (.cells #[.pointer none] 142)=w12 at *
  generalize w11.heap.size=g6 at *
  exact yM06b1
 ):P:=h
theorem yM06a2 {P:Prop}(h:P:=by
 refine pT ?_
 refine zA rfl rfl rfl rfl (fun K hK=>?_) (fun K hK=>?_)
 ·go_simp
  refine (hmB.out _ hx0).mono ?_
  rintro e w12 ⟨bn,rfl,_,hMn,hx1⟩
  replace hx0:=hx0.trans hx1
  replace hMm:=hMm.ext hx1
  replace h6:=h6.ext hx1
  clear hx1
  refine hK.out _ _ hx0 ?_
  refine pT ?_
  (refine za rfl rfl rfl (fun K hK=>?_);go_simp)
  have hl7:=hx0.size
  have hne:=Nat.ne_of_lt h6.lt
  have hx1:=(Ext.refl w12).alloc (.cells #[.pointer none] 142)
  replace hx0:=hx0.trans hx1
  replace hMm:=hMm.ext hx1
  replace hMn:=hMn.ext hx1
  replace h6:=h6.ext hx1
  clear hx1
  have h7:=Blk.new w12 142 #[.pointer none]
  refine hK.out _ _ hx0 ?_
  generalize w12.alloc (.cells #[.pointer none] 142)=w13 at *
  generalize w12.heap.size=g7 at *
  exact yM06b2
 ·go_simp
  have hl7:=hx0.size
  have hne:=Nat.ne_of_lt h6.lt
  have hx1:=(Ext.refl w11).alloc (.cells #[.pointer none] 142)
  replace hx0:=hx0.trans hx1
  replace hMm:=hMm.ext hx1
  replace h6:=h6.ext hx1
  clear hx1
  have h7:=Blk.new w11 142 #[.pointer none]
  refine hK.out _ _ hx0 ?_
  generalize w11.alloc (.cells #[.pointer none] 142)=w12 at *
  generalize w11.heap.size=g7 at *
  exact yM06b1
 ):P:=h
theorem yM06a3 {P:Prop}(h:P:=by
 refine pT ?_
 (refine za rfl rfl rfl (fun K hK=>?_);go_simp)
 refine (hmA.out _ hx0).mono ?_
 rintro e w12 ⟨bm,rfl,_,hMm,hx1⟩
 replace hx0:=hx0.trans hx1
 replace h6:=h6.ext hx1
 replace h7:=h7.ext hx1
 clear hx1
 refine hK.out _ _ hx0 ?_
 exact yM06b1
 ):P:=h
theorem yM06a4 {P:Prop}(h:P:=by
 exact yM06b2
 ):P:=h
theorem yM06a5 {P:Prop}(h:P:=by
 refine pT ?_
 refine uQ ?_
 (refine za rfl rfl rfl (fun K hK=>?_);go_simp)
 refine (key.out _ hx4 _ _ _ _ _ hI (zaX.own hown6)).mono ?_
 rintro e w7 ⟨hx7,hcase⟩
 replace hx4:=hx4.trans hx7
 rcases hcase with ⟨v,rfl,hF⟩|⟨rfl,hF⟩
 ·have ho:=hide (outB_true H1.out hZt.out hLt.out hF)
  refine hK.out _ _ hx4 ?_
  refine pT ?_
  refine uQ ?_
  refine zf ?_
  go_wp2_with fail
  go_ret2
  exact⟨_,by rw [ho.out];rfl,hw4.trans hx4⟩
 ·have ho:=hide (zgs H1.out hZt.out hLt.out hF)
  refine hK.out _ _ hx4 ?_
  refine pT ?_
  refine uQ ?_
  refine zf ?_
  go_wp2_with fail
  go_ret2
  exact⟨_,by rw [ho.out];rfl,hw4.trans hx4⟩
 ):P:=h
set_option maxRecDepth 100000 in
theorem zcZ {lo hi lo' hi':Nat} {A:Option Addr} {n c:Nat} {B:Option Addr} {m d:Nat} {s t:Sys} {w:World}(h:zO w lo hi A n s)(h':zO w lo' hi' B m t)(hT:Tab w) :
  Calls Tryz.prog 69 #[.agg #[.int .i64 s.al,.int .i64 s.st,.slice A n c],.agg #[.int .i64 t.al,.int .i64 t.st,.slice B m d]] w (RetOut w s t):=by
 have HS:=hide (fun W (hW:Ext w W)=>h.ext hW)
 have HT:=hide (fun W (hW:Ext w W)=>h'.ext hW)
 have HTab:=hide (fun W (hW:Ext w W)=>hT.ext hW)
 clear h h' hT
 cases h1:zcj s t
 ·have H1:=hide h1
  have ho:=hide (show outB s t=false by unfold outB;rw [h1];rfl)
  clear h1
  go_enter Tryz.func69,Tryz.ntmps69
  go_wp2_with (go_at_call 70;refine (zbx (HS.out _ (((Ext.refl _).alloc _).alloc _)) (HT.out _ (((Ext.refl _).alloc _).alloc _))).mono ?_;rw [H1.out];rintro e w1 ⟨rfl,hx⟩)
  go_ret2
  exact⟨ByteArray.empty,by rw [ho.out];rfl,(((Ext.refl _).alloc _).alloc _).trans hx⟩
 ·obtain⟨v1,v2,-⟩:=zcG h1
  obtain⟨p,hp,hp1,hp2,hf⟩:=zax v1
  obtain⟨q,hq,hq1,hq2,hg⟩:=zax v2
  obtain⟨al,hal,hal2⟩:∃ al:Nat,s.al=al∧al<64:=⟨s.al.toNat,by have:=(zeq.1 v1).1;omega,by have:=(zeq.1 v1).1;omega⟩
  have H1:=hide h1
  have Hf:=hide hf
  have Hg:=hide hg
  have Hp:=hide hp
  have Hq:=hide hq
  have Hal:=hide hal
  clear h1 v1 v2 hf hg hp hq hal
  go_enter Tryz.func69,Tryz.ntmps69
  go_wp2_with fail
  refine (zbx (HS.out _ (((Ext.refl _).alloc _).alloc _)) (HT.out _ (((Ext.refl _).alloc _).alloc _))).mono ?_
  rw [H1.out]
  rintro e w1 ⟨rfl,hx⟩
  obtain⟨b1,b2⟩:=zJ hx
  have hw1:=(((Ext.refl w).alloc _).alloc _).trans hx
  have c1:=fun W (hW:Ext w1 W)=>(b1.ext hW).cell
  have c2:=fun W (hW:Ext w1 W)=>(b2.ext hW).cell
  have hww:=Ext.refl w1
  have hmA:=hide (fun W (hW:Ext w1 W)=>zdd (c:=c) (HS.out _ (hw1.trans hW)) (fun e he=>by have:=Hf.out e he;omega))
  have hmB:=hide (fun W (hW:Ext w1 W)=>zdd (c:=d) (HT.out _ (hw1.trans hW)) (fun e he=>by have:=Hg.out e he;omega))
  go_upto_region 3 with fail
  go_cut [6,7] (fun v6 v7 wx=>∃ g6 g7 bm bn:Nat,v6=.pointer (some ⟨g6,0,none⟩)∧v7=.pointer (some ⟨g7,0,none⟩)∧Ext w1 wx∧Blk wx g6 142 #[.pointer (some ⟨bm,0,none⟩)]∧Blk wx g7 142 #[.pointer (some ⟨bn,0,none⟩)]∧MovB wx bm s.edges∧MovB wx bn t.edges)
  case first =>
   refine uR (fun X=>Ext w1 X) [3,6,7] (OrdU.app [0,2] (OrdU.three 1 (OrdU.three 3 (OrdU.two 4 (OrdU.of [5,6,7]) 5 (OrdU.of [4,6,7])) 4 (OrdU.two 3 (OrdU.of [5,6,7]) 5 (OrdU.of [3,6,7])) 5 (OrdU.two 3 (OrdU.of [4,6,7]) 4 (OrdU.of [3,6,7]))) 4 (OrdU.two 1 (OrdU.two 3 (OrdU.of [5,6,7]) 5 (OrdU.of [3,6,7])) 5 (OrdU.of [1,3,6,7])) 5 (OrdU.two 1 (OrdU.two 3 (OrdU.of [4,6,7]) 4 (OrdU.of [3,6,7])) 4 (OrdU.of [1,3,6,7])))) ?_
   refine uQ ?_
   have hx0:Ext w1 w1.drew:=hww.drew
   generalize w1.drew=wd at *
   refine zcb rfl rfl rfl rfl rfl rfl (fun K hK=>?_) (fun K hK=>?_) (fun K hK=>?_)
   ·go_simp
    refine (hmA.out _ hx0).mono ?_
    rintro e w10 ⟨bm,rfl,_,hMm,hx1⟩
    replace hx0:=hx0.trans hx1
    clear hx1
    refine hK.out _ _ hx0 ?_
    refine pT ?_
    refine zcb rfl rfl rfl rfl rfl rfl (fun K hK=>?_) (fun K hK=>?_) (fun K hK=>?_)
    ·go_simp
     refine (hmB.out _ hx0).mono ?_
     rintro e w11 ⟨bn,rfl,_,hMn,hx1⟩
     replace hx0:=hx0.trans hx1
     replace hMm:=hMm.ext hx1
     clear hx1
     refine hK.out _ _ hx0 ?_
     refine pT ?_
     refine zA rfl rfl rfl rfl (fun K hK=>?_) (fun K hK=>?_)
     ·go_simp
      have hl6:=hx0.size
      have hx1:=(Ext.refl w11).alloc (.cells #[.pointer none] 142)
      replace hx0:=hx0.trans hx1
      replace hMm:=hMm.ext hx1
      replace hMn:=hMn.ext hx1
      clear hx1
      have h6:=Blk.new w11 142 #[.pointer none]
      refine hK.out _ _ hx0 ?_
      generalize w11.alloc (.cells #[.pointer none] 142)=w12 at *
      generalize w11.heap.size=g6 at *
      refine pT ?_
      (refine za rfl rfl rfl (fun K hK=>?_);go_simp)
      have hl7:=hx0.size
      have hne:=Nat.ne_of_lt h6.lt
      have hx1:=(Ext.refl w12).alloc (.cells #[.pointer none] 142)
      replace hx0:=hx0.trans hx1
      replace hMm:=hMm.ext hx1
      replace hMn:=hMn.ext hx1
      replace h6:=h6.ext hx1
      clear hx1
      have h7:=Blk.new w12 142 #[.pointer none]
      refine hK.out _ _ hx0 ?_
      generalize w12.alloc (.cells #[.pointer none] 142)=w13 at *
      generalize w12.heap.size=g7 at *
      exact yM06a4
     ·go_simp
      have hl7:=hx0.size
      have hx1:=(Ext.refl w11).alloc (.cells #[.pointer none] 142)
      replace hx0:=hx0.trans hx1
      replace hMm:=hMm.ext hx1
      replace hMn:=hMn.ext hx1
      clear hx1
      have h7:=Blk.new w11 142 #[.pointer none]
      refine hK.out _ _ hx0 ?_
      generalize w11.alloc (.cells #[.pointer none] 142)=w12 at *
      generalize w11.heap.size=g7 at *
      refine pT ?_
      (refine za rfl rfl rfl (fun K hK=>?_);go_simp)
      have hl6:=hx0.size
      have hne:=Nat.ne_of_lt h7.lt
      have hx1:=(Ext.refl w12).alloc (.cells #[.pointer none] 142)
      replace hx0:=hx0.trans hx1
      replace hMm:=hMm.ext hx1
      replace hMn:=hMn.ext hx1
      replace h7:=h7.ext hx1
      clear hx1
      have h6:=Blk.new w12 142 #[.pointer none]
      refine hK.out _ _ hx0 ?_
      generalize w12.alloc (.cells #[.pointer none] 142)=w13 at *
      generalize w12.heap.size=g6 at *
      exact yM06a4
    ·go_simp
     have hl6:=hx0.size
     have hx1:=(Ext.refl w10).alloc (.cells #[.pointer none] 142)
     replace hx0:=hx0.trans hx1
     replace hMm:=hMm.ext hx1
     clear hx1
     have h6:=Blk.new w10 142 #[.pointer none]
     refine hK.out _ _ hx0 ?_
     generalize w10.alloc (.cells #[.pointer none] 142)=w11 at *
     generalize w10.heap.size=g6 at *
     exact yM06a2
    ·go_simp
     have hl7:=hx0.size
     have hx1:=(Ext.refl w10).alloc (.cells #[.pointer none] 142)
     replace hx0:=hx0.trans hx1
     replace hMm:=hMm.ext hx1
     clear hx1
     have h7:=Blk.new w10 142 #[.pointer none]
     refine hK.out _ _ hx0 ?_
     generalize w10.alloc (.cells #[.pointer none] 142)=w11 at *
     generalize w10.heap.size=g7 at *
     exact yM06a1
   ·go_simp
    have hl6:=hx0.size
    have hx1:=(Ext.refl wd).alloc (.cells #[.pointer none] 142)
    replace hx0:=hx0.trans hx1
    clear hx1
    have h6:=Blk.new wd 142 #[.pointer none]
    refine hK.out _ _ hx0 ?_
    generalize wd.alloc (.cells #[.pointer none] 142)=w10 at *
    generalize wd.heap.size=g6 at *
    refine pT ?_
    refine zA rfl rfl rfl rfl (fun K hK=>?_) (fun K hK=>?_)
    ·go_simp
     refine (hmA.out _ hx0).mono ?_
     rintro e w11 ⟨bm,rfl,_,hMm,hx1⟩
     replace hx0:=hx0.trans hx1
     replace h6:=h6.ext hx1
     clear hx1
     refine hK.out _ _ hx0 ?_
     exact yM06a2
    ·go_simp
     have hl7:=hx0.size
     have hne:=Nat.ne_of_lt h6.lt
     have hx1:=(Ext.refl w10).alloc (.cells #[.pointer none] 142)
     replace hx0:=hx0.trans hx1
     replace h6:=h6.ext hx1
     clear hx1
     have h7:=Blk.new w10 142 #[.pointer none]
     refine hK.out _ _ hx0 ?_
     generalize w10.alloc (.cells #[.pointer none] 142)=w11 at *
     generalize w10.heap.size=g7 at *
     exact yM06a3
   ·go_simp
    have hl7:=hx0.size
    have hx1:=(Ext.refl wd).alloc (.cells #[.pointer none] 142)
    replace hx0:=hx0.trans hx1
    clear hx1
    have h7:=Blk.new wd 142 #[.pointer none]
    refine hK.out _ _ hx0 ?_
    generalize wd.alloc (.cells #[.pointer none] 142)=w10 at *
    generalize wd.heap.size=g7 at *
    refine pT ?_
    refine zA rfl rfl rfl rfl (fun K hK=>?_) (fun K hK=>?_)
    ·go_simp
     refine (hmA.out _ hx0).mono ?_
     rintro e w11 ⟨bm,rfl,_,hMm,hx1⟩
     replace hx0:=hx0.trans hx1
     replace h7:=h7.ext hx1
     clear hx1
     refine hK.out _ _ hx0 ?_
     exact yM06a1
    ·go_simp
     have hl6:=hx0.size
     have hne:=Nat.ne_of_lt h7.lt
     have hx1:=(Ext.refl w10).alloc (.cells #[.pointer none] 142)
     replace hx0:=hx0.trans hx1
     replace h7:=h7.ext hx1
     clear hx1
     have h6:=Blk.new w10 142 #[.pointer none]
     refine hK.out _ _ hx0 ?_
     generalize w10.alloc (.cells #[.pointer none] 142)=w11 at *
     generalize w10.heap.size=g6 at *
     exact yM06a3
  case rest =>
   obtain⟨g6,g7,bm,bn,rfl,rfl,hx0,h6,h7,hMm,hMn⟩:=hcut
   clear hmA hmB c1 c2
   replace b1:=b1.ext hx0
   replace b2:=b2.ext hx0
   rw [Hp.out,Hal.out] at b1
   rw [Hq.out] at b2
   have k1:=b1.cell
   have k2:=b2.cell
   go_upto_region 6 with fail
   obtain⟨Z,hZ⟩:∃ Z:Nat,Hid (Z=2 ^ q):=⟨_,rfl⟩
   rw [show wrap64 ((2:Int) ^ q)=(Z:Int) by rw [hZ.out];exact wrap_pow (by omega)]
   have hxc:=(Ext.refl wc).alloc (.cells #[.int .i64 (Z:Nat)] 3)
   have hC:Caps (wc.alloc (.cells #[.int .i64 (Z:Nat)] 3)) g6 g7 wc.heap.size bm bn Z s.edges t.edges:=⟨h6.ext hxc,h7.ext hxc,Blk.new _ _ _,hMm.ext hxc,hMn.ext hxc⟩
   replace hx0:=hx0.trans hxc
   replace b1:=b1.ext hxc
   clear k1 k2 b2 h6 h7 hMm hMn hxc
   generalize wc.alloc (.cells #[.int .i64 (Z:Nat)] 3)=w4 at *
   generalize wc.heap.size=g8 at *
   have hw4:=hw1.trans hx0
   have hZ2:2≤Z:=by
    rw [hZ.out]
    have:=Nat.pow_le_pow_right (n:=2) (by omega) hq1
    omega
   have hZ1:Z≤65536:=by rw [hZ.out,show (65536:Nat)=2 ^ 16 from rfl];exact Nat.pow_le_pow_right (by omega) hq2
   obtain⟨N,hN⟩:∃ N:Nat,Hid (N=p*Z):=⟨_,rfl⟩
   have hN1:N≤16*65536:=by rw [hN.out];exact Nat.mul_le_mul hp2 hZ1
   have hN2:2≤N:=by
    rw [hN.out]
    have:=Nat.mul_le_mul hp1 hZ2
    omega
   have hZt:=hide (show Z=2 ^ t.st.toNat by rw [hZ.out,Hq.out];rfl)
   have hLt:=hide (show letters al 6=letters s.al.toNat 6 by rw [Hal.out];rfl)
   have key:=hide (fun W (hW:Ext w4 W) A1 c1 AL q' cL (hA:zaX W A1 1 [1]) (hL:zaX W AL q' (letters al 6))=>zgK (w:=W) (N:=N) (kn:=124) (kg:=128) (m:=1) (c:=c1) (cL:=cL) (capn:=#[.pointer (some ⟨g7,0,none⟩),.pointer (some ⟨g8,0,none⟩),.pointer (some ⟨g6,0,none⟩)]) (capg:=#[.pointer (some ⟨g8,0,none⟩)]) (goal:=fun n=>n % Z==0) (d:=dW s.edges t.edges Z) (start:=[1]) (D:=32) hA (fun n hn=>by rw [List.mem_singleton.1 hn];omega) (by omega) hL (zeJ al) (by omega) (by omega) (fun _ _=>rfl) (fun _ _=>rfl)
    (fun W' hW' n hn=>out_goal ((hC.ext (hW.trans hW')).h8) (by omega) (by omega))
    (fun n l hn hl=>⟨by unfold dW;rw [List.length_map];exact zx _ 32,fun x hx=>by
     rw [hZ.out] at hx
     have h1:=(E_lt Hf.out ((dW_mem hp2 Hf.out Hg.out).1 hx).1).2
     rw [hN.out,hZ.out]
     exact (Nat.div_lt_iff_lt_mul (Nat.two_pow_pos q)).1 h1⟩)
    (fun W' hW' n l hn hl base A m c xs hb0 hb hm hown=>out_next (hC.ext (hW.trans hW')) hZ.out (HTab.out _ (hw4.trans (hW.trans hW'))) Hf.out Hg.out hp2 hq2 (by rw [← hN.out];exact hn) ((zeJ al).1 l hl) (by have h1:=hC.h8.lt;have h2:=hW.size;omega) hb hm hown))
   have K1:=b1.cells
   have K8:∀ W,Ext w4 W→∀ q,W.cell? ⟨g8,q,none⟩=#[Value.int .i64 (Z:Nat)][q]?:=fun W hW=>(hC.h8.ext hW).cell
   have hmul:(p:Int)*(Z:Int)=(N:Int):=by rw [hN.out];simp
   have hwN:IntKind.i64.wrap (N:Int)=(N:Int):=IntWalk.i64_in _ (by omega)
   have hww4:=Ext.refl w4
   clear hC b1 hx0 hww
   refine uR (fun X=>Ext w4 X) [10] (OrdU.app [0,1,2,3,5,6,8,9] (OrdU.two 4 (OrdU.of [7,10,11,12,13,14]) 7 (OrdU.of [4,10,11,12,13,14]))) ?_
   refine uQ ?_
   have hx4:Ext w4 w4.drew:=hww4.drew
   generalize w4.drew=wd at *
   refine zA rfl rfl rfl rfl (fun K hK=>?_) (fun K hK=>?_)
   ·go_simp
    have hb:=Blk.new wd 3 #[.int .i64 1]
    have hx5:=(Ext.refl wd).alloc (.cells #[.int .i64 1] 3)
    replace hx4:=hx4.trans hx5
    refine hK.out _ _ hx4 ?_
    generalize wd.alloc (.cells #[.int .i64 1] 3)=w5 at *
    generalize wd.heap.size=g1 at *
    refine pT ?_
    (refine za rfl rfl rfl (fun K hK=>?_);go_simp)
    refine (zbL al (by unfold Sm;omega) _).mono ?_
    rintro e w6 ⟨A6,c6,rfl,hown6,hx6⟩
    replace hx4:=hx4.trans hx6
    have hI:=one_at (hb.ext hx6)
    refine hK.out _ _ hx4 ?_
    exact yM06a5
   ·go_simp
    refine (zbL al (by unfold Sm;omega) _).mono ?_
    rintro e w5 ⟨A6,c6,rfl,hown6,hx6⟩
    replace hx4:=hx4.trans hx6
    refine hK.out _ _ hx4 ?_
    refine pT ?_
    (refine za rfl rfl rfl (fun K hK=>?_);go_simp)
    have hb:=Blk.new w5 3 #[.int .i64 1]
    have hx5:=(Ext.refl w5).alloc (.cells #[.int .i64 1] 3)
    replace hx4:=hx4.trans hx5
    replace hown6:=zd hown6 hx5
    refine hK.out _ _ hx4 ?_
    generalize w5.alloc (.cells #[.int .i64 1] 3)=w6 at *
    generalize w5.heap.size=g1 at *
    have hI:=one_at hb
    exact yM06a5
set_option maxHeartbeats 2000000
noncomputable def zcq (s t:Sys):Bool:=zcj s t&&!outB s t
theorem impl_TracesWithin {lo hi lo' hi':Nat} {A:Option Addr} {n c:Nat} {B:Option Addr} {m d:Nat} {s t:Sys} {w:World}(h:zO w lo hi A n s)(h':zO w lo' hi' B m t)(hT:Tab w) :
  Calls Tryz.prog 32 #[.agg #[.int .i64 s.al,.int .i64 s.st,.slice A n c],.agg #[.int .i64 t.al,.int .i64 t.st,.slice B m d]] w fun e w'=>e=.returned (.bool (zcq s t))∧Ext w w':=by
 have HS:=hide (fun W (hW:Ext w W)=>h.ext hW)
 have HT:=hide (fun W (hW:Ext w W)=>h'.ext hW)
 have HTab:=hide (fun W (hW:Ext w W)=>hT.ext hW)
 clear h h' hT
 obtain⟨o,ho⟩:∃ o,Hid (outB s t=o):=⟨_,rfl⟩
 cases h1:zcj s t
 all_goals
  have H1:=hide h1
  clear h1
  go_enter Tryz.func32,Tryz.ntmps32
  go_wp2_with fail
  refine (zcZ (HS.out _ (((Ext.refl _).alloc _).alloc _)) (HT.out _ (((Ext.refl _).alloc _).alloc _)) (HTab.out _ (((Ext.refl _).alloc _).alloc _))).mono ?_
  rintro e w1 ⟨v,rfl,hx⟩
  rw [ho.out]
  obtain⟨b1,b2⟩:=zJ hx
  have c1:=b1.cell
  have c2:=b2.cell
  have hw1:=(((Ext.refl w).alloc _).alloc _).trans hx
  go_wp2_with fail
  refine (zbx (HS.out _ hw1) (HT.out _ hw1)).mono ?_
  rw [H1.out]
  rintro e w2 ⟨rfl,hx2⟩
  go_wp2_with fail
  go_ret
  exact⟨zh (by unfold zcq;rw [H1.out,ho.out];rfl),hw1.trans hx2⟩
theorem out_lost {s t:Sys} {q:Nat}(h:zcq s t=true)(hq:t.st=q):Lost (dW s.edges t.edges (2 ^ q)) [1] (fun n=>n % 2 ^ q==0) (letters s.al.toNat 6):=by
 unfold zcq at h
 rw [Bool.and_eq_true] at h
 have h2:=h.2
 unfold outB at h2
 rw [h.1,Bool.true_and,Bool.not_eq_true',hq] at h2
 have:=@of_decide_eq_false _ (Classical.propDecidable _) h2
 exact Classical.not_not.1 this
theorem rising_pw {es:List Edg}:Rising es↔es.Pairwise (fun x y=>ltE x y=true):=by
 rw [List.pairwise_iff_getElem]
 constructor
 ·intro h i j hi hj hij
  exact h i j _ _ (List.getElem?_eq_getElem hi) (List.getElem?_eq_getElem hj) hij
 ·intro h a b x y hx hy hab
  obtain⟨ha,rfl⟩:=List.getElem?_eq_some_iff.1 hx
  obtain⟨hb,rfl⟩:=List.getElem?_eq_some_iff.1 hy
  exact h a b ha hb hab
theorem zex (a k:Nat):(letters a k).Pairwise (·<·):=List.Pairwise.filter _ List.pairwise_lt_range
set_option maxHeartbeats 2000000
theorem asc_ext:∀ {l m:List Nat},l.Pairwise (·<·)→m.Pairwise (·<·)→(∀ x,x∈l↔x∈m)→l=m:=by
 intro l
 induction l with
 |nil =>
  intro m _ _ h
  cases m with
  |nil=>rfl
  |cons y s=>exact absurd ((h y).2 (by simp)) (by simp)
 |cons x r ih =>
  intro m hl hm h
  cases m with
  |nil=>exact absurd ((h x).1 (by simp)) (by simp)
  |cons y s =>
   rw [List.pairwise_cons] at hl hm
   have e:x=y:=by
    have h1:=(h x).1 (by simp)
    have h2:=(h y).2 (by simp)
    rcases List.mem_cons.1 h1 with h1|h1
    ·exact h1
    ·rcases List.mem_cons.1 h2 with h2|h2
     ·exact h2.symm
     ·have:=hl.1 y h2
      have:=hm.1 x h1
      omega
   subst e
   rw [ih hl.2 hm.2 fun z=>?_]
   have hz:=h z
   simp only [List.mem_cons] at hz
   constructor
   ·intro h1
    have:=hl.1 z h1
    rcases hz.1 (Or.inr h1) with h2|h2
    ·omega
    ·exact h2
   ·intro h1
    have:=hm.1 z h1
    rcases hz.2 (Or.inr h1) with h2|h2
    ·omega
    ·exact h2
def chE (es:List Edg) (q l:Nat):List Nat:=(es.filter fun e=>e.fr==(q:Int)&&e.le==(l:Int)).map fun e=>e.ta.toNat
theorem chE_cho {p:Nat} {es:List Edg}(hf:Few p es)(hp:p≤16)(hr:Rising es) (q l:Nat):chE es q l=letters (succ es q l) 32:=by
 refine asc_ext ?_ (zex _ _) fun x=>?_
 ·have h1:=rising_pw.1 hr
  rw [chE,List.pairwise_map,List.pairwise_filter]
  refine h1.imp_of_mem fun {a b} ha hb hab h2 h3=>?_
  simp only [Bool.and_eq_true,beq_iff_eq] at h2 h3
  have:=ltE_iff.1 hab
  have:=hf a ha
  have:=hf b hb
  omega
 ·rw [zB,zcy,chE,List.mem_map]
  simp only [List.mem_filter,Bool.and_eq_true,beq_iff_eq]
  constructor
  ·rintro ⟨e,⟨h1,h2⟩,rfl⟩
   have:=hf e h1
   exact⟨by omega,e,h1,h2,rfl⟩
  ·rintro ⟨_,e,h1,h2,rfl⟩
   exact⟨e,⟨h1,h2⟩,rfl⟩
theorem chE_take {es:List Edg} {k:Nat} {x:Edg}(h:es[k]?=some x) (q l:Nat):chE (es.take (k+1)) q l=chE (es.take k) q l++if x.fr=(q:Int)∧x.le=(l:Int) then [x.ta.toNat] else []:=by
 rw [List.take_add_one,h]
 unfold chE
 rw [Option.toList_some,List.filter_append,List.map_append]
 congr 1
 by_cases hc:x.fr=(q:Int)∧x.le=(l:Int)
 ·rw [if_pos hc];simp [hc]
 ·rw [if_neg hc]
  have:(x.fr==(q:Int)&&x.le==(l:Int))=false:=by
   rw [Bool.eq_false_iff]
   intro h
   simp only [Bool.and_eq_true,beq_iff_eq] at h
   exact hc h
  simp [this]
theorem chE_len {p:Nat} {es:List Edg}(hf:Few p es)(hp:p≤16)(hr:Rising es) (q l k:Nat):(chE (es.take k) q l).length≤16:=by
 have h1:(chE (es.take k) q l).Sublist (chE es q l):=((List.take_sublist k es).filter _).map _
 refine Nat.le_trans h1.length_le (Nat.le_trans (zeh (p:=p) ?_ ?_) hp)
 ·rw [chE_cho hf hp hr];exact zef _ _
 ·intro x hx
  obtain⟨e,he,rfl⟩:=List.mem_map.1 hx
  have:=hf e (List.mem_filter.1 he).1
  omega
theorem ret_one {w W:World} {y g:Nat}(hx:Ext w W)(hb:Blk W g 3 #[.int .i64 (y:Nat)])(hg:w.heap.size≤g):zbs w [y] (.returned (.slice (some ⟨g,0,none⟩) 1 1)) W:=
 ⟨some ⟨g,0,none⟩,1,rfl,⟨rfl,.inr ⟨g,1,_,rfl,hg,hb,by simp [nats,maxLen]⟩⟩,hx⟩
set_option maxRecDepth 100000 in
theorem zgi {PA AA:Option Addr} {pn pc an ac:Nat} {sv:Value} {L K G:Int} {ss:List Sys} {us:List Aut} {w:World} {i q l:Nat} {m:Mem}(h:zdW w PA pn AA an ss us)(hok:zcL ss us)(hm:(mems ss us)[i]?=some m)(hq:q<m.1)(hl:l<6) :
  Calls Tryz.prog 220 #[.agg #[.slice PA pn pc,.slice AA an ac,sv,.int .i64 L,.int .i64 K,.int .i64 G],.int .i64 i,.int .i64 q,.int .i64 l] w (zbs w (m.2 q l)):=by
 have hw1:Ext w (w.alloc (.cells #[.slice PA pn pc,.slice AA an ac,sv,.int .i64 L,.int .i64 K,.int .i64 G] 166)):=(Ext.refl w).alloc _
 have hb1:=Blk.new w 166 #[.slice PA pn pc,.slice AA an ac,sv,.int .i64 L,.int .i64 K,.int .i64 G]
 have HN:=hide (fun W (hW:Ext w W)=>h.ext hW)
 have hpn:Hid (pn=ss.length):=by obtain⟨_,_,h1⟩:=h.sys;exact h1.1
 have han:Hid (an=us.length):=by obtain⟨_,_,h1⟩:=h.aut;exact h1.1
 have hp3:pn≤3:=by rw [hpn.out];exact hok.few
 have ha2:an≤2:=by rw [han.out];exact hok.few'
 by_cases hip:i<pn
 ·have hs:ss[i]?=some (ss[i]'(by rw [← hpn.out];exact hip)):=List.getElem?_eq_getElem _
  generalize ss[i]'(by rw [← hpn.out];exact hip)=s at hs
  obtain rfl:m=sMem s:=by
   rw [mems,List.getElem?_append_left (by simp;have:=hpn.out;omega),List.getElem?_map,hs] at hm
   exact (Option.some.inj hm).symm
  have hv:=hok.sys s (List.mem_of_getElem? hs)
  obtain⟨hal,hst,_,hris⟩:=zeq.1 hv
  obtain⟨p,hp,hp1,hp2,hf⟩:=zax hv
  obtain⟨al,ha⟩:∃ al:Nat,Hid (s.al=al):=⟨s.al.toNat,by unfold Hid;omega⟩
  have hsm:Sm al:=by have:=ha.out;unfold Sm;omega
  have hres:=hide (show (sMem s).2 q l=if al.testBit l then chE s.edges q l else [q] by
   rw [chE_cho hf hp2 hris]
   simp only [sMem,cho]
   rw [ha.out,Int.toNat_natCast])
  have Hs:=hide hs
  have H16:=hide (chE_len hf hp2 hris q l)
  have Hf:=hide hf
  clear hs hv hal hst hris hf hm hok h hq
  rw [hres.out]
  cases hb:al.testBit l
  ·have Hb:=hide hb
   clear hb
   go_enter Tryz.func220,Tryz.ntmps220
   go_upto_region 1 with fail
   generalize w.alloc (.cells #[.slice PA pn pc,.slice AA an ac,sv,.int .i64 L,.int .i64 K,.int .i64 G] 166)=w1 at *
   have c0:=hb1.cell
   obtain⟨lo,hi,hsl⟩:=(HN.out w1 hw1).sys
   obtain⟨b,o,s',B,n,c',rfl,_,_,hs',e0,e1,e2,hsx⟩:=hsl.sys hip
   obtain rfl:s=s':=by have:=hs'.out;rw [Hs.out] at this;exact Option.some.inj this
   rw [ha.out] at e0
   clear e1 hsl hsx
   go_wp2_with (go_at_call 147;with_reducible refine (zaj al l hsm _ (by omega)).mono ?_;rw [Hb.out];rintro e w' ⟨rfl,rfl⟩)
   go_ret
   exact ret_one (hw1.alloc _) (Blk.new _ _ _) hw1.size
  ·have Hb:=hide hb
   clear hb
   simp only [if_true]
   go_enter Tryz.func220,Tryz.ntmps220
   go_upto_region 1 with fail
   generalize w.alloc (.cells #[.slice PA pn pc,.slice AA an ac,sv,.int .i64 L,.int .i64 K,.int .i64 G] 166)=w1 at *
   have c0:=hb1.cell
   obtain⟨lo,hi,hsl⟩:=(HN.out w1 hw1).sys
   obtain⟨b,o,s',B,n,c',rfl,_,_,hs',e0,e1,e2,hsx⟩:=hsl.sys hip
   obtain rfl:s=s':=by have:=hs'.out;rw [Hs.out] at this;exact Option.some.inj this
   rw [ha.out] at e0
   have Hnl:=hide hsx.1
   have HR:=hide (fun W (hW:Ext w1 W)=>hsx.2.ext hW)
   have hnm:=hsx.2.len
   clear e1 hsl hsx
   go_upto_region 6 with (go_at_call 147;with_reducible refine (zaj al l hsm _ (by omega)).mono ?_;rw [Hb.out];rintro e w' ⟨rfl,rfl⟩)
   have hx2:=(Ext.refl w1).alloc (.cells #[] 3)
   have hsz2:w.heap.size≤w1.heap.size:=hw1.size
   have hown2:=World.ownsRow_lit (base:=w1.heap.size) (e:=3) (size:=1) w1 #[] 0 (Nat.le_refl _) (by unfold maxLen;omega) rfl
   have c0':=(hb1.ext hx2).cell
   have e2':=hx2.cell_some e2
   generalize w1.alloc (.cells #[] 3)=w2 at *
   clear c0 e0 e2
   go_wp2_with fail
   go_loopw [9,11] (fun v j wr=>∃ k:Nat,k≤n∧j=.int .i64 k∧wr.ownsRow w1.heap.size 3 1 v (chE (s.edges.take k) q l).length (nats (chE (s.edges.take k) q l))∧Ext w1 wr) (fun _ j _=>n - (intOf j).toNat)
   case atStart=>exact⟨0,Nat.zero_le _,rfl,hown2,hx2⟩
   case round =>
    clear hown2 c0' e2' hx2
    obtain⟨k,hk,rfl,hown,hx⟩:=hrel
    by_cases hlt:k<n
    ·obtain⟨b',o',x,rfl,_,_,hxx,d0,d1,d2⟩:=(HR.out wr hx).edge hlt
     obtain⟨⟨f0,f1⟩,⟨l0,l1⟩,⟨t0,t1⟩⟩:=Hf.out x (List.mem_of_getElem? hxx.out)
     have Htk:=hide (chE_take hxx.out q l)
     have hck':=H16.out k
     by_cases hfr:x.fr=(q:Int)
     ·by_cases hle:x.le=(l:Int)
      ·obtain⟨t,ht⟩:∃ t:Nat,x.ta=t:=⟨x.ta.toNat,by omega⟩
       rw [hfr] at d0
       rw [hle] at d1
       rw [ht] at d2
       have Htk2:=hide (show chE (s.edges.take (k+1)) q l=chE (s.edges.take k) q l++[t] by rw [Htk.out,if_pos ⟨hfr,hle⟩,ht];rfl)
       clear hfr hle f0 f1 l0 l1 t0 t1 ht Htk
       generalize chE (s.edges.take k) q l=cs at *
       go_wp2_with (at_builtin;refine zN w1 wr rfl _ _ _ rfl 3 _ 1 8 Tryz.underlying71 zaf rfl (by decide) u9 _ _ _ _ rfl rfl hx hown rfl (zbt _) (by unfold maxLen;omega) (by omega) ?_;intro v' w5 hext5 hown5 hg5 hat5)
       go_roundw
       case rel=>exact⟨k+1,by omega,by go_num,by rw [Htk2.out,List.length_append,zde];exact hown5,hext5⟩
       case measure=>simp [intOf];omega
      ·have hne:(x.le==(l:Int))=false:=by simp;omega
       have Htk2:=hide (show chE (s.edges.take (k+1)) q l=chE (s.edges.take k) q l by rw [Htk.out,if_neg (fun h=>hle h.2),List.append_nil])
       rw [hfr] at d0
       clear hfr hle f0 f1 l0 l1 t0 t1 Htk
       go_wp2_with fail
       go_roundw
       case rel=>exact⟨k+1,by omega,by go_num,by rw [Htk2.out];exact hown,hx⟩
       case measure=>simp [intOf];omega
     ·have hne:(x.fr==(q:Int))=false:=by simp;omega
      have Htk2:=hide (show chE (s.edges.take (k+1)) q l=chE (s.edges.take k) q l by rw [Htk.out,if_neg (fun h=>hfr h.1),List.append_nil])
      clear hfr f0 f1 l0 l1 t0 t1 Htk
      go_wp2_with fail
      go_roundw
      case rel=>exact⟨k+1,by omega,by go_num,by rw [Htk2.out];exact hown,hx⟩
      case measure=>simp [intOf];omega
    ·obtain rfl:n=k:=by omega
     have hfin:=hide (show wr.ownsRow w.heap.size 3 1 u9 (chE s.edges q l).length (nats (chE s.edges q l)) by
      rw [List.take_of_length_le (by have:=Hnl.out;omega)] at hown
      exact zo hown hsz2)
     obtain⟨A5,c5,rfl⟩:=ze hfin.out
     have hxw:=hw1.trans hx
     clear hown
     go_wp2
     go_ret
     exact⟨_,_,rfl,hfin.out,hxw⟩
 ·obtain⟨j,hj⟩:∃ j,i=pn+j:=⟨i - pn,by omega⟩
  subst hj
  have hmj:us[j]?.map aMem=some m:=by
   rw [mems,List.getElem?_append_right (by simp;have:=hpn.out;omega),List.getElem?_map] at hm
   rw [← hm]
   congr 2
   simp;have:=hpn.out;omega
  obtain⟨a,ha,rfl⟩:=Option.map_eq_some_iff.1 hmj
  have hja:j<an:=by rw [han.out];exact (List.getElem?_eq_some_iff.1 ha).1
  have hva:=hide (hok.aut a (List.mem_of_getElem? ha))
  have Ha:=hide ha
  have Hq:=hide (show q<a.next.length from hq)
  clear hm hmj ha hok h hq
  change Calls _ _ _ _ (zbs w [aGo a q l])
  go_enter Tryz.func220,Tryz.ntmps220
  go_upto_region 1 with fail
  generalize w.alloc (.cells #[.slice PA pn pc,.slice AA an ac,sv,.int .i64 L,.int .i64 K,.int .i64 G] 166)=w1 at *
  have c0:=hb1.cell
  obtain⟨lo,hi,hal⟩:=(HN.out w1 hw1).aut
  obtain⟨b,o,a',B,m,c,B',m',c',rfl,ha',e0,e1,e2,hat⟩:=hal.aut hja
  obtain rfl:a=a':=by have:=ha'.out;rw [Ha.out] at this;exact Option.some.inj this
  have hge:¬ ((pn+j:Nat):Int)<(pn:Int):=by omega
  have hsb:((pn+j:Nat):Int) - (pn:Int)=(j:Int):=by omega
  have Hat:=hide hat
  clear hal hat
  go_wp2_with (go_at_call 198;with_reducible refine (zcJ Hat.out hva.out Hq.out hl).mono ?_;rintro e w5 ⟨rfl,hx5⟩)
  go_ret
  exact ret_one ((hw1.trans hx5).alloc _) (Blk.new _ _ _) ((hw1.trans hx5).size)
set_option maxHeartbeats 4000000
theorem wrapN (n:Nat)(h:n<9223372036854775808):IntKind.i64.wrap (n:Int)=(n:Int):=by rw [IntKind.wrap_i64];omega
theorem chs_fst (ms:List Mem) (x l:Nat):(chs ms x l).map Prod.fst=ms.map Prod.fst:=by
 induction ms with
 |nil=>rfl
 |cons m r ih=>simp [chs,ih]
theorem zcL.choices {ss:List Sys} {us:List Aut}(h:zcL ss us) {m:Mem}(hm:m∈mems ss us) {q l:Nat}(hq:q<m.1)(hl:l<6):(∀ x∈m.2 q l,x<m.1)∧(m.2 q l).length≤m.1:=by
 refine⟨(h.ok m hm).2 q l hq hl,?_⟩
 rcases List.mem_append.1 hm with h1|h1
 ·obtain⟨s,hs,rfl⟩:=List.mem_map.1 h1
  exact cho_len (zdg (h.sys s hs)) hq
 ·obtain⟨a,ha,rfl⟩:=List.mem_map.1 h1
  have:=(zv (h.aut a ha)).2.1.1
  simp only [aMem]
  simpa using this
theorem zcL.fwd_ {ss:List Sys} {us:List Aut}(h:zcL ss us) (x:Nat) {l:Nat}(hl:l<6) (k:Nat):(fwd ((chs (mems ss us) x l).take k)).length≤1048576∧∀ y∈fwd ((chs (mems ss us) x l).take k),y<1048576:=by
 have hc:∀ c∈(chs (mems ss us) x l).take k,(∀ y∈c.2,y<c.1)∧c.2.length≤c.1:=by
  intro c hc
  obtain⟨i,hi⟩:=List.getElem?_of_mem (List.mem_of_mem_take hc)
  have hil:=(List.getElem?_eq_some_iff.1 hi).1
  rw [zew] at hil
  have hm:(mems ss us)[i]?=some (mems ss us)[i]:=List.getElem?_eq_getElem hil
  rw [chs_get hm] at hi
  obtain rfl:=Option.some.inj hi
  have hmm:=List.getElem_mem hil
  exact h.choices hmm (Nat.mod_lt _ (h.ok _ hmm).1) hl
 have hp:=(h.total (((chs (mems ss us) x l).take k).map Prod.fst) (by rw [← zeg,← chs_fst _ x l];exact (List.take_sublist _ _).map _)).2
 refine⟨Nat.le_trans (fwd_len fun c hc'=>(hc c hc').2) hp,fun y hy=>Nat.lt_of_lt_of_le (fwd_lt (fun c hc'=>(hc c hc').1) y hy) hp⟩
set_option maxRecDepth 100000 in
theorem spec_l4Nexts {PA AA SA TA:Option Addr} {pn pc an ac n sc tc lo hi lo' hi':Nat} {sv:Value} {L K G:Int} {ss:List Sys} {us:List Aut} {w:World} {x l:Nat}(h:zdW w PA pn AA an ss us)(hok:zcL ss us)(hS:Lst NatP w lo hi SA (szs ss us))(hT:Lst NatP w lo' hi' TA (dec (szs ss us) x))(hn:(szs ss us).length=n)(hl:l<6) :
  Calls Tryz.prog 211 #[.agg #[.slice PA pn pc,.slice AA an ac,sv,.int .i64 L,.int .i64 K,.int .i64 G],.slice SA n sc,.slice TA n tc,.int .i64 l] w (zbs w (pnx (mems ss us) x l)):=by
 have hw1:Ext w (w.alloc (.cells #[.slice PA pn pc,.slice AA an ac,sv,.int .i64 L,.int .i64 K,.int .i64 G] 166)):=(Ext.refl w).alloc _
 have hb1:=Blk.new w 166 #[.slice PA pn pc,.slice AA an ac,sv,.int .i64 L,.int .i64 K,.int .i64 G]
 have HN:=hide (fun W (hW:Ext w W)=>h.ext hW)
 have HS:=hide (fun W (hW:Ext w W)=>hS.ext NatP.ok hW)
 have HT:=hide (fun W (hW:Ext w W)=>hT.ext NatP.ok hW)
 have Hok:=hide hok
 have hn5:n≤5:=by rw [← hn];exact hok.len
 have hKl:(chs (mems ss us) x l).length=n:=by rw [zew,← hn,← zeg,List.length_map]
 have Hfw:=hide (hok.fwd_ x hl)
 have Hget:=hide (show ∀ k,k<n→∃ m,(mems ss us)[k]?=some m∧(szs ss us)[k]?=some m.1∧(dec (szs ss us) x)[k]?=some (x / zat ((mems ss us).drop (k+1)) % m.1)∧(chs (mems ss us) x l)[k]?=some (m.1,m.2 (x / zat ((mems ss us).drop (k+1)) % m.1) l)∧1≤m.1∧m.1≤16 from fun k hk=>by
  have hkl:k<(mems ss us).length:=by rw [← zew _ x l,hKl];exact hk
  have hm:(mems ss us)[k]?=some (mems ss us)[k]:=List.getElem?_eq_getElem hkl
  have hz:(szs ss us)[k]?=some ((mems ss us)[k]).1:=by rw [← zeg,List.getElem?_map,hm];rfl
  refine⟨_,hm,hz,?_,chs_get hm,hok.le16 _ (List.mem_of_getElem? hz)⟩
  rw [zgH hz,← zeg,← List.map_drop]
  rfl)
 have Hfin:=hide (fwd_pnx (mems ss us) x l)
 have Hch:=hide (fun (m:Mem) (hm:m∈mems ss us) (q l:Nat) (hq:q<m.1) (hl:l<6)=>hok.choices hm hq hl)
 clear h hS hT hok
 generalize hK:chs (mems ss us) x l=KK at *
 have Hlen:=hide hKl
 have HSl:=hide hn
 clear hK hKl hn
 go_enter Tryz.func211,Tryz.ntmps211
 go_upto_region 1 with fail
 generalize w.alloc (.cells #[.slice PA pn pc,.slice AA an ac,sv,.int .i64 L,.int .i64 K,.int .i64 G] 166)=w1 at *
 go_upto_region 2 with fail
 have hx2:=(Ext.refl w1).alloc (.cells #[.int .i64 0] 3)
 have hsz2:w.heap.size≤w1.heap.size:=hw1.size
 have hown2:=World.ownsRow_lit (base:=w1.heap.size) (e:=3) (size:=1) w1 #[.int .i64 0] 1 (Nat.le_refl _) (by unfold maxLen;omega) rfl
 generalize hg1:(some ⟨w1.heap.size,0,none⟩:Option Addr)=A1 at *
 clear hg1
 generalize w1.alloc (.cells #[.int .i64 0] 3)=w2 at *
 go_wp2_with fail
 go_loopw [9,10,11,12,13,14] (fun v i _ _ _ _ wr=>∃ (k:Nat) (out:List Nat),i=.int .i64 k∧k≤n∧Hid (out=fwd (KK.take k))∧wr.ownsRow w1.heap.size 3 1 v out.length (nats out)∧Ext w1 wr) (fun _ i _ _ _ _ _=>n - (intOf i).toNat)
 case atStart=>exact⟨0,[0],rfl,Nat.zero_le _,rfl,by simpa [nats] using hown2,hx2⟩
 case round =>
  clear hown2 hx2
  obtain⟨k,out,rfl,hk,hout,hown,hx⟩:=hrel
  obtain⟨A0,c0,rfl⟩:=ze hown
  by_cases hlt:k<n
  ·obtain⟨m,hm,hz,hd,hc,hm1,hm16⟩:=Hget.out k hlt
   have Hm:=hide hm
   have Hc:=hide hc
   obtain⟨ho1,ho2⟩:=Hfw.out k
   rw [← hout.out] at ho1 ho2
   have Ho2:=hide ho2
   obtain⟨q,hq⟩:∃ q:Nat,Hid (x / zat ((mems ss us).drop (k+1)) % m.1=q):=⟨_,rfl⟩
   have hqm:q<m.1:=by rw [← hq.out];exact Nat.mod_lt _ hm1
   obtain⟨hcs1,hcs2⟩:=Hch.out m (List.mem_of_getElem? hm) q l hqm hl
   have Hcs1:=hide hcs1
   rw [hq.out] at hd
   have Hc2:=hide (show KK[k]?=some (m.1,m.2 q l) by rw [Hc.out,hq.out])
   obtain⟨sz,hsz⟩:∃ sz:Nat,Hid (m.1=sz):=⟨_,rfl⟩
   obtain⟨cs,hcs⟩:∃ cs:List Nat,Hid (m.2 q l=cs):=⟨_,rfl⟩
   have hkl:k<(dec (szs ss us) x).length:=(List.getElem?_eq_some_iff.1 hd).1
   have hww:=hw1.trans hx
   obtain⟨bt,ot,q',rfl,_,_,hq',hct⟩:=(HT.out wr hww).num hkl
   obtain rfl:q=q':=by have:=hq'.out;rw [hd] at this;exact Option.some.inj this
   obtain⟨bz,oz,z',rfl,_,_,hz',hcz⟩:=(HS.out wr hww).num (List.getElem?_eq_some_iff.1 hz).1
   obtain rfl:m.1=z':=by have:=hz'.out;rw [hz] at this;exact Option.some.inj this
   have Hqm:=hide hqm
   rw [hsz.out] at hcz hm1 hm16 hcs2
   rw [hcs.out] at hcs2 Hcs1
   rw [hsz.out] at Hcs1 Hc2
   rw [hcs.out] at Hc2
   have hstep:=hide (show fwd (KK.take (k+1))=out.flatMap fun o=>cs.map fun y=>o*sz+y by
    rw [List.take_add_one,Hc2.out,Option.toList_some,zgM,← hout.out])
   have CT:∀ W,Ext wr W→W.cell? ⟨bt,ot+k,none⟩=some (.int .i64 (q:Nat)):=fun W hW=>hW.cell_some hct
   have CB:∀ W,Ext wr W→∀ j,W.cell? ⟨w.heap.size,j,none⟩=#[Value.slice PA pn pc,.slice AA an ac,sv,.int .i64 L,.int .i64 K,.int .i64 G][j]?:=fun W hW=>((hb1.ext hx).ext hW).cell
   have CC:=hide (show ∀ W,Ext wr W→Calls Tryz.prog 220 #[.agg #[.slice PA pn pc,.slice AA an ac,sv,.int .i64 L,.int .i64 K,.int .i64 G],.int .i64 k,.int .i64 q,.int .i64 l] W (zbs W cs) from fun W hW=>by
    have:=zgi (pc:=pc) (ac:=ac) (sv:=sv) (L:=L) (K:=K) (G:=G) (HN.out W (hww.trans hW)) Hok.out Hm.out Hqm.out hl
    rw [hcs.out] at this
    exact this)
   have hki:(k:Int)<(n:Int):=by omega
   have hrr:=Ext.refl wr
   clear hct hz' hq' hz hd hc hm hqm hcs1 ho2 Hqm
   go_upto_region 5 with fail
   refine uR (fun X=>Ext wr X) [7] (OrdU.of [0,1,2,3,4,5,6,7,8]) ?_
   refine uQ ?_
   (refine zg rfl rfl rfl rfl (fun K hK=>?_))
   go_simp
   refine (CC.out _ hrr.drew).mono ?_
   rintro e w4 ⟨A4,c4,rfl,hown4,hx4⟩
   refine hK.out _ _ ?_
   refine pT ?_
   refine uQ ?_
   refine zf ?_
   have hw4:Ext wr w4:=hrr.drew.trans hx4
   have hL4:=Lst.own_nats hown4
   have hLo:=(Lst.own_nats hown).ext NatP.ok hw4
   have hcz4:=hw4.cell_some hcz
   clear CT CB CC hrr hown4 hx4 hcz
   go_upto_region 7 with fail
   have hx5:=(Ext.refl w4).alloc (.cells #[] 3)
   have hown5:=World.ownsRow_lit (base:=w4.heap.size) (e:=3) (size:=1) w4 #[] 0 (Nat.le_refl _) (by unfold maxLen;omega) rfl
   generalize hg1:(some ⟨w4.heap.size,0,none⟩:Option Addr)=A5 at *
   clear hg1
   generalize w4.alloc (.cells #[] 3)=w5 at *
   have hLo':=hide (fun W (hW:Ext w4 W)=>hLo.ext NatP.ok hW)
   have hL4':=hide (fun W (hW:Ext w4 W)=>hL4.ext NatP.ok hW)
   have Hsz:=hide (fun W (hW:Ext w4 W)=>hW.cell_some hcz4)
   clear hLo hL4 hcz4
   go_wp2_with fail
   go_loopw [12,13,14] (fun v i _ wr=>∃ (a:Nat) (nx:List Nat),i=.int .i64 a∧a≤out.length∧Hid (nx=(out.take a).flatMap fun o=>cs.map fun y=>o*sz+y)∧wr.ownsRow w4.heap.size 3 1 v nx.length (nats nx)∧Ext w4 wr) (fun _ i _ _=>out.length - (intOf i).toNat)
   case atStart=>exact⟨0,[],rfl,Nat.zero_le _,by simp [Hid],by simpa [nats] using hown5,hx5⟩
   case round =>
    clear hown5 hx5
    obtain⟨a,nx,rfl,ha,hnx,hown5,hx5⟩:=hrel
    by_cases hla:a<out.length
    ·obtain⟨bo,oo,o,rfl,_,_,ho,hco⟩:=(hLo'.out _ hx5).num hla
     have holt:=Ho2.out o (List.mem_of_getElem? ho.out)
     have hnl:nx.length≤16777216:=by
      rw [hnx.out]
      refine Nat.le_trans (flat_len (k:=cs.length) fun z _=>by simp) ?_
      rw [List.length_take]
      have:=Nat.mul_le_mul (show min a out.length≤1048576 by omega) (show cs.length≤16 by omega)
      omega
     have hsn:=hide (show ((out.take (a+1)).flatMap fun o=>cs.map fun y=>o*sz+y)=nx++cs.map fun y=>o*sz+y by
      rw [List.take_add_one,ho.out,hnx.out];simp)
     clear hco
     go_wp2_with fail
     go_loopw [12,14] (fun v i wr=>∃ (b:Nat) (nb:List Nat),i=.int .i64 b∧b≤cs.length∧Hid (nb=nx++(cs.take b).map fun y=>o*sz+y)∧wr.ownsRow w4.heap.size 3 1 v nb.length (nats nb)∧Ext w4 wr) (fun _ i _=>cs.length - (intOf i).toNat)
     case atStart=>exact⟨0,nx,rfl,Nat.zero_le _,by simp [Hid],hown5,hx5⟩
     case round =>
      clear hown5 hx5
      obtain⟨b,nb,rfl,hb,hnb,hown5,hx5⟩:=hrel
      by_cases hlb:b<cs.length
      ·obtain⟨bc,oc,y,rfl,_,_,hy,hcy⟩:=(hL4'.out _ hx5).num hlb
       have hylt:=Hcs1.out y (List.mem_of_getElem? hy.out)
       have hnbl:nb.length≤16777216+16:=by rw [hnb.out,List.length_append,List.length_map,List.length_take];omega
       have hmul:o*sz≤1048576*16:=Nat.mul_le_mul (by omega) hm16
       obtain⟨os,hos⟩:∃ z:Nat,Hid (o*sz=z):=⟨_,rfl⟩
       have hosi:(o:Int)*(sz:Int)=(os:Int):=by rw [← hos.out];exact (Int.natCast_mul o sz).symm
       rw [hos.out] at hmul
       have hsn3:=hide (show (nx++(cs.take (b+1)).map fun y=>o*sz+y)=nb++[os+y] by
        rw [List.take_add_one,hy.out,hnb.out,← hos.out];simp)
       have C1:∀ W,Ext wr W→W.cell? ⟨bo,oo+a,none⟩=some (.int .i64 (o:Nat)):=fun W hW=>(hLo'.out W (hx5.trans hW)).num2 ho.out
       have C2:∀ W,Ext wr W→W.cell? ⟨bz,oz+k,none⟩=some (.int .i64 (sz:Nat)):=fun W hW=>Hsz.out W (hx5.trans hW)
       have C3:∀ W,Ext wr W→W.cell? ⟨bc,oc+b,none⟩=some (.int .i64 (y:Nat)):=fun W hW=>hW.cell_some hcy
       have hai:(a:Int)<(out.length:Int):=by omega
       have hbi:(b:Int)<(cs.length:Int):=by omega
       have hww5:=Ext.refl wr
       clear hcy
       go_upto_region 13 with fail
       refine uR (fun X=>Ext wr X) [15,16] (OrdU.of [0,1,2,3,4,5,6,7,8,9,10,11,12,13,14,15,16,17]) ?_
       refine uQ ?_
       (refine za rfl rfl rfl (fun K hK=>?_);go_simp)
       refine hK.out _ _ (hww5.drew.alloc _) ?_
       refine pT ?_
       (refine zg rfl rfl rfl rfl (fun K hK=>?_))
       refine zay w4 wr.drew _ _ _ rfl 3 _ 1 8 Tryz.underlying71 zaf rfl (by decide) u12 nb.length (nats nb) _ _ rfl rfl (hx5.drew).size hown5 rfl (zbt _) (by unfold maxLen;omega) (by omega) ?_
       intro g5 cap5 w6 hown6 hg6 hat6 hlt6
       have hwr:IntKind.i64.wrap (IntKind.i64.wrap (os:Int)+(y:Int))=((os+y:Nat):Int):=by rw [wrapN os (by omega),← Int.natCast_add,wrapN (os+y) (by omega)]
       rw [hwr] at hown6
       refine hK.out _ _ ?_
       refine pT ?_
       refine uQ ?_
       refine zf ?_
       have hx6:Ext w4 w6:=hx5.drew.grown hg6 (fun q' hq'=>(hown5.lt q' hq').1)
       go_wp2_with fail
       go_roundw
       case rel=>exact⟨b+1,nb++[os+y],by go_num,by omega,by unfold Hid;rw [hsn3.out],by rw [List.length_append,zde];exact hown6,hx6⟩
       case measure=>simp [intOf];omega
      ·obtain rfl:b=cs.length:=by omega
       have hfin2:=hide (show nb=nx++cs.map fun y=>o*sz+y by rw [hnb.out,List.take_length])
       go_wp2_with fail
       go_roundw
       case rel=>exact⟨a+1,nb,by go_num,by omega,by unfold Hid;rw [hsn.out,hfin2.out],hown5,hx5⟩
       case measure=>simp [intOf];omega
    ·obtain rfl:a=out.length:=by omega
     have hfin3:=hide (show nx=fwd (KK.take (k+1)) by rw [hstep.out,hnx.out,List.take_length])
     have hx6:=hx.trans (hw4.trans hx5)
     have hown6:=zo hown5 (show w1.heap.size≤w4.heap.size from (hx.trans hw4).size)
     go_wp2_with fail
     go_roundw
     case rel=>exact⟨k+1,nx,by go_num,by omega,hfin3,hown6,hx6⟩
     case measure=>simp [intOf];omega
  ·obtain rfl:n=k:=by omega
   have hfin:=hide (show out=pnx (mems ss us) x l by rw [hout.out,List.take_of_length_le (by have:=Hlen.out;omega)];exact Hfin.out)
   have hres:=hide (show zbs w (pnx (mems ss us) x l) (.returned (.slice A0 out.length c0)) wr from by
    rw [← hfin.out]
    exact⟨A0,c0,rfl,zo hown hsz2,hw1.trans hx⟩)
   clear hown
   go_wp2
   go_ret
   exact hres.out
set_option maxHeartbeats 4000000
theorem info_intss:(Tryz.prog.info? 24).map (fun i=>(i.zero,i.size,i.bytes))=some (some (.slice none 0 0),1,24):=by kernel_rfl
def mvs (d:Nat→Nat→List Nat) (L:List Nat) (N:Nat):List (List (List Nat)):=(List.range N).map fun x=>L.map fun l=>d x l
theorem zcF (d:Nat→Nat→List Nat) (L:List Nat) (N:Nat):(mvs d L N).length=N:=by simp [mvs]
abbrev P3:Lay (List (List Nat)):=LstP (LstP NatP)
theorem P3.ok:Lay.Ok P3:=LstP.ok (LstP.ok NatP.ok)
def RetMv (w:World) (mv:List (List (List Nat))) (e:Ending) (w':World):Prop:=∃ A c,e=.returned (.slice A mv.length c)∧Lst P3 w' w.heap.size w'.heap.size A mv∧Ext w w'
set_option maxRecDepth 100000 in
theorem spec_l4Moves {PA AA SA:Option Addr} {pn pc an ac n sc lo hi:Nat} {sv:Value} {K G:Int} {L N:Nat} {ss:List Sys} {us:List Aut} {w:World}(h:zdW w PA pn AA an ss us)(hok:zcL ss us)(hS:Lst NatP w lo hi SA (szs ss us))(hn:(szs ss us).length=n)(hL:L<64)(hN:N≤1048576) :
  Calls Tryz.prog 189 #[.agg #[.slice PA pn pc,.slice AA an ac,sv,.int .i64 L,.int .i64 K,.int .i64 G],.slice SA n sc,.int .i64 N] w (RetMv w (mvs (pnx (mems ss us)) (letters L 6) N)):=by
 have hw1:Ext w (w.alloc (.cells #[.slice PA pn pc,.slice AA an ac,sv,.int .i64 L,.int .i64 K,.int .i64 G] 166)):=(Ext.refl w).alloc _
 have hb1:=Blk.new w 166 #[.slice PA pn pc,.slice AA an ac,sv,.int .i64 L,.int .i64 K,.int .i64 G]
 have HN:=hide (fun W (hW:Ext w W)=>h.ext hW)
 have HS:=hide (fun W (hW:Ext w W)=>hS.ext NatP.ok hW)
 have Hok:=hide hok
 have Hn:=hide hn
 have hn5:n≤5:=by rw [← hn];exact hok.len
 have Hz:=hide hok.le16
 have hLs:Sm L:=by unfold Sm;omega
 have hll:=zx L 6
 have Hl6:=hide (show ∀ l∈letters L 6,l<6 from fun l hl=>(zB.1 hl).1)
 clear h hok hS hn
 go_enter Tryz.func189,Tryz.ntmps189
 go_upto_region 1 with fail
 generalize w.alloc (.cells #[.slice PA pn pc,.slice AA an ac,sv,.int .i64 L,.int .i64 K,.int .i64 G] 166)=w1 at *
 go_upto_region 2 with fail
 have hx2:=(Ext.refl w1).alloc (.cells #[] 24)
 have hsz2:w.heap.size≤w1.heap.size:=hw1.size
 have hown2:=World.ownsRow_lit (base:=w1.heap.size) (e:=24) (size:=1) w1 #[] 0 (Nat.le_refl _) (by unfold maxLen;omega) rfl
 have hob2:∀ b,(Value.slice (some ⟨w1.heap.size,0,none⟩) 0 0).ownBlock=some b→b<(w1.alloc (.cells #[] 24)).heap.size:=fun b hb=>by
  simp [Value.ownBlock] at hb
  simp;omega
 generalize hg1:(some ⟨w1.heap.size,0,none⟩:Option Addr)=A1 at *
 clear hg1
 generalize w1.alloc (.cells #[] 24)=w2 at *
 have c2:=(hb1.ext hx2).cell
 go_upto_region 3 with (go_at_call 98;refine (zI L hLs _).mono ?_;rintro e w3 ⟨AL,cL,rfl,hownL,hx3⟩)
 have hx23:=hx2.trans hx3
 have hlst3:=Lst.own_nats hownL
 have hsz23:=hx3.size
 have hown3:=zd hown2 hx3
 clear hown2 hownL hx2 hx3 c2
 generalize hlq:letters L 6=LL at *
 have Hlq:=hide hlq
 clear hlq
 go_wp2_with fail
 go_loopw [7,9,10,11,12] (fun v i _ _ _ wr=>∃ k:Nat,i=.int .i64 k∧k≤N∧Grl P3 wr w1.heap.size 24 v (mvs (pnx (mems ss us)) LL k)∧Ext w1 wr∧Lst NatP wr w2.heap.size w3.heap.size AL LL∧(∀ b,v.ownBlock=some b→b<w2.heap.size∨w3.heap.size≤b)∧w3.heap.size≤wr.heap.size) (fun _ i _ _ _ _=>N - (intOf i).toNat)
 case atStart=>exact⟨0,rfl,Nat.zero_le _,⟨[],hown3,fun i r x hr=>by simp at hr⟩,hx23,hlst3,fun b hb=>Or.inl (hob2 b hb),Nat.le_refl _⟩
 case round =>
  clear hown3 hlst3 hob2
  obtain⟨k,rfl,hk,hgr,hx,hlst3,hob,hs3⟩:=hrel
  have hkl:=zcF (pnx (mems ss us)) LL k
  obtain⟨A0,c0,rfl⟩:=hgr.form
  rw [hkl]
  rw [hkl] at hob
  have Hob:=hide hob
  clear hob
  by_cases hlt:k<N
  ·have hww:=hw1.trans hx
   have Hsn:=hide (show mvs (pnx (mems ss us)) LL (k+1)=mvs (pnx (mems ss us)) LL k++[LL.map fun l=>pnx (mems ss us) k l] by simp [mvs,List.range_succ])
   rw [hkl] at hgr
   go_upto_region 7 with (go_at_call 191;refine (zen (HS.out _ hww) Hn.out (by omega) Hz.out (by omega)).mono ?_;rintro e w4 ⟨A4,c4,rfl,hown4,hx4⟩)
   have hln:(dec (szs ss us) k).length=n:=by rw [zcC];exact Hn.out
   rw [hln] at hown4
   rw [hln]
   have HT:=hide (fun W (hW:Ext w4 W)=>(Lst.own_nats (xs:=dec (szs ss us) k) (c:=c4) (A:=A4) (by rw [hln];exact hown4)).ext NatP.ok hW)
   clear hown4
   go_upto_region 8 with fail
   have hx5:=(Ext.refl w4).alloc (.cells #[] 71)
   have hown5:=World.ownsRow_lit (base:=w4.heap.size) (e:=71) (size:=1) w4 #[] 0 (Nat.le_refl _) (by unfold maxLen;omega) rfl
   generalize hg1:(some ⟨w4.heap.size,0,none⟩:Option Addr)=A5 at *
   clear hg1
   generalize w4.alloc (.cells #[] 71)=w5 at *
   have hw4:=hww.trans hx4
   have CBx:=hide (fun W (hW:Ext w4 W)=>((hb1.ext (hx.trans hx4)).ext hW).cell)
   have HL:=hide (fun W (hW:Ext w4 W)=>hlst3.ext NatP.ok (hx4.trans hW))
   go_wp2_with fail
   go_loopw [11,12] (fun v i wr=>∃ j:Nat,i=.int .i64 j∧j≤LL.length∧Grl (LstP NatP) wr w4.heap.size 71 v ((LL.take j).map fun l=>pnx (mems ss us) k l)∧Ext w4 wr) (fun _ i _=>LL.length - (intOf i).toNat)
   case atStart=>exact⟨0,rfl,Nat.zero_le _,⟨[],hown5,fun i r x hr=>by simp at hr⟩,hx5⟩
   case round =>
    clear hown5 hx5
    obtain⟨j,rfl,hj,hrw,hx5⟩:=hrel
    obtain⟨A6,c6,rfl⟩:=hrw.form
    have hjl:((LL.take j).map fun l=>pnx (mems ss us) k l).length=j:=by simp;omega
    rw [hjl]
    rw [hjl] at hrw
    by_cases hlj:j<LL.length
    ·obtain⟨bl,ol,l,rfl,_,_,hl,hcl⟩:=(HL.out _ hx5).num hlj
     have hl6:=Hl6.out l (List.mem_of_getElem? hl.out)
     have hsn:=hide (show (LL.take (j+1)).map (fun l=>pnx (mems ss us) k l)=(LL.take j).map (fun l=>pnx (mems ss us) k l)++[pnx (mems ss us) k l] by rw [List.take_add_one,hl.out];simp)
     have CL:∀ W,Ext wr W→W.cell? ⟨bl,ol+j,none⟩=some (.int .i64 (l:Nat)):=fun W hW=>hW.cell_some hcl
     have CB:∀ W,Ext wr W→∀ q,W.cell? ⟨w.heap.size,q,none⟩=#[Value.slice PA pn pc,.slice AA an ac,sv,.int .i64 L,.int .i64 K,.int .i64 G][q]?:=fun W hW=>CBx.out W (hx5.trans hW)
     have CC:=hide (show ∀ W,Ext wr W→Calls Tryz.prog 211 #[.agg #[.slice PA pn pc,.slice AA an ac,sv,.int .i64 L,.int .i64 K,.int .i64 G],.slice SA n sc,.slice A4 n c4,.int .i64 l] W (zbs W (pnx (mems ss us) k l)) from fun W hW=>spec_l4Nexts (HN.out W ((hw4.trans hx5).trans hW)) Hok.out (HS.out W ((hw4.trans hx5).trans hW)) (HT.out W (hx5.trans hW)) Hn.out hl6)
     have hji:(j:Int)<(LL.length:Int):=by omega
     have hww5:=Ext.refl wr
     obtain⟨rows,hro,hrp⟩:=hrw
     rw [hjl] at hro
     clear hcl
     go_upto_region 11 with fail
     refine uR (fun X=>Ext wr X) [8,9,10] (OrdU.of [0,1,2,3,4,5,6,7,8,9,10,11]) ?_
     refine uQ ?_
     (refine zg rfl rfl rfl rfl (fun K hK=>?_))
     go_simp
     refine (CC.out _ hww5.drew).mono ?_
     rintro e w7 ⟨A7,c7,rfl,hown7,hx7⟩
     have hww7:=hww5.drew.trans hx7
     refine hK.out _ _ ?_
     refine pT ?_
     (refine zg rfl rfl rfl rfl (fun K hK=>?_))
     go_simp
     refine hK.out _ _ ?_
     refine pT ?_
     (refine zg rfl rfl rfl rfl (fun K hK=>?_))
     refine zay w4 w7 _ _ _ rfl 71 _ 1 24 Tryz.underlying24 zcf rfl (by decide) (.slice A6 j c6) j rows _ _ rfl rfl (hx5.trans hww7).size (zd hro hww7) rfl (zaY _ _ _) (by unfold maxLen;omega) (by omega) ?_
     intro g8 cap8 w8 hown8 hg8 hat8 hlt8
     refine hK.out _ _ ?_
     refine pT ?_
     refine uQ ?_
     refine zf ?_
     have hgr8:Grl (LstP NatP) w8 w4.heap.size 71 (.slice (some ⟨g8,0,none⟩) (j+1) cap8) ((LL.take j).map (fun l=>pnx (mems ss us) k l)++[pnx (mems ss us) k l]):=by
      have:=Grl.push2 (LstP.ok NatP.ok) (v:=.slice A6 j c6) (xs:=(LL.take j).map fun l=>pnx (mems ss us) k l) (g:=g8) (cap:=cap8) hrp (by rw [hjl];exact hro) hww7 ⟨A7,c7,rfl,Lst.own_nats hown7⟩ (Nat.le_refl wr.heap.size) hx5.size (Nat.le_refl _) (by rw [hjl];exact hown8) hg8 hat8
      rwa [hjl] at this
     have hx8:Ext w4 w8:=(hx5.trans hww7).grown hg8 (fun q' hq'=>(hro.lt q' hq').1)
     go_wp2_with fail
     go_roundw
     case rel=>exact⟨j+1,by go_num,by omega,by rw [hsn.out];exact hgr8,hx8⟩
     case measure=>simp [intOf];omega
    ·obtain rfl:j=LL.length:=by omega
     rw [List.take_length] at hrw
     have hw5:=hx4.trans hx5
     have hlst:=hrw.lst (LstP.ok NatP.ok)
     obtain⟨rows,hro,hrp⟩:=hgr
     rw [hkl] at hro
     go_wp2_with (at_builtin;refine zN w1 wr rfl _ _ _ rfl 24 _ 1 24 Tryz.underlying207 info_intss rfl (by decide) (.slice A0 k c0) k rows _ _ rfl rfl (hx.trans hw5) (zd hro hw5) rfl (zaY _ _ _) (by unfold maxLen;omega) (by omega) ?_;intro v8 w8 hext8 hown8 hg8 hat8)
     have hgr8:Grl P3 w8 w1.heap.size 24 v8 (mvs (pnx (mems ss us)) LL k++[LL.map fun l=>pnx (mems ss us) k l]):=
      Grl.push P3.ok (v:=.slice A0 k c0) hrp (by rw [hkl];exact hro) hw5 (⟨A6,c6,by simp,hlst⟩:P3 _ _ _ (.slice A6 LL.length c6) _) hx4.size (hx.trans hx4).size (Nat.le_refl _) (by rw [hkl];exact hown8) hg8 hat8
     have hlst8:Lst NatP w8 w2.heap.size w3.heap.size AL LL:=(hlst3.ext NatP.ok hw5).frm NatP.ok (Frm.of_grown hg8) (fun q h1 h2 hq=>by have:=Hob.out q hq;omega)
     have hob8:∀ b,v8.ownBlock=some b→b<w2.heap.size∨w3.heap.size≤b:=fun b hb=>by
      rcases hat8 with h1|h1
      ·rw [h1] at hb;exact Hob.out b hb
      ·rw [h1] at hb
       have:=Option.some.inj hb
       have:=hw5.size
       omega
     have hs8:w3.heap.size≤w8.heap.size:=by have:=hw5.size;have:=(Frm.of_grown hg8).size;omega
     go_roundw
     case rel=>exact⟨k+1,by go_num,by omega,by rw [Hsn.out];exact hgr8,hext8,hlst8,hob8,hs8⟩
     case measure=>simp [intOf];omega
  ·obtain rfl:N=k:=by omega
   have hres:=hide (show RetMv w (mvs (pnx (mems ss us)) LL N) (.returned (.slice A0 N c0)) wr from by
    refine⟨A0,c0,by rw [hkl],?_,hw1.trans hx⟩
    have:=hgr.lst P3.ok
    exact this.more P3.ok hsz2 (Nat.le_refl _))
   clear hgr
   go_wp2
   go_ret
   exact hres.out
section
variable (d:Nat→Nat→List Nat) (L:List Nat) (goal:Nat→Bool)
def Dn:Nat→Nat→Prop
 |0,x=>goal x=true
 |n+1,x=>∃ l∈L,∃ y∈d x l,Dn n y
def Mn (n x:Nat):Prop:=Dn d L goal n x∧∀ m,m<n→¬ Dn d L goal m x
end
section
variable {d:Nat→Nat→List Nat} {L:List Nat} {goal:Nat→Bool} {start:List Nat} {N:Nat}
theorem Dn.word:∀ {n x:Nat} {v:List Nat},Dn d L goal n x→Goes d start v x→∃ u:List Nat,u.length=n∧(∀ l∈u,l∈L)∧∃ y,Goes d start (v++u) y∧goal y=true:=by
 intro n
 induction n with
 |zero=>intro x v h hg;exact⟨[],rfl,by simp,x,by simpa using hg,h⟩
 |succ n ih =>
  intro x v h hg
  obtain⟨l,hl,y,hy,h⟩:=h
  obtain⟨u,h1,h2,z,h3,h4⟩:=ih h (.snoc hg hy)
  refine⟨l :: u,by simp [h1],?_,z,by simpa using h3,h4⟩
  intro k hk
  rcases List.mem_cons.1 hk with rfl|hk
  ·exact hl
  ·exact h2 k hk
theorem Goes.dn:∀ {u v:List Nat} {y:Nat},Goes d start (v++u) y→goal y=true→(∀ l∈u,l∈L)→∃ x,Goes d start v x∧Dn d L goal u.length x:=by
 intro u
 induction u with
 |nil=>intro v y h hg _;exact⟨y,by simpa using h,hg⟩
 |cons l u ih =>
  intro v y h hg hl
  have h':Goes d start ((v++[l])++u) y:=by simpa using h
  obtain⟨x,h1,h2⟩:=ih h' hg (fun k hk=>hl k (by simp [hk]))
  obtain⟨n,hn,hx⟩:=h1.inv
  exact⟨n,hn,l,hl l (by simp),x,hx,h2⟩
theorem Dn.least {n x:Nat}(h:Dn d L goal n x):∃ m,m≤n∧Mn d L goal m x:=by
 induction n using Nat.strongRecOn with
 |_ n ih =>
  by_cases hm:∃ m,m<n∧Dn d L goal m x
  ·obtain⟨m,h1,h2⟩:=hm
   obtain⟨k,h3,h4⟩:=ih m h1 h2
   exact⟨k,by omega,h4⟩
  ·exact⟨n,Nat.le_refl _,h,fun m h1 h2=>hm ⟨m,h1,h2⟩⟩
theorem Mn.next {n x:Nat}(h:Mn d L goal (n+1) x):∃ l∈L,∃ y∈d x l,Mn d L goal n y:=by
 obtain⟨⟨l,hl,y,hy,h1⟩,h2⟩:=h
 exact⟨l,hl,y,hy,h1,fun m hm hd=>h2 (m+1) (by omega) ⟨l,hl,y,hy,hd⟩⟩
theorem Mn.uniq {m n x:Nat}(h:Mn d L goal m x) (k:Mn d L goal n x):m=n:=by
 rcases Nat.lt_trichotomy m n with h1|h1|h1
 ·exact absurd h.1 (k.2 m h1)
 ·exact h1
 ·exact absurd k.1 (h.2 n h1)
def Dst (d:Nat→Nat→List Nat) (L:List Nat) (goal:Nat→Bool) (k:Nat) (x:Nat) (v:Int):Prop:=(v = -1∧∀ m,m<k→¬ Dn d L goal m x)∨∃ n:Nat,n<k∧v=n∧Mn d L goal n x
def zbj (d:Nat→Nat→List Nat) (L:List Nat) (goal:Nat→Bool) (N k i:Nat) (ds:List Int):Prop:=ds.length=N∧∀ (x:Nat) (v:Int),ds[x]?=some v→Dst d L goal (if x<i then k+1 else k) x v
theorem zbj.round_ {k:Nat} {ds:List Int}(h:zbj d L goal N k N ds):zbj d L goal N (k+1) 0 ds:=⟨h.1,fun x v hx=>by
 have h1:=h.2 x v hx
 have h2:=(List.getElem?_eq_some_iff.1 hx).1
 rw [if_pos (by rw [← h.1];exact h2)] at h1
 rw [if_neg (by omega)]
 exact h1⟩
theorem zbj.init {ds:List Int}(hl:ds.length=N)(h:∀ (x:Nat) (v:Int),ds[x]?=some v→v=if goal x then 0 else -1):zbj d L goal N 1 0 ds:=⟨hl,fun x v hx=>by
 rw [if_neg (by omega)]
 have:=h x v hx
 cases hg:goal x
 ·rw [hg] at this
  refine Or.inl ⟨by simpa using this,fun m hm=>?_⟩
  obtain rfl:m=0:=by omega
  simp [Dn,hg]
 ·rw [hg] at this
  exact Or.inr ⟨0,by omega,by simpa using this,hg,fun m hm=>by omega⟩⟩
theorem zbj.skip {k i:Nat} {ds:List Int} {v:Int}(h:zbj d L goal N k i ds)(hv:ds[i]?=some v)(h0:0≤v):zbj d L goal N k (i+1) ds:=⟨h.1,fun x u hx=>by
 have h1:=h.2 x u hx
 by_cases hxi:x=i
 ·subst hxi
  rw [hv] at hx
  obtain rfl:=Option.some.inj hx
  rw [if_pos (by omega)]
  rw [if_neg (by omega)] at h1
  rcases h1 with ⟨h2,_⟩|⟨n,h2,h3⟩
  ·omega
  ·exact Or.inr ⟨n,by omega,h3⟩
 ·by_cases h2:x<i
  ·rw [if_pos h2] at h1
   rw [if_pos (by omega)]
   exact h1
  ·rw [if_neg h2] at h1
   rw [if_neg (by omega)]
   exact h1⟩
def zgR (d:Nat→Nat→List Nat) (L:List Nat) (ds:List Int) (k:Nat) (x:Nat):Bool:=L.any fun l=>(d x l).any fun y=>ds.getD y (-1)==(k:Int)
theorem near_iff {ds:List Int} {k x:Nat}:zgR d L ds k x=true↔∃ l∈L,∃ y∈d x l,ds[y]?=some (k:Int):=by
 simp only [zgR,List.any_eq_true,beq_iff_eq]
 constructor
 ·rintro ⟨l,hl,y,hy,h⟩
  refine⟨l,hl,y,hy,?_⟩
  rw [List.getD_eq_getElem?_getD] at h
  cases hh:ds[y]? with
  |none=>rw [hh] at h;simp at h
  |some v=>rw [hh] at h;simp at h;rw [h]
 ·rintro ⟨l,hl,y,hy,h⟩
  exact⟨l,hl,y,hy,by rw [List.getD_eq_getElem?_getD,h];rfl⟩
theorem zbj.near {k i:Nat} {ds:List Int} {v:Int}(h:zbj d L goal N (k+1) i ds)(hd:∀ x l,x<N→l∈L→∀ y∈d x l,y<N)(hv:ds[i]?=some v)(h0:v<0):zgR d L ds k i=true↔Mn d L goal (k+1) i:=by
 have hiN:i<N:=by rw [← h.1];exact (List.getElem?_eq_some_iff.1 hv).1
 have hi:=h.2 i v hv
 rw [if_neg (by omega)] at hi
 have hno:∀ m,m<k+1→¬ Dn d L goal m i:=by
  rcases hi with ⟨_,h1⟩|⟨n,_,h2,_⟩
  ·exact h1
  ·omega
 have val:∀ y (n:Nat),ds[y]?=some (n:Int)→Mn d L goal n y:=fun y n hy=>by
  rcases h.2 y _ hy with ⟨h1,_⟩|⟨m,_,h1,h2⟩
  ·omega
  ·obtain rfl:n=m:=by omega
   exact h2
 rw [near_iff]
 constructor
 ·rintro ⟨l,hl,y,hy,hyk⟩
  exact⟨⟨l,hl,y,hy,(val y k hyk).1⟩,hno⟩
 ·rintro ⟨⟨l,hl,y,hy,h1⟩,_⟩
  refine⟨l,hl,y,hy,?_⟩
  have hyN:y<ds.length:=by rw [h.1];exact hd i l hiN hl y hy
  have hyv:ds[y]?=some ds[y]:=List.getElem?_eq_getElem hyN
  rw [hyv]
  congr 1
  rcases h.2 y _ hyv with ⟨_,h2⟩|⟨n,_,h2,h3⟩
  ·exact absurd h1 (h2 k (by split<;>omega))
  ·rw [h2]
   rcases Nat.lt_trichotomy n k with h4|h4|h4
   ·exact absurd ⟨l,hl,y,hy,h3.1⟩ (hno (n+1) (by omega))
   ·rw [h4]
   ·exact absurd h1 (h3.2 k h4)
theorem zbj.keep {k i:Nat} {ds:List Int} {v:Int}(h:zbj d L goal N (k+1) i ds)(hd:∀ x l,x<N→l∈L→∀ y∈d x l,y<N)(hv:ds[i]?=some v)(h0:v<0)(hn:zgR d L ds k i=false):zbj d L goal N (k+1) (i+1) ds:=⟨h.1,fun x u hx=>by
 have h1:=h.2 x u hx
 by_cases hxi:x=i
 ·subst hxi
  have hM:¬ Mn d L goal (k+1) x:=fun hm=>by rw [(h.near hd hv h0).2 hm] at hn;cases hn
  rw [hv] at hx
  obtain rfl:=Option.some.inj hx
  rw [if_pos (by omega)]
  rw [if_neg (by omega)] at h1
  rcases h1 with ⟨h2,h3⟩|⟨n,h2,h3,_⟩
  ·refine Or.inl ⟨h2,fun m hm hdm=>?_⟩
   by_cases he:m=k+1
   ·subst he
    exact hM ⟨hdm,h3⟩
   ·exact h3 m (by omega) hdm
  ·omega
 ·by_cases h2:x<i
  ·rw [if_pos h2] at h1
   rw [if_pos (by omega)]
   exact h1
  ·rw [if_neg h2] at h1
   rw [if_neg (by omega)]
   exact h1⟩
theorem zbj.put {k i:Nat} {ds:List Int} {v:Int}(h:zbj d L goal N (k+1) i ds)(hd:∀ x l,x<N→l∈L→∀ y∈d x l,y<N)(hv:ds[i]?=some v)(h0:v<0)(hn:zgR d L ds k i=true):zbj d L goal N (k+1) (i+1) (ds.set i ((k+1:Nat):Int)):=⟨by rw [List.length_set];exact h.1,fun x u hx=>by
 by_cases hxi:x=i
 ·subst hxi
  rw [List.getElem?_set_self (List.getElem?_eq_some_iff.1 hv).1] at hx
  obtain rfl:=Option.some.inj hx
  rw [if_pos (by omega)]
  exact Or.inr ⟨k+1,by omega,rfl,(h.near hd hv h0).1 hn⟩
 ·rw [List.getElem?_set_ne (fun e=>hxi e.symm)] at hx
  have h1:=h.2 x u hx
  by_cases h2:x<i
  ·rw [if_pos h2] at h1
   rw [if_pos (by omega)]
   exact h1
  ·rw [if_neg h2] at h1
   rw [if_neg (by omega)]
   exact h1⟩
theorem set_count {ds:List Int} {i:Nat} {v u:Int}(hv:ds[i]?=some v)(h0:v = -1)(hu:0≤u):(ds.set i u).count (-1)+1=ds.count (-1):=by
 obtain⟨hi,e⟩:=List.getElem?_eq_some_iff.1 hv
 have hpos:1≤ds.count (-1):=List.count_pos_iff.2 (by rw [← h0,← e];exact List.getElem_mem hi)
 rw [List.count_set hi,e,h0]
 have:(u==(-1:Int))=false:=by simp;omega
 simp [this]
 omega
def DsFin (d:Nat→Nat→List Nat) (L:List Nat) (goal:Nat→Bool) (N:Nat) (ds:List Int):Prop:=ds.length=N∧∀ (x:Nat) (v:Int),ds[x]?=some v→(v = -1∧∀ m,¬ Dn d L goal m x)∨∃ n:Nat,v=n∧Mn d L goal n x
theorem zbj.fin {k:Nat} {ds:List Int}(h:zbj d L goal N k N ds)(hd:∀ x l,x<N→l∈L→∀ y∈d x l,y<N)(hno:∀ x,x<N→¬ Mn d L goal k x):DsFin d L goal N ds:=by
 have up:∀ n x,x<N→¬ Mn d L goal (k+n) x:=by
  intro n
  induction n with
  |zero=>exact hno
  |succ n ih =>
   intro x hx hm
   obtain⟨l,hl,y,hy,h1⟩:=hm.next
   exact ih y (hd x l hx hl y hy) h1
 refine⟨h.1,fun x v hx=>?_⟩
 have hxN:x<N:=by rw [← h.1];exact (List.getElem?_eq_some_iff.1 hx).1
 have h1:=h.2 x v hx
 rw [if_pos hxN] at h1
 rcases h1 with ⟨h2,h3⟩|⟨n,_,h3⟩
 ·refine Or.inl ⟨h2,fun m hm=>?_⟩
  obtain⟨m',_,h4⟩:=hm.least
  by_cases h5:m'<k
  ·exact h3 m' (by omega) h4.1
  ·have:=up (m' - k) x hxN
   rw [show k+(m' - k)=m' by omega] at this
   exact this h4
 ·exact Or.inr ⟨n,h3⟩
theorem DsFin.val {ds:List Int}(h:DsFin d L goal N ds) {x n:Nat}(hx:x<N):ds[x]?=some (n:Int)↔Mn d L goal n x:=by
 have hl:x<ds.length:=by rw [h.1];exact hx
 have hv:ds[x]?=some ds[x]:=List.getElem?_eq_getElem hl
 constructor
 ·intro h1
  rcases h.2 x _ h1 with ⟨h2,_⟩|⟨m,h2,h3⟩
  ·omega
  ·obtain rfl:n=m:=by omega
   exact h3
 ·intro hm
  rw [hv]
  rcases h.2 x _ hv with ⟨_,h2⟩|⟨m,h2,h3⟩
  ·exact absurd hm.1 (h2 n)
  ·rw [h2,h3.uniq hm]
theorem wval_lt (w:List Nat)(h:∀ l∈w,l<6):wval w<7 ^ w.length∧7 ^ w.length≤6*wval w+1:=by
 have key:∀ n (w:List Nat),w.length=n→(∀ l∈w,l<6)→wval w<7 ^ n∧7 ^ n≤6*wval w+1:=by
  intro n
  induction n with
  |zero =>
   intro w hw _
   obtain rfl:=List.eq_nil_of_length_eq_zero hw
   simp [wval]
  |succ n ih =>
   intro w hw hl
   rcases zan w with rfl|⟨u,l,rfl⟩
   ·simp at hw
   ·have h1:=ih u (by simpa using hw) (fun x hx=>hl x (by simp [hx]))
    have h2:=hl l (by simp)
    rw [zaz,Nat.pow_succ]
    omega
 exact key w.length w rfl h
theorem zfY {u v:List Nat}(hu:∀ l∈u,l<6)(hv:∀ l∈v,l<6)(h:v.length<u.length):wval v<wval u:=by
 have h1:=wval_lt u hu
 have h2:=wval_lt v hv
 have h3:7 ^ (v.length+1)≤7 ^ u.length:=Nat.pow_le_pow_right (by omega) h
 rw [Nat.pow_succ] at h3
 omega
structure zcW (d:Nat→Nat→List Nat) (L:List Nat) (goal:Nat→Bool) (start:List Nat) (at_:List Nat) (v:List Nat) (r:Nat):Prop where
 goes:∀ x∈at_,Goes d start v x∧Mn d L goal r x
 all:∀ x,Goes d start v x→Dn d L goal r x→x∈at_
 first:∀ u:List Nat,(∀ l∈u,l∈L)→u.length=v.length→wval u<wval v→∀ x,Goes d start u x→¬ Dn d L goal r x
 least:∀ u:List Nat,(∀ l∈u,l∈L)→u.length<v.length+r→∀ x,Goes d start u x→goal x=false
 letters:∀ l∈v,l∈L
 some_:at_≠[]
theorem zcW.begin_ {x r:Nat}(h:Mn d L goal r x):zcW d L goal [x] [x] [] r:=by
 refine⟨fun y hy=>?_,fun y hy _=>hy.inv_nil,fun u _ hu=>?_,fun u hl hu y hy=>?_,by simp,by simp⟩
 ·simp at hy;subst hy
  exact⟨.nil (by simp),h⟩
 ·simp at hu;subst hu
  intro h;simp [wval] at h
 ·simp at hu
  cases hg:goal y
  ·rfl
  ·exfalso
   obtain⟨z,hz,hd⟩:=Goes.dn (v:=[]) (u:=u) (by simpa using hy) hg hl
   have:=hz.inv_nil
   simp at this
   subst this
   exact h.2 u.length (by omega) hd
theorem zcW.fin {at_ v:List Nat}(h:zcW d L goal start at_ v 0)(hL:∀ l∈L,l<6):Found d start goal L v:=by
 refine⟨h.letters,?_,fun u hu hlt x hx=>?_⟩
 ·obtain⟨x,hx⟩:=List.exists_mem_of_ne_nil _ h.some_
  exact⟨x,(h.goes x hx).1,(h.goes x hx).2.1⟩
 ·rcases Nat.lt_trichotomy u.length v.length with h1|h1|h1
  ·exact h.least u hu (by omega) x hx
  ·have:=h.first u hu h1 hlt x hx
   cases hg:goal x
   ·rfl
   ·exact absurd hg this
  ·have:=zfY (u:=u) (v:=v) (fun l hl=>hL l (hu l hl)) (fun l hl=>hL l (h.letters l hl)) h1
   omega
theorem zcW.exists_ {at_ v:List Nat} {r:Nat}(h:zcW d L goal start at_ v (r+1)):∃ (k l:Nat),L[k]?=some l∧∃ x n,n∈at_∧x∈d n l∧Mn d L goal r x:=by
 obtain⟨n,hn⟩:=List.exists_mem_of_ne_nil _ h.some_
 obtain⟨l,hl,y,hy,h1⟩:=(h.goes n hn).2.next
 obtain⟨k,hk⟩:=List.getElem?_of_mem hl
 exact⟨k,l,hk,y,n,hn,hy,h1⟩
theorem zcW.step {at_ v next:List Nat} {r k l:Nat}(h:zcW d L goal start at_ v (r+1))(hL:Rise L)(hk:L[k]?=some l)(hn:∀ x,x∈next↔∃ n∈at_,x∈d n l∧Mn d L goal r x)(hne:next≠[])
  (hno:∀ (j m:Nat),j<k→L[j]?=some m→∀ n∈at_,∀ x∈d n m,¬ Mn d L goal r x):zcW d L goal start next (v++[l]) r:=by
 have h6:∀ l∈L,l<6:=hL.1
 have hlL:=List.mem_of_getElem? hk
 have min_:∀ (u:List Nat),(∀ m∈u,m∈L)→u.length=v.length+1→∀ x,Goes d start u x→Dn d L goal r x→Mn d L goal r x:=by
  intro u hu hlen x hx hd
  refine⟨hd,fun m hm hdm=>?_⟩
  obtain⟨s,h1,h2,y,h3,h4⟩:=hdm.word hx
  have:=h.least (u++s) (fun z hz=>by
   rcases List.mem_append.1 hz with h5|h5
   ·exact hu z h5
   ·exact h2 z h5) (by rw [List.length_append];omega) y h3
  rw [this] at h4;cases h4
 refine⟨fun x hx=>?_,fun x hx hd=>?_,fun u hu hlen hlt x hx hd=>?_,fun u hu hlen=>?_,?_,hne⟩
 ·obtain⟨n,h1,h2,h3⟩:=(hn x).1 hx
  exact⟨.snoc (h.goes n h1).1 h2,h3⟩
 ·obtain⟨n,h1,h2⟩:=hx.inv
  have hn':n∈at_:=h.all n h1 ⟨l,hlL,x,h2,hd⟩
  exact (hn x).2 ⟨n,hn',h2,min_ (v++[l]) (fun m hm=>by
   rcases List.mem_append.1 hm with h5|h5
   ·exact h.letters m h5
   ·rw [List.mem_singleton.1 h5];exact hlL) (by simp) x hx hd⟩
 ·rcases zan u with rfl|⟨u,m,rfl⟩
  ·simp at hlen
  ·obtain⟨n,h1,h2⟩:=hx.inv
   have hmL:=hu m (by simp)
   have hu':∀ z∈u,z∈L:=fun z hz=>hu z (by simp [hz])
   have hlen':u.length=v.length:=by simpa using hlen
   have hDn:Dn d L goal (r+1) n:=⟨m,hmL,x,h2,hd⟩
   rw [zaz,zaz] at hlt
   have hm6:=h6 m hmL
   have hl6:=h6 l hlL
   by_cases hw:wval u<wval v
   ·exact h.first u hu' hlen' hw n h1 hDn
   ·have e:wval u=wval v:=by omega
    obtain rfl:=wval_inj _ u v (Nat.le_refl _) (fun z hz=>h6 z (hu' z hz)) (fun z hz=>h6 z (h.letters z hz)) e
    obtain⟨j,hj⟩:=List.getElem?_of_mem hmL
    have hjk:j<k:=by
     rcases Nat.lt_trichotomy j k with h5|h5|h5
     ·exact h5
     ·subst h5
      rw [hk] at hj
      have:=Option.some.inj hj
      omega
     ·have:=hL.2 k j _ _ hk hj h5
      omega
    exact hno j m hjk hj n (h.all n h1 hDn) x h2 (min_ _ hu (by simp) x hx hd)
 ·exact h.least u hu (by rw [List.length_append,List.length_singleton] at hlen;omega)
 ·intro m hm
  rcases List.mem_append.1 hm with h5|h5
  ·exact h.letters m h5
  ·rw [List.mem_singleton.1 h5];exact hlL
theorem lost_of {x:Nat}(h:∀ m,¬ Dn d L goal m x):Lost d [x] goal L:=fun v hv y hy=>by
 cases hg:goal y
 ·rfl
 ·exfalso
  obtain⟨z,hz,hd⟩:=Goes.dn (v:=[]) (u:=v) (by simpa using hy) hg hv
  have:=hz.inv_nil
  simp at this
  subst this
  exact h _ hd
theorem goes_congr {d':Nat→Nat→List Nat} {start:List Nat} {N:Nat}(hs:∀ x∈start,x<N)(hd:∀ x l,x<N→l∈L→(∀ y,y∈d x l↔y∈d' x l)∧∀ y∈d x l,y<N) {v:List Nat}(hv:∀ l∈v,l∈L):∀ {x:Nat},(Goes d start v x↔Goes d' start v x)∧(Goes d start v x→x<N):=by
 have key:∀ n (v:List Nat),v.length=n→(∀ l∈v,l∈L)→∀ x,(Goes d start v x↔Goes d' start v x)∧(Goes d start v x→x<N):=by
  intro n
  induction n with
  |zero =>
   intro v hv _ x
   obtain rfl:=List.eq_nil_of_length_eq_zero hv
   exact⟨⟨fun h=>.nil h.inv_nil,fun h=>.nil h.inv_nil⟩,fun h=>hs x h.inv_nil⟩
  |succ n ih =>
   intro v hn hv x
   rcases zan v with rfl|⟨u,l,rfl⟩
   ·simp at hn
   ·have hl:=hv l (by simp)
    have ih':=ih u (by simpa using hn) (fun m hm=>hv m (by simp [hm]))
    refine⟨⟨fun h=>?_,fun h=>?_⟩,fun h=>?_⟩
    ·obtain⟨m,h1,h2⟩:=h.inv
     exact .snoc ((ih' m).1.1 h1) (((hd m l ((ih' m).2 h1) hl).1 x).1 h2)
    ·obtain⟨m,h1,h2⟩:=h.inv
     have h3:=(ih' m).1.2 h1
     exact .snoc h3 (((hd m l ((ih' m).2 h3) hl).1 x).2 h2)
    ·obtain⟨m,h1,h2⟩:=h.inv
     exact (hd m l ((ih' m).2 h1) hl).2 x h2
 exact fun {x}=>key v.length v rfl hv x
theorem zdN {l:List Nat}(h:l.Nodup) {p:Nat}(hl:∀ x∈l,x<p):l.length≤p:=by
 have h1:l ⊆ List.range p:=fun x hx=>List.mem_range.2 (hl x hx)
 have:=List.Nodup.length_le_of_subset h h1
 simpa using this
theorem Mn.lt {n x:Nat}(h:Mn d L goal n x)(hx:x<N)(hd:∀ x l,x<N→l∈L→∀ y∈d x l,y<N):n<N:=by
 have all:∀ n x,x<N→Mn d L goal n x→∃ ys:List Nat,ys.length=n+1∧ys.Nodup∧∀ y∈ys,y<N∧∃ m,m≤n∧Mn d L goal m y:=by
  intro n
  induction n with
  |zero=>intro x hx h;exact⟨[x],rfl,by simp,fun y hy=>by simp at hy;subst hy;exact⟨hx,0,Nat.le_refl _,h⟩⟩
  |succ n ih =>
   intro x hx h
   obtain⟨l,hl,y,hy,h1⟩:=h.next
   obtain⟨ys,h2,h3,h4⟩:=ih y (hd x l hx hl y hy) h1
   refine⟨x :: ys,by simp [h2],List.nodup_cons.2 ⟨fun hm=>?_,h3⟩,fun z hz=>?_⟩
   ·obtain⟨_,m,hm1,hm2⟩:=h4 x hm
    have:=h.uniq hm2
    omega
   ·rcases List.mem_cons.1 hz with rfl|hz
    ·exact⟨hx,n+1,Nat.le_refl _,h⟩
    ·obtain⟨h5,m,h6,h7⟩:=h4 z hz
     exact⟨h5,m,by omega,h7⟩
 obtain⟨ys,h1,h2,h3⟩:=all n x hx h
 have:=zdN h2 fun y hy=>(h3 y hy).1
 omega
end
end Go.Proofs.YtndhahednhnnbaaGreatDoor
