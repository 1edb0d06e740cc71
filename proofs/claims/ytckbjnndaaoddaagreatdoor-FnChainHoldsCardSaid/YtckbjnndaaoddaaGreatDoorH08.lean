/- slices.Clone -/
import Derived.Lib.SliceRun
import Derived.Test.YtckbjnndaaoddaaGreatDoorH07
import Derived.Laws.Strings
import Derived.WideKeyArr
set_option maxHeartbeats 4000000
set_option maxRecDepth 100000
namespace Go.Proofs.YtckbjnndaaoddaaGreatDoor
open Go Go.RowKit
open Blk renaming new->eM
open Bool renaming and_eq_true->dH,eq_false_iff->fI,not_eq_true'->iK
open Ext renaming bl_->eJ,drew->fQ,refl->dB,trans->eX,x1_->gL
open Frm renaming refl->jB,setCell->dF
open List renaming append_assoc->jC,eq_nil_of_length_eq_zero->eD,getD_eq_getElem?_getD->dI,getElem?_eq_getElem->dE,getElem?_eq_none->eK,getElem?_map->eF,getElem?_of_mem->eQ,getElem?_take_of_lt->j3,length_map->eL,length_take->e8,map_append->fB,mem_of_getElem?->dC,mem_range->jJ,mem_replicate->iY,nil_append->eY,replicate->eH,take_add_one->eA,take_of_length_le->dU
open Nat renaming eq_zero_or_pos->iI,le_add_right->jY,le_of_lt_succ->fK,le_refl->dD,le_trans->eB,lt_or_eq_of_le->eU,or_lt_two_pow->eV,zero_le->dG
open Option renaming toList_some->eS
open Reads renaming af->eO
variable {A C:Option Addr} {G L M N R Z b b0 base c c0 cap cc g g0 hi j k lo n nc size:Nat} {O T:List Nat} {W w w' w0 wB:World} {al st:Int} {cols l rows:List ByteArray} {cs:Array Value} {e:Edg} {es:List Edg} {p:Aut} {s:Sys} {t:TypeId} {v:Value} {x y:ByteArray} {xs:List Value}
theorem zjw (l:List Int):∀ u∈ints l,u.oneCell'=true:=by
 intro u hu;obtain⟨x,_,rfl⟩:=List.mem_map.1 hu;rfl
theorem zfI (l:List Bool):∀ u∈zap l,u.oneCell'=true:=by
 intro u hu;obtain⟨x,_,rfl⟩:=List.mem_map.1 hu;rfl
theorem zfP {w1:World}   (hg:(w.alloc (.cells cs t)).grownBy w1 (Value.slice (some w.heap.size) n c).ownBlock):Ext w w1:=
 ((dB w).alloc _).grown hg (fun k hk=>by
  have hk':w.heap.size=k:=by simpa [Value.ownBlock] using hk
  omega)
theorem clone_int {l:List Int} (h:Reads w lo hi 1 A n (ints l))(hn:n<=1048576) :
  Calls Tryz.prog 195 #[.slice A n c] w fun e w'=>∃ v',e=.returned v'∧w'.ownsRow w.heap.size 3 1 v' n (ints l)∧Ext w w':=by
 cases A with
 |none =>
  obtain rfl:n=0:=by
   rcases iI n with b|b
   ·exact b
   ·obtain⟨_,d,_⟩:=h.2.2 b;cases d
  have f:=h.length;obtain rfl:l=[]:=eD (by rw [zdh] at f;omega);clear h;have g:=fun (w:World) (a:Option Addr) (n c n' c':Nat)=>Lib.run_eql_slice_nil (P:=Tryz.prog) w 110 _ a n c n' c' Tryz.underlying110
  go_enter Tryz.func195,Tryz.ntmps195
  go_wp2;go_ret;exact⟨_,rfl,World.ownsRow_nil _ _ _ _,dB _⟩
 |some ad =>
  have H:=za (h.ext ((dB w).alloc (.cells #[] 3)));clear h;have g:=fun (w:World) (a:Option Addr) (n c n' c':Nat)=>Lib.run_eql_slice_nil (P:=Tryz.prog) w 110 _ a n c n' c' Tryz.underlying110
  go_enter Tryz.func195,Tryz.ntmps195
  go_wp2_with (at_builtin;refine zdn _ rfl _ _ 110 rfl w.heap.size 3 _ 1 8 Tryz.underlying110 zal rfl dM _ 0 [] rfl (World.ownsRow_made w #[] 0 (dD _) (dG _) rfl) _ _ (some ad) n c (ints l) rfl H.out (zjw l) lM oM sM ?_;intro v' w1 zjX hg hat)
  have i:=zfP hg;rw [Nat.zero_add,eY] at zjX;go_ret;exact⟨_,rfl,zjX,i⟩
theorem ziF {l:List Bool} (h:Reads w lo hi 1 A n (zap l))(hn:n<=1048576) :
  Calls Tryz.prog 194 #[.slice A n c] w fun e w'=>∃ v',e=.returned v'∧w'.ownsRow w.heap.size 4 1 v' n (zap l)∧Ext w w':=by
 cases A with
 |none =>
  obtain rfl:n=0:=by
   rcases iI n with b|b
   ·exact b
   ·obtain⟨_,d,_⟩:=h.2.2 b;cases d
  have f:=h.length;obtain rfl:l=[]:=eD (by rw [zcf] at f;omega);clear h;have g:=fun (w:World) (a:Option Addr) (n c n' c':Nat)=>Lib.run_eql_slice_nil (P:=Tryz.prog) w 25 _ a n c n' c' Tryz.underlying25
  go_enter Tryz.func194,Tryz.ntmps194
  go_wp2;go_ret;exact⟨_,rfl,World.ownsRow_nil _ _ _ _,dB _⟩
 |some ad =>
  have H:=za (h.ext ((dB w).alloc (.cells #[] 4)));clear h;have g:=fun (w:World) (a:Option Addr) (n c n' c':Nat)=>Lib.run_eql_slice_nil (P:=Tryz.prog) w 25 _ a n c n' c' Tryz.underlying25
  go_enter Tryz.func194,Tryz.ntmps194
  go_wp2_with (at_builtin;refine zdn _ rfl _ _ 25 rfl w.heap.size 4 _ 1 1 Tryz.underlying25 zbk rfl dM _ 0 [] rfl (World.ownsRow_made w #[] 0 (dD _) (dG _) rfl) _ _ (some ad) n c (zap l) rfl H.out (zfI l) lM oM sM ?_;intro v' w1 zjX hg hat)
  have i:=zfP hg;rw [Nat.zero_add,eY] at zjX;go_ret;exact⟨_,rfl,zjX,i⟩
theorem zZ (W:World) (Z:Nat) (u0 u1 u2:Value):Frm (fun k=>k=Z) W (((W.setCell Z u0).setCell ⟨Z,1,none⟩ u1).setCell ⟨Z,2,none⟩ u2):=
 ((dF W Z 0 u0).trans (dF _ Z 1 u1)).trans (dF _ Z 2 u2)
theorem zag (h:Blk w Z t cs)(hc:cs.size=3) (u0 u1 u2:Value):Blk (((w.setCell Z u0).setCell ⟨Z,1,none⟩ u1).setCell ⟨Z,2,none⟩ u2) Z t #[u0,u1,u2]:=by
 obtain⟨l⟩:=cs
 match l,hc with
 |[a,b,c],_=>simpa using ((h.ab 0 u0).ab 1 u1).ab 2 u2
theorem zr {e:TypeId}    (h:w.ownsRow base e size v n xs)(hB:Blk w G t cs)(hne:e≠t) (hv:v.ownBlock=some b):b≠G:=by
 rintro rfl;rcases h.2 with ⟨rfl,_⟩|⟨g,a,c,rfl,_,f,_⟩
 ·simp [Value.ownBlock] at hv
 ·have d:g=b:=by simpa [Value.ownBlock] using hv
  subst d;unfold Blk at hB;rw [f] at hB;injection hB with hB
  injection hB with _ ht
  exact absurd ht hne
structure Gra (w0 W:World) (G:Nat) (al:Int) (v:Value) (ls:List (List Int)) (vA:Value) (acc:List Bool):Prop where
 blk:Blk W G 27 #[al,v,vA]
 own:zfG W w0.heap.size v ls
 acc:W.ownsRow w0.heap.size 4 1 vA acc.length (zap acc)
 ext:Ext w0 W
 hG:w0.heap.size<=G
section
variable {w0 W W':World} {G:Nat} {al:Int} {v vA:Value} {ls:List (List Int)} {acc:List Bool}
theorem Gra.av (h:Gra w0 W G al v ls vA acc)(hb:Ext W W'):Gra w0 W' G al v ls vA acc:=⟨h.blk.ext hb,h.own.ext hb,zh h.acc hb,h.ext.trans hb,h.hG⟩
theorem Gra.push {W1:World} {rows:List Value} {row:Value} {l:List Int} (h:Gra w0 W G al v ls vA acc)(hrows:zB W w0.heap.size rows ls)(hv:W.ownsRow w0.heap.size 110 1 v ls.length rows)
  (hx:Ext W W1) (hrow:W1.ownsRow W.heap.size 3 1 row l.length (ints l))
  (zjX:W'.ownsRow w0.heap.size 110 1 (.slice (some g) (ls.length+1) cap) (ls.length+1) (rows++[row]))
  (hg:W1.grownBy W' v.ownBlock) (hat:v.ownBlock=some g∨g=W1.heap.size+1) :
  Hid (W'.cell? ⟨G,1,none⟩=some v)∧W'.frozen? ⟨G,1,none⟩=false∧Gra w0 (W'.setCell ⟨G,1,none⟩ (.slice (some g) (ls.length+1) cap)) G al (.slice (some g) (ls.length+1) cap) (ls++[l]) vA acc:=by
 have a:=h.blk.ext hx;have d:=zh hv hx;have f:Blk W' G 27 #[.int .i64 al,v,vA]:=(hg.block G a.lt (fun e=>zr d a dM e.symm rfl)).trans a;have u:g≠G:=by
  rcases hat with t|t
  ·exact zr d a dM t
  ·have:=a.lt;omega
 have s:Ext w0 W':=(h.ext.trans hx).grown hg (fun k hk=>(d.lt k hk).1);have m:=hrows.snoc hx (h.ext.size) hrow;have j:Frm (fun k=>v.ownBlock=some k) W1 W':=Frm.ae hg;have n:zB W' w0.heap.size (rows++[row]) (ls++[l]):=m.frm j (fun i r b hr hb hS=>by
  obtain⟨x,_,q⟩:=m.row hr;exact zaB q d dM hb hS)
 have o:W'.ownsRow w0.heap.size 4 1 vA acc.length (zap acc):=zg (zh h.acc hx) j (fun b hb hS=>zaB (zh h.acc hx) d dM hb hS);have c:=dF W' G 1 (.slice (some g) (ls.length+1) cap);refine⟨f.cell 1,f.frozen 1,⟨by simpa using f.ab 1 _,⟨rows++[row],?_,?_⟩,?_,s.setCell (p:=⟨G,1,none⟩) h.hG _,h.hG⟩⟩
 ·rw [List.length_append,List.length_singleton];exact zg zjX c (fun b hv hS=>by
   have:g=b:=by simpa [Value.ownBlock] using hv
   omega)
 ·refine n.frm c (fun i r b hr hb hS=>?_);obtain⟨x,_,q⟩:=n.row hr;exact zr q f dM hb hS
 ·exact zg o c (fun b hb hS=>zr o f dM hb hS)
end
theorem zfR {A':Option Addr} {n' c':Nat} {a:Aut} (h:zD w lo hi A n A' n' a)(hs:a.size<=1048576) :
  Calls Tryz.prog 104 #[.agg #[a.al,.slice A n c,.slice A' n' c']] w (RetAut w a):=by
 have h1:n<=1048576:=by have:=h.n1;unfold Aut.size at hs;omega
 have h2:n'<=1048576:=by have:=h.n2;unfold Aut.size at hs;omega
 have o:∀ (k:Nat) (l:List Int),a.next[k]?=some l->l.length<=1048576:=fun k l Y=>by
  have h1:=zgk Y;have h2:=zhZ a.next (k+1);unfold Aut.size at hs;omega
 have Q:=za o;have S:=za h.n1;have T:=za h.n2;have HS:=za (fun W (hW:Ext w W)=>h.1.ext hW);have HA:=za (fun W (hW:Ext w W)=>h.2.2.ext hW);have av:=h.1.len;clear o h hs
 go_enter Tryz.func104,Tryz.ntmps104
 go_upto_region 1 with fail
 generalize U0:(w.alloc _).alloc _=q at *;obtain⟨y,b1,bz⟩:=Ext.x2_ U0;have ax:w.heap.size+2=q.heap.size:=by rw [← U0];simp
 clear U0
 go_cut [3] (fun v wx=>∃ (G:Nat) (vA:Value),v=.pointer (some G)∧Gra q wx G a.al (.slice none 0 0) [] vA a.acc)
 case first =>
  have c1:=fun W (hW:Ext q W)=>(b1.ext hW).cell;have z:=dB q;refine uR (fun X=>Ext q X) [7] (zv.app [0,1,2,3] (zv.two 4 (zv.of [5,6,7]) 6 (zv.of [4,5,7]))) ?_;refine uQ ?_;have g:Ext q q.drew:=z.drew;generalize q.drew=wd at *;refine zn (fun K hK=>?_) (fun K hK=>?_)
  ·go_simp;refine (ziF (HA.out _ (y.trans g)) h2).mono ?_;rintro e L ⟨ap,rfl,j,C⟩;obtain⟨O,R,rfl⟩:=zi j;have m:=g.trans C;refine hK.out _ _ m ?_;refine pT ?_;refine uQ ?_;refine ze fun K hK=>?_;go_simp;have B:=(dB L).alloc (.cells #[(0:Int),(),()] 27);have hG:=m.size;have f:=zq (zh j B) g.size;replace m:=m.trans B;refine hK.out _ _ m ?_;generalize U0:L.alloc _=M at *;have r:=eJ U0;clear U0;generalize L.heap.size=G at *;refine pT ?_;refine uQ ?_;have cG:=r.cell;have fG:=r.frozen;refine zb fun K hK=>?_;go_simp;refine hK.out _ _ ?_;refine zf ?_;have s:Gra q (((M.setCell G a.al).setCell ⟨G,1,none⟩ ()).setCell ⟨G,2,none⟩ (.slice O n' R)) G a.al (.slice none 0 0) [] (.slice O n' R) a.acc:=⟨zag r rfl _ _ _,⟨[],World.ownsRow_nil _ _ _ _,zB.nil _ _⟩,by
    rw [← T.out];exact zg f (zZ M G _ _ _) (fun b x hS=>zr f r dM x hS),m.frm (zZ M G _ _ _) (fun k hk e=>oM),hG⟩
   go_wp2_with fail
   go_meet;exact⟨G,_,rfl,s⟩
  ·go_simp;have B:=(dB wd).alloc (.cells #[(0:Int),(),()] 27);have hG:=g.size;replace g:=g.trans B;refine hK.out _ _ g ?_;generalize U0:wd.alloc _=M at *;have r:=eJ U0;clear U0;generalize wd.heap.size=G at *;refine pT ?_;refine ze fun K hK=>?_;go_simp;refine (ziF (HA.out _ (y.trans g)) h2).mono ?_;rintro e L ⟨ap,rfl,j,C⟩;obtain⟨O,R,rfl⟩:=zi j;have f:=zq j g.size;replace r:=r.ext C;replace g:=g.trans C;refine hK.out _ _ g ?_;refine pT ?_;refine uQ ?_;have cG:=r.cell;have fG:=r.frozen;refine zb fun K hK=>?_;go_simp;refine hK.out _ _ ?_;refine zf ?_;have s:Gra q (((L.setCell G a.al).setCell ⟨G,1,none⟩ ()).setCell ⟨G,2,none⟩ (.slice O n' R)) G a.al (.slice none 0 0) [] (.slice O n' R) a.acc:=⟨zag r rfl _ _ _,⟨[],World.ownsRow_nil _ _ _ _,zB.nil _ _⟩,by
    rw [← T.out];exact zg f (zZ L G _ _ _) (fun b x hS=>zr f r dM x hS),g.frm (zZ L G _ _ _) (fun k hk e=>oM),hG⟩
   go_wp2_with fail
   go_meet;exact⟨G,_,rfl,s⟩
 case rest =>
  obtain⟨G,vA,rfl,d⟩:=hcut;have k1:=(b1.ext d.ext).cell;go_wp2_with fail
  go_loopw [5,15] (fun _ i wr=>∃ (k:Nat) (v:Value),k<=n∧i=.int .i64 k∧Gra q wr G a.al v (a.next.take k) vA a.acc) (fun _ i _=>n - (intOf i).toNat)
  case atStart=>exact⟨0,_,dG _,rfl,by simpa using d⟩
  case round =>
   clear d k1;obtain⟨k,v,hk,rfl,d⟩:=hrel
   by_cases hlt:k<n
   ·obtain⟨ad,Ak,ck,l,rfl,_,_,Y,ai,U⟩:=(HS.out wr (y.trans d.ext)).row hlt;have ak:=Q.out k l Y.out;have aa:=za (show a.next.take (k+1)=a.next.take k++[l] by rw [eA,Y.out];rfl);have V:=za (show (a.next.take k).length=k by rw [e8];have:=S.out;omega);obtain⟨D,x,J⟩:=d.own;go_upto_region 5 with fail
    have cG:=fun W (hW:Ext wr W)=>(d.blk.ext hW).cell;have z:=dB wr;have Z:=za (fun W (hW:Ext wr W)=>U.ext hW);clear ai U;refine uR (fun X=>Ext wr X) [5,7] (zv.of [0,1,2,3,4,5,6,7]) ?_;refine uQ ?_;refine ze fun K hK=>?_;go_simp;refine (clone_int (Z.out _ z.drew) ak).mono ?_;rintro e M ⟨row,rfl,o,am⟩;obtain⟨BR,dR,rfl⟩:=zi o;have p:=z.drew.trans am;refine hK.out _ _ p ?_;refine pT ?_;refine uQ ?_;refine ze fun K hK=>?_;go_simp;refine hK.out _ _ (p.alloc _) ?_;refine pT ?_;refine zb fun K hK=>?_;refine zaN q M _ _ _ rfl 110 _ 1 24 Tryz.underlying24 zcN rfl dM v (a.next.take k).length D _ _ rfl rfl (d.ext.trans p).size (zh x p) rfl (zbf _ _ _) (by unfold maxLen;have:=V.out;omega) (oH V.out) ?_;intro g5 cap5 w5 zkj hg5 hat5 hlt5;refine hK.out _ _ ?_;refine pT ?_;refine uQ ?_;obtain⟨p1,p2,p3⟩:=d.push J x p o (W':=w5) zkj hg5 hat5;have aF:=p1.out;refine zb fun K hK=>?_;go_simp;refine hK.out _ _ ?_;refine zf ?_;go_wp2_with fail
    go_roundw
    case rel=>exact⟨k+1,_,oM,gM,by rw [aa.out];first|exact p3|simpa using p3⟩
    case measure=>simp [intOf];omega
   ·obtain rfl:n=k:=oM;obtain⟨t,u,rfl⟩:∃ t u,v=.slice t n u:=by
     obtain⟨D,x,_⟩:=d.own;rw [dU (oH S.out),← S.out] at x;exact zi x
    obtain⟨E,F,rfl⟩:=zi d.acc;have cG:=d.blk.cell;have H:=bz.ext d.ext;have cZ:=H.cell;have fZ:=H.frozen;have I:=zZ wr (w.heap.size+1) (.int .i64 a.al) (.slice t n u) (.slice E a.acc.length F);have ah:=zag H rfl (.int .i64 a.al) (.slice t n u) (.slice E a.acc.length F);have an:=(y.trans d.ext).frm I (fun k hk e=>oM);have s:=za (show RetAut w a (.returned (.agg #[a.al,.slice t n u,.slice E a.acc.length F])) (((wr.setCell ⟨w.heap.size+1,0,none⟩ a.al).setCell ⟨w.heap.size+1,1,none⟩ (.slice t n u)).setCell ⟨w.heap.size+1,2,none⟩ (.slice E a.acc.length F)) from by
     refine⟨t,n,u,E,a.acc.length,F,rfl,⟨?_,S.out,?_,rfl⟩,an⟩
     ·have ho:=d.own;rw [dU (oH S.out)] at ho;exact (ho.keep I (fun b h1 e=>oM)).less oM
     ·exact zq (zaQ d.acc I (fun b h1 e=>oM)) oM)
    go_wp2_with fail
    generalize ((wr.setCell ⟨w.heap.size+1,0,none⟩ a.al).setCell ⟨w.heap.size+1,1,none⟩ (.slice t n u)).setCell ⟨w.heap.size+1,2,none⟩ (.slice E a.acc.length F)=wf at *;have cf:=ah.cell;exact bodyPost_ret (v:=.agg #[a.al,.slice t n u,.slice E a.acc.length F]) (by simp [results,Tryz.results104,go_sem,cf]) rfl s.out
def memT (W:World) (g n:Nat):List Nat:=(List.range n).map fun j=>match W.cell? ⟨g,j,none⟩ with|some (.int _ z)=>z.toNat|_=>0
theorem memT_own (h:W.ownsRow base 3 1 (.slice (some g) n c) n (zau T))(hT:T.length=n):memT W g n=T:=by
 refine List.ext_getElem? fun j=>?_;unfold memT;rw [eF];rcases Nat.lt_or_ge j n with a|a
 ·rw [List.getElem?_range a,Option.map_some,h.cellAt j oM,show (zau T)[j]?=T[j]?.map (fun x=>Value.int .i64 (x:Nat)) by simp [zau]];rw [dE oM];simp
 ·rw [eK (by simpa using a),eK oM];rfl
theorem zdj (h:W.ownsRow base 3 1 (.slice (some g) n c) n (zau T))(hj:j<n):W.cell? ⟨g,j,none⟩=some (.int .i64 (T.getD j 0:Nat)):=by
 have a:=zdF h;have b:T.length=n:=by simpa [zau] using a
 rw [h.cellAt j oM,show (zau T)[j]?=T[j]?.map (fun x=>Value.int .i64 (x:Nat)) by simp [zau],dI,dE oM];simp
def RetSets (g N cc base:Nat) (Q:Nat->Nat->Prop) (w:World) (e:Ending) (w':World):Prop:=
 ∃ T':List Nat,e=.returned (.slice (some g) N cc)∧w'.ownsRow base 3 1 (.slice (some g) N cc) N (zau T')∧zbC T' N Q∧Frm (fun k=>k=g) w w'
section
variable {w:World} {lo hi n c m d m' d' L:Nat} {A B B':Option Addr} {s:Sys} {p:Aut}
theorem zgM {Bs:Nat->Nat->Prop}(hS:zQ w lo hi A n s)(hP:zD w lo hi B m B' m' p)(hv:zk s=true)(hp:zj p=true)(hL:L<64)(hN:N=p.next.length)
  (hg:hi<=base) (zjX:w.ownsRow base 3 1 (.slice (some g) N cc) N (zau T)) (hT:zbC T N Bs) :
  Calls Tryz.prog 223 #[.agg #[s.al,s.st,.slice A n c,p.al,.slice B m d,.slice B' m' d',L],.slice (some g) N cc] w (RetSets g N cc base (Cl s p L Bs) w):=by
 have O:=zct hv;obtain⟨a3,a4⟩:=zF hv;obtain⟨al,ae⟩:∃ al:Nat,Hid (s.al=al):=⟨s.al.toNat,by unfold Hid;omega⟩;have I:al<64:=oH ae.out;have aR:N<=12:=by have:=(zl hp).2.1;omega
 have a7:=(zjX.lt g rfl).1;have a9:=(zjX.lt g rfl).2;have HN:=za hN;have aF:=za (zcm (a:=al) (b:=L) tM tM);have bb:al&&&L<=al:=Nat.and_le_left;have ab:(al:Int) - ((al&&&L:Nat):Int)=((al - (al&&&L):Nat):Int):=oM;have ao:=za ab;clear ab;have H:=za (fun l=>sub_bit I hL l);have a5:=aF.out;clear hN
 go_enter Tryz.func223,Tryz.ntmps223
 go_upto_region 1 with fail
 generalize U0:w.alloc _=w1 at *;obtain⟨R,b1⟩:=gL U0;have k1:=b1.cell;clear U0;rw [ae.out] at k1;go_wp2_with fail
 rw [ao.out];refine (zaj (al - (al&&&L)) tM _).mono ?_;rintro e w2 ⟨HA,hc,rfl,E,U⟩;have H:=za (fun l=>(sub_bit I hL l).trans (show l<6∧al.testBit l=true∧L.testBit l=false↔hidL s L l by unfold hidL;rw [ae.out];rfl));generalize letters (al - (al&&&L)) 6=hs at *;have ba:hs.length<=9223372036854775807:=(eO E).len;have ap:Frm (fun k=>k=g) w w2:=(R.trans U).aj;have ay:=zh zjX (R.trans U);have aJ:=b1.ext U;have o:=hT.clI (s:=s) (p:=p) (A:=L);clear zjX hT k1 b1;go_wp2_with fail
 go_loopw [6] (fun mv wr=>∃ (C:Bool) (T:List Nat),mv=.bool C∧Hid (ClI s p L Bs N T)∧Hid (C=false->∀ i l,i<N->hidL s L l->zeU s p T i l)∧wr.ownsRow base 3 1 (.slice (some g) N cc) N (zau T)∧Frm (fun k=>k=g) w2 wr) (fun mv wr=>room (memT wr g N)+(match mv with | .bool true=>1|_=>0))
 case atStart=>exact⟨true,T,rfl,za o,za (fun h=>by cases h),ay,jB _ _⟩
 case round =>
  clear o ay;obtain⟨C,T,rfl,o,f,zjX,t⟩:=hrel;have ar:=za (memT_own zjX o.out.len);cases C
  ·have aP:=za (o.out.fin (f.out rfl));go_wp2_with fail
   go_ret;exact⟨T,rfl,zjX,aP.out,ap.trans t⟩
  ·go_wp2_with fail
   go_loopw [6,7] (fun mv iv wq=>∃ (C:Bool) (i:Nat) (v:List Nat),mv=.bool C∧iv=.int .i64 i∧i<=N∧Hid (ClI s p L Bs N v)∧Hid (room v<=room T∧(C=true->room v<room T))∧Hid (C=false->∀ i' l,i'<i->hidL s L l->zeU s p v i' l)∧wq.ownsRow base 3 1 (.slice (some g) N cc) N (zau v)∧Frm (fun k=>k=g) w2 wq) (fun _ iv _=>N - (intOf iv).toNat)
   case atStart=>exact⟨false,0,T,rfl,rfl,dG _,o,za ⟨dD _,fun h=>by cases h⟩,za (fun _ i' l h=>oM),zjX,t⟩
   case round =>
    clear o zjX t f;obtain⟨C,i,v,rfl,rfl,hi,o,r,f,zjX,t⟩:=hrel
    by_cases hlt:i<N
    ·have aU:(i:Int)<(N:Int):=oM;go_wp2_with fail
     go_loopw [6,8] (fun mv kv wq=>∃ (C:Bool) (k:Nat) (v:List Nat),mv=.bool C∧kv=.int .i64 k∧k<=hs.length∧Hid (ClI s p L Bs N v)∧Hid (room v<=room T∧(C=true->room v<room T))∧Hid (C=false->(∀ i' l,i'<i->hidL s L l->zeU s p v i' l)∧∀ (k' l:Nat),k'<k->hs[k']?=some l->zeU s p v i l)∧wq.ownsRow base 3 1 (.slice (some g) N cc) N (zau v)∧Frm (fun k=>k=g) w2 wq) (fun _ kv _=>hs.length - (intOf kv).toNat)
     case atStart=>exact⟨C,0,v,rfl,rfl,dG _,o,r,za (fun h=>⟨f.out h,fun k' l h=>oM⟩),zjX,t⟩
     case round =>
      clear o r f zjX t;obtain⟨C,k,v,rfl,rfl,hk,o,r,f,zjX,t⟩:=hrel
      by_cases hkl:k<hs.length
      ·have aT:(k:Int)<(hs.length:Int):=oM;obtain⟨l,X⟩:∃ l,hs[k]?=some l:=⟨_,dE hkl⟩;have M:=(H.out l).1 (dC X);have aq:=M.1;have af:aGo p i l<N:=by rw [HN.out];exact zeq hp (by rw [← HN.out];exact hlt) aq
       obtain⟨gh,rfl,a8,-⟩:=zae E oM;have G:=zaQ E t (fun b Y e=>oH R.size);have cH:=zdj G hkl;rw [dI,X,Option.getD_some] at cH;have CH:∀ W,Ext wr W->W.cell? ⟨gh,k,none⟩=some (.int .i64 (l:Nat)):=fun W hW=>hW.aa cH;have CB:∀ W,Ext wr W->∀ q,W.cell? ⟨w.heap.size,q,none⟩=#[Value.int .i64 s.al,.int .i64 s.st,.slice A n c,.int .i64 p.al,.slice B m d,.slice B' m' d',.int .i64 L][q]?:=fun W hW=>((aJ.frm t oM).ext hW).cell;have CI:∀ W,Ext wr W->W.cell? ⟨g,i,none⟩=some (.int .i64 (v.getD i 0:Nat)):=fun W hW=>hW.aa (zdj zjX hlt);have aD:=za (fun W (hW:Ext wr W)=>((hP.ext (R.trans U)).frm t (fun k Y h2 e=>oM)).ext hW);have aE:=za (fun W (hW:Ext wr W)=>((hS.ext (R.trans U)).frm t (fun k Y h2 e=>oM)).ext hW);have Hl:=za X;have bc:=dB wr;clear X cH G;go_wp2_with fail
       go_region_held3 (fun W=>Ext wr W) (first|assumption|(refine fQ ?_;assumption)|(refine eX ?_ aM;assumption)|(refine eX ?_ aM;refine fQ ?_;assumption)) (first|(go_at_call 225;refine (zdW (aD.out _ ?_) hp (by rw [← HN.out];exact hlt) aq).mono ?_;(first|assumption|(refine fQ ?_;assumption));rintro e w3 ⟨rfl,bd⟩))
       have aV:Ext wr w3:=aM;obtain⟨j,hj⟩:∃ j,Hid (aGo p i l=j):=⟨_,rfl⟩;rw [hj.out] at af ⊢;have CJ:∀ W,Ext wr W->W.cell? ⟨g,j,none⟩=some (.int .i64 (v.getD j 0:Nat)):=fun W hW=>hW.aa (zdj zjX af);obtain⟨x,hx⟩:∃ x,Hid (v.getD i 0=x):=⟨_,rfl⟩;obtain⟨y,hy⟩:∃ y,Hid (v.getD j 0=y):=⟨_,rfl⟩;have aW:x<65536:=by rw [← hx.out];exact zbW o.out.lt i
       have ax:y<65536:=by rw [← hy.out];exact zbW o.out.lt j
       rw [hx.out] at CI;rw [hy.out] at CJ;have Q:zbO s.edges x (l:Int)<65536:=zgD O _ _;obtain⟨z,hz⟩:∃ z,Hid (zbO s.edges x (l:Int)=z):=⟨_,rfl⟩;rw [hz.out] at Q;have aL:=zbn (a:=y) (b:=z) tM tM;have aS:(j:Int)<(N:Int):=oM;obtain⟨u,hu⟩:∃ u,Hid (y|||z=u):=⟨_,rfl⟩;have aw:u<65536:=by rw [← hu.out];exact eV (n:=16) ax Q
       rw [hu.out] at aL;go_wp2_with fail
       go_region_held3 (fun W=>Ext wr W) (first|assumption|(refine fQ ?_;assumption)|(refine eX ?_ aM;assumption)|(refine eX ?_ aM;refine fQ ?_;assumption)) (first|(go_at_call 224;refine (zfA (c:=c) (k0:=s.st.toNat) (aE.out _ ?_) O.2.2.1 (oH O.2.1) tM).mono ?_;(first|assumption|(refine fQ ?_;assumption));rw [hz.out];rintro e w4 ⟨rfl,be⟩))
       have S:Ext wr w4:=aM;have cJ:=CJ w4 S;have Z:=t.ext S;have D:=zh zjX S;have J:v.getD (aGo p i l) 0|||zbO s.edges (v.getD i 0) (l:Int)=u:=by rw [hj.out,hx.out,hy.out,hz.out,hu.out]
       have am:=za J;have F:=o.out.step O hp HN.out hlt M;rw [J,hj.out] at F;have ad:=za F;clear J F CH CB CI CJ
       by_cases he:u=y
       ·have aG:=za (closedAt_of (T:=v) (p:=p) (i:=i) O M (by rw [am.out,hj.out,hy.out,he]));have aK:((u:Int) != (y:Int))=false:=by rw [he];simp
        clear he;go_wp2_with fail
        go_roundw
        case rel=>exact⟨C,k+1,v,rfl,gM,oM,o,r,za (fun h=>⟨(f.out h).1,fun k' l' V hl'=>by
         rcases eU (fK V) with Y|rfl
         ·exact (f.out h).2 k' l' Y hl'
         ·rw [Hl.out] at hl';obtain rfl:=Option.some.inj hl';exact aG.out⟩),D,Z⟩
        case measure=>simp [intOf];omega
       ·have aK:((u:Int) != (y:Int))=true:=by simp;omega
        have ah:=room_set v j z (by rw [hy.out,hu.out];exact aw);rw [hy.out,hu.out] at ah;have aa:=ah.2 (by rw [o.out.len];exact af) he;have an:=za aa;have au:=(D.stored j (.int .i64 (u:Nat))).1;rw [← zhk] at au;have a6:=D.frozenAt j;clear ah aa he;go_wp2_with fail
        go_roundw
        case rel=>exact⟨true,k+1,v.set j u,rfl,gM,oM,za ad.out,za ⟨by have:=an.out;have:=r.out.1;omega,fun _=>by have:=an.out;have:=r.out.1;omega⟩,za (fun h=>by cases h),au,Z.trans (dF _ g j _)⟩
        case measure=>simp [intOf];omega
      ·go_wp2_with fail
       go_roundw
       case rel=>exact⟨C,i+1,v,rfl,gM,oM,o,r,za (fun h i' l hi' X=>by
        rcases eU (fK hi') with Y|rfl
        ·exact (f.out h).1 i' l Y X
        ·obtain⟨k',V⟩:=eQ ((H.out l).2 X);exact (f.out h).2 k' l (by have:=(List.getElem?_eq_some_iff.1 V).1;omega) V),zjX,t⟩
       case measure=>simp [intOf];omega
    ·go_wp2_with fail
     have ag:=za (memT_own zjX o.out.len);go_roundw
     case rel=>exact⟨C,v,rfl,o,za (fun h i l hi X=>f.out h i l oM X),zjX,t⟩
     case measure =>
      rw [ar.out,ag.out];have Y:=r.out;cases C
      ·simp;omega
      ·have:=Y.2 rfl
       simp;omega
end
def RetSt (N:Nat) (Q:Nat->Nat->Prop) (w:World) (e:Ending) (w':World):Prop:=
 ∃ (T:List Nat) (g c:Nat),e=.returned (.slice (some g) N c)∧w'.ownsRow w.heap.size 3 1 (.slice (some g) N c) N (zau T)∧zbC T N Q∧Ext w w'
def mset (s:Sys) (x l:Nat):Nat:=if s.al.toNat.testBit l then zbO s.edges x (l:Int) else x
theorem mset_bit (hs:Sml s) (x l q':Nat):(mset s x l).testBit q'=true↔∃ q,x.testBit q=true∧q'∈cho s q l:=by
 unfold mset;split
 ·rename_i h;exact zhq hs h x q'
 ·rename_i h;constructor
  ·intro b;exact⟨q',b,by unfold cho;rw [if_neg h];simp⟩
  ·rintro ⟨q,b,a⟩;unfold cho at a;rw [if_neg h] at a;simp at a;rw [a];exact b
theorem mset_lt (hs:Sml s) {x:Nat}(hx:x<65536) (l:Nat):mset s x l<65536:=by
 unfold mset;split
 ·exact zgD hs _ _
 ·exact hx
structure MvI (s:Sys) (p:Aut) (l N:Nat) (T:List Nat) (k:Nat) (O:List Nat):Prop where
 len:O.length=N
 lt:∀ x∈O,x<65536
 bit:∀ j q',zdN O j q'↔∃ i q,i<k∧zdN T i q∧q'∈cho s q l∧j=aGo p i l
theorem MvI.step {l:Nat} (h:MvI s p l N T k O)(hs:Sml s)(hp:zj p=true)(hN:N=p.next.length)(hT:∀ x∈T,x<65536)(hk:k<N)(hl:l<6) :
  MvI s p l N T (k+1) (O.set (aGo p k l) (O.getD (aGo p k l) 0|||mset s (T.getD k 0) l)):=by
 have m:aGo p k l<O.length:=by rw [h.len,hN];exact zeq hp oM hl
 refine⟨by rw [List.length_set];exact h.len,fun x f=>?_,fun j q'=>?_⟩
 ·rcases List.mem_or_eq_of_mem_set f with f|rfl
  ·exact h.lt x f
  ·exact eV (n:=16) (zbW h.lt _) (mset_lt hs (zbW hT _) _)
 ·rw [zcW m,h.bit,mset_bit hs];constructor
  ·rintro (⟨i,q,c,a,b,d⟩|⟨c,q,a,b⟩)
   ·exact⟨i,q,oM,a,b,d⟩
   ·exact⟨k,q,oM,a,b,c⟩
  ·rintro ⟨i,q,c,a,b,d⟩;rcases eU (fK c) with g|rfl
   ·exact .inl ⟨i,q,g,a,b,d⟩
   ·exact .inr ⟨d,q,a,b⟩
theorem MvI.zero (s:Sys) (p:Aut) (l N:Nat) (T:List Nat):MvI s p l N T 0 (eH N 0):=by
 refine⟨sM,fun x hx=>by rw [iY] at hx;omega,fun j q'=>?_⟩;constructor
 ·intro h;unfold zdN at h;rw [dI] at h;cases h1:(eH N 0)[j]? with
  |none=>rw [h1] at h;simp at h
  |some x =>
   have:=dC h1;rw [iY] at this;rw [h1,this.2] at h;simp at h
 ·rintro ⟨_,_,h,_⟩;omega
theorem MvI.fin {l:Nat}  {B:Nat->Nat->Prop}(h:MvI s p l N T N O)(hT:zbC T N B):zbC O N (mvB s p l B):=by
 refine⟨h.len,h.lt,fun j q'=>?_⟩;rw [h.bit];constructor
 ·rintro ⟨i,q,f,a,b,c⟩;exact⟨q,i,(hT.2.2 i q).1 a,b,c⟩
 ·rintro ⟨q,i,a,b,c⟩;have d:=(hT.2.2 i q).2 a;exact⟨i,q,by rw [← hT.1];exact zhw d,d,b,c⟩
def badT (p:Aut) (T:List Nat) (N:Nat):Bool:=(List.range N).any fun i=>T.getD i 0 != 0&&!zcG p i
theorem zjf :badT p T N=true↔∃ i,i<N∧T.getD i 0≠0∧zcG p i=false:=by
 unfold badT;rw [List.any_eq_true];constructor
 ·rintro ⟨i,b,a⟩;rw [jJ] at b;simp only [dH,bne_iff_ne,iK] at a;exact⟨i,b,a.1,a.2⟩
 ·rintro ⟨i,b,a,c⟩;exact⟨i,List.mem_range.2 b,by simp [c];simpa using a⟩
section
variable {w:World} {lo hi n c m d m' d' L:Nat} {A B B':Option Addr} {s:Sys} {p:Aut}
theorem spec_l9Start (hS:zQ w lo hi A n s)(hP:zD w lo hi B m B' m' p)(hv:zk s=true)(hp:zj p=true)(hL:L<64)(hhi:hi<=w.heap.size)(hN:N=p.next.length) :
  Calls Tryz.prog 147 #[.agg #[s.al,s.st,.slice A n c,p.al,.slice B m d,.slice B' m' d',L]] w (RetSt N (PR s p L []) w):=by
 have M:m=N:=hP.n1.trans hN.symm;subst M;have g:1<=m∧m<=12:=by have:=(zl hp).2.1;omega
 have F:=za (fun W (hW:Ext w W)=>hS.ext hW);have E:=za (fun W (hW:Ext w W)=>hP.ext hW);have D:=za hN;clear hS hP hN
 go_enter Tryz.func147,Tryz.ntmps147
 go_upto_region 1 with fail
 generalize U0:w.alloc _=l at *;obtain⟨a,r⟩:=gL U0;have H:=r.lt;clear U0;have C:=r.cell;go_upto_region 2 with (at_make;refine zce l l rfl _ _ 110 rfl 3 _ 1 8 Tryz.underlying110 zal _ _ m rfl rfl (dB _) oM lM ?_;intro w2 hx2 zkh hx23 hsz2)
 rw [madeZ] at zkh;have j:=(zkh.stored 0 (.int .i64 1)).1;rw [show (zau (eH m 0)).set 0 (.int .i64 1)=zau ((eH m 0).set 0 1) from (zhk (i:=0) (v:=1) (R:=eH m 0)).symm] at j;have J:=zkh.frozenAt 0;have I:=zdj zkh (show 0<m by omega);have f:=(a.trans hx2).setCell (p:=⟨l.heap.size,0,none⟩) a.size (.int .i64 1);have z:=(r.ext hx2).far (p:=⟨l.heap.size,0,none⟩) (by dsimp only;omega) (.int .i64 1);have G:(0:Int)<(m:Int):=oM;clear C;have C:=z.cell;have Q:=za (fun o (hT':zbC o m (fun q i=>q=0∧i=0))=>hT');have u:=F.out _ f;have t:=E.out _ f;have x:=zhY g.1;have O:=a.size;clear hx23;go_wp2_with fail
 refine (zgM (c:=c) (d:=d) (d':=d') u t hv hp hL D.out oM j x).mono ?_;rintro e S ⟨o,rfl,b,y,h⟩;go_wp2_with fail
 go_ret;exact⟨o,l.heap.size,m,rfl,zq b a.size,y,f.frm h (fun k hk e=>oM)⟩
theorem spec_l9Move {l:Nat}  {Q:Nat->Nat->Prop}(hS:zQ w lo hi A n s)(hP:zD w lo hi B m B' m' p)(hv:zk s=true)(hp:zj p=true)(hL:L<64)(hhi:hi<=w.heap.size)(hN:N=p.next.length)(hl:l<6)
  (zjX:w.ownsRow b0 3 1 (.slice (some g0) N c0) N (zau T)) (hT:zbC T N Q) :
  Calls Tryz.prog 149 #[.agg #[s.al,s.st,.slice A n c,p.al,.slice B m d,.slice B' m' d',L],.slice (some g0) N c0,l] w (RetSt N (Cl s p L (mvB s p l Q)) w):=by
 have D:=zct hv;obtain⟨aF,aG⟩:=zF hv;obtain⟨al,C⟩:∃ al:Nat,Hid (s.al=al):=⟨s.al.toNat,by unfold Hid;omega⟩;have am:al<64:=oH C.out;have U:=za (show s.al.toNat=al by have:=C.out;omega);have aw:1<=N∧N<=12:=by have:=(zl hp).2.1;omega
 have HS:=za (fun W (hW:Ext w W)=>hS.ext hW);have HP:=za (fun W (hW:Ext w W)=>hP.ext hW);have J:=za hN;have HT:=za hT;have aI:=(zjX.lt g0 rfl).2;clear hS hP hN hT
 go_enter Tryz.func149,Tryz.ntmps149
 go_upto_region 1 with fail
 generalize U0:w.alloc _=w1 at *;obtain⟨V,b1⟩:=gL U0;have aH:=b1.lt;clear U0;go_wp2_with (at_make;refine zce w1 w1 rfl _ _ 110 rfl 3 _ 1 8 Tryz.underlying110 zal _ _ N rfl rfl (dB _) oM lM ?_;intro w2 hx2 zkh hx23 hsz2)
 rw [madeZ] at zkh;have az:=V.size;have ap:=V.trans hx2;clear hx23;obtain⟨r,S⟩:∃ r,r=w1.heap.size:=⟨_,rfl⟩;rw [← S] at zkh ⊢;have aE:w.heap.size<r:=oM;clear S
 go_loopw [8] (fun iv wr=>∃ (i:Nat) (O:List Nat),iv=.int .i64 i∧i<=N∧Hid (MvI s p l N T i O)∧wr.ownsRow r 3 1 (.slice (some r) N N) N (zau O)∧Frm (fun k=>k=r) w2 wr) (fun iv _=>N - (intOf iv).toNat)
 case atStart=>exact⟨0,_,rfl,dG _,za (MvI.zero s p l N T),zkh,jB _ _⟩
 case round =>
  clear zkh;obtain⟨i,O,rfl,hi,hO,f,t⟩:=hrel;have h:Ext w wr:=ap.frm t (fun k hk e=>oM);have k1:=((b1.ext hx2).frm t oM).cell
  by_cases hlt:i<N
  ·have ay:(i:Int)<(N:Int):=oM;have cI:=zdj (zh zjX h) hlt;obtain⟨x,hx⟩:∃ x,Hid (T.getD i 0=x):=⟨_,rfl⟩;have X:x<65536:=by rw [← hx.out];exact zbW HT.out.2.1 i
   rw [hx.out] at cI;have CB:∀ W,Ext wr W->∀ q,W.cell? ⟨w.heap.size,q,none⟩=#[Value.int .i64 al,.int .i64 s.st,.slice A n c,.int .i64 p.al,.slice B m d,.slice B' m' d',.int .i64 L][q]?:=fun W hW q=>by rw [(((b1.ext hx2).frm t oM).ext hW).cell,C.out]
   have CI:∀ W,Ext wr W->W.cell? ⟨g0,i,none⟩=some (.int .i64 (x:Nat)):=fun W hW=>hW.aa cI;obtain⟨j,hj⟩:∃ j,Hid (aGo p i l=j):=⟨_,rfl⟩;have an:j<N:=by rw [← hj.out,J.out];exact zeq hp (by rw [← J.out];exact hlt) hl
   have ax:(j:Int)<(N:Int):=oM;obtain⟨v,H⟩:∃ v,Hid (O.getD j 0=v):=⟨_,rfl⟩;obtain⟨y,hy⟩:∃ y,Hid (mset s x l=y):=⟨_,rfl⟩;obtain⟨u,hu⟩:∃ u,Hid (v|||y=u):=⟨_,rfl⟩;have aB:v<65536:=by rw [← H.out];exact zbW hO.out.lt j
   have aC:y<65536:=by rw [← hy.out];exact mset_lt D X l
   have ao:=zbn (a:=v) (b:=y) tM tM;rw [hu.out] at ao;have CJ:∀ W,Ext wr W->W.cell? ⟨r,j,none⟩=some (.int .i64 (v:Nat)):=fun W hW=>hW.aa (H.out ▸ zdj f an);have FJ:∀ W,Ext wr W->W.frozen? ⟨r,j,none⟩=false:=fun W hW=>(zh f hW).frozenAt j;have g:=hO.out.step D hp J.out HT.out.2.1 hlt hl;rw [hj.out,H.out,hx.out,hy.out,hu.out] at g;have o:=za g;have M:=za (fun W (hW:Ext wr W)=>((zh f hW).stored j (.int .i64 (u:Nat))).1);have aJ:=dB wr;clear g k1 cI;cases hb:al.testBit l
   ·have Hb:=za hb;have I:x=y:=by rw [← hy.out];unfold mset;rw [U.out,hb];rfl
    subst I;clear hb;go_wp2_with (first
     |(go_at_call 143;refine (zav al l tM _ oM).mono ?_;rw [Hb.out];rintro e w' ⟨rfl,rfl⟩)
     |(go_at_call 225;refine (zdW (HP.out _ h) hp (by rw [← J.out];exact hlt) hl).mono ?_;rw [hj.out];rintro e w4 ⟨rfl,E⟩))
    have z:=M.out w4 E;rw [← zhk] at z;go_roundw
    case rel=>exact⟨i+1,O.set j u,gM,oM,o,z,(t.ext E).trans (dF _ r j _)⟩
    case measure=>simp [intOf];omega
   ·have Hb:=za hb;have I:Hid (zbO s.edges x (l:Int)=y):=by unfold Hid;rw [← hy.out];unfold mset;rw [U.out,hb];rfl
    clear hb;go_wp2_with (first
     |(go_at_call 143;refine (zav al l tM _ oM).mono ?_;rw [Hb.out];rintro e w' ⟨rfl,rfl⟩)
     |(go_at_call 224;rw [← C.out];refine (zfA (c:=c) (k0:=s.st.toNat) (HS.out _ h) D.2.2.1 (oH D.2.1) tM).mono ?_;rw [I.out];rintro e w3 ⟨rfl,Y⟩;have Z:=h.trans Y)
     |(go_at_call 225;refine (zdW (HP.out _ Z) hp (by rw [← J.out];exact hlt) hl).mono ?_;rw [hj.out];rintro e w4 ⟨rfl,E⟩;have F:=Y.trans E))
    have z:=M.out w4 F;rw [← zhk] at z;go_roundw
    case rel=>exact⟨i+1,O.set j u,gM,oM,o,z,(t.ext F).trans (dF _ r j _)⟩
    case measure=>simp [intOf];omega
  ·obtain rfl:i=N:=oM;have au:=hO.out.fin HT.out;go_wp2_with fail
   refine (zgM (c:=c) (d:=d) (d':=d') (HS.out _ h) (HP.out _ h) hv hp hL J.out oM f au).mono ?_;rintro e w4 ⟨T',rfl,G,ak,R⟩;go_wp2_with fail
   go_ret;exact⟨T',r,i,rfl,zq G oM,ak,h.frm R (fun k hk e=>oM)⟩
end
noncomputable def zo (s:Sys) (p:Aut) (L:Nat) (t:ByteArray):Bool:=by
 classical exact inB t L&&decide (SafeW s p L (wl t))
theorem zeI {t:ByteArray}:zo s p L t=true↔inB t L=true∧SafeW s p L (wl t):=by
 unfold zo;simp
section
variable {w:World} {lo hi n c m d m' d' L:Nat} {A B B':Option Addr} {s:Sys} {p:Aut}
theorem spec_l9Bad (hP:zD w lo hi B m B' m' p)(hp:zj p=true)(hN:N=p.next.length)
  (zjX:w.ownsRow b0 3 1 (.slice (some g0) N c0) N (zau T)) :
  Calls Tryz.prog 148 #[.agg #[s.al,s.st,.slice A n c,p.al,.slice B m d,.slice B' m' d',L],.slice (some g0) N c0] w fun e w'=>e=.returned (.bool (badT p T N))∧Ext w w':=by
 have u:1<=N∧N<=12:=by have:=(zl hp).2.1;omega
 have o:m'=N:=by rw [hP.n2,(zl hp).2.2.1,hN]
 have z:=za (fun W (hW:Ext w W) q hq=>zey (q:=q) (hP.ext hW) hq);obtain⟨y,U0⟩:∃ x,Hid (w.alloc (.cells #[s.al,s.st,.slice A n c,p.al,.slice B m d,.slice B' m' d',L] 70)=x):=⟨_,za rfl⟩;have b:Ext w y:=((dB _).alloc _).trans (Ext.eq_ U0.out);have C:=eJ U0.out;subst o;clear hP hN
 go_enter Tryz.func148,Tryz.ntmps148
 go_upto_region 1 with fail
 rw [U0.out] at *;have I:=C.cell;go_wp2_with fail
 go_loop [5] (fun iv=>∃ i:Nat,iv=.int .i64 i∧i<=m'∧Hid (∀ j,j<i->T.getD j 0=0∨zcG p j=true)) (fun iv=>m' - (intOf iv).toNat)
 case atStart=>exact⟨0,rfl,dG _,za (fun j h=>oM)⟩
 case round =>
  obtain⟨i,rfl,hi,a⟩:=hrel
  by_cases hlt:i<m'
  ·have v:(i:Int)<(m':Int):=oM;obtain⟨H,rfl,t⟩:=z.out y b i hlt;have D:=zdj (zh zjX b) hlt;obtain⟨x,r⟩:∃ x,Hid (T.getD i 0=x):=⟨_,rfl⟩;rw [r.out] at D
   by_cases h0:x=0
   ·subst h0;go_wp2_with fail
    go_round
    case rel=>exact⟨i+1,gM,oM,za (fun j hj=>by
     rcases eU (fK hj) with g|rfl
     ·exact a.out j g
     ·exact .inl r.out)⟩
    case measure=>simp [intOf];omega
   ·have G:((x:Int) != 0)=true:=by simp;omega
    cases zjY:zcG p i
    ·have l:=za (show badT p T m'=true from zjf.2 ⟨i,hlt,by rw [r.out];exact h0,zjY⟩);rw [zjY] at t;clear zjY h0;go_wp2_with fail
     go_ret;exact⟨zm (by rw [l.out]),b⟩
    ·have f:=za zjY;rw [zjY] at t;clear zjY h0;go_wp2_with fail
     go_round
     case rel=>exact⟨i+1,gM,oM,za (fun j hj=>by
      rcases eU (fK hj) with g|rfl
      ·exact a.out j g
      ·exact .inr f.out)⟩
     case measure=>simp [intOf];omega
  ·obtain rfl:i=m':=oM;have l:=za (show badT p T i=false by
    rw [fI];intro h;obtain⟨j,g,E,F⟩:=zjf.1 h;rcases a.out j g with k|k
    ·exact E k
    ·rw [F] at k;cases k)
   go_wp2_with fail
   go_ret;exact⟨zm (by rw [l.out]),b⟩
theorem zfn (hS:zQ w lo hi A n s)(hP:zD w lo hi B m B' m' p)(hv:zk s=true)(hp:zj p=true)(hL:L<64) :
  Calls Tryz.prog 145 #[.agg #[s.al,s.st,.slice A n c,p.al,.slice B m d,.slice B' m' d',L]] w fun e w'=>e=.returned (.bool true)∧Ext w w':=by
 have j:=za (fun W (hW:Ext w W)=>zan (c:=c) (hS.ext hW));have i:=za (fun W (hW:Ext w W)=>zK _ _ _ _ d _ _ d' _ _ (hP.ext hW));rw [hv] at j;rw [hp] at i;have g:=za (show (decide ((0:Int)<=L∧(L:Int)<=63))=true by simp;omega);clear hS hP hv hp
 go_enter Tryz.func145,Tryz.ntmps145
 go_upto_region 1 with fail
 generalize U0:w.alloc _=o at *;obtain⟨a,k⟩:=gL U0;clear U0;have q:=k.cells;have l:=dB o;go_wp2_with (first
  |(go_at_call 185;refine (j.out _ a).mono (mQ fun r b=>?_))
  |(go_at_call 79;refine (i.out _ (a.trans b)).mono (mQ fun t h=>?_);have f:=b.trans h)
  |(go_at_call 142;refine (zV _ _).mono ?_;rw [g.out];rintro e u ⟨rfl,rfl⟩))
 go_ret;exact⟨rfl,a.trans f⟩
theorem zjg {v:List Nat}(h:zbC T N (PR s p L (v.take k))):badT p T N=true↔Bad s p L (v.take k):=zjf.trans (stand_bad h).symm
theorem zeh {t:ByteArray}(hS:zQ w lo hi A n s)(hP:zD w lo hi B m B' m' p)(hv:zk s=true)(hp:zj p=true)(hL:L<64)(hhi:hi<=w.heap.size)(ht:t.size<=9223372036854775807) :
  Calls Tryz.prog 62 #[.agg #[s.al,s.st,.slice A n c,p.al,.slice B m d,.slice B' m' d',L],t] w fun e w'=>e=.returned (.bool (zo s p L t))∧Ext w w':=by
 obtain⟨N,hN⟩:∃ N,Hid (N=p.next.length):=⟨_,rfl⟩;have HV:=za (fun W (hW:Ext w W)=>zfn (c:=c) (d:=d) (d':=d') (L:=L) (hS.ext hW) (hP.ext hW) hv hp hL);have X:=za (fun W (hW:Ext w W)=>spec_l9Start (c:=c) (d:=d) (d':=d') (L:=L) (N:=N) (hS.ext hW) (hP.ext hW) hv hp hL (eB hhi hW.size) hN.out);have U:=za (fun (g0 D c0:Nat) (T:List Nat) W (hW:Ext w W) (ho:W.ownsRow D 3 1 (.slice (some g0) N c0) N (zau T))=>spec_l9Bad (A:=A) (n:=n) (c:=c) (d:=d) (d':=d') (L:=L) (s:=s) (hP.ext hW) hp hN.out ho);have HM:=za (fun (l g0 D c0:Nat) (T:List Nat) (Q:Nat->Nat->Prop) W (hW:Ext w W) (M:l<6) (ho:W.ownsRow D 3 1 (.slice (some g0) N c0) N (zau T)) (y:zbC T N Q)=>spec_l9Move (c:=c) (d:=d) (d':=d') (L:=L) (hS.ext hW) (hP.ext hW) hv hp hL (eB hhi hW.size) hN.out M ho y);have a:Ext w (w.alloc (.cells #[s.al,s.st,.slice A n c,p.al,.slice B m d,.slice B' m' d',L] 70)):=(dB _).alloc _;have b1:=eM w 70 #[s.al,s.st,.slice A n c,p.al,.slice B m d,.slice B' m' d',L];clear hS hP;cases hin:inB t L
 ·have x:=za hin;have u:=za (show zo s p L t=false by rw [fI];intro h;have:=(zeI.1 h).1;rw [hin] at this;cases this);clear hin
  go_enter Tryz.func62,Tryz.ntmps62
  go_upto_region 1 with fail
  generalize w.alloc _=S at *;have CB:=b1.cells;have ag:=dB S;go_wp2_with (first
   |(go_at_call 145;refine (HV.out _ a).mono (mQ fun w2 q=>?_))
   |(go_at_call 146;refine (zai ht oM).mono ?_;rw [x.out];rintro e w3 ⟨rfl,rfl⟩))
  go_ret;exact⟨zm (by rw [u.out]),a.trans q⟩
 ·have x:=za hin;have Z:=za (fun k hk=>zaE (zaz hin) (k:=k) hk);clear hin
  go_enter Tryz.func62,Tryz.ntmps62
  go_upto_region 1 with fail
  generalize w.alloc _=S at *;have CB:=b1.cells;have ag:=dB S;go_wp2_with (first
   |(go_at_call 145;refine (HV.out _ a).mono (mQ fun w2 q=>?_))
   |(go_at_call 146;refine (zai ht oM).mono ?_;rw [x.out];rintro e w3 ⟨rfl,rfl⟩)
   |(go_at_call 147;refine (X.out _ (a.trans q)).mono ?_;rintro e w4 ⟨T,g,H,rfl,f,y,R⟩;have C:=q.trans R))
  go_loopw [5,6] (fun v iv wr=>∃ (k g D H:Nat) (T:List Nat),iv=.int .i64 k∧k<=t.size∧v=.slice (some g) N H∧wr.ownsRow D 3 1 (.slice (some g) N H) N (zau T)∧Hid (zbC T N (PR s p L ((wl t).take k)))∧Hid (∀ j,j<k->¬ Bad s p L ((wl t).take j))∧Ext S wr) (fun _ iv _=>t.size - (intOf iv).toNat)
  case atStart=>exact⟨0,g,_,H,T,rfl,dG _,rfl,f,za (by simpa using y),za (fun j h=>oM),C⟩
  case round =>
   clear f y q R C;obtain⟨k,g,D,H,T,rfl,hk,rfl,f,y,o,b⟩:=hrel
   by_cases hlt:k<t.size
   ·have am:(k:Int)<(t.size:Int):=oM;obtain⟨l,M⟩:∃ l:Nat,Hid ((t[k].toNat:Int) - 97=l):=⟨t[k].toNat - 97,by unfold Hid;have:=Z.out k hlt;omega⟩;have ad:l<6:=by have:=M.out;have:=Z.out k hlt;omega
    have af:=za (show (wl t).take (k+1)=(wl t).take k++[l] by rw [eA,zdm hlt,eS,show t[k].toNat - 97=l by have:=M.out;have:=Z.out k hlt;omega]);cases hbad:badT p T N
    ·have i:=za hbad;have ae:=za (show ¬ Bad s p L ((wl t).take k) by rw [← zjg y.out,hbad];decide);clear hbad;go_wp2_with (first|(go_at_call 148;refine (U.out _ _ _ _ _ (a.trans b) f).mono ?_;rw [i.out];rintro e w5 ⟨rfl,z⟩;have r:=b.trans z))
     have I:=za (fun W (hW:Ext wr W)=>HM.out l g D H T _ W ((a.trans b).trans hW) ad (zh f hW) y.out);have V:=fun W (hW:Ext wr W)=>CB W (b.trans hW)
     go_region_held3 (fun W=>Ext wr W) (first|assumption|(refine fQ ?_;assumption)|(refine eX ?_ aM;assumption)|(refine eX ?_ aM;refine fQ ?_;assumption)) (first
      |(go_at_call 144;refine (zbx t k hlt _).mono ?_;rw [M.out];rintro e w6 ⟨rfl,rfl⟩)
      |(go_at_call 149;refine (I.out _ ?_).mono ?_;(first|assumption|(refine fQ ?_;assumption));rintro e w7 ⟨T7,g7,c7,rfl,F,E,av⟩))
     have O:Ext S w7:=b.trans aM;rw [← PR_snoc,← af.out] at E;have Y:=za E;clear E I V;go_wp2_with fail
     go_roundw
     case rel=>exact⟨k+1,g7,_,c7,T7,gM,oM,rfl,F,Y,za (fun j hj=>by
      rcases eU (fK hj) with h1|rfl
      ·exact o.out j h1
      ·exact ae.out),O⟩
     case measure=>simp [intOf];omega
    ·have i:=za hbad;have u:=za (show zo s p L t=false by
      rw [fI];intro h;exact (zeI.1 h).2 k (by rw [zeu];omega) ((zjg y.out).1 hbad))
     clear hbad;go_wp2_with (first
      |(go_at_call 148;with_reducible refine (U.out _ _ _ _ _ (a.trans b) f).mono ?_;rw [i.out];rintro e w5 ⟨rfl,z⟩;have r:=b.trans z)
      |(go_at_call 148;refine (U.out _ _ _ _ _ (a.trans r) (zh f z)).mono ?_;rw [i.out];rintro e w6 ⟨rfl,G⟩))
     go_ret;exact⟨zm (by rw [u.out]),a.trans (r.trans G)⟩
   ·have J:k=t.size:=oM;have au:(t.size:Int)<=(k:Int):=oM;have u:=za (show zo s p L t=!badT p T N by
     rw [Bool.eq_iff_iff,zeI,iK,← Bool.not_eq_true,zjg y.out];constructor
     ·intro h;exact h.2 k (by rw [zeu];omega)
     ·intro h;refine⟨x.out,fun j hj=>?_⟩;rw [zeu] at hj;rcases eU hj with h1|rfl
      ·exact o.out j oM
      ·rw [J] at h;exact h)
    clear J hlt hk;go_wp2_with (first
     |(go_at_call 148;refine (U.out _ _ _ _ _ (a.trans b) f).mono (mQ fun w6 G=>?_)))
    go_ret;exact⟨zm (by rw [u.out]),a.trans (b.trans G)⟩
end
def RetNumS (w:World) (e:Ending) (w':World):Prop:=∃ (n:Int) (ok:Bool),e=.returned (.tuple #[n,.bool ok])∧w=w'
theorem zej {s:ByteArray} (hs:s.size<=1000000) :
  Calls Tryz.prog 258 #[s] w (RetNumS w):=by
 by_cases h0:s.size=0
 ·have c:¬ 0<s.size:=oM
  go_enter Tryz.func258,Tryz.ntmps258
  go_wp2;go_ret2;exact⟨0,false,rfl,rfl⟩
 have c:0<s.size:=oM;cases hm:((s[0].toNat:Int)==45)
 ·have m:0<s.size:=c
  by_cases z0:s.size=0
  ·go_enter Tryz.func258,Tryz.ntmps258
   go_wp2;go_ret2;exact⟨0,false,rfl,rfl⟩
  have q:0<s.size:=oM;have f:((s.size:Int)==0)=false:=by rw [beq_eq_false_iff_ne];omega
  by_cases z2:17<s.size
  ·have a:(17:Int)<(s.size:Int):=oM
   go_enter Tryz.func258,Tryz.ntmps258
   go_wp2;go_ret2;exact⟨0,false,rfl,rfl⟩
  have a:(s.size:Int)<=17:=oM;cases z3:((s[0].toNat:Int)==48)
  ·go_enter Tryz.func258,Tryz.ntmps258
   go_wp2_with fail
   go_loop [5,6] (fun v i=>∃ (k:Nat) (n:Int),k<=s.size∧i=.int .i64 k∧v=.int .i64 n) (fun _ i=>s.size - (intOf i).toNat)
   case atStart=>exact⟨0,0,dG _,rfl,rfl⟩
   case round =>
    obtain⟨k,n,h,rfl,rfl⟩:=hrel
    by_cases hlt:k<s.size
    ·have g:=zcQ s k hlt
     by_cases c0:(s[k].toNat:Int)<48
     ·go_wp2_with fail
      go_ret2;exact⟨0,false,rfl,rfl⟩
     ·by_cases c1:57<(s[k].toNat:Int)
      ·go_wp2_with fail
       go_ret2;exact⟨0,false,rfl,rfl⟩
      ·go_wp2_with fail
       go_round
       case rel=>exact⟨k+1,_,oM,gM,rfl⟩
       case measure=>simp [intOf];omega
    ·obtain rfl:k=s.size:=oM;go_wp2_with fail
     go_ret2;exact⟨_,true,rfl,rfl⟩
  ·by_cases z4:1<s.size
   ·have b:(1:Int)<(s.size:Int):=oM
    go_enter Tryz.func258,Tryz.ntmps258
    go_wp2;go_ret2;exact⟨0,false,rfl,rfl⟩
   ·have b:(s.size:Int)<=1:=oM
    go_enter Tryz.func258,Tryz.ntmps258
    go_wp2_with fail
    go_loop [5,6] (fun v i=>∃ (k:Nat) (n:Int),k<=s.size∧i=.int .i64 k∧v=.int .i64 n) (fun _ i=>s.size - (intOf i).toNat)
    case atStart=>exact⟨0,0,dG _,rfl,rfl⟩
    case round =>
     obtain⟨k,n,h,rfl,rfl⟩:=hrel
     by_cases hlt:k<s.size
     ·have g:=zcQ s k hlt
      by_cases c0:(s[k].toNat:Int)<48
      ·go_wp2_with fail
       go_ret2;exact⟨0,false,rfl,rfl⟩
      ·by_cases c1:57<(s[k].toNat:Int)
       ·go_wp2_with fail
        go_ret2;exact⟨0,false,rfl,rfl⟩
       ·go_wp2_with fail
        go_round
        case rel=>exact⟨k+1,_,oM,gM,rfl⟩
        case measure=>simp [intOf];omega
     ·obtain rfl:k=s.size:=oM;go_wp2_with fail
      go_ret2;exact⟨_,true,rfl,rfl⟩
 ·obtain⟨y,o⟩:∃ y,s.extract 1 s.size=y:=⟨_,rfl⟩;have d:y.size=s.size - 1:=by rw [← o,ByteArray.size_extract];omega
  have p:y.size<=1000000:=oM;have j:=za d;clear d;have l:(1:Int)<=(s.size:Int):=oM
  by_cases z0:y.size=0
  ·go_enter Tryz.func258,Tryz.ntmps258
   go_wp2;go_ret2;exact⟨0,false,rfl,rfl⟩
  have q:0<y.size:=oM;have f:((y.size:Int)==0)=false:=by rw [beq_eq_false_iff_ne];omega
  by_cases z2:17<y.size
  ·have a:(17:Int)<(y.size:Int):=oM
   go_enter Tryz.func258,Tryz.ntmps258
   go_wp2;go_ret2;exact⟨0,false,rfl,rfl⟩
  have a:(y.size:Int)<=17:=oM;cases z3:((y[0].toNat:Int)==48)
  ·go_enter Tryz.func258,Tryz.ntmps258
   go_wp2_with fail
   go_loop [5,6] (fun v i=>∃ (k:Nat) (n:Int),k<=y.size∧i=.int .i64 k∧v=.int .i64 n) (fun _ i=>y.size - (intOf i).toNat)
   case atStart=>exact⟨0,0,dG _,rfl,rfl⟩
   case round =>
    obtain⟨k,n,h,rfl,rfl⟩:=hrel
    by_cases hlt:k<y.size
    ·have g:=zcQ y k hlt
     by_cases c0:(y[k].toNat:Int)<48
     ·go_wp2_with fail
      go_ret2;exact⟨0,false,rfl,rfl⟩
     ·by_cases c1:57<(y[k].toNat:Int)
      ·go_wp2_with fail
       go_ret2;exact⟨0,false,rfl,rfl⟩
      ·go_wp2_with fail
       go_round
       case rel=>exact⟨k+1,_,oM,gM,rfl⟩
       case measure=>simp [intOf];omega
    ·obtain rfl:k=y.size:=oM;go_wp2_with fail
     go_ret2;exact⟨_,true,rfl,rfl⟩
  ·by_cases z4:1<y.size
   ·have b:(1:Int)<(y.size:Int):=oM
    go_enter Tryz.func258,Tryz.ntmps258
    go_wp2;go_ret2;exact⟨0,false,rfl,rfl⟩
   ·have b:(y.size:Int)<=1:=oM
    go_enter Tryz.func258,Tryz.ntmps258
    go_wp2;go_ret2;exact⟨0,false,rfl,rfl⟩
theorem zt:(Tryz.prog.info? 9).map (fun i=>(i.zero,i.size,i.bytes))=some (some (.string ⟨#[]⟩),1,16):=kM
def RetStrs (L N:Nat) (w:World) (e:Ending) (w':World):Prop:=∃ (A:Option Addr) (n c:Nat) (l:List ByteArray),e=.returned (.slice A n c)∧n=l.length∧w'.ownsRow w.heap.size 9 1 (.slice A n c) n (zO l)∧(∀ x∈l,x.size<=L)∧n<=N∧Ext w w'
theorem zcK (x:ByteArray):∀ u∈(#[Value.string x]:Array Value).toList,u.oneCell'=true:=by simp [Value.oneCell']
theorem spec_l19Cut {s:ByteArray} (hs:s.size<=1000000) :
  Calls Tryz.prog 250 #[s,.int .u8 32] w (RetStrs s.size (s.size+1) w):=by
 go_enter Tryz.func250,Tryz.ntmps250
 go_wp2_with fail
 go_loopw [5,6,7] (fun v f i wr=>∃ (k m:Nat) (l:List ByteArray),k<=s.size+1∧i=.int .i64 k∧m<=k∧f=.int .i64 m∧l.length<=k∧wr.ownsRow w.heap.size 9 1 v l.length (zO l)∧Hid (∀ x∈l,x.size<=s.size)∧Ext w wr) (fun _ _ i _=>s.size+1 - (intOf i).toNat)
 case atStart=>exact⟨0,0,[],dG _,rfl,dD _,rfl,dD _,World.ownsRow_lit w #[] 0 (dD _) lM rfl,(fun x hx=>by cases hx),(dB _).alloc _⟩
 case round =>
  obtain⟨k,m,l,u,rfl,z,rfl,y,a,g,b⟩:=hrel
  by_cases hle:k<=s.size
  ·have p:(k:Int)<=(s.size:Int):=oM;have q:(m:Int)<=(k:Int):=oM;have n:=za (show (s.extract m k).size<=s.size by rw [ByteArray.size_extract];omega);have d:=za (show ∀ x∈l++[s.extract m k],x.size<=s.size from fun x hx=>by
    rcases List.mem_append.1 hx with h|h
    ·exact g.out x h
    ·rw [List.mem_singleton.1 h];exact n.out)
   by_cases he:k=s.size
   ·have j:((k:Int)==(s.size:Int))=true:=by simp [he]
    have r:=za he;clear he;go_wp2_with (at_builtin;refine zU w wr rfl _ _ _ rfl 9 _ 1 16 Tryz.underlying88 zt rfl dM u5 _ _ _ _ rfl rfl b a rfl (zcK _) lM oM ?_;intro v' w1 hext1 zkg hg1 hat1)
    go_roundw
    case rel=>exact⟨k+1,k+1,l++[s.extract m k],oM,gM,oM,gM,by simp;omega,by simpa [zO] using zkg,d.out,aM⟩
    case measure=>simp [intOf];omega
   ·have j:((k:Int)==(s.size:Int))=false:=by rw [beq_eq_false_iff_ne];omega
    have o:k<s.size:=oM;have t:=zcQ s k o;cases hc:((s[k].toNat:Int)==32)
    ·go_wp2_with fail
     go_roundw
     case rel=>exact⟨k+1,m,l,oM,gM,oM,rfl,oM,a,g,b⟩
     case measure=>simp [intOf];omega
    ·go_wp2_with (at_builtin;refine zU w wr rfl _ _ _ rfl 9 _ 1 16 Tryz.underlying88 zt rfl dM u5 _ _ _ _ rfl rfl b a rfl (zcK _) lM oM ?_;intro v' w1 hext1 zkg hg1 hat1)
     go_roundw
     case rel=>exact⟨k+1,k+1,l++[s.extract m k],oM,gM,oM,gM,by simp;omega,by simpa [zO] using zkg,d.out,aM⟩
     case measure=>simp [intOf];omega
  ·obtain rfl:k=s.size+1:=oM;obtain⟨A,c,rfl⟩:=zi a;go_wp2_with fail
   go_ret;exact⟨A,_,c,l,rfl,rfl,a,g.out,oM,b⟩
def RetEdgeS (w:World) (e:Ending) (w':World):Prop:=∃ (x:Edg) (ok:Bool),e=.returned (.tuple #[.agg #[x.fr,x.le,x.ta],.bool ok])∧Ext w w'
theorem spec_l2Parse {s:ByteArray} (hs:s.size<=1000000) :
  Calls Tryz.prog 259 #[s] w (RetEdgeS w):=by
 go_enter Tryz.func259,Tryz.ntmps259
 go_wp2_with fail
 generalize U0:w.alloc _=r at *;have c:=Ext.al_ U0;have b:=eJ U0;clear U0
 go_loop [4] (fun i=>∃ k:Nat,k<=s.size∧i=.int .i64 k) (fun i=>s.size - (intOf i).toNat)
 case atStart=>exact⟨0,dG _,rfl⟩
 case round =>
  obtain⟨k,x,rfl⟩:=hrel;have j:=b.cell;have t:=b.frozen
  by_cases hlt:k<s.size
  ·have u:=zcQ s k hlt
   by_cases c0:(97:Int)<=(s[k].toNat:Int)
   ·by_cases c1:(s[k].toNat:Int)<=102
    ·have l:=za (show (s.extract 0 k).size<=1000000 by rw [ByteArray.size_extract];omega);have m:=za (show (s.extract (k+1) s.size).size<=1000000 by rw [ByteArray.size_extract];omega);have q:(k:Int)+1<=(s.size:Int):=oM;go_wp2_with fail
     refine (zej l.out).mono ?_;rintro e o ⟨g,n,rfl,rfl⟩;go_wp2_with fail
     refine (zej m.out).mono ?_;rintro e o ⟨h,d,rfl,rfl⟩;go_wp2_with fail
     refine (zbx s k hlt _).mono ?_;rintro e o ⟨rfl,rfl⟩;have f:∀ u0 u1 u2,Ext w (((r.setCell w.heap.size u0).setCell ⟨w.heap.size,1,none⟩ u1).setCell ⟨w.heap.size,2,none⟩ u2):=fun u0 u1 u2=>((c.setCell (dD _) u0).setCell (dD _) u1).setCell (dD _) u2;have a:=za f;clear f;cases n
     ·go_wp2_with fail
      exact bodyPost_ret (v:=.tuple #[.agg #[g,.int .i64 ((s[k].toNat:Int) - 97),h],.bool false]) (by simp [results,Tryz.results259,go_sem,j]) rfl ⟨⟨g,(s[k].toNat:Int) - 97,h⟩,false,rfl,a.out _ _ _⟩
     ·go_wp2_with fail
      exact bodyPost_ret (v:=.tuple #[.agg #[g,.int .i64 ((s[k].toNat:Int) - 97),h],.bool d]) (by simp [results,Tryz.results259,go_sem,j]) rfl ⟨⟨g,(s[k].toNat:Int) - 97,h⟩,d,rfl,a.out _ _ _⟩
    ·go_wp2_with fail
     go_round
     case rel=>exact⟨k+1,oM,gM⟩
     case measure=>simp [intOf];omega
   ·go_wp2_with fail
    go_round
    case rel=>exact⟨k+1,oM,gM⟩
    case measure=>simp [intOf];omega
  ·obtain rfl:k=s.size:=oM;go_wp2_with fail
   refine bodyPost_ret (v:=.tuple #[.agg #[(0:Int),(0:Int),(0:Int)],.bool false]) (by simp [results,Tryz.results259,go_sem,j]) rfl ⟨⟨0,0,0⟩,false,rfl,?_⟩;exact ((c.setCell (p:=⟨w.heap.size,0,none⟩) (dD _) _).setCell (p:=⟨w.heap.size,1,none⟩) (dD _) _).setCell (p:=⟨w.heap.size,2,none⟩) (dD _) _
def RetFmt (s:Sys) (w:World) (e:Ending) (w':World):Prop:=∃ t:ByteArray,e=.returned (.string t)∧(zk s=false->t.size=0)∧Ext w w'
theorem valid_al (h:zk s=true):∃ a:Nat,s.al=a∧a<64:=by
 simp only [zk,dH,decide_eq_true_eq] at h;exact⟨s.al.toNat,oM,oM⟩
theorem zgz (h:zQ w lo hi A n s)(hn:n<=1000000) :
  Calls Tryz.prog 260 #[.agg #[s.al,s.st,.slice A n c]] w (RetFmt s w):=by
 have R:=za (fun W (hW:Ext w W)=>h.ext hW);clear h;cases h1:zk s
 ·have L:=za h1;clear h1
  go_enter Tryz.func260,Tryz.ntmps260
  go_wp2_with (go_at_call 185;refine (zan (R.out _ ((dB _).alloc _))).mono ?_;rw [L.out];rintro e Q ⟨rfl,M⟩)
  go_ret;exact⟨_,rfl,fun _=>rfl,((dB _).alloc _).trans M⟩
 ·obtain⟨p,hp,aw,ax,hf⟩:=zcs h1;obtain⟨a,ha,S⟩:=valid_al h1;have L:=za h1;have Hf:=za hf;have Hp:=za hp;have Ha:=za ha;clear h1 hf hp ha
  go_enter Tryz.func260,Tryz.ntmps260
  go_wp2_with fail
  refine (zan (R.out _ ((dB _).alloc _))).mono ?_;rw [L.out];rintro e Q ⟨rfl,M⟩;have b1:=zcI M;rw [Ha.out,Hp.out] at b1;have G:=((dB w).alloc _).trans M;have cb:=b1.cells;go_wp2_with fail
  refine tR (fun X=>Ext Q X) [] (Ord.of [0,1,4,5,2,3,6,7,8]) ?_;refine tQ ?_;refine zM fun K hK=>?_;go_simp;refine (zca S).mono ?_;rintro e w2 ⟨j,rfl,C,m⟩;have f:=((dB Q).drew).trans m;have q1:¬ 9223372036854775807<j.size+1:=oM;refine hK.out _ _ f ?_;refine pT ?_;refine tQ ?_;refine zM fun K hK=>?_;go_simp;refine (zei (n:=p) oM).mono ?_;rintro e w3 ⟨y,rfl,D,q⟩;have g:=f.trans q;have q2:¬ 9223372036854775807<j.size+1+y.size:=oM;refine hK.out _ _ g ?_;refine pT ?_;refine tQ ?_;refine zaG ?_;obtain⟨O,z⟩:∃ O:ByteArray,O=j++{ data:=#[32] }++y:=⟨_,rfl⟩;have B:O.size<=20:=by rw [z,ByteArray.size_append,ByteArray.size_append];show j.size+1+y.size<=20;omega
  rw [← z];clear z q1 q2 C D m q f;have d:=g;go_wp2_with fail
  go_loopw [3,4] (fun v i wr=>∃ (k:Nat) (t:ByteArray),k<=n∧i=.int .i64 k∧v=.string t∧t.size<=20+20*k∧Ext Q wr) (fun _ i _=>n - (intOf i).toNat)
  case atStart=>exact⟨0,O,dG _,rfl,rfl,B,d⟩
  case round =>
   clear d g B;obtain⟨k,t,hk,rfl,rfl,ht,r⟩:=hrel;have aq:=cb wr r
   by_cases hlt:k<n
   ·obtain⟨b,o,x,rfl,_,_,V,c0,c1,c2⟩:=(R.out wr (G.trans r)).2.edge hlt;obtain⟨⟨f0,f1⟩,⟨g0,g1⟩,⟨t0,t1⟩⟩:=Hf.out x (dC V.out);obtain⟨u,E⟩:∃ u:Nat,x.fr=u:=⟨x.fr.toNat,oM⟩;obtain⟨v,F⟩:∃ v:Nat,x.ta=v:=⟨x.ta.toNat,oM⟩;rw [E] at c0 f0 f1;rw [F] at c2 t0 t1;clear E F;go_wp2_with fail
    generalize U0:wr.alloc _=wq at *;have Z:=Ext.al_ U0;have T:=eJ U0;clear U0;have cq:=T.cells;have q0:¬ 9223372036854775807<t.size+1:=oM;refine tR (fun X=>Ext wq X) [] (Ord.of [0,1,2,3,6,7,10,11,4,5,8,9,12,13,14]) ?_;refine tQ ?_;refine zM fun K hK=>?_;go_simp;refine (zei (n:=u) oM).mono ?_;rintro e w2 ⟨j,rfl,C,m⟩;have H:=((dB wq).drew).trans m;have q1:¬ 9223372036854775807<t.size+1+j.size:=oM;refine hK.out _ _ H ?_;refine pT ?_;refine tQ ?_;refine zM fun K hK=>?_;go_simp;refine (zhU (l:=x.le) g0 g1).mono ?_;rintro e w3 ⟨y,rfl,D,q⟩;have I:=H.trans q;have q2:¬ 9223372036854775807<t.size+1+j.size+y.size:=oM;refine hK.out _ _ I ?_;refine pT ?_;refine tQ ?_;refine zM fun K hK=>?_;go_simp;refine (zei (n:=v) oM).mono ?_;rintro e w5 ⟨t5,rfl,ay,Y⟩;have J:=I.trans Y;have q3:¬ 9223372036854775807<t.size+1+j.size+y.size+t5.size:=oM;refine hK.out _ _ J ?_;refine pT ?_;refine tQ ?_;refine zaG ?_;have U:(t++{ data:=#[32] }++j++y++t5).size<=20+20*(k+1):=by
     simp only [ByteArray.size_append];show t.size+1+j.size+y.size+t5.size<=_;omega
    clear q0 q1 q2 q3;go_wp2_with fail
    go_roundw
    case rel=>exact⟨k+1,_,oM,gM,rfl,U,(r.trans Z).trans J⟩
    case measure=>simp [intOf];omega
   ·obtain rfl:n=k:=oM;go_wp2_with fail
    go_ret;have hv:=L.out;exact⟨t,rfl,fun h=>absurd (hv.symm.trans h) dM,G.trans r⟩
def Good (s:Sys):Prop:=∃ a p:Nat,s.al=a∧a<64∧s.st=p∧1<=p∧p<=16∧Few p s.edges
def zcJ (w:World) (R:Nat) (A:Option Addr) (n:Nat) (s:Sys):Prop:=
 n=s.edges.length∧n<=9223372036854775807∧(0<n->∃ (g o:Nat) (cs:Array Value),A=some ⟨g,o,none⟩∧R<g∧w.heap[g]?=some (.cells cs 117 (0,0))∧∀ j u,(zw s.edges)[j]?=some u->w.cell? ⟨g,o+j,none⟩=some u)
theorem zcJ.at_ (h:zcJ w R A n s):zQ w (R+1) w.heap.size A n s:=by
 refine⟨h.1,by rw [zbj,← h.1],h.2.1,fun h0=>?_⟩;obtain⟨g,o,d,e,a,c,b⟩:=h.2.2 h0;exact⟨⟨g,o,none⟩,e,a,(Array.getElem?_eq_some_iff.1 c).1,fun j u hu=>by rw [zW];exact b j u hu⟩
theorem zcJ.frm {S:Nat->Prop}    (h:zcJ w R A n s)(hb:Frm S w w')(hS:∀ k,S k->R<k->∀ cs,w.heap[k]?≠some (.cells cs 117 (0,0))):zcJ w' R A n s:=by
 refine⟨h.1,h.2.1,fun h0=>?_⟩;obtain⟨g,o,cs,e,c,b,f⟩:=h.2.2 h0;have a:=(Array.getElem?_eq_some_iff.1 b).1;have d:¬ S g:=fun hs=>hS g hs c cs b;exact⟨g,o,cs,e,c,(hb.block g a d).trans b,fun j u hu=>(World.cell?_of_block (w:=w) (hb.block g a d)).trans (f j u hu)⟩
theorem zcJ.ext (h:zcJ w R A n s)(hb:Ext w w'):zcJ w' R A n s:=h.frm (S:=fun _=>False) hb (fun _ hk=>hk.elim)
theorem zcJ.dr (h:zcJ w R A n s)(hb:Dr R w w'):zcJ w' R A n s:=h.frm hb (fun k hk hR=>oM)
theorem zcJ.far (h:zcJ w R A n s)(hB:Blk w Z t cs)(ht:t≠117)(hb:Frm (fun k=>k=Z) w w'):zcJ w' R A n s:=h.frm hb (fun k hk _ cs' hh=>by
 subst hk
 unfold Blk at hB
 rw [hB] at hh
 injection hh with hh
 injection hh with _ h2
 exact ht h2)
theorem zcJ.own (h:w.ownsRow base 117 3 (.slice A n c) n (zw s.edges))(hR:R<base):zcJ w R A n s:=by
 have i:n=s.edges.length:=by have:=h.1;rw [zbj] at this;omega
 refine⟨i,(eO h).len,fun h0=>?_⟩;rcases h.2 with ⟨_,l⟩|⟨g,b,a,k,m,f,_⟩
 ·omega
 ·have d:A=some ⟨g,0,none⟩:=by injection k
  subst d;exact⟨g,0,a,rfl,oM,f,fun j u hu=>by
   have:=h.cells (g:=g) rfl j u hu;rwa [zW] at this⟩
theorem zjB {e:TypeId}   (h:w.ownsRow base e size (.slice A n c) n xs):n<=c:=by
 rcases h.2 with ⟨a,i⟩|⟨g,b,d,a,_,_,f,_⟩
 ·omega
 ·injection a with _ _ h3
  omega
def RetG (R M L:Nat) (w:World) (e:Ending) (w':World):Prop:=
 ∃ (s:Sys) (A:Option Addr) (n c:Nat),e=.returned (.agg #[s.al,s.st,.slice A n c])∧zcJ w' R A n s∧Good s∧(n<=L∧n<=c)∧Rd w' R M∧Dr R w w'
def RetA (R M L:Nat) (w:World) (e:Ending) (w':World):Prop:=
 ∃ (s:Sys) (A:Option Addr) (n c:Nat),e=.returned (.agg #[s.al,s.st,.slice A n c])∧zcJ w' R A n s∧(n<=L∧n<=c)∧Rd w' R M∧Dr R w w'
structure Acc (w0 wB W:World) (R G M:Nat) (al st:Int) (v:Value) (es:List Edg):Prop where
 blk:Blk W G 38 #[al,st,v]
 own:W.ownsRow wB.heap.size 117 3 v es.length (zw es)
 rd:Rd W R M
 dr:Dr R w0 W
 fr:Frm (fun k=>k=R∨k=G) wB W
 hR:R<w0.heap.size
 hB:w0.heap.size<=wB.heap.size
 hG:w0.heap.size<=G
section
variable {w0 wB W W':World} {R G M N:Nat} {al st:Int} {v:Value} {es:List Edg}
theorem Acc.more (h:Acc w0 wB W R G M al st v es)(hM:M<=N):Acc w0 wB W R G N al st v es:={ h with rd:=h.rd.more hM }
theorem Acc.ext (h:Acc w0 wB W R G M al st v es)(hb:Ext W W'):Acc w0 wB W' R G M al st v es:=⟨h.blk.ext hb,zh h.own hb,h.rd.ext hb,h.dr.ext hb,h.fr.ext hb,h.hR,h.hB,h.hG⟩
theorem Acc.drawn (h:Acc w0 wB W R G M al st v es)(hb:Dr R W W')(hr:Rd W' R N):Acc w0 wB W' R G N al st v es:=
 ⟨h.blk.dr hb (by have:=h.hR;have:=h.hG;omega),zg h.own hb (fun b hv hS=>by have:=(h.own.lt b hv).1;have:=h.hR;have:=h.hB;omega),hr,h.dr.trans hb,h.fr.trans (hb.mono fun k _ hk=>Or.inl hk),h.hR,h.hB,h.hG⟩
theorem Acc.far (h:Acc w0 wB W R G M al st v es) (hv:v.ownBlock=some b):b≠G:=by
 rintro rfl;have a:=h.blk;rcases h.own.2 with ⟨rfl,_⟩|⟨g,c,d,rfl,_,i,_⟩
 ·simp [Value.ownBlock] at hv
 ·have f:g=b:=by simpa [Value.ownBlock] using hv
  subst f;unfold Blk at a;rw [i] at a;injection a with a
  injection a with _ ht
  exact absurd ht dM
theorem Acc.setAl (h:Acc w0 wB W R G M al st v es) (x:Int):Acc w0 wB (W.setCell G x) R G M x st v es:=
 ⟨by simpa using h.blk.ab 0 _,zg h.own (dF W G 0 _) (fun b hv hS=>h.far hv hS),h.rd.frm (dF W G 0 _) (fun k hk hS=>by have:=h.hR;have:=h.hG;omega),h.dr.ag h.hG _,h.fr.cell (Or.inr rfl) _,h.hR,h.hB,h.hG⟩
theorem Acc.setSt (h:Acc w0 wB W R G M al st v es) (x:Int):Acc w0 wB (W.setCell ⟨G,1,none⟩ x) R G M al x v es:=
 ⟨by simpa using h.blk.ab 1 _,zg h.own (dF W G 1 _) (fun b hv hS=>h.far hv hS),h.rd.frm (dF W G 1 _) (fun k hk hS=>by have:=h.hR;have:=h.hG;omega),h.dr.ag h.hG _,h.fr.cell (Or.inr rfl) _,h.hR,h.hB,h.hG⟩
theorem Acc.push (h:Acc w0 wB W R G M al st v es) (zjX:W'.ownsRow wB.heap.size 117 3 (.slice (some g) (es.length+1) cap) (es.length+1) (zw es++[.int .i64 e.fr,.int .i64 e.le,.int .i64 e.ta]))
  (hg:W.grownBy W' v.ownBlock) (hat:v.ownBlock=some g∨g=W.heap.size+1) :
  Hid (W'.cell? ⟨G,2,none⟩=some v)∧W'.frozen? ⟨G,2,none⟩=false∧Acc w0 wB (W'.setCell ⟨G,2,none⟩ (.slice (some g) (es.length+1) cap)) R G M al st (.slice (some g) (es.length+1) cap) (es++[e]):=by
 have a:Blk W' G 38 #[.int .i64 al,.int .i64 st,v]:=(hg.block G h.blk.lt (fun e=>h.far e.symm rfl)).trans h.blk;have i:g≠G:=by
  rcases hat with c|c
  ·exact h.far c
  ·have:=h.blk.lt;omega
 have d:Dr R w0 W':=h.dr.grown hg (fun k hk=>eB h.hB (h.own.lt k hk).1);have j:Rd W' R M:=h.rd.frm (Frm.ae hg) (fun k hk hS=>by have:=(h.own.lt k hS).1;have:=h.hR;have:=h.hB;omega);have f:Frm (fun k=>k=R∨k=G) wB W':=
  ⟨hg.os.trans h.fr.os,hg.tape.trans h.fr.tape,hg.output.trans h.fr.output,eB h.fr.size hg.size,
   fun k hk hn=>(hg.block k (Nat.lt_of_lt_of_le hk h.fr.size) (fun e=>by have:=(h.own.lt k e.symm).1;omega)).trans (h.fr.block k hk hn)⟩
 refine⟨a.cell 2,a.frozen 2,⟨by simpa using a.ab 2 _,?_,j.frm (dF W' G 2 _) (fun k hk hS=>by have:=h.hR;have:=h.hG;omega),d.ag h.hG _,f.cell (Or.inr rfl) _,h.hR,h.hB,h.hG⟩⟩;have:=zg zjX (dF W' G 2 (.slice (some g) (es.length+1) cap)) (fun b hv hS=>by
  have:g=b:=by simpa [Value.ownBlock] using hv
  omega)
 rw [zcR];simpa [zw] using this
theorem Acc.reads (h:Acc w0 wB W R G M al st (.slice A n c) es):n=es.length∧zQ W wB.heap.size W.heap.size A n ⟨al,st,es⟩:=by
 have a:n=es.length:=by
  rcases h.own.2 with ⟨b,j⟩|⟨g,f,i,b,_⟩
  ·injection b with _ h2 _;omega
  ·injection b
 have d:=h.own;rw [← a] at d;exact⟨a,a,eO d⟩
theorem Acc.form (h:Acc w0 wB W R G M al st v es):∃ A n c,v=.slice A n c:=by
 obtain⟨A,c,e⟩:=zi h.own;exact⟨A,_,c,e⟩
theorem Acc.old (h:Acc w0 wB W R G M al st v es)   (hx:Reads wB lo hi size A n xs)(h1:∀ k,lo<=k->k<hi->k≠R∧k≠G):Reads W lo hi size A n xs:=
 hx.frm h.fr (fun k a b hS=>by have:=h1 k a b;omega)
end
theorem zdp (W:World) (Z:Nat) (u0 u1 u2:Value):Frm (fun k=>k=Z) W (((W.setCell Z u0).setCell ⟨Z,1,none⟩ u1).setCell ⟨Z,2,none⟩ u2):=
 ((dF W Z 0 u0).trans (dF _ Z 1 u1)).trans (dF _ Z 2 u2)
theorem Acc.fin (h:Acc w0 wB W R G M al st (.slice A n c) es)(hZ:w0.heap.size<=Z)(hZ2:Z<wB.heap.size) (u0 u1 u2:Value) :
  zcJ (((W.setCell Z u0).setCell ⟨Z,1,none⟩ u1).setCell ⟨Z,2,none⟩ u2) R A n ⟨al,st,es⟩ ∧
  Rd (((W.setCell Z u0).setCell ⟨Z,1,none⟩ u1).setCell ⟨Z,2,none⟩ u2) R M∧Dr R w0 (((W.setCell Z u0).setCell ⟨Z,1,none⟩ u1).setCell ⟨Z,2,none⟩ u2):=by
 have a:=zdp W Z u0 u1 u2;obtain⟨f,_⟩:=h.reads;have i:=h.hR;have g:=h.hB;have d:=h.own;rw [← f] at d;refine⟨zcJ.own (s:=⟨al,st,es⟩) (zg d a (fun b hv hS=>by have:=(h.own.lt b hv).1;omega)) oM,h.rd.frm a (fun k h1 h2=>oM),?_⟩;exact ((h.dr.ag (p:=⟨Z,0,none⟩) hZ u0).ag (p:=⟨Z,1,none⟩) hZ u1).ag (p:=⟨Z,2,none⟩) hZ u2
theorem zhh {p:Nat}  (h:Few p es)(he:(0<=e.fr∧e.fr<p)∧(0<=e.le∧e.le<6)∧(0<=e.ta∧e.ta<p)):Few p (es++[e]):=fun x hx=>by
 rcases List.mem_append.1 hx with h1|h1
 ·exact h x h1
 ·rw [List.mem_singleton.1 h1];exact he
theorem few_nil (p:Nat):Few p []:=fun x hx=>by cases hx
theorem zjM {a p:Nat} {few:Int} (h:Rd w R M)(hM:M<=900000000)(ha:a<64)(hp1:1<=p)(hp:p<=16) :
  Calls Tryz.prog 207 #[.pointer (some R),a,p,few] w (RetG R (M+20000) 20000 w):=by
 have U:Sm a:=tM;have L:=h.lt
 go_enter Tryz.func207,Tryz.ntmps207
 go_wp2_with fail
 refine (zaj a U _).mono ?_;rintro e t ⟨B,d,rfl,G,z⟩;obtain⟨Y,V⟩:=zJ z;have r:=(((dB w).alloc _).alloc _).trans z;have ar:=zE a 6;have F:=za (fun k (hk:k∈letters a 6)=>(zef.1 hk).1);have s:=(eO G).more (lo':=w.heap.size+2) (hi':=t.heap.size) sM (dD _);have b:Acc w t t R (w.heap.size+1) M a p (.slice none 0 0) []:=⟨V,World.ownsRow_nil _ _ _ _,h.ext r,r.dr,jB _ _,L,r.size,oM⟩;have u:Blk t w.heap.size 38 #[.int .i64 0,.int .i64 0,.slice none 0 0]:=Y;clear G V z Y;generalize letters a 6=C at *;have av:=r.size;go_wp2_with fail
 go_loopw [11] (fun i wr=>∃ k:Nat,k<=p∧i=.int .i64 k∧∃ (v:Value) (m:List Edg),Acc w t wr R (w.heap.size+1) (M+k*1000) a p v m∧m.length<=k*1000∧Hid (Few p m)) (fun i _=>p - (intOf i).toNat)
 case atStart=>exact⟨0,dG _,rfl,_,[],b.more (jY _ _),dG _,few_nil p⟩
 case round =>
  clear b;obtain⟨k,hk,rfl,v,m,b,q,f⟩:=hrel
  by_cases hlt:k<p
  ·go_wp2_with fail
   go_loopw [12] (fun i wr=>∃ j:Nat,j<=C.length∧i=.int .i64 j∧∃ (v:Value) (m:List Edg),Acc w t wr R (w.heap.size+1) (M+k*1000+j*100) a p v m∧m.length<=k*1000+j*100∧Hid (Few p m)) (fun i _=>C.length - (intOf i).toNat)
   case atStart=>exact⟨0,dG _,rfl,v,m,b.more (jY _ _),eB q (jY _ _),f⟩
   case round =>
    clear b q f;obtain⟨j,hj,rfl,v,m,b,q,f⟩:=hrel
    by_cases hlj:j<C.length
    ·go_wp2_with fail
     go_loopw [13] (fun i wr=>∃ x:Nat,x<=p∧i=.int .i64 x∧∃ (v:Value) (m:List Edg),Acc w t wr R (w.heap.size+1) (M+k*1000+j*100+x) a p v m∧m.length<=k*1000+j*100+x∧Hid (Few p m)) (fun i _=>p - (intOf i).toNat)
     case atStart=>exact⟨0,dG _,rfl,v,m,b.more (jY _ _),eB q (jY _ _),f⟩
     case round =>
      clear b q f;obtain⟨x,hx,rfl,v,m,b,q,f⟩:=hrel
      by_cases hlx:x<p
      ·go_wp2_with fail
       refine (zL b.rd oM).mono ?_;rintro e H ⟨y,rfl,_,_,T,Q⟩;have o:=b.drawn Q T;obtain⟨ad,l,rfl,_,O,hl,S⟩:=(o.old s oM).nat hlj;have ah:=F.out l (dC hl.out)
       by_cases hy:y=0
       ·subst hy;have cG:=fun W (hW:Ext H W)=>(o.blk.ext hW).cell;have cL:∀ W,Ext H W->W.cell? (ad.add j)=some (.int .i64 (l:Nat)):=fun W hW=>hW.aa S;have ao:(0:Int)<=(j:Int):=oM;have ap:(j:Int)<(C.length:Int):=oM;go_wp2_with fail
        refine tR (fun X=>Ext H X) [10,12] (Ord.of [0,1,2,3,4,5,6,7,8,9,10,11,12]) ?_;refine tQ ?_;refine zM fun K hK=>?_;go_simp;refine hK.out _ _ ((dB _).drew.alloc _) ?_;refine pT ?_;refine zaa fun K hK=>?_;refine zaN t H.drew _ _ _ rfl 117 _ 3 24 Tryz.underlying36 zbl rfl dM v m.length (zw m) _ _ rfl rfl o.fr.size o.own rfl (by simp [Value.oneCell']) lM oM ?_;intro g cap w3 zki hg3 hat3 hlt3;refine hK.out _ _ ?_;refine pT ?_;refine tQ ?_;obtain⟨h1,h2,h3⟩:=(o.ext ((dB _).drew)).push (e:=⟨k,l,x⟩) (W':=w3) zki hg3 hat3;have am:=h1.out;refine zaa fun K hK=>?_;go_simp;refine hK.out _ _ ?_;refine zaG ?_;go_wp2_with fail
        go_roundw
        case rel=>exact⟨x+1,oM,gM,_,_,h3.more oM,by simp;omega,zhh f.out (by simp;omega)⟩
        case measure=>simp [intOf];omega
       ·have au:((y:Int)==0)=false:=by simp;omega
        go_wp2_with fail
        go_roundw
        case rel=>exact⟨x+1,oM,gM,v,m,o.more oM,oM,f⟩
        case measure=>simp [intOf];omega
      ·obtain rfl:p=x:=oM;have I:m.length<=k*1000+(j+1)*100:=oM;have J:M+k*1000+j*100+p<=M+k*1000+(j+1)*100:=oM;go_wp2_with fail
       go_roundw
       case rel=>exact⟨j+1,oM,gM,v,m,b.more J,I,f⟩
       case measure=>simp [intOf];omega
    ·obtain rfl:j=C.length:=oM;have I:m.length<=(k+1)*1000:=oM;have J:M+k*1000+C.length*100<=M+(k+1)*1000:=oM;go_wp2_with fail
     go_roundw
     case rel=>exact⟨k+1,oM,gM,v,m,b.more J,I,f⟩
     case measure=>simp [intOf];omega
  ·obtain rfl:p=k:=oM;obtain⟨A,n,c,rfl⟩:=b.form;obtain⟨rfl,_⟩:=b.reads;have af:=zjB b.own;have cG:=b.blk.cell;have E:=u.frm b.fr oM;have cz:=E.cell;have aw:=u.lt;have fz:=E.frozen;obtain⟨f1,f2,f3⟩:=b.fin (Z:=w.heap.size) (dD _) oM (.int .i64 a) (.int .i64 p) (.slice A m.length c);have D:=za (show RetG R (M+20000) 20000 w (.returned (.agg #[a,p,.slice A m.length c])) _ from ⟨⟨a,p,m⟩,A,m.length,c,rfl,f1,⟨a,p,rfl,ha,rfl,hp1,hp,f.out⟩,oM,f2.more oM,f3⟩);clear u s F f1 f2 f3;go_wp2_with fail
   exact bodyPost_ret (v:=.agg #[a,p,.slice A m.length c]) (by simp [results,Tryz.results207,go_sem,cz]) rfl D.out
theorem zeT {P:Program} (wb w:World) {ops:Array Oper} {rest:List Oper} {o:Oper} {a:Act} {Q:Exit->Act->World->Prop}(hgd:o.guard=none) (s x:Operand) (t:TypeId)
  (ho:o.op=.call { callee:=.builtin .append,args:=#[s,x],argTypes:=#[t,t] })
  (e:TypeId) (z:Value) (size bytes:Nat) (ht:P.underlying t=some (.slice e)) (hi:(P.info? e).map (fun i=>(i.zero,i.size,i.bytes))=some (some z,size,bytes)) (hzs:z.cells.size=size) (hsz:0<size)
  (v:Value) (n:Nat) (xs:List Value) (us:Array Value) (e':TypeId) (hs:a.eval s=v) (hx:a.eval x=.slice (some w.heap.size) 1 1)
  (zjZ:wb.heap.size<=w.heap.size) (zjX:w.ownsRow wb.heap.size e size v n xs) (hus:us.size=size) (h1:∀ u∈us.toList,u.oneCell'=true)
  (h63:n+1<=maxLen) (hbytes:(n+1)*bytes<=140737488355328)
  (h:∀ g cap w',w'.ownsRow wb.heap.size e size (.slice (some ⟨g,0,none⟩) (n+1) cap) (n+1) (xs++us.toList)->w.grownBy w' v.ownBlock->(v.ownBlock=some g∨g=w.heap.size+1)->g<w'.heap.size->wpList P ops Q rest (a.put o.dst (.slice (some ⟨g,0,none⟩) (n+1) cap)) w') :
  wpList P ops Q (o :: rest) a (w.alloc (.cells us e')):=
 wpList_plain hgd fun _ hK=>zaN wb w s x t ho e z size bytes ht hi hzs hsz v n xs us e' hs hx zjZ zjX hus h1 h63 hbytes fun g cap w' h2 h3 h4 h5=>hK _ _ (h g cap w' h2 h3 h4 h5)
theorem Reads.str (h:Reads w lo hi 1 A n (zO l))(hk:k<n):∃ ad x,A=some ad∧lo<=ad.block∧ad.block<hi∧Hid (l[k]?=some x)∧w.cell? (ad.add k)=some (.string x):=by
 obtain⟨ad,u,e,a,b,d,c⟩:=h.one hk;have:=d.out;simp only [zO,eF,Option.map_eq_some_iff] at this;obtain⟨x,f,rfl⟩:=this;exact⟨ad,x,e,a,b,f,c⟩
theorem valid_good (h:zk s=true):Good s:=by
 obtain⟨p,i,c,d,g⟩:=zcs h;obtain⟨a,f,b⟩:=valid_al h;exact⟨a,p,f,b,i,c,d,g⟩
theorem Acc.fillRD (h:Acc w0 wB W R G M al st v es)(hZ:w0.heap.size<=Z) (u0 u1 u2:Value) :
  Rd (((W.setCell Z u0).setCell ⟨Z,1,none⟩ u1).setCell ⟨Z,2,none⟩ u2) R M∧Dr R w0 (((W.setCell Z u0).setCell ⟨Z,1,none⟩ u1).setCell ⟨Z,2,none⟩ u2):=
 ⟨h.rd.frm (zdp W Z u0 u1 u2) (fun k h1 h2=>oH h.hR),((h.dr.ag (p:=⟨Z,0,none⟩) hZ u0).ag (p:=⟨Z,1,none⟩) hZ u1).ag (p:=⟨Z,2,none⟩) hZ u2⟩
theorem str_empty {t:ByteArray}(h:t.toList=x.toList)(h0:t.size=0):x.size=0:=by
 have a:=congrArg List.length h;rw [ByteArray.toList_eq,ByteArray.toList_eq] at a;have b:t.data.toList.length=t.size:=rfl;have c:x.data.toList.length=x.size:=rfl;omega
def Fair (s:Sys):Prop:=∃ a p:Nat,s.al=a∧a<64∧s.st=p∧p<=16∧Few (p+1) s.edges
theorem Good.fair (h:Good s):Fair s:=by
 obtain⟨a,p,b,c,d,_,f,g⟩:=h;exact⟨a,p,b,c,d,f,fun e he=>by have:=g e he;omega⟩
theorem fair_zero:Fair ⟨0,0,[]⟩:=⟨0,0,rfl,oM,rfl,oM,fun e he=>by cases he⟩
def ziZ (R M L:Nat) (w:World) (e:Ending) (w':World):Prop:=
 ∃ (s:Sys) (A:Option Addr) (n c:Nat) (ok:Bool),e=.returned (.tuple #[.agg #[s.al,s.st,.slice A n c],.bool ok])∧zcJ w' R A n s∧((ok=true->Good s)∧Fair s)∧(n<=L∧n<=c)∧Rd w' R M∧Dr R w w'
theorem zho (h:Rd w' R M)(hd:Dr R w w'):ziZ R M L w (.returned (.tuple #[.agg #[(0:Int),(0:Int),()],.bool false])) w':=
 ⟨⟨0,0,[]⟩,none,0,0,false,rfl,⟨rfl,oM,fun h0=>oM⟩,⟨(fun h=>by cases h),fair_zero⟩,⟨dG _,dD _⟩,h,hd⟩
theorem yH08a1 {P:Prop}(h:P:=by
 obtain⟨g1,g2⟩:=hacc4.fillRD (Z:=w.heap.size) (Nat.le_refl _) (.int .i64 0) (.int .i64 0) (.slice none 0 0);exact bodyPost_ret (v:=.tuple #[.agg #[(0:Int),(0:Int),()],.bool false]) (by simp [results,Tryz.results181,go_sem,hz4]) rfl (zho g1 g2)
 ):P:=h
theorem yH08a2 {P:Prop}(h:P:=by
 go_wp2_with fail
 exact bodyPost_ret (v:=.tuple #[.agg #[(0:Int),(0:Int),()],.bool false]) (by simp [results,Tryz.results181,go_sem,cz2]) rfl Hnone.out
 ):P:=h
theorem zgX (h:Rd w R M)(hx:x.size<=1000) :
  Calls Tryz.prog 181 #[x] w (ziZ R M 1001 w):=by
 have aq:=h.lt
 go_enter Tryz.func181,Tryz.ntmps181
 go_wp2_with fail
 refine (spec_l19Cut (s:=x) oM).mono ?_;rintro e w1 ⟨B,m,d,l,rfl,ag,ak,af,hm,C⟩;have E:=zcI C;have a6:=E.lt;have G:=((dB w).alloc _).trans C;have V:=(eO ak).more (lo':=w.heap.size+1) (hi':=w1.heap.size) sM (dD _);have ab:=za af;have aO:=za ag;clear ak af ag C;have cz:=E.cell;have fz:=E.frozen;have z:=za (fun (W:World) (hW:Ext w1 W) (u0 u1 u2:Value)=>(⟨(h.ext (G.trans hW)).frm (zdp W w.heap.size u0 u1 u2) (fun k hk hS=>oM),(((G.trans hW).dr.ag (R:=R) (p:=⟨w.heap.size,0,none⟩) (dD _) u0).ag (p:=⟨w.heap.size,1,none⟩) (dD _) u1).ag (p:=⟨w.heap.size,2,none⟩) (dD _) u2⟩:Rd (((W.setCell w.heap.size u0).setCell ⟨w.heap.size,1,none⟩ u1).setCell ⟨w.heap.size,2,none⟩ u2) R M∧Dr R w (((W.setCell w.heap.size u0).setCell ⟨w.heap.size,1,none⟩ u1).setCell ⟨w.heap.size,2,none⟩ u2)))
 by_cases hm2:m<2
 ·go_wp2_with fail
  obtain⟨g1,g2⟩:=z.out w1 (dB _) (.int .i64 0) (.int .i64 0) (.slice none 0 0);exact bodyPost_ret (v:=.tuple #[.agg #[(0:Int),(0:Int),()],.bool false]) (by simp [results,Tryz.results181,go_sem,cz]) rfl (zho g1 g2)
 ·obtain⟨ad,x0,rfl,a2,aZ,a3,T⟩:=V.str (k:=0) oM;obtain⟨b,o,rfl⟩:∃ b o,ad=⟨b,o,none⟩:=⟨_,_,zdL T⟩;rw [zW,Nat.add_zero] at T;obtain⟨aP,x1,S,_,_,C,U⟩:=V.str (k:=1) oM;obtain rfl:=Option.some.inj S;rw [zW] at U;have aI:(2:Int)<=(m:Int):=oM;have ar:=za (ab.out x1 (dC C.out));go_wp2_with fail
  refine (zdz (x:=x0)).mono ?_;rintro e O ⟨a,aA,rfl,ha,u⟩;have ae:=u.aa U;have Q:=E.ext u;have cz2:=Q.cell;have ao:=Q.frozen;go_wp2_with fail
  refine (zej (s:=x1) (oH ar.out)).mono ?_;rintro e a8 ⟨y,aB,rfl,rfl⟩;obtain⟨g1,g2⟩:=z.out O u (.int .i64 0) (.int .i64 0) (.slice none 0 0);have Hnone:=za (zho (L:=1001) g1 g2);clear g1 g2;cases aA
  ·exact yH08a2
  ·cases aB
   ·exact yH08a2
   ·have bG:=eM O 38 #[a,y,()];have Y:=(dB O).alloc (.cells #[a,y,()] 38);have a5:O.heap.size<(O.alloc (.cells #[a,y,()] 38)).heap.size:=sM;have aK:=u.size;have aJ:=G.size;have ax:=G.trans u;clear T U ae cz fz cz2 ao;go_wp2_with fail
    generalize O.alloc _=w3 at *;have X:=ax.trans Y;have ah:=(V.ext u).ext Y;have an:=Q.ext Y;have f:Acc w w3 w3 R O.heap.size M a y (.slice none 0 0) []:=⟨bG,World.ownsRow_nil _ _ _ _,h.ext X,X.dr,jB _ _,aq,X.size,oM⟩
    go_loopw [10] (fun i wr=>∃ (k:Nat) (v:Value) (t:List Edg),2<=k∧k<=m∧i=.int .i64 k∧Acc w w3 wr R O.heap.size M a y v t∧t.length<=k) (fun i _=>m - (intOf i).toNat)
    case atStart=>exact⟨2,_,[],dD _,oM,rfl,f,dG _⟩
    case round =>
     clear f;obtain⟨k,v,t,a1,hk,rfl,f,aY⟩:=hrel;have hG:=f.blk.cell;have F:=an.frm f.fr oM;have H:=F.cell;have I:=F.frozen;have ai:=f.old ah oM
     by_cases hlt:k<m
     ·obtain⟨ad,xk,S,_,_,ay,av⟩:=ai.str hlt;obtain rfl:=Option.some.inj S;rw [zW] at av;have au:=za (ab.out xk (dC ay.out));clear H I;go_wp2_with fail
      refine (spec_l2Parse (s:=xk) (oH au.out)).mono ?_;rintro e w4 ⟨r,aC,rfl,D⟩;have hacc4:=f.ext (D.alloc (.cells #[r.fr,r.le,r.ta] 117));have aR:=eM w4 117 #[r.fr,r.le,r.ta];have j:=F.ext (D.alloc (.cells #[r.fr,r.le,r.ta] 117));clear hG;cases aC
      ·have hz4:=j.cell;have az:=j.frozen;go_wp2_with fail
       generalize w4.alloc _=wq at *;exact yH08a1
      ·have ap:=hacc4.blk.cell;go_wp2_with (at_builtin;refine zeT w3 (w4.alloc (.cells #[r.fr,r.le,r.ta] 117)) rfl _ _ _ rfl 117 _ 3 24 Tryz.underlying36 zbl rfl dM v t.length (zw t) _ _ rfl (by first|rfl|simp [go_sem]) hacc4.fr.size hacc4.own rfl (by simp [Value.oneCell']) lM oM ?_;intro g cap w5 zkj hg5 hat5 hlt5;obtain⟨h1,h2,h3⟩:=hacc4.push (e:=r) (W':=w5) zkj hg5 hat5;have aV:=h1.out)
       go_roundw
       case rel=>exact⟨k+1,_,_,oM,oM,gM,h3,by simp;omega⟩
       case measure=>simp [intOf];omega
     ·obtain rfl:m=k:=oM;obtain⟨A,n,c,rfl⟩:=f.form;obtain⟨rfl,aj⟩:=f.reads;clear H I;go_wp2_with fail
      refine (zgz (s:=⟨a,y,t⟩) aj oM).mono ?_;rintro e w4 ⟨tx,rfl,aw,D⟩;have hacc4:=f.ext D;have j:=F.ext D;have hz4:=j.cell;have az:=j.frozen;have ap:=hacc4.blk.cell;cases hne:tx.toList==x.toList
      ·go_wp2_with fail
       exact yH08a1
      ·have J:zk (⟨a,y,t⟩:Sys)=true:=by
        cases hv:zk (⟨a,y,t⟩:Sys)
        ·exfalso;have h0:=aw hv;have a4:x.size=0:=str_empty (by simpa using hne) h0;omega
        ·rfl
       have q:=valid_good J;have aH:=zjB hacc4.own;obtain⟨g1,g2,g3⟩:=hacc4.fin (Z:=w.heap.size) (dD _) oM (.int .i64 a) (.int .i64 y) (.slice A t.length c);have aa:=za (show ziZ R M 1001 w (.returned (.tuple #[.agg #[a,y,.slice A t.length c],.bool true])) _ from ⟨⟨a,y,t⟩,A,t.length,c,true,rfl,g1,⟨fun _=>q,q.fair⟩,oM,g2,g3⟩);clear g1 g2 g3 q J;go_wp2_with fail
       exact bodyPost_ret (v:=.tuple #[.agg #[a,y,.slice A t.length c],.bool true]) (by simp [results,Tryz.results181,go_sem,hz4]) rfl aa.out
structure Tch (w:World) (A:Option Addr) (n:Nat) (B:Option Addr) (m:Nat) (B':Option Addr) (m':Nat) (s:Sys) (p:Aut) (L:Nat):Prop where
 at_:∃ lo hi,zQ w lo hi A n s∧zD w lo hi B m B' m' p∧hi<=w.heap.size
 sv:zk s=true
 pv:zj p=true
 lt:L<64
section
variable {w W:World} {n c m d m' d' L:Nat} {A B B':Option Addr} {s:Sys} {p:Aut}
theorem Tch.ext (h:Tch w A n B m B' m' s p L)(hx:Ext w W):Tch W A n B m B' m' s p L:=by
 obtain⟨f,d,a,b,c⟩:=h.at_;exact⟨⟨f,d,a.ext hx,b.ext hx,eB c hx.size⟩,h.sv,h.pv,h.lt⟩
theorem zaZ (h:Tch w A n B m B' m' s p L) :
  Calls Tryz.prog 133 #[.agg #[.bool false,(0:Int),(),(),s.al,s.st,.slice A n c,p.al,.slice B m d,.slice B' m' d',L]] w fun e w'=>e=.returned (.int .i64 (L:Nat))∧Ext w w':=by
 obtain⟨t,r,f,g,q⟩:=h.at_;have i:=za (fun W (hW:Ext w W)=>zfn (c:=c) (d:=d) (d':=d') (L:=L) (f.ext hW) (g.ext hW) h.sv h.pv h.lt);clear h f g
 go_enter Tryz.func133,Tryz.ntmps133
 go_upto_region 1 with fail
 generalize U0:w.alloc _=l at *;obtain⟨a,j⟩:=gL U0;clear U0;have o:=j.cells;have k:=dB l;go_wp2_with (first
  |(go_at_call 145;refine (i.out _ a).mono (mQ fun u b=>?_)))
 go_ret;exact⟨rfl,a.trans b⟩
theorem zeK {t:ByteArray}(h:Tch w A n B m B' m' s p L)(ht:t.size<=9223372036854775807) :
  Calls Tryz.prog 214 #[.agg #[.bool false,(0:Int),(),(),s.al,s.st,.slice A n c,p.al,.slice B m d,.slice B' m' d',L],t] w fun e w'=>e=.returned (.bool (zo s p L t))∧Ext w w':=by
 obtain⟨u,r,f,g,k⟩:=h.at_;have i:=za (fun W (hW:Ext w W)=>zeh (c:=c) (d:=d) (d':=d') (L:=L) (t:=t) (f.ext hW) (g.ext hW) h.sv h.pv h.lt (eB k hW.size) ht);clear h f g
 go_enter Tryz.func214,Tryz.ntmps214
 go_upto_region 1 with fail
 generalize U0:w.alloc _=o at *;obtain⟨a,j⟩:=gL U0;clear U0;have q:=j.cells;have l:=dB o;go_wp2_with (first
  |(go_at_call 62;refine (i.out _ a).mono (mQ fun v b=>?_)))
 go_ret;exact⟨rfl,a.trans b⟩
end
theorem str_loop (b:ByteArray):∀ (k:Nat) (i:Nat) (r:List UInt8),b.size - i=k->ByteArray.toList.loop b i r=r.reverse++b.data.toList.drop i:=by
 intro k
 induction k with
 |zero =>
  intro i r h;unfold ByteArray.toList.loop;rw [if_neg oM,List.drop_of_length_le (by rw [Array.length_toList];show b.size<=i;omega),List.append_nil]
 |succ k ih =>
  intro i r h;have a:i<b.size:=oM;unfold ByteArray.toList.loop;rw [if_pos a,ih (i+1) _ oM,List.drop_eq_getElem_cons (i:=i) (by rw [Array.length_toList];exact a),List.reverse_cons,jC];have e:b.get! i=b.data.toList[i]'(by rw [Array.length_toList];exact a):=by
   rw [Array.getElem_toList];show b.data[i]! = _;exact getElem!_pos b.data i a
  rw [e];rfl
theorem str_data (b:ByteArray):b.toList=b.data.toList:=by
 unfold ByteArray.toList;rw [str_loop b _ 0 [] rfl];rfl
theorem str_ext (h:x.toList=y.toList):x=y:=by
 rw [str_data,str_data] at h;cases x;cases y
 congr 1
 exact Array.toList_inj.1 h
theorem str_ne (h:¬ x=y):(x.toList==y.toList)=false:=by
 rw [beq_eq_false_iff_ne];exact fun e=>h (str_ext e)
noncomputable def zcZ (l:List ByteArray) (x:ByteArray):Bool:=by classical exact decide (x∈l)
theorem zaA :zcZ l x=true↔x∈l:=by unfold zcZ;simp
theorem zcA :zcZ l x=false↔x∉l:=by rw [← Bool.not_eq_true,zaA]
theorem zdV (h:Reads w lo hi 1 A n (zO l)) :
  Calls Tryz.prog 228 #[.slice A n c,x] w fun e w'=>e=.returned (.bool (zcZ l x))∧w=w':=by
 have t:=h.len;have g:l.length=n:=by have:=h.length;rw [zaV] at this;omega
 have p:=za g;clear g
 go_enter Tryz.func228,Tryz.ntmps228
 go_wp2_with fail
 go_loop [5] (fun iv=>∃ i:Nat,iv=.int .i64 i∧i<=n∧Hid (∀ j,j<i->l[j]?≠some x)) (fun iv=>n - (intOf iv).toNat)
 case atStart=>exact⟨0,rfl,dG _,za (fun j h=>oM)⟩
 case round =>
  obtain⟨i,rfl,hi,a⟩:=hrel
  by_cases hlt:i<n
  ·have k:(i:Int)<(n:Int):=oM;obtain⟨r,y,rfl,_,_,m,s⟩:=h.str hlt
   by_cases he:y=x
   ·subst he;have d:=za (zaA.2 (dC m.out));go_wp2_with fail
    go_ret;exact⟨zm (by rw [d.out]),rfl⟩
   ·have o:=za he;have f:=str_ne he;clear he;go_wp2_with fail
    go_round
    case rel=>exact⟨i+1,gM,oM,za (fun j b=>by
     rcases eU (fK b) with q|rfl
     ·exact a.out j q
     ·rw [m.out];intro h;exact o.out (Option.some.inj h))⟩
    case measure=>simp [intOf];omega
  ·obtain rfl:i=n:=oM;have d:=za (show zcZ l x=false by
    rw [zcA];intro hx;obtain⟨j,b⟩:=eQ hx;exact a.out j (by have:=(List.getElem?_eq_some_iff.1 b).1;have:=p.out;omega) b)
   go_wp2_with fail
   go_ret;exact⟨zm (by rw [d.out]),rfl⟩
def zbS (f:ByteArray->Bool) (cols:List ByteArray) (x:ByteArray):List Bool:=cols.map fun c=>f (x++c)
def mkB (b:Bool):ByteArray:=if b then ⟨#[43]⟩ else ⟨#[45]⟩
def mkS (bs:List Bool):ByteArray:=bs.foldl (fun o b=>o++mkB b) ByteArray.empty
theorem mkS_snoc (bs:List Bool) (b:Bool):mkS (bs++[b])=mkS bs++mkB b:=by simp [mkS]
theorem zfW:∀ (bs:List Bool),(mkS bs).data.toList=bs.map fun b=>if b then 43 else 45:=by
 have a:∀ (bs:List Bool) (o:ByteArray),(bs.foldl (fun o b=>o++mkB b) o).data.toList=o.data.toList++bs.map fun b=>if b then 43 else 45:=by
  intro bs
  induction bs with
  |nil=>intro o;simp
  |cons b r ih =>
   intro o;rw [List.foldl_cons,ih,ByteArray.data_append,Array.toList_append,jC,List.map_cons];cases b<;>rfl
 intro bs;unfold mkS;rw [a];rfl
theorem zjz {α β:Type} {f:α->β}(hf:∀ x y,f x=f y->x=y):∀ {a b:List α},a.map f=b.map f->a=b
 |[],[],_=>rfl
 |[],_ :: _,h=>by simp at h
 |_ :: _,[],h=>by simp at h
 |x :: a,y :: b,h=>by
  simp only [List.map_cons,List.cons.injEq] at h
  rw [hf x y h.1,zjz hf h.2]
theorem mkS_inj {a b:List Bool}(h:mkS a=mkS b):a=b:=by
 have c:(mkS a).data.toList=(mkS b).data.toList:=by rw [h]
 rw [zfW,zfW] at c;exact zjz (fun x y=>by cases x<;>cases y<;>simp) c
theorem mkS_size (bs:List Bool):(mkS bs).size=bs.length:=by
 have h:=congrArg List.length (zfW bs);rw [eL,Array.length_toList] at h;exact h
section
variable {w W:World} {n c m d m' d' L:Nat} {A B B':Option Addr} {s:Sys} {p:Aut}
theorem zfz (h:Tch w A n B m B' m' s p L)(hC:Reads w lo hi 1 C nc (zO cols))(hc:nc<=1000)(hx:x.size<=1000000)(hcs:∀ y∈cols,y.size<=1000000) :
  Calls Tryz.prog 137 #[.agg #[.bool false,(0:Int),(),(),s.al,s.st,.slice A n c,p.al,.slice B m d,.slice B' m' d',L],.slice C nc cc,x] w fun e w'=>e=.returned (.string (mkS (zbS (zo s p L) cols x)))∧Ext w w':=by
 have D:cols.length=nc:=by have:=hC.length;rw [zaV] at this;omega
 have O:=za (fun W (hW:Ext w W) (y:ByteArray) l=>zeK (c:=c) (d:=d) (d':=d') (t:=y) (h.ext hW) l);have M:=za (fun W (hW:Ext w W)=>hC.ext hW);have Q:=za D;have q:=za hcs;clear h hC D hcs
 go_enter Tryz.func137,Tryz.ntmps137
 go_upto_region 1 with fail
 generalize U0:w.alloc _=H at *;obtain⟨f,S⟩:=gL U0;clear U0;have I:=S.cells;go_wp2_with fail
 go_loopw [7,8] (fun v iv wr=>∃ (k:Nat) (o:ByteArray),iv=.int .i64 k∧k<=nc∧v=.string o∧o.size<=k∧Hid (o=mkS (zbS (zo s p L) (cols.take k) x))∧Ext H wr) (fun _ iv _=>nc - (intOf iv).toNat)
 case atStart=>exact⟨0,_,rfl,dG _,rfl,dM,za rfl,dB _⟩
 case round =>
  obtain⟨k,o,rfl,hk,rfl,T,F,a⟩:=hrel
  by_cases hlt:k<nc
  ·have E:(k:Int)<(nc:Int):=oM;obtain⟨R,y,rfl,_,_,l,z⟩:=(M.out wr (f.trans a)).str hlt;have Y:=q.out y (dC l.out);have CY:∀ W,Ext wr W->W.cell? (R.add k)=some (.string y):=fun W hW=>hW.aa z;have J:=fun W (hW:Ext wr W)=>I W (a.trans hW);have U:¬ 9223372036854775807<x.size+y.size:=oM;have G:¬ 9223372036854775807<o.size+1:=oM;have b:(x++y).size<=9223372036854775807:=by rw [ByteArray.size_append];omega
   have g:=za (fun W (hW:Ext wr W)=>O.out W ((f.trans a).trans hW) (x++y) b);have V:=dB wr;have i:=za (show mkS (zbS (zo s p L) (cols.take (k+1)) x)=o++mkB (zo s p L (x++y)) by
    rw [eA,l.out,zbS,fB,← zbS,F.out,eS,List.map_singleton,mkS_snoc])
   obtain⟨bv,r⟩:∃ bv,Hid (zo s p L (x++y)=bv):=⟨_,rfl⟩;rw [r.out] at g i;clear z b;go_wp2_with fail
   go_region_held3 (fun W=>Ext wr W) (first|assumption|(refine fQ ?_;assumption)|(refine eX ?_ aM;assumption)|(refine eX ?_ aM;refine fQ ?_;assumption)) (first
    |(go_at_call 214;refine (g.out _ ?_).mono ?_;(first|assumption|(refine fQ ?_;assumption));rintro e Z ⟨rfl,X⟩))
   have j:Ext H Z:=a.trans aM;cases bv
   all_goals
    go_wp2_with fail
    go_roundw
    case rel=>exact⟨k+1,_,gM,oM,rfl,by rw [ByteArray.size_append];show o.size+1<=k+1;omega,i.symm,j⟩
    case measure=>simp [intOf];omega
  ·obtain rfl:k=nc:=oM;have u:=za (show mkS (zbS (zo s p L) cols x)=o by rw [F.out,dU (oH Q.out)]);go_wp2_with fail
   go_ret;exact⟨by rw [u.out];rfl,f.trans a⟩
end
section
open Go.WideMaps Go.Maps
def zbr (T:List Nat):List Value:=T.map fun x=>.int .u16 (x:Nat)
theorem zcd (T:List Nat):(zbr T).length=T.length:=by simp [zbr]
def zgU (T:List Nat):Value:=.agg (zbr T).toArray
theorem pset_inj {U:List Nat}(h:zgU T=zgU U):T=U:=by
 unfold zgU zbr at h;injection h with h
 have c:T.map (fun x=>Value.int .u16 (x:Nat))=U.map fun x=>Value.int .u16 (x:Nat):=by simpa using h
 exact zjz (fun a b e=>by injection e with _ e;exact Int.ofNat.inj e) c
abbrev domP (T:List Nat):Prop:=T.length=12∧∀ x∈T,x<65536
theorem ziN:ArrKey Tryz.prog 222 220 12:=⟨Tryz.underlying222,kM,kM,kM⟩
theorem types_pos:(0:Nat)<(Tryz.prog).types.size:=of_decide_eq_true kM
theorem ziY:∃ m,(Tryz.prog).types.size=m+1:=⟨(Tryz.prog).types.size - 1,oH types_pos⟩
theorem zhJ {α β:Type} {f:α->Option β}:∀ (l:List α),(∀ i∈l,(f i).isSome=true)->(l.mapM f).isSome=true
 |[],_=>rfl
 |a :: r,h=>by
  obtain⟨y,hy⟩:=Option.isSome_iff_exists.1 (h a sM)
  obtain⟨ys,hys⟩:=Option.isSome_iff_exists.1 (zhJ r (fun i hi=>h i (by simp [hi])))
  rw [List.mapM_cons,hy,hys]
  rfl
noncomputable def litP (T:List Nat):Lit:=(keyOf Tryz.prog 222 (zgU T)).getD (.bool false)
theorem zeC (h:domP T):(keyOf Tryz.prog 222 (zgU T)).isSome=true:=by
 obtain⟨c,f⟩:=h;have A:=ziN;obtain⟨m,j⟩:=ziY;have a:=A.keyType ziY;have b:(zbr T).toArray.size=12:=by simp [zbr,c]
 unfold keyOf;simp only [A.hu];rw [if_pos (by simp [a,zgU,Value.formed,A.hu,A.size,zbr,c]),j];unfold Program.keyLits;simp only [A.hu,zgU,Value.cells];rw [if_pos (by rw [A.size];simpa using b)];rw [Option.isSome_map,Option.isSome_map];refine zhJ _ fun i hi=>?_;rw [jJ] at hi;obtain⟨x,d⟩:∃ x,T[i]?=some x:=⟨_,dE oM⟩;have l:=f x (dC d);have g:((zbr T).toArray.toList.drop (i*(Tryz.prog).cellsOf 220)).take ((Tryz.prog).cellsOf 220)=[.int .u16 (x:Nat)]:=by
  rw [A.one,Nat.mul_one];simp only [zbr];rw [List.take_one,List.head?_drop];simp [d]
 rw [g];cases m with
 |zero =>
  have n:(1:Nat)<(Tryz.prog).types.size:=of_decide_eq_true kM;omega
 |succ m =>
 unfold Program.keyLits;have k:(Lit.int .u16 (x:Int)).wf=true:=by
  simp [Lit.wf,IntKind.min,IntKind.max,IntKind.bits,IntKind.signed];omega
 simp [Tryz.underlying220,k]
theorem keyP:KeyG 150 222 zgU litP domP:=
 ⟨Keyed.of_law ziN.law,Tryz.underlying150,fun h=>by
  obtain⟨l,hl⟩:=Option.isSome_iff_exists.1 (zeC h);unfold litP;rw [hl];rfl,fun {x y} hx hy e=>by
  obtain⟨l,hl⟩:=Option.isSome_iff_exists.1 (zeC hx);obtain⟨k,hk⟩:=Option.isSome_iff_exists.1 (zeC hy);unfold litP at e;rw [hl,hk] at e;obtain rfl:l=k:=by simpa using e
  exact pset_inj ((Keyed.of_law ziN.law).inj hl hk)⟩
theorem keyS:KeyG 169 9 (fun x:ByteArray=>.string x) (fun x=>.string x.data.toList) (fun x=>x.size<=9223372036854775807):=
 ⟨string_keyed Tryz.underlying9,Tryz.underlying169,fun {x} h=>by simp [keyOf,Tryz.underlying9,mapKey,maxLen,h],fun _ _ e=>by
  injection e with e
  exact ByteArray.ext (Array.ext' e)⟩
end
theorem zcY (es:List Edg):∀ u∈zw es,u.oneCell'=true:=by
 induction es with
 |nil=>intro u h;cases h
 |cons e r ih =>
  intro u h;simp only [zw,List.mem_cons] at h;rcases h with rfl|rfl|rfl|h
  ·rfl
  ·rfl
  ·rfl
  ·exact ih u h
theorem zee (h:es[k]?=some e) (x:Int) :
  (zw es).set (k*3) (.int .i64 x)=zw (es.set k ⟨x,e.le,e.ta⟩)∧(zw es).set (k*3+1) (.int .i64 x)=zw (es.set k ⟨e.fr,x,e.ta⟩)∧(zw es).set (k*3+2) (.int .i64 x)=zw (es.set k ⟨e.fr,e.le,x⟩):=by
 induction es generalizing k with
 |nil=>simp at h
 |cons a r ih =>
  cases k with
  |zero=>simp at h;subst h;exact⟨rfl,rfl,rfl⟩
  |succ k =>
   have:=ih (k:=k) (by simpa using h);have b:(k+1)*3=k*3+1+1+1:=oM;refine⟨?_,?_,?_⟩<;>rw [b]<;>simp only [zw,List.set_cons_succ]
   ·rw [this.1]
   ·rw [this.2.1]
   ·rw [this.2.2]
section
variable {w0 wB W:World} {R G M:Nat} {al st:Int} {es:List Edg}
theorem Acc.turn {m:Nat} {x:Int} {fs:List Edg}(h:Acc w0 wB W R G M al st (.slice (some g) m c) es)(hm:m=es.length)(hs:(zw es).set j (.int .i64 x)=zw fs)(hl:fs.length=es.length) :
  Acc w0 wB (W.setCell ⟨g,j,none⟩ x) R G M al st (.slice (some g) m c) fs:=by
 have d:g≠G:=h.far rfl;have l:=(h.own.lt g rfl).1;have i:=h.hR;have f:=h.hB;have a:=dF W g j (.int .i64 x);refine⟨h.blk.frm a oM,?_,h.rd.frm a (fun k h1 h2=>oM),h.dr.ag (by dsimp only;omega) _,?_,h.hR,h.hB,h.hG⟩
 ·have b:=h.own;rw [← hm] at b;have:=(b.stored j (.int .i64 x)).1;rw [hs] at this;rw [hl,← hm];exact this
 ·exact⟨h.fr.os,h.fr.tape,h.fr.output,by simpa [World.setCell] using h.fr.size,fun k hk hn=>(Below.heap_setCell _ _ _ _ (by dsimp only;omega)).trans (h.fr.block k hk hn)⟩
end
def RetStrL (w:World) (l:List ByteArray) (e:Ending) (w':World):Prop:=
 ∃ A c,e=.returned (.slice A l.length c)∧w'.ownsRow w.heap.size 9 1 (.slice A l.length c) l.length (zO l)∧Ext w w'
def zaD (f:ByteArray->Bool) (cols words:List ByteArray):List ByteArray:=words.map fun x=>mkS (zbS f cols x)
theorem strs_snoc (l:List ByteArray) (x:ByteArray):zO (l++[x])=zO l++[.string x]:=by simp [zO]
section
variable {w W:World} {n c m d m' d' L:Nat} {A B B':Option Addr} {s:Sys} {p:Aut}
theorem zeN {R:Option Addr} {nr cr lo2 hi2:Nat} (h:Tch w A n B m B' m' s p L)(hC:Reads w lo hi 1 C nc (zO cols))(hR:Reads w lo2 hi2 1 R nr (zO rows))(hc:nc<=1000)(hr:nr<=1000)(hcs:∀ y∈cols,y.size<=1000000)(hrs:∀ y∈rows,y.size<=1000000) :
  Calls Tryz.prog 135 #[.agg #[.bool false,(0:Int),(),(),s.al,s.st,.slice A n c,p.al,.slice B m d,.slice B' m' d',L],.slice C nc cc,.slice R nr cr] w (RetStrL w (zaD (zo s p L) cols rows)):=by
 have I:rows.length=nr:=by have:=hR.length;rw [zaV] at this;omega
 have U:=za (fun W (hW:Ext w W) (y:ByteArray) l=>zfz (c:=c) (d:=d) (d':=d') (cc:=cc) (x:=y) (h.ext hW) (hC.ext hW) hc l hcs);have T:=za (fun W (hW:Ext w W)=>hR.ext hW);have F:=za I;have r:=za hrs;clear h hC hR I hrs hcs
 go_enter Tryz.func135,Tryz.ntmps135
 go_upto_region 1 with fail
 generalize U0:w.alloc _=o at *;obtain⟨g,Y⟩:=gL U0;clear U0;have Q:=Y.cells;go_wp2_with fail
 go_loopw [7,8] (fun v iv wr=>∃ k:Nat,iv=.int .i64 k∧k<=nr∧wr.ownsRow o.heap.size 9 1 v k (zO (zaD (zo s p L) cols (rows.take k)))∧Ext o wr) (fun _ iv _=>nr - (intOf iv).toNat)
 case atStart=>exact⟨0,rfl,dG _,World.ownsRow_lit o #[] 0 (dD _) lM rfl,(dB _).alloc _⟩
 case round =>
  obtain⟨k,rfl,H,f,b⟩:=hrel
  by_cases hlt:k<nr
  ·have J:(k:Int)<(nr:Int):=oM;obtain⟨V,y,rfl,_,_,l,G⟩:=(T.out wr (g.trans b)).str hlt;have D:=r.out y (dC l.out);have CY:∀ W,Ext wr W->W.cell? (V.add k)=some (.string y):=fun W hW=>hW.aa G;have S:=fun W (hW:Ext wr W)=>Q W (b.trans hW);have q:=za (fun W (hW:Ext wr W)=>U.out W ((g.trans b).trans hW) y D);have j:=dB wr;have t:=za (show zO (zaD (zo s p L) cols (rows.take (k+1)))=zO (zaD (zo s p L) cols (rows.take k))++[.string (mkS (zbS (zo s p L) cols y))] by
    rw [eA,l.out,zaD,fB,← zaD,eS,List.map_singleton,strs_snoc])
   generalize mkS (zbS (zo s p L) cols y)=z at *;clear G;go_wp2_with fail
   refine uR (fun X=>Ext wr X) [9] (zv.of [0,1,2,3,4,5,6,7,8,9,10]) ?_;refine uQ ?_;refine ze fun K hK=>?_;go_simp;refine (q.out _ j.drew).mono (mQ fun M u=>?_);have a:Ext wr M:=j.drew.trans u;refine hK.out _ _ a ?_;refine pT ?_;refine uQ ?_;refine ze fun K hK=>?_;go_simp;refine hK.out _ _ (a.alloc _) ?_;refine pT ?_;refine zb fun K hK=>?_;refine zaN o M _ _ _ rfl 9 _ 1 16 Tryz.underlying88 zt rfl dM _ k (zO (zaD (zo s p L) cols (rows.take k))) _ _ rfl rfl (b.trans a).size (zh f a) rfl (zcK _) lM oM ?_;intro g8 cap8 w8 hown8 hg8 hat8 hlt8;refine hK.out _ _ ?_;refine pT ?_;refine uQ ?_;refine zf ?_;go_wp2_with fail
   go_roundw
   case rel=>exact⟨k+1,gM,oM,by rw [t.out];exact hown8,(b.trans a).grown hg8 (fun k H=>(f.lt k H).1)⟩
   case measure=>simp [intOf];omega
  ·obtain rfl:k=nr:=oM;obtain⟨O,Z,rfl⟩:=zi f;have E:=za (show (rows.take k)=rows from dU (oH F.out));rw [E.out] at f;have i:=za (show (zaD (zo s p L) cols rows).length=k by rw [zaD,eL];exact F.out);go_wp2_with fail
   go_ret;exact⟨O,Z,by rw [i.out];rfl,by rw [i.out];exact zq f g.size,g.trans b⟩
theorem zgK (h:Tch w A n B m B' m' s p L)(hx:x.size<=9223372036854775807) :
  Calls Tryz.prog 226 #[.agg #[.bool false,(0:Int),(),(),s.al,s.st,.slice A n c,p.al,.slice B m d,.slice B' m' d',L],x] w fun e w'=>e=.returned (.bool (inB x L&&decide (x.size<=4000)))∧Ext w w':=by
 have g:=za (fun W (hW:Ext w W)=>zaZ (c:=c) (d:=d) (d':=d') (h.ext hW));have o:=h.lt;have a:Ext w (w.alloc (.cells #[.bool false,(0:Int),(),(),s.al,s.st,.slice A n c,p.al,.slice B m d,.slice B' m' d',L] 87)):=(dB _).alloc _;have i:=eM w 87 #[.bool false,(0:Int),(),(),s.al,s.st,.slice A n c,p.al,.slice B m d,.slice B' m' d',L];clear h;cases hin:inB x L
 all_goals
  have b:=za hin;clear hin
  go_enter Tryz.func226,Tryz.ntmps226
  go_upto_region 1 with fail
  generalize w.alloc _=k at *;have l:=i.cells;have j:=dB k;go_wp2_with (first
   |(go_at_call 133;refine (g.out _ a).mono (mQ fun q f=>?_))
   |(go_at_call 146;refine (zai hx oM).mono ?_;rw [b.out];rintro e r ⟨rfl,rfl⟩))
  go_ret;exact⟨zm (by first|rfl|(rw [Bool.true_and,decide_eq_decide];omega)),a.trans f⟩
end
def zck (l:Nat):ByteArray:=strOfNums [((97+l:Nat):Int)]
theorem zcO (l:Nat):(zck l).size=1:=strOfNums_size _
structure zcj (L:Nat) (f:ByteArray->Bool) (rows cols:List ByteArray):Prop where
 r1:1<=rows.length
 r12:rows.length<=12
 c1:1<=cols.length
 c20:cols.length<=20
 r0:rows[0]?=some ⟨#[]⟩
 c0:cols[0]?=some ⟨#[]⟩
 rw_:∀ (i:Nat) (x:ByteArray),1<=i->rows[i]?=some x->inB x L=true∧∃ y l,l<6∧x=y++zck l∧y∈rows.take i
 cw:∀ (i:Nat) (x:ByteArray),1<=i->cols[i]?=some x->inB x L=true∧x.size<=4000∧x∉cols.take i
 nd:(rows.map (zbS f cols)).Nodup
section
variable {L:Nat} {f:ByteArray->Bool} {rows cols:List ByteArray}
theorem inB_empty (L:Nat):inB ⟨#[]⟩ L=true:=by unfold inB zex;rfl
theorem zcj.rsz (h:zcj L f rows cols):∀ (i:Nat) (x:ByteArray),rows[i]?=some x->x.size<=i:=by
 intro i
 induction i using Nat.strongRecOn with
 |ind i ih =>
  intro x hx;rcases iI i with rfl|c
  ·rw [h.r0] at hx;obtain rfl:=Option.some.inj hx;exact dD _
  ·obtain⟨-,y,l,g,rfl,d⟩:=h.rw_ i x c hx;obtain⟨j,b⟩:=eQ d;have a:j<i:=by have:=(List.getElem?_eq_some_iff.1 b).1;rw [e8] at this;omega
   rw [j3 a] at b;have:=ih j a y b;rw [ByteArray.size_append,zcO l];omega
theorem zcj.rin (h:zcj L f rows cols) (hx:x∈rows):inB x L=true∧x.size<=12:=by
 obtain⟨i,a⟩:=eQ hx;have c:=(List.getElem?_eq_some_iff.1 a).1;refine⟨?_,by have:=h.rsz i x a;have:=h.r12;omega⟩;rcases iI i with rfl|b
 ·rw [h.r0] at a;obtain rfl:=Option.some.inj a;exact inB_empty L
 ·exact (h.rw_ i x b a).1
theorem zcj.cin (h:zcj L f rows cols) (hx:x∈cols):inB x L=true∧x.size<=4000:=by
 obtain⟨i,a⟩:=eQ hx;rcases iI i with rfl|b
 ·rw [h.c0] at a;obtain rfl:=Option.some.inj a;exact⟨inB_empty L,dM⟩
 ·exact⟨(h.cw i x b a).1,(h.cw i x b a).2.1⟩
theorem rowsM_nodup (h:zcj L f rows cols):(zaD f cols rows).Nodup:=by
 have a:=h.nd;unfold zaD;have b:rows.map (fun x=>mkS (zbS f cols x))=(rows.map (zbS f cols)).map mkS:=by rw [List.map_map];rfl
 rw [b];exact List.pairwise_map.2 (a.imp fun hne e=>hne (mkS_inj e))
end
def TabAt (w:World) (R:Option Addr) (nr:Nat) (C:Option Addr) (nc:Nat) (rows cols:List ByteArray):Prop:=
 ∃ lo hi lo2 hi2,Reads w lo hi 1 R nr (zO rows)∧Reads w lo2 hi2 1 C nc (zO cols)
theorem TabAt.ext {R:Option Addr} {nr:Nat} (h:TabAt w R nr C nc rows cols)(hx:Ext w W):TabAt W R nr C nc rows cols:=by
 obtain⟨g,f,b,a,c,d⟩:=h;exact⟨g,f,b,a,c.ext hx,d.ext hx⟩
theorem TabAt.nr {R:Option Addr} {nr:Nat} (h:TabAt w R nr C nc rows cols):rows.length=nr∧cols.length=nc:=by
 obtain⟨j,i,g,f,c,d⟩:=h;have a:=c.length;have b:=d.length;rw [zaV] at a b;omega
theorem Reads.takeS (h:Reads w lo hi 1 A n (zO l))(hk:k<=n):Reads w lo hi 1 A k (zO (l.take k)):=by
 have g:=h.length;rw [zaV] at g;refine⟨by rw [zaV,e8];omega,oH h.len,fun h0=>?_⟩;obtain⟨a,e,b,c,d⟩:=h.2.2 oM;refine⟨a,e,b,c,fun j u hu=>d j u ?_⟩;unfold zO at hu ⊢;rw [List.map_take] at hu;have f:j<k:=by have:=(List.getElem?_eq_some_iff.1 hu).1;rw [e8] at this;omega
 rwa [j3 f] at hu
theorem str_front (y:ByteArray) (l:Nat):(y++zck l).extract 0 y.size=y:=by
 rw [ByteArray.extract_append_eq_left rfl]
section
variable {w W:World} {L nr nc cr cc:Nat} {R C:Option Addr} {rows cols:List ByteArray} {f:ByteArray->Bool}
theorem zjH (hT:TabAt w R nr C nc rows cols)(hI:zcj L f rows cols)(hL:L<64)(hcr:nr<=cr)(hcc:nc<=cc) :
  Calls Tryz.prog 274 #[L,.agg #[.slice R nr cr,.slice C nc cc]] w fun e w'=>e=.returned (.bool true)∧Ext w w':=by
 obtain⟨Y,Z⟩:=hT.nr;have z:=hI.r1;have B:=hI.r12;have r:=hI.c1;have s:=hI.c20;rw [Y] at z B;rw [Z] at r s;obtain⟨lo,hi,ar,aj,M,O⟩:=hT;obtain⟨H,x,rfl,_,_,j,d⟩:=M.str (show 0<nr by omega);obtain⟨J,y,rfl,_,_,D,p⟩:=O.str (show 0<nc by omega);obtain rfl:=Option.some.inj (j.out.symm.trans hI.r0);obtain rfl:=Option.some.inj (D.out.symm.trans hI.c0);rw [addr_zero] at d p;have U:=za (fun W (hW:Ext w W)=>M.ext hW);have V:=za (fun W (hW:Ext w W)=>O.ext hW);have G:=za hI;have CX:=fun W (hW:Ext w W)=>hW.aa d;have CY:=fun W (hW:Ext w W)=>hW.aa p;clear M O hI j D d p Y Z
 go_enter Tryz.func274,Tryz.ntmps274
 go_upto_region 1 with fail
 generalize U0:w.alloc _=T at *;obtain⟨c,I⟩:=gL U0;clear U0;have k1:=I.cell;have d:=CX _ c;have p:=CY _ c;have b:=dB T;go_wp2_with fail
 go_loopw [7] (fun iv wr=>∃ k:Nat,1<=k∧k<=nr∧iv=.int .i64 k∧Ext T wr) (fun iv _=>nr - (intOf iv).toNat)
 case atStart=>exact⟨1,dD _,z,rfl,b⟩
 case round =>
  clear b k1 d p;obtain⟨k,i,E,rfl,a⟩:=hrel
  by_cases hlt:k<nr
  ·have u:(k:Int)<(nr:Int):=oM;have Q:(k:Int)<=(cr:Int):=oM;obtain⟨ah,x,e,_,_,j,d⟩:=(U.out wr (c.trans a)).str hlt;obtain rfl:=Option.some.inj e;obtain⟨g,y,l,hl,o,D⟩:=G.out.rw_ k x i j.out;have S:x.size=y.size+1:=by rw [o,ByteArray.size_append,zcO]
   have an:x.extract 0 y.size=y:=by rw [o,str_front]
   have h0:0<x.size:=oM;have ao:y.size<=12:=by have:=G.out.rsz k x j.out;omega
   have h:=za (zaA.2 D);have m:=za (fun W (hW:Ext w W)=>(U.out W hW).takeS E);have n:=za g;have F:∀ W,Ext wr W->W.cell? (H.add k)=some (.string x):=fun W hW=>hW.aa d;have CB:∀ W,Ext wr W->∀ q,W.cell? ⟨w.heap.size,q,none⟩=#[Value.slice (some H) nr cr,.slice (some J) nc cc][q]?:=fun W hW=>(I.ext (a.trans hW)).cell;have b:=dB wr;have am:IntKind.i64.wrap (y.size:Int)=(y.size:Int):=IntWalk.i64_in _ oM;have al:((y.size:Int)+1==0)=false:=by simp;omega
   have ap:(y.size:Int)<=(y.size:Int)+1:=oM;clear g D o d j hl e;go_wp2_with fail
   refine uR (fun X=>Ext wr X) [] (zv.of [0,1,2,3,4,5,6,7,8,9,10,11,12,13,14,15,16,17,18,19,20,21]) ?_;refine uQ ?_;refine ze fun K hK=>?_;go_simp;refine (zai oM oM).mono ?_;rw [n.out];rintro e w3 ⟨rfl,rfl⟩;refine hK.out _ _ b.drew ?_;refine pT ?_;refine uQ ?_;refine ze fun K hK=>?_;go_simp;refine (zdV (m.out _ (c.trans (a.trans b.drew)))).mono ?_;rw [h.out];rintro e w4 ⟨rfl,rfl⟩;refine hK.out _ _ b.drew ?_;refine pT ?_;refine uQ ?_;refine zf ?_;go_wp2_with fail
   go_roundw
   case rel=>exact⟨k+1,oM,oM,gM,a.trans b.drew⟩
   case measure=>simp [intOf];omega
  ·have t:(nr:Int)<=(k:Int):=oM;go_wp2_with fail
   go_loopw [9] (fun iv wr=>∃ k:Nat,1<=k∧k<=nc∧iv=.int .i64 k∧Ext T wr) (fun iv _=>nc - (intOf iv).toNat)
   case atStart=>exact⟨1,dD _,r,rfl,a⟩
   case round =>
    clear a t hlt E i;obtain⟨k,i,E,rfl,a⟩:=hrel
    by_cases hlt:k<nc
    ·have u:(k:Int)<(nc:Int):=oM;have Q:(k:Int)<=(cc:Int):=oM;obtain⟨ai,x,e,_,_,j,d⟩:=(V.out wr (c.trans a)).str hlt;obtain rfl:=Option.some.inj e;obtain⟨g,S,v⟩:=G.out.cw k x i j.out;have aa:¬ (4000<(x.size:Int)):=oM;have h:=za (zcA.2 v);have m:=za (fun W (hW:Ext w W)=>(V.out W hW).takeS E);have n:=za g;have F:∀ W,Ext wr W->W.cell? (J.add k)=some (.string x):=fun W hW=>hW.aa d;have CB:∀ W,Ext wr W->∀ q,W.cell? ⟨w.heap.size,q,none⟩=#[Value.slice (some H) nr cr,.slice (some J) nc cc][q]?:=fun W hW=>(I.ext (a.trans hW)).cell;have b:=dB wr;clear g v d j e;go_wp2_with (first
      |(go_at_call 146;refine (zai oM oM).mono ?_;rw [n.out];rintro e w3 ⟨rfl,rfl⟩)
      |(go_at_call 228;refine (zdV (m.out _ (c.trans a))).mono ?_;rw [h.out];rintro e w3 ⟨rfl,rfl⟩))
     go_roundw
     case rel=>exact⟨k+1,oM,oM,gM,a⟩
     case measure=>simp [intOf];omega
    ·have t:(nc:Int)<=(k:Int):=oM;go_wp2_with fail
     go_ret;exact⟨rfl,c.trans a⟩
end
end Go.Proofs.YtckbjnndaaoddaaGreatDoor
