/- spec.l2Texts -/
import Derived.Test.YtckbjnndaaoddaaGreatDoorN02
import Derived.Laws.StructEq
import Derived.Deep.CutBlock
set_option maxHeartbeats 4000000
set_option maxRecDepth 100000
namespace Go.Proofs.YtckbjnndaaoddaaGreatDoor
open Go Go.RowKit
open Blk renaming new->dX
open Ext renaming bl_->eA,refl->dB
open Frm renaming setCell->dH
open List renaming getElem?_append_left->dJ,getElem?_eq_getElem->dD,getElem?_set_ne->fM,getElem?_set_self->eX,length_set->fB,mem_of_getElem?->dC,mem_or_eq_of_mem_set->e8,nil_append->eG,take_of_length_le->dK
open Nat renaming le_refl->dE,le_trans->dL,zero_add->dW,zero_le->dG
open Reads renaming af->eE
variable {A A' A2:Option Addr} {G L M N R Z a base c c' d2 g n n' n2:Nat} {W w w' w0 w1:World} {acc:List Bool} {al st x:Int} {b:Aut} {cs us:Array Value} {e t:TypeId} {es:List Edg} {ls:List (List Int)} {s s2:Sys} {v v':Value}
def ziY:Value->ByteArray
 |.string s=>s
 |_=>⟨#[]⟩
def RetTexts (L:Nat) (w:World) (e:Ending) (w':World):Prop:=∃ (A:Option Addr) (n c:Nat) (l:List ByteArray),e=.returned (.slice A n c)∧0<n∧w'.ownsRow w.heap.size 9 1 (.slice A n c) n (zaa l)∧(∀ x∈l,x.size<=L)∧Ext w w'
theorem zbk (w:World)  (hu:zaa (us.toList.map ziY)=us.toList)(hn:us.size=n)(h:n<=1000):(w.alloc (.cells us 9)).ownsRow w.heap.size 9 1 (.slice (some w.heap.size) n n) n (zaa (us.toList.map ziY)):=by
 rw [hu];exact World.ownsRow_lit w us n (dE _) lM (by simpa using hn)
theorem spec_l2Texts :Calls Tryz.prog 294 #[] w (RetTexts 100 w):=by
 go_enter Tryz.func294,Tryz.ntmps294
 go_wp2;go_ret;exact⟨_,_,_,_,rfl,dM,zbk w rfl rfl oM,by decide +kernel,(dB _).alloc _⟩
theorem reads_ints (l:List Int)(hu:us.toList=ints l)(hn:us.size=n)(hx:Ext (w.alloc (.cells us e)) w')(h63:n<=1000):Reads w' w.heap.size (w.heap.size+1) 1 (some ⟨w.heap.size,0,none⟩) n (ints l):=
 ⟨by rw [← hu];simpa using hn,oM,fun _=>⟨_,rfl,dE _,sM,fun j u hj=>by
  have:=(zbP hx).cell j
  rw [zX,dW,this]
  rw [← hu] at hj
  simpa using hj⟩⟩
theorem zaN (l:List Int) (n:Nat) (us:Array Value)(hu:us.toList=ints l)(hn:us.size=n)(h0:0<n)(h63:n<=1000)(h:Rd w R M)(hM:M<=1000000000) :
  Calls Tryz.prog 163 #[.pointer (some R),.slice (some w.heap.size) n n] (w.alloc (.cells us 3)) (RetNum R M l (w.alloc (.cells us 3))):=
 l19Rd_num (h.ext ((dB _).alloc _)) hM (reads_ints l hu hn (dB _) h63) h.lt h0
theorem zgA (hs:zbt W R A n s)(hg:Good s)(hn:n<=L∧n<=c)(hr:Rd W R M)(hd:Dr R w W)(hB:Blk W Z 38 cs)(hR:R<w.heap.size)(hZ:w.heap.size<=Z) :
  RetG R M L w (.returned (.agg #[s.al,s.st,.slice A n c])) (((W.setCell Z s.al).setCell ⟨Z,1,none⟩ s.st).setCell ⟨Z,2,none⟩ (.slice A n c)):=by
 have a:=zdW W Z (.int .i64 s.al) (.int .i64 s.st) (.slice A n c);exact⟨s,A,n,c,rfl,hs.far hB dM a,hg,hn,hr.frm a (fun k h1 h2=>oM),((hd.ag (p:=⟨Z,0,none⟩) hZ _).ag (p:=⟨Z,1,none⟩) hZ _).ag (p:=⟨Z,2,none⟩) hZ _⟩
theorem yN03a1 {P:Prop}(h:P:=by
 go_wp2_with fail
 refine (zaN [3,2,4,1,5] 5 #[(3:Int),(2:Int),(4:Int),(1:Int),(5:Int)] rfl rfl oM oM hr6 oM).mono ?_;rintro e w7 ⟨st,hst,rfl,hr7,hd7⟩;have hw7:=(hw6.ext ((Ext.refl _).alloc _)).trans hd7;have bz7:=(bz6.ext ((Ext.refl _).alloc _)).dr hd7 oM;go_wp2_with fail
 refine (zaN [3,2,4,6] 4 #[(3:Int),(2:Int),(4:Int),(6:Int)] rfl rfl oM oM hr7 oM).mono ?_;rintro e w8 ⟨fw,_,rfl,hr8,hd8⟩;have hw8:=(hw7.ext ((Ext.refl _).alloc _)).trans hd8;have bz8:=(bz7.ext ((Ext.refl _).alloc _)).dr hd8 oM;obtain⟨a,rfl,ha⟩:∃ a:Nat,al=a∧a<64:=⟨al.toNat,by simp at hal;omega,by simp at hal;omega⟩;obtain⟨p,rfl,hp1,hp⟩:∃ p:Nat,st=p∧1<=p∧p<=16:=⟨st.toNat,by simp at hst;omega,by simp at hst;omega,by simp at hst;omega⟩;clear hal hst;go_wp2_with fail
 refine (zdy hr8 oM ha hp1 hp).mono ?_;rintro e w9 ⟨s9,A9,n9,c9,rfl,hs9,hg9,hn9,hr9,hd9⟩;have bz9:=bz8.dr hd9 oM;have hfin9:=za (zgA (R:=R) (M:=M+30000) (L:=20000) (c:=c9) hs9 hg9 hn9 (hr9.more oM) (hw8.trans hd9) bz9 hRl (Nat.le_refl _));have cz9:=bz9.cell;have fz9:=bz9.frozen;go_wp2_with fail
 exact bodyPost_ret (v:=.agg #[s9.al,s9.st,.slice A9 n9 c9]) (by simp [results,Tryz.results257,go_sem,cz9]) rfl hfin9.out
 ):P:=h
theorem zhd (h:Rd w R M)(hM:M<=800000000) :
  Calls Tryz.prog 257 #[.pointer (some R)] w (RetG R (M+30000) 20000 w):=by
 have hRl:=h.lt;have hx0:=(dB w).alloc (.cells #[(0:Int),(0:Int),()] 38);have bz:=dX w 38 #[(0:Int),(0:Int),()]
 go_enter Tryz.func257,Tryz.ntmps257
 go_wp2_with fail
 refine (zx (h.ext hx0) oM).mono ?_;rintro e Y ⟨y,rfl,_,_,p,k⟩;have q:=hx0.dr.trans k;have f:=bz.dr k oM;have T:=f.lt;clear bz
 by_cases hy:y=0
 ·subst hy;go_wp2_with fail
  refine (spec_l2Texts).mono ?_;rintro e w2 ⟨A,n,c,l,rfl,J,zje,I,i⟩;go_wp2_with fail
  refine (l19Rd_of (p.ext i) oM (eE zje) oM J).mono ?_;rintro e Z ⟨x,O,rfl,u,o⟩;have Q:=I x O;go_wp2_with fail
  refine (zct u oM).mono ?_;rintro e w4 ⟨s,B,m,d,U,rfl,G,⟨F,-⟩,hm,hr4,hd4⟩;have r:Dr R w w4:=((q.ext i).trans o).trans hd4;have j:=((f.ext i).dr o oM).dr hd4 oM;have a:=(dB w4).alloc (.cells #[s.al,s.st,.slice B m d] 38);have E:=dX w4 38 #[s.al,s.st,.slice B m d];cases U
  ·have z:=hr4.ext a;have C:=r.ext a;have bz5:=j.ext a;clear E a G F;go_wp2_with fail
   have D:=(zaN [3,6,7,5,1,0,12] 7 #[(3:Int),(6:Int),(7:Int),(5:Int),(1:Int),(0:Int),(12:Int)] rfl rfl oM oM z oM);simp only [World.size_alloc] at D;refine D.mono ?_;rintro e V ⟨al,hal,rfl,hr6,hd6⟩;have hw6:=(C.ext ((dB _).alloc _)).trans hd6;have bz6:=(bz5.ext ((dB _).alloc _)).dr hd6 oM;exact yN03a1
  ·have g:=F rfl;have X:=E.cell;have b:=j.ext a;have t:=b.cell;have H:=b.frozen;go_wp2_with fail
   generalize w4.alloc _=w5 at *;have zjh:=zgA (R:=R) (M:=M+30000) (L:=20000) (c:=d) (G.ext a) g oM ((hr4.more oM).ext a) (r.ext a) b hRl (dE _);exact bodyPost_ret (v:=.agg #[s.al,s.st,.slice B m d]) (by simp [results,Tryz.results257,go_sem,t]) rfl zjh
 ·have S:((y:Int)==0)=false:=(by rw [beq_eq_false_iff_ne];omega);go_wp2_with fail
  refine (zaN [3,6,7,5,1,0,12] 7 #[(3:Int),(6:Int),(7:Int),(5:Int),(1:Int),(0:Int),(12:Int)] rfl rfl oM oM p oM).mono ?_;rintro e V ⟨al,hal,rfl,hr6,hd6⟩;have hw6:=(q.ext ((dB _).alloc _)).trans hd6;have bz6:=(f.ext ((dB _).alloc _)).dr hd6 oM;exact yN03a1
def zgc (b:Aut):Prop:=∃ a p:Nat,a<64∧1<=p∧p<=16∧shA a p (letters a 6).length b
theorem zgd.mono {sh sh':Aut->Prop}  {e:Ending}(h:zgd R M sh w e w')(hd:Dr R w0 w)(hM:M<=N)(hs:∀ b,sh b->sh' b):zgd R N sh' w0 e w':=by
 obtain⟨b,A,n,c,A',n',c',d,f,hsh,g,a⟩:=h;exact⟨b,A,n,c,A',n',c',d,f.less hd.size,za (hs b hsh.out),g.more hM,hd.trans a⟩
theorem zil {sh:Aut->Prop}   (hx:Ext w w0)(ho:zZ W w0.heap.size A n c A' n' c' b)(hsh:sh b)(hr:Rd W R M)(hd:Dr R w0 W) (bz:Blk w0 Z t cs)(hc:cs.size=3)(hR:R<w.heap.size)(hZ:w.heap.size<=Z)(hM:M<=N) :
  Hid (zgd R N sh w (.returned (.agg #[b.al,.slice A n c,.slice A' n' c'])) (((W.setCell Z b.al).setCell ⟨Z,1,none⟩ (.slice A n c)).setCell ⟨Z,2,none⟩ (.slice A' n' c'))) ∧
  Blk (((W.setCell Z b.al).setCell ⟨Z,1,none⟩ (.slice A n c)).setCell ⟨Z,2,none⟩ (.slice A' n' c')) Z t #[.int .i64 b.al,.slice A n c,.slice A' n' c']:=by
 have d:=bz.lt;have a:=zV W Z (.int .i64 b.al) (.slice A n c) (.slice A' n' c');refine⟨za ⟨b,A,n,c,A',n',c',rfl,(ho.keep a (fun b h1 e=>oM)).less hx.size,za hsh,(hr.more hM).frm a (fun k hk e=>oM),?_⟩,zaq (bz.dr hd oM) hc _ _ _⟩;exact (((hx.dr.trans hd).ag (p:=⟨Z,0,none⟩) hZ _).ag (p:=⟨Z,1,none⟩) hZ _).ag (p:=⟨Z,2,none⟩) hZ _
theorem spec_l1Some (h:Rd w R M)(hM:M<=900000000) :
  Calls Tryz.prog 272 #[.pointer (some R)] w (fun e w'=>∃ x:Nat,x<64∧e=.returned (.int .i64 x)∧Rd w' R (M+1)∧Dr R w w'):=by
 go_enter Tryz.func272,Tryz.ntmps272
 go_wp2_with fail
 refine (zaN [3,7,1,5,0,6,63,2,21] 9 #[(3:Int),(7:Int),(1:Int),(5:Int),(0:Int),(6:Int),(63:Int),(2:Int),(21:Int)] rfl rfl oM oM h oM).mono ?_;rintro e f ⟨x,c,rfl,b,a⟩;obtain⟨y,d,rfl⟩:∃ y:Nat,y<64∧x=(y:Int):=⟨x.toNat,by simp at c;omega,by simp at c;omega⟩;clear c;go_wp2_with fail
 go_ret;exact⟨y,d,rfl,b,((Dr.refl R w).alloc _).trans a⟩
theorem yN03a3 {P:Prop}(h:P:=by
 intro e w4 hret;obtain⟨b,A,n,c,A',n',c',rfl,zje,hsh,hr4,hd4⟩:=hret.mono (N:=M+500) (sh':=zgc) hd13 oM (fun b hb=>⟨a,p,ha,hp1,oM,hb⟩);obtain⟨f1,f2⟩:=zil (N:=M+500) (sh:=zgc) hxz zje hsh.out hr4 hd4 bz rfl hRl (Nat.le_refl _) (Nat.le_refl _);have bz5:=bz.dr hd4 oM;have cZ:=bz5.cell;have fZ:=bz5.frozen;go_wp2_with fail
 have cf:=f2.cell;exact bodyPost_ret (v:=.agg #[b.al,.slice A n c,.slice A' n' c']) (by simp [results,Tryz.results74,go_sem,cf]) rfl f1.out
 ):P:=h
theorem zhe (h:Rd w R M)(hM:M<=800000000)(ha:a<64) :
  Calls Tryz.prog 74 #[.pointer (some R),a] w (zgd R (M+500) zgc w):=by
 have hRl:=h.lt
 go_enter Tryz.func74,Tryz.ntmps74
 go_wp2_with fail
 generalize U0:w.alloc _=l at *;have hxz:=Ext.al_ U0;have bz:=eA U0;clear U0;refine (zx (h.ext hxz) oM).mono ?_;rintro e w2 ⟨y,rfl,-,-,g,f⟩
 by_cases hy:y=0
 ·subst hy;go_wp2_with fail
  refine (zaN [3,2,4,1] 4 #[(3:Int),(2:Int),(4:Int),(1:Int)] rfl rfl oM oM g oM).mono ?_;rintro e k ⟨x,b,rfl,d,c⟩;obtain⟨p,hp1,i,rfl⟩:∃ y:Nat,1<=y∧y<=4∧x=(y:Int):=⟨x.toNat,by simp at b;omega,by simp at b;omega,by simp at b;omega⟩;clear b;have hd13:=(f.alloc _).trans c;go_wp2_with fail
  refine (zhf d oM ha hp1 oM).mono ?_;exact yN03a3
 ·have j:((y:Int)==0)=false:=by simp;omega
  go_wp2_with fail
  refine (zaN [2,3,1,4,5] 5 #[(2:Int),(3:Int),(1:Int),(4:Int),(5:Int)] rfl rfl oM oM g oM).mono ?_;rintro e k ⟨x,b,rfl,d,c⟩;obtain⟨p,hp1,i,rfl⟩:∃ y:Nat,1<=y∧y<=5∧x=(y:Int):=⟨x.toNat,by simp at b;omega,by simp at b;omega,by simp at b;omega⟩;clear b;have hd13:=(f.alloc _).trans c;go_wp2_with fail
  refine (zfx d oM ha oM).mono ?_;exact yN03a3
section
variable {w0 W W':World} {R G M N:Nat} {al:Int} {v vA:Value} {rows:List Value} {ls:List (List Int)} {acc:List Bool}
theorem zbA.setAl (h:zbA w0 W R G M al v rows ls vA acc) (x:Int):zbA w0 (W.setCell G x) R G M x v rows ls vA acc:=by
 have d:=h.hR;have a:=h.hG;have c:=dH W G 0 (.int .i64 x);refine⟨by simpa using h.blk.ae 0 _,zf h.nx c (fun b hb hS=>zq h.nx h.blk dM hb hS),h.rows.frm c (fun i r b hr hb hS=>?_),zf h.acc c (fun b hb hS=>zq h.acc h.blk dM hb hS),h.rd.frm c (fun k hk e=>oM),h.dr.ag (p:=⟨G,0,none⟩) a _,d,a⟩;obtain⟨g,_,f⟩:=h.rows.row hr;exact zq f h.blk dM hb hS
theorem zbA.setNext (h:zbA w0 W R G M al v rows ls vA acc) (ho:W.ownsRow w0.heap.size 110 1 v' 0 []):zbA w0 (W.setCell ⟨G,1,none⟩ v') R G M al v' [] [] vA acc:=by
 have c:=h.hR;have a:=h.hG;have d:=dH W G 1 v';exact⟨by simpa using h.blk.ae 1 _,zf ho d (fun b hb hS=>zq ho h.blk dM hb hS),zE.nil _ _,zf h.acc d (fun b hb hS=>zq h.acc h.blk dM hb hS),h.rd.frm d (fun k hk e=>oM),h.dr.ag (p:=⟨G,1,none⟩) a _,c,a⟩
theorem zbA.setMarks (h:zbA w0 W R G M al v rows ls vA acc) (ho:W.ownsRow w0.heap.size 4 1 v' 0 []):zbA w0 (W.setCell ⟨G,2,none⟩ v') R G M al v rows ls v' []:=by
 have d:=h.hR;have a:=h.hG;have c:=dH W G 2 v';refine⟨by simpa using h.blk.ae 2 _,zf h.nx c (fun b hb hS=>zq h.nx h.blk dM hb hS),h.rows.frm c (fun i r b hr hb hS=>?_),zf ho c (fun b hb hS=>zq ho h.blk dM hb hS),h.rd.frm c (fun k hk e=>oM),h.dr.ag (p:=⟨G,2,none⟩) a _,d,a⟩;obtain⟨f,_,ho⟩:=h.rows.row hr;exact zq ho h.blk dM hb hS
theorem zbA.growRow {i:Nat} {row:Value} {l:List Int}  {cap gN cN nN:Nat}(h:zbA w0 W R G M al (.slice (some gN) nN cN) rows ls vA acc)(hn:nN=ls.length)(hr:rows[i]?=some row)(hl:ls[i]?=some l)
  (zje:W'.ownsRow w0.heap.size 3 1 (.slice (some g) (l.length+1) cap) (l.length+1) (ints l++[.int .i64 x])) (hg:W.grownBy W' row.ownBlock) (hat:row.ownBlock=some g∨g=W.heap.size+1) :
  (∀ u,W.cell? ⟨G,u,none⟩=W'.cell? ⟨G,u,none⟩)∧Hid (W'.cell? ⟨gN,i,none⟩=some row)∧W'.frozen? ⟨gN,i,none⟩=false ∧
  zbA w0 (W'.setCell ⟨gN,i,none⟩ (.slice (some g) (l.length+1) cap)) R G M al (.slice (some gN) nN cN) (rows.set i (.slice (some g) (l.length+1) cap)) (ls.set i (l++[x])) vA acc:=by
 subst hn;have y:=h.hR;have v:=h.hG;have E:i<ls.length:=(List.getElem?_eq_some_iff.1 hl).1;have s:=h.rows.2.1 i _ l hr hl;have n:Frm (fun k=>row.ownBlock=some k) W W':=Frm.ab hg;obtain⟨z,D⟩:=h.grown s hg;have t:Blk W' G 27 #[.int .i64 al,.slice (some gN) ls.length cN,vA]:=h.blk.frm n (fun e=>zq s h.blk dM e rfl);have a:W'.ownsRow w0.heap.size 110 1 (.slice (some gN) ls.length cN) ls.length rows:=zf h.nx n (fun b hb hS=>zaI h.nx s dM hb hS);have zjf:W'.ownsRow w0.heap.size 4 1 vA acc.length (zaw acc):=zf h.acc n (fun b hb hS=>zaI h.acc s dM hb hS);have B:=(a.lt gN rfl).1;have q:=h.rows.1;have d:∀ (j:Nat) (r:Value) (b:Nat),j≠i->rows[j]?=some r->r.ownBlock=some b->b≠g:=fun j r b hji hj hb e=>by
  subst e;rcases hat with h1|h1
  ·exact h.rows.2.2 j i r row b hj hr hji hb h1
  ·have:=h.low j r b hj hb;omega
 have f:zE W' w0.heap.size (rows.set i (.slice (some g) (l.length+1) cap)) (ls.set i (l++[x])):=by
  refine⟨by simp [q],fun j r m hj hm=>?_,fun j j' r r' b hj hj' hne hb=>?_⟩
  ·by_cases hji:i=j
   ·subst hji;rw [eX oM] at hj;rw [eX E] at hm;obtain rfl:=Option.some.inj hj;obtain rfl:=Option.some.inj hm;simpa [ints] using zje
   ·rw [fM hji] at hj hm;exact zf (h.rows.2.1 j r m hj hm) n (fun b hb hS=>h.rows.2.2 j i r row b hj hr (fun e=>hji e.symm) hb hS)
  ·by_cases hji:i=j
   ·subst hji;rw [eX oM] at hj;obtain rfl:=Option.some.inj hj;rw [fM hne] at hj';have o:g=b:=by simpa [Value.ownBlock] using hb
    subst o;exact fun hc=>d j' r' _ (fun e=>hne e.symm) hj' hc rfl
   ·rw [fM hji] at hj
    by_cases hji':i=j'
    ·subst hji';rw [eX oM] at hj';obtain rfl:=Option.some.inj hj';intro hc;have o:g=b:=by simpa [Value.ownBlock] using hc
     exact d j r b (fun e=>hji e.symm) hj hb o.symm
    ·rw [fM hji'] at hj';exact h.rows.2.2 j j' r r' b hj hj' hne hb
 have c:=dH W' gN i (.slice (some g) (l.length+1) cap);refine⟨fun u=>by rw [h.blk.cell,t.cell],za (by rw [a.cellAt i oM,hr]),a.frozenAt i,⟨t.frm c (fun e=>zq a t dM rfl e.symm),?_,?_,zf zjf c (fun b hb hS=>?_),D.frm c (fun k hk e=>oM),z.ag (p:=⟨gN,i,none⟩) B _,y,v⟩⟩
 ·rw [fB];exact (a.stored i _).1
 ·refine f.frm c (fun j r b hj hb hS=>?_);obtain⟨F,_,C⟩:=f.row hj;subst hS;exact zaI C a dM hb rfl
 ·subst hS;exact zaI zjf a dM hb rfl
end
def BdL (L:Nat) (ls:List (List Int)) (acc:List Bool):Prop:=ls.length<=L∧acc.length<=L∧∀ l∈ls,l.length<=L
theorem BdL.more {K:Nat}  (h:BdL L ls acc)(hK:L<=K):BdL K ls acc:=⟨dL h.1 hK,dL h.2.1 hK,fun l hl=>dL (h.2.2 l hl) hK⟩
def BdA (L:Nat) (b:Aut):Prop:=BdL L b.next b.acc
theorem BdA.of (h:zgc b):BdA 16 b:=by
 obtain⟨a,p,ha,hp1,hp,h1,d,h3,c⟩:=h;exact⟨oM,oM,fun l hl=>by have:=c l hl;have:=zy a 6;omega⟩
theorem tot_le :∀ ls:List (List Int),(∀ l∈ls,l.length<=L)->tot ls<=ls.length*L
 |[],_=>by simp [tot]
 |l :: r,h=>by
  have:=tot_le r (fun x hx=>h x (by simp [hx]))
  have:=h l sM
  rw [tot_cons,List.length_cons,Nat.add_mul]
  omega
theorem BdA.size (h:BdA L b)(hL:L<=200):b.size<=1048576:=by
 have h1:=tot_le b.next h.2.2;have a:b.next.length*L<=200*200:=Nat.mul_le_mul (dL h.1 hL) hL;have h3:=h.1;have c:=h.2.1;unfold Aut.size;omega
theorem yN03a2 {P:Prop}(h:P:=by
 intro vA w4 hownA hgA hatA;rw [Nat.zero_add,List.nil_append] at hownA;obtain⟨BA,dA,rfl⟩:=zg hownA;have hxA:Ext w2 w4:=hx0.grown hgA (fun k hk=>(hm.lt k hk).1);have hb:Blk w4 G 27 #[.int .i64 0,.slice none 0 0,.slice none 0 0]:=(hgA.block G hb.lt (fun e=>zq hm hb dM e.symm rfl)).trans hb;replace hx0:=hxA;refine hK.out _ _ hx0 ?_;refine pT ?_;refine uQ ?_;have cG:=hb.cell;have fG:=hb.frozen;refine zb fun K hK=>?_;go_simp;refine hK.out _ _ ?_;refine ze ?_;have zjh:Gra w2 (((w4.setCell G a.al).setCell ⟨G,1,none⟩ ()).setCell ⟨G,2,none⟩ (.slice BA n' dA)) G a.al (.slice none 0 0) [] (.slice BA n' dA) a.acc:=⟨zaq hb rfl _ _ _,⟨[],World.ownsRow_nil _ _ _ _,zE.nil _ _⟩,by
  rw [← hL'.out];exact zf hownA (zV w4 G _ _ _) (fun b hv hS=>zq hownA hb dM hv hS),hx0.frm (zV w4 G _ _ _) (fun k hk e=>oM),hG⟩
 go_wp2_with fail
 go_meet;exact⟨G,_,rfl,zjh⟩
 ):P:=h
theorem zat {lo hi:Nat}     {a:Aut} (h:zH w lo hi A n A' n' a)(hs:a.size<=1048576) :
  Calls Tryz.prog 165 #[.agg #[a.al,.slice A n c,.slice A' n' c']] w (RetAut w a):=by
 have h1:n<=1048576:=by have:=h.n1;unfold Aut.size at hs;omega
 have h2:n'<=1048576:=by have:=h.n2;unfold Aut.size at hs;omega
 have g:∀ (k:Nat) (l:List Int),a.next[k]?=some l->l.length<=1048576:=fun k l O=>by
  have h1:=zfB O;have h2:=zhl a.next (k+1);unfold Aut.size at hs;omega
 have E:=za g;have H:=za h.n1;have hL':=za h.n2;have HS:=za (fun W (hW:Ext w W)=>h.1.ext hW);have R:=za (fun W (hW:Ext w W)=>h.2.2.ext hW);have ab:=h.1.len;clear g h hs
 go_enter Tryz.func165,Tryz.ntmps165
 go_upto_region 1 with fail
 generalize U0:(w.alloc _).alloc _=w2 at *;obtain⟨o,F,bz⟩:=Ext.x2_ U0;have af:w.heap.size+2=w2.heap.size:=by rw [← U0];simp
 clear U0
 go_cut [3] (fun v wx=>∃ (G:Nat) (vA:Value),v=.pointer (some G)∧Gra w2 wx G a.al (.slice none 0 0) [] vA a.acc)
 case first =>
  have c1:=fun W (hW:Ext w2 W)=>(F.ext hW).cell;have D:=dB w2;refine uR (fun X=>Ext w2 X) [8] (zw.app [0,1,3,4] (zw.two 2 (zw.two 5 (zw.of [6,7,8]) 7 (zw.of [5,6,8])) 7 (zw.of [2,5,6,8]))) ?_;refine uQ ?_;have hx0:Ext w2 w2.drew:=D.drew;generalize w2.drew=m at *;refine zm (fun K hK=>?_) (fun K hK=>?_)
  ·go_simp;have hm:=World.ownsRow_made (base:=w2.heap.size) (e:=4) (size:=1) m #[] 0 hx0.size (dG _) rfl;have f:=(dB m).alloc (.cells #[] 4);replace hx0:=hx0.trans f;refine hK.out _ _ hx0 ?_;generalize m.alloc _=u at *;generalize m.heap.size=M at *;refine pT ?_;refine uQ ?_;clear hK;refine zm (fun K hK=>?_) (fun K hK=>?_)
   ·skip;refine zv u _ _ 25 rfl w2.heap.size 4 _ 1 1 Tryz.underlying25 zaT rfl dM (.slice (some M) 0 0) 0 [] rfl hm _ _ A' n' c' (zaw a.acc) rfl (R.out _ (o.trans hx0)) (zfa _) lM oM hx0.size ?_;intro vA w4 hownA hgA hatA;rw [dW,eG] at hownA;obtain⟨BA,dA,rfl⟩:=zg hownA;have hxA:Ext w2 w4:=hx0.grown hgA (fun k hk=>(hm.lt k hk).1);replace hx0:=hxA;refine hK.out _ _ hx0 ?_;refine pT ?_;refine uQ ?_;refine zd fun K hK=>?_;go_simp;have f:=(dB w4).alloc (.cells #[(0:Int),(),()] 27);have hG:=hx0.size;replace hownA:=zh hownA f;replace hx0:=hx0.trans f;refine hK.out _ _ hx0 ?_;generalize U0:w4.alloc _=p at *;have hb:=eA U0;clear U0;generalize w4.heap.size=G at *;refine pT ?_;refine uQ ?_;have cG:=hb.cell;have fG:=hb.frozen;refine zb fun K hK=>?_;go_simp;refine hK.out _ _ ?_;refine ze ?_;have zjh:Gra w2 (((p.setCell G a.al).setCell ⟨G,1,none⟩ ()).setCell ⟨G,2,none⟩ (.slice BA n' dA)) G a.al (.slice none 0 0) [] (.slice BA n' dA) a.acc:=⟨zaq hb rfl _ _ _,⟨[],World.ownsRow_nil _ _ _ _,zE.nil _ _⟩,by
     rw [← hL'.out];exact zf hownA (zV p G _ _ _) (fun b hv hS=>zq hownA hb dM hv hS),hx0.frm (zV p G _ _ _) (fun k hk e=>oM),hG⟩
    go_wp2_with fail
    go_meet;exact⟨G,_,rfl,zjh⟩
   ·go_simp;have f:=(dB u).alloc (.cells #[(0:Int),(),()] 27);have hG:=hx0.size;replace hm:=zh hm f;replace hx0:=hx0.trans f;refine hK.out _ _ hx0 ?_;generalize U0:u.alloc _=p at *;have hb:=eA U0;clear U0;generalize u.heap.size=G at *;refine pT ?_;refine uQ ?_;refine zd (fun K hK=>?_);refine zv p _ _ 25 rfl w2.heap.size 4 _ 1 1 Tryz.underlying25 zaT rfl dM (.slice (some M) 0 0) 0 [] rfl hm _ _ A' n' c' (zaw a.acc) rfl (R.out _ (o.trans hx0)) (zfa _) lM oM hx0.size ?_;exact yN03a2
  ·go_simp;have f:=(dB m).alloc (.cells #[(0:Int),(),()] 27);have hG:=hx0.size;replace hx0:=hx0.trans f;refine hK.out _ _ hx0 ?_;generalize U0:m.alloc _=p at *;have hb:=eA U0;clear U0;generalize m.heap.size=G at *;refine pT ?_;refine uQ ?_;refine zd fun K hK=>?_;go_simp;have hm:=World.ownsRow_made (base:=w2.heap.size) (e:=4) (size:=1) p #[] 0 hx0.size (dG _) rfl;have f:=(dB p).alloc (.cells #[] 4);replace hb:=hb.ext f;replace hx0:=hx0.trans f;refine hK.out _ _ hx0 ?_;generalize p.alloc _=u at *;generalize p.heap.size=M at *;refine pT ?_;refine uQ ?_;refine zd (fun K hK=>?_);refine zv u _ _ 25 rfl w2.heap.size 4 _ 1 1 Tryz.underlying25 zaT rfl dM (.slice (some M) 0 0) 0 [] rfl hm _ _ A' n' c' (zaw a.acc) rfl (R.out _ (o.trans hx0)) (zfa _) lM oM hx0.size ?_;exact yN03a2
 case rest =>
  obtain⟨G,vA,rfl,d⟩:=hcut;have Q:=(F.ext d.ext).cell;go_wp2_with fail
  go_loopw [4] (fun i wr=>∃ (k:Nat) (v:Value),k<=n∧i=.int .i64 k∧Gra w2 wr G a.al v (a.next.take k) vA a.acc) (fun i _=>n - (intOf i).toNat)
  case atStart=>exact⟨0,_,dG _,rfl,by simpa using d⟩
  case round =>
   clear d Q;obtain⟨k,v,hk,rfl,d⟩:=hrel
   by_cases hlt:k<n
   ·obtain⟨Z,Y,ck,l,rfl,_,_,O,I,J⟩:=(HS.out wr (o.trans d.ext)).row hlt;have ak:=E.out k l O.out;have T:=za (show a.next.take (k+1)=a.next.take k++[l] by rw [List.take_add_one,O.out];rfl);have L:=za (show (a.next.take k).length=k by rw [List.length_take];have:=H.out;omega);obtain⟨t,hv,C⟩:=d.own;have Q:=(F.ext d.ext).cell;go_upto_region 5 with fail
    clear Q;have cG:=fun W (hW:Ext wr W)=>(d.blk.ext hW).cell;have D:=dB wr;have S:=za (fun W (hW:Ext wr W)=>J.ext hW);have C1:∀ W,Ext wr W->∀ q,W.cell? ⟨w.heap.size,q,none⟩=#[Value.int .i64 a.al,.slice (some Z) n c,.slice A' n' c'][q]?:=fun W hW=>((F.ext d.ext).ext hW).cell;have Cr:∀ W,Ext wr W->W.cell? (Z.add k)=some (.slice Y l.length ck):=fun W hW=>hW.aa I;have aj:(k:Int)<(n:Int):=oM;clear I J;refine uR (fun X=>Ext wr X) [10,12] (zw.of [0,1,3,4,5,6,7,2,8,9,10,11,12]) ?_;refine uQ ?_;have hx0:Ext wr wr.drew:=D.drew;generalize wr.drew=m at *;refine zd fun K hK=>?_;go_simp;have hm:=World.ownsRow_made (base:=wr.heap.size) (e:=3) (size:=1) m #[] 0 hx0.size (dG _) rfl;have f:=(dB m).alloc (.cells #[] 3);replace hx0:=hx0.trans f;refine hK.out _ _ hx0 ?_;generalize m.alloc _=u at *;generalize m.heap.size=M at *;refine pT ?_;refine uQ ?_;refine zd (fun K hK=>?_);refine zv u _ _ 110 rfl wr.heap.size 3 _ 1 8 Tryz.underlying110 zS rfl dM (.slice (some M) 0 0) 0 [] rfl hm _ _ Y l.length ck (ints l) rfl (S.out _ hx0) (zgv _) lM oM hx0.size ?_;intro vR w3 g hgR hatR;rw [dW,eG] at g;obtain⟨BR,dR,rfl⟩:=zg g;have j:Ext wr w3:=hx0.grown hgR (fun k hk=>(hm.lt k hk).1);refine hK.out _ _ j ?_;refine pT ?_;refine uQ ?_;refine zd fun K hK=>?_;go_simp;refine hK.out _ _ (j.alloc _) ?_;refine pT ?_;refine zb fun K hK=>?_;refine zaE w2 w3 _ _ _ rfl 110 _ 1 24 Tryz.underlying24 zbw rfl dM v (a.next.take k).length t _ _ rfl rfl (d.ext.trans j).size (zh hv j) rfl (zaF _ _ _) (by unfold maxLen;have:=L.out;omega) (oH L.out) ?_;intro g5 cap5 w5 zjq hg5 hat5 hlt5;refine hK.out _ _ ?_;refine pT ?_;refine uQ ?_;obtain⟨p1,p2,p3⟩:=d.push C hv j g (W':=w5) zjq hg5 hat5;have an:=p1.out;refine zb fun K hK=>?_;go_simp;refine hK.out _ _ ?_;refine ze ?_;go_wp2_with fail
    go_roundw
    case rel=>exact⟨k+1,_,oM,gM,by rw [T.out];first|exact p3|simpa using p3⟩
    case measure=>simp [intOf];omega
   ·obtain rfl:n=k:=oM;obtain⟨r,s,rfl⟩:∃ r s,v=.slice r n s:=by
     obtain⟨t,hv,_⟩:=d.own;rw [dK (oH H.out),← H.out] at hv;exact zg hv
    obtain⟨x,y,rfl⟩:=zg d.acc;have Q:=(F.ext d.ext).cell;have cG:=d.blk.cell;have z:=bz.ext d.ext;have cZ:=z.cell;have fZ:=z.frozen;have B:=zV wr (w.heap.size+1) (.int .i64 a.al) (.slice r n s) (.slice x a.acc.length y);have U:=zaq z rfl (.int .i64 a.al) (.slice r n s) (.slice x a.acc.length y);have V:=(o.trans d.ext).frm B (fun k hk e=>oM);have zjh:=za (show RetAut w a (.returned (.agg #[a.al,.slice r n s,.slice x a.acc.length y])) (((wr.setCell ⟨w.heap.size+1,0,none⟩ a.al).setCell ⟨w.heap.size+1,1,none⟩ (.slice r n s)).setCell ⟨w.heap.size+1,2,none⟩ (.slice x a.acc.length y)) from by
     refine⟨r,n,s,x,a.acc.length,y,rfl,⟨?_,H.out,?_,rfl⟩,V⟩
     ·have ho:=d.own;rw [dK (oH H.out)] at ho;exact (ho.keep B (fun b h1 e=>oM)).less oM
     ·exact zn (zbq d.acc B (fun b h1 e=>oM)) oM)
    go_wp2_with fail
    generalize ((wr.setCell ⟨w.heap.size+1,0,none⟩ a.al).setCell ⟨w.heap.size+1,1,none⟩ (.slice r n s)).setCell ⟨w.heap.size+1,2,none⟩ (.slice x a.acc.length y)=wf at *;have cf:=U.cell;exact bodyPost_ret (v:=.agg #[a.al,.slice r n s,.slice x a.acc.length y]) (by simp [results,Tryz.results165,go_sem,cf]) rfl zjh.out
theorem eq_edge (a b c d e f:Int) (w:World):(Op.equalIn 10000 117 (.agg #[a,b,c]) (.agg #[d,e,f])).run Tryz.prog w=.ok (a==d&&(b==e&&c==f)) w:=by
 have h:=Tryz.underlying3;have g:=Tryz.isAgg3;have i:=Tryz.sizeOf3;have hS:Tryz.prog.underlying 117=some (.struct (Tryz.prog.fieldsOf 117)):=kM;have hp:Tryz.prog.stoodInHeld 117=false:=kM;rw [show (10000:Nat)=9999+1 from rfl,run_equalIn_agg w 9999 117 _ _ hS hp];simp only [Program.fieldsOf,Tryz.underlying117];go_simp
 by_cases h1:a=d<;>by_cases h2:b=e<;>by_cases h3:c=f<;>simp [h1,h2,h3]
theorem zdn (es:List Edg):∀ u∈zu es,u.oneCell'=true:=by
 induction es with
 |nil=>intro u h;cases h
 |cons e r ih =>
  intro u h;simp only [zu,List.mem_cons] at h;rcases h with rfl|rfl|rfl|h
  ·rfl
  ·rfl
  ·rfl
  ·exact ih u h
theorem zdo {k:Nat} {e:Edg}(h:es[k]?=some e) (x:Int) :
  (zu es).set (k*3) (.int .i64 x)=zu (es.set k ⟨x,e.le,e.ta⟩)∧(zu es).set (k*3+1) (.int .i64 x)=zu (es.set k ⟨e.fr,x,e.ta⟩)∧(zu es).set (k*3+2) (.int .i64 x)=zu (es.set k ⟨e.fr,e.le,x⟩):=by
 induction es generalizing k with
 |nil=>simp at h
 |cons a r ih =>
  cases k with
  |zero=>simp at h;subst h;exact⟨rfl,rfl,rfl⟩
  |succ k =>
   have:=ih (k:=k) (by simpa using h);have b:(k+1)*3=k*3+1+1+1:=oM;refine⟨?_,?_,?_⟩<;>rw [b]<;>simp only [zu,List.set_cons_succ]
   ·rw [this.1]
   ·rw [this.2.1]
   ·rw [this.2.2]
section
variable {w0 wB W:World} {R G M:Nat} {al st:Int} {es:List Edg}
theorem Acc.turn {m j:Nat}  {fs:List Edg}(h:Acc w0 wB W R G M al st (.slice (some g) m c) es)(hm:m=es.length)(hs:(zu es).set j (.int .i64 x)=zu fs)(hl:fs.length=es.length) :
  Acc w0 wB (W.setCell ⟨g,j,none⟩ x) R G M al st (.slice (some g) m c) fs:=by
 have d:g≠G:=h.far rfl;have l:=(h.own.lt g rfl).1;have i:=h.hR;have f:=h.hB;have a:=dH W g j (.int .i64 x);refine⟨h.blk.frm a oM,?_,h.rd.frm a (fun k h1 h2=>oM),h.dr.ag (by dsimp only;omega) _,?_,h.hR,h.hB,h.hG⟩
 ·have b:=h.own;rw [← hm] at b;have:=(b.stored j (.int .i64 x)).1;rw [hs] at this;rw [hl,← hm];exact this
 ·exact⟨h.fr.os,h.fr.tape,h.fr.output,by simpa [World.setCell] using h.fr.size,fun k hk hn=>(Below.heap_setCell _ _ _ _ (by dsimp only;omega)).trans (h.fr.block k hk hn)⟩
end
theorem wrong_acc (hr:Rd w R M)(hx:Ext w w1)(hR:R<w.heap.size)(hxW:Ext w1 W) (zje:W.ownsRow w1.heap.size 117 3 v es.length (zu es))(hG:w1.heap.size<=G)(hB:Blk W G 38 #[al,st,v]) :
  Acc w w1 W R G M al st v es:=
 ⟨hB,zje,hr.ext (hx.trans hxW),(hx.trans hxW).dr,hxW.aj,hR,hx.size,dL hx.size hG⟩
theorem edge_lit (w:World):(w.alloc (.cells #[] 117)).drew.ownsRow w.heap.size 117 3 (.slice (some w.heap.size) 0 0) 0 []:=
 World.ownsRow_lit w #[] 0 (dE _) lM rfl
theorem ziu (hn:n=es.length)(h:W.ownsRow base 117 3 v n (zu es)):W.ownsRow base 117 3 v es.length (zu es):=by
 subst hn;exact h
theorem zgb (hr:Rd w R M)(hx:Ext w w1)(hR:R<w.heap.size)(hxW:Ext w1 W) (zje:W.ownsRow w1.heap.size 117 3 v es.length (zu es))(hB:Blk W G 38 #[(0:Int),(0:Int),()])(hG:w1.heap.size<=G) :
  ∃ (G':Nat) (v':Value),Value.pointer (some G)=.pointer (some G')∧w1.heap.size<=G'∧Acc w w1 (((W.setCell G al).setCell ⟨G,1,none⟩ st).setCell ⟨G,2,none⟩ v) R G' M al st v' es:=by
 have f:=zdW W G (.int .i64 al) (.int .i64 st) v;have a:∀ b,v.ownBlock=some b->b≠G:=by
  rintro b hv rfl;rcases zje.2 with ⟨rfl,_⟩|⟨g,c,d,rfl,_,i,_⟩
  ·simp [Value.ownBlock] at hv
  ·have h:g=b:=by simpa [Value.ownBlock] using hv
   subst h;unfold Blk at hB;rw [i] at hB;injection hB with hB
   injection hB with _ ht
   exact absurd ht dM
 refine⟨G,v,rfl,hG,wrong_acc hr hx hR ?_ (zf zje f (fun b hv hS=>a b hv hS)) hG (by simpa using ((hB.ae 0 (.int .i64 al)).ae 1 (.int .i64 st)).ae 2 v)⟩;exact ((hxW.setCell (p:=⟨G,0,none⟩) hG _).setCell (p:=⟨G,1,none⟩) hG _).setCell (p:=⟨G,2,none⟩) hG _
theorem zgq {wB:World}     (h:Acc w0 wB W R G M al st (.slice A n c) es)(hn:0<n):∃ g,A=some ⟨g,0,none⟩:=by
 rcases h.own.2 with ⟨hv,d⟩|⟨g,a,b,hv,_⟩
 ·injection hv with _ h2 _;omega
 ·injection hv with h1
  exact⟨g,h1⟩
theorem yN03a5 {P:Prop}(h:P:=by
 have h1':=h1.out;refine zN fun K hK=>?_;go_simp;refine hK.out _ _ ?_;refine zal ?_;go_wp2_with fail
 go_meet;exact⟨_,_,_,_,h3.more oM,by have:=HnL.out;simp;omega⟩
 ):P:=h
theorem yN03a6 {P:Prop}(h:P:=by
 refine zN fun K hK=>?_;go_simp;refine hK.out _ _ ?_;refine zal ?_;go_wp2_with fail
 go_meet;exact⟨_,_,_,_,hst.more oM,by have:=HnL.out;simp;omega⟩
 ):P:=h
theorem zbK (h:Rd w R M)(hM:M<=900000000)(hs:zbt w R A n s)(hn:n<=L)(hL:L<=100000) :
  Calls Tryz.prog 117 #[.pointer (some R),.agg #[s.al,s.st,.slice A n c]] w (RetA R (M+10) (L+1) w):=by
 have hRl:=h.lt;have J:=hs.at_.2;have D:=za hs.1;obtain⟨al,st,b⟩:=s;simp only at J D ⊢;obtain⟨a,U0⟩:∃ x,Hid ((w.alloc (.cells #[al,st,.slice A n c] 38)).alloc (.cells #[(0:Int),(0:Int),()] 38)=x):=⟨_,za rfl⟩;have am:Ext w a:=(((dB _).alloc _).alloc _).trans (Ext.eq_ U0.out);obtain⟨bS,bZ⟩:=zM (Ext.eq_ U0.out);have ak:a.heap.size=w.heap.size+2:=by rw [← U0.out];simp
 have aq:=za bS;have aa:=za bZ;have C:=za am;have ar:=za ak;clear bS bZ am ak hs
 go_enter Tryz.func117,Tryz.ntmps117
 go_wp2_with fail
 rw [U0.out] at *;have aU:w.heap.size+2<=a.heap.size:=by rw [ar.out];exact dE _
 go_upto_region 1 with fail
 go_cut [5] (fun s5 wx=>∃ (G:Nat) (v:Value),s5=.pointer (some G)∧a.heap.size<=G∧Acc w a wx R G M al st v b)
 case first =>
  have cS:=fun W (hW:Ext a W)=>(aq.out.ext hW).cell;refine tR (fun X=>Ext a X) [10] (Ord.app [0,1,2,3,5,6] (Ord.two 4 (Ord.two 7 (Ord.of [8,9,10]) 9 (Ord.of [7,8,10])) 9 (Ord.of [4,7,8,10]))) ?_;refine tQ ?_;refine zfC (fun K hK=>?_) (fun K hK=>?_)
  ·go_simp;have j:Ext a (a.alloc (.cells #[] 117)).drew:=((dB a).alloc _).drew;have zje:(a.alloc (.cells #[] 117)).drew.ownsRow a.heap.size 117 3 (.slice (some a.heap.size) 0 0) 0 []:=edge_lit a;have T:(a.alloc (.cells #[] 117)).drew.heap.size=a.heap.size+1:=sM;refine hK.out _ _ j ?_;refine pT ?_;generalize (a.alloc (.cells #[] 117)).drew=w2 at *;refine zfC (fun K hK=>?_) (fun K hK=>?_)
   ·refine zv _ _ _ _ rfl a.heap.size 117 _ 3 24 Tryz.underlying36 zbb rfl dM (.slice (some a.heap.size) 0 0) 0 [] rfl zje (R+1) w.heap.size A n c (zu b) rfl (J.ext (C.out.trans j)) (zdn b) lM oM j.size ?_;intro v U zjp hg3 hat3;rw [dW,eG] at zjp;obtain⟨A3,c3,rfl⟩:=zg zjp;have f:Ext a U:=j.grown hg3 (fun k hk=>by simp [Value.ownBlock] at hk;omega);refine hK.out _ _ f ?_;refine pT ?_;refine tQ ?_;refine zB fun K hK=>?_;go_simp;refine hK.out _ _ (f.alloc _) ?_;refine pT ?_;refine tQ ?_;refine zN fun K hK=>?_;go_simp;refine hK.out _ _ ?_;refine zal ?_;go_wp2_with fail
    go_meet;exact⟨U.heap.size,.slice A3 n c3,rfl,f.size,wrong_acc h C.out hRl (f.alloc _) (zh (ziu D.out zjp) ((dB _).alloc _)) f.size (dX _ _ _)⟩
   ·go_simp;have f:=j.alloc (.cells #[(0:Int),(0:Int),()] 38);have an:=(dB w2).alloc (.cells #[(0:Int),(0:Int),()] 38);replace zje:=zh zje an;refine hK.out _ _ f ?_;generalize U0:w2.alloc _=aW at *;have H:=eA U0;clear U0;rw [T] at H;have j:=f;refine pT ?_;refine zB (fun K hK=>?_);refine zv _ _ _ _ rfl a.heap.size 117 _ 3 24 Tryz.underlying36 zbb rfl dM (.slice (some a.heap.size) 0 0) 0 [] rfl zje (R+1) w.heap.size A n c (zu b) rfl (J.ext (C.out.trans j)) (zdn b) lM oM j.size ?_;intro v U zjp hg3 hat3;rw [dW,eG] at zjp;obtain⟨A3,c3,rfl⟩:=zg zjp;have f:Ext a U:=j.grown hg3 (fun k hk=>by simp [Value.ownBlock] at hk;omega);have r:Blk U (a.heap.size+1) 38 #[.int .i64 0,.int .i64 0,.slice none 0 0]:=H.frm (Frm.ab hg3) (by simp [Value.ownBlock]);refine hK.out _ _ f ?_;refine pT ?_;refine tQ ?_;have cE:=r.cell;have fE:=r.frozen;refine zN fun K hK=>?_;go_simp;refine hK.out _ _ ?_;refine zal ?_;go_wp2_with fail
    go_meet;exact zgb h C.out hRl f (ziu D.out zjp) r oM
  ·go_simp;have j:Ext a (a.alloc (.cells #[(0:Int),(0:Int),()] 38)).drew:=((dB a).alloc _).drew;have au:Blk (a.alloc (.cells #[(0:Int),(0:Int),()] 38)).drew a.heap.size 38 #[.int .i64 0,.int .i64 0,.slice none 0 0]:=dX a _ _;have T:(a.alloc (.cells #[(0:Int),(0:Int),()] 38)).drew.heap.size=a.heap.size+1:=sM;refine hK.out _ _ j ?_;refine pT ?_;generalize (a.alloc (.cells #[(0:Int),(0:Int),()] 38)).drew=w2 at *;refine zB fun K hK=>?_;go_simp;have f:=j.alloc (.cells #[] 117);have zje:(w2.alloc (.cells #[] 117)).ownsRow a.heap.size 117 3 (.slice (some ⟨a.heap.size+1,0,none⟩) 0 0) 0 []:=by
    rw [← T];exact World.ownsRow_lit w2 #[] 0 j.size lM rfl
   have H:=au.ext ((dB w2).alloc (.cells #[] 117));refine hK.out _ _ f ?_;generalize w2.alloc _=U at *;refine pT ?_;refine zB (fun K hK=>?_);refine zv _ _ _ _ rfl a.heap.size 117 _ 3 24 Tryz.underlying36 zbb rfl dM (.slice (some ⟨a.heap.size+1,0,none⟩) 0 0) 0 [] rfl zje (R+1) w.heap.size A n c (zu b) rfl (J.ext (C.out.trans f)) (zdn b) lM oM f.size ?_;intro v w4 hown4 hg4 hat4;rw [dW,eG] at hown4;obtain⟨A4,c4,rfl⟩:=zg hown4;have ao:Ext a w4:=f.grown hg4 (fun k hk=>by simp [Value.ownBlock] at hk;omega);have r:Blk w4 a.heap.size 38 #[.int .i64 0,.int .i64 0,.slice none 0 0]:=H.frm (Frm.ab hg4) (by simp [Value.ownBlock]);refine hK.out _ _ ao ?_;refine pT ?_;refine tQ ?_;have cE:=r.cell;have fE:=r.frozen;refine zN fun K hK=>?_;go_simp;refine hK.out _ _ ?_;refine zal ?_;go_wp2_with fail
   go_meet;exact zgb h C.out hRl ao (ziu D.out hown4) r (dE _)
 case rest =>
  obtain⟨G,v,rfl,aS,zjf⟩:=hcut;obtain⟨A1,n1,V,rfl⟩:=zjf.form;obtain⟨rfl,aj⟩:=zjf.reads;have aT:=zjf.hG;have cG:=zjf.blk.cell;have ah:=aj.2.len;clear aj;have ax:b.length<=L:=oH D.out;have HnL:=za ax;go_wp2_with fail
  refine (zx (n:=b.length) zjf.rd oM).mono ?_;rintro e U ⟨k,rfl,af,aw,ai,ae⟩;replace zjf:=zjf.drawn ae ai;clear ae ai cG;have Hk:=za af;clear af aw;go_wp2_with fail
  refine (zx (n:=30) zjf.rd oM).mono ?_;rintro e w4 ⟨y,rfl,-,-,hr4,hd4⟩;replace zjf:=zjf.drawn hd4 hr4;clear hd4 hr4;go_upto_block 0 with fail
  go_cut [] (fun wx=>∃ (al st:Int) (v:Value) (Q:List Edg),Acc w a wx R G (M+10) al st v Q∧Q.length<=L+1)
  case first =>
   have aN:=za ah;clear ah;have I:y=0∨y=1∨y=2∨y=3∨y=4∨y=5∨y=6∨7<=y:=oM;rcases I with B|B|B|B|B|B|B|B
   ·subst B;have ay:True:=trivial;go_wp2_with fail
    refine (zaN [64,(-1),1,63] 4 #[(64:Int),.int .i64 (-1),(1:Int),(63:Int)] rfl rfl oM oM zjf.rd oM).mono ?_;rintro e E ⟨x,-,rfl,o,i⟩;replace zjf:=(zjf.ext ((dB _).alloc _)).drawn i o;have cG:=zjf.blk.cell;have fG:=zjf.blk.frozen;go_wp2_with fail
    go_meet;exact⟨_,_,_,b,(zjf.setAl x).more oM,oH HnL.out⟩
   ·subst B;have ay:True:=trivial;go_wp2_with fail
    refine (zaN [0,17,(-1),16,1] 5 #[(0:Int),(17:Int),.int .i64 (-1),(16:Int),(1:Int)] rfl rfl oM oM zjf.rd oM).mono ?_;rintro e E ⟨x,-,rfl,o,i⟩;replace zjf:=(zjf.ext ((dB _).alloc _)).drawn i o;have cG:=zjf.blk.cell;have fG:=zjf.blk.frozen;go_wp2_with fail
    go_meet;exact⟨_,_,_,b,(zjf.setSt x).more oM,oH HnL.out⟩
   ·subst B
    by_cases hn0:0<b.length
    ·have hk:=Hk.out oM;have t:k<b.length:=oM;obtain⟨g,rfl⟩:=zgq zjf hn0;have m:b.length≠0:=oM;have S:R<a.heap.size:=by have:=zjf.hR;have:=zjf.hB;omega
     have cG:∀ W,Dr R w4 W->∀ q,W.cell? ⟨G,q,none⟩=#[Value.int .i64 al,.int .i64 st,.slice (some g) b.length V][q]?:=fun W hW=>(zjf.blk.dr hW (oH zjf.hG)).cell;clear hk m;go_wp2_with fail
     refine tR (fun X=>Dr R w4 X) [8] (Ord.of [0,1,2,3,4,5,6,7,8]) ?_;refine tQ ?_;refine zB fun K hK=>?_;go_simp;refine hK.out _ _ ((Dr.refl R w4).drew.alloc _) ?_;refine pT ?_;refine tQ ?_;refine zB fun K hK=>?_;go_simp;refine (zaN (w:=w4.drew) [(-1),16,0,2] 4 #[.int .i64 (-1),(16:Int),(0:Int),(2:Int)] rfl rfl oM oM (zjf.rd.ext (dB _).drew) oM).mono ?_;rintro e E ⟨x,-,rfl,o,i⟩;have l:Dr R w4 E:=((Dr.refl R w4).drew.alloc _).trans i;have d:=zjf.drawn l o;refine hK.out _ _ l ?_;refine pT ?_;refine tQ ?_;have zje:=d.own;obtain⟨o0,c0⟩:=zaM zje (k*3) oM;have f0:=zje.frozenAt (k*3);have hst:=d.turn rfl (zdo (dD t) x).1 sM;exact yN03a6
    ·have hn1:b.length=0:=oM;clear hn0;go_wp2_with fail
     go_meet;exact⟨_,_,_,b,zjf.more oM,oH HnL.out⟩
   ·subst B
    by_cases hn0:0<b.length
    ·have hk:=Hk.out oM;have t:k<b.length:=oM;obtain⟨g,rfl⟩:=zgq zjf hn0;have m:b.length≠0:=oM;have S:R<a.heap.size:=by have:=zjf.hR;have:=zjf.hB;omega
     have cG:∀ W,Dr R w4 W->∀ q,W.cell? ⟨G,q,none⟩=#[Value.int .i64 al,.int .i64 st,.slice (some g) b.length V][q]?:=fun W hW=>(zjf.blk.dr hW (oH zjf.hG)).cell;clear hk m;go_wp2_with fail
     refine tR (fun X=>Dr R w4 X) [8] (Ord.of [0,1,2,3,4,5,6,7,8]) ?_;refine tQ ?_;refine zB fun K hK=>?_;go_simp;refine hK.out _ _ ((Dr.refl R w4).drew.alloc _) ?_;refine pT ?_;refine tQ ?_;refine zB fun K hK=>?_;go_simp;refine (zaN (w:=w4.drew) [(-1),16,0,3] 4 #[.int .i64 (-1),(16:Int),(0:Int),(3:Int)] rfl rfl oM oM (zjf.rd.ext (dB _).drew) oM).mono ?_;rintro e E ⟨x,-,rfl,o,i⟩;have l:Dr R w4 E:=((Dr.refl R w4).drew.alloc _).trans i;have d:=zjf.drawn l o;refine hK.out _ _ l ?_;refine pT ?_;refine tQ ?_;have zje:=d.own;obtain⟨o0,c0⟩:=zaM zje (k*3+2) oM;have f0:=zje.frozenAt (k*3+2);have hst:=d.turn rfl (zdo (dD t) x).2.2 sM;exact yN03a6
    ·have hn1:b.length=0:=oM;clear hn0;go_wp2_with fail
     go_meet;exact⟨_,_,_,b,zjf.more oM,oH HnL.out⟩
   ·subst B
    by_cases hn0:0<b.length
    ·have hk:=Hk.out oM;have t:k<b.length:=oM;obtain⟨g,rfl⟩:=zgq zjf hn0;have m:b.length≠0:=oM;have S:R<a.heap.size:=by have:=zjf.hR;have:=zjf.hB;omega
     have cG:∀ W,Dr R w4 W->∀ q,W.cell? ⟨G,q,none⟩=#[Value.int .i64 al,.int .i64 st,.slice (some g) b.length V][q]?:=fun W hW=>(zjf.blk.dr hW (oH zjf.hG)).cell;clear hk m;go_wp2_with fail
     refine tR (fun X=>Dr R w4 X) [8] (Ord.of [0,1,2,3,4,5,6,7,8]) ?_;refine tQ ?_;refine zB fun K hK=>?_;go_simp;refine hK.out _ _ ((Dr.refl R w4).drew.alloc _) ?_;refine pT ?_;refine tQ ?_;refine zB fun K hK=>?_;go_simp;refine (zaN (w:=w4.drew) [(-1),6,70,5,0] 5 #[.int .i64 (-1),(6:Int),(70:Int),(5:Int),(0:Int)] rfl rfl oM oM (zjf.rd.ext (dB _).drew) oM).mono ?_;rintro e E ⟨x,-,rfl,o,i⟩;have l:Dr R w4 E:=((Dr.refl R w4).drew.alloc _).trans i;have d:=zjf.drawn l o;refine hK.out _ _ l ?_;refine pT ?_;refine tQ ?_;have zje:=d.own;obtain⟨o0,c0⟩:=zaM zje (k*3+1) oM;have f0:=zje.frozenAt (k*3+1);have hst:=d.turn rfl (zdo (dD t) x).2.1 sM;exact yN03a6
    ·have hn1:b.length=0:=oM;clear hn0;go_wp2_with fail
     go_meet;exact⟨_,_,_,b,zjf.more oM,oH HnL.out⟩
   ·subst B
    by_cases hn0:0<b.length
    ·have hk:=Hk.out oM;have t:k<b.length:=oM;obtain⟨g,rfl⟩:=zgq zjf hn0;have m:b.length≠0:=oM;have zje:=zjf.own;have hE:=za (dD t);obtain⟨Y,av⟩:∃ Y,Hid (b[k]?=some Y):=⟨_,hE.out⟩;obtain⟨d0,d1,d2⟩:=zcv av.out;have cG:=fun W (hW:Ext w4 W)=>(zjf.blk.ext hW).cell;have C0:∀ W,Ext w4 W->W.cell? ⟨g,k*3,none⟩=some (.int .i64 Y.fr):=fun W hW=>hW.aa (by rw [zje.cellAt _ oM];exact d0);have C1:∀ W,Ext w4 W->W.cell? ⟨g,k*3+1,none⟩=some (.int .i64 Y.le):=fun W hW=>hW.aa (by rw [zje.cellAt _ oM];exact d1);have C2:∀ W,Ext w4 W->W.cell? ⟨g,k*3+2,none⟩=some (.int .i64 Y.ta):=fun W hW=>hW.aa (by rw [zje.cellAt _ oM];exact d2);clear hk m d0 d1 d2;go_wp2_with fail
     refine tR (fun X=>Ext w4 X) [8,10] (Ord.of [0,1,2,3,4,5,6,7,8,9,10]) ?_;refine tQ ?_;refine zB fun K hK=>?_;go_simp;refine hK.out _ _ ((dB _).drew.alloc _) ?_;refine pT ?_;refine zN fun K hK=>?_;refine zaE a w4.drew _ _ _ rfl 117 _ 3 24 Tryz.underlying36 zbb rfl dM (.slice (some g) b.length V) b.length (zu b) _ _ rfl rfl zjf.fr.size zje rfl (by simp [Value.oneCell']) lM oM ?_;intro g5 cap5 E zjq hg5 hat5 hlt5;refine hK.out _ _ ?_;refine pT ?_;refine tQ ?_;obtain⟨h1,h2,h3⟩:=(zjf.ext ((dB _).drew)).push (e:=Y) (W':=E) zjq hg5 hat5;exact yN03a5
    ·have hn1:b.length=0:=oM;clear hn0;go_wp2_with fail
     go_meet;exact⟨_,_,_,b,zjf.more oM,oH HnL.out⟩
   ·subst B;have S:R<a.heap.size:=by have:=zjf.hR;have:=zjf.hB;omega
    have cG:∀ W,Dr R w4 W->∀ q,W.cell? ⟨G,q,none⟩=#[Value.int .i64 al,.int .i64 st,.slice A1 b.length V][q]?:=fun W hW=>(zjf.blk.dr hW (oH zjf.hG)).cell;go_wp2_with fail
    refine tR (fun X=>Dr R w4 X) [10,12] (Ord.of [0,1,2,4,6,3,5,7,8,9,10,11,12]) ?_;refine tQ ?_;refine zB fun K hK=>?_;go_simp;refine (zx (n:=4) (zjf.rd.ext (dB _).drew) oM).mono ?_;rintro e E ⟨x,rfl,-,-,o,i⟩;replace i:=((Dr.refl R w4).drew).trans i;refine hK.out _ _ i ?_;refine pT ?_;refine tQ ?_;refine zB fun K hK=>?_;go_simp;refine (zx (n:=3) o oM).mono ?_;rintro e w6 ⟨z,rfl,-,-,hr6,hd6⟩;replace hd6:=i.trans hd6;refine hK.out _ _ hd6 ?_;refine pT ?_;refine tQ ?_;refine zB fun K hK=>?_;go_simp;refine (zx (n:=4) hr6 oM).mono ?_;rintro e w7 ⟨u,rfl,-,-,hr7,hd7⟩;replace hd7:=hd6.trans hd7;refine hK.out _ _ hd7 ?_;have p:=zjf.drawn hd7 hr7;refine pT ?_;refine tQ ?_;refine zB fun K hK=>?_;go_simp;refine hK.out _ _ (hd7.alloc _) ?_;refine pT ?_;refine zN fun K hK=>?_;refine zaE a w7 _ _ _ rfl 117 _ 3 24 Tryz.underlying36 zbb rfl dM (.slice A1 b.length V) b.length (zu b) _ _ rfl rfl p.fr.size p.own rfl (by simp [Value.oneCell']) (by unfold maxLen;have:=HnL.out;omega) (oH HnL.out) ?_;intro g8 cap8 w8 hown8 hg8 hat8 hlt8;refine hK.out _ _ ?_;refine pT ?_;refine tQ ?_;obtain⟨h1,h2,h3⟩:=p.push (e:=⟨x,z,u⟩) (W':=w8) hown8 hg8 hat8;exact yN03a5
   ·have h0:((y:Int)==0)=false:=by simp;omega
    have h1:((y:Int)==1)=false:=by simp;omega
    have h2:((y:Int)==2)=false:=by simp;omega
    have h3:((y:Int)==3)=false:=by simp;omega
    have h4:((y:Int)==4)=false:=by simp;omega
    have h5:((y:Int)==5)=false:=by simp;omega
    have h6:((y:Int)==6)=false:=by simp;omega
    clear B;go_wp2_with fail
    go_meet;exact⟨_,_,_,b,zjf.more oM,oH HnL.out⟩
  case rest =>
   clear zjf;obtain⟨F,O,v',Q,zjf,ag⟩:=hcut;obtain⟨A',n',c',rfl⟩:=zjf.form;obtain⟨rfl,_⟩:=zjf.reads;have cG:=zjf.blk.cell;have ad:=aa.out.frm zjf.fr oM;have cz:=ad.cell;have aV:=aa.out.lt;have fz:=ad.frozen;obtain⟨f1,f2,f3⟩:=zjf.fin (Z:=w.heap.size+1) oM oM (.int .i64 F) (.int .i64 O) (.slice A' Q.length c');have ab:=za (show RetA R (M+10) (L+1) w (.returned (.agg #[F,O,.slice A' Q.length c'])) _ from ⟨⟨F,O,Q⟩,A',Q.length,c',rfl,f1,⟨ag,ziG zjf.own⟩,f2,f3⟩);clear f1 f2 f3;go_wp2_with fail
   exact bodyPost_ret (v:=.agg #[F,O,.slice A' Q.length c']) (by simp [results,Tryz.results117,go_sem,cz]) rfl ab.out
def lenAt (W:World) (G:Nat):Nat:=match W.cell? ⟨G,1,none⟩ with|some (.slice _ n _)=>n|_=>0
theorem zbA.lenAt {vA:Value} {rows:List Value}  (h:zbA w0 W R G M al (.slice A n c) rows ls vA acc):Go.Proofs.YtckbjnndaaoddaaGreatDoor.lenAt W G=n:=by
 unfold Go.Proofs.YtckbjnndaaoddaaGreatDoor.lenAt;rw [h.blk.cell 1];rfl
theorem yN03a7 {P:Prop}(h:P:=by
 have hn1:m=0:=oM;clear hn0;have cG:=zjf.blk.cell;go_wp2_with fail
 go_meet;exact⟨_,_,_,_,_,_,zjf.more oM,za (Hb.out.more oM)⟩
 ):P:=h
theorem zbL (h:Rd w R M)(hM:M<=900000000)(ho:zZ w (R+1) A n c A' n' c' b)(hb:BdA L b)(hL:L<=100) :
  Calls Tryz.prog 77 #[.pointer (some R),.agg #[b.al,.slice A n c,.slice A' n' c']] w (zgd R (M+10) (BdA (L+13)) w):=by
 have hRl:=h.lt;have ay:=hb.size oM
 go_enter Tryz.func77,Tryz.ntmps77
 have hx0:=(dB w).alloc (.cells #[b.al,.slice A n c,.slice A' n' c'] 27);have b0:=dX w 27 #[b.al,.slice A n c,.slice A' n' c'];have aQ:(w.alloc (.cells #[b.al,.slice A n c,.slice A' n' c'] 27)).heap.size=w.heap.size+1:=sM;have T:=hx0.alloc (.cells #[(0:Int),(),()] 27);have bz:=dX (w.alloc (.cells #[b.al,.slice A n c,.slice A' n' c'] 27)) 27 #[(0:Int),(),()];replace b0:=b0.ext ((dB _).alloc (.cells #[(0:Int),(),()] 27));rw [aQ] at bz;have c0:=b0.cell;go_upto_region 1 with fail
 generalize (w.alloc _).alloc _=F at *;have aU:=bz.lt;go_wp2_with fail
 refine (zat (ho.ext T).reads ay).mono ?_;rintro e w2 ⟨B,m,d,B',m',d',rfl,zje,ai⟩;obtain⟨a,zjf⟩:=zbA.of (R:=R) (M:=M) zje (h.ext (T.trans ai)) ai.dr oM;have hG:=ai.size;have hm:m=b.next.length:=zje.2.1;have bp:m<=100:=oH hb.1;have Y:=za hm;have Hb:=za hb;clear zje ho hm hb ay;go_upto_region 2 with fail
 generalize w2.alloc _=w3 at *;generalize w2.heap.size=G at *;have cG:=zjf.blk.cell;go_wp2_with fail
 refine (zx zjf.rd oM).mono ?_;rintro e w4 ⟨k,rfl,aq,-,hr4,hd4⟩;replace zjf:=zjf.drawn hd4 hr4;have Hk:=za aq;clear hd4 hr4 cG aq;go_wp2_with fail
 refine (zx zjf.rd oM).mono ?_;rintro e z ⟨y,rfl,-,-,ax,an⟩;replace zjf:=zjf.drawn an ax;clear an ax;go_upto_block 0 with fail
 go_cut [] (fun wx=>∃ (al:Int) (v:Value) (a:List Value) (u:List (List Int)) (vA:Value) (acc:List Bool),zbA F wx R G (M+10) al v a u vA acc∧Hid (BdL (L+13) u acc))
 case first =>
  have aa:y=0∨y=1∨y=2∨y=3∨y=4∨y=5∨6<=y:=oM;rcases aa with H|H|H|H|H|H|H
  ·subst H;have U:True:=trivial;go_wp2_with fail
   refine (zaN [64,(-1),1,63,0] 5 #[(64:Int),.int .i64 (-1),(1:Int),(63:Int),(0:Int)] rfl rfl oM oM zjf.rd oM).mono ?_;rintro e C ⟨x,-,rfl,hr6,hd6⟩;replace zjf:=(zjf.ext ((dB _).alloc _)).drawn hd6 hr6;have cG:=zjf.blk.cell;have fG:=zjf.blk.frozen;go_wp2_with fail
   go_meet;exact⟨_,_,_,_,_,_,(zjf.setAl x).more oM,za (Hb.out.more oM)⟩
  ·subst H;have U:True:=trivial;have cG:=zjf.blk.cell;have E:=zjf.dr.size;have hal:b.acc.length<=100:=oH Hb.out.2.1;go_wp2_with (at_builtin;refine zQ F z rfl _ _ _ rfl 4 _ 1 1 Tryz.underlying25 zaT rfl dM (.slice B' m' d') b.acc.length (zaw b.acc) _ _ rfl rfl E zjf.acc rfl (by simp [Value.oneCell']) lM oM ?_;intro g6 cap6 C hown6 hg6 hat6 hlt6;obtain⟨q1,q2,q3⟩:=zjf.aq (x:=true) hown6 hg6 hat6;have aW:=q1.out)
   go_meet;exact⟨_,_,_,_,_,_,q3.more oM,za ⟨oH Hb.out.1,by have:=Hb.out.2.1;simp;omega,fun l t=>by have:=Hb.out.2.2 l t;omega⟩⟩
  ·subst H;have U:True:=trivial
   by_cases hn0:0<m
   ·have hk:=Hk.out oM;have O:k<b.next.length:=oH Y.out;obtain⟨l,t⟩:∃ l,b.next[k]?=some l:=⟨_,dD O⟩;obtain⟨Z,rfl,ao,-⟩:=zag (show z.ownsRow F.heap.size 110 1 (.slice B m d) m a from by have:=zjf.nx;rw [← Y.out] at this;exact this) hn0;obtain⟨V,I,hr,f,s⟩:=zjf.row t Y.out;have ag:l.length<=100:=by have:=Hb.out.2.2 l (dC t);omega
    have HL:=za t;have HR:=za hr;have E:=zjf.dr.size;have cG:∀ W,Frm (fun b=>(Value.slice V l.length I).ownBlock=some b) z W->∀ q,W.cell? ⟨G,q,none⟩=#[Value.int .i64 b.al,.slice (some Z) m d,.slice B' m' d'][q]?:=fun W hW=>(zjf.blk.frm hW (fun e=>zq s zjf.blk dM e rfl)).cell;have cN:∀ W,Frm (fun b=>(Value.slice V l.length I).ownBlock=some b) z W->W.cell? ⟨Z,k,none⟩=some (.slice V l.length I):=fun W hW=>by
     have hx:W.ownsRow F.heap.size 110 1 (.slice (some Z) m d) b.next.length a:=zf zjf.nx hW (fun b hb hS=>zaI zjf.nx s dM hb hS);rw [← Y.out] at hx;rw [hx.cellAt k oM,HR.out]
    have bc:Frm (fun b=>(Value.slice V l.length I).ownBlock=some b) z z.drew:=(dB z).drew.aj;clear t hr f O;go_wp2_with fail
    refine tR (fun X=>Frm (fun b=>(Value.slice V l.length I).ownBlock=some b) z X) [11] (Ord.of [0,1,2,3,4,5,6,7,8,9,10,11]) ?_;refine tQ ?_;refine zB fun K hK=>?_;go_simp;have ab:=(dB z).drew;refine hK.out _ _ (ab.alloc _).aj ?_;refine pT ?_;refine zB (fun K hK=>?_);refine zaE F z.drew _ _ _ rfl 3 _ 1 8 Tryz.underlying110 zS rfl dM (.slice V l.length I) l.length (ints l) _ _ rfl rfl E (zh s ab) rfl (by simp [Value.oneCell']) lM oM ?_;intro g6 cap6 C hown6 hg6 hat6 hlt6;obtain⟨q1,q2,q3,q4⟩:=(zjf.ext ab).growRow (x:=0) Y.out HR.out HL.out hown6 hg6 hat6;have bs:=q2.out;refine hK.out _ _ (ab.aj.trans (Frm.ab hg6)) ?_;refine pT ?_;refine tQ ?_;refine zN fun K hK=>?_;go_simp;refine hK.out _ _ ?_;refine zal ?_;go_wp2_with fail
    go_meet;refine⟨_,_,_,_,_,_,q4.more oM,za ⟨by have:=Hb.out.1;rw [fB];omega,oH Hb.out.2.1,fun l' hl'=>?_⟩⟩;rcases e8 hl' with h1|h1
    ·have:=Hb.out.2.2 l' h1;omega
    ·have:=Hb.out.2.2 l (dC HL.out);rw [h1];simp;omega
   ·exact yN03a7
  ·subst H;have U:True:=trivial
   by_cases hn0:0<m
   ·have hk:=Hk.out oM;have O:k<b.next.length:=oH Y.out;obtain⟨l,t⟩:∃ l,b.next[k]?=some l:=⟨_,dD O⟩;obtain⟨Z,rfl,ao,-⟩:=zag (show z.ownsRow F.heap.size 110 1 (.slice B m d) m a from by have:=zjf.nx;rw [← Y.out] at this;exact this) hn0;obtain⟨V,I,hr,f,s⟩:=zjf.row t Y.out;have ag:l.length<=100:=by have:=Hb.out.2.2 l (dC t);omega
    have HL:=za t;have HR:=za hr;have aG:=za (Hb.out.2.2 l (dC t));clear t hr O;have cG:=zjf.blk.cell
    by_cases hl0:0<l.length
    ·obtain⟨gr,rfl,-,-⟩:=zag s hl0;go_wp2_with fail
     refine (zx (n:=l.length) zjf.rd oM).mono ?_;rintro e C ⟨j,rfl,ap,-,hr6,hd6⟩;have bl:=ap oM;replace zjf:=zjf.drawn hd6 hr6;have bj:=zjf.hR;have cN:∀ W,Dr R C W->W.cell? ⟨Z,k,none⟩=some (.slice (some gr) l.length I):=fun W hW=>(hd6.trans hW).aa f (by simp;omega);have bq:IntKind.i64.wrap ((m:Int) - 1)=(m:Int) - 1:=by rw [IntKind.wrap_i64];omega
     clear cG ap hr6 hd6 f s;have cG:∀ W,Dr R C W->∀ q,W.cell? ⟨G,q,none⟩=#[Value.int .i64 b.al,.slice (some Z) m d,.slice B' m' d'][q]?:=fun W hW=>(zjf.blk.dr hW (oH zjf.hG)).cell;go_wp2_with fail
     refine tR (fun X=>Dr R C X) [13] (Ord.of [0,1,2,3,4,5,6,7,8,9,10,11,12,13]) ?_;refine tQ ?_;refine zB fun K hK=>?_;go_simp;refine hK.out _ _ ((Dr.refl R C).drew.alloc _) ?_;refine pT ?_;refine zB fun K hK=>?_;go_simp;refine (zaN (w:=C.drew) [(-1),m,(m:Int) - 1,0] 4 #[.int .i64 (-1),m,.int .i64 ((m:Int) - 1),(0:Int)] rfl rfl oM oM (zjf.rd.ext (dB _).drew) oM).mono ?_;rintro e w7 ⟨x,-,rfl,hr7,hd7⟩;have ad:Dr R C w7:=((Dr.refl R C).drew.alloc _).trans hd7;have J:=zjf.drawn ad hr7;refine hK.out _ _ ad ?_;refine pT ?_;refine tQ ?_;have zje:=J.rows.2.1 k _ l HR.out HL.out;obtain⟨o0,c0⟩:=zaM zje j oM;have f0:=zje.frozenAt j;have hst:=J.setRow (k:=j) (x:=x) HR.out HL.out rfl;refine zN fun K hK=>?_;go_simp;refine hK.out _ _ ?_;refine zal ?_;go_wp2_with fail
     go_meet;refine⟨_,_,_,_,_,_,hst.more oM,za ⟨by have:=Hb.out.1;rw [fB];omega,oH Hb.out.2.1,fun l' hl'=>?_⟩⟩;rcases e8 hl' with h1|h1
     ·have:=Hb.out.2.2 l' h1;omega
     ·rw [h1];simp;have:=aG.out;omega
    ·have bm:l.length=0:=oM;have bn:¬ ((l.length:Int)>0):=oM;go_wp2_with fail
     go_meet;exact⟨_,_,_,_,_,_,zjf.more oM,za (Hb.out.more oM)⟩
   ·exact yN03a7
  ·subst H;have U:True:=trivial;have E:=zjf.dr.size;have o:=zjf.ext ((dB z).alloc (.cells #[] 110));have hn1:=World.ownsRow_lit (base:=F.heap.size) (e:=110) (size:=1) z #[] 0 E lM rfl;have cG:=o.blk.cell;have fG:=o.blk.frozen;go_upto_region 18 with fail
   replace o:=o.setNext hn1;clear zjf cG fG hn1;generalize (z.alloc (.cells #[] 110)).setCell ⟨G,1,none⟩ (.slice (some z.heap.size) 0 0)=C at *;have aR:=o.dr.size;have D:=o.ext ((dB C).alloc (.cells #[] 4));have aP:=World.ownsRow_lit (base:=F.heap.size) (e:=4) (size:=1) C #[] 0 aR lM rfl;have cG:=D.blk.cell;have fG:=D.blk.frozen;go_wp2_with fail
   go_meet;exact⟨_,_,_,_,_,_,(D.setMarks aP).more oM,za ⟨sM,sM,fun l t=>by simp at t⟩⟩
  ·subst H;have U:True:=trivial
   by_cases hn0:0<m
   ·have a0:((m:Int)>0):=oM;have aw:m=b.next.length:=Y.out;have bo:m<=L:=oH Hb.out.1;have hst:∃ (i:Nat) (v:Value) (a:List Value) (u:List (List Int)) (vA:Value) (acc:List Bool),i<=13∧zbA F z R G (M+2) b.al v a u vA acc∧Hid (u.length=m+i)∧Hid (i=0∨m+i<=13)∧Hid (acc.length<=L+i)∧Hid (∀ l∈u,l.length<=L):=
     ⟨0,_,_,_,_,_,oM,zjf,za aw.symm,za (.inl rfl),za Hb.out.2.1,za Hb.out.2.2⟩
    clear aw zjf;go_wp2_with fail
    go_loopw [] (fun wr=>∃ (i:Nat) (v:Value) (a:List Value) (u:List (List Int)) (vA:Value) (acc:List Bool),i<=13∧zbA F wr R G (M+2) b.al v a u vA acc∧Hid (u.length=m+i)∧Hid (i=0∨m+i<=13)∧Hid (acc.length<=L+i)∧Hid (∀ l∈u,l.length<=L)) (fun wr=>200 - lenAt wr G)
    case atStart=>exact hst
    case round =>
     clear hst;obtain⟨i,v,a,u,vA,acc,hi,zjf,r,aO,hal,af⟩:=hrel;obtain⟨Z,cN,rfl,ao⟩:∃ g c,v=.slice (some ⟨g,0,none⟩) (m+i) c∧F.heap.size<=g:=by
      obtain⟨A9,c9,rfl⟩:=zg zjf.nx;obtain⟨g,rfl,hg,-⟩:=zag zjf.nx (oH r.out);exact⟨g,c9,by rw [r.out],hg⟩
     have av:=za zjf.lenAt
     by_cases hlt:m+i<=12
     ·have au:((m+i:Nat):Int)<=12:=oM;have am:0<u.length:=oH r.out;obtain⟨l,t⟩:∃ l,u[0]?=some l:=⟨_,dD am⟩;obtain⟨V,I,hr,f,s⟩:=zjf.row t r.out.symm;have ag:l.length<=L:=af.out l (dC t);have aH:=za ag;have ar:=za zjf.low;have E:=zjf.dr.size;have ae:=eE s;have aI:=za (fun W (hW:Ext wr W)=>ae.ext hW);have cG:=fun W (hW:Ext wr W)=>(zjf.blk.ext hW).cell;have aL:∀ W,Ext wr W->W.cell? Z=some (.slice V l.length I):=fun W hW=>hW.aa f;have aT:=dB wr;have bd:(0:Int)<((m+i:Nat):Int):=oM;have be:0<(m:Int)+(i:Int):=oM;clear t hr f s ae am;go_upto_region 21 with fail
      refine uR (fun X=>Ext wr X) [9,11] (zw.of [0,1,3,4,5,6,2,7,8,9,10,11]) ?_;refine uQ ?_;have hx0:Ext wr wr.drew:=aT.drew;generalize wr.drew=wd at *;refine zd fun K hK=>?_;go_simp;have hm:=World.ownsRow_made (base:=wr.heap.size) (e:=3) (size:=1) wd #[] 0 hx0.size (dG _) rfl;have T:=(dB wd).alloc (.cells #[] 3);replace hx0:=hx0.trans T;refine hK.out _ _ hx0 ?_;generalize wd.alloc _=wm at *;generalize wd.heap.size=MM at *;refine pT ?_;refine uQ ?_;refine zd (fun K hK=>?_);refine zv wm _ _ 110 rfl wr.heap.size 3 _ 1 8 Tryz.underlying110 zS rfl dM (.slice (some MM) 0 0) 0 [] rfl hm _ _ V l.length I (ints l) rfl (aI.out _ hx0) (zgv _) lM oM hx0.size ?_;intro vR C hrow hgR hatR;rw [dW,eG] at hrow;obtain⟨BR,dR,rfl⟩:=zg hrow;have S:Ext wr C:=hx0.grown hgR (fun k hk=>(hm.lt k hk).1);refine hK.out _ _ S ?_;refine pT ?_;refine uQ ?_;refine zd fun K hK=>?_;go_simp;refine hK.out _ _ (S.alloc _) ?_;refine pT ?_;refine zb fun K hK=>?_;have p:=zjf.ext S;have Q:=p.nx;rw [r.out] at Q;refine zaE F C _ _ _ rfl 110 _ 1 24 Tryz.underlying24 zbw rfl dM (.slice (some Z) (m+i) cN) (m+i) a _ _ rfl rfl p.dr.size Q rfl (zaF _ _ _) lM oM ?_;intro g7 cap7 w7 hown7 hg7 hat7 hlt7;refine hK.out _ _ ?_;refine pT ?_;refine uQ ?_;obtain⟨p1,p2,p3⟩:=p.aw (l:=l) (W':=w7) (g:=g7) (cap:=cap7) ar.out E hrow (by rw [r.out];exact hown7) hg7 hat7;have aV:=p1.out;rw [r.out] at p3;refine zb fun K hK=>?_;go_simp;refine hK.out _ _ ?_;refine ze ?_;generalize w7.setCell ⟨G,1,none⟩ (.slice (some g7) (m+i+1) cap7)=w8 at *;have a8:=p3.blk.cell;have aS:=p3.dr.size;have aZ:=hal.out;clear p1 aV p2 cG aL hown7 hg7 hat7 p zjf Q;go_wp2_with (at_builtin;refine zQ F w8 rfl _ _ _ rfl 4 _ 1 1 Tryz.underlying25 zaT rfl dM vA acc.length (zaw acc) _ _ rfl rfl aS p3.acc rfl (by simp [Value.oneCell']) lM oM ?_;intro g9 cap9 w9 hown9 hg9 hat9 hlt9;obtain⟨q1,q2,q3⟩:=p3.aq (x:=false) hown9 hg9 hat9;have aW:=q1.out)
      go_roundw
      case rel=>exact⟨i+1,oM,_,_,u++[l],_,acc++[false],q3,za (by have:=r.out;simp;omega),za oM,za (by simp;omega),za (fun l' hl'=>by
       rcases List.mem_append.1 hl' with h1|h1
       ·exact af.out l' h1
       ·rw [List.mem_singleton.1 h1];exact aH.out)⟩
      case measure=>have h1:=q3.lenAt;have h2:=av.out;omega
     ·have au:¬ (((m+i:Nat):Int)<=12):=oM;have cG:=zjf.blk.cell;go_wp2_with fail
      go_meet;exact⟨_,_,_,_,_,_,zjf.more oM,za ⟨by have:=r.out;have:=aO.out;omega,oH hal.out,fun l' hl'=>by have:=af.out l' hl';omega⟩⟩
   ·have hn1:m=0:=oM;clear hn0;have cG:=zjf.blk.cell;have hst:=zjf;clear zjf;go_wp2_with fail
    go_loopw [] (fun wr=>zbA F wr R G (M+1+1) b.al (.slice B m d) a b.next (.slice B' m' d') b.acc) (fun wr=>0)
    case atStart=>exact hst
    case round =>
     clear hst cG;have cG:=hrel.blk.cell;go_wp2_with fail
     go_meet;exact⟨_,_,_,_,_,_,hrel.more oM,za (Hb.out.more oM)⟩
  ·have bb:((y:Int)==0)=false:=by simp;omega
   have h1':((y:Int)==1)=false:=by simp;omega
   have bf:((y:Int)==2)=false:=by simp;omega
   have bg:((y:Int)==3)=false:=by simp;omega
   have bh:((y:Int)==4)=false:=by simp;omega
   have bi:((y:Int)==5)=false:=by simp;omega
   go_wp2_with fail
   go_meet;exact⟨_,_,_,_,_,_,zjf.more oM,za (Hb.out.more oM)⟩
 case rest =>
  clear zjf;obtain⟨al,v,a,u,vA,acc,zjf,aN⟩:=hcut;obtain⟨A5,c5,rfl⟩:=zg zjf.nx;obtain⟨B5,d5,rfl⟩:=zg zjf.acc;obtain⟨f1,f2⟩:=zjf.fin (N:=M+10) (sh:=BdA (L+13)) T bz rfl hRl oM aU oM aN.out;have bz5:=bz.dr zjf.dr oM;have cG:=zjf.blk.cell;have cZ:=bz5.cell;have fZ:=bz5.frozen;go_wp2_with fail
  have cf:=f2.cell;exact bodyPost_ret (v:=.agg #[al,.slice A5 u.length c5,.slice B5 acc.length d5]) (by simp [results,Tryz.results77,go_sem,cf]) rfl f1.out
theorem zfy (h:Rd w R M)(hM:M<=900000000)(ho:zZ w (R+1) A n c A' n' c' b)(hb:BdA L b)(hL:L<=100) :
  Calls Tryz.prog 75 #[.pointer (some R),.agg #[b.al,.slice A n c,.slice A' n' c']] w (zgd R (M+10) (BdA (L+1)) w):=by
 have hRl:=h.lt;have an:=hb.size oM
 go_enter Tryz.func75,Tryz.ntmps75
 have hx0:=(dB w).alloc (.cells #[b.al,.slice A n c,.slice A' n' c'] 27);have b0:=dX w 27 #[b.al,.slice A n c,.slice A' n' c'];have aO:(w.alloc (.cells #[b.al,.slice A n c,.slice A' n' c'] 27)).heap.size=w.heap.size+1:=sM;have s:=hx0.alloc (.cells #[(0:Int),(),()] 27);have bz:=dX (w.alloc (.cells #[b.al,.slice A n c,.slice A' n' c'] 27)) 27 #[(0:Int),(),()];replace b0:=b0.ext ((dB _).alloc (.cells #[(0:Int),(),()] 27));rw [aO] at bz;have c0:=b0.cell;go_upto_region 1 with fail
 generalize (w.alloc _).alloc _=w1 at *;have aq:=bz.lt;go_wp2_with fail
 refine (zat (ho.ext s).reads an).mono ?_;rintro e w2 ⟨B,m,d,B',m',d',rfl,zje,V⟩;obtain⟨f,zjf⟩:=zbA.of (R:=R) (M:=M) zje (h.ext (s.trans V)) V.dr oM;have hG:=V.size;have hm:m=b.next.length:=zje.2.1;have aL:m'=b.acc.length:=zje.2.2.2;have bm:m<=100:=oH hb.1;have F:=za hm;have Hb:=za hb;subst aL;clear zje ho hm hb an;go_upto_region 2 with fail
 generalize w2.alloc _=w3 at *;generalize w2.heap.size=G at *;have cG:=zjf.blk.cell
 by_cases hm0:m=0
 ·subst hm0;have zjh:=zjf;rw [show (Value.slice B' b.acc.length d')=Value.slice B' b.acc.length d' from rfl] at zjh;obtain⟨f1,f2⟩:=zjh.fin (N:=M+10) (sh:=BdA (L+1)) s bz rfl hRl oM aq oM (Hb.out.more oM);have bz5:=bz.dr zjf.dr oM;have cZ:=bz5.cell;have fZ:=bz5.frozen;clear zjh;go_wp2_with fail
  have cf:=f2.cell;exact bodyPost_ret (v:=.agg #[b.al,.slice B 0 d,.slice B' b.acc.length d']) (by simp [results,Tryz.results75,go_sem,cf]) rfl f1.out
 have aN:((m:Int)==0)=false:=by simp;omega
 go_wp2_with fail
 refine (zx zjf.rd oM).mono ?_;rintro e w4 ⟨k,rfl,ag,-,hr4,hd4⟩;replace zjf:=zjf.drawn hd4 hr4;have bi:k<m:=by have:=ag oM;omega
 clear hd4 hr4 cG ag aN;go_wp2_with fail
 refine (zx zjf.rd oM).mono ?_;rintro e a ⟨y,rfl,-,-,am,af⟩;replace zjf:=zjf.drawn af am;clear af am;go_upto_block 0 with fail
 go_cut [] (fun wx=>∃ (v:Value) (f:List Value) (ls:List (List Int)) (vA:Value) (acc:List Bool),zbA w1 wx R G (M+10) b.al v f ls vA acc∧Hid (BdL (L+1) ls acc))
 case first =>
  have ai:k<b.next.length:=oH F.out;obtain⟨l,hl⟩:∃ l,b.next[k]?=some l:=⟨_,dD ai⟩;obtain⟨gN,rfl,bg,-⟩:=zag (show a.ownsRow w1.heap.size 110 1 (.slice B m d) m f from by have:=zjf.nx;rw [← F.out] at this;exact this) oM;obtain⟨Ar,cr,hr,r,D⟩:=zjf.row hl F.out;have bl:l.length<=100:=by have:=Hb.out.2.2 l (dC hl);omega
  have HL:=za hl;have HR:=za hr;have S:=za (Hb.out.2.2 l (dC hl));have aP:=zjf.dr.size;clear hl hr ai;have I:y=0∨y=1∨y=2∨3<=y:=oM;rcases I with hy|hy|hy|hy
  ·subst hy;have ap:True:=trivial;have cG:=fun W (hW:Ext a W)=>(zjf.blk.ext hW).cell
   by_cases hka:k<b.acc.length
   ·obtain⟨T,rfl,hgA,-⟩:=zag zjf.acc oM;obtain⟨x,hx⟩:∃ x,b.acc[k]?=some x:=⟨_,dD hka⟩;have z:a.cell? ⟨T,k,none⟩=some (.bool x):=by rw [zjf.acc.cellAt k oM];simp [zaw,hx]
    have cA:∀ W,Ext a W->W.cell? ⟨T,k,none⟩=some (.bool x):=fun W hW=>hW.aa z;have fA:∀ W,Ext a W->W.frozen? ⟨T,k,none⟩=false:=fun W hW=>(zh zjf.acc hW).frozenAt k;have hst:=(zjf.ext (dB a).drew).setAcc (i:=k) (x:=!x) rfl;have ah:(k:Int)<(b.acc.length:Int):=oM;have E:=dB a;clear z hx;go_wp2_with fail
    refine tR (fun X=>Ext a X) [10] (Ord.of [0,1,2,3,4,5,6,7,8,9,10]) ?_;refine tQ ?_;refine zN fun K hK=>?_;go_simp;refine hK.out _ _ ?_;refine zal ?_;go_wp2_with fail
    go_meet;exact⟨_,_,_,_,_,hst.more oM,za ⟨oH Hb.out.1,by have:=Hb.out.2.1;rw [fB];omega,fun l' hl'=>by have:=Hb.out.2.2 l' hl';omega⟩⟩
   ·have ah:¬ ((b.acc.length:Int)>(k:Int)):=oM;have E:=dB a;go_wp2_with fail
    go_meet;exact⟨_,_,_,_,_,zjf.more oM,za (Hb.out.more oM)⟩
  ·subst hy;have ap:True:=trivial
   by_cases hl0:0<l.length
   ·obtain⟨gr,rfl,-,-⟩:=zag D hl0;have be:=zjf.hR;have cN:∀ W,Dr R a W->W.cell? ⟨gN,k,none⟩=some (.slice (some gr) l.length cr):=fun W hW=>hW.aa r (by simp;omega);have cG:∀ W,Dr R a W->∀ q,W.cell? ⟨G,q,none⟩=#[Value.int .i64 b.al,.slice (some gN) m d,.slice B' b.acc.length d'][q]?:=fun W hW=>(zjf.blk.dr hW (oH zjf.hG)).cell;have bf:=Dr.refl R a;clear r D;go_wp2_with fail
    refine tR (fun X=>Dr R a X) [17] (Ord.of [0,1,2,3,4,5,6,7,8,9,10,11,13,14,12,15,16,17]) ?_;refine tQ ?_;refine zB fun K hK=>?_;go_simp;refine (zx (n:=l.length) (zjf.rd.ext (dB _).drew) oM).mono ?_;rintro e w6 ⟨j,rfl,aJ,-,hr6,hd6⟩;have bh:=aJ oM;have J:Dr R a w6:=(Dr.refl R a).drew.trans hd6;refine hK.out _ _ J ?_;refine pT ?_;refine tQ ?_;refine zB fun K hK=>?_;go_simp;refine (zx (n:=m) hr6 oM).mono ?_;rintro e w7 ⟨x,rfl,a0,-,hr7,hd7⟩;have O:Dr R a w7:=J.trans hd7;have u:=zjf.drawn O hr7;refine hK.out _ _ O ?_;refine pT ?_;refine tQ ?_;have zje:=u.rows.2.1 k _ l HR.out HL.out;obtain⟨o0,c0⟩:=zaM zje j oM;have f0:=zje.frozenAt j;have hst:=u.setRow (k:=j) (x:=x) HR.out HL.out rfl;refine zN fun K hK=>?_;go_simp;refine hK.out _ _ ?_;refine zal ?_;go_wp2_with fail
    go_meet;refine⟨_,_,_,_,_,hst.more oM,za ⟨by have:=Hb.out.1;rw [fB];omega,oH Hb.out.2.1,fun l' hl'=>?_⟩⟩;rcases e8 hl' with h1|h1
    ·have:=Hb.out.2.2 l' h1;omega
    ·rw [h1];simp;have:=S.out;omega
   ·have bj:l.length=0:=oM;have bk:¬ ((l.length:Int)>0):=oM;have cG:=zjf.blk.cell;go_wp2_with fail
    go_meet;exact⟨_,_,_,_,_,zjf.more oM,za (Hb.out.more oM)⟩
  ·subst hy;have ap:True:=trivial;have cG:=fun W (hW:Ext a W)=>(zjf.blk.ext hW).cell;have aG:∀ W,Ext a W->W.cell? ⟨gN,k,none⟩=some (.slice Ar l.length cr):=fun W hW=>hW.aa r;have E:=dB a
   by_cases h1:12<=m
   ·have h1':¬ ((m:Int)<12):=oM;go_wp2_with fail
    go_meet;exact⟨_,_,_,_,_,zjf.more oM,za (Hb.out.more oM)⟩
   have h1':(m:Int)<12:=oM
   by_cases h2:b.acc.length<=k
   ·have ae:¬ ((b.acc.length:Int)>(k:Int)):=oM;go_wp2_with fail
    go_meet;exact⟨_,_,_,_,_,zjf.more oM,za (Hb.out.more oM)⟩
   have ae:(b.acc.length:Int)>(k:Int):=oM
   by_cases h3:l.length<=0
   ·have bd:¬ ((l.length:Int)>0):=oM;have aW:l.length=0:=oM;go_wp2_with fail
    go_meet;exact⟨_,_,_,_,_,zjf.more oM,za (Hb.out.more oM)⟩
   have aX:=za zjf.lenAt;have Q:=eE D;have aD:=za (fun W (hW:Ext a W)=>Q.ext hW);have ak:=za zjf.low;have aY:=za D;clear r D Q;go_upto_region 15 with fail
   refine uR (fun X=>Ext a X) [10,12] (zw.of [0,1,3,4,5,6,7,2,8,9,10,11,12]) ?_;refine uQ ?_;have hx0:Ext a a.drew:=E.drew;generalize a.drew=wd at *;refine zd fun K hK=>?_;go_simp;have hm:=World.ownsRow_made (base:=a.heap.size) (e:=3) (size:=1) wd #[] 0 hx0.size (dG _) rfl;have s:=(dB wd).alloc (.cells #[] 3);replace hx0:=hx0.trans s;refine hK.out _ _ hx0 ?_;generalize wd.alloc _=wm at *;generalize wd.heap.size=MM at *;refine pT ?_;refine uQ ?_;refine zd (fun K hK=>?_);refine zv wm _ _ 110 rfl a.heap.size 3 _ 1 8 Tryz.underlying110 zS rfl dM (.slice (some MM) 0 0) 0 [] rfl hm _ _ Ar l.length cr (ints l) rfl (aD.out _ hx0) (zgv _) lM oM hx0.size ?_;intro vR w6 hrow hgR hatR;rw [dW,eG] at hrow;obtain⟨BR,dR,rfl⟩:=zg hrow;have t:Ext a w6:=hx0.grown hgR (fun k hk=>(hm.lt k hk).1);refine hK.out _ _ t ?_;refine pT ?_;refine uQ ?_;refine zd fun K hK=>?_;go_simp;refine hK.out _ _ (t.alloc _) ?_;refine pT ?_;refine zb fun K hK=>?_;have o:=zjf.ext t;have C:=o.nx;rw [← F.out] at C;refine zaE w1 w6 _ _ _ rfl 110 _ 1 24 Tryz.underlying24 zbw rfl dM (.slice (some gN) m d) m f _ _ rfl rfl o.dr.size C rfl (zaF _ _ _) lM oM ?_;intro g7 cap7 w7 hown7 hg7 hat7 hlt7;refine hK.out _ _ ?_;refine pT ?_;refine uQ ?_;obtain⟨p1,p2,Z⟩:=o.aw (l:=l) (W':=w7) (g:=g7) (cap:=cap7) ak.out aP hrow (by rw [← F.out];exact hown7) hg7 hat7;have aQ:=p1.out;rw [← F.out] at Z;refine zb fun K hK=>?_;go_simp;refine hK.out _ _ ?_;refine ze ?_;generalize w7.setCell ⟨G,1,none⟩ (.slice (some g7) (m+1) cap7)=w8 at *;have bn:=Z.dr.size;clear p1 aQ p2 cG aG hown7 hg7 hat7 o zjf C t hx0 s;obtain⟨T,rfl,hgA,-⟩:=zag Z.acc oM;obtain⟨x,hx⟩:∃ x,b.acc[k]?=some x:=⟨_,dD oM⟩;have z:w8.cell? ⟨T,k,none⟩=some (.bool x):=by rw [Z.acc.cellAt k oM];simp [zaw,hx]
   have cA:∀ W,Ext w8 W->W.cell? ⟨T,k,none⟩=some (.bool x):=fun W hW=>hW.aa z;have aF:=fun W (hW:Ext w8 W)=>(Z.blk.ext hW).cell;have E:=dB w8;clear z hx;go_upto_region 16 with fail
   refine uR (fun X=>Ext w8 X) [8,10] (zw.of [0,1,2,3,4,5,6,7,8,9,10]) ?_;refine uQ ?_;have Y:Ext w8 w8.drew:=E.drew;generalize w8.drew=aT at *;refine zd fun K hK=>?_;go_simp;refine hK.out _ _ (Y.alloc _) ?_;refine pT ?_;refine zb fun K hK=>?_;have p:=Z.ext Y;refine zaE w1 aT _ _ _ rfl 4 _ 1 1 Tryz.underlying25 zaT rfl dM (.slice (some T) b.acc.length d') b.acc.length (zaw b.acc) _ _ rfl rfl p.dr.size p.acc rfl (by simp [Value.oneCell']) (by unfold maxLen;have:=Hb.out.2.1;omega) (oH Hb.out.2.1) ?_;intro g9 cap9 w9 hown9 hg9 hat9 hlt9;refine hK.out _ _ ?_;refine pT ?_;refine uQ ?_;obtain⟨q1,q2,q3⟩:=p.aq (x:=x) hown9 hg9 hat9;have aR:=q1.out;refine zb fun K hK=>?_;go_simp;refine hK.out _ _ ?_;refine ze ?_;generalize w9.setCell ⟨G,2,none⟩ (.slice (some g9) (b.acc.length+1) cap9)=aS at *;clear q1 aR q2 aF cA p Z hown9 hg9 hat9 Y;have aK:k<f.length:=by have:=q3.rows.1;simp at this;have:=F.out;omega
   have H:(f++[Value.slice BR l.length dR])[k]?=some (.slice Ar l.length cr):=by rw [dJ aK];exact HR.out
   have U:(b.next++[l])[k]?=some l:=by rw [dJ (oH F.out)];exact HL.out
   have zje:=q3.rows.2.1 k _ l H U;obtain⟨gr,rfl,-,-⟩:=zag zje oM;obtain⟨o0,c0⟩:=zaM zje 0 oM;have f0:=zje.frozenAt 0;have hst:=q3.setRow (k:=0) (x:=m) H U rfl;have cG:=q3.blk.cell;have cN:aS.cell? ⟨g7,k,none⟩=some (.slice (some gr) l.length cr):=by
    have:=q3.nx;rw [List.length_append,List.length_singleton,← F.out] at this;rw [this.cellAt k oM];exact H
   clear zje H U;go_wp2_with fail
   go_meet;refine⟨_,_,_,_,_,hst.more oM,za ⟨by have:=Hb.out.1;rw [fB];simp;omega,by have:=Hb.out.2.1;simp;omega,fun l' hl'=>?_⟩⟩;rcases e8 hl' with h1|h1
   ·rcases List.mem_append.1 h1 with h1|h1
    ·have:=Hb.out.2.2 l' h1;omega
    ·rw [List.mem_singleton.1 h1];have:=S.out;omega
   ·rw [h1];simp;have:=S.out;omega
  ·have bc:((y:Int)==0)=false:=by simp;omega
   have h1':((y:Int)==1)=false:=by simp;omega
   have ae:((y:Int)==2)=false:=by simp;omega
   go_wp2_with fail
   go_meet;exact⟨_,_,_,_,_,zjf.more oM,za (Hb.out.more oM)⟩
 case rest =>
  clear zjf;obtain⟨v,f,ls,vA,acc,zjf,aI⟩:=hcut;obtain⟨A5,c5,rfl⟩:=zg zjf.nx;obtain⟨B5,d5,rfl⟩:=zg zjf.acc;obtain⟨f1,f2⟩:=zjf.fin (N:=M+10) (sh:=BdA (L+1)) s bz rfl hRl oM aq oM aI.out;have bz5:=bz.dr zjf.dr oM;have cG:=zjf.blk.cell;have cZ:=bz5.cell;have fZ:=bz5.frozen;go_wp2_with fail
  have cf:=f2.cell;exact bodyPost_ret (v:=.agg #[b.al,.slice A5 ls.length c5,.slice B5 acc.length d5]) (by simp [results,Tryz.results75,go_sem,cf]) rfl f1.out
theorem own_typ {size b:Nat}  {xs:List Value}(h:w.ownsRow base e size v n xs)(hb:v.ownBlock=some b):∃ cur,w.heap[b]?=some (.cells cur e (0,0)):=by
 rcases h.2 with ⟨rfl,_⟩|⟨g,a,cur,rfl,_,c,_⟩
 ·simp [Value.ownBlock] at hb
 ·have:g=b:=by simpa [Value.ownBlock] using hb
  subst this;exact⟨cur,c⟩
theorem zZ.frmT {S:Nat->Prop}       {a:Aut}(h:zZ w base A n c A' n' c' a)(hb:Frm S w w')
  (hS:∀ k,S k->∀ cs t,w.heap[k]?=some (.cells cs t (0,0))->t≠3∧t≠110∧t≠4):zZ w' base A n c A' n' c' a:=by
 obtain⟨⟨f,h1,g⟩,h3,j,l⟩:=h;refine⟨⟨f,zf h1 hb (fun b hv hs=>?_),g.frm hb (fun i r b hr hb hs=>?_)⟩,h3,zf j hb (fun b hv hs=>?_),l⟩
 ·obtain⟨cs,d⟩:=own_typ h1 hv;exact (hS b hs cs _ d).2.1 rfl
 ·obtain⟨o,_,m⟩:=g.row hr;obtain⟨cs,d⟩:=own_typ m hb;exact (hS b hs cs _ d).1 rfl
 ·obtain⟨cs,d⟩:=own_typ j hv;exact (hS b hs cs _ d).2.2 rfl
theorem zZ.ax {a:Aut}  (h:zZ w base A n c A' n' c' a)(hB:Blk w G t cs)(hf:Frm (fun k=>k=G) w w')(ht:t≠3∧t≠110∧t≠4):zZ w' base A n c A' n' c' a:=
 h.frmT hf (fun k hk cs' t' hh=>by
  subst hk
  unfold Blk at hB
  rw [hB] at hh
  injection hh with hh
  injection hh with _ h2
  subst h2
  exact ht)
theorem Dr.far {a b c:World}(h:Dr R a b)(hf:Frm (fun k=>k=Z) b c)(hZ:a.heap.size<=Z):Dr R a c:=
 ⟨hf.os.trans h.os,hf.tape.trans h.tape,hf.output.trans h.output,dL h.size hf.size,fun k hk hn=>(hf.block k (Nat.lt_of_lt_of_le hk h.size) (fun e=>oM)).trans (h.block k hk hn)⟩
theorem zaj (W:World) (Z:Nat) (u0 u1 u2:Value):Frm (fun k=>k=Z) W (((W.setCell Z u0).setCell ⟨Z,1,none⟩ u1).setCell ⟨Z,2,none⟩ u2):=
 ((dH W Z 0 u0).trans (dH _ Z 1 u1)).trans (dH _ Z 2 u2)
theorem zaA (h:Blk w Z t cs)(hc:cs.size=3) (u0 u1 u2:Value):Blk (((w.setCell Z u0).setCell ⟨Z,1,none⟩ u1).setCell ⟨Z,2,none⟩ u2) Z t #[u0,u1,u2]:=by
 obtain⟨l⟩:=cs
 match l,hc with
 |[a,b,c],_=>simpa using ((h.ae 0 u0).ae 1 u1).ae 2 u2
def autZ:Aut:=⟨0,[],[]⟩
theorem ziF (w:World) (base:Nat):zZ w base none 0 0 none 0 0 autZ:=⟨⟨[],World.ownsRow_nil _ _ _ _,zE.nil _ _⟩,rfl,World.ownsRow_nil _ _ _ _,rfl⟩
theorem bd_autZ (K:Nat):BdA K autZ:=⟨dG _,dG _,fun l hl=>by simp [autZ] at hl⟩
structure zbD (w0 W:World) (R M L K:Nat) (s:Sys) (A:Option Addr) (n c:Nat) (t:Sys) (C:Option Addr) (k c2:Nat) (p:Aut) (B:Option Addr) (m d:Nat) (B':Option Addr) (m' d':Nat):Prop where
 is:zbt W R A n s
 it:zbt W R C k t
 ip:zZ W (R+1) B m d B' m' d' p
 ns:(n<=L∧n<=c)∧(k<=L∧k<=c2)
 bd:Hid (BdA K p)
 rd:Rd W R M
 dr:Dr R w0 W
 hR:R<w0.heap.size
section
variable {w0 W W':World} {R M L K N J H Z n c k c2 m d m' d':Nat} {s t:Sys} {p:Aut} {A B B' C:Option Addr}
theorem zbD.drawn (h:zbD w0 W R M L K s A n c t C k c2 p B m d B' m' d')(hd:Dr R W W')(hr:Rd W' R N):zbD w0 W' R N L K s A n c t C k c2 p B m d B' m' d':=
 ⟨h.is.dr hd,h.it.dr hd,h.ip.keep hd (fun b h1 e=>oM),h.ns,h.bd,hr,h.dr.trans hd,h.hR⟩
theorem zbD.ext (h:zbD w0 W R M L K s A n c t C k c2 p B m d B' m' d')(hx:Ext W W'):zbD w0 W' R M L K s A n c t C k c2 p B m d B' m' d':=h.drawn hx.dr (h.rd.ext hx)
theorem zbD.more (h:zbD w0 W R M L K s A n c t C k c2 p B m d B' m' d')(hM:M<=N)(hL:L<=J)(hK:K<=H):zbD w0 W R N J H s A n c t C k c2 p B m d B' m' d':=
 ⟨h.is,h.it,h.ip,oH h.ns,za (BdL.more h.bd.out hK),h.rd.more hM,h.dr,h.hR⟩
theorem zbD.far {ty:TypeId} (h:zbD w0 W R M L K s A n c t C k c2 p B m d B' m' d')(hB:Blk W Z ty cs)(hf:Frm (fun k=>k=Z) W W')(hZ:w0.heap.size<=Z)(h1:ty≠117)(h2:ty≠3∧ty≠110∧ty≠4):zbD w0 W' R M L K s A n c t C k c2 p B m d B' m' d':=
 ⟨h.is.far hB h1 hf,h.it.far hB h1 hf,h.ip.ax hB hf h2,h.ns,h.bd,h.rd.frm hf (fun k hk e=>oH h.hR),h.dr.far hf hZ,h.hR⟩
theorem zbD.less (h:zbD w0 W R M L K s A n c t C k c2 p B m d B' m' d')(hd:Dr R w1 w0)(hR:R<w1.heap.size):zbD w1 W R M L K s A n c t C k c2 p B m d B' m' d':=
 ⟨h.is,h.it,h.ip,h.ns,h.bd,h.rd,hd.trans h.dr,hR⟩
end
def Ne6 (a b c d e f:Nat):Prop:=(a≠b∧a≠c∧a≠d∧a≠e∧a≠f)∧(b≠c∧b≠d∧b≠e∧b≠f)∧(c≠d∧c≠e∧c≠f)∧(d≠e∧d≠f)∧e≠f
structure Tri (w0 W:World) (R M L K:Nat) (Zs Zt Zp Gs Gt Gp:Nat) (s:Sys) (A:Option Addr) (n c:Nat) (t:Sys) (C:Option Addr) (k c2:Nat) (p:Aut) (B:Option Addr) (m d:Nat) (B':Option Addr) (m' d':Nat):Prop where
 at_:zbD w0 W R M L K s A n c t C k c2 p B m d B' m' d'
 zs:Blk W Zs 38 #[(0:Int),(0:Int),()]
 zt:Blk W Zt 38 #[(0:Int),(0:Int),()]
 zp:Blk W Zp 27 #[(0:Int),(),()]
 bs:Blk W Gs 38 #[s.al,s.st,.slice A n c]
 bt:Blk W Gt 38 #[t.al,t.st,.slice C k c2]
 bp:Gp=0∨Blk W Gp 27 #[p.al,.slice B m d,.slice B' m' d']
 ge:w0.heap.size<=Zs∧w0.heap.size<=Zt∧w0.heap.size<=Zp∧w0.heap.size<=Gs∧w0.heap.size<=Gt∧(Gp=0∨w0.heap.size<=Gp)
 ne:Hid (Ne6 Zs Zt Zp Gs Gt Gp)
section
variable {w0 W W':World} {R M L K N J H n c k c2 m d m' d' Zs Zt Zp Gs Gt Gp:Nat} {s t:Sys} {p:Aut} {A B B' C:Option Addr}
theorem Tri.drawn (h:Tri w0 W R M L K Zs Zt Zp Gs Gt Gp s A n c t C k c2 p B m d B' m' d')(hd:Dr R W W')(hr:Rd W' R N):Tri w0 W' R N L K Zs Zt Zp Gs Gt Gp s A n c t C k c2 p B m d B' m' d':=by
 have f:=h.at_.hR;have a:=h.ge;exact⟨h.at_.drawn hd hr,h.zs.dr hd oM,h.zt.dr hd oM,h.zp.dr hd oM,h.bs.dr hd oM,h.bt.dr hd oM,by
  rcases a.2.2.2.2.2 with e|e
  ·exact .inl e
  ·exact h.bp.imp id (fun b=>b.dr hd oM),a,h.ne⟩
theorem Tri.ext (h:Tri w0 W R M L K Zs Zt Zp Gs Gt Gp s A n c t C k c2 p B m d B' m' d')(hx:Ext W W'):Tri w0 W' R M L K Zs Zt Zp Gs Gt Gp s A n c t C k c2 p B m d B' m' d':=h.drawn hx.dr (h.at_.rd.ext hx)
theorem Tri.more (h:Tri w0 W R M L K Zs Zt Zp Gs Gt Gp s A n c t C k c2 p B m d B' m' d')(hM:M<=N)(hL:L<=J)(hK:K<=H):Tri w0 W R N J H Zs Zt Zp Gs Gt Gp s A n c t C k c2 p B m d B' m' d':={ h with at_:=h.at_.more hM hL hK }
theorem Tri.ay (h:Tri w0 W R M L K Zs Zt Zp Gs Gt Gp s A n c t C k c2 p B m d B' m' d')(hG:Gp≠0):Blk W Gp 27 #[.int .i64 p.al,.slice B m d,.slice B' m' d']:=h.bp.resolve_left hG
theorem Tri.setS (h:Tri w0 W R M L K Zs Zt Zp Gs Gt Gp s A n c t C k c2 p B m d B' m' d')(hs:zbt W R A2 n2 s2)(hn:n2<=L∧n2<=d2) :
  Tri w0 (((W.setCell Gs s2.al).setCell ⟨Gs,1,none⟩ s2.st).setCell ⟨Gs,2,none⟩ (.slice A2 n2 d2)) R M L K Zs Zt Zp Gs Gt Gp s2 A2 n2 d2 t C k c2 p B m d B' m' d':=by
 have a:=zaj W Gs (.int .i64 s2.al) (.int .i64 s2.st) (.slice A2 n2 d2);obtain⟨⟨g,i,j,l,o⟩,⟨q,r,u,v⟩,⟨x,c2,y⟩,⟨z,f⟩,D⟩:=h.ne.out;have h1:=h.at_.far h.bs a h.ge.2.2.2.1 dM dM;exact⟨{ h1 with is:=hs.far h.bs dM a,ns:=⟨hn,h1.ns.2⟩ },h.zs.frm a oM,h.zt.frm a oM,h.zp.frm a oM,zaA h.bs rfl _ _ _,h.bt.frm a oM,h.bp.imp id (fun b=>b.frm a oM),h.ge,h.ne⟩
theorem Tri.setT (h:Tri w0 W R M L K Zs Zt Zp Gs Gt Gp s A n c t C k c2 p B m d B' m' d')(hs:zbt W R A2 n2 s2)(hn:n2<=L∧n2<=d2) :
  Tri w0 (((W.setCell Gt s2.al).setCell ⟨Gt,1,none⟩ s2.st).setCell ⟨Gt,2,none⟩ (.slice A2 n2 d2)) R M L K Zs Zt Zp Gs Gt Gp s A n c s2 A2 n2 d2 p B m d B' m' d':=by
 have a:=zaj W Gt (.int .i64 s2.al) (.int .i64 s2.st) (.slice A2 n2 d2);obtain⟨⟨g,i,j,l,o⟩,⟨q,r,u,v⟩,⟨x,c2,y⟩,⟨z,f⟩,D⟩:=h.ne.out;have h1:=h.at_.far h.bt a h.ge.2.2.2.2.1 dM dM;exact⟨{ h1 with it:=hs.far h.bt dM a,ns:=⟨h1.ns.1,hn⟩ },h.zs.frm a oM,h.zt.frm a oM,h.zp.frm a oM,h.bs.frm a oM,zaA h.bt rfl _ _ _,h.bp.imp id (fun b=>b.frm a oM),h.ge,h.ne⟩
theorem Tri.setP {p2:Aut}   {A3:Option Addr} {n3 d3:Nat}(h:Tri w0 W R M L K Zs Zt Zp Gs Gt Gp s A n c t C k c2 p B m d B' m' d')(hG:Gp≠0)(hp:zZ W (R+1) A2 n2 d2 A3 n3 d3 p2)(hb:BdA K p2) :
  Tri w0 (((W.setCell Gp p2.al).setCell ⟨Gp,1,none⟩ (.slice A2 n2 d2)).setCell ⟨Gp,2,none⟩ (.slice A3 n3 d3)) R M L K Zs Zt Zp Gs Gt Gp s A n c t C k c2 p2 A2 n2 d2 A3 n3 d3:=by
 have a:=zaj W Gp (.int .i64 p2.al) (.slice A2 n2 d2) (.slice A3 n3 d3);obtain⟨⟨g,i,j,l,o⟩,⟨q,r,u,v⟩,⟨x,c2,y⟩,⟨z,f⟩,D⟩:=h.ne.out;have b:=h.ay hG;have h1:=h.at_.far b a (h.ge.2.2.2.2.2.resolve_left hG) dM dM;exact⟨{ h1 with ip:=hp.ax b a dM,bd:=za hb },h.zs.frm a oM,h.zt.frm a oM,h.zp.frm a oM,h.bs.frm a oM,h.bt.frm a oM,.inr (zaA b rfl _ _ _),h.ge,h.ne⟩
end
def RetSTP (R M L K:Nat) (w:World) (e:Ending) (w':World):Prop:=
 ∃ (s:Sys) (A:Option Addr) (n c:Nat) (t:Sys) (C:Option Addr) (k c2:Nat) (p:Aut) (B:Option Addr) (m d:Nat) (B':Option Addr) (m' d':Nat),
  e=.returned (.tuple #[.agg #[s.al,s.st,.slice A n c],.agg #[t.al,t.st,.slice C k c2],.agg #[p.al,.slice B m d,.slice B' m' d']])∧zbD w w' R M L K s A n c t C k c2 p B m d B' m' d'
def RetSPT (R M L K:Nat) (w:World) (e:Ending) (w':World):Prop:=
 ∃ (s:Sys) (A:Option Addr) (n c:Nat) (t:Sys) (C:Option Addr) (k c2:Nat) (p:Aut) (B:Option Addr) (m d:Nat) (B':Option Addr) (m' d':Nat),
  e=.returned (.tuple #[.agg #[s.al,s.st,.slice A n c],.agg #[p.al,.slice B m d,.slice B' m' d'],.agg #[t.al,t.st,.slice C k c2]])∧zbD w w' R M L K s A n c t C k c2 p B m d B' m' d'
section
variable {w0 W:World} {R M L K N J H n c k c2 m d m' d' Zs Zt Zp:Nat} {s t:Sys} {p:Aut} {A B B' C:Option Addr} {us ut up:Array Value}
theorem zbD.finSTP (h:zbD w0 W R M L K s A n c t C k c2 p B m d B' m' d') (zs:Blk W Zs 38 us) (zt:Blk W Zt 38 ut) (zp:Blk W Zp 27 up)(h1:us.size=3)(h2:ut.size=3)(h3:up.size=3)(hz1:w0.heap.size<=Zs)(hz2:w0.heap.size<=Zt)(hz3:w0.heap.size<=Zp) (e1:Zs≠Zt) (e2:Zs≠Zp) (e3:Zt≠Zp) :
  Hid (zbD w0 (((((((((W.setCell Zs s.al).setCell ⟨Zs,1,none⟩ s.st).setCell ⟨Zs,2,none⟩ (.slice A n c)).setCell Zt t.al).setCell ⟨Zt,1,none⟩ t.st).setCell ⟨Zt,2,none⟩ (.slice C k c2)).setCell Zp p.al).setCell ⟨Zp,1,none⟩ (.slice B m d)).setCell ⟨Zp,2,none⟩ (.slice B' m' d')) R M L K s A n c t C k c2 p B m d B' m' d') ∧
  Hid (Blk (((((((((W.setCell Zs s.al).setCell ⟨Zs,1,none⟩ s.st).setCell ⟨Zs,2,none⟩ (.slice A n c)).setCell Zt t.al).setCell ⟨Zt,1,none⟩ t.st).setCell ⟨Zt,2,none⟩ (.slice C k c2)).setCell Zp p.al).setCell ⟨Zp,1,none⟩ (.slice B m d)).setCell ⟨Zp,2,none⟩ (.slice B' m' d')) Zs 38 #[s.al,s.st,.slice A n c] ∧
  Blk (((((((((W.setCell Zs s.al).setCell ⟨Zs,1,none⟩ s.st).setCell ⟨Zs,2,none⟩ (.slice A n c)).setCell Zt t.al).setCell ⟨Zt,1,none⟩ t.st).setCell ⟨Zt,2,none⟩ (.slice C k c2)).setCell Zp p.al).setCell ⟨Zp,1,none⟩ (.slice B m d)).setCell ⟨Zp,2,none⟩ (.slice B' m' d')) Zt 38 #[t.al,t.st,.slice C k c2] ∧
  Blk (((((((((W.setCell Zs s.al).setCell ⟨Zs,1,none⟩ s.st).setCell ⟨Zs,2,none⟩ (.slice A n c)).setCell Zt t.al).setCell ⟨Zt,1,none⟩ t.st).setCell ⟨Zt,2,none⟩ (.slice C k c2)).setCell Zp p.al).setCell ⟨Zp,1,none⟩ (.slice B m d)).setCell ⟨Zp,2,none⟩ (.slice B' m' d')) Zp 27 #[p.al,.slice B m d,.slice B' m' d']):=by
 have f1:=zaj W Zs (.int .i64 s.al) (.int .i64 s.st) (.slice A n c);have b:=zaA zs h1 (.int .i64 s.al) (.int .i64 s.st) (.slice A n c);replace h:=h.far zs f1 hz1 dM dM;replace zt:=zt.frm f1 oM;replace zp:=zp.frm f1 oM;clear f1 zs;generalize ((W.setCell Zs s.al).setCell ⟨Zs,1,none⟩ s.st).setCell ⟨Zs,2,none⟩ (.slice A n c)=f at *;have f2:=zaj f Zt (.int .i64 t.al) (.int .i64 t.st) (.slice C k c2);have i:=zaA zt h2 (.int .i64 t.al) (.int .i64 t.st) (.slice C k c2);replace h:=h.far zt f2 hz2 dM dM;replace b:=b.frm f2 oM;replace zp:=zp.frm f2 oM;clear f2 zt;generalize ((f.setCell Zt t.al).setCell ⟨Zt,1,none⟩ t.st).setCell ⟨Zt,2,none⟩ (.slice C k c2)=g at *;have a:=zaj g Zp (.int .i64 p.al) (.slice B m d) (.slice B' m' d');exact⟨za (h.far zp a hz3 dM dM),za ⟨b.frm a oM,i.frm a oM,zaA zp h3 _ _ _⟩⟩
theorem zbD.finSPT (h:zbD w0 W R M L K s A n c t C k c2 p B m d B' m' d') (zs:Blk W Zs 38 us) (zt:Blk W Zt 38 ut) (zp:Blk W Zp 27 up)(h1:us.size=3)(h2:ut.size=3)(h3:up.size=3)(hz1:w0.heap.size<=Zs)(hz2:w0.heap.size<=Zt)(hz3:w0.heap.size<=Zp) (e1:Zs≠Zt) (e2:Zs≠Zp) (e3:Zt≠Zp) :
  Hid (zbD w0 (((((((((W.setCell Zs s.al).setCell ⟨Zs,1,none⟩ s.st).setCell ⟨Zs,2,none⟩ (.slice A n c)).setCell Zp p.al).setCell ⟨Zp,1,none⟩ (.slice B m d)).setCell ⟨Zp,2,none⟩ (.slice B' m' d')).setCell Zt t.al).setCell ⟨Zt,1,none⟩ t.st).setCell ⟨Zt,2,none⟩ (.slice C k c2)) R M L K s A n c t C k c2 p B m d B' m' d') ∧
  Hid (Blk (((((((((W.setCell Zs s.al).setCell ⟨Zs,1,none⟩ s.st).setCell ⟨Zs,2,none⟩ (.slice A n c)).setCell Zp p.al).setCell ⟨Zp,1,none⟩ (.slice B m d)).setCell ⟨Zp,2,none⟩ (.slice B' m' d')).setCell Zt t.al).setCell ⟨Zt,1,none⟩ t.st).setCell ⟨Zt,2,none⟩ (.slice C k c2)) Zs 38 #[s.al,s.st,.slice A n c] ∧
  Blk (((((((((W.setCell Zs s.al).setCell ⟨Zs,1,none⟩ s.st).setCell ⟨Zs,2,none⟩ (.slice A n c)).setCell Zp p.al).setCell ⟨Zp,1,none⟩ (.slice B m d)).setCell ⟨Zp,2,none⟩ (.slice B' m' d')).setCell Zt t.al).setCell ⟨Zt,1,none⟩ t.st).setCell ⟨Zt,2,none⟩ (.slice C k c2)) Zt 38 #[t.al,t.st,.slice C k c2] ∧
  Blk (((((((((W.setCell Zs s.al).setCell ⟨Zs,1,none⟩ s.st).setCell ⟨Zs,2,none⟩ (.slice A n c)).setCell Zp p.al).setCell ⟨Zp,1,none⟩ (.slice B m d)).setCell ⟨Zp,2,none⟩ (.slice B' m' d')).setCell Zt t.al).setCell ⟨Zt,1,none⟩ t.st).setCell ⟨Zt,2,none⟩ (.slice C k c2)) Zp 27 #[p.al,.slice B m d,.slice B' m' d']):=by
 have f1:=zaj W Zs (.int .i64 s.al) (.int .i64 s.st) (.slice A n c);have b:=zaA zs h1 (.int .i64 s.al) (.int .i64 s.st) (.slice A n c);replace h:=h.far zs f1 hz1 dM dM;replace zt:=zt.frm f1 oM;replace zp:=zp.frm f1 oM;clear f1 zs;generalize ((W.setCell Zs s.al).setCell ⟨Zs,1,none⟩ s.st).setCell ⟨Zs,2,none⟩ (.slice A n c)=f at *;have f2:=zaj f Zp (.int .i64 p.al) (.slice B m d) (.slice B' m' d');have i:=zaA zp h3 (.int .i64 p.al) (.slice B m d) (.slice B' m' d');replace h:=h.far zp f2 hz3 dM dM;replace b:=b.frm f2 oM;replace zt:=zt.frm f2 oM;clear f2 zp;generalize ((f.setCell Zp p.al).setCell ⟨Zp,1,none⟩ (.slice B m d)).setCell ⟨Zp,2,none⟩ (.slice B' m' d')=g at *;have a:=zaj g Zt (.int .i64 t.al) (.int .i64 t.st) (.slice C k c2);exact⟨za (h.far zt a hz2 dM dM),za ⟨b.frm a oM,zaA zt h2 _ _ _,i.frm a oM⟩⟩
end
theorem bits_all (y:Nat)(hy:y<64):bits .and .i64 (-1) (y:Int)=(y:Int):=
 (show ∀ y:Fin 64,bits .and .i64 (-1) ((y.val:Nat):Int)=((y.val:Nat):Int) by decide +kernel) ⟨y,hy⟩
theorem yN03a4 {P:Prop}(h:P:=by
 obtain⟨f1,f2⟩:=zil (N:=M+600) (sh:=zgc) hxz zje hsh.out hr6 hd6 bz rfl hRl (Nat.le_refl _) (Nat.le_refl _);have bz5:=bz.dr hd6 oM;have cZ:=bz5.cell;have fZ:=bz5.frozen;go_wp2_with fail
 have cf:=f2.cell;exact bodyPost_ret (v:=.agg #[b.al,.slice A n c,.slice A' n' c']) (by simp [results,Tryz.results205,go_sem,cf]) rfl f1.out
 ):P:=h
theorem zgn {zz:Int} (h:Rd w R M)(hM:M<=700000000)(ha:(∃ a:Nat,zz=(a:Int)∧a<64)∨zz = -1) :
  Calls Tryz.prog 205 #[.pointer (some R),zz] w (zgd R (M+600) zgc w):=by
 have hRl:=h.lt
 go_enter Tryz.func205,Tryz.ntmps205
 have hxz:=(dB w).alloc (.cells #[(0:Int),(),()] 27);have bz:=dX w 27 #[(0:Int),(),()];have t:(w.alloc (.cells #[(0:Int),(),()] 27)).heap.size=w.heap.size+1:=sM;go_wp2_with fail
 rw [← t];generalize w.alloc _=B at *;refine (zaN [63,63,5,3,6] 5 #[(63:Int),(63:Int),(5:Int),(3:Int),(6:Int)] rfl rfl oM oM (h.ext hxz) oM).mono ?_;rintro e w2 ⟨x,i,rfl,m,j⟩;obtain⟨y,u,rfl⟩:∃ y:Nat,y<64∧x=(y:Int):=⟨x.toNat,by simp at i;omega,by simp at i;omega⟩;clear i;replace j:=((Dr.refl R B).alloc _).trans j;obtain⟨d,k,o⟩:∃ d:Nat,bits .and .i64 zz (y:Int)=(d:Int)∧d<64:=by
  rcases ha with ⟨a,rfl,ha⟩|rfl
  ·exact⟨a&&&y,zbO tM tM,Nat.lt_of_le_of_lt Nat.and_le_left ha⟩
  ·exact⟨y,bits_all y u,u⟩
 go_upto_region 2 with fail
 clear k;go_wp2_with fail
 refine (zx m oM).mono ?_;rintro e E ⟨z,rfl,-,-,g,f⟩;replace f:=j.trans f;clear j m;go_upto_if 13 with fail
 go_cut [5] (fun s5 wx=>∃ d:Nat,d<64∧s5=.int .i64 (d:Nat)∧Rd wx R (M+10)∧Dr R B wx)
 case first =>
  by_cases hz:z=0
  ·subst hz;go_wp2_with fail
   refine (spec_l1Some g oM).mono ?_;rintro e w4 ⟨x,i,rfl,hr4,hd4⟩;go_wp2_with fail
   go_meet;exact⟨x,i,rfl,hr4.more oM,f.trans hd4⟩
  ·have D:((z:Int)==0)=false:=by simp;omega
   go_wp2_with fail
   go_meet;exact⟨d,o,rfl,g.more oM,f⟩
 case rest =>
  clear g f o;obtain⟨d,q,rfl,g,f⟩:=hcut;go_wp2_with fail
  refine (zx g oM).mono ?_;rintro e w4 ⟨y,rfl,-,-,hr4,hd4⟩;replace hd4:=f.trans hd4
  by_cases u:0<y
  ·have v:((y:Int)>0):=oM;go_wp2_with fail
   refine (zaN [3,2,4,1] 4 #[(3:Int),(2:Int),(4:Int),(1:Int)] rfl rfl oM oM hr4 oM).mono ?_;rintro e F ⟨x,i,rfl,s,r⟩;obtain⟨p,hp1,C,rfl⟩:∃ y:Nat,1<=y∧y<=4∧x=(y:Int):=⟨x.toNat,by simp at i;omega,by simp at i;omega,by simp at i;omega⟩;clear i;have l:=(hd4.alloc _).trans r;go_wp2_with fail
   refine (zhf s oM q hp1 oM).mono ?_;intro e w6 hret;obtain⟨b,A,n,c,A',n',c',rfl,zje,hsh,hr6,hd6⟩:=hret.mono (N:=M+600) (sh':=zgc) l oM (fun b hb=>⟨d,p,q,hp1,oM,hb⟩);exact yN03a4
  ·have v:¬ ((y:Int)>0):=oM;go_wp2_with fail
   refine (zhe hr4 oM q).mono ?_;intro e w6 hret;obtain⟨b,A,n,c,A',n',c',rfl,zje,hsh,hr6,hd6⟩:=hret.mono (N:=M+600) (sh':=zgc) hd4 oM (fun b hb=>hb);exact yN03a4
theorem zhh (h:Rd w R M)(hM:M<=700000000)(ha:a<64) :
  Calls Tryz.prog 205 #[.pointer (some R),a] w (zgd R (M+600) zgc w):=zgn h hM (.inl ⟨a,rfl,ha⟩)
theorem Dr.new {w2:World}(h:Ext w w1)(hR:w.heap.size<=R)(hd:Dr R w1 w2):Ext w w2:=
 h.frm hd (fun k hk he=>oM)
theorem zbt.new (h:zbt W R A n s)(hR:w.heap.size<=R):zO W w.heap.size W.heap.size A n s:=
 h.at_.more oM (dE _)
theorem zfX (h:Rd w R M)(hM:M<=800000000) :
  Calls Tryz.prog 116 #[.pointer (some R)] w (RetG R (M+30000) 20000 w):=by
 have hRl:=h.lt;have hx0:=(dB w).alloc (.cells #[(0:Int),(0:Int),()] 38);have bz5:=dX w 38 #[(0:Int),(0:Int),()];have b:=h.ext hx0;have d:=hx0.dr (R:=R);have g:=bz5.lt
 go_enter Tryz.func116,Tryz.ntmps116
 go_wp2_with fail
 have f:=(zaN [3,6,7,5,2] 5 #[(3:Int),(6:Int),(7:Int),(5:Int),(2:Int)] rfl rfl oM oM b oM);simp only [World.size_alloc] at f;refine f.mono ?_;rintro e i ⟨al,hal,rfl,hr6,hd6⟩;have hw6:=(d.ext ((dB _).alloc _)).trans hd6;have bz6:=(bz5.ext ((dB _).alloc _)).dr hd6 oM;go_wp2_with fail
 refine (zaN [2,3,1,3] 4 #[(2:Int),(3:Int),(1:Int),(3:Int)] rfl rfl oM oM hr6 oM).mono ?_;rintro e w7 ⟨st,hst,rfl,hr7,hd7⟩;have hw7:=(hw6.ext ((dB _).alloc _)).trans hd7;have bz7:=(bz6.ext ((dB _).alloc _)).dr hd7 oM;go_wp2_with fail
 refine (zaN [2,3,4] 3 #[(2:Int),(3:Int),(4:Int)] rfl rfl oM oM hr7 oM).mono ?_;rintro e w8 ⟨fw,_,rfl,hr8,hd8⟩;have hw8:=(hw7.ext ((dB _).alloc _)).trans hd8;have bz8:=(bz7.ext ((dB _).alloc _)).dr hd8 oM;obtain⟨a,rfl,ha⟩:∃ a:Nat,al=a∧a<64:=⟨al.toNat,by simp at hal;omega,by simp at hal;omega⟩;obtain⟨p,rfl,hp1,hp⟩:∃ p:Nat,st=p∧1<=p∧p<=16:=⟨st.toNat,by simp at hst;omega,by simp at hst;omega,by simp at hst;omega⟩;clear hal hst;go_wp2_with fail
 refine (zdy hr8 oM ha hp1 hp).mono ?_;rintro e w9 ⟨s9,A9,n9,c9,rfl,hs9,hg9,hn9,hr9,hd9⟩;have bz9:=bz8.dr hd9 oM;have hfin9:=za (zgA (R:=R) (M:=M+30000) (L:=20000) (c:=c9) hs9 hg9 hn9 (hr9.more oM) (hw8.trans hd9) bz9 hRl (dE _));have cz9:=bz9.cell;have fz9:=bz9.frozen;go_wp2_with fail
 exact bodyPost_ret (v:=.agg #[s9.al,s9.st,.slice A9 n9 c9]) (by simp [results,Tryz.results116,go_sem,cz9]) rfl hfin9.out
theorem or_al {b:Nat}(ha:a<64)(hb:b<64):bits .or .i64 (a:Int) (b:Int)=((a|||b:Nat):Int)∧a|||b<64:=by
 have h:=Nat.or_lt_two_pow (n:=6) (x:=a) (y:=b) oM oM;exact⟨zbE tM tM,oM⟩
theorem spec_l9Three (h:Rd w R M)(hM:M<=600000000) :
  Calls Tryz.prog 179 #[.pointer (some R)] w (RetSPT R (M+150000) 20000 16 w):=by
 have hRl:=h.lt
 go_enter Tryz.func179,Tryz.ntmps179
 go_upto_region 1 with fail
 generalize U0:((w.alloc _).alloc _).alloc _=w0 at *;obtain⟨hx0,z1,z2,z3⟩:=Ext.x3_ U0;have aW:w0.heap.size=w.heap.size+3:=by rw [← U0];simp
 clear U0;go_wp2_with fail
 refine (zfX (h.ext hx0) oM).mono ?_;rintro e w1 ⟨s,A,n,c,rfl,G,D,hn1,F,j⟩;have aD:=j.size;have o:=(dB w1).alloc (.cells #[s.al,s.st,.slice A n c] 38);have bs:=dX w1 38 #[s.al,s.st,.slice A n c];have aC:(w1.alloc (.cells #[s.al,s.st,.slice A n c] 38)).heap.size=w1.heap.size+1:=sM;have ai:Dr R w (w1.alloc (.cells #[s.al,s.st,.slice A n c] 38)):=(hx0.dr.trans j).alloc _;replace G:=G.ext o;replace F:=F.ext o;replace z1:=(z1.dr j oM).ext o;replace z2:=(z2.dr j oM).ext o;replace z3:=(z3.dr j oM).ext o;go_upto_region 2 with fail
 generalize hGs:w1.heap.size=Gs at *;generalize w1.alloc _=w2 at *;clear o;go_wp2_with fail
 refine (zfX F oM).mono ?_;rintro e w3 ⟨t,C,k,u,rfl,ao,E,ak,an,g⟩;have aE:=g.size;have f:=(dB w3).alloc (.cells #[t.al,t.st,.slice C k u] 38);have bt:=dX w3 38 #[t.al,t.st,.slice C k u];have Z:Tri w (w3.alloc (.cells #[t.al,t.st,.slice C k u] 38)) R (M+60000) 20000 16 w.heap.size (w.heap.size+1+1) (w.heap.size+1) Gs w3.heap.size 0 s A n c t C k u autZ none 0 0 none 0 0:=
  ⟨⟨(G.dr g).ext f,ao.ext f,ziF _ _,⟨hn1,ak⟩,za (bd_autZ _),(an.ext f).more oM,(ai.trans g).ext f,hRl⟩,(z1.dr g oM).ext f,(z3.dr g oM).ext f,(z2.dr g oM).ext f,(bs.dr g oM).ext f,bt,.inl rfl,oM,za (by unfold Ne6;omega)⟩
 clear G F z1 z2 z3 bs bt ao f ai;go_upto_region 3 with fail
 generalize hGt:w3.heap.size=Gt at *;generalize w3.alloc _=w4 at *;have am:Hid (Gs<Gt∧w.heap.size+3<=Gs):=za oM;clear aD aE j g an hn1 ak aC hGs hGt;go_wp2_with fail
 refine (zx Z.at_.rd oM).mono ?_;rintro e w5 ⟨y,rfl,-,-,l,z⟩;have i:=(Z.drawn z l).more (N:=M+60001) (J:=20000) (H:=16) oM oM oM;clear Z;go_upto_if 13 with fail
 go_cut [] (fun wx=>∃ (s:Sys) (A:Option Addr) (n c:Nat),Good s∧Tri w wx R (M+60001+30000) 20000 16 w.heap.size (w.heap.size+1+1) (w.heap.size+1) Gs Gt 0 s A n c t C k u autZ none 0 0 none 0 0)
 case first =>
  by_cases hy:y=0
  ·subst hy;go_wp2_with fail
   refine (zhd l oM).mono ?_;rintro e w6 ⟨s',A',n',c',rfl,Y,U,V,hr6,hd6⟩;have a:=(i.drawn hd6 hr6).more (N:=M+60001+30000) (J:=20000) (H:=16) oM oM oM;have cG:=a.bs.cell;have fG:=a.bs.frozen;have O:=a.setS Y V;go_wp2_with fail
   go_meet;exact⟨_,_,_,_,U,O⟩
  ·have aG:((y:Int)==0)=false:=by simp;omega
   go_wp2_with fail
   go_meet;exact⟨_,_,_,_,D,i.more oM oM oM⟩
 case rest =>
  clear i l z D;obtain⟨s,A,n,c,D,i⟩:=hcut;go_wp2_with fail
  refine (zx i.at_.rd oM).mono ?_;rintro e w5 ⟨y,rfl,-,-,l,z⟩;have a:=(i.drawn z l).more (N:=M+100000) (J:=20000) (H:=16) oM oM oM;clear i;go_upto_if 18 with fail
  go_cut [] (fun wx=>∃ (t:Sys) (C:Option Addr) (k u:Nat),Good t∧Tri w wx R (M+100000+30000) 20000 16 w.heap.size (w.heap.size+1+1) (w.heap.size+1) Gs Gt 0 s A n c t C k u autZ none 0 0 none 0 0)
  case first =>
   by_cases hy:y=0
   ·subst hy;go_wp2_with fail
    refine (zhd a.at_.rd oM).mono ?_;rintro e w6 ⟨s',A',n',c',rfl,Y,U,V,hr6,hd6⟩;have b:=(a.drawn hd6 hr6).more (N:=M+100000+30000) (J:=20000) (H:=16) oM oM oM;have cG:=b.bt.cell;have fG:=b.bt.frozen;have O:=b.setT Y V;go_wp2_with fail
    go_meet;exact⟨_,_,_,_,U,O⟩
   ·have aG:((y:Int)==0)=false:=by simp;omega
    go_wp2_with fail
    go_meet;exact⟨_,_,_,_,E,a.more oM oM oM⟩
  case rest =>
   clear a l z E;obtain⟨t,C,k,u,E,a⟩:=hcut;obtain⟨a1,p1,Q,ag,-⟩:=D;obtain⟨a2,p2,S,ah,-⟩:=E;obtain⟨aV,aB⟩:=or_al ag ah;obtain⟨r,aF⟩:∃ r,r=wc:=⟨_,rfl⟩;subst aF;have aj:=za a.ge;have aT:=a.at_.hR;have cS:∀ W,Frm (fun k=>k=R∨k=w.heap.size∨k=w.heap.size+1) r W->∀ q,W.cell? ⟨Gs,q,none⟩=#[Value.int .i64 a1,.int .i64 s.st,.slice A n c][q]?:=fun W hW=>by rw [← Q];exact (a.bs.frm hW (by have:=aj.out;have:=am.out;omega)).cell
   have cT:∀ W,Frm (fun k=>k=R∨k=w.heap.size∨k=w.heap.size+1) r W->∀ q,W.cell? ⟨Gt,q,none⟩=#[Value.int .i64 a2,.int .i64 t.st,.slice C k u][q]?:=fun W hW=>by rw [← S];exact (a.bt.frm hW (by have:=aj.out;have:=am.out;omega)).cell
   have aU:Frm (fun k=>k=R∨k=w.heap.size∨k=w.heap.size+1) r r.drew:=(dB r).drew.aj;have I:=za Q;have L:=za S;clear Q S;go_wp2_with fail
   refine tR (fun X=>Frm (fun k=>k=R∨k=w.heap.size∨k=w.heap.size+1) r X) [11] (Ord.of [0,1,2,3,4,5,6,8,7,9,10,11]) ?_;refine tQ ?_;refine zB fun K hK=>?_;go_simp;refine (zhh (a.at_.rd.ext (dB r).drew) oM aB).mono ?_;rintro e w7 ⟨p,B,m,d,B',m',d',rfl,hp,aA,hr7,hd7⟩;have x:Dr R r w7:=(Dr.refl R r).drew.trans hd7;have b:=(a.drawn x hr7).more (N:=M+150000) (J:=20000) (H:=16) oM oM oM;have ae:Frm (fun k=>k=R∨k=w.heap.size∨k=w.heap.size+1) r w7:=x.mono (fun k _ hk=>.inl hk);refine hK.out _ _ ae ?_;refine pT ?_;refine tQ ?_;have aL:=x.size;have aS:=a.at_.rd.lt;have cs:=b.zs.cell;have ct:=b.zt.cell;have cp:=b.zp.cell;have fs:=b.zs.frozen;have ft:=b.zt.frozen;have fp:=b.zp.frozen;obtain⟨f1,f2⟩:=zbD.finSPT ({ b.at_ with ip:=hp.less (by simp;omega),bd:=za (BdA.of aA.out) }) b.zs b.zt b.zp rfl rfl rfl oM oM oM oM oM oM
   rw [I.out,L.out] at f1 f2;refine zB fun K hK=>?_;go_simp;have af:=ae.trans ((zaj w7 w.heap.size (.int .i64 a1) (.int .i64 s.st) (.slice A n c)).mono (T:=fun k=>k=R∨k=w.heap.size∨k=w.heap.size+1) (fun k _ hk=>.inr (.inl hk)));refine hK.out _ _ af ?_;refine pT ?_;refine zB fun K hK=>?_;go_simp;have az:=af.trans ((zaj _ (w.heap.size+1) (.int .i64 p.al) (.slice B m d) (.slice B' m' d')).mono (T:=fun k=>k=R∨k=w.heap.size∨k=w.heap.size+1) (fun k _ hk=>.inr (.inr hk)));refine hK.out _ _ az ?_;refine pT ?_;refine zN fun K hK=>?_;go_simp;refine hK.out _ _ ?_;refine zal ?_;go_wp2_with fail
   obtain⟨g1,g2,g3⟩:=f2.out;have c1:=g1.cell;have ax:=g2.cell;have c3:=g3.cell;exact bodyPost_ret (v:=.tuple #[.agg #[a1,s.st,.slice A n c],.agg #[p.al,.slice B m d,.slice B' m' d'],.agg #[a2,t.st,.slice C k u]]) (by simp [results,Tryz.results179,go_sem,c1,ax,c3]) rfl ⟨s,A,n,c,t,C,k,u,p,B,m,d,B',m',d',by rw [I.out,L.out],f1.out⟩
end Go.Proofs.YtckbjnndaaoddaaGreatDoor
