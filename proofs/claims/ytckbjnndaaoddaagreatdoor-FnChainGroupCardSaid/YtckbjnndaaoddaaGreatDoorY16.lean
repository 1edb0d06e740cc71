/- spec.l2Texts -/
import Derived.Test.YtckbjnndaaoddaaGreatDoorY15
import Derived.Laws.StructEq
set_option maxHeartbeats 4000000
set_option maxRecDepth 100000
namespace Go.Proofs.YtckbjnndaaoddaaGreatDoor
open Go Go.RowKit
open Blk renaming new->eX
open Ext renaming bl_->eS,eq_->gO,refl->dE
open Frm renaming ae->fV,setCell->eB
open List renaming getElem?_append_right->eN,getElem?_eq_getElem->dH,getElem?_set_ne->gX,getElem?_set_self->fP,length_append->eK,length_cons->gJ,length_set->gU,mem_of_getElem?->dG,mem_or_eq_of_mem_set->gL,nil_append->e9
open Nat renaming le_refl->dI,le_trans->eI,zero_add->eO,zero_le->eC
open Reads renaming af->eW
variable {A A':Option Addr} {G L M N R Z a base c c' cap g k n n' p x:Nat} {W w w' w0 w1 w2:World} {acc:List Bool} {al st:Int} {b:Aut} {es:List Edg} {ls:List (List Int)} {s:Sys} {t:TypeId} {us:Array Value} {v v':Value}
def zgY:Value->ByteArray
 |.string s=>s
 |_=>⟨#[]⟩
theorem zeQ (w:World)  (hu:zM (us.toList.map zgY)=us.toList)(hn:us.size=n)(h:n<=1000):(w.alloc (.cells us 9)).ownsRow w.heap.size 9 1 (.slice (some w.heap.size) n n) n (zM (us.toList.map zgY)):=by
 rw [hu];exact World.ownsRow_lit w us n (dI _) lM (by simpa using hn)
theorem reads_ints {e:TypeId} (l:List Int)(hu:us.toList=ints l)(hn:us.size=n)(hx:Ext (w.alloc (.cells us e)) w')(h63:n<=1000):Reads w' w.heap.size (w.heap.size+1) 1 (some ⟨w.heap.size,0,none⟩) n (ints l):=
 ⟨by rw [← hu];simpa using hn,oM,fun _=>⟨_,rfl,dI _,sM,fun j u hj=>by
  have:=(zcv hx).cell j
  rw [zT,eO,this]
  rw [← hu] at hj
  simpa using hj⟩⟩
theorem zbN (l:List Int) (n:Nat) (us:Array Value)(hu:us.toList=ints l)(hn:us.size=n)(h0:0<n)(h63:n<=1000)(h:Rd w R M)(hM:M<=1000000000) :
  Calls Tryz.prog 163 #[.pointer (some R),.slice (some w.heap.size) n n] (w.alloc (.cells us 3)) (RetNum R M l (w.alloc (.cells us 3))):=
 l19Rd_num (h.ext ((dE _).alloc _)) hM (reads_ints l hu hn (dE _) h63) h.lt h0
theorem ret_fill {cs:Array Value}(hs:zcy W R A n s)(hg:Good s)(hn:n<=L∧n<=c)(hr:Rd W R M)(hd:Dr R w W)(hB:Blk W Z 38 cs)(hR:R<w.heap.size)(hZ:w.heap.size<=Z) :
  RetG R M L w (.returned (.agg #[s.al,s.st,.slice A n c])) (((W.setCell Z s.al).setCell ⟨Z,1,none⟩ s.st).setCell ⟨Z,2,none⟩ (.slice A n c)):=by
 have a:=zdm W Z (.int .i64 s.al) (.int .i64 s.st) (.slice A n c);exact⟨s,A,n,c,rfl,hs.far hB dM a,hg,hn,hr.frm a (fun k h1 h2=>oM),((hd.ag (p:=⟨Z,0,none⟩) hZ _).ag (p:=⟨Z,1,none⟩) hZ _).ag (p:=⟨Z,2,none⟩) hZ _⟩
def zhq (b:Aut):Prop:=∃ a p:Nat,a<64∧1<=p∧p<=16∧shA a p (letters a 6).length b
theorem ziq.mono {sh sh':Aut->Prop}  {e:Ending}(h:ziq R M sh w e w')(hd:Dr R w0 w)(hM:M<=N)(hs:∀ b,sh b->sh' b):ziq R N sh' w0 e w':=by
 obtain⟨b,A,n,c,A',n',c',d,f,hsh,g,a⟩:=h;exact⟨b,A,n,c,A',n',c',d,f.less hd.size,za (hs b hsh.out),g.more hM,hd.trans a⟩
theorem zjk {sh:Aut->Prop}  {cs:Array Value} (hx:Ext w w0)(ho:zN W w0.heap.size A n c A' n' c' b)(hsh:sh b)(hr:Rd W R M)(hd:Dr R w0 W) (bz:Blk w0 Z t cs)(hc:cs.size=3)(hR:R<w.heap.size)(hZ:w.heap.size<=Z)(hM:M<=N) :
  Hid (ziq R N sh w (.returned (.agg #[b.al,.slice A n c,.slice A' n' c'])) (((W.setCell Z b.al).setCell ⟨Z,1,none⟩ (.slice A n c)).setCell ⟨Z,2,none⟩ (.slice A' n' c'))) ∧
  Blk (((W.setCell Z b.al).setCell ⟨Z,1,none⟩ (.slice A n c)).setCell ⟨Z,2,none⟩ (.slice A' n' c')) Z t #[.int .i64 b.al,.slice A n c,.slice A' n' c']:=by
 have d:=bz.lt;have a:=zZ W Z (.int .i64 b.al) (.slice A n c) (.slice A' n' c');refine⟨za ⟨b,A,n,c,A',n',c',rfl,(ho.keep a (fun b h1 e=>oM)).less hx.size,za hsh,(hr.more hM).frm a (fun k hk e=>oM),?_⟩,zaf (bz.dr hd oM) hc _ _ _⟩;exact (((hx.dr.trans hd).ag (p:=⟨Z,0,none⟩) hZ _).ag (p:=⟨Z,1,none⟩) hZ _).ag (p:=⟨Z,2,none⟩) hZ _
theorem spec_l1Some (h:Rd w R M)(hM:M<=900000000) :
  Calls Tryz.prog 272 #[.pointer (some R)] w (fun e w'=>∃ x:Nat,x<64∧e=.returned (.int .i64 x)∧Rd w' R (M+1)∧Dr R w w'):=by
 go_enter Tryz.func272,Tryz.ntmps272
 go_wp2_with fail
 refine (zbN [3,7,1,5,0,6,63,2,21] 9 #[(3:Int),(7:Int),(1:Int),(5:Int),(0:Int),(6:Int),(63:Int),(2:Int),(21:Int)] rfl rfl oM oM h oM).mono ?_;rintro e w1 ⟨x,c,rfl,b,a⟩;obtain⟨y,d,rfl⟩:∃ y:Nat,y<64∧x=(y:Int):=⟨x.toNat,by simp at c;omega,by simp at c;omega⟩;clear c;go_wp2_with fail
 go_ret;exact⟨y,d,rfl,b,((Dr.refl R w).alloc _).trans a⟩
theorem yY16a1 {P:Prop}(h:P:=by
 intro e w4 hret;obtain⟨b,A,n,c,A',n',c',rfl,zkf,hsh,hr4,hd4⟩:=hret.mono (N:=M+500) (sh':=zhq) hd13 oM (fun b hb=>⟨a,p,ha,hp1,oM,hb⟩);obtain⟨f1,f2⟩:=zjk (N:=M+500) (sh:=zhq) hxz zkf hsh.out hr4 hd4 bz rfl hRl (Nat.le_refl _) (Nat.le_refl _);have bz5:=bz.dr hd4 oM;have cZ:=bz5.cell;have fZ:=bz5.frozen;go_wp2_with fail
 have cf:=f2.cell;exact bodyPost_ret (v:=.agg #[b.al,.slice A n c,.slice A' n' c']) (by simp [results,Tryz.results74,go_sem,cf]) rfl f1.out
 ):P:=h
theorem spec_l3Over (h:Rd w R M)(hM:M<=800000000)(ha:a<64) :
  Calls Tryz.prog 74 #[.pointer (some R),a] w (ziq R (M+500) zhq w):=by
 have hRl:=h.lt
 go_enter Tryz.func74,Tryz.ntmps74
 go_wp2_with fail
 generalize U0:w.alloc _=w1 at *;have hxz:=Ext.al_ U0;have bz:=eS U0;clear U0;refine (zH (h.ext hxz) oM).mono ?_;rintro e l ⟨y,rfl,-,-,g,f⟩
 by_cases hy:y=0
 ·subst hy;go_wp2_with fail
  refine (zbN [3,2,4,1] 4 #[(3:Int),(2:Int),(4:Int),(1:Int)] rfl rfl oM oM g oM).mono ?_;rintro e k ⟨x,b,rfl,d,c⟩;obtain⟨p,hp1,i,rfl⟩:∃ y:Nat,1<=y∧y<=4∧x=(y:Int):=⟨x.toNat,by simp at b;omega,by simp at b;omega,by simp at b;omega⟩;clear b;have hd13:=(f.alloc _).trans c;go_wp2_with fail
  refine (zia d oM ha hp1 oM).mono ?_;exact yY16a1
 ·have j:((y:Int)==0)=false:=by simp;omega
  go_wp2_with fail
  refine (zbN [2,3,1,4,5] 5 #[(2:Int),(3:Int),(1:Int),(4:Int),(5:Int)] rfl rfl oM oM g oM).mono ?_;rintro e k ⟨x,b,rfl,d,c⟩;obtain⟨p,hp1,i,rfl⟩:∃ y:Nat,1<=y∧y<=5∧x=(y:Int):=⟨x.toNat,by simp at b;omega,by simp at b;omega,by simp at b;omega⟩;clear b;have hd13:=(f.alloc _).trans c;go_wp2_with fail
  refine (zga d oM ha oM).mono ?_;exact yY16a1
section
variable {w0 W W':World} {R G M N:Nat} {al:Int} {v vA:Value} {rows:List Value} {ls:List (List Int)} {acc:List Bool}
theorem zbW.setAl (h:zbW w0 W R G M al v rows ls vA acc) (x:Int):zbW w0 (W.setCell G x) R G M x v rows ls vA acc:=by
 have d:=h.hR;have a:=h.hG;have c:=eB W G 0 (.int .i64 x);refine⟨by simpa using h.blk.ab 0 _,zf h.nx c (fun b hb hS=>zr h.nx h.blk dM hb hS),h.rows.frm c (fun i r b hr hb hS=>?_),zf h.acc c (fun b hb hS=>zr h.acc h.blk dM hb hS),h.rd.frm c (fun k hk e=>oM),h.dr.ag (p:=⟨G,0,none⟩) a _,d,a⟩;obtain⟨g,_,f⟩:=h.rows.row hr;exact zr f h.blk dM hb hS
theorem zbW.setNext (h:zbW w0 W R G M al v rows ls vA acc) (ho:W.ownsRow w0.heap.size 110 1 v' 0 []):zbW w0 (W.setCell ⟨G,1,none⟩ v') R G M al v' [] [] vA acc:=by
 have c:=h.hR;have a:=h.hG;have d:=eB W G 1 v';exact⟨by simpa using h.blk.ab 1 _,zf ho d (fun b hb hS=>zr ho h.blk dM hb hS),zC.nil _ _,zf h.acc d (fun b hb hS=>zr h.acc h.blk dM hb hS),h.rd.frm d (fun k hk e=>oM),h.dr.ag (p:=⟨G,1,none⟩) a _,c,a⟩
theorem zbW.setMarks (h:zbW w0 W R G M al v rows ls vA acc) (ho:W.ownsRow w0.heap.size 4 1 v' 0 []):zbW w0 (W.setCell ⟨G,2,none⟩ v') R G M al v rows ls v' []:=by
 have d:=h.hR;have a:=h.hG;have c:=eB W G 2 v';refine⟨by simpa using h.blk.ab 2 _,zf h.nx c (fun b hb hS=>zr h.nx h.blk dM hb hS),h.rows.frm c (fun i r b hr hb hS=>?_),zf ho c (fun b hb hS=>zr ho h.blk dM hb hS),h.rd.frm c (fun k hk e=>oM),h.dr.ag (p:=⟨G,2,none⟩) a _,d,a⟩;obtain⟨f,_,ho⟩:=h.rows.row hr;exact zr ho h.blk dM hb hS
theorem zbW.growRow {i:Nat} {row:Value} {l:List Int} {x:Int} {gN cN nN:Nat}(h:zbW w0 W R G M al (.slice (some gN) nN cN) rows ls vA acc)(hn:nN=ls.length)(hr:rows[i]?=some row)(hl:ls[i]?=some l)
  (zkf:W'.ownsRow w0.heap.size 3 1 (.slice (some g) (l.length+1) cap) (l.length+1) (ints l++[.int .i64 x])) (hg:W.grownBy W' row.ownBlock) (hat:row.ownBlock=some g∨g=W.heap.size+1) :
  (∀ u,W.cell? ⟨G,u,none⟩=W'.cell? ⟨G,u,none⟩)∧Hid (W'.cell? ⟨gN,i,none⟩=some row)∧W'.frozen? ⟨gN,i,none⟩=false ∧
  zbW w0 (W'.setCell ⟨gN,i,none⟩ (.slice (some g) (l.length+1) cap)) R G M al (.slice (some gN) nN cN) (rows.set i (.slice (some g) (l.length+1) cap)) (ls.set i (l++[x])) vA acc:=by
 subst hn;have y:=h.hR;have v:=h.hG;have E:i<ls.length:=(List.getElem?_eq_some_iff.1 hl).1;have s:=h.rows.2.1 i _ l hr hl;have n:Frm (fun k=>row.ownBlock=some k) W W':=fV hg;obtain⟨z,D⟩:=h.grown s hg;have t:Blk W' G 27 #[.int .i64 al,.slice (some gN) ls.length cN,vA]:=h.blk.frm n (fun e=>zr s h.blk dM e rfl);have a:W'.ownsRow w0.heap.size 110 1 (.slice (some gN) ls.length cN) ls.length rows:=zf h.nx n (fun b hb hS=>zas h.nx s dM hb hS);have zkg:W'.ownsRow w0.heap.size 4 1 vA acc.length (zak acc):=zf h.acc n (fun b hb hS=>zas h.acc s dM hb hS);have B:=(a.lt gN rfl).1;have q:=h.rows.1;have d:∀ (j:Nat) (r:Value) (b:Nat),j≠i->rows[j]?=some r->r.ownBlock=some b->b≠g:=fun j r b hji hj hb e=>by
  subst e;rcases hat with h1|h1
  ·exact h.rows.2.2 j i r row b hj hr hji hb h1
  ·have:=h.low j r b hj hb;omega
 have f:zC W' w0.heap.size (rows.set i (.slice (some g) (l.length+1) cap)) (ls.set i (l++[x])):=by
  refine⟨by simp [q],fun j r m hj hm=>?_,fun j j' r r' b hj hj' hne hb=>?_⟩
  ·by_cases hji:i=j
   ·subst hji;rw [fP oM] at hj;rw [fP E] at hm;obtain rfl:=Option.some.inj hj;obtain rfl:=Option.some.inj hm;simpa [ints] using zkf
   ·rw [gX hji] at hj hm;exact zf (h.rows.2.1 j r m hj hm) n (fun b hb hS=>h.rows.2.2 j i r row b hj hr (fun e=>hji e.symm) hb hS)
  ·by_cases hji:i=j
   ·subst hji;rw [fP oM] at hj;obtain rfl:=Option.some.inj hj;rw [gX hne] at hj';have o:g=b:=by simpa [Value.ownBlock] using hb
    subst o;exact fun hc=>d j' r' _ (fun e=>hne e.symm) hj' hc rfl
   ·rw [gX hji] at hj
    by_cases hji':i=j'
    ·subst hji';rw [fP oM] at hj';obtain rfl:=Option.some.inj hj';intro hc;have o:g=b:=by simpa [Value.ownBlock] using hc
     exact d j r b (fun e=>hji e.symm) hj hb o.symm
    ·rw [gX hji'] at hj';exact h.rows.2.2 j j' r r' b hj hj' hne hb
 have c:=eB W' gN i (.slice (some g) (l.length+1) cap);refine⟨fun u=>by rw [h.blk.cell,t.cell],za (by rw [a.cellAt i oM,hr]),a.frozenAt i,⟨t.frm c (fun e=>zr a t dM rfl e.symm),?_,?_,zf zkg c (fun b hb hS=>?_),D.frm c (fun k hk e=>oM),z.ag (p:=⟨gN,i,none⟩) B _,y,v⟩⟩
 ·rw [gU];exact (a.stored i _).1
 ·refine f.frm c (fun j r b hj hb hS=>?_);obtain⟨F,_,C⟩:=f.row hj;subst hS;exact zas C a dM hb rfl
 ·subst hS;exact zas zkg a dM hb rfl
end
def BdL (L:Nat) (ls:List (List Int)) (acc:List Bool):Prop:=ls.length<=L∧acc.length<=L∧∀ l∈ls,l.length<=L
theorem BdL.more {K:Nat}  (h:BdL L ls acc)(hK:L<=K):BdL K ls acc:=⟨eI h.1 hK,eI h.2.1 hK,fun l hl=>eI (h.2.2 l hl) hK⟩
def BdA (L:Nat) (b:Aut):Prop:=BdL L b.next b.acc
theorem BdA.of (h:zhq b):BdA 16 b:=by
 obtain⟨a,p,ha,hp1,f,h1,d,h3,c⟩:=h;exact⟨oM,oM,fun l hl=>by have:=c l hl;have:=zA a 6;omega⟩
theorem tot_le :∀ ls:List (List Int),(∀ l∈ls,l.length<=L)->tot ls<=ls.length*L
 |[],_=>by simp [tot]
 |l :: r,h=>by
  have:=tot_le r (fun x hx=>h x (by simp [hx]))
  have:=h l sM
  rw [tot_cons,gJ,Nat.add_mul]
  omega
theorem BdA.size (h:BdA L b)(hL:L<=200):b.size<=1048576:=by
 have h1:=tot_le b.next h.2.2;have a:b.next.length*L<=200*200:=Nat.mul_le_mul (eI h.1 hL) hL;have h3:=h.1;have c:=h.2.1;unfold Aut.size;omega
theorem eq_edge (a b c d e f:Int) (w:World):(Op.equalIn 10000 117 (.agg #[a,b,c]) (.agg #[d,e,f])).run Tryz.prog w=.ok (a==d&&(b==e&&c==f)) w:=by
 have j:=Tryz.underlying3;have i:=Tryz.isAgg3;have k:=Tryz.sizeOf3;have g:Tryz.prog.underlying 117=some (.struct (Tryz.prog.fieldsOf 117)):=kM;have h:Tryz.prog.stoodInHeld 117=false:=kM;rw [show (10000:Nat)=9999+1 from rfl,run_equalIn_agg w 9999 117 _ _ g h];simp only [Program.fieldsOf,Tryz.underlying117];go_simp
 by_cases h1:a=d<;>by_cases h2:b=e<;>by_cases h3:c=f<;>simp [h1,h2,h3]
theorem wrong_acc (hr:Rd w R M)(hx:Ext w w1)(hR:R<w.heap.size)(hxW:Ext w1 W) (zkf:W.ownsRow w1.heap.size 117 3 v es.length (zn es))(hG:w1.heap.size<=G)(hB:Blk W G 38 #[al,st,v]) :
  Acc w w1 W R G M al st v es:=
 ⟨hB,zkf,hr.ext (hx.trans hxW),(hx.trans hxW).dr,hxW.ak,hR,hx.size,eI hx.size hG⟩
theorem edge_lit (w:World):(w.alloc (.cells #[] 117)).drew.ownsRow w.heap.size 117 3 (.slice (some w.heap.size) 0 0) 0 []:=
 World.ownsRow_lit w #[] 0 (dI _) lM rfl
theorem zjw (hn:n=es.length)(h:W.ownsRow base 117 3 v n (zn es)):W.ownsRow base 117 3 v es.length (zn es):=by
 subst hn;exact h
theorem zgN (hr:Rd w R M)(hx:Ext w w1)(hR:R<w.heap.size)(hxW:Ext w1 W) (zkf:W.ownsRow w1.heap.size 117 3 v es.length (zn es))(hB:Blk W G 38 #[(0:Int),(0:Int),()])(hG:w1.heap.size<=G) :
  ∃ (G':Nat) (v':Value),Value.pointer (some G)=.pointer (some G')∧w1.heap.size<=G'∧Acc w w1 (((W.setCell G al).setCell ⟨G,1,none⟩ st).setCell ⟨G,2,none⟩ v) R G' M al st v' es:=by
 have h:=zdm W G (.int .i64 al) (.int .i64 st) v;have c:∀ b,v.ownBlock=some b->b≠G:=by
  rintro b a rfl;rcases zkf.2 with ⟨rfl,_⟩|⟨g,d,f,rfl,_,j,_⟩
  ·simp [Value.ownBlock] at a
  ·have i:g=b:=by simpa [Value.ownBlock] using a
   subst i;unfold Blk at hB;rw [j] at hB;injection hB with hB
   injection hB with _ ht
   exact absurd ht dM
 refine⟨G,v,rfl,hG,wrong_acc hr hx hR ?_ (zf zkf h (fun b a hS=>c b a hS)) hG (by simpa using ((hB.ab 0 (.int .i64 al)).ab 1 (.int .i64 st)).ab 2 v)⟩;exact ((hxW.setCell (p:=⟨G,0,none⟩) hG _).setCell (p:=⟨G,1,none⟩) hG _).setCell (p:=⟨G,2,none⟩) hG _
theorem zhc {wB:World}     (h:Acc w0 wB W R G M al st (.slice A n c) es)(hn:0<n):∃ g,A=some ⟨g,0,none⟩:=by
 rcases h.own.2 with ⟨a,f⟩|⟨g,b,d,a,_⟩
 ·injection a with _ h2 _;omega
 ·injection a with h1
  exact⟨g,h1⟩
theorem yY16a5 {P:Prop}(h:P:=by
 have h1':=h1.out;refine zab fun K hK=>?_;go_simp;refine hK.out _ _ ?_;refine zaD ?_;go_wp2_with fail
 go_meet;exact⟨_,_,_,_,h3.more oM,by have:=HnL.out;simp;omega⟩
 ):P:=h
theorem yY16a7 {P:Prop}(h:P:=by
 refine zab fun K hK=>?_;go_simp;refine hK.out _ _ ?_;refine zaD ?_;go_wp2_with fail
 go_meet;exact⟨_,_,_,_,hst.more oM,by have:=HnL.out;simp;omega⟩
 ):P:=h
theorem zeO (h:Rd w R M)(hM:M<=900000000)(hs:zcy w R A n s)(hn:n<=L)(hL:L<=100000) :
  Calls Tryz.prog 117 #[.pointer (some R),.agg #[s.al,s.st,.slice A n c]] w (RetA R (M+10) (L+1) w):=by
 have hRl:=h.lt;have O:=hs.at_.2;have E:=za hs.1;obtain⟨al,st,a⟩:=s;simp only at O E ⊢;obtain⟨w1,U0⟩:∃ x,Hid ((w.alloc (.cells #[al,st,.slice A n c] 38)).alloc (.cells #[(0:Int),(0:Int),()] 38)=x):=⟨_,za rfl⟩;have ao:Ext w w1:=(((dE _).alloc _).alloc _).trans (gO U0.out);obtain⟨bS,bZ⟩:=zJ (gO U0.out);have an:w1.heap.size=w.heap.size+2:=by rw [← U0.out];simp
 have au:=za bS;have ad:=za bZ;have B:=za ao;have av:=za an;clear bS bZ ao an hs
 go_enter Tryz.func117,Tryz.ntmps117
 go_wp2_with fail
 rw [U0.out] at *;have aY:w.heap.size+2<=w1.heap.size:=by rw [av.out];exact dI _
 go_upto_region 1 with fail
 go_cut [5] (fun s5 wx=>∃ (G:Nat) (v:Value),s5=.pointer (some G)∧w1.heap.size<=G∧Acc w w1 wx R G M al st v a)
 case first =>
  have cS:=fun W (hW:Ext w1 W)=>(au.out.ext hW).cell;refine tR (fun X=>Ext w1 X) [10] (Ord.app [0,1,2,3,5,6] (Ord.two 4 (Ord.two 7 (Ord.of [8,9,10]) 9 (Ord.of [7,8,10])) 9 (Ord.of [4,7,8,10]))) ?_;refine tQ ?_;refine zgf (fun K hK=>?_) (fun K hK=>?_)
  ·go_simp;have i:Ext w1 (w1.alloc (.cells #[] 117)).drew:=((dE w1).alloc _).drew;have zkf:(w1.alloc (.cells #[] 117)).drew.ownsRow w1.heap.size 117 3 (.slice (some w1.heap.size) 0 0) 0 []:=edge_lit w1;have U:(w1.alloc (.cells #[] 117)).drew.heap.size=w1.heap.size+1:=sM;refine hK.out _ _ i ?_;refine pT ?_;generalize (w1.alloc (.cells #[] 117)).drew=V at *;refine zgf (fun K hK=>?_) (fun K hK=>?_)
   ·refine zx _ _ _ _ rfl w1.heap.size 117 _ 3 24 Tryz.underlying36 zaV rfl dM (.slice (some w1.heap.size) 0 0) 0 [] rfl zkf (R+1) w.heap.size A n c (zn a) rfl (O.ext (B.out.trans i)) (zcQ a) lM oM i.size ?_;intro v Y zkq hg3 hat3;rw [eO,e9] at zkq;obtain⟨A3,c3,rfl⟩:=zi zkq;have d:Ext w1 Y:=i.grown hg3 (fun k C=>by simp [Value.ownBlock] at C;omega);refine hK.out _ _ d ?_;refine pT ?_;refine tQ ?_;refine zI fun K hK=>?_;go_simp;refine hK.out _ _ (d.alloc _) ?_;refine pT ?_;refine tQ ?_;refine zab fun K hK=>?_;go_simp;refine hK.out _ _ ?_;refine zaD ?_;go_wp2_with fail
    go_meet;exact⟨Y.heap.size,.slice A3 n c3,rfl,d.size,wrong_acc h B.out hRl (d.alloc _) (zh (zjw E.out zkq) ((dE _).alloc _)) d.size (eX _ _ _)⟩
   ·go_simp;have d:=i.alloc (.cells #[(0:Int),(0:Int),()] 38);have ap:=(dE V).alloc (.cells #[(0:Int),(0:Int),()] 38);replace zkf:=zh zkf ap;refine hK.out _ _ d ?_;generalize U0:V.alloc _=a0 at *;have I:=eS U0;clear U0;rw [U] at I;have i:=d;refine pT ?_;refine zI (fun K hK=>?_);refine zx _ _ _ _ rfl w1.heap.size 117 _ 3 24 Tryz.underlying36 zaV rfl dM (.slice (some w1.heap.size) 0 0) 0 [] rfl zkf (R+1) w.heap.size A n c (zn a) rfl (O.ext (B.out.trans i)) (zcQ a) lM oM i.size ?_;intro v Y zkq hg3 hat3;rw [eO,e9] at zkq;obtain⟨A3,c3,rfl⟩:=zi zkq;have d:Ext w1 Y:=i.grown hg3 (fun k C=>by simp [Value.ownBlock] at C;omega);have p:Blk Y (w1.heap.size+1) 38 #[.int .i64 0,.int .i64 0,.slice none 0 0]:=I.frm (fV hg3) (by simp [Value.ownBlock]);refine hK.out _ _ d ?_;refine pT ?_;refine tQ ?_;have cE:=p.cell;have fE:=p.frozen;refine zab fun K hK=>?_;go_simp;refine hK.out _ _ ?_;refine zaD ?_;go_wp2_with fail
    go_meet;exact zgN h B.out hRl d (zjw E.out zkq) p oM
  ·go_simp;have i:Ext w1 (w1.alloc (.cells #[(0:Int),(0:Int),()] 38)).drew:=((dE w1).alloc _).drew;have aw:Blk (w1.alloc (.cells #[(0:Int),(0:Int),()] 38)).drew w1.heap.size 38 #[.int .i64 0,.int .i64 0,.slice none 0 0]:=eX w1 _ _;have U:(w1.alloc (.cells #[(0:Int),(0:Int),()] 38)).drew.heap.size=w1.heap.size+1:=sM;refine hK.out _ _ i ?_;refine pT ?_;generalize (w1.alloc (.cells #[(0:Int),(0:Int),()] 38)).drew=V at *;refine zI fun K hK=>?_;go_simp;have d:=i.alloc (.cells #[] 117);have zkf:(V.alloc (.cells #[] 117)).ownsRow w1.heap.size 117 3 (.slice (some ⟨w1.heap.size+1,0,none⟩) 0 0) 0 []:=by
    rw [← U];exact World.ownsRow_lit V #[] 0 i.size lM rfl
   have I:=aw.ext ((dE V).alloc (.cells #[] 117));refine hK.out _ _ d ?_;generalize V.alloc _=Y at *;refine pT ?_;refine zI (fun K hK=>?_);refine zx _ _ _ _ rfl w1.heap.size 117 _ 3 24 Tryz.underlying36 zaV rfl dM (.slice (some ⟨w1.heap.size+1,0,none⟩) 0 0) 0 [] rfl zkf (R+1) w.heap.size A n c (zn a) rfl (O.ext (B.out.trans d)) (zcQ a) lM oM d.size ?_;intro v w4 hown4 hg4 hat4;rw [eO,e9] at hown4;obtain⟨A4,c4,rfl⟩:=zi hown4;have aq:Ext w1 w4:=d.grown hg4 (fun k C=>by simp [Value.ownBlock] at C;omega);have p:Blk w4 w1.heap.size 38 #[.int .i64 0,.int .i64 0,.slice none 0 0]:=I.frm (fV hg4) (by simp [Value.ownBlock]);refine hK.out _ _ aq ?_;refine pT ?_;refine tQ ?_;have cE:=p.cell;have fE:=p.frozen;refine zab fun K hK=>?_;go_simp;refine hK.out _ _ ?_;refine zaD ?_;go_wp2_with fail
   go_meet;exact zgN h B.out hRl aq (zjw E.out hown4) p (dI _)
 case rest =>
  obtain⟨G,v,rfl,aW,zkg⟩:=hcut;obtain⟨A1,n1,c1,rfl⟩:=zkg.form;obtain⟨rfl,am⟩:=zkg.reads;have aX:=zkg.hG;have cG:=zkg.blk.cell;have aj:=am.2.len;clear am;have az:a.length<=L:=oH E.out;have HnL:=za az;go_wp2_with fail
  refine (zH (n:=a.length) zkg.rd oM).mono ?_;rintro e Y ⟨k,rfl,ah,ay,ak,ag⟩;replace zkg:=zkg.drawn ag ak;clear ag ak cG;have Hk:=za ah;clear ah ay;go_wp2_with fail
  refine (zH (n:=30) zkg.rd oM).mono ?_;rintro e w4 ⟨y,rfl,-,-,hr4,hd4⟩;replace zkg:=zkg.drawn hd4 hr4;clear hd4 hr4;go_upto_block 0 with fail
  go_cut [] (fun wx=>∃ (al st:Int) (v:Value) (S:List Edg),Acc w w1 wx R G (M+10) al st v S∧S.length<=L+1)
  case first =>
   have aQ:=za aj;clear aj;have J:y=0∨y=1∨y=2∨y=3∨y=4∨y=5∨y=6∨7<=y:=oM;rcases J with t|t|t|t|t|t|t|t
   ·subst t;have aB:True:=trivial;go_wp2_with fail
    refine (zbN [64,(-1),1,63] 4 #[(64:Int),.int .i64 (-1),(1:Int),(63:Int)] rfl rfl oM oM zkg.rd oM).mono ?_;rintro e F ⟨x,-,rfl,m,f⟩;replace zkg:=(zkg.ext ((dE _).alloc _)).drawn f m;have cG:=zkg.blk.cell;have fG:=zkg.blk.frozen;go_wp2_with fail
    go_meet;exact⟨_,_,_,a,(zkg.setAl x).more oM,oH HnL.out⟩
   ·subst t;have aB:True:=trivial;go_wp2_with fail
    refine (zbN [0,17,(-1),16,1] 5 #[(0:Int),(17:Int),.int .i64 (-1),(16:Int),(1:Int)] rfl rfl oM oM zkg.rd oM).mono ?_;rintro e F ⟨x,-,rfl,m,f⟩;replace zkg:=(zkg.ext ((dE _).alloc _)).drawn f m;have cG:=zkg.blk.cell;have fG:=zkg.blk.frozen;go_wp2_with fail
    go_meet;exact⟨_,_,_,a,(zkg.setSt x).more oM,oH HnL.out⟩
   ·subst t
    by_cases hn0:0<a.length
    ·have C:=Hk.out oM;have r:k<a.length:=oM;obtain⟨g,rfl⟩:=zhc zkg hn0;have l:a.length≠0:=oM;have T:R<w1.heap.size:=by have:=zkg.hR;have:=zkg.hB;omega
     have cG:∀ W,Dr R w4 W->∀ q,W.cell? ⟨G,q,none⟩=#[Value.int .i64 al,.int .i64 st,.slice (some g) a.length c1][q]?:=fun W hW=>(zkg.blk.dr hW (oH zkg.hG)).cell;clear C l;go_wp2_with fail
     refine tR (fun X=>Dr R w4 X) [8] (Ord.of [0,1,2,3,4,5,6,7,8]) ?_;refine tQ ?_;refine zI fun K hK=>?_;go_simp;refine hK.out _ _ ((Dr.refl R w4).drew.alloc _) ?_;refine pT ?_;refine tQ ?_;refine zI fun K hK=>?_;go_simp;refine (zbN (w:=w4.drew) [(-1),16,0,2] 4 #[.int .i64 (-1),(16:Int),(0:Int),(2:Int)] rfl rfl oM oM (zkg.rd.ext (dE _).drew) oM).mono ?_;rintro e F ⟨x,-,rfl,m,f⟩;have j:Dr R w4 F:=((Dr.refl R w4).drew.alloc _).trans f;have b:=zkg.drawn j m;refine hK.out _ _ j ?_;refine pT ?_;refine tQ ?_;have zkf:=b.own;obtain⟨o0,c0⟩:=zbd zkf (k*3) oM;have f0:=zkf.frozenAt (k*3);have hst:=b.turn rfl (zec (dH r) x).1 sM;exact yY16a7
    ·have hn1:a.length=0:=oM;clear hn0;go_wp2_with fail
     go_meet;exact⟨_,_,_,a,zkg.more oM,oH HnL.out⟩
   ·subst t
    by_cases hn0:0<a.length
    ·have C:=Hk.out oM;have r:k<a.length:=oM;obtain⟨g,rfl⟩:=zhc zkg hn0;have l:a.length≠0:=oM;have T:R<w1.heap.size:=by have:=zkg.hR;have:=zkg.hB;omega
     have cG:∀ W,Dr R w4 W->∀ q,W.cell? ⟨G,q,none⟩=#[Value.int .i64 al,.int .i64 st,.slice (some g) a.length c1][q]?:=fun W hW=>(zkg.blk.dr hW (oH zkg.hG)).cell;clear C l;go_wp2_with fail
     refine tR (fun X=>Dr R w4 X) [8] (Ord.of [0,1,2,3,4,5,6,7,8]) ?_;refine tQ ?_;refine zI fun K hK=>?_;go_simp;refine hK.out _ _ ((Dr.refl R w4).drew.alloc _) ?_;refine pT ?_;refine tQ ?_;refine zI fun K hK=>?_;go_simp;refine (zbN (w:=w4.drew) [(-1),16,0,3] 4 #[.int .i64 (-1),(16:Int),(0:Int),(3:Int)] rfl rfl oM oM (zkg.rd.ext (dE _).drew) oM).mono ?_;rintro e F ⟨x,-,rfl,m,f⟩;have j:Dr R w4 F:=((Dr.refl R w4).drew.alloc _).trans f;have b:=zkg.drawn j m;refine hK.out _ _ j ?_;refine pT ?_;refine tQ ?_;have zkf:=b.own;obtain⟨o0,c0⟩:=zbd zkf (k*3+2) oM;have f0:=zkf.frozenAt (k*3+2);have hst:=b.turn rfl (zec (dH r) x).2.2 sM;exact yY16a7
    ·have hn1:a.length=0:=oM;clear hn0;go_wp2_with fail
     go_meet;exact⟨_,_,_,a,zkg.more oM,oH HnL.out⟩
   ·subst t
    by_cases hn0:0<a.length
    ·have C:=Hk.out oM;have r:k<a.length:=oM;obtain⟨g,rfl⟩:=zhc zkg hn0;have l:a.length≠0:=oM;have T:R<w1.heap.size:=by have:=zkg.hR;have:=zkg.hB;omega
     have cG:∀ W,Dr R w4 W->∀ q,W.cell? ⟨G,q,none⟩=#[Value.int .i64 al,.int .i64 st,.slice (some g) a.length c1][q]?:=fun W hW=>(zkg.blk.dr hW (oH zkg.hG)).cell;clear C l;go_wp2_with fail
     refine tR (fun X=>Dr R w4 X) [8] (Ord.of [0,1,2,3,4,5,6,7,8]) ?_;refine tQ ?_;refine zI fun K hK=>?_;go_simp;refine hK.out _ _ ((Dr.refl R w4).drew.alloc _) ?_;refine pT ?_;refine tQ ?_;refine zI fun K hK=>?_;go_simp;refine (zbN (w:=w4.drew) [(-1),6,70,5,0] 5 #[.int .i64 (-1),(6:Int),(70:Int),(5:Int),(0:Int)] rfl rfl oM oM (zkg.rd.ext (dE _).drew) oM).mono ?_;rintro e F ⟨x,-,rfl,m,f⟩;have j:Dr R w4 F:=((Dr.refl R w4).drew.alloc _).trans f;have b:=zkg.drawn j m;refine hK.out _ _ j ?_;refine pT ?_;refine tQ ?_;have zkf:=b.own;obtain⟨o0,c0⟩:=zbd zkf (k*3+1) oM;have f0:=zkf.frozenAt (k*3+1);have hst:=b.turn rfl (zec (dH r) x).2.1 sM;exact yY16a7
    ·have hn1:a.length=0:=oM;clear hn0;go_wp2_with fail
     go_meet;exact⟨_,_,_,a,zkg.more oM,oH HnL.out⟩
   ·subst t
    by_cases hn0:0<a.length
    ·have C:=Hk.out oM;have r:k<a.length:=oM;obtain⟨g,rfl⟩:=zhc zkg hn0;have l:a.length≠0:=oM;have zkf:=zkg.own;have hE:=za (dH r);obtain⟨ed,ax⟩:∃ ed,Hid (a[k]?=some ed):=⟨_,hE.out⟩;obtain⟨d0,d1,d2⟩:=zcc ax.out;have cG:=fun W (hW:Ext w4 W)=>(zkg.blk.ext hW).cell;have C0:∀ W,Ext w4 W->W.cell? ⟨g,k*3,none⟩=some (.int .i64 ed.fr):=fun W hW=>hW.aa (by rw [zkf.cellAt _ oM];exact d0);have C1:∀ W,Ext w4 W->W.cell? ⟨g,k*3+1,none⟩=some (.int .i64 ed.le):=fun W hW=>hW.aa (by rw [zkf.cellAt _ oM];exact d1);have C2:∀ W,Ext w4 W->W.cell? ⟨g,k*3+2,none⟩=some (.int .i64 ed.ta):=fun W hW=>hW.aa (by rw [zkf.cellAt _ oM];exact d2);clear C l d0 d1 d2;go_wp2_with fail
     refine tR (fun X=>Ext w4 X) [8,10] (Ord.of [0,1,2,3,4,5,6,7,8,9,10]) ?_;refine tQ ?_;refine zI fun K hK=>?_;go_simp;refine hK.out _ _ ((dE _).drew.alloc _) ?_;refine pT ?_;refine zab fun K hK=>?_;refine zaH w1 w4.drew _ _ _ rfl 117 _ 3 24 Tryz.underlying36 zaV rfl dM (.slice (some g) a.length c1) a.length (zn a) _ _ rfl rfl zkg.fr.size zkf rfl (by simp [Value.oneCell']) lM oM ?_;intro g5 cap5 F zkr hg5 hat5 hlt5;refine hK.out _ _ ?_;refine pT ?_;refine tQ ?_;obtain⟨h1,h2,h3⟩:=(zkg.ext ((dE _).drew)).push (e:=ed) (W':=F) zkr hg5 hat5;exact yY16a5
    ·have hn1:a.length=0:=oM;clear hn0;go_wp2_with fail
     go_meet;exact⟨_,_,_,a,zkg.more oM,oH HnL.out⟩
   ·subst t;have T:R<w1.heap.size:=by have:=zkg.hR;have:=zkg.hB;omega
    have cG:∀ W,Dr R w4 W->∀ q,W.cell? ⟨G,q,none⟩=#[Value.int .i64 al,.int .i64 st,.slice A1 a.length c1][q]?:=fun W hW=>(zkg.blk.dr hW (oH zkg.hG)).cell;go_wp2_with fail
    refine tR (fun X=>Dr R w4 X) [10,12] (Ord.of [0,1,2,4,6,3,5,7,8,9,10,11,12]) ?_;refine tQ ?_;refine zI fun K hK=>?_;go_simp;refine (zH (n:=4) (zkg.rd.ext (dE _).drew) oM).mono ?_;rintro e F ⟨x,rfl,-,-,m,f⟩;replace f:=((Dr.refl R w4).drew).trans f;refine hK.out _ _ f ?_;refine pT ?_;refine tQ ?_;refine zI fun K hK=>?_;go_simp;refine (zH (n:=3) m oM).mono ?_;rintro e w6 ⟨z,rfl,-,-,hr6,hd6⟩;replace hd6:=f.trans hd6;refine hK.out _ _ hd6 ?_;refine pT ?_;refine tQ ?_;refine zI fun K hK=>?_;go_simp;refine (zH (n:=4) hr6 oM).mono ?_;rintro e w7 ⟨u,rfl,-,-,aA,D⟩;replace D:=hd6.trans D;refine hK.out _ _ D ?_;have o:=zkg.drawn D aA;refine pT ?_;refine tQ ?_;refine zI fun K hK=>?_;go_simp;refine hK.out _ _ (D.alloc _) ?_;refine pT ?_;refine zab fun K hK=>?_;refine zaH w1 w7 _ _ _ rfl 117 _ 3 24 Tryz.underlying36 zaV rfl dM (.slice A1 a.length c1) a.length (zn a) _ _ rfl rfl o.fr.size o.own rfl (by simp [Value.oneCell']) (by unfold maxLen;have:=HnL.out;omega) (oH HnL.out) ?_;intro g8 cap8 w8 hown8 hg8 hat8 hlt8;refine hK.out _ _ ?_;refine pT ?_;refine tQ ?_;obtain⟨h1,h2,h3⟩:=o.push (e:=⟨x,z,u⟩) (W':=w8) hown8 hg8 hat8;exact yY16a5
   ·have h0:((y:Int)==0)=false:=by simp;omega
    have h1:((y:Int)==1)=false:=by simp;omega
    have h2:((y:Int)==2)=false:=by simp;omega
    have h3:((y:Int)==3)=false:=by simp;omega
    have h4:((y:Int)==4)=false:=by simp;omega
    have h5:((y:Int)==5)=false:=by simp;omega
    have h6:((y:Int)==6)=false:=by simp;omega
    clear t;go_wp2_with fail
    go_meet;exact⟨_,_,_,a,zkg.more oM,oH HnL.out⟩
  case rest =>
   clear zkg;obtain⟨H,Q,v',S,zkg,ai⟩:=hcut;obtain⟨A',n',c',rfl⟩:=zkg.form;obtain⟨rfl,_⟩:=zkg.reads;have cG:=zkg.blk.cell;have af:=ad.out.frm zkg.fr oM;have cz:=af.cell;have aZ:=ad.out.lt;have fz:=af.frozen;obtain⟨f1,f2,f3⟩:=zkg.fin (Z:=w.heap.size+1) oM oM (.int .i64 H) (.int .i64 Q) (.slice A' S.length c');have ae:=za (show RetA R (M+10) (L+1) w (.returned (.agg #[H,Q,.slice A' S.length c'])) _ from ⟨⟨H,Q,S⟩,A',S.length,c',rfl,f1,⟨ai,zjJ zkg.own⟩,f2,f3⟩);clear f1 f2 f3;go_wp2_with fail
   exact bodyPost_ret (v:=.agg #[H,Q,.slice A' S.length c']) (by simp [results,Tryz.results117,go_sem,cz]) rfl ae.out
def lenAt (W:World) (G:Nat):Nat:=match W.cell? ⟨G,1,none⟩ with|some (.slice _ n _)=>n|_=>0
theorem zbW.lenAt {vA:Value} {rows:List Value}  (h:zbW w0 W R G M al (.slice A n c) rows ls vA acc):Go.Proofs.YtckbjnndaaoddaaGreatDoor.lenAt W G=n:=by
 unfold Go.Proofs.YtckbjnndaaoddaaGreatDoor.lenAt;rw [h.blk.cell 1];rfl
theorem yY16a8 {P:Prop}(h:P:=by
 have hn1:m=0:=oM;clear hn0;have cG:=zkg.blk.cell;go_wp2_with fail
 go_meet;exact⟨_,_,_,_,_,_,zkg.more oM,za (Hb.out.more oM)⟩
 ):P:=h
theorem zeP (h:Rd w R M)(hM:M<=900000000)(ho:zN w (R+1) A n c A' n' c' b)(hb:BdA L b)(hL:L<=100) :
  Calls Tryz.prog 77 #[.pointer (some R),.agg #[b.al,.slice A n c,.slice A' n' c']] w (ziq R (M+10) (BdA (L+13)) w):=by
 have hRl:=h.lt;have aC:=hb.size oM
 go_enter Tryz.func77,Tryz.ntmps77
 have u:=(dE w).alloc (.cells #[b.al,.slice A n c,.slice A' n' c'] 27);have b0:=eX w 27 #[b.al,.slice A n c,.slice A' n' c'];have aZ:(w.alloc (.cells #[b.al,.slice A n c,.slice A' n' c'] 27)).heap.size=w.heap.size+1:=sM;have U:=u.alloc (.cells #[(0:Int),(),()] 27);have bz:=eX (w.alloc (.cells #[b.al,.slice A n c,.slice A' n' c'] 27)) 27 #[(0:Int),(),()];replace b0:=b0.ext ((dE _).alloc (.cells #[(0:Int),(),()] 27));rw [aZ] at bz;have c0:=b0.cell;go_upto_region 1 with fail
 generalize (w.alloc _).alloc _=w1 at *;have a3:=bz.lt;go_wp2_with fail
 refine (zfA (ho.ext U).reads aC).mono ?_;rintro e w2 ⟨B,m,d,B',m',d',rfl,zkf,am⟩;obtain⟨a,zkg⟩:=zbW.of (R:=R) (M:=M) zkf (h.ext (U.trans am)) am.dr oM;have hG:=am.size;have hm:m=b.next.length:=zkf.2.1;have bD:m<=100:=oH hb.1;have Z:=za hm;have Hb:=za hb;clear zkf ho hm hb aC;go_upto_region 2 with fail
 generalize w2.alloc _=w3 at *;generalize w2.heap.size=G at *;have cG:=zkg.blk.cell;go_wp2_with fail
 refine (zH zkg.rd oM).mono ?_;rintro e w4 ⟨k,rfl,av,-,hr4,hd4⟩;replace zkg:=zkg.drawn hd4 hr4;have Hk:=za av;clear hd4 hr4 cG av;go_wp2_with fail
 refine (zH zkg.rd oM).mono ?_;rintro e D ⟨y,rfl,-,-,aB,aq⟩;replace zkg:=zkg.drawn aq aB;clear aq aB;go_upto_block 0 with fail
 go_cut [] (fun wx=>∃ (al:Int) (v:Value) (a:List Value) (C:List (List Int)) (vA:Value) (o:List Bool),zbW w1 wx R G (M+10) al v a C vA o∧Hid (BdL (L+13) C o))
 case first =>
  have ab:y=0∨y=1∨y=2∨y=3∨y=4∨y=5∨6<=y:=oM;rcases ab with I|I|I|I|I|I|I
  ·subst I;have V:True:=trivial;go_wp2_with fail
   refine (zbN [64,(-1),1,63,0] 5 #[(64:Int),.int .i64 (-1),(1:Int),(63:Int),(0:Int)] rfl rfl oM oM zkg.rd oM).mono ?_;rintro e E ⟨x,-,rfl,hr6,hd6⟩;replace zkg:=(zkg.ext ((dE _).alloc _)).drawn hd6 hr6;have cG:=zkg.blk.cell;have fG:=zkg.blk.frozen;go_wp2_with fail
   go_meet;exact⟨_,_,_,_,_,_,(zkg.setAl x).more oM,za (Hb.out.more oM)⟩
  ·subst I;have V:True:=trivial;have cG:=zkg.blk.cell;have H:=zkg.dr.size;have ah:b.acc.length<=100:=oH Hb.out.2.1;go_wp2_with (at_builtin;refine zW w1 D rfl _ _ _ rfl 4 _ 1 1 Tryz.underlying25 zbh rfl dM (.slice B' m' d') b.acc.length (zak b.acc) _ _ rfl rfl H zkg.acc rfl (by simp [Value.oneCell']) lM oM ?_;intro g6 cap6 E hown6 hg6 hat6 hlt6;obtain⟨q1,q2,q3⟩:=zkg.ar (x:=true) hown6 hg6 hat6;have a5:=q1.out)
   go_meet;exact⟨_,_,_,_,_,_,q3.more oM,za ⟨oH Hb.out.1,by have:=Hb.out.2.1;simp;omega,fun l z=>by have:=Hb.out.2.2 l z;omega⟩⟩
  ·subst I;have V:True:=trivial
   by_cases hn0:0<m
   ·have hk:=Hk.out oM;have Q:k<b.next.length:=oH Z.out;obtain⟨l,z⟩:∃ l,b.next[k]?=some l:=⟨_,dH Q⟩;obtain⟨gN,rfl,ar,-⟩:=zad (show D.ownsRow w1.heap.size 110 1 (.slice B m d) m a from by have:=zkg.nx;rw [← Z.out] at this;exact this) hn0;obtain⟨Y,J,hr,f,t⟩:=zkg.row z Z.out;have aj:l.length<=100:=by have:=Hb.out.2.2 l (dG z);omega
    have HL:=za z;have HR:=za hr;have H:=zkg.dr.size;have cG:∀ W,Frm (fun b=>(Value.slice Y l.length J).ownBlock=some b) D W->∀ q,W.cell? ⟨G,q,none⟩=#[Value.int .i64 b.al,.slice (some gN) m d,.slice B' m' d'][q]?:=fun W hW=>(zkg.blk.frm hW (fun e=>zr t zkg.blk dM e rfl)).cell;have cN:∀ W,Frm (fun b=>(Value.slice Y l.length J).ownBlock=some b) D W->W.cell? ⟨gN,k,none⟩=some (.slice Y l.length J):=fun W hW=>by
     have hx:W.ownsRow w1.heap.size 110 1 (.slice (some gN) m d) b.next.length a:=zf zkg.nx hW (fun b hb hS=>zas zkg.nx t dM hb hS);rw [← Z.out] at hx;rw [hx.cellAt k oM,HR.out]
    have bn:Frm (fun b=>(Value.slice Y l.length J).ownBlock=some b) D D.drew:=(dE D).drew.ak;clear z hr f Q;go_wp2_with fail
    refine tR (fun X=>Frm (fun b=>(Value.slice Y l.length J).ownBlock=some b) D X) [11] (Ord.of [0,1,2,3,4,5,6,7,8,9,10,11]) ?_;refine tQ ?_;refine zI fun K hK=>?_;go_simp;have ad:=(dE D).drew;refine hK.out _ _ (ad.alloc _).ak ?_;refine pT ?_;refine zI (fun K hK=>?_);refine zaH w1 D.drew _ _ _ rfl 3 _ 1 8 Tryz.underlying110 zae rfl dM (.slice Y l.length J) l.length (ints l) _ _ rfl rfl H (zh t ad) rfl (by simp [Value.oneCell']) lM oM ?_;intro g6 cap6 E hown6 hg6 hat6 hlt6;obtain⟨q1,q2,q3,q4⟩:=(zkg.ext ad).growRow (x:=0) Z.out HR.out HL.out hown6 hg6 hat6;have bG:=q2.out;refine hK.out _ _ (ad.ak.trans (fV hg6)) ?_;refine pT ?_;refine tQ ?_;refine zab fun K hK=>?_;go_simp;refine hK.out _ _ ?_;refine zaD ?_;go_wp2_with fail
    go_meet;refine⟨_,_,_,_,_,_,q4.more oM,za ⟨by have:=Hb.out.1;rw [gU];omega,oH Hb.out.2.1,fun l' hl'=>?_⟩⟩;rcases gL hl' with h1|h1
    ·have:=Hb.out.2.2 l' h1;omega
    ·have:=Hb.out.2.2 l (dG HL.out);rw [h1];simp;omega
   ·exact yY16a8
  ·subst I;have V:True:=trivial
   by_cases hn0:0<m
   ·have hk:=Hk.out oM;have Q:k<b.next.length:=oH Z.out;obtain⟨l,z⟩:∃ l,b.next[k]?=some l:=⟨_,dH Q⟩;obtain⟨gN,rfl,ar,-⟩:=zad (show D.ownsRow w1.heap.size 110 1 (.slice B m d) m a from by have:=zkg.nx;rw [← Z.out] at this;exact this) hn0;obtain⟨Y,J,hr,f,t⟩:=zkg.row z Z.out;have aj:l.length<=100:=by have:=Hb.out.2.2 l (dG z);omega
    have HL:=za z;have HR:=za hr;have aL:=za (Hb.out.2.2 l (dG z));clear z hr Q;have cG:=zkg.blk.cell
    by_cases hl0:0<l.length
    ·obtain⟨gr,rfl,-,-⟩:=zad t hl0;go_wp2_with fail
     refine (zH (n:=l.length) zkg.rd oM).mono ?_;rintro e E ⟨j,rfl,au,-,hr6,hd6⟩;have bx:=au oM;replace zkg:=zkg.drawn hd6 hr6;have bu:=zkg.hR;have cN:∀ W,Dr R E W->W.cell? ⟨gN,k,none⟩=some (.slice (some gr) l.length J):=fun W hW=>(hd6.trans hW).aa f (by simp;omega);have bE:IntKind.i64.wrap ((m:Int) - 1)=(m:Int) - 1:=by rw [IntKind.wrap_i64];omega
     clear cG au hr6 hd6 f t;have cG:∀ W,Dr R E W->∀ q,W.cell? ⟨G,q,none⟩=#[Value.int .i64 b.al,.slice (some gN) m d,.slice B' m' d'][q]?:=fun W hW=>(zkg.blk.dr hW (oH zkg.hG)).cell;go_wp2_with fail
     refine tR (fun X=>Dr R E X) [13] (Ord.of [0,1,2,3,4,5,6,7,8,9,10,11,12,13]) ?_;refine tQ ?_;refine zI fun K hK=>?_;go_simp;refine hK.out _ _ ((Dr.refl R E).drew.alloc _) ?_;refine pT ?_;refine zI fun K hK=>?_;go_simp;refine (zbN (w:=E.drew) [(-1),m,(m:Int) - 1,0] 4 #[.int .i64 (-1),m,.int .i64 ((m:Int) - 1),(0:Int)] rfl rfl oM oM (zkg.rd.ext (dE _).drew) oM).mono ?_;rintro e w7 ⟨x,-,rfl,aY,aU⟩;have ae:Dr R E w7:=((Dr.refl R E).drew.alloc _).trans aU;have O:=zkg.drawn ae aY;refine hK.out _ _ ae ?_;refine pT ?_;refine tQ ?_;have zkf:=O.rows.2.1 k _ l HR.out HL.out;obtain⟨o0,c0⟩:=zbd zkf j oM;have f0:=zkf.frozenAt j;have hst:=O.setRow (k:=j) (x:=x) HR.out HL.out rfl;refine zab fun K hK=>?_;go_simp;refine hK.out _ _ ?_;refine zaD ?_;go_wp2_with fail
     go_meet;refine⟨_,_,_,_,_,_,hst.more oM,za ⟨by have:=Hb.out.1;rw [gU];omega,oH Hb.out.2.1,fun l' hl'=>?_⟩⟩;rcases gL hl' with h1|h1
     ·have:=Hb.out.2.2 l' h1;omega
     ·rw [h1];simp;have:=aL.out;omega
    ·have bA:l.length=0:=oM;have bB:¬ ((l.length:Int)>0):=oM;go_wp2_with fail
     go_meet;exact⟨_,_,_,_,_,_,zkg.more oM,za (Hb.out.more oM)⟩
   ·exact yY16a8
  ·subst I;have V:True:=trivial;have H:=zkg.dr.size;have p:=zkg.ext ((dE D).alloc (.cells #[] 110));have hn1:=World.ownsRow_lit (base:=w1.heap.size) (e:=110) (size:=1) D #[] 0 H lM rfl;have cG:=p.blk.cell;have fG:=p.blk.frozen;go_upto_region 18 with fail
   replace p:=p.setNext hn1;clear zkg cG fG hn1;generalize (D.alloc (.cells #[] 110)).setCell ⟨G,1,none⟩ (.slice (some D.heap.size) 0 0)=E at *;have a0:=p.dr.size;have F:=p.ext ((dE E).alloc (.cells #[] 4));have aX:=World.ownsRow_lit (base:=w1.heap.size) (e:=4) (size:=1) E #[] 0 a0 lM rfl;have cG:=F.blk.cell;have fG:=F.blk.frozen;go_wp2_with fail
   go_meet;exact⟨_,_,_,_,_,_,(F.setMarks aX).more oM,za ⟨sM,sM,fun l z=>by simp at z⟩⟩
  ·subst I;have V:True:=trivial
   by_cases hn0:0<m
   ·have a9:((m:Int)>0):=oM;have aA:m=b.next.length:=Z.out;have bC:m<=L:=oH Hb.out.1;have hst:∃ (i:Nat) (v:Value) (a:List Value) (C:List (List Int)) (vA:Value) (o:List Bool),i<=13∧zbW w1 D R G (M+2) b.al v a C vA o∧Hid (C.length=m+i)∧Hid (i=0∨m+i<=13)∧Hid (o.length<=L+i)∧Hid (∀ l∈C,l.length<=L):=
     ⟨0,_,_,_,_,_,oM,zkg,za aA.symm,za (.inl rfl),za Hb.out.2.1,za Hb.out.2.2⟩
    clear aA zkg;go_wp2_with fail
    go_loopw [] (fun wr=>∃ (i:Nat) (v:Value) (a:List Value) (C:List (List Int)) (vA:Value) (o:List Bool),i<=13∧zbW w1 wr R G (M+2) b.al v a C vA o∧Hid (C.length=m+i)∧Hid (i=0∨m+i<=13)∧Hid (o.length<=L+i)∧Hid (∀ l∈C,l.length<=L)) (fun wr=>200 - lenAt wr G)
    case atStart=>exact hst
    case round =>
     clear hst;obtain⟨i,v,a,C,vA,o,hi,zkg,s,aV,ah,ai⟩:=hrel;obtain⟨gN,cN,rfl,ar⟩:∃ g c,v=.slice (some ⟨g,0,none⟩) (m+i) c∧w1.heap.size<=g:=by
      obtain⟨A9,c9,rfl⟩:=zi zkg.nx;obtain⟨g,rfl,hg,-⟩:=zad zkg.nx (oH s.out);exact⟨g,c9,by rw [s.out],hg⟩
     have az:=za zkg.lenAt
     by_cases hlt:m+i<=12
     ·have ax:((m+i:Nat):Int)<=12:=oM;have ap:0<C.length:=oH s.out;obtain⟨l,z⟩:∃ l,C[0]?=some l:=⟨_,dH ap⟩;obtain⟨Y,J,hr,f,t⟩:=zkg.row z s.out.symm;have aj:l.length<=L:=ai.out l (dG z);have aN:=za aj;have aw:=za zkg.low;have H:=zkg.dr.size;have af:=eW t;have aO:=za (fun W (hW:Ext wr W)=>af.ext hW);have cG:=fun W (hW:Ext wr W)=>(zkg.blk.ext hW).cell;have aR:∀ W,Ext wr W->W.cell? gN=some (.slice Y l.length J):=fun W hW=>hW.aa f;have a2:=dE wr;have bo:(0:Int)<((m+i:Nat):Int):=oM;have bp:0<(m:Int)+(i:Int):=oM;clear z hr f t af ap;go_upto_region 21 with fail
      refine uR (fun X=>Ext wr X) [9,11] (zw.of [0,1,3,4,5,6,2,7,8,9,10,11]) ?_;refine uQ ?_;have u:Ext wr wr.drew:=a2.drew;generalize wr.drew=wd at *;refine ze fun K hK=>?_;go_simp;have hm:=World.ownsRow_made (base:=wr.heap.size) (e:=3) (size:=1) wd #[] 0 u.size (eC _) rfl;have U:=(dE wd).alloc (.cells #[] 3);replace u:=u.trans U;refine hK.out _ _ u ?_;generalize wd.alloc _=wm at *;generalize wd.heap.size=MM at *;refine pT ?_;refine uQ ?_;refine ze (fun K hK=>?_);refine zx wm _ _ 110 rfl wr.heap.size 3 _ 1 8 Tryz.underlying110 zae rfl dM (.slice (some MM) 0 0) 0 [] rfl hm _ _ Y l.length J (ints l) rfl (aO.out _ u) (zjC _) lM oM u.size ?_;intro vR E hrow hgR hatR;rw [eO,e9] at hrow;obtain⟨BR,dR,rfl⟩:=zi hrow;have T:Ext wr E:=u.grown hgR (fun k hk=>(hm.lt k hk).1);refine hK.out _ _ T ?_;refine pT ?_;refine uQ ?_;refine ze fun K hK=>?_;go_simp;refine hK.out _ _ (T.alloc _) ?_;refine pT ?_;refine zb fun K hK=>?_;have r:=zkg.ext T;have S:=r.nx;rw [s.out] at S;refine zaH w1 E _ _ _ rfl 110 _ 1 24 Tryz.underlying24 zcB rfl dM (.slice (some gN) (m+i) cN) (m+i) a _ _ rfl rfl r.dr.size S rfl (zbc _ _ _) lM oM ?_;intro g7 cap7 w7 hown7 hg7 hat7 hlt7;refine hK.out _ _ ?_;refine pT ?_;refine uQ ?_;obtain⟨p1,p2,p3⟩:=r.bf (l:=l) (W':=w7) (g:=g7) (cap:=cap7) aw.out H hrow (by rw [s.out];exact hown7) hg7 hat7;have a4:=p1.out;rw [s.out] at p3;refine zb fun K hK=>?_;go_simp;refine hK.out _ _ ?_;refine zg ?_;generalize w7.setCell ⟨G,1,none⟩ (.slice (some g7) (m+i+1) cap7)=w8 at *;have bj:=p3.blk.cell;have a1:=p3.dr.size;have a8:=ah.out;clear p1 a4 p2 cG aR hown7 hg7 hat7 r zkg S;go_wp2_with (at_builtin;refine zW w1 w8 rfl _ _ _ rfl 4 _ 1 1 Tryz.underlying25 zbh rfl dM vA o.length (zak o) _ _ rfl rfl a1 p3.acc rfl (by simp [Value.oneCell']) lM oM ?_;intro g9 cap9 w9 hown9 hg9 hat9 hlt9;obtain⟨q1,q2,q3⟩:=p3.ar (x:=false) hown9 hg9 hat9;have a5:=q1.out)
      go_roundw
      case rel=>exact⟨i+1,oM,_,_,C++[l],_,o++[false],q3,za (by have:=s.out;simp;omega),za oM,za (by simp;omega),za (fun l' hl'=>by
       rcases List.mem_append.1 hl' with h1|h1
       ·exact ai.out l' h1
       ·rw [List.mem_singleton.1 h1];exact aN.out)⟩
      case measure=>have h1:=q3.lenAt;have h2:=az.out;omega
     ·have ax:¬ (((m+i:Nat):Int)<=12):=oM;have cG:=zkg.blk.cell;go_wp2_with fail
      go_meet;exact⟨_,_,_,_,_,_,zkg.more oM,za ⟨by have:=s.out;have:=aV.out;omega,oH ah.out,fun l' hl'=>by have:=ai.out l' hl';omega⟩⟩
   ·have hn1:m=0:=oM;clear hn0;have cG:=zkg.blk.cell;have hst:=zkg;clear zkg;go_wp2_with fail
    go_loopw [] (fun wr=>zbW w1 wr R G (M+1+1) b.al (.slice B m d) a b.next (.slice B' m' d') b.acc) (fun wr=>0)
    case atStart=>exact hst
    case round =>
     clear hst cG;have cG:=hrel.blk.cell;go_wp2_with fail
     go_meet;exact⟨_,_,_,_,_,_,hrel.more oM,za (Hb.out.more oM)⟩
  ·have bm:((y:Int)==0)=false:=by simp;omega
   have h1':((y:Int)==1)=false:=by simp;omega
   have bq:((y:Int)==2)=false:=by simp;omega
   have br:((y:Int)==3)=false:=by simp;omega
   have bs:((y:Int)==4)=false:=by simp;omega
   have bt:((y:Int)==5)=false:=by simp;omega
   go_wp2_with fail
   go_meet;exact⟨_,_,_,_,_,_,zkg.more oM,za (Hb.out.more oM)⟩
 case rest =>
  clear zkg;obtain⟨al,v,a,C,vA,o,zkg,aT⟩:=hcut;obtain⟨A5,c5,rfl⟩:=zi zkg.nx;obtain⟨B5,d5,rfl⟩:=zi zkg.acc;obtain⟨f1,f2⟩:=zkg.fin (N:=M+10) (sh:=BdA (L+13)) U bz rfl hRl oM a3 oM aT.out;have bz5:=bz.dr zkg.dr oM;have cG:=zkg.blk.cell;have cZ:=bz5.cell;have fZ:=bz5.frozen;go_wp2_with fail
  have cf:=f2.cell;exact bodyPost_ret (v:=.agg #[al,.slice A5 C.length c5,.slice B5 o.length d5]) (by simp [results,Tryz.results77,go_sem,cf]) rfl f1.out
theorem yY16a2 {P:Prop}(h:P:=by
 go_wp2_with (at_builtin;refine zO w wr rfl _ _ _ rfl 9 _ 1 16 Tryz.underlying88 zt rfl dM u5 _ _ _ _ rfl rfl zkh zkf rfl (zcz _) lM oM ?_;intro v' w1 hext1 zko hg1 hat1)
 go_roundw
 case rel=>exact⟨k+1,k+1,l++[s.extract m k],oM,gM,oM,gM,by simp;omega,by simpa [zM] using zko,hall.out,aM⟩
 case measure=>simp [intOf];omega
 ):P:=h
theorem spec_l19CutC {s:ByteArray} (hs:s.size<=1000000) :
  Calls Tryz.prog 250 #[s,.int .u8 44] w (RetStrs s.size (s.size+1) w):=by
 go_enter Tryz.func250,Tryz.ntmps250
 go_wp2_with fail
 go_loopw [5,6,7] (fun v f i wr=>∃ (k m:Nat) (l:List ByteArray),k<=s.size+1∧i=.int .i64 k∧m<=k∧f=.int .i64 m∧l.length<=k∧wr.ownsRow w.heap.size 9 1 v l.length (zM l)∧Hid (∀ x∈l,x.size<=s.size)∧Ext w wr) (fun _ _ i _=>s.size+1 - (intOf i).toNat)
 case atStart=>exact⟨0,0,[],eC _,rfl,dI _,rfl,dI _,World.ownsRow_lit w #[] 0 (dI _) lM rfl,(fun x hx=>by cases hx),(dE _).alloc _⟩
 case round =>
  obtain⟨k,m,l,o,rfl,q,rfl,p,zkf,a,zkh⟩:=hrel
  by_cases hle:k<=s.size
  ·have h:(k:Int)<=(s.size:Int):=oM;have j:(m:Int)<=(k:Int):=oM;have d:=za (show (s.extract m k).size<=s.size by rw [ByteArray.size_extract];omega);have hall:=za (show ∀ x∈l++[s.extract m k],x.size<=s.size from fun x hx=>by
    rcases List.mem_append.1 hx with h1|h1
    ·exact a.out x h1
    ·rw [List.mem_singleton.1 h1];exact d.out)
   by_cases he:k=s.size
   ·have b:((k:Int)==(s.size:Int))=true:=by simp [he]
    have n:=za he;clear he;exact yY16a2
   ·have b:((k:Int)==(s.size:Int))=false:=by rw [beq_eq_false_iff_ne];omega
    have g:k<s.size:=oM;have hb:=zcG s k g;cases hc:((s[k].toNat:Int)==44)
    ·go_wp2_with fail
     go_roundw
     case rel=>exact⟨k+1,m,l,oM,gM,oM,rfl,oM,zkf,a,zkh⟩
     case measure=>simp [intOf];omega
    ·exact yY16a2
  ·obtain rfl:k=s.size+1:=oM;obtain⟨A,c,rfl⟩:=zi zkf;go_wp2_with fail
   go_ret;exact⟨A,_,c,l,rfl,rfl,zkf,a.out,oM,zkh⟩
def RetIntsS (N:Nat) (w:World) (e:Ending) (w':World):Prop:=∃ (A:Option Addr) (n c:Nat) (l:List Int) (ok:Bool),e=.returned (.tuple #[.slice A n c,.bool ok])∧n=l.length∧w'.ownsRow w.heap.size 3 1 (.slice A n c) n (ints l)∧n<=N∧Ext w w'
theorem spec_l3Parse {s:ByteArray} (hs:s.size<=1000) :
  Calls Tryz.prog 252 #[s] w (RetIntsS (s.size+1) w):=by
 have g:=World.ownsRow_lit (base:=w.heap.size) (e:=3) (size:=1) w #[] 0 (dI _) lM rfl
 go_enter Tryz.func252,Tryz.ntmps252
 go_upto_region 2 with fail
 obtain⟨K,hK⟩:∃ K,Hid (K=w.heap.size):=⟨_,za rfl⟩;rw [← hK.out] at g ⊢;generalize U0:w.alloc _=w1 at *;have r:=Ext.al_ U0;clear U0;cases he:s.toList.isEmpty
 ·go_wp2_with fail
  refine (spec_l19CutC (s:=s) oM).mono ?_;rintro e T ⟨B,m,d,l,rfl,o,t,n,J,c⟩;have q:=r.trans c;have h:=zh g c;have z:=za n;have M:=za o;have G:m<=s.size+1:=J;clear n o g he J;go_wp2_with fail
  go_loopw [4,6] (fun v iv wr=>∃ (k:Nat) (f:List Int),k<=m∧iv=.int .i64 (k:Nat)∧wr.ownsRow K 3 1 v k (ints f)∧Hid (f.length=k)∧wr.ownsRow w1.heap.size 9 1 (.slice B m d) m (zM l)∧Ext w wr) (fun _ iv _=>m - (intOf iv).toNat)
  case atStart=>exact⟨0,[],eC _,rfl,h,za rfl,t,q⟩
  case round =>
   clear h t q c;obtain⟨k,f,S,rfl,p,i,a,u⟩:=hrel;obtain⟨y,C,rfl⟩:=zi p
   by_cases hlt:k<m
   ·obtain⟨R,rfl,-,-⟩:=zad a oM;obtain⟨Q,L,D,-,-,I,F⟩:=(eW a).str hlt;obtain rfl:=Option.some.inj D;rw [zT,eO] at F;have E:=za (z.out L (dG I.out));go_wp2_with fail
    refine (zel (s:=L) (oH E.out)).mono ?_;rintro e U ⟨x,O,rfl,rfl⟩;cases O
    ·go_wp2_with fail
     exact bodyPost_ret (v:=.tuple #[(),.bool false]) (by simp [results,Tryz.results252,go_sem]) rfl ⟨none,0,0,[],false,rfl,rfl,World.ownsRow_nil _ _ _ _,oM,u⟩
    ·have H:=u.size;go_wp2_with (at_builtin;refine zW w wr rfl _ _ _ rfl 3 _ 1 8 Tryz.underlying110 zae rfl dM (.slice y k C) k (ints f) _ _ rfl rfl H (by rw [← hK.out];exact p) rfl (by simp [Value.oneCell']) lM oM ?_;intro g5 cap5 w5 zkr hg5 hat5 hlt5)
     go_roundw
     case rel=>exact⟨k+1,f++[x],oM,gM,by rw [hK.out];simpa [ints] using zkr,za (by have:=i.out;simp;omega),zf a (fV hg5) (fun b hb hS=>zas a p dM hb hS),u.grown hg5 (fun j hj=>by have:=(p.lt j hj).1;have:=hK.out;omega)⟩
     case measure=>simp [intOf];omega
   ·obtain rfl:k=m:=oM;go_wp2_with fail
    exact bodyPost_ret (v:=.tuple #[.slice y k C,.bool true]) (by simp [results,Tryz.results252,go_sem]) rfl ⟨y,k,C,f,true,rfl,i.out.symm,by rw [← hK.out];exact p,G,u⟩
 ·go_wp2_with fail
  exact bodyPost_ret (v:=.tuple #[.slice (some K) 0 0,.bool true]) (by simp [results,Tryz.results252,go_sem]) rfl ⟨some ⟨w.heap.size,0,none⟩,0,0,[],true,by rw [hK.out],rfl,by rw [hK.out] at g;exact g,oM,r⟩
theorem autValid_few {a:Aut}(h:zj a=true):∃ al:Nat,a.al=al∧al<64∧1<=a.next.length∧a.next.length<=12∧a.acc.length=a.next.length∧∀ l∈a.next,l.length=(letters al 6).length∧∀ q∈l,0<=q∧q<a.next.length:=by
 simp only [zj,Bool.and_eq_true,decide_eq_true_eq,List.all_eq_true,rowB] at h;obtain⟨h1,b,h3,c⟩:=h;refine⟨a.al.toNat,oM,oM,b.1,b.2,h3,fun l hl=>⟨(c l hl).1,fun q hq=>(c l hl).2 q hq⟩⟩
def RetFmtA (a:Aut) (w:World) (e:Ending) (w':World):Prop:=∃ t:ByteArray,e=.returned (.string t)∧(zj a=false->t.size=0)∧Ext w w'
theorem zfd {lo hi:Nat}     {a:Aut} (h:zF w lo hi A n A' n' a) :
  Calls Tryz.prog 253 #[.agg #[a.al,.slice A n c,.slice A' n' c']] w (RetFmtA a w):=by
 have Z:=za (fun W (hW:Ext w W)=>zQ lo hi A n c A' n' c' a W ⟨h.1.ext hW,h.2.1,h.2.2.ext hW⟩);cases h1:zj a
 ·have J:=za h1;clear h1 h
  go_enter Tryz.func253,Tryz.ntmps253
  go_wp2_with (go_at_call 79;refine (Z.out _ ((dE _).alloc _)).mono ?_;rw [J.out];rintro e w1 ⟨rfl,H⟩)
  go_ret;exact⟨_,rfl,fun _=>rfl,((dE _).alloc _).trans H⟩
 ·obtain⟨al,ha,L,hn1,R,M,b⟩:=autValid_few h1;have J:=za h1;have Hn:=za h.n1;have aj:=za h.n2;have Ha:=za ha;have f:=za b;have HS:=za (fun W (hW:Ext w W)=>h.1.ext hW);have HB:=za (fun W (hW:Ext w W)=>h.2.2.ext hW);have e1:n=n':=by have:=h.n1;have:=h.n2;omega
  subst e1;have au:n<=12:=oH h.n1;clear h1 ha hn1 R M b h
  go_enter Tryz.func253,Tryz.ntmps253
  go_wp2_with fail
  refine (Z.out _ ((dE _).alloc _)).mono ?_;rw [J.out];rintro e w1 ⟨rfl,H⟩;have b1:=zcv H;rw [Ha.out] at b1;have o:=((dE w).alloc _).trans H;have cb:=b1.cells;have V:=dE w1;clear H;go_wp2_with fail
  refine (zbO L).mono ?_;rintro e w2 ⟨s,rfl,F,I⟩;go_wp2_with fail
  go_loopw [3,4] (fun v i wr=>∃ (k:Nat) (t:ByteArray),k<=n∧i=.int .i64 k∧v=.string t∧t.size<=20+100*k∧Ext w1 wr) (fun _ i _=>n - (intOf i).toNat)
  case atStart=>exact⟨0,s,eC _,rfl,rfl,oM,I⟩
  case round =>
   clear I F V;obtain⟨k,t,hk,rfl,rfl,ht,zkh⟩:=hrel;have C:=cb wr zkh
   by_cases hlt:k<n
   ·obtain⟨ad,Ak,ck,l,rfl,_,_,hl,g,E⟩:=(HS.out wr (o.trans zkh)).row hlt;obtain⟨ak,x,rfl,_,_,-,O⟩:=(HB.out wr (o.trans zkh)).bool hlt;have hq:=za (f.out l (dG hl.out));have aq:l.length<=6:=by have:=hq.out.1;have:=zA al 6;omega
    have B:=za (fun W (hW:Ext wr W)=>E.ext hW);have z:=za (fun W (hW:Ext wr W)=>hW.aa g);have y:=za (fun W (hW:Ext wr W)=>cb W (zkh.trans hW));have r:=dE wr;clear E;go_upto_if 24 with fail
    go_cut [5] (fun s5 wx=>∃ m:ByteArray,s5=.string m∧m.size=2∧Ext wr wx)
    case first =>
     cases x
     ·go_wp2_with fail
      go_meet;exact⟨{ data:=#[32,45] },rfl,rfl,r⟩
     ·go_wp2_with fail
      go_meet;exact⟨{ data:=#[32,43] },rfl,rfl,r⟩
    case rest =>
     clear g O C r;obtain⟨m,rfl,Q,p⟩:=hcut;obtain⟨Y,G⟩:∃ Y,Y=wr:=⟨_,rfl⟩;rw [← G] at B z y p zkh;clear G;have q0:¬ 9223372036854775807<t.size+m.size:=oM;have av:(t++m).size=t.size+2:=by rw [ByteArray.size_append,Q]
     go_upto_region 11 with fail
     generalize t++m=t1 at *;clear q0;go_wp2_with fail
     go_loopw [3,6] (fun v jv wr=>∃ (j:Nat) (t:ByteArray),j<=l.length∧jv=.int .i64 j∧v=.string t∧t.size<=22+100*k+10*j∧Ext Y wr) (fun _ jv _=>l.length - (intOf jv).toNat)
     case atStart=>exact⟨0,t1,eC _,rfl,rfl,oM,p⟩
     case round =>
      clear p;obtain⟨j,s,hj,rfl,rfl,F,d⟩:=hrel;have C:=y.out wr d;have g:=z.out wr d
      by_cases hjl:j<l.length
      ·obtain⟨am,q,rfl,-,-,U,ao⟩:=(B.out wr d).int hjl;obtain⟨S,T⟩:=hq.out.2 q (dG U.out);obtain⟨u,rfl⟩:∃ u:Nat,q=u:=⟨q.toNat,oM⟩;have hu:u<100:=oH Hn.out;clear S T;go_upto_if 39 with fail
       go_cut [3] (fun s3 wx=>∃ m:ByteArray,s3=.string m∧m.size<=s.size+1∧wx=wr)
       case first =>
        by_cases hj0:0<j
        ·have D:((j:Int)>0):=oM;have q1:¬ 9223372036854775807<s.size+1:=oM;go_wp2_with fail
         go_meet;exact⟨_,rfl,by rw [ByteArray.size_append];exact dI _,rfl⟩
        ·have D:¬ ((j:Int)>0):=oM;go_wp2_with fail
         go_meet;exact⟨s,rfl,oM,rfl⟩
       case rest =>
        obtain⟨m3,rfl,ar,rfl⟩:=hcut;go_wp2_with fail
        refine (zek (n:=u) hu).mono ?_;rintro e w4 ⟨t4,rfl,aw,X⟩;have q2:¬ 9223372036854775807<m3.size+t4.size:=oM;go_wp2_with fail
        go_roundw
        case rel=>exact⟨j+1,_,oM,gM,rfl,by rw [ByteArray.size_append];omega,d.trans X⟩
        case measure=>simp [intOf];omega
      ·obtain rfl:j=l.length:=oM;go_wp2_with fail
       go_roundw
       case rel=>exact⟨k+1,s,oM,gM,rfl,oM,zkh.trans d⟩
       case measure=>simp [intOf];omega
   ·obtain rfl:n=k:=oM;go_wp2_with fail
    go_ret;have hv:=J.out;exact⟨t,rfl,fun h=>absurd (hv.symm.trans h) dM,o.trans zkh⟩
def RetStrs1 (L N:Nat) (w:World) (e:Ending) (w':World):Prop:=∃ (A:Option Addr) (n c:Nat) (l:List ByteArray),e=.returned (.slice A n c)∧n=l.length∧0<n∧w'.ownsRow w.heap.size 9 1 (.slice A n c) n (zM l)∧(∀ x∈l,x.size<=L)∧n<=N∧Ext w w'
theorem spec_l19Cut1 {s:ByteArray} (hs:s.size<=1000000) :
  Calls Tryz.prog 250 #[s,.int .u8 32] w (RetStrs1 s.size (s.size+1) w):=by
 go_enter Tryz.func250,Tryz.ntmps250
 go_wp2_with fail
 go_loopw [5,6,7] (fun v f i wr=>∃ (k m:Nat) (l:List ByteArray),k<=s.size+1∧i=.int .i64 k∧m<=k∧f=.int .i64 m∧l.length<=k∧wr.ownsRow w.heap.size 9 1 v l.length (zM l)∧Hid (∀ x∈l,x.size<=s.size)∧Ext w wr∧Hid (s.size<k->0<l.length)) (fun _ _ i _=>s.size+1 - (intOf i).toNat)
 case atStart=>exact⟨0,0,[],eC _,rfl,dI _,rfl,dI _,World.ownsRow_lit w #[] 0 (dI _) lM rfl,(fun x hx=>by cases hx),(dE _).alloc _,za (fun hh=>absurd hh oM)⟩
 case round =>
  obtain⟨k,m,l,p,rfl,r,rfl,q,zkf,a,zkh,b⟩:=hrel
  by_cases hle:k<=s.size
  ·have j:(k:Int)<=(s.size:Int):=oM;have n:(m:Int)<=(k:Int):=oM;have g:=za (show (s.extract m k).size<=s.size by rw [ByteArray.size_extract];omega);have hall:=za (show ∀ x∈l++[s.extract m k],x.size<=s.size from fun x hx=>by
    rcases List.mem_append.1 hx with h1|h1
    ·exact a.out x h1
    ·rw [List.mem_singleton.1 h1];exact g.out)
   by_cases he:k=s.size
   ·have d:((k:Int)==(s.size:Int))=true:=by simp [he]
    have o:=za he;clear he;go_wp2_with (at_builtin;refine zO w wr rfl _ _ _ rfl 9 _ 1 16 Tryz.underlying88 zt rfl dM u5 _ _ _ _ rfl rfl zkh zkf rfl (zcz _) lM oM ?_;intro v' w1 hext1 zko hg1 hat1)
    go_roundw
    case rel=>exact⟨k+1,k+1,l++[s.extract m k],oM,gM,oM,gM,by simp;omega,by simpa [zM] using zko,hall.out,aM,za (fun _=>sM)⟩
    case measure=>simp [intOf];omega
   ·have d:((k:Int)==(s.size:Int))=false:=by rw [beq_eq_false_iff_ne];omega
    have h:k<s.size:=oM;have hb:=zcG s k h;cases hc:((s[k].toNat:Int)==32)
    ·go_wp2_with fail
     go_roundw
     case rel=>exact⟨k+1,m,l,oM,gM,oM,rfl,oM,zkf,a,zkh,za (fun hh=>absurd hh oM)⟩
     case measure=>simp [intOf];omega
    ·go_wp2_with (at_builtin;refine zO w wr rfl _ _ _ rfl 9 _ 1 16 Tryz.underlying88 zt rfl dM u5 _ _ _ _ rfl rfl zkh zkf rfl (zcz _) lM oM ?_;intro v' w1 hext1 zko hg1 hat1)
     go_roundw
     case rel=>exact⟨k+1,k+1,l++[s.extract m k],oM,gM,oM,gM,by simp;omega,by simpa [zM] using zko,hall.out,aM,za (fun _=>sM)⟩
     case measure=>simp [intOf];omega
  ·obtain rfl:k=s.size+1:=oM;obtain⟨A,c,rfl⟩:=zi zkf;go_wp2_with fail
   go_ret;exact⟨A,_,c,l,rfl,rfl,b.out oM,zkf,a.out,oM,zkh⟩
def RetParA (R M L:Nat) (w:World) (e:Ending) (w':World):Prop:=
 ∃ (b:Aut) (A:Option Addr) (n c:Nat) (A':Option Addr) (n' c':Nat) (ok:Bool),e=.returned (.tuple #[.agg #[b.al,.slice A n c,.slice A' n' c'],.bool ok])∧zN w' w.heap.size A n c A' n' c' b∧Hid (BdA L b)∧Rd w' R M∧Dr R w w'
theorem zjL (hR:R<w.heap.size)(h:Rd W R M)(hd:Dr R w W)(hZ:w.heap.size<=Z) :
  Hid (RetParA R M L w (.returned (.tuple #[.agg #[(0:Int),(),()],.bool false])) (((W.setCell Z (0:Int)).setCell ⟨Z,1,none⟩ ()).setCell ⟨Z,2,none⟩ ())):=
 za ⟨⟨0,[],[]⟩,none,0,0,none,0,0,false,rfl,⟨⟨[],World.ownsRow_nil _ _ _ _,zC.nil _ _⟩,rfl,World.ownsRow_nil _ _ _ _,rfl⟩,za ⟨eC _,eC _,fun l hl=>by simp at hl⟩,h.frm (zZ W Z _ _ _) (fun k hk e=>oM),((hd.ag (p:=⟨Z,0,none⟩) hZ _).ag (p:=⟨Z,1,none⟩) hZ _).ag (p:=⟨Z,2,none⟩) hZ _⟩
theorem yY16a4 {P:Prop}(h:P:=by
 go_wp2_with fail
 have hfb:=zaf bz4 rfl (.int .i64 0) (.slice none 0 0) (.slice none 0 0);have cf:=hfb.cell;exact bodyPost_ret (v:=.tuple #[.agg #[(0:Int),(),()],.bool false]) (by simp [results,Tryz.results166,go_sem,cf]) rfl hno4.out
 ):P:=h
theorem yY16a6 {P:Prop}(h:P:=by
 have cf:=hfb.cell;exact bodyPost_ret (v:=.tuple #[.agg #[(0:Int),(),()],.bool false]) (by simp [results,Tryz.results166,go_sem,cf]) rfl hno.out
 ):P:=h
theorem zfy {x:ByteArray} (h:Rd w R M)(hx:x.size<=1000) :
  Calls Tryz.prog 166 #[x] w (RetParA R M (x.size+1) w):=by
 have hRl:=h.lt
 go_enter Tryz.func166,Tryz.ntmps166
 go_wp2_with fail
 generalize U0:w.alloc _=w0 at *;have n:=Ext.al_ U0;have bz:=eS U0;have aT:=bz.lt;clear U0;refine (spec_l19Cut1 (s:=x) oM).mono ?_;rintro e w1 ⟨B,m,d,l,rfl,ap,ab,zko,u,hm,aS⟩;have aD:=za u;have be:=za ap;have bB:m<=1001:=oM;clear u ap;obtain⟨gB,rfl,bw,-⟩:=zad zko ab;obtain⟨ad,x0,V,-,-,a8,ak⟩:=(eW zko).str (k:=0) ab;obtain rfl:=Option.some.inj V;rw [zT,Nat.add_zero] at ak;have a7:(0:Int)<(m:Int):=oM;go_wp2_with fail
 refine (zdx (x:=x0)).mono ?_;rintro e w2 ⟨al,aV,rfl,ha,av⟩;have t:=aS.trans av;have U:=bz.ext t;have aE:=U.cell;have aF:=U.frozen;have hno:=zjL (L:=x.size+1) (M:=M) (Z:=w.heap.size) hRl (h.ext (n.trans t)) (n.trans t).dr (dI _);cases aV
 ·go_wp2_with fail
  have hfb:=zaf U rfl (.int .i64 0) (.slice none 0 0) (.slice none 0 0);exact yY16a6
 ·have bG:=eX w2 27 #[al,(),()];have ae:=(dE w2).alloc (.cells #[al,(),()] 27);have aP:=t.size;have aA:=zh zko av;have bt:=za (show ∀ W,Ext w2 W->Ext w W from fun W hW=>(n.trans t).trans hW);go_upto_region 6 with fail
  have aB:=zh aA ae;have zkg:zbW w0 (w2.alloc (.cells #[al,(),()] 27)) R w2.heap.size M al (.slice none 0 0) [] [] (.slice none 0 0) []:=⟨bG,World.ownsRow_nil _ _ _ _,zC.nil _ _,World.ownsRow_nil _ _ _ _,(h.ext (n.trans t)).ext ae,(t.trans ae).dr,oM,aP⟩;generalize w2.alloc _=w3 at *;generalize w2.heap.size=G at *;clear hno aE aF ak aA;go_wp2_with fail
  go_loopw [8] (fun iv wr=>∃ (i:Nat) (v:Value) (p:List Value) (j:List (List Int)) (vA:Value) (f:List Bool),1<=i∧i<=m∧iv=.int .i64 (i:Nat)∧zbW w0 wr R G M al v p j vA f∧Hid (j.length<=i - 1)∧Hid (f.length=j.length)∧Hid (∀ l∈j,l.length<=x.size+1)∧wr.ownsRow w0.heap.size 9 1 (.slice (some gB) m d) m (zM l)) (fun iv _=>m - (intOf iv).toNat)
  case atStart=>exact⟨1,_,_,[],_,[],dI _,ab,rfl,zkg,za (eC _),za rfl,za (fun l hl=>by simp at hl),aB⟩
  case round =>
   clear zkg aB;obtain⟨i,v,p,j,vA,f,bx,hi,rfl,zkg,E,Y,u,F⟩:=hrel;have hno:=zjL (L:=x.size+1) (M:=M) (Z:=w.heap.size) hRl zkg.rd (n.dr.trans zkg.dr) (dI _);have C:=bz.dr zkg.dr oM
   by_cases hlt:i<m
   ·obtain⟨ad,z,V,-,-,aw,am⟩:=(eW F).str hlt;obtain rfl:=Option.some.inj V;rw [zT,eO] at am;have bs:=aD.out z (dG aw.out);cases he:z.toList.isEmpty
    ·have bp:1<=z.size:=by
      rcases Nat.eq_zero_or_pos z.size with h0|h0
      ·rw [ByteArray.toList_eq] at he;have e2:z.data.toList.length=z.size:=rfl;rw [List.eq_nil_of_length_eq_zero (e2.trans h0)] at he;cases he
      ·exact h0
     have a5:(1:Int)<=(z.size:Int):=oM;have bu:(z.extract 1 z.size).size<=x.size:=by rw [ByteArray.size_extract];omega
     go_wp2_with fail
     refine (spec_l3Parse (s:=z.extract 1 z.size) oM).mono ?_;rintro e w4 ⟨Ar,nr,cr,lr,ok,rfl,aL,ar,bC,g⟩;cases ok
     ·have hno4:=zjL (L:=x.size+1) (M:=M) (Z:=w.heap.size) hRl (zkg.rd.ext g) ((n.dr.trans zkg.dr).ext g) (dI _);have bz4:=C.ext g;have cz:=bz4.cell;have fz:=bz4.frozen;exact yY16a4
     ·subst aL;have an:=za zkg.low;have aO:=za zkg.dr.size;have c:=zkg.ext g;have q:=zh F g;have cG:=c.blk.cell;have aQ:=c.dr.size;have bA:j.length<=1001:=oH E.out;have ai:=za aw.out;have aq:=hno;clear zkg F am hno aq;go_upto_region 15 with (at_builtin;refine zW w0 w4 rfl _ _ _ rfl 110 _ 1 24 Tryz.underlying24 zcB rfl dM v j.length p _ _ rfl rfl aQ c.nx rfl (zbc _ _ _) lM oM ?_;intro g5 cap5 w6 hown6 hg6 hat6 hlt6;obtain⟨q1,q2,q3⟩:=c.bf an.out aO.out ar hown6 hg6 hat6;have aW:=q1.out;have r:=(zf q (fV hg6) (fun b hb hS=>zas q c.nx dM hb hS)))
      have H:=zf r (eB w6 G 1 (.slice (some g5) (j.length+1) cap5)) (fun b hb hS=>by
       have aI:Blk w6 G 27 #[.int .i64 al,v,vA]:=(hg6.block G c.blk.lt (fun e=>zr c.nx c.blk dM e.symm rfl)).trans c.blk;exact zr r aI dM hb hS)
      have S:=za (show (j++[lr]).length<=i by have:=E.out;simp;omega);have Q:=za (show f.length+1=(j++[lr]).length by have:=Y.out;simp;omega);have ao:=za (show ∀ l'∈j++[lr],l'.length<=x.size+1 from fun l' hl'=>by
       rcases List.mem_append.1 hl' with h1|h1
       ·exact u.out l' h1
       ·rw [List.mem_singleton.1 h1];omega)
      clear q1 aW q2 hown6 hg6 hat6 hlt6 r q c cG E Y u ar;generalize j++[lr]=aU at *;generalize p++[.slice Ar lr.length cr]=aY at *;generalize w6.setCell ⟨G,1,none⟩ (.slice (some g5) (j.length+1) cap5)=w7 at *;generalize Value.slice (some g5) (j.length+1) cap5=v7 at *;obtain⟨bg,y,aj,-,-,T,D⟩:=(eW H).str hlt;obtain rfl:=Option.some.inj aj;rw [zT,eO] at D;obtain rfl:y=z:=Option.some.inj (T.out.symm.trans ai.out);have cG:=fun W (hW:Ext w7 W)=>(q3.blk.ext hW).cell;have cS:∀ W,Ext w7 W->W.cell? ⟨gB,i,none⟩=some (.string y):=fun W hW=>hW.aa D;have aH:0<y.size:=oM;have a4:(0:Int)<(y.size:Int):=oM;have bq:=zcG y 0 aH;obtain⟨bb,br⟩:∃ bb,((y[0].toNat:Int)==43)=bb:=⟨_,rfl⟩;have aR:=dE w7;clear D T ai;refine uR (fun X=>Ext w7 X) [9,11] (zw.of [0,1,2,3,4,5,6,7,8,9,10,11]) ?_;refine uQ ?_;have af:=aR.drew;refine ze fun K hK=>?_;go_simp;refine hK.out _ _ (af.alloc _) ?_;refine pT ?_;refine zb fun K hK=>?_;have bD:=q3.dr.size;have o:=q3.ext af;have a6:f.length<=1001:=by have:=Q.out;have:=S.out;omega
      have I:=zh H af;refine zaH w0 w7.drew _ _ _ rfl 4 _ 1 1 Tryz.underlying25 zbh rfl dM vA f.length (zak f) _ _ rfl rfl o.dr.size o.acc rfl (by simp [Value.oneCell']) lM oM ?_;intro g8 cap8 w8 hown8 hg8 hat8 hlt8;refine hK.out _ _ ?_;refine pT ?_;refine uQ ?_;obtain⟨p1,p2,p3⟩:=o.ar (x:=bb) (W':=w8) hown8 hg8 hat8;have bJ:=p1.out;have J:=zf I (fV hg8) (fun b hb hS=>zas I o.acc dM hb hS);have O:=zf J (eB w8 G 2 (.slice (some g8) (f.length+1) cap8)) (fun b hb hS=>by
       have aJ:Blk w8 G 27 #[.int .i64 al,v7,vA]:=(hg8.block G o.blk.lt (fun e=>zr o.acc o.blk dM e.symm rfl)).trans o.blk;exact zr J aJ dM hb hS)
      refine zb fun K hK=>?_;go_simp;refine hK.out _ _ ?_;refine zg ?_;go_wp2_with fail
      go_roundw
      case rel=>exact⟨i+1,_,_,aU,_,f++[bb],oM,oM,gM,p3,za (oH S.out),za (by have:=Q.out;simp;omega),ao,O⟩
      case measure=>simp [intOf];omega
    ·have cz:=C.cell;have fz:=C.frozen;go_wp2_with fail
     have hfb:=zaf C rfl (.int .i64 0) (.slice none 0 0) (.slice none 0 0);exact yY16a6
   ·obtain⟨A5,c5,rfl⟩:=zi zkg.nx;obtain⟨B5,d5,rfl⟩:=zi zkg.acc;have aK:zF wr w0.heap.size wr.heap.size A5 j.length B5 f.length (⟨al,j,f⟩:Aut):=⟨zfF.reads ⟨p,zkg.nx,zkg.rows⟩ rfl,rfl,eW zkg.acc⟩;have cG:=zkg.blk.cell;clear hno;go_wp2_with fail
    refine (zfd (a:=⟨al,j,f⟩) aK).mono ?_;rintro e w4 ⟨tx,rfl,-,g⟩;have c:=zkg.ext g;have hno4:=zjL (L:=x.size+1) (M:=M) (Z:=w.heap.size) hRl (zkg.rd.ext g) ((n.dr.trans zkg.dr).ext g) (dI _);have bz4:=C.ext g;have cz:=bz4.cell;have fz:=bz4.frozen;have bl:=c.blk.cell;clear cG;cases hne:tx.toList==x.toList
    ·exact yY16a4
    ·obtain⟨f1,f2⟩:=c.fin (N:=M) (sh:=BdA (x.size+1)) n bz rfl hRl (dI _) aT (dI _) ⟨by have:=E.out;show j.length<=_;omega,by have:=E.out;have:=Y.out;show f.length<=_;omega,u.out⟩;go_wp2_with fail
     have cf:=f2.cell;obtain⟨b,A6,n6,c6,A7,n7,c7,he,aN,au,hr6,hd6⟩:=f1.out;exact bodyPost_ret (v:=.tuple #[.agg #[al,.slice A5 j.length c5,.slice B5 f.length d5],.bool true]) (by simp [results,Tryz.results166,go_sem,cf]) rfl ⟨b,A6,n6,c6,A7,n7,c7,true,by injection he with he;rw [he],aN,au,hr6,hd6⟩
theorem bits_all (y:Nat)(hy:y<64):bits .and .i64 (-1) (y:Int)=(y:Int):=
 (show ∀ y:Fin 64,bits .and .i64 (-1) ((y.val:Nat):Int)=((y.val:Nat):Int) by decide +kernel) ⟨y,hy⟩
theorem yY16a3 {P:Prop}(h:P:=by
 obtain⟨f1,f2⟩:=zjk (N:=M+600) (sh:=zhq) hxz zkf hsh.out hr6 hd6 bz rfl hRl (Nat.le_refl _) (Nat.le_refl _);have bz5:=bz.dr hd6 oM;have cZ:=bz5.cell;have fZ:=bz5.frozen;go_wp2_with fail
 have cf:=f2.cell;exact bodyPost_ret (v:=.agg #[b.al,.slice A n c,.slice A' n' c']) (by simp [results,Tryz.results205,go_sem,cf]) rfl f1.out
 ):P:=h
theorem zgX {zz:Int} (h:Rd w R M)(hM:M<=700000000)(ha:(∃ a:Nat,zz=(a:Int)∧a<64)∨zz = -1) :
  Calls Tryz.prog 205 #[.pointer (some R),zz] w (ziq R (M+600) zhq w):=by
 have hRl:=h.lt
 go_enter Tryz.func205,Tryz.ntmps205
 have hxz:=(dE w).alloc (.cells #[(0:Int),(),()] 27);have bz:=eX w 27 #[(0:Int),(),()];have t:(w.alloc (.cells #[(0:Int),(),()] 27)).heap.size=w.heap.size+1:=sM;go_wp2_with fail
 rw [← t];generalize w.alloc _=w1 at *;refine (zbN [63,63,5,3,6] 5 #[(63:Int),(63:Int),(5:Int),(3:Int),(6:Int)] rfl rfl oM oM (h.ext hxz) oM).mono ?_;rintro e D ⟨x,i,rfl,m,j⟩;obtain⟨y,u,rfl⟩:∃ y:Nat,y<64∧x=(y:Int):=⟨x.toNat,by simp at i;omega,by simp at i;omega⟩;clear i;replace j:=((Dr.refl R w1).alloc _).trans j;obtain⟨d,k,o⟩:∃ d:Nat,bits .and .i64 zz (y:Int)=(d:Int)∧d<64:=by
  rcases ha with ⟨a,rfl,ha⟩|rfl
  ·exact⟨a&&&y,zbZ tM tM,Nat.lt_of_le_of_lt Nat.and_le_left ha⟩
  ·exact⟨y,bits_all y u,u⟩
 go_upto_region 2 with fail
 clear k;go_wp2_with fail
 refine (zH m oM).mono ?_;rintro e E ⟨z,rfl,-,-,g,f⟩;replace f:=j.trans f;clear j m;go_upto_if 13 with fail
 go_cut [5] (fun s5 wx=>∃ d:Nat,d<64∧s5=.int .i64 (d:Nat)∧Rd wx R (M+10)∧Dr R w1 wx)
 case first =>
  by_cases hz:z=0
  ·subst hz;go_wp2_with fail
   refine (spec_l1Some g oM).mono ?_;rintro e w4 ⟨x,i,rfl,hr4,hd4⟩;go_wp2_with fail
   go_meet;exact⟨x,i,rfl,hr4.more oM,f.trans hd4⟩
  ·have C:((z:Int)==0)=false:=by simp;omega
   go_wp2_with fail
   go_meet;exact⟨d,o,rfl,g.more oM,f⟩
 case rest =>
  clear g f o;obtain⟨d,q,rfl,g,f⟩:=hcut;go_wp2_with fail
  refine (zH g oM).mono ?_;rintro e w4 ⟨y,rfl,-,-,hr4,hd4⟩;replace hd4:=f.trans hd4
  by_cases u:0<y
  ·have v:((y:Int)>0):=oM;go_wp2_with fail
   refine (zbN [3,2,4,1] 4 #[(3:Int),(2:Int),(4:Int),(1:Int)] rfl rfl oM oM hr4 oM).mono ?_;rintro e F ⟨x,i,rfl,s,r⟩;obtain⟨p,hp1,B,rfl⟩:∃ y:Nat,1<=y∧y<=4∧x=(y:Int):=⟨x.toNat,by simp at i;omega,by simp at i;omega,by simp at i;omega⟩;clear i;have l:=(hd4.alloc _).trans r;go_wp2_with fail
   refine (zia s oM q hp1 oM).mono ?_;intro e w6 hret;obtain⟨b,A,n,c,A',n',c',rfl,zkf,hsh,hr6,hd6⟩:=hret.mono (N:=M+600) (sh':=zhq) l oM (fun b hb=>⟨d,p,q,hp1,oM,hb⟩);exact yY16a3
  ·have v:¬ ((y:Int)>0):=oM;go_wp2_with fail
   refine (spec_l3Over hr4 oM q).mono ?_;intro e w6 hret;obtain⟨b,A,n,c,A',n',c',rfl,zkf,hsh,hr6,hd6⟩:=hret.mono (N:=M+600) (sh':=zhq) hd4 oM (fun b hb=>hb);exact yY16a3
section
variable {w0 W W':World} {R G H M N:Nat} {s t:Sys} {A B:Option Addr} {n c m d:Nat}
theorem blk_fill {cs:Array Value} {t:TypeId}(h:Blk w Z t cs)(hc:cs.size=3) (u0 u1 u2:Value):Blk (((w.setCell Z u0).setCell ⟨Z,1,none⟩ u1).setCell ⟨Z,2,none⟩ u2) Z t #[u0,u1,u2]:=by
 obtain⟨l⟩:=cs
 match l,hc with
 |[a,b,c],_=>simpa using ((h.ab 0 u0).ab 1 u1).ab 2 u2
end
theorem Dr.new (h:Ext w w1)(hR:w.heap.size<=R)(hd:Dr R w1 w2):Ext w w2:=
 h.frm hd (fun k hk he=>oM)
theorem zdz (h:Rd w R M)(hM:M<=800000000) :
  Calls Tryz.prog 116 #[.pointer (some R)] w (RetG R (M+30000) 20000 w):=by
 have hRl:=h.lt;have k:=(dE w).alloc (.cells #[(0:Int),(0:Int),()] 38);have bz5:=eX w 38 #[(0:Int),(0:Int),()];have s:=h.ext k;have z:=k.dr (R:=R);have Q:=bz5.lt
 go_enter Tryz.func116,Tryz.ntmps116
 go_wp2_with fail
 have E:=(zbN [3,6,7,5,2] 5 #[(3:Int),(6:Int),(7:Int),(5:Int),(2:Int)] rfl rfl oM oM s oM);simp only [World.size_alloc] at E;refine E.mono ?_;rintro e U ⟨al,d,rfl,hr6,hd6⟩;have B:=(z.ext ((dE _).alloc _)).trans hd6;have l:=(bz5.ext ((dE _).alloc _)).dr hd6 oM;go_wp2_with fail
 refine (zbN [2,3,1,3] 4 #[(2:Int),(3:Int),(1:Int),(3:Int)] rfl rfl oM oM hr6 oM).mono ?_;rintro e V ⟨H,hst,rfl,t,g⟩;have C:=(B.ext ((dE _).alloc _)).trans g;have m:=(l.ext ((dE _).alloc _)).dr g oM;go_wp2_with fail
 refine (zbN [2,3,4] 3 #[(2:Int),(3:Int),(4:Int)] rfl rfl oM oM t oM).mono ?_;rintro e X ⟨T,_,rfl,u,i⟩;have D:=(C.ext ((dE _).alloc _)).trans i;have n:=(m.ext ((dE _).alloc _)).dr i oM;obtain⟨a,rfl,ha⟩:∃ a:Nat,al=a∧a<64:=⟨al.toNat,by simp at d;omega,by simp at d;omega⟩;obtain⟨p,rfl,hp1,O⟩:∃ p:Nat,H=p∧1<=p∧p<=16:=⟨H.toNat,by simp at hst;omega,by simp at hst;omega,by simp at hst;omega⟩;clear d hst;go_wp2_with fail
 refine (zjT u oM ha hp1 O).mono ?_;rintro e Y ⟨G,I,S,F,rfl,y,q,r,x,j⟩;have b:=n.dr j oM;have f:=za (ret_fill (R:=R) (M:=M+30000) (L:=20000) (c:=F) y q r (x.more oM) (D.trans j) b hRl (dI _));have o:=b.cell;have J:=b.frozen;go_wp2_with fail
 exact bodyPost_ret (v:=.agg #[G.al,G.st,.slice I S F]) (by simp [results,Tryz.results116,go_sem,o]) rfl f.out
structure Ent where
 s:Sys
 A:Option Addr
 n:Nat
 c:Nat
def Ent.cs (e:Ent):List Value:=[.int .i64 e.s.al,.int .i64 e.s.st,.slice e.A e.n e.c]
def zgP (l:List Ent):List Value:=l.flatMap Ent.cs
theorem entC_snoc (l:List Ent) (e:Ent):zgP (l++[e])=zgP l++e.cs:=by simp [zgP]
theorem entC_length (l:List Ent):(zgP l).length=l.length*3:=by
 induction l with
 |nil=>rfl
 |cons e r ih =>
  show (e.cs++zgP r).length=_;rw [eK,ih,gJ];show 3+_=_;omega
theorem zjx {l:List Ent}  {e:Ent}(h:l[k]?=some e):(zgP l)[k*3]?=some (.int .i64 e.s.al)∧(zgP l)[k*3+1]?=some (.int .i64 e.s.st)∧(zgP l)[k*3+2]?=some (.slice e.A e.n e.c):=by
 induction l generalizing k with
 |nil=>simp at h
 |cons a r ih =>
  have d:zgP (a :: r)=a.cs++zgP r:=rfl;rw [d];cases k with
  |zero =>
   simp at h;subst h;exact⟨rfl,rfl,rfl⟩
  |succ k =>
   simp only [List.getElem?_cons_succ] at h;obtain⟨h1,f,h3⟩:=ih h;have b:a.cs.length=3:=rfl;refine⟨?_,?_,?_⟩
   ·rw [eN oM,b,show (k+1)*3 - 3=k*3 by omega];exact h1
   ·rw [eN oM,b,show (k+1)*3+1 - 3=k*3+1 by omega];exact f
   ·rw [eN oM,b,show (k+1)*3+2 - 3=k*3+2 by omega];exact h3
def Ent.ok (e:Ent) (W:World) (R:Nat):Prop:=zcy W R e.A e.n e.s∧e.n<=50000∧e.n<=e.c
structure Sld (w0 W:World) (R M:Nat) (v:Value) (l:List Ent):Prop where
 own:W.ownsRow w0.heap.size 38 3 v l.length (zgP l)
 ent:∀ e∈l,e.ok W R
 rd:Rd W R M
 dr:Dr R w0 W
 hR:R<w0.heap.size
theorem own_sys {size:Nat}  {xs:List Value}(h:w.ownsRow base 38 size v n xs) (hk:v.ownBlock=some k):∀ cs,w.heap[k]?≠some (.cells cs 117 (0,0)):=by
 rcases h.2 with ⟨rfl,_⟩|⟨g,a,b,rfl,_,c,_⟩
 ·simp [Value.ownBlock] at hk
 ·have:g=k:=by simpa [Value.ownBlock] using hk
  subst this;intro cs e;rw [c] at e;injection e with e
  injection e with _ e2
  exact absurd e2 dM
section
variable {w0 W W':World} {R M N:Nat} {v:Value} {l:List Ent}
theorem Ent.ok.dr {e:Ent}(h:e.ok W R)(hd:Dr R W W'):e.ok W' R:=⟨h.1.dr hd,h.2⟩
theorem Sld.drawn (h:Sld w0 W R M v l)(hd:Dr R W W')(hr:Rd W' R N):Sld w0 W' R N v l:=
 ⟨zaF h.own hd (fun b h1 e=>oH h.hR),fun e he=>(h.ent e he).dr hd,hr,h.dr.trans hd,h.hR⟩
theorem Sld.ext (h:Sld w0 W R M v l)(hx:Ext W W'):Sld w0 W' R M v l:=h.drawn hx.dr (h.rd.ext hx)
theorem Sld.more (h:Sld w0 W R M v l)(hM:M<=N):Sld w0 W R N v l:={ h with rd:=h.rd.more hM }
theorem Sld.less (h:Sld w0 W R M v l)(hd:Dr R w1 w0)(hR:R<w1.heap.size):Sld w1 W R M v l:=
 ⟨zq h.own hd.size,h.ent,h.rd,hd.trans h.dr,hR⟩
theorem Sld.grown (h:Sld w0 W R M v l)(hg:W.grownBy W' v.ownBlock):(∀ e:Ent,e.ok W R->e.ok W' R)∧Dr R w0 W'∧Rd W' R M:=by
 have a:=h.hR;refine⟨fun e he=>⟨he.1.frm (fV hg) (fun k hk _=>own_sys h.own hk),he.2⟩,h.dr.grown hg (fun k hk=>(h.own.lt k hk).1),h.rd.frm (fV hg) (fun k hk hS=>by have:=(h.own.lt k hS).1;omega)⟩
theorem Sld.push {e:Ent} (h:Sld w0 W R M v l)(he:e.ok W R)
  (zkf:W'.ownsRow w0.heap.size 38 3 (.slice (some g) (l.length+1) cap) (l.length+1) (zgP l++e.cs)) (hg:W.grownBy W' v.ownBlock) :
  Sld w0 W' R M (.slice (some g) (l.length+1) cap) (l++[e]):=by
 obtain⟨h1,b,h3⟩:=h.grown hg;refine⟨by rw [entC_snoc,eK,List.length_singleton];exact zkf,fun x a=>?_,h3,b,h.hR⟩;rcases List.mem_append.1 a with a|a
 ·exact h1 x (h.ent x a)
 ·rw [List.mem_singleton] at a;subst a;exact h1 _ he
theorem Sld.sl (h:Sld w0 W R M (.slice A n c) l)(hn:n=l.length):zdG W (R+1) W.heap.size A n (l.map Ent.s):=by
 have b:=h.own;rw [← hn] at b;have f:=eW b;refine⟨by simpa using hn,zgP l,f.more (oH h.hR) (dI _),fun k s hs=>?_⟩;rw [List.getElem?_map,Option.map_eq_some_iff] at hs;obtain⟨e,a,rfl⟩:=hs;obtain⟨h1,d,h3⟩:=zjx a;exact⟨e.A,e.n,e.c,h1,d,h3,(h.ent e (dG a)).1.at_⟩
end
theorem Sld.nil (hr:Rd W R M)(hd:Dr R w0 W)(hR:R<w0.heap.size):Sld w0 (W.alloc (.cells #[] 38)) R M (.slice (some W.heap.size) 0 0) []:=
 ⟨zq (World.ownsRow_lit W #[] 0 (dI _) lM rfl) hd.size,fun _ h=>by simp at h,hr.ext ((dE _).alloc _),hd.alloc _,hR⟩
theorem Sld.three {a b c:Ent}(hr:Rd W R M)(hd:Dr R w0 W)(hR:R<w0.heap.size)(ha:a.ok W R)(hb:b.ok W R)(hc:c.ok W R) :
  Sld w0 (W.alloc (.cells #[a.s.al,a.s.st,.slice a.A a.n a.c,b.s.al,b.s.st,.slice b.A b.n b.c,c.s.al,c.s.st,.slice c.A c.n c.c] 38)) R M (.slice (some W.heap.size) 3 3) [a,b,c]:=by
 have d:=(dE W).alloc (.cells #[a.s.al,a.s.st,.slice a.A a.n a.c,b.s.al,b.s.st,.slice b.A b.n b.c,c.s.al,c.s.st,.slice c.A c.n c.c] 38);refine⟨zq (World.ownsRow_lit W _ 3 (dI _) lM rfl) hd.size,fun e he=>?_,hr.ext d,hd.alloc _,hR⟩;simp only [List.mem_cons,List.not_mem_nil,or_false] at he;rcases he with rfl|rfl|rfl
 ·exact ha.dr d.dr
 ·exact hb.dr d.dr
 ·exact hc.dr d.dr
theorem pickA (h:1<=(p:Int)->(x:Int)<p)(h0:(p:Int)<1->x=0):x<p+1:=by
 rcases Nat.lt_or_ge 0 p with h1|h1
 ·have:=h oM;omega
 ·have:=h0 oM;omega
theorem e_filledA {M' E y:Nat} {w4:World}(hb:Blk w4 E 117 #[(0:Int),(0:Int),(0:Int)])(hr:Rd w4 R M')(hd:Dr R w2 w4)(hE:w2.heap.size<=E)(hR:R<w2.heap.size)(hx:x<p+1)(hy:y<p+1)(hM:M'<=M) :
  ∃ E' x' y':Nat,Value.pointer (some E)=.pointer (some E')∧x'<p+1∧y'<p+1∧w2.heap.size<=E'∧Blk (((w4.setCell E x).setCell ⟨E,1,none⟩ (0:Int)).setCell ⟨E,2,none⟩ y) E' 117 #[x',(0:Int),y']∧Rd (((w4.setCell E x).setCell ⟨E,1,none⟩ (0:Int)).setCell ⟨E,2,none⟩ y) R M∧Dr R w2 (((w4.setCell E x).setCell ⟨E,1,none⟩ (0:Int)).setCell ⟨E,2,none⟩ y):=by
 have a:=zdm w4 E (.int .i64 x) (.int .i64 0) (.int .i64 y);refine⟨E,x,y,rfl,oM,oM,hE,by simpa using ((hb.ab 0 (.int .i64 x)).ab 1 (.int .i64 0)).ab 2 (.int .i64 y),(hr.frm a (fun k h1 h2=>oM)).more hM,?_⟩;exact ((hd.ag (p:=⟨E,0,none⟩) hE _).ag (p:=⟨E,1,none⟩) hE _).ag (p:=⟨E,2,none⟩) hE _
theorem ziA (h:Rd w R M)(hM:M<=900000000)(hs:zcy w R A n ⟨a,p,es⟩)(ha:a<64)(hp:p<=16)(hfew:Few (p+1) es)(hn:n<=L)(hL:L<=100000) :
  Calls Tryz.prog 182 #[.pointer (some R),.agg #[a,p,.slice A n c]] w (RetA R (M+10) (L+1) w):=by
 have hRl:=h.lt;have a5:=hs.at_.2;have bX:=za hs.1;have aR:=za hfew;have bu:Sm a:=tM;obtain⟨w1,U0⟩:∃ x,Hid (((w.alloc (.cells #[a,p,.slice A n c] 38)).alloc (.cells #[(0:Int),(0:Int),()] 38)).alloc (.cells #[a,p,()] 38)=x):=⟨_,za rfl⟩;have ba:Ext w w1:=((((dE _).alloc _).alloc _).alloc _).trans (gO U0.out);obtain⟨bS,bZ,bG⟩:=zU (gO U0.out);have aP:=za bS;have aQ:=za bZ;have am:=za bG;have an:=za ba;clear bS bZ bG ba hs hfew
 go_enter Tryz.func182,Tryz.ntmps182
 go_wp2_with fail
 rw [U0.out] at *;refine (zH (h.ext an.out) oM).mono ?_;rintro e S ⟨T,rfl,-,-,Q,af⟩;have b5:=am.out.lt;have aw:=aP.out.dr af oM;have aX:=aQ.out.dr af oM;have ar:=am.out.dr af oM;have a8:=an.out.dr.trans af;have cS:∀ W,Dr R S W->∀ q,W.cell? ⟨w.heap.size,q,none⟩=#[Value.int .i64 a,.int .i64 p,.slice A n c][q]?:=fun W hW=>(aw.dr hW oM).cell;go_upto_region 3 with fail
 go_cut [7] (fun s7 wx=>∃ E x y:Nat,s7=.pointer (some E)∧x<p+1∧y<p+1∧S.heap.size<=E∧Blk wx E 117 #[x,(0:Int),y]∧Rd wx R (M+3)∧Dr R S wx)
 case first =>
  refine tR (fun X=>Dr R S X) [10] (Ord.app [0,1,2,4,5,6] (Ord.two 3 (Ord.two 7 (Ord.of [8,9,10]) 9 (Ord.of [7,8,10])) 9 (Ord.of [3,7,8,10]))) ?_;refine tQ ?_;refine zgf (fun K hK=>?_) (fun K hK=>?_)
  ·go_simp;refine (zH (n:=p) (Q.ext ((dE _).drew)) oM).mono ?_;rintro e w3 ⟨x,rfl,hx,aL,I,C⟩;have o:Dr R S w3:=((Dr.refl R S).drew).trans C;refine hK.out _ _ o ?_;refine pT ?_;refine zgf (fun K hK=>?_) (fun K hK=>?_)
   ·go_simp;refine (zH (n:=p) I oM).mono ?_;rintro e w4 ⟨y,rfl,hy,ag,hr4,hd4⟩;have f:=o.trans hd4;refine hK.out _ _ f ?_;refine pT ?_;refine tQ ?_;refine zI fun K hK=>?_;go_simp;refine hK.out _ _ (f.alloc _) ?_;refine pT ?_;refine tQ ?_;refine zab fun K hK=>?_;go_simp;refine hK.out _ _ ?_;refine zaD ?_;go_wp2_with fail
    go_meet;exact⟨w4.heap.size,x,y,rfl,oM,oM,f.size,eX _ _ _,hr4.ext ((dE _).alloc _),f.alloc _⟩
   ·go_simp;have bc:=(dE w3).alloc (.cells #[(0:Int),(0:Int),(0:Int)] 117);have U:=o.ext bc;have a7:=I.ext bc;have a0:=I.lt;refine hK.out _ _ U ?_;generalize U0:w3.alloc _=ca at *;have aF:=eS U0;clear U0;refine pT ?_;refine zI fun K hK=>?_;go_simp;refine (zH (n:=p) a7 oM).mono ?_;rintro e w4 ⟨y,rfl,hy,ag,hr4,hd4⟩;have f:=U.trans hd4;have O:=aF.dr hd4 oM;refine hK.out _ _ f ?_;refine pT ?_;refine tQ ?_;have cE:=O.cell;have fE:=O.frozen;refine zab fun K hK=>?_;go_simp;refine hK.out _ _ ?_;refine zaD ?_;go_wp2_with fail
    go_meet;exact e_filledA O hr4 f o.size Q.lt (pickA hx aL) (pickA hy ag) oM
  ·go_simp;have bb:=((dE S).alloc (.cells #[(0:Int),(0:Int),(0:Int)] 117)).drew;have bo:Blk (S.alloc (.cells #[(0:Int),(0:Int),(0:Int)] 117)).drew S.heap.size 117 #[.int .i64 0,.int .i64 0,.int .i64 0]:=eX S _ _;have a6:=Q.ext bb;have a0:=Q.lt;have ai:Dr R S (S.alloc (.cells #[(0:Int),(0:Int),(0:Int)] 117)).drew:=bb.dr;refine hK.out _ _ ai ?_;generalize (S.alloc (.cells #[(0:Int),(0:Int),(0:Int)] 117)).drew=b9 at *;refine pT ?_;refine zI fun K hK=>?_;go_simp;refine (zH (n:=p) a6 oM).mono ?_;rintro e w3 ⟨x,rfl,hx,aL,I,C⟩;have o:=ai.trans C;have aF:=bo.dr C oM;refine hK.out _ _ o ?_;refine pT ?_;refine zI fun K hK=>?_;go_simp;refine (zH (n:=p) I oM).mono ?_;rintro e w4 ⟨y,rfl,hy,ag,hr4,hd4⟩;have f:=o.trans hd4;have O:=aF.dr hd4 oM;refine hK.out _ _ f ?_;refine pT ?_;refine tQ ?_;have cE:=O.cell;have fE:=O.frozen;refine zab fun K hK=>?_;go_simp;refine hK.out _ _ ?_;refine zaD ?_;go_wp2_with fail
   go_meet;exact e_filledA O hr4 f (dI _) a0 (pickA hx aL) (pickA hy ag) oM
 case rest =>
  obtain⟨E,x,y,rfl,hx,hy,hE,aG,I,C⟩:=hcut;have a9:=a8.trans C;have ax:=aw.dr C oM;have aY:=aX.dr C oM;have aU:=ar.dr C oM;have b6:=ar.lt;clear cS;have cS:=ax.cell;go_wp2_with fail
  refine (zah a bu _).mono ?_;rintro e w4 ⟨B,d,rfl,V,J⟩;have aI:=a9.ext J;have ay:=ax.ext J;have aA:=aY.ext J;have au:=aU.ext J;have ao:=aG.ext J;have hr4:=I.ext J;have bR:=aG.lt;have bq:=zA a 6;have a4:=za (fun k (hk:k∈letters a 6)=>(zef.1 hk).1);have aj:=(eW V);have bM:=C.size;have bN:=J.size;have bU:=Q.lt;clear cS V J ax aY aU aG I a9 aP aQ am an aw aX ar a8 Q;generalize letters a 6=ls at *;go_upto_region 5 with fail
  go_cut [9] (fun s9 wx=>∃ b:Bool,s9=.bool b∧(b=true->0<ls.length)∧Rd wx R (M+4)∧Dr R w4 wx)
  case first =>
   by_cases hl:0<ls.length
   ·go_wp2_with fail
    refine (zH hr4 oM).mono ?_;rintro e w5 ⟨z,rfl,-,-,Y,H⟩;go_wp2_with fail
    go_meet;exact⟨_,rfl,fun _=>hl,Y,H⟩
   ·go_wp2_with fail
    go_meet;exact⟨false,rfl,fun h=>by (first|cases h|omega),hr4.more oM,Dr.refl _ _⟩
  case rest =>
   obtain⟨b,rfl,aH,Y,H⟩:=hcut;go_upto_if 42 with fail
   go_cut [] (fun wx=>∃ l:Nat,l<6∧Blk wx E 117 #[x,l,y]∧Blk wx w.heap.size 38 #[a,p,.slice A n c]∧Blk wx (w.heap.size+1) 38 #[(0:Int),(0:Int),()]∧Blk wx (w.heap.size+1+1) 38 #[a,p,()]∧Rd wx R (M+5)∧Dr R w wx)
   case first =>
    have az:=ay.dr H oM;have aB:=aA.dr H oM;have av:=au.dr H oM;have ap:=ao.dr H oM;have aJ:=aI.trans H;clear ay aA au ao aI hr4;cases b
    ·go_wp2_with fail
     go_meet;exact⟨0,oM,ap,az,aB,av,Y.more oM,aJ⟩
    ·have b1:=aH rfl;have bp:(1:Int)<=(ls.length:Int):=oM;clear aH;go_wp2_with fail
     refine (zH Y oM).mono ?_;rintro e w6 ⟨z,rfl,hz,-,hr6,hd6⟩;have b7:=hz bp;have be:z<ls.length:=oM;obtain⟨ad,l,rfl,_,_,hl,b2⟩:=((aj.dr H oM).dr hd6 oM).nat be;have a3:=a4.out l (dG hl.out);have bl:=az.dr hd6 oM;have bm:=aB.dr hd6 oM;have bk:=av.dr hd6 oM;have aq:=ap.dr hd6 oM;have bw:=aJ.trans hd6;have cE:=aq.cell;have fE:=aq.frozen;have hf:=eB w6 E 1 (.int .i64 (l:Nat));clear hz az aB av ap aJ;go_wp2_with fail
     go_meet;exact⟨l,a3,by simpa using aq.ab 1 (.int .i64 (l:Nat)),bl.frm hf oM,bm.frm hf oM,bk.frm hf oM,(hr6.frm hf (fun k h1 h2=>oM)),bw.ag (by dsimp only;omega) _⟩
   case rest =>
    obtain⟨l,hl,bE,bS,bZ,bG,bt,a1⟩:=hcut;clear ay aA au ao aI hr4 H Y a4 aj bq aH;obtain⟨wB,bx⟩:∃ wB,wB=wc:=⟨_,rfl⟩;subst bx;have zkg:Acc w wB wB R (w.heap.size+1+1) (M+5) a p (.slice none 0 0) []:=⟨bG,World.ownsRow_nil _ _ _ _,bt,a1,Frm.refl _ _,hRl,a1.size,oM⟩;have bT:=bE.lt;have bV:=bG.lt;clear bG;go_wp2_with fail
    go_loopw [9,10] (fun v i wr=>∃ (b:Bool) (k:Nat),k<=n∧i=.int .i64 k∧v=.bool b∧∃ (u:Value) (j:List Edg),Acc w wB wr R (w.heap.size+1+1) (M+5) a p u j∧j.length+b.toNat<=k+1∧Hid (Few (p+1) j)) (fun _ i _=>n - (intOf i).toNat)
    case atStart=>exact⟨b,0,eC _,rfl,rfl,_,[],zkg,by cases b<;>decide,few_nil (p+1)⟩
    case round =>
     clear zkg;obtain⟨b,k,hk,rfl,rfl,u,j,zkg,m,D⟩:=hrel;have G:=bS.frm zkg.fr oM;have r:=bE.frm zkg.fr oM;have cS:=G.cell;have ak:(0<=(x:Int)∧(x:Int)<((p+1:Nat):Int))∧(0<=(l:Int)∧(l:Int)<6)∧(0<=(y:Int)∧(y:Int)<((p+1:Nat):Int)):=oM
     by_cases hlt:k<n
     ·obtain⟨b0,o0,t,rfl,b3,bY,he,c0,c1,c2⟩:=(a5.dr zkg.dr oM).edge hlt;have a2:=za (aR.out t (dG he.out));go_upto_region 11 with fail
      clear cS
      go_cut [67] (fun s wx=>∃ q:Bool,s=.bool q∧(q=true->b=true)∧Ext wr wx)
      case first =>
       have cS:=G.cells;have cE:=r.cells;have C0:∀ W,Ext wr W->W.cell? ⟨b0,o0+k*3,none⟩=some (.int .i64 t.fr):=fun W hW=>hW.aa c0;have C1:∀ W,Ext wr W->W.cell? ⟨b0,o0+k*3+1,none⟩=some (.int .i64 t.le):=fun W hW=>hW.aa c1;have C2:∀ W,Ext wr W->W.cell? ⟨b0,o0+k*3+2,none⟩=some (.int .i64 t.ta):=fun W hW=>hW.aa c2;have bA:=dE wr;cases b
       ·go_wp2_with fail
        go_quiet (fail)
        go_wp2_with fail
        go_meet;exact⟨false,rfl,fun h=>h,(dE _).drewN _⟩
       ·go_wp2_with fail
        go_region_held3 (fun W=>Ext wr W) (first|assumption|(refine Ext.drew ?_;assumption)|(refine Ext.trans ?_ aM;assumption)|(refine Ext.trans ?_ aM;refine Ext.drew ?_;assumption)) ((go_at_call 261;refine (zem (a:=⟨x,l,y⟩) (b:=t)).mono (mQ fun w5 b4=>?_)))
        go_wp2_with fail
        go_meet;exact⟨_,rfl,fun _=>by trivial,aM⟩
      case rest =>
       obtain⟨q,rfl,hq,F⟩:=hcut;replace zkg:=zkg.ext F;replace r:=r.ext F;go_upto_if 67 with fail
       go_cut [9] (fun s9 wx=>∃ (b:Bool) (u:Value) (j:List Edg),s9=.bool b∧Acc w wB wx R (w.heap.size+1+1) (M+5) a p u j∧j.length+b.toNat<=k+1∧Hid (Few (p+1) j))
       case first =>
        cases q
        ·go_wp2_with fail
         go_meet;exact⟨b,u,j,rfl,zkg,m,D⟩
        ·obtain rfl:=hq rfl;have cG:=zkg.blk.cell;have cE:=r.cell;simp only [Bool.toNat_true] at m;clear hq;go_wp2_with (at_builtin;refine zW wB _ rfl _ _ _ rfl 117 _ 3 24 Tryz.underlying36 zaV rfl dM u j.length (zn j) _ _ rfl rfl zkg.fr.size zkg.own rfl (by simp [Value.oneCell']) lM oM ?_;intro g cap w3 zkq hg3 hat3 hlt3;obtain⟨h1,h2,h3⟩:=zkg.push (e:=⟨x,l,y⟩) zkq hg3 hat3;have h1':=h1.out)
         go_meet;exact⟨false,_,_,rfl,h3,by simp;omega,zhd D.out ak⟩
       case rest =>
        clear zkg m D G r c0 c1 c2 F hq;obtain⟨b,u,j,rfl,zkg,m,D⟩:=hcut;obtain⟨wr,aK⟩:∃ wr,wr=wc:=⟨_,rfl⟩;subst aK;have G:=bS.frm zkg.fr oM;have r:=bE.frm zkg.fr oM;obtain⟨c0,c1,c2⟩:=(a5.dr zkg.dr oM).edge2 he.out;go_upto_region 14 with fail
        go_cut [83] (fun s wx=>∃ q:Bool,s=.bool q∧Ext wr wx)
        case first =>
         have cS:=G.cells;have cE:=r.cells;have C0:∀ W,Ext wr W->W.cell? ⟨b0,o0+k*3,none⟩=some (.int .i64 t.fr):=fun W hW=>hW.aa c0;have C1:∀ W,Ext wr W->W.cell? ⟨b0,o0+k*3+1,none⟩=some (.int .i64 t.le):=fun W hW=>hW.aa c1;have C2:∀ W,Ext wr W->W.cell? ⟨b0,o0+k*3+2,none⟩=some (.int .i64 t.ta):=fun W hW=>hW.aa c2;have bA:=dE wr;cases b
         ·go_wp2_with fail
          go_quiet (fail)
          go_wp2_with fail
          go_meet;exact⟨false,rfl,(dE _).drewN _⟩
         ·go_wp2_with fail
          refine sR (fun X=>Ext wr X) [0,1,2,3,4,5,6,7,8,9] (fun hS=>?_);refine sQ ?_;have HE:=eq_edge (x:Int) (l:Int) (y:Int) t.fr t.le t.ta;refine seq_read (v:=.bool (((x:Int)==t.fr)&&(((l:Int)==t.le)&&((y:Int)==t.ta)))) rfl rfl rfl (fun X hX=>?_) aM ?_
          ·go_simp
          ·clear HE;refine pT ?_;generalize (((x:Int)==t.fr)&&(((l:Int)==t.le)&&((y:Int)==t.ta)))=q;refine sQ ?_;refine zcI ?_;go_wp2_with fail
           go_meet;exact⟨_,rfl,(dE _).drew⟩
        case rest =>
         obtain⟨q,rfl,F⟩:=hcut;replace zkg:=zkg.ext F;replace G:=G.ext F;replace c0:=F.aa c0;replace c1:=F.aa c1;replace c2:=F.aa c2;clear r F;go_upto_if 83 with fail
         go_cut [9] (fun s9 wx=>∃ b':Bool,s9=.bool b'∧b'.toNat<=b.toNat∧wc=wx)
         case first =>
          cases q
          ·go_wp2_with fail
           go_meet;exact⟨b,rfl,dI _,rfl⟩
          ·go_wp2_with fail
           go_meet;exact⟨false,rfl,eC _,rfl⟩
         case rest =>
          obtain⟨b',rfl,bW,bz⟩:=hcut;subst bz
          by_cases hgo:k=T
          ·have br:((k:Int) != (T:Int))=false:=by simp [hgo]
           have bP:=za hgo;clear hgo;go_wp2_with fail
           go_roundw
           case rel=>exact⟨b',k+1,oM,gM,rfl,u,j,zkg,oM,D⟩
           case measure=>simp [intOf];omega
          ·have br:((k:Int) != (T:Int))=true:=by simp;omega
           clear hgo;obtain⟨wr,aK⟩:∃ wr,wr=wc:=⟨_,rfl⟩;subst aK;have cS:=G.cells;have cG:=fun W (hW:Ext wr W)=>(zkg.blk.ext hW).cell;have C0:∀ W,Ext wr W->W.cell? ⟨b0,o0+k*3,none⟩=some (.int .i64 t.fr):=fun W hW=>hW.aa c0;have C1:∀ W,Ext wr W->W.cell? ⟨b0,o0+k*3+1,none⟩=some (.int .i64 t.le):=fun W hW=>hW.aa c1;have C2:∀ W,Ext wr W->W.cell? ⟨b0,o0+k*3+2,none⟩=some (.int .i64 t.ta):=fun W hW=>hW.aa c2;go_wp2_with fail
           refine tR (fun X=>Ext wr X) [8,10] (Ord.of [0,1,2,3,4,5,6,7,8,9,10]) ?_;refine tQ ?_;refine zI fun K hK=>?_;go_simp;refine hK.out _ _ ((dE _).drew.alloc _) ?_;refine pT ?_;refine zab fun K hK=>?_;refine zaH wB wr.drew _ _ _ rfl 117 _ 3 24 Tryz.underlying36 zaV rfl dM u j.length (zn j) _ _ rfl rfl zkg.fr.size zkg.own rfl (by simp [Value.oneCell']) lM oM ?_;intro g cap w3 zkq hg3 hat3 hlt3;refine hK.out _ _ ?_;refine pT ?_;refine tQ ?_;obtain⟨h1,h2,h3⟩:=(zkg.ext ((dE _).drew)).push (e:=t) (W':=w3) zkq hg3 hat3;have h1':=h1.out;refine zab fun K hK=>?_;go_simp;refine hK.out _ _ ?_;refine zaD ?_;go_wp2_with fail
           go_roundw
           case rel=>exact⟨b',k+1,oM,gM,rfl,_,_,h3,by simp;omega,zhd D.out a2.out⟩
           case measure=>simp [intOf];omega
     ·obtain rfl:k=n:=oM;go_upto_if 97 with fail
      go_cut [] (fun wx=>∃ (u:Value) (j:List Edg),Acc w wB wx R (w.heap.size+1+1) (M+5) a p u j∧j.length<=k+1∧Hid (Few (p+1) j))
      case first =>
       cases b
       ·go_wp2_with fail
        go_meet;exact⟨u,j,zkg,by simpa using m,D⟩
       ·have cG:=zkg.blk.cell;have cE:=r.cell;simp only [Bool.toNat_true] at m;go_wp2_with (at_builtin;refine zW wB _ rfl _ _ _ rfl 117 _ 3 24 Tryz.underlying36 zaV rfl dM u j.length (zn j) _ _ rfl rfl zkg.fr.size zkg.own rfl (by simp [Value.oneCell']) lM oM ?_;intro g cap w3 zkq hg3 hat3 hlt3;obtain⟨h1,h2,h3⟩:=zkg.push (e:=⟨x,l,y⟩) zkq hg3 hat3;have h1':=h1.out)
        go_meet;exact⟨_,_,h3,by simp;omega,zhd D.out ak⟩
      case rest =>
       clear zkg m D cS G r;obtain⟨u,j,zkg,m,D⟩:=hcut;obtain⟨A',n',c',rfl⟩:=zkg.form;obtain⟨rfl,_⟩:=zkg.reads;have bI:=zjJ zkg.own;have cG:=zkg.blk.cell;have aZ:=bZ.frm zkg.fr oM;have cz:=aZ.cell;have b8:=bZ.lt;have fz:=aZ.frozen;obtain⟨f1,f2,f3⟩:=zkg.fin (Z:=w.heap.size+1) oM oM (.int .i64 a) (.int .i64 p) (.slice A' j.length c');have aS:=za (show RetA R (M+10) (L+1) w (.returned (.agg #[a,p,.slice A' j.length c'])) _ from ⟨⟨a,p,j⟩,A',j.length,c',rfl,f1,oM,f2.more oM,f3⟩);clear f1 f2 f3;go_wp2_with fail
       exact bodyPost_ret (v:=.agg #[a,p,.slice A' j.length c']) (by simp [results,Tryz.results182,go_sem,cz]) rfl aS.out
theorem ziB (h:Rd w R M)(hM:M<=900000000)(hs:zcy w R A n s)(hf:Fair s)(hn:n<=L)(hL:L<=100000) :
  Calls Tryz.prog 182 #[.pointer (some R),.agg #[s.al,s.st,.slice A n c]] w (RetA R (M+10) (L+1) w):=by
 obtain⟨al,st,g⟩:=s;obtain⟨a,p,h1,d,h3,f,b⟩:=hf;simp only at h1 h3 b;subst h1;subst h3;exact ziA h hM hs d f b hn hL
def TextsAt (W:World) (base g n:Nat):Prop:=
 ∀ k<n,∃ (b:Nat) (l:List ByteArray),W.cell? ⟨g,k,none⟩=some (.slice (some b) 4 4)∧l.length=4∧(∀ x∈l,x.size<=40)∧W.ownsRow base 9 1 (.slice (some b) 4 4) 4 (zM l)
def RetTLL (w:World) (e:Ending) (w':World):Prop:=∃ g,e=.returned (.slice (some ⟨g,0,none⟩) 5 5)∧w.heap.size<=g∧TextsAt w' w.heap.size g 5∧Ext w w'
theorem lit5 (w:World) {u1 u2 u3 u4 u5:Array Value}
  (h1:zM (u1.toList.map zgY)=u1.toList) (h2:zM (u2.toList.map zgY)=u2.toList) (h3:zM (u3.toList.map zgY)=u3.toList) (h4:zM (u4.toList.map zgY)=u4.toList) (h5:zM (u5.toList.map zgY)=u5.toList)
  (k1:u1.size=4) (k2:u2.size=4) (k3:u3.size=4) (k4:u4.size=4) (k5:u5.size=4)
  (b1:∀ x∈u1.toList.map zgY,x.size<=40) (b2:∀ x∈u2.toList.map zgY,x.size<=40) (b3:∀ x∈u3.toList.map zgY,x.size<=40) (b4:∀ x∈u4.toList.map zgY,x.size<=40) (b5:∀ x∈u5.toList.map zgY,x.size<=40) :
  RetTLL w (.returned (.slice (some ⟨w.heap.size+5,0,none⟩) 5 5)) ((((((w.alloc (.cells u1 9)).alloc (.cells u2 9)).alloc (.cells u3 9)).alloc (.cells u4 9)).alloc (.cells u5 9)).alloc (.cells #[.slice (some w.heap.size) 4 4,.slice (some ⟨w.heap.size+1,0,none⟩) 4 4,.slice (some ⟨w.heap.size+2,0,none⟩) 4 4,.slice (some ⟨w.heap.size+3,0,none⟩) 4 4,.slice (some ⟨w.heap.size+4,0,none⟩) 4 4] 88)):=by
 have u:=zeQ w h1 k1 oM;have y:=(dE w).alloc (.cells u1 9);have p:(w.alloc (.cells u1 9)).heap.size=w.heap.size+1:=sM;generalize w.alloc (.cells u1 9)=w1 at *;have l:=zeQ w1 h2 k2 oM;have t:=(dE w1).alloc (.cells u2 9);have q:(w1.alloc (.cells u2 9)).heap.size=w.heap.size+2:=by simp [p]
 rw [p] at l;generalize w1.alloc (.cells u2 9)=d at *;have m:=zeQ d h3 k3 oM;have j:=(dE d).alloc (.cells u3 9);have r:(d.alloc (.cells u3 9)).heap.size=w.heap.size+3:=by simp [q]
 rw [q] at m;generalize d.alloc (.cells u3 9)=f at *;have n:=zeQ f h4 k4 oM;have g:=(dE f).alloc (.cells u4 9);have s:(f.alloc (.cells u4 9)).heap.size=w.heap.size+4:=by simp [r]
 rw [r] at n;generalize f.alloc (.cells u4 9)=w4 at *;have o:=zeQ w4 h5 k5 oM;have c:=(dE w4).alloc (.cells u5 9);have v:(w4.alloc (.cells u5 9)).heap.size=w.heap.size+5:=by simp [s]
 rw [s] at o;generalize w4.alloc (.cells u5 9)=i at *;have a:=eX i 88 #[.slice (some w.heap.size) 4 4,.slice (some ⟨w.heap.size+1,0,none⟩) 4 4,.slice (some ⟨w.heap.size+2,0,none⟩) 4 4,.slice (some ⟨w.heap.size+3,0,none⟩) 4 4,.slice (some ⟨w.heap.size+4,0,none⟩) 4 4];have b:=(dE i).alloc (.cells #[.slice (some w.heap.size) 4 4,.slice (some ⟨w.heap.size+1,0,none⟩) 4 4,.slice (some ⟨w.heap.size+2,0,none⟩) 4 4,.slice (some ⟨w.heap.size+3,0,none⟩) 4 4,.slice (some ⟨w.heap.size+4,0,none⟩) 4 4] 88);rw [v] at a;generalize i.alloc _=z at *;refine⟨_,rfl,oM,fun k hk=>?_,((((y.trans t).trans j).trans g).trans c).trans b⟩;have h:k=0∨k=1∨k=2∨k=3∨k=4:=oM;rcases h with rfl|rfl|rfl|rfl|rfl
 ·exact⟨_,_,a.cell 0,by simp [k1],b1,zh u ((((t.trans j).trans g).trans c).trans b)⟩
 ·exact⟨_,_,a.cell 1,by simp [k2],b2,zq (zh l (((j.trans g).trans c).trans b)) oM⟩
 ·exact⟨_,_,a.cell 2,by simp [k3],b3,zq (zh m ((g.trans c).trans b)) oM⟩
 ·exact⟨_,_,a.cell 3,by simp [k4],b4,zq (zh n (c.trans b)) oM⟩
 ·exact⟨_,_,a.cell 4,by simp [k5],b5,zq (zh o b) oM⟩
theorem zjS :Calls Tryz.prog 204 #[] w (RetTLL w):=by
 go_enter Tryz.func204,Tryz.ntmps204
 go_wp2_with fail
 go_ret;exact lit5 w rfl rfl rfl rfl rfl rfl rfl rfl rfl rfl (by decide +kernel) (by decide +kernel) (by decide +kernel) (by decide +kernel) (by decide +kernel)
end Go.Proofs.YtckbjnndaaoddaaGreatDoor
