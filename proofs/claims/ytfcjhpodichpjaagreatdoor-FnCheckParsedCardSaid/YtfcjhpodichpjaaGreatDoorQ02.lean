/- The referenc -/
import Derived.IntWalk
import Derived.Test.YtfcjhpodichpjaaGreatDoorQ01
import Derived.Laws.BytesArg
import Derived.StillTailTactics
import Derived.Deep.DeepCutAuto
import Derived.Lib.SliceRun
set_option maxHeartbeats 4000000
set_option maxRecDepth 100000
namespace Go.Proofs.YtfcjhpodichpjaaGreatDoor
open Go Go.RowKit
open Blk renaming new->dT
open Bool renaming and_eq_true->dF,eq_false_iff->eZ
open Ext renaming drew->eR,refl->cW,trans->eE
open Frm renaming setCell->dE
open Int renaming natCast_ediv->gV,natCast_emod->fR,toNat_natCast->eM
open List renaming all_eq_true->eG,getElem?_eq_getElem->dC,getElem?_map->dQ,getElem?_range->gH,getElem?_toArray->eF,mem_of_getElem?->cX,range->fI,take_add_one->dH,take_length->eC
open Nat renaming add_sub_cancel->fM,le_refl->cY,le_trans->dJ,lt_of_lt_of_le->eH,zero_le->dD
open Reads renaming af->dY
variable {A:Option Addr} {G M R Z b base c cap g hi i id k lo n size:Nat} {S:Nat->Prop} {W w w':World} {a:Act} {al st:Int} {cs:Array Value} {e:Edg} {es:List Edg} {l:List Int} {p:Addr} {s:Sys} {t:TypeId} {v:Value} {xs:List Value}
def Rd (w:World) (R M:Nat):Prop:=
 ∃ (A:Option Addr) (n c p:Nat),p<=M∧n<=2000∧Blk w R 89 #[.slice A n c,p]∧(0<n->∃ g o,A=some ⟨g,o,none⟩∧g<R∧∀ j,j<n->∃ b:Nat,b<256∧w.cell? ⟨g,o+j,none⟩=some (.int .u8 b))
def Dr (R:Nat) (w w':World):Prop:=Frm (fun k=>k=R) w w'
theorem Dr.refl (R:Nat) (w:World):Dr R w w:=Frm.refl _ _
theorem Dr.trans {a b c:World}(h:Dr R a b) (k:Dr R b c):Dr R a c:=Frm.trans h k
theorem Dr.ext {a b c:World}(h:Dr R a b) (k:Ext b c):Dr R a c:=Frm.ext h k
theorem Ext.dr {a b:World}(h:Ext a b):Dr R a b:=h.ai
theorem Dr.drew {a:World}(h:Dr R a w):Dr R a w.drew:=⟨h.os,h.tape,h.output,h.size,h.block⟩
theorem Dr.drewN {a:World}(h:Dr R a w) (n:Nat):Dr R a (w.drewN n):=⟨h.os,h.tape,h.output,h.size,h.block⟩
theorem Dr.alloc {a:World}(h:Dr R a w) (o:Obj):Dr R a (w.alloc o):=h.ext ((cW _).alloc _)
theorem Dr.ag {a:World}(h:Dr R a w) (hp:a.heap.size<=p.block) (u:Value):Dr R a (w.setCell p u):=
 ⟨h.os,h.tape,h.output,by simpa [World.setCell] using h.size,fun k hk hn=>(Below.heap_setCell _ _ _ _ oM).trans (h.block k hk hn)⟩
theorem Dr.grown {a:World} {row:Option Nat}(h:Dr R a w)(hg:w.grownBy w' row)(hr:∀ k,row=some k->a.heap.size<=k):Dr R a w':=
 ⟨hg.os.trans h.os,hg.tape.trans h.tape,hg.output.trans h.output,dJ h.size hg.size,
  fun k hk hn=>(hg.block k (eH hk h.size) (fun e=>by have:=hr k e.symm;omega)).trans (h.block k hk hn)⟩
theorem Blk.dr (h:Blk w g t cs)(hb:Dr R w w')(hg:g≠R):Blk w' g t cs:=h.frm hb hg
theorem Dr.aa (h:Dr R w w')  (hv:w.cell? p=some v)(hp:p.block≠R):w'.cell? p=some v:=
 (World.cell?_of_block (w:=w) (h.block _ (World.block_lt_of_cell? w p hv) hp)).trans hv
theorem Rd.ext (h:Rd w R M)(hb:Ext w w'):Rd w' R M:=by
 obtain⟨A,n,c,p,m,l,f,q⟩:=h;refine⟨A,n,c,p,m,l,f.ext hb,fun h0=>?_⟩;obtain⟨g,o,e,k,i⟩:=q h0;exact⟨g,o,e,k,fun j hj=>by obtain⟨b,a,d⟩:=i j hj;exact⟨b,a,hb.aa d⟩⟩
theorem Rd.more {N:Nat}(h:Rd w R M)(hM:M<=N):Rd w R N:=by
 obtain⟨A,n,c,p,a,r⟩:=h;exact⟨A,n,c,p,dJ a hM,r⟩
theorem Rd.lt (h:Rd w R M):R<w.heap.size:=by
 obtain⟨A,n,c,p,_,_,a,_⟩:=h;exact a.lt
theorem Rd.frm (h:Rd w R M)(hb:Frm S w w')(hS:∀ k,k<=R->¬ S k):Rd w' R M:=by
 obtain⟨A,n,c,p,q,m,f,r⟩:=h;refine⟨A,n,c,p,q,m,f.frm hb (hS R (cY _)),fun h0=>?_⟩;obtain⟨g,o,e,l,i⟩:=r h0;exact⟨g,o,e,l,fun j hj=>by
  obtain⟨b,d,a⟩:=i j hj;exact⟨b,d,(World.cell?_of_block (w:=w) (hb.block g (World.block_lt_of_cell? w _ a) (hS g oM))).trans a⟩⟩
def RetPick (R M:Nat) (n:Int) (w:World) (e:Ending) (w':World):Prop:=∃ k:Nat,e=.returned (.int .i64 k)∧(1<=n->(k:Int)<n)∧(n<1->k=0)∧Rd w' R (M+1)∧Dr R w w'
theorem bits_xor_nat {a:Nat}(ha:a<4611686018427387904)(hb:b<4611686018427387904):bits .xor .i64 (a:Int) (b:Int)=((a ^^^ b:Nat):Int):=by
 have c:a ^^^ b<2 ^ 62:=Nat.xor_lt_two_pow (by simpa using ha) (by simpa using hb);show IntKind.i64.wrap ((BitVec.ofInt 64 (a:Int) ^^^ BitVec.ofInt 64 (b:Int)).toNat:Int)=_;rw [BitVec.toNat_xor,zcM a oM,zcM b oM,IntKind.wrap_i64];omega
theorem zx {n:Int} (h:Rd w R M)(hM:M<=1000000000) :
  Calls Tryz.prog 36 #[.pointer (some R),n] w (RetPick R M n w):=by
 obtain⟨A,m,c,p,hp,hm,u,D⟩:=h;have c0:=u.cell 0;have c1:=u.cell 1;have f1:=u.frozen 1;have r:=u.ab 1 (.int .i64 ((p:Int)+1));have f:=dE w R 1 (.int .i64 ((p:Int)+1));have az:(p:Int)<=1000000000:=oM;have q:Hid (Rd (w.setCell ⟨R,1,none⟩ (.int .i64 ((p:Int)+1))) R (M+1)):=by
  refine za ⟨A,m,c,p+1,oM,hm,by simpa using r,fun h0=>?_⟩;obtain⟨g,o,e,U,G⟩:=D h0;exact⟨g,o,e,U,fun j hj=>by
   obtain⟨b,v,s⟩:=G j hj;exact⟨b,v,(World.cell?_of_block (w:=w) (f.block g (World.block_lt_of_cell? w _ s) (by show ¬ g=R;omega))).trans s⟩⟩
 simp only [eF,List.getElem?_cons_zero,List.getElem?_cons_succ] at c0 c1
 by_cases hn:n<1
 ·go_enter Tryz.func36,Tryz.ntmps36
  go_wp2;go_ret;exact⟨0,rfl,fun h=>oM,fun _=>rfl,q.out,f⟩
 ·by_cases h0:m=0
  ·subst h0
   go_enter Tryz.func36,Tryz.ntmps36
   go_wp2;go_ret;exact⟨0,rfl,fun h=>oM,fun _=>rfl,q.out,f⟩
  ·obtain⟨k,rfl⟩:∃ k:Nat,n=k:=⟨n.toNat,oM⟩;have av:(1:Int)<=(k:Int):=oM;obtain⟨g,o,rfl,U,G⟩:=D oM;have O:¬ g=R:=oM;have ax:(0:Int)<(m:Int):=oM;have ay:(m:Int)<=2000:=oM;have au:((m:Int)==0)=false:=by simp;omega
   have L:=za G;clear G D
   by_cases hpm:p<m
   ·obtain⟨b,hb,ar⟩:=L.out p hpm;have aq:(b:Int)<256:=oM;have C:(p:Int)<(m:Int):=oM;have d:=za (fR b k)
    go_enter Tryz.func36,Tryz.ntmps36
    go_wp2;go_ret;exact⟨b % k,zD d.out.symm,fun _=>by rw [d.out];exact Int.emod_lt_of_pos _ oM,fun h=>oM,q.out,f⟩
   ·have Q:p % m<m:=Nat.mod_lt _ oM;have S:(p*7+3) % m<m:=Nat.mod_lt _ oM;have aA:p / m<=p:=Nat.div_le_self _ _;obtain⟨i,v,z⟩:=L.out _ Q;obtain⟨l,s,B⟩:=L.out _ S;have H:(p:Int).tmod (m:Int)=((p % m:Nat):Int):=by rw [Int.tmod_eq_emod_of_nonneg oM];exact (fR p m).symm
    have I:((p:Int)*7+3).tmod (m:Int)=(((p*7+3) % m:Nat):Int):=by rw [Int.tmod_eq_emod_of_nonneg oM];rw [fR];rfl
    have J:(p:Int).tdiv (m:Int)=((p / m:Nat):Int):=by rw [Int.tdiv_eq_ediv_of_nonneg oM];exact (gV p m).symm
    have C:(m:Int)<=(p:Int):=oM;have t:∀ j,(w.setCell ⟨R,1,none⟩ (.int .i64 ((p:Int)+1))).cell? ⟨g,j,none⟩=w.cell? ⟨g,j,none⟩:=fun j=>by
     refine World.cell?_of_block ?_;exact Below.heap_setCell _ _ _ _ (fun h=>O h)
    have e1:=(t _).trans z;have e2:=(t _).trans B;have d0:(w.setCell ⟨R,1,none⟩ (.int .i64 ((p:Int)+1))).cell? R=some (.slice (some ⟨g,o,none⟩) m c):=by simpa using r.cell 0
    have T1:=za H;have T2:=za I;have T3:=za J;clear t z B H I J u r;generalize p % m=Y at *;generalize (p*7+3) % m=Z at *;generalize p / m=F at *;obtain⟨x,D⟩:∃ x:Nat,x=i*131+l*1117+p*29+F*53:=⟨_,rfl⟩;have aB:x<100000000000:=oM;obtain⟨y,X⟩:∃ y:Nat,Hid (x ^^^ (x / 64)=y):=⟨_,rfl⟩;have E:=za (show bits .xor .i64 (x:Int) ((x:Int) / 64)=(y:Int) by rw [← X.out];exact bits_xor_nat (a:=x) (b:=x / 64) oM oM);have aD:(y:Int)<1099511627776:=by
     have:x ^^^ (x / 64)<2 ^ 40:=Nat.xor_lt_two_pow oM oM;rw [X.out] at this;omega
    have d:=za (fR y k);have T:(i:Int)*131+(l:Int)*1117+(p:Int)*29+(F:Int)*53=(x:Int):=oM;have HX:=za T;clear D T
    go_enter Tryz.func36,Tryz.ntmps36
    go_wp2;generalize w.setCell ⟨R,1,none⟩ (.int .i64 ((p:Int)+1))=w1 at *;have H:=T1.out;have I:=T2.out;have J:=T3.out;have a1:IntKind.i64.wrap ((p:Int)*7)=(p:Int)*7:=IntWalk.i64_in _ oM;have a2:IntKind.i64.wrap ((p:Int)*7+3)=(p:Int)*7+3:=IntWalk.i64_in _ oM;have a3:IntKind.i64.wrap ((i:Int)*131)=(i:Int)*131:=IntWalk.i64_in _ oM;have a4:IntKind.i64.wrap ((l:Int)*1117)=(l:Int)*1117:=IntWalk.i64_in _ oM;have a5:IntKind.i64.wrap ((i:Int)*131+(l:Int)*1117)=(i:Int)*131+(l:Int)*1117:=IntWalk.i64_in _ oM;have a6:IntKind.i64.wrap ((p:Int)*29)=(p:Int)*29:=IntWalk.i64_in _ oM;have a7:IntKind.i64.wrap ((i:Int)*131+(l:Int)*1117+(p:Int)*29)=(i:Int)*131+(l:Int)*1117+(p:Int)*29:=IntWalk.i64_in _ oM;have a8:IntKind.i64.wrap ((F:Int)*53)=(F:Int)*53:=IntWalk.i64_in _ oM;have a9:IntKind.i64.wrap ((i:Int)*131+(l:Int)*1117+(p:Int)*29+(F:Int)*53)=(x:Int):=by rw [HX.out];exact IntWalk.i64_in _ oM
    have i1:(Y:Int)<(m:Int):=oM;have i2:(Z:Int)<(m:Int):=oM;have i3:(0:Int)<=(Y:Int):=oM;have i4:(0:Int)<=(Z:Int):=oM
    go_quiet (fail)
    clear a1 a2 a3 a4 a5 a6 a7 a8 a9 H I J;have aC:=E.out;have V:(x:Int)<100000000000:=oM;go_wp2;go_ret;exact⟨y % k,zD d.out.symm,fun _=>by rw [d.out];exact Int.emod_lt_of_pos _ oM,fun h=>oM,q.out,Dr.drewN f _⟩
def zM (l:List ByteArray):List Value:=l.map Value.string
theorem zbC (l:List ByteArray):(zM l).length=l.length:=by simp [zM]
theorem Reads.dr (h:Reads w lo hi size A n xs)(hb:Dr R w w')(hR:R<lo):Reads w' lo hi size A n xs:=
 h.frm hb (fun k h1 _ h2=>oM)
def RetNum (R M:Nat) (l:List Int) (w:World) (e:Ending) (w':World):Prop:=∃ x,x∈l∧e=.returned (.int .i64 x)∧Rd w' R (M+1)∧Dr R w w'
def RetOf (R M:Nat) (l:List ByteArray) (w:World) (e:Ending) (w':World):Prop:=∃ x,x∈l∧e=.returned (.string x)∧Rd w' R (M+1)∧Dr R w w'
theorem l19Rd_num (h:Rd w R M)(hM:M<=1000000000)(hL:Reads w lo hi 1 A n (ints l))(hlo:R<lo)(hn:0<n) :
  Calls Tryz.prog 128 #[.pointer (some R),.slice A n c] w (RetNum R M l w):=by
 have g:=hL.len;have d:(1:Int)<=(n:Int):=oM
 go_enter Tryz.func128,Tryz.ntmps128
 go_wp2_with fail
 refine (zx h hM).mono ?_;rintro e q ⟨k,rfl,a,_,j,f⟩;have i:=a d;have b:k<n:=oM;obtain⟨o,x,rfl,_,_,m,p⟩:=(hL.dr f hlo).int b;clear a;go_wp2_with fail
 go_ret;exact⟨x,cX m.out,rfl,j,f⟩
theorem l19Rd_of {l:List ByteArray} (h:Rd w R M)(hM:M<=1000000000)(hL:Reads w lo hi 1 A n (zM l))(hlo:R<lo)(hn:0<n) :
  Calls Tryz.prog 37 #[.pointer (some R),.slice A n c] w (RetOf R M l w):=by
 have g:=hL.len;have d:(1:Int)<=(n:Int):=oM
 go_enter Tryz.func37,Tryz.ntmps37
 go_wp2_with fail
 refine (zx h hM).mono ?_;rintro e v ⟨k,rfl,a,_,q,f⟩;have p:=a d;have b:k<n:=oM;obtain⟨s,u,rfl,_,_,r,t⟩:=(hL.dr f hlo).one b;obtain⟨x,i,rfl⟩:∃ x,l[k]?=some x∧u=.string x:=by
  have:=r.out;simp only [zM,dQ,Option.map_eq_some_iff] at this;obtain⟨x,m,o⟩:=this;exact⟨x,m,o.symm⟩
 have j:=za i;clear a i;go_wp2_with fail
 go_ret;exact⟨x,cX j.out,rfl,q,f⟩
def Bytes (w:World) (A:Option Addr) (n:Nat):Prop:=0<n->∃ g o,A=some ⟨g,o,none⟩∧g<w.heap.size∧∀ j,j<n->∃ b:Nat,b<256∧w.cell? ⟨g,o+j,none⟩=some (.int .u8 b)
theorem Bytes.ext (h:Bytes w A n)(hb:Ext w w'):Bytes w' A n:=fun h0=>by
 obtain⟨g,o,e,hg,hc⟩:=h h0
 exact⟨g,o,e,eH hg hb.size,fun j hj=>by obtain⟨b,h1,h2⟩:=hc j hj;exact⟨b,h1,hb.aa h2⟩⟩
def RetOpen (w:World) (e:Ending) (w':World):Prop:=∃ R,e=.returned (.pointer (some ⟨R,0,none⟩))∧w.heap.size<=R∧Rd w' R 0∧Ext w w'
theorem spec_l19Open (h:Bytes w A n)(hn:n<=9223372036854775807)(hc:n<=c)(hc2:c<=9223372036854775807) :
  Calls Tryz.prog 33 #[.slice A n c] w (RetOpen w):=by
 by_cases hb:2000<n
 ·obtain⟨g,o,rfl,k,a⟩:=h oM;have d:=za a;clear a h;have f:(2000:Int)<(n:Int):=oM;have i:(2000:Int)<=(c:Int):=oM
  go_enter Tryz.func33,Tryz.ntmps33
  go_wp2;go_ret;refine⟨w.heap.size,rfl,cY _,⟨some ⟨g,o,none⟩,2000,c,0,oM,oM,dT _ _ _,fun _=>⟨g,o,rfl,k,fun j hj=>?_⟩⟩,(cW _).alloc _⟩;obtain⟨b,f,i⟩:=d.out j oM;exact⟨b,f,((cW w).alloc _).aa i⟩
 ·have l:=za h;clear h;have f:(n:Int)<=2000:=oM
  go_enter Tryz.func33,Tryz.ntmps33
  go_wp2;go_ret;refine⟨w.heap.size,rfl,cY _,⟨A,n,c,0,oM,oM,dT _ _ _,fun h0=>?_⟩,(cW _).alloc _⟩;obtain⟨g,o,e,k,hc⟩:=l.out h0;exact⟨g,o,e,k,fun j hj=>by obtain⟨b,f,i⟩:=hc j hj;exact⟨b,f,((cW w).alloc _).aa i⟩⟩
theorem Reads.nat {l:List Nat}(h:Reads w lo hi 1 A n (zas l))(hk:k<n):∃ ad x,A=some ad∧lo<=ad.block∧ad.block<hi∧Hid (l[k]?=some x)∧w.cell? (ad.add k)=some (.int .i64 (x:Nat)):=by
 have e:zas l=ints (l.map fun n:Nat=>(n:Int)):=by simp [zas,ints]
 rw [e] at h;obtain⟨ad,x,b,f,d,g,c⟩:=h.int hk;have a:=g.out;rw [dQ] at a;cases hq:l[k]? with
 |none=>rw [hq] at a;simp at a
 |some q =>
  rw [hq] at a;simp at a;exact⟨ad,q,b,f,d,rfl,by rw [c,a]⟩
def MovAt (w:World) (b:Nat) (es:List Edg):Prop:=∀ i l:Nat,i<16->l<6->w.cell? ⟨b,i*6+l,none⟩=some (.int .i64 (succ es i l:Nat))
def RetStr (L:Nat) (w:World) (e:Ending) (w':World):Prop:=∃ s:ByteArray,e=.returned (.string s)∧s.size<=L∧Ext w w'
theorem zij (w:World) (x:Int):(convert 22 9 (.slice (some w.heap.size) 1 1)).run Tryz.prog (w.alloc (.cells #[.int .u8 x] 5))=.ok (.string (strOfNums [x])) (w.alloc (.cells #[.int .u8 x] 5)):=
 run_convert_bytes_arg _ _ 5 Tryz.underlying22 Tryz.underlying5 w.heap.size 0 1 1 [x] rfl (fun i hi=>by
  obtain rfl:i=0:=oM
  rw [(dT w 5 #[.int .u8 x]).cell];rfl) _ Tryz.underlying9
theorem zdS (x:Int):(strOfNums [x]).size=1:=by simp [strOfNums];rfl
theorem zdm {l:Int} (h0:0<=l)(h1:l<6) :
  Calls Tryz.prog 111 #[l] w (RetStr 1 w):=by
 have a:=zij w
 go_enter Tryz.func111,Tryz.ntmps111
 go_wp2;go_ret;exact⟨_,rfl,Nat.le_of_eq (zdS _),(cW _).alloc _⟩
theorem zbA {a:Nat} (ha:a<64) :
  Calls Tryz.prog 57 #[a] w (RetStr 6 w):=by
 have m:Sm a:=tM;have u:=za (show decide (0<=(a:Int)∧(a:Int)<=63)=true by simp;omega)
 by_cases h0:a=0
 ·subst h0;rw [show ((0:Nat):Int)=0 from rfl];have g:=za (show decide ((0:Int)<=0∧(0:Int)<=63)=true by decide)
  go_enter Tryz.func57,Tryz.ntmps57
  go_wp2_with (go_at_call 59;refine (zS _ _).mono ?_;rw [g.out];rintro e D ⟨rfl,rfl⟩)
  go_ret;exact⟨_,rfl,dM,cW _⟩
 ·have r:((a:Int)==0)=false:=by simp;omega
  go_enter Tryz.func57,Tryz.ntmps57
  go_wp2_with fail
  refine (zS _ _).mono ?_;rw [u.out];rintro e D ⟨rfl,rfl⟩;go_wp2_with fail
  refine (zU a m _).mono ?_;rintro e E ⟨B,d,rfl,c,n⟩;have y:=zB a 6;have h:=za (fun k (p:k∈letters a 6)=>(zbi.1 p).1);have j:=dY c;clear c;generalize letters a 6=f at *;go_wp2_with fail
  go_loopw [3,5] (fun v i wr=>∃ k:Nat,k<=f.length∧i=.int .i64 k∧∃ s:ByteArray,v=.string s∧s.size<=k∧Ext E wr) (fun _ i _=>f.length - (intOf i).toNat)
  case atStart=>exact⟨0,dD _,rfl,_,rfl,cY _,cW _⟩
  case round =>
   obtain⟨k,p,rfl,s,rfl,G,b⟩:=hrel
   by_cases hlt:k<f.length
   ·obtain⟨F,l,rfl,_,_,x,z⟩:=(j.ext b).nat hlt;have q:=h.out l (cX x.out);go_wp2_with fail
    refine (zdm (l:=(l:Int)) oM oM).mono ?_;rintro e I ⟨t,rfl,H,o⟩;have C:s.size+t.size<=7:=oM;go_wp2_with fail
    go_roundw
    case rel=>exact⟨k+1,oM,gM,_,rfl,by rw [ByteArray.size_append];omega,b.trans o⟩
    case measure=>simp [intOf];omega
   ·obtain rfl:k=f.length:=oM;go_wp2_with fail
    go_ret;exact⟨s,rfl,oM,n.trans b⟩
def RetAl (w:World) (e:Ending) (w':World):Prop:=∃ (a:Nat) (ok:Bool),e=.returned (.tuple #[a,.bool ok])∧a<64∧Ext w w'
theorem zcC {x:ByteArray}  :
  Calls Tryz.prog 79 #[x] w (RetAl w):=by
 go_enter Tryz.func79,Tryz.ntmps79
 go_wp2_with fail
 go_loopw [4] (fun i wr=>∃ k:Nat,k<=64∧i=.int .i64 k∧Ext w wr) (fun i _=>64 - (intOf i).toNat)
 case atStart=>exact⟨0,dD _,rfl,cW _⟩
 case round =>
  obtain⟨k,c,rfl,a⟩:=hrel
  by_cases hlt:k<64
  ·go_wp2_with fail
   refine (zbA hlt).mono ?_;rintro e f ⟨t,rfl,d,b⟩;cases hxt:t.toList==x.toList
   ·go_wp2_with fail
    go_roundw
    case rel=>exact⟨k+1,oM,gM,a.trans b⟩
    case measure=>simp [intOf];omega
   ·go_wp2_with fail
    go_ret2;exact⟨k,true,rfl,hlt,a.trans b⟩
  ·obtain rfl:k=64:=oM;go_wp2_with fail
   go_ret2;exact⟨0,false,rfl,oM,a⟩
theorem zdk (hn:n<100) :
  Calls Tryz.prog 58 #[n] w (RetStr 2 w):=by
 have j:(n:Int)<100:=oM
 go_enter Tryz.func58,Tryz.ntmps58
 go_wp2_with fail
 go_loopw [0,3] (fun n' v wr=>∃ (m:Nat) (s:ByteArray),n'=.int .i64 m∧v=.string s∧(m<100∧s.size=0∨m<10∧s.size<=1)∧Ext w wr) (fun n' _ _=>(intOf n').toNat)
 case atStart=>exact⟨n,_,rfl,rfl,Or.inl ⟨hn,rfl⟩,cW _⟩
 case round =>
  obtain⟨m,s,rfl,rfl,b,d⟩:=hrel;have g:m<100:=oM;have l:=zij wr;have k:=zdS
  by_cases hlt:9<m
  ·have c:s.size=0:=oM;have a:=za (gV m 10);have h:(9:Int)<(m:Int):=oM;have i:s.size<=1:=oM;have f:=za c;clear b c;go_wp2_with fail
   go_roundw
   case rel=>exact⟨m / 10,_,by rw [a.out];rfl,rfl,Or.inr ⟨oM,by rw [ByteArray.size_append,zdS,f.out];omega⟩,d.alloc _⟩
   case measure=>simp [intOf];omega
  ·have h:(m:Int)<=9:=oM;have i:s.size<=1:=oM;clear b;go_wp2_with fail
   go_ret;exact⟨_,rfl,by rw [ByteArray.size_append,zdS];omega,d.alloc _⟩
def RetNumS (w:World) (e:Ending) (w':World):Prop:=∃ (n:Int) (ok:Bool),e=.returned (.tuple #[n,.bool ok])∧w=w'
theorem zdl {s:ByteArray} (hs:s.size<=1000000) :
  Calls Tryz.prog 120 #[s] w (RetNumS w):=by
 by_cases h0:s.size=0
 ·have c:¬ 0<s.size:=oM
  go_enter Tryz.func120,Tryz.ntmps120
  go_wp2;go_ret2;exact⟨0,false,rfl,rfl⟩
 have c:0<s.size:=oM;cases hm:((s[0].toNat:Int)==45)
 ·have m:0<s.size:=c
  by_cases z0:s.size=0
  ·go_enter Tryz.func120,Tryz.ntmps120
   go_wp2;go_ret2;exact⟨0,false,rfl,rfl⟩
  have q:0<s.size:=oM;have f:((s.size:Int)==0)=false:=by rw [beq_eq_false_iff_ne];omega
  by_cases z2:17<s.size
  ·have a:(17:Int)<(s.size:Int):=oM
   go_enter Tryz.func120,Tryz.ntmps120
   go_wp2;go_ret2;exact⟨0,false,rfl,rfl⟩
  have a:(s.size:Int)<=17:=oM;cases z3:((s[0].toNat:Int)==48)
  ·go_enter Tryz.func120,Tryz.ntmps120
   go_wp2_with fail
   go_loop [5,6] (fun v i=>∃ (k:Nat) (n:Int),k<=s.size∧i=.int .i64 k∧v=.int .i64 n) (fun _ i=>s.size - (intOf i).toNat)
   case atStart=>exact⟨0,0,dD _,rfl,rfl⟩
   case round =>
    obtain⟨k,n,h,rfl,rfl⟩:=hrel
    by_cases hlt:k<s.size
    ·have g:=zbS s k hlt
     by_cases c0:(s[k].toNat:Int)<48
     ·go_wp2_with fail
      go_ret2;exact⟨0,false,rfl,rfl⟩
     ·by_cases c1:57<(s[k].toNat:Int)
      ·go_wp2_with fail
       go_ret2;exact⟨0,false,rfl,rfl⟩
      ·go_wp2_with fail
       go_round
       case rel=>exact⟨k+1,_,oM,gM,rfl⟩
       case measure=>simp [intOf];omega
    ·obtain rfl:k=s.size:=oM;go_wp2_with fail
     go_ret2;exact⟨_,true,rfl,rfl⟩
  ·by_cases z4:1<s.size
   ·have b:(1:Int)<(s.size:Int):=oM
    go_enter Tryz.func120,Tryz.ntmps120
    go_wp2;go_ret2;exact⟨0,false,rfl,rfl⟩
   ·have b:(s.size:Int)<=1:=oM
    go_enter Tryz.func120,Tryz.ntmps120
    go_wp2_with fail
    go_loop [5,6] (fun v i=>∃ (k:Nat) (n:Int),k<=s.size∧i=.int .i64 k∧v=.int .i64 n) (fun _ i=>s.size - (intOf i).toNat)
    case atStart=>exact⟨0,0,dD _,rfl,rfl⟩
    case round =>
     obtain⟨k,n,h,rfl,rfl⟩:=hrel
     by_cases hlt:k<s.size
     ·have g:=zbS s k hlt
      by_cases c0:(s[k].toNat:Int)<48
      ·go_wp2_with fail
       go_ret2;exact⟨0,false,rfl,rfl⟩
      ·by_cases c1:57<(s[k].toNat:Int)
       ·go_wp2_with fail
        go_ret2;exact⟨0,false,rfl,rfl⟩
       ·go_wp2_with fail
        go_round
        case rel=>exact⟨k+1,_,oM,gM,rfl⟩
        case measure=>simp [intOf];omega
     ·obtain rfl:k=s.size:=oM;go_wp2_with fail
      go_ret2;exact⟨_,true,rfl,rfl⟩
 ·obtain⟨y,o⟩:∃ y,s.extract 1 s.size=y:=⟨_,rfl⟩;have d:y.size=s.size - 1:=by rw [← o,ByteArray.size_extract];omega
  have p:y.size<=1000000:=oM;have j:=za d;clear d;have l:(1:Int)<=(s.size:Int):=oM
  by_cases z0:y.size=0
  ·go_enter Tryz.func120,Tryz.ntmps120
   go_wp2;go_ret2;exact⟨0,false,rfl,rfl⟩
  have q:0<y.size:=oM;have f:((y.size:Int)==0)=false:=by rw [beq_eq_false_iff_ne];omega
  by_cases z2:17<y.size
  ·have a:(17:Int)<(y.size:Int):=oM
   go_enter Tryz.func120,Tryz.ntmps120
   go_wp2;go_ret2;exact⟨0,false,rfl,rfl⟩
  have a:(y.size:Int)<=17:=oM;cases z3:((y[0].toNat:Int)==48)
  ·go_enter Tryz.func120,Tryz.ntmps120
   go_wp2_with fail
   go_loop [5,6] (fun v i=>∃ (k:Nat) (n:Int),k<=y.size∧i=.int .i64 k∧v=.int .i64 n) (fun _ i=>y.size - (intOf i).toNat)
   case atStart=>exact⟨0,0,dD _,rfl,rfl⟩
   case round =>
    obtain⟨k,n,h,rfl,rfl⟩:=hrel
    by_cases hlt:k<y.size
    ·have g:=zbS y k hlt
     by_cases c0:(y[k].toNat:Int)<48
     ·go_wp2_with fail
      go_ret2;exact⟨0,false,rfl,rfl⟩
     ·by_cases c1:57<(y[k].toNat:Int)
      ·go_wp2_with fail
       go_ret2;exact⟨0,false,rfl,rfl⟩
      ·go_wp2_with fail
       go_round
       case rel=>exact⟨k+1,_,oM,gM,rfl⟩
       case measure=>simp [intOf];omega
    ·obtain rfl:k=y.size:=oM;go_wp2_with fail
     go_ret2;exact⟨_,true,rfl,rfl⟩
  ·by_cases z4:1<y.size
   ·have b:(1:Int)<(y.size:Int):=oM
    go_enter Tryz.func120,Tryz.ntmps120
    go_wp2;go_ret2;exact⟨0,false,rfl,rfl⟩
   ·have b:(y.size:Int)<=1:=oM
    go_enter Tryz.func120,Tryz.ntmps120
    go_wp2;go_ret2;exact⟨0,false,rfl,rfl⟩
theorem zo:(Tryz.prog.info? 9).map (fun i=>(i.zero,i.size,i.bytes))=some (some (.string ⟨#[]⟩),1,16):=kM
def RetStrs (L N:Nat) (w:World) (e:Ending) (w':World):Prop:=∃ (A:Option Addr) (n c:Nat) (l:List ByteArray),e=.returned (.slice A n c)∧n=l.length∧w'.ownsRow w.heap.size 9 1 (.slice A n c) n (zM l)∧(∀ x∈l,x.size<=L)∧n<=N∧Ext w w'
theorem zbZ (x:ByteArray):∀ u∈(#[Value.string x]:Array Value).toList,u.oneCell'=true:=by simp [Value.oneCell']
theorem spec_l19Cut {s:ByteArray} (hs:s.size<=1000000) :
  Calls Tryz.prog 78 #[s,.int .u8 32] w (RetStrs s.size (s.size+1) w):=by
 go_enter Tryz.func78,Tryz.ntmps78
 go_wp2_with fail
 go_loopw [5,6,7] (fun v f i wr=>∃ (k m:Nat) (l:List ByteArray),k<=s.size+1∧i=.int .i64 k∧m<=k∧f=.int .i64 m∧l.length<=k∧wr.ownsRow w.heap.size 9 1 v l.length (zM l)∧Hid (∀ x∈l,x.size<=s.size)∧Ext w wr) (fun _ _ i _=>s.size+1 - (intOf i).toNat)
 case atStart=>exact⟨0,0,[],dD _,rfl,cY _,rfl,cY _,World.ownsRow_lit w #[] 0 (cY _) lM rfl,(fun x hx=>by cases hx),(cW _).alloc _⟩
 case round =>
  obtain⟨k,m,l,u,rfl,z,rfl,y,a,g,b⟩:=hrel
  by_cases hle:k<=s.size
  ·have p:(k:Int)<=(s.size:Int):=oM;have q:(m:Int)<=(k:Int):=oM;have n:=za (show (s.extract m k).size<=s.size by rw [ByteArray.size_extract];omega);have d:=za (show ∀ x∈l++[s.extract m k],x.size<=s.size from fun x hx=>by
    rcases List.mem_append.1 hx with h|h
    ·exact g.out x h
    ·rw [List.mem_singleton.1 h];exact n.out)
   by_cases he:k=s.size
   ·have j:((k:Int)==(s.size:Int))=true:=by simp [he]
    have r:=za he;clear he;go_wp2_with (at_builtin;refine zL w wr rfl _ _ _ rfl 9 _ 1 16 Tryz.underlying61 zo rfl dM u5 _ _ _ _ rfl rfl b a rfl (zbZ _) lM oM ?_;intro v' w1 hext1 zjl hg1 hat1)
    go_roundw
    case rel=>exact⟨k+1,k+1,l++[s.extract m k],oM,gM,oM,gM,by simp;omega,by simpa [zM] using zjl,d.out,aM⟩
    case measure=>simp [intOf];omega
   ·have j:((k:Int)==(s.size:Int))=false:=by rw [beq_eq_false_iff_ne];omega
    have o:k<s.size:=oM;have t:=zbS s k o;cases hc:((s[k].toNat:Int)==32)
    ·go_wp2_with fail
     go_roundw
     case rel=>exact⟨k+1,m,l,oM,gM,oM,rfl,oM,a,g,b⟩
     case measure=>simp [intOf];omega
    ·go_wp2_with (at_builtin;refine zL w wr rfl _ _ _ rfl 9 _ 1 16 Tryz.underlying61 zo rfl dM u5 _ _ _ _ rfl rfl b a rfl (zbZ _) lM oM ?_;intro v' w1 hext1 zjl hg1 hat1)
     go_roundw
     case rel=>exact⟨k+1,k+1,l++[s.extract m k],oM,gM,oM,gM,by simp;omega,by simpa [zM] using zjl,d.out,aM⟩
     case measure=>simp [intOf];omega
  ·obtain rfl:k=s.size+1:=oM;obtain⟨A,c,rfl⟩:=zi a;go_wp2_with fail
   go_ret;exact⟨A,_,c,l,rfl,rfl,a,g.out,oM,b⟩
def RetEdgeS (w:World) (e:Ending) (w':World):Prop:=∃ (x:Edg) (ok:Bool),e=.returned (.tuple #[.agg #[x.fr,x.le,x.ta],.bool ok])∧Ext w w'
theorem spec_l2Parse {s:ByteArray} (hs:s.size<=1000000) :
  Calls Tryz.prog 121 #[s] w (RetEdgeS w):=by
 go_enter Tryz.func121,Tryz.ntmps121
 go_wp2_with fail
 generalize U0:w.alloc _=r at *;have c:=Ext.al_ U0;have b:=Ext.bl_ U0;clear U0
 go_loop [4] (fun i=>∃ k:Nat,k<=s.size∧i=.int .i64 k) (fun i=>s.size - (intOf i).toNat)
 case atStart=>exact⟨0,dD _,rfl⟩
 case round =>
  obtain⟨k,x,rfl⟩:=hrel;have j:=b.cell;have t:=b.frozen
  by_cases hlt:k<s.size
  ·have u:=zbS s k hlt
   by_cases c0:(97:Int)<=(s[k].toNat:Int)
   ·by_cases c1:(s[k].toNat:Int)<=102
    ·have l:=za (show (s.extract 0 k).size<=1000000 by rw [ByteArray.size_extract];omega);have m:=za (show (s.extract (k+1) s.size).size<=1000000 by rw [ByteArray.size_extract];omega);have q:(k:Int)+1<=(s.size:Int):=oM;go_wp2_with fail
     refine (zdl l.out).mono ?_;rintro e o ⟨g,n,rfl,rfl⟩;go_wp2_with fail
     refine (zdl m.out).mono ?_;rintro e o ⟨h,d,rfl,rfl⟩;go_wp2_with fail
     refine (zbk s k hlt _).mono ?_;rintro e o ⟨rfl,rfl⟩;have f:∀ u0 u1 u2,Ext w (((r.setCell w.heap.size u0).setCell ⟨w.heap.size,1,none⟩ u1).setCell ⟨w.heap.size,2,none⟩ u2):=fun u0 u1 u2=>((c.setCell (cY _) u0).setCell (cY _) u1).setCell (cY _) u2;have a:=za f;clear f;cases n
     ·go_wp2_with fail
      exact bodyPost_ret (v:=.tuple #[.agg #[g,.int .i64 ((s[k].toNat:Int) - 97),h],.bool false]) (by simp [results,Tryz.results121,go_sem,j]) rfl ⟨⟨g,(s[k].toNat:Int) - 97,h⟩,false,rfl,a.out _ _ _⟩
     ·go_wp2_with fail
      exact bodyPost_ret (v:=.tuple #[.agg #[g,.int .i64 ((s[k].toNat:Int) - 97),h],.bool d]) (by simp [results,Tryz.results121,go_sem,j]) rfl ⟨⟨g,(s[k].toNat:Int) - 97,h⟩,d,rfl,a.out _ _ _⟩
    ·go_wp2_with fail
     go_round
     case rel=>exact⟨k+1,oM,gM⟩
     case measure=>simp [intOf];omega
   ·go_wp2_with fail
    go_round
    case rel=>exact⟨k+1,oM,gM⟩
    case measure=>simp [intOf];omega
  ·obtain rfl:k=s.size:=oM;go_wp2_with fail
   refine bodyPost_ret (v:=.tuple #[.agg #[(0:Int),(0:Int),(0:Int)],.bool false]) (by simp [results,Tryz.results121,go_sem,j]) rfl ⟨⟨0,0,0⟩,false,rfl,?_⟩;exact ((c.setCell (p:=⟨w.heap.size,0,none⟩) (cY _) _).setCell (p:=⟨w.heap.size,1,none⟩) (cY _) _).setCell (p:=⟨w.heap.size,2,none⟩) (cY _) _
def RetCut (c:UInt8) (s:ByteArray) (w:World) (e:Ending) (w':World):Prop:=∃ (A:Option Addr) (n d:Nat) (l:List ByteArray),e=.returned (.slice A n d)∧n=l.length∧0<n∧w'.ownsRow w.heap.size 9 1 (.slice A n d) n (zM l)∧n<=s.size+1∧Hid (l.map (fun x=>x.data.toList)=zcx c s.data.toList)∧Ext w w'
theorem zdd {s:ByteArray} {m:Nat}:(s.extract m k).data.toList=(s.data.toList.drop m).take (k - m):=by
 rw [ByteArray.data_extract,Array.toList_extract]
theorem wrap_pow2 {t:Nat}(ht:t<32):wrap64 ((2:Int) ^ t)=((2 ^ t:Nat):Int):=by
 have a:=(Sm.bit ht).lt;have e:(2:Int) ^ t=((2 ^ t:Nat):Int):=sM;rw [e];generalize (2:Nat) ^ t=p at *;unfold wrap64;omega
theorem zfB (n:Nat)(hn:n<32) (w:World) :
  Calls Tryz.prog 203 #[n] w fun e w'=>e=.returned (.int .i64 (2 ^ n:Nat))∧w=w':=by
 have c:IntKind.u64.wrap (n:Int)=n:=by rw [IntKind.wrap_u64];omega
 have a:(n:Int)<=64:=oM;have b:=za (wrap_pow2 hn)
 go_enter Tryz.func203,Tryz.ntmps203
 go_wp2;go_ret;exact⟨zD (by rw [← b.out]),rfl⟩
def zbI (es:List Edg) (set:Nat) (l:Int):Nat:=es.foldl (fun m e=>if e.le=l∧set.testBit e.fr.toNat=true then m|||2 ^ e.ta.toNat else m) 0
theorem stepB_snoc (es:List Edg) (e:Edg) (set:Nat) (l:Int):zbI (es++[e]) set l=if e.le=l∧set.testBit e.fr.toNat=true then zbI es set l|||2 ^ e.ta.toNat else zbI es set l:=by simp [zbI]
theorem zdK (es:List Edg) (set:Nat) (l:Int) (k:Nat):(zbI es set l).testBit k=true↔∃ e∈es,(e.le=l∧set.testBit e.fr.toNat=true)∧e.ta.toNat=k:=by
 have:=foldl_bit es (fun e=>e.le=l∧set.testBit e.fr.toNat=true) 0 k;simpa [zbI] using this
theorem ziT (h:Few n es) (set:Nat) (l:Int):zbI es set l<2 ^ n:=by
 apply Nat.lt_pow_two_of_testBit;intro k hk;rw [eZ];intro hb;obtain⟨e,a,_,b⟩:=(zdK es set l k).1 hb;have:=h e a;omega
theorem zeL {set:Nat} {l:Int} {k0:Nat} (h:zR w lo hi A n s)(hf:Few k0 s.edges)(hk0:k0<=16)(hset:Sm set) :
  Calls Tryz.prog 241 #[.agg #[s.al,s.st,.slice A n c],set,l] w fun e w'=>e=.returned (.int .i64 (zbI s.edges set l:Nat))∧Ext w w':=by
 have Y:=h.2.len;have O:=za h.1;have G:=za (fun W (hW:Ext w W)=>h.2.ext hW);have H:=za hf;clear hf
 go_enter Tryz.func241,Tryz.ntmps241
 go_wp2
 go_loopw [7,8] (fun v i wr=>∃ k:Nat,k<=n∧i=.int .i64 k∧∃ y:Nat,v=.int .i64 y∧Sm y∧Hid (y=zbI (s.edges.take k) set l)∧Ext w wr∧Ext (w.alloc (.cells #[s.al,s.st,.slice A n c] 39)) wr) (fun _ i _=>n - (intOf i).toNat)
 case atStart=>exact⟨0,dD _,rfl,0,rfl,tM,rfl,(cW _).alloc _,cW _⟩
 case round =>
  obtain⟨k,X,rfl,y,rfl,D,g,d,a⟩:=hrel;have T:=fun j=>zcs (j:=j) a
  by_cases hlt:k<n
  ·obtain⟨b,o,x,rfl,_,_,F,I,S,J⟩:=(G.out wr d).edge hlt;obtain⟨⟨L,M⟩,⟨U,V⟩,⟨Q,R⟩⟩:=H.out x (cX F.out);have p:=za (show s.edges.take (k+1)=s.edges.take k++[x] by rw [dH,F.out];rfl);obtain⟨f,q⟩:∃ f:Nat,x.fr=f:=⟨x.fr.toNat,oM⟩;obtain⟨t,B⟩:∃ t:Nat,x.ta=t:=⟨x.ta.toNat,oM⟩;rw [q] at I L M;rw [B] at J Q R;have r:=za (stepB_snoc (s.edges.take k) x set l)
   by_cases hle:x.le=l
   ·have z:(x.le==l)=true:=by simp [hle]
    have m:=za hle;clear hle;cases hb:set.testBit f
    ·have u:=za hb;clear hb;go_wp2_with (go_at_call 112;refine (zao set f hset _ oM).mono ?_;rw [u.out];rintro e w' ⟨rfl,rfl⟩)
     go_roundw
     case rel=>exact⟨k+1,oM,gM,y,rfl,D,by unfold Hid;rw [p.out,r.out,if_neg (by rintro ⟨_,C⟩;rw [q] at C;simp [u.out] at C)];exact g.out,d,a⟩
     case measure=>simp [intOf];omega
    ·have u:=za hb;clear hb;have E:=za (show bits .or .i64 (y:Nat) ((2:Int) ^ t)=((y|||2 ^ t:Nat):Int) by have:=zbz D (Sm.bit (n:=t) oM);rw [show (((2:Nat) ^ t:Nat):Int)=(2:Int) ^ t by simp] at this;exact this);go_wp2_with (first
      |(go_at_call 112;refine (zao set f hset _ oM).mono ?_;rw [u.out];rintro e w' ⟨rfl,rfl⟩)
      |(go_at_call 203;refine (zfB t oM _).mono ?_;rintro e w' ⟨rfl,rfl⟩))
     go_roundw
     case rel=>exact⟨k+1,oM,gM,y|||2 ^ t,by rw [E.out],D.or (Sm.bit oM),by unfold Hid;rw [p.out,r.out,if_pos ⟨m.out,by rw [q];simpa using u.out⟩,← g.out,B];rfl,d,a⟩
     case measure=>simp [intOf];omega
   ·have z:(x.le==l)=false:=by simp [hle]
    have m:=za hle;clear hle;go_wp2;go_roundw
    case rel=>exact⟨k+1,oM,gM,y,rfl,D,by unfold Hid;rw [p.out,r.out,if_neg (by rintro ⟨C,_⟩;exact m.out C)];exact g.out,d,a⟩
    case measure=>simp [intOf];omega
  ·obtain rfl:n=k:=oM;go_wp2;go_ret;exact⟨zD (by rw [g.out,O.out,eC]),d⟩
def MovB (w:World) (b:Nat) (es:List Edg):Prop:=∃ cs,Blk w b 213 cs∧∀ i l:Nat,i<16->l<6->cs[i*6+l]?=some (.int .i64 (succ es i l:Nat))
theorem MovB.at_ (h:MovB w b es):MovAt w b es:=by
 obtain⟨d,a,c⟩:=h;exact fun i l hi hl=>by rw [a.cell,c i l hi hl]
theorem MovB.ext (h:MovB w b es)(hx:Ext w w'):MovB w' b es:=by
 obtain⟨a,c,d⟩:=h;exact⟨a,c.ext hx,d⟩
theorem zero_mov (w:World):(zeroValue 213).run Tryz.prog w=.ok (.agg (Array.replicate 96 (.int .i64 0))) w:=kM
theorem wrap_pow {t:Nat}(ht:t<32):wrap64 ((2:Int) ^ t)=((2 ^ t:Nat):Int):=by
 have a:=(Sm.bit ht).lt;have e:(2:Int) ^ t=((2 ^ t:Nat):Int):=sM;rw [e];generalize (2:Nat) ^ t=p at *;unfold wrap64;omega
theorem mov_store {f t l:Nat}(hcs:∀ i l:Nat,i<16->l<6->cs[i*6+l]?=some (.int .i64 (succ es i l:Nat)))(hs:Sm (succ es f g))(ht:t<16)(hf:f<16)(hg:g<6)(hi:i<16)(hl:l<6) :
  (cs.setIfInBounds (f*6+g) (.int .i64 (bits .or .i64 (succ es f g:Nat) (wrap64 (2 ^ t)))))[i*6+l]?=some (.int .i64 ((if (f:Int)=i∧(g:Int)=l then succ es i l|||2 ^ (t:Int).toNat else succ es i l:Nat))):=by
 rw [wrap_pow oM,zbz hs (Sm.bit oM),Array.getElem?_setIfInBounds]
 by_cases he:f*6+g=i*6+l
 ·have c:f=i:=oM;have d:g=l:=oM;subst c;subst d;have b:f*6+g<cs.size:=by
   rcases Nat.lt_or_ge (f*6+g) cs.size with a|a
   ·exact a
   ·have:=hcs f g hf hg;rw [Array.getElem?_eq_none a] at this;cases this
  rw [if_pos rfl,if_pos b,if_pos ⟨rfl,rfl⟩];rfl
 ·rw [if_neg he,hcs i l hi hl,if_neg];rintro ⟨a,h⟩;exact he oM
theorem zfJ (h:zR w lo hi A n s)(hf:Few 16 s.edges) :
  Calls Tryz.prog 165 #[.agg #[s.al,s.st,.slice A n c]] w fun e w'=>∃ b,e=.returned (.pointer (some ⟨b,0,none⟩))∧w.heap.size<=b∧MovB w' b s.edges∧Ext w w':=by
 have hn:=h.2.len;have hL:=za h.1;have O:=fun W (hW:Ext w W)=>h.2.ext hW;have Y:=za O;clear O;have J:=za hf;clear hf
 go_enter Tryz.func165,Tryz.ntmps165
 have U:=zero_mov;generalize hzz:Array.replicate 96 (Value.int .i64 0)=X at U;have Hz:=za hzz;clear hzz;go_wp2_with (simp only [U])
 go_loopw [10] (fun i wr=>∃ k:Nat,k<=n∧i=.int .i64 k∧MovB wr (w.heap.size+1) (s.edges.take k)∧Ext w wr) (fun i _=>n - (intOf i).toNat)
 case atStart=>exact⟨0,dD _,rfl,⟨X,by have:=dT (w.alloc (.cells #[s.al,s.st,.slice A n c] 39)) 213 X;simpa using this,fun i l hi hl=>by rw [← Hz.out,Array.getElem?_replicate,if_pos oM];rfl⟩,((cW _).alloc _).alloc _⟩
 case round =>
  obtain⟨k,hk,rfl,d,q⟩:=hrel
  by_cases hlt:k<n
  ·obtain⟨b,o,x,rfl,ak,aj,T,c0,c1,c2⟩:=(Y.out wr q).edge hlt;obtain⟨⟨L,C⟩,⟨M,D⟩,⟨V,E⟩⟩:=J.out x (cX T.out);obtain⟨f,hf⟩:∃ f:Nat,x.fr=f:=⟨x.fr.toNat,oM⟩;obtain⟨g,R⟩:∃ g:Nat,x.le=g:=⟨x.le.toNat,oM⟩;obtain⟨t,S⟩:∃ t:Nat,x.ta=t:=⟨x.ta.toNat,oM⟩;rw [hf] at c0 L C;rw [R] at c1 M D;rw [S] at c2 V E;have v:f<16:=oM;have y:g<6:=oM;have I:t<16:=oM;clear L C M D V E;obtain⟨cs,r,u⟩:=d;have H:Sm (succ (s.edges.take k) f g):=succ_sm (n:=16) (fun e he=>J.out e (List.mem_of_mem_take he)) oM f g;go_wp2;have z:=(cW wr).alloc (.cells #[f,g,t] 103);have m:=dT wr 103 #[f,g,t];generalize hq:wr.alloc _=p at *;clear hq;have a:=r.ext z;have hd:p.cell? ⟨w.heap.size+1,f*6+g,none⟩=some (.int .i64 (succ (s.edges.take k) f g:Nat)):=by rw [a.cell,u f g v y]
   have G:=a.frozen (f*6+g);have q0:=m.cell 0;have q1:=m.cell 1;have q2:=m.cell 2
   go_still_tail 16,(by kernel_rfl)
   have C:(f:Int)<16:=oM;have D:(g:Int)<6:=oM;have E:(t:Int)<=64:=oM
   repeat (refine wpStill_step (fun K hK=>?_);go_simp;(try simp only [C,D,E,if_true]);refine hK _ ?_;clear hK K)
   refine wpStill_nil ?_;change wpList _ _ _ _ _ p.drew;have ai:p.drew.cell? ⟨w.heap.size+1,f*6+g,none⟩=some (.int .i64 (succ (s.edges.take k) f g:Nat)):=hd;have Q:p.drew.frozen? ⟨w.heap.size+1,f*6+g,none⟩=false:=G;have j:Blk p.drew (w.heap.size+1) 213 cs:=a;have B:Ext wr p.drew:=z.drew;generalize p.drew=w2 at *;have Z:=za (succ_snoc (s.edges.take k) x);have F:=za (show s.edges.take (k+1)=s.edges.take k++[x] by rw [dH,T.out];rfl);go_wp2;go_roundw
   case rel=>exact⟨k+1,oM,gM,⟨_,j.ab (f*6+g) _,fun i l hi hl=>by
    rw [F.out,Z.out,hf,R,S];exact mov_store u H I v y hi hl⟩,(q.trans B).setCell (by dsimp only;omega) _⟩
   case measure=>simp [intOf];omega
  ·obtain rfl:k=n:=oM;go_wp2;go_ret;rw [hL.out,eC] at d;exact⟨_,rfl,oM,d,q⟩
theorem zgl (R:List Nat) (i v:Nat):zas (R.set i v)=(zas R).set i (.int .i64 (v:Nat)):=by simp [zas,List.map_set]
def zii (x y:Int):Int:=if x<y then -1 else if y<x then 1 else 0
theorem cmp_isNaN (x:Int) (w:World):Calls Tryz.prog 163 #[x] w fun e w'=>e=.returned (.bool false)∧w=w':=by
 have h:(x != x)=false:=sM
 go_enter Tryz.func163,Tryz.ntmps163
 go_wp2;go_ret;exact⟨zj sM,rfl⟩
theorem cmp_Compare (x y:Int) (w:World):Calls Tryz.prog 132 #[x,y] w fun e w'=>e=.returned (.int .i64 (zii x y))∧w=w':=by
 by_cases h:x<y
 ·go_enter Tryz.func132,Tryz.ntmps132
  go_wp2_with (go_at_call 163;refine (cmp_isNaN _ _).mono ?_;rintro e w' ⟨rfl,rfl⟩)
  go_ret;exact⟨zD (by unfold zii;split<;>omega),rfl⟩
 ·by_cases h':y<x
  all_goals
   go_enter Tryz.func132,Tryz.ntmps132
   go_wp2_with (go_at_call 163;refine (cmp_isNaN _ _).mono ?_;rintro e w' ⟨rfl,rfl⟩)
   go_ret;exact⟨zD (by unfold zii;(repeat' split)<;>omega),rfl⟩
def orI:List Int->Int
 |[]=>0
 |x :: r=>if x=0 then orI r else x
theorem orI_stop {x:Int}(h:l[k]?=some x)(hk:∀ y∈l.take k,y=0)(hx:x≠0):orI l=x:=by
 induction l generalizing k with
 |nil=>simp at h
 |cons a r ih =>
  cases k with
  |zero=>simp at h;subst h;rw [orI,if_neg hx]
  |succ k =>
   have b:a=0:=hk a sM;rw [orI,if_pos b];exact ih (by simpa using h) (fun y hy=>hk y (by simp [hy]))
theorem orI_end (hk:∀ y∈l,y=0):orI l=0:=by
 induction l with
 |nil=>rfl
 |cons a r ih=>rw [orI,if_pos (hk a sM),ih fun y hy=>hk y (by simp [hy])]
theorem cmp_Or (h:Reads w lo hi 1 A n (ints l)) :
  Calls Tryz.prog 131 #[.slice A n c] w fun e w'=>e=.returned (.int .i64 (orI l))∧w=w':=by
 have q:=h.len;have g:=za (show l.length=n by have:=h.length;rw [zeC] at this;omega)
 go_enter Tryz.func131,Tryz.ntmps131
 go_wp2
 go_loop [8] (fun i=>∃ k:Nat,k<=n∧i=.int .i64 k∧Hid (∀ y∈l.take k,y=0)) (fun i=>n - (intOf i).toNat)
 case atStart=>exact⟨0,dD _,rfl,za sM⟩
 case round =>
  obtain⟨k,p,rfl,b⟩:=hrel
  by_cases hlt:k<n
  ·obtain⟨m,x,rfl,_,_,d,o⟩:=h.int hlt
   by_cases h0:x=0
   ·have j:((x:Int) != 0)=false:=by simp [h0]
    have f:=za h0;clear h0;go_wp2
    go_round
    case rel=>exact⟨k+1,oM,gM,za (by rw [dH,d.out];intro y a;simp at a;rcases a with a|a;exact b.out y a;rw [a,f.out])⟩
    case measure=>simp [intOf];omega
   ·have j:((x:Int) != 0)=true:=by simp [h0]
    go_wp2;go_ret;exact⟨zD (orI_stop d.out b.out h0).symm,rfl⟩
  ·obtain rfl:k=n:=oM;go_wp2;go_ret;have:=b.out;rw [List.take_of_length_le (oH g.out)] at this;exact⟨zD (orI_end this).symm,rfl⟩
def cmpE (a b:Edg):Int:=orI [zii a.fr b.fr,zii a.le b.le,zii a.ta b.ta]
def ltE (a b:Edg):Bool:=if a.fr=b.fr then if a.le=b.le then decide (a.ta<b.ta) else decide (a.le<b.le) else decide (a.fr<b.fr)
theorem cmpE_lt (a b:Edg):cmpE a b<0↔ltE a b=true:=by
 have f:∀ x y:Int,(zii x y=0↔x=y)∧(zii x y<0↔x<y):=fun x y=>by unfold zii;constructor<;>(repeat' split)<;>omega
 have c:=f a.fr b.fr;have d:=f a.le b.le;have g:=f a.ta b.ta;have i:cmpE a b=if zii a.fr b.fr=0 then if zii a.le b.le=0 then if zii a.ta b.ta=0 then 0 else zii a.ta b.ta else zii a.le b.le else zii a.fr b.fr:=rfl;rw [i,ltE]
 by_cases e1:a.fr=b.fr
 ·rw [if_pos (c.1.2 e1),if_pos e1]
  by_cases e2:a.le=b.le
  ·rw [if_pos (d.1.2 e2),if_pos e2]
   by_cases e3:zii a.ta b.ta=0
   ·rw [if_pos e3];have:=g.1.1 e3;simp;omega
   ·rw [if_neg e3,g.2];simp
  ·rw [if_neg (fun h=>e2 (d.1.1 h)),if_neg e2,d.2];simp
 ·rw [if_neg (fun h=>e1 (c.1.1 h)),if_neg e1,c.2];simp
theorem reads_lit (n:Nat) (l:List Int)(hc:cs.toList=ints l)(hl:l.length=n)(hn:n<=1000)(h:Ext (w.alloc (.cells cs t)) w'):Reads w' 0 w'.heap.size 1 (some ⟨w.heap.size,0,none⟩) n (ints l):=by
 have a:=zaV h;refine⟨by rw [zeC];omega,oM,fun _=>⟨_,rfl,dD _,a.lt,fun j u hu=>?_⟩⟩;rw [zK,Nat.zero_add,a.cell,← Array.getElem?_toList,hc];exact hu
theorem zcN {a b:Edg}  :
  Calls Tryz.prog 85 #[.agg #[a.fr,a.le,a.ta],.agg #[b.fr,b.le,b.ta]] w fun e w'=>e=.returned (.int .i64 (cmpE a b))∧Ext w w':=by
 go_enter Tryz.func85,Tryz.ntmps85
 go_wp2_with fail
 obtain⟨W,c⟩:∃ W:World,W=(w.alloc (.cells #[Value.int .i64 a.fr,a.le,a.ta] 103)).alloc (.cells #[Value.int .i64 b.fr,b.le,b.ta] 103):=⟨_,rfl⟩;have f:Ext w W:=by rw [c];exact ((cW _).alloc _).alloc _
 have d:=zT (show Ext ((w.alloc (.cells #[Value.int .i64 a.fr,a.le,a.ta] 103)).alloc (.cells #[Value.int .i64 b.fr,b.le,b.ta] 103)) W by rw [c];exact cW _);have g:∀ X,Ext W X->∀ j,X.cell? ⟨w.heap.size,j,none⟩=#[Value.int .i64 a.fr,.int .i64 a.le,.int .i64 a.ta][j]?:=fun X hX=>(d.1.ext hX).cell;have h:∀ X,Ext W X->∀ j,X.cell? ⟨w.heap.size+1,j,none⟩=#[Value.int .i64 b.fr,.int .i64 b.le,.int .i64 b.ta][j]?:=fun X hX=>(d.2.ext hX).cell;rw [← c];have i:=cW W;clear c d
 go_region_held3 (fun X=>Ext W X) (first|assumption|(refine eR ?_;assumption)|(refine Ext.alloc ?_ _;assumption)|(refine eR ?_;refine Ext.alloc ?_ _;assumption)|(refine eE ?_ aM;assumption)) (first|(go_at_call 132;refine (cmp_Compare _ _ _).mono ?_;rintro e w' ⟨rfl,rfl⟩)|(go_at_call 131;refine (cmp_Or (reads_lit 3 [zii a.fr b.fr,zii a.le b.le,zii a.ta b.ta] rfl rfl oM ((cW _).drew))).mono ?_;rintro e w' ⟨rfl,rfl⟩))
 all_goals (go_wp2_with fail;go_ret;exact⟨rfl,f.trans (by first|assumption|(refine eR ?_;assumption)|(refine Ext.alloc ?_ _;assumption)|(refine eR ?_;refine Ext.alloc ?_ _;assumption))⟩)
theorem zam {q:Int}  :
  Calls Tryz.prog 83 #[.agg #[al,st,.slice A n c],q] w fun e w'=>e=.returned (.bool (decide (0<=q)&&decide (q<st)))∧Ext w w':=by
 by_cases h0:0<=q
 all_goals
  go_enter Tryz.func83,Tryz.ntmps83
  go_wp2;go_ret;exact⟨zj (by simp;try omega),(cW _).alloc _⟩
def edgB (al:Nat) (st:Int) (e:Edg):Bool:=(decide (0<=e.fr)&&decide (e.fr<st))&&((decide (0<=e.ta)&&decide (e.ta<st))&&(decide (e.le<6)&&hasB al e.le))
def zbE (al:Nat) (st:Int) (l:List Edg) (k:Nat):Bool:=
 match l[k]? with
 |some e=>edgB al st e&&(decide (k=0) || match l[k - 1]? with
  |some p=>ltE p e
  |none=>false)
 |none=>false
def zl (s:Sys):Bool:=
 decide (0<=s.al∧s.al<=63)&&(decide (1<=s.st∧s.st<=16)&&(fI s.edges.length).all (zbE s.al.toNat s.st s.edges))
theorem zaq (h:zR w lo hi A n s) :
  Calls Tryz.prog 41 #[.agg #[s.al,s.st,.slice A n c]] w fun e w'=>e=.returned (.bool (zl s))∧Ext w w':=by
 have y:=za (show zl s=(decide (0<=s.al∧s.al<=63)&&(decide (1<=s.st∧s.st<=16)&&(fI n).all (zbE s.al.toNat s.st s.edges))) by unfold zl;rw [← h.1]);have hn:=h.2.len
 by_cases hal:0<=s.al∧s.al<=63
 ·by_cases hst:1<=s.st∧s.st<=16
  ·obtain⟨al,u⟩:∃ al:Nat,Hid (s.al=al):=⟨s.al.toNat,by unfold Hid;omega⟩;have B:Sm al:=by have:=u.out;unfold Sm;omega
   have I:=za (show decide (0<=(al:Int)∧(al:Int)<=63)=true by have:=u.out;simp;omega);rw [u.out];rw [u.out,eM] at y;clear hal;have ad:decide (s.st<1)=false:=by simp;omega
   have ae:decide (16<s.st)=false:=by simp;omega
   obtain⟨st,U,aw,ax⟩:∃ st:Int,Hid (s.st=st)∧1<=st∧st<=16:=⟨s.st,za rfl,hst.1,hst.2⟩;rw [U.out] at ad ae y ⊢;clear hst;have hR:=fun W (H:Ext w W)=>h.2.ext H;have HR:=za hR;clear hR
   go_enter Tryz.func41,Tryz.ntmps41
   go_wp2_with (go_at_call 54;refine (zY _ _).mono ?_;rw [I.out];rintro e w' ⟨rfl,rfl⟩)
   go_loopw [22] (fun i wr=>∃ k:Nat,k<=n∧i=.int .i64 k∧Hid (((fI n).take k).all (zbE al st s.edges)=true)∧Ext (w.alloc (.cells #[Value.int .i64 al,st,Value.slice A n c] 39)) wr)
    (fun i _=>n - (intOf i).toNat)
   case atStart=>exact⟨0,dD _,rfl,rfl,cW _⟩
   case round =>
    obtain⟨k,hk,rfl,x,m⟩:=hrel
    by_cases hlt:k<n
    ·obtain⟨b,o,e,rfl,av,ap,D,c0,c1,c2⟩:=(HR.out wr (((cW _).alloc _).trans m)).edge hlt;have aa:=zcs m;go_wp2_with fail
     obtain⟨W,H⟩:∃ W:World,W=wr.alloc (.cells #[Value.int .i64 e.fr,e.le,e.ta] 103):=⟨_,rfl⟩;have F:Ext wr W:=by rw [H];exact (cW _).alloc _
     have h1:=zaV (show Ext (wr.alloc (.cells #[Value.int .i64 e.fr,e.le,e.ta] 103)) W by rw [H];exact cW _);have e0:∀ X,Ext W X->∀ j,X.cell? ⟨w.heap.size,j,none⟩=#[Value.int .i64 al,.int .i64 st,Value.slice (some ⟨b,o,none⟩) n c][j]?:=fun X hX=>zcs ((m.trans F).trans hX);have e1:∀ X,Ext W X->∀ j,X.cell? ⟨wr.heap.size,j,none⟩=#[Value.int .i64 e.fr,.int .i64 e.le,.int .i64 e.ta][j]?:=fun X hX=>(h1.ext hX).cell;rw [← H];have hr:=cW W;clear H h1 aa c0 c1 c2;have Y:∀ X,Ext W X->Ext w X:=fun X hX=>((((cW _).alloc _).trans m).trans F).trans hX;have l:=za Y;clear Y;have R:(fI n)[k]?=some k:=by rw [gH hlt]
     have t:=za R;clear R;cases g:(decide (0<=e.fr)&&decide (e.fr<st))
     ·have L:=za g;clear g;have g:=L;clear L;refine zaj (fun X=>Ext W X) [0,1,2,3,4,5,6,7,8,9,10,11,12,13,14,15,16,17,18,19,20,21,22,23,24,25,26,27,28,29,30,31,32,33,34,35,36,37,38,39] kM rfl kM kM (fun _ _ _ _ _ h=>h) ((cW _).drew) (fun hS=>?_);refine sQ ?_;refine zaf (fun K hK=>?_);go_simp;refine (zam).mono ?_;rw [g.out];rintro r J ⟨rfl,d⟩;refine hK.out _ _ (eE aM d) (fun hS=>?_);refine pT ?_;refine sQ ?_;refine zcj ?_;go_wp2_with fail
      go_ret;exact⟨zj (by rw [y.out,zaF t.out (by rw [zbE,D.out];dsimp only;rw [edgB,g.out];simp)];simp),l.out _ aM⟩
     ·have L:=za g;clear g;have g:=L;clear L;cases q:(decide (0<=e.ta)&&decide (e.ta<st))
      ·have M:=za q;clear q;have q:=M;clear M;refine zaj (fun X=>Ext W X) [0,1,2,3,4,5,6,7,8,9,10,11,12,13,14,15,16,17,18,19,20,21,22,23,24,25,26,27,28,29,30,31,32,33,34,35,36,37,38,39] kM rfl kM kM (fun _ _ _ _ _ h=>h) ((cW _).drew) (fun hS=>?_);refine sQ ?_;refine zaf (fun K hK=>?_);go_simp;refine (zam).mono ?_;rw [g.out];rintro r J ⟨rfl,d⟩;refine hK.out _ _ (eE aM d) (fun hS=>?_);refine pT ?_;refine sQ ?_;refine zaf (fun K hK=>?_);go_simp;refine (zam).mono ?_;rw [q.out];rintro r V ⟨rfl,f⟩;refine hK.out _ _ (eE aM f) (fun hS=>?_);refine pT ?_;refine sQ ?_;refine zcj ?_;go_wp2_with fail
       go_ret;exact⟨zj (by rw [y.out,zaF t.out (by rw [zbE,D.out];dsimp only;rw [edgB,g.out,q.out];simp)];simp),l.out _ aM⟩
      ·have M:=za q;clear q;have q:=M;clear M
       by_cases hle:6<=e.le
       ·have hL:decide (6<=e.le)=true:=by simp;omega
        refine zaj (fun X=>Ext W X) [0,1,2,3,4,5,6,7,8,9,10,11,12,13,14,15,16,17,18,19,20,21,22,23,24,25,26,27,28,29,30,31,32,33,34,35,36,37,38,39] kM rfl kM kM (fun _ _ _ _ _ h=>h) ((cW _).drew) (fun hS=>?_);refine sQ ?_;refine zaf (fun K hK=>?_);go_simp;refine (zam).mono ?_;rw [g.out];rintro r J ⟨rfl,d⟩;refine hK.out _ _ (eE aM d) (fun hS=>?_);refine pT ?_;refine sQ ?_;refine zaf (fun K hK=>?_);go_simp;refine (zam).mono ?_;rw [q.out];rintro r V ⟨rfl,f⟩;refine hK.out _ _ (eE aM f) (fun hS=>?_);refine pT ?_;refine sQ ?_;refine zcj ?_;go_wp2_with fail
        go_ret;exact⟨zj (by rw [y.out,zaF t.out (by rw [zbE,D.out];dsimp only;rw [edgB,g.out,q.out];simp;omega)];simp),l.out _ aM⟩
       ·have hL:decide (6<=e.le)=false:=by simp;omega
        have S:=za (show decide (e.le<6)=true by simp;omega);cases v:hasB al e.le
        ·have O:=za v;clear v;have v:=O;clear O;refine zaj (fun X=>Ext W X) [0,1,2,3,4,5,6,7,8,9,10,11,12,13,14,15,16,17,18,19,20,21,22,23,24,25,26,27,28,29,30,31,32,33,34,35,36,37,38,39] kM rfl kM kM (fun _ _ _ _ _ h=>h) ((cW _).drew) (fun hS=>?_);refine sQ ?_;refine zaf (fun K hK=>?_);go_simp;refine (zam).mono ?_;rw [g.out];rintro r J ⟨rfl,d⟩;refine hK.out _ _ (eE aM d) (fun hS=>?_);refine pT ?_;refine sQ ?_;refine zaf (fun K hK=>?_);go_simp;refine (zam).mono ?_;rw [q.out];rintro r V ⟨rfl,f⟩;refine hK.out _ _ (eE aM f) (fun hS=>?_);refine pT ?_;refine sQ ?_;refine zaf (fun K hK=>?_);go_simp;refine (zbY _ _ B _).mono ?_;rw [v.out];rintro r w4 ⟨rfl,rfl⟩;refine hK.out _ _ aM (fun hS=>?_);refine pT ?_;refine sQ ?_;refine zcj ?_;go_wp2_with fail
         go_ret;exact⟨zj (by rw [y.out,zaF t.out (by rw [zbE,D.out];dsimp only;rw [edgB,g.out,q.out,v.out];simp)];simp),l.out _ aM⟩
        ·have O:=za v;clear v;have v:=O;clear O;have C:=za (show edgB al st e=true by rw [edgB,g.out,q.out,v.out,S.out];rfl)
         by_cases hk0:k=0
         ·subst hk0;refine zaj (fun X=>Ext W X) [0,1,2,3,4,5,6,7,8,9,10,11,12,13,14,15,16,17,18,19,20,21,22,23,24,25,26,27,28,29,30,31,32,33,34,35,36,37,38,39] kM rfl kM kM (fun _ _ _ _ _ h=>h) ((cW _).drew) (fun hS=>?_);refine sQ ?_;refine zaf (fun K hK=>?_);go_simp;refine (zam).mono ?_;rw [g.out];rintro r J ⟨rfl,d⟩;refine hK.out _ _ (eE aM d) (fun hS=>?_);refine pT ?_;refine sQ ?_;refine zaf (fun K hK=>?_);go_simp;refine (zam).mono ?_;rw [q.out];rintro r V ⟨rfl,f⟩;refine hK.out _ _ (eE aM f) (fun hS=>?_);refine pT ?_;refine sQ ?_;refine zaf (fun K hK=>?_);go_simp;refine (zbY _ _ B _).mono ?_;rw [v.out];rintro r w4 ⟨rfl,rfl⟩;refine hK.out _ _ aM (fun hS=>?_);refine pT ?_;refine sQ ?_;refine zcj ?_;go_wp2_with fail
          go_roundw
          case rel=>exact⟨0+1,oM,gM,zbX t.out x.out (by rw [zbE,D.out];dsimp only;rw [C.out];simp),(m.trans F).trans aM⟩
          case measure=>simp [intOf];omega
         ·obtain⟨j,rfl⟩:∃ j,k=j+1:=⟨k - 1,oM⟩;have hp:s.edges[j]?=some (s.edges[j]'(oH h.1)):=dC _;generalize s.edges[j]'(oH h.1)=p at hp;have Z:=za hp;clear hp;have z:=(HR.out wr (((cW _).alloc _).trans m)).edge2 Z.out;have p0:∀ X,Ext W X->X.cell? ⟨b,o+j*3,none⟩=some (.int .i64 p.fr):=fun X hX=>(F.trans hX).aa z.1;have p1:∀ X,Ext W X->X.cell? ⟨b,o+j*3+1,none⟩=some (.int .i64 p.le):=fun X hX=>(F.trans hX).aa z.2.1;have p2:∀ X,Ext W X->X.cell? ⟨b,o+j*3+2,none⟩=some (.int .i64 p.ta):=fun X hX=>(F.trans hX).aa z.2.2;clear z;have au:decide ((0:Int)<(j:Int)+1)=true:=decide_eq_true oM;have ay:IntKind.i64.wrap ((j:Int)+1 - 1)=(j:Int):=by rw [IntKind.wrap_i64];omega
          have az:IntKind.i64.wrap (j:Int)=(j:Int):=by rw [IntKind.wrap_i64];omega
          have aq:(0:Int)<=(j:Int):=oM;have ar:(j:Int)<(n:Int):=oM;have T:=cmpE_lt p e;have Q:=za T;clear T
          by_cases hc:0<=cmpE p e
          ·have ab:decide (0<=cmpE p e)=true:=by simpa using hc
           have E:=za (show ltE p e=false by rw [eZ];intro hh;have:=Q.out.2 hh;omega);refine zaj (fun X=>Ext W X) [0,1,2,3,4,5,6,7,8,9,10,11,12,13,14,15,16,17,18,19,20,21,22,23,24,25,26,27,28,29,30,31,32,33,34,35,36,37,38,39] kM rfl kM kM (fun _ _ _ _ _ h=>h) ((cW _).drew) (fun hS=>?_);refine sQ ?_;refine zaf (fun K hK=>?_);go_simp;refine (zam).mono ?_;rw [g.out];rintro r J ⟨rfl,d⟩;refine hK.out _ _ (eE aM d) (fun hS=>?_);refine pT ?_;refine sQ ?_;refine zaf (fun K hK=>?_);go_simp;refine (zam).mono ?_;rw [q.out];rintro r V ⟨rfl,f⟩;refine hK.out _ _ (eE aM f) (fun hS=>?_);refine pT ?_;refine sQ ?_;refine zaf (fun K hK=>?_);go_simp;refine (zbY _ _ B _).mono ?_;rw [v.out];rintro r w4 ⟨rfl,rfl⟩;refine hK.out _ _ aM (fun hS=>?_);refine pT ?_;refine sQ ?_;refine zaf (fun K hK=>?_);go_simp;refine (zcN (a:=p) (b:=e)).mono ?_;rintro r w5 ⟨rfl,G⟩;refine hK.out _ _ (eE aM G) (fun hS=>?_);refine pT ?_;refine sQ ?_;refine zcj ?_;go_wp2_with fail
           go_ret;exact⟨zj (by rw [y.out,zaF t.out (by rw [zbE,D.out];dsimp only;rw [fM,Z.out];simp [E.out])];simp),l.out _ aM⟩
          ·have ab:decide (0<=cmpE p e)=false:=by simp;omega
           have E:=za (show ltE p e=true from Q.out.1 oM);refine zaj (fun X=>Ext W X) [0,1,2,3,4,5,6,7,8,9,10,11,12,13,14,15,16,17,18,19,20,21,22,23,24,25,26,27,28,29,30,31,32,33,34,35,36,37,38,39] kM rfl kM kM (fun _ _ _ _ _ h=>h) ((cW _).drew) (fun hS=>?_);refine sQ ?_;refine zaf (fun K hK=>?_);go_simp;refine (zam).mono ?_;rw [g.out];rintro r J ⟨rfl,d⟩;refine hK.out _ _ (eE aM d) (fun hS=>?_);refine pT ?_;refine sQ ?_;refine zaf (fun K hK=>?_);go_simp;refine (zam).mono ?_;rw [q.out];rintro r V ⟨rfl,f⟩;refine hK.out _ _ (eE aM f) (fun hS=>?_);refine pT ?_;refine sQ ?_;refine zaf (fun K hK=>?_);go_simp;refine (zbY _ _ B _).mono ?_;rw [v.out];rintro r w4 ⟨rfl,rfl⟩;refine hK.out _ _ aM (fun hS=>?_);refine pT ?_;refine sQ ?_;refine zaf (fun K hK=>?_);go_simp;refine (zcN (a:=p) (b:=e)).mono ?_;rintro r w5 ⟨rfl,G⟩;refine hK.out _ _ (eE aM G) (fun hS=>?_);refine pT ?_;refine sQ ?_;refine zcj ?_;go_wp2_with fail
           go_roundw
           case rel=>exact⟨j+1+1,oM,gM,zbX t.out x.out (by rw [zbE,D.out];dsimp only;rw [fM,Z.out,C.out];simp [E.out]),(m.trans F).trans aM⟩
           case measure=>simp [intOf];omega
    ·obtain rfl:k=n:=oM;go_wp2;go_ret;exact⟨zj (by rw [y.out,zdy sM x.out,I.out];simp;omega),((cW _).alloc _).trans m⟩
  ·go_enter Tryz.func41,Tryz.ntmps41
   have I:=za (show decide (0<=s.al∧s.al<=63)=true by simp;omega);go_wp2_with (go_at_call 54;refine (zY _ _).mono ?_;rw [I.out];rintro e w' ⟨rfl,rfl⟩)
   all_goals go_ret
   all_goals exact⟨zj (by rw [y.out];simp [hst]),(cW _).alloc _⟩
 ·go_enter Tryz.func41,Tryz.ntmps41
  have I:=za (show decide (0<=s.al∧s.al<=63)=false by simp;omega);go_wp2_with (go_at_call 54;refine (zY _ _).mono ?_;rw [I.out];rintro e w' ⟨rfl,rfl⟩)
  go_ret;exact⟨zj (by rw [y.out];simp;omega),(cW _).alloc _⟩
theorem zdo {al:Nat}   (hsm:Sm al) :
  Calls Tryz.prog 139 #[al,st,.agg #[e.fr,e.le,e.ta]] w fun r w'=>r=.returned (.bool (edgB al st e))∧Ext w w':=by
 have a:=za (show edgB al st e=((decide (0<=e.fr)&&decide (e.fr<st))&&((decide (0<=e.ta)&&decide (e.ta<st))&&(decide (e.le<6)&&hasB al e.le))) from rfl)
 by_cases h0:e.fr<0
 ·go_enter Tryz.func139,Tryz.ntmps139
  go_wp2;go_ret;exact⟨zj (by rw [a.out];simp;omega),(cW _).alloc _⟩
 ·by_cases h1:st<=e.fr
  ·go_enter Tryz.func139,Tryz.ntmps139
   go_wp2;go_ret;exact⟨zj (by rw [a.out];simp;omega),(cW _).alloc _⟩
  ·by_cases h2:e.ta<0
   ·go_enter Tryz.func139,Tryz.ntmps139
    go_wp2;go_ret;exact⟨zj (by rw [a.out];simp;omega),(cW _).alloc _⟩
   ·by_cases h3:st<=e.ta
    ·go_enter Tryz.func139,Tryz.ntmps139
     go_wp2;go_ret;exact⟨zj (by rw [a.out];simp;omega),(cW _).alloc _⟩
    ·by_cases h4:0<=e.le
     ·by_cases h5:e.le<6
      ·obtain⟨le,b⟩:∃ le:Nat,Hid (e.le=le):=⟨e.le.toNat,by unfold Hid;omega⟩;have c:(le:Int)<6:=oH b.out;clear h4 h5;rw [b.out]
       go_enter Tryz.func139,Tryz.ntmps139
       go_wp2_with (go_at_call 112;refine (zao al le hsm _ oM).mono ?_;rintro r w' ⟨rfl,rfl⟩)
       go_ret;exact⟨zj (by rw [a.out,b.out,decide_eq_true (show 0<=e.fr by omega),decide_eq_true (show e.fr<st by omega),decide_eq_true (show 0<=e.ta by omega),decide_eq_true (show e.ta<st by omega),decide_eq_true c];simp [hasB]),(cW _).alloc _⟩
      ·go_enter Tryz.func139,Tryz.ntmps139
       go_wp2_with fail
       go_ret;exact⟨zj (by rw [a.out];simp;omega),(cW _).alloc _⟩
     ·go_enter Tryz.func139,Tryz.ntmps139
      go_wp2_with fail
      go_ret;exact⟨zj (by rw [a.out];simp [hasB];omega),(cW _).alloc _⟩
theorem zdn {a b:Edg}  :
  Calls Tryz.prog 123 #[.agg #[a.fr,a.le,a.ta],.agg #[b.fr,b.le,b.ta]] w fun e w'=>e=.returned (.bool (ltE a b))∧Ext w w':=by
 have c:=za (show ltE a b=if a.fr=b.fr then if a.le=b.le then decide (a.ta<b.ta) else decide (a.le<b.le) else decide (a.fr<b.fr) from rfl);have g:Ext w ((w.alloc (.cells #[Value.int .i64 a.fr,a.le,a.ta] 103)).alloc (.cells #[Value.int .i64 b.fr,b.le,b.ta] 103)):=((cW _).alloc _).alloc _;have d:=za g;clear g
 by_cases h0:a.fr=b.fr
 ·have i:(a.fr != b.fr)=false:=by simp [h0]
  have f:=za h0;clear h0
  by_cases h1:a.le=b.le
  ·have j:(a.le != b.le)=false:=by simp [h1]
   have h:=za h1;clear h1
   go_enter Tryz.func123,Tryz.ntmps123
   go_wp2;go_ret;exact⟨zj (by rw [c.out,if_pos f.out,if_pos h.out]),d.out⟩
  ·have j:(a.le != b.le)=true:=by simp [h1]
   go_enter Tryz.func123,Tryz.ntmps123
   go_wp2;go_ret;exact⟨zj (by rw [c.out,if_pos f.out,if_neg h1]),d.out⟩
 ·have i:(a.fr != b.fr)=true:=by simp [h0]
  go_enter Tryz.func123,Tryz.ntmps123
  go_wp2;go_ret;exact⟨zj (by rw [c.out,if_neg h0]),d.out⟩
theorem zah (h:zR w lo hi A n s) :
  Calls Tryz.prog 94 #[.agg #[s.al,s.st,.slice A n c]] w fun e w'=>e=.returned (.bool (zl s))∧Ext w w':=by
 have y:=za (show zl s=(decide (0<=s.al∧s.al<=63)&&(decide (1<=s.st∧s.st<=16)&&(fI n).all (zbE s.al.toNat s.st s.edges))) by unfold zl;rw [← h.1]);have hn:=h.2.len
 by_cases hal:0<=s.al∧s.al<=63
 ·by_cases hst:1<=s.st∧s.st<=16
  ·obtain⟨al,g⟩:∃ al:Nat,Hid (s.al=al):=⟨s.al.toNat,by unfold Hid;omega⟩;have u:Sm al:=by have:=g.out;unfold Sm;omega
   have B:=za (show decide (0<=(al:Int)∧(al:Int)<=63)=true by have:=g.out;simp;omega);rw [g.out];rw [g.out,eM] at y;clear hal;have I:decide (s.st<1)=false:=by simp;omega
   have J:decide (16<s.st)=false:=by simp;omega
   obtain⟨st,D,ah,ai⟩:∃ st:Int,Hid (s.st=st)∧1<=st∧st<=16:=⟨s.st,za rfl,hst.1,hst.2⟩;rw [D.out] at I J y ⊢;clear hst;have T:=fun W (hW:Ext w W)=>h.2.ext hW;have O:=za T;clear T
   go_enter Tryz.func94,Tryz.ntmps94
   go_wp2_with (go_at_call 59;refine (zS _ _).mono ?_;rw [B.out];rintro e w' ⟨rfl,rfl⟩)
   go_loopw [3] (fun i wr=>∃ k:Nat,k<=n∧i=.int .i64 k∧Hid (((fI n).take k).all (zbE al st s.edges)=true)∧Ext (w.alloc (.cells #[Value.int .i64 al,st,Value.slice A n c] 39)) wr)
    (fun i _=>n - (intOf i).toNat)
   case atStart=>exact⟨0,dD _,rfl,rfl,cW _⟩
   case round =>
    obtain⟨k,hk,rfl,l,d⟩:=hrel;have H:=zcs d
    by_cases hlt:k<n
    ·obtain⟨b,o,e,rfl,ag,Y,F,Q,R,S⟩:=(O.out wr (((cW _).alloc _).trans d)).edge hlt;go_wp2_with fail
     clear H;have e0:∀ X,Ext wr X->∀ j,X.cell? ⟨w.heap.size,j,none⟩=#[Value.int .i64 al,.int .i64 st,Value.slice (some ⟨b,o,none⟩) n c][j]?:=fun X hX=>zcs (d.trans hX);have q0:∀ X,Ext wr X->X.cell? ⟨b,o+k*3,none⟩=some (.int .i64 e.fr):=fun X hX=>hX.aa Q;have q1:∀ X,Ext wr X->X.cell? ⟨b,o+k*3+1,none⟩=some (.int .i64 e.le):=fun X hX=>hX.aa R;have q2:∀ X,Ext wr X->X.cell? ⟨b,o+k*3+2,none⟩=some (.int .i64 e.ta):=fun X hX=>hX.aa S;have hr:=cW wr;clear Q R S;have E:∀ X,Ext wr X->Ext w X:=fun X hX=>(((cW _).alloc _).trans d).trans hX;have v:=za E;clear E;have U:(0:Int)<=(k:Int):=oM;have V:(k:Int)<(n:Int):=oM;have C:(fI n)[k]?=some k:=by rw [gH hlt]
     have q:=za C;clear C;cases hA':edgB al st e
     ·have x:=za hA';clear hA';refine zaj (fun X=>Ext wr X) [0,1,2,3,4,5,6,7,8,9,10,11,12,13,14,15,16,17,18,19,20,21,22,23,24,25,26,27,28,29] kM rfl kM kM (fun _ _ _ _ _ h=>h) ((cW _).drew) (fun hS=>?_);refine sQ ?_;refine zaf (fun K hK=>?_);go_simp;refine (zdo (e:=e) u).mono ?_;rw [x.out];rintro r M ⟨rfl,f⟩;refine hK.out _ _ (eE aM f) (fun hS=>?_);refine pT ?_;refine sQ ?_;refine zcj ?_;go_wp2_with fail
      go_ret;exact⟨zj (by rw [y.out,zaF q.out (by rw [zbE,F.out];dsimp only;rw [x.out];simp)];simp),v.out _ aM⟩
     ·have x:=za hA';clear hA'
      by_cases hk0:k=0
      ·subst hk0;simp only [Nat.zero_mul,Nat.add_zero] at q0 q1 q2;refine zaj (fun X=>Ext wr X) [0,1,2,3,4,5,6,7,8,9,10,11,12,13,14,15,16,17,18,19,20,21,22,23,24,25,26,27,28,29] kM rfl kM kM (fun _ _ _ _ _ h=>h) ((cW _).drew) (fun hS=>?_);refine sQ ?_;refine zaf (fun K hK=>?_);go_simp;refine (zdo (e:=e) u).mono ?_;rw [x.out];rintro r M ⟨rfl,f⟩;refine hK.out _ _ (eE aM f) (fun hS=>?_);refine pT ?_;refine sQ ?_;refine zcj ?_;go_wp2_with fail
       go_roundw
       case rel=>exact⟨0+1,oM,gM,zbX q.out l.out (by rw [zbE,F.out];dsimp only;rw [x.out];simp),d.trans aM⟩
       case measure=>simp [intOf];omega
      ·obtain⟨j,rfl⟩:∃ j,k=j+1:=⟨k - 1,oM⟩;have L:s.edges[j]?=some (s.edges[j]'(oH h.1)):=dC _;generalize s.edges[j]'(oH h.1)=p at L;have G:=za L;clear L;have t:=(O.out wr (((cW _).alloc _).trans d)).edge2 G.out;have p0:∀ X,Ext wr X->X.cell? ⟨b,o+j*3,none⟩=some (.int .i64 p.fr):=fun X hX=>hX.aa t.1;have p1:∀ X,Ext wr X->X.cell? ⟨b,o+j*3+1,none⟩=some (.int .i64 p.le):=fun X hX=>hX.aa t.2.1;have p2:∀ X,Ext wr X->X.cell? ⟨b,o+j*3+2,none⟩=some (.int .i64 p.ta):=fun X hX=>hX.aa t.2.2;clear t;have af:decide ((0:Int)<(j:Int)+1)=true:=decide_eq_true oM;have aj:IntKind.i64.wrap ((j:Int)+1 - 1)=(j:Int):=by rw [IntKind.wrap_i64];omega
       have ak:IntKind.i64.wrap (j:Int)=(j:Int):=by rw [IntKind.wrap_i64];omega
       have Z:(0:Int)<=(j:Int):=oM;have aa:(j:Int)<(n:Int):=oM;have ab:(0:Int)<=(j:Int)+1:=oM;have ad:(j:Int)+1<(n:Int):=oM;have ae:((j:Int)+1).toNat=j+1:=oM;cases hnl':ltE p e
       ·have m:=za hnl';clear hnl';refine zaj (fun X=>Ext wr X) [0,1,2,3,4,5,6,7,8,9,10,11,12,13,14,15,16,17,18,19,20,21,22,23,24,25,26,27,28,29] kM rfl kM kM (fun _ _ _ _ _ h=>h) ((cW _).drew) (fun hS=>?_);refine sQ ?_;refine zaf (fun K hK=>?_);go_simp;refine (zdo (e:=e) u).mono ?_;rw [x.out];rintro r M ⟨rfl,f⟩;refine hK.out _ _ (eE aM f) (fun hS=>?_);refine pT ?_;refine sQ ?_;refine zaf (fun K hK=>?_);go_simp;refine (zdn (a:=p) (b:=e)).mono ?_;rw [m.out];rintro r w3 ⟨rfl,z⟩;refine hK.out _ _ (eE aM z) (fun hS=>?_);refine pT ?_;refine sQ ?_;refine zcj ?_;go_wp2_with fail
        go_ret;exact⟨zj (by rw [y.out,zaF q.out (by rw [zbE,F.out];dsimp only;rw [fM,G.out];simp [m.out])];simp),v.out _ aM⟩
       ·have m:=za hnl';clear hnl';refine zaj (fun X=>Ext wr X) [0,1,2,3,4,5,6,7,8,9,10,11,12,13,14,15,16,17,18,19,20,21,22,23,24,25,26,27,28,29] kM rfl kM kM (fun _ _ _ _ _ h=>h) ((cW _).drew) (fun hS=>?_);refine sQ ?_;refine zaf (fun K hK=>?_);go_simp;refine (zdo (e:=e) u).mono ?_;rw [x.out];rintro r M ⟨rfl,f⟩;refine hK.out _ _ (eE aM f) (fun hS=>?_);refine pT ?_;refine sQ ?_;refine zaf (fun K hK=>?_);go_simp;refine (zdn (a:=p) (b:=e)).mono ?_;rw [m.out];rintro r w3 ⟨rfl,z⟩;refine hK.out _ _ (eE aM z) (fun hS=>?_);refine pT ?_;refine sQ ?_;refine zcj ?_;go_wp2_with fail
        go_roundw
        case rel=>exact⟨j+1+1,oM,gM,zbX q.out l.out (by rw [zbE,F.out];dsimp only;rw [fM,G.out,x.out];simp [m.out]),d.trans aM⟩
        case measure=>simp [intOf];omega
    ·obtain rfl:k=n:=oM;go_wp2;go_ret;exact⟨zj (by rw [y.out,zdy sM l.out,B.out];simp;omega),((cW _).alloc _).trans d⟩
  ·go_enter Tryz.func94,Tryz.ntmps94
   have B:=za (show decide (0<=s.al∧s.al<=63)=true by simp;omega);go_wp2_with (go_at_call 59;refine (zS _ _).mono ?_;rw [B.out];rintro e w' ⟨rfl,rfl⟩)
   all_goals go_ret
   all_goals exact⟨zj (by rw [y.out];simp [hst]),(cW _).alloc _⟩
 ·go_enter Tryz.func94,Tryz.ntmps94
  have B:=za (show decide (0<=s.al∧s.al<=63)=false by simp;omega);go_wp2_with (go_at_call 59;refine (zS _ _).mono ?_;rw [B.out];rintro e w' ⟨rfl,rfl⟩)
  go_ret;exact⟨zj (by rw [y.out];simp;omega),(cW _).alloc _⟩
theorem zcf (h:zl s=true):∃ p:Nat,s.st=p∧1<=p∧p<=16∧Few p s.edges:=by
 simp only [zl,dF,decide_eq_true_eq,eG,List.mem_range] at h;obtain⟨_,⟨c,d⟩,b⟩:=h;refine⟨s.st.toNat,oM,oM,oM,fun e he=>?_⟩;obtain⟨k,a⟩:=List.getElem?_of_mem he;have:=b k (List.getElem?_eq_some_iff.1 a).1;rw [zbE,a] at this;simp only [dF,edgB,decide_eq_true_eq,hasB] at this;omega
def RetFmt (s:Sys) (w:World) (e:Ending) (w':World):Prop:=∃ t:ByteArray,e=.returned (.string t)∧(zl s=false->t.size=0)∧Ext w w'
theorem valid_al (h:zl s=true):∃ a:Nat,s.al=a∧a<64:=by
 simp only [zl,dF,decide_eq_true_eq] at h;exact⟨s.al.toNat,oM,oM⟩
theorem zfA (h:zR w lo hi A n s)(hn:n<=1000000) :
  Calls Tryz.prog 122 #[.agg #[s.al,s.st,.slice A n c]] w (RetFmt s w):=by
 have R:=za (fun W (hW:Ext w W)=>h.ext hW);clear h;cases h1:zl s
 ·have L:=za h1;clear h1
  go_enter Tryz.func122,Tryz.ntmps122
  go_wp2_with (go_at_call 94;refine (zah (R.out _ ((cW _).alloc _))).mono ?_;rw [L.out];rintro e Q ⟨rfl,M⟩)
  go_ret;exact⟨_,rfl,fun _=>rfl,((cW _).alloc _).trans M⟩
 ·obtain⟨p,hp,ax,ay,hf⟩:=zcf h1;obtain⟨a,ha,S⟩:=valid_al h1;have L:=za h1;have Hf:=za hf;have Hp:=za hp;have Ha:=za ha;clear h1 hf hp ha
  go_enter Tryz.func122,Tryz.ntmps122
  go_wp2_with fail
  refine (zah (R.out _ ((cW _).alloc _))).mono ?_;rw [L.out];rintro e Q ⟨rfl,M⟩;have b1:=zaV M;rw [Ha.out,Hp.out] at b1;have G:=((cW w).alloc _).trans M;have cb:=b1.cells;go_wp2_with fail
  refine tR (fun X=>Ext Q X) [] (Ord.of [0,1,4,5,2,3,6,7,8]) ?_;refine tQ ?_;refine zA fun K hK=>?_;go_simp;refine (zbA S).mono ?_;rintro e w2 ⟨j,rfl,C,m⟩;have f:=((cW Q).drew).trans m;have q1:¬ 9223372036854775807<j.size+1:=oM;refine hK.out _ _ f ?_;refine pT ?_;refine tQ ?_;refine zA fun K hK=>?_;go_simp;refine (zdk (n:=p) oM).mono ?_;rintro e w3 ⟨y,rfl,D,q⟩;have g:=f.trans q;have q2:¬ 9223372036854775807<j.size+1+y.size:=oM;refine hK.out _ _ g ?_;refine pT ?_;refine tQ ?_;refine zai ?_;obtain⟨O,z⟩:∃ O:ByteArray,O=j++{ data:=#[32] }++y:=⟨_,rfl⟩;have B:O.size<=20:=by rw [z,ByteArray.size_append,ByteArray.size_append];show j.size+1+y.size<=20;omega
  rw [← z];clear z q1 q2 C D m q f;have d:=g;go_wp2_with fail
  go_loopw [3,4] (fun v i wr=>∃ (k:Nat) (t:ByteArray),k<=n∧i=.int .i64 k∧v=.string t∧t.size<=20+20*k∧Ext Q wr) (fun _ i _=>n - (intOf i).toNat)
  case atStart=>exact⟨0,O,dD _,rfl,rfl,B,d⟩
  case round =>
   clear d g B;obtain⟨k,t,hk,rfl,rfl,ht,r⟩:=hrel;have aq:=cb wr r
   by_cases hlt:k<n
   ·obtain⟨b,o,x,rfl,_,_,V,c0,c1,c2⟩:=(R.out wr (G.trans r)).2.edge hlt;obtain⟨⟨f0,f1⟩,⟨g0,g1⟩,⟨t0,t1⟩⟩:=Hf.out x (cX V.out);obtain⟨u,E⟩:∃ u:Nat,x.fr=u:=⟨x.fr.toNat,oM⟩;obtain⟨v,F⟩:∃ v:Nat,x.ta=v:=⟨x.ta.toNat,oM⟩;rw [E] at c0 f0 f1;rw [F] at c2 t0 t1;clear E F;go_wp2_with fail
    generalize U0:wr.alloc _=wq at *;have Z:=Ext.al_ U0;have T:=Ext.bl_ U0;clear U0;have cq:=T.cells;have q0:¬ 9223372036854775807<t.size+1:=oM;refine tR (fun X=>Ext wq X) [] (Ord.of [0,1,2,3,6,7,10,11,4,5,8,9,12,13,14]) ?_;refine tQ ?_;refine zA fun K hK=>?_;go_simp;refine (zdk (n:=u) oM).mono ?_;rintro e w2 ⟨j,rfl,C,m⟩;have H:=((cW wq).drew).trans m;have q1:¬ 9223372036854775807<t.size+1+j.size:=oM;refine hK.out _ _ H ?_;refine pT ?_;refine tQ ?_;refine zA fun K hK=>?_;go_simp;refine (zdm (l:=x.le) g0 g1).mono ?_;rintro e w3 ⟨y,rfl,D,q⟩;have I:=H.trans q;have q2:¬ 9223372036854775807<t.size+1+j.size+y.size:=oM;refine hK.out _ _ I ?_;refine pT ?_;refine tQ ?_;refine zA fun K hK=>?_;go_simp;refine (zdk (n:=v) oM).mono ?_;rintro e w5 ⟨t5,rfl,az,Y⟩;have J:=I.trans Y;have q3:¬ 9223372036854775807<t.size+1+j.size+y.size+t5.size:=oM;refine hK.out _ _ J ?_;refine pT ?_;refine tQ ?_;refine zai ?_;have U:(t++{ data:=#[32] }++j++y++t5).size<=20+20*(k+1):=by
     simp only [ByteArray.size_append];show t.size+1+j.size+y.size+t5.size<=_;omega
    clear q0 q1 q2 q3;go_wp2_with fail
    go_roundw
    case rel=>exact⟨k+1,_,oM,gM,rfl,U,(r.trans Z).trans J⟩
    case measure=>simp [intOf];omega
   ·obtain rfl:n=k:=oM;go_wp2_with fail
    go_ret;have hv:=L.out;exact⟨t,rfl,fun h=>absurd (hv.symm.trans h) dM,G.trans r⟩
theorem zfG {a:Aut}(h:zh a=true):∃ al:Nat,a.al=al∧al<64∧1<=a.next.length∧a.next.length<=12∧a.acc.length=a.next.length∧∀ l∈a.next,l.length=(letters al 6).length∧∀ q∈l,0<=q∧q<a.next.length:=by
 simp only [zh,dF,decide_eq_true_eq,eG,ziE] at h;obtain⟨f,b,d,c⟩:=h;refine⟨a.al.toNat,oM,oM,b.1,b.2,d,fun l hl=>⟨(c l hl).1,fun q hq=>(c l hl).2 q hq⟩⟩
def RetFmtA (a:Aut) (w:World) (e:Ending) (w':World):Prop:=∃ t:ByteArray,e=.returned (.string t)∧(zh a=false->t.size=0)∧Ext w w'
theorem zeb {A':Option Addr} {n' c':Nat} {a:Aut} (h:zI w lo hi A n A' n' a) :
  Calls Tryz.prog 26 #[.agg #[a.al,.slice A n c,.slice A' n' c']] w (RetFmtA a w):=by
 have HV:=za (fun W (hW:Ext w W)=>zH lo hi A n c A' n' c' a W ⟨h.1.ext hW,h.2.1,h.2.2.ext hW⟩);cases h1:zh a
 ·have L:=za h1;clear h1 h
  go_enter Tryz.func26,Tryz.ntmps26
  go_wp2_with (go_at_call 27;refine (HV.out _ ((cW _).alloc _)).mono ?_;rw [L.out];rintro e w1 ⟨rfl,I⟩)
  go_ret;exact⟨_,rfl,fun _=>rfl,((cW _).alloc _).trans I⟩
 ·obtain⟨al,ha,M,S,T,O,d⟩:=zfG h1;have L:=za h1;have Hn:=za h.n1;have ao:=za h.n2;have Ha:=za ha;have g:=za d;have HS:=za (fun W (hW:Ext w W)=>h.1.ext hW);have HB:=za (fun W (hW:Ext w W)=>h.2.2.ext hW);have e1:n=n':=by have:=h.n1;have:=h.n2;omega
  subst e1;have ay:n<=12:=oH h.n1;clear h1 ha S T O d h
  go_enter Tryz.func26,Tryz.ntmps26
  go_wp2_with fail
  refine (HV.out _ ((cW _).alloc _)).mono ?_;rw [L.out];rintro e w1 ⟨rfl,I⟩;have b1:=zaV I;rw [Ha.out] at b1;have p:=((cW w).alloc _).trans I;have cb:=b1.cells;have Y:=cW w1;clear I;go_wp2_with fail
  refine (zbA M).mono ?_;rintro e w2 ⟨y,rfl,G,J⟩;go_wp2_with fail
  go_loopw [3,4] (fun v i wr=>∃ (k:Nat) (t:ByteArray),k<=n∧i=.int .i64 k∧v=.string t∧t.size<=20+100*k∧Ext w1 wr) (fun _ i _=>n - (intOf i).toNat)
  case atStart=>exact⟨0,y,dD _,rfl,rfl,oM,J⟩
  case round =>
   clear J G Y;obtain⟨k,t,hk,rfl,rfl,ht,b⟩:=hrel;have D:=cb wr b
   by_cases hlt:k<n
   ·obtain⟨ad,Ak,ck,l,rfl,_,_,hl,o,F⟩:=(HS.out wr (p.trans b)).row hlt;obtain⟨ap,x,rfl,_,_,-,Q⟩:=(HB.out wr (p.trans b)).bool hlt;have hq:=za (g.out l (cX hl.out));have aw:l.length<=6:=by have:=hq.out.1;have:=zB al 6;omega
    have C:=za (fun W (hW:Ext wr W)=>F.ext hW);have B:=za (fun W (hW:Ext wr W)=>hW.aa o);have z:=za (fun W (hW:Ext wr W)=>cb W (b.trans hW));have s:=cW wr;clear F;go_upto_if 24 with fail
    go_cut [5] (fun s5 wx=>∃ m:ByteArray,s5=.string m∧m.size=2∧Ext wr wx)
    case first =>
     cases x
     ·go_wp2_with fail
      go_meet;exact⟨{ data:=#[32,45] },rfl,rfl,s⟩
     ·go_wp2_with fail
      go_meet;exact⟨{ data:=#[32,43] },rfl,rfl,s⟩
    case rest =>
     clear o Q D s;obtain⟨m,rfl,R,r⟩:=hcut;obtain⟨wK,H⟩:∃ wK,wK=wr:=⟨_,rfl⟩;rw [← H] at C B z r b;clear H;have q0:¬ 9223372036854775807<t.size+m.size:=oM;have az:(t++m).size=t.size+2:=by rw [ByteArray.size_append,R]
     go_upto_region 11 with fail
     generalize t++m=t1 at *;clear q0;go_wp2_with fail
     go_loopw [3,6] (fun v jv wr=>∃ (j:Nat) (t:ByteArray),j<=l.length∧jv=.int .i64 j∧v=.string t∧t.size<=22+100*k+10*j∧Ext wK wr) (fun _ jv _=>l.length - (intOf jv).toNat)
     case atStart=>exact⟨0,t1,dD _,rfl,rfl,oM,r⟩
     case round =>
      clear r;obtain⟨j,y,hj,rfl,rfl,G,f⟩:=hrel;have D:=z.out wr f;have o:=B.out wr f
      by_cases hjl:j<l.length
      ·obtain⟨aq,q,rfl,-,-,X,au⟩:=(C.out wr f).int hjl;obtain⟨U,V⟩:=hq.out.2 q (cX X.out);obtain⟨u,rfl⟩:∃ u:Nat,q=u:=⟨q.toNat,oM⟩;have hu:u<100:=oH Hn.out;clear U V;go_upto_if 39 with fail
       go_cut [3] (fun s3 wx=>∃ m:ByteArray,s3=.string m∧m.size<=y.size+1∧wx=wr)
       case first =>
        by_cases hj0:0<j
        ·have E:((j:Int)>0):=oM;have q1:¬ 9223372036854775807<y.size+1:=oM;go_wp2_with fail
         go_meet;exact⟨_,rfl,by rw [ByteArray.size_append];exact cY _,rfl⟩
        ·have E:¬ ((j:Int)>0):=oM;go_wp2_with fail
         go_meet;exact⟨y,rfl,oM,rfl⟩
       case rest =>
        obtain⟨m3,rfl,ax,rfl⟩:=hcut;go_wp2_with fail
        refine (zdk (n:=u) hu).mono ?_;rintro e w4 ⟨t4,rfl,aA,Z⟩;have q2:¬ 9223372036854775807<m3.size+t4.size:=oM;go_wp2_with fail
        go_roundw
        case rel=>exact⟨j+1,_,oM,gM,rfl,by rw [ByteArray.size_append];omega,f.trans Z⟩
        case measure=>simp [intOf];omega
      ·obtain rfl:j=l.length:=oM;go_wp2_with fail
       go_roundw
       case rel=>exact⟨k+1,y,oM,gM,rfl,oM,b.trans f⟩
       case measure=>simp [intOf];omega
   ·obtain rfl:n=k:=oM;go_wp2_with fail
    go_ret;have hv:=L.out;exact⟨t,rfl,fun h=>absurd (hv.symm.trans h) dM,p.trans b⟩
def RetTx (L:List UInt8) (w:World) (e:Ending) (w':World):Prop:=∃ t:ByteArray,e=.returned (.string t)∧Hid (t.data.toList=L)∧Ext w w'
theorem tx_size {t:ByteArray} {L:List UInt8}(h:t.data.toList=L):t.size=L.length:=by
 rw [← h,Array.length_toList];rfl
theorem tx_app {t u:ByteArray} {L M:List UInt8}(h:t.data.toList=L) (g:u.data.toList=M):(t++u).data.toList=L++M:=by
 rw [ByteArray.data_append,Array.toList_append,h,g]
theorem rowsX_take {a:Aut}   {b:Bool}(hl:a.next[k]?=some l)(hb:a.acc[k]?=some b):((zdj a).take (k+1)).flatMap (32 :: ·)=((zdj a).take k).flatMap (32 :: ·)++32 :: rowX b l:=by
 have h:(zdj a)[k]?=some (rowX b l):=by
  unfold zdj;rw [dQ,(List.getElem?_zip_eq_some (z:=(l,b))).2 ⟨hl,hb⟩];rfl
 rw [dH,h,List.flatMap_append];simp
section
open Go.Lib Go.Shelf
theorem zhS (y:ByteArray) (w:World):Calls Tryz.prog 155 #[y,.string ⟨#[44]⟩] w fun e w'=>e=.returned (.int .i64 (Lib.index y.data.toList [44]))∧w'=w:=by
 have h:=Any.strings_Index_one { zgj with } y 44 w
 rw [Lib.index_one];exact h
theorem lib_Split {s:ByteArray} (hs:s.size<=2000000):Calls Tryz.prog 64 #[s,.string ⟨#[32]⟩] w (RetCut 32 s w):=by
 have f:=Lib.countB_le ⟨#[32]⟩ dM s.size s (cY _);have a:=Lib.splitB_all ⟨#[32]⟩ dM 0 _ s rfl;have g:=Any.strings_Count_one { zgj with } s 32 w
 rw [show ((Lib.countByte s.data.toList 32:Nat):Int)=(Lib.countB s ⟨#[32]⟩:Nat) by
  show _=((Lib.count s.data.toList [32]:Nat):Int);rw [Lib.count_one];rfl] at g
 have d:=Any.strings_genSplit_core { zgj with } laySplit9 s ⟨#[32]⟩ 0 (-1) (Lib.countB s ⟨#[32]⟩+1) w oM dM dM
  (fun x c hx=>by
   have h:=Any.strings_Index_one { zgj with } x 32 (w.alloc (.cells c (zdA.t 9)))
   rw [← Lib.index_one] at h;exact h) g dM dM (by rw [if_pos dM];omega)
 rw [fM,a] at d;have k:Lib.cellsOf (Lib.splitB ⟨#[32]⟩ 0 (Lib.countB s ⟨#[32]⟩) s) (Lib.countB s ⟨#[32]⟩+1)=((Lib.splitB ⟨#[32]⟩ 0 (Lib.countB s ⟨#[32]⟩) s).map Value.string).toArray:=by rw [← a];exact Lib.cellsOf_full _
 rw [k] at d;change Calls Tryz.prog 114 _ _ _ at d;have b:=za (split_bytes 32 s);have m:=za d;clear d g k;generalize Lib.splitB ⟨#[32]⟩ 0 (Lib.countB s ⟨#[32]⟩) s=l at *;generalize Lib.countB s ⟨#[32]⟩=j at *;have i:=za a;have n:j<=s.size:=f;clear a f
 go_enter Tryz.func64,Tryz.ntmps64
 go_wp2_with (go_at_call 114;refine m.out.mono ?_;rintro e o ⟨rfl,rfl⟩)
 go_ret;refine⟨_,_,_,l,rfl,i.out.symm,oM,?_,oM,b,(cW _).alloc _⟩;exact World.ownsRow_lit (base:=w.heap.size) (e:=9) (size:=1) w (l.map Value.string).toArray (j+1) (cY _) lM (by simp [i.out])
def Sent (w:World):Prop:=(∃ v,w.cell? ⟨2,0,none⟩=some v∧(v=.nilIface∨∃ t p,v=.iface t p))∧∃ v,w.cell? ⟨3,0,none⟩=some v∧(v=.nilIface∨∃ t p,v=.iface t p)
theorem Sent.ext (h:Sent w)(hx:Ext w w'):Sent w':=by
 obtain⟨⟨u,c,a⟩,⟨v,d,b⟩⟩:=h;exact⟨⟨u,hx.aa c,a⟩,⟨v,hx.aa d,b⟩⟩
def RetAt (s:ByteArray) (w:World) (e:Ending) (w':World):Prop:=
 ((∃ v:Int,e=.returned (.tuple #[v,.nilIface])∧Hid (Lib.atoiAll s.data.toList=.ok v))∨(∃ (v:Int) (t:TypeId) (p:Value),e=.returned (.tuple #[v,.iface t p])∧Hid (∀ v,Lib.atoiAll s.data.toList≠.ok v)))∧Ext w w'
theorem lib_Atoi {s:ByteArray} (hs:s.size<=2000000)(hE:Sent w):Calls Tryz.prog 116 #[s] w (RetAt s w):=by
 obtain⟨⟨u,g,c⟩,⟨v,i,d⟩⟩:=hE;cases h:Lib.atoiAll s.data.toList with
 |ok n =>
  have a:=Any.strconv_Atoi_ok layAtoi s oM n h w;change Calls Tryz.prog 116 _ _ _ at a;refine a.mono (mQ fun f j=>?_);refine⟨.inl ⟨n,rfl,za h⟩,?_⟩;rcases j with rfl|⟨t,rfl⟩
  ·exact cW _
  ·exact Ext.av (Lib.bytesWorld_below _ _ _)
 |_ =>
  first
  |(have a:=Any.strconv_Atoi_syntax layAtoi s oM h u w g c
    change Calls Tryz.prog 116 _ _ _ at a;refine a.mono ?_;rintro e f ⟨N,rfl,-,-,b⟩;exact⟨.inr ⟨_,_,_,rfl,za (fun v e=>by rw [h] at e;cases e)⟩,Ext.av b⟩)
  |(have a:=Any.strconv_Atoi_range layAtoi s oM h v w i d
    change Calls Tryz.prog 116 _ _ _ at a;refine a.mono ?_;rintro e f ⟨N,rfl,-,-,b⟩;exact⟨.inr ⟨_,_,_,rfl,za (fun v e=>by rw [h] at e;cases e)⟩,Ext.av b⟩)
end
theorem err_star : "*" ++ "errors.errorString" = "*errors.errorString" := by decide
theorem err_row (u : TypeId) (h : Tryz.prog.typeName? 3 u = some "*errors.errorString") : u = 268 :=
 typeName_ptr_named (nm := "errors.errorString") (by rw [err_star]; kernel_rfl) (by kernel_rfl) (by decide) u (by rw [err_star]; exact h)
theorem sent_one {text : List UInt8} {n : String}  {rest : List (String × DataW Unit)} (h : laidMet Tryz.prog ((n, .iface "*errors.errorString" (.ptr (.agg [.lit (.string text)]))) :: rest) W) (hg : Tryz.prog.globalNamed n = some g) (ht : (Tryz.prog.globals[g]?).map (·.type) = some 122) :
  ∃ v,W.cell? g=some v∧(v=.nilIface∨∃ t p,v=.iface t p):=by
 obtain⟨a,s,b,-,-,-⟩:=laid_sentinel h hg ht Tryz.underlying122 err_row Tryz.underlying268 Tryz.underlying270 rfl rfl Tryz.underlying9 kM kM;exact⟨_,by simpa using World.var?_cell hg b 0,.inr ⟨_,_,rfl⟩⟩
theorem sent_of {rest : List (String × DataW Unit)} (h : laidMet Tryz.prog (("strconv.ErrRange", Rows.laid_strconv_ErrRange) :: ("strconv.ErrSyntax", Rows.laid_strconv_ErrSyntax) :: rest) W) : Sent W :=
 ⟨sent_one (laidMet.tail h) (g:=2) kM kM,sent_one h (g:=3) kM kM⟩
section
variable {P:Program} (w:World)
theorem ziG (base:Nat) (t ty e:TypeId) (i:TypeInfo) (size:Nat)(ht:P.underlying t=some (.slice e))(hi:P.info? e=some i)
  (v:Value) (n:Nat) (xs:List Value) (zjc:w.ownsRow base e size v n xs) (c:Nat):(Builtin.append_ #[t,t] ty #[v,.slice none 0 c]).run P w=.ok v w:=by
 rcases zjc.2 with ⟨rfl,rfl⟩|⟨g,b,d,rfl,_,_,a,_⟩
 ·simp [Builtin.append_,run_underlying ht,sizeOf,typeInfo,hi,Builtin.lenOf,Builtin.firstCells]
 ·simp [Builtin.append_,run_underlying ht,sizeOf,typeInfo,hi,Builtin.lenOf,Builtin.firstCells,a,storeCells]
theorem zv {o:Oper}  {K:Act->World->Prop} {Q:Exit->Act->World->Prop} (s x:Operand) (t:TypeId)
  (ho:o.op=.call { callee:=.builtin .append,args:=#[s,x],argTypes:=#[t,t] })
  (base:Nat) (e:TypeId) (z:Value) (size bytes:Nat) (ht:P.underlying t=some (.slice e)) (hi:(P.info? e).map (fun i=>(i.zero,i.size,i.bytes))=some (some z,size,bytes)) (hzs:z.cells.size=size) (hsz:0<size)
  (v:Value) (n:Nat) (xs:List Value) (hs:a.eval s=v) (zjc:w.ownsRow base e size v n xs)
  (lo hi':Nat) (A:Option Addr) (m c:Nat) (news:List Value) (hx:a.eval x=.slice A m c) (hr:Reads w lo hi' size A m news) (h1:∀ u∈news,u.oneCell'=true)
  (h63:n+m<=maxLen) (hbytes:(n+m)*bytes<=140737488355328) (hbase:base<=w.heap.size)
  (h:∀ v' w',w'.ownsRow base e size v' (n+m) (xs++news)->w.grownBy w' v.ownBlock->(v'.ownBlock=v.ownBlock∨v'.ownBlock=some w.heap.size)->K (a.put o.dst v') w'):o.wp P a w K Q:=by
 obtain⟨i,b,p,q,r⟩:=info_parts hi;have l:∃ v' w',(Builtin.append_ #[t,t] o.type #[v,.slice A m c]).run P w=.ok v' w'∧w'.ownsRow base e size v' (n+m) (xs++news)∧w.grownBy w' v.ownBlock∧(v'.ownBlock=v.ownBlock∨v'.ownBlock=some w.heap.size):=by
  by_cases h0:m=0
  ·subst h0;obtain rfl:news=[]:=List.eq_nil_of_length_eq_zero (by simpa using hr.1);cases A with
   |none=>exact⟨v,w,ziG w base t o.type e i size ht b v n xs zjc c,by simpa using zjc,World.grownBy.refl w _,.inl rfl⟩
   |some y =>
    obtain⟨v',w',d,f,g,_,k⟩:=run_append_own_at (P:=P) w base t o.type e i z size bytes ht b p q r hzs hsz v n xs zjc y 0 c [] sM (fun j u hu=>by simp at hu) h1 h63 hbytes hbase;exact⟨v',w',d,f,g,k⟩
  ·obtain⟨y,rfl,_,_,B⟩:=hr.2.2 oM;obtain⟨v',w',d,f,g,_,k⟩:=run_append_own_at (P:=P) w base t o.type e i z size bytes ht b p q r hzs hsz v n xs zjc y m c news hr.1 B h1 h63 hbytes hbase;exact⟨v',w',d,f,g,k⟩
 obtain⟨v',w',d,f,g,k⟩:=l;unfold Oper.wp execOp;simp only [ho,resolve,invoke,builtin,Sem.run_bind,Sem.run_pure,Result.andThen_ok,List.map_toArray,List.map_cons,List.map_nil,hs,hx,d];exact h v' w' f g k
theorem wpList_onto {ops:Array Oper} {rest:List Oper} {o:Oper}  {Q:Exit->Act->World->Prop}(hgd:o.guard=none) (s x:Operand) (t:TypeId)
  (ho:o.op=.call { callee:=.builtin .append,args:=#[s,x],argTypes:=#[t,t] })
  (base:Nat) (e:TypeId) (z:Value) (size bytes:Nat) (ht:P.underlying t=some (.slice e)) (hi:(P.info? e).map (fun i=>(i.zero,i.size,i.bytes))=some (some z,size,bytes)) (hzs:z.cells.size=size) (hsz:0<size)
  (v:Value) (n:Nat) (xs:List Value) (hs:a.eval s=v) (zjc:w.ownsRow base e size v n xs)
  (lo hi':Nat) (A:Option Addr) (m c:Nat) (news:List Value) (hx:a.eval x=.slice A m c) (hr:Reads w lo hi' size A m news) (h1:∀ u∈news,u.oneCell'=true)
  (h63:n+m<=maxLen) (hbytes:(n+m)*bytes<=140737488355328) (hbase:base<=w.heap.size)
  (h:∀ v' w',w'.ownsRow base e size v' (n+m) (xs++news)->w.grownBy w' v.ownBlock->(v'.ownBlock=v.ownBlock∨v'.ownBlock=some w.heap.size)->wpList P ops Q rest (a.put o.dst v') w'):wpList P ops Q (o :: rest) a w:=
 wpList_plain hgd fun _ hK=>zv w s x t ho base e z size bytes ht hi hzs hsz v n xs hs zjc lo hi' A m c news hx hr h1 h63 hbytes hbase fun v' w' h2 h3 h4=>hK _ _ (h v' w' h2 h3 h4)
end
theorem ziv (l:List Int):∀ u∈ints l,u.oneCell'=true:=by
 intro u hu;obtain⟨x,_,rfl⟩:=List.mem_map.1 hu;rfl
theorem zgw (l:List Bool):∀ u∈zaA l,u.oneCell'=true:=by
 intro u hu;obtain⟨x,_,rfl⟩:=List.mem_map.1 hu;rfl
def zgU:Op->Bool
 |.makeFunc _ _ _ | .move _ | .assign _ | .pick _ _ _ | .binOp _ _ _ _ _ | .unOp _ _ _ | .fieldAddr _ _ _ | .field _ _ _ | .extract _ _ | .build _ _=>true
 |_=>false
def zdi:Op->Bool
 |.makeFunc _ _ _=>true
 |o=>zbU o
inductive zw where
 |nil:zw
 |one:Nat->zw->zw
 |two:Nat->zw->Nat->zw->zw
 |three:Nat->zw->Nat->zw->Nat->zw->zw
def zw.of:List Nat->zw
 |[]=>.nil
 |i :: r=>.one i (zw.of r)
def zw.app:List Nat->zw->zw
 |[],o=>o
 |i :: r,o=>.one i (zw.app r o)
def zcy (l:List Oper) (T:List Nat):zw->Array Bool->Bool
 |.nil,listed=>(Region.ready .any l.toArray listed).isEmpty
 |.one i rest,listed =>
  (match l[i]? with
   |some o=>if zdi o.op then Region.free .any l.toArray listed i&&(Region.ready .any l.toArray listed).contains i&&!T.contains i&&(zgU o.op || T.all fun t=>below l l.length t i)
    else Region.ready .any l.toArray listed==[i]
   |none=>false)&&zcy l T rest (listed.setIfInBounds i true)
 |.two i r j r',listed=>(i<l.length&&j<l.length&&Region.ready .any l.toArray listed==[i,j])&&(zcy l T r (listed.setIfInBounds i true)&&zcy l T r' (listed.setIfInBounds j true))
 |.three i r j r' k r'',listed=>(i<l.length&&j<l.length&&k<l.length&&Region.ready .any l.toArray listed==[i,j,k])&&(zcy l T r (listed.setIfInBounds i true)&&zcy l T r' (listed.setIfInBounds j true)&&zcy l T r'' (listed.setIfInBounds k true))
def zav (P:Program) (l:List Oper) (T:List Nat) (Q:Exit->Act->World->Prop) (S:World->Prop):zw->Act->World->Prop
 |.nil,a,w=>Q .normal a w
 |.one i rest,a,w=>match l[i]? with
  |some o=>if zdi o.op then ∃ v,YieldsIf P l.toArray (if zgU o.op then fun _=>True else S) o v a∧zav P l T Q S rest (a.put o.dst v) w
   else wpOp P l.toArray Q i (fun a' w'=>(T.contains i=false->S w')∧zav P l T Q S rest a' w') a w
  |none=>False
 |.two i r j r',a,w=>wpOp P l.toArray Q i (fun a' w'=>(T.contains i=false->S w')∧zav P l T Q S r a' w') a w∧wpOp P l.toArray Q j (fun a' w'=>(T.contains j=false->S w')∧zav P l T Q S r' a' w') a w
 |.three i r j r' k r'',a,w=>wpOp P l.toArray Q i (fun a' w'=>(T.contains i=false->S w')∧zav P l T Q S r a' w') a w∧wpOp P l.toArray Q j (fun a' w'=>(T.contains j=false->S w')∧zav P l T Q S r' a' w') a w∧wpOp P l.toArray Q k (fun a' w'=>(T.contains k=false->S w')∧zav P l T Q S r'' a' w') a w
def zw.len:zw->Nat
 |.nil=>0
 |.one _ r=>r.len+1
 |.two _ r _ _=>r.len+1
 |.three _ r _ _ _ _=>r.len+1
def zw.even:zw->Bool
 |.nil=>true
 |.one _ r=>r.even
 |.two _ r _ r'=>r.len==r'.len&&(r.even&&r'.even)
 |.three _ r _ r' _ r''=>(r.len==r'.len&&r.len==r''.len)&&(r.even&&r'.even&&r''.even)
section
variable {P:Program} {l:List Oper} {Q:Exit->Act->World->Prop} {S:World->Prop} {T:List Nat}
theorem zbF (hs:Region.noSelect l.toArray=true)(hQ:∀ (c:List PanicEntry) (a:Act) (d:Tmp) (v:Value) (w:World),Q (.panic c) (a.put (some d) v) w->Q (.panic c) a w) :
  ∀ (ord:zw) (listed:Array Bool) (a:Act) (w:World),listed.size=l.length->Clo l listed->ord.even=true->zcy l T ord listed=true->(zcV T listed∨S w)->zav P l T Q S ord a w ->
   wpAnyL P .any l.toArray Q (fun listed w=>zcV T listed∨S w) ord.len listed a w
 |.nil,listed,a,w,_,_,_,hok,_,h=>by
  simp only [zcy,List.isEmpty_iff] at hok;exact⟨hok,h⟩
 |.one i rest,listed,a,w,hsz,hc,hev,hok,hS,h=>by
  cases ho:l[i]? with
  |none=>simp [zcy,ho] at hok
  |some o =>
   have hil:i<l.length:=(List.getElem?_eq_some_iff.1 ho).1;simp only [zcy,ho,dF] at hok;simp only [zav,ho] at h
   by_cases hq:zdi o.op=true
   ·rw [if_pos hq] at hok h;simp only [dF] at hok;obtain⟨⟨⟨⟨hf,hrd⟩,hnT⟩,hpure⟩,hrest⟩:=hok;obtain⟨v,hy,hr⟩:=h;have hmem:i∈Region.ready .any l.toArray listed:=by simpa using hrd
    have D:i∉T:=by simpa using hnT
    have p:∀ listed:Array Bool,zcV T (listed.setIfInBounds i true)↔zcV T listed:=fun listed=>by
     constructor
     ·rintro ⟨t,z,C⟩;refine⟨t,z,?_⟩;rwa [getD_set_ne false (by rintro rfl;exact D z)] at C
     ·rintro ⟨t,z,C⟩;exact⟨t,z,getD_set_true C⟩
    refine wpAnyL_first (G:=fun listed=>Clo l listed∧listed.size=l.length) (by simpa using ho) (Region.noSelect_spec hs)
     (fun c a w h=>by cases hd:o.dst with|none=>rw [hd] at h;exact h|some d=>rw [hd] at h;exact hQ c a d v w h)
     (fun li j s hg=>⟨zbn s hg.1,by simpa using hg.2⟩) ?_ (fun li w h=>h.imp (fun x=>(p li).2 x) id) (fun li w _ h=>h.imp (fun x=>(p li).1 x) id)
     rest.len listed a w ⟨hc,hsz⟩ (Region.free_spec (by simpa using ho) hf) hmem hy hS ?_
    ·intro li w' hg hun h
     by_cases hp:zgU o.op=true
     ·rw [if_pos hp];trivial
     ·rw [if_neg hp];rcases h with ⟨t,z,C⟩|h
      ·exfalso;simp only [hp,Bool.false_or] at hpure;have M:=List.all_eq_true.1 hpure t z;have H:=zfq hg.1 _ _ _ M C;have L:i<li.size:=by rw [hg.2];exact hil
       simp [L] at hun H;rw [H] at hun;cases hun
      ·exact h
    ·exact zbF hs hQ rest _ _ _ (by simpa using hsz) (zbn hmem hc) hev hrest (hS.imp (fun x=>(p _).2 x) id) hr
   ·rw [if_neg hq] at hok h;have b:Region.ready .any l.toArray listed=[i]:=by simpa using hok.1
    have hmem:i∈Region.ready .any l.toArray listed:=by rw [b];simp
    refine⟨fun h0=>(by rw [h0] at b;cases b),fun j s=>?_⟩;rw [b] at s;rw [List.mem_singleton.1 s];refine wpOp_mono (fun a' w' h=>?_) h;have f:zcV T (listed.setIfInBounds i true)∨S w':=by
     cases hT:T.contains i
     ·exact Or.inr (h.1 hT)
     ·refine Or.inl ⟨i,by simpa using hT,?_⟩;have:i<listed.size:=oM;simp [this]
    exact⟨f,zbF hs hQ rest _ _ _ (by simpa using hsz) (zbn hmem hc) hev hok.2 f h.2⟩
 |.two i r j r',listed,a,w,hsz,hc,hev,hok,hS,h=>by
  simp only [zw.even,dF,beq_iff_eq] at hev;simp only [zcy,dF,decide_eq_true_eq,beq_iff_eq] at hok;simp only [zav] at h;obtain⟨⟨⟨B,s⟩,b⟩,m,n⟩:=hok;have g:(zw.two i r j r').len=r.len+1:=rfl;rw [g];have F:∀ k,k∈Region.ready .any l.toArray listed↔k=i∨k=j:=fun k=>by rw [b];simp
  have f:∀ k w',k<l.length->(T.contains k=false->S w')->zcV T (listed.setIfInBounds k true)∨S w':=fun k w' u hx=>by
   cases hT:T.contains k
   ·exact Or.inr (hx hT)
   ·refine Or.inl ⟨k,by simpa using hT,?_⟩;have:k<listed.size:=oM;simp [this]
  refine⟨fun h0=>(by rw [h0] at b;cases b),fun k u=>?_⟩;rcases (F k).1 u with y | y
  ·rw [y] at u ⊢;refine wpOp_mono (fun a' w' h=>?_) h.1;exact⟨f _ _ B h.1,zbF hs hQ r _ _ _ (by simpa using hsz) (zbn u hc) hev.2.1 m (f _ _ B h.1) h.2⟩
  ·rw [y] at u ⊢;refine wpOp_mono (fun a' w' h=>?_) h.2;have:=zbF hs hQ r' _ _ _ (by simpa using hsz) (zbn u hc) hev.2.2 n (f _ _ s h.1) h.2;rw [← hev.1] at this;exact⟨f _ _ s h.1,this⟩
 |.three i r j r' k r'',listed,a,w,hsz,hc,hev,hok,hS,h=>by
  simp only [zw.even,dF,beq_iff_eq] at hev;simp only [zcy,dF,decide_eq_true_eq,beq_iff_eq] at hok;simp only [zav] at h;obtain⟨⟨⟨⟨B,s⟩,u⟩,b⟩,⟨m,n⟩,E⟩:=hok;obtain⟨⟨I,J⟩,⟨O,R⟩,U⟩:=hev;have g:(zw.three i r j r' k r'').len=r.len+1:=rfl;rw [g];have F:∀ x,x∈Region.ready .any l.toArray listed↔x=i∨x=j∨x=k:=fun x=>by rw [b];simp
  have f:∀ k w',k<l.length->(T.contains k=false->S w')->zcV T (listed.setIfInBounds k true)∨S w':=fun k w' u hx=>by
   cases hT:T.contains k
   ·exact Or.inr (hx hT)
   ·refine Or.inl ⟨k,by simpa using hT,?_⟩;have:k<listed.size:=oM;simp [this]
  refine⟨fun h0=>(by rw [h0] at b;cases b),fun x hx=>?_⟩;rcases (F x).1 hx with q | q | q
  ·rw [q] at hx ⊢;refine wpOp_mono (fun a' w' h=>?_) h.1;exact⟨f _ _ B h.1,zbF hs hQ r _ _ _ (by simpa using hsz) (zbn hx hc) O m (f _ _ B h.1) h.2⟩
  ·rw [q] at hx ⊢;refine wpOp_mono (fun a' w' h=>?_) h.2.1;have:=zbF hs hQ r' _ _ _ (by simpa using hsz) (zbn hx hc) R n (f _ _ s h.1) h.2;rw [← I] at this;exact⟨f _ _ s h.1,this⟩
  ·rw [q] at hx ⊢;refine wpOp_mono (fun a' w' h=>?_) h.2.2;have:=zbF hs hQ r'' _ _ _ (by simpa using hsz) (zbn hx hc) U E (f _ _ u h.1) h.2;rw [← J] at this;exact⟨f _ _ u h.1,this⟩
theorem zbm (S:World->Prop) (T:List Nat) (ord:zw)(hm:P.follows .mixedOrders=true)(hlen:ord.len=l.length)(hev:ord.even=true)(hs:Region.noSelect l.toArray=true)(hok:zcy l T ord (Array.replicate l.length false)=true)
  (hQ:∀ (c:List PanicEntry) (a:Act) (d:Tmp) (v:Value) (w:World),Q (.panic c) (a.put (some d) v) w->Q (.panic c) a w) (hS:S w.drew) (h:zav P l T Q S ord a w.drew):(Code.region id l.toArray true).wp P Q a w:=by
 refine wp_region_any hm ?_;have:=zfE _ _ _ _ (zbF hs hQ ord _ a w.drew sM (clo_start l) hev hok (Or.inr hS) h);rw [hlen] at this;simpa using this
theorem ze (h:Q .normal a w):zav P l T Q S .nil a w:=h
theorem useq_pure {rest:zw} {o:Oper}   (ho:l[i]?=some o)(hq:zdi o.op=true) (_hp:zgU o.op=true)(hw:Region.wanted o (yielded l.toArray a.tmps)=true)
  (hy:∀ W,(execOp a.eval o).run P W=.ok (.value v) W) (h:zav P l T Q S rest (a.put o.dst v) w):zav P l T Q S (.one i rest) a w:=by
 simp only [zav,ho,hq,if_true];exact⟨v,.inl ⟨hw,fun W _=>hy W⟩,h⟩
theorem zbO {rest:zw} {o:Oper}   (ho:l[i]?=some o)(hq:zdi o.op=true)(hp:zgU o.op=false)(hw:Region.wanted o (yielded l.toArray a.tmps)=true)
  (hy:∀ W,S W->(execOp a.eval o).run P W=.ok (.value v) W) (h:zav P l T Q S rest (a.put o.dst v) w):zav P l T Q S (.one i rest) a w:=by
 simp only [zav,ho,hq,hp,if_true];exact⟨v,.inl ⟨hw,hy⟩,h⟩
theorem useq_skip {rest:zw} {o:Oper}  (ho:l[i]?=some o)(hw:Region.wanted o (yielded l.toArray a.tmps)=false)
  (hS:S w) (h:zav P l T Q S rest (a.put o.dst undef) w):zav P l T Q S (.one i rest) a w:=by
 simp only [zav,ho];split
 ·exact⟨undef,.inr ⟨hw,rfl⟩,h⟩
 ·unfold wpOp;simp only [eF,ho,hw,Bool.false_eq_true,if_false];exact⟨fun _=>hS,h⟩
theorem zd {rest:zw} {o:Oper}  
  (h:∀ K:Act->World->Prop,Shut (∀ a w,S w->zav P l T Q S rest a w->K a w)->o.wp P a w K Q) (ho:l[i]?=some o:=by rfl) (hq:zdi o.op=false:=by rfl) (hw:Region.wanted o (yielded l.toArray a.tmps)=true:=by rfl):zav P l T Q S (.one i rest) a w:=by
 simp only [zav,ho,hq];unfold wpOp;simp only [eF,ho,hw,if_true];exact .inl (h _ fun a w hS hW=>⟨fun _=>hS,hW⟩)
theorem zb {rest:zw} {o:Oper}  
  (h:∀ K:Act->World->Prop,Shut (∀ a w,zav P l T Q S rest a w->K a w)->o.wp P a w K Q) (ho:l[i]?=some o:=by rfl) (hq:zdi o.op=false:=by rfl) (hT:T.contains i=true:=by rfl) (hw:Region.wanted o (yielded l.toArray a.tmps)=true:=by rfl):zav P l T Q S (.one i rest) a w:=by
 simp only [zav,ho,hq];unfold wpOp;simp only [eF,ho,hw,if_true];exact .inl (h _ fun a w hW=>⟨fun hn=>absurd (hn.symm.trans hT) dM,hW⟩)
end
section
variable {P:Program} {l:List Oper} {Q:Exit->Act->World->Prop} {S:World->Prop} {T:List Nat}
theorem zm {j:Nat} {r r':zw} {o o':Oper}  
  (h1:∀ K:Act->World->Prop,Shut (∀ a w,S w->zav P l T Q S r a w->K a w)->o.wp P a w K Q) (h2:∀ K:Act->World->Prop,Shut (∀ a w,S w->zav P l T Q S r' a w->K a w)->o'.wp P a w K Q) (ho:l[i]?=some o:=by rfl) (ho':l[j]?=some o':=by rfl) (hw:Region.wanted o (yielded l.toArray a.tmps)=true:=by rfl) (hw':Region.wanted o' (yielded l.toArray a.tmps)=true:=by rfl):zav P l T Q S (.two i r j r') a w:=by
 constructor
 ·unfold wpOp;simp only [eF,ho,hw,if_true];exact .inl (h1 _ fun a w hS hW=>⟨fun _=>hS,hW⟩)
 ·unfold wpOp;simp only [eF,ho',hw',if_true];exact .inl (h2 _ fun a w hS hW=>⟨fun _=>hS,hW⟩)
theorem zaH {j k:Nat} {r r' r'':zw} {o o' o'':Oper}  
  (h1:∀ K:Act->World->Prop,Shut (∀ a w,S w->zav P l T Q S r a w->K a w)->o.wp P a w K Q) (h2:∀ K:Act->World->Prop,Shut (∀ a w,S w->zav P l T Q S r' a w->K a w)->o'.wp P a w K Q) (h3:∀ K:Act->World->Prop,Shut (∀ a w,S w->zav P l T Q S r'' a w->K a w)->o''.wp P a w K Q) (ho:l[i]?=some o:=by rfl) (ho':l[j]?=some o':=by rfl) (ho'':l[k]?=some o'':=by rfl) (hw:Region.wanted o (yielded l.toArray a.tmps)=true:=by rfl) (hw':Region.wanted o' (yielded l.toArray a.tmps)=true:=by rfl) (hw'':Region.wanted o'' (yielded l.toArray a.tmps)=true:=by rfl):zav P l T Q S (.three i r j r' k r'') a w:=by
 refine⟨?_,?_,?_⟩
 ·unfold wpOp;simp only [eF,ho,hw,if_true];exact .inl (h1 _ fun a w hS hW=>⟨fun _=>hS,hW⟩)
 ·unfold wpOp;simp only [eF,ho',hw',if_true];exact .inl (h2 _ fun a w hS hW=>⟨fun _=>hS,hW⟩)
 ·unfold wpOp;simp only [eF,ho'',hw'',if_true];exact .inl (h3 _ fun a w hS hW=>⟨fun _=>hS,hW⟩)
end
theorem uQ {A B:Prop}(h:B) (k:Bx B->A:=by
 intro h0
 repeat (first|(refine useq_skip rfl rfl aM ?_;simp only [Act.put,List.setIfInBounds_toArray,List.set_cons_zero,List.set_cons_succ])|(refine useq_pure (v:=?_) rfl rfl rfl rfl (fun X=>?_) ?_;rotate_left;(focus (go_simp<;>with_reducible rfl));simp only [Act.put,List.setIfInBounds_toArray,List.set_cons_zero,List.set_cons_succ])|(refine zbO (v:=?_) rfl rfl rfl rfl (fun X hX=>?_) ?_;rotate_left;(focus (go_simp<;>with_reducible rfl));simp only [Act.put,List.setIfInBounds_toArray,List.set_cons_zero,List.set_cons_succ]))
 exact h0.out):A:=k ⟨h⟩
theorem uR {P:Program} {l:List Oper} {Q:Exit->Act->World->Prop} {id:Nat}   (S:World->Prop) (T:List Nat) (ord:zw)(h:zav P l T Q S ord a w.drew)(hm:P.follows .mixedOrders=true:=by kernel_rfl)(hlen:ord.len=l.length:=by kernel_rfl)(hev:ord.even=true:=by kernel_rfl)(hs:Region.noSelect l.toArray=true:=by kernel_rfl)(hok:zcy l T ord (Array.replicate l.length false)=true:=by kernel_rfl)
  (hQ:∀ (c:List PanicEntry) (a:Act) (d:Tmp) (v:Value) (w:World),Q (.panic c) (a.put (some d) v) w->Q (.panic c) a w:=by exact fun _ _ _ _ _ h=>h) (hS:S w.drew:=by first|assumption|exact (cW _).drew|(refine eR ?_;assumption)):(Code.region id l.toArray true).wp P Q a w:=
 zbm S T ord hm hlen hev hs hok hQ hS h
theorem zaD (W:World) (Z:Nat) (u0 u1 u2:Value):Frm (fun k=>k=Z) W (((W.setCell Z u0).setCell ⟨Z,1,none⟩ u1).setCell ⟨Z,2,none⟩ u2):=
 ((dE W Z 0 u0).trans (dE _ Z 1 u1)).trans (dE _ Z 2 u2)
theorem zal (h:Blk w Z t cs)(hc:cs.size=3) (u0 u1 u2:Value):Blk (((w.setCell Z u0).setCell ⟨Z,1,none⟩ u1).setCell ⟨Z,2,none⟩ u2) Z t #[u0,u1,u2]:=by
 obtain⟨l⟩:=cs
 match l,hc with
 |[a,b,c],_=>simpa using ((h.ab 0 u0).ab 1 u1).ab 2 u2
theorem zq {e:TypeId}    (h:w.ownsRow base e size v n xs)(hB:Blk w G t cs)(hne:e≠t) (hv:v.ownBlock=some b):b≠G:=by
 rintro rfl;rcases h.2 with ⟨rfl,_⟩|⟨g,a,c,rfl,_,f,_⟩
 ·simp [Value.ownBlock] at hv
 ·have d:g=b:=by simpa [Value.ownBlock] using hv
  subst d;unfold Blk at hB;rw [f] at hB;injection hB with hB
  injection hB with _ ht
  exact absurd ht hne
structure Gra (w0 W:World) (G:Nat) (al:Int) (v:Value) (ls:List (List Int)) (vA:Value) (acc:List Bool):Prop where
 blk:Blk W G 26 #[al,v,vA]
 own:zes W w0.heap.size v ls
 acc:W.ownsRow w0.heap.size 4 1 vA acc.length (zaA acc)
 ext:Ext w0 W
 hG:w0.heap.size<=G
section
variable {w0 W W':World} {G:Nat} {al:Int} {v vA:Value} {ls:List (List Int)} {acc:List Bool}
theorem Gra.ax (h:Gra w0 W G al v ls vA acc)(hb:Ext W W'):Gra w0 W' G al v ls vA acc:=⟨h.blk.ext hb,h.own.ext hb,zg h.acc hb,h.ext.trans hb,h.hG⟩
theorem Gra.push {W1:World} {rows:List Value} {row:Value}  (h:Gra w0 W G al v ls vA acc)(hrows:zG W w0.heap.size rows ls)(hv:W.ownsRow w0.heap.size 74 1 v ls.length rows)
  (hx:Ext W W1) (hrow:W1.ownsRow W.heap.size 3 1 row l.length (ints l))
  (zjc:W'.ownsRow w0.heap.size 74 1 (.slice (some g) (ls.length+1) cap) (ls.length+1) (rows++[row]))
  (hg:W1.grownBy W' v.ownBlock) (hat:v.ownBlock=some g∨g=W1.heap.size+1) :
  Hid (W'.cell? ⟨G,1,none⟩=some v)∧W'.frozen? ⟨G,1,none⟩=false∧Gra w0 (W'.setCell ⟨G,1,none⟩ (.slice (some g) (ls.length+1) cap)) G al (.slice (some g) (ls.length+1) cap) (ls++[l]) vA acc:=by
 have a:=h.blk.ext hx;have d:=zg hv hx;have f:Blk W' G 26 #[.int .i64 al,v,vA]:=(hg.block G a.lt (fun e=>zq d a dM e.symm rfl)).trans a;have u:g≠G:=by
  rcases hat with t|t
  ·exact zq d a dM t
  ·have:=a.lt;omega
 have s:Ext w0 W':=(h.ext.trans hx).grown hg (fun k hk=>(d.lt k hk).1);have m:=hrows.snoc hx (h.ext.size) hrow;have j:Frm (fun k=>v.ownBlock=some k) W1 W':=Frm.ae hg;have n:zG W' w0.heap.size (rows++[row]) (ls++[l]):=m.frm j (fun i r b hr hb hS=>by
  obtain⟨x,_,q⟩:=m.row hr;exact zaM q d dM hb hS)
 have o:W'.ownsRow w0.heap.size 4 1 vA acc.length (zaA acc):=zf (zg h.acc hx) j (fun b hb hS=>zaM (zg h.acc hx) d dM hb hS);have c:=dE W' G 1 (.slice (some g) (ls.length+1) cap);refine⟨f.cell 1,f.frozen 1,⟨by simpa using f.ab 1 _,⟨rows++[row],?_,?_⟩,?_,s.setCell (p:=⟨G,1,none⟩) h.hG _,h.hG⟩⟩
 ·rw [List.length_append,List.length_singleton];exact zf zjc c (fun b hv hS=>by
   have:g=b:=by simpa [Value.ownBlock] using hv
   omega)
 ·refine n.frm c (fun i r b hr hb hS=>?_);obtain⟨x,_,q⟩:=n.row hr;exact zq q f dM hb hS
 ·exact zf o c (fun b hb hS=>zq o f dM hb hS)
end
def Good (s:Sys):Prop:=∃ a p:Nat,s.al=a∧a<64∧s.st=p∧1<=p∧p<=16∧Few p s.edges
def zbp (w:World) (R:Nat) (A:Option Addr) (n:Nat) (s:Sys):Prop:=
 n=s.edges.length∧n<=9223372036854775807∧(0<n->∃ (g o:Nat) (cs:Array Value),A=some ⟨g,o,none⟩∧R<g∧w.heap[g]?=some (.cells cs 103 (0,0))∧∀ j u,(zu s.edges)[j]?=some u->w.cell? ⟨g,o+j,none⟩=some u)
theorem zbp.at_ (h:zbp w R A n s):zR w (R+1) w.heap.size A n s:=by
 refine⟨h.1,by rw [zbt,← h.1],h.2.1,fun h0=>?_⟩;obtain⟨g,o,d,e,a,c,b⟩:=h.2.2 h0;exact⟨⟨g,o,none⟩,e,a,(Array.getElem?_eq_some_iff.1 c).1,fun j u hu=>by rw [zK];exact b j u hu⟩
theorem zbp.frm (h:zbp w R A n s)(hb:Frm S w w')(hS:∀ k,S k->R<k->∀ cs,w.heap[k]?≠some (.cells cs 103 (0,0))):zbp w' R A n s:=by
 refine⟨h.1,h.2.1,fun h0=>?_⟩;obtain⟨g,o,cs,e,c,b,f⟩:=h.2.2 h0;have a:=(Array.getElem?_eq_some_iff.1 b).1;have d:¬ S g:=fun hs=>hS g hs c cs b;exact⟨g,o,cs,e,c,(hb.block g a d).trans b,fun j u hu=>(World.cell?_of_block (w:=w) (hb.block g a d)).trans (f j u hu)⟩
theorem zbp.ext (h:zbp w R A n s)(hb:Ext w w'):zbp w' R A n s:=h.frm (S:=fun _=>False) hb (fun _ hk=>hk.elim)
theorem zbp.dr (h:zbp w R A n s)(hb:Dr R w w'):zbp w' R A n s:=h.frm hb (fun k hk hR=>oM)
theorem zbp.far (h:zbp w R A n s)(hB:Blk w Z t cs)(ht:t≠103)(hb:Frm (fun k=>k=Z) w w'):zbp w' R A n s:=h.frm hb (fun k hk _ cs' hh=>by
 subst hk
 unfold Blk at hB
 rw [hB] at hh
 injection hh with hh
 injection hh with _ h2
 exact ht h2)
theorem zbp.own (h:w.ownsRow base 103 3 (.slice A n c) n (zu s.edges))(hR:R<base):zbp w R A n s:=by
 have i:n=s.edges.length:=by have:=h.1;rw [zbt] at this;omega
 refine⟨i,(dY h).len,fun h0=>?_⟩;rcases h.2 with ⟨_,l⟩|⟨g,b,a,k,m,f,_⟩
 ·omega
 ·have d:A=some ⟨g,0,none⟩:=by injection k
  subst d;exact⟨g,0,a,rfl,oM,f,fun j u hu=>by
   have:=h.cells (g:=g) rfl j u hu;rwa [zK] at this⟩
theorem zgT {e:TypeId}   (h:w.ownsRow base e size (.slice A n c) n xs):n<=c:=by
 rcases h.2 with ⟨a,i⟩|⟨g,b,d,a,_,_,f,_⟩
 ·omega
 ·injection a with _ _ h3
  omega
def RetG (R M L:Nat) (w:World) (e:Ending) (w':World):Prop:=
 ∃ (s:Sys) (A:Option Addr) (n c:Nat),e=.returned (.agg #[s.al,s.st,.slice A n c])∧zbp w' R A n s∧Good s∧(n<=L∧n<=c)∧Rd w' R M∧Dr R w w'
def RetA (R M L:Nat) (w:World) (e:Ending) (w':World):Prop:=
 ∃ (s:Sys) (A:Option Addr) (n c:Nat),e=.returned (.agg #[s.al,s.st,.slice A n c])∧zbp w' R A n s∧(n<=L∧n<=c)∧Rd w' R M∧Dr R w w'
structure Acc (w0 wB W:World) (R G M:Nat) (al st:Int) (v:Value) (es:List Edg):Prop where
 blk:Blk W G 39 #[al,st,v]
 own:W.ownsRow wB.heap.size 103 3 v es.length (zu es)
 rd:Rd W R M
 dr:Dr R w0 W
 fr:Frm (fun k=>k=R∨k=G) wB W
 hR:R<w0.heap.size
 hB:w0.heap.size<=wB.heap.size
 hG:w0.heap.size<=G
section
variable {w0 wB W W':World} {R G M N:Nat} {al st:Int} {v:Value} {es:List Edg}
theorem Acc.more (h:Acc w0 wB W R G M al st v es)(hM:M<=N):Acc w0 wB W R G N al st v es:={ h with rd:=h.rd.more hM }
theorem Acc.ext (h:Acc w0 wB W R G M al st v es)(hb:Ext W W'):Acc w0 wB W' R G M al st v es:=⟨h.blk.ext hb,zg h.own hb,h.rd.ext hb,h.dr.ext hb,h.fr.ext hb,h.hR,h.hB,h.hG⟩
theorem Acc.drawn (h:Acc w0 wB W R G M al st v es)(hb:Dr R W W')(hr:Rd W' R N):Acc w0 wB W' R G N al st v es:=
 ⟨h.blk.dr hb (by have:=h.hR;have:=h.hG;omega),zf h.own hb (fun b hv hS=>by have:=(h.own.lt b hv).1;have:=h.hR;have:=h.hB;omega),hr,h.dr.trans hb,h.fr.trans (hb.mono fun k _ hk=>Or.inl hk),h.hR,h.hB,h.hG⟩
theorem Acc.far (h:Acc w0 wB W R G M al st v es) (hv:v.ownBlock=some b):b≠G:=by
 rintro rfl;have a:=h.blk;rcases h.own.2 with ⟨rfl,_⟩|⟨g,c,d,rfl,_,i,_⟩
 ·simp [Value.ownBlock] at hv
 ·have f:g=b:=by simpa [Value.ownBlock] using hv
  subst f;unfold Blk at a;rw [i] at a;injection a with a
  injection a with _ ht
  exact absurd ht dM
theorem Acc.setAl (h:Acc w0 wB W R G M al st v es) (x:Int):Acc w0 wB (W.setCell G x) R G M x st v es:=
 ⟨by simpa using h.blk.ab 0 _,zf h.own (dE W G 0 _) (fun b hv hS=>h.far hv hS),h.rd.frm (dE W G 0 _) (fun k hk hS=>by have:=h.hR;have:=h.hG;omega),h.dr.ag h.hG _,h.fr.cell (Or.inr rfl) _,h.hR,h.hB,h.hG⟩
theorem Acc.setSt (h:Acc w0 wB W R G M al st v es) (x:Int):Acc w0 wB (W.setCell ⟨G,1,none⟩ x) R G M al x v es:=
 ⟨by simpa using h.blk.ab 1 _,zf h.own (dE W G 1 _) (fun b hv hS=>h.far hv hS),h.rd.frm (dE W G 1 _) (fun k hk hS=>by have:=h.hR;have:=h.hG;omega),h.dr.ag h.hG _,h.fr.cell (Or.inr rfl) _,h.hR,h.hB,h.hG⟩
theorem Acc.push (h:Acc w0 wB W R G M al st v es) (zjc:W'.ownsRow wB.heap.size 103 3 (.slice (some g) (es.length+1) cap) (es.length+1) (zu es++[.int .i64 e.fr,.int .i64 e.le,.int .i64 e.ta]))
  (hg:W.grownBy W' v.ownBlock) (hat:v.ownBlock=some g∨g=W.heap.size+1) :
  Hid (W'.cell? ⟨G,2,none⟩=some v)∧W'.frozen? ⟨G,2,none⟩=false∧Acc w0 wB (W'.setCell ⟨G,2,none⟩ (.slice (some g) (es.length+1) cap)) R G M al st (.slice (some g) (es.length+1) cap) (es++[e]):=by
 have a:Blk W' G 39 #[.int .i64 al,.int .i64 st,v]:=(hg.block G h.blk.lt (fun e=>h.far e.symm rfl)).trans h.blk;have i:g≠G:=by
  rcases hat with c|c
  ·exact h.far c
  ·have:=h.blk.lt;omega
 have d:Dr R w0 W':=h.dr.grown hg (fun k hk=>dJ h.hB (h.own.lt k hk).1);have j:Rd W' R M:=h.rd.frm (Frm.ae hg) (fun k hk hS=>by have:=(h.own.lt k hS).1;have:=h.hR;have:=h.hB;omega);have f:Frm (fun k=>k=R∨k=G) wB W':=
  ⟨hg.os.trans h.fr.os,hg.tape.trans h.fr.tape,hg.output.trans h.fr.output,dJ h.fr.size hg.size,
   fun k hk hn=>(hg.block k (eH hk h.fr.size) (fun e=>by have:=(h.own.lt k e.symm).1;omega)).trans (h.fr.block k hk hn)⟩
 refine⟨a.cell 2,a.frozen 2,⟨by simpa using a.ab 2 _,?_,j.frm (dE W' G 2 _) (fun k hk hS=>by have:=h.hR;have:=h.hG;omega),d.ag h.hG _,f.cell (Or.inr rfl) _,h.hR,h.hB,h.hG⟩⟩;have:=zf zjc (dE W' G 2 (.slice (some g) (es.length+1) cap)) (fun b hv hS=>by
  have:g=b:=by simpa [Value.ownBlock] using hv
  omega)
 rw [zch];simpa [zu] using this
theorem Acc.reads (h:Acc w0 wB W R G M al st (.slice A n c) es):n=es.length∧zR W wB.heap.size W.heap.size A n ⟨al,st,es⟩:=by
 have a:n=es.length:=by
  rcases h.own.2 with ⟨b,j⟩|⟨g,f,i,b,_⟩
  ·injection b with _ h2 _;omega
  ·injection b
 have d:=h.own;rw [← a] at d;exact⟨a,a,dY d⟩
theorem Acc.form (h:Acc w0 wB W R G M al st v es):∃ A n c,v=.slice A n c:=by
 obtain⟨A,c,e⟩:=zi h.own;exact⟨A,_,c,e⟩
theorem Acc.old (h:Acc w0 wB W R G M al st v es)   (hx:Reads wB lo hi size A n xs)(h1:∀ k,lo<=k->k<hi->k≠R∧k≠G):Reads W lo hi size A n xs:=
 hx.frm h.fr (fun k a b hS=>by have:=h1 k a b;omega)
end
theorem zdO (W:World) (Z:Nat) (u0 u1 u2:Value):Frm (fun k=>k=Z) W (((W.setCell Z u0).setCell ⟨Z,1,none⟩ u1).setCell ⟨Z,2,none⟩ u2):=
 ((dE W Z 0 u0).trans (dE _ Z 1 u1)).trans (dE _ Z 2 u2)
theorem Acc.fin {w0 wB:World}     (h:Acc w0 wB W R G M al st (.slice A n c) es)(hZ:w0.heap.size<=Z)(hZ2:Z<wB.heap.size) (u0 u1 u2:Value) :
  zbp (((W.setCell Z u0).setCell ⟨Z,1,none⟩ u1).setCell ⟨Z,2,none⟩ u2) R A n ⟨al,st,es⟩ ∧
  Rd (((W.setCell Z u0).setCell ⟨Z,1,none⟩ u1).setCell ⟨Z,2,none⟩ u2) R M∧Dr R w0 (((W.setCell Z u0).setCell ⟨Z,1,none⟩ u1).setCell ⟨Z,2,none⟩ u2):=by
 have a:=zdO W Z u0 u1 u2;obtain⟨f,_⟩:=h.reads;have i:=h.hR;have g:=h.hB;have d:=h.own;rw [← f] at d;refine⟨zbp.own (s:=⟨al,st,es⟩) (zf d a (fun b hv hS=>by have:=(h.own.lt b hv).1;omega)) oM,h.rd.frm a (fun k h1 h2=>oM),?_⟩;exact ((h.dr.ag (p:=⟨Z,0,none⟩) hZ u0).ag (p:=⟨Z,1,none⟩) hZ u1).ag (p:=⟨Z,2,none⟩) hZ u2
end Go.Proofs.YtfcjhpodichpjaaGreatDoor
