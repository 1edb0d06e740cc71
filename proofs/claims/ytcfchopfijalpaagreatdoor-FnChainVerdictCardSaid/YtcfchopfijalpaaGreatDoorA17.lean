/- Two systems -/
import Derived.Test.YtcfchopfijalpaaGreatDoorA16
import Derived.Test.YtcfchopfijalpaaGreatDoorA15
set_option maxHeartbeats 4000000
set_option maxRecDepth 100000
namespace Go.Proofs.YtcfchopfijalpaaGreatDoor
open Go Go.RowKit
open Blk renaming new->eK
open Ext renaming bl_->eJ,refl->dB
open Frm renaming setCell->dF
open List renaming getElem?_append_right->eG,getElem?_eq_getElem->dE,getElem?_map->eF,length_append->eE,length_set->fN,length_take->e8,mem_of_getElem?->dC,mem_singleton->fC,take_of_length_le->dU
open Nat renaming le_of_lt->jG,le_refl->dD,or_lt_two_pow->eT,zero_add->eI,zero_le->dG
open Option renaming map_eq_some_iff->gE
open Reads renaming af->eO
variable {A A' A2 B B' C:Option Addr} {K L M R Z a base c c1 c2 d d' d2 g k lo m m' n n' n2 x:Nat} {W w w0 w1 w2:World} {b p:Aut} {s s2:Sys} {ss:List Sys} {t:TypeId} {u1 u2 u3 u4 u5:Array Value} {v:Value}
theorem Dr.far {a b c:World}(h:Dr R a b)(hf:Frm (fun k=>k=Z) b c)(hZ:a.heap.size<=Z):Dr R a c:=
 ⟨hf.os.trans h.os,hf.tape.trans h.tape,hf.output.trans h.output,Nat.le_trans h.size hf.size,fun k hk hn=>(hf.block k (Nat.lt_of_lt_of_le hk h.size) (fun e=>oM)).trans (h.block k hk hn)⟩
theorem zab (W:World) (Z:Nat) (u0 u1 u2:Value):Frm (fun k=>k=Z) W (((W.setCell Z u0).setCell ⟨Z,1,none⟩ u1).setCell ⟨Z,2,none⟩ u2):=
 ((dF W Z 0 u0).trans (dF _ Z 1 u1)).trans (dF _ Z 2 u2)
theorem zao {cs:Array Value} (h:Blk w Z t cs)(hc:cs.size=3) (u0 u1 u2:Value):Blk (((w.setCell Z u0).setCell ⟨Z,1,none⟩ u1).setCell ⟨Z,2,none⟩ u2) Z t #[u0,u1,u2]:=by
 obtain⟨l⟩:=cs
 match l,hc with
 |[a,b,c],_=>simpa using ((h.ab 0 u0).ab 1 u1).ab 2 u2
def autZ:Aut:=⟨0,[],[]⟩
theorem own_autZ (w:World) (base:Nat):zN w base none 0 0 none 0 0 autZ:=⟨⟨[],World.ownsRow_nil _ _ _ _,zE.nil _ _⟩,rfl,World.ownsRow_nil _ _ _ _,rfl⟩
theorem bd_autZ (K:Nat):BdA K autZ:=⟨dG _,dG _,fun l hl=>by simp [autZ] at hl⟩
structure zcl (w0 W:World) (R M L K:Nat) (s:Sys) (A:Option Addr) (n c:Nat) (t:Sys) (C:Option Addr) (k c2:Nat) (p:Aut) (B:Option Addr) (m d:Nat) (B':Option Addr) (m' d':Nat):Prop where
 is:zbK W R A n s
 it:zbK W R C k t
 ip:zN W (R+1) B m d B' m' d' p
 ns:(n<=L∧n<=c)∧(k<=L∧k<=c2)
 bd:Hid (BdA K p)
 rd:Rd W R M
 dr:Dr R w0 W
 hR:R<w0.heap.size
section
variable {w0 W W':World} {R M L K N J H Z n c k c2 m d m' d':Nat} {s t:Sys} {p:Aut} {A B B' C:Option Addr}
theorem zcl.drawn (h:zcl w0 W R M L K s A n c t C k c2 p B m d B' m' d')(hd:Dr R W W')(hr:Rd W' R N):zcl w0 W' R N L K s A n c t C k c2 p B m d B' m' d':=
 ⟨h.is.dr hd,h.it.dr hd,h.ip.keep hd (fun b h1 e=>oM),h.ns,h.bd,hr,h.dr.trans hd,h.hR⟩
theorem zcl.ext (h:zcl w0 W R M L K s A n c t C k c2 p B m d B' m' d')(hx:Ext W W'):zcl w0 W' R M L K s A n c t C k c2 p B m d B' m' d':=h.drawn hx.dr (h.rd.ext hx)
theorem zcl.more (h:zcl w0 W R M L K s A n c t C k c2 p B m d B' m' d')(hM:M<=N)(hL:L<=J)(hK:K<=H):zcl w0 W R N J H s A n c t C k c2 p B m d B' m' d':=
 ⟨h.is,h.it,h.ip,oH h.ns,za (BdL.more h.bd.out hK),h.rd.more hM,h.dr,h.hR⟩
theorem zcl.far {ty:TypeId} {cs:Array Value}(h:zcl w0 W R M L K s A n c t C k c2 p B m d B' m' d')(hB:Blk W Z ty cs)(hf:Frm (fun k=>k=Z) W W')(hZ:w0.heap.size<=Z)(h1:ty≠152)(h2:ty≠3∧ty≠128∧ty≠4):zcl w0 W' R M L K s A n c t C k c2 p B m d B' m' d':=
 ⟨h.is.far hB h1 hf,h.it.far hB h1 hf,h.ip.ar hB hf h2,h.ns,h.bd,h.rd.frm hf (fun k hk e=>oH h.hR),h.dr.far hf hZ,h.hR⟩
theorem zcl.less (h:zcl w0 W R M L K s A n c t C k c2 p B m d B' m' d')(hd:Dr R w1 w0)(hR:R<w1.heap.size):zcl w1 W R M L K s A n c t C k c2 p B m d B' m' d':=
 ⟨h.is,h.it,h.ip,h.ns,h.bd,h.rd,hd.trans h.dr,hR⟩
end
def Ne6 (a b c d e f:Nat):Prop:=(a≠b∧a≠c∧a≠d∧a≠e∧a≠f)∧(b≠c∧b≠d∧b≠e∧b≠f)∧(c≠d∧c≠e∧c≠f)∧(d≠e∧d≠f)∧e≠f
structure Tri (w0 W:World) (R M L K:Nat) (Zs Zt Zp Gs Gt Gp:Nat) (s:Sys) (A:Option Addr) (n c:Nat) (t:Sys) (C:Option Addr) (k c2:Nat) (p:Aut) (B:Option Addr) (m d:Nat) (B':Option Addr) (m' d':Nat):Prop where
 at_:zcl w0 W R M L K s A n c t C k c2 p B m d B' m' d'
 zs:Blk W Zs 38 #[(0:Int),(0:Int),()]
 zt:Blk W Zt 38 #[(0:Int),(0:Int),()]
 zp:Blk W Zp 31 #[(0:Int),(),()]
 bs:Blk W Gs 38 #[s.al,s.st,.slice A n c]
 bt:Blk W Gt 38 #[t.al,t.st,.slice C k c2]
 bp:Gp=0∨Blk W Gp 31 #[p.al,.slice B m d,.slice B' m' d']
 ge:w0.heap.size<=Zs∧w0.heap.size<=Zt∧w0.heap.size<=Zp∧w0.heap.size<=Gs∧w0.heap.size<=Gt∧(Gp=0∨w0.heap.size<=Gp)
 ne:Hid (Ne6 Zs Zt Zp Gs Gt Gp)
section
variable {w0 W W':World} {R M L K N J H n c k c2 m d m' d' Zs Zt Zp Gs Gt Gp:Nat} {s t:Sys} {p:Aut} {A B B' C:Option Addr}
theorem Tri.drawn (h:Tri w0 W R M L K Zs Zt Zp Gs Gt Gp s A n c t C k c2 p B m d B' m' d')(hd:Dr R W W')(hr:Rd W' R N):Tri w0 W' R N L K Zs Zt Zp Gs Gt Gp s A n c t C k c2 p B m d B' m' d':=by
 have f:=h.at_.hR;have a:=h.ge;exact⟨h.at_.drawn hd hr,h.zs.dr hd oM,h.zt.dr hd oM,h.zp.dr hd oM,h.bs.dr hd oM,h.bt.dr hd oM,by
  rcases a.2.2.2.2.2 with e|e
  ·exact .inl e
  ·exact h.bp.imp id (fun b=>b.dr hd oM),a,h.ne⟩
theorem Tri.ext (h:Tri w0 W R M L K Zs Zt Zp Gs Gt Gp s A n c t C k c2 p B m d B' m' d')(hx:Ext W W'):Tri w0 W' R M L K Zs Zt Zp Gs Gt Gp s A n c t C k c2 p B m d B' m' d':=h.drawn hx.dr (h.at_.rd.ext hx)
theorem Tri.more (h:Tri w0 W R M L K Zs Zt Zp Gs Gt Gp s A n c t C k c2 p B m d B' m' d')(hM:M<=N)(hL:L<=J)(hK:K<=H):Tri w0 W R N J H Zs Zt Zp Gs Gt Gp s A n c t C k c2 p B m d B' m' d':={ h with at_:=h.at_.more hM hL hK }
theorem Tri.az (h:Tri w0 W R M L K Zs Zt Zp Gs Gt Gp s A n c t C k c2 p B m d B' m' d')(hG:Gp≠0):Blk W Gp 31 #[.int .i64 p.al,.slice B m d,.slice B' m' d']:=h.bp.resolve_left hG
theorem Tri.setS (h:Tri w0 W R M L K Zs Zt Zp Gs Gt Gp s A n c t C k c2 p B m d B' m' d')(hs:zbK W R A2 n2 s2)(hn:n2<=L∧n2<=d2) :
  Tri w0 (((W.setCell Gs s2.al).setCell ⟨Gs,1,none⟩ s2.st).setCell ⟨Gs,2,none⟩ (.slice A2 n2 d2)) R M L K Zs Zt Zp Gs Gt Gp s2 A2 n2 d2 t C k c2 p B m d B' m' d':=by
 have a:=zab W Gs (.int .i64 s2.al) (.int .i64 s2.st) (.slice A2 n2 d2);obtain⟨⟨i,j,l,o,q⟩,⟨r,u,v,x⟩,⟨y,c2,z⟩,⟨D,g⟩,E⟩:=h.ne.out;have f:=h.at_.far h.bs a h.ge.2.2.2.1 dM dM;exact⟨{ f with is:=hs.far h.bs dM a,ns:=⟨hn,f.ns.2⟩ },h.zs.frm a oM,h.zt.frm a oM,h.zp.frm a oM,zao h.bs rfl _ _ _,h.bt.frm a oM,h.bp.imp id (fun b=>b.frm a oM),h.ge,h.ne⟩
theorem Tri.setT (h:Tri w0 W R M L K Zs Zt Zp Gs Gt Gp s A n c t C k c2 p B m d B' m' d')(hs:zbK W R A2 n2 s2)(hn:n2<=L∧n2<=d2) :
  Tri w0 (((W.setCell Gt s2.al).setCell ⟨Gt,1,none⟩ s2.st).setCell ⟨Gt,2,none⟩ (.slice A2 n2 d2)) R M L K Zs Zt Zp Gs Gt Gp s A n c s2 A2 n2 d2 p B m d B' m' d':=by
 have a:=zab W Gt (.int .i64 s2.al) (.int .i64 s2.st) (.slice A2 n2 d2);obtain⟨⟨i,j,l,o,q⟩,⟨r,u,v,x⟩,⟨y,c2,z⟩,⟨D,g⟩,E⟩:=h.ne.out;have f:=h.at_.far h.bt a h.ge.2.2.2.2.1 dM dM;exact⟨{ f with it:=hs.far h.bt dM a,ns:=⟨f.ns.1,hn⟩ },h.zs.frm a oM,h.zt.frm a oM,h.zp.frm a oM,h.bs.frm a oM,zao h.bt rfl _ _ _,h.bp.imp id (fun b=>b.frm a oM),h.ge,h.ne⟩
theorem Tri.setP {p2:Aut}   {A3:Option Addr} {n3 d3:Nat}(h:Tri w0 W R M L K Zs Zt Zp Gs Gt Gp s A n c t C k c2 p B m d B' m' d')(hG:Gp≠0)(hp:zN W (R+1) A2 n2 d2 A3 n3 d3 p2)(hb:BdA K p2) :
  Tri w0 (((W.setCell Gp p2.al).setCell ⟨Gp,1,none⟩ (.slice A2 n2 d2)).setCell ⟨Gp,2,none⟩ (.slice A3 n3 d3)) R M L K Zs Zt Zp Gs Gt Gp s A n c t C k c2 p2 A2 n2 d2 A3 n3 d3:=by
 have a:=zab W Gp (.int .i64 p2.al) (.slice A2 n2 d2) (.slice A3 n3 d3);obtain⟨⟨i,j,l,o,q⟩,⟨r,u,v,x⟩,⟨y,c2,z⟩,⟨D,f⟩,E⟩:=h.ne.out;have b:=h.az hG;have g:=h.at_.far b a (h.ge.2.2.2.2.2.resolve_left hG) dM dM;exact⟨{ g with ip:=hp.ar b a dM,bd:=za hb },h.zs.frm a oM,h.zt.frm a oM,h.zp.frm a oM,h.bs.frm a oM,h.bt.frm a oM,.inr (zao b rfl _ _ _),h.ge,h.ne⟩
end
def RetSTP (R M L K:Nat) (w:World) (e:Ending) (w':World):Prop:=
 ∃ (s:Sys) (A:Option Addr) (n c:Nat) (t:Sys) (C:Option Addr) (k c2:Nat) (p:Aut) (B:Option Addr) (m d:Nat) (B':Option Addr) (m' d':Nat),
  e=.returned (.tuple #[.agg #[s.al,s.st,.slice A n c],.agg #[t.al,t.st,.slice C k c2],.agg #[p.al,.slice B m d,.slice B' m' d']])∧zcl w w' R M L K s A n c t C k c2 p B m d B' m' d'
def RetSPT (R M L K:Nat) (w:World) (e:Ending) (w':World):Prop:=
 ∃ (s:Sys) (A:Option Addr) (n c:Nat) (t:Sys) (C:Option Addr) (k c2:Nat) (p:Aut) (B:Option Addr) (m d:Nat) (B':Option Addr) (m' d':Nat),
  e=.returned (.tuple #[.agg #[s.al,s.st,.slice A n c],.agg #[p.al,.slice B m d,.slice B' m' d'],.agg #[t.al,t.st,.slice C k c2]])∧zcl w w' R M L K s A n c t C k c2 p B m d B' m' d'
section
variable {w0 W:World} {R M L K N J H n c k c2 m d m' d' Zs Zt Zp:Nat} {s t:Sys} {p:Aut} {A B B' C:Option Addr} {us ut up:Array Value}
theorem zcl.finSTP (h:zcl w0 W R M L K s A n c t C k c2 p B m d B' m' d') (zs:Blk W Zs 38 us) (zt:Blk W Zt 38 ut) (zp:Blk W Zp 31 up)(h1:us.size=3)(h2:ut.size=3)(h3:up.size=3)(hz1:w0.heap.size<=Zs)(hz2:w0.heap.size<=Zt)(hz3:w0.heap.size<=Zp) (e1:Zs≠Zt) (e2:Zs≠Zp) (e3:Zt≠Zp) :
  Hid (zcl w0 (((((((((W.setCell Zs s.al).setCell ⟨Zs,1,none⟩ s.st).setCell ⟨Zs,2,none⟩ (.slice A n c)).setCell Zt t.al).setCell ⟨Zt,1,none⟩ t.st).setCell ⟨Zt,2,none⟩ (.slice C k c2)).setCell Zp p.al).setCell ⟨Zp,1,none⟩ (.slice B m d)).setCell ⟨Zp,2,none⟩ (.slice B' m' d')) R M L K s A n c t C k c2 p B m d B' m' d') ∧
  Hid (Blk (((((((((W.setCell Zs s.al).setCell ⟨Zs,1,none⟩ s.st).setCell ⟨Zs,2,none⟩ (.slice A n c)).setCell Zt t.al).setCell ⟨Zt,1,none⟩ t.st).setCell ⟨Zt,2,none⟩ (.slice C k c2)).setCell Zp p.al).setCell ⟨Zp,1,none⟩ (.slice B m d)).setCell ⟨Zp,2,none⟩ (.slice B' m' d')) Zs 38 #[s.al,s.st,.slice A n c] ∧
  Blk (((((((((W.setCell Zs s.al).setCell ⟨Zs,1,none⟩ s.st).setCell ⟨Zs,2,none⟩ (.slice A n c)).setCell Zt t.al).setCell ⟨Zt,1,none⟩ t.st).setCell ⟨Zt,2,none⟩ (.slice C k c2)).setCell Zp p.al).setCell ⟨Zp,1,none⟩ (.slice B m d)).setCell ⟨Zp,2,none⟩ (.slice B' m' d')) Zt 38 #[t.al,t.st,.slice C k c2] ∧
  Blk (((((((((W.setCell Zs s.al).setCell ⟨Zs,1,none⟩ s.st).setCell ⟨Zs,2,none⟩ (.slice A n c)).setCell Zt t.al).setCell ⟨Zt,1,none⟩ t.st).setCell ⟨Zt,2,none⟩ (.slice C k c2)).setCell Zp p.al).setCell ⟨Zp,1,none⟩ (.slice B m d)).setCell ⟨Zp,2,none⟩ (.slice B' m' d')) Zp 31 #[p.al,.slice B m d,.slice B' m' d']):=by
 have f1:=zab W Zs (.int .i64 s.al) (.int .i64 s.st) (.slice A n c);have b:=zao zs h1 (.int .i64 s.al) (.int .i64 s.st) (.slice A n c);replace h:=h.far zs f1 hz1 dM dM;replace zt:=zt.frm f1 oM;replace zp:=zp.frm f1 oM;clear f1 zs;generalize ((W.setCell Zs s.al).setCell ⟨Zs,1,none⟩ s.st).setCell ⟨Zs,2,none⟩ (.slice A n c)=f at *;have f2:=zab f Zt (.int .i64 t.al) (.int .i64 t.st) (.slice C k c2);have i:=zao zt h2 (.int .i64 t.al) (.int .i64 t.st) (.slice C k c2);replace h:=h.far zt f2 hz2 dM dM;replace b:=b.frm f2 oM;replace zp:=zp.frm f2 oM;clear f2 zt;generalize ((f.setCell Zt t.al).setCell ⟨Zt,1,none⟩ t.st).setCell ⟨Zt,2,none⟩ (.slice C k c2)=g at *;have a:=zab g Zp (.int .i64 p.al) (.slice B m d) (.slice B' m' d');exact⟨za (h.far zp a hz3 dM dM),za ⟨b.frm a oM,i.frm a oM,zao zp h3 _ _ _⟩⟩
theorem zcl.finSPT (h:zcl w0 W R M L K s A n c t C k c2 p B m d B' m' d') (zs:Blk W Zs 38 us) (zt:Blk W Zt 38 ut) (zp:Blk W Zp 31 up)(h1:us.size=3)(h2:ut.size=3)(h3:up.size=3)(hz1:w0.heap.size<=Zs)(hz2:w0.heap.size<=Zt)(hz3:w0.heap.size<=Zp) (e1:Zs≠Zt) (e2:Zs≠Zp) (e3:Zt≠Zp) :
  Hid (zcl w0 (((((((((W.setCell Zs s.al).setCell ⟨Zs,1,none⟩ s.st).setCell ⟨Zs,2,none⟩ (.slice A n c)).setCell Zp p.al).setCell ⟨Zp,1,none⟩ (.slice B m d)).setCell ⟨Zp,2,none⟩ (.slice B' m' d')).setCell Zt t.al).setCell ⟨Zt,1,none⟩ t.st).setCell ⟨Zt,2,none⟩ (.slice C k c2)) R M L K s A n c t C k c2 p B m d B' m' d') ∧
  Hid (Blk (((((((((W.setCell Zs s.al).setCell ⟨Zs,1,none⟩ s.st).setCell ⟨Zs,2,none⟩ (.slice A n c)).setCell Zp p.al).setCell ⟨Zp,1,none⟩ (.slice B m d)).setCell ⟨Zp,2,none⟩ (.slice B' m' d')).setCell Zt t.al).setCell ⟨Zt,1,none⟩ t.st).setCell ⟨Zt,2,none⟩ (.slice C k c2)) Zs 38 #[s.al,s.st,.slice A n c] ∧
  Blk (((((((((W.setCell Zs s.al).setCell ⟨Zs,1,none⟩ s.st).setCell ⟨Zs,2,none⟩ (.slice A n c)).setCell Zp p.al).setCell ⟨Zp,1,none⟩ (.slice B m d)).setCell ⟨Zp,2,none⟩ (.slice B' m' d')).setCell Zt t.al).setCell ⟨Zt,1,none⟩ t.st).setCell ⟨Zt,2,none⟩ (.slice C k c2)) Zt 38 #[t.al,t.st,.slice C k c2] ∧
  Blk (((((((((W.setCell Zs s.al).setCell ⟨Zs,1,none⟩ s.st).setCell ⟨Zs,2,none⟩ (.slice A n c)).setCell Zp p.al).setCell ⟨Zp,1,none⟩ (.slice B m d)).setCell ⟨Zp,2,none⟩ (.slice B' m' d')).setCell Zt t.al).setCell ⟨Zt,1,none⟩ t.st).setCell ⟨Zt,2,none⟩ (.slice C k c2)) Zp 31 #[p.al,.slice B m d,.slice B' m' d']):=by
 have f1:=zab W Zs (.int .i64 s.al) (.int .i64 s.st) (.slice A n c);have b:=zao zs h1 (.int .i64 s.al) (.int .i64 s.st) (.slice A n c);replace h:=h.far zs f1 hz1 dM dM;replace zt:=zt.frm f1 oM;replace zp:=zp.frm f1 oM;clear f1 zs;generalize ((W.setCell Zs s.al).setCell ⟨Zs,1,none⟩ s.st).setCell ⟨Zs,2,none⟩ (.slice A n c)=f at *;have f2:=zab f Zp (.int .i64 p.al) (.slice B m d) (.slice B' m' d');have i:=zao zp h3 (.int .i64 p.al) (.slice B m d) (.slice B' m' d');replace h:=h.far zp f2 hz3 dM dM;replace b:=b.frm f2 oM;replace zt:=zt.frm f2 oM;clear f2 zp;generalize ((f.setCell Zp p.al).setCell ⟨Zp,1,none⟩ (.slice B m d)).setCell ⟨Zp,2,none⟩ (.slice B' m' d')=g at *;have a:=zab g Zt (.int .i64 t.al) (.int .i64 t.st) (.slice C k c2);exact⟨za (h.far zt a hz2 dM dM),za ⟨b.frm a oM,zao zt h2 _ _ _,i.frm a oM⟩⟩
end
theorem bits_all (y:Nat)(hy:y<64):bits .and .i64 (-1) (y:Int)=(y:Int):=
 (show ∀ y:Fin 64,bits .and .i64 (-1) ((y.val:Nat):Int)=((y.val:Nat):Int) by decide +kernel) ⟨y,hy⟩
theorem yA17a1 {P:Prop}(h:P:=by
 obtain⟨f1,f2⟩:=zjh (N:=M+600) (sh:=zgZ) hxz zkb hsh.out hr6 hd6 bz rfl hRl (Nat.le_refl _) (Nat.le_refl _);have bz5:=bz.dr hd6 oM;have cZ:=bz5.cell;have fZ:=bz5.frozen;go_wp2_with fail
 have cf:=f2.cell;exact bodyPost_ret (v:=.agg #[b.al,.slice A n c,.slice A' n' c']) (by simp [results,Tryz.results235,go_sem,cf]) rfl f1.out
 ):P:=h
theorem zeN {zz:Int} (h:Rd w R M)(hM:M<=700000000)(ha:(∃ a:Nat,zz=(a:Int)∧a<64)∨zz = -1) :
  Calls Tryz.prog 235 #[.pointer (some R),zz] w (zha R (M+600) zgZ w):=by
 have hRl:=h.lt
 go_enter Tryz.func235,Tryz.ntmps235
 have hxz:=(dB w).alloc (.cells #[(0:Int),(),()] 31);have bz:=eK w 31 #[(0:Int),(),()];have B:(w.alloc (.cells #[(0:Int),(),()] 31)).heap.size=w.heap.size+1:=sM;go_wp2_with fail
 rw [← B];generalize w.alloc _=E at *;refine (zbb [63,63,5,3,6] 5 #[(63:Int),(63:Int),(5:Int),(3:Int),(6:Int)] rfl rfl oM oM (h.ext hxz) oM).mono ?_;rintro e I ⟨x,j,rfl,r,k⟩;obtain⟨y,C,rfl⟩:∃ y:Nat,y<64∧x=(y:Int):=⟨x.toNat,by simp at j;omega,by simp at j;omega⟩;clear j;replace k:=((Dr.refl R E).alloc _).trans k;obtain⟨d,m,s⟩:∃ d:Nat,bits .and .i64 zz (y:Int)=(d:Int)∧d<64:=by
  rcases ha with ⟨a,rfl,ha⟩|rfl
  ·exact⟨a&&&y,zco tM tM,Nat.lt_of_le_of_lt Nat.and_le_left ha⟩
  ·exact⟨y,bits_all y C,C⟩
 go_upto_region 2 with fail
 clear m;go_wp2_with fail
 refine (zB r oM).mono ?_;rintro e J ⟨z,rfl,-,-,i,f⟩;replace f:=k.trans f;clear k r;go_upto_if 13 with fail
 go_cut [5] (fun s5 wx=>∃ d:Nat,d<64∧s5=.int .i64 (d:Nat)∧Rd wx R (M+10)∧Dr R E wx)
 case first =>
  by_cases hz:z=0
  ·subst hz;go_wp2_with fail
   refine (spec_l1Some i oM).mono ?_;rintro e H ⟨x,j,rfl,l,g⟩;go_wp2_with fail
   go_meet;exact⟨x,j,rfl,l.more oM,f.trans g⟩
  ·have G:((z:Int)==0)=false:=by simp;omega
   go_wp2_with fail
   go_meet;exact⟨d,s,rfl,i.more oM,f⟩
 case rest =>
  clear i f s;obtain⟨d,t,rfl,i,f⟩:=hcut;go_wp2_with fail
  refine (zB i oM).mono ?_;rintro e H ⟨y,rfl,-,-,l,g⟩;replace g:=f.trans g
  by_cases C:0<y
  ·have D:((y:Int)>0):=oM;go_wp2_with fail
   refine (zbb [3,2,4,1] 4 #[(3:Int),(2:Int),(4:Int),(1:Int)] rfl rfl oM oM l oM).mono ?_;rintro e L ⟨x,j,rfl,v,u⟩;obtain⟨p,q,F,rfl⟩:∃ y:Nat,1<=y∧y<=4∧x=(y:Int):=⟨x.toNat,by simp at j;omega,by simp at j;omega,by simp at j;omega⟩;clear j;have o:=(g.alloc _).trans u;go_wp2_with fail
   refine (zic v oM t q oM).mono ?_;intro e w6 hret;obtain⟨b,A,n,c,A',n',c',rfl,zkb,hsh,hr6,hd6⟩:=hret.mono (N:=M+600) (sh':=zgZ) o oM (fun b hb=>⟨d,p,t,q,oM,hb⟩);exact yA17a1
  ·have D:¬ ((y:Int)>0):=oM;go_wp2_with fail
   refine (spec_l3Over l oM t).mono ?_;intro e w6 hret;obtain⟨b,A,n,c,A',n',c',rfl,zkb,hsh,hr6,hd6⟩:=hret.mono (N:=M+600) (sh':=zgZ) g oM (fun b hb=>hb);exact yA17a1
theorem zie (h:Rd w R M)(hM:M<=700000000)(ha:a<64) :
  Calls Tryz.prog 235 #[.pointer (some R),a] w (zha R (M+600) zgZ w):=zeN h hM (.inl ⟨a,rfl,ha⟩)
section
variable {w0 W W':World} {R G H M N:Nat} {s t:Sys} {A B:Option Addr} {n c m d:Nat}
theorem blk_fill {cs:Array Value} {t:TypeId}(h:Blk w Z t cs)(hc:cs.size=3) (u0 u1 u2:Value):Blk (((w.setCell Z u0).setCell ⟨Z,1,none⟩ u1).setCell ⟨Z,2,none⟩ u2) Z t #[u0,u1,u2]:=by
 obtain⟨l⟩:=cs
 match l,hc with
 |[a,b,c],_=>simpa using ((h.ab 0 u0).ab 1 u1).ab 2 u2
end
theorem Dr.new (h:Ext w w1)(hR:w.heap.size<=R)(hd:Dr R w1 w2):Ext w w2:=
 h.frm hd (fun k hk he=>oM)
theorem zbK.new (h:zbK W R A n s)(hR:w.heap.size<=R):zZ W w.heap.size W.heap.size A n s:=
 h.at_.more oM (dD _)
theorem zci (h:Rd w R M)(hM:M<=800000000) :
  Calls Tryz.prog 166 #[.pointer (some R)] w (RetG R (M+30000) 20000 w):=by
 have hRl:=h.lt;have l:=(dB w).alloc (.cells #[(0:Int),(0:Int),()] 38);have bz5:=eK w 38 #[(0:Int),(0:Int),()];have u:=h.ext l;have C:=l.dr (R:=R);have U:=bz5.lt
 go_enter Tryz.func166,Tryz.ntmps166
 go_wp2_with fail
 have G:=(zbb [3,6,7,5,2] 5 #[(3:Int),(6:Int),(7:Int),(5:Int),(2:Int)] rfl rfl oM oM u oM);simp only [World.size_alloc] at G;refine G.mono ?_;rintro e Y ⟨al,f,rfl,hr6,hd6⟩;have D:=(C.ext ((dB _).alloc _)).trans hd6;have m:=(bz5.ext ((dB _).alloc _)).dr hd6 oM;go_wp2_with fail
 refine (zbb [2,3,1,3] 4 #[(2:Int),(3:Int),(1:Int),(3:Int)] rfl rfl oM oM hr6 oM).mono ?_;rintro e Z ⟨J,b,rfl,x,i⟩;have E:=(D.ext ((dB _).alloc _)).trans i;have n:=(m.ext ((dB _).alloc _)).dr i oM;go_wp2_with fail
 refine (zbb [2,3,4] 3 #[(2:Int),(3:Int),(4:Int)] rfl rfl oM oM x oM).mono ?_;rintro e w8 ⟨X,_,rfl,y,j⟩;have F:=(E.ext ((dB _).alloc _)).trans j;have o:=(n.ext ((dB _).alloc _)).dr j oM;obtain⟨a,rfl,S⟩:∃ a:Nat,al=a∧a<64:=⟨al.toNat,by simp at f;omega,by simp at f;omega⟩;obtain⟨p,rfl,t,T⟩:∃ p:Nat,J=p∧1<=p∧p<=16:=⟨J.toNat,by simp at b;omega,by simp at b;omega,by simp at b;omega⟩;clear f b;go_wp2_with fail
 refine (zeE y oM S t T).mono ?_;rintro e w9 ⟨I,O,V,H,rfl,B,r,s,z,k⟩;have d:=o.dr k oM;have g:=za (zhv (R:=R) (M:=M+30000) (L:=20000) (c:=H) B r s (z.more oM) (F.trans k) d hRl (dD _));have q:=d.cell;have Q:=d.frozen;go_wp2_with fail
 exact bodyPost_ret (v:=.agg #[I.al,I.st,.slice O V H]) (by simp [results,Tryz.results166,go_sem,q]) rfl g.out
theorem or_al {b:Nat}(ha:a<64)(hb:b<64):bits .or .i64 (a:Int) (b:Int)=((a|||b:Nat):Int)∧a|||b<64:=by
 have h:=eT (n:=6) (x:=a) (y:=b) oM oM;exact⟨zbm tM tM,oM⟩
theorem spec_l9Three (h:Rd w R M)(hM:M<=600000000) :
  Calls Tryz.prog 189 #[.pointer (some R)] w (RetSPT R (M+150000) 20000 16 w):=by
 have hRl:=h.lt
 go_enter Tryz.func189,Tryz.ntmps189
 go_upto_region 1 with fail
 generalize U0:((w.alloc _).alloc _).alloc _=w0 at *;obtain⟨aq,z1,z2,z3⟩:=Ext.x3_ U0;have a6:w0.heap.size=w.heap.size+3:=by rw [← U0];simp
 clear U0;go_wp2_with fail
 refine (zci (h.ext aq) oM).mono ?_;rintro e w1 ⟨s,A,n,c,rfl,G,D,ak,F,j⟩;have aH:=j.size;have o:=(dB w1).alloc (.cells #[s.al,s.st,.slice A n c] 38);have bs:=eK w1 38 #[s.al,s.st,.slice A n c];have aG:(w1.alloc (.cells #[s.al,s.st,.slice A n c] 38)).heap.size=w1.heap.size+1:=sM;have ai:Dr R w (w1.alloc (.cells #[s.al,s.st,.slice A n c] 38)):=(aq.dr.trans j).alloc _;replace G:=G.ext o;replace F:=F.ext o;replace z1:=(z1.dr j oM).ext o;replace z2:=(z2.dr j oM).ext o;replace z3:=(z3.dr j oM).ext o;go_upto_region 2 with fail
 generalize hGs:w1.heap.size=Gs at *;generalize w1.alloc _=w2 at *;clear o;go_wp2_with fail
 refine (zci F oM).mono ?_;rintro e w3 ⟨t,C,k,u,rfl,ap,E,am,ao,g⟩;have aI:=g.size;have f:=(dB w3).alloc (.cells #[t.al,t.st,.slice C k u] 38);have bt:=eK w3 38 #[t.al,t.st,.slice C k u];have Z:Tri w (w3.alloc (.cells #[t.al,t.st,.slice C k u] 38)) R (M+60000) 20000 16 w.heap.size (w.heap.size+1+1) (w.heap.size+1) Gs w3.heap.size 0 s A n c t C k u autZ none 0 0 none 0 0:=
  ⟨⟨(G.dr g).ext f,ap.ext f,own_autZ _ _,⟨ak,am⟩,za (bd_autZ _),(ao.ext f).more oM,(ai.trans g).ext f,hRl⟩,(z1.dr g oM).ext f,(z3.dr g oM).ext f,(z2.dr g oM).ext f,(bs.dr g oM).ext f,bt,.inl rfl,oM,za (by unfold Ne6;omega)⟩
 clear G F z1 z2 z3 bs bt ap f ai;go_upto_region 3 with fail
 generalize hGt:w3.heap.size=Gt at *;generalize w3.alloc _=w4 at *;have an:Hid (Gs<Gt∧w.heap.size+3<=Gs):=za oM;clear aH aI j g ao ak am aG hGs hGt;go_wp2_with fail
 refine (zB Z.at_.rd oM).mono ?_;rintro e w5 ⟨y,rfl,-,-,l,z⟩;have i:=(Z.drawn z l).more (N:=M+60001) (J:=20000) (H:=16) oM oM oM;clear Z;go_upto_if 13 with fail
 go_cut [] (fun wx=>∃ (s:Sys) (A:Option Addr) (n c:Nat),Good s∧Tri w wx R (M+60001+30000) 20000 16 w.heap.size (w.heap.size+1+1) (w.heap.size+1) Gs Gt 0 s A n c t C k u autZ none 0 0 none 0 0)
 case first =>
  by_cases hy:y=0
  ·subst hy;go_wp2_with fail
   refine (zia l oM).mono ?_;rintro e w6 ⟨s',A',n',c',rfl,Y,U,V,hr6,hd6⟩;have a:=(i.drawn hd6 hr6).more (N:=M+60001+30000) (J:=20000) (H:=16) oM oM oM;have cG:=a.bs.cell;have fG:=a.bs.frozen;have O:=a.setS Y V;go_wp2_with fail
   go_meet;exact⟨_,_,_,_,U,O⟩
  ·have aK:((y:Int)==0)=false:=by simp;omega
   go_wp2_with fail
   go_meet;exact⟨_,_,_,_,D,i.more oM oM oM⟩
 case rest =>
  clear i l z D;obtain⟨s,A,n,c,D,i⟩:=hcut;go_wp2_with fail
  refine (zB i.at_.rd oM).mono ?_;rintro e w5 ⟨y,rfl,-,-,l,z⟩;have a:=(i.drawn z l).more (N:=M+100000) (J:=20000) (H:=16) oM oM oM;clear i;go_upto_if 18 with fail
  go_cut [] (fun wx=>∃ (t:Sys) (C:Option Addr) (k u:Nat),Good t∧Tri w wx R (M+100000+30000) 20000 16 w.heap.size (w.heap.size+1+1) (w.heap.size+1) Gs Gt 0 s A n c t C k u autZ none 0 0 none 0 0)
  case first =>
   by_cases hy:y=0
   ·subst hy;go_wp2_with fail
    refine (zia a.at_.rd oM).mono ?_;rintro e w6 ⟨s',A',n',c',rfl,Y,U,V,hr6,hd6⟩;have b:=(a.drawn hd6 hr6).more (N:=M+100000+30000) (J:=20000) (H:=16) oM oM oM;have cG:=b.bt.cell;have fG:=b.bt.frozen;have O:=b.setT Y V;go_wp2_with fail
    go_meet;exact⟨_,_,_,_,U,O⟩
   ·have aK:((y:Int)==0)=false:=by simp;omega
    go_wp2_with fail
    go_meet;exact⟨_,_,_,_,E,a.more oM oM oM⟩
  case rest =>
   clear a l z E;obtain⟨t,C,k,u,E,a⟩:=hcut;obtain⟨a1,p1,Q,ag,-⟩:=D;obtain⟨a2,p2,S,ah,-⟩:=E;obtain⟨a4,aE⟩:=or_al ag ah;obtain⟨r,aJ⟩:∃ r,r=wc:=⟨_,rfl⟩;subst aJ;have aj:=za a.ge;have a0:=a.at_.hR;have cS:∀ W,Frm (fun k=>k=R∨k=w.heap.size∨k=w.heap.size+1) r W->∀ q,W.cell? ⟨Gs,q,none⟩=#[Value.int .i64 a1,.int .i64 s.st,.slice A n c][q]?:=fun W hW=>by rw [← Q];exact (a.bs.frm hW (by have:=aj.out;have:=an.out;omega)).cell
   have cT:∀ W,Frm (fun k=>k=R∨k=w.heap.size∨k=w.heap.size+1) r W->∀ q,W.cell? ⟨Gt,q,none⟩=#[Value.int .i64 a2,.int .i64 t.st,.slice C k u][q]?:=fun W hW=>by rw [← S];exact (a.bt.frm hW (by have:=aj.out;have:=an.out;omega)).cell
   have a3:Frm (fun k=>k=R∨k=w.heap.size∨k=w.heap.size+1) r r.drew:=(dB r).drew.aj;have I:=za Q;have L:=za S;clear Q S;go_wp2_with fail
   refine tR (fun X=>Frm (fun k=>k=R∨k=w.heap.size∨k=w.heap.size+1) r X) [11] (Ord.of [0,1,2,3,4,5,6,8,7,9,10,11]) ?_;refine tQ ?_;refine zD fun K hK=>?_;go_simp;refine (zie (a.at_.rd.ext (dB r).drew) oM aE).mono ?_;rintro e w7 ⟨p,B,m,d,B',m',d',rfl,hp,aD,aF,aC⟩;have x:Dr R r w7:=(Dr.refl R r).drew.trans aC;have b:=(a.drawn x aF).more (N:=M+150000) (J:=20000) (H:=16) oM oM oM;have ae:Frm (fun k=>k=R∨k=w.heap.size∨k=w.heap.size+1) r w7:=x.mono (fun k _ hk=>.inl hk);refine hK.out _ _ ae ?_;refine pT ?_;refine tQ ?_;have aR:=x.size;have aZ:=a.at_.rd.lt;have cs:=b.zs.cell;have ct:=b.zt.cell;have cp:=b.zp.cell;have fs:=b.zs.frozen;have ft:=b.zt.frozen;have fp:=b.zp.frozen;obtain⟨f1,f2⟩:=zcl.finSPT ({ b.at_ with ip:=hp.less (by simp;omega),bd:=za (BdA.of aD.out) }) b.zs b.zt b.zp rfl rfl rfl oM oM oM oM oM oM
   rw [I.out,L.out] at f1 f2;refine zD fun K hK=>?_;go_simp;have af:=ae.trans ((zab w7 w.heap.size (.int .i64 a1) (.int .i64 s.st) (.slice A n c)).mono (T:=fun k=>k=R∨k=w.heap.size∨k=w.heap.size+1) (fun k _ hk=>.inr (.inl hk)));refine hK.out _ _ af ?_;refine pT ?_;refine zD fun K hK=>?_;go_simp;have aB:=af.trans ((zab _ (w.heap.size+1) (.int .i64 p.al) (.slice B m d) (.slice B' m' d')).mono (T:=fun k=>k=R∨k=w.heap.size∨k=w.heap.size+1) (fun k _ hk=>.inr (.inr hk)));refine hK.out _ _ aB ?_;refine pT ?_;refine zP fun K hK=>?_;go_simp;refine hK.out _ _ ?_;refine zag ?_;go_wp2_with fail
   obtain⟨g1,g2,g3⟩:=f2.out;have c1:=g1.cell;have az:=g2.cell;have c3:=g3.cell;exact bodyPost_ret (v:=.tuple #[.agg #[a1,s.st,.slice A n c],.agg #[p.al,.slice B m d,.slice B' m' d'],.agg #[a2,t.st,.slice C k u]]) (by simp [results,Tryz.results189,go_sem,c1,az,c3]) rfl ⟨s,A,n,c,t,C,k,u,p,B,m,d,B',m',d',by rw [I.out,L.out],f1.out⟩
structure Ent where
 s:Sys
 A:Option Addr
 n:Nat
 c:Nat
def Ent.cs (e:Ent):List Value:=[.int .i64 e.s.al,.int .i64 e.s.st,.slice e.A e.n e.c]
def zhc (l:List Ent):List Value:=l.flatMap Ent.cs
theorem entC_snoc (l:List Ent) (e:Ent):zhc (l++[e])=zhc l++e.cs:=by simp [zhc]
theorem entC_length (l:List Ent):(zhc l).length=l.length*3:=by
 induction l with
 |nil=>rfl
 |cons e r ih =>
  show (e.cs++zhc r).length=_;rw [eE,ih,List.length_cons];show 3+_=_;omega
theorem zju {l:List Ent}  {e:Ent}(h:l[k]?=some e):(zhc l)[k*3]?=some (.int .i64 e.s.al)∧(zhc l)[k*3+1]?=some (.int .i64 e.s.st)∧(zhc l)[k*3+2]?=some (.slice e.A e.n e.c):=by
 induction l generalizing k with
 |nil=>simp at h
 |cons a r ih =>
  have d:zhc (a :: r)=a.cs++zhc r:=rfl;rw [d];cases k with
  |zero =>
   simp at h;subst h;exact⟨rfl,rfl,rfl⟩
  |succ k =>
   simp only [List.getElem?_cons_succ] at h;obtain⟨f,g,i⟩:=ih h;have b:a.cs.length=3:=rfl;refine⟨?_,?_,?_⟩
   ·rw [eG oM,b,show (k+1)*3 - 3=k*3 by omega];exact f
   ·rw [eG oM,b,show (k+1)*3+1 - 3=k*3+1 by omega];exact g
   ·rw [eG oM,b,show (k+1)*3+2 - 3=k*3+2 by omega];exact i
def Ent.ok (e:Ent) (W:World) (R:Nat):Prop:=zbK W R e.A e.n e.s∧e.n<=50000∧e.n<=e.c
structure Sld (w0 W:World) (R M:Nat) (v:Value) (l:List Ent):Prop where
 own:W.ownsRow w0.heap.size 38 3 v l.length (zhc l)
 ent:∀ e∈l,e.ok W R
 rd:Rd W R M
 dr:Dr R w0 W
 hR:R<w0.heap.size
theorem own_sys {size:Nat}  {xs:List Value}(h:w.ownsRow base 38 size v n xs) (hk:v.ownBlock=some k):∀ cs,w.heap[k]?≠some (.cells cs 152 (0,0)):=by
 rcases h.2 with ⟨rfl,_⟩|⟨g,a,b,rfl,_,c,_⟩
 ·simp [Value.ownBlock] at hk
 ·have:g=k:=by simpa [Value.ownBlock] using hk
  subst this;intro cs e;rw [c] at e;injection e with e
  injection e with _ e2
  exact absurd e2 dM
section
variable {w0 W W':World} {R M N:Nat} {v:Value} {l:List Ent}
theorem Ent.ok.dr {e:Ent}(h:e.ok W R)(hd:Dr R W W'):e.ok W' R:=⟨h.1.dr hd,h.2⟩
theorem Sld.drawn (h:Sld w0 W R M v l)(hd:Dr R W W')(hr:Rd W' R N):Sld w0 W' R N v l:=
 ⟨zaJ h.own hd (fun b h1 e=>oH h.hR),fun e he=>(h.ent e he).dr hd,hr,h.dr.trans hd,h.hR⟩
theorem Sld.ext (h:Sld w0 W R M v l)(hx:Ext W W'):Sld w0 W' R M v l:=h.drawn hx.dr (h.rd.ext hx)
theorem Sld.more (h:Sld w0 W R M v l)(hM:M<=N):Sld w0 W R N v l:={ h with rd:=h.rd.more hM }
theorem Sld.less (h:Sld w0 W R M v l)(hd:Dr R w1 w0)(hR:R<w1.heap.size):Sld w1 W R M v l:=
 ⟨zm h.own hd.size,h.ent,h.rd,hd.trans h.dr,hR⟩
theorem Sld.grown (h:Sld w0 W R M v l)(hg:W.grownBy W' v.ownBlock):(∀ e:Ent,e.ok W R->e.ok W' R)∧Dr R w0 W'∧Rd W' R M:=by
 have a:=h.hR;refine⟨fun e he=>⟨he.1.frm (Frm.ae hg) (fun k hk _=>own_sys h.own hk),he.2⟩,h.dr.grown hg (fun k hk=>(h.own.lt k hk).1),h.rd.frm (Frm.ae hg) (fun k hk hS=>by have:=(h.own.lt k hS).1;omega)⟩
theorem Sld.push {e:Ent} {cap:Nat}(h:Sld w0 W R M v l)(he:e.ok W R)
  (zkb:W'.ownsRow w0.heap.size 38 3 (.slice (some g) (l.length+1) cap) (l.length+1) (zhc l++e.cs)) (hg:W.grownBy W' v.ownBlock) :
  Sld w0 W' R M (.slice (some g) (l.length+1) cap) (l++[e]):=by
 obtain⟨b,c,d⟩:=h.grown hg;refine⟨by rw [entC_snoc,eE,List.length_singleton];exact zkb,fun x a=>?_,d,c,h.hR⟩;rcases List.mem_append.1 a with a|a
 ·exact b x (h.ent x a)
 ·rw [fC] at a;subst a;exact b _ he
theorem Sld.sl (h:Sld w0 W R M (.slice A n c) l)(hn:n=l.length):zep W (R+1) W.heap.size A n (l.map Ent.s):=by
 have b:=h.own;rw [← hn] at b;have i:=eO b;refine⟨by simpa using hn,zhc l,i.more (oH h.hR) (dD _),fun k s hs=>?_⟩;rw [eF,gE] at hs;obtain⟨e,a,rfl⟩:=hs;obtain⟨d,f,g⟩:=zju a;exact⟨e.A,e.n,e.c,d,f,g,(h.ent e (dC a)).1.at_⟩
end
theorem Sld.nil (hr:Rd W R M)(hd:Dr R w0 W)(hR:R<w0.heap.size):Sld w0 (W.alloc (.cells #[] 38)) R M (.slice (some W.heap.size) 0 0) []:=
 ⟨zm (World.ownsRow_lit W #[] 0 (dD _) lM rfl) hd.size,fun _ h=>by simp at h,hr.ext ((dB _).alloc _),hd.alloc _,hR⟩
theorem Sld.three {a b c:Ent}(hr:Rd W R M)(hd:Dr R w0 W)(hR:R<w0.heap.size)(ha:a.ok W R)(hb:b.ok W R)(hc:c.ok W R) :
  Sld w0 (W.alloc (.cells #[a.s.al,a.s.st,.slice a.A a.n a.c,b.s.al,b.s.st,.slice b.A b.n b.c,c.s.al,c.s.st,.slice c.A c.n c.c] 38)) R M (.slice (some W.heap.size) 3 3) [a,b,c]:=by
 have d:=(dB W).alloc (.cells #[a.s.al,a.s.st,.slice a.A a.n a.c,b.s.al,b.s.st,.slice b.A b.n b.c,c.s.al,c.s.st,.slice c.A c.n c.c] 38);refine⟨zm (World.ownsRow_lit W _ 3 (dD _) lM rfl) hd.size,fun e he=>?_,hr.ext d,hd.alloc _,hR⟩;simp only [List.mem_cons,List.not_mem_nil,or_false] at he;rcases he with rfl|rfl|rfl
 ·exact ha.dr d.dr
 ·exact hb.dr d.dr
 ·exact hc.dr d.dr
theorem pickA {p:Nat}(h:1<=(p:Int)->(x:Int)<p)(h0:(p:Int)<1->x=0):x<p+1:=by
 rcases Nat.lt_or_ge 0 p with a|a
 ·have:=h oM;omega
 ·have:=h0 oM;omega
theorem e_filledA {M' E y p:Nat} {w4:World}(hb:Blk w4 E 152 #[(0:Int),(0:Int),(0:Int)])(hr:Rd w4 R M')(hd:Dr R w2 w4)(hE:w2.heap.size<=E)(hR:R<w2.heap.size)(hx:x<p+1)(hy:y<p+1)(hM:M'<=M) :
  ∃ E' x' y':Nat,Value.pointer (some E)=.pointer (some E')∧x'<p+1∧y'<p+1∧w2.heap.size<=E'∧Blk (((w4.setCell E x).setCell ⟨E,1,none⟩ (0:Int)).setCell ⟨E,2,none⟩ y) E' 152 #[x',(0:Int),y']∧Rd (((w4.setCell E x).setCell ⟨E,1,none⟩ (0:Int)).setCell ⟨E,2,none⟩ y) R M∧Dr R w2 (((w4.setCell E x).setCell ⟨E,1,none⟩ (0:Int)).setCell ⟨E,2,none⟩ y):=by
 have a:=zdy w4 E (.int .i64 x) (.int .i64 0) (.int .i64 y);refine⟨E,x,y,rfl,oM,oM,hE,by simpa using ((hb.ab 0 (.int .i64 x)).ab 1 (.int .i64 0)).ab 2 (.int .i64 y),(hr.frm a (fun k h1 h2=>oM)).more hM,?_⟩;exact ((hd.ag (p:=⟨E,0,none⟩) hE _).ag (p:=⟨E,1,none⟩) hE _).ag (p:=⟨E,2,none⟩) hE _
theorem ziy {p:Nat}  {es:List Edg} (h:Rd w R M)(hM:M<=900000000)(hs:zbK w R A n ⟨a,p,es⟩)(ha:a<64)(hp:p<=16)(hfew:Few (p+1) es)(hn:n<=L)(hL:L<=100000) :
  Calls Tryz.prog 193 #[.pointer (some R),.agg #[a,p,.slice A n c]] w (RetA R (M+10) (L+1) w):=by
 have hRl:=h.lt;have bb:=hs.at_.2;have b7:=za hs.1;have aV:=za hfew;have bF:Sm a:=tM;obtain⟨w1,U0⟩:∃ x,Hid (((w.alloc (.cells #[a,p,.slice A n c] 38)).alloc (.cells #[(0:Int),(0:Int),()] 38)).alloc (.cells #[a,p,()] 38)=x):=⟨_,za rfl⟩;have bg:Ext w w1:=((((dB _).alloc _).alloc _).alloc _).trans (Ext.eq_ U0.out);obtain⟨bS,bZ,bG⟩:=zL (Ext.eq_ U0.out);have aT:=za bS;have aU:=za bZ;have ap:=za bG;have aq:=za bg;clear bS bZ bG bg hs hfew
 go_enter Tryz.func193,Tryz.ntmps193
 go_wp2_with fail
 rw [U0.out] at *;refine (zB (h.ext aq.out) oM).mono ?_;rintro e V ⟨Y,rfl,-,-,U,ai⟩;have cd:=ap.out.lt;have az:=aT.out.dr ai oM;have a1:=aU.out.dr ai oM;have aw:=ap.out.dr ai oM;have be:=aq.out.dr.trans ai;have cS:∀ W,Dr R V W->∀ q,W.cell? ⟨w.heap.size,q,none⟩=#[Value.int .i64 a,.int .i64 p,.slice A n c][q]?:=fun W hW=>(az.dr hW oM).cell;go_upto_region 3 with fail
 go_cut [7] (fun s7 wx=>∃ E x y:Nat,s7=.pointer (some E)∧x<p+1∧y<p+1∧V.heap.size<=E∧Blk wx E 152 #[x,(0:Int),y]∧Rd wx R (M+3)∧Dr R V wx)
 case first =>
  refine tR (fun X=>Dr R V X) [10] (Ord.app [0,1,2,4,5,6] (Ord.two 3 (Ord.two 7 (Ord.of [8,9,10]) 9 (Ord.of [7,8,10])) 9 (Ord.of [3,7,8,10]))) ?_;refine tQ ?_;refine zgu (fun K hK=>?_) (fun K hK=>?_)
  ·go_simp;refine (zB (n:=p) (U.ext ((dB _).drew)) oM).mono ?_;rintro e w3 ⟨x,rfl,hx,aP,O,D⟩;have r:Dr R V w3:=((Dr.refl R V).drew).trans D;refine hK.out _ _ r ?_;refine pT ?_;refine zgu (fun K hK=>?_) (fun K hK=>?_)
   ·go_simp;refine (zB (n:=p) O oM).mono ?_;rintro e w4 ⟨y,rfl,hy,aj,G,T⟩;have j:=r.trans T;refine hK.out _ _ j ?_;refine pT ?_;refine tQ ?_;refine zD fun K hK=>?_;go_simp;refine hK.out _ _ (j.alloc _) ?_;refine pT ?_;refine tQ ?_;refine zP fun K hK=>?_;go_simp;refine hK.out _ _ ?_;refine zag ?_;go_wp2_with fail
    go_meet;exact⟨w4.heap.size,x,y,rfl,oM,oM,j.size,eK _ _ _,G.ext ((dB _).alloc _),j.alloc _⟩
   ·go_simp;have bi:=(dB w3).alloc (.cells #[(0:Int),(0:Int),(0:Int)] 152);have aa:=r.ext bi;have bd:=O.ext bi;have a6:=O.lt;refine hK.out _ _ aa ?_;generalize U0:w3.alloc _=cj at *;have aI:=eJ U0;clear U0;refine pT ?_;refine zD fun K hK=>?_;go_simp;refine (zB (n:=p) bd oM).mono ?_;rintro e w4 ⟨y,rfl,hy,aj,G,T⟩;have j:=aa.trans T;have S:=aI.dr T oM;refine hK.out _ _ j ?_;refine pT ?_;refine tQ ?_;have cE:=S.cell;have fE:=S.frozen;refine zP fun K hK=>?_;go_simp;refine hK.out _ _ ?_;refine zag ?_;go_wp2_with fail
    go_meet;exact e_filledA S G j r.size U.lt (pickA hx aP) (pickA hy aj) oM
  ·go_simp;have bh:=((dB V).alloc (.cells #[(0:Int),(0:Int),(0:Int)] 152)).drew;have bx:Blk (V.alloc (.cells #[(0:Int),(0:Int),(0:Int)] 152)).drew V.heap.size 152 #[.int .i64 0,.int .i64 0,.int .i64 0]:=eK V _ _;have bc:=U.ext bh;have a6:=U.lt;have al:Dr R V (V.alloc (.cells #[(0:Int),(0:Int),(0:Int)] 152)).drew:=bh.dr;refine hK.out _ _ al ?_;generalize (V.alloc (.cells #[(0:Int),(0:Int),(0:Int)] 152)).drew=ci at *;refine pT ?_;refine zD fun K hK=>?_;go_simp;refine (zB (n:=p) bc oM).mono ?_;rintro e w3 ⟨x,rfl,hx,aP,O,D⟩;have r:=al.trans D;have aI:=bx.dr D oM;refine hK.out _ _ r ?_;refine pT ?_;refine zD fun K hK=>?_;go_simp;refine (zB (n:=p) O oM).mono ?_;rintro e w4 ⟨y,rfl,hy,aj,G,T⟩;have j:=r.trans T;have S:=aI.dr T oM;refine hK.out _ _ j ?_;refine pT ?_;refine tQ ?_;have cE:=S.cell;have fE:=S.frozen;refine zP fun K hK=>?_;go_simp;refine hK.out _ _ ?_;refine zag ?_;go_wp2_with fail
   go_meet;exact e_filledA S G j (dD _) a6 (pickA hx aP) (pickA hy aj) oM
 case rest =>
  obtain⟨E,x,y,rfl,hx,hy,hE,aJ,O,D⟩:=hcut;have bf:=be.trans D;have aA:=az.dr D oM;have a2:=a1.dr D oM;have aY:=aw.dr D oM;have ce:=aw.lt;clear cS;have cS:=aA.cell;go_wp2_with fail
  refine (zaj a bF _).mono ?_;rintro e w4 ⟨B,d,rfl,ab,Q⟩;have aL:=bf.ext Q;have aB:=aA.ext Q;have aD:=a2.ext Q;have ax:=aY.ext Q;have ar:=aJ.ext Q;have G:=O.ext Q;have b2:=aJ.lt;have bA:=zF a 6;have ba:=za (fun k (hk:k∈letters a 6)=>(zeu.1 hk).1);have am:=(eO ab);have bV:=D.size;have bW:=Q.size;have b4:=U.lt;clear cS ab Q aA a2 aY aJ O bf aT aU ap aq az a1 aw be U;generalize letters a 6=ls at *;go_upto_region 5 with fail
  go_cut [9] (fun s9 wx=>∃ b:Bool,s9=.bool b∧(b=true->0<ls.length)∧Rd wx R (M+4)∧Dr R w4 wx)
  case first =>
   by_cases hl:0<ls.length
   ·go_wp2_with fail
    refine (zB G oM).mono ?_;rintro e w5 ⟨z,rfl,-,-,ae,J⟩;go_wp2_with fail
    go_meet;exact⟨_,rfl,fun _=>hl,ae,J⟩
   ·go_wp2_with fail
    go_meet;exact⟨false,rfl,fun h=>by (first|cases h|omega),G.more oM,Dr.refl _ _⟩
  case rest =>
   obtain⟨b,rfl,aK,ae,J⟩:=hcut;go_upto_if 42 with fail
   go_cut [] (fun wx=>∃ l:Nat,l<6∧Blk wx E 152 #[x,l,y]∧Blk wx w.heap.size 38 #[a,p,.slice A n c]∧Blk wx (w.heap.size+1) 38 #[(0:Int),(0:Int),()]∧Blk wx (w.heap.size+1+1) 38 #[a,p,()]∧Rd wx R (M+5)∧Dr R w wx)
   case first =>
    have aC:=aB.dr J oM;have aE:=aD.dr J oM;have ay:=ax.dr J oM;have au:=ar.dr J oM;have aN:=aL.trans J;clear aB aD ax ar aL G;cases b
    ·go_wp2_with fail
     go_meet;exact⟨0,oM,au,aC,aE,ay,ae.more oM,aN⟩
    ·have b9:=aK rfl;have bz:(1:Int)<=(ls.length:Int):=oM;clear aK;go_wp2_with fail
     refine (zB ae oM).mono ?_;rintro e w6 ⟨z,rfl,hz,-,hr6,hd6⟩;have cf:=hz bz;have bk:z<ls.length:=oM;obtain⟨ad,l,rfl,_,_,hl,ca⟩:=((am.dr J oM).dr hd6 oM).nat bk;have a9:=ba.out l (dC hl.out);have bs:=aC.dr hd6 oM;have bt:=aE.dr hd6 oM;have br:=ay.dr hd6 oM;have av:=au.dr hd6 oM;have bH:=aN.trans hd6;have cE:=av.cell;have fE:=av.frozen;have hf:=dF w6 E 1 (.int .i64 (l:Nat));clear hz aC aE ay au aN;go_wp2_with fail
     go_meet;exact⟨l,a9,by simpa using av.ab 1 (.int .i64 (l:Nat)),bs.frm hf oM,bt.frm hf oM,br.frm hf oM,(hr6.frm hf (fun k h1 h2=>oM)),bH.ag (by dsimp only;omega) _⟩
   case rest =>
    obtain⟨l,hl,bE,bS,bZ,bG,bD,a7⟩:=hcut;clear aB aD ax ar aL G J ae ba am bA aK;obtain⟨wB,bI⟩:∃ wB,wB=wc:=⟨_,rfl⟩;subst bI;have f:Acc w wB wB R (w.heap.size+1+1) (M+5) a p (.slice none 0 0) []:=⟨bG,World.ownsRow_nil _ _ _ _,bD,a7,Frm.refl _ _,hRl,a7.size,oM⟩;have b3:=bE.lt;have b5:=bG.lt;clear bG;go_wp2_with fail
    go_loopw [9,10] (fun v i wr=>∃ (b:Bool) (k:Nat),k<=n∧i=.int .i64 k∧v=.bool b∧∃ (u:Value) (m:List Edg),Acc w wB wr R (w.heap.size+1+1) (M+5) a p u m∧m.length+b.toNat<=k+1∧Hid (Few (p+1) m)) (fun _ i _=>n - (intOf i).toNat)
    case atStart=>exact⟨b,0,dG _,rfl,rfl,_,[],f,by cases b<;>decide,few_nil (p+1)⟩
    case round =>
     clear f;obtain⟨b,k,hk,rfl,rfl,u,m,f,o,F⟩:=hrel;have I:=bS.frm f.fr oM;have t:=bE.frm f.fr oM;have cS:=I.cell;have an:(0<=(x:Int)∧(x:Int)<((p+1:Nat):Int))∧(0<=(l:Int)∧(l:Int)<6)∧(0<=(y:Int)∧(y:Int)<((p+1:Nat):Int)):=oM
     by_cases hlt:k<n
     ·obtain⟨b0,o0,C,rfl,cb,b8,he,c0,c1,c2⟩:=(bb.dr f.dr oM).edge hlt;have a8:=za (aV.out C (dC he.out));go_upto_region 11 with fail
      clear cS
      go_cut [67] (fun s wx=>∃ q:Bool,s=.bool q∧(q=true->b=true)∧Ext wr wx)
      case first =>
       have cS:=I.cells;have cE:=t.cells;have C0:∀ W,Ext wr W->W.cell? ⟨b0,o0+k*3,none⟩=some (.int .i64 C.fr):=fun W hW=>hW.aa c0;have C1:∀ W,Ext wr W->W.cell? ⟨b0,o0+k*3+1,none⟩=some (.int .i64 C.le):=fun W hW=>hW.aa c1;have C2:∀ W,Ext wr W->W.cell? ⟨b0,o0+k*3+2,none⟩=some (.int .i64 C.ta):=fun W hW=>hW.aa c2;have bK:=dB wr;cases b
       ·go_wp2_with fail
        go_quiet (fail)
        go_wp2_with fail
        go_meet;exact⟨false,rfl,fun h=>h,(dB _).drewN _⟩
       ·go_wp2_with fail
        go_region_held3 (fun W=>Ext wr W) (first|assumption|(refine Ext.drew ?_;assumption)|(refine Ext.trans ?_ aM;assumption)|(refine Ext.trans ?_ aM;refine Ext.drew ?_;assumption)) ((go_at_call 257;refine (zeC (a:=⟨x,l,y⟩) (b:=C)).mono (mQ fun w5 cc=>?_)))
        go_wp2_with fail
        go_meet;exact⟨_,rfl,fun _=>by trivial,aM⟩
      case rest =>
       obtain⟨q,rfl,hq,H⟩:=hcut;replace f:=f.ext H;replace t:=t.ext H;go_upto_if 67 with fail
       go_cut [9] (fun s9 wx=>∃ (b:Bool) (u:Value) (m:List Edg),s9=.bool b∧Acc w wB wx R (w.heap.size+1+1) (M+5) a p u m∧m.length+b.toNat<=k+1∧Hid (Few (p+1) m))
       case first =>
        cases q
        ·go_wp2_with fail
         go_meet;exact⟨b,u,m,rfl,f,o,F⟩
        ·obtain rfl:=hq rfl;have cG:=f.blk.cell;have cE:=t.cell;simp only [Bool.toNat_true] at o;clear hq;go_wp2_with (at_builtin;refine zad wB _ rfl _ _ _ rfl 152 _ 3 24 Tryz.underlying36 zbr rfl dM u m.length (zw m) _ _ rfl rfl f.fr.size f.own rfl (by simp [Value.oneCell']) lM oM ?_;intro g cap w3 zkm hg3 hat3 hlt3;obtain⟨h1,h2,h3⟩:=f.push (e:=⟨x,l,y⟩) zkm hg3 hat3;have a4:=h1.out)
         go_meet;exact⟨false,_,_,rfl,h3,by simp;omega,zhn F.out an⟩
       case rest =>
        clear f o F I t c0 c1 c2 H hq;obtain⟨b,u,m,rfl,f,o,F⟩:=hcut;obtain⟨wr,aO⟩:∃ wr,wr=wc:=⟨_,rfl⟩;subst aO;have I:=bS.frm f.fr oM;have t:=bE.frm f.fr oM;obtain⟨c0,c1,c2⟩:=(bb.dr f.dr oM).edge2 he.out;go_upto_region 14 with fail
        go_cut [83] (fun s wx=>∃ q:Bool,s=.bool q∧Ext wr wx)
        case first =>
         have cS:=I.cells;have cE:=t.cells;have C0:∀ W,Ext wr W->W.cell? ⟨b0,o0+k*3,none⟩=some (.int .i64 C.fr):=fun W hW=>hW.aa c0;have C1:∀ W,Ext wr W->W.cell? ⟨b0,o0+k*3+1,none⟩=some (.int .i64 C.le):=fun W hW=>hW.aa c1;have C2:∀ W,Ext wr W->W.cell? ⟨b0,o0+k*3+2,none⟩=some (.int .i64 C.ta):=fun W hW=>hW.aa c2;have bK:=dB wr;cases b
         ·go_wp2_with fail
          go_quiet (fail)
          go_wp2_with fail
          go_meet;exact⟨false,rfl,(dB _).drewN _⟩
         ·go_wp2_with fail
          refine sR (fun X=>Ext wr X) [0,1,2,3,4,5,6,7,8,9] (fun hS=>?_);refine sQ ?_;have HE:=eq_edge (x:Int) (l:Int) (y:Int) C.fr C.le C.ta;refine seq_read (v:=.bool (((x:Int)==C.fr)&&(((l:Int)==C.le)&&((y:Int)==C.ta)))) rfl rfl rfl (fun X hX=>?_) aM ?_
          ·go_simp
          ·clear HE;refine pT ?_;generalize (((x:Int)==C.fr)&&(((l:Int)==C.le)&&((y:Int)==C.ta)))=q;refine sQ ?_;refine zcX ?_;go_wp2_with fail
           go_meet;exact⟨_,rfl,(dB _).drew⟩
        case rest =>
         obtain⟨q,rfl,H⟩:=hcut;replace f:=f.ext H;replace I:=I.ext H;replace c0:=H.aa c0;replace c1:=H.aa c1;replace c2:=H.aa c2;clear t H;go_upto_if 83 with fail
         go_cut [9] (fun s9 wx=>∃ b':Bool,s9=.bool b'∧b'.toNat<=b.toNat∧wc=wx)
         case first =>
          cases q
          ·go_wp2_with fail
           go_meet;exact⟨b,rfl,dD _,rfl⟩
          ·go_wp2_with fail
           go_meet;exact⟨false,rfl,dG _,rfl⟩
         case rest =>
          obtain⟨b',rfl,b6,bJ⟩:=hcut;subst bJ
          by_cases hgo:k=Y
          ·have bB:((k:Int) != (Y:Int))=false:=by simp [hgo]
           have bY:=za hgo;clear hgo;go_wp2_with fail
           go_roundw
           case rel=>exact⟨b',k+1,oM,gM,rfl,u,m,f,oM,F⟩
           case measure=>simp [intOf];omega
          ·have bB:((k:Int) != (Y:Int))=true:=by simp;omega
           clear hgo;obtain⟨wr,aO⟩:∃ wr,wr=wc:=⟨_,rfl⟩;subst aO;have cS:=I.cells;have cG:=fun W (hW:Ext wr W)=>(f.blk.ext hW).cell;have C0:∀ W,Ext wr W->W.cell? ⟨b0,o0+k*3,none⟩=some (.int .i64 C.fr):=fun W hW=>hW.aa c0;have C1:∀ W,Ext wr W->W.cell? ⟨b0,o0+k*3+1,none⟩=some (.int .i64 C.le):=fun W hW=>hW.aa c1;have C2:∀ W,Ext wr W->W.cell? ⟨b0,o0+k*3+2,none⟩=some (.int .i64 C.ta):=fun W hW=>hW.aa c2;go_wp2_with fail
           refine tR (fun X=>Ext wr X) [8,10] (Ord.of [0,1,2,3,4,5,6,7,8,9,10]) ?_;refine tQ ?_;refine zD fun K hK=>?_;go_simp;refine hK.out _ _ ((dB _).drew.alloc _) ?_;refine pT ?_;refine zP fun K hK=>?_;refine zaH wB wr.drew _ _ _ rfl 152 _ 3 24 Tryz.underlying36 zbr rfl dM u m.length (zw m) _ _ rfl rfl f.fr.size f.own rfl (by simp [Value.oneCell']) lM oM ?_;intro g cap w3 zkm hg3 hat3 hlt3;refine hK.out _ _ ?_;refine pT ?_;refine tQ ?_;obtain⟨h1,h2,h3⟩:=(f.ext ((dB _).drew)).push (e:=C) (W':=w3) zkm hg3 hat3;have a4:=h1.out;refine zP fun K hK=>?_;go_simp;refine hK.out _ _ ?_;refine zag ?_;go_wp2_with fail
           go_roundw
           case rel=>exact⟨b',k+1,oM,gM,rfl,_,_,h3,by simp;omega,zhn F.out a8.out⟩
           case measure=>simp [intOf];omega
     ·obtain rfl:k=n:=oM;go_upto_if 97 with fail
      go_cut [] (fun wx=>∃ (u:Value) (m:List Edg),Acc w wB wx R (w.heap.size+1+1) (M+5) a p u m∧m.length<=k+1∧Hid (Few (p+1) m))
      case first =>
       cases b
       ·go_wp2_with fail
        go_meet;exact⟨u,m,f,by simpa using o,F⟩
       ·have cG:=f.blk.cell;have cE:=t.cell;simp only [Bool.toNat_true] at o;go_wp2_with (at_builtin;refine zad wB _ rfl _ _ _ rfl 152 _ 3 24 Tryz.underlying36 zbr rfl dM u m.length (zw m) _ _ rfl rfl f.fr.size f.own rfl (by simp [Value.oneCell']) lM oM ?_;intro g cap w3 zkm hg3 hat3 hlt3;obtain⟨h1,h2,h3⟩:=f.push (e:=⟨x,l,y⟩) zkm hg3 hat3;have a4:=h1.out)
        go_meet;exact⟨_,_,h3,by simp;omega,zhn F.out an⟩
      case rest =>
       clear f o F cS I t;obtain⟨u,m,f,o,F⟩:=hcut;obtain⟨A',n',c',rfl⟩:=f.form;obtain⟨rfl,_⟩:=f.reads;have bQ:=zjE f.own;have cG:=f.blk.cell;have a3:=bZ.frm f.fr oM;have cz:=a3.cell;have cg:=bZ.lt;have fz:=a3.frozen;obtain⟨f1,f2,f3⟩:=f.fin (Z:=w.heap.size+1) oM oM (.int .i64 a) (.int .i64 p) (.slice A' m.length c');have aW:=za (show RetA R (M+10) (L+1) w (.returned (.agg #[a,p,.slice A' m.length c'])) _ from ⟨⟨a,p,m⟩,A',m.length,c',rfl,f1,oM,f2.more oM,f3⟩);clear f1 f2 f3;go_wp2_with fail
       exact bodyPost_ret (v:=.agg #[a,p,.slice A' m.length c']) (by simp [results,Tryz.results193,go_sem,cz]) rfl aW.out
theorem zdS (h:Rd w R M)(hM:M<=900000000)(hs:zbK w R A n s)(hf:Fair s)(hn:n<=L)(hL:L<=100000) :
  Calls Tryz.prog 193 #[.pointer (some R),.agg #[s.al,s.st,.slice A n c]] w (RetA R (M+10) (L+1) w):=by
 obtain⟨al,st,j⟩:=s;obtain⟨a,p,b,g,d,i,f⟩:=hf;simp only at b d f;subst b;subst d;exact ziy h hM hs g i f hn hL
def TextsAt (W:World) (base g n:Nat):Prop:=
 ∀ k<n,∃ (b:Nat) (l:List ByteArray),W.cell? ⟨g,k,none⟩=some (.slice (some b) 4 4)∧l.length=4∧(∀ x∈l,x.size<=40)∧W.ownsRow base 9 1 (.slice (some b) 4 4) 4 (zM l)
def RetTLL (w:World) (e:Ending) (w':World):Prop:=∃ g,e=.returned (.slice (some ⟨g,0,none⟩) 5 5)∧w.heap.size<=g∧TextsAt w' w.heap.size g 5∧Ext w w'
theorem lit5 (w:World) 
  (h1:zM (u1.toList.map zeQ)=u1.toList) (h2:zM (u2.toList.map zeQ)=u2.toList) (h3:zM (u3.toList.map zeQ)=u3.toList) (h4:zM (u4.toList.map zeQ)=u4.toList) (h5:zM (u5.toList.map zeQ)=u5.toList)
  (k1:u1.size=4) (k2:u2.size=4) (k3:u3.size=4) (k4:u4.size=4) (k5:u5.size=4)
  (b1:∀ x∈u1.toList.map zeQ,x.size<=40) (b2:∀ x∈u2.toList.map zeQ,x.size<=40) (b3:∀ x∈u3.toList.map zeQ,x.size<=40) (b4:∀ x∈u4.toList.map zeQ,x.size<=40) (b5:∀ x∈u5.toList.map zeQ,x.size<=40) :
  RetTLL w (.returned (.slice (some ⟨w.heap.size+5,0,none⟩) 5 5)) ((((((w.alloc (.cells u1 9)).alloc (.cells u2 9)).alloc (.cells u3 9)).alloc (.cells u4 9)).alloc (.cells u5 9)).alloc (.cells #[.slice (some w.heap.size) 4 4,.slice (some ⟨w.heap.size+1,0,none⟩) 4 4,.slice (some ⟨w.heap.size+2,0,none⟩) 4 4,.slice (some ⟨w.heap.size+3,0,none⟩) 4 4,.slice (some ⟨w.heap.size+4,0,none⟩) 4 4] 99)):=by
 have y:=zaM w h1 k1 oM;have B:=(dB w).alloc (.cells u1 9);have r:(w.alloc (.cells u1 9)).heap.size=w.heap.size+1:=sM;generalize w.alloc (.cells u1 9)=d at *;have n:=zaM d h2 k2 oM;have v:=(dB d).alloc (.cells u2 9);have s:(d.alloc (.cells u2 9)).heap.size=w.heap.size+2:=by simp [r]
 rw [r] at n;generalize d.alloc (.cells u2 9)=f at *;have o:=zaM f h3 k3 oM;have m:=(dB f).alloc (.cells u3 9);have t:(f.alloc (.cells u3 9)).heap.size=w.heap.size+3:=by simp [s]
 rw [s] at o;generalize f.alloc (.cells u3 9)=g at *;have p:=zaM g h4 k4 oM;have i:=(dB g).alloc (.cells u4 9);have u:(g.alloc (.cells u4 9)).heap.size=w.heap.size+4:=by simp [t]
 rw [t] at p;generalize g.alloc (.cells u4 9)=h at *;have q:=zaM h h5 k5 oM;have c:=(dB h).alloc (.cells u5 9);have z:(h.alloc (.cells u5 9)).heap.size=w.heap.size+5:=by simp [u]
 rw [u] at q;generalize h.alloc (.cells u5 9)=l at *;have a:=eK l 99 #[.slice (some w.heap.size) 4 4,.slice (some ⟨w.heap.size+1,0,none⟩) 4 4,.slice (some ⟨w.heap.size+2,0,none⟩) 4 4,.slice (some ⟨w.heap.size+3,0,none⟩) 4 4,.slice (some ⟨w.heap.size+4,0,none⟩) 4 4];have b:=(dB l).alloc (.cells #[.slice (some w.heap.size) 4 4,.slice (some ⟨w.heap.size+1,0,none⟩) 4 4,.slice (some ⟨w.heap.size+2,0,none⟩) 4 4,.slice (some ⟨w.heap.size+3,0,none⟩) 4 4,.slice (some ⟨w.heap.size+4,0,none⟩) 4 4] 99);rw [z] at a;generalize l.alloc _=C at *;refine⟨_,rfl,oM,fun k hk=>?_,((((B.trans v).trans m).trans i).trans c).trans b⟩;have j:k=0∨k=1∨k=2∨k=3∨k=4:=oM;rcases j with rfl|rfl|rfl|rfl|rfl
 ·exact⟨_,_,a.cell 0,by simp [k1],b1,zh y ((((v.trans m).trans i).trans c).trans b)⟩
 ·exact⟨_,_,a.cell 1,by simp [k2],b2,zm (zh n (((m.trans i).trans c).trans b)) oM⟩
 ·exact⟨_,_,a.cell 2,by simp [k3],b3,zm (zh o ((i.trans c).trans b)) oM⟩
 ·exact⟨_,_,a.cell 3,by simp [k4],b4,zm (zh p (c.trans b)) oM⟩
 ·exact⟨_,_,a.cell 4,by simp [k5],b5,zm (zh q b) oM⟩
theorem zjO :Calls Tryz.prog 234 #[] w (RetTLL w):=by
 go_enter Tryz.func234,Tryz.ntmps234
 go_wp2_with fail
 go_ret;exact lit5 w rfl rfl rfl rfl rfl rfl rfl rfl rfl rfl (by decide +kernel) (by decide +kernel) (by decide +kernel) (by decide +kernel) (by decide +kernel)
def RetL14 (R M:Nat) (w:World) (e:Ending) (w':World):Prop:=
 ∃ (l:List Ent) (g c:Nat) (b:Aut) (A:Option Addr) (n c1:Nat) (A':Option Addr) (n' c2:Nat),l.length=3∧e=.returned (.tuple #[.slice (some g) 3 c,.agg #[b.al,.slice A n c1,.slice A' n' c2]])∧Sld w w' R M (.slice (some g) 3 c) l∧zN w' (R+1) A n c1 A' n' c2 b∧Hid (BdA 50 b)∧Hid (∀ e∈l,e.n<=40000)
theorem union_le14 (h:zA ss=true):zC ss<=63:=by
 have c:∀ s∈ss,zk s=true:=by
  unfold zA at h;simp only [Bool.and_eq_true,List.all_eq_true] at h;exact h.2.2
 have:∀ n,zC (ss.take n)<=63:=by
  intro n
  induction n with
  |zero=>simp [zC]
  |succ n ih =>
   rcases Nat.lt_or_ge n ss.length with a|a
   ·rw [zcK (dE a)];have:=zJ (c _ (List.getElem_mem a));have:=eT (n:=6) (x:=zC (ss.take n)) (y:=ss[n].al.toNat) oM oM;omega
   ·rw [dU oM];rw [dU a] at ih;exact ih
 have b:=this ss.length;rwa [List.take_length] at b
theorem partsA_cases (ss:List Sys):(∃ a:Nat,zbk ss=(a:Int)∧a<64)∨zbk ss = -1:=by
 unfold zbk;cases h:zA ss
 ·exact .inr rfl
 ·exact .inl ⟨zC ss,rfl,by have:=union_le14 h;omega⟩
theorem Sld.box {gb:Nat}  {l:List Ent} {cs:Array Value}(h:Sld w0 W R M v l)(hB:Blk W gb 38 cs)(hv:∀ b,v.ownBlock=some b->b≠gb)(hg:w0.heap.size<=gb) (u0 u1 u2:Value) :
  Sld w0 (((W.setCell gb u0).setCell ⟨gb,1,none⟩ u1).setCell ⟨gb,2,none⟩ u2) R M v l:=by
 have a:=h.hR;have c:=zdy W gb u0 u1 u2;exact⟨zf h.own c (fun b hb e=>hv b hb e),fun e he=>⟨(h.ent e he).1.far hB dM c,(h.ent e he).2⟩,h.rd.frm c (fun k hk e=>oM),((h.dr.ag (p:=⟨gb,0,none⟩) hg _).ag (p:=⟨gb,1,none⟩) hg _).ag (p:=⟨gb,2,none⟩) hg _,a⟩
theorem fin14 {N:Nat} {l:List Ent}    {cs:Array Value}(hl:l.length=3)(hs:Sld w W R M (.slice (some g) 3 c) l)(ho:zN W K A n c1 A' n' c2 b)(hK:R+1<=K)(hZK:Z<K)(hb:BdA 50 b)(hle:∀ e∈l,e.n<=40000) (bz:Blk W Z 31 cs)(hc:cs.size=3)(hZ:w.heap.size<=Z)(hM:M<=N) :
  Hid (RetL14 R N w (.returned (.tuple #[.slice (some g) 3 c,.agg #[b.al,.slice A n c1,.slice A' n' c2]])) (((W.setCell Z b.al).setCell ⟨Z,1,none⟩ (.slice A n c1)).setCell ⟨Z,2,none⟩ (.slice A' n' c2))) ∧
  Blk (((W.setCell Z b.al).setCell ⟨Z,1,none⟩ (.slice A n c1)).setCell ⟨Z,2,none⟩ (.slice A' n' c2)) Z 31 #[.int .i64 b.al,.slice A n c1,.slice A' n' c2]:=by
 have d:=hs.hR;have a:=zac W Z (.int .i64 b.al) (.slice A n c1) (.slice A' n' c2);refine⟨za ⟨l,g,c,b,A,n,c1,A',n',c2,hl,rfl,⟨zf hs.own a (fun k hv e=>zq hs.own bz dM hv e),fun e he=>⟨(hs.ent e he).1.far bz dM a,(hs.ent e he).2⟩,(hs.rd.more hM).frm a (fun k hk e=>oM),?_,d⟩,(ho.keep a (fun k h1 e=>oM)).less hK,za hb,za hle⟩,zai bz hc _ _ _⟩;exact ((hs.dr.ag (p:=⟨Z,0,none⟩) hZ _).ag (p:=⟨Z,1,none⟩) hZ _).ag (p:=⟨Z,2,none⟩) hZ _
theorem spec_l14Draw (h:Rd w R M)(hM:M<=600000000) :
  Calls Tryz.prog 164 #[.pointer (some R)] w (RetL14 R (M+100000) w):=by
 have hRl:=h.lt
 go_enter Tryz.func164,Tryz.ntmps164
 go_wp2_with fail
 generalize U0:w.alloc _=w1 at *;have hxz:=Ext.al_ U0;have bz:=eJ U0;have cl:w1.heap.size=w.heap.size+1:=by rw [← U0];simp
 clear U0;refine (zB (h.ext hxz) oM).mono ?_;rintro e w2 ⟨z,rfl,-,-,aP,aE⟩;have ar:=hxz.dr.trans aE;have ag:=bz.dr aE oM
 by_cases hz:z=0
 ·subst hz;have bC:=ar.size;go_wp2_with fail
  refine (zjO).mono ?_;rintro e w3 ⟨g,rfl,hg,hT,V⟩;have bu:=ar.ext V;have a1:=ag.ext V;have b9:=V.size;have cq:=ag.lt;go_wp2_with fail
  refine (zB (aP.ext V) oM).mono ?_;rintro e w4 ⟨j,rfl,hj,-,ap,y⟩;have bd:j<5:=by have:=hj oM;omega
  have bw:=bu.trans y;have a2:=a1.dr y oM;obtain⟨bt,lt,aD,cb,U,aK⟩:=hT j bd;have a6:=y.aa aD (by dsimp only;omega);have aL:=zaJ aK y (fun b I e=>oM);have bP:(j:Int)<5:=oM;have ab:=Sld.nil (w0:=w) ap bw hRl;have au:=(dB w4).alloc (.cells #[] 38);have Y:=zh aL au;have bz5:=a2.ext au;clear hj hT aD aK;go_upto_region 5 with fail
  generalize hg4:w4.heap.size=g4 at *;generalize w4.alloc _=w5 at *;go_wp2_with fail
  go_loopw [6,7] (fun v i wr=>∃ (k:Nat) (vl:Value) (l:List Ent),k<=3∧vl=v∧i=.int .i64 k∧Hid (l.length=k)∧Hid (∀ e∈l,e.n<=40000)∧Sld w wr R (M+2+20*k) vl l∧Blk wr w.heap.size 31 #[(0:Int),(),()]∧wr.ownsRow w2.heap.size 9 1 (.slice (some bt) 4 4) 4 (zM lt)) (fun _ i _=>3 - (intOf i).toNat)
  case atStart=>exact⟨0,_,[],dG _,rfl,rfl,rfl,za (fun _ h=>by simp at h),ab.more oM,bz5,Y⟩
  case round =>
   clear ab bz5 Y au a6;obtain⟨k,vl,l,hk,rfl,rfl,T,ao,f,m,d⟩:=hrel
   by_cases hlt:k<3
   ·obtain⟨ad,x,e1,_,_,hx,cx⟩:=(eO d).str (show k<4 by omega);obtain rfl:=Option.some.inj e1;have bB:=U x (dC hx.out);rw [zS,eI] at cx;have bD:=m.lt;go_wp2_with fail
    refine (zbS f.rd oM).mono ?_;rintro e J ⟨s,A1,n1,c1,ok,rfl,bn,⟨-,ba⟩,bf,aO,E⟩;have p:=(dB J).alloc (.cells #[s.al,s.st,.slice A1 n1 c1] 38);have bs:=eK J 38 #[s.al,s.st,.slice A1 n1 c1];have o:=(f.drawn E aO).ext p;have r:=(m.dr E oM).ext p;have Z:=zh (zaJ d E (fun b I e=>oM)) p;have aQ:=bn.ext p;have cp:=r.lt;have br:∀ b,vl.ownBlock=some b->b≠J.heap.size:=fun b hb=>by have:=(f.own.lt b hb).2;have:=E.size;omega
    have ca:=(f.drawn E aO).dr.size;have bN:=E.size;go_upto_region 9 with fail
    generalize hgb:J.heap.size=gb at *;generalize J.alloc _=wb at *;go_wp2_with fail
    refine (zB o.rd oM).mono ?_;rintro e wc ⟨q,rfl,-,-,bl,F⟩;have C:=o.drawn F bl;have L:=bs.dr F oM;have ai:=r.dr F oM;have G:=zaJ Z F (fun b I e=>oM);have aq:=aQ.dr F;clear bs r Z aQ o d m cx p;go_upto_if 39 with fail
    go_cut [] (fun wx=>∃ O:Ent,Blk wx gb 38 #[O.s.al,O.s.st,.slice O.A O.n O.c]∧O.ok wx R∧O.n<=40000∧Sld w wx R (M+2+20*k+15) vl l∧Blk wx w.heap.size 31 #[(0:Int),(),()]∧wx.ownsRow w2.heap.size 9 1 (.slice (some bt) 4 4) 4 (zM lt))
    case first =>
     by_cases hq:q=0
     ·subst hq;have cs:=L.cell;go_wp2_with fail
      refine (zdS C.rd oM aq ba bf.1 oM).mono ?_;rintro e wd ⟨s2,A2,n2,c2,rfl,bo,cc,bm,S⟩;have D:=L.dr S oM;have bZ:=D.cell;have b5:=D.frozen;have aT:=(C.drawn S bm).box D br oM (.int .i64 s2.al) (.int .i64 s2.st) (.slice A2 n2 c2);have an:=zdy wd gb (.int .i64 s2.al) (.int .i64 s2.st) (.slice A2 n2 c2);have aa:=zaJ G S (fun b I e=>oM);go_wp2_with fail
      go_meet;exact⟨⟨s2,A2,n2,c2⟩,blk_fill D rfl _ _ _,⟨bo.far D dM an,by dsimp only;omega,by dsimp only;omega⟩,by dsimp only;omega,aT.more oM,(ai.dr S oM).frm an oM,zf aa an (fun b hb e=>zq aa D dM hb e)⟩
     ·have ci:((q:Int)==0)=false:=by simp;omega
      go_wp2_with fail
      go_meet;exact⟨⟨s,A1,n1,c1⟩,L,⟨aq,by dsimp only;omega,by dsimp only;omega⟩,by dsimp only;omega,C.more oM,ai,G⟩
    case rest =>
     clear C L ai G aq;obtain⟨O,a0,a9,aI,B,m,d⟩:=hcut;have b0:=a0.cell;have aJ:=T.out;go_wp2_with (at_builtin;refine zfh w _ rfl _ _ _ rfl 38 _ 3 40 Tryz.underlying55 info_sys rfl dM vl l.length (zhc l) _ _ rfl rfl B.dr.size B.own rfl (by simp [Value.oneCell']) lM oM ?_;intro g5 cap5 w5' zkn hg5 hat5 hlt5)
     have aN:=B.push a9 zkn hg5;rw [aJ] at aN;go_roundw
     case rel=>exact⟨k+1,_,l++[O],oM,rfl,gM,by unfold Hid;rw [eE,aJ];rfl,za (fun e he=>by rcases List.mem_append.1 he with I|I;exact ao.out e I;rw [fC] at I;subst I;exact aI),aN.more (show M+2+20*k+15<=M+2+20*(k+1) by omega),(hg5.block _ m.lt (fun e=>zq B.own m dM e.symm rfl)).trans m,zf d (Frm.ae hg5) (fun b hb hS=>zaz d B.own dM hb hS)⟩
     case measure=>simp [intOf];omega
   ·have be:k=3:=oM;subst be;obtain⟨g,cg,rfl⟩:∃ g cg,vl=.slice (some ⟨g,0,none⟩) 3 cg:=by
     have ho:=f.own.2;rw [T.out] at ho;rcases ho with ⟨_,h0⟩|⟨g,a4,b1,I,_⟩
     ·omega
     ·exact⟨g,a4,I⟩
    obtain⟨ad,x,e1,_,_,hx,cx⟩:=(eO d).str (show 3<4 by omega);obtain rfl:=Option.some.inj e1;have bB:=U x (dC hx.out);rw [zS,eI] at cx;have bD:=m.lt;go_wp2_with fail
    refine (zdq f.rd oM).mono ?_;rintro e J ⟨b,A1,n1,c1,A2,n2,c2,ok,rfl,aA,aC,bk,aH⟩;have ck:=f.dr.size;have p:=(dB J).alloc (.cells #[b.al,.slice A1 n1 c1,.slice A2 n2 c2] 31);have bb:=eK J 31 #[b.al,.slice A1 n1 c1,.slice A2 n2 c2];have o:=(f.drawn aH bk).ext p;have r:=(m.dr aH oM).ext p;have aB:=aA.ext p;clear aA d m cx;go_upto_region 13 with fail
    generalize hgb:J.heap.size=gb at *;generalize J.alloc _=wb at *;have cB:=bb.cells;have cz:=r.cell;have fz:=r.frozen;have am:Ext wb wb.drew:=(dB _).drew;obtain⟨-,f2⟩:=fin14 (N:=M+100000) T.out o aB oM oM (BdL.more aC.out oM) ao.out r rfl (dD _) oM;obtain⟨f1,-⟩:=fin14 (N:=M+100000) T.out (o.ext am) (aB.ext am) oM oM (BdL.more aC.out oM) ao.out (r.ext am) rfl (dD _) oM;go_wp2_with fail
    refine tR (fun X=>Ext wb X) [3] (Ord.of [0,1,2,3]) ?_;refine tQ ?_;refine zP fun K hK=>?_;go_simp;refine hK.out _ _ ?_;refine zag ?_;go_wp2_with fail
    have cf:=f2.cell;exact bodyPost_ret (v:=.tuple #[.slice (some g) 3 cg,.agg #[b.al,.slice A1 n1 c1,.slice A2 n2 c2]]) (by simp [results,Tryz.results164,go_sem,cf]) rfl f1.out
 ·have cm:((z:Int)==0)=false:=by simp;omega
  go_wp2_with fail
  refine (zci aP oM).mono ?_;rintro e w3 ⟨s,A3,n3,c3,rfl,bp,-,cd,bh,aF⟩;go_wp2_with fail
  refine (zci bh oM).mono ?_;rintro e w4 ⟨t,A4,n4,c4,rfl,U,-,ce,ap,y⟩;go_wp2_with fail
  refine (zci ap oM).mono ?_;rintro e w5 ⟨u,A5,n5,c5,rfl,bq,-,ch,bi,Q⟩;have aU:=((ar.trans aF).trans y).trans Q;have bz5:=((ag.dr aF oM).dr y oM).dr Q oM;have f:=Sld.three (w0:=w) (a:=⟨s,A3,n3,c3⟩) (b:=⟨t,A4,n4,c4⟩) (c:=⟨u,A5,n5,c5⟩) bi aU hRl ⟨(bp.dr y).dr Q,by dsimp only;omega,by dsimp only;omega⟩ ⟨U.dr Q,by dsimp only;omega,by dsimp only;omega⟩ ⟨bq,by dsimp only;omega,by dsimp only;omega⟩;dsimp only at f;have bA:=(dB w5).alloc (.cells #[s.al,s.st,.slice A3 n3 c3,t.al,t.st,.slice A4 n4 c4,u.al,u.st,.slice A5 n5 c5] 38);have a3:=bz5.ext bA;have cn:=bz5.lt;generalize hg6:w5.heap.size=g6 at *;go_upto_region 15 with fail
  generalize w5.alloc _=w6 at *;have hA:=partsA_cases [s,t,u];have aR:=f.sl rfl;have bC:=aU.size;go_wp2_with (first
   |(go_at_call 207;refine (zaG aR).mono (mQ fun w7 aV=>?_);have H:=f.ext aV;have ay:=a3.ext aV;have co:=ay.lt;have cj:=H.dr.size)
   |(go_at_call 235;refine (zeN H.rd oM hA).mono ?_;rintro e w8 ⟨b,A8,n8,d8,A9,n9,d9,rfl,bg,bc,bj,aG⟩;have ah:=ay.dr aG oM;have b2:=ah.cell;have b6:=ah.frozen;have aS:=H.drawn aG bj))
  obtain⟨f1,f2⟩:=fin14 (N:=M+100000) rfl aS bg oM oM ((BdA.of bc.out).more oM) (fun e he=>by simp only [List.mem_cons,List.not_mem_nil,or_false] at he;rcases he with rfl|rfl|rfl<;>(dsimp only;omega)) ah rfl (dD _) oM
  have cf:=f2.cell;exact bodyPost_ret (v:=.tuple #[.slice (some g6) 3 3,.agg #[b.al,.slice A8 n8 d8,.slice A9 n9 d9]]) (by simp [results,Tryz.results164,go_sem,cf]) rfl f1.out
theorem entC_take (l:List Ent) (k:Nat):zhc (l.take k)=(zhc l).take (k*3):=by
 induction l generalizing k with
 |nil=>simp [zhc]
 |cons e r ih =>
  cases k with
  |zero=>simp [zhc]
  |succ k =>
   show e.cs++zhc (r.take k)=(e.cs++zhc r).take ((k+1)*3);rw [ih,List.take_append,show e.cs.length=3 by rfl,show (k+1)*3 - 3=k*3 by omega,dU (show e.cs.length<=(k+1)*3 by rw [show e.cs.length=3 by rfl];omega)]
section
variable {w0 W:World} {R M g n c:Nat} {l:List Ent}
theorem Sld.take (h:Sld w0 W R M (.slice (some g) n c) l)(hn:n=l.length)(hk:k<=n):Sld w0 W R M (.slice (some g) k c) (l.take k):=by
 subst hn;have p:(l.take k).length=k:=by rw [e8];omega
 refine⟨?_,fun e he=>h.ent e (List.mem_of_mem_take he),h.rd,h.dr,h.hR⟩;have q:=h.own;rw [p,entC_take];refine⟨by rw [e8,entC_length];omega,.inr ?_⟩;rcases q.2 with ⟨a,_⟩|⟨r,d,b,a,f,i,s,j,m,o⟩
 ·simp at a
 ·injection a with a h8 h9
  injection a with a
  injection a with a
  subst a;subst h9;refine⟨g,c,b,rfl,f,i,oM,j,m,?_⟩;rw [← o,List.take_take,Nat.min_eq_left oM]
theorem Sld.cap (h:Sld w0 W R M (.slice (some g) n c) l)(hn:n=l.length):n<=c:=by
 subst hn;rcases h.own.2 with ⟨a,_⟩|⟨d,cap,b,a,f,i,j,_⟩
 ·simp at a
 ·injection a with a h8 h9
  omega
theorem Sld.set1 {e:Ent}(h:Sld w0 W R M (.slice (some g) n c) l)(hn:n=l.length)(h2:2<=n)(he:e.ok W R) :
  Sld w0 (((W.setCell ⟨g,3,none⟩ e.s.al).setCell ⟨g,4,none⟩ e.s.st).setCell ⟨g,5,none⟩ (.slice e.A e.n e.c)) R M (.slice (some g) n c) (l.set 1 e):=by
 subst hn;have m:=(h.own.lt g rfl).1;have i:=h.hR;have o:Frm (fun k=>k=g) W (((W.setCell ⟨g,3,none⟩ e.s.al).setCell ⟨g,4,none⟩ e.s.st).setCell ⟨g,5,none⟩ (.slice e.A e.n e.c)):=
  ((dF W g 3 _).trans (dF _ g 4 _)).trans (dF _ g 5 _)
 have f:∀ x:Ent,x.ok W R->x.ok (((W.setCell ⟨g,3,none⟩ e.s.al).setCell ⟨g,4,none⟩ e.s.st).setCell ⟨g,5,none⟩ (.slice e.A e.n e.c)) R:=fun x d =>
  ⟨d.1.frm o (fun k hk _=>by subst hk;exact own_sys h.own rfl),d.2⟩
 refine⟨?_,fun x d=>?_,h.rd.frm o (fun k hk e=>oM),((h.dr.ag (p:=⟨g,3,none⟩) m _).ag (p:=⟨g,4,none⟩) m _).ag (p:=⟨g,5,none⟩) m _,i⟩
 ·have q:=(((h.own.stored 3 (.int .i64 e.s.al)).1.stored 4 (.int .i64 e.s.st)).1.stored 5 (.slice e.A e.n e.c)).1;rw [fN];have j:(((zhc l).set 3 (.int .i64 e.s.al)).set 4 (.int .i64 e.s.st)).set 5 (.slice e.A e.n e.c)=zhc (l.set 1 e):=by
   match l,h2 with
   |a :: b :: r,_=>rfl
  rw [← j];exact q
 ·rcases List.mem_or_eq_of_mem_set d with d|d
  ·exact f x (h.ent x d)
  ·subst d;exact f _ he
theorem Sld.at_ {i:Nat} {e:Ent}(h:Sld w0 W R M (.slice (some g) n c) l)(hn:n=l.length)(he:l[i]?=some e) :
  W.cell? ⟨g,i*3,none⟩=some (.int .i64 e.s.al)∧W.cell? ⟨g,i*3+1,none⟩=some (.int .i64 e.s.st)∧W.cell? ⟨g,i*3+2,none⟩=some (.slice e.A e.n e.c):=by
 subst hn;have f:=(List.getElem?_eq_some_iff.1 he).1;obtain⟨a,b,d⟩:=zju he;exact⟨(h.own.cellAt (i*3) oM).trans a,(h.own.cellAt (i*3+1) oM).trans b,(h.own.cellAt (i*3+2) oM).trans d⟩
end
def RetL14A (R M:Nat) (w:World) (e:Ending) (w':World):Prop:=
 ∃ (l:List Ent) (k g c:Nat) (b:Aut) (A:Option Addr) (n c1:Nat) (A':Option Addr) (n' c2:Nat),Hid (k=l.length)∧k<=4∧e=.returned (.tuple #[.slice (some g) k c,.agg #[b.al,.slice A n c1,.slice A' n' c2]])∧Sld w w' R M (.slice (some g) k c) l∧zN w' (R+1) A n c1 A' n' c2 b∧Hid (BdA 100 b)
structure L14S (w0 W:World) (R G M g k c:Nat) (l:List Ent) (b:Aut) (A:Option Addr) (n c1:Nat) (A':Option Addr) (n' c2:Nat):Prop where
 sld:Sld w0 W R M (.slice (some g) k c) l
 len:Hid (k=l.length)
 blk:Blk W (G) 31 #[b.al,.slice A n c1,.slice A' n' c2]
 own:zN W (R+1) A n c1 A' n' c2 b
 bd:Hid (BdA 100 b)
 z:Blk W w0.heap.size 31 #[(0:Int),(),()]
 hG:w0.heap.size<G
section
variable {w0 W W':World} {R G M N g k c:Nat} {l:List Ent} {b:Aut} {A:Option Addr} {n c1:Nat} {A':Option Addr} {n' c2:Nat}
theorem L14S.drawn (h:L14S w0 W R G M g k c l b A n c1 A' n' c2)(hd:Dr R W W')(hr:Rd W' R N):L14S w0 W' R G N g k c l b A n c1 A' n' c2:=
 have hR:=h.sld.hR
 ⟨h.sld.drawn hd hr,h.len,h.blk.dr hd (oH h.hG),h.own.keep hd (fun b h1 e=>oM),h.bd,h.z.dr hd oM,h.hG⟩
theorem L14S.more (h:L14S w0 W R G M g k c l b A n c1 A' n' c2)(hM:M<=N):L14S w0 W R G N g k c l b A n c1 A' n' c2:={ h with sld:=h.sld.more hM }
theorem L14S.far (h:L14S w0 W R G M g k c l b A n c1 A' n' c2):g≠w0.heap.size∧g≠G:=⟨zq h.sld.own h.z dM rfl,zq h.sld.own h.blk dM rfl⟩
theorem L14S.setP {b1:Aut} {A1:Option Addr} {n1 d1:Nat}  (h:L14S w0 W R G M g k c l b A n c1 A' n' c2)(ho:zN W (R+1) A1 n1 d1 A2 n2 d2 b1)(hb:BdA 100 b1) :
  L14S w0 (((W.setCell G b1.al).setCell ⟨G,1,none⟩ (.slice A1 n1 d1)).setCell ⟨G,2,none⟩ (.slice A2 n2 d2)) R G M g k c l b1 A1 n1 d1 A2 n2 d2:=by
 have f:=h.sld.hR;have d:=h.hG;have a:=zac W (G) (.int .i64 b1.al) (.slice A1 n1 d1) (.slice A2 n2 d2);refine⟨⟨zf h.sld.own a (fun k hv e=>zq h.sld.own h.blk dM hv e),fun e he=>⟨(h.sld.ent e he).1.far h.blk dM a,(h.sld.ent e he).2⟩,h.sld.rd.frm a (fun k hk e=>oM),?_,f⟩,h.len,zai h.blk rfl _ _ _,ho.ar h.blk a dM,za hb,h.z.frm a oM,d⟩;exact ((h.sld.dr.ag (p:=⟨G,0,none⟩) (jG h.hG) _).ag (p:=⟨G,1,none⟩) (jG h.hG) _).ag (p:=⟨G,2,none⟩) (jG h.hG) _
theorem L14S.set1 {e:Ent}(h:L14S w0 W R G M g k c l b A n c1 A' n' c2)(h2:2<=k)(he:e.ok W R) :
  L14S w0 (((W.setCell ⟨g,3,none⟩ e.s.al).setCell ⟨g,4,none⟩ e.s.st).setCell ⟨g,5,none⟩ (.slice e.A e.n e.c)) R G M g k c (l.set 1 e) b A n c1 A' n' c2:=by
 obtain⟨f1,f2⟩:=h.far;have a:Frm (fun k'=>(Value.slice (some g) k c).ownBlock=some k') W (((W.setCell ⟨g,3,none⟩ e.s.al).setCell ⟨g,4,none⟩ e.s.st).setCell ⟨g,5,none⟩ (.slice e.A e.n e.c)):=
  (((dF W g 3 _).trans (dF _ g 4 _)).trans (dF _ g 5 _)).mono (fun k _ hk=>by subst hk;rfl)
 refine⟨h.sld.set1 h.len.out h2 he,za (by rw [fN];exact h.len.out),h.blk.frm a (fun e=>by simp [Value.ownBlock] at e;exact f2 e),h.own.farR h.sld.own a dM,h.bd,h.z.frm a (fun e=>by simp [Value.ownBlock] at e;exact f1 e),h.hG⟩
theorem L14S.fin (h:L14S w0 W R G M g k c l b A n c1 A' n' c2)(hk:k<=4)(hM:M<=N) :
  Hid (RetL14A R N w0 (.returned (.tuple #[.slice (some g) k c,.agg #[b.al,.slice A n c1,.slice A' n' c2]])) (((W.setCell w0.heap.size b.al).setCell ⟨w0.heap.size,1,none⟩ (.slice A n c1)).setCell ⟨w0.heap.size,2,none⟩ (.slice A' n' c2))) ∧
  Blk (((W.setCell w0.heap.size b.al).setCell ⟨w0.heap.size,1,none⟩ (.slice A n c1)).setCell ⟨w0.heap.size,2,none⟩ (.slice A' n' c2)) w0.heap.size 31 #[.int .i64 b.al,.slice A n c1,.slice A' n' c2]:=by
 have d:=h.sld.hR;have f:=h.hG;have a:=zac W w0.heap.size (.int .i64 b.al) (.slice A n c1) (.slice A' n' c2);refine⟨za ⟨l,k,g,c,b,A,n,c1,A',n',c2,h.len,hk,rfl,⟨zf h.sld.own a (fun k hv e=>zq h.sld.own h.z dM hv e),fun e he=>⟨(h.sld.ent e he).1.far h.z dM a,(h.sld.ent e he).2⟩,(h.sld.rd.more hM).frm a (fun k hk e=>oM),?_,d⟩,h.own.ar h.z a dM,h.bd⟩,zai h.z rfl _ _ _⟩;exact ((h.sld.dr.ag (p:=⟨w0.heap.size,0,none⟩) (dD _) _).ag (p:=⟨w0.heap.size,1,none⟩) (dD _) _).ag (p:=⟨w0.heap.size,2,none⟩) (dD _) _
end
theorem spec_l14Any (h:Rd w R M)(hM:M<=500000000) :
  Calls Tryz.prog 88 #[.pointer (some R)] w (RetL14A R (M+200000) w):=by
 have hRl:=h.lt
 go_enter Tryz.func88,Tryz.ntmps88
 go_wp2_with fail
 generalize U0:w.alloc _=w1 at *;have hxz:=Ext.al_ U0;have bz:=eJ U0;have aY:w1.heap.size=w.heap.size+1:=by rw [← U0];simp
 clear U0;refine (spec_l14Draw (h.ext hxz) oM).mono ?_;rintro e w2 ⟨l,g,c,b,A,n,i,A',n',j,t,rfl,f,u,m,ab⟩;have C:=(dB w2).alloc (.cells #[b.al,.slice A n i,.slice A' n' j] 31);have bb:=eK w2 31 #[b.al,.slice A n i,.slice A' n' j];have B:=(f.less hxz.dr hRl).ext C;have aZ:=f.dr.size;have a:=(⟨B,za t.symm,bb,u.ext C,za (BdL.more m.out oM),(bz.dr f.dr oM).ext C,oM⟩:L14S w _ R w2.heap.size (M+100000) g 3 c l b A n i A' n' j);have D:=m;clear B f bb u m C bz hxz;go_upto_region 2 with fail
 generalize hG:w2.heap.size=G at *;generalize w2.alloc _=w3 at *;go_wp2_with fail
 refine (zB a.sld.rd oM).mono ?_;rintro e w4 ⟨y,rfl,-,-,ae,Z⟩;replace a:=a.drawn Z ae;go_upto_block 0 with fail
 go_cut [4] (fun v wx=>∃ (l:List Ent) (k g c:Nat) (b:Aut) (A:Option Addr) (n i:Nat) (A':Option Addr) (n' j:Nat),v=.slice (some g) k c∧k<=4∧L14S w wx R G (M+150000) g k c l b A n i A' n' j)
 case first =>
  by_cases hy0:y=0
  ·subst hy0;go_wp2_with fail
   refine (zB a.sld.rd oM).mono ?_;rintro e w5 ⟨q,rfl,hq,-,S,I⟩;have aW:q<3:=by have:=hq oM;omega
   replace a:=a.drawn I S;have aX:q<=c:=by have:=a.sld.cap t.symm;omega
   go_wp2_with fail
   go_meet;exact⟨l.take q,q,g,c,b,A,n,i,A',n',j,rfl,oM,⟨(a.sld.take a.len.out oM).more oM,za (by rw [e8,t];omega),a.blk,a.own,a.bd,a.z,a.hG⟩⟩
  by_cases hy1:y=1
  ·subst hy1;go_wp2_with fail
   refine (zci a.sld.rd oM).mono ?_;rintro e w5 ⟨s,A5,n5,c5,rfl,ap,-,aU,S,I⟩;replace a:=a.drawn I S;have an:(⟨s,A5,n5,c5⟩:Ent).ok w5 R:=⟨ap,by dsimp only;omega,by dsimp only;omega⟩;go_wp2_with (at_builtin;refine zfh w _ rfl _ _ _ rfl 38 _ 3 40 Tryz.underlying55 info_sys rfl dM (.slice (some g) 3 c) l.length (zhc l) _ _ rfl rfl a.sld.dr.size a.sld.own rfl (by simp [Value.oneCell']) lM oM ?_;intro g5 cap5 w6 zkn hg5 hat5 hlt5)
   have ad:=a.sld.push an zkn hg5;rw [t] at ad;obtain⟨f1,f2⟩:=a.far;go_meet;exact⟨l++[⟨s,A5,n5,c5⟩],4,g5,cap5,b,A,n,i,A',n',j,rfl,oM,⟨ad.more oM,za (by simp [t]),(hg5.block _ a.blk.lt (fun e=>f2 (by simpa [Value.ownBlock] using e.symm))).trans a.blk,a.own.farR a.sld.own (Frm.ae hg5) dM,a.bd,(hg5.block _ a.z.lt (fun e=>f1 (by simpa [Value.ownBlock] using e.symm))).trans a.z,a.hG⟩⟩
  by_cases hy2:y=2
  ·subst hy2;obtain⟨p,r⟩:∃ p,l[1]?=some p:=⟨l[1]' oM,dE _⟩;obtain⟨c0,U,V⟩:=a.sld.at_ t.symm r;have d:p.ok w4 R∧p.n<=40000:=⟨a.sld.ent p (dC r),ab.out p (dC r)⟩;go_wp2_with fail
   refine (zaX (L:=p.n) a.sld.rd oM d.1.1 (dD _) (oH d.2)).mono ?_;rintro e v1 ⟨s1,A1,n1,d1,rfl,ao,aR,J,E⟩;replace a:=a.drawn E J;clear c0 U V r;have o:=za d;clear d;go_wp2_with fail
   refine (zaX (L:=n1) a.sld.rd oM ao (dD _) (oH o.out.2)).mono ?_;rintro e v2 ⟨s2,A2,n2,d2,rfl,f,aS,O,F⟩;replace a:=a.drawn F O;go_wp2_with fail
   refine (zaX (L:=n2) a.sld.rd oM f (dD _) (oH o.out.2)).mono ?_;rintro e v3 ⟨s3,A3,n3,d3,rfl,B,aT,Q,H⟩;replace a:=a.drawn H Q;have aA:n3<=50000:=oH o.out.2;obtain⟨aN,aa⟩:∃ p,l[1]?=some p:=⟨l[1]' oM,dE _⟩;obtain⟨c0,U,V⟩:=a.sld.at_ t.symm aa;have x:=a.sld.own;rw [t] at x;have f3:=x.frozenAt;have fin:=a.set1 (e:=⟨s3,A3,n3,d3⟩) oM ⟨B,by dsimp only;omega,by dsimp only;omega⟩;go_wp2_with fail
   go_meet;exact⟨l.set 1 ⟨s3,A3,n3,d3⟩,3,g,c,b,A,n,i,A',n',j,rfl,oM,fin.more oM⟩
  by_cases hy3:y=3
  ·subst hy3;have cG:=a.blk.cell;go_wp2_with fail
   refine (zcj a.sld.rd oM a.own D.out oM).mono ?_;rintro e w5 ⟨b1,A1,n1,d1,B1,m1,e1,rfl,am,aj,J,E⟩;have aO:=a.sld.dr.size;replace a:=a.drawn E J;have aP:=a.sld.dr.size;clear cG;go_wp2_with fail
   refine (zcj a.sld.rd oM (am.less oM) aj.out oM).mono ?_;rintro e w6 ⟨b2,A2,n2,d2,B2,m2,e2,rfl,u,m,O,F⟩;replace a:=a.drawn F O;go_wp2_with fail
   refine (zcj a.sld.rd oM (u.less oM) m.out oM).mono ?_;rintro e w7 ⟨b3,A3,n3,d3,B3,m3,e3,rfl,x,ak,Q,H⟩;have aQ:=a.sld.dr.size;replace a:=a.drawn H Q;have cG:=a.blk.cell;have fG:=a.blk.frozen;have fin:=a.setP (x.less oM) (BdL.more ak.out oM);go_wp2_with fail
   go_meet;exact⟨l,3,g,c,b3,A3,n3,d3,B3,m3,e3,rfl,oM,fin.more oM⟩
  have h0:((y:Int)==0)=false:=by simp;omega
  have h1:((y:Int)==1)=false:=by simp;omega
  have h2:((y:Int)==2)=false:=by simp;omega
  have h3:((y:Int)==3)=false:=by simp;omega
  clear hy0 hy1 hy2 hy3;go_wp2_with fail
  go_meet;exact⟨l,3,g,c,b,A,n,i,A',n',j,rfl,oM,a.more oM⟩
 case rest =>
  clear a t ab D ae Z;obtain⟨l,k,g,c,b,A,n,i,A',n',j,rfl,hk,a⟩:=hcut;obtain⟨T,aq⟩:∃ T,T=wc:=⟨_,rfl⟩;subst aq;have cB:=fun W (hW:Ext T W)=>(a.blk.ext hW).cell;have cz:=a.z.cell;have fz:=a.z.frozen;have Y:Ext T T.drew:=(dB _).drew;obtain⟨-,f2⟩:=a.fin hk (show M+150000<=M+200000 by omega);obtain⟨f1,-⟩:=(a.drawn Y.dr (a.sld.rd.ext Y)).fin hk (show M+150000<=M+200000 by omega);go_wp2_with fail
  refine tR (fun X=>Ext T X) [3] (Ord.of [0,1,2,3]) ?_;refine tQ ?_;refine zP fun K hK=>?_;go_simp;refine hK.out _ _ ?_;refine zag ?_;go_wp2_with fail
  have cf:=f2.cell;exact bodyPost_ret (v:=.tuple #[.slice (some g) k c,.agg #[b.al,.slice A n i,.slice A' n' j]]) (by simp [results,Tryz.results88,go_sem,cf]) rfl f1.out
def RetDC (w:World) (e:Ending) (w':World):Prop:=
 ∃ (ss:List Sys) (k g c:Nat) (b:Aut) (A:Option Addr) (n c1:Nat) (A':Option Addr) (n' c2:Nat),Hid (k=ss.length)∧k<=4∧k<=c∧e=.returned (.tuple #[.slice (some g) k c,.agg #[b.al,.slice A n c1,.slice A' n' c2]])∧zep w' w.heap.size w'.heap.size (some ⟨g,0,none⟩) k ss∧zH w' w.heap.size w'.heap.size A n A' n' b∧Hid (BdA 100 b)∧Ext w w'
theorem zN.at_new {c':Nat} {a:Aut}(h:zN w base A n c A' n' c' a)(hl:lo<=base):zH w lo w.heap.size A n A' n' a:=(h.less hl).reads
theorem sl_of {l:List Ent}(ho:W.ownsRow base 38 3 (.slice A n c) n (zhc l))(hn:n=l.length)(he:∀ e∈l,e.ok W R)(hb:lo<=base)(hR:lo<=R+1):zep W lo W.heap.size A n (l.map Ent.s):=by
 have g:=eO ho;refine⟨by simpa using hn,zhc l,g.more hb (dD _),fun k s hs=>?_⟩;rw [eF,gE] at hs;obtain⟨e,a,rfl⟩:=hs;obtain⟨b,d,f⟩:=zju a;exact⟨e.A,e.n,e.c,b,d,f,(he e (dC a)).1.at_.more hR (dD _)⟩
theorem draw_cl {l:List Ent}    {cs:Array Value}(hl:k=l.length)(hk:k<=4)(hs:Sld w1 W R M (.slice (some g) k c) l)(ho:zN W (R+1) A n c1 A' n' c2 b)(hb:BdA 100 b)(hR:w.heap.size<R)(hx:Ext w w1)(hz:Blk W w.heap.size 31 cs)(hc:cs.size=3) :
  RetDC w (.returned (.tuple #[.slice (some g) k c,.agg #[b.al,.slice A n c1,.slice A' n' c2]])) (((W.setCell w.heap.size b.al).setCell ⟨w.heap.size,1,none⟩ (.slice A n c1)).setCell ⟨w.heap.size,2,none⟩ (.slice A' n' c2)) ∧
  Blk (((W.setCell w.heap.size b.al).setCell ⟨w.heap.size,1,none⟩ (.slice A n c1)).setCell ⟨w.heap.size,2,none⟩ (.slice A' n' c2)) w.heap.size 31 #[.int .i64 b.al,.slice A n c1,.slice A' n' c2]:=by
 have a:=zac W w.heap.size (.int .i64 b.al) (.slice A n c1) (.slice A' n' c2);have d:Ext w W:=Dr.new hx oM hs.dr;have f:=hs.hR;refine⟨⟨l.map Ent.s,k,g,c,b,A,n,c1,A',n',c2,za (by rw [List.length_map];exact hl),hk,hs.cap hl,rfl,?_,?_,za hb,((d.setCell (p:=⟨w.heap.size,0,none⟩) (dD _) _).setCell (p:=⟨w.heap.size,1,none⟩) (dD _) _).setCell (p:=⟨w.heap.size,2,none⟩) (dD _) _⟩,zai hz hc _ _ _⟩
 ·refine sl_of (base:=w1.heap.size) (c:=c) ?_ hl (fun e he=>(⟨(hs.ent e he).1.far hz dM a,(hs.ent e he).2⟩:e.ok _ R)) oM oM;have ho:=hs.own;rw [← hl] at ho;exact zaJ ho a (fun b h1 e=>oM)
 ·exact (ho.keep a (fun b h1 e=>oM)).at_new oM
def Texts3 (W:World) (base g n:Nat):Prop:=
 ∀ k<n,∃ (b:Nat) (l:List ByteArray),W.cell? ⟨g,k,none⟩=some (.slice (some b) 3 3)∧l.length=3∧((∀ x∈l,x.size<=100)∧∀ x,l[2]?=some x->x.size<=40)∧W.ownsRow base 9 1 (.slice (some b) 3 3) 3 (zM l)
def RetT3 (w:World) (e:Ending) (w':World):Prop:=∃ g,e=.returned (.slice (some ⟨g,0,none⟩) 9 9)∧w.heap.size<=g∧Texts3 w' w.heap.size g 9∧Ext w w'
def Sh3 (u:Array Value):Prop:=zM (u.toList.map zeQ)=u.toList∧u.size=3∧(∀ x∈u.toList.map zeQ,x.size<=100)∧∀ x∈(u.toList.map zeQ).drop 2,x.size<=40
theorem Sh3.ak {u:Array Value}(h:Sh3 u):(u.toList.map zeQ).length=3∧(∀ x∈u.toList.map zeQ,x.size<=100)∧∀ x,(u.toList.map zeQ)[2]?=some x->x.size<=40:=by
 obtain⟨-,a,b,c⟩:=h;refine⟨by simp [a],b,fun x hx=>c x ?_⟩;have d:=(List.getElem?_eq_some_iff.1 hx).1;rw [List.mem_iff_getElem?];exact⟨0,by rw [List.getElem?_drop];exact hx⟩
theorem lit9 (w:World) {u6 u7 u8 u9:Array Value}(h1:Sh3 u1)(h2:Sh3 u2)(h3:Sh3 u3)(h4:Sh3 u4)(h5:Sh3 u5)(h6:Sh3 u6)(h7:Sh3 u7)(h8:Sh3 u8)(h9:Sh3 u9) :
  RetT3 w (.returned (.slice (some ⟨w.heap.size+9,0,none⟩) 9 9)) ((((((((((w.alloc (.cells u1 9)).alloc (.cells u2 9)).alloc (.cells u3 9)).alloc (.cells u4 9)).alloc (.cells u5 9)).alloc (.cells u6 9)).alloc (.cells u7 9)).alloc (.cells u8 9)).alloc (.cells u9 9)).alloc (.cells #[.slice (some w.heap.size) 3 3,.slice (some ⟨w.heap.size+1,0,none⟩) 3 3,.slice (some ⟨w.heap.size+2,0,none⟩) 3 3,.slice (some ⟨w.heap.size+3,0,none⟩) 3 3,.slice (some ⟨w.heap.size+4,0,none⟩) 3 3,.slice (some ⟨w.heap.size+5,0,none⟩) 3 3,.slice (some ⟨w.heap.size+6,0,none⟩) 3 3,.slice (some ⟨w.heap.size+7,0,none⟩) 3 3,.slice (some ⟨w.heap.size+8,0,none⟩) 3 3] 99)):=by
 have S:=zaM w h1.1 h1.2.1 oM;have V:=(dB w).alloc (.cells u1 9);have x:(w.alloc (.cells u1 9)).heap.size=w.heap.size+1:=sM;generalize w.alloc (.cells u1 9)=b at *;have o:=zaM b h2.1 h2.2.1 oM;have X:=(dB b).alloc (.cells u2 9);have y:(b.alloc (.cells u2 9)).heap.size=w.heap.size+2:=by simp [x]
 rw [x] at o;generalize b.alloc (.cells u2 9)=c at *;have p:=zaM c h3.1 h3.2.1 oM;have Y:=(dB c).alloc (.cells u3 9);have z:(c.alloc (.cells u3 9)).heap.size=w.heap.size+3:=by simp [y]
 rw [y] at p;generalize c.alloc (.cells u3 9)=d at *;have q:=zaM d h4.1 h4.2.1 oM;have Z:=(dB d).alloc (.cells u4 9);have B:(d.alloc (.cells u4 9)).heap.size=w.heap.size+4:=by simp [z]
 rw [z] at q;generalize d.alloc (.cells u4 9)=f at *;have r:=zaM f h5.1 h5.2.1 oM;have x5:=(dB f).alloc (.cells u5 9);have C:(f.alloc (.cells u5 9)).heap.size=w.heap.size+5:=by simp [B]
 rw [B] at r;generalize f.alloc (.cells u5 9)=g at *;have s:=zaM g h6.1 h6.2.1 oM;have x6:=(dB g).alloc (.cells u6 9);have D:(g.alloc (.cells u6 9)).heap.size=w.heap.size+6:=by simp [C]
 rw [C] at s;generalize g.alloc (.cells u6 9)=h at *;have t:=zaM h h7.1 h7.2.1 oM;have x7:=(dB h).alloc (.cells u7 9);have E:(h.alloc (.cells u7 9)).heap.size=w.heap.size+7:=by simp [D]
 rw [D] at t;generalize h.alloc (.cells u7 9)=i at *;have u:=zaM i h8.1 h8.2.1 oM;have x8:=(dB i).alloc (.cells u8 9);have F:(i.alloc (.cells u8 9)).heap.size=w.heap.size+8:=by simp [E]
 rw [E] at u;generalize i.alloc (.cells u8 9)=j at *;have v:=zaM j h9.1 h9.2.1 oM;have x9:=(dB j).alloc (.cells u9 9);have T:(j.alloc (.cells u9 9)).heap.size=w.heap.size+9:=by simp [F]
 rw [F] at v;generalize j.alloc (.cells u9 9)=m at *;have a:=eK m 99 #[.slice (some w.heap.size) 3 3,.slice (some ⟨w.heap.size+1,0,none⟩) 3 3,.slice (some ⟨w.heap.size+2,0,none⟩) 3 3,.slice (some ⟨w.heap.size+3,0,none⟩) 3 3,.slice (some ⟨w.heap.size+4,0,none⟩) 3 3,.slice (some ⟨w.heap.size+5,0,none⟩) 3 3,.slice (some ⟨w.heap.size+6,0,none⟩) 3 3,.slice (some ⟨w.heap.size+7,0,none⟩) 3 3,.slice (some ⟨w.heap.size+8,0,none⟩) 3 3];have n:=(dB m).alloc (.cells #[.slice (some w.heap.size) 3 3,.slice (some ⟨w.heap.size+1,0,none⟩) 3 3,.slice (some ⟨w.heap.size+2,0,none⟩) 3 3,.slice (some ⟨w.heap.size+3,0,none⟩) 3 3,.slice (some ⟨w.heap.size+4,0,none⟩) 3 3,.slice (some ⟨w.heap.size+5,0,none⟩) 3 3,.slice (some ⟨w.heap.size+6,0,none⟩) 3 3,.slice (some ⟨w.heap.size+7,0,none⟩) 3 3,.slice (some ⟨w.heap.size+8,0,none⟩) 3 3] 99);rw [T] at a;generalize m.alloc _=U at *;have R:=n;have Q:=x9.trans R;have O:=x8.trans Q;have M:=x7.trans O;have L:=x6.trans M;have J:=x5.trans L;have I:=Z.trans J;have H:=Y.trans I;have G:=X.trans H;refine⟨_,rfl,oM,fun k hk=>?_,V.trans G⟩;have l:k=0∨k=1∨k=2∨k=3∨k=4∨k=5∨k=6∨k=7∨k=8:=oM;rcases l with rfl|rfl|rfl|rfl|rfl|rfl|rfl|rfl|rfl
 ·exact⟨_,_,a.cell 0,h1.ak.1,h1.ak.2,zh S G⟩
 ·exact⟨_,_,a.cell 1,h2.ak.1,h2.ak.2,zm (zh o H) oM⟩
 ·exact⟨_,_,a.cell 2,h3.ak.1,h3.ak.2,zm (zh p I) oM⟩
 ·exact⟨_,_,a.cell 3,h4.ak.1,h4.ak.2,zm (zh q J) oM⟩
 ·exact⟨_,_,a.cell 4,h5.ak.1,h5.ak.2,zm (zh r L) oM⟩
 ·exact⟨_,_,a.cell 5,h6.ak.1,h6.ak.2,zm (zh s M) oM⟩
 ·exact⟨_,_,a.cell 6,h7.ak.1,h7.ak.2,zm (zh t O) oM⟩
 ·exact⟨_,_,a.cell 7,h8.ak.1,h8.ak.2,zm (zh u Q) oM⟩
 ·exact⟨_,_,a.cell 8,h9.ak.1,h9.ak.2,zm (zh v R) oM⟩
theorem zjL :Calls Tryz.prog 190 #[] w (RetT3 w):=by
 go_enter Tryz.func190,Tryz.ntmps190
 go_wp2_with fail
 go_ret;exact lit9 w ⟨rfl,rfl,by decide +kernel,by decide +kernel⟩ ⟨rfl,rfl,by decide +kernel,by decide +kernel⟩ ⟨rfl,rfl,by decide +kernel,by decide +kernel⟩ ⟨rfl,rfl,by decide +kernel,by decide +kernel⟩ ⟨rfl,rfl,by decide +kernel,by decide +kernel⟩ ⟨rfl,rfl,by decide +kernel,by decide +kernel⟩ ⟨rfl,rfl,by decide +kernel,by decide +kernel⟩ ⟨rfl,rfl,by decide +kernel,by decide +kernel⟩ ⟨rfl,rfl,by decide +kernel,by decide +kernel⟩
theorem zjv {S:Nat->Prop} {w':World}(h:Frm S w w') {p:Addr} (hv:w.cell? p=some v)(hp:¬ S p.block):w'.cell? p=some v:=
 (World.cell?_of_block (w:=w) (h.block _ (World.block_lt_of_cell? w p hv) hp)).trans hv
theorem zcl.own {t:Sys}  (h:zcl w0 W R M L K s A n c t C k c2 p B m d B' m' d'):zcl W W R M L K s A n c t C k c2 p B m d B' m' d':={ h with dr:=Dr.refl _ _,hR:=h.rd.lt }
theorem spec_l9Spoil {t:Sys}   (h:zcl w w R M L K s A n c t C k c2 p B m d B' m' d')(hM:M<=600000000)(hL:L<=90000)(hK:K<=60) :
  Calls Tryz.prog 113 #[.pointer (some R),.agg #[s.al,s.st,.slice A n c],.agg #[p.al,.slice B m d,.slice B' m' d'],.agg #[t.al,t.st,.slice C k c2]] w (RetSPT R (M+100) (L+3) (K+39) w):=by
 have hRl:=h.hR;have aj:Ext w ((((((w.alloc (.cells #[s.al,s.st,.slice A n c] 38)).alloc (.cells #[p.al,.slice B m d,.slice B' m' d'] 31)).alloc (.cells #[t.al,t.st,.slice C k c2] 38)).alloc (.cells #[(0:Int),(0:Int),()] 38)).alloc (.cells #[(0:Int),(),()] 31)).alloc (.cells #[(0:Int),(0:Int),()] 38)):=((((((dB _).alloc _).alloc _).alloc _).alloc _).alloc _).alloc _;obtain⟨b1,b2,b3⟩:=zL (dB (((w.alloc (.cells #[s.al,s.st,.slice A n c] 38)).alloc (.cells #[p.al,.slice B m d,.slice B' m' d'] 31)).alloc (.cells #[t.al,t.st,.slice C k c2] 38)))
 go_enter Tryz.func113,Tryz.ntmps113
 go_upto_region 1 with fail
 have aw:(((w.alloc (.cells #[s.al,s.st,.slice A n c] 38)).alloc (.cells #[p.al,.slice B m d,.slice B' m' d'] 31)).alloc (.cells #[t.al,t.st,.slice C k c2] 38)).heap.size=w.heap.size+3:=sM;generalize ((w.alloc _).alloc _).alloc _=w0 at *;generalize U0:((w0.alloc _).alloc _).alloc _=w1 at *;obtain⟨U,z1,z2,z3⟩:=Ext.x3_ U0;clear U0;simp only [aw] at z1 z2 z3;have ai:Tri w w1 R M L K (w.heap.size+1+1+1) (w.heap.size+1+1+1+1+1) (w.heap.size+1+1+1+1) w.heap.size (w.heap.size+1+1) (w.heap.size+1) s A n c t C k c2 p B m d B' m' d':=
  ⟨h.ext aj,z1,z3,z2,b1.ext U,b3.ext U,.inr (b2.ext U),oM,za (by unfold Ne6;omega)⟩
 have ax:=aj.size;clear z1 z2 z3 b1 b2 b3 aj U h aw;have av:=za (show w.heap.size+1≠0 by omega);have S:=za (show Ne6 (w.heap.size+1+1+1) (w.heap.size+1+1+1+1+1) (w.heap.size+1+1+1+1) w.heap.size (w.heap.size+1+1) (w.heap.size+1) by unfold Ne6;omega);generalize hZt:w.heap.size+1+1+1+1+1=Zt at *;generalize hZp:w.heap.size+1+1+1+1=l at *;generalize hZs:w.heap.size+1+1+1=o at *;generalize hGt:w.heap.size+1+1=Gt at *;generalize hGp:w.heap.size+1=Gp at *;generalize hGs:w.heap.size=Gs at *;have F:=za (show w.heap.size<=o∧w.heap.size<=Zt∧w.heap.size<=l by omega);clear hZt hZp hZs hGt hGp hGs ax;go_wp2_with fail
 refine (zB ai.at_.rd oM).mono ?_;rintro e w2 ⟨y,rfl,-,-,f,g⟩;have a:=ai.drawn g f;clear ai f g;go_upto_block 0 with fail
 go_cut [] (fun wx=>∃ (s:Sys) (A:Option Addr) (n c:Nat) (t:Sys) (C:Option Addr) (k c2:Nat) (p:Aut) (B:Option Addr) (m d:Nat) (B':Option Addr) (m' d':Nat),Tri w wx R (M+100) (L+3) (K+39) (o) (Zt) (l) Gs (Gt) (Gp) s A n c t C k c2 p B m d B' m' d')
 case first =>
  have Q:y=0∨y=1∨y=2∨3<=y:=oM;rcases Q with hy|hy|hy|hy
  ·subst hy;have az:True:=trivial;have Y:=a.bs.cell;go_wp2_with fail
   refine (zaX (L:=L) a.at_.rd oM a.at_.is a.at_.ns.1.1 oM).mono ?_;rintro e v1 ⟨s1,A1,n1,d1,rfl,af,ab,x,D⟩;have i:=a.drawn D x;clear Y;go_wp2_with fail
   refine (zaX (L:=L+1) i.at_.rd oM af ab.1 oM).mono ?_;rintro e v2 ⟨s2,A2,n2,d2,rfl,ag,ad,f,g⟩;have j:=i.drawn g f;go_wp2_with fail
   refine (zaX (L:=L+2) j.at_.rd oM ag ad.1 oM).mono ?_;rintro e v3 ⟨s3,A3,n3,d3,rfl,ah,ae,G,E⟩;have b:=(j.drawn E G).more (N:=M+100) (J:=L+3) (H:=K+39) oM oM oM;have Y:=b.bs.cell;have fG:=b.bs.frozen;have z:=b.setS ah ae;go_wp2_with fail
   go_meet;exact⟨_,_,_,_,_,_,_,_,_,_,_,_,_,_,_,z⟩
  ·subst hy;have az:True:=trivial;have u:=av.out;have Y:=(a.az u).cell;go_wp2_with fail
   refine (zcj a.at_.rd oM a.at_.ip a.at_.bd.out oM).mono ?_;rintro e v1 ⟨b1,A1,n1,d1,B1,m1,e1,rfl,aK,aH,x,D⟩;have i:=a.drawn D x;have bo:=a.at_.rd.lt;have bp:=i.at_.rd.lt;clear Y;go_wp2_with fail
   refine (zcj x oM (aK.less oM) aH.out oM).mono ?_;rintro e v2 ⟨b2,A2,n2,d2,B2,m2,e2,rfl,aL,aI,f,g⟩;have j:=i.drawn g f;have bq:=j.at_.rd.lt;go_wp2_with fail
   refine (zcj f oM (aL.less oM) aI.out oM).mono ?_;rintro e v3 ⟨b3,A3,n3,d3,B3,m3,e3,rfl,aN,aJ,G,E⟩;have b:=(j.drawn E G).more (N:=M+100) (J:=L+3) (H:=K+39) oM oM oM;have Y:=(b.az u).cell;have fG:=(b.az u).frozen;have z:=b.setP u (aN.less oM) (BdL.more aJ.out oM);go_wp2_with fail
   go_meet;exact⟨_,_,_,_,_,_,_,_,_,_,_,_,_,_,_,z⟩
  ·subst hy;have az:True:=trivial;have Y:=a.bt.cell;go_wp2_with fail
   refine (zaX (L:=L) a.at_.rd oM a.at_.it a.at_.ns.2.1 oM).mono ?_;rintro e v1 ⟨s1,A1,n1,d1,rfl,af,ab,x,D⟩;have i:=a.drawn D x;clear Y;go_wp2_with fail
   refine (zaX (L:=L+1) i.at_.rd oM af ab.1 oM).mono ?_;rintro e v2 ⟨s2,A2,n2,d2,rfl,ag,ad,f,g⟩;have j:=i.drawn g f;go_wp2_with fail
   refine (zaX (L:=L+2) j.at_.rd oM ag ad.1 oM).mono ?_;rintro e v3 ⟨s3,A3,n3,d3,rfl,ah,ae,G,E⟩;have b:=(j.drawn E G).more (N:=M+100) (J:=L+3) (H:=K+39) oM oM oM;have Y:=b.bt.cell;have fG:=b.bt.frozen;have z:=b.setT ah ae;go_wp2_with fail
   go_meet;exact⟨_,_,_,_,_,_,_,_,_,_,_,_,_,_,_,z⟩
  ·have h0:((y:Int)==0)=false:=by simp;omega
   have h1:((y:Int)==1)=false:=by simp;omega
   have h2:((y:Int)==2)=false:=by simp;omega
   go_wp2_with fail
   go_meet;exact⟨_,_,_,_,_,_,_,_,_,_,_,_,_,_,_,a.more oM oM oM⟩
 case rest =>
  clear a;obtain⟨s,A,n,c,t,C,k,c2,p,B,m,d,B',m',d',ht⟩:=hcut;have u:=av.out;obtain⟨O,aO⟩:∃ O,O=wc:=⟨_,rfl⟩;subst aO;have cS:∀ W,Frm (fun k=>k=o∨k=l) O W->∀ q,W.cell? ⟨Gs,q,none⟩=#[Value.int .i64 s.al,.int .i64 s.st,.slice A n c][q]?:=fun W hW=>(ht.bs.frm hW (by have:=S.out;unfold Ne6 at this;omega)).cell;have cT:∀ W,Frm (fun k=>k=o∨k=l) O W->∀ q,W.cell? ⟨Gt,q,none⟩=#[Value.int .i64 t.al,.int .i64 t.st,.slice C k c2][q]?:=fun W hW=>(ht.bt.frm hW (by have:=S.out;unfold Ne6 at this;omega)).cell;have cP:∀ W,Frm (fun k=>k=o∨k=l) O W->∀ q,W.cell? ⟨Gp,q,none⟩=#[Value.int .i64 p.al,.slice B m d,.slice B' m' d'][q]?:=fun W hW=>((ht.az u).frm hW (by have:=S.out;unfold Ne6 at this;omega)).cell;have ar:Frm (fun k=>k=o∨k=l) O O.drew:=(dB O).drew.aj;have I:=ht.ext (dB O).drew;go_wp2_with fail
  refine tR (fun X=>Frm (fun k=>k=o∨k=l) O X) [5] (Ord.of [0,1,2,3,4,5]) ?_;refine tQ ?_;generalize hwD:O.drew=wD at *;clear hwD;have Z:=I.at_;have zs:=I.zs;have V:=I.zt;have zp:=I.zp;have cs:=zs.cell;have fs:=zs.frozen;have r:=za S.out;clear I ht;refine zD fun K hK=>?_;go_simp;have q1:=zao zs rfl (.int .i64 s.al) (.int .i64 s.st) (.slice A n c);have e1:=zab wD o (.int .i64 s.al) (.int .i64 s.st) (.slice A n c);replace Z:=Z.far zs e1 F.out.1 dM dM;replace V:=V.frm e1 (by have:=r.out;unfold Ne6 at this;omega);replace zp:=zp.frm e1 (by have:=r.out;unfold Ne6 at this;omega);have aa:=ar.trans (e1.mono (T:=fun k=>k=o∨k=l) (fun k _ hk=>.inl hk));refine hK.out _ _ aa ?_;refine pT ?_;clear cs fs zs e1;generalize ((wD.setCell o s.al).setCell ⟨o,1,none⟩ s.st).setCell ⟨o,2,none⟩ (.slice A n c)=wA at *;have cp:=zp.cell;have fp:=zp.frozen;refine zD fun K hK=>?_;go_simp;have q2:=zao zp rfl (.int .i64 p.al) (.slice B m d) (.slice B' m' d');have e2:=zab wA l (.int .i64 p.al) (.slice B m d) (.slice B' m' d');replace Z:=Z.far zp e2 F.out.2.2 dM dM;replace V:=V.frm e2 (by have:=r.out;unfold Ne6 at this;omega);replace q1:=q1.frm e2 (by have:=r.out;unfold Ne6 at this;omega);have au:=aa.trans (e2.mono (T:=fun k=>k=o∨k=l) (fun k _ hk=>.inr hk));refine hK.out _ _ au ?_;refine pT ?_;clear cp fp zp e2 aa;generalize ((wA.setCell l p.al).setCell ⟨l,1,none⟩ (.slice B m d)).setCell ⟨l,2,none⟩ (.slice B' m' d')=wB at *;have ct:=V.cell;have ft:=V.frozen;refine zP fun K hK=>?_;go_simp;have q3:=zao V rfl (.int .i64 t.al) (.int .i64 t.st) (.slice C k c2);have e3:=zab wB Zt (.int .i64 t.al) (.int .i64 t.st) (.slice C k c2);replace Z:=Z.far V e3 F.out.2.1 dM dM;replace q1:=q1.frm e3 (by have:=r.out;unfold Ne6 at this;omega);replace q2:=q2.frm e3 (by have:=r.out;unfold Ne6 at this;omega);refine hK.out _ _ ?_;refine zag ?_;clear ct ft V e3 au ar cS cT cP;generalize ((wB.setCell Zt t.al).setCell ⟨Zt,1,none⟩ t.st).setCell ⟨Zt,2,none⟩ (.slice C k c2)=wC at *;have aG:=za Z;clear Z;go_wp2_with fail
  have c1:=q1.cell;have aF:=q2.cell;have c3:=q3.cell;exact bodyPost_ret (v:=.tuple #[.agg #[s.al,s.st,.slice A n c],.agg #[p.al,.slice B m d,.slice B' m' d'],.agg #[t.al,t.st,.slice C k c2]]) (by simp [results,Tryz.results113,go_sem,c1,aF,c3]) rfl ⟨s,A,n,c,t,C,k,c2,p,B,m,d,B',m',d',rfl,aG.out⟩
theorem spec_l12Draw (h:Rd w R M)(hM:M<=500000000) :
  Calls Tryz.prog 110 #[.pointer (some R)] w (RetSTP R (M+200000) 30000 50 w):=by
 have hRl:=h.lt
 go_enter Tryz.func110,Tryz.ntmps110
 go_upto_region 1 with fail
 generalize U0:((w.alloc _).alloc _).alloc _=w0 at *;obtain⟨aX,z1,z2,z3⟩:=Ext.x3_ U0;have cq:w0.heap.size=w.heap.size+3:=by rw [← U0];simp
 clear U0;go_upto_region 2 with (first
  |(go_at_call 189;refine (spec_l9Three (h.ext aX) oM).mono ?_;rintro e U ⟨s,A,n,c,t,C,k,E,p,B,m,d,D,Q,I,rfl,S⟩))
 have ab:Ext U (((U.alloc (.cells #[s.al,s.st,.slice A n c] 38)).alloc (.cells #[p.al,.slice B m d,.slice D Q I] 31)).alloc (.cells #[t.al,t.st,.slice C k E] 38)):=(((dB _).alloc _).alloc _).alloc _;obtain⟨b1,b2,b3⟩:=zL (dB (((U.alloc (.cells #[s.al,s.st,.slice A n c] 38)).alloc (.cells #[p.al,.slice B m d,.slice D Q I] 31)).alloc (.cells #[t.al,t.st,.slice C k E] 38)));have bp:=S.dr.size;have aG:Tri w (((U.alloc (.cells #[s.al,s.st,.slice A n c] 38)).alloc (.cells #[p.al,.slice B m d,.slice D Q I] 31)).alloc (.cells #[t.al,t.st,.slice C k E] 38)) R (M+150000) 30000 50 w.heap.size (w.heap.size+1) (w.heap.size+1+1) U.heap.size (U.heap.size+1+1) (U.heap.size+1) s A n c t C k E p B m d D Q I:=
  ⟨((S.less aX.dr hRl).ext ab).more oM oM oM,(z1.dr S.dr oM).ext ab,(z2.dr S.dr oM).ext ab,(z3.dr S.dr oM).ext ab,b1,b3,.inr b2,oM,za (by unfold Ne6;omega)⟩
 clear S b1 b2 b3 z1 z2 z3 ab;have Y:=za (show w.heap.size+3<=U.heap.size by omega);have bd:(((U.alloc (.cells #[s.al,s.st,.slice A n c] 38)).alloc (.cells #[p.al,.slice B m d,.slice D Q I] 31)).alloc (.cells #[t.al,t.st,.slice C k E] 38)).heap.size=U.heap.size+3:=sM;clear bp;generalize hG:U.heap.size=G at *;generalize ((U.alloc _).alloc _).alloc _=w2 at *;clear hG U;go_wp2_with fail
 refine (zB aG.at_.rd oM).mono ?_;rintro e w3 ⟨y,rfl,-,-,aV,aC⟩;have aa:=aG.drawn aC aV;have f:=za (show G+3<=w3.heap.size by have:=aC.size;omega);clear aG aV aC bd;go_upto_if 18 with fail
 go_cut [] (fun wx=>∃ (s:Sys) (A:Option Addr) (n c:Nat) (t:Sys) (C:Option Addr) (k E:Nat) (p:Aut) (B:Option Addr) (m d:Nat) (D:Option Addr) (Q I:Nat),Tri w wx R (M+200000) 30000 50 w.heap.size (w.heap.size+1) (w.heap.size+1+1) G (G+1+1) (G+1) s A n c t C k E p B m d D Q I)
 case first =>
  by_cases hy:y=0
  ·subst hy;have cu:True:=trivial;have r:G+1≠0:=oM;go_wp2_with fail
   refine (zjL).mono ?_;rintro e w4 ⟨g,rfl,hg,hT,aY⟩;have aH:=aa.ext aY;have hq:=aa.at_.rd.lt;clear aa;have bJ:=aY.size;go_wp2_with fail
   refine (zB aH.at_.rd oM).mono ?_;rintro e w5 ⟨j,rfl,hj,-,bm,aD⟩;have bi:j<9:=by have:=hj oM;omega
   have aI:=aH.drawn aD bm;obtain⟨bt,lt,aS,bj,ag,aU⟩:=hT j bi;have aN:=aD.aa aS (by dsimp only;omega);have x:=zaJ aU aD (fun b h1 e=>oM);have bI:(j:Int)<9:=oM;clear hj hT aS aU aH;have ck:w3.heap.size<=bt:=(x.lt bt rfl).1;obtain⟨bZ,x0,e0,_,_,av,aO⟩:=(eO x).str (show 0<3 by omega);obtain⟨b0,x1,e1,_,_,aw,az⟩:=(eO x).str (show 1<3 by omega);obtain⟨b4,x2,e2,_,_,ax,aA⟩:=(eO x).str (show 2<3 by omega);obtain rfl:=Option.some.inj e0;obtain rfl:=Option.some.inj e1;obtain rfl:=Option.some.inj e2;have bK:=ag.1 x0 (dC av.out);have bL:=ag.1 x1 (dC aw.out);have bM:=ag.2 x2 ax.out;rw [zS,eI] at aO az aA;clear e0 e1 e2 av aw ax ag bj x;go_wp2_with fail
   refine (zbS aI.at_.rd oM).mono ?_;rintro e w6 ⟨s1,A1,n1,c1,ok,rfl,bn,⟨-,bg⟩,cl,hr6,hd6⟩;have cj:=za (show R<w.heap.size from hRl);have l:=aI.drawn hd6 hr6;have F:=l.bs.cell;have fG:=l.bs.frozen;have o:=l.setS bn (by omega:n1<=30000∧n1<=c1);have f1:=zab w6 G (.int .i64 s1.al) (.int .i64 s1.st) (.slice A1 n1 c1);have aZ:=(hd6.aa az (by have:=f.out;have:=Y.out;dsimp only;omega));have ad:=(hd6.aa aA (by have:=f.out;have:=Y.out;dsimp only;omega));have kt:=(hd6.aa aN (by have:=f.out;have:=Y.out;dsimp only;omega));have br:=zjv f1 aZ (by have:=f.out;dsimp only;omega);have a0:=zjv f1 ad (by have:=f.out;dsimp only;omega);clear aO az aA aN aZ ad kt aI l f1 hd6 hr6;go_upto_region 6 with fail
   clear F fG;generalize ((w6.setCell G s1.al).setCell ⟨G,1,none⟩ s1.st).setCell ⟨G,2,none⟩ (.slice A1 n1 c1)=w7 at *;go_wp2_with fail
   refine (zbS o.at_.rd oM).mono ?_;rintro e w8 ⟨s2,A2,n2,d2,cy,rfl,bo,⟨-,bh⟩,cm,aW,aE⟩;have ah:=o.drawn aE aW;have F:=ah.bt.cell;have fG:=ah.bt.frozen;have O:=ah.setT bo (by omega:n2<=30000∧n2<=d2);have f2:=zab w8 (G+1+1) (.int .i64 s2.al) (.int .i64 s2.st) (.slice A2 n2 d2);have ad:=(aE.aa a0 (by have:=f.out;have:=Y.out;dsimp only;omega));have bu:=zjv f2 ad (by have:=f.out;dsimp only;omega);clear br a0 ad o ah f2 aE aW;go_upto_region 7 with fail
   clear F fG;generalize ((w8.setCell ⟨G+1+1,0,none⟩ s2.al).setCell ⟨G+1+1,1,none⟩ s2.st).setCell ⟨G+1+1,2,none⟩ (.slice A2 n2 d2)=w9 at *;go_wp2_with fail
   refine (zdq O.at_.rd oM).mono ?_;rintro e bx ⟨b1,A3,n3,d3,A4,n4,d4,cz,rfl,aT,aR,ar,ap⟩;have co:=O.at_.rd.lt;have ai:=O.drawn ap ar;have F:=(ai.az r).cell;have fG:=(ai.az r).frozen;have V:=ai.setP r (aT.less oM) (BdL.more aR.out oM);clear bu O ai ap ar aT;go_upto_region 8 with fail
   clear F fG;generalize ((bx.setCell ⟨G+1,0,none⟩ b1.al).setCell ⟨G+1,1,none⟩ (.slice A3 n3 d3)).setCell ⟨G+1,2,none⟩ (.slice A4 n4 d4)=cD at *;go_wp2_with fail
   refine (zB V.at_.rd oM).mono ?_;rintro e cE ⟨y,rfl,-,-,au,aq⟩;have a:=V.drawn aq au;clear V au aq;have af:y=0∨y=1∨y=2∨3<=y:=oM;rcases af with hy|hy|hy|hy
   ·subst hy;have F:=a.bs.cell;go_wp2_with fail
    refine (zdS (L:=1001) a.at_.rd oM a.at_.is bg oM oM).mono ?_;rintro e a2 ⟨s5,A5,n5,d5,rfl,aF,bk,z,u⟩;have i:=(a.drawn u z).more (N:=M+200000) (J:=30000) (H:=50) oM oM oM;clear F;have F:=i.bs.cell;have fG:=i.bs.frozen;have o:=i.setS aF (by omega:n5<=30000∧n5<=d5);go_wp2_with fail
    go_meet;exact⟨_,_,_,_,_,_,_,_,_,_,_,_,_,_,_,o⟩
   ·subst hy;have F:=a.bt.cell;go_wp2_with fail
    refine (zdS (L:=1001) a.at_.rd oM a.at_.it bh oM oM).mono ?_;rintro e a2 ⟨s5,A5,n5,d5,rfl,aF,bk,z,u⟩;have i:=(a.drawn u z).more (N:=M+200000) (J:=30000) (H:=50) oM oM oM;clear F;have F:=i.bt.cell;have fG:=i.bt.frozen;have o:=i.setT aF (by omega:n5<=30000∧n5<=d5);go_wp2_with fail
    go_meet;exact⟨_,_,_,_,_,_,_,_,_,_,_,_,_,_,_,o⟩
   ·subst hy;have F:=(a.az r).cell;go_wp2_with fail
    refine (zjP (L:=x2.size+1) a.at_.rd oM a.at_.ip aR.out oM).mono ?_;rintro e a2 ⟨b5,A5,n5,d5,A6,n6,d6,rfl,bl,bf,z,u⟩;have hq:=a.at_.rd.lt;have i:=(a.drawn u z).more (N:=M+200000) (J:=30000) (H:=50) oM oM oM;clear F;have F:=(i.az r).cell;have fG:=(i.az r).frozen;have o:=i.setP r (bl.less oM) (BdL.more bf.out oM);go_wp2_with fail
    go_meet;exact⟨_,_,_,_,_,_,_,_,_,_,_,_,_,_,_,o⟩
   ·have h0:((y:Int)==0)=false:=by simp;omega
    have h1:((y:Int)==1)=false:=by simp;omega
    have h2:((y:Int)==2)=false:=by simp;omega
    go_wp2_with fail
    go_meet;exact⟨_,_,_,_,_,_,_,_,_,_,_,_,_,_,_,a.more oM oM oM⟩
  ·have cr:((y:Int)==0)=false:=by simp;omega
   go_wp2_with fail
   go_meet;exact⟨_,_,_,_,_,_,_,_,_,_,_,_,_,_,_,aa.more oM oM oM⟩
 case rest =>
  clear aa;obtain⟨s,A,n,c,t,C,k,E,p,B,m,d,D,Q,I,S⟩:=hcut;have r:G+1≠0:=oM;have Z:Hid (G+3<=wc.heap.size∧w.heap.size+3<=G):=za ⟨by have:=(S.bt).lt;omega,Y.out⟩;obtain⟨wE,bq⟩:∃ wE,wE=wc:=⟨_,rfl⟩;subst bq;have cS:∀ W,Frm (fun k=>k=w.heap.size∨k=w.heap.size+1) wE W->∀ q,W.cell? ⟨G,q,none⟩=#[Value.int .i64 s.al,.int .i64 s.st,.slice A n c][q]?:=fun W hW=>(S.bs.frm hW (oH Z.out)).cell;have cT:∀ W,Frm (fun k=>k=w.heap.size∨k=w.heap.size+1) wE W->∀ q,W.cell? ⟨G+1+1,q,none⟩=#[Value.int .i64 t.al,.int .i64 t.st,.slice C k E][q]?:=fun W hW=>(S.bt.frm hW (oH Z.out)).cell;have cP:∀ W,Frm (fun k=>k=w.heap.size∨k=w.heap.size+1) wE W->∀ q,W.cell? ⟨G+1,q,none⟩=#[Value.int .i64 p.al,.slice B m d,.slice D Q I][q]?:=fun W hW=>((S.az r).frm hW (oH Z.out)).cell;have aP:Frm (fun k=>k=w.heap.size∨k=w.heap.size+1) wE wE.drew:=(dB wE).drew.aj;have l:=S.ext (dB wE).drew;go_wp2_with fail
  refine tR (fun X=>Frm (fun k=>k=w.heap.size∨k=w.heap.size+1) wE X) [5] (Ord.of [0,1,2,3,4,5]) ?_;refine tQ ?_;generalize hwD:wE.drew=wD at *;clear hwD;have ha:=l.at_;have zs:=l.zs;have zt:=l.zt;have zp:=l.zp;have cs:=zs.cell;have fs:=zs.frozen;clear l S;refine zD fun K hK=>?_;go_simp;have q1:=zao zs rfl (.int .i64 s.al) (.int .i64 s.st) (.slice A n c);have e1:=zab wD w.heap.size (.int .i64 s.al) (.int .i64 s.st) (.slice A n c);replace ha:=ha.far zs e1 oM dM dM;replace zt:=zt.frm e1 oM;replace zp:=zp.frm e1 oM;have aB:=aP.trans (e1.mono (T:=fun k=>k=w.heap.size∨k=w.heap.size+1) (fun k _ hk=>.inl hk));refine hK.out _ _ aB ?_;refine pT ?_;clear cs fs zs e1;generalize ((wD.setCell w.heap.size s.al).setCell ⟨w.heap.size,1,none⟩ s.st).setCell ⟨w.heap.size,2,none⟩ (.slice A n c)=wA at *;have ct:=zt.cell;have ft:=zt.frozen;refine zD fun K hK=>?_;go_simp;have q2:=zao zt rfl (.int .i64 t.al) (.int .i64 t.st) (.slice C k E);have e2:=zab wA (w.heap.size+1) (.int .i64 t.al) (.int .i64 t.st) (.slice C k E);replace ha:=ha.far zt e2 oM dM dM;replace zp:=zp.frm e2 oM;replace q1:=q1.frm e2 oM;have aQ:=aB.trans (e2.mono (T:=fun k=>k=w.heap.size∨k=w.heap.size+1) (fun k _ hk=>.inr hk));refine hK.out _ _ aQ ?_;refine pT ?_;clear ct ft zt e2 aB;generalize ((wA.setCell ⟨w.heap.size+1,0,none⟩ t.al).setCell ⟨w.heap.size+1,1,none⟩ t.st).setCell ⟨w.heap.size+1,2,none⟩ (.slice C k E)=wB at *;have cp:=zp.cell;have fp:=zp.frozen;refine zP fun K hK=>?_;go_simp;have q3:=zao zp rfl (.int .i64 p.al) (.slice B m d) (.slice D Q I);have e3:=zab wB (w.heap.size+1+1) (.int .i64 p.al) (.slice B m d) (.slice D Q I);replace ha:=ha.far zp e3 oM dM dM;replace q1:=q1.frm e3 oM;replace q2:=q2.frm e3 oM;refine hK.out _ _ ?_;refine zag ?_;clear cp fp zp e3 aQ aP cS cT cP;generalize ((wB.setCell ⟨w.heap.size+1+1,0,none⟩ p.al).setCell ⟨w.heap.size+1+1,1,none⟩ (.slice B m d)).setCell ⟨w.heap.size+1+1,2,none⟩ (.slice D Q I)=wC at *;have be:=za ha;clear ha;go_wp2_with fail
  have c1:=q1.cell;have bb:=q2.cell;have c3:=q3.cell;exact bodyPost_ret (v:=.tuple #[.agg #[s.al,s.st,.slice A n c],.agg #[t.al,t.st,.slice C k E],.agg #[p.al,.slice B m d,.slice D Q I]]) (by simp [results,Tryz.results110,go_sem,c1,bb,c3]) rfl ⟨s,A,n,c,t,C,k,E,p,B,m,d,D,Q,I,rfl,be.out⟩
theorem vcT_none (h:three ss p=false):vcT ss p=⟨3,noA,noA,⟨#[]⟩,0⟩:=by
 unfold vcT;split
 ·rename_i x y z;have:zay [x,y,z] p = -1:=by unfold zay;rw [h];rfl
  rw [this];rfl
 ·rfl
theorem spec_VerifyChainA {hi lo1 hi1:Nat}   (h:zep w lo hi A n ss)(hp:zH w lo1 hi1 B m B' m' p)(hhi:hi<=w.heap.size)(hhi1:hi1<=w.heap.size) :
  Calls Tryz.prog 29 #[.slice A n c,.agg #[p.al,.slice B m d,.slice B' m' d']] w (zhB w (vcT ss p)):=by
 cases h3:three ss p
 ·rw [vcT_none h3];exact zgK h hp h3
 ·obtain⟨x,y,z,rfl⟩:=zaQ h3;obtain⟨q,a,f⟩:=zfi h3;have e:vcT [x,y,z] p=chT x y z p q 12 0 ((zaa q (zo x p q) [⟨#[]⟩] 11 [⟨#[]⟩]).map fun r=>(r,[⟨#[]⟩])):=by
   unfold vcT;dsimp only;rw [a,if_pos oM,Int.toNat_natCast]
  rw [e];obtain rfl:n=3:=h.1;obtain⟨b,o,s,i,g,j,rfl,_,_,_⟩:=h.sys (k:=0) oM;exact zgL h hp h3 a oM hhi hhi1
theorem spec_DrawVerifyChain (h:Bytes w A n)(hn:n<=9223372036854775807)(hc:n<=c)(hc2:c<=9223372036854775807) :
  Calls Tryz.prog 37 #[.slice A n c] w (RetDC w):=by
 have d:=(dB w).alloc (.cells #[(0:Int),(),()] 31);have t:=za (h.ext d);clear h
 go_enter Tryz.func37,Tryz.ntmps37
 go_wp2_with fail
 generalize U0:w.alloc _=E at *;have bz:=eJ U0;have z:=bz.lt;clear U0;refine (zgV t.out hn hc hc2).mono ?_;rintro e F ⟨R,rfl,D,m,f⟩;have j:=d.trans f;have i:=bz.ext f;go_wp2_with fail
 refine (spec_l14Any m oM).mono ?_;rintro e G ⟨l,k,g,c,b,A,n,q,A',n',r,x,u,rfl,o,y,s⟩;have a:=i.dr o.dr oM;have B:=a.cell;have C:=a.frozen;obtain⟨f1,f2⟩:=draw_cl x.out u o y s.out oM j a rfl;have p:=za f1;clear f1 bz i d f;go_wp2_with fail
 have cf:=f2.cell;exact bodyPost_ret (v:=.tuple #[.slice (some g) k c,.agg #[b.al,.slice A n q,.slice A' n' r]]) (by simp [results,Tryz.results37,go_sem,cf]) rfl p.out
end Go.Proofs.YtcfchopfijalpaaGreatDoor
