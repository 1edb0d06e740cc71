/- Two systems and a property that were drawn: where they lie. It holds of every program. | spec.l8Property, walked. | Two variables that hold systems which were drawn. They hold of every program, without conditions. | spec.l6Pair, walked. | spec.l15Pair and what the laws on simulation draw, walked. | spec.l2Small, walked. | spec.l9Three and spec.l9Spoil, by their shape. | spec.l6Change at any system of few states, walked (XDraw7's walk, without a state at the least). | spec.l19Cut at commas, walked (printed from XCut). | spec.l3Parse, by its shape, walked. | Contracts: validity of automata. | -/
import Derived.Test.YtndhahednhnnbaaGreatDoorM03
import Derived.Test.YtndhahednhnnbaaGreatDoorM02
import Derived.Test.YtndhahednhnnbaaGreatDoorM01
import Derived.Deep.DeepCutAuto
namespace Go.Proofs.YtndhahednhnnbaaGreatDoor
open Go Go.RowKit
set_option maxHeartbeats 2000000
theorem Dr.far {R Z:Nat} {a b c:World}(h:Dr R a b)(hf:Frm (fun k=>k=Z) b c)(hZ:a.heap.size≤Z):Dr R a c:=
 ⟨hf.os.trans h.os,hf.tape.trans h.tape,hf.output.trans h.output,Nat.le_trans h.size hf.size,fun k hk hn=>(hf.block k (Nat.lt_of_lt_of_le hk h.size) (fun e=>by omega)).trans (h.block k hk hn)⟩
theorem zZ (W:World) (Z:Nat) (u0 u1 u2:Value):Frm (fun k=>k=Z) W (((W.setCell ⟨Z,0,none⟩ u0).setCell ⟨Z,1,none⟩ u1).setCell ⟨Z,2,none⟩ u2):=
 ((Frm.setCell W Z 0 u0).trans (Frm.setCell _ Z 1 u1)).trans (Frm.setCell _ Z 2 u2)
theorem zap {w:World} {Z:Nat} {cs:Array Value} {t:TypeId}(h:Blk w Z t cs)(hc:cs.size=3) (u0 u1 u2:Value):Blk (((w.setCell ⟨Z,0,none⟩ u0).setCell ⟨Z,1,none⟩ u1).setCell ⟨Z,2,none⟩ u2) Z t #[u0,u1,u2]:=by
 obtain⟨l⟩:=cs
 match l,hc with
 |[a,b,c],_=>simpa using ((h.set_ 0 u0).set_ 1 u1).set_ 2 u2
def autZ:Aut:=⟨0,[],[]⟩
theorem zgS (w:World) (base:Nat):zT w base none 0 0 none 0 0 autZ:=⟨⟨[],World.ownsRow_nil _ _ _ _,zF.nil _ _⟩,rfl,World.ownsRow_nil _ _ _ _,rfl⟩
theorem bd_autZ (K:Nat):BdA K autZ:=⟨Nat.zero_le _,Nat.zero_le _,fun l hl=>by simp [autZ] at hl⟩
structure zbl (w0 W:World) (R M L K:Nat) (s:Sys) (A:Option Addr) (n c:Nat) (t:Sys) (C:Option Addr) (k c2:Nat) (p:Aut) (B:Option Addr) (m d:Nat) (B':Option Addr) (m' d':Nat):Prop where
 is:zau W R A n s
 it:zau W R C k t
 ip:zT W (R+1) B m d B' m' d' p
 ns:(n≤L∧n≤c)∧(k≤L∧k≤c2)
 bd:Hid (BdA K p)
 rd:Rd W R M
 dr:Dr R w0 W
 hR:R<w0.heap.size
section
variable {w0 W W':World} {R M L K N J H Z n c k c2 m d m' d':Nat} {s t:Sys} {p:Aut} {A B B' C:Option Addr}
theorem zbl.drawn (h:zbl w0 W R M L K s A n c t C k c2 p B m d B' m' d')(hd:Dr R W W')(hr:Rd W' R N):zbl w0 W' R N L K s A n c t C k c2 p B m d B' m' d':=
 ⟨h.is.dr hd,h.it.dr hd,h.ip.keep hd (fun b h1 e=>by omega),h.ns,h.bd,hr,h.dr.trans hd,h.hR⟩
theorem zbl.ext (h:zbl w0 W R M L K s A n c t C k c2 p B m d B' m' d')(hx:Ext W W'):zbl w0 W' R M L K s A n c t C k c2 p B m d B' m' d':=h.drawn hx.dr (h.rd.ext hx)
theorem zbl.more (h:zbl w0 W R M L K s A n c t C k c2 p B m d B' m' d')(hM:M≤N)(hL:L≤J)(hK:K≤H):zbl w0 W R N J H s A n c t C k c2 p B m d B' m' d':=
 ⟨h.is,h.it,h.ip,by have:=h.ns;omega,hide (BdL.more h.bd.out hK),h.rd.more hM,h.dr,h.hR⟩
theorem zbl.far {ty:TypeId} {cs:Array Value}(h:zbl w0 W R M L K s A n c t C k c2 p B m d B' m' d')(hB:Blk W Z ty cs)(hf:Frm (fun k=>k=Z) W W')(hZ:w0.heap.size≤Z)(h1:ty≠126)(h2:ty≠3∧ty≠71∧ty≠4):zbl w0 W' R M L K s A n c t C k c2 p B m d B' m' d':=
 ⟨h.is.far hB h1 hf,h.it.far hB h1 hf,h.ip.farT hB hf h2,h.ns,h.bd,h.rd.frm hf (fun k hk e=>by have:=h.hR;omega),h.dr.far hf hZ,h.hR⟩
theorem zbl.less {w1:World}(h:zbl w0 W R M L K s A n c t C k c2 p B m d B' m' d')(hd:Dr R w1 w0)(hR:R<w1.heap.size):zbl w1 W R M L K s A n c t C k c2 p B m d B' m' d':=
 ⟨h.is,h.it,h.ip,h.ns,h.bd,h.rd,hd.trans h.dr,hR⟩
end
def Ne6 (a b c d e f:Nat):Prop:=(a≠b∧a≠c∧a≠d∧a≠e∧a≠f)∧(b≠c∧b≠d∧b≠e∧b≠f)∧(c≠d∧c≠e∧c≠f)∧(d≠e∧d≠f)∧e≠f
structure Tri (w0 W:World) (R M L K:Nat) (Zs Zt Zp Gs Gt Gp:Nat) (s:Sys) (A:Option Addr) (n c:Nat) (t:Sys) (C:Option Addr) (k c2:Nat) (p:Aut) (B:Option Addr) (m d:Nat) (B':Option Addr) (m' d':Nat):Prop where
 at_:zbl w0 W R M L K s A n c t C k c2 p B m d B' m' d'
 zs:Blk W Zs 39 #[.int .i64 0,.int .i64 0,.slice none 0 0]
 zt:Blk W Zt 39 #[.int .i64 0,.int .i64 0,.slice none 0 0]
 zp:Blk W Zp 27 #[.int .i64 0,.slice none 0 0,.slice none 0 0]
 bs:Blk W Gs 39 #[.int .i64 s.al,.int .i64 s.st,.slice A n c]
 bt:Blk W Gt 39 #[.int .i64 t.al,.int .i64 t.st,.slice C k c2]
 bp:Gp=0∨Blk W Gp 27 #[.int .i64 p.al,.slice B m d,.slice B' m' d']
 ge:w0.heap.size≤Zs∧w0.heap.size≤Zt∧w0.heap.size≤Zp∧w0.heap.size≤Gs∧w0.heap.size≤Gt∧(Gp=0∨w0.heap.size≤Gp)
 ne:Hid (Ne6 Zs Zt Zp Gs Gt Gp)
section
variable {w0 W W':World} {R M L K N J H n c k c2 m d m' d' Zs Zt Zp Gs Gt Gp:Nat} {s t:Sys} {p:Aut} {A B B' C:Option Addr}
theorem Tri.drawn (h:Tri w0 W R M L K Zs Zt Zp Gs Gt Gp s A n c t C k c2 p B m d B' m' d')(hd:Dr R W W')(hr:Rd W' R N):Tri w0 W' R N L K Zs Zt Zp Gs Gt Gp s A n c t C k c2 p B m d B' m' d':=by
 have hR:=h.at_.hR
 have hg:=h.ge
 exact⟨h.at_.drawn hd hr,h.zs.dr hd (by omega),h.zt.dr hd (by omega),h.zp.dr hd (by omega),h.bs.dr hd (by omega),h.bt.dr hd (by omega),by
  rcases hg.2.2.2.2.2 with e|e
  ·exact .inl e
  ·exact h.bp.imp id (fun b=>b.dr hd (by omega)),hg,h.ne⟩
theorem Tri.ext (h:Tri w0 W R M L K Zs Zt Zp Gs Gt Gp s A n c t C k c2 p B m d B' m' d')(hx:Ext W W'):Tri w0 W' R M L K Zs Zt Zp Gs Gt Gp s A n c t C k c2 p B m d B' m' d':=h.drawn hx.dr (h.at_.rd.ext hx)
theorem Tri.more (h:Tri w0 W R M L K Zs Zt Zp Gs Gt Gp s A n c t C k c2 p B m d B' m' d')(hM:M≤N)(hL:L≤J)(hK:K≤H):Tri w0 W R N J H Zs Zt Zp Gs Gt Gp s A n c t C k c2 p B m d B' m' d':={ h with at_:=h.at_.more hM hL hK }
theorem Tri.pvar (h:Tri w0 W R M L K Zs Zt Zp Gs Gt Gp s A n c t C k c2 p B m d B' m' d')(hG:Gp≠0):Blk W Gp 27 #[.int .i64 p.al,.slice B m d,.slice B' m' d']:=h.bp.resolve_left hG
theorem Tri.setS {s2:Sys} {A2:Option Addr} {n2 d2:Nat}(h:Tri w0 W R M L K Zs Zt Zp Gs Gt Gp s A n c t C k c2 p B m d B' m' d')(hs:zau W R A2 n2 s2)(hn:n2≤L∧n2≤d2) :
  Tri w0 (((W.setCell ⟨Gs,0,none⟩ (.int .i64 s2.al)).setCell ⟨Gs,1,none⟩ (.int .i64 s2.st)).setCell ⟨Gs,2,none⟩ (.slice A2 n2 d2)) R M L K Zs Zt Zp Gs Gt Gp s2 A2 n2 d2 t C k c2 p B m d B' m' d':=by
 have hf:=zZ W Gs (.int .i64 s2.al) (.int .i64 s2.st) (.slice A2 n2 d2)
 obtain⟨⟨a1,a2,a3,a4,a5⟩,⟨b1,b2,b3,b4⟩,⟨c1,c2,c3⟩,⟨d1,d2'⟩,e1⟩:=h.ne.out
 have h1:=h.at_.far h.bs hf h.ge.2.2.2.1 (by decide) (by decide)
 exact⟨{ h1 with is:=hs.far h.bs (by decide) hf,ns:=⟨hn,h1.ns.2⟩ },h.zs.frm hf (by omega),h.zt.frm hf (by omega),h.zp.frm hf (by omega),zap h.bs rfl _ _ _,h.bt.frm hf (by omega),h.bp.imp id (fun b=>b.frm hf (by omega)),h.ge,h.ne⟩
theorem Tri.setT {s2:Sys} {A2:Option Addr} {n2 d2:Nat}(h:Tri w0 W R M L K Zs Zt Zp Gs Gt Gp s A n c t C k c2 p B m d B' m' d')(hs:zau W R A2 n2 s2)(hn:n2≤L∧n2≤d2) :
  Tri w0 (((W.setCell ⟨Gt,0,none⟩ (.int .i64 s2.al)).setCell ⟨Gt,1,none⟩ (.int .i64 s2.st)).setCell ⟨Gt,2,none⟩ (.slice A2 n2 d2)) R M L K Zs Zt Zp Gs Gt Gp s A n c s2 A2 n2 d2 p B m d B' m' d':=by
 have hf:=zZ W Gt (.int .i64 s2.al) (.int .i64 s2.st) (.slice A2 n2 d2)
 obtain⟨⟨a1,a2,a3,a4,a5⟩,⟨b1,b2,b3,b4⟩,⟨c1,c2,c3⟩,⟨d1,d2'⟩,e1⟩:=h.ne.out
 have h1:=h.at_.far h.bt hf h.ge.2.2.2.2.1 (by decide) (by decide)
 exact⟨{ h1 with it:=hs.far h.bt (by decide) hf,ns:=⟨h1.ns.1,hn⟩ },h.zs.frm hf (by omega),h.zt.frm hf (by omega),h.zp.frm hf (by omega),h.bs.frm hf (by omega),zap h.bt rfl _ _ _,h.bp.imp id (fun b=>b.frm hf (by omega)),h.ge,h.ne⟩
theorem Tri.setP {p2:Aut} {A2:Option Addr} {n2 d2:Nat} {A3:Option Addr} {n3 d3:Nat}(h:Tri w0 W R M L K Zs Zt Zp Gs Gt Gp s A n c t C k c2 p B m d B' m' d')(hG:Gp≠0)(hp:zT W (R+1) A2 n2 d2 A3 n3 d3 p2)(hb:BdA K p2) :
  Tri w0 (((W.setCell ⟨Gp,0,none⟩ (.int .i64 p2.al)).setCell ⟨Gp,1,none⟩ (.slice A2 n2 d2)).setCell ⟨Gp,2,none⟩ (.slice A3 n3 d3)) R M L K Zs Zt Zp Gs Gt Gp s A n c t C k c2 p2 A2 n2 d2 A3 n3 d3:=by
 have hf:=zZ W Gp (.int .i64 p2.al) (.slice A2 n2 d2) (.slice A3 n3 d3)
 obtain⟨⟨a1,a2,a3,a4,a5⟩,⟨b1,b2,b3,b4⟩,⟨c1,c2,c3⟩,⟨d1,d2'⟩,e1⟩:=h.ne.out
 have hB:=h.pvar hG
 have h1:=h.at_.far hB hf (h.ge.2.2.2.2.2.resolve_left hG) (by decide) (by decide)
 exact⟨{ h1 with ip:=hp.farT hB hf (by decide),bd:=hide hb },h.zs.frm hf (by omega),h.zt.frm hf (by omega),h.zp.frm hf (by omega),h.bs.frm hf (by omega),h.bt.frm hf (by omega),.inr (zap hB rfl _ _ _),h.ge,h.ne⟩
end
def RetSTP (R M L K:Nat) (w:World) (e:Ending) (w':World):Prop:=
 ∃ (s:Sys) (A:Option Addr) (n c:Nat) (t:Sys) (C:Option Addr) (k c2:Nat) (p:Aut) (B:Option Addr) (m d:Nat) (B':Option Addr) (m' d':Nat),
  e=.returned (.tuple #[.agg #[.int .i64 s.al,.int .i64 s.st,.slice A n c],.agg #[.int .i64 t.al,.int .i64 t.st,.slice C k c2],.agg #[.int .i64 p.al,.slice B m d,.slice B' m' d']])∧zbl w w' R M L K s A n c t C k c2 p B m d B' m' d'
def RetSPT (R M L K:Nat) (w:World) (e:Ending) (w':World):Prop:=
 ∃ (s:Sys) (A:Option Addr) (n c:Nat) (t:Sys) (C:Option Addr) (k c2:Nat) (p:Aut) (B:Option Addr) (m d:Nat) (B':Option Addr) (m' d':Nat),
  e=.returned (.tuple #[.agg #[.int .i64 s.al,.int .i64 s.st,.slice A n c],.agg #[.int .i64 p.al,.slice B m d,.slice B' m' d'],.agg #[.int .i64 t.al,.int .i64 t.st,.slice C k c2]])∧zbl w w' R M L K s A n c t C k c2 p B m d B' m' d'
section
variable {w0 W:World} {R M L K N J H n c k c2 m d m' d' Zs Zt Zp:Nat} {s t:Sys} {p:Aut} {A B B' C:Option Addr} {us ut up:Array Value}
theorem zbl.finSTP (h:zbl w0 W R M L K s A n c t C k c2 p B m d B' m' d') (zs:Blk W Zs 39 us) (zt:Blk W Zt 39 ut) (zp:Blk W Zp 27 up)(h1:us.size=3)(h2:ut.size=3)(h3:up.size=3)(hz1:w0.heap.size≤Zs)(hz2:w0.heap.size≤Zt)(hz3:w0.heap.size≤Zp) (e1:Zs≠Zt) (e2:Zs≠Zp) (e3:Zt≠Zp) :
  Hid (zbl w0 (((((((((W.setCell ⟨Zs,0,none⟩ (.int .i64 s.al)).setCell ⟨Zs,1,none⟩ (.int .i64 s.st)).setCell ⟨Zs,2,none⟩ (.slice A n c)).setCell ⟨Zt,0,none⟩ (.int .i64 t.al)).setCell ⟨Zt,1,none⟩ (.int .i64 t.st)).setCell ⟨Zt,2,none⟩ (.slice C k c2)).setCell ⟨Zp,0,none⟩ (.int .i64 p.al)).setCell ⟨Zp,1,none⟩ (.slice B m d)).setCell ⟨Zp,2,none⟩ (.slice B' m' d')) R M L K s A n c t C k c2 p B m d B' m' d') ∧
  Hid (Blk (((((((((W.setCell ⟨Zs,0,none⟩ (.int .i64 s.al)).setCell ⟨Zs,1,none⟩ (.int .i64 s.st)).setCell ⟨Zs,2,none⟩ (.slice A n c)).setCell ⟨Zt,0,none⟩ (.int .i64 t.al)).setCell ⟨Zt,1,none⟩ (.int .i64 t.st)).setCell ⟨Zt,2,none⟩ (.slice C k c2)).setCell ⟨Zp,0,none⟩ (.int .i64 p.al)).setCell ⟨Zp,1,none⟩ (.slice B m d)).setCell ⟨Zp,2,none⟩ (.slice B' m' d')) Zs 39 #[.int .i64 s.al,.int .i64 s.st,.slice A n c] ∧
  Blk (((((((((W.setCell ⟨Zs,0,none⟩ (.int .i64 s.al)).setCell ⟨Zs,1,none⟩ (.int .i64 s.st)).setCell ⟨Zs,2,none⟩ (.slice A n c)).setCell ⟨Zt,0,none⟩ (.int .i64 t.al)).setCell ⟨Zt,1,none⟩ (.int .i64 t.st)).setCell ⟨Zt,2,none⟩ (.slice C k c2)).setCell ⟨Zp,0,none⟩ (.int .i64 p.al)).setCell ⟨Zp,1,none⟩ (.slice B m d)).setCell ⟨Zp,2,none⟩ (.slice B' m' d')) Zt 39 #[.int .i64 t.al,.int .i64 t.st,.slice C k c2] ∧
  Blk (((((((((W.setCell ⟨Zs,0,none⟩ (.int .i64 s.al)).setCell ⟨Zs,1,none⟩ (.int .i64 s.st)).setCell ⟨Zs,2,none⟩ (.slice A n c)).setCell ⟨Zt,0,none⟩ (.int .i64 t.al)).setCell ⟨Zt,1,none⟩ (.int .i64 t.st)).setCell ⟨Zt,2,none⟩ (.slice C k c2)).setCell ⟨Zp,0,none⟩ (.int .i64 p.al)).setCell ⟨Zp,1,none⟩ (.slice B m d)).setCell ⟨Zp,2,none⟩ (.slice B' m' d')) Zp 27 #[.int .i64 p.al,.slice B m d,.slice B' m' d']):=by
 have f1:=zZ W Zs (.int .i64 s.al) (.int .i64 s.st) (.slice A n c)
 have q1:=zap zs h1 (.int .i64 s.al) (.int .i64 s.st) (.slice A n c)
 replace h:=h.far zs f1 hz1 (by decide) (by decide)
 replace zt:=zt.frm f1 (by omega)
 replace zp:=zp.frm f1 (by omega)
 clear f1 zs
 generalize ((W.setCell ⟨Zs,0,none⟩ (.int .i64 s.al)).setCell ⟨Zs,1,none⟩ (.int .i64 s.st)).setCell ⟨Zs,2,none⟩ (.slice A n c)=W1 at *
 have f2:=zZ W1 Zt (.int .i64 t.al) (.int .i64 t.st) (.slice C k c2)
 have q2:=zap zt h2 (.int .i64 t.al) (.int .i64 t.st) (.slice C k c2)
 replace h:=h.far zt f2 hz2 (by decide) (by decide)
 replace q1:=q1.frm f2 (by omega)
 replace zp:=zp.frm f2 (by omega)
 clear f2 zt
 generalize ((W1.setCell ⟨Zt,0,none⟩ (.int .i64 t.al)).setCell ⟨Zt,1,none⟩ (.int .i64 t.st)).setCell ⟨Zt,2,none⟩ (.slice C k c2)=W2 at *
 have f3:=zZ W2 Zp (.int .i64 p.al) (.slice B m d) (.slice B' m' d')
 exact⟨hide (h.far zp f3 hz3 (by decide) (by decide)),hide ⟨q1.frm f3 (by omega),q2.frm f3 (by omega),zap zp h3 _ _ _⟩⟩
theorem zbl.finSPT (h:zbl w0 W R M L K s A n c t C k c2 p B m d B' m' d') (zs:Blk W Zs 39 us) (zt:Blk W Zt 39 ut) (zp:Blk W Zp 27 up)(h1:us.size=3)(h2:ut.size=3)(h3:up.size=3)(hz1:w0.heap.size≤Zs)(hz2:w0.heap.size≤Zt)(hz3:w0.heap.size≤Zp) (e1:Zs≠Zt) (e2:Zs≠Zp) (e3:Zt≠Zp) :
  Hid (zbl w0 (((((((((W.setCell ⟨Zs,0,none⟩ (.int .i64 s.al)).setCell ⟨Zs,1,none⟩ (.int .i64 s.st)).setCell ⟨Zs,2,none⟩ (.slice A n c)).setCell ⟨Zp,0,none⟩ (.int .i64 p.al)).setCell ⟨Zp,1,none⟩ (.slice B m d)).setCell ⟨Zp,2,none⟩ (.slice B' m' d')).setCell ⟨Zt,0,none⟩ (.int .i64 t.al)).setCell ⟨Zt,1,none⟩ (.int .i64 t.st)).setCell ⟨Zt,2,none⟩ (.slice C k c2)) R M L K s A n c t C k c2 p B m d B' m' d') ∧
  Hid (Blk (((((((((W.setCell ⟨Zs,0,none⟩ (.int .i64 s.al)).setCell ⟨Zs,1,none⟩ (.int .i64 s.st)).setCell ⟨Zs,2,none⟩ (.slice A n c)).setCell ⟨Zp,0,none⟩ (.int .i64 p.al)).setCell ⟨Zp,1,none⟩ (.slice B m d)).setCell ⟨Zp,2,none⟩ (.slice B' m' d')).setCell ⟨Zt,0,none⟩ (.int .i64 t.al)).setCell ⟨Zt,1,none⟩ (.int .i64 t.st)).setCell ⟨Zt,2,none⟩ (.slice C k c2)) Zs 39 #[.int .i64 s.al,.int .i64 s.st,.slice A n c] ∧
  Blk (((((((((W.setCell ⟨Zs,0,none⟩ (.int .i64 s.al)).setCell ⟨Zs,1,none⟩ (.int .i64 s.st)).setCell ⟨Zs,2,none⟩ (.slice A n c)).setCell ⟨Zp,0,none⟩ (.int .i64 p.al)).setCell ⟨Zp,1,none⟩ (.slice B m d)).setCell ⟨Zp,2,none⟩ (.slice B' m' d')).setCell ⟨Zt,0,none⟩ (.int .i64 t.al)).setCell ⟨Zt,1,none⟩ (.int .i64 t.st)).setCell ⟨Zt,2,none⟩ (.slice C k c2)) Zt 39 #[.int .i64 t.al,.int .i64 t.st,.slice C k c2] ∧
  Blk (((((((((W.setCell ⟨Zs,0,none⟩ (.int .i64 s.al)).setCell ⟨Zs,1,none⟩ (.int .i64 s.st)).setCell ⟨Zs,2,none⟩ (.slice A n c)).setCell ⟨Zp,0,none⟩ (.int .i64 p.al)).setCell ⟨Zp,1,none⟩ (.slice B m d)).setCell ⟨Zp,2,none⟩ (.slice B' m' d')).setCell ⟨Zt,0,none⟩ (.int .i64 t.al)).setCell ⟨Zt,1,none⟩ (.int .i64 t.st)).setCell ⟨Zt,2,none⟩ (.slice C k c2)) Zp 27 #[.int .i64 p.al,.slice B m d,.slice B' m' d']):=by
 have f1:=zZ W Zs (.int .i64 s.al) (.int .i64 s.st) (.slice A n c)
 have q1:=zap zs h1 (.int .i64 s.al) (.int .i64 s.st) (.slice A n c)
 replace h:=h.far zs f1 hz1 (by decide) (by decide)
 replace zt:=zt.frm f1 (by omega)
 replace zp:=zp.frm f1 (by omega)
 clear f1 zs
 generalize ((W.setCell ⟨Zs,0,none⟩ (.int .i64 s.al)).setCell ⟨Zs,1,none⟩ (.int .i64 s.st)).setCell ⟨Zs,2,none⟩ (.slice A n c)=W1 at *
 have f2:=zZ W1 Zp (.int .i64 p.al) (.slice B m d) (.slice B' m' d')
 have q2:=zap zp h3 (.int .i64 p.al) (.slice B m d) (.slice B' m' d')
 replace h:=h.far zp f2 hz3 (by decide) (by decide)
 replace q1:=q1.frm f2 (by omega)
 replace zt:=zt.frm f2 (by omega)
 clear f2 zp
 generalize ((W1.setCell ⟨Zp,0,none⟩ (.int .i64 p.al)).setCell ⟨Zp,1,none⟩ (.slice B m d)).setCell ⟨Zp,2,none⟩ (.slice B' m' d')=W2 at *
 have f3:=zZ W2 Zt (.int .i64 t.al) (.int .i64 t.st) (.slice C k c2)
 exact⟨hide (h.far zt f3 hz2 (by decide) (by decide)),hide ⟨q1.frm f3 (by omega),zap zt h2 _ _ _,q2.frm f3 (by omega)⟩⟩
end
set_option maxHeartbeats 400000
theorem bits_all (y:Nat)(hy:y<64):bits .and .i64 (-1) (y:Int)=(y:Int):=
 (show ∀ y:Fin 64,bits .and .i64 (-1) ((y.val:Nat):Int)=((y.val:Nat):Int) by decide +kernel) ⟨y,hy⟩
theorem yM04a3 {P:Prop}(h:P:=by
 obtain⟨f1,f2⟩:=zgA (N:=M+600) (sh:=zeT) hxz hown hsh.out hr6 hd6 bz rfl hRl (Nat.le_refl _) (Nat.le_refl _)
 have bz5:=bz.dr hd6 (by omega)
 have cZ:=bz5.cell
 have fZ:=bz5.frozen
 go_wp2_with fail
 have cf:=f2.cell
 exact bodyPost_ret (v:=.agg #[.int .i64 b.al,.slice A n c,.slice A' n' c']) (by simp [results,Tryz.results138,go_sem,cf]) rfl f1.out
 ):P:=h
set_option maxRecDepth 100000 in
theorem zfc {R M:Nat} {zz:Int} {w:World}(h:Rd w R M)(hM:M≤700000000)(ha:(∃ a:Nat,zz=(a:Int)∧a<64)∨zz = -1) :
  Calls Tryz.prog 138 #[.pointer (some ⟨R,0,none⟩),.int .i64 zz] w (zeU R (M+600) zeT w):=by
 have hRl:=h.lt
 go_enter Tryz.func138,Tryz.ntmps138
 have hxz:=(Ext.refl w).alloc (.cells #[.int .i64 0,.slice none 0 0,.slice none 0 0] 27)
 have bz:=Blk.new w 27 #[.int .i64 0,.slice none 0 0,.slice none 0 0]
 have hsz:(w.alloc (.cells #[.int .i64 0,.slice none 0 0,.slice none 0 0] 27)).heap.size=w.heap.size+1:=by simp
 go_wp2_with fail
 rw [← hsz]
 generalize w.alloc (.cells #[.int .i64 0,.slice none 0 0,.slice none 0 0] 27)=w1 at *
 refine (zaG [63,63,5,3,6] 5 #[.int .i64 63,.int .i64 63,.int .i64 5,.int .i64 3,.int .i64 6] rfl rfl (by omega) (by omega) (h.ext hxz) (by omega)).mono ?_
 rintro e w2 ⟨x,hx,rfl,hr2,hd2⟩
 obtain⟨y,hy,rfl⟩:∃ y:Nat,y<64∧x=(y:Int):=⟨x.toNat,by simp at hx;omega,by simp at hx;omega⟩
 clear hx
 replace hd2:=((Dr.refl R w1).alloc _).trans hd2
 obtain⟨d,hand,hsm⟩:∃ d:Nat,bits .and .i64 zz (y:Int)=(d:Int)∧d<64:=by
  rcases ha with ⟨a,rfl,ha⟩|rfl
  ·exact⟨a&&&y,zcr (by unfold Sm;omega) (by unfold Sm;omega),Nat.lt_of_le_of_lt Nat.and_le_left ha⟩
  ·exact⟨y,bits_all y hy,hy⟩
 go_upto_region 2 with fail
 clear hand
 go_wp2_with fail
 refine (zn hr2 (by omega)).mono ?_
 rintro e w3 ⟨z,rfl,-,-,hr3,hd3⟩
 replace hd3:=hd2.trans hd3
 clear hd2 hr2
 go_upto_if 13 with fail
 go_cut [5] (fun s5 wx=>∃ d:Nat,d<64∧s5=.int .i64 (d:Nat)∧Rd wx R (M+10)∧Dr R w1 wx)
 case first =>
  by_cases hz:z=0
  ·subst hz
   go_wp2_with fail
   refine (spec_l1Some hr3 (by omega)).mono ?_
   rintro e w4 ⟨x,hx,rfl,hr4,hd4⟩
   go_wp2_with fail
   go_meet
   exact⟨x,hx,rfl,hr4.more (by omega),hd3.trans hd4⟩
  ·have hz':((z:Int)==0)=false:=by simp;omega
   go_wp2_with fail
   go_meet
   exact⟨d,hsm,rfl,hr3.more (by omega),hd3⟩
 case rest =>
  clear hr3 hd3 hsm
  obtain⟨d,hd,rfl,hr3,hd3⟩:=hcut
  go_wp2_with fail
  refine (zn hr3 (by omega)).mono ?_
  rintro e w4 ⟨y,rfl,-,-,hr4,hd4⟩
  replace hd4:=hd3.trans hd4
  by_cases hy:0<y
  ·have hy':((y:Int)>0):=by omega
   go_wp2_with fail
   refine (zaG [3,2,4,1] 4 #[.int .i64 3,.int .i64 2,.int .i64 4,.int .i64 1] rfl rfl (by omega) (by omega) hr4 (by omega)).mono ?_
   rintro e w5 ⟨x,hx,rfl,hr5,hd5⟩
   obtain⟨p,hp1,hp2,rfl⟩:∃ y:Nat,1≤y∧y≤4∧x=(y:Int):=⟨x.toNat,by simp at hx;omega,by simp at hx;omega,by simp at hx;omega⟩
   clear hx
   have hd15:=(hd4.alloc _).trans hd5
   go_wp2_with fail
   refine (zfQ hr5 (by omega) hd hp1 (by omega)).mono ?_
   intro e w6 hret
   obtain⟨b,A,n,c,A',n',c',rfl,hown,hsh,hr6,hd6⟩:=hret.mono (N:=M+600) (sh':=zeT) hd15 (by omega) (fun b hb=>⟨d,p,hd,hp1,by omega,hb⟩)
   exact yM04a3
  ·have hy':¬ ((y:Int)>0):=by omega
   go_wp2_with fail
   refine (zfP hr4 (by omega) hd).mono ?_
   intro e w6 hret
   obtain⟨b,A,n,c,A',n',c',rfl,hown,hsh,hr6,hd6⟩:=hret.mono (N:=M+600) (sh':=zeT) hd4 (by omega) (fun b hb=>hb)
   exact yM04a3
theorem zfS {R M a:Nat} {w:World}(h:Rd w R M)(hM:M≤700000000)(ha:a<64) :
  Calls Tryz.prog 138 #[.pointer (some ⟨R,0,none⟩),.int .i64 a] w (zeU R (M+600) zeT w):=zfc h hM (.inl ⟨a,rfl,ha⟩)
set_option maxHeartbeats 4000000
structure Two (w0 W:World) (R G H M:Nat) (s:Sys) (A:Option Addr) (n c:Nat) (t:Sys) (B:Option Addr) (m d:Nat):Prop where
 z1:Blk W w0.heap.size 39 #[.int .i64 0,.int .i64 0,.slice none 0 0]
 z2:Blk W (w0.heap.size+1) 39 #[.int .i64 0,.int .i64 0,.slice none 0 0]
 va:Blk W G 39 #[.int .i64 s.al,.int .i64 s.st,.slice A n c]
 ia:zau W R A n s
 vb:Blk W H 39 #[.int .i64 t.al,.int .i64 t.st,.slice B m d]
 ib:zau W R B m t
 rd:Rd W R M
 dr:Dr R w0 W
 hR:R<w0.heap.size
 hG:w0.heap.size+2≤G
 hH:G<H
section
variable {w0 W W':World} {R G H M N:Nat} {s t:Sys} {A B:Option Addr} {n c m d:Nat}
theorem Two.ext (h:Two w0 W R G H M s A n c t B m d)(hx:Ext W W'):Two w0 W' R G H M s A n c t B m d:=
 ⟨h.z1.ext hx,h.z2.ext hx,h.va.ext hx,h.ia.ext hx,h.vb.ext hx,h.ib.ext hx,h.rd.ext hx,h.dr.ext hx,h.hR,h.hG,h.hH⟩
theorem Two.more (h:Two w0 W R G H M s A n c t B m d)(hM:M≤N):Two w0 W R G H N s A n c t B m d:={ h with rd:=h.rd.more hM }
theorem Two.drawn (h:Two w0 W R G H M s A n c t B m d)(hd:Dr R W W')(hr:Rd W' R N):Two w0 W' R G H N s A n c t B m d:=
 ⟨h.z1.dr hd (by have:=h.hR;omega),h.z2.dr hd (by have:=h.hR;omega),h.va.dr hd (by have:=h.hR;have:=h.hG;omega),h.ia.dr hd,h.vb.dr hd (by have:=h.hR;have:=h.hG;have:=h.hH;omega),h.ib.dr hd,hr,h.dr.trans hd,h.hR,h.hG,h.hH⟩
theorem blk_fill {w:World} {Z:Nat} {cs:Array Value} {t:TypeId}(h:Blk w Z t cs)(hc:cs.size=3) (u0 u1 u2:Value):Blk (((w.setCell ⟨Z,0,none⟩ u0).setCell ⟨Z,1,none⟩ u1).setCell ⟨Z,2,none⟩ u2) Z t #[u0,u1,u2]:=by
 obtain⟨l⟩:=cs
 match l,hc with
 |[a,b,c],_=>simpa using ((h.set_ 0 u0).set_ 1 u1).set_ 2 u2
theorem Two.setA {s':Sys} {A':Option Addr} {n' c':Nat}(h:Two w0 W R G H M s A n c t B m d)(hs:zau W R A' n' s') :
  Two w0 (((W.setCell ⟨G,0,none⟩ (.int .i64 s'.al)).setCell ⟨G,1,none⟩ (.int .i64 s'.st)).setCell ⟨G,2,none⟩ (.slice A' n' c')) R G H M s' A' n' c' t B m d:=by
 have hf:=zaU W G (.int .i64 s'.al) (.int .i64 s'.st) (.slice A' n' c')
 have h1:=h.hR;have h2:=h.hG;have h3:=h.hH
 exact⟨h.z1.frm hf (by omega),h.z2.frm hf (by omega),blk_fill h.va rfl _ _ _,hs.far h.va (by decide) hf,h.vb.frm hf (by omega),h.ib.far h.va (by decide) hf,h.rd.frm hf (fun k a b=>by omega),
  ((h.dr.setNew (p:=⟨G,0,none⟩) (by dsimp only;omega) _).setNew (p:=⟨G,1,none⟩) (by dsimp only;omega) _).setNew (p:=⟨G,2,none⟩) (by dsimp only;omega) _,h1,h2,h3⟩
theorem Two.setB {t':Sys} {B':Option Addr} {m' d':Nat}(h:Two w0 W R G H M s A n c t B m d)(hs:zau W R B' m' t') :
  Two w0 (((W.setCell ⟨H,0,none⟩ (.int .i64 t'.al)).setCell ⟨H,1,none⟩ (.int .i64 t'.st)).setCell ⟨H,2,none⟩ (.slice B' m' d')) R G H M s A n c t' B' m' d':=by
 have hf:=zaU W H (.int .i64 t'.al) (.int .i64 t'.st) (.slice B' m' d')
 have h1:=h.hR;have h2:=h.hG;have h3:=h.hH
 exact⟨h.z1.frm hf (by omega),h.z2.frm hf (by omega),h.va.frm hf (by omega),h.ia.far h.vb (by decide) hf,blk_fill h.vb rfl _ _ _,hs.far h.vb (by decide) hf,h.rd.frm hf (fun k a b=>by omega),
  ((h.dr.setNew (p:=⟨H,0,none⟩) (by dsimp only;omega) _).setNew (p:=⟨H,1,none⟩) (by dsimp only;omega) _).setNew (p:=⟨H,2,none⟩) (by dsimp only;omega) _,h1,h2,h3⟩
end
def RetP (R M L:Nat) (w:World) (e:Ending) (w':World):Prop:=
 ∃ (s:Sys) (A:Option Addr) (n c:Nat) (t:Sys) (B:Option Addr) (m d:Nat),e=.returned (.tuple #[.agg #[.int .i64 s.al,.int .i64 s.st,.slice A n c],.agg #[.int .i64 t.al,.int .i64 t.st,.slice B m d]]) ∧
  zau w' R A n s∧zau w' R B m t∧(n≤L∧n≤c)∧(m≤L∧m≤d)∧Rd w' R M∧Dr R w w'
theorem Two.fin {w0 W:World} {R G H M L:Nat} {s t:Sys} {A B:Option Addr} {n c m d:Nat}(h:Two w0 W R G H M s A n c t B m d)(hn:n≤L∧n≤c)(hm:m≤L∧m≤d) :
  RetP R M L w0 (.returned (.tuple #[.agg #[.int .i64 s.al,.int .i64 s.st,.slice A n c],.agg #[.int .i64 t.al,.int .i64 t.st,.slice B m d]]))
   (((((((W.setCell ⟨w0.heap.size,0,none⟩ (.int .i64 s.al)).setCell ⟨w0.heap.size,1,none⟩ (.int .i64 s.st)).setCell ⟨w0.heap.size,2,none⟩ (.slice A n c))).setCell ⟨w0.heap.size+1,0,none⟩ (.int .i64 t.al)).setCell ⟨w0.heap.size+1,1,none⟩ (.int .i64 t.st)).setCell ⟨w0.heap.size+1,2,none⟩ (.slice B m d)):=by
 have h1:=h.hR
 have hf:=zaU W w0.heap.size (.int .i64 s.al) (.int .i64 s.st) (.slice A n c)
 have z2:=h.z2.frm hf (by omega)
 have ia:=h.ia.far h.z1 (by decide) hf
 have ib:=h.ib.far h.z1 (by decide) hf
 have rd:=h.rd.frm hf (fun k a b=>by omega)
 have dr:=((h.dr.setNew (p:=⟨w0.heap.size,0,none⟩) (Nat.le_refl _) (.int .i64 s.al)).setNew (p:=⟨w0.heap.size,1,none⟩) (Nat.le_refl _) (.int .i64 s.st)).setNew (p:=⟨w0.heap.size,2,none⟩) (Nat.le_refl _) (.slice A n c)
 generalize ((W.setCell ⟨w0.heap.size,0,none⟩ (.int .i64 s.al)).setCell ⟨w0.heap.size,1,none⟩ (.int .i64 s.st)).setCell ⟨w0.heap.size,2,none⟩ (.slice A n c)=W1 at *
 have hf:=zaU W1 (w0.heap.size+1) (.int .i64 t.al) (.int .i64 t.st) (.slice B m d)
 exact⟨s,A,n,c,t,B,m,d,rfl,ia.far z2 (by decide) hf,ib.far z2 (by decide) hf,hn,hm,rd.frm hf (fun k a b=>by omega),
  ((dr.setNew (p:=⟨w0.heap.size+1,0,none⟩) (Nat.le_succ _) _).setNew (p:=⟨w0.heap.size+1,1,none⟩) (Nat.le_succ _) _).setNew (p:=⟨w0.heap.size+1,2,none⟩) (Nat.le_succ _) _⟩
theorem zeo {R M n c L:Nat} {A:Option Addr} {s:Sys} {w:World}(h:Rd w R M)(hM:M≤900000000)(hs:zau w R A n s)(hg:Good s)(hn:n≤L)(hL:L≤100000) :
  Calls Tryz.prog 108 #[.pointer (some ⟨R,0,none⟩),.agg #[.int .i64 s.al,.int .i64 s.st,.slice A n c]] w (RetG R (M+10) (L+1) w):=by
 obtain⟨al,st,es⟩:=s
 obtain⟨a,p,h1,h2,h3,h4,h5,h6⟩:=hg
 simp only at h1 h3 h6
 subst h1;subst h3
 exact zgk h hM hs h2 h4 h5 h6 hn hL
set_option maxHeartbeats 4000000
theorem reads_blkD {W:World} {g n:Nat} {us:Array Value} {t:TypeId} (l:List Int)(h:Blk W g t us)(hu:us.toList=ints l)(hn:us.size=n)(h63:n≤1000):Reads W g (g+1) 1 (some ⟨g,0,none⟩) n (ints l):=
 ⟨by rw [← hu];simpa using hn,by omega,fun _=>⟨_,rfl,Nat.le_refl _,by simp,fun j u hj=>by
  have:=h.cell j
  rw [zL,Nat.zero_add,this]
  rw [← hu] at hj
  simpa using hj⟩⟩
theorem zey {R M g n:Nat} {W:World} {us:Array Value} {t:TypeId} (l:List Int)(h:Blk W g t us)(hu:us.toList=ints l)(hn:us.size=n)(h0:0<n)(h63:n≤1000)(hr:Rd W R M)(hM:M≤1000000000)(hR:R<g) :
  Calls Tryz.prog 88 #[.pointer (some ⟨R,0,none⟩),.slice (some ⟨g,0,none⟩) n n] W (RetNum R M l W):=
 l19Rd_num hr hM (reads_blkD l h hu hn h63) hR h0
theorem zdM {R M:Nat} {al st few:Int} {w:World}(h:Rd w R M)(hM:M≤900000000)(ha:0≤al∧al<64)(hp:1≤st∧st≤16) :
  Calls Tryz.prog 121 #[.pointer (some ⟨R,0,none⟩),.int .i64 al,.int .i64 st,.int .i64 few] w (RetG R (M+20000) 20000 w):=by
 obtain⟨a,rfl⟩:∃ a:Nat,al=a:=⟨al.toNat,by omega⟩
 obtain⟨p,rfl⟩:∃ p:Nat,st=p:=⟨st.toNat,by omega⟩
 exact zbZ h hM (by omega) (by omega) (by omega)
theorem zga (es:List Edg) (k:Nat):(zm es).take (k*3)=zm (es.take k):=by
 induction es generalizing k with
 |nil=>simp [zm]
 |cons e r ih =>
  cases k with
  |zero=>simp [zm]
  |succ k =>
   rw [show (k+1)*3=k*3+1+1+1 by omega]
   simp only [zm,List.take_succ_cons,ih]
theorem zau.front {w:World} {R n k:Nat} {A:Option Addr} {al st:Int} {es:List Edg}(h:zau w R A n ⟨al,st,es⟩)(hk:k≤n):zau w R A k ⟨al,st,es.take k⟩:=by
 have h1:=h.1
 simp only at h1
 refine⟨by simp;omega,by have:=h.2.1;omega,fun h0=>?_⟩
 obtain⟨g,o,cs,e,hR,hh,hc⟩:=h.2.2 (by omega)
 refine⟨g,o,cs,e,hR,hh,fun j u hu=>hc j u ?_⟩
 simp only at hu ⊢
 rw [← zga] at hu
 rw [List.getElem?_take] at hu
 split at hu
 ·exact hu
 ·cases hu
theorem RetP.drew {R M L:Nat} {w W:World} {e:Ending}(h:RetP R M L w e W):RetP R M L w e W.drew:=by
 obtain⟨s,A,n,c,t,B,m,d,h1,h2,h3,h4,h5,h6,h7⟩:=h
 exact⟨s,A,n,c,t,B,m,d,h1,h2.ext (Ext.refl _).drew,h3.ext (Ext.refl _).drew,h4,h5,h6.ext (Ext.refl _).drew,h7.drew⟩
theorem yM04b1 {P:Prop}(h:P:=by
 refine pT ?_
 refine zj rfl rfl rfl (fun K hK=>?_)
 go_simp
 refine (zey (n:=2) [2,3] bl2 rfl rfl (by omega) (by omega) hrv3 (by omega) (by omega)).mono ?_
 rintro e v4 ⟨z,hz,rfl,hrv4,hddv4⟩
 have hdv4:=hdv3.trans hddv4
 have hzzv4:=hddv4.size
 refine hK.out _ _ hdv4 ?_
 refine pT ?_
 refine zj rfl rfl rfl (fun K hK=>?_)
 go_simp
 refine (zdM hrv4 (by omega) Hala.out (by simp at hx;omega)).mono ?_
 rintro e v9 ⟨t9,B9,m9,d9,rfl,ht9,hgt9,hm9,hr9,hd9⟩
 have hd69:=hdv4.trans hd9
 replace htwo:=htwo.drawn hd69 hr9
 have Hgt9:=hide hgt9
 clear hgt9
 refine hK.out _ _ hd69 ?_
 refine pT ?_
 have cH:=htwo.vb.cell
 have fH:=htwo.vb.frozen
 have fin:=htwo.setB (d':=d9) ht9
 (refine zy rfl rfl rfl rfl (fun K hK=>?_))
 go_simp
 refine hK.out _ _ ?_
 refine zG ?_
 go_wp2_with fail
 go_meet
 exact⟨t9,B9,m9,d9,_,fin,Hgt9,by omega,by omega⟩
 ):P:=h
theorem yM04a1 {P:Prop}(h:P:=by
 refine pT ?_
 refine zj rfl rfl rfl (fun K hK=>?_)
 go_simp
 refine (zey (n:=4) [2,3,1,4] bl4 rfl rfl (by omega) (by omega) hrv2 (by omega) (by omega)).mono ?_
 rintro e v3 ⟨x,hx,rfl,hrv3,hddv3⟩
 have hdv3:=hdv2.trans hddv3
 replace bl2:=bl2.dr hddv3 (by omega)
 have hzzv3:=hddv3.size
 refine hK.out _ _ hdv3 ?_
 exact yM04b1
 ):P:=h
theorem yM04a5 {P:Prop}(h:P:=by
 replace htwo:=htwo.drawn hd3 hr3
 have cG:=htwo.vb.cell
 have fG:=htwo.vb.frozen
 have fin:=htwo.setB (d':=c3) hs3
 go_wp2_with fail
 go_meet
 exact⟨s,A,n,c,s3,A3,n3,c3,_,fin,by omega,by omega,by omega⟩
 ):P:=h
set_option maxRecDepth 100000 in
theorem spec_l6Pair {R M:Nat} {w:World}(h:Rd w R M)(hM:M≤700000000) :
  Calls Tryz.prog 68 #[.pointer (some ⟨R,0,none⟩)] w (RetP R (M+200000) 30000 w):=by
 have hRl:=h.lt
 have hx0:Ext w ((w.alloc (.cells #[.int .i64 0,.int .i64 0,.slice none 0 0] 39)).alloc (.cells #[.int .i64 0,.int .i64 0,.slice none 0 0] 39)):=((Ext.refl _).alloc _).alloc _
 obtain⟨bz1,bz2⟩:=zJ (Ext.refl ((w.alloc (.cells #[.int .i64 0,.int .i64 0,.slice none 0 0] 39)).alloc (.cells #[.int .i64 0,.int .i64 0,.slice none 0 0] 39)))
 have Hx0:=hide hx0
 have Hz1:=hide bz1
 have Hz2:=hide bz2
 clear hx0 bz1 bz2
 go_enter Tryz.func68,Tryz.ntmps68
 go_wp2_with fail
 generalize (w.alloc (.cells #[.int .i64 0,.int .i64 0,.slice none 0 0] 39)).alloc (.cells #[.int .i64 0,.int .i64 0,.slice none 0 0] 39)=w1 at *
 refine (zcT (h.ext Hx0.out) (by omega)).mono ?_
 rintro e w2 ⟨s,A,n,c,rfl,hs,hg,hn,hr2,hd2⟩
 have hx3:=(Ext.refl w2).alloc (.cells #[.int .i64 s.al,.int .i64 s.st,.slice A n c] 39)
 have b3:=Blk.new w2 39 #[.int .i64 s.al,.int .i64 s.st,.slice A n c]
 have hw2:=Hx0.out.dr.trans hd2
 have hz2:=hd2.size
 have hzw:=Hz2.out.lt
 have z1:=(Hz1.out.dr hd2 (by omega)).ext hx3
 have z2:=(Hz2.out.dr hd2 (by omega)).ext hx3
 have hs3:=hs.ext hx3
 have hr3:=hr2.ext hx3
 have hw3:=hw2.ext hx3
 have c3:=b3.cell
 have Hg:=hide hg
 clear hg hd2 hr2 hs hx3 hw2
 go_wp2_with fail
 generalize w2.alloc (.cells #[.int .i64 s.al,.int .i64 s.st,.slice A n c] 39)=w3 at *
 refine (zeo hr3 (by omega) hs3 Hg.out hn.1 (by omega)).mono ?_
 rintro e w4 ⟨t,B,m,d,rfl,ht,hgt,hm,hr4,hd4⟩
 have hx5:=(Ext.refl w4).alloc (.cells #[.int .i64 t.al,.int .i64 t.st,.slice B m d] 39)
 have b5:=Blk.new w4 39 #[.int .i64 t.al,.int .i64 t.st,.slice B m d]
 have hb34:=b3.dr hd4 (by omega)
 have hw4:=hw3.trans hd4
 have htwo:Two w _ R w2.heap.size w4.heap.size (M+30010) s A n c t B m d:=⟨(z1.dr hd4 (by omega)).ext hx5,(z2.dr hd4 (by omega)).ext hx5,hb34.ext hx5,(hs3.dr hd4).ext hx5,b5,ht.ext hx5,hr4.ext hx5,hw4.ext hx5,hRl,by omega,hb34.lt⟩
 have Hgt:=hide hgt
 clear hgt ht hr4 hd4 hx5 b5 hb34 hw4 c3 hw3 hr3 hs3 z1 z2 b3
 go_wp2_with fail
 generalize w4.alloc (.cells #[.int .i64 t.al,.int .i64 t.st,.slice B m d] 39)=w5 at *
 refine (zn (n:=4) htwo.rd (by omega)).mono ?_
 rintro e w6 ⟨y,rfl,-,-,hr6,hd6⟩
 replace htwo:=htwo.drawn hd6 hr6
 clear hr6 hd6 Hz1 Hz2 Hx0
 go_upto_block 0 with fail
 go_cut [] (fun wx=>∃ (t:Sys) (B:Option Addr) (m d N:Nat),Two w wx R w2.heap.size w4.heap.size N s A n c t B m d∧Hid (Good t)∧(m≤20002∧m≤d)∧N≤M+100000)
 case first =>
  by_cases hy0:y=0
  ·subst hy0
   obtain⟨a0,p0,hal,ha0,-,-,-,-⟩:=Hg.out
   have hala:0≤s.al∧s.al<64:=by rw [hal];omega
   have Hala:=hide hala
   clear hal hala
   have hRG:=htwo.hR
   have hGG:=htwo.hG
   have hHH:=htwo.hH
   have cG:∀ W,Dr R w6 W→∀ q,W.cell? ⟨w2.heap.size,q,none⟩=#[Value.int .i64 s.al,.int .i64 s.st,.slice A n c][q]?:=fun W hW=>(htwo.va.dr hW (by omega)).cell
   have hzR:=htwo.rd.lt
   go_wp2_with fail
   refine tR (fun X=>Dr R w6 X) [10] (Ord.app [0,1,2,3,6] (Ord.two 4 (Ord.two 5 (Ord.of [7,8,9,10]) 7 (Ord.of [5,8,9,10])) 7 (Ord.of [4,5,8,9,10]))) ?_
   refine tQ ?_
   refine zbO rfl rfl rfl rfl (fun K hK=>?_) (fun K hK=>?_)
   ·have hrw6:=htwo.rd
    go_simp
    have hxv1:Ext w6 (w6.alloc (.cells #[.int .i64 2,.int .i64 3,.int .i64 1,.int .i64 4] 3)).drew:=((Ext.refl _).alloc _).drew
    have bl4:Blk (w6.alloc (.cells #[.int .i64 2,.int .i64 3,.int .i64 1,.int .i64 4] 3)).drew w6.heap.size 3 #[.int .i64 2,.int .i64 3,.int .i64 1,.int .i64 4]:=Blk.new w6 _ _
    have hzv1:=bl4.lt
    have hzzv1:=hxv1.size
    have hdv1:Dr R w6 (w6.alloc (.cells #[.int .i64 2,.int .i64 3,.int .i64 1,.int .i64 4] 3)).drew:=hxv1.dr
    have hrv1:=hrw6.ext hxv1
    refine hK.out _ _ hdv1 ?_
    generalize (w6.alloc (.cells #[.int .i64 2,.int .i64 3,.int .i64 1,.int .i64 4] 3)).drew=v1 at *
    refine pT ?_
    refine zbO rfl rfl rfl rfl (fun K hK=>?_) (fun K hK=>?_)
    ·go_simp
     refine (zey (n:=4) [2,3,1,4] bl4 rfl rfl (by omega) (by omega) hrv1 (by omega) (by omega)).mono ?_
     rintro e v2 ⟨x,hx,rfl,hrv2,hddv2⟩
     have hdv2:=hdv1.trans hddv2
     have hzzv2:=hddv2.size
     refine hK.out _ _ hdv2 ?_
     refine pT ?_
     refine zj rfl rfl rfl (fun K hK=>?_)
     go_simp
     have hxv3:Ext v2 (v2.alloc (.cells #[.int .i64 2,.int .i64 3] 3)):=(Ext.refl _).alloc _
     have bl2:Blk (v2.alloc (.cells #[.int .i64 2,.int .i64 3] 3)) v2.heap.size 3 #[.int .i64 2,.int .i64 3]:=Blk.new v2 _ _
     have hzv3:=bl2.lt
     have hzzv3:=hxv3.size
     have hdv3:Dr R w6 (v2.alloc (.cells #[.int .i64 2,.int .i64 3] 3)):=hdv2.ext hxv3
     have hrv3:=hrv2.ext hxv3
     refine hK.out _ _ hdv3 ?_
     generalize (v2.alloc (.cells #[.int .i64 2,.int .i64 3] 3))=v3 at *
     exact yM04b1
    ·go_simp
     have hxv2:Ext v1 (v1.alloc (.cells #[.int .i64 2,.int .i64 3] 3)):=(Ext.refl _).alloc _
     have bl2:Blk (v1.alloc (.cells #[.int .i64 2,.int .i64 3] 3)) v1.heap.size 3 #[.int .i64 2,.int .i64 3]:=Blk.new v1 _ _
     have hzv2:=bl2.lt
     have hzzv2:=hxv2.size
     have hdv2:Dr R w6 (v1.alloc (.cells #[.int .i64 2,.int .i64 3] 3)):=hdv1.ext hxv2
     have hrv2:=hrv1.ext hxv2
     replace bl4:=bl4.ext hxv2
     refine hK.out _ _ hdv2 ?_
     generalize (v1.alloc (.cells #[.int .i64 2,.int .i64 3] 3))=v2 at *
     exact yM04a1
   ·have hrw6:=htwo.rd
    go_simp
    have hxv1:Ext w6 (w6.alloc (.cells #[.int .i64 2,.int .i64 3] 3)).drew:=((Ext.refl _).alloc _).drew
    have bl2:Blk (w6.alloc (.cells #[.int .i64 2,.int .i64 3] 3)).drew w6.heap.size 3 #[.int .i64 2,.int .i64 3]:=Blk.new w6 _ _
    have hzv1:=bl2.lt
    have hzzv1:=hxv1.size
    have hdv1:Dr R w6 (w6.alloc (.cells #[.int .i64 2,.int .i64 3] 3)).drew:=hxv1.dr
    have hrv1:=hrw6.ext hxv1
    refine hK.out _ _ hdv1 ?_
    generalize (w6.alloc (.cells #[.int .i64 2,.int .i64 3] 3)).drew=v1 at *
    refine pT ?_
    refine zj rfl rfl rfl (fun K hK=>?_)
    go_simp
    have hxv2:Ext v1 (v1.alloc (.cells #[.int .i64 2,.int .i64 3,.int .i64 1,.int .i64 4] 3)):=(Ext.refl _).alloc _
    have bl4:Blk (v1.alloc (.cells #[.int .i64 2,.int .i64 3,.int .i64 1,.int .i64 4] 3)) v1.heap.size 3 #[.int .i64 2,.int .i64 3,.int .i64 1,.int .i64 4]:=Blk.new v1 _ _
    have hzv2:=bl4.lt
    have hzzv2:=hxv2.size
    have hdv2:Dr R w6 (v1.alloc (.cells #[.int .i64 2,.int .i64 3,.int .i64 1,.int .i64 4] 3)):=hdv1.ext hxv2
    have hrv2:=hrv1.ext hxv2
    replace bl2:=bl2.ext hxv2
    refine hK.out _ _ hdv2 ?_
    generalize (v1.alloc (.cells #[.int .i64 2,.int .i64 3,.int .i64 1,.int .i64 4] 3))=v2 at *
    exact yM04a1
  ·by_cases hy1:y=1
   ·subst hy1
    have cH:=htwo.vb.cell
    go_wp2_with fail
    refine (zeo htwo.rd (by omega) htwo.ib Hgt.out hm.1 (by omega)).mono ?_
    rintro e v9 ⟨t9,B9,m9,d9,rfl,ht9,hgt9,hm9,hr9,hd9⟩
    replace htwo:=htwo.drawn hd9 hr9
    have Hgt9:=hide hgt9
    clear hgt9 cH
    have cH:=htwo.vb.cell
    have fH:=htwo.vb.frozen
    have fin:=htwo.setB (d':=d9) ht9
    go_wp2_with fail
    go_meet
    exact⟨t9,B9,m9,d9,_,fin,Hgt9,by omega,by omega⟩
   ·have h0:((y:Int)==0)=false:=by simp;omega
    have h1:((y:Int)==1)=false:=by simp;omega
    clear hy0 hy1
    go_wp2_with fail
    go_meet
    exact⟨t,B,m,d,_,htwo,Hgt,by omega,by omega⟩
 case rest =>
  clear htwo Hgt hm
  obtain⟨t,B,m,d,N,htwo,Hgt,hm,hN⟩:=hcut
  have hRG:=htwo.hR
  have hGG:=htwo.hG
  have hHH:=htwo.hH
  go_wp2_with fail
  refine (zn (n:=24) htwo.rd (by omega)).mono ?_
  rintro e w7 ⟨y,rfl,-,-,hr7,hd7⟩
  replace htwo:=htwo.drawn hd7 hr7
  clear hr7 hd7
  go_upto_block 1 with fail
  go_cut [] (fun wx=>∃ (s:Sys) (A:Option Addr) (n c:Nat) (t:Sys) (B:Option Addr) (m d N:Nat),Two w wx R w2.heap.size w4.heap.size N s A n c t B m d∧(n≤30000∧n≤c)∧(m≤30000∧m≤d)∧N≤M+200000)
  case first =>
   by_cases hy0:y=0
   ·subst hy0
    have cG:=htwo.va.cell
    go_wp2_with fail
    refine (zak (L:=n) htwo.rd (by omega) htwo.ia (Nat.le_refl _) (by omega)).mono ?_
    rintro e v1 ⟨s1,A1,n1,c1,rfl,hs1,hn1,hr1,hd1⟩
    replace htwo:=htwo.drawn hd1 hr1
    clear cG
    go_wp2_with fail
    refine (zak (L:=n1) htwo.rd (by omega) hs1 (Nat.le_refl _) (by omega)).mono ?_
    rintro e v2 ⟨s2,A2,n2,c2,rfl,hs2,hn2,hr2,hd2⟩
    replace htwo:=htwo.drawn hd2 hr2
    go_wp2_with fail
    refine (zak (L:=n2) htwo.rd (by omega) hs2 (Nat.le_refl _) (by omega)).mono ?_
    rintro e v3 ⟨s3,A3,n3,c3,rfl,hs3,hn3,hr3,hd3⟩
    replace htwo:=htwo.drawn hd3 hr3
    have cG:=htwo.va.cell
    have fG:=htwo.va.frozen
    have fin:=htwo.setA (c':=c3) hs3
    go_wp2_with fail
    go_meet
    exact⟨s3,A3,n3,c3,t,B,m,d,_,fin,by omega,by omega,by omega⟩
   by_cases hy1:y=1
   ·subst hy1
    have cG:=htwo.vb.cell
    go_wp2_with fail
    refine (zak (L:=m) htwo.rd (by omega) htwo.ib (Nat.le_refl _) (by omega)).mono ?_
    rintro e v1 ⟨s1,A1,n1,c1,rfl,hs1,hn1,hr1,hd1⟩
    replace htwo:=htwo.drawn hd1 hr1
    clear cG
    go_wp2_with fail
    refine (zak (L:=n1) htwo.rd (by omega) hs1 (Nat.le_refl _) (by omega)).mono ?_
    rintro e v2 ⟨s2,A2,n2,c2,rfl,hs2,hn2,hr2,hd2⟩
    replace htwo:=htwo.drawn hd2 hr2
    go_wp2_with fail
    refine (zak (L:=n2) htwo.rd (by omega) hs2 (Nat.le_refl _) (by omega)).mono ?_
    rintro e v3 ⟨s3,A3,n3,c3,rfl,hs3,hn3,hr3,hd3⟩
    exact yM04a5
   by_cases hy2:y=2
   ·subst hy2
    go_wp2_with fail
    refine (zcT htwo.rd (by omega)).mono ?_
    rintro e v3 ⟨s3,A3,n3,c3,rfl,hs3,-,hn3,hr3,hd3⟩
    exact yM04a5
   by_cases hy3:y=3
   ·subst hy3
    go_wp2_with fail
    refine (spec_l2Big htwo.rd (by omega)).mono ?_
    rintro e v3 ⟨s3,A3,n3,c3,rfl,hs3,-,hn3,⟨hn31,hn3c⟩,hr3,hd3⟩
    replace htwo:=htwo.drawn hd3 hr3
    obtain⟨n',rfl⟩:∃ n',n3=n'+1:=⟨n3 - 1,by omega⟩
    obtain⟨g3,o3,cs3,rfl,-⟩:=hs3.2.2 (by omega)
    have cG:=htwo.va.cell
    have fG:=htwo.va.frozen
    have fin:=htwo.setA (c':=c3) hs3
    have hn3c':((n':Int))≤(c3:Int):=by omega
    go_wp2_with fail
    generalize ((v3.setCell ⟨w2.heap.size,0,none⟩ (.int .i64 s3.al)).setCell ⟨w2.heap.size,1,none⟩ (.int .i64 s3.st)).setCell ⟨w2.heap.size,2,none⟩ (.slice (some ⟨g3,o3,none⟩) (n'+1) c3)=w8 at *
    clear cG fG
    have cG:∀ W,Ext w8 W→∀ q,W.cell? ⟨w2.heap.size,q,none⟩=#[Value.int .i64 s3.al,.int .i64 s3.st,.slice (some ⟨g3,o3,none⟩) (n'+1) c3][q]?:=fun W hW=>(fin.va.ext hW).cell
    have hfr:=zau.front (al:=s3.al) (st:=s3.st) (es:=s3.edges) fin.ia (k:=n') (by omega)
    have Hfr:=hide hfr
    clear hfr
    have hRw8:=fin.rd.lt
    have hwr:IntKind.i64.wrap (n':Int)=n':=IntWalk.i64_in _ (by omega)
    have hn0:0≤(n':Int):=by omega
    refine tR (fun X=>Ext w8 X) [14] (Ord.of [0,1,2,3,5,6,7,8,9,10,11,4,12,13,14]) ?_
    refine tQ ?_
    clear hwr
    (refine zj rfl rfl rfl (fun K hK=>?_);go_simp)
    refine hK.out _ _ ((Ext.refl _).drew.alloc _) ?_
    refine pT ?_
    refine zj rfl rfl rfl (fun K hK=>?_)
    refine zu _ _ _ _ rfl w8.heap.size 126 _ 3 24 Tryz.underlying37 zas rfl (by decide) (.slice (some ⟨w8.heap.size,0,none⟩) 0 0) 0 [] rfl (edge_lit w8) (R+1) w8.heap.size (some ⟨g3,o3,none⟩) n' c3 (zm (s3.edges.take n')) rfl (Hfr.out.at_.2.ext ((Ext.refl w8).drew.alloc _)) (zbV _) (by unfold maxLen;omega) (by omega) (by simp) ?_
    intro v w9 hown9 hg9 hat9
    rw [Nat.zero_add,List.nil_append] at hown9
    obtain⟨A9,c9,rfl⟩:=ze hown9
    have hcap9:=zdO hown9
    have hx9:Ext w8 w9:=(((Ext.refl w8).alloc (.cells #[] 126)).drew).grown hg9 (fun k hk=>by simp [Value.ownBlock] at hk;omega)
    replace fin:=fin.ext hx9
    have hin:=zau.own (s:=⟨s3.al,s3.st,s3.edges.take n'⟩) hown9 hRw8
    have fin2:=fin.setB (d':=c9) hin
    have cH:=fin.vb.cell
    have fH:=fin.vb.frozen
    refine hK.out _ _ hx9 ?_
    refine pT ?_
    refine tQ ?_
    (refine zy rfl rfl rfl rfl (fun K hK=>?_))
    go_simp
    refine hK.out _ _ ?_
    refine zG ?_
    go_wp2_with fail
    go_meet
    exact⟨_,_,_,c3,_,_,_,_,_,fin2,by omega,by omega,by omega⟩
   have h0:((y:Int)==0)=false:=by simp;omega
   have h1:((y:Int)==1)=false:=by simp;omega
   have h2:((y:Int)==2)=false:=by simp;omega
   have h3:((y:Int)==3)=false:=by simp;omega
   clear hy0 hy1 hy2 hy3
   go_wp2_with fail
   go_meet
   exact⟨s,A,n,c,t,B,m,d,_,htwo,by omega,by omega,by omega⟩
  case rest =>
   clear htwo Hgt hm hn hN Hg
   obtain⟨s,A,n,c,t,B,m,d,N,htwo,hn,hm,hN⟩:=hcut
   obtain⟨wE,hwE⟩:∃ wE,wE=wc:=⟨_,rfl⟩
   subst hwE
   have hS0:Frm (fun k=>k=w.heap.size) wE wE.drew:=⟨rfl,rfl,rfl,Nat.le_refl _,fun _ _ _=>rfl⟩
   have hfin:=hide (((htwo.more hN).fin hn hm).drew)
   have cG:∀ W,Frm (fun k=>k=w.heap.size) wE W→∀ q,W.cell? ⟨w2.heap.size,q,none⟩=#[Value.int .i64 s.al,.int .i64 s.st,.slice A n c][q]?:=fun W hW=>(htwo.va.frm hW (by omega)).cell
   have cH:∀ W,Frm (fun k=>k=w.heap.size) wE W→∀ q,W.cell? ⟨w4.heap.size,q,none⟩=#[Value.int .i64 t.al,.int .i64 t.st,.slice B m d][q]?:=fun W hW=>(htwo.vb.frm hW (by omega)).cell
   have cz1:=htwo.z1.cell
   have fz1:=htwo.z1.frozen
   have cz2:=htwo.z2.cell
   have fz2:=htwo.z2.frozen
   go_wp2_with fail
   refine tR (fun X=>Frm (fun k=>k=w.heap.size) wE X) [3] (Ord.of [0,1,2,3]) ?_
   refine tQ ?_
   (refine zj rfl rfl rfl (fun K hK=>?_);go_simp)
   refine hK.out _ _ (hS0.trans (zaU _ _ _ _ _)) ?_
   refine pT ?_
   (refine zy rfl rfl rfl rfl (fun K hK=>?_))
   go_simp
   refine hK.out _ _ ?_
   refine zG ?_
   go_wp2_with fail
   exact bodyPost_ret (v:=.tuple #[.agg #[.int .i64 s.al,.int .i64 s.st,.slice A n c],.agg #[.int .i64 t.al,.int .i64 t.st,.slice B m d]]) (by simp [results,Tryz.results68,go_sem,cz1,cz2]) rfl hfin.out
set_option maxHeartbeats 4000000
def RetD2 (w:World) (e:Ending) (w':World):Prop:=
 ∃ (s:Sys) (A:Option Addr) (n c:Nat) (t:Sys) (B:Option Addr) (m d:Nat),e=.returned (.tuple #[.agg #[.int .i64 s.al,.int .i64 s.st,.slice A n c],.agg #[.int .i64 t.al,.int .i64 t.st,.slice B m d]]) ∧
  zO w' w.heap.size w'.heap.size A n s∧zO w' w.heap.size w'.heap.size B m t∧(n≤40000∧n≤c)∧(m≤40000∧m≤d)∧Ext w w'
theorem Dr.new {R:Nat} {w w1 w2:World}(h:Ext w w1)(hR:w.heap.size≤R)(hd:Dr R w1 w2):Ext w w2:=
 h.frm hd (fun k hk he=>by omega)
theorem zau.new {R n:Nat} {w W:World} {A:Option Addr} {s:Sys}(h:zau W R A n s)(hR:w.heap.size≤R):zO W w.heap.size W.heap.size A n s:=
 h.at_.more (by omega) (Nat.le_refl _)
theorem draw_two {R n c m d:Nat} {w W:World} {A B:Option Addr} {s t:Sys}(hs:zau W R A n s)(ht:zau W R B m t)(hn:n≤40000∧n≤c)(hm:m≤40000∧m≤d)(hR:w.heap.size≤R)(hx:Ext w W)
  (hz:Blk W w.heap.size 39 #[.int .i64 0,.int .i64 0,.slice none 0 0]) (hz2:Blk W (w.heap.size+1) 39 #[.int .i64 0,.int .i64 0,.slice none 0 0]) :
  RetD2 w (.returned (.tuple #[.agg #[.int .i64 s.al,.int .i64 s.st,.slice A n c],.agg #[.int .i64 t.al,.int .i64 t.st,.slice B m d]])) ((((((W.setCell ⟨w.heap.size,0,none⟩ (.int .i64 s.al)).setCell ⟨w.heap.size,1,none⟩ (.int .i64 s.st)).setCell ⟨w.heap.size,2,none⟩ (.slice A n c)).setCell ⟨w.heap.size+1,0,none⟩ (.int .i64 t.al)).setCell ⟨w.heap.size+1,1,none⟩ (.int .i64 t.st)).setCell ⟨w.heap.size+1,2,none⟩ (.slice B m d)):=by
 have hf:=zaU W w.heap.size (.int .i64 s.al) (.int .i64 s.st) (.slice A n c)
 have a1:=hs.far hz (by decide) hf
 have a2:=ht.far hz (by decide) hf
 have a3:=hz2.frm hf (by omega)
 have hx2:=((hx.setCell (p:=⟨w.heap.size,0,none⟩) (Nat.le_refl _) (.int .i64 s.al)).setCell (p:=⟨w.heap.size,1,none⟩) (Nat.le_refl _) (.int .i64 s.st)).setCell (p:=⟨w.heap.size,2,none⟩) (Nat.le_refl _) (.slice A n c)
 generalize ((W.setCell ⟨w.heap.size,0,none⟩ (.int .i64 s.al)).setCell ⟨w.heap.size,1,none⟩ (.int .i64 s.st)).setCell ⟨w.heap.size,2,none⟩ (.slice A n c)=W1 at *
 have hf:=zaU W1 (w.heap.size+1) (.int .i64 t.al) (.int .i64 t.st) (.slice B m d)
 exact⟨s,A,n,c,t,B,m,d,rfl,(a1.far a3 (by decide) hf).new hR,(a2.far a3 (by decide) hf).new hR,hn,hm,
  ((hx2.setCell (p:=⟨w.heap.size+1,0,none⟩) (Nat.le_succ _) _).setCell (p:=⟨w.heap.size+1,1,none⟩) (Nat.le_succ _) _).setCell (p:=⟨w.heap.size+1,2,none⟩) (Nat.le_succ _) _⟩
set_option maxHeartbeats 4000000
set_option maxRecDepth 100000 in
theorem zeN {R M:Nat} {w:World}(h:Rd w R M)(hM:M≤800000000) :
  Calls Tryz.prog 76 #[.pointer (some ⟨R,0,none⟩)] w (RetG R (M+30000) 20000 w):=by
 have hRl:=h.lt
 have hx0:=(Ext.refl w).alloc (.cells #[.int .i64 0,.int .i64 0,.slice none 0 0] 39)
 have bz5:=Blk.new w 39 #[.int .i64 0,.int .i64 0,.slice none 0 0]
 have hr5:=h.ext hx0
 have hw5:=hx0.dr (R:=R)
 have hz1:=bz5.lt
 go_enter Tryz.func76,Tryz.ntmps76
 go_wp2_with fail
 have C6:=(zaG [3,6,7,5,2] 5 #[.int .i64 3,.int .i64 6,.int .i64 7,.int .i64 5,.int .i64 2] rfl rfl (by omega) (by omega) hr5 (by omega))
 simp only [World.size_alloc] at C6
 refine C6.mono ?_
 rintro e w6 ⟨al,hal,rfl,hr6,hd6⟩
 have hw6:=(hw5.ext ((Ext.refl _).alloc _)).trans hd6
 have bz6:=(bz5.ext ((Ext.refl _).alloc _)).dr hd6 (by omega)
 go_wp2_with fail
 refine (zaG [2,3,1,3] 4 #[.int .i64 2,.int .i64 3,.int .i64 1,.int .i64 3] rfl rfl (by omega) (by omega) hr6 (by omega)).mono ?_
 rintro e w7 ⟨st,hst,rfl,hr7,hd7⟩
 have hw7:=(hw6.ext ((Ext.refl _).alloc _)).trans hd7
 have bz7:=(bz6.ext ((Ext.refl _).alloc _)).dr hd7 (by omega)
 go_wp2_with fail
 refine (zaG [2,3,4] 3 #[.int .i64 2,.int .i64 3,.int .i64 4] rfl rfl (by omega) (by omega) hr7 (by omega)).mono ?_
 rintro e w8 ⟨fw,_,rfl,hr8,hd8⟩
 have hw8:=(hw7.ext ((Ext.refl _).alloc _)).trans hd8
 have bz8:=(bz7.ext ((Ext.refl _).alloc _)).dr hd8 (by omega)
 obtain⟨a,rfl,ha⟩:∃ a:Nat,al=a∧a<64:=⟨al.toNat,by simp at hal;omega,by simp at hal;omega⟩
 obtain⟨p,rfl,hp1,hp⟩:∃ p:Nat,st=p∧1≤p∧p≤16:=⟨st.toNat,by simp at hst;omega,by simp at hst;omega,by simp at hst;omega⟩
 clear hal hst
 go_wp2_with fail
 refine (zbZ hr8 (by omega) ha hp1 hp).mono ?_
 rintro e w9 ⟨s9,A9,n9,c9,rfl,hs9,hg9,hn9,hr9,hd9⟩
 have bz9:=bz8.dr hd9 (by omega)
 have hfin9:=hide (zfj (R:=R) (M:=M+30000) (L:=20000) (c:=c9) hs9 hg9 hn9 (hr9.more (by omega)) (hw8.trans hd9) bz9 hRl (Nat.le_refl _))
 have cz9:=bz9.cell
 have fz9:=bz9.frozen
 go_wp2_with fail
 exact bodyPost_ret (v:=.agg #[.int .i64 s9.al,.int .i64 s9.st,.slice A9 n9 c9]) (by simp [results,Tryz.results76,go_sem,cz9]) rfl hfin9.out
set_option maxHeartbeats 4000000
theorem or_al {a b:Nat}(ha:a<64)(hb:b<64):bits .or .i64 (a:Int) (b:Int)=((a|||b:Nat):Int)∧a|||b<64:=by
 have h:=Nat.or_lt_two_pow (n:=6) (x:=a) (y:=b) (by omega) (by omega)
 exact⟨zcd (by unfold Sm;omega) (by unfold Sm;omega),by omega⟩
set_option maxRecDepth 100000 in
theorem spec_l9Three {R M:Nat} {w:World}(h:Rd w R M)(hM:M≤600000000) :
  Calls Tryz.prog 105 #[.pointer (some ⟨R,0,none⟩)] w (RetSPT R (M+150000) 20000 16 w):=by
 have hRl:=h.lt
 have hx0:Ext w (((w.alloc (.cells #[.int .i64 0,.int .i64 0,.slice none 0 0] 39)).alloc (.cells #[.int .i64 0,.slice none 0 0,.slice none 0 0] 27)).alloc (.cells #[.int .i64 0,.int .i64 0,.slice none 0 0] 39)):=(((Ext.refl _).alloc _).alloc _).alloc _
 obtain⟨z1,z2,z3⟩:=zU (Ext.refl (((w.alloc (.cells #[.int .i64 0,.int .i64 0,.slice none 0 0] 39)).alloc (.cells #[.int .i64 0,.slice none 0 0,.slice none 0 0] 27)).alloc (.cells #[.int .i64 0,.int .i64 0,.slice none 0 0] 39)))
 have hsz:(((w.alloc (.cells #[.int .i64 0,.int .i64 0,.slice none 0 0] 39)).alloc (.cells #[.int .i64 0,.slice none 0 0,.slice none 0 0] 27)).alloc (.cells #[.int .i64 0,.int .i64 0,.slice none 0 0] 39)).heap.size=w.heap.size+3:=by simp
 go_enter Tryz.func105,Tryz.ntmps105
 go_upto_region 1 with fail
 generalize ((w.alloc (.cells #[.int .i64 0,.int .i64 0,.slice none 0 0] 39)).alloc (.cells #[.int .i64 0,.slice none 0 0,.slice none 0 0] 27)).alloc (.cells #[.int .i64 0,.int .i64 0,.slice none 0 0] 39)=w0 at *
 go_wp2_with fail
 refine (zeN (h.ext hx0) (by omega)).mono ?_
 rintro e w1 ⟨s,A,n,c,rfl,hs1,hg1,hn1,hr1,hd1⟩
 have hw1:=hd1.size
 have hx2:=(Ext.refl w1).alloc (.cells #[.int .i64 s.al,.int .i64 s.st,.slice A n c] 39)
 have bs:=Blk.new w1 39 #[.int .i64 s.al,.int .i64 s.st,.slice A n c]
 have hs2:(w1.alloc (.cells #[.int .i64 s.al,.int .i64 s.st,.slice A n c] 39)).heap.size=w1.heap.size+1:=by simp
 have hd2:Dr R w (w1.alloc (.cells #[.int .i64 s.al,.int .i64 s.st,.slice A n c] 39)):=(hx0.dr.trans hd1).alloc _
 replace hs1:=hs1.ext hx2
 replace hr1:=hr1.ext hx2
 replace z1:=(z1.dr hd1 (by omega)).ext hx2
 replace z2:=(z2.dr hd1 (by omega)).ext hx2
 replace z3:=(z3.dr hd1 (by omega)).ext hx2
 go_upto_region 2 with fail
 generalize hGs:w1.heap.size=Gs at *
 generalize w1.alloc (.cells #[.int .i64 s.al,.int .i64 s.st,.slice A n c] 39)=w2 at *
 clear hx2
 go_wp2_with fail
 refine (zeN hr1 (by omega)).mono ?_
 rintro e w3 ⟨t,C,k,c2,rfl,ht1,hg2,hn2,hr3,hd3⟩
 have hw3:=hd3.size
 have hx4:=(Ext.refl w3).alloc (.cells #[.int .i64 t.al,.int .i64 t.st,.slice C k c2] 39)
 have bt:=Blk.new w3 39 #[.int .i64 t.al,.int .i64 t.st,.slice C k c2]
 have ht2:Tri w (w3.alloc (.cells #[.int .i64 t.al,.int .i64 t.st,.slice C k c2] 39)) R (M+60000) 20000 16 w.heap.size (w.heap.size+1+1) (w.heap.size+1) Gs w3.heap.size 0 s A n c t C k c2 autZ none 0 0 none 0 0:=
  ⟨⟨(hs1.dr hd3).ext hx4,ht1.ext hx4,zgS _ _,⟨hn1,hn2⟩,hide (bd_autZ _),(hr3.ext hx4).more (by omega),(hd2.trans hd3).ext hx4,hRl⟩,(z1.dr hd3 (by omega)).ext hx4,(z3.dr hd3 (by omega)).ext hx4,(z2.dr hd3 (by omega)).ext hx4,(bs.dr hd3 (by omega)).ext hx4,bt,.inl rfl,by omega,hide (by unfold Ne6;omega)⟩
 clear hs1 hr1 z1 z2 z3 bs bt ht1 hx4 hd2
 go_upto_region 3 with fail
 generalize hGt:w3.heap.size=Gt at *
 generalize w3.alloc (.cells #[.int .i64 t.al,.int .i64 t.st,.slice C k c2] 39)=w4 at *
 have hne:Hid (Gs<Gt∧w.heap.size+3≤Gs):=hide (by omega)
 clear hw1 hw3 hd1 hd3 hr3 hn1 hn2 hs2 hGs hGt
 go_wp2_with fail
 refine (zn ht2.at_.rd (by omega)).mono ?_
 rintro e w5 ⟨y,rfl,-,-,hr5,hd5⟩
 have ht3:=(ht2.drawn hd5 hr5).more (N:=M+60001) (J:=20000) (H:=16) (by omega) (by omega) (by omega)
 clear ht2
 go_upto_if 13 with fail
 go_cut [] (fun wx=>∃ (s:Sys) (A:Option Addr) (n c:Nat),Good s∧Tri w wx R (M+60001+30000) 20000 16 w.heap.size (w.heap.size+1+1) (w.heap.size+1) Gs Gt 0 s A n c t C k c2 autZ none 0 0 none 0 0)
 case first =>
  by_cases hy:y=0
  ·subst hy
   go_wp2_with fail
   refine (zcT hr5 (by omega)).mono ?_
   rintro e w6 ⟨s',A',n',c',rfl,hs',hg',hn',hr6,hd6⟩
   have ht4:=(ht3.drawn hd6 hr6).more (N:=M+60001+30000) (J:=20000) (H:=16) (by omega) (by omega) (by omega)
   have cG:=ht4.bs.cell
   have fG:=ht4.bs.frozen
   have fin:=ht4.setS hs' hn'
   go_wp2_with fail
   go_meet
   exact⟨_,_,_,_,hg',fin⟩
  ·have hy':((y:Int)==0)=false:=by simp;omega
   go_wp2_with fail
   go_meet
   exact⟨_,_,_,_,hg1,ht3.more (by omega) (by omega) (by omega)⟩
 case rest =>
  clear ht3 hr5 hd5 hg1
  obtain⟨s,A,n,c,hg1,ht3⟩:=hcut
  go_wp2_with fail
  refine (zn ht3.at_.rd (by omega)).mono ?_
  rintro e w5 ⟨y,rfl,-,-,hr5,hd5⟩
  have ht4:=(ht3.drawn hd5 hr5).more (N:=M+100000) (J:=20000) (H:=16) (by omega) (by omega) (by omega)
  clear ht3
  go_upto_if 18 with fail
  go_cut [] (fun wx=>∃ (t:Sys) (C:Option Addr) (k c2:Nat),Good t∧Tri w wx R (M+100000+30000) 20000 16 w.heap.size (w.heap.size+1+1) (w.heap.size+1) Gs Gt 0 s A n c t C k c2 autZ none 0 0 none 0 0)
  case first =>
   by_cases hy:y=0
   ·subst hy
    go_wp2_with fail
    refine (zcT ht4.at_.rd (by omega)).mono ?_
    rintro e w6 ⟨s',A',n',c',rfl,hs',hg',hn',hr6,hd6⟩
    have ht5:=(ht4.drawn hd6 hr6).more (N:=M+100000+30000) (J:=20000) (H:=16) (by omega) (by omega) (by omega)
    have cG:=ht5.bt.cell
    have fG:=ht5.bt.frozen
    have fin:=ht5.setT hs' hn'
    go_wp2_with fail
    go_meet
    exact⟨_,_,_,_,hg',fin⟩
   ·have hy':((y:Int)==0)=false:=by simp;omega
    go_wp2_with fail
    go_meet
    exact⟨_,_,_,_,hg2,ht4.more (by omega) (by omega) (by omega)⟩
  case rest =>
   clear ht4 hr5 hd5 hg2
   obtain⟨t,C,k,c2,hg2,ht4⟩:=hcut
   obtain⟨a1,p1,ha1,ha1',-⟩:=hg1
   obtain⟨a2,p2,ha2,ha2',-⟩:=hg2
   obtain⟨hor,hol⟩:=or_al ha1' ha2'
   obtain⟨wE,hwE⟩:∃ wE,wE=wc:=⟨_,rfl⟩
   subst hwE
   have hge:=hide ht4.ge
   have hRw:=ht4.at_.hR
   have cS:∀ W,Frm (fun k=>k=R∨k=w.heap.size∨k=w.heap.size+1) wE W→∀ q,W.cell? ⟨Gs,q,none⟩=#[Value.int .i64 a1,.int .i64 s.st,.slice A n c][q]?:=fun W hW=>by rw [← ha1];exact (ht4.bs.frm hW (by have:=hge.out;have:=hne.out;omega)).cell
   have cT:∀ W,Frm (fun k=>k=R∨k=w.heap.size∨k=w.heap.size+1) wE W→∀ q,W.cell? ⟨Gt,q,none⟩=#[Value.int .i64 a2,.int .i64 t.st,.slice C k c2][q]?:=fun W hW=>by rw [← ha2];exact (ht4.bt.frm hW (by have:=hge.out;have:=hne.out;omega)).cell
   have hS0:Frm (fun k=>k=R∨k=w.heap.size∨k=w.heap.size+1) wE wE.drew:=(Ext.refl wE).drew.toFrm
   have hsal:=hide ha1
   have htal:=hide ha2
   clear ha1 ha2
   go_wp2_with fail
   refine tR (fun X=>Frm (fun k=>k=R∨k=w.heap.size∨k=w.heap.size+1) wE X) [11] (Ord.of [0,1,2,3,4,5,6,8,7,9,10,11]) ?_
   refine tQ ?_
   (refine zj rfl rfl rfl (fun K hK=>?_);go_simp)
   refine (zfS (ht4.at_.rd.ext (Ext.refl wE).drew) (by omega) hol).mono ?_
   rintro e w7 ⟨p,B,m,d,B',m',d',rfl,hp,hgp,hr7,hd7⟩
   have hd17:Dr R wE w7:=(Dr.refl R wE).drew.trans hd7
   have ht5:=(ht4.drawn hd17 hr7).more (N:=M+150000) (J:=20000) (H:=16) (by omega) (by omega) (by omega)
   have hS7:Frm (fun k=>k=R∨k=w.heap.size∨k=w.heap.size+1) wE w7:=hd17.mono (fun k _ hk=>.inl hk)
   refine hK.out _ _ hS7 ?_
   refine pT ?_
   refine tQ ?_
   have hsz7:=hd17.size
   have hRE:=ht4.at_.rd.lt
   have cs:=ht5.zs.cell
   have ct:=ht5.zt.cell
   have cp:=ht5.zp.cell
   have fs:=ht5.zs.frozen
   have ft:=ht5.zt.frozen
   have fp:=ht5.zp.frozen
   obtain⟨f1,f2⟩:=zbl.finSPT ({ ht5.at_ with ip:=hp.less (by simp;omega),bd:=hide (BdA.of hgp.out) }) ht5.zs ht5.zt ht5.zp rfl rfl rfl (by omega) (by omega) (by omega) (by omega) (by omega) (by omega)
   rw [hsal.out,htal.out] at f1 f2
   (refine zj rfl rfl rfl (fun K hK=>?_);go_simp)
   have hS8:=hS7.trans ((zZ w7 w.heap.size (.int .i64 a1) (.int .i64 s.st) (.slice A n c)).mono (T:=fun k=>k=R∨k=w.heap.size∨k=w.heap.size+1) (fun k _ hk=>.inr (.inl hk)))
   refine hK.out _ _ hS8 ?_
   refine pT ?_
   (refine zj rfl rfl rfl (fun K hK=>?_);go_simp)
   have hS9:=hS8.trans ((zZ _ (w.heap.size+1) (.int .i64 p.al) (.slice B m d) (.slice B' m' d')).mono (T:=fun k=>k=R∨k=w.heap.size∨k=w.heap.size+1) (fun k _ hk=>.inr (.inr hk)))
   refine hK.out _ _ hS9 ?_
   refine pT ?_
   (refine zy rfl rfl rfl rfl (fun K hK=>?_))
   go_simp
   refine hK.out _ _ ?_
   refine zG ?_
   go_wp2_with fail
   obtain⟨g1,g2,g3⟩:=f2.out
   have c1:=g1.cell
   have cc2:=g2.cell
   have c3:=g3.cell
   exact bodyPost_ret (v:=.tuple #[.agg #[.int .i64 a1,.int .i64 s.st,.slice A n c],.agg #[.int .i64 p.al,.slice B m d,.slice B' m' d'],.agg #[.int .i64 a2,.int .i64 t.st,.slice C k c2]]) (by simp [results,Tryz.results105,go_sem,c1,cc2,c3]) rfl ⟨s,A,n,c,t,C,k,c2,p,B,m,d,B',m',d',by rw [hsal.out,htal.out],f1.out⟩
set_option maxHeartbeats 4000000
theorem pickA {p x:Nat}(h:1≤(p:Int)→(x:Int)<p)(h0:(p:Int)<1→x=0):x<p+1:=by
 rcases Nat.lt_or_ge 0 p with h1|h1
 ·have:=h (by omega);omega
 ·have:=h0 (by omega);omega
theorem e_filledA {R M M' E x y p:Nat} {w2 w4:World}(hb:Blk w4 E 126 #[.int .i64 0,.int .i64 0,.int .i64 0])(hr:Rd w4 R M')(hd:Dr R w2 w4)(hE:w2.heap.size≤E)(hR:R<w2.heap.size)(hx:x<p+1)(hy:y<p+1)(hM:M'≤M) :
  ∃ E' x' y':Nat,Value.pointer (some ⟨E,0,none⟩)=.pointer (some ⟨E',0,none⟩)∧x'<p+1∧y'<p+1∧w2.heap.size≤E'∧Blk (((w4.setCell ⟨E,0,none⟩ (.int .i64 x)).setCell ⟨E,1,none⟩ (.int .i64 0)).setCell ⟨E,2,none⟩ (.int .i64 y)) E' 126 #[.int .i64 x',.int .i64 0,.int .i64 y']∧Rd (((w4.setCell ⟨E,0,none⟩ (.int .i64 x)).setCell ⟨E,1,none⟩ (.int .i64 0)).setCell ⟨E,2,none⟩ (.int .i64 y)) R M∧Dr R w2 (((w4.setCell ⟨E,0,none⟩ (.int .i64 x)).setCell ⟨E,1,none⟩ (.int .i64 0)).setCell ⟨E,2,none⟩ (.int .i64 y)):=by
 have hf:=zaU w4 E (.int .i64 x) (.int .i64 0) (.int .i64 y)
 refine⟨E,x,y,rfl,by omega,by omega,hE,by simpa using ((hb.set_ 0 (.int .i64 x)).set_ 1 (.int .i64 0)).set_ 2 (.int .i64 y),(hr.frm hf (fun k h1 h2=>by omega)).more hM,?_⟩
 exact ((hd.setNew (p:=⟨E,0,none⟩) hE _).setNew (p:=⟨E,1,none⟩) hE _).setNew (p:=⟨E,2,none⟩) hE _
set_option maxRecDepth 100000 in
theorem zgj {R M n c L a p:Nat} {A:Option Addr} {es:List Edg} {w:World}(h:Rd w R M)(hM:M≤900000000)(hs:zau w R A n ⟨a,p,es⟩)(ha:a<64)(hp:p≤16)(hfew:Few (p+1) es)(hn:n≤L)(hL:L≤100000) :
  Calls Tryz.prog 108 #[.pointer (some ⟨R,0,none⟩),.agg #[.int .i64 a,.int .i64 p,.slice A n c]] w (RetA R (M+10) (L+1) w):=by
 have hRl:=h.lt
 have hr0:=hs.at_.2
 have hen:=hide hs.1
 have Hfew:=hide hfew
 have hsm:Sm a:=by unfold Sm;omega
 have hx1:Ext w (((w.alloc (.cells #[.int .i64 a,.int .i64 p,.slice A n c] 39)).alloc (.cells #[.int .i64 0,.int .i64 0,.slice none 0 0] 39)).alloc (.cells #[.int .i64 a,.int .i64 p,.slice none 0 0] 39)):=(((Ext.refl _).alloc _).alloc _).alloc _
 obtain⟨bS,bZ,bG⟩:=zU (Ext.refl (((w.alloc (.cells #[.int .i64 a,.int .i64 p,.slice A n c] 39)).alloc (.cells #[.int .i64 0,.int .i64 0,.slice none 0 0] 39)).alloc (.cells #[.int .i64 a,.int .i64 p,.slice none 0 0] 39)))
 have HbS:=hide bS
 have HbZ:=hide bZ
 have HbG:=hide bG
 have Hx1:=hide hx1
 clear bS bZ bG hx1 hs hfew
 go_enter Tryz.func108,Tryz.ntmps108
 go_wp2_with fail
 generalize ((w.alloc (.cells #[.int .i64 a,.int .i64 p,.slice A n c] 39)).alloc (.cells #[.int .i64 0,.int .i64 0,.slice none 0 0] 39)).alloc (.cells #[.int .i64 a,.int .i64 p,.slice none 0 0] 39)=w1 at *
 refine (zn (h.ext Hx1.out) (by omega)).mono ?_
 rintro e w2 ⟨gone,rfl,-,-,hr2,hd2⟩
 have hz1:=HbG.out.lt
 have bS2:=HbS.out.dr hd2 (by omega)
 have bZ2:=HbZ.out.dr hd2 (by omega)
 have bG2:=HbG.out.dr hd2 (by omega)
 have hw2:=Hx1.out.dr.trans hd2
 have cS:∀ W,Dr R w2 W→∀ q,W.cell? ⟨w.heap.size,q,none⟩=#[Value.int .i64 a,.int .i64 p,.slice A n c][q]?:=fun W hW=>(bS2.dr hW (by omega)).cell
 go_upto_region 3 with fail
 go_cut [7] (fun s7 wx=>∃ E x y:Nat,s7=.pointer (some ⟨E,0,none⟩)∧x<p+1∧y<p+1∧w2.heap.size≤E∧Blk wx E 126 #[.int .i64 x,.int .i64 0,.int .i64 y]∧Rd wx R (M+3)∧Dr R w2 wx)
 case first =>
  refine tR (fun X=>Dr R w2 X) [10] (Ord.app [0,1,2,4,5,6] (Ord.two 3 (Ord.two 7 (Ord.of [8,9,10]) 9 (Ord.of [7,8,10])) 9 (Ord.of [3,7,8,10]))) ?_
  refine tQ ?_
  refine zbO rfl rfl rfl rfl (fun K hK=>?_) (fun K hK=>?_)
  ·go_simp
   refine (zn (n:=p) (hr2.ext ((Ext.refl _).drew)) (by omega)).mono ?_
   rintro e w3 ⟨x,rfl,hx,hx0,hr3,hd3⟩
   have hd23:Dr R w2 w3:=((Dr.refl R w2).drew).trans hd3
   refine hK.out _ _ hd23 ?_
   refine pT ?_
   refine zbO rfl rfl rfl rfl (fun K hK=>?_) (fun K hK=>?_)
   ·go_simp
    refine (zn (n:=p) hr3 (by omega)).mono ?_
    rintro e w4 ⟨y,rfl,hy,hy0,hr4,hd4⟩
    have hd24:=hd23.trans hd4
    refine hK.out _ _ hd24 ?_
    refine pT ?_
    refine tQ ?_
    (refine zj rfl rfl rfl (fun K hK=>?_);go_simp)
    refine hK.out _ _ (hd24.alloc _) ?_
    refine pT ?_
    refine tQ ?_
    (refine zy rfl rfl rfl rfl (fun K hK=>?_))
    go_simp
    refine hK.out _ _ ?_
    refine zG ?_
    go_wp2_with fail
    go_meet
    exact⟨w4.heap.size,x,y,rfl,by omega,by omega,hd24.size,Blk.new _ _ _,hr4.ext ((Ext.refl _).alloc _),hd24.alloc _⟩
   ·go_simp
    have hx3:=(Ext.refl w3).alloc (.cells #[.int .i64 0,.int .i64 0,.int .i64 0] 126)
    have hb3:=Blk.new w3 126 #[.int .i64 0,.int .i64 0,.int .i64 0]
    have hd23':=hd23.ext hx3
    have hr3':=hr3.ext hx3
    have hRw:=hr3.lt
    refine hK.out _ _ hd23' ?_
    generalize w3.alloc (.cells #[.int .i64 0,.int .i64 0,.int .i64 0] 126)=w3' at *
    refine pT ?_
    (refine zj rfl rfl rfl (fun K hK=>?_);go_simp)
    refine (zn (n:=p) hr3' (by omega)).mono ?_
    rintro e w4 ⟨y,rfl,hy,hy0,hr4,hd4⟩
    have hd24:=hd23'.trans hd4
    have hb4:=hb3.dr hd4 (by omega)
    refine hK.out _ _ hd24 ?_
    refine pT ?_
    refine tQ ?_
    have cE:=hb4.cell
    have fE:=hb4.frozen
    (refine zy rfl rfl rfl rfl (fun K hK=>?_))
    go_simp
    refine hK.out _ _ ?_
    refine zG ?_
    go_wp2_with fail
    go_meet
    exact e_filledA hb4 hr4 hd24 hd23.size hr2.lt (pickA hx hx0) (pickA hy hy0) (by omega)
  ·go_simp
   have hx2:=((Ext.refl w2).alloc (.cells #[.int .i64 0,.int .i64 0,.int .i64 0] 126)).drew
   have hb2:Blk (w2.alloc (.cells #[.int .i64 0,.int .i64 0,.int .i64 0] 126)).drew w2.heap.size 126 #[.int .i64 0,.int .i64 0,.int .i64 0]:=Blk.new w2 _ _
   have hr2':=hr2.ext hx2
   have hRw:=hr2.lt
   have hd22:Dr R w2 (w2.alloc (.cells #[.int .i64 0,.int .i64 0,.int .i64 0] 126)).drew:=hx2.dr
   refine hK.out _ _ hd22 ?_
   generalize (w2.alloc (.cells #[.int .i64 0,.int .i64 0,.int .i64 0] 126)).drew=w2' at *
   refine pT ?_
   (refine zj rfl rfl rfl (fun K hK=>?_);go_simp)
   refine (zn (n:=p) hr2' (by omega)).mono ?_
   rintro e w3 ⟨x,rfl,hx,hx0,hr3,hd3⟩
   have hd23:=hd22.trans hd3
   have hb3:=hb2.dr hd3 (by omega)
   refine hK.out _ _ hd23 ?_
   refine pT ?_
   (refine zj rfl rfl rfl (fun K hK=>?_);go_simp)
   refine (zn (n:=p) hr3 (by omega)).mono ?_
   rintro e w4 ⟨y,rfl,hy,hy0,hr4,hd4⟩
   have hd24:=hd23.trans hd4
   have hb4:=hb3.dr hd4 (by omega)
   refine hK.out _ _ hd24 ?_
   refine pT ?_
   refine tQ ?_
   have cE:=hb4.cell
   have fE:=hb4.frozen
   (refine zy rfl rfl rfl rfl (fun K hK=>?_))
   go_simp
   refine hK.out _ _ ?_
   refine zG ?_
   go_wp2_with fail
   go_meet
   exact e_filledA hb4 hr4 hd24 (Nat.le_refl _) hRw (pickA hx hx0) (pickA hy hy0) (by omega)
 case rest =>
  obtain⟨E,x,y,rfl,hx,hy,hE,hbE,hr3,hd3⟩:=hcut
  have hw3:=hw2.trans hd3
  have bS3:=bS2.dr hd3 (by omega)
  have bZ3:=bZ2.dr hd3 (by omega)
  have bG3:=bG2.dr hd3 (by omega)
  have hz2:=bG2.lt
  clear cS
  have cS:=bS3.cell
  go_wp2_with fail
  refine (zI a hsm _).mono ?_
  rintro e w4 ⟨B,d,rfl,hown4,hx4⟩
  have hw4:=hw3.ext hx4
  have bS4:=bS3.ext hx4
  have bZ4:=bZ3.ext hx4
  have bG4:=bG3.ext hx4
  have bE4:=hbE.ext hx4
  have hr4:=hr3.ext hx4
  have hE3:=hbE.lt
  have hl6:=zx a 6
  have hlm:=hide (fun k (hk:k∈letters a 6)=>(zaF.1 hk).1)
  have hrd4:=(Reads.of_own hown4)
  have hz23:=hd3.size
  have hz34:=hx4.size
  have hRz:=hr2.lt
  clear cS hown4 hx4 bS3 bZ3 bG3 hbE hr3 hw3 HbS HbZ HbG Hx1 bS2 bZ2 bG2 hw2 hr2
  generalize letters a 6=ls at *
  go_upto_region 5 with fail
  go_cut [9] (fun s9 wx=>∃ b:Bool,s9=.bool b∧(b=true→0<ls.length)∧Rd wx R (M+4)∧Dr R w4 wx)
  case first =>
   by_cases hl:0<ls.length
   ·go_wp2_with fail
    refine (zn hr4 (by omega)).mono ?_
    rintro e w5 ⟨z,rfl,-,-,hr5,hd5⟩
    go_wp2_with fail
    go_meet
    exact⟨_,rfl,fun _=>hl,hr5,hd5⟩
   ·go_wp2_with fail
    go_meet
    exact⟨false,rfl,fun h=>by (first|cases h|omega),hr4.more (by omega),Dr.refl _ _⟩
  case rest =>
   obtain⟨b,rfl,hbl,hr5,hd5⟩:=hcut
   go_upto_if 42 with fail
   go_cut [] (fun wx=>∃ l:Nat,l<6∧Blk wx E 126 #[.int .i64 x,.int .i64 l,.int .i64 y]∧Blk wx w.heap.size 39 #[.int .i64 a,.int .i64 p,.slice A n c]∧Blk wx (w.heap.size+1) 39 #[.int .i64 0,.int .i64 0,.slice none 0 0]∧Blk wx (w.heap.size+1+1) 39 #[.int .i64 a,.int .i64 p,.slice none 0 0]∧Rd wx R (M+5)∧Dr R w wx)
   case first =>
    have bS5:=bS4.dr hd5 (by omega)
    have bZ5:=bZ4.dr hd5 (by omega)
    have bG5:=bG4.dr hd5 (by omega)
    have bE5:=bE4.dr hd5 (by omega)
    have hw5:=hw4.trans hd5
    clear bS4 bZ4 bG4 bE4 hw4 hr4
    cases b
    ·go_wp2_with fail
     go_meet
     exact⟨0,by omega,bE5,bS5,bZ5,bG5,hr5.more (by omega),hw5⟩
    ·have hl0:=hbl rfl
     have hl1:(1:Int)≤(ls.length:Int):=by omega
     clear hbl
     go_wp2_with fail
     refine (zn hr5 (by omega)).mono ?_
     rintro e w6 ⟨z,rfl,hz,-,hr6,hd6⟩
     have hzl:=hz hl1
     have hzl':z<ls.length:=by omega
     obtain⟨ad,l,rfl,_,_,hl,hlc⟩:=((hrd4.dr hd5 (by omega)).dr hd6 (by omega)).nat hzl'
     have hl6':=hlm.out l (List.mem_of_getElem? hl.out)
     have bS6:=bS5.dr hd6 (by omega)
     have bZ6:=bZ5.dr hd6 (by omega)
     have bG6:=bG5.dr hd6 (by omega)
     have bE6:=bE5.dr hd6 (by omega)
     have hw6:=hw5.trans hd6
     have cE:=bE6.cell
     have fE:=bE6.frozen
     have hf:=Frm.setCell w6 E 1 (.int .i64 (l:Nat))
     clear hz bS5 bZ5 bG5 bE5 hw5
     go_wp2_with fail
     go_meet
     exact⟨l,hl6',by simpa using bE6.set_ 1 (.int .i64 (l:Nat)),bS6.frm hf (by omega),bZ6.frm hf (by omega),bG6.frm hf (by omega),(hr6.frm hf (fun k h1 h2=>by omega)),hw6.setNew (by dsimp only;omega) _⟩
   case rest =>
    obtain⟨l,hl,bE,bS,bZ,bG,hrB,hdB⟩:=hcut
    clear bS4 bZ4 bG4 bE4 hw4 hr4 hd5 hr5 hlm hrd4 hl6 hbl
    obtain⟨wB,hwB⟩:∃ wB,wB=wc:=⟨_,rfl⟩
    subst hwB
    have hacc:Acc w wB wB R (w.heap.size+1+1) (M+5) a p (.slice none 0 0) []:=⟨bG,World.ownsRow_nil _ _ _ _,hrB,hdB,Frm.refl _ _,hRl,hdB.size,by omega⟩
    have hEz:=bE.lt
    have hSz:=bG.lt
    clear bG
    go_wp2_with fail
    go_loopw [9,10] (fun v i wr=>∃ (b:Bool) (k:Nat),k≤n∧i=.int .i64 k∧v=.bool b∧∃ (u:Value) (fs:List Edg),Acc w wB wr R (w.heap.size+1+1) (M+5) a p u fs∧fs.length+b.toNat≤k+1∧Hid (Few (p+1) fs)) (fun _ i _=>n - (intOf i).toNat)
    case atStart=>exact⟨b,0,Nat.zero_le _,rfl,rfl,_,[],hacc,by cases b<;>decide,zgJ (p+1)⟩
    case round =>
     clear hacc
     obtain⟨b,k,hk,rfl,rfl,u,fs,hacc,hlen,hfw⟩:=hrel
     have bS1:=bS.frm hacc.fr (by omega)
     have bE1:=bE.frm hacc.fr (by omega)
     have cS:=bS1.cell
     have hxyl:(0≤(x:Int)∧(x:Int)<((p+1:Nat):Int))∧(0≤(l:Int)∧(l:Int)<6)∧(0≤(y:Int)∧(y:Int)<((p+1:Nat):Int)):=by omega
     by_cases hlt:k<n
     ·obtain⟨b0,o0,ed,rfl,hlo,hhi,he,c0,c1,c2⟩:=(hr0.dr hacc.dr (by omega)).edge hlt
      have hedf:=hide (Hfew.out ed (List.mem_of_getElem? he.out))
      go_upto_region 11 with fail
      clear cS
      go_cut [67] (fun s wx=>∃ q:Bool,s=.bool q∧(q=true→b=true)∧Ext wr wx)
      case first =>
       have cS:=bS1.cells
       have cE:=bE1.cells
       have C0:∀ W,Ext wr W→W.cell? ⟨b0,o0+k*3,none⟩=some (.int .i64 ed.fr):=fun W hW=>hW.cell_some c0
       have C1:∀ W,Ext wr W→W.cell? ⟨b0,o0+k*3+1,none⟩=some (.int .i64 ed.le):=fun W hW=>hW.cell_some c1
       have C2:∀ W,Ext wr W→W.cell? ⟨b0,o0+k*3+2,none⟩=some (.int .i64 ed.ta):=fun W hW=>hW.cell_some c2
       have hww:=Ext.refl wr
       cases b
       ·go_wp2_with fail
        go_quiet (fail)
        go_wp2_with fail
        go_meet
        exact⟨false,rfl,fun h=>h,(Ext.refl _).drewN _⟩
       ·go_wp2_with fail
        go_region_held3 (fun W=>Ext wr W) (first|assumption|(refine Ext.drew ?_;assumption)|(refine Ext.trans ?_ (by assumption);assumption)|(refine Ext.trans ?_ (by assumption);refine Ext.drew ?_;assumption)) ((go_at_call 173;refine (zbY (a:=⟨x,l,y⟩) (b:=ed)).mono ?_;rintro e w5 ⟨rfl,hx5⟩))
        go_wp2_with fail
        go_meet
        exact⟨_,rfl,fun _=>by trivial,by assumption⟩
      case rest =>
       obtain⟨q,rfl,hq,hxc⟩:=hcut
       replace hacc:=hacc.ext hxc
       replace bE1:=bE1.ext hxc
       go_upto_if 67 with fail
       go_cut [9] (fun s9 wx=>∃ (b:Bool) (u:Value) (fs:List Edg),s9=.bool b∧Acc w wB wx R (w.heap.size+1+1) (M+5) a p u fs∧fs.length+b.toNat≤k+1∧Hid (Few (p+1) fs))
       case first =>
        cases q
        ·go_wp2_with fail
         go_meet
         exact⟨b,u,fs,rfl,hacc,hlen,hfw⟩
        ·obtain rfl:=hq rfl
         have cG:=hacc.blk.cell
         have cE:=bE1.cell
         simp only [Bool.toNat_true] at hlen
         clear hq
         go_wp2_with (at_builtin;refine zV wB _ rfl _ _ _ rfl 126 _ 3 24 Tryz.underlying37 zas rfl (by decide) u fs.length (zm fs) _ _ rfl rfl hacc.fr.size hacc.own rfl (by simp [Value.oneCell']) (by unfold maxLen;omega) (by omega) ?_;intro g cap w3 hown3 hg3 hat3 hlt3;obtain⟨h1,h2,h3⟩:=hacc.push (e:=⟨x,l,y⟩) hown3 hg3 hat3;have h1':=h1.out)
         go_meet
         exact⟨false,_,_,rfl,h3,by simp;omega,zbW hfw.out hxyl⟩
       case rest =>
        clear hacc hlen hfw bS1 bE1 c0 c1 c2 hxc hq
        obtain⟨b,u,fs,rfl,hacc,hlen,hfw⟩:=hcut
        obtain⟨wr,hwr⟩:∃ wr,wr=wc:=⟨_,rfl⟩
        subst hwr
        have bS1:=bS.frm hacc.fr (by omega)
        have bE1:=bE.frm hacc.fr (by omega)
        obtain⟨c0,c1,c2⟩:=(hr0.dr hacc.dr (by omega)).edge2 he.out
        go_upto_region 14 with fail
        go_cut [83] (fun s wx=>∃ q:Bool,s=.bool q∧Ext wr wx)
        case first =>
         have cS:=bS1.cells
         have cE:=bE1.cells
         have C0:∀ W,Ext wr W→W.cell? ⟨b0,o0+k*3,none⟩=some (.int .i64 ed.fr):=fun W hW=>hW.cell_some c0
         have C1:∀ W,Ext wr W→W.cell? ⟨b0,o0+k*3+1,none⟩=some (.int .i64 ed.le):=fun W hW=>hW.cell_some c1
         have C2:∀ W,Ext wr W→W.cell? ⟨b0,o0+k*3+2,none⟩=some (.int .i64 ed.ta):=fun W hW=>hW.cell_some c2
         have hww:=Ext.refl wr
         cases b
         ·go_wp2_with fail
          go_quiet (fail)
          go_wp2_with fail
          go_meet
          exact⟨false,rfl,(Ext.refl _).drewN _⟩
         ·go_wp2_with fail
          refine sR (fun X=>Ext wr X) [0,1,2,3,4,5,6,7,8,9] (fun hS=>?_)
          refine sQ ?_
          have HE:=eq_edge (x:Int) (l:Int) (y:Int) ed.fr ed.le ed.ta
          refine zC (v:=.bool (((x:Int)==ed.fr)&&(((l:Int)==ed.le)&&((y:Int)==ed.ta)))) rfl rfl rfl (fun X hX=>?_) (by assumption) ?_
          ·go_simp
          ·clear HE
           refine pT ?_
           generalize (((x:Int)==ed.fr)&&(((l:Int)==ed.le)&&((y:Int)==ed.ta)))=q
           refine sQ ?_
           refine zbF ?_
           go_wp2_with fail
           go_meet
           exact⟨_,rfl,(Ext.refl _).drew⟩
        case rest =>
         obtain⟨q,rfl,hxc⟩:=hcut
         replace hacc:=hacc.ext hxc
         replace bS1:=bS1.ext hxc
         replace c0:=hxc.cell_some c0
         replace c1:=hxc.cell_some c1
         replace c2:=hxc.cell_some c2
         clear bE1 hxc
         go_upto_if 83 with fail
         go_cut [9] (fun s9 wx=>∃ b':Bool,s9=.bool b'∧b'.toNat≤b.toNat∧wc=wx)
         case first =>
          cases q
          ·go_wp2_with fail
           go_meet
           exact⟨b,rfl,Nat.le_refl _,rfl⟩
          ·go_wp2_with fail
           go_meet
           exact⟨false,rfl,Nat.zero_le _,rfl⟩
         case rest =>
          obtain⟨b',rfl,hbb,hwc⟩:=hcut
          subst hwc
          by_cases hgo:k=gone
          ·have hne:((k:Int) != (gone:Int))=false:=by simp [hgo]
           have Hgo:=hide hgo
           clear hgo
           go_wp2_with fail
           go_roundw
           case rel=>exact⟨b',k+1,by omega,by go_num,rfl,u,fs,hacc,by omega,hfw⟩
           case measure=>simp [intOf];omega
          ·have hne:((k:Int) != (gone:Int))=true:=by simp;omega
           clear hgo
           obtain⟨wr,hwr⟩:∃ wr,wr=wc:=⟨_,rfl⟩
           subst hwr
           have cS:=bS1.cells
           have cG:∀ W,Ext wr W→∀ q,W.cell? ⟨w.heap.size+1+1,q,none⟩=#[Value.int .i64 a,.int .i64 p,u][q]?:=fun W hW=>(hacc.blk.ext hW).cell
           have C0:∀ W,Ext wr W→W.cell? ⟨b0,o0+k*3,none⟩=some (.int .i64 ed.fr):=fun W hW=>hW.cell_some c0
           have C1:∀ W,Ext wr W→W.cell? ⟨b0,o0+k*3+1,none⟩=some (.int .i64 ed.le):=fun W hW=>hW.cell_some c1
           have C2:∀ W,Ext wr W→W.cell? ⟨b0,o0+k*3+2,none⟩=some (.int .i64 ed.ta):=fun W hW=>hW.cell_some c2
           go_wp2_with fail
           refine tR (fun X=>Ext wr X) [8,10] (Ord.of [0,1,2,3,4,5,6,7,8,9,10]) ?_
           refine tQ ?_
           (refine zj rfl rfl rfl (fun K hK=>?_);go_simp)
           refine hK.out _ _ ((Ext.refl _).drew.alloc _) ?_
           refine pT ?_
           (refine zy rfl rfl rfl rfl (fun K hK=>?_))
           refine zay wB wr.drew _ _ _ rfl 126 _ 3 24 Tryz.underlying37 zas rfl (by decide) u fs.length (zm fs) _ _ rfl rfl hacc.fr.size hacc.own rfl (by simp [Value.oneCell']) (by unfold maxLen;omega) (by omega) ?_
           intro g cap w3 hown3 hg3 hat3 hlt3
           refine hK.out _ _ ?_
           refine pT ?_
           refine tQ ?_
           obtain⟨h1,h2,h3⟩:=(hacc.ext ((Ext.refl _).drew)).push (e:=ed) (W':=w3) hown3 hg3 hat3
           have h1':=h1.out
           (refine zy rfl rfl rfl rfl (fun K hK=>?_))
           go_simp
           refine hK.out _ _ ?_
           refine zG ?_
           go_wp2_with fail
           go_roundw
           case rel=>exact⟨b',k+1,by omega,by go_num,rfl,_,_,h3,by simp;omega,zbW hfw.out hedf.out⟩
           case measure=>simp [intOf];omega
     ·obtain rfl:k=n:=by omega
      go_upto_if 97 with fail
      go_cut [] (fun wx=>∃ (u:Value) (fs:List Edg),Acc w wB wx R (w.heap.size+1+1) (M+5) a p u fs∧fs.length≤k+1∧Hid (Few (p+1) fs))
      case first =>
       cases b
       ·go_wp2_with fail
        go_meet
        exact⟨u,fs,hacc,by simpa using hlen,hfw⟩
       ·have cG:=hacc.blk.cell
        have cE:=bE1.cell
        simp only [Bool.toNat_true] at hlen
        go_wp2_with (at_builtin;refine zV wB _ rfl _ _ _ rfl 126 _ 3 24 Tryz.underlying37 zas rfl (by decide) u fs.length (zm fs) _ _ rfl rfl hacc.fr.size hacc.own rfl (by simp [Value.oneCell']) (by unfold maxLen;omega) (by omega) ?_;intro g cap w3 hown3 hg3 hat3 hlt3;obtain⟨h1,h2,h3⟩:=hacc.push (e:=⟨x,l,y⟩) hown3 hg3 hat3;have h1':=h1.out)
        go_meet
        exact⟨_,_,h3,by simp;omega,zbW hfw.out hxyl⟩
      case rest =>
       clear hacc hlen hfw cS bS1 bE1
       obtain⟨u,fs,hacc,hlen,hfw⟩:=hcut
       obtain⟨A',n',c',rfl⟩:=hacc.form
       obtain⟨rfl,_⟩:=hacc.reads
       have hcap:=zdO hacc.own
       have cG:=hacc.blk.cell
       have bz2:=bZ.frm hacc.fr (by omega)
       have cz:=bz2.cell
       have hzz:=bZ.lt
       have fz:=bz2.frozen
       obtain⟨f1,f2,f3⟩:=hacc.fin (Z:=w.heap.size+1) (by omega) (by omega) (.int .i64 a) (.int .i64 p) (.slice A' fs.length c')
       have Hfin:=hide (show RetA R (M+10) (L+1) w (.returned (.agg #[.int .i64 a,.int .i64 p,.slice A' fs.length c'])) _ from ⟨⟨a,p,fs⟩,A',fs.length,c',rfl,f1,by omega,f2.more (by omega),f3⟩)
       clear f1 f2 f3
       go_wp2_with fail
       exact bodyPost_ret (v:=.agg #[.int .i64 a,.int .i64 p,.slice A' fs.length c']) (by simp [results,Tryz.results108,go_sem,cz]) rfl Hfin.out
theorem zdC {R M n c L:Nat} {A:Option Addr} {s:Sys} {w:World}(h:Rd w R M)(hM:M≤900000000)(hs:zau w R A n s)(hf:Fair s)(hn:n≤L)(hL:L≤100000) :
  Calls Tryz.prog 108 #[.pointer (some ⟨R,0,none⟩),.agg #[.int .i64 s.al,.int .i64 s.st,.slice A n c]] w (RetA R (M+10) (L+1) w):=by
 obtain⟨al,st,es⟩:=s
 obtain⟨a,p,h1,h2,h3,h5,h6⟩:=hf
 simp only at h1 h3 h6
 subst h1;subst h3
 exact zgj h hM hs h2 h5 h6 hn hL
set_option maxHeartbeats 2000000
theorem yM04a2 {P:Prop}(h:P:=by
 go_wp2_with (at_builtin;refine zN w wr rfl _ _ _ rfl 9 _ 1 16 Tryz.underlying101 zl rfl (by decide) u5 _ _ _ _ rfl rfl hext hown rfl (zbu _) (by unfold maxLen;omega) (by omega) ?_;intro v' w1 hext1 hown1 hg1 hat1)
 go_roundw
 case rel=>exact⟨k+1,k+1,l++[s.extract m k],by omega,by go_num,by omega,by go_num,by simp;omega,by simpa [strs] using hown1,hall.out,by assumption⟩
 case measure=>simp [intOf];omega
 ):P:=h
theorem spec_l19CutC {s:ByteArray} {w:World}(hs:s.size≤1000000) :
  Calls Tryz.prog 158 #[.string s,.int .u8 44] w (RetStrs s.size (s.size+1) w):=by
 go_enter Tryz.func158,Tryz.ntmps158
 go_wp2_with fail
 go_loopw [5,6,7] (fun v f i wr=>∃ (k m:Nat) (l:List ByteArray),k≤s.size+1∧i=.int .i64 k∧m≤k∧f=.int .i64 m∧l.length≤k∧wr.ownsRow w.heap.size 9 1 v l.length (strs l)∧Hid (∀ x∈l,x.size≤s.size)∧Ext w wr) (fun _ _ i _=>s.size+1 - (intOf i).toNat)
 case atStart=>exact⟨0,0,[],Nat.zero_le _,rfl,Nat.le_refl _,rfl,Nat.le_refl _,World.ownsRow_lit w #[] 0 (Nat.le_refl _) (by unfold maxLen;omega) rfl,(fun x hx=>by cases hx),(Ext.refl _).alloc _⟩
 case round =>
  obtain⟨k,m,l,hk,rfl,hm,rfl,hl,hown,hlx,hext⟩:=hrel
  by_cases hle:k≤s.size
  ·have hle':(k:Int)≤(s.size:Int):=by omega
   have hm':(m:Int)≤(k:Int):=by omega
   have hex:=hide (show (s.extract m k).size≤s.size by rw [ByteArray.size_extract];omega)
   have hall:=hide (show ∀ x∈l++[s.extract m k],x.size≤s.size from fun x hx=>by
    rcases List.mem_append.1 hx with h1|h1
    ·exact hlx.out x h1
    ·rw [List.mem_singleton.1 h1];exact hex.out)
   by_cases he:k=s.size
   ·have heq:((k:Int)==(s.size:Int))=true:=by simp [he]
    have He:=hide he
    clear he
    exact yM04a2
   ·have heq:((k:Int)==(s.size:Int))=false:=by rw [beq_eq_false_iff_ne];omega
    have hlt:k<s.size:=by omega
    have hb:=zbP s k hlt
    cases hc:((s[k].toNat:Int)==44)
    ·go_wp2_with fail
     go_roundw
     case rel=>exact⟨k+1,m,l,by omega,by go_num,by omega,rfl,by omega,hown,hlx,hext⟩
     case measure=>simp [intOf];omega
    ·exact yM04a2
  ·obtain rfl:k=s.size+1:=by omega
   obtain⟨A,c,rfl⟩:=ze hown
   go_wp2_with fail
   go_ret
   exact⟨A,_,c,l,rfl,rfl,hown,hlx.out,by omega,hext⟩
set_option maxHeartbeats 400000
def RetIntsS (N:Nat) (w:World) (e:Ending) (w':World):Prop:=∃ (A:Option Addr) (n c:Nat) (l:List Int) (ok:Bool),e=.returned (.tuple #[.slice A n c,.bool ok])∧n=l.length∧w'.ownsRow w.heap.size 3 1 (.slice A n c) n (ints l)∧n≤N∧Ext w w'
theorem spec_l3Parse {s:ByteArray} {w:World}(hs:s.size≤1000) :
  Calls Tryz.prog 160 #[.string s] w (RetIntsS (s.size+1) w):=by
 have h0:=World.ownsRow_lit (base:=w.heap.size) (e:=3) (size:=1) w #[] 0 (Nat.le_refl _) (by unfold maxLen;omega) rfl
 have hx1:=(Ext.refl w).alloc (.cells #[] 3)
 go_enter Tryz.func160,Tryz.ntmps160
 go_upto_region 2 with fail
 obtain⟨K,hK⟩:∃ K,Hid (K=w.heap.size):=⟨_,hide rfl⟩
 rw [← hK.out] at h0 ⊢
 generalize w.alloc (.cells #[] 3)=w1 at *
 cases he:s.toList.isEmpty
 ·go_wp2_with fail
  refine (spec_l19CutC (s:=s) (by omega)).mono ?_
  rintro e w2 ⟨B,m,d,l,rfl,hml,hown2,hlx,hm,hx2⟩
  have hw2:=hx1.trans hx2
  have h02:=zd h0 hx2
  have Hlx:=hide hlx
  have Hml:=hide hml
  have hm1:m≤s.size+1:=hm
  clear hlx hml h0 he hm
  go_wp2_with fail
  go_loopw [4,6] (fun v iv wr=>∃ (k:Nat) (ls:List Int),k≤m∧iv=.int .i64 (k:Nat)∧wr.ownsRow K 3 1 v k (ints ls)∧Hid (ls.length=k)∧wr.ownsRow w1.heap.size 9 1 (.slice B m d) m (strs l)∧Ext w wr) (fun _ iv _=>m - (intOf iv).toNat)
  case atStart=>exact⟨0,[],Nat.zero_le _,rfl,h02,hide rfl,hown2,hw2⟩
  case round =>
   clear h02 hown2 hw2 hx2
   obtain⟨k,ls,hk,rfl,hv,hll,hstr,hw⟩:=hrel
   obtain⟨A5,c5,rfl⟩:=ze hv
   by_cases hlt:k<m
   ·obtain⟨gB,rfl,-,-⟩:=zag hstr (by omega)
    obtain⟨ad,xk,hae,-,-,hxk,hck⟩:=(Reads.of_own hstr).str hlt
    obtain rfl:=Option.some.inj hae
    rw [zL,Nat.zero_add] at hck
    have hbk:=hide (Hlx.out xk (List.mem_of_getElem? hxk.out))
    go_wp2_with fail
    refine (zcR (s:=xk) (by have:=hbk.out;omega)).mono ?_
    rintro e w3 ⟨x,ok,rfl,rfl⟩
    cases ok
    ·go_wp2_with fail
     exact bodyPost_ret (v:=.tuple #[.slice none 0 0,.bool false]) (by simp [results,Tryz.results160,go_sem]) rfl ⟨none,0,0,[],false,rfl,rfl,World.ownsRow_nil _ _ _ _,by omega,hw⟩
    ·have hsz:=hw.size
     go_wp2_with (at_builtin;refine zV w wr rfl _ _ _ rfl 3 _ 1 8 Tryz.underlying71 zaf rfl (by decide) (.slice A5 k c5) k (ints ls) _ _ rfl rfl hsz (by rw [← hK.out];exact hv) rfl (by simp [Value.oneCell']) (by unfold maxLen;omega) (by omega) ?_;intro g5 cap5 w5 hown5 hg5 hat5 hlt5)
     go_roundw
     case rel=>exact⟨k+1,ls++[x],by omega,by go_num,by rw [hK.out];simpa [ints] using hown5,hide (by have:=hll.out;simp;omega),zb hstr (Frm.of_grown hg5) (fun b hb hS=>zaV hstr hv (by decide) hb hS),hw.grown hg5 (fun j hj=>by have:=(hv.lt j hj).1;have:=hK.out;omega)⟩
     case measure=>simp [intOf];omega
   ·obtain rfl:k=m:=by omega
    go_wp2_with fail
    exact bodyPost_ret (v:=.tuple #[.slice A5 k c5,.bool true]) (by simp [results,Tryz.results160,go_sem]) rfl ⟨A5,k,c5,ls,true,rfl,hll.out.symm,by rw [← hK.out];exact hv,hm1,hw⟩
 ·go_wp2_with fail
  exact bodyPost_ret (v:=.tuple #[.slice (some ⟨K,0,none⟩) 0 0,.bool true]) (by simp [results,Tryz.results160,go_sem]) rfl ⟨some ⟨w.heap.size,0,none⟩,0,0,[],true,by rw [hK.out],rfl,by rw [hK.out] at h0;exact h0,by omega,hx1⟩
set_option maxHeartbeats 400000
def rowB (k n:Nat) (row:List Int):Bool:=decide (row.length=k)&&row.all fun q=>decide (0≤q∧q<n)
def zk (a:Aut):Bool:=
 decide (0≤a.al∧a.al≤63)&&(decide (1≤a.next.length∧a.next.length≤12)&&(decide (a.acc.length=a.next.length)&&a.next.all (rowB (letters a.al.toNat 6).length a.next.length)))
theorem zgw (lo hi:Nat) (A:Option Addr) (n c:Nat) (l:List Int) (k m:Nat) (w:World)(h:Reads w lo hi 1 A n (ints l))(hk:k≤100) (_hm:m≤100) :
  Calls Tryz.prog 97 #[.slice A n c,.int .i64 k,.int .i64 m] w fun e w'=>e=.returned (.bool (rowB k m l))∧w=w':=by
 have hn:=h.len
 have hl:l.length=n:=by have:=h.length;rw [zdL] at this;omega
 have Hl:=hide hl
 clear hl
 by_cases he:n=k
 ·subst he
  go_enter Tryz.func97,Tryz.ntmps97
  go_wp2
  go_loop [7] (fun i=>∃ k:Nat,k≤n∧i=.int .i64 k∧Hid ((l.take k).all (fun q=>decide (0≤q∧q<m))=true)) (fun i=>n - (intOf i).toNat)
  case atStart=>exact⟨0,Nat.zero_le _,rfl,rfl⟩
  case round =>
   obtain⟨k,hk,rfl,hall⟩:=hrel
   by_cases hlt:k<n
   ·obtain⟨ad,x,rfl,_,_,hx,hcell⟩:=h.int hlt
    by_cases h0:x<0
    ·go_wp2
     go_ret
     exact⟨zh (by rw [rowB,zaA hx.out (by simp;omega),Bool.and_false]),rfl⟩
    ·by_cases h1:(m:Int)≤x
     ·go_wp2
      go_ret
      exact⟨zh (by rw [rowB,zaA hx.out (by simp;omega),Bool.and_false]),rfl⟩
     ·go_wp2
      go_round
      case rel=>exact⟨k+1,by omega,by go_num,zbJ hx.out hall.out (by simp;omega)⟩
      case measure=>simp [intOf];omega
   ·obtain rfl:k=n:=by omega
    go_wp2
    go_ret
    exact⟨zh (by rw [rowB,zdb (by have:=Hl.out;omega) hall.out,Hl.out];simp),rfl⟩
 ·go_enter Tryz.func97,Tryz.ntmps97
  go_wp2
  go_ret
  exact⟨zh (by rw [rowB,Hl.out];simp [he]),rfl⟩
theorem zM (lo hi:Nat) (A:Option Addr) (n c:Nat) (A':Option Addr) (n' c':Nat) (a:Aut) (w:World)(h:zR w lo hi A n A' n' a) :
  Calls Tryz.prog 46 #[.agg #[.int .i64 a.al,.slice A n c,.slice A' n' c']] w fun e w'=>e=.returned (.bool (zk a))∧Ext w w':=by
 have h1:=h.n1
 have h2:=h.n2
 have Hv:=hide (show zk a=(decide (0≤a.al∧a.al≤63)&&(decide (1≤n∧n≤12)&&(decide (n'=n)&&a.next.all (rowB (letters a.al.toNat 6).length n)))) by unfold zk;rw [← h1,← h2])
 have hl1:=h.1.len
 have hl2:=h.2.2.len
 clear h1 h2
 by_cases hal:0≤a.al∧a.al≤63
 ·have hd:=hide (show decide (0≤a.al∧a.al≤63)=true by simp;omega)
  by_cases hn:1≤n∧n≤12
  ·have hd1:decide ((n:Int)<1)=false:=by simp;omega
   have hd2:decide (12<(n:Int))=false:=by simp;omega
   by_cases hn':n'=n
   ·subst hn'
    obtain⟨al,hal'⟩:∃ al:Nat,Hid (a.al=al):=⟨a.al.toNat,by unfold Hid;omega⟩
    have hsm:Sm al:=by have:=hal'.out;unfold Sm;omega
    have hll:=zx al 6
    rw [hal'.out]
    rw [hal'.out] at hd
    rw [hal'.out,Int.toNat_natCast] at Hv
    clear hal
    have hR:=fun W (hW:Ext w W)=>h.1.ext hW
    have HR:=hide hR
    clear hR
    go_enter Tryz.func46,Tryz.ntmps46
    go_wp2_with (go_at_call 96;refine (zQ _ _).mono ?_;rw [hd.out];rintro e w' ⟨rfl,rfl⟩)
    go_loopw [4] (fun i wr=>∃ k:Nat,k≤n'∧i=.int .i64 k∧Hid ((a.next.take k).all (rowB (letters al 6).length n')=true)∧Ext (w.alloc (.cells #[Value.int .i64 al,Value.slice A n' c,Value.slice A' n' c'] 27)) wr)
     (fun i _=>n' - (intOf i).toNat)
    case atStart=>exact⟨0,Nat.zero_le _,rfl,rfl,Ext.refl _⟩
    case round =>
     obtain⟨k,hk,rfl,hall,hext⟩:=hrel
     have hbox:∀ W,Ext wr W→∀ j,W.cell? ⟨w.heap.size,j,none⟩=#[Value.int .i64 al,Value.slice A n' c,Value.slice A' n' c'][j]?:=fun W hW=>zce (hext.trans hW)
     by_cases hlt:k<n'
     ·obtain⟨ad,Ak,ck,l,rfl,hlo,hhi,hl,hcell,hrk⟩:=(HR.out wr (((Ext.refl _).alloc _).trans hext)).row hlt
      have hce:∀ W,Ext wr W→W.cell? (ad.add k)=some (.slice Ak l.length ck):=fun W hW=>hW.cell_some hcell
      have hwr:=Ext.refl wr
      have hfin:∀ W,Ext wr W→Ext w W:=fun W hW=>(((Ext.refl _).alloc _).trans hext).trans hW
      have Hfin:=hide hfin
      clear hfin
      cases hrb:rowB (letters al 6).length n' l
      ·have Hrb:=hide hrb
       clear hrb
       go_wp2_with fail
       go_region_held3 (fun W=>Ext wr W) (first|assumption|(refine Ext.drew ?_;assumption)|(refine Ext.trans ?_ (by assumption);assumption)|(refine Ext.trans ?_ (by assumption);refine Ext.drew ?_;assumption)) (first|(go_at_call 98;refine (zI _ hsm _).mono ?_;rintro e w2 ⟨A2,c2,rfl,hown2,hext2⟩)|(go_at_call 97;refine (zgw _ _ _ _ _ _ _ _ _ (hrk.ext ?_) (by omega) (by omega)).mono ?_;assumption;rw [Hrb.out];rintro e w3 ⟨rfl,rfl⟩))
       go_wp2
       go_ret
       exact⟨zh (by rw [Hv.out,zaA hl.out Hrb.out];simp),Hfin.out _ (by assumption)⟩
      ·have Hrb:=hide hrb
       clear hrb
       go_wp2_with fail
       go_region_held3 (fun W=>Ext wr W) (first|assumption|(refine Ext.drew ?_;assumption)|(refine Ext.trans ?_ (by assumption);assumption)|(refine Ext.trans ?_ (by assumption);refine Ext.drew ?_;assumption)) (first|(go_at_call 98;refine (zI _ hsm _).mono ?_;rintro e w2 ⟨A2,c2,rfl,hown2,hext2⟩)|(go_at_call 97;refine (zgw _ _ _ _ _ _ _ _ _ (hrk.ext ?_) (by omega) (by omega)).mono ?_;assumption;rw [Hrb.out];rintro e w3 ⟨rfl,rfl⟩))
       go_wp2
       go_roundw
       case rel=>exact⟨k+1,by omega,by go_num,zbJ hl.out hall.out Hrb.out,hext.trans (by assumption)⟩
       case measure=>simp [intOf];omega
     ·obtain rfl:k=n':=by omega
      go_wp2
      go_ret
      exact⟨zh (by rw [Hv.out,zdb (by have:=h.n1;omega) hall.out,hd.out];simp;omega),((Ext.refl _).alloc _).trans hext⟩
   ·have hne:((n':Int) != (n:Int))=true:=by simp;omega
    go_enter Tryz.func46,Tryz.ntmps46
    go_wp2_with (go_at_call 96;refine (zQ _ _).mono ?_;rw [hd.out];rintro e w' ⟨rfl,rfl⟩)
    go_ret
    exact⟨zh (by rw [Hv.out];simp [hn']),(Ext.refl _).alloc _⟩
  ·go_enter Tryz.func46,Tryz.ntmps46
   go_wp2_with (go_at_call 96;refine (zQ _ _).mono ?_;rw [hd.out];rintro e w' ⟨rfl,rfl⟩)
   all_goals go_ret
   all_goals exact⟨zh (by rw [Hv.out];simp [hn]),(Ext.refl _).alloc _⟩
 ·go_enter Tryz.func46,Tryz.ntmps46
  have hd:decide (0≤a.al∧a.al≤63)=false:=by simp;omega
  go_wp2_with (go_at_call 96;refine (zQ _ _).mono ?_;rw [hd];rintro e w' ⟨rfl,rfl⟩)
  go_ret
  exact⟨zh (by rw [Hv.out];simp;omega),(Ext.refl _).alloc _⟩
set_option maxHeartbeats 2000000
theorem autValid_few {a:Aut}(h:zk a=true):∃ al:Nat,a.al=al∧al<64∧1≤a.next.length∧a.next.length≤12∧a.acc.length=a.next.length∧∀ l∈a.next,l.length=(letters al 6).length∧∀ q∈l,0≤q∧q<a.next.length:=by
 simp only [zk,Bool.and_eq_true,decide_eq_true_eq,List.all_eq_true,rowB] at h
 obtain⟨h1,h2,h3,h4⟩:=h
 refine⟨a.al.toNat,by omega,by omega,h2.1,h2.2,h3,fun l hl=>⟨(h4 l hl).1,fun q hq=>(h4 l hl).2 q hq⟩⟩
def RetFmtA (a:Aut) (w:World) (e:Ending) (w':World):Prop:=∃ t:ByteArray,e=.returned (.string t)∧(zk a=false→t.size=0)∧Ext w w'
set_option maxRecDepth 100000 in
theorem zdv {lo hi:Nat} {A:Option Addr} {n c:Nat} {A':Option Addr} {n' c':Nat} {a:Aut} {w:World}(h:zR w lo hi A n A' n' a) :
  Calls Tryz.prog 161 #[.agg #[.int .i64 a.al,.slice A n c,.slice A' n' c']] w (RetFmtA a w):=by
 have HV:=hide (fun W (hW:Ext w W)=>zM lo hi A n c A' n' c' a W ⟨h.1.ext hW,h.2.1,h.2.2.ext hW⟩)
 cases h1:zk a
 ·have H1:=hide h1
  clear h1 h
  go_enter Tryz.func161,Tryz.ntmps161
  go_wp2_with (go_at_call 46;refine (HV.out _ ((Ext.refl _).alloc _)).mono ?_;rw [H1.out];rintro e w1 ⟨rfl,hx⟩)
  go_ret
  exact⟨_,rfl,fun _=>rfl,((Ext.refl _).alloc _).trans hx⟩
 ·obtain⟨al,ha,ha2,hn1,hn2,hac,hrows⟩:=autValid_few h1
  have H1:=hide h1
  have Hn:=hide h.n1
  have Hn':=hide h.n2
  have Ha:=hide ha
  have Hrows:=hide hrows
  have HS:=hide (fun W (hW:Ext w W)=>h.1.ext hW)
  have HB:=hide (fun W (hW:Ext w W)=>h.2.2.ext hW)
  have e1:n=n':=by have:=h.n1;have:=h.n2;omega
  subst e1
  have hnn:n≤12:=by have:=h.n1;omega
  clear h1 ha hn1 hn2 hac hrows h
  go_enter Tryz.func161,Tryz.ntmps161
  go_wp2_with fail
  refine (HV.out _ ((Ext.refl _).alloc _)).mono ?_
  rw [H1.out]
  rintro e w1 ⟨rfl,hx⟩
  have b1:=zbv hx
  rw [Ha.out] at b1
  have hw1:=((Ext.refl w).alloc _).trans hx
  have cb:=b1.cells
  have hr1:=Ext.refl w1
  clear hx
  go_wp2_with fail
  refine (zbm ha2).mono ?_
  rintro e w2 ⟨t2,rfl,ht2,hx2⟩
  go_wp2_with fail
  go_loopw [3,4] (fun v i wr=>∃ (k:Nat) (t:ByteArray),k≤n∧i=.int .i64 k∧v=.string t∧t.size≤20+100*k∧Ext w1 wr) (fun _ i _=>n - (intOf i).toNat)
  case atStart=>exact⟨0,t2,Nat.zero_le _,rfl,rfl,by omega,hx2⟩
  case round =>
   clear hx2 ht2 hr1
   obtain⟨k,t,hk,rfl,rfl,ht,hext⟩:=hrel
   have cb0:=cb wr hext
   by_cases hlt:k<n
   ·obtain⟨ad,Ak,ck,l,rfl,_,_,hl,hc0,hrk⟩:=(HS.out wr (hw1.trans hext)).row hlt
    obtain⟨ad',x,rfl,_,_,-,hb0⟩:=(HB.out wr (hw1.trans hext)).bool hlt
    have hq:=hide (Hrows.out l (List.mem_of_getElem? hl.out))
    have hl6:l.length≤6:=by have:=hq.out.1;have:=zx al 6;omega
    have Hrk:=hide (fun W (hW:Ext wr W)=>hrk.ext hW)
    have Hcr:=hide (fun W (hW:Ext wr W)=>hW.cell_some hc0)
    have Hcb:=hide (fun W (hW:Ext wr W)=>cb W (hext.trans hW))
    have hww:=Ext.refl wr
    clear hrk
    go_upto_if 24 with fail
    go_cut [5] (fun s5 wx=>∃ m:ByteArray,s5=.string m∧m.size=2∧Ext wr wx)
    case first =>
     cases x
     ·go_wp2_with fail
      go_meet
      exact⟨{ data:=#[32,45] },rfl,rfl,hww⟩
     ·go_wp2_with fail
      go_meet
      exact⟨{ data:=#[32,43] },rfl,rfl,hww⟩
    case rest =>
     clear hc0 hb0 cb0 hww
     obtain⟨m,rfl,hm2,hwc⟩:=hcut
     obtain⟨wK,hwK⟩:∃ wK,wK=wr:=⟨_,rfl⟩
     rw [← hwK] at Hrk Hcr Hcb hwc hext
     clear hwK
     have q0:¬ 9223372036854775807<t.size+m.size:=by omega
     have hsz:(t++m).size=t.size+2:=by rw [ByteArray.size_append,hm2]
     go_upto_region 11 with fail
     generalize t++m=t1 at *
     clear q0
     go_wp2_with fail
     go_loopw [3,6] (fun v jv wr=>∃ (j:Nat) (t:ByteArray),j≤l.length∧jv=.int .i64 j∧v=.string t∧t.size≤22+100*k+10*j∧Ext wK wr) (fun _ jv _=>l.length - (intOf jv).toNat)
     case atStart=>exact⟨0,t1,Nat.zero_le _,rfl,rfl,by omega,hwc⟩
     case round =>
      clear hwc
      obtain⟨j,t2,hj,rfl,rfl,ht2,hwx⟩:=hrel
      have cb0:=Hcb.out wr hwx
      have hc0:=Hcr.out wr hwx
      by_cases hjl:j<l.length
      ·obtain⟨ad2,q,rfl,-,-,hql,hcq⟩:=(Hrk.out wr hwx).int hjl
       obtain⟨hq0,hq1⟩:=hq.out.2 q (List.mem_of_getElem? hql.out)
       obtain⟨u,rfl⟩:∃ u:Nat,q=u:=⟨q.toNat,by omega⟩
       have hu:u<100:=by have:=Hn.out;omega
       clear hq0 hq1
       go_upto_if 39 with fail
       go_cut [3] (fun s3 wx=>∃ m:ByteArray,s3=.string m∧m.size≤t2.size+1∧wx=wr)
       case first =>
        by_cases hj0:0<j
        ·have hj0':((j:Int)>0):=by omega
         have q1:¬ 9223372036854775807<t2.size+1:=by omega
         go_wp2_with fail
         go_meet
         exact⟨_,rfl,by rw [ByteArray.size_append];exact Nat.le_refl _,rfl⟩
        ·have hj0':¬ ((j:Int)>0):=by omega
         go_wp2_with fail
         go_meet
         exact⟨t2,rfl,by omega,rfl⟩
       case rest =>
        obtain⟨m3,rfl,hm3,rfl⟩:=hcut
        go_wp2_with fail
        refine (zcQ (n:=u) hu).mono ?_
        rintro e w4 ⟨t4,rfl,ht4,hx4⟩
        have q2:¬ 9223372036854775807<m3.size+t4.size:=by omega
        go_wp2_with fail
        go_roundw
        case rel=>exact⟨j+1,_,by omega,by go_num,rfl,by rw [ByteArray.size_append];omega,hwx.trans hx4⟩
        case measure=>simp [intOf];omega
      ·obtain rfl:j=l.length:=by omega
       go_wp2_with fail
       go_roundw
       case rel=>exact⟨k+1,t2,by omega,by go_num,rfl,by omega,hext.trans hwx⟩
       case measure=>simp [intOf];omega
   ·obtain rfl:n=k:=by omega
    go_wp2_with fail
    go_ret
    have hv:=H1.out
    exact⟨t,rfl,fun h=>absurd (hv.symm.trans h) (by decide),hw1.trans hext⟩
set_option maxHeartbeats 2000000
def RetStrs1 (L N:Nat) (w:World) (e:Ending) (w':World):Prop:=∃ (A:Option Addr) (n c:Nat) (l:List ByteArray),e=.returned (.slice A n c)∧n=l.length∧0<n∧w'.ownsRow w.heap.size 9 1 (.slice A n c) n (strs l)∧(∀ x∈l,x.size≤L)∧n≤N∧Ext w w'
theorem spec_l19Cut1 {s:ByteArray} {w:World}(hs:s.size≤1000000) :
  Calls Tryz.prog 158 #[.string s,.int .u8 32] w (RetStrs1 s.size (s.size+1) w):=by
 go_enter Tryz.func158,Tryz.ntmps158
 go_wp2_with fail
 go_loopw [5,6,7] (fun v f i wr=>∃ (k m:Nat) (l:List ByteArray),k≤s.size+1∧i=.int .i64 k∧m≤k∧f=.int .i64 m∧l.length≤k∧wr.ownsRow w.heap.size 9 1 v l.length (strs l)∧Hid (∀ x∈l,x.size≤s.size)∧Ext w wr∧Hid (s.size<k→0<l.length)) (fun _ _ i _=>s.size+1 - (intOf i).toNat)
 case atStart=>exact⟨0,0,[],Nat.zero_le _,rfl,Nat.le_refl _,rfl,Nat.le_refl _,World.ownsRow_lit w #[] 0 (Nat.le_refl _) (by unfold maxLen;omega) rfl,(fun x hx=>by cases hx),(Ext.refl _).alloc _,hide (fun hh=>absurd hh (by omega))⟩
 case round =>
  obtain⟨k,m,l,hk,rfl,hm,rfl,hl,hown,hlx,hext,hpos⟩:=hrel
  by_cases hle:k≤s.size
  ·have hle':(k:Int)≤(s.size:Int):=by omega
   have hm':(m:Int)≤(k:Int):=by omega
   have hex:=hide (show (s.extract m k).size≤s.size by rw [ByteArray.size_extract];omega)
   have hall:=hide (show ∀ x∈l++[s.extract m k],x.size≤s.size from fun x hx=>by
    rcases List.mem_append.1 hx with h1|h1
    ·exact hlx.out x h1
    ·rw [List.mem_singleton.1 h1];exact hex.out)
   by_cases he:k=s.size
   ·have heq:((k:Int)==(s.size:Int))=true:=by simp [he]
    have He:=hide he
    clear he
    go_wp2_with (at_builtin;refine zN w wr rfl _ _ _ rfl 9 _ 1 16 Tryz.underlying101 zl rfl (by decide) u5 _ _ _ _ rfl rfl hext hown rfl (zbu _) (by unfold maxLen;omega) (by omega) ?_;intro v' w1 hext1 hown1 hg1 hat1)
    go_roundw
    case rel=>exact⟨k+1,k+1,l++[s.extract m k],by omega,by go_num,by omega,by go_num,by simp;omega,by simpa [strs] using hown1,hall.out,by assumption,hide (fun _=>by simp)⟩
    case measure=>simp [intOf];omega
   ·have heq:((k:Int)==(s.size:Int))=false:=by rw [beq_eq_false_iff_ne];omega
    have hlt:k<s.size:=by omega
    have hb:=zbP s k hlt
    cases hc:((s[k].toNat:Int)==32)
    ·go_wp2_with fail
     go_roundw
     case rel=>exact⟨k+1,m,l,by omega,by go_num,by omega,rfl,by omega,hown,hlx,hext,hide (fun hh=>absurd hh (by omega))⟩
     case measure=>simp [intOf];omega
    ·go_wp2_with (at_builtin;refine zN w wr rfl _ _ _ rfl 9 _ 1 16 Tryz.underlying101 zl rfl (by decide) u5 _ _ _ _ rfl rfl hext hown rfl (zbu _) (by unfold maxLen;omega) (by omega) ?_;intro v' w1 hext1 hown1 hg1 hat1)
     go_roundw
     case rel=>exact⟨k+1,k+1,l++[s.extract m k],by omega,by go_num,by omega,by go_num,by simp;omega,by simpa [strs] using hown1,hall.out,by assumption,hide (fun _=>by simp)⟩
     case measure=>simp [intOf];omega
  ·obtain rfl:k=s.size+1:=by omega
   obtain⟨A,c,rfl⟩:=ze hown
   go_wp2_with fail
   go_ret
   exact⟨A,_,c,l,rfl,rfl,hpos.out (by omega),hown,hlx.out,by omega,hext⟩
set_option maxHeartbeats 4000000
def RetParA (R M L:Nat) (w:World) (e:Ending) (w':World):Prop:=
 ∃ (b:Aut) (A:Option Addr) (n c:Nat) (A':Option Addr) (n' c':Nat) (ok:Bool),e=.returned (.tuple #[.agg #[.int .i64 b.al,.slice A n c,.slice A' n' c'],.bool ok])∧zT w' w.heap.size A n c A' n' c' b∧Hid (BdA L b)∧Rd w' R M∧Dr R w w'
theorem zgT {R M L Z:Nat} {w W:World}(hR:R<w.heap.size)(h:Rd W R M)(hd:Dr R w W)(hZ:w.heap.size≤Z) :
  Hid (RetParA R M L w (.returned (.tuple #[.agg #[.int .i64 0,.slice none 0 0,.slice none 0 0],.bool false])) (((W.setCell ⟨Z,0,none⟩ (.int .i64 0)).setCell ⟨Z,1,none⟩ (.slice none 0 0)).setCell ⟨Z,2,none⟩ (.slice none 0 0))):=
 hide ⟨⟨0,[],[]⟩,none,0,0,none,0,0,false,rfl,⟨⟨[],World.ownsRow_nil _ _ _ _,zF.nil _ _⟩,rfl,World.ownsRow_nil _ _ _ _,rfl⟩,hide ⟨Nat.zero_le _,Nat.zero_le _,fun l hl=>by simp at hl⟩,h.frm (zaC W Z _ _ _) (fun k hk e=>by omega),((hd.setNew (p:=⟨Z,0,none⟩) hZ _).setNew (p:=⟨Z,1,none⟩) hZ _).setNew (p:=⟨Z,2,none⟩) hZ _⟩
theorem yM04a4 {P:Prop}(h:P:=by
 go_wp2_with fail
 have hfb:=zaB bz4 rfl (.int .i64 0) (.slice none 0 0) (.slice none 0 0)
 have cf:=hfb.cell
 exact bodyPost_ret (v:=.tuple #[.agg #[.int .i64 0,.slice none 0 0,.slice none 0 0],.bool false]) (by simp [results,Tryz.results91,go_sem,cf]) rfl hno4.out
 ):P:=h
theorem yM04a6 {P:Prop}(h:P:=by
 have cf:=hfb.cell
 exact bodyPost_ret (v:=.tuple #[.agg #[.int .i64 0,.slice none 0 0,.slice none 0 0],.bool false]) (by simp [results,Tryz.results91,go_sem,cf]) rfl hno.out
 ):P:=h
set_option maxRecDepth 100000 in
theorem zdT {R M:Nat} {x:ByteArray} {w:World}(h:Rd w R M)(hx:x.size≤1000) :
  Calls Tryz.prog 91 #[.string x] w (RetParA R M (x.size+1) w):=by
 have hRl:=h.lt
 go_enter Tryz.func91,Tryz.ntmps91
 have hx0:=(Ext.refl w).alloc (.cells #[.int .i64 0,.slice none 0 0,.slice none 0 0] 27)
 have bz:=Blk.new w 27 #[.int .i64 0,.slice none 0 0,.slice none 0 0]
 have hz0:=bz.lt
 go_wp2_with fail
 generalize w.alloc (.cells #[.int .i64 0,.slice none 0 0,.slice none 0 0] 27)=w0 at *
 refine (spec_l19Cut1 (s:=x) (by omega)).mono ?_
 rintro e w1 ⟨B,m,d,l,rfl,hml,hm0,hown1,hlx,hm,hx1⟩
 have Hlx:=hide hlx
 have Hml:=hide hml
 have hmx:m≤1001:=by omega
 clear hlx hml
 obtain⟨gB,rfl,hgB,-⟩:=zag hown1 hm0
 obtain⟨ad,x0,hae,-,-,hx0',hc0⟩:=(Reads.of_own hown1).str (k:=0) hm0
 obtain rfl:=Option.some.inj hae
 rw [zL,Nat.add_zero] at hc0
 have hm0':(0:Int)<(m:Int):=by omega
 go_wp2_with fail
 refine (zcv (x:=x0)).mono ?_
 rintro e w2 ⟨al,ok1,rfl,ha,hx2⟩
 have hw2:=hx1.trans hx2
 have bz2:=bz.ext hw2
 have cz2:=bz2.cell
 have fz2:=bz2.frozen
 have hno:=zgT (L:=x.size+1) (M:=M) (Z:=w.heap.size) hRl (h.ext (hx0.trans hw2)) (hx0.trans hw2).dr (Nat.le_refl _)
 cases ok1
 ·go_wp2_with fail
  have hfb:=zaB bz2 rfl (.int .i64 0) (.slice none 0 0) (.slice none 0 0)
  exact yM04a6
 ·have bG:=Blk.new w2 27 #[.int .i64 al,.slice none 0 0,.slice none 0 0]
  have hx3:=(Ext.refl w2).alloc (.cells #[.int .i64 al,.slice none 0 0,.slice none 0 0] 27)
  have hs2:=hw2.size
  have hown2:=zd hown1 hx2
  have hcx:=hide (show ∀ W,Ext w2 W→Ext w W from fun W hW=>(hx0.trans hw2).trans hW)
  go_upto_region 6 with fail
  have hown3:=zd hown2 hx3
  have hacc:AccA w0 (w2.alloc (.cells #[.int .i64 al,.slice none 0 0,.slice none 0 0] 27)) R w2.heap.size M al (.slice none 0 0) [] [] (.slice none 0 0) []:=⟨bG,World.ownsRow_nil _ _ _ _,zF.nil _ _,World.ownsRow_nil _ _ _ _,(h.ext (hx0.trans hw2)).ext hx3,(hw2.trans hx3).dr,by omega,hs2⟩
  generalize w2.alloc (.cells #[.int .i64 al,.slice none 0 0,.slice none 0 0] 27)=w3 at *
  generalize w2.heap.size=G at *
  clear hno cz2 fz2 hc0 hown2
  go_wp2_with fail
  go_loopw [8] (fun iv wr=>∃ (i:Nat) (v:Value) (rows:List Value) (ls:List (List Int)) (vA:Value) (acc:List Bool),1≤i∧i≤m∧iv=.int .i64 (i:Nat)∧AccA w0 wr R G M al v rows ls vA acc∧Hid (ls.length≤i - 1)∧Hid (acc.length=ls.length)∧Hid (∀ l∈ls,l.length≤x.size+1)∧wr.ownsRow w0.heap.size 9 1 (.slice (some ⟨gB,0,none⟩) m d) m (strs l)) (fun iv _=>m - (intOf iv).toNat)
  case atStart=>exact⟨1,_,_,[],_,[],Nat.le_refl _,hm0,rfl,hacc,hide (Nat.zero_le _),hide rfl,hide (fun l hl=>by simp at hl),hown3⟩
  case round =>
   clear hacc hown3
   obtain⟨i,v,rows,ls,vA,acc,hi1,hi,rfl,hacc,hln,hal,hlx,hstr⟩:=hrel
   have hno:=zgT (L:=x.size+1) (M:=M) (Z:=w.heap.size) hRl hacc.rd (hx0.dr.trans hacc.dr) (Nat.le_refl _)
   have bz3:=bz.dr hacc.dr (by omega)
   by_cases hlt:i<m
   ·obtain⟨ad,xk,hae,-,-,hxk,hck⟩:=(Reads.of_own hstr).str hlt
    obtain rfl:=Option.some.inj hae
    rw [zL,Nat.zero_add] at hck
    have hbk:=Hlx.out xk (List.mem_of_getElem? hxk.out)
    cases he:xk.toList.isEmpty
    ·have h1k:1≤xk.size:=by
      rcases Nat.eq_zero_or_pos xk.size with h0|h0
      ·rw [ByteArray.toList_eq] at he
       have e2:xk.data.toList.length=xk.size:=rfl
       rw [List.eq_nil_of_length_eq_zero (e2.trans h0)] at he
       cases he
      ·exact h0
     have h1k':(1:Int)≤(xk.size:Int):=by omega
     have hex:(xk.extract 1 xk.size).size≤x.size:=by rw [ByteArray.size_extract];omega
     go_wp2_with fail
     refine (spec_l3Parse (s:=xk.extract 1 xk.size) (by omega)).mono ?_
     rintro e w4 ⟨Ar,nr,cr,lr,ok,rfl,hnr,hor,hnb,hx4⟩
     cases ok
     ·have hno4:=zgT (L:=x.size+1) (M:=M) (Z:=w.heap.size) hRl (hacc.rd.ext hx4) ((hx0.dr.trans hacc.dr).ext hx4) (Nat.le_refl _)
      have bz4:=bz3.ext hx4
      have cz:=bz4.cell
      have fz:=bz4.frozen
      exact yM04a4
     ·subst hnr
      have hlow:=hide hacc.low
      have hs1:=hide hacc.dr.size
      have hacc4:=hacc.ext hx4
      have hstr4:=zd hstr hx4
      have cG:=hacc4.blk.cell
      have hs4:=hacc4.dr.size
      have hlm:ls.length≤1001:=by have:=hln.out;omega
      have Hxk:=hide hxk.out
      have hno':=hno
      clear hacc hstr hck hno hno'
      go_upto_region 15 with (at_builtin;refine zV w0 w4 rfl _ _ _ rfl 71 _ 1 24 Tryz.underlying24 zcf rfl (by decide) v ls.length rows _ _ rfl rfl hs4 hacc4.nx rfl (zaY _ _ _) (by unfold maxLen;omega) (by omega) ?_;intro g5 cap5 w6 hown6 hg6 hat6 hlt6;obtain⟨q1,q2,q3⟩:=hacc4.pushRow hlow.out hs1.out hor hown6 hg6 hat6;have q1':=q1.out;have hstr6:=(zb hstr4 (Frm.of_grown hg6) (fun b hb hS=>zaV hstr4 hacc4.nx (by decide) hb hS)))
      have hstr7:=zb hstr6 (Frm.setCell w6 G 1 (.slice (some ⟨g5,0,none⟩) (ls.length+1) cap5)) (fun b hb hS=>by
       have hB6:Blk w6 G 27 #[.int .i64 al,v,vA]:=(hg6.block G hacc4.blk.lt (fun e=>zr hacc4.nx hacc4.blk (by decide) e.symm rfl)).trans hacc4.blk
       exact zr hstr6 hB6 (by decide) hb hS)
      have hln7:=hide (show (ls++[lr]).length≤i by have:=hln.out;simp;omega)
      have hal7:=hide (show acc.length+1=(ls++[lr]).length by have:=hal.out;simp;omega)
      have hlx7:=hide (show ∀ l'∈ls++[lr],l'.length≤x.size+1 from fun l' hl'=>by
       rcases List.mem_append.1 hl' with h1|h1
       ·exact hlx.out l' h1
       ·rw [List.mem_singleton.1 h1];omega)
      clear q1 q1' q2 hown6 hg6 hat6 hlt6 hstr6 hstr4 hacc4 cG hln hal hlx hor
      generalize ls++[lr]=ls7 at *
      generalize rows++[.slice Ar lr.length cr]=rows7 at *
      generalize w6.setCell ⟨G,1,none⟩ (.slice (some ⟨g5,0,none⟩) (ls.length+1) cap5)=w7 at *
      generalize Value.slice (some ⟨g5,0,none⟩) (ls.length+1) cap5=v7 at *
      obtain⟨ad7,xk7,hae7,-,-,hxk7,hck7⟩:=(Reads.of_own hstr7).str hlt
      obtain rfl:=Option.some.inj hae7
      rw [zL,Nat.zero_add] at hck7
      obtain rfl:xk7=xk:=Option.some.inj (hxk7.out.symm.trans Hxk.out)
      have cG:∀ W,Ext w7 W→∀ q,W.cell? ⟨G,q,none⟩=#[Value.int .i64 al,v7,vA][q]?:=fun W hW=>(q3.blk.ext hW).cell
      have cS:∀ W,Ext w7 W→W.cell? ⟨gB,i,none⟩=some (.string xk7):=fun W hW=>hW.cell_some hck7
      have h0k:0<xk7.size:=by omega
      have h0k':(0:Int)<(xk7.size:Int):=by omega
      have hb0:=zbP xk7 0 h0k
      obtain⟨bb,hbb⟩:∃ bb,((xk7[0].toNat:Int)==43)=bb:=⟨_,rfl⟩
      have hww:=Ext.refl w7
      clear hck7 hxk7 Hxk
      refine uR (fun X=>Ext w7 X) [9,11] (OrdU.of [0,1,2,3,4,5,6,7,8,9,10,11]) ?_
      refine uQ ?_
      have hxd:=hww.drew
      (refine za rfl rfl rfl (fun K hK=>?_);go_simp)
      refine hK.out _ _ (hxd.alloc _) ?_
      refine pT ?_
      (refine zg rfl rfl rfl rfl (fun K hK=>?_))
      have hs7:=q3.dr.size
      have q3d:=q3.ext hxd
      have hal8:acc.length≤1001:=by have:=hal7.out;have:=hln7.out;omega
      have hstr8:=zd hstr7 hxd
      refine zay w0 w7.drew _ _ _ rfl 4 _ 1 1 Tryz.underlying25 zbh rfl (by decide) vA acc.length (zaE acc) _ _ rfl rfl q3d.dr.size q3d.acc rfl (by simp [Value.oneCell']) (by unfold maxLen;omega) (by omega) ?_
      intro g8 cap8 w8 hown8 hg8 hat8 hlt8
      refine hK.out _ _ ?_
      refine pT ?_
      refine uQ ?_
      obtain⟨p1,p2,p3⟩:=q3d.pushAcc (x:=bb) (W':=w8) hown8 hg8 hat8
      have p1':=p1.out
      have hstr9:=zb hstr8 (Frm.of_grown hg8) (fun b hb hS=>zaV hstr8 q3d.acc (by decide) hb hS)
      have hstr10:=zb hstr9 (Frm.setCell w8 G 2 (.slice (some ⟨g8,0,none⟩) (acc.length+1) cap8)) (fun b hb hS=>by
       have hB8:Blk w8 G 27 #[.int .i64 al,v7,vA]:=(hg8.block G q3d.blk.lt (fun e=>zr q3d.acc q3d.blk (by decide) e.symm rfl)).trans q3d.blk
       exact zr hstr9 hB8 (by decide) hb hS)
      (refine zg rfl rfl rfl rfl (fun K hK=>?_))
      go_simp
      refine hK.out _ _ ?_
      refine zf ?_
      go_wp2_with fail
      go_roundw
      case rel=>exact⟨i+1,_,_,ls7,_,acc++[bb],by omega,by omega,by go_num,p3,hide (by have:=hln7.out;omega),hide (by have:=hal7.out;simp;omega),hlx7,hstr10⟩
      case measure=>simp [intOf];omega
    ·have cz:=bz3.cell
     have fz:=bz3.frozen
     go_wp2_with fail
     have hfb:=zaB bz3 rfl (.int .i64 0) (.slice none 0 0) (.slice none 0 0)
     exact yM04a6
   ·obtain⟨A5,c5,rfl⟩:=ze hacc.nx
    obtain⟨B5,d5,rfl⟩:=ze hacc.acc
    have hat:zR wr w0.heap.size wr.heap.size A5 ls.length B5 acc.length (⟨al,ls,acc⟩:Aut):=⟨zdX.reads ⟨rows,hacc.nx,hacc.rows⟩ rfl,rfl,Reads.of_own hacc.acc⟩
    have cG:=hacc.blk.cell
    clear hno
    go_wp2_with fail
    refine (zdv (a:=⟨al,ls,acc⟩) hat).mono ?_
    rintro e w4 ⟨tx,rfl,-,hx4⟩
    have hacc4:=hacc.ext hx4
    have hno4:=zgT (L:=x.size+1) (M:=M) (Z:=w.heap.size) hRl (hacc.rd.ext hx4) ((hx0.dr.trans hacc.dr).ext hx4) (Nat.le_refl _)
    have bz4:=bz3.ext hx4
    have cz:=bz4.cell
    have fz:=bz4.frozen
    have cG4:=hacc4.blk.cell
    clear cG
    cases hne:tx.toList==x.toList
    ·exact yM04a4
    ·obtain⟨f1,f2⟩:=hacc4.fin (N:=M) (sh:=BdA (x.size+1)) hx0 bz rfl hRl (Nat.le_refl _) hz0 (Nat.le_refl _) ⟨by have:=hln.out;show ls.length≤_;omega,by have:=hln.out;have:=hal.out;show acc.length≤_;omega,hlx.out⟩
     go_wp2_with fail
     have cf:=f2.cell
     obtain⟨b,A6,n6,c6,A7,n7,c7,he,ho6,hsh6,hr6,hd6⟩:=f1.out
     exact bodyPost_ret (v:=.tuple #[.agg #[.int .i64 al,.slice A5 ls.length c5,.slice B5 acc.length d5],.bool true]) (by simp [results,Tryz.results91,go_sem,cf]) rfl ⟨b,A6,n6,c6,A7,n7,c7,true,by injection he with he;rw [he],ho6,hsh6,hr6,hd6⟩
set_option maxHeartbeats 2000000
def Texts3 (W:World) (base g n:Nat):Prop:=
 ∀ k<n,∃ (b:Nat) (l:List ByteArray),W.cell? ⟨g,k,none⟩=some (.slice (some ⟨b,0,none⟩) 3 3)∧l.length=3∧((∀ x∈l,x.size≤100)∧∀ x,l[2]?=some x→x.size≤40)∧W.ownsRow base 9 1 (.slice (some ⟨b,0,none⟩) 3 3) 3 (strs l)
def RetT3 (w:World) (e:Ending) (w':World):Prop:=∃ g,e=.returned (.slice (some ⟨g,0,none⟩) 9 9)∧w.heap.size≤g∧Texts3 w' w.heap.size g 9∧Ext w w'
def Sh3 (u:Array Value):Prop:=strs (u.toList.map zhj)=u.toList∧u.size=3∧(∀ x∈u.toList.map zhj,x.size≤100)∧∀ x∈(u.toList.map zhj).drop 2,x.size≤40
theorem Sh3.third {u:Array Value}(h:Sh3 u):(u.toList.map zhj).length=3∧(∀ x∈u.toList.map zhj,x.size≤100)∧∀ x,(u.toList.map zhj)[2]?=some x→x.size≤40:=by
 obtain⟨-,h2,h3,h4⟩:=h
 refine⟨by simp [h2],h3,fun x hx=>h4 x ?_⟩
 have hl:=(List.getElem?_eq_some_iff.1 hx).1
 rw [List.mem_iff_getElem?]
 exact⟨0,by rw [List.getElem?_drop];exact hx⟩
theorem lit9 (w:World) {u1 u2 u3 u4 u5 u6 u7 u8 u9:Array Value}(h1:Sh3 u1)(h2:Sh3 u2)(h3:Sh3 u3)(h4:Sh3 u4)(h5:Sh3 u5)(h6:Sh3 u6)(h7:Sh3 u7)(h8:Sh3 u8)(h9:Sh3 u9) :
  RetT3 w (.returned (.slice (some ⟨w.heap.size+9,0,none⟩) 9 9)) ((((((((((w.alloc (.cells u1 9)).alloc (.cells u2 9)).alloc (.cells u3 9)).alloc (.cells u4 9)).alloc (.cells u5 9)).alloc (.cells u6 9)).alloc (.cells u7 9)).alloc (.cells u8 9)).alloc (.cells u9 9)).alloc (.cells #[.slice (some ⟨w.heap.size,0,none⟩) 3 3,.slice (some ⟨w.heap.size+1,0,none⟩) 3 3,.slice (some ⟨w.heap.size+2,0,none⟩) 3 3,.slice (some ⟨w.heap.size+3,0,none⟩) 3 3,.slice (some ⟨w.heap.size+4,0,none⟩) 3 3,.slice (some ⟨w.heap.size+5,0,none⟩) 3 3,.slice (some ⟨w.heap.size+6,0,none⟩) 3 3,.slice (some ⟨w.heap.size+7,0,none⟩) 3 3,.slice (some ⟨w.heap.size+8,0,none⟩) 3 3] 101)):=by
 have o1:=zbb w h1.1 h1.2.1 (by omega)
 have x1:=(Ext.refl w).alloc (.cells u1 9)
 have s1:(w.alloc (.cells u1 9)).heap.size=w.heap.size+1:=by simp
 generalize w.alloc (.cells u1 9)=w1 at *
 have o2:=zbb w1 h2.1 h2.2.1 (by omega)
 have x2:=(Ext.refl w1).alloc (.cells u2 9)
 have s2:(w1.alloc (.cells u2 9)).heap.size=w.heap.size+2:=by simp [s1]
 rw [s1] at o2
 generalize w1.alloc (.cells u2 9)=w2 at *
 have o3:=zbb w2 h3.1 h3.2.1 (by omega)
 have x3:=(Ext.refl w2).alloc (.cells u3 9)
 have s3:(w2.alloc (.cells u3 9)).heap.size=w.heap.size+3:=by simp [s2]
 rw [s2] at o3
 generalize w2.alloc (.cells u3 9)=w3 at *
 have o4:=zbb w3 h4.1 h4.2.1 (by omega)
 have x4:=(Ext.refl w3).alloc (.cells u4 9)
 have s4:(w3.alloc (.cells u4 9)).heap.size=w.heap.size+4:=by simp [s3]
 rw [s3] at o4
 generalize w3.alloc (.cells u4 9)=w4 at *
 have o5:=zbb w4 h5.1 h5.2.1 (by omega)
 have x5:=(Ext.refl w4).alloc (.cells u5 9)
 have s5:(w4.alloc (.cells u5 9)).heap.size=w.heap.size+5:=by simp [s4]
 rw [s4] at o5
 generalize w4.alloc (.cells u5 9)=w5 at *
 have o6:=zbb w5 h6.1 h6.2.1 (by omega)
 have x6:=(Ext.refl w5).alloc (.cells u6 9)
 have s6:(w5.alloc (.cells u6 9)).heap.size=w.heap.size+6:=by simp [s5]
 rw [s5] at o6
 generalize w5.alloc (.cells u6 9)=w6 at *
 have o7:=zbb w6 h7.1 h7.2.1 (by omega)
 have x7:=(Ext.refl w6).alloc (.cells u7 9)
 have s7:(w6.alloc (.cells u7 9)).heap.size=w.heap.size+7:=by simp [s6]
 rw [s6] at o7
 generalize w6.alloc (.cells u7 9)=w7 at *
 have o8:=zbb w7 h8.1 h8.2.1 (by omega)
 have x8:=(Ext.refl w7).alloc (.cells u8 9)
 have s8:(w7.alloc (.cells u8 9)).heap.size=w.heap.size+8:=by simp [s7]
 rw [s7] at o8
 generalize w7.alloc (.cells u8 9)=w8 at *
 have o9:=zbb w8 h9.1 h9.2.1 (by omega)
 have x9:=(Ext.refl w8).alloc (.cells u9 9)
 have s9:(w8.alloc (.cells u9 9)).heap.size=w.heap.size+9:=by simp [s8]
 rw [s8] at o9
 generalize w8.alloc (.cells u9 9)=w9 at *
 have bl:=Blk.new w9 101 #[.slice (some ⟨w.heap.size,0,none⟩) 3 3,.slice (some ⟨w.heap.size+1,0,none⟩) 3 3,.slice (some ⟨w.heap.size+2,0,none⟩) 3 3,.slice (some ⟨w.heap.size+3,0,none⟩) 3 3,.slice (some ⟨w.heap.size+4,0,none⟩) 3 3,.slice (some ⟨w.heap.size+5,0,none⟩) 3 3,.slice (some ⟨w.heap.size+6,0,none⟩) 3 3,.slice (some ⟨w.heap.size+7,0,none⟩) 3 3,.slice (some ⟨w.heap.size+8,0,none⟩) 3 3]
 have x10:=(Ext.refl w9).alloc (.cells #[.slice (some ⟨w.heap.size,0,none⟩) 3 3,.slice (some ⟨w.heap.size+1,0,none⟩) 3 3,.slice (some ⟨w.heap.size+2,0,none⟩) 3 3,.slice (some ⟨w.heap.size+3,0,none⟩) 3 3,.slice (some ⟨w.heap.size+4,0,none⟩) 3 3,.slice (some ⟨w.heap.size+5,0,none⟩) 3 3,.slice (some ⟨w.heap.size+6,0,none⟩) 3 3,.slice (some ⟨w.heap.size+7,0,none⟩) 3 3,.slice (some ⟨w.heap.size+8,0,none⟩) 3 3] 101)
 rw [s9] at bl
 generalize w9.alloc (.cells #[.slice (some ⟨w.heap.size,0,none⟩) 3 3,.slice (some ⟨w.heap.size+1,0,none⟩) 3 3,.slice (some ⟨w.heap.size+2,0,none⟩) 3 3,.slice (some ⟨w.heap.size+3,0,none⟩) 3 3,.slice (some ⟨w.heap.size+4,0,none⟩) 3 3,.slice (some ⟨w.heap.size+5,0,none⟩) 3 3,.slice (some ⟨w.heap.size+6,0,none⟩) 3 3,.slice (some ⟨w.heap.size+7,0,none⟩) 3 3,.slice (some ⟨w.heap.size+8,0,none⟩) 3 3] 101)=w10 at *
 have y9:=x10
 have y8:=x9.trans y9
 have y7:=x8.trans y8
 have y6:=x7.trans y7
 have y5:=x6.trans y6
 have y4:=x5.trans y5
 have y3:=x4.trans y4
 have y2:=x3.trans y3
 have y1:=x2.trans y2
 refine⟨_,rfl,by omega,fun k hk=>?_,x1.trans y1⟩
 have hk':k=0∨k=1∨k=2∨k=3∨k=4∨k=5∨k=6∨k=7∨k=8:=by omega
 rcases hk' with rfl|rfl|rfl|rfl|rfl|rfl|rfl|rfl|rfl
 ·exact⟨_,_,bl.cell 0,h1.third.1,h1.third.2,zd o1 y1⟩
 ·exact⟨_,_,bl.cell 1,h2.third.1,h2.third.2,zo (zd o2 y2) (by omega)⟩
 ·exact⟨_,_,bl.cell 2,h3.third.1,h3.third.2,zo (zd o3 y3) (by omega)⟩
 ·exact⟨_,_,bl.cell 3,h4.third.1,h4.third.2,zo (zd o4 y4) (by omega)⟩
 ·exact⟨_,_,bl.cell 4,h5.third.1,h5.third.2,zo (zd o5 y5) (by omega)⟩
 ·exact⟨_,_,bl.cell 5,h6.third.1,h6.third.2,zo (zd o6 y6) (by omega)⟩
 ·exact⟨_,_,bl.cell 6,h7.third.1,h7.third.2,zo (zd o7 y7) (by omega)⟩
 ·exact⟨_,_,bl.cell 7,h8.third.1,h8.third.2,zo (zd o8 y8) (by omega)⟩
 ·exact⟨_,_,bl.cell 8,h9.third.1,h9.third.2,zo (zd o9 y9) (by omega)⟩
set_option maxRecDepth 100000 in
theorem zhc {w:World}:Calls Tryz.prog 106 #[] w (RetT3 w):=by
 go_enter Tryz.func106,Tryz.ntmps106
 go_wp2_with fail
 go_ret
 exact lit9 w ⟨rfl,rfl,by decide +kernel,by decide +kernel⟩ ⟨rfl,rfl,by decide +kernel,by decide +kernel⟩ ⟨rfl,rfl,by decide +kernel,by decide +kernel⟩ ⟨rfl,rfl,by decide +kernel,by decide +kernel⟩ ⟨rfl,rfl,by decide +kernel,by decide +kernel⟩ ⟨rfl,rfl,by decide +kernel,by decide +kernel⟩ ⟨rfl,rfl,by decide +kernel,by decide +kernel⟩ ⟨rfl,rfl,by decide +kernel,by decide +kernel⟩ ⟨rfl,rfl,by decide +kernel,by decide +kernel⟩
end Go.Proofs.YtndhahednhnnbaaGreatDoor
