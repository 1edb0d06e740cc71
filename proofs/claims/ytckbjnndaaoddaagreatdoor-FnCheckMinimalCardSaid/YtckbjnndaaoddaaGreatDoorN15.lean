/- The referenc -/
import Derived.Test.YtckbjnndaaoddaaGreatDoorN14
import Derived.Maps.OwnSet
import Derived.Maps.OwnOps
set_option maxHeartbeats 4000000
set_option maxRecDepth 100000
namespace Go.Proofs.YtckbjnndaaoddaaGreatDoor
open Go Go.RowKit
open Blk renaming new->dX
open Bool renaming eq_iff_iff->gI
open Ext renaming bl_->eA,eq_->gH,refl->dB
open Frm renaming ab->eZ,setCell->dH
open Int renaming natCast_add->gX
open List renaming dropLast_concat_getLast->iV,getElem?_append_left->dJ,getElem?_eq_getElem->dD,getElem?_of_mem->eB,length_append->dN,length_singleton->dZ,map_append->eK,mem_of_getElem?->dC
open Nat renaming and_le_left->fX,le_of_lt_succ->eQ,le_refl->dE,le_trans->dL,lt_of_lt_of_le->dY,lt_or_eq_of_le->eF,lt_or_ge->eL,mod_eq_of_lt->gT,pow_le_pow_right->dV,testBit_lt_two_pow->gE,zero_le->dG
variable {A B B' C:Option Addr} {J K L M R b base c c2 cap d d' g hi i j k l lo m' n x:Nat} {S:Nat->Prop} {W w w1:World} {a p:Aut} {cs:Array Value} {e:TypeId} {hd:Bool} {m n0:Int} {s t:Sys} {v:Value} {xs:List Value}
theorem zdp (s t:Sys) (p:Aut):iface s p t = -1∨∃ L:Nat,iface s p t=(L:Int):=by
 unfold iface;split
 ·exact .inr ⟨_,rfl⟩
 ·exact .inl rfl
section
variable {w:World} {lo hi n c lo1 hi1 m d m' d' lo2 hi2 k c2:Nat} {A B B' C:Option Addr} {s t:Sys} {p:Aut}
theorem spec_TaskOf0 (hs:zO w lo hi A n s)(hp:zH w lo1 hi1 B m B' m' p)(ht:zO w lo2 hi2 C k t)(hif:iface s p t = -1) :
  Calls Tryz.prog 202 #[.agg #[s.al,s.st,.slice A n c],.agg #[p.al,.slice B m d,.slice B' m' d'],.agg #[t.al,t.st,.slice C k c2]] w
   fun e w'=>e=.returned (.tuple #[.agg #[(0:Int),(0:Int),(),(0:Int),(),(),(0:Int)],.bool false])∧Ext w w':=by
 have b:=za (fun W (hW:Ext w W)=>zbc (c:=c) (d1:=d) (d1':=d') (c2:=c2) (hs.ext hW) (hp.ext hW) (ht.ext hW));rw [hif] at b;clear hs hp ht hif;obtain⟨l,U0⟩:∃ x,Hid ((((w.alloc (.cells #[s.al,s.st,.slice A n c] 38)).alloc (.cells #[p.al,.slice B m d,.slice B' m' d'] 27)).alloc (.cells #[t.al,t.st,.slice C k c2] 38)).alloc (.cells #[(0:Int),(0:Int),(),(0:Int),(),(),(0:Int)] 70)=x):=⟨_,za rfl⟩;have hx0:Ext w l:=(((((dB _).alloc _).alloc _).alloc _).alloc _).trans (gH U0.out);obtain⟨o,q,r⟩:=zR (((dB _).alloc _).trans (gH U0.out));have j:=eA U0.out;simp only [World.size_alloc] at j
 go_enter Tryz.func202,Tryz.ntmps202
 go_upto_region 1 with fail
 rw [U0.out] at *;have E:=o.cells;have D:=q.cells;have F:=r.cells;have z:=dB l;go_upto_region 3 with (first
  |(go_at_call 95;refine (b.out _ hx0).mono (mQ fun g a=>?_)))
 have h:=j.ext a;have H:=h.cell;have G:=h.frozen;have i:=hx0.trans a;have y:Frm (fun k=>k=w.heap.size+1+1+1) g (((((((g.setCell ⟨w.heap.size+1+1+1,0,none⟩ (0:Int)).setCell ⟨w.heap.size+1+1+1,1,none⟩ (0:Int)).setCell ⟨w.heap.size+1+1+1,2,none⟩ ()).setCell ⟨w.heap.size+1+1+1,3,none⟩ (0:Int)).setCell ⟨w.heap.size+1+1+1,4,none⟩ ()).setCell ⟨w.heap.size+1+1+1,5,none⟩ ()).setCell ⟨w.heap.size+1+1+1,6,none⟩ (0:Int)):=
  ((((((dH g _ 0 _).trans (dH _ _ 1 _)).trans (dH _ _ 2 _)).trans (dH _ _ 3 _)).trans (dH _ _ 4 _)).trans (dH _ _ 5 _)).trans (dH _ _ 6 _)
 have u:Blk (((((((g.setCell ⟨w.heap.size+1+1+1,0,none⟩ (0:Int)).setCell ⟨w.heap.size+1+1+1,1,none⟩ (0:Int)).setCell ⟨w.heap.size+1+1+1,2,none⟩ ()).setCell ⟨w.heap.size+1+1+1,3,none⟩ (0:Int)).setCell ⟨w.heap.size+1+1+1,4,none⟩ ()).setCell ⟨w.heap.size+1+1+1,5,none⟩ ()).setCell ⟨w.heap.size+1+1+1,6,none⟩ (0:Int)) (w.heap.size+1+1+1) 70 #[.int .i64 0,.int .i64 0,.slice none 0 0,.int .i64 0,.slice none 0 0,.slice none 0 0,.int .i64 0]:=by
  simpa using ((((((h.ae 0 (.int .i64 0)).ae 1 (.int .i64 0)).ae 2 (.slice none 0 0)).ae 3 (.int .i64 0)).ae 4 (.slice none 0 0)).ae 5 (.slice none 0 0)).ae 6 (.int .i64 0)
 have f:=za (i.frm y (fun k hk e=>oM));go_wp2_with fail
 generalize (((((((g.setCell ⟨w.heap.size+1+1+1,0,none⟩ (0:Int)).setCell ⟨w.heap.size+1+1+1,1,none⟩ (0:Int)).setCell ⟨w.heap.size+1+1+1,2,none⟩ ()).setCell ⟨w.heap.size+1+1+1,3,none⟩ (0:Int)).setCell ⟨w.heap.size+1+1+1,4,none⟩ ()).setCell ⟨w.heap.size+1+1+1,5,none⟩ ()).setCell ⟨w.heap.size+1+1+1,6,none⟩ (0:Int))=W at *;have cf:=u.cell;exact bodyPost_ret (v:=.tuple #[.agg #[(0:Int),(0:Int),(),(0:Int),(),(),(0:Int)],.bool false]) (by simp [results,Tryz.results202,go_sem,cf]) rfl ⟨rfl,f.out⟩
theorem spec_l12Run0 (hs:zO w lo hi A n s)(hp:zH w lo1 hi1 B m B' m' p)(ht:zO w lo2 hi2 C k t)(hif:iface s p t = -1) :
  Calls Tryz.prog 112 #[.agg #[s.al,s.st,.slice A n c],.agg #[t.al,t.st,.slice C k c2],.agg #[p.al,.slice B m d,.slice B' m' d'],K] w (zcS w ⟨3,noA,⟨#[]⟩,0⟩):=by
 have E:=za (fun W (hW:Ext w W)=>spec_TaskOf0 (c:=c) (d:=d) (d':=d') (c2:=c2) (hs.ext hW) (hp.ext hW) (ht.ext hW) hif);clear hs hp ht hif;obtain⟨q,U0⟩:∃ x,Hid (((((w.alloc (.cells #[s.al,s.st,.slice A n c] 38)).alloc (.cells #[t.al,t.st,.slice C k c2] 38)).alloc (.cells #[p.al,.slice B m d,.slice B' m' d'] 27)).alloc (.cells #[(0:Int),(0:Int),(),(),.string ⟨#[]⟩,(0:Int)] 42)).alloc (.cells #[(0:Int),(),()] 27)=x):=⟨_,za rfl⟩;have hx0:Ext w q:=((((((dB _).alloc _).alloc _).alloc _).alloc _).alloc _).trans (gH U0.out);obtain⟨r,u,y⟩:=zR ((((dB _).alloc _).alloc _).trans (gH U0.out));have h:=(dX (((w.alloc (.cells #[s.al,s.st,.slice A n c] 38)).alloc (.cells #[t.al,t.st,.slice C k c2] 38)).alloc (.cells #[p.al,.slice B m d,.slice B' m' d'] 27)) 42 #[(0:Int),(0:Int),(),(),.string ⟨#[]⟩,(0:Int)]).ext ((dB _).alloc (.cells #[(0:Int),(),()] 27));have i:=eA U0.out;simp only [World.size_alloc] at h i
 go_enter Tryz.func112,Tryz.ntmps112
 go_upto_region 1 with fail
 rw [U0.out] at *;have I:=r.cells;have J:=u.cells;have H:=y.cells;have F:=dB q;go_upto_region 2 with (first
  |(go_at_call 202;refine (E.out _ hx0).mono (mQ fun G b=>?_)))
 generalize U0:G.alloc _=w2 at *;have a:Ext q w2:=(b.alloc _).trans (gH U0);clear U0;have g:=h.ext a;have Q:=g.cell;have M:=g.frozen;have f:=i.ext a;have O:=f.cell;have L:=f.frozen;obtain⟨f1,f2,o⟩:=zgC (v:=⟨3,noA,⟨#[]⟩,0⟩) (A:=none) (n:=0) (c:=0) (A':=none) (n':=0) (c':=0) (x:=0) (X:=none) (k1:=0) (d1:=0) (X':=none) (k1':=0) (d1':=0) (hx0.trans a) g f rfl rfl oM (zgy _ _);dsimp only [noA] at f1 f2 o;have z:=za f2;have D:=za o;clear f2 o g f r u y h i;go_wp2_with fail
 generalize (((((((((w2.setCell ⟨w.heap.size+1+1+1,0,none⟩ (3:Int)).setCell ⟨w.heap.size+1+1+1,1,none⟩ (0:Int)).setCell ⟨w.heap.size+1+1+1,2,none⟩ ()).setCell ⟨w.heap.size+1+1+1,3,none⟩ ()).setCell ⟨w.heap.size+1+1+1,4,none⟩ (.string ⟨#[]⟩)).setCell ⟨w.heap.size+1+1+1,5,none⟩ (0:Int)).setCell ⟨w.heap.size+1+1+1+1,0,none⟩ (0:Int)).setCell ⟨w.heap.size+1+1+1+1,1,none⟩ ()).setCell ⟨w.heap.size+1+1+1+1,2,none⟩ ())=W at *;have j:=z.out.cell;have l:=D.out.cell;exact bodyPost_ret (v:=.tuple #[.agg #[(3:Int),(0:Int),(),(),.string ⟨#[]⟩,(0:Int)],.agg #[(0:Int),(),()]]) (by simp [results,Tryz.results112,go_sem,j,l]) rfl f1.out
end
noncomputable def vpT (s t:Sys) (p:Aut):Vd:=
 if iface s p t<0 then ⟨3,noA,⟨#[]⟩,0⟩ else runT s t p (iface s p t).toNat 12 0 ((zba (iface s p t).toNat (zA s p (iface s p t).toNat) [⟨#[]⟩] 11 [⟨#[]⟩]).map fun r=>(r,[⟨#[]⟩]))
theorem vpT_neg (h:iface s p t = -1):vpT s t p=⟨3,noA,⟨#[]⟩,0⟩:=by unfold vpT;rw [if_pos oM]
theorem vpT_pos (h:iface s p t=(L:Int)):vpT s t p=runT s t p L 12 0 ((zba L (zA s p L) [⟨#[]⟩] 11 [⟨#[]⟩]).map fun r=>(r,[⟨#[]⟩])):=by
 have e:(iface s p t).toNat=L:=oM;unfold vpT;rw [if_neg oM,e]
theorem ziy (h:iface s p t=(L:Int)):L<64:=by
 obtain⟨c,b,a⟩:=zfi (show 0<=iface s p t by omega);rw [iface_nat c b a] at h;have d:=zT a;have f:((s.al.toNat|||p.al.toNat)&&&t.al.toNat)<=t.al.toNat:=Nat.and_le_right;omega
theorem zjd (s t:Sys) (p:Aut):(vpT s t p).asm.size<=1048576∧(vpT s t p).tr.size<=4000:=by
 rcases zdp s t p with h|⟨L,h⟩
 ·rw [vpT_neg h];exact⟨by show noA.size<=_;decide,dG _⟩
 ·rw [vpT_pos h];obtain⟨b,a,c⟩:=zfi (show 0<=iface s p t by omega);exact runT_size (ziy h) (by simp [zC,b,c]) a 12 0 _ (zfG.new L _)
theorem runT_asm (hL:L<64) (f:Nat):∀ (k:Nat) (o:Option (List ByteArray × List ByteArray)),zfG L (zA s p L) o->zi (runT s t p L f k o).asm=true∨(runT s t p L f k o).asm=noA:=by
 induction f with
 |zero=>exact fun k o _=>.inr rfl
 |succ f ih =>
  intro k o ho
  match o with
  |none=>exact .inr rfl
  |some (rs,cs) =>
   obtain⟨b,a⟩:=ho rs cs rfl;rw [runT];split
   ·exact .inl (zdT b a hL)
   ·split
    ·exact .inr rfl
    ·exact ih _ _ (zfG.learn b _)
theorem vpT_asm (s t:Sys) (p:Aut):zi (vpT s t p).asm=true∨(vpT s t p).asm=noA:=by
 rcases zdp s t p with h|⟨L,h⟩
 ·rw [vpT_neg h];exact .inr rfl
 ·rw [vpT_pos h];exact runT_asm (ziy h) 12 0 _ (zfG.new L _)
section
variable {w:World} {lo hi n c lo1 hi1 m d m' d' lo2 hi2 k c2:Nat} {A B B' C:Option Addr} {s t:Sys} {p:Aut}
theorem zgm (hs:zO w lo hi A n s)(hp:zH w lo1 hi1 B m B' m' p)(ht:zO w lo2 hi2 C k t)(hn:n<=1000000)(hhi:hi<=w.heap.size) :
  Calls Tryz.prog 42 #[.agg #[s.al,s.st,.slice A n c],.agg #[t.al,t.st,.slice C k c2],.agg #[p.al,.slice B m d,.slice B' m' d']] w
   (RetVd w (vpT s t p)):=by
 rcases zdp s t p with h|⟨L,h⟩
 ·rw [vpT_neg h];exact zcN (za (fun W (hW:Ext w W)=>spec_l12Run0 (K:=12) (hs.ext hW) (hp.ext hW) (ht.ext hW) h))
 ·rw [vpT_pos h];exact zhc hs hp ht h hn hhi
theorem zfO (hs:zO w lo hi A n s)(hp:zH w lo1 hi1 B m B' m' p)(ht:zO w lo2 hi2 C k t)(hn:n<=1000000)(hhi:hi<=w.heap.size) :
  Calls Tryz.prog 45 #[.agg #[s.al,s.st,.slice A n c],.agg #[t.al,t.st,.slice C k c2],.agg #[p.al,.slice B m d,.slice B' m' d']] w
   (zcy w (hdX (vpT s t p).code (vpT s t p).asm (vpT s t p).tr) (autX (vpT s t p).code (vpT s t p).asm (vpT s t p).tr) (strX (vpT s t p).code (vpT s t p).asm (vpT s t p).tr) (okC (vpT s t p).code (vpT s t p).asm (vpT s t p).tr)):=
 zeR (za (fun W (hW:Ext w W)=>zgm (hs.ext hW) (hp.ext hW) (ht.ext hW) hn (dL hhi hW.size))) (za ⟨(zjd s t p).1,dL (zjd s t p).2 oM⟩)
end
structure zeA (w0 W:World) (R M K J:Nat) (a:Aut) (B:Option Addr) (m d:Nat) (B':Option Addr) (m' d':Nat) (x:ByteArray):Prop where
 own:zZ W (R+1) B m d B' m' d' a
 bd:Hid (BdA K a∧x.size<=J)
 rd:Rd W R M
 dr:Dr R w0 W
 hR:R<w0.heap.size
def RetCe (R M K J:Nat) (w:World) (e:Ending) (w':World):Prop:=
 ∃ (hd:Bool) (a:Aut) (B:Option Addr) (m d:Nat) (B':Option Addr) (m' d':Nat) (x:ByteArray),e=.returned (.agg #[.bool hd,a.al,.slice B m d,.slice B' m' d',x])∧zeA w w' R M K J a B m d B' m' d' x
section
variable {w0 W W':World} {R M K J N H I Z m d m' d':Nat} {a:Aut} {B B':Option Addr} {x:ByteArray} {hd:Bool}
theorem zeA.drawn (h:zeA w0 W R M K J a B m d B' m' d' x)(hd:Dr R W W')(hr:Rd W' R N):zeA w0 W' R N K J a B m d B' m' d' x:=
 ⟨h.own.keep hd (fun b h1 e=>oM),h.bd,hr,h.dr.trans hd,h.hR⟩
theorem zeA.ext (h:zeA w0 W R M K J a B m d B' m' d' x)(hx:Ext W W'):zeA w0 W' R M K J a B m d B' m' d' x:=h.drawn hx.dr (h.rd.ext hx)
theorem zeA.more (h:zeA w0 W R M K J a B m d B' m' d' x)(hM:M<=N)(hK:K<=H)(hJ:J<=I):zeA w0 W R N H I a B m d B' m' d' x:=
 ⟨h.own,za ⟨BdL.more h.bd.out.1 hK,dL h.bd.out.2 hJ⟩,h.rd.more hM,h.dr,h.hR⟩
theorem zeA.far {ty:TypeId} (h:zeA w0 W R M K J a B m d B' m' d' x)(hB:Blk W Z ty cs)(hf:Frm (fun k=>k=Z) W W')(hZ:w0.heap.size<=Z)(h2:ty≠3∧ty≠110∧ty≠4):zeA w0 W' R M K J a B m d B' m' d' x:=
 ⟨h.own.ax hB hf h2,h.bd,h.rd.frm hf (fun k hk e=>oH h.hR),h.dr.far hf hZ,h.hR⟩
theorem zeA.less (h:zeA w0 W R M K J a B m d B' m' d' x)(hd:Dr R w1 w0)(hR:R<w1.heap.size):zeA w1 W R M K J a B m d B' m' d' x:=
 ⟨h.own,h.bd,h.rd,hd.trans h.dr,hR⟩
theorem zeA.fin {us:Array Value}(h:zeA w0 W R M K J a B m d B' m' d' x)(hz:Blk W Z 60 us)(h5:us.size=5)(hZ:w0.heap.size<=Z) :
  Hid (RetCe R M K J w0 (.returned (.agg #[.bool hd,a.al,.slice B m d,.slice B' m' d',x])) (((((W.setCell Z (.bool hd)).setCell ⟨Z,1,none⟩ a.al).setCell ⟨Z,2,none⟩ (.slice B m d)).setCell ⟨Z,3,none⟩ (.slice B' m' d')).setCell ⟨Z,4,none⟩ x)) ∧
  Hid (Blk (((((W.setCell Z (.bool hd)).setCell ⟨Z,1,none⟩ a.al).setCell ⟨Z,2,none⟩ (.slice B m d)).setCell ⟨Z,3,none⟩ (.slice B' m' d')).setCell ⟨Z,4,none⟩ x) Z 60 #[.bool hd,a.al,.slice B m d,.slice B' m' d',x]):=by
 have b:=zap W Z (.bool hd) (.int .i64 a.al) (.slice B m d) (.slice B' m' d') (.string x);exact⟨za ⟨hd,a,B,m,d,B',m',d',x,rfl,h.far hz b hZ dM⟩,za (zao hz h5 _ _ _ _ _)⟩
end
theorem bd_valid (h:zi a=true∨a=noA):BdA 12 a:=by
 rcases h with h|rfl
 ·obtain⟨f,⟨g,b⟩,i,c⟩:=zl h;refine⟨b,oM,fun l hl=>?_⟩;obtain⟨q,d⟩:=eB hl;rw [(c q l d).1];exact dL (zy _ _) oM
 ·exact⟨dG _,dG _,fun l hl=>by simp [noA] at hl⟩
theorem bd_autX (s t:Sys) (p:Aut):BdA 12 (autX (vpT s t p).code (vpT s t p).asm (vpT s t p).tr)∧(strX (vpT s t p).code (vpT s t p).asm (vpT s t p).tr).size<=4000:=by
 refine⟨?_,?_⟩
 ·unfold autX;split
  ·exact bd_valid (vpT_asm s t p)
  ·exact bd_valid (.inr rfl)
 ·unfold strX;split
  ·exact (zjd s t p).2
  ·exact dG _
theorem iface_and (s t:Sys) (p:Aut):∃ a:Nat,a<64∧bits .and .i64 (iface s p t) 63=(a:Int):=by
 rcases zdp s t p with h|⟨L,h⟩
 ·rw [h];exact⟨63,oM,dM⟩
 ·rw [h];exact⟨L&&&63,by have:=Nat.and_le_right (n:=L) (m:=63);omega,zbO (by have:=ziy h;unfold Sm;omega) (by unfold Sm;decide)⟩
theorem sl_pairR (hb:Blk w g 38 #[s.al,s.st,.slice A n c,t.al,t.st,.slice C k c2])(hg:R<g)(h:zbt w R A n s)(h':zbt w R C k t):zeB w (R+1) w.heap.size (some ⟨g,0,none⟩) 2 [s,t]:=by
 refine⟨rfl,[.int .i64 s.al,.int .i64 s.st,.slice A n c,.int .i64 t.al,.int .i64 t.st,.slice C k c2],⟨rfl,oM,fun _=>⟨_,rfl,hg,hb.lt,fun j u hu=>?_⟩⟩,fun j u hu=>?_⟩
 ·rw [zX,Nat.zero_add,hb.cell];simpa using hu
 ·match j with
  |0 =>
   simp at hu;subst hu;exact⟨A,n,c,rfl,rfl,rfl,h.at_⟩
  |1 =>
   simp at hu;subst hu;exact⟨C,k,c2,rfl,rfl,rfl,h'.at_⟩
  |j+2=>simp at hu
theorem yN15a2 {P:Prop}(h:P:=by
 go_wp2_with fail
 have cf:=f2.out.cell;exact bodyPost_ret (v:=.agg #[.bool false,(0:Int),(),(),x]) (by simp [results,Tryz.results92,go_sem,cf]) rfl f1.out
 ):P:=h
theorem spec_l13Draw {m:Nat}    (h:zbD w w R M L K s A n c t C k c2 p B m d B' m' d')(hM:M<=600000000)(hL:L<=100000) :
  Calls Tryz.prog 92 #[.pointer (some R),.agg #[s.al,s.st,.slice A n c],.agg #[t.al,t.st,.slice C k c2],.agg #[p.al,.slice B m d,.slice B' m' d']] w (RetCe R (M+1000) 16 4000 w):=by
 have af:=h.hR;obtain⟨w0,U0⟩:∃ x,Hid ((((w.alloc (.cells #[s.al,s.st,.slice A n c] 38)).alloc (.cells #[t.al,t.st,.slice C k c2] 38)).alloc (.cells #[p.al,.slice B m d,.slice B' m' d'] 27)).alloc (.cells #[.bool false,(0:Int),(),(),.string ⟨#[]⟩] 60)=x):=⟨_,za rfl⟩;have hx0:Ext w w0:=(((((dB _).alloc _).alloc _).alloc _).alloc _).trans (gH U0.out);obtain⟨b1,b2,b3⟩:=zR (((dB _).alloc _).trans (gH U0.out));have r:=eA U0.out;simp only [World.size_alloc] at r
 go_enter Tryz.func92,Tryz.ntmps92
 go_upto_region 1 with fail
 rw [U0.out] at *;have u:=h.ext hx0;have aS:=r.lt;have cS:=b1.cell;have cT:=b2.cell;have cP:=b3.cell;obtain⟨S,am⟩:∃ v,hdX (vpT s t p).code (vpT s t p).asm (vpT s t p).tr=v:=⟨_,rfl⟩;obtain⟨ad,aa⟩:∃ v,autX (vpT s t p).code (vpT s t p).asm (vpT s t p).tr=v:=⟨_,rfl⟩;obtain⟨U,ab⟩:∃ v,strX (vpT s t p).code (vpT s t p).asm (vpT s t p).tr=v:=⟨_,rfl⟩;obtain⟨aT,an⟩:∃ v,okC (vpT s t p).code (vpT s t p).asm (vpT s t p).tr=v:=⟨_,rfl⟩;have hC:=za (zfO (c:=c) (d:=d) (d':=d') (c2:=c2) u.is.at_ u.ip.reads u.it.at_ (oH u.ns) (dE _));have aD:=za (bd_autX s t p);rw [am,aa,ab,an] at hC;rw [aa,ab] at aD;clear am aa ab an;go_upto_region 2 with (first
  |(go_at_call 45;refine (hC.out).mono ?_;rintro e w1 ⟨D,q,f,D',q',f',rfl,ho,X⟩;clear cS cT cP))
 have aR:=X.size;have Y:=(dB w1).alloc (.cells #[.bool S,ad.al,.slice D q f,.slice D' q' f',U] 60);have V:=dX w1 60 #[.bool S,ad.al,.slice D q f,.slice D' q' f',U];have aC:=u.rd.lt;have j:zeA w (w1.alloc (.cells #[.bool S,ad.al,.slice D q f,.slice D' q' f',U] 60)) R M 12 4000 ad D q f D' q' f' U:=⟨(ho.ext Y).less oM,aD,(u.rd.ext X).ext Y,((u.dr.ext X).ext Y),af⟩;have au:=(u.ext X).ext Y;have J:=X.trans Y;replace b1:=b1.ext J;replace b2:=b2.ext J;replace b3:=b3.ext J;replace r:=r.ext J;clear ho Y J u hC;generalize hG:w1.heap.size=G at *;generalize w1.alloc _=w2 at *;go_wp2_with fail
 refine (zx au.rd oM).mono ?_;rintro e w3 ⟨y,rfl,-,-,ar,O⟩;have o:=au.drawn O ar;replace j:=j.drawn O ar;have aO:=o.rd.lt;replace b1:=b1.dr O oM;replace b2:=b2.dr O oM;replace b3:=b3.dr O oM;replace r:=r.dr O oM;replace V:=V.dr O oM;have aB:=za (show w.heap.size+4<=G by omega);clear au O ar X hG aR aS aC
 by_cases hy0:y=0
 ·subst hy0;have cS:=b1.cell;have cT:=b2.cell;have cP:=b3.cell;obtain⟨al,ha,a0⟩:=iface_and s t p;go_wp2_with fail
  refine (zbc (c:=c) (d1:=d) (d1':=d') (c2:=c2) o.is.at_ o.ip.reads o.it.at_).mono (mQ fun w4 z=>?_);generalize iface s p t=a2 at *;clear cS cT cP;go_wp2_with fail
  refine (zhe (o.rd.ext z) oM ha).mono ?_;rintro e w5 ⟨b,E,n5,c5,E',Q,F,rfl,ag,aQ,T,l⟩;have a1:=z.size;have g:=(r.ext z).dr l oM;have i:zeA w w5 R (M+1+500) 16 0 b E n5 c5 E' Q F ⟨#[]⟩:=⟨ag.less oM,za ⟨BdA.of aQ.out,dE _⟩,T,(o.dr.ext z).trans l,af⟩;obtain⟨f1,f2⟩:=(i.more (N:=M+1000) (H:=16) (I:=4000) oM oM oM).fin (hd:=true) g rfl oM;have cZ:=g.cell;have fZ:=g.frozen;clear g i ag;go_wp2_with fail
  have cf:=f2.out.cell;exact bodyPost_ret (v:=.agg #[.bool true,b.al,.slice E n5 c5,.slice E' Q F,.string ⟨#[]⟩]) (by simp [results,Tryz.results92,go_sem,cf]) rfl f1.out
 by_cases hy1:y=1
 ·subst hy1;have cS:=b1.cell;have cT:=b2.cell;go_upto_region 6 with fail
  have z:=(dB w3).alloc (.cells #[s.al,s.st,.slice A n c,t.al,t.st,.slice C k c2] 38);have bl:=dX w3 38 #[s.al,s.st,.slice A n c,t.al,t.st,.slice C k c2];have aE:=sl_pairR (R:=R) bl aO (o.is.ext z) (o.it.ext z);have aF:=o.ext z;replace r:=r.ext z;have HT:=za (spec_l7Trace (c:=2) (q:=5) aF.rd oM aE oM oM);clear aE bl;go_wp2_with fail
  refine HT.out.mono ?_;rintro e w5 ⟨x,rfl,hx,T,l⟩;have i:zeA w w5 R (M+1+2*5+2) 0 5 autZ none 0 0 none 0 0 x:=⟨ziF _ _,za ⟨bd_autZ _,hx⟩,T,aF.dr.trans l,af⟩;have g:=r.dr l oM;obtain⟨f1,f2⟩:=(i.more (N:=M+1000) (H:=16) (I:=4000) oM oM oM).fin (hd:=false) g rfl oM;dsimp only [autZ] at f1 f2;have cZ:=g.cell;have fZ:=g.frozen;clear g i cS cT;exact yN15a2
 by_cases hy2:y=2
 ·subst hy2;go_wp2_with fail
  refine (spec_l1Word (a:=7) (q:=4) o.rd oM oM oM).mono ?_;rintro e w5 ⟨x,rfl,hx,T,l⟩;have i:zeA w w5 R (M+1+4+2) 0 5 autZ none 0 0 none 0 0 x:=⟨ziF _ _,za ⟨bd_autZ _,oM⟩,T,o.dr.trans l,af⟩;have g:=r.dr l oM;obtain⟨f1,f2⟩:=(i.more (N:=M+1000) (H:=16) (I:=4000) oM oM oM).fin (hd:=false) g rfl oM;dsimp only [autZ] at f1 f2;have cZ:=g.cell;have fZ:=g.frozen;clear g i;exact yN15a2
 have h0:((y:Int)==0)=false:=by simp;omega
 have h1:((y:Int)==1)=false:=by simp;omega
 have h2:((y:Int)==2)=false:=by simp;omega
 clear b1 b2 b3 hy0 hy1 hy2 o;go_upto_block 0 with fail
 go_cut [] (fun wx=>∃ (hd:Bool) (a:Aut) (B:Option Addr) (m d:Nat) (B':Option Addr) (m' d':Nat) (x:ByteArray),Blk wx G 60 #[.bool hd,a.al,.slice B m d,.slice B' m' d',x]∧Blk wx (w.heap.size+1+1+1) 60 #[.bool false,(0:Int),(),(),.string ⟨#[]⟩]∧zeA w wx R (M+1000) 16 4000 a B m d B' m' d' x)
 case first =>
  have cG:=V.cell;have fG:=V.frozen;have aA:G≠w.heap.size+1+1+1:=oH aB.out;have aV:=aB.out
  by_cases hy3:y=3
  ·subst hy3;cases aT
   ·go_wp2_with fail
    go_meet;exact⟨_,_,_,_,_,_,_,_,_,V,r,j.more oM oM oM⟩
   ·cases S
    ·go_wp2_with fail
     go_meet;exact⟨_,_,_,_,_,_,_,_,_,V,r,j.more oM oM oM⟩
    ·go_wp2_with fail
     refine (zfy j.rd oM j.own j.bd.out.1 oM).mono ?_;rintro e w5 ⟨b,E,n5,c5,E',Q,F,rfl,ag,aP,T,l⟩;have i:=j.drawn l T;have Z:=V.dr l oM;have g:=r.dr l oM;clear cG fG;have cG:=Z.cell;have fG:=Z.frozen;have hf:Frm (fun k=>k=G) w5 (((w5.setCell ⟨G,1,none⟩ b.al).setCell ⟨G,2,none⟩ (.slice E n5 c5)).setCell ⟨G,3,none⟩ (.slice E' Q F)):=((dH w5 G 1 _).trans (dH _ G 2 _)).trans (dH _ G 3 _);have hB:Blk (((w5.setCell ⟨G,1,none⟩ b.al).setCell ⟨G,2,none⟩ (.slice E n5 c5)).setCell ⟨G,3,none⟩ (.slice E' Q F)) G 60 #[.bool true,.int .i64 b.al,.slice E n5 c5,.slice E' Q F,.string U]:=by
      simpa using ((Z.ae 1 (.int .i64 b.al)).ae 2 (.slice E n5 c5)).ae 3 (.slice E' Q F)
     have zjh:=(({ i with own:=ag.less oM,bd:=za ⟨aP.out,j.bd.out.2⟩ }:zeA w w5 R _ 13 4000 b E n5 c5 E' Q F U).far Z hf oM dM).more (N:=M+1000) (H:=16) (I:=4000) oM oM oM
     have aq:=g.frm hf (fun e=>aA e.symm);clear Z g hf;go_wp2_with fail
     go_meet;exact⟨_,_,_,_,_,_,_,_,_,hB,aq,zjh⟩
  ·have h3:((y:Int)==3)=false:=by simp;omega
   by_cases hy4:y=4
   ·subst hy4;have hf:=dH w3 G 0 (.bool (!S));have hB:Blk (w3.setCell G (.bool (!S))) G 60 #[.bool (!S),.int .i64 ad.al,.slice D q f,.slice D' q' f',.string U]:=by
     simpa using V.ae 0 (.bool (!S))
    have zjh:=(j.far V hf oM dM).more (N:=M+1000) (H:=16) (I:=4000) oM oM oM;have aq:=r.frm hf (fun e=>aA e.symm);go_wp2_with fail
    go_meet;exact⟨_,_,_,_,_,_,_,_,_,hB,aq,zjh⟩
   ·have h4:((y:Int)==4)=false:=by simp;omega
    go_wp2_with fail
    go_meet;exact⟨_,_,_,_,_,_,_,_,_,V,r,j.more oM oM oM⟩
 case rest =>
  clear j V r;obtain⟨hd,a,B,m,d,B',m',d',x,V,r,j⟩:=hcut;obtain⟨f1,f2⟩:=j.fin (hd:=hd) r rfl oM;have cG:=V.cell;have cZ:=r.cell;have fZ:=r.frozen;go_wp2_with fail
  have cf:=f2.out.cell;exact bodyPost_ret (v:=.agg #[.bool hd,a.al,.slice B m d,.slice B' m' d',x]) (by simp [results,Tryz.results92,go_sem,cf]) rfl f1.out
theorem ziS {m:Nat}   {x:ByteArray}  (h:zeA w w R M K J a B m d B' m' d' x)(hM:M<=600000000)(hK:K<=60)(hJ:J<=5000) :
  Calls Tryz.prog 91 #[.pointer (some R),.agg #[.bool hd,a.al,.slice B m d,.slice B' m' d',x]] w (RetCe R (M+100) (K+39) (J+1) w):=by
 have aB:=h.hR
 go_enter Tryz.func91,Tryz.ntmps91
 go_upto_region 1 with fail
 generalize U0:(w.alloc _).alloc _=w0 at *;obtain⟨hx0,i,j⟩:=Ext.x2_ U0;clear U0;have r:=h.ext hx0;go_wp2_with fail
 refine (zx r.rd oM).mono ?_;rintro e w2 ⟨y,rfl,-,-,s,f⟩;have b:=r.drawn f s;have aE:=hx0.size;have ad:=b.dr.size;replace i:=i.dr f oM;replace j:=j.dr f oM;clear r f s hx0 h;go_upto_block 0 with fail
 go_cut [] (fun wx=>∃ (a:Aut) (B:Option Addr) (m d:Nat) (B':Option Addr) (m' d':Nat) (x:ByteArray),Blk wx w.heap.size 60 #[.bool hd,a.al,.slice B m d,.slice B' m' d',x]∧Blk wx (w.heap.size+1) 60 #[.bool false,(0:Int),(),(),.string ⟨#[]⟩]∧zeA w wx R (M+100) (K+39) (J+1) a B m d B' m' d' x)
 case first =>
  have cG:=i.cell;have z:y=0∨y=1∨y=2∨3<=y:=oM;rcases z with G|G|G|G
  ·subst G;have ae:True:=trivial;go_wp2_with fail
   refine (zbL b.rd oM b.own b.bd.out.1 oM).mono ?_;rintro e v1 ⟨a1,A1,n1,d1,B1,m1,e1,rfl,ao,aj,ab,E⟩;have C:=b.drawn E ab;have aa:=b.rd.lt;have aC:=C.rd.lt;clear cG;go_wp2_with fail
   refine (zbL ab oM (ao.less oM) aj.out oM).mono ?_;rintro e v2 ⟨a2,A2,n2,d2,B2,m2,e2,rfl,ap,ak,s,f⟩;have D:=C.drawn f s;have aD:=D.rd.lt;go_wp2_with fail
   refine (zbL s oM (ap.less oM) ak.out oM).mono ?_;rintro e v3 ⟨Q,L,n3,S,O,m3,T,rfl,aq,am,ar,F⟩;have Y:=D.drawn F ar;have c:=((i.dr E oM).dr f oM).dr F oM;have o:=((j.dr E oM).dr f oM).dr F oM;have cG:=c.cell;have fG:=c.frozen;have t:Frm (fun k=>k=w.heap.size) v3 (((v3.setCell ⟨w.heap.size,1,none⟩ Q.al).setCell ⟨w.heap.size,2,none⟩ (.slice L n3 S)).setCell ⟨w.heap.size,3,none⟩ (.slice O m3 T)):=((dH v3 w.heap.size 1 _).trans (dH _ w.heap.size 2 _)).trans (dH _ w.heap.size 3 _);have U:Blk (((v3.setCell ⟨w.heap.size,1,none⟩ Q.al).setCell ⟨w.heap.size,2,none⟩ (.slice L n3 S)).setCell ⟨w.heap.size,3,none⟩ (.slice O m3 T)) w.heap.size 60 #[.bool hd,.int .i64 Q.al,.slice L n3 S,.slice O m3 T,.string x]:=by
    simpa using ((c.ae 1 (.int .i64 Q.al)).ae 2 (.slice L n3 S)).ae 3 (.slice O m3 T)
   have zjh:=(({ Y with own:=aq.less oM,bd:=za ⟨am.out,b.bd.out.2⟩ }:zeA w v3 R _ (K+13+13+13) J Q L n3 S O m3 T x).far c t oM dM).more (N:=M+100) (H:=K+39) (I:=J+1) oM oM oM
   have p:=o.frm t oM;clear c o t;go_wp2_with fail
   go_meet;exact⟨_,_,_,_,_,_,_,_,U,p,zjh⟩
  ·subst G;have ae:True:=trivial;have aG:=b.bd.out.2;have V:K<=K+39:=oM;generalize hK9:K+39=K9 at *;have aA:∀ W,Dr R w2 W->∀ q,W.cell? ⟨w.heap.size,q,none⟩=#[Value.bool hd,.int .i64 a.al,.slice B m d,.slice B' m' d',.string x][q]?:=fun W hW=>(i.dr hW oM).cell;clear cG;go_wp2_with fail
   refine tR (fun X=>Dr R w2 X) [7] (Ord.of [0,1,2,3,4,5,6,7]) ?_;refine tQ ?_;refine zB fun K hK=>?_;go_simp;refine hK.out _ _ ((Dr.refl R w2).drew.alloc _) ?_;refine pT ?_;refine zB fun K hK=>?_;go_simp;have av:=(dB w2).drew;have aw:=zbk w2.drew (us:=#[.string ⟨#[103]⟩,.string ⟨#[97]⟩,.string ⟨#[45]⟩]) (n:=3) rfl rfl oM;have aa:=b.rd.lt;refine (l19Rd_of ((b.rd.ext av).ext ((dB _).alloc _)) oM (Reads.af aw) (by show R<w2.drew.heap.size;exact aa) oM).mono ?_;rintro e w4 ⟨u,hu,rfl,au,an⟩;have g:Dr R w2 w4:=((Dr.refl R w2).drew.alloc _).trans an;have aF:u.size<=1:=by
    simp [ziY] at hu;rcases hu with rfl|rfl|rfl<;>decide
   have aH:¬ (9223372036854775807<x.size+u.size):=oM;refine hK.out _ _ g ?_;refine pT ?_;refine tQ ?_;have Z:=b.drawn g au;have c:=i.dr g oM;have o:=j.dr g oM;have fG:=c.frozen;have t:=dH w4 w.heap.size 4 (.string (x++u));have U:Blk (w4.setCell ⟨w.heap.size,4,none⟩ (.string (x++u))) w.heap.size 60 #[.bool hd,.int .i64 a.al,.slice B m d,.slice B' m' d',.string (x++u)]:=by
    simpa using c.ae 4 (.string (x++u))
   have zjh:=(({ Z with bd:=za ⟨b.bd.out.1,by rw [ByteArray.size_append];omega⟩ }:zeA w w4 R _ _ (J+1) a B m d B' m' d' (x++u)).far c t oM dM).more (N:=M+100) (H:=K9) (I:=J+1) oM V oM
   have p:=o.frm t oM;refine zN fun K hK=>?_;go_simp;refine hK.out _ _ ?_;refine zal ?_;clear c o t;go_wp2_with fail
   go_meet;exact⟨_,_,_,_,_,_,_,_,U,p,zjh⟩
  ·subst G;have ae:True:=trivial;have fG:=i.frozen;have t:Frm (fun k=>k=w.heap.size) w2 (((w2.setCell ⟨w.heap.size,1,none⟩ (1:Int)).setCell ⟨w.heap.size,2,none⟩ ()).setCell ⟨w.heap.size,3,none⟩ ()):=((dH w2 w.heap.size 1 _).trans (dH _ w.heap.size 2 _)).trans (dH _ w.heap.size 3 _);have U:Blk (((w2.setCell ⟨w.heap.size,1,none⟩ (1:Int)).setCell ⟨w.heap.size,2,none⟩ ()).setCell ⟨w.heap.size,3,none⟩ ()) w.heap.size 60 #[.bool hd,.int .i64 (⟨1,[],[]⟩:Aut).al,.slice none 0 0,.slice none 0 0,.string x]:=by
    simpa using ((i.ae 1 (.int .i64 1)).ae 2 (.slice none 0 0)).ae 3 (.slice none 0 0)
   have zjh:=(({ b with own:=⟨⟨[],World.ownsRow_nil _ _ _ _,zE.nil _ _⟩,rfl,World.ownsRow_nil _ _ _ _,rfl⟩,bd:=za ⟨⟨dG _,dG _,fun l hl=>by simp at hl⟩,b.bd.out.2⟩ }:zeA w w2 R _ K J ⟨1,[],[]⟩ none 0 0 none 0 0 x).far i t oM dM).more (N:=M+100) (H:=K+39) (I:=J+1) oM oM oM
   have p:=j.frm t oM;go_wp2_with fail
   go_meet;exact⟨_,_,_,_,_,_,_,_,U,p,zjh⟩
  ·have h0:((y:Int)==0)=false:=by simp;omega
   have h1:((y:Int)==1)=false:=by simp;omega
   have h2:((y:Int)==2)=false:=by simp;omega
   go_wp2_with fail
   go_meet;exact⟨_,_,_,_,_,_,_,_,i,j,b.more oM oM oM⟩
 case rest =>
  clear b i j ad;obtain⟨a,B,m,d,B',m',d',x,bc,j,b⟩:=hcut;obtain⟨f1,f2⟩:=b.fin (hd:=hd) j rfl oM;have cG:=bc.cell;have cZ:=j.cell;have fZ:=j.frozen;go_wp2_with fail
  have cf:=f2.out.cell;exact bodyPost_ret (v:=.agg #[.bool hd,a.al,.slice B m d,.slice B' m' d',x]) (by simp [results,Tryz.results91,go_sem,cf]) rfl f1.out
theorem zZ.at_new {A':Option Addr} {n' c':Nat} (h:zZ w base A n c A' n' c' a)(hl:lo<=base):zH w lo w.heap.size A n A' n' a:=(h.less hl).reads
def RetDK (w:World) (e:Ending) (w':World):Prop:=
 ∃ (s:Sys) (A:Option Addr) (n c:Nat) (t:Sys) (C:Option Addr) (k c2:Nat) (p:Aut) (B:Option Addr) (m d:Nat) (B':Option Addr) (m' d':Nat) (hd:Bool) (a:Aut) (D:Option Addr) (q f:Nat) (D':Option Addr) (q' f':Nat) (x:ByteArray),
  e=.returned (.tuple #[.agg #[s.al,s.st,.slice A n c],.agg #[t.al,t.st,.slice C k c2],.agg #[p.al,.slice B m d,.slice B' m' d'],.agg #[.bool hd,a.al,.slice D q f,.slice D' q' f',x]]) ∧
  (zO w' w.heap.size w'.heap.size A n s∧zO w' w.heap.size w'.heap.size C k t∧zH w' w.heap.size w'.heap.size B m B' m' p∧zH w' w.heap.size w'.heap.size D q D' q' a) ∧
  Hid (((n<=100000∧n<=c)∧(k<=100000∧k<=c2))∧BdA 100 p∧BdA 100 a∧x.size<=5000)∧Ext w w'
theorem draw_ck {N H m q f q' f':Nat}   {D D':Option Addr} {x:ByteArray}  {W':World} (hx:Ext w w1)(hR:w.heap.size<=R)(hT:zbD w1 W R M L K s A n c t C k c2 p B m d B' m' d')(hC:zeA w1 W R N H J a D q f D' q' f' x)
  (hF:Frm S W W') (hS:∀ k,S k->w.heap.size<=k∧k<R) (hL:L<=100000) (hK:K<=100) (hH:H<=100) (hJ:J<=5000) :
  RetDK w (.returned (.tuple #[.agg #[s.al,s.st,.slice A n c],.agg #[t.al,t.st,.slice C k c2],.agg #[p.al,.slice B m d,.slice B' m' d'],.agg #[.bool hd,a.al,.slice D q f,.slice D' q' f',x]])) W':=by
 have b:Ext w W:=Dr.new hx hR hT.dr;have g:=hT.is.frm hF (fun k hk h1=>by have:=hS k hk;omega);have h:=hT.it.frm hF (fun k hk h1=>by have:=hS k hk;omega);have i:=hT.ip.keep hF (fun k h1 hk=>by have:=hS k hk;omega);have j:=hC.own.keep hF (fun k h1 hk=>by have:=hS k hk;omega);have l:=hT.ns;exact⟨s,A,n,c,t,C,k,c2,p,B,m,d,B',m',d',hd,a,D,q,f,D',q',f',x,rfl,⟨g.new hR,h.new hR,i.at_new oM,j.at_new oM⟩,za ⟨oM,BdL.more hT.bd.out hK,BdL.more hC.bd.out.1 hH,dL hC.bd.out.2 hJ⟩,b.frm hF (fun k hk hk2=>by have:=hS k hk2;omega)⟩
theorem zhB {A0:Option Addr} {n0 c0:Nat} (h:Bytes w A0 n0)(hn:n0<=9223372036854775807)(hc:n0<=c0)(hc2:c0<=9223372036854775807) :
  Calls Tryz.prog 33 #[.slice A0 n0 c0] w (RetDK w):=by
 obtain⟨w0,U0⟩:∃ x,Hid ((((w.alloc (.cells #[(0:Int),(0:Int),()] 38)).alloc (.cells #[(0:Int),(0:Int),()] 38)).alloc (.cells #[(0:Int),(),()] 27)).alloc (.cells #[.bool false,(0:Int),(),(),.string ⟨#[]⟩] 60)=x):=⟨_,za rfl⟩;have hx0:Ext w w0:=(((((dB _).alloc _).alloc _).alloc _).alloc _).trans (gH U0.out);obtain⟨u,o,l,i⟩:=zfd (gH U0.out);have bA:w0.heap.size=w.heap.size+4:=by rw [← U0.out];simp
 have hh:=za (h.ext hx0);clear h
 go_enter Tryz.func33,Tryz.ntmps33
 go_upto_region 1 with fail
 rw [U0.out] at *;go_wp2_with fail
 refine (spec_l19Open hh.out hn hc hc2).mono ?_;rintro e w1 ⟨R,rfl,hR,aQ,U⟩;have aT:=hx0.trans U;have aL:=aQ.lt;replace u:=u.ext U;replace o:=o.ext U;replace l:=l.ext U;replace i:=i.ext U;go_upto_region 3 with (first
  |(go_at_call 90;refine (spec_l12Draw aQ oM).mono ?_;rintro e w2 ⟨s,A,n,c,t,C,k,c2,p,B,m,d,B',m',d',rfl,ht⟩))
 obtain⟨w3,U0⟩:∃ x,Hid (((w2.alloc (.cells #[s.al,s.st,.slice A n c] 38)).alloc (.cells #[t.al,t.st,.slice C k c2] 38)).alloc (.cells #[p.al,.slice B m d,.slice B' m' d'] 27)=x):=⟨_,za rfl⟩;have V:Ext w2 w3:=((((dB _).alloc _).alloc _).alloc _).trans (gH U0.out);obtain⟨Z,I,O⟩:=zR (gH U0.out);have bB:=ht.dr.size;have zz:=za (And.intro ((u.dr ht.dr oM).ext V) (And.intro ((o.dr ht.dr oM).ext V) (And.intro ((l.dr ht.dr oM).ext V) ((i.dr ht.dr oM).ext V))));have ad:=ht.ext V;have aS:w3.heap.size=w2.heap.size+3:=by rw [← U0.out];simp
 clear ht V u o l i;generalize hG:w2.heap.size=G at *;rw [U0.out] at *;clear hG;have cS:=Z.cell;have cT:=I.cell;have cP:=O.cell;have HD:=za (spec_l13Draw ad.own oM oM);have bz:=ad.ns;go_upto_region 4 with (first
  |(go_at_call 92;refine HD.out.mono ?_;rintro e w4 ⟨a0,a4,D4,q4,f4,aW,a1,aY,x4,rfl,aa⟩;have aP:=za (ziS (hd:=a0) ({ aa with dr:=Dr.refl _ _,hR:=aa.rd.lt }:zeA w4 w4 R _ 16 4000 a4 D4 q4 f4 aW a1 aY x4) oM oM oM))
  |(go_at_call 91;refine aP.out.mono ?_;rintro e w5 ⟨hd,a,D,q,f,D',q',f',x,rfl,aD⟩))
 have Q:=aa.dr;have ab:=aD.dr;have aF:=(dB w5).alloc (.cells #[.bool hd,a.al,.slice D q f,.slice D' q' f',x] 60);have bc:=dX w5 60 #[.bool hd,a.al,.slice D q f,.slice D' q' f',x];have g:Dr R w3 (w5.alloc (.cells #[.bool hd,a.al,.slice D q f,.slice D' q' f',x] 60)):=(Q.trans ab).ext aF;have z:=((aD.less Q aa.hR).ext aF).less ad.dr aL;have af:=ad.drawn g z.rd;have aR:=(Q.trans ab).size;replace Z:=Z.dr g oM;replace I:=I.dr g oM;replace O:=O.dr g oM;obtain⟨u,o,l,i⟩:=zz.out;replace zz:=za (And.intro (u.dr g oM) (And.intro (o.dr g oM) (And.intro (l.dr g oM) (i.dr g oM))));clear aa aD Q ab aF g ad u o l i HD aP cS cT cP hx0 U;have r:=za (show G+3<=w5.heap.size∧R<G by omega);generalize hGe:w5.heap.size=Gc at *;generalize w5.alloc _=w6 at *;clear hGe aR aS;have cS:=Z.cell;have cT:=I.cell;have cP:=O.cell;have HS:=za (spec_l9Spoil af.own oM oM oM);go_wp2_with fail
 refine HS.out.mono ?_;rintro e w7 ⟨J,A7,n7,c7,L,C7,k7,d7,p7,B7,m7,e7,E,H,F,rfl,ag⟩;have bw:=af.rd.lt;have g:=ag.dr;replace z:=z.drawn g ag.rd;have M:=ag.less af.dr aL;replace Z:=Z.dr g (oH r.out);replace I:=I.dr g (oH r.out);replace O:=O.dr g (oH r.out);replace bc:=bc.dr g (oH r.out);obtain⟨u,o,l,i⟩:=zz.out;replace zz:=za (And.intro (u.dr g oM) (And.intro (o.dr g oM) (And.intro (l.dr g oM) (i.dr g oM))));clear af ag g u o l i HS cS cT cP;have cS:=Z.cell;have fS:=Z.frozen;have cT:=I.cell;have fT:=I.frozen;have cP:=O.cell;have fP:=O.frozen;go_upto_region 5 with fail
 have b:=zaj w7 G (.int .i64 J.al) (.int .i64 J.st) (.slice A7 n7 c7);have q1:=zaA Z rfl (.int .i64 J.al) (.int .i64 J.st) (.slice A7 n7 c7);replace M:=M.far Z b oM dM dM;replace z:=z.far Z b oM dM;replace I:=I.frm b oM;replace O:=O.frm b oM;replace bc:=bc.frm b (oH r.out);obtain⟨u,o,l,i⟩:=zz.out;replace u:=u.frm b oM;replace o:=o.frm b oM;replace l:=l.frm b oM;replace i:=i.frm b oM;clear zz b Z cS fS cT fT cP fP;generalize ((w7.setCell G J.al).setCell ⟨G,1,none⟩ J.st).setCell ⟨G,2,none⟩ (.slice A7 n7 c7)=w8 at *;have b:=zaj w8 (G+1+1) (.int .i64 p7.al) (.slice B7 m7 e7) (.slice E H F);have q3:=zaA O rfl (.int .i64 p7.al) (.slice B7 m7 e7) (.slice E H F);replace M:=M.far O b oM dM dM;replace z:=z.far O b oM dM;replace I:=I.frm b oM;replace q1:=q1.frm b oM;replace bc:=bc.frm b (oH r.out);replace u:=u.frm b oM;replace o:=o.frm b oM;replace l:=l.frm b oM;replace i:=i.frm b oM;clear b O;generalize ((w8.setCell ⟨G+1+1,0,none⟩ p7.al).setCell ⟨G+1+1,1,none⟩ (.slice B7 m7 e7)).setCell ⟨G+1+1,2,none⟩ (.slice E H F)=w9 at *;have b:=zaj w9 (G+1) (.int .i64 L.al) (.int .i64 L.st) (.slice C7 k7 d7);have q2:=zaA I rfl (.int .i64 L.al) (.int .i64 L.st) (.slice C7 k7 d7);replace M:=M.far I b oM dM dM;replace z:=z.far I b oM dM;replace q1:=q1.frm b oM;replace q3:=q3.frm b oM;replace bc:=bc.frm b (oH r.out);replace u:=u.frm b oM;replace o:=o.frm b oM;replace l:=l.frm b oM;replace i:=i.frm b oM;clear b I;generalize ((w9.setCell ⟨G+1,0,none⟩ L.al).setCell ⟨G+1,1,none⟩ L.st).setCell ⟨G+1,2,none⟩ (.slice C7 k7 d7)=S at *;have cS:∀ W,Frm (fun k=>k=w.heap.size∨k=w.heap.size+1∨k=w.heap.size+1+1) S W->∀ q,W.cell? ⟨G,q,none⟩=#[Value.int .i64 J.al,.int .i64 J.st,.slice A7 n7 c7][q]?:=fun W hW=>(q1.frm hW (oH r.out)).cell;have cT:∀ W,Frm (fun k=>k=w.heap.size∨k=w.heap.size+1∨k=w.heap.size+1+1) S W->∀ q,W.cell? ⟨G+1,q,none⟩=#[Value.int .i64 L.al,.int .i64 L.st,.slice C7 k7 d7][q]?:=fun W hW=>(q2.frm hW (oH r.out)).cell;have cP:∀ W,Frm (fun k=>k=w.heap.size∨k=w.heap.size+1∨k=w.heap.size+1+1) S W->∀ q,W.cell? ⟨G+1+1,q,none⟩=#[Value.int .i64 p7.al,.slice B7 m7 e7,.slice E H F][q]?:=fun W hW=>(q3.frm hW (oH r.out)).cell;have cC:∀ W,Frm (fun k=>k=w.heap.size∨k=w.heap.size+1∨k=w.heap.size+1+1) S W->∀ j,W.cell? ⟨Gc,j,none⟩=#[Value.bool hd,.int .i64 a.al,.slice D q f,.slice D' q' f',.string x][j]?:=fun W hW=>(bc.frm hW (oH r.out)).cell;have aN:Frm (fun k=>k=w.heap.size∨k=w.heap.size+1∨k=w.heap.size+1+1) S S.drew:=(dB S).drew.aj;have Y:=(dB S).drew;have aZ:Frm (fun k=>k=w.heap.size∨k=w.heap.size+1∨k=w.heap.size+1+1∨k=w.heap.size+1+1+1) S S:=Frm.refl _ _;clear q1 q2 q3 bc;go_wp2_with fail
 refine tR (fun X=>Frm (fun k=>k=w.heap.size∨k=w.heap.size+1∨k=w.heap.size+1+1) S X) [7] (Ord.of [0,1,2,3,4,5,6,7]) ?_;refine tQ ?_;have y:Frm (fun k=>k=w.heap.size∨k=w.heap.size+1∨k=w.heap.size+1+1∨k=w.heap.size+1+1+1) S S.drew:=Y.aj;replace u:=u.ext Y;replace o:=o.ext Y;replace l:=l.ext Y;replace i:=i.ext Y;clear aZ;generalize hwD:S.drew=wD at *;clear hwD Y;have k1:=u.cell;have g1:=u.frozen;refine zB fun K hK=>?_;go_simp;have r1:=zaA u rfl (.int .i64 J.al) (.int .i64 J.st) (.slice A7 n7 c7);have b:=zaj wD w.heap.size (.int .i64 J.al) (.int .i64 J.st) (.slice A7 n7 c7);replace o:=o.frm b oM;replace l:=l.frm b oM;replace i:=i.frm b oM;have aB:=aN.trans (b.mono (T:=fun k=>k=w.heap.size∨k=w.heap.size+1∨k=w.heap.size+1+1) (fun k _ hk=>.inl hk));replace y:=y.trans (b.mono (T:=fun k=>k=w.heap.size∨k=w.heap.size+1∨k=w.heap.size+1+1∨k=w.heap.size+1+1+1) (fun k _ hk=>.inl hk));refine hK.out _ _ aB ?_;refine pT ?_;clear k1 g1 u b aN;generalize ((wD.setCell w.heap.size J.al).setCell ⟨w.heap.size,1,none⟩ J.st).setCell ⟨w.heap.size,2,none⟩ (.slice A7 n7 c7)=wA at *;have k1:=o.cell;have g1:=o.frozen;refine zB fun K hK=>?_;go_simp;have r2:=zaA o rfl (.int .i64 L.al) (.int .i64 L.st) (.slice C7 k7 d7);have b:=zaj wA (w.heap.size+1) (.int .i64 L.al) (.int .i64 L.st) (.slice C7 k7 d7);replace r1:=r1.frm b oM;replace l:=l.frm b oM;replace i:=i.frm b oM;have aC:=aB.trans (b.mono (T:=fun k=>k=w.heap.size∨k=w.heap.size+1∨k=w.heap.size+1+1) (fun k _ hk=>.inr (.inl hk)));replace y:=y.trans (b.mono (T:=fun k=>k=w.heap.size∨k=w.heap.size+1∨k=w.heap.size+1+1∨k=w.heap.size+1+1+1) (fun k _ hk=>.inr (.inl hk)));refine hK.out _ _ aC ?_;refine pT ?_;clear k1 g1 o b aB;generalize ((wA.setCell ⟨w.heap.size+1,0,none⟩ L.al).setCell ⟨w.heap.size+1,1,none⟩ L.st).setCell ⟨w.heap.size+1,2,none⟩ (.slice C7 k7 d7)=wB at *;have k1:=l.cell;have g1:=l.frozen;refine zB fun K hK=>?_;go_simp;have r3:=zaA l rfl (.int .i64 p7.al) (.slice B7 m7 e7) (.slice E H F);have b:=zaj wB (w.heap.size+1+1) (.int .i64 p7.al) (.slice B7 m7 e7) (.slice E H F);replace r1:=r1.frm b oM;replace r2:=r2.frm b oM;replace i:=i.frm b oM;have aO:=aC.trans (b.mono (T:=fun k=>k=w.heap.size∨k=w.heap.size+1∨k=w.heap.size+1+1) (fun k _ hk=>.inr (.inr hk)));replace y:=y.trans (b.mono (T:=fun k=>k=w.heap.size∨k=w.heap.size+1∨k=w.heap.size+1+1∨k=w.heap.size+1+1+1) (fun k _ hk=>.inr (.inr (.inl hk))));refine hK.out _ _ aO ?_;refine pT ?_;clear k1 g1 l b aC;generalize ((wB.setCell ⟨w.heap.size+1+1,0,none⟩ p7.al).setCell ⟨w.heap.size+1+1,1,none⟩ (.slice B7 m7 e7)).setCell ⟨w.heap.size+1+1,2,none⟩ (.slice E H F)=wC at *;have k1:=i.cell;have g1:=i.frozen;refine zN fun K hK=>?_;go_simp;have r4:=zao i rfl (.bool hd) (.int .i64 a.al) (.slice D q f) (.slice D' q' f') (.string x);have b:=zap wC (w.heap.size+1+1+1) (.bool hd) (.int .i64 a.al) (.slice D q f) (.slice D' q' f') (.string x);replace r1:=r1.frm b oM;replace r2:=r2.frm b oM;replace r3:=r3.frm b oM;replace y:=y.trans (b.mono (T:=fun k=>k=w.heap.size∨k=w.heap.size+1∨k=w.heap.size+1+1∨k=w.heap.size+1+1+1) (fun k _ hk=>.inr (.inr (.inr hk))));refine hK.out _ _ ?_;refine zal ?_;have zjh:=za (draw_ck (hd:=hd) aT oM M z y (fun k hk=>oM) oM oM oM oM);clear k1 g1 i b aO y cS cT cP cC;generalize (((((wC.setCell ⟨w.heap.size+1+1+1,0,none⟩ (.bool hd)).setCell ⟨w.heap.size+1+1+1,1,none⟩ a.al).setCell ⟨w.heap.size+1+1+1,2,none⟩ (.slice D q f)).setCell ⟨w.heap.size+1+1+1,3,none⟩ (.slice D' q' f')).setCell ⟨w.heap.size+1+1+1,4,none⟩ x)=wF at *;go_wp2_with fail
 have c1:=r1.cell;have aX:=r2.cell;have c3:=r3.cell;have c4:=r4.cell;exact bodyPost_ret (v:=.tuple #[.agg #[J.al,J.st,.slice A7 n7 c7],.agg #[L.al,L.st,.slice C7 k7 d7],.agg #[p7.al,.slice B7 m7 e7,.slice E H F],.agg #[.bool hd,a.al,.slice D q f,.slice D' q' f',x]]) (by simp [results,Tryz.results33,go_sem,c1,aX,c3,c4]) rfl zjh.out
structure zeC (s t:Sys):Prop where
 al:t.al=s.al
 v1:zk s=true
 v2:zk t=true
 runs:∀ v,Runs s v↔Runs t v
structure zfF (p q:Aut):Prop where
 al:q.al=p.al
 v1:zi p=true
 v2:zi q=true
 acc:∀ v:List Nat,(∀ l∈v,l<6)->zaC p (zbh p 0 v)=zaC q (zbh q 0 v)
section
variable {s s' t t':Sys} {p p' a a':Aut} {x:ByteArray}
theorem zfL {v:List Nat}(h:Over L v):∀ l∈v,l<6:=fun l hl=>(h l hl).1
theorem zfK (hs:zeC s s')(ht:zeC t t')(hp:zfF p p'):iface s' p' t'=iface s p t:=by
 unfold iface;rw [hs.v1,hs.v2,ht.v1,ht.v2,hp.v1,hp.v2,hs.al,ht.al,hp.al]
theorem keepsU_same (hs:zeC s s')(ha:zfF a a')(hp:zfF p p'):zcH s' a' p'=zcH s a p:=by
 rw [gI,zhX,zhX,hs.al,ha.al];constructor
 ·rintro ⟨-,h⟩;refine⟨⟨hs.v1,ha.v1,hp.v1⟩,fun v hv hr hc=>?_⟩;rw [hp.acc v (zfL hv)];exact h v hv ((hs.runs v).1 hr) (by rw [← ha.acc v (zfL hv)];exact hc)
 ·rintro ⟨-,h⟩;refine⟨⟨hs.v2,ha.v2,hp.v2⟩,fun v hv hr hc=>?_⟩;rw [← hp.acc v (zfL hv)];exact h v hv ((hs.runs v).2 hr) (by rw [ha.acc v (zfL hv)];exact hc)
theorem parts_one (h1:zk t=true)(h2:zk t'=true):zC [t']=zC [t]:=by
 simp [zC,h1,h2]
theorem parts_two (h1:zk s=true)(h2:zk s'=true)(h3:zk t=true)(h4:zk t'=true):zC [s',t']=zC [s,t]:=by
 simp [zC,h1,h2,h3,h4]
theorem keepsP_same (ht:zeC t t')(ha:zfF a a'):zcn [t'] a'=zcn [t] a:=by
 rw [gI,zhW,zhW,parts_one ht.v1 ht.v2,ha.v1,ha.v2];have b:zK [t']=zK [t]:=by simp [zK,ht.al]
 rw [b];refine and_congr_right fun _=>⟨fun h v hv hr=>?_,fun h v hv hr=>?_⟩
 ·rw [ha.acc v (zfL hv)];exact h v hv (by simpa using (ht.runs v).1 (by simpa using hr))
 ·rw [← ha.acc v (zfL hv)];exact h v hv (by simpa using (ht.runs v).2 (by simpa using hr))
theorem topB_same (hs:zeC s s')(ht:zeC t t'):zij [s',t'] x=zij [s,t] x:=by
 rw [gI,top_iff,top_iff,parts_two hs.v1 hs.v2 ht.v1 ht.v2];have a:zK [s',t']=zK [s,t]:=by simp [zK,ht.al,hs.al]
 rw [a];simp [hs.runs,ht.runs]
theorem breakB_same (hp:zfF p p'):zcV p' x=zcV p x:=by
 unfold zcV;rw [hp.v1,hp.v2];cases hw:zaW x
 ·simp
 ·rw [hp.acc _ (zhK hw)]
theorem faultA_same (hs:zeC s s')(ht:zeC t t')(hp:zfF p p')(ha:zfF a a'):zbY s' t' p' a'=zbY s t p a:=by
 unfold zbY;rw [zfK hs ht hp,keepsU_same hs ha hp,keepsP_same ht ha,ha.al,ha.v1,ha.v2]
theorem traceZ_same (hs:zeC s s')(ht:zeC t t')(hp:zfF p p'):zdj s' t' p' x=zdj s t p x:=by
 unfold zdj;rw [topB_same hs ht,breakB_same hp]
theorem checkZ_same1 (hs:zeC s s')(ht:zeC t t')(hp:zfF p p')(ha:zfF a a'):zcW s' t' p' true a' x=zcW s t p true a x:=by
 unfold zcW;have b:zL true a' x=zL true a x:=by unfold zL;rw [if_pos rfl,if_pos rfl,ha.v1,ha.v2]
 rw [zfK hs ht hp,faultA_same hs ht hp ha,b];simp
theorem checkZ_same0 (hs:zeC s s')(ht:zeC t t')(hp:zfF p p'):zcW s' t' p' false a x=zcW s t p false a x:=by
 unfold zcW;rw [zfK hs ht hp,traceZ_same hs ht hp];simp
theorem checkZ_valid (h1:zcW s t p hd a x≠1)(h2:zcW s t p hd a x≠2):zk s=true∧zk t=true∧zi p=true∧zL hd a x=true:=by
 unfold zcW at h1 h2
 by_cases hi:iface s p t<0
 ·rw [if_pos hi] at h1;exact absurd rfl h1
 ·rw [if_neg hi] at h2;have b:=hi;rw [zfh] at b;rw [Bool.not_eq_false] at b;simp only [Bool.and_eq_true] at b;refine⟨b.1,b.2.2,b.2.1,?_⟩;cases hc:zL hd a x
  ·rw [if_pos hc] at h2;exact absurd rfl h2
  ·rfl
end
theorem st_nat (h:zk s=true):s.st=((s.st.toNat:Nat):Int):=by
 have:=(zdS.1 h).2.1;omega
theorem zgI (hs:Sml s) (hb:s.al.toNat.testBit l=true):k∈cho s i l↔E s.edges i l k:=by
 obtain⟨-,m,b,-⟩:=hs;unfold cho E;rw [if_pos hb,zG,zcO];constructor
 ·rintro ⟨-,e,a,⟨c,d⟩,f⟩;obtain⟨g,h,j⟩:=b e a;exact⟨e,a,oM,oM,oM⟩
 ·rintro ⟨e,a,c,d,f⟩;obtain⟨g,h,j⟩:=b e a;exact⟨oM,e,a,⟨oM,oM⟩,oM⟩
theorem zfb (hb:¬ s.al.toNat.testBit l=true):k∈cho s i l↔k=i:=by
 unfold cho;rw [if_neg hb];simp
section
variable {s:Sys} {p R:Nat}
theorem goes_rch (hs:Sml s):∀ (n:Nat) (v:List Nat),v.length=n->∀ q,zbu (cho s) [0] v q->Rch s.edges q:=by
 intro n
 induction n with
 |zero =>
  intro v hv q h;obtain rfl:v=[]:=List.length_eq_zero_iff.1 hv;generalize hw:([]:List Nat)=w at h;cases h with
  |nil h=>
   obtain rfl:q=0:=by simpa using h
   exact .zero
  |snoc h hx=>simp at hw
 |succ n ih =>
  intro v hv q h;obtain⟨u,l,rfl⟩:∃ u l,v=u++[l]:=⟨v.dropLast,v.getLast (by intro e;rw [e] at hv;simp at hv),(iV _).symm⟩;obtain⟨m,c,a⟩:=h.inv;have b:=ih u (by simpa using hv) m c
  by_cases hb:s.al.toNat.testBit l=true
  ·exact .step b ((zgI hs hb).1 a)
  ·obtain rfl:=(zfb hb).1 a;exact b
theorem goes_sub (hs:Sml s)(hs2:Sml (zhJ s R))(hR:zgE s.edges p R):∀ (n:Nat) (v:List Nat),v.length=n->∀ q',zbu (cho (zhJ s R)) [0] v q'↔∃ q,zbu (cho s) [0] v q∧rk R q=q':=by
 have o:rk R 0=0:=by simp [rk,letters]
 intro n
 induction n with
 |zero =>
  intro v hv q';obtain rfl:v=[]:=List.length_eq_zero_iff.1 hv;constructor
  ·intro h;generalize hw:([]:List Nat)=w at h;cases h with
   |nil h=>
    obtain rfl:q'=0:=by simpa using h
    exact⟨0,.nil sM,o⟩
   |snoc h hx=>simp at hw
  ·rintro ⟨q,h,rfl⟩;generalize hw:([]:List Nat)=w at h;cases h with
   |nil h=>
    obtain rfl:q=0:=by simpa using h
    rw [o];exact .nil sM
   |snoc h hx=>simp at hw
 |succ n ih =>
  intro v hv q';obtain⟨u,l,rfl⟩:∃ u l,v=u++[l]:=⟨v.dropLast,v.getLast (by intro e;rw [e] at hv;simp at hv),(iV _).symm⟩;have g:u.length=n:=by simpa using hv
  have a:(zhJ s R).al=s.al:=rfl;constructor
  ·intro h;obtain⟨z,f,c⟩:=h.inv;obtain⟨m,d,rfl⟩:=(ih u g z).1 f
   by_cases hb:s.al.toNat.testBit l=true
   ·have b:=(zgI hs2 (by rw [a];exact hb)).1 c;obtain⟨i,k,r,B,t,x,y⟩:=subE_E.1 b;obtain rfl:=rk_inj r ((hR.2 m).2 (goes_rch hs n u g m d)) x;exact⟨k,d.snoc ((zgI hs hb).2 t),y⟩
   ·have b:=(zfb (s:=zhJ s R) (by rw [a];exact hb)).1 c;exact⟨m,d.snoc ((zfb hb).2 rfl),b.symm⟩
  ·rintro ⟨q,h,rfl⟩;obtain⟨m,f,c⟩:=h.inv;have d:=(ih u g (rk R m)).2 ⟨m,f,rfl⟩;refine d.snoc ?_;have j:=goes_rch hs n u g m f
   by_cases hb:s.al.toNat.testBit l=true
   ·have b:=(zgI hs hb).1 c;rw [zgI hs2 (by rw [a];exact hb)];exact subE_E.2 ⟨m,q,(hR.2 m).2 j,(hR.2 q).2 (.step j b),b,rfl,rfl⟩
   ·obtain rfl:=(zfb hb).1 c;exact (zfb (s:=zhJ s R) (by rw [a];exact hb)).2 rfl
theorem same_sub (h:zk s=true)(hp:s.st=p)(hR:zgE s.edges p R):zeC s (zhJ s R):=by
 have a:=sub_valid h hp hR;refine⟨rfl,h,a,fun v=>⟨fun ⟨q,hq⟩=>⟨rk R q,?_⟩,fun ⟨q',hq⟩=>?_⟩⟩
 ·exact (goes_sub (zbZ h) (zbZ a) hR _ v rfl _).2 ⟨q,hq,rfl⟩
 ·obtain⟨q,b,-⟩:=(goes_sub (zbZ h) (zbZ a) hR _ v rfl _).1 hq;exact⟨q,b⟩
end
def onesN (x:Nat):Nat:=
 let a:=((x / 2)&&&6148914691236517205)+(x&&&6148914691236517205)
 let b:=((a / 4)&&&3689348814741910323)+(a&&&3689348814741910323)
 let c:=((b / 16)+b)&&&1085102592571150095
 let d:=c+c / 256
 let e:=d+d / 65536
 let f:=e+e / 4294967296
 f&&&127
def c8 (x:Nat):Nat:=x % 2+x / 2 % 2+x / 4 % 2+x / 8 % 2+x / 16 % 2+x / 32 % 2+x / 64 % 2+x / 128 % 2
theorem onesN_c8:∀ a:Fin 256,∀ b:Fin 256,onesN (a.val*256+b.val)=c8 a.val+c8 b.val:=by decide +kernel
theorem c8_rk:∀ a:Fin 256,c8 a.val=(letters a.val 8).length:=by decide +kernel
theorem rk_hi (x k:Nat):rk x (8+k)=rk x 8+rk (x / 256) k:=by
 induction k with
 |zero=>rfl
 |succ k ih =>
  have e:(x / 256).testBit k=x.testBit (8+k):=by rw [show (256:Nat)=2 ^ 8 from rfl,Nat.testBit_div_two_pow,Nat.add_comm]
  rw [← Nat.add_assoc,zcQ x (8+k),zcQ (x / 256) k,ih,e];omega
theorem rk_lo (x:Nat):∀ k,k<=8->rk (x % 256) k=rk x k
 |0,_=>rfl
 |k+1,h=>by
  rw [zcQ,zcQ,rk_lo x k oM,show (256:Nat)=2 ^ 8 from rfl,Nat.testBit_mod_two_pow]
  simp [show k<8 by omega]
theorem rk_top (h:x<2 ^ n):∀ d,rk x (n+d)=rk x n
 |0=>rfl
 |d+1=>by
  rw [← Nat.add_assoc,zcQ,rk_top h d,gE (dY h (dV oM oM))]
  rfl
theorem onesN_rk (h:x<65536):onesN x=rk x 32:=by
 have e:=onesN_c8 ⟨x / 256,oM⟩ ⟨x % 256,oM⟩;have a:c8 (x / 256)=rk (x / 256) 8:=c8_rk ⟨x / 256,oM⟩;have b:c8 (x % 256)=rk (x % 256) 8:=c8_rk ⟨x % 256,oM⟩;simp only at e;rw [show x / 256*256+x % 256=x by omega] at e;have c:rk x 32=rk x 16:=rk_top (n:=16) h 16;have d:rk x 16=rk x 8+rk (x / 256) 8:=rk_hi x 8;have f:=rk_lo x 8 (dE _);omega
theorem and_u64 {a:Nat}(ha:a<18446744073709551616)(hb:b<18446744073709551616):bits .and .u64 (a:Int) (b:Int)=((a&&&b:Nat):Int):=by
 have c:a&&&b<=a:=fX;show IntKind.u64.wrap ((BitVec.ofInt 64 (a:Int)&&&BitVec.ofInt 64 (b:Int)).toNat:Int)=_;rw [BitVec.toNat_and,BitVec.ofInt_natCast,BitVec.ofInt_natCast,BitVec.toNat_ofNat,BitVec.toNat_ofNat,gT oM,gT oM,IntKind.wrap_u64];omega
theorem zeZ {a:Nat}(ha:a<18446744073709551616) (C:Nat)(hb:C<18446744073709551616) (I:Int)(hI:I=(C:Int)):bits .and .u64 (a:Int) I=((a&&&C:Nat):Int):=by
 subst hI;exact and_u64 ha hb
theorem ones64 (hx:x<65536) (w:World):Calls Tryz.prog 266 #[.int .u64 (x:Nat)] w fun e w'=>e=.returned (.int .i64 (rk x 32:Nat))∧w=w':=by
 have h:=onesN_rk hx;dsimp only [onesN] at h;have g:=za h;clear h;have wr:∀ y:Nat,y<18446744073709551616->IntKind.u64.wrap (y:Int)=(y:Int):=fun y hy=>by rw [IntKind.wrap_u64];omega
 have C:x / 2&&&6148914691236517205<=x / 2:=fX;have D:x&&&6148914691236517205<=x:=fX;have H:bits .and .u64 ((x:Int) / 2) 6148914691236517205=((x / 2&&&6148914691236517205:Nat):Int):=zeZ (a:=x / 2) oM 6148914691236517205 oM _ rfl;have I:bits .and .u64 (x:Int) 6148914691236517205=((x&&&6148914691236517205:Nat):Int):=zeZ (a:=x) oM 6148914691236517205 oM _ rfl;generalize x / 2&&&6148914691236517205=j at *;generalize x&&&6148914691236517205=l at *;have s:IntKind.u64.wrap ((j:Int)+(l:Int))=((j+l:Nat):Int):=by rw [← gX];exact wr _ oM
 obtain⟨a,o⟩:∃ a,a=j+l:=⟨_,rfl⟩;rw [← o] at s g;have E:a / 4&&&3689348814741910323<=a / 4:=fX;have F:a&&&3689348814741910323<=a:=fX;have J:bits .and .u64 ((a:Int) / 4) 3689348814741910323=((a / 4&&&3689348814741910323:Nat):Int):=zeZ (a:=a / 4) oM 3689348814741910323 oM _ rfl;have L:bits .and .u64 (a:Int) 3689348814741910323=((a&&&3689348814741910323:Nat):Int):=zeZ (a:=a) oM 3689348814741910323 oM _ rfl;generalize a / 4&&&3689348814741910323=m at *;generalize a&&&3689348814741910323=n at *;have t:IntKind.u64.wrap ((m:Int)+(n:Int))=((m+n:Nat):Int):=by rw [← gX];exact wr _ oM
 obtain⟨b,hb⟩:∃ b,b=m+n:=⟨_,rfl⟩;rw [← hb] at t g;have u:IntKind.u64.wrap ((b:Int) / 16+(b:Int))=((b / 16+b:Nat):Int):=by rw [show (b:Int) / 16+(b:Int)=((b / 16+b:Nat):Int) by omega];exact wr _ oM
 obtain⟨k,hk⟩:∃ k,k=b / 16+b:=⟨_,rfl⟩;rw [← hk] at u g;have G:k&&&1085102592571150095<=k:=fX;have M:bits .and .u64 (k:Int) 1085102592571150095=((k&&&1085102592571150095:Nat):Int):=zeZ (a:=k) oM 1085102592571150095 oM _ rfl;generalize k&&&1085102592571150095=c at *;have v:IntKind.u64.wrap ((c:Int)+(c:Int) / 256)=((c+c / 256:Nat):Int):=by rw [show (c:Int)+(c:Int) / 256=((c+c / 256:Nat):Int) by omega];exact wr _ oM
 obtain⟨d,p⟩:∃ d,d=c+c / 256:=⟨_,rfl⟩;rw [← p] at v g;have z:IntKind.u64.wrap ((d:Int)+(d:Int) / 65536)=((d+d / 65536:Nat):Int):=by rw [show (d:Int)+(d:Int) / 65536=((d+d / 65536:Nat):Int) by omega];exact wr _ oM
 obtain⟨e,q⟩:∃ e,e=d+d / 65536:=⟨_,rfl⟩;rw [← q] at z g;have B:IntKind.u64.wrap ((e:Int)+(e:Int) / 4294967296)=((e+e / 4294967296:Nat):Int):=by rw [show (e:Int)+(e:Int) / 4294967296=((e+e / 4294967296:Nat):Int) by omega];exact wr _ oM
 obtain⟨f,r⟩:∃ f,f=e+e / 4294967296:=⟨_,rfl⟩;rw [← r] at B g;have i:f<4294967296:=oM;have f1:=za (zbO (a:=f) (b:=127) i tM);have f2:IntKind.i64.wrap (f:Int)=(f:Int):=IntWalk.i64_in _ oM;clear o hb hk p q r C D E F G wr
 go_enter Tryz.func266,Tryz.ntmps266
 go_wp2;go_ret;exact⟨zD (by rw [← g.out];exact f1.out),rfl⟩
theorem ones (hx:x<65536) (w:World):Calls Tryz.prog 189 #[.int .u64 (x:Nat)] w fun e w'=>e=.returned (.int .i64 (rk x 32:Nat))∧w=w':=by
 go_enter Tryz.func189,Tryz.ntmps189
 go_wp2_with (go_at_call 266;refine (ones64 hx _).mono ?_;rintro e w' ⟨rfl,rfl⟩)
 go_ret;exact⟨rfl,rfl⟩
theorem rk_mask (R:Nat) (hn:n<=32):rk (R&&&(2 ^ n - 1)) 32=rk R n:=by
 have a:∀ k,rk (R&&&(2 ^ n - 1)) k=rk R (min k n):=by
  intro k
  induction k with
  |zero=>simp [rk,letters_zero]
  |succ k ih =>
   rw [zcQ,ih,Nat.testBit_and,Nat.testBit_two_pow_sub_one]
   by_cases h:k<n
   ·rw [show min (k+1) n=min k n+1 by omega,show min k n=k by omega,zcQ];simp [h]
   ·rw [show min (k+1) n=min k n by omega];simp [h]
 rw [a,show min 32 n=n by omega]
theorem impl_rank (hR:R<65536)(hn:n<32) (w:World):Calls Tryz.prog 190 #[.int .i64 (R:Nat),.int .i64 (n:Nat)] w fun e w'=>e=.returned (.int .i64 (rk R n:Nat))∧w=w':=by
 have h:=(Sm.bit hn).lt;have g:=Nat.two_pow_pos n;have j:=wrap_pow hn;have d:=za (rk_mask R (n:=n) oM);generalize 2 ^ n=q at *;have hb:=zbO (a:=R) (b:=q - 1) tM tM;rw [show ((q - 1:Nat):Int)=(q:Int) - 1 by omega] at hb;have c:R&&&(q - 1)<65536:=Nat.lt_of_le_of_lt fX hR;generalize R&&&(q - 1)=m at *;have i:IntKind.u64.wrap (m:Int)=(m:Int):=by rw [IntKind.wrap_u64];omega
 have f:=za (fun W=>ones c W);rw [← d.out];clear d;generalize rk m 32=r at *
 go_enter Tryz.func190,Tryz.ntmps190
 go_wp2_with (go_at_call 189;refine (f.out _).mono ?_;rintro e w' ⟨rfl,rfl⟩)
 go_ret;exact⟨rfl,rfl⟩
section
variable {es:List Edg} {p:Nat}
def RIn (es:List Edg) (p R:Nat):Prop:=R<2 ^ p∧R.testBit 0=true∧∀ i,R.testBit i=true->Rch es i
def More (es:List Edg) (R j M:Nat):Prop:=∀ k,M.testBit k=true↔R.testBit k=true∨∃ l,l<j∧(zbr es R (l:Nat)).testBit k=true
theorem More.zero (R:Nat):More es R 0 R:=fun k=>⟨Or.inl,fun h=>h.elim id (fun ⟨_,h,_⟩=>oM)⟩
theorem More.succ (h:More es R j M):More es R (j+1) (M|||zbr es R (j:Nat)):=fun k=>by
 rw [Nat.testBit_or,Bool.or_eq_true,h k]
 constructor
 ·rintro ((h1|⟨l,h1,h2⟩)|h1)
  ·exact Or.inl h1
  ·exact Or.inr ⟨l,oM,h2⟩
  ·exact Or.inr ⟨j,oM,h1⟩
 ·rintro (h1|⟨l,h1,h2⟩)
  ·exact Or.inl (Or.inl h1)
  ·rcases eL l j with h3|h3
   ·exact Or.inl (Or.inr ⟨l,h3,h2⟩)
   ·obtain rfl:l=j:=oM
    exact Or.inr h2
theorem More.lt (hf:Few p es) (hR:R<2 ^ p)(h:More es R j M):M<2 ^ p:=by
 apply Nat.lt_pow_two_of_testBit;intro k hk;rw [Bool.eq_false_iff];intro hb;rcases (h k).1 hb with a|⟨l,_,a⟩
 ·rw [gE (dY hR (dV oM hk))] at a;cases a
 ·rw [gE (dY (zfA hf R l) (dV oM hk))] at a;cases a
theorem More.in_ (hf:Few p es) (hR:RIn es p R)(h:More es R j M):RIn es p M:=by
 refine⟨h.lt hf hR.1,(h 0).2 (Or.inl hR.2.1),fun k hk=>?_⟩;rcases (h k).1 hk with a|⟨l,_,a⟩
 ·exact hR.2.2 k a
 ·obtain⟨e,b,⟨c,d⟩,f⟩:=(zcp es R l k).1 a;have:=hf e b;exact (hR.2.2 _ d).step ⟨e,b,oM,c,oM⟩
theorem le_of_bits {a:Nat}(h:∀ k,a.testBit k=true->b.testBit k=true):a<=b:=by
 have e:a|||b=b:=or_same h
 rw [← e];exact Nat.left_le_or
theorem More.le (h:More es R j M):R<=M:=le_of_bits fun k hk=>(h k).2 (Or.inl hk)
theorem More.done (hf:Few p es) (hR:RIn es p R)(h:More es R 6 R):zgE es p R:=by
 refine⟨hR.1,fun i=>⟨hR.2.2 i,fun hi=>?_⟩⟩
 induction hi with
 |zero=>exact hR.2.1
 |@step i l k _ hk ih =>
  obtain⟨e,a,c,b,d⟩:=hk;have:=hf e a;refine (h k).2 (Or.inr ⟨l,oM,(zcp es R l k).2 ⟨e,a,⟨b,?_⟩,oM⟩⟩);rw [show e.fr.toNat=i by omega];exact ih
theorem RIn.start (hp:1<=p):RIn es p 1:=by
 refine⟨?_,rfl,fun i hi=>?_⟩
 ·have:=dV (n:=2) oM hp;omega
 ·have:i=0:=by
   rcases Nat.eq_zero_or_pos i with h|h
   ·exact h
   ·obtain⟨j,rfl⟩:∃ j,i=j+1:=⟨i - 1,oM⟩;rw [Nat.testBit_succ] at hi;simp at hi
  subst this;exact .zero
end
theorem pow16 {p:Nat}(h:x<2 ^ p)(hp:p<=16):x<65536:=dY h (by rw [show (65536:Nat)=2 ^ 16 from rfl];exact dV oM hp)
theorem zeg {p:Nat}  (h:zO w lo hi A n s)(hT:Tab w)(hv:zk s=true)(hp:s.st=p) :
  Calls Tryz.prog 100 #[.agg #[s.al,s.st,.slice A n c]] w fun e w'=>∃ R:Nat,e=.returned (.int .i64 R)∧Hid (zgE s.edges p R)∧Ext w w':=by
 obtain⟨U,F,G,g,S⟩:=zbl hv;obtain rfl:U=p:=oM;have L:=za (fun W (hW:Ext w W)=>h.ext hW);have o:=za (fun W (hW:Ext w W)=>hT.ext hW);have m:=za S;have X:=za hv;clear S hv h hT hp F
 go_enter Tryz.func100,Tryz.ntmps100
 go_wp2_with fail
 refine (zab (L.out _ ((dB _).alloc _))).mono ?_;rw [X.out];rintro e w1 ⟨rfl,l⟩;have O:=(dX w 38 #[s.al,s.st,.slice A n c]).ext l;have k1:=O.cell;have k:=((dB w).alloc (.cells #[s.al,s.st,.slice A n c] 38)).trans l;go_wp2_with fail
 refine (zdH (L.out _ k) (fun e he=>by have:=m.out e he;omega)).mono ?_;rintro e w2 ⟨b,rfl,hb,Q,u⟩;have t:=k.trans u;have V:=za (fun W (hW:Ext w2 W)=>(Q.ext hW).at_);clear Q k1 O l u k;go_wp2_with fail
 go_loopw [4,5,6] (fun v _ _ wr=>∃ x:Nat,v=.int .i64 x∧x<65536∧Hid (RIn s.edges U x)∧Ext w2 wr) (fun v _ _ _=>65536 - (intOf v).toNat)
 case atStart=>exact⟨1,rfl,oM,RIn.start G,dB _⟩
 case round =>
  obtain⟨x,rfl,T,B,d⟩:=hrel;go_wp2_with fail
  go_loopw [5,6,13] (fun v _ i wr=>∃ j M:Nat,i=.int .i64 j∧j<=6∧v=.int .i64 M∧M<65536∧Hid (More s.edges x j M)∧Ext w2 wr) (fun _ _ i _=>6 - (intOf i).toNat)
  case atStart=>exact⟨0,x,rfl,oM,rfl,T,More.zero x,d⟩
  case round =>
   clear d;obtain⟨j,M,rfl,hj,rfl,z,f,d⟩:=hrel
   by_cases hj6:j<6
   ·have I:=za (impl_step (V.out _ d) (o.out _ (t.trans d)) (show x<2 ^ 16 from T) hj6 m.out g);have H:=stepB_sm m.out g x j;have E:=za (zbE (a:=M) tM H);have q:=za f.out.succ;have D:=pow16 (q.out.lt m.out B.out.1) g;clear f;generalize zbr s.edges x (j:Nat)=y at *;go_wp2_with fail
    refine I.out.mono (mQ fun w4 J=>?_);go_wp2_with fail
    go_roundw
    case rel=>exact⟨j+1,M|||y,gM,oM,by rw [E.out],D,q,d.trans J⟩
    case measure=>simp [intOf];omega
   ·obtain rfl:j=6:=oM
    by_cases hMx:M=x
    ·subst hMx;have r:=za (f.out.done m.out B.out);have zjh:=t.trans d;go_wp2_with fail
     go_ret;exact⟨M,rfl,r,zjh⟩
    ·have Z:((M:Int)==(x:Int))=false:=by simp;omega
     have Y:=f.out.le;have C:=za (f.out.in_ m.out B.out);go_wp2_with fail
     go_roundw
     case rel=>exact⟨M,rfl,z,C,d⟩
     case measure=>simp [intOf];omega
theorem zgt (W:World) (Z:Nat) (u0 u1 u2:Value):Frm (fun k=>k=Z) W (((W.setCell Z u0).setCell ⟨Z,1,none⟩ u1).setCell ⟨Z,2,none⟩ u2):=
 ((dH W Z 0 u0).trans (dH _ Z 1 u1)).trans (dH _ Z 2 u2)
theorem zgs {Z:Nat}  {t:TypeId}(h:Blk w Z t cs)(hc:cs.size=3) (u0 u1 u2:Value):Blk (((w.setCell Z u0).setCell ⟨Z,1,none⟩ u1).setCell ⟨Z,2,none⟩ u2) Z t #[u0,u1,u2]:=by
 obtain⟨l⟩:=cs
 match l,hc with
 |[a,b,c],_=>simpa using ((h.ae 0 u0).ae 1 u1).ae 2 u2
structure Grw (w0 W:World) (G:Nat) (al st:Int) (v:Value) (es:List Edg):Prop where
 blk:Blk W G 38 #[al,st,v]
 own:W.ownsRow w0.heap.size 117 3 v es.length (zu es)
 ext:Ext w0 W
 hG:w0.heap.size<=G
section
variable {w0 W W':World} {G:Nat} {al st:Int} {v:Value} {es:List Edg}
theorem Grw.ar (h:Grw w0 W G al st v es)(hb:Ext W W'):Grw w0 W' G al st v es:=⟨h.blk.ext hb,zh h.own hb,h.ext.trans hb,h.hG⟩
theorem Grw.far (h:Grw w0 W G al st v es) (hv:v.ownBlock=some b):b≠G:=by
 rintro rfl;have a:=h.blk;rcases h.own.2 with ⟨rfl,_⟩|⟨g,c,d,rfl,_,i,_⟩
 ·simp [Value.ownBlock] at hv
 ·have f:g=b:=by simpa [Value.ownBlock] using hv
  subst f;unfold Blk at a;rw [i] at a;injection a with a
  injection a with _ ht
  exact absurd ht dM
theorem Grw.push {e:Edg}(h:Grw w0 W G al st v es) (zje:W'.ownsRow w0.heap.size 117 3 (.slice (some g) (es.length+1) cap) (es.length+1) (zu es++[.int .i64 e.fr,.int .i64 e.le,.int .i64 e.ta]))
  (hg:W.grownBy W' v.ownBlock) (hat:v.ownBlock=some g∨g=W.heap.size+1) :
  Hid (W'.cell? ⟨G,2,none⟩=some v)∧W'.frozen? ⟨G,2,none⟩=false∧Grw w0 (W'.setCell ⟨G,2,none⟩ (.slice (some g) (es.length+1) cap)) G al st (.slice (some g) (es.length+1) cap) (es++[e]):=by
 have a:Blk W' G 38 #[.int .i64 al,.int .i64 st,v]:=(hg.block G h.blk.lt (fun e=>h.far e.symm rfl)).trans h.blk;have d:g≠G:=by
  rcases hat with c|c
  ·exact h.far c
  ·have:=h.blk.lt;omega
 have f:Ext w0 W':=h.ext.grown hg (fun k hk=>(h.own.lt k hk).1);refine⟨a.cell 2,a.frozen 2,⟨by simpa using a.ae 2 _,?_,f.setCell (p:=⟨G,2,none⟩) h.hG _,h.hG⟩⟩;have:=zf zje (dH W' G 2 (.slice (some g) (es.length+1) cap)) (fun b hv hS=>by
  have:g=b:=by simpa [Value.ownBlock] using hv
  omega)
 rw [zbx];simpa [zu] using this
end
def RetS (w:World) (s:Sys) (e:Ending) (w':World):Prop:=
 ∃ (A:Option Addr) (n c:Nat),e=.returned (.agg #[s.al,s.st,.slice A n c])∧zO w' w.heap.size w'.heap.size A n s∧Ext w w'
theorem yN15a1 {P:Prop}(h:P:=by
 refine pT ?_;refine uQ ?_;have cG:=hb.cell;have fG:=hb.frozen;refine zb fun K hK=>?_;go_simp;refine hK.out _ _ ?_;refine ze ?_;have zjh:Grw w2 (((w3.setCell G s.al).setCell ⟨G,1,none⟩ r).setCell ⟨G,2,none⟩ ()) G s.al r (.slice none 0 0) []:=⟨zgs hb rfl _ _ _,World.ownsRow_nil _ _ _ _,hx0.frm (zgt w3 G _ _ _) (fun k hk e=>oM),hG⟩;go_wp2_with fail
 go_meet;exact⟨G,rfl,zjh⟩
 ):P:=h
theorem yN15a3 {P:Prop}(h:P:=by
 go_roundw
 case rel=>exact⟨k+1,v,es,oM,gM,hgr2,(show Hid _ from by rw [hes.out,Htk.out,zhk,hno.out];rfl),oM⟩
 case measure=>simp [intOf];omega
 ):P:=h
theorem zhx {p:Nat}  (h:zO w lo hi A n s)(hf:Few p s.edges)(hp:p<=16)(hR:R<65536)(hn4:n<=1000000) :
  Calls Tryz.prog 99 #[.agg #[s.al,s.st,.slice A n c],.int .i64 (R:Nat)] w (RetS w (zhJ s R)):=by
 have HS:=za (fun W (hW:Ext w W)=>h.ext hW);have hL:=za h.1;have hn:=h.2.len;have Hf:=za hf;clear h hf;have ho:=za (fun W=>ones hR W);have V:=za (show (zhJ s R).st=(rk R 32:Nat) from rfl);have hu:IntKind.u64.wrap (R:Int)=(R:Int):=by rw [IntKind.wrap_u64];omega
 generalize hr32:rk R 32=r at *;have ad:=za hr32;clear hr32
 go_enter Tryz.func99,Tryz.ntmps99
 go_upto_region 1 with fail
 generalize U0:(w.alloc _).alloc _=w2 at *;obtain⟨J,b1,bz⟩:=Ext.x2_ U0;have ah:w.heap.size+2=w2.heap.size:=by rw [← U0];simp
 clear U0
 go_cut [5] (fun v wx=>∃ G:Nat,v=.pointer (some G)∧Grw w2 wx G s.al r (.slice none 0 0) [])
 case first =>
  have c1:=fun W (hW:Ext w2 W)=>(b1.ext hW).cell;have Z:=dB w2;refine uR (fun X=>Ext w2 X) [7] (zw.app [0,1,2,3] (zw.two 4 (zw.of [5,6,7]) 6 (zw.of [4,5,7]))) ?_;refine uQ ?_;have hx0:Ext w2 w2.drew:=Z.drew;generalize w2.drew=F at *;refine zm (fun K hK=>?_) (fun K hK=>?_)
  ·go_simp;refine (ho.out _).mono ?_;rintro e u ⟨rfl,rfl⟩;refine hK.out _ _ hx0 ?_;refine pT ?_;refine uQ ?_;refine zd fun K hK=>?_;go_simp;have E:=(dB F).alloc (.cells #[(0:Int),(0:Int),()] 38);have hG:=hx0.size;replace hx0:=hx0.trans E;refine hK.out _ _ hx0 ?_;generalize U0:F.alloc _=w3 at *;have hb:=eA U0;clear U0;generalize F.heap.size=G at *;exact yN15a1
  ·go_simp;have E:=(dB F).alloc (.cells #[(0:Int),(0:Int),()] 38);have hG:=hx0.size;replace hx0:=hx0.trans E;refine hK.out _ _ hx0 ?_;generalize U0:F.alloc _=w3 at *;have hb:=eA U0;clear U0;generalize F.heap.size=G at *;refine pT ?_;refine zd fun K hK=>?_;go_simp;refine (ho.out _).mono ?_;rintro e u ⟨rfl,rfl⟩;refine hK.out _ _ hx0 ?_;exact yN15a1
 case rest =>
  obtain⟨G,rfl,a⟩:=hcut;have k1:=(b1.ext a.ext).cell;go_wp2_with fail
  go_loopw [7,17] (fun _ i wr=>∃ (k:Nat) (v:Value) (es:List Edg),k<=n∧i=.int .i64 k∧Grw w2 wr G s.al r v es∧Hid (es=subE R (s.edges.take k))∧es.length<=k) (fun _ i _=>n - (intOf i).toNat)
  case atStart=>exact⟨0,_,[],dG _,rfl,a,rfl,dG _⟩
  case round =>
   clear a k1;obtain⟨k,v,es,hk,rfl,a,hes,ax⟩:=hrel
   by_cases hlt:k<n
   ·obtain⟨g,o,x,rfl,_,_,hx,c0,c1,c2⟩:=(HS.out wr (J.trans a.ext)).2.az hlt;obtain⟨⟨f0,f1⟩,⟨g0,g1⟩,⟨t0,t1⟩⟩:=Hf.out x (dC hx.out);have Htk:=za (show s.edges.take (k+1)=s.edges.take k++[x] by rw [List.take_add_one,hx.out];rfl);obtain⟨f,d⟩:∃ f:Nat,x.fr=f:=⟨x.fr.toNat,oM⟩;obtain⟨t,j⟩:∃ t:Nat,x.ta=t:=⟨x.ta.toNat,oM⟩;have O:=za (show subI R x=(hasB R f&&hasB R t) by unfold subI;rw [d,j]);have hJ:=za (show subJ R x=⟨(rk R f:Nat),x.le,(rk R t:Nat)⟩ by unfold subJ;rw [d,j];rfl);have T:=za (fun W=>impl_rank (n:=f) hR oM W);have U:=za (fun W=>impl_rank (n:=t) hR oM W);have D:=za (fun W=>zbz R (f:Int) tM W);have I:=za (fun W=>zbz R (t:Int) tM W);rw [d] at c0 f0 f1;rw [j] at c2 t0 t1;have q:Blk (wr.alloc (.cells #[f,x.le,t] 117)) wr.heap.size 117 #[.int .i64 f,.int .i64 x.le,.int .i64 t]:=dX _ _ _;have hgr2:=a.ar ((dB wr).alloc (.cells #[f,x.le,t] 117));have hx:=za d;have ay:=za j;clear d j a;generalize rk R f=rf at *;generalize rk R t=rt at *;cases hif:hasB R f
    ·have m:=za hif;have hno:=za (show subI R x=false by rw [O.out,hif];rfl);clear hif;go_upto_region 5 with fail
     generalize wr.alloc _=w3 at *;have M:=q.cell;go_wp2_with (go_at_call 127;refine (D.out _).mono ?_;rw [m.out];rintro e u ⟨rfl,rfl⟩)
     exact yN15a3
    ·have m:=za hif;cases hit:hasB R t
     ·have z:=za hit;have hno:=za (show subI R x=false by rw [O.out,hit,Bool.and_false]);clear hif hit;go_upto_region 5 with fail
      generalize wr.alloc _=w3 at *;have M:=q.cell;go_wp2_with fail
      refine (D.out _).mono ?_;rw [m.out];rintro e u ⟨rfl,rfl⟩;go_wp2_with fail
      refine (I.out _).mono ?_;rw [z.out];rintro e u ⟨rfl,rfl⟩;go_wp2_with fail
      exact yN15a3
     ·have z:=za hit;have L:=za (show subI R x=true by rw [O.out,hif,hit];rfl);clear hif hit;go_upto_region 5 with fail
      generalize wr.alloc _=w3 at *;have M:=q.cell;go_wp2_with fail
      refine (D.out _).mono ?_;rw [m.out];rintro e u ⟨rfl,rfl⟩;go_wp2_with fail
      refine (I.out _).mono ?_;rw [z.out];rintro e u ⟨rfl,rfl⟩;go_upto_region 6 with fail
      clear M;have M:=q.cells;have cG:=fun W (hW:Ext w3 W)=>(hgr2.blk.ext hW).cell;have l:=dB w3;refine uR (fun X=>Ext w3 X) [14,16] (zw.of [0,1,2,3,4,6,7,8,9,10,5,11,12,13,14,15,16]) ?_;refine uQ ?_;refine zd fun K hK=>?_;go_simp;refine (T.out _).mono ?_;rintro e u ⟨rfl,rfl⟩;refine hK.out _ _ l.drew ?_;refine pT ?_;refine zd fun K hK=>?_;go_simp;refine (U.out _).mono ?_;rintro e u ⟨rfl,rfl⟩;refine hK.out _ _ l.drew ?_;refine pT ?_;refine uQ ?_;refine zd fun K hK=>?_;go_simp;refine hK.out _ _ (l.drew.alloc _) ?_;refine pT ?_;refine zb fun K hK=>?_;refine zaE w2 w3.drew _ _ _ rfl 117 _ 3 24 Tryz.underlying36 zbb rfl dM v es.length (zu es) _ _ rfl rfl hgr2.ext.size hgr2.own rfl (by simp [Value.oneCell']) lM oM ?_;intro g5 cap5 w5 zjq hg5 hat5 hlt5;refine hK.out _ _ ?_;refine pT ?_;refine uQ ?_;obtain⟨h1,h2,h3⟩:=(hgr2.ar ((dB _).drew)).push (e:=⟨rf,x.le,rt⟩) (W':=w5) zjq hg5 hat5;have ar:=h1.out;refine zb fun K hK=>?_;go_simp;refine hK.out _ _ ?_;refine ze ?_;go_wp2_with fail
      go_roundw
      case rel=>exact⟨k+1,_,_,oM,gM,h3,(show Hid _ from by rw [hes.out,Htk.out,zhk,L.out,hJ.out];rfl),by simp;omega⟩
      case measure=>simp [intOf];omega
   ·obtain rfl:k=n:=oM;obtain⟨y,B,rfl⟩:=zg a.own;have cG:=a.blk.cell;have C:=bz.ext a.ext;have cZ:=C.cell;have fZ:=C.frozen;have Y:s.edges.take k=s.edges:=List.take_of_length_le (oH hL.out);have H:=zgt wr (w.heap.size+1) (.int .i64 s.al) (.int .i64 r) (.slice y es.length B);have Q:=zgs C rfl (.int .i64 s.al) (.int .i64 r) (.slice y es.length B);have ab:=(J.trans a.ext).frm H (fun k hk e=>oM);have S:=zf a.own H (fun b hv e=>by have:=(a.own.lt b hv).1;omega);have zjh:=za (show RetS w (zhJ s R) (.returned (.agg #[s.al,r,.slice y es.length B])) (((wr.setCell ⟨w.heap.size+1,0,none⟩ s.al).setCell ⟨w.heap.size+1,1,none⟩ r).setCell ⟨w.heap.size+1,2,none⟩ (.slice y es.length B)) from by
     have he:es=(zhJ s R).edges:=by rw [hes.out,Y];rfl
     refine⟨y,es.length,B,by rw [V.out];rfl,⟨by rw [he],?_⟩,ab⟩;rw [← he];exact Reads.af (zn S oM))
    go_wp2_with fail
    generalize ((wr.setCell ⟨w.heap.size+1,0,none⟩ s.al).setCell ⟨w.heap.size+1,1,none⟩ r).setCell ⟨w.heap.size+1,2,none⟩ (.slice y es.length B)=wf at *;have cf:=Q.cell;exact bodyPost_ret (v:=.agg #[s.al,r,.slice y es.length B]) (by simp [results,Tryz.results99,go_sem,cf]) rfl zjh.out
theorem impl_TrimSystem {p:Nat}  (h:zO w lo hi A n s)(hT:Tab w)(hv:zk s=true)(hp:s.st=p)(hn4:n<=1000000) :
  Calls Tryz.prog 36 #[.agg #[s.al,s.st,.slice A n c]] w fun e w'=>∃ (R:Nat) (A':Option Addr) (n' c':Nat),e=.returned (.tuple #[.agg #[.int .i64 (zhJ s R).al,.int .i64 (zhJ s R).st,.slice A' n' c'],.bool true])∧Hid (zgE s.edges p R)∧zO w' w.heap.size w'.heap.size A' n' (zhJ s R)∧Ext w w':=by
 obtain⟨T,E,Z,y,S⟩:=zbl hv;obtain rfl:T=p:=oM;have C:=za (fun W (hW:Ext w W)=>h.ext hW);have t:=za (fun W (hW:Ext w W)=>hT.ext hW);have U:=za S;have J:=za hv;have V:=za hp;clear S hv h hT hp E
 go_enter Tryz.func36,Tryz.ntmps36
 go_upto_region 1 with fail
 generalize U0:(w.alloc _).alloc _=w2 at *;obtain⟨l,L,M⟩:=Ext.x2_ U0;have k1:=L.cell;clear U0;go_wp2_with fail
 refine (zab (C.out _ l)).mono ?_;rw [J.out];rintro e w3 ⟨rfl,d⟩;have c1:∀ W,Ext w3 W->∀ q,W.cell? ⟨w.heap.size,q,none⟩=#[Value.int .i64 s.al,.int .i64 s.st,.slice A n c][q]?:=fun W hW=>(L.ext (d.trans hW)).cell;have G:=dB w3;have m:=l.trans d;clear k1;go_upto_region 3 with fail
 refine uR (fun X=>Ext w3 X) [3,4] (zw.of [0,1,2,3,4,5]) ?_;refine uQ ?_;refine zd fun K hK=>?_;go_simp;refine (zeg (C.out _ m.drew) (t.out _ m.drew) J.out V.out).mono ?_;rintro e w4 ⟨R,rfl,Q,z⟩;have o:=m.drew.trans z;have a:=G.drew.trans z;refine hK.out _ _ a ?_;refine pT ?_;refine zd fun K hK=>?_;go_simp;refine (zhx (C.out _ o) U.out y (pow16 Q.out.1 y) hn4).mono ?_;rintro e B ⟨b,f,g,rfl,O,r⟩;refine hK.out _ _ (a.trans r) ?_;refine pT ?_;have i:=M.ext ((d.trans a).trans r);have cZ:=i.cell;have fZ:=i.frozen;generalize hsu:zhJ s R=u at *;have x:=za hsu;clear hsu;have j:=zgt B (w.heap.size+1) (.int .i64 u.al) (.int .i64 u.st) (.slice b f g);have D:=zgs i rfl (.int .i64 u.al) (.int .i64 u.st) (.slice b f g);have H:=(o.trans r).frm j (fun k hk e=>oM);have ab:=o.size;have Y:=l.size;have aa:w.heap.size+1<w4.heap.size:=by have:=(M.ext (d.trans a)).lt;omega
 have F:zO (((B.setCell ⟨w.heap.size+1,0,none⟩ u.al).setCell ⟨w.heap.size+1,1,none⟩ u.st).setCell ⟨w.heap.size+1,2,none⟩ (.slice b f g)) w.heap.size (((B.setCell ⟨w.heap.size+1,0,none⟩ u.al).setCell ⟨w.heap.size+1,1,none⟩ u.st).setCell ⟨w.heap.size+1,2,none⟩ (.slice b f g)).heap.size b f u:=
  ⟨O.1,(O.2.frm j (fun k h1 h2 e=>oM)).more oM j.size⟩
 refine zb fun K hK=>?_;go_simp;refine hK.out _ _ ?_;generalize ((B.setCell ⟨w.heap.size+1,0,none⟩ u.al).setCell ⟨w.heap.size+1,1,none⟩ u.st).setCell ⟨w.heap.size+1,2,none⟩ (.slice b f g)=I at *;refine pT ?_;refine uQ ?_;refine ze ?_;have cf:=D.cell;have zjh:=za (show ∃ (R:Nat) (A':Option Addr) (n' c':Nat),Ending.returned (.tuple #[.agg #[u.al,u.st,.slice b f g],.bool true])=.returned (.tuple #[.agg #[.int .i64 (zhJ s R).al,.int .i64 (zhJ s R).st,.slice A' n' c'],.bool true])∧Hid (zgE s.edges T R)∧zO I w.heap.size I.heap.size A' n' (zhJ s R)∧Ext w I from ⟨R,b,f,g,by rw [x.out],Q,by rw [x.out];exact F,H⟩);go_wp2_with fail
 exact bodyPost_ret (v:=.tuple #[.agg #[u.al,u.st,.slice b f g],.bool true]) (by simp [results,Tryz.results36,go_sem,cf]) rfl zjh.out
abbrev zht:=Nat->World->(Nat->Prop)->Prop
structure zht.Ok (b0:Nat) (J:zht):Prop where
 lt:∀ {B:Nat} {W:World} {S:Nat->Prop},J B W S->∀ k,S k->k<W.heap.size
 low:∀ {B:Nat} {W:World} {S:Nat->Prop},J B W S->∀ k,S k->b0<=k
 keep:∀ {B:Nat} {W W':World} {S T:Nat->Prop},J B W S->Frm T W W'->(∀ k,k<W.heap.size->T k->b0<=k∧¬ S k)->J B W' S
 more:∀ {B C:Nat} {W:World} {S:Nat->Prop},J B W S->B<=C->J C W S
structure Kp (J:zht) (B:Nat) (S:Nat->Prop) (W W':World) (S':Nat->Prop):Prop where
 j:J B W' S'
 frm:Frm S W W'
 new:∀ k,S' k->S k∨W.heap.size<=k
section
variable {b0:Nat} {J:zht} {A B C:Nat} {S S1 S2:Nat->Prop} {W W1 W2:World}
theorem Kp.refl (h:J B W S):Kp J B S W W S:=⟨h,Frm.refl _ _,fun _ h=>.inl h⟩
theorem Kp.size (h:Kp J B S W W1 S1):W.heap.size<=W1.heap.size:=h.frm.size
theorem Kp.out (h:Kp J B S W W1 S1) (hk:k<W.heap.size)(hS:¬ S k):¬ S1 k:=fun h1=>by
 rcases h.new k h1 with h2|h2
 ·exact hS h2
 ·omega
theorem Kp.trans {J2:zht}(h:Kp J B S W W1 S1) (k:Kp J2 C S1 W1 W2 S2):Kp J2 C S W W2 S2:=by
 refine⟨k.j,⟨k.frm.os.trans h.frm.os,k.frm.tape.trans h.frm.tape,k.frm.output.trans h.frm.output,dL h.frm.size k.frm.size,fun i hi hn=>?_⟩,fun i hi=>?_⟩
 ·exact (k.frm.block i (dY hi h.frm.size) (h.out hi hn)).trans (h.frm.block i hi hn)
 ·rcases k.new i hi with a|a
  ·exact h.new i a
  ·exact .inr (dL h.frm.size a)
theorem Kp.ext (hJ:zht.Ok b0 J)(h:Kp J B S W W1 S1)(hx:Ext W1 W2):Kp J B S W W2 S1:=⟨hJ.keep h.j hx (fun _ _ h=>h.elim),h.frm.ext hx,h.new⟩
theorem Kp.own (hJ:zht.Ok b0 J) {T:Nat->Prop}(h:Kp J B S W W1 S1)(hf:Frm T W1 W2)(hT:∀ k,k<W1.heap.size->T k->W.heap.size<=k∧b0<=k∧¬ S1 k):Kp J B S W W2 S1:=
 ⟨hJ.keep h.j hf (fun k hk ht=>(hT k hk ht).2),⟨hf.os.trans h.frm.os,hf.tape.trans h.frm.tape,hf.output.trans h.frm.output,dL h.frm.size hf.size,fun i hi hn =>
  (hf.block i (dY hi h.frm.size) (fun ht=>by have:=(hT i (dY hi h.frm.size) ht).1;omega)).trans (h.frm.block i hi hn)⟩,h.new⟩
theorem Kp.grown (hJ:zht.Ok b0 J)(h:Kp J B S W W1 S1) {row:Option Nat}(hg:W1.grownBy W2 row)(hr:∀ k,row=some k->W.heap.size<=k∧b0<=k∧¬ S1 k):Kp J B S W W2 S1:=
 h.own hJ (T:=fun k=>row=some k) (eZ hg) (fun k _ e=>hr k e)
theorem Kp.toExt (h:Kp J B S W W1 S1) (hx:Ext w W)(hS:∀ k,S k->w.heap.size<=k):Ext w W1:=hx.frm h.frm (fun k hk hs=>by have:=hS k hs;omega)
theorem Kp.row (h:Kp J B S W W1 S1) {size:Nat}   (ho:W.ownsRow base e size v n xs)(hS:∀ b,v.ownBlock=some b->¬ S b):W1.ownsRow base e size v n xs∧∀ b,v.ownBlock=some b->¬ S1 b:=
 ⟨zf ho h.frm hS,fun b hb=>h.out (ho.lt b hb).2 (hS b hb)⟩
theorem zht.fresh (hJ:zht.Ok b0 J)(h:J B W S) (hk:W.heap.size<=k):¬ S k:=fun hs=>by have:=hJ.lt h k hs;omega
end
section
open Go.Maps
structure KeyG {α:Type} (mt kt:TypeId) (val:α->Value) (lit:α->Lit) (dom:α->Prop):Prop where
 keyed:Keyed Tryz.prog kt
 und:Tryz.prog.underlying mt=some (.map kt 3)
 key:∀ {x:α},dom x->keyOf Tryz.prog kt (val x)=some (lit x)
 inj:∀ {x y:α},dom x->dom y->lit x=lit y->x=y
theorem zeroG (w:World):(zeroValue 3).run Tryz.prog w=.ok (.int .i64 0) w:=kM
theorem wfG (h:x<1152921504606846976):(Lit.int .i64 (x:Int)).wf=true:=WalkArith.wf_i64 oM
section
variable {α:Type} {mt kt:TypeId} {val:α->Value} {lit:α->Lit} {dom:α->Prop}
def MapG (kt:TypeId) (lit:α->Lit) (dom:α->Prop) (w:World) (b n:Nat) (M:α->Option Nat):Prop:=
 ∃ D:DataW Unit,w.ownsMap Tryz.prog kt (plainElem Tryz.prog 3) b n D∧∀ x,dom x->Maps.has D (lit x)=(M x).isSome∧∀ v,M x=some v->D.atKey (lit x) (.lit (.int .i64 0))=.lit (.int .i64 (v:Int))
open Classical in
noncomputable def updG (M:α->Option Nat) (x:α) (v:Nat):α->Option Nat:=fun y=>if y=x then some v else M y
theorem zdR (M:α->Option Nat) (x:α) (v:Nat):updG M x v x=some v:=by unfold updG;rw [if_pos rfl]
theorem zdQ (M:α->Option Nat) {x y:α} (v:Nat)(h:y≠x):updG M x v y=M y:=by unfold updG;rw [if_neg h]
theorem MapG.made (w:World):MapG kt lit dom (w.alloc (.map #[] 0)) w.heap.size 0 (fun _=>none):=
 ⟨.map [],World.ownsMap_made _ _ _ _,fun x hx=>⟨rfl,fun v hv=>by cases hv⟩⟩
section
variable {w w':World} {b n:Nat} {M:α->Option Nat}
theorem MapG.lt (h:MapG kt lit dom w b n M):b<w.heap.size:=by
 obtain⟨D,h,_⟩:=h;exact h.lt
theorem MapG.frm (h:MapG kt lit dom w b n M)(hf:Frm S w w')(hS:¬ S b):MapG kt lit dom w' b n M:=by
 obtain⟨D,⟨es,a,hb,r⟩,c⟩:=h;exact⟨D,⟨es,a,(hf.block b (Array.getElem?_eq_some_iff.1 hb).1 hS).trans hb,r⟩,c⟩
theorem MapG.ao (h:MapG kt lit dom w b n M)   {size:Nat}  (ho:w.ownsRow base e size v k xs):v.ownBlock≠some b:=by
 intro hv;obtain⟨D,⟨es,a,hb,_⟩,_⟩:=h;rcases ho.2 with ⟨rfl,_⟩|⟨g,c,d,rfl,_,i,_⟩
 ·simp [Value.ownBlock] at hv
 ·have f:g=b:=by simpa [Value.ownBlock] using hv
  subst f;rw [i] at hb;injection hb with hb
  cases hb
end
variable (w:World) {ops:Array Oper} {rest:List Oper} {o:Oper} {a:Act} {Q:Exit->Act->World->Prop}
theorem zez (K:KeyG mt kt val lit dom)(hg:o.guard=none) (m x v:Operand)(hop:o.op=Op.mapUpdate mt m x v∨o.op=Op.insert mt m x v)  {M:α->Option Nat}
  (hm:a.eval m=.map (some b)) (h:MapG kt lit dom w b n M) (hn:n<1152921504606846976) (key:α) (v9:Nat) (hx:a.eval x=val key) (hv:a.eval v=.int .i64 (v9:Int)) (hk:dom key) (hv9:v9<1152921504606846976)
  (hK:∀ w',MapG kt lit dom w' b (n+1) (updG M key v9)->w.grownBy w' (some b)->wpList Tryz.prog ops Q rest (a.put o.dst undef) w'):wpList Tryz.prog ops Q (o :: rest) a w:=by
 refine wpList_plain hg fun K' hK'=>?_;obtain⟨D,d,j⟩:=h;have c:=K.key hk;obtain⟨w',i,k,l⟩:=d.update K.keyed K.und lM c (plainElem_int (H:=Unit) Tryz.underlying3 (wfG hv9));have f:MapG kt lit dom w' b (n+1) (updG M key v9):=⟨_,k,fun y hy=>by
  unfold updG
  by_cases e:y=key
  ·subst e;rw [if_pos rfl];exact⟨has_put_same d.isMap (K.keyed.key c) _,fun u hu=>by rw [atKey_put_same d.isMap (K.keyed.key c)];cases hu;rfl⟩
  ·have g:lit y≠lit key:=fun h=>e (K.inj hy hk h);rw [if_neg e,has_put_other g,atKey_put_other g];exact j y hy⟩
 unfold Oper.wp;rcases hop with hop|hop
 all_goals
  simp [execOp,hop,hm,hx,hv,i,Result.andThen];exact hK' _ _ (hK w' f l)
theorem zbV (K:KeyG mt kt val lit dom)(hg:o.guard=none) (m x:Operand)(hop:o.op=Op.lookup mt m x true)  {M:α->Option Nat}
  (hm:a.eval m=.map (some b)) (h:MapG kt lit dom w b n M) (key:α) (hx:a.eval x=val key) (hk:dom key)
  (hK:∀ c:Int,(∀ v,M key=some v->c=(v:Int))->wpList Tryz.prog ops Q rest (a.put o.dst (.tuple #[c,.bool (M key).isSome])) w):wpList Tryz.prog ops Q (o :: rest) a w:=by
 obtain⟨D,d,f⟩:=h;refine wpList_lookup_own_ok_int w hg m x _ hop kt 3 .i64 K.keyed K.und Tryz.underlying3 (zeroG w) b n D hm d _ _ hx (K.key hk) ?_;intro c hat _;rw [(f key hk).1];exact hK c (fun v hv=>by
  have:=(f key hk).2 v hv;rw [this] at hat;injection hat with hat
  injection hat with _ hat
  exact hat.symm)
end
theorem keyZ:KeyG 112 3 (fun x:Int=>.int .i64 x) (fun x:Int=>.int .i64 x) (fun x => -1152921504606846976<x∧x<1152921504606846976):=
 ⟨int_keyed Tryz.underlying3,Tryz.underlying112,fun h=>keyOf_int_mk Tryz.underlying3 (WalkArith.wf_i64 oM),fun _ _ e=>by injection e⟩
end
def SubF {α:Type} (f g:Int->Option α):Prop:=∀ (n:Int) (x:α),f n=some x->g n=some x
theorem SubF.refl {α:Type} (f:Int->Option α):SubF f f:=fun _ _ h=>h
theorem SubF.trans {α:Type} {f g h:Int->Option α} (a:SubF f g) (b:SubF g h):SubF f h:=fun n x e=>b n x (a n x e)
section
variable {α:Type}
structure NbI (D:α->Nat->α) (LL:List Nat) (start:α) (xs:List α) (rows:List (List Int)) (row:List Int):Prop where
 x0:xs[0]?=some start
 nd:xs.Nodup
 reach:∀ x∈xs,∃ v:List Nat,(∀ l∈v,l∈LL)∧x=v.foldl D start
 done:∀ (j:Nat) (x:α),j<rows.length->xs[j]?=some x->∃ r,rows[j]?=some r∧r.length=LL.length∧∀ (k l:Nat),LL[k]?=some l->∃ m:Nat,r[k]?=some (m:Int)∧xs[m]?=some (D x l)
 part:∀ (x:α),xs[rows.length]?=some x->∀ (k l:Nat),k<row.length->LL[k]?=some l->∃ m:Nat,row[k]?=some (m:Int)∧xs[m]?=some (D x l)
 le:rows.length<=xs.length
section
variable {D:α->Nat->α} {LL:List Nat} {start:α} {xs:List α} {rows:List (List Int)} {row:List Int}
theorem NbI.first:NbI D LL start [start] [] []:=
 ⟨rfl,sM,fun x hx=>⟨[],sM,by simpa using hx⟩,fun j x h=>by simp at h,fun x hx k l h=>by simp at h,sM⟩
theorem NbI.hit {x:α} {m:Nat}(h:NbI D LL start xs rows row)(hx:xs[rows.length]?=some x)(hl:LL[row.length]?=some l)(hm:xs[m]?=some (D x l)):NbI D LL start xs rows (row++[(m:Int)]):=by
 refine⟨h.x0,h.nd,h.reach,h.done,fun y hy k l' hk hl'=>?_,h.le⟩;rw [hx] at hy;obtain rfl:=Option.some.inj hy;rw [dN,dZ] at hk;rcases eF (eQ hk) with a|rfl
 ·obtain⟨d,b,c⟩:=h.part _ hx k l' a hl';exact⟨d,by rw [dJ a];exact b,c⟩
 ·rw [hl] at hl';obtain rfl:=Option.some.inj hl';exact⟨m,sM,hm⟩
theorem NbI.more {y:α} {x:α} (h:NbI D LL start xs rows row)(hx:xs[rows.length]?=some x)(hl:l∈LL)(hy:y=D x l)(hn:y∉xs):NbI D LL start (xs++[y]) rows row:=by
 have o:=(List.getElem?_eq_some_iff.1 hx).1;refine⟨?_,?_,fun z c=>?_,fun j z hj c=>?_,fun z c k l' hk hl'=>?_,by simp;omega⟩
 ·rw [dJ oM];exact h.x0
 ·rw [List.nodup_append];exact⟨h.nd,sM,fun a d b hb e=>by obtain rfl:=List.mem_singleton.1 hb;exact hn (e ▸ d)⟩
 ·rcases List.mem_append.1 c with c|c
  ·exact h.reach z c
  ·obtain rfl:=List.mem_singleton.1 c;obtain⟨v,g,i⟩:=h.reach x (dC hx);refine⟨v++[l],fun a d=>?_,by rw [List.foldl_append,← i,hy];rfl⟩;rcases List.mem_append.1 d with d|d
   ·exact g a d
   ·obtain rfl:=List.mem_singleton.1 d;exact hl
 ·rw [dJ oM] at c;obtain⟨r,g,i,p⟩:=h.done j z hj c;refine⟨r,g,i,fun k l' hl'=>?_⟩;obtain⟨m,n,f⟩:=p k l' hl';exact⟨m,n,by rw [dJ (List.getElem?_eq_some_iff.1 f).1];exact f⟩
 ·rw [dJ o] at c;obtain⟨m,n,f⟩:=h.part z c k l' hk hl';exact⟨m,n,by rw [dJ (List.getElem?_eq_some_iff.1 f).1];exact f⟩
theorem NbI.row_ {x:α}(h:NbI D LL start xs rows row)(hx:xs[rows.length]?=some x)(hr:row.length=LL.length):NbI D LL start xs (rows++[row]) []:=by
 have d:=(List.getElem?_eq_some_iff.1 hx).1;refine⟨h.x0,h.nd,h.reach,fun j z hj hz=>?_,fun z _ k l hk=>by simp at hk,by simp;omega⟩;rw [dN,dZ] at hj;rcases eF (eQ hj) with a|rfl
 ·obtain⟨r,b,c⟩:=h.done j z a hz;exact⟨r,by rw [dJ a];exact b,c⟩
 ·refine⟨row,sM,hr,fun k l hl=>?_⟩;exact h.part z hz k l (by rw [hr];exact (List.getElem?_eq_some_iff.1 hl).1) hl
end
structure NbC (f:Int->Option α) (ns:List Int) (xs:List α) (M:Int->Option Nat):Prop where
 len:ns.length=xs.length
 code:∀ (i:Nat) (n:Int),ns[i]?=some n->∃ x,xs[i]?=some x∧f n=some x
 some_:∀ (m:Int) (j:Nat),M m=some j->ns[j]?=some m
 none_:∀ (m:Int),M m=none->m∉ns
section
variable {f g:Int->Option α} {ns:List Int} {xs:List α} {M:Int->Option Nat}
theorem NbC.sub (h:NbC f ns xs M)(hs:SubF f g):NbC g ns xs M:=
 ⟨h.len,fun i n hn=>by obtain⟨x,h1,h2⟩:=h.code i n hn;exact⟨x,h1,hs n x h2⟩,h.some_,h.none_⟩
theorem NbC.hit {y:α}(h:NbC f ns xs M)(hy:f m=some y)(hm:M m=some j):xs[j]?=some y:=by
 obtain⟨x,b,a⟩:=h.code j m (h.some_ m j hm);rw [hy] at a;rw [b,← a]
theorem NbC.miss {y:α}(h:NbC f ns xs M)(hinj:∀ (n m:Int) (x:α),f n=some x->f m=some x->n=m)(hy:f m=some y)(hm:M m=none):y∉xs:=by
 intro hin;obtain⟨j,c⟩:=eB hin;have a:=(List.getElem?_eq_some_iff.1 c).1;obtain⟨n,d⟩:∃ n,ns[j]?=some n:=⟨_,dD (by rw [h.len];exact a)⟩;obtain⟨x,b,g⟩:=h.code j n d;rw [c] at b;obtain rfl:=Option.some.inj b;have:=hinj n m _ g hy;subst this;exact h.none_ n hm (dC d)
theorem NbC.push {y:α}(h:NbC f ns xs M)(hy:f m=some y)(hm:M m=none):NbC f (ns++[m]) (xs++[y]) (updG M m ns.length):=by
 refine⟨by simp [h.len],fun i n hn=>?_,fun n j hj=>?_,fun n hn=>?_⟩
 ·rcases eL i ns.length with a|a
  ·rw [dJ a] at hn;obtain⟨x,b,c⟩:=h.code i n hn;exact⟨x,by rw [dJ (by rw [← h.len];exact a)];exact b,c⟩
  ·have d:i=ns.length:=by
    have:=(List.getElem?_eq_some_iff.1 hn).1;simp at this;omega
   subst d;simp at hn;subst hn;exact⟨y,by rw [h.len];simp,hy⟩
 ·by_cases e:n=m
  ·subst e;rw [zdR] at hj;obtain rfl:=Option.some.inj hj;simp
  ·rw [zdQ M _ e] at hj;have:=h.some_ n j hj;rw [dJ (List.getElem?_eq_some_iff.1 this).1];exact this
 ·by_cases e:n=m
  ·subst e;rw [zdR] at hn;cases hn
  ·rw [zdQ M _ e] at hn;intro hin;rcases List.mem_append.1 hin with a|a
   ·exact h.none_ n hn a
   ·exact e (List.mem_singleton.1 a)
theorem NbC.first {x0:α}(h:f n0=some x0):NbC f [n0] [x0] (updG (fun _=>none) n0 0):=by
 have:=NbC.push (f:=f) (ns:=[]) (xs:=[]) (M:=fun _=>none) (m:=n0) (y:=x0) ⟨rfl,(fun i n hn=>by simp at hn),(fun m j hj=>by cases hj),(fun m _=>sM)⟩ h rfl;simpa using this
end
end
abbrev domZ (x:Int):Prop := -1152921504606846976<x∧x<1152921504606846976
abbrev MapZ (w:World) (b n:Nat) (M:Int->Option Nat):Prop:=MapG 3 (fun x:Int=>Lit.int .i64 x) domZ w b n M
structure NbM (base:Nat) (W:World) (S:Nat->Prop) (mb:Nat) (vn vr vv:Value) (N nm:Nat) (ns row:List Int) (rows:List (List Int)) (M:Int->Option Nat):Prop where
 nodes:W.ownsRow base 3 1 vn ns.length (ints ns)
 nS:∀ b,vn.ownBlock=some b->¬ S b
 row:W.ownsRow N 3 1 vr row.length (ints row)
 rS:∀ b,vr.ownBlock=some b->¬ S b
 nr:∀ b,vn.ownBlock=some b->vr.ownBlock≠some b
 rows:∃ rs,W.ownsRow base 110 1 vv rows.length rs∧zE W base rs rows∧(∀ b,vv.ownBlock=some b->¬ S b)∧∀ (i:Nat) (r:Value) (b:Nat),rs[i]?=some r->r.ownBlock=some b->¬ S b∧b<N∧vn.ownBlock≠some b
 map:MapZ W mb nm M
 mS:¬ S mb
 mlow:base<=mb
 N0:base<=N∧N<=W.heap.size
section
variable {base mb N nm:Nat} {W W' W1:World} {S S':Nat->Prop} {vn vr vv:Value} {ns row:List Int} {rows:List (List Int)} {M:Int->Option Nat} {J:zht} {B:Nat}
theorem NbM.kp (h:NbM base W S mb vn vr vv N nm ns row rows M) (k:Kp J B S W W' S'):NbM base W' S' mb vn vr vv N nm ns row rows M:=by
 obtain⟨o,a,c,d,f⟩:=h.rows;refine⟨(k.row h.nodes h.nS).1,(k.row h.nodes h.nS).2,(k.row h.row h.rS).1,(k.row h.row h.rS).2,h.nr,⟨o,(k.row a d).1,c.frm k.frm (fun i r b hr hb=>(f i r b hr hb).1),(k.row a d).2,fun i r b hr hb=>?_⟩,h.map.frm k.frm h.mS,k.out h.map.lt h.mS,h.mlow,⟨h.N0.1,dL h.N0.2 k.size⟩⟩;obtain⟨g,j,m⟩:=f i r b hr hb;obtain⟨l,_,n⟩:=c.row hr;exact⟨k.out (n.lt b hb).2 g,j,m⟩
theorem NbM.pushN (h:NbM base W S mb vn vr vv N nm ns row rows M)(hfr:∀ k,W.heap.size<=k->¬ S k)
  (zje:W'.ownsRow base 3 1 (.slice (some g) (ns.length+1) cap) (ns.length+1) (ints ns++[.int .i64 m])) (hg:W.grownBy W' vn.ownBlock) (hat:vn.ownBlock=some g∨g=W.heap.size+1) :
  NbM base W' S mb (.slice (some g) (ns.length+1) cap) vr vv N nm (ns++[m]) row rows M:=by
 obtain⟨v,j,n,p,o⟩:=h.rows;have c:Frm (fun k=>vn.ownBlock=some k) W W':=eZ hg;have a:∀ b,(Value.slice (some g) (ns.length+1) cap).ownBlock=some b->b=g:=fun b hb=>by simpa [Value.ownBlock] using hb.symm
 refine⟨by rw [dN,dZ,ints,eK];exact zje,fun b hb=>?_,zf h.row c (fun b hb e=>h.nr b e hb),h.rS,fun b hb hr=>?_,⟨v,zf j c (fun b hb e=>zaI j h.nodes dM hb e),n.frm c (fun i r b hr hb e=>(o i r b hr hb).2.2 e),p,fun i r b hr hb=>?_⟩,h.map.frm c (fun e=>h.map.ao h.nodes e),h.mS,h.mlow,⟨h.N0.1,dL h.N0.2 c.size⟩⟩
 ·obtain rfl:=a b hb;rcases hat with e|e
  ·exact h.nS b e
  ·exact hfr b oM
 ·obtain rfl:=a b hb;have d:=(h.row.lt b hr).2;rcases hat with e|e
  ·exact h.nr b e hr
  ·omega
 ·obtain⟨q,s,t⟩:=o i r b hr hb;refine⟨q,s,fun e=>?_⟩;obtain rfl:=a b e;obtain⟨l,_,u⟩:=n.row hr;have d:=(u.lt b hb).2;rcases hat with f | f
  ·exact t f
  ·omega
theorem NbM.pushR (h:NbM base W S mb vn vr vv N nm ns row rows M)(hfr:∀ k,W.heap.size<=k->¬ S k)
  (zje:W'.ownsRow N 3 1 (.slice (some g) (row.length+1) cap) (row.length+1) (ints row++[.int .i64 m])) (hg:W.grownBy W' vr.ownBlock) (hat:vr.ownBlock=some g∨g=W.heap.size+1) :
  NbM base W' S mb vn (.slice (some g) (row.length+1) cap) vv N nm ns (row++[m]) rows M:=by
 obtain⟨o,d,j,l,f⟩:=h.rows;have a:Frm (fun k=>vr.ownBlock=some k) W W':=eZ hg;have c:∀ b,(Value.slice (some g) (row.length+1) cap).ownBlock=some b->b=g:=fun b hb=>by simpa [Value.ownBlock] using hb.symm
 refine⟨zf h.nodes a (fun b hb e=>h.nr b hb e),h.nS,by rw [dN,dZ,ints,eK];exact zje,fun b hb=>?_,fun b hb hr=>?_,⟨o,zf d a (fun b hb e=>zaI d h.row dM hb e),j.frm a (fun i r b hr hb e=>?_),l,f⟩,h.map.frm a (fun e=>h.map.ao h.row e),h.mS,h.mlow,⟨h.N0.1,dL h.N0.2 a.size⟩⟩
 ·obtain rfl:=c b hb;rcases hat with e|e
  ·exact h.rS b e
  ·exact hfr b oM
 ·obtain rfl:=c b hr;have n:=(h.nodes.lt b hb).2;rcases hat with e|e
  ·exact h.nr b hb e
  ·omega
 ·have:=(h.row.lt b e).1;have:=(f i r b hr hb).2.1;omega
theorem NbM.setMap {M':Int->Option Nat} (h:NbM base W S mb vn vr vv N nm ns row rows M)(hmap:MapZ W' mb n M')(hg:W.grownBy W' (some mb)):NbM base W' S mb vn vr vv N n ns row rows M':=by
 have f:Frm (fun k=>some mb=some k) W W':=eZ hg;have a:Frm (fun k=>k=mb) W W':=f.mono (fun k _ e=>(Option.some.inj e).symm);obtain⟨o,c,d,g,j⟩:=h.rows;refine⟨zf h.nodes a (fun b hb e=>by subst e;exact h.map.ao h.nodes hb),h.nS,zf h.row a (fun b hb e=>by subst e;exact h.map.ao h.row hb),h.rS,h.nr,⟨o,zf c a (fun b hb e=>by subst e;exact h.map.ao c hb),d.frm a (fun i r b hr hb e=>?_),g,j⟩,hmap,h.mS,h.mlow,⟨h.N0.1,dL h.N0.2 f.size⟩⟩;subst e;obtain⟨l,_,m⟩:=d.row hr;exact h.map.ao m hb
theorem NbM.pushV {rs:List Value}  (h:NbM base W S mb vn (.slice A row.length c) vv N nm ns row rows M)(hfr:∀ k,W.heap.size<=k->¬ S k)(h1:W.ownsRow base 110 1 vv rows.length rs)(h2:zE W base rs rows)
  (h3:∀ b,vv.ownBlock=some b->¬ S b) (h4:∀ (i:Nat) (r:Value) (b:Nat),rs[i]?=some r->r.ownBlock=some b->¬ S b∧b<N∧vn.ownBlock≠some b)
  (zje:W'.ownsRow base 110 1 (.slice (some g) (rows.length+1) cap) (rows.length+1) (rs++[.slice A row.length c])) (hg:W.grownBy W' vv.ownBlock) (hat:vv.ownBlock=some g∨g=W.heap.size+1) :
  NbM base W' S mb vn (.slice none 0 0) (.slice (some g) (rows.length+1) cap) W'.heap.size nm ns [] (rows++[row]) M:=by
 have a:Frm (fun k=>vv.ownBlock=some k) W W':=eZ hg;have n:∀ b,(Value.slice (some g) (rows.length+1) cap).ownBlock=some b->b=g:=fun b hb=>by simpa [Value.ownBlock] using hb.symm
 have p:=h2.snoc2 (fun i r b hr hb=>(h4 i r b hr hb).2.1) h.N0.1 h.row;have d:∀ (i:Nat) (r:Value) (b:Nat),(rs++[Value.slice A row.length c])[i]?=some r->r.ownBlock=some b->¬ S b∧b<W.heap.size∧vn.ownBlock≠some b:=by
  intro i r b hr hb;rcases eL i rs.length with q|q
  ·rw [dJ q] at hr;obtain⟨f,j,m⟩:=h4 i r b hr hb;exact⟨f,dY j h.N0.2,m⟩
  ·have o:i=rs.length:=by
    have:=(List.getElem?_eq_some_iff.1 hr).1;simp at this;omega
   subst o;simp at hr;subst hr;exact⟨h.rS b hb,(h.row.lt b hb).2,fun e=>h.nr b e hb⟩
 refine⟨zf h.nodes a (fun b hb e=>zaI h.nodes h1 dM hb e),h.nS,World.ownsRow_nil _ _ _ _,fun b hb=>by simp [Value.ownBlock] at hb,fun b _ hr=>by simp [Value.ownBlock] at hr,⟨_,by rw [dN,dZ];exact zje,p.frm a (fun i r b hr hb e=>?_),fun b hb=>?_,fun i r b hr hb=>?_⟩,h.map.frm a (fun e=>h.map.ao h1 e),h.mS,h.mlow,⟨dL (dL h.N0.1 h.N0.2) a.size,dE _⟩⟩
 ·obtain⟨l,_,s⟩:=p.row hr;exact zaI s h1 dM hb e
 ·obtain rfl:=n b hb;rcases hat with e|e
  ·exact h3 b e
  ·exact hfr b oM
 ·obtain⟨f,j,m⟩:=d i r b hr hb;exact⟨f,dY j a.size,m⟩
end
theorem own_int_at {l:List Int} {x:Int}(h:W.ownsRow base 3 1 (.slice (some g) n c) n (ints l))(hx:l[j]?=some x):W.cell? ⟨g,j,none⟩=some (.int .i64 x):=by
 have a:=zeM h;have b:=(List.getElem?_eq_some_iff.1 hx).1;rw [h.cellAt j (by simp [ints] at a;omega)];simp [ints,hx]
section
variable {α:Type}
def RetNext (K:(Int->Option α)->zht) (D:α->Nat->α) (f:Int->Option α) (B:Nat) (S:Nat->Prop) (W:World) (x:α) (l:Nat) (e:Ending) (W':World):Prop:=
 ∃ (g:Int->Option α) (m:Int) (S':Nat->Prop),e=.returned (.int .i64 m)∧SubF f g∧g m=some (D x l)∧Kp (K g) (B+1) S W W' S'
def RetNb (K:(Int->Option α)->zht) (D:α->Nat->α) (LL:List Nat) (x0:α) (lim:Nat) (f0:Int->Option α) (B1:Nat) (S0:Nat->Prop) (w:World) (e:Ending) (w':World):Prop:=
 ∃ (g:Int->Option α) (B:Nat) (S':Nat->Prop),SubF f0 g∧Kp (K g) B S0 w w' S'∧B<=B1 ∧
  ((e=.returned (.tuple #[(),(),.bool false])∧∃ xs:List α,xs.Nodup∧xs.length=lim+1∧∀ x∈xs,∃ v:List Nat,(∀ l∈v,l∈LL)∧x=v.foldl D x0) ∨
   ∃ (A:Option Addr) (c:Nat) (A':Option Addr) (c':Nat) (ns:List Int) (xs:List α) (rows:List (List Int)),e=.returned (.tuple #[.slice A xs.length c,.slice A' xs.length c',.bool true])∧xs.length<=lim∧NbI D LL x0 xs rows []∧rows.length=xs.length ∧
    (ns.length=xs.length∧∀ (i:Nat) (n:Int),ns[i]?=some n->∃ x,xs[i]?=some x∧g n=some x)∧w'.ownsRow w.heap.size 3 1 (.slice A xs.length c) xs.length (ints ns)∧zed w' w.heap.size (.slice A' xs.length c') rows)
theorem ziB {K:(Int->Option α)->zht} {D:α->Nat->α} {LL:List Nat} {x0:α}  {lim Bm B0 b0 kn cL bL:Nat} {cap:Array Value} {AL:Option Addr} {S0:Nat->Prop} {f0:Int->Option α} 
  (hJ:∀ f,zht.Ok b0 (K f)) (hinj:∀ f B W S,K f B W S->∀ (n m:Int) (x:α),f n=some x->f m=some x->n=m) (hdom:∀ f B W S,K f B W S->∀ (n:Int) (x:α),f n=some x->domZ n)
  (hin:∀ args W,(callFunc kn args).run Tryz.prog W=.ok (.enter kn args) W)
  (hnext:∀ (f:Int->Option α) (B:Nat) (W:World) (S:Nat->Prop) (n:Int) (x:α) (l:Nat),K f B W S->B<Bm->f n=some x->l∈LL->Calls Tryz.prog kn (#[.int .i64 n,.int .i64 (l:Nat)]++cap) W (RetNext K D f B S W x l))
  (h0:K f0 B0 w S0) (hx0:f0 n0=some x0) (hb0:b0<=w.heap.size) (hL:w.ownsRow bL 3 1 (.slice AL LL.length cL) LL.length (zae LL)) (hLS:∀ b,(Value.slice AL LL.length cL).ownBlock=some b->¬ S0 b)
  (hL6:LL.length<=6) (hlim:1<=lim) (hlim2:lim<=100000) (hB:B0+6*lim<=Bm) :
  Calls Tryz.prog 109 #[n0,.slice AL LL.length cL,.int .i64 (lim:Nat),.func (.func kn) #[] cap] w (RetNb K D LL x0 lim f0 (B0+6*lim) S0 w):=by
 have bn:=hdom f0 B0 w S0 h0 n0 x0 hx0;have V:=za hJ;have aJ:=za hinj;have aI:=za hdom;have ar:=za hnext;have HL:=za hL;have bf:=za hLS;have bg:=za hx0;have aY:=Kp.refl (J:=K f0) h0;have av:=fun (k:Nat) (hk:w.heap.size<=k)=>zht.fresh (hJ f0) h0 hk;clear hJ hinj hdom hnext hL hLS hx0 h0;have bK:=@run_makeMap Tryz.prog
 go_enter Tryz.func109,Tryz.ntmps109
 go_upto_region 2 with fail
 have on:=World.ownsRow_lit (base:=w.heap.size) (e:=3) (size:=1) w #[n0] 1 (dE _) dM rfl;generalize U0:w.alloc _=L at *;have a6:=Ext.al_ U0;have bN:w.heap.size<L.heap.size:=by rw [← U0];simp
 have aZ:=aY.ext (V.out f0) a6;clear U0;have Q:MapZ (L.alloc (.map #[] 0)) L.heap.size 0 (fun _=>none):=MapG.made L;have aD:Ext L (L.alloc (.map #[] 0)):=(dB L).alloc _;go_upto_region 3 with (refine zez (key:=n0) (v9:=0) (b:=L.heap.size) _ keyZ rfl _ _ _ (.inr rfl) rfl Q oM rfl rfl bn oM ?_;intro w2 hM2 hg2)
 have aU:Frm (fun k=>some L.heap.size=some k) (L.alloc (.map #[] 0)) w2:=eZ hg2;have R:=(aZ.ext (V.out f0) aD).grown (V.out f0) hg2 (fun k hk=>by
  have:=Option.some.inj hk;exact⟨oM,oM,av k oM⟩)
 have a8:=zf (zh on aD) aU (fun b hb e=>by
  have h1:b=w.heap.size:=by simpa [Value.ownBlock] using hb.symm
  have h2:=Option.some.inj e;omega)
 have a1:NbM w.heap.size w2 S0 L.heap.size (.slice (some w.heap.size) 1 1) (.slice none 0 0) (.slice none 0 0) w2.heap.size 1 [n0] [] [] (updG (fun _=>none) n0 0):=
  ⟨a8,fun b hb=>by
   have h1:b=w.heap.size:=by simpa [Value.ownBlock] using hb.symm
   exact av b oM,World.ownsRow_nil _ _ _ _,fun b hb=>by simp [Value.ownBlock] at hb,fun b _ hr=>by simp [Value.ownBlock] at hr,⟨[],World.ownsRow_nil _ _ _ _,zE.nil _ _,fun b hb=>by simp [Value.ownBlock] at hb,fun i r b hr=>by simp at hr⟩,hM2,av _ oM,oM,⟨R.size,dE _⟩⟩
 have aR:=za (NbI.first (D:=D) (LL:=LL) (start:=x0))
 have aQ:=za (NbC.first bg.out)
 clear Q a6 aD on a8 aU hg2 hM2 aZ aY;generalize L.heap.size=mb at *;go_wp2_with fail
 go_loopw [11,13,14] (fun v11 v13 iv wr=>∃ (i B I:Nat) (wN:World) (g:Int->Option α) (S:Nat->Prop) (c:List Int) (t:List α) (a:List (List Int)) (M:Int->Option Nat),iv=.int .i64 i∧Hid (i=a.length)∧i<=c.length∧t.length<=lim∧B<=B0+6*i∧Hid (SubF f0 g)∧Hid (Kp (K g) B S0 w wr S) ∧
  Hid (NbM w.heap.size wr S mb v11 (.slice none 0 0) v13 wN.heap.size I c [] a M)∧Hid (I=c.length)∧Hid (NbI D LL x0 t a [])∧Hid (NbC g c t M)) (fun _ _ iv _=>lim+1 - (intOf iv).toNat)
 case atStart=>exact⟨0,B0,1,w2,f0,S0,[n0],[x0],[],_,rfl,za rfl,sM,by simpa using hlim,oM,za (SubF.refl _),za R,za a1,za rfl,aR,aQ⟩
 case round =>
  clear R a1 aR aQ;obtain⟨i,B,I,wN,g,S,c,t,a,M,rfl,s,aX,H,aP,p,hk,F,y,Z,Y⟩:=hrel;have o:=za Y.out.len;have a2:c.length<=lim:=oH o.out;obtain⟨ap,ab,rfl⟩:=zg F.out.nodes;obtain⟨rs,v1,v2,v3,v4⟩:=F.out.rows;obtain⟨aa,ad,rfl⟩:=zg v1
  by_cases T:i<c.length
  case neg =>
   have ag:i=c.length:=oM;have an:=s.out;have u:=o.out;have zjh:=za (show RetNb K D LL x0 lim f0 (B0+6*lim) S0 w (.returned (.tuple #[.slice ap c.length ab,.slice aa a.length ad,.bool true])) wr from
    ⟨g,B,S,p.out,hk.out,oM,.inr ⟨ap,ab,aa,ad,c,t,a,by rw [u,← an,ag,u],H,Z.out,oM,⟨u,Y.out.code⟩,by rw [← u];exact F.out.nodes,rs,(by rw [show t.length=a.length by omega];exact v1),v2⟩⟩)
   clear v1 v2 v3 v4 an u;subst ag;go_wp2_with fail
   go_ret3;exact zjh.out
  case pos =>
  have ao:(i:Int)<(c.length:Int):=oM;go_wp2_with fail
  go_loopw [11,15,34] (fun v11 v15 kv wq=>∃ (k B I:Nat) (g:Int->Option α) (S:Nat->Prop) (c:List Int) (t:List α) (d:List Int) (M:Int->Option Nat),kv=.int .i64 k∧Hid (k=d.length)∧k<=LL.length∧i<c.length∧t.length<=lim∧B<=B0+6*i+k∧Hid (SubF f0 g)∧Hid (Kp (K g) B S0 w wq S) ∧
   Hid (NbM w.heap.size wq S mb v11 v15 (.slice aa a.length ad) wN.heap.size I c d a M)∧Hid (I=c.length)∧Hid (NbI D LL x0 t a d)∧Hid (NbC g c t M)) (fun _ _ kv _=>LL.length - (intOf kv).toNat)
  case atStart=>exact⟨0,B,I,g,S,c,t,[],M,rfl,za rfl,dG _,T,H,oM,p,hk,F,y,Z,Y⟩
  case round =>
   clear p hk F y Z Y aP H o a2 T ao aX v1 v2 v3 v4;obtain⟨k,B,I,g,S,c,t,d,M,rfl,v,bJ,T,H,aP,p,hk,F,y,Z,Y⟩:=hrel;have o:=za Y.out.len;have a2:c.length<=lim:=oH o.out;obtain⟨ap,ab,rfl⟩:=zg F.out.nodes;obtain⟨aH,aO,rfl⟩:=zg F.out.row;have ao:(i:Int)<(c.length:Int):=oM
   by_cases hkL:k<LL.length
   case neg =>
    obtain⟨rs,v1,v2,v3,v4⟩:=F.out.rows;have ag:=za (show d.length=LL.length by have:=v.out;omega);obtain⟨x,hx⟩:∃ x,t[a.length]?=some x:=⟨_,dD (by have:=s.out;have:=o.out;omega)⟩;have bj:=za (Z.out.row_ hx ag.out);have bp:=za (fun (q:Nat) (hq:wr.heap.size<=q)=>zht.fresh (V.out g) hk.out.j hq);have a4:=hk.out.size;have bl:=za v2;have aT:=za v3;have bm:=za v4;have bM:a.length<=100000:=by have:=s.out;have:=o.out;omega
    clear hx v2 v3 v4 Z;go_wp2_with (at_builtin;refine zQ w wr rfl _ _ _ rfl 110 _ 1 24 Tryz.underlying24 zbw rfl dM (.slice aa a.length ad) a.length rs _ _ rfl rfl a4 v1 rfl (zaF _ _ _) lM oM ?_;intro g9 cap9 w9 hown9 hg9 hat9 hlt9)
    have br:=za (F.out.pushV bp.out v1 bl.out aT.out bm.out hown9 hg9 hat9);have R:=za (hk.out.grown (V.out g) hg9 (fun q hq=>⟨(v1.lt q hq).1,by have:=(v1.lt q hq).1;omega,aT.out q hq⟩));go_roundw
    case rel=>exact⟨i+1,B,I,w9,g,S,c,t,a++[d],M,gM,za (by rw [dN,← s.out];rfl),oM,H,oM,p,R,br,y,bj,Y⟩
    case measure=>simp [intOf];omega
   case pos =>
   have bB:(k:Int)<(LL.length:Int):=oM;obtain⟨l,hl⟩:∃ l,LL[k]?=some l:=⟨_,dD hkL⟩;have Hl:=za hl;obtain⟨n,hn⟩:∃ n,c[i]?=some n:=⟨_,dD T⟩;obtain⟨x,hx,aW⟩:=Y.out.code i n hn;have Hx:=za hx;obtain⟨gL,rfl,-,-⟩:=zag HL.out oM;obtain⟨bh,rfl,-,-⟩:=zag F.out.nodes oM;have cL:=zcB (hk.out.row HL.out bf.out).1 hkL;rw [List.getD_eq_getElem?_getD,hl,Option.getD_some] at cL;have cN:=own_int_at F.out.nodes hn;have U:=za (ar.out g B wr S n x l hk.out.j oM aW (dC hl));clear hx hl hn aW;go_upto_region 12 with fail
   refine U.out.mono ?_;rintro e w5 ⟨X,m,S',rfl,C,aw,G⟩;have ay:=za (hk.out.trans G);have h:=za (F.out.kp G);have E:=za (p.out.trans C);have ae:=za (Y.out.sub C);have af:=aI.out X _ w5 S' G.j m _ aw;have aq:=za aw;have ax:=za (aJ.out X _ w5 S' G.j);have al:=za (fun (q:Nat) (hq:w5.heap.size<=q)=>zht.fresh (V.out X) G.j hq);clear cL cN U hk F p Y C aw G;cases hMm:M m with
   |some j =>
    have O:=za hMm;have a7:=za (ae.out.hit aq.out hMm);have bI:j<c.length:=by have:=o.out;have:=(List.getElem?_eq_some_iff.1 a7.out).1;omega
    have au:=za (Z.out.hit (l:=l) (by rw [← s.out];exact Hx.out) (by rw [← v.out];exact Hl.out) a7.out);clear hMm;go_upto_region 13 with (refine zbV (key:=m) _ keyZ rfl _ _ rfl rfl h.out.map rfl af ?_;rw [O.out];intro cc hcc;obtain rfl:=hcc j rfl;clear hcc)
    have aE:=h.out.row;have aS:=h.out.N0;have a3:d.length<=6:=oH v.out;go_wp2_with (at_builtin;refine zQ wN w5 rfl _ _ _ rfl 3 _ 1 8 Tryz.underlying110 zS rfl dM (.slice aH d.length aO) d.length (ints d) _ _ rfl rfl aS.2 aE rfl (zaL _) lM oM ?_;intro g9 cap9 w9 hown9 hg9 hat9 hlt9)
    have aB:=za (h.out.pushR al.out hown9 hg9 hat9);have az:=za (ay.out.grown (V.out X) hg9 (fun q hq=>⟨by have:=(aE.lt q hq).1;omega,by have:=(aE.lt q hq).1;omega,h.out.rS q hq⟩));go_roundw
    case rel=>exact⟨k+1,B+1,I,X,S',c,t,d++[(j:Int)],M,gM,za (by rw [dN,← v.out];rfl),oM,T,H,oM,E,az,aB,y,au,ae⟩
    case measure=>simp [intOf];omega
   |none =>
    have O:=za hMm;have aC:=za (ae.out.miss ax.out aq.out hMm);clear hMm
    by_cases hfull:c.length=lim
    ·have bu:=za (show RetNb K D LL x0 lim f0 (B0+6*lim) S0 w (.returned (.tuple #[(),(),.bool false])) w5 from by
      refine⟨X,B+1,S',E.out,ay.out,oM,.inl ⟨rfl,t++[D x l],?_,by have:=o.out;simp;omega,fun z hz=>?_⟩⟩
      ·exact (Z.out.more (l:=l) (by rw [← s.out];exact Hx.out) (dC Hl.out) rfl aC.out).nd
      ·exact (Z.out.more (l:=l) (by rw [← s.out];exact Hx.out) (dC Hl.out) rfl aC.out).reach z hz)
     have bd:=za hfull;have bo:((c.length:Int)==(lim:Int))=true:=by simp;omega
     clear hfull;go_wp2_with (refine zbV (key:=m) _ keyZ rfl _ _ rfl rfl h.out.map rfl af ?_;rw [O.out];intro cc hcc;clear hcc)
     go_ret3;exact bu.out
    ·have bo:((c.length:Int)==(lim:Int))=false:=by simp;omega
     have bC:c.length+1<=lim:=oM;clear hfull;have au:=za (show NbI D LL x0 (t++[D x l]) a (d++[(c.length:Int)]) from
      (Z.out.more (l:=l) (by rw [← s.out];exact Hx.out) (dC Hl.out) rfl aC.out).hit (x:=x) (l:=l) (by rw [dJ (by have:=s.out;have:=o.out;omega),← s.out];exact Hx.out) (by rw [← v.out];exact Hl.out) (by rw [o.out];simp))
     have bi:=za (ae.out.push aq.out O.out);have ai:I<1152921504606846976:=oH y.out;go_upto_region 17 with (refine zbV (key:=m) _ keyZ rfl _ _ rfl rfl h.out.map rfl af ?_;rw [O.out];intro cc hcc;clear hcc)
     have aS:=h.out.N0;have a3:d.length<=6:=oH v.out;have bx:=h.out.nodes;go_upto_region 18 with (refine zez (key:=m) (v9:=c.length) (b:=mb) _ keyZ rfl _ _ _ (.inl rfl) rfl h.out.map ai rfl rfl af oM ?_;intro w7 hM7 hg7)
     have aA:=za (h.out.setMap hM7 hg7);have a0:=za (ay.out.grown (V.out X) hg7 (fun q hq=>by
      obtain rfl:=Option.some.inj hq;exact⟨h.out.mlow,dL hb0 h.out.mlow,h.out.mS⟩))
     have bG:=(eZ hg7).size;have am:=za (fun (q:Nat) (hq:w7.heap.size<=q)=>al.out q oM);have aj:=aA.out.nodes;have bt:=a0.out.size;clear hM7 hg7 bx;go_upto_region 19 with (at_builtin;refine zQ w w7 rfl _ _ _ rfl 3 _ 1 8 Tryz.underlying110 zS rfl dM (.slice (some bh) c.length ab) c.length (ints c) _ _ rfl rfl bt aj rfl (zaL _) lM oM ?_;intro g8 cap8 w8 hown8 hg8 hat8 hlt8)
     have ah:=za (aA.out.pushN am.out hown8 hg8 hat8);have bq:=za (a0.out.grown (V.out X) hg8 (fun q hq=>⟨(aj.lt q hq).1,by have:=(aj.lt q hq).1;omega,aA.out.nS q hq⟩));have bH:=(eZ hg8).size;have aV:=za (fun (q:Nat) (hq:w8.heap.size<=q)=>am.out q oM);have aF:=ah.out.row;have bk:=ah.out.N0;clear hown8 hg8 hat8 aj;go_wp2_with (at_builtin;refine zQ wN w8 rfl _ _ _ rfl 3 _ 1 8 Tryz.underlying110 zS rfl dM (.slice aH d.length aO) d.length (ints d) _ _ rfl rfl bk.2 aF rfl (zaL _) lM oM ?_;intro g9 cap9 w9 hown9 hg9 hat9 hlt9)
     have aB:=za (ah.out.pushR aV.out hown9 hg9 hat9);have az:=za (bq.out.grown (V.out X) hg9 (fun q hq=>⟨by have:=(aF.lt q hq).1;omega,by have:=(aF.lt q hq).1;omega,ah.out.rS q hq⟩));go_roundw
     case rel=>exact⟨k+1,B+1,I+1,X,S',c++[m],t++[D x l],d++[(c.length:Int)],_,gM,za (by rw [dN,← v.out];rfl),oM,by simp;omega,by have:=o.out;simp;omega,oM,E,az,aB,za (by rw [dN,← y.out];rfl),au,bi⟩
     case measure=>simp [intOf];omega
end
end Go.Proofs.YtckbjnndaaoddaaGreatDoor
