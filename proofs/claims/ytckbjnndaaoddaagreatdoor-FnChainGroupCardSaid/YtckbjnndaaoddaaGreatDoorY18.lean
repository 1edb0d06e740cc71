/- Plain: a ver -/
import Derived.Test.YtckbjnndaaoddaaGreatDoorY17
set_option maxHeartbeats 1000000
set_option maxRecDepth 100000
namespace Go.Proofs.YtckbjnndaaoddaaGreatDoor
open Go Go.RowKit
open List renaming eq_nil_of_length_eq_zero->eJ,filter_nil->j2
variable {s:Sys} {v:List Nat}
section
variable {x y z c:Sys} {p a:Aut} {L:Nat}
theorem comp_runs (hc:zfC y z z.st.toNat c) (vy:zk y=true) (vz:zk z=true) (hv:ziG (y.al.toNat|||z.al.toNat) v):zgl c v↔zgl y v∧zgl z v:=by
 obtain⟨P,-,Q,R,pc⟩:=hc.pairs;have T:=zeI vy;have t:=zeI vz;have S:=zeI hc.valid;have o:c.al.toNat=y.al.toNat|||z.al.toNat:=by rw [hc.al];rfl
 have Y:0<z.st.toNat:=oH t.1;have H:∀ n (v:List Nat),v.length=n->ziG (y.al.toNat|||z.al.toNat) v->(∀ b,zbe (cho c) [0] v b->∃ m,P[b]?=some m∧zbe (cho y) [0] v (m / z.st.toNat)∧zbe (cho z) [0] v (m % z.st.toNat)) ∧
   ∀ i j,zbe (cho y) [0] v i->zbe (cho z) [0] v j->∃ b,P[b]?=some (i*z.st.toNat+j)∧zbe (cho c) [0] v b:=by
  intro n
  induction n with
  |zero =>
   intro v hl _;obtain rfl:=eJ hl;refine⟨fun b a=>?_,fun i j q r=>?_⟩
   ·have:=a.ah;simp at this;subst this;exact⟨0,Q,by rw [Nat.zero_div];exact .nil sM,by rw [Nat.zero_mod];exact .nil sM⟩
   ·have f:=q.ah;have d:=r.ah;simp at f d;subst f;subst d;exact⟨0,by simpa using Q,.nil sM⟩
  |succ n ih =>
   intro v hl hov;rcases zY v with rfl|⟨u,l,rfl⟩
   ·simp at hl
   obtain⟨Z,i2⟩:=ih u (by simpa using hl) (fun k hk=>hov k (by simp [hk]));obtain⟨l6,I⟩:=hov l sM;have p:c.al.toNat.testBit l=true:=by rw [o];exact I
   refine⟨fun b a=>?_,fun i j q r=>?_⟩
   ·obtain⟨x,f,d⟩:=a.inv;obtain⟨m,B,C,D⟩:=Z x f;rw [cho_E S,if_pos p] at d;obtain⟨-,m',k,E,U,V,X⟩:=(R x l b).1 d;rw [B] at E;obtain rfl:=Option.some.inj E;exact⟨k,U,.snoc C ((cho_E T).2 V),.snoc D ((cho_E t).2 X)⟩
   ·obtain⟨O,f,d⟩:=q.inv;obtain⟨G,B,C⟩:=r.inv;obtain⟨x,D,E⟩:=i2 O G f B;have F:∀ k∈u,k<6:=fun k hk=>(hov k (by simp [hk])).1;have g:G<z.st.toNat:=mem_lt (m:=zdQ z) (zei t) F B;have s:j<z.st.toNat:=ziK t g j C;have J:∀ i j,j<z.st.toNat->(i*z.st.toNat+j) / z.st.toNat=i:=fun i j h=>by rw [Nat.add_comm,Nat.add_mul_div_right _ _ Y,Nat.div_eq_of_lt h,Nat.zero_add]
    have L:∀ i j,j<z.st.toNat->(i*z.st.toNat+j) % z.st.toNat=j:=fun i j h=>by rw [Nat.add_comm,Nat.add_mul_mod_self_right,Nat.mod_eq_of_lt h]
    have M:Jst y z z.st.toNat (O*z.st.toNat+G) l (i*z.st.toNat+j):=by
     unfold Jst;rw [J _ _ g,J _ _ s,L _ _ g,L _ _ s,← cho_E T,← cho_E t];exact⟨d,C⟩
    obtain⟨b,a⟩:=List.getElem?_of_mem (pc _ (List.mem_of_getElem? D) l _ I M);refine⟨b,a,.snoc E ?_⟩;rw [cho_E S,if_pos p];exact (R x l b).2 ⟨I,_,_,D,a,M⟩
 obtain⟨k1,k2⟩:=H _ v rfl hv;constructor
 ·rintro ⟨b,a⟩;obtain⟨m,-,f,d⟩:=k1 b a;exact⟨⟨_,f⟩,⟨_,d⟩⟩
 ·rintro ⟨⟨i,q⟩,⟨j,r⟩⟩;obtain⟨b,-,a⟩:=k2 i j q r;exact⟨b,a⟩
theorem over_mono {A B:Nat} (h:ziG A v)(hab:∀ l,A.testBit l=true->B.testBit l=true):ziG B v:=fun l hl=>⟨(h l hl).1,hab l (h l hl).2⟩
theorem brok_comp (hc:zfC y z z.st.toNat c) (vy:zk y=true) (vz:zk z=true) (va:zj a=true):zbf [c] a=zbf [y,z] a∧zR [c] a=zR [y,z] a:=by
 have d:c.al.toNat=y.al.toNat|||z.al.toNat:=by rw [hc.al];rfl
 have e:zbi [c] a=zbi [y,z] a:=by
  unfold zbi;rw [zcT (ss:=[c]) sM sM (by simpa using hc.valid),zcT (ss:=[y,z]) sM sM (by simp [vy,vz])]
 obtain⟨f,g⟩:=zjf (ss:=[c]) (ts:=[y,z]) (a:=free) (b:=free) (p:=a) (r:=a) (by simpa using hc.valid) (by simp [vy,vz]) zbu zbu va va (by simp [zB,d])
  (fun v hv=>by
   rw [zcY,zcY];refine and_congr_left fun _=>?_;have:=comp_runs hc vy vz (v:=v) (over_mono hv fun l hl=>by rw [show free.al.toNat=0 from rfl,Nat.or_zero] at hl;simpa [zB,d] using hl);simpa using this)
 unfold zbf zR;rw [e,f,g];exact⟨rfl,rfl⟩
theorem goes_rest {f:Nat->Bool}(hf:∀ l,s.al.toNat.testBit l=true->f l=true):∀ n (v:List Nat),v.length=n->∀ q,zbe (cho s) [0] (v.filter f) q↔zbe (cho s) [0] v q:=by
 intro n
 induction n with
 |zero =>
  intro v hl q;obtain rfl:=eJ hl;rfl
 |succ n ih =>
  intro v hl q;rcases zY v with rfl|⟨u,l,rfl⟩
  ·simp at hl
  have ih:=ih u (by simpa using hl);rw [List.filter_append];cases hb:f l
  ·rw [List.filter_cons_of_neg (by rw [hb];decide),j2,List.append_nil,ih];have d:s.al.toNat.testBit l=false:=by
    cases h:s.al.toNat.testBit l
    ·rfl
    ·rw [hf l h] at hb;cases hb
   constructor
   ·intro h;exact .snoc h (by unfold cho;rw [d];simp)
   ·intro h;obtain⟨c,b,a⟩:=h.inv;unfold cho at a;rw [d] at a;simp at a;subst a;exact b
  ·rw [List.filter_cons_of_pos hb,j2];constructor
   ·intro h;obtain⟨c,b,a⟩:=h.inv;exact .snoc ((ih c).1 b) a
   ·intro h;obtain⟨c,b,a⟩:=h.inv;exact .snoc ((ih c).2 b) a
theorem zhT {f:Nat->Bool}(hf:∀ l,s.al.toNat.testBit l=true->f l=true) (v:List Nat):zgl s (v.filter f)↔zgl s v:=exists_congr fun q=>goes_rest hf _ v rfl q
theorem zjr (hc:zfC y z z.st.toNat c) (vy:zk y=true) (vz:zk z=true) (hv:∀ l∈v,l<6):zgl c v↔zgl y v∧zgl z v:=by
 have a:c.al.toNat=y.al.toNat|||z.al.toNat:=by rw [hc.al];rfl
 have b:∀ l,(y.al.toNat|||z.al.toNat).testBit l=(y.al.toNat.testBit l || z.al.toNat.testBit l):=fun l=>Nat.testBit_or ..;rw [← zhT (s:=c) (f:=fun l=>(y.al.toNat|||z.al.toNat).testBit l) (fun l h=>by rw [← a];exact h) v,
  ← zhT (s:=y) (f:=fun l=>(y.al.toNat|||z.al.toNat).testBit l) (fun l h=>by rw [b,h];rfl) v,
  ← zhT (s:=z) (f:=fun l=>(y.al.toNat|||z.al.toNat).testBit l) (fun l h=>by rw [b,h,Bool.or_true]) v]
 exact comp_runs hc vy vz fun l hl=>by
  obtain⟨d,g⟩:=List.mem_filter.1 hl;exact⟨hv l d,g⟩
theorem brok_comp2 (hc:zfC y z z.st.toNat c) (vx:zk x=true) (vy:zk y=true) (vz:zk z=true) (vp:zj p=true):zbf [x,c] p=zbf [x,y,z] p∧zR [x,c] p=zR [x,y,z] p:=by
 have d:c.al.toNat=y.al.toNat|||z.al.toNat:=by rw [hc.al];rfl
 have e:zbi [x,c] p=zbi [x,y,z] p:=by
  unfold zbi;rw [zcT (ss:=[x,c]) sM sM (by simp [vx,hc.valid]),zcT (ss:=[x,y,z]) sM sM (by simp [vx,vy,vz])]
 obtain⟨f,g⟩:=zjf (ss:=[x,c]) (ts:=[x,y,z]) (a:=free) (b:=free) (p:=p) (r:=p) (by simp [vx,hc.valid]) (by simp [vx,vy,vz]) zbu zbu vp vp (by simp [zB,d,Nat.or_assoc])
  (fun v hv=>by
   rw [zcY,zcY];refine and_congr_left fun _=>?_;have:=zjr hc vy vz (v:=v) (fun l hl=>(hv l hl).1);simp [this])
 unfold zbf zR;rw [e,f,g];exact⟨rfl,rfl⟩
theorem yY18a1 {P:Prop}(h:P:=by
 rw [if_neg dM,if_neg dM,if_neg dM] at hne;rw [if_neg dM,if_neg dM,if_neg dM,if_neg dM,if_neg dM];exact ih _ _ (hln _) hne
 ):P:=h
theorem group_run (hc:zfC y z z.st.toNat c) (vx:zk x=true) (vy:zk y=true) (vz:zk z=true) (vp:zj p=true)(h64:L<64) :
  ∀ (g k:Nat) (o:Option (List ByteArray × List ByteArray)),LnOk L (zo x p L) k o->(chT x y z p L g k o).code≠2->(runT x c p L g k o).code=(chT x y z p L g k o).code∧(runT x c p L g k o).tr=(chT x y z p L g k o).tr:=by
 intro g
 induction g with
 |zero=>intro k o _ h;rw [chT] at h;exact absurd rfl h
 |succ g ih =>
  intro k o ho hne;cases o with
  |none=>rw [chT] at hne;exact absurd rfl hne
  |some tab =>
   obtain⟨t,l⟩:=tab;obtain⟨D,r⟩:=ho.tab t l rfl;have n:=zbs D r h64;rw [chT] at hne ⊢;rw [runT];obtain⟨u,C⟩:=brok_comp (a:=zcN L (zo x p L) t l) hc vy vz n;have hln:=fun x_=>ho.ao x_;generalize zcN L (zo x p L) t l=a at *
   by_cases hu:zbD x a p=true
   ·have b:zaK x y z p L a=(zan (zaG x a p) L,-1,noA):=by unfold zaK;rw [if_pos hu]
    have d:zaP x p c L a=(zan (zaG x a p) L,-1):=by unfold zaP;rw [if_pos hu]
    simp only [b] at hne ⊢;simp only [d];exact yY18a1
   ·obtain⟨M,E⟩:∃ M:Nat,iface y a z=(M:Int):=⟨_,zda vy n vz⟩;have i:=vpT_ok E;have j:zbi [y,z] a=true:=by unfold zbi;rw [n,zcT sM sM (by simp [vy,vz])];rfl
    rcases i.code with v|m|B
    ·have f:=faultA_sound (vpT_fault v);have q:zbf [c] a=false:=by
      rw [zfp,j] at f;rw [u];simpa using f
     have b:zaK x y z p L a=(⟨#[]⟩,0,(vpT y z a).asm):=by unfold zaK;rw [if_neg hu,if_pos v]
     have d:zaP x p c L a=(⟨#[]⟩,0):=by unfold zaP;rw [if_neg hu,if_neg (by rw [q];decide)]
     simp only [b,d];exact⟨rfl,rfl⟩
    ·obtain⟨f,s⟩:=i.fails m;have q:zbf [c] a=true:=by
      rw [zfp,j] at f;rw [u];simpa using f
     have b:zaK x y z p L a=(zan (zR [y,z] a) L,if zo x p L (zan (zR [y,z] a) L)=true then -1 else 1,noA):=by unfold zaK;rw [if_neg hu,if_neg (by rw [m];decide),if_neg (by rw [m];decide),s]
     have d:zaP x p c L a=(zan (zR [y,z] a) L,if zo x p L (zan (zR [y,z] a) L)=true then -1 else 1):=by unfold zaP;rw [if_neg hu,if_pos q,C]
     simp only [b] at hne ⊢;simp only [d]
     by_cases hs:zo x p L (zan (zR [y,z] a) L)=true
     ·simp only [if_pos hs] at hne ⊢;exact yY18a1
     ·simp only [if_neg hs] at hne ⊢;exact⟨rfl,(brok_comp2 hc vx vy vz vp).2⟩
    ·have b:zaK x y z p L a=(⟨#[]⟩,2,noA):=by unfold zaK;rw [if_neg hu,if_neg (by rw [B];decide),if_pos B]
     simp only [b] at hne;exact absurd rfl hne
theorem chain_group (hc:zfC y z z.st.toNat c)(h3:(vcT [x,y,z] p).code≠3)(h2:(vcT [x,y,z] p).code≠2):(vpT x c p).code=(vcT [x,y,z] p).code∧(vpT x c p).tr=(vcT [x,y,z] p).tr:=by
 have h:=vcT_valid h3;obtain⟨-,f,i⟩:=zgd.1 h;obtain⟨-,a⟩:=zao f;have j:=a x sM;have m:=a y sM;have n:=a z sM;have b:c.al.toNat=y.al.toNat|||z.al.toNat:=by rw [hc.al];rfl
 obtain⟨k,-⟩:=chain_nat h;have g:iface x p c=(((x.al.toNat|||p.al.toNat)&&&(y.al.toNat|||z.al.toNat):Nat):Int):=by rw [zda j i hc.valid,b]
 have d:=iface_lt g;have l:vcT [x,y,z] p=chT x y z p ((x.al.toNat|||p.al.toNat)&&&(y.al.toNat|||z.al.toNat)) 12 0 ((zX ((x.al.toNat|||p.al.toNat)&&&(y.al.toNat|||z.al.toNat)) (zo x p ((x.al.toNat|||p.al.toNat)&&&(y.al.toNat|||z.al.toNat))) [⟨#[]⟩] 11 [⟨#[]⟩]).map fun r=>(r,[⟨#[]⟩])):=by
  unfold vcT;dsimp only;rw [k,if_pos oM,Int.toNat_natCast]
 rw [zgD g];rw [l] at h2 ⊢;exact group_run hc j m n i d 12 0 _ (LnOk.start _ _) h2
end
section
open Go.ChangeShapes Go.WideShapes Go.ChangeAt Go.Deep
def BytesAt (w:World) (A:Option Addr) (n c:Nat):Prop:=Bytes w A n∧n<=9223372036854775807∧n<=c∧c<=9223372036854775807
theorem arg_bytes {H:Type} {enc:TypeId × Value->H} {w:World} {spare:Nat->Bool} {held:Bool} {r:Reach} {b0:Nat} {v:Value} {d:DataW H} {p:List MemPlace}(hv:Value.okWide Tryz.prog w r b0 22 v)(h:DataW.Trod enc Tryz.prog w 0 spare held 22 v d p) :
  ∃ (A:Option Addr) (n c:Nat),v=.slice A n c∧BytesAt w A n c:=by
 obtain⟨a,l,k,rfl⟩:=okWide_slice Tryz.underlying22 hv;obtain⟨t,F⟩:=h;rcases open_slice1 Tryz.underlying22 kM F with ⟨f,_⟩|⟨s,L,B,m,n,V,D,M,f,R,G,J,q,_,z⟩
 ·simp [Value.cells] at f;obtain⟨rfl,rfl,rfl⟩:=f;exact⟨_,_,_,rfl,fun h=>absurd h oM,oM,Nat.le_refl _,oM⟩
 ·simp [Value.cells] at f;obtain⟨rfl,rfl,rfl⟩:=f;unfold maxLen at J;have I:l<=m:=by rw [q];split<;>omega
  refine⟨_,_,_,rfl,fun hn=>?_,oM,G,oM⟩;have u:=(z 0 oM).1;have y:=zdH u;have g:=World.block_lt_of_cell? w _ u;rw [ziI] at g;refine⟨s.block,s.off,by rw [← y],g,fun j hj=>?_⟩;obtain⟨x,C⟩:=z j oM;obtain⟨b,i,_,o⟩:=DataW.trod_int Tryz.underlying5 C;have E:V j=.int .u8 b:=by simpa using i
  rw [E,y,zT] at x;have S:0<=b∧b<256:=by
   simp only [Lit.wf,Bool.and_eq_true,decide_eq_true_eq] at o;have O:IntKind.u8.min=0:=rfl;have Q:IntKind.u8.max=255:=rfl;omega
  refine⟨b.toNat,oM,?_⟩;rw [x];have:((b.toNat:Nat):Int)=b:=oM;rw [this]
end
end Go.Proofs.YtckbjnndaaoddaaGreatDoor
