/- (impl.parts) -/
import Derived.Test.YtmjaepibdpfblaaGreatDoorK05
import Derived.Test.YtmjaepibdpfblaaGreatDoorK01
import Derived.Test.YtmjaepibdpfblaaGreatDoorK06
namespace Go.Proofs.YtmjaepibdpfblaaGreatDoor
open Go Go.RowKit
set_option maxHeartbeats 4000000
set_option maxRecDepth 100000
theorem nats_oneC (l:List Nat):∀ u∈zaq l,u.oneCell'=true:=by
 intro u hu
 obtain⟨x,_,rfl⟩:=List.mem_map.1 hu
 rfl
def RetNx (w:World) (base:Nat) (v:Value) (xs:List Value) (R:List Nat) (e:Ending) (w':World):Prop:=
 ∃ v',e=.returned v'∧w'.ownsRow base 3 1 v' (xs.length+R.length) (xs++zaq R)∧Frm (fun b=>v.ownBlock=some b) w w'∧(v'.ownBlock=v.ownBlock∨∃ b,v'.ownBlock=some b∧w.heap.size≤b)
theorem flat_snoc {l:List Nat} {a q:Nat} (f:Nat→List Nat)(h:l[a]?=some q):(l.take (a+1)).flatMap f=(l.take a).flatMap f++f q:=by
 rw [List.take_add_one,h]
 simp
theorem drop_cons {ss:List Sys} {j:Nat} {s:Sys}(h:ss[j]?=some s):ss.drop j=s :: ss.drop (j+1):=by
 obtain⟨hj,rfl⟩:=List.getElem?_eq_some_iff.1 h
 exact List.drop_eq_getElem_cons hj
theorem impl_next {lo hi k c lo' hi' d base n m l:Nat} {A M:Option Addr} {ss:List Sys} {v:Value} {xs:List Value} {w:World}(h:PtAt w lo hi A k lo' hi' M ss)(hs:∀ s∈ss,Sml s)(hk4:k≤4)(hm:m≤4611686018427387904)(hl:l<6)(hT:Tab w)
  (zil:w.ownsRow base 3 1 v n xs) (hb:base≤w.heap.size) (hn:n≤1099511627776) :
  Calls Tryz.prog 210 #[.agg #[.slice A k c,.slice M k d],.int .i64 m,.int .i64 l,v] w (RetNx w base v xs (nx ss m l).1):=by
 have HP:=za (fun W (hW:Ext w W)=>h.ext hW)
 have HT:=za (fun W (hW:Ext w W)=>hT.ext hW)
 have HO:=za (fun W (hW:Ext w W)=>zh zil hW)
 have Hs:=za hs
 have hks:=za h.sys.1
 have hfx:=za (fun j=>nx_facts (ss:=ss.drop j) (fun s hx=>hs s (List.mem_of_mem_drop hx)) m l)
 have hfl:=za (fun j=>nx_len (ss:=ss.drop j) (fun s hx=>hs s (List.mem_of_mem_drop hx)) m l)
 have h16:=za (show ∀ j,16 ^ (ss.drop j).length≤65536 from fun j=>by
  have:(ss.drop j).length≤4:=by rw [List.length_drop,← h.sys.1];omega
  exact Nat.le_trans (Nat.pow_le_pow_right (by omega) this) (by decide))
 have hxl:=zil.1
 clear h hs hT zil
 go_enter Tryz.func210,Tryz.ntmps210
 have bp:Blk (w.alloc (.cells #[.slice A k c,.slice M k d] 222)) w.heap.size 222 #[.slice A k c,.slice M k d]:=Blk.new w _ _
 have hx1:=(Ext.refl w).alloc (.cells #[.slice A k c,.slice M k d] 222)
 have h1:=World.ownsRow_lit (base:=w.heap.size) (e:=3) (size:=1) (w.alloc (.cells #[.slice A k c,.slice M k d] 222)) #[.int .i64 0] 1 hx1.size (by decide) rfl
 rw [show (w.alloc (.cells #[.slice A k c,.slice M k d] 222)).heap.size=w.heap.size+1 by simp] at h1
 have hx2:=hx1.alloc (.cells #[.int .i64 0] 3)
 have bp2:=bp.ext ((Ext.refl _).alloc (.cells #[.int .i64 0] 3))
 have cp:=bp2.cell
 go_upto_region 2 with fail
 generalize (w.alloc (.cells #[.slice A k c,.slice M k d] 222)).alloc (.cells #[.int .i64 0] 3)=w2 at *
 go_wp2_with fail
 go_loopw [1,9,10,11] (fun nd rv wt i wr=>∃ (j nd' W:Nat) (R:List Nat),j≤k∧i=.int .i64 ((j:Int) - 1)∧nd=.int .i64 (nd':Nat)∧wt=.int .i64 (W:Nat)∧Hid (nx (ss.drop j) m l=(R,W,nd'))∧wr.ownsRow w.heap.size 3 1 rv R.length (zaq R)∧Ext w2 wr) (fun _ _ _ i _=>(intOf i+1).toNat)
 case atStart=>exact⟨k,m,1,[0],Nat.le_refl _,by go_num,rfl,rfl,za (by rw [List.drop_of_length_le (by rw [← hks.out];exact Nat.le_refl _)];rfl),h1,Ext.refl _⟩
 case round =>
  clear h1 cp
  obtain⟨j,nd,W,R,hj,rfl,rfl,rfl,hnx,hR,hxr⟩:=hrel
  have hcp:=bp2.ext hxr
  have cp:=hcp.cell
  by_cases hlt:1≤j
  ·obtain⟨i,rfl⟩:∃ i,j=i+1:=⟨j - 1,by omega⟩
   obtain⟨g,o,s,B,q,c',rfl,_,_,hs,c0,c1,c2,-⟩:=(HP.out wr (hx2.trans hxr)).sys.sys (k:=i) (by omega)
   have hsm:=za (Hs.out s (List.mem_of_getElem? hs.out))
   obtain⟨p,hp⟩:∃ p:Nat,Hid (s.st=p):=⟨s.st.toNat,za (by have:=hsm.out.1;omega)⟩
   have hp1:1≤p∧p≤16:=by have:=hsm.out.1;have:=hsm.out.2.1;have:=hp.out;omega
   obtain⟨al,hal⟩:∃ al:Nat,Hid (s.al=al):=⟨s.al.toNat,za (by have:=hsm.out.2.2.2;omega)⟩
   have hsa:Sm al:=by have:=hsm.out.2.2.2;have:=hal.out;unfold Sm;omega
   rw [hal.out] at c0
   rw [hp.out] at c1
   have hi0:(((i+1:Nat):Int) - 1)=(i:Int):=by omega
   rw [hi0]
   have hF:=hfx.out (i+1)
   have hFl:=hfl.out (i+1)
   have h65:=h16.out (i+1)
   rw [hnx.out] at hF hFl
   obtain⟨hW1,hW2,hRW,hRn,hnd⟩:=hF
   have HRW:=za hRW
   clear hRW hRn
   dsimp only at hW1 hW2 hnd hFl
   obtain⟨T,hT1⟩:∃ T,Hid (cho s (nd % p) l=T):=⟨_,za rfl⟩
   have hTl:T.length≤16:=by
    have:=cho_len hsm.out (i:=nd % p) (l:=l) (by have:=hp.out;have:=Nat.mod_lt nd (show 0<p by omega);omega)
    rw [hT1.out] at this
    have:=hp.out
    omega
   have hTlt:=za (show ∀ q∈T,q<16 from fun q hq=>by
    have:=cho_lt hsm.out (i:=nd % p) (l:=l) (by have:=hp.out;have:=Nat.mod_lt nd (show 0<p by omega);omega) q (by rw [hT1.out];exact hq)
    have:=hp.out
    omega)
   have hmod:((nd:Int)).tmod (p:Int)=((nd % p:Nat):Int):=rfl
   have hdiv:((nd:Int)).tdiv (p:Int)=((nd / p:Nat):Int):=rfl
   have hik:(i:Int)<(k:Int):=by omega
   have hxs:=(Ext.refl wr).alloc (.cells #[.int .i64 al,.int .i64 p,.slice B q c'] 38)
   have bs:=Blk.new wr 38 #[.int .i64 al,.int .i64 p,.slice B q c']
   have hnd9:(nd:Int)≤4611686018427387904:=by omega
   have hpp:((p:Int)==0)=false:=by simp;omega
   go_upto_region 6 with fail
   clear c0 c1 c2 cp
   have cp:=(hcp.ext hxs).cell
   have hcp3:=hcp.ext hxs
   have hR3:=zh hR hxs
   have hxr3:=hxr.trans hxs
   generalize wr.alloc (.cells #[.int .i64 al,.int .i64 p,.slice B q c'] 38)=w3 at *
   generalize wr.heap.size=G3 at *
   have c3:=bs.cell
   go_upto_region 7 with fail
   obtain⟨z,hz'⟩:∃ z:Nat,Hid (nd % p=z):=⟨_,za rfl⟩
   have hz:((nd:Int) % (p:Int))=(z:Int):=by rw [← hz'.out];exact (Int.natCast_emod nd p).symm
   have hzp:z<16:=by have:=Nat.mod_lt nd (show 0<p by omega);have:=hz'.out;omega
   rw [hz]
   rw [hz'.out] at hT1
   have hxz:=(Ext.refl w3).alloc (.cells #[.int .i64 (z:Int)] 3)
   have h4:=World.ownsRow_lit (base:=w.heap.size) (e:=3) (size:=1) w3 #[.int .i64 (z:Int)] 1 (Nat.le_trans (Nat.le_trans hx2.size hxr3.size) (Nat.le_refl _)) (by decide) rfl
   have hcp4:=hcp3.ext hxz
   have bs4:=bs.ext hxz
   have hR4:=zh hR3 hxz
   have hxr4:=hxr3.trans hxz
   clear c3 cp bs hcp3 hR3 hxr3 hR hxr hcp hxs
   generalize w3.alloc (.cells #[.int .i64 (z:Int)] 3)=w4 at *
   generalize w3.heap.size=G4 at *
   have c4:=bs4.cell
   have hHb:hasB al (l:Nat)=al.testBit l:=by simp [hasB]
   go_upto_if 41 with (go_at_call 165;refine (zca al l hsa _).mono ?_;rw [hHb];rintro e w4 ⟨rfl,rfl⟩)
   go_cut [13] (fun tv wx=>∃ (A':Option Addr) (c2:Nat),tv=.slice A' T.length c2∧Reads wx 0 wx.heap.size 1 A' T.length (zaq T)∧Ext w4 wx)
   case first =>
    cases hbt:al.testBit l
    ·have hTz:T=[z]:=by
      rw [← hT1.out,cho,hal.out,Int.toNat_natCast,hbt];rfl
     subst hTz
     go_wp2_with fail
     go_meet
     exact⟨_,_,rfl,(Reads.of_own h4).more (Nat.zero_le _) (Nat.le_refl _),Ext.refl _⟩
    ·have hTz:T=letters (succ s.edges (z:Nat) (l:Nat)) 32:=by
      rw [← hT1.out,cho,hal.out,Int.toNat_natCast,hbt];rfl
     go_upto_region 8 with fail
     clear c4
     obtain⟨mbs,hmr,hmv⟩:=(HP.out _ (hx2.trans hxr4)).mov
     obtain⟨adM,u,rfl,_,_,hu,hcM⟩:=hmr.one (k:=i) (by omega)
     obtain⟨b,hbi,rfl⟩:∃ b,mbs[i]?=some b∧u=.pointer (some ⟨b,0,none⟩):=by
      have:=hu.out
      simp only [ptrs,List.getElem?_map,Option.map_eq_some_iff] at this
      obtain⟨b,h1,h2⟩:=this
      exact⟨b,h1,h2.symm⟩
     have hmb:=(hmv.2 i b s hbi hs.out).at_
     have s16:Few 16 s.edges:=fun e he=>by
      have:=hsm.out.2.2.1 e he
      have:=hp.out
      omega
     have s1:=succ_sm s16 (Nat.le_refl _) (z:Nat) (l:Nat)
     have cP:=hcp4.cells
     have cS:∀ W,Ext w4 W→∀ q',W.cell? ⟨G3,q',none⟩=#[Value.int .i64 al,.int .i64 p,.slice B q c'][q']?:=fun W hW=>(bs4.ext hW).cell
     have cM:∀ W,Ext w4 W→W.cell? (adM.add i)=some (.pointer (some ⟨b,0,none⟩)):=fun W hW=>hW.cell_some hcM
     have cV:∀ W,Ext w4 W→W.cell? ⟨b,z*6+l,none⟩=some (.int .i64 (succ s.edges (z:Nat) (l:Nat):Nat)):=fun W hW=>hW.cell_some (hmb z l hzp hl)
     have hz16:(z:Int)<16:=by omega
     have hl6:(l:Int)<6:=by omega
     have hp0:¬ (p=0):=by omega
     have hTT:=za hTz
     generalize succ s.edges (z:Nat) (l:Nat)=sc at *
     have hww:=Ext.refl w4
     clear hcM hmb hTz
     refine uR (fun X=>Ext w4 X) [14] (zw.of [0,1,2,3,4,5,6,7,8,9,10,11,12,13,14,15]) ?_
     refine uQ ?_
     (refine zd rfl rfl rfl (fun K hK=>?_);go_simp)
     refine hK.out _ _ hww.drew ?_
     refine pT ?_
     refine uQ ?_
     (refine zd rfl rfl rfl (fun K hK=>?_);go_simp)
     refine (impl_members sc s1 _ (HT.out _ (hx2.trans (hxr4.trans hww.drew)))).mono ?_
     rintro e w5 ⟨A5,c5,rfl,ziy,hx5⟩
     have hww5:=hww.drew.trans hx5
     rw [← hTT.out] at ziy ⊢
     refine hK.out _ _ hww5 ?_
     refine pT ?_
     refine uQ ?_
     refine ze ?_
     go_wp2_with fail
     go_meet
     exact⟨_,_,rfl,(Reads.of_own ziy).more (Nat.zero_le _) (Nat.le_refl _),hww5⟩
   case rest =>
    obtain⟨A',c2,rfl,hT5,hx45⟩:=hcut
    have hR5:=zh hR4 hx45
    have bs5:=bs4.ext hx45
    have hxr5:=hxr4.trans hx45
    have hcp5:=hcp4.ext hx45
    clear h4 hR4 bs4 hxr4 hcp4 hx45 c4
    have hTn:=hT5.len
    have HR5:=za hR5
    obtain⟨AR,cR,rfl⟩:=zg hR5
    have hRr:=Reads.of_own hR5
    have hRlen:R.length≤65536:=by omega
    clear hR5
    go_wp2_with fail
    go_loopw [14,59] (fun mv ia wx=>∃ a:Nat,a≤T.length∧ia=.int .i64 (a:Nat)∧wx.ownsRow wc.heap.size 3 1 mv ((T.take a).flatMap fun q=>R.map fun x=>q*W+x).length (zaq ((T.take a).flatMap fun q=>R.map fun x=>q*W+x))∧Ext wc wx) (fun _ ia _=>T.length - (intOf ia).toNat)
    case atStart=>exact⟨0,Nat.zero_le _,rfl,World.ownsRow_nil _ _ _ _,Ext.refl _⟩
    case round =>
     obtain⟨a,ha,rfl,hmo,hxw⟩:=hrel
     by_cases hat:a<T.length
     ·obtain⟨adT,qv,rfl,_,_,hqv,hqc⟩:=(hT5.ext hxw).one (k:=a) hat
      obtain⟨q1,hq1,rfl⟩:∃ q1,Hid (T[a]?=some q1)∧qv=.int .i64 (q1:Nat):=by
       have:=hqv.out
       simp only [zaq,List.getElem?_map,Option.map_eq_some_iff] at this
       obtain⟨x,h1,h2⟩:=this
       exact⟨x,za h1,h2.symm⟩
      have hq16:=hTlt.out q1 (List.mem_of_getElem? hq1.out)
      have hsn:=za (flat_snoc (fun q=>R.map fun x=>q*W+x) hq1.out)
      have hpl:((T.take a).flatMap fun q=>R.map fun x=>q*W+x).length≤16*65536:=by
       have:∀ L:List Nat,(L.flatMap fun q=>R.map fun x=>q*W+x).length=L.length*R.length:=by
        intro L
        induction L with
        |nil=>simp
        |cons x r ih=>rw [List.flatMap_cons,List.length_append,ih,List.length_map,List.length_cons,Nat.add_mul,Nat.one_mul,Nat.add_comm]
       rw [this,List.length_take]
       exact Nat.mul_le_mul (by omega) hRlen
      generalize (T.take a).flatMap (fun q=>R.map fun x=>q*W+x)=P at *
      go_upto_region 13 with fail
      clear hqc
      go_wp2_with fail
      go_loopw [14,65] (fun mv ib wy=>∃ b:Nat,b≤R.length∧ib=.int .i64 (b:Nat)∧wy.ownsRow wc.heap.size 3 1 mv (P++(R.take b).map fun x=>q1*W+x).length (zaq (P++(R.take b).map fun x=>q1*W+x))∧Ext wc wy) (fun _ ib _=>R.length - (intOf ib).toNat)
      case atStart=>exact⟨0,Nat.zero_le _,rfl,by simpa using hmo,hxw⟩
      case round =>
       obtain⟨b,hb',rfl,hmo3,hxy⟩:=hrel
       by_cases hbt:b<R.length
       ·obtain⟨adR,rv,rfl,_,_,hrv,hrc⟩:=(hRr.ext hxy).one (k:=b) hbt
        obtain⟨r1,hr1,rfl⟩:∃ r1,Hid (R[b]?=some r1)∧rv=.int .i64 (r1:Nat):=by
         have:=hrv.out
         simp only [zaq,List.getElem?_map,Option.map_eq_some_iff] at this
         obtain⟨x,h1,h2⟩:=this
         exact⟨x,za h1,h2.symm⟩
        have hr16:=HRW.out r1 (List.mem_of_getElem? hr1.out)
        have hmul:q1*W≤16*65536:=Nat.mul_le_mul (by omega) (by omega)
        have hPl:(P++(R.take b).map fun x=>q1*W+x).length≤17*65536:=by
         rw [List.length_append,List.length_map,List.length_take]
         omega
        obtain⟨qw,hqw⟩:∃ qw:Nat,Hid (q1*W=qw):=⟨_,za rfl⟩
        have hqwi:(q1:Int)*(W:Int)=(qw:Int):=by rw [← hqw.out];exact (Int.natCast_mul q1 W).symm
        have hsn3:=za (show (P++(R.take (b+1)).map fun x=>q1*W+x)=(P++(R.take b).map fun x=>q1*W+x)++[qw+r1] by
         rw [List.take_add_one,hr1.out,← hqw.out]
         simp)
        rw [hqw.out] at hmul
        generalize P++(R.take b).map (fun x=>q1*W+x)=P3 at *
        go_wp2_with (at_builtin;refine zQ wc wr rfl _ _ _ rfl 3 _ 1 8 Tryz.underlying137 zY rfl (by decide) u14 _ _ _ _ rfl rfl hxy hmo3 rfl (zaI _) (by unfold maxLen;omega) (by omega) ?_;intro v' w1 hext1 ziv hg1 hat1)
        go_roundw
        case rel=>exact⟨b+1,by omega,by go_num,by rw [hsn3.out,List.length_append];simpa [zaq] using ziv,hext1⟩
        case measure=>simp [intOf];omega
       ·obtain rfl:b=R.length:=by omega
        rw [List.take_length] at hmo3
        go_wp2_with fail
        go_roundw
        case rel=>exact⟨a+1,by omega,by go_num,by rw [hsn.out];exact hmo3,hxy⟩
        case measure=>simp [intOf];omega
     ·obtain rfl:a=T.length:=by omega
      rw [List.take_length] at hmo
      have c5:=(bs5.ext hxw).cell
      have hdv:((nd:Int) / (p:Int))=((nd / p:Nat):Int):=(Int.natCast_ediv nd p).symm
      have hwp:W*p≤65536*16:=Nat.mul_le_mul (by omega) (by omega)
      obtain⟨wp,hwp'⟩:∃ wp:Nat,Hid (W*p=wp):=⟨_,za rfl⟩
      have hwpi:(W:Int)*(p:Int)=(wp:Int):=by rw [← hwp'.out];exact (Int.natCast_mul W p).symm
      rw [hwp'.out] at hwp
      have hnx2:=za (show nx (ss.drop i) m l=(T.flatMap (fun q=>R.map fun x=>q*W+x),wp,nd / p) by
       rw [drop_cons hs.out,nx,hnx.out,← hwp'.out,← hT1.out]
       have e:s.st.toNat=p:=by have:=hp.out;omega
       rw [e,hz'.out])
      have hp0:¬ (p=0):=by omega
      have hxx:=hxr5.trans hxw
      have hwc:w.heap.size≤wc.heap.size:=Nat.le_trans hx2.size hxr5.size
      have hmo':=zn hmo hwc
      obtain⟨ndp,hndp⟩:∃ y:Nat,Hid (nd / p=y):=⟨_,za rfl⟩
      rw [hndp.out] at hdv hnx2
      have hnle:ndp≤nd:=by rw [← hndp.out];exact Nat.div_le_self _ _
      go_wp2_with fail
      go_roundw
      case rel=>exact⟨i,ndp,wp,_,by omega,by go_num,by go_num,by go_num,hnx2,hmo',hxx⟩
      case measure=>simp [intOf]
  ·obtain rfl:j=0:=by omega
   have hnx0:=za (show (nx ss m l).1=R by
    have:=hnx.out
    rw [List.drop_zero] at this
    rw [this])
   have hlR:=hfl.out 0
   have h65:=h16.out 0
   rw [List.drop_zero,hnx0.out] at hlR
   rw [List.drop_zero] at h65
   have hO:=HO.out wr (hx2.trans hxr)
   have hww:=hx2.trans hxr
   have hxn:xs.length=n:=by omega
   obtain⟨AR,cR,rfl⟩:=zg hR
   have hRr:=Reads.of_own hR
   have hneg:¬ (0≤(((0:Nat):Int) - 1)):=by omega
   go_wp2_with (at_builtin;refine zeQ wr rfl _ _ 137 rfl base 3 _ 1 8 Tryz.underlying137 zY rfl (by decide) v n xs rfl hO _ _ AR R.length cR (zaq R) rfl hRr (nats_oneC R) (by unfold maxLen;omega) (by omega) (Nat.le_trans hb hww.size) ?_;intro v' w5 ziy hg5 hat5)
   go_ret
   refine⟨v',rfl,by rw [hxn,hnx0.out];exact ziy,hww.toFrm.trans ((Frm.of_grown hg5).mono fun b _ h=>h),?_⟩
   rcases hat5 with h|h
   ·exact .inl h
   ·exact .inr ⟨_,h,hww.size⟩
structure BCaps (w:World) (g8 g10 g11 g12 g13:Nat) (A M UA RA:Option Addr) (k c dm uc rc:Nat) (ss:List Sys) (a p:Aut):Prop where
 h8:Blk w g8 222 #[.slice A k c,.slice M k dm]
 h10:Blk w g10 177 #[.slice UA a.next.length uc]
 h11:Blk w g11 177 #[.slice RA p.next.length rc]
 h12:Blk w g12 3 #[.int .i64 (a.next.length:Nat)]
 h13:Blk w g13 3 #[.int .i64 (p.next.length:Nat)]
 pt:∃ lo hi lo' hi',PtAt w lo hi A k lo' hi' M ss
 tu:∃ lo hi,TbAt w lo hi UA a
 tr:∃ lo hi,TbAt w lo hi RA p
theorem BCaps.ext {w w':World} {g8 g10 g11 g12 g13:Nat} {A M UA RA:Option Addr} {k c dm uc rc:Nat} {ss:List Sys} {a p:Aut}(h:BCaps w g8 g10 g11 g12 g13 A M UA RA k c dm uc rc ss a p)(hx:Ext w w'):BCaps w' g8 g10 g11 g12 g13 A M UA RA k c dm uc rc ss a p:=by
 obtain⟨lo,hi,lo',hi',h1⟩:=h.pt
 obtain⟨lo2,hi2,h2⟩:=h.tu
 obtain⟨lo3,hi3,h3⟩:=h.tr
 exact⟨h.h8.ext hx,h.h10.ext hx,h.h11.ext hx,h.h12.ext hx,h.h13.ext hx,⟨lo,hi,lo',hi',h1.ext hx⟩,⟨lo2,hi2,h2.ext hx⟩,⟨lo3,hi3,h3.ext hx⟩⟩
theorem zdm {ss:List Sys}(h:∀ s∈ss,Sml s):1≤zab (ss.map zeI):=prodN_pos fun m hm=>by
 obtain⟨s,hs,rfl⟩:=List.mem_map.1 hm
 exact zfv (h s hs)
theorem zcE {ss:List Sys}(h:∀ s∈ss,Sml s):zab (ss.map zeI)≤16 ^ ss.length:=by
 have h1:∀ x∈(ss.map zeI).map Prod.fst,x≤16:=fun x hx=>by
  rw [List.map_map] at hx
  obtain⟨s,hs,rfl⟩:=List.mem_map.1 hx
  have h1:=(h s hs).1;have h2:=(h s hs).2.1
  simp only [Function.comp,zeI]
  omega
 have:=prodS_le h1
 simpa [zab] using this
theorem zhn {A M:Option Addr} {k c dm:Nat} {lo hi lo' hi':Nat} {ss:List Sys} {w:World}(h:PtAt w lo hi A k lo' hi' M ss)(hs:∀ s∈ss,Sml s)(hk:k≤3) :
  Calls Tryz.prog 212 #[.agg #[.slice A k c,.slice M k dm]] w fun e w'=>e=.returned (.int .i64 (zab (ss.map zeI):Nat))∧Ext w w':=by
 have HS:=za (fun W (hW:Ext w W)=>h.sys.ext hW)
 have hL:=za h.sys.1
 have Hs:=za hs
 have hb1:=Blk.new w 222 #[.slice A k c,.slice M k dm]
 have hw1:Ext w (w.alloc (.cells #[.slice A k c,.slice M k dm] 222)):=(Ext.refl w).alloc _
 have Hp:=za (show ∀ j,1≤zab ((ss.take j).map zeI)∧zab ((ss.take j).map zeI)≤4096 from fun j=>by
  have h1:∀ s∈ss.take j,Sml s:=fun s hs'=>hs s (List.mem_of_mem_take hs')
  refine⟨zdm h1,Nat.le_trans (zcE h1) ?_⟩
  have h2:(ss.take j).length≤3:=by rw [List.length_take];have:=h.sys.1;omega
  calc 16 ^ (ss.take j).length≤16 ^ 3:=Nat.pow_le_pow_right (by omega) h2
   _=4096:=by decide)
 clear hs h
 go_enter Tryz.func212,Tryz.ntmps212
 go_upto_region 1 with fail
 generalize w.alloc (.cells #[.slice A k c,.slice M k dm] 222)=w1 at *
 have c1:=hb1.cell
 go_wp2_with fail
 go_loopw [3,5,9] (fun v _ i wr=>∃ j y:Nat,i=.int .i64 j∧j≤k∧v=.int .i64 y∧y≤4096∧Hid (y=zab ((ss.take j).map zeI))∧Ext w wr) (fun _ _ i _=>k - (intOf i).toNat)
 case atStart=>exact⟨0,1,rfl,Nat.zero_le _,rfl,by omega,rfl,hw1⟩
 case round =>
  obtain⟨j,y,rfl,hj,rfl,hy,hyo,hx⟩:=hrel
  by_cases hlt:j<k
  ·obtain⟨b,o,s,B,q,d,rfl,_,_,hs,c0,c1,c2,_⟩:=(HS.out wr hx).sys hlt
   have hss:=Hs.out s (List.mem_of_getElem? hs.out)
   obtain⟨p,hp⟩:∃ p:Nat,Hid (s.st=p):=⟨s.st.toNat,by have:=hss.1;unfold Hid;omega⟩
   have hst:=za (show zab ((ss.take (j+1)).map zeI)=y*p by
    rw [List.take_add_one,hs.out,Option.toList_some,List.map_append,zcc,← hyo.out]
    simp [zab,zaz,zeI,hp.out])
   have hle:=(Hp.out (j+1)).2
   rw [hst.out] at hle
   obtain⟨z,hz⟩:∃ z:Nat,Hid (y*p=z):=⟨_,rfl⟩
   have hzi:(y:Int)*(p:Int)=(z:Int):=by rw [← hz.out];exact (Int.natCast_mul y p).symm
   rw [hz.out] at hle hst
   rw [hp.out] at c1
   clear hss
   go_wp2_with fail
   go_roundw
   case rel=>exact⟨j+1,z,by go_num,by omega,by go_num,hle,hst.symm,by first|exact hx.alloc _|exact (hx.alloc _).drew⟩
   case measure=>simp [intOf];omega
  ·obtain rfl:k=j:=by omega
   have zio:=za (show y=zab (ss.map zeI) by rw [hyo.out,List.take_of_length_le (by have:=hL.out;omega)])
   go_wp2
   go_ret
   exact⟨zB (by rw [zio.out]),hx⟩
structure GCaps (w:World) (g4 ga g5 g12 g13:Nat) (a p:Aut):Prop where
 h4:Blk w g4 187 #[.pointer (some ⟨ga,0,none⟩)]
 ha:∃ (B:Option Addr) (m d:Nat) (B':Option Addr) (m' d' lo hi:Nat),Blk w ga 31 #[.int .i64 a.al,.slice B m d,.slice B' m' d']∧zG w lo hi B m B' m' a
 h5:∃ (B:Option Addr) (m d:Nat) (B':Option Addr) (m' d' lo hi:Nat),Blk w g5 31 #[.int .i64 p.al,.slice B m d,.slice B' m' d']∧zG w lo hi B m B' m' p
 h12:Blk w g12 3 #[.int .i64 (a.next.length:Nat)]
 h13:Blk w g13 3 #[.int .i64 (p.next.length:Nat)]
theorem GCaps.ext {w w':World} {g4 ga g5 g12 g13:Nat} {a p:Aut}(h:GCaps w g4 ga g5 g12 g13 a p)(hx:Ext w w'):GCaps w' g4 ga g5 g12 g13 a p:=by
 obtain⟨B,m,d,B',m',d',lo,hi,h1,h2⟩:=h.ha
 obtain⟨C,n,c,C',n',c',lo',hi',h3,h4⟩:=h.h5
 exact⟨h.h4.ext hx,⟨B,m,d,B',m',d',lo,hi,h1.ext hx,h2.ext hx⟩,⟨C,n,c,C',n',c',lo',hi',h3.ext hx,h4.ext hx⟩,h.h12.ext hx,h.h13.ext hx⟩
theorem zcN {w:World} {lo hi q:Nat} {B B':Option Addr} {m m':Nat} {a:Aut}(h:zG w lo hi B m B' m' a)(hq:q<m'):∃ ad,B'=some ad∧w.cell? (ad.add q)=some (.bool (zbr a q)):=by
 obtain⟨ad,x,rfl,_,_,hx,hc⟩:=h.2.2.bool hq
 exact⟨ad,rfl,by rw [hc];unfold zbr;rw [List.getD_eq_getElem?_getD,hx.out];rfl⟩
theorem brk_goal {g4 ga g5 g12 g13 x:Nat} {a p:Aut} {w:World}(h:GCaps w g4 ga g5 g12 g13 a p)(hv:zi a=true)(hp:zi p=true)(hx:x≤4611686018427387904) :
  Calls Tryz.prog 211 #[.int .i64 (x:Nat),.pointer (some ⟨g4,0,none⟩),.pointer (some ⟨g13,0,none⟩),.pointer (some ⟨g12,0,none⟩),.pointer (some ⟨g5,0,none⟩)] w fun e w'=>e=.returned (.bool (zbr a (x / p.next.length % a.next.length)&&!zbr p (x % p.next.length)))∧Ext w w':=by
 obtain⟨_,⟨a1,a2⟩,a3,_⟩:=zj hv
 obtain⟨_,⟨p1,p2⟩,p3,_⟩:=zj hp
 obtain⟨B,m,d,B',m',d',lo,hi,ha,hA⟩:=h.ha
 obtain⟨C,n,c,C',n',c',lo',hi',h5,hP⟩:=h.h5
 have hm':=hA.n2
 have hn':=hP.n2
 have h4:=h.h4
 have h12:=h.h12
 have h13:=h.h13
 clear h hv hp
 generalize hNa:a.next.length=N at *
 generalize hNp:p.next.length=Mp at *
 have hN0:x / Mp % N<N:=Nat.mod_lt _ a1
 have hM0:x % Mp<Mp:=Nat.mod_lt _ p1
 obtain⟨ad,rfl,hc1⟩:=zcN hA (q:=x / Mp % N) (by omega)
 obtain⟨ad2,rfl,hc2⟩:=zcN hP (q:=x % Mp) (by omega)
 have hdv:(x:Int) / (Mp:Int)=((x / Mp:Nat):Int):=(Int.natCast_ediv x Mp).symm
 have hmd:((x / Mp:Nat):Int) % (N:Int)=((x / Mp % N:Nat):Int):=(Int.natCast_emod _ N).symm
 have hmd2:(x:Int) % (Mp:Int)=((x % Mp:Nat):Int):=(Int.natCast_emod x Mp).symm
 have hxd:x / Mp≤4611686018427387904:=Nat.le_trans (Nat.div_le_self _ _) hx
 have hN1:¬ (N=0):=by omega
 have hM1:¬ (Mp=0):=by omega
 have hqm:x / Mp % N<m':=by omega
 have hqn:x % Mp<n':=by omega
 have K4:=h4.cell 0
 have Ka:=ha.cell
 have K5:=h5.cell
 have K12:=h12.cell 0
 have K13:=h13.cell 0
 clear h4 h12 h13 ha h5 hA hP hm' hn' a3 p3 hNa hNp hN0 hM0 a1 a2 p1 p2
 generalize x / Mp % N=q1 at *
 generalize x % Mp=q2 at *
 generalize x / Mp=xd at *
 have hq1:(q1:Int)<(m':Int):=by omega
 have hq2:(q2:Int)<(n':Int):=by omega
 generalize zbr a q1=b1 at *
 generalize zbr p q2=b2 at *
 cases b1
 all_goals
  go_enter Tryz.func211,Tryz.ntmps211
  go_wp2_with fail
  go_quiet (fail)
  go_wp2_with fail
  go_ret
  exact⟨zk (by simp),(Ext.refl _).drewN _⟩
def zbQ (ss:List Sys) (a p:Aut) (x l:Nat):List Nat:=(nx ss (x / p.next.length / a.next.length) l).1.map fun y=>y*a.next.length*p.next.length+(aGo a (x / p.next.length % a.next.length) l*p.next.length+aGo p (x % p.next.length) l)
theorem zdS (ss:List Sys) (a p:Aut):zbQ ss a p=pnx (zbc ss [a,p]):=by
 funext x l
 rw [zbQ,zbc,List.map_cons,List.map_cons,List.map_nil,pnx_under]
theorem mix_set {xs R:List Nat} {f:Nat→Nat} {j r:Nat}(hr:R[j]?=some r):(zaq (xs++(R.take j).map f++R.drop j)).set (xs.length+j) (.int .i64 (f r:Nat))=zaq (xs++(R.take (j+1)).map f++R.drop (j+1)):=by
 have hj:=(List.getElem?_eq_some_iff.1 hr).1
 have hd:R.drop j=r :: R.drop (j+1):=by
  have:=(List.getElem?_eq_some_iff.1 hr).2
  rw [← this]
  exact List.drop_eq_getElem_cons hj
 unfold zaq
 rw [← List.map_set]
 congr 1
 rw [List.take_add_one,hr,Option.toList_some,List.map_append,hd,List.set_append_right _ _ (by simp;omega)]
 have:xs.length+j - (xs++(R.take j).map f).length=0:=by simp;omega
 rw [this]
 simp
theorem mix_get {xs R:List Nat} {f:Nat→Nat} {j r:Nat}(hr:R[j]?=some r):(zaq (xs++(R.take j).map f++R.drop j))[xs.length+j]?=some (.int .i64 (r:Nat)):=by
 have hj:=(List.getElem?_eq_some_iff.1 hr).1
 unfold zaq
 rw [List.getElem?_map,List.getElem?_append_right (by simp;omega)]
 have:xs.length+j - (xs++(R.take j).map f).length=0:=by simp;omega
 rw [this,List.getElem?_drop,Nat.add_zero,hr]
 rfl
def RetBrk (w:World) (base:Nat) (v:Value) (ys:List Nat) (e:Ending) (w':World):Prop:=∃ A' c',e=.returned (.slice A' ys.length c')∧w'.ownsRow base 3 1 (.slice A' ys.length c') ys.length (zaq ys)∧Frm (fun b=>v.ownBlock=some b) w w'
theorem brk_next {w0 w:World} {g8 g10 g11 g12 g13 base x l m c c0 k dm uc rc:Nat} {A M UA RA Ao:Option Addr} {ss:List Sys} {a p:Aut} {xs:List Nat}(h:BCaps w0 g8 g10 g11 g12 g13 A M UA RA k c dm uc rc ss a p)(hT:Tab w0)(hw:Ext w0 w)(hs:∀ s∈ss,Sml s)(hk:k≤3)(hv:zi a=true)(hp:zi p=true)
  (hx:x<zab (zbc ss [a,p])) (hl:l<6) (hb0:w0.heap.size≤base) (hb:base≤w.heap.size) (hm:m≤1099511627776) (zil:w.ownsRow base 3 1 (.slice Ao m c0) m (zaq xs)) :
  Calls Tryz.prog 209 #[.int .i64 (x:Nat),.int .i64 (l:Nat),.slice Ao m c0,.pointer (some ⟨g10,0,none⟩),.pointer (some ⟨g13,0,none⟩),.pointer (some ⟨g12,0,none⟩),.pointer (some ⟨g11,0,none⟩),.pointer (some ⟨g8,0,none⟩)] w (RetBrk w base (.slice Ao m c0) (xs++zbQ ss a p x l)):=by
 obtain⟨_,⟨a1,a2⟩,_,_⟩:=zj hv
 obtain⟨_,⟨p1,p2⟩,_,_⟩:=zj hp
 have hgu:=za (fun q (hq:q<a.next.length)=>zdC hv hq hl)
 have hgp:=za (fun q (hq:q<p.next.length)=>zdC hp hq hl)
 have hN4:zab (zbc ss [a,p])≤4096*144:=by
  have h1:zbc ss [a,p]=ss.map zeI++[zdB a,zdB p]:=rfl
  rw [h1,zcc]
  have h2:=zcE hs
  obtain⟨lo,hi,lo',hi',h3⟩:=h.pt
  have h4:16 ^ ss.length≤4096:=by
   calc 16 ^ ss.length≤16 ^ 3:=Nat.pow_le_pow_right (by omega) (by have:=h3.sys.1;omega)
    _=4096:=by decide
  have h5:zab [zdB a,zdB p]≤144:=by
   simp only [zab,zaz,zdB,List.map_cons,List.map_nil,Nat.mul_one]
   exact Nat.mul_le_mul a2 p2
  exact Nat.mul_le_mul (Nat.le_trans h2 h4) h5
 have hmemlt:=za (fun y hy=>pnx_lt (ms:=zbc ss [a,p]) (x:=x) (fun mm hmm=>by
  rcases List.mem_append.1 hmm with h1|h1
  ·obtain⟨s,hs',rfl⟩:=List.mem_map.1 h1
   exact zfv (hs s hs')
  ·obtain⟨b,hb',rfl⟩:=List.mem_map.1 h1
   simp at hb'
   rcases hb' with rfl|rfl
   ·exact zde hv
   ·exact zde hp) hl y hy)
 have hnxl:=za (nx_len hs (x / p.next.length / a.next.length) l)
 have hDe:=za (show zbQ ss a p x l=(nx ss (x / p.next.length / a.next.length) l).1.map fun y=>y*a.next.length*p.next.length+(aGo a (x / p.next.length % a.next.length) l*p.next.length+aGo p (x % p.next.length) l) from rfl)
 have Hlt:=za (show ∀ y∈zbQ ss a p x l,y<589824 from fun y hy=>by
  rw [zdS] at hy
  have:=hmemlt.out y hy
  omega)
 have HC:=za (fun W (hW:Ext w0 W)=>h.ext hW)
 have hpt:∃ lo hi lo' hi',∀ W,Ext w0 W→PtAt W lo hi A k lo' hi' M ss:=by
  obtain⟨lo,hi,lo',hi',h3⟩:=h.pt
  exact⟨lo,hi,lo',hi',fun W hW=>h3.ext hW⟩
 obtain⟨lo,hi,lo',hi',hpt⟩:=hpt
 have Hpt:=za hpt
 have HT:=za (fun W (hW:Ext w0 W)=>hT.ext hW)
 have Hs:=za hs
 clear h hT hs hv hp hmemlt hpt
 obtain⟨N,hN⟩:∃ N,Hid (a.next.length=N):=⟨_,rfl⟩
 obtain⟨Mp,hMp⟩:∃ Mp,Hid (p.next.length=Mp):=⟨_,rfl⟩
 rw [hN.out] at a1 a2 hgu hnxl hDe
 rw [hMp.out] at p1 p2 hgp hnxl hDe
 have hN0:x / Mp % N<N:=Nat.mod_lt _ a1
 have hM0:x % Mp<Mp:=Nat.mod_lt _ p1
 have hu:=hgu.out _ hN0
 have hr:=hgp.out _ hM0
 obtain⟨ug,uo,rfl,hcu⟩:∃ g o,UA=some ⟨g,o,none⟩∧∀ W,Ext w0 W→W.cell? ⟨g,o+x / Mp % N*6+l,none⟩=some (.int .i64 (aGo a (x / Mp % N) l:Nat)):=by
  obtain⟨l1,h1,htb⟩:=(HC.out w0 (Ext.refl _)).tu
  obtain⟨g,o,e,hc⟩:=htb.at_ (q:=x / Mp % N) (by rw [hN.out];exact hN0) hl
  exact⟨g,o,e,fun W hW=>hW.cell_some hc⟩
 obtain⟨rg,ro,rfl,hcr⟩:∃ g o,RA=some ⟨g,o,none⟩∧∀ W,Ext w0 W→W.cell? ⟨g,o+x % Mp*6+l,none⟩=some (.int .i64 (aGo p (x % Mp) l:Nat)):=by
  obtain⟨l1,h1,htb⟩:=(HC.out w0 (Ext.refl _)).tr
  obtain⟨g,o,e,hc⟩:=htb.at_ (q:=x % Mp) (by rw [hMp.out];exact hM0) hl
  exact⟨g,o,e,fun W hW=>hW.cell_some hc⟩
 have hdv:(x:Int) / (Mp:Int)=((x / Mp:Nat):Int):=(Int.natCast_ediv x Mp).symm
 have hdv2:((x / Mp:Nat):Int) / (N:Int)=((x / Mp / N:Nat):Int):=(Int.natCast_ediv _ N).symm
 have hmd:((x / Mp:Nat):Int) % (N:Int)=((x / Mp % N:Nat):Int):=(Int.natCast_emod _ N).symm
 have hmd2:(x:Int) % (Mp:Int)=((x % Mp:Nat):Int):=(Int.natCast_emod x Mp).symm
 have hxs:x≤589824:=by omega
 have hxd:x / Mp≤589824:=Nat.le_trans (Nat.div_le_self _ _) hxs
 have hxe:x / Mp / N≤589824:=Nat.le_trans (Nat.div_le_self _ _) hxd
 have hN1:¬ (N=0):=by omega
 have hM1:¬ (Mp=0):=by omega
 have hmulu:aGo a (x / Mp % N) l*Mp≤12*12:=Nat.mul_le_mul (by omega) (by omega)
 obtain⟨rest,hrest⟩:∃ z:Nat,Hid (aGo a (x / Mp % N) l*Mp+aGo p (x % Mp) l=z):=⟨_,rfl⟩
 obtain⟨um,hum⟩:∃ z:Nat,Hid (aGo a (x / Mp % N) l*Mp=z):=⟨_,rfl⟩
 have hummi:((aGo a (x / Mp % N) l:Nat):Int)*(Mp:Int)=(um:Int):=by rw [← hum.out];exact (Int.natCast_mul _ Mp).symm
 rw [hum.out] at hmulu
 have hrest2:rest=um+aGo p (x % Mp) l:=by rw [← hrest.out,hum.out]
 have Hrest2:=za hrest2
 clear hrest2
 rw [hrest.out] at hDe
 generalize aGo a (x / Mp % N) l=au at *
 generalize aGo p (x % Mp) l=ap at *
 generalize x / Mp % N=q1 at *
 generalize x % Mp=q2 at *
 generalize hxE:x / Mp / N=xe at *
 have HxE:=za hxE
 clear hxE
 generalize x / Mp=xd at *
 clear hgu hgp hrest hum
 have hq1:(q1:Int)<(N:Int):=by omega
 have hq2:(q2:Int)<(Mp:Int):=by omega
 have hli:(l:Int)<6:=by omega
 have K10:∀ W,Ext w0 W→∀ i,W.cell? ⟨g10,i,none⟩=#[Value.slice (some ⟨ug,uo,none⟩) N uc][i]?:=fun W hW=>by have:=(HC.out W hW).h10.cell;rw [hN.out] at this;exact this
 have K11:∀ W,Ext w0 W→∀ i,W.cell? ⟨g11,i,none⟩=#[Value.slice (some ⟨rg,ro,none⟩) Mp rc][i]?:=fun W hW=>by have:=(HC.out W hW).h11.cell;rw [hMp.out] at this;exact this
 have K12:∀ W,Ext w0 W→∀ i,W.cell? ⟨g12,i,none⟩=#[Value.int .i64 (N:Nat)][i]?:=fun W hW=>by have:=(HC.out W hW).h12.cell;rw [hN.out] at this;exact this
 have K13:∀ W,Ext w0 W→∀ i,W.cell? ⟨g13,i,none⟩=#[Value.int .i64 (Mp:Nat)][i]?:=fun W hW=>by have:=(HC.out W hW).h13.cell;rw [hMp.out] at this;exact this
 have K8:∀ W,Ext w0 W→∀ i,W.cell? ⟨g8,i,none⟩=#[Value.slice A k c,Value.slice M k dm][i]?:=fun W hW=>(HC.out W hW).h8.cell
 have Hk:=za (And.intro K10 (And.intro K11 (And.intro K12 (And.intro K13 K8))))
 have Hcc:=za (And.intro hcu hcr)
 have hxsl:xs.length=m:=by have:=zdK zil;simp [zaq] at this;omega
 have Hxsl:=za hxsl
 clear K10 K11 K12 K13 K8 hcu hcr hxsl
 have hR16:=za (show (nx ss xe l).1.length≤4096 from Nat.le_trans hnxl.out (by
  obtain hh:=(Hpt.out w hw).sys.1
  calc 16 ^ ss.length≤16 ^ 3:=Nat.pow_le_pow_right (by omega) (by omega)
   _=4096:=by decide))
 have CN:=za (fun W (hW:Ext w W)=>impl_next (c:=c) (d:=dm) (m:=xe) (l:=l) (v:=.slice Ao m c0) (n:=m) (xs:=zaq xs) (base:=base) (Hpt.out W (hw.trans hW)) Hs.out (by omega) (by omega) hl (HT.out W (hw.trans hW)) (zh zil hW) (Nat.le_trans hb hW.size) hm)
 have hrl:rest≤1000:=by have:=Hrest2.out;omega
 have hrsti:(um:Int)+(ap:Int)=(rest:Int):=by have:=Hrest2.out;omega
 generalize (nx ss xe l).1=R at *
 have hob:=za (fun b (hb':(Value.slice Ao m c0).ownBlock=some b)=>(zil.lt b hb').1)
 clear hnxl HxE zil
 have hk10:=fun W (hW:Ext w W)=>Hk.out.1 W (hw.trans hW)
 have hk11:=fun W (hW:Ext w W)=>Hk.out.2.1 W (hw.trans hW)
 have hk12:=fun W (hW:Ext w W)=>Hk.out.2.2.1 W (hw.trans hW)
 have hk13:=fun W (hW:Ext w W)=>Hk.out.2.2.2.1 W (hw.trans hW)
 have hk8:=fun W (hW:Ext w W)=>Hk.out.2.2.2.2 W (hw.trans hW)
 have hcu:=fun W (hW:Ext w W)=>Hcc.out.1 W (hw.trans hW)
 have hcr:=fun W (hW:Ext w W)=>Hcc.out.2 W (hw.trans hW)
 have hww:=Ext.refl w
 go_enter Tryz.func209,Tryz.ntmps209
 go_upto_region 1 with fail
 go_cut [12] (fun v wx=>v=.int .i64 (rest:Nat)∧Ext w wx)
 case first =>
  have k10:=hk10 w hww
  have k11:=hk11 w hww
  have k12:=hk12 w hww
  have k13:=hk13 w hww
  have kcu:=hcu w hww
  have kcr:=hcr w hww
  go_quiet (fail)
  go_wp2_with fail
  go_meet
  exact⟨by go_num,hww.drewN _⟩
 case rest =>
  obtain⟨rfl,hxc⟩:=hcut
  clear hcu hcr hk10 hk11
  replace hk8:=fun W (hW:Ext wc W)=>hk8 W (hxc.trans hW)
  replace hk12:=fun W (hW:Ext wc W)=>hk12 W (hxc.trans hW)
  replace hk13:=fun W (hW:Ext wc W)=>hk13 W (hxc.trans hW)
  have hwc:=Ext.refl wc
  go_upto_region 3 with fail
  refine uR (fun X=>Ext wc X) [8] (zw.of [0,1,2,3,4,5,6,7,8,9]) ?_
  refine uQ ?_
  (refine zb rfl rfl rfl rfl (fun K hK=>?_))
  go_simp
  have hqx:IntKind.i64.wrap ((IntKind.i64.wrap (xd:Int)).tdiv (N:Int))=(xe:Int):=by
   rw [zfW xd (by omega),Int.tdiv_eq_ediv_of_nonneg (by omega),hdv2,zfW xe (by omega)]
  rw [hqx]
  refine (CN.out _ (hxc.trans hwc.drew)).mono ?_
  rintro e w5 ⟨v',rfl,ziy,hfr5,hob5⟩
  refine hK.out _ _ ?_
  refine pT ?_
  refine uQ ?_
  refine ze ?_
  rw [show zaq xs++zaq R=zaq (xs++(R.take 0).map (fun y=>y*N*Mp+rest)++R.drop 0) by simp [zaq]] at ziy
  have hl5:(zaq xs).length=m:=by rw [← Hxsl.out];simp [zaq]
  rw [hl5] at ziy
  obtain⟨A5,c5,rfl⟩:=zg ziy
  have hfr:Frm (fun b=>(Value.slice Ao m c0).ownBlock=some b) w w5:=((hxc.trans hwc.drew).toFrm).trans (hfr5.mono fun _ _ h=>h)
  have hgrow:Ext w0 w5:=(hw.toFrm.trans (hfr.mono fun b hb1 hb2=>hb2)).mono (T:=fun _=>False) (fun b hb1 hb2=>by have:=hob.out b hb2;omega)
  have hobx:∀ b,(Value.slice A5 (m+R.length) c5).ownBlock=some b→(Value.slice Ao m c0).ownBlock=some b∨w.heap.size≤b:=fun b hb'=>by
   rcases hob5 with h1|⟨b',h1,h2⟩
   ·rw [h1] at hb';exact Or.inl hb'
   ·rw [h1] at hb'
    have:=Option.some.inj hb'
    have:=(hxc.trans hwc.drew).size
    exact Or.inr (by omega)
  have Hobx:=za hobx
  clear hob5 hobx hk8 hfr5 hk12 hk13 hwc
  have Hx:=za (fun (W:World) (hW:Frm (fun b=>(Value.slice Ao m c0).ownBlock=some b) w W)=>show Ext w0 W from (hw.toFrm.trans (hW.mono fun b _ h=>h)).mono (T:=fun _=>False) (fun b hb1 hb2=>by have:=hob.out b hb2;omega))
  have hmR:m+R.length≤1099511627776+4096:=by have:=hR16.out;omega
  obtain⟨Z,hZ⟩:∃ Z,Hid (m+R.length=Z):=⟨_,rfl⟩
  rw [hZ.out] at hmR ziy
  rw [hZ.out] at Hobx
  rw [hZ.out]
  go_wp2_with fail
  go_loopw [14] (fun i wr=>∃ i' j:Nat,i=.int .i64 (i':Nat)∧Hid (i'=m+j)∧j≤R.length∧wr.ownsRow base 3 1 (.slice A5 Z c5) Z (zaq (xs++(R.take j).map (fun y=>y*N*Mp+rest)++R.drop j))∧Frm (fun b=>(Value.slice Ao m c0).ownBlock=some b) w wr) (fun i _=>Z - (intOf i).toNat)
  case atStart=>exact⟨m,0,rfl,rfl,Nat.zero_le _,ziy,hfr⟩
  case round =>
   clear ziy hfr hgrow
   obtain⟨i,j,rfl,hi,hj,zil,hfr⟩:=hrel
   by_cases hlt:j<R.length
   ·obtain⟨y,hy⟩:∃ y,Hid (R[j]?=some y):=⟨_,za (List.getElem?_eq_getElem hlt)⟩
    have hlty:=Hlt.out (y*N*Mp+rest) (by rw [hDe.out];exact List.mem_map.2 ⟨y,List.mem_of_getElem? hy.out,rfl⟩)
    have hx0:=Hx.out wr hfr
    have hiZ:i<Z:=by have:=hi.out;have:=hZ.out;omega
    obtain⟨g5,rfl⟩:∃ g,A5=some ⟨g,0,none⟩:=by
     rcases zil.2 with ⟨h1,h2⟩|⟨g,cap,cur,h1,_⟩
     ·injection h1;omega
     ·injection h1 with h1;exact⟨g,h1⟩
    have hmg:=za (mix_get (xs:=xs) (f:=fun y=>y*N*Mp+rest) hy.out)
    have hcy:wr.cell? ⟨g5,i,none⟩=some (.int .i64 (y:Nat)):=by
     have:=zil.cellAt i (by omega)
     rw [this,← hmg.out,Hxsl.out,hi.out]
    have hms:=mix_set (xs:=xs) (f:=fun y=>y*N*Mp+rest) hy.out
    rw [Hxsl.out,← hi.out] at hms
    have k12:∀ W,Ext wr W→∀ i,W.cell? ⟨g12,i,none⟩=#[Value.int .i64 (N:Nat)][i]?:=fun W hW=>Hk.out.2.2.1 W (hx0.trans hW)
    have k13:∀ W,Ext wr W→∀ i,W.cell? ⟨g13,i,none⟩=#[Value.int .i64 (Mp:Nat)][i]?:=fun W hW=>Hk.out.2.2.2.1 W (hx0.trans hW)
    have CY:∀ W,Ext wr W→W.cell? ⟨g5,i,none⟩=some (.int .i64 (y:Nat)):=fun W hW=>hW.cell_some hcy
    have hyN:y*N≤y*N*Mp:=Nat.le_mul_of_pos_right _ p1
    obtain⟨yn,hyn⟩:∃ z:Nat,Hid (y*N=z):=⟨_,rfl⟩
    have hyni:(y:Int)*(N:Int)=(yn:Int):=by rw [← hyn.out];exact (Int.natCast_mul y N).symm
    rw [hyn.out] at hlty hms hyN
    obtain⟨ym,hym⟩:∃ z:Nat,Hid (yn*Mp=z):=⟨_,rfl⟩
    have hymi:(yn:Int)*(Mp:Int)=(ym:Int):=by rw [← hym.out];exact (Int.natCast_mul yn Mp).symm
    rw [hym.out] at hlty hms hyN
    have hyr:y≤y*N:=Nat.le_mul_of_pos_right _ a1
    rw [hyn.out] at hyr
    have hiZi:(i:Int)<(Z:Int):=by omega
    have hw1:IntKind.i64.wrap (yn:Int)=(yn:Int):=zfW yn (by omega)
    have hw2:IntKind.i64.wrap (ym:Int)=(ym:Int):=zfW ym (by omega)
    have hw3:IntKind.i64.wrap ((ym:Int)+(rest:Int))=((ym+rest:Nat):Int):=by rw [← Int.natCast_add];exact zfW (ym+rest) (by omega)
    have hww:=Ext.refl wr
    clear hcy hx0
    go_upto_region 7 with fail
    refine uR (fun X=>Ext wr X) [13] (zw.of [0,1,2,3,4,5,6,7,8,9,10,11,12,13]) ?_
    refine uQ ?_
    have ziv:=zh zil hww.drew
    have hfr1:=hfr.ext hww.drew
    clear zil hfr k12 k13 CY hww
    generalize wr.drew=wd at *
    obtain⟨o0,g0⟩:=zbb ziv i (by omega)
    have f0:=ziv.frozenAt i
    have hss:=ziv.stored i (.int .i64 ((ym+rest:Nat):Int))
    rw [hms] at hss
    have hown':=hss.1
    have hfr':Frm (fun b=>(Value.slice Ao m c0).ownBlock=some b) w (wd.setCell ⟨g5,i,none⟩ (.int .i64 ((ym+rest:Nat):Int))):=by
     rcases Hobx.out g5 rfl with h1|h1
     ·exact hfr1.cell (p:=⟨g5,i,none⟩) h1 _
     ·have h2:Frm (fun b=>(Value.slice Ao m c0).ownBlock=some b∨b=g5) w (wd.setCell ⟨g5,i,none⟩ (.int .i64 ((ym+rest:Nat):Int))):=(hfr1.mono fun _ _ h=>Or.inl h).trans ((Frm.setCell wd g5 i _).mono fun _ _ h=>Or.inr h)
      exact h2.mono fun b hb h=>h.elim id (fun e=>by omega)
    clear hss hms ziv
    have hi1:=za (show i+1=m+(j+1) by rw [hi.out];omega)
    (refine zb rfl rfl rfl rfl (fun K hK=>?_))
    go_simp
    refine hK.out _ _ ?_
    refine ze ?_
    first|rw [hw3]|skip
    go_wp2_with fail
    go_roundw
    case rel=>exact⟨i+1,j+1,by go_num,hi1,by omega,hown',hfr'⟩
    case measure=>simp [intOf];omega
   ·obtain rfl:j=R.length:=by omega
    have zio:=za (show wr.ownsRow base 3 1 (.slice A5 (xs++zbQ ss a p x l).length c5) (xs++zbQ ss a p x l).length (zaq (xs++zbQ ss a p x l)) by
     rw [hDe.out,List.length_append,List.length_map,Hxsl.out,hZ.out]
     rw [List.take_length,List.drop_length,List.append_nil] at zil
     exact zil)
    have hlen:(xs++zbQ ss a p x l).length=Z:=by rw [hDe.out,List.length_append,List.length_map,Hxsl.out,hZ.out]
    have hres:=za (show RetBrk w base (.slice Ao m c0) (xs++zbQ ss a p x l) (.returned (.slice A5 Z c5)) wr from ⟨A5,c5,by rw [hlen],zio.out,hfr⟩)
    clear hlen
    have hiZi:¬ (i:Int)<(Z:Int):=by have:=hi.out;have:=hZ.out;omega
    clear zil
    go_wp2
    go_ret
    exact hres.out
end Go.Proofs.YtmjaepibdpfblaaGreatDoor
