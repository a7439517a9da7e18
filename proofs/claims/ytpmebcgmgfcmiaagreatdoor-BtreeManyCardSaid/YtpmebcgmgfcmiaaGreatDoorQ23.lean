/- Texts ChB WrA WrC. -/
import Derived.Test.YtpmebcgmgfcmiaaGreatDoorQ22
import Derived.Deep.CutBlock
set_option linter.all false
set_option maxRecDepth 100000
set_option maxHeartbeats 16000000
namespace Go.Proofs.YtpmebcgmgfcmiaaGreatDoor
open Go.RowKit BT Go.Lib
variable {D:Dsk}{h f pg B N n i W d:Nat}{met m1 m2:List Nat}{key:Bs}{v x k:Value}{ks bet ks1 ks2:List Bs}{xs got xs1 xs2:List Kd}{w:World}{A:Option Addr}{S:Nat→Prop}
theorem qlZ {v:Option Bs}{x:Kd}(hc:ChS D h f met (.page pg) key v ks xs x got bet m1 ks1 xs1 ks2 xs2 m2)(hm:pg∉met) :
  qaS D (f+1) met (.page pg) key v=some (if xs2.length=0 then[]else(cutK (.inner ks2 xs2)).1,if xs2.length=0 then[]else(cutK (.inner ks2 xs2)).2,met++[pg]++m1++m2):=by
 have h1:D pg=some (.inner ks xs):=hc.nd;have h2:=hc.ch;have h3:=hc.mg;simp only[pageOf]at h2 h3;unfold qaS;simp only[qb1,zaB hm,h1,hc.hx,pageOf,h2,hc.eks,hc.exs,h3];split<;>rfl
def nk0 (N:Nat):Kv:=(0,some N)
theorem qhl {w:World}{S:Nat→Prop}:∀ {got:List Kd} {Ns:List Nat} {L:List (Nat×Nat)},NMs w S got Ns L→KM w S got (Ns.map nk0) L
 | [],_,_,⟨h1,h2⟩=>by subst h1 h2;exact qed
 | k::ks,_,_,⟨N,r,L1,L2,h1,h2,h3,h4⟩=>by
  subst h1 h2;exact km_cons.2 ⟨_,_,L1,L2,rfl,rfl,qhl h4,.inr ⟨N,rfl,h3⟩⟩
theorem qkf {w:World}{S:Nat→Prop}:∀ {xs:List Kd} {vs:List Kv} {L:List (Nat×Nat)},(∀ x∈xs,∃ q,x=.page q)→KM w S xs vs L→L=[]
 | [],_,_,_,h=>h.2
 | x::xs,_,_,hp,h=>by
  obtain⟨v,r,L1,L2,rfl,rfl,h1,h2⟩:=km_cons.1 h;have e2:=qkf (fun y hy=>hp y (za6 _ hy)) h1;obtain⟨q,rfl⟩:=hp x (by simp);rcases h2 with⟨p,_,_,e1⟩|⟨N,_,h3⟩
  ·rw[e1,e2];rfl
  ·simp only[NM]at h3
theorem NdQ.base {B':Nat}{leaf:Bool}{c1 c2 c3:Value}{nk nv nx:Nat}{vk vv vx:List Value}(h:NdQ w B N leaf c1 c2 c3 k nk vk v nv vv x nx vx)(hb:B'≤B):NdQ w B' N leaf c1 c2 c3 k nk vk v nv vv x nx vx:=
 ⟨h.nd,zah hb h.lo,h.ko.base hb,h.vo.base hb,h.xo.base hb,h.kN,h.vN,h.xN,h.kv,h.kx,h.vx⟩
theorem qjc {m:Kd}(hb:Body D h m):qjq m=decide (h=0):=by
 cases h with
 | zero=>obtain⟨ps,rfl,_⟩:=hb;rfl
 | succ h=>obtain⟨ks,xs,rfl,_⟩:=hb;rfl
theorem qmD {e:TypeId}{size c:Nat}{xs:List Value}(h:Own w B e size (.slice A n c) n xs)(hn:0<n):∃ C ucs ut,A=some ⟨C,0,none⟩∧w.heap[C]?=some (.cells ucs ut (0,0))∧B≤C:=by
 rcases h.row with hr|⟨A0,e1,e2,_⟩
 ·have Ha:=hr;rcases hr.2 with⟨e1,_⟩|⟨g,cap,cur,e1,_⟩
  ·cases e1;omega
  ·cases e1;obtain⟨_,_,_,h1,_,_,cur2,h2,_⟩:=own_cells Ha;exact⟨g,cur2,_,rfl,h2,h1⟩
 ·omega
theorem qhh {xs:List Value}(h:Own w B 34 1 v n xs)(h1:∀ x∈xs,x.oneCell'=true)(hi:i≤n)(hl:n+1≤1048576){m c:Nat}{us:List Value}(hm:us.length=m)(hm1:m≤1)(hC:m=1→∃ C u,A=some ⟨C,0,none⟩∧us=[u]∧w.heap[C]?=some (.cells #[u] 34 (0,0))∧v.ownBlock≠some C)(hu:∀ x∈us,x.oneCell'=true)(hB:B≤w.heap.size) :
  Calls Tryz.prog 73 #[v,.int .i64 i,.slice A m c] w (fun e w'=>∃ v',e=.returned v'∧Own w' B 34 1 v' (n+m) (xs.take i++us++xs.drop i)∧Upd w w' v v'):=by
 rcases zbN m with h0|h0
 ·subst h0;obtain rfl:=zcg.1 hm;refine(qgB h hi (by omega) A c).mono ?_;rintro e w' ⟨rfl,rfl⟩;exact⟨v,rfl,by simpa using h,Touch.refl _ _,fun b hb=>.inl hb⟩
 ·obtain rfl:m=1:=by omega
  obtain⟨C,u,rfl,rfl,h2,h3⟩:=hC rfl;exact qa1 h h1 hi hl h2 (hu u (by simp)) h3 hB
theorem ql0 {N':Nat}{m1 m2 k' v' x':Value}{a b c:World}(h:Below a.heap.size a b)(e:EvM (MS W m1 N k v x) (MS W m2 N' k' v' x') b c)(hR:∀ y,NB N k v x y→a.heap.size≤y)(hU:∀ y,NB N k v x y→y<b.heap.size):EvM (MW W m1) (MW W m2) a c:=
 ⟨⟨e.touch.os.trans h.os,e.touch.tape.trans h.tape,e.touch.output.trans h.output,zah h.size e.touch.size,fun i hi hn=>
  (e.touch.block i (zam hi h.size) (fun hm=>hm.elim hn (fun h2=>by have:=hR i h2;omega))).trans (h.block i hi)⟩,
  fun i hi=>(e.own i (.inl hi)).elim (fun h2=>h2.elim .inl (fun h3=>.inr ⟨hR i h3,zam (hU i h3) e.touch.size⟩)) (fun h2=>.inr ⟨zah h.size h2.1,h2.2⟩)⟩
def InQ (w2 wx:World)(S3:Nat→Prop)(N3:Nat)(v3 x7:Value)(nx1:Nat)(vx:List Value)(ks1:List Bs):Prop:=
 ∃ k' vk',NdQ wx w2.heap.size N3 false k' v3 x7 k' ks1.length vk' v3 0 [] x7 nx1 vx∧RowV wx S3 vk' ks1∧Below w2.heap.size w2 wx
theorem qgZ {a:PA}{G T:Nat}{F:Nat→Prop}{p:Pl}{g:Pg}{root1:Nat}{mv:Value}(hoff:p.off=false)(ht:TrB w B a G d T F p g root1)(hw:WkM w B W T mv met 0)(hB:B≤w.heap.size)(hS:SOk S (MW W mv) w)
  {q:Nat}{v:Option Bs}(hc:ChS (qah (p.seen d) g.pages g.use) h f met (.page pg) key v ks xs (.page q) got bet m1 ks1 xs1 ks2 xs2 m2)
  (hkids:∀ x∈xs,∃ q,x=.page q)(hpw:ks.Pairwise fun a b=>blt a b=true){c:Nat}{val:Value}(hkb:ByS w S A key)(hkl:key.length=n)(hvm:VaM w S val v)(hm:pg∉met)(hl:met.length+1+m1.length≤450)
  (IH:∀ {w':World} {mv':Value} {S':Nat→Prop},TrB w' B a G d T F p g root1→WkM w' B W T mv' (met++[pg]) 0→B≤w'.heap.size→SOk S' (MW W mv') w'→ByS w' S' A key→VaM w' S' val v→
   Calls Tryz.prog 57 #[.pointer (some ⟨W,0,none⟩),.agg #[.int .i64 (q:Nat),.pointer none],.slice A n c,val] w' (ChF S' B W T mv' got bet (met++[pg]++m1) w')) :
  Calls Tryz.prog 57 #[.pointer (some ⟨W,0,none⟩),.agg #[.int .i64 (pg:Nat),.pointer none],.slice A n c,val] w
   (ChF S B W T mv (if xs2.length=0 then[]else(cutK (.inner ks2 xs2)).1) (if xs2.length=0 then[]else(cutK (.inner ks2 xs2)).2) (met++[pg]++m1++m2) w):=by
 have HW:=zH hw;have HT:=zH ht;have HS:=zH hS;have KO:=zH hkb;have K5:=zH hvm;have HC:=zH hc;have KP:=zH hkids;have KQ:=zH hl;have HM:Below w.heap.size w (w.alloc (.cells #[.int .i64 (pg:Int),.pointer none] 102)):=zB _ _;have HY:=zH HM;have Ko:=zH (qb0 (HT.o.ev HW.o (Ev.below HM)) (HW.o.below HM) (zah hB HM.size) hoff (show qah (p.seen d) g.pages g.use pg=_ from hc.nd) hm (by omega));unfold LdF at Ko;have KL:Hd (∀ (w':World) (mv':Value) (S':Nat→Prop),TrB w' B a G d T F p g root1→WkM w' B W T mv' (met++[pg]) 0→B≤w'.heap.size→SOk S' (MW W mv') w'→ByS w' S' A key→VaM w' S' val v→
   Calls Tryz.prog 57 #[.pointer (some ⟨W,0,none⟩),.agg #[.int .i64 (q:Nat),.pointer none],.slice A n c,val] w' (ChF S' B W T mv' got bet (met++[pg]++m1) w')):=zH (fun _ _ _ h1 h2 h3 h4 h5 h6=>IH h1 h2 h3 h4 h5 h6)
 have hZ:=hc.sz;have kg:=qaN ks;have hQ:ks.length≤500:=by simp only[nsize]at hZ;omega
 have Kc:xs.length≤260:=by simp only[nsize]at hZ;omega
 have hX:=zH hpw;clear ht hw hS hkb hvm HM hc hkids hl IH hZ kg hpw hm;obtain⟨fg,hfg⟩:∃ z,(if xs2.length=0 then[]else(cutK (.inner ks2 xs2)).1)=z:=⟨_,rfl⟩;obtain⟨fb,hfb⟩:∃ z,(if xs2.length=0 then[]else(cutK (.inner ks2 xs2)).2)=z:=⟨_,rfl⟩;rw[hfg,hfb];have Kl:=zH hfg;have Kk:=zH hfb;clear hfg hfb;go_enter Tryz.func57,Tryz.ntmps57
 go_upto_region 4 with(go_at_call 38;refine Ko.o.mono ?_;rintro e w1 ⟨N,L,mv1,rfl,hwk,hev,hnm,hsl⟩;have hJ:=zH hwk;have Kj:=zH hev;have KV:=zH hnm;clear hwk hev hnm hsl)
 have E1:EvM (MW W mv) (MW W mv1) w w1:=((Ev.below (W:=W) (mv:=mv) HY.o).trans Kj.o).evm;have H6:=zH E1;have Kz:=zH ((HT.o.ev HW.o (Ev.below HY.o)).ev (HW.o.below HY.o) Kj.o);have Hx:NM w1 (Grow S (MW W mv1) w w1) (.inner ks xs) N L:=NM.mono (fun b hb=>.inr ⟨zah HY.o.size hb.1,hb.2.1,fun hm=>hm.elim hb.2.2.1 hb.2.2.2⟩) _ _ _ KV.o;have hs:=zH (HS.o.grow E1);have KS:=zH Hx;have KB:B≤w1.heap.size:=zah hB E1.touch.size;have Hv:ByS w1 (Grow S (MW W mv1) w w1) A key:=(KO.o.same (Same.of_touch E1.touch HS.o.ap)).mono fun _ h=>.inl h;have HU:VaM w1 (Grow S (MW W mv1) w w1) val v:=by
  have h:=K5.o;cases v with
  | none=>exact h
  | some l=>
   obtain⟨ad,c2,e1,e2,e3⟩:=h;exact⟨ad,c2,e1,e2,(e3.same (Same.of_touch E1.touch HS.o.ap)).mono fun _ h=>.inl h⟩
 have hg:=zH Hv;have hH:=zH HU;obtain⟨i,hi⟩:∃ i,down ks key=i:=⟨_,rfl⟩;obtain⟨nk,hnk⟩:∃ i,ks.length=i:=⟨_,rfl⟩;obtain⟨nx,hnx⟩:∃ i,xs.length=i:=⟨_,rfl⟩;have HI:=zH hi;have HJ:=zH hnk;have ho:=zH hnx;rw[hnk]at hQ;rw[hnx]at Kc;have kp:i<nx:=by rw[←hnx,←hi];exact(zae.1 HC.o.hx).1
 simp only[NM]at Hx;obtain⟨hSN,K,ck,V,cv,X,cx,vk,vs,L',hnc,hsk,hrk,hsx,HP,-⟩:=Hx;rw[hnk]at hnc hsk;rw[hnx]at hnc hsx;have H5:=zH (qeL hnc c hsk hrk hnk hX.o Hv.by_ hkl (by omega));unfold DnF at H5;rw[hi]at H5;have Kb:=HC.o.hx;rw[hi]at Kb;obtain⟨v0,L0,hv0,hk0,-⟩:=qiN HP Kb;obtain rfl:v0=((q:Int),none):=by
  rcases hk0 with⟨p',hp',e,_⟩|⟨N',_,hN'⟩
  ·cases hp';exact e
  ·simp only[NM]at hN'
 obtain⟨xb,xo,rfl,-,hxat⟩:=hsx.at_ (by omega);obtain⟨oi,hoi⟩:∃ o,xo+i*2=o:=⟨_,rfl⟩;have g0:=hnc.c0;have g3:=hnc.c3;have K7:w1.cell? ⟨xb,oi,none⟩=some (.int .i64 (q:Int)):=by rw[←hoi];exact hxat _ _ (qbm hv0)
 have K8:w1.cell? ⟨xb,oi+1,none⟩=some (.pointer none):=by rw[←hoi,zbV];exact hxat _ _ (qbn hv0)
 have hW:xo+2*i=oi:=by omega
 have kd:(i:Int)<(nx:Int):=by omega
 have hP:¬((nx:Int)≤(i:Int)):=by omega
 clear Hv HU E1 hi hnk hnx hnc hsk hrk hsx HP Kb hv0 hk0 hxat hSN;go_upto_region 10 with(go_at_call 39;refine H5.o.mono ?_;rintro e w' ⟨rfl,rfl⟩)
 have Ke:=zH (KL.o w1 mv1 _ Kz.o hJ.o KB hs.o hg.o hH.o);unfold ChF at Ke;go_upto_region 13 with(go_at_call 57;refine Ke.o.mono ?_;rintro e w2 ⟨mv2,gv,bv,Lg,S2,rfl,hgot,hwk,hev,hso,hgr,hslo⟩;have H9:=zH hgot;have Hr:=zH hwk;have Hc:=zH hev;have ha:=zH hgr;have HK:=zH hslo;have kj:=hwk.c2;clear hgot hwk hev hso hgr hslo)
 have Ki:=zH (H6.o.trans Hc.o);have K0:=zH (Kz.o.touch Hc.o.touch (fun b hb=>hb.elim (fun e=>by rw[e];exact hJ.o.lo) (fun e=>(hJ.o.own.blk b e).1)));have Hy:=KS.o.evm hs.o Hc.o;have Hz:=hs.o.grow Hc.o;have Hu:=Grow.trans (S:=S) H6.o.touch.size Hc.o;have Ht:=ha.o;have HX:w1.heap.size≤w2.heap.size:=Hc.o.touch.size;obtain⟨S3,hS3⟩:∃ S3,Grow (Grow S (MW W mv1) w w1) (MW W mv2) w1 w2=S3:=⟨_,rfl⟩;rw[hS3]at Hy Hz Hu Ht;have Hj:=zH Hz;have he:=zH Hu;have Hp:=zH Ht;have HL:=zH HX;obtain⟨GA,gc,BA,bc,Ns,vb,rfl,rfl,hgc,hbc,hNs,hsg,hns,hsb,hrb,hb1⟩:=H9.o.ex;have KE:=HC.o.gt.len;have Hs:got.length≤2∧bet.length≤1:=by
  rcases KE with⟨e,e'⟩|⟨_,e,e'⟩|⟨_,_,_,e,e'⟩<;>rw[e,e']<;>simp
 have HA:=hrb.len;obtain⟨ng,hng⟩:∃ z,got.length=z:=⟨_,rfl⟩;obtain⟨nb,Ho⟩:∃ z,bet.length=z:=⟨_,rfl⟩;rw[hng]at hgc hNs hsg Hs⊢;rw[Ho]at hbc hsb hb1 HA Hs⊢;obtain⟨hng2,hnb1⟩:=Hs;have Kq:=zH hng;have KT:=zH Ho;have KZ:=zH hsg;have KX:=zH hns;have Kx:=zH hrb;have KI:=zH hb1;have Kr:=zH hNs;have hE:=zH HA;simp only[NM]at Hy;obtain⟨-,K2,ck2,V2,cv2,X2,cx2,vk2,vs2,L2',hnc2,hsk2,hrk2,hsx2,hkm2,-⟩:=Hy;obtain rfl:L2'=[]:=qkf KP.o hkm2;rw[HJ.o]at hnc2 hsk2;rw[ho.o]at hnc2 hsx2;have Kf:=zH (qdM hnc2 hsk2 (SrcS.mk' (S:=S3) (A:=V2) (n:=0) (size:=1) (us:=[]) rfl (fun h0=>by omega)) hsx2 (fun u hu=>hrk2.one_cell u hu) (fun u hu=>by cases hu) (kcells_one vs2) (by omega) (by omega) (by omega));unfold ClF at Kf;have Hg:=zH hrk2;have HF:=zH hkm2;clear Hz Hu Ht HX KE hng Ho hsg hns hrb hb1 hNs HA hnc2 hsk2 hsx2 hrk2 hkm2 hS3 hsb kj g0 g3 K7 K8 hoi hW kd hP;go_upto_region 14 with(go_at_call 71;refine Kf.o.mono ?_;rintro e w3 ⟨N3,K3,ck3,V3,cv3,X3,cx3,rfl,hO,hB⟩;have Kw:=zH hO.q;have H2:=zH hB;clear hO hB)
 have hA:=zH (KZ.o.below H2.o);obtain⟨i0,hi0,hz0,hz1,HE⟩:=zaT qcF;go_wp2;go_loopw [14,67] (fun s14 i wr=>∃ j:Nat,i=.int .i64 j∧j≤ng∧Own wr w3.heap.size 102 2 s14 j (((Ns.take j).map nk0).flatMap qaI)∧(j=0→s14=.slice none 0 0)∧Below w3.heap.size w3 wr) (fun _ i _=>ng-(RowKit.intOf i).toNat)
 case atStart=>exact⟨0,rfl,za7 _,by simpa using Own.nil _ _ _ _,fun _=>rfl,zai _ _⟩
 case round=>
  rename World=>wr;obtain⟨j,rfl,hj,hO,hz,hBr⟩:=hrel;obtain⟨A14,c14,rfl,hc14⟩:=hO.slice;have HO:=zH hO;have HZ:=zH hz;have HB:=zH hBr;clear hO hz hBr;by_cases hlt:j<ng
  ·obtain⟨Nj,hNj⟩:∃ N,Ns[j]?=some N:=⟨_,zaa (by have:=Kr.o;omega)⟩;obtain⟨gb,go_,rfl,-,hgat⟩:=(hA.o.below HB.o).at_ (by omega);have gj:=hgat j (qdj Nj) (by rw[zbc,hNj];rfl);unfold qdj at gj;obtain⟨oj,hoj⟩:∃ o,go_+j=o:=⟨_,rfl⟩;rw[hoj]at gj;have kq:(j:Int)<(ng:Int):=by omega
   have ke:¬((ng:Int)≤(j:Int)):=by omega
   have KU:=zH hNj;clear hgat hNj;go_wp2_with (at_builtin;refine qai rfl (.tmp 71) (.tmp 74) 104 rfl w3.heap.size 102 i0 _ 2 16 Tryz.underlying104 hi0 hz0 hz1 HE rfl (by decide) (.slice A14 j c14) j _ rfl (HO.o.below (zac _) (zB _ _)) (some ⟨wr.heap.size,0,none⟩) 1 1 [.int .i64 0,.pointer (some ⟨Nj,0,none⟩)] rfl (qaE (zaf wr (.cells #[.int .i64 0,.pointer (some ⟨Nj,0,none⟩)] 102)) rfl) (by simp;exact⟨rfl,rfl⟩) (by unfold maxLen;omega) (by omega) (zah HB.o.size (by simp)) ?_;intro A6 cap6 w6 hrow6 hgrow6;have KY:=zH hrow6;have KK:=zH hgrow6;clear hrow6 hgrow6)
   refine⟨⟨j+1,by simp,by omega,?_,fun h=>by omega,(HB.o.alloc HB.o.size _).trans KK.o⟩,by simp[RowKit.intOf];omega⟩;rw[zbK,KU.o,zbZ,zbD,zat];exact KY.o
  ·obtain rfl:j=ng:=by omega
   obtain⟨us,hus⟩:∃ l,(Ns.map nk0).flatMap qaI=l:=⟨_,rfl⟩;have hO:=HO.o;rw[zbe (by have:=Kr.o;omega),hus]at hO;have Ks:=zH hO;have K4:=zH hus;have K1:=zH (show ∀ u∈us,u.oneCell'=true by rw[←hus];exact kcells_one _);have H4:Hd (Below w2.heap.size w2 wr):=zH (H2.o.trans (HB.o.mono H2.o.size));have Hi:=zH (Kw.o.below HB.o);have K6:=zH (show ∀ C,(Value.slice X3 nx cx3).ownBlock=some C→C<w3.heap.size from fun C e=>(Kw.o.xo.blk C e).2);obtain⟨i1,hi1⟩:∃ q,i+1=q:=⟨_,rfl⟩;have ky:IntKind.i64.wrap ((i:Int)+1)=(i1:Int):=by rw[zaJ _ (by omega)];omega
   obtain⟨nN,hnN⟩:∃ q,i+j+(nx-i1)=q:=⟨_,rfl⟩;have Ky:=zH (qei (i:=i) (j:=i1) (m:=j) (N:=nN) (A:=A14) c14 Hi.o.xo (kcells_one vs2) (by omega) (by omega) hnN (by omega) (by omega) Ks.o.row.src K1.o
    (fun h0=>by
     obtain⟨C,ucs,ut,e1,e2,e3⟩:=qmD Ks.o h0;exact⟨C,0,ucs,ut,e1,e2,fun e=>by have:=K6.o C e;omega⟩) (fun h0=>(Value.slice.inj (HZ.o h0)).1) H4.o.size)
   unfold RkF at Ky;have Km:=zH hi1;have KW:=zH hnN;have K9:=Hi.o.c3';clear hO hus hi1 hnN;go_upto_block 2 with(go_at_call 75;go_loud (refine Ky.o.mono ?_;rintro e W7 ⟨v7,rfl,ho7,hu7⟩;obtain⟨A7,c7,rfl,hc7⟩:=ho7.slice;have Kt:=zH ho7;have hD:=zH hu7;have Hw:=(hu7.touch.block N3 Hi.o.lt Hi.o.xN).trans Hi.o.nd;have hL:W7.cell? ⟨N3,3,none⟩=some (.slice X3 nx cx3):=(zan _ _ _ _ _ _ Hw).trans rfl;have kb:W7.frozen? ⟨N3,3,none⟩=false:=zaQ _ _ _ _ _ Hw;clear ho7 hu7 Hw))
   have Ha:=zH ((Hi.o.updX Kt.o hD.o).st3 (.slice A7 nN c7));have He:Hd (Below w2.heap.size w2 (W7.setCell ⟨N3,3,none⟩ (.slice A7 nN c7))):=zH ((qan H4.o H4.o.size hD.o.touch (fun b e _=>(Hi.o.xo.blk b e).1)).setCell (p:=⟨N3,3,none⟩) Hi.o.lo _);clear Kt hD hL kb K9 Hi;generalize W7.setCell ⟨N3,3,none⟩ (.slice A7 nN c7)=W8 at Ha He⊢;have kf:i≤nk:=by have:=HC.o.lx;have:=HJ.o;have:=ho.o;omega
   obtain⟨vx7,hvx7⟩:∃ l,(vs2.flatMap qaI).take (i*2)++us++(vs2.flatMap qaI).drop (i1*2)=l:=⟨_,rfl⟩;rw[hvx7]at Ha;have hI:=zH hvx7;clear hvx7;go_cut [89,103,17] (fun _ _ _ wx=>InQ w2 wx S3 N3 (.slice V3 0 cv3) (.slice A7 nN c7) nN vx7 ks1)
   case first=>
    have Hl:=HC.o.eks;rw[Kq.o,HI.o]at Hl;by_cases hg0:0<j
    ·rw[zaw hg0]at Hl;have kn:(0:Int)<(j:Int):=by omega
     have KN:=zH (qhh (i:=i) (A:=BA) (c:=bc) (m:=nb) (us:=vb) Ha.o.ko Hg.o.one_cell kf (by omega) hE.o (by omega) (fun e=>by
      obtain⟨C,u,e1,e2,e3,e4⟩:=KI.o e;have hl:=Hj.o.lt C (Hp.o C e4);exact⟨C,u,e1,e2,(He.o.block C hl).trans e3,fun h=>by have:=(Ha.o.ko.blk C h).1;omega⟩) Kx.o.one_cell He.o.size)
     have ka:=Ha.o.c1';go_wp2_with (go_at_call 73;go_loud (refine KN.o.mono ?_;rintro e W9 ⟨v9,rfl,ho9,hu9⟩;obtain⟨A9,c9,rfl,hc9⟩:=ho9.slice;have hp:=zH ho9;have HD:=zH hu9;have Hb:=(hu9.touch.block N3 Ha.o.lt Ha.o.kN).trans Ha.o.nd;have hM:W9.cell? ⟨N3,1,none⟩=some (.slice K3 nk ck3):=(zan _ _ _ _ _ _ Hb).trans rfl;have kc:W9.frozen? ⟨N3,1,none⟩=false:=zaQ _ _ _ _ _ Hb;clear ho9 hu9 Hb))
     go_meet
     case rel=>
      have hR:ks1.length=nk+nb:=by
       have:=HJ.o;have:=KT.o;rw[←Hl];simp only[zad,zag,zap];omega
      refine⟨_,vk2.take i++vb++vk2.drop i,by rw[hR];exact(Ha.o.updK hp.o HD.o).st1 _,?_,(qan He.o He.o.size HD.o.touch (fun b e _=>(Ha.o.ko.blk b e).1)).setCell (p:=⟨N3,1,none⟩) Ha.o.lo _⟩;rw[←Hl];have HN:Below w2.heap.size w2 (W9.setCell ⟨N3,1,none⟩ (.slice A9 (nk+nb) c9)):=(qan He.o He.o.size HD.o.touch (fun b e _=>(Ha.o.ko.blk b e).1)).setCell (p:=⟨N3,1,none⟩) Ha.o.lo _;have hr:=Hg.o.same (Same.of_below HN);have kh:=(Kx.o.mono Hp.o).same (Same.of_below HN);exact((hr.split i).1.append kh).append (hr.split i).2
    ·rw[zaB hg0]at Hl;obtain rfl:j=0:=by omega
     have ka:=Ha.o.c1';by_cases hk0:nk=0
     ·subst hk0;go_wp2;go_meet
      case rel=>
       have e0:ks=[]:=zcg.1 HJ.o;have e1:ks1=[]:=by rw[←Hl,e0];rfl
       subst e1;exact⟨_,vk2,Ha.o,by rw[←e0];exact Hg.o.same (Same.of_below He.o),He.o⟩
     ·have kr:(0:Int)<(nk:Int):=by omega
      obtain⟨i2,hi2⟩:∃ q,i-1=q:=⟨_,rfl⟩;obtain⟨i3,hi3⟩:∃ q,i2+1=q:=⟨_,rfl⟩;have ku:IntKind.i64.wrap ((i:Int)-1)=(i:Int)-1:=zaJ _ (by omega);have kt:max (0:Int) ((i:Int)-1)=(i2:Int):=by omega
      have kw:IntKind.i64.wrap ((i2:Int)+1)=(i3:Int):=by rw[zaJ _ (by omega)];omega
      have Kh:=zH (qcY (i:=i2) Ha.o.ko Hg.o.one_cell (by omega) (by omega));rw[hi3]at Kh;have Kn:=zH hi3;rw[hi2]at Hl;clear hi2 hi3;go_wp2_with (go_at_call 72;go_loud (refine Kh.o.mono ?_;rintro e W9 ⟨v9,rfl,ho9,hu9⟩;obtain⟨A9,c9,rfl,hc9⟩:=ho9.slice;have hp:=zH ho9;have HD:=zH hu9;have Hb:=(hu9.touch.block N3 Ha.o.lt Ha.o.kN).trans Ha.o.nd;have hM:W9.cell? ⟨N3,1,none⟩=some (.slice K3 nk ck3):=(zan _ _ _ _ _ _ Hb).trans rfl;have kc:W9.frozen? ⟨N3,1,none⟩=false:=zaQ _ _ _ _ _ Hb;clear ho9 hu9 Hb))
      go_meet
      case rel=>
       have hR:ks1.length=nk-1:=by
        have:=HJ.o;have:=Kn.o;rw[←Hl,zcx,zaw (by omega)];omega
       have HN:Below w2.heap.size w2 (W9.setCell ⟨N3,1,none⟩ (.slice A9 (nk-1) c9)):=(qan He.o He.o.size HD.o.touch (fun b e _=>(Ha.o.ko.blk b e).1)).setCell (p:=⟨N3,1,none⟩) Ha.o.lo _;refine⟨_,vk2.take i2++vk2.drop i3,by rw[hR];exact(Ha.o.updK hp.o HD.o).st1 _,?_,HN⟩;have hr:=Hg.o.same (Same.of_below HN);rw[←Hl,zbR,Kn.o];exact(hr.split i2).1.append (hr.split i3).2
   case rest=>
    rename World=>wx;obtain⟨k1,vk1,hq,hr,hb⟩:=hcut;have Hk:=HC.o.exs;have hN:=HC.o.sz1;have hV:=HC.o.mg;rw[HI.o]at Hk hV;have KG:xs1.length=nN:=by
     have:=ho.o;have:=Kq.o;have:=KW.o;have:=Km.o;rw[←Hk];simp only[zad,zag,zap];omega
    obtain⟨vs1,hvs1⟩:∃ l,vs2.take i++Ns.map nk0++vs2.drop i1=l:=⟨_,rfl⟩;have HV:vx7=vs1.flatMap qaI:=by
     rw[←hI.o,←hvs1,←K4.o,zat,zat,qfW,qfV]
    have HP:KM wx S3 xs1 vs1 Lg:=by
     obtain⟨L1,L2,e,q1,_⟩:=qdy i HF.o;obtain⟨L3,L4,e2,_,q2⟩:=qdy (i+1) HF.o;obtain⟨rfl,rfl⟩:=zck.1 e.symm;obtain⟨rfl,rfl⟩:=zck.1 e2.symm;have q3:=qch (qch q1 (KM.mono Hp.o _ _ _ (qhl KX.o))) q2;rw[←Hk,←hvs1,←Km.o];simpa using KM.below q3 hb
    have Hh:∀ b,MW W mv2 b→b<w2.heap.size:=fun b h=>h.elim (fun e=>by rw[e];exact Hr.o.lt) (fun e=>(Hr.o.own.blk b e).2);have Ho:∀ b,NB N3 k1 (.slice V3 0 cv3) (.slice A7 nN c7) b→w2.heap.size≤b:=fun b h=>by
     rcases h with h|h|h|h
     ·rw[h];exact hq.lo
     ·exact(hq.ko.blk b h).1
     ·exact(hq.vo.blk b h).1
     ·exact(hq.xo.blk b h).1
    have KC:B≤w2.heap.size:=zah KB HL.o;have Hm:MgI wx B W T mv2 (met++[pg]++m1) N3 k1 vk1 (.slice V3 0 cv3) (.slice A7 nN c7) vs1 ks1 xs1 Lg S3:=⟨Hr.o.below hb,by rw[KG,←HV];exact hq.base KC,hr,HP,
     ⟨fun b h=>zam (Hj.o.lt b h) hb.size,fun b h hm=>hm.elim (Hj.o.ap b h) (fun h2=>by have:=Ho b h2;have:=Hj.o.lt b h;omega)⟩,fun b h h2=>by have:=Ho b h2;have:=Hh b h;omega⟩
    have KF:=K0.o.touch (Touch.of_below (F:=fun _=>False) hb) (fun _ h=>h.elim);have HQ:ks1.length≤500:=by have:=(qbS (ks:=ks1) HC.o.row1.keys).1;omega
    have Kp:=zH (qjs KF (zah KC hb.size) hoff Hm (lf:=decide (h=0)) (i:=i) (at_:=i-1) (tq:=i+1) (f:=xs1.length+i+3) rfl rfl (by omega) hV (by omega) (fun y hy=>by
     obtain⟨m,y1,y2,y3⟩:=HC.o.row1.kids y hy;exact⟨m,y1,qjc y2,y3⟩) (fun z hz=>by have:=(HC.o.row1.keys z hz).2;omega) (by simp only[zad,zao,zaZ];have:=KQ.o;omega) HQ)
    unfold MgF at Kp;have HH:=zH Ho;have hn:=zH Hm.nbLt;have KR:=zH Hh;have H0:=zH hb;clear Hk hN hV KG hvs1 HV HP Hh Ho Hm KF HQ hq hr hb;go_upto_region 27 with(go_at_call 76;refine Kp.o.mono ?_;rintro e w4 ⟨mv3,k3,vk3,x3,vs3,L3,S4,rfl,Hm,hev,hgr,hsl,hnb3⟩;obtain⟨X4,c4,rfl,hc4⟩:=Hm.q.xo.slice;have Hf:=zH Hm;have H8:=zH hev;have hd:=zH hgr;have hC:=zH hsl;have hh:=zH hnb3;have gW:=Hm.wk.c2;have gX:=Hm.q.c3';clear Hm hev hgr hsl hnb3)
    have H7:=zH (ql0 H0.o H8.o HH.o hn.o);have H1:=zH (Ki.o.trans H7.o);have HE:w.heap.size≤w2.heap.size:=Ki.o.touch.size;have KH:w2.heap.size≤w4.heap.size:=H7.o.touch.size;have HG:=zH (show ∀ b,NB N3 k3 (.slice V3 0 cv3) (.slice X4 xs2.length c4) b→w2.heap.size≤b from fun b hb=>(hh.o b hb).elim (HH.o b) (zah H0.o.size));have hK:=zH (And.intro HE KH);obtain⟨nx2,hnx2⟩:∃ z,xs2.length=z:=⟨_,rfl⟩;have Hq:=zH hnx2;rw[hnx2]at gX;clear hnx2 HE KH;by_cases h0:nx2=0
    ·subst h0;obtain rfl:=Kl.o.symm.trans (zaw Hq.o);obtain rfl:=Kk.o.symm.trans (zaw Hq.o);go_wp2;refine zbs (v:=.tuple #[.slice none 0 0,.slice none 0 0]) (by simp[results,Tryz.results57,go_sem]) rfl ?_;exact⟨mv3,_,_,[],Grow S (MW W mv3) w w4,rfl,Got.none _ _,Hf.o.wk,H1.o,HS.o.grow H1.o,fun b hb=>hb,Slo.nil _ _⟩
    ·have hY:¬xs2.length=0:=by rw[Hq.o];exact h0
     obtain rfl:=Kl.o.symm.trans (zaB hY);obtain rfl:=Kk.o.symm.trans (zaB hY);have Hn:=HC.o.row2.len (fun e=>hY (by rw[e];rfl));have Ka:=HC.o.sz2;obtain⟨X5,hX5,hnm5⟩:=Hf.o.q.inner rfl rfl (S:=fun b=>S4 b∨NB N3 k3 (.slice V3 0 cv3) (.slice X4 xs2.length c4) b) (.inr (.inl rfl)) (fun b e=>.inr (.inr (.inl e))) (fun b e=>.inr (.inr (.inr (.inr e)))) (Hf.o.rk.mono fun b h=>.inl h) rfl (KM.mono (fun b h=>.inl h) _ _ _ Hf.o.km);have Kg:=zH (qiz hnm5 Hn (by simp only[nsize];omega) (fun h=>by
      have hk:=qbS (ks:=ks2) HC.o.row2.keys;simp only[nsize,BT.nk]at h⊢;omega))
     unfold CutF at Kg;have KA:=zH hX5;clear Hn Ka hX5 hnm5;have kk:¬((nx2:Int)=0):=by omega
     go_wp2_with (go_at_call 74;refine Kg.o.mono ?_;rintro e w5 ⟨gv,bv,L5,rfl,hg5,hp5,hb5⟩;have KJ:=zH hg5;have Ku:=zH hp5;have H3:=zH hb5;clear hg5 hp5 hb5)
     refine zbs (v:=.tuple #[gv,bv]) (by simp[results,Tryz.results57,go_sem]) rfl ?_;have KD:EvM (MW W mv3) (MW W mv3) w4 w5:=EvM.below H3.o;have HR:Slo w.heap.size [] L3:=by
      have h1:=HK.o.trans hC.o (zah HL.o H0.o.size);exact h1.base H6.o.touch.size
     have hz:=hK.o;refine⟨mv3,gv,bv,L5,Grow S (MW W mv3) w w5,rfl,Got.mono (fun b hb=>?_) KJ.o,Hf.o.wk.below H3.o,H1.o.trans KD,HS.o.grow (H1.o.trans KD),fun b hb=>hb,⟨fun y hy=>.inr ?_,fun _=>?_⟩⟩
     ·have hU:MW W mv3 b→b<w4.heap.size:=fun h=>h.elim (fun e=>by rw[e];exact Hf.o.wk.lt) (fun e=>(Hf.o.wk.own.blk b e).2);have ki:=H3.o.size;rcases hb with(hb|hb)|hb
      ·rcases hd.o b hb with h3|⟨h3,h4,h5⟩
       ·rcases he.o b h3 with h6|⟨h6,h7,h8⟩
        ·exact .inl h6
        ·exact .inr ⟨h6,by omega,fun hm=>(H7.o.own b hm).elim h8 (fun h9=>by omega)⟩
       ·have:=H0.o.size;exact .inr ⟨by omega,by omega,fun hm=>h5 (.inl hm)⟩
      ·have h3:=HG.o b hb;have h4:=Hf.o.nbLt b hb;exact .inr ⟨by omega,by omega,fun hm=>Hf.o.ap b hm hb⟩
      ·exact .inr ⟨by omega,hb.2,fun hm=>by have:=hU hm;omega⟩
     ·rcases zar.1 (Ku.o.mem_iff.1 hy)with h|h
      ·cases X5 with
       | none=>simp[slotsAt]at h
       | some ad=>
        obtain⟨z,_,rfl⟩:=zbg.1 h;have:=HG.o ad.block (.inr (.inr (.inr (KA.o ad rfl))));show w.heap.size≤ad.block;omega
      ·exact(HR.mem y h).elim (fun h=>by cases h) id
     ·refine Ku.o.nodup_iff.2 (zaD.2 ⟨qbU _ _,HR.nd zch,fun y hy z HE e=>?_⟩);subst e;cases X5 with
      | none=>simp[slotsAt]at hy
      | some ad=>
       obtain⟨z,_,rfl⟩:=zbg.1 hy;exact Hf.o.so.ap _ (KM.slots _ _ _ Hf.o.km _ HE) (.inr (.inr (.inr (.inr (KA.o ad rfl)))))
def Typed (w:World)(L:List (Nat×Nat)):Prop:=∀ y∈L,(∃ n,w.cell? ⟨y.1,y.2,none⟩=some (.int .i64 n))∧∃ p,w.cell? ⟨y.1,y.2+1,none⟩=some (.pointer p)
theorem SrcS.typed {w:World}{S:Nat→Prop}{X:Option Addr}{n:Nat}{vs:List Kv}(h:SrcS w S 2 X n (vs.flatMap qaI)):Typed w (slotsAt X n):=fun y hy=>by
 cases X with
 | none=>simp[slotsAt]at hy
 | some a=>
  obtain⟨j,hj,rfl⟩:=zbg.1 hy;have hj:=zbb.1 hj;obtain⟨b,off,e,_,hc⟩:=h.at_ (by omega);cases e;have hl:vs.length=n:=by have:=h.src.len;rw[qcg]at this;omega
  obtain⟨v,hv⟩:∃ v,vs[j]?=some v:=⟨_,zaa (by omega)⟩;have h1:=hc _ _ (qbm hv);have h2:=hc _ _ (qbn hv);exact⟨⟨_,h1⟩,⟨_,by rw[←zbV]at h2;exact h2⟩⟩
mutual
theorem NM.typed {S:Nat→Prop}{w:World}:∀ (k:Kd) (N:Nat) (L:List (Nat×Nat)),NM w S k N L→Typed w L
 | .page _,N,L,hn=>by simp only[NM]at hn
 | .leaf ps,N,L,hn=>by
  simp only[NM]at hn;rw[hn.1];intro y hy;cases hy
 | .inner ks xs,N,L,hn=>by
  simp only[NM]at hn;obtain⟨a2,K,ck,V,cv,X,cx,vk,vs,L',b1,b2,b3,b4,b5,rfl⟩:=hn;intro x hx;rcases zar.1 hx with hx|hx
  ·exact b4.typed x hx
  ·exact KM.typed xs vs L' b5 x hx
theorem KM.typed {S:Nat→Prop}{w:World}:∀ (xs:List Kd) (vs:List Kv) (L:List (Nat×Nat)),KM w S xs vs L→Typed w L
 | [],vs,L,hk=>by
  simp only[KM]at hk;rw[hk.2];intro y hy;cases hy
 | x::xs,vs,L,hk=>by
  simp only[KM]at hk;obtain⟨v,r,L1,L2,rfl,rfl,h1,h2⟩:=hk;intro y hy;rcases zar.1 hy with hy|hy
  ·rcases h2 with⟨p,_,_,rfl⟩|⟨N,e,h2⟩
   ·cases hy
   ·exact NM.typed x N L1 h2 y hy
  ·exact KM.typed xs r L2 h1 y hy
end
def CL (L:List (Nat×Nat))(b i:Nat):Prop:=∃ y∈L,b=y.1∧(i=y.2∨i=y.2+1)
theorem qgm {L1 L2:List (Nat×Nat)}(t1:Typed w L1)(t2:Typed w L2)(hd:∀ x∈L2,x∉L1):∀ x∈L2,¬CL L1 x.1 x.2∧¬CL L1 x.1 (x.2+1):=fun x hx=>by
 obtain⟨⟨n2,c1⟩,⟨p2,c2⟩⟩:=t2 x hx;constructor
 ·rintro⟨y,hy,e1,e2⟩;obtain⟨⟨n1,d1⟩,⟨p1,d2⟩⟩:=t1 y hy;rcases e2 with e2|e2
  ·exact hd x hx (by rw[show x=y from Prod.ext e1 e2];exact hy)
  ·rw[e1,e2,d2]at c1;cases c1
 ·rintro⟨y,hy,e1,e2⟩;obtain⟨⟨n1,d1⟩,⟨p1,d2⟩⟩:=t1 y hy;rcases e2 with e2|e2
  ·rw[e1,e2,d1]at c2;cases c2
  ·exact hd x hx (by rw[show x=y from Prod.ext e1 (by omega)];exact hy)
theorem qkV {L:List (Nat×Nat)}(h:Typed w L):∀ b i v,S b→CL L b i→w.cell? ⟨b,i,none⟩=some v→(∃ n,v=.int .i64 n)∨∃ p,v=.pointer p:=fun b i v _ hc hv=>by
 obtain⟨y,hy,rfl,e⟩:=hc;obtain⟨⟨n1,d1⟩,⟨p1,d2⟩⟩:=h y hy;rcases e with rfl|rfl
 ·rw[d1]at hv;cases hv;exact .inl ⟨_,rfl⟩
 ·rw[d2]at hv;cases hv;exact .inr ⟨_,rfl⟩
theorem CL.mono {L L':List (Nat×Nat)}(h:∀ y∈L,y∈L'){b:Nat}(hc:CL L b i):CL L' b i:=by
 obtain⟨y,hy,e⟩:=hc;exact⟨y,h y hy,e⟩
theorem qfm (d pages:Nat)(was:Bs):∀ (a b:List Kd) (s:Ws),wrPs d pages was (a++b) s=((wrPs d pages was a s).1++(wrPs d pages was b (wrPs d pages was a s).2).1,(wrPs d pages was b (wrPs d pages was a s).2).2)
 | [],b,s=>by simp[wrPs]
 | x::a,b,s=>by
  simp only[zaW,wrPs];rw[qfm d pages was a b]
theorem qeU:∀ (l:List Wt) (p:Pl),(qax p l).2.waits.length≤p.waits.length+l.length
 | [],p=>by simp[qax]
 | x::l,p=>by
  rw[qc0];have h0:(p.give x).2.waits.length≤p.waits.length+1:=by
   unfold Pl.give;split
   ·simp
   ·rw[step_waits];omega
  split
  ·have:=qeU l (p.give x).2;simp only[zao];omega
  ·simp only[zao];omega
theorem qcu (d n:Nat)(b:Bs):(qaj d n b).length=8:=by simp[qaj]
theorem qf5 (d pages:Nat)(was b:Bs)(s:Ws):(putW d pages was b s).2.p.waits.length≤s.p.waits.length+8∧(putW d pages was b s).2.put.length≤s.put.length+1:=by
 unfold putW;split
 ·simp
 ·split
  ·simp
  ·rename_i n _;have:=qeU (qaj d n b) s.p;rw[qcu]at this;split
   ·exact⟨this,by simp⟩
   ·exact⟨this,by simp⟩
mutual
theorem qhP (d pages:Nat)(was:Bs):∀ (k:Kd) (s:Ws),(wrP d pages was k s).2.p.waits.length≤s.p.waits.length+8*news k∧(wrP d pages was k s).2.put.length≤s.put.length+news k
 | .page p,s=>by simp[wrP,news]
 | .leaf ps,s=>by
  have:=qf5 d pages was (encK (.leaf ps)) s;simp only[wrP,news];omega
 | .inner ks xs,s=>by
  have h1:=qc5 d pages was xs s;have h2:=qf5 d pages was (encK (.inner ks ((wrPs d pages was xs s).1.map fun(i:Int)=>Kd.page i.toNat))) (wrPs d pages was xs s).2;simp only[wrP,news];omega
theorem qc5 (d pages:Nat)(was:Bs):∀ (xs:List Kd) (s:Ws),(wrPs d pages was xs s).2.p.waits.length≤s.p.waits.length+8*qaq xs∧(wrPs d pages was xs s).2.put.length≤s.put.length+qaq xs
 | [],s=>by simp[wrPs,qaq]
 | x::xs,s=>by
  have h1:=qhP d pages was x s;have h2:=qc5 d pages was xs (wrP d pages was x s).2;simp only[wrPs,qaq];omega
end
theorem qaQ:∀ (a b:List Kd),qaq (a++b)=qaq a+qaq b
 | [],b=>by simp[qaq]
 | x::a,b=>by simp only[zaW,qaq,qaQ a b];omega
theorem qeA {pages:Nat}{was b:Bs}{s:Ws}(hp:pages≤384)(h:(putW d pages was b s).2.e=0):s.e=0∧∃ n:Nat,(putW d pages was b s).1=(n:Int)∧n<384∧qaC pages s.use was=some n:=by
 have hs:s.e=0:=by
  by_cases h0:s.e=0
  ·exact h0
  ·rw[qck _ _ _ _ _ h0]at h;exact h
 refine⟨hs,?_⟩;unfold putW at h⊢;rw[zaB (by omega)]at h⊢;cases hf:qaC pages s.use was with
 | none=>rw[hf]at h;cases h
 | some n=>
  rw[hf]at h;simp only at h⊢;split at h
  ·rename_i hg;rw[zaw hg];exact⟨n,rfl,by have:=(qaT hf).1;omega,rfl⟩
  ·cases h
theorem qmq {d pages:Nat}{was:Bs}(hp:pages≤384):∀ (k:Kd) (s:Ws),(∀ p,k=.page p→p<65536)→(wrP d pages was k s).2.e=0→∃ n:Nat,(wrP d pages was k s).1=(n:Int)∧n<65536
 | .page p,s,h,_=>⟨p,rfl,h p rfl⟩
 | .leaf ps,s,_,h=>by
  obtain⟨_,n,h1,h2,_⟩:=qeA hp (by simpa only [wrP] using h);exact⟨n,by simpa only [wrP] using h1,by omega⟩
 | .inner ks xs,s,_,h=>by
  obtain⟨_,n,h1,h2,_⟩:=qeA hp (by simpa only [wrP] using h);exact⟨n,by simpa only [wrP] using h1,by omega⟩
theorem qi6 {d pages:Nat}{was:Bs}(hp:pages≤384):∀ (xs:List Kd) (s:Ws),(∀ x∈xs,∀ p,x=.page p→p<65536)→(wrPs d pages was xs s).2.e=0→∃ pl:List Nat,(wrPs d pages was xs s).1=pl.map (fun(n:Nat)=>(n:Int))∧pl.length=xs.length∧∀ q∈pl,q<65536
 | [],s,_,_=>⟨[],rfl,rfl,by simp⟩
 | x::xs,s,h,he=>by
  simp only[wrPs]at he⊢;have h1:(wrP d pages was x s).2.e=0:=by
   by_cases h0:(wrP d pages was x s).2.e=0
   ·exact h0
   ·rw[qcW _ _ _ _ _ h0]at he;exact he
  obtain⟨n,e1,e2⟩:=qmq hp x s (h x (by simp)) h1;obtain⟨pl,f1,f2,f3⟩:=qi6 hp xs _ (fun y hy=>h y (za6 _ hy)) he;refine⟨n::pl,by rw[e1,f1];rfl,by simp[f2],fun q hq=>?_⟩;rcases za0.1 hq with rfl|hq
  ·exact e2
  ·exact f3 q hq
section
def WT (F:Nat→Prop)(G W PT:Nat)(pv:Value):Nat→Prop:=fun b=>GF F G b∨b=W∨b=PT∨pv.ownBlock=some b
def WX (F:Nat→Prop)(G W T PT:Nat)(mv pv:Value):Nat→Prop:=fun b=>WT F G W PT pv b∨b=T∨b=1∨mv.ownBlock=some b
structure WrI (w:World) (a:PA) (G d T:Nat) (F:Nat→Prop) (g:Pg) (root1 B W PT:Nat) (mv:Value) (met:List Nat) (pv:Value) (s:Ws):Prop where
 tr:TrM w a G d T F s.p { g with use:=s.use } root1
 wk:WkM w B W T mv met (s.e:Int)
 pt:w.heap[PT]?=some (.cells #[pv] 23 (0,0))
 po:Own w B 3 1 pv s.put.length (nums s.put)
 ag:∀ b,GF F G b→b≠W∧b≠PT∧pv.ownBlock≠some b∧mv.ownBlock≠some b
 aW:W≠PT∧pv.ownBlock≠some W∧pv.ownBlock≠some PT∧mv.ownBlock≠some PT
 am:∀ b,pv.ownBlock=some b→mv.ownBlock≠some b
 bT:T<B∧1<B∧B≤PT
 off:s.e=0→s.p.off=false
variable {w w':World} {a:PA} {G d T:Nat} {F F':Nat→Prop} {g:Pg} {root1 B W PT:Nat} {mv:Value} {met:List Nat} {pv pv':Value} {s:Ws}
theorem WrI.ptlt (h:WrI w a G d T F g root1 B W PT mv met pv s):PT<w.heap.size:=(zab.1 h.pt).1
theorem WrI.touch (h:WrI w a G d T F g root1 B W PT mv met pv s){H:Nat→Prop}(ht:Touch H w w')(hd:∀ b,WX F G W T PT mv pv b→¬H b):WrI w' a G d T F g root1 B W PT mv met pv s:=
 ⟨⟨h.tr.pg.touch ht (fun b hb=>hd b (.inl (.inl hb))) (hd 1 (.inr (.inr (.inl rfl)))),(ht.block T h.tr.lt (hd T (.inr (.inl rfl)))).trans h.tr.t,h.tr.nT⟩,
  ⟨(ht.block W h.wk.lt (hd W (.inl (.inr (.inl rfl))))).trans h.wk.nd,h.wk.lo,h.wk.own.touch ht (fun b e=>hd b (.inr (.inr (.inr e)))),h.wk.mW⟩,
  (ht.block PT h.ptlt (hd PT (.inl (.inr (.inr (.inl rfl)))))).trans h.pt,h.po.touch ht (fun b e=>hd b (.inl (.inr (.inr (.inr e))))),h.ag,h.aW,h.am,h.bT,h.off⟩
theorem WrI.below (h:WrI w a G d T F g root1 B W PT mv met pv s)(hb:Below w.heap.size w w'):WrI w' a G d T F g root1 B W PT mv met pv s:=
 h.touch (Touch.of_below (F:=fun _=>False) hb) (fun _ _ h=>h)
theorem WrI.wlt (h:WrI w a G d T F g root1 B W PT mv met pv s):∀ b,WX F G W T PT mv pv b→b<w.heap.size:=fun b hb=>by
 rcases hb with(hb|hb|hb|hb)|hb|hb|hb
 ·rcases hb with hb|hb
  ·exact h.tr.pg.pl.hF b hb
  ·rw[hb];exact h.tr.pg.lt
 ·rw[hb];exact h.wk.lt
 ·rw[hb];exact h.ptlt
 ·exact(h.po.blk b hb).2
 ·rw[hb];exact h.tr.lt
 ·have:=h.tr.pg.nib 0 (by omega);rw[hb];exact cell_lt this
 ·exact(h.wk.own.blk b hb).2
structure WrR (S:Nat→Prop) (L:List (Nat×Nat)) (F F':Nat→Prop) (G W PT:Nat) (pv pv':Value) (w w':World):Prop where
 touch:Touch (fun b=>WT F G W PT pv b∨∃ y∈L,b=y.1) w w'
 cell:∀ b i,S b→¬CL L b i→w'.cell? ⟨b,i,none⟩=w.cell? ⟨b,i,none⟩
 fr:∀ b i,S b→w'.frozen? ⟨b,i,none⟩=w.frozen? ⟨b,i,none⟩
 own:∀ b,WT F' G W PT pv' b→WT F G W PT pv b∨w.heap.size≤b
def WrF (S:Nat→Prop)(L:List (Nat×Nat))(a:PA)(G d T:Nat)(F:Nat→Prop)(g:Pg)(root1 B W PT:Nat)(mv:Value)(met:List Nat)(pv:Value)(r:Int×Ws)(w:World)(e:Ending)(w':World):Prop:=
 ∃ F' pv',e=.returned (.int .i64 r.1)∧WrI w' a G d T F' g root1 B W PT mv met pv' r.2∧WrR S L F F' G W PT pv pv' w w'
theorem WrR.same {S:Nat→Prop}{L:List (Nat×Nat)}(h:WrR S L F F' G W PT pv pv' w w')(ht:Typed w L):Same S (CL L) w w':=
 ⟨h.touch.size,fun b i hS _ hc=>h.cell b i hS hc,qkV ht,fun b i hS _=>h.fr b i hS⟩
theorem WrR.sok {S:Nat→Prop}{L:List (Nat×Nat)}(h:WrR S L F F' G W PT pv pv' w w')(hs:SOk S (WX F G W T PT mv pv) w):SOk S (WX F' G W T PT mv pv') w':=
 ⟨fun b hb=>zam (hs.lt b hb) h.touch.size,fun b hb hx=>by
  rcases hx with hx|hx
  ·rcases h.own b hx with h1|h1
   ·exact hs.ap b hb (.inl h1)
   ·have:=hs.lt b hb;omega
  ·exact hs.ap b hb (.inr hx)⟩
theorem WrR.trans {S:Nat→Prop}{L1 L2 L:List (Nat×Nat)}{F1 F2 F3:Nat→Prop}{p1 p2 p3:Value}{w1 w2 w3:World}(h:WrR S L1 F1 F2 G W PT p1 p2 w1 w2)(k:WrR S L2 F2 F3 G W PT p2 p3 w2 w3)(s1:∀ y∈L1,y∈L)(s2:∀ y∈L2,y∈L):WrR S L F1 F3 G W PT p1 p3 w1 w3:=
 ⟨⟨k.touch.os.trans h.touch.os,k.touch.tape.trans h.touch.tape,k.touch.output.trans h.touch.output,zah h.touch.size k.touch.size,fun i hi hn=>by
  refine(k.touch.block i (zam hi h.touch.size) (fun h2=>?_)).trans (h.touch.block i hi (fun h1=>hn (h1.imp id (fun⟨y,hy,e⟩=>⟨y,s1 y hy,e⟩))));rcases h2 with h2|⟨y,hy,e⟩
  ·rcases h.own i h2 with h3|h3
   ·exact hn (.inl h3)
   ·omega
  ·exact hn (.inr ⟨y,s2 y hy,e⟩)⟩,
  fun b i hS hc=>(k.cell b i hS (fun h2=>hc (h2.mono s2))).trans (h.cell b i hS (fun h1=>hc (h1.mono s1))),
  fun b i hS=>(k.fr b i hS).trans (h.fr b i hS),
  fun b hb=>by
  rcases k.own b hb with h2|h2
  ·exact h.own b h2
  ·exact .inr (zah h.touch.size h2)⟩
theorem WrR.of_below {S:Nat→Prop}{L:List (Nat×Nat)}(hb:Below w.heap.size w w')(hs:∀ b,S b→b<w.heap.size):WrR S L F F G W PT pv pv w w':=
 ⟨Touch.of_below hb,fun b i hS _=>hb.cell (p:=⟨b,i,none⟩) (hs b hS),fun b i hS=>hb.frozen (p:=⟨b,i,none⟩) (hs b hS),fun _ h=>.inl h⟩
def PuF (a:PA)(G d:Nat)(F:Nat→Prop)(g:Pg)(l:Bs)(s:Ws)(w:World)(e:Ending)(w':World):Prop:=
 ∃ F' v,Ext (GF F G) (GF F' G) w w'∧PgM w' a G d F' (putW d g.pages g.was l s).2.p { g with use:=(putW d g.pages g.was l s).2.use }∧e=.returned (.tuple #[.int .i64 v,.int .i64 ((putW d g.pages g.was l s).2.e:Int)])∧
  ((putW d g.pages g.was l s).2.e=0→(putW d g.pages g.was l s).1=v∧∃ n:Nat,v=(n:Int)∧(putW d g.pages g.was l s).2.put=s.put++[n])∧((putW d g.pages g.was l s).2.e≠0→(putW d g.pages g.was l s).1=-1∧(putW d g.pages g.was l s).2.put=s.put)
theorem qmc (h:PgM w a G d F s.p { g with use:=s.use })(he:s.e=0)(hoff:s.p.off=false){A:Option Addr}{c n:Nat}{l:Bs}(hb:By w A l)(hn:l.length=n)(hn5:n≤500)(hA:∀ ad,A=some ad→¬GF F G ad.block)(hw:s.p.waits.length+8≤1099511627776) :
  Calls Tryz.prog 102 #[.pointer (some ⟨G,0,none⟩),.slice A n c] w (PuF a G d F g l s w):=by
 cases hf:qaC g.pages s.use g.was with
 | none=>
  have hp:putW d g.pages g.was l s=(-1,{ s with e:=3 }):=by
   unfold putW;rw[zaB (by omega),hf]
  refine(h.put_none hn5 hf).mono ?_;rintro e w2 ⟨rfl,rfl⟩;unfold PuF;rw[hp];exact⟨F,0,Ext.refl _ _,h,rfl,fun h=>by simp at h,fun _=>⟨rfl,rfl⟩⟩
 | some k=>
  refine(h.put_call hb hn hn5 hA hoff hw hf).mono ?_;rintro e w2 ⟨F',hx,⟨h1,rfl,h3⟩|⟨h1,rfl,h3⟩⟩
  ·have hp:putW d g.pages g.was l s=((k:Int),{ s with p:=(qax s.p (qaj d k l)).2,use:=setB s.use k true,put:=s.put++[k] }):=by
    unfold putW;rw[zaB (by omega),hf];simp only[h1,zcn]
   unfold PuF;rw[hp];exact⟨F',k,hx,h3,by rw[he];rfl,fun _=>⟨rfl,k,rfl,rfl⟩,fun h=>absurd he h⟩
  ·have hp:putW d g.pages g.was l s=(-1,{ s with e:=2,p:=(qax s.p (qaj d k l)).2 }):=by
    unfold putW;rw[zaB (by omega),hf];simp only[h1,zc8,zbM]
   unfold PuF;rw[hp];exact⟨F',0,hx,h3,rfl,fun h=>by simp at h,fun _=>⟨rfl,rfl⟩⟩
structure NdP (w:World) (S:Nat→Prop) (N:Nat) (leaf:Bool) (ks vs:List Bs) (xs:List Kd) (L:List (Nat×Nat)):Prop where
 ex:∃ K ck V cv X cx vk vv vx L',S N∧Nc w N leaf K ks.length ck V vs.length cv X xs.length cx∧SrcS w S 1 K ks.length vk∧RowV w S vk ks∧SrcS w S 1 V vs.length vv∧RowV w S vv vs∧SrcS w S 2 X xs.length (vx.flatMap qaI)∧KM w S xs vx L'∧L=slotsAt X xs.length++L'
theorem NM.ndp_leaf {S:Nat→Prop}{ps:List Pr}{N:Nat}{L:List (Nat×Nat)}(h:NM w S (.leaf ps) N L):NdP w S N true (ps.map Prod.fst) (ps.map Prod.snd) [] L:=by
 simp only[NM]at h;obtain⟨rfl,hS,K,ck,V,cv,X,cx,vk,vv,h1,h2,h3,h4,h5⟩:=h;refine⟨K,ck,V,cv,X,cx,vk,vv,[],[],hS,by simpa using h1,by simpa using h2,h3,by simpa using h4,h5,SrcS.mk' rfl (fun h=>by simp at h),qed,?_⟩;cases X<;>rfl
theorem NM.ndp_inner {S:Nat→Prop}{ks:List Bs}{xs:List Kd}{N:Nat}{L:List (Nat×Nat)}(h:NM w S (.inner ks xs) N L):NdP w S N false ks [] xs L:=by
 simp only[NM]at h;obtain⟨hS,K,ck,V,cv,X,cx,vk,vs,L',h1,h2,h3,h4,h5,rfl⟩:=h;exact⟨K,ck,V,cv,X,cx,vk,[],vs,L',hS,h1,h2,h3,SrcS.mk' rfl (fun h=>by simp at h),rfl,h4,h5,rfl⟩
end
end Go.Proofs.YtpmebcgmgfcmiaaGreatDoor
