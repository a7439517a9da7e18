/- Texts EnA InZ ChA. -/
import Derived.Test.YtpmebcgmgfcmiaaGreatDoorQ21
set_option linter.all false
set_option maxRecDepth 100000
set_option maxHeartbeats 16000000
namespace Go.Proofs.YtpmebcgmgfcmiaaGreatDoor
open Go.RowKit BT Go.Lib
variable {n B pg:Nat}{w:World}{S:Nat→Prop}{ks:List Bs}
def encRow (leaf:Bool)(ks vs:List Bs)(i:Nat):Bs:=rowE (ks.getD i [])++if leaf then rowE (vs.getD i [])else[]
def qk4 (leaf:Bool)(n:Nat):Bs:=[if leaf then 0 else 1,UInt8.ofNat n]
def kidB (p:Nat):Bs:=[UInt8.ofNat (p / 256),UInt8.ofNat p]
def encB (leaf:Bool)(ks vs:List Bs)(pl:List Nat):Bs:=qk4 leaf ks.length++pl.flatMap kidB++(List.range ks.length).flatMap (encRow leaf ks vs)
theorem qf6 {α β:Type}(f:α→List β)(d:α):∀ (l:List α),(List.range l.length).flatMap (fun i=>f (l.getD i d))=l.flatMap f:=fun l=>by
 have h:(List.range l.length).map (fun i=>l.getD i d)=l:=by
  apply List.ext_getElem
  ·simp
  ·intro i h1 h2;simp at h1;simp[h1]
 conv=>rhs;rw[←h]
 rw[List.flatMap_map]
theorem qg5 (ps:List Pr):encB true (ps.map Prod.fst) (ps.map Prod.snd) []=encK (.leaf ps):=by
 unfold encB qk4 encK;rw[zaE];have h:=qf6 (fun p:Pr=>rowE p.1++rowE p.2) ([],[]) ps;simp only[zbU,zaG,zcn];rw[←h];congr 1;refine qbu fun i hi=>?_;have hi:=zbb.1 hi;simp[encRow,hi]
theorem qfE (ks:List Bs)(pl:List Nat):encB false ks [] pl=encK (.inner ks (pl.map Kd.page)):=by
 unfold encB qk4 encK;have h:=qf6 rowE [] ks;have e:encRow false ks []=fun i=>rowE (ks.getD i []):=funext fun i=>by simp[encRow]
 simp only[zbM,zc8,List.flatMap_map];rw[←h,e];rfl
structure EnM (w:World) (S:Nat→Prop) (N:Nat) (leaf:Bool) (ks vs:List Bs) (pl:List Nat):Prop where
 ex:∃ K ck V cv X cx vk vv,Nc w N leaf K ks.length ck V vs.length cv X pl.length cx∧SrcS w S 1 K ks.length vk∧RowV w S vk ks∧SrcS w S 1 V vs.length vv∧RowV w S vv vs∧SrcS w S 2 X pl.length ((pl.map fun p=>(((p:Nat):Int),(none:Option Nat))).flatMap qaI)
def EnF (b:Bs)(w:World)(e:Ending)(w':World):Prop:=
 ∃ A c n,e=.returned (.slice A n c)∧b.length=n∧Own w' w.heap.size 5 1 (.slice A n c) n (bv b)∧Below w.heap.size w w'
theorem qkd (p:Nat)(h:p<65536):(#[.int .u8 ((p:Int) / 256),.int .u8 ((p:Int) % 256)]:Array Value)=(bv (kidB p)).toArray:=by
 have h1:(UInt8.ofNat (p / 256)).toNat=p / 256:=by rw[zbO];omega
 have h2:(UInt8.ofNat p).toNat=p % 256:=by rw[zbO]
 have e1:((p:Int) / 256)=(((UInt8.ofNat (p / 256)).toNat:Nat):Int):=by rw[h1];omega
 have e2:((p:Int) % 256)=(((UInt8.ofNat p).toNat:Nat):Int):=by rw[h2];omega
 rw[e1,e2];rfl
theorem qdA (h:n≤255):IntKind.u8.wrap (n:Int)=(n:Int)∧(n:Int)=(((UInt8.ofNat n).toNat:Nat):Int):=by
 have h1:(UInt8.ofNat n).toNat=n:=by rw[zbO];omega
 exact⟨by rw[IntWalk.u8_in _ (by omega)],by rw[h1]⟩
theorem qjJ (w:World)(o:Obj)(us:List Value)(arr:Array Value)(t:TypeId)(m:Nat)(h:arr=us.toArray)(hl:us.length=m*1):Src ((w.alloc o).alloc (.cells arr t)) 1 (some ⟨w.heap.size+1,0,none⟩) m us:=by
 subst h;have h:=zaf (w.alloc o) (.cells us.toArray t);exact qaE (by simpa using h) hl
theorem qd3 (w:World)(us:List Value)(arr:Array Value)(t:TypeId)(m:Nat)(h:arr=us.toArray)(hl:us.length=m*1):Src (w.alloc (.cells arr t)) 1 (some ⟨w.heap.size,0,none⟩) m us:=by
 subst h;exact qaE (zaf w (.cells us.toArray t)) hl
theorem qho (h:n≤255):(#[.int .u8 (n:Int)]:Array Value)=(bv [UInt8.ofNat n]).toArray:=by
 rw[(qdA h).2];rfl
theorem qiS (w:World)(a b:UInt8)(u:Array Value)(hu:u=#[.int .u8 (a.toNat:Int),.int .u8 (b.toNat:Int)]){wx:World}(h:wx.heap[w.heap.size]?=some (.cells u 5 (0,0))):Own wx w.heap.size 5 1 (.slice (some ⟨w.heap.size,0,none⟩) 2 2) 2 (bv [a,b]):=by
 subst hu;exact Own.of_own (qaR h (zac _) (zac _) (by decide) rfl rfl)
theorem qh2 {N:Nat}{leaf:Bool}{vs:List Bs}{pl:List Nat}(h:EnM w S N leaf ks vs pl)(hlv:leaf=true→vs.length=ks.length)(hk:ks.length≤255)(hkl:∀ k∈ks,k.length≤255)(hvl:∀ k∈vs,k.length≤255)(hp:∀ q∈pl,q<65536)(hpl:pl.length≤600) :
  Calls Tryz.prog 103 #[.pointer (some ⟨N,0,none⟩)] w (EnF (encB leaf ks vs pl) w):=by
 obtain⟨K,ck,V,cv,X,cx,vk,vv,hnc,hsk,hrk,hsv,hrv,hsx⟩:=h.ex;obtain⟨nk,hnk⟩:∃ n,ks.length=n:=⟨_,rfl⟩;obtain⟨nv,hnv⟩:∃ n,vs.length=n:=⟨_,rfl⟩;obtain⟨nx,hnx⟩:∃ n,pl.length=n:=⟨_,rfl⟩;rw[hnk]at hnc hsk hlv hk;rw[hnv]at hnc hsv hlv;rw[hnx]at hnc hsx hpl;have Hm:=zH hnc;have H1:=zH hsk;have HX:=zH hrk;have H2:=zH hsv;have HZ:=zH hrv;have H3:=zH hsx;have HR:=zH hkl;have H4:=zH hvl;have HP:=zH hp;have Hu:=zH hnk;have HT:=zH hnv;have HB:=zH hnx;have HS:=zH hlv;obtain⟨j0,hj0,jz0,jz1,jz2⟩:=zaT qdW;have c0:=hnc.c0;have c1:=hnc.c1;have Hq:=cell_lt c0;have wk:IntKind.u8.wrap (nk:Int)=(nk:Int):=(qdA hk).1;have HG:=zH (qdA hk).2;clear h hnc hsk hrk hsv hrv hsx hkl hvl hp hnk hnv hnx hlv;obtain⟨hd,hhd⟩:∃ l,qk4 leaf nk=l:=⟨_,rfl⟩;have Ho:=zH hhd;clear hhd;go_enter Tryz.func103,Tryz.ntmps103
 go_upto_if 19 with fail
 go_cut [3] (fun s3 wx=>s3=.slice (some ⟨w.heap.size,0,none⟩) 2 2∧Own wx w.heap.size 5 1 (.slice (some ⟨w.heap.size,0,none⟩) 2 2) 2 (bv hd)∧Below w.heap.size w wx)
 case first=>
  cases leaf with
  | true=>
   go_wp2;go_meet
   case rel=>
    rw[←Ho.o];exact⟨rfl,qiS w 0 (UInt8.ofNat nk) _ (by rw[←HG.o];rfl) (zaf w _),zB _ _⟩
  | false=>
   go_wp2;go_meet
   case rel=>
    rw[←Ho.o];exact⟨rfl,qiS w 1 (UInt8.ofNat nk) _ (by rw[←HG.o];rfl) (zaf w _),zB _ _⟩
 case rest=>
  rename World=>wa;obtain⟨rfl,ho,hb⟩:=hcut;have HW:=zH ho;have HK:=zH hb;have Hx:=Hm.o.same (S:=fun b=>b<w.heap.size) (Same.of_below hb) Hq;have hl:=zH Hx;have H8:=Hx.c3;clear ho hb Hx;go_wp2;go_loopw [3,27] (fun s3 i wr=>∃ (j:Nat) (A:Option Addr) (c m:Nat),i=.int .i64 j∧j≤nx∧s3=.slice A m c∧m=2+2*j∧Own wr w.heap.size 5 1 (.slice A m c) m (bv (hd++(pl.take j).flatMap kidB))∧Below w.heap.size w wr) (fun _ i _=>nx-(RowKit.intOf i).toNat)
  case atStart=>exact⟨0,_,_,2,rfl,za7 _,rfl,rfl,by simpa using HW.o,HK.o⟩
  case round=>
   rename World=>wr;obtain⟨j,A3,c3,m,rfl,hj,rfl,hm,hO,hBr⟩:=hrel;have HM:=zH hm;have hw:m≤2000:=by omega
   have HO:=zH hO;have He:=zH hBr;clear hO hBr hm;by_cases hlt:j<nx
   ·obtain⟨q,hq⟩:∃ q,pl[j]?=some q:=⟨_,zaa (by have:=HB.o;omega)⟩;have hg:=HP.o q (zak hq);obtain⟨xb,xo,rfl,-,hxat⟩:=(H3.o.below (He.o)).at_ (by omega);have HA:(pl.map fun p=>(((p:Nat):Int),(none:Option Nat)))[j]?=some ((q:Int),none):=by rw[zbc,hq];rfl
    obtain⟨oj,hoj⟩:∃ o,xo+j*2=o:=⟨_,rfl⟩;have g1:wr.cell? ⟨xb,oj,none⟩=some (.int .i64 (q:Int)):=by rw[←hoj];exact hxat _ _ (qbm HA)
    have g2:wr.cell? ⟨xb,oj+1,none⟩=some (.pointer none):=by rw[←hoj,zbV];exact hxat _ _ (qbn HA)
    have he:xo+2*j=oj:=by omega
    have HI:(j:Int)<(nx:Int):=by omega
    have Hz:¬((nx:Int)≤(j:Int)):=by omega
    have HN:=zH (qkd q hg);have HQ:=zH hq;clear hxat HA hq;go_wp2_with (at_builtin;go_loud (refine qai rfl (.tmp 31) (.tmp 39) 34 rfl w.heap.size 5 j0 _ 1 1 Tryz.underlying34 hj0 jz0 jz1 jz2 rfl (by decide) (.slice A3 m c3) m _ rfl ((HO.o.below (zac _) (zB _ _)).below (zac _) (zB _ _)) (some ⟨wr.heap.size+1,0,none⟩) 2 2 (bv (kidB q)) rfl (qjJ _ _ _ _ _ _ HN.o rfl) (qaw _) (by unfold maxLen;omega) (by omega) (by have:=He.o.size;simp;omega) ?_;intro A6 cap6 w6 hrow6 hgrow6;have Hp:=zH hrow6;have Hg:=zH hgrow6;clear hrow6 hgrow6))
    refine⟨⟨j+1,A6,cap6,m+2,by simp,by omega,rfl,by have:=HM.o;omega,?_,((He.o.alloc He.o.size _).alloc (by have:=He.o.size;simp;omega) _).trans Hg.o⟩,by simp[RowKit.intOf];omega⟩;rw[zbK,HQ.o,zbZ,zat,←zaj,qa7];simpa using Hp.o
   ·obtain rfl:j=nx:=by omega
    obtain⟨hd2,hhd2⟩:∃ l,hd++pl.flatMap kidB=l:=⟨_,rfl⟩;have hO:=HO.o;rw[zbe (by have:=HB.o;omega),hhd2]at hO;have Hv:=zH hO;have Hh:=zH hhd2;have Hc:hd2.length=m:=by
     have:=hO.len;rw[bv_len]at this;omega
    have hn:=zH Hc;have Hy:=Hm.o.same (S:=fun b=>b<w.heap.size) (Same.of_below He.o) Hq;have hs:=Hy.c1;have hh:=zH Hy;clear hO hhd2 Hc Hy H8;have Hz:¬((j:Int)<(j:Int)):=by omega
    go_wp2;go_loopw [3,47] (fun s3 i wx=>∃ (t:Nat) (A:Option Addr) (c m:Nat),i=.int .i64 t∧t≤nk∧s3=.slice A m c∧m≤2000+600*t∧Own wx w.heap.size 5 1 (.slice A m c) m (bv (hd2++(List.range t).flatMap (encRow leaf ks vs)))∧Below w.heap.size w wx) (fun _ i _=>nk-(RowKit.intOf i).toNat)
    case atStart=>exact⟨0,_,_,m,rfl,za7 _,rfl,by omega,by simpa using Hv.o,He.o⟩
    case round=>
     rename World=>wx;obtain⟨t,A4,c4,m4,rfl,ht,rfl,hm4,hO,hBx⟩:=hrel;have HD:=zH hO;have Hf:=zH hBx;clear hO hBx;by_cases hlt4:t<nk
     ·obtain⟨k,hk4⟩:∃ k,ks[t]?=some k:=⟨_,zaa (by have:=Hu.o;omega)⟩;have hkl:=HR.o k (zak hk4);obtain⟨KB,kc,hvk,hkc,hby⟩:=HX.o.get hk4;obtain⟨kb,ko,rfl,-,hkat⟩:=(H1.o.below Hf.o).at_ (by omega);have g1:=hkat t _ hvk;obtain⟨kl,hkl2⟩:∃ n,k.length=n:=⟨_,rfl⟩;rw[hkl2]at hkl hkc g1;obtain⟨oj,hoj⟩:∃ o,ko+t=o:=⟨_,rfl⟩;rw[hoj]at g1;have HI:(t:Int)<(nk:Int):=by omega
      have H9:¬((nk:Int)≤(t:Int)):=by omega
      have hy:IntKind.u8.wrap (kl:Int)=(kl:Int):=(qdA hkl).1;have H6:=zH (qho hkl);have Hi:=zH hkl2;have HJ:=zH hby
      have HL:=zH hk4;clear hvk hby hkat hkl2 hk4;go_upto_region 13 with(at_builtin;first
       | (with_reducible show wpList _ _ _ (⟨some 57,_,_,_,_,_⟩::_) _ _);(refine qai rfl (.tmp 52) (.tmp 56) 34 rfl w.heap.size 5 j0 _ 1 1 Tryz.underlying34 hj0 jz0 jz1 jz2 rfl (by decide) (.slice A4 m4 c4) m4 _ rfl (HD.o.below (zac _) (zB _ _)) (some ⟨wx.heap.size,0,none⟩) 1 1 (bv [UInt8.ofNat kl]) rfl (qd3 _ _ _ _ _ H6.o rfl) (qaw _) (by unfold maxLen;omega) (by omega) (by have:=Hf.o.size;simp;omega) ?_);(intro A6 cap6 w6 hrow6 hgrow6;have Hp:=zH hrow6;have Hg:Hd (Below w.heap.size w w6):=zH ((Hf.o.alloc Hf.o.size _).trans hgrow6);clear hrow6 hgrow6)
       | (with_reducible show wpList _ _ _ (⟨some 59,_,_,_,_,_⟩::_) _ _);(refine qai rfl (.tmp 57) (.tmp 58) 34 rfl w.heap.size 5 j0 _ 1 1 Tryz.underlying34 hj0 jz0 jz1 jz2 rfl (by decide) (.slice A6 (m4+1) cap6) (m4+1) _ rfl Hp.o KB kl kc (bv k) rfl (by have h:=(HJ.o.by_.below Hg.o).src;rw[Hi.o]at h;exact h) (qaw _) (by unfold maxLen;omega) (by omega) Hg.o.size ?_);(intro A7 cap7 w7 hrow7 hgrow7;have HE:=zH hrow7;have Ht:Hd (Below w.heap.size w w7):=zH (Hg.o.trans hgrow7);clear hrow7 hgrow7))
      have HH:=Hm.o.same (S:=fun b=>b<w.heap.size) (Same.of_below Ht.o) Hq;have hr:=HH.c0;have Hk:=zH (show encRow leaf ks vs t=rowE k++if leaf then rowE (vs.getD t [])else[] by unfold encRow;rw[zaC,HL.o];rfl);have H0:=zH (show rowE k=[UInt8.ofNat kl]++k by unfold rowE;rw[Hi.o];rfl);have Hj:=zH (show Own w7 w.heap.size 5 1 (.slice A7 (m4+1+kl) cap7) (m4+1+kl) (bv (hd2++(List.range t).flatMap (encRow leaf ks vs)++rowE k)) by
       have h:=HE.o;rw[H0.o,←zaj,qa7 (_++[UInt8.ofNat kl]),qa7 _ [UInt8.ofNat kl]];exact h)
      clear HE Hp;cases leaf with
      | false=>
       go_wp2;refine⟨⟨t+1,A7,cap7,m4+1+kl,by simp,by omega,rfl,by omega,?_,Ht.o⟩,by simp[RowKit.intOf];omega⟩;rw[zc3,zat,List.flatMap_singleton,Hk.o,zaB (by simp),zaG,←zaj];exact Hj.o
      | true=>
       have hc:nv=nk:=HS.o (by trivial);obtain⟨v,hv4⟩:∃ v,vs[t]?=some v:=⟨_,zaa (by have:=HT.o;omega)⟩;have hvl:=H4.o v (zak hv4);obtain⟨VB,vc,hvv,hvc,hvy⟩:=HZ.o.get hv4;obtain⟨vb,vo,rfl,-,hvat⟩:=H2.o.at_ (by omega);have g2:=hvat t _ hvv;obtain⟨vl,hvl2⟩:∃ n,v.length=n:=⟨_,rfl⟩;rw[hvl2]at hvl hvc g2;obtain⟨ov,hov⟩:∃ o,vo+t=o:=⟨_,rfl⟩;rw[hov]at g2;have Hn:=zH (show w.cell? ⟨N,2,none⟩=some (.slice (some ⟨vb,vo,none⟩) nv cv)∧w.cell? ⟨vb,ov,none⟩=some (.slice VB vl vc)∧N<w.heap.size∧vb<w.heap.size from⟨Hm.o.c2,g2,Hq,cell_lt g2⟩);have hu:(t:Int)<(nv:Int):=by omega
       have ha:¬((nv:Int)≤(t:Int)):=by omega
       have hz:IntKind.u8.wrap (vl:Int)=(vl:Int):=(qdA hvl).1;have H7:=zH (qho hvl);have Hw:=zH hvl2;have H5:=zH hvy;have HY:=zH (show encRow true ks vs t=rowE k++([UInt8.ofNat vl]++v) by
        rw[Hk.o,zaw rfl,zaC,hv4];unfold rowE;rw[zb1,hvl2];rfl)
       clear hvv hvy hvat hvl2 hv4 HH;go_upto_region 14 with fail
       have Hb:Hd (Below w.heap.size w w7.drew):=zH Ht.o.drew;have HC:=zH (show Own w7.drew w.heap.size 5 1 (.slice A7 (m4+1+kl) cap7) (m4+1+kl) _ from Hj.o.below (zac _) ((zai _ _).drew));have Ha:Hd (∀ W,Below w.heap.size w W→W.cell? ⟨N,2,none⟩=some (.slice (some ⟨vb,vo,none⟩) nv cv)∧W.cell? ⟨vb,ov,none⟩=some (.slice VB vl vc)):=zH fun W hW=>⟨(hW.cell (p:=⟨N,2,none⟩) Hn.o.2.2.1).trans Hn.o.1,(hW.cell (p:=⟨vb,ov,none⟩) Hn.o.2.2.2).trans Hn.o.2.1⟩;clear g2;refine qac (S:=fun W=>W.cell? ⟨N,2,none⟩=some (.slice (some ⟨vb,vo,none⟩) nv cv)∧W.cell? ⟨vb,ov,none⟩=some (.slice VB vl vc)) [] (by kernel_rfl) (Ha.o _ Hb.o) (fun _=>?_);generalize w7.drew=W0 at Hb HC⊢;refine zP 0 64 (.slice A7 (m4+1+kl) cap7) (Ha.o _ Hb.o) ?_;try simp only[zS]
       refine zP 1 65 (.pointer (some ⟨N,0,none⟩)) (Ha.o _ Hb.o) ?_;try simp only[zS]
       refine zP 2 66 (.pointer (some ⟨N,0,none⟩)) (Ha.o _ Hb.o) ?_;try simp only[zS]
       refine zP 3 67 (.pointer (some ⟨N,2,none⟩)) (Ha.o _ Hb.o) ?_;try simp only[zS]
       refine zL 4 68 (.slice (some ⟨vb,vo,none⟩) nv cv) rfl (Or.inl ⟨by rfl,fun W hS=>by obtain⟨hS1,hS2⟩:=hS;go_simp⟩) (qaa (Ha.o _ Hb.o)) ?_;try simp only[zS]
       refine zP 5 69 (.int .i64 (t:Int)) (Ha.o _ Hb.o) ?_;try simp only[zS]
       refine zP 6 70 (.pointer (some ⟨vb,ov,none⟩)) (Ha.o _ Hb.o) ?_;try simp only[zS]
       refine zL 7 71 (.slice VB vl vc) rfl (Or.inl ⟨by rfl,fun W hS=>by obtain⟨hS1,hS2⟩:=hS;go_simp⟩) (qaa (Ha.o _ Hb.o)) ?_;try simp only[zS]
       refine zP 8 72 (.int .i64 (vl:Int)) (Ha.o _ Hb.o) ?_;try simp only[zS]
       refine zP 9 73 (.int .u8 (vl:Int)) (Ha.o _ Hb.o) ?_;try simp only[zS]
       refine zP 12 76 (.pointer (some ⟨N,0,none⟩)) (Ha.o _ Hb.o) ?_;try simp only[zS]
       refine zP 13 77 (.pointer (some ⟨N,0,none⟩)) (Ha.o _ Hb.o) ?_;try simp only[zS]
       refine zP 14 78 (.pointer (some ⟨N,2,none⟩)) (Ha.o _ Hb.o) ?_;try simp only[zS]
       refine zL 15 79 (.slice (some ⟨vb,vo,none⟩) nv cv) rfl (Or.inl ⟨by rfl,fun W hS=>by obtain⟨hS1,hS2⟩:=hS;go_simp⟩) (qaa (Ha.o _ Hb.o)) ?_;try simp only[zS]
       refine zP 16 80 (.int .i64 (t:Int)) (Ha.o _ Hb.o) ?_;try simp only[zS]
       refine zP 17 81 (.pointer (some ⟨vb,ov,none⟩)) (Ha.o _ Hb.o) ?_;try simp only[zS]
       refine zL 18 82 (.slice VB vl vc) rfl (Or.inl ⟨by rfl,fun W hS=>by obtain⟨hS1,hS2⟩:=hS;go_simp⟩) (qaa (Ha.o _ Hb.o)) ?_;try simp only[zS]
       refine zE 10 74 rfl (fun Kr hKr=>?_);refine Eq.mpr (zaw (by rfl)) ?_;refine qaP 34 (.tmp 73) rfl Tryz.underlying34 hj0 jz0 jz1 (by decide) (by decide) (.int .u8 (vl:Int)) rfl [.int .u8 (vl:Int)] (by rfl) rfl ?_;have Hr:=zH (Hb.o.alloc Hb.o.size (.cells #[.int .u8 (vl:Int)] 5));have HU:=zH (HC.o.below (zac _) ((zai _ _).alloc (zac _) (.cells #[.int .u8 (vl:Int)] 5)));have HF:=zH (qd3 W0 _ _ 5 _ H7.o rfl);obtain⟨C,hC⟩:∃ C,W0.heap.size=C:=⟨_,rfl⟩;rw[hC]at HF⊢;clear hC;generalize W0.alloc (.cells #[.int .u8 (vl:Int)] 5)=W1 at *;refine hKr.out (.slice (some ⟨C,0,none⟩) 1 1) _ (qaa (Ha.o _ Hr.o)) (fun _=>?_);clear hKr Kr;try simp only[zS]
       refine zE 11 75 rfl (fun Kr hKr=>?_);refine Eq.mpr (zaw (by rfl)) ?_;refine qeB (.tmp 64) (.tmp 74) 34 rfl w.heap.size 5 j0 _ 1 1 Tryz.underlying34 hj0 jz0 jz1 jz2 rfl (by decide) (.slice A7 (m4+1+kl) cap7) (m4+1+kl) _ rfl HU.o (some ⟨C,0,none⟩) 1 1 (bv [UInt8.ofNat vl]) rfl HF.o (qaw _) (by unfold maxLen;omega) (by omega) Hr.o.size ?_;intro A8 cap8 W2 hrow8 hgrow8;have Hv:=zH hrow8;have Hl:=zH (Hr.o.trans hgrow8);clear hrow8 hgrow8;refine hKr.out (.slice A8 (m4+1+kl+1) cap8) _ (qaa (Ha.o _ Hl.o)) (fun _=>?_);clear hKr Kr;try simp only[zS]
       refine zE 19 83 rfl (fun Kr hKr=>?_);refine Eq.mpr (zaw (by rfl)) ?_;refine qeB (.tmp 75) (.tmp 82) 34 rfl w.heap.size 5 j0 _ 1 1 Tryz.underlying34 hj0 jz0 jz1 jz2 rfl (by decide) (.slice A8 (m4+1+kl+1) cap8) (m4+1+kl+1) _ rfl Hv.o VB vl vc (bv v) rfl (by have h:=(H5.o.by_.below Hl.o).src;rw[Hw.o]at h;exact h) (qaw _) (by unfold maxLen;omega) (by omega) Hl.o.size ?_;intro A9 cap9 W3 hrow9 hgrow9;have HV:=zH hrow9;have Hs:=zH (Hl.o.trans hgrow9);clear hrow9 hgrow9;refine hKr.out (.slice A9 (m4+1+kl+1+vl) cap9) _ (qaa (Ha.o _ Hs.o)) (fun _=>?_);clear hKr Kr;try simp only[zS]
       refine zP 20 3 (.slice A9 (m4+1+kl+1+vl) cap9) (Ha.o _ Hs.o) ?_;try simp only[zS]
       refine qad (by kernel_rfl) ?_ _;go_wp2;refine⟨⟨t+1,A9,cap9,m4+1+kl+1+vl,by simp,by omega,rfl,by omega,?_,Hs.o⟩,by simp[RowKit.intOf];omega⟩;rw[zc3,zat,List.flatMap_singleton,HY.o,←zaj,←zaj,←zaj,qa7,qa7];exact HV.o
     ·obtain rfl:t=nk:=by omega
      have HI:¬((t:Int)<(t:Int)):=by omega
      go_wp2;go_ret;have hO:=HD.o;refine⟨A4,c4,m4,rfl,?_,?_,Hf.o⟩
      ·have h:=hO.len;rw[bv_len]at h;unfold encB;rw[Hu.o,Ho.o,Hh.o];omega
      ·unfold encB;rw[Hu.o,Ho.o,Hh.o];exact hO
theorem qgB {i:Nat}{v:Value}{xs:List Value}(h:Own w B 34 1 v n xs)(hi:i≤n)(hl:n≤1048576)(A:Option Addr)(c:Nat) :
  Calls Tryz.prog 73 #[v,.int .i64 i,.slice A 0 c] w (fun e w'=>e=.returned v∧w=w'):=by
 obtain⟨i0,hi0,hz0,hz1,hz2⟩:=zaT qbP;obtain⟨V,cap,rfl,hnc⟩:=h.slice;obtain⟨v1,hv1⟩:∃ v,∀ W,(Instr.slice 103 (.slice V n cap) (some (.int .i64 (i:Int))) none none).run Tryz.prog W=.ok v W:=by
  cases V with
  | none=>
   obtain⟨h1,h2⟩:=Row.nil_cap h.row;subst h1 h2;obtain rfl:i=0:=by omega
   exact⟨.slice none 0 0,fun W=>by simp[Instr.slice,Instr.sliceBounds,Instr.sliceBound,asIntOf,zaM Tryz.underlying103,sizeOf,typeInfo,hi0,hz1,go_sem]⟩
  | some ad=>
   rcases h.row with hr|⟨A0,e,hn0,hx0⟩
   ·rcases hr.2 with⟨e,_⟩|⟨g,cap',cur,e,_,_,hnc,_⟩
    ·cases e
    ·cases e;obtain⟨a,_,r⟩:=qam (P:=Tryz.prog) Tryz.underlying103 hi0 hz1 g 0 n cap i hi hnc;exact⟨_,r⟩
   ·cases e;obtain rfl:i=0:=by omega
    exact⟨.slice (some ad) 0 0,fun W=>by simp[Instr.slice,Instr.sliceBounds,Instr.sliceBound,asIntOf,zaM Tryz.underlying103,sizeOf,typeInfo,hi0,hz1,go_sem]⟩
 clear h;go_enter Tryz.func73,Tryz.ntmps73
 go_wp2;go_ret;exact⟨rfl,rfl⟩
def ChF (S:Nat→Prop)(B W T:Nat)(mv:Value)(got:List Kd)(bet:List Bs)(met2:List Nat)(w:World)(e:Ending)(w':World):Prop:=
 ∃ mv' gv bv Lg S',e=.returned (.tuple #[gv,bv])∧Got w' S' got bet Lg gv bv∧WkM w' B W T mv' met2 0∧EvM (MW W mv) (MW W mv') w w'∧SOk S' (MW W mv') w'∧(∀ b,S' b→Grow S (MW W mv') w w' b)∧Slo w.heap.size [] Lg
theorem qdQ {s:Nat→Bs}{pages:Nat}{use:Bs}{xs:List Kd}(h:qah s pages use pg=some (.inner ks xs)):∀ x∈xs,∃ q,x=.page q∧q<65536:=by
 unfold qah at h;split at h
 ·obtain⟨b,_,h2⟩:=zbS.1 h;obtain⟨hd,_⟩:=qjZ h2;cases hd;assumption
 ·cases h
theorem Got.none (w:World)(S:Nat→Prop):Got w S [] [] [] (.slice none 0 0) (.slice none 0 0):=
 ⟨Option.none,0,Option.none,0,[],[],rfl,rfl,zac _,zac _,rfl,SrcS.mk' rfl (fun h=>by simp at h),⟨rfl,rfl⟩,SrcS.mk' rfl (fun h=>by simp at h),rfl,fun h=>by simp at h⟩
theorem Got.mono {S':Nat→Prop}{got:List Kd}{bet:List Bs}{L:List (Nat×Nat)}{g b:Value}(hS:∀ b,S b→S' b)(h:Got w S got bet L g b):Got w S' got bet L g b:=by
 obtain⟨A,c,B,cb,Ns,vb,h1,h2,h3,h4,h5,h6,h7,h8,h9,h10⟩:=h.ex;refine⟨A,c,B,cb,Ns,vb,h1,h2,h3,h4,h5,h6.mono hS,?_,h8.mono hS,h9.mono hS,fun h=>?_⟩
 ·clear h h1 h3 h5 h6 h8 h9 h10
  induction got generalizing Ns L with
  | nil=>exact h7
  | cons k ks ih=>
   obtain⟨N,r,L1,L2,e1,e2,e3,e4⟩:=h7;exact⟨N,r,L1,L2,e1,e2,NM.mono hS _ _ _ e3,ih _ e4⟩
 ·obtain⟨C,u,e1,e2,e3,e4⟩:=h10 h;exact⟨C,u,e1,e2,e3,hS _ e4⟩
theorem qf1:∀ {ps:List Pr},(∀ p∈ps,plen p)→qaL ps≤186*ps.length
 | [],_=>zac _
 | p::ps,h=>by
  have h1:=qf1 (ps:=ps) fun q hq=>h q (za6 _ hq);have h2:=h p (by simp);obtain⟨⟨_,h3⟩,h4⟩:=h2;rw[qay,zao];omega
theorem qhY {a:PA}{G d T:Nat}{F:Nat→Prop}{p:Pl}{g:Pg}{root1 W:Nat}{mv:Value}{met:List Nat}(hoff:p.off=false)(ht:TrB w B a G d T F p g root1)(hw:WkM w B W T mv met 0)(hB:B≤w.heap.size)(hS:SOk S (MW W mv) w){ps:List Pr}
  (hn:qah (p.seen d) g.pages g.use pg=some (.leaf ps))(hm:pg∉met)(hl:met.length≤1000){A:Option Addr}{key:Bs}{c:Nat}(hkb:ByS w S A key)(hkl:key.length=n)(hkc:n≤c){v:Option Bs}{val:Value}(hvm:VaM w S val v)(hk:klen key)(hv:∀ x,v=some x→x.length≤160)
  (hs:Srt ps)(hpl:∀ q∈ps,plen q)(hsz:nsize (.leaf ps)≤500) :
  Calls Tryz.prog 57 #[.pointer (some ⟨W,0,none⟩),.agg #[.int .i64 (pg:Nat),.pointer none],.slice A n c,val] w
   (ChF S B W T mv (if(chgR key v ps).length=0 then[]else(cutK (.leaf (chgR key v ps))).1) (if(chgR key v ps).length=0 then[]else(cutK (.leaf (chgR key v ps))).2) (met++[pg]) w):=by
 have HW:=zH hw;have HT:=zH ht;have HS:=zH hS;have HB:=zH hkb;have HH:=zH hvm;have He:Below w.heap.size w (w.alloc (.cells #[.int .i64 (pg:Int),.pointer none] 102)):=zB _ _;have Hl:=zH He;have Hs:=zH (qb0 (HT.o.ev HW.o (Ev.below He)) (HW.o.below He) (zah hB He.size) hoff hn hm hl);unfold LdF at Hs;clear ht hw hS hkb hvm He;obtain⟨qs,Hb⟩:∃ q,chgR key v ps=q:=⟨_,rfl⟩;rw[Hb];obtain⟨gg,hgg⟩:∃ q,(if qs.length=0 then[]else(cutK (.leaf qs)).1)=q:=⟨_,rfl⟩;obtain⟨bb,hbb⟩:∃ q,(if qs.length=0 then[]else(cutK (.leaf qs)).2)=q:=⟨_,rfl⟩;rw[hgg,hbb];have Hr:=zH hgg;have Ho:=zH hbb;have HF:=zH Hb;clear hgg hbb Hb;go_enter Tryz.func57,Tryz.ntmps57
 go_upto_region 4 with(go_at_call 38;refine Hs.o.mono ?_;rintro e w1 ⟨N,L,mv1,rfl,hwk,hev,hnm,hsl⟩;have Hk:=zH hwk;have Hy:=zH hev;have HD:=zH hnm;clear hwk hev hnm hsl)
 have E1:EvM (MW W mv) (MW W mv1) w w1:=((Ev.below (W:=W) (mv:=mv) Hl.o).trans Hy.o).evm;have Hq:=zH E1;have Ha:NM w1 (Grow S (MW W mv1) w w1) (.leaf ps) N L:=NM.mono (fun b hb=>.inr ⟨zah Hl.o.size hb.1,hb.2.1,fun hm=>hm.elim hb.2.2.1 hb.2.2.2⟩) _ _ _ HD.o;have hL:L=[]:=by simp only[NM]at Ha;exact Ha.1
 subst hL;have HG:=zH (HS.o.grow E1);have HP:=zH Ha;have HI:w1.cell? ⟨N,0,none⟩=some (.bool true):=by
  simp only[NM]at Ha;obtain⟨-,-,K,ck,V,cv,X,cx,vk,vv,hnc,_⟩:=Ha;exact hnc.c0
 have p1:=qaN (ps.map Prod.fst);have p2:=qbE ps;rw[zaE]at p1;have HM:ps.length≤500:=by simp only[nsize]at hsz;omega
 have Hf:ByS w1 (Grow S (MW W mv1) w w1) A key:=(HB.o.same (Same.of_touch E1.touch HS.o.ap)).mono fun _ h=>.inl h;have Hg:VaM w1 (Grow S (MW W mv1) w w1) val v:=by
  have h:=HH.o;cases v with
  | none=>exact h
  | some l=>
   obtain⟨ad,c2,e1,e2,e3⟩:=h;exact⟨ad,c2,e1,e2,(e3.same (Same.of_touch E1.touch HS.o.ap)).mono fun _ h=>.inl h⟩
 have Hj:=zH (qhq Ha Hf hkl hkc Hg hs (by omega));unfold NdF at Hj;have HJ:=qdZ hk hv (ps:=ps);have Hb:=HF.o;rw[Hb]at Hj HJ;have HN:=qaN (qs.map Prod.fst);have HR:=qbE qs;rw[zaE]at HN;have HL:nsize (.leaf qs)≤524288:=by simp only[nsize]at hsz⊢;omega
 have HO:∀ q∈qs,plen q:=fun q hq=>by
  rw[←Hb]at hq;rcases mem_chgR hq with h4|⟨h4,h5⟩
  ·exact hpl q h4
  ·exact⟨by rw[h4];exact hk,hv _ h5⟩
 have HK:500<nsize (.leaf qs)→2≤nk (.leaf qs):=fun h=>by
  have:=qf1 HO;simp only[nsize,nk]at h⊢;omega
 clear Ha Hf Hg E1;go_upto_region 6 with(go_at_call 56;refine Hj.o.mono ?_;rintro e w2 ⟨N2,rfl,hn2,hb2⟩;have HC:=zH hn2;have Hm:=zH hb2;clear hn2 hb2)
 have E2:EvM (MW W mv1) (MW W mv1) w1 w2:=EvM.below Hm.o;have Hc:=zH (Hq.o.trans E2);have HQ:=zH (HG.o.grow E2);have Hh:=zH (Hk.o.below Hm.o);have Hv:∀ b,Fr (Grow S (MW W mv1) w w1) w1 w2 b→Grow (Grow S (MW W mv1) w w1) (MW W mv1) w1 w2 b:=fun b hb=>by
  rcases hb with hb|hb
  ·exact .inl hb
  ·refine .inr ⟨hb.1,hb.2,fun hm=>?_⟩;rcases hm with hm|hm
   ·have:=Hk.o.lt;omega
   ·have:=(Hk.o.own.blk b hm).2;omega
 have Ht:=zH (NM.mono Hv _ _ _ HC.o);have Hw:∀ b,Grow (Grow S (MW W mv1) w w1) (MW W mv1) w1 w2 b→Grow S (MW W mv1) w w2 b:=Grow.trans Hq.o.touch.size E2;have HA:=zH Hw;obtain⟨ql,hql⟩:∃ n,qs.length=n:=⟨_,rfl⟩;have Hu:∃ K ck,w2.cell? ⟨N2,1,none⟩=some (.slice K ql ck):=by
  have h:=Ht.o;simp only[NM]at h;obtain⟨-,-,K,ck,V,cv,X,cx,vk,vv,hnc,_⟩:=h;exact⟨K,ck,by rw[←hql];exact hnc.c1⟩
 obtain⟨K2,ck2,Hu⟩:=Hu;have Hi:=zH hql;clear Hv Hw hql HI;by_cases h0:ql=0
 ·subst h0;obtain rfl:=Hr.o.symm.trans (zaw Hi.o);obtain rfl:=Ho.o.symm.trans (zaw Hi.o);go_wp2;refine zbs (v:=.tuple #[.slice none 0 0,.slice none 0 0]) (by simp[results,Tryz.results57,go_sem]) rfl ?_;exact⟨mv1,_,_,[],Grow S (MW W mv1) w w2,rfl,Got.none _ _,Hh.o,Hc.o,HS.o.grow Hc.o,fun b hb=>hb,Slo.nil _ _⟩
 ·have Hx:¬qs.length=0:=by rw[Hi.o];exact h0
  obtain rfl:=Hr.o.symm.trans (zaB Hx);obtain rfl:=Ho.o.symm.trans (zaB Hx);have Hp:=zH (qiz Ht.o trivial HL HK);unfold CutF at Hp;go_wp2_with (go_at_call 74;refine Hp.o.mono ?_;rintro e w3 ⟨gv,bv,L',rfl,hg3,hp3,hb3⟩;have Hz:=zH hg3;have HE:=zH hp3;have Hn:=zH hb3;clear hg3 hp3 hb3)
  have E3:EvM (MW W mv1) (MW W mv1) w2 w3:=EvM.below Hn.o;refine zbs (v:=.tuple #[gv,bv]) (by simp[results,Tryz.results57,go_sem]) rfl ?_;obtain rfl:L'=[]:=List.perm_nil.1 HE.o;refine⟨mv1,gv,bv,[],Grow S (MW W mv1) w w3,rfl,Got.mono (fun b hb=>?_) Hz.o,Hh.o.below Hn.o,Hc.o.trans E3,HS.o.grow (Hc.o.trans E3),fun b hb=>hb,Slo.nil _ _⟩;refine Grow.trans Hc.o.touch.size E3 b ?_;rcases hb with hb|hb
  ·exact .inl (HA.o b hb)
  ·refine .inr ⟨hb.1,hb.2,fun hm=>?_⟩;rcases hm with hm|hm
   ·have:=Hh.o.lt;omega
   ·have:=(Hh.o.own.blk b hm).2;omega
end Go.Proofs.YtpmebcgmgfcmiaaGreatDoor
