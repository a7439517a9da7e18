/- Texts NdE. -/
import Derived.Test.YtpmebcgmgfcmiaaGreatDoorQ15
set_option linter.all false
set_option maxRecDepth 100000
set_option maxHeartbeats 16000000
namespace Go.Proofs.YtpmebcgmgfcmiaaGreatDoor
open Go.RowKit BT Go.Lib
variable {B n N m:Nat}{w W:World}{v k:Value}{vk vv:List Value}{S:Nat→Prop}{ps:List Pr}{key:Bs}{A:Option Addr}
theorem qan {a b:World}{F:Nat→Prop}(h:Below B w a)(hB:B≤a.heap.size)(ht:Touch F a b)(hF:∀ k,F k→k<a.heap.size→B≤k):Below B w b:=
 ⟨ht.os.trans h.os,ht.tape.trans h.tape,ht.output.trans h.output,zah h.size ht.size,fun k hk=>
  (ht.block k (by omega) fun hf=>by have:=hF k hf (by omega);omega).trans (h.block k hk)⟩
def Fr (S:Nat→Prop)(w w':World):Nat→Prop:=fun b=>S b∨(w.heap.size≤b∧b<w'.heap.size)
def NdF (S:Nat→Prop)(k:Kd)(w:World)(e:Ending)(w':World):Prop:=
 ∃ N,e=.returned (.pointer (some ⟨N,0,none⟩))∧NM w' (Fr S w w') k N []∧Below w.heap.size w w'
def VaM (w:World)(S:Nat→Prop)(x:Value):Option Bs→Prop
 | none=>x=.slice none 0 0
 | some l=>∃ ad c,x=.slice (some ad) l.length c∧l.length≤c∧ByS w S (some ad) l
theorem qcK {e:TypeId}{size:Nat}{xs:List Value}(h:Own w B e size v n xs):v.oneCell'=true:=by
 obtain⟨A,c,rfl,_⟩:=h.slice;rfl
def LfQ (w wx:World)(N:Nat)(k v:Value)(m:Nat)(vk vv:List Value):Prop:=∃ x vx,NdQ wx w.heap.size N true k v x k m vk v m vv x 0 vx
theorem LfQ.c {wx:World}(h:LfQ w wx N k v m vk vv):wx.cell? ⟨N,1,none⟩=some k∧wx.cell? ⟨N,2,none⟩=some v:=by
 obtain⟨x,vx,h⟩:=h;exact⟨h.c1',h.c2'⟩
theorem qcC {u:Value}(h:u.oneCell'=true):u.cells=([u]:List Value).toArray:=by
 cases u<;>first|rfl|cases h
theorem qap {g:Nat}{x:Obj}(o:Obj)(h:W.heap[g]?=some x):(W.alloc o).heap[g]?=some x:=
 (((zai W.heap.size W).alloc (zac _) o).block g (zab.1 h).1).trans h
theorem qip {i t c ln c2 n0:Nat}{l:Bs}{ad:Addr}{vkA vvA:List Value}{uk uv x:Value}{vx:List Value}
  (hch:chgR key (some l) ps=ps.take i++((some l).toList.map fun y=>(key,y))++ps.drop (i+t))(hka:vk.take i++vk.drop (i+t)=vkA)(hva:vv.take i++vv.drop (i+t)=vvA)
  (hrk:RowV w S vk (ps.map Prod.fst))(hrv:RowV w S vv (ps.map Prod.snd))(hk:ByS w S A key)(hv:ByS w S (some ad) l)(hkl:key.length=n)(hln:l.length=ln)(huk:Value.slice A n c=uk)(huv:Value.slice (some ad) ln c2=uv)(hkc:n≤c)(hc2:ln≤c2)
  (hla:vkA.length=m*1)(hn0:ps.length=n0)(hq:NdQ W w.heap.size N true k v x k (m+1) (vkA.take i++[uk]++vkA.drop i) v (m+1) (vvA.take i++[uv]++vvA.drop i) x 0 vx)(hb:Below w.heap.size w W) :
  NdF S (.leaf (chgR key (some l) ps)) w (.returned (.pointer (some ⟨N,0,none⟩))) W:=by
 have Hh:i≤ps.length→(ps.take i).length=i:=fun h=>by rw[zag];omega
 have He:=hrk.len;rw[zaE]at He;have Ha:=hrv.len;rw[zaE]at Ha;have hr:=hrk.same (Same.of_below hb);have Hg:=hrv.same (Same.of_below hb);have Hc:(ps.take i++((some l).toList.map fun y=>(key,y))++ps.drop (i+t)).length=m+1:=by
  rw[←hka]at hla;simp only[zad,zag,zap,zbZ,zbp,zbA,zao,zaZ]at hla⊢;omega
 have Hf:i≤ps.length∨ps.length<i:=by omega
 refine⟨N,rfl,?_,hb⟩;rw[hch];have sub:∀ b,S b→Fr S w W b:=fun b h=>.inl h;have Hb:∀ (vs:List Value) (ks:List Bs) (u:Value) (z:Bs) (vA:List Value),RowV W S vs ks→RowV W S [u] [z]→vs.take i++vs.drop (i+t)=vA→vs.length=ps.length→RowV W (Fr S w W) (vA.take i++[u]++vA.drop i) (ks.take i++[z]++ks.drop (i+t)):=fun vs ks u z vA h1 h2 hA He=>by
  have h4:=((h1.split i).1.append h2).append (h1.split (i+t)).2;rcases Hf with h|h
  ·have l1:(vs.take i).length=i:=by rw[zag];omega
   rw[←hA,za8 l1,zbT l1];exact h4.mono sub
  ·have e1:vs.drop (i+t)=[]:=zbi (by omega);rw[e1]at h4;rw[←hA,e1,zaG,zbY,Nat.min_self,zbi (by rw[zag];omega)];exact h4.mono sub
 refine hq.leaf Hc (.inr ⟨hq.lo,hq.lt⟩) (fun b e=>.inr (hq.ko.blk b e)) (fun b e=>.inr (hq.vo.blk b e)) ?_ ?_
 ·have h3:=Hb vk _ uk key vkA hr (by rw[←huk,←hkl];exact RowV.one (by omega) (hk.same (Same.of_below hb))) hka He;simpa only [zbZ,zbp,zbA,zbD,zb7,zb6] using h3
 ·have h3:=Hb vv _ uv l vvA Hg (by rw[←huv,←hln];exact RowV.one (by omega) (hv.same (Same.of_below hb))) hva Ha;simpa only [zbZ,zbp,zbA,zbD,zb7,zb6] using h3
theorem qhq {N0:Nat}(hn:NM w S (.leaf ps) N0 []){c:Nat}(hk:ByS w S A key)(hkl:key.length=n)(hkc:n≤c){v:Option Bs}{val:Value}(hv:VaM w S val v)(hs:Srt ps)(hl:ps.length≤1000) :
  Calls Tryz.prog 56 #[.pointer (some ⟨N0,0,none⟩),.slice A n c,val] w (NdF S (.leaf (chgR key v ps)) w):=by
 have hz:=hn;unfold NM at hz;obtain⟨-,hS0,K0,ck0,V0,cv0,X0,cx0,vk,vv,hnc,hsk,hrk,hsv,hrv⟩:=hz;have H8:=zH (qdM hnc hsk hsv (SrcS.mk' (S:=S) (A:=X0) (n:=0) (size:=2) (us:=[]) rfl (fun h0=>by omega)) (fun u hu=>hrk.one_cell u hu) (fun u hu=>hrv.one_cell u hu) (fun u hu=>by cases hu) (by omega) (by omega) (by omega));obtain⟨n0,hn0⟩:∃ n0,ps.length=n0:=⟨_,rfl⟩;rw[hn0]at H8 hl;have Hv:=zH hrk;have HE:=zH hrv;have HK:=zH hk;have H0:=zH hkl;have HS:=zH hs;have HV:=zH hv;have HD:=zH hn0;clear hn hnc hsk hrk hsv hrv hk hkl hv hs hn0;unfold ClF at H8;obtain⟨i,hi⟩:∃ i,lowB (ps.map Prod.fst) key=i:=⟨_,rfl⟩;obtain⟨th,hth⟩:∃ th,qbi (ps.map Prod.fst) key=th:=⟨_,rfl⟩;have HI:=zH hi;have hp:=zH hth;have hM:i≤n0:=by have:=qic (ps.map Prod.fst) key;rw[zaE,HD.o]at this;omega
 have HX:th=true→i<n0:=fun e=>by
  rw[e]at hth;unfold qbi at hth;rw[hi]at hth;have h2:(ps.map Prod.fst)[i]?=some key:=by simpa using hth
  have:=(zae.1 h2).1;rw[zaE,HD.o]at this;exact this
 have hC:=zH HX;clear hi hth HX;go_enter Tryz.func56,Tryz.ntmps56
 go_upto_region 2 with(go_at_call 71;refine H8.o.mono ?_;rintro e w1 ⟨N,K,ck,V,cv,X,cx,rfl,hO,hB⟩;have HO:=zH hO;have HB:=zH hB;clear hO hB)
 have HQ:=zH HO.o.q;have hL:=HQ.o.c1';have ha:=zH (Hv.o.same (Same.of_below HB.o));have hE:=zH (HE.o.same (Same.of_below HB.o));have hw:∀ b,(Value.slice K n0 ck).ownBlock=some b→Fr S w w1 b:=fun b e=>.inr (HO.o.k.blk b e);have H6:=zH (qhX (S:=Fr S w w1) ck c (HO.o.k.srcS hw) (ha.o.mono fun b hb=>.inl hb) (by rw[zaE,HD.o]) (List.pairwise_map.2 HS.o) (HK.o.same (Same.of_below HB.o)).by_ H0.o (by omega));unfold BsF at H6;rw[HI.o,hp.o]at H6;clear hw;go_upto_if 20 with(go_at_call 40;refine H6.o.mono ?_;rintro e w2 ⟨rfl,rfl⟩)
 obtain⟨t,ht⟩:∃ t,(if th then 1 else 0)=t:=⟨_,rfl⟩;have HT:=zH ht;obtain⟨vkA,hvkA⟩:∃ l,vk.take i++vk.drop (i+t)=l:=⟨_,rfl⟩;obtain⟨vvA,hvvA⟩:∃ l,vv.take i++vv.drop (i+t)=l:=⟨_,rfl⟩;have Hu:=zH hvkA;have HF:=zH hvvA;clear ht hvkA hvvA;go_cut [20] (fun s20 wx=>∃ k v m,LfQ w wx N k v m vkA vvA∧Below w.heap.size w wx∧n0≤m+t∧m≤n0)
 case first=>
  cases th with
  | false=>
   go_wp2;go_meet
   case rel=>
    have H3:t=0:=by rw[←HT.o];rfl
    refine⟨.slice K n0 ck,.slice V n0 cv,n0,⟨.slice X 0 cx,[],?_⟩,HB.o,by omega,zac _⟩;rw[←Hu.o,←HF.o,H3,zbX,zav,zav];exact HQ.o
  | true=>
   have hy:=hC.o rfl;obtain⟨j,hj⟩:∃ j,i+1=j:=⟨_,rfl⟩;have H3:t=1:=by rw[←HT.o];rfl
   have hm:=zH H3;have HJ:=zH hj;have ej:IntKind.i64.wrap ((i:Int)+1)=(j:Int):=by rw[zaJ _ (by omega)];omega
   clear H3 hj;go_upto_region 4 with fail
   have Hj:Hd (NdQ w1.drew w.heap.size N true (.slice K n0 ck) (.slice V n0 cv) (.slice X 0 cx) (.slice K n0 ck) n0 vk (.slice V n0 cv) n0 vv (.slice X 0 cx) 0 []):=zH (HQ.o.touch (F:=fun _=>False) (Touch.refl _ _).drew id (fun _ _=>id) (fun _ _=>id) (fun _ _=>id));have he:=zH (qcY Hj.o.ko Hv.o.one_cell hy (by omega));rw[HJ.o]at he;have Ha:=zH (show w1.drew.cell? ⟨N,1,none⟩=some (.slice K n0 ck)∧w1.drew.cell? ⟨N,2,none⟩=some (.slice V n0 cv)from⟨Hj.o.c1',Hj.o.c2'⟩);have HA:Hd (Below w.heap.size w w1.drew):=zH HB.o.drew;refine qac (S:=fun W=>W.cell? ⟨N,1,none⟩=some (.slice K n0 ck)∧W.cell? ⟨N,2,none⟩=some (.slice V n0 cv)) [20,23] (by kernel_rfl) Ha.o (fun _=>?_);refine zP 0 21 (.pointer (some ⟨N,0,none⟩)) Ha.o ?_;try simp only[zS]
   refine zP 1 22 (.pointer (some ⟨N,0,none⟩)) Ha.o ?_;try simp only[zS]
   refine zP 2 23 (.pointer (some ⟨N,0,none⟩)) Ha.o ?_;try simp only[zS]
   refine zP 3 24 (.pointer (some ⟨N,0,none⟩)) Ha.o ?_;try simp only[zS]
   refine zP 4 25 (.pointer (some ⟨N,1,none⟩)) Ha.o ?_;try simp only[zS]
   refine zL 5 26 (.slice K n0 ck) rfl (Or.inl ⟨by rfl,fun W hS=>by obtain⟨hS1,hS2⟩:=hS;go_simp⟩) (qaa Ha.o) ?_;try simp only[zS]
   refine zP 6 27 (.int .i64 (i:Int)) Ha.o ?_;try simp only[zS]
   refine zP 7 28 (.int .i64 (i:Int)) Ha.o ?_;try simp only[zS]
   refine zP 8 29 (.int .i64 (j:Int)) Ha.o ?_;try simp only[zS]
   refine zP 10 31 (.pointer (some ⟨N,0,none⟩)) Ha.o ?_;try simp only[zS]
   refine zP 11 32 (.pointer (some ⟨N,0,none⟩)) Ha.o ?_;try simp only[zS]
   refine zP 12 33 (.pointer (some ⟨N,2,none⟩)) Ha.o ?_;try simp only[zS]
   refine zL 13 34 (.slice V n0 cv) rfl (Or.inl ⟨by rfl,fun W hS=>by obtain⟨hS1,hS2⟩:=hS;go_simp⟩) (qaa Ha.o) ?_;try simp only[zS]
   refine zP 14 35 (.int .i64 (i:Int)) Ha.o ?_;try simp only[zS]
   refine zP 15 36 (.int .i64 (i:Int)) Ha.o ?_;try simp only[zS]
   refine zP 16 37 (.int .i64 (j:Int)) Ha.o ?_;try simp only[zS]
   refine qae (rs:=[9]) (by kernel_rfl) (by simp) ?_;refine AllReadyG.cons rfl (fun Kr hKr=>?_) AllReadyG.nil;go_simp;go_at_call 72
   refine he.o.mono ?_;rintro e W2 ⟨k2,rfl,ho2,hu2⟩;have Hf:=zH (Hj.o.updK ho2 hu2);have Hn:=zH (qan HA.o HA.o.size hu2.touch (fun b e _=>(Hj.o.ko.blk b e).1));clear ho2 hu2;have hg:=zH (qcY Hf.o.vo HE.o.one_cell hy (by omega));rw[HJ.o]at hg;have HN:=zH (show W2.cell? ⟨N,1,none⟩=some (.slice K n0 ck)∧W2.cell? ⟨N,2,none⟩=some (.slice V n0 cv)from⟨Hf.o.c1',Hf.o.c2'⟩);refine hKr.out _ _ (qaa HN.o) (fun _=>?_);clear hKr Kr;try simp only[zS]
   refine qae (rs:=[17]) (by kernel_rfl) (by simp) ?_;refine AllReadyG.cons rfl (fun Kr hKr=>?_) AllReadyG.nil;go_simp;go_at_call 72
   refine hg.o.mono ?_;rintro e W3 ⟨v3,rfl,ho3,hu3⟩;have Hb:=zH (Hf.o.updV ho3 hu3);have Hm:=zH (qan Hn.o Hn.o.size hu3.touch (fun b e _=>(Hf.o.vo.blk b e).1));clear ho3 hu3;have Ht:=zH (show W3.cell? ⟨N,1,none⟩=some (.slice K n0 ck)∧W3.cell? ⟨N,2,none⟩=some (.slice V n0 cv)from⟨Hb.o.c1',Hb.o.c2'⟩);have hc:=zH (show W3.there N 1 1 from there_of_block Hb.o.nd 1 (by simp));have hD:=zH (qcK Hb.o.ko);have hH:=zH (qcK Hb.o.vo);refine hKr.out _ _ (qaa Ht.o) (fun _=>?_);clear hKr Kr;try simp only[zS]
   refine zP 18 39 (.pointer (some ⟨N,0,none⟩)) Ht.o ?_;try simp only[zS]
   refine zP 19 40 (.pointer (some ⟨N,1,none⟩)) Ht.o ?_;try simp only[zS]
   refine qae (rs:=[20]) (by kernel_rfl) (by simp) ?_;refine AllReadyG.cons rfl (fun Kr hKr=>?_) AllReadyG.nil;refine Eq.mpr (zaw (by rfl)) ?_;refine qaA 103 (.tmp 40) (.tmp 30) rfl N 1 k2 rfl rfl hc.o (by kernel_rfl) hD.o ?_;have He:=zH (Hb.o.st1 k2);have Hi:=zH (Hm.o.setCell (p:=⟨N,1,none⟩) Hb.o.lo k2);generalize W3.setCell ⟨N,1,none⟩ k2=W4 at He Hi⊢;have hd:=zH (show W4.there N 2 1 from there_of_block He.o.nd 2 (by simp));refine hKr.out _ _ (qaf 20 (by rfl) (by kernel_rfl)) (fun _=>?_);clear hKr Kr;try simp only[zS]
   refine zR 21 41 (.pointer (some ⟨N,0,none⟩)) (qaf 20 (by rfl) (by kernel_rfl)) ?_;try simp only[zS]
   refine zR 22 42 (.pointer (some ⟨N,2,none⟩)) (qaf 20 (by rfl) (by kernel_rfl)) ?_;try simp only[zS]
   refine qae (rs:=[23]) (by kernel_rfl) (by simp) ?_;refine AllReadyG.cons rfl (fun Kr hKr=>?_) AllReadyG.nil;refine Eq.mpr (zaw (by rfl)) ?_;refine qaA 103 (.tmp 42) (.tmp 38) rfl N 2 v3 rfl rfl hd.o (by kernel_rfl) hH.o ?_;have Hc:=zH (He.o.st2 v3);have Hw:=zH (Hi.o.setCell (p:=⟨N,2,none⟩) He.o.lo v3);generalize W4.setCell ⟨N,2,none⟩ v3=W5 at Hc Hw⊢;refine hKr.out _ _ (qaf 23 (by rfl) (by kernel_rfl)) (fun _=>?_);clear hKr Kr;try simp only[zS]
   refine qad (by kernel_rfl) ?_ _;go_wp2;go_meet
   case rel=>
    refine⟨k2,v3,n0-1,⟨.slice X 0 cx,[],?_⟩,Hw.o,by have:=hm.o;omega,by omega⟩;rw[←Hu.o,←HF.o,hm.o,HJ.o];exact Hc.o
 case rest=>
  rename World=>wx;obtain⟨k,vl,m,⟨x,vx,hq⟩,hb,hm1,hm2⟩:=hcut;have hh:=zH hq;have HZ:=zH hb;have hK:=zH hm1;have HL:=zH (qiy (key:=key) (v:=v) HS.o);rw[HI.o,hp.o,HT.o]at HL;have HR:=zH hq.ko.len;have hJ:=zH hq.vo.len;clear hq hb hm1;cases v with
  | none=>
   have hA:=HV.o;unfold VaM at hA;subst hA;go_wp2;go_ret;refine⟨N,rfl,?_,HZ.o⟩;rw[HL.o];have hq:=hh.o;have hI:(ps.take i++(Option.toList (none:Option Bs)).map (fun y=>(key,y))++ps.drop (i+t)).length=m:=by
    have h2:=HR.o;rw[←Hu.o]at h2;have h3:=Hv.o.len;rw[zaE]at h3;simp only[zad,zag,zap,Option.toList_none,zbA,zaZ]at h2⊢;omega
   refine hq.leaf hI (.inr ⟨hq.lo,hq.lt⟩) (fun b e=>.inr (hq.ko.blk b e)) (fun b e=>.inr (hq.vo.blk b e)) ?_ ?_
   ·rw[←Hu.o];have hr:=Hv.o.same (Same.of_below HZ.o);have h4:=(hr.split i).1.append (hr.split (i+t)).2;simp only[Option.toList_none,zbA,zaG,zbD,zb7,zb6]at h4⊢;exact h4.mono fun b hb=>.inl hb
   ·rw[←HF.o];have hr:=HE.o.same (Same.of_below HZ.o);have h4:=(hr.split i).1.append (hr.split (i+t)).2;simp only[Option.toList_none,zbA,zaG,zbD,zb7,zb6]at h4⊢;exact h4.mono fun b hb=>.inl hb
  | some l=>
   obtain⟨ad,c2,hve,hc2,hby⟩:=HV.o;subst hve;obtain⟨ln,hln⟩:∃ ln,l.length=ln:=⟨_,rfl⟩;rw[hln]at hc2⊢;have H7:=zH hby
   have H9:=zH hln;clear hby hln HV;obtain⟨i0,hi0,hz0,hz1,hz2⟩:=zaT qbP;obtain⟨uk,huk⟩:∃ u,Value.slice A n c=u:=⟨_,rfl⟩;obtain⟨uv,huv⟩:∃ u,Value.slice (some ad) ln c2=u:=⟨_,rfl⟩;have H1:=zH huk;have H2:=zH huv;have HG:i≤m:=by
    have h2:=HR.o;rw[←Hu.o]at h2;have h3:=Hv.o.len;have h4:=HD.o;rw[zaE]at h3;simp only[zad,zag,zap]at h2;omega
   have H4:=zH (show ∀ u∈vkA,u.oneCell'=true from fun u hu=>Hv.o.one_cell u (by
    rw[←Hu.o]at hu;rcases zar.1 hu with h|h
    ·exact zaY h
    ·exact zaU h))
   have H5:=zH (show ∀ u∈vvA,u.oneCell'=true from fun u hu=>HE.o.one_cell u (by
    rw[←HF.o]at hu;rcases zar.1 hu with h|h
    ·exact zaY h
    ·exact zaU h))
   have HY:uk.oneCell'=true:=by rw[←huk];rfl
   have HH:uv.oneCell'=true:=by rw[←huv];rfl
   clear huk huv;go_upto_region 6 with fail
   rw[H1.o,H2.o];have Hj:Hd (NdQ wx.drew w.heap.size N true k vl x k m vkA vl m vvA x 0 vx):=zH (hh.o.touch (F:=fun _=>False) (Touch.refl _ _).drew id (fun _ _=>id) (fun _ _=>id) (fun _ _=>id));have Ha:=zH (show wx.drew.cell? ⟨N,1,none⟩=some k∧wx.drew.cell? ⟨N,2,none⟩=some vl from⟨Hj.o.c1',Hj.o.c2'⟩);have HA:Hd (Below w.heap.size w wx.drew):=zH HZ.o.drew;refine qac (S:=fun W=>W.cell? ⟨N,1,none⟩=some k∧W.cell? ⟨N,2,none⟩=some vl) [20,23] (by kernel_rfl) Ha.o (fun _=>?_);refine zP 0 45 (.pointer (some ⟨N,0,none⟩)) Ha.o ?_;try simp only[zS]
   refine zP 1 46 (.pointer (some ⟨N,0,none⟩)) Ha.o ?_;try simp only[zS]
   refine zP 2 47 (.pointer (some ⟨N,0,none⟩)) Ha.o ?_;try simp only[zS]
   refine zP 3 48 (.pointer (some ⟨N,0,none⟩)) Ha.o ?_;try simp only[zS]
   refine zP 4 49 (.pointer (some ⟨N,1,none⟩)) Ha.o ?_;try simp only[zS]
   refine zL 5 50 (k) rfl (Or.inl ⟨by rfl,fun W hS=>by obtain⟨hS1,hS2⟩:=hS;go_simp⟩) (qaa Ha.o) ?_;try simp only[zS]
   refine zP 6 51 (.int .i64 (i:Int)) Ha.o ?_;try simp only[zS]
   refine zP 7 52 (uk) Ha.o ?_;try simp only[zS]
   refine zP 10 55 (.pointer (some ⟨N,0,none⟩)) Ha.o ?_;try simp only[zS]
   refine zP 11 56 (.pointer (some ⟨N,0,none⟩)) Ha.o ?_;try simp only[zS]
   refine zP 12 57 (.pointer (some ⟨N,2,none⟩)) Ha.o ?_;try simp only[zS]
   refine zL 13 58 (vl) rfl (Or.inl ⟨by rfl,fun W hS=>by obtain⟨hS1,hS2⟩:=hS;go_simp⟩) (qaa Ha.o) ?_;try simp only[zS]
   refine zP 14 59 (.int .i64 (i:Int)) Ha.o ?_;try simp only[zS]
   refine zP 15 60 (uv) Ha.o ?_;try simp only[zS]
   refine qae (rs:=[8,16]) (by kernel_rfl) (by simp) ?_;refine AllReadyG.cons rfl (fun Kr hKr=>?_) (AllReadyG.cons rfl (fun Kr hKr=>?_) AllReadyG.nil)
   ·skip
    refine Eq.mpr (zaw (by rfl)) ?_;refine qaP 103 (.tmp 52) rfl Tryz.underlying103 hi0 hz0 hz1 (by decide) (by decide) uk rfl [uk] (qcC HY) rfl ?_;have Hf:=zH (Hj.o.below ((zai _ _).alloc (zac _) (.cells #[uk] 34)));have Hn:=zH (HA.o.alloc HA.o.size (.cells #[uk] 34));have HC:=zH (zaf wx.drew (.cells #[uk] 34));obtain⟨Ck,hCk⟩:∃ C,wx.drew.heap.size=C:=⟨_,rfl⟩;have Hs:=zH (show(k).ownBlock≠some Ck∧(vl).ownBlock≠some Ck from⟨fun e=>by have:=(Hj.o.ko.blk Ck e).2;omega,fun e=>by have:=(Hj.o.vo.blk Ck e).2;omega⟩);rw[hCk]at HC⊢;clear hCk;generalize wx.drew.alloc (.cells #[uk] 34)=W2 at *;have HN:=zH (show W2.cell? ⟨N,1,none⟩=some k∧W2.cell? ⟨N,2,none⟩=some vl from⟨Hf.o.c1',Hf.o.c2'⟩);refine hKr.out _ _ (qaa HN.o) (fun _=>?_);clear hKr Kr;try simp only[zS]
    refine qae (rs:=[9,16]) (by kernel_rfl) (by simp) ?_;refine AllReadyG.cons rfl (fun Kr hKr=>?_) (AllReadyG.cons rfl (fun Kr hKr=>?_) AllReadyG.nil)
    ·skip
     go_simp;go_at_call 73
     refine(qa1 (cc:=1) Hf.o.ko H4.o HG (by omega) HC.o HY Hs.o.1 Hn.o.size).mono ?_;rintro e W3 ⟨k3,rfl,ho,hu⟩;have Hb:=zH (Hf.o.updK ho hu);have Hm:=zH (qan Hn.o Hn.o.size hu.touch (fun b e _=>(Hf.o.ko.blk b e).1));clear ho hu;have Ht:=zH (show W3.cell? ⟨N,1,none⟩=some k∧W3.cell? ⟨N,2,none⟩=some vl from⟨Hb.o.c1',Hb.o.c2'⟩);refine hKr.out _ _ (qaa Ht.o) (fun _=>?_);clear hKr Kr;try simp only[zS]
     refine qae (rs:=[16]) (by kernel_rfl) (by simp) ?_;refine AllReadyG.cons rfl (fun Kr hKr=>?_) AllReadyG.nil;refine Eq.mpr (zaw (by rfl)) ?_;refine qaP 103 (.tmp 60) rfl Tryz.underlying103 hi0 hz0 hz1 (by decide) (by decide) uv rfl [uv] (qcC HH) rfl ?_;have He:=zH (Hb.o.below ((zai _ _).alloc (zac _) (.cells #[uv] 34)));have Hi:=zH (Hm.o.alloc Hm.o.size (.cells #[uv] 34));have Hl:=zH (zaf W3 (.cells #[uv] 34));obtain⟨Cv,hCv⟩:∃ C,W3.heap.size=C:=⟨_,rfl⟩;have Hh:=zH (show(k3).ownBlock≠some Cv∧(vl).ownBlock≠some Cv from⟨fun e=>by have:=(Hb.o.ko.blk Cv e).2;omega,fun e=>by have:=(Hb.o.vo.blk Cv e).2;omega⟩);rw[hCv]at Hl⊢;clear hCv;generalize W3.alloc (.cells #[uv] 34)=W4 at *;have HP:=zH (show W4.cell? ⟨N,1,none⟩=some k∧W4.cell? ⟨N,2,none⟩=some vl from⟨He.o.c1',He.o.c2'⟩);refine hKr.out _ _ (qaa HP.o) (fun _=>?_);clear hKr Kr;try simp only[zS]
     refine qae (rs:=[17]) (by kernel_rfl) (by simp) ?_;refine AllReadyG.cons rfl (fun Kr hKr=>?_) AllReadyG.nil;go_simp;go_at_call 73
     refine(qa1 (cc:=1) He.o.vo H5.o HG (by omega) Hl.o HH Hh.o.2 Hi.o.size).mono ?_;rintro e W5 ⟨v5,rfl,ho,hu⟩;have Hc:=zH (He.o.updV ho hu);have Hw:=zH (qan Hi.o Hi.o.size hu.touch (fun b e _=>(He.o.vo.blk b e).1));clear ho hu;have Ho:=zH (show W5.cell? ⟨N,1,none⟩=some k∧W5.cell? ⟨N,2,none⟩=some vl from⟨Hc.o.c1',Hc.o.c2'⟩);refine hKr.out _ _ (qaa Ho.o) (fun _=>?_);clear hKr Kr;try simp only[zS]
     refine zP 18 63 (.pointer (some ⟨N,0,none⟩)) Ho.o ?_;try simp only[zS]
     refine zP 19 64 (.pointer (some ⟨N,1,none⟩)) Ho.o ?_;try simp only[zS]
     refine qae (rs:=[20]) (by kernel_rfl) (by simp) ?_;refine AllReadyG.cons rfl (fun Kr hKr=>?_) AllReadyG.nil;have Hp:=zH (show W5.there N 1 1 from there_of_block Hc.o.nd 1 (by simp));have HU:=zH (qcK Hc.o.ko);refine Eq.mpr (zaw (by rfl)) ?_;refine qaA 103 (.tmp 64) (.tmp 54) rfl N 1 k3 rfl rfl Hp.o (by kernel_rfl) HU.o ?_;have Hg:=zH (Hc.o.st1 k3);have Hx:=zH (Hw.o.setCell (p:=⟨N,1,none⟩) Hc.o.lo k3);generalize W5.setCell ⟨N,1,none⟩ k3=W6 at Hg Hx⊢;refine hKr.out _ _ (qaf 20 (by rfl) (by kernel_rfl)) (fun _=>?_);clear hKr Kr;try simp only[zS]
     refine zR 21 65 (.pointer (some ⟨N,0,none⟩)) (qaf 20 (by rfl) (by kernel_rfl)) ?_;try simp only[zS]
     refine zR 22 66 (.pointer (some ⟨N,2,none⟩)) (qaf 20 (by rfl) (by kernel_rfl)) ?_;try simp only[zS]
     refine qae (rs:=[23]) (by kernel_rfl) (by simp) ?_;refine AllReadyG.cons rfl (fun Kr hKr=>?_) AllReadyG.nil;have Hq:=zH (show W6.there N 2 1 from there_of_block Hg.o.nd 2 (by simp));have HW:=zH (qcK Hg.o.vo);refine Eq.mpr (zaw (by rfl)) ?_;refine qaA 103 (.tmp 66) (.tmp 62) rfl N 2 v5 rfl rfl Hq.o (by kernel_rfl) HW.o ?_;have Hz:=zH (Hg.o.st2 v5);have Hy:=zH (Hx.o.setCell (p:=⟨N,2,none⟩) Hg.o.lo v5);generalize W6.setCell ⟨N,2,none⟩ v5=W7 at Hz Hy⊢;refine hKr.out _ _ (qaf 23 (by rfl) (by kernel_rfl)) (fun _=>?_);clear hKr Kr;try simp only[zS]
     refine qad (by kernel_rfl) ?_ _;go_wp2;go_ret;exact qip HL.o Hu.o HF.o Hv.o HE.o HK.o H7.o H0.o H9.o H1.o H2.o hkc hc2 HR.o HD.o Hz.o Hy.o
    ·skip
     refine Eq.mpr (zaw (by rfl)) ?_;refine qaP 103 (.tmp 60) rfl Tryz.underlying103 hi0 hz0 hz1 (by decide) (by decide) uv rfl [uv] (qcC HH) rfl ?_;have Hb:=zH (Hf.o.below ((zai _ _).alloc (zac _) (.cells #[uv] 34)));have Hm:=zH (Hn.o.alloc Hn.o.size (.cells #[uv] 34));have Hk:=zH (zaf W2 (.cells #[uv] 34));have Hr:=zH (qap (.cells #[uv] 34) HC.o);obtain⟨Cv,hCv⟩:∃ C,W2.heap.size=C:=⟨_,rfl⟩;have Hh:=zH (show(k).ownBlock≠some Cv∧(vl).ownBlock≠some Cv from⟨fun e=>by have:=(Hf.o.ko.blk Cv e).2;omega,fun e=>by have:=(Hf.o.vo.blk Cv e).2;omega⟩);rw[hCv]at Hk⊢;clear hCv;generalize W2.alloc (.cells #[uv] 34)=W3 at *;have Ht:=zH (show W3.cell? ⟨N,1,none⟩=some k∧W3.cell? ⟨N,2,none⟩=some vl from⟨Hb.o.c1',Hb.o.c2'⟩);refine hKr.out _ _ (qaa Ht.o) (fun _=>?_);clear hKr Kr;try simp only[zS]
     refine qae (rs:=[9]) (by kernel_rfl) (by simp) ?_;refine AllReadyG.cons rfl (fun Kr hKr=>?_) AllReadyG.nil;go_simp;go_at_call 73
     refine(qa1 (cc:=1) Hb.o.ko H4.o HG (by omega) Hr.o HY Hs.o.1 Hm.o.size).mono ?_;rintro e W4 ⟨k4,rfl,ho,hu⟩;have He:=zH (Hb.o.updK ho hu);have Hi:=zH (qan Hm.o Hm.o.size hu.touch (fun b e _=>(Hb.o.ko.blk b e).1));have Hl:=zH ((hu.touch.block Cv (zab.1 Hk.o).1 Hh.o.1).trans Hk.o);clear ho hu;have HP:=zH (show W4.cell? ⟨N,1,none⟩=some k∧W4.cell? ⟨N,2,none⟩=some vl from⟨He.o.c1',He.o.c2'⟩);refine hKr.out _ _ (qaa HP.o) (fun _=>?_);clear hKr Kr;try simp only[zS]
     refine qae (rs:=[17]) (by kernel_rfl) (by simp) ?_;refine AllReadyG.cons rfl (fun Kr hKr=>?_) AllReadyG.nil;go_simp;go_at_call 73
     refine(qa1 (cc:=1) He.o.vo H5.o HG (by omega) Hl.o HH Hh.o.2 Hi.o.size).mono ?_;rintro e W5 ⟨v5,rfl,ho,hu⟩;have Hc:=zH (He.o.updV ho hu);have Hw:=zH (qan Hi.o Hi.o.size hu.touch (fun b e _=>(He.o.vo.blk b e).1));clear ho hu;have Ho:=zH (show W5.cell? ⟨N,1,none⟩=some k∧W5.cell? ⟨N,2,none⟩=some vl from⟨Hc.o.c1',Hc.o.c2'⟩);refine hKr.out _ _ (qaa Ho.o) (fun _=>?_);clear hKr Kr;try simp only[zS]
     refine zP 18 63 (.pointer (some ⟨N,0,none⟩)) Ho.o ?_;try simp only[zS]
     refine zP 19 64 (.pointer (some ⟨N,1,none⟩)) Ho.o ?_;try simp only[zS]
     refine qae (rs:=[20]) (by kernel_rfl) (by simp) ?_;refine AllReadyG.cons rfl (fun Kr hKr=>?_) AllReadyG.nil;have Hp:=zH (show W5.there N 1 1 from there_of_block Hc.o.nd 1 (by simp));have HU:=zH (qcK Hc.o.ko);refine Eq.mpr (zaw (by rfl)) ?_;refine qaA 103 (.tmp 64) (.tmp 54) rfl N 1 k4 rfl rfl Hp.o (by kernel_rfl) HU.o ?_;have Hg:=zH (Hc.o.st1 k4);have Hx:=zH (Hw.o.setCell (p:=⟨N,1,none⟩) Hc.o.lo k4);generalize W5.setCell ⟨N,1,none⟩ k4=W6 at Hg Hx⊢;refine hKr.out _ _ (qaf 20 (by rfl) (by kernel_rfl)) (fun _=>?_);clear hKr Kr;try simp only[zS]
     refine zR 21 65 (.pointer (some ⟨N,0,none⟩)) (qaf 20 (by rfl) (by kernel_rfl)) ?_;try simp only[zS]
     refine zR 22 66 (.pointer (some ⟨N,2,none⟩)) (qaf 20 (by rfl) (by kernel_rfl)) ?_;try simp only[zS]
     refine qae (rs:=[23]) (by kernel_rfl) (by simp) ?_;refine AllReadyG.cons rfl (fun Kr hKr=>?_) AllReadyG.nil;have Hq:=zH (show W6.there N 2 1 from there_of_block Hg.o.nd 2 (by simp));have HW:=zH (qcK Hg.o.vo);refine Eq.mpr (zaw (by rfl)) ?_;refine qaA 103 (.tmp 66) (.tmp 62) rfl N 2 v5 rfl rfl Hq.o (by kernel_rfl) HW.o ?_;have Hz:=zH (Hg.o.st2 v5);have Hy:=zH (Hx.o.setCell (p:=⟨N,2,none⟩) Hg.o.lo v5);generalize W6.setCell ⟨N,2,none⟩ v5=W7 at Hz Hy⊢;refine hKr.out _ _ (qaf 23 (by rfl) (by kernel_rfl)) (fun _=>?_);clear hKr Kr;try simp only[zS]
     refine qad (by kernel_rfl) ?_ _;go_wp2;go_ret;exact qip HL.o Hu.o HF.o Hv.o HE.o HK.o H7.o H0.o H9.o H1.o H2.o hkc hc2 HR.o HD.o Hz.o Hy.o
   ·skip
    refine Eq.mpr (zaw (by rfl)) ?_;refine qaP 103 (.tmp 60) rfl Tryz.underlying103 hi0 hz0 hz1 (by decide) (by decide) uv rfl [uv] (qcC HH) rfl ?_;have Hf:=zH (Hj.o.below ((zai _ _).alloc (zac _) (.cells #[uv] 34)));have Hn:=zH (HA.o.alloc HA.o.size (.cells #[uv] 34));have HM:=zH (zaf wx.drew (.cells #[uv] 34));obtain⟨Cv,hCv⟩:∃ C,wx.drew.heap.size=C:=⟨_,rfl⟩;have Hh:=zH (show(k).ownBlock≠some Cv∧(vl).ownBlock≠some Cv from⟨fun e=>by have:=(Hj.o.ko.blk Cv e).2;omega,fun e=>by have:=(Hj.o.vo.blk Cv e).2;omega⟩);rw[hCv]at HM⊢;clear hCv;generalize wx.drew.alloc (.cells #[uv] 34)=W2 at *;have HN:=zH (show W2.cell? ⟨N,1,none⟩=some k∧W2.cell? ⟨N,2,none⟩=some vl from⟨Hf.o.c1',Hf.o.c2'⟩);refine hKr.out _ _ (qaa HN.o) (fun _=>?_);clear hKr Kr;try simp only[zS]
    refine qae (rs:=[8]) (by kernel_rfl) (by simp) ?_;refine AllReadyG.cons rfl (fun Kr hKr=>?_) AllReadyG.nil;refine Eq.mpr (zaw (by rfl)) ?_;refine qaP 103 (.tmp 52) rfl Tryz.underlying103 hi0 hz0 hz1 (by decide) (by decide) uk rfl [uk] (qcC HY) rfl ?_;have Hb:=zH (Hf.o.below ((zai _ _).alloc (zac _) (.cells #[uk] 34)));have Hm:=zH (Hn.o.alloc Hn.o.size (.cells #[uk] 34));have Hr:=zH (zaf W2 (.cells #[uk] 34));have Hk:=zH (qap (.cells #[uk] 34) HM.o);obtain⟨Ck,hCk⟩:∃ C,W2.heap.size=C:=⟨_,rfl⟩;have Hs:=zH (show(k).ownBlock≠some Ck∧(vl).ownBlock≠some Ck from⟨fun e=>by have:=(Hf.o.ko.blk Ck e).2;omega,fun e=>by have:=(Hf.o.vo.blk Ck e).2;omega⟩);rw[hCk]at Hr⊢;clear hCk;generalize W2.alloc (.cells #[uk] 34)=W3 at *;have Ht:=zH (show W3.cell? ⟨N,1,none⟩=some k∧W3.cell? ⟨N,2,none⟩=some vl from⟨Hb.o.c1',Hb.o.c2'⟩);refine hKr.out _ _ (qaa Ht.o) (fun _=>?_);clear hKr Kr;try simp only[zS]
    refine qae (rs:=[9]) (by kernel_rfl) (by simp) ?_;refine AllReadyG.cons rfl (fun Kr hKr=>?_) AllReadyG.nil;go_simp;go_at_call 73
    refine(qa1 (cc:=1) Hb.o.ko H4.o HG (by omega) Hr.o HY Hs.o.1 Hm.o.size).mono ?_;rintro e W4 ⟨k4,rfl,ho,hu⟩;have He:=zH (Hb.o.updK ho hu);have Hi:=zH (qan Hm.o Hm.o.size hu.touch (fun b e _=>(Hb.o.ko.blk b e).1));have Hl:=zH ((hu.touch.block Cv (zab.1 Hk.o).1 Hh.o.1).trans Hk.o);clear ho hu;have HP:=zH (show W4.cell? ⟨N,1,none⟩=some k∧W4.cell? ⟨N,2,none⟩=some vl from⟨He.o.c1',He.o.c2'⟩);refine hKr.out _ _ (qaa HP.o) (fun _=>?_);clear hKr Kr;try simp only[zS]
    refine qae (rs:=[17]) (by kernel_rfl) (by simp) ?_;refine AllReadyG.cons rfl (fun Kr hKr=>?_) AllReadyG.nil;go_simp;go_at_call 73
    refine(qa1 (cc:=1) He.o.vo H5.o HG (by omega) Hl.o HH Hh.o.2 Hi.o.size).mono ?_;rintro e W5 ⟨v5,rfl,ho,hu⟩;have Hc:=zH (He.o.updV ho hu);have Hw:=zH (qan Hi.o Hi.o.size hu.touch (fun b e _=>(He.o.vo.blk b e).1));clear ho hu;have Ho:=zH (show W5.cell? ⟨N,1,none⟩=some k∧W5.cell? ⟨N,2,none⟩=some vl from⟨Hc.o.c1',Hc.o.c2'⟩);refine hKr.out _ _ (qaa Ho.o) (fun _=>?_);clear hKr Kr;try simp only[zS]
    refine zP 18 63 (.pointer (some ⟨N,0,none⟩)) Ho.o ?_;try simp only[zS]
    refine zP 19 64 (.pointer (some ⟨N,1,none⟩)) Ho.o ?_;try simp only[zS]
    refine qae (rs:=[20]) (by kernel_rfl) (by simp) ?_;refine AllReadyG.cons rfl (fun Kr hKr=>?_) AllReadyG.nil;have Hp:=zH (show W5.there N 1 1 from there_of_block Hc.o.nd 1 (by simp));have HU:=zH (qcK Hc.o.ko);refine Eq.mpr (zaw (by rfl)) ?_;refine qaA 103 (.tmp 64) (.tmp 54) rfl N 1 k4 rfl rfl Hp.o (by kernel_rfl) HU.o ?_;have Hg:=zH (Hc.o.st1 k4);have Hx:=zH (Hw.o.setCell (p:=⟨N,1,none⟩) Hc.o.lo k4);generalize W5.setCell ⟨N,1,none⟩ k4=W6 at Hg Hx⊢;refine hKr.out _ _ (qaf 20 (by rfl) (by kernel_rfl)) (fun _=>?_);clear hKr Kr;try simp only[zS]
    refine zR 21 65 (.pointer (some ⟨N,0,none⟩)) (qaf 20 (by rfl) (by kernel_rfl)) ?_;try simp only[zS]
    refine zR 22 66 (.pointer (some ⟨N,2,none⟩)) (qaf 20 (by rfl) (by kernel_rfl)) ?_;try simp only[zS]
    refine qae (rs:=[23]) (by kernel_rfl) (by simp) ?_;refine AllReadyG.cons rfl (fun Kr hKr=>?_) AllReadyG.nil;have Hq:=zH (show W6.there N 2 1 from there_of_block Hg.o.nd 2 (by simp));have HW:=zH (qcK Hg.o.vo);refine Eq.mpr (zaw (by rfl)) ?_;refine qaA 103 (.tmp 66) (.tmp 62) rfl N 2 v5 rfl rfl Hq.o (by kernel_rfl) HW.o ?_;have Hz:=zH (Hg.o.st2 v5);have Hy:=zH (Hx.o.setCell (p:=⟨N,2,none⟩) Hg.o.lo v5);generalize W6.setCell ⟨N,2,none⟩ v5=W7 at Hz Hy⊢;refine hKr.out _ _ (qaf 23 (by rfl) (by kernel_rfl)) (fun _=>?_);clear hKr Kr;try simp only[zS]
    refine qad (by kernel_rfl) ?_ _;go_wp2;go_ret;exact qip HL.o Hu.o HF.o Hv.o HE.o HK.o H7.o H0.o H9.o H1.o H2.o hkc hc2 HR.o HD.o Hz.o Hy.o
end Go.Proofs.YtpmebcgmgfcmiaaGreatDoor
