/- Texts LwU LwQ. -/
import Derived.Test.YtpmebcgmgfcmiaaGreatDoorQ37
import Derived.Test.YtpmebcgmgfcmiaaGreatDoorCards
import Derived.Test.YtpmebcgmgfcmiaaGreatDoorTie
import Derived.Deep.DeepWitnessRowRef
import Derived.Deep.DeepLaidRun
import Derived.LaidHandle
import Derived.Lib.SmallJoins
set_option linter.all false
set_option maxRecDepth 100000
set_option maxHeartbeats 16000000
namespace Go.Proofs.YtpmebcgmgfcmiaaGreatDoor
open Go.RowKit BT Go.Lib
theorem qki {W:World}{A1 A2 A3:Option Addr}{c1 c2 c3:Nat}{xs gs zs:List Int}(hnib:Nib W)(h1:Ints W A1 xs)(r1:∀ x∈xs,-9223372036854775808≤x∧x≤9223372036854775807)(h2:Ints W A2 gs)(r2:∀ x∈gs,-9223372036854775808≤x∧x≤9223372036854775807)(h3:Ints W A3 zs)(r3:∀ x∈zs,-9223372036854775808≤x∧x≤9223372036854775807) :
  Calls Tryz.prog 4 #[.slice A1 xs.length c1,.slice A2 gs.length c2,.slice A3 zs.length c3] W (fun e w'=>e=.returned (.bool true)∧Below W.heap.size W w'):=by
 have Kh:1<W.heap.size:=zaH W ⟨1,0,none⟩ (hnib 0 (by omega));obtain⟨j0,hj0,jz0,jz1,jz2⟩:=zaT qiK;have l1:=h1.len;have l2:=h2.len;have l3:=h3.len;obtain⟨n1,hn1⟩:∃ x,xs.length=x:=⟨_,rfl⟩;obtain⟨n2,hn2⟩:∃ x,gs.length=x:=⟨_,rfl⟩;obtain⟨n3,hn3⟩:∃ x,zs.length=x:=⟨_,rfl⟩;have HX:=zH (fun i (hi:i<n1)=>h1.get r1 (i:=i) (by omega));have ht:=zH (fun i (hi:i<n2)=>h2.get r2 (i:=i) (by omega));have hM:=zH (fun i (hi:i<n3)=>h3.get r3 (i:=i) (by omega));have hI:=zH (qjC hnib);have hA:=zH hnib;rw[hn1]at l1⊢;rw[hn2]at l2⊢;rw[hn3]at l3⊢;clear h1 r1 h2 r2 h3 r3 hn1 hn2 hn3 hnib;go_enter Tryz.func4,Tryz.ntmps4
 go_upto_region 4 with(go_at_call 5;refine hI.o.mono ?_;rintro e w1 ⟨rfl,hb1⟩;have HC:=zH hb1;clear hb1)
 have H0:=zH ((qfw (hA.o.below HC.o) 300 (by omega)).mono fun e w' hh=>qlF (L:=2) (by have:=HC.o.size;omega) hh);obtain⟨B,hB⟩:∃ x,w1.heap.size=x:=⟨_,rfl⟩;have HD:=zH (show W.heap.size≤B by rw[←hB];exact HC.o.size);have h5:=zH hB;rw[hB]at H0;clear hB;go_upto_region 7 with(go_at_call 6;refine H0.o.mono ?_;rintro e w2 ⟨D,a,G,T,F,t,Rn,Ro,rfl,hst,hgd,-,hb2⟩;have HI:=zH (show MnR W B D a 0 0 w2 from⟨_,_,_,_,0,_,_,_,_,_,hst,hgd,Int.le_refl _,Int.le_refl _,HC.o.trans (hb2.mono HD.o)⟩);clear hst hgd hb2)
 go_upto_block 0 with fail
 go_cut [9] (fun _ wx=>MnR W B D a 200 200 wx)
 case first=>
  go_wp2_with fail
  go_loopw [9] (fun s9 wx=>∃ i:Nat,s9=.int .i64 (i:Int)∧i≤200∧i≤n1∧MnR W B D a i i wx) (fun s9 _=>200-(RowKit.intOf s9).toNat)
  case atStart=>exact⟨0,rfl,za7 _,za7 _,HI.o⟩
  case round=>
   rename World=>wx;obtain⟨i,rfl,hi2,hin,hm⟩:=hrel;have HM:=zH hm;clear hm HI;obtain⟨b,hb⟩:∃ b,(decide (i<n1)&&decide (i<200))=b:=⟨_,rfl⟩;have HB:=zH hb;clear hb;go_upto_region 8 with fail
   go_cut [32] (fun s32 wy=>s32=.bool b∧wy=wx)
   case first=>
    by_cases k1:i<n1
    ·have Hz:(i:Int)<(n1:Int):=by omega
     by_cases k2:i<200
     ·have HZ:(i:Int)<200:=by omega
      obtain rfl:b=true:=by rw[←HB.o,zas k1,zas k2];rfl
      go_wp2;go_meet
      case rel=>exact⟨rfl,rfl⟩
     ·have HZ:¬((i:Int)<200):=by omega
      obtain rfl:b=false:=by rw[←HB.o,zal k2,Bool.and_false]
      go_wp2;go_meet
      case rel=>exact⟨rfl,rfl⟩
    ·have Hz:¬((i:Int)<(n1:Int)):=by omega
     obtain rfl:b=false:=by rw[←HB.o,zal k1,Bool.false_and]
     go_wp2;go_meet
     case rel=>exact⟨rfl,rfl⟩
   case rest=>
    rename World=>wc;obtain⟨rfl,rfl⟩:=hcut;cases b with
    | false=>
     go_wp2;go_meet
     case rel=>exact HM.o.mono hi2 hi2
    | true=>
     obtain⟨k1,k2⟩:i<n1∧i<200:=by have:=HB.o;simpa using this
     obtain⟨b1,o1,x,rfl,hbl,hcx,hx⟩:=HX.o i k1;obtain⟨V,t,now,old,dims,G,T,F,Rn,Ro,hst,hgd,hd0,hdi,hbw⟩:=HM.o;have q0:wc.cell? ⟨b1,o1+i,none⟩=some (.int .i64 x):=(hbw.cell (p:=⟨b1,o1+i,none⟩) hbl).trans hcx;obtain⟨oi,hoi⟩:∃ z,o1+i=z:=⟨_,rfl⟩;rw[hoi]at q0;have Hz:(i:Int)<(n1:Int):=by omega
     have h4:(0:Int)≤(i:Int):=by omega
     have Hf:=qc4 (w:=wc) x hx 600 (by omega) (by omega);have hV:=qlJ x (n:=600) (by omega);obtain⟨q,hq⟩:∃ q,wh x 600=q:=⟨_,rfl⟩;rw[hq]at Hf hV;have HN:=zH Hf;have Hg:=zH hst;have HH:=zH hgd;have He:=zH hbw;have HG:=zH (show 0≤dims∧dims≤i from⟨hd0,hdi⟩);clear hst hgd hbw hcx hbl Hf hq hd0 hdi;go_upto_region 11 with(go_at_call 8;refine HN.o.mono ?_;rintro e w5 ⟨rfl,rfl⟩)
     obtain⟨r,hr⟩:∃ r,q % 250=r:=⟨_,rfl⟩;have H6:r<250:=by omega
     have Kf:(q:Int).tmod 250=(r:Int):=by rw[zb3 (by omega)];omega
     have Kg:IntKind.u8.wrap (r:Int)=(r:Int):=IntWalk.u8_in _ (by omega);have H8:(UInt8.ofNat r).toNat=r:=by rw[zbO,zbk (by omega)]
     have Hb:=qlr wc (UInt8.ofNat r);rw[H8]at Hb;obtain⟨w4,hw4⟩:∃ y,wc.alloc (.cells #[.int .u8 (r:Int)] 5)=y:=⟨_,rfl⟩;have H4:Below wc.heap.size wc w4:=by rw[←hw4];exact zB _ _
     have H9:w4.heap.size=wc.heap.size+1:=by rw[←hw4,za2]
     rw[hw4]at Hb;have H2:=zH Hb;have HE:=zH H4;have hL:=zH H9;have HR:=zH hr;clear Hb H4 H9 H8 hr;go_upto_if 45 with fail
     go_cut [11] (fun s11 wy=>∃ (A:Option Addr) (c:Nat) (key:Bs),s11=.slice A key.length c∧key.length≤c∧1≤key.length∧key.length≤2∧ByS wy (fun b=>wc.heap.size≤b∧b<wy.heap.size) A key∧Below wc.heap.size wc wy)
     case first=>
      by_cases hq2:250≤q
      ·have HW:(250:Int)≤(q:Int):=by omega
       have hX:(q:Int)≥250:=by omega
       have hW:decide ((250:Int)≤(q:Int))=true:=zas HW;obtain⟨d,hd⟩:∃ d,q / 250=d:=⟨_,rfl⟩;have Ka:d≤2:=by omega
       have Kc:(q:Int).tdiv 250=(d:Int):=by rw[Int.tdiv_eq_ediv_of_nonneg (by omega)];omega
       have Kb:IntKind.u8.wrap (d:Int)=(d:Int):=IntWalk.u8_in _ (by omega);have H5:(UInt8.ofNat d).toNat=d:=by rw[zbO,zbk (by omega)]
       obtain⟨w5,hw5⟩:∃ y,w4.alloc (.cells #[.int .u8 (d:Int)] 5)=y:=⟨_,rfl⟩;have Hr:Below w4.heap.size w4 w5:=by rw[←hw5];exact zB _ _
       have H7:Src w5 1 (some ⟨w4.heap.size,0,none⟩) 1 (bv [UInt8.ofNat d]):=by
        have e:bv [UInt8.ofNat d]=[.int .u8 (d:Int)]:=by show[Value.int .u8 (((UInt8.ofNat d).toNat:Nat):Int)]=_;rw[H5]
        rw[e,←hw5];exact qaE (zaf w4 _) rfl
       have hK:=zH H7;have hC:=zH (H2.o.below (zac _) Hr);have Hj:=zH Hr;clear H7 Hr H5 hd;go_wp2_with (at_builtin;refine qai rfl (.tmp 46) (.tmp 50) 34 rfl wc.heap.size 5 j0 _ 1 1 Tryz.underlying34 hj0 jz0 jz1 jz2 rfl (by decide) (.slice (some ⟨wc.heap.size,0,none⟩) 1 1) 1 (bv [UInt8.ofNat r]) rfl hC.o (some ⟨w4.heap.size,0,none⟩) 1 1 (bv [UInt8.ofNat d]) rfl hK.o (qaw _) (by unfold maxLen;omega) (by omega) (by have:=hL.o;have:=Hj.o.size;omega) ?_;intro A6 c6 w6 ho6 Hh;have hD:=zH ho6;have Hc:=zH Hh;clear ho6 Hh)
       go_meet
       case rel=>
        have ho:Own w6 wc.heap.size 5 1 (.slice A6 2 c6) 2 (bv [UInt8.ofNat r,UInt8.ofNat d]):=hD.o;obtain⟨A',c',e,hc⟩:=ho.slice;cases e;exact⟨A6,c6,[UInt8.ofNat r,UInt8.ofNat d],rfl,hc,by simp,by simp,qcJ ho rfl,HE.o.trans ((Hj.o.mono HE.o.size).trans Hc.o)⟩
      ·have HW:¬((250:Int)≤(q:Int)):=by omega
       have hX:¬((q:Int)≥250):=by omega
       have hW:decide ((250:Int)≤(q:Int))=false:=zal HW;go_wp2;go_meet
       case rel=>exact⟨_,1,[UInt8.ofNat r],rfl,zac _,by simp,by simp,qcJ H2.o rfl,HE.o⟩
     case rest=>
      rename World=>wk;obtain⟨A,c,key,rfl,hkc,hk1,Hs,hky,hbk⟩:=hcut;have HT:∃ (KA:Option Addr) (kc:Nat),A=KA∧c=kc:=⟨_,_,rfl,rfl⟩;obtain⟨w6,hw6⟩:∃ y,wk.alloc (.cells #[] 5)=y:=⟨_,rfl⟩;have Hh:Below wk.heap.size wk w6:=by rw[←hw6];exact zB _ _
      obtain⟨kn,hkn⟩:∃ y,key.length=y:=⟨_,rfl⟩;rw[hkn]at hkc hk1 Hs⊢;have H1:=zH hkn;have hw:=zH hky;have Hq:=zH hbk;have Hc:=zH Hh;clear hky hbk Hh hkn HT;go_upto_if 55 with fail
      go_cut [12] (fun s12 wy=>∃ (A:Option Addr) (c:Nat) (val:Bs),s12=.slice A val.length c∧val.length≤c∧val.length≤160∧ByS wy (fun b=>wk.heap.size≤b∧b<wy.heap.size) A val∧Below wk.heap.size wk wy)
      case first=>
       by_cases hn3:0<n3
       ·have hO:(n3:Int)>0:=by omega
        have HP:(0:Int)<(n3:Int):=by omega
        have hN:decide ((0:Int)<(n3:Int))=true:=zas HP;have h8:((n3:Int)==0)=false:=by rw[zaI];omega
        have h9:¬((n3:Int)=0):=by omega
        obtain⟨j,hj⟩:∃ j,i % n3=j:=⟨_,rfl⟩;have hR:j<n3:=by rw[←hj];exact zcG _ hn3
        have Ke:(i:Int).tmod (n3:Int)=(j:Int):=by rw[zb3 (by omega),←hj];rfl
        obtain⟨b3,o3,z,rfl,hbl3,hcz,hz⟩:=hM.o j hR;have Hv:Below W.heap.size W w6:=He.o.trans ((Hq.o.mono He.o.size).trans (Hc.o.mono (zah He.o.size Hq.o.size)));have qz:w6.cell? ⟨b3,o3+j,none⟩=some (.int .i64 z):=(Hv.cell (p:=⟨b3,o3+j,none⟩) hbl3).trans hcz;obtain⟨oj,hoj⟩:∃ y,o3+j=y:=⟨_,rfl⟩;rw[hoj]at qz;have hU:(j:Int)<(n3:Int):=by omega
        have hQ:(0:Int)≤(j:Int):=by omega
        have Hf:=qc4 (w:=w6) z hz 161 (by omega) (by omega);have hY:=qlJ z (n:=161) (by omega);obtain⟨sz,hse⟩:∃ y,wh z 161=y:=⟨_,rfl⟩;rw[hse]at Hf hY;have HO:=zH Hf;clear hbl3 hcz Hv Hf hse hj;go_wp2_with (first|(go_at_call 8;refine HO.o.mono ?_;rintro e w7 ⟨rfl,rfl⟩)|(refine zcd _ rfl (.tmp 63) (.tmp 63) 34 rfl w6.heap.size 5 j0 _ 1 Tryz.underlying34 hj0 jz0 jz1 .i64 .i64 _ _ sz rfl rfl rfl rfl (by rw[jz2];omega) (by unfold maxLen;omega) (zac _) ?_;intro w7 Hb hgr;have hE:=zH Hb;have hp:=zH hgr;clear Hb hgr))
        go_meet
        case rel=>
         have hP:Below w6.heap.size w6 w7:=zct (zai _ _) hp.o (zac _) (fun b hb=>by cases hb);have ho:=Own.of_own hE.o;rw[qjr]at ho;have hl:(zeros sz).length=sz:=zeros_len sz;refine⟨some ⟨w6.heap.size,0,none⟩,sz,zeros sz,by rw[hl],by omega,by omega,(qcJ ho hl).mono fun b hb=>⟨by have:=Hc.o.size;omega,hb.2⟩,Hc.o.trans (hP.mono Hc.o.size)⟩
       ·have hO:¬((n3:Int)>0):=by omega
        have HP:¬((0:Int)<(n3:Int)):=by omega
        have hN:decide ((0:Int)<(n3:Int))=false:=zal HP;go_wp2;go_meet
        case rel=>exact⟨_,0,[],rfl,zac _,by simp,⟨By.nil _ _,fun ad e h0=>absurd h0 (by simp)⟩,Hc.o⟩
      case rest=>
       rename World=>wv;obtain⟨VA,vc,val,rfl,hvc,hv160,hvy,hbv⟩:=hcut;obtain⟨vn,hvn⟩:∃ y,val.length=y:=⟨_,rfl⟩;rw[hvn]at hvc hv160;have Hp:=(Hg.o.below Hq.o).below hbv;have Hx:ByS wv (fun b=>b<wv.heap.size∧¬SU F G T D Rn Ro b) A key:=(hw.o.same (Same.of_below hbv)).mono fun b hb=>⟨by have:=hbv.size;omega,fun hu=>by have:=Hg.o.live b hu;omega⟩;have Hy:ByS wv (fun b=>b<wv.heap.size∧¬SU F G T D Rn Ro b) VA val:=hvy.mono fun b hb=>⟨hb.2,fun hu=>by have:=Hg.o.live b hu;have:=Hq.o.size;omega⟩;have Hm:=qcR (N:=200) (mm:=i+1) (put:=true) (kd:=0) (nn:=0) (pc:=0) (keep:=[]) (CA:=none) Hp HH.o (by omega) qdR (by omega) (by omega) (by omega) ⟨HG.o.1,by have:=HG.o.2;omega⟩ (fun _=>by rw[H1.o];exact Hs) rfl Hx H1.o hkc (by omega) Hy hvn (by omega) (by omega) ⟨by simp,fun h=>absurd h (by simp)⟩ (fun x hx=>by cases hx) (fun ad e=>by cases e);simp only[zaZ]at Hm;rw[hvn];have HF:=zH Hm;have ha:=zH hbv;have Hl:=zH Hp;clear Hp Hx Hy Hm hbv hvy hvn;go_wp2_with (go_at_call 12;refine HF.o.mono ?_;rintro e w9 hs;obtain⟨he,hrest⟩:=hs;subst he;have Ht:=zH hrest;clear hrest)
       obtain⟨V',t',now',old',dims',G',T',F',Rn',Ro',p1,p2,p3,p4,p5⟩:=Ht.o;have hd:=HG.o;have HQ:Below W.heap.size W w9:=He.o.trans ((Hq.o.mono He.o.size).trans ((ha.o.mono (zah He.o.size Hq.o.size)).trans ((qeM p2 Hl.o.lo (by
        have h1:=Hl.o.lo D (.inr (.inl rfl));have h2:=Hl.o.live D (.inr (.inl rfl));omega)).mono HD.o)))
       exact⟨⟨i+1,by go_num,by omega,by omega,V',t',now',old',dims',G',T',F',Rn',Ro',p1,p3,by omega,by omega,HQ⟩,by simp[RowKit.intOf];omega⟩
 case rest=>
  rename World=>wm;have HJ:=zH (show MnR W B D a 200 200 wm from hcut);clear hcut HI;go_upto_block 2 with fail
  go_cut [14] (fun _ wx=>MnR W B D a 400 200 wx)
  case first=>
   go_wp2_with fail
   go_loopw [14] (fun s14 wx=>∃ j:Nat,s14=.int .i64 (j:Int)∧j≤200∧j≤n2∧MnR W B D a (200+j) 200 wx) (fun s14 _=>200-(RowKit.intOf s14).toNat)
   case atStart=>exact⟨0,rfl,za7 _,za7 _,HJ.o⟩
   case round=>
    rename World=>wx;obtain⟨j,rfl,hj2,hjn,hm⟩:=hrel;have HM:=zH hm;clear hm HJ;obtain⟨b,hb⟩:∃ b,(decide (j<n2)&&decide (j<200))=b:=⟨_,rfl⟩;have HB:=zH hb;clear hb;go_upto_region 21 with fail
    go_cut [79] (fun s79 wy=>s79=.bool b∧wy=wx)
    case first=>
     by_cases k1:j<n2
     ·have Hz:(j:Int)<(n2:Int):=by omega
      by_cases k2:j<200
      ·have HZ:(j:Int)<200:=by omega
       obtain rfl:b=true:=by rw[←HB.o,zas k1,zas k2];rfl
       go_wp2;go_meet
       case rel=>exact⟨rfl,rfl⟩
      ·have HZ:¬((j:Int)<200):=by omega
       obtain rfl:b=false:=by rw[←HB.o,zal k2,Bool.and_false]
       go_wp2;go_meet
       case rel=>exact⟨rfl,rfl⟩
     ·have Hz:¬((j:Int)<(n2:Int)):=by omega
      obtain rfl:b=false:=by rw[←HB.o,zal k1,Bool.false_and]
      go_wp2;go_meet
      case rel=>exact⟨rfl,rfl⟩
    case rest=>
     rename World=>wc;obtain⟨rfl,rfl⟩:=hcut;cases b with
     | false=>
      go_wp2;go_meet
      case rel=>exact HM.o.mono (by omega) (zac _)
     | true=>
      obtain⟨k1,k2⟩:j<n2∧j<200:=by have:=HB.o;simpa using this
      obtain⟨b2,o2,x,rfl,hbl,hcx,hx⟩:=ht.o j k1;obtain⟨V,t,now,old,dims,G,T,F,Rn,Ro,hst,hgd,hd0,hdi,hbw⟩:=HM.o;obtain⟨RA,rc,hrn⟩:=hst.rn;obtain⟨nl,hnl⟩:∃ y,now.length=y:=⟨_,rfl⟩;have q3:wc.cell? ⟨D,3,none⟩=some (.pointer (some ⟨Rn,0,none⟩)):=zC hst.sd.box;have q4:=hrn.c0;rw[hnl]at q4;have HV:nl≤200:=by rw[←hnl];exact hgd.now
      by_cases h0:nl=0
      ·subst h0;go_wp2;go_meet
       case rel=>exact HM.o.mono (by omega) (zac _)
      ·have h6:((nl:Int)==0)=false:=by rw[zaI];omega
       have h7:¬((nl:Int)=0):=by omega
       have hZ:=qlJ x (n:=nl) (by omega);have Hf:=fun w=>qc4 (w:=w) x hx nl (by omega) (by omega);obtain⟨tt,htt⟩:∃ y,wh x nl=y:=⟨_,rfl⟩;rw[htt]at hZ;simp only[htt]at Hf;obtain⟨pr,hpr⟩:∃ p,now[tt]?=some p:=⟨_,zaa (by omega)⟩;obtain⟨pb,po,XA,xc,YA,yc,rfl,hpbV,hx0,_,hkx,_,hxc,_⟩:=hrn.pr.get hpr;have Hs:=TreeIs.keyl hgd.std.now pr (zak hpr);obtain⟨key,vv⟩:=pr;simp only at hx0 hkx hxc Hs;obtain⟨kn,hkn⟩:∃ y,key.length=y:=⟨_,rfl⟩;rw[hkn]at hx0 hxc Hs;have Hu:Below wc.heap.size wc wc.drew:=(zai _ _).drew;obtain⟨oj,hoj⟩:∃ y,o2+j=y:=⟨_,rfl⟩;obtain⟨ot,hot⟩:∃ y,po+tt*2=y:=⟨_,rfl⟩;have Ha:=zH (show wc.drew.cell? ⟨D,3,none⟩=some (.pointer (some ⟨Rn,0,none⟩))∧wc.drew.cell? ⟨Rn,0,none⟩=some (.slice (some ⟨pb,po,none⟩) nl rc)∧wc.drew.cell? ⟨b2,oj,none⟩=some (.int .i64 x)∧wc.drew.cell? ⟨pb,ot,none⟩=some (.slice XA kn xc)from⟨q3,q4,by rw[←hoj];exact(hbw.cell (p:=⟨b2,o2+j,none⟩) hbl).trans hcx,by rw[←hot];exact hx0⟩);have Hz:(j:Int)<(n2:Int):=by omega
       have h4:(0:Int)≤(j:Int):=by omega
       have Kj:(tt:Int)<(nl:Int):=by omega
       have Ki:(0:Int)≤(tt:Int):=by omega
       have Ho:=hst.below Hu;have Hw:ByS wc.drew (fun b=>b<wc.drew.heap.size∧¬SU F G T D Rn Ro b) XA key:=(hkx.same (Same.of_below Hu)).mono fun b hb=>⟨by have:=(hst.vs b hb).1;have:=Hu.size;omega,(hst.vs b hb).2⟩;have Hm:=qcR (N:=200) (mm:=200) (put:=false) (kd:=0) (nn:=0) (pc:=0) (vc:=0) (val:=[]) (VA:=none) (keep:=[]) (CA:=none) Ho hgd (by omega) qdR (by omega) (by omega) (by omega) ⟨hd0,by omega⟩ (fun _=>by rw[hkn];exact Hs) rfl Hw hkn hxc (by omega) ⟨By.nil _ _,fun ad e=>by cases e⟩ rfl (zac _) (by simp) ⟨by simp,fun h=>absurd h (by simp)⟩ (fun x hx=>by cases hx) (fun ad e=>by cases e);simp only[zaZ]at Hm;have HF:=zH Hm;have HN:=zH Hf;have Hg:=zH Ho;have He:=zH (hbw.trans (Hu.mono hbw.size));clear hrn hst hgd Hm Hf Ho Hw hkx hx0 hpr Hu hcx hbl htt hnl hpbV hbw;go_upto_region 24 with fail
       clear q3 q4;refine qac (S:=fun W'=>W'.cell? ⟨D,3,none⟩=some (.pointer (some ⟨Rn,0,none⟩))∧W'.cell? ⟨Rn,0,none⟩=some (.slice (some ⟨pb,po,none⟩) nl rc)∧W'.cell? ⟨b2,oj,none⟩=some (.int .i64 x)∧W'.cell? ⟨pb,ot,none⟩=some (.slice XA kn xc)) [] (by kernel_rfl) Ha.o (fun _=>?_);generalize wc.drew=W4 at *;refine zP 0 91 (.pointer (some ⟨D,0,none⟩)) Ha.o ?_;try simp only[zS]
       refine zP 1 92 (.pointer (some ⟨D,0,none⟩)) Ha.o ?_;try simp only[zS]
       refine zP 2 93 (.pointer (some ⟨D,3,none⟩)) Ha.o ?_;try simp only[zS]
       refine zL 3 94 (.pointer (some ⟨Rn,0,none⟩)) rfl (Or.inl ⟨by rfl,fun W' hS=>by obtain⟨hS1,hS2,hS3,hS4⟩:=hS;go_simp⟩) (qaa Ha.o) ?_;try simp only[zS]
       refine zP 4 95 (.pointer (some ⟨Rn,0,none⟩)) Ha.o ?_;try simp only[zS]
       refine zP 5 96 (.pointer (some ⟨Rn,0,none⟩)) Ha.o ?_;try simp only[zS]
       refine zL 6 97 (.slice (some ⟨pb,po,none⟩) nl rc) rfl (Or.inl ⟨by rfl,fun W' hS=>by obtain⟨hS1,hS2,hS3,hS4⟩:=hS;go_simp⟩) (qaa Ha.o) ?_;try simp only[zS]
       refine zP 7 98 (.slice (some ⟨b2,o2,none⟩) n2 c2) Ha.o ?_;try simp only[zS]
       refine zP 8 99 (.int .i64 (j:Int)) Ha.o ?_;try simp only[zS]
       refine zP 9 100 (.pointer (some ⟨b2,oj,none⟩)) Ha.o ?_;try simp only[zS]
       refine zL 10 101 (.int .i64 x) rfl (Or.inl ⟨by rfl,fun W' hS=>by obtain⟨hS1,hS2,hS3,hS4⟩:=hS;go_simp⟩) (qaa Ha.o) ?_;try simp only[zS]
       refine zP 11 102 (.pointer (some ⟨D,0,none⟩)) Ha.o ?_;try simp only[zS]
       refine zP 12 103 (.pointer (some ⟨D,0,none⟩)) Ha.o ?_;try simp only[zS]
       refine zP 13 104 (.pointer (some ⟨D,3,none⟩)) Ha.o ?_;try simp only[zS]
       refine zL 14 105 (.pointer (some ⟨Rn,0,none⟩)) rfl (Or.inl ⟨by rfl,fun W' hS=>by obtain⟨hS1,hS2,hS3,hS4⟩:=hS;go_simp⟩) (qaa Ha.o) ?_;try simp only[zS]
       refine zP 15 106 (.pointer (some ⟨Rn,0,none⟩)) Ha.o ?_;try simp only[zS]
       refine zP 16 107 (.pointer (some ⟨Rn,0,none⟩)) Ha.o ?_;try simp only[zS]
       refine zL 17 108 (.slice (some ⟨pb,po,none⟩) nl rc) rfl (Or.inl ⟨by rfl,fun W' hS=>by obtain⟨hS1,hS2,hS3,hS4⟩:=hS;go_simp⟩) (qaa Ha.o) ?_;try simp only[zS]
       refine zP 18 109 (.int .i64 (nl:Int)) Ha.o ?_;try simp only[zS]
       refine zE 19 110 rfl (fun Kr hKr=>?_);go_simp;go_at_call 8
       refine(HN.o _).mono ?_;rintro e W5 ⟨rfl,rfl⟩;refine hKr.out (.int .i64 (tt:Int)) _ (qaa Ha.o) (fun _=>?_);clear hKr Kr;try simp only[zS]
       refine zP 20 111 (.pointer (some ⟨pb,ot,none⟩)) Ha.o ?_;try simp only[zS]
       refine zP 21 112 (.pointer (some ⟨pb,ot,none⟩)) Ha.o ?_;try simp only[zS]
       refine zL 22 113 (.slice XA kn xc) rfl (Or.inl ⟨by rfl,fun W' hS=>by obtain⟨hS1,hS2,hS3,hS4⟩:=hS;go_simp⟩) (qaa Ha.o) ?_;try simp only[zS]
       refine zP 23 15 (.slice XA kn xc) Ha.o ?_;try simp only[zS]
       refine qad (by kernel_rfl) ?_ _;go_wp2_with (go_at_call 12;refine HF.o.mono ?_;rintro e w9 hs;obtain⟨he,hrest⟩:=hs;subst he;have Ht:=zH hrest;clear hrest)
       obtain⟨V',t',now',old',dims',G',T',F',Rn',Ro',p1,p2,p3,p4,p5⟩:=Ht.o;have HQ:=He.o.trans ((qeM p2 Hg.o.lo (by
        have h1:=Hg.o.lo D (.inr (.inl rfl));have h2:=Hg.o.live D (.inr (.inl rfl));omega)).mono HD.o)
       exact⟨⟨j+1,by go_num,by omega,by omega,V',t',now',old',dims',G',T',F',Rn',Ro',p1,p3,by omega,by omega,HQ⟩,by simp[RowKit.intOf];omega⟩
  case rest=>
   rename World=>wn;obtain⟨V,t,now,old,dims,G,T,F,Rn,Ro,hst,hgd,hd0,hdi,hbw⟩:=(show MnR W B D a 400 200 wn from hcut);obtain⟨RA,rc,hrn⟩:=hst.rn;obtain⟨nl,hnl⟩:∃ y,now.length=y:=⟨_,rfl⟩;have HV:nl≤200:=by rw[←hnl];exact hgd.now
   have q2:wn.cell? ⟨D,2,none⟩=some (.pointer (some ⟨T,0,none⟩)):=zC hst.sd.box;have HU:=qcH (A:=none) (HA:=none) (lo:=[]) (hi:=[]) (n:=0) (c:=0) (hn:=0) (hc:=0) hst.sd.tr hgd.std.on (TreeIs.lii hgd.std.now hgd.std.pages []) (By.nil _ _) (By.nil _ _) rfl rfl (by rw[(qaB now).1];omega) (fun x hx=>by
    rw[(qaB now).1]at hx;have:=hgd.srt.2 x hx;have h1:=this.1.2;have h2:=this.2;omega)
   rw[(qaB now).1,(qaB now).2]at HU;have Hn:=HU.mono fun e w' hh=>LsF.out hh;rw[hnl]at Hn;have hy:=zH Hn;have Hg:=zH hst;have HH:=zH hgd;have H3:=zH hrn;have HK:=zH hnl;have He:=zH hbw;clear hcut HJ HU Hn hst hgd hrn hnl hbw;go_upto_region 29 with(go_at_call 13;refine hy.o.mono ?_;rintro e w5 ⟨Hr,A5,c5,rfl,hp5⟩;have Hj:=zH Hr;have hH:=zH hp5;clear Hr hp5)
   have Hi:=Hg.o.below Hj.o;have q3:w5.cell? ⟨D,3,none⟩=some (.pointer (some ⟨Rn,0,none⟩)):=zC Hi.sd.box;have q4:=(H3.o.below Hj.o).c0;rw[HK.o]at q4;have HY:=qcO (ca:=c5) (cb:=rc) hH.o (H3.o.below Hj.o).pr HK.o HK.o (by omega);rw[zas rfl]at HY;have hJ:=zH HY;have HL:=zH Hi;have HS:=fun(W':World) (hb:Below w5.heap.size w5 W')=>qlG (N:=200) (kd:=9) (nn:=0) (kc:=0) (vc:=0) (pc:=0) (key:=[]) (val:=[]) (keep:=[]) (KA:=none) (VA:=none) (CA:=none) (Hi.below hb) HH.o (by omega) qdR (zac _) (fun h=>absurd h (by decide)) (by omega) (by omega) ⟨hd0,by omega⟩ (fun _=>by simp) (by omega) (by decide) ⟨By.nil _ _,fun ad e=>by cases e⟩ rfl (zac _) (by simp) ⟨By.nil _ _,fun ad e=>by cases e⟩ rfl (zac _) (by simp) ⟨by simp,fun h=>absurd h (by simp)⟩ (fun x hx=>by cases hx) (fun ad e=>by cases e);simp only[zaZ]at HS;have hg:=zH HS;clear HY Hi q2 HS;go_wp2_with (first|(go_at_call 14;refine hJ.o.mono ?_;rintro e w6 ⟨rfl,Hh⟩;have Hk:=zH (HL.o.below Hh);have Hc:=zH Hh;clear Hh)|(go_at_call 9;refine(hg.o _ Hc.o).mono ?_;rintro e w9 hs;obtain⟨he,hrest⟩:=hs;subst he;have Ht:=zH hrest;clear hrest))
   go_ret;obtain⟨V',t',now',old',dims',G',T',F',Rn',Ro',p1,p2,p3,p4,p5⟩:=Ht.o;have z5:=Hj.o.size;have z6:=Hc.o.size;have zw:=He.o.size;exact⟨rfl,He.o.trans ((Hj.o.mono zw).trans ((Hc.o.mono (zah zw z5)).trans ((qeM p2 Hk.o.lo (by
    have h1:=Hk.o.lo D (.inr (.inl rfl));have h2:=Hk.o.live D (.inr (.inl rfl));omega)).mono HD.o)))⟩
end Go.Proofs.YtpmebcgmgfcmiaaGreatDoor
namespace Go.Proofs.YtpmebcgmgfcmiaaGreatDoor
open Go.RowKit Go.ChangeShapes Go.WideShapes Go.ChangeAt Go.Joins BT
section
set_option maxRecDepth 100000
theorem qlq:ownKnob Tryz.prog.godebug=none:=by kernel_rfl
theorem qmy:Tryz.prog.globalNamed "muniment/crc.nibbles"=some 1:=by kernel_rfl
theorem qmO:(Tryz.prog.globals[1]?).map (·.type)=some 185:=by kernel_rfl
theorem qmz {W:World}(h:laidMetH Tryz.prog [("muniment/crc.nibbles",Rows.laid_muniment_crc_nibbles)] W):Nib W:=by
 have hf:(([("muniment/crc.nibbles",Rows.laid_muniment_crc_nibbles)]:List (String×DataW Unit)).filter fun x=>x.2.handleName?.isSome)=[]:=by kernel_rfl
 unfold laidMetH at h;rw[hf]at h;have e:Rows.laid_muniment_crc_nibbles (H:=Unit)=Lib.tabData .u32 (nibT.map fun(n:Nat)=>(n:Int)):=by kernel_rfl
 have ht:=Lib.tabIs_of_head (rest:=[]) qmy qmO Tryz.underlying185 (k:=.u32) Tryz.underlying143 (by kernel_rfl) (by kernel_rfl) (by rw[←e];exact h);intro i hi;unfold Lib.TabIs at ht;rw[World.var?_cell qmy ht i];simp only[zcN,zbC,zbc];have hl:nibT.length=16:=by kernel_rfl
 rw[zaa (by omega),zaC,zaa (by omega)];rfl
def qmM (h:Array Obj)(i:Nat)(cs:Array Value):Array Obj:=h.modify i fun
 | .cells _ t frozen=>.cells cs t frozen
 | o=>o
noncomputable def qgG (os:Os):World:=
 let w0:=World.holding Tryz.prog os ⟨#[],#[],[]⟩
 { w0 with heap:=qmM w0.heap 1 (nibT.map fun(n:Nat)=>Value.int .u32 (n:Int)).toArray }
theorem nib_met (os:Os)(args:Array Value):laidMetH Tryz.prog [("muniment/crc.nibbles",Rows.laid_muniment_crc_nibbles)] ((qgG os).forCall (fun _ _=>0) ⟨#[],args,[]⟩).memory:=
 laidMetH_of_parts (laidMet_of_run3 8 (by kernel_rfl) (by kernel_rfl) (by kernel_rfl)) (by kernel_rfl)
section
variable {H:Type} {enc:TypeId×Value→H} {P:Program}
theorem qdJ (hl:laidOutB P=true){W W':World}(hb:Below W.heap.size W W'){sp:Nat→Bool}:∀ {ts:List TypeId} {vs:List Value} {ds:List (DataW H)} {ps:List MemPlace},
  (ts.all fun t=>P.readableRec t&&decide (t<P.types.size))=true→DataW.TrodAll enc P W 0 (fun _=>true) true ts vs ds ps→(∀ x∈ps,x.block<W.heap.size)→(∀ x∈ps,sp x.block=true)→
  DataW.TrodAll enc P W' 0 sp true ts vs ds ps
 | [],[],[],_,_,h,_,_=>h
 | t::ts,v::vs,d::ds,ps,hr,h,hlt,hs=>by
  obtain⟨p,q,h1,h2,rfl⟩:=h;simp only[List.all_cons,zba,zbf]at hr;exact⟨p,q,WideElems.Trod_stays hl hr.1.1 hr.1.2 h1 (fun x hx=>hb.same (hlt x (zaX _ hx))) (fun x hx=>hs x (zaX _ hx)),
   qdJ hl hb hr.2 h2 (fun x hx=>hlt x (zay _ hx)) (fun x hx=>hs x (zay _ hx)),rfl⟩
 | [],_::_,_,_,_,h,_,_=>by simp[DataW.TrodAll]at h
 | [],[],_::_,_,_,h,_,_=>by simp[DataW.TrodAll]at h
 | _::_,[],_,_,_,h,_,_=>by simp[DataW.TrodAll]at h
 | _::_,_::_,[],_,_,h,_,_=>by simp[DataW.TrodAll]at h
theorem qli {f:Func}{s:ChangeSpec}{W W':World}{args:Array Value}{ds gs:List (DataW H)}{before:List MemPlace}{tb:TypeId}
  (hl:laidOutB P=true)(hb:P.underlying tb=some .bool)(hres:f.resultTypes=#[tb])(hvars:s.vars=[])
  (hrd:(f.params.toList.all fun t=>P.readableRec t&&decide (t<P.types.size))=true)
  (hW:DataW.Whole enc P f.params.toList s.vars false W args.toList ds gs before)
  (hfn:s.fn H (ds++gs)={ results:=[.lit (.bool true)],args:=ds })
  (hbl:Below W.heap.size W W') :
  s.post enc P f false true false false W args (.bool true) W':=by
 have Ha:=hW;obtain⟨p,q,hA,hV,rfl,_,_⟩:=hW;rw[hvars]at hV;obtain⟨rfl,rfl⟩:=trodVars_none hV;have Hb:∀ x∈p,x.block<W.heap.size:=fun x hx=>Ha.lt x (by simp[hx]);refine⟨ds,[],_,[],p,[],Ha,?_,?_,?_,World.keptBut_mono (fun x hx=>⟨hx,?_⟩) (hbl.frame (·∈(p++[]))),fun h=>by cases h⟩
 ·rw[hfn,hres];exact trodAll_mk1 (shut_bool hb true)
 ·rw[hfn];exact qdJ hl hbl hrd hA Hb (fun x hx=>by simpa using Hb x hx)
 ·rw[hfn,hvars];rfl
 ·simpa using hx
end
section
variable {H:Type} {enc:TypeId×Value→H}
theorem qjt {W:World}{n:Nat}{cs:List Value}{y:DataW H×List MemPlace}(h:DataW.trod enc Tryz.prog W 0 (fun _=>true) true n 23 cs=some y) :
  ∃ (A:Option Addr) (c:Nat) (xs:List Int),cs=[.slice A xs.length c]∧Ints W A xs∧(∀ x∈xs,-9223372036854775808≤x∧x≤9223372036854775807):=by
 rcases open_ints Tryz.underlying23 Tryz.underlying3 (by kernel_rfl) h with⟨hcs,hx⟩|⟨a,len,cap,zs,hcs,_,hl,hm,hz,hx,hcell,hwz⟩
 ·subst hcs;subst hx;exact⟨none,0,[],rfl,⟨by simp,fun h=>absurd h (by simp)⟩,by simp⟩
 ·simp only[zcn]at hz;subst hcs;subst hx;have Ha:(zs.take len).length=len:=by rw[zag];omega
  refine⟨some a,cap,zs.take len,by rw[Ha],⟨by rw[Ha];unfold maxLen at hm;omega,fun hp=>?_⟩,fun x hx=>bounds_i64 (hwz x (zaY hx))⟩;rw[Ha]at hp;obtain⟨b,off,rfl,hc⟩:=ints_at hcell (by omega);refine⟨b,off,rfl,zaH W _ (hc 0 (by omega)),fun k hk=>?_⟩;rw[Ha]at hk;rw[hc k (by omega)];unfold el;rw[zaC,zaC,zaV,zaw hk]
theorem qe3 {W:World}{v:Value}{d:DataW H}{p:List MemPlace}{base:Nat}(hv:Value.okWide Tryz.prog W .any base 23 v)(h:DataW.Trod enc Tryz.prog W 0 (fun _=>true) true 23 v d p) :
  ∃ A cap L,v=.slice A (L:List Int).length cap∧Ints W A L∧(∀ x∈L,-9223372036854775808≤x∧x≤9223372036854775807)∧∀ ad,A=some ad→ad.block<W.heap.size:=by
 have Ha:=hv;obtain⟨a0,len0,cap0,rfl⟩:=okWide_slice Tryz.underlying23 hv;obtain⟨fuel,hf⟩:=h;have Hb:DataW.trod enc Tryz.prog W 0 (fun _=>true) true fuel 23 [.slice a0 len0 cap0]=some (d,p):=by simpa [Value.cells] using hf
 obtain⟨A,c,xs,e,h1,h2⟩:=qjt Hb;cases e;refine⟨a0,cap0,xs,rfl,h1,h2,fun ad e=>?_⟩;subst e;simp only[Value.okWide,Tryz.underlying23,Cell.okWide,Cell.ok,World.has]at Ha;obtain⟨_,_,_,_,row,cells,hs,_⟩:=Ha;unfold World.shape? at hs;cases hc:W.heap[ad.block]? with
 | none=>rw[hc]at hs;cases hs
 | some o=>exact(zab.1 hc).1
end
end
end Go.Proofs.YtpmebcgmgfcmiaaGreatDoor
