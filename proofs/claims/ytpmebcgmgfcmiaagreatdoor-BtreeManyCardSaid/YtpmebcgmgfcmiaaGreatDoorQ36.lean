/- Texts LwJ. -/
import Derived.Test.YtpmebcgmgfcmiaaGreatDoorQ35
set_option linter.all false
set_option maxRecDepth 100000
set_option maxHeartbeats 16000000
namespace Go.Proofs.YtpmebcgmgfcmiaaGreatDoor
open Go.RowKit BT Go.Lib
variable {L n m B D:Nat}{a:PA}{dims:Int}{w w':World}{e:Ending}{key:Bs}{l:List Pr}
theorem StF.mono {pages m':Nat}{U U0:Nat→Prop}{w0:World}(h:StF L pages n m B D a dims U w e w')(hm:m≤m')(hx:Ext U0 U w0 w):StF L pages n m' B D a dims U0 w0 e w':=by
 obtain⟨h1,V',t',now',old',dims',G',T',F',Rn',Ro',h2,h3,h4,h5⟩:=h;exact⟨h1,V',t',now',old',dims',G',T',F',Rn',Ro',h2,hx.trans h3,h4.mono (zac _) hm,h5⟩
theorem GeF.out {r:Option Bs}(h:GeF r w e w'):Below w.heap.size w w'∧∃ A n c,e=.returned (.tuple #[.slice A n c,.bool r.isSome,.int .i64 0])∧By w' A (r.getD [])∧(r.getD []).length=n:=by
 obtain⟨h1,h2⟩:=h;refine⟨h1,?_⟩;cases r with
 | none=>exact⟨none,0,0,h2,By.nil _ _,rfl⟩
 | some v=>
  obtain⟨A,c,n,e1,e2,e3⟩:=h2;exact⟨A,n,c,e1,e3.byN e2,e2⟩
theorem RgF.by_ (h:RgF key l w e w'):Below w.heap.size w w'∧∃ A n c,e=.returned (.tuple #[.slice A n c,.bool (getR key l).isSome])∧By w' A ((getR key l).getD [])∧((getR key l).getD []).length=n:=by
 obtain⟨h1,h2⟩:=h;refine⟨h1,?_⟩;cases hr:getR key l with
 | none=>
  rw[hr]at h2;exact⟨none,0,0,h2,By.nil _ _,rfl⟩
 | some v=>
  rw[hr]at h2;obtain⟨A,c,e1,e2⟩:=h2;exact⟨A,_,c,e1,e2,rfl⟩
theorem RlF.prs {S:Nat→Prop}(h:RlF S l w e w'):Below w.heap.size w w'∧∃ A c,e=.returned (.slice A l.length c)∧PrS w' (fun b=>S b∨w.heap.size≤b) A l:=by
 obtain⟨h1,A,c,cs,e1,ho,hr⟩:=h;exact⟨h1,A,c,e1,cs,ho.srcS (fun b e=>.inr (ho.blk b e).1),hr.mono fun b hb=>.inl hb⟩
theorem LsF.out {its:List Pr}(h:LsF its w e w'):Below w.heap.size w w'∧∃ A c,e=.returned (.tuple #[.slice A its.length c,.int .i64 0])∧PrS w' (fun b=>w.heap.size≤b) A its:=by
 obtain⟨h1,A,c,cs,e1,ho,hr⟩:=h;exact⟨h1,A,c,e1,LsF.prs ho hr⟩
theorem qlG {V:Nat→Prop}{N pages kn kc vn vc pc G T Rn Ro:Nat}{t:Ts}{now old:List Pr}{kd nn:Int}{F:Nat→Prop}{val:Bs}{keep:List Int}{KA VA CA:Option Addr}
  (h:StM V w B D t now old pages dims a G T F Rn Ro)(hg:Gd L pages n m t now old)(hL:L≤24)(hf:Fits L N)(hN:m≤N)(hN5:wh kd 14<5→m+1≤N)(hN2:N≤1000)(hn:n≤1000000)(hd:0≤dims∧dims≤1000000)(hkL:klen key→key.length≤L)
  (hkd:-9223372036854775808≤kd∧kd≤9223372036854775807)(hk12:wh kd 14<12)
  (hK:ByS w (fun b=>b<w.heap.size∧¬SU F G T D Rn Ro b) KA key)(hkl:key.length=kn)(hkc:kn≤kc)(hk4:kn≤140737488355328)(hV:ByS w (fun b=>b<w.heap.size∧¬SU F G T D Rn Ro b) VA val)(hvl:val.length=vn)(hvc:vn≤vc)(hv4:vn≤140737488355328)
  (hC:Ints w CA keep)(hrng:∀ x∈keep,-9223372036854775808≤x∧x≤9223372036854775807)(hCA:∀ ad,CA=some ad→¬SU F G T D Rn Ro ad.block∧ad.block<w.heap.size) :
  Calls Tryz.prog 9 #[.pointer (some ⟨D,0,none⟩),.agg #[.int .i64 kd,.int .i64 nn,.slice KA kn kc,.slice VA vn vc,.slice CA keep.length pc]] w (StF L pages (n+1) (m+1) B D a dims (SU F G T D Rn Ro) w):=by
 obtain⟨OB,hOB⟩:∃ x,w.heap.size=x:=⟨_,rfl⟩;obtain⟨pn,hpn⟩:∃ x,keep.length=x:=⟨_,rfl⟩;obtain⟨k,hk⟩:∃ x,wh kd 14=x:=⟨_,rfl⟩;have ht:=fun W=>qc4 (w:=W) kd hkd 14 (by omega) (by omega);rw[hk]at hk12 ht hN5;have Hz:=zH ht;obtain⟨w1,hw1⟩:∃ x,w.alloc (.cells #[.int .i64 kd,.int .i64 nn,.slice KA kn kc,.slice VA vn vc,.slice CA pn pc] 36)=x:=⟨_,rfl⟩;have H5:w1.heap[OB]?=some (.cells #[.int .i64 kd,.int .i64 nn,.slice KA kn kc,.slice VA vn vc,.slice CA pn pc] 36 (0,0)):=by rw[←hw1,←hOB];exact zaf w _
 have Hh:Below w.heap.size w w1:=by rw[←hw1];exact zB _ _
 have hX:w1.heap.size=OB+1:=by rw[←hw1,za2,hOB]
 have hq:=h.below Hh;have H3:ByS w1 (fun b=>b<w1.heap.size∧¬SU F G T D Rn Ro b) KA key:=(hK.same (Same.of_below Hh)).mono fun b hb=>⟨by have:=Hh.size;omega,hb.2⟩;have H4:ByS w1 (fun b=>b<w1.heap.size∧¬SU F G T D Rn Ro b) VA val:=(hV.same (Same.of_below Hh)).mono fun b hb=>⟨by have:=Hh.size;omega,hb.2⟩;have H2:Ints w1 CA keep:=qaM hC Hh.size (fun b off e=>Hh.block b (hCA _ e).2);have Hw:∀ ad,CA=some ad→¬SU F G T D Rn Ro ad.block∧ad.block<w1.heap.size:=fun ad e=>⟨(hCA ad e).1,by have:=(hCA ad e).2;have:=Hh.size;omega⟩;have HT:=zH (fun put (hp:(m+if put=true then 1 else 0)≤N)=>qcR (kd:=kd) (nn:=nn) (put:=put) (pc:=pc) hq hg hL hf hp hN2 hn hd hkL rfl H3 hkl hkc hk4 H4 hvl hvc hv4 H2 hrng Hw);rw[hpn]at HT;have o0:w1.cell? ⟨OB,0,none⟩=some (.int .i64 kd):=zC H5;have Kl:=zH (show ∀ b,SU F G T D Rn Ro b→b<OB from fun b hu=>by have:=h.live b hu;omega);have Hq:=zH H5;have Hg:=zH Hh;have Ho:=zH hq;have HG:=zH hg;have HK:=zH H3;have HV:=zH H4;have HC:=zH H2;have HF:=zH Hw;have Kg:=zH hrng;have KF:=zH hf;have KH:=zH hkL;have HO:=zH hkl;have hI:=zH hvl;have Ke:=zH hpn;have Hr:=zH hX;have KG:=zH hk;rw[hpn];clear h hg hK hV hC hCA hrng hf hkL hkl hvl hpn H5 Hh hX hq H3 H4 H2 Hw ht hkd hk;by_cases c1:k<5
 ·have HY:(k:Int)<5:=by omega
  have Kt:decide ((k:Int)<5)=true:=zas HY;go_enter Tryz.func9,Tryz.ntmps9
  go_wp2_with (first|(go_at_call 8;refine(Hz.o _).mono ?_;rintro e w2 ⟨rfl,rfl⟩)|(refine wpList_load_row rfl 36 (.tmp 3) rfl OB rfl _ _ _ _ Hq.o Tryz.underlying36 rfl (by kernel_rfl) ?_)|(go_at_call 12;refine(HT.o true (hN5 c1)).mono ?_;rintro e w2 hs;obtain⟨he,-⟩:=id hs;subst he;have HS:=zH hs;clear hs))
  go_ret;exact HS.o.mono (zac _) (Ext.of (Touch.of_below Hg.o))
 ·have HY:¬((k:Int)<5):=by omega
  have Kt:decide ((k:Int)<5)=false:=zal HY;by_cases c2:k<7
  ·have HZ:(k:Int)<7:=by omega
   have Ku:decide ((k:Int)<7)=true:=zas HZ;go_enter Tryz.func9,Tryz.ntmps9
   go_wp2_with (first|(go_at_call 8;refine(Hz.o _).mono ?_;rintro e w2 ⟨rfl,rfl⟩)|(refine wpList_load_row rfl 36 (.tmp 3) rfl OB rfl _ _ _ _ Hq.o Tryz.underlying36 rfl (by kernel_rfl) ?_)|(go_at_call 12;refine(HT.o false hN).mono ?_;rintro e w2 hs;obtain⟨he,-⟩:=id hs;subst he;have HS:=zH hs;clear hs))
   go_ret;exact HS.o.mono (Nat.le_succ _) (Ext.of (Touch.of_below Hg.o))
  ·have HZ:¬((k:Int)<7):=by omega
   have Ku:decide ((k:Int)<7)=false:=zal HZ;by_cases c3:k=7
   ·have Kw:((k:Int)==7)=true:=by rw[zcz];omega
    obtain⟨RA,rc,hrn⟩:=Ho.o.rn;have He:Below w1.heap.size w1 w1.drew:=(zai _ _).drew;obtain⟨th,hth⟩:∃ x,(getR key now).isSome=x:=⟨_,rfl⟩;obtain⟨gv,hgv⟩:∃ x,(getR key now).getD []=x:=⟨_,rfl⟩;have Hc:=Ho.o.below He;have H8:=(qgy (c:=kc) (n:=kn) (r:=getR key now) Hc.sd.tr HG.o.std.on (TreeIs.trp HG.o.std.now HG.o.std.pages) (HK.o.by_.below He) HO.o (HG.o.get_none key) (HG.o.get_at key)).mono fun e w' hh=>hh.out;rw[hth,hgv]at H8;have h6:=zH H8;have HJ:=zH (fun W (hb:Below w1.heap.size w1 W)=>(qhB (kc:=kc) (hrn.below hb) (HK.o.by_.below hb) HO.o (by have:=HG.o.now;omega) (fun x hx=>by have:=(HG.o.srt.2 x hx).2;omega)).mono fun e w' hh=>hh.by_);rw[hth,hgv]at HJ;have Ha:=zH (show w1.drew.cell? ⟨OB,2,none⟩=some (.slice KA kn kc)∧w1.drew.cell? ⟨D,2,none⟩=some (.pointer (some ⟨T,0,none⟩))from⟨zC ((He.block OB (by have:=Hr.o;omega)).trans Hq.o),zC Hc.sd.box⟩);have HD:=zH He;clear hrn He Hc H8 hth hgv;go_enter Tryz.func9,Tryz.ntmps9
    go_upto_region 7 with(go_at_call 8;refine(Hz.o _).mono ?_;rintro e w2 ⟨rfl,rfl⟩)
    refine qac (S:=fun W'=>W'.cell? ⟨OB,2,none⟩=some (.slice KA kn kc)∧W'.cell? ⟨D,2,none⟩=some (.pointer (some ⟨T,0,none⟩))) [6] (by kernel_rfl) Ha.o (fun _=>?_);generalize w1.drew=W4 at *;refine zP 0 33 (.pointer (some ⟨D,0,none⟩)) Ha.o ?_;try simp only[zS]
    refine zP 1 34 (.pointer (some ⟨D,0,none⟩)) Ha.o ?_;try simp only[zS]
    refine zP 2 35 (.pointer (some ⟨D,2,none⟩)) Ha.o ?_;try simp only[zS]
    refine zL 3 36 (.pointer (some ⟨T,0,none⟩)) rfl (Or.inl ⟨by rfl,fun W' hS=>by obtain⟨hS1,hS2⟩:=hS;go_simp⟩) (qaa Ha.o) ?_;try simp only[zS]
    refine zP 4 37 (.pointer (some ⟨OB,2,none⟩)) Ha.o ?_;try simp only[zS]
    refine zL 5 38 (.slice KA kn kc) rfl (Or.inl ⟨by rfl,fun W' hS=>by obtain⟨hS1,hS2⟩:=hS;go_simp⟩) (qaa Ha.o) ?_;try simp only[zS]
    refine zE 6 39 rfl (fun Kr hKr=>?_);go_simp;go_at_call 16
    refine h6.o.mono ?_;rintro e W5 ⟨hb5,A5,n5,c5,rfl,hy5,hn5⟩;have Hv:=zH (HD.o.trans (hb5.mono HD.o.size));have Kq:=zH hy5;have Ka:=zH hn5;clear hb5 hy5 hn5;refine hKr.out (.tuple #[.slice A5 n5 c5,.bool th,.int .i64 0]) _ (qaf 6 (by rfl) (by kernel_rfl)) (fun _=>?_);clear hKr Kr;try simp only[zS]
    refine zR 7 32 (.tuple #[.slice A5 n5 c5,.bool th,.int .i64 0]) (qaf 6 (by rfl) (by kernel_rfl)) ?_;try simp only[zS]
    refine zR 8 40 (.slice A5 n5 c5) (qaf 6 (by rfl) (by kernel_rfl)) ?_;try simp only[zS]
    refine zR 9 41 (.bool th) (qaf 6 (by rfl) (by kernel_rfl)) ?_;try simp only[zS]
    refine zR 10 42 (.int .i64 0) (qaf 6 (by rfl) (by kernel_rfl)) ?_;try simp only[zS]
    refine zR 11 6 (.slice A5 n5 c5) (qaf 6 (by rfl) (by kernel_rfl)) ?_;try simp only[zS]
    refine zR 12 7 (.bool th) (qaf 6 (by rfl) (by kernel_rfl)) ?_;try simp only[zS]
    refine zR 13 8 (.int .i64 0) (qaf 6 (by rfl) (by kernel_rfl)) ?_;try simp only[zS]
    refine qad (by kernel_rfl) ?_ _;have Hm:Below W5.heap.size W5 W5.drew:=(zai _ _).drew;have Hf:=Hv.o.trans (Hm.mono Hv.o.size);have Hb:=zH (show W5.drew.cell? ⟨OB,2,none⟩=some (.slice KA kn kc)∧W5.drew.cell? ⟨D,3,none⟩=some (.pointer (some ⟨Rn,0,none⟩))from⟨zC ((Hf.block OB (by have:=Hr.o;omega)).trans Hq.o),zC ((Ho.o.below Hf).sd.box)⟩);have HW:=zH (HJ.o _ Hf);have Hj:=zH Hf;have HE:=zH Hm;clear Hm Hf;go_upto_region 8 with fail
    refine qac (S:=fun W'=>W'.cell? ⟨OB,2,none⟩=some (.slice KA kn kc)∧W'.cell? ⟨D,3,none⟩=some (.pointer (some ⟨Rn,0,none⟩))) [6] (by kernel_rfl) Hb.o (fun _=>?_);generalize W5.drew=W6 at *;refine zP 0 44 (.pointer (some ⟨D,0,none⟩)) Hb.o ?_;try simp only[zS]
    refine zP 1 45 (.pointer (some ⟨D,0,none⟩)) Hb.o ?_;try simp only[zS]
    refine zP 2 46 (.pointer (some ⟨D,3,none⟩)) Hb.o ?_;try simp only[zS]
    refine zL 3 47 (.pointer (some ⟨Rn,0,none⟩)) rfl (Or.inl ⟨by rfl,fun W' hS=>by obtain⟨hS1,hS2⟩:=hS;go_simp⟩) (qaa Hb.o) ?_;try simp only[zS]
    refine zP 4 48 (.pointer (some ⟨OB,2,none⟩)) Hb.o ?_;try simp only[zS]
    refine zL 5 49 (.slice KA kn kc) rfl (Or.inl ⟨by rfl,fun W' hS=>by obtain⟨hS1,hS2⟩:=hS;go_simp⟩) (qaa Hb.o) ?_;try simp only[zS]
    refine zE 6 50 rfl (fun Kr hKr=>?_);go_simp;go_at_call 23
    refine HW.o.mono ?_;rintro e W7 ⟨hb7,A7,n7,c7,rfl,hy7,hn7⟩;have Hy:=zH hb7;have Ks:=zH hy7;have Kb:=zH hn7;clear hb7 hy7 hn7;refine hKr.out (.tuple #[.slice A7 n7 c7,.bool th]) _ (qaf 6 (by rfl) (by kernel_rfl)) (fun _=>?_);clear hKr Kr;try simp only[zS]
    refine zR 7 43 (.tuple #[.slice A7 n7 c7,.bool th]) (qaf 6 (by rfl) (by kernel_rfl)) ?_;try simp only[zS]
    refine zR 8 51 (.slice A7 n7 c7) (qaf 6 (by rfl) (by kernel_rfl)) ?_;try simp only[zS]
    refine zR 9 52 (.bool th) (qaf 6 (by rfl) (by kernel_rfl)) ?_;try simp only[zS]
    refine zR 10 9 (.slice A7 n7 c7) (qaf 6 (by rfl) (by kernel_rfl)) ?_;try simp only[zS]
    refine zR 11 10 (.bool th) (qaf 6 (by rfl) (by kernel_rfl)) ?_;try simp only[zS]
    refine qad (by kernel_rfl) ?_ _;have HM:=HE.o.trans (Hy.o.mono HE.o.size);have KK:=qbe c5 (Kq.o.below HM) Ka.o;have KL:=qbe c7 Ks.o Kb.o;have hW:Ext (SU F G T D Rn Ro) (SU F G T D Rn Ro) w W7:=Ext.of (Touch.of_below (Hg.o.trans ((Hj.o.trans (Hy.o.mono Hj.o.size)).mono Hg.o.size)));have hJ:=zH hW;have hE:=zH (Ho.o.below (Hj.o.trans (Hy.o.mono Hj.o.size)));clear HM hW;cases th with
    | true=>
     go_wp2;go_ret;exact⟨rfl,_,_,_,_,_,_,_,_,_,_,hE.o,hJ.o,HG.o.mono (by omega) (by omega),by omega,by omega⟩
    | false=>
     go_wp2;go_ret;exact⟨rfl,_,_,_,_,_,_,_,_,_,_,hE.o,hJ.o,HG.o.mono (by omega) (by omega),by omega,by omega⟩
   ·have Kw:((k:Int)==7)=false:=by rw[zaI];omega
    by_cases c4:k=8
    ·have Kx:((k:Int)==8)=true:=by rw[zcz];omega
     obtain⟨RA,rc,hrn⟩:=Ho.o.rn;have He:Below w1.heap.size w1 w1.drew:=(zai _ _).drew;have Hc:=Ho.o.below He;obtain⟨its,hits⟩:∃ x,now.filter (inR key val)=x:=⟨_,rfl⟩;have KB:its.length≤1000:=by
      rw[←hits];have h1:=zbJ (inR key val) now;have h2:=HG.o.now;omega
     have HQ:=(qcH (c:=kc) (hc:=vc) Hc.sd.tr HG.o.std.on (TreeIs.lii HG.o.std.now HG.o.std.pages key) (HK.o.by_.below He) (HV.o.by_.below He) HO.o hI.o (by
      have h1:=zbJ (geB key) now;have h2:=HG.o.now;omega) (fun x hx=>by
      have h1:=HG.o.srt.2 x (zbH.1 hx).1;have h2:=h1.1.2;have h3:=h1.2;omega)).mono fun e w' hh=>LsF.out hh
     rw[listed key val HG.o.srt.1,hits]at HQ;have HP:=fun W (hb:Below w1.heap.size w1 W)=>(qjx (lc:=kc) (hc:=vc) (hrn.below hb) (fun b hb2=>by have:=(Ho.o.vs b hb2).1;have:=hb.size;omega) (HK.o.by_.below hb) HO.o (HV.o.by_.below hb) hI.o (by have:=HG.o.now;omega)).mono fun e w' hh=>hh.prs;rw[hits]at HP;obtain⟨ni,hni⟩:∃ x,its.length=x:=⟨_,rfl⟩;rw[hni]at HQ HP KB;have h8:=zH HQ;have h7:=zH HP;have hD:=zH hni;have Ha:=zH (show w1.drew.cell? ⟨OB,2,none⟩=some (.slice KA kn kc)∧w1.drew.cell? ⟨OB,3,none⟩=some (.slice VA vn vc)∧w1.drew.cell? ⟨D,2,none⟩=some (.pointer (some ⟨T,0,none⟩))from⟨zC ((He.block OB (by have:=Hr.o;omega)).trans Hq.o),zC ((He.block OB (by have:=Hr.o;omega)).trans Hq.o),zC Hc.sd.box⟩);have HD:=zH He;clear hrn He Hc HQ HP hits hni;go_enter Tryz.func9,Tryz.ntmps9
     go_upto_region 11 with(go_at_call 8;refine(Hz.o _).mono ?_;rintro e w2 ⟨rfl,rfl⟩)
     refine qac (S:=fun W'=>W'.cell? ⟨OB,2,none⟩=some (.slice KA kn kc)∧W'.cell? ⟨OB,3,none⟩=some (.slice VA vn vc)∧W'.cell? ⟨D,2,none⟩=some (.pointer (some ⟨T,0,none⟩))) [8] (by kernel_rfl) Ha.o (fun _=>?_);generalize w1.drew=W4 at *;refine zP 0 71 (.pointer (some ⟨D,0,none⟩)) Ha.o ?_;try simp only[zS]
     refine zP 1 72 (.pointer (some ⟨D,0,none⟩)) Ha.o ?_;try simp only[zS]
     refine zP 2 73 (.pointer (some ⟨D,2,none⟩)) Ha.o ?_;try simp only[zS]
     refine zL 3 74 (.pointer (some ⟨T,0,none⟩)) rfl (Or.inl ⟨by rfl,fun W' hS=>by obtain⟨hS1,hS2,hS3⟩:=hS;go_simp⟩) (qaa Ha.o) ?_;try simp only[zS]
     refine zP 4 75 (.pointer (some ⟨OB,2,none⟩)) Ha.o ?_;try simp only[zS]
     refine zL 5 76 (.slice KA kn kc) rfl (Or.inl ⟨by rfl,fun W' hS=>by obtain⟨hS1,hS2,hS3⟩:=hS;go_simp⟩) (qaa Ha.o) ?_;try simp only[zS]
     refine zP 6 77 (.pointer (some ⟨OB,3,none⟩)) Ha.o ?_;try simp only[zS]
     refine zL 7 78 (.slice VA vn vc) rfl (Or.inl ⟨by rfl,fun W' hS=>by obtain⟨hS1,hS2,hS3⟩:=hS;go_simp⟩) (qaa Ha.o) ?_;try simp only[zS]
     refine zE 8 79 rfl (fun Kr hKr=>?_);go_simp;go_at_call 13
     refine h8.o.mono ?_;rintro e W5 ⟨hb5,A5,c5,rfl,hp5⟩;have Hv:=zH (HD.o.trans (hb5.mono HD.o.size));have Kc:=zH hp5;clear hb5 hp5;refine hKr.out (.tuple #[.slice A5 ni c5,.int .i64 0]) _ (qaf 8 (by rfl) (by kernel_rfl)) (fun _=>?_);clear hKr Kr;try simp only[zS]
     refine zR 9 70 (.tuple #[.slice A5 ni c5,.int .i64 0]) (qaf 8 (by rfl) (by kernel_rfl)) ?_;try simp only[zS]
     refine zR 10 80 (.slice A5 ni c5) (qaf 8 (by rfl) (by kernel_rfl)) ?_;try simp only[zS]
     refine zR 11 81 (.int .i64 0) (qaf 8 (by rfl) (by kernel_rfl)) ?_;try simp only[zS]
     refine zR 12 11 (.slice A5 ni c5) (qaf 8 (by rfl) (by kernel_rfl)) ?_;try simp only[zS]
     refine zR 13 12 (.int .i64 0) (qaf 8 (by rfl) (by kernel_rfl)) ?_;try simp only[zS]
     refine qad (by kernel_rfl) ?_ _;have Hm:Below W5.heap.size W5 W5.drew:=(zai _ _).drew;have Hf:=Hv.o.trans (Hm.mono Hv.o.size);have Hb:=zH (show W5.drew.cell? ⟨OB,2,none⟩=some (.slice KA kn kc)∧W5.drew.cell? ⟨OB,3,none⟩=some (.slice VA vn vc)∧W5.drew.cell? ⟨D,3,none⟩=some (.pointer (some ⟨Rn,0,none⟩))from⟨zC ((Hf.block OB (by have:=Hr.o;omega)).trans Hq.o),zC ((Hf.block OB (by have:=Hr.o;omega)).trans Hq.o),zC ((Ho.o.below Hf).sd.box)⟩);have HW:=zH (h7.o _ Hf);have Hj:=zH Hf;have HU:=zH (Kc.o.below Hm);clear Hm Hf;go_upto_region 12 with fail
     refine qac (S:=fun W'=>W'.cell? ⟨OB,2,none⟩=some (.slice KA kn kc)∧W'.cell? ⟨OB,3,none⟩=some (.slice VA vn vc)∧W'.cell? ⟨D,3,none⟩=some (.pointer (some ⟨Rn,0,none⟩))) [12] (by kernel_rfl) Hb.o (fun _=>?_);generalize W5.drew=W6 at *;refine zP 0 82 (.int .i64 0) Hb.o ?_;try simp only[zS]
     refine zP 1 83 (.bool true) Hb.o ?_;try simp only[zS]
     refine zP 2 84 (.bool true) Hb.o ?_;try simp only[zS]
     refine zP 3 85 (.slice A5 ni c5) Hb.o ?_;try simp only[zS]
     refine zP 4 86 (.pointer (some ⟨D,0,none⟩)) Hb.o ?_;try simp only[zS]
     refine zP 5 87 (.pointer (some ⟨D,0,none⟩)) Hb.o ?_;try simp only[zS]
     refine zP 6 88 (.pointer (some ⟨D,3,none⟩)) Hb.o ?_;try simp only[zS]
     refine zL 7 89 (.pointer (some ⟨Rn,0,none⟩)) rfl (Or.inl ⟨by rfl,fun W' hS=>by obtain⟨hS1,hS2,hS3⟩:=hS;go_simp⟩) (qaa Hb.o) ?_;try simp only[zS]
     refine zP 8 90 (.pointer (some ⟨OB,2,none⟩)) Hb.o ?_;try simp only[zS]
     refine zL 9 91 (.slice KA kn kc) rfl (Or.inl ⟨by rfl,fun W' hS=>by obtain⟨hS1,hS2,hS3⟩:=hS;go_simp⟩) (qaa Hb.o) ?_;try simp only[zS]
     refine zP 10 92 (.pointer (some ⟨OB,3,none⟩)) Hb.o ?_;try simp only[zS]
     refine zL 11 93 (.slice VA vn vc) rfl (Or.inl ⟨by rfl,fun W' hS=>by obtain⟨hS1,hS2,hS3⟩:=hS;go_simp⟩) (qaa Hb.o) ?_;try simp only[zS]
     refine zE 12 94 rfl (fun Kr hKr=>?_);go_simp;go_at_call 24
     refine HW.o.mono ?_;rintro e W7 ⟨hb7,A7,c7,rfl,hp7⟩;have hm:=qcO (ca:=c5) (cb:=c7) (HU.o.below hb7) hp7 hD.o hD.o (by omega);rw[zas rfl]at hm;have Km:=zH hm;have Hy:=zH hb7;clear hb7 hp7 hm;refine hKr.out (.slice A7 ni c7) _ (qaf 12 (by rfl) (by kernel_rfl)) (fun _=>?_);clear hKr Kr;try simp only[zS]
     refine zE 13 95 rfl (fun Kr hKr=>?_);go_simp;go_at_call 14
     refine Km.o.mono ?_;rintro e W8 ⟨rfl,hb8⟩;have hY:=zH hb8;clear hb8;refine hKr.out (.bool true) _ (qaf 12 (by rfl) (by kernel_rfl)) (fun _=>?_);clear hKr Kr;try simp only[zS]
     refine zR 14 96 (.bool true) (qaf 12 (by rfl) (by kernel_rfl)) ?_;try simp only[zS]
     refine zR 15 4 (.bool true) (qaf 12 (by rfl) (by kernel_rfl)) ?_;try simp only[zS]
     refine qad (by kernel_rfl) ?_ _;have Hx:Below w1.heap.size w1 W8:=Hj.o.trans ((Hy.o.mono Hj.o.size).trans (hY.o.mono (zah Hj.o.size Hy.o.size)));have Kp:=zH (show Ext (SU F G T D Rn Ro) (SU F G T D Rn Ro) w W8 from Ext.of (Touch.of_below (Hg.o.trans (Hx.mono Hg.o.size))));have Kk:=zH (Ho.o.below Hx);clear Hx;go_wp2;go_ret;exact⟨rfl,_,_,_,_,_,_,_,_,_,_,Kk.o,Kp.o,HG.o.mono (by omega) (by omega),by omega,by omega⟩
    ·have Kx:((k:Int)==8)=false:=by rw[zaI];omega
     obtain⟨i0,hi0,iz0,iz1,iz2⟩:=zaT qiL;by_cases c5:k<11
     ·have H1:(k:Int)<11:=by omega
      have Ky:decide ((k:Int)<11)=true:=zas H1;have g2:w1.cell? ⟨D,2,none⟩=some (.pointer (some ⟨T,0,none⟩)):=zC Ho.o.sd.box;have H7:=qeH Ho.o.sd.tr HG.o.std.on (by have:=HG.o.wt;omega) HG.o.std.root_in (by have:=HG.o.gen;omega);have H6:=commit_out HG.o hn;obtain⟨r,hr⟩:∃ r,qaW 0 t=r:=⟨_,rfl⟩;rw[hr]at H7 H6;have h4:=zH H7;have h0:=zH H6;clear H7 H6 hr;go_enter Tryz.func9,Tryz.ntmps9
      go_upto_region 15 with(first|(go_at_call 8;refine(Hz.o _).mono ?_;rintro e w2 ⟨rfl,rfl⟩)|(go_at_call 18;refine h4.o.mono ?_;rintro e w2 ⟨F2,rfl,htr2,hx2⟩;have HX:=zH htr2;have Kn:=zH hx2;clear htr2 hx2))
      obtain⟨hst2,hex2⟩:=Ho.o.tree HX.o Kn.o;have Hp:=zH hst2;have Hl:=zH hex2;clear hst2 hex2;rcases h0.o with⟨he,hoff,hmo,htp,hall⟩|⟨he,HA,HR⟩
      ·obtain⟨c,l,hl,hgen,hold⟩:=hall keep;have He:Below w2.heap.size w2 w2.drew:=(zai _ _).drew;have Hc:=Hp.o.below He;have KE:=Hl.o.touch.size;have hM:¬SU F G T D Rn Ro OB:=fun hu=>by
        have h1:=Kl.o OB hu;omega
       have HN:=(He.block OB (by have:=Hr.o;omega)).trans ((Hl.o.touch.block OB (by have:=Hr.o;omega) hM).trans Hq.o);have Ha:=zH (show w2.drew.cell? ⟨OB,4,none⟩=some (.slice CA pn pc)∧w2.drew.cell? ⟨D,4,none⟩=some (.pointer (some ⟨Ro,0,none⟩))∧w2.drew.cell? ⟨D,3,none⟩=some (.pointer (some ⟨Rn,0,none⟩))from⟨zC HN,zC Hc.sd.box,zC Hc.sd.box⟩);have hO:∀ ad,CA=some ad→¬SU F2 G T D Rn Ro ad.block:=fun ad e hu=>by
        rcases Hl.o.sub _ hu with h1|h1
        ·exact(HF.o ad e).1 h1
        ·have:=(HF.o ad e).2;omega
       have hR:∃ x∈[(Ro,old),(Rn,now)],x.2=l:=by
        rcases hl with rfl|rfl
        ·exact⟨(Ro,l),by simp,rfl⟩
        ·exact⟨(Rn,l),by simp,rfl⟩
       have hU:l.length≤m:=by
        rcases hl with rfl|rfl
        ·exact HG.o.old
        ·exact HG.o.now
       have Hs:=zH (fun(W:World) (hb:Below w2.drew.heap.size w2.drew W) (hc:W.cell? ⟨w2.drew.heap.size,0,none⟩=some (.pointer (some ⟨Ro,0,none⟩))∧W.cell? ⟨w2.drew.heap.size,0+1,none⟩=some (.pointer (some ⟨Rn,0,none⟩)))=>qfA (kc:=pc) (KA:=CA) (mn:=2) (mc:=2) (mb:=w2.drew.heap.size) (mo:=0) (rs:=[(Ro,old),(Rn,now)]) (keep:=keep) (Hc.below hb) hoff htp hmo HG.o.le hold (by have:=HG.o.now;have:=HG.o.old;omega) (by omega)
        (qaM HC.o (by have:=hb.size;have:=He.size;omega) (fun b off e=>have h9:b<w1.heap.size:=(HF.o _ e).2;(hb.block b (by have:=He.size;omega)).trans ((He.block b (by omega)).trans (Hl.o.touch.block b (HF.o _ e).2 (HF.o _ e).1)))) Kg.o hO
        (fun hu=>by have:=Hc.live _ hu;omega) (fun r hr=>by simpa using hr) (fun k r hk=>by
         match k,hk with
         | 0,hk=>cases hk;exact hc.1
         | 1,hk=>cases hk;exact hc.2
         | k+2,hk=>simp at hk) rfl (by omega) hR hd)
       rw[Ke.o]at Hs;have Hu:=zH He;have HI:=zH hold;have hB:=zH hmo;have hH:=zH htp;have hA:=zH hU;have hz:=zH hgen;clear He Hc hO HN KE hM hold hmo htp hoff hR hl hU hgen hall;obtain⟨r1,r2⟩:=r;have he:r1=2:=he;subst he;go_upto_region 16 with fail
       refine qac (S:=fun W'=>W'.cell? ⟨OB,4,none⟩=some (.slice CA pn pc)∧W'.cell? ⟨D,4,none⟩=some (.pointer (some ⟨Ro,0,none⟩))∧W'.cell? ⟨D,3,none⟩=some (.pointer (some ⟨Rn,0,none⟩))) [12] (by kernel_rfl) Ha.o (fun _=>?_);generalize w2.drew=W8 at *;refine zP 0 107 (.pointer (some ⟨D,0,none⟩)) Ha.o ?_;try simp only[zS]
       refine zP 1 108 (.pointer (some ⟨OB,4,none⟩)) Ha.o ?_;try simp only[zS]
       refine zL 2 109 (.slice CA pn pc) rfl (Or.inl ⟨by rfl,fun W' hS=>by obtain⟨hS1,hS2,hS3⟩:=hS;go_simp⟩) (qaa Ha.o) ?_;try simp only[zS]
       refine zP 3 110 (.pointer (some ⟨D,0,none⟩)) Ha.o ?_;try simp only[zS]
       refine zP 4 111 (.pointer (some ⟨D,0,none⟩)) Ha.o ?_;try simp only[zS]
       refine zP 5 112 (.pointer (some ⟨D,4,none⟩)) Ha.o ?_;try simp only[zS]
       refine zP 7 114 (.pointer (some ⟨D,0,none⟩)) Ha.o ?_;try simp only[zS]
       refine zP 8 115 (.pointer (some ⟨D,0,none⟩)) Ha.o ?_;try simp only[zS]
       refine zP 9 116 (.pointer (some ⟨D,3,none⟩)) Ha.o ?_;try simp only[zS]
       refine qae (rs:=[6,10]) (by kernel_rfl) (by simp) ?_;refine AllReadyG.ev (some 113) rfl rfl (fun Kr hKr=>?_) (AllReadyG.ev (some 117) rfl rfl (fun Kr hKr=>?_) AllReadyG.nil)
       ·skip
        refine Eq.mpr (zaw (by rfl)) ?_;refine qbs 30 (.tmp 112) rfl D 4 (.pointer (some ⟨Ro,0,none⟩)) _ rfl Ha.o.2.1 Tryz.underlying30 rfl ?_;refine hKr.out (.pointer (some ⟨Ro,0,none⟩)) _ (qaa Ha.o) (fun _=>?_);clear hKr Kr;try simp only[zS]
        refine zE 10 117 rfl (fun Kr hKr=>?_);refine Eq.mpr (zaw (by rfl)) ?_;refine qbs 30 (.tmp 116) rfl D 3 (.pointer (some ⟨Rn,0,none⟩)) _ rfl Ha.o.2.2 Tryz.underlying30 rfl ?_;refine hKr.out (.pointer (some ⟨Rn,0,none⟩)) _ (qaa Ha.o) (fun _=>?_);clear hKr Kr;try simp only[zS]
        refine zE 11 118 rfl (fun Kr hKr=>?_);refine Eq.mpr (zaw (by rfl)) ?_;refine qfl 41 (.tmp 113) (.tmp 117) rfl Tryz.underlying41 hi0 iz0 iz1 (by decide) (by decide) (.pointer (some ⟨Ro,0,none⟩)) (.pointer (some ⟨Rn,0,none⟩)) rfl rfl [.pointer (some ⟨Ro,0,none⟩)] [.pointer (some ⟨Rn,0,none⟩)] (by rfl) (by rfl) rfl rfl ?_;have Hi:Below W8.heap.size W8 (W8.alloc (.cells ([Value.pointer (some ⟨Ro,0,none⟩)]++[Value.pointer (some ⟨Rn,0,none⟩)]).toArray 30)):=zB _ _;have HB:=zH Hi;have Hk:=zH (Hs.o _ Hi ⟨zC (zaf W8 _),zC (zaf W8 _)⟩);have HH:=zH (show(W8.alloc (.cells ([Value.pointer (some ⟨Ro,0,none⟩)]++[Value.pointer (some ⟨Rn,0,none⟩)]).toArray 30)).cell? ⟨OB,4,none⟩=some (.slice CA pn pc)∧(W8.alloc (.cells ([Value.pointer (some ⟨Ro,0,none⟩)]++[Value.pointer (some ⟨Rn,0,none⟩)]).toArray 30)).cell? ⟨D,4,none⟩=some (.pointer (some ⟨Ro,0,none⟩))∧(W8.alloc (.cells ([Value.pointer (some ⟨Ro,0,none⟩)]++[Value.pointer (some ⟨Rn,0,none⟩)]).toArray 30)).cell? ⟨D,3,none⟩=some (.pointer (some ⟨Rn,0,none⟩))from⟨(zaR (Hi.block OB (cell_lt Ha.o.1))).trans Ha.o.1,(zaR (Hi.block D (cell_lt Ha.o.2.1))).trans Ha.o.2.1,(zaR (Hi.block D (cell_lt Ha.o.2.1))).trans Ha.o.2.2⟩);obtain⟨NB,hNB⟩:∃ x,W8.heap.size=x:=⟨_,rfl⟩;rw[hNB]at Hk⊢;clear Hi Hs hNB
        generalize W8.alloc (.cells ([Value.pointer (some ⟨Ro,0,none⟩)]++[Value.pointer (some ⟨Rn,0,none⟩)]).toArray 30)=W9 at *;refine hKr.out (.slice (some ⟨NB,0,none⟩) 2 2) _ (qaa HH.o) (fun _=>?_);clear hKr Kr;try simp only[zS]
        refine zE 12 119 rfl (fun Kr hKr=>?_);go_simp;go_at_call 25
        refine Hk.o.mono ?_;rintro e W1 ⟨rfl,hrest⟩;have HL:=zH hrest;clear hrest;refine hKr.out (.bool true) _ (qaf 12 (by rfl) (by kernel_rfl)) (fun _=>?_);clear hKr Kr;try simp only[zS]
        refine zR 13 4 (.bool true) (qaf 12 (by rfl) (by kernel_rfl)) ?_;try simp only[zS]
        refine qad (by kernel_rfl) ?_ _;go_wp2;go_ret;obtain⟨V',G',T',Rn',Ro',h1,h2⟩:=HL.o;exact⟨rfl,V',_,_,_,_,G',T',_,Rn',Ro',h1,(((Ext.of (Touch.of_below Hg.o)).trans Hl.o).trans (Ext.of (Touch.of_below (Hu.o.trans (HB.o.mono Hu.o.size))))).trans h2,Gd.opened HI.o rfl (za7 _) hz.o hB.o hH.o (by have:=hA.o;omega),by omega,by omega⟩
       ·skip
        refine Eq.mpr (zaw (by rfl)) ?_;refine qbs 30 (.tmp 116) rfl D 3 (.pointer (some ⟨Rn,0,none⟩)) _ rfl Ha.o.2.2 Tryz.underlying30 rfl ?_;refine hKr.out (.pointer (some ⟨Rn,0,none⟩)) _ (qaa Ha.o) (fun _=>?_);clear hKr Kr;try simp only[zS]
        refine zE 6 113 rfl (fun Kr hKr=>?_);refine Eq.mpr (zaw (by rfl)) ?_;refine qbs 30 (.tmp 112) rfl D 4 (.pointer (some ⟨Ro,0,none⟩)) _ rfl Ha.o.2.1 Tryz.underlying30 rfl ?_;refine hKr.out (.pointer (some ⟨Ro,0,none⟩)) _ (qaa Ha.o) (fun _=>?_);clear hKr Kr;try simp only[zS]
        refine zE 11 118 rfl (fun Kr hKr=>?_);refine Eq.mpr (zaw (by rfl)) ?_;refine qfl 41 (.tmp 113) (.tmp 117) rfl Tryz.underlying41 hi0 iz0 iz1 (by decide) (by decide) (.pointer (some ⟨Ro,0,none⟩)) (.pointer (some ⟨Rn,0,none⟩)) rfl rfl [.pointer (some ⟨Ro,0,none⟩)] [.pointer (some ⟨Rn,0,none⟩)] (by rfl) (by rfl) rfl rfl ?_;have Hi:Below W8.heap.size W8 (W8.alloc (.cells ([Value.pointer (some ⟨Ro,0,none⟩)]++[Value.pointer (some ⟨Rn,0,none⟩)]).toArray 30)):=zB _ _;have HB:=zH Hi;have Hk:=zH (Hs.o _ Hi ⟨zC (zaf W8 _),zC (zaf W8 _)⟩);have HH:=zH (show(W8.alloc (.cells ([Value.pointer (some ⟨Ro,0,none⟩)]++[Value.pointer (some ⟨Rn,0,none⟩)]).toArray 30)).cell? ⟨OB,4,none⟩=some (.slice CA pn pc)∧(W8.alloc (.cells ([Value.pointer (some ⟨Ro,0,none⟩)]++[Value.pointer (some ⟨Rn,0,none⟩)]).toArray 30)).cell? ⟨D,4,none⟩=some (.pointer (some ⟨Ro,0,none⟩))∧(W8.alloc (.cells ([Value.pointer (some ⟨Ro,0,none⟩)]++[Value.pointer (some ⟨Rn,0,none⟩)]).toArray 30)).cell? ⟨D,3,none⟩=some (.pointer (some ⟨Rn,0,none⟩))from⟨(zaR (Hi.block OB (cell_lt Ha.o.1))).trans Ha.o.1,(zaR (Hi.block D (cell_lt Ha.o.2.1))).trans Ha.o.2.1,(zaR (Hi.block D (cell_lt Ha.o.2.1))).trans Ha.o.2.2⟩);obtain⟨NB,hNB⟩:∃ x,W8.heap.size=x:=⟨_,rfl⟩;rw[hNB]at Hk⊢;clear Hi Hs hNB
        generalize W8.alloc (.cells ([Value.pointer (some ⟨Ro,0,none⟩)]++[Value.pointer (some ⟨Rn,0,none⟩)]).toArray 30)=W9 at *;refine hKr.out (.slice (some ⟨NB,0,none⟩) 2 2) _ (qaa HH.o) (fun _=>?_);clear hKr Kr;try simp only[zS]
        refine zE 12 119 rfl (fun Kr hKr=>?_);go_simp;go_at_call 25
        refine Hk.o.mono ?_;rintro e W1 ⟨rfl,hrest⟩;have HL:=zH hrest;clear hrest;refine hKr.out (.bool true) _ (qaf 12 (by rfl) (by kernel_rfl)) (fun _=>?_);clear hKr Kr;try simp only[zS]
        refine zR 13 4 (.bool true) (qaf 12 (by rfl) (by kernel_rfl)) ?_;try simp only[zS]
        refine qad (by kernel_rfl) ?_ _;go_wp2;go_ret;obtain⟨V',G',T',Rn',Ro',h1,h2⟩:=HL.o;exact⟨rfl,V',_,_,_,_,G',T',_,Rn',Ro',h1,(((Ext.of (Touch.of_below Hg.o)).trans Hl.o).trans (Ext.of (Touch.of_below (Hu.o.trans (HB.o.mono Hu.o.size))))).trans h2,Gd.opened HI.o rfl (za7 _) hz.o hB.o hH.o (by have:=hA.o;omega),by omega,by omega⟩
      ·obtain⟨r1,r2⟩:=r;have he:r1=0:=he;subst he;have HA:Gd L pages (n+1) m r2 now now:=HA;have HR:r2.g.was=r2.g.use:=HR;obtain⟨RA,rc,hrn⟩:=Hp.o.rn;have ha:=HA.std.room hL HR;rw[HA.pg]at ha;have Kf:=zH (qdk hrn (by have:=HG.o.now;omega));have g4:w2.cell? ⟨D,3,none⟩=some (.pointer (some ⟨Rn,0,none⟩)):=zC Hp.o.sd.box;have h5:=zH (Hp.o.live D (.inr (.inl rfl)));have hy:=zH HA;have Kh:=zH ha;clear HA HR hrn ha;go_upto_region 18 with(go_at_call 26;refine Kf.o.mono ?_;rintro e w3 ⟨hb3,R3,A3,c3,rfl,hR3,hrm3⟩;have hw:=(hb3.block D h5.o).trans Hp.o.sd.box;have s4:w3.cell? ⟨D,4,none⟩=some (.pointer (some ⟨Ro,0,none⟩)):=(zC hw);have t4:w3.frozen? ⟨D,4,none⟩=false:=(by exact zaQ _ _ _ _ _ hw);have hZ:=zH (Hp.o.commit hb3 hR3 hrm3 (fun b hb=>hb));clear hb3 hR3 hrm3 hw)
       obtain⟨hs5,hx5⟩:=hZ.o;generalize w3.setCell ⟨D,4,none⟩ (.pointer (some ⟨R3,0,none⟩))=w5 at hs5 hx5⊢;have He:Below w5.heap.size w5 w5.drew:=(zai _ _).drew;have Hn:=hs5.below He;obtain⟨RA5,rc5,hrn5⟩:=Hn.rn;obtain⟨nl,hnl⟩:∃ x,now.length=x:=⟨_,rfl⟩;obtain⟨rm,hrm⟩:∃ x,qal pages r2.g.use r2.g.was=x:=⟨_,rfl⟩;have H9:=qfe Hn.sd.tr.pg;rw[hy.o.pg,hrm]at H9;have Ht:=Kh.o;rw[hnl,hrm]at Ht;have KC:nl≤1000:=by rw[←hnl];have:=HG.o.now;omega
       have KD:=HG.o.le;have H0:=hrn5.c0;rw[hnl]at H0;have Hb:=zH (show w5.drew.cell? ⟨D,1,none⟩=some (.pointer (some ⟨G,0,none⟩))∧w5.drew.cell? ⟨D,5,none⟩=some (.int .i64 (pages:Int))∧w5.drew.cell? ⟨D,3,none⟩=some (.pointer (some ⟨Rn,0,none⟩))∧w5.drew.cell? ⟨Rn,0,none⟩=some (.slice RA5 nl rc5)from⟨zC Hn.sd.box,zC Hn.sd.box,zC Hn.sd.box,H0⟩);have Ki:=zH H9;have Hv:=zH He;have Kj:=zH Hn;have Ko:=zH hx5;have hP:((pages:Int)-(nl:Int))≤(rm:Int):=by omega
       have KJ:IntKind.i64.wrap ((pages:Int)-(nl:Int))=(pages:Int)-(nl:Int):=by rw[IntKind.wrap_i64];omega
       have Kz:decide (((pages:Int)-(nl:Int))≤(rm:Int))=true:=zas hP;have hQ:decide ((rm:Int)≥((pages:Int)-(nl:Int)))=true:=zas hP;clear He Hn hs5 hx5 hrn5 hnl hrm H9 Ht H0 s4 t4 g2 g4;go_upto_region 18 with fail
       refine qac (S:=fun W'=>W'.cell? ⟨D,1,none⟩=some (.pointer (some ⟨G,0,none⟩))∧W'.cell? ⟨D,5,none⟩=some (.int .i64 (pages:Int))∧W'.cell? ⟨D,3,none⟩=some (.pointer (some ⟨Rn,0,none⟩))∧W'.cell? ⟨Rn,0,none⟩=some (.slice RA5 nl rc5)) [] (by kernel_rfl) Hb.o (fun _=>?_);generalize w5.drew=W6 at *;refine zP 0 128 (.int .i64 0) Hb.o ?_;try simp only[zS]
       refine zP 1 129 (.bool true) Hb.o ?_;try simp only[zS]
       refine zP 2 130 (.bool true) Hb.o ?_;try simp only[zS]
       refine zP 3 131 (.pointer (some ⟨D,0,none⟩)) Hb.o ?_;try simp only[zS]
       refine zP 4 132 (.pointer (some ⟨D,0,none⟩)) Hb.o ?_;try simp only[zS]
       refine zP 5 133 (.pointer (some ⟨D,1,none⟩)) Hb.o ?_;try simp only[zS]
       refine zL 6 134 (.pointer (some ⟨G,0,none⟩)) rfl (Or.inl ⟨by rfl,fun W' hS=>by obtain⟨hS1,hS2,hS3,hS4⟩:=hS;go_simp⟩) (qaa Hb.o) ?_;try simp only[zS]
       refine zP 8 136 (.pointer (some ⟨D,0,none⟩)) Hb.o ?_;try simp only[zS]
       refine zP 9 137 (.pointer (some ⟨D,0,none⟩)) Hb.o ?_;try simp only[zS]
       refine zP 10 138 (.pointer (some ⟨D,5,none⟩)) Hb.o ?_;try simp only[zS]
       refine zL 11 139 (.int .i64 (pages:Int)) rfl (Or.inl ⟨by rfl,fun W' hS=>by obtain⟨hS1,hS2,hS3,hS4⟩:=hS;go_simp⟩) (qaa Hb.o) ?_;try simp only[zS]
       refine zP 12 140 (.pointer (some ⟨D,0,none⟩)) Hb.o ?_;try simp only[zS]
       refine zP 13 141 (.pointer (some ⟨D,0,none⟩)) Hb.o ?_;try simp only[zS]
       refine zP 14 142 (.pointer (some ⟨D,3,none⟩)) Hb.o ?_;try simp only[zS]
       refine zL 15 143 (.pointer (some ⟨Rn,0,none⟩)) rfl (Or.inl ⟨by rfl,fun W' hS=>by obtain⟨hS1,hS2,hS3,hS4⟩:=hS;go_simp⟩) (qaa Hb.o) ?_;try simp only[zS]
       refine zP 16 144 (.pointer (some ⟨Rn,0,none⟩)) Hb.o ?_;try simp only[zS]
       refine zP 17 145 (.pointer (some ⟨Rn,0,none⟩)) Hb.o ?_;try simp only[zS]
       refine zL 18 146 (.slice RA5 nl rc5) rfl (Or.inl ⟨by rfl,fun W' hS=>by obtain⟨hS1,hS2,hS3,hS4⟩:=hS;go_simp⟩) (qaa Hb.o) ?_;try simp only[zS]
       refine zP 19 147 (.int .i64 (nl:Int)) Hb.o ?_;try simp only[zS]
       refine zP 20 148 (.int .i64 ((pages:Int)-(nl:Int))) Hb.o ?_;try simp only[zS]
       refine zE 7 135 rfl (fun Kr hKr=>?_);go_simp;go_at_call 27
       refine Ki.o.mono ?_;rintro e W7 ⟨rfl,rfl⟩;refine hKr.out (.int .i64 (rm:Int)) _ (qaa Hb.o) (fun _=>?_);clear hKr Kr;try simp only[zS]
       refine zP 21 149 (.bool true) Hb.o ?_;try simp only[zS]
       refine zP 22 150 (.bool true) Hb.o ?_;try simp only[zS]
       refine zP 23 4 (.bool true) Hb.o ?_;try simp only[zS]
       refine qad (by kernel_rfl) ?_ _;go_wp2;go_ret;exact⟨rfl,_,_,_,_,_,_,_,_,_,_,Kj.o,(((Ext.of (Touch.of_below Hg.o)).trans Hl.o).trans Ko.o).trans (Ext.of (Touch.of_below Hv.o)),hy.o.mono (by omega) (by omega),by omega,by omega⟩
     ·have H1:¬((k:Int)<11):=by omega
      have Ky:decide ((k:Int)<11)=false:=zal H1;have KI:((k:Int)==11)=true:=by rw[zcz];omega
      have He:Below w1.heap.size w1 w1.drew:=(zai _ _).drew;have Hc:=Ho.o.below He;have Ha:=zH (show w1.drew.cell? ⟨OB,4,none⟩=some (.slice CA pn pc)∧w1.drew.cell? ⟨D,4,none⟩=some (.pointer (some ⟨Ro,0,none⟩))from⟨zC ((He.block OB (by have:=Hr.o;omega)).trans Hq.o),zC Hc.sd.box⟩);have Hs:=zH (fun(W:World) (hb:Below w1.drew.heap.size w1.drew W) (hc:W.cell? ⟨w1.drew.heap.size,0,none⟩=some (.pointer (some ⟨Ro,0,none⟩)))=>qht (l:=old) (kc:=pc) (kn:=pn) (KA:=CA) (mn:=1) (mc:=1) (mb:=w1.drew.heap.size) (mo:=0) (rs:=[(Ro,old)]) (Hc.below hb) HG.o.std.on HG.o.most HG.o.le (by have:=HG.o.std.old;rw[HG.o.pg]at this;exact this) (by have:=HG.o.now;have:=HG.o.old;omega) (by have:=HG.o.old;omega)
       (fun hu=>by have:=Hc.live _ hu;omega) (fun r hr=>.inl (za3.1 hr)) (fun k r hk=>by
        match k,hk with
        | 0,hk=>cases hk;exact hc
        | k+1,hk=>simp at hk) rfl (by omega) ⟨_,za3.2 rfl,rfl⟩)
      have Hu:=zH He;clear He Hc;go_enter Tryz.func9,Tryz.ntmps9
      go_upto_region 20 with(go_at_call 8;refine(Hz.o _).mono ?_;rintro e w2 ⟨rfl,rfl⟩)
      refine qac (S:=fun W'=>W'.cell? ⟨OB,4,none⟩=some (.slice CA pn pc)∧W'.cell? ⟨D,4,none⟩=some (.pointer (some ⟨Ro,0,none⟩))) [8] (by kernel_rfl) Ha.o (fun _=>?_);generalize w1.drew=W8 at *;refine zP 0 154 (.pointer (some ⟨D,0,none⟩)) Ha.o ?_;try simp only[zS]
      refine zP 1 155 (.pointer (some ⟨OB,4,none⟩)) Ha.o ?_;try simp only[zS]
      refine zL 2 156 (.slice CA pn pc) rfl (Or.inl ⟨by rfl,fun W' hS=>by obtain⟨hS1,hS2⟩:=hS;go_simp⟩) (qaa Ha.o) ?_;try simp only[zS]
      refine zP 3 157 (.pointer (some ⟨D,0,none⟩)) Ha.o ?_;try simp only[zS]
      refine zP 4 158 (.pointer (some ⟨D,0,none⟩)) Ha.o ?_;try simp only[zS]
      refine zP 5 159 (.pointer (some ⟨D,4,none⟩)) Ha.o ?_;try simp only[zS]
      refine zE 6 160 rfl (fun Kr hKr=>?_);refine Eq.mpr (zaw (by rfl)) ?_;refine qbs 30 (.tmp 159) rfl D 4 (.pointer (some ⟨Ro,0,none⟩)) _ rfl Ha.o.2 Tryz.underlying30 rfl ?_;refine hKr.out (.pointer (some ⟨Ro,0,none⟩)) _ (qaa Ha.o) (fun _=>?_);clear hKr Kr;try simp only[zS]
      refine zE 7 161 rfl (fun Kr hKr=>?_);refine Eq.mpr (zaw (by rfl)) ?_;refine qaP 41 (.tmp 160) rfl Tryz.underlying41 hi0 iz0 iz1 (by decide) (by decide) (.pointer (some ⟨Ro,0,none⟩)) rfl [.pointer (some ⟨Ro,0,none⟩)] (by rfl) rfl ?_;have Hi:Below W8.heap.size W8 (W8.alloc (.cells [Value.pointer (some ⟨Ro,0,none⟩)].toArray 30)):=zB _ _;have HB:=zH Hi;have Hk:=zH (Hs.o _ Hi (zC (zaf W8 _)));have HH:=zH (show(W8.alloc (.cells [Value.pointer (some ⟨Ro,0,none⟩)].toArray 30)).cell? ⟨OB,4,none⟩=some (.slice CA pn pc)∧(W8.alloc (.cells [Value.pointer (some ⟨Ro,0,none⟩)].toArray 30)).cell? ⟨D,4,none⟩=some (.pointer (some ⟨Ro,0,none⟩))from⟨(zaR (Hi.block OB (cell_lt Ha.o.1))).trans Ha.o.1,(zaR (Hi.block D (cell_lt Ha.o.2))).trans Ha.o.2⟩);obtain⟨NB,hNB⟩:∃ x,W8.heap.size=x:=⟨_,rfl⟩;rw[hNB]at Hk⊢;clear Hi Hs hNB;generalize W8.alloc (.cells [Value.pointer (some ⟨Ro,0,none⟩)].toArray 30)=W9 at *;refine hKr.out (.slice (some ⟨NB,0,none⟩) 1 1) _ (qaa HH.o) (fun _=>?_);clear hKr Kr;try simp only[zS]
      refine zE 8 162 rfl (fun Kr hKr=>?_);go_simp;go_at_call 11
      refine Hk.o.mono ?_;rintro e W1 ⟨rfl,hrest⟩;have HL:=zH hrest;clear hrest;refine hKr.out (.bool true) _ (qaf 8 (by rfl) (by kernel_rfl)) (fun _=>?_);clear hKr Kr;try simp only[zS]
      refine zR 9 4 (.bool true) (qaf 8 (by rfl) (by kernel_rfl)) ?_;try simp only[zS]
      refine qad (by kernel_rfl) ?_ _;go_wp2;go_ret;obtain⟨V',G',T',Rn',Ro',h1,h2⟩:=HL.o;have ho:=HG.o.std.old;rw[HG.o.pg]at ho;exact⟨rfl,V',_,_,_,_,G',T',_,Rn',Ro',h1,((Ext.of (Touch.of_below Hg.o)).trans (Ext.of (Touch.of_below (Hu.o.trans (HB.o.mono Hu.o.size))))).trans h2,Gd.opened ho HG.o.std.on (by have:=HG.o.wt;omega) (by have:=HG.o.gen;show t.g.gen≤_;omega) HG.o.most HG.o.tp (by have:=HG.o.old;omega),by omega,by omega⟩
end Go.Proofs.YtpmebcgmgfcmiaaGreatDoor
