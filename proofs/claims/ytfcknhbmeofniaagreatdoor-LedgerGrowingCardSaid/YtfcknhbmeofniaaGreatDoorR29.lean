/- Texts RfD RfE RrA LwK LgJ LgK. -/
import Derived.Test.YtfcknhbmeofniaaGreatDoorR26
import Derived.Test.YtfcknhbmeofniaaGreatDoorR28
set_option linter.all false
set_option maxRecDepth 100000
set_option maxHeartbeats 16000000
namespace Go.Proofs.YtfcknhbmeofniaaGreatDoor
open Go.RowKit BT
theorem qlH {P:Program}{t e:TypeId}{i:TypeInfo}(ht:P.underlying t=some (.slice e))(hi:P.info? e=some i)(hz:i.size=1)(b off n c lo hi':Nat)(h1:lo<hi')(h2:hi'≤c)(W:World) :
  (Instr.slice t (.slice (some ⟨b,off,none⟩) n c) (some (.int .i64 (lo:Int))) (some (.int .i64 (hi':Int))) none).run P W=.ok (.slice (some ⟨b,off+lo,none⟩) (hi' - lo) (c-lo)) W:=by
 have e1:(lo:Int)≤(hi':Int):=by omega
 have e2:(hi':Int)≤(c:Int):=by omega
 have hc:c≠lo:=by omega
 simp[Instr.slice,Instr.sliceBounds,Instr.sliceBound,asIntOf,zaU ht,sizeOf,typeInfo,hi,hz,hc,go_sem];rw[zax h2,zax (by omega)]
theorem qkN (A:Option Addr)(n c:Nat)(l:Bs)(w:World)(hb:By w A l)(hn:l.length=n)(hlen:n≤140737488355000) :
  Calls Tryz.prog 30 #[.slice A n c] w fun e w'=>e=.returned (.agg (bv (shaS l)).toArray)∧Below w.heap.size w w':=by
 obtain⟨I0,hi0,hz0,Hh,Hj⟩:=zaY qcu;obtain⟨W0,hW0⟩:∃ W0,w.alloc (.cells #[Value.int .u8 0,Value.int .u8 0,Value.int .u8 0,Value.int .u8 0,Value.int .u8 0,Value.int .u8 0,Value.int .u8 0,Value.int .u8 0,Value.int .u8 0,Value.int .u8 0,Value.int .u8 0,Value.int .u8 0,Value.int .u8 0,Value.int .u8 0,Value.int .u8 0,Value.int .u8 0,Value.int .u8 0,Value.int .u8 0,Value.int .u8 0,Value.int .u8 0,Value.int .u8 0,Value.int .u8 0,Value.int .u8 0,Value.int .u8 0,Value.int .u8 0,Value.int .u8 0,Value.int .u8 0,Value.int .u8 0,Value.int .u8 0,Value.int .u8 0,Value.int .u8 0,Value.int .u8 0] 34)=W0:=⟨_,rfl⟩;have hz:W0.heap.size=w.heap.size+1:=by rw[←hW0];simp
 have Hy:Below w.heap.size w W0:=by rw[←hW0];exact zB _ _
 have Hg:=zH hz;have H3:=zH Hy;have Hw:=zH (show W0.heap[w.heap.size]?=some (.cells (List.replicate 32 (Value.int .u8 0)).toArray 34 (0,0))by rw[←hW0];exact qh9 w);have HY:=zH (show Src W0 1 A n (bv l)by have:=(hb.below Hy).src;rwa [hn]at this);have HN:=zH hn;have a0:Own (W0.alloc (.cells #[] 5)) (w.heap.size+1) 5 1 (.slice (some ⟨W0.heap.size,0,none⟩) 0 0) 0 []:=Own.empty _ _ _ _ W0.heap.size 0 (by omega) (by simp);have H2:=zH a0;clear hb hn hz Hy a0;go_enter Tryz.func30,Tryz.ntmps30
 go_upto_region 1 with fail
 clear hW0;go_wp2_with (first
  | ((with_reducible show wpList _ _ _ (⟨some 12,_,_,_,_,_⟩::_) _ _);go_loud (refine qai rfl (.tmp 10) (.tmp 11) 40 rfl (w.heap.size+1) 5 I0 _ 1 1 Tryz.underlying40 hi0 hz0 Hh Hj rfl (by decide) (.slice (some ⟨W0.heap.size,0,none⟩) 0 0) 0 [] rfl H2.o A n c (bv l) rfl (HY.o.below (fun ad e h0=>HY.o.lt ad e h0) (zB _ _)) (qak _) (by unfold maxLen;omega) (by omega) (by have:=Hg.o;simp;omega) ?_;intro A1 c1 w1 ho1 hb1;rw[zaF,zaI]at ho1;rw[zaF];have Ht:=zH ho1;have Hk:=zH hb1;clear ho1 hb1))
  | ((with_reducible show wpList _ _ _ (⟨some 15,_,_,_,_,_⟩::_) _ _);go_loud (refine qai rfl (.tmp 13) (.tmp 14) 40 rfl (w.heap.size+1) 5 I0 _ 1 1 Tryz.underlying40 hi0 hz0 Hh Hj rfl (by decide) (.slice A1 n c1) n _ rfl (Ht.o.below (zad _) (zB _ _)) (some ⟨w1.heap.size,0,none⟩) 1 1 [.int .u8 128] rfl (qas (zae w1 _) rfl) (by simp[Value.oneCell']) (by unfold maxLen;omega) (by omega) (by have:=Hg.o;have:=Hk.o.size;simp at this⊢;omega) ?_;intro A2 c2 w2 ho2 hb2;have hs:=zH ho2;have H4:=zH hb2;clear ho2 hb2)))
 obtain⟨z,hz⟩:∃ z,(119-n % 64) % 64=z:=⟨_,rfl⟩;have HG:(n+1+z) % 64=56∧z≤63∧∀ j,j<z→(n+1+j) % 64≠56:=by exact⟨by omega,by omega,fun j hj=>by omega⟩
 have hw:=zH HG;have HZ:=zH hz;have hP:z≤63:=HG.2.1;clear hz HG;have H1:SmL w W0 w2 A2 (n+1) c2 (l++128::zeros 0):=⟨by
  have:=hs.o;rw[show bv l++[Value.int .u8 128]=bv (l++128::zeros 0)by rw[qao];rfl]at this;exact this,by rw[zaf,HN.o];rfl,by
  have h1:Below (w.heap.size+1) W0 (W0.alloc (.cells #[] 5)):=(zai _ _).alloc (by have:=Hg.o;omega) _;have h2:=h1.trans Hk.o;exact(h2.alloc (by have:=h2.size;have:=Hg.o;omega) _).trans H4.o⟩
 go_loopw [3] (fun v wr=>∃ (j q:Nat) (A:Option Addr) (c:Nat),v=.slice A q c∧q=n+1+j∧j≤z∧SmL w W0 wr A q c (l++128::zeros j)) (fun v _=>n+200-lenOf (some v))
 case atStart=>exact⟨0,n+1,A2,c2,rfl,rfl,by omega,H1⟩
 case round=>
  rename World=>wr;obtain⟨j,q,A3,c3,rfl,hq,hj,hm⟩:=hrel;clear H1;have hO:(q:Int)≤140737488355200:=by omega
  have Hc:=hw.o;by_cases hlt:j<z
  ·have ht:=Hc.2.2 j hlt;rw[←hq]at ht;have t1:((q:Int) % 64 != 56)=true:=by rw[bne,show((q:Int) % 64==56)=false by rw[zaN];omega];rfl
   have HM:=zH hm;have HJ:=zH (And.intro hlt hq);have He:=zH (hm.size Hg.o);clear hm hlt hj hq Hc ht;go_wp2_with ((with_reducible show wpList _ _ _ (⟨some 22,_,_,_,_,_⟩::_) _ _);go_loud (refine qai rfl (.tmp 20) (.tmp 21) 40 rfl (w.heap.size+1) 5 I0 _ 1 1 Tryz.underlying40 hi0 hz0 Hh Hj rfl (by decide) (.slice A3 q c3) q _ rfl (HM.o.own.below (zad _) (zB _ _)) (some ⟨wr.heap.size,0,none⟩) 1 1 [.int .u8 0] rfl (qas (zae wr _) rfl) (by simp[Value.oneCell']) (by unfold maxLen;omega) (by omega) (by have:=He.o;simp;omega) ?_;intro A4 c4 w4 ho4 hb4;have Hu:=zH ho4;have Hn:=zH hb4;clear ho4 hb4))
   have HD:=HJ.o;refine⟨⟨j+1,q+1,A4,c4,rfl,by omega,by omega,⟨?_,?_,(HM.o.bl.alloc He.o _).trans Hn.o⟩⟩,by simp[lenOf];omega⟩
   ·have:=Hu.o;rw[show bv (l++128::zeros j)++[Value.int .u8 0]=bv (l++128::zeros (j+1))by
     rw[show zeros (j+1)=zeros j++[0]by unfold zeros;rw[List.replicate_succ'],qao,qao];simp[bv]]at this
    exact this
   ·have:=HM.o.hn;simp only[zaf,zal,zeros_len]at this⊢;omega
  ·have ht:q % 64=56:=by
    have e:j=z:=by omega
    rw[hq,e];exact Hc.1
   have t1:((q:Int) % 64 != 56)=false:=by rw[bne,show((q:Int) % 64==56)=true by rw[zbZ];omega];rfl
   have HW:SmL w W0 wr A3 q c3 (l++128::zeros z):=by
    have e:j=z:=by omega
    rwa [e]at hm
   have Hs:=zH ht;clear hm hlt hj hq Hc ht;obtain⟨n0,hn0⟩:∃ x,q=x:=⟨_,rfl⟩;have hJ:(n0:Int)≤140737488355200:=by omega
   obtain⟨M,hM⟩:∃ M,8*n=M:=⟨_,rfl⟩;have e8:8*(n:Int)=(M:Int):=by omega
   have M0:(M:Int)≤1125899906842624:=by omega
   have wn:IntKind.u64.wrap (n:Int)=(n:Int):=zbL _ (by omega);have hg:=zH hM;have HX:SmL w W0 wr A3 q c3 ((l++128::zeros z)++(numB M 8).take 0):=by simpa using HW
   have Hr:=zH hn0;clear HW hn0 hM;go_wp2;go_loopw [3,5] (fun v i wr=>∃ (i':Int) (k q:Nat) (A:Option Addr) (c:Nat),i=.int .i64 i'∧i'+(k:Int)=7∧k≤8∧v=.slice A q c∧q=n0+k∧SmL w W0 wr A q c ((l++128::zeros z)++(numB M 8).take k)) (fun _ i _=>(intOf i+1).toNat)
   case atStart=>exact⟨7,0,q,A3,c3,rfl,by omega,by omega,rfl,Hr.o,HX⟩
   case round=>
    rename World=>wr;obtain⟨i',k,q,A3,c3,rfl,hik,hk,rfl,hq,hm⟩:=hrel;clear HX;by_cases hlt:k<8
    ·obtain⟨i,hi⟩:∃ i:Nat,i'=(i:Int):=⟨i'.toNat,by omega⟩;subst hi;have i0:(0:Int)≤(i:Int):=by omega
     obtain⟨m,hm8⟩:∃ m,8*i=m:=⟨_,rfl⟩;have e6:8*(i:Int)=(m:Int):=by omega
     have m0:(m:Int)≤56:=by omega
     have hN:q≤140737488355300:=by omega
     have i7:(i:Int)≤7:=by omega
     have Hp:=zH (show(M:Int) / 2 ^ m % 256=((qbI M k).toNat:Int)by unfold qbI;rw[show 56-8*k=m by omega];exact qdk M m);have HM:=zH hm;have HJ:=zH (And.intro hlt (And.intro hq hik));have He:=zH (hm.size Hg.o);clear hm hlt hk hq hm8 hik;go_wp2_with ((with_reducible show wpList _ _ _ (⟨some 38,_,_,_,_,_⟩::_) _ _);go_loud (refine qai rfl (.tmp 31) (.tmp 37) 40 rfl (w.heap.size+1) 5 I0 _ 1 1 Tryz.underlying40 hi0 hz0 Hh Hj rfl (by decide) (.slice A3 q c3) q _ rfl (HM.o.own.below (zad _) (zB _ _)) (some ⟨wr.heap.size,0,none⟩) 1 1 [.int .u8 ((M:Int) / 2 ^ m % 256)] rfl (qas (zae wr _) rfl) (by simp[Value.oneCell']) (by unfold maxLen;omega) (by omega) (by have:=He.o;simp;omega) ?_;intro A4 c4 w4 ho4 hb4;have Hu:=zH ho4;have Hn:=zH hb4;clear ho4 hb4))
     have HD:=HJ.o;refine⟨⟨_,k+1,q+1,A4,c4,rfl,by simp;omega,by omega,rfl,by omega,⟨?_,?_,(HM.o.bl.alloc He.o _).trans Hn.o⟩⟩,by simp[intOf]⟩
     ·have:=Hu.o;rw[Hp.o,show bv ((l++128::zeros z)++(numB M 8).take k)++[Value.int .u8 ((qbI M k).toNat:Int)]=bv ((l++128::zeros z)++(numB M 8).take (k+1))by
       rw[qcS M k HD.1,←zah,qao _ [qbI M k]];rfl]at this
      exact this
     ·have:=HM.o.hn;rw[qcS M k HD.1];simp only[zaf,zal,zbl]at this⊢;omega
    ·have i8:¬(0≤i'):=by omega
     have Hf:(numB M 8).take k=numB M 8:=zaL (by rw[qan _ 8 (zad _)];omega);rw[Hf]at hm;have HU:(l++128::zeros z)++numB M 8=padS l:=by
      unfold padS padT;rw[←hg.o,←HZ.o,HN.o,zah]
     rw[HU]at hm;have HM:=zH hm;have HP:=zH (show q % 64=0∧q≤140737488355300 from⟨by have:=Hs.o;have:=Hr.o;omega,by omega⟩);have He:=zH (hm.size Hg.o);clear hm Hf HU hq hk hlt hik;go_wp2;obtain⟨gt,rfl,hgB,hgl,_⟩:=HM.o.own.row.own (show 0<q by have:=Hr.o;have h1:=HM.o.hn;unfold padS padT at h1;simp at h1;omega);obtain⟨B3,hB3⟩:∃ x,wr.heap.size=x:=⟨_,rfl⟩;obtain⟨W3,hW3⟩:∃ x,wr.alloc (.cells #[.int .u32 1779033703,.int .u32 3144134277,.int .u32 1013904242,.int .u32 2773480762,.int .u32 1359893119,.int .u32 2600822924,.int .u32 528734635,.int .u32 1541459225] 126)=x:=⟨_,rfl⟩;have HB:=zae wr (.cells #[.int .u32 1779033703,.int .u32 3144134277,.int .u32 1013904242,.int .u32 2773480762,.int .u32 1359893119,.int .u32 2600822924,.int .u32 528734635,.int .u32 1541459225] 126);have HV:Below B3 wr W3:=by rw[←hW3];exact(zai _ _).alloc (by omega) _
     rw[hW3,hB3]at HB;have H0:Own W3 B3 126 1 (.slice (some ⟨B3,0,none⟩) 8 8) 8 (wsv startS.l):=Own.of_own (qbQ (zad _) rfl (by decide) HB);rw[hW3,hB3];have H8:=zH (HM.o.own.byN HM.o.hn);have HL:=zH (show q≤c3 from HM.o.own.row.capn);have he:=zH (show gt<B3 by omega);have Hm:=zH hB3;have hE:=HP.o.2;clear hW3 HB hgB hgl hB3;go_loopw [6,7] (fun s i Y=>∃ (i' k:Nat) (Ah:Option Addr) (ch:Nat) (h:V8),i=.int .i64 i'∧i'=64*k∧i'≤q∧s=.slice Ah 8 ch∧Own Y B3 126 1 (.slice Ah 8 ch) 8 (wsv h.l)∧qap h ((padS l).drop i')=qap startS (padS l)∧Below B3 wr Y) (fun _ i _=>q-(intOf i).toNat)
     case atStart=>exact⟨0,0,_,8,startS,rfl,rfl,by omega,rfl,H0,by rw[zbS],HV⟩
     case round=>
      rename World=>Y;obtain⟨i,kk,Ah,ch,h,rfl,hi64,hiq,rfl,ho,hbk,hbl⟩:=hrel;clear H0 HV;have hD:(i:Int)≤140737488355300:=by omega
      by_cases hlt:i<q
      ·have k0:(i:Int)<(q:Int):=by omega
       have HF:=HP.o.1;obtain⟨i2,hi2⟩:∃ x,i+64=x:=⟨_,rfl⟩;have ei:(i:Int)+64=(i2:Int):=by omega
       have Hi:i2≤q:=by omega
       obtain⟨J0,hJ0,_⟩:=zaY qcu;have hH:=qlH Tryz.underlying40 hi0 Hh gt 0 q c3 i i2 (by omega) (by have:=HL.o;omega);rw[zaF,show i2-i=64 by omega]at hH;have HT:By Y (some ⟨gt,i,none⟩) (((padS l).drop i).take 64):=by
        have h1:=(H8.o.belowB (fun ad e _=>by cases e;exact he.o) hbl).drop i;rw[zaF]at h1;exact h1.take 64
       have HE:=HM.o.hn;have Hv:=zH (qh7 h Ah ch (some ⟨gt,i,none⟩) (c3-i) (((padS l).drop i).take 64) Y ho.rfws HT (by rw[zaj,zap,HE];omega) (by have:=HL.o;omega));have HK:=zH (show qap (pieceS h (((padS l).drop i).take 64)) ((padS l).drop i2)=qap startS (padS l)by
        rw[←hbk,qbN (v:=h) (l:=(padS l).drop i) (by rw[zap,HE];omega),zb2,hi2])
       obtain⟨h2,hh2⟩:∃ x,pieceS h (((padS l).drop i).take 64)=x:=⟨_,rfl⟩;unfold P2F at Hv;rw[hh2]at Hv HK;have HI:=zH (And.intro hi2 (And.intro Hi (And.intro hi64 hlt)));have Hl:=zH hbl;clear ho hbk hbl hlt hiq hi64 hi2 Hi HT HE HF hh2;go_wp2_with (go_at_call 62;go_loud (refine Hv.o.mono ?_;rintro e w1 ⟨A1,c1,rfl,ho1,hb1⟩;have Ht:=zH ho1;have Hk:=zH hb1;clear ho1 hb1))
       have hh:=HI.o;have Hh:=Hl.o.size;have Hj:=Hm.o;refine⟨⟨i2,kk+1,A1,c1,h2,rfl,by omega,by omega,rfl,Ht.o.base (by omega),HK.o,Hl.o.trans (Hk.o.mono (by omega))⟩,by simp[intOf];omega⟩
      ·have k0:¬((i:Int)<(q:Int)):=by omega
       have Ha:h=qap startS (padS l):=by
        rw[←hbk,za0 (by rw[HM.o.hn];omega),qbF (by simp)]
       obtain⟨gh,rfl,hghB,hghl,hghc⟩:=qcU ho (by omega);obtain⟨fin,hfe⟩:∃ f,h=f:=⟨_,rfl⟩;rw[hfe]at hghc Ha;have Hq:=zH (show shaS l=qdh fin by unfold shaS;rw[Ha]);obtain⟨Hb,hHb⟩:∃ x,Y.heap.size=x:=⟨_,rfl⟩;have H9:=zH hghc;have hd:=zH (show gh<Hb by omega);have HO:=zH hHb;have Ho:=zH (show Below (w.heap.size+1) W0 Y from HM.o.bl.trans (hbl.mono (by have:=Hm.o;have:=He.o;omega)));have hB:=zH (show w.heap.size+1≤Y.heap.size by have:=hbl.size;have:=Hm.o;have:=He.o;omega);have hp:(Y.alloc (.cells (List.replicate 32 (Value.int .u8 0)).toArray 34)).heap[Hb]?=some (.cells (qd8 fin 0) 34 (0,0))∧Below Hb Y (Y.alloc (.cells (List.replicate 32 (Value.int .u8 0)).toArray 34)):=by
        refine⟨?_,(zai _ _).alloc (by omega) _⟩;rw[←hHb];exact zae Y _
       clear ho hbk hbl hlt hiq hi64 hghB hghl hghc Ha hfe hHb;go_wp2_with ((with_reducible show wpList _ _ _ (⟨none,.store 34 _ _,_,_,_,_⟩::_) _ _);go_loud (refine qag rfl 34 (.tmp 8) (.tmp 53) rfl _ 34 (w1:=Y) rfl rfl (List.replicate 32 (Value.int .u8 0)) rfl (by kernel_rfl) rfl (fun v hv=>by rw[List.eq_of_mem_replicate hv];rfl) ?_))
       rw[HO.o];have HC:=hp;go_loopw [9] (fun v Z=>∃ n:Nat,v=.int .i64 n∧n≤32∧Z.heap[Hb]?=some (.cells (qd8 fin n) 34 (0,0))∧Below Hb Y Z) (fun v _=>32-(intOf v).toNat)
       case atStart=>exact⟨0,rfl,by omega,HC.1,HC.2⟩
       case round=>
        rename World=>Z;obtain⟨j,rfl,hj,hbx,hbl⟩:=hrel;clear HC;by_cases hlt:j<32
        ·have k0:(j:Int)<32:=by omega
         obtain⟨a,ha⟩:∃ x,j / 4=x:=⟨_,rfl⟩;obtain⟨r,hr⟩:∃ x,j % 4=x:=⟨_,rfl⟩;obtain⟨m,hm24⟩:∃ m,24-8*r=m:=⟨_,rfl⟩;have e1:(j:Int) / 4=(a:Int):=by omega
         have e2:(j:Int) % 4=(r:Int):=by omega
         have e3:24-8*(r:Int)=(m:Int):=by omega
         have r3:(r:Int)≤3:=by omega
         have a7:(a:Int)<8:=by omega
         have hK:(m:Int)≤24:=by omega
         obtain⟨x,hx⟩:∃ x,fin.l[a]?=some x:=⟨_,zab (by rw[qa9];omega)⟩;have f0:Z.cell? ⟨gh,a,none⟩=some (.int .u32 (x.toNat:Int)):=(hbl.cell (p:=⟨gh,a,none⟩) hd.o).trans (H9.o a x hx);have hI:=qfY fin j (by omega);obtain⟨u0,hu0⟩:∃ u0,(qd8 fin j)[j]?=some u0:=⟨_,zbp (by omega)⟩;have d0:Z.cell? ⟨Hb,j,none⟩=some u0:=by rw[←hu0];exact zao Z _ j _ _ _ hbx
         have d1:Z.frozen? ⟨Hb,j,none⟩=false:=zbk Z _ _ _ _ hbx;have HS:=zH (qht fin a r j x hx (by omega) (by omega));have HR:=zH (ql2 x r);rw[hm24]at HR;have H7:=zH hbx;have Hl:=zH hbl;have HJ:=zH hlt;clear hu0 hI hbx hbl hx ha hr hm24 hlt hj;go_wp2;refine⟨⟨j+1,by go_num,by have:=HJ.o;omega,?_,Hl.o.setCell (zad _) _⟩,by have:=HJ.o;simp[intOf];omega⟩;rw[←HR.o,←HS.o];exact qac H7.o _
        ·have k0:¬((j:Int)<32):=by omega
         have Hz:Z.heap[Hb]?=some (.cells (bv (qdh fin)).toArray 34 (0,0)):=by
          have e:j=32:=by omega
          rw[hbx,e];unfold qd8;rw[zaL (by rw[qby];omega)];simp
         obtain⟨L,hL⟩:∃ L,bv (qdh fin)=L:=⟨_,rfl⟩;have hf:=zH (show bv (shaS l)=L by rw[Hq.o];exact hL);have HQ:=zH (show L.toArray.size=32 by rw[←hL,zas,bv_len,qby]);have Hx:=zH (show L.length=32 by rw[←hL,bv_len,qby]);have hu:=zH (show ∀ v∈L,v.oneCell'=true by rw[←hL];exact qak _);rw[hL]at Hz;have H5:=zH Hz;have hC:=HO.o;have HA:Below (w.heap.size+1) W0 Z:=Ho.o.trans (hbl.mono (by have:=hB.o;omega));have H6:=zH HA;have HH:=(HA.block w.heap.size (by omega)).trans Hw.o;have hA:=zH (show Z.there w.heap.size 0 32 from there_of_block HH 0 (by simp));have hy:=zH HH;clear hbx hbl Hz hL HA HH hlt hj hC;go_wp2_with (first
          | ((with_reducible show wpList _ _ _ (⟨some 71,_,_,_,_,_⟩::_) _ _);(refine wpList_load_mid rfl 34 (.tmp 8) rfl Hb 0 rfl L _ (rangeAt_whole H5.o) Tryz.underlying34 rfl (by rw[Hx.o];kernel_rfl) ?_))
          | ((with_reducible show wpList _ _ _ (⟨none,.store 34 _ _,_,_,_,_⟩::_) _ _);go_loud (refine wpList_store_mid rfl 34 (.tmp 2) (.tmp 71) rfl w.heap.size 0 L.toArray rfl rfl (by rw[HQ.o];exact hA.o) (by rw[HQ.o];kernel_rfl) (all_oneCell_toArray hu.o) ?_)))
         have Ha:=qae hy.o L (by simp[Hx.o]);refine za7 (v:=.agg L.toArray) ?_ rfl ?_
         ·exact qcl rfl rfl Hx.o Ha
         ·exact⟨by rw[hf.o],below_setCells (H3.o.trans (H6.o.mono (by omega))) (zad _) _ _⟩
end Go.Proofs.YtfcknhbmeofniaaGreatDoor
set_option linter.all false
namespace Go.Proofs.YtfcknhbmeofniaaGreatDoor
open Go.RowKit BT
theorem qjd (A:Option Addr)(n c:Nat)(b:Bs)(w:World)(hb:By w A b)(hn:b.length=n)(hlen:n≤140737488354990) :
  Calls Tryz.prog 13 #[.slice A n c] w fun e w'=>e=.returned (.agg (bv (qce b)).toArray)∧Below w.heap.size w w':=by
 obtain⟨I0,hi0,hz0,hz1,hz2⟩:=zaY qcu;obtain⟨W0,hW0⟩:∃ W0,w.alloc (.cells #[Value.int .u8 0,Value.int .u8 0,Value.int .u8 0,Value.int .u8 0,Value.int .u8 0,Value.int .u8 0,Value.int .u8 0,Value.int .u8 0,Value.int .u8 0,Value.int .u8 0,Value.int .u8 0,Value.int .u8 0,Value.int .u8 0,Value.int .u8 0,Value.int .u8 0,Value.int .u8 0,Value.int .u8 0,Value.int .u8 0,Value.int .u8 0,Value.int .u8 0,Value.int .u8 0,Value.int .u8 0,Value.int .u8 0,Value.int .u8 0,Value.int .u8 0,Value.int .u8 0,Value.int .u8 0,Value.int .u8 0,Value.int .u8 0,Value.int .u8 0,Value.int .u8 0,Value.int .u8 0] 34)=W0:=⟨_,rfl⟩;have hz:W0.heap.size=w.heap.size+1:=by rw[←hW0];simp
 have Hb:Below w.heap.size w W0:=by rw[←hW0];exact zB _ _
 have Hp:=zH hz;have He:=zH Hb;have Ha:=zH (show W0.heap[w.heap.size]?=some (.cells (List.replicate 32 (Value.int .u8 0)).toArray 34 (0,0))by rw[←hW0];exact qh9 w);have HY:=zH (show Src W0 1 A n (bv b)by have:=(hb.below Hb).src;rwa [hn]at this);have HN:=zH hn;have Hk:=zH (show Own (W0.alloc (.cells #[.int .u8 0] 5)) W0.heap.size 5 1 (.slice (some ⟨W0.heap.size,0,none⟩) 1 1) 1 [.int .u8 0]from Own.of_own (qbQ (zad _) rfl (by decide) (zae W0 _)));obtain⟨O,hO⟩:∃ O,bv (qce b)=O:=⟨_,rfl⟩;have Hl:=zH hO;have Hj:=zH (show O.toArray.size=32 by rw[←hO,zas,bv_len];exact qbB _);have Hi:=zH (show O.length=32 by rw[←hO,bv_len];exact qbB _);have Hm:=zH (show ∀ v∈O,v.oneCell'=true by rw[←hO];exact qak _);have HO:=zH (show bv (shaS (0::b))=O from hO);clear hb hn hz Hb hO;go_enter Tryz.func13,Tryz.ntmps13
 go_upto_region 1 with fail
 clear hW0;go_wp2_with (first
  | ((with_reducible show wpList _ _ _ (⟨some 5,_,_,_,_,_⟩::_) _ _);go_loud (refine qai rfl (.tmp 3) (.tmp 4) 40 rfl W0.heap.size 5 I0 _ 1 1 Tryz.underlying40 hi0 hz0 hz1 hz2 rfl (by decide) (.slice (some ⟨W0.heap.size,0,none⟩) 1 1) 1 [.int .u8 0] rfl Hk.o A n c (bv b) rfl (HY.o.below (fun ad e h0=>HY.o.lt ad e h0) (zB _ _)) (qak _) (by unfold maxLen;omega) (by omega) (by simp) ?_;intro A1 c1 w1 ho1 hb1;have Hf:=zH (((zai W0.heap.size W0).alloc (zad _) _).trans hb1);have Hh:=zH (qkN A1 (1+n) c1 (0::b) w1 (Own.byN ho1 (by simp[HN.o];omega)) (by simp[HN.o];omega) (by omega));rw[HO.o]at Hh;clear ho1 hb1))
  | (go_at_call 30;(with_reducible refine Hh.o.mono ?_);go_loud (rintro e w4 ⟨rfl,hb4⟩;have Hg:=zH (Hf.o.trans (hb4.mono Hf.o.size));have Hc:=(Hg.o.block w.heap.size (by have:=Hp.o;omega)).trans Ha.o;have Ho:=zH (show w4.there w.heap.size 0 32 from there_of_block Hc 0 (by simp));have Hn:=zH Hc;clear hb4 Hc))
  | ((with_reducible show wpList _ _ _ (⟨none,.store 34 _ _,_,_,_,_⟩::_) _ _);go_loud (refine wpList_store_mid rfl 34 (.tmp 2) (.tmp 6) rfl w.heap.size 0 O.toArray rfl rfl (by rw[Hj.o];exact Ho.o) (by rw[Hj.o];kernel_rfl) (all_oneCell_toArray Hm.o) ?_)))
 refine za7 (v:=.agg O.toArray) ?_ rfl ?_
 ·exact qcl rfl rfl Hi.o (qae Hn.o O (by simp[Hi.o]))
 ·exact⟨by rw[Hl.o],below_setCells (He.o.trans (Hg.o.mono He.o.size)) (zad _) _ _⟩
end Go.Proofs.YtfcknhbmeofniaaGreatDoor
namespace Go.Proofs.YtfcknhbmeofniaaGreatDoor
open Go.RowKit BT Go.Lib
variable {w w':World}{A:Option Addr}{i:Nat}{x:Pr}{S:Nat→Prop}
def bstr (s:Bs):ByteArray:=⟨s.toArray⟩
theorem qdL {s:Bs}{n:Nat}(c:Nat)(h:By w A s)(hn:s.length=n):(convert 40 9 (.slice A n c)).run Tryz.prog w=.ok (.string (bstr s)) w:=by
 subst hn;have e0:∀ l:Bs,bstr l=strOfNums (l.map fun u=>(u.toNat:Int)):=fun l=>by
  unfold bstr strOfNums;congr 2;rw[zcO]
  conv=>lhs;rw[←List.map_id l]
  exact List.map_congr_left (fun u _=>by simp)
 by_cases h0:0<s.length
 ·obtain⟨b,off,rfl,_,hc⟩:=h.at_ h0;rw[e0];exact run_convert_bytes_arg w 40 5 Tryz.underlying40 Tryz.underlying5 b off _ _ _ (by simp) (fun i hi=>by
   rw[hc i s[i] (zab hi)];simp[List.getD,hi]) 9 Tryz.underlying9
 ·have hb:s=[]:=zaX (by omega);subst hb;cases A with
  | none=>exact run_convert_bytes_nil w 40 5 Tryz.underlying40 Tryz.underlying5 _ _ 9 Tryz.underlying9
  | some a=>
   rw[zbl,run_convert_bytes_string w 40 9 5 _ 0 c Tryz.underlying40 Tryz.underlying5 Tryz.underlying9];have hl:(loadCells a 0).run Tryz.prog w=.ok #[] w:=run_loadCells_list (P:=Tryz.prog) w a [] (fun j v hj=>by cases hj);simp[Conv.bytesToString,hl];rfl
def PrS (w:World)(S:Nat→Prop)(A:Option Addr)(l:List Pr):Prop:=∃ cs,SrcS w S 2 A l.length cs∧RowV w S cs (l.flatMap fl2)
theorem ql6 {l:List Pr}(h:l[i]?=some x):(l.flatMap fl2)[i*2]?=some x.1∧(l.flatMap fl2)[i*2+1]?=some x.2:=by
 induction l generalizing i with
 | nil=>simp at h
 | cons p r ih=>
  cases i with
  | zero=>cases h;exact⟨rfl,rfl⟩
  | succ i=>
   have:=ih (by simpa using h);have e:(i+1)*2=i*2+1+1:=by omega
   rw[e];exact this
theorem PrS.get {l:List Pr}(h:PrS w S A l)(hx:l[i]?=some x) :
  ∃ b off KA kc VA vc,A=some ⟨b,off,none⟩∧S b∧w.cell? ⟨b,off+i*2,none⟩=some (.slice KA x.1.length kc)∧w.cell? ⟨b,off+i*2+1,none⟩=some (.slice VA x.2.length vc)∧ByS w S KA x.1∧ByS w S VA x.2∧x.1.length≤kc∧x.2.length≤vc:=by
 obtain⟨cs,h1,h2⟩:=h;obtain⟨q1,q2⟩:=ql6 hx;obtain⟨KA,kc,k1,k2,k3⟩:=h2.get q1;obtain⟨VA,vc,v1,v2,v3⟩:=h2.get q2;have hi:i<l.length:=(zac.1 hx).1;obtain⟨b,off,e,hS,hat⟩:=h1.at_ (by omega);exact⟨b,off,KA,kc,VA,vc,e,hS,hat _ _ k1,by rw[zcD];exact hat _ _ v1,k3,v3,k2,v2⟩
theorem PrS.same {l:List Pr}(h:PrS w S A l)(hs:Same S (fun _ _=>False) w w'):PrS w' S A l:=by
 obtain⟨cs,h1,h2⟩:=h;exact⟨cs,h1.same hs h2.val,h2.same hs⟩
theorem PrS.below {l:List Pr}(h:PrS w S A l)(hb:Below w.heap.size w w'):PrS w' S A l:=h.same (Same.of_below hb)
theorem PrS.mono {S':Nat→Prop}{l:List Pr}(h:PrS w S A l)(hS:∀ b,S b→S' b):PrS w S' A l:=by
 obtain⟨cs,h1,h2⟩:=h;exact⟨cs,h1.mono hS,h2.mono hS⟩
theorem PrS.nil (w:World)(S:Nat→Prop):PrS w S none []:=⟨[],SrcS.mk' rfl (fun h=>absurd h (by simp)),rfl⟩
end Go.Proofs.YtfcknhbmeofniaaGreatDoor
namespace Go.Proofs.YtfcknhbmeofniaaGreatDoor
open Go.RowKit BT
section
section
variable {P:Program}
end
end
end Go.Proofs.YtfcknhbmeofniaaGreatDoor
set_option linter.all false
namespace Go.Proofs.YtfcknhbmeofniaaGreatDoor
open Go.RowKit BT
theorem LeM.touch {w w':World}{B L:Nat}{F G:Nat→Prop}{es:List Bs}(h:LeM w B F L es)(ht:Touch G w w')(hG:∀ b,F b→¬G b):LeM w' B F L es:=by
 obtain⟨A,c,cs,A2,c2,x1,x2,x3,x4,x5,x6,x7⟩:=h.ex;have Ha:=(ht.block L h.lt (hG L (h.fo L (.inl rfl)))).trans x1;refine⟨h.lo,fun b hb=>⟨(h.fb b hb).1,zag (h.fb b hb).2 ht.size⟩,fun b hb=>h.fo b ?_,h.sz,h.many,A,c,cs,A2,c2,Ha,x2.touch ht (fun b e=>hG b (h.fo b (.inr ⟨_,_,x1,.inl e⟩))),x3.keepF ht (fun b hb=>hG b hb.2.2.2.2.2) (fun b hb=>⟨hb.1,zag hb.2.1 ht.size,hb.2.2⟩),x4,x5.touch ht (fun b e=>hG b (h.fo b (.inr ⟨_,_,x1,.inr e⟩))),x6,x7⟩;rcases hb with h1|⟨v,v2,h0,h1⟩
 ·exact .inl h1
 ·rw[Ha,←x1]at h0;exact .inr ⟨v,v2,h0,h1⟩
def NeL (w:World)(e:Ending)(w':World):Prop:=e=.returned (.tuple #[.agg #[.slice none 0 0,.slice none 0 0,.bool false],.int .i64 5])∧Below w.heap.size w w'
theorem qki {w:World}{L:Nat}{A:Option Addr}{c n:Nat}(h160:160<n)(hmax:n≤140737488355328) :
  Calls Tryz.prog 10 #[.pointer (some ⟨L,0,none⟩),.slice A n c] w (NeL w):=by
 have Hc:Below w.heap.size w (w.alloc (.cells #[.slice none 0 0,.slice none 0 0,.bool false] 42)):=zB _ _;have Hb:=zH (zae w (.cells #[.slice none 0 0,.slice none 0 0,.bool false] 42));have Hf:=zH (show(w.alloc (.cells #[.slice none 0 0,.slice none 0 0,.bool false] 42)).there w.heap.size 0 3 from there_of_block Hb.o 0 (by simp));have He:=zH Hc;have t1:¬((n:Int)≤160):=by omega
 have t2:(160:Int)<(n:Int):=by omega
 have t3:decide ((160:Int)<(n:Int))=true:=zaT t2;unfold NeL;clear Hc;go_enter Tryz.func10,Tryz.ntmps10
 go_upto_region 1 with fail
 generalize w.alloc (.cells #[.slice none 0 0,.slice none 0 0,.bool false] 42)=W0 at *;go_wp2_with ((with_reducible show wpList _ _ _ (⟨none,.store 42 _ _,_,_,_,_⟩::_) _ _);go_loud (refine wpList_store_mid rfl 42 (.tmp 4) (.tmp 9) rfl w.heap.size 0 #[.slice none 0 0,.slice none 0 0,.bool false] rfl rfl Hf.o (by kernel_rfl) (by kernel_rfl) ?_))
 have Ha:=qae Hb.o [.slice none 0 0,.slice none 0 0,.bool false] (by simp);refine za7 (v:=.tuple #[.agg #[.slice none 0 0,.slice none 0 0,.bool false],.int .i64 5]) ?_ rfl ?_
 ·exact qbb rfl _ _ _ ⟨w.heap.size,0,none⟩ rfl rfl (run_loadVar_mid _ _ _ _ _ _ (rangeAt_whole Ha) Tryz.underlying42 rfl (by kernel_rfl))
 ·exact⟨rfl,below_setCells He.o (zad _) _ _⟩
end Go.Proofs.YtfcknhbmeofniaaGreatDoor
set_option linter.all false
namespace Go.Proofs.YtfcknhbmeofniaaGreatDoor
open Go.RowKit BT
theorem qmA {P:Program}{op:Oper}{a:Act}{w w':World}{K:Act→World→Prop}{Q:Exit→Act→World→Prop}(t t2:TypeId)(x:Operand)(ho:op.op=.convert t t2 x)(v v':Value)
  (hx:a.eval x=v)(hr:(convert t t2 v).run P w=.ok v' w')(h:K (a.put op.dst v') w'):op.wp P a w K Q:=by
 unfold Oper.wp execOp;simp only[ho,hx,zbw,hr,zaO,zbK];exact h
theorem qmz (x y:Bs):wayP empH nodeH [x,y] 0=[y]:=by
 have h2:half 2=1:=qk6;rw[wayP,dif_neg (by simp)];simp only[zal,zbl];rw[show 0+1+1=2 from rfl,h2,zax (by omega)];simp only[zbt,zbT,zbI,zbS,qhY];rw[wayP,dif_pos (by simp)];rfl
theorem qhI (w:World)(x:UInt8):By (w.alloc (.cells #[.int .u8 (x.toNat:Int)] 5 (1,2))) (some ⟨w.heap.size,0,none⟩) [x]:=By.of_block (l:=[x]) (zae w _) rfl
theorem qis {w:World}{B L:Nat}{F:Nat→Prop}{es:List Bs}(h:LeM w B F L es)(x:UInt8)(hk:Kon w)(hkB:1<B)(hBw:B≤w.heap.size)(hmany:es.length<1000) :
  Calls Tryz.prog 11 #[.pointer (some ⟨L,0,none⟩),.slice (some ⟨w.heap.size,0,none⟩) 1 1] (w.alloc (.cells #[.int .u8 (x.toNat:Int)] 5 (1,2))) fun e w'=>e=.returned (.tuple #[])∧∃ F',LeM w' B F' L (es++[[x]])∧Below B w w'∧Ext F F' w w':=by
 have Ha:Below w.heap.size w (w.alloc (.cells #[.int .u8 (x.toNat:Int)] 5 (1,2))):=zB _ _;refine(qgV (n:=1) (h.below Ha) (qhI w x) rfl (by omega) (fun ad e _ hb=>?_) (hk.below hk.lt Ha) hkB (by have:=Ha.size;omega) hmany).mono fun e w' ⟨h1,F',h2,h3,h4⟩=>⟨h1,F',h2,(Ha.mono hBw).trans h3,(Ext.of (Touch.of_below Ha)).trans h4⟩;cases e;exact zb9 _ (h.fb _ hb).2
theorem qhW {w:World}(hn:Nib w)(hk:Kon w) :
  Calls Tryz.prog 5 #[] w fun e w'=>e=.returned (.bool true)∧Below w.heap.size w w':=by
 obtain⟨I0,hi0,hz0,hz1,hz2⟩:=zaY qcu;have HG:=zH (qeW w hn);have Hm:=zH hk;have hd:=fun(W:World)=>Lib.run_convert_bytes_const (P:=Tryz.prog) W 40 5 #[.int .u8 97] 1 1 Tryz.underlying40 Tryz.underlying5;have he:=fun(W:World)=>Lib.run_convert_bytes_const (P:=Tryz.prog) W 40 5 #[.int .u8 98] 1 1 Tryz.underlying40 Tryz.underlying5;have HJ:=zH he;clear hn hk;go_enter Tryz.func5,Tryz.ntmps5
 go_upto_region 4 with(go_at_call 6;go_loud (refine HG.o.mono ?_;rintro e w1 ⟨a,K,T,G,F,q,g,rfl,hc,hb⟩;have HO:=zH (qfM hc);have Hf:=zH hb;clear hc hb))
 go_upto_region 5 with(go_at_call 7;go_loud (refine HO.o.mono ?_;rintro e w2 ⟨L,rfl,hl,hb2⟩;have Hc:=zH hl;have Hx:=zH (Hf.o.trans (hb2.mono Hf.o.size));clear hl hb2))
 have HY:=zH (show Calls Tryz.prog 9 #[.pointer (some ⟨L,0,none⟩)] w2 fun e w'=>e=.returned (.int .i64 0)∧w'=w2 from qbM Hc.o);obtain⟨B,hB⟩:∃ B,w1.heap.size=B:=⟨_,rfl⟩;have Hh:=zH (show w.heap.size≤B∧1<B by have:=Hf.o.size;have:=Hm.o.lt;omega);rw[hB]at Hc;have Hy:=zH (show B≤w2.heap.size by have:=Hc.o.lt;have:=Hc.o.lo;omega);clear hB Hf HO HG;go_upto_region 7 with(go_at_call 9;go_loud (refine HY.o.mono ?_;rintro e wz ⟨rfl,rfl⟩))
 have HX:=zH (qha (n:=1) (c:=1) (Hc.o.below ((zai _ _).alloc (zad _) (.cells #[.int .u8 97] 5 (1,2)))) (qhI wz 97) rfl (by omega));go_upto_region 8 with(first
  | (go_at_call 10;go_loud (refine HX.o.mono ?_;rintro e w4 ⟨KA,kc,VA,vc,rfl,hk4,hv4,ha4,hb4,hbl⟩;have HT:=zH ((Hc.o.below ((zai _ _).alloc (zad _) (.cells #[.int .u8 97] 5 (1,2)))).below hbl);have HQ:=zH hk4;have HZ:=zH hv4;have Hj:=zH (((zai wz.heap.size wz).alloc (zad _) (.cells #[.int .u8 97] 5 (1,2))).trans (hbl.mono (by simp)));have Hw:=zH (show(∀ ad,KA=some ad→wz.heap.size≤ad.block)∧∀ ad,VA=some ad→wz.heap.size≤ad.block from⟨fun ad e=>by have:=ha4 ad e;simp at this;omega,fun ad e=>by have:=hb4 ad e (by simp);simp at this;omega⟩);clear hk4 hv4 ha4 hb4 hbl))
  | ((with_reducible show wpList _ _ _ (⟨none,.store 42 _ _,_,_,_,_⟩::_) _ _);go_loud (refine qag rfl 42 (.tmp 5) (.tmp 38) rfl _ 42 (w1:=w4) rfl rfl [.slice KA 5 kc,.slice VA 1 vc,.bool false] rfl (by kernel_rfl) rfl (fun v hv=>by rcases zaB.1 hv with rfl|hv;rfl;rcases zaB.1 hv with rfl|hv;rfl;rw[za1.1 hv];rfl) ?_)))
 have Hb:=(zai w4.heap.size w4).alloc (zad _) (.cells #[.slice KA 5 kc,.slice VA 1 vc,.bool false] 42);have H4:=zae w4 (.cells #[.slice KA 5 kc,.slice VA 1 vc,.bool false] 42);have HU:=zH (HT.o.below Hb);have HR:=zH (HQ.o.below Hb);have H0:=zH (HZ.o.below Hb);have Ho:=zH (Hx.o.trans ((Hj.o.trans (Hb.mono Hj.o.size)).mono Hx.o.size));have Hk:=zH (show B≤(w4.alloc (.cells #[.slice KA 5 kc,.slice VA 1 vc,.bool false] 42)).heap.size by have:=Hy.o;have:=Hj.o.size;have:=Hb.size;omega);have HC:=zH (show wz.heap.size≤w4.heap.size from Hj.o.size);have Ht:=zH (show ∀ b,b=L→b<wz.heap.size from fun b hb=>(Hc.o.fb b hb).2);have Hv:=zH H4;clear H4 Hb HX;generalize (w4.alloc (.cells #[.slice KA 5 kc,.slice VA 1 vc,.bool false] 42))=w5 at *;obtain⟨X,hX⟩:∃ X,w4.heap.size=X:=⟨_,rfl⟩;rw[hX]at Hv HC⊢;have hh:=zH hX;have HM:=zH (qis HU.o 97 (Hm.o.below Hm.o.lt Ho.o) Hh.o.2 Hk.o (by simp));clear hX;go_upto_region 9 with(go_at_call 11;go_loud (refine HM.o.mono ?_;rintro e w6 ⟨rfl,F6,hl6,hb6,hx6⟩;have HV:=zH hl6;have Hp:=zH hb6;have HK:=zH hx6;clear hl6 hb6 hx6))
 clear hd;have hf:=HJ.o;have Hl:=zH (show B≤w6.heap.size by have:=Hk.o;have:=Hp.o.size;omega);have HS:=zH (show Kon w6 from(Hm.o.below Hm.o.lt Ho.o).below Hh.o.2 Hp.o);have HN:=zH (qis HV.o 98 HS.o Hh.o.2 Hl.o (by simp));go_upto_region 10 with(go_at_call 11;go_loud (refine HN.o.mono ?_;rintro e w7 ⟨rfl,F7,hl7,hb7,hx7⟩;have HA:=zH (show LeM w7 B F7 L [[97],[98]]from hl7);have Hq:=zH hb7;have HL:=zH (HK.o.trans hx7);clear hl7 hb7 hx7))
 clear hf;have H6:=zH (show Kon w7 from HS.o.below Hh.o.2 Hq.o);have HH:=qkb HA.o (k:=2) (m:=0) (by simp) (by omega) (by omega) H6.o;rw[show lvs [[97],[98]] 2=[qce [97],qce [98]]from rfl,qmz]at HH;have HP:=zH HH;clear HH;go_upto_region 11 with(go_at_call 16;go_loud (refine HP.o.mono ?_;rintro e w8 ⟨PA,q8,pc,rfl,hq8,ho8,-,hb8⟩;obtain rfl:q8=1:=hq8;have HB:=zH ho8;have Hr:=zH hb8;clear ho8 hb8))
 have Hz:=zH (qla (HA.o.below Hr.o) (k:=3) (by simp) (by omega));obtain⟨ZL,hZL⟩:∃ x,(Value.int .i64 0::List.replicate 32 (Value.int .u8 0))=x:=⟨_,rfl⟩;have Hn:=zH (show ZL.length=33 by rw[←hZL];simp);have HD:=zH (show ∀ v∈ZL,v.oneCell'=true by
  rw[←hZL];intro v hv;rcases zaB.1 hv with rfl|h
  ·rfl
  ·rw[List.eq_of_mem_replicate h];rfl)
 rw[hZL]at Hz;clear hZL;go_upto_region 12 with(first
  | (go_at_call 8;go_loud (refine Hz.o.mono ?_;rintro e w9 ⟨rfl,hb9⟩;have Hs:=zH hb9;clear hb9))
  | ((with_reducible show wpList _ _ _ (⟨none,.store 36 _ _,_,_,_,_⟩::_) _ _);go_loud (refine qag rfl 36 (.tmp 9) (.tmp 56) rfl _ 36 (w1:=w9) rfl rfl ZL rfl (by rw[Hn.o];kernel_rfl) (by rw[Hn.o];rfl) HD.o ?_)))
 have Hb:=(zai w9.heap.size w9).alloc (zad _) (.cells ZL.toArray 36);have Hg:=Hr.o.trans (Hs.o.mono Hr.o.size);have HE:Below w7.heap.size w7 (w9.alloc (.cells ZL.toArray 36)):=Hg.trans (Hb.mono Hg.size);have ht:Touch (fun b=>b=L) w5 (w9.alloc (.cells ZL.toArray 36)):=(HL.o.touch).trans (Touch.of_below HE);have hX:(w9.alloc (.cells ZL.toArray 36)).heap[X]?=some (.cells #[.slice KA 5 kc,.slice VA 1 vc,.bool false] 42 (0,0)):=(ht.block X (zaa.1 Hv.o).1 (fun hb=>by have:=Ht.o X hb;have:=HC.o;omega)).trans Hv.o;have H1:=HR.o.touchF ht (fun ad e _ hb=>by have:=Ht.o _ hb;have:=Hw.o.1 ad e;omega);have H3:=H0.o.touchF ht (fun ad e _ hb=>by have:=Ht.o _ hb;have:=Hw.o.2 ad e;omega);obtain⟨PB,hPA,_⟩:=HB.o.row.own (Nat.succ_pos 0);subst hPA;have H2:By (w9.alloc (.cells ZL.toArray 36)) (some ⟨PB,0,none⟩) (qce [98]):=by
  have:=HB.o.byF;simp only[List.flatten_cons,List.flatten_nil,zaP]at this;exact this.below (Hs.o.trans (Hb.mono Hs.o.size))
 have HI:=zH (show Below w.heap.size w (w9.alloc (.cells ZL.toArray 36))from(Ho.o.trans ((Hp.o.trans Hq.o).mono Hh.o.1)).trans (HE.mono (by have:=Hh.o.1;have:=Hl.o;have:=Hq.o.size;omega)));clear HM HN HP Hz Hs Hr HL HK Hq Hp HA HV HU HT Hc HB Hg HE ht Hb Hv HR H0 HQ HZ Hj Ho Ht Hw Hx HY HC;generalize (w9.alloc (.cells ZL.toArray 36))=W at *;obtain⟨XL,hXL⟩:∃ x,bv (qce [98])=x:=⟨_,rfl⟩;have H5:XL.length=32:=by rw[←hXL,bv_len,qcm]
 have Hu:=zH (show ∀ W':World,Below W.heap.size W W'→W'.cell? ⟨X,0,none⟩=some (.slice KA 5 kc)∧W'.cell? ⟨X,1,none⟩=some (.slice VA 1 vc)∧W'.cell? ⟨X,2,none⟩=some (.bool false)∧(convert 40 9 (.slice KA 5 kc)).run Tryz.prog W'=.ok (.string { data:=#[108,0,0,0,0] }) W'∧(convert 40 9 (.slice VA 1 vc)).run Tryz.prog W'=.ok (.string { data:=#[97] }) W'∧W'.rangeAt PB 0 XL from fun W' hb=>by
  have HF:=(hb.block X (zaa.1 hX).1).trans hX;refine⟨zC HF,zC HF,zC HF,qdL kc (H1.below hb) rfl,qdL vc (H3.below hb) rfl,?_⟩;have:=(H2.below hb).range 0 32;rw[zbS,zaL (by rw[qcm];omega),hXL]at this;exact this)
 have HW:=zH (qjd (some ⟨W.drew.heap.size,0,none⟩) 1 1 [98] (W.drew.alloc (.cells #[.int .u8 98] 5 (1,2))) (qhI W.drew 98) rfl (by omega));rw[hXL]at HW;have ha:=fun(W':World)=>ql4 (qcm [98]) (qcm [98]) W';rw[hXL,zaT rfl]at ha;have H9:=zH H5;have hg:=HJ.o W.drew;have Ha:=zH (Hu.o W.drew ((zai _ _).drew));have Hi:=zH (show Below W.heap.size W W.drew from(zai _ _).drew);clear hXL hX H1 H3 H2 H5;refine qad (S:=fun W'=>W'.cell? ⟨X,0,none⟩=some (.slice KA 5 kc)∧W'.cell? ⟨X,1,none⟩=some (.slice VA 1 vc)∧W'.cell? ⟨X,2,none⟩=some (.bool false)∧(convert 40 9 (.slice KA 5 kc)).run Tryz.prog W'=.ok (.string { data:=#[108,0,0,0,0] }) W'∧(convert 40 9 (.slice VA 1 vc)).run Tryz.prog W'=.ok (.string { data:=#[97] }) W'∧W'.rangeAt PB 0 XL) [] (by kernel_rfl) Ha.o (fun _=>?_);refine zP 0 58 (.int .i64 0) Ha.o ?_;try simp only[zS]
 refine zP 1 59 (.bool true) Ha.o ?_;try simp only[zS]
 refine zP 2 60 (.bool true) Ha.o ?_;try simp only[zS]
 refine zP 3 61 (.pointer (some ⟨X,0,none⟩)) Ha.o ?_;try simp only[zS]
 refine zL 4 62 (.slice KA 5 kc) rfl (Or.inl ⟨by rfl,fun W' hS=>by obtain⟨hS1,hS2,hS3,hS4,hS5,hS6⟩:=hS;clear hS6;go_simp⟩) (qab Ha.o) ?_;try simp only[zS]
 refine zL 5 63 (.string { data:=#[108,0,0,0,0] }) rfl (Or.inl ⟨by rfl,fun W' hS=>by obtain⟨hS1,hS2,hS3,hS4,hS5,hS6⟩:=hS;clear hS6;go_simp⟩) (qab Ha.o) ?_;try simp only[zS]
 refine zP 6 64 (.bool true) Ha.o ?_;try simp only[zS]
 refine zP 7 65 (.bool true) Ha.o ?_;try simp only[zS]
 refine zP 8 66 (.bool true) Ha.o ?_;try simp only[zS]
 refine zP 9 67 (.pointer (some ⟨X,1,none⟩)) Ha.o ?_;try simp only[zS]
 refine zL 10 68 (.slice VA 1 vc) rfl (Or.inl ⟨by rfl,fun W' hS=>by obtain⟨hS1,hS2,hS3,hS4,hS5,hS6⟩:=hS;clear hS6;go_simp⟩) (qab Ha.o) ?_;try simp only[zS]
 refine zL 11 69 (.string { data:=#[97] }) rfl (Or.inl ⟨by rfl,fun W' hS=>by obtain⟨hS1,hS2,hS3,hS4,hS5,hS6⟩:=hS;clear hS6;go_simp⟩) (qab Ha.o) ?_;try simp only[zS]
 refine zP 12 70 (.bool true) Ha.o ?_;try simp only[zS]
 refine zP 13 71 (.bool true) Ha.o ?_;try simp only[zS]
 refine zP 14 72 (.bool true) Ha.o ?_;try simp only[zS]
 refine zP 15 73 (.pointer (some ⟨X,2,none⟩)) Ha.o ?_;try simp only[zS]
 refine zL 16 74 (.bool false) rfl (Or.inl ⟨by rfl,fun W' hS=>by obtain⟨hS1,hS2,hS3,hS4,hS5,hS6⟩:=hS;clear hS6;go_simp⟩) (qab Ha.o) ?_;try simp only[zS]
 refine zP 17 75 (.bool true) Ha.o ?_;try simp only[zS]
 refine zP 18 76 (.bool true) Ha.o ?_;try simp only[zS]
 refine zP 19 77 (.bool true) Ha.o ?_;try simp only[zS]
 refine zP 20 78 (.int .i64 0) Ha.o ?_;try simp only[zS]
 refine zP 21 79 (.bool true) Ha.o ?_;try simp only[zS]
 refine zP 22 80 (.bool true) Ha.o ?_;try simp only[zS]
 refine zP 23 81 (.bool true) Ha.o ?_;try simp only[zS]
 refine zP 24 82 (.slice (some ⟨PB,0,none⟩) 1 pc) Ha.o ?_;try simp only[zS]
 refine zP 25 83 (.int .i64 1) Ha.o ?_;try simp only[zS]
 refine zP 26 84 (.bool true) Ha.o ?_;try simp only[zS]
 refine zP 27 85 (.bool true) Ha.o ?_;try simp only[zS]
 refine zP 28 86 (.bool true) Ha.o ?_;try simp only[zS]
 refine zP 29 87 (.slice (some ⟨PB,0,none⟩) 1 pc) Ha.o ?_;try simp only[zS]
 refine zP 30 88 (.pointer (some ⟨PB,0,none⟩)) Ha.o ?_;try simp only[zS]
 refine qaW (i:=31) (some 89) (v:=.agg XL.toArray) rfl rfl (by kernel_rfl) (by kernel_rfl) (by kernel_rfl) (by kernel_rfl) (fun _ _ _ h=>h) (yieldsIf_load_mid (by rfl) 34 (.tmp 88) rfl PB 0 rfl XL _ (fun W' hS=>hS.2.2.2.2.2) Tryz.underlying34 rfl (by rw[H9.o];kernel_rfl)) (qab Ha.o) ?_;try simp only[zS]
 refine zE 32 90 rfl (fun Kr hKr=>?_);refine Eq.mpr (zax (by rfl)) ?_;refine qaU 40 _ rfl Tryz.underlying40 hi0 hz0 hz1 (by decide) (by decide) (.int .u8 98) rfl [.int .u8 98] (by rfl) rfl ?_;have H7:=zH (Hu.o (W.drew.alloc (.cells #[.int .u8 98] 5)) (Hi.o.alloc Hi.o.size _));refine hKr.out (.slice (some ⟨W.drew.heap.size,0,none⟩) 1 1) _ (qab H7.o) (fun _=>?_);clear hKr Kr;try simp only[zS]
 refine zE 33 91 rfl (fun Kr hKr=>?_);refine Eq.mpr (zax (by rfl)) ?_;refine qmA 40 40 (.tmp 90) rfl _ _ rfl hg ?_;have H8:=zH (Hu.o (W.drew.alloc (.cells #[.int .u8 98] 5 (1,2))) (Hi.o.alloc Hi.o.size _));refine hKr.out (.slice (some ⟨W.drew.heap.size,0,none⟩) 1 1) _ (qab H8.o) (fun _=>?_);clear hKr Kr;try simp only[zS]
 refine zE 34 92 rfl (fun Kr hKr=>?_);go_simp;go_at_call 13
 refine HW.o.mono ?_;rintro e W1 ⟨rfl,hb1⟩;have Hf:=zH (show Below W.heap.size W W1 from(Hi.o.alloc Hi.o.size _).trans (hb1.mono (by simp)));have He:=zH (Hu.o W1 Hf.o);clear hb1;refine hKr.out (.agg XL.toArray) _ (qab He.o) (fun _=>?_);clear hKr Kr;try simp only[zS]
 refine zP 35 93 (.bool true) He.o ?_;try simp only[zS]
 refine zP 36 94 (.bool true) He.o ?_;try simp only[zS]
 refine zP 37 95 (.bool true) He.o ?_;try simp only[zS]
 refine zP 38 96 (.int .i64 50) He.o ?_;try simp only[zS]
 refine zP 39 97 (.bool true) He.o ?_;try simp only[zS]
 refine zP 40 98 (.bool true) He.o ?_;try simp only[zS]
 refine zP 41 0 (.bool true) He.o ?_;try simp only[zS]
 refine qaf (by kernel_rfl) ?_ _;go_wp2;go_ret;exact⟨rfl,HI.o.trans (Hf.o.mono HI.o.size)⟩
end Go.Proofs.YtfcknhbmeofniaaGreatDoor
