/- Texts LgL LgQ. -/
import Derived.Test.YtfcknhbmeofniaaGreatDoorR29
import Derived.Test.YtfcknhbmeofniaaGreatDoorCards
import Derived.Test.YtfcknhbmeofniaaGreatDoorTie
import Derived.Deep.DeepWitnessRowRef
import Derived.Deep.DeepLaidRun
import Derived.LaidHandle
import Derived.Lib.SmallJoins
set_option linter.all false
set_option maxRecDepth 100000
set_option maxHeartbeats 16000000
set_option linter.all false
namespace Go.Proofs.YtfcknhbmeofniaaGreatDoor
open Go.RowKit BT
structure EnR (W:World) (A:Option Addr) (L:List Bs):Prop where
 at_:0<L.length→∃ b off,A=some ⟨b,off,none⟩∧b<W.heap.size∧∀ k l,L[k]?=some l→∃ EA ec,W.cell? ⟨b,off+k,none⟩=some (.slice EA l.length ec)∧By W EA l
 bd:∀ l∈L,l.length≤140737488355328
theorem BT.flat_at {α:Type}{m:Nat}:∀ {l:List (List α)} {k:Nat} {x:List α},(∀ y∈l,y.length=m)→l[k]?=some x→(l.flatten.drop (k*m)).take m=x
 | [],_,_,_,h=>by simp at h
 | y::l,0,x,h,hk=>by
  simp at hk;subst hk;have:=h y (by simp);simp[this]
 | y::l,k+1,x,h,hk=>by
  have hy:=h y (by simp);have:=BT.flat_at (m:=m) (fun z hz=>h z (by simp[hz])) (show l[k]?=some x by simpa using hk);rw[List.flatten_cons,List.drop_append,za0 (by rw[hy,Nat.succ_mul];omega),zaI,hy,show(k+1)*m-m=k*m by rw[Nat.succ_mul];omega,this]
def heH (es:List Bs)(k:Nat):List Value:=Value.int .i64 (k:Int)::bv (mtH (lvs es k))
theorem qgd (es:List Bs)(k:Nat):(heH es k).length=33:=by rw[heH,zal,bv_len,qcD (qeZ es k)]
theorem qjZ (es:List Bs)(k:Nat):∀ v∈heH es k,v.oneCell'=true:=fun v hv=>by
 rcases zaB.1 hv with rfl|h
 ·rfl
 ·exact qak _ v h
theorem qk8 {es:List Bs}(x:Bs){ks:List Nat}(h:∀ k∈ks,k≤es.length):(ks.map (heH (es++[x]))).flatten=(ks.map (heH es)).flatten:=by
 congr 1;refine List.map_congr_left fun k hk=>?_;unfold heH;rw[qlq es x (h k hk)]
theorem qlR:(Tryz.prog.info? 36).map (fun i=>(i.zero,i.size,i.bytes))=some (some (.agg (Value.int .i64 0::List.replicate 32 (Value.int .u8 0)).toArray),33,40):=by kernel_rfl
theorem qkt {w:World}{B n hc:Nat}{HA:Option Addr}{es:List Bs}{ks:List Nat}(h:Own w B 36 33 (.slice HA n hc) n (ks.map (heH es)).flatten)(hn:ks.length=n){k x:Nat}(hk:ks[k]?=some x) :
  ∃ g,HA=some ⟨g,0,none⟩∧g<w.heap.size∧w.rangeAt g (k*33) (heH es x):=by
 have Hb:=(zac.1 hk).1;obtain⟨A',c',e1,hl,hf⟩:=h.row.form;cases e1;obtain⟨g,rfl,_,hg,hc⟩:=hf (by omega);refine⟨g,rfl,hg,fun j v hv=>?_⟩;have Ha:((ks.map (heH es)).flatten.drop (k*33)).take 33=heH es x:=BT.flat_at (fun y hy=>by
  obtain⟨z,_,rfl⟩:=zbh.1 hy;exact qgd es z) (by rw[zaD,hk];rfl)
 have hj:j<33:=by
  have:=(zac.1 hv).1
  rwa [qgd]at this
 rw[←Ha,zaR,zax hj,zaJ]at hv;have hb:=(zac.1 hv).1;rw[hc (k*33+j) (by omega),hv]
theorem qja (b n c k:Nat)(hk:k<n)(W:World):(Instr.indexAt 32 (.slice (some ⟨b,0,none⟩) n c) (.int .i64 (k:Int))).run Tryz.prog W=.ok (.pointer (some ⟨b,k*33,none⟩)) W:=by
 obtain⟨i0,hi0,hz0,hz1,hz2⟩:=zaY qlR;have:=qiv Tryz.underlying32 hi0 b 0 n c k hk W;rw[hz1,zaF]at this;exact this
def GwR (W0:World)(B L i:Nat)(s8:Value)(wx:World):Prop:=
 ∃ (F:Nat→Prop) (es:List Bs) (HA:Option Addr) (hc:Nat) (ks:List Nat),s8=.slice HA ks.length hc∧LeM wx B F L es∧es.length≤i∧ks.length≤i∧(∀ k∈ks,k≤es.length)∧
  Own wx B 36 33 (.slice HA ks.length hc) ks.length (ks.map (heH es)).flatten∧(∀ b,(Value.slice HA ks.length hc).ownBlock=some b→¬F b)∧Below B W0 wx
theorem qgW {W:World}{A:Option Addr}{n cap:Nat}{ents:List Bs}(hnib:Nib W)(hkon:Kon W)(he:EnR W A ents)(hn:ents.length=n)(hcl:n≤maxLen) :
  Calls Tryz.prog 3 #[.slice A n cap] W (fun e w'=>e=.returned (.bool true)∧Below W.heap.size W w'):=by
 obtain⟨I0,hi0,hz0,hz1,hz2⟩:=zaY qlR;have h9:=zH (qhW hnib hkon);have HN:=zH hnib;have ho:=zH hkon;have HE:=zH he;have hY:=zH hn;unfold maxLen at hcl;clear hnib hkon he hn;go_enter Tryz.func3,Tryz.ntmps3
 go_upto_region 2 with(go_at_call 5;go_loud (refine h9.o.mono ?_;rintro e w0 ⟨rfl,hb0⟩;have hE:=zH hb0;have HG:=zH (qeW w0 (HN.o.below hb0));clear hb0))
 go_upto_region 5 with(go_at_call 6;go_loud (refine HG.o.mono ?_;rintro e w1 ⟨a,K,T,G,F,q,g,rfl,hc,hb⟩;have HO:=zH (qfM hc);have H9:=zH (hE.o.trans (hb.mono hE.o.size));clear hc hb))
 go_upto_region 8 with(go_at_call 7;go_loud (refine HO.o.mono ?_;rintro e w2 ⟨L,rfl,hl,hb2⟩;have HC:=zH hl;have hh:=zH hb2;clear hl hb2))
 obtain⟨B,hB⟩:∃ B,w1.heap.size=B:=⟨_,rfl⟩;have Hy:=zH (show W.heap.size≤B∧1<B by have:=H9.o.size;have:=ho.o.lt;omega);have hj:=zH (ho.o.below ho.o.lt H9.o);rw[hB]at HC hh;have Ku:=zH hB;clear hB HO HG h9;go_upto_region 10 with fail
 have HR:=(zai w2.heap.size w2).alloc (zad _) (.cells #[] 36);have hR:=zH (show GwR w1 B L 0 (.slice (some ⟨w2.heap.size,0,none⟩) 0 0) (w2.alloc (.cells #[] 36))from⟨_,[],_,0,[],rfl,HC.o.below HR,zad _,zad _,(fun k hk=>by cases hk),⟨.inr ⟨_,rfl,rfl,rfl⟩,fun b e=>by
  have e2:w2.heap.size=b:=by simpa [Value.ownBlock] using e
  have:=HC.o.lt;have:=HC.o.lo;rw[za5];omega⟩,(fun b e hb=>by
  have e2:w2.heap.size=b:=by simpa [Value.ownBlock] using e
  have:=(HC.o.fb b hb).2;omega),hh.o.trans (HR.mono (by have:=HC.o.lt;have:=HC.o.lo;omega))⟩)
 clear HC hh HR;generalize w2.heap.size=Y0 at *;generalize (w2.alloc (.cells #[] 36))=w2a at *;go_loopw [9,8] (fun s9 s8 wx=>∃ i:Nat,s9=.int .i64 (i:Int)∧i≤25∧i≤n+1∧GwR w1 B L i s8 wx) (fun s9 _ _=>26-(RowKit.intOf s9).toNat)
 case atStart=>exact⟨0,rfl,by omega,by omega,hR.o⟩
 case round=>
  rename World=>wx;obtain⟨i,rfl,hi25,hin,F,es,HA,hc,ks,rfl,hle,hes,hks,hkb,hho,hnf,hbx⟩:=hrel;obtain⟨nh,hnh⟩:∃ x,ks.length=x:=⟨_,rfl⟩;obtain⟨q,hq⟩:∃ x,es.length=x:=⟨_,rfl⟩;rw[hnh]at hks hho hnf⊢;have HT:=hes;rw[hq]at HT;have Ky:q≤25:=by omega
  have Kt:nh≤25:=by omega
  have hI:=zH hbx;have HQ:=zH hq;have hX:=zH hnh;have hU:=zH hkb;have hf:=zH (show q≤i∧nh≤i from⟨HT,hks⟩);have hV:=zH (show Kon wx from hj.o.below Hy.o.2 hbx);have hu:=zH (show B≤wx.heap.size by have:=hle.lt;have:=hle.lo;omega);clear hR;by_cases hlt:i≤n∧i<25
  ·have c1:(i:Int)≤(n:Int):=by omega
   have c2:(i:Int)<25:=by omega
   have i0:(0:Int)≤(i:Int):=by omega
   have Hg:=zH (show Calls Tryz.prog 9 #[.pointer (some ⟨L,0,none⟩)] wx fun e w'=>e=.returned (.int .i64 (q:Int))∧w'=wx by rw[←hq];exact qbM hle);have HS:=qgX hle (k:=q) (by omega) hV.o;obtain⟨HL,hHL⟩:∃ x,heH es q=x:=⟨_,rfl⟩;rw[show(Value.int .i64 (q:Int)::bv (mtH (lvs es q)))=HL from hHL]at HS;have H0:=zH HS;have hP:=zH hHL;have HW:=zH (show HL.length=33 by rw[←hHL,qgd]);have hp:=zH (show ∀ v∈HL,v.oneCell'=true by rw[←hHL];exact qjZ es q);have hO:=zH (show HL[0]?=some (.int .i64 (q:Int))by rw[←hHL];rfl);have hW:=zH hle;have hQ:=zH hho;have hr:=zH hnf;clear hle hho hnf hkb hbx hq hnh HS hHL hes hks HT;go_upto_region 13 with(first
    | (go_at_call 9;go_loud (refine Hg.o.mono ?_;rintro e wz ⟨rfl,rfl⟩))
    | (go_at_call 8;go_loud (refine H0.o.mono ?_;rintro e wh ⟨rfl,hbh⟩;have HH:=zH hbh;clear hbh))
    | ((with_reducible show wpList _ _ _ (⟨none,.store 36 _ _,_,_,_,_⟩::_) _ _);go_loud (refine qag rfl 36 (.tmp 10) (.tmp 57) rfl _ 36 (w1:=wh) rfl rfl HL rfl (by rw[HW.o];kernel_rfl) (by rw[HW.o];rfl) hp.o ?_)))
   have Hk:=(zai wh.heap.size wh).alloc (zad _) (.cells HL.toArray 36);have Kb:Below wz.heap.size wz (wh.alloc (.cells HL.toArray 36)):=HH.o.trans (Hk.mono HH.o.size);have H7:=zae wh (.cells HL.toArray 36);have H5:Below wz.heap.size wz (wh.alloc (.cells HL.toArray 36)).drew:=Kb.drew;have hy:=zH (show(wh.alloc (.cells HL.toArray 36)).drew.heap[wh.heap.size]?=some (.cells HL.toArray 36 (0,0))from H7);have Hp:=zH (hW.o.below H5);have Ho:=zH (hQ.o.below (zad _) H5);have HZ:=zH (hI.o.trans (H5.mono hu.o));have Hr:=zH (show B≤(wh.alloc (.cells HL.toArray 36)).drew.heap.size from zam hu.o H5.size);clear Hk Kb H7 H5 hW hQ hI hu HH H0 Hg hV;generalize (wh.alloc (.cells HL.toArray 36))=w3 at *;generalize wh.heap.size=X at *;have Hl:=zH (show w3.drew.cell? ⟨X,0,none⟩=some (.int .i64 (q:Int))by rw[zao _ _ _ _ _ _ hy.o,zbg];exact hO.o);have Hg:=zH (show Calls Tryz.prog 9 #[.pointer (some ⟨L,0,none⟩)] w3.drew fun e w'=>e=.returned (.int .i64 (q:Int))∧w'=w3.drew by rw[←HQ.o];exact qbM Hp.o)
   skip
   refine qad (S:=fun W'=>W'.cell? ⟨X,0,none⟩=some (.int .i64 (q:Int))) [] (by kernel_rfl) Hl.o (fun _=>?_);refine zP 0 59 (.int .i64 0) Hl.o ?_;try simp only[zS]
   refine zP 1 60 (.bool false) Hl.o ?_;try simp only[zS]
   refine zP 2 61 (.bool false) Hl.o ?_;try simp only[zS]
   refine zP 3 62 (.pointer (some ⟨X,0,none⟩)) Hl.o ?_;try simp only[zS]
   refine zL 4 63 (.int .i64 (q:Int)) rfl (Or.inl ⟨by rfl,fun W' hS=>by go_simp⟩) (qab Hl.o) ?_;try simp only[zS]
   refine zP 5 64 (.pointer (some ⟨L,0,none⟩)) Hl.o ?_;try simp only[zS]
   refine zE 6 65 rfl (fun Kr hKr=>?_);go_simp;go_at_call 9
   refine Hg.o.mono ?_;rintro e wy ⟨rfl,rfl⟩;refine hKr.out (.int .i64 (q:Int)) _ (qab Hl.o) (fun _=>?_);clear hKr Kr;try simp only[zS]
   refine zP 7 66 (.bool false) Hl.o ?_;try simp only[zS]
   refine zP 8 67 (.bool false) Hl.o ?_;try simp only[zS]
   refine qaf (by kernel_rfl) ?_ _;generalize w3.drew=w4 at *;go_upto_region 17 with(first
    | ((with_reducible show wpList _ _ _ (⟨some 69,_,_,_,_,_⟩::_) _ _);go_loud (refine wpList_load_mid rfl 36 (.tmp 10) rfl X 0 rfl HL _ (rangeAt_whole hy.o) Tryz.underlying36 rfl (by rw[HW.o];kernel_rfl) ?_))
    | ((with_reducible show wpList _ _ _ (⟨some 70,_,_,_,_,_⟩::_) _ _);go_loud (refine qbA rfl 32 (.tmp 69) rfl Tryz.underlying32 hi0 hz0 hz1 (by decide) (by decide) (.agg HL.toArray) rfl HL (by rfl) HW.o ?_))
    | (at_builtin;go_loud (refine qba rfl (.tmp 68) (.tmp 70) 32 rfl B 36 I0 _ 33 40 Tryz.underlying32 hi0 hz0 hz1 hz2 (by simp[Value.cells]) (by decide) (.slice HA nh hc) nh _ rfl (Ho.o.below (zad _) (zB _ _)).row (some ⟨w4.heap.size,0,none⟩) 1 1 HL rfl (qas (zae w4 _) (by rw[HW.o])) hp.o (by unfold maxLen;omega) (by omega) (by have:=Hr.o;simp;omega) ?_;intro A5 c5 w5 r1 r2 r3;have H3:=zH (qbq r2 r3);have h7:=zH r1;clear r1 r2 r3)))
   have Hk:=(zai w4.heap.size w4).alloc (zad _) (.cells HL.toArray 36);obtain⟨ks1,hks1⟩:∃ x,ks++[q]=x:=⟨_,rfl⟩;obtain⟨n1,hn1⟩:∃ x,nh+1=x:=⟨_,rfl⟩;have Ks:n1≤26:=by omega
   have Hb:=zH (show ks1.length=n1∧(∀ k∈ks1,k≤es.length)∧n1≤i+1 by
    have h1:=hX.o;have h2:=hf.o;refine⟨by rw[←hks1,zaf,h1,←hn1];rfl,fun k hk=>?_,by omega⟩;rw[←hks1]at hk;rcases zar.1 hk with h|h
    ·exact hU.o k h
    ·rw[za1.1 h,HQ.o];exact zad _)
   have Hm:=zH (show LeM w5 B F L es from(Hp.o.below Hk).touch H3.o.touch (fun b hb e=>hr.o b e hb));have hD:B≤(w4.alloc (.cells HL.toArray 36)).heap.size:=zam Hr.o Hk.size;have H6:=qaQ (Ho.o.below (zad _) Hk) hD h7.o H3.o;have HI:=zH (show Below B w1 w5 from below_upd (HZ.o.trans (Hk.mono Hr.o)) H3.o (fun b e=>(Ho.o.blk b e).1) hD);have HU:∀ b,(Value.slice A5 (nh+1) c5).ownBlock=some b→¬F b:=fun b e hb=>by
    rcases H3.o.own b e with h1|h1
    ·exact hr.o b h1 hb
    ·have:=(Hp.o.fb b hb).2;have:=Hk.size;omega
   have Ke:(ks.map (heH es)).flatten++HL=(ks1.map (heH es)).flatten:=by rw[←hks1,←hP.o,zbz,List.flatten_append];simp
   rw[Ke]at H6;rw[hn1]at H6 HU⊢;obtain⟨g5,hA5,_⟩:=H6.row.own (by omega);subst hA5;have ht:=zH H6;have Hq:=zH HU;have Hs:=zH (show B≤w5.heap.size by have:=Hm.o.lt;have:=Hm.o.lo;omega);clear Hk hD H6 HU Ke H3 h7 Hp Ho HZ Hr hy Hl Hg hr hU hX HW hp hO hP hks1 hn1;go_loopw [12] (fun s12 wy=>∃ k:Nat,s12=.int .i64 (k:Int)∧k≤n1∧Below w5.heap.size w5 wy) (fun s12 _=>n1-(RowKit.intOf s12).toNat)
   case atStart=>exact⟨0,rfl,by omega,zai _ _⟩
   case round=>
    rename World=>wy;obtain⟨k,rfl,hk,hby⟩:=hrel;have k0:(0:Int)≤(k:Int):=by omega
    by_cases hkl:k<n1
    ·have k1:(k:Int)<(n1:Int):=by omega
     obtain⟨x,hx⟩:∃ x,ks1[k]?=some x:=⟨_,zab (by rw[Hb.o.1];exact hkl)⟩;have Kj:=Hb.o.2.1 x (zak hx);obtain⟨g',hg',hgl,hrg⟩:=qkt ht.o Hb.o.1 hx;cases hg';have Kf:=qja g5 n1 c5 k hkl;have HS:=qgX (Hm.o.below hby) (k:=x) Kj ((hj.o.below Hy.o.2 HI.o).below (zag Hy.o.2 Hs.o) hby);obtain⟨YL,hYL⟩:∃ y,heH es x=y:=⟨_,rfl⟩;rw[show(Value.int .i64 (x:Int)::bv (mtH (lvs es x)))=YL from hYL]at HS;have Kx:∀ W',(Op.equalIn 10000 36 (.agg YL.toArray) (.agg YL.toArray)).run Tryz.prog W'=.ok true W':=fun W'=>by
      rw[←hYL];have:=ql5 (x:Int) (x:Int) (qcD (qeZ es x)) (qcD (qeZ es x)) W';rw[zaT ⟨rfl,rfl⟩]at this;exact this
     rw[hYL]at hrg;obtain⟨J,hJ⟩:∃ J,k*33=J:=⟨_,rfl⟩;rw[hJ]at hrg;have Kq:∀ W',(Instr.indexAt 32 (.slice (some ⟨g5,0,none⟩) n1 c5) (.int .i64 (k:Int))).run Tryz.prog W'=.ok (.pointer (some ⟨g5,J,none⟩)) W':=by rw[←hJ];exact Kf
     have hg:=zH (show YL.length=33 by rw[←hYL,qgd]);have Km:=zH (show ∀ v∈YL,v.oneCell'=true by rw[←hYL];exact qjZ es x);have h8:=zH (show ∀ W',Below w5.heap.size w5 W'→W'.rangeAt g5 J YL from fun W' hb j v hv=>(hb.cell (p:=⟨g5,J+j,none⟩) hgl).trans (hrg j v hv));have Kn:wy.cell? ⟨g5,J,none⟩=some (.int .i64 (x:Int)):=h8.o wy hby 0 _ (by rw[←hYL];rfl);have H0:=zH HS;have hK:=zH hby
     clear hx Kj hgl hrg Kf HS hYL hJ hby
     go_upto_region 20 with(first
      | (go_at_call 8;go_loud (refine H0.o.mono ?_;rintro e wh ⟨rfl,hbh⟩;have HH:=zH (hK.o.trans (hbh.mono hK.o.size));clear hbh))
      | ((with_reducible show wpList _ _ _ (⟨none,.store 36 _ _,_,_,_,_⟩::_) _ _);go_loud (refine qag rfl 36 (.tmp 13) (.tmp 86) rfl _ 36 (w1:=wh) rfl rfl YL rfl (by rw[hg.o];kernel_rfl) (by rw[hg.o];rfl) Km.o ?_)))
     have H7:=zae wh (.cells YL.toArray 36);have hH:=zH (show Below w5.heap.size w5 (wh.alloc (.cells YL.toArray 36)).drew from(HH.o.alloc HH.o.size _).drew);have Hn:=zH (show(wh.alloc (.cells YL.toArray 36)).drew.rangeAt wh.heap.size 0 YL∧(wh.alloc (.cells YL.toArray 36)).drew.rangeAt g5 J YL from⟨rangeAt_whole (show(wh.alloc (.cells YL.toArray 36)).drew.heap[wh.heap.size]?=_ from H7),h8.o _ hH.o⟩);clear H7 HH H0 Kn;generalize (wh.alloc (.cells YL.toArray 36))=w6 at *;generalize wh.heap.size=X2 at *;refine qad (S:=fun W'=>W'.rangeAt X2 0 YL∧W'.rangeAt g5 J YL) [] (by kernel_rfl) Hn.o (fun _=>?_);refine zP 0 88 (.int .i64 0) Hn.o ?_;try simp only[zS]
     refine zP 1 89 (.bool false) Hn.o ?_;try simp only[zS]
     refine zP 2 90 (.bool false) Hn.o ?_;try simp only[zS]
     refine qaW (i:=3) (some 91) (v:=.agg YL.toArray) rfl rfl (by kernel_rfl) (by kernel_rfl) (by kernel_rfl) (by kernel_rfl) (fun _ _ _ h=>h) (yieldsIf_load_mid (by rfl) 36 (.tmp 13) rfl X2 0 rfl YL _ (fun W' hS=>hS.1) Tryz.underlying36 rfl (by rw[hg.o];kernel_rfl)) (qab Hn.o) ?_;try simp only[zS]
     refine zP 4 92 (.slice (some ⟨g5,0,none⟩) n1 c5) Hn.o ?_;try simp only[zS]
     refine zP 5 93 (.int .i64 (k:Int)) Hn.o ?_;try simp only[zS]
     refine zP 6 94 (.pointer (some ⟨g5,J,none⟩)) Hn.o ?_;try simp only[zS]
     refine qaW (i:=7) (some 95) (v:=.agg YL.toArray) rfl rfl (by kernel_rfl) (by kernel_rfl) (by kernel_rfl) (by kernel_rfl) (fun _ _ _ h=>h) (yieldsIf_load_mid (by rfl) 36 (.tmp 94) rfl g5 J rfl YL _ (fun W' hS=>hS.2) Tryz.underlying36 rfl (by rw[hg.o];kernel_rfl)) (qab Hn.o) ?_;try simp only[zS]
     refine zP 8 96 (.bool false) Hn.o ?_;try simp only[zS]
     refine zP 9 97 (.bool false) Hn.o ?_;try simp only[zS]
     refine qaf (by kernel_rfl) ?_ _;go_wp2;refine⟨⟨k+1,by go_num,by omega,hH.o⟩,by simp[RowKit.intOf];omega⟩
    ·have k1:¬((k:Int)<(n1:Int)):=by omega
     have Hj:=zH (Hm.o.below hby);have hd:=zH (ht.o.below (zad _) hby);have Hi:=zH (HI.o.trans (hby.mono Hs.o));have Ht:=zH (show B≤wy.heap.size from zam Hs.o hby.size);clear hby Hm ht HI Hs hk;have HK:=zH (show ∀ (w':World) (F':Nat→Prop) (es':List Bs),LeM w' B F' L es'→es'.length≤i+1→(∀ k∈ks1,k≤es'.length)→Own w' B 36 33 (.slice (some ⟨g5,0,none⟩) n1 c5) n1 (ks1.map (heH es')).flatten→(∀ b,(Value.slice (some ⟨g5,0,none⟩) n1 c5).ownBlock=some b→¬F' b)→Below B w1 w'→GwR w1 B L (i+1) (.slice (some ⟨g5,0,none⟩) n1 c5) w' from fun w' F' es' h1 h2 h3 h4 h5 h6=>by
      obtain⟨a1,a2,a3⟩:=Hb.o;exact⟨F',es',_,c5,ks1,by rw[a1],h1,h2,by omega,h3,by rw[a1];exact h4,by rw[a1];exact h5,h6⟩)
     by_cases hin2:i<n
     ·have d1:(i:Int)<(n:Int):=by omega
      obtain⟨b,off,rfl,hbl,hat⟩:=HE.o.at_ (by rw[hY.o];omega);obtain⟨l,hl⟩:∃ l,ents[i]?=some l:=⟨_,zab (by rw[hY.o];exact hin2)⟩;obtain⟨EA,ec,hcell,hyl⟩:=hat i l hl;have Kc:=HE.o.bd l (zak hl);obtain⟨el,hel⟩:∃ x,l.length=x:=⟨_,rfl⟩;rw[hel]at hcell Kc;have HP:=zH (show ∀ w',Below B w1 w'→w'.cell? ⟨b,off+i,none⟩=some (.slice EA el ec)∧By w' EA l from fun w' hb=>by
       have h2:Below W.heap.size W w':=H9.o.trans (hb.mono Hy.o.1);exact⟨(h2.cell (p:=⟨b,off+i,none⟩) hbl).trans hcell,hyl.below h2⟩)
      have Kk:=zH (show ∀ ad,EA=some ad→0<l.length→ad.block<B from fun ad e h0=>by
       obtain⟨b',o',e2,h1,_⟩:=hyl.at_ h0;rw[e]at e2;cases e2;exact zag h1 Hy.o.1)
      have HB:=zH hel;have Ko:=(HP.o wy Hi.o).1;have Hg:=zH (show Calls Tryz.prog 9 #[.pointer (some ⟨L,0,none⟩)] wy fun e w'=>e=.returned (.int .i64 (q:Int))∧w'=wy by rw[←HQ.o];exact qbM Hj.o);clear hbl hat hl hcell hyl hel;by_cases h160:el≤160
      ·have Hx:=qha (n:=el) (c:=ec) Hj.o (HP.o wy Hi.o).2 HB.o h160;rw[HQ.o]at Hx;unfold NeF at Hx;rw[HB.o]at Hx;have ha:=zH Hx;clear Hx;go_upto_region 26 with(first
        | (go_at_call 9;go_loud (refine Hg.o.mono ?_;rintro e wz ⟨rfl,rfl⟩))
        | (go_at_call 10;go_loud (refine ha.o.mono ?_;rintro e w7 ⟨KA,kc,VA,vc,rfl,-,hv7,-,-,hb7⟩;have Ka:=zH hv7;have HV:=zH hb7;clear hv7 hb7))
        | ((with_reducible show wpList _ _ _ (⟨none,.store 42 _ _,_,_,_,_⟩::_) _ _);go_loud (refine qag rfl 42 (.tmp 16) (.tmp 111) rfl _ 42 (w1:=w7) rfl rfl [.slice KA 5 kc,.slice VA el vc,.bool false] rfl (by kernel_rfl) rfl (fun v hv=>by rcases zaB.1 hv with rfl|hv;rfl;rcases zaB.1 hv with rfl|hv;rfl;rw[za1.1 hv];rfl) ?_)))
       have Hk:=(zai w7.heap.size w7).alloc (zad _) (.cells #[.slice KA 5 kc,.slice VA el vc,.bool false] 42);have Kh:=zae w7 (.cells #[.slice KA 5 kc,.slice VA el vc,.bool false] 42);have Hv:Below wz.heap.size wz (w7.alloc (.cells #[.slice KA 5 kc,.slice VA el vc,.bool false] 42)).drew:=(HV.o.trans (Hk.mono HV.o.size)).drew;have Kg:By (w7.alloc (.cells #[.slice KA 5 kc,.slice VA el vc,.bool false] 42)).drew VA l:=Ka.o.below Hk.drew;have HM:=zH (Hj.o.below Hv);have hZ:=zH (hd.o.below (zad _) Hv);have Hw:=Hi.o.trans (Hv.mono Ht.o);have HJ:=zH Hw;have hw:=zH (show B≤(w7.alloc (.cells #[.slice KA 5 kc,.slice VA el vc,.bool false] 42)).drew.heap.size from zam Ht.o Hv.size);have Ki:(w7.alloc (.cells #[.slice KA 5 kc,.slice VA el vc,.bool false] 42)).drew.heap[w7.heap.size]?=some (.cells #[.slice KA 5 kc,.slice VA el vc,.bool false] 42 (0,0)):=Kh;obtain⟨S,hS⟩:∃ x,bstr l=x:=⟨_,rfl⟩;have Hc:=qdL vc Kg HB.o;have He:=qdL ec (HP.o _ Hw).2 HB.o;rw[hS]at Hc He;have Kl:=zH hS
       have Ha:=zH (show(w7.alloc (.cells #[.slice KA 5 kc,.slice VA el vc,.bool false] 42)).drew.cell? ⟨w7.heap.size,1,none⟩=some (.slice VA el vc)∧(w7.alloc (.cells #[.slice KA 5 kc,.slice VA el vc,.bool false] 42)).drew.cell? ⟨b,off+i,none⟩=some (.slice EA el ec)∧(convert 40 9 (.slice VA el vc)).run Tryz.prog (w7.alloc (.cells #[.slice KA 5 kc,.slice VA el vc,.bool false] 42)).drew=.ok (.string S) (w7.alloc (.cells #[.slice KA 5 kc,.slice VA el vc,.bool false] 42)).drew∧(convert 40 9 (.slice EA el ec)).run Tryz.prog (w7.alloc (.cells #[.slice KA 5 kc,.slice VA el vc,.bool false] 42)).drew=.ok (.string S) (w7.alloc (.cells #[.slice KA 5 kc,.slice VA el vc,.bool false] 42)).drew from⟨zC Ki,(HP.o _ Hw).1,Hc,He⟩);clear Hk Kh Hv Kg Hw Ki Hc He hS Ko Hg ha Ka HV Hj hd Hi Ht;generalize (w7.alloc (.cells #[.slice KA 5 kc,.slice VA el vc,.bool false] 42))=w8 at *;generalize w7.heap.size=X3 at *;have Hg:=zH (show Calls Tryz.prog 9 #[.pointer (some ⟨L,0,none⟩)] w8.drew fun e w'=>e=.returned (.int .i64 (q:Int))∧w'=w8.drew by rw[←HQ.o];exact qbM HM.o)
       skip
       refine qad (S:=fun W'=>W'.cell? ⟨X3,1,none⟩=some (.slice VA el vc)∧W'.cell? ⟨b,off+i,none⟩=some (.slice EA el ec)∧(convert 40 9 (.slice VA el vc)).run Tryz.prog W'=.ok (.string S) W'∧(convert 40 9 (.slice EA el ec)).run Tryz.prog W'=.ok (.string S) W') [] (by kernel_rfl) Ha.o (fun _=>?_);refine zP 0 115 (.pointer (some ⟨L,0,none⟩)) Ha.o ?_;try simp only[zS]
       refine zP 2 117 (.int .i64 (q:Int)) Ha.o ?_;try simp only[zS]
       refine zE 1 116 rfl (fun Kr hKr=>?_);go_simp;go_at_call 9
       refine Hg.o.mono ?_;rintro e wy ⟨rfl,rfl⟩;refine hKr.out (.int .i64 (q:Int)) _ (qab Ha.o) (fun _=>?_);clear hKr Kr;try simp only[zS]
       refine zP 3 118 (.bool false) Ha.o ?_;try simp only[zS]
       refine zP 4 119 (.bool false) Ha.o ?_;try simp only[zS]
       refine zP 5 120 (.pointer (some ⟨X3,1,none⟩)) Ha.o ?_;try simp only[zS]
       refine zL 6 121 (.slice VA el vc) rfl (Or.inl ⟨by rfl,fun W' hS=>by obtain⟨hS1,hS2,hS3,hS4⟩:=hS;go_simp⟩) (qab Ha.o) ?_;try simp only[zS]
       refine zL 7 122 (.string S) rfl (Or.inl ⟨by rfl,fun W' hS=>by obtain⟨hS1,hS2,hS3,hS4⟩:=hS;go_simp⟩) (qab Ha.o) ?_;try simp only[zS]
       refine zP 8 123 (.slice (some ⟨b,off,none⟩) n cap) Ha.o ?_;try simp only[zS]
       refine zP 9 124 (.int .i64 (i:Int)) Ha.o ?_;try simp only[zS]
       refine zP 10 125 (.pointer (some ⟨b,off+i,none⟩)) Ha.o ?_;try simp only[zS]
       refine zL 11 126 (.slice EA el ec) rfl (Or.inl ⟨by rfl,fun W' hS=>by obtain⟨hS1,hS2,hS3,hS4⟩:=hS;go_simp⟩) (qab Ha.o) ?_;try simp only[zS]
       refine zL 12 127 (.string S) rfl (Or.inl ⟨by rfl,fun W' hS=>by obtain⟨hS1,hS2,hS3,hS4⟩:=hS;go_simp⟩) (qab Ha.o) ?_;try simp only[zS]
       refine zP 13 128 (.bool false) Ha.o ?_;try simp only[zS]
       refine zP 14 129 (.bool false) Ha.o ?_;try simp only[zS]
       refine qaf (by kernel_rfl) ?_ _;generalize w8.drew=w9 at *;have hN:=zH (qgV (n:=el) (c0:=ec) HM.o (HP.o w9 HJ.o).2 HB.o (by omega) (fun ad e h0 hb=>by have:=Kk.o ad e h0;have:=(HM.o.fb _ hb).1;omega) (hj.o.below Hy.o.2 HJ.o) Hy.o.2 hw.o (by rw[HQ.o];omega));have Kp:=Ha.o.2.1;clear Ha Kl Hg;go_upto_region 30 with(first
        | (go_at_call 11;go_loud (refine hN.o.mono ?_;rintro e w10 ⟨rfl,F',hl10,hb10,hx10⟩;have Hz:=zH (HJ.o.trans hb10);have hz:=qiZ hl10 (i:=q) (l:=l) (by rw[←HQ.o];simp);rw[HB.o]at hz;have hL:=zH hz;have H2:=zH (hZ.o.touch hx10.touch (fun b e=>Hq.o b e));have H1:=zH (show ∀ b,(Value.slice (some ⟨g5,0,none⟩) n1 c5).ownBlock=some b→¬F' b from fun b e hb=>by rcases hx10.sub b hb with h1|h1;exact Hq.o b e h1;have:=(hZ.o.blk b e).2;omega);have Hf:=zH hl10;clear hl10 hb10 hx10 hz))
        | (go_at_call 12;go_loud (refine hL.o.mono ?_;rintro e w11 ⟨BA,bc,rfl,hy11,hb11⟩;have H4:=zH hy11;have HX:=zH hb11;clear hy11 hb11)))
       have Hu:Below w10.heap.size w10 w11.drew:=HX.o.drew;have HD:=zH (Hf.o.below Hu);have HF:B≤w10.heap.size:=by have:=Hf.o.lt;have:=Hf.o.lo;omega
       have Hh:Below B w1 w11.drew:=Hz.o.trans (Hu.mono HF);have HY:=zH Hh;have hs:=zH (H2.o.below (zad _) Hu);have H8:By w11.drew BA l:=H4.o.below (zai _ _).drew;obtain⟨S,hS⟩:∃ x,bstr l=x:=⟨_,rfl⟩;have Hc:=qdL bc H8 HB.o;have He:=qdL ec (HP.o _ Hh).2 HB.o;rw[hS]at Hc He;obtain⟨q1,hq1⟩:∃ x,q+1=x:=⟨_,rfl⟩;have hA:(q:Int)+1=(q1:Int):=by omega
       have hC:IntKind.i64.wrap (q1:Int)=(q1:Int):=zaA _ (by omega);have Hg:=zH (show Calls Tryz.prog 9 #[.pointer (some ⟨L,0,none⟩)] w11.drew fun e w'=>e=.returned (.int .i64 (q1:Int))∧w'=w11.drew by
        have:=qbM HD.o;rw[zaf,HQ.o]at this;rw[←hq1];exact this)
       have Ha:=zH (show w11.drew.cell? ⟨b,off+i,none⟩=some (.slice EA el ec)∧(convert 40 9 (.slice BA el bc)).run Tryz.prog w11.drew=.ok (.string S) w11.drew∧(convert 40 9 (.slice EA el ec)).run Tryz.prog w11.drew=.ok (.string S) w11.drew from⟨(HP.o _ Hh).1,Hc,He⟩);clear Hu HF Hh H8 Hc He hS hL H4 HX Hf H2 Hz Kp hN
       skip
       refine qad (S:=fun W'=>W'.cell? ⟨b,off+i,none⟩=some (.slice EA el ec)∧(convert 40 9 (.slice BA el bc)).run Tryz.prog W'=.ok (.string S) W'∧(convert 40 9 (.slice EA el ec)).run Tryz.prog W'=.ok (.string S) W') [] (by kernel_rfl) Ha.o (fun _=>?_);refine zP 0 142 (.pointer (some ⟨L,0,none⟩)) Ha.o ?_;try simp only[zS]
       refine zP 2 144 (.int .i64 (q:Int)) Ha.o ?_;try simp only[zS]
       refine zP 3 145 (.int .i64 (q1:Int)) Ha.o ?_;try simp only[zS]
       refine zE 1 143 rfl (fun Kr hKr=>?_);go_simp;go_at_call 9
       refine Hg.o.mono ?_;rintro e wv ⟨rfl,rfl⟩;refine hKr.out (.int .i64 (q1:Int)) _ (qab Ha.o) (fun _=>?_);clear hKr Kr;try simp only[zS]
       refine zP 4 146 (.bool false) Ha.o ?_;try simp only[zS]
       refine zP 5 147 (.bool false) Ha.o ?_;try simp only[zS]
       refine zP 6 148 (.int .i64 0) Ha.o ?_;try simp only[zS]
       refine zP 7 149 (.bool false) Ha.o ?_;try simp only[zS]
       refine zP 8 150 (.bool false) Ha.o ?_;try simp only[zS]
       refine zP 9 151 (.bool false) Ha.o ?_;try simp only[zS]
       refine zP 10 152 (.slice BA el bc) Ha.o ?_;try simp only[zS]
       refine zL 11 153 (.string S) rfl (Or.inl ⟨by rfl,fun W' hS=>by obtain⟨hS1,hS2,hS3⟩:=hS;go_simp⟩) (qab Ha.o) ?_;try simp only[zS]
       refine zP 12 154 (.slice (some ⟨b,off,none⟩) n cap) Ha.o ?_;try simp only[zS]
       refine zP 13 155 (.int .i64 (i:Int)) Ha.o ?_;try simp only[zS]
       refine zP 14 156 (.pointer (some ⟨b,off+i,none⟩)) Ha.o ?_;try simp only[zS]
       refine zL 15 157 (.slice EA el ec) rfl (Or.inl ⟨by rfl,fun W' hS=>by obtain⟨hS1,hS2,hS3⟩:=hS;go_simp⟩) (qab Ha.o) ?_;try simp only[zS]
       refine zL 16 158 (.string S) rfl (Or.inl ⟨by rfl,fun W' hS=>by obtain⟨hS1,hS2,hS3⟩:=hS;go_simp⟩) (qab Ha.o) ?_;try simp only[zS]
       refine zP 17 159 (.bool false) Ha.o ?_;try simp only[zS]
       refine zP 18 160 (.bool false) Ha.o ?_;try simp only[zS]
       refine qaf (by kernel_rfl) ?_ _;have Kw:=zH hq1;clear hq1 hA hC;go_wp2;refine⟨⟨i+1,by go_num,by omega,by omega,HK.o _ F' (es++[l]) HD.o ?_ (fun k hk=>?_) ?_ H1.o HY.o⟩,by simp[RowKit.intOf];omega⟩
       ·rw[zaf,HQ.o];have:=hf.o.1;simp;omega
       ·rw[zaf];exact zam (Hb.o.2.1 k hk) (Nat.le_add_right _ _)
       ·rw[qk8 l Hb.o.2.1];exact hs.o
      ·have Hx:=qki (w:=wy) (L:=L) (A:=EA) (c:=ec) (n:=el) (by omega) Kc;unfold NeL at Hx;have ha:=zH Hx;clear Hx;go_wp2_with (first
        | (go_at_call 9;go_loud (refine Hg.o.mono ?_;rintro e wz ⟨rfl,rfl⟩))
        | (go_at_call 10;go_loud (refine ha.o.mono ?_;rintro e w7 ⟨rfl,hb7⟩;have HV:=zH hb7;clear hb7))
        | ((with_reducible show wpList _ _ _ (⟨none,.store 42 _ _,_,_,_,_⟩::_) _ _);go_loud (refine qag rfl 42 (.tmp 16) (.tmp 111) rfl _ 42 (w1:=w7) rfl rfl [.slice none 0 0,.slice none 0 0,.bool false] rfl (by kernel_rfl) rfl (fun v hv=>by rcases zaB.1 hv with rfl|hv;rfl;rcases zaB.1 hv with rfl|hv;rfl;rw[za1.1 hv];rfl) ?_)))
       have Hv:Below wz.heap.size wz (w7.alloc (.cells #[.slice none 0 0,.slice none 0 0,.bool false] 42)):=HV.o.alloc HV.o.size _;refine⟨⟨i+1,by go_num,by omega,by omega,HK.o _ F es (Hj.o.below Hv) ?_ Hb.o.2.1 (hd.o.below (zad _) Hv) Hq.o (Hi.o.trans (Hv.mono Ht.o))⟩,by simp[RowKit.intOf];omega⟩;rw[HQ.o];have:=hf.o.1;omega
     ·have d1:¬((i:Int)<(n:Int)):=by omega
      go_wp2;refine⟨⟨i+1,by go_num,by omega,by omega,HK.o _ F es Hj.o ?_ Hb.o.2.1 hd.o Hq.o Hi.o⟩,by simp[RowKit.intOf];omega⟩;rw[HQ.o];have:=hf.o.1;omega
  ·have hM:=zH (H9.o.trans (hbx.mono Hy.o.1));clear hle hho hnf hbx;by_cases h1:i≤n
   ·have c1:(i:Int)≤(n:Int):=by omega
    have c2:¬((i:Int)<25):=by omega
    go_wp2;go_ret;exact⟨rfl,hM.o⟩
   ·have c1:¬((i:Int)≤(n:Int)):=by omega
    go_wp2;go_ret;exact⟨rfl,hM.o⟩
end Go.Proofs.YtfcknhbmeofniaaGreatDoor
namespace Go.Proofs.YtfcknhbmeofniaaGreatDoor
open Go.RowKit Go.ChangeShapes Go.WideShapes Go.ChangeAt Go.Joins BT
section
set_option maxRecDepth 100000
theorem qlA:ownKnob Tryz.prog.godebug=none:=by kernel_rfl
theorem qmO:Tryz.prog.globalNamed "muniment/crc.nibbles"=some 2:=by kernel_rfl
theorem qm0:(Tryz.prog.globals[2]?).map (·.type)=some 249:=by kernel_rfl
theorem qmL:Tryz.prog.globalNamed "muniment/sha.k"=some 1:=by kernel_rfl
theorem qmX:(Tryz.prog.globals[1]?).map (·.type)=some 232:=by kernel_rfl
theorem qiK {P:Program}{W:World}{name:String}{k:IntKind}{zs:List Int}{rest:List (String×DataW Unit)}{g:Nat}{t e:TypeId}{n:Nat}{ps:List MemPlace}
  (hg:P.globalNamed name=some g)(hty:(P.globals[g]?).map (·.type)=some t)(ht:P.underlying t=some (.array n e))(he:P.underlying e=some (.int k))(hce:P.cellsOf e=1)(hct:P.cellsOf t=n)
  (h:DataW.LaidVars P W ((name,Lib.tabData k zs)::rest) ps):Lib.TabIs P W name k zs∧∃ q,DataW.LaidVars P W rest q:=by
 obtain⟨g',t',cs,fuel,p,q,hg',ht',hvar,hd,hq,_⟩:=h;obtain rfl:=zaG (hg.symm.trans hg');obtain rfl:=zaG (hty.symm.trans ht');refine⟨?_,q,hq⟩;unfold Lib.TabIs;rw[hvar,←Lib.cells_of_tab ht he hce hct hd]
def laids:List (String×DataW Unit):=[("muniment/crc.nibbles",Rows.laid_muniment_crc_nibbles),("muniment/sha.k",Rows.laid_muniment_sha_k)]
theorem qmg {W:World}(h:laidMetH Tryz.prog laids W):Nib W∧Kon W:=by
 have hf:(laids.filter fun x=>x.2.handleName?.isSome)=[]:=by kernel_rfl
 unfold laidMetH at h;rw[hf]at h;have e1:Rows.laid_muniment_crc_nibbles (H:=Unit)=Lib.tabData .u32 (nibT.map fun(n:Nat)=>(n:Int)):=by kernel_rfl
 have e2:Rows.laid_muniment_sha_k (H:=Unit)=Lib.tabData .u32 (shK.map fun(n:Nat)=>(n:Int)):=by kernel_rfl
 have h':laidMet Tryz.prog [("muniment/crc.nibbles",Lib.tabData .u32 (nibT.map fun(n:Nat)=>(n:Int))),("muniment/sha.k",Lib.tabData .u32 (shK.map fun(n:Nat)=>(n:Int)))] W:=by
  rw[←e1,←e2];exact h
 obtain⟨ps,hv,_⟩:=h';obtain⟨t1,q,hv2⟩:=qiK qmO qm0 Tryz.underlying249 Tryz.underlying126 (by kernel_rfl) (by kernel_rfl) hv;obtain⟨t2,_,_⟩:=qiK qmL qmX Tryz.underlying232 Tryz.underlying126 (by kernel_rfl) (by kernel_rfl) hv2;have hl:nibT.length=16:=by kernel_rfl
 have hk:shK.length=64:=by kernel_rfl
 refine⟨fun i hi=>?_,fun i hi=>?_⟩
 ·have:=t1.cell qmO i (by rw[zbc];omega);rw[this,zaq,zaD,zab (by omega),zaq,zab (by omega)];rfl
 ·have:=t2.cell qmL i (by rw[zbc];omega);rw[this,zaq,zaD,zab (by omega)];have hb:∀ x∈shK,x<4294967296:=by decide
  have hx:=hb _ (zbi (l:=shK) (n:=i) (by omega));unfold kS;rw[zaq,zab (by omega)];simp only[zbB,zcx,zbu];rw[zbs hx]
def qmM (h:Array Obj)(i:Nat)(cs:Array Value):Array Obj:=h.modify i fun
 | .cells _ t frozen=>.cells cs t frozen
 | o=>o
noncomputable def qgi (os:Os):World:=
 let w0:=World.holding Tryz.prog os ⟨#[],#[],[]⟩
 { w0 with heap:=qmM (qmM w0.heap 2 (nibT.map fun(n:Nat)=>Value.int .u32 (n:Int)).toArray) 1 (shK.map fun(n:Nat)=>Value.int .u32 (n:Int)).toArray }
theorem led_met (os:Os)(args:Array Value):laidMetH Tryz.prog laids ((qgi os).forCall (fun _ _=>0) ⟨#[],args,[]⟩).memory:=
 laidMetH_of_parts (laidMet_of_run3 8 (by kernel_rfl) (by kernel_rfl) (by kernel_rfl)) (by kernel_rfl)
section
variable {H:Type} {enc:TypeId×Value→H} {P:Program}
theorem qdF (hl:laidOutB P=true){W W':World}(hb:Below W.heap.size W W'){sp:Nat→Bool}:∀ {ts:List TypeId} {vs:List Value} {ds:List (DataW H)} {ps:List MemPlace},
  (ts.all fun t=>P.readableRec t&&decide (t<P.types.size))=true→DataW.TrodAll enc P W 0 (fun _=>true) true ts vs ds ps→(∀ x∈ps,x.block<W.heap.size)→(∀ x∈ps,sp x.block=true)→
  DataW.TrodAll enc P W' 0 sp true ts vs ds ps
 | [],[],[],_,_,h,_,_=>h
 | t::ts,v::vs,d::ds,ps,hr,h,hlt,hs=>by
  obtain⟨p,q,h1,h2,rfl⟩:=h;simp only[List.all_cons,zaQ,zbf]at hr;exact⟨p,q,WideElems.Trod_stays hl hr.1.1 hr.1.2 h1 (fun x hx=>hb.same (hlt x (za6 _ hx))) (fun x hx=>hs x (za6 _ hx)),
   qdF hl hb hr.2 h2 (fun x hx=>hlt x (zaS _ hx)) (fun x hx=>hs x (zaS _ hx)),rfl⟩
 | [],_::_,_,_,_,h,_,_=>by simp[DataW.TrodAll]at h
 | [],[],_::_,_,_,h,_,_=>by simp[DataW.TrodAll]at h
 | _::_,[],_,_,_,h,_,_=>by simp[DataW.TrodAll]at h
 | _::_,_::_,[],_,_,h,_,_=>by simp[DataW.TrodAll]at h
theorem qll {f:Func}{s:ChangeSpec}{W W':World}{args:Array Value}{ds gs:List (DataW H)}{before:List MemPlace}{tb:TypeId}
  (hl:laidOutB P=true)(hb:P.underlying tb=some .bool)(hres:f.resultTypes=#[tb])(hvars:s.vars=[])
  (hrd:(f.params.toList.all fun t=>P.readableRec t&&decide (t<P.types.size))=true)
  (hW:DataW.Whole enc P f.params.toList s.vars false W args.toList ds gs before)
  (hfn:s.fn H (ds++gs)={ results:=[.lit (.bool true)],args:=ds })
  (hbl:Below W.heap.size W W') :
  s.post enc P f false true false false W args (.bool true) W':=by
 have Ha:=hW;obtain⟨p,q,hA,hV,rfl,_,_⟩:=hW;rw[hvars]at hV;obtain⟨rfl,rfl⟩:=trodVars_none hV;have Hb:∀ x∈p,x.block<W.heap.size:=fun x hx=>Ha.lt x (by simp[hx]);refine⟨ds,[],_,[],p,[],Ha,?_,?_,?_,World.keptBut_mono (fun x hx=>⟨hx,?_⟩) (hbl.frame (·∈(p++[]))),fun h=>by cases h⟩
 ·rw[hfn,hres];exact trodAll_mk1 (shut_bool hb true)
 ·rw[hfn];exact qdF hl hbl hrd hA Hb (fun x hx=>by simpa using Hb x hx)
 ·rw[hfn,hvars];rfl
 ·simpa using hx
end
section
variable {H:Type} {enc:TypeId×Value→H}
theorem qm3 {n:Int}(h:(Lit.int .u8 n).wf=true):0≤n∧n≤255:=by
 simp[Lit.wf,IntKind.min,IntKind.max,IntKind.signed,IntKind.bits]at h;omega
theorem qlp (k:IntKind)(l:List Int):(lits (H:=H) k l).length=l.length:=by simp[lits]
theorem qjM:Tryz.prog.bytesOf 5=1:=by kernel_rfl
theorem qkn {W:World}{n:Nat}{cs:List Value}{y:DataW H×List MemPlace}(h:DataW.trod enc Tryz.prog W 0 (fun _=>true) true n 40 cs=some y)(hw:∀ x∈y.1.weights Tryz.prog 40,x≤reachBytes) :
  ∃ (A:Option Addr) (c:Nat) (l:Bs),cs=[.slice A l.length c]∧By W A l∧l.length≤c∧l.length≤140737488355328:=by
 rcases open_ints Tryz.underlying40 Tryz.underlying5 (by kernel_rfl) h with⟨hcs,hx⟩|⟨a,len,cap,zs,hcs,_,hl,hm,hz,hx,hcell,hwz⟩
 ·subst hcs;subst hx;exact⟨none,0,[],rfl,By.nil _ _,zad _,by simp⟩
 ·simp only[zb5]at hz;subst hcs;subst hx;have Ha:((zs.take len).map fun x:Int=>UInt8.ofNat x.toNat).length=len:=by rw[zbc,zaj];omega
  refine⟨some a,cap,(zs.take len).map fun x:Int=>UInt8.ofNat x.toNat,by rw[Ha],⟨fun hp=>?_⟩,by rw[Ha];exact hl,?_⟩
  ·rw[Ha]at hp;obtain⟨b,off,rfl,hc⟩:=ints_at hcell (by omega);refine⟨b,off,rfl,zav W _ (hc 0 (by omega)),fun k c hk=>?_⟩;have Hb:k<len:=by
    have:=(zac.1 hk).1
    rwa [Ha]at this
   rw[hc k (by omega)];rw[zaD,zaR,zax Hb,zab (by omega)]at hk;simp only[zbB,zau]at hk;have hb:=qm3 (hwz zs[k] (zbi _));rw[zaq,zab (by omega),zcx,←hk];congr 2;rw[zco,zbs (by omega)];omega
  ·have:=hw ((lits (H:=H) .u8 (zs.take len)).length+(lits (H:=H) .u8 (zs.drop len)).length) (by
    simp only[DataW.weights,Tryz.underlying40];simp[qjM])
   rw[qlp,zaj]at this;rw[Ha];have hr:=reachBytes_lt;omega
theorem qhJ:Tryz.prog.cellsOf 40=1:=by kernel_rfl
theorem qfi {P:Program}{e:TypeId}:∀ {l:List (DataW H)} {d:DataW H} {x:Nat},d∈l→x∈d.weights P e→x∈DataW.weightsAll P e l
 | d0::r,d,x,h,hx=>by
  simp only[DataW.weightsAll,zar];rcases zaB.1 h with rfl|h
  ·exact .inl hx
  ·exact .inr (qfi h hx)
theorem qkp {W:World}{v:Value}{d:DataW H}{p:List MemPlace}{base:Nat}(hv:Value.okWide Tryz.prog W .any base 22 v)(h:DataW.Trod enc Tryz.prog W 0 (fun _=>true) true 22 v d p)(hw:∀ x∈d.weights Tryz.prog 22,x≤reachBytes) :
  ∃ A cap L,v=.slice A (L:List Bs).length cap∧EnR W A L∧L.length≤maxLen:=by
 obtain⟨a0,len0,cap0,rfl⟩:=okWide_slice Tryz.underlying22 hv;obtain⟨fuel,hf⟩:=h;have Hf:DataW.trod enc Tryz.prog W 0 (fun _=>true) true fuel 22 [.slice a0 len0 cap0]=some (d,p):=by simpa [Value.cells] using hf
 rcases Deep.open_slice Tryz.underlying22 Hf with⟨hcs,_⟩|⟨a,len,cap,m,n,D,Pl,hcs,_,hl,hm,hmm,hx,hi⟩
 ·simp only[List.cons.injEq,and_true]at hcs;rw[hcs];exact⟨none,0,[],rfl,⟨fun h=>absurd h (by simp),by simp⟩,by decide⟩
 ·simp only[List.cons.injEq,and_true]at hcs;simp only[zb5]at hmm;rw[hcs];simp only[zaE]at hx;obtain⟨rfl,_⟩:=hx;rw[qhJ]at hi;have Hc:∀ i,i<len→∃ l:Bs,l.length≤140737488355328∧∃ (EA:Option Addr) (ec:Nat),By W EA l∧W.cell? (a.add (i*1))=some (.slice EA l.length ec):=by
   intro i hil;obtain⟨cs',g1,g2⟩:=hi i (by omega);obtain⟨EA,ec,l,rfl,q1,_,q2⟩:=qkn g2 (fun x hx=>hw x (by
    simp only[DataW.weights,Tryz.underlying22];exact zba _ (za6 _ (qfi (zbh.2 ⟨i,za9.2 hil,rfl⟩) hx))))
   obtain⟨_,_,g3⟩:=World.cells?_some g1;refine⟨l,q2,EA,ec,q1,?_⟩;have:=g3 0 (by omega);simpa [Addr.add] using this
  have:Inhabited Bs:=⟨[]⟩;obtain⟨R,hR⟩:=Deep.choose_lt (α:=Bs) (p:=fun i l=>l.length≤140737488355328∧∃ (EA:Option Addr) (ec:Nat),By W EA l∧W.cell? (a.add (i*1))=some (.slice EA l.length ec)) Hc;have Hb:((List.range len).map R).length=len:=by simp
  refine⟨some a,cap,(List.range len).map R,by rw[Hb],⟨fun h0=>?_,fun o ho=>?_⟩,by rw[Hb];omega⟩
  ·rw[Hb]at h0;obtain⟨_,EA0,ec0,_,hcell0⟩:=hR 0 h0;obtain⟨b,off,spot⟩:=a;have Ha:spot=none:=by simpa [Addr.add] using World.cell?_spot hcell0
   subst Ha;refine⟨b,off,rfl,?_,fun k o hk=>?_⟩
   ·have:=zav W _ hcell0;simpa [Addr.add] using this
   ·have He:k<len:=by
     have:=(zac.1 hk).1
     rwa [Hb]at this
    have e:R k=o:=by
     rw[zaD,zb4 He]at hk;exact zaG hk
    subst e;obtain⟨_,EA,ec,q1,q5⟩:=hR k He;exact⟨EA,ec,by rwa [zcA,Addr.add_lit]at q5,q1⟩
  ·obtain⟨i,h1,rfl⟩:=zbh.1 ho;exact(hR i (za9.1 h1)).1
end
end
end Go.Proofs.YtfcknhbmeofniaaGreatDoor
