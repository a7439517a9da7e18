/- Texts SlF SlG SlH NdD HeldZ. -/
import Derived.Test.YtpmebcgmgfcmiaaGreatDoorQ14
set_option linter.all false
set_option maxRecDepth 100000
set_option maxHeartbeats 16000000
namespace Go.Proofs.YtpmebcgmgfcmiaaGreatDoor
open Go.RowKit BT Go.Lib
section
section
variable {P:Program}
theorem qgS (w:World)(base:Nat)(t ty e:TypeId)(i:TypeInfo)(size:Nat)(ht:P.underlying t=some (.slice e))(hi:P.info? e=some i)(hsize:i.size=size)
  (g n cap:Nat)(xs:List Value)(hown:w.ownsRow base e size (.slice (some ⟨g,0,none⟩) n cap) n xs){A:Option Addr}{m:Nat}(c:Nat){us:List Value}(hs:Src w size A m us)(h1:∀ u∈us,u.oneCell'=true)(hroom:n+m≤cap) :
  ∃ w',(Builtin.append_ #[t,t] ty #[.slice (some ⟨g,0,none⟩) n cap,.slice A m c]).run P w=.ok (.slice (some ⟨g,0,none⟩) (n+m) cap) w'∧w'.ownsRow base e size (.slice (some ⟨g,0,none⟩) (n+m) cap) (n+m) (xs++us)∧w.grownBy w' (some g):=by
 by_cases h0:0<m
 ·obtain⟨a,rfl,hc⟩:=hs.at_ h0;exact run_append_own_spare (P:=P) w base t ty e i size ht hi hsize g n cap xs hown a m c us hs.len hc h1 hroom
 ·obtain rfl:m=0:=by omega
  refine⟨w,?_,by rw[hs.empty,zaG];exact hown,World.grownBy.refl w _⟩;have Ha:n≤cap:=by omega
  cases A<;>simp[Builtin.append_,zaM ht,sizeOf,typeInfo,hi,Builtin.lenOf,Builtin.firstCells,storeCells,loadCells,loadCellsFrom,Ha]
end
theorem qil {w:World}{B g n cap i m N:Nat}{xs us:List Value}{A:Option Addr}{cc:Nat}(h:w.ownsRow B 102 2 (.slice (some ⟨g,0,none⟩) n cap) n xs)(hin:i<n)(hm:i+m<n)(hN:i+m=N)(hl:n≤1048576)(hs:Src w 2 A m us)(hu:∀ x∈us,x.oneCell'=true) :
  Calls Tryz.prog 75 #[.slice (some ⟨g,0,none⟩) n cap,.int .i64 i,.int .i64 n,.slice A m cc] w (RkF B N (.slice (some ⟨g,0,none⟩) n cap) (xs.take (i*2)++us) w):=by
 obtain⟨i0,hi0,hz0,hz1,hz2⟩:=qcr;obtain⟨hnc,hcm,hxl,hBg,hgl,hcell,cur,hcur,hcs,htk⟩:=own_cells h;obtain⟨w1,hr1,ho1,hg1⟩:=qgS (P:=Tryz.prog) w B 104 104 102 i0 2 Tryz.underlying104 hi0 hz1 g i cap _ (qgK h (i:=i) (by omega)) cc hs hu (by omega);rw[hN]at hr1 ho1;obtain⟨_,_,_,_,hgl1,_,cur1,hcur1,hcs1,htk1⟩:=own_cells ho1;obtain⟨a1,b1,r1⟩:=qbY (P:=Tryz.prog) Tryz.underlying104 hi0 hz1 g 0 n cap i n (by omega) (by omega);obtain⟨a5,b5,r5⟩:=qam (P:=Tryz.prog) Tryz.underlying104 hi0 hz1 g 0 n cap N (by omega) (by omega);obtain⟨N2,hN2⟩:∃ N2,N*2=N2:=⟨_,rfl⟩;have Hc:0<n-N→some a5=some (⟨g,N2,none⟩:Addr):=fun _=>by rw[b5 (by omega)];congr 2;omega
 have t0:((i:Int)==(n:Int))=false:=by rw[zaI];omega
 have t1:((n:Int)==(n:Int))=true:=by simp
 have Hj:N<n:=by omega
 have Hk:i≤cap:=by omega
 have Hf:=zH hcur1;have Hh:=zH hr1;have Hg:=zH hg1;have He:=zH Hc;obtain⟨Y,hY⟩:∃ Y,xs.take (i*2)++us=Y:=⟨_,rfl⟩;rw[hY]at htk1⊢;have Hi:=zH htk1;have Hb:=zH hcs1;have Ha:=zH hN2;clear h hs hu hcell hcur hcs htk hr1 ho1 hg1 hcur1 hcs1 htk1 b1 b5 Hc hY hN2 hm hN hxl;go_enter Tryz.func75,Tryz.ntmps75
 go_wp2_with (first
  | (at_builtin;refine qbk rfl (.tmp 32) (.tmp 33) 104 104 rfl _ _ _ rfl rfl (fun _=>Hh.o) ?_)
  | ((with_reducible show wpList _ _ _ (⟨none,.call _,_,_,_,_⟩::_) _ _);refine qa8 rfl (.tmp 43) 104 rfl Tryz.underlying104 kval (by kernel_rfl) (some a5) (n-N) (cap-N) rfl g N2 cur1 102 Hf.o (fun h0=>⟨He.o h0,by rw[Hb.o,←Ha.o];show N*2+(n-N)*2≤cap*2;omega⟩) ?_;intro w3 cs3 q1 q2 q3 q4;have Q1:=zH q1;have Q2:=zH q2;have Q3:=zH q3;have Q4:=zH q4;clear q1 q2 q3 q4))
 go_ret;refine⟨_,rfl,Own.of_own (qaR Q1.o hBg (by omega) hcm (by rw[Q2.o];exact Hb.o) ?_),⟨?_,fun b e=>.inl e⟩⟩
 ·rw[Ha.o,Q3.o,←Ha.o];exact Hi.o
 ·exact((Touch.of_grown Hg.o (fun b e=>by cases e;rfl)).trans Q4.o).mono (fun b _ hb=>by rw[hb];rfl)
theorem qim {w:World}{B g n cap i m N:Nat}{xs us:List Value}{A:Option Addr}{cc:Nat}(h:w.ownsRow B 102 2 (.slice (some ⟨g,0,none⟩) n cap) n xs)(hin:i<n)(hm:n≤i+m)(hN:i+m=N)(hl:N≤1048576)(hs:Src w 2 A m us)(hu:∀ x∈us,x.oneCell'=true)(hB:B≤w.heap.size) :
  Calls Tryz.prog 75 #[.slice (some ⟨g,0,none⟩) n cap,.int .i64 i,.int .i64 n,.slice A m cc] w (RkF B N (.slice (some ⟨g,0,none⟩) n cap) (xs.take (i*2)++us) w):=by
 obtain⟨i0,hi0,hz0,hz1,hz2⟩:=qcr;obtain⟨hnc,hcm,hxl,hBg,hgl,hcell,cur,hcur,hcs,htk⟩:=own_cells h;obtain⟨A1,c1,w1,hr1,ho1,hg1,hb1⟩:=qcN (P:=Tryz.prog) w 104 (t:=104) Tryz.underlying104 hi0 hz0 hz1 hz2 rfl (by decide) (.inl (qgK h (i:=i) (by omega))) cc hs hu (by unfold maxLen;omega) (by omega) hB;rw[hN]at hr1 ho1 hb1;obtain⟨a1,b1,r1⟩:=qbY (P:=Tryz.prog) Tryz.underlying104 hi0 hz1 g 0 n cap i n (by omega) (by omega);have t0:((i:Int)==(n:Int))=false:=by rw[zaI];omega
 have t1:((n:Int)==(n:Int))=true:=by simp
 have Hg:¬N<n:=by omega
 have Hh:i≤cap:=by omega
 have Hf:=zH hr1;have Hb:=zH hg1;obtain⟨Y,hY⟩:∃ Y,xs.take (i*2)++us=Y:=⟨_,rfl⟩;rw[hY]at ho1⊢;have He:=zH ho1;have Ha:=zH hb1;have Hc:=zH (show B≤g∧g<w.heap.size∧B≤w.heap.size from⟨hBg,hgl,hB⟩);clear h hs hu hcell hcur hcs htk hr1 ho1 hg1 b1 hY hm hN hxl hb1 hB;go_enter Tryz.func75,Tryz.ntmps75
 go_wp2_with (at_builtin;refine qbk rfl (.tmp 32) (.tmp 33) 104 104 rfl _ _ _ rfl rfl (fun _=>Hf.o) ?_)
 go_ret;obtain⟨k1,k2,k3⟩:=Hc.o;have k4:=Hb.o.size;refine⟨_,rfl,⟨He.o,fun b e=>?_⟩,⟨(Touch.of_grown Hb.o (fun b e=>e)),fun b e=>Ha.o b e⟩⟩;rcases Ha.o b e with h1|h1
 ·have:b=g:=by cases h1;rfl
  omega
 ·omega
end
variable {w:World}{B g n i j m N cc:Nat}{xs us:List Value}{A:Option Addr}
theorem qmg {cap:Nat}{C oc:Nat}(h:w.ownsRow B 102 2 (.slice (some ⟨g,0,none⟩) n cap) n xs)(h1:∀ x∈xs,x.oneCell'=true)(hij:i<j)(hjn:j<n)(hm:j<i+m)(hN:i+m+(n-j)=N)(hNc:N≤cap)(hl:N≤1048576)(hs:Src w 2 (some ⟨C,oc,none⟩) m us)(hu:∀ x∈us,x.oneCell'=true){ucs:Array Value}{ut:TypeId}(hC:w.heap[C]?=some (.cells ucs ut (0,0)))(hCg:C≠g) :
  Calls Tryz.prog 75 #[.slice (some ⟨g,0,none⟩) n cap,.int .i64 i,.int .i64 j,.slice (some ⟨C,oc,none⟩) m cc] w (RkF B N (.slice (some ⟨g,0,none⟩) n cap) (xs.take (i*2)++us++xs.drop (j*2)) w):=by
 obtain⟨i0,hi0,hz0,hz1,hz2⟩:=qcr;obtain⟨hnc,hcm,hxl,hBg,hgl,hcell,cur,hcur,hcs,htk⟩:=own_cells h;obtain⟨im,him⟩:∃ im,i+m=im:=⟨_,rfl⟩;obtain⟨I2,hI2⟩:∃ I2,i*2=I2:=⟨_,rfl⟩;obtain⟨J2,hJ2⟩:∃ J2,j*2=J2:=⟨_,rfl⟩;obtain⟨M2,hM2⟩:∃ M2,im*2=M2:=⟨_,rfl⟩;obtain⟨N2,hN2⟩:∃ N2,N*2=N2:=⟨_,rfl⟩;have Ht:us.length=m*2:=hs.len;have Hp:C<w.heap.size:=(zab.1 hC).1;obtain⟨ad,ead,hsc⟩:=hs.at_ (by omega);cases ead;have Hm:∀ k v,us[k]?=some v→w.cell? ⟨C,oc+k,none⟩=some v:=fun k v hk=>by have:=hsc k v hk;rwa [qbt]at this
 have Hz:0<ucs.size:=by
  have h0:us[0]?=some (us[0]'(by omega)):=zaa (by omega);have h2:=Hm 0 _ h0;rw[zan w C _ _ _ _ hC]at h2;have:=(zab.1 h2).1;omega
 obtain⟨d,hd⟩:∃ d,n-j=d:=⟨_,rfl⟩;have Hl:(xs.drop J2).length=d*2:=by rw[zap];omega
 have hx:cur.toList.take (n*2)=xs:=htk;have Hb:w.drew.heap[g]?=some (.cells cur 102 (0,0)):=hcur;have Ho:w.drew.heap[C]?=some (.cells ucs ut (0,0)):=hC;have HA:∀ lb cb lc2 cc2,(callFunc 96 #[.slice (some ⟨g,M2,none⟩) lb cb,.slice (some ⟨C,oc,none⟩) lc2 cc2]).run Tryz.prog w.drew=.ok (.value (.bool false)) w.drew:=fun lb cb lc2 cc2=>by
  rw[run_callFunc_extern Tryz.func96 (by kernel_rfl) (by kernel_rfl) (by kernel_rfl) (e:=Extern.SlicesOverlaps.overlaps #[104,104] #[4]) (by kernel_rfl),
   Lib.run_overlaps_apart w.drew 104 4 102 Tryz.underlying104 2 (fun w=>by simp[Go.sizeOf,typeInfo,hi0,hz1]) ⟨g,M2,none⟩ ⟨C,oc,none⟩ lb cb lc2 cc2 (fun e=>hCg e.symm) 102 ut (cap*2) ucs.size (by simp[World.shape?,Hb,hcs]) (by simp[World.shape?,Ho]) (by omega) (by simp[World.frozen?,Hb]) (by simp[World.frozen?,Hb])]
  rfl
 have He:∀ k v,(xs.drop J2)[k]?=some v→w.drew.drew.cell? ((⟨g,J2,none⟩:Addr).add k)=some v:=fun k v hk=>by
  rw[qbt];rw[zaK]at hk;exact hcell _ v hk
 have Hg:∀ ty dc sc,(Builtin.copy_ #[104,104] ty #[.slice (some ⟨g,M2,none⟩) (N-im) dc,.slice (some ⟨g,J2,none⟩) d sc]).run Tryz.prog w.drew.drew=.ok (goInt d) (w.drew.drew.setCells g M2 (xs.drop J2)):=fun ty dc sc=>
  qbF w.drew.drew _ _ ty 102 Tryz.underlying104 hi0 hz1 g M2 (N-im) dc _ d sc (xs.drop J2) cur _ hcur (show Nat.min d (N-im)=d by simp only[zcC];split<;>omega) Hl (fun _=>⟨_,rfl,He⟩) (by rw[Hl];omega) (fun v hv=>h1 v (zaU hv))
 obtain⟨W1,hW1⟩:∃ W1,w.drew.drew.setCells g M2 (xs.drop J2)=W1:=⟨_,rfl⟩;have Hc:W1.heap[g]?=some (.cells (cur.toList.take M2++xs.drop J2++cur.toList.drop (M2+(xs.drop J2).length)).toArray 102 (0,0)):=by
  rw[←hW1];exact heap_setCells (xs.drop J2) M2 w.drew.drew cur hcur (by omega)
 have Hn:W1.heap[C]?=some (.cells ucs ut (0,0)):=by
  rw[←hW1];exact(World.heap_setCells_other w.drew.drew g M2 (xs.drop J2) Hp hCg).trans hC
 have Hr:Touch (fun b=>b=g) w W1:=by
  rw[←hW1];exact(Touch.refl _ w).drew.drew.trans (qau (F:=fun b=>b=g) (g:=g) rfl _ _)
 rw[hW1]at Hg;have Hi:(cur.toList.take M2++xs.drop J2++cur.toList.drop (M2+(xs.drop J2).length)).toArray.size=cap*2:=by
  simp only[zaz,zad,zag,zap,za1];omega
 have Hf:∀ ty dc,(Builtin.copy_ #[104,104] ty #[.slice (some ⟨g,I2,none⟩) (N-i) dc,.slice (some ⟨C,oc,none⟩) m cc]).run Tryz.prog W1=.ok (goInt m) (W1.setCells g I2 us):=fun ty dc=>
  qbF W1 _ _ ty 102 Tryz.underlying104 hi0 hz1 g I2 (N-i) dc _ m cc us _ _ Hc (show Nat.min m (N-i)=m by simp only[zcC];split<;>omega) Ht (fun _=>⟨_,rfl,fun k v hk=>by
   rw[qbt,zan W1 C _ _ _ _ Hn,←zan w C _ _ _ _ hC];exact Hm k v hk⟩) (by rw[Hi];omega) hu
 obtain⟨W2,hW2⟩:∃ W2,W1.setCells g I2 us=W2:=⟨_,rfl⟩;have Ha:=heap_setCells us I2 W1 _ Hc (by omega);rw[hW2]at Hf Ha;have Hs:Touch (fun b=>b=g) w W2:=by
  rw[←hW2];exact Hr.trans (qau (F:=fun b=>b=g) (g:=g) rfl _ _)
 obtain⟨CUR,hCUR⟩:∃ CUR,((cur.toList.take M2++xs.drop J2++cur.toList.drop (M2+(xs.drop J2).length)).toArray.toList.take I2++us++(cur.toList.take M2++xs.drop J2++cur.toList.drop (M2+(xs.drop J2).length)).toArray.toList.drop (I2+us.length)).toArray=CUR:=⟨_,rfl⟩;rw[hCUR]at Ha;have Hq:CUR.size=cap*2:=by
  rw[←hCUR];simp only[zaz,zad,zag,zap,za1,zbW];omega
 have Hh:CUR.toList.take N2=xs.take I2++us++xs.drop J2:=by
  have HB:cur.toList.take I2=xs.take I2:=by rw[←hx,zbY,zbE (by omega)]
  have l1:(cur.toList.take M2).length=M2:=by rw[zag,za1];omega
  have e1:(cur.toList.take M2++xs.drop J2++cur.toList.drop (M2+(xs.drop J2).length)).take I2=xs.take I2:=by
   rw[zaj,zcE (by omega),zbY,zbE (by omega),HB]
  have e2:(cur.toList.take M2++xs.drop J2++cur.toList.drop (M2+(xs.drop J2).length)).drop (I2+us.length)=xs.drop J2++cur.toList.drop (M2+(xs.drop J2).length):=by
   rw[zaj,show I2+us.length=M2 by omega,zbT l1]
  rw[←hCUR];simp only[zbW];rw[e1,e2,←zaj,za8];simp only[zad,zag,zap];omega
 obtain⟨a1,b1,r1⟩:=qbY (P:=Tryz.prog) Tryz.underlying104 hi0 hz1 g 0 n cap i j (by omega) (by omega);obtain⟨a2,b2,r2⟩:=qam (P:=Tryz.prog) Tryz.underlying104 hi0 hz1 g 0 n cap j (by omega) hnc;obtain⟨a3,b3,r3⟩:=qam (P:=Tryz.prog) Tryz.underlying104 hi0 hz1 g 0 N cap i (by omega) (by omega);obtain⟨a4,b4,r4⟩:=qam (P:=Tryz.prog) Tryz.underlying104 hi0 hz1 g 0 N cap im (by omega) (by omega);obtain rfl:a2=⟨g,J2,none⟩:=by rw[b2 (by omega)];congr 1;omega
 obtain rfl:a3=⟨g,I2,none⟩:=by rw[b3 (by omega)];congr 1;omega
 obtain rfl:a4=⟨g,M2,none⟩:=by rw[b4 (by omega)];congr 1;omega
 have e1:IntKind.i64.wrap ((i:Int)+(m:Int))=(im:Int):=by rw[zaJ _ (by omega)];omega
 rw[hd]at r2;have e2:IntKind.i64.wrap ((im:Int)+(d:Int))=(N:Int):=by rw[zaJ _ (by omega)];omega
 have t0:((i:Int)==(j:Int))=false:=by rw[zaI];omega
 have t1:((j:Int)==(n:Int))=false:=by rw[zaI];omega
 have t2:¬cap<N:=by omega
 have t3:¬im≤j:=by omega
 have HC:i≤cap:=by omega
 have Hu:=zH Ha;have Hy:=zH Hs;have Hw:=zH Hf;have Hx:=zH Hg;rw[hI2,hJ2];obtain⟨Y,hY⟩:∃ Y,xs.take I2++us++xs.drop J2=Y:=⟨_,rfl⟩;rw[hY]at Hh⊢;have Hj:=zH Hh;have Hv:=zH Hq;have Hk:=zH hN2;have HM:=zH hm;clear Hb Ho hY He Hf Hg Hc Ha Hr Hs hW1 hW2 hcell hcur htk hx hcs h h1 hs hu Ht Hi Hl b1 b2 b3 b4 Hh Hq hCUR hxl hI2 hJ2 hM2 hN2 him hN hd hC Hn Hp Hm hsc Hz hCg hm;go_enter Tryz.func75,Tryz.ntmps75
 go_upto_region 9 with fail
 go_region
 go_upto_region 22 with(simp only[HA])
 refine wp_region_held_drew (S:=fun _=>True) (by kernel_rfl) trivial (fun hHeld=>?_);refine zV 0 121 (.slice (some ⟨g,0,none⟩) N cap) ?_;try simp only[zS]
 refine zV 1 122 (.int .i64 (i:Int)) ?_;try simp only[zS]
 refine zV 2 123 (.slice (some ⟨C,oc,none⟩) m cc) ?_;try simp only[zS]
 refine zV 3 124 (.int .i64 (m:Int)) ?_;try simp only[zS]
 refine zV 4 125 (.int .i64 (im:Int)) ?_;try simp only[zS]
 refine zV 5 126 (.slice (some ⟨g,M2,none⟩) (N-im) (cap-im)) ?_;try simp only[zS]
 refine zV 6 127 (.slice (some ⟨g,0,none⟩) n cap) ?_;try simp only[zS]
 refine zV 7 128 (.int .i64 (j:Int)) ?_;try simp only[zS]
 refine zV 8 129 (.slice (some ⟨g,J2,none⟩) d (cap-j)) ?_;try simp only[zS]
 refine wpAnyH_ready (rs:=[9]) (by kernel_rfl) (by simp) ?_;refine AllReadyH.cons rfl (fun K hK=>?_) AllReadyH.nil;refine step_copy_runI rfl _ _ 104 104 rfl (.slice (some ⟨g,M2,none⟩) (N-im) (cap-im)) (.slice (some ⟨g,J2,none⟩) d (cap-j)) rfl rfl (Hx.o _ _ _) ?_;refine hK.out _ _ trivial (fun hHeld_1=>?_);clear hK K;try simp only[zS]
 refine wpAnyH_done (by kernel_rfl) ?_ _;clear hHeld hHeld_1;go_wp2;rw[Hw.o];go_wp2;go_ret;refine⟨_,rfl,Own.of_own (qaR Hu.o hBg hNc hcm Hv.o ?_),⟨?_,fun b e=>.inl e⟩⟩
 ·rw[Hk.o,Hj.o]
 ·exact Hy.o.mono (fun b _ hb=>by rw[hb];rfl)
theorem qi9 (a:Addr)(k:Nat):(a.add k).block=a.block:=by unfold Addr.add;split<;>rfl
theorem qmf {cap:Nat}(h:w.ownsRow B 102 2 (.slice (some ⟨g,0,none⟩) n cap) n xs)(h1:∀ x∈xs,x.oneCell'=true)(hij:i<j)(hjn:j<n)(hN:i+m+(n-j)=N)(hNc:cap<N)(hl:N≤1048576)(hs:Src w 2 A m us)(hA:∀ a,A=some a→a.block<w.heap.size)(hu:∀ x∈us,x.oneCell'=true)(hB:B≤w.heap.size) :
  Calls Tryz.prog 75 #[.slice (some ⟨g,0,none⟩) n cap,.int .i64 i,.int .i64 j,.slice A m cc] w (RkF B N (.slice (some ⟨g,0,none⟩) n cap) (xs.take (i*2)++us++xs.drop (j*2)) w):=by
 obtain⟨i0,hi0,hz0,hz1,hz2⟩:=qcr;obtain⟨hnc,hcm,hxl,hBg,hgl,hcell,cur,hcur,hcs,htk⟩:=own_cells h;obtain⟨im,him⟩:∃ im,i+m=im:=⟨_,rfl⟩;obtain⟨I2,hI2⟩:∃ I2,i*2=I2:=⟨_,rfl⟩;obtain⟨J2,hJ2⟩:∃ J2,j*2=J2:=⟨_,rfl⟩;obtain⟨M2,hM2⟩:∃ M2,im*2=M2:=⟨_,rfl⟩;obtain⟨N2,hN2⟩:∃ N2,N*2=N2:=⟨_,rfl⟩;have Hz:us.length=m*2:=hs.len;obtain⟨d,hd⟩:∃ d,n-j=d:=⟨_,rfl⟩;have Hi:(xs.drop J2).length=d*2:=by rw[zap];omega
 obtain⟨q,hq⟩:∃ q,N-i=q:=⟨_,rfl⟩;obtain⟨R,hR⟩:∃ R,w.heap.size=R:=⟨_,rfl⟩;obtain⟨G,hG⟩:∃ G,grownCap w.drew (i+q) cap 102=G:=⟨_,rfl⟩;have Hj:i+q=N:=by omega
 have Hg:N≤G:=by rw[←hG,←Hj];exact grownCap_ge w.drew _ _ _
 have Hs:G≤maxLen:=by rw[←hG];exact zc7 w.drew _ _ _ (by unfold maxLen;omega)
 have Hl:(xs.take I2).length=I2:=by rw[zag];omega
 have Hf:(Builtin.firstCells i0.size i (.slice (some ⟨g,0,none⟩) i cap)).run Tryz.prog w.drew.drew=.ok (xs.take I2).toArray w.drew.drew:=by
  rw[hz1];exact run_firstCells_some w.drew.drew 2 i ⟨g,0,none⟩ i cap (xs.take I2) (by omega) (fun k v hk=>by
   rw[qbt,zaO];rw[zaV]at hk;split at hk
   ·exact hcell k v hk
   ·cases hk)
 obtain⟨Z,hZ⟩:∃ Z,(Value.agg #[.int .i64 0,.pointer none]).cells=Z:=⟨_,rfl⟩;have Ht:Z.size=2:=by rw[←hZ];rfl
 obtain⟨ROW,hROW⟩:∃ ROW:Array Value,(xs.take I2).toArray++Builtin.zeroCells Z q++Builtin.zeroCells Z (G-(i+q))=ROW:=⟨_,rfl⟩;have HH:ROW.size=G*2:=by
  rw[←hROW,zcy,zcy,zaz,Hl,zcv,zcv,Ht];omega
 obtain⟨W1,hW1⟩:∃ W1,w.drew.drew.alloc (.cells ROW 102)=W1:=⟨_,rfl⟩;have Hy:∀ ty,(Builtin.append_ #[104,3] ty #[.slice (some ⟨g,0,none⟩) i cap,.int .i64 (q:Int)]).run Tryz.prog w.drew=.ok (.slice (some ⟨R,0,none⟩) N G) W1:=fun ty=>by
  have h:=Lib.run_append_grow_zeros w.drew 104 3 ty 102 i0 _ .i64 .i64 Tryz.underlying104 Tryz.underlying3 hi0 hz0 (some ⟨g,0,none⟩) i cap (xs.take I2) Hf q (by omega) (by omega) (by omega) (by omega) (by rw[hz2];omega) (by rw[hz2,Hj];exact growslice_fits (by omega) (by omega));rw[hG,show w.drew.heap.size=R from hR,hZ,hROW,hW1,Hj]at h;exact h
 have Hp:W1.heap[R]?=some (.cells ROW 102 (0,0)):=by rw[←hW1,←hR];exact zaf w.drew.drew _
 have Hh:Below w.heap.size w W1:=by rw[←hW1];exact(zai _ _).drew.drew.alloc (zac _) _
 have Ho:W1.heap[g]?=some (.cells cur 102 (0,0)):=(Hh.block g hgl).trans hcur;have Hx:g≠R:=by omega
 have Ha:∀ ty dc,(Builtin.copy_ #[104,104] ty #[.slice (some ⟨R,I2,none⟩) (N-i) dc,.slice A m cc]).run Tryz.prog W1=.ok (goInt m) (W1.setCells R I2 us):=fun ty dc=>
  qbF W1 _ _ ty 102 Tryz.underlying104 hi0 hz1 R I2 (N-i) dc A m cc us ROW _ Hp (show Nat.min m (N-i)=m by simp only[zcC];split<;>omega) Hz (fun h0=>by
   obtain⟨a,e,hc⟩:=hs.at_ h0;refine⟨a,e,fun k v hk=>?_⟩;rw[Hh.cell (p:=a.add k) (by rw[qi9];exact hA a e)];exact hc k v hk) (by omega) hu
 obtain⟨W2,hW2⟩:∃ W2,W1.setCells R I2 us=W2:=⟨_,rfl⟩;have Hq:W2.heap[R]?=some (.cells (ROW.toList.take I2++us++ROW.toList.drop (I2+us.length)).toArray 102 (0,0)):=by rw[←hW2];exact heap_setCells us I2 W1 ROW Hp (by omega)
 have Hw:W2.heap[g]?=some (.cells cur 102 (0,0)):=by rw[←hW2];exact(World.heap_setCells_other W1 R I2 us (by have:=(zab.1 Ho).1;exact this) Hx).trans Ho
 have Hu:Below w.heap.size w W2:=by rw[←hW2];exact below_setCells Hh (by omega) _ _
 rw[hW2]at Ha;have He:(ROW.toList.take I2++us++ROW.toList.drop (I2+us.length)).toArray.size=G*2:=by
  simp only[zaz,zad,zag,zap,za1];omega
 have Hb:∀ ty dc sc,(Builtin.copy_ #[104,104] ty #[.slice (some ⟨R,M2,none⟩) (N-im) dc,.slice (some ⟨g,J2,none⟩) d sc]).run Tryz.prog W2.drew=.ok (goInt d) (W2.drew.setCells R M2 (xs.drop J2)):=fun ty dc sc=>
  qbF W2.drew _ _ ty 102 Tryz.underlying104 hi0 hz1 R M2 (N-im) dc _ d sc (xs.drop J2) _ _ Hq (show Nat.min d (N-im)=d by simp only[zcC];split<;>omega) Hi (fun _=>⟨_,rfl,fun k v hk=>by
   rw[qbt];have h2:=hcell (J2+k) v (by rwa [zaK]at hk);rw[zan w g _ _ _ _ hcur]at h2;rw[zan W2.drew g _ _ _ _ Hw];exact h2⟩) (by rw[He,Hi];omega) (fun v hv=>h1 v (zaU hv))
 obtain⟨W3,hW3⟩:∃ W3,W2.drew.setCells R M2 (xs.drop J2)=W3:=⟨_,rfl⟩;have Hk:W3.heap[R]?=some (.cells ((ROW.toList.take I2++us++ROW.toList.drop (I2+us.length)).toArray.toList.take M2++xs.drop J2++(ROW.toList.take I2++us++ROW.toList.drop (I2+us.length)).toArray.toList.drop (M2+(xs.drop J2).length)).toArray 102 (0,0)):=by rw[←hW3];exact heap_setCells (xs.drop J2) M2 W2.drew _ Hq (by rw[He,Hi];omega)
 have Hv:Below w.heap.size w W3:=by rw[←hW3];exact below_setCells Hu.drew (by omega) _ _
 rw[hW3]at Hb;obtain⟨CUR,hCUR⟩:∃ CUR,((ROW.toList.take I2++us++ROW.toList.drop (I2+us.length)).toArray.toList.take M2++xs.drop J2++(ROW.toList.take I2++us++ROW.toList.drop (I2+us.length)).toArray.toList.drop (M2+(xs.drop J2).length)).toArray=CUR:=⟨_,rfl⟩;rw[hCUR]at Hk;have Hr:CUR.size=G*2:=by
  rw[←hCUR];simp only[zaz,zad,zag,zap,za1,zbW];omega
 have Hc:CUR.toList.take N2=xs.take I2++us++xs.drop J2:=by
  have e0:ROW.toList.take I2=xs.take I2:=by
   rw[←hROW,zcB,zcB,zaj,za8 (by simp;omega)]
  rw[←hCUR];simp only[zbW];rw[za8 (l₁:=ROW.toList.take I2++us) (by rw[e0,zad,Hl];omega),e0,za8];rw[zad,zad,Hl];omega
 obtain⟨a1,b1,r1⟩:=qbY (P:=Tryz.prog) Tryz.underlying104 hi0 hz1 g 0 n cap i j (by omega) (by omega);obtain⟨a2,b2,r2⟩:=qam (P:=Tryz.prog) Tryz.underlying104 hi0 hz1 g 0 n cap j (by omega) hnc;obtain⟨a3,b3,r3⟩:=qam (P:=Tryz.prog) Tryz.underlying104 hi0 hz1 R 0 N G i (by omega) Hg;obtain⟨a4,b4,r4⟩:=qam (P:=Tryz.prog) Tryz.underlying104 hi0 hz1 R 0 N G im (by omega) Hg;obtain rfl:a2=⟨g,J2,none⟩:=by rw[b2 (by omega)];congr 1;omega
 obtain rfl:a3=⟨R,I2,none⟩:=by rw[b3 (by omega)];congr 1;omega
 obtain rfl:a4=⟨R,M2,none⟩:=by rw[b4 (by omega)];congr 1;omega
 have e1:IntKind.i64.wrap ((i:Int)+(m:Int))=(im:Int):=by rw[zaJ _ (by omega)];omega
 rw[hd]at r2;have e2:IntKind.i64.wrap ((im:Int)+(d:Int))=(N:Int):=by rw[zaJ _ (by omega)];omega
 have e3:IntKind.i64.wrap ((N:Int)-(i:Int))=(q:Int):=by rw[zaJ _ (by omega)];omega
 have t0:((i:Int)==(j:Int))=false:=by rw[zaI];omega
 have t1:((j:Int)==(n:Int))=false:=by rw[zaI];omega
 have t2:cap<N:=by omega
 have HK:i≤cap:=by omega
 have HG:=zH Hy;have HD:=zH Ha;have HE:=zH Hb;have HF:=zH Hk;have HA:=zH Hv;rw[hI2,hJ2];obtain⟨Y,hY⟩:∃ Y,xs.take I2++us++xs.drop J2=Y:=⟨_,rfl⟩;rw[hY]at Hc⊢;have Hm:=zH Hc;have HB:=zH Hr;have HC:=zH Hs;have Hn:=zH (show N≤G∧B≤R∧N*2=N2∧w.heap.size=R∧R<W3.heap.size from⟨Hg,by omega,hN2,hR,(zab.1 Hk).1⟩);have HI:=zH Hg;clear hY Hy Ha Hb Hk Hv Hc He Hs hW1 hW2 hW3 Hp Hq Ho Hw Hh Hu hROW HH Hf hG hcell hcur htk hcs h h1 Hi Hl b1 b2 b3 b4 Hj hR hN hq hxl hB hI2 hJ2 hM2 hN2 him hd hs hA hu Hz hZ Ht Hr hCUR Hx hgl hBg;go_enter Tryz.func75,Tryz.ntmps75
 go_upto_region 9 with fail
 go_region
 go_upto_region 12 with(at_builtin;refine qbk rfl (.tmp 63) (.tmp 66) 104 3 rfl _ _ _ rfl rfl HG.o ?_)
 go_wp2;rw[HD.o];go_wp2;refine wp_region_held_drew (S:=fun _=>True) (by kernel_rfl) trivial (fun hHeld=>?_);refine zV 0 73 (.slice (some ⟨R,0,none⟩) N G) ?_;try simp only[zS]
 refine zV 1 74 (.int .i64 (i:Int)) ?_;try simp only[zS]
 refine zV 2 75 (.slice A m cc) ?_;try simp only[zS]
 refine zV 3 76 (.int .i64 (m:Int)) ?_;try simp only[zS]
 refine zV 4 77 (.int .i64 (im:Int)) ?_;try simp only[zS]
 refine zV 5 78 (.slice (some ⟨R,M2,none⟩) (N-im) (G-im)) ?_;try simp only[zS]
 refine zV 6 79 (.slice (some ⟨g,0,none⟩) n cap) ?_;try simp only[zS]
 refine zV 7 80 (.int .i64 (j:Int)) ?_;try simp only[zS]
 refine zV 8 81 (.slice (some ⟨g,J2,none⟩) d (cap-j)) ?_;try simp only[zS]
 refine wpAnyH_ready (rs:=[9]) (by kernel_rfl) (by simp) ?_;refine AllReadyH.cons rfl (fun K hK=>?_) AllReadyH.nil;refine step_copy_runI rfl _ _ 104 104 rfl (.slice (some ⟨R,M2,none⟩) (N-im) (G-im)) (.slice (some ⟨g,J2,none⟩) d (cap-j)) rfl rfl (HE.o _ _ _) ?_;refine hK.out _ _ trivial (fun hHeld_1=>?_);clear hK K;try simp only[zS]
 refine wpAnyH_done (by kernel_rfl) ?_ _;clear hHeld hHeld_1;go_wp2;go_ret;obtain⟨k1,k2,k3,k4,k5⟩:=Hn.o;refine⟨_,rfl,Own.of_own (qaR HF.o k2 k1 HC.o HB.o ?_),Touch.of_below HA.o,fun b e=>.inr ?_⟩
 ·rw[k3,Hm.o]
 ·have HJ:b=R:=by cases e;rfl
  omega
theorem qei {v:Value}(cc:Nat)(h:Own w B 102 2 v n xs)(h1:∀ x∈xs,x.oneCell'=true)(hij:i<j)(hjn:j≤n)(hN:i+m+(n-j)=N)(hl:n≤524288)(hm:m≤524288)(hs:Src w 2 A m us)(hu:∀ x∈us,x.oneCell'=true)(hA:0<m→∃ C oc ucs ut,A=some ⟨C,oc,none⟩∧w.heap[C]?=some (.cells ucs ut (0,0))∧v.ownBlock≠some C)(hA0:m=0→A=none)(hB:B≤w.heap.size) :
  Calls Tryz.prog 75 #[v,.int .i64 i,.int .i64 j,.slice A m cc] w (RkF B N v (xs.take (i*2)++us++xs.drop (j*2)) w):=by
 rcases h.row with hr|⟨A0,e,hn0,hx0⟩
 ·rcases hr.2 with⟨e,h0⟩|⟨g,cap,cur,e,_⟩
  ·omega
  ·subst e;have Hc:=hr.1;have Ha:∀ a,A=some a→a.block<w.heap.size:=fun a e=>by
    by_cases h0:0<m
    ·obtain⟨C,oc,ucs,ut,e2,hC,_⟩:=hA h0;rw[e]at e2;cases e2;exact(zab.1 hC).1
    ·rw[hA0 (by omega)]at e;cases e
   by_cases hj:j=n
   ·subst hj;have Hb:xs.drop (j*2)=[]:=zbi (by omega);rw[Hb,zaG];by_cases hm2:i+m<j
    ·exact qil hr hij hm2 (by omega) (by omega) hs hu
    ·exact qim hr hij (by omega) (by omega) (by omega) hs hu hB
   ·by_cases hm2:i+m≤j
    ·exact qkE hr h1 hij (by omega) hm2 hN (by omega) hs hu
    ·by_cases hc:N≤cap
     ·obtain⟨C,oc,ucs,ut,rfl,hC,hCv⟩:=hA (by omega);exact qmg hr h1 hij (by omega) (by omega) hN hc (by omega) hs hu hC (fun e=>hCv (by rw[e];rfl))
     ·exact qmf hr h1 hij (by omega) hN (by omega) (by omega) hs Ha hu hB
 ·omega
section
theorem Own.keepb {w w':World}{B:Nat}{e:TypeId}{size n:Nat}{v:Value}{xs:List Value}(h:Own w B e size v n xs)(hs:w.heap.size≤w'.heap.size)(hk:∀ b,v.ownBlock=some b→w'.heap[b]?=w.heap[b]?):Own w' B e size v n xs:=
 ⟨h.row.keep fun b hb _=>hk b hb,fun b e=>⟨(h.blk b e).1,zam (h.blk b e).2 hs⟩⟩
theorem Own.touch {w w':World}{B:Nat}{e:TypeId}{size n:Nat}{v:Value}{xs:List Value}{F:Nat→Prop}(h:Own w B e size v n xs)(ht:Touch F w w')(hd:∀ b,v.ownBlock=some b→¬F b):Own w' B e size v n xs:=
 h.keepb ht.size fun b hb=>ht.block b (h.blk b hb).2 (hd b hb)
theorem Own.len {w:World}{B:Nat}{e:TypeId}{size n:Nat}{v:Value}{xs:List Value}(h:Own w B e size v n xs):xs.length=n*size:=by
 obtain⟨A,c,_,hl,_⟩:=h.row.form;exact hl
theorem Own.slice {w:World}{B:Nat}{e:TypeId}{size n:Nat}{v:Value}{xs:List Value}(h:Own w B e size v n xs):∃ A c,v=.slice A n c∧n≤c:=by
 obtain⟨A,c,e,_,_⟩:=h.row.form;subst e;exact⟨A,c,rfl,h.row.cap⟩
theorem Own.srcS {w:World}{B:Nat}{e:TypeId}{size n c:Nat}{A:Option Addr}{xs:List Value}(h:Own w B e size (.slice A n c) n xs){S:Nat→Prop}(hS:∀ b,(Value.slice A n c).ownBlock=some b→S b):SrcS w S size A n xs:=
 ⟨h.row.src,fun h0=>by
  obtain⟨A',c',e,_,hf⟩:=h.row.form;cases e;obtain⟨g,rfl,_,_,_⟩:=hf h0;exact⟨g,0,rfl,hS g rfl⟩,fun h0 b o e=>by
  rcases h.row with hr|⟨A0,e1,e2,_⟩
  ·cases e;have hr0:=hr;rcases hr.2 with⟨e1,_⟩|⟨g,cap,cur,e1,_⟩
   ·cases e1
   ·cases e1;obtain⟨_,_,_,_,h1,_,cur2,h2,_⟩:=own_cells hr0;exact⟨h1,fun i=>zaQ _ _ _ _ _ h2⟩
  ·omega⟩
structure NdQ (w:World) (B N:Nat) (leaf:Bool) (c1 c2 c3:Value) (k:Value) (nk:Nat) (vk:List Value) (v:Value) (nv:Nat) (vv:List Value) (x:Value) (nx:Nat) (vx:List Value):Prop where
 nd:w.heap[N]?=some (.cells #[.bool leaf,c1,c2,c3] 106 (0,0))
 lo:B≤N
 ko:Own w B 34 1 k nk vk
 vo:Own w B 34 1 v nv vv
 xo:Own w B 102 2 x nx vx
 kN:k.ownBlock≠some N
 vN:v.ownBlock≠some N
 xN:x.ownBlock≠some N
 kv:∀ b,k.ownBlock=some b→v.ownBlock≠some b
 kx:∀ b,k.ownBlock=some b→x.ownBlock≠some b
 vx:∀ b,v.ownBlock=some b→x.ownBlock≠some b
theorem qbx {A:Option Addr}{n c b:Nat}(h:(Value.slice A n c).ownBlock=some b):∃ a,A=some a∧a.block=b:=by
 cases A with
 | none=>cases h
 | some a=>exact⟨a,rfl,by cases h;rfl⟩
theorem NdO.q {w:World}{B N:Nat}{leaf:Bool}{K:Option Addr}{nk ck:Nat}{vk:List Value}{V:Option Addr}{nv cv:Nat}{vv:List Value}{X:Option Addr}{nx cx:Nat}{vx:List Value}(h:NdO w B N leaf K nk ck vk V nv cv vv X nx cx vx) :
  NdQ w B N leaf (.slice K nk ck) (.slice V nv cv) (.slice X nx cx) (.slice K nk ck) nk vk (.slice V nv cv) nv vv (.slice X nx cx) nx vx:=by
 refine⟨h.nd,h.lo,h.k,h.v,h.x,fun e=>?_,fun e=>?_,fun e=>?_,fun b e e2=>?_,fun b e e2=>?_,fun b e e2=>?_⟩
 ·obtain⟨a,rfl,f⟩:=qbx e;exact h.kN a rfl f
 ·obtain⟨a,rfl,f⟩:=qbx e;exact h.vN a rfl f
 ·obtain⟨a,rfl,f⟩:=qbx e;exact h.xN a rfl f
 ·obtain⟨a,rfl,f⟩:=qbx e;obtain⟨a2,rfl,f2⟩:=qbx e2;exact h.kv a a2 rfl rfl (by rw[f,f2])
 ·obtain⟨a,rfl,f⟩:=qbx e;obtain⟨a2,rfl,f2⟩:=qbx e2;exact h.kx a a2 rfl rfl (by rw[f,f2])
 ·obtain⟨a,rfl,f⟩:=qbx e;obtain⟨a2,rfl,f2⟩:=qbx e2;exact h.vx a a2 rfl rfl (by rw[f,f2])
section
variable {w w':World} {B N:Nat} {leaf:Bool} {c1 c2 c3 k v x:Value} {nk nv nx:Nat} {vk vv vx:List Value}
theorem NdQ.lt (h:NdQ w B N leaf c1 c2 c3 k nk vk v nv vv x nx vx):N<w.heap.size:=(zab.1 h.nd).1
theorem NdQ.c0' (h:NdQ w B N leaf c1 c2 c3 k nk vk v nv vv x nx vx):w.cell? ⟨N,0,none⟩=some (.bool leaf):=zC h.nd
theorem NdQ.c1' (h:NdQ w B N leaf c1 c2 c3 k nk vk v nv vv x nx vx):w.cell? ⟨N,1,none⟩=some c1:=zC h.nd
theorem NdQ.c2' (h:NdQ w B N leaf c1 c2 c3 k nk vk v nv vv x nx vx):w.cell? ⟨N,2,none⟩=some c2:=zC h.nd
theorem NdQ.c3' (h:NdQ w B N leaf c1 c2 c3 k nk vk v nv vv x nx vx):w.cell? ⟨N,3,none⟩=some c3:=zC h.nd
theorem NdQ.touch {F:Nat→Prop}(h:NdQ w B N leaf c1 c2 c3 k nk vk v nv vv x nx vx)(ht:Touch F w w')(hN:¬F N)(hk:∀ b,k.ownBlock=some b→¬F b)(hv:∀ b,v.ownBlock=some b→¬F b)(hx:∀ b,x.ownBlock=some b→¬F b):NdQ w' B N leaf c1 c2 c3 k nk vk v nv vv x nx vx:=
 ⟨(ht.block N h.lt hN).trans h.nd,h.lo,h.ko.touch ht hk,h.vo.touch ht hv,h.xo.touch ht hx,h.kN,h.vN,h.xN,h.kv,h.kx,h.vx⟩
theorem NdQ.below (h:NdQ w B N leaf c1 c2 c3 k nk vk v nv vv x nx vx)(hb:Below w.heap.size w w'):NdQ w' B N leaf c1 c2 c3 k nk vk v nv vv x nx vx:=
 h.touch (F:=fun _=>False) (Touch.of_below hb) id (fun _ _=>id) (fun _ _=>id) (fun _ _=>id)
theorem NdQ.updK (h:NdQ w B N leaf c1 c2 c3 k nk vk v nv vv x nx vx){k':Value}{nk':Nat}{vk':List Value}(ho:Own w' B 34 1 k' nk' vk')(hu:Upd w w' k k'):NdQ w' B N leaf c1 c2 c3 k' nk' vk' v nv vv x nx vx:=by
 have hl:=h.lt;refine⟨(hu.touch.block N hl h.kN).trans h.nd,h.lo,ho,h.vo.touch hu.touch fun b e e2=>h.kv b e2 e,h.xo.touch hu.touch fun b e e2=>h.kx b e2 e,fun e=>?_,h.vN,h.xN,fun b e e2=>?_,fun b e e2=>?_,h.vx⟩
 ·rcases hu.own N e with h2|h2
  ·exact h.kN h2
  ·omega
 ·rcases hu.own b e with h2|h2
  ·exact h.kv b h2 e2
  ·have:=(h.vo.blk b e2).2;omega
 ·rcases hu.own b e with h2|h2
  ·exact h.kx b h2 e2
  ·have:=(h.xo.blk b e2).2;omega
theorem NdQ.updV (h:NdQ w B N leaf c1 c2 c3 k nk vk v nv vv x nx vx){v':Value}{nv':Nat}{vv':List Value}(ho:Own w' B 34 1 v' nv' vv')(hu:Upd w w' v v'):NdQ w' B N leaf c1 c2 c3 k nk vk v' nv' vv' x nx vx:=by
 have hl:=h.lt;refine⟨(hu.touch.block N hl h.vN).trans h.nd,h.lo,h.ko.touch hu.touch fun b e e2=>h.kv b e e2,ho,h.xo.touch hu.touch fun b e e2=>h.vx b e2 e,h.kN,fun e=>?_,h.xN,fun b e e2=>?_,h.kx,fun b e e2=>?_⟩
 ·rcases hu.own N e with h2|h2
  ·exact h.vN h2
  ·omega
 ·rcases hu.own b e2 with h2|h2
  ·exact h.kv b e h2
  ·have:=(h.ko.blk b e).2;omega
 ·rcases hu.own b e with h2|h2
  ·exact h.vx b h2 e2
  ·have:=(h.xo.blk b e2).2;omega
theorem NdQ.updX (h:NdQ w B N leaf c1 c2 c3 k nk vk v nv vv x nx vx){x':Value}{nx':Nat}{vx':List Value}(ho:Own w' B 102 2 x' nx' vx')(hu:Upd w w' x x'):NdQ w' B N leaf c1 c2 c3 k nk vk v nv vv x' nx' vx':=by
 have hl:=h.lt;refine⟨(hu.touch.block N hl h.xN).trans h.nd,h.lo,h.ko.touch hu.touch fun b e e2=>h.kx b e e2,h.vo.touch hu.touch fun b e e2=>h.vx b e e2,ho,h.kN,h.vN,fun e=>?_,h.kv,fun b e e2=>?_,fun b e e2=>?_⟩
 ·rcases hu.own N e with h2|h2
  ·exact h.xN h2
  ·omega
 ·rcases hu.own b e2 with h2|h2
  ·exact h.kx b e h2
  ·have:=(h.ko.blk b e).2;omega
 ·rcases hu.own b e2 with h2|h2
  ·exact h.vx b e h2
  ·have:=(h.vo.blk b e).2;omega
theorem qa4 {e:TypeId}{size n:Nat}{y:Value}{ys:List Value}(h:Own w B e size y n ys)(hN:y.ownBlock≠some N)(i:Nat)(u:Value):Own (w.setCell ⟨N,i,none⟩ u) B e size y n ys:=
 h.keepb (by simp) fun b hb=>za5 w _ u b (fun e=>hN (by rw[hb,e]))
theorem NdQ.st1 (h:NdQ w B N leaf c1 c2 c3 k nk vk v nv vv x nx vx)(u:Value):NdQ (w.setCell ⟨N,1,none⟩ u) B N leaf u c2 c3 k nk vk v nv vv x nx vx:=
 ⟨qab h.nd u,h.lo,qa4 h.ko h.kN 1 u,qa4 h.vo h.vN 1 u,qa4 h.xo h.xN 1 u,h.kN,h.vN,h.xN,h.kv,h.kx,h.vx⟩
theorem NdQ.st2 (h:NdQ w B N leaf c1 c2 c3 k nk vk v nv vv x nx vx)(u:Value):NdQ (w.setCell ⟨N,2,none⟩ u) B N leaf c1 u c3 k nk vk v nv vv x nx vx:=
 ⟨qab h.nd u,h.lo,qa4 h.ko h.kN 2 u,qa4 h.vo h.vN 2 u,qa4 h.xo h.xN 2 u,h.kN,h.vN,h.xN,h.kv,h.kx,h.vx⟩
theorem NdQ.st3 (h:NdQ w B N leaf c1 c2 c3 k nk vk v nv vv x nx vx)(u:Value):NdQ (w.setCell ⟨N,3,none⟩ u) B N leaf c1 c2 u k nk vk v nv vv x nx vx:=
 ⟨qab h.nd u,h.lo,qa4 h.ko h.kN 3 u,qa4 h.vo h.vN 3 u,qa4 h.xo h.xN 3 u,h.kN,h.vN,h.xN,h.kv,h.kx,h.vx⟩
theorem NdQ.nc {K V X:Option Addr}{ck cv cx:Nat}(h:NdQ w B N leaf (.slice K nk ck) (.slice V nv cv) (.slice X nx cx) (.slice K nk ck) nk vk (.slice V nv cv) nv vv (.slice X nx cx) nx vx):Nc w N leaf K nk ck V nv cv X nx cx:=
 ⟨h.c0',h.c1',h.c2',h.c3',h.ko.row.cap,h.vo.row.cap,h.xo.row.cap⟩
end
theorem qcY {w:World}{B n:Nat}{v:Value}{xs:List Value}(h:Own w B 34 1 v n xs)(h1:∀ u∈xs,u.oneCell'=true){i:Nat}(hi:i<n)(hl:n≤1048576) :
  Calls Tryz.prog 72 #[v,.int .i64 i,.int .i64 ((i+1:Nat):Int)] w (fun e w'=>∃ v',e=.returned v'∧Own w' B 34 1 v' (n-1) (xs.take i++xs.drop (i+1))∧Upd w w' v v'):=by
 rcases h.row with hr|⟨A0,e,hn0,hx0⟩
 ·rcases hr.2 with⟨e,h0⟩|⟨g,cap,cur,e,_⟩
  ·omega
  ·subst e;refine(qgt hr h1 hi hl).mono fun e w' ⟨he,ho,ht⟩=>⟨_,he,Own.of_own ho,ht.mono (fun b _ hb=>by rw[hb];rfl),fun b e=>.inl ?_⟩;cases e;rfl
 ·omega
theorem NdQ.leaf {w:World}{B N:Nat}{k v x:Value}{n:Nat}{vk vv vx:List Value}{ps:List Pr}(h:NdQ w B N true k v x k n vk v n vv x 0 vx)(hn:ps.length=n){S:Nat→Prop}(hN:S N)(hk:∀ b,k.ownBlock=some b→S b)(hv:∀ b,v.ownBlock=some b→S b)(hrk:RowV w S vk (ps.map Prod.fst))(hrv:RowV w S vv (ps.map Prod.snd)):NM w S (.leaf ps) N []:=by
 obtain⟨K,ck,rfl,_⟩:=h.ko.slice;obtain⟨V,cv,rfl,_⟩:=h.vo.slice;obtain⟨X,cx,rfl,_⟩:=h.xo.slice;subst hn;unfold NM;exact⟨rfl,hN,K,ck,V,cv,X,cx,vk,vv,h.nc,h.ko.srcS hk,hrk,h.vo.srcS hv,hrv⟩
end
end Go.Proofs.YtpmebcgmgfcmiaaGreatDoor
namespace Go.Proofs.YtpmebcgmgfcmiaaGreatDoor
open Go.RowKit
section
section
variable {P:Program} {md:Region.Mode} {ops:Array Oper} {Q:Exit→Act→World→Prop} {S:World→Prop}
theorem zR {st:List Nat}{oi:Oper}{f:Nat}{l:Array Bool}{a:Act}{w:World}(i d:Nat)(v:Value)(hS:Gate st l S w)
  (h:qa0 P md ops Q S st f (l.setIfInBounds i true) (a.put (some d) v) w)
  (hi:ops[i]?=some oi:=by rfl)(hd:oi.dst=some d:=by rfl)(hs:Region.noSelect ops=true:=by kernel_rfl)(hf:Region.free md ops l i=true:=by kernel_rfl)(hr:(Region.ready md ops l).contains i=true:=by kernel_rfl)(hg:st.contains i=false:=by kernel_rfl)
  (hQ:∀ c a w,Q (.panic c) (a.put (some d) v) w→Q (.panic c) a w:=by exact fun _ _ _ h=>h)(hy:YieldsIf P ops (fun _=>True) oi v a:=by exact Or.inl ⟨by rfl,fun W hS=>by clear hS;go_simp⟩):qa0 P md ops Q S st (f+1) l a w:=
 qeQ (some d) hi hd hs hf hr hg hQ hy hS h
theorem zP {st:List Nat}{oi:Oper}{f:Nat}{l:Array Bool}{a:Act}{w:World}(i d:Nat)(v:Value)(hS:S w)
  (h:qa0 P md ops Q S st f (l.setIfInBounds i true) (a.put (some d) v) w)
  (hi:ops[i]?=some oi:=by rfl)(hd:oi.dst=some d:=by rfl)(hs:Region.noSelect ops=true:=by kernel_rfl)(hf:Region.free md ops l i=true:=by kernel_rfl)(hr:(Region.ready md ops l).contains i=true:=by kernel_rfl)(hg:st.contains i=false:=by kernel_rfl)
  (hQ:∀ c a w,Q (.panic c) (a.put (some d) v) w→Q (.panic c) a w:=by exact fun _ _ _ h=>h)(hy:YieldsIf P ops (fun _=>True) oi v a:=by exact Or.inl ⟨by rfl,fun W hS=>by clear hS;go_simp⟩):qa0 P md ops Q S st (f+1) l a w:=
 qeQ (some d) hi hd hs hf hr hg hQ hy (qaa hS) h
theorem zN {st:List Nat}{oi:Oper}{f:Nat}{l:Array Bool}{a:Act}{w:World}(i d:Nat)(hS:Gate st l S w)
  (h:qa0 P md ops Q S st f (l.setIfInBounds i true) (a.put (some d) undef) w)
  (hi:ops[i]?=some oi:=by rfl)(hd:oi.dst=some d:=by rfl)(hs:Region.noSelect ops=true:=by kernel_rfl)(hf:Region.free md ops l i=true:=by kernel_rfl)(hr:(Region.ready md ops l).contains i=true:=by kernel_rfl)(hg:st.contains i=false:=by kernel_rfl)
  (hQ:∀ c a w,Q (.panic c) (a.put (some d) undef) w→Q (.panic c) a w:=by exact fun _ _ _ h=>h)(hy:YieldsIf P ops (fun _=>True) oi undef a:=by exact Or.inr ⟨by rfl,rfl⟩):qa0 P md ops Q S st (f+1) l a w:=
 qeQ (some d) hi hd hs hf hr hg hQ hy hS h
theorem zL {st:List Nat}{oi:Oper}{f:Nat}{l:Array Bool}{a:Act}{w:World}(i d:Nat)(v:Value)(hi:ops[i]?=some oi)(hy:YieldsIf P ops S oi v a)(hS:Gate st l S w)
  (h:qa0 P md ops Q S st f (l.setIfInBounds i true) (a.put (some d) v) w)
  (hd:oi.dst=some d:=by rfl)(hs:Region.noSelect ops=true:=by kernel_rfl)(hf:Region.free md ops l i=true:=by kernel_rfl)(hr:(Region.ready md ops l).contains i=true:=by kernel_rfl)(hg:qg9 md ops l st i=true:=by kernel_rfl)
  (hQ:∀ c a w,Q (.panic c) (a.put (some d) v) w→Q (.panic c) a w:=by exact fun _ _ _ h=>h):qa0 P md ops Q S st (f+1) l a w:=
 qk8 (some d) hi hd hs hf hr hg hQ hy hS h
theorem zE {st:List Nat}{o:Oper}{f:Nat}{l:Array Bool}{a:Act}{w:World}(i d:Nat)(ho:ops[i]?=some o)
  (h:∀ K':Act→World→Prop,Shut (∀ v w,Gate st (l.setIfInBounds i true) S w→(Gate st (l.setIfInBounds i true) S w→qa0 P md ops Q S st f (l.setIfInBounds i true) (a.put (some d) v) w)→K' (a.put o.dst v) w)→if Region.wanted o (yielded ops a.tmps)=true then Oper.wp P o a w K' Q else K' (a.put o.dst undef) w)
  (hd:o.dst=some d:=by rfl)(hr:Region.ready md ops l=[i]:=by kernel_rfl):qa0 P md ops Q S st (f+1) l a w:=
 qae hr (by simp) (AllReadyG.ev (some d) ho hd h AllReadyG.nil)
end
end
end Go.Proofs.YtpmebcgmgfcmiaaGreatDoor
