/- Texts LgH LgI EqH. -/
import Derived.Test.YtfcknhbmeofniaaGreatDoorR25
set_option linter.all false
set_option maxRecDepth 100000
set_option maxHeartbeats 16000000
set_option linter.all false
namespace Go.Proofs.YtfcknhbmeofniaaGreatDoor
open Go.RowKit BT
theorem qho {P:Program}{t e:TypeId}{i:TypeInfo}(ht:P.underlying t=some (.slice e))(hi:P.info? e=some i){A:Option Addr}(n c k:Nat)(h2:k≤c)(hA:c=0∨∃ b off,A=some ⟨b,off,none⟩)(W:World) :
  (Instr.slice t (.slice A n c) none (some (.int .i64 (k:Int))) none).run P W=.ok (.slice A k c) W:=by
 rcases hA with rfl|⟨b,off,rfl⟩
 ·obtain rfl:k=0:=by omega
  simp[Instr.slice,Instr.sliceBounds,Instr.sliceBound,asIntOf,zaU ht,sizeOf,typeInfo,hi,go_sem]
 ·exact qeI ht hi b off n c k h2 W
theorem Row.shape {w:World}{B:Nat}{e:TypeId}{size:Nat}{A:Option Addr}{n c:Nat}{xs:List Value}(h:Row w B e size (.slice A n c) n xs):n≤c∧(c=0∨∃ b off,A=some ⟨b,off,none⟩):=by
 rcases h with⟨_,⟨h1,h2⟩|⟨g,cap,cur,h1,_,_,h2,_⟩⟩|⟨A0,h1,h2,_⟩
 ·cases h1;exact⟨Nat.le_of_eq h2,.inl rfl⟩
 ·cases h1;exact⟨h2,.inr ⟨_,_,rfl⟩⟩
 ·cases h1;exact⟨Nat.le_of_eq h2,.inl rfl⟩
theorem LeM.below {w w':World}{B L:Nat}{F:Nat→Prop}{es:List Bs}(h:LeM w B F L es)(hb:Below w.heap.size w w'):LeM w' B F L es:=by
 obtain⟨A,c,cs,A2,c2,x1,x2,x3,x4,x5,x6,x7⟩:=h.ex;have hR:LeR w B F L A c es.length cs es A2 c2 es.length (bv (es.map qce).flatten):=⟨h.lo,x1,x2,x3,x4,x5,x6,x7⟩;have hS:=hR.below hb;exact⟨h.lo,fun b hb'=>⟨(h.fb b hb').1,zag (h.fb b hb').2 hb.size⟩,fun b hb'=>h.fo b (by unfold LeO at hb'⊢;rwa [hb.block L hR.lt]at hb'),h.sz,h.many,A,c,cs,A2,c2,hS.box,hS.own,hS.rows,hS.n1,hS.own2,hS.n2,hS.ap⟩
def lvs (es:List Bs)(k:Nat):List Bs:=(es.take k).map qce
theorem qkd (es:List Bs){k:Nat}(h:k≤es.length):(lvs es k).length=k:=by simp[lvs];omega
theorem qeZ (es:List Bs)(k:Nat):H32 (lvs es k):=fun x hx=>by
 obtain⟨e,_,rfl⟩:=zbh.1 hx;exact qcm e
theorem qlr (es:List Bs)(k:Nat):lvs es k=(es.map qce).take k:=by simp[lvs,List.map_take]
theorem qlq (es:List Bs)(x:Bs){k:Nat}(h:k≤es.length):lvs (es++[x]) k=lvs es k:=by unfold lvs;rw[zb1 h]
theorem LeM.leaves {w:World}{B L:Nat}{F:Nat→Prop}{es:List Bs}(h:LeM w B F L es):∃ A2 c2,w.cell? ⟨L,1,none⟩=some (.slice A2 es.length c2)∧es.length≤c2∧(c2=0∨∃ b off,A2=some ⟨b,off,none⟩)∧(∀ ad,A2=some ad→0<es.length→ad.block<w.heap.size)∧∀ k,k≤es.length→By w A2 (lvs es k).flatten:=by
 obtain⟨A,c,cs,A2,c2,h1,_,_,_,ho,_⟩:=h.ex;have Ha:H32 (es.map qce):=fun x hx=>by
  obtain⟨e,_,rfl⟩:=zbh.1 hx;exact qcm e
 refine⟨A2,c2,zC h1,ho.row.shape.1,ho.row.shape.2,fun ad e h0=>(ho.blk ad.block (by rw[e];rfl)).2,fun k hk=>?_⟩;rw[qlr,Ha.takef];exact ho.byF.take _
theorem qhM {w:World}{B L:Nat}{F:Nat→Prop}{es:List Bs}(h:LeM w B F L es){k b:Nat}(hk:k≤es.length)(hx:w.cell? ⟨b,0,none⟩=some (.int .i64 (k:Int)))(hkon:Kon w) :
  Calls Tryz.prog 25 #[.pointer (some ⟨L,0,none⟩),.int .i64 (k:Int),.func (.func 26) #[] #[.pointer (some ⟨b,0,none⟩)]] w fun e w'=>e=.returned (.tuple #[.agg (Value.int .i64 (k:Int)::bv (mtH (lvs es k))).toArray,.int .i64 0])∧Below w.heap.size w w':=by
 obtain⟨i0,hi0,hz0,hz1,hz2⟩:=zaY qhT;obtain⟨W0,hW0⟩:∃ W0,w.alloc (.cells #[.int .i64 0,Value.int .u8 0,Value.int .u8 0,Value.int .u8 0,Value.int .u8 0,Value.int .u8 0,Value.int .u8 0,Value.int .u8 0,Value.int .u8 0,Value.int .u8 0,Value.int .u8 0,Value.int .u8 0,Value.int .u8 0,Value.int .u8 0,Value.int .u8 0,Value.int .u8 0,Value.int .u8 0,Value.int .u8 0,Value.int .u8 0,Value.int .u8 0,Value.int .u8 0,Value.int .u8 0,Value.int .u8 0,Value.int .u8 0,Value.int .u8 0,Value.int .u8 0,Value.int .u8 0,Value.int .u8 0,Value.int .u8 0,Value.int .u8 0,Value.int .u8 0,Value.int .u8 0,Value.int .u8 0] 36)=W0:=⟨_,rfl⟩;have Hi:W0.heap[w.heap.size]?=some (.cells (#[.int .i64 0,Value.int .u8 0,Value.int .u8 0,Value.int .u8 0,Value.int .u8 0,Value.int .u8 0,Value.int .u8 0,Value.int .u8 0,Value.int .u8 0,Value.int .u8 0,Value.int .u8 0,Value.int .u8 0,Value.int .u8 0,Value.int .u8 0,Value.int .u8 0,Value.int .u8 0,Value.int .u8 0,Value.int .u8 0,Value.int .u8 0,Value.int .u8 0,Value.int .u8 0,Value.int .u8 0,Value.int .u8 0,Value.int .u8 0,Value.int .u8 0,Value.int .u8 0,Value.int .u8 0,Value.int .u8 0,Value.int .u8 0,Value.int .u8 0,Value.int .u8 0,Value.int .u8 0,Value.int .u8 0]:Array Value) 36 (0,0)):=by rw[←hW0];exact zae w _
 have Ha:Below w.heap.size w W0:=by rw[←hW0];exact zB _ _
 obtain⟨A2,c2,f0,hn2,hA2,_,hby⟩:=h.leaves;have f1:W0.cell? ⟨L,1,none⟩=some (.slice A2 es.length c2):=(Ha.cell (p:=⟨L,1,none⟩) h.lt).trans f0;have hm:=h.many;have HC:=zH (qi6 (w:=W0) (b:=b) (k:=k) (A:=A2) (n:=k) (c:=c2) (l:=lvs es k) ((hby k hk).below Ha) (qeZ es k) (qkd es hk) (hkon.below hkon.lt Ha) (by omega) ((Ha.cell (p:=⟨b,0,none⟩) (zav _ _ hx)).trans hx));have Ho:=qho Tryz.underlying50 hi0 es.length c2 k (by omega) hA2;obtain⟨XL,hXL⟩:∃ x,bv (mtH (lvs es k))=x:=⟨_,rfl⟩;have He:XL.length=32:=by rw[←hXL,bv_len];exact qcD (qeZ es k)
 have Hj:∀ v∈XL,v.oneCell'=true:=by rw[←hXL];exact qak _
 rw[hXL]at HC⊢;have Hg:=zH (show(Value.int .i64 (k:Int)::XL).toArray.size=33 by simp[He]);have Hb:=zH He;have Hl:=zH (show ∀ v∈(Value.int .i64 (k:Int)::XL),v.oneCell'=true from fun v hv=>by
  rcases zaB.1 hv with rfl|h
  ·rfl
  ·exact Hj v h)
 obtain⟨n,hn⟩:∃ n,es.length=n:=⟨_,rfl⟩;rw[hn]at f1 hk Ho;have Hf:=zH Ha;have Hh:=zH Hi;have k1:¬((k:Int)<0):=by omega
 have k2:¬((n:Int)<(k:Int)):=by omega
 have k3:¬(n<k):=by omega
 clear h f0 hn2 hA2 hby hm Ha hx hkon hXL He Hj hn Hi hi0 hz0 hz1 hz2 hk;go_enter Tryz.func25,Tryz.ntmps25
 go_upto_region 1 with fail
 clear hW0;go_wp2_with (first
  | (go_at_call 26;go_loud (refine HC.o.mono ?_;rintro e w1 ⟨rfl,hb1⟩;have Hk:=zH (Hf.o.trans (hb1.mono Hf.o.size));have Hc:=(hb1.block w.heap.size (zaa.1 Hh.o).1).trans Hh.o;have Hn:=zH (show w1.there w.heap.size 0 33 from there_of_block Hc 0 (by simp));have Hm:=zH Hc;clear hb1 Hc))
  | ((with_reducible show wpList _ _ _ (⟨none,.store 36 _ _,_,_,_,_⟩::_) _ _);go_loud (refine wpList_store_mid rfl 36 (.tmp 6) (.tmp 29) rfl w.heap.size 0 (Value.int .i64 (k:Int)::XL).toArray rfl rfl (by rw[Hg.o];exact Hn.o) (by rw[Hg.o];kernel_rfl) (all_oneCell_toArray Hl.o) ?_)))
 refine za7 (v:=.tuple #[.agg (Value.int .i64 (k:Int)::XL).toArray,.int .i64 0]) ?_ rfl ?_
 ·exact qbb rfl _ _ _ ⟨w.heap.size,0,none⟩ rfl rfl (run_loadVar_mid _ _ _ _ _ _ (rangeAt_whole (qae Hm.o (Value.int .i64 (k:Int)::XL) (by simp[Hb.o]))) Tryz.underlying36 rfl (by rw[zal,Hb.o];kernel_rfl))
 ·exact⟨rfl,below_setCells Hk.o (zad _) _ _⟩
theorem qi0 {w:World}{B L:Nat}{F:Nat→Prop}{es:List Bs}(h:LeM w B F L es){k b:Nat}(hk:es.length<k)(hk2:k≤1000000) :
  Calls Tryz.prog 25 #[.pointer (some ⟨L,0,none⟩),.int .i64 (k:Int),.func (.func 26) #[] #[.pointer (some ⟨b,0,none⟩)]] w fun e w'=>e=.returned (.tuple #[.agg (Value.int .i64 0::List.replicate 32 (Value.int .u8 0)).toArray,.int .i64 50])∧Below w.heap.size w w':=by
 obtain⟨W0,hW0⟩:∃ W0,w.alloc (.cells #[.int .i64 0,Value.int .u8 0,Value.int .u8 0,Value.int .u8 0,Value.int .u8 0,Value.int .u8 0,Value.int .u8 0,Value.int .u8 0,Value.int .u8 0,Value.int .u8 0,Value.int .u8 0,Value.int .u8 0,Value.int .u8 0,Value.int .u8 0,Value.int .u8 0,Value.int .u8 0,Value.int .u8 0,Value.int .u8 0,Value.int .u8 0,Value.int .u8 0,Value.int .u8 0,Value.int .u8 0,Value.int .u8 0,Value.int .u8 0,Value.int .u8 0,Value.int .u8 0,Value.int .u8 0,Value.int .u8 0,Value.int .u8 0,Value.int .u8 0,Value.int .u8 0,Value.int .u8 0,Value.int .u8 0] 36)=W0:=⟨_,rfl⟩;have He:W0.heap[w.heap.size]?=some (.cells (#[.int .i64 0,Value.int .u8 0,Value.int .u8 0,Value.int .u8 0,Value.int .u8 0,Value.int .u8 0,Value.int .u8 0,Value.int .u8 0,Value.int .u8 0,Value.int .u8 0,Value.int .u8 0,Value.int .u8 0,Value.int .u8 0,Value.int .u8 0,Value.int .u8 0,Value.int .u8 0,Value.int .u8 0,Value.int .u8 0,Value.int .u8 0,Value.int .u8 0,Value.int .u8 0,Value.int .u8 0,Value.int .u8 0,Value.int .u8 0,Value.int .u8 0,Value.int .u8 0,Value.int .u8 0,Value.int .u8 0,Value.int .u8 0,Value.int .u8 0,Value.int .u8 0,Value.int .u8 0,Value.int .u8 0]:Array Value) 36 (0,0)):=by rw[←hW0];exact zae w _
 obtain⟨W2,hW2⟩:∃ W2,W0.alloc (.cells #[.int .i64 0,Value.int .u8 0,Value.int .u8 0,Value.int .u8 0,Value.int .u8 0,Value.int .u8 0,Value.int .u8 0,Value.int .u8 0,Value.int .u8 0,Value.int .u8 0,Value.int .u8 0,Value.int .u8 0,Value.int .u8 0,Value.int .u8 0,Value.int .u8 0,Value.int .u8 0,Value.int .u8 0,Value.int .u8 0,Value.int .u8 0,Value.int .u8 0,Value.int .u8 0,Value.int .u8 0,Value.int .u8 0,Value.int .u8 0,Value.int .u8 0,Value.int .u8 0,Value.int .u8 0,Value.int .u8 0,Value.int .u8 0,Value.int .u8 0,Value.int .u8 0,Value.int .u8 0,Value.int .u8 0] 36)=W2:=⟨_,rfl⟩;have Hg:W2.heap[W0.heap.size]?=some (.cells (#[.int .i64 0,Value.int .u8 0,Value.int .u8 0,Value.int .u8 0,Value.int .u8 0,Value.int .u8 0,Value.int .u8 0,Value.int .u8 0,Value.int .u8 0,Value.int .u8 0,Value.int .u8 0,Value.int .u8 0,Value.int .u8 0,Value.int .u8 0,Value.int .u8 0,Value.int .u8 0,Value.int .u8 0,Value.int .u8 0,Value.int .u8 0,Value.int .u8 0,Value.int .u8 0,Value.int .u8 0,Value.int .u8 0,Value.int .u8 0,Value.int .u8 0,Value.int .u8 0,Value.int .u8 0,Value.int .u8 0,Value.int .u8 0,Value.int .u8 0,Value.int .u8 0,Value.int .u8 0,Value.int .u8 0]:Array Value) 36 (0,0)):=by rw[←hW2];exact zae W0 _
 have hE:(#[.int .i64 0,Value.int .u8 0,Value.int .u8 0,Value.int .u8 0,Value.int .u8 0,Value.int .u8 0,Value.int .u8 0,Value.int .u8 0,Value.int .u8 0,Value.int .u8 0,Value.int .u8 0,Value.int .u8 0,Value.int .u8 0,Value.int .u8 0,Value.int .u8 0,Value.int .u8 0,Value.int .u8 0,Value.int .u8 0,Value.int .u8 0,Value.int .u8 0,Value.int .u8 0,Value.int .u8 0,Value.int .u8 0,Value.int .u8 0,Value.int .u8 0,Value.int .u8 0,Value.int .u8 0,Value.int .u8 0,Value.int .u8 0,Value.int .u8 0,Value.int .u8 0,Value.int .u8 0,Value.int .u8 0]:Array Value)=(Value.int .i64 0::List.replicate 32 (Value.int .u8 0)).toArray:=by kernel_rfl
 rw[hE]at He Hg;have Hc:Below w.heap.size w W0:=by rw[←hW0];exact zB _ _
 have Ha:Below W0.heap.size W0 W2:=by rw[←hW2];exact zB _ _
 obtain⟨A2,c2,f0,hn2,hA2,_,hby⟩:=h.leaves;have f1:W0.cell? ⟨L,1,none⟩=some (.slice A2 es.length c2):=(Hc.cell (p:=⟨L,1,none⟩) h.lt).trans f0;obtain⟨n,hn⟩:∃ n,es.length=n:=⟨_,rfl⟩;rw[hn]at f1 hk;have Hj:=zH (rangeAt_whole Hg);have Hf:=zH ((Ha.block w.heap.size (zaa.1 He).1).trans He);have Hl:=zH (Hc.trans (Ha.mono Hc.size));have HT:=zH (show W2.there w.heap.size 0 33 from there_of_block Hf.o 0 (by simp));obtain⟨XL,hXL⟩:∃ x,(Value.int .i64 0::List.replicate 32 (Value.int .u8 0))=x:=⟨_,rfl⟩;have Hh:XL.length=33:=by rw[←hXL];simp
 have Hk:∀ v∈XL,v.oneCell'=true:=by
  rw[←hXL];intro v hv;rcases zaB.1 hv with rfl|h
  ·rfl
  ·rw[List.eq_of_mem_replicate h];rfl
 rw[hXL]at Hj Hf⊢;have Hi:=zH (show XL.toArray.size=33 by simp[Hh]);have Hb:=zH Hh;have Hm:=zH Hk;have k1:¬((k:Int)<0):=by omega
 have k2:((n:Int)<(k:Int)):=by omega
 have k3:(n<k):=by omega
 have Hn:=zH hW2;have Ho:w.heap.size<W0.heap.size:=by rw[←hW0];simp
 clear h f0 hn2 hA2 hby Hc Ha hXL Hh Hk hn He Hg hk hE hW2;go_enter Tryz.func25,Tryz.ntmps25
 go_upto_region 1 with fail
 clear hW0;go_upto_region 3 with fail
 rw[Hn.o];go_wp2_with (first
  | ((with_reducible show wpList _ _ _ (⟨some 20,_,_,_,_,_⟩::_) _ _);go_loud (refine wpList_load_mid rfl 36 (.tmp 8) rfl W0.heap.size 0 rfl XL _ Hj.o Tryz.underlying36 rfl (by rw[Hb.o];kernel_rfl) ?_))
  | ((with_reducible show wpList _ _ _ (⟨none,.store 36 _ _,_,_,_,_⟩::_) _ _);go_loud (refine wpList_store_mid rfl 36 (.tmp 6) (.tmp 20) rfl w.heap.size 0 XL.toArray rfl rfl (by rw[Hi.o];exact HT.o) (by rw[Hi.o];kernel_rfl) (all_oneCell_toArray Hm.o) ?_)))
 refine za7 (v:=.tuple #[.agg XL.toArray,.int .i64 50]) ?_ rfl ?_
 ·exact qbb rfl _ _ _ ⟨w.heap.size,0,none⟩ rfl rfl (run_loadVar_mid _ _ _ _ _ _ (rangeAt_whole (qae Hf.o XL (by simp))) Tryz.underlying36 rfl (by rw[Hb.o];kernel_rfl))
 ·exact⟨rfl,below_setCells Hl.o (zad _) _ _⟩
theorem qj0 {w:World}{L k:Nat}{XL:List Value}{er:Int}(hxl:XL.length=33)(hxo:∀ v∈XL,v.oneCell'=true)
  (HC:∀ W,Below w.heap.size w W→W.cell? ⟨w.heap.size,0,none⟩=some (.int .i64 (k:Int))→Calls Tryz.prog 25 #[.pointer (some ⟨L,0,none⟩),.int .i64 (k:Int),.func (.func 26) #[] #[.pointer (some ⟨w.heap.size,0,none⟩)]] W fun e w'=>e=.returned (.tuple #[.agg XL.toArray,.int .i64 er])∧Below W.heap.size W w') :
  Calls Tryz.prog 8 #[.pointer (some ⟨L,0,none⟩),.int .i64 (k:Int)] w fun e w'=>e=.returned (.tuple #[.agg XL.toArray,.int .i64 er])∧Below w.heap.size w w':=by
 obtain⟨W0,hW0⟩:∃ W0,(w.alloc (.cells #[.int .i64 (k:Int)] 3)).alloc (.cells #[.int .i64 0,Value.int .u8 0,Value.int .u8 0,Value.int .u8 0,Value.int .u8 0,Value.int .u8 0,Value.int .u8 0,Value.int .u8 0,Value.int .u8 0,Value.int .u8 0,Value.int .u8 0,Value.int .u8 0,Value.int .u8 0,Value.int .u8 0,Value.int .u8 0,Value.int .u8 0,Value.int .u8 0,Value.int .u8 0,Value.int .u8 0,Value.int .u8 0,Value.int .u8 0,Value.int .u8 0,Value.int .u8 0,Value.int .u8 0,Value.int .u8 0,Value.int .u8 0,Value.int .u8 0,Value.int .u8 0,Value.int .u8 0,Value.int .u8 0,Value.int .u8 0,Value.int .u8 0,Value.int .u8 0] 36)=W0:=⟨_,rfl⟩;have hE:(#[.int .i64 0,Value.int .u8 0,Value.int .u8 0,Value.int .u8 0,Value.int .u8 0,Value.int .u8 0,Value.int .u8 0,Value.int .u8 0,Value.int .u8 0,Value.int .u8 0,Value.int .u8 0,Value.int .u8 0,Value.int .u8 0,Value.int .u8 0,Value.int .u8 0,Value.int .u8 0,Value.int .u8 0,Value.int .u8 0,Value.int .u8 0,Value.int .u8 0,Value.int .u8 0,Value.int .u8 0,Value.int .u8 0,Value.int .u8 0,Value.int .u8 0,Value.int .u8 0,Value.int .u8 0,Value.int .u8 0,Value.int .u8 0,Value.int .u8 0,Value.int .u8 0,Value.int .u8 0,Value.int .u8 0]:Array Value)=(Value.int .i64 0::List.replicate 32 (Value.int .u8 0)).toArray:=by kernel_rfl
 have Hc:W0.heap[w.heap.size+1]?=some (.cells (#[.int .i64 0,Value.int .u8 0,Value.int .u8 0,Value.int .u8 0,Value.int .u8 0,Value.int .u8 0,Value.int .u8 0,Value.int .u8 0,Value.int .u8 0,Value.int .u8 0,Value.int .u8 0,Value.int .u8 0,Value.int .u8 0,Value.int .u8 0,Value.int .u8 0,Value.int .u8 0,Value.int .u8 0,Value.int .u8 0,Value.int .u8 0,Value.int .u8 0,Value.int .u8 0,Value.int .u8 0,Value.int .u8 0,Value.int .u8 0,Value.int .u8 0,Value.int .u8 0,Value.int .u8 0,Value.int .u8 0,Value.int .u8 0,Value.int .u8 0,Value.int .u8 0,Value.int .u8 0,Value.int .u8 0]:Array Value) 36 (0,0)):=by
  rw[←hW0];have:=zae (w.alloc (.cells #[.int .i64 (k:Int)] 3)) (.cells #[.int .i64 0,Value.int .u8 0,Value.int .u8 0,Value.int .u8 0,Value.int .u8 0,Value.int .u8 0,Value.int .u8 0,Value.int .u8 0,Value.int .u8 0,Value.int .u8 0,Value.int .u8 0,Value.int .u8 0,Value.int .u8 0,Value.int .u8 0,Value.int .u8 0,Value.int .u8 0,Value.int .u8 0,Value.int .u8 0,Value.int .u8 0,Value.int .u8 0,Value.int .u8 0,Value.int .u8 0,Value.int .u8 0,Value.int .u8 0,Value.int .u8 0,Value.int .u8 0,Value.int .u8 0,Value.int .u8 0,Value.int .u8 0,Value.int .u8 0,Value.int .u8 0,Value.int .u8 0,Value.int .u8 0] 36);simp only[za5]at this;exact this
 rw[hE]at Hc;have Hb:Below w.heap.size w W0:=by rw[←hW0];go_grown
 have Hi:W0.heap.size=w.heap.size+1+1:=by rw[←hW0];simp
 have hx:W0.cell? ⟨w.heap.size,0,none⟩=some (.int .i64 (k:Int)):=by
  have:W0.heap[w.heap.size]?=some (.cells #[.int .i64 (k:Int)] 3 (0,0)):=by
   rw[←hW0,zaW _ _ _ (by simp)];exact zae w _
  rw[zao _ _ _ _ _ _ this];rfl
 have Hk:=zH (HC W0 Hb hx);have Ho:=zH (HC W0.drew Hb.drew hx);have Hf:=zH Hb;have Hh:=zH Hc;have Hp:=zH Hi;have Hg:=zH (show XL.toArray.size=33 by simp[hxl]);have Ha:=zH hxl;have Hl:=zH hxo;clear Hb Hc Hi hxl hxo HC hE;go_enter Tryz.func8,Tryz.ntmps8
 go_upto_region 1 with fail
 clear hW0;go_wp2_with (first
  | (go_at_call 25;go_loud (refine Hk.o.mono ?_;rintro e w1 ⟨rfl,hb1⟩;have Hj:=zH (Hf.o.trans (hb1.mono Hf.o.size));have He:=(hb1.block (w.heap.size+1) (zaa.1 Hh.o).1).trans Hh.o;have Hn:=zH (show w1.there (w.heap.size+1) 0 33 from there_of_block He 0 (by simp));have Hm:=zH He;clear hb1 He))
  | ((with_reducible show wpList _ _ _ (⟨none,.store 36 _ _,_,_,_,_⟩::_) _ _);go_loud (refine wpList_store_mid rfl 36 (.tmp 4) (.tmp 10) rfl (w.heap.size+1) 0 XL.toArray rfl rfl (by rw[Hg.o];exact Hn.o) (by rw[Hg.o];kernel_rfl) (all_oneCell_toArray Hl.o) ?_)))
 refine za7 (v:=.tuple #[.agg XL.toArray,.int .i64 er]) ?_ rfl ?_
 ·exact qbb rfl _ _ _ ⟨w.heap.size+1,0,none⟩ rfl rfl (run_loadVar_mid _ _ _ _ _ _ (rangeAt_whole (qae Hm.o XL (by simp[Ha.o]))) Tryz.underlying36 rfl (by rw[Ha.o];kernel_rfl))
 ·exact⟨rfl,below_setCells Hj.o (by omega) _ _⟩
theorem qgX {w:World}{B L:Nat}{F:Nat→Prop}{es:List Bs}(h:LeM w B F L es){k:Nat}(hk:k≤es.length)(hkon:Kon w) :
  Calls Tryz.prog 8 #[.pointer (some ⟨L,0,none⟩),.int .i64 (k:Int)] w fun e w'=>e=.returned (.tuple #[.agg (Value.int .i64 (k:Int)::bv (mtH (lvs es k))).toArray,.int .i64 0])∧Below w.heap.size w w':=
 qj0 (by rw[zal,bv_len,qcD (qeZ es k)]) (fun v hv=>by
  rcases zaB.1 hv with rfl|h
  ·rfl
  ·exact qak _ v h) (fun W hb hx=>qhM (h.below hb) hk hx (hkon.below hkon.lt hb))
theorem qla {w:World}{B L:Nat}{F:Nat→Prop}{es:List Bs}(h:LeM w B F L es){k:Nat}(hk:es.length<k)(hk2:k≤1000000) :
  Calls Tryz.prog 8 #[.pointer (some ⟨L,0,none⟩),.int .i64 (k:Int)] w fun e w'=>e=.returned (.tuple #[.agg (Value.int .i64 0::List.replicate 32 (Value.int .u8 0)).toArray,.int .i64 50])∧Below w.heap.size w w':=
 qj0 (by simp) (fun v hv=>by
  rcases zaB.1 hv with rfl|h
  ·rfl
  ·rw[List.eq_of_mem_replicate h];rfl) (fun W hb _=>qi0 (h.below hb) hk hk2)
end Go.Proofs.YtfcknhbmeofniaaGreatDoor
set_option linter.all false
namespace Go.Proofs.YtfcknhbmeofniaaGreatDoor
open Go.RowKit BT
theorem Row.low {w:World}{B B':Nat}{e:TypeId}{size:Nat}{v:Value}{n:Nat}{xs:List Value}(h:Row w B e size v n xs)(hb:B'≤B):Row w B' e size v n xs:=by
 rcases h with h|h
 ·refine .inl ⟨h.1,?_⟩;rcases h.2 with h2|⟨g,cap,cur,a,b,c⟩
  ·exact .inl h2
  ·exact .inr ⟨g,cap,cur,a,zam hb b,c⟩
 ·exact .inr h
def PrfF (row:List Bs)(w:World)(e:Ending)(w':World):Prop:=
 ∃ A q c,e=.returned (.tuple #[.slice A q c,.int .i64 0])∧q=row.length∧Own w' w.heap.size 34 32 (.slice A q c) q (bv row.flatten)∧H32 row∧Below w.heap.size w w'
theorem PrfF.none {w:World}{e:Ending}(he:e=.returned (.tuple #[.slice none 0 0,.int .i64 0])):PrfF [] w e w:=⟨Option.none,0,0,he,rfl,Own.nil ..,(fun x hx=>by cases hx),zai _ _⟩
theorem PrfF.up {row:List Bs}{w w1 w2:World}{e:Ending}(hb:Below w.heap.size w w1)(h:PrfF row w1 e w2):PrfF row w e w2:=by
 obtain⟨A,q,c,h1,h2,h3,h4,h5⟩:=h;exact⟨A,q,c,h1,h2,⟨Row.low h3.row hb.size,fun b e=>⟨zam hb.size (h3.blk b e).1,(h3.blk b e).2⟩⟩,h4,hb.trans (h5.mono hb.size)⟩
theorem qle {w:World}{A:Option Addr}{k c m b:Nat}{row:List Bs}(hx:w.cell? ⟨b,0,none⟩=some (.int .i64 (m:Int)))(HC:Calls Tryz.prog 37 #[.slice A k c,.int .i64 (m:Int)] w (PrfF row w)) :
  Calls Tryz.prog 36 #[.slice A k c,.pointer (some ⟨b,0,none⟩)] w (PrfF row w):=by
 have Ha:=zH HC;clear HC;go_enter Tryz.func36,Tryz.ntmps36
 go_wp2_with (go_at_call 37;go_loud (refine Ha.o.mono ?_;rintro e w1 ⟨A1,q1,c1,rfl,hp⟩;have HP:=zH hp;clear hp))
 go_returns;exact⟨A1,q1,c1,rfl,HP.o⟩
theorem qlf {w:World}{B L:Nat}{F:Nat→Prop}{es:List Bs}(h:LeM w B F L es){k m b:Nat}{row:List Bs}(hk:k≤es.length)
  (HC:∀ A2 c2,k≤c2→By w A2 (lvs es k).flatten→Calls Tryz.prog 36 #[.slice A2 k c2,.pointer (some ⟨b,0,none⟩)] w (PrfF row w)) :
  Calls Tryz.prog 31 #[.pointer (some ⟨L,0,none⟩),.int .i64 (k:Int),.func (.func 36) #[] #[.pointer (some ⟨b,0,none⟩)]] w (PrfF row w):=by
 obtain⟨i0,hi0,hz0,hz1,hz2⟩:=zaY qhT;obtain⟨A2,c2,f1,hn2,hA2,_,hby⟩:=h.leaves;have hm:=h.many;have Ha:=zH (HC A2 c2 (by omega) (hby k hk));have Hb:=qho Tryz.underlying50 hi0 es.length c2 k (by omega) hA2;obtain⟨n,hn⟩:∃ n,es.length=n:=⟨_,rfl⟩;rw[hn]at f1 hk Hb;have k1:¬((k:Int)<0):=by omega
 have k2:¬((n:Int)<(k:Int)):=by omega
 have k3:¬(n<k):=by omega
 clear h hn2 hA2 hby hm hn hi0 hz0 hz1 hz2 hk HC;go_enter Tryz.func31,Tryz.ntmps31
 go_wp2_with (go_at_call 36;go_loud (refine Ha.o.mono ?_;rintro e w1 ⟨A1,q1,c1,rfl,hp⟩;have HP:=zH hp;clear hp))
 go_returns;exact⟨A1,q1,c1,rfl,HP.o⟩
theorem qlg {w:World}{L k m:Nat}{row:List Bs}
  (HC:∀ W,Below w.heap.size w W→W.cell? ⟨w.heap.size,0,none⟩=some (.int .i64 (m:Int))→Calls Tryz.prog 31 #[.pointer (some ⟨L,0,none⟩),.int .i64 (k:Int),.func (.func 36) #[] #[.pointer (some ⟨w.heap.size,0,none⟩)]] W (PrfF row W)) :
  Calls Tryz.prog 16 #[.pointer (some ⟨L,0,none⟩),.int .i64 (m:Int),.int .i64 (k:Int)] w (PrfF row w):=by
 have Ha:Below w.heap.size w (w.alloc (.cells #[.int .i64 (m:Int)] 3)):=zB _ _;have Hb:=zH ((HC _ Ha (by rw[zao _ _ _ _ _ _ (zae w (.cells #[.int .i64 (m:Int)] 3))];rfl)).mono fun e w' h=>h.up Ha);clear HC Ha;go_enter Tryz.func16,Tryz.ntmps16
 go_wp2_with (go_at_call 31;go_loud (refine Hb.o.mono ?_;rintro e w1 ⟨A1,q1,c1,rfl,hp⟩;have HP:=zH hp;clear hp))
 go_returns;exact⟨A1,q1,c1,rfl,HP.o⟩
theorem qkb {w:World}{B L:Nat}{F:Nat→Prop}{es:List Bs}(h:LeM w B F L es){k m:Nat}(hk:k≤es.length)(h200:k≤200)(hm:m<k)(hkon:Kon w) :
  Calls Tryz.prog 16 #[.pointer (some ⟨L,0,none⟩),.int .i64 (m:Int),.int .i64 (k:Int)] w (PrfF (wayP empH nodeH (lvs es k) m) w):=
 qlg fun W hb hx=>qlf (m:=m) (h.below hb) hk fun A2 c2 hc hy=>qle hx (qj2 hy (qeZ es k) (qkd es hk) hc (hkon.below hkon.lt hb) h200 hm)
end Go.Proofs.YtfcknhbmeofniaaGreatDoor
set_option linter.all false
namespace Go.Proofs.YtfcknhbmeofniaaGreatDoor
open Go.RowKit BT
theorem ql1:Tryz.prog.plainKey 5=true:=by kernel_rfl
theorem qlL:Tryz.prog.cellsOf 5=1:=by kernel_rfl
theorem qi4:Tryz.prog.cellsOf 34=32:=by kernel_rfl
theorem qiw (d:Nat)(a b:Bs)(W:World):∀ is:List Nat,(∀ i∈is,i<a.length∧i<b.length)→
  (Op.eqItems (d+1) 5 1 (bv a).toArray (bv b).toArray is).run Tryz.prog W=.ok (is.all fun i=>decide (a.getD i 0=b.getD i 0)) W
 | [],_=>by simp[Op.eqItems]
 | i::is,h=>by
  obtain⟨h1,h2⟩:=h i (by simp);have ea:(bv a).toArray[i*1]?=some (.int .u8 ((a.getD i 0).toNat:Int)):=by
   rw[zcA,zbg,zaq,zab h1];exact qfr (zab h1)
  have eb:(bv b).toArray[i*1]?=some (.int .u8 ((b.getD i 0).toNat:Int)):=by
   rw[zcA,zbg,zaq,zab h2];exact qfr (zab h2)
  have hi:=qiw d a b W is (fun j hj=>h j (by simp[hj]));simp only[Op.eqItems,zbw];rw[run_part_plain W ql1 ea];simp only[zaO];rw[run_part_plain W ql1 eb];simp only[zaO];rw[run_equalIn_int W d _ _ _ _ _ Tryz.underlying5];simp only[zaO,List.all_cons];by_cases he:a.getD i 0=b.getD i 0
  ·rw[he];simp[hi]
  ·have Ha:¬(((a.getD i 0).toNat:Int)=((b.getD i 0).toNat:Int)):=fun h=>he (UInt8.toNat_inj.1 (by omega));have e1:((((a.getD i 0).toNat:Int))==((b.getD i 0).toNat:Int))=false:=zaN.2 Ha;rw[e1,zan he];simp
theorem qmC {a b:Bs}{n:Nat}(ha:a.length=n)(hb:b.length=n):((List.range n).all fun i=>decide (a.getD i 0=b.getD i 0))=decide (a=b):=by
 rw[Bool.eq_iff_iff];simp only[zbq,za9,zbf];constructor
 ·intro h;refine List.ext_getElem (by omega) fun i h1 h2=>?_;have:=h i (by omega);rw[zaq,zaq,zab h1,zab h2]at this;exact this
 ·rintro rfl i _;rfl
theorem qir (d:Nat){a b:Bs}(ha:a.length=32)(hb:b.length=32)(W:World):(Op.equalIn (d+1+1) 34 (.agg (bv a).toArray) (.agg (bv b).toArray)).run Tryz.prog W=.ok (decide (a=b)) W:=by
 obtain⟨i0,hi0⟩:∃ i,Tryz.prog.info? 5=some i:=Option.isSome_iff_exists.1 (by kernel_rfl);rw[run_equalIn_array W (d+1) _ _ Tryz.underlying34 hi0,qlL,qiw d a b W _ (fun i hi=>by
  have:=za9.1 hi;omega),qmC ha hb]
theorem ql4 {a b:Bs}(ha:a.length=32)(hb:b.length=32)(W:World):(Op.equalIn 10000 34 (.agg (bv a).toArray) (.agg (bv b).toArray)).run Tryz.prog W=.ok (decide (a=b)) W:=qir 9998 ha hb W
theorem qk9 (W:World):(isAgg 34).run Tryz.prog W=.ok true W:=by
 simp[isAgg,zaU Tryz.underlying34]
theorem qhQ:Tryz.prog.underlying 36=some (.struct (Tryz.prog.fieldsOf 36)):=by kernel_rfl
theorem qi5:Tryz.prog.stoodInHeld 36=false:=by kernel_rfl
theorem qmd:Tryz.prog.plainKey 3=true:=by kernel_rfl
theorem qgY (x:Int){l:Bs}(hl:l.length=32)(W:World):(part 34 (Value.int .i64 x::bv l).toArray 1).run Tryz.prog W=.ok (.agg (bv l).toArray) W:=by
 obtain⟨i0,hi0⟩:∃ i,Tryz.prog.info? 34=some i:=Option.isSome_iff_exists.1 (by kernel_rfl);have h2:(bv l).length=32:=by rw[bv_len,hl]
 generalize bv l=L at *;have h3:(Value.int .i64 x::L).toArray.extract 1 (1+32)=L.toArray:=by
  rw[List.extract_toArray,List.extract_eq_take_drop,zbI,zbS,zaL (by omega)]
 unfold part;simp only[zbw,qk9,zaO,zb5];rw[run_sizeOf W hi0,qi4];simp only[zaO,zbK];rw[h3]
theorem qgZ (x:Int)(L:List Value)(W:World):(part 3 (Value.int .i64 x::L).toArray 0).run Tryz.prog W=.ok (.int .i64 x) W:=run_part_plain W qmd (by simp)
theorem qlb:∃ f g,(Tryz.prog.fieldsOf 36).toList=[f,g]∧f.name≠"_"∧f.type=3∧f.offset=0∧g.name≠"_"∧g.type=34∧g.offset=1:=by
 simp only[Program.fieldsOf,Tryz.underlying36];exact⟨_,_,rfl,by decide,rfl,rfl,by decide,rfl,rfl⟩
theorem qk1 (d:Nat)(k m:Int){a b:Bs}(ha:a.length=32)(hb:b.length=32)(W:World):(Op.equalIn (d+1+1+1) 36 (.agg (Value.int .i64 k::bv a).toArray) (.agg (Value.int .i64 m::bv b).toArray)).run Tryz.prog W=.ok (decide (k=m∧a=b)) W:=by
 rw[run_equalIn_agg W (d+1+1) _ _ _ qhQ qi5];obtain⟨f,g,hL,f1,f2,f3,g1,g2,g3⟩:=qlb;rw[hL];have hE:=qir d ha hb W;have h1:=qgY k ha W;have h2:=qgY m hb W;have h3:=qgZ k (bv a) W;have h4:=qgZ m (bv b) W;generalize (Value.int .i64 k::bv a).toArray=X at *;generalize (Value.int .i64 m::bv b).toArray=Y at *;generalize (bv a).toArray=A at *;generalize (bv b).toArray=B at *;simp only[Op.eqFields,zax f1,zax g1,f2,f3,g2,g3,zbw];rw[h3];simp only[zaO];rw[h4];simp only[zaO];rw[run_equalIn_int W (d+1) _ _ _ _ _ Tryz.underlying3];simp only[zaO];by_cases he:k=m
 ·subst he;simp only[beq_self_eq_true,Bool.not_true,zbY,zcP,zbw];rw[h1,zaO,h2,zaO,hE,zaO];by_cases e2:a=b
  ·simp[e2]
  ·simp[e2]
 ·rw[zaN.2 he];simp[he]
theorem ql5 (k m:Int){a b:Bs}(ha:a.length=32)(hb:b.length=32)(W:World):(Op.equalIn 10000 36 (.agg (Value.int .i64 k::bv a).toArray) (.agg (Value.int .i64 m::bv b).toArray)).run Tryz.prog W=.ok (decide (k=m∧a=b)) W:=qk1 9997 k m ha hb W
end Go.Proofs.YtfcknhbmeofniaaGreatDoor
