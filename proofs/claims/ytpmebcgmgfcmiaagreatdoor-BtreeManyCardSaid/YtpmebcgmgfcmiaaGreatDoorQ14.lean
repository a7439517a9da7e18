/- Texts SlC SlD SrC NdC SlE. -/
import Derived.Test.YtpmebcgmgfcmiaaGreatDoorQ13
import Derived.Shelf.Spec.SlicesInsert
set_option linter.all false
set_option maxRecDepth 100000
set_option maxHeartbeats 16000000
namespace Go.Proofs.YtpmebcgmgfcmiaaGreatDoor
open Go.RowKit BT Go.Lib
variable {w:World}{n B C cc g i:Nat}{xs:List Value}{u:Value}
structure Upd (w w':World) (v v':Value):Prop where
 touch:Touch (fun b=>v.ownBlock=some b) w w'
 own:∀ b,v'.ownBlock=some b→v.ownBlock=some b∨(w.heap.size≤b∧b<w'.heap.size)
def InF (B n:Nat)(A:Option Addr)(cap:Nat)(ys:List Value)(w:World)(e:Ending)(w':World):Prop:=
 ∃ A' c',e=.returned (.slice A' (n+1) c')∧Own w' B 34 1 (.slice A' (n+1) c') (n+1) ys∧Upd w w' (.slice A n cap) (.slice A' (n+1) c')
theorem Row.nil_cap {base:Nat}{e:TypeId}{size cap:Nat}(h:Row w base e size (.slice none n cap) n xs):n=0∧cap=0:=by
 rcases h with h|⟨A0,e,rfl,_⟩
 ·rcases h.2 with⟨e,h0⟩|⟨g,cap',cur,e,_,_,h1,_⟩
  ·cases e;exact⟨rfl,rfl⟩
  ·cases e
 ·cases e;exact⟨rfl,rfl⟩
theorem qhi {cap:Nat}{A:Option Addr}(h:Own w B 34 1 (.slice A n cap) n xs)(hl:n+1≤1048576)(hC:w.heap[C]?=some (.cells #[u] 34 (0,0)))(hu:u.oneCell'=true)(hB:B≤w.heap.size) :
  Calls Tryz.prog 73 #[.slice A n cap,.int .i64 n,.slice (some ⟨C,0,none⟩) 1 cc] w (InF B n A cap (xs++[u]) w):=by
 obtain⟨i0,hi0,hz0,hz1,hz2⟩:=zaT qbP;obtain⟨v1,hv1⟩:∃ v,∀ W,(Instr.slice 103 (.slice A n cap) (some (.int .i64 (n:Int))) none none).run Tryz.prog W=.ok v W:=by
  cases A with
  | none=>
   obtain⟨h1,h2⟩:=Row.nil_cap h.row;subst h1 h2;exact⟨.slice none 0 0,fun W=>by simp[Instr.slice,Instr.sliceBounds,Instr.sliceBound,asIntOf,zaM Tryz.underlying103,sizeOf,typeInfo,hi0,hz1,go_sem]⟩
  | some ad=>
   rcases h.row with hr|⟨A0,e,hn0,hx0⟩
   ·rcases hr.2 with⟨e,_⟩|⟨g,cap',cur,e,_,_,hnc,_⟩
    ·cases e
    ·cases e;obtain⟨a,_,r⟩:=qam (P:=Tryz.prog) Tryz.underlying103 hi0 hz1 g 0 n cap n (zac _) hnc;exact⟨_,r⟩
   ·cases e;exact⟨.slice (some ad) 0 0,fun W=>by simp[Instr.slice,Instr.sliceBounds,Instr.sliceBound,asIntOf,zaM Tryz.underlying103,sizeOf,typeInfo,hi0,hz1,go_sem]⟩
 have H:=zH h.row;have HB:=zH h.blk;have HS:=zH (show Src w 1 (some ⟨C,0,none⟩) 1 [u]from qaE hC rfl);have HU:=zH (show ∀ x∈[u],x.oneCell'=true by simpa using hu);have t0:((n:Int)==(n:Int))=true:=by simp
 clear h hC hu;go_enter Tryz.func73,Tryz.ntmps73
 go_wp2_with (at_builtin;refine qbg rfl (.tmp 23) (.tmp 24) 103 rfl B 34 i0 _ 1 24 Tryz.underlying103 hi0 hz0 hz1 hz2 rfl (by decide) (.slice A n cap) n xs rfl H.o (some ⟨C,0,none⟩) 1 cc [u] rfl HS.o HU.o (by unfold maxLen;omega) (by omega) hB ?_;intro A5 c5 w5 q1 q2 q3;have Q1:=zH q1;have Q2:=zH q2;have Q3:=zH q3;clear q1 q2 q3)
 go_ret;refine⟨A5,c5,rfl,⟨Q1.o,fun b e=>?_⟩,Touch.of_grown Q2.o (fun b e=>e),Q3.o⟩;rcases Q3.o b e with h1|h1
 ·have:=HB.o b h1;have:=Q2.o.size;omega
 ·omega
theorem qbt (b o j:Nat):(Addr.mk b o none).add j=⟨b,o+j,none⟩:=Addr.add_at b o j
theorem qfs {cap:Nat}(h:w.ownsRow B 34 1 (.slice (some ⟨g,0,none⟩) n cap) n xs)(h1:∀ x∈xs,x.oneCell'=true)(hi:i<n)(hroom:n+1≤cap)(hl:n+1≤1048576)(hC:w.heap[C]?=some (.cells #[u] 34 (0,0)))(hu:u.oneCell'=true)(hCg:C≠g) :
  Calls Tryz.prog 73 #[.slice (some ⟨g,0,none⟩) n cap,.int .i64 i,.slice (some ⟨C,0,none⟩) 1 cc] w (InF B n (some ⟨g,0,none⟩) cap (xs.take i++[u]++xs.drop i) w):=by
 obtain⟨i0,hi0,hz0,hz1,hz2⟩:=zaT qbP;obtain⟨hnc,hcm,hxl,hBg,hgl,hcell,cur,hcur,hcs,htk⟩:=own_cells h;have Hq:(Tryz.prog.info? 34).map (·.size)=some 1:=by rw[hi0];simp[hz1]
 have Hy:C<w.heap.size:=(zab.1 hC).1;have Hc:cur.size=cap:=by rw[hcs,zbG]
 obtain⟨j,hj⟩:∃ j,i+1=j:=⟨_,rfl⟩;obtain⟨N,hN⟩:∃ N,n+1=N:=⟨_,rfl⟩;have HB:∀ lb cb,(callFunc 91 #[.slice (some ⟨C,0,none⟩) 1 cc,.slice (some ⟨g,j,none⟩) lb cb]).run Tryz.prog w=.ok (.value (.bool false)) w:=fun lb cb=>by
  rw[run_callFunc_extern Tryz.func91 (by kernel_rfl) (by kernel_rfl) (by kernel_rfl) (e:=Extern.SlicesOverlaps.overlaps #[103,103] #[4]) (by kernel_rfl),
   Lib.run_overlaps_apart w 103 4 34 Tryz.underlying103 1 (fun w=>by simp[Go.sizeOf,typeInfo,hi0,hz1]) ⟨C,0,none⟩ ⟨g,j,none⟩ 1 cc lb cb hCg 34 34 1 cap (by simp[World.shape?,hC]) (by simp[World.shape?,hcur,Hc]) (by omega) (by simp[World.frozen?,hC]) (by simp[World.frozen?,hC])]
  rfl
 have Hh:∀ k,k<N→(w.cell? ⟨g,k,none⟩).isSome=true:=fun k hk=>by
  rw[zan w g k _ _ _ hcur,zbq (by omega)];rfl
 have Ho:∀ k,w.frozen? ⟨g,k,none⟩=false:=fun k=>zaQ _ _ _ _ _ hcur;have Hn:(xs.drop i).length=n-i:=by rw[zap];omega
 have Hb:∀ ty dc sc,(Builtin.copy_ #[103,103] ty #[.slice (some ⟨g,j,none⟩) (N-j) dc,.slice (some ⟨g,i,none⟩) (N-i) sc]).run Tryz.prog w.drew=.ok (goInt (xs.drop i).length) (w.drew.setCells g j (xs.drop i)):=fun ty dc sc=>
  run_copy_cells w.drew _ _ ty 34 g j (N-j) dc ⟨g,i,none⟩ (N-i) sc (xs.drop i) Tryz.underlying103 Hq (by rw[Hn];simp only[zcC];split<;>omega)
   (fun j v hj=>by rw[qbt];exact hcell (i+j) v (by rwa [zaK]at hj))
   (fun j hj=>Hh _ (by omega)) (fun j hj=>Ho _) (fun v hv=>h1 v (zaU hv))
 obtain⟨W1,hW1⟩:∃ W1,W1=w.drew.setCells g j (xs.drop i):=⟨_,rfl⟩;have Ha:W1.heap[g]?=some (.cells (cur.toList.take j++xs.drop i++cur.toList.drop (j+(xs.drop i).length)).toArray 34 (0,0)):=by
  rw[hW1];exact heap_setCells (xs.drop i) j w.drew cur hcur (by omega)
 have Hl:W1.heap[C]?=some (.cells #[u] 34 (0,0)):=by
  rw[hW1];exact(World.heap_setCells_other w.drew g j (xs.drop i) Hy hCg).trans hC
 have Hm:Touch (fun b=>b=g) w W1:=by
  rw[hW1];exact(Touch.refl _ w).drew.trans (qau (F:=fun b=>b=g) (g:=g) rfl _ _)
 rw[←hW1]at Hb;have Hi:(cur.toList.take j++xs.drop i++cur.toList.drop (j+(xs.drop i).length)).toArray.size=cap:=by
  simp only[zaz,zad,zag,zap,za1];omega
 have Hf:∀ ty dc,(Builtin.copy_ #[103,103] ty #[.slice (some ⟨g,i,none⟩) (N-i) dc,.slice (some ⟨C,0,none⟩) 1 cc]).run Tryz.prog W1=.ok (goInt ([u]:List Value).length) (W1.setCells g i [u]):=fun ty dc=>
  run_copy_cells W1 _ _ ty 34 g i (N-i) dc ⟨C,0,none⟩ 1 cc [u] Tryz.underlying103 Hq (by simp only[zao,zaZ,zcC];split<;>omega)
   (fun j v hj=>by
    rw[qbt,zan W1 C _ _ _ _ Hl]
    match j,hj with
    | 0,hj=>simpa using hj
    | j+1,hj=>simp at hj)
   (fun j hj=>by rw[zan W1 g _ _ _ _ Ha,zbq (by simp at hj;omega)];rfl) (fun j hj=>zaQ _ _ _ _ _ Ha) (fun v hv=>by simp at hv;subst hv;exact hu)
 have Hg:((cur.toList.take j++xs.drop i++cur.toList.drop (j+(xs.drop i).length)).toArray.toList.take i++[u]++(cur.toList.take j++xs.drop i++cur.toList.drop (j+(xs.drop i).length)).toArray.toList.drop (i+[u].length)).toArray.toList.take (N*1)=xs.take i++[u]++xs.drop i:=by
  have hx:cur.toList.take n=xs:=by rw[zbG]at htk;exact htk
  have HC:cur.toList.take i=xs.take i:=by rw[←hx,zbY,zbE (by omega)]
  have l0:cur.toList.length=cap:=by rw[za1,Hc]
  have l1:(cur.toList.take j).length=j:=by rw[zag];omega
  have e1:(cur.toList.take j++xs.drop i++cur.toList.drop (j+(xs.drop i).length)).take i=xs.take i:=by
   rw[zaj,zcE (by omega),zbY,zbE (by omega),HC]
  have e2:(cur.toList.take j++xs.drop i++cur.toList.drop (j+(xs.drop i).length)).drop (i+[u].length)=xs.drop i++cur.toList.drop (j+(xs.drop i).length):=by
   rw[zaj,show i+[u].length=j by simp;omega,zbT l1]
  simp only[zbW];rw[e1,e2,zbG,←zaj,za8];simp only[zad,zag,zap,zao,zaZ];omega
 obtain⟨a2,b2,r2⟩:=qam (P:=Tryz.prog) Tryz.underlying103 hi0 hz1 g 0 N cap j (by omega) (by omega);obtain⟨a3,b3,r3⟩:=qam (P:=Tryz.prog) Tryz.underlying103 hi0 hz1 g 0 N cap i (by omega) (by omega);obtain⟨a4,b4,r4⟩:=qam (P:=Tryz.prog) Tryz.underlying103 hi0 hz1 g 0 n cap i (by omega) hnc;obtain rfl:a2=⟨g,j,none⟩:=by rw[b2 (by omega)];congr 1;omega
 obtain rfl:a3=⟨g,i,none⟩:=by rw[b3 (by omega)];congr 1;omega
 have e1:IntKind.i64.wrap ((i:Int)+1)=(j:Int):=by rw[zaJ _ (by omega)];omega
 have e2:IntKind.i64.wrap ((n:Int)+1)=(N:Int):=by rw[zaJ _ (by omega)];omega
 have t0:((i:Int)==(n:Int))=false:=by rw[zaI];omega
 have t1:decide ((cap:Int)<(N:Int))=false:=zal (by omega);have t2:decide (cap<N)=false:=zal (by omega);have HD:N≤cap:=by omega
 have Hk:=zH Ha;have Hx:=zH Hm;have Hv:=zH Hb;have Hw:=zH Hf;have Hj:=zH Hg;have He:=zH Hi;have Hr:=zH hj;have Hu:=zH hN;have Hs:=zH hi;clear hW1 Ha Hl Hm Hb Hf Hh Ho hcell hC hcur htk hcs Hc h h1 Hi Hn b2 b3 b4 Hg hxl hj hN;go_enter Tryz.func73,Tryz.ntmps73
 go_wp2_with (simp only[HB])
 refine wp_region_held_drew (S:=fun _=>True) (by kernel_rfl) trivial (fun hHeld=>?_);refine zV 0 69 (.slice (some ⟨g,0,none⟩) N cap) ?_;try simp only[zS]
 refine zV 1 70 (.int .i64 (i:Int)) ?_;try simp only[zS]
 refine zV 2 71 (.int .i64 1) ?_;try simp only[zS]
 refine zV 3 72 (.int .i64 (j:Int)) ?_;try simp only[zS]
 refine zV 4 73 (.slice (some ⟨g,j,none⟩) (N-j) (cap-j)) ?_;try simp only[zS]
 refine zV 5 74 (.slice (some ⟨g,0,none⟩) N cap) ?_;try simp only[zS]
 refine zV 6 75 (.int .i64 (i:Int)) ?_;try simp only[zS]
 refine zV 7 76 (.slice (some ⟨g,i,none⟩) (N-i) (cap-i)) ?_;try simp only[zS]
 refine wpAnyH_ready (rs:=[8]) (by kernel_rfl) (by simp) ?_;refine AllReadyH.cons rfl (fun K hK=>?_) AllReadyH.nil;refine step_copy_runI rfl _ _ 103 103 rfl (.slice (some ⟨g,j,none⟩) (N-j) (cap-j)) (.slice (some ⟨g,i,none⟩) (N-i) (cap-i)) rfl rfl (Hv.o _ _ _) ?_;refine hK.out _ _ trivial (fun hHeld2=>?_);clear hK K;try simp only[zS]
 refine wpAnyH_done (by kernel_rfl) ?_ _;go_wp2;rw[Hw.o];go_wp2;go_ret;have HE:=Hr.o;have Hp:=Hu.o;have HF:=Hs.o;have HA:g<W1.heap.size:=(zab.1 Hk.o).1;have Ht:=heap_setCells [u] i W1 _ Hk.o (by rw[He.o];simp;omega);have Hz:Touch (fun b=>b=g) w (W1.setCells g i [u]):=Hx.o.trans (qau (F:=fun b=>b=g) (g:=g) rfl _ _);refine⟨some ⟨g,0,none⟩,cap,(by rw[Hp];rfl),Own.of_own (qaR Ht hBg (by omega) hcm ?_ ?_),Hz.mono (fun b _ hb=>by rw[hb];rfl),fun b e=>.inl e⟩
 ·have hz:=He.o;simp only[zaz,zad,zag,zap,zao,zaZ]at hz⊢;omega
 ·rw[Hp];have hf:=Hj.o;simpa using hf
theorem qgA {cap:Nat}(h:w.ownsRow B 34 1 (.slice (some ⟨g,0,none⟩) n cap) n xs)(h1:∀ x∈xs,x.oneCell'=true)(hi:i<n)(hroom:cap<n+1)(hl:n+1≤1048576)(hC:w.heap[C]?=some (.cells #[u] 34 (0,0)))(hu:u.oneCell'=true)(hB:B≤w.heap.size) :
  Calls Tryz.prog 73 #[.slice (some ⟨g,0,none⟩) n cap,.int .i64 i,.slice (some ⟨C,0,none⟩) 1 cc] w (InF B n (some ⟨g,0,none⟩) cap (xs.take i++[u]++xs.drop i) w):=by
 obtain⟨i0,hi0,hz0,hz1,hz2⟩:=zaT qbP;obtain⟨hnc,hcm,hxl,hBg,hgl,hcell,cur,hcur,hcs,htk⟩:=own_cells h;have Hx:(Tryz.prog.info? 34).map (·.size)=some 1:=by rw[hi0];simp[hz1]
 have HF:C<w.heap.size:=(zab.1 hC).1;obtain⟨j,hj⟩:∃ j,i+1=j:=⟨_,rfl⟩;obtain⟨N,hN⟩:∃ N,n+1=N:=⟨_,rfl⟩;obtain⟨q,hq⟩:∃ q,N-i=q:=⟨_,rfl⟩;obtain⟨R,hR⟩:∃ R,w.heap.size=R:=⟨_,rfl⟩;obtain⟨G,hG⟩:∃ G,grownCap w (i+q) cap 34=G:=⟨_,rfl⟩;have Hh:i+q=N:=by omega
 have Hn:N≤G:=by rw[←hG,←Hh];exact grownCap_ge w _ _ _
 have Hr:G≤maxLen:=by rw[←hG];exact zc7 w _ _ _ (by unfold maxLen;omega)
 have Ho:(xs.drop i).length=n-i:=by rw[zap];omega
 have Hk:(xs.take i).length=i:=by rw[zag];omega
 have He:(Builtin.firstCells i0.size i (.slice (some ⟨g,0,none⟩) i cap)).run Tryz.prog w.drew=.ok (xs.take i).toArray w.drew:=by
  rw[hz1];exact run_firstCells_some w.drew 1 i ⟨g,0,none⟩ i cap (xs.take i) (by rw[Hk,zbG]) (fun k v hk=>by
   rw[qbt,zaO];rw[zaV]at hk;split at hk
   ·exact hcell k v hk
   ·cases hk)
 obtain⟨ROW,hROW⟩:∃ ROW:Array Value,(xs.take i).toArray++Builtin.zeroCells (Value.slice none 0 0).cells q++Builtin.zeroCells (Value.slice none 0 0).cells (G-(i+q))=ROW:=⟨_,rfl⟩;have HG:ROW.size=G:=by
  rw[←hROW,zcy,zcy,zaz,Hk,zcv,zcv];simp[Value.cells];omega
 obtain⟨W1,hW1⟩:∃ W1,w.drew.alloc (.cells ROW 34)=W1:=⟨_,rfl⟩;have Hw:∀ ty,(Builtin.append_ #[103,3] ty #[.slice (some ⟨g,0,none⟩) i cap,.int .i64 (q:Int)]).run Tryz.prog w=.ok (.slice (some ⟨R,0,none⟩) N G) W1:=fun ty=>by
  have h:=Lib.run_append_grow_zeros w 103 3 ty 34 i0 _ .i64 .i64 Tryz.underlying103 Tryz.underlying3 hi0 hz0 (some ⟨g,0,none⟩) i cap (xs.take i) He q (by omega) (by omega) (by omega) (by omega) (by rw[hz2];omega) (by rw[hz2,Hh];exact growslice_fits (by omega) (by omega));rw[hG,hR,hROW,hW1,Hh]at h;exact h
 have Hi:W1.heap[R]?=some (.cells ROW 34 (0,0)):=by rw[←hW1,←hR];exact zaf w.drew _
 have Hg:Below w.heap.size w W1:=by rw[←hW1];exact(zai _ _).drew.alloc (zac _) _
 have HI:W1.heap.size=R+1:=by rw[←hW1,←hR];simp
 have Hq:W1.heap[C]?=some (.cells #[u] 34 (0,0)):=(Hg.block C HF).trans hC;have Hu:W1.heap[g]?=some (.cells cur 34 (0,0)):=(Hg.block g hgl).trans hcur;have HH:g≠R:=by omega
 have HJ:C≠R:=by omega
 have Ha:∀ ty dc,(Builtin.copy_ #[103,103] ty #[.slice (some ⟨R,i,none⟩) (N-i) dc,.slice (some ⟨C,0,none⟩) 1 cc]).run Tryz.prog W1=.ok (goInt ([u]:List Value).length) (W1.setCells R i [u]):=fun ty dc=>
  run_copy_cells W1 _ _ ty 34 R i (N-i) dc ⟨C,0,none⟩ 1 cc [u] Tryz.underlying103 Hx (by simp only[zao,zaZ,zcC];split<;>omega)
   (fun j v hj=>by
    rw[qbt,zan W1 C _ _ _ _ Hq]
    match j,hj with
    | 0,hj=>simpa using hj
    | j+1,hj=>simp at hj)
   (fun j hj=>by rw[zan W1 R _ _ _ _ Hi,zbq (by simp at hj;omega)];rfl) (fun j hj=>zaQ _ _ _ _ _ Hi) (fun v hv=>by simp at hv;subst hv;exact hu)
 obtain⟨W2,hW2⟩:∃ W2,W1.setCells R i [u]=W2:=⟨_,rfl⟩;have Hj:W2.heap[R]?=some (.cells (ROW.toList.take i++[u]++ROW.toList.drop (i+[u].length)).toArray 34 (0,0)):=by rw[←hW2];exact heap_setCells [u] i W1 ROW Hi (by simp;omega)
 have Hv:W2.heap[g]?=some (.cells cur 34 (0,0)):=by rw[←hW2];exact(World.heap_setCells_other W1 R i [u] (by omega) HH).trans Hu
 have Hs:Below w.heap.size w W2:=by rw[←hW2];exact below_setCells Hg (by omega) _ _
 rw[hW2]at Ha;have Hf:(ROW.toList.take i++[u]++ROW.toList.drop (i+[u].length)).toArray.size=G:=by
  simp only[zaz,zad,zag,zap,za1,zao,zaZ];omega
 have Hb:∀ ty dc sc,(Builtin.copy_ #[103,103] ty #[.slice (some ⟨R,j,none⟩) (N-j) dc,.slice (some ⟨g,i,none⟩) (n-i) sc]).run Tryz.prog W2.drew=.ok (goInt (xs.drop i).length) (W2.drew.setCells R j (xs.drop i)):=fun ty dc sc=>
  run_copy_cells W2.drew _ _ ty 34 R j (N-j) dc ⟨g,i,none⟩ (n-i) sc (xs.drop i) Tryz.underlying103 Hx (by rw[Ho];simp only[zcC];split<;>omega)
   (fun k v hk=>by
    rw[qbt];have h2:=hcell (i+k) v (by rwa [zaK]at hk);rw[zan w g _ _ _ _ hcur]at h2;rw[zan W2.drew g _ _ _ _ Hv];exact h2)
   (fun k hk=>by rw[zan W2.drew R _ _ _ _ Hj,zbq (by omega)];rfl) (fun k hk=>zaQ W2.drew _ _ _ _ Hj) (fun v hv=>h1 v (zaU hv))
 obtain⟨W3,hW3⟩:∃ W3,W2.drew.setCells R j (xs.drop i)=W3:=⟨_,rfl⟩;have Hp:W3.heap[R]?=some (.cells ((ROW.toList.take i++[u]++ROW.toList.drop (i+[u].length)).toArray.toList.take j++xs.drop i++(ROW.toList.take i++[u]++ROW.toList.drop (i+[u].length)).toArray.toList.drop (j+(xs.drop i).length)).toArray 34 (0,0)):=by rw[←hW3];exact heap_setCells (xs.drop i) j W2.drew _ Hj (by omega)
 have Ht:Below w.heap.size w W3:=by rw[←hW3];exact below_setCells Hs.drew (by omega) _ _
 rw[hW3]at Hb;have Hc:((ROW.toList.take i++[u]++ROW.toList.drop (i+[u].length)).toArray.toList.take j++xs.drop i++(ROW.toList.take i++[u]++ROW.toList.drop (i+[u].length)).toArray.toList.drop (j+(xs.drop i).length)).toArray.toList.take (N*1)=xs.take i++[u]++xs.drop i:=by
  have e0:ROW.toList.take i=xs.take i:=by
   rw[←hROW,zcB,zcB,zaj,za8 (by simp;omega)]
  simp only[zbW];have e1:(ROW.toList.take i++[u]++ROW.toList.drop (i+[u].length)).take j=xs.take i++[u]:=by
   rw[e0];exact za8 (by simp;omega)
  rw[e1,zbG,za8];simp only[zad,zao,zaZ,Hk,Ho];omega
 obtain⟨a2,b2,r2⟩:=qam (P:=Tryz.prog) Tryz.underlying103 hi0 hz1 R 0 N G j (by omega) Hn;obtain⟨a3,b3,r3⟩:=qam (P:=Tryz.prog) Tryz.underlying103 hi0 hz1 R 0 N G i (by omega) Hn;obtain⟨a4,b4,r4⟩:=qam (P:=Tryz.prog) Tryz.underlying103 hi0 hz1 g 0 n cap i (by omega) hnc;obtain rfl:a2=⟨R,j,none⟩:=by rw[b2 (by omega)];congr 1;omega
 obtain rfl:a3=⟨R,i,none⟩:=by rw[b3 (by omega)];congr 1;omega
 obtain rfl:a4=⟨g,i,none⟩:=by rw[b4 (by omega)];congr 1;omega
 have e1:IntKind.i64.wrap ((i:Int)+1)=(j:Int):=by rw[zaJ _ (by omega)];omega
 have e2:IntKind.i64.wrap ((n:Int)+1)=(N:Int):=by rw[zaJ _ (by omega)];omega
 have e3:IntKind.i64.wrap ((N:Int)-(i:Int))=(q:Int):=by rw[zaJ _ (by omega)];omega
 have t0:((i:Int)==(n:Int))=false:=by rw[zaI];omega
 have t1:decide ((cap:Int)<(N:Int))=true:=zas (by omega);have t2:decide (cap<N)=true:=zas (by omega);have HL:i≤cap:=by omega
 have HD:=zH Hw;have HA:=zH Ha;have HB:=zH Hb;have HC:=zH Hp;have Hy:=zH Ht;have Hl:=zH Hc;have HE:=zH Hf;have Hz:=zH Hr;have Hm:=zH (show N≤G∧B≤R∧n+1=N∧w.heap.size=R∧R<W3.heap.size∧i+1=j∧i<n∧xs.length=n from⟨Hn,by omega,hN,hR,(zab.1 Hp).1,hj,hi,by omega⟩);clear Hw Ha Hb Hp Ht Hc Hf Hr hW1 hW2 hW3 Hi Hj Hu Hv Hg Hs HI Hq hROW HG He hG hcell hcur htk hcs hC h h1 Ho Hk b2 b3 b4 Hh hR hj hN hq hxl hB;go_enter Tryz.func73,Tryz.ntmps73
 go_wp2_with (at_builtin;refine qbk rfl (.tmp 34) (.tmp 39) 103 3 rfl _ _ _ rfl rfl HD.o ?_)
 rw[HA.o];go_wp2;refine wp_region_held_drew (S:=fun _=>True) (by kernel_rfl) trivial (fun hHeld=>?_);refine zV 0 46 (.slice (some ⟨R,0,none⟩) N G) ?_;try simp only[zS]
 refine zV 1 47 (.int .i64 (i:Int)) ?_;try simp only[zS]
 refine zV 2 48 (.int .i64 1) ?_;try simp only[zS]
 refine zV 3 49 (.int .i64 (j:Int)) ?_;try simp only[zS]
 refine zV 4 50 (.slice (some ⟨R,j,none⟩) (N-j) (G-j)) ?_;try simp only[zS]
 refine zV 5 51 (.slice (some ⟨g,0,none⟩) n cap) ?_;try simp only[zS]
 refine zV 6 52 (.int .i64 (i:Int)) ?_;try simp only[zS]
 refine zV 7 53 (.slice (some ⟨g,i,none⟩) (n-i) (cap-i)) ?_;try simp only[zS]
 refine wpAnyH_ready (rs:=[8]) (by kernel_rfl) (by simp) ?_;refine AllReadyH.cons rfl (fun K hK=>?_) AllReadyH.nil;refine step_copy_runI rfl _ _ 103 103 rfl (.slice (some ⟨R,j,none⟩) (N-j) (G-j)) (.slice (some ⟨g,i,none⟩) (n-i) (cap-i)) rfl rfl (HB.o _ _ _) ?_;refine hK.out _ _ trivial (fun hHeld2=>?_);clear hK K;try simp only[zS]
 refine wpAnyH_done (by kernel_rfl) ?_ _;go_wp2;go_ret;obtain⟨k1,k2,k3,k4,k5,k6,k7,k8⟩:=Hm.o;refine⟨some ⟨R,0,none⟩,G,(by rw[k3];rfl),Own.of_own (qaR HC.o k2 (by omega) Hz.o ?_ ?_),Touch.of_below Hy.o,fun b e=>.inr ?_⟩
 ·have hz:=HE.o;simp only[zaz,zad,zag,zap,zao,zaZ,za1]at hz⊢;omega
 ·rw[k3];have hf:=Hl.o;simpa using hf
 ·have HK:b=R:=by cases e;rfl
  omega
theorem qa1 {v:Value}(h:Own w B 34 1 v n xs)(h1:∀ x∈xs,x.oneCell'=true)(hi:i≤n)(hl:n+1≤1048576)(hC:w.heap[C]?=some (.cells #[u] 34 (0,0)))(hu:u.oneCell'=true)(hCv:v.ownBlock≠some C)(hB:B≤w.heap.size) :
  Calls Tryz.prog 73 #[v,.int .i64 i,.slice (some ⟨C,0,none⟩) 1 cc] w (fun e w'=>∃ v',e=.returned v'∧Own w' B 34 1 v' (n+1) (xs.take i++[u]++xs.drop i)∧Upd w w' v v'):=by
 rcases Nat.lt_or_eq_of_le hi with hlt|heq
 ·rcases h.row with hr|⟨A0,e,hn0,hx0⟩
  ·rcases hr.2 with⟨e,h0⟩|⟨g,cap,cur,e,_⟩
   ·omega
   ·subst e;by_cases hroom:n+1≤cap
    ·exact(qfs hr h1 hlt hroom hl hC hu (fun e=>hCv (by rw[e];rfl))).mono fun e w' ⟨A',c',he,ho,hu⟩=>⟨_,he,ho,hu⟩
    ·exact(qgA hr h1 hlt (by omega) hl hC hu hB).mono fun e w' ⟨A',c',he,ho,hu⟩=>⟨_,he,ho,hu⟩
  ·omega
 ·subst heq;have Ha:xs.length=i:=by
   rcases h.row with hr|⟨A0,e,hn0,hx0⟩
   ·have:=hr.1;omega
   ·rw[hx0,hn0];rfl
  obtain⟨A,cap,rfl⟩:∃ A cap,v=.slice A i cap:=by
   rcases h.row with hr|⟨A0,e,hn0,hx0⟩
   ·rcases hr.2 with⟨e,h0⟩|⟨g,cap,cur,e,_⟩
    ·exact⟨_,_,by rw[e,h0]⟩
    ·exact⟨_,_,e⟩
   ·exact⟨_,_,by rw[e,hn0]⟩
  refine(qhi h hl hC hu hB).mono fun e w' ⟨A',c',he,ho,hu⟩=>⟨_,he,?_,hu⟩;rw[zbe (by omega),zbi (by omega),zaG];exact ho
end Go.Proofs.YtpmebcgmgfcmiaaGreatDoor
namespace Go.Proofs.YtpmebcgmgfcmiaaGreatDoor
open Go.RowKit BT
variable {met:List Nat}{j p B n X N:Nat}{w:World}{A:Option Addr}
def nums (met:List Nat):List Value:=met.map fun p=>.int .i64 (p:Nat)
theorem qlp (h:met[j]?=some p):(nums met)[j]?=some (.int .i64 (p:Nat)):=by
 unfold nums;rw[zbc,h];rfl
def NumsAt (w:World)(A:Option Addr)(met:List Nat):Prop:=∀ j q,met[j]?=some q→∃ g,A=some ⟨g,0,none⟩∧w.cell? ⟨g,j,none⟩=some (.int .i64 (q:Nat))
theorem NumsAt.of_row {e:TypeId}{c:Nat}(h:Row w B e 1 (.slice A n c) n (nums met)):NumsAt w A met:=fun j q hq=>by
 obtain⟨A',c',e,hl,hf⟩:=h.form;cases e;have hm:(nums met).length=met.length:=by unfold nums;simp
 have hj:=(zae.1 hq).1;obtain⟨g,rfl,_,_,hc⟩:=hf (by omega);exact⟨g,rfl,(hc j (by omega)).trans (qlp hq)⟩
theorem qjn (c:Nat)(h:NumsAt w A met)(hn:met.length=n)(hl:n≤1048576)(p:Nat) :
  Calls Tryz.prog 79 #[.slice A n c,.int .i64 (p:Nat)] w fun e w'=>(∃ k:Int,e=.returned (.int .i64 k)∧decide (0≤k)=decide (p∈met))∧w=w':=by
 have HC:=zH h;have HN:=zH hn;clear h hn;go_enter Tryz.func79,Tryz.ntmps79
 go_wp2;go_loopw [8] (fun i wr=>∃ j:Nat,i=.int .i64 j∧j≤n∧p∉met.take j∧w=wr) (fun i _=>n-(intOf i).toNat)
 case atStart=>exact⟨0,rfl,by omega,by simp,rfl⟩
 case round=>
  obtain⟨j,rfl,hj,hno,rfl⟩:=hrel;have Hb:=zH hno;clear hno;by_cases hlt:j<n
  ·obtain⟨q,hq⟩:∃ q,met[j]?=some q:=⟨_,zaa (by rw[HN.o];exact hlt)⟩;obtain⟨g,rfl,hcell⟩:=HC.o j q hq;have HQ:=zH hq;clear hq;by_cases hpq:p=q
   ·have Ha:=zH (show p∈met by rw[hpq];exact zak HQ.o);have Hf:((p:Int)==(q:Int))=true:=by rw[hpq];simp
    clear hpq;go_wp2;go_ret;exact⟨⟨_,rfl,by rw[zas Ha.o,zas (by omega)]⟩,rfl⟩
   ·have Hf:((p:Int)==(q:Int))=false:=by rw[zaI];omega
    have Ha:=zH hpq;clear hpq;go_wp2;refine⟨⟨j+1,by go_num,by omega,?_,trivial⟩,by simp[intOf];omega⟩;have Hc:j<met.length:=by rw[HN.o];exact hlt
    have ex:met[j]=q:=by have:=HQ.o;rw[zaa Hc]at this;exact zaF this
    rw[zaP Hc,ex,zar];rintro(h|h)
    ·exact Hb.o h
    ·exact Ha.o (by simpa using h)
  ·obtain rfl:j=n:=by omega
   have He:=zH (show p∉met by have:=Hb.o;rwa [←HN.o,zby]at this);go_wp2;go_ret;exact⟨⟨_,rfl,by rw[zal He.o];rfl⟩,rfl⟩
theorem qdr (c:Nat)(h:NumsAt w A met)(hn:met.length=n)(hl:n≤1048576)(p:Nat) :
  Calls Tryz.prog 59 #[.slice A n c,.int .i64 (p:Nat)] w fun e w'=>e=.returned (.bool (decide (p∈met)))∧w=w':=by
 have HI:=zH (qjn c h hn hl p);clear h hn;go_enter Tryz.func59,Tryz.ntmps59
 go_wp2_with (go_at_call 79;refine HI.o.mono ?_;rintro e w2 ⟨⟨k,rfl,hk⟩,rfl⟩)
 go_ret;exact⟨rfl,rfl⟩
def qls (X:Nat):Value:=.func (.func 109) #[] #[.pointer (some ⟨X,0,none⟩)]
theorem qjv (h:w.cell? ⟨X,0,none⟩=some (.int .i64 (p:Nat)))(q:Nat) :
  Calls Tryz.prog 109 #[.int .i64 (q:Nat),.pointer (some ⟨X,0,none⟩)] w fun e w'=>e=.returned (.bool (decide (q=p)))∧w=w':=by
 by_cases hq:q=p
 ·have Ha:((q:Int)==(p:Int))=true:=by rw[hq];simp
  have HQ:=zH hq;clear hq;go_enter Tryz.func109,Tryz.ntmps109
  go_wp2;go_ret;exact⟨by rw[zas HQ.o];rfl,rfl⟩
 ·have Ha:((q:Int)==(p:Int))=false:=by rw[zaI];omega
  have HQ:=zH hq;clear hq;go_enter Tryz.func109,Tryz.ntmps109
  go_wp2;go_ret;exact⟨by rw[zal HQ.o];rfl,rfl⟩
theorem qhg (c:Nat)(h:NumsAt w A (met++[p]))(hn:met.length=n)(hN:n+1=N)(hl:n≤1048576)(hX:w.cell? ⟨X,0,none⟩=some (.int .i64 (p:Nat)))(hp:p∉met) :
  Calls Tryz.prog 112 #[.slice A N c,qls X] w fun e w'=>e=.returned (.int .i64 (n:Nat))∧w=w':=by
 have HC:=zH h;have HN:=zH hn;have HP:=zH hp;have HF:=zH (fun q=>qjv hX q);clear h hn hp hX;unfold qls;go_enter Tryz.func112,Tryz.ntmps112
 go_wp2;go_loopw [8] (fun i wr=>∃ j:Nat,i=.int .i64 j∧j≤n∧w=wr) (fun i _=>n-(intOf i).toNat)
 case atStart=>exact⟨0,rfl,by omega,rfl⟩
 case round=>
  obtain⟨j,rfl,hj,rfl⟩:=hrel;have Hb:j<N:=by omega
  by_cases hlt:j<n
  ·obtain⟨q,hq⟩:∃ q,met[j]?=some q:=⟨_,zaa (by rw[HN.o];exact hlt)⟩;obtain⟨g,rfl,hcell⟩:=HC.o j q (by rw[zaL (by rw[HN.o];exact hlt)];exact hq);have Ha:=zH (HF.o q);rw[zal (fun e=>HP.o (by rw[←e];exact zak hq))]at Ha;clear hq;go_wp2_with (go_at_call 109;refine Ha.o.mono ?_;rintro e w2 ⟨rfl,rfl⟩)
   exact⟨⟨j+1,by go_num,by omega,trivial⟩,by simp[intOf];omega⟩
  ·obtain⟨g,rfl,hcell⟩:=HC.o j p (by rw[zau (by rw[HN.o];omega),HN.o,show j-n=0 by omega];rfl);have Ha:=zH (HF.o p);rw[zas rfl]at Ha;have HJ:=zH (show j=n by omega);go_wp2_with (go_at_call 109;refine Ha.o.mono ?_;rintro e w2 ⟨rfl,rfl⟩)
   go_ret;exact⟨by rw[HJ.o];rfl,rfl⟩
def DfF (B n:Nat)(A:Option Addr)(c:Nat)(met:List Nat)(w:World)(e:Ending)(w':World):Prop:=
 e=.returned (.slice A n c)∧Own w' B 3 1 (.slice A n c) n (nums met)∧Touch (fun b=>(Value.slice A n c).ownBlock=some b) w w'
theorem qjh {c:Nat}(h:Own w B 3 1 (.slice A N c) N (nums (met++[p])))(hN:n+1=N)(hl:n≤1048576)(hX:w.cell? ⟨X,0,none⟩=some (.int .i64 (p:Nat)))(hp:p∉met) :
  Calls Tryz.prog 108 #[.slice A N c,qls X] w (DfF B n A c met w):=by
 have Hb:=NumsAt.of_row h.row;have Ha:met.length=n:=by
  obtain⟨A',c',e,hl,hf⟩:=h.row.form;have:(nums (met++[p])).length=met.length+1:=by unfold nums;simp
  omega
 have HI:=zH (qhg c Hb Ha hN hl hX hp);obtain⟨g,rfl,hcell⟩:=Hb n p (by rw[zau (by omega),Ha,zcP];rfl);have hr:w.ownsRow B 3 1 (.slice (some ⟨g,0,none⟩) N c) N (nums (met++[p])):=by
  rcases h.row with hr|⟨A0,e,hn0,hx0⟩
  ·exact hr
  ·omega
 obtain⟨hnc,hcm,hxl,hBg,hgl,hcells,cur,hcur,hcs,htk⟩:=own_cells hr;have He:=zH hcur;have Hc:=zH hcs;have Hf:=zH htk;have HL:=zH Ha;have Hh:c≠n:=by omega
 have Hg:n≤c:=by omega
 have Hi:n≤N:=by omega
 clear Hb hp Ha h hcells hr hcur hcs htk;go_enter Tryz.func108,Tryz.ntmps108
 go_wp2_with (go_at_call 112;refine HI.o.mono ?_;rintro e w2 ⟨rfl,rfl⟩)
 go_loopw [5,6] (fun k i wr=>k=.int .i64 (n:Nat)∧i=.int .i64 (N:Nat)∧w=wr) (fun _ _ _=>0)
 case atStart=>exact⟨rfl,by go_num,rfl⟩
 case round=>
  obtain⟨rfl,rfl,rfl⟩:=hrel;go_wp2_with ((with_reducible show wpList _ _ _ (⟨none,.call _,_,_,_,_⟩::_) _ _);refine qa8 rfl (.tmp 38) 23 rfl Tryz.underlying23 (fun _=>by kernel_rfl) (z:=.int .i64 0) (by kernel_rfl) (some ⟨g,n,none⟩) (N-n) (c-n) rfl g n cur 3 He.o (fun _=>⟨rfl,by rw[Hc.o];show n+(N-n)*1≤c*1;omega⟩) ?_;intro w3 cs3 q1 q2 q3 q4;have Q1:=zH q1;have Q2:=zH q2;have Q3:=zH q3;have Q4:=zH q4;clear q1 q2 q3 q4)
  go_ret;refine⟨rfl,Own.of_own (qaR Q1.o hBg (by omega) hcm (by rw[Q2.o];exact Hc.o) ?_),?_⟩
  ·rw[zbG,Q3.o];have h2:=congrArg (List.take n) Hf.o;rw[zbY,zbE (by omega)]at h2;rw[h2];unfold nums;rw[zbD,za8 (by simp[HL.o])]
  ·exact Q4.o.mono (fun b _ hb=>by rw[hb];rfl)
theorem qjp (l:List Bs)(k:Bs):ksize (l++[k])=ksize l+(1+k.length):=by
 unfold ksize;simp
theorem qdz (l:List Bs)(j:Nat):ksize (l.take j)≤ksize l:=by
 have h:ksize l=ksize (l.take j)+ksize (l.drop j):=by
  unfold ksize;rw[←List.sum_append,←zbD,zav]
 omega
theorem qcG {l:List Bs}{k:Bs}(h:l[j]?=some k):ksize (l.take (j+1))=ksize (l.take j)+(1+k.length):=by
 have hj:=(zae.1 h).1;have ex:l[j]=k:=by rw[zaa hj]at h;exact zaF h
 rw[zaP hj,ex,qjp]
structure NdR (w:World) (S:Nat→Prop) (N:Nat) (leaf:Bool) (ks vs:List Bs) (nx:Nat):Prop where
 ex:∃ K ck V cv X cx vk vv,Nc w N leaf K ks.length ck V vs.length cv X nx cx∧SrcS w S 1 K ks.length vk∧RowV w S vk ks∧SrcS w S 1 V vs.length vv∧RowV w S vv vs
def SzF (n:Nat)(w:World)(e:Ending)(w':World):Prop:=e=.returned (.int .i64 (n:Nat))∧w=w'
theorem qfZ {S:Nat→Prop}{leaf:Bool}{ks vs:List Bs}{nx:Nat}(h:NdR w S N leaf ks vs nx)(hl:leaf=true→vs.length=ks.length)(hb:ks.length≤1048576)(h1:ksize ks≤1099511627776)(h2:ksize vs≤1099511627776)(h3:nx≤1048576) :
  Calls Tryz.prog 93 #[.pointer (some ⟨N,0,none⟩)] w (SzF (2+ksize ks+(if leaf then ksize vs else 0)+2*nx) w):=by
 obtain⟨K,ck,V,cv,X,cx,vk,vv,⟨c0,c1,c2,c3,hk,hv,hx⟩,s1,r1,s2,r2⟩:=h.ex;obtain⟨n,hn⟩:∃ n,ks.length=n:=⟨_,rfl⟩;obtain⟨m,hm⟩:∃ m,vs.length=m:=⟨_,rfl⟩;rw[hn]at c1 hk s1 hl hb;rw[hm]at c2 hv s2 hl;have Hg:=zH (show ∀ (j:Nat) (k:Bs),ks[j]?=some k→∃ (b off:Nat) (B:Option Addr) (cc:Nat),K=some ⟨b,off,none⟩∧w.cell? ⟨b,off+j,none⟩=some (.slice B k.length cc)from fun j k hk=>by
  obtain⟨B,cc,g1,g2,g3⟩:=r1.get hk;have Ha:=(zae.1 hk).1;obtain⟨b,off,e,_,hc⟩:=s1.at_ (by omega);exact⟨b,off,B,cc,e,hc j _ g1⟩)
 have Hh:=zH (show ∀ (j:Nat) (k:Bs),vs[j]?=some k→∃ (b off:Nat) (B:Option Addr) (cc:Nat),V=some ⟨b,off,none⟩∧w.cell? ⟨b,off+j,none⟩=some (.slice B k.length cc)from fun j k hk=>by
  obtain⟨B,cc,g1,g2,g3⟩:=r2.get hk;have Ha:=(zae.1 hk).1;obtain⟨b,off,e,_,hc⟩:=s2.at_ (by omega);exact⟨b,off,B,cc,e,hc j _ g1⟩)
 have Hb:=zH (fun j=>qdz ks j);have Hc:=zH (fun j=>qdz vs j);have HN:=zH hn;have HM:=zH hm;have HL:=zH hl;obtain⟨T,hT⟩:∃ T,2+ksize ks+(if leaf then ksize vs else 0)+2*nx=T:=⟨_,rfl⟩;rw[hT];have HT:=zH hT;clear h s1 r1 s2 r2 hn hm hl hT;go_enter Tryz.func93,Tryz.ntmps93
 go_wp2;go_loopw [3,11] (fun s i wr=>∃ j:Nat,i=.int .i64 j∧j≤n∧s=.int .i64 ((2+ksize (ks.take j)+(if leaf then ksize (vs.take j)else 0):Nat):Int)∧w=wr) (fun _ i _=>n-(intOf i).toNat)
 case atStart=>exact⟨0,rfl,by omega,by simp[ksize],rfl⟩
 case round=>
  obtain⟨j,rfl,hj,rfl,rfl⟩:=hrel;have q1:=Hb.o j;have q2:=Hc.o j;obtain⟨s,hs⟩:∃ s,2+ksize (ks.take j)+(if leaf then ksize (vs.take j)else 0)=s:=⟨_,rfl⟩;have Hl:s≤4398046511104:=by rw[←hs];split<;>omega
  rw[hs];by_cases Ha:j<n
  ·obtain⟨k,hk⟩:∃ k,ks[j]?=some k:=⟨_,zaa (by rw[HN.o];exact Ha)⟩;obtain⟨b1,o1,B1,cc1,rfl,hc1⟩:=Hg.o j k hk;have z1:=qcG hk;have q3:=Hb.o (j+1);obtain⟨kl,hkl⟩:∃ kl,k.length=kl:=⟨_,rfl⟩;rw[hkl]at hc1 z1;have Hk:kl≤1099511627776:=by omega
   cases leaf with
   | false=>
    have HS:=zH hs;have HZ:=zH z1;clear hk z1 q1 q2 q3 hs hkl;go_wp2;refine⟨⟨j+1,by go_num,by omega,?_,trivial⟩,by simp[intOf];omega⟩;have a1:=HS.o;have a2:=HZ.o;simp only[zbM,zc8]at a1⊢;go_num
   | true=>
    obtain⟨v,hv'⟩:∃ v,vs[j]?=some v:=⟨_,zaa (by rw[HM.o,HL.o rfl];exact Ha)⟩;obtain⟨b2,o2,B2,cc2,rfl,hc2⟩:=Hh.o j v hv';have z2:=qcG hv';have q4:=Hc.o (j+1);obtain⟨vl,hvl⟩:∃ vl,v.length=vl:=⟨_,rfl⟩;rw[hvl]at hc2 z2;have Hm:vl≤1099511627776:=by omega
    have Hj:j<m:=by have:=HL.o rfl;omega
    have HS:=zH hs;have HZ:=zH z1;have Hi:=zH z2;clear hk hv' z1 z2 q1 q2 q3 q4 hs hkl hvl;go_wp2;refine⟨⟨j+1,by go_num,by omega,?_,trivial⟩,by simp[intOf];omega⟩;have a1:=HS.o;have a2:=HZ.o;have a3:=Hi.o;simp only[zcn]at a1⊢;go_num
  ·obtain rfl:j=n:=by omega
   have He:ks.take j=ks:=by rw[←HN.o,zby]
   have Hf:leaf=true→vs.take j=vs:=fun e=>by rw[←HL.o e,←HM.o,zby]
   have HS:=zH (show 2+ksize ks+(if leaf then ksize vs else 0)=s by
    rw[←hs,He];cases leaf with
    | true=>rw[Hf rfl]
    | false=>rfl)
   clear hs He Hf q1 q2;go_wp2;go_ret;refine⟨?_,rfl⟩;have a1:=HS.o;have a2:=HT.o;rw[a1]at a2;go_num
end Go.Proofs.YtpmebcgmgfcmiaaGreatDoor
namespace Go.Proofs.YtpmebcgmgfcmiaaGreatDoor
open Go.RowKit BT Go.Lib
section
section
variable {P:Program}
theorem qbF (w:World)(dT sT ty elem:TypeId){ti:TypeInfo}{size:Nat}(hu:P.underlying dT=some (.slice elem))(hi:P.info? elem=some ti)(hs:ti.size=size)(g o dLen dCap:Nat)(A:Option Addr)(sLen sCap:Nat)(cs:List Value)(cur:Array Value)(t:TypeId)
  (hg:w.heap[g]?=some (.cells cur t (0,0))){q:Nat}(hq:Nat.min sLen dLen=q)(hn:cs.length=q*size)(hsrc:0<q→∃ a,A=some a∧∀ j v,cs[j]?=some v→w.cell? (a.add j)=some v)(hfit:o+cs.length≤cur.size)(h1:∀ v∈cs,v.oneCell'=true) :
  (Builtin.copy_ #[dT,sT] ty #[.slice (some ⟨g,o,none⟩) dLen dCap,.slice A sLen sCap]).run P w=.ok (goInt q) (w.setCells g o cs):=by
 have hl:(Builtin.firstCells size q (.slice A sLen sCap)).run P w=.ok cs.toArray w:=by
  by_cases h0:0<q
  ·obtain⟨a,rfl,hc⟩:=hsrc h0;exact run_firstCells_some w size q a sLen sCap cs hn hc
  ·obtain rfl:q=0:=by omega
   obtain rfl:cs=[]:=zbo (by omega);cases A<;>simp[Builtin.firstCells,loadCells,loadCellsFrom]
 have Ha:=zcT (P:=P) g o cs 0 w (fun j hj=>by rw[zan w g _ _ _ _ hg,zbq (by omega)];rfl) (fun j hj=>zaQ _ _ _ _ _ hg) h1;subst hs;simp[Builtin.copy_,zaM hu,Builtin.lenOf,sizeOf,typeInfo,hi,hq,hl,Ha]
end
theorem qcr:∃ ti,Tryz.prog.info? 102=some ti∧ti.zero=some (.agg #[.int .i64 0,.pointer none])∧ti.size=2∧ti.bytes=16:=zaT qcF
theorem kval:∀ w,(zeroValue 102).run Tryz.prog w=.ok (.agg #[.int .i64 0,.pointer none]) w:=fun w=>by
 obtain⟨i0,hi0,hz0,_,_⟩:=qcr;simp[zeroValue,typeInfo,hi0,hz0]
def RkF (B N:Nat)(v:Value)(ys:List Value)(w:World)(e:Ending)(w':World):Prop:=
 ∃ v',e=.returned v'∧Own w' B 102 2 v' N ys∧Upd w w' v v'
theorem qkE {w:World}{B g n cap i j m N:Nat}{xs us:List Value}{A:Option Addr}{cc:Nat}(h:w.ownsRow B 102 2 (.slice (some ⟨g,0,none⟩) n cap) n xs)(h1:∀ x∈xs,x.oneCell'=true)(hij:i<j)(hjn:j<n)(hm:i+m≤j)(hN:i+m+(n-j)=N)(hl:n≤1048576)(hs:Src w 2 A m us)(hu:∀ x∈us,x.oneCell'=true) :
  Calls Tryz.prog 75 #[.slice (some ⟨g,0,none⟩) n cap,.int .i64 i,.int .i64 j,.slice A m cc] w (RkF B N (.slice (some ⟨g,0,none⟩) n cap) (xs.take (i*2)++us++xs.drop (j*2)) w):=by
 obtain⟨i0,hi0,hz0,hz1,hz2⟩:=qcr;obtain⟨hnc,hcm,hxl,hBg,hgl,hcell,cur,hcur,hcs,htk⟩:=own_cells h;obtain⟨im,him⟩:∃ im,i+m=im:=⟨_,rfl⟩;obtain⟨I2,hI2⟩:∃ I2,i*2=I2:=⟨_,rfl⟩;obtain⟨J2,hJ2⟩:∃ J2,j*2=J2:=⟨_,rfl⟩;obtain⟨M2,hM2⟩:∃ M2,im*2=M2:=⟨_,rfl⟩;obtain⟨N2,hN2⟩:∃ N2,N*2=N2:=⟨_,rfl⟩;have Hq:us.length=m*2:=hs.len;have He:∀ ty dc,(Builtin.copy_ #[104,104] ty #[.slice (some ⟨g,I2,none⟩) (N-i) dc,.slice A m cc]).run Tryz.prog w.drew=.ok (goInt m) (w.drew.setCells g I2 us):=fun ty dc=>
  qbF w.drew _ _ ty 102 Tryz.underlying104 hi0 hz1 g I2 (N-i) dc A m cc us cur _ hcur (show Nat.min m (N-i)=m by simp only[zcC];split<;>omega) Hq hs.at_ (by omega) hu
 obtain⟨W1,hW1⟩:∃ W1,w.drew.setCells g I2 us=W1:=⟨_,rfl⟩;have Ha:W1.heap[g]?=some (.cells (cur.toList.take I2++us++cur.toList.drop (I2+us.length)).toArray 102 (0,0)):=by
  rw[←hW1];exact heap_setCells us I2 w.drew cur hcur (by omega)
 have Ho:Touch (fun b=>b=g) w W1:=by
  rw[←hW1];exact(Touch.refl _ w).drew.trans (qau (F:=fun b=>b=g) (g:=g) rfl _ _)
 rw[hW1]at He;have hx:cur.toList.take (n*2)=xs:=htk;have Hi:(cur.toList.take I2++us++cur.toList.drop (I2+us.length)).toArray.size=cap*2:=by
  simp only[zaz,zad,zag,zap,za1];omega
 obtain⟨d,hd⟩:∃ d,n-j=d:=⟨_,rfl⟩;have Hk:(xs.drop J2).length=d*2:=by rw[zap];omega
 have Hc:∀ k v,(xs.drop J2)[k]?=some v→W1.drew.cell? ((⟨g,J2,none⟩:Addr).add k)=some v:=fun k v hk=>by
  rw[qbt,zan W1.drew g _ _ _ _ Ha,zbC,zau (show(cur.toList.take I2++us).length≤J2+k by simp only[zad,zag,za1];omega),zaK];rw[zaK,←hx,zaV]at hk;split at hk
  ·rw[show I2+us.length+(J2+k-(List.take I2 cur.toList++us).length)=J2+k by simp only[zad,zag,za1];omega];exact hk
  ·cases hk
 have Hf:∀ ty dc sc,(Builtin.copy_ #[104,104] ty #[.slice (some ⟨g,M2,none⟩) (N-im) dc,.slice (some ⟨g,J2,none⟩) d sc]).run Tryz.prog W1.drew=.ok (goInt d) (W1.drew.setCells g M2 (xs.drop J2)):=fun ty dc sc=>
  qbF W1.drew _ _ ty 102 Tryz.underlying104 hi0 hz1 g M2 (N-im) dc _ d sc (xs.drop J2) _ _ Ha (show Nat.min d (N-im)=d by simp only[zcC];split<;>omega) Hk (fun _=>⟨_,rfl,Hc⟩) (by rw[Hi,Hk];omega) (fun v hv=>h1 v (zaU hv))
 obtain⟨W2,hW2⟩:∃ W2,W1.drew.setCells g M2 (xs.drop J2)=W2:=⟨_,rfl⟩;have Hb:=heap_setCells (xs.drop J2) M2 W1.drew _ Ha (by omega);rw[hW2]at Hf Hb;have Hp:Touch (fun b=>b=g) w W2:=by
  rw[←hW2];exact Ho.drew.trans (qau (F:=fun b=>b=g) (g:=g) rfl _ _)
 obtain⟨CUR,hCUR⟩:∃ CUR,((cur.toList.take I2++us++cur.toList.drop (I2+us.length)).toArray.toList.take M2++xs.drop J2++(cur.toList.take I2++us++cur.toList.drop (I2+us.length)).toArray.toList.drop (M2+(xs.drop J2).length)).toArray=CUR:=⟨_,rfl⟩;rw[hCUR]at Hb;have Hn:CUR.size=cap*2:=by
  rw[←hCUR];simp only[zaz,zad,zag,zap,za1,zbW];omega
 have Hg:CUR.toList.take N2=xs.take I2++us++xs.drop J2:=by
  have Hx:cur.toList.take I2=xs.take I2:=by rw[←hx,zbY,zbE (by omega)]
  rw[←hCUR];simp only[zbW];rw[za8 (l₁:=cur.toList.take I2++us) (by simp only[zad,zag,za1];omega),Hx,za8];simp only[zad,zag,zap];omega
 obtain⟨a1,b1,r1⟩:=qbY (P:=Tryz.prog) Tryz.underlying104 hi0 hz1 g 0 n cap i j (by omega) (by omega);obtain⟨a2,b2,r2⟩:=qam (P:=Tryz.prog) Tryz.underlying104 hi0 hz1 g 0 n cap j (by omega) hnc;obtain⟨a3,b3,r3⟩:=qam (P:=Tryz.prog) Tryz.underlying104 hi0 hz1 g 0 N cap i (by omega) (by omega);obtain⟨a4,b4,r4⟩:=qam (P:=Tryz.prog) Tryz.underlying104 hi0 hz1 g 0 N cap im (by omega) (by omega);obtain⟨a5,b5,r5⟩:=qam (P:=Tryz.prog) Tryz.underlying104 hi0 hz1 g 0 n cap N (by omega) (by omega);obtain rfl:a2=⟨g,J2,none⟩:=by rw[b2 (by omega)];congr 1;omega
 obtain rfl:a3=⟨g,I2,none⟩:=by rw[b3 (by omega)];congr 1;omega
 obtain rfl:a4=⟨g,M2,none⟩:=by rw[b4 (by omega)];congr 1;omega
 have Hm:0<n-N→some a5=some (⟨g,N2,none⟩:Addr):=fun _=>by rw[b5 (by omega)];congr 2;omega
 have e1:IntKind.i64.wrap ((i:Int)+(m:Int))=(im:Int):=by rw[zaJ _ (by omega)];omega
 rw[hd]at r2;have e2:IntKind.i64.wrap ((im:Int)+(d:Int))=(N:Int):=by rw[zaJ _ (by omega)];omega
 have t0:((i:Int)==(j:Int))=false:=by rw[zaI];omega
 have t1:((j:Int)==(n:Int))=false:=by rw[zaI];omega
 have t2:¬cap<N:=by omega
 have t3:im≤j:=by omega
 have Hw:N≤cap:=by omega
 have Hy:i≤cap:=by omega
 have Hs:=zH Hb;have Hv:=zH Hp;have Ht:=zH He;have Hu:=zH Hf;rw[hI2,hJ2];obtain⟨Y,hY⟩:∃ Y,xs.take I2++us++xs.drop J2=Y:=⟨_,rfl⟩;rw[hY]at Hg⊢;have Hj:=zH Hg;have Hl:=zH Hn;have Hr:=zH Hm;have Hh:=zH (show i<j∧j<n∧i+m=im∧im+d=N∧N*2=N2∧n≤cap∧i*2=I2∧j*2=J2 from⟨hij,hjn,him,by omega,hN2,hnc,hI2,hJ2⟩);clear hY Hc He Hf Ha Hb Ho Hp hW1 hW2 hcell hcur htk hx hcs h h1 hs hu Hq Hi Hk b1 b2 b3 b4 b5 Hg Hn hCUR Hm hxl hI2 hJ2 hM2 hN2 him hN hd hm;go_enter Tryz.func75,Tryz.ntmps75
 go_upto_region 9 with fail
 go_region
 go_upto_region 17 with fail
 go_wp2;rw[Ht.o];go_wp2;refine wp_region_held_drew (S:=fun _=>True) (by kernel_rfl) trivial (fun hHeld=>?_);refine zV 0 98 (.slice (some ⟨g,0,none⟩) N cap) ?_;try simp only[zS]
 refine zV 1 99 (.int .i64 (i:Int)) ?_;try simp only[zS]
 refine zV 2 100 (.slice A m cc) ?_;try simp only[zS]
 refine zV 3 101 (.int .i64 (m:Int)) ?_;try simp only[zS]
 refine zV 4 102 (.int .i64 (im:Int)) ?_;try simp only[zS]
 refine zV 5 103 (.slice (some ⟨g,M2,none⟩) (N-im) (cap-im)) ?_;try simp only[zS]
 refine zV 6 104 (.slice (some ⟨g,0,none⟩) n cap) ?_;try simp only[zS]
 refine zV 7 105 (.int .i64 (j:Int)) ?_;try simp only[zS]
 refine zV 8 106 (.slice (some ⟨g,J2,none⟩) d (cap-j)) ?_;try simp only[zS]
 refine wpAnyH_ready (rs:=[9]) (by kernel_rfl) (by simp) ?_;refine AllReadyH.cons rfl (fun K hK=>?_) AllReadyH.nil;refine step_copy_runI rfl _ _ 104 104 rfl (.slice (some ⟨g,M2,none⟩) (N-im) (cap-im)) (.slice (some ⟨g,J2,none⟩) d (cap-j)) rfl rfl (Hu.o _ _ _) ?_;refine hK.out _ _ trivial (fun hHeld_1=>?_);clear hK K;try simp only[zS]
 refine wpAnyH_done (by kernel_rfl) ?_ _;clear hHeld hHeld_1;go_wp2_with ((with_reducible show wpList _ _ _ (⟨none,.call _,_,_,_,_⟩::_) _ _);refine qa8 rfl (.tmp 110) 104 rfl Tryz.underlying104 kval (by kernel_rfl) (some a5) (n-N) (cap-N) rfl g N2 CUR 102 Hs.o (fun h0=>⟨Hr.o h0,by have:=Hh.o;rw[Hl.o];show N2+(n-N)*2≤cap*2;omega⟩) ?_;intro w3 cs3 q1 q2 q3 q4;have Q1:=zH q1;have Q2:=zH q2;have Q3:=zH q3;have Q4:=zH q4;clear q1 q2 q3 q4)
 go_ret;obtain⟨k1,k2,k3,k4,k5,k6,k7,k8⟩:=Hh.o;refine⟨_,rfl,Own.of_own (qaR Q1.o hBg Hw hcm (by rw[Q2.o];exact Hl.o) ?_),⟨?_,fun b e=>.inl e⟩⟩
 ·rw[k5,Q3.o,Hj.o]
 ·exact(Hv.o.trans Q4.o).mono (fun b _ hb=>by rw[hb];rfl)
end
end Go.Proofs.YtpmebcgmgfcmiaaGreatDoor
