/- Texts PgH StC HeldS NdMem NdRow. -/
import Derived.Test.YtpmebcgmgfcmiaaGreatDoorQ11
set_option linter.all false
set_option maxRecDepth 100000
set_option maxHeartbeats 16000000
namespace Go.Proofs.YtpmebcgmgfcmiaaGreatDoor
open Go.RowKit BT
variable {P:Program}{w:World}{a:Act}{v:Value}
theorem qhM (w:World)(g:Nat)(cs:Array Value):Touch (fun b=>b=g) w (w.setRow g cs):=
 ⟨rfl,rfl,rfl,by simp[World.setRow],fun k _ hk=>setRow_other w g k cs hk⟩
theorem qd6 {ops:Array Oper}{rest:List Oper}{o:Oper}{Q:Exit→Act→World→Prop}(hgd:o.guard=none)(d s:Operand)(dT sT:TypeId)
  (ho:o.op=.call { callee:=.builtin .copy,args:=#[d,s],argTypes:=#[dT,sT] })(elem:TypeId)(hu:P.underlying dT=some (.slice elem))(hsz:(P.info? elem).map (·.size)=some 1)
  (g off dLen dCap:Nat)(ad:Addr)(sLen sCap:Nat)(hd:a.eval d=.slice (some ⟨g,off,none⟩) dLen dCap)(hs:a.eval s=.slice (some ad) sLen sCap)
  (cur:List Value)(t:TypeId)(hg:w.heap[g]?=some (.cells cur.toArray t (0,0)))(cs:List Value)(hn:cs.length=Nat.min sLen dLen)
  (hsrc:∀ j v,cs[j]?=some v→w.cell? (ad.add j)=some v)(hfit:off+cs.length≤cur.length)(h1:∀ v∈cs,v.oneCell'=true)
  (h:∀ w',Hd (w'.heap[g]?=some (.cells (splice cur off cs).toArray t (0,0)))→Hd (Touch (fun b=>b=g) w w')→wpList P ops Q rest (a.put o.dst (goInt cs.length)) w'):wpList P ops Q (o::rest) a w:=by
 refine wpList_copy_own hgd d s dT sT ho elem hu hsz g off dLen dCap ad sLen sCap hd hs cur.toArray t hg cs hn hsrc (by simpa using hfit) h1 ?_;exact h _ (show _=_ by simpa [splice] using setRow_heap w g _ _ t _ hg) (qhM _ _ _)
theorem qkD (s:Bs)(hs:s.length=64):((s.drop 8).drop 2).take 48=(readS s).ub∧((s.drop 8).drop 2).length=54∧(((s.drop 8).drop 2).drop 48).length=6:=by
 refine⟨by rw[zcF];rfl,by simp[hs],by simp[hs]⟩
def SbF (s:Bs)(w:World)(e:Ending)(w':World):Prop:=
 e=.returned (.tuple #[.int .u64 ((readS s).gen:Nat),.int .i64 (((readS s).root1:Int)-1),.agg (bv (readS s).ub).toArray,.bool (readS s).ok,.int .i64 0])∧Below w.heap.size w w'
theorem qdL (w:World)(o:Obj):(w.alloc o).heap.size=w.heap.size+1:=by
 show(w.heap.push o).size=_;exact Array.size_push ..
theorem By.drop {b off:Nat}{l:Bs}(h:By w (some ⟨b,off,none⟩) l)(k:Nat):By w (some ⟨b,off+k,none⟩) (l.drop k):=
 ⟨fun h0=>by
  obtain⟨b',off',e,hl,hc⟩:=h.at_ (by simp at h0;omega);cases e;refine⟨b,off+k,rfl,hl,fun j c hj=>?_⟩;rw[zaK]at hj;rw[zbV];exact hc _ _ hj⟩
theorem qbK {o:Oper}{W:World}(ty:TypeId)(x:Operand)(ho:o.op=.load ty x)(b off:Nat)(hx:a.eval x=.pointer (some ⟨b,off,none⟩))
  (h:(loadVar ty ⟨b,off,none⟩).run P W=.ok v W):(execOp a.eval o).run P W=.ok (.value v) W:=by
 unfold execOp;simp only[ho,hx,Instr.loadAt,Instr.sureAddr,zbF,zb2,zbh,h]
theorem qcM {fn:Func}{t0 t1 c t3 t4:Tmp}{T:TypeId}(h:fn.results=#[.tmp t0,.tmp t1,.cell c T,.tmp t3,.tmp t4])(tmps:Array Value)(P:Program)(w:World)(ad:Addr)
  (hp:tmps.getD c undef=.pointer (some ad))(hl:(loadVar T ad).run P w=.ok v w):(results fn tmps).run P w=.ok (.tuple #[tmps.getD t0 undef,tmps.getD t1 undef,v,tmps.getD t3 undef,tmps.getD t4 undef]) w:=by
 have Ha:tmps[c]?.getD undef=.pointer (some ad):=by simpa using hp
 simp[results,h,Ha,asAddr,hl]
theorem qk0 (a b:Nat):(a==b)=((a:Int)==(b:Int)):=by
 rw[Bool.eq_iff_iff];simp only[zcz];omega
theorem zbox:(List.replicate 48 (Value.int .u8 0)).toArray=(bv (zeros 48)).toArray:=by kernel_rfl
theorem qlE (l:Bs)(h:l.length=48):splice (bv (zeros 48)) 0 (bv l)=bv l:=by
 have e:(bv l).length=48:=by rw[bv_len,h]
 simp only[splice,zb8,zaA,zaO,e,qeu];simp[zeros,bv]
theorem qf7 {a:PA}{F:Nat→Prop}{p:Pl}(h:PlM w a F p)(hn:Nib w){d m k:Nat}(hd:p.most[d]?=some m)(hk:k<m)(hoff:p.off=false)(hlen:(p.seen d k).length=64) :
  Calls Tryz.prog 43 #[.pointer (some ⟨a.P,0,none⟩),.int .i64 d,.int .i64 k] w (SbF (p.seen d k) w):=by
 have HR:=zH (fun(W:World) (hb:Below w.heap.size w W)=>qhA (h.below hb) hd hk hoff);obtain⟨s,hs⟩:∃ s,p.seen d k=s:=⟨_,rfl⟩;rw[hs]at HR hlen⊢;have HL:=zH hlen;have HX:=zH hn;have H8:=h.ok.most m (zak hd);have HT:=zH (qkD s hlen);clear h hn hd hoff hs hlen;go_enter Tryz.func43,Tryz.ntmps43
 go_upto_region 4 with(first
  | (go_at_call 65;go_loud (refine(HR.o _ (zB _ _)).mono ?_;rintro e w1 ⟨g,rfl,hg1,hg2,hb1⟩)))
 have Ho:=zH hg2;have Hp:=zH (show w.heap.size+1≤g by have:=hg1;rwa [qdL]at this);have Hv:=zH (((zai w.heap.size w).alloc (zac _) _).trans (hb1.mono (by rw[qdL];omega)));have HP:=zH (show w1.heap[w.heap.size]?=some (.cells (bv (zeros 48)).toArray 113 (0,0))by
  rw[hb1.block _ (by rw[qdL];omega)];show(w.heap.push _)[w.heap.size]?=_;rw[Array.getElem?_push_size];exact congrArg (fun x=>some (Obj.cells x 113 (0,0))) zbox)
 clear hg1 hg2 hb1;have HF:=zH (qmG g 0 64 s 64 w1 (By.of_block Ho.o rfl) HL.o (by omega) (by omega) (zac _));have Hi:g<w1.heap.size:=(zab.1 Ho.o).1;obtain⟨n8,hn8⟩:∃ n,hiN (s.take 8)=n:=⟨_,rfl⟩;rw[hn8]at HF;have HA:=zH hn8;clear hn8;go_upto_region 5 with(first
  | (go_at_call 66;go_loud (refine HF.o.mono ?_;rintro e w2 ⟨rfl,ho2,hb2⟩;have HB:=zH ho2;have Ha:=zH hb2;clear ho2 hb2)))
 have HH:=zH (Hv.o.trans (Ha.o.mono Hv.o.size));have HE:=zH (qlU w1.heap.size 0 56 (s.drop 8) 56 w2 (By.of_own (Or.inl HB.o) (by simp[HL.o])) (by simp[HL.o]) (by omega) (by omega) (zac _));obtain⟨n2,hn2⟩:∃ n,hiN ((s.drop 8).take 2)=n:=⟨_,rfl⟩;rw[hn2]at HE;have HW:=zH hn2;have HN:n2<65536:=by rw[←hn2];have:=qfS ((s.drop 8).take 2);rwa [show((s.drop 8).take 2).length=2 by simp[HL.o]]at this
 clear hn2;go_upto_region 6 with(first
  | (go_at_call 66;go_loud (refine HE.o.mono ?_;rintro e w3 ⟨rfl,ho3,hb3⟩;have HC:=zH ho3;have Hf:=zH hb3;clear ho3 hb3)))
 have H1:=zH (HH.o.trans (Hf.o.mono HH.o.size));have HM:w.heap.size<w1.heap.size:=by have:=Hp.o;omega
 have Hu:w1.heap.size<w2.heap.size:=qlR HB.o;have Hl:=zH (((Ha.o.trans (Hf.o.mono Ha.o.size)).block _ HM).trans HP.o);have HS:=zH (((Ha.o.trans (Hf.o.mono Ha.o.size)).block _ Hi).trans Ho.o);have HD:=zH (By.of_own (Or.inl HC.o) (by simp[HL.o]):By w3 (some ⟨w2.heap.size,0,none⟩) ((s.drop 8).drop 2));have H4:w2.heap.size<w3.heap.size:=qlR HC.o;have H5:w.heap.size<w3.heap.size:=by have:=Ha.o.size;have:=Hf.o.size;omega
 have Hx:=zH (show(bv (((s.drop 8).drop 2).take 48)).length=Nat.min 54 48 by rw[bv_len,zag,HT.o.2.1];rfl);have Ht:=zH (show(((s.drop 8).drop 2).take 48).length=48 by rw[zag,HT.o.2.1];rfl);have H0:=zH (show ∀ j v,(bv (((s.drop 8).drop 2).take 48))[j]?=some v→w3.cell? ((⟨w2.heap.size,0,none⟩:Addr).add j)=some v from fun j v hv=>by
  have h1:=(HD.o.take 48).src.at_ (by rw[Ht.o];omega);obtain⟨ad,e,h2⟩:=h1;cases e;exact h2 j v hv)
 go_upto_region 7 with(first
  | ((with_reducible show wpList _ _ _ (⟨some 45,_,_,_,_,_⟩::_) _ _);go_loud (refine qd6 rfl (.tmp 43) (.tmp 44) 34 34 rfl 5 Tryz.underlying34 (by kernel_rfl) w.heap.size 0 48 48 ⟨w2.heap.size,0,none⟩ 54 54 rfl rfl (bv (zeros 48)) 113 Hl.o (bv (((s.drop 8).drop 2).take 48)) Hx.o H0.o (by rw[Hx.o,bv_len,zeros_len];decide) (qaw _) ?_;intro w4 hx4 ht4)))
 have H7:=zH ht4.out;have HI:=zH (show w4.heap[w.heap.size]?=some (.cells (bv (readS s).ub).toArray 113 (0,0))by
  have:=hx4.out;rw[qlE _ Ht.o,HT.o.1]at this;exact this)
 have Hy:=zH ((ht4.out.block g (by have:=Ha.o.size;have:=Hf.o.size;omega) (by have:=Hp.o;omega)).trans HS.o);have HY:=zH ((HD.o.touch ht4.out (fun ad e=>by cases e;show ¬(w2.heap.size=w.heap.size);omega)).drop 48);have Hw:=zH (show Below w.heap.size w w4 from H1.o.trans ⟨ht4.out.os,ht4.out.tape,ht4.out.output,ht4.out.size,fun k hk=>ht4.out.block k (by omega) (by omega)⟩);clear hx4 ht4;have HG:=zH (qlV w2.heap.size 48 6 (((s.drop 8).drop 2).drop 48) 6 w4 (by have:=HY.o;rwa [zaO]at this) HT.o.2.2 (by omega) (by omega) (zac _));obtain⟨n4,hn4⟩:∃ n,hiN ((((s.drop 8).drop 2).drop 48).take 4)=n:=⟨_,rfl⟩;rw[hn4]at HG;have Hz:=zH hn4;clear hn4;go_upto_region 8 with(first
  | (go_at_call 66;go_loud (refine HG.o.mono ?_;rintro e w5 ⟨rfl,ho5,hb5⟩;clear ho5;have Hk:=zH hb5;clear hb5)))
 have H3:=zH ((Hk.o.block _ (show w.heap.size<w4.heap.size from(zab.1 HI.o).1)).trans HI.o);have HU:=zH ((Hk.o.block _ (show g<w4.heap.size from(zab.1 Hy.o).1)).trans Hy.o);have H2:=zH (Hw.o.trans (Hk.o.mono Hw.o.size));clear HM Hu H4 H5 Hi;obtain⟨W,hW⟩:∃ W,w5.drew=W:=⟨_,rfl⟩;have HO:=zH (show Below w.heap.size w W by rw[←hW];exact H2.o.drew);have HJ:=zH (show W.heap[w.heap.size]?=some (.cells (bv (readS s).ub).toArray 113 (0,0))by rw[←hW];exact H3.o);have HV:=zH (show W.heap[g]?=some (.cells (bv s).toArray 5 (0,0))by rw[←hW];exact HU.o);have H6:=zH (show W.rangeAt w.heap.size 0 (bv (readS s).ub)by
  intro j v hv;rw[zaO,zan W _ _ _ _ _ HJ.o];simpa using hv)
 have Hj:=zH (show(bv (readS s).ub).length=48 by rw[bv_len,←HT.o.1,Ht.o]);have e1:IntKind.i64.wrap (n2:Int)=(n2:Int):=zaJ _ (by omega);have e2:IntKind.i64.wrap ((n2:Int)-1)=(n2:Int)-1:=zaJ _ (by omega);have Hc:=zH (show(readS s).ok=(decide (0<n8)&&decide (n8<9223372036854775808)&&(n4==crcN (s.take 58)))by
  have HK:=Hz.o;rw[zcF,zcF]at HK;unfold readS;simp only[HA.o];rw[show(List.drop 58 s)=List.drop (8+2+48) s from rfl,HK])
 have Hq:=zH (show w5.drew.heap[w.heap.size]?=some (.cells (bv (readS s).ub).toArray 113 (0,0))∧w5.drew.heap[g]?=some (.cells (bv s).toArray 5 (0,0))∧Below w.heap.size w w5.drew by rw[hW];exact⟨HJ.o,HV.o,HO.o⟩);clear hW;have E1:=zH e1;have E2:=zH e2;clear e1 e2;have He:=zH (show ∀ V:World,(V.heap[w.heap.size]?=some (.cells (bv (readS s).ub).toArray 113 (0,0))∧V.heap[g]?=some (.cells (bv s).toArray 5 (0,0))∧Below w.heap.size w V)→(loadVar 113 ⟨w.heap.size,0,none⟩).run Tryz.prog V=.ok (.agg (bv (readS s).ub).toArray) V from fun V hV=>
  run_loadVar_mid V w.heap.size 0 113 (bv (readS s).ub) _ (fun j v hv=>by rw[zaO,zan V _ _ _ _ _ hV.1];simpa using hv) Tryz.underlying113 rfl (by rw[Hj.o];kernel_rfl))
 have Hr:=zH (show ∀ V:World,(V.heap[w.heap.size]?=some (.cells (bv (readS s).ub).toArray 113 (0,0))∧V.heap[g]?=some (.cells (bv s).toArray 5 (0,0))∧Below w.heap.size w V)→((V.setCells w.heap.size 0 (bv (readS s).ub).toArray.toList).heap[w.heap.size]?=some (.cells (bv (readS s).ub).toArray 113 (0,0))∧(V.setCells w.heap.size 0 (bv (readS s).ub).toArray.toList).heap[g]?=some (.cells (bv s).toArray 5 (0,0))∧Below w.heap.size w (V.setCells w.heap.size 0 (bv (readS s).ub).toArray.toList))from fun V hV=>by
  refine⟨?_,?_,below_setCells hV.2.2 (zac _) _ _⟩
  ·exact qda hV.1 _ (by simp)
  ·rw[World.heap_setCells_other V w.heap.size 0 _ (zab.1 hV.2.1).1 (by have:=Hp.o;omega)];exact hV.2.1)
 have Hb:=zH (show ∀ (V:World) (x:Bool),(readS s).ok=x→Below w.heap.size w V→SbF s w (.returned (.tuple #[.int .u64 (n8:Int),.int .i64 ((n2:Int)-1),.agg (bv (readS s).ub).toArray,.bool x,.int .i64 0])) V from fun V x hx hb=>⟨by rw[hx,show(readS s).gen=n8 from HA.o,show(readS s).root1=n2 from HW.o],hb⟩);obtain⟨cr,hcr⟩:∃ cr,crcN (s.take 58)=cr:=⟨_,rfl⟩;have Hs:=zH (show ∀ V:World,(V.heap[w.heap.size]?=some (.cells (bv (readS s).ub).toArray 113 (0,0))∧V.heap[g]?=some (.cells (bv s).toArray 5 (0,0))∧Below w.heap.size w V)→Calls Tryz.prog 67 #[.slice (some ⟨g,0,none⟩) 58 64] V fun e w'=>e=.returned (.int .u32 (cr:Nat))∧V=w' from fun V hV=>by
  have:=sumN (some ⟨g,0,none⟩) 64 58 (s.take 58) V ((By.of_block hV.2.1 rfl).take 58) (by rw[zag,HL.o];rfl) (HX.o.below hV.2.2) (by omega)
  rwa [hcr]at this)
 have HQ:=zH hcr;have E4:=zH (show IntKind.u32.wrap (n4:Int)=(n4:Int)by
  have h4:n4<4294967296:=by
   rw[←Hz.o];have:=qfS ((((s.drop 8).drop 2).drop 48).take 4)
   rwa [show((((s.drop 8).drop 2).drop 48).take 4).length=4 by rw[zag,HT.o.2.2];rfl]at this
  exact IntWalk.u32_in _ (by omega))
 clear hcr;by_cases hz:n8=0
 ·have HZ:=zH hz;have Hm:=zH (show decide (0<n8)=false from zal (by omega));clear hz;refine wp_region_held_drew (S:=fun V=>V.heap[w.heap.size]?=some (.cells (bv (readS s).ub).toArray 113 (0,0))∧V.heap[g]?=some (.cells (bv s).toArray 5 (0,0))∧Below w.heap.size w V) (by kernel_rfl) Hq.o (fun hHeld=>?_);refine zU 0 53 (.int .u64 (n8:Int)) ?_;try simp only[zS]
  refine zU 1 54 (.int .u64 (n2:Int)) ?_;try simp only[zS]
  refine zT 2 55 (.int .i64 (n2:Int)) rfl (Or.inl ⟨by rfl,fun W hS=>by have e1:=E1.o;go_simp⟩) ?_;try simp only[zS]
  refine zT 3 56 (.int .i64 ((n2:Int)-1)) rfl (Or.inl ⟨by rfl,fun W hS=>by have e2:=E2.o;go_simp⟩) ?_;try simp only[zS]
  refine zT 4 57 (.agg (bv (readS s).ub).toArray) rfl (Or.inl ⟨by rfl,fun W hS=>qbK 113 (.tmp 8) rfl w.heap.size 0 rfl (He.o W hS)⟩) ?_;try simp only[zS]
  refine zU 5 58 (.int .u64 (n8:Int)) ?_;try simp only[zS]
  refine zT 6 59 (.bool false) rfl (Or.inl ⟨by rfl,fun W hS=>by go_simp;exact HZ.o⟩) ?_;try simp only[zS]
  refine zU 7 60 (.bool false) ?_;try simp only[zS]
  refine zT 8 61 (undef) rfl (Or.inr ⟨by rfl,rfl⟩) ?_;try simp only[zS]
  refine zT 9 62 (undef) rfl (Or.inr ⟨by rfl,rfl⟩) ?_;try simp only[zS]
  refine zU 10 63 (.bool false) ?_;try simp only[zS]
  refine zU 11 64 (.bool false) ?_;try simp only[zS]
  refine zT 12 65 (undef) rfl (Or.inr ⟨by rfl,rfl⟩) ?_;try simp only[zS]
  refine zT 13 66 (undef) rfl (Or.inr ⟨by rfl,rfl⟩) ?_;try simp only[zS]
  refine zT 14 67 (undef) rfl (Or.inr ⟨by rfl,rfl⟩) ?_;try simp only[zS]
  refine zT 15 68 (undef) rfl (Or.inr ⟨by rfl,rfl⟩) ?_;try simp only[zS]
  refine zT 16 69 (undef) rfl (Or.inr ⟨by rfl,rfl⟩) ?_;try simp only[zS]
  refine zT 17 70 (undef) rfl (Or.inr ⟨by rfl,rfl⟩) ?_;try simp only[zS]
  refine zU 18 71 (.bool false) ?_;try simp only[zS]
  refine zU 19 6 (.int .u64 (n8:Int)) ?_;try simp only[zS]
  refine zU 20 7 (.int .i64 ((n2:Int)-1)) ?_;try simp only[zS]
  refine wpAnyH_ready (rs:=[21]) (by kernel_rfl) (by simp) ?_;refine AllReadyH.cons rfl (fun K hK=>?_) AllReadyH.nil;refine Eq.mpr (zaw (by rfl)) ?_;refine wp_store_mid 113 (.tmp 8) (.tmp 57) rfl w.heap.size 0 (bv (readS s).ub).toArray rfl rfl (there_of_block hHeld.1 0 (by rw[zaO];exact zac _)) (by rw[zaz,Hj.o];kernel_rfl) (all_oneCell_toArray (qaw _)) ?_;refine hK.out _ _ (Hr.o _ hHeld) (fun hHeld3=>?_);clear hK K;try simp only[zS]
  generalize (w5.drew).setCells w.heap.size 0 (bv (readS s).ub).toArray.toList=V at hHeld3⊢;refine zU 22 9 (.bool false) ?_;try simp only[zS]
  refine zU 23 10 (.int .i64 0) ?_;try simp only[zS]
  refine wpAnyH_done (by kernel_rfl) ?_ _;clear hHeld;have Hh:=zH (He.o V hHeld3);have Hg:=zH hHeld3.2.2;clear hHeld3;go_wp2;refine zbs (qcM (v:=.agg (bv (readS s).ub).toArray) rfl _ _ _ ⟨w.heap.size,0,none⟩ rfl Hh.o) rfl ?_;exact Hb.o V (false) (by rw[Hc.o,Hm.o];rfl) Hg.o
 ·have HZ:=zH (show 0<n8 by omega);have Hm:=zH (show decide (0<n8)=true from zas (by omega));clear hz;by_cases hy:n8<9223372036854775808
  ·have F2:=zH (show decide ((n8:Int)<9223372036854775808)=true from zas (by omega));have Hn:=zH (show decide (n8<9223372036854775808)=true from zas (by omega));clear hy;refine wp_region_held_drew (S:=fun V=>V.heap[w.heap.size]?=some (.cells (bv (readS s).ub).toArray 113 (0,0))∧V.heap[g]?=some (.cells (bv s).toArray 5 (0,0))∧Below w.heap.size w V) (by kernel_rfl) Hq.o (fun hHeld=>?_);refine zU 0 53 (.int .u64 (n8:Int)) ?_;try simp only[zS]
   refine zU 1 54 (.int .u64 (n2:Int)) ?_;try simp only[zS]
   refine zT 2 55 (.int .i64 (n2:Int)) rfl (Or.inl ⟨by rfl,fun W hS=>by have e1:=E1.o;go_simp⟩) ?_;try simp only[zS]
   refine zT 3 56 (.int .i64 ((n2:Int)-1)) rfl (Or.inl ⟨by rfl,fun W hS=>by have e2:=E2.o;go_simp⟩) ?_;try simp only[zS]
   refine zT 4 57 (.agg (bv (readS s).ub).toArray) rfl (Or.inl ⟨by rfl,fun W hS=>qbK 113 (.tmp 8) rfl w.heap.size 0 rfl (He.o W hS)⟩) ?_;try simp only[zS]
   refine zU 5 58 (.int .u64 (n8:Int)) ?_;try simp only[zS]
   refine zT 6 59 (.bool true) rfl (Or.inl ⟨by rfl,fun W hS=>by go_simp;exact HZ.o⟩) ?_;try simp only[zS]
   refine zU 7 60 (.bool true) ?_;try simp only[zS]
   refine zU 8 61 (.int .u64 (n8:Int)) ?_;try simp only[zS]
   refine zT 9 62 (.bool true) rfl (Or.inl ⟨by rfl,fun W hS=>by have f2:=F2.o;go_simp⟩) ?_;try simp only[zS]
   refine zU 10 63 (.bool true) ?_;try simp only[zS]
   refine zU 11 64 (.bool true) ?_;try simp only[zS]
   refine zU 12 65 (.int .u64 (n4:Int)) ?_;try simp only[zS]
   refine zT 13 66 (.int .u32 (n4:Int)) rfl (Or.inl ⟨by rfl,fun W hS=>by have e4:=E4.o;go_simp⟩) ?_;try simp only[zS]
   refine zU 14 67 (.slice (some ⟨g,0,none⟩) 64 64) ?_;try simp only[zS]
   refine zU 15 68 (.slice (some ⟨g,0,none⟩) 58 64) ?_;try simp only[zS]
   refine wpAnyH_ready (rs:=[16]) (by kernel_rfl) (by simp) ?_;refine AllReadyH.cons rfl (fun K hK=>?_) AllReadyH.nil;go_simp;go_at_call 67
   refine(Hs.o _ hHeld).mono ?_;rintro e wn ⟨rfl,rfl⟩;refine hK.out _ _ hHeld (fun hHeld2=>?_);clear hK K;try simp only[zS]
   refine zU 17 70 (.bool ((n4:Int)==(cr:Int))) ?_;try simp only[zS]
   refine zU 18 71 (.bool ((n4:Int)==(cr:Int))) ?_;try simp only[zS]
   refine zU 19 6 (.int .u64 (n8:Int)) ?_;try simp only[zS]
   refine zU 20 7 (.int .i64 ((n2:Int)-1)) ?_;try simp only[zS]
   refine wpAnyH_ready (rs:=[21]) (by kernel_rfl) (by simp) ?_;refine AllReadyH.cons rfl (fun K hK=>?_) AllReadyH.nil;refine Eq.mpr (zaw (by rfl)) ?_;refine wp_store_mid 113 (.tmp 8) (.tmp 57) rfl w.heap.size 0 (bv (readS s).ub).toArray rfl rfl (there_of_block hHeld.1 0 (by rw[zaO];exact zac _)) (by rw[zaz,Hj.o];kernel_rfl) (all_oneCell_toArray (qaw _)) ?_;refine hK.out _ _ (Hr.o _ hHeld) (fun hHeld3=>?_);clear hK K;try simp only[zS]
   generalize (w5.drew).setCells w.heap.size 0 (bv (readS s).ub).toArray.toList=V at hHeld3⊢;refine zU 22 9 (.bool ((n4:Int)==(cr:Int))) ?_;try simp only[zS]
   refine zU 23 10 (.int .i64 0) ?_;try simp only[zS]
   refine wpAnyH_done (by kernel_rfl) ?_ _;clear hHeld;have Hh:=zH (He.o V hHeld3);have Hg:=zH hHeld3.2.2;clear hHeld3;go_wp2;refine zbs (qcM (v:=.agg (bv (readS s).ub).toArray) rfl _ _ _ ⟨w.heap.size,0,none⟩ rfl Hh.o) rfl ?_;exact Hb.o V (((n4:Int)==(cr:Int))) (by rw[Hc.o,HQ.o,qk0,Hm.o,Hn.o];rfl) Hg.o
  ·have F2:=zH (show decide ((n8:Int)<9223372036854775808)=false from zal (by omega));have Hn:=zH (show decide (n8<9223372036854775808)=false from zal (by omega));clear hy;refine wp_region_held_drew (S:=fun V=>V.heap[w.heap.size]?=some (.cells (bv (readS s).ub).toArray 113 (0,0))∧V.heap[g]?=some (.cells (bv s).toArray 5 (0,0))∧Below w.heap.size w V) (by kernel_rfl) Hq.o (fun hHeld=>?_);refine zU 0 53 (.int .u64 (n8:Int)) ?_;try simp only[zS]
   refine zU 1 54 (.int .u64 (n2:Int)) ?_;try simp only[zS]
   refine zT 2 55 (.int .i64 (n2:Int)) rfl (Or.inl ⟨by rfl,fun W hS=>by have e1:=E1.o;go_simp⟩) ?_;try simp only[zS]
   refine zT 3 56 (.int .i64 ((n2:Int)-1)) rfl (Or.inl ⟨by rfl,fun W hS=>by have e2:=E2.o;go_simp⟩) ?_;try simp only[zS]
   refine zT 4 57 (.agg (bv (readS s).ub).toArray) rfl (Or.inl ⟨by rfl,fun W hS=>qbK 113 (.tmp 8) rfl w.heap.size 0 rfl (He.o W hS)⟩) ?_;try simp only[zS]
   refine zU 5 58 (.int .u64 (n8:Int)) ?_;try simp only[zS]
   refine zT 6 59 (.bool true) rfl (Or.inl ⟨by rfl,fun W hS=>by go_simp;exact HZ.o⟩) ?_;try simp only[zS]
   refine zU 7 60 (.bool true) ?_;try simp only[zS]
   refine zU 8 61 (.int .u64 (n8:Int)) ?_;try simp only[zS]
   refine zT 9 62 (.bool false) rfl (Or.inl ⟨by rfl,fun W hS=>by have f2:=F2.o;go_simp⟩) ?_;try simp only[zS]
   refine zU 10 63 (.bool false) ?_;try simp only[zS]
   refine zU 11 64 (.bool false) ?_;try simp only[zS]
   refine zT 12 65 (undef) rfl (Or.inr ⟨by rfl,rfl⟩) ?_;try simp only[zS]
   refine zT 13 66 (undef) rfl (Or.inr ⟨by rfl,rfl⟩) ?_;try simp only[zS]
   refine zT 14 67 (undef) rfl (Or.inr ⟨by rfl,rfl⟩) ?_;try simp only[zS]
   refine zT 15 68 (undef) rfl (Or.inr ⟨by rfl,rfl⟩) ?_;try simp only[zS]
   refine zT 16 69 (undef) rfl (Or.inr ⟨by rfl,rfl⟩) ?_;try simp only[zS]
   refine zT 17 70 (undef) rfl (Or.inr ⟨by rfl,rfl⟩) ?_;try simp only[zS]
   refine zU 18 71 (.bool false) ?_;try simp only[zS]
   refine zU 19 6 (.int .u64 (n8:Int)) ?_;try simp only[zS]
   refine zU 20 7 (.int .i64 ((n2:Int)-1)) ?_;try simp only[zS]
   refine wpAnyH_ready (rs:=[21]) (by kernel_rfl) (by simp) ?_;refine AllReadyH.cons rfl (fun K hK=>?_) AllReadyH.nil;refine Eq.mpr (zaw (by rfl)) ?_;refine wp_store_mid 113 (.tmp 8) (.tmp 57) rfl w.heap.size 0 (bv (readS s).ub).toArray rfl rfl (there_of_block hHeld.1 0 (by rw[zaO];exact zac _)) (by rw[zaz,Hj.o];kernel_rfl) (all_oneCell_toArray (qaw _)) ?_;refine hK.out _ _ (Hr.o _ hHeld) (fun hHeld3=>?_);clear hK K;try simp only[zS]
   generalize (w5.drew).setCells w.heap.size 0 (bv (readS s).ub).toArray.toList=V at hHeld3⊢;refine zU 22 9 (.bool false) ?_;try simp only[zS]
   refine zU 23 10 (.int .i64 0) ?_;try simp only[zS]
   refine wpAnyH_done (by kernel_rfl) ?_ _;clear hHeld;have Hh:=zH (He.o V hHeld3);have Hg:=zH hHeld3.2.2;clear hHeld3;go_wp2;refine zbs (qcM (v:=.agg (bv (readS s).ub).toArray) rfl _ _ _ ⟨w.heap.size,0,none⟩ rfl Hh.o) rfl ?_;exact Hb.o V (false) (by rw[Hc.o,Hn.o,Bool.and_false];rfl) Hg.o
section
section
variable {P:Program}
theorem qd2 (w:World)(g o:Nat)(ty:TypeId)(v:Value)(ht:w.there g o 1)(hi:(P.info? ty).map (·.size)=some 1)(h1:v.oneCell'=true):(storeVar ty ⟨g,o,none⟩ v).run P w=.ok () (w.setCell ⟨g,o,none⟩ v):=by
 have hc:v.cells=#[v]:=by cases v<;>first|rfl|cases h1
 have hr:=zcT (P:=P) g o [v] 0 w (fun j hj=>by
  have:=ht j (by simpa using hj);simpa only [zbX] using this.1) (fun j hj=>by
  have:=ht j (by simpa using hj);simpa only [zbX] using this.2) (fun x hx=>by simp at hx;subst hx;exact h1)
 simp only[zbX]at hr;cases hq:P.info? ty with
 | none=>simp[hq]at hi
 | some i=>
  have hs:i.size=1:=by simpa [hq] using hi
  simp[storeVar,sizeOf,typeInfo,hq,hc,hs,hr];rfl
theorem qaA {op:Oper}{a:Act}{w:World}{K:Act→World→Prop}{Q:Exit→Act→World→Prop}(ty:TypeId)(x y:Operand)(ho:op.op=.store ty x y)(g o:Nat)(v:Value)
  (hx:a.eval x=.pointer (some ⟨g,o,none⟩))(hy:a.eval y=v)(ht:w.there g o 1)(hi:(P.info? ty).map (·.size)=some 1)(h1:v.oneCell'=true)(h:K (a.put op.dst undef) (w.setCell ⟨g,o,none⟩ v)):op.wp P a w K Q:=by
 unfold Oper.wp execOp;simp only[ho,hx,hy,Instr.storeAt,Instr.sureAddr,zbF,zb2,zbh,qd2 w g o ty v ht hi h1];exact h
end
end
end Go.Proofs.YtpmebcgmgfcmiaaGreatDoor
namespace Go.Proofs.YtpmebcgmgfcmiaaGreatDoor
section
section
variable {P:Program} {ops:Array Oper} {Q:Exit→Act→World→Prop} {md:Region.Mode} {S:World→Prop}
theorem AllReadyG.store {st:List Nat}{f:Nat}{l:Array Bool}{a:Act}{w:World}{i:Nat}{o:Oper}{rs:List Nat}(ho:ops[i]?=some o)(ty:TypeId)(x y:Operand)(hop:o.op=.store ty x y)(hgd:o.guard=none)(hd:o.dst=none)(g off:Nat)(v:Value)
  (hx:a.eval x=.pointer (some ⟨g,off,none⟩))(hy:a.eval y=v)(ht:w.there g off 1)(hi:(P.info? ty).map (·.size)=some 1)(h1:v.oneCell'=true)(hG:Gate st (l.setIfInBounds i true) S (w.setCell ⟨g,off,none⟩ v))
  (h:qa0 P md ops Q S st f (l.setIfInBounds i true) a (w.setCell ⟨g,off,none⟩ v))(hs:AllReadyG P md ops Q S st f l a w rs):AllReadyG P md ops Q S st f l a w (i::rs):=
 AllReadyG.cons ho (fun K hK=>by
  rw[zaw (by simp[Region.wanted,hgd])];refine qaA ty x y hop g off v hx hy ht hi h1 (hK.out _ _ hG fun _=>?_);rw[hd];exact h) hs
theorem AllReadyG.ev {st:List Nat}{f:Nat}{l:Array Bool}{a:Act}{w:World}{i:Nat}{o:Oper}{rs:List Nat}(dd:Option Nat)(ho:ops[i]?=some o)(hd:o.dst=dd)
  (h:∀ K':Act→World→Prop,Shut (∀ v w,Gate st (l.setIfInBounds i true) S w→(Gate st (l.setIfInBounds i true) S w→qa0 P md ops Q S st f (l.setIfInBounds i true) (a.put dd v) w)→K' (a.put o.dst v) w)→if Region.wanted o (yielded ops a.tmps)=true then Oper.wp P o a w K' Q else K' (a.put o.dst undef) w)
  (hs:AllReadyG P md ops Q S st f l a w rs):AllReadyG P md ops Q S st f l a w (i::rs):=by
 subst hd;exact AllReadyG.cons ho (fun K hK=>h K fun v w hG hW=>hK.out _ _ hG hW) hs
end
end
end Go.Proofs.YtpmebcgmgfcmiaaGreatDoor
namespace Go.Proofs.YtpmebcgmgfcmiaaGreatDoor
open Go.RowKit BT
variable {w w':World}{S F S':Nat→Prop}{x k:Kd}{xs:List Kd}{b i n N j off:Nat}{A:Option Addr}{l:Bs}{us:List Value}
structure ByS (w:World) (S:Nat→Prop) (A:Option Addr) (l:Bs):Prop where
 by_:By w A l
 blk:∀ ad,A=some ad→0<l.length→S ad.block
def RowV (w:World)(S:Nat→Prop):List Value→List Bs→Prop
 | [],ks=>ks=[]
 | v::vs,ks=>∃ k r B c,ks=k::r∧v=.slice B k.length c∧k.length≤c∧ByS w S B k∧RowV w S vs r
def Thw (w:World)(b:Nat):Prop:=b<w.heap.size∧∀ i,w.frozen? ⟨b,i,none⟩=false
structure SrcS (w:World) (S:Nat→Prop) (size:Nat) (A:Option Addr) (n:Nat) (us:List Value):Prop where
 src:Src w size A n us
 form:0<n→∃ b off,A=some ⟨b,off,none⟩∧S b
 thaw:0<n→∀ b off,A=some ⟨b,off,none⟩→Thw w b
structure Nc (w:World) (N:Nat) (leaf:Bool) (K:Option Addr) (nk ck:Nat) (V:Option Addr) (nv cv:Nat) (X:Option Addr) (nx cx:Nat):Prop where
 c0:w.cell? ⟨N,0,none⟩=some (.bool leaf)
 c1:w.cell? ⟨N,1,none⟩=some (.slice K nk ck)
 c2:w.cell? ⟨N,2,none⟩=some (.slice V nv cv)
 c3:w.cell? ⟨N,3,none⟩=some (.slice X nx cx)
 hk:nk≤ck
 hv:nv≤cv
 hx:nx≤cx
abbrev Kv:=Int×Option Nat
def qaI (v:Kv):List Value:=[.int .i64 v.1,.pointer (v.2.map fun N=>⟨N,0,none⟩)]
def slotsAt (X:Option Addr)(n:Nat):List (Nat×Nat):=match X with
 | none=>[]
 | some a=>(List.range n).map fun j=>(a.block,a.off+j*2)
mutual
def NM (w:World)(S:Nat→Prop):Kd→Nat→List (Nat×Nat)→Prop
 | .page _,_,_=>False
 | .leaf ps,N,L=>L=[]∧S N∧∃ K ck V cv X cx vk vv,Nc w N true K ps.length ck V ps.length cv X 0 cx∧SrcS w S 1 K ps.length vk∧RowV w S vk (ps.map Prod.fst)∧SrcS w S 1 V ps.length vv∧RowV w S vv (ps.map Prod.snd)
 | .inner ks xs,N,L=>S N∧∃ K ck V cv X cx vk vs L',Nc w N false K ks.length ck V 0 cv X xs.length cx∧SrcS w S 1 K ks.length vk∧RowV w S vk ks∧SrcS w S 2 X xs.length (vs.flatMap qaI)∧KM w S xs vs L'∧L=slotsAt X xs.length++L'
def KM (w:World)(S:Nat→Prop):List Kd→List Kv→List (Nat×Nat)→Prop
 | [],vs,L=>vs=[]∧L=[]
 | x::xs,vs,L=>∃ v r L1 L2,vs=v::r∧L=L1++L2∧KM w S xs r L2∧((∃ p:Nat,x=.page p∧v=((p:Int),none)∧L1=[])∨∃ N,v=(0,some N)∧NM w S x N L1)
end
def KidM (w:World)(S:Nat→Prop)(x:Kd)(v:Kv)(L:List (Nat×Nat)):Prop:=(∃ p:Nat,x=.page p∧v=((p:Int),none)∧L=[])∨∃ N,v=(0,some N)∧NM w S x N L
theorem km_cons {vs:List Kv}{L:List (Nat×Nat)}:KM w S (x::xs) vs L↔∃ v r L1 L2,vs=v::r∧L=L1++L2∧KM w S xs r L2∧KidM w S x v L1:=by
 simp only[KM,KidM]
theorem qkg {w:World}{S:Nat→Prop}:∀ {xs:List Kd} {vs:List Kv} {L:List (Nat×Nat)},KM w S xs vs L→vs.length=xs.length
 | [],vs,L,h=>by simp only[KM]at h;rw[h.1];rfl
 | x::xs,vs,L,h=>by
  obtain⟨v,r,L1,L2,rfl,_,h,_⟩:=km_cons.1 h;simp[qkg h]
theorem qbw (v:Kv):(qaI v).length=2:=rfl
theorem qcg (vs:List Kv):(vs.flatMap qaI).length=vs.length*2:=qb4 fun _ _=>rfl
structure Same (S:Nat→Prop) (C:Nat→Nat→Prop) (w w':World):Prop where
 size:w.heap.size≤w'.heap.size
 cell:∀ b i,S b→b<w.heap.size→¬C b i→w'.cell? ⟨b,i,none⟩=w.cell? ⟨b,i,none⟩
 kid:∀ b i v,S b→C b i→w.cell? ⟨b,i,none⟩=some v→(∃ n,v=.int .i64 n)∨∃ p,v=.pointer p
 fr:∀ b i,S b→b<w.heap.size→w'.frozen? ⟨b,i,none⟩=w.frozen? ⟨b,i,none⟩
theorem Thw.same {C:Nat→Nat→Prop}(t:Thw w b)(h:Same S C w w')(hS:S b):Thw w' b:=⟨zam t.1 h.size,fun i=>(h.fr b i hS t.1).trans (t.2 i)⟩
theorem Same.of_touch (h:Touch F w w')(hd:∀ b,S b→¬F b):Same S (fun _ _=>False) w w':=
 ⟨h.size,fun b i hS hb _=>qag h hb (hd b hS),fun _ _ _ _ h=>h.elim,fun b i hS hb=>World.frozen?_of_block (a:=⟨b,i,none⟩) (h.block b hb (hd b hS))⟩
theorem Same.of_below (h:Below w.heap.size w w'):Same S (fun _ _=>False) w w':=
 ⟨h.size,fun b i _ hb _=>h.cell (p:=⟨b,i,none⟩) hb,fun _ _ _ _ h=>h.elim,fun b i _ hb=>h.frozen (p:=⟨b,i,none⟩) hb⟩
theorem cell_lt {v:Value}(h:w.cell? ⟨b,i,none⟩=some v):b<w.heap.size:=zaH w ⟨b,i,none⟩ h
theorem Same.keep {C:Nat→Nat→Prop}(h:Same S C w w'){v:Value}(hS:S b)(hc:w.cell? ⟨b,i,none⟩=some v)(h1:∀ n,v≠.int .i64 n)(h2:∀ p,v≠.pointer p):w'.cell? ⟨b,i,none⟩=some v:=by
 rw[h.cell b i hS (cell_lt hc) fun hC=>?_]
 ·exact hc
 ·rcases h.kid b i v hS hC hc with⟨n,e⟩|⟨p,e⟩
  ·exact h1 n e
  ·exact h2 p e
theorem ByS.same {C:Nat→Nat→Prop}(h:Same S C w w')(hb:ByS w S A l):ByS w' S A l:=by
 refine⟨⟨fun h0=>?_⟩,hb.blk⟩;obtain⟨b,off,e,hl,hc⟩:=hb.by_.at_ h0;have hS:=hb.blk _ e h0;exact⟨b,off,e,zam hl h.size,fun k c hk=>h.keep hS (hc k c hk) (by simp) (by simp)⟩
theorem RowV.same {S:Nat→Prop}{C:Nat→Nat→Prop}{w w':World}(h:Same S C w w'):∀ {vs:List Value} {ks:List Bs},RowV w S vs ks→RowV w' S vs ks
 | [],ks,hr=>hr
 | v::vs,ks,hr=>by
  obtain⟨k,r,B,c,e1,e2,e3,e4,e5⟩:=hr;exact⟨k,r,B,c,e1,e2,e3,e4.same h,RowV.same h e5⟩
theorem RowV.len {w:World}{S:Nat→Prop}:∀ {vs:List Value} {ks:List Bs},RowV w S vs ks→vs.length=ks.length
 | [],ks,hr=>by rw[hr];rfl
 | v::vs,ks,hr=>by
  obtain⟨k,r,B,c,rfl,_,_,_,e5⟩:=hr;simp[e5.len]
theorem RowV.val {w:World}{S:Nat→Prop}:∀ {vs:List Value} {ks:List Bs},RowV w S vs ks→∀ u∈vs,∃ B n c,u=.slice B n c
 | [],ks,hr,u,hu=>by cases hu
 | v::vs,ks,hr,u,hu=>by
  obtain⟨k,r,B,c,rfl,rfl,_,_,e5⟩:=hr;rcases za0.1 hu with rfl|hu
  ·exact⟨_,_,_,rfl⟩
  ·exact e5.val u hu
theorem Addr.add_at (b off j:Nat):(Addr.mk b off none).add j=⟨b,off+j,none⟩:=by
 unfold Addr.add;by_cases h1:j=0
 ·subst h1;simp
 ·rw[zaB h1]
theorem SrcS.at_ {size:Nat}(h:SrcS w S size A n us)(hn:0<n):∃ b off,A=some ⟨b,off,none⟩∧S b∧∀ j u,us[j]?=some u→w.cell? ⟨b,off+j,none⟩=some u:=by
 obtain⟨b,off,rfl,hS⟩:=h.form hn;obtain⟨ad,e,hc⟩:=h.src.at_ hn;cases e;refine⟨b,off,rfl,hS,fun j u hu=>?_⟩;rw[←Addr.add_at];exact hc j u hu
theorem SrcS.mk' {size:Nat}(hl:us.length=n*size)(h:0<n→∃ b off,A=some ⟨b,off,none⟩∧S b∧(∀ j u,us[j]?=some u→w.cell? ⟨b,off+j,none⟩=some u)∧Thw w b):SrcS w S size A n us:=
 ⟨⟨hl,fun hn=>by
  obtain⟨b,off,e,_,hc,_⟩:=h hn;exact⟨_,e,fun j u hu=>by rw[Addr.add_at];exact hc j u hu⟩⟩,fun hn=>by
  obtain⟨b,off,e,hS,_⟩:=h hn;exact⟨b,off,e,hS⟩,fun hn c o e=>by
  obtain⟨b,off,e2,_,_,ht⟩:=h hn;rw[e]at e2;cases e2;exact ht⟩
theorem SrcS.same {C:Nat→Nat→Prop}(h:Same S C w w'){size:Nat}(hs:SrcS w S size A n us)(hu:∀ u∈us,∃ B n c,u=.slice B n c):SrcS w' S size A n us:=
 SrcS.mk' hs.src.len fun hn=>by
  obtain⟨b,off,e,hS,hc⟩:=hs.at_ hn;refine⟨b,off,e,hS,fun j u hj=>?_,(hs.thaw hn b off e).same h hS⟩;obtain⟨B,m,c,rfl⟩:=hu u (zak hj);exact h.keep hS (hc j _ hj) (by simp) (by simp)
theorem SrcS.same_kids {C:Nat→Nat→Prop}(h:Same S C w w')(hs:SrcS w S 2 A n us)(hC:∀ x∈slotsAt A n,¬C x.1 x.2∧¬C x.1 (x.2+1)):SrcS w' S 2 A n us:=
 SrcS.mk' hs.src.len fun hn=>by
  obtain⟨b,off,rfl,hS,hc⟩:=hs.at_ hn;refine⟨b,off,rfl,hS,fun j u hj=>?_,(hs.thaw hn b off rfl).same h hS⟩;have hl:=hs.src.len;have hjl:=(zae.1 hj).1;have hm:(b,off+j / 2*2)∈slotsAt (some ⟨b,off,none⟩) n:=zbg.2 ⟨j / 2,zbb.2 (by omega),rfl⟩;have h2:=hC _ hm;rw[h.cell b (off+j) hS (cell_lt (hc j u hj)) ?_]
  ·exact hc j u hj
  ·by_cases hp:j % 2=0
   ·rw[show off+j=off+j / 2*2 by omega];exact h2.1
   ·rw[show off+j=off+j / 2*2+1 by omega];exact h2.2
theorem Nc.same {C:Nat→Nat→Prop}(h:Same S C w w'){leaf:Bool}{K:Option Addr}{nk ck:Nat}{V:Option Addr}{nv cv:Nat}{X:Option Addr}{nx cx:Nat}(hS:S N)(hn:Nc w N leaf K nk ck V nv cv X nx cx):Nc w' N leaf K nk ck V nv cv X nx cx:=
 ⟨h.keep hS hn.c0 (by simp) (by simp),h.keep hS hn.c1 (by simp) (by simp),h.keep hS hn.c2 (by simp) (by simp),h.keep hS hn.c3 (by simp) (by simp),hn.hk,hn.hv,hn.hx⟩
mutual
theorem NM.same {S:Nat→Prop}{C:Nat→Nat→Prop}{w w':World}(h:Same S C w w'):∀ (k:Kd) (N:Nat) (L:List (Nat×Nat)),(∀ x∈L,¬C x.1 x.2∧¬C x.1 (x.2+1))→NM w S k N L→NM w' S k N L
 | .page _,N,L,_,hn=>by simp only[NM]at hn
 | .leaf ps,N,L,hC,hn=>by
  simp only[NM]at hn⊢;obtain⟨a1,a2,K,ck,V,cv,X,cx,vk,vv,b1,b2,b3,b4,b5⟩:=hn;exact⟨a1,a2,K,ck,V,cv,X,cx,vk,vv,b1.same h a2,b2.same h b3.val,b3.same h,b4.same h b5.val,b5.same h⟩
 | .inner ks xs,N,L,hC,hn=>by
  simp only[NM]at hn⊢;obtain⟨a2,K,ck,V,cv,X,cx,vk,vs,L',b1,b2,b3,b4,b5,rfl⟩:=hn;exact⟨a2,K,ck,V,cv,X,cx,vk,vs,L',b1.same h a2,b2.same h b3.val,b3.same h,b4.same_kids h fun x hx=>hC x (zaX _ hx),KM.same h xs vs L' (fun x hx=>hC x (zay _ hx)) b5,rfl⟩
theorem KM.same {S:Nat→Prop}{C:Nat→Nat→Prop}{w w':World}(h:Same S C w w'):∀ (xs:List Kd) (vs:List Kv) (L:List (Nat×Nat)),(∀ x∈L,¬C x.1 x.2∧¬C x.1 (x.2+1))→KM w S xs vs L→KM w' S xs vs L
 | [],vs,L,_,hk=>by simp only[KM]at hk⊢;exact hk
 | x::xs,vs,L,hC,hk=>by
  simp only[KM]at hk⊢;obtain⟨v,r,L1,L2,rfl,rfl,h1,h2⟩:=hk;refine⟨v,r,L1,L2,rfl,rfl,KM.same h xs r L2 (fun x hx=>hC x (zay _ hx)) h1,?_⟩;rcases h2 with h2|⟨N,e,h2⟩
  ·exact .inl h2
  ·exact .inr ⟨N,e,NM.same h x N L1 (fun x hx=>hC x (zaX _ hx)) h2⟩
end
theorem ByS.mono (h:ByS w S A l)(hS:∀ b,S b→S' b):ByS w S' A l:=⟨h.by_,fun ad e h0=>hS _ (h.blk ad e h0)⟩
theorem RowV.mono {w:World}{S S':Nat→Prop}(hS:∀ b,S b→S' b):∀ {vs:List Value} {ks:List Bs},RowV w S vs ks→RowV w S' vs ks
 | [],ks,hr=>hr
 | v::vs,ks,hr=>by
  obtain⟨k,r,B,c,e1,e2,e3,e4,e5⟩:=hr;exact⟨k,r,B,c,e1,e2,e3,e4.mono hS,RowV.mono hS e5⟩
theorem SrcS.mono {size:Nat}(h:SrcS w S size A n us)(hS:∀ b,S b→S' b):SrcS w S' size A n us:=⟨h.src,fun hn=>by
 obtain⟨b,off,e,h1⟩:=h.form hn;exact⟨b,off,e,hS b h1⟩,h.thaw⟩
mutual
theorem NM.mono {S S':Nat→Prop}{w:World}(hS:∀ b,S b→S' b):∀ (k:Kd) (N:Nat) (L:List (Nat×Nat)),NM w S k N L→NM w S' k N L
 | .page _,N,L,hn=>by simp only[NM]at hn
 | .leaf ps,N,L,hn=>by
  simp only[NM]at hn⊢;obtain⟨a1,a2,K,ck,V,cv,X,cx,vk,vv,b1,b2,b3,b4,b5⟩:=hn;exact⟨a1,hS _ a2,K,ck,V,cv,X,cx,vk,vv,b1,b2.mono hS,b3.mono hS,b4.mono hS,b5.mono hS⟩
 | .inner ks xs,N,L,hn=>by
  simp only[NM]at hn⊢;obtain⟨a2,K,ck,V,cv,X,cx,vk,vs,L',b1,b2,b3,b4,b5,rfl⟩:=hn;exact⟨hS _ a2,K,ck,V,cv,X,cx,vk,vs,L',b1,b2.mono hS,b3.mono hS,b4.mono hS,KM.mono hS xs vs L' b5,rfl⟩
theorem KM.mono {S S':Nat→Prop}{w:World}(hS:∀ b,S b→S' b):∀ (xs:List Kd) (vs:List Kv) (L:List (Nat×Nat)),KM w S xs vs L→KM w S' xs vs L
 | [],vs,L,hk=>by simp only[KM]at hk⊢;exact hk
 | x::xs,vs,L,hk=>by
  simp only[KM]at hk⊢;obtain⟨v,r,L1,L2,rfl,rfl,h1,h2⟩:=hk;refine⟨v,r,L1,L2,rfl,rfl,KM.mono hS xs r L2 h1,?_⟩;rcases h2 with h2|⟨N,e,h2⟩
  ·exact .inl h2
  ·exact .inr ⟨N,e,NM.mono hS x N L1 h2⟩
end
mutual
theorem NM.slots {S:Nat→Prop}{w:World}:∀ (k:Kd) (N:Nat) (L:List (Nat×Nat)),NM w S k N L→∀ x∈L,S x.1
 | .page _,N,L,hn=>by simp only[NM]at hn
 | .leaf ps,N,L,hn=>by
  simp only[NM]at hn;rw[hn.1];simp
 | .inner ks xs,N,L,hn=>by
  simp only[NM]at hn;obtain⟨a2,K,ck,V,cv,X,cx,vk,vs,L',b1,b2,b3,b4,b5,rfl⟩:=hn;intro x hx;rcases zar.1 hx with hx|hx
  ·unfold slotsAt at hx;split at hx
   ·cases hx
   ·obtain⟨j,hj,rfl⟩:=zbg.1 hx;have:=zbb.1 hj;obtain⟨b,off,e,hS⟩:=b4.form (by omega);cases e;exact hS
  ·exact KM.slots xs vs L' b5 x hx
theorem KM.slots {S:Nat→Prop}{w:World}:∀ (xs:List Kd) (vs:List Kv) (L:List (Nat×Nat)),KM w S xs vs L→∀ x∈L,S x.1
 | [],vs,L,hk=>by simp only[KM]at hk;rw[hk.2];simp
 | x::xs,vs,L,hk=>by
  simp only[KM]at hk;obtain⟨v,r,L1,L2,rfl,rfl,h1,h2⟩:=hk;intro y hy;rcases zar.1 hy with hy|hy
  ·rcases h2 with⟨p,_,_,rfl⟩|⟨N,e,h2⟩
   ·cases hy
   ·exact NM.slots x N L1 h2 y hy
  ·exact KM.slots xs r L2 h1 y hy
end
theorem NM.touch {L:List (Nat×Nat)}(h:NM w S k N L)(ht:Touch F w w')(hd:∀ b,S b→¬F b):NM w' S k N L:=NM.same (Same.of_touch ht hd) k N L (fun _ _=>⟨id,id⟩) h
theorem NM.below {L:List (Nat×Nat)}(h:NM w S k N L)(hb:Below w.heap.size w w'):NM w' S k N L:=NM.same (Same.of_below hb) k N L (fun _ _=>⟨id,id⟩) h
theorem KM.touch {vs:List Kv}{L:List (Nat×Nat)}(h:KM w S xs vs L)(ht:Touch F w w')(hd:∀ b,S b→¬F b):KM w' S xs vs L:=KM.same (Same.of_touch ht hd) xs vs L (fun _ _=>⟨id,id⟩) h
theorem KM.below {vs:List Kv}{L:List (Nat×Nat)}(h:KM w S xs vs L)(hb:Below w.heap.size w w'):KM w' S xs vs L:=KM.same (Same.of_below hb) xs vs L (fun _ _=>⟨id,id⟩) h
theorem RowV.append {w:World}{S:Nat→Prop}:∀ {a:List Value} {ks:List Bs} {b:List Value} {ls:List Bs},RowV w S a ks→RowV w S b ls→RowV w S (a++b) (ks++ls)
 | [],ks,b,ls,h,h2=>by
  have h:ks=[]:=h;subst h;exact h2
 | v::a,ks,b,ls,h,h2=>by
  obtain⟨k,r,B,c,rfl,e2,e3,e4,e5⟩:=h;exact⟨k,r++ls,B,c,rfl,e2,e3,e4,e5.append h2⟩
theorem RowV.nil (w:World)(S:Nat→Prop):RowV w S [] []:=rfl
theorem RowV.one {B:Option Addr}{k:Bs}{c:Nat}(hc:k.length≤c)(h:ByS w S B k):RowV w S [.slice B k.length c] [k]:=⟨k,[],B,c,rfl,rfl,hc,h,rfl⟩
theorem RowV.split {w:World}{S:Nat→Prop}:∀ {vs:List Value} {ks:List Bs} (n:Nat),RowV w S vs ks→RowV w S (vs.take n) (ks.take n)∧RowV w S (vs.drop n) (ks.drop n)
 | [],ks,n,h=>by
  have h:ks=[]:=h;subst h;simp only[List.take_nil,List.drop_nil];exact⟨rfl,rfl⟩
 | v::vs,ks,0,h=>⟨rfl,h⟩
 | v::vs,ks,n+1,h=>by
  obtain⟨k,r,B,c,rfl,e2,e3,e4,e5⟩:=h;obtain⟨h1,h2⟩:=RowV.split n e5;exact⟨⟨k,r.take n,B,c,rfl,e2,e3,e4,h1⟩,h2⟩
theorem RowV.get {w:World}{S:Nat→Prop}:∀ {vs:List Value} {ks:List Bs} {j:Nat} {k:Bs},RowV w S vs ks→ks[j]?=some k→∃ B c,vs[j]?=some (.slice B k.length c)∧k.length≤c∧ByS w S B k
 | [],ks,j,k,h,hk=>by
  have h:ks=[]:=h;subst h;simp at hk
 | v::vs,ks,0,k,h,hk=>by
  obtain⟨k',r,B,c,rfl,rfl,e3,e4,e5⟩:=h;simp at hk;subst hk;exact⟨B,c,rfl,e3,e4⟩
 | v::vs,ks,j+1,k,h,hk=>by
  obtain⟨k',r,B,c,rfl,rfl,e3,e4,e5⟩:=h;obtain⟨B',c',h1,h2⟩:=RowV.get e5 (by simpa using hk);exact⟨B',c',by simpa using h1,h2⟩
theorem RowV.one_cell {vs:List Value}{ks:List Bs}(h:RowV w S vs ks):∀ u∈vs,u.oneCell'=true:=fun u hu=>by
 obtain⟨B,n,c,rfl⟩:=h.val u hu;rfl
theorem kcells_one (vs:List Kv):∀ u∈vs.flatMap qaI,u.oneCell'=true:=fun u hu=>by
 obtain⟨v,_,hu⟩:=zaS.1 hu;simp only[qaI,za0,zcD,or_false]at hu;rcases hu with rfl|rfl<;>rfl
theorem qed:KM w S [] [] []:=by
 unfold KM;exact⟨rfl,rfl⟩
theorem qch {w:World}{S:Nat→Prop}:∀ {xs:List Kd} {vs:List Kv} {L:List (Nat×Nat)} {ys:List Kd} {us:List Kv} {M:List (Nat×Nat)},KM w S xs vs L→KM w S ys us M→KM w S (xs++ys) (vs++us) (L++M)
 | [],vs,L,ys,us,M,h,h2=>by
  simp only[KM]at h;obtain⟨rfl,rfl⟩:=h;exact h2
 | x::xs,vs,L,ys,us,M,h,h2=>by
  obtain⟨v,r,L1,L2,rfl,rfl,h3,h4⟩:=km_cons.1 h;exact km_cons.2 ⟨v,r++us,L1,L2++M,rfl,by rw[zaj],qch h3 h2,h4⟩
theorem qmv {v:Kv}{L:List (Nat×Nat)}(h:KidM w S x v L):KM w S [x] [v] L:=km_cons.2 ⟨v,[],L,[],rfl,by simp,qed,h⟩
theorem qdy {w:World}{S:Nat→Prop}:∀ {xs:List Kd} {vs:List Kv} {L:List (Nat×Nat)} (n:Nat),KM w S xs vs L→∃ L1 L2,L=L1++L2∧KM w S (xs.take n) (vs.take n) L1∧KM w S (xs.drop n) (vs.drop n) L2
 | [],vs,L,n,h=>by
  simp only[KM]at h;obtain⟨rfl,rfl⟩:=h;exact⟨[],[],rfl,by simpa using qed,by simpa using qed⟩
 | x::xs,vs,L,0,h=>⟨[],L,rfl,qed,h⟩
 | x::xs,vs,L,n+1,h=>by
  obtain⟨v,r,L1,L2,rfl,rfl,h3,h4⟩:=km_cons.1 h;obtain⟨M1,M2,rfl,h5,h6⟩:=qdy n h3;exact⟨L1++M1,M2,by rw[zaj],km_cons.2 ⟨v,r.take n,L1,M1,rfl,rfl,h5,h4⟩,h6⟩
theorem qiN {w:World}{S:Nat→Prop}:∀ {xs:List Kd} {vs:List Kv} {L:List (Nat×Nat)} {j:Nat} {x:Kd},KM w S xs vs L→xs[j]?=some x→∃ v L1,vs[j]?=some v∧KidM w S x v L1∧∀ y∈L1,y∈L
 | [],vs,L,j,x,h,hx=>by simp at hx
 | y::xs,vs,L,0,x,h,hx=>by
  obtain⟨v,r,L1,L2,rfl,rfl,h3,h4⟩:=km_cons.1 h;simp at hx;subst hx;exact⟨v,L1,rfl,h4,fun y hy=>zaX _ hy⟩
 | y::xs,vs,L,j+1,x,h,hx=>by
  obtain⟨v,r,L1,L2,rfl,rfl,h3,h4⟩:=km_cons.1 h;obtain⟨v',L',e1,e2,e3⟩:=qiN h3 (by simpa using hx);exact⟨v',L',by simpa using e1,e2,fun y hy=>zay _ (e3 y hy)⟩
theorem KidM.touch {v:Kv}{L:List (Nat×Nat)}(h:KidM w S x v L)(ht:Touch F w w')(hd:∀ b,S b→¬F b):KidM w' S x v L:=by
 rcases h with h|⟨N,e,h⟩
 ·exact .inl h
 ·exact .inr ⟨N,e,h.touch ht hd⟩
theorem KidM.below {v:Kv}{L:List (Nat×Nat)}(h:KidM w S x v L)(hb:Below w.heap.size w w'):KidM w' S x v L:=by
 rcases h with h|⟨N,e,h⟩
 ·exact .inl h
 ·exact .inr ⟨N,e,h.below hb⟩
theorem KidM.mono {v:Kv}{L:List (Nat×Nat)}(h:KidM w S x v L)(hS:∀ b,S b→S' b):KidM w S' x v L:=by
 rcases h with h|⟨N,e,h⟩
 ·exact .inl h
 ·exact .inr ⟨N,e,NM.mono hS x N L h⟩
theorem SrcS.below {size:Nat}(h:SrcS w S size A n us)(hb:Below w.heap.size w w'):SrcS w' S size A n us:=
 SrcS.mk' h.src.len fun hn=>by
  obtain⟨b,off,e,hS,hc⟩:=h.at_ hn;exact⟨b,off,e,hS,fun j u hj=>(hb.cell (p:=⟨b,off+j,none⟩) (cell_lt (hc j u hj))).trans (hc j u hj),(h.thaw hn b off e).same (Same.of_below hb) hS⟩
theorem SrcS.touch {size:Nat}(h:SrcS w S size A n us)(ht:Touch F w w')(hd:∀ b,S b→¬F b):SrcS w' S size A n us:=
 SrcS.mk' h.src.len fun hn=>by
  obtain⟨b,off,e,hS,hc⟩:=h.at_ hn;exact⟨b,off,e,hS,fun j u hj=>(qag ht (cell_lt (hc j u hj)) (hd b hS)).trans (hc j u hj),(h.thaw hn b off e).same (Same.of_touch ht hd) hS⟩
theorem SrcS.take {size:Nat}(h:SrcS w S size A n us)(hj:j≤n):SrcS w S size A j (us.take (j*size)):=
 ⟨h.src.take2 hj,fun h0=>h.form (by omega),fun h0=>h.thaw (by omega)⟩
theorem SrcS.drop {size:Nat}(h:SrcS w S size (some ⟨b,off,none⟩) n us)(j:Nat)(hA:j<n→A=some ⟨b,off+j*size,none⟩):SrcS w S size A (n-j) (us.drop (j*size)):=
 ⟨h.src.drop2 j hA,fun h0=>by
  obtain⟨b',off',e,hS⟩:=h.form (by omega);cases e;exact⟨b,_,hA (by omega),hS⟩,fun h0 b2 o2 e2=>by
  have e3:=hA (by omega);rw[e2]at e3;cases e3;exact h.thaw (by omega) b off rfl⟩
theorem qjH (A:Option Addr)(hj:j≤n):slotsAt A j=(slotsAt A n).take j:=by
 unfold slotsAt;cases A with
 | none=>simp
 | some a=>simp only;rw[←zb7,List.take_range,zbE hj]
theorem qjG (j:Nat)(hA:j<n→A=some ⟨b,off+j*2,none⟩)(hj:j<n):slotsAt A (n-j)=(slotsAt (some ⟨b,off,none⟩) n).drop j:=by
 rw[hA hj];unfold slotsAt;simp only;apply zdb;intro i;rw[zaK,zbc,zbc];by_cases hi:i<n-j
 ·rw[List.getElem?_range hi,List.getElem?_range (by omega)];simp;omega
 ·rw[zca (by simp;omega),zca (by simp;omega)];rfl
end Go.Proofs.YtpmebcgmgfcmiaaGreatDoor
