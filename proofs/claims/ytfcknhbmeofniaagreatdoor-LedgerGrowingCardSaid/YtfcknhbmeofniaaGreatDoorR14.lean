/- Texts TrA NdMem NdRow SlA NdA NdB SlB SlC. -/
import Derived.Test.YtfcknhbmeofniaaGreatDoorR13
import Derived.Deep.DeepAppendRoom
import Derived.Shelf.Spec.SlicesInsert
set_option linter.all false
set_option maxRecDepth 100000
set_option maxHeartbeats 16000000
namespace Go.Proofs.YtfcknhbmeofniaaGreatDoor
open Go.RowKit BT
namespace BT
def qce (b:Bs):Bs:=shaS (0::b)
def nodeH (l r:Bs):Bs:=shaS (1::(l++r))
def empH:Bs:=shaS []
end BT
theorem StO.below {w w':World}{B s:Nat}{l:Bs}(h:StO w B s l)(hb:Below w.heap.size w w'):StO w' B s l:=by
 obtain⟨A,c,h1,h2,h3⟩:=h.ex;exact⟨h.lo,h.len,A,c,(hb.block s (zaa.1 h1).1).trans h1,h2.below (zad _) hb,h3⟩
theorem StO.lt {w:World}{B s:Nat}{l:Bs}(h:StO w B s l):s<w.heap.size:=by
 obtain⟨A,c,h1,_⟩:=h.ex;exact(zaa.1 h1).1
theorem qcl {w wr:World}{fn:Func}{c:Tmp}{tmps:Array Value}{O:List Value}(hr:fn.results=#[.cell c 34])(hp:tmps.getD c undef=.pointer (some ⟨w.heap.size,0,none⟩))(hO:O.length=32)
  (hb:wr.heap[w.heap.size]?=some (.cells O.toArray 34 (0,0))):(results fn tmps).run Tryz.prog wr=.ok (.agg O.toArray) wr:=
 qbn hr _ _ _ ⟨w.heap.size,0,none⟩ hp (run_loadVar_mid _ _ _ _ _ _ (rangeAt_whole hb) Tryz.underlying34 rfl (by rw[hO];kernel_rfl))
theorem qh9 (w:World):(w.alloc (.cells #[Value.int .u8 0,Value.int .u8 0,Value.int .u8 0,Value.int .u8 0,Value.int .u8 0,Value.int .u8 0,Value.int .u8 0,Value.int .u8 0,Value.int .u8 0,Value.int .u8 0,Value.int .u8 0,Value.int .u8 0,Value.int .u8 0,Value.int .u8 0,Value.int .u8 0,Value.int .u8 0,Value.int .u8 0,Value.int .u8 0,Value.int .u8 0,Value.int .u8 0,Value.int .u8 0,Value.int .u8 0,Value.int .u8 0,Value.int .u8 0,Value.int .u8 0,Value.int .u8 0,Value.int .u8 0,Value.int .u8 0,Value.int .u8 0,Value.int .u8 0,Value.int .u8 0,Value.int .u8 0] 34)).heap[w.heap.size]?=some (.cells (List.replicate 32 (Value.int .u8 0)).toArray 34 (0,0)):=zae w _
theorem qj7 (A:Option Addr)(n c:Nat)(b:Bs)(w:World)(hb:By w A b)(hn:b.length=n)(hk:Kon w)(hlen:n≤140737488355000) :
  Calls Tryz.prog 29 #[.slice A n c] w fun e w'=>e=.returned (.agg (bv (qce b)).toArray)∧Below w.heap.size w w':=by
 obtain⟨W0,hW0⟩:∃ W0,w.alloc (.cells #[Value.int .u8 0,Value.int .u8 0,Value.int .u8 0,Value.int .u8 0,Value.int .u8 0,Value.int .u8 0,Value.int .u8 0,Value.int .u8 0,Value.int .u8 0,Value.int .u8 0,Value.int .u8 0,Value.int .u8 0,Value.int .u8 0,Value.int .u8 0,Value.int .u8 0,Value.int .u8 0,Value.int .u8 0,Value.int .u8 0,Value.int .u8 0,Value.int .u8 0,Value.int .u8 0,Value.int .u8 0,Value.int .u8 0,Value.int .u8 0,Value.int .u8 0,Value.int .u8 0,Value.int .u8 0,Value.int .u8 0,Value.int .u8 0,Value.int .u8 0,Value.int .u8 0,Value.int .u8 0] 34)=W0:=⟨_,rfl⟩;have Hw:=zH (show W0.heap.size=w.heap.size+1 by rw[←hW0];simp);have Hc:=zH (show Below w.heap.size w W0 by rw[←hW0];exact zB _ _);have Hi:=zH (show W0.heap[w.heap.size]?=some (.cells (List.replicate 32 (Value.int .u8 0)).toArray 34 (0,0))by rw[←hW0];exact qh9 w);have HK:=zH (hk.below hk.lt Hc.o);have Ha:=zH (show 1<W0.heap.size from HK.o.lt);have HY:=zH (hb.below Hc.o);have HN:=zH hn;have Hh:=zH (qd6 W0);obtain⟨O,hO⟩:∃ O,bv (qce b)=O:=⟨_,rfl⟩;have HO:=zH (show bv (shaS ([0]++b))=O from hO);have Hp:=zH hO;have Hn:=zH (show O.toArray.size=32 by rw[←hO,zas,bv_len];exact qbB _);have Hm:=zH (show O.length=32 by rw[←hO,bv_len];exact qbB _);have Hq:=zH (show ∀ v∈O,v.oneCell'=true by rw[←hO];exact qak _);clear hk hb hn hO;go_enter Tryz.func29,Tryz.ntmps29
 go_upto_region 1 with fail
 clear hW0;go_wp2_with (first
  | (go_at_call 59;refine Hh.o.mono ?_;rintro e w1 ⟨s,rfl,ho1,hb1⟩;have Hx:=zH ho1;have Hk:=zH hb1;have Hf:Below w1.heap.size w1 (w1.alloc (.cells #[.int .u8 0] 5)):=zB _ _;have Ho:=zH Hf;have Hu:=zH (qbo (ho1.below Hf) (some ⟨w1.heap.size,0,none⟩) 1 1 (b:=[0]) (By.of_block (l:=[0]) (zae w1 _) rfl) rfl ((HK.o.below Ha.o hb1).below Ha.o (Hf.mono hb1.size)) Ha.o (by have:=hb1.size;simp;omega) (by simp) (fun ad e h0=>by cases e;have:=ho1.lt;show w1.heap.size≠s;omega));clear ho1 hb1 Hf)
  | (go_at_call 60;(with_reducible refine Hu.o.mono ?_);go_loud (rintro e w2 ⟨rfl,_,Hb,hb2⟩;have Hb:=Hb (by simp);have He:=zH ((Hk.o.trans (Ho.o.mono Hk.o.size)).trans hb2);have Hv:=zH (qbo Hb A n c (HY.o.below He.o) HN.o (HK.o.below Ha.o He.o) Ha.o He.o.size (by simp;omega) (fun ad e h0 hs=>by obtain⟨bb,off,e2,h1,_⟩:=HY.o.at_ (by have:=HN.o;omega);rw[e]at e2;cases e2;have:=Hb.lo;have Hy:bb=s:=hs;omega));clear Hb hb2))
  | (go_at_call 60;(with_reducible refine Hv.o.mono ?_);go_loud (rintro e w3 ⟨rfl,hr3,_,hb3⟩;have Hg:=zH (He.o.trans hb3);have Hs:=zH (qd7 hr3 (HK.o.below Ha.o Hg.o) (by simp;have:=HN.o;omega));clear hr3 hb3))
  | (go_at_call 61;(with_reducible refine Hs.o.mono ?_);go_loud (rintro e w4 ⟨rfl,hb4⟩;have Hl:=zH (Hg.o.trans (hb4.mono Hg.o.size));have Hj:=(Hl.o.block w.heap.size (by have:=Hw.o;omega)).trans Hi.o;have Ht:=zH (show w4.there w.heap.size 0 32 from there_of_block Hj 0 (by simp));have Hr:=zH Hj;rw[show bv (shaS ([]++[0]++b))=O from HO.o];clear hb4 Hj))
  | ((with_reducible show wpList _ _ _ (⟨none,.store 34 _ _,_,_,_,_⟩::_) _ _);go_loud (refine wpList_store_mid rfl 34 (.tmp 2) (.tmp 12) rfl w.heap.size 0 O.toArray rfl rfl (by rw[Hn.o];exact Ht.o) (by rw[Hn.o];kernel_rfl) (all_oneCell_toArray Hq.o) ?_)))
 refine za7 (v:=.agg O.toArray) ?_ rfl ?_
 ·exact qcl rfl rfl Hm.o (qae Hr.o O (by simp[Hm.o]))
 ·exact⟨by rw[Hp.o],below_setCells (Hc.o.trans (Hl.o.mono Hc.o.size)) (zad _) _ _⟩
theorem qlF (A:Option Addr)(n c:Nat)(b:Bs)(w:World)(hb:By w A b)(hn:b.length=n)(hk:Kon w)(hlen:n≤140737488355000) :
  Calls Tryz.prog 93 #[.slice A n c] w fun e w'=>e=.returned (.agg (bv (shaS b)).toArray)∧Below w.heap.size w w':=by
 obtain⟨W0,hW0⟩:∃ W0,w.alloc (.cells #[Value.int .u8 0,Value.int .u8 0,Value.int .u8 0,Value.int .u8 0,Value.int .u8 0,Value.int .u8 0,Value.int .u8 0,Value.int .u8 0,Value.int .u8 0,Value.int .u8 0,Value.int .u8 0,Value.int .u8 0,Value.int .u8 0,Value.int .u8 0,Value.int .u8 0,Value.int .u8 0,Value.int .u8 0,Value.int .u8 0,Value.int .u8 0,Value.int .u8 0,Value.int .u8 0,Value.int .u8 0,Value.int .u8 0,Value.int .u8 0,Value.int .u8 0,Value.int .u8 0,Value.int .u8 0,Value.int .u8 0,Value.int .u8 0,Value.int .u8 0,Value.int .u8 0,Value.int .u8 0] 34)=W0:=⟨_,rfl⟩;have Hr:=zH (show W0.heap.size=w.heap.size+1 by rw[←hW0];simp);have Ha:=zH (show Below w.heap.size w W0 by rw[←hW0];exact zB _ _);have Hf:=zH (show W0.heap[w.heap.size]?=some (.cells (List.replicate 32 (Value.int .u8 0)).toArray 34 (0,0))by rw[←hW0];exact qh9 w);have HK:=zH (hk.below hk.lt Ha.o);have Hc:=zH (show 1<W0.heap.size from HK.o.lt);have HY:=zH (hb.below Ha.o);have HN:=zH hn;have He:=zH (qd6 W0);obtain⟨O,hO⟩:∃ O,bv (shaS b)=O:=⟨_,rfl⟩;have Hi:=zH hO;have Hk:=zH (show O.toArray.size=32 by rw[←hO,zas,bv_len];exact qbB _);have Hj:=zH (show O.length=32 by rw[←hO,bv_len];exact qbB _);have Hm:=zH (show ∀ v∈O,v.oneCell'=true by rw[←hO];exact qak _);clear hk hb hn hO;go_enter Tryz.func93,Tryz.ntmps93
 go_upto_region 1 with fail
 clear hW0;go_wp2_with (first
  | (go_at_call 59;refine He.o.mono ?_;rintro e w1 ⟨s,rfl,ho1,hb1⟩;have Hs:=zH ho1;have Hl:=zH hb1;have Hq:=zH (qbo ho1 A n c (HY.o.below hb1) HN.o (HK.o.below Hc.o hb1) Hc.o hb1.size (by simp;omega) (fun ad e h0 hs=>by obtain⟨bb,off,e2,h1,_⟩:=HY.o.at_ (by have:=HN.o;omega);rw[e]at e2;cases e2;have:=ho1.lo;have Ht:bb=s:=hs;omega));clear ho1 hb1)
  | (go_at_call 60;(with_reducible refine Hq.o.mono ?_);go_loud (rintro e w3 ⟨rfl,hr3,_,hb3⟩;have Hb:=zH (Hl.o.trans hb3);have Ho:=zH (qd7 hr3 (HK.o.below Hc.o Hb.o) (by simp;have:=HN.o;omega));clear hr3 hb3))
  | (go_at_call 61;(with_reducible refine Ho.o.mono ?_);go_loud (rintro e w4 ⟨rfl,hb4⟩;have Hh:=zH (Hb.o.trans (hb4.mono Hb.o.size));have Hg:=(Hh.o.block w.heap.size (by have:=Hr.o;omega)).trans Hf.o;have Hp:=zH (show w4.there w.heap.size 0 32 from there_of_block Hg 0 (by simp));have Hn:=zH Hg;rw[show bv (shaS ([]++b))=O from Hi.o];clear hb4 Hg))
  | ((with_reducible show wpList _ _ _ (⟨none,.store 34 _ _,_,_,_,_⟩::_) _ _);go_loud (refine wpList_store_mid rfl 34 (.tmp 2) (.tmp 9) rfl w.heap.size 0 O.toArray rfl rfl (by rw[Hk.o];exact Hp.o) (by rw[Hk.o];kernel_rfl) (all_oneCell_toArray Hm.o) ?_)))
 refine za7 (v:=.agg O.toArray) ?_ rfl ?_
 ·exact qcl rfl rfl Hj.o (qae Hn.o O (by simp[Hj.o]))
 ·exact⟨by rw[Hi.o],below_setCells (Ha.o.trans (Hh.o.mono Ha.o.size)) (zad _) _ _⟩
theorem qjs (b:Nat)(W:World):(Instr.sliceAt 34 (.pointer (some ⟨b,0,none⟩)) none none none).run Tryz.prog W=.ok (.slice (some ⟨b,0,none⟩) 32 32) W:=by kernel_rfl
theorem qhc (l r:Bs)(w:World)(hl:l.length=32)(hr:r.length=32)(hk:Kon w) :
  Calls Tryz.prog 92 #[.agg (bv l).toArray,.agg (bv r).toArray] w fun e w'=>e=.returned (.agg (bv (nodeH l r)).toArray)∧Below w.heap.size w w':=by
 obtain⟨W0,hW0⟩:∃ W0,((w.alloc (.cells (bv l).toArray 34)).alloc (.cells (bv r).toArray 34)).alloc (.cells #[Value.int .u8 0,Value.int .u8 0,Value.int .u8 0,Value.int .u8 0,Value.int .u8 0,Value.int .u8 0,Value.int .u8 0,Value.int .u8 0,Value.int .u8 0,Value.int .u8 0,Value.int .u8 0,Value.int .u8 0,Value.int .u8 0,Value.int .u8 0,Value.int .u8 0,Value.int .u8 0,Value.int .u8 0,Value.int .u8 0,Value.int .u8 0,Value.int .u8 0,Value.int .u8 0,Value.int .u8 0,Value.int .u8 0,Value.int .u8 0,Value.int .u8 0,Value.int .u8 0,Value.int .u8 0,Value.int .u8 0,Value.int .u8 0,Value.int .u8 0,Value.int .u8 0,Value.int .u8 0] 34)=W0:=⟨_,rfl⟩;have Hn:=zH (show W0.heap.size=w.heap.size+1+1+1 by rw[←hW0];simp);have Ht:Below w.heap.size w W0:=by rw[←hW0];go_grown
 have Hi:=zH Ht;have Hl:=zH (show W0.heap[w.heap.size+1+1]?=some (.cells (List.replicate 32 (Value.int .u8 0)).toArray 34 (0,0))by
  rw[←hW0];have:=qh9 ((w.alloc (.cells (bv l).toArray 34)).alloc (.cells (bv r).toArray 34));simp only[za5]at this;exact this)
 have HD:=zH (show By W0 (some ⟨w.heap.size,0,none⟩) l by
  refine By.of_block (t:=34) (fr:=(0,0)) ?_ rfl;rw[←hW0,zaW _ _ _ (by simp;omega),zaW _ _ _ (by simp)];exact zae w _)
 have HE:=zH (show By W0 (some ⟨w.heap.size+1,0,none⟩) r by
  refine By.of_block (t:=34) (fr:=(0,0)) ?_ rfl;rw[←hW0,zaW _ _ _ (by simp)];have:=zae (w.alloc (.cells (bv l).toArray 34)) (.cells (bv r).toArray 34);simp only[za5]at this;exact this)
 have HK:=zH (hk.below hk.lt Hi.o);have Ha:=zH (show 1<W0.heap.size from HK.o.lt);have Hf:=zH (And.intro hl hr);have Hk:=zH (qd6 W0);have fS:=qjs;obtain⟨O,hO⟩:∃ O,bv (nodeH l r)=O:=⟨_,rfl⟩;have Hv:=zH hO;have HO:=zH (show bv (shaS ([]++[1]++l++r))=O from hO);have Hs:=zH (show O.toArray.size=32 by rw[←hO,zas,bv_len];exact qbB _);have Hr:=zH (show O.length=32 by rw[←hO,bv_len];exact qbB _);have Hw:=zH (show ∀ v∈O,v.oneCell'=true by rw[←hO];exact qak _);obtain⟨LL,hLL⟩:∃ x,bv l=x:=⟨_,rfl⟩;obtain⟨RR,hRR⟩:∃ x,bv r=x:=⟨_,rfl⟩;rw[hLL,hRR]at hW0;rw[hLL,hRR];clear hk hl hr hO Ht hLL hRR;go_enter Tryz.func92,Tryz.ntmps92
 go_upto_region 1 with fail
 clear hW0;go_wp2_with (first
  | (go_at_call 59;refine Hk.o.mono ?_;rintro e w1 ⟨s,rfl,ho1,hb1⟩;have HF:=zH ho1;have Hp:=zH hb1;have Hg:Below w1.heap.size w1 (w1.alloc (.cells #[.int .u8 1] 5)):=zB _ _;have Hu:=zH Hg;have HA:=zH (qbo (ho1.below Hg) (some ⟨w1.heap.size,0,none⟩) 1 1 (b:=[1]) (By.of_block (l:=[1]) (zae w1 _) rfl) rfl ((HK.o.below Ha.o hb1).below Ha.o (Hg.mono hb1.size)) Ha.o (by have:=hb1.size;simp;omega) (by simp) (fun ad e h0=>by cases e;have:=ho1.lt;show w1.heap.size≠s;omega));clear ho1 hb1 Hg)
  | (go_at_call 60;(with_reducible refine HA.o.mono ?_);go_loud (rintro e w2 ⟨rfl,_,Hb,hb2⟩;have Hb:=Hb (by simp);have Hc:=zH ((Hp.o.trans (Hu.o.mono Hp.o.size)).trans hb2);have Hm:=zH Hb.lo;have HB:=zH (qbo Hb (some ⟨w.heap.size,0,none⟩) 32 32 (HD.o.below Hc.o) Hf.o.1 (HK.o.below Ha.o Hc.o) Ha.o Hc.o.size (by simp) (fun ad e h0=>by cases e;have:=Hb.lo;have:=Hn.o;show w.heap.size≠s;omega));clear Hb hb2))
  | (go_at_call 60;(with_reducible refine HB.o.mono ?_);go_loud (rintro e w3 ⟨rfl,_,Hh,hb3⟩;have Hh:=Hh (by simp);have He:=zH (Hc.o.trans hb3);have HC:=zH (qbo Hh (some ⟨w.heap.size+1,0,none⟩) 32 32 (HE.o.below He.o) Hf.o.2 (HK.o.below Ha.o He.o) Ha.o He.o.size (by have:=Hf.o.1;simp;omega) (fun ad e h0=>by cases e;have:=Hm.o;have:=Hn.o;show w.heap.size+1≠s;omega));clear Hh hb3))
  | (go_at_call 60;(with_reducible refine HC.o.mono ?_);go_loud (rintro e w4 ⟨rfl,hr4,_,hb4⟩;have Hj:=zH (He.o.trans hb4);have Hy:=zH (qd7 hr4 (HK.o.below Ha.o Hj.o) (by have:=Hf.o;simp;omega));clear hr4 hb4))
  | (go_at_call 61;(with_reducible refine Hy.o.mono ?_);go_loud (rintro e w5 ⟨rfl,hb5⟩;have Hq:=zH (Hj.o.trans (hb5.mono Hj.o.size));have Ho:=(Hq.o.block (w.heap.size+1+1) (by have:=Hn.o;omega)).trans Hl.o;have Hz:=zH (show w5.there (w.heap.size+1+1) 0 32 from there_of_block Ho 0 (by simp));have Hx:=zH Ho;rw[show bv (shaS ([]++[1]++l++r))=O from HO.o];clear hb5 Ho))
  | ((with_reducible show wpList _ _ _ (⟨none,.store 34 _ _,_,_,_,_⟩::_) _ _);go_loud (refine wpList_store_mid rfl 34 (.tmp 4) (.tmp 17) rfl (w.heap.size+1+1) 0 O.toArray rfl rfl (by rw[Hs.o];exact Hz.o) (by rw[Hs.o];kernel_rfl) (all_oneCell_toArray Hw.o) ?_)))
 refine za7 (v:=.agg O.toArray) ?_ rfl ?_
 ·exact qbn rfl _ _ _ ⟨w.heap.size+1+1,0,none⟩ rfl (run_loadVar_mid _ _ _ _ _ _ (rangeAt_whole (qae Hx.o O (by simp[Hr.o]))) Tryz.underlying34 rfl (by rw[Hr.o];kernel_rfl))
 ·exact⟨by rw[Hv.o],below_setCells (Hi.o.trans (Hq.o.mono Hi.o.size)) (by omega) _ _⟩
end Go.Proofs.YtfcknhbmeofniaaGreatDoor
namespace Go.Proofs.YtfcknhbmeofniaaGreatDoor
open Go.RowKit BT
variable {w w':World}{S F S':Nat→Prop}{x k:Kd}{xs:List Kd}{b i n N:Nat}{A:Option Addr}{us:List Value}{P:Program}{t e:TypeId}
structure ByS (w:World) (S:Nat→Prop) (A:Option Addr) (l:Bs):Prop where
 by_:By w A l
 blk:∀ ad,A=some ad→0<l.length→S ad.block
def RowV (w:World)(S:Nat→Prop):List Value→List Bs→Prop
 | [],ks=>ks=[]
 | v::vs,ks=>∃ k r B c,ks=k::r∧v=.slice B k.length c∧k.length≤c∧ByS w S B k∧RowV w S vs r
def Thw (w:World)(b:Nat):Prop:=b<w.heap.size∧∀ i,w.frozen? ⟨b,i,none⟩=false
structure SrcS (w:World) (S:Nat→Prop) (size:Nat) (A:Option Addr) (n:Nat) (us:List Value):Prop where
 src:Src w size A n us
 form:0<n→∃ b off,A=some ⟨b,off,none⟩∧S b
 thaw:0<n→∀ b off,A=some ⟨b,off,none⟩→Thw w b
structure Nc (w:World) (N:Nat) (leaf:Bool) (K:Option Addr) (nk ck:Nat) (V:Option Addr) (nv cv:Nat) (X:Option Addr) (nx cx:Nat):Prop where
 c0:w.cell? ⟨N,0,none⟩=some (.bool leaf)
 c1:w.cell? ⟨N,1,none⟩=some (.slice K nk ck)
 c2:w.cell? ⟨N,2,none⟩=some (.slice V nv cv)
 c3:w.cell? ⟨N,3,none⟩=some (.slice X nx cx)
 hk:nk≤ck
 hv:nv≤cv
 hx:nx≤cx
abbrev Kv:=Int×Option Nat
def qdS (v:Kv):List Value:=[.int .i64 v.1,.pointer (v.2.map fun N=>⟨N,0,none⟩)]
def qb8 (X:Option Addr)(n:Nat):List (Nat×Nat):=match X with
 | none=>[]
 | some a=>(List.range n).map fun j=>(a.block,a.off+j*2)
mutual
def NM (w:World)(S:Nat→Prop):Kd→Nat→List (Nat×Nat)→Prop
 | .page _,_,_=>False
 | .leaf ps,N,L=>L=[]∧S N∧∃ K ck V cv X cx vk vv,Nc w N true K ps.length ck V ps.length cv X 0 cx∧SrcS w S 1 K ps.length vk∧RowV w S vk (ps.map Prod.fst)∧SrcS w S 1 V ps.length vv∧RowV w S vv (ps.map Prod.snd)
 | .inner ks xs,N,L=>S N∧∃ K ck V cv X cx vk vs L',Nc w N false K ks.length ck V 0 cv X xs.length cx∧SrcS w S 1 K ks.length vk∧RowV w S vk ks∧SrcS w S 2 X xs.length (vs.flatMap qdS)∧KM w S xs vs L'∧L=qb8 X xs.length++L'
def KM (w:World)(S:Nat→Prop):List Kd→List Kv→List (Nat×Nat)→Prop
 | [],vs,L=>vs=[]∧L=[]
 | x::xs,vs,L=>∃ v r L1 L2,vs=v::r∧L=L1++L2∧KM w S xs r L2∧((∃ p:Nat,x=.page p∧v=((p:Int),none)∧L1=[])∨∃ N,v=(0,some N)∧NM w S x N L1)
end
def KidM (w:World)(S:Nat→Prop)(x:Kd)(v:Kv)(L:List (Nat×Nat)):Prop:=(∃ p:Nat,x=.page p∧v=((p:Int),none)∧L=[])∨∃ N,v=(0,some N)∧NM w S x N L
theorem km_cons {vs:List Kv}{L:List (Nat×Nat)}:KM w S (x::xs) vs L↔∃ v r L1 L2,vs=v::r∧L=L1++L2∧KM w S xs r L2∧KidM w S x v L1:=by
 simp only[KM,KidM]
structure Same (S:Nat→Prop) (C:Nat→Nat→Prop) (w w':World):Prop where
 size:w.heap.size≤w'.heap.size
 cell:∀ b i,S b→b<w.heap.size→¬C b i→w'.cell? ⟨b,i,none⟩=w.cell? ⟨b,i,none⟩
 kid:∀ b i v,S b→C b i→w.cell? ⟨b,i,none⟩=some v→(∃ n,v=.int .i64 n)∨∃ p,v=.pointer p
 fr:∀ b i,S b→b<w.heap.size→w'.frozen? ⟨b,i,none⟩=w.frozen? ⟨b,i,none⟩
theorem Thw.same {C:Nat→Nat→Prop}(t:Thw w b)(h:Same S C w w')(hS:S b):Thw w' b:=⟨zag t.1 h.size,fun i=>(h.fr b i hS t.1).trans (t.2 i)⟩
theorem Same.of_touch (h:Touch F w w')(hd:∀ b,S b→¬F b):Same S (fun _ _=>False) w w':=
 ⟨h.size,fun b i hS hb _=>qaj h hb (hd b hS),fun _ _ _ _ h=>h.elim,fun b i hS hb=>World.frozen?_of_block (a:=⟨b,i,none⟩) (h.block b hb (hd b hS))⟩
theorem Same.of_below (h:Below w.heap.size w w'):Same S (fun _ _=>False) w w':=
 ⟨h.size,fun b i _ hb _=>h.cell (p:=⟨b,i,none⟩) hb,fun _ _ _ _ h=>h.elim,fun b i _ hb=>h.frozen (p:=⟨b,i,none⟩) hb⟩
theorem qaq {v:Value}(h:w.cell? ⟨b,i,none⟩=some v):b<w.heap.size:=zav w ⟨b,i,none⟩ h
theorem Same.keep {C:Nat→Nat→Prop}(h:Same S C w w'){v:Value}(hS:S b)(hc:w.cell? ⟨b,i,none⟩=some v)(h1:∀ n,v≠.int .i64 n)(h2:∀ p,v≠.pointer p):w'.cell? ⟨b,i,none⟩=some v:=by
 rw[h.cell b i hS (qaq hc) fun hC=>?_]
 ·exact hc
 ·rcases h.kid b i v hS hC hc with⟨n,e⟩|⟨p,e⟩
  ·exact h1 n e
  ·exact h2 p e
theorem ByS.same {C:Nat→Nat→Prop}(h:Same S C w w'){l:Bs}(hb:ByS w S A l):ByS w' S A l:=by
 refine⟨⟨fun h0=>?_⟩,hb.blk⟩;obtain⟨b,off,e,hl,hc⟩:=hb.by_.at_ h0;have hS:=hb.blk _ e h0;exact⟨b,off,e,zag hl h.size,fun k c hk=>h.keep hS (hc k c hk) (by simp) (by simp)⟩
theorem RowV.same {S:Nat→Prop}{C:Nat→Nat→Prop}{w w':World}(h:Same S C w w'):∀ {vs:List Value} {ks:List Bs},RowV w S vs ks→RowV w' S vs ks
 | [],ks,hr=>hr
 | v::vs,ks,hr=>by
  obtain⟨k,r,B,c,e1,e2,e3,e4,e5⟩:=hr;exact⟨k,r,B,c,e1,e2,e3,e4.same h,RowV.same h e5⟩
theorem RowV.len {w:World}{S:Nat→Prop}:∀ {vs:List Value} {ks:List Bs},RowV w S vs ks→vs.length=ks.length
 | [],ks,hr=>by rw[hr];rfl
 | v::vs,ks,hr=>by
  obtain⟨k,r,B,c,rfl,_,_,_,e5⟩:=hr;simp[e5.len]
theorem RowV.val {w:World}{S:Nat→Prop}:∀ {vs:List Value} {ks:List Bs},RowV w S vs ks→∀ u∈vs,∃ B n c,u=.slice B n c
 | [],ks,hr,u,hu=>by cases hu
 | v::vs,ks,hr,u,hu=>by
  obtain⟨k,r,B,c,rfl,rfl,_,_,e5⟩:=hr;rcases zaB.1 hu with rfl|hu
  ·exact⟨_,_,_,rfl⟩
  ·exact e5.val u hu
theorem Addr.add_at (b off j:Nat):(Addr.mk b off none).add j=⟨b,off+j,none⟩:=by
 unfold Addr.add;by_cases h1:j=0
 ·subst h1;simp
 ·rw[zaC h1]
theorem SrcS.at_ {size:Nat}(h:SrcS w S size A n us)(hn:0<n):∃ b off,A=some ⟨b,off,none⟩∧S b∧∀ j u,us[j]?=some u→w.cell? ⟨b,off+j,none⟩=some u:=by
 obtain⟨b,off,rfl,hS⟩:=h.form hn;obtain⟨ad,e,hc⟩:=h.src.at_ hn;cases e;refine⟨b,off,rfl,hS,fun j u hu=>?_⟩;rw[←Addr.add_at];exact hc j u hu
theorem SrcS.mk' {size:Nat}(hl:us.length=n*size)(h:0<n→∃ b off,A=some ⟨b,off,none⟩∧S b∧(∀ j u,us[j]?=some u→w.cell? ⟨b,off+j,none⟩=some u)∧Thw w b):SrcS w S size A n us:=
 ⟨⟨hl,fun hn=>by
  obtain⟨b,off,e,_,hc,_⟩:=h hn;exact⟨_,e,fun j u hu=>by rw[Addr.add_at];exact hc j u hu⟩⟩,fun hn=>by
  obtain⟨b,off,e,hS,_⟩:=h hn;exact⟨b,off,e,hS⟩,fun hn c o e=>by
  obtain⟨b,off,e2,_,_,ht⟩:=h hn;rw[e]at e2;cases e2;exact ht⟩
theorem SrcS.same {C:Nat→Nat→Prop}(h:Same S C w w'){size:Nat}(hs:SrcS w S size A n us)(hu:∀ u∈us,∃ B n c,u=.slice B n c):SrcS w' S size A n us:=
 SrcS.mk' hs.src.len fun hn=>by
  obtain⟨b,off,e,hS,hc⟩:=hs.at_ hn;refine⟨b,off,e,hS,fun j u hj=>?_,(hs.thaw hn b off e).same h hS⟩;obtain⟨B,m,c,rfl⟩:=hu u (zak hj);exact h.keep hS (hc j _ hj) (by simp) (by simp)
theorem SrcS.same_kids {C:Nat→Nat→Prop}(h:Same S C w w')(hs:SrcS w S 2 A n us)(hC:∀ x∈qb8 A n,¬C x.1 x.2∧¬C x.1 (x.2+1)):SrcS w' S 2 A n us:=
 SrcS.mk' hs.src.len fun hn=>by
  obtain⟨b,off,rfl,hS,hc⟩:=hs.at_ hn;refine⟨b,off,rfl,hS,fun j u hj=>?_,(hs.thaw hn b off rfl).same h hS⟩;have hl:=hs.src.len;have hjl:=(zac.1 hj).1;have hm:(b,off+j / 2*2)∈qb8 (some ⟨b,off,none⟩) n:=zbh.2 ⟨j / 2,za9.2 (by omega),rfl⟩;have h2:=hC _ hm;rw[h.cell b (off+j) hS (qaq (hc j u hj)) ?_]
  ·exact hc j u hj
  ·by_cases hp:j % 2=0
   ·rw[show off+j=off+j / 2*2 by omega];exact h2.1
   ·rw[show off+j=off+j / 2*2+1 by omega];exact h2.2
theorem Nc.same {C:Nat→Nat→Prop}(h:Same S C w w'){leaf:Bool}{K:Option Addr}{nk ck:Nat}{V:Option Addr}{nv cv:Nat}{X:Option Addr}{nx cx:Nat}(hS:S N)(hn:Nc w N leaf K nk ck V nv cv X nx cx):Nc w' N leaf K nk ck V nv cv X nx cx:=
 ⟨h.keep hS hn.c0 (by simp) (by simp),h.keep hS hn.c1 (by simp) (by simp),h.keep hS hn.c2 (by simp) (by simp),h.keep hS hn.c3 (by simp) (by simp),hn.hk,hn.hv,hn.hx⟩
mutual
theorem NM.same {S:Nat→Prop}{C:Nat→Nat→Prop}{w w':World}(h:Same S C w w'):∀ (k:Kd) (N:Nat) (L:List (Nat×Nat)),(∀ x∈L,¬C x.1 x.2∧¬C x.1 (x.2+1))→NM w S k N L→NM w' S k N L
 | .page _,N,L,_,hn=>by simp only[NM]at hn
 | .leaf ps,N,L,hC,hn=>by
  simp only[NM]at hn⊢;obtain⟨a1,a2,K,ck,V,cv,X,cx,vk,vv,b1,b2,b3,b4,b5⟩:=hn;exact⟨a1,a2,K,ck,V,cv,X,cx,vk,vv,b1.same h a2,b2.same h b3.val,b3.same h,b4.same h b5.val,b5.same h⟩
 | .inner ks xs,N,L,hC,hn=>by
  simp only[NM]at hn⊢;obtain⟨a2,K,ck,V,cv,X,cx,vk,vs,L',b1,b2,b3,b4,b5,rfl⟩:=hn;exact⟨a2,K,ck,V,cv,X,cx,vk,vs,L',b1.same h a2,b2.same h b3.val,b3.same h,b4.same_kids h fun x hx=>hC x (za6 _ hx),KM.same h xs vs L' (fun x hx=>hC x (zaS _ hx)) b5,rfl⟩
theorem KM.same {S:Nat→Prop}{C:Nat→Nat→Prop}{w w':World}(h:Same S C w w'):∀ (xs:List Kd) (vs:List Kv) (L:List (Nat×Nat)),(∀ x∈L,¬C x.1 x.2∧¬C x.1 (x.2+1))→KM w S xs vs L→KM w' S xs vs L
 | [],vs,L,_,hk=>by simp only[KM]at hk⊢;exact hk
 | x::xs,vs,L,hC,hk=>by
  simp only[KM]at hk⊢;obtain⟨v,r,L1,L2,rfl,rfl,h1,h2⟩:=hk;refine⟨v,r,L1,L2,rfl,rfl,KM.same h xs r L2 (fun x hx=>hC x (zaS _ hx)) h1,?_⟩;rcases h2 with h2|⟨N,e,h2⟩
  ·exact .inl h2
  ·exact .inr ⟨N,e,NM.same h x N L1 (fun x hx=>hC x (za6 _ hx)) h2⟩
end
theorem ByS.mono {l:Bs}(h:ByS w S A l)(hS:∀ b,S b→S' b):ByS w S' A l:=⟨h.by_,fun ad e h0=>hS _ (h.blk ad e h0)⟩
theorem RowV.mono {w:World}{S S':Nat→Prop}(hS:∀ b,S b→S' b):∀ {vs:List Value} {ks:List Bs},RowV w S vs ks→RowV w S' vs ks
 | [],ks,hr=>hr
 | v::vs,ks,hr=>by
  obtain⟨k,r,B,c,e1,e2,e3,e4,e5⟩:=hr;exact⟨k,r,B,c,e1,e2,e3,e4.mono hS,RowV.mono hS e5⟩
theorem SrcS.mono {size:Nat}(h:SrcS w S size A n us)(hS:∀ b,S b→S' b):SrcS w S' size A n us:=⟨h.src,fun hn=>by
 obtain⟨b,off,e,h1⟩:=h.form hn;exact⟨b,off,e,hS b h1⟩,h.thaw⟩
mutual
theorem NM.mono {S S':Nat→Prop}{w:World}(hS:∀ b,S b→S' b):∀ (k:Kd) (N:Nat) (L:List (Nat×Nat)),NM w S k N L→NM w S' k N L
 | .page _,N,L,hn=>by simp only[NM]at hn
 | .leaf ps,N,L,hn=>by
  simp only[NM]at hn⊢;obtain⟨a1,a2,K,ck,V,cv,X,cx,vk,vv,b1,b2,b3,b4,b5⟩:=hn;exact⟨a1,hS _ a2,K,ck,V,cv,X,cx,vk,vv,b1,b2.mono hS,b3.mono hS,b4.mono hS,b5.mono hS⟩
 | .inner ks xs,N,L,hn=>by
  simp only[NM]at hn⊢;obtain⟨a2,K,ck,V,cv,X,cx,vk,vs,L',b1,b2,b3,b4,b5,rfl⟩:=hn;exact⟨hS _ a2,K,ck,V,cv,X,cx,vk,vs,L',b1,b2.mono hS,b3.mono hS,b4.mono hS,KM.mono hS xs vs L' b5,rfl⟩
theorem KM.mono {S S':Nat→Prop}{w:World}(hS:∀ b,S b→S' b):∀ (xs:List Kd) (vs:List Kv) (L:List (Nat×Nat)),KM w S xs vs L→KM w S' xs vs L
 | [],vs,L,hk=>by simp only[KM]at hk⊢;exact hk
 | x::xs,vs,L,hk=>by
  simp only[KM]at hk⊢;obtain⟨v,r,L1,L2,rfl,rfl,h1,h2⟩:=hk;refine⟨v,r,L1,L2,rfl,rfl,KM.mono hS xs r L2 h1,?_⟩;rcases h2 with h2|⟨N,e,h2⟩
  ·exact .inl h2
  ·exact .inr ⟨N,e,NM.mono hS x N L1 h2⟩
end
mutual
theorem NM.slots {S:Nat→Prop}{w:World}:∀ (k:Kd) (N:Nat) (L:List (Nat×Nat)),NM w S k N L→∀ x∈L,S x.1
 | .page _,N,L,hn=>by simp only[NM]at hn
 | .leaf ps,N,L,hn=>by
  simp only[NM]at hn;rw[hn.1];simp
 | .inner ks xs,N,L,hn=>by
  simp only[NM]at hn;obtain⟨a2,K,ck,V,cv,X,cx,vk,vs,L',b1,b2,b3,b4,b5,rfl⟩:=hn;intro x hx;rcases zar.1 hx with hx|hx
  ·unfold qb8 at hx;split at hx
   ·cases hx
   ·obtain⟨j,hj,rfl⟩:=zbh.1 hx;have:=za9.1 hj;obtain⟨b,off,e,hS⟩:=b4.form (by omega);cases e;exact hS
  ·exact KM.slots xs vs L' b5 x hx
theorem KM.slots {S:Nat→Prop}{w:World}:∀ (xs:List Kd) (vs:List Kv) (L:List (Nat×Nat)),KM w S xs vs L→∀ x∈L,S x.1
 | [],vs,L,hk=>by simp only[KM]at hk;rw[hk.2];simp
 | x::xs,vs,L,hk=>by
  simp only[KM]at hk;obtain⟨v,r,L1,L2,rfl,rfl,h1,h2⟩:=hk;intro y hy;rcases zar.1 hy with hy|hy
  ·rcases h2 with⟨p,_,_,rfl⟩|⟨N,e,h2⟩
   ·cases hy
   ·exact NM.slots x N L1 h2 y hy
  ·exact KM.slots xs r L2 h1 y hy
end
theorem NM.touch {L:List (Nat×Nat)}(h:NM w S k N L)(ht:Touch F w w')(hd:∀ b,S b→¬F b):NM w' S k N L:=NM.same (Same.of_touch ht hd) k N L (fun _ _=>⟨id,id⟩) h
theorem NM.below {L:List (Nat×Nat)}(h:NM w S k N L)(hb:Below w.heap.size w w'):NM w' S k N L:=NM.same (Same.of_below hb) k N L (fun _ _=>⟨id,id⟩) h
theorem KM.touch {vs:List Kv}{L:List (Nat×Nat)}(h:KM w S xs vs L)(ht:Touch F w w')(hd:∀ b,S b→¬F b):KM w' S xs vs L:=KM.same (Same.of_touch ht hd) xs vs L (fun _ _=>⟨id,id⟩) h
theorem KM.below {vs:List Kv}{L:List (Nat×Nat)}(h:KM w S xs vs L)(hb:Below w.heap.size w w'):KM w' S xs vs L:=KM.same (Same.of_below hb) xs vs L (fun _ _=>⟨id,id⟩) h
theorem RowV.append {w:World}{S:Nat→Prop}:∀ {a:List Value} {ks:List Bs} {b:List Value} {ls:List Bs},RowV w S a ks→RowV w S b ls→RowV w S (a++b) (ks++ls)
 | [],ks,b,ls,h,h2=>by
  have h:ks=[]:=h;subst h;exact h2
 | v::a,ks,b,ls,h,h2=>by
  obtain⟨k,r,B,c,rfl,e2,e3,e4,e5⟩:=h;exact⟨k,r++ls,B,c,rfl,e2,e3,e4,e5.append h2⟩
theorem RowV.nil (w:World)(S:Nat→Prop):RowV w S [] []:=rfl
theorem RowV.one {B:Option Addr}{k:Bs}{c:Nat}(hc:k.length≤c)(h:ByS w S B k):RowV w S [.slice B k.length c] [k]:=⟨k,[],B,c,rfl,rfl,hc,h,rfl⟩
theorem RowV.split {w:World}{S:Nat→Prop}:∀ {vs:List Value} {ks:List Bs} (n:Nat),RowV w S vs ks→RowV w S (vs.take n) (ks.take n)∧RowV w S (vs.drop n) (ks.drop n)
 | [],ks,n,h=>by
  have h:ks=[]:=h;subst h;simp only[List.take_nil,List.drop_nil];exact⟨rfl,rfl⟩
 | v::vs,ks,0,h=>⟨rfl,h⟩
 | v::vs,ks,n+1,h=>by
  obtain⟨k,r,B,c,rfl,e2,e3,e4,e5⟩:=h;obtain⟨h1,h2⟩:=RowV.split n e5;exact⟨⟨k,r.take n,B,c,rfl,e2,e3,e4,h1⟩,h2⟩
theorem RowV.get {w:World}{S:Nat→Prop}:∀ {vs:List Value} {ks:List Bs} {j:Nat} {k:Bs},RowV w S vs ks→ks[j]?=some k→∃ B c,vs[j]?=some (.slice B k.length c)∧k.length≤c∧ByS w S B k
 | [],ks,j,k,h,hk=>by
  have h:ks=[]:=h;subst h;simp at hk
 | v::vs,ks,0,k,h,hk=>by
  obtain⟨k',r,B,c,rfl,rfl,e3,e4,e5⟩:=h;simp at hk;subst hk;exact⟨B,c,rfl,e3,e4⟩
 | v::vs,ks,j+1,k,h,hk=>by
  obtain⟨k',r,B,c,rfl,rfl,e3,e4,e5⟩:=h;obtain⟨B',c',h1,h2⟩:=RowV.get e5 (by simpa using hk);exact⟨B',c',by simpa using h1,h2⟩
theorem qj4:KM w S [] [] []:=by
 unfold KM;exact⟨rfl,rfl⟩
theorem qg1 {w:World}{S:Nat→Prop}:∀ {xs:List Kd} {vs:List Kv} {L:List (Nat×Nat)} {ys:List Kd} {us:List Kv} {M:List (Nat×Nat)},KM w S xs vs L→KM w S ys us M→KM w S (xs++ys) (vs++us) (L++M)
 | [],vs,L,ys,us,M,h,h2=>by
  simp only[KM]at h;obtain⟨rfl,rfl⟩:=h;exact h2
 | x::xs,vs,L,ys,us,M,h,h2=>by
  obtain⟨v,r,L1,L2,rfl,rfl,h3,h4⟩:=km_cons.1 h;exact km_cons.2 ⟨v,r++us,L1,L2++M,rfl,by rw[zah],qg1 h3 h2,h4⟩
theorem qmK {v:Kv}{L:List (Nat×Nat)}(h:KidM w S x v L):KM w S [x] [v] L:=km_cons.2 ⟨v,[],L,[],rfl,by simp,qj4,h⟩
theorem qlT {w:World}{S:Nat→Prop}:∀ {xs:List Kd} {vs:List Kv} {L:List (Nat×Nat)} {j:Nat} {x:Kd},KM w S xs vs L→xs[j]?=some x→∃ v L1,vs[j]?=some v∧KidM w S x v L1∧∀ y∈L1,y∈L
 | [],vs,L,j,x,h,hx=>by simp at hx
 | y::xs,vs,L,0,x,h,hx=>by
  obtain⟨v,r,L1,L2,rfl,rfl,h3,h4⟩:=km_cons.1 h;simp at hx;subst hx;exact⟨v,L1,rfl,h4,fun y hy=>za6 _ hy⟩
 | y::xs,vs,L,j+1,x,h,hx=>by
  obtain⟨v,r,L1,L2,rfl,rfl,h3,h4⟩:=km_cons.1 h;obtain⟨v',L',e1,e2,e3⟩:=qlT h3 (by simpa using hx);exact⟨v',L',by simpa using e1,e2,fun y hy=>zaS _ (e3 y hy)⟩
theorem KidM.touch {v:Kv}{L:List (Nat×Nat)}(h:KidM w S x v L)(ht:Touch F w w')(hd:∀ b,S b→¬F b):KidM w' S x v L:=by
 rcases h with h|⟨N,e,h⟩
 ·exact .inl h
 ·exact .inr ⟨N,e,h.touch ht hd⟩
theorem KidM.below {v:Kv}{L:List (Nat×Nat)}(h:KidM w S x v L)(hb:Below w.heap.size w w'):KidM w' S x v L:=by
 rcases h with h|⟨N,e,h⟩
 ·exact .inl h
 ·exact .inr ⟨N,e,h.below hb⟩
theorem KidM.mono {v:Kv}{L:List (Nat×Nat)}(h:KidM w S x v L)(hS:∀ b,S b→S' b):KidM w S' x v L:=by
 rcases h with h|⟨N,e,h⟩
 ·exact .inl h
 ·exact .inr ⟨N,e,NM.mono hS x N L h⟩
theorem SrcS.below {size:Nat}(h:SrcS w S size A n us)(hb:Below w.heap.size w w'):SrcS w' S size A n us:=
 SrcS.mk' h.src.len fun hn=>by
  obtain⟨b,off,e,hS,hc⟩:=h.at_ hn;exact⟨b,off,e,hS,fun j u hj=>(hb.cell (p:=⟨b,off+j,none⟩) (qaq (hc j u hj))).trans (hc j u hj),(h.thaw hn b off e).same (Same.of_below hb) hS⟩
theorem SrcS.touch {size:Nat}(h:SrcS w S size A n us)(ht:Touch F w w')(hd:∀ b,S b→¬F b):SrcS w' S size A n us:=
 SrcS.mk' h.src.len fun hn=>by
  obtain⟨b,off,e,hS,hc⟩:=h.at_ hn;exact⟨b,off,e,hS,fun j u hj=>(qaj ht (qaq (hc j u hj)) (hd b hS)).trans (hc j u hj),(h.thaw hn b off e).same (Same.of_touch ht hd) hS⟩
theorem SrcS.take {size:Nat}(h:SrcS w S size A n us){j:Nat}(hj:j≤n):SrcS w S size A j (us.take (j*size)):=
 ⟨h.src.take2 hj,fun h0=>h.form (by omega),fun h0=>h.thaw (by omega)⟩
theorem SrcS.drop {size:Nat}{off:Nat}(h:SrcS w S size (some ⟨b,off,none⟩) n us)(j:Nat)(hA:j<n→A=some ⟨b,off+j*size,none⟩):SrcS w S size A (n-j) (us.drop (j*size)):=
 ⟨h.src.drop2 j hA,fun h0=>by
  obtain⟨b',off',e,hS⟩:=h.form (by omega);cases e;exact⟨b,_,hA (by omega),hS⟩,fun h0 b2 o2 e2=>by
  have e3:=hA (by omega);rw[e2]at e3;cases e3;exact h.thaw (by omega) b off rfl⟩
theorem qma:(Tryz.prog.info? 40).map (fun i=>(i.zero,i.size,i.bytes))=some (some (.slice none 0 0),1,24):=by kernel_rfl
theorem qhU:(Tryz.prog.info? 222).map (fun i=>(i.zero,i.size,i.bytes))=some (some (.agg #[.int .i64 0,.pointer none]),2,16):=by kernel_rfl
def RwF (w:World)(b:Nat)(k r:Bs)(e:Ending)(w':World):Prop:=
 ∃ A1 o2 c2,e=.returned (.tuple #[.slice A1 k.length k.length,.slice (some ⟨b,o2,none⟩) r.length c2,.bool true])∧(∀ ad,A1=some ad→ad.block=b)∧By w' A1 k∧By w' (some ⟨b,o2,none⟩) r∧r.length≤c2∧Below w.heap.size w w'
theorem qkJ {i:TypeInfo}(ht:P.underlying t=some (.slice e))(hi:P.info? e=some i)(hsize:i.size=1)(b off n c m:Nat)(h0:1≤m)(h1:m≤n)(h2:n≤c) :
  ∃ A:Option Addr,(1<m→A=some ⟨b,off+1,none⟩)∧(∀ ad,A=some ad→ad.block=b)∧∀ W,(Instr.slice t (.slice (some ⟨b,off,none⟩) n c) (some (.int .i64 1)) (some (.int .u8 (m:Int))) (some (.int .u8 (m:Int)))).run P W=.ok (.slice A (m-1) (m-1)) W:=by
 have e1:m≤c:=by omega
 have e2:(1:Int)≤(m:Int):=by omega
 by_cases hc:m=1
 ·refine⟨some ⟨b,off,none⟩,fun h=>by omega,fun ad e=>by cases e;rfl,fun W=>?_⟩;simp[Instr.slice,Instr.sliceBounds,Instr.sliceBound,asIntOf,zaU ht,sizeOf,typeInfo,hi,hsize,go_sem,hc,(by omega:1≤c)];intro h;omega
 ·refine⟨some ⟨b,off+1,none⟩,fun _=>rfl,fun ad e=>by cases e;rfl,fun W=>?_⟩;simp[Instr.slice,Instr.sliceBounds,Instr.sliceBound,asIntOf,zaU ht,sizeOf,typeInfo,hi,hsize,go_sem,hc,e1,e2]
theorem qjt {i:TypeInfo}(ht:P.underlying t=some (.slice e))(hi:P.info? e=some i)(hsize:i.size=1)(b off n c m:Nat)(h1:m≤n)(h2:n≤c) :
  ∃ o2,(m<n→o2=off+m)∧∀ W,(Instr.slice t (.slice (some ⟨b,off,none⟩) n c) (some (.int .u8 (m:Int))) none none).run P W=.ok (.slice (some ⟨b,o2,none⟩) (n-m) (c-m)) W:=by
 by_cases hc:c=m
 ·refine⟨off,fun h=>by omega,fun W=>?_⟩;subst hc;simp[Instr.slice,Instr.sliceBounds,Instr.sliceBound,asIntOf,zaU ht,sizeOf,typeInfo,hi,hsize,go_sem,h1]
 ·refine⟨off+m,fun _=>rfl,fun W=>?_⟩;simp[Instr.slice,Instr.sliceBounds,Instr.sliceBound,asIntOf,zaU ht,sizeOf,typeInfo,hi,hsize,hc,go_sem,h1]
theorem qiH (b off n c:Nat)(l k r:Bs)(w:World)(h:By w (some ⟨b,off,none⟩) l)(hn:l.length=n)(hc:n≤c)(hl:n≤1048576)(hr:rowD l=some (k,r))(hk:k.length≤254) :
  Calls Tryz.prog 151 #[.slice (some ⟨b,off,none⟩) n c] w (RwF w b k r):=by
 obtain⟨i0,hi0,hz0,hz1,hz2⟩:=zaY qcu;cases l with
 | nil=>simp[rowD]at hr
 | cons x t=>
  rw[qcg]at hr;split at hr
  ·cases hr
  ·rename_i hlt;simp only[zau,zaE]at hr;obtain⟨rfl,rfl⟩:=hr;have Hj:x.toNat≤t.length:=by omega
   have Ha:(t.take x.toNat).length=x.toNat:=by rw[zaj];omega
   rw[Ha]at hk;have Hk:t.length+1=n:=by simpa using hn
   obtain⟨m,hm⟩:∃ m,x.toNat+1=m:=⟨_,rfl⟩;obtain⟨A1,a1,a2,a3⟩:=qkJ (P:=Tryz.prog) Tryz.underlying40 hi0 hz1 b off n c m (by omega) (by omega) hc;obtain⟨o2,b1,b2⟩:=qjt (P:=Tryz.prog) Tryz.underlying40 hi0 hz1 b off n c m (by omega) hc;obtain⟨b',off',e',hbl,hcell⟩:=h.at_ (by simp);cases e';have Hi:w.cell? ⟨b,off,none⟩=some (.int .u8 (x.toNat:Int)):=by simpa using hcell 0 x rfl
   have He:=zH (show By w A1 (t.take x.toNat)from⟨fun h0=>by
    rw[Ha]at h0;refine⟨b,off+1,a1 (by omega),hbl,fun j q hj=>?_⟩;rw[zaR]at hj;split at hj
    ·have:=hcell (1+j) q (by rw[Nat.add_comm,zbe];exact hj)
     rwa [show off+1+j=off+(1+j) by omega]
    ·cases hj⟩)
   have Hf:=zH (show By w (some ⟨b,o2,none⟩) (t.drop x.toNat)from⟨fun h0=>by
    rw[zap]at h0;refine⟨b,o2,rfl,hbl,fun j q hj=>?_⟩;rw[zaJ]at hj;have:=hcell (m+j) q (by rw[show m+j=(x.toNat+j)+1 by omega,zbe];exact hj)
    rwa [b1 (by omega),show off+m+j=off+(m+j) by omega]⟩)
   have Hh:=zH Ha;have Hb:=zH (show(t.drop x.toNat).length=n-m by rw[zap];omega);have Hc:=zH a2;obtain⟨y,hy⟩:∃ y,x.toNat=y:=⟨_,rfl⟩;rw[hy]at Hi hm hk Hj;have HY:=zH hy;have t0:((n:Int)==0)=false:=by rw[zaN];omega
   have t1:decide (((n:Int)-1)<(y:Int))=false:=zan (by omega);have e1:IntKind.u8.wrap (1+(y:Int))=(m:Int):=by rw[IntWalk.u8_in _ (by omega)];omega
   have n0:0<n:=by omega
   have Hg:=zH (show n-m≤c-m by omega);clear h hcell hn hy hlt a1 a2 b1 Ha;go_enter Tryz.func151,Tryz.ntmps151
   go_wp2
   go_quiet (fail)
   go_wp2;rename Nat=>nq;have hb:Below w.heap.size w (w.drewN nq):=⟨rfl,rfl,rfl,zad _,fun _ _=>rfl⟩
   (try simp only[Exit.inBlock,Exit.then])
   refine za7 (v:=.tuple #[.slice A1 (m-1) (m-1),.slice (some ⟨b,o2,none⟩) (n-m) (c-m),.bool true]) (by simp[results,Tryz.results151,go_sem]) rfl ?_;refine⟨A1,o2,c-m,?_,Hc.o,He.o.below hb,Hf.o.below hb,by rw[Hb.o];exact Hg.o,hb⟩;have ey:m-1=y:=by omega
   rw[Hh.o,Hb.o,HY.o,ey]
structure NdO (w:World) (B N:Nat) (leaf:Bool) (K:Option Addr) (nk ck:Nat) (vk:List Value) (V:Option Addr) (nv cv:Nat) (vv:List Value) (X:Option Addr) (nx cx:Nat) (vx:List Value):Prop where
 nd:w.heap[N]?=some (.cells #[.bool leaf,.slice K nk ck,.slice V nv cv,.slice X nx cx] 225 (0,0))
 lo:B≤N
 k:Own w B 40 1 (.slice K nk ck) nk vk
 v:Own w B 40 1 (.slice V nv cv) nv vv
 x:Own w B 222 2 (.slice X nx cx) nx vx
 kN:∀ a,K=some a→a.block≠N
 vN:∀ a,V=some a→a.block≠N
 xN:∀ a,X=some a→a.block≠N
 kv:∀ a b,K=some a→V=some b→a.block≠b.block
 kx:∀ a b,K=some a→X=some b→a.block≠b.block
 vx:∀ a b,V=some a→X=some b→a.block≠b.block
section
section
variable {P:Program}
end
theorem qlB {w:World}{B:Nat}{e:TypeId}{size g n cap:Nat}{xs:List Value}(h:w.ownsRow B e size (.slice (some ⟨g,0,none⟩) n cap) n xs){i:Nat}(hi:i≤n):w.ownsRow B e size (.slice (some ⟨g,0,none⟩) i cap) i (xs.take (i*size)):=by
 obtain⟨hl,hv⟩:=h;rcases hv with⟨h0,_⟩|⟨g',cap',cur,hv,hbg,hg,hnc,hcm,hcs,htake⟩
 ·cases h0
 ·cases hv;have hm:i*size≤n*size:=Nat.mul_le_mul_right _ hi;refine⟨by rw[zaj,hl];omega,.inr ⟨g,cap,cur,rfl,hbg,hg,by omega,hcm,hcs,?_⟩⟩;rw[←htake,zcK,zbX hm]
theorem qhd {w:World}{B:Nat}{e:TypeId}{size g n cap:Nat}{xs:List Value}(h:w.ownsRow B e size (.slice (some ⟨g,0,none⟩) n cap) n xs):n≤cap∧cap≤maxLen∧xs.length=n*size∧B≤g∧g<w.heap.size∧(∀ j u,xs[j]?=some u→w.cell? ⟨g,j,none⟩=some u)∧∃ cur,w.heap[g]?=some (.cells cur e (0,0))∧cur.size=cap*size∧cur.toList.take (n*size)=xs:=by
 have h':=h;obtain⟨hl,hv⟩:=h;rcases hv with⟨h0,_⟩|⟨g',cap',cur,hv,hbg,hg,hnc,hcm,hcs,htake⟩
 ·cases h0
 ·cases hv;refine⟨hnc,hcm,hl,hbg,(zaa.1 hg).1,fun j u hu=>?_,cur,hg,hcs,htake⟩;rw[h'.cellAt j (by have:=(zac.1 hu).1;omega)];exact hu
theorem qhe {w:World}{B:Nat}{e:TypeId}{size g n cap:Nat}{xs:List Value}{cur:Array Value}(hg:w.heap[g]?=some (.cells cur e (0,0)))(hB:B≤g)(hn:n≤cap)(hm:cap≤maxLen)(hs:cur.size=cap*size)(ht:cur.toList.take (n*size)=xs):w.ownsRow B e size (.slice (some ⟨g,0,none⟩) n cap) n xs:=by
 have Ha:n*size≤cap*size:=Nat.mul_le_mul_right _ hn;refine⟨?_,.inr ⟨g,cap,cur,rfl,hB,hg,hn,hm,hs,ht⟩⟩;rw[←ht,zaj,zbx,hs];omega
end
end Go.Proofs.YtfcknhbmeofniaaGreatDoor
namespace Go.Proofs.YtfcknhbmeofniaaGreatDoor
open Go.RowKit BT Go.Lib
structure Upd (w w':World) (v v':Value):Prop where
 touch:Touch (fun b=>v.ownBlock=some b) w w'
 own:∀ b,v'.ownBlock=some b→v.ownBlock=some b∨(w.heap.size≤b∧b<w'.heap.size)
end Go.Proofs.YtfcknhbmeofniaaGreatDoor
