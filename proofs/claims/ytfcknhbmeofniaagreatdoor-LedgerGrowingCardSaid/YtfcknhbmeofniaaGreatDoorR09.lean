/- Texts PgA PgMem PgRd PgPut PgE PgF PgG WlA WlB. -/
import Derived.Test.YtfcknhbmeofniaaGreatDoorR04
import Derived.Test.YtfcknhbmeofniaaGreatDoorR08
import Derived.Lib.AppendZerosOnto
set_option linter.all false
set_option maxRecDepth 100000
set_option maxHeartbeats 16000000
namespace Go.Proofs.YtfcknhbmeofniaaGreatDoor
open Go.RowKit BT
variable {w w':World}{F:Nat→Prop}{a:PA}{G d n k m:Nat}{p:Pl}{e:TypeId}{A:Option Addr}
theorem qhF (a b:Nat)(ha:a<256)(hb:b<256):bits .and .u8 (a:Int) (b:Int)=((a &&& b:Nat):Int):=by
 have hx:a &&& b<256:=zcE Nat.and_le_left ha;have h1:(BitVec.ofInt 8 (a:Int)).toNat=a:=by
  rw[zbC,zbu];exact zbs (by omega)
 have h2:(BitVec.ofInt 8 (b:Int)).toNat=b:=by
  rw[zbC,zbu];exact zbs (by omega)
 show IntKind.u8.wrap ((BitVec.ofInt 8 (a:Int) &&& BitVec.ofInt 8 (b:Int)).toNat:Int)=_;rw[BitVec.toNat_and,h1,h2,IntKind.wrap_u8];omega
theorem qk7 (u:Bs)(i:Nat):hasB u i=decide ((u.getD (i / 8) 0).toNat / 2 ^ (i % 8) % 2=1):=by
 unfold hasB;rw[Nat.testBit_eq_decide_div_mod_eq]
theorem qgb (b off:Nat)(u:Bs)(i:Nat)(w:World)(hu:w.rangeAt b off (bv u))(hi:i<384)(hl:u.length=48) :
  Calls Tryz.prog 82 #[.pointer (some ⟨b,off,none⟩),.int .i64 i] w fun e w'=>e=.returned (.bool (hasB u i))∧w=w':=by
 obtain⟨c,hc⟩:∃ c,u[i / 8]?=some c:=⟨_,zab (by omega)⟩;have Ha:=hu (i / 8) _ (qfr hc);have HV:=zH (qk7 u i);have HC:=zH (show(u.getD (i / 8) 0)=c by rw[zaq,hc];rfl);obtain⟨n,hn⟩:∃ n,c.toNat=n:=⟨_,rfl⟩;have Hc:n<256:=by rw[←hn];exact c.toNat_lt
 rw[hn]at Ha;have Hb:=zH hn;have i0:(0:Int)≤(i:Int):=by omega
 have i1:(i:Int) / 8<48:=by omega
 have HI:=zH hi;clear hu hc hn hl;go_enter Tryz.func82,Tryz.ntmps82
 go_wp2;go_ret;refine⟨?_,rfl⟩;rw[HV.o,HC.o,Hb.o];have e:((n:Int) / 2 ^ (i % 8))=((n / 2 ^ (i % 8):Nat):Int):=by simp
 have h1:bits BinOp.and IntKind.u8 ((n:Int) / 2 ^ (i % 8)) 1=((n / 2 ^ (i % 8) % 2:Nat):Int):=by
  rw[e];have:=qhF (n / 2 ^ (i % 8)) 1 (zcE (Nat.div_le_self ..) Hc) (by omega);rw[show((1:Nat):Int)=1 from rfl]at this;rw[this,show(1:Nat)=2 ^ 1-1 from rfl,zbW]
 refine qeH ?_;rw[h1];rw[Bool.eq_iff_iff,zbZ,zbf];omega
theorem Nib.touch (h:Nib w)(ht:Touch F w w')(h1:¬F 2):Nib w':=fun i hi=>(qaj ht (zav w ⟨2,i,none⟩ (h i hi)) h1).trans (h i hi)
def gcells (a:PA)(d:Nat)(g:Pg):List Value:=
 [.pointer (some ⟨a.P,0,none⟩),.int .i64 (d:Int),.int .i64 (g.pages:Int),.int .u64 (g.gen:Int),.int .i64 ((g.root1:Int)-1)]++bv g.use++bv g.was
structure Pg.Ok (g:Pg) (d:Nat) (most:List Nat):Prop where
 m:∃ m,most[d]?=some m∧g.pages=min ((m-2) / 8) 384∧0<g.pages
 use:g.use.length=48
 was:g.was.length=48
 gen:g.gen<9223372036854775808
 root:g.root1≤384
 up:∀ i,g.pages≤i→i<384→hasB g.use i=false
structure PgM (w:World) (a:PA) (G d:Nat) (F:Nat→Prop) (p:Pl) (g:Pg):Prop where
 pl:PlM w a F p
 nF:¬F G
 gb:w.heap[G]?=some (.cells (gcells a d g).toArray 156 (0,0))
 ok:g.Ok d p.most
 nib:Nib w
 n1:¬F 2∧G≠2
theorem PgM.lt {g:Pg}(h:PgM w a G d F p g):G<w.heap.size:=(zaa.1 h.gb).1
theorem qfE (a:PA)(d:Nat)(g:Pg)(j:Nat)(v:Value)(h:(bv g.use)[j]?=some v):(gcells a d g)[5+j]?=some v:=by
 have hj:=(zac.1 h).1;unfold gcells;rw[zah,zaz (by simp),zaH (by simpa using hj)];simpa using h
theorem PgM.useR {g:Pg}(h:PgM w a G d F p g):w.rangeAt G 5 (bv g.use):=fun j v hv=>by
 rw[zao w G (5+j) _ _ _ h.gb,zbg];exact qfE a d g j v hv
theorem PgM.below {g:Pg}(h:PgM w a G d F p g)(hb:Below w.heap.size w w'):PgM w' a G d F p g:=
 ⟨h.pl.below hb,h.nF,(hb.block _ h.lt).trans h.gb,h.ok,h.nib.below hb,h.n1⟩
def GF (F:Nat→Prop)(G:Nat)(b:Nat):Prop:=F b∨b=G
theorem PgM.touch {H:Nat→Prop}{g:Pg}(h:PgM w a G d F p g)(ht:Touch H w w')(hd:∀ b,GF F G b→¬H b)(h1:¬H 2):PgM w' a G d F p g:=
 ⟨h.pl.touch ht (fun b hb=>hd b (.inl hb)),h.nF,(ht.block _ h.lt (hd _ (.inr rfl))).trans h.gb,h.ok,h.nib.touch ht h1,h.n1⟩
theorem PgM.cells {g:Pg}(h:PgM w a G d F p g):w.cell? ⟨G,0,none⟩=some (.pointer (some ⟨a.P,0,none⟩))∧w.cell? ⟨G,1,none⟩=some (.int .i64 (d:Int))∧w.cell? ⟨G,2,none⟩=some (.int .i64 (g.pages:Int))∧
  w.cell? ⟨G,3,none⟩=some (.int .u64 (g.gen:Int))∧w.cell? ⟨G,4,none⟩=some (.int .i64 ((g.root1:Int)-1)):=by
 refine⟨?_,?_,?_,?_,?_⟩<;>(rw[zao w G _ _ _ _ h.gb];simp[gcells])
theorem PgM.pages_le {g:Pg}(h:PgM w a G d F p g):g.pages≤384∧0<g.pages:=by
 obtain⟨m,_,h1,h2⟩:=h.ok.m;omega
theorem qkA {g:Pg}(h:PgM w a G d F p g) :
  Calls Tryz.prog 83 #[.pointer (some ⟨G,0,none⟩)] w fun e w'=>e=.returned (.int .i64 ((g.root1:Int)-1))∧w=w':=by
 obtain⟨_,_,_,_,c4⟩:=h.cells;clear h;go_enter Tryz.func83,Tryz.ntmps83
 go_wp2;go_ret;exact⟨rfl,rfl⟩
def inUseB (g:Pg)(i:Int):Bool:=decide (0≤i)&&decide (i<g.pages)&&hasB g.use i.toNat
theorem qi8 {g:Pg}(h:PgM w a G d F p g)(i:Int) :
  Calls Tryz.prog 150 #[.pointer (some ⟨G,0,none⟩),.int .i64 i] w fun e w'=>e=.returned (.bool (inUseB g i))∧w=w':=by
 obtain⟨_,_,c2,_⟩:=h.cells;have hp:=h.pages_le.1;by_cases h0:0≤i
 ·obtain⟨k,rfl⟩:=Int.eq_ofNat_of_zero_le h0;by_cases h1:k<g.pages
  ·have HU:=zH (qgb G 5 g.use k w h.useR (by omega) h.ok.use);have HI:=zH (show inUseB g (k:Int)=hasB g.use k by unfold inUseB;simp[h1]);obtain⟨n,hn⟩:∃ n,g.pages=n:=⟨_,rfl⟩;rw[hn]at c2 h1;have t1:decide ((k:Int)<(n:Int))=true:=zaT (by omega);have t2:decide ((0:Int)≤(k:Int))=true:=zaT (by omega);clear h h0 hn;go_enter Tryz.func150,Tryz.ntmps150
   go_wp2_with (go_at_call 82;refine HU.o.mono ?_;rintro e w' ⟨rfl,rfl⟩)
   go_ret;exact⟨qeH HI.o.symm,rfl⟩
  ·have HI:=zH (show inUseB g (k:Int)=false by unfold inUseB;simp[h1]);obtain⟨n,hn⟩:∃ n,g.pages=n:=⟨_,rfl⟩;rw[hn]at c2 h1;have t1:decide (k<n)=false:=zan h1;have t2:decide ((0:Int)≤(k:Int))=true:=zaT (by omega);clear h h0 hn;go_enter Tryz.func150,Tryz.ntmps150
   go_wp2;go_ret;exact⟨qeH HI.o.symm,rfl⟩
 ·have HI:=zH (show inUseB g i=false by unfold inUseB;simp[h0]);have t2:decide ((0:Int)≤i)=false:=zan h0;clear h;go_enter Tryz.func150,Tryz.ntmps150
  go_wp2;go_ret;exact⟨qeH HI.o.symm,rfl⟩
theorem PgM.ext {F':Nat→Prop}{q:Pl}{g:Pg}(h:PgM w a G d F p g)(hq:PlM w' a F' q)(he:Ext F F' w w')(hm:q.most=p.most):PgM w' a G d F' q g∧Ext (GF F G) (GF F' G) w w':=by
 have hl:=h.lt;have hn:¬F' G:=fun e=>by
  rcases he.sub G e with h1|h1
  ·exact h.nF h1
  ·omega
 have Ha:2<w.heap.size:=zav w ⟨2,0,none⟩ (h.nib 0 (by omega));refine⟨⟨hq,hn,(he.touch.block _ hl h.nF).trans h.gb,by rw[hm];exact h.ok,h.nib.touch he.touch h.n1.1,?_,h.n1.2⟩,he.touch.mono fun b _ hb=>.inl hb,fun b hb=>?_⟩
 ·intro e;rcases he.sub 2 e with h2|h2
  ·exact h.n1.1 h2
  ·omega
 ·rcases hb with hb|hb
  ·rcases he.sub b hb with h2|h2
   ·exact .inl (.inl h2)
   ·exact .inr h2
  ·exact .inl (.inr hb)
theorem qmx (b off c:Nat)(l:Bs)(n k:Nat)(w:World)(h:By w (some ⟨b,off,none⟩) l)(hn:l.length=n)(h1:1≤k)(h8:k≤8)(hk:k≤n)(hl:n≤1048576)(hc:n≤c) :
  Calls Tryz.prog 111 #[.slice (some ⟨b,off,none⟩) n c,.int .i64 k] w fun e w'=>e=.returned (.tuple #[.int .u64 (hiN (l.take k):Int),.slice (some ⟨w.heap.size,0,none⟩) (n-k) (n-k),.int .i64 0])∧
   w'.ownsRow w.heap.size 5 1 (.slice (some ⟨w.heap.size,0,none⟩) (n-k) (n-k)) (n-k) (bv (l.drop k))∧Below w.heap.size w w':=by
 subst hn;exact qfg b off c l k w h h1 h8 hk hl hc
theorem qlY (b off c:Nat)(l:Bs)(n:Nat)(w:World)(h:By w (some ⟨b,off,none⟩) l)(hn:l.length=n)(hk:2≤n)(hl:n≤1048576)(hc:n≤c) :
  Calls Tryz.prog 111 #[.slice (some ⟨b,off,none⟩) n c,.int .i64 2] w fun e w'=>e=.returned (.tuple #[.int .u64 (hiN (l.take 2):Int),.slice (some ⟨w.heap.size,0,none⟩) (n-2) (n-2),.int .i64 0])∧
   w'.ownsRow w.heap.size 5 1 (.slice (some ⟨w.heap.size,0,none⟩) (n-2) (n-2)) (n-2) (bv (l.drop 2))∧Below w.heap.size w w':=
 qmx b off c l n 2 w h hn (by omega) (by omega) hk hl hc
theorem qlZ (b off c:Nat)(l:Bs)(n:Nat)(w:World)(h:By w (some ⟨b,off,none⟩) l)(hn:l.length=n)(hk:4≤n)(hl:n≤1048576)(hc:n≤c) :
  Calls Tryz.prog 111 #[.slice (some ⟨b,off,none⟩) n c,.int .i64 4] w fun e w'=>e=.returned (.tuple #[.int .u64 (hiN (l.take 4):Int),.slice (some ⟨w.heap.size,0,none⟩) (n-4) (n-4),.int .i64 0])∧
   w'.ownsRow w.heap.size 5 1 (.slice (some ⟨w.heap.size,0,none⟩) (n-4) (n-4)) (n-4) (bv (l.drop 4))∧Below w.heap.size w w':=
 qmx b off c l n 4 w h hn (by omega) (by omega) hk hl hc
theorem qmU (b off c:Nat)(l:Bs)(n:Nat)(w:World)(h:By w (some ⟨b,off,none⟩) l)(hn:l.length=n)(hk:8≤n)(hl:n≤1048576)(hc:n≤c) :
  Calls Tryz.prog 111 #[.slice (some ⟨b,off,none⟩) n c,.int .i64 8] w fun e w'=>e=.returned (.tuple #[.int .u64 (hiN (l.take 8):Int),.slice (some ⟨w.heap.size,0,none⟩) (n-8) (n-8),.int .i64 0])∧
   w'.ownsRow w.heap.size 5 1 (.slice (some ⟨w.heap.size,0,none⟩) (n-8) (n-8)) (n-8) (bv (l.drop 8))∧Below w.heap.size w w':=
 qmx b off c l n 8 w h hn (by omega) (by omega) hk hl hc
theorem By.of_block {g:Nat}{t:TypeId}{l:Bs}{fr:Nat×Nat}(h:w.heap[g]?=some (.cells (bv l).toArray t fr)){off:Nat}(ho:off=0):By w (some ⟨g,off,none⟩) l:=by
 subst ho;refine⟨fun _=>⟨g,0,rfl,(zaa.1 h).1,fun k c hk=>?_⟩⟩;rw[zaF,zao w g k _ _ _ h,zbg];exact qfr hk
theorem By.of_own {base:Nat}{cap:Nat}{l:Bs}(h:Row w base e 1 (.slice A n cap) n (bv l))(hn:l.length=n):By w A l:=by
 subst hn;exact By.of_row h
theorem sumN (A:Option Addr)(c n:Nat)(l:Bs)(w:World)(h:By w A l)(hn:l.length=n)(hN:Nib w)(hl:n≤1048576) :
  Calls Tryz.prog 108 #[.slice A n c] w fun e w'=>e=.returned (.int .u32 (crcN l:Nat))∧w=w':=by
 subst hn;exact qiJ A c l w h hN hl
def RdF (r:Option Bs)(w:World)(e:Ending)(w':World):Prop:=
 match r with
 | none=>e=.returned (.tuple #[.slice none 0 0,.int .i64 4])∧Below w.heap.size w w'
 | some b=>∃ A c,e=.returned (.tuple #[.slice A b.length c,.int .i64 0])∧Own w' w.heap.size 5 1 (.slice A b.length c) b.length (bv b)∧Below w.heap.size w w'
def qem (s:Nat→Bs)(page n:Nat):Bs:=(List.range n).flatMap fun i=>s (2+page*8+i)
theorem qe9 (s:Nat→Bs)(page n:Nat):qem s page (n+1)=qem s page n++s (2+page*8+n):=by
 unfold qem;rw[List.range_succ,zaK];simp
theorem qfV (s:Nat→Bs)(page:Nat)(h:∀ k,(s k).length=64):∀ n,(qem s page n).length=n*64
 | 0=>rfl
 | n+1=>by rw[qe9,zaf,qfV s page h n,h];omega
theorem qjm {g:Pg}(h:PgM w a G d F p g)(hk:k<g.pages)(hi:hasB g.use k=true)(hoff:p.off=false) :
  Calls Tryz.prog 145 #[.pointer (some ⟨G,0,none⟩),.int .i64 k] w (RdF (qaX (p.seen d) k) w):=by
 have HI:=zH (qi8 h (k:Int));rw[show inUseB g (k:Int)=true by unfold inUseB;simp[hk,hi]]at HI;obtain⟨m,hm,hpg,_⟩:=h.ok.m;have HP:=h.pl.ok.most m (zak hm);have HJ:=zH (fun(j:Nat) (hj:j<8) (W:World) (hb:Below w.heap.size w W)=>qdw (h.pl.below hb) hm (k:=2+k*8+j) (by omega) hoff);have Ho:=zH (qfV (p.seen d) k (fun q=>Pl.Ok.seen h.pl.ok d q));obtain⟨g0,g1,_⟩:=h.cells;have HA:=h.lt;have HE:k<384:=by have:=h.pages_le.1;omega
 have HM:=zH (fun q=>Pl.Ok.seen h.pl.ok d q);have Hq:=zH h.nib;obtain⟨i0,hi0,hz0,hz1,hz2⟩:=zaY qcu;clear h hk hi hm hpg HP;have CL:=zH (show ∀ W,Below w.heap.size w W→W.cell? ⟨G,0,none⟩=some (.pointer (some ⟨a.P,0,none⟩))∧W.cell? ⟨G,1,none⟩=some (.int .i64 (d:Int))from fun W hb=>⟨(hb.cell (p:=⟨G,0,none⟩) HA).trans g0,(hb.cell (p:=⟨G,1,none⟩) HA).trans g1⟩);go_enter Tryz.func145,Tryz.ntmps145
 go_wp2_with (go_at_call 150;refine HI.o.mono ?_;rintro e w' ⟨rfl,rfl⟩)
 go_loopw [6,7,8,9,19] (fun t _ _ _ i wr=>∃ (j:Nat) (A:Option Addr) (cap:Nat),i=.int .i64 j∧j≤8∧t=.slice A (j*64) cap∧Own wr w.heap.size 5 1 (.slice A (j*64) cap) (j*64) (bv (qem (p.seen d) k j))∧Below w.heap.size w wr) (fun _ _ _ _ i _=>8-(intOf i).toNat)
 case atStart=>exact⟨0,none,0,rfl,by omega,rfl,Own.nil ..,zai _ _⟩
 case round=>
  rename World=>wr;obtain⟨j,A,cap,rfl,hj,rfl,hO,hb⟩:=hrel;have HO:=zH hO;have HB:=zH hb;have Hv:=hb.size;clear hO hb;by_cases hlt:j<8
  ·have j1:(j:Int)<8:=by omega
   have j0:(0:Int)≤(j:Int):=by omega
   have e1:IntKind.i64.wrap ((k:Int)*8)=((k*8:Nat):Int):=by rw[zaA _ (by omega)];omega
   have e2:IntKind.i64.wrap (2+((k*8:Nat):Int))=((2+k*8:Nat):Int):=by rw[zaA _ (by omega)];omega
   have e3:IntKind.i64.wrap (((2+k*8:Nat):Int)+(j:Int))=((2+k*8+j:Nat):Int):=by rw[zaA _ (by omega)];omega
   obtain⟨q1,hq1⟩:∃ q,k*8=q:=⟨_,rfl⟩;obtain⟨q2,hq2⟩:∃ q,2+q1=q:=⟨_,rfl⟩;obtain⟨q3,hq3⟩:∃ q,q2+j=q:=⟨_,rfl⟩;rw[hq1]at e1 e2 e3;rw[hq2]at e2 e3;rw[hq3]at e3;have HQ:=zH (show 2+k*8+j=q3 by rw[hq1,hq2,hq3]);have HK:=zH (fun(W:World) (hb:Below w.heap.size w W)=>(by have:=HJ.o j hlt W hb;rw[HQ.o]at this;exact this:Calls Tryz.prog 110 #[.pointer (some ⟨a.P,0,none⟩),.int .i64 d,.int .i64 q3] W _));have HL:=zH (show qem (p.seen d) k (j+1)=qem (p.seen d) k j++p.seen d q3 by rw[qe9,HQ.o]);clear hq1 hq2 hq3;go_upto_region 7 with fail
   have HF:=CL.o _ (HB.o.drew);refine wp_region_held_drew (S:=fun W=>W.cell? ⟨G,0,none⟩=some (.pointer (some ⟨a.P,0,none⟩))∧W.cell? ⟨G,1,none⟩=some (.int .i64 (d:Int))) (by kernel_rfl) HF (fun hHeld=>?_);refine zU 0 23 (.pointer (some ⟨G,0,none⟩)) ?_;try simp only[zS]
   refine zU 1 24 (.pointer (some ⟨G,0,none⟩)) ?_;try simp only[zS]
   refine zU 2 25 (.pointer (some ⟨G,0,none⟩)) ?_;try simp only[zS]
   refine zT 3 26 (.pointer (some ⟨a.P,0,none⟩)) rfl (Or.inl ⟨by rfl,fun W hS=>by obtain⟨hS1,hS2⟩:=hS;go_simp⟩) ?_;try simp only[zS]
   refine zU 4 27 (.pointer (some ⟨G,0,none⟩)) ?_;try simp only[zS]
   refine zU 5 28 (.pointer (some ⟨G,0,none⟩)) ?_;try simp only[zS]
   refine zU 6 29 (.pointer (some ⟨G,1,none⟩)) ?_;try simp only[zS]
   refine zT 7 30 (.int .i64 (d:Int)) rfl (Or.inl ⟨by rfl,fun W hS=>by obtain⟨hS1,hS2⟩:=hS;go_simp⟩) ?_;try simp only[zS]
   refine zU 8 31 (.int .i64 (k:Int)) ?_;try simp only[zS]
   refine zU 9 32 (.int .i64 (q1:Int)) ?_;try simp only[zS]
   refine zU 10 33 (.int .i64 (q2:Int)) ?_;try simp only[zS]
   refine zU 11 34 (.int .i64 (j:Int)) ?_;try simp only[zS]
   refine zU 12 35 (.int .i64 (q3:Int)) ?_;try simp only[zS]
   refine wpAnyH_ready (rs:=[13]) (by kernel_rfl) (by simp) ?_;refine AllReadyH.cons rfl (fun K hK=>?_) AllReadyH.nil;go_simp;go_at_call 110
   refine(HK.o _ (HB.o.drew)).mono ?_;rintro e wn ⟨gq,rfl,hgq,hblk,hbn⟩;have Hu:Below w.heap.size w wn:=HB.o.drew.trans (hbn.mono Hv);refine hK.out _ _ (CL.o _ Hu) (fun hHeld2=>?_);clear hK K;try simp only[zS]
   refine zU 14 22 (.tuple #[.slice (some ⟨gq,0,none⟩) 64 64,.int .i64 0]) ?_;try simp only[zS]
   refine zU 15 37 (.slice (some ⟨gq,0,none⟩) 64 64) ?_;try simp only[zS]
   refine zU 16 38 (.int .i64 0) ?_;try simp only[zS]
   refine zU 17 8 (.slice (some ⟨gq,0,none⟩) 64 64) ?_;try simp only[zS]
   refine zU 18 9 (.int .i64 0) ?_;try simp only[zS]
   refine wpAnyH_done (by kernel_rfl) ?_ _;have HH:=zH (HO.o.below (zad _) ((zai _ _).drew.trans hbn));have Hs:=zH (show Src wn 1 (some ⟨gq,0,none⟩) 64 (bv (p.seen d q3))from qas hblk (by rw[bv_len,HM.o]));have Hw:=zH Hu;clear hblk Hu hHeld hHeld2 HF hbn e1 e2 e3;go_wp2_with (at_builtin;refine qai rfl (.tmp 42) (.tmp 43) 40 rfl w.heap.size 5 i0 _ 1 1 Tryz.underlying40 hi0 hz0 hz1 hz2 rfl (by decide) (.slice A (j*64) cap) (j*64) _ rfl HH.o (some ⟨gq,0,none⟩) 64 64 (bv (p.seen d q3)) rfl Hs.o (qak _) (by unfold maxLen;omega) (by omega) Hw.o.size ?_;intro A6 cap6 w6 hrow6 hgrow6)
   rw[←qao,←HL.o,show j*64+64=(j+1)*64 by omega]at hrow6;refine⟨⟨j+1,A6,cap6,by go_num,by omega,?_,hrow6,Hw.o.trans hgrow6⟩,by simp[intOf];omega⟩;rw[show(j+1)*64=j*64+64 by omega]
  ·obtain rfl:j=8:=by omega
   obtain⟨L,hL⟩:∃ L,qem (p.seen d) k 8=L:=⟨_,rfl⟩;have Ht:L.length=512:=by rw[←hL,Ho.o]
   have HG:=zH hL;have He:=HO.o;rw[hL]at He;clear hL;have Hk:∃ gA,A=some ⟨gA,0,none⟩∧512≤cap:=by
    rcases He.row with ho|⟨_,_,h0,_⟩
    ·rcases ho.2 with⟨_,h0⟩|⟨gA,cap',cs,e,_,_,h1,_⟩
     ·omega
     ·cases e;exact⟨gA,rfl,h1⟩
    ·omega
   obtain⟨gA,rfl,hcap⟩:=Hk;have Hz:By wr (some ⟨gA,0,none⟩) L:=By.of_own He.row (by omega);have Hx:=zH (qlY gA 0 cap L 512 wr Hz Ht (by omega) (by omega) hcap);have Hb:=qfJ (L.take 2);rw[zaj,zbX (by omega)]at Hb;have Hc:=qfJ ((L.drop 2).take 4);rw[zaj,zap,zbX (by omega)]at Hc;obtain⟨n,hn⟩:∃ n,hiN (L.take 2)=n:=⟨_,rfl⟩;obtain⟨s,hs⟩:∃ s,hiN ((L.drop 2).take 4)=s:=⟨_,rfl⟩;rw[hn]at Hx Hb;rw[hs]at Hc;have Hb:n<65536:=by omega
   have Hc:s<4294967296:=by omega
   have Hp:=zH (And.intro hn hs);have Hl:=zH Ht;clear hn hs Ht HO He Hz;have HC:qaX (p.seen d) k=if 500<n∨crcN ((L.drop 6).take n)≠s then none else some ((L.drop 6).take n):=by
    unfold qaX qiE;have e:qdW (p.seen d) k=L:=HG.o;rw[e,Hp.o.1,Hp.o.2]
   have Hj:=zH HC;clear HC;go_upto_region 14 with(first
    | (go_at_call 111;((with_reducible refine Hx.o.mono ?_);rintro e w1 ⟨rfl,ho1,hb1⟩;have Hf:=zH hb1;have Hy:=zH (qlZ wr.heap.size 0 510 (L.drop 2) 510 w1 (By.of_own (.inl ho1) (by rw[zap,Hl.o])) (by rw[zap,Hl.o]) (by omega) (by omega) (by omega));rw[Hp.o.2]at Hy;clear ho1 hb1))
    | (go_at_call 111;((with_reducible refine Hy.o.mono ?_);rintro e w2 ⟨rfl,ho2,hb2⟩;have Hn:=zH hb2;have He:=zH ho2;clear ho2 hb2)))
   by_cases hn5:500<n
   ·have Hi:=zH (show qaX (p.seen d) k=none by rw[Hj.o,zax (.inl hn5)]);have t1:decide ((500:Int)<(n:Int))=true:=zaT (by omega);go_wp2
    go_ret2
    rw[Hi.o];exact⟨rfl,(HB.o.trans (Hf.o.mono Hv)).trans (Hn.o.mono (by have:=Hf.o.size;omega))⟩
   ·have t1:decide ((500:Int)<(n:Int))=false:=zan (by omega);have hR:By w2 (some ⟨w1.heap.size,0,none⟩) ((L.drop 6).take n):=by
     have:=(By.of_own (.inl He.o) (by rw[zap,zap,Hl.o])).take n
     rwa [zb2]at this
    have Hm:((L.drop 6).take n).length=n:=by rw[zaj,zap,Hl.o];omega
    have Hh:=zH (((Hq.o.below HB.o).below Hf.o).below Hn.o);obtain⟨R,hRR⟩:∃ R,(L.drop 6).take n=R:=⟨_,rfl⟩;rw[hRR]at hR Hm Hj;have Ha:=zH (sumN (some ⟨w1.heap.size,0,none⟩) 506 n R w2 hR Hm Hh.o (by omega));have Hr:=zH Hm;have HR:=zH hR;obtain⟨cr,hcr⟩:∃ cr,crcN R=cr:=⟨_,rfl⟩;have HD:cr<4294967296:=by rw[←hcr];exact qc8 _
    rw[hcr]at Ha Hj;have n0:(0:Int)≤(n:Int):=by omega
    have n1:(n:Int)≤506:=by omega
    clear hRR hcr hR Hm;have Hg:=zH ((HB.o.trans (Hf.o.mono Hv)).trans (Hn.o.mono (by have:=Hf.o.size;omega)));by_cases hcs:cr=s
    ·have Hi:=zH (show qaX (p.seen d) k=some R by rw[Hj.o,zaC (by exact fun h=>h.elim hn5 (fun h=>h hcs))]);have t2:((cr:Int) != (s:Int))=false:=by rw[hcs];simp
     have HN:=zH hcs;clear hcs;go_wp2_with (first
      | (go_at_call 108;((with_reducible refine Ha.o.mono ?_);rintro e w3 ⟨rfl,rfl⟩))
      | (at_builtin;refine qai rfl (.tmp 69) (.tmp 72) 40 rfl w.heap.size 5 i0 _ 1 1 Tryz.underlying40 hi0 hz0 hz1 hz2 rfl (by decide) _ 0 [] rfl (Own.empty _ _ _ _ w2.heap.size 0 Hg.o.size (by simp)) (some ⟨w1.heap.size,0,none⟩) n 506 (bv R) rfl (by have:=(HR.o.below ((zai _ w2).alloc (zad _) (.cells #[] 5))).src;rwa [Hr.o]at this) (qak _) (by unfold maxLen;omega) (by omega) (by have:=Hg.o.size;simp;omega) ?_;intro A6 cap6 w6 hrow6 hgrow6))
     go_ret2
     rw[Hi.o];simp only[zaF,zaI]at hrow6;refine⟨A6,cap6,by rw[Hr.o];simp,by rw[Hr.o];exact hrow6,(Hg.o.alloc (by have:=Hg.o.size;omega) _).trans hgrow6⟩
    ·have Hi:=zH (show qaX (p.seen d) k=none by rw[Hj.o,zax (.inr hcs)]);have t2:((cr:Int) != (s:Int))=true:=by rw[bne_iff_ne];omega
     go_wp2_with (go_at_call 108;((with_reducible refine Ha.o.mono ?_);rintro e w3 ⟨rfl,rfl⟩))
     go_ret2
     rw[Hi.o];exact⟨rfl,Hg.o⟩
theorem qh1 (A:Option Addr)(c:Nat)(l:Bs)(m r n k:Nat)(w:World)(h:By w A l)(hm:l.length=m)(hr:m+k=r)(hl:m≤1000000)(hn:n<18446744073709551616)(h1:1≤k)(h8:k≤8) :
  Calls Tryz.prog 55 #[.slice A m c,.int .u64 n,.int .i64 k] w fun e w'=>∃ A' cap,e=.returned (.slice A' r cap)∧Own w' w.heap.size 5 1 (.slice A' r cap) r (bv (l++numB n k))∧Below w.heap.size w w':=by
 subst hm;subst hr;exact qh2 A c l n k w h hl hn h1 h8
theorem qlw (A:Option Addr)(c:Nat)(l:Bs)(m r n:Nat)(w:World)(h:By w A l)(hm:l.length=m)(hr:m+2=r)(hl:m≤1000000)(hn:n<18446744073709551616) :
  Calls Tryz.prog 55 #[.slice A m c,.int .u64 n,.int .i64 2] w fun e w'=>∃ A' cap,e=.returned (.slice A' r cap)∧Own w' w.heap.size 5 1 (.slice A' r cap) r (bv (l++numB n 2))∧Below w.heap.size w w':=
 qh1 A c l m r n 2 w h hm hr hl hn (by omega) (by omega)
theorem qbK (A:Option Addr)(c:Nat)(l:Bs)(m r n:Nat)(w:World)(h:By w A l)(hm:l.length=m)(hr:m+4=r)(hl:m≤1000000)(hn:n<18446744073709551616) :
  Calls Tryz.prog 55 #[.slice A m c,.int .u64 n,.int .i64 4] w fun e w'=>∃ A' cap,e=.returned (.slice A' r cap)∧Own w' w.heap.size 5 1 (.slice A' r cap) r (bv (l++numB n 4))∧Below w.heap.size w w':=
 qh1 A c l m r n 4 w h hm hr hl hn (by omega) (by omega)
theorem qlx (A:Option Addr)(c:Nat)(l:Bs)(m r n:Nat)(w:World)(h:By w A l)(hm:l.length=m)(hr:m+8=r)(hl:m≤1000000)(hn:n<18446744073709551616) :
  Calls Tryz.prog 55 #[.slice A m c,.int .u64 n,.int .i64 8] w fun e w'=>∃ A' cap,e=.returned (.slice A' r cap)∧Own w' w.heap.size 5 1 (.slice A' r cap) r (bv (l++numB n 8))∧Below w.heap.size w w':=
 qh1 A c l m r n 8 w h hm hr hl hn (by omega) (by omega)
theorem Own.byN {base:Nat}{cap:Nat}{l:Bs}(h:Own w base e 1 (.slice A n cap) n (bv l))(hn:l.length=n):By w A l:=By.of_own h.row hn
theorem qiz:(madeCells (Value.int .u8 0).cells (64*1)).toList=bv (zeros 64):=by kernel_rfl
theorem qjf (h:k=Nat.min m 64):0+k≤(madeCells (Value.int .u8 0).cells (64*1)).toList.length:=by
 have e:(madeCells (Value.int .u8 0).cells (64*1)).toList.length=64:=by kernel_rfl
 rw[e,h,zaF];exact Nat.min_le_right _ _
theorem qik (n k:Nat):(bv (zeros n)).drop k=bv (zeros (n-k)):=by
 unfold bv zeros;rw[←List.map_drop,List.drop_replicate]
theorem qkK (n:Nat)(w:World)(h:n<9223372036854775808) :
  Calls Tryz.prog 79 #[.int .u64 n] w fun e w'=>e=.returned (.int .i64 (slot n:Nat))∧w=w':=by
 have e1:IntKind.u64.wrap ((n:Int)+1)=((n+1:Nat):Int):=by rw[zbL _ (by omega)];omega
 have e2:IntKind.u64.wrap (Int.tmod ((n+1:Nat):Int) 2)=((slot n:Nat):Int):=by
  have:Int.tmod ((n+1:Nat):Int) 2=((slot n:Nat):Int):=by
   unfold slot;rw[Int.tmod_eq_emod_of_nonneg (by omega)];omega
  rw[this,zbL _ (by have:=qco n;omega)]
 have e3:IntKind.i64.wrap ((slot n:Nat):Int)=((slot n:Nat):Int):=by rw[zaA _ (by have:=qco n;omega)]
 obtain⟨s,hs⟩:∃ s,slot n=s:=⟨_,rfl⟩;rw[hs]at e2 e3⊢;have e4:((n+1:Nat):Int) % 2=(s:Int):=by rw[←hs];unfold slot;omega
 obtain⟨q,hq⟩:∃ q,n+1=q:=⟨_,rfl⟩;rw[hq]at e1 e2 e4;have Ha:=zH e4;clear e4;go_enter Tryz.func79,Tryz.ntmps79
 go_wp2;go_ret;exact⟨qcH Ha.o,rfl⟩
def qe2 (most:List Nat)(d:Int):Nat:=if d<0∨most.length≤d then 0 else min ((most.getD d.toNat 0-2) / 8) 384
theorem quo8 (m:Nat):max (0:Int) (min (Int.tdiv ((m:Int)-2) 8) 384)=((min ((m-2) / 8) 384:Nat):Int):=by
 by_cases h:2≤m
 ·have e:(m:Int)-2=((m-2:Nat):Int):=by omega
  rw[e,Int.tdiv_eq_ediv_of_nonneg (by omega)];omega
 ·have:m=0∨m=1:=by omega
  rcases this with rfl|rfl<;>decide
theorem qel (h:PlM w a F p)(d:Nat)(hd:d<p.most.length) :
  Calls Tryz.prog 76 #[.pointer (some ⟨a.P,0,none⟩),.int .i64 d] w fun e w'=>e=.returned (.int .i64 (qe2 p.most d:Nat))∧Below w.heap.size w w':=by
 have HS:=zH (qd0 h);obtain⟨m,hm⟩:∃ m,p.most[d]?=some m:=⟨_,zab hd⟩;have Hj:=h.ok.most m (zak hm);have HR:=zH (show((min ((m-2) / 8) 384:Nat):Int)=(qe2 p.most d:Nat)by
  unfold qe2;rw[zaC (by omega)];simp[hm])
 obtain⟨n,hn⟩:∃ n,p.most.length=n:=⟨_,rfl⟩;have HN:=zH hn;have HM:=zH hm;have He:d<n:=by omega
 have e1:IntKind.i64.wrap ((m:Int)-2)=(m:Int)-2:=zaA _ (by omega);have Ha:=zH (show ∀ (W:World) (A:Option Addr),Ints W A (p.most.map fun(m:Nat)=>(m:Int))→∃ b off,A=some ⟨b,off,none⟩∧b<W.heap.size∧W.cell? ⟨b,off+d,none⟩=some (.int .i64 (m:Int))from fun W A hi=>by
  obtain⟨b,off,e,h1,h2⟩:=hi.at_ (by simp only[zbc];omega);refine⟨b,off,e,h1,(h2 d (by simp only[zbc];omega)).trans ?_⟩;simp[el,hm])
 have Hi:=zaT He;have Hh:=show(d:Int)<n by omega
 clear h hd hn hm;go_enter Tryz.func76,Tryz.ntmps76
 go_wp2_with (go_at_call 69;refine HS.o.mono ?_;rintro e w' ⟨A1,c1,A2,c2,rfl,hi1,hi2,hbl,hbw⟩;have Hc:=zH hi1;have Hf:=zH hbl;have Hb:=zH hbw;clear hi1 hi2 hbl hbw;rw[HN.o];obtain⟨b,off,rfl,hb1,hc1⟩:=Ha.o _ _ Hc.o;have Hg:(w'.alloc (.cells #[.slice (some ⟨b,off,none⟩) n c1,.slice A2 p.tp.length c2] 61)).cell? ⟨b,off+d,none⟩=some (.int .i64 (m:Int)):=((zB _ _).cell (p:=⟨b,off+d,none⟩) hb1).trans hc1;clear hb1 hc1)
 all_goals go_ret
 all_goals refine⟨qcH ?_,(Hb.o.trans ((zB _ _).mono Hb.o.size))⟩
 all_goals (have hq:=(quo8 m).trans HR.o;omega)
theorem l8 (n:Nat):([]++numB n 8).length=8:=by simp[qan]
theorem l58 (n m:Nat)(u:Bs)(h:u.length=48):((([]++numB n 8)++numB m 2)++u).length=58:=by simp[qan,h]
theorem l62 (n m:Nat)(u:Bs)(k:Nat)(h:u.length=48):(((([]++numB n 8)++numB m 2)++u)++numB k 4).length=62:=by simp[qan,h]
theorem qhs (gen r1:Nat)(ub:Bs)(cr:Nat)(hcr:crcN ((([]++numB gen 8)++numB r1 2)++ub)=cr)(hu:ub.length=48) :
  splice (madeCells (Value.int .u8 0).cells (64*1)).toList 0 (bv (((([]++numB gen 8)++numB r1 2)++ub)++numB cr 4))=bv (superB gen r1 ub):=by
 have e:superB gen r1 ub=(((([]++numB gen 8)++numB r1 2)++ub)++numB cr 4)++zeros 2:=by rw[←hcr];rfl
 have hl:=l62 gen r1 ub cr hu;rw[e,qiz];generalize ((([]++numB gen 8)++numB r1 2)++ub)++numB cr 4=L at hl⊢;have Ha:(bv L).length=62:=by rw[bv_len,hl]
 rw[qao];simp only[splice,zbT,zaI,zaF,Ha,qik]
theorem qjA (gen r1:Nat)(ub:Bs)(w:World)(hn:Nib w)(hu:ub.length=48)(hg:gen<18446744073709551616)(hr:r1<1000) :
  Calls Tryz.prog 80 #[.int .u64 gen,.int .i64 ((r1:Int)-1),.agg (bv ub).toArray] w fun e w'=>∃ b,e=.returned (.slice (some ⟨b,0,none⟩) 64 64)∧w.heap.size≤b∧w'.heap[b]?=some (.cells (bv (superB gen r1 ub)).toArray 5 (0,0))∧Below w.heap.size w w':=by
 obtain⟨i0,hi0,hz0,hz1,hz2⟩:=zaY qcu;have e1:IntKind.i64.wrap ((r1:Int)-1+1)=(r1:Int):=by rw[zaA _ (by omega)];omega
 have e2:IntKind.u64.wrap (r1:Int)=(r1:Int):=by rw[zbL _ (by omega)]
 have Hq:=zH (fun(W:World)=>qlx none 0 [] 0 8 gen W (By.nil _ _) rfl rfl (by omega) hg);have HU:=zH hu;have Hk:r1<18446744073709551616:=by omega
 obtain⟨cr,hcr⟩:∃ cr,crcN ((([]++numB gen 8)++numB r1 2)++ub)=cr:=⟨_,rfl⟩;have Hn:cr<4294967296:=by rw[←hcr];exact qc8 _
 have Hm:=zH hcr;obtain⟨W0,hW0⟩:∃ W0,w.alloc (.cells (bv ub).toArray 145)=W0:=⟨_,rfl⟩;have Hx:=zH hW0;have Hc:=zH (show Below w.heap.size w W0 by rw[←hW0];exact zB _ _);have Hi:=zH (show By W0 (some ⟨w.heap.size,0,none⟩) ub by
  refine By.of_block (t:=145) (fr:=(0,0)) ?_ rfl;rw[←hW0];show(w.heap.push _)[w.heap.size]?=_;rw[Array.getElem?_push_size])
 have Ht:=zH (hn.below Hc.o);clear hn hu hcr;go_enter Tryz.func80,Tryz.ntmps80
 go_wp2_with (first
  | (go_at_call 55;((with_reducible refine(Hq.o _).mono ?_);go_loud (rintro e wa ⟨A1,k1,rfl,ho1,hb1⟩;have He:=zH hb1;have Hr:=zH (qlw A1 k1 _ 8 10 r1 wa (ho1.byN (l8 _)) (l8 _) rfl (by omega) Hk);clear ho1 hb1)))
  | (go_at_call 55;((with_reducible refine Hr.o.mono ?_);go_loud (rintro e wb ⟨A2,k2,rfl,ho2,hb2⟩;have Hu:=zH ho2;have Hf:=zH (He.o.trans (hb2.mono He.o.size));clear ho2 hb2)))
  | (at_builtin;go_loud (refine qai rfl (.tmp 16) (.tmp 17) 40 rfl W0.heap.size 5 i0 _ 1 1 Tryz.underlying40 hi0 hz0 hz1 hz2 rfl (by decide) (.slice A2 10 k2) 10 _ rfl (Hu.o.base He.o.size) (some ⟨w.heap.size,0,none⟩) 48 48 (bv ub) rfl (by have:=(Hi.o.below Hf.o).src;rwa [HU.o]at this) (qak _) (by unfold maxLen;omega) (by omega) Hf.o.size ?_;intro A3 k3 wc ho3 hb3;have Hv:=zH ho3;have Hg:=zH (Hf.o.trans hb3);have Ha:=zH (show By wc A3 ((([]++numB gen 8)++numB r1 2)++ub)from Own.byN (by have:=Hv.o;rw[←qao]at this;exact this) (l58 _ _ _ HU.o));have Hb:=zH (sumN A3 k3 58 _ wc Ha.o (l58 _ _ _ HU.o) (Ht.o.below Hg.o) (by omega));rw[Hm.o]at Hb;have Hs:=zH (qbK A3 k3 _ 58 62 cr wc Ha.o (l58 _ _ _ HU.o) rfl (by omega) (by omega));clear ho3 hb3))
  | (go_at_call 108;((with_reducible refine Hb.o.mono ?_);rintro e wd ⟨rfl,rfl⟩))
  | (go_at_call 55;((with_reducible refine Hs.o.mono ?_);go_loud (rintro e we ⟨A4,k4,rfl,ho4,hb4⟩;have Hh:=zH (Hg.o.trans (hb4.mono Hg.o.size));have Hj:=zH (ho4.byN (l62 _ _ _ _ HU.o));clear ho4 hb4)))
  | ((with_reducible show wpList _ _ _ (⟨some 24,_,_,_,_,_⟩::_) _ _);go_loud (refine zci _ rfl (.const (.int .i64 64)) (.const (.int .i64 64)) 40 rfl we.heap.size 5 i0 _ 1 Tryz.underlying40 hi0 hz0 hz1 .i64 .i64 _ _ 64 rfl rfl (by omega) (by omega) (by rw[hz2];omega) (by unfold maxLen;omega) (zad _) ?_;intro w5 hown5 hg5;have Hl:=zH (zb0 (zai we.heap.size we) hg5 (zad _) (fun b e=>by cases e));have Hw:=zH (qcT hown5);clear hown5 hg5))
  | ((with_reducible show wpList _ _ _ (⟨some 27,_,_,_,_,_⟩::_) _ _);go_loud (refine wpList_copy_splice rfl (.tmp 25) (.tmp 26) 40 40 rfl 5 Tryz.underlying40 (by kernel_rfl) (some ⟨we.heap.size,0,none⟩) A4 64 64 62 k4 rfl rfl we.heap.size 0 _ 5 Hw.o (bv (((([]++numB gen 8)++numB r1 2)++ub)++numB cr 4)) (by rw[bv_len,l62 _ _ _ _ HU.o];rfl) (fun h0=>⟨rfl,(Hj.o.below Hl.o).src.at_ (by rw[l62 _ _ _ _ HU.o];omega)⟩) (qjf (m:=62) (by rw[bv_len,l62 _ _ _ _ HU.o];rfl)) (qak _) we.heap.size we Hl.o (zad _) ?_;intro w6 hg6 hb6;have Hp:=zH (show w6.heap[we.heap.size]?=some (.cells (bv (superB gen r1 ub)).toArray 5 (0,0))by have:=hg6.out;rw[qhs _ _ _ _ Hm.o HU.o]at this;exact this);have Ho:=zH (Hh.o.trans (hb6.mono Hh.o.size));clear hg6 hb6)))
 go_ret;exact⟨we.heap.size,rfl,zam Hc.o.size Hh.o.size,Hp.o,Hc.o.trans (Ho.o.mono Hc.o.size)⟩
def qkS (p:Pl)(x:Wt):Int:=if(wf p x).1 then 0 else 2
theorem qeP (p:Pl)(d:Nat)(h:p.off=false):flOut p=if(p.flush d).1 then 0 else 2:=by
 unfold flOut Pl.flush;rw[h];cases p.step.1<;>rfl
def WfF (a:PA)(F:Nat→Prop)(p:Pl)(x:Wt)(w:World)(e:Ending)(w':World):Prop:=
 e=.returned (.int .i64 (qkS p x))∧∃ F',PlM w' a F' (wf p x).2∧Ext F F' w w'
theorem qii (h:PlM w a F p)(hd:p.most[d]?=some m)(hk:k<m){b C cc:Nat}{l:Bs}
  (hb:By w (some ⟨b,0,none⟩) l)(hl:l.length=64)(hbF:¬F b)(hC:w.cell? ⟨C,0,none⟩=some (.slice (some ⟨b,0,none⟩) 64 64))(hw:p.waits.length≤1099511627776)(hoff:p.off=false) :
  Calls Tryz.prog 78 #[.pointer (some ⟨a.P,0,none⟩),.int .i64 d,.int .i64 k,.slice (some ⟨C,0,none⟩) 1 cc] w (WfF a F p ⟨d,k,l⟩ w):=by
 have HW:=zH (qed h hd hk hb hl (fun ad e hf=>by cases e;exact hbF hf) hw hoff (c:=64));have Hk:=h.ok.most m (zak hd);obtain⟨x,hx⟩:∃ x:Wt,⟨d,k,l⟩=x:=⟨_,rfl⟩;have Hj:=zH (show x.dev=d by rw[←hx]);rw[hx]at HW⊢;have Ha:=qdr p x;have HM:=zH hd;have Hb:=zH hoff;clear h hd hb hl hbF hw hoff hx;cases hg:(p.give x).1 with
 | false=>
  have HO:=zH (show wrOut p x=2 by unfold wrOut;rw[hg];rfl);have Hh:=zH (show qkS p x=2 by unfold qkS wf;rw[hg];rfl);have Hc:=zH (show(wf p x).2=(p.give x).2 by unfold wf;rw[hg];rfl);rw[HO.o]at HW;clear hg Ha;go_enter Tryz.func78,Tryz.ntmps78
  go_wp2;go_loopw [9,10,11,14] (fun _ _ _ i wr=>i=.int .i64 0∧w=wr) (fun _ _ _ i _=>1-(intOf i).toNat)
  case atStart=>exact⟨rfl,rfl⟩
  case round=>
   obtain⟨rfl,rfl⟩:=hrel;go_wp2_with (go_at_call 73;refine HW.o.mono ?_;rintro e w' ⟨rfl,F',hp',he'⟩;have HP:=zH hp';have HE:=zH he';clear hp' he')
   go_ret;exact⟨qcH Hh.o.symm,F',by rw[Hc.o];exact HP.o,HE.o⟩
 | true=>
  have HO:=zH (show wrOut p x=0 by unfold wrOut;rw[hg];rfl);have Hc:=zH (show wf p x=(p.give x).2.flush d by unfold wf;rw[hg,Hj.o];rfl);rw[HO.o]at HW;rw[hg]at Ha;have Hg:=zH (fun(W:World) (F':Nat→Prop) (hp:PlM W a F' (p.give x).2)=>(by
   have:=qdO hp (d:=d) (m:=m) (by rw[Ha.most];exact HM.o) ((Ha.on rfl).trans Hb.o);rw[qeP _ d ((Ha.on rfl).trans Hb.o),←Hc.o]at this;exact this:Calls Tryz.prog 74 #[.pointer (some ⟨a.P,0,none⟩),.int .i64 d] W fun e w'=>e=.returned (.int .i64 (qkS p x))∧PlM w' a F' (wf p x).2∧Ext F' F' W w'))
  clear hg Ha;go_enter Tryz.func78,Tryz.ntmps78
  go_wp2;go_loopw [9,10,11,14] (fun _ _ _ i wr=>(i=.int .i64 0∧w=wr)∨(i=.int .i64 1∧∃ F',PlM wr a F' (p.give x).2∧Ext F F' w wr)) (fun _ _ _ i _=>1-(intOf i).toNat)
  case atStart=>exact .inl ⟨rfl,rfl⟩
  case round=>
   rename World=>wr;rcases hrel with⟨rfl,rfl⟩|⟨rfl,F',hp',he'⟩
   ·go_wp2_with (go_at_call 73;refine HW.o.mono ?_;rintro e w' ⟨rfl,F',hp',he'⟩;have HP:=zH hp';have HE:=zH he';clear hp' he')
    exact⟨.inr ⟨rfl,F',HP.o,HE.o⟩,by decide⟩
   ·have HP:=zH hp';have HE:=zH he';clear hp' he';have Hf:=zH (Hg.o _ _ HP.o);go_wp2_with (go_at_call 74;refine Hf.o.mono ?_;rintro e w' ⟨rfl,hp2,he2⟩;have Hi:=zH hp2;have He:=zH he2;clear hp2 he2)
    go_ret;exact⟨rfl,F',Hi.o,HE.o.trans He.o⟩
theorem qln (h:PlM w a F p)(hd:p.most[d]?=some m) :
  Calls Tryz.prog 100 #[.pointer (some ⟨a.P,0,none⟩),.int .i64 d] w fun e w'=>e=.returned (.tuple #[.int .i64 m,.int .i64 0])∧w=w':=by
 have HD:=zH (qdp h hd);have HS:=zH (qhn h hd);clear h hd;go_enter Tryz.func100,Tryz.ntmps100
 go_wp2_with (first|(go_at_call 102;refine HD.o.mono ?_;rintro e w1 ⟨rfl,rfl⟩)|(go_at_call 134;refine HS.o.mono ?_;rintro e w1 ⟨rfl,rfl⟩))
 go_returns;exact⟨rfl,rfl⟩
theorem qkH (W:World)(x y:Value):(Instr.field 61 (.agg #[x,y]) 0).run Tryz.prog W=.ok x W:=by kernel_rfl
theorem qgL (h:PlM w a F p)(hd:p.most[d]?=some m)(h8:8≤m) :
  Calls Tryz.prog 71 #[.pointer (some ⟨a.P,0,none⟩),.int .i64 d] w fun e w'=>e=.returned (.tuple #[.int .i64 m,.int .i64 0])∧Below w.heap.size w w':=by
 have HS:=zH (qd0 h);have Hb:=(zac.1 hd).1;have HL:=zH (fun(W:World) (hb:Below w.heap.size w W)=>qln (h.below hb) hd);obtain⟨n,hn⟩:∃ n,p.most.length=n:=⟨_,rfl⟩;have HN:=zH hn;rw[hn]at Hb;have t1:decide ((d:Int)<0)=false:=zan (by omega);have t2:decide ((n:Int)≤(d:Int))=false:=zan (by omega);have t3:decide ((m:Int)<8)=false:=zan (by omega);clear h hd hn;have fD:=qkH;go_enter Tryz.func71,Tryz.ntmps71
 go_wp2_with (first
  | (go_at_call 69;refine HS.o.mono ?_;rintro e w1 ⟨A1,c1,A2,c2,rfl,_,_,_,hbw⟩;have Ha:=zH hbw;clear hbw;rw[HN.o])
  | (go_at_call 100;refine(HL.o _ Ha.o).mono ?_;rintro e w2 ⟨rfl,rfl⟩))
 go_returns;exact⟨rfl,Ha.o⟩
theorem zero_cells (k:Nat):(Builtin.zeroCells (Value.int .u8 0).cells k).toList=bv (zeros k):=by
 unfold Builtin.zeroCells bv zeros;simp[Value.cells,Nat.mod_one,List.map_const']
theorem qgt (w:World){base:Nat}{v:Value}{l:Bs}(hown:w.ownsRow base 5 1 v n (bv l))(h0:0<k)(hn:0<n)(hk:n+k≤1048576)(hbase:base≤w.heap.size) :
  ∃ A' cap w',(∀ ty,(Builtin.append_ #[40,3] ty #[v,.int .i64 (k:Int)]).run Tryz.prog w=.ok (.slice A' (n+k) cap) w')∧Own w' base 5 1 (.slice A' (n+k) cap) (n+k) (bv (l++zeros k))∧Below base w w':=by
 obtain⟨i0,hi0,hz0,hz1,hz2⟩:=zaY qcu;have Ha:(bv (l++zeros k)).length=(n+k)*1:=by
  have:=hown.1;rw[bv_len]at this;rw[bv_len,zaf,zeros_len];omega
 have hw:IntKind.i64.wrap (k:Int)=k:=by rw[IntKind.wrap_i64];omega
 have Hf:¬((k:Int)<0):=by omega
 rcases hown.2 with⟨_,h⟩|⟨g,cap,cur,rfl,hbg,hg,hnc,hcm,hcs,htake⟩
 ·omega
 have Hj:=(zaa.1 hg).1;by_cases hroom:n+k≤cap
 ·have hz:=zero_cells k;have Hh:=run_storeCells_at Tryz.prog g (n*1) 5 (bv (zeros k)) 0 cur w hg (by rw[bv_len,zeros_len];omega) (qak _);simp only[zb8,zcA]at Hh;have Hk:k≠0:=by omega
  have Hc:¬(281474976710656<(k:Int)):=by omega
  refine⟨some ⟨g,0,none⟩,cap,_,fun ty=>?_,⟨.inl ⟨Ha,.inr ⟨g,cap,_,rfl,hbg,setRow_heap w g cur (cur.toList.take (n*1)++bv (zeros k)++cur.toList.drop (n*1+(bv (zeros k)).length)).toArray 5 _ hg,hroom,hcm,?_,?_⟩⟩,?_⟩,?_⟩
  ·simp[Builtin.append_,zaU Tryz.underlying40,zaU Tryz.underlying3,sizeOf,typeInfo,zeroValue,hi0,hz0,hz1,hz2,asInt,asIntOf,hw,Hf,Hc,hroom,Addr.add_lit,Hh,Hk,hz]
  ·simp only[zas,zaf,zaj,zap,zbx];rw[bv_len,zeros_len];omega
  ·rw[htake,←Ha,qao];exact List.take_left
  ·intro b e;cases e;exact⟨hbg,by simpa [World.setRow] using Hj⟩
  ·exact zb0 (zai _ _) (row:=some g) ⟨rfl,rfl,rfl,by simp,fun j _ hj=>setRow_other w g j _ (fun e=>hj (by rw[e]))⟩ hbase (fun b hb=>by cases hb;exact hbg)
 ·have Hb:∀ j u,(bv l)[j]?=some u→w.drew.cell? ((⟨g,0,none⟩:Addr).add j)=some u:=hown.cells (g:=g) rfl;have Hg:=run_firstCells_some (P:=Tryz.prog) w.drew i0.size n ⟨g,0,none⟩ n cap (bv l) (by rw[hz1];exact hown.1) Hb;obtain⟨G,hG⟩:∃ G,grownCap w (n+k) cap 5=G:=⟨_,rfl⟩;have Hi:n+k≤G:=by rw[←hG];exact grownCap_ge w _ _ _
  have He:G≤maxLen:=by rw[←hG];exact grownCap_le_maxLen w _ _ _ (by unfold maxLen;omega)
  have hr:=fun ty=>Lib.run_append_grow_zeros w 40 3 ty 5 i0 _ .i64 .i64 Tryz.underlying40 Tryz.underlying3 hi0 hz0 (some ⟨g,0,none⟩) n cap (bv l) Hg k h0 (by omega) (by omega) (by omega) (by rw[hz2];omega) (by rw[hz2];exact growslice_fits (by omega) (by omega));rw[hG]at hr;refine⟨some ⟨w.heap.size,0,none⟩,G,_,hr,⟨.inl ⟨Ha,.inr ⟨w.heap.size,G,_,rfl,hbase,zae w.drew _,Hi,He,?_,?_⟩⟩,fun b e=>?_⟩,(zai _ _).drew.alloc hbase _⟩
  ·simp only[Array.size_append,zas,zcL,hown.1];simp[Value.cells];omega
  ·simp only[Array.toList_append,zah,zero_cells];rw[←zah,←qao,←Ha];exact List.take_left
  ·cases e;exact⟨hbase,by simp⟩
end Go.Proofs.YtfcknhbmeofniaaGreatDoor
