/- Texts PgMem PgRd. -/
import Derived.Test.YtpmebcgmgfcmiaaGreatDoorQ02
import Derived.Test.YtpmebcgmgfcmiaaGreatDoorQ09
set_option linter.all false
set_option maxRecDepth 100000
set_option maxHeartbeats 16000000
namespace Go.Proofs.YtpmebcgmgfcmiaaGreatDoor
open Go.RowKit BT
variable {w w':World}{F:Nat→Prop}{a:PA}{G d i:Nat}{p:Pl}{l:Bs}
theorem Nib.touch (h:Nib w)(ht:Touch F w w')(h1:¬F 1):Nib w':=fun i hi=>(qag ht (zaH w ⟨1,i,none⟩ (h i hi)) h1).trans (h i hi)
def gcells (a:PA)(d:Nat)(g:Pg):List Value:=
 [.pointer (some ⟨a.P,0,none⟩),.int .i64 (d:Int),.int .i64 (g.pages:Int),.int .u64 (g.gen:Int),.int .i64 ((g.root1:Int)-1)]++bv g.use++bv g.was
structure Pg.Ok (g:Pg) (d:Nat) (most:List Nat):Prop where
 m:∃ m,most[d]?=some m∧g.pages=min ((m-2) / 8) 384∧0<g.pages
 use:g.use.length=48
 was:g.was.length=48
 gen:g.gen<9223372036854775808
 root:g.root1≤384
 up:∀ i,g.pages≤i→i<384→hasB g.use i=false
structure PgM (w:World) (a:PA) (G d:Nat) (F:Nat→Prop) (p:Pl) (g:Pg):Prop where
 pl:PlM w a F p
 nF:¬F G
 gb:w.heap[G]?=some (.cells (gcells a d g).toArray 115 (0,0))
 ok:g.Ok d p.most
 nib:Nib w
 n1:¬F 1∧G≠1
theorem PgM.lt {g:Pg}(h:PgM w a G d F p g):G<w.heap.size:=(zab.1 h.gb).1
theorem qfN (a:PA)(d:Nat)(g:Pg)(j:Nat)(v:Value)(h:(bv g.use)[j]?=some v):(gcells a d g)[5+j]?=some v:=by
 have hj:=(zae.1 h).1;unfold gcells;rw[zaj,zau (by simp),zaL (by simpa using hj)];simpa using h
theorem qjj (a:PA)(d:Nat)(g:Pg)(hu:g.use.length=48)(j:Nat)(v:Value)(h:(bv g.was)[j]?=some v):(gcells a d g)[53+j]?=some v:=by
 unfold gcells;rw[zau (by simp[bv_len,hu])];simpa [bv_len,hu] using h
theorem PgM.useR {g:Pg}(h:PgM w a G d F p g):w.rangeAt G 5 (bv g.use):=fun j v hv=>by
 rw[zan w G (5+j) _ _ _ h.gb,zbC];exact qfN a d g j v hv
theorem PgM.wasR {g:Pg}(h:PgM w a G d F p g):w.rangeAt G 53 (bv g.was):=fun j v hv=>by
 rw[zan w G (53+j) _ _ _ h.gb,zbC];exact qjj a d g h.ok.use j v hv
theorem PgM.below {g:Pg}(h:PgM w a G d F p g)(hb:Below w.heap.size w w'):PgM w' a G d F p g:=
 ⟨h.pl.below hb,h.nF,(hb.block _ h.lt).trans h.gb,h.ok,h.nib.below hb,h.n1⟩
def GF (F:Nat→Prop)(G:Nat)(b:Nat):Prop:=F b∨b=G
theorem PgM.touch {H:Nat→Prop}{g:Pg}(h:PgM w a G d F p g)(ht:Touch H w w')(hd:∀ b,GF F G b→¬H b)(h1:¬H 1):PgM w' a G d F p g:=
 ⟨h.pl.touch ht (fun b hb=>hd b (.inl hb)),h.nF,(ht.block _ h.lt (hd _ (.inr rfl))).trans h.gb,h.ok,h.nib.touch ht h1,h.n1⟩
theorem PgM.cells {g:Pg}(h:PgM w a G d F p g):w.cell? ⟨G,0,none⟩=some (.pointer (some ⟨a.P,0,none⟩))∧w.cell? ⟨G,1,none⟩=some (.int .i64 (d:Int))∧w.cell? ⟨G,2,none⟩=some (.int .i64 (g.pages:Int))∧
  w.cell? ⟨G,3,none⟩=some (.int .u64 (g.gen:Int))∧w.cell? ⟨G,4,none⟩=some (.int .i64 ((g.root1:Int)-1)):=by
 refine⟨?_,?_,?_,?_,?_⟩<;>(rw[zan w G _ _ _ _ h.gb];simp[gcells])
theorem PgM.pages_le {g:Pg}(h:PgM w a G d F p g):g.pages≤384∧0<g.pages:=by
 obtain⟨m,_,h1,h2⟩:=h.ok.m;omega
theorem qdS {g:Pg}(h:PgM w a G d F p g)(hi:i<384) :
  Calls Tryz.prog 52 #[.pointer (some ⟨G,0,none⟩),.int .i64 i] w fun e w'=>e=.returned (.bool (qbJ g.use g.was i))∧w=w':=by
 have HU:=zH (qdw G 5 g.use i w h.useR hi h.ok.use);have HW:=zH (qdw G 53 g.was i w h.wasR hi h.ok.was);clear h;cases h1:hasB g.use i with
 | true=>
  have HF:=zH (show qbJ g.use g.was i=false by unfold qbJ;rw[h1,Bool.not_true,Bool.false_and]);rw[h1]at HU;clear h1;go_enter Tryz.func52,Tryz.ntmps52
  go_wp2_with (go_at_call 44;refine HU.o.mono ?_;rintro e w' ⟨rfl,rfl⟩)
  go_ret;exact⟨qc2 HF.o.symm,rfl⟩
 | false=>
  have HF:=zH (show qbJ g.use g.was i=!hasB g.was i by unfold qbJ;rw[h1,Bool.not_false,Bool.true_and]);rw[h1]at HU;clear h1;go_enter Tryz.func52,Tryz.ntmps52
  go_wp2_with (first|(go_at_call 44;((with_reducible refine HU.o.mono ?_);rintro e w' ⟨rfl,rfl⟩))|(go_at_call 44;((with_reducible refine HW.o.mono ?_);rintro e w' ⟨rfl,rfl⟩)))
  go_ret;exact⟨qc2 HF.o.symm,rfl⟩
theorem qjd (f:Nat→Bool)(k:Nat):((List.range (k+1)).filter f).length=((List.range k).filter f).length+if f k then 1 else 0:=by
 rw[zc3,zbu,zad];by_cases h:f k=true
 ·rw[zbr h,zaw h];rfl
 ·rw[zbw h,zaB h];rfl
theorem qfe {g:Pg}(h:PgM w a G d F p g) :
  Calls Tryz.prog 27 #[.pointer (some ⟨G,0,none⟩)] w fun e w'=>e=.returned (.int .i64 (qal g.pages g.use g.was))∧w=w':=by
 have HC:=zH (fun(i:Nat) (hi:i<384)=>qdS h hi);obtain⟨_,_,c2,_⟩:=h.cells;have hp:=h.pages_le.1;obtain⟨n,hn⟩:∃ n,g.pages=n:=⟨_,rfl⟩;rw[hn]at c2 hp;have HN:=zH hn;clear h hn;go_enter Tryz.func27,Tryz.ntmps27
 go_wp2;go_loopw [3,9] (fun c i wr=>∃ j:Nat,i=.int .i64 j∧j≤n∧c=.int .i64 (((List.range j).filter (qbJ g.use g.was)).length:Nat)∧w=wr) (fun _ i _=>n-(intOf i).toNat)
 case atStart=>exact⟨0,rfl,by omega,rfl,rfl⟩
 case round=>
  obtain⟨j,rfl,hj,rfl,rfl⟩:=hrel;have HS:=zH (qjd (qbJ g.use g.was) j);have Hb:((List.range j).filter (qbJ g.use g.was)).length≤j:=zah (zbJ _ _) (by simp);obtain⟨k,hk⟩:∃ k,((List.range j).filter (qbJ g.use g.was)).length=k:=⟨_,rfl⟩;rw[hk]at Hb HS⊢;have HK:=zH hk;clear hk;by_cases hlt:j<n
  ·have Ha:=zH (HC.o j (by omega));cases hf:qbJ g.use g.was j with
   | true=>
    rw[hf]at Ha HS;clear hf;go_wp2_with (go_at_call 52;refine Ha.o.mono ?_;rintro e w' ⟨rfl,rfl⟩)
    refine⟨⟨j+1,by go_num,by omega,?_,trivial⟩,by simp[intOf];omega⟩;rw[HS.o];go_num
   | false=>
    rw[hf]at Ha HS;clear hf;go_wp2_with (go_at_call 52;refine Ha.o.mono ?_;rintro e w' ⟨rfl,rfl⟩)
    refine⟨⟨j+1,by go_num,by omega,?_,trivial⟩,by simp[intOf];omega⟩;rw[HS.o];rfl
  ·obtain rfl:j=n:=by omega
   go_wp2;go_ret;refine⟨?_,rfl⟩;unfold qal;rw[HN.o,HK.o];rfl
theorem qkF {g:Pg}(h:PgM w a G d F p g) :
  Calls Tryz.prog 45 #[.pointer (some ⟨G,0,none⟩)] w fun e w'=>e=.returned (.int .i64 ((g.root1:Int)-1))∧w=w':=by
 obtain⟨_,_,_,_,c4⟩:=h.cells;clear h;go_enter Tryz.func45,Tryz.ntmps45
 go_wp2;go_ret;exact⟨rfl,rfl⟩
def inUseB (g:Pg)(i:Int):Bool:=decide (0≤i)&&decide (i<g.pages)&&hasB g.use i.toNat
theorem qdV {g:Pg}(h:PgM w a G d F p g)(i:Int) :
  Calls Tryz.prog 62 #[.pointer (some ⟨G,0,none⟩),.int .i64 i] w fun e w'=>e=.returned (.bool (inUseB g i))∧w=w':=by
 obtain⟨_,_,c2,_⟩:=h.cells;have hp:=h.pages_le.1;by_cases h0:0≤i
 ·obtain⟨k,rfl⟩:=Int.eq_ofNat_of_zero_le h0;by_cases h1:k<g.pages
  ·have HU:=zH (qdw G 5 g.use k w h.useR (by omega) h.ok.use);have HI:=zH (show inUseB g (k:Int)=hasB g.use k by unfold inUseB;simp[h1]);obtain⟨n,hn⟩:∃ n,g.pages=n:=⟨_,rfl⟩;rw[hn]at c2 h1;have t1:decide ((k:Int)<(n:Int))=true:=zas (by omega);have t2:decide ((0:Int)≤(k:Int))=true:=zas (by omega);clear h h0 hn;go_enter Tryz.func62,Tryz.ntmps62
   go_wp2_with (go_at_call 44;refine HU.o.mono ?_;rintro e w' ⟨rfl,rfl⟩)
   go_ret;exact⟨qc2 HI.o.symm,rfl⟩
  ·have HI:=zH (show inUseB g (k:Int)=false by unfold inUseB;simp[h1]);obtain⟨n,hn⟩:∃ n,g.pages=n:=⟨_,rfl⟩;rw[hn]at c2 h1;have t1:decide (k<n)=false:=zal h1;have t2:decide ((0:Int)≤(k:Int))=true:=zas (by omega);clear h h0 hn;go_enter Tryz.func62,Tryz.ntmps62
   go_wp2;go_ret;exact⟨qc2 HI.o.symm,rfl⟩
 ·have HI:=zH (show inUseB g i=false by unfold inUseB;simp[h0]);have t2:decide ((0:Int)≤i)=false:=zal h0;clear h;go_enter Tryz.func62,Tryz.ntmps62
  go_wp2;go_ret;exact⟨qc2 HI.o.symm,rfl⟩
theorem qms (u:Bs)(i:Nat)(c:UInt8):(bv u).set i (.int .u8 (c.toNat:Int))=bv (u.set i c):=by
 unfold bv;rw[List.map_set]
theorem qji (a:PA)(d:Nat)(g:Pg)(i:Nat)(y:Bool)(hi:i<384)(hu:g.use.length=48) :
  (gcells a d g).toArray.setIfInBounds (5+i / 8) (.int .u8 (((setB g.use i y).getD (i / 8) 0).toNat:Int))=(gcells a d { g with use:=setB g.use i y }).toArray:=by
 apply Array.ext';rw[zcR];have hs:(setB g.use i y).getD (i / 8) 0=UInt8.ofNat (setN (g.use.getD (i / 8) 0).toNat (i % 8) y):=by
  unfold setB;rw[zaC,List.getElem?_set_self (by omega),zb1]
 have e:bv (setB g.use i y)=(bv g.use).set (i / 8) (.int .u8 (((setB g.use i y).getD (i / 8) 0).toNat:Int)):=by
  rw[qms,hs];rfl
 unfold gcells;rw[e];simp only[zaj];rw[List.set_append_right _ _ (by simp),List.set_append_left _ _ (by simp[bv_len,hu];omega)];simp
theorem PgM.ext {F':Nat→Prop}{q:Pl}{g:Pg}(h:PgM w a G d F p g)(hq:PlM w' a F' q)(he:Ext F F' w w')(hm:q.most=p.most):PgM w' a G d F' q g∧Ext (GF F G) (GF F' G) w w':=by
 have hl:=h.lt;have hn:¬F' G:=fun e=>by
  rcases he.sub G e with h1|h1
  ·exact h.nF h1
  ·omega
 have Ha:1<w.heap.size:=zaH w ⟨1,0,none⟩ (h.nib 0 (by omega));refine⟨⟨hq,hn,(he.touch.block _ hl h.nF).trans h.gb,by rw[hm];exact h.ok,h.nib.touch he.touch h.n1.1,?_,h.n1.2⟩,he.touch.mono fun b _ hb=>.inl hb,fun b hb=>?_⟩
 ·intro e;rcases he.sub 1 e with h2|h2
  ·exact h.n1.1 h2
  ·omega
 ·rcases hb with hb|hb
  ·rcases he.sub b hb with h2|h2
   ·exact .inl (.inl h2)
   ·exact .inr h2
  ·exact .inl (.inr hb)
theorem PgM.setUse {g:Pg}(h:PgM w a G d F p g){y:Bool}(hi:i<384)(hy:y=true→i<g.pages)
  (hb:w'.heap[G]?=some (.cells ((gcells a d g).toArray.setIfInBounds (5+i / 8) (.int .u8 (((setB g.use i y).getD (i / 8) 0).toNat:Int))) 115 (0,0)))(ht:Touch (fun b=>b=G) w w') :
  PgM w' a G d F p { g with use:=setB g.use i y }∧Ext (GF F G) (GF F G) w w':=by
 refine⟨⟨h.pl.touch ht (fun b hb e=>h.nF (e▸hb)),h.nF,by rw[hb,qji a d g i y hi h.ok.use],⟨h.ok.m,by rw[qcw];exact h.ok.use,h.ok.was,h.ok.gen,h.ok.root,fun j h1 h2=>?_⟩,h.nib.touch ht (fun e=>h.n1.2 e.symm),h.n1⟩,Ext.of (ht.mono fun b _ hb=>.inr hb)⟩;show hasB (setB g.use i y) j=false;rw[qdv _ _ _ _ (by have:=h.ok.use;omega)];split
 ·rename_i e;subst e;cases y with
  | false=>rfl
  | true=>have Ha:g.pages≤j:=h1;have:=hy rfl;omega
 ·exact h.ok.up j h1 h2
theorem qmm (b off c:Nat)(l:Bs)(n k:Nat)(w:World)(h:By w (some ⟨b,off,none⟩) l)(hn:l.length=n)(h1:1≤k)(h8:k≤8)(hk:k≤n)(hl:n≤1048576)(hc:n≤c) :
  Calls Tryz.prog 66 #[.slice (some ⟨b,off,none⟩) n c,.int .i64 k] w fun e w'=>e=.returned (.tuple #[.int .u64 (hiN (l.take k):Int),.slice (some ⟨w.heap.size,0,none⟩) (n-k) (n-k),.int .i64 0])∧
   w'.ownsRow w.heap.size 5 1 (.slice (some ⟨w.heap.size,0,none⟩) (n-k) (n-k)) (n-k) (bv (l.drop k))∧Below w.heap.size w w':=by
 subst hn;exact qkS b off c l k w h h1 h8 hk hl hc
theorem qlU (b off c:Nat)(l:Bs)(n:Nat)(w:World)(h:By w (some ⟨b,off,none⟩) l)(hn:l.length=n)(hk:2≤n)(hl:n≤1048576)(hc:n≤c) :
  Calls Tryz.prog 66 #[.slice (some ⟨b,off,none⟩) n c,.int .i64 2] w fun e w'=>e=.returned (.tuple #[.int .u64 (hiN (l.take 2):Int),.slice (some ⟨w.heap.size,0,none⟩) (n-2) (n-2),.int .i64 0])∧
   w'.ownsRow w.heap.size 5 1 (.slice (some ⟨w.heap.size,0,none⟩) (n-2) (n-2)) (n-2) (bv (l.drop 2))∧Below w.heap.size w w':=
 qmm b off c l n 2 w h hn (by omega) (by omega) hk hl hc
theorem qlV (b off c:Nat)(l:Bs)(n:Nat)(w:World)(h:By w (some ⟨b,off,none⟩) l)(hn:l.length=n)(hk:4≤n)(hl:n≤1048576)(hc:n≤c) :
  Calls Tryz.prog 66 #[.slice (some ⟨b,off,none⟩) n c,.int .i64 4] w fun e w'=>e=.returned (.tuple #[.int .u64 (hiN (l.take 4):Int),.slice (some ⟨w.heap.size,0,none⟩) (n-4) (n-4),.int .i64 0])∧
   w'.ownsRow w.heap.size 5 1 (.slice (some ⟨w.heap.size,0,none⟩) (n-4) (n-4)) (n-4) (bv (l.drop 4))∧Below w.heap.size w w':=
 qmm b off c l n 4 w h hn (by omega) (by omega) hk hl hc
theorem qmG (b off c:Nat)(l:Bs)(n:Nat)(w:World)(h:By w (some ⟨b,off,none⟩) l)(hn:l.length=n)(hk:8≤n)(hl:n≤1048576)(hc:n≤c) :
  Calls Tryz.prog 66 #[.slice (some ⟨b,off,none⟩) n c,.int .i64 8] w fun e w'=>e=.returned (.tuple #[.int .u64 (hiN (l.take 8):Int),.slice (some ⟨w.heap.size,0,none⟩) (n-8) (n-8),.int .i64 0])∧
   w'.ownsRow w.heap.size 5 1 (.slice (some ⟨w.heap.size,0,none⟩) (n-8) (n-8)) (n-8) (bv (l.drop 8))∧Below w.heap.size w w':=
 qmm b off c l n 8 w h hn (by omega) (by omega) hk hl hc
theorem By.of_block {g:Nat}{t:TypeId}{fr:Nat×Nat}(h:w.heap[g]?=some (.cells (bv l).toArray t fr)){off:Nat}(ho:off=0):By w (some ⟨g,off,none⟩) l:=by
 subst ho;refine⟨fun _=>⟨g,0,rfl,(zab.1 h).1,fun k c hk=>?_⟩⟩;rw[zaO,zan w g k _ _ _ h,zbC];exact qiw hk
theorem By.of_own {base:Nat}{e:TypeId}{A:Option Addr}{cap n:Nat}(h:Row w base e 1 (.slice A n cap) n (bv l))(hn:l.length=n):By w A l:=by
 subst hn;exact By.of_row h
theorem sumN (A:Option Addr)(c n:Nat)(l:Bs)(w:World)(h:By w A l)(hn:l.length=n)(hN:Nib w)(hl:n≤1048576) :
  Calls Tryz.prog 67 #[.slice A n c] w fun e w'=>e=.returned (.int .u32 (crcN l:Nat))∧w=w':=by
 subst hn;exact qlH A c l w h hN hl
def RdF (r:Option Bs)(w:World)(e:Ending)(w':World):Prop:=
 match r with
 | none=>e=.returned (.tuple #[.slice none 0 0,.int .i64 4])∧Below w.heap.size w w'
 | some b=>∃ A c,e=.returned (.tuple #[.slice A b.length c,.int .i64 0])∧Own w' w.heap.size 5 1 (.slice A b.length c) b.length (bv b)∧Below w.heap.size w w'
def qeh (s:Nat→Bs)(page n:Nat):Bs:=(List.range n).flatMap fun i=>s (2+page*8+i)
theorem qfd (s:Nat→Bs)(page n:Nat):qeh s page (n+1)=qeh s page n++s (2+page*8+n):=by
 unfold qeh;rw[zc3,zat];simp
theorem qf8 (s:Nat→Bs)(page:Nat)(h:∀ k,(s k).length=64):∀ n,(qeh s page n).length=n*64
 | 0=>rfl
 | n+1=>by rw[qfd,zad,qf8 s page h n,h];omega
theorem qjw {g:Pg}(h:PgM w a G d F p g){k:Nat}(hk:k<g.pages)(hi:hasB g.use k=true)(hoff:p.off=false) :
  Calls Tryz.prog 60 #[.pointer (some ⟨G,0,none⟩),.int .i64 k] w (RdF (qba (p.seen d) k) w):=by
 have HI:=zH (qdV h (k:Int));rw[show inUseB g (k:Int)=true by unfold inUseB;simp[hk,hi]]at HI;obtain⟨m,hm,hpg,_⟩:=h.ok.m;have HP:=h.pl.ok.most m (zak hm);have HJ:=zH (fun(j:Nat) (hj:j<8) (W:World) (hb:Below w.heap.size w W)=>qhA (h.pl.below hb) hm (k:=2+k*8+j) (by omega) hoff);have Ho:=zH (qf8 (p.seen d) k (fun q=>Pl.Ok.seen h.pl.ok d q));obtain⟨g0,g1,_⟩:=h.cells;have HA:=h.lt;have HE:k<384:=by have:=h.pages_le.1;omega
 have HM:=zH (fun q=>Pl.Ok.seen h.pl.ok d q);have Hq:=zH h.nib;obtain⟨i0,hi0,hz0,hz1,hz2⟩:=zaT qdW;clear h hk hi hm hpg HP;have CL:=zH (show ∀ W,Below w.heap.size w W→W.cell? ⟨G,0,none⟩=some (.pointer (some ⟨a.P,0,none⟩))∧W.cell? ⟨G,1,none⟩=some (.int .i64 (d:Int))from fun W hb=>⟨(hb.cell (p:=⟨G,0,none⟩) HA).trans g0,(hb.cell (p:=⟨G,1,none⟩) HA).trans g1⟩);go_enter Tryz.func60,Tryz.ntmps60
 go_wp2_with (go_at_call 62;refine HI.o.mono ?_;rintro e w' ⟨rfl,rfl⟩)
 go_loopw [6,7,8,9,19] (fun t _ _ _ i wr=>∃ (j:Nat) (A:Option Addr) (cap:Nat),i=.int .i64 j∧j≤8∧t=.slice A (j*64) cap∧Own wr w.heap.size 5 1 (.slice A (j*64) cap) (j*64) (bv (qeh (p.seen d) k j))∧Below w.heap.size w wr) (fun _ _ _ _ i _=>8-(intOf i).toNat)
 case atStart=>exact⟨0,none,0,rfl,by omega,rfl,Own.nil ..,zai _ _⟩
 case round=>
  rename World=>wr;obtain⟨j,A,cap,rfl,hj,rfl,hO,hb⟩:=hrel;have HO:=zH hO;have HB:=zH hb;have Hv:=hb.size;clear hO hb;by_cases hlt:j<8
  ·have j1:(j:Int)<8:=by omega
   have j0:(0:Int)≤(j:Int):=by omega
   have e1:IntKind.i64.wrap ((k:Int)*8)=((k*8:Nat):Int):=by rw[zaJ _ (by omega)];omega
   have e2:IntKind.i64.wrap (2+((k*8:Nat):Int))=((2+k*8:Nat):Int):=by rw[zaJ _ (by omega)];omega
   have e3:IntKind.i64.wrap (((2+k*8:Nat):Int)+(j:Int))=((2+k*8+j:Nat):Int):=by rw[zaJ _ (by omega)];omega
   obtain⟨q1,hq1⟩:∃ q,k*8=q:=⟨_,rfl⟩;obtain⟨q2,hq2⟩:∃ q,2+q1=q:=⟨_,rfl⟩;obtain⟨q3,hq3⟩:∃ q,q2+j=q:=⟨_,rfl⟩;rw[hq1]at e1 e2 e3;rw[hq2]at e2 e3;rw[hq3]at e3;have HQ:=zH (show 2+k*8+j=q3 by rw[hq1,hq2,hq3]);have HK:=zH (fun(W:World) (hb:Below w.heap.size w W)=>(by have:=HJ.o j hlt W hb;rw[HQ.o]at this;exact this:Calls Tryz.prog 65 #[.pointer (some ⟨a.P,0,none⟩),.int .i64 d,.int .i64 q3] W _));have HL:=zH (show qeh (p.seen d) k (j+1)=qeh (p.seen d) k j++p.seen d q3 by rw[qfd,HQ.o]);clear hq1 hq2 hq3;go_upto_region 7 with fail
   have HF:=CL.o _ (HB.o.drew);refine wp_region_held_drew (S:=fun W=>W.cell? ⟨G,0,none⟩=some (.pointer (some ⟨a.P,0,none⟩))∧W.cell? ⟨G,1,none⟩=some (.int .i64 (d:Int))) (by kernel_rfl) HF (fun hHeld=>?_);refine zU 0 23 (.pointer (some ⟨G,0,none⟩)) ?_;try simp only[zS]
   refine zU 1 24 (.pointer (some ⟨G,0,none⟩)) ?_;try simp only[zS]
   refine zU 2 25 (.pointer (some ⟨G,0,none⟩)) ?_;try simp only[zS]
   refine zT 3 26 (.pointer (some ⟨a.P,0,none⟩)) rfl (Or.inl ⟨by rfl,fun W hS=>by obtain⟨hS1,hS2⟩:=hS;go_simp⟩) ?_;try simp only[zS]
   refine zU 4 27 (.pointer (some ⟨G,0,none⟩)) ?_;try simp only[zS]
   refine zU 5 28 (.pointer (some ⟨G,0,none⟩)) ?_;try simp only[zS]
   refine zU 6 29 (.pointer (some ⟨G,1,none⟩)) ?_;try simp only[zS]
   refine zT 7 30 (.int .i64 (d:Int)) rfl (Or.inl ⟨by rfl,fun W hS=>by obtain⟨hS1,hS2⟩:=hS;go_simp⟩) ?_;try simp only[zS]
   refine zU 8 31 (.int .i64 (k:Int)) ?_;try simp only[zS]
   refine zU 9 32 (.int .i64 (q1:Int)) ?_;try simp only[zS]
   refine zU 10 33 (.int .i64 (q2:Int)) ?_;try simp only[zS]
   refine zU 11 34 (.int .i64 (j:Int)) ?_;try simp only[zS]
   refine zU 12 35 (.int .i64 (q3:Int)) ?_;try simp only[zS]
   refine wpAnyH_ready (rs:=[13]) (by kernel_rfl) (by simp) ?_;refine AllReadyH.cons rfl (fun K hK=>?_) AllReadyH.nil;go_simp;go_at_call 65
   refine(HK.o _ (HB.o.drew)).mono ?_;rintro e wn ⟨gq,rfl,hgq,hblk,hbn⟩;have Hu:Below w.heap.size w wn:=HB.o.drew.trans (hbn.mono Hv);refine hK.out _ _ (CL.o _ Hu) (fun hHeld2=>?_);clear hK K;try simp only[zS]
   refine zU 14 22 (.tuple #[.slice (some ⟨gq,0,none⟩) 64 64,.int .i64 0]) ?_;try simp only[zS]
   refine zU 15 37 (.slice (some ⟨gq,0,none⟩) 64 64) ?_;try simp only[zS]
   refine zU 16 38 (.int .i64 0) ?_;try simp only[zS]
   refine zU 17 8 (.slice (some ⟨gq,0,none⟩) 64 64) ?_;try simp only[zS]
   refine zU 18 9 (.int .i64 0) ?_;try simp only[zS]
   refine wpAnyH_done (by kernel_rfl) ?_ _;have HH:=zH (HO.o.below (zac _) ((zai _ _).drew.trans hbn));have Hs:=zH (show Src wn 1 (some ⟨gq,0,none⟩) 64 (bv (p.seen d q3))from qaE hblk (by rw[bv_len,HM.o]));have Hw:=zH Hu;clear hblk Hu hHeld hHeld2 HF hbn e1 e2 e3;go_wp2_with (at_builtin;refine qai rfl (.tmp 42) (.tmp 43) 34 rfl w.heap.size 5 i0 _ 1 1 Tryz.underlying34 hi0 hz0 hz1 hz2 rfl (by decide) (.slice A (j*64) cap) (j*64) _ rfl HH.o (some ⟨gq,0,none⟩) 64 64 (bv (p.seen d q3)) rfl Hs.o (qaw _) (by unfold maxLen;omega) (by omega) Hw.o.size ?_;intro A6 cap6 w6 hrow6 hgrow6)
   rw[←qa7,←HL.o,show j*64+64=(j+1)*64 by omega]at hrow6;refine⟨⟨j+1,A6,cap6,by go_num,by omega,?_,hrow6,Hw.o.trans hgrow6⟩,by simp[intOf];omega⟩;rw[show(j+1)*64=j*64+64 by omega]
  ·obtain rfl:j=8:=by omega
   obtain⟨L,hL⟩:∃ L,qeh (p.seen d) k 8=L:=⟨_,rfl⟩;have Ht:L.length=512:=by rw[←hL,Ho.o]
   have HG:=zH hL;have He:=HO.o;rw[hL]at He;clear hL;have Hk:∃ gA,A=some ⟨gA,0,none⟩∧512≤cap:=by
    rcases He.row with ho|⟨_,_,h0,_⟩
    ·rcases ho.2 with⟨_,h0⟩|⟨gA,cap',cs,e,_,_,h1,_⟩
     ·omega
     ·cases e;exact⟨gA,rfl,h1⟩
    ·omega
   obtain⟨gA,rfl,hcap⟩:=Hk;have Hz:By wr (some ⟨gA,0,none⟩) L:=By.of_own He.row (by omega);have Hx:=zH (qlU gA 0 cap L 512 wr Hz Ht (by omega) (by omega) hcap);have Hb:=qfS (L.take 2);rw[zag,zbE (by omega)]at Hb;have Hc:=qfS ((L.drop 2).take 4);rw[zag,zap,zbE (by omega)]at Hc;obtain⟨n,hn⟩:∃ n,hiN (L.take 2)=n:=⟨_,rfl⟩;obtain⟨s,hs⟩:∃ s,hiN ((L.drop 2).take 4)=s:=⟨_,rfl⟩;rw[hn]at Hx Hb;rw[hs]at Hc;have Hb:n<65536:=by omega
   have Hc:s<4294967296:=by omega
   have Hp:=zH (And.intro hn hs);have Hl:=zH Ht;clear hn hs Ht HO He Hz;have HC:qba (p.seen d) k=if 500<n∨crcN ((L.drop 6).take n)≠s then none else some ((L.drop 6).take n):=by
    unfold qba qiW;have e:qd1 (p.seen d) k=L:=HG.o;rw[e,Hp.o.1,Hp.o.2]
   have Hj:=zH HC;clear HC;go_upto_region 14 with(first
    | (go_at_call 66;((with_reducible refine Hx.o.mono ?_);rintro e w1 ⟨rfl,ho1,hb1⟩;have Hf:=zH hb1;have Hy:=zH (qlV wr.heap.size 0 510 (L.drop 2) 510 w1 (By.of_own (.inl ho1) (by rw[zap,Hl.o])) (by rw[zap,Hl.o]) (by omega) (by omega) (by omega));rw[Hp.o.2]at Hy;clear ho1 hb1))
    | (go_at_call 66;((with_reducible refine Hy.o.mono ?_);rintro e w2 ⟨rfl,ho2,hb2⟩;have Hn:=zH hb2;have He:=zH ho2;clear ho2 hb2)))
   by_cases hn5:500<n
   ·have Hi:=zH (show qba (p.seen d) k=none by rw[Hj.o,zaw (.inl hn5)]);have t1:decide ((500:Int)<(n:Int))=true:=zas (by omega);go_wp2
    go_ret2
    rw[Hi.o];exact⟨rfl,(HB.o.trans (Hf.o.mono Hv)).trans (Hn.o.mono (by have:=Hf.o.size;omega))⟩
   ·have t1:decide ((500:Int)<(n:Int))=false:=zal (by omega);have hR:By w2 (some ⟨w1.heap.size,0,none⟩) ((L.drop 6).take n):=by
     have:=(By.of_own (.inl He.o) (by rw[zap,zap,Hl.o])).take n
     rwa [zcF]at this
    have Hm:((L.drop 6).take n).length=n:=by rw[zag,zap,Hl.o];omega
    have Hh:=zH (((Hq.o.below HB.o).below Hf.o).below Hn.o);obtain⟨R,hRR⟩:∃ R,(L.drop 6).take n=R:=⟨_,rfl⟩;rw[hRR]at hR Hm Hj;have Ha:=zH (sumN (some ⟨w1.heap.size,0,none⟩) 506 n R w2 hR Hm Hh.o (by omega));have Hr:=zH Hm;have HR:=zH hR;obtain⟨cr,hcr⟩:∃ cr,crcN R=cr:=⟨_,rfl⟩;have HD:cr<4294967296:=by rw[←hcr];exact qeI _
    rw[hcr]at Ha Hj;have n0:(0:Int)≤(n:Int):=by omega
    have n1:(n:Int)≤506:=by omega
    clear hRR hcr hR Hm;have Hg:=zH ((HB.o.trans (Hf.o.mono Hv)).trans (Hn.o.mono (by have:=Hf.o.size;omega)));by_cases hcs:cr=s
    ·have Hi:=zH (show qba (p.seen d) k=some R by rw[Hj.o,zaB (by exact fun h=>h.elim hn5 (fun h=>h hcs))]);have t2:((cr:Int) != (s:Int))=false:=by rw[hcs];simp
     have HN:=zH hcs;clear hcs;go_wp2_with (first
      | (go_at_call 67;((with_reducible refine Ha.o.mono ?_);rintro e w3 ⟨rfl,rfl⟩))
      | (at_builtin;refine qai rfl (.tmp 69) (.tmp 72) 34 rfl w.heap.size 5 i0 _ 1 1 Tryz.underlying34 hi0 hz0 hz1 hz2 rfl (by decide) _ 0 [] rfl (Own.empty _ _ _ _ w2.heap.size 0 Hg.o.size (by simp)) (some ⟨w1.heap.size,0,none⟩) n 506 (bv R) rfl (by have:=(HR.o.below ((zai _ w2).alloc (zac _) (.cells #[] 5))).src;rwa [Hr.o]at this) (qaw _) (by unfold maxLen;omega) (by omega) (by have:=Hg.o.size;simp;omega) ?_;intro A6 cap6 w6 hrow6 hgrow6))
     go_ret2
     rw[Hi.o];simp only[zaO,zaA]at hrow6;refine⟨A6,cap6,by rw[Hr.o];simp,by rw[Hr.o];exact hrow6,(Hg.o.alloc (by have:=Hg.o.size;omega) _).trans hgrow6⟩
    ·have Hi:=zH (show qba (p.seen d) k=none by rw[Hj.o,zaw (.inr hcs)]);have t2:((cr:Int) != (s:Int))=true:=by rw[bne_iff_ne];omega
     go_wp2_with (go_at_call 67;((with_reducible refine Ha.o.mono ?_);rintro e w3 ⟨rfl,rfl⟩))
     go_ret2
     rw[Hi.o];exact⟨rfl,Hg.o⟩
end Go.Proofs.YtpmebcgmgfcmiaaGreatDoor
