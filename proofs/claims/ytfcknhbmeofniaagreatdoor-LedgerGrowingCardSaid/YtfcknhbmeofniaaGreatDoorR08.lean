/- Texts PlG PlH PlB PlS. -/
import Derived.Test.YtfcknhbmeofniaaGreatDoorR07
set_option linter.all false
set_option maxRecDepth 100000
set_option maxHeartbeats 16000000
namespace Go.Proofs.YtfcknhbmeofniaaGreatDoor
open Go.RowKit BT
variable {w w':World}{a:PA}{B3 B2 d n g m:Nat}{F:Nat→Prop}{most:List Nat}{tp:List Tp}{A:Option Addr}{ws:List Wt}{cs:Array Value}{x:Wt}{vw:Value}{p:Pl}
structure WRow (w:World) (A:Option Addr) (ws:List Wt):Prop where
 len:ws.length≤9223372036854775807
 ok:∀ x∈ws,x.b.length=64
 at_:0<ws.length→∃ g,A=some ⟨g,0,none⟩∧g<w.heap.size∧∀ j x,ws[j]?=some x→w.rangeAt g (j*66) (wv x)
def qgP (B3 B2:Nat):Value:=.func (.func 106) #[] #[.pointer (some ⟨B3,0,none⟩),.pointer (some ⟨B2,0,none⟩)]
structure FlB (w:World) (a:PA) (B3 B2 d:Nat):Prop where
 c3:w.cell? ⟨B3,0,none⟩=some (.int .i64 (d:Int))
 c2:w.cell? ⟨B2,0,none⟩=some (.pointer (some ⟨a.P,0,none⟩))
 h3:¬MB a B3
 h2:¬MB a B2
theorem FlB.touch (h:FlB w a B3 B2 d)(ht:Touch F w w')(h3:¬F B3)(h2:¬F B2):FlB w' a B3 B2 d:=
 ⟨(qaj ht (zav w _ h.c3) h3).trans h.c3,(qaj ht (zav w _ h.c2) h2).trans h.c2,h.h3,h.h2⟩
def IdxF (a:PA)(most:List Nat)(tp:List Tp)(disk:qaZ)(d:Nat)(ws:List Wt)(w:World)(e:Ending)(w':World):Prop:=
 Touch (MB a) w w'∧((e=.returned (.int .i64 (-1))∧(∀ x∈ws,x.dev≠d)∧PlD w' a most tp disk)∨
  ∃ k x,e=.returned (.int .i64 (k:Nat))∧ws[k]?=some x∧x.dev=d∧(∀ y∈ws.take k,y.dev≠d)∧PlD w' a most tp (setD disk x.dev x.place x.b))
theorem qhS {disk:qaZ}(h:PlD w a most tp disk){cap:Nat}(hw:WRow w A ws)(hn:ws.length=n)(hd:∀ x∈ws,∃ m,most[x.dev]?=some m)
 (hB:FlB w a B3 B2 d)(hgM:∀ ad,A=some ad→¬MB a ad.block) :
  Calls Tryz.prog 136 #[.slice A n cap,qgP B3 B2] w (IdxF a most tp disk d ws w):=by
 have Ho:n≤9223372036854775807:=by rw[←hn];exact hw.len
 have HN:=zH hn;have HW:=zH hw;have HH:=zH h;have HD:=zH hd;have He:=zH hB;have HG:=zH hgM;clear hn hw h hd hB hgM;unfold qgP;go_enter Tryz.func136,Tryz.ntmps136
 go_wp2;go_loopw [8] (fun i wr=>∃ j:Nat,i=.int .i64 j∧j≤n∧Touch (MB a) w wr∧PlD wr a most tp disk∧∀ y∈ws.take j,y.dev≠d) (fun i _=>n-(intOf i).toNat)
 case atStart=>exact⟨0,rfl,by omega,Touch.refl _ _,HH.o,by simp⟩
 case round=>
  rename_i wr;obtain⟨j,rfl,hj,ht,hD,hno⟩:=hrel;have HT:=zH ht;have Hh:=zH hD;have Hf:=zH hno;clear ht hD hno;by_cases hlt:j<n
  ·obtain⟨x,hx⟩:∃ x,ws[j]?=some x:=⟨_,zab (by rw[HN.o];exact hlt)⟩;obtain⟨g,rfl,hg,hc⟩:=HW.o.at_ (by rw[HN.o];omega);have Hm:=zak hx;have Hg:=HW.o.ok x Hm;have Hl:wr.rangeAt g (j*66) (wv x):=fun i v hv=>by
    rw[qaj HT.o hg (HG.o _ rfl)];exact hc j x hx i v hv
   have Hi:=zH Hl;have Hj:=zH Hg;have HX:=zH hx;obtain⟨m,hm⟩:=HD.o x Hm;have Hb:=He.o.touch HT.o He.o.h3 He.o.h2;have HC:=zH (qeQ Hh.o hm Hg Hb.c3 Hb.c2 Hb.h3 Hb.h2);have j1:(j:Int)<(n:Int):=by omega
   have j0:(0:Int)≤(j:Int):=by omega
   clear Hl hx Hg hc Hb hm;by_cases hdd:x.dev=d
   ·have Ha:=zH hdd;have Hc:=zaT hdd;rw[Hc]at HC;clear hdd Hc;go_wp2_with (first
     | ((with_reducible show wpList _ _ _ (⟨some 15,_,_,_,_,_⟩::_) _ _);(refine wpList_load_mid rfl 195 (.tmp 14) rfl g (j*66) rfl (wv x) _ Hi.o Tryz.underlying195 rfl (by rw[qau _ Hj.o];exact qal qaH) ?_))
     | (go_at_call 106;refine HC.o.mono ?_;rintro e w2 ⟨rfl,hD2,hT2⟩))
    go_ret;refine⟨HT.o.trans hT2,.inr ⟨j,x,rfl,HX.o,Ha.o,Hf.o,?_⟩⟩;unfold fset at hD2;rw[zax Ha.o]at hD2;exact hD2
   ·have Ha:=zH hdd;have Hc:=zan hdd;rw[Hc]at HC;clear hdd Hc;go_wp2_with (first
     | ((with_reducible show wpList _ _ _ (⟨some 15,_,_,_,_,_⟩::_) _ _);(refine wpList_load_mid rfl 195 (.tmp 14) rfl g (j*66) rfl (wv x) _ Hi.o Tryz.underlying195 rfl (by rw[qau _ Hj.o];exact qal qaH) ?_))
     | (go_at_call 106;refine HC.o.mono ?_;rintro e w2 ⟨rfl,hD2,hT2⟩))
    refine⟨⟨j+1,by go_num,by omega,HT.o.trans hT2,?_,?_⟩,by simp[intOf];omega⟩
    ·unfold fset at hD2;rw[zaC Ha.o]at hD2;exact hD2
    ·intro y hy;have Hk:j<ws.length:=by rw[HN.o];exact hlt
     have ex:ws[j]=x:=by have:=HX.o;rw[zab Hk]at this;exact zaG this
     rw[zaw Hk,zar,ex]at hy;rcases hy with hy|hy
     ·exact Hf.o y hy
     ·obtain rfl:y=x:=by simpa using hy
      exact Ha.o
  ·obtain rfl:j=n:=by omega
   have Hn:=zH (show ∀ x∈ws,x.dev≠d from fun x hx=>Hf.o x (by rw[←HN.o,zbA];exact hx));go_wp2;go_ret;exact⟨HT.o,.inl ⟨rfl,Hn.o,Hh.o⟩⟩
def stay (d:Nat)(ws:List Wt):List Wt:=ws.filter fun x=>x.dev≠d
def gone (disk:qaZ)(d:Nat)(ws:List Wt):qaZ:=lay disk (ws.filter fun x=>x.dev=d)
theorem qgT (disk:qaZ)(d:Nat)(ws:List Wt)(x:Wt):gone disk d (ws++[x])=fset (gone disk d ws) d x:=by
 unfold gone fset;rw[zbv,qbm];by_cases h:x.dev=d
 ·rw[zax h,zby (by simpa using h)];rfl
 ·rw[zaC h,zbM (by simpa using h)];rfl
theorem qdB (d:Nat)(ws:List Wt)(x:Wt):stay d (ws++[x])=if x.dev=d then stay d ws else stay d ws++[x]:=by
 unfold stay;rw[zbv];by_cases h:x.dev=d
 ·rw[zax h,zbM (by simpa using h),zcC,zaP]
 ·rw[zaC h,zby (by simpa using h),zcC]
theorem qgS {disk:qaZ}(h:∀ x∈ws,x.dev≠d):gone disk d ws=disk:=by
 unfold gone;rw[zcG.2 (fun x hx=>by simpa using h x hx)];rfl
theorem qgy (h:∀ x∈ws,x.dev≠d):stay d ws=ws:=List.filter_eq_self.2 (fun x hx=>by simpa using h x hx)
structure qjI (w:World) (g cap:Nat) (ws:List Wt) (d j:Nat):Prop where
 ex:∃ cs:Array Value,w.heap[g]?=some (.cells cs 195 (0,0))∧cs.size=cap*66∧cs.toList.take ((stay d (ws.take j)).length*66)=(stay d (ws.take j)).flatMap wv∧
  ∀ i x,j≤i→ws[i]?=some x→∀ q,q<66→cs[i*66+q]?=(wv x)[q]?
theorem qid {cap k:Nat}(hg:w.heap[g]?=some (.cells cs 195 (0,0)))(hs:cs.size=cap*66)(hn:ws.length≤cap)(ht:cs.toList.take (ws.length*66)=ws.flatMap wv)(hok:∀ x∈ws,x.b.length=64)
  (hk:∀ y∈ws.take k,y.dev≠d)(hx:ws[k]?=some x)(hd:x.dev=d):qjI w g cap ws d (k+1)∧(stay d (ws.take (k+1))).length=k:=by
 have Hb:k<ws.length:=(zac.1 hx).1;have ex:ws[k]=x:=by rw[zab Hb]at hx;exact zaG hx
 have Hc:stay d (ws.take (k+1))=ws.take k:=by
  rw[zaw Hb,qdB,ex,zax hd,qgy hk]
 have Ha:∀ y∈ws,(wv y).length=66:=fun y hy=>qau y (hok y hy);refine⟨⟨cs,hg,hs,?_,fun i y hi hy q hq=>?_⟩,by rw[Hc,zaj];omega⟩
 ·rw[Hc,zaj,zbX (by omega)];have h1:=congrArg (List.take (k*66)) ht;rw[zcK,zbX (by omega)]at h1;rw[h1]
  conv=>lhs;rw[←zay k ws,zaK]
  rw[zbo];rw[qeC (fun y hy=>Ha y (zbb hy)),zaj,zbX (by omega)]
 ·have He:i<ws.length:=(zac.1 hy).1;have h1:=flat_at Ha hy q hq;rw[←h1,←ht,zaR,zax (by omega),zb6]
theorem qjp {cap j:Nat}(h:qjI w g cap ws d j)(hx:ws[j]?=some x)(hok:∀ x∈ws,x.b.length=64)(hn:ws.length≤cap)(hb:w'.heap[g]?=w.heap[g]?)
  (hlt:(stay d (ws.take j)).length≤j):(x.dev=d→qjI w' g cap ws d (j+1))∧(x.dev≠d→qjI (w'.setCells g ((stay d (ws.take j)).length*66) (wv x)) g cap ws d (j+1)):=by
 obtain⟨cs,h1,h2,h3,h4⟩:=h.ex;have Hb:j<ws.length:=(zac.1 hx).1;have ex:ws[j]=x:=by rw[zab Hb]at hx;exact zaG hx
 have Ha:(wv x).length=66:=qau x (hok x (zak hx));constructor
 ·intro hd;refine⟨cs,hb.trans h1,h2,?_,fun i y hi hy q hq=>h4 i y (by omega) hy q hq⟩;rw[zaw Hb,qdB,ex,zax hd];exact h3
 ·intro hd;have Hc:stay d (ws.take (j+1))=stay d (ws.take j)++[x]:=by
   rw[zaw Hb,qdB,ex,zaC hd]
  generalize hp:(stay d (ws.take j)).length=p at *;have He:p*66+66≤cs.size:=by rw[h2];omega
  refine⟨_,heap_setCells (wv x) (p*66) w' cs (hb.trans h1) (by omega),?_,?_,fun i y hi hy q hq=>?_⟩
  ·simp only[zas,zaf,zaj,zap,zbx,Ha];omega
  ·rw[Hc,zaf,zaK,hp];simp only[zal,zbl,zat,zbQ,zaP];rw[zbo (by simp only[zaf,zaj,zbx,Ha];omega),h3]
  ·rw[zbg,zaz (by simp only[zaf,zaj,zbx,Ha];omega),zaJ,zb6];have:=h4 i y (by omega) hy q hq;rw[←this];congr 1;simp only[zaf,zaj,zbx,Ha];omega
theorem first_idx (d:Nat):∀ ws:List Wt,(∀ x∈ws,x.dev≠d)∨∃ (k:Nat) (x:Wt),ws[k]?=some x∧x.dev=d∧∀ y∈ws.take k,y.dev≠d
 | []=>.inl (by simp)
 | z::ws=>by
  by_cases hz:z.dev=d
  ·exact .inr ⟨0,z,rfl,hz,by simp⟩
  ·rcases first_idx d ws with h|⟨k,x,h1,h2,h3⟩
   ·refine .inl fun x hx=>?_;rcases zaB.1 hx with rfl|hx
    ·exact hz
    ·exact h x hx
   ·refine .inr ⟨k+1,x,by simpa using h1,h2,fun y hy=>?_⟩;rw[zbt]at hy;rcases zaB.1 hy with rfl|hy
    ·exact hz
    ·exact h3 y hy
def DelF (a:PA)(most:List Nat)(tp:List Tp)(disk:qaZ)(d:Nat)(ws:List Wt)(vw:Value)(w:World)(e:Ending)(w':World):Prop:=
 ∃ A' cap',e=.returned (.slice A' (stay d ws).length cap')∧Row w' 0 195 66 (.slice A' (stay d ws).length cap') (stay d ws).length ((stay d ws).flatMap wv)∧(∀ b,(Value.slice A' (stay d ws).length cap').ownBlock=some b→vw.ownBlock=some b)∧
  PlD w' a most tp (gone disk d ws)∧Touch (fun b=>MB a b∨vw.ownBlock=some b) w w'
theorem qjS {disk:qaZ}(h:PlD w a most tp disk)(hrow:Row w 0 195 66 vw n (ws.flatMap wv))(hn:ws.length=n)(hok:∀ x∈ws,x.b.length=64)
  (hd:∀ x∈ws,∃ m,most[x.dev]?=some m)(hB:FlB w a B3 B2 d)(hvM:∀ b,vw.ownBlock=some b→¬MB a b∧b≠B3∧b≠B2∧b≠a.P∧b≠a.DV) :
  Calls Tryz.prog 105 #[vw,qgP B3 B2] w (DelF a most tp disk d ws vw w):=by
 have Hw:n≤maxLen:=hrow.max;unfold maxLen at Hw;obtain⟨A,cap,rfl,hfl,hform⟩:=hrow.form;have Hv:∀ y∈ws,(wv y).length=66:=fun y hy=>qau y (hok y hy);have hw:WRow w A ws:=⟨by omega,hok,fun h0=>by
  obtain⟨g,e,_,hg,hc⟩:=hform (by omega);exact⟨g,e,hg,fun j x hx i v hv=>by
   have hi:i<66:=by rw[←Hv x (zak hx)];exact(zac.1 hv).1
   have hj:=(zac.1 hx).1;rw[hc (j*66+i) (by omega),flat_at Hv hx i hi];exact hv⟩⟩
 have HI:=zH (qhS h hw hn hd hB (cap:=cap) (fun ad e=>by subst e;exact(hvM _ rfl).1));have HN:=zH hn;have Hi:=zH hrow;have HD:=zH hd;have Hq:=zH hB;have Ho:=zH hok;have HV:=zH hvM;have HH:=zH h;clear hw hn hrow hd hB hok hvM hform hfl Hv h;unfold qgP at HI⊢;rcases first_idx d ws with hall|⟨k,x,hx,hxd,hk⟩
 ·have hI:Calls Tryz.prog 136 #[.slice A n cap,.func (.func 106) #[] #[.pointer (some ⟨B3,0,none⟩),.pointer (some ⟨B2,0,none⟩)]] w fun e w'=>e=.returned (.int .i64 (-1))∧PlD w' a most tp disk∧Touch (MB a) w w':=HI.o.mono fun e w' ⟨ht,hc⟩=>by
   rcases hc with⟨e1,_,h2⟩|⟨k,x,_,hx,hxd,_⟩
   ·exact⟨e1,h2,ht⟩
   ·exact absurd hxd (hall x (zak hx))
  have Hg:=zH hI;have Hf:=zH hall;clear hI hall HI;go_enter Tryz.func105,Tryz.ntmps105
  go_wp2_with (go_at_call 136;refine Hg.o.mono ?_;rintro e w1 ⟨rfl,hD1,hT1⟩)
  go_ret;have e1:(stay d ws).length=n:=by rw[qgy Hf.o];exact HN.o
  unfold DelF;rw[qgS Hf.o,e1,qgy Hf.o];refine⟨A,cap,rfl,Hi.o.keep fun b hb hl=>hT1.block b hl (HV.o b hb).1,fun b e=>e,hD1,hT1.mono fun b _ hb=>.inl hb⟩
 ·have hI:Calls Tryz.prog 136 #[.slice A n cap,.func (.func 106) #[] #[.pointer (some ⟨B3,0,none⟩),.pointer (some ⟨B2,0,none⟩)]] w fun e w'=>e=.returned (.int .i64 (k:Nat))∧PlD w' a most tp (gone disk d (ws.take (k+1)))∧Touch (MB a) w w':=HI.o.mono fun e w' ⟨ht,hc⟩=>by
   have HL:=(zac.1 hx).1;have ex:ws[k]=x:=by rw[zab HL]at hx;exact zaG hx
   rcases hc with⟨e1,hall,_⟩|⟨k2,x2,e1,hx2,hxd2,hk2,h2⟩
   ·exact absurd hxd (hall x (zak hx))
   ·have H3:k2=k:=by
     rcases Nat.lt_trichotomy k2 k with hlt|he|hlt
     ·exact absurd hxd2 (hk x2 (zak (i:=k2) (by rw[zaR,zax hlt];exact hx2)))
     ·exact he
     ·exact absurd hxd (hk2 x (zak (i:=k) (by rw[zaR,zax hlt];exact hx)))
    subst H3;rw[hx]at hx2;cases hx2;refine⟨e1,?_,ht⟩;rw[zaw HL,qgT,qgS hk2,ex];unfold fset;rw[zax hxd];exact h2
  have Hg:=zH hI;have H5:k<n:=by rw[←HN.o];exact(zac.1 hx).1
  have Hk:n≤cap∧∃ g cs,A=some ⟨g,0,none⟩∧w.heap[g]?=some (.cells cs 195 (0,0))∧cs.size=cap*66∧cs.toList.take (n*66)=ws.flatMap wv∧cap≤maxLen:=by
   rcases Hi.o with ho|⟨_,_,h0,_⟩
   ·rcases ho.2 with⟨_,h0⟩|⟨g,cap',cs,e,_,hh,h1,h2,h3,h4⟩
    ·omega
    ·cases e;exact⟨h1,g,cs,rfl,hh,h3,h4,h2⟩
   ·omega
  obtain⟨hnc,g,cs,rfl,hcs,hcsz,hct,hcm⟩:=Hk;unfold maxLen at hcm;have HR:=qid hcs hcsz (by rw[HN.o];exact hnc) (by rw[HN.o];exact hct) Ho.o hk hx hxd;have Ht:=zH HR;have Ha:=zH (HV.o g rfl);clear HR hcs hcsz hct hI HI hk hx hxd;have Hm:g<w.heap.size:=by
   obtain⟨cs,h1,_⟩:=Ht.o.1.ex;exact(zaa.1 h1).1
  have t0:((k:Int)==-1)=false:=by rw[zaN];omega
  go_enter Tryz.func105,Tryz.ntmps105
  go_wp2_with (go_at_call 136;refine Hg.o.mono ?_;rintro e w1 ⟨rfl,hD1,hT1⟩)
  go_loopw [5,6,7] (fun t5 t6 _ wr=>∃ j:Nat,t6=.int .i64 j∧j≤n∧t5=.int .i64 ((stay d (ws.take j)).length:Nat)∧qjI wr g cap ws d j∧PlD wr a most tp (gone disk d (ws.take j))∧Touch (fun b=>MB a b∨b=g) w wr) (fun _ t6 _ _=>n-(intOf t6).toNat)
  case atStart=>
   refine⟨k+1,by go_num,by omega,by rw[Ht.o.2],?_,hD1,hT1.mono fun b _ hb=>.inl hb⟩;obtain⟨cs,h1,h2⟩:=Ht.o.1.ex;exact⟨cs,(hT1.block g Hm Ha.o.1).trans h1,h2⟩
  case round=>
   rename_i wr;obtain⟨j,rfl,hj,rfl,hsh,hD,hT⟩:=hrel;have HT:=zH hT;have Hr:=zH hD;have Hs:=zH hsh;have HO:(stay d (ws.take j)).length≤j:=by
    unfold stay;exact zam (zcq _ _) (by rw[zaj];omega)
   obtain⟨p,hp⟩:∃ p,(stay d (ws.take j)).length=p:=⟨_,rfl⟩;have HP:=zH hp;rw[hp]at HO⊢;have HG:g<wr.heap.size:=zag Hm hT.size;have H4:g≠wr.heap.size:=by omega
   clear hT hD hsh hp;by_cases hlt:j<n
   ·obtain⟨x,hx⟩:∃ x,ws[j]?=some x:=⟨_,zab (by rw[HN.o];exact hlt)⟩;have HU:=zak hx;have Hp:=Ho.o x HU;obtain⟨cs,i1,i2,i3,i4⟩:=Hs.o.ex;have HQ:wr.rangeAt g (j*66) (wv x):=fun i v hv=>by
     have hi:i<66:=by rw[←qau x Hp];exact(zac.1 hv).1
     rw[zao wr g _ _ _ _ i1,i4 j x (zad _) hx i hi];exact hv
    have HE:=zH HQ;have Hb:=zH Hp;have HX:=zH hx;obtain⟨m,hm⟩:=HD.o x HU;have HF:Below wr.heap.size wr (wr.alloc (.cells (wv x).toArray 195)):=zB _ _;have Hj:=(Hq.o.touch HT.o (fun e=>e.elim Hq.o.h3 (fun e=>Ha.o.2.1 e.symm)) (fun e=>e.elim Hq.o.h2 (fun e=>Ha.o.2.2.1 e.symm))).touch (F:=fun _=>False) (Touch.of_below HF) (fun e=>e) (fun e=>e);have HC:=zH (qeQ (qdE Hr.o HF) hm Hp Hj.c3 Hj.c2 Hj.h3 Hj.h2);have H0:=zH (show ¬MB a wr.heap.size from fun e=>by
     obtain⟨i,hi⟩:=zca e;obtain⟨l,hl,_⟩:=Hr.o.maps i _ hi;exact zb9 _ hl.lt)
    have HS:p*66+66≤cs.size:=by rw[i2];omega
    have Hy:=zH (show wr.heap[g]?=some (.cells cs 195 (0,0))∧p*66+66≤cs.size from⟨i1,HS⟩);have He:=zH (fun(w':World) (hb:w'.heap[g]?=wr.heap[g]?)=>qjp (w':=w') Hs.o hx Ho.o (by rw[HN.o];exact hnc) hb (by rw[HP.o];exact HO));have Hn:=zH (show gone disk d (ws.take (j+1))=fset (gone disk d (ws.take j)) d x∧stay d (ws.take (j+1))=(if x.dev=d then stay d (ws.take j)else stay d (ws.take j)++[x])by
     have HJ:j<ws.length:=by rw[HN.o];exact hlt
     have ex:ws[j]=x:=by rw[zab HJ]at hx;exact zaG hx
     rw[zaw HJ,qgT,qdB,ex];exact⟨rfl,rfl⟩)
    have j1:(j:Int)<(n:Int):=by omega
    have j0:(0:Int)≤(j:Int):=by omega
    have p1:(p:Int)<(n:Int):=by omega
    have p0:(0:Int)≤(p:Int):=by omega
    have pn:p<n:=by omega
    clear HQ hx Hp Hj hm i1 i2 i3 i4 HS;by_cases hdd:x.dev=d
    ·have Hh:=zH hdd;have Hl:=zaT hdd;rw[Hl]at HC;clear hdd Hl;go_wp2_with (first
      | ((with_reducible show wpList _ _ _ (⟨some 25,_,_,_,_,_⟩::_) _ _);(refine wpList_load_mid rfl 195 (.tmp 24) rfl g (j*66) rfl (wv x) _ HE.o Tryz.underlying195 rfl (by rw[qau _ Hb.o];exact qal qaH) ?_))
      | ((with_reducible show wpList _ _ _ (⟨none,.store 195 (.tmp 7) _,_,_,_,_⟩::_) _ _);(refine qag (w1:=wr) rfl 195 (.tmp 7) (.tmp 25) rfl _ _ rfl rfl (wv x) rfl (by rw[qau _ Hb.o];exact qal qaH) (by rw[qau _ Hb.o];kernel_rfl) (qdI _) ?_))
      | ((with_reducible show wpList _ _ _ (⟨some 27,_,_,_,_,_⟩::_) _ _);(refine wpList_load_mid rfl 195 (.tmp 7) rfl wr.heap.size 0 rfl (wv x) _ (qiO wr x) Tryz.underlying195 rfl (by rw[qau _ Hb.o];exact qal qaH) ?_))
      | (go_at_call 106;refine HC.o.mono ?_;rintro e w2 ⟨rfl,hD2,hT2⟩))
     refine⟨⟨j+1,by go_num,by omega,?_,?_,?_,?_⟩,by simp[intOf];omega⟩
     ·rw[Hn.o.2,zax Hh.o,HP.o]
     ·exact(He.o w2 ((hT2.block g (by simp;omega) Ha.o.1).trans (zaW wr _ _ HG))).1 Hh.o
     ·rw[Hn.o.1];exact hD2
     ·exact HT.o.trans (((Touch.refl _ wr).alloc _).trans (hT2.mono fun b _ hb=>.inl hb))
    ·have Hh:=zH hdd;have Hl:=zan hdd;rw[Hl]at HC;clear hdd Hl;go_wp2_with (first
      | ((with_reducible show wpList _ _ _ (⟨some 25,_,_,_,_,_⟩::_) _ _);(refine wpList_load_mid rfl 195 (.tmp 24) rfl g (j*66) rfl (wv x) _ HE.o Tryz.underlying195 rfl (by rw[qau _ Hb.o];exact qal qaH) ?_))
      | ((with_reducible show wpList _ _ _ (⟨none,.store 195 (.tmp 7) _,_,_,_,_⟩::_) _ _);(refine qag (w1:=wr) rfl 195 (.tmp 7) (.tmp 25) rfl _ _ rfl rfl (wv x) rfl (by rw[qau _ Hb.o];exact qal qaH) (by rw[qau _ Hb.o];kernel_rfl) (qdI _) ?_))
      | ((with_reducible show wpList _ _ _ (⟨some 27,_,_,_,_,_⟩::_) _ _);(refine wpList_load_mid rfl 195 (.tmp 7) rfl wr.heap.size 0 rfl (wv x) _ (qiO wr x) Tryz.underlying195 rfl (by rw[qau _ Hb.o];exact qal qaH) ?_))
      | (go_at_call 106;refine HC.o.mono ?_;rintro e w2 ⟨rfl,hD2,hT2⟩;have Hz:=zH hD2;have Hu:=zH hT2;clear hD2 hT2;have HA:=zH (show w2.heap[g]?=wr.heap[g]? from(Hu.o.block g (by simp;omega) Ha.o.1).trans (zaW wr _ _ HG)))
      | ((with_reducible show wpList _ _ _ (⟨some 32,_,_,_,_,_⟩::_) _ _);(refine wpList_load_mid rfl 195 (.tmp 7) rfl wr.heap.size 0 rfl (wv x) _ (fun i v hv=>(qaj Hu.o (by simp) H0.o).trans (qiO wr x i v hv)) Tryz.underlying195 rfl (by rw[qau _ Hb.o];exact qal qaH) ?_))
      | ((with_reducible show wpList _ _ _ (⟨none,.store 195 (.tmp 33) _,_,_,_,_⟩::_) _ _);(refine wpList_store_mid rfl 195 (.tmp 33) (.tmp 32) rfl g (p*66) (wv x).toArray rfl rfl (there_of_block (HA.o.trans Hy.o.1) (p*66) (by simp only[zas];rw[qau _ Hb.o];exact Hy.o.2)) (by simp only[zas];rw[qau _ Hb.o];exact qal qaH) (all_oneCell_toArray (qdI _)) ?_)))
     refine⟨⟨j+1,by go_num,by omega,?_,?_,?_,?_⟩,by simp[intOf];omega⟩
     ·rw[Hn.o.2,zaC Hh.o,zaf,HP.o];go_num
     ·have:=(He.o w2 HA.o).2 Hh.o;rw[HP.o]at this;exact this
     ·rw[Hn.o.1];refine Hz.o.keep fun b hb=>?_;refine World.heap_setCells_other w2 g (p*66) _ ?_ ?_
      ·have Hc:=Hz.o;rcases hb with rfl|rfl|hb
       ·exact zav w2 ⟨a.P,2,none⟩ Hc.c2
       ·rcases Hc.dv.2 with⟨h0,_⟩|⟨g',_,_,e,_,hh,_⟩
        ·cases h0
        ·cases e;exact(zaa.1 hh).1
       ·obtain⟨i,hi⟩:=zca hb;obtain⟨l,hl,_⟩:=Hc.maps i b hi;exact hl.lt
      ·rcases hb with rfl|rfl|hb
       ·exact Ha.o.2.2.2.1.symm
       ·exact Ha.o.2.2.2.2.symm
       ·exact fun e=>Ha.o.1 (e▸hb)
     ·exact(HT.o.trans (((Touch.refl _ wr).alloc _).trans (Hu.o.mono fun b _ hb=>.inl hb))).trans (qaB (F:=fun b=>MB a b∨b=g) (.inr rfl) _ _)
   ·obtain rfl:j=n:=by omega
    obtain⟨i0,hi0,hz0,hz1,hz2⟩:=zaY qaH;obtain⟨A',hA',hsl⟩:=qdA (P:=Tryz.prog) Tryz.underlying88 hi0 hz1 g 0 j cap p (by omega) (by omega);obtain⟨cs,i1,i2,i3,i4⟩:=Hs.o.ex;have HY:=zH i1;have Hg:=zH i2;have HZ:=zH i3;have HW:=zH hA';have p0:(0:Int)≤(p:Int):=by omega
    have p1:(p:Int)≤(j:Int):=by omega
    have p2:(p:Int)≤(cap:Int):=by omega
    have H1:=zH (show(Value.agg Tryz.zeroCells195).cells.size=66 by kernel_rfl);clear i1 i2 i3 i4 hA';go_wp2_with ((with_reducible show wpList _ _ _ (⟨none,.call _,_,_,_,_⟩::_) _ _);(refine qez rfl (.tmp 38) 88 rfl Tryz.underlying88 (fun _=>by kernel_rfl) (z:=.agg Tryz.zeroCells195) (by kernel_rfl) A' (j-p) (cap-p) rfl g (p*66) cs 195 HY.o (fun h0=>⟨by rw[HW.o (by omega),zaF],by rw[H1.o,Hg.o];omega⟩) ?_;intro w5 cs5 k1 k2 k3 k4))
    have HK:=zH (And.intro k1 (And.intro k2 k3));have HB:=zH k4;clear k1 k2 k3 k4;go_ret;have Hx:ws.take j=ws:=by rw[←HN.o,zbA]
    have HM:(stay d ws).length=p:=by rw[←Hx];exact HP.o
    have H2:cs.toList.take (p*66)=(stay d ws).flatMap wv:=by
     have:=HZ.o;rw[HP.o,Hx]at this;exact this
    unfold DelF;rw[HM];refine⟨some ⟨g,0,none⟩,cap,rfl,.inl ⟨?_,.inr ⟨g,cap,cs5,rfl,zbO _,HK.o.1,by omega,by unfold maxLen;omega,by rw[HK.o.2.1,Hg.o],by rw[HK.o.2.2,H2]⟩⟩,fun b e=>e,?_,?_⟩
    ·rw[←HM];exact qeC fun y hy=>qau y (Ho.o y (zbj.1 hy).1)
    ·have Hc:=Hr.o;rw[Hx]at Hc;refine Hc.keep fun b hb=>HB.o.block b ?_ ?_
     ·rcases hb with rfl|rfl|hb
      ·exact zav wr ⟨a.P,2,none⟩ Hc.c2
      ·rcases Hc.dv.2 with⟨h0,_⟩|⟨g',_,_,e,_,hh,_⟩
       ·cases h0
       ·cases e;exact(zaa.1 hh).1
      ·obtain⟨i,hi⟩:=zca hb;obtain⟨l,hl,_⟩:=Hc.maps i b hi;exact hl.lt
     ·rcases hb with rfl|rfl|hb
      ·exact Ha.o.2.2.2.1.symm
      ·exact Ha.o.2.2.2.2.symm
      ·exact fun e=>Ha.o.1 (e▸hb)
    ·refine(HT.o.mono fun b _ hb=>?_).trans (HB.o.mono fun b _ hb=>?_)
     ·rcases hb with hb|hb
      ·exact .inl hb
      ·exact .inr (by rw[hb];rfl)
     ·exact .inr (by rw[hb];rfl)
theorem qkM (p:Pl):p.step.2.disk=p.disk∧p.step.2.tp=p.tp:=by unfold Pl.step;split<;>exact⟨rfl,rfl⟩
theorem PlM.flushed {w1 w5:World}{st now:Int}(h1:w1.heap[a.P]?=some (.cells (qcZ a vw p st now) 90 (0,0)))(h2:PlR w1 a F vw p.most p.tp p.disk p.waits)(h3:p.Ok)
 {A5:Option Addr}{cap5:Nat}(hrow:Row w5 0 195 66 (.slice A5 (stay d p.waits).length cap5) (stay d p.waits).length ((stay d p.waits).flatMap wv))
  (hv:∀ b,(Value.slice A5 (stay d p.waits).length cap5).ownBlock=some b→vw.ownBlock=some b)(hD:PlD w5 a p.most p.tp (gone p.disk d p.waits))(hT:Touch (fun b=>MB a b∨vw.ownBlock=some b) w1 w5) :
  PlM (w5.setCell ⟨a.P,3,none⟩ (.slice A5 (stay d p.waits).length cap5)) a F { p with waits:=stay d p.waits,disk:=gone p.disk d p.waits }∧Ext F F w1 (w5.setCell ⟨a.P,3,none⟩ (.slice A5 (stay d p.waits).length cap5)):=by
 have Hb:¬(MB a a.P∨vw.ownBlock=some a.P):=fun e=>by
  rcases e with e|e
  ·exact(h2.fM _ e).2.1 rfl
  ·exact(h2.fw _ e).2.1 rfl
 have Ha:w5.heap[a.P]?=w1.heap[a.P]?:=hT.block _ (h2.hF _ h2.fP) Hb;have hs:=hT.size;have Hc:∀ b,(Value.slice A5 (stay d p.waits).length cap5).ownBlock=some b→b≠a.P:=fun b e=>(h2.fw b (hv b e)).2.1;have hk:∀ b,F b→b≠a.P→¬(MB a b∨vw.ownBlock=some b)→(w5.setCell ⟨a.P,3,none⟩ (.slice A5 (stay d p.waits).length cap5)).heap[b]?=w1.heap[b]?:=fun b hb hn hvn=>
  (zaV w5 _ _ b hn).trans (hT.block b (h2.hF b hb) hvn)
 refine⟨⟨⟨.slice A5 (stay d p.waits).length cap5,st,now,?_,?_⟩,?_⟩,?_,?_⟩
 ·rw[qac (Ha.trans h1)];simp[qcZ]
 ·refine⟨h2.fP,fun b hb=>?_,?_,h2.fDV,h2.mlen,h2.tlen,h2.mnd,h2.fM,?_,?_,fun b e=>h2.fw b (hv b e),h2.sh,?_,?_⟩
  ·simp only[zbE];have:=h2.hF b hb;omega
  ·exact qbG hD.dv (zaV w5 _ _ _ h2.fDV.2)
  ·intro d' M hd;obtain⟨l,i1,i2⟩:=hD.maps d' M hd;exact⟨l,i1.of_heap (zaV w5 _ _ _ (h2.fM M (zak hd)).2.1),i2⟩
  ·refine⟨hrow.keep fun b hb hlt=>zaV w5 _ _ b (Hc b hb),fun b e=>⟨zbO _,?_⟩⟩;simp only[zbE];have:=(h2.wrow.blk b (hv b e)).2;omega
  ·refine qbg h2.shape (by simp only[zbE];omega) fun b off e=>?_;have:=h2.sh _ (.inl e);exact hk b this.1 this.2.1 (fun e2=>e2.elim (fun e2=>this.2.2.2 e2) (fun e2=>(h2.fw _ e2).2.2.2.2.1 _ e rfl))
  ·refine qbg h2.shapeT (by simp only[zbE];omega) fun b off e=>?_;have:=h2.sh _ (.inr e);exact hk b this.1 this.2.1 (fun e2=>e2.elim (fun e2=>this.2.2.2 e2) (fun e2=>(h2.fw _ e2).2.2.2.2.2 _ e rfl))
 ·refine⟨fun y hy=>h3.waits y (zbj.1 hy).1,fun d' k=>?_,h3.most,h3.devs,h3.fuse⟩;exact qgh h3.disk (fun y hy=>(h3.waits y (zbj.1 hy).1).1) d' k
 ·refine⟨hT.os,hT.tape,hT.output,by simp only[zbE];exact hs,fun b hb hn=>?_⟩;refine(zaV w5 _ _ b (fun e=>hn (e▸h2.fP))).trans (hT.block b hb (fun e=>?_));rcases e with e|e
  ·exact hn (h2.fM b e).1
  ·exact hn (h2.fw b e).1
 ·exact fun b hb=>.inl hb
theorem qjo {i:Nat}{t:TypeId}{fr:Nat×Nat}(h:w.heap[g]?=some (.cells cs t fr)){v:Value}(hv:cs[i]?=some v):w.setCell ⟨g,i,none⟩ v=w:=by
 have e:w.setCell ⟨g,i,none⟩ v={ w with heap:=(w.setCell ⟨g,i,none⟩ v).heap }:=rfl;rw[e];have hh:(w.setCell ⟨g,i,none⟩ v).heap=w.heap:=by
  apply Array.ext_getElem?;intro j;by_cases hj:j=g
  ·subst hj;rw[qac h,h];congr 2;apply Array.ext_getElem?;intro q;rw[zck];split
   ·rename_i hq;subst hq;rw[hv,zax (zaa.1 hv).1]
   ·rfl
  ·exact zaV w _ _ j hj
 rw[hh]
theorem qk2 (h:PlM w a F p)(hd:p.most[d]?=some m)(hoff:p.off=false)(hst:p.step.1=true) :
  Calls Tryz.prog 74 #[.pointer (some ⟨a.P,0,none⟩),.int .i64 d] w fun e w'=>e=.returned (.int .i64 0)∧PlM w' a F (p.flush d).2∧Ext F F w w':=by
 have Hp:(p.flush d).2={ p.step.2 with waits:=stay d p.step.2.waits,disk:=gone p.step.2.disk d p.step.2.waits }:=by
  unfold Pl.flush;rw[zaC (by rw[hoff];decide),zax hst,step_waits,(qkM p).1];rfl
 have HH:p.step.2.most[d]?=some m:=by rw[qhq];exact hd
 have Hw:=zH Hp;clear Hp;have HL:a.P<w.heap.size:=h.hF _ h.fP;obtain⟨W1,hW1⟩:∃ W1,((w.alloc (.cells #[.pointer (some ⟨a.P,0,none⟩)] 24)).alloc (.cells #[.int .i64 (d:Int)] 3))=W1:=⟨_,rfl⟩;have Hi:Below w.heap.size w W1:=by rw[←hW1];exact(zB _ _).alloc (by simp) _
 have Hs:W1.heap.size=w.heap.size+2:=by rw[←hW1];simp
 have b2:W1.cell? ⟨w.heap.size,0,none⟩=some (.pointer (some ⟨a.P,0,none⟩)):=by
  rw[←hW1,World.cell?_alloc_some _ _ _ (by rw[zao _ _ 0 _ _ _ (zae w _)];rfl),zao _ _ 0 _ _ _ (zae w _)];rfl
 have b3:W1.cell? ⟨w.heap.size+1,0,none⟩=some (.int .i64 (d:Int)):=by
  rw[←hW1];have:=zao _ (w.heap.size+1) 0 _ _ _ (show((w.alloc (.cells #[.pointer (some ⟨a.P,0,none⟩)] 24)).alloc (.cells #[.int .i64 (d:Int)] 3)).heap[w.heap.size+1]?=some _ by
   have:=zae (w.alloc (.cells #[.pointer (some ⟨a.P,0,none⟩)] 24)) (.cells #[.int .i64 (d:Int)] 3)
   rwa [za5]at this)
  rw[this];rfl
 have Hm:=h.below Hi;have Hv:=zH (qdp Hm hd);have Hn:=qdC Hm;rw[hst]at Hn;have HB:=zH Hn;obtain⟨⟨vw0,st0,now0,h10,_⟩,_⟩:=Hm;have c4:W1.cell? ⟨a.P,4,none⟩=some (.bool false):=by rw[zao W1 _ 4 _ _ _ h10,←hoff];rfl
 have HF:=zH h.hF;have Ht:=zH Hi;have He:=zH Hs;clear h10 Hn Hi Hs h;go_enter Tryz.func74,Tryz.ntmps74
 go_upto_region 1 with fail
 have HJ:=zH hW1;clear hW1;go_upto_region 8 with(first|(go_at_call 102;refine Hv.o.mono ?_;rintro e w' ⟨rfl,rfl⟩)|(go_at_call 104;refine HB.o.mono ?_;rintro e w2 ⟨rfl,hp2,ht2,hz2⟩;have HE:=zH hz2;clear hz2;have g2:w2.cell? ⟨w.heap.size,0,none⟩=some (.pointer (some ⟨a.P,0,none⟩)):=(qaj ht2 (by rw[He.o];omega) (fun e=>zb9 _ (HF.o _ e))).trans b2))
 have g3:w2.cell? ⟨w.heap.size+1,0,none⟩=some (.int .i64 (d:Int)):=(qaj ht2 (by rw[He.o];omega) (fun e=>absurd (HF.o _ e) (by omega))).trans b3;obtain⟨⟨vw,st,now,h1,h2⟩,h3⟩:=hp2;have Hr:=h2.toD h1;have Hb:=h2.fw;obtain⟨A,cap,rfl,_,_⟩:=h2.wrow.row.form;have c3:w2.cell? ⟨a.P,3,none⟩=some (.slice A p.step.2.waits.length cap):=by rw[zao w2 _ 3 _ _ _ h1];rfl
 have Hl:∀ b,MB a b→b<w.heap.size:=fun b hb=>HF.o b (h2.fM b hb).1;have Ha:=qjS (w:=w2.drew) (Hr.keep fun _ _=>rfl) (h2.wrow.row.below (zad _) ((zai _ _).drew)) rfl (fun x hx=>(h3.waits x hx).1) (fun x hx=>(h3.waits x hx).2.imp fun m h=>h.1) (B3:=w.heap.size+1) (B2:=w.heap.size) (d:=d)
  ⟨g3,g2,fun e=>absurd (Hl _ e) (by omega),fun e=>absurd (Hl _ e) (by omega)⟩ (fun b e=>⟨(Hb b e).2.2.2.1,by have:=HF.o b (Hb b e).1;omega,by have:=HF.o b (Hb b e).1;omega,(Hb b e).2.1,(Hb b e).2.2.1⟩)
 unfold qgP at Ha;have Hc:=zH Ha;have H1:=zH h1;have H2:=zH h2;have H3:=zH h3;have HC:=zH ht2;clear Ha h1 h2 h3 Hr Hb Hl ht2 b2 b3 c4;have Hq:¬(MB a w.heap.size∨(Value.slice A p.step.2.waits.length cap).ownBlock=some w.heap.size):=fun e=>by
  rcases e with e|e
  ·exact zb9 _ (HF.o _ (H2.o.fM _ e).1)
  ·exact zb9 _ (HF.o _ (H2.o.fw _ e).1)
 have Hy:=zH Hq;have Hz:=zH (show ¬(MB a a.P∨(Value.slice A p.step.2.waits.length cap).ownBlock=some a.P)from fun e=>by
  rcases e with e|e
  ·exact(H2.o.fM _ e).2.1 rfl
  ·exact(H2.o.fw _ e).2.1 rfl)
 clear Hq;have Hh:a.P<w2.heap.size:=H2.o.hF _ H2.o.fP;have Hf:w.heap.size<w2.heap.size:=by rw[HE.o,He.o];omega
 have HK:w.heap.size≠a.P:=by omega
 refine wp_region_held_drew (S:=fun W=>W.cell? ⟨w.heap.size,0,none⟩=some (.pointer (some ⟨a.P,0,none⟩))) (by kernel_rfl) g2 (fun hHeld=>?_);refine zU 0 21 (.pointer (some ⟨a.P,0,none⟩)) ?_;try simp only[zS]
 refine zU 1 22 (.pointer (some ⟨a.P,0,none⟩)) ?_;try simp only[zS]
 refine zU 2 23 (.pointer (some ⟨a.P,0,none⟩)) ?_;try simp only[zS]
 refine zU 3 24 (.pointer (some ⟨a.P,3,none⟩)) ?_;try simp only[zS]
 refine zU 5 26 (.func (.func 106) #[] #[.pointer (some ⟨w.heap.size+1,0,none⟩),.pointer (some ⟨w.heap.size,0,none⟩)]) ?_;try simp only[zS]
 refine wpAnyH_ready (rs:=[4]) (by kernel_rfl) (by simp) ?_;refine AllReadyH.cons rfl (fun K hK=>?_) AllReadyH.nil;go_simp;refine hK.out _ _ g2 (fun _=>?_);clear hK K;try simp only[zS]
 refine wpAnyH_ready (rs:=[6]) (by kernel_rfl) (by simp) ?_;refine AllReadyH.cons rfl (fun K hK=>?_) AllReadyH.nil;go_simp;go_at_call 105
 refine Hc.o.mono ?_;rintro e w5 ⟨A5,cap5,rfl,hrow5,hown5,hD5,hT5⟩;have Hk:w5.cell? ⟨w.heap.size,0,none⟩=some (.pointer (some ⟨a.P,0,none⟩)):=(qaj hT5 Hf Hy.o).trans g2;have Hg:w5.heap[a.P]?=_:=(hT5.block _ Hh Hz.o).trans H1.o;have HG:w5.cell? ⟨a.P,3,none⟩=some (.slice A p.step.2.waits.length cap):=by rw[zao w5 _ 3 _ _ _ Hg];rfl
 have HI:w5.frozen? ⟨a.P,3,none⟩=false:=by simp[World.frozen?,Hg]
 have HA:=zH hrow5;have Hx:=zH hown5;have Hu:=zH hD5;have HD:=zH hT5;clear hrow5 hown5 hD5 hT5 Hg;refine hK.out _ _ Hk (fun _=>?_);clear hK K;try simp only[zS]
 refine zU 7 28 (.pointer (some ⟨a.P,0,none⟩)) ?_;try simp only[zS]
 refine zU 8 29 (.pointer (some ⟨a.P,3,none⟩)) ?_;try simp only[zS]
 refine wpAnyH_ready (rs:=[9]) (by kernel_rfl) (by simp) ?_;refine AllReadyH.cons rfl (fun K hK=>?_) AllReadyH.nil;go_simp;refine hK.out _ _ ((World.cell?_setCell_far w5 ⟨a.P,3,none⟩ _ _ (by simp only;omega)).trans Hk) (fun _=>?_);clear hK K;try simp only[zS]
 refine wpAnyH_done (by kernel_rfl) ?_ _;obtain⟨q1,q2⟩:=PlM.flushed H1.o H2.o H3.o HA.o Hx.o Hu.o (((Touch.refl _ w2).drew).trans HD.o);obtain⟨W6,hW6⟩:∃ W6,w5.setCell ⟨a.P,3,none⟩ (.slice A5 (stay d p.step.2.waits).length cap5)=W6:=⟨_,rfl⟩;rw[hW6]at q1 q2⊢;obtain⟨M,_,_,_,_,_,k4⟩:=q1.dev_at (d:=d) HH;have Hj:∃ cs:Array Value,W6.heap[a.DV]?=some (.cells cs 94 (0,0))∧cs[d*5+4]?=some (.int .i64 0):=by
  obtain⟨⟨vw6,_,_,_,i2⟩,_⟩:=q1;rcases i2.dv.2 with⟨h0,_⟩|⟨g',_,cs,e,_,hh,_⟩
  ·cases h0
  ·cases e;refine⟨cs,hh,?_⟩;rw[←zao W6 a.DV (d*5+4) _ _ _ hh];exact k4
 obtain⟨cs,hcs,hcv⟩:=Hj;have Ho:=zH (qjo hcs hcv);have z4:W6.frozen? ⟨a.DV,d*5+4,none⟩=false:=by simp[World.frozen?,hcs]
 have Q1:=zH q1;have Q2:=zH q2;clear q1 q2 hcs hcv hW6 HG HI Hk;go_wp2;go_ret;refine⟨rfl,?_,?_⟩
 ·rw[Ho.o,Hw.o];exact Q1.o
 ·rw[Ho.o];exact(Ext.of ((Touch.of_below Ht.o).trans HC.o)).trans Q2.o
theorem qjV (h:PlM w a F p)(hd:p.most[d]?=some m)(hoff:p.off=false)(hst:p.step.1=false) :
  Calls Tryz.prog 74 #[.pointer (some ⟨a.P,0,none⟩),.int .i64 d] w fun e w'=>e=.returned (.int .i64 2)∧PlM w' a F (p.flush d).2∧Ext F F w w':=by
 have He:(p.flush d).2=p.step.2:=by
  unfold Pl.flush;rw[zaC (by rw[hoff];decide),zaC (by rw[hst];decide)]
 have Hh:=zH He;clear He;have Hl:a.P<w.heap.size:=h.hF _ h.fP;obtain⟨W1,hW1⟩:∃ W1,((w.alloc (.cells #[.pointer (some ⟨a.P,0,none⟩)] 24)).alloc (.cells #[.int .i64 (d:Int)] 3))=W1:=⟨_,rfl⟩;have Ha:Below w.heap.size w W1:=by rw[←hW1];exact(zB _ _).alloc (by simp) _
 have b2:W1.cell? ⟨w.heap.size,0,none⟩=some (.pointer (some ⟨a.P,0,none⟩)):=by
  rw[←hW1,World.cell?_alloc_some _ _ _ (by rw[zao _ _ 0 _ _ _ (zae w _)];rfl),zao _ _ 0 _ _ _ (zae w _)];rfl
 have b3:W1.cell? ⟨w.heap.size+1,0,none⟩=some (.int .i64 (d:Int)):=by
  rw[←hW1];have:=zao _ (w.heap.size+1) 0 _ _ _ (show((w.alloc (.cells #[.pointer (some ⟨a.P,0,none⟩)] 24)).alloc (.cells #[.int .i64 (d:Int)] 3)).heap[w.heap.size+1]?=some _ by
   have:=zae (w.alloc (.cells #[.pointer (some ⟨a.P,0,none⟩)] 24)) (.cells #[.int .i64 (d:Int)] 3)
   rwa [za5]at this)
  rw[this];rfl
 have Hb:=h.below Ha;have Hg:=zH (qdp Hb hd);have Hc:=qdC Hb;rw[hst]at Hc;have Hi:=zH Hc;obtain⟨⟨vw0,st0,now0,h10,_⟩,_⟩:=Hb;have c4:W1.cell? ⟨a.P,4,none⟩=some (.bool false):=by rw[zao W1 _ 4 _ _ _ h10,←hoff];rfl
 have Hf:=zH Ha;clear h10 Hc Ha h;go_enter Tryz.func74,Tryz.ntmps74
 go_upto_region 1 with fail
 have Hj:=zH hW1;clear hW1;go_wp2_with (first|(go_at_call 102;refine Hg.o.mono ?_;rintro e w' ⟨rfl,rfl⟩)|(go_at_call 104;refine Hi.o.mono ?_;rintro e w2 ⟨rfl,hp2,ht2,hz2⟩;have Hk:=zH hz2;clear hz2))
 go_ret;rw[Hh.o];exact⟨rfl,hp2,Ext.of ((Touch.of_below Hf.o).trans ht2)⟩
def flOut (p:Pl):Int:=if p.step.1 then 0 else 2
theorem qdO (h:PlM w a F p)(hd:p.most[d]?=some m)(hoff:p.off=false) :
  Calls Tryz.prog 74 #[.pointer (some ⟨a.P,0,none⟩),.int .i64 d] w fun e w'=>e=.returned (.int .i64 (flOut p))∧PlM w' a F (p.flush d).2∧Ext F F w w':=by
 unfold flOut;cases hst:p.step.1 with
 | true=>exact qk2 h hd hoff hst
 | false=>exact qjV h hd hoff hst
theorem qdj (k:Int)(_h0:-9223372036854775808≤k)(_h1:k≤9223372036854775807):bits .and .i64 k 1=k % 2:=by
 have h1:(BitVec.ofInt 64 k &&& BitVec.ofInt 64 1).toNat=(k % 2).toNat:=by
  rw[BitVec.toNat_and,show(BitVec.ofInt 64 1).toNat=2 ^ 1-1 from rfl,zbW,BitVec.toNat_ofInt];omega
 show IntKind.i64.wrap ((BitVec.ofInt 64 k &&& BitVec.ofInt 64 1).toNat:Int)=_;rw[h1];unfold IntKind.wrap;have:(((k % 2).toNat:Nat):Int)=k % 2:=by omega
 rw[this];have hk:k % 2=0∨k % 2=1:=by omega
 rcases hk with h|h<;>rw[h]<;>decide
theorem qlh:(Tryz.prog.info? 3).map (fun i=>(i.zero,i.size,i.bytes))=some (some (.int .i64 0),1,8):=by kernel_rfl
theorem Own.ints {base:Nat}{e:TypeId}{cap:Nat}{xs:List Int}(h:Own w base e 1 (.slice A n cap) n (xs.map (Value.int .i64)))(hn:xs.length=n)(hl:n≤9223372036854775807):Ints w A xs:=by
 subst hn;obtain⟨A',cap',e1,h1⟩:=h.row.ints hl;cases e1;exact h1
theorem qci (A:Option Addr)(c n:Nat)(l:List Int)(w:World)(h:Ints w A l)(hn:l.length=n)(hl:n≤1048576) :
  Calls Tryz.prog 40 #[.slice A n c] w fun e w'=>∃ A' cap,e=.returned (.slice A' n cap)∧Own w' w.heap.size 3 1 (.slice A' n cap) n (l.map (Value.int .i64))∧Below w.heap.size w w':=by
 obtain⟨i0,hi0,hz0,hz1,hz2⟩:=zaY qlh;have Ha:=Lib.run_eql_slice_nil (P:=Tryz.prog) w 59 3 A n c 0 0 Tryz.underlying59;have HN:=zH hn;clear hn;cases A with
 | none=>
  have h0:n=0:=by
   rcases zcm n with h0|h0
   ·exact h0
   ·obtain⟨_,_,e,_⟩:=h.at_ (by rw[HN.o];exact h0);cases e
  subst h0;obtain rfl:l=[]:=zaX HN.o;simp only[Option.isNone_none]at Ha;go_enter Tryz.func40,Tryz.ntmps40
  go_wp2;go_ret;exact⟨none,0,rfl,Own.nil ..,zai _ _⟩
 | some ad=>
  have HS:Hd (∀ o,Src (w.alloc o) 1 (some ad) n (l.map (Value.int .i64))):=zH fun o=>by
   have:=(h.below ((zai _ _).alloc (zad _) o)).src
   rwa [HN.o]at this
  simp only[Option.isNone_some]at Ha;go_enter Tryz.func40,Tryz.ntmps40
  go_wp2_with (at_builtin;refine qai rfl (.tmp 5) (.tmp 6) 59 rfl w.heap.size 3 i0 _ 1 8 Tryz.underlying59 hi0 hz0 hz1 hz2 rfl (by decide) _ 0 [] rfl (Own.empty _ _ _ _ w.heap.size 0 (zad _) (by simp)) (some ad) n c (l.map (Value.int .i64)) rfl (HS.o _) (qgf l) (by unfold maxLen;omega) (by omega) (by first|(simp;done)|(simp;omega)) ?_;intro A6 cap6 w6 hrow6 hgrow6)
  go_ret;simp only[zaF,zaI]at hrow6;exact⟨A6,cap6,by simp,hrow6,(zB _ _).trans hgrow6⟩
def ShapeF (p:Pl)(w:World)(e:Ending)(w':World):Prop:=
 ∃ A1 c1 A2 c2,e=.returned (.agg #[.slice A1 p.most.length c1,.slice A2 p.tp.length c2])∧Ints w' A1 (p.most.map fun(m:Nat)=>(m:Int))∧Ints w' A2 (p.tp.map fun(t:Tp)=>(t.most:Int))∧
  (∀ ad,A1=some ad∨A2=some ad→w.heap.size≤ad.block)∧Below w.heap.size w w'
theorem qd0 (h:PlM w a F p) :
  Calls Tryz.prog 69 #[.pointer (some ⟨a.P,0,none⟩)] w (ShapeF p w):=by
 obtain⟨⟨vw,st,now,h1,h2⟩,h3⟩:=h;have hd:=h3.devs;have s1:=h2.shape;have s2:=h2.shapeT;have c0:w.cell? ⟨a.P,0,none⟩=some (.slice a.dA p.most.length a.dC):=by rw[zao w _ 0 _ _ _ h1];rfl
 have c1:w.cell? ⟨a.P,1,none⟩=some (.slice a.tA p.tp.length a.tC):=by rw[zao w _ 1 _ _ _ h1];rfl
 have Hh:a.P<w.heap.size:=h2.hF _ h2.fP;obtain⟨n,hn⟩:∃ n,p.most.length=n:=⟨_,rfl⟩;obtain⟨m,hm⟩:∃ m,p.tp.length=m:=⟨_,rfl⟩;rw[hn]at c0;rw[hm]at c1;have Hm:=zH s1;have Hn:=zH s2;have Hc:=zH (And.intro hn hm);have Hq:n≤12:=by omega
 have Hp:m≤12:=by omega
 clear h1 h2 h3 s1 s2 hn hm hd;have CL:=zH (show ∀ W,Below w.heap.size w W→Below w.heap.size w W∧W.cell? ⟨a.P,0,none⟩=some (.slice a.dA n a.dC)∧W.cell? ⟨a.P,1,none⟩=some (.slice a.tA m a.tC)from fun W hb=>⟨hb,(hb.cell (p:=⟨a.P,0,none⟩) Hh).trans c0,(hb.cell (p:=⟨a.P,1,none⟩) Hh).trans c1⟩);have ST:=zH (show ∀ x y:World,Below w.heap.size w x→Below x.heap.size x y→Below w.heap.size w y from fun x y h1 h2=>h1.trans (h2.mono h1.size));have Hj:=zH (show ∀ W,Below w.heap.size w W→Calls Tryz.prog 40 #[.slice a.dA n a.dC] W _ from fun W hb=>qci a.dA a.dC n _ W (Hm.o.below hb) (by simp[Hc.o.1]) (by omega));have Hk:=zH (show ∀ W,Below w.heap.size w W→Calls Tryz.prog 40 #[.slice a.tA m a.tC] W _ from fun W hb=>qci a.tA a.tC m _ W (Hn.o.below hb) (by simp[Hc.o.2]) (by omega));go_enter Tryz.func69,Tryz.ntmps69
 go_upto_region 1 with fail
 have Hb:=CL.o _ (((zai w.heap.size w).alloc (zad _) (.cells #[.slice none 0 0,.slice none 0 0] 61)).drew);have Hi:∀ W,Below (w.heap.size+1) (w.alloc (.cells #[.slice none 0 0,.slice none 0 0] 61)) W→W.heap[w.heap.size]?=some (.cells #[.slice none 0 0,.slice none 0 0] 61 (0,0)):=fun W hb=>(hb.block _ (Nat.lt_succ_self _)).trans (zae w _);have Hl:=zH Hi;clear Hi;refine wp_region_held_drew (S:=fun W=>Below w.heap.size w W∧W.cell? ⟨a.P,0,none⟩=some (.slice a.dA n a.dC)∧W.cell? ⟨a.P,1,none⟩=some (.slice a.tA m a.tC)) (by kernel_rfl) Hb (fun hHeld=>?_);refine zU 0 3 (.pointer (some ⟨a.P,0,none⟩)) ?_;try simp only[zS]
 refine zU 1 4 (.pointer (some ⟨a.P,0,none⟩)) ?_;try simp only[zS]
 refine zU 2 5 (.pointer (some ⟨a.P,0,none⟩)) ?_;try simp only[zS]
 refine zU 3 6 (.pointer (some ⟨a.P,0,none⟩)) ?_;try simp only[zS]
 refine zT 4 7 (.slice a.dA n a.dC) rfl (Or.inl ⟨by rfl,fun W hS=>by obtain⟨_,hS1,hS2⟩:=hS;go_simp⟩) ?_;try simp only[zS]
 refine zU 6 9 (.pointer (some ⟨a.P,0,none⟩)) ?_;try simp only[zS]
 refine zU 7 10 (.pointer (some ⟨a.P,0,none⟩)) ?_;try simp only[zS]
 refine zU 8 11 (.pointer (some ⟨a.P,0,none⟩)) ?_;try simp only[zS]
 refine zU 9 12 (.pointer (some ⟨a.P,1,none⟩)) ?_;try simp only[zS]
 refine zT 10 13 (.slice a.tA m a.tC) rfl (Or.inl ⟨by rfl,fun W hS=>by obtain⟨_,hS1,hS2⟩:=hS;go_simp⟩) ?_;try simp only[zS]
 refine wpAnyH_ready (rs:=[5]) (by kernel_rfl) (by simp) ?_;refine AllReadyH.cons rfl (fun K hK=>?_) AllReadyH.nil;go_simp;go_at_call 40
 refine(Hj.o _ hHeld.1).mono ?_;rintro e wn ⟨A1,kA1,rfl,hoA1,hbA1⟩;have Hf:=ST.o _ _ hHeld.1 hbA1;refine hK.out _ _ (CL.o _ Hf) (fun hHeld2=>?_);clear hK K;try simp only[zS]
 refine wpAnyH_ready (rs:=[11]) (by kernel_rfl) (by simp) ?_;refine AllReadyH.cons rfl (fun K hK=>?_) AllReadyH.nil;go_simp;go_at_call 40
 refine(Hk.o _ Hf).mono ?_;rintro e wm ⟨A2,kA2,rfl,hoA2,hbA2⟩;have Hg:=ST.o _ _ Hf hbA2;refine hK.out _ _ (CL.o _ Hg) (fun hHeld3=>?_);clear hK K;try simp only[zS]
 refine zU 12 15 (.agg #[.slice A1 n kA1,.slice A2 m kA2]) ?_;try simp only[zS]
 have Ho:Below (w.heap.size+1) (w.alloc (.cells #[.slice none 0 0,.slice none 0 0] 61)) wm:=((((zai _ _).drew).trans (hbA1.mono (by simp))).trans (hbA2.mono (by have:=hbA1.size;simp at this;omega)));have Ha:=Hl.o wm Ho;have x0:wm.cell? ⟨w.heap.size,0,none⟩=some (.slice none 0 0):=by rw[zao wm _ 0 _ _ _ Ha];rfl
 have x1:wm.cell? ⟨w.heap.size,1,none⟩=some (.slice none 0 0):=by rw[zao wm _ 1 _ _ _ Ha];rfl
 have z0:wm.frozen? ⟨w.heap.size,0,none⟩=false:=by simp[World.frozen?,Ha]
 have z1:wm.frozen? ⟨w.heap.size,1,none⟩=false:=by simp[World.frozen?,Ha]
 refine wpAnyH_ready (rs:=[13]) (by kernel_rfl) (by simp) ?_;refine AllReadyH.cons rfl (fun K hK=>?_) AllReadyH.nil;go_simp;refine hK.out _ _ (CL.o _ ((Hg.setCell (by simp) _).setCell (by simp) _)) (fun _=>?_);clear hK K;try simp only[zS]
 refine wpAnyH_done (by kernel_rfl) ?_ _;have Hr:Below w.heap.size w ((wm.setCell ⟨w.heap.size,0,none⟩ (.slice A1 n kA1)).setCell ⟨w.heap.size,1,none⟩ (.slice A2 m kA2)):=(Hg.setCell (by simp) _).setCell (by simp) _;have y0:((wm.setCell ⟨w.heap.size,0,none⟩ (.slice A1 n kA1)).setCell ⟨w.heap.size,1,none⟩ (.slice A2 m kA2)).heap[w.heap.size]?=some (.cells #[.slice A1 n kA1,.slice A2 m kA2] 61 (0,0)):=by
  rw[qac (qac Ha _)];rfl
 have r0:((wm.setCell ⟨w.heap.size,0,none⟩ (.slice A1 n kA1)).setCell ⟨w.heap.size,1,none⟩ (.slice A2 m kA2)).cell? ⟨w.heap.size,0,none⟩=some (.slice A1 n kA1):=by rw[zao _ _ 0 _ _ _ y0];rfl
 have r1:((wm.setCell ⟨w.heap.size,0,none⟩ (.slice A1 n kA1)).setCell ⟨w.heap.size,1,none⟩ (.slice A2 m kA2)).cell? ⟨w.heap.size,1,none⟩=some (.slice A2 m kA2):=by rw[zao _ _ 1 _ _ _ y0];rfl
 have Hs:w.heap.size+1≤wn.heap.size:=by have:=hbA1.size;simp at this;omega
 have He:=zH (show ShapeF p w (.returned (.agg #[.slice A1 n kA1,.slice A2 m kA2])) ((wm.setCell ⟨w.heap.size,0,none⟩ (.slice A1 n kA1)).setCell ⟨w.heap.size,1,none⟩ (.slice A2 m kA2))by
  refine⟨A1,kA1,A2,kA2,by rw[Hc.o.1,Hc.o.2],?_,?_,?_,Hr⟩
  ·have i1:=((hoA1.ints (by simp[Hc.o.1]) (by omega)).below hbA2);refine qbg i1 (by simp) fun b off e=>?_;have:=(hoA1.blk b (by rw[e];rfl)).1;simp at this;rw[zaV _ _ _ b (by simp only;omega),zaV _ _ _ b (by simp only;omega)]
  ·have i1:=hoA2.ints (by simp[Hc.o.2]) (by omega);refine qbg i1 (by simp) fun b off e=>?_;have:=(hoA2.blk b (by rw[e];rfl)).1;rw[zaV _ _ _ b (by simp only;omega),zaV _ _ _ b (by simp only;omega)]
  ·intro ad had;rcases had with e|e
   ·have:=(hoA1.blk ad.block (by rw[e];rfl)).1;simp at this;omega
   ·have:=(hoA2.blk ad.block (by rw[e];rfl)).1;omega)
 go_wp2;exact za7 (v:=.agg #[.slice A1 n kA1,.slice A2 m kA2]) (by simp[results,Tryz.results69,go_sem,r0,r1]) rfl He.o
end Go.Proofs.YtfcknhbmeofniaaGreatDoor
