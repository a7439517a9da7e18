/- Texts PlF PlG. -/
import Derived.Test.YtpmebcgmgfcmiaaGreatDoorQ07
set_option linter.all false
set_option maxRecDepth 100000
set_option maxHeartbeats 16000000
namespace Go.Proofs.YtpmebcgmgfcmiaaGreatDoor
open Go.RowKit BT
variable {w w':World}{a:PA}{F:Nat→Prop}{vw:Value}{most:List Nat}{tp:List Tp}{d m i j B3 B2 n g:Nat}{x:Wt}{ws:List Wt}
structure PlD (w:World) (a:PA) (most:List Nat) (tp:List Tp) (disk:qa9):Prop where
 c2:w.cell? ⟨a.P,2,none⟩=some (.slice (some ⟨a.DV,0,none⟩) (most.length+tp.length) a.dcap)
 dv:w.ownsRow 0 84 5 (.slice (some ⟨a.DV,0,none⟩) (most.length+tp.length) a.dcap) (most.length+tp.length) (qcZ most a.maps tp a.tmaps)
 mlen:a.maps.length=most.length
 mnd:(a.maps++a.tmaps).Nodup
 mne:∀ M∈a.maps++a.tmaps,M≠a.P∧M≠a.DV
 maps:∀ d M,(a.maps++a.tmaps)[d]?=some M→∃ l,IMap w M l∧∀ k:Nat,(qaX (k:Int) l 0).map (·.2)=some (.agg (bv (disk d k)).toArray)∨(qaX (k:Int) l 0=none∧disk d k=List.replicate 64 0)
theorem PlR.toD {p:Pl}{st now:Int}(h1:w.heap[a.P]?=some (.cells (qcA a vw p st now) 71 (0,0)))(h2:PlR w a F vw p.most p.tp p.disk p.waits):PlD w a p.most p.tp p.disk:=
 ⟨by rw[zan w _ 2 _ _ _ h1];rfl,h2.dv,h2.mlen,h2.mnd,fun M hM=>(h2.fM M hM).2,h2.maps⟩
theorem PlD.keep {disk:qa9}(h:PlD w a most tp disk)(hk:∀ b,b=a.P∨b=a.DV∨b∈a.maps++a.tmaps→w'.heap[b]?=w.heap[b]?):PlD w' a most tp disk:=
 ⟨by rw[←h.c2];unfold World.cell?;rw[hk _ (.inl rfl)],qbq h.dv (hk _ (.inr (.inl rfl))),h.mlen,h.mnd,h.mne,fun d M hd=>by
  obtain⟨l,i1,i2⟩:=h.maps d M hd;exact⟨l,i1.of_heap (hk M (.inr (.inr (zak hd)))),i2⟩⟩
theorem PlD.dev_at {disk:qa9}(h:PlD w a most tp disk)(hd:most[d]?=some m):∃ M,(a.maps++a.tmaps)[d]?=some M∧
  w.cell? ⟨a.DV,d*5,none⟩=some (.bool false)∧w.cell? ⟨a.DV,d*5+2,none⟩=some (.map (some M)):=by
 have hl:=(zae.1 hd).1;have hM:a.maps[d]?=some (a.maps[d]'(by rw[h.mlen];exact hl)):=zaa _;have hz:(List.zip most a.maps)[d]?=some (m,a.maps[d]'(by rw[h.mlen];exact hl)):=by
  rw[List.getElem?_zip_eq_some];exact⟨hd,hM⟩
 have hc:∀ j,j<5→w.cell? ⟨a.DV,d*5+j,none⟩=(qcz m (a.maps[d]'(by rw[h.mlen];exact hl)))[j]?:=by
  intro j hj;rw[h.dv.cellAt (d*5+j) (by omega)];unfold qcZ;have Ha:∀ y∈List.zip most a.maps,(qcz y.1 y.2).length=5:=fun _ _=>rfl;have Hb:d<(List.zip most a.maps).length:=(zae.1 hz).1;rw[zaL (by rw[qb4 Ha];omega),qb8 Ha hz j hj]
 refine⟨_,by rw[zaL (by rw[h.mlen];exact hl)];exact hM,?_,?_⟩
 ·rw[show d*5=d*5+0 from rfl,hc 0 (by omega)];rfl
 ·rw[hc 2 (by omega)];rfl
theorem qfG (k:Int)(v:Value)(k':Int):∀ (l:List (Int×Value)) (i:Nat),(qaX k' (qeo k v l) i).map (·.2)=if k'=k then some v else(qaX k' l i).map (·.2)
 | [],i=>by
  unfold qeo qaX;by_cases h:k'=k
  ·simp[h]
  ·simp[h,qaX]
 | p::r,i=>by
  unfold qeo;by_cases hk:k=p.1
  ·rw[zaw hk];unfold qaX;by_cases h:k'=k
   ·simp[h]
   ·have h2:¬k'=p.1:=by rw[←hk];exact h
    simp[h,h2]
  ·rw[zaB hk];unfold qaX;by_cases h:k'=p.1
   ·have:¬k'=k:=fun e=>hk (e▸h);simp[h];intro e;exact absurd e.symm hk
   ·rw[zaB h,zaB h];exact qfG k v k' r (i+1)
theorem qkn {α:Type}{l:List α}(h:l.Nodup){x:α}(hi:l[i]?=some x)(hj:l[j]?=some x):i=j:=by
 rcases Nat.lt_trichotomy i j with hlt|rfl|hlt
 ·exfalso;have:=zcV.1 h i j (zae.1 hi).1 (zae.1 hj).1 hlt;exact this ((zae.1 hi).2.trans (zae.1 hj).2.symm)
 ·rfl
 ·exfalso;have:=zcV.1 h j i (zae.1 hj).1 (zae.1 hi).1 hlt;exact this ((zae.1 hj).2.trans (zae.1 hi).2.symm)
theorem PlD.settle {disk:qa9}(h:PlD w a most tp disk){M:Nat}(hM:(a.maps++a.tmaps)[x.dev]?=some M){l:List (Int×Value)}(hl:IMap w M l)
  (hlk:∀ k:Nat,(qaX (k:Int) l 0).map (·.2)=some (.agg (bv (disk x.dev k)).toArray)∨(qaX (k:Int) l 0=none∧disk x.dev k=List.replicate 64 0))
  (hl':IMap w' M (qeo (x.place:Int) (.agg (bv x.b).toArray) l))(hk:∀ b,b<w.heap.size→b≠M→w'.heap[b]?=w.heap[b]?):PlD w' a most tp (setD disk x.dev x.place x.b):=by
 have Hc:=zak hM;have Hf:∀ {b v},w.heap[b]?=some v→b<w.heap.size:=fun h=>(zab.1 h).1;have hP:a.P<w.heap.size:=by
  have:=zaH w ⟨a.P,2,none⟩ h.c2;exact this
 have He:a.DV<w.heap.size:=by
  rcases h.dv.2 with⟨h0,_⟩|⟨g,_,_,e,_,hh,_⟩
  ·cases h0
  ·cases e;exact Hf hh
 refine⟨by rw[←h.c2];unfold World.cell?;rw[hk _ hP (h.mne M Hc).1.symm],qbq h.dv (hk _ He (h.mne M Hc).2.symm),h.mlen,h.mnd,h.mne,fun d N hd=>?_⟩;by_cases hdx:d=x.dev
 ·subst hdx;have Ha:N=M:=by rw[hM]at hd;exact(zaF hd).symm
  subst Ha;refine⟨_,hl',fun k=>?_⟩;have h1:=qfG (x.place:Int) (.agg (bv x.b).toArray) (k:Int) l 0;by_cases hkx:k=x.place
  ·subst hkx;left;rw[h1,zaw rfl];unfold setD;rw[zaw ⟨rfl,rfl⟩]
  ·have Hb:¬(k:Int)=(x.place:Int):=fun e=>hkx (by omega);rw[zaB Hb]at h1;unfold setD;rw[zaB (fun e=>hkx e.2)];rcases hlk k with h2|⟨h2,h3⟩
   ·left;rw[h1];exact h2
   ·right;refine⟨?_,h3⟩;rw[h2]at h1;cases hf:qaX (k:Int) (qeo (x.place:Int) (Value.agg (bv x.b).toArray) l) 0 with
    | none=>rfl
    | some r=>rw[hf]at h1;cases h1
 ·obtain⟨l2,i1,i2⟩:=h.maps d N hd;have Ha:N≠M:=by
   intro e;subst e;have e1:=(zae.1 hd);have e2:=(zae.1 hM);exact hdx (qkn h.mnd hd hM)
  refine⟨l2,i1.of_heap (hk N i1.lt Ha),fun k=>?_⟩;unfold setD;rw[zaB (fun e=>hdx e.1)];exact i2 k
def MB (a:PA)(b:Nat):Prop:=b∈a.maps++a.tmaps
def fset (disk:qa9)(d:Nat)(x:Wt):qa9:=if x.dev=d then setD disk x.dev x.place x.b else disk
theorem qag (h:Touch F w w'){b:Nat}(hl:b<w.heap.size)(hn:¬F b):w'.cell? ⟨b,i,none⟩=w.cell? ⟨b,i,none⟩:=by
 unfold World.cell?;rw[h.block b hl hn]
theorem qc7 {P:Program}{ops:Array Oper}{rest:List Oper}{o:Oper}{a:Act}{Q:Exit→Act→World→Prop}(hgd:o.guard=none)(t:TypeId)(m k v:Operand)(ho:o.op=.mapUpdate t m k v)
  (mv kv vv:Value)(hm:a.eval m=mv)(hk:a.eval k=kv)(hv:a.eval v=vv)(hr:(Instr.mapUpdate t mv kv vv).run P w=.ok () w')
  (h:wpList P ops Q rest (a.put o.dst undef) w'):wpList P ops Q (o::rest) a w:=by
 refine zcs hgd fun K hK=>?_;unfold Oper.wp execOp;simp only[ho,hm,hk,hv,zbF,hr,zbh,zb2];exact hK _ _ h
theorem qdm {disk:qa9}(h:PlD w a most tp disk)(hd:most[x.dev]?=some m)(hx:x.b.length=64) :
  Calls Tryz.prog 28 #[.pointer (some ⟨a.P,0,none⟩),.agg (wv x).toArray] w fun e w'=>e=.returned (.tuple #[])∧PlD w' a most tp (setD disk x.dev x.place x.b)∧Touch (MB a) w w':=by
 obtain⟨M,hM,c0,cM⟩:=h.dev_at hd;have Hm:=(zae.1 hd).1;obtain⟨l,hl1,hl2⟩:=h.maps x.dev M hM;have c2:=h.c2;have H:=zH h;have Hc:=zH hl1;have Hf:=zH hl2;have d0:(0:Int)≤(x.dev:Int):=by omega
 obtain⟨n,hn⟩:∃ n,most.length+tp.length=n:=⟨_,rfl⟩;rw[hn]at c2;have d1:(x.dev:Int)<(n:Int):=by omega
 have d2:x.dev<n:=by omega
 clear h hl1 hl2 hn;have hP:a.P<w.heap.size:=zaH w ⟨a.P,2,none⟩ c2;have He:a.DV<w.heap.size:=zaH w ⟨a.DV,x.dev*5,none⟩ c0;have Hl:a.P≠w.heap.size:=by omega
 have Hk:a.DV≠w.heap.size:=by omega
 have e0:(w.alloc (.cells (wv x).toArray 81)).cell? ⟨w.heap.size,0,none⟩=some (.int .i64 (x.dev:Int)):=by
  rw[zan _ _ 0 _ _ _ (zaf w _)];rfl
 have e1:(w.alloc (.cells (wv x).toArray 81)).cell? ⟨w.heap.size,1,none⟩=some (.int .i64 (x.place:Int)):=by
  rw[zan _ _ 1 _ _ _ (zaf w _)];rfl
 have Hj:=zH (show ∀ n,((w.alloc (.cells (wv x).toArray 81)).drewN n).rangeAt w.heap.size 2 (bv x.b)from fun n i v hv=>by
  have:((w.alloc (.cells (wv x).toArray 81)).drewN n).cell? ⟨w.heap.size,2+i,none⟩=(w.alloc (.cells (wv x).toArray 81)).cell? ⟨w.heap.size,2+i,none⟩:=rfl;rw[this,zan _ _ (2+i) _ _ _ (zaf w _),zbC];unfold wv;rw[zau (by simp)];simpa using hv)
 have Hg:=zH (show M<w.heap.size from Hc.o.lt);go_enter Tryz.func28,Tryz.ntmps28
 go_wp2
 go_quiet (fail)
 go_wp2;rename Nat=>nq;obtain⟨W,hW⟩:∃ W,((w.alloc (.cells (wv x).toArray 81)).drewN nq).drew=W:=⟨_,rfl⟩;have Ha:Below w.heap.size w W:=by rw[←hW];exact(((zB _ _)).trans ⟨rfl,rfl,rfl,zac _,fun _ _=>rfl⟩)
 have Hb:=zH Ha;have q0:W.cell? ⟨w.heap.size,1,none⟩=some (.int .i64 (x.place:Int)):=by rw[←hW];exact e1
 have q1:W.cell? ⟨a.DV,x.dev*5+2,none⟩=some (.map (some M)):=(Ha.cell (p:=⟨a.DV,x.dev*5+2,none⟩) He).trans cM;have q2:W.cell? ⟨a.DV,x.dev*5,none⟩=some (.bool false):=(Ha.cell (p:=⟨a.DV,x.dev*5,none⟩) He).trans c0;have Hi:=zH (show W.rangeAt w.heap.size 2 (bv x.b)by rw[←hW];exact Hj.o nq);obtain⟨o,hr,hm⟩:=qio (P:=Tryz.prog) Tryz.underlying82 Tryz.underlying3 (w:=W) (Hc.o.of_heap (Ha.block M Hg.o)) (x.place:Int) (.agg (bv x.b).toArray);have HR:=zH hr;have Hh:=zH hm;clear hr hm Ha e0 e1;refine wp_region_still_tail 8 (by kernel_rfl) (by kernel_rfl) ?_;simp only[World.drew_eq,zbn,zb8,zbQ,List.drop_zero];rw[hW];have HW:=zH hW;clear hW
 iterate 7 still_step
 refine qes rfl 79 (.tmp 18) rfl w.heap.size 2 rfl (bv x.b) _ Hi.o Tryz.underlying79 rfl (by rw[bv_len,hx];exact qb5) (some 19) rfl ?_;refine wpStill_nil ?_;simp only[Act.put,zcl,List.set_cons_zero,List.set_cons_succ];refine qc7 rfl 82 (.tmp 15) (.tmp 17) (.tmp 19) rfl _ _ _ rfl rfl rfl HR.o ?_;have r2:(qcP W M o).cell? ⟨a.DV,x.dev*5,none⟩=some (.bool false):=by
  rw[←q2];unfold World.cell?;rw[(qcQ W M o).block a.DV (zam He Hb.o.size) (fun e=>(H.o.mne M (zak hM)).2 (by cases e;rfl))]
 go_wp2;go_returns;have hT:Touch (MB a) w (qcP W M o):=(Touch.of_below Hb.o).trans (Touch.of_grown (qcQ W M o) (fun k e=>by cases e;exact zak hM));refine⟨rfl,H.o.settle hM Hc.o Hf.o Hh.o (fun b hb hne=>?_),hT⟩;exact((qcQ W M o).block b (zam hb Hb.o.size) (fun e=>hne (by cases e;rfl))).trans (Hb.o.block b hb)
theorem qgk (w:World)(x:Wt):(w.alloc (.cells (wv x).toArray 81)).rangeAt w.heap.size 0 (wv x):=fun j v hv=>by
 rw[zaO,zan _ _ j _ _ _ (zaf w _)];simpa using hv
theorem qbB {disk:qa9}(h:PlD w a most tp disk)(hb:Below w.heap.size w w'):PlD w' a most tp disk:=by
 have hP:a.P<w.heap.size:=zaH w ⟨a.P,2,none⟩ h.c2;have Ha:a.DV<w.heap.size:=by
  rcases h.dv.2 with⟨h0,_⟩|⟨g,_,_,e,_,hh,_⟩
  ·cases h0
  ·cases e;exact(zab.1 hh).1
 refine h.keep fun b hbb=>hb.block b ?_;rcases hbb with rfl|rfl|hbb
 ·exact hP
 ·exact Ha
 ·obtain⟨i,hi⟩:=zcw hbb;obtain⟨l,hl,_⟩:=h.maps i b hi;exact hl.lt
theorem qeP {disk:qa9}(h:PlD w a most tp disk)(hd:most[x.dev]?=some m)(hx:x.b.length=64)
  (c3:w.cell? ⟨B3,0,none⟩=some (.int .i64 (d:Int)))(cp:w.cell? ⟨B2,0,none⟩=some (.pointer (some ⟨a.P,0,none⟩)))(h3:B3∉a.maps++a.tmaps)(h2:B2∉a.maps++a.tmaps) :
  Calls Tryz.prog 84 #[.agg (wv x).toArray,.pointer (some ⟨B3,0,none⟩),.pointer (some ⟨B2,0,none⟩)] w fun e w'=>
   e=.returned (.bool (decide (x.dev=d)))∧PlD w' a most tp (fset disk d x)∧Touch (MB a) w w':=by
 have l3:B3<w.heap.size:=zaH w _ c3;have l2:B2<w.heap.size:=zaH w _ cp;have n3:B3≠w.heap.size:=by omega
 have n2:B2≠w.heap.size:=by omega
 have e0:(w.alloc (.cells (wv x).toArray 81)).cell? ⟨w.heap.size,0,none⟩=some (.int .i64 (x.dev:Int)):=by
  rw[zan _ _ 0 _ _ _ (zaf w _)];rfl
 have He:=zH (qgk w x);have Hb:Below w.heap.size w (w.alloc (.cells (wv x).toArray 81)):=zB _ _;have HD:=zH (qbB h Hb);have HS:=zH (qdm HD.o hd hx);have Hg:=zH Hb;clear Hb;have H3:=zH (show ¬MB a B3 from h3);have Hc:=zH (show ¬MB a w.heap.size from fun e=>by
  obtain⟨i,hi⟩:=zcw e;obtain⟨l,hl,_⟩:=h.maps i _ hi;exact zb9 _ hl.lt)
 have Hf:(w.alloc (.cells (wv x).toArray 81)).cell? ⟨B3,0,none⟩=some (.int .i64 (d:Int)):=by rw[World.cell?_alloc_some _ _ _ (by rw[c3];rfl)];exact c3
 clear h3 h2;by_cases hdd:x.dev=d
 ·have t1:((x.dev:Int)==(d:Int))=true:=by rw[hdd];exact beq_self_eq_true _
  have Ha:=zH hdd;clear h hdd;go_enter Tryz.func84,Tryz.ntmps84
  go_wp2_with (first
   | ((with_reducible show wpList _ _ _ (⟨some 10,_,_,_,_,_⟩::_) _ _);(refine wpList_load_mid rfl 81 (.tmp 3) rfl w.heap.size 0 rfl (wv x) _ He.o Tryz.underlying81 rfl (by rw[qar _ hx];exact qak qaF) ?_))
   | (go_at_call 28;refine HS.o.mono ?_;rintro e w2 ⟨rfl,hD2,hT2⟩;have f0:w2.cell? ⟨w.heap.size,0,none⟩=some (.int .i64 (x.dev:Int)):=(qag hT2 (by simp) Hc.o).trans e0;have f3:w2.cell? ⟨B3,0,none⟩=some (.int .i64 (d:Int)):=(qag hT2 (by simp;omega) H3.o).trans Hf))
  go_ret;refine⟨by rw[zas Ha.o];rfl,?_,((Touch.refl _ w).alloc _).trans hT2⟩;unfold fset;rw[zaw Ha.o];exact hD2
 ·have t1:((x.dev:Int)==(d:Int))=false:=by rw[zaI];omega
  have Ha:=zH hdd;clear h hdd;go_enter Tryz.func84,Tryz.ntmps84
  go_wp2;go_ret;refine⟨by rw[zal Ha.o];rfl,?_,(Touch.refl _ w).alloc _⟩;unfold fset;rw[zaB Ha.o];exact HD.o
structure WRow (w:World) (A:Option Addr) (ws:List Wt):Prop where
 len:ws.length≤9223372036854775807
 ok:∀ x∈ws,x.b.length=64
 at_:0<ws.length→∃ g,A=some ⟨g,0,none⟩∧g<w.heap.size∧∀ j x,ws[j]?=some x→w.rangeAt g (j*66) (wv x)
def qg6 (B3 B2:Nat):Value:=.func (.func 84) #[] #[.pointer (some ⟨B3,0,none⟩),.pointer (some ⟨B2,0,none⟩)]
structure FlB (w:World) (a:PA) (B3 B2 d:Nat):Prop where
 c3:w.cell? ⟨B3,0,none⟩=some (.int .i64 (d:Int))
 c2:w.cell? ⟨B2,0,none⟩=some (.pointer (some ⟨a.P,0,none⟩))
 h3:¬MB a B3
 h2:¬MB a B2
theorem FlB.touch (h:FlB w a B3 B2 d)(ht:Touch F w w')(h3:¬F B3)(h2:¬F B2):FlB w' a B3 B2 d:=
 ⟨(qag ht (zaH w _ h.c3) h3).trans h.c3,(qag ht (zaH w _ h.c2) h2).trans h.c2,h.h3,h.h2⟩
def IdxF (a:PA)(most:List Nat)(tp:List Tp)(disk:qa9)(d:Nat)(ws:List Wt)(w:World)(e:Ending)(w':World):Prop:=
 Touch (MB a) w w'∧((e=.returned (.int .i64 (-1))∧(∀ x∈ws,x.dev≠d)∧PlD w' a most tp disk)∨
  ∃ k x,e=.returned (.int .i64 (k:Nat))∧ws[k]?=some x∧x.dev=d∧(∀ y∈ws.take k,y.dev≠d)∧PlD w' a most tp (setD disk x.dev x.place x.b))
theorem qh9 {disk:qa9}(h:PlD w a most tp disk){A:Option Addr}{cap:Nat}(hw:WRow w A ws)(hn:ws.length=n)(hd:∀ x∈ws,∃ m,most[x.dev]?=some m)
 (hB:FlB w a B3 B2 d)(hgM:∀ ad,A=some ad→¬MB a ad.block) :
  Calls Tryz.prog 105 #[.slice A n cap,qg6 B3 B2] w (IdxF a most tp disk d ws w):=by
 have Ho:n≤9223372036854775807:=by rw[←hn];exact hw.len
 have HN:=zH hn;have HW:=zH hw;have HH:=zH h;have HD:=zH hd;have He:=zH hB;have HG:=zH hgM;clear hn hw h hd hB hgM;unfold qg6;go_enter Tryz.func105,Tryz.ntmps105
 go_wp2;go_loopw [8] (fun i wr=>∃ j:Nat,i=.int .i64 j∧j≤n∧Touch (MB a) w wr∧PlD wr a most tp disk∧∀ y∈ws.take j,y.dev≠d) (fun i _=>n-(intOf i).toNat)
 case atStart=>exact⟨0,rfl,by omega,Touch.refl _ _,HH.o,by simp⟩
 case round=>
  rename_i wr;obtain⟨j,rfl,hj,ht,hD,hno⟩:=hrel;have HT:=zH ht;have Hh:=zH hD;have Hf:=zH hno;clear ht hD hno;by_cases hlt:j<n
  ·obtain⟨x,hx⟩:∃ x,ws[j]?=some x:=⟨_,zaa (by rw[HN.o];exact hlt)⟩;obtain⟨g,rfl,hg,hc⟩:=HW.o.at_ (by rw[HN.o];omega);have Hm:=zak hx;have Hg:=HW.o.ok x Hm;have Hl:wr.rangeAt g (j*66) (wv x):=fun i v hv=>by
    rw[qag HT.o hg (HG.o _ rfl)];exact hc j x hx i v hv
   have Hi:=zH Hl;have Hj:=zH Hg;have HX:=zH hx;obtain⟨m,hm⟩:=HD.o x Hm;have Hb:=He.o.touch HT.o He.o.h3 He.o.h2;have HC:=zH (qeP Hh.o hm Hg Hb.c3 Hb.c2 Hb.h3 Hb.h2);have j1:(j:Int)<(n:Int):=by omega
   have j0:(0:Int)≤(j:Int):=by omega
   clear Hl hx Hg hc Hb hm;by_cases hdd:x.dev=d
   ·have Ha:=zH hdd;have Hc:=zas hdd;rw[Hc]at HC;clear hdd Hc;go_wp2_with (first
     | ((with_reducible show wpList _ _ _ (⟨some 15,_,_,_,_,_⟩::_) _ _);(refine wpList_load_mid rfl 81 (.tmp 14) rfl g (j*66) rfl (wv x) _ Hi.o Tryz.underlying81 rfl (by rw[qar _ Hj.o];exact qak qaF) ?_))
     | (go_at_call 84;refine HC.o.mono ?_;rintro e w2 ⟨rfl,hD2,hT2⟩))
    go_ret;refine⟨HT.o.trans hT2,.inr ⟨j,x,rfl,HX.o,Ha.o,Hf.o,?_⟩⟩;unfold fset at hD2;rw[zaw Ha.o]at hD2;exact hD2
   ·have Ha:=zH hdd;have Hc:=zal hdd;rw[Hc]at HC;clear hdd Hc;go_wp2_with (first
     | ((with_reducible show wpList _ _ _ (⟨some 15,_,_,_,_,_⟩::_) _ _);(refine wpList_load_mid rfl 81 (.tmp 14) rfl g (j*66) rfl (wv x) _ Hi.o Tryz.underlying81 rfl (by rw[qar _ Hj.o];exact qak qaF) ?_))
     | (go_at_call 84;refine HC.o.mono ?_;rintro e w2 ⟨rfl,hD2,hT2⟩))
    refine⟨⟨j+1,by go_num,by omega,HT.o.trans hT2,?_,?_⟩,by simp[intOf];omega⟩
    ·unfold fset at hD2;rw[zaB Ha.o]at hD2;exact hD2
    ·intro y hy;have Hk:j<ws.length:=by rw[HN.o];exact hlt
     have ex:ws[j]=x:=by have:=HX.o;rw[zaa Hk]at this;exact zaF this
     rw[zaP Hk,zar,ex]at hy;rcases hy with hy|hy
     ·exact Hf.o y hy
     ·obtain rfl:y=x:=by simpa using hy
      exact Ha.o
  ·obtain rfl:j=n:=by omega
   have Hn:=zH (show ∀ x∈ws,x.dev≠d from fun x hx=>Hf.o x (by rw[←HN.o,zby];exact hx));go_wp2;go_ret;exact⟨HT.o,.inl ⟨rfl,Hn.o,Hh.o⟩⟩
def stay (d:Nat)(ws:List Wt):List Wt:=ws.filter fun x=>x.dev≠d
def gone (disk:qa9)(d:Nat)(ws:List Wt):qa9:=lay disk (ws.filter fun x=>x.dev=d)
theorem qhe (disk:qa9)(d:Nat)(ws:List Wt)(x:Wt):gone disk d (ws++[x])=fset (gone disk d ws) d x:=by
 unfold gone fset;rw[zbu,qbp];by_cases h:x.dev=d
 ·rw[zaw h,zbr (by simpa using h)];rfl
 ·rw[zaB h,zbw (by simpa using h)];rfl
theorem qdF (d:Nat)(ws:List Wt)(x:Wt):stay d (ws++[x])=if x.dev=d then stay d ws else stay d ws++[x]:=by
 unfold stay;rw[zbu];by_cases h:x.dev=d
 ·rw[zaw h,zbw (by simpa using h),zc2,zaG]
 ·rw[zaB h,zbr (by simpa using h),zc2]
theorem qhd {disk:qa9}(h:∀ x∈ws,x.dev≠d):gone disk d ws=disk:=by
 unfold gone;rw[zcH.2 (fun x hx=>by simpa using h x hx)];rfl
theorem qgU (h:∀ x∈ws,x.dev≠d):stay d ws=ws:=List.filter_eq_self.2 (fun x hx=>by simpa using h x hx)
structure qjR (w:World) (g cap:Nat) (ws:List Wt) (d j:Nat):Prop where
 ex:∃ cs:Array Value,w.heap[g]?=some (.cells cs 81 (0,0))∧cs.size=cap*66∧cs.toList.take ((stay d (ws.take j)).length*66)=(stay d (ws.take j)).flatMap wv∧
  ∀ i x,j≤i→ws[i]?=some x→∀ q,q<66→cs[i*66+q]?=(wv x)[q]?
theorem qiq {cap k:Nat}{cs:Array Value}(hg:w.heap[g]?=some (.cells cs 81 (0,0)))(hs:cs.size=cap*66)(hn:ws.length≤cap)(ht:cs.toList.take (ws.length*66)=ws.flatMap wv)(hok:∀ x∈ws,x.b.length=64)
  (hk:∀ y∈ws.take k,y.dev≠d)(hx:ws[k]?=some x)(hd:x.dev=d):qjR w g cap ws d (k+1)∧(stay d (ws.take (k+1))).length=k:=by
 have Hb:k<ws.length:=(zae.1 hx).1;have ex:ws[k]=x:=by rw[zaa Hb]at hx;exact zaF hx
 have Hc:stay d (ws.take (k+1))=ws.take k:=by
  rw[zaP Hb,qdF,ex,zaw hd,qgU hk]
 have Ha:∀ y∈ws,(wv y).length=66:=fun y hy=>qar y (hok y hy);refine⟨⟨cs,hg,hs,?_,fun i y hi hy q hq=>?_⟩,by rw[Hc,zag];omega⟩
 ·rw[Hc,zag,zbE (by omega)];have h1:=congrArg (List.take (k*66)) ht;rw[zbY,zbE (by omega)]at h1;rw[h1]
  conv=>lhs;rw[←zav k ws,zat]
  rw[za8];rw[qb4 (fun y hy=>Ha y (zaY hy)),zag,zbE (by omega)]
 ·have He:i<ws.length:=(zae.1 hy).1;have h1:=qb8 Ha hy q hq;rw[←h1,←ht,zaV,zaw (by omega),zcM]
theorem qjB {cap:Nat}(h:qjR w g cap ws d j)(hx:ws[j]?=some x)(hok:∀ x∈ws,x.b.length=64)(hn:ws.length≤cap)(hb:w'.heap[g]?=w.heap[g]?)
  (hlt:(stay d (ws.take j)).length≤j):(x.dev=d→qjR w' g cap ws d (j+1))∧(x.dev≠d→qjR (w'.setCells g ((stay d (ws.take j)).length*66) (wv x)) g cap ws d (j+1)):=by
 obtain⟨cs,h1,h2,h3,h4⟩:=h.ex;have Hb:j<ws.length:=(zae.1 hx).1;have ex:ws[j]=x:=by rw[zaa Hb]at hx;exact zaF hx
 have Ha:(wv x).length=66:=qar x (hok x (zak hx));constructor
 ·intro hd;refine⟨cs,hb.trans h1,h2,?_,fun i y hi hy q hq=>h4 i y (by omega) hy q hq⟩;rw[zaP Hb,qdF,ex,zaw hd];exact h3
 ·intro hd;have Hc:stay d (ws.take (j+1))=stay d (ws.take j)++[x]:=by
   rw[zaP Hb,qdF,ex,zaB hd]
  generalize hp:(stay d (ws.take j)).length=p at *;have He:p*66+66≤cs.size:=by rw[h2];omega
  refine⟨_,heap_setCells (wv x) (p*66) w' cs (hb.trans h1) (by omega),?_,?_,fun i y hi hy q hq=>?_⟩
  ·simp only[zaz,zad,zag,zap,za1,Ha];omega
  ·rw[Hc,zad,zat,hp];simp only[zao,zaZ,zaq,zbU,zaG];rw[za8 (by simp only[zad,zag,za1,Ha];omega),h3]
  ·rw[zbC,zau (by simp only[zad,zag,za1,Ha];omega),zaK,zcM];have:=h4 i y (by omega) hy q hq;rw[←this];congr 1;simp only[zad,zag,za1,Ha];omega
theorem first_idx (d:Nat):∀ ws:List Wt,(∀ x∈ws,x.dev≠d)∨∃ (k:Nat) (x:Wt),ws[k]?=some x∧x.dev=d∧∀ y∈ws.take k,y.dev≠d
 | []=>.inl (by simp)
 | z::ws=>by
  by_cases hz:z.dev=d
  ·exact .inr ⟨0,z,rfl,hz,by simp⟩
  ·rcases first_idx d ws with h|⟨k,x,h1,h2,h3⟩
   ·refine .inl fun x hx=>?_;rcases za0.1 hx with rfl|hx
    ·exact hz
    ·exact h x hx
   ·refine .inr ⟨k+1,x,by simpa using h1,h2,fun y hy=>?_⟩;rw[zbn]at hy;rcases za0.1 hy with rfl|hy
    ·exact hz
    ·exact h3 y hy
def DelF (a:PA)(most:List Nat)(tp:List Tp)(disk:qa9)(d:Nat)(ws:List Wt)(vw:Value)(w:World)(e:Ending)(w':World):Prop:=
 ∃ A' cap',e=.returned (.slice A' (stay d ws).length cap')∧Row w' 0 81 66 (.slice A' (stay d ws).length cap') (stay d ws).length ((stay d ws).flatMap wv)∧(∀ b,(Value.slice A' (stay d ws).length cap').ownBlock=some b→vw.ownBlock=some b)∧
  PlD w' a most tp (gone disk d ws)∧Touch (fun b=>MB a b∨vw.ownBlock=some b) w w'
theorem qj3 {disk:qa9}(h:PlD w a most tp disk)(hrow:Row w 0 81 66 vw n (ws.flatMap wv))(hn:ws.length=n)(hok:∀ x∈ws,x.b.length=64)
  (hd:∀ x∈ws,∃ m,most[x.dev]?=some m)(hB:FlB w a B3 B2 d)(hvM:∀ b,vw.ownBlock=some b→¬MB a b∧b≠B3∧b≠B2∧b≠a.P∧b≠a.DV) :
  Calls Tryz.prog 83 #[vw,qg6 B3 B2] w (DelF a most tp disk d ws vw w):=by
 have Hw:n≤maxLen:=hrow.max;unfold maxLen at Hw;obtain⟨A,cap,rfl,hfl,hform⟩:=hrow.form;have Hv:∀ y∈ws,(wv y).length=66:=fun y hy=>qar y (hok y hy);have hw:WRow w A ws:=⟨by omega,hok,fun h0=>by
  obtain⟨g,e,_,hg,hc⟩:=hform (by omega);exact⟨g,e,hg,fun j x hx i v hv=>by
   have hi:i<66:=by rw[←Hv x (zak hx)];exact(zae.1 hv).1
   have hj:=(zae.1 hx).1;rw[hc (j*66+i) (by omega),qb8 Hv hx i hi];exact hv⟩⟩
 have HI:=zH (qh9 h hw hn hd hB (cap:=cap) (fun ad e=>by subst e;exact(hvM _ rfl).1));have HN:=zH hn;have Hi:=zH hrow;have HD:=zH hd;have Hq:=zH hB;have Ho:=zH hok;have HV:=zH hvM;have HH:=zH h;clear hw hn hrow hd hB hok hvM hform hfl Hv h;unfold qg6 at HI⊢;rcases first_idx d ws with hall|⟨k,x,hx,hxd,hk⟩
 ·have hI:Calls Tryz.prog 105 #[.slice A n cap,.func (.func 84) #[] #[.pointer (some ⟨B3,0,none⟩),.pointer (some ⟨B2,0,none⟩)]] w fun e w'=>e=.returned (.int .i64 (-1))∧PlD w' a most tp disk∧Touch (MB a) w w':=HI.o.mono fun e w' ⟨ht,hc⟩=>by
   rcases hc with⟨e1,_,h2⟩|⟨k,x,_,hx,hxd,_⟩
   ·exact⟨e1,h2,ht⟩
   ·exact absurd hxd (hall x (zak hx))
  have Hg:=zH hI;have Hf:=zH hall;clear hI hall HI;go_enter Tryz.func83,Tryz.ntmps83
  go_wp2_with (go_at_call 105;refine Hg.o.mono ?_;rintro e w1 ⟨rfl,hD1,hT1⟩)
  go_ret;have e1:(stay d ws).length=n:=by rw[qgU Hf.o];exact HN.o
  unfold DelF;rw[qhd Hf.o,e1,qgU Hf.o];refine⟨A,cap,rfl,Hi.o.keep fun b hb hl=>hT1.block b hl (HV.o b hb).1,fun b e=>e,hD1,hT1.mono fun b _ hb=>.inl hb⟩
 ·have hI:Calls Tryz.prog 105 #[.slice A n cap,.func (.func 84) #[] #[.pointer (some ⟨B3,0,none⟩),.pointer (some ⟨B2,0,none⟩)]] w fun e w'=>e=.returned (.int .i64 (k:Nat))∧PlD w' a most tp (gone disk d (ws.take (k+1)))∧Touch (MB a) w w':=HI.o.mono fun e w' ⟨ht,hc⟩=>by
   have HL:=(zae.1 hx).1;have ex:ws[k]=x:=by rw[zaa HL]at hx;exact zaF hx
   rcases hc with⟨e1,hall,_⟩|⟨k2,x2,e1,hx2,hxd2,hk2,h2⟩
   ·exact absurd hxd (hall x (zak hx))
   ·have H3:k2=k:=by
     rcases Nat.lt_trichotomy k2 k with hlt|he|hlt
     ·exact absurd hxd2 (hk x2 (zak (i:=k2) (by rw[zaV,zaw hlt];exact hx2)))
     ·exact he
     ·exact absurd hxd (hk2 x (zak (i:=k) (by rw[zaV,zaw hlt];exact hx)))
    subst H3;rw[hx]at hx2;cases hx2;refine⟨e1,?_,ht⟩;rw[zaP HL,qhe,qhd hk2,ex];unfold fset;rw[zaw hxd];exact h2
  have Hg:=zH hI;have H5:k<n:=by rw[←HN.o];exact(zae.1 hx).1
  have Hk:n≤cap∧∃ g cs,A=some ⟨g,0,none⟩∧w.heap[g]?=some (.cells cs 81 (0,0))∧cs.size=cap*66∧cs.toList.take (n*66)=ws.flatMap wv∧cap≤maxLen:=by
   rcases Hi.o with ho|⟨_,_,h0,_⟩
   ·rcases ho.2 with⟨_,h0⟩|⟨g,cap',cs,e,_,hh,h1,h2,h3,h4⟩
    ·omega
    ·cases e;exact⟨h1,g,cs,rfl,hh,h3,h4,h2⟩
   ·omega
  obtain⟨hnc,g,cs,rfl,hcs,hcsz,hct,hcm⟩:=Hk;unfold maxLen at hcm;have HR:=qiq hcs hcsz (by rw[HN.o];exact hnc) (by rw[HN.o];exact hct) Ho.o hk hx hxd;have Ht:=zH HR;have Ha:=zH (HV.o g rfl);clear HR hcs hcsz hct hI HI hk hx hxd;have Hm:g<w.heap.size:=by
   obtain⟨cs,h1,_⟩:=Ht.o.1.ex;exact(zab.1 h1).1
  have t0:((k:Int)==-1)=false:=by rw[zaI];omega
  go_enter Tryz.func83,Tryz.ntmps83
  go_wp2_with (go_at_call 105;refine Hg.o.mono ?_;rintro e w1 ⟨rfl,hD1,hT1⟩)
  go_loopw [5,6,7] (fun t5 t6 _ wr=>∃ j:Nat,t6=.int .i64 j∧j≤n∧t5=.int .i64 ((stay d (ws.take j)).length:Nat)∧qjR wr g cap ws d j∧PlD wr a most tp (gone disk d (ws.take j))∧Touch (fun b=>MB a b∨b=g) w wr) (fun _ t6 _ _=>n-(intOf t6).toNat)
  case atStart=>
   refine⟨k+1,by go_num,by omega,by rw[Ht.o.2],?_,hD1,hT1.mono fun b _ hb=>.inl hb⟩;obtain⟨cs,h1,h2⟩:=Ht.o.1.ex;exact⟨cs,(hT1.block g Hm Ha.o.1).trans h1,h2⟩
  case round=>
   rename_i wr;obtain⟨j,rfl,hj,rfl,hsh,hD,hT⟩:=hrel;have HT:=zH hT;have Hr:=zH hD;have Hs:=zH hsh;have HO:(stay d (ws.take j)).length≤j:=by
    unfold stay;exact zah (zbJ _ _) (by rw[zag];omega)
   obtain⟨p,hp⟩:∃ p,(stay d (ws.take j)).length=p:=⟨_,rfl⟩;have HP:=zH hp;rw[hp]at HO⊢;have HG:g<wr.heap.size:=zam Hm hT.size;have H4:g≠wr.heap.size:=by omega
   clear hT hD hsh hp;by_cases hlt:j<n
   ·obtain⟨x,hx⟩:∃ x,ws[j]?=some x:=⟨_,zaa (by rw[HN.o];exact hlt)⟩;have HU:=zak hx;have Hp:=Ho.o x HU;obtain⟨cs,i1,i2,i3,i4⟩:=Hs.o.ex;have HQ:wr.rangeAt g (j*66) (wv x):=fun i v hv=>by
     have hi:i<66:=by rw[←qar x Hp];exact(zae.1 hv).1
     rw[zan wr g _ _ _ _ i1,i4 j x (zac _) hx i hi];exact hv
    have HE:=zH HQ;have Hb:=zH Hp;have HX:=zH hx;obtain⟨m,hm⟩:=HD.o x HU;have HF:Below wr.heap.size wr (wr.alloc (.cells (wv x).toArray 81)):=zB _ _;have Hj:=(Hq.o.touch HT.o (fun e=>e.elim Hq.o.h3 (fun e=>Ha.o.2.1 e.symm)) (fun e=>e.elim Hq.o.h2 (fun e=>Ha.o.2.2.1 e.symm))).touch (F:=fun _=>False) (Touch.of_below HF) (fun e=>e) (fun e=>e);have HC:=zH (qeP (qbB Hr.o HF) hm Hp Hj.c3 Hj.c2 Hj.h3 Hj.h2);have H0:=zH (show ¬MB a wr.heap.size from fun e=>by
     obtain⟨i,hi⟩:=zcw e;obtain⟨l,hl,_⟩:=Hr.o.maps i _ hi;exact zb9 _ hl.lt)
    have HS:p*66+66≤cs.size:=by rw[i2];omega
    have Hy:=zH (show wr.heap[g]?=some (.cells cs 81 (0,0))∧p*66+66≤cs.size from⟨i1,HS⟩);have He:=zH (fun(w':World) (hb:w'.heap[g]?=wr.heap[g]?)=>qjB (w':=w') Hs.o hx Ho.o (by rw[HN.o];exact hnc) hb (by rw[HP.o];exact HO));have Hn:=zH (show gone disk d (ws.take (j+1))=fset (gone disk d (ws.take j)) d x∧stay d (ws.take (j+1))=(if x.dev=d then stay d (ws.take j)else stay d (ws.take j)++[x])by
     have HJ:j<ws.length:=by rw[HN.o];exact hlt
     have ex:ws[j]=x:=by rw[zaa HJ]at hx;exact zaF hx
     rw[zaP HJ,qhe,qdF,ex];exact⟨rfl,rfl⟩)
    have j1:(j:Int)<(n:Int):=by omega
    have j0:(0:Int)≤(j:Int):=by omega
    have p1:(p:Int)<(n:Int):=by omega
    have p0:(0:Int)≤(p:Int):=by omega
    have pn:p<n:=by omega
    clear HQ hx Hp Hj hm i1 i2 i3 i4 HS;by_cases hdd:x.dev=d
    ·have Hh:=zH hdd;have Hl:=zas hdd;rw[Hl]at HC;clear hdd Hl;go_wp2_with (first
      | ((with_reducible show wpList _ _ _ (⟨some 25,_,_,_,_,_⟩::_) _ _);(refine wpList_load_mid rfl 81 (.tmp 24) rfl g (j*66) rfl (wv x) _ HE.o Tryz.underlying81 rfl (by rw[qar _ Hb.o];exact qak qaF) ?_))
      | ((with_reducible show wpList _ _ _ (⟨none,.store 81 (.tmp 7) _,_,_,_,_⟩::_) _ _);(refine qav (w1:=wr) rfl 81 (.tmp 7) (.tmp 25) rfl _ _ rfl rfl (wv x) rfl (by rw[qar _ Hb.o];exact qak qaF) (by rw[qar _ Hb.o];kernel_rfl) (qcX _) ?_))
      | ((with_reducible show wpList _ _ _ (⟨some 27,_,_,_,_,_⟩::_) _ _);(refine wpList_load_mid rfl 81 (.tmp 7) rfl wr.heap.size 0 rfl (wv x) _ (qgk wr x) Tryz.underlying81 rfl (by rw[qar _ Hb.o];exact qak qaF) ?_))
      | (go_at_call 84;refine HC.o.mono ?_;rintro e w2 ⟨rfl,hD2,hT2⟩))
     refine⟨⟨j+1,by go_num,by omega,?_,?_,?_,?_⟩,by simp[intOf];omega⟩
     ·rw[Hn.o.2,zaw Hh.o,HP.o]
     ·exact(He.o w2 ((hT2.block g (by simp;omega) Ha.o.1).trans (za9 wr _ _ HG))).1 Hh.o
     ·rw[Hn.o.1];exact hD2
     ·exact HT.o.trans (((Touch.refl _ wr).alloc _).trans (hT2.mono fun b _ hb=>.inl hb))
    ·have Hh:=zH hdd;have Hl:=zal hdd;rw[Hl]at HC;clear hdd Hl;go_wp2_with (first
      | ((with_reducible show wpList _ _ _ (⟨some 25,_,_,_,_,_⟩::_) _ _);(refine wpList_load_mid rfl 81 (.tmp 24) rfl g (j*66) rfl (wv x) _ HE.o Tryz.underlying81 rfl (by rw[qar _ Hb.o];exact qak qaF) ?_))
      | ((with_reducible show wpList _ _ _ (⟨none,.store 81 (.tmp 7) _,_,_,_,_⟩::_) _ _);(refine qav (w1:=wr) rfl 81 (.tmp 7) (.tmp 25) rfl _ _ rfl rfl (wv x) rfl (by rw[qar _ Hb.o];exact qak qaF) (by rw[qar _ Hb.o];kernel_rfl) (qcX _) ?_))
      | ((with_reducible show wpList _ _ _ (⟨some 27,_,_,_,_,_⟩::_) _ _);(refine wpList_load_mid rfl 81 (.tmp 7) rfl wr.heap.size 0 rfl (wv x) _ (qgk wr x) Tryz.underlying81 rfl (by rw[qar _ Hb.o];exact qak qaF) ?_))
      | (go_at_call 84;refine HC.o.mono ?_;rintro e w2 ⟨rfl,hD2,hT2⟩;have Hz:=zH hD2;have Hu:=zH hT2;clear hD2 hT2;have HA:=zH (show w2.heap[g]?=wr.heap[g]? from(Hu.o.block g (by simp;omega) Ha.o.1).trans (za9 wr _ _ HG)))
      | ((with_reducible show wpList _ _ _ (⟨some 32,_,_,_,_,_⟩::_) _ _);(refine wpList_load_mid rfl 81 (.tmp 7) rfl wr.heap.size 0 rfl (wv x) _ (fun i v hv=>(qag Hu.o (by simp) H0.o).trans (qgk wr x i v hv)) Tryz.underlying81 rfl (by rw[qar _ Hb.o];exact qak qaF) ?_))
      | ((with_reducible show wpList _ _ _ (⟨none,.store 81 (.tmp 33) _,_,_,_,_⟩::_) _ _);(refine wpList_store_mid rfl 81 (.tmp 33) (.tmp 32) rfl g (p*66) (wv x).toArray rfl rfl (there_of_block (HA.o.trans Hy.o.1) (p*66) (by simp only[zaz];rw[qar _ Hb.o];exact Hy.o.2)) (by simp only[zaz];rw[qar _ Hb.o];exact qak qaF) (all_oneCell_toArray (qcX _)) ?_)))
     refine⟨⟨j+1,by go_num,by omega,?_,?_,?_,?_⟩,by simp[intOf];omega⟩
     ·rw[Hn.o.2,zaB Hh.o,zad,HP.o];go_num
     ·have:=(He.o w2 HA.o).2 Hh.o;rw[HP.o]at this;exact this
     ·rw[Hn.o.1];refine Hz.o.keep fun b hb=>?_;refine World.heap_setCells_other w2 g (p*66) _ ?_ ?_
      ·have Hc:=Hz.o;rcases hb with rfl|rfl|hb
       ·exact zaH w2 ⟨a.P,2,none⟩ Hc.c2
       ·rcases Hc.dv.2 with⟨h0,_⟩|⟨g',_,_,e,_,hh,_⟩
        ·cases h0
        ·cases e;exact(zab.1 hh).1
       ·obtain⟨i,hi⟩:=zcw hb;obtain⟨l,hl,_⟩:=Hc.maps i b hi;exact hl.lt
      ·rcases hb with rfl|rfl|hb
       ·exact Ha.o.2.2.2.1.symm
       ·exact Ha.o.2.2.2.2.symm
       ·exact fun e=>Ha.o.1 (e▸hb)
     ·exact(HT.o.trans (((Touch.refl _ wr).alloc _).trans (Hu.o.mono fun b _ hb=>.inl hb))).trans (qau (F:=fun b=>MB a b∨b=g) (.inr rfl) _ _)
   ·obtain rfl:j=n:=by omega
    obtain⟨i0,hi0,hz0,hz1,hz2⟩:=zaT qaF;obtain⟨A',hA',hsl⟩:=qcx (P:=Tryz.prog) Tryz.underlying69 hi0 hz1 g 0 j cap p (by omega) (by omega);obtain⟨cs,i1,i2,i3,i4⟩:=Hs.o.ex;have HY:=zH i1;have Hg:=zH i2;have HZ:=zH i3;have HW:=zH hA';have p0:(0:Int)≤(p:Int):=by omega
    have p1:(p:Int)≤(j:Int):=by omega
    have p2:(p:Int)≤(cap:Int):=by omega
    have H1:=zH (show(Value.agg Tryz.zeroCells81).cells.size=66 by kernel_rfl);clear i1 i2 i3 i4 hA';go_wp2_with ((with_reducible show wpList _ _ _ (⟨none,.call _,_,_,_,_⟩::_) _ _);(refine qa8 rfl (.tmp 38) 69 rfl Tryz.underlying69 (fun _=>by kernel_rfl) (z:=.agg Tryz.zeroCells81) (by kernel_rfl) A' (j-p) (cap-p) rfl g (p*66) cs 81 HY.o (fun h0=>⟨by rw[HW.o (by omega),zaO],by rw[H1.o,Hg.o];omega⟩) ?_;intro w5 cs5 k1 k2 k3 k4))
    have HK:=zH (And.intro k1 (And.intro k2 k3));have HB:=zH k4;clear k1 k2 k3 k4;go_ret;have Hx:ws.take j=ws:=by rw[←HN.o,zby]
    have HM:(stay d ws).length=p:=by rw[←Hx];exact HP.o
    have H2:cs.toList.take (p*66)=(stay d ws).flatMap wv:=by
     have:=HZ.o;rw[HP.o,Hx]at this;exact this
    unfold DelF;rw[HM];refine⟨some ⟨g,0,none⟩,cap,rfl,.inl ⟨?_,.inr ⟨g,cap,cs5,rfl,za7 _,HK.o.1,by omega,by unfold maxLen;omega,by rw[HK.o.2.1,Hg.o],by rw[HK.o.2.2,H2]⟩⟩,fun b e=>e,?_,?_⟩
    ·rw[←HM];exact qb4 fun y hy=>qar y (Ho.o y (zbH.1 hy).1)
    ·have Hc:=Hr.o;rw[Hx]at Hc;refine Hc.keep fun b hb=>HB.o.block b ?_ ?_
     ·rcases hb with rfl|rfl|hb
      ·exact zaH wr ⟨a.P,2,none⟩ Hc.c2
      ·rcases Hc.dv.2 with⟨h0,_⟩|⟨g',_,_,e,_,hh,_⟩
       ·cases h0
       ·cases e;exact(zab.1 hh).1
      ·obtain⟨i,hi⟩:=zcw hb;obtain⟨l,hl,_⟩:=Hc.maps i b hi;exact hl.lt
     ·rcases hb with rfl|rfl|hb
      ·exact Ha.o.2.2.2.1.symm
      ·exact Ha.o.2.2.2.2.symm
      ·exact fun e=>Ha.o.1 (e▸hb)
    ·refine(HT.o.mono fun b _ hb=>?_).trans (HB.o.mono fun b _ hb=>?_)
     ·rcases hb with hb|hb
      ·exact .inl hb
      ·exact .inr (by rw[hb];rfl)
     ·exact .inr (by rw[hb];rfl)
end Go.Proofs.YtpmebcgmgfcmiaaGreatDoor
