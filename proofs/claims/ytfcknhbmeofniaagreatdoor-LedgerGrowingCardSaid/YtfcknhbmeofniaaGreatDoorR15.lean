/- Texts TrB TrC. -/
import Derived.Test.YtfcknhbmeofniaaGreatDoorR14
set_option linter.all false
set_option maxRecDepth 100000
set_option maxHeartbeats 16000000
namespace Go.Proofs.YtfcknhbmeofniaaGreatDoor
open Go.RowKit BT
namespace BT
def H32 (l:List Bs):Prop:=∀ h∈l,h.length=32
theorem H32.flat:∀ {l:List Bs},H32 l→l.flatten.length=l.length*32
 | [],_=>rfl
 | x::l,h=>by
  rw[List.flatten_cons,zaf,H32.flat (fun y hy=>h y (by simp[hy])),h x (by simp),zal];omega
theorem H32.at_:∀ {l:List Bs} {k:Nat} {x:Bs},H32 l→l[k]?=some x→(l.flatten.drop (k*32)).take 32=x
 | [],_,_,_,h=>by simp at h
 | y::l,0,x,h,hk=>by
  simp at hk;subst hk;have:=h y (by simp);simp[this]
 | y::l,k+1,x,h,hk=>by
  have hy:=h y (by simp);have:=H32.at_ (fun z hz=>h z (by simp[hz])) (show l[k]?=some x by simpa using hk);rw[List.flatten_cons,List.drop_append,za0 (by omega),zaI,hy,show(k+1)*32-32=k*32 by omega,this]
theorem H32.take {l:List Bs}(h:H32 l)(k:Nat):H32 (l.take k):=fun x hx=>h x (zbb hx)
theorem H32.drop {l:List Bs}(h:H32 l)(k:Nat):H32 (l.drop k):=fun x hx=>h x (zbm hx)
theorem H32.snoc {l:List Bs}{x:Bs}(h:H32 l)(hx:x.length=32):H32 (l++[x]):=fun y hy=>by
 rcases zar.1 hy with h1|h1
 ·exact h y h1
 ·simp at h1;rw[h1];exact hx
def mtH (l:List Bs):Bs:=mth empH nodeH l
def prH (l:List Bs):List Bs:=qcn empH nodeH l
theorem qcm (b:Bs):(qce b).length=32:=qbB _
theorem qdt (l r:Bs):(nodeH l r).length=32:=qbB _
theorem qcD {l:List Bs}(h:H32 l):(mtH l).length=32:=by
 unfold mtH
 match l,h with
 | [],_=>rw[mth];exact qbB _
 | [x],h=>rw[qhY];exact h x (by simp)
 | x::y::t,_=>rw[mth];exact qdt _ _
theorem qio (n:Nat):∀ (j:Nat) (l:List Bs),H32 l→H32 (digs empH nodeH j n l):=by
 induction n using Nat.strongRecOn with
 | ind n ih=>
  intro j l h;by_cases h0:n=0
  ·subst h0;rw[qcb];intro x hx;cases hx
  rcases Nat.mod_two_eq_zero_or_one n with e|e
  ·rw[qca _ _ e];exact ih (n / 2) (by omega) _ _ h
  ·rw[qck _ _ e];intro x hx;rcases zaB.1 hx with h1|h1
   ·rw[h1];exact qcD (h.drop _)
   ·exact ih (n / 2) (by omega) _ _ (h.take _) x h1
theorem qf7 (n:Nat):∀ (j:Nat) (l:List Bs),(digs empH nodeH j n l).length≤n:=by
 induction n using Nat.strongRecOn with
 | ind n ih=>
  intro j l;by_cases h0:n=0
  ·subst h0;rw[qcb];simp
  rcases Nat.mod_two_eq_zero_or_one n with e|e
  ·rw[qca _ _ e];have:=ih (n / 2) (by omega) (j+1) l;omega
  ·rw[qck _ _ e,zal];have:=ih (n / 2) (by omega) (j+1) (l.take ((n-1)*2 ^ j));omega
theorem qgO (l:List Bs)(x:Bs):(x::l).reverse.flatten=l.reverse.flatten++x:=by simp
end BT
theorem By.range {w:World}{b off:Nat}{L:Bs}(h:By w (some ⟨b,off,none⟩) L)(k m:Nat):w.rangeAt b (off+k) (bv ((L.drop k).take m)):=fun j v hv=>by
 unfold bv at hv;rw[zaD]at hv;obtain⟨c,hc,rfl⟩:∃ c,((L.drop k).take m)[j]?=some c∧Value.int .u8 (c.toNat:Int)=v:=by
  cases h1:((L.drop k).take m)[j]? with
  | none=>rw[h1]at hv;cases hv
  | some c=>rw[h1]at hv;exact⟨c,rfl,by simpa using hv⟩
 have Ha:j<m:=by
  have:=(zac.1 hc).1;simp at this;omega
 rw[zaR,zax Ha,zaJ]at hc;obtain⟨b',off',e,_,h2⟩:=h.at_ (by have:=(zac.1 hc).1;omega);cases e;rw[zcD];exact h2 _ c hc
theorem Own.byF {w:World}{B n c size:Nat}{e:TypeId}{A:Option Addr}{L:Bs}(h:Own w B e size (.slice A n c) n (bv L)):By w A L:=
 ⟨fun h0=>by
  obtain⟨A',c',e1,hl,hf⟩:=h.row.form;cases e1;rw[bv_len]at hl;have hn:0<n:=Nat.pos_of_ne_zero fun h1=>by rw[h1]at hl;omega
  obtain⟨g,rfl,_,hg,hc⟩:=hf hn;refine⟨g,0,rfl,hg,fun k x hk=>?_⟩;rw[zaF,hc k (by have:=(zac.1 hk).1;omega)];exact qfr hk⟩
theorem qhT:(Tryz.prog.info? 34).map (fun i=>(i.zero,i.size,i.bytes))=some (some (.agg (List.replicate 32 (Value.int .u8 0)).toArray),32,32):=by kernel_rfl
theorem qiv {P:Program}{t e:TypeId}{i:TypeInfo}(ht:P.underlying t=some (.slice e))(hi:P.info? e=some i)(b off n c k:Nat)(hk:k<n)(W:World) :
  (Instr.indexAt t (.slice (some ⟨b,off,none⟩) n c) (.int .i64 (k:Int))).run P W=.ok (.pointer (some ⟨b,off+k*i.size,none⟩)) W:=by
 have Ha:(k:Int)<(n:Int):=by omega
 simp[Instr.indexAt,asIntOf,zaU ht,sizeOf,typeInfo,hi,Ha,Result.andThen,Addr.add_mid];intro h;omega
theorem qcP (b off n c k:Nat)(hk:k<n)(W:World):(Instr.indexAt 50 (.slice (some ⟨b,off,none⟩) n c) (.int .i64 (k:Int))).run Tryz.prog W=.ok (.pointer (some ⟨b,off+k*32,none⟩)) W:=by
 obtain⟨i0,hi0,hz0,hz1,hz2⟩:=zaY qhT;have:=qiv Tryz.underlying50 hi0 b off n c k hk W;rw[hz1]at this;exact this
structure GrM (w:World) (B g:Nat) (l:List Bs):Prop where
 lo:B≤g
 hl:H32 l
 ex:∃ A c q,w.heap[g]?=some (.cells #[.int .i64 (l.length:Int),.slice A q c] 176 (0,0))∧q=(prH l).length∧Own w B 34 32 (.slice A q c) q (bv (prH l).reverse.flatten)∧∀ b,(Value.slice A q c).ownBlock=some b→b≠g
theorem qg9 (w:World):Calls Tryz.prog 56 #[] w fun e w'=>e=.returned (.pointer (some ⟨w.heap.size,0,none⟩))∧GrM w' w.heap.size w.heap.size []∧Below w.heap.size w w':=by
 go_enter Tryz.func56,Tryz.ntmps56
 go_wp2;go_ret;have e:prH []=[]:=by unfold prH qcn;rw[zbl,qcb]
 refine⟨rfl,⟨zad _,(fun x hx=>by cases hx),none,0,0,?_,(by rw[e];rfl),(by rw[e];exact Own.nil ..),(fun b e=>by cases e)⟩,zB _ _⟩;exact zae w _
theorem Own.trunc {w:World}{B n c:Nat}{e:TypeId}{size:Nat}{A:Option Addr}{xs:List Value}(h:Own w B e size (.slice A n c) n xs){m:Nat}(hm:m≤n)(h0:0<n):Own w B e size (.slice A m c) m (xs.take (m*size)):=by
 obtain⟨g,rfl,h1,h2,hown⟩:=h.row.own h0;exact⟨.inl (qlB hown hm),fun b hb=>h.blk b (by simpa [Value.ownBlock] using hb)⟩
structure AdL (W0 wr:World) (B g N Hb:Nat) (l0:List Bs) (x0:Bs) (j n:Nat) (ll:List Bs) (x:Bs) (A:Option Addr) (q c:Nat):Prop where
 box:wr.heap[g]?=some (.cells #[.int .i64 (N:Int),.slice A q c] 176 (0,0))
 hq:q=(digs empH nodeH j n ll).length
 own:Own wr B 34 32 (.slice A q c) q (bv (digs empH nodeH j n ll).reverse.flatten)
 ne:∀ b,(Value.slice A q c).ownBlock=some b→b≠g∧b≠Hb
 hl:H32 ll
 xb:wr.heap[Hb]?=some (.cells (bv x).toArray 34 (0,0))
 hx:x.length=32
 eq:addP nodeH n (digs empH nodeH j n ll) x=prH (l0++[x0])
 bl:Below B W0 wr
theorem qkV {w:World}{B g:Nat}{l:List Bs}{x:Bs}(h:GrM w B g l)(hx:x.length=32)(hk:Kon w)(hkB:1<B)(hBw:B≤w.heap.size)(hlen:l.length≤1000000) :
  Calls Tryz.prog 57 #[.pointer (some ⟨g,0,none⟩),.agg (bv x).toArray] w fun e w'=>e=.returned (.tuple #[])∧GrM w' B g (l++[x])∧Below B w w':=by
 obtain⟨I0,hi0,hz0,hz1,hz2⟩:=zaY qhT;obtain⟨A0,c0,q0,hbox,hq0,Ha,hne⟩:=h.ex;obtain⟨N,hN⟩:∃ N,l.length=N:=⟨_,rfl⟩;rw[hN]at hbox hlen;have hg:g<w.heap.size:=(zaa.1 hbox).1;obtain⟨Hb,hHb⟩:∃ Hb,w.heap.size=Hb:=⟨_,rfl⟩;have H8:=zH (show g<Hb by omega);have HJ:=zH h.lo;have HV:=zH (show B≤Hb by omega);have hI:=zH hN;have hD:=zH h.hl;have hE:=zH hkB;obtain⟨W0,hW0⟩:∃ W0,w.alloc (.cells (bv x).toArray 34)=W0:=⟨_,rfl⟩;have HD:Below w.heap.size w W0:=by rw[←hW0];exact zB _ _
 have ht:=zH (HD.mono hBw);have HK:=zH (hk.below hk.lt HD);have H2:AdL W0 W0 B g N Hb l x 0 N l x A0 q0 c0:=by
  refine⟨(HD.block g hg).trans hbox,by rw[hq0];unfold prH qcn;rw[hN],?_,fun b hb=>⟨hne b hb,?_⟩,h.hl,?_,hx,?_,zai _ _⟩
  ·have:=Ha.below (zad _) HD;unfold prH qcn at this;rw[hN]at this;exact this
  ·have:=(Ha.blk b hb).2;omega
  ·rw[←hW0,←hHb];exact zae w _
  ·have:=qjk empH nodeH l x;unfold prH;rw[this,hN];unfold qcn;rw[hN]
 obtain⟨X,hX⟩:∃ X,bv x=X:=⟨_,rfl⟩;rw[hX]at hW0⊢;have c0':W0.cell? ⟨g,0,none⟩=some (.int .i64 (N:Int)):=zC H2.box;have hR:=hx;clear h hk hkB hBw hbox Ha hne hN hq0 hg HD hX;go_enter Tryz.func57,Tryz.ntmps57
 go_upto_region 1 with fail
 clear hW0 hHb;go_wp2;go_loopw [4] (fun v wr=>∃ (j n:Nat) (ll:List Bs) (y:Bs) (A:Option Addr) (q c:Nat),v=.int .i64 n∧n≤1000000∧AdL W0 wr B g N Hb l x j n ll y A q c) (fun v _=>(intOf v).toNat)
 case atStart=>exact⟨0,N,l,x,A0,q0,c0,rfl,hlen,H2⟩
 case round=>
  obtain⟨j,n,ll,y,A,q,c,rfl,hn,hm⟩:=hrel;clear c0' H2;by_cases hodd:n % 2=1
  ·have o1:bits .and .i64 (n:Int) 1=1:=by rw[qdj _ (by omega) (by omega)];omega
   obtain⟨n2,hn2⟩:∃ x,n / 2=x:=⟨_,rfl⟩;have e2:(n:Int) / 2=(n2:Int):=by omega
   have hd:=qck empH nodeH (j:=j) (l:=ll) hodd;obtain⟨p,hp⟩:∃ p,mth empH nodeH (ll.drop ((n-1)*2 ^ j))=p:=⟨_,rfl⟩;obtain⟨ll2,hll2⟩:∃ p,ll.take ((n-1)*2 ^ j)=p:=⟨_,rfl⟩;rw[hp,hll2,hn2]at hd;have H4:p.length=32:=by rw[←hp];exact qcD (hm.hl.drop _)
   have H3:H32 ll2:=by rw[←hll2];exact hm.hl.take _
   obtain⟨ps,hps⟩:∃ ps,digs empH nodeH (j+1) n2 ll2=ps:=⟨_,rfl⟩;rw[hps]at hd;have Hm:H32 ps:=by rw[←hps];exact qio _ _ _ H3
   have hq:=hm.hq;have Ha:=hm.own;have Hk:=hm.eq;rw[hd]at hq Ha Hk;obtain⟨k,hkk⟩:∃ k,ps.length=k:=⟨_,rfl⟩;rw[zal,hkk]at hq;rw[qgO]at Ha;have hr:ps.reverse.flatten.length=k*32:=by
    rw[H32.flat (fun h hh=>Hm h (by simpa using hh)),List.length_reverse,hkk]
   obtain⟨ga,hA,hgB,hgl,_⟩:=Ha.row.own (by omega);subst hA;have ho:By wr (some ⟨ga,0,none⟩) (ps.reverse.flatten++p):=Ha.byF;have HM:=ho.range (k*32) 32;rw[List.drop_append_of_le_length (by omega),za0 (by omega),zaI,zaL (by omega),zaF]at HM;have hU:=qcP ga 0 q c k (by omega);simp only[zaF]at hU;have w1:IntKind.i64.wrap ((q:Int)-1)=(k:Int):=by rw[zaA _ (by have:=qf7 n j ll;have:=hm.hq;omega)];omega
   have q1:(q:Int)≤1000000:=by have:=qf7 n j ll;have:=hm.hq;omega
   have hW:=qeI Tryz.underlying50 hi0 ga 0 q c k (by have:=Ha.row.capn;omega);have k0:(k:Int)<(q:Int):=by omega
   have b0:wr.cell? ⟨g,0,none⟩=some (.int .i64 (N:Int)):=zC hm.box;have b1:wr.cell? ⟨g,1,none⟩=some (.slice (some ⟨ga,0,none⟩) q c):=zC hm.box;obtain⟨W1,hW1⟩:∃ W1,wr.drew=W1:=⟨_,rfl⟩;have Hy:=zH (show W1.heap[g]?=some (.cells #[.int .i64 (N:Int),.slice (some ⟨ga,0,none⟩) q c] 176 (0,0))by rw[←hW1];exact hm.box);have Hr:=zH (show W1.heap[Hb]?=some (.cells (bv y).toArray 34 (0,0))by rw[←hW1];exact hm.xb);obtain⟨YL,hYL⟩:∃ x,bv y=x:=⟨_,rfl⟩;obtain⟨PL,hPL⟩:∃ x,bv p=x:=⟨_,rfl⟩;rw[hYL]at Hr;rw[hPL]at HM;have Hc:=zH (show W1.cell? ⟨g,1,none⟩=some (.slice (some ⟨ga,0,none⟩) q c)∧W1.rangeAt ga (k*32) PL∧W1.rangeAt Hb 0 YL by rw[←hW1];exact⟨b1,HM,by rw[←hYL];exact rangeAt_whole hm.xb⟩);have HG:=zH (show Below B W0 W1 by rw[←hW1];exact hm.bl.drew);have HL:=zH (show Own W1 B 34 32 (.slice (some ⟨ga,0,none⟩) q c) q (bv (ps.reverse.flatten++p))by rw[←hW1];exact Ha.below (zad _) (zai _ _).drew);have ha:=zH (qhc p y W1 H4 hm.hx (HK.o.below hE.o HG.o));obtain⟨ON,hON⟩:∃ x,bv (nodeH p y)=x:=⟨_,rfl⟩;rw[hPL,hYL,hON]at ha;have HZ:=zH (show PL.length=32 by rw[←hPL,bv_len,H4]);have He:=zH (show YL.length=32 by rw[←hYL,bv_len,hm.hx]);have HX:=zH (show ON.toArray.size=32 by rw[←hON,zas,bv_len,qdt]);have HW:=zH (show ∀ v∈ON,v.oneCell'=true by rw[←hON];exact qak _);have hK:=zH hON;have Hq:=zH (hm.ne ga rfl);have HI:=zH (show addP nodeH n2 ps (nodeH p y)=prH (l++[x])by
    rw[←Hk];show _=addP nodeH n (p::ps) y;rw[addP,zax hodd,hn2])
   have hL:=zH (And.intro hps (And.intro hkk (And.intro hr hq)));have hH:=zH H3;have HA:=zH (And.intro hn2 (And.intro hodd hn));have HH:=zH (show B≤W1.heap.size by rw[←hW1];show B≤wr.heap.size;have:=hm.bl.size;have:=HV.o;have h2:=(zaa.1 hm.xb).1;omega);clear hm hodd hd hp hll2 H4 H3 hps Hm hq Ha Hk hkk hr hgB hgl ho HM hn2 hYL hPL hON hn;go_upto_region 5 with fail
   refine qad (S:=fun W'=>W'.cell? ⟨g,1,none⟩=some (.slice (some ⟨ga,0,none⟩) q c)∧W'.rangeAt ga (k*32) PL∧W'.rangeAt Hb 0 YL) [9] (by kernel_rfl) (by rw[hW1];exact Hc.o) (fun _=>?_);rw[hW1];have hO:=zH hW1;clear hW1;refine zP 0 21 (.pointer (some ⟨g,0,none⟩)) Hc.o ?_;try simp only[zS]
   refine zP 1 22 (.pointer (some ⟨g,0,none⟩)) Hc.o ?_;try simp only[zS]
   refine zP 2 23 (.pointer (some ⟨g,1,none⟩)) Hc.o ?_;try simp only[zS]
   refine zL 3 24 (.slice (some ⟨ga,0,none⟩) q c) rfl (Or.inl ⟨by rfl,fun W' hS=>by obtain⟨hS1,hS2,hS3⟩:=hS;go_simp⟩) (qab Hc.o) ?_;try simp only[zS]
   refine zP 4 25 (.int .i64 (k:Int)) Hc.o ?_;try simp only[zS]
   refine zP 5 26 (.pointer (some ⟨ga,k*32,none⟩)) Hc.o ?_;try simp only[zS]
   refine qaW (i:=6) (some 27) (v:=.agg PL.toArray) rfl rfl (by kernel_rfl) (by kernel_rfl) (by kernel_rfl) (by kernel_rfl) (fun _ _ _ h=>h) (yieldsIf_load_mid (by rfl) 34 (.tmp 26) rfl ga (k*32) rfl PL _ (fun W' hS=>hS.2.1) Tryz.underlying34 rfl (by rw[HZ.o];kernel_rfl)) (qab Hc.o) ?_;try simp only[zS]
   refine qaW (i:=7) (some 28) (v:=.agg YL.toArray) rfl rfl (by kernel_rfl) (by kernel_rfl) (by kernel_rfl) (by kernel_rfl) (fun _ _ _ h=>h) (yieldsIf_load_mid (by rfl) 34 (.tmp 3) rfl Hb 0 rfl YL _ (fun W' hS=>hS.2.2) Tryz.underlying34 rfl (by rw[He.o];kernel_rfl)) (qab Hc.o) ?_;try simp only[zS]
   refine zE 8 29 rfl (fun Kr hKr=>?_);go_simp;go_at_call 92
   refine ha.o.mono ?_;rintro e W2 ⟨rfl,hb1⟩;have H6:=zH hb1;have Ht:=(hb1.block g (zaa.1 Hy.o).1).trans Hy.o;have Hj:=(hb1.block Hb (zaa.1 Hr.o).1).trans Hr.o;have hy:=zH (show W2.cell? ⟨g,1,none⟩=some (.slice (some ⟨ga,0,none⟩) q c)∧W2.rangeAt ga (k*32) PL∧W2.rangeAt Hb 0 YL from⟨zC Ht,fun j v hv=>(hb1.cell (p:=⟨ga,k*32+j,none⟩) (HL.o.blk ga rfl).2).trans (Hc.o.2.1 j v hv),rangeAt_whole Hj⟩);have hM:=zH (show W2.there Hb 0 32 from there_of_block Hj 0 (by simp[He.o]));have Hz:=zH Ht;have H1:=zH Hj;clear hb1 Ht Hj;refine hKr.out (.agg ON.toArray) _ (qab hy.o) (fun _=>?_);clear hKr Kr;try simp only[zS]
   refine qam (rs:=[9]) (by kernel_rfl) (by simp) ?_;refine AllReadyG.ev none rfl rfl (fun Kr hKr=>?_) AllReadyG.nil;refine Eq.mpr (zax (by rfl)) ?_;refine wp_store_mid 34 (.tmp 3) (.tmp 29) rfl Hb 0 ON.toArray rfl rfl (by rw[HX.o];exact hM.o) (by rw[HX.o];kernel_rfl) (all_oneCell_toArray HW.o) ?_;obtain⟨W3,hW3⟩:∃ W3,W2.setCells Hb 0 ON.toArray.toList=W3:=⟨_,rfl⟩;have H5:Touch (fun x=>x=Hb) W2 W3:=by rw[←hW3];exact qaB (F:=fun x=>x=Hb) rfl _ _
   have HC:=zH (show W3.heap[Hb]?=some (.cells (bv (nodeH p y)).toArray 34 (0,0))by
    rw[←hW3,hK.o];exact qae H1.o ON (by have:=HX.o;have:=He.o;simp at *;omega))
   have Hg:=(H5.block g (zaa.1 Hz.o).1 (fun e=>by have:=H8.o;omega)).trans Hz.o;have HS:=zH Hg;have hw:=zH (show Below B W0 W3 by rw[←hW3];exact below_setCells (HG.o.trans (H6.o.mono HH.o)) HV.o _ _);have he:=zH H5;rw[hW3];clear hW3 H5;refine hKr.out _ _ (qaD 9 (by rfl) (by kernel_rfl)) (fun _=>?_);clear hKr Kr;try simp only[zS]
   refine qaf (by kernel_rfl) ?_ _;have g1:W3.cell? ⟨g,1,none⟩=some (.slice (some ⟨ga,0,none⟩) q c):=zC Hg;have g2:W3.frozen? ⟨g,1,none⟩=false:=zbk _ _ _ _ _ Hg;have Hl:Own W3 B 34 32 (.slice (some ⟨ga,0,none⟩) q c) q (bv (ps.reverse.flatten++p)):=by
    have h1:=HL.o.below (zad _) H6.o;exact⟨h1.row.keep fun b hb hl=>he.o.block b hl (by cases hb;exact Hq.o.2),fun b hb=>⟨(h1.blk b hb).1,zag (h1.blk b hb).2 he.o.size⟩⟩
   have HY:=zH Hl;clear Hl Hg;go_wp2;have Hx:Touch (fun b=>b=g) W3 (W3.setCell ⟨g,1,none⟩ (.slice (some ⟨ga,0,none⟩) k c)):=Touch.setCell (F:=fun b=>b=g) (Touch.refl _ _) (p:=⟨g,1,none⟩) rfl _;obtain⟨h1,h2,h3,h4⟩:=hL.o;refine⟨⟨j+1,n2,ll2,nodeH p y,some ⟨ga,0,none⟩,k,c,rfl,by have:=HA.o;omega,⟨qac HS.o _,by rw[h1,h2],?_,?_,hH.o,?_,qdt _ _,by rw[h1];exact HI.o,hw.o.setCell HJ.o _⟩⟩,by have:=HA.o;simp[intOf];omega⟩
   ·have HN:=HY.o.trunc (m:=k) (by omega) (by omega);rw[qao,zb1 (by rw[bv_len];omega),zaL (by rw[bv_len];omega)]at HN;rw[h1];exact⟨HN.row.keep fun b hb hl=>Hx.block b hl (by cases hb;exact Hq.o.1),fun b hb=>⟨(HN.blk b hb).1,zag (HN.blk b hb).2 Hx.size⟩⟩
   ·intro b hb;cases hb;exact Hq.o
   ·rw[Hx.block Hb (zaa.1 HC.o).1 (fun e=>by have:=H8.o;omega)];exact HC.o
  ·have o1:bits .and .i64 (n:Int) 1=0:=by rw[qdj _ (by omega) (by omega)];omega
   have Hk:=hm.eq;rw[qgD nodeH (by omega)]at Hk;obtain⟨ps,hps⟩:∃ ps,digs empH nodeH j n ll=ps:=⟨_,rfl⟩;have hq:=hm.hq;have Ha:=hm.own;have hs:=qf7 n j ll;rw[hps]at hq Ha Hk hs;have b1:wr.cell? ⟨g,1,none⟩=some (.slice A q c):=zC hm.box;obtain⟨W1,hW1⟩:∃ W1,wr.drew=W1:=⟨_,rfl⟩;have Hy:=zH (show W1.heap[g]?=some (.cells #[.int .i64 (N:Int),.slice A q c] 176 (0,0))by rw[←hW1];exact hm.box);have Hr:=zH (show W1.heap[Hb]?=some (.cells (bv y).toArray 34 (0,0))by rw[←hW1];exact hm.xb);obtain⟨YL,hYL⟩:∃ x,bv y=x:=⟨_,rfl⟩;rw[hYL]at Hr;have Hc:=zH (show W1.cell? ⟨g,1,none⟩=some (.slice A q c)∧W1.rangeAt Hb 0 YL by rw[←hW1];exact⟨b1,by rw[←hYL];exact rangeAt_whole hm.xb⟩);have HG:=zH (show Below B W0 W1 by rw[←hW1];exact hm.bl.drew);have HH:=zH (show B≤W1.heap.size by rw[←hW1];show B≤wr.heap.size;have:=hm.bl.size;have:=HV.o;have h2:=(zaa.1 hm.xb).1;omega);have HL:=zH (show Own W1 B 34 32 (.slice A q c) q (bv ps.reverse.flatten)by rw[←hW1];exact Ha.below (zad _) (zai _ _).drew);have He:=zH (show YL.length=32 by rw[←hYL,bv_len,hm.hx]);have hQ:=zH (show ∀ v∈YL,v.oneCell'=true by rw[←hYL];exact qak _);have hP:=zH hYL;have Hq:=zH hm.ne;have HI:=zH Hk;have HQ:=zH hq;have hV:q≤1000000:=by omega
   clear hm hodd hps hq Ha Hk hs hYL hn b1;go_upto_region 7 with fail
   refine qad (S:=fun W'=>W'.cell? ⟨g,1,none⟩=some (.slice A q c)∧W'.rangeAt Hb 0 YL) [10] (by kernel_rfl) (by rw[hW1];exact Hc.o) (fun _=>?_);rw[hW1];have hO:=zH hW1;clear hW1;refine zP 0 39 (.pointer (some ⟨g,0,none⟩)) Hc.o ?_;try simp only[zS]
   refine zP 1 40 (.pointer (some ⟨g,0,none⟩)) Hc.o ?_;try simp only[zS]
   refine zP 2 41 (.pointer (some ⟨g,0,none⟩)) Hc.o ?_;try simp only[zS]
   refine zP 3 42 (.pointer (some ⟨g,1,none⟩)) Hc.o ?_;try simp only[zS]
   refine zL 4 43 (.slice A q c) rfl (Or.inl ⟨by rfl,fun W' hS=>by obtain⟨hS1,hS2⟩:=hS;go_simp⟩) (qab Hc.o) ?_;try simp only[zS]
   refine qaW (i:=5) (some 44) (v:=.agg YL.toArray) rfl rfl (by kernel_rfl) (by kernel_rfl) (by kernel_rfl) (by kernel_rfl) (fun _ _ _ h=>h) (yieldsIf_load_mid (by rfl) 34 (.tmp 3) rfl Hb 0 rfl YL _ (fun W' hS=>hS.2) Tryz.underlying34 rfl (by rw[He.o];kernel_rfl)) (qab Hc.o) ?_;try simp only[zS]
   refine zE 6 45 rfl (fun Kr hKr=>?_);refine Eq.mpr (zax (by rfl)) ?_;refine qaU 50 (.tmp 44) rfl Tryz.underlying50 hi0 hz0 hz1 (by decide) (by decide) (.agg YL.toArray) rfl YL (by rfl) He.o ?_;have Hs:Below W1.heap.size W1 (W1.alloc (.cells YL.toArray 34)):=zB _ _;have hu:=zH Hs;have Hu:=(Hs.block g (zaa.1 Hy.o).1).trans Hy.o;have Hw:=(Hs.block Hb (zaa.1 Hr.o).1).trans Hr.o;have hz:=zH (show(W1.alloc (.cells YL.toArray 34)).cell? ⟨g,1,none⟩=some (.slice A q c)∧(W1.alloc (.cells YL.toArray 34)).rangeAt Hb 0 YL from⟨zC Hu,rangeAt_whole Hw⟩);have H7:=zH (show Src (W1.alloc (.cells YL.toArray 34)) 32 (some ⟨W1.heap.size,0,none⟩) 1 YL from qas (zae W1 (.cells YL.toArray 34)) (by rw[He.o]));have Hn:=zH Hu;have HB:=zH Hw;have Hf:=zH (HL.o.below (zad _) Hs);have HR:=zH (HG.o.trans (Hs.mono HH.o));have Ho:=zH (show B≤(W1.alloc (.cells YL.toArray 34)).heap.size from zam HH.o Hs.size);obtain⟨C,hC⟩:∃ C,W1.heap.size=C:=⟨_,rfl⟩;rw[hC]at H7⊢;clear hC Hs Hu Hw hu;generalize W1.alloc (.cells YL.toArray 34)=W2 at *;refine hKr.out (.slice (some ⟨C,0,none⟩) 1 1) _ (qab hz.o) (fun _=>?_);clear hKr Kr;try simp only[zS]
   refine zE 7 46 rfl (fun Kr hKr=>?_);refine Eq.mpr (zax (by rfl)) ?_;refine qaS (.tmp 43) (.tmp 45) 50 rfl B 34 I0 _ 32 32 Tryz.underlying50 hi0 hz0 hz1 hz2 (by simp[Value.cells]) (by decide) (.slice A q c) q _ rfl Hf.o.row (some ⟨C,0,none⟩) 1 1 YL rfl H7.o hQ.o (by unfold maxLen;omega) (by omega) Ho.o ?_;intro A4 c4 W4 q1 q2 q3;have Hh:=(q2.block g (zaa.1 Hn.o).1 (fun e=>(Hq.o g e.symm).1 rfl)).trans Hn.o;have HT:=zH Hh;have hJ:=zH q1;have hB:=zH q2;have H9:=zH q3;have H0:=zH (show W4.there g 1 1 from there_of_block Hh 1 (by simp));have HO:=zH (show Below B W0 W4 from zb0 HR.o q2 Ho.o (fun b hb=>(Hf.o.blk b hb).1));have HF:=(q2.block Hb (zaa.1 HB.o).1 (fun e=>(Hq.o Hb e.symm).2 rfl)).trans HB.o;have Hp:=zH (show W4.cell? ⟨g,1,none⟩=some (.slice A q c)∧W4.rangeAt Hb 0 YL from⟨zC Hh,rangeAt_whole HF⟩);clear q1 q2 q3 Hh HF;refine hKr.out (.slice A4 (q+1) c4) _ (qab Hp.o) (fun _=>?_);clear hKr Kr;try simp only[zS]
   refine zP 8 47 (.pointer (some ⟨g,0,none⟩)) Hp.o ?_;try simp only[zS]
   refine zP 9 48 (.pointer (some ⟨g,1,none⟩)) Hp.o ?_;try simp only[zS]
   refine qam (rs:=[10]) (by kernel_rfl) (by simp) ?_;refine AllReadyG.store rfl 50 (.tmp 48) (.tmp 46) rfl rfl rfl g 1 (.slice A4 (q+1) c4) rfl rfl H0.o (by kernel_rfl) rfl (qaD 10 (by rfl) (by kernel_rfl)) ?_ AllReadyG.nil;obtain⟨W5,hW5⟩:∃ W5,W4.setCell ⟨g,1,none⟩ (.slice A4 (q+1) c4)=W5:=⟨_,rfl⟩;have Hx:Touch (fun b=>b=g) W4 W5:=by rw[←hW5];exact Touch.setCell (F:=fun b=>b=g) (Touch.refl _ _) (p:=⟨g,1,none⟩) rfl _
   have hf:=zH Hx;have Hi:W5.heap[g]?=some (.cells #[.int .i64 (N:Int),.slice A4 (q+1) c4] 176 (0,0)):=by rw[←hW5];exact qac HT.o _
   have HU:=zH Hi;have HP:=zH (show Below B W0 W5 by rw[←hW5];exact HO.o.setCell HJ.o _);rw[hW5];clear hW5 Hx;try simp only[zS]
   refine qaf (by kernel_rfl) ?_ _;have g0:W5.cell? ⟨g,0,none⟩=some (.int .i64 (N:Int)):=zC Hi;have g2:W5.frozen? ⟨g,0,none⟩=false:=zbk _ _ _ _ _ Hi;clear Hi;go_wp2;go_returns;have hj:Touch (fun b=>b=g) W5 (W5.setCell ⟨g,0,none⟩ (.int .i64 ((N:Int)+1))):=Touch.setCell (F:=fun b=>b=g) (Touch.refl _ _) (p:=⟨g,0,none⟩) rfl _;have Hv:∀ b,(Value.slice A4 (q+1) c4).ownBlock=some b→b≠g:=fun b hb=>by
    rcases H9.o b hb with h1|h1
    ·exact(Hq.o b h1).1
    ·intro e;have:=(zaa.1 Hn.o).1;omega
   have HE:∀ b,(Value.slice A4 (q+1) c4).ownBlock=some b→B≤b∧b<W4.heap.size:=fun b hb=>by
    rcases H9.o b hb with h1|h1
    ·exact⟨(Hf.o.blk b h1).1,zag (Hf.o.blk b h1).2 hB.o.size⟩
    ·exact⟨zam Ho.o h1.1,h1.2⟩
   refine⟨rfl,⟨HJ.o,hD.o.snoc hR,A4,c4,q+1,?_,by rw[←HI.o,zal,HQ.o],?_,Hv⟩,ht.o.trans (HP.o.setCell HJ.o _)⟩
   ·rw[zaf,hI.o];exact qac HU.o _
   ·rw[←HI.o,qgO,qao,hP.o];refine⟨(hJ.o.keep fun b hb hl=>hf.o.block b hl (Hv b hb)).keep fun b hb hl=>hj.block b hl (Hv b hb),fun b hb=>⟨(HE b hb).1,?_⟩⟩;have:=(HE b hb).2;have:=hf.o.size;have:=hj.size;omega
end Go.Proofs.YtfcknhbmeofniaaGreatDoor
namespace Go.Proofs.YtfcknhbmeofniaaGreatDoor
open Go.RowKit BT
namespace BT
theorem qfB (nd:Bs→Bs→Bs):∀ (r:Bs) (ps:List Bs) (x:Bs),qet nd r (ps++[x])=nd x (qet nd r ps)
 | _,[],_=>rfl
 | r,p::ps,x=>qfB nd (nd p r) ps x
theorem qeR:∀ (r:Bs) (ps:List Bs),r.length=32→(qet nodeH r ps).length=32
 | r,[],h=>h
 | r,p::ps,_=>qeR (nodeH p r) ps (qdt _ _)
theorem qmT {l:List Bs}(h:l≠[]):∃ p ps,prH l=p::ps∧qet nodeH p ps=mtH l:=by
 have h0:0<l.length:=by cases l;exact absurd rfl h;simp
 obtain⟨p,ps,e,hf⟩:=qkB empH nodeH l.length 0 l h0 (by simp);exact⟨p,ps,e,hf⟩
end BT
structure RtL (W0 wr:World) (Hb:Nat) (p:Bs) (ps:List Bs) (k:Nat):Prop where
 xb:wr.heap[Hb]?=some (.cells (bv (qet nodeH p (ps.take k))).toArray 34 (0,0))
 bl:Below Hb W0 wr
theorem qi2 {w:World}{B g:Nat}{l:List Bs}(h:GrM w B g l)(hk:Kon w)(hlen:l.length≤1000000) :
  Calls Tryz.prog 58 #[.pointer (some ⟨g,0,none⟩)] w fun e w'=>e=.returned (.agg (bv (mtH l)).toArray)∧Below w.heap.size w w':=by
 obtain⟨I0,hi0,hz0,hz1,hz2⟩:=zaY qhT;obtain⟨A0,c0,q0,hbox,hq0,hown,hne⟩:=h.ex;have hg:g<w.heap.size:=(zaa.1 hbox).1;obtain⟨N,hN⟩:∃ N,l.length=N:=⟨_,rfl⟩;rw[hN]at hbox hlen;obtain⟨W0,hW0⟩:∃ W0,w.alloc (.cells #[Value.int .u8 0,Value.int .u8 0,Value.int .u8 0,Value.int .u8 0,Value.int .u8 0,Value.int .u8 0,Value.int .u8 0,Value.int .u8 0,Value.int .u8 0,Value.int .u8 0,Value.int .u8 0,Value.int .u8 0,Value.int .u8 0,Value.int .u8 0,Value.int .u8 0,Value.int .u8 0,Value.int .u8 0,Value.int .u8 0,Value.int .u8 0,Value.int .u8 0,Value.int .u8 0,Value.int .u8 0,Value.int .u8 0,Value.int .u8 0,Value.int .u8 0,Value.int .u8 0,Value.int .u8 0,Value.int .u8 0,Value.int .u8 0,Value.int .u8 0,Value.int .u8 0,Value.int .u8 0] 34)=W0:=⟨_,rfl⟩;have hz:W0.heap.size=w.heap.size+1:=by rw[←hW0];simp
 have Hz:Below w.heap.size w W0:=by rw[←hW0];exact zB _ _
 have Hy:=zH hz;have HM:=zH Hz;have HD:=zH (show W0.heap[w.heap.size]?=some (.cells (List.replicate 32 (Value.int .u8 0)).toArray 34 (0,0))by rw[←hW0];exact qh9 w);have Ha:=(Hz.block g hg).trans hbox;have HK:=zH (hk.below hk.lt Hz);have c0':W0.cell? ⟨g,0,none⟩=some (.int .i64 (N:Int)):=zC Ha;have HP:=zH Ha;have hu:=zH hg;have HT:=zH (hown.below (zad _) Hz);by_cases hl0:l=[]
 ·have hL:N=0:=by rw[←hN,hl0];rfl
  have t0:((N:Int)==0)=true:=by rw[zbZ];omega
  have HE:=zH (show mtH l=shaS []by rw[hl0];unfold mtH;rw[mth];rfl);have H9:=zH (qlF none 0 0 [] W0 (By.nil _ _) rfl HK.o (by omega));obtain⟨O,hO⟩:∃ O,bv (shaS [])=O:=⟨_,rfl⟩;rw[hO]at H9;have HR:=zH hO;have Hg:=zH (show O.toArray.size=32 by rw[←hO,zas,bv_len];exact qbB _);have Hx:=zH (show O.length=32 by rw[←hO,bv_len];exact qbB _);have HB:=zH (show ∀ v∈O,v.oneCell'=true by rw[←hO];exact qak _);clear h hk hbox hown hne hN hq0 hg Ha Hz hl0 hL hO hz;go_enter Tryz.func58,Tryz.ntmps58
  go_upto_region 1 with fail
  clear hW0;go_wp2_with (first
   | (go_at_call 93;(with_reducible refine H9.o.mono ?_);go_loud (rintro e w4 ⟨rfl,hb4⟩;have H4:=zH hb4;have Ht:=(H4.o.block w.heap.size (by have:=Hy.o;omega)).trans HD.o;have HX:=zH (show w4.there w.heap.size 0 32 from there_of_block Ht 0 (by simp));have HV:=zH Ht;clear hb4 Ht))
   | ((with_reducible show wpList _ _ _ (⟨none,.store 34 _ _,_,_,_,_⟩::_) _ _);go_loud (refine wpList_store_mid rfl 34 (.tmp 2) (.tmp 10) rfl w.heap.size 0 O.toArray rfl rfl (by rw[Hg.o];exact HX.o) (by rw[Hg.o];kernel_rfl) (all_oneCell_toArray HB.o) ?_)))
  refine za7 (v:=.agg O.toArray) ?_ rfl ?_
  ·exact qcl rfl rfl Hx.o (qae HV.o O (by simp[Hx.o]))
  ·exact⟨by rw[HE.o,HR.o],below_setCells (HM.o.trans (H4.o.mono HM.o.size)) (zad _) _ _⟩
 ·have hM:0<N:=by rw[←hN];cases l;exact absurd rfl hl0;simp
  have t0:((N:Int)==0)=false:=by rw[zaN];omega
  obtain⟨p,ps,hpr,hfo⟩:=qmT hl0;have Hh:H32 (p::ps):=by rw[←hpr];exact qio _ _ _ h.hl
  obtain⟨k0,hk0⟩:∃ k,ps.length=k:=⟨_,rfl⟩;rw[hpr,zal,hk0]at hq0;have hf:q0≤N:=by have:=qf7 N 0 l;rw[←hN]at this⊢;unfold prH qcn at hpr;rw[hpr,zal]at this;omega
  obtain⟨ga,hA,hgB,hgl,_⟩:=hown.row.own (by omega);subst hA;have Hs:By W0 (some ⟨ga,0,none⟩) (prH l).reverse.flatten:=HT.o.byF;rw[hpr]at Hs;have HF:H32 (p::ps).reverse:=fun x hx=>Hh x (List.mem_reverse.1 hx);have HW:=zH (show ∀ (W:World) (i:Nat) (x:Bs),Below w.heap.size W0 W→(p::ps).reverse[i]?=some x→W.rangeAt ga (i*32) (bv x)from fun W i x hb hx=>by
   have:=Hs.range (i*32) 32;rw[HF.at_ hx,zaF]at this;exact fun j v hv=>(hb.cell (p:=⟨ga,i*32+j,none⟩) hgl).trans (this j v hv))
  have HL:p.length=32:=Hh p (by simp);have w1:IntKind.i64.wrap ((q0:Int)-1)=(k0:Int):=by rw[zaA _ (by omega)];omega
  have H7:=zH (show ∀ i,i<q0→∀ W,(Instr.indexAt 50 (.slice (some ⟨ga,0,none⟩) q0 c0) (.int .i64 (i:Int))).run Tryz.prog W=.ok (.pointer (some ⟨ga,i*32,none⟩)) W from fun i hi W=>by
   have:=qcP ga 0 q0 c0 i hi W
   rwa [zaF]at this)
  have hW:=H7.o k0 (by omega);obtain⟨W1,hW1⟩:∃ W1,W0.drew=W1:=⟨_,rfl⟩;have HO:=zH (show Below W0.heap.size W0 W1 by rw[←hW1];exact(zai _ _).drew);have Hm:=zH (show W1.heap[g]?=some (.cells #[.int .i64 (N:Int),.slice (some ⟨ga,0,none⟩) q0 c0] 176 (0,0))by rw[←hW1];exact Ha);have Hc:=zH (show W1.cell? ⟨g,1,none⟩=some (.slice (some ⟨ga,0,none⟩) q0 c0)∧W1.rangeAt ga (k0*32) (bv p)from⟨zC Hm.o,HW.o W1 k0 p (HO.o.mono (by omega)) (by simp[hk0])⟩);have hH:=zH (HW.o W1 k0 p (HO.o.mono (by omega)) (by simp[hk0]));obtain⟨PL,hPL⟩:∃ x,bv p=x:=⟨_,rfl⟩;rw[hPL]at hH Hc;have Hj:=zH (show PL.toArray.size=32 by rw[←hPL,zas,bv_len,HL]);have hD:=zH hPL;have HC:=zH (show PL.length=32 by rw[←hPL,bv_len,HL]);have hE:=zH (show ∀ v∈PL,v.oneCell'=true by rw[←hPL];exact qak _);have Hp:=zH (And.intro hk0 (And.intro hq0 (And.intro hf HL)));have HU:=zH Hh;have H5:=zH hfo;have ht:=zH hgl;have hV:g<W1.heap.size:=by rw[←hW1];show g<W0.heap.size;omega
  have hZ:(q0:Int)≤1000000:=by omega
  have hY:(k0:Int)<(q0:Int):=by omega
  clear h hk hbox hown hne hN hq0 hg Ha Hz hl0 hM hf Hs HF HL hk0 hpr hfo Hh hgB hgl hPL hz;go_enter Tryz.func58,Tryz.ntmps58
  go_upto_region 3 with fail
  clear hW0 c0';refine qad (S:=fun W'=>W'.cell? ⟨g,1,none⟩=some (.slice (some ⟨ga,0,none⟩) q0 c0)∧W'.rangeAt ga (k0*32) PL) [13] (by kernel_rfl) (by rw[hW1];exact Hc.o) (fun _=>?_);rw[hW1];have hJ:=zH hW1;clear hW1;refine zP 0 11 (.pointer (some ⟨g,0,none⟩)) Hc.o ?_;try simp only[zS]
  refine zP 1 12 (.pointer (some ⟨g,0,none⟩)) Hc.o ?_;try simp only[zS]
  refine zP 2 13 (.pointer (some ⟨g,1,none⟩)) Hc.o ?_;try simp only[zS]
  refine zL 3 14 (.slice (some ⟨ga,0,none⟩) q0 c0) rfl (Or.inl ⟨by rfl,fun W' hS=>by obtain⟨hS1,hS2⟩:=hS;go_simp⟩) (qab Hc.o) ?_;try simp only[zS]
  refine zP 4 15 (.pointer (some ⟨g,0,none⟩)) Hc.o ?_;try simp only[zS]
  refine zP 5 16 (.pointer (some ⟨g,0,none⟩)) Hc.o ?_;try simp only[zS]
  refine zP 6 17 (.pointer (some ⟨g,1,none⟩)) Hc.o ?_;try simp only[zS]
  refine zL 7 18 (.slice (some ⟨ga,0,none⟩) q0 c0) rfl (Or.inl ⟨by rfl,fun W' hS=>by obtain⟨hS1,hS2⟩:=hS;go_simp⟩) (qab Hc.o) ?_;try simp only[zS]
  refine zP 8 19 (.int .i64 (q0:Int)) Hc.o ?_;try simp only[zS]
  refine zP 9 20 (.int .i64 (k0:Int)) Hc.o ?_;try simp only[zS]
  refine zP 10 21 (.pointer (some ⟨ga,k0*32,none⟩)) Hc.o ?_;try simp only[zS]
  refine qaW (i:=11) (some 22) (v:=.agg PL.toArray) rfl rfl (by kernel_rfl) (by kernel_rfl) (by kernel_rfl) (by kernel_rfl) (fun _ _ _ h=>h) (yieldsIf_load_mid (by rfl) 34 (.tmp 21) rfl ga (k0*32) rfl PL _ (fun W' hS=>hS.2) Tryz.underlying34 rfl (by rw[HC.o];kernel_rfl)) (qab Hc.o) ?_;try simp only[zS]
  refine zE 12 3 rfl (fun Kr hKr=>?_);refine Eq.mpr (zax (by rfl)) ?_;go_simp;have HI:Below W1.heap.size W1 (W1.alloc (.cells #[Value.int .u8 0,Value.int .u8 0,Value.int .u8 0,Value.int .u8 0,Value.int .u8 0,Value.int .u8 0,Value.int .u8 0,Value.int .u8 0,Value.int .u8 0,Value.int .u8 0,Value.int .u8 0,Value.int .u8 0,Value.int .u8 0,Value.int .u8 0,Value.int .u8 0,Value.int .u8 0,Value.int .u8 0,Value.int .u8 0,Value.int .u8 0,Value.int .u8 0,Value.int .u8 0,Value.int .u8 0,Value.int .u8 0,Value.int .u8 0,Value.int .u8 0,Value.int .u8 0,Value.int .u8 0,Value.int .u8 0,Value.int .u8 0,Value.int .u8 0,Value.int .u8 0,Value.int .u8 0] 34)):=zB _ _;have Hr:=(HI.block g (zaa.1 Hm.o).1).trans Hm.o
  have hr:=zH (show(W1.alloc (.cells #[Value.int .u8 0,Value.int .u8 0,Value.int .u8 0,Value.int .u8 0,Value.int .u8 0,Value.int .u8 0,Value.int .u8 0,Value.int .u8 0,Value.int .u8 0,Value.int .u8 0,Value.int .u8 0,Value.int .u8 0,Value.int .u8 0,Value.int .u8 0,Value.int .u8 0,Value.int .u8 0,Value.int .u8 0,Value.int .u8 0,Value.int .u8 0,Value.int .u8 0,Value.int .u8 0,Value.int .u8 0,Value.int .u8 0,Value.int .u8 0,Value.int .u8 0,Value.int .u8 0,Value.int .u8 0,Value.int .u8 0,Value.int .u8 0,Value.int .u8 0,Value.int .u8 0,Value.int .u8 0] 34)).cell? ⟨g,1,none⟩=some (.slice (some ⟨ga,0,none⟩) q0 c0)∧(W1.alloc (.cells #[Value.int .u8 0,Value.int .u8 0,Value.int .u8 0,Value.int .u8 0,Value.int .u8 0,Value.int .u8 0,Value.int .u8 0,Value.int .u8 0,Value.int .u8 0,Value.int .u8 0,Value.int .u8 0,Value.int .u8 0,Value.int .u8 0,Value.int .u8 0,Value.int .u8 0,Value.int .u8 0,Value.int .u8 0,Value.int .u8 0,Value.int .u8 0,Value.int .u8 0,Value.int .u8 0,Value.int .u8 0,Value.int .u8 0,Value.int .u8 0,Value.int .u8 0,Value.int .u8 0,Value.int .u8 0,Value.int .u8 0,Value.int .u8 0,Value.int .u8 0,Value.int .u8 0,Value.int .u8 0] 34)).rangeAt ga (k0*32) PL from⟨zC Hr,World.rangeAt_alloc Hc.o.2 _⟩);obtain⟨Hb,hHb⟩:∃ x,W1.heap.size=x:=⟨_,rfl⟩
  have HJ:=zae W1 (.cells #[Value.int .u8 0,Value.int .u8 0,Value.int .u8 0,Value.int .u8 0,Value.int .u8 0,Value.int .u8 0,Value.int .u8 0,Value.int .u8 0,Value.int .u8 0,Value.int .u8 0,Value.int .u8 0,Value.int .u8 0,Value.int .u8 0,Value.int .u8 0,Value.int .u8 0,Value.int .u8 0,Value.int .u8 0,Value.int .u8 0,Value.int .u8 0,Value.int .u8 0,Value.int .u8 0,Value.int .u8 0,Value.int .u8 0,Value.int .u8 0,Value.int .u8 0,Value.int .u8 0,Value.int .u8 0,Value.int .u8 0,Value.int .u8 0,Value.int .u8 0,Value.int .u8 0,Value.int .u8 0] 34);rw[hHb]at HI HJ;have hC:=zH HJ;have hp:=zH HI;have HA:=zH Hr;have H6:=zH hHb;have HY:=zH (show(W1.alloc (.cells #[Value.int .u8 0,Value.int .u8 0,Value.int .u8 0,Value.int .u8 0,Value.int .u8 0,Value.int .u8 0,Value.int .u8 0,Value.int .u8 0,Value.int .u8 0,Value.int .u8 0,Value.int .u8 0,Value.int .u8 0,Value.int .u8 0,Value.int .u8 0,Value.int .u8 0,Value.int .u8 0,Value.int .u8 0,Value.int .u8 0,Value.int .u8 0,Value.int .u8 0,Value.int .u8 0,Value.int .u8 0,Value.int .u8 0,Value.int .u8 0,Value.int .u8 0,Value.int .u8 0,Value.int .u8 0,Value.int .u8 0,Value.int .u8 0,Value.int .u8 0,Value.int .u8 0,Value.int .u8 0] 34)).there Hb 0 32 from there_of_block HJ 0 (by simp));rw[hHb];clear HI Hr HJ hHb
  generalize W1.alloc (.cells #[Value.int .u8 0,Value.int .u8 0,Value.int .u8 0,Value.int .u8 0,Value.int .u8 0,Value.int .u8 0,Value.int .u8 0,Value.int .u8 0,Value.int .u8 0,Value.int .u8 0,Value.int .u8 0,Value.int .u8 0,Value.int .u8 0,Value.int .u8 0,Value.int .u8 0,Value.int .u8 0,Value.int .u8 0,Value.int .u8 0,Value.int .u8 0,Value.int .u8 0,Value.int .u8 0,Value.int .u8 0,Value.int .u8 0,Value.int .u8 0,Value.int .u8 0,Value.int .u8 0,Value.int .u8 0,Value.int .u8 0,Value.int .u8 0,Value.int .u8 0,Value.int .u8 0,Value.int .u8 0] 34)=W2 at *;refine hKr.out (.pointer (some ⟨Hb,0,none⟩)) _ (qab hr.o) (fun _=>?_);clear hKr Kr;try simp only[zS]
  refine qam (rs:=[13]) (by kernel_rfl) (by simp) ?_;refine AllReadyG.ev none rfl rfl (fun Kr hKr=>?_) AllReadyG.nil;refine Eq.mpr (zax (by rfl)) ?_;refine wp_store_mid 34 (.tmp 3) (.tmp 22) rfl Hb 0 PL.toArray rfl rfl (by rw[Hj.o];exact HY.o) (by rw[Hj.o];kernel_rfl) (all_oneCell_toArray hE.o) ?_;obtain⟨W3,hW3⟩:∃ W3,W2.setCells Hb 0 PL.toArray.toList=W3:=⟨_,rfl⟩;have hh:Touch (fun x=>x=Hb) W2 W3:=by rw[←hW3];exact qaB (F:=fun x=>x=Hb) rfl _ _
  have HH:g<W2.heap.size:=(zaa.1 HA.o).1;have HQ:=zH ((hh.block g HH (fun e=>by have:=H6.o;omega)).trans HA.o);have H0:=zH (show W3.heap[Hb]?=some (.cells PL.toArray 34 (0,0))by rw[←hW3];exact qae hC.o PL (by simp[HC.o]));have HN:=zH (show Below Hb W1 W3 by rw[←hW3];exact below_setCells hp.o (zad _) _ _);have g1:W3.cell? ⟨g,1,none⟩=some (.slice (some ⟨ga,0,none⟩) q0 c0):=zC HQ.o;rw[hW3];clear hW3 hh HH;refine hKr.out _ _ (qaD 13 (by rfl) (by kernel_rfl)) (fun _=>?_);clear hKr Kr;try simp only[zS]
  refine qaf (by kernel_rfl) ?_ _;go_wp2;have Ho:=zH (show W0.heap.size=Hb by rw[←H6.o,←hJ.o];rfl);have ha:RtL W0 W3 Hb p ps 0:=by
   refine⟨?_,?_⟩
   ·rw[H0.o,←hD.o];rfl
   ·have Hk:=HO.o;rw[Ho.o]at Hk;exact Hk.trans HN.o
  have hR:=zH (show IntKind.i64.wrap ((q0:Int)-2)=((q0:Int)-2)from zaA _ (by omega));clear g1;go_loopw [4] (fun v wr=>∃ (k:Nat) (i:Int),v=.int .i64 i∧i+(k:Int)=(q0:Int)-2∧k≤k0∧RtL W0 wr Hb p ps k) (fun v _=>(intOf v+1).toNat)
  case atStart=>exact⟨0,_,rfl,by simp,by omega,ha⟩
  case round=>
   obtain⟨k,i,rfl,hik,hkk,hm⟩:=hrel;clear ha;by_cases hlt:k<k0
   ·obtain⟨i',hi'⟩:∃ i':Nat,i=(i':Int):=⟨i.toNat,by have:=Hp.o;omega⟩;subst hi';have i0:(0:Int)≤(i':Int):=by omega
    have he:i'<q0:=by omega
    have hP:(i':Int)<(q0:Int):=by omega
    have hQ:=H7.o i' he;obtain⟨x,hx⟩:∃ x,ps[k]?=some x:=⟨_,zab (by have:=Hp.o;omega)⟩;have hj:(p::ps).reverse[i']?=some x:=by
     have h1:=Hp.o;rw[List.getElem?_reverse (by simp;omega)];have e:(p::ps).length-1-i'=k+1:=by simp;omega
     rw[e];simpa using hx
    have Hu:x.length=32:=HU.o x (zba _ (zak hx));obtain⟨y,hy⟩:∃ y,qet nodeH p (ps.take k)=y:=⟨_,rfl⟩;have Hv:y.length=32:=by rw[←hy];exact qeR _ _ Hp.o.2.2.2
    have hd:qet nodeH p (ps.take (k+1))=nodeH x y:=by
     obtain⟨h1,h2⟩:=zac.1 hx;rw[zaw h1,qfB,hy,h2]
    have Hl:=hm.xb;rw[hy]at Hl;obtain⟨W4,hW4⟩:∃ W1,wr.drew=W1:=⟨_,rfl⟩;have Hw:=zH (show Below Hb W0 W4 by rw[←hW4];exact hm.bl.drew);have Hn:=zH (show W4.heap[g]?=some (.cells #[.int .i64 (N:Int),.slice (some ⟨ga,0,none⟩) q0 c0] 176 (0,0))from(Hw.o.block g (by have:=Ho.o;have:=Hy.o;have:=hu.o;omega)).trans HP.o);have He:=zH (show W4.heap[Hb]?=some (.cells (bv y).toArray 34 (0,0))by rw[←hW4];exact Hl);obtain⟨YL,hYL⟩:∃ x,bv y=x:=⟨_,rfl⟩;obtain⟨XL,hXL⟩:∃ z,bv x=z:=⟨_,rfl⟩;rw[hYL]at He;have Hf:=zH (show W4.cell? ⟨g,1,none⟩=some (.slice (some ⟨ga,0,none⟩) q0 c0)∧W4.rangeAt ga (i' * 32) XL∧W4.rangeAt Hb 0 YL from⟨zC Hn.o,by rw[←hXL];exact HW.o W4 i' x (Hw.o.mono (by have:=Ho.o;have:=Hy.o;omega)) hj,rangeAt_whole He.o⟩);have H8:=zH (qhc x y W4 Hu Hv (HK.o.below (by have:=HK.o.lt;have:=Ho.o;omega) Hw.o));obtain⟨ON,hON⟩:∃ z,bv (nodeH x y)=z:=⟨_,rfl⟩;rw[hXL,hYL,hON]at H8;have H1:=zH (show XL.length=32 by rw[←hXL,bv_len,Hu]);have Hq:=zH (show YL.length=32 by rw[←hYL,bv_len,Hv]);have Hg:=zH (show ON.toArray.size=32 by rw[←hON,zas,bv_len,qdt]);have HS:=zH (show ∀ v∈ON,v.oneCell'=true by rw[←hON];exact qak _);have HB:=zH (show bv (qet nodeH p (ps.take (k+1)))=ON by rw[hd];exact hON);have hw:=zH (And.intro hik hlt);have w7:IntKind.i64.wrap ((i':Int)-1)=((i':Int)-1):=zaA _ (by omega);clear hx hj Hu hy Hv hd Hl hm hYL hXL hON hik hkk hlt he;go_upto_region 7 with fail
    refine qad (S:=fun W'=>W'.cell? ⟨g,1,none⟩=some (.slice (some ⟨ga,0,none⟩) q0 c0)∧W'.rangeAt ga (i' * 32) XL∧W'.rangeAt Hb 0 YL) [9] (by kernel_rfl) (by rw[hW4];exact Hf.o) (fun _=>?_);rw[hW4];have hU:=zH hW4;clear hW4;refine zP 0 33 (.pointer (some ⟨g,0,none⟩)) Hf.o ?_;try simp only[zS]
    refine zP 1 34 (.pointer (some ⟨g,0,none⟩)) Hf.o ?_;try simp only[zS]
    refine zP 2 35 (.pointer (some ⟨g,1,none⟩)) Hf.o ?_;try simp only[zS]
    refine zL 3 36 (.slice (some ⟨ga,0,none⟩) q0 c0) rfl (Or.inl ⟨by rfl,fun W' hS=>by obtain⟨hS1,hS2,hS3⟩:=hS;go_simp⟩) (qab Hf.o) ?_;try simp only[zS]
    refine zP 4 37 (.int .i64 (i':Int)) Hf.o ?_;try simp only[zS]
    refine zP 5 38 (.pointer (some ⟨ga,i' * 32,none⟩)) Hf.o ?_;try simp only[zS]
    refine qaW (i:=6) (some 39) (v:=.agg XL.toArray) rfl rfl (by kernel_rfl) (by kernel_rfl) (by kernel_rfl) (by kernel_rfl) (fun _ _ _ h=>h) (yieldsIf_load_mid (by rfl) 34 (.tmp 38) rfl ga (i' * 32) rfl XL _ (fun W' hS=>hS.2.1) Tryz.underlying34 rfl (by rw[H1.o];kernel_rfl)) (qab Hf.o) ?_;try simp only[zS]
    refine qaW (i:=7) (some 40) (v:=.agg YL.toArray) rfl rfl (by kernel_rfl) (by kernel_rfl) (by kernel_rfl) (by kernel_rfl) (fun _ _ _ h=>h) (yieldsIf_load_mid (by rfl) 34 (.tmp 3) rfl Hb 0 rfl YL _ (fun W' hS=>hS.2.2) Tryz.underlying34 rfl (by rw[Hq.o];kernel_rfl)) (qab Hf.o) ?_;try simp only[zS]
    refine zE 8 41 rfl (fun Kr hKr=>?_);go_simp;go_at_call 92
    refine H8.o.mono ?_;rintro e W5 ⟨rfl,Hk⟩;have ho:=zH Hk;have HG:=(Hk.block g (zaa.1 Hn.o).1).trans Hn.o;have Hi:=(Hk.block Hb (zaa.1 He.o).1).trans He.o;have hs:=zH (show W5.cell? ⟨g,1,none⟩=some (.slice (some ⟨ga,0,none⟩) q0 c0)∧W5.rangeAt ga (i' * 32) XL∧W5.rangeAt Hb 0 YL from⟨zC HG,fun j v hv=>(Hk.cell (p:=⟨ga,i' * 32+j,none⟩) (by have:=ht.o;have:=Ho.o;have:=Hy.o;have h2:=(zaa.1 He.o).1;show ga<_;omega)).trans (Hf.o.2.1 j v hv),rangeAt_whole Hi⟩);have hI:=zH (show W5.there Hb 0 32 from there_of_block Hi 0 (by simp[Hq.o]));have HZ:=zH Hi;clear Hk HG Hi;refine hKr.out (.agg ON.toArray) _ (qab hs.o) (fun _=>?_);clear hKr Kr;try simp only[zS]
    refine qam (rs:=[9]) (by kernel_rfl) (by simp) ?_;refine AllReadyG.ev none rfl rfl (fun Kr hKr=>?_) AllReadyG.nil;refine Eq.mpr (zax (by rfl)) ?_;refine wp_store_mid 34 (.tmp 3) (.tmp 41) rfl Hb 0 ON.toArray rfl rfl (by rw[Hg.o];exact hI.o) (by rw[Hg.o];kernel_rfl) (all_oneCell_toArray HS.o) ?_;obtain⟨W6,hW6⟩:∃ W6,W5.setCells Hb 0 ON.toArray.toList=W6:=⟨_,rfl⟩;have hB:=zH (show RtL W0 W6 Hb p ps (k+1)from⟨by
     rw[←hW6,HB.o];exact qae HZ.o ON (by have:=Hg.o;have:=Hq.o;simp at *;omega),by
     rw[←hW6];exact below_setCells (Hw.o.trans (ho.o.mono (Nat.le_of_lt (zaa.1 He.o).1))) (zad _) _ _⟩)
    rw[hW6];clear hW6;refine hKr.out _ _ (qaD 9 (by rfl) (by kernel_rfl)) (fun _=>?_);clear hKr Kr;try simp only[zS]
    refine qaf (by kernel_rfl) ?_ _;go_wp2;have h1:=hw.o;refine⟨⟨k+1,_,rfl,by simp;omega,by omega,hB.o⟩,by simp[intOf]⟩
   ·have hX:¬(0≤i):=by have:=Hp.o;omega
    have H3:k=k0:=by omega
    have Hl:=hm.xb;rw[zaL (by have:=Hp.o;omega),H5.o]at Hl;obtain⟨O,hO⟩:∃ O,bv (mtH l)=O:=⟨_,rfl⟩;rw[hO]at Hl;have HR:=zH hO;have H2:O.length=32:=by rw[←hO,bv_len,←H5.o];exact qeR _ _ Hp.o.2.2.2
    have Hx:=zH H2;have Hg:=zH (show O.toArray.size=32 by rw[zas,H2]);have HB:=zH (show ∀ v∈O,v.oneCell'=true by rw[←hO];exact qak _);have Ht:=(hm.bl.block w.heap.size (by have:=Ho.o;have:=Hy.o;omega)).trans HD.o;have HX:=zH (show wr.there w.heap.size 0 32 from there_of_block Ht 0 (by simp));have HV:=zH Ht;have hK:=zH Hl;have Hw:=zH hm.bl;clear hm Hl hO H2 Ht hlt H3 hkk hik;go_wp2_with (first
     | ((with_reducible show wpList _ _ _ (⟨some 42,_,_,_,_,_⟩::_) _ _);(refine wpList_load_mid rfl 34 (.tmp 3) rfl Hb 0 rfl O _ (rangeAt_whole hK.o) Tryz.underlying34 rfl (by rw[Hx.o];kernel_rfl) ?_))
     | ((with_reducible show wpList _ _ _ (⟨none,.store 34 _ _,_,_,_,_⟩::_) _ _);go_loud (refine wpList_store_mid rfl 34 (.tmp 2) (.tmp 42) rfl w.heap.size 0 O.toArray rfl rfl (by rw[Hg.o];exact HX.o) (by rw[Hg.o];kernel_rfl) (all_oneCell_toArray HB.o) ?_)))
    refine za7 (v:=.agg O.toArray) ?_ rfl ?_
    ·exact qcl rfl rfl Hx.o (qae HV.o O (by simp[Hx.o]))
    ·exact⟨by rw[HR.o],below_setCells (HM.o.trans (Hw.o.mono (by have:=Ho.o;have:=Hy.o;omega))) (zad _) _ _⟩
end Go.Proofs.YtfcknhbmeofniaaGreatDoor
