/- Texts HvA HvB HvC. -/
import Derived.Test.YtpmebcgmgfcmiaaGreatDoorQ16
set_option linter.all false
set_option maxRecDepth 100000
set_option maxHeartbeats 16000000
namespace Go.Proofs.YtpmebcgmgfcmiaaGreatDoor
open Go.RowKit BT Go.Lib
section
section
variable {P:Program}
theorem qc3 {t e:TypeId}{i:TypeInfo}{size:Nat}(ht:P.underlying t=some (.slice e))(hi:P.info? e=some i)(hsize:i.size=size)(b off n c hi':Nat)(h0:0<hi')(h2:hi'≤c) :
  ∀ W,(Instr.slice t (.slice (some ⟨b,off,none⟩) n c) none (some (.int .i64 (hi':Int))) (some (.int .i64 (hi':Int)))).run P W=.ok (.slice (some ⟨b,off,none⟩) hi' hi') W:=fun W=>by
 have h3:hi'≠0:=by omega
 simp[Instr.slice,Instr.sliceBounds,Instr.sliceBound,asIntOf,zaM ht,sizeOf,typeInfo,hi,hsize,go_sem,h2,h3]
end
def HvF (S:Nat→Prop)(a b:Kd)(k:Bs)(L:List (Nat×Nat))(w:World)(e:Ending)(w':World):Prop:=
 ∃ Na Nb B c La Lb,e=.returned (.tuple #[.pointer (some ⟨Na,0,none⟩),.pointer (some ⟨Nb,0,none⟩),.slice B k.length c])∧k.length≤c∧NM w' (Fr S w w') a Na La∧NM w' (Fr S w w') b Nb Lb∧ByS w' (Fr S w w') B k∧(La++Lb).Perm L∧Below w.heap.size w w'
theorem qe0 {W:World}{S:Nat→Prop}{N:Nat}{K V:Option Addr}{n ck cv:Nat}{vk vv:List Value}{ps:List Pr}(hN:W.heap[N]?=some (.cells #[.bool true,.slice K n ck,.slice V n cv,.slice none 0 0] 106 (0,0)))(hn:ps.length=n)(hck:n≤ck)(hcv:n≤cv)(h0:S N)
  (hk:SrcS W S 1 K n vk)(hrk:RowV W S vk (ps.map Prod.fst))(hv:SrcS W S 1 V n vv)(hrv:RowV W S vv (ps.map Prod.snd)):NM W S (.leaf ps) N []:=by
 subst hn;unfold NM;exact⟨rfl,h0,K,ck,V,cv,none,0,vk,vv,⟨zC hN,zC hN,zC hN,zC hN,hck,hcv,zac _⟩,hk,hrk,hv,hrv⟩
theorem qbR {W:World}{a b c:Addr}{x y z:Value}(h:W.cell? a=some x∧W.cell? b=some y∧W.cell? c=some z)(o:Obj):(W.alloc o).cell? a=some x∧(W.alloc o).cell? b=some y∧(W.alloc o).cell? c=some z:=by
 have k:∀ (q:Addr) (v:Value),W.cell? q=some v→(W.alloc o).cell? q=some v:=fun q v hv=>by
  rw[World.cell?_alloc_some W q o (by rw[hv];rfl)];exact hv
 exact⟨k _ _ h.1,k _ _ h.2.1,k _ _ h.2.2⟩
theorem qlP {w W:World}{S:Nat→Prop}{ps:List Pr}{p:Pr}{i n kb ko vb vo o3 o4 ck cv Na Nb kl cc:Nat}{vk vv:List Value}{B:Option Addr}
  (ha:W.heap[Na]?=some (.cells #[.bool true,.slice (some ⟨kb,ko,none⟩) i i,.slice (some ⟨vb,vo,none⟩) i i,.slice none 0 0] 106 (0,0)))
  (hb:W.heap[Nb]?=some (.cells #[.bool true,.slice (some ⟨kb,o3,none⟩) (n-i) (ck-i),.slice (some ⟨vb,o4,none⟩) (n-i) (cv-i),.slice none 0 0] 106 (0,0)))
  (na:w.heap.size≤Na)(nb:w.heap.size≤Nb)(hsk:SrcS w S 1 (some ⟨kb,ko,none⟩) n vk)(hsv:SrcS w S 1 (some ⟨vb,vo,none⟩) n vv)(hrk:RowV w S vk (ps.map Prod.fst))(hrv:RowV w S vv (ps.map Prod.snd))(hby:ByS w S B p.1)(hnn:ps.length=n)(hin:(i:Int)<(n:Int))(hkk:n≤ck)(hvv:n≤cv)(hkl:p.1.length=kl)(hcc:kl≤cc)(ho:ko+i=o3∧vo+i=o4)(hB:Below w.heap.size w W) :
  HvF S (.leaf (ps.take i)) (.leaf (ps.drop i)) p.1 [] w (.returned (.tuple #[.pointer (some ⟨Na,0,none⟩),.pointer (some ⟨Nb,0,none⟩),.slice B kl cc])) W:=by
 have sub:∀ b,S b→Fr S w W b:=fun b h=>.inl h;have e:=Same.of_below (S:=S) hB;have la:=(zab.1 ha).1;have lb:=(zab.1 hb).1;refine⟨Na,Nb,B,cc,[],[],by rw[hkl],by omega,?_,?_,(hby.same e).mono sub,List.Perm.refl _,hB⟩
 ·refine qe0 ha (by rw[zag];omega) (zac _) (zac _) (.inr ⟨na,la⟩) (((hsk.below hB).take (j:=i) (by omega)).mono sub) ?_ (((hsv.below hB).take (j:=i) (by omega)).mono sub) ?_
  ·rw[zbG,zb7];exact(((hrk.same e).split i).1).mono sub
  ·rw[zbG,zb7];exact(((hrv.same e).split i).1).mono sub
 ·refine qe0 hb (by rw[zap];omega) (by omega) (by omega) (.inr ⟨nb,lb⟩) (((hsk.below hB).drop i (fun _=>by rw[←ho.1,zbG])).mono sub) ?_ (((hsv.below hB).drop i (fun _=>by rw[←ho.2,zbG])).mono sub) ?_
  ·rw[zbG,zb6];exact(((hrk.same e).split i).2).mono sub
  ·rw[zbG,zb6];exact(((hrv.same e).split i).2).mono sub
theorem qh7 {w:World}{S:Nat→Prop}{ps:List Pr}{N:Nat}(hn:NM w S (.leaf ps) N []){i:Nat}(h1:1≤i)(hi:i<ps.length)(hl:ps.length≤1048576) :
  Calls Tryz.prog 94 #[.pointer (some ⟨N,0,none⟩),.int .i64 (i:Nat)] w (HvF S (.leaf (ps.take i)) (.leaf (ps.drop i)) ((ps[i]?).map Prod.fst |>.getD []) [] w):=by
 have Hx:=hn;unfold NM at Hx;obtain⟨-,hS0,K,ck,V,cv,X,cx,vk,vv,hnc,hsk,hrk,hsv,hrv⟩:=Hx;obtain⟨p,hp⟩:∃ p,ps[i]?=some p:=⟨_,zaa hi⟩;have Hy:((ps[i]?).map Prod.fst |>.getD [])=p.1:=by rw[hp];rfl
 rw[Hy];obtain⟨B,cc,hkc,hcc,hby⟩:=hrk.get (j:=i) (k:=p.1) (by rw[zbc,hp];rfl);obtain⟨kb,ko,rfl,hSk,hck⟩:=hsk.at_ (by omega);obtain⟨vb,vo,rfl,hSv,hcv⟩:=hsv.at_ (by omega);obtain⟨n,hnn⟩:∃ n,ps.length=n:=⟨_,rfl⟩;rw[hnn]at hnc hi hl hsk hsv;obtain⟨i0,hi0,hz0,hz1,hz2⟩:=zaT qbP;obtain⟨c0,c1,c2,c3,hkk,hvv,_⟩:=hnc;have r1:=qc3 (P:=Tryz.prog) Tryz.underlying103 hi0 hz1 kb ko n ck i (by omega) (by omega);have r2:=qc3 (P:=Tryz.prog) Tryz.underlying103 hi0 hz1 vb vo n cv i (by omega) (by omega);obtain⟨a3,b3,r3⟩:=qam (P:=Tryz.prog) Tryz.underlying103 hi0 hz1 kb ko n ck i (by omega) hkk;obtain⟨a4,b4,r4⟩:=qam (P:=Tryz.prog) Tryz.underlying103 hi0 hz1 vb vo n cv i (by omega) hvv;obtain⟨o3,ho3⟩:∃ o,ko+i*1=o:=⟨_,rfl⟩;obtain⟨o4,ho4⟩:∃ o,vo+i*1=o:=⟨_,rfl⟩;obtain rfl:a3=⟨kb,o3,none⟩:=by rw[b3 (by omega),ho3]
 obtain rfl:a4=⟨vb,o4,none⟩:=by rw[b4 (by omega),ho4]
 have Hb:=hck i _ hkc;rw[show ko+i=o3 by omega]at Hb;have Hz:ko+i=o3:=by omega
 have Ha:=zH (show w.drew.cell? ⟨N,1,none⟩=some (.slice (some ⟨kb,ko,none⟩) n ck)∧w.drew.cell? ⟨N,2,none⟩=some (.slice (some ⟨vb,vo,none⟩) n cv)∧w.drew.cell? ⟨kb,o3,none⟩=some (.slice B p.1.length cc)from⟨c1,c2,Hb⟩);have Hu:=zH hsk;have Hv:=zH hsv;have Hs:=zH hrk;have Ht:=zH hrv;have Hp:=zH hby
 have Hr:=zH hnn;have Hm:=zH hcc;have HO:=zH (show ko+i=o3∧vo+i=o4 from⟨by omega,by omega⟩);have He:Hd (Below w.heap.size w w.drew):=zH (zai _ _).drew;have Hw:(i:Int)<(n:Int):=by omega
 obtain⟨kl,hkl⟩:∃ kl,p.1.length=kl:=⟨_,rfl⟩;rw[hkl]at Ha Hm Hb hkc;have Hq:=zH hkl;clear hn hsk hsv hrk hrv hby hp Hy hkc hcc hck hcv Hb hnn b3 b4 ho3 ho4 hkl c1 c2 c3;go_enter Tryz.func94,Tryz.ntmps94
 go_upto_region 2 with fail
 refine qac (S:=fun W=>W.cell? ⟨N,1,none⟩=some (.slice (some ⟨kb,ko,none⟩) n ck)∧W.cell? ⟨N,2,none⟩=some (.slice (some ⟨vb,vo,none⟩) n cv)∧W.cell? ⟨kb,o3,none⟩=some (.slice B kl cc)) [] (by kernel_rfl) Ha.o (fun _=>?_);generalize w.drew=W0 at Ha He⊢;refine zP 0 11 (.pointer (some ⟨N,0,none⟩)) Ha.o ?_;try simp only[zS]
 refine zP 1 12 (.pointer (some ⟨N,0,none⟩)) Ha.o ?_;try simp only[zS]
 refine zP 2 13 (.pointer (some ⟨N,1,none⟩)) Ha.o ?_;try simp only[zS]
 refine zL 3 14 (.slice (some ⟨kb,ko,none⟩) n ck) rfl (Or.inl ⟨by rfl,fun W hS=>by obtain⟨hS1,hS2,hS3⟩:=hS;go_simp⟩) (qaa Ha.o) ?_;try simp only[zS]
 refine zP 4 15 (.int .i64 (i:Int)) Ha.o ?_;try simp only[zS]
 refine zP 5 16 (.int .i64 (i:Int)) Ha.o ?_;try simp only[zS]
 refine zP 6 17 (.slice (some ⟨kb,ko,none⟩) i i) Ha.o ?_;try simp only[zS]
 refine zP 7 18 (.pointer (some ⟨N,0,none⟩)) Ha.o ?_;try simp only[zS]
 refine zP 8 19 (.pointer (some ⟨N,0,none⟩)) Ha.o ?_;try simp only[zS]
 refine zP 9 20 (.pointer (some ⟨N,2,none⟩)) Ha.o ?_;try simp only[zS]
 refine zL 10 21 (.slice (some ⟨vb,vo,none⟩) n cv) rfl (Or.inl ⟨by rfl,fun W hS=>by obtain⟨hS1,hS2,hS3⟩:=hS;go_simp⟩) (qaa Ha.o) ?_;try simp only[zS]
 refine zP 11 22 (.int .i64 (i:Int)) Ha.o ?_;try simp only[zS]
 refine zP 12 23 (.int .i64 (i:Int)) Ha.o ?_;try simp only[zS]
 refine zP 13 24 (.slice (some ⟨vb,vo,none⟩) i i) Ha.o ?_;try simp only[zS]
 refine zP 14 25 (.agg #[.bool true,.slice (some ⟨kb,ko,none⟩) i i,.slice (some ⟨vb,vo,none⟩) i i,.slice none 0 0]) Ha.o ?_;try simp only[zS]
 refine zP 16 27 (.pointer (some ⟨N,0,none⟩)) Ha.o ?_;try simp only[zS]
 refine zP 17 28 (.pointer (some ⟨N,0,none⟩)) Ha.o ?_;try simp only[zS]
 refine zP 18 29 (.pointer (some ⟨N,1,none⟩)) Ha.o ?_;try simp only[zS]
 refine zL 19 30 (.slice (some ⟨kb,ko,none⟩) n ck) rfl (Or.inl ⟨by rfl,fun W hS=>by obtain⟨hS1,hS2,hS3⟩:=hS;go_simp⟩) (qaa Ha.o) ?_;try simp only[zS]
 refine zP 20 31 (.int .i64 (i:Int)) Ha.o ?_;try simp only[zS]
 refine zP 21 32 (.slice (some ⟨kb,o3,none⟩) (n-i) (ck-i)) Ha.o ?_;try simp only[zS]
 refine zP 22 33 (.pointer (some ⟨N,0,none⟩)) Ha.o ?_;try simp only[zS]
 refine zP 23 34 (.pointer (some ⟨N,0,none⟩)) Ha.o ?_;try simp only[zS]
 refine zP 24 35 (.pointer (some ⟨N,2,none⟩)) Ha.o ?_;try simp only[zS]
 refine zL 25 36 (.slice (some ⟨vb,vo,none⟩) n cv) rfl (Or.inl ⟨by rfl,fun W hS=>by obtain⟨hS1,hS2,hS3⟩:=hS;go_simp⟩) (qaa Ha.o) ?_;try simp only[zS]
 refine zP 26 37 (.int .i64 (i:Int)) Ha.o ?_;try simp only[zS]
 refine zP 27 38 (.slice (some ⟨vb,o4,none⟩) (n-i) (cv-i)) Ha.o ?_;try simp only[zS]
 refine zP 28 39 (.agg #[.bool true,.slice (some ⟨kb,o3,none⟩) (n-i) (ck-i),.slice (some ⟨vb,o4,none⟩) (n-i) (cv-i),.slice none 0 0]) Ha.o ?_;try simp only[zS]
 refine zP 30 41 (.pointer (some ⟨N,0,none⟩)) Ha.o ?_;try simp only[zS]
 refine zP 31 42 (.pointer (some ⟨N,0,none⟩)) Ha.o ?_;try simp only[zS]
 refine zP 32 43 (.pointer (some ⟨N,1,none⟩)) Ha.o ?_;try simp only[zS]
 refine zL 33 44 (.slice (some ⟨kb,ko,none⟩) n ck) rfl (Or.inl ⟨by rfl,fun W hS=>by obtain⟨hS1,hS2,hS3⟩:=hS;go_simp⟩) (qaa Ha.o) ?_;try simp only[zS]
 refine zP 34 45 (.int .i64 (i:Int)) Ha.o ?_;try simp only[zS]
 refine zP 35 46 (.pointer (some ⟨kb,o3,none⟩)) Ha.o ?_;try simp only[zS]
 refine zL 36 47 (.slice B kl cc) rfl (Or.inl ⟨by rfl,fun W hS=>by obtain⟨hS1,hS2,hS3⟩:=hS;go_simp⟩) (qaa Ha.o) ?_;try simp only[zS]
 refine qae (rs:=[15,29]) (by kernel_rfl) (by simp) ?_;refine AllReadyG.cons rfl (fun Kr hKr=>?_) (AllReadyG.cons rfl (fun Kr hKr=>?_) AllReadyG.nil)
 ·skip
  go_simp;have Hf:=zH (He.o.alloc He.o.size (.cells #[.bool true,.slice (some ⟨kb,ko,none⟩) i i,.slice (some ⟨vb,vo,none⟩) i i,.slice none 0 0] 106));have Hk:=zH (qbR Ha.o (.cells #[.bool true,.slice (some ⟨kb,ko,none⟩) i i,.slice (some ⟨vb,vo,none⟩) i i,.slice none 0 0] 106));obtain⟨Na,hNa⟩:∃ C,W0.heap.size=C:=⟨_,rfl⟩;have Hn:=zH (show(W0.alloc (.cells #[.bool true,.slice (some ⟨kb,ko,none⟩) i i,.slice (some ⟨vb,vo,none⟩) i i,.slice none 0 0] 106)).heap[Na]?=some (.cells #[.bool true,.slice (some ⟨kb,ko,none⟩) i i,.slice (some ⟨vb,vo,none⟩) i i,.slice none 0 0] 106)by rw[←hNa];exact zaf W0 (.cells #[.bool true,.slice (some ⟨kb,ko,none⟩) i i,.slice (some ⟨vb,vo,none⟩) i i,.slice none 0 0] 106));have Hh:=zH (show w.heap.size≤Na by rw[←hNa];exact He.o.size);rw[hNa];clear hNa;generalize W0.alloc (.cells #[.bool true,.slice (some ⟨kb,ko,none⟩) i i,.slice (some ⟨vb,vo,none⟩) i i,.slice none 0 0] 106)=W1 at *;refine hKr.out _ _ (qaa Hk.o) (fun _=>?_);clear hKr Kr;try simp only[zS]
  refine zP 37 4 (.pointer (some ⟨Na,0,none⟩)) Hk.o ?_;try simp only[zS]
  refine qae (rs:=[29]) (by kernel_rfl) (by simp) ?_;refine AllReadyG.cons rfl (fun Kr hKr=>?_) AllReadyG.nil;go_simp;have Hl:=zH (Hf.o.alloc Hf.o.size (.cells #[.bool true,.slice (some ⟨kb,o3,none⟩) (n-i) (ck-i),.slice (some ⟨vb,o4,none⟩) (n-i) (cv-i),.slice none 0 0] 106));have Hc:=zH (qbR Hk.o (.cells #[.bool true,.slice (some ⟨kb,o3,none⟩) (n-i) (ck-i),.slice (some ⟨vb,o4,none⟩) (n-i) (cv-i),.slice none 0 0] 106));have Hg:=zH (qap (.cells #[.bool true,.slice (some ⟨kb,o3,none⟩) (n-i) (ck-i),.slice (some ⟨vb,o4,none⟩) (n-i) (cv-i),.slice none 0 0] 106) Hn.o);obtain⟨Nb,hNb⟩:∃ C,W1.heap.size=C:=⟨_,rfl⟩;have Hi:=zH (show(W1.alloc (.cells #[.bool true,.slice (some ⟨kb,o3,none⟩) (n-i) (ck-i),.slice (some ⟨vb,o4,none⟩) (n-i) (cv-i),.slice none 0 0] 106)).heap[Nb]?=some (.cells #[.bool true,.slice (some ⟨kb,o3,none⟩) (n-i) (ck-i),.slice (some ⟨vb,o4,none⟩) (n-i) (cv-i),.slice none 0 0] 106)by rw[←hNb];exact zaf W1 (.cells #[.bool true,.slice (some ⟨kb,o3,none⟩) (n-i) (ck-i),.slice (some ⟨vb,o4,none⟩) (n-i) (cv-i),.slice none 0 0] 106));have Hj:=zH (show w.heap.size≤Nb by rw[←hNb];exact Hf.o.size);rw[hNb];clear hNb;generalize W1.alloc (.cells #[.bool true,.slice (some ⟨kb,o3,none⟩) (n-i) (ck-i),.slice (some ⟨vb,o4,none⟩) (n-i) (cv-i),.slice none 0 0] 106)=W2 at *;refine hKr.out _ _ (qaa Hc.o) (fun _=>?_);clear hKr Kr;try simp only[zS]
  refine zP 38 5 (.pointer (some ⟨Nb,0,none⟩)) Hc.o ?_;try simp only[zS]
  refine zP 39 6 (.slice B kl cc) Hc.o ?_;try simp only[zS]
  refine qad (by kernel_rfl) ?_ _;go_wp2;refine zbs (v:=.tuple #[.pointer (some ⟨Na,0,none⟩),.pointer (some ⟨Nb,0,none⟩),.slice B kl cc]) (by simp[results,Tryz.results94,go_sem]) rfl ?_;exact qlP Hg.o Hi.o Hh.o Hj.o Hu.o Hv.o Hs.o Ht.o Hp.o Hr.o Hw hkk hvv Hq.o Hm.o HO.o Hl.o
 ·skip
  go_simp;have Hf:=zH (He.o.alloc He.o.size (.cells #[.bool true,.slice (some ⟨kb,o3,none⟩) (n-i) (ck-i),.slice (some ⟨vb,o4,none⟩) (n-i) (cv-i),.slice none 0 0] 106));have Hk:=zH (qbR Ha.o (.cells #[.bool true,.slice (some ⟨kb,o3,none⟩) (n-i) (ck-i),.slice (some ⟨vb,o4,none⟩) (n-i) (cv-i),.slice none 0 0] 106));obtain⟨Nb,hNb⟩:∃ C,W0.heap.size=C:=⟨_,rfl⟩;have Ho:=zH (show(W0.alloc (.cells #[.bool true,.slice (some ⟨kb,o3,none⟩) (n-i) (ck-i),.slice (some ⟨vb,o4,none⟩) (n-i) (cv-i),.slice none 0 0] 106)).heap[Nb]?=some (.cells #[.bool true,.slice (some ⟨kb,o3,none⟩) (n-i) (ck-i),.slice (some ⟨vb,o4,none⟩) (n-i) (cv-i),.slice none 0 0] 106)by rw[←hNb];exact zaf W0 (.cells #[.bool true,.slice (some ⟨kb,o3,none⟩) (n-i) (ck-i),.slice (some ⟨vb,o4,none⟩) (n-i) (cv-i),.slice none 0 0] 106));have Hj:=zH (show w.heap.size≤Nb by rw[←hNb];exact He.o.size);rw[hNb];clear hNb;generalize W0.alloc (.cells #[.bool true,.slice (some ⟨kb,o3,none⟩) (n-i) (ck-i),.slice (some ⟨vb,o4,none⟩) (n-i) (cv-i),.slice none 0 0] 106)=W1 at *;refine hKr.out _ _ (qaa Hk.o) (fun _=>?_);clear hKr Kr;try simp only[zS]
  refine qae (rs:=[15]) (by kernel_rfl) (by simp) ?_;refine AllReadyG.cons rfl (fun Kr hKr=>?_) AllReadyG.nil;go_simp;have Hl:=zH (Hf.o.alloc Hf.o.size (.cells #[.bool true,.slice (some ⟨kb,ko,none⟩) i i,.slice (some ⟨vb,vo,none⟩) i i,.slice none 0 0] 106));have Hc:=zH (qbR Hk.o (.cells #[.bool true,.slice (some ⟨kb,ko,none⟩) i i,.slice (some ⟨vb,vo,none⟩) i i,.slice none 0 0] 106));have Hi:=zH (qap (.cells #[.bool true,.slice (some ⟨kb,ko,none⟩) i i,.slice (some ⟨vb,vo,none⟩) i i,.slice none 0 0] 106) Ho.o);obtain⟨Na,hNa⟩:∃ C,W1.heap.size=C:=⟨_,rfl⟩;have Hg:=zH (show(W1.alloc (.cells #[.bool true,.slice (some ⟨kb,ko,none⟩) i i,.slice (some ⟨vb,vo,none⟩) i i,.slice none 0 0] 106)).heap[Na]?=some (.cells #[.bool true,.slice (some ⟨kb,ko,none⟩) i i,.slice (some ⟨vb,vo,none⟩) i i,.slice none 0 0] 106)by rw[←hNa];exact zaf W1 (.cells #[.bool true,.slice (some ⟨kb,ko,none⟩) i i,.slice (some ⟨vb,vo,none⟩) i i,.slice none 0 0] 106));have Hh:=zH (show w.heap.size≤Na by rw[←hNa];exact Hf.o.size);rw[hNa];clear hNa;generalize W1.alloc (.cells #[.bool true,.slice (some ⟨kb,ko,none⟩) i i,.slice (some ⟨vb,vo,none⟩) i i,.slice none 0 0] 106)=W2 at *;refine hKr.out _ _ (qaa Hc.o) (fun _=>?_);clear hKr Kr;try simp only[zS]
  refine zP 37 4 (.pointer (some ⟨Na,0,none⟩)) Hc.o ?_;try simp only[zS]
  refine zP 38 5 (.pointer (some ⟨Nb,0,none⟩)) Hc.o ?_;try simp only[zS]
  refine zP 39 6 (.slice B kl cc) Hc.o ?_;try simp only[zS]
  refine qad (by kernel_rfl) ?_ _;go_wp2;refine zbs (v:=.tuple #[.pointer (some ⟨Na,0,none⟩),.pointer (some ⟨Nb,0,none⟩),.slice B kl cc]) (by simp[results,Tryz.results94,go_sem]) rfl ?_;exact qlP Hg.o Hi.o Hh.o Hj.o Hu.o Hv.o Hs.o Ht.o Hp.o Hr.o Hw hkk hvv Hq.o Hm.o HO.o Hl.o
end
variable {W w:World}{S:Nat→Prop}{N n nx ck cx i Na Nb:Nat}{vk:List Value}{vs:List Kv}{ks:List Bs}{xs:List Kd}{k:Kd}
theorem qeW:∀ (vs:List Kv) (j:Nat),(vs.flatMap qaI).take (j*2)=(vs.take j).flatMap qaI
 | [],j=>by simp
 | v::vs,0=>by simp
 | v::vs,j+1=>by
  rw[zaq,zbn,zaq,show(j+1)*2=(qaI v).length+j*2 by rw[qbw];omega,List.take_length_add_append,qeW]
theorem qeV:∀ (vs:List Kv) (j:Nat),(vs.flatMap qaI).drop (j*2)=(vs.drop j).flatMap qaI
 | [],j=>by simp
 | v::vs,0=>by simp
 | v::vs,j+1=>by
  rw[zaq,zbQ,show(j+1)*2=(qaI v).length+j*2 by rw[qbw];omega,List.drop_length_add_append,qeV]
theorem qlu (t d L1 L2:List (Nat×Nat)):((t++L1)++(d++L2)).Perm ((t++d)++(L1++L2)):=by
 simp only[zaj];refine zcq t ?_;rw[←zaj,←zaj];exact List.Perm.append_right L2 List.perm_append_comm
theorem qee {K X:Option Addr}{L:List (Nat×Nat)}(hN:W.heap[N]?=some (.cells #[.bool false,.slice K n ck,.slice none 0 0,.slice X nx cx] 106 (0,0)))(hn:ks.length=n)(hx:xs.length=nx)(hck:n≤ck)(hcx:nx≤cx)(h0:S N)
  (hk:SrcS W S 1 K n vk)(hrk:RowV W S vk ks)(hxs:SrcS W S 2 X nx (vs.flatMap qaI))(hkm:KM W S xs vs L):NM W S (.inner ks xs) N (slotsAt X nx++L):=by
 subst hn hx;unfold NM;exact⟨h0,K,ck,none,0,X,cx,vk,vs,L,⟨zC hN,zC hN,zC hN,zC hN,hck,zac _,hcx⟩,hk,hrk,hxs,hkm,rfl⟩
theorem KM.mono' {S':Nat→Prop}{L:List (Nat×Nat)}(h:KM w S xs vs L)(hS:∀ b,S b→S' b):KM w S' xs vs L:=KM.mono hS xs vs L h
theorem qka {L':List (Nat×Nat)}{k:Bs}{j kb ko xb xo o5 kl cc:Nat}{a3:Addr}{B:Option Addr}
  (ha:W.heap[Na]?=some (.cells #[.bool false,.slice (some ⟨kb,ko,none⟩) i i,.slice none 0 0,.slice (some ⟨xb,xo,none⟩) j j] 106 (0,0)))
  (hb:W.heap[Nb]?=some (.cells #[.bool false,.slice (some a3) (n-j) (ck-j),.slice none 0 0,.slice (some ⟨xb,o5,none⟩) (nx-j) (cx-j)] 106 (0,0)))
  (na:w.heap.size≤Na)(nb:w.heap.size≤Nb)(hsk:SrcS w S 1 (some ⟨kb,ko,none⟩) n vk)(hsx:SrcS w S 2 (some ⟨xb,xo,none⟩) nx (vs.flatMap qaI))(hrk:RowV w S vk ks)(hkm:KM w S xs vs L')(hby:ByS w S B k)(hnn:ks.length=n)(hxl:xs.length=nx)(hnx:nx=n+1)(hin:i<n)(hj:i+1=j)(hkk:n≤ck)(hxx:nx≤cx)(hkl:k.length=kl)(hcc:kl≤cc)(ha3:j<ck→a3=⟨kb,ko+j*1,none⟩)(ho:xo+j*2=o5)(hB:Below w.heap.size w W) :
  HvF S (.inner (ks.take i) (xs.take (i+1))) (.inner (ks.drop (i+1)) (xs.drop (i+1))) k (slotsAt (some ⟨xb,xo,none⟩) nx++L') w (.returned (.tuple #[.pointer (some ⟨Na,0,none⟩),.pointer (some ⟨Nb,0,none⟩),.slice B kl cc])) W:=by
 subst hj;have sub:∀ b,S b→Fr S w W b:=fun b h=>.inl h;have e:=Same.of_below (S:=S) hB;have la:=(zab.1 ha).1;have lb:=(zab.1 hb).1;have Ha:=hkm.below hB;obtain⟨L1,L2,rfl,m1,m2⟩:=qdy (i+1) Ha;have t1:=(hsx.below hB).take (j:=i+1) (by omega);have t2:=(hsx.below hB).drop (i+1) (A:=some ⟨xb,o5,none⟩) (fun _=>by rw[ho]);rw[qeW]at t1;rw[qeV]at t2;have s1:=qjH (some ⟨xb,xo,none⟩) (n:=nx) (j:=i+1) (by omega);have s2:=qjG (b:=xb) (off:=xo) (n:=nx) (i+1) (A:=some ⟨xb,o5,none⟩) (fun _=>by rw[ho]) (by omega);refine⟨Na,Nb,B,cc,slotsAt (some ⟨xb,xo,none⟩) (i+1)++L1,slotsAt (some ⟨xb,o5,none⟩) (nx-(i+1))++L2,by rw[hkl],by omega,?_,?_,(hby.same e).mono sub,?_,hB⟩
 ·refine qee (vs:=vs.take (i+1)) ha (by rw[zag];omega) (by rw[zag];omega) (zac _) (zac _) (.inr ⟨na,la⟩) (((hsk.below hB).take (j:=i) (by omega)).mono sub) ?_ (t1.mono sub) (m1.mono' sub);rw[zbG];exact(((hrk.same e).split i).1).mono sub
 ·refine qee (vs:=vs.drop (i+1)) hb (by rw[zap];omega) (by rw[zap];omega) (by omega) (by omega) (.inr ⟨nb,lb⟩) (((hsk.below hB).drop (i+1) (fun h=>by rw[ha3 (by omega)])).mono sub) ?_ (t2.mono sub) (m2.mono' sub);rw[zbG];exact(((hrk.same e).split (i+1)).2).mono sub
 ·rw[s1,s2];have:=qlu ((slotsAt (some ⟨xb,xo,none⟩) nx).take (i+1)) ((slotsAt (some ⟨xb,xo,none⟩) nx).drop (i+1)) L1 L2
  rwa [zav]at this
theorem qhf {L:List (Nat×Nat)}(hn:NM w S (.inner ks xs) N L)(h1:1≤i)(hi:i<ks.length)(hxl:xs.length=ks.length+1)(hl:ks.length≤524288) :
  Calls Tryz.prog 94 #[.pointer (some ⟨N,0,none⟩),.int .i64 (i:Nat)] w (HvF S (.inner (ks.take i) (xs.take (i+1))) (.inner (ks.drop (i+1)) (xs.drop (i+1))) ((ks[i]?).getD []) L w):=by
 have Hy:=hn;unfold NM at Hy;obtain⟨hS0,K,ck,V,cv,X,cx,vk,vs,L',hnc,hsk,hrk,hsx,hkm,rfl⟩:=Hy;obtain⟨p,hp⟩:∃ p,ks[i]?=some p:=⟨_,zaa hi⟩;have Hz:((ks[i]?).getD [])=p:=by rw[hp];rfl
 rw[Hz];obtain⟨B,cc,hkc,hcc,hby⟩:=hrk.get hp;obtain⟨kb,ko,rfl,hSk,hck⟩:=hsk.at_ (by omega);obtain⟨xb,xo,rfl,hSx,hcx⟩:=hsx.at_ (by omega);obtain⟨n,hnn⟩:∃ n,ks.length=n:=⟨_,rfl⟩;obtain⟨nx,hnx⟩:∃ n,xs.length=n:=⟨_,rfl⟩;obtain⟨j,hj⟩:∃ j,i+1=j:=⟨_,rfl⟩;rw[hnn]at hnc hi hl hsk hxl;rw[hnx]at hnc hsx hxl⊢;obtain⟨i0,hi0,hz0,hz1,hz2⟩:=zaT qbP;obtain⟨i1,hi1,hy0,hy1,hy2⟩:=qcr;obtain⟨c0,c1,c2,c3,hkk,hvv,hxx⟩:=hnc;have r1:=qc3 (P:=Tryz.prog) Tryz.underlying103 hi0 hz1 kb ko n ck i (by omega) (by omega);have r2:=qc3 (P:=Tryz.prog) Tryz.underlying104 hi1 hy1 xb xo nx cx j (by omega) (by omega);obtain⟨a3,b3,r3⟩:=qam (P:=Tryz.prog) Tryz.underlying103 hi0 hz1 kb ko n ck j (by omega) hkk;obtain⟨a4,b4,r4⟩:=qam (P:=Tryz.prog) Tryz.underlying104 hi1 hy1 xb xo nx cx j (by omega) hxx;obtain⟨o5,ho5⟩:∃ o,xo+j*2=o:=⟨_,rfl⟩;obtain rfl:a4=⟨xb,o5,none⟩:=by rw[b4 (by omega),ho5]
 obtain⟨o3,ho3⟩:∃ o,ko+i=o:=⟨_,rfl⟩;have Hb:=hck i _ hkc;rw[ho3]at Hb;have Ha:=zH (show w.drew.cell? ⟨N,1,none⟩=some (.slice (some ⟨kb,ko,none⟩) n ck)∧w.drew.cell? ⟨N,3,none⟩=some (.slice (some ⟨xb,xo,none⟩) nx cx)∧w.drew.cell? ⟨kb,o3,none⟩=some (.slice B p.length cc)from⟨c1,c3,Hb⟩);have Hw:=zH hsk;have Hx:=zH hsx;have Hv:=zH hrk;have Hs:=zH hkm;have Hq:=zH hby
 have Ht:=zH hnn;have Hu:=zH hnx;have Hm:=zH hcc;have Hp:=zH b3;have HO:=zH ho5;have HJ:=zH (show nx=n+1∧i<n∧i+1=j from⟨hxl,hi,hj⟩);have He:Hd (Below w.heap.size w w.drew):=zH (zai _ _).drew;have ej:IntKind.i64.wrap ((i:Int)+1)=(j:Int):=by rw[zaJ _ (by omega)];omega
 obtain⟨kl,hkl⟩:∃ kl,p.length=kl:=⟨_,rfl⟩;rw[hkl]at Ha Hm Hb hkc;have Hr:=zH hkl;have HA:(i:Int)<(n:Int):=by omega
 clear hn hsk hsx hrk hkm hby hp Hz hkc hcc hck hcx Hb hnn hnx b3 b4 ho5 hkl c1 c2 c3 hxl hj;go_enter Tryz.func94,Tryz.ntmps94
 go_upto_region 3 with fail
 refine qac (S:=fun W=>W.cell? ⟨N,1,none⟩=some (.slice (some ⟨kb,ko,none⟩) n ck)∧W.cell? ⟨N,3,none⟩=some (.slice (some ⟨xb,xo,none⟩) nx cx)∧W.cell? ⟨kb,o3,none⟩=some (.slice B kl cc)) [] (by kernel_rfl) Ha.o (fun _=>?_);generalize w.drew=W0 at Ha He⊢;refine zP 0 48 (.pointer (some ⟨N,0,none⟩)) Ha.o ?_;try simp only[zS]
 refine zP 1 49 (.pointer (some ⟨N,0,none⟩)) Ha.o ?_;try simp only[zS]
 refine zP 2 50 (.pointer (some ⟨N,1,none⟩)) Ha.o ?_;try simp only[zS]
 refine zL 3 51 (.slice (some ⟨kb,ko,none⟩) n ck) rfl (Or.inl ⟨by rfl,fun W hS=>by obtain⟨hS1,hS2,hS3⟩:=hS;go_simp⟩) (qaa Ha.o) ?_;try simp only[zS]
 refine zP 4 52 (.int .i64 (i:Int)) Ha.o ?_;try simp only[zS]
 refine zP 5 53 (.int .i64 (i:Int)) Ha.o ?_;try simp only[zS]
 refine zP 6 54 (.slice (some ⟨kb,ko,none⟩) i i) Ha.o ?_;try simp only[zS]
 refine zP 7 55 (.pointer (some ⟨N,0,none⟩)) Ha.o ?_;try simp only[zS]
 refine zP 8 56 (.pointer (some ⟨N,0,none⟩)) Ha.o ?_;try simp only[zS]
 refine zP 9 57 (.pointer (some ⟨N,3,none⟩)) Ha.o ?_;try simp only[zS]
 refine zL 10 58 (.slice (some ⟨xb,xo,none⟩) nx cx) rfl (Or.inl ⟨by rfl,fun W hS=>by obtain⟨hS1,hS2,hS3⟩:=hS;go_simp⟩) (qaa Ha.o) ?_;try simp only[zS]
 refine zP 11 59 (.int .i64 (i:Int)) Ha.o ?_;try simp only[zS]
 refine zP 12 60 (.int .i64 (j:Int)) Ha.o ?_;try simp only[zS]
 refine zP 13 61 (.int .i64 (i:Int)) Ha.o ?_;try simp only[zS]
 refine zP 14 62 (.int .i64 (j:Int)) Ha.o ?_;try simp only[zS]
 refine zP 15 63 (.slice (some ⟨xb,xo,none⟩) j j) Ha.o ?_;try simp only[zS]
 refine zP 16 64 (.agg #[.bool false,.slice (some ⟨kb,ko,none⟩) i i,.slice none 0 0,.slice (some ⟨xb,xo,none⟩) j j]) Ha.o ?_;try simp only[zS]
 refine zP 18 66 (.pointer (some ⟨N,0,none⟩)) Ha.o ?_;try simp only[zS]
 refine zP 19 67 (.pointer (some ⟨N,0,none⟩)) Ha.o ?_;try simp only[zS]
 refine zP 20 68 (.pointer (some ⟨N,1,none⟩)) Ha.o ?_;try simp only[zS]
 refine zL 21 69 (.slice (some ⟨kb,ko,none⟩) n ck) rfl (Or.inl ⟨by rfl,fun W hS=>by obtain⟨hS1,hS2,hS3⟩:=hS;go_simp⟩) (qaa Ha.o) ?_;try simp only[zS]
 refine zP 22 70 (.int .i64 (i:Int)) Ha.o ?_;try simp only[zS]
 refine zP 23 71 (.int .i64 (j:Int)) Ha.o ?_;try simp only[zS]
 refine zP 24 72 (.slice (some a3) (n-j) (ck-j)) Ha.o ?_;try simp only[zS]
 refine zP 25 73 (.pointer (some ⟨N,0,none⟩)) Ha.o ?_;try simp only[zS]
 refine zP 26 74 (.pointer (some ⟨N,0,none⟩)) Ha.o ?_;try simp only[zS]
 refine zP 27 75 (.pointer (some ⟨N,3,none⟩)) Ha.o ?_;try simp only[zS]
 refine zL 28 76 (.slice (some ⟨xb,xo,none⟩) nx cx) rfl (Or.inl ⟨by rfl,fun W hS=>by obtain⟨hS1,hS2,hS3⟩:=hS;go_simp⟩) (qaa Ha.o) ?_;try simp only[zS]
 refine zP 29 77 (.int .i64 (i:Int)) Ha.o ?_;try simp only[zS]
 refine zP 30 78 (.int .i64 (j:Int)) Ha.o ?_;try simp only[zS]
 refine zP 31 79 (.slice (some ⟨xb,o5,none⟩) (nx-j) (cx-j)) Ha.o ?_;try simp only[zS]
 refine zP 32 80 (.agg #[.bool false,.slice (some a3) (n-j) (ck-j),.slice none 0 0,.slice (some ⟨xb,o5,none⟩) (nx-j) (cx-j)]) Ha.o ?_;try simp only[zS]
 refine zP 34 82 (.pointer (some ⟨N,0,none⟩)) Ha.o ?_;try simp only[zS]
 refine zP 35 83 (.pointer (some ⟨N,0,none⟩)) Ha.o ?_;try simp only[zS]
 refine zP 36 84 (.pointer (some ⟨N,1,none⟩)) Ha.o ?_;try simp only[zS]
 refine zL 37 85 (.slice (some ⟨kb,ko,none⟩) n ck) rfl (Or.inl ⟨by rfl,fun W hS=>by obtain⟨hS1,hS2,hS3⟩:=hS;go_simp⟩) (qaa Ha.o) ?_;try simp only[zS]
 refine zP 38 86 (.int .i64 (i:Int)) Ha.o ?_;try simp only[zS]
 refine zP 39 87 (.pointer (some ⟨kb,o3,none⟩)) Ha.o ?_;try simp only[zS]
 refine zL 40 88 (.slice B kl cc) rfl (Or.inl ⟨by rfl,fun W hS=>by obtain⟨hS1,hS2,hS3⟩:=hS;go_simp⟩) (qaa Ha.o) ?_;try simp only[zS]
 refine qae (rs:=[17,33]) (by kernel_rfl) (by simp) ?_;refine AllReadyG.cons rfl (fun Kr hKr=>?_) (AllReadyG.cons rfl (fun Kr hKr=>?_) AllReadyG.nil)
 ·skip
  go_simp;have Hf:=zH (He.o.alloc He.o.size (.cells #[.bool false,.slice (some ⟨kb,ko,none⟩) i i,.slice none 0 0,.slice (some ⟨xb,xo,none⟩) j j] 106));have Hk:=zH (qbR Ha.o (.cells #[.bool false,.slice (some ⟨kb,ko,none⟩) i i,.slice none 0 0,.slice (some ⟨xb,xo,none⟩) j j] 106));obtain⟨Na,hNa⟩:∃ C,W0.heap.size=C:=⟨_,rfl⟩;have Hn:=zH (show(W0.alloc (.cells #[.bool false,.slice (some ⟨kb,ko,none⟩) i i,.slice none 0 0,.slice (some ⟨xb,xo,none⟩) j j] 106)).heap[Na]?=some (.cells #[.bool false,.slice (some ⟨kb,ko,none⟩) i i,.slice none 0 0,.slice (some ⟨xb,xo,none⟩) j j] 106)by rw[←hNa];exact zaf W0 (.cells #[.bool false,.slice (some ⟨kb,ko,none⟩) i i,.slice none 0 0,.slice (some ⟨xb,xo,none⟩) j j] 106));have Hh:=zH (show w.heap.size≤Na by rw[←hNa];exact He.o.size);rw[hNa];clear hNa;generalize W0.alloc (.cells #[.bool false,.slice (some ⟨kb,ko,none⟩) i i,.slice none 0 0,.slice (some ⟨xb,xo,none⟩) j j] 106)=W1 at *;refine hKr.out _ _ (qaa Hk.o) (fun _=>?_);clear hKr Kr;try simp only[zS]
  refine zP 41 4 (.pointer (some ⟨Na,0,none⟩)) Hk.o ?_;try simp only[zS]
  refine qae (rs:=[33]) (by kernel_rfl) (by simp) ?_;refine AllReadyG.cons rfl (fun Kr hKr=>?_) AllReadyG.nil;go_simp;have Hl:=zH (Hf.o.alloc Hf.o.size (.cells #[.bool false,.slice (some a3) (n-j) (ck-j),.slice none 0 0,.slice (some ⟨xb,o5,none⟩) (nx-j) (cx-j)] 106));have Hc:=zH (qbR Hk.o (.cells #[.bool false,.slice (some a3) (n-j) (ck-j),.slice none 0 0,.slice (some ⟨xb,o5,none⟩) (nx-j) (cx-j)] 106));have Hg:=zH (qap (.cells #[.bool false,.slice (some a3) (n-j) (ck-j),.slice none 0 0,.slice (some ⟨xb,o5,none⟩) (nx-j) (cx-j)] 106) Hn.o);obtain⟨Nb,hNb⟩:∃ C,W1.heap.size=C:=⟨_,rfl⟩;have Hi:=zH (show(W1.alloc (.cells #[.bool false,.slice (some a3) (n-j) (ck-j),.slice none 0 0,.slice (some ⟨xb,o5,none⟩) (nx-j) (cx-j)] 106)).heap[Nb]?=some (.cells #[.bool false,.slice (some a3) (n-j) (ck-j),.slice none 0 0,.slice (some ⟨xb,o5,none⟩) (nx-j) (cx-j)] 106)by rw[←hNb];exact zaf W1 (.cells #[.bool false,.slice (some a3) (n-j) (ck-j),.slice none 0 0,.slice (some ⟨xb,o5,none⟩) (nx-j) (cx-j)] 106));have Hj:=zH (show w.heap.size≤Nb by rw[←hNb];exact Hf.o.size);rw[hNb];clear hNb;generalize W1.alloc (.cells #[.bool false,.slice (some a3) (n-j) (ck-j),.slice none 0 0,.slice (some ⟨xb,o5,none⟩) (nx-j) (cx-j)] 106)=W2 at *;refine hKr.out _ _ (qaa Hc.o) (fun _=>?_);clear hKr Kr;try simp only[zS]
  refine zP 42 5 (.pointer (some ⟨Nb,0,none⟩)) Hc.o ?_;try simp only[zS]
  refine zP 43 6 (.slice B kl cc) Hc.o ?_;try simp only[zS]
  refine qad (by kernel_rfl) ?_ _;go_wp2;refine zbs (v:=.tuple #[.pointer (some ⟨Na,0,none⟩),.pointer (some ⟨Nb,0,none⟩),.slice B kl cc]) (by simp[results,Tryz.results94,go_sem]) rfl ?_;exact qka Hg.o Hi.o Hh.o Hj.o Hw.o Hx.o Hv.o Hs.o Hq.o Ht.o Hu.o HJ.o.1 HJ.o.2.1 HJ.o.2.2 hkk hxx Hr.o Hm.o Hp.o HO.o Hl.o
 ·skip
  go_simp;have Hf:=zH (He.o.alloc He.o.size (.cells #[.bool false,.slice (some a3) (n-j) (ck-j),.slice none 0 0,.slice (some ⟨xb,o5,none⟩) (nx-j) (cx-j)] 106));have Hk:=zH (qbR Ha.o (.cells #[.bool false,.slice (some a3) (n-j) (ck-j),.slice none 0 0,.slice (some ⟨xb,o5,none⟩) (nx-j) (cx-j)] 106));obtain⟨Nb,hNb⟩:∃ C,W0.heap.size=C:=⟨_,rfl⟩;have Ho:=zH (show(W0.alloc (.cells #[.bool false,.slice (some a3) (n-j) (ck-j),.slice none 0 0,.slice (some ⟨xb,o5,none⟩) (nx-j) (cx-j)] 106)).heap[Nb]?=some (.cells #[.bool false,.slice (some a3) (n-j) (ck-j),.slice none 0 0,.slice (some ⟨xb,o5,none⟩) (nx-j) (cx-j)] 106)by rw[←hNb];exact zaf W0 (.cells #[.bool false,.slice (some a3) (n-j) (ck-j),.slice none 0 0,.slice (some ⟨xb,o5,none⟩) (nx-j) (cx-j)] 106));have Hj:=zH (show w.heap.size≤Nb by rw[←hNb];exact He.o.size);rw[hNb];clear hNb;generalize W0.alloc (.cells #[.bool false,.slice (some a3) (n-j) (ck-j),.slice none 0 0,.slice (some ⟨xb,o5,none⟩) (nx-j) (cx-j)] 106)=W1 at *;refine hKr.out _ _ (qaa Hk.o) (fun _=>?_);clear hKr Kr;try simp only[zS]
  refine qae (rs:=[17]) (by kernel_rfl) (by simp) ?_;refine AllReadyG.cons rfl (fun Kr hKr=>?_) AllReadyG.nil;go_simp;have Hl:=zH (Hf.o.alloc Hf.o.size (.cells #[.bool false,.slice (some ⟨kb,ko,none⟩) i i,.slice none 0 0,.slice (some ⟨xb,xo,none⟩) j j] 106));have Hc:=zH (qbR Hk.o (.cells #[.bool false,.slice (some ⟨kb,ko,none⟩) i i,.slice none 0 0,.slice (some ⟨xb,xo,none⟩) j j] 106));have Hi:=zH (qap (.cells #[.bool false,.slice (some ⟨kb,ko,none⟩) i i,.slice none 0 0,.slice (some ⟨xb,xo,none⟩) j j] 106) Ho.o);obtain⟨Na,hNa⟩:∃ C,W1.heap.size=C:=⟨_,rfl⟩;have Hg:=zH (show(W1.alloc (.cells #[.bool false,.slice (some ⟨kb,ko,none⟩) i i,.slice none 0 0,.slice (some ⟨xb,xo,none⟩) j j] 106)).heap[Na]?=some (.cells #[.bool false,.slice (some ⟨kb,ko,none⟩) i i,.slice none 0 0,.slice (some ⟨xb,xo,none⟩) j j] 106)by rw[←hNa];exact zaf W1 (.cells #[.bool false,.slice (some ⟨kb,ko,none⟩) i i,.slice none 0 0,.slice (some ⟨xb,xo,none⟩) j j] 106));have Hh:=zH (show w.heap.size≤Na by rw[←hNa];exact Hf.o.size);rw[hNa];clear hNa;generalize W1.alloc (.cells #[.bool false,.slice (some ⟨kb,ko,none⟩) i i,.slice none 0 0,.slice (some ⟨xb,xo,none⟩) j j] 106)=W2 at *;refine hKr.out _ _ (qaa Hc.o) (fun _=>?_);clear hKr Kr;try simp only[zS]
  refine zP 41 4 (.pointer (some ⟨Na,0,none⟩)) Hc.o ?_;try simp only[zS]
  refine zP 42 5 (.pointer (some ⟨Nb,0,none⟩)) Hc.o ?_;try simp only[zS]
  refine zP 43 6 (.slice B kl cc) Hc.o ?_;try simp only[zS]
  refine qad (by kernel_rfl) ?_ _;go_wp2;refine zbs (v:=.tuple #[.pointer (some ⟨Na,0,none⟩),.pointer (some ⟨Nb,0,none⟩),.slice B kl cc]) (by simp[results,Tryz.results94,go_sem]) rfl ?_;exact qka Hg.o Hi.o Hh.o Hj.o Hw.o Hx.o Hv.o Hs.o Hq.o Ht.o Hu.o HJ.o.1 HJ.o.2.1 HJ.o.2.2 hkk hxx Hr.o Hm.o Hp.o HO.o Hl.o
def qlL:Kd→Prop
 | .page _=>False
 | .leaf _=>True
 | .inner ks xs=>xs.length=ks.length+1
theorem qbE (ps:List Pr):qaL ps=ksize (ps.map Prod.fst)+ksize (ps.map Prod.snd):=by
 induction ps with
 | nil=>rfl
 | cons p ps ih=>
  unfold qaL ksize at ih⊢;simp only[zbp,List.sum_cons]at ih⊢;omega
theorem qaN (l:List Bs):l.length≤ksize l:=by
 induction l with
 | nil=>exact zac _
 | cons k l ih=>
  unfold ksize at ih⊢;simp only[zbp,List.sum_cons,zao]at ih⊢;omega
theorem qdi {L:List (Nat×Nat)}(h:NM w S k N L)(hb:nsize k≤1048576):Calls Tryz.prog 93 #[.pointer (some ⟨N,0,none⟩)] w (SzF (nsize k) w):=by
 cases k with
 | page p=>simp only[NM]at h
 | leaf ps=>
  simp only[NM]at h;obtain⟨-,hS0,K,ck,V,cv,X,cx,vk,vv,hnc,hsk,hrk,hsv,hrv⟩:=h;have hp:=qbE ps;simp only[nsize]at hb⊢;have l1:=qaN (ps.map Prod.fst);rw[zaE]at l1;have e1:(ps.map Prod.fst).length=ps.length:=zaE ..;have e2:(ps.map Prod.snd).length=ps.length:=zaE ..;have:=qfZ (w:=w) (S:=S) (N:=N) (leaf:=true) (ks:=ps.map Prod.fst) (vs:=ps.map Prod.snd) (nx:=0) ⟨K,ck,V,cv,X,cx,vk,vv,by rw[e1,e2];exact hnc,by rw[e1];exact hsk,hrk,by rw[e2];exact hsv,hrv⟩ (fun _=>by rw[e1,e2]) (by omega) (by omega) (by omega) (by omega);rw[zaw rfl,Nat.mul_zero,zbX,zbV,←hp]at this;exact this
 | inner ks xs=>
  simp only[NM]at h;obtain⟨hS0,K,ck,V,cv,X,cx,vk,vs,L',hnc,hsk,hrk,hsx,hkm,rfl⟩:=h;simp only[nsize]at hb⊢;have l1:=qaN ks;have:=qfZ (w:=w) (S:=S) (N:=N) (leaf:=false) (ks:=ks) (vs:=[]) (nx:=xs.length) ⟨K,ck,V,cv,X,cx,vk,[],hnc,hsk,hrk,SrcS.mk' rfl (fun h=>by simp at h),rfl⟩ (fun h=>by cases h) (by omega) (by omega) (by simp[ksize]) (by omega);rw[zaB (by simp),zbX]at this;exact this
theorem qh6 {t:Kd}{L:List (Nat×Nat)}(hn:NM w S t N L)(h1:1≤i)(hi:i<nk t)(hsh:qlL t)(hb:nsize t≤524288) :
  Calls Tryz.prog 94 #[.pointer (some ⟨N,0,none⟩),.int .i64 (i:Nat)] w (HvF S (qas t i).1 (qas t i).2.1 (qas t i).2.2 L w):=by
 cases t with
 | page p=>simp only[NM]at hn
 | leaf ps=>
  have hL:L=[]:=by simp only[NM]at hn;exact hn.1
  subst hL;have l1:=qaN (ps.map Prod.fst);have hp:=qbE ps;rw[zaE]at l1;simp only[nsize]at hb;exact qh7 hn h1 hi (by omega)
 | inner ks xs=>
  have l1:=qaN ks;simp only[nsize]at hb;exact qhf hn h1 hi hsh (by omega)
def NMs (w:World)(S:Nat→Prop):List Kd→List Nat→List (Nat×Nat)→Prop
 | [],Ns,L=>Ns=[]∧L=[]
 | k::ks,Ns,L=>∃ N r L1 L2,Ns=N::r∧L=L1++L2∧NM w S k N L1∧NMs w S ks r L2
def qdj (N:Nat):Value:=.pointer (some ⟨N,0,none⟩)
theorem NMs.one {L:List (Nat×Nat)}(h:NM w S k N L):NMs w S [k] [N] L:=⟨N,[],L,[],rfl,by simp,h,rfl,rfl⟩
theorem NMs.two {a b:Kd}{La Lb:List (Nat×Nat)}(h:NM w S a Na La)(h2:NM w S b Nb Lb):NMs w S [a,b] [Na,Nb] (La++Lb):=⟨Na,[Nb],La,Lb,rfl,rfl,h,Nb,[],Lb,[],rfl,by simp,h2,rfl,rfl⟩
structure Got (w':World) (S:Nat→Prop) (got:List Kd) (bet:List Bs) (L:List (Nat×Nat)) (g b:Value):Prop where
 ex:∃ A c B cb Ns vb,g=.slice A got.length c∧b=.slice B bet.length cb∧got.length≤c∧bet.length≤cb∧Ns.length=got.length∧SrcS w' S 1 A got.length (Ns.map qdj)∧NMs w' S got Ns L∧SrcS w' S 1 B bet.length vb∧RowV w' S vb bet∧(bet.length=1→∃ C u,B=some ⟨C,0,none⟩∧vb=[u]∧w'.heap[C]?=some (.cells #[u] 34 (0,0))∧S C)
end Go.Proofs.YtpmebcgmgfcmiaaGreatDoor
