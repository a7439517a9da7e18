/- Texts HvD JnA JnB. -/
import Derived.Test.YtpmebcgmgfcmiaaGreatDoorQ17
set_option linter.all false
set_option maxRecDepth 100000
set_option maxHeartbeats 16000000
namespace Go.Proofs.YtpmebcgmgfcmiaaGreatDoor
open Go.RowKit BT Go.Lib
variable {S:Nat→Prop}{w a b wr w':World}{k v v' x:Value}{N Na Nb B n m:Nat}{xs:List Kd}{M:Option Addr}{vk vx:List Value}{ks:List Bs}
theorem half_size (t:Kd)(i:Nat):nsize (qas t i).1≤nsize t∧nsize (qas t i).2.1≤nsize t:=by
 have h1:∀ (l:List Nat),(l.take i).sum≤l.sum∧(l.drop i).sum≤l.sum:=fun l=>by
  have:l.sum=(l.take i).sum+(l.drop i).sum:=by rw[←List.sum_append,zav]
  omega
 have h2:∀ (l:List Nat),(l.drop (i+1)).sum≤l.sum:=fun l=>by
  have:l.sum=(l.take (i+1)).sum+(l.drop (i+1)).sum:=by rw[←List.sum_append,zav]
  omega
 cases t with
 | page p=>exact⟨zac _,zac _⟩
 | leaf ps=>
  have:=h1 (ps.map fun p=>2+p.1.length+p.2.length);simp only[qas,nsize,qaL,zb7,zb6];omega
 | inner ks xs=>
  have a:=h1 (ks.map fun k=>1+k.length);have b:=h2 (ks.map fun k=>1+k.length);have c:(xs.take (i+1)).length≤xs.length:=by rw[zag];omega
  have d:(xs.drop (i+1)).length≤xs.length:=by rw[zap];omega
  simp only[qas,nsize,ksize,zb7,zb6];omega
theorem bestK_size {t:Kd}:∀ {n:Nat} {x:Kd×Kd×Bs},qca t n=some x→nsize x.1≤nsize t∧nsize x.2.1≤nsize t
 | 0,x,h=>by simp[qca]at h
 | n+1,x,h=>by
  unfold qca at h;split at h
  ·cases h
  ·dsimp only at h
   split at h
   ·cases h;exact half_size t n
   ·rename_i y hy;split at h
    ·cases h;exact half_size t n
    ·cases h;exact bestK_size hy
theorem qjS (t:Kd):qca t 1=none:=by unfold qca;simp
theorem qfx (t:Kd){n:Nat}(h:1≤n):qca t (n+1)=match qca t n with
  | none=>some (qas t n)
  | some y=>if max (nsize (qas t n).1) (nsize (qas t n).2.1)<max (nsize y.1) (nsize y.2.1)then some (qas t n)else some y:=by
 conv=>lhs;unfold qca
 rw[zaB (by omega)];rfl
theorem qja {t:Kd}:∀ {n:Nat},1≤n→qca t n=none→n=1
 | 1,_,_=>rfl
 | n+2,_,h=>by
  rw[qfx t (by omega)]at h;split at h
  ·cases h
  ·split at h<;>cases h
def BestM (w wr:World)(S:Nat→Prop)(L:List (Nat×Nat))(s4 s5:Value):Option (Kd×Kd×Bs)→Prop
 | none=>s4=.slice none 0 0∧s5=.slice none 0 0
 | some (a,b,k)=>∃ C Na Nb B c La Lb,s4=.slice (some ⟨C,0,none⟩) 2 2∧wr.heap[C]?=some (.cells #[qdj Na,qdj Nb] 99 (0,0))∧w.heap.size≤C∧NM wr (Fr S w wr) a Na La∧NM wr (Fr S w wr) b Nb Lb∧s5=.slice B k.length c∧k.length≤c∧ByS wr (Fr S w wr) B k∧(La++Lb).Perm L
def CutF (S:Nat→Prop)(t:Kd)(L:List (Nat×Nat))(w:World)(e:Ending)(w':World):Prop:=
 ∃ g b L',e=.returned (.tuple #[g,b])∧Got w' (Fr S w w') (cutK t).1 (cutK t).2 L' g b∧L'.Perm L∧Below w.heap.size w w'
theorem Fr.mono (h:a.heap.size≤b.heap.size):∀ k,Fr S w a k→Fr S w b k:=fun k hk=>by
 rcases hk with hk|hk
 ·exact .inl hk
 ·exact .inr ⟨hk.1,by omega⟩
theorem Fr.trans (h:w.heap.size≤a.heap.size)(h2:a.heap.size≤b.heap.size):∀ k,Fr (Fr S w a) a b k→Fr S w b k:=fun k hk=>by
 rcases hk with hk|hk
 ·exact Fr.mono h2 k hk
 ·exact .inr ⟨by omega,hk.2⟩
theorem Fr.base (h:w.heap.size≤a.heap.size):∀ k,Fr S a b k→Fr S w b k:=fun k hk=>by
 rcases hk with hk|hk
 ·exact .inl hk
 ·exact .inr ⟨by omega,hk.2⟩
theorem BestM.below {wx:World}{L:List (Nat×Nat)}{s4 s5:Value}{o:Option (Kd×Kd×Bs)}(h:BestM w wr S L s4 s5 o)(hb:Below wr.heap.size wr wx):BestM w wx S L s4 s5 o:=by
 match o,h with
 | none,h=>exact h
 | some (a,b,k),⟨C,Na,Nb,B,c,La,Lb,h1,h2,h3,h4,h5,h6,h7,h8,h9⟩=>
  have hm:=Fr.mono (S:=S) (w:=w) hb.size;exact⟨C,Na,Nb,B,c,La,Lb,h1,(hb.block C (zab.1 h2).1).trans h2,h3,NM.mono hm _ _ _ (h4.below hb),NM.mono hm _ _ _ (h5.below hb),h6,h7,(h8.same (Same.of_below hb)).mono hm,h9⟩
theorem NM.drew {k:Kd}{L:List (Nat×Nat)}(h:NM w S k N L):NM w.drew S k N L:=h.below (zai _ _).drew
theorem qiv {w2:World}{L La Lb:List (Nat×Nat)}{xa xb:Kd}{xk:Bs}{c:Nat}{B:Option Addr}(v1:xk.length≤c)(v2:NM w2 (Fr S wr w2) xa Na La)(v3:NM w2 (Fr S wr w2) xb Nb Lb)(v4:ByS w2 (Fr S wr w2) B xk)(v5:(La++Lb).Perm L)(v6:Below wr.heap.size wr w2)(hw:Below w.heap.size w wr) :
  Below w.heap.size w (w2.alloc (.cells #[qdj Na,qdj Nb] 99)).drew∧BestM w (w2.alloc (.cells #[qdj Na,qdj Nb] 99)).drew S L (.slice (some ⟨w2.heap.size,0,none⟩) 2 2) (.slice B xk.length c) (some (xa,xb,xk)):=by
 have h2:Below w2.heap.size w2 (w2.alloc (.cells #[qdj Na,qdj Nb] 99)).drew:=(zB _ _).drew;have hm:=Fr.mono (S:=S) (w:=w) h2.size;have hb:=Fr.base (S:=S) (w:=w) (b:=w2) hw.size;refine⟨(hw.trans (v6.mono hw.size)).trans (h2.mono (zah hw.size v6.size)),?_⟩;exact⟨w2.heap.size,Na,Nb,B,c,La,Lb,rfl,zaf w2 _,zah hw.size v6.size,NM.mono hm _ _ _ (NM.mono hb _ _ _ (v2.below h2)),NM.mono hm _ _ _ (NM.mono hb _ _ _ (v3.below h2)),rfl,v1,((v4.same (Same.of_below h2)).mono hb).mono hm,v5⟩
theorem qiz {t:Kd}{L:List (Nat×Nat)}(hn:NM w S t N L)(hsh:qlL t)(hb:nsize t≤524288)(h2:500<nsize t→2≤nk t) :
  Calls Tryz.prog 74 #[.pointer (some ⟨N,0,none⟩)] w (CutF S t L w):=by
 have qE:∀ (W:World) (a:Option Addr) (l c:Nat),(Sem.run Tryz.prog (binOp .eql 129 (.slice a l c) (.slice none 0 0)) W)=.ok (.bool a.isNone) W:=fun W a l c=>zcp W _ _ a l c 0 0 Tryz.underlying129;have Hi:=zH (qdi hn (by omega));unfold SzF at Hi;obtain⟨z,hz⟩:∃ z,nsize t=z:=⟨_,rfl⟩;have HH:=zH hn;have Hy:=zH hsh;have HZ:=zH hz;have H2:=zH h2;rw[hz]at Hi hb;clear hn hsh h2 hz;go_enter Tryz.func74,Tryz.ntmps74
 by_cases hs:z≤500
 ·go_wp2_with (go_at_call 93;refine Hi.o.mono ?_;rintro e w2 ⟨rfl,rfl⟩)
  refine zbs (v:=.tuple #[.slice (some ⟨w.heap.size,0,none⟩) 1 1,.slice none 0 0]) (by simp[results,Tryz.results74,go_sem]) rfl ?_;have Hj:cutK t=([t],[]):=by unfold cutK;rw[zaw (by rw[HZ.o];exact hs)]
  have Hb:Below w.heap.size w (w.alloc (.cells #[qdj N] 99)):=zB _ _;refine⟨_,_,L,rfl,?_,List.Perm.refl _,Hb⟩;rw[Hj];exact⟨_,1,_,0,[N],[],rfl,rfl,zac _,zac _,rfl,⟨qaE (zaf w _) rfl,fun _=>⟨_,0,rfl,.inr ⟨zac _,by simp⟩⟩,fun _ b o e=>by cases e;exact⟨by simp,fun i=>zaQ _ _ _ _ _ (zaf w _)⟩⟩,NMs.one (NM.mono (fun b h=>.inl h) _ _ _ (HH.o.below Hb)),SrcS.mk' rfl (fun h=>by simp at h),rfl,fun h=>by simp at h⟩
 ·obtain⟨n,hn⟩:∃ n,nk t=n:=⟨_,rfl⟩;have Hr:=zH hn;have HC:2≤n:=by rw[←hn];exact H2.o (by rw[HZ.o];omega)
  have HD:n≤524288:=by
   have:=HZ.o;rw[←hn];cases t with
   | page p=>exact za7 _
   | leaf ps=>
    have l1:=qaN (ps.map Prod.fst);have hp:=qbE ps;rw[zaE]at l1;simp only[nsize]at this;show ps.length≤524288;omega
   | inner ks xs=>
    have l1:=qaN ks;simp only[nsize]at this;show ks.length≤524288;omega
  have Ht:=zH (show ∀ W,Below w.heap.size w W→∃ K ck,W.cell? ⟨N,1,none⟩=some (.slice K n ck)from fun W hB=>by
   have h3:=HH.o.below hB;rw[←hn];cases t with
   | page p=>simp only[NM]at h3
   | leaf ps=>
    simp only[NM]at h3;obtain⟨-,hS0,K,ck,V,cv,X,cx,vk,vv,hnc,_⟩:=h3;exact⟨K,ck,hnc.c1⟩
   | inner ks xs=>
    simp only[NM]at h3;obtain⟨hS0,K,ck,V,cv,X,cx,vk,vs,L',hnc,_⟩:=h3;exact⟨K,ck,hnc.c1⟩)
  clear hn;go_wp2_with (go_at_call 93;refine Hi.o.mono ?_;rintro e w2 ⟨rfl,rfl⟩)
  go_loopw [4,5,6] (fun s4 s5 i wr=>∃ j:Nat,i=.int .i64 j∧1≤j∧j≤n∧Below w.heap.size w wr∧BestM w wr S L s4 s5 (qca t j)) (fun _ _ i _=>n-(RowKit.intOf i).toNat)
  case atStart=>exact⟨1,rfl,zac _,by omega,zai _ _,by rw[qjS];exact⟨rfl,rfl⟩⟩
  case round=>
   rename World=>wr;obtain⟨j,rfl,hj1,hj,hBw,hBM⟩:=hrel;have Hc:=zH hBw;have He:=zH hBM;obtain⟨K1,ck1,hc1⟩:=Ht.o wr hBw;clear hBw hBM;by_cases hlt:j<n
   ·have HA:j≤524288:=by omega
    have Hq:=zH (qh6 (HH.o.below Hc.o) hj1 (by rw[Hr.o];exact hlt) Hy.o (by rw[HZ.o];omega));have Ha:=zH (qfx t hj1);have Hp:=zH (half_size t j);obtain⟨x,hx⟩:∃ x,qas t j=x:=⟨_,rfl⟩;obtain⟨xa,xb,xk⟩:=x;rw[hx]at Hq Ha Hp;have Hn:=zH (fun y (h:qca t j=some y)=>bestK_size h);obtain⟨bo,hbo⟩:∃ o,qca t j=o:=⟨_,rfl⟩;rw[hbo]at He Ha Hn;clear hx hbo;go_upto_region 9 with(go_at_call 94;refine Hq.o.mono ?_;rintro e w2 ⟨Na,Nb,B,c,La,Lb,rfl,hv1,hv2,hv3,hv4,hv5,hv6⟩;have V1:=zH hv1;have V2:=zH hv2;have V3:=zH hv3;have V4:=zH hv4;have V5:=zH hv5;have V6:=zH hv6;clear hv1 hv2 hv3 hv4 hv5 hv6)
    cases bo with
    | none=>
     have m0:=He.o;obtain⟨rfl,rfl⟩:=m0;refine qac (S:=fun _=>True) [] (by kernel_rfl) trivial (fun _=>?_);refine zP 0 31 (.slice none 0 0) trivial ?_;try simp only[zS]
     refine zP 1 32 (.bool true) trivial ?_;try simp only[zS]
     refine zP 2 33 (.bool true) trivial ?_;try simp only[zS]
     refine zN 3 34 (qaa trivial) ?_;try simp only[zS]
     refine zN 4 35 (qaa trivial) ?_;try simp only[zS]
     refine zN 5 36 (qaa trivial) ?_;try simp only[zS]
     refine zN 6 37 (qaa trivial) ?_;try simp only[zS]
     refine zN 7 38 (qaa trivial) ?_;try simp only[zS]
     refine zN 8 39 (qaa trivial) ?_;try simp only[zS]
     refine zN 9 40 (qaa trivial) ?_;try simp only[zS]
     refine zN 10 41 (qaa trivial) ?_;try simp only[zS]
     refine zN 11 42 (qaa trivial) ?_;try simp only[zS]
     refine zN 12 43 (qaa trivial) ?_;try simp only[zS]
     refine zN 13 44 (qaa trivial) ?_;try simp only[zS]
     refine zN 14 45 (qaa trivial) ?_;try simp only[zS]
     refine zN 15 46 (qaa trivial) ?_;try simp only[zS]
     refine zN 16 47 (qaa trivial) ?_;try simp only[zS]
     refine zN 17 48 (qaa trivial) ?_;try simp only[zS]
     refine zP 18 49 (.bool true) trivial ?_;try simp only[zS]
     refine qad (by kernel_rfl) ?_ _;go_wp2;have Hf:=qiv V1.o V2.o V3.o V4.o V5.o V6.o Hc.o;refine⟨⟨j+1,by simp,by omega,by omega,Hf.1,?_⟩,by simp[RowKit.intOf];omega⟩;rw[Ha.o];exact Hf.2
    | some y=>
     obtain⟨ya,yb,yk⟩:=y;obtain⟨C,Ny,Nz,By,cy,Ly,Lz,rfl,m2,m3,m4,m5,rfl,m7,m8,m9⟩:=He.o;have HB:=Hn.o _ rfl;have Hh:=zH (show nsize xa≤524288∧nsize xb≤524288∧nsize ya≤524288∧nsize yb≤524288 by have:=Hp.o;have:=HZ.o;dsimp only at *;omega);obtain⟨s1,hs1⟩:∃ s,nsize xa=s:=⟨_,rfl⟩;obtain⟨s2,hs2⟩:∃ s,nsize xb=s:=⟨_,rfl⟩;obtain⟨s3,hs3⟩:∃ s,nsize ya=s:=⟨_,rfl⟩;obtain⟨s4,hs4⟩:∃ s,nsize yb=s:=⟨_,rfl⟩;have Hu:=zH (show Calls Tryz.prog 93 #[.pointer (some ⟨Na,0,none⟩)] w2.drew (fun e w'=>e=.returned (.int .i64 (s1:Int))∧w2.drew=w')by rw[←hs1];exact qdi (V2.o.drew) (by have:=Hh.o;omega));have Hv:=zH (show Calls Tryz.prog 93 #[.pointer (some ⟨Nb,0,none⟩)] w2.drew (fun e w'=>e=.returned (.int .i64 (s2:Int))∧w2.drew=w')by rw[←hs2];exact qdi (V3.o.drew) (by have:=Hh.o;omega));have Hw:=zH (show Calls Tryz.prog 93 #[.pointer (some ⟨Ny,0,none⟩)] w2.drew (fun e w'=>e=.returned (.int .i64 (s3:Int))∧w2.drew=w')by rw[←hs3];exact qdi ((m4.below V6.o).drew) (by have:=Hh.o;omega));have Hx:=zH (show Calls Tryz.prog 93 #[.pointer (some ⟨Nz,0,none⟩)] w2.drew (fun e w'=>e=.returned (.int .i64 (s4:Int))∧w2.drew=w')by rw[←hs4];exact qdi ((m5.below V6.o).drew) (by have:=Hh.o;omega));have Hk:=(V6.o.block C (zab.1 m2).1).trans m2;have HG:=zH (show w2.drew.cell? ⟨C,0,none⟩=some (qdj Ny)∧w2.drew.cell? ⟨C,1,none⟩=some (qdj Nz)from⟨by rw[zan _ _ _ _ _ _ (show w2.drew.heap[C]?=_ from Hk)];rfl,by rw[zan _ _ _ _ _ _ (show w2.drew.heap[C]?=_ from Hk)];rfl⟩)
     unfold qdj at HG;obtain⟨bb,hbb⟩:∃ b,decide (max (s1:Int) (s2:Int)<max (s3:Int) (s4:Int))=b:=⟨_,rfl⟩;have Hs:=zH hbb;have Hf:(if max (nsize xa) (nsize xb)<max (nsize ya) (nsize yb)then true else false)=bb:=by
      rw[hs1,hs2,hs3,hs4,←hbb];by_cases hlt2:max s1 s2<max s3 s4
      ·rw[zaw hlt2,zas (by omega)]
      ·rw[zaB hlt2,zal (by omega)]
     have Hm:=zH Hf;have M2:=zH m2;have M3:=zH m3;have M4:=zH m4;have M5:=zH m5;have M7:=zH m7;have M8:=zH m8;have M9:=zH m9;clear m2 m3 m4 m5 m7 m8 m9 He hs1 hs2 hs3 hs4 HB Hk Hf;refine qac (S:=fun W=>W.cell? ⟨C,0,none⟩=some (.pointer (some ⟨Ny,0,none⟩))∧W.cell? ⟨C,1,none⟩=some (.pointer (some ⟨Nz,0,none⟩))) [] (by kernel_rfl) HG.o (fun _=>?_);refine zP 0 31 (.slice (some ⟨C,0,none⟩) 2 2) HG.o ?_;try simp only[zS]
     refine zP 1 32 (.bool false) HG.o ?_;try simp only[zS]
     refine zP 2 33 (.bool false) HG.o ?_;try simp only[zS]
     refine zP 3 34 (.pointer (some ⟨Na,0,none⟩)) HG.o ?_;try simp only[zS]
     refine zP 5 36 (.pointer (some ⟨Nb,0,none⟩)) HG.o ?_;try simp only[zS]
     refine zP 8 39 (.slice (some ⟨C,0,none⟩) 2 2) HG.o ?_;try simp only[zS]
     refine zP 9 40 (.pointer (some ⟨C,0,none⟩)) HG.o ?_;try simp only[zS]
     refine zL 10 41 (.pointer (some ⟨Ny,0,none⟩)) rfl (Or.inl ⟨by rfl,fun W hS=>by obtain⟨hS1,hS2⟩:=hS;go_simp⟩) (qaa HG.o) ?_;try simp only[zS]
     refine zP 12 43 (.slice (some ⟨C,0,none⟩) 2 2) HG.o ?_;try simp only[zS]
     refine zP 13 44 (.pointer (some ⟨C,1,none⟩)) HG.o ?_;try simp only[zS]
     refine zL 14 45 (.pointer (some ⟨Nz,0,none⟩)) rfl (Or.inl ⟨by rfl,fun W hS=>by obtain⟨hS1,hS2⟩:=hS;go_simp⟩) (qaa HG.o) ?_;try simp only[zS]
     refine zE 4 35 rfl (fun Kr hKr=>?_);go_simp;go_at_call 93
     refine Hu.o.mono ?_;rintro e W2 ⟨rfl,rfl⟩;refine hKr.out (.int .i64 (s1:Int)) _ (qaa HG.o) (fun _=>?_);clear hKr Kr;try simp only[zS]
     refine zE 6 37 rfl (fun Kr hKr=>?_);go_simp;go_at_call 93
     refine Hv.o.mono ?_;rintro e W2 ⟨rfl,rfl⟩;refine hKr.out (.int .i64 (s2:Int)) _ (qaa HG.o) (fun _=>?_);clear hKr Kr;try simp only[zS]
     refine zP 7 38 (.int .i64 (max (s1:Int) (s2:Int))) HG.o ?_;try simp only[zS]
     refine zE 11 42 rfl (fun Kr hKr=>?_);go_simp;go_at_call 93
     refine Hw.o.mono ?_;rintro e W2 ⟨rfl,rfl⟩;refine hKr.out (.int .i64 (s3:Int)) _ (qaa HG.o) (fun _=>?_);clear hKr Kr;try simp only[zS]
     refine zE 15 46 rfl (fun Kr hKr=>?_);go_simp;go_at_call 93
     refine Hx.o.mono ?_;rintro e W2 ⟨rfl,rfl⟩;refine hKr.out (.int .i64 (s4:Int)) _ (qaa HG.o) (fun _=>?_);clear hKr Kr;try simp only[zS]
     refine zP 16 47 (.int .i64 (max (s3:Int) (s4:Int))) HG.o ?_;try simp only[zS]
     refine zP 17 48 (.bool bb) HG.o ?_;try simp only[zS]
     refine zP 18 49 (.bool bb) HG.o ?_;try simp only[zS]
     refine qad (by kernel_rfl) ?_ _;cases bb with
     | true=>
      go_wp2;have Hg:=qiv V1.o V2.o V3.o V4.o V5.o V6.o Hc.o;refine⟨⟨j+1,by simp,by omega,by omega,Hg.1,?_⟩,by simp[RowKit.intOf];omega⟩;rw[Ha.o];have h3:=Hm.o;split at h3
      ·rename_i h4;simp only[zaw h4];exact Hg.2
      ·cases h3
     | false=>
      go_wp2;refine⟨⟨j+1,by simp,by omega,by omega,(Hc.o.trans (V6.o.mono Hc.o.size)).drew,?_⟩,by simp[RowKit.intOf];omega⟩;rw[Ha.o];have h3:=Hm.o;split at h3
      ·cases h3
      ·rename_i h4;simp only[zaB h4];have hm:BestM w wr S L (.slice (some ⟨C,0,none⟩) 2 2) (.slice By yk.length cy) (some (ya,yb,yk)):=⟨C,Ny,Nz,By,cy,Ly,Lz,rfl,M2.o,M3.o,M4.o,M5.o,rfl,M7.o,M8.o,M9.o⟩;exact hm.below V6.o.drew
   ·obtain rfl:j=n:=by omega
    have Hl:qca t j≠none:=fun h=>by have:=qja hj1 h;omega
    have Hj:cutK t=match qca t j with
      | none=>([],[[]])
      | some (a,b,k)=>([a,b],[k]):=by
     unfold cutK;rw[zaB (by rw[HZ.o];exact hs),Hr.o];rfl
    have Ho:=zH Hj;obtain⟨bo,hbo⟩:∃ o,qca t j=o:=⟨_,rfl⟩;rw[hbo]at He Ho Hl;clear hbo Hj;cases bo with
    | none=>exact absurd rfl Hl
    | some y=>
     obtain⟨ya,yb,yk⟩:=y;obtain⟨C,Na,Nb,B,c,La,Lb,rfl,m2,m3,m4,m5,rfl,m7,m8,m9⟩:=He.o;have M2:=zH m2;have M3:=zH m3;have M4:=zH m4;have M5:=zH m5;have M7:=zH m7;have M8:=zH m8;have M9:=zH m9;clear m2 m3 m4 m5 m7 m8 m9 Hl He;go_wp2;refine zbs (v:=.tuple #[.slice (some ⟨C,0,none⟩) 2 2,.slice (some ⟨wr.heap.size,0,none⟩) 1 1]) (by simp[results,Tryz.results74,go_sem]) rfl ?_;have Hb:Below wr.heap.size wr (wr.alloc (.cells #[.slice B yk.length c] 34)):=zB _ _;have Hz:=Hc.o.trans (Hb.mono Hc.o.size);have hm:=Fr.mono (S:=S) (w:=w) Hb.size;refine⟨_,_,La++Lb,rfl,?_,M9.o,Hz⟩;rw[Ho.o];exact⟨some ⟨C,0,none⟩,2,some ⟨wr.heap.size,0,none⟩,1,[Na,Nb],[.slice B yk.length c],rfl,rfl,zac _,zac _,rfl,⟨qaE (qap _ M2.o) rfl,fun _=>⟨C,0,rfl,.inr ⟨M3.o,zam (zab.1 M2.o).1 Hb.size⟩⟩,fun _ b o e=>by cases e;exact⟨zam (zab.1 M2.o).1 Hb.size,fun i=>zaQ _ _ _ _ _ (qap _ M2.o)⟩⟩,NMs.two (NM.mono hm _ _ _ (M4.o.below Hb)) (NM.mono hm _ _ _ (M5.o.below Hb)),⟨qaE (zaf wr _) rfl,fun _=>⟨_,0,rfl,.inr ⟨Hc.o.size,by simp⟩⟩,fun _ b o e=>by cases e;exact⟨by simp,fun i=>zaQ _ _ _ _ _ (zaf wr _)⟩⟩,RowV.one M7.o ((M8.o.same (Same.of_below Hb)).mono hm),fun _=>⟨_,_,rfl,rfl,zaf wr _,.inr ⟨Hc.o.size,by simp⟩⟩⟩
def JnQ (B N:Nat)(leaf:Bool)(vk vv vx:List Value)(w':World):Prop:=
 ∃ k nk v nv x nx,NdQ w' B N leaf k v x k nk vk v nv vv x nx vx
def JnF (leaf:Bool)(vk vv vx:List Value)(b:Bool)(w:World)(e:Ending)(w':World):Prop:=
 ∃ N,e=.returned (.tuple #[.pointer (some ⟨N,0,none⟩),.bool b])∧JnQ w.heap.size N leaf vk vv vx w'∧Below w.heap.size w w'
theorem qao (h:w.grownBy w' v.ownBlock)(h2:∀ b,v'.ownBlock=some b→v.ownBlock=some b∨(w.heap.size≤b∧b<w'.heap.size)):Upd w w' v v':=
 ⟨Touch.of_grown h (fun _ e=>e),h2⟩
theorem qaz {e:TypeId}{size n':Nat}{xs ys:List Value}(h:Own w B e size v n xs)(hB:B≤w.heap.size)(r:Row w' B e size v' n' ys)(hu:Upd w w' v v'):Own w' B e size v' n' ys:=
 ⟨r,fun b e=>by
  rcases hu.own b e with h2|h2
  ·exact⟨(h.blk b h2).1,zam (h.blk b h2).2 hu.touch.size⟩
  ·exact⟨by omega,h2.2⟩⟩
theorem qfU {leaf:Bool}{nka nkb nva nvb nxa nxb cka ckb cva cvb cxa cxb c z:Nat}{Ka Kb Va Vb Xa Xb:Option Addr}{vka vkb vva vvb vxa vxb:List Value}(ha:Nc w Na leaf Ka nka cka Va nva cva Xa nxa cxa)(hb:Nc w Nb leaf Kb nkb ckb Vb nvb cvb Xb nxb cxb)
  (hka:SrcS w S 1 Ka nka vka)(hkb:SrcS w S 1 Kb nkb vkb)(hva:SrcS w S 1 Va nva vva)(hvb:SrcS w S 1 Vb nvb vvb)(hxa:SrcS w S 2 Xa nxa vxa)(hxb:SrcS w S 2 Xb nxb vxb)
  (ka1:∀ u∈vka,u.oneCell'=true)(kb1:∀ u∈vkb,u.oneCell'=true)(va1:∀ u∈vva,u.oneCell'=true)(vb1:∀ u∈vvb,u.oneCell'=true)(xa1:∀ u∈vxa,u.oneCell'=true)(xb1:∀ u∈vxb,u.oneCell'=true)
  (lka:nka≤1000)(lkb:nkb≤1000)(lva:nva≤1000)(lvb:nvb≤1000)(lxa:nxa≤1000)(lxb:nxb≤1000)(hvk:(if leaf then vka else vka++[.slice M m c])++vkb=vk)
  (hsz:∀ W N,JnQ w.heap.size N leaf vk (vva++vvb) (vxa++vxb) W→Below w.heap.size w W→Calls Tryz.prog 93 #[.pointer (some ⟨N,0,none⟩)] W (SzF z W)) :
  Calls Tryz.prog 100 #[.pointer (some ⟨Na,0,none⟩),.pointer (some ⟨Nb,0,none⟩),.slice M m c] w (JnF leaf vk (vva++vvb) (vxa++vxb) (decide (z≤500)) w):=by
 have HD:=zH (qdM ha hka hva hxa ka1 va1 xa1 (by omega) (by omega) (by omega));have Hf:=zH (show ∀ W:World,Below w.heap.size w W→W.cell? ⟨Na,0,none⟩=some (.bool leaf)∧W.cell? ⟨Nb,0,none⟩=some (.bool leaf)∧W.cell? ⟨Nb,1,none⟩=some (.slice Kb nkb ckb)∧W.cell? ⟨Nb,2,none⟩=some (.slice Vb nvb cvb)∧W.cell? ⟨Nb,3,none⟩=some (.slice Xb nxb cxb)∧Src W 1 Kb nkb vkb∧Src W 1 Vb nvb vvb∧Src W 2 Xb nxb vxb from fun W h=>by
  have hl:Nb<w.heap.size:=cell_lt hb.c0;exact⟨(h.cell (p:=⟨Na,0,none⟩) (cell_lt ha.c0)).trans ha.c0,(h.cell (p:=⟨Nb,0,none⟩) hl).trans hb.c0,(h.cell (p:=⟨Nb,1,none⟩) hl).trans hb.c1,(h.cell (p:=⟨Nb,2,none⟩) hl).trans hb.c2,(h.cell (p:=⟨Nb,3,none⟩) hl).trans hb.c3,(hkb.below h).src,(hvb.below h).src,(hxb.below h).src⟩)
 have HJ:=zH hsz;have HE:=zH hvk;have Hs:=zH kb1;have Hx:=zH vb1;have Hy:=zH xb1;clear ha hb hka hkb hva hvb hxa hxb ka1 kb1 va1 vb1 xa1 xb1 hsz hvk;unfold ClF at HD;obtain⟨i0,hi0,hz0,hz1,hz2⟩:=zaT qbP;obtain⟨j0,hj0,jz0,jz1,jz2⟩:=zaT qcF;go_enter Tryz.func100,Tryz.ntmps100
 go_upto_if 15 with(go_at_call 71;refine HD.o.mono ?_;rintro e w1 ⟨N,K,ck,V,cv,X,cx,rfl,hO,hB⟩;have HK:=hO.q.c0';have HL:=hO.q.c1';have HQ:=zH hO.q;have HB:=zH hB;clear hO hB)
 obtain⟨vkm,hvkm⟩:∃ l,(if leaf then vka else vka++[Value.slice M m c])=l:=⟨_,rfl⟩;have Hn:=zH hvkm;rw[hvkm]at HE;clear hvkm;go_cut [15] (fun s15 wx=>∃ k nk,NdQ wx w.heap.size N leaf k (.slice V nva cv) (.slice X nxa cx) k nk vkm (.slice V nva cv) nva vva (.slice X nxa cx) nxa vxa∧Below w.heap.size w wx∧nk≤1001)
 case first=>
  cases leaf with
  | true=>
   go_wp2;go_meet
   case rel=>
    refine⟨.slice K nka ck,nka,?_,HB.o,by omega⟩;rw[←Hn.o];exact HQ.o
  | false=>
   go_wp2_with (at_builtin;refine qbg rfl (.tmp 20) (.tmp 22) 103 rfl w.heap.size 34 i0 _ 1 24 Tryz.underlying103 hi0 hz0 hz1 hz2 rfl (by decide) (.slice K nka ck) nka vka rfl ((HQ.o.below (zB _ _)).ko.row) (some ⟨w1.heap.size,0,none⟩) 1 1 [.slice M m c] rfl (qaE (zaf w1 _) rfl) (by simp;rfl) (by unfold maxLen;omega) (by omega) (zah HB.o.size (by simp)) ?_;intro A5 c5 w5 q1 q2 q3;have Q1:=zH q1;have Q2:=zH (qao q2 q3);have Hc:=zH ((HQ.o.below ((zai _ _).alloc (zac _) (.cells #[.slice M m c] 34))).updK (qaz (HQ.o.below ((zai _ _).alloc (zac _) (.cells #[.slice M m c] 34))).ko (zah HB.o.size (by simp)) q1 (qao q2 q3)) (qao q2 q3));have HM:=Hc.o.c1';have HN:w5.frozen? ⟨N,1,none⟩=false:=zaQ _ _ _ _ _ Hc.o.nd;clear q1 q2 q3)
   go_meet
   case rel=>
    refine⟨.slice A5 (nka+1) c5,nka+1,?_,?_,by omega⟩
    ·rw[←Hn.o];exact Hc.o.st1 _
    ·refine(((HB.o.alloc HB.o.size (.cells #[.slice M m c] 34)).trans ?_)).setCell Hc.o.lo _;exact(qan (zai w.heap.size _) (zah HB.o.size (by simp)) Q2.o.touch (fun b e _=>(HQ.o.ko.blk b e).1))
 case rest=>
  rename World=>wx;obtain⟨k,nk,hq,hb,hnk⟩:=hcut;have HI:=zH hq;have HF:=zH hb;clear hq hb HK HL HQ HB;go_upto_region 4 with fail
  have Hi:Hd (NdQ wx.drew w.heap.size N leaf k (.slice V nva cv) (.slice X nxa cx) k nk vkm (.slice V nva cv) nva vva (.slice X nxa cx) nxa vxa):=zH (HI.o.below (zai _ _).drew);have He:Hd (Below w.heap.size w wx.drew):=zH HF.o.drew;have GF:=zH (fun(W:World) (kk v x:Value) (n1 n2 n3:Nat) (l1 l2 l3:List Value) (c1 c2 c3:Value) (h:NdQ W w.heap.size N leaf c1 c2 c3 kk n1 l1 v n2 l2 x n3 l3) (hb:Below w.heap.size w W)=>show W.cell? ⟨N,1,none⟩=some c1∧W.cell? ⟨N,2,none⟩=some c2∧W.cell? ⟨N,3,none⟩=some c3∧W.cell? ⟨Nb,1,none⟩=some (.slice Kb nkb ckb)∧W.cell? ⟨Nb,2,none⟩=some (.slice Vb nvb cvb)∧W.cell? ⟨Nb,3,none⟩=some (.slice Xb nxb cxb)from⟨h.c1',h.c2',h.c3',(Hf.o W hb).2.2.1,(Hf.o W hb).2.2.2.1,(Hf.o W hb).2.2.2.2.1⟩);have Hb:=zH (GF.o _ _ _ _ _ _ _ _ _ _ _ _ _ Hi.o He.o);refine qac (S:=fun W=>W.cell? ⟨N,1,none⟩=some k∧W.cell? ⟨N,2,none⟩=some (.slice V nva cv)∧W.cell? ⟨N,3,none⟩=some (.slice X nxa cx)∧W.cell? ⟨Nb,1,none⟩=some (.slice Kb nkb ckb)∧W.cell? ⟨Nb,2,none⟩=some (.slice Vb nvb cvb)∧W.cell? ⟨Nb,3,none⟩=some (.slice Xb nxb cxb)) [32,35,38] (by kernel_rfl) Hb.o (fun _=>?_);generalize wx.drew=W0 at Hi He Hb⊢;refine zP 0 26 (.pointer (some ⟨N,0,none⟩)) Hb.o ?_;try simp only[zS]
  refine zP 1 27 (.pointer (some ⟨N,0,none⟩)) Hb.o ?_;try simp only[zS]
  refine zP 2 28 (.pointer (some ⟨N,0,none⟩)) Hb.o ?_;try simp only[zS]
  refine zP 3 29 (.pointer (some ⟨N,0,none⟩)) Hb.o ?_;try simp only[zS]
  refine zP 4 30 (.pointer (some ⟨N,0,none⟩)) Hb.o ?_;try simp only[zS]
  refine zP 5 31 (.pointer (some ⟨N,1,none⟩)) Hb.o ?_;try simp only[zS]
  refine zL 6 32 (k) rfl (Or.inl ⟨by rfl,fun W hS=>by obtain⟨hS1,hS2,hS3,hS4,hS5,hS6⟩:=hS;go_simp⟩) (qaa Hb.o) ?_;try simp only[zS]
  refine zP 7 33 (.pointer (some ⟨Nb,0,none⟩)) Hb.o ?_;try simp only[zS]
  refine zP 8 34 (.pointer (some ⟨Nb,0,none⟩)) Hb.o ?_;try simp only[zS]
  refine zP 9 35 (.pointer (some ⟨Nb,1,none⟩)) Hb.o ?_;try simp only[zS]
  refine zL 10 36 (.slice Kb nkb ckb) rfl (Or.inl ⟨by rfl,fun W hS=>by obtain⟨hS1,hS2,hS3,hS4,hS5,hS6⟩:=hS;go_simp⟩) (qaa Hb.o) ?_;try simp only[zS]
  refine zP 12 38 (.pointer (some ⟨N,0,none⟩)) Hb.o ?_;try simp only[zS]
  refine zP 13 39 (.pointer (some ⟨N,0,none⟩)) Hb.o ?_;try simp only[zS]
  refine zP 14 40 (.pointer (some ⟨N,2,none⟩)) Hb.o ?_;try simp only[zS]
  refine zL 15 41 (.slice V nva cv) rfl (Or.inl ⟨by rfl,fun W hS=>by obtain⟨hS1,hS2,hS3,hS4,hS5,hS6⟩:=hS;go_simp⟩) (qaa Hb.o) ?_;try simp only[zS]
  refine zP 16 42 (.pointer (some ⟨Nb,0,none⟩)) Hb.o ?_;try simp only[zS]
  refine zP 17 43 (.pointer (some ⟨Nb,0,none⟩)) Hb.o ?_;try simp only[zS]
  refine zP 18 44 (.pointer (some ⟨Nb,2,none⟩)) Hb.o ?_;try simp only[zS]
  refine zL 19 45 (.slice Vb nvb cvb) rfl (Or.inl ⟨by rfl,fun W hS=>by obtain⟨hS1,hS2,hS3,hS4,hS5,hS6⟩:=hS;go_simp⟩) (qaa Hb.o) ?_;try simp only[zS]
  refine zP 21 47 (.pointer (some ⟨N,0,none⟩)) Hb.o ?_;try simp only[zS]
  refine zP 22 48 (.pointer (some ⟨N,0,none⟩)) Hb.o ?_;try simp only[zS]
  refine zP 23 49 (.pointer (some ⟨N,3,none⟩)) Hb.o ?_;try simp only[zS]
  refine zL 24 50 (.slice X nxa cx) rfl (Or.inl ⟨by rfl,fun W hS=>by obtain⟨hS1,hS2,hS3,hS4,hS5,hS6⟩:=hS;go_simp⟩) (qaa Hb.o) ?_;try simp only[zS]
  refine zP 25 51 (.pointer (some ⟨Nb,0,none⟩)) Hb.o ?_;try simp only[zS]
  refine zP 26 52 (.pointer (some ⟨Nb,0,none⟩)) Hb.o ?_;try simp only[zS]
  refine zP 27 53 (.pointer (some ⟨Nb,3,none⟩)) Hb.o ?_;try simp only[zS]
  refine zL 28 54 (.slice Xb nxb cxb) rfl (Or.inl ⟨by rfl,fun W hS=>by obtain⟨hS1,hS2,hS3,hS4,hS5,hS6⟩:=hS;go_simp⟩) (qaa Hb.o) ?_;try simp only[zS]
  refine zE 11 37 rfl (fun Kr hKr=>?_);refine Eq.mpr (zaw (by rfl)) ?_;refine qaJ (.tmp 32) (.tmp 36) 103 rfl w.heap.size 34 i0 _ 1 24 Tryz.underlying103 hi0 hz0 hz1 hz2 rfl (by decide) k nk vkm rfl Hi.o.ko.row Kb nkb ckb vkb rfl (Hf.o _ He.o).2.2.2.2.2.1 Hs.o (by unfold maxLen;omega) (by omega) He.o.size ?_;intro A1 c1 W1 q1 q2 q3;have Hk:=zH (Hi.o.updK (qaz Hi.o.ko He.o.size q1 (qao q2 q3)) (qao q2 q3));have Hg:=zH (qan He.o He.o.size (qao q2 q3).touch (fun b e _=>(Hi.o.ko.blk b e).1));clear q1 q2 q3;have HG:=zH (GF.o _ _ _ _ _ _ _ _ _ _ _ _ _ Hk.o Hg.o);refine hKr.out _ _ (qaa HG.o) (fun _=>?_);clear hKr Kr;try simp only[zS]
  refine zE 20 46 rfl (fun Kr hKr=>?_);refine Eq.mpr (zaw (by rfl)) ?_;refine qaJ (.tmp 41) (.tmp 45) 103 rfl w.heap.size 34 i0 _ 1 24 Tryz.underlying103 hi0 hz0 hz1 hz2 rfl (by decide) (.slice V nva cv) nva vva rfl Hk.o.vo.row Vb nvb cvb vvb rfl (Hf.o _ Hg.o).2.2.2.2.2.2.1 Hx.o (by unfold maxLen;omega) (by omega) Hg.o.size ?_;intro A2 c2 W2 q1 q2 q3;have Hl:=zH (Hk.o.updV (qaz Hk.o.vo Hg.o.size q1 (qao q2 q3)) (qao q2 q3));have Hh:=zH (qan Hg.o Hg.o.size (qao q2 q3).touch (fun b e _=>(Hk.o.vo.blk b e).1));clear q1 q2 q3;have HH:=zH (GF.o _ _ _ _ _ _ _ _ _ _ _ _ _ Hl.o Hh.o);refine hKr.out _ _ (qaa HH.o) (fun _=>?_);clear hKr Kr;try simp only[zS]
  refine zE 29 55 rfl (fun Kr hKr=>?_);refine Eq.mpr (zaw (by rfl)) ?_;refine qaJ (.tmp 50) (.tmp 54) 104 rfl w.heap.size 102 j0 _ 2 16 Tryz.underlying104 hj0 jz0 jz1 jz2 rfl (by decide) (.slice X nxa cx) nxa vxa rfl Hl.o.xo.row Xb nxb cxb vxb rfl (Hf.o _ Hh.o).2.2.2.2.2.2.2 Hy.o (by unfold maxLen;omega) (by omega) Hh.o.size ?_;intro A3 c3 W3 q1 q2 q3;have Hp:=zH (Hl.o.updX (qaz Hl.o.xo Hh.o.size q1 (qao q2 q3)) (qao q2 q3));have Hz:=zH (qan Hh.o Hh.o.size (qao q2 q3).touch (fun b e _=>(Hl.o.xo.blk b e).1));clear q1 q2 q3;have Hr:=zH (GF.o _ _ _ _ _ _ _ _ _ _ _ _ _ Hp.o Hz.o);refine hKr.out _ _ (qaa Hr.o) (fun _=>?_);clear hKr Kr;try simp only[zS]
  refine zP 30 56 (.pointer (some ⟨N,0,none⟩)) Hr.o ?_;try simp only[zS]
  refine zP 31 57 (.pointer (some ⟨N,1,none⟩)) Hr.o ?_;try simp only[zS]
  have Hu:=zH (show W3.there N 1 1 from there_of_block Hp.o.nd 1 (by simp));refine qae (rs:=[32]) (by kernel_rfl) (by simp) ?_;refine AllReadyG.store rfl 103 (.tmp 57) (.tmp 37) rfl rfl rfl N 1 (.slice A1 (nk+nkb) c1) rfl rfl Hu.o (by kernel_rfl) rfl (qaf 32 (by rfl) (by kernel_rfl)) ?_ AllReadyG.nil;have Hq:=zH (Hp.o.st1 (.slice A1 (nk+nkb) c1));have HA:=zH (Hz.o.setCell (p:=⟨N,1,none⟩) Hp.o.lo (.slice A1 (nk+nkb) c1));generalize W3.setCell ⟨N,1,none⟩ (.slice A1 (nk+nkb) c1)=W4 at Hq HA⊢;try simp only[zS]
  refine zR 33 58 (.pointer (some ⟨N,0,none⟩)) (qaf 32 (by rfl) (by kernel_rfl)) ?_;try simp only[zS]
  refine zR 34 59 (.pointer (some ⟨N,2,none⟩)) (qaf 32 (by rfl) (by kernel_rfl)) ?_;try simp only[zS]
  have Hv:=zH (show W4.there N 2 1 from there_of_block Hq.o.nd 2 (by simp));refine qae (rs:=[35]) (by kernel_rfl) (by simp) ?_;refine AllReadyG.store rfl 103 (.tmp 59) (.tmp 46) rfl rfl rfl N 2 (.slice A2 (nva+nvb) c2) rfl rfl Hv.o (by kernel_rfl) rfl (qaf 35 (by rfl) (by kernel_rfl)) ?_ AllReadyG.nil;have Hc:=zH (Hq.o.st2 (.slice A2 (nva+nvb) c2));have HC:=zH (HA.o.setCell (p:=⟨N,2,none⟩) Hq.o.lo (.slice A2 (nva+nvb) c2));generalize W4.setCell ⟨N,2,none⟩ (.slice A2 (nva+nvb) c2)=W5 at Hc HC⊢;try simp only[zS]
  refine zR 36 60 (.pointer (some ⟨N,0,none⟩)) (qaf 35 (by rfl) (by kernel_rfl)) ?_;try simp only[zS]
  refine zR 37 61 (.pointer (some ⟨N,3,none⟩)) (qaf 35 (by rfl) (by kernel_rfl)) ?_;try simp only[zS]
  have Hw:=zH (show W5.there N 3 1 from there_of_block Hc.o.nd 3 (by simp));refine qae (rs:=[38]) (by kernel_rfl) (by simp) ?_;refine AllReadyG.store rfl 104 (.tmp 61) (.tmp 55) rfl rfl rfl N 3 (.slice A3 (nxa+nxb) c3) rfl rfl Hw.o (by kernel_rfl) rfl (qaf 38 (by rfl) (by kernel_rfl)) ?_ AllReadyG.nil;have Hm:=zH (Hc.o.st3 (.slice A3 (nxa+nxb) c3));have Hj:=zH (HC.o.setCell (p:=⟨N,3,none⟩) Hc.o.lo (.slice A3 (nxa+nxb) c3));generalize W5.setCell ⟨N,3,none⟩ (.slice A3 (nxa+nxb) c3)=W6 at Hm Hj⊢;try simp only[zS]
  refine qad (by kernel_rfl) ?_ _;rw[HE.o]at Hm;have Ht:=zH (HJ.o _ _ ⟨_,_,_,_,_,_,Hm.o.below (zai _ _).drew⟩ Hj.o.drew);have Ho:=zH (Hf.o _ Hj.o.drew);unfold SzF at Ht;go_upto_region 5 with fail
  cases leaf with
  | true=>
   have Ha:=zH (show(W6.drew).cell? ⟨Na,0,none⟩=some (.bool true)∧(W6.drew).cell? ⟨Nb,0,none⟩=some (.bool true)from⟨Ho.o.1,Ho.o.2.1⟩);refine qac (S:=fun W=>W.cell? ⟨Na,0,none⟩=some (.bool true)∧W.cell? ⟨Nb,0,none⟩=some (.bool true)) [] (by kernel_rfl) Ha.o (fun _=>?_);refine zP 0 62 (.pointer (some ⟨N,0,none⟩)) Ha.o ?_;try simp only[zS]
   refine zP 1 63 (.pointer (some ⟨Na,0,none⟩)) Ha.o ?_;try simp only[zS]
   refine zP 2 64 (.pointer (some ⟨Na,0,none⟩)) Ha.o ?_;try simp only[zS]
   refine zP 3 65 (.pointer (some ⟨Na,0,none⟩)) Ha.o ?_;try simp only[zS]
   refine zL 4 66 (.bool true) rfl (Or.inl ⟨by rfl,fun W hS=>by obtain⟨hS1,hS2⟩:=hS;go_simp⟩) (qaa Ha.o) ?_;try simp only[zS]
   refine zP 5 67 (.pointer (some ⟨Nb,0,none⟩)) Ha.o ?_;try simp only[zS]
   refine zP 6 68 (.pointer (some ⟨Nb,0,none⟩)) Ha.o ?_;try simp only[zS]
   refine zP 7 69 (.pointer (some ⟨Nb,0,none⟩)) Ha.o ?_;try simp only[zS]
   refine zL 8 70 (.bool true) rfl (Or.inl ⟨by rfl,fun W hS=>by obtain⟨hS1,hS2⟩:=hS;go_simp⟩) (qaa Ha.o) ?_;try simp only[zS]
   refine zP 9 71 (.bool true) Ha.o ?_;try simp only[zS]
   refine zP 10 72 (.bool true) Ha.o ?_;try simp only[zS]
   refine zP 11 73 (.pointer (some ⟨N,0,none⟩)) Ha.o ?_;try simp only[zS]
   refine zE 12 74 rfl (fun Kr hKr=>?_);go_simp;go_at_call 93
   refine Ht.o.mono ?_;rintro e W9 ⟨rfl,rfl⟩;refine hKr.out _ _ (qaa Ha.o) (fun _=>?_);clear hKr Kr;try simp only[zS]
   refine zP 13 75 (.bool (decide ((z:Int)≤500))) Ha.o ?_;try simp only[zS]
   refine zP 14 76 (.bool (decide ((z:Int)≤500))) Ha.o ?_;try simp only[zS]
   refine zP 15 6 (.pointer (some ⟨N,0,none⟩)) Ha.o ?_;try simp only[zS]
   refine zP 16 7 (.bool (decide ((z:Int)≤500))) Ha.o ?_;try simp only[zS]
   refine qad (by kernel_rfl) ?_ _;go_wp2;refine zbs (v:=.tuple #[.pointer (some ⟨N,0,none⟩),.bool (decide ((z:Int)≤500))]) (by simp[results,Tryz.results100,go_sem]) rfl ?_;refine⟨N,?_,⟨_,_,_,_,_,_,Hm.o.below (zai _ _).drew⟩,Hj.o.drew⟩;rw[show decide ((z:Int)≤500)=decide (z≤500)from decide_eq_decide.2 (by omega)]
  | false=>
   have Ha:=zH (show(W6.drew).cell? ⟨Na,0,none⟩=some (.bool false)∧(W6.drew).cell? ⟨Nb,0,none⟩=some (.bool false)from⟨Ho.o.1,Ho.o.2.1⟩);refine qac (S:=fun W=>W.cell? ⟨Na,0,none⟩=some (.bool false)∧W.cell? ⟨Nb,0,none⟩=some (.bool false)) [] (by kernel_rfl) Ha.o (fun _=>?_);refine zP 0 62 (.pointer (some ⟨N,0,none⟩)) Ha.o ?_;try simp only[zS]
   refine zP 1 63 (.pointer (some ⟨Na,0,none⟩)) Ha.o ?_;try simp only[zS]
   refine zP 2 64 (.pointer (some ⟨Na,0,none⟩)) Ha.o ?_;try simp only[zS]
   refine zP 3 65 (.pointer (some ⟨Na,0,none⟩)) Ha.o ?_;try simp only[zS]
   refine zL 4 66 (.bool false) rfl (Or.inl ⟨by rfl,fun W hS=>by obtain⟨hS1,hS2⟩:=hS;go_simp⟩) (qaa Ha.o) ?_;try simp only[zS]
   refine zP 5 67 (.pointer (some ⟨Nb,0,none⟩)) Ha.o ?_;try simp only[zS]
   refine zP 6 68 (.pointer (some ⟨Nb,0,none⟩)) Ha.o ?_;try simp only[zS]
   refine zP 7 69 (.pointer (some ⟨Nb,0,none⟩)) Ha.o ?_;try simp only[zS]
   refine zL 8 70 (.bool false) rfl (Or.inl ⟨by rfl,fun W hS=>by obtain⟨hS1,hS2⟩:=hS;go_simp⟩) (qaa Ha.o) ?_;try simp only[zS]
   refine zP 9 71 (.bool true) Ha.o ?_;try simp only[zS]
   refine zP 10 72 (.bool true) Ha.o ?_;try simp only[zS]
   refine zP 11 73 (.pointer (some ⟨N,0,none⟩)) Ha.o ?_;try simp only[zS]
   refine zE 12 74 rfl (fun Kr hKr=>?_);go_simp;go_at_call 93
   refine Ht.o.mono ?_;rintro e W9 ⟨rfl,rfl⟩;refine hKr.out _ _ (qaa Ha.o) (fun _=>?_);clear hKr Kr;try simp only[zS]
   refine zP 13 75 (.bool (decide ((z:Int)≤500))) Ha.o ?_;try simp only[zS]
   refine zP 14 76 (.bool (decide ((z:Int)≤500))) Ha.o ?_;try simp only[zS]
   refine zP 15 6 (.pointer (some ⟨N,0,none⟩)) Ha.o ?_;try simp only[zS]
   refine zP 16 7 (.bool (decide ((z:Int)≤500))) Ha.o ?_;try simp only[zS]
   refine qad (by kernel_rfl) ?_ _;go_wp2;refine zbs (v:=.tuple #[.pointer (some ⟨N,0,none⟩),.bool (decide ((z:Int)≤500))]) (by simp[results,Tryz.results100,go_sem]) rfl ?_;refine⟨N,?_,⟨_,_,_,_,_,_,Hm.o.below (zai _ _).drew⟩,Hj.o.drew⟩;rw[show decide ((z:Int)≤500)=decide (z≤500)from decide_eq_decide.2 (by omega)]
theorem qjF {X:Option Addr}{us:List Value}(h:SrcS w S 2 X n us):∀ x∈slotsAt X n,x.1<w.heap.size:=fun x hx=>by
 unfold slotsAt at hx;split at hx
 ·cases hx
 ·obtain⟨j,hj,rfl⟩:=zbg.1 hx;have:=zbb.1 hj;obtain⟨b,off,e,hS,hc⟩:=h.at_ (by omega);cases e;have hl:=h.src.len;exact cell_lt (hc 0 us[0] (zaa (by omega)))
mutual
theorem NM.lts {S:Nat→Prop}{w:World}:∀ (k:Kd) (N:Nat) (L:List (Nat×Nat)),NM w S k N L→∀ x∈L,x.1<w.heap.size
 | .page _,N,L,hn=>by simp only[NM]at hn
 | .leaf ps,N,L,hn=>by
  simp only[NM]at hn;rw[hn.1];simp
 | .inner ks xs,N,L,hn=>by
  simp only[NM]at hn;obtain⟨a2,K,ck,V,cv,X,cx,vk,vs,L',b1,b2,b3,b4,b5,rfl⟩:=hn;intro x hx;rcases zar.1 hx with hx|hx
  ·exact qjF b4 x hx
  ·exact KM.lts xs vs L' b5 x hx
theorem KM.lts {S:Nat→Prop}{w:World}:∀ (xs:List Kd) (vs:List Kv) (L:List (Nat×Nat)),KM w S xs vs L→∀ x∈L,x.1<w.heap.size
 | [],vs,L,hk=>by simp only[KM]at hk;rw[hk.2];simp
 | x::xs,vs,L,hk=>by
  simp only[KM]at hk;obtain⟨v,r,L1,L2,rfl,rfl,h1,h2⟩:=hk;intro y hy;rcases zar.1 hy with hy|hy
  ·rcases h2 with⟨p,_,_,rfl⟩|⟨N,e,h2⟩
   ·cases hy
   ·exact NM.lts x N L1 h2 y hy
  ·exact KM.lts xs r L2 h1 y hy
end
structure Slo (B:Nat) (L L':List (Nat×Nat)):Prop where
 mem:∀ y∈L',y∈L∨B≤y.1
 nd:L.Nodup→L'.Nodup
theorem Slo.refl (B:Nat)(L:List (Nat×Nat)):Slo B L L:=⟨fun _ h=>.inl h,id⟩
theorem Slo.trans {C:Nat}{L M R:List (Nat×Nat)}(h:Slo B L M)(k:Slo C M R)(hc:B≤C):Slo B L R:=
 ⟨fun y hy=>by
  rcases k.mem y hy with h1|h1
  ·exact h.mem y h1
  ·exact .inr (by omega),fun hl=>k.nd (h.nd hl)⟩
theorem Slo.nil (B:Nat)(L:List (Nat×Nat)):Slo B L []:=⟨by simp,fun _=>zch⟩
theorem Slo.sub {L M:List (Nat×Nat)}(h:List.Sublist M L):Slo B L M:=⟨fun y hy=>.inl (h.subset hy),fun hl=>h.nodup hl⟩
theorem qbU (X:Option Addr)(n:Nat):(slotsAt X n).Nodup:=by
 unfold slotsAt;split
 ·exact zch
 ·refine List.Pairwise.map _ (fun a b hab e=>hab ?_) (List.nodup_range (n:=n));have:=(zcu e).2;omega
theorem Slo.fresh {L M F:List (Nat×Nat)}(hF:F.Nodup)(hB:∀ x∈F,B≤x.1)(hl:∀ x∈L,x.1<B)(h:List.Sublist M L):Slo B L (F++M):=
 ⟨fun y hy=>by
  rcases zar.1 hy with h1|h1
  ·exact .inr (hB y h1)
  ·exact .inl (h.subset h1),fun hn=>zaD.2 ⟨hF,h.nodup hn,fun a ha b hb e=>by
   subst e;have h1:=hB a ha;have h2:=hl a (h.subset hb);omega⟩⟩
def JoF (S:Nat→Prop)(a:Kd)(k:Bs)(b:Kd)(L:List (Nat×Nat))(w:World)(e:Ending)(w':World):Prop:=
 ∃ N,e=.returned (.tuple #[.pointer (some ⟨N,0,none⟩),.bool (join a k b).isSome])∧Below w.heap.size w w'∧∀ x,join a k b=some x→∃ L',NM w' (Fr S w w') x N L'∧Slo w.heap.size L L'
theorem qiO {leaf:Bool}{c1 c2 c3:Value}{nk nv nx:Nat}{vv:List Value}(h:NdQ w' w.heap.size N leaf c1 c2 c3 k nk vk v nv vv x nx vx) :
  Fr S w w' N∧(∀ b,k.ownBlock=some b→Fr S w w' b)∧(∀ b,v.ownBlock=some b→Fr S w w' b)∧(∀ b,x.ownBlock=some b→Fr S w w' b):=
 ⟨.inr ⟨h.lo,h.lt⟩,fun b e=>.inr (h.ko.blk b e),fun b e=>.inr (h.vo.blk b e),fun b e=>.inr (h.xo.blk b e)⟩
theorem NdQ.inner {vs:List Kv}{L':List (Nat×Nat)}(h:NdQ w B N false k v x k n vk v 0 [] x m vx)(hn:ks.length=n)(hm:xs.length=m)(hN:S N)(hk:∀ b,k.ownBlock=some b→S b)(hx:∀ b,x.ownBlock=some b→S b)
  (hrk:RowV w S vk ks)(hvx:vx=vs.flatMap qaI)(hkm:KM w S xs vs L'):∃ X,(∀ a,X=some a→x.ownBlock=some a.block)∧NM w S (.inner ks xs) N (slotsAt X m++L'):=by
 obtain⟨K,ck,rfl,_⟩:=h.ko.slice;obtain⟨V,cv,rfl,_⟩:=h.vo.slice;obtain⟨X,cx,rfl,_⟩:=h.xo.slice;subst hn hm hvx;refine⟨X,fun a e=>by rw[e];rfl,?_⟩;unfold NM;exact⟨hN,K,ck,V,cv,X,cx,vk,vs,L',h.nc,h.ko.srcS hk,hrk,h.xo.srcS hx,hkm,rfl⟩
theorem qib {p q:List Pr}(ha:NM w S (.leaf p) Na [])(hb:NM w S (.leaf q) Nb []){k:Bs}{c:Nat}(lp:p.length≤1000)(lq:q.length≤1000)(hz:qaL p+qaL q≤524288) :
  Calls Tryz.prog 100 #[.pointer (some ⟨Na,0,none⟩),.pointer (some ⟨Nb,0,none⟩),.slice M k.length c] w (JoF S (.leaf p) k (.leaf q) [] w):=by
 unfold NM at ha hb;obtain⟨-,hSa,Ka,cka,Va,cva,Xa,cxa,vka,vva,nca,ska,rka,sva,rva⟩:=ha;obtain⟨-,hSb,Kb,ckb,Vb,cvb,Xb,cxb,vkb,vvb,ncb,skb,rkb,svb,rvb⟩:=hb;have z0:∀ X,SrcS w S 2 X 0 []:=fun X=>SrcS.mk' rfl (fun h0=>by omega);have mk:∀ W N,JnQ w.heap.size N true (vka++vkb) (vva++vvb) ([]++[]) W→Below w.heap.size w W→NM W (Fr S w W) (.leaf (p++q)) N []:=fun W N hq hB=>by
  obtain⟨k1,n1,v1,n2,x1,n3,hq⟩:=hq;have hm:∀ b,S b→Fr S w W b:=fun b h=>.inl h;have r1:RowV W (Fr S w W) (vka++vkb) ((p++q).map Prod.fst):=by rw[zbD];exact((rka.same (Same.of_below hB)).append (rkb.same (Same.of_below hB))).mono hm
  have r2:RowV W (Fr S w W) (vva++vvb) ((p++q).map Prod.snd):=by rw[zbD];exact((rva.same (Same.of_below hB)).append (rvb.same (Same.of_below hB))).mono hm
  have e1:=hq.ko.len;have e2:=hq.vo.len;have e3:=hq.xo.len;have f1:=r1.len;have f2:=r2.len;rw[zaE]at f1 f2;obtain rfl:n1=(p++q).length:=by omega
  obtain rfl:n2=(p++q).length:=by omega
  obtain rfl:n3=0:=by simp at e3;omega
  obtain⟨g0,g1,g2,g3⟩:=qiO (S:=S) hq;exact hq.leaf rfl g0 g1 g2 r1 r2
 refine(qfU (z:=nsize (.leaf (p++q))) (M:=M) (m:=k.length) (c:=c) nca ncb ska skb sva svb (z0 Xa) (z0 Xb) rka.one_cell rkb.one_cell rva.one_cell rvb.one_cell (by simp) (by simp) lp lq lp lq (by omega) (by omega) (zaw rfl▸rfl) (fun W N hq hB=>qdi (mk W N hq hB) ?_)).mono ?_
 ·simp only[nsize,qbM];omega
 ·rintro e w' ⟨N,rfl,hq,hB⟩;have hj:(join (.leaf p) k (.leaf q)).isSome=decide (nsize (.leaf (p++q))≤500):=by
   unfold join;by_cases h:nsize (.leaf (p++q))≤500
   ·simp only[zaw h,zas h,zc6]
   ·simp only[zaB h,zal h,Option.isSome_none]
  refine⟨N,by rw[hj],hB,fun x hx=>⟨[],?_,Slo.nil _ _⟩⟩;unfold join at hx;simp only at hx;split at hx
  ·cases hx;exact mk w' N hq hB
  ·cases hx
theorem qhj {ls:List Bs}{ys:List Kd}{La Lb:List (Nat×Nat)}(ha:NM w S (.inner ks xs) Na La)(hb:NM w S (.inner ls ys) Nb Lb){k:Bs}{c:Nat}(hM:ByS w S M k)(hc:k.length≤c)(lk:ks.length≤1000)(ll:ls.length≤1000)(lx:xs.length≤1000)(ly:ys.length≤1000)(hz:ksize ks+ksize ls+k.length≤524288) :
  Calls Tryz.prog 100 #[.pointer (some ⟨Na,0,none⟩),.pointer (some ⟨Nb,0,none⟩),.slice M k.length c] w (JoF S (.inner ks xs) k (.inner ls ys) (La++Lb) w):=by
 have la:=NM.lts _ _ _ ha;have lb:=NM.lts _ _ _ hb;unfold NM at ha hb;obtain⟨hSa,Ka,cka,Va,cva,Xa,cxa,vka,vsa,La2,nca,ska,rka,sxa,kma,rfl⟩:=ha;obtain⟨hSb,Kb,ckb,Vb,cvb,Xb,cxb,vkb,vsb,Lb2,ncb,skb,rkb,sxb,kmb,rfl⟩:=hb;have z0:∀ X,SrcS w S 1 X 0 []:=fun X=>SrcS.mk' rfl (fun h0=>by omega);have mk:∀ W N,JnQ w.heap.size N false ((vka++[.slice M k.length c])++vkb) ([]++[]) (vsa.flatMap qaI++vsb.flatMap qaI) W→Below w.heap.size w W→∃ X,(∀ a,X=some a→w.heap.size≤a.block)∧NM W (Fr S w W) (.inner (ks++k::ls) (xs++ys)) N (slotsAt X (xs++ys).length++(La2++Lb2)):=fun W N hq hB=>by
  obtain⟨k1,n1,v1,n2,x1,n3,hq⟩:=hq;have hm:∀ b,S b→Fr S w W b:=fun b h=>.inl h;have r1:RowV W (Fr S w W) ((vka++[.slice M k.length c])++vkb) (ks++k::ls):=by
   have h3:=((rka.same (Same.of_below hB)).append (RowV.one hc (hM.same (Same.of_below hB)))).append (rkb.same (Same.of_below hB));rw[show ks++k::ls=(ks++[k])++ls by simp];exact h3.mono hm
  have r2:KM W (Fr S w W) (xs++ys) (vsa++vsb) (La2++Lb2):=KM.mono hm _ _ _ (qch (kma.below hB) (kmb.below hB));have e1:=hq.ko.len;have e2:=hq.vo.len;have e3:=hq.xo.len;have f1:=r1.len;have f2:=qkg r2;obtain rfl:n1=(ks++k::ls).length:=by omega
  obtain rfl:n2=0:=by simp at e2;omega
  obtain rfl:n3=(xs++ys).length:=by
   rw[←zat,qcg]at e3;omega
  obtain⟨g0,g1,g2,g3⟩:=qiO (S:=S) hq;obtain⟨X,hX,hN⟩:=hq.inner (ks:=ks++k::ls) (xs:=xs++ys) rfl rfl g0 g1 g3 r1 (zat ..).symm r2;exact⟨X,fun a e=>(hq.xo.blk a.block (hX a e)).1,hN⟩
 refine(qfU (z:=nsize (.inner (ks++k::ls) (xs++ys))) (M:=M) (m:=k.length) (c:=c) nca ncb ska skb (z0 Va) (z0 Vb) sxa sxb rka.one_cell rkb.one_cell (by simp) (by simp) (kcells_one _) (kcells_one _) lk ll (by omega) (by omega) lx ly (vk:=(vka++[.slice M k.length c])++vkb) rfl (fun W N hq hB=>?_)).mono ?_
 ·obtain⟨X,_,hN⟩:=mk W N hq hB;refine qdi hN ?_;simp only[nsize,qat,qbo,zad];omega
 ·rintro e w' ⟨N,rfl,hq,hB⟩;obtain⟨X,hX,hN⟩:=mk w' N hq hB;have hj:(join (.inner ks xs) k (.inner ls ys)).isSome=decide (nsize (.inner (ks++k::ls) (xs++ys))≤500):=by
   unfold join;by_cases h:nsize (.inner (ks++k::ls) (xs++ys))≤500
   ·simp only[zaw h,zas h,zc6]
   ·simp only[zaB h,zal h,Option.isSome_none]
  refine⟨N,by rw[hj],hB,fun x hx=>⟨_,?_,Slo.fresh (qbU X (xs++ys).length) (fun y hy=>?_) (fun y hy=>?_) (List.Sublist.append (zcW (slotsAt Xa xs.length) La2) (zcW (slotsAt Xb ys.length) Lb2))⟩⟩
  ·unfold join at hx;simp only at hx;split at hx
   ·cases hx;exact hN
   ·cases hx
  ·unfold slotsAt at hy;split at hy
   ·cases hy
   ·obtain⟨j,_,rfl⟩:=zbg.1 hy;exact hX _ rfl
  ·rcases zar.1 hy with h|h
   ·exact la y h
   ·exact lb y h
end Go.Proofs.YtpmebcgmgfcmiaaGreatDoor
