/- Texts LwL LwM LwN LwT. -/
import Derived.Test.YtpmebcgmgfcmiaaGreatDoorQ36
set_option linter.all false
set_option maxRecDepth 100000
set_option maxHeartbeats 16000000
namespace Go.Proofs.YtpmebcgmgfcmiaaGreatDoor
open Go.RowKit BT Go.Lib
section
theorem RowV.live {w:World}{S:Nat→Prop}:∀ {vs:List Value} {ks:List Bs},RowV w S vs ks→RowV w (fun b=>S b∧b<w.heap.size) vs ks
 | [],ks,hr=>hr
 | v::vs,ks,hr=>by
  obtain⟨k,r,B,c,e1,e2,e3,e4,e5⟩:=hr;refine⟨k,r,B,c,e1,e2,e3,⟨e4.by_,fun ad e h0=>⟨e4.blk ad e h0,?_⟩⟩,RowV.live e5⟩;obtain⟨b,off,e6,hl,_⟩:=e4.by_.at_ h0;rw[e]at e6;cases e6;exact hl
theorem PrS.live {w:World}{S:Nat→Prop}{A:Option Addr}{l:List Pr}(h:PrS w S A l):PrS w (fun b=>S b∧b<w.heap.size) A l:=by
 obtain⟨cs,h1,h2⟩:=h;refine⟨cs,⟨h1.src,fun hn=>?_,h1.thaw⟩,h2.live⟩;obtain⟨b,off,e,hS⟩:=h1.form hn;exact⟨b,off,e,hS,(h1.thaw hn b off e).1⟩
theorem PrS.touch {w w':World}{S F:Nat→Prop}{A:Option Addr}{l:List Pr}(h:PrS w S A l)(ht:Touch F w w')(hd:∀ b,S b→¬F b):PrS w' S A l:=h.same (Same.of_touch ht hd)
structure ShM (B:Nat) (W:World) (D:Nat) (a:PA) (G T:Nat) (F:Nat→Prop) (t:Ts) (Rn Ro n m:Nat) (now old:List Pr):Prop where
 sd:SdM W D a G T F t Rn Ro 20 0
 nD:¬TF F G T D
 lo:∀ b,TF F G T b→B≤b
 b1:1<B
 bw:B≤W.heap.size
 gd:Gd 24 20 n m t now old
 sure:Sure t.p
section
variable {B D G T Rn Ro n m kn kc vn vc:Nat} {W W':World} {a:PA} {F:Nat→Prop} {t:Ts} {now old:List Pr} {key val:Bs} {A V:Option Addr}
theorem ShM.dlt (h:ShM B W D a G T F t Rn Ro n m now old):D<W.heap.size:=(zab.1 h.sd.box).1
theorem ShM.below (h:ShM B W D a G T F t Rn Ro n m now old)(hb:Below W.heap.size W W'):ShM B W' D a G T F t Rn Ro n m now old:=
 ⟨⟨(hb.block D h.dlt).trans h.sd.box,h.sd.tr.below hb⟩,h.nD,h.lo,h.b1,zah h.bw hb.size,h.gd,h.sure⟩
theorem ShM.tree {t':Ts}{F':Nat→Prop}{n' m':Nat}{now' old':List Pr}(h:ShM B W D a G T F t Rn Ro n m now old)(ht:TrM W' a G 0 T F' t'.p t'.g t'.root1)(hx:Ext (TF F G T) (TF F' G T) W W')(hg:Gd 24 20 n' m' t' now' old')(hs:Sure t'.p) :
  ShM B W' D a G T F' t' Rn Ro n' m' now' old'∧Below B W W':=by
 refine⟨⟨⟨(hx.touch.block D h.dlt h.nD).trans h.sd.box,ht⟩,fun hf=>?_,fun b hb=>?_,h.b1,zah h.bw hx.touch.size,hg,hs⟩,hx.touch.os,hx.touch.tape,hx.touch.output,hx.touch.size,fun b hb=>hx.touch.block b (by have:=h.bw;omega) (fun hf=>by have:=h.lo b hf;omega)⟩
 ·rcases hx.sub D hf with h1|h1
  ·exact h.nD h1
  ·have:=h.dlt;omega
 ·rcases hx.sub b hb with h1|h1
  ·exact h.lo b h1
  ·have:=h.bw;omega
def ShF (v:Value)(B D:Nat)(a:PA)(G T Rn Ro n m:Nat)(F:Nat→Prop)(now old:List Pr)(W:World)(e:Ending)(w':World):Prop:=
 e=.returned v∧∃ F' t',ShM B w' D a G T F' t' Rn Ro n m now old∧Ext (TF F G T) (TF F' G T) W w'∧Below B W w'
theorem qlT (h:ShM B W D a G T F t Rn Ro n m now old)(hn:n≤10)(hm:m≤2)(hA:By W A key)(hkn:key.length=kn)(hV:By W V val)(hvn:val.length=vn)(hk:klen key)(hv:val.length≤160) :
  Calls Tryz.prog 15 #[.pointer (some ⟨T,0,none⟩),.slice A kn kc,.slice V vn vc] W (ShF (.int .i64 0) B D a G T Rn Ro (n+1) (m+1) F (putR key val now) old W):=by
 refine(qgP h.sd.tr h.gd.std.on (by have:=h.gd.wt;omega) (TreeIs.trp h.gd.std.now h.gd.std.pages) hA hkn hV hvn (fun hk hv=>h.gd.news qdt (by rw[zaB (by simp)];omega) (fun hk=>hk.2) hk (fun x e=>by cases e;exact hv))).mono fun e w' hp=>?_;obtain⟨F',e1,htr,hx⟩:=hp;obtain⟨s1,s2,s3⟩:=qlw (value:=val) h.gd h.sure (by omega) (by omega) qdt (by omega) hk.2 hk hv;obtain⟨k1,k2⟩:=h.tree htr hx s2 s3;rw[s1]at e1;exact⟨e1,F',_,k1,hx,k2⟩
theorem qlC (h:ShM B W D a G T F t Rn Ro n m now old)(hn:n≤10)(hm:m≤2) :
  Calls Tryz.prog 15 #[.pointer (some ⟨T,0,none⟩),.slice none 0 0,.slice none 0 0] W (ShF (.int .i64 120) B D a G T Rn Ro n m F now old W):=by
 refine(qgP (key:=[]) (value:=[]) h.sd.tr h.gd.std.on (by have:=h.gd.wt;omega) (TreeIs.trp h.gd.std.now h.gd.std.pages) (By.nil _ _) rfl (By.nil _ _) rfl (fun hk=>by unfold klen at hk;simp at hk)).mono fun e w' hp=>?_;obtain⟨F',e1,htr,hx⟩:=hp;have ep:putT 0 t [] []=(120,t):=by unfold putT;rw[zaB (by simp)]
 rw[ep]at e1 htr;obtain⟨k1,k2⟩:=h.tree htr hx h.gd h.sure;exact⟨e1,F',_,k1,hx,k2⟩
theorem qkL (h:ShM B W D a G T F t Rn Ro n m now old)(hn:n≤10) :
  Calls Tryz.prog 18 #[.pointer (some ⟨T,0,none⟩)] W (ShF (.int .i64 0) B D a G T Rn Ro (n+1) m F now now W):=by
 refine(qeH h.sd.tr h.gd.std.on (by have:=h.gd.wt;omega) h.gd.std.root_in (by have:=h.gd.gen;omega)).mono fun e w' hp=>?_;obtain⟨F',e1,htr,hx⟩:=hp;obtain⟨s1,s2,s3⟩:=qhZ h.gd (by omega) h.sure;obtain⟨k1,k2⟩:=h.tree htr hx s2 s3;rw[s1]at e1;exact⟨e1,F',_,k1,hx,k2⟩
theorem qmE (h:ShM B W D a G T F t Rn Ro n m now old)(hA:ByS W (fun b=>b<W.heap.size∧¬TF F G T b) A key)(h1:∀ ad,A=some ad→ad.block≠1):ByS W (fun b=>b<W.heap.size∧¬GF F G b∧b≠T∧b≠1) A key:=
 ⟨hA.by_,fun ad e h0=>by
  obtain⟨h2,h3⟩:=hA.blk ad e h0;exact⟨h2,fun hf=>h3 (.inl hf),fun hf=>h3 (.inr hf),h1 ad e⟩⟩
theorem qlS (h:ShM B W D a G T F t Rn Ro n m now old)(hn:n≤10)(hm:m≤2)(hA:ByS W (fun b=>b<W.heap.size∧¬TF F G T b) A key)(h1:∀ ad,A=some ad→ad.block≠1)(hkn:key.length=kn)(hkc:kn≤kc)(hk:key.length≤24) :
  Calls Tryz.prog 17 #[.pointer (some ⟨T,0,none⟩),.slice A kn kc] W (ShF (.tuple #[.bool (getR key now).isSome,.int .i64 0]) B D a G T Rn Ro (n+1) m F (delR key now) old W):=by
 refine(qeK (r:=getR key now) h.sd.tr h.gd.std.on (by have:=h.gd.wt;omega) (TreeIs.trp h.gd.std.now h.gd.std.pages) (qmE h hA h1) hkn hkc (h.gd.get_none key) (h.gd.get_at key) (fun hk=>h.gd.news qdt (by rw[zaw rfl];omega) (fun hk=>hk.2) hk (fun x e=>by cases e))).mono fun e w' hp=>?_;obtain⟨F',e1,htr,hx⟩:=hp;cases hr:getR key now with
 | none=>
  rw[hr]at e1 htr;have ed:delT 0 t key none=(0,t):=by unfold delT;rw[zaw rfl]
  rw[ed]at e1 htr;obtain⟨k1,k2⟩:=h.tree htr hx (h.gd.mono (Nat.le_succ _) (zac _)) h.sure;rw[qeT hr];exact⟨e1,F',_,k1,hx,k2⟩
 | some v=>
  obtain⟨s1,s2,s3⟩:=qk3 h.gd h.sure (by omega) (by omega) qdt (by omega) hk hr;obtain⟨k1,k2⟩:=h.tree htr hx s2 s3;rw[s1,hr]at e1;exact⟨e1,F',_,k1,hx,k2⟩
theorem qmi (h:ShM B W D a G T F t Rn Ro n m now old)(hm:m≤2) :
  Calls Tryz.prog 13 #[.pointer (some ⟨T,0,none⟩),.slice none 0 0,.slice none 0 0] W (fun e w'=>Below W.heap.size W w'∧∃ A c,e=.returned (.tuple #[.slice A now.length c,.int .i64 0])∧PrS w' (fun b=>W.heap.size≤b∧b<w'.heap.size) A now):=by
 have hl:=qcH (A:=none) (HA:=none) (lo:=[]) (hi:=[]) (n:=0) (c:=0) (hn:=0) (hc:=0) h.sd.tr h.gd.std.on (TreeIs.lii h.gd.std.now h.gd.std.pages []) (By.nil _ _) (By.nil _ _) rfl rfl (by rw[(qaB now).1];have:=h.gd.now;omega) (fun x hx=>by
  rw[(qaB now).1]at hx;have:=h.gd.srt.2 x hx;have h1:=this.1.2;have h2:=this.2;omega)
 rw[(qaB now).1,(qaB now).2]at hl;refine hl.mono fun e w' hp=>?_;obtain⟨h1,A,c,e1,h2⟩:=LsF.out hp;exact⟨h1,A,c,e1,h2.live⟩
theorem qmF (h:ShM B W D a G T F t Rn Ro n m now old)(hA:By W A key)(hkn:key.length=kn) :
  Calls Tryz.prog 16 #[.pointer (some ⟨T,0,none⟩),.slice A kn kc] W (GeF (getR key now) W):=
 qgy h.sd.tr h.gd.std.on (TreeIs.trp h.gd.std.now h.gd.std.pages) hA hkn (h.gd.get_none key) (h.gd.get_at key)
theorem qmj (h:ShM B W D a G T F t Rn Ro n m now old) :
  Calls Tryz.prog 19 #[.pointer (some ⟨a.P,0,none⟩),.int .i64 0] W (fun e w'=>Below W.heap.size W w'∧∃ G',e=.returned (.tuple #[.pointer (some ⟨G',0,none⟩),.int .i64 0])∧PgM w' a G' 0 F t.p ⟨20,t.g.gen,t.g.root1,t.g.was,t.g.was⟩):=by
 have ho:=h.gd.std.old;rw[h.gd.pg]at ho;obtain⟨oc1,oc2⟩:=ho.com.open_;have Ha:=qe2 h.sd.tr.pg.pl h.sd.tr.pg.nib h.sd.tr.pg.n1.1 (d:=0) (m:=162) (by rw[h.gd.most];rfl) (by decide) h.gd.std.on;unfold OpF at Ha;rw[show min ((162-2) / 8) 384=20 from rfl,oc1,oc2]at Ha;refine Ha.mono fun e w' hp=>?_;obtain⟨h1,⟨_,G',e1,_,h2⟩|⟨h2,_⟩⟩:=hp
 ·exact⟨h1,G',e1,h2⟩
 ·cases h2
theorem qlB {G' T':Nat}{w1:World}(h:ShM B W D a G T F t Rn Ro n m now old)(hm:m≤2)(ht:TrM w1 a G' 0 T' F t.p ⟨20,t.g.gen,t.g.root1,t.g.was,t.g.was⟩ t.g.root1) :
  Calls Tryz.prog 13 #[.pointer (some ⟨T',0,none⟩),.slice none 0 0,.slice none 0 0] w1 (fun e w'=>Below w1.heap.size w1 w'∧∃ A c,e=.returned (.tuple #[.slice A old.length c,.int .i64 0])∧PrS w' (fun b=>w1.heap.size≤b∧b<w'.heap.size) A old):=by
 have ho:=h.gd.std.old;rw[h.gd.pg]at ho;have hs:=ho.seen;have hl:=qcH (A:=none) (HA:=none) (lo:=[]) (hi:=[]) (n:=0) (c:=0) (hn:=0) (hc:=0) ht h.gd.std.on (TreeIs.lii hs (by omega) []) (By.nil _ _) (By.nil _ _) rfl rfl (by rw[(qaB old).1];have:=h.gd.old;omega) (fun x hx=>by
  rw[(qaB old).1]at hx;have:=(TreeIs.srt hs).2 x hx;have h1:=this.1.2;have h2:=this.2;omega)
 rw[(qaB old).1,(qaB old).2]at hl;refine hl.mono fun e w' hp=>?_;obtain⟨h1,A,c,e1,h2⟩:=LsF.out hp;exact⟨h1,A,c,e1,h2.live⟩
theorem qlA {w w':World}{e:Ending}(hw:1<w.heap.size)(h:BgF 20 w e w'):∃ D a G T F t Rn Ro,e=.returned (.pointer (some ⟨D,0,none⟩))∧ShM w.heap.size w' D a G T F t Rn Ro 0 0 [] []∧Below w.heap.size w w':=by
 obtain⟨D,a,G,T,F,t,Rn,Ro,e1,h1,h2,h3,h4,h5,h6,h7,h8,h9,h10,h11,h12,h13,h14,h15,h16,h17,h18,h19⟩:=h;refine⟨D,a,G,T,F,t,Rn,Ro,e1,⟨h1,?_,?_,hw,h19.size,⟨h2 24,h3,by rw[h5];simp,by omega,by rw[h7],h8,zac _,zac _⟩,(h2 24).on,h6⟩,h19⟩
 ·rintro((hf|hf)|hf)
  ·have:=h13 D hf;omega
  ·omega
  ·omega
 ·rintro b ((hf|hf)|hf)
  ·exact(h13 b hf).1
  ·omega
  ·omega
end
end
variable {w:World}
theorem qix (w:World)(x:UInt8):By (w.alloc (.cells #[.int .u8 (x.toNat:Int)] 5)) (some ⟨w.heap.size,0,none⟩) [x]:=By.of_block (l:=[x]) (zaf w _) rfl
theorem qlY (w:World):By (w.alloc (.cells #[.int .u8 98] 5)) (some ⟨w.heap.size,0,none⟩) [98]:=qix w 98
theorem qlX (w:World):By (w.alloc (.cells #[.int .u8 97] 5)) (some ⟨w.heap.size,0,none⟩) [97]:=qix w 97
theorem qmK (w:World):By (w.alloc (.cells #[.int .u8 99] 5)) (some ⟨w.heap.size,0,none⟩) [99]:=qix w 99
theorem by_1 (w:World):By (w.alloc (.cells #[.int .u8 1] 5)) (some ⟨w.heap.size,0,none⟩) [1]:=qix w 1
theorem qlv {x y z:Nat}(hx:By w (some ⟨x,0,none⟩) [97])(hy:By w (some ⟨y,0,none⟩) [98])(hz:By w (some ⟨z,0,none⟩) [1]) :
  PrS (w.alloc (.cells #[.slice (some ⟨x,0,none⟩) 1 1,.slice none 0 0,.slice (some ⟨y,0,none⟩) 1 1,.slice (some ⟨z,0,none⟩) 1 1] 48)) (fun _=>True) (some ⟨w.heap.size,0,none⟩) [([97],[]),([98],[1])]:=by
 have hb:∀ o,Below w.heap.size w (w.alloc o):=fun o=>(zai _ _).alloc (zac _) o;have hr:=zaf w (.cells #[.slice (some ⟨x,0,none⟩) 1 1,.slice none 0 0,.slice (some ⟨y,0,none⟩) 1 1,.slice (some ⟨z,0,none⟩) 1 1] 48);refine⟨[.slice (some ⟨x,0,none⟩) 1 1,.slice none 0 0,.slice (some ⟨y,0,none⟩) 1 1,.slice (some ⟨z,0,none⟩) 1 1],SrcS.mk' rfl (fun _=>⟨w.heap.size,0,rfl,trivial,fun j u hj=>?_,(zab.1 hr).1,fun i=>zaQ _ _ _ _ _ hr⟩),?_⟩
 ·rw[zaO,zan _ _ _ _ _ _ hr];simpa using hj
 ·refine⟨[97],_,_,1,rfl,rfl,zac _,⟨hx.below (hb _),fun _ _ _=>trivial⟩,[],_,_,0,rfl,rfl,zac _,⟨By.nil _ _,fun _ _ _=>trivial⟩,[98],_,_,1,rfl,rfl,zac _,⟨hy.below (hb _),fun _ _ _=>trivial⟩,[1],_,_,1,rfl,rfl,zac _,⟨hz.below (hb _),fun _ _ _=>trivial⟩,rfl⟩
theorem qjC (hnib:Nib w) :
  Calls Tryz.prog 5 #[] w (fun e w'=>e=.returned (.bool true)∧Below w.heap.size w w'):=by
 have H0:1<w.heap.size:=zaH w ⟨1,0,none⟩ (hnib 0 (by omega));have HV:=zH ((qfw hnib 20 (by omega)).mono fun e w' hh=>qlA H0 hh);obtain⟨B,hB⟩:∃ x,w.heap.size=x:=⟨_,rfl⟩;rw[hB]at HV⊢;clear hnib hB H0;go_enter Tryz.func5,Tryz.ntmps5
 go_upto_region 4 with(go_at_call 6;refine HV.o.mono ?_;rintro e w1 ⟨D,a,G,T,F,t,Rn,Ro,rfl,hsh,hb⟩;have Hr:=zH hsh;have HT:=zH hb;clear hsh hb)
 have d2:w1.cell? ⟨D,2,none⟩=some (.pointer (some ⟨T,0,none⟩)):=zC Hr.o.sd.box;have hM:=Hr.o.dlt;obtain⟨wa,hwa⟩:∃ x,w1.alloc (.cells #[.int .u8 98] 5)=x:=⟨_,rfl⟩;obtain⟨wb,hwb⟩:∃ x,wa.alloc (.cells #[.int .u8 1] 5)=x:=⟨_,rfl⟩;have Hv:Below w1.heap.size w1 wa:=by rw[←hwa];exact zB _ _
 have Hw:Below wa.heap.size wa wb:=by rw[←hwb];exact zB _ _
 have H1:By wb (some ⟨w1.heap.size,0,none⟩) [98]:=by
  have:=qlY w1;rw[hwa]at this;exact this.below Hw
 have H2:By wb (some ⟨wa.heap.size,0,none⟩) [1]:=by
  have:=by_1 wa;rw[hwb]at this;exact this
 have hu:=zH (qlT (kc:=1) (vc:=1) ((Hr.o.below Hv).below Hw) (by omega) (by omega) H1 rfl H2 rfl (by unfold klen;decide) (by decide));have HB:=zH (Hv.trans (Hw.mono Hv.size));clear Hv Hw H1 H2;go_upto_region 5 with(go_at_call 15;refine hu.o.mono ?_;rintro e w2 ⟨rfl,F2,t2,hsh,-,hb⟩;have Hs:=zH hsh;have H8:=zH hb;clear hsh hb)
 have hD:w2.cell? ⟨D,2,none⟩=some (.pointer (some ⟨T,0,none⟩)):=zC Hs.o.sd.box;have HL:=Hs.o.dlt;obtain⟨wc,hwc⟩:∃ x,w2.alloc (.cells #[.int .u8 97] 5)=x:=⟨_,rfl⟩;have HH:Below w2.heap.size w2 wc:=by rw[←hwc];exact zB _ _
 have H3:By wc (some ⟨w2.heap.size,0,none⟩) [97]:=by
  have:=qlX w2;rw[hwc]at this;exact this
 have hw:=zH (qlT (kc:=1) (vc:=0) (Hs.o.below HH) (by omega) (by omega) H3 rfl (By.nil _ none) rfl (by unfold klen;decide) (by decide));have HC:=zH HH;clear HH H3 d2 hM hwa hwb;go_upto_region 6 with(go_at_call 15;refine hw.o.mono ?_;rintro e w3 ⟨rfl,F3,t3,hsh,-,hb⟩;have Ht:=zH hsh;have H9:=zH hb;clear hsh hb)
 have Hm:=zH (show ShM B w3 D a G T F3 t3 Rn Ro 2 2 [([97],[]),([98],[1])] []from Ht.o);have hE:w3.cell? ⟨D,2,none⟩=some (.pointer (some ⟨T,0,none⟩)):=zC Ht.o.sd.box;have ho:=zH (qmi Hm.o (by omega));clear hD HL hwc;go_upto_region 7 with(go_at_call 13;refine ho.o.mono ?_;rintro e w4 ⟨hb4,A4,c4,rfl,Hp⟩;have HU:=zH hb4;have hy:=zH Hp;clear hb4 Hp)
 have Hn:=zH (Hm.o.below HU.o);have hH:w4.cell? ⟨D,2,none⟩=some (.pointer (some ⟨T,0,none⟩)):=zC Hn.o.sd.box;have HM:=Hn.o.dlt;obtain⟨wd,hwd⟩:∃ x,w4.alloc (.cells #[.int .u8 98] 5)=x:=⟨_,rfl⟩;have HI:Below w4.heap.size w4 wd:=by rw[←hwd];exact zB _ _
 have H4:By wd (some ⟨w4.heap.size,0,none⟩) [98]:=by
  have:=qlY w4;rw[hwd]at this;exact this
 have Hx:=(qmF (kc:=1) (Hn.o.below HI) H4 rfl).mono fun e w' hh=>hh.out;rw[show getR [98] [([97],[]),([98],[1])]=some [1]from rfl]at Hx;simp only[zc6,zb1]at Hx;have hn:=zH Hx;have Hk:=zH HI;clear hE HI H4 Hx;go_upto_region 8 with(go_at_call 16;refine hn.o.mono ?_;rintro e w5 ⟨hb5,A5,n5,c5,rfl,-,hn5⟩;have Hq:=zH (Hk.o.trans (hb5.mono Hk.o.size));have hq:=zH (show(1:Nat)=n5 from hn5);clear hb5 hn5)
 have Hi:=zH (Hn.o.below Hq.o);have hI:w5.cell? ⟨D,2,none⟩=some (.pointer (some ⟨T,0,none⟩)):=zC Hi.o.sd.box;have HN:=Hi.o.dlt;obtain⟨we,hwe⟩:∃ x,w5.alloc (.cells #[.int .u8 99] 5)=x:=⟨_,rfl⟩;have HJ:Below w5.heap.size w5 we:=by rw[←hwe];exact zB _ _
 have Hz:we.heap.size=w5.heap.size+1:=by rw[←hwe,za2]
 have H5:ByS we (fun b=>b<we.heap.size∧¬TF F3 G T b) (some ⟨w5.heap.size,0,none⟩) [99]:=⟨by
  have:=qmK w5;rw[hwe]at this;exact this,fun ad e _=>by
  cases e;exact⟨by rw[Hz];exact zcY _,fun hf=>zb9 _ (Hi.o.sd.tr.live _ hf)⟩⟩
 have Hb:=(qlS (kc:=1) (Hi.o.below HJ) (by omega) (by omega) H5 (fun ad e=>by
  cases e;have:=Hi.o.b1;have:=Hi.o.bw;show w5.heap.size≠1;omega) rfl (by decide) (by decide))
 rw[show getR [99] [([97],[]),([98],[1])]=none from rfl]at Hb;simp only[Option.isSome_none]at Hb;have hl:=zH Hb;have Hh:=zH HJ;clear hH HM hwd HJ Hz H5 Hb;go_upto_region 9 with(go_at_call 17;refine hl.o.mono ?_;rintro e w6 ⟨rfl,F6,t6,hsh,hx,hb⟩;have HX:=zH (show ShM B w6 D a G T F6 t6 Rn Ro 3 2 [([97],[]),([98],[1])] []from hsh);have HF:=zH hx;have ha:=zH hb;clear hsh hb hx)
 have hJ:w6.cell? ⟨D,2,none⟩=some (.pointer (some ⟨T,0,none⟩)):=zC HX.o.sd.box;have hr:=zH (qlC HX.o (by omega) (by omega));clear hI HN hwe;go_upto_region 10 with(go_at_call 15;refine hr.o.mono ?_;rintro e w7 ⟨rfl,F7,t7,hsh,hx,hb⟩;have HY:=zH hsh;have HG:=zH hx;have hc:=zH hb;clear hsh hb hx)
 have hK:w7.cell? ⟨D,2,none⟩=some (.pointer (some ⟨T,0,none⟩)):=zC HY.o.sd.box;have hg:=zH (qkL HY.o (by omega));clear hJ;go_upto_region 11 with(go_at_call 18;refine hg.o.mono ?_;rintro e w8 ⟨rfl,F8,t8,hsh,hx,hb⟩;have Hj:=zH hsh;have HZ:=zH hx;have hd:=zH hb;clear hsh hb hx)
 have hL:w8.cell? ⟨D,2,none⟩=some (.pointer (some ⟨T,0,none⟩)):=zC Hj.o.sd.box;have HO:=Hj.o.dlt;obtain⟨wf,hwf⟩:∃ x,w8.alloc (.cells #[.int .u8 97] 5)=x:=⟨_,rfl⟩;have HK:Below w8.heap.size w8 wf:=by rw[←hwf];exact zB _ _
 have H7:wf.heap.size=w8.heap.size+1:=by rw[←hwf,za2]
 have H6:ByS wf (fun b=>b<wf.heap.size∧¬TF F8 G T b) (some ⟨w8.heap.size,0,none⟩) [97]:=⟨by
  have:=qlX w8;rw[hwf]at this;exact this,fun ad e _=>by
  cases e;exact⟨by rw[H7];exact zcY _,fun hf=>zb9 _ (Hj.o.sd.tr.live _ hf)⟩⟩
 have Hb:=(qlS (kc:=1) (Hj.o.below HK) (by omega) (by omega) H6 (fun ad e=>by
  cases e;have:=Hj.o.b1;have:=Hj.o.bw;show w8.heap.size≠1;omega) rfl (by decide) (by decide))
 rw[show getR [97] [([97],[]),([98],[1])]=some []from rfl]at Hb;simp only[zc6]at Hb;have hm:=zH Hb;have Hl:=zH HK;clear hK HK H7 H6 Hb;go_upto_region 12 with(go_at_call 17;refine hm.o.mono ?_;rintro e w9 ⟨rfl,F9,t9,hsh,hx,hb⟩;have Hu:=zH hsh;have hC:=zH hx;have he:=zH hb;clear hsh hb hx)
 have d0:w9.cell? ⟨D,0,none⟩=some (.pointer (some ⟨a.P,0,none⟩)):=zC Hu.o.sd.box;have hs:=zH (qmj Hu.o);clear hL HO hwf;obtain rfl:=hq.o;go_upto_region 15 with(go_at_call 19;refine hs.o.mono ?_;rintro e w10 ⟨hb10,G2,rfl,hpg⟩;have Hc:=zH hb10;have hz:=zH hpg;clear hb10 hpg)
 have ht:=zH (qe4 hz.o);clear d0;go_upto_region 18 with(go_at_call 20;refine ht.o.mono ?_;rintro e w11 ⟨T2,rfl,htr,hb11,-⟩;have hA:=zH htr;have He:=zH hb11;clear htr hb11)
 have hp:=zH (qlB Hu.o (by omega) hA.o);go_upto_region 19 with(go_at_call 13;refine hp.o.mono ?_;rintro e w12 ⟨hb12,A12,c12,rfl,Ha⟩;have Hf:=zH hb12;have HD:=zH (show PrS w12 _ A12 [([97],[]),([98],[1])]from Ha);clear hb12 Ha)
 obtain⟨v1,hv1⟩:∃ x,w12.alloc (.cells #[.int .u8 97] 5)=x:=⟨_,rfl⟩;obtain⟨v2,hv2⟩:∃ x,v1.alloc (.cells #[.int .u8 98] 5)=x:=⟨_,rfl⟩;obtain⟨v3,hv3⟩:∃ x,v2.alloc (.cells #[.int .u8 1] 5)=x:=⟨_,rfl⟩;obtain⟨v4,hv4⟩:∃ x,v3.alloc (.cells #[.slice (some ⟨w12.heap.size,0,none⟩) 1 1,.slice none 0 0,.slice (some ⟨v1.heap.size,0,none⟩) 1 1,.slice (some ⟨v2.heap.size,0,none⟩) 1 1] 48)=x:=⟨_,rfl⟩;have k1:Below w12.heap.size w12 v1:=by rw[←hv1];exact zB _ _
 have k2:Below v1.heap.size v1 v2:=by rw[←hv2];exact zB _ _
 have k3:Below v2.heap.size v2 v3:=by rw[←hv3];exact zB _ _
 have k4:Below v3.heap.size v3 v4:=by rw[←hv4];exact zB _ _
 have HQ:=qlX w12;rw[hv1]at HQ;have HR:=qlY v1;rw[hv2]at HR;have HS:=by_1 v2;rw[hv3]at HS;have Hy:=qlv ((HQ.below k2).below k3) (HR.below k3) HS;rw[hv4]at Hy;have kk:Below w12.heap.size w12 v4:=k1.trans ((k2.mono k1.size).trans ((k3.mono (zah k1.size k2.size)).trans (k4.mono (zah k1.size (zah k2.size k3.size)))));have Ha:=HD.o.below kk;have hN:=Hq.o.size;have Hz:=Hh.o.size;have n3:∀ b,(w3.heap.size≤b∧b<w4.heap.size)→¬TF F3 G T b:=fun b hb hf=>by have:=Ht.o.sd.tr.live b hf;omega
 have n6:∀ b,(w3.heap.size≤b∧b<w4.heap.size)→¬TF F6 G T b:=fun b hb hf=>by
  rcases HF.o.sub b hf with h|h
  ·exact n3 b hb h
  ·omega
 have z6:=HF.o.touch.size;have n7:∀ b,(w3.heap.size≤b∧b<w4.heap.size)→¬TF F7 G T b:=fun b hb hf=>by
  rcases HG.o.sub b hf with h|h
  ·exact n6 b hb h
  ·omega
 have z7:=HG.o.touch.size;have n8:∀ b,(w3.heap.size≤b∧b<w4.heap.size)→¬TF F8 G T b:=fun b hb hf=>by
  rcases HZ.o.sub b hf with h|h
  ·exact n7 b hb h
  ·omega
 have Hp:=(((((((((((hy.o.below Hq.o).below Hh.o).touch HF.o.touch n3).touch HG.o.touch n6).touch HZ.o.touch n7).below Hl.o).touch hC.o.touch n8).below Hc.o).below He.o).below Hf.o).below kk);have HP:=qcO (ca:=c4) (cb:=2) Hp Hy rfl rfl (by decide);rw[zas rfl]at HP;have Ho:=zH HP;have HE:=zH (fun W (hb:Below v4.heap.size v4 W)=>(by
  have:=qcO (ca:=c12) (cb:=2) (Ha.below hb) (Hy.below hb) rfl rfl (by decide);rw[zas rfl]at this;exact this:Calls Tryz.prog 14 #[.slice A12 2 c12,.slice (some ⟨v3.heap.size,0,none⟩) 2 2] W fun e w'=>e=.returned (.bool true)∧Below W.heap.size W w'))
 have HW:=zH kk;clear k1 k2 k3 k4 HQ HR HS Hy kk Ha hN Hz n3 n6 z6 n7 z7 n8 Hp HP;go_wp2_with (first|(go_at_call 14;refine Ho.o.mono ?_;rintro e w14 ⟨rfl,hb14⟩;have Hg:=zH hb14;clear hb14 Ho)|(go_at_call 14;refine(HE.o _ Hg.o).mono ?_;rintro e w15 ⟨rfl,hb15⟩;have HA:=zH hb15;clear hb15))
 go_ret;refine⟨rfl,?_⟩;have q1:=HT.o;have r1:=Hr.o.bw;have r2:=Hs.o.bw;have r3:=Ht.o.bw;have r4:=Hn.o.bw;have r5:=Hi.o.bw;have r8:=Hj.o.bw;have r9:=Hu.o.bw;have hO:=Hc.o.size;have hP:=He.o.size;have hQ:=Hf.o.size;have hR:=HW.o.size;have hS:=Hg.o.size;exact HT.o.trans ((HB.o.mono r1).trans (H8.o.trans ((HC.o.mono r2).trans (H9.o.trans ((HU.o.mono r3).trans ((Hq.o.mono r4).trans ((Hh.o.mono r5).trans (ha.o.trans (hc.o.trans (hd.o.trans ((Hl.o.mono r8).trans (he.o.trans ((Hc.o.mono r9).trans ((He.o.mono (by omega)).trans ((Hf.o.mono (by omega)).trans ((HW.o.mono (by omega)).trans ((Hg.o.mono (by omega)).trans (HA.o.mono (by omega)))))))))))))))))))
section
structure OpD where
 kind:Int
 n:Int
 key:Bs
 val:Bs
 keep:List Int
structure OpsR (W:World) (A:Option Addr) (L:List OpD):Prop where
 at_:0<L.length→∃ b off,A=some ⟨b,off,none⟩∧b<W.heap.size∧∀ k o,L[k]?=some o→∃ KA kc VA vc CA cc,W.rangeAt b (off+k*5) [.int .i64 o.kind,.int .i64 o.n,.slice KA o.key.length kc,.slice VA o.val.length vc,.slice CA o.keep.length cc]∧By W KA o.key∧By W VA o.val∧o.key.length≤kc∧o.val.length≤vc
 bd:∀ o∈L,(-9223372036854775808≤o.kind∧o.kind≤9223372036854775807)∧o.key.length≤140737488355328∧o.val.length≤140737488355328
theorem OpsR.below {W W':World}{A:Option Addr}{L:List OpD}(h:OpsR W A L)(hb:Below W.heap.size W W'):OpsR W' A L:=
 ⟨fun h0=>by
  obtain⟨b,off,e,hl,hat⟩:=h.at_ h0;refine⟨b,off,e,zam hl hb.size,fun k o hk=>?_⟩;obtain⟨KA,kc,VA,vc,CA,cc,h1,h2,h3,h4⟩:=hat k o hk;exact⟨KA,kc,VA,vc,CA,cc,fun j v hj=>(hb.cell (p:=⟨b,off+k*5+j,none⟩) hl).trans (h1 j v hj),h2.below hb,h3.below hb,h4⟩,h.bd⟩
theorem OpsR.take {W:World}{A:Option Addr}{L:List OpD}(h:OpsR W A L)(n:Nat):OpsR W A (L.take n):=by
 refine⟨fun h0=>?_,fun o ho=>h.bd o (zaY ho)⟩;obtain⟨b,off,e,hl,hat⟩:=h.at_ (by rw[zag]at h0;omega);refine⟨b,off,e,hl,fun k o hk=>hat k o ?_⟩;rw[zaV]at hk;split at hk
 ·exact hk
 ·cases hk
theorem StM.base {V:Nat→Prop}{W:World}{B B' D:Nat}{t:Ts}{now old:List Pr}{pages:Nat}{dims:Int}{a:PA}{G T:Nat}{F:Nat→Prop}{Rn Ro:Nat}(hs:StM V W B D t now old pages dims a G T F Rn Ro)(hb:B'≤B)(h1:1<B'):StM V W B' D t now old pages dims a G T F Rn Ro:=
 ⟨hs.sd,hs.rn,hs.ro,hs.vs,fun b hu=>zah hb (hs.lo b hu),hs.nD,hs.nRn,hs.nRo,hs.ne,h1⟩
theorem qeM {U U':Nat→Prop}{W W':World}{B:Nat}(h:Ext U U' W W')(hU:∀ b,U b→B≤b)(hB:B≤W.heap.size):Below B W W':=
 ⟨h.touch.os,h.touch.tape,h.touch.output,h.touch.size,fun b hb=>h.touch.block b (by omega) (fun hu=>by have:=hU b hu;omega)⟩
theorem qlF {pages L:Nat}{w w':World}{e:Ending}(hw:1<w.heap.size)(h:BgF pages w e w'):∃ D a G T F t Rn Ro,e=.returned (.pointer (some ⟨D,0,none⟩))∧StM (fun _=>False) w' w.heap.size D t [] [] pages 0 a G T F Rn Ro∧Gd L pages 0 0 t [] []∧Sure t.p∧Below w.heap.size w w':=by
 obtain⟨D,a,G,T,F,t,Rn,Ro,e1,h1,h2,h3,h4,h5,h6,h7,h8,h9,h10,h11,h12,h13,h14,h15,h16,h17,h18,h19⟩:=h;have Ha:∀ b,T<b→¬TF F G T b:=by
  rintro b hb ((hf|hf)|hf)
  ·have:=h13 b hf;omega
  ·omega
  ·omega
 refine⟨D,a,G,T,F,t,Rn,Ro,e1,⟨h1,⟨_,_,h11⟩,⟨_,_,h12⟩,fun b hb=>hb.elim,?_,Ha D (by omega),Ha Rn (by omega),Ha Ro (by omega),⟨by omega,by omega,by omega⟩,hw⟩,⟨h2 L,h3,by rw[h5];simp,by omega,h7,h8,zac _,zac _⟩,⟨(h2 24).on,h6⟩,h19⟩;rintro b (((hf|hf)|hf)|hf|hf|hf)
 ·exact(h13 b hf).1
 all_goals omega
section
variable {V:Nat→Prop} {W W':World} {B D:Nat} {t:Ts} {now old:List Pr} {pages:Nat} {dims:Int} {a:PA} {G T:Nat} {F:Nat→Prop} {Rn Ro:Nat} {p:Pl}
theorem StM.plant (h:StM V W B D t now old pages dims a G T F Rn Ro)(hp:PlM W' a F p)(hx:Ext F F W W')(hm:p.most=t.p.most):StM V W' B D ⟨p,t.g,t.root1⟩ now old pages dims a G T F Rn Ro∧Ext (SU F G T D Rn Ro) (SU F G T D Rn Ro) W W':=by
 obtain⟨h1,h2⟩:=h.sd.tr.pg.ext hp hx hm;obtain⟨h3,h4⟩:=qkU h.sd.tr h2 h1;exact h.tree (t':=⟨p,t.g,t.root1⟩) h3 h4
end
theorem BT.Gd.fuse {L pages n m:Nat}{t:Ts}{now old:List Pr}(h:Gd L pages n m t now old)(k:Int):Gd L pages n m ⟨t.p.setFuse k,t.g,t.root1⟩ now old∧(t.p.setFuse k).most=t.p.most:=by
 have e1:(t.p.setFuse k).most=t.p.most∧(t.p.setFuse k).tp=t.p.tp∧(t.p.setFuse k).disk=t.p.disk∧(t.p.setFuse k).waits=t.p.waits∧(t.p.setFuse k).off=t.p.off:=by
  unfold Pl.setFuse;split<;>exact⟨rfl,rfl,rfl,rfl,rfl⟩
 obtain⟨a1,a2,a3,a4,a5⟩:=e1;have hs:(t.p.setFuse k).seen 0=t.p.seen 0:=by unfold Pl.seen;rw[a3,a4]
 refine⟨⟨⟨h.std.old.to a1 a3 (by rw[a4];exact h.std.old.com.wt),a5.trans h.std.on,?_,h.std.use,h.std.up⟩,h.pg,by show(t.p.setFuse k).waits.length≤_;rw[a4];exact h.wt,h.gen,a1.trans h.most,a2.trans h.tp,h.now,h.old⟩,a1⟩;show TreeIs ((t.p.setFuse k).seen 0) _ _ _ _ _;rw[hs];exact h.std.now
end
variable {W wx:World}{B D n m:Nat}{a:PA}
theorem qjr (n:Nat):(madeCells (Value.int .u8 0).cells (n*1)).toList=bv (zeros n):=by
 refine List.ext_getElem (by simp[madeCells,bv_len,zeros]) fun i h1 h2=>?_;have e:(Value.int .u8 0).cells=#[.int .u8 0]:=rfl;simp[madeCells,e,bv,zeros,Nat.mod_one]
theorem Ints.get {w:World}{A:Option Addr}{xs:List Int}(h:Ints w A xs)(hr:∀ x∈xs,-9223372036854775808≤x∧x≤9223372036854775807){i:Nat}(hi:i<xs.length) :
  ∃ b off x,A=some ⟨b,off,none⟩∧b<w.heap.size∧w.cell? ⟨b,off+i,none⟩=some (.int .i64 x)∧-9223372036854775808≤x∧x≤9223372036854775807:=by
 obtain⟨b,off,e,hl,hc⟩:=h.at_ (by omega);refine⟨b,off,el xs i,e,hl,hc i hi,?_⟩;unfold el;rw[zaC,zaa hi,zb1];exact hr _ (zbj _)
def MnR (W:World)(B D:Nat)(a:PA)(n m:Nat)(wx:World):Prop:=
 ∃ (V:Nat→Prop) (t:Ts) (now old:List Pr) (dims:Int) (G T:Nat) (F:Nat→Prop) (Rn Ro:Nat),StM V wx B D t now old 300 dims a G T F Rn Ro∧Gd 2 300 n m t now old∧0≤dims∧dims≤n∧Below W.heap.size W wx
theorem MnR.mono {n' m':Nat}(h:MnR W B D a n m wx)(hn:n≤n')(hm:m≤m'):MnR W B D a n' m' wx:=by
 obtain⟨V,t,now,old,dims,G,T,F,Rn,Ro,h1,h2,h3,h4,h5⟩:=h;exact⟨V,t,now,old,dims,G,T,F,Rn,Ro,h1,h2.mono hn hm,h3,by omega,h5⟩
theorem MnR.below {wy:World}(h:MnR W B D a n m wx)(hb:Below wx.heap.size wx wy):MnR W B D a n m wy:=by
 obtain⟨V,t,now,old,dims,G,T,F,Rn,Ro,h1,h2,h3,h4,h5⟩:=h;exact⟨V,t,now,old,dims,G,T,F,Rn,Ro,h1.below hb,h2,h3,h4,h5.trans (hb.mono h5.size)⟩
theorem qlr (w:World)(x:UInt8):Own (w.alloc (.cells #[.int .u8 (x.toNat:Int)] 5)) w.heap.size 5 1 (.slice (some ⟨w.heap.size,0,none⟩) 1 1) 1 (bv [x]):=
 Own.of_own (qe6 (zac _) rfl (by unfold maxLen;omega) (zaf w _))
theorem TreeIs.keyl {s:Nat→Bs}{pages:Nat}{use:Bs}{L root1:Nat}{l:List Pr}(h:TreeIs s pages use L root1 l):∀ p∈l,p.1.length≤L:=by
 by_cases h0:root1=0
 ·rw[(h.none h0).1];intro p hp;cases hp
 ·obtain⟨k,t1,t2,_,_⟩:=h.some h0;rw[←t2];exact t1.keys
end Go.Proofs.YtpmebcgmgfcmiaaGreatDoor
