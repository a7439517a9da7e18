/- Texts LwQ. -/
import Derived.Test.YtpmebcgmgfcmiaaGreatDoorP37
import Derived.Test.YtpmebcgmgfcmiaaGreatDoorCards
import Derived.Test.YtpmebcgmgfcmiaaGreatDoorTie
import Derived.Deep.DeepWitnessRowRef
import Derived.Deep.DeepLaidRun
import Derived.LaidHandle
import Derived.Lib.SmallJoins
set_option linter.all false
set_option maxRecDepth 100000
set_option maxHeartbeats 16000000
namespace Go.Proofs.YtpmebcgmgfcmiaaGreatDoor
open Go.RowKit Go.ChangeShapes Go.WideShapes Go.ChangeAt Go.Joins BT
section
set_option maxRecDepth 100000
theorem qlz:ownKnob Tryz.prog.godebug=none:=by kernel_rfl
theorem qmH:Tryz.prog.globalNamed "muniment/crc.nibbles"=some 1:=by kernel_rfl
theorem qmZ:(Tryz.prog.globals[1]?).map (·.type)=some 185:=by kernel_rfl
theorem qmI {W:World}(h:laidMetH Tryz.prog [("muniment/crc.nibbles",Rows.laid_muniment_crc_nibbles)] W):Nib W:=by
 have hf:(([("muniment/crc.nibbles",Rows.laid_muniment_crc_nibbles)]:List (String×DataW Unit)).filter fun x=>x.2.handleName?.isSome)=[]:=by kernel_rfl
 unfold laidMetH at h;rw[hf]at h;have e:Rows.laid_muniment_crc_nibbles (H:=Unit)=Lib.tabData .u32 (nibT.map fun(n:Nat)=>(n:Int)):=by kernel_rfl
 have ht:=Lib.tabIs_of_head (rest:=[]) qmH qmZ Tryz.underlying185 (k:=.u32) Tryz.underlying143 (by kernel_rfl) (by kernel_rfl) (by rw[←e];exact h);intro i hi;unfold Lib.TabIs at ht;rw[World.var?_cell qmH ht i];simp only[zcL,zbC,za6];have hl:nibT.length=16:=by kernel_rfl
 rw[zaa (by omega),zaC,zaa (by omega)];rfl
def qmW (h:Array Obj)(i:Nat)(cs:Array Value):Array Obj:=h.modify i fun
 | .cells _ t frozen=>.cells cs t frozen
 | o=>o
noncomputable def qgE (os:Os):World:=
 let w0:=World.holding Tryz.prog os ⟨#[],#[],[]⟩
 { w0 with heap:=qmW w0.heap 1 (nibT.map fun(n:Nat)=>Value.int .u32 (n:Int)).toArray }
theorem nib_met (os:Os)(args:Array Value):laidMetH Tryz.prog [("muniment/crc.nibbles",Rows.laid_muniment_crc_nibbles)] ((qgE os).forCall (fun _ _=>0) ⟨#[],args,[]⟩).memory:=
 laidMetH_of_parts (laidMet_of_run3 8 (by kernel_rfl) (by kernel_rfl) (by kernel_rfl)) (by kernel_rfl)
section
variable {H:Type} {enc:TypeId×Value→H} {P:Program}
theorem qdG (hl:laidOutB P=true){W W':World}(hb:Below W.heap.size W W'){sp:Nat→Bool}:∀ {ts:List TypeId} {vs:List Value} {ds:List (DataW H)} {ps:List MemPlace},
  (ts.all fun t=>P.readableRec t&&decide (t<P.types.size))=true→DataW.TrodAll enc P W 0 (fun _=>true) true ts vs ds ps→(∀ x∈ps,x.block<W.heap.size)→(∀ x∈ps,sp x.block=true)→
  DataW.TrodAll enc P W' 0 sp true ts vs ds ps
 | [],[],[],_,_,h,_,_=>h
 | t::ts,v::vs,d::ds,ps,hr,h,hlt,hs=>by
  obtain⟨p,q,h1,h2,rfl⟩:=h;simp only[List.all_cons,zbb,zbg]at hr;exact⟨p,q,WideElems.Trod_stays hl hr.1.1 hr.1.2 h1 (fun x hx=>hb.same (hlt x (zaU _ hx))) (fun x hx=>hs x (zaU _ hx)),
   qdG hl hb hr.2 h2 (fun x hx=>hlt x (zay _ hx)) (fun x hx=>hs x (zay _ hx)),rfl⟩
 | [],_::_,_,_,_,h,_,_=>by simp[DataW.TrodAll]at h
 | [],[],_::_,_,_,h,_,_=>by simp[DataW.TrodAll]at h
 | _::_,[],_,_,_,h,_,_=>by simp[DataW.TrodAll]at h
 | _::_,_::_,[],_,_,h,_,_=>by simp[DataW.TrodAll]at h
theorem qlp {f:Func}{s:ChangeSpec}{W W':World}{args:Array Value}{ds gs:List (DataW H)}{before:List MemPlace}{tb:TypeId}
  (hl:laidOutB P=true)(hb:P.underlying tb=some .bool)(hres:f.resultTypes=#[tb])(hvars:s.vars=[])
  (hrd:(f.params.toList.all fun t=>P.readableRec t&&decide (t<P.types.size))=true)
  (hW:DataW.Whole enc P f.params.toList s.vars false W args.toList ds gs before)
  (hfn:s.fn H (ds++gs)={ results:=[.lit (.bool true)],args:=ds })
  (hbl:Below W.heap.size W W') :
  s.post enc P f false true false false W args (.bool true) W':=by
 have Ha:=hW;obtain⟨p,q,hA,hV,rfl,_,_⟩:=hW;rw[hvars]at hV;obtain⟨rfl,rfl⟩:=trodVars_none hV;have Hb:∀ x∈p,x.block<W.heap.size:=fun x hx=>Ha.lt x (by simp[hx]);refine⟨ds,[],_,[],p,[],Ha,?_,?_,?_,World.keptBut_mono (fun x hx=>⟨hx,?_⟩) (hbl.frame (·∈(p++[]))),fun h=>by cases h⟩
 ·rw[hfn,hres];exact trodAll_mk1 (shut_bool hb true)
 ·rw[hfn];exact qdG hl hbl hrd hA Hb (fun x hx=>by simpa using Hb x hx)
 ·rw[hfn,hvars];rfl
 ·simpa using hx
end
section
variable {H:Type} {enc:TypeId×Value→H}
theorem qm1 {n:Int}(h:(Lit.int .u8 n).wf=true):0≤n∧n≤255:=by
 simp[Lit.wf,IntKind.min,IntKind.max,IntKind.signed,IntKind.bits]at h;omega
theorem qls (k:IntKind)(l:List Int):(lits (H:=H) k l).length=l.length:=by simp[lits]
theorem qjX:Tryz.prog.bytesOf 5=1:=by kernel_rfl
theorem qhs {W:World}{n:Nat}{cs:List Value}{y:DataW H×List MemPlace}(h:DataW.trod enc Tryz.prog W 0 (fun _=>true) true n 34 cs=some y)(hw:∀ x∈y.1.weights Tryz.prog 34,x≤reachBytes) :
  ∃ (A:Option Addr) (c:Nat) (l:Bs),cs=[.slice A l.length c]∧By W A l∧l.length≤c∧l.length≤140737488355328:=by
 rcases open_ints Tryz.underlying34 Tryz.underlying5 (by kernel_rfl) h with⟨hcs,hx⟩|⟨a,len,cap,zs,hcs,_,hl,hm,hz,hx,hcell,hwz⟩
 ·subst hcs;subst hx;exact⟨none,0,[],rfl,By.nil _ _,zac _,by simp⟩
 ·simp only[zcf]at hz;subst hcs;subst hx;have Ha:((zs.take len).map fun x:Int=>UInt8.ofNat x.toNat).length=len:=by rw[zaE,zag];omega
  refine⟨some a,cap,(zs.take len).map fun x:Int=>UInt8.ofNat x.toNat,by rw[Ha],⟨fun hp=>?_⟩,by rw[Ha];exact hl,?_⟩
  ·rw[Ha]at hp;obtain⟨b,off,rfl,hc⟩:=ints_at hcell (by omega);refine⟨b,off,rfl,zaD W _ (hc 0 (by omega)),fun k c hk=>?_⟩;have Hb:k<len:=by
    have:=(zae.1 hk).1
    rwa [Ha]at this
   rw[hc k (by omega)];rw[za6,zaS,zaw Hb,zaa (by omega)]at hk;simp only[zb1,zax]at hk;have hb:=qm1 (hwz zs[k] (zbk _));rw[zaC,zaa (by omega),zb3,←hk];congr 2;rw[zbS,zbo (by omega)];omega
  ·have:=hw ((lits (H:=H) .u8 (zs.take len)).length+(lits (H:=H) .u8 (zs.drop len)).length) (by
    simp only[DataW.weights,Tryz.underlying34];simp[qjX])
   rw[qls,zag]at this;rw[Ha];have hr:=reachBytes_lt;omega
theorem qfW {W:World}{n:Nat}{cs:List Value}{y:DataW H×List MemPlace}(h:DataW.trod enc Tryz.prog W 0 (fun _=>true) true n 23 cs=some y) :
  ∃ (A:Option Addr) (c:Nat) (xs:List Int),cs=[.slice A xs.length c]∧Ints W A xs∧(∀ x∈xs,-9223372036854775808≤x∧x≤9223372036854775807):=by
 rcases open_ints Tryz.underlying23 Tryz.underlying3 (by kernel_rfl) h with⟨hcs,hx⟩|⟨a,len,cap,zs,hcs,_,hl,hm,hz,hx,hcell,hwz⟩
 ·subst hcs;subst hx;exact⟨none,0,[],rfl,⟨by simp,fun h=>absurd h (by simp)⟩,by simp⟩
 ·simp only[zcf]at hz;subst hcs;subst hx;have Ha:(zs.take len).length=len:=by rw[zag];omega
  refine⟨some a,cap,zs.take len,by rw[Ha],⟨by rw[Ha];unfold maxLen at hm;omega,fun hp=>?_⟩,fun x hx=>bounds_i64 (hwz x (zaZ hx))⟩;rw[Ha]at hp;obtain⟨b,off,rfl,hc⟩:=ints_at hcell (by omega);refine⟨b,off,rfl,zaD W _ (hc 0 (by omega)),fun k hk=>?_⟩;rw[Ha]at hk;rw[hc k (by omega)];unfold el;rw[zaC,zaC,zaS,zaw hk]
theorem qhN {P:Program}{w:World}{base:Nat}{spare:Nat→Bool}{held:Bool}{t:TypeId}{f0 f1 f2 f3 f4:Field}{fuel:Nat}{cs:List Value}{x:DataW H×List MemPlace}(ht:P.underlying t=some (.struct #[f0,f1,f2,f3,f4]))(h:DataW.trod enc P w base spare held fuel t cs=some x) :
  ∃ y0 y1 y2 y3 y4 n,x.1=.agg [y0.1,y1.1,y2.1,y3.1,y4.1]∧cs.length=P.cellsOf t∧DataW.trod enc P w base spare held n f0.type ((cs.drop f0.offset).take (P.cellsOf f0.type))=some y0∧
   DataW.trod enc P w base spare held n f1.type ((cs.drop f1.offset).take (P.cellsOf f1.type))=some y1∧DataW.trod enc P w base spare held n f2.type ((cs.drop f2.offset).take (P.cellsOf f2.type))=some y2∧
   DataW.trod enc P w base spare held n f3.type ((cs.drop f3.offset).take (P.cellsOf f3.type))=some y3∧DataW.trod enc P w base spare held n f4.type ((cs.drop f4.offset).take (P.cellsOf f4.type))=some y4:=by
 obtain⟨xs,n,_,rfl,hl,hlen,hf⟩:=DataW.trod_struct ht h
 match xs,hlen with
 | [y0,y1,y2,y3,y4],_=>exact⟨y0,y1,y2,y3,y4,n,rfl,hl,by simpa using hf 0 f0 rfl,by simpa using hf 1 f1 rfl,by simpa using hf 2 f2 rfl,by simpa using hf 3 f3 rfl,by simpa using hf 4 f4 rfl⟩
theorem qmX {α:Type}{l:List α}(h:l.length=5):∃ a b c d e,l=[a,b,c,d,e]:=by
 match l,h with
 | [a,b,c,d,e],_=>exact⟨a,b,c,d,e,rfl⟩
theorem qjY:Tryz.prog.cellsOf 3=1:=by kernel_rfl
theorem qhZ:Tryz.prog.cellsOf 34=1:=by kernel_rfl
theorem qjg:Tryz.prog.cellsOf 23=1:=by kernel_rfl
theorem qiC:Tryz.prog.cellsOf 36=5:=by kernel_rfl
theorem qfg {P:Program}{e:TypeId}:∀ {l:List (DataW H)} {d:DataW H} {x:Nat},d∈l→x∈d.weights P e→x∈DataW.weightsAll P e l
 | d0::r,d,x,h,hx=>by
  simp only[DataW.weightsAll,zar];rcases zaX.1 h with rfl|h
  ·exact .inl hx
  ·exact .inr (qfg h hx)
theorem qmi {W:World}{n:Nat}{cs:List Value}{y:DataW H×List MemPlace}(h:DataW.trod enc Tryz.prog W 0 (fun _=>true) true n 36 cs=some y)(hw:∀ x∈y.1.weights Tryz.prog 36,x≤reachBytes) :
  ∃ (o:OpD) (KA:Option Addr) (kc:Nat) (VA:Option Addr) (vc:Nat) (CA:Option Addr) (cc:Nat),cs=[.int .i64 o.kind,.int .i64 o.n,.slice KA o.key.length kc,.slice VA o.val.length vc,.slice CA o.keep.length cc]∧By W KA o.key∧By W VA o.val∧o.key.length≤kc∧o.val.length≤vc∧
   (-9223372036854775808≤o.kind∧o.kind≤9223372036854775807)∧o.key.length≤140737488355328∧o.val.length≤140737488355328:=by
 obtain⟨y0,y1,y2,y3,y4,n1,hy,hl,h0,h1,h2,h3,h4⟩:=qhN Tryz.underlying36 h;rw[qiC]at hl;obtain⟨c0,c1,c2,c3,c4,rfl⟩:=qmX hl;simp only[qjY,qhZ,qjg,zdg,zbL,zbh,zb0]at h0 h1 h2 h3 h4;rw[hy]at hw;have Ha:∀ (j:Nat) (t:TypeId) (d:DataW H),[3,3,34,34,23][j]?=some t→[y0.1,y1.1,y2.1,y3.1,y4.1][j]?=some d→∀ x∈d.weights Tryz.prog t,x≤reachBytes:=fun j t d ht hd x hx=>hw x (by
  simp only[DataW.weights,Tryz.underlying36];exact DataW.weights_mem_each ht hd x hx)
 obtain⟨k,e0,rfl,w0⟩:=DataW.trod_int Tryz.underlying3 h0;obtain⟨m,e1,rfl,w1⟩:=DataW.trod_int Tryz.underlying3 h1;obtain⟨KA,kc,key,e2,b2,l2,z2⟩:=qhs h2 (Ha 2 _ _ rfl rfl);obtain⟨VA,vc,val,e3,b3,l3,z3⟩:=qhs h3 (Ha 3 _ _ rfl rfl);obtain⟨CA,cc,ks,e4,_,_⟩:=qfW h4;cases e0;cases e1;cases e2;cases e3;cases e4;exact⟨⟨k,m,key,val,ks⟩,KA,kc,VA,vc,CA,cc,rfl,b2,b3,l2,l3,bounds_i64 w0,z2,z3⟩
theorem qly {W:World}{v:Value}{d:DataW H}{p:List MemPlace}{base:Nat}(hv:Value.okWide Tryz.prog W .any base 22 v)(h:DataW.Trod enc Tryz.prog W 0 (fun _=>true) true 22 v d p)(hw:∀ x∈d.weights Tryz.prog 22,x≤reachBytes) :
  ∃ A cap L,v=.slice A L.length cap∧OpsR W A L∧L.length≤cap∧cap≤maxLen:=by
 obtain⟨a0,len0,cap0,rfl⟩:=okWide_slice Tryz.underlying22 hv;obtain⟨fuel,hf⟩:=h;have Hf:DataW.trod enc Tryz.prog W 0 (fun _=>true) true fuel 22 [.slice a0 len0 cap0]=some (d,p):=by simpa [Value.cells] using hf
 rcases Deep.open_slice Tryz.underlying22 Hf with⟨hcs,_⟩|⟨a,len,cap,m,n,D,Pl,hcs,_,hl,hm,hmm,hx,hi⟩
 ·simp only[List.cons.injEq,and_true]at hcs;rw[hcs];exact⟨none,0,[],rfl,⟨fun h=>absurd h (by simp),by simp⟩,zac _,by decide⟩
 ·simp only[List.cons.injEq,and_true]at hcs;simp only[zcf]at hmm;rw[hcs];simp only[zaM]at hx;obtain⟨rfl,_⟩:=hx;rw[qiC]at hi;have Hc:∀ i,i<len→∃ o:OpD,((-9223372036854775808≤o.kind∧o.kind≤9223372036854775807)∧o.key.length≤140737488355328∧o.val.length≤140737488355328)∧∃ (KA:Option Addr) (kc:Nat) (VA:Option Addr) (vc:Nat) (CA:Option Addr) (cc:Nat),(By W KA o.key∧By W VA o.val∧o.key.length≤kc∧o.val.length≤vc)∧∀ j u,[Value.int .i64 o.kind,.int .i64 o.n,.slice KA o.key.length kc,.slice VA o.val.length vc,.slice CA o.keep.length cc][j]?=some u→W.cell? ((a.add (i*5)).add j)=some u:=by
   intro i hil;obtain⟨cs',g1,g2⟩:=hi i (by omega);obtain⟨o,KA,kc,VA,vc,CA,cc,rfl,q1,q2,q3,q4,q5,q6,q7⟩:=qmi g2 (fun x hx=>hw x (by
    simp only[DataW.weights,Tryz.underlying22];exact za5 _ (zaU _ (qfg (zbe.2 ⟨i,za7.2 hil,rfl⟩) hx))))
   obtain⟨_,_,g3⟩:=World.cells?_some g1;refine⟨o,⟨q5,q6,q7⟩,KA,kc,VA,vc,CA,cc,⟨q1,q2,q3,q4⟩,fun j u hu=>?_⟩;have hj:j<5:=by
    have:=(zae.1 hu).1;simpa using this
   rw[g3 j hj];exact hu
  have:Inhabited OpD:=⟨⟨0,0,[],[],[]⟩⟩;obtain⟨R,hR⟩:=Deep.choose_lt (α:=OpD) (p:=fun i o=>((-9223372036854775808≤o.kind∧o.kind≤9223372036854775807)∧o.key.length≤140737488355328∧o.val.length≤140737488355328)∧∃ (KA:Option Addr) (kc:Nat) (VA:Option Addr) (vc:Nat) (CA:Option Addr) (cc:Nat),(By W KA o.key∧By W VA o.val∧o.key.length≤kc∧o.val.length≤vc)∧∀ j u,[Value.int .i64 o.kind,.int .i64 o.n,.slice KA o.key.length kc,.slice VA o.val.length vc,.slice CA o.keep.length cc][j]?=some u→W.cell? ((a.add (i*5)).add j)=some u) Hc;have Hb:((List.range len).map R).length=len:=by simp
  refine⟨some a,cap,(List.range len).map R,by rw[Hb],⟨fun h0=>?_,fun o ho=>?_⟩,by rw[Hb];exact hl,hm⟩
  ·rw[Hb]at h0;obtain⟨_,KA0,kc0,VA0,vc0,CA0,cc0,_,hcell0⟩:=hR 0 h0;obtain⟨b,off,spot⟩:=a;have Ha:spot=none:=by simpa [Addr.add] using World.cell?_spot (hcell0 0 _ rfl)
   subst Ha;refine⟨b,off,rfl,?_,fun k o hk=>?_⟩
   ·have:=zaD W _ (hcell0 0 _ rfl);simpa [Addr.add] using this
   ·have He:k<len:=by
     have:=(zae.1 hk).1
     rwa [Hb]at this
    have e:R k=o:=by
     rw[za6,zcZ He]at hk;exact zaF hk
    subst e;obtain⟨_,KA,kc,VA,vc,CA,cc,⟨q1,q2,q3,q4⟩,q5⟩:=hR k He;refine⟨KA,kc,VA,vc,CA,cc,fun j u hu=>?_,q1,q2,q3,q4⟩;have:=q5 j u hu
    rwa [Addr.add_lit,Addr.add_lit]at this
  ·obtain⟨i,h1,rfl⟩:=zbe.1 ho;exact(hR i (za7.1 h1)).1
theorem qkt {W:World}{v:Value}{d:DataW H}{p:List MemPlace}{base:Nat}(hv:Value.okWide Tryz.prog W .any base 23 v)(h:DataW.Trod enc Tryz.prog W 0 (fun _=>true) true 23 v d p) :
  ∃ A cap L,v=.slice A (L:List Int).length cap∧Ints W A L∧(∀ x∈L,-9223372036854775808≤x∧x≤9223372036854775807)∧∀ ad,A=some ad→ad.block<W.heap.size:=by
 have Ha:=hv;obtain⟨a0,len0,cap0,rfl⟩:=okWide_slice Tryz.underlying23 hv;obtain⟨fuel,hf⟩:=h;have Hb:DataW.trod enc Tryz.prog W 0 (fun _=>true) true fuel 23 [.slice a0 len0 cap0]=some (d,p):=by simpa [Value.cells] using hf
 obtain⟨A,c,xs,e,h1,h2⟩:=qfW Hb;cases e;refine⟨a0,cap0,xs,rfl,h1,h2,fun ad e=>?_⟩;subst e;simp only[Value.okWide,Tryz.underlying23,Cell.okWide,Cell.ok,World.has]at Ha;obtain⟨_,_,_,_,row,cells,hs,_⟩:=Ha;unfold World.shape? at hs;cases hc:W.heap[ad.block]? with
 | none=>rw[hc]at hs;cases hs
 | some o=>exact(zab.1 hc).1
end
end
end Go.Proofs.YtpmebcgmgfcmiaaGreatDoor
