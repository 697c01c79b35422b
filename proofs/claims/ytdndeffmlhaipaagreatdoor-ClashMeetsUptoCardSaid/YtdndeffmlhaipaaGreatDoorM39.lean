/- A tree and bytes, opened out of an argument, whole and as long as their bulk says. No condition. -/
import Derived.Test.YtdndeffmlhaipaaGreatDoorM29
import Derived.Test.YtdndeffmlhaipaaGreatDoorM04
import Derived.OpenShut
import Derived.Deep.Fields
set_option linter.all false
set_option maxRecDepth 100000
set_option maxHeartbeats 8000000
namespace Go.Proofs.YtdndeffmlhaipaaGreatDoor
open Go.ChangeShapes Go.WideShapes Go.ChangeAt Go.RowKit Go.Joins Go.Shelf Go.Maps Go.Deep
theorem qbz {H:Type}{d:DataW H}: ∀{l:List (DataW H)},d∈l→Rows.uptoBulk d≤Rows.uptoBulkAll l
 | x::r,h=>by
  simp only[Rows.uptoBulkAll];rcases List.mem_cons.1 h with rfl|h
  ·omega
  ·have:=qbz h;omega
theorem qer {H:Type}(d:DataW H):1≤Rows.uptoBulk d:=by
 cases d with
 | lit l=>cases l<;>simp[Rows.uptoBulk]
 | _=>simp[Rows.uptoBulk]
theorem qbA {H:Type}: ∀(l:List (DataW H)),l.length≤Rows.uptoBulkAll l
 | []=>Nat.zero_le _
 | x::r=>by
  have:=qbA r
  have:=qer x
  simp only[Rows.uptoBulkAll,List.length_cons];omega
theorem zO {H:Type}{enc:TypeId×Value→H}{w:World}{base fuel:Nat}{held:Bool}{c:Value}{x:DataW H×List MemPlace}
  (h:DataW.trod enc Tryz.prog w base (fun _=>true) held fuel 24 [c]=some x) (hlt: ∀p∈x.2,p.block<w.heap.size):
  ∃zs,Hold w c zs∧zs.length≤Rows.uptoBulk x.1:=by
 rcases open_ints Tryz.underlying24 Tryz.underlying5 qeo h with⟨hcs,hx⟩|⟨a,len,cap,zs,hcs,hb,hl,hm,hz,hx,hcell,hwz⟩
 ·simp only[List.cons.injEq,and_true]at hcs;subst hcs;exact⟨[],Hold.nil w,Nat.zero_le _⟩
 ·simp only[List.cons.injEq,and_true]at hcs;subst hcs;simp at hz
  have hlen:(zs.take len).length=len:=by rw[List.length_take];omega
  refine⟨zs.take len,⟨fun z hzm=>bounds_u8 (hwz z (List.mem_of_mem_take hzm)),.inr ⟨a,cap,by rw[hlen],by omega,hm,?_⟩⟩,?_⟩
  ·by_cases h0:len=0
   ·exact .inl (by rw[h0];rfl)
   ·obtain⟨b,off,rfl,hc2⟩:=ints_at hcell (by omega);refine .inr ⟨b,off,rfl,?_,?_⟩
    ·have h1:MemPlace.cell b off∈x.2:=by
      rw[hx];simp only[MemPlace.row];exact List.mem_map.2 ⟨0,by simp;omega,by simp⟩
     exact hlt _ h1
    ·intro i hi;rw[hlen]at hi;rw[hc2 i (by omega)];unfold qp;simp[hi]
  ·rw[hx];simp only[Rows.uptoBulk];have:=qbA (lits (H:=H) .u8 (zs.take len))
   have e:(lits (H:=H) .u8 (zs.take len)).length=(zs.take len).length:=by simp[lits]
   omega
structure TreeH (w:World)(t:TreeV)(kz z1 z2:List Int):Prop where
 k:Hold w (.slice t.ka t.kl t.kc) kz
 s:Hold w (.slice t.sa t.sl t.sc) z1
 p:Hold w (.slice t.pa t.pl t.pc) z2
theorem qbS {H:Type}{enc:TypeId×Value→H}{w:World}{base fuel:Nat}{held:Bool}{cs:List Value}{x:DataW H×List MemPlace}
  (h:DataW.trod enc Tryz.prog w base (fun _=>true) held fuel 26 cs=some x) (hlt: ∀p∈x.2,p.block<w.heap.size):
  ∃t kz z1 z2,TreeV.val t= .agg cs.toArray∧(0≤t.l∧t.l≤4294967295)∧TreeH w t kz z1 z2∧kz.length≤Rows.uptoBulk x.1∧z1.length≤Rows.uptoBulk x.1∧z2.length≤Rows.uptoBulk x.1:=by
 obtain⟨xs,n,_,hx,hlen,hxl,hf⟩:=DataW.trod_struct Tryz.underlying26 h;rw[qcq]at hlen;obtain⟨c0,c1,c2,c3,c4,c5,c6,c7,c8,rfl⟩:=qe8 hlen;obtain⟨y0,y1,y2,y3,y4,y5,y6,y7,y8,rfl⟩:=qe8 (l:=xs) (by rw[hxl];rfl);have g0:DataW.trod enc Tryz.prog w base (fun _=>true) held n 22 [c0]=some y0:=by
  have g:DataW.trod enc Tryz.prog w base (fun _=>true) held n 22 (([c0,c1,c2,c3,c4,c5,c6,c7,c8].drop 0).take (Tryz.prog.cellsOf 22))=some y0:=hf 0 _ rfl;rw[qcs]at g;exact g
 have g1:DataW.trod enc Tryz.prog w base (fun _=>true) held n 3 [c1]=some y1:=by
  have g:DataW.trod enc Tryz.prog w base (fun _=>true) held n 3 (([c0,c1,c2,c3,c4,c5,c6,c7,c8].drop 1).take (Tryz.prog.cellsOf 3))=some y1:=hf 1 _ rfl;rw[zS]at g;exact g
 have g2:DataW.trod enc Tryz.prog w base (fun _=>true) held n 3 [c2]=some y2:=by
  have g:DataW.trod enc Tryz.prog w base (fun _=>true) held n 3 (([c0,c1,c2,c3,c4,c5,c6,c7,c8].drop 2).take (Tryz.prog.cellsOf 3))=some y2:=hf 2 _ rfl;rw[zS]at g;exact g
 have g3:DataW.trod enc Tryz.prog w base (fun _=>true) held n 3 [c3]=some y3:=by
  have g:DataW.trod enc Tryz.prog w base (fun _=>true) held n 3 (([c0,c1,c2,c3,c4,c5,c6,c7,c8].drop 3).take (Tryz.prog.cellsOf 3))=some y3:=hf 3 _ rfl;rw[zS]at g;exact g
 have g4:DataW.trod enc Tryz.prog w base (fun _=>true) held n 23 [c4]=some y4:=by
  have g:DataW.trod enc Tryz.prog w base (fun _=>true) held n 23 (([c0,c1,c2,c3,c4,c5,c6,c7,c8].drop 4).take (Tryz.prog.cellsOf 23))=some y4:=hf 4 _ rfl;rw[qdz]at g;exact g
 have g5:DataW.trod enc Tryz.prog w base (fun _=>true) held n 3 [c5]=some y5:=by
  have g:DataW.trod enc Tryz.prog w base (fun _=>true) held n 3 (([c0,c1,c2,c3,c4,c5,c6,c7,c8].drop 5).take (Tryz.prog.cellsOf 3))=some y5:=hf 5 _ rfl;rw[zS]at g;exact g
 have g6:DataW.trod enc Tryz.prog w base (fun _=>true) held n 24 [c6]=some y6:=by
  have g:DataW.trod enc Tryz.prog w base (fun _=>true) held n 24 (([c0,c1,c2,c3,c4,c5,c6,c7,c8].drop 6).take (Tryz.prog.cellsOf 24))=some y6:=hf 6 _ rfl;rw[zv]at g;exact g
 have g7:DataW.trod enc Tryz.prog w base (fun _=>true) held n 24 [c7]=some y7:=by
  have g:DataW.trod enc Tryz.prog w base (fun _=>true) held n 24 (([c0,c1,c2,c3,c4,c5,c6,c7,c8].drop 7).take (Tryz.prog.cellsOf 24))=some y7:=hf 7 _ rfl;rw[zv]at g;exact g
 have g8:DataW.trod enc Tryz.prog w base (fun _=>true) held n 24 [c8]=some y8:=by
  have g:DataW.trod enc Tryz.prog w base (fun _=>true) held n 24 (([c0,c1,c2,c3,c4,c5,c6,c7,c8].drop 8).take (Tryz.prog.cellsOf 24))=some y8:=hf 8 _ rfl;rw[zv]at g;exact g
 clear hf;obtain⟨k,e0, -,wk⟩:=DataW.trod_int Tryz.underlying22 g0;obtain⟨d,e1, -,wd⟩:=DataW.trod_int Tryz.underlying3 g1;obtain⟨f,e2, -,wf⟩:=DataW.trod_int Tryz.underlying3 g2;obtain⟨p,e3, -,wp⟩:=DataW.trod_int Tryz.underlying3 g3;obtain⟨l,e4, -,wl⟩:=DataW.trod_int Tryz.underlying23 g4;obtain⟨i,e5, -,wi⟩:=DataW.trod_int Tryz.underlying3 g5;have hp: ∀y∈[y0,y1,y2,y3,y4,y5,y6,y7,y8],∀p∈y.2,p.block<w.heap.size:=fun y hy p hp=>hlt p (by rw[hx];exact List.mem_flatMap.2 ⟨y,hy,hp⟩)
 obtain⟨kz,hk,lk⟩:=zO g6 (hp y6 (by simp));obtain⟨z1,hs,ls⟩:=zO g7 (hp y7 (by simp));obtain⟨z2,hq,lq⟩:=zO g8 (hp y8 (by simp));have hbk: ∀y∈[y0,y1,y2,y3,y4,y5,y6,y7,y8],Rows.uptoBulk y.1≤Rows.uptoBulk x.1:=fun y hy=>by
  rw[hx];simp only[Rows.uptoBulk];have:=qbz (d:=y.1) (l:=[y0,y1,y2,y3,y4,y5,y6,y7,y8].map (·.1)) (List.mem_map.2 ⟨y,hy,rfl⟩)
  omega
 have b6:=hbk y6 (by simp);have b7:=hbk y7 (by simp);have b8:=hbk y8 (by simp);obtain⟨ka,kc,rfl, -, -⟩:=id hk.slice;obtain⟨sa,sc,rfl, -, -⟩:=id hs.slice;obtain⟨pa,pc,rfl, -, -⟩:=id hq.slice;simp only[List.cons.injEq,and_true]at e0 e1 e2 e3 e4 e5;subst e0 e1 e2 e3 e4 e5;exact⟨⟨k,d,f,p,l,i,ka,kz.length,kc,sa,z1.length,sc,pa,z2.length,pc⟩,kz,z1,z2,rfl,bounds_u32 wl,⟨hk,hs,hq⟩,by omega,by omega,by omega⟩
theorem Je {H:Type}{enc:TypeId×Value→H}{w:World}{base b0:Nat}{r:Reach}{held:Bool}{v:Value}{d:DataW H}{ps:List MemPlace}
  (hv:Value.okWide Tryz.prog w r b0 26 v) (h:DataW.Trod enc Tryz.prog w base (fun _=>true) held 26 v d ps) (hlt: ∀p∈ps,p.block<w.heap.size):
  ∃t kz z1 z2,v=TreeV.val t∧(0≤t.l∧t.l≤4294967295)∧TreeH w t kz z1 z2∧kz.length≤Rows.uptoBulk d∧z1.length≤Rows.uptoBulk d∧z2.length≤Rows.uptoBulk d:=by
 obtain⟨cs,rfl,hsz⟩:=okWide_struct Tryz.underlying26 hv;obtain⟨fuel,hf⟩:=h;obtain⟨t,kz,z1,z2,e,ht⟩:=qbS hf hlt;exact⟨t,kz,z1,z2,by rw[e];rfl,ht⟩
theorem ju {H:Type}{enc:TypeId×Value→H}{w:World}{base b0:Nat}{r:Reach}{held:Bool}{v:Value}{d:DataW H}{ps:List MemPlace}
  (hv:Value.okWide Tryz.prog w r b0 24 v) (h:DataW.Trod enc Tryz.prog w base (fun _=>true) held 24 v d ps) (hlt: ∀p∈ps,p.block<w.heap.size):
  ∃zs,Hold w v zs∧zs.length≤Rows.uptoBulk d:=by
 obtain⟨fuel,hf⟩:=h;obtain⟨o,n,c,rfl⟩:=okWide_slice Tryz.underlying24 hv;exact zO hf hlt
end Go.Proofs.YtdndeffmlhaipaaGreatDoor
