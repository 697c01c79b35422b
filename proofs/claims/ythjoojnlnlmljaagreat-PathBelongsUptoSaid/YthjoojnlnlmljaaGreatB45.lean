/- Two slices of bytes compared, by the program and by the reference. No condition. -/
import Derived.Test.YthjoojnlnlmljaaGreatB30
import Derived.Laws.BytesArg
import Derived.BigQuiet
import Derived.Deep.QuietTactic
import Derived.Test.YthjoojnlnlmljaaGreatB34
import Derived.Test.YthjoojnlnlmljaaGreatB04
import Derived.OpenShut
import Derived.Deep.Fields
set_option linter.all false
set_option maxRecDepth 100000
set_option maxHeartbeats 8000000
namespace Go.Proofs.YthjoojnlnlmljaaGreat
open Go.ChangeShapes Go.WideShapes Go.ChangeAt Go.RowKit Go.Joins Go.Shelf Go.Maps
attribute [local go_sem] Oper.semAt_some
theorem qcr {xs o:List Int}(D: ∀z∈xs,0≤z∧z≤255)(G: ∀z∈o,0≤z∧z≤255):strOfNums xs=strOfNums o↔xs=o:=by
  refine⟨fun h=>?_,fun h=>by rw[h]⟩;have q:(xs.map fun n=>UInt8.ofNat n.toNat)=o.map fun n=>UInt8.ofNat n.toNat:=by rw[←strOfNums_data,←strOfNums_data,h]
  clear h;induction xs generalizing o with
  | nil=>cases o with
    | nil=>rfl
    | cons y o=>simp at q
  | cons x xs ih=>cases o with
    | nil=>simp at q
    | cons y o=>
      simp only[List.map_cons,List.cons.injEq]at q;have e:=ih (fun z r=>D z (.tail _ r)) (fun z r=>G z (.tail _ r)) q.2;have b1:=D x (.head _);have b2:=G y (.head _);have I:=congrArg UInt8.toNat q.1;simp only[UInt8.toNat_ofNat']at I;rw[e,show x=y by omega]
theorem qjg {s t:ByteArray}:s=t↔(s.toList==t.toList)=true:=by
  rw[beq_iff_eq,ByteArray.toList_eq,ByteArray.toList_eq];exact⟨fun h=>by rw[h],fun h=>bytes_inj h⟩
theorem qde {w:World}{v:Value}{zs:List Int}(h:Hold w v zs):(convert 24 9 v).run Tryz.prog w= .ok (.string (strOfNums zs)) w:=by
  have r:Tryz.prog.underlying 24=some (.slice 5):=by kernel_rfl
  have D:Tryz.prog.underlying 5=some (.int .u8):=by kernel_rfl
  have q:Tryz.prog.underlying 9=some .string:=by kernel_rfl
  rcases h.2 with⟨rfl,rfl⟩|⟨J,o,rfl,O,U,G⟩
  · exact run_convert_bytes_nil w _ _ r D _ _ _ q
  · rcases G with rfl|⟨b,off,rfl,S,I⟩
    · rw[run_convert_bytes_string w _ _ _ _ _ _ r D q,run_bytesToString w J _ o [] (by simp[loadCells,loadCellsFrom,Sem.run_pure])]
      rfl
    · exact run_convert_bytes_arg w _ _ r D b off zs.length o zs rfl I _ q
theorem qjo (xs o:List Int)(u v:Value)(w:World)(r:Hold w u xs)(q:Hold w v o):
    Calls Tryz.prog 93 #[u,v] w fun e w'=>e= .returned (.bool (decide (xs=o)))∧w'=w:=by
  have D:=qde r;have G:=qde q;have e:decide (xs=o)=((strOfNums xs).toList==(strOfNums o).toList):=by
    rw[Bool.eq_iff_iff,decide_eq_true_eq,←qcr r.1 q.1];exact qjg
  rw[e];clear r q e;generalize strOfNums xs=s at*;generalize strOfNums o=t at*;go_enter Tryz.func93,Tryz.ntmps93
  go_wp2
  go_ret
  exact⟨rfl,rfl⟩
end Go.Proofs.YthjoojnlnlmljaaGreat
namespace Go.Proofs.YthjoojnlnlmljaaGreat
open Go.ChangeShapes Go.WideShapes Go.ChangeAt Go.RowKit Go.Joins Go.Shelf Go.Maps Go.Deep
theorem qff {H:Type}{d:DataW H}: ∀{l:List (DataW H)},d∈l→Rows.uptoBulk d≤Rows.uptoBulkAll l
 | x::r,h=>by
  simp only[Rows.uptoBulkAll];rcases List.mem_cons.1 h with rfl|h
  ·omega
  ·have:=qff h;omega
theorem qfe {H:Type}(d:DataW H):1≤Rows.uptoBulk d:=by
 cases d with
 | lit l=>cases l<;>simp[Rows.uptoBulk]
 | _=>simp[Rows.uptoBulk]
theorem qfg {H:Type}: ∀(l:List (DataW H)),l.length≤Rows.uptoBulkAll l
 | []=>Nat.zero_le _
 | x::r=>by
  have:=qfg r
  have:=qfe x
  simp only[Rows.uptoBulkAll,List.length_cons];omega
theorem jS {H:Type}{enc:TypeId×Value→H}{w:World}{base fuel:Nat}{G:Bool}{c:Value}{x:DataW H×List MemPlace}
  (h:DataW.trod enc Tryz.prog w base (fun _=>true) G fuel 24 [c]=some x) (I: ∀p∈x.2,p.block<w.heap.size):
  ∃zs,Hold w c zs∧zs.length≤Rows.uptoBulk x.1:=by
 rcases open_ints Tryz.underlying24 Tryz.underlying5 qiU h with⟨o,D⟩|⟨a,len,S,zs,o,hb,hl,X,Z,D,r,J⟩
 ·simp only[List.cons.injEq,and_true]at o;subst o;exact⟨[],Hold.nil w,Nat.zero_le _⟩
 ·simp only[List.cons.injEq,and_true]at o;subst o;simp at Z
  have q:(zs.take len).length=len:=by rw[List.length_take];omega
  refine⟨zs.take len,⟨fun z U=>bounds_u8 (J z (List.mem_of_mem_take U)),.inr ⟨a,S,by rw[q],by omega,X,?_⟩⟩,?_⟩
  ·by_cases Y:len=0
   ·exact .inl (by rw[Y];rfl)
   ·obtain⟨b,off,rfl,O⟩:=ints_at r (by omega);refine .inr ⟨b,off,rfl,?_,?_⟩
    ·have V:MemPlace.cell b off∈x.2:=by
      rw[D];simp only[MemPlace.row];exact List.mem_map.2 ⟨0,by simp;omega,by simp⟩
     exact I _ V
    ·intro i hi;rw[q]at hi;rw[O i (by omega)];unfold qp;simp[hi]
  ·rw[D];simp only[Rows.uptoBulk];have:=qfg (lits (H:=H) .u8 (zs.take len))
   have e:(lits (H:=H) .u8 (zs.take len)).length=(zs.take len).length:=by simp[lits]
   omega
structure TreeH (w:World)(t:TreeV)(kz z1 z2:List Int):Prop where
 k:Hold w (.slice t.ka t.kl t.kc) kz
 s:Hold w (.slice t.sa t.sl t.sc) z1
 p:Hold w (.slice t.pa t.pl t.pc) z2
theorem qfy {H:Type}{enc:TypeId×Value→H}{w:World}{base fuel:Nat}{o:Bool}{cs:List Value}{x:DataW H×List MemPlace}
  (h:DataW.trod enc Tryz.prog w base (fun _=>true) o fuel 26 cs=some x) (ab: ∀p∈x.2,p.block<w.heap.size):
  ∃t kz z1 z2,TreeV.val t= .agg cs.toArray∧(0≤t.l∧t.l≤4294967295)∧TreeH w t kz z1 z2∧kz.length≤Rows.uptoBulk x.1∧z1.length≤Rows.uptoBulk x.1∧z2.length≤Rows.uptoBulk x.1:=by
 obtain⟨xs,n,_,hx,aa,ac,O⟩:=DataW.trod_struct Tryz.underlying26 h;rw[qgp]at aa;obtain⟨q,c1,c2,D,J,S,G,I,r,rfl⟩:=qjT aa;obtain⟨Z,y1,y2,y3,y4,y5,V,X,U,rfl⟩:=qjT (l:=xs) (by rw[ac];rfl);have g0:DataW.trod enc Tryz.prog w base (fun _=>true) o n 22 [q]=some Z:=by
  have g:DataW.trod enc Tryz.prog w base (fun _=>true) o n 22 (([q,c1,c2,D,J,S,G,I,r].drop 0).take (Tryz.prog.cellsOf 22))=some Z:=O 0 _ rfl;rw[qgt]at g;exact g
 have g1:DataW.trod enc Tryz.prog w base (fun _=>true) o n 3 [c1]=some y1:=by
  have g:DataW.trod enc Tryz.prog w base (fun _=>true) o n 3 (([q,c1,c2,D,J,S,G,I,r].drop 1).take (Tryz.prog.cellsOf 3))=some y1:=O 1 _ rfl;rw[jZ]at g;exact g
 have g2:DataW.trod enc Tryz.prog w base (fun _=>true) o n 3 [c2]=some y2:=by
  have g:DataW.trod enc Tryz.prog w base (fun _=>true) o n 3 (([q,c1,c2,D,J,S,G,I,r].drop 2).take (Tryz.prog.cellsOf 3))=some y2:=O 2 _ rfl;rw[jZ]at g;exact g
 have g3:DataW.trod enc Tryz.prog w base (fun _=>true) o n 3 [D]=some y3:=by
  have g:DataW.trod enc Tryz.prog w base (fun _=>true) o n 3 (([q,c1,c2,D,J,S,G,I,r].drop 3).take (Tryz.prog.cellsOf 3))=some y3:=O 3 _ rfl;rw[jZ]at g;exact g
 have g4:DataW.trod enc Tryz.prog w base (fun _=>true) o n 23 [J]=some y4:=by
  have g:DataW.trod enc Tryz.prog w base (fun _=>true) o n 23 (([q,c1,c2,D,J,S,G,I,r].drop 4).take (Tryz.prog.cellsOf 23))=some y4:=O 4 _ rfl;rw[qhL]at g;exact g
 have g5:DataW.trod enc Tryz.prog w base (fun _=>true) o n 3 [S]=some y5:=by
  have g:DataW.trod enc Tryz.prog w base (fun _=>true) o n 3 (([q,c1,c2,D,J,S,G,I,r].drop 5).take (Tryz.prog.cellsOf 3))=some y5:=O 5 _ rfl;rw[jZ]at g;exact g
 have g6:DataW.trod enc Tryz.prog w base (fun _=>true) o n 24 [G]=some V:=by
  have g:DataW.trod enc Tryz.prog w base (fun _=>true) o n 24 (([q,c1,c2,D,J,S,G,I,r].drop 6).take (Tryz.prog.cellsOf 24))=some V:=O 6 _ rfl;rw[jy]at g;exact g
 have g7:DataW.trod enc Tryz.prog w base (fun _=>true) o n 24 [I]=some X:=by
  have g:DataW.trod enc Tryz.prog w base (fun _=>true) o n 24 (([q,c1,c2,D,J,S,G,I,r].drop 7).take (Tryz.prog.cellsOf 24))=some X:=O 7 _ rfl;rw[jy]at g;exact g
 have g8:DataW.trod enc Tryz.prog w base (fun _=>true) o n 24 [r]=some U:=by
  have g:DataW.trod enc Tryz.prog w base (fun _=>true) o n 24 (([q,c1,c2,D,J,S,G,I,r].drop 8).take (Tryz.prog.cellsOf 24))=some U:=O 8 _ rfl;rw[jy]at g;exact g
 clear O;obtain⟨k,e0, -,wk⟩:=DataW.trod_int Tryz.underlying22 g0;obtain⟨d,e1, -,wd⟩:=DataW.trod_int Tryz.underlying3 g1;obtain⟨f,e2, -,wf⟩:=DataW.trod_int Tryz.underlying3 g2;obtain⟨p,e3, -,wp⟩:=DataW.trod_int Tryz.underlying3 g3;obtain⟨l,e4, -,wl⟩:=DataW.trod_int Tryz.underlying23 g4;obtain⟨i,e5, -,wi⟩:=DataW.trod_int Tryz.underlying3 g5;have hp: ∀y∈[Z,y1,y2,y3,y4,y5,V,X,U],∀p∈y.2,p.block<w.heap.size:=fun y hy p hp=>ab p (by rw[hx];exact List.mem_flatMap.2 ⟨y,hy,hp⟩)
 obtain⟨kz,hk,lk⟩:=jS g6 (hp V (by simp));obtain⟨z1,hs,ls⟩:=jS g7 (hp X (by simp));obtain⟨z2,hq,lq⟩:=jS g8 (hp U (by simp));have Y: ∀y∈[Z,y1,y2,y3,y4,y5,V,X,U],Rows.uptoBulk y.1≤Rows.uptoBulk x.1:=fun y hy=>by
  rw[hx];simp only[Rows.uptoBulk];have:=qff (d:=y.1) (l:=[Z,y1,y2,y3,y4,y5,V,X,U].map (·.1)) (List.mem_map.2 ⟨y,hy,rfl⟩)
  omega
 have b6:=Y V (by simp);have b7:=Y X (by simp);have b8:=Y U (by simp);obtain⟨ka,kc,rfl, -, -⟩:=id hk.slice;obtain⟨sa,sc,rfl, -, -⟩:=id hs.slice;obtain⟨pa,pc,rfl, -, -⟩:=id hq.slice;simp only[List.cons.injEq,and_true]at e0 e1 e2 e3 e4 e5;subst e0 e1 e2 e3 e4 e5;exact⟨⟨k,d,f,p,l,i,ka,kz.length,kc,sa,z1.length,sc,pa,z2.length,pc⟩,kz,z1,z2,rfl,bounds_u32 wl,⟨hk,hs,hq⟩,by omega,by omega,by omega⟩
theorem qf3 {H:Type}{enc:TypeId×Value→H}{w:World}{base G:Nat}{r:Reach}{o:Bool}{v:Value}{d:DataW H}{q:List MemPlace}
  (O:Value.okWide Tryz.prog w r G 26 v) (h:DataW.Trod enc Tryz.prog w base (fun _=>true) o 26 v d q) (D: ∀p∈q,p.block<w.heap.size):
  ∃t kz z1 z2,v=TreeV.val t∧(0≤t.l∧t.l≤4294967295)∧TreeH w t kz z1 z2∧kz.length≤Rows.uptoBulk d∧z1.length≤Rows.uptoBulk d∧z2.length≤Rows.uptoBulk d:=by
 obtain⟨cs,rfl,S⟩:=okWide_struct Tryz.underlying26 O;obtain⟨fuel,I⟩:=h;obtain⟨t,kz,z1,z2,e,J⟩:=qfy I D;exact⟨t,kz,z1,z2,by rw[e];rfl,J⟩
theorem qeK {H:Type}{enc:TypeId×Value→H}{w:World}{base I:Nat}{r:Reach}{q:Bool}{v:Value}{d:DataW H}{D:List MemPlace}
  (O:Value.okWide Tryz.prog w r I 24 v) (h:DataW.Trod enc Tryz.prog w base (fun _=>true) q 24 v d D) (G: ∀p∈D,p.block<w.heap.size):
  ∃zs,Hold w v zs∧zs.length≤Rows.uptoBulk d:=by
 obtain⟨fuel,J⟩:=h;obtain⟨o,n,c,rfl⟩:=okWide_slice Tryz.underlying24 O;exact jS J G
end Go.Proofs.YthjoojnlnlmljaaGreat
