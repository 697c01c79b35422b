/- Two slices of bytes compared, by the program and by the reference. No condition. -/
import Derived.Test.YthjoojnlnlmljaaGreatP21
import Derived.Laws.BytesArg
import Derived.BigQuiet
import Derived.Deep.QuietTactic
import Derived.Test.YthjoojnlnlmljaaGreatP25
import Derived.Test.YthjoojnlnlmljaaGreatP04
import Derived.OpenShut
import Derived.Deep.Fields
set_option linter.all false
set_option maxRecDepth 100000
set_option maxHeartbeats 8000000
namespace Go.Proofs.YthjoojnlnlmljaaGreat
open Go.ChangeShapes Go.WideShapes Go.ChangeAt Go.RowKit Go.Joins Go.Shelf Go.Maps
open Go.Lib (hid)
attribute [local go_sem] Oper.semAt_some
theorem qht {xs ys:List Int}(r:xs.length=ys.length)(h: ∀j,j<xs.length→qr xs j=qr ys j):xs=ys:=by
  apply List.ext_getElem r
  intro i o q;have:=h i o
  simpa [qr,Lg,o,q] using this
theorem qe1 (xs ys:List Int)(u v:Value)(w:World)(D:Hold w u xs)(G:Hold w v ys):
    Calls Tryz.prog 73 #[u,v] w fun e w'=>e= .returned (.bool (decide (xs=ys)))∧ ∃m,w'=w.drewN m:=by
  obtain⟨a,ao,rfl,ag,ai⟩:=D.slice;obtain⟨a',ak,rfl,ae,ad⟩:=G.slice;have hx:=D.1;have hy:=G.1;obtain⟨a2,am,e,h⟩:=D.holds8;obtain⟨a3,al,e',Z⟩:=G.holds8;simp only[Value.slice.injEq,true_and]at e e';obtain⟨rfl,rfl⟩:=e;obtain⟨rfl,rfl⟩:=e';by_cases o:xs.length=ys.length
  case neg=>
    have e:decide (xs=ys)=false:=decide_eq_false (fun e=>o (by rw[e]));have hq:((xs.length:Int) != ys.length)=true:=by rw[bne_iff_ne];omega
    rw[e];clear h Z D G ag ai ae ad hx hy o e;go_enter Tryz.func73,Tryz.ntmps73
    go_wp2
    go_ret
    exact⟨rfl,0,rfl⟩
  have hq:((xs.length:Int) != ys.length)=false:=by simp[o]
  have an:(xs.length:Int)≤9223372036854775807:=by omega
  by_cases V:xs=[]
  · subst V
    obtain rfl:ys=[]:=List.eq_nil_of_length_eq_zero o.symm;clear h Z D G;go_enter Tryz.func73,Tryz.ntmps73
    go_wp2_with fail
    go_loopw [5] (fun i wr=>i= .int .i64 0∧w=wr) (fun _ _=>0)
    case atStart=>exact⟨rfl,rfl⟩
    case round=>
      obtain⟨rfl,rfl⟩:=hrel;go_wp2
      go_ret
      exact⟨rfl,0,rfl⟩
  have ab:ys≠[]:=fun e=>V (List.eq_nil_of_length_eq_zero (by rw[o,e];rfl))
  obtain⟨b,off,rfl,ap,aa⟩:=h.resolve_left V;obtain⟨b',ac,rfl,aj,O⟩:=Z.resolve_left ab;have H2:=hid aa;have af:=hid O;have HX:=hid hx;have HY:=hid hy;have HL:=hid o;obtain⟨r,hr⟩: ∃r,decide (xs=ys)=r:=⟨_,rfl⟩;rw[hr];have HR:=hid hr;clear h Z aa O D G hx hy V ab hr;go_enter Tryz.func73,Tryz.ntmps73
  go_wp2_with fail
  go_loopw [5] (fun i wr=> ∃(k n:Nat),i= .int .i64 k∧k≤xs.length∧wr=w.drewN n∧Hid (∀j,j<k→qr xs j=qr ys j)) (fun i _=>xs.length - (intOf i).toNat)
  case atStart=>exact⟨0,0,rfl,Nat.zero_le _,rfl,hid (fun j X=>absurd X (Nat.not_lt_zero _))⟩
  case round=>
    obtain⟨k,n,rfl,hk,rfl,HP⟩:=hrel;by_cases ah:k<xs.length
    · have e1:w.cell? ⟨b,off+k,none⟩=some (.int .u8 (qr xs k)):=H2.out k ah
      have e2:w.cell? ⟨b',ac+k,none⟩=some (.int .u8 (qr ys k)):=af.out k (by omega);obtain⟨zx,J⟩:=Ex (qr xs k);obtain⟨zy,I⟩:=Ex (qr ys k);rw[J]at e1;rw[I]at e2;have Y:=hid (show qr xs k=zx∧qr ys k=zy from⟨J,I⟩);clear J I;obtain⟨q,U⟩: ∃q,(zx != zy)=q:=⟨_,rfl⟩
      cases q
      case false=>
        go_wp2
        go_quiet (fail)
        go_wp2
        exact⟨⟨k+1,n+nq,by go_num,by omega,rfl,hid (fun j X=>by
          rcases Nat.lt_or_ge j k with h|h
          · exact HP.out j h
          · obtain rfl:j=k:=by omega
            rw[Y.out.1,Y.out.2];simpa using U)⟩,by simp[intOf];omega⟩
      case true=>
        obtain rfl:r=false:=by
          rw[←HR.out,decide_eq_false];rintro rfl
          rw[bne_iff_ne]at U;exact U (Y.out.1.symm.trans Y.out.2)
        go_wp2
        go_quiet (fail)
        go_wp2
        go_ret
        exact⟨rfl,n+nq,by rw[World.drewN_drewN]⟩
    · obtain rfl:k=xs.length:=by omega
      obtain rfl:r=true:=by
        rw[←HR.out,decide_eq_true];exact qht HL.out (fun j X=>HP.out j X)
      go_wp2
      go_ret
      exact⟨rfl,n,rfl⟩
end Go.Proofs.YthjoojnlnlmljaaGreat
namespace Go.Proofs.YthjoojnlnlmljaaGreat
open Go.ChangeShapes Go.WideShapes Go.ChangeAt Go.RowKit Go.Joins Go.Shelf Go.Maps Go.Deep
open Go.Lib (hid)
theorem qer {H:Type}{d:DataW H}: ∀{l:List (DataW H)},d∈l→Rows.uptoBulk d≤Rows.uptoBulkAll l
 | x::r,h=>by
  simp only[Rows.uptoBulkAll];rcases List.mem_cons.1 h with rfl|h
  ·omega
  ·have:=qer h;omega
theorem qhU {H:Type}(d:DataW H):1≤Rows.uptoBulk d:=by
 cases d with
 | lit l=>cases l<;>simp[Rows.uptoBulk]
 | _=>simp[Rows.uptoBulk]
theorem qes {H:Type}: ∀(l:List (DataW H)),l.length≤Rows.uptoBulkAll l
 | []=>Nat.zero_le _
 | x::r=>by
  have:=qes r
  have:=qhU x
  simp only[Rows.uptoBulkAll,List.length_cons];omega
theorem jH {H:Type}{enc:TypeId×Value→H}{w:World}{base fuel:Nat}{D:Bool}{c:Value}{x:DataW H×List MemPlace}
  (h:DataW.trod enc Tryz.prog w base (fun _=>true) D fuel 24 [c]=some x) (V: ∀p∈x.2,p.block<w.heap.size):
  ∃zs,Hold w c zs∧zs.length≤Rows.uptoBulk x.1:=by
 rcases open_ints Tryz.underlying24 Tryz.underlying5 qhS h with⟨o,G⟩|⟨a,len,U,zs,o,hb,hl,Y,hz,G,r,O⟩
 ·simp only[List.cons.injEq,and_true]at o;subst o;exact⟨[],Hold.nil w,Nat.zero_le _⟩
 ·simp only[List.cons.injEq,and_true]at o;subst o;simp at hz
  have q:(zs.take len).length=len:=by rw[List.length_take];omega
  refine⟨zs.take len,⟨fun z I=>bounds_u8 (O z (List.mem_of_mem_take I)),.inr ⟨a,U,by rw[q],by omega,Y,?_⟩⟩,?_⟩
  ·by_cases Z:len=0
   ·exact .inl (by rw[Z];rfl)
   ·obtain⟨b,off,rfl,X⟩:=ints_at r (by omega);refine .inr ⟨b,off,rfl,?_,?_⟩
    ·have h1:MemPlace.cell b off∈x.2:=by
      rw[G];simp only[MemPlace.row];exact List.mem_map.2 ⟨0,by simp;omega,by simp⟩
     exact V _ h1
    ·intro i J;rw[q]at J;rw[X i (by omega)];unfold qr;simp[J]
  ·rw[G];simp only[Rows.uptoBulk];have:=qes (lits (H:=H) .u8 (zs.take len))
   have e:(lits (H:=H) .u8 (zs.take len)).length=(zs.take len).length:=by simp[lits]
   omega
structure TreeH (w:World)(t:TreeV)(kz z1 z2:List Int):Prop where
 k:Hold w (.slice t.ka t.kl t.kc) kz
 s:Hold w (.slice t.sa t.sl t.sc) z1
 p:Hold w (.slice t.pa t.pl t.pc) z2
theorem qeJ {H:Type}{enc:TypeId×Value→H}{w:World}{base fuel:Nat}{o:Bool}{cs:List Value}{x:DataW H×List MemPlace}
  (h:DataW.trod enc Tryz.prog w base (fun _=>true) o fuel 26 cs=some x) (ac: ∀p∈x.2,p.block<w.heap.size):
  ∃t kz z1 z2,TreeV.val t= .agg cs.toArray∧(0≤t.l∧t.l≤4294967295)∧TreeH w t kz z1 z2∧kz.length≤Rows.uptoBulk x.1∧z1.length≤Rows.uptoBulk x.1∧z2.length≤Rows.uptoBulk x.1:=by
 obtain⟨xs,n,_,hx,aa,ad,J⟩:=DataW.trod_struct Tryz.underlying26 h;rw[qfx]at aa;obtain⟨G,c1,c2,D,I,O,U,r,q,rfl⟩:=qiN aa;obtain⟨Z,y1,y2,y3,y4,y5,X,Y,V,rfl⟩:=qiN (l:=xs) (by rw[ad];rfl);have g0:DataW.trod enc Tryz.prog w base (fun _=>true) o n 22 [G]=some Z:=by
  have g:DataW.trod enc Tryz.prog w base (fun _=>true) o n 22 (([G,c1,c2,D,I,O,U,r,q].drop 0).take (Tryz.prog.cellsOf 22))=some Z:=J 0 _ rfl;rw[qfA]at g;exact g
 have g1:DataW.trod enc Tryz.prog w base (fun _=>true) o n 3 [c1]=some y1:=by
  have g:DataW.trod enc Tryz.prog w base (fun _=>true) o n 3 (([G,c1,c2,D,I,O,U,r,q].drop 1).take (Tryz.prog.cellsOf 3))=some y1:=J 1 _ rfl;rw[jO]at g;exact g
 have g2:DataW.trod enc Tryz.prog w base (fun _=>true) o n 3 [c2]=some y2:=by
  have g:DataW.trod enc Tryz.prog w base (fun _=>true) o n 3 (([G,c1,c2,D,I,O,U,r,q].drop 2).take (Tryz.prog.cellsOf 3))=some y2:=J 2 _ rfl;rw[jO]at g;exact g
 have g3:DataW.trod enc Tryz.prog w base (fun _=>true) o n 3 [D]=some y3:=by
  have g:DataW.trod enc Tryz.prog w base (fun _=>true) o n 3 (([G,c1,c2,D,I,O,U,r,q].drop 3).take (Tryz.prog.cellsOf 3))=some y3:=J 3 _ rfl;rw[jO]at g;exact g
 have g4:DataW.trod enc Tryz.prog w base (fun _=>true) o n 23 [I]=some y4:=by
  have g:DataW.trod enc Tryz.prog w base (fun _=>true) o n 23 (([G,c1,c2,D,I,O,U,r,q].drop 4).take (Tryz.prog.cellsOf 23))=some y4:=J 4 _ rfl;rw[qgL]at g;exact g
 have g5:DataW.trod enc Tryz.prog w base (fun _=>true) o n 3 [O]=some y5:=by
  have g:DataW.trod enc Tryz.prog w base (fun _=>true) o n 3 (([G,c1,c2,D,I,O,U,r,q].drop 5).take (Tryz.prog.cellsOf 3))=some y5:=J 5 _ rfl;rw[jO]at g;exact g
 have g6:DataW.trod enc Tryz.prog w base (fun _=>true) o n 24 [U]=some X:=by
  have g:DataW.trod enc Tryz.prog w base (fun _=>true) o n 24 (([G,c1,c2,D,I,O,U,r,q].drop 6).take (Tryz.prog.cellsOf 24))=some X:=J 6 _ rfl;rw[jk]at g;exact g
 have g7:DataW.trod enc Tryz.prog w base (fun _=>true) o n 24 [r]=some Y:=by
  have g:DataW.trod enc Tryz.prog w base (fun _=>true) o n 24 (([G,c1,c2,D,I,O,U,r,q].drop 7).take (Tryz.prog.cellsOf 24))=some Y:=J 7 _ rfl;rw[jk]at g;exact g
 have g8:DataW.trod enc Tryz.prog w base (fun _=>true) o n 24 [q]=some V:=by
  have g:DataW.trod enc Tryz.prog w base (fun _=>true) o n 24 (([G,c1,c2,D,I,O,U,r,q].drop 8).take (Tryz.prog.cellsOf 24))=some V:=J 8 _ rfl;rw[jk]at g;exact g
 clear J;obtain⟨k,e0, -,wk⟩:=DataW.trod_int Tryz.underlying22 g0;obtain⟨d,e1, -,wd⟩:=DataW.trod_int Tryz.underlying3 g1;obtain⟨f,e2, -,wf⟩:=DataW.trod_int Tryz.underlying3 g2;obtain⟨p,e3, -,wp⟩:=DataW.trod_int Tryz.underlying3 g3;obtain⟨l,e4, -,wl⟩:=DataW.trod_int Tryz.underlying23 g4;obtain⟨i,e5, -,wi⟩:=DataW.trod_int Tryz.underlying3 g5;have hp: ∀y∈[Z,y1,y2,y3,y4,y5,X,Y,V],∀p∈y.2,p.block<w.heap.size:=fun y hy p hp=>ac p (by rw[hx];exact List.mem_flatMap.2 ⟨y,hy,hp⟩)
 obtain⟨kz,hk,lk⟩:=jH g6 (hp X (by simp));obtain⟨z1,hs,ls⟩:=jH g7 (hp Y (by simp));obtain⟨z2,hq,lq⟩:=jH g8 (hp V (by simp));have ab: ∀y∈[Z,y1,y2,y3,y4,y5,X,Y,V],Rows.uptoBulk y.1≤Rows.uptoBulk x.1:=fun y hy=>by
  rw[hx];simp only[Rows.uptoBulk];have:=qer (d:=y.1) (l:=[Z,y1,y2,y3,y4,y5,X,Y,V].map (·.1)) (List.mem_map.2 ⟨y,hy,rfl⟩)
  omega
 have b6:=ab X (by simp);have b7:=ab Y (by simp);have b8:=ab V (by simp);obtain⟨ka,kc,rfl, -, -⟩:=id hk.slice;obtain⟨sa,sc,rfl, -, -⟩:=id hs.slice;obtain⟨pa,pc,rfl, -, -⟩:=id hq.slice;simp only[List.cons.injEq,and_true]at e0 e1 e2 e3 e4 e5;subst e0 e1 e2 e3 e4 e5;exact⟨⟨k,d,f,p,l,i,ka,kz.length,kc,sa,z1.length,sc,pa,z2.length,pc⟩,kz,z1,z2,rfl,bounds_u32 wl,⟨hk,hs,hq⟩,by omega,by omega,by omega⟩
theorem qff {H:Type}{enc:TypeId×Value→H}{w:World}{base I:Nat}{r:Reach}{q:Bool}{v:Value}{d:DataW H}{D:List MemPlace}
  (O:Value.okWide Tryz.prog w r I 26 v) (h:DataW.Trod enc Tryz.prog w base (fun _=>true) q 26 v d D) (G: ∀p∈D,p.block<w.heap.size):
  ∃t o z1 z2,v=TreeV.val t∧(0≤t.l∧t.l≤4294967295)∧TreeH w t o z1 z2∧o.length≤Rows.uptoBulk d∧z1.length≤Rows.uptoBulk d∧z2.length≤Rows.uptoBulk d:=by
 obtain⟨cs,rfl,V⟩:=okWide_struct Tryz.underlying26 O;obtain⟨fuel,U⟩:=h;obtain⟨t,o,z1,z2,e,J⟩:=qeJ U G;exact⟨t,o,z1,z2,by rw[e];rfl,J⟩
theorem qd2 {H:Type}{enc:TypeId×Value→H}{w:World}{base I:Nat}{r:Reach}{q:Bool}{v:Value}{d:DataW H}{D:List MemPlace}
  (J:Value.okWide Tryz.prog w r I 24 v) (h:DataW.Trod enc Tryz.prog w base (fun _=>true) q 24 v d D) (G: ∀p∈D,p.block<w.heap.size):
  ∃zs,Hold w v zs∧zs.length≤Rows.uptoBulk d:=by
 obtain⟨fuel,O⟩:=h;obtain⟨o,n,c,rfl⟩:=okWide_slice Tryz.underlying24 J;exact jH O G
end Go.Proofs.YthjoojnlnlmljaaGreat
