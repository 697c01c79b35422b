/- Two slices of bytes compared, by the program and by the reference. No condition. -/
import Derived.Test.YthjoojnlnlmljaaGreatG21
import Derived.Laws.BytesArg
import Derived.BigQuiet
import Derived.Deep.QuietTactic
import Derived.Test.YthjoojnlnlmljaaGreatG32
import Derived.Test.YthjoojnlnlmljaaGreatG04
import Derived.OpenShut
import Derived.Deep.Fields
set_option linter.all false
set_option maxRecDepth 100000
set_option maxHeartbeats 8000000
namespace Go.Proofs.YthjoojnlnlmljaaGreat
open Go.ChangeShapes Go.WideShapes Go.ChangeAt Go.RowKit Go.Joins Go.Shelf Go.Maps
open Go.Lib (hid)
attribute [local go_sem] Oper.semAt_some
theorem qhu {o ys:List Int}(G:o.length=ys.length)(h: ∀j,j<o.length→qr o j=qr ys j):o=ys:=by
  apply List.ext_getElem G
  intro i q D;have:=h i q
  simpa [qr,Lg,q,D] using this
theorem qe5 (o ys:List Int)(u v:Value)(w:World)(I:Hold w u o)(G:Hold w v ys):
    Calls Tryz.prog 73 #[u,v] w fun e w'=>e= .returned (.bool (decide (o=ys)))∧ ∃m,w'=w.drewN m:=by
  obtain⟨a,ap,rfl,ag,af⟩:=I.slice;obtain⟨a',am,rfl,ad,ae⟩:=G.slice;have hx:=I.1;have hy:=G.1;obtain⟨a2,aj,e,h⟩:=I.holds8;obtain⟨a3,al,e',Z⟩:=G.holds8;simp only[Value.slice.injEq,true_and]at e e';obtain⟨rfl,rfl⟩:=e;obtain⟨rfl,rfl⟩:=e';by_cases D:o.length=ys.length
  case neg=>
    have e:decide (o=ys)=false:=decide_eq_false (fun e=>D (by rw[e]));have hq:((o.length:Int) != ys.length)=true:=by rw[bne_iff_ne];omega
    rw[e];clear h Z I G ag af ad ae hx hy D e;go_enter Tryz.func73,Tryz.ntmps73
    go_wp2
    go_ret
    exact⟨rfl,0,rfl⟩
  have hq:((o.length:Int) != ys.length)=false:=by simp[D]
  have ak:(o.length:Int)≤9223372036854775807:=by omega
  by_cases X:o=[]
  · subst X
    obtain rfl:ys=[]:=List.eq_nil_of_length_eq_zero D.symm;clear h Z I G;go_enter Tryz.func73,Tryz.ntmps73
    go_wp2_with fail
    go_loopw [5] (fun i wr=>i= .int .i64 0∧w=wr) (fun _ _=>0)
    case atStart=>exact⟨rfl,rfl⟩
    case round=>
      obtain⟨rfl,rfl⟩:=hrel;go_wp2
      go_ret
      exact⟨rfl,0,rfl⟩
  have aa:ys≠[]:=fun e=>X (List.eq_nil_of_length_eq_zero (by rw[D,e];rfl))
  obtain⟨b,off,rfl,ao,ab⟩:=h.resolve_left X;obtain⟨b',ac,rfl,an,U⟩:=Z.resolve_left aa;have H2:=hid ab;have ai:=hid U;have HX:=hid hx;have HY:=hid hy;have HL:=hid D;obtain⟨r,hr⟩: ∃r,decide (o=ys)=r:=⟨_,rfl⟩;rw[hr];have HR:=hid hr;clear h Z ab U I G hx hy X aa hr;go_enter Tryz.func73,Tryz.ntmps73
  go_wp2_with fail
  go_loopw [5] (fun i wr=> ∃(k n:Nat),i= .int .i64 k∧k≤o.length∧wr=w.drewN n∧Hid (∀j,j<k→qr o j=qr ys j)) (fun i _=>o.length - (intOf i).toNat)
  case atStart=>exact⟨0,0,rfl,Nat.zero_le _,rfl,hid (fun j hj=>absurd hj (Nat.not_lt_zero _))⟩
  case round=>
    obtain⟨k,n,rfl,hk,rfl,HP⟩:=hrel;by_cases ah:k<o.length
    · have e1:w.cell? ⟨b,off+k,none⟩=some (.int .u8 (qr o k)):=H2.out k ah
      have e2:w.cell? ⟨b',ac+k,none⟩=some (.int .u8 (qr ys k)):=ai.out k (by omega);obtain⟨zx,J⟩:=Ex (qr o k);obtain⟨zy,O⟩:=Ex (qr ys k);rw[J]at e1;rw[O]at e2;have Y:=hid (show qr o k=zx∧qr ys k=zy from⟨J,O⟩);clear J O;obtain⟨q,V⟩: ∃q,(zx != zy)=q:=⟨_,rfl⟩
      cases q
      case false=>
        go_wp2
        go_quiet (fail)
        go_wp2
        exact⟨⟨k+1,n+nq,by go_num,by omega,rfl,hid (fun j hj=>by
          rcases Nat.lt_or_ge j k with h|h
          · exact HP.out j h
          · obtain rfl:j=k:=by omega
            rw[Y.out.1,Y.out.2];simpa using V)⟩,by simp[intOf];omega⟩
      case true=>
        obtain rfl:r=false:=by
          rw[←HR.out,decide_eq_false];rintro rfl
          rw[bne_iff_ne]at V;exact V (Y.out.1.symm.trans Y.out.2)
        go_wp2
        go_quiet (fail)
        go_wp2
        go_ret
        exact⟨rfl,n+nq,by rw[World.drewN_drewN]⟩
    · obtain rfl:k=o.length:=by omega
      obtain rfl:r=true:=by
        rw[←HR.out,decide_eq_true];exact qhu HL.out (fun j hj=>HP.out j hj)
      go_wp2
      go_ret
      exact⟨rfl,n,rfl⟩
end Go.Proofs.YthjoojnlnlmljaaGreat
namespace Go.Proofs.YthjoojnlnlmljaaGreat
open Go.ChangeShapes Go.WideShapes Go.ChangeAt Go.RowKit Go.Joins Go.Shelf Go.Maps Go.Deep
open Go.Lib (hid)
theorem qeq {H:Type}{d:DataW H}: ∀{l:List (DataW H)},d∈l→Rows.uptoBulk d≤Rows.uptoBulkAll l
 | x::r,h=>by
  simp only[Rows.uptoBulkAll];rcases List.mem_cons.1 h with rfl|h
  ·omega
  ·have:=qeq h;omega
theorem qhW {H:Type}(d:DataW H):1≤Rows.uptoBulk d:=by
 cases d with
 | lit l=>cases l<;>simp[Rows.uptoBulk]
 | _=>simp[Rows.uptoBulk]
theorem qer {H:Type}: ∀(l:List (DataW H)),l.length≤Rows.uptoBulkAll l
 | []=>Nat.zero_le _
 | x::r=>by
  have:=qer r
  have:=qhW x
  simp only[Rows.uptoBulkAll,List.length_cons];omega
theorem js {H:Type}{enc:TypeId×Value→H}{w:World}{base fuel:Nat}{I:Bool}{c:Value}{x:DataW H×List MemPlace}
  (h:DataW.trod enc Tryz.prog w base (fun _=>true) I fuel 24 [c]=some x) (V: ∀p∈x.2,p.block<w.heap.size):
  ∃zs,Hold w c zs∧zs.length≤Rows.uptoBulk x.1:=by
 rcases open_ints Tryz.underlying24 Tryz.underlying5 qhU h with⟨o,G⟩|⟨a,len,U,zs,o,hb,hl,hm,hz,G,D,X⟩
 ·simp only[List.cons.injEq,and_true]at o;subst o;exact⟨[],Hold.nil w,Nat.zero_le _⟩
 ·simp only[List.cons.injEq,and_true]at o;subst o;simp at hz
  have q:(zs.take len).length=len:=by rw[List.length_take];omega
  refine⟨zs.take len,⟨fun z J=>bounds_u8 (X z (List.mem_of_mem_take J)),.inr ⟨a,U,by rw[q],by omega,hm,?_⟩⟩,?_⟩
  ·by_cases Z:len=0
   ·exact .inl (by rw[Z];rfl)
   ·obtain⟨b,off,rfl,O⟩:=ints_at D (by omega);refine .inr ⟨b,off,rfl,?_,?_⟩
    ·have h1:MemPlace.cell b off∈x.2:=by
      rw[G];simp only[MemPlace.row];exact List.mem_map.2 ⟨0,by simp;omega,by simp⟩
     exact V _ h1
    ·intro i Y;rw[q]at Y;rw[O i (by omega)];unfold qr;simp[Y]
  ·rw[G];simp only[Rows.uptoBulk];have:=qer (lits (H:=H) .u8 (zs.take len))
   have e:(lits (H:=H) .u8 (zs.take len)).length=(zs.take len).length:=by simp[lits]
   omega
structure TreeH (w:World)(t:TreeV)(kz z1 z2:List Int):Prop where
 k:Hold w (.slice t.ka t.kl t.kc) kz
 s:Hold w (.slice t.sa t.sl t.sc) z1
 p:Hold w (.slice t.pa t.pl t.pc) z2
theorem qeI {H:Type}{enc:TypeId×Value→H}{w:World}{base fuel:Nat}{o:Bool}{cs:List Value}{x:DataW H×List MemPlace}
  (h:DataW.trod enc Tryz.prog w base (fun _=>true) o fuel 26 cs=some x) (ad: ∀p∈x.2,p.block<w.heap.size):
  ∃t kz z1 z2,TreeV.val t= .agg cs.toArray∧(0≤t.l∧t.l≤4294967295)∧TreeH w t kz z1 z2∧kz.length≤Rows.uptoBulk x.1∧z1.length≤Rows.uptoBulk x.1∧z2.length≤Rows.uptoBulk x.1:=by
 obtain⟨xs,n,_,hx,ab,ac,I⟩:=DataW.trod_struct Tryz.underlying26 h;rw[qfD]at ab;obtain⟨J,c1,c2,G,O,D,q,U,V,rfl⟩:=qiK ab;obtain⟨y0,y1,y2,y3,y4,y5,Z,X,Y,rfl⟩:=qiK (l:=xs) (by rw[ac];rfl);have g0:DataW.trod enc Tryz.prog w base (fun _=>true) o n 22 [J]=some y0:=by
  have g:DataW.trod enc Tryz.prog w base (fun _=>true) o n 22 (([J,c1,c2,G,O,D,q,U,V].drop 0).take (Tryz.prog.cellsOf 22))=some y0:=I 0 _ rfl;rw[qfF]at g;exact g
 have g1:DataW.trod enc Tryz.prog w base (fun _=>true) o n 3 [c1]=some y1:=by
  have g:DataW.trod enc Tryz.prog w base (fun _=>true) o n 3 (([J,c1,c2,G,O,D,q,U,V].drop 1).take (Tryz.prog.cellsOf 3))=some y1:=I 1 _ rfl;rw[jz]at g;exact g
 have g2:DataW.trod enc Tryz.prog w base (fun _=>true) o n 3 [c2]=some y2:=by
  have g:DataW.trod enc Tryz.prog w base (fun _=>true) o n 3 (([J,c1,c2,G,O,D,q,U,V].drop 2).take (Tryz.prog.cellsOf 3))=some y2:=I 2 _ rfl;rw[jz]at g;exact g
 have g3:DataW.trod enc Tryz.prog w base (fun _=>true) o n 3 [G]=some y3:=by
  have g:DataW.trod enc Tryz.prog w base (fun _=>true) o n 3 (([J,c1,c2,G,O,D,q,U,V].drop 3).take (Tryz.prog.cellsOf 3))=some y3:=I 3 _ rfl;rw[jz]at g;exact g
 have g4:DataW.trod enc Tryz.prog w base (fun _=>true) o n 23 [O]=some y4:=by
  have g:DataW.trod enc Tryz.prog w base (fun _=>true) o n 23 (([J,c1,c2,G,O,D,q,U,V].drop 4).take (Tryz.prog.cellsOf 23))=some y4:=I 4 _ rfl;rw[qgV]at g;exact g
 have g5:DataW.trod enc Tryz.prog w base (fun _=>true) o n 3 [D]=some y5:=by
  have g:DataW.trod enc Tryz.prog w base (fun _=>true) o n 3 (([J,c1,c2,G,O,D,q,U,V].drop 5).take (Tryz.prog.cellsOf 3))=some y5:=I 5 _ rfl;rw[jz]at g;exact g
 have g6:DataW.trod enc Tryz.prog w base (fun _=>true) o n 24 [q]=some Z:=by
  have g:DataW.trod enc Tryz.prog w base (fun _=>true) o n 24 (([J,c1,c2,G,O,D,q,U,V].drop 6).take (Tryz.prog.cellsOf 24))=some Z:=I 6 _ rfl;rw[Z6]at g;exact g
 have g7:DataW.trod enc Tryz.prog w base (fun _=>true) o n 24 [U]=some X:=by
  have g:DataW.trod enc Tryz.prog w base (fun _=>true) o n 24 (([J,c1,c2,G,O,D,q,U,V].drop 7).take (Tryz.prog.cellsOf 24))=some X:=I 7 _ rfl;rw[Z6]at g;exact g
 have g8:DataW.trod enc Tryz.prog w base (fun _=>true) o n 24 [V]=some Y:=by
  have g:DataW.trod enc Tryz.prog w base (fun _=>true) o n 24 (([J,c1,c2,G,O,D,q,U,V].drop 8).take (Tryz.prog.cellsOf 24))=some Y:=I 8 _ rfl;rw[Z6]at g;exact g
 clear I;obtain⟨k,e0, -,wk⟩:=DataW.trod_int Tryz.underlying22 g0;obtain⟨d,e1, -,wd⟩:=DataW.trod_int Tryz.underlying3 g1;obtain⟨f,e2, -,wf⟩:=DataW.trod_int Tryz.underlying3 g2;obtain⟨p,e3, -,wp⟩:=DataW.trod_int Tryz.underlying3 g3;obtain⟨l,e4, -,wl⟩:=DataW.trod_int Tryz.underlying23 g4;obtain⟨i,e5, -,wi⟩:=DataW.trod_int Tryz.underlying3 g5;have hp: ∀y∈[y0,y1,y2,y3,y4,y5,Z,X,Y],∀p∈y.2,p.block<w.heap.size:=fun y hy p hp=>ad p (by rw[hx];exact List.mem_flatMap.2 ⟨y,hy,hp⟩)
 obtain⟨kz,hk,lk⟩:=js g6 (hp Z (by simp));obtain⟨z1,hs,ls⟩:=js g7 (hp X (by simp));obtain⟨z2,hq,lq⟩:=js g8 (hp Y (by simp));have aa: ∀y∈[y0,y1,y2,y3,y4,y5,Z,X,Y],Rows.uptoBulk y.1≤Rows.uptoBulk x.1:=fun y hy=>by
  rw[hx];simp only[Rows.uptoBulk];have:=qeq (d:=y.1) (l:=[y0,y1,y2,y3,y4,y5,Z,X,Y].map (·.1)) (List.mem_map.2 ⟨y,hy,rfl⟩)
  omega
 have b6:=aa Z (by simp);have b7:=aa X (by simp);have b8:=aa Y (by simp);obtain⟨ka,kc,rfl, -, -⟩:=id hk.slice;obtain⟨sa,sc,rfl, -, -⟩:=id hs.slice;obtain⟨pa,pc,rfl, -, -⟩:=id hq.slice;simp only[List.cons.injEq,and_true]at e0 e1 e2 e3 e4 e5;subst e0 e1 e2 e3 e4 e5;exact⟨⟨k,d,f,p,l,i,ka,kz.length,kc,sa,z1.length,sc,pa,z2.length,pc⟩,kz,z1,z2,rfl,bounds_u32 wl,⟨hk,hs,hq⟩,by omega,by omega,by omega⟩
theorem qfi {H:Type}{enc:TypeId×Value→H}{w:World}{base J:Nat}{r:Reach}{o:Bool}{v:Value}{d:DataW H}{q:List MemPlace}
  (I:Value.okWide Tryz.prog w r J 26 v) (h:DataW.Trod enc Tryz.prog w base (fun _=>true) o 26 v d q) (D: ∀p∈q,p.block<w.heap.size):
  ∃t kz z1 z2,v=TreeV.val t∧(0≤t.l∧t.l≤4294967295)∧TreeH w t kz z1 z2∧kz.length≤Rows.uptoBulk d∧z1.length≤Rows.uptoBulk d∧z2.length≤Rows.uptoBulk d:=by
 obtain⟨cs,rfl,U⟩:=okWide_struct Tryz.underlying26 I;obtain⟨fuel,O⟩:=h;obtain⟨t,kz,z1,z2,e,G⟩:=qeI O D;exact⟨t,kz,z1,z2,by rw[e];rfl,G⟩
theorem qau {H:Type}{enc:TypeId×Value→H}{w:World}{base J:Nat}{r:Reach}{q:Bool}{v:Value}{d:DataW H}{D:List MemPlace}
  (I:Value.okWide Tryz.prog w r J 24 v) (h:DataW.Trod enc Tryz.prog w base (fun _=>true) q 24 v d D) (G: ∀p∈D,p.block<w.heap.size):
  ∃zs,Hold w v zs∧zs.length≤Rows.uptoBulk d:=by
 obtain⟨fuel,O⟩:=h;obtain⟨o,n,c,rfl⟩:=okWide_slice Tryz.underlying24 I;exact js O G
end Go.Proofs.YthjoojnlnlmljaaGreat
