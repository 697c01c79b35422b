/- Two slices of bytes compared, by the program and by the reference. No condition. -/
import Derived.Test.YthjoojnlnlmljaaGreatF21
import Derived.Laws.BytesArg
import Derived.BigQuiet
import Derived.Deep.QuietTactic
import Derived.Test.YthjoojnlnlmljaaGreatF32
import Derived.Test.YthjoojnlnlmljaaGreatF04
import Derived.OpenShut
import Derived.Deep.Fields
set_option linter.all false
set_option maxRecDepth 100000
set_option maxHeartbeats 8000000
namespace Go.Proofs.YthjoojnlnlmljaaGreat
open Go.ChangeShapes Go.WideShapes Go.ChangeAt Go.RowKit Go.Joins Go.Shelf Go.Maps
open Go.Lib (hid)
attribute [local go_sem] Oper.semAt_some
theorem qgS {o ys:List Int}(G:o.length=ys.length)(h: ∀j,j<o.length→qn o j=qn ys j):o=ys:=by
  apply List.ext_getElem G
  intro i q D;have:=h i q
  simpa [qn,Lg,q,D] using this
theorem qeu (o ys:List Int)(u v:Value)(w:World)(G:Hold w u o)(D:Hold w v ys):
    Calls Tryz.prog 73 #[u,v] w fun e w'=>e= .returned (.bool (decide (o=ys)))∧ ∃m,w'=w.drewN m:=by
  obtain⟨a,ao,rfl,ah,ai⟩:=G.slice;obtain⟨a',aj,rfl,ad,ac⟩:=D.slice;have hx:=G.1;have hy:=D.1;obtain⟨a2,am,e,h⟩:=G.holds8;obtain⟨a3,al,e',X⟩:=D.holds8;simp only[Value.slice.injEq,true_and]at e e';obtain⟨rfl,rfl⟩:=e;obtain⟨rfl,rfl⟩:=e';by_cases I:o.length=ys.length
  case neg=>
    have e:decide (o=ys)=false:=decide_eq_false (fun e=>I (by rw[e]));have hq:((o.length:Int) != ys.length)=true:=by rw[bne_iff_ne];omega
    rw[e];clear h X G D ah ai ad ac hx hy I e;go_enter Tryz.func73,Tryz.ntmps73
    go_wp2
    go_ret
    exact⟨rfl,0,rfl⟩
  have hq:((o.length:Int) != ys.length)=false:=by simp[I]
  have ak:(o.length:Int)≤9223372036854775807:=by omega
  by_cases Y:o=[]
  · subst Y
    obtain rfl:ys=[]:=List.eq_nil_of_length_eq_zero I.symm;clear h X G D;go_enter Tryz.func73,Tryz.ntmps73
    go_wp2_with fail
    go_loopw [5] (fun i wr=>i= .int .i64 0∧w=wr) (fun _ _=>0)
    case atStart=>exact⟨rfl,rfl⟩
    case round=>
      obtain⟨rfl,rfl⟩:=hrel;go_wp2
      go_ret
      exact⟨rfl,0,rfl⟩
  have aa:ys≠[]:=fun e=>Y (List.eq_nil_of_length_eq_zero (by rw[I,e];rfl))
  obtain⟨b,off,rfl,ap,ab⟩:=h.resolve_left Y;obtain⟨b',ae,rfl,an,O⟩:=X.resolve_left aa;have H2:=hid ab;have ag:=hid O;have HX:=hid hx;have HY:=hid hy;have HL:=hid I;obtain⟨r,hr⟩: ∃r,decide (o=ys)=r:=⟨_,rfl⟩;rw[hr];have HR:=hid hr;clear h X ab O G D hx hy Y aa hr;go_enter Tryz.func73,Tryz.ntmps73
  go_wp2_with fail
  go_loopw [5] (fun i wr=> ∃(k n:Nat),i= .int .i64 k∧k≤o.length∧wr=w.drewN n∧Hid (∀j,j<k→qn o j=qn ys j)) (fun i _=>o.length - (intOf i).toNat)
  case atStart=>exact⟨0,0,rfl,Nat.zero_le _,rfl,hid (fun j Z=>absurd Z (Nat.not_lt_zero _))⟩
  case round=>
    obtain⟨k,n,rfl,hk,rfl,HP⟩:=hrel;by_cases af:k<o.length
    · have e1:w.cell? ⟨b,off+k,none⟩=some (.int .u8 (qn o k)):=H2.out k af
      have e2:w.cell? ⟨b',ae+k,none⟩=some (.int .u8 (qn ys k)):=ag.out k (by omega);obtain⟨zx,J⟩:=Ex (qn o k);obtain⟨zy,S⟩:=Ex (qn ys k);rw[J]at e1;rw[S]at e2;have V:=hid (show qn o k=zx∧qn ys k=zy from⟨J,S⟩);clear J S;obtain⟨q,U⟩: ∃q,(zx != zy)=q:=⟨_,rfl⟩
      cases q
      case false=>
        go_wp2
        go_quiet (fail)
        go_wp2
        exact⟨⟨k+1,n+nq,by go_num,by omega,rfl,hid (fun j Z=>by
          rcases Nat.lt_or_ge j k with h|h
          · exact HP.out j h
          · obtain rfl:j=k:=by omega
            rw[V.out.1,V.out.2];simpa using U)⟩,by simp[intOf];omega⟩
      case true=>
        obtain rfl:r=false:=by
          rw[←HR.out,decide_eq_false];rintro rfl
          rw[bne_iff_ne]at U;exact U (V.out.1.symm.trans V.out.2)
        go_wp2
        go_quiet (fail)
        go_wp2
        go_ret
        exact⟨rfl,n+nq,by rw[World.drewN_drewN]⟩
    · obtain rfl:k=o.length:=by omega
      obtain rfl:r=true:=by
        rw[←HR.out,decide_eq_true];exact qgS HL.out (fun j Z=>HP.out j Z)
      go_wp2
      go_ret
      exact⟨rfl,n,rfl⟩
end Go.Proofs.YthjoojnlnlmljaaGreat
namespace Go.Proofs.YthjoojnlnlmljaaGreat
open Go.ChangeShapes Go.WideShapes Go.ChangeAt Go.RowKit Go.Joins Go.Shelf Go.Maps Go.Deep
open Go.Lib (hid)
theorem qdR {H:Type}{d:DataW H}: ∀{l:List (DataW H)},d∈l→Rows.uptoBulk d≤Rows.uptoBulkAll l
 | x::r,h=>by
  simp only[Rows.uptoBulkAll];rcases List.mem_cons.1 h with rfl|h
  ·omega
  ·have:=qdR h;omega
theorem qhk {H:Type}(d:DataW H):1≤Rows.uptoBulk d:=by
 cases d with
 | lit l=>cases l<;>simp[Rows.uptoBulk]
 | _=>simp[Rows.uptoBulk]
theorem qbc {H:Type}: ∀(l:List (DataW H)),l.length≤Rows.uptoBulkAll l
 | []=>Nat.zero_le _
 | x::r=>by
  have:=qbc r
  have:=qhk x
  simp only[Rows.uptoBulkAll,List.length_cons];omega
theorem jc {H:Type}{enc:TypeId×Value→H}{w:World}{base fuel:Nat}{I:Bool}{c:Value}{x:DataW H×List MemPlace}
  (h:DataW.trod enc Tryz.prog w base (fun _=>true) I fuel 24 [c]=some x) (O: ∀p∈x.2,p.block<w.heap.size):
  ∃zs,Hold w c zs∧zs.length≤Rows.uptoBulk x.1:=by
 rcases open_ints Tryz.underlying24 Tryz.underlying5 qhi h with⟨q,J⟩|⟨a,o,S,zs,q,hb,hl,hm,hz,J,G,V⟩
 ·simp only[List.cons.injEq,and_true]at q;subst q;exact⟨[],Hold.nil w,Nat.zero_le _⟩
 ·simp only[List.cons.injEq,and_true]at q;subst q;simp at hz
  have D:(zs.take o).length=o:=by rw[List.length_take];omega
  refine⟨zs.take o,⟨fun z X=>bounds_u8 (V z (List.mem_of_mem_take X)),.inr ⟨a,S,by rw[D],by omega,hm,?_⟩⟩,?_⟩
  ·by_cases h0:o=0
   ·exact .inl (by rw[h0];rfl)
   ·obtain⟨b,off,rfl,U⟩:=ints_at G (by omega);refine .inr ⟨b,off,rfl,?_,?_⟩
    ·have Z:MemPlace.cell b off∈x.2:=by
      rw[J];simp only[MemPlace.row];exact List.mem_map.2 ⟨0,by simp;omega,by simp⟩
     exact O _ Z
    ·intro i Y;rw[D]at Y;rw[U i (by omega)];unfold qn;simp[Y]
  ·rw[J];simp only[Rows.uptoBulk];have:=qbc (lits (H:=H) .u8 (zs.take o))
   have e:(lits (H:=H) .u8 (zs.take o)).length=(zs.take o).length:=by simp[lits]
   omega
structure TreeH (w:World)(t:TreeV)(kz z1 z2:List Int):Prop where
 k:Hold w (.slice t.ka t.kl t.kc) kz
 s:Hold w (.slice t.sa t.sl t.sc) z1
 p:Hold w (.slice t.pa t.pl t.pc) z2
theorem qd8 {H:Type}{enc:TypeId×Value→H}{w:World}{base fuel:Nat}{o:Bool}{cs:List Value}{x:DataW H×List MemPlace}
  (h:DataW.trod enc Tryz.prog w base (fun _=>true) o fuel 26 cs=some x) (ad: ∀p∈x.2,p.block<w.heap.size):
  ∃t kz z1 z2,TreeV.val t= .agg cs.toArray∧(0≤t.l∧t.l≤4294967295)∧TreeH w t kz z1 z2∧kz.length≤Rows.uptoBulk x.1∧z1.length≤Rows.uptoBulk x.1∧z2.length≤Rows.uptoBulk x.1:=by
 obtain⟨xs,n,_,hx,ab,ac,D⟩:=DataW.trod_struct Tryz.underlying26 h;rw[qe3]at ab;obtain⟨J,c1,c2,G,U,S,I,O,q,rfl⟩:=qh6 ab;obtain⟨y0,Z,y2,y3,y4,y5,X,Y,V,rfl⟩:=qh6 (l:=xs) (by rw[ac];rfl);have g0:DataW.trod enc Tryz.prog w base (fun _=>true) o n 22 [J]=some y0:=by
  have g:DataW.trod enc Tryz.prog w base (fun _=>true) o n 22 (([J,c1,c2,G,U,S,I,O,q].drop 0).take (Tryz.prog.cellsOf 22))=some y0:=D 0 _ rfl;rw[qe5]at g;exact g
 have g1:DataW.trod enc Tryz.prog w base (fun _=>true) o n 3 [c1]=some Z:=by
  have g:DataW.trod enc Tryz.prog w base (fun _=>true) o n 3 (([J,c1,c2,G,U,S,I,O,q].drop 1).take (Tryz.prog.cellsOf 3))=some Z:=D 1 _ rfl;rw[zO]at g;exact g
 have g2:DataW.trod enc Tryz.prog w base (fun _=>true) o n 3 [c2]=some y2:=by
  have g:DataW.trod enc Tryz.prog w base (fun _=>true) o n 3 (([J,c1,c2,G,U,S,I,O,q].drop 2).take (Tryz.prog.cellsOf 3))=some y2:=D 2 _ rfl;rw[zO]at g;exact g
 have g3:DataW.trod enc Tryz.prog w base (fun _=>true) o n 3 [G]=some y3:=by
  have g:DataW.trod enc Tryz.prog w base (fun _=>true) o n 3 (([J,c1,c2,G,U,S,I,O,q].drop 3).take (Tryz.prog.cellsOf 3))=some y3:=D 3 _ rfl;rw[zO]at g;exact g
 have g4:DataW.trod enc Tryz.prog w base (fun _=>true) o n 23 [U]=some y4:=by
  have g:DataW.trod enc Tryz.prog w base (fun _=>true) o n 23 (([J,c1,c2,G,U,S,I,O,q].drop 4).take (Tryz.prog.cellsOf 23))=some y4:=D 4 _ rfl;rw[qgl]at g;exact g
 have g5:DataW.trod enc Tryz.prog w base (fun _=>true) o n 3 [S]=some y5:=by
  have g:DataW.trod enc Tryz.prog w base (fun _=>true) o n 3 (([J,c1,c2,G,U,S,I,O,q].drop 5).take (Tryz.prog.cellsOf 3))=some y5:=D 5 _ rfl;rw[zO]at g;exact g
 have g6:DataW.trod enc Tryz.prog w base (fun _=>true) o n 24 [I]=some X:=by
  have g:DataW.trod enc Tryz.prog w base (fun _=>true) o n 24 (([J,c1,c2,G,U,S,I,O,q].drop 6).take (Tryz.prog.cellsOf 24))=some X:=D 6 _ rfl;rw[zt]at g;exact g
 have g7:DataW.trod enc Tryz.prog w base (fun _=>true) o n 24 [O]=some Y:=by
  have g:DataW.trod enc Tryz.prog w base (fun _=>true) o n 24 (([J,c1,c2,G,U,S,I,O,q].drop 7).take (Tryz.prog.cellsOf 24))=some Y:=D 7 _ rfl;rw[zt]at g;exact g
 have g8:DataW.trod enc Tryz.prog w base (fun _=>true) o n 24 [q]=some V:=by
  have g:DataW.trod enc Tryz.prog w base (fun _=>true) o n 24 (([J,c1,c2,G,U,S,I,O,q].drop 8).take (Tryz.prog.cellsOf 24))=some V:=D 8 _ rfl;rw[zt]at g;exact g
 clear D;obtain⟨k,e0, -,wk⟩:=DataW.trod_int Tryz.underlying22 g0;obtain⟨d,e1, -,wd⟩:=DataW.trod_int Tryz.underlying3 g1;obtain⟨f,e2, -,wf⟩:=DataW.trod_int Tryz.underlying3 g2;obtain⟨p,e3, -,wp⟩:=DataW.trod_int Tryz.underlying3 g3;obtain⟨l,e4, -,wl⟩:=DataW.trod_int Tryz.underlying23 g4;obtain⟨i,e5, -,wi⟩:=DataW.trod_int Tryz.underlying3 g5;have hp: ∀y∈[y0,Z,y2,y3,y4,y5,X,Y,V],∀p∈y.2,p.block<w.heap.size:=fun y hy p hp=>ad p (by rw[hx];exact List.mem_flatMap.2 ⟨y,hy,hp⟩)
 obtain⟨kz,hk,lk⟩:=jc g6 (hp X (by simp));obtain⟨z1,hs,ls⟩:=jc g7 (hp Y (by simp));obtain⟨z2,hq,lq⟩:=jc g8 (hp V (by simp));have aa: ∀y∈[y0,Z,y2,y3,y4,y5,X,Y,V],Rows.uptoBulk y.1≤Rows.uptoBulk x.1:=fun y hy=>by
  rw[hx];simp only[Rows.uptoBulk];have:=qdR (d:=y.1) (l:=[y0,Z,y2,y3,y4,y5,X,Y,V].map (·.1)) (List.mem_map.2 ⟨y,hy,rfl⟩)
  omega
 have b6:=aa X (by simp);have b7:=aa Y (by simp);have b8:=aa V (by simp);obtain⟨ka,kc,rfl, -, -⟩:=id hk.slice;obtain⟨sa,sc,rfl, -, -⟩:=id hs.slice;obtain⟨pa,pc,rfl, -, -⟩:=id hq.slice;simp only[List.cons.injEq,and_true]at e0 e1 e2 e3 e4 e5;subst e0 e1 e2 e3 e4 e5;exact⟨⟨k,d,f,p,l,i,ka,kz.length,kc,sa,z1.length,sc,pa,z2.length,pc⟩,kz,z1,z2,rfl,bounds_u32 wl,⟨hk,hs,hq⟩,by omega,by omega,by omega⟩
theorem qeI {H:Type}{enc:TypeId×Value→H}{w:World}{base O:Nat}{r:Reach}{o:Bool}{v:Value}{d:DataW H}{D:List MemPlace}
  (G:Value.okWide Tryz.prog w r O 26 v) (h:DataW.Trod enc Tryz.prog w base (fun _=>true) o 26 v d D) (q: ∀p∈D,p.block<w.heap.size):
  ∃t kz z1 z2,v=TreeV.val t∧(0≤t.l∧t.l≤4294967295)∧TreeH w t kz z1 z2∧kz.length≤Rows.uptoBulk d∧z1.length≤Rows.uptoBulk d∧z2.length≤Rows.uptoBulk d:=by
 obtain⟨cs,rfl,S⟩:=okWide_struct Tryz.underlying26 G;obtain⟨fuel,I⟩:=h;obtain⟨t,kz,z1,z2,e,J⟩:=qd8 I q;exact⟨t,kz,z1,z2,by rw[e];rfl,J⟩
end Go.Proofs.YthjoojnlnlmljaaGreat
