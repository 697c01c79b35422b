/- Lemmas. No condition. -/
import Derived.Test.YtahenngmaoellaaGreatO33
set_option linter.all false
set_option maxRecDepth 100000
set_option maxHeartbeats 0
namespace Go.Proofs.YtahenngmaoellaaGreat
open Go.ChangeShapes Go.WideShapes Go.ChangeAt Go.RowKit Go.Joins Go.Shelf Go.Maps
open Go.Lib (hid)
variable{xs o:List Int}
attribute [local go_sem] Oper.semAt_some
theorem qcI (D: ∀z∈xs,0<=z/\z<=255)(G: ∀z∈o,0<=z/\z<=255):strOfNums xs=strOfNums o↔xs=o:=by
  refine⟨fun h=>?_,fun h=>by rw[h]⟩;have q:(xs.map fun n=>UInt8.ofNat n.toNat)=o.map fun n=>UInt8.ofNat n.toNat:=by rw[<-strOfNums_data,<-strOfNums_data,h]
  clear h;induction xs generalizing o with
  | nil=>cases o with
    | nil=>rfl
    | cons y o=>simp at q
  | cons x xs ih=>cases o with
    | nil=>simp at q
    | cons y o=>
      simp only[List.map_cons,List.cons.injEq]at q;have e:=ih (fun z r=>D z (.tail _ r)) (fun z r=>G z (.tail _ r)) q.2;have b1:=D x (.head _);have b2:=G y (.head _);have I:=congrArg UInt8.toNat q.1;simp only[UInt8.toNat_ofNat']at I;rw[e,show x=y by omega]
theorem qjD {s t:ByteArray}:s=t↔(s.toList==t.toList)=true:=by
  rw[beq_iff_eq,ByteArray.toList_eq,ByteArray.toList_eq];exact⟨fun h=>by rw[h],fun h=>bytes_inj h⟩
theorem qiS (r:xs.length=o.length)(h: ∀j,j<xs.length->qo xs j=qo o j):xs=o:=by
  apply List.ext_getElem r
  intro i q D;have:=h i q
  simpa [qo,Lg,q,D] using this
theorem qdw {w:World}{v:Value}{zs:List Int}(h:Hold w v zs):(convert 24 9 v).run Tryz.prog w= .ok (.string (strOfNums zs)) w:=by
  have q:Tryz.prog.underlying 24=some (.slice 5):=by kernel_rfl
  have D:Tryz.prog.underlying 5=some (.int .u8):=by kernel_rfl
  have r:Tryz.prog.underlying 9=some .string:=by kernel_rfl
  rcases h.2 with⟨rfl,rfl⟩|⟨J,o,rfl,O,S,I⟩
  · exact run_convert_bytes_nil w _ _ q D _ _ _ r
  · rcases I with rfl|⟨b,off,rfl,U,G⟩
    · rw[run_convert_bytes_string w _ _ _ _ _ _ q D r,run_bytesToString w J _ o [] (by simp[loadCells,loadCellsFrom,Sem.run_pure])]
      rfl
    · exact run_convert_bytes_arg w _ _ q D b off zs.length o zs rfl G _ r
theorem qjL (xs o:List Int)(u v:Value)(w:World)(q:Hold w u xs)(r:Hold w v o):
    Calls Tryz.prog 100 #[u,v] w fun e w'=>e= .returned (.bool (decide (xs=o)))/\w'=w:=by
  have D:=qdw q;have G:=qdw r;have e:decide (xs=o)=((strOfNums xs).toList==(strOfNums o).toList):=by
    rw[Bool.eq_iff_iff,decide_eq_true_eq,<-qcI q.1 r.1];exact qjD
  rw[e];clear q r e;generalize strOfNums xs=s at*;generalize strOfNums o=t at*;go_enter Tryz.func100,Tryz.ntmps100
  go_wp2
  go_ret
  exact⟨rfl,rfl⟩
theorem qf8 (xs o:List Int)(u v:Value)(w:World)(G:Hold w u xs)(I:Hold w v o):
    Calls Tryz.prog 77 #[u,v] w fun e w'=>e= .returned (.bool (decide (xs=o)))/\ ∃m,w'=w.drewN m:=by
  obtain⟨a,ao,rfl,af,ag⟩:=G.slice;obtain⟨a',an,rfl,ae,ad⟩:=I.slice;have hx:=G.1;have hy:=I.1;obtain⟨a2,al,e,h⟩:=G.holds8;obtain⟨a3,am,e',X⟩:=I.holds8;simp only[Value.slice.injEq,true_and]at e e';obtain⟨rfl,rfl⟩:=e;obtain⟨rfl,rfl⟩:=e';by_cases D:xs.length=o.length
  case neg=>
    have e:decide (xs=o)=false:=decide_eq_false (fun e=>D (by rw[e]));have hq:((xs.length:Int) != o.length)=true:=by rw[bne_iff_ne];omega
    rw[e];clear h X G I af ag ae ad hx hy D e;go_enter Tryz.func77,Tryz.ntmps77
    go_wp2
    go_ret
    exact⟨rfl,0,rfl⟩
  have hq:((xs.length:Int) != o.length)=false:=by simp[D]
  have aj:(xs.length:Int)<=9223372036854775807:=by omega
  by_cases Y:xs=[]
  · subst Y
    obtain rfl:o=[]:=List.eq_nil_of_length_eq_zero D.symm;clear h X G I;go_enter Tryz.func77,Tryz.ntmps77
    go_wp2_with fail
    go_loopw [5] (fun i wr=>i= .int .i64 0/\w=wr) (fun _ _=>0)
    case atStart=>exact⟨rfl,rfl⟩
    case round=>
      obtain⟨rfl,rfl⟩:=hrel;go_wp2
      go_ret
      exact⟨rfl,0,rfl⟩
  have aa:o≠[]:=fun e=>Y (List.eq_nil_of_length_eq_zero (by rw[D,e];rfl))
  obtain⟨b,off,rfl,ap,ab⟩:=h.resolve_left Y;obtain⟨b',ac,rfl,ak,O⟩:=X.resolve_left aa;have H2:=hid ab;have ai:=hid O;have HX:=hid hx;have HY:=hid hy;have HL:=hid D;obtain⟨r,hr⟩: ∃r,decide (xs=o)=r:=⟨_,rfl⟩;rw[hr];have HR:=hid hr;clear h X ab O G I hx hy Y aa hr;go_enter Tryz.func77,Tryz.ntmps77
  go_wp2_with fail
  go_loopw [5] (fun i wr=> ∃(k n:Nat),i= .int .i64 k/\k<=xs.length/\wr=w.drewN n/\Hid (∀j,j<k->qo xs j=qo o j)) (fun i _=>xs.length - (intOf i).toNat)
  case atStart=>exact⟨0,0,rfl,Nat.zero_le _,rfl,hid (fun j Z=>absurd Z (Nat.not_lt_zero _))⟩
  case round=>
    obtain⟨k,n,rfl,hk,rfl,HP⟩:=hrel;by_cases ah:k<xs.length
    · have e1:w.cell? ⟨b,off+k,none⟩=some (.int .u8 (qo xs k)):=H2.out k ah
      have e2:w.cell? ⟨b',ac+k,none⟩=some (.int .u8 (qo o k)):=ai.out k (by omega);obtain⟨zx,S⟩:=Ex (qo xs k);obtain⟨zy,J⟩:=Ex (qo o k);rw[S]at e1;rw[J]at e2;have V:=hid (show qo xs k=zx/\qo o k=zy from⟨S,J⟩);clear S J;obtain⟨q,U⟩: ∃q,(zx != zy)=q:=⟨_,rfl⟩
      cases q
      case false=>
        go_wp2
        go_quiet (fail)
        go_wp2
        exact⟨⟨k+1,n+nq,by go_num,by omega,rfl,hid (fun j Z=>by
          rcases Nat.lt_or_ge j k with h|h
          · exact HP.out j h
          · obtain rfl:j=k:=by omega
            rw[V.out.1,V.out.2];simpa using U)⟩,by simp[intOf];omega⟩
      case true=>
        obtain rfl:r=false:=by
          rw[<-HR.out,decide_eq_false];rintro rfl
          rw[bne_iff_ne]at U;exact U (V.out.1.symm.trans V.out.2)
        go_wp2
        go_quiet (fail)
        go_wp2
        go_ret
        exact⟨rfl,n+nq,by rw[World.drewN_drewN]⟩
    · obtain rfl:k=xs.length:=by omega
      obtain rfl:r=true:=by
        rw[<-HR.out,decide_eq_true];exact qiS HL.out (fun j Z=>HP.out j Z)
      go_wp2
      go_ret
      exact⟨rfl,n,rfl⟩
end Go.Proofs.YtahenngmaoellaaGreat
namespace Go.Proofs.YtahenngmaoellaaGreat
open Go.ChangeShapes Go.WideShapes Go.ChangeAt Go.RowKit Go.Joins Go.Shelf Go.Maps Go.Deep
open Go.Lib (hid)
variable{H:Type}{base fuel:Nat}{o:Bool}{r:Reach}{v:Value}
theorem qfC {H:Type}{d:DataW H}: ∀{l:List (DataW H)},d∈l->Rows.uptoBulk d<=Rows.uptoBulkAll l
 | x::r,h=>by
  simp only[Rows.uptoBulkAll];rcases List.mem_cons.1 h with rfl|h
  ·omega
  ·have:=qfC h;omega
theorem qjj (d:DataW H):1<=Rows.uptoBulk d:=by
 cases d with
 | lit l=>cases l<;>simp[Rows.uptoBulk]
 | _=>simp[Rows.uptoBulk]
theorem qfD {H:Type}: ∀(l:List (DataW H)),l.length<=Rows.uptoBulkAll l
 | []=>Nat.zero_le _
 | x::r=>by
  have:=qfD r
  have:=qjj x
  simp only[Rows.uptoBulkAll,List.length_cons];omega
theorem Jb {enc:TypeId×Value->H}{w:World}{G:Bool}{c:Value}{x:DataW H×List MemPlace}
  (h:DataW.trod enc Tryz.prog w base (fun _=>true) G fuel 24 [c]=some x) (S: ∀p∈x.2,p.block<w.heap.size):
  ∃zs,Hold w c zs/\zs.length<=Rows.uptoBulk x.1:=by
 rcases open_ints Tryz.underlying24 Tryz.underlying5 qjh h with⟨o,D⟩|⟨a,len,I,zs,o,hb,hl,V,X,D,r,O⟩
 ·simp only[List.cons.injEq,and_true]at o;subst o;exact⟨[],Hold.nil w,Nat.zero_le _⟩
 ·simp only[List.cons.injEq,and_true]at o;subst o;simp at X
  have q:(zs.take len).length=len:=by rw[List.length_take];omega
  refine⟨zs.take len,⟨fun z U=>bounds_u8 (O z (List.mem_of_mem_take U)),.inr ⟨a,I,by rw[q],by omega,V,?_⟩⟩,?_⟩
  ·by_cases Y:len=0
   ·exact .inl (by rw[Y];rfl)
   ·obtain⟨b,off,rfl,J⟩:=ints_at r (by omega);refine .inr ⟨b,off,rfl,?_,?_⟩
    ·have Z:MemPlace.cell b off∈x.2:=by
      rw[D];simp only[MemPlace.row];exact List.mem_map.2 ⟨0,by simp;omega,by simp⟩
     exact S _ Z
    ·intro i hi;rw[q]at hi;rw[J i (by omega)];unfold qo;simp[hi]
  ·rw[D];simp only[Rows.uptoBulk];have:=qfD (lits (H:=H) .u8 (zs.take len))
   have e:(lits (H:=H) .u8 (zs.take len)).length=(zs.take len).length:=by simp[lits]
   omega
structure TreeH (w:World)(t:TreeV)(kz z1 z2:List Int):Prop where
 k:Hold w (.slice t.ka t.kl t.kc) kz
 s:Hold w (.slice t.sa t.sl t.sc) z1
 p:Hold w (.slice t.pa t.pl t.pc) z2
theorem qfT {enc:TypeId×Value->H}{w:World}{cs:List Value}{x:DataW H×List MemPlace}
  (h:DataW.trod enc Tryz.prog w base (fun _=>true) o fuel 26 cs=some x) (ac: ∀p∈x.2,p.block<w.heap.size):
  ∃t kz z1 z2,TreeV.val t= .agg cs.toArray/\(0<=t.l/\t.l<=4294967295)/\TreeH w t kz z1 z2/\kz.length<=Rows.uptoBulk x.1/\z1.length<=Rows.uptoBulk x.1/\z2.length<=Rows.uptoBulk x.1:=by
 obtain⟨xs,n,_,hx,aa,ab,D⟩:=DataW.trod_struct Tryz.underlying26 h;rw[qgL]at aa;obtain⟨O,c1,c2,r,I,G,S,q,J,rfl⟩:=qkg aa;obtain⟨y0,y1,y2,y3,y4,y5,U,X,V,rfl⟩:=qkg (l:=xs) (by rw[ab];rfl);have g0:DataW.trod enc Tryz.prog w base (fun _=>true) o n 22 [O]=some y0:=by
  have g:DataW.trod enc Tryz.prog w base (fun _=>true) o n 22 (([O,c1,c2,r,I,G,S,q,J].drop 0).take (Tryz.prog.cellsOf 22))=some y0:=D 0 _ rfl;rw[qgP]at g;exact g
 have g1:DataW.trod enc Tryz.prog w base (fun _=>true) o n 3 [c1]=some y1:=by
  have g:DataW.trod enc Tryz.prog w base (fun _=>true) o n 3 (([O,c1,c2,r,I,G,S,q,J].drop 1).take (Tryz.prog.cellsOf 3))=some y1:=D 1 _ rfl;rw[Ji]at g;exact g
 have g2:DataW.trod enc Tryz.prog w base (fun _=>true) o n 3 [c2]=some y2:=by
  have g:DataW.trod enc Tryz.prog w base (fun _=>true) o n 3 (([O,c1,c2,r,I,G,S,q,J].drop 2).take (Tryz.prog.cellsOf 3))=some y2:=D 2 _ rfl;rw[Ji]at g;exact g
 have g3:DataW.trod enc Tryz.prog w base (fun _=>true) o n 3 [r]=some y3:=by
  have g:DataW.trod enc Tryz.prog w base (fun _=>true) o n 3 (([O,c1,c2,r,I,G,S,q,J].drop 3).take (Tryz.prog.cellsOf 3))=some y3:=D 3 _ rfl;rw[Ji]at g;exact g
 have g4:DataW.trod enc Tryz.prog w base (fun _=>true) o n 23 [I]=some y4:=by
  have g:DataW.trod enc Tryz.prog w base (fun _=>true) o n 23 (([O,c1,c2,r,I,G,S,q,J].drop 4).take (Tryz.prog.cellsOf 23))=some y4:=D 4 _ rfl;rw[qia]at g;exact g
 have g5:DataW.trod enc Tryz.prog w base (fun _=>true) o n 3 [G]=some y5:=by
  have g:DataW.trod enc Tryz.prog w base (fun _=>true) o n 3 (([O,c1,c2,r,I,G,S,q,J].drop 5).take (Tryz.prog.cellsOf 3))=some y5:=D 5 _ rfl;rw[Ji]at g;exact g
 have g6:DataW.trod enc Tryz.prog w base (fun _=>true) o n 24 [S]=some U:=by
  have g:DataW.trod enc Tryz.prog w base (fun _=>true) o n 24 (([O,c1,c2,r,I,G,S,q,J].drop 6).take (Tryz.prog.cellsOf 24))=some U:=D 6 _ rfl;rw[jL]at g;exact g
 have g7:DataW.trod enc Tryz.prog w base (fun _=>true) o n 24 [q]=some X:=by
  have g:DataW.trod enc Tryz.prog w base (fun _=>true) o n 24 (([O,c1,c2,r,I,G,S,q,J].drop 7).take (Tryz.prog.cellsOf 24))=some X:=D 7 _ rfl;rw[jL]at g;exact g
 have g8:DataW.trod enc Tryz.prog w base (fun _=>true) o n 24 [J]=some V:=by
  have g:DataW.trod enc Tryz.prog w base (fun _=>true) o n 24 (([O,c1,c2,r,I,G,S,q,J].drop 8).take (Tryz.prog.cellsOf 24))=some V:=D 8 _ rfl;rw[jL]at g;exact g
 clear D;obtain⟨k,e0, -,wk⟩:=DataW.trod_int Tryz.underlying22 g0;obtain⟨d,e1, -,wd⟩:=DataW.trod_int Tryz.underlying3 g1;obtain⟨f,e2, -,wf⟩:=DataW.trod_int Tryz.underlying3 g2;obtain⟨p,e3, -,wp⟩:=DataW.trod_int Tryz.underlying3 g3;obtain⟨l,e4, -,wl⟩:=DataW.trod_int Tryz.underlying23 g4;obtain⟨i,e5, -,wi⟩:=DataW.trod_int Tryz.underlying3 g5;have Y: ∀y∈[y0,y1,y2,y3,y4,y5,U,X,V],∀p∈y.2,p.block<w.heap.size:=fun y hy p Y=>ac p (by rw[hx];exact List.mem_flatMap.2 ⟨y,hy,Y⟩)
 obtain⟨kz,hk,lk⟩:=Jb g6 (Y U (by simp));obtain⟨z1,hs,ls⟩:=Jb g7 (Y X (by simp));obtain⟨z2,hq,lq⟩:=Jb g8 (Y V (by simp));have Z: ∀y∈[y0,y1,y2,y3,y4,y5,U,X,V],Rows.uptoBulk y.1<=Rows.uptoBulk x.1:=fun y hy=>by
  rw[hx];simp only[Rows.uptoBulk];have:=qfC (d:=y.1) (l:=[y0,y1,y2,y3,y4,y5,U,X,V].map (·.1)) (List.mem_map.2 ⟨y,hy,rfl⟩)
  omega
 have b6:=Z U (by simp);have b7:=Z X (by simp);have b8:=Z V (by simp);obtain⟨ka,kc,rfl, -, -⟩:=id hk.slice;obtain⟨sa,sc,rfl, -, -⟩:=id hs.slice;obtain⟨pa,pc,rfl, -, -⟩:=id hq.slice;simp only[List.cons.injEq,and_true]at e0 e1 e2 e3 e4 e5;subst e0 e1 e2 e3 e4 e5;exact⟨⟨k,d,f,p,l,i,ka,kz.length,kc,sa,z1.length,sc,pa,z2.length,pc⟩,kz,z1,z2,rfl,bounds_u32 wl,⟨hk,hs,hq⟩,by omega,by omega,by omega⟩
theorem qgq {enc:TypeId×Value->H}{w:World}{I:Nat}{d:DataW H}{q:List MemPlace}
  (O:Value.okWide Tryz.prog w r I 26 v) (h:DataW.Trod enc Tryz.prog w base (fun _=>true) o 26 v d q) (D: ∀p∈q,p.block<w.heap.size):
  ∃t kz z1 z2,v=TreeV.val t/\(0<=t.l/\t.l<=4294967295)/\TreeH w t kz z1 z2/\kz.length<=Rows.uptoBulk d/\z1.length<=Rows.uptoBulk d/\z2.length<=Rows.uptoBulk d:=by
 obtain⟨cs,rfl,S⟩:=okWide_struct Tryz.underlying26 O;obtain⟨fuel,G⟩:=h;obtain⟨t,kz,z1,z2,e,J⟩:=qfT G D;exact⟨t,kz,z1,z2,by rw[e];rfl,J⟩
theorem qe7 {enc:TypeId×Value->H}{w:World}{J:Nat}{q:Bool}{d:DataW H}{D:List MemPlace}
  (O:Value.okWide Tryz.prog w r J 24 v) (h:DataW.Trod enc Tryz.prog w base (fun _=>true) q 24 v d D) (G: ∀p∈D,p.block<w.heap.size):
  ∃zs,Hold w v zs/\zs.length<=Rows.uptoBulk d:=by
 obtain⟨fuel,I⟩:=h;obtain⟨o,n,c,rfl⟩:=okWide_slice Tryz.underlying24 O;exact Jb I G
