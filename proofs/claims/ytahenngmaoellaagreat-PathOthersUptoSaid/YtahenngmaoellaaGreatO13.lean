/- Lemmas. No condition. -/
import Derived.Test.YtahenngmaoellaaGreatO11
import Derived.Test.YtahenngmaoellaaGreatO12
set_option linter.all false
set_option maxRecDepth 100000
set_option maxHeartbeats 0
namespace Go.Proofs.YtahenngmaoellaaGreat
open Go.ChangeShapes Go.WideShapes Go.ChangeAt Go.RowKit Go.Joins Go.Shelf Go.Maps
open Go.Lib (hid)
attribute [local go_sem] Oper.semAt_some
structure UnV where
  total:Nat
  leaf:Nat
  steps:List Qd
  err:Int
def unF (t:TreeV)(zs:List Int):UnV:=
  if t.validE≠0 then⟨0,0,[],t.validE⟩ else if zs.length<16 then⟨0,0,[],3⟩
  else if t.spotE (qO zs 0 8).toNat 0 (qO zs 8 8).toNat≠0 then⟨0,0,[],t.spotE (qO zs 0 8).toNat 0 (qO zs 8 8).toNat⟩
  else if zs.length - 16<QJ t (qO zs 0 8).toNat (qO zs 8 8).toNat ((t.rowsOf (qO zs 0 8).toNat).length - 1)*t.i.toNat then⟨0,0,[],3⟩
  else if QJ t (qO zs 0 8).toNat (qO zs 8 8).toNat ((t.rowsOf (qO zs 0 8).toNat).length - 1)*t.i.toNat<zs.length - 16 then⟨0,0,[],9⟩
  else⟨(qO zs 0 8).toNat,(qO zs 8 8).toNat,unL t (qO zs 0 8).toNat (qO zs 8 8).toNat t.i.toNat zs ((t.rowsOf (qO zs 0 8).toNat).length - 1),0⟩
def qj7 (w:World)(p:Value)(e:Int)(F:UnV):Prop:=e=F.err/\ ∃u,p=Q3 F.total F.leaf u/\StepsAt w u F.steps
theorem zu (w:World):StepsAt w (.slice none 0 0) []:=⟨none,0,fun _=> .slice none 0 0,fun _=> .slice none 0 0,rfl,fun _=>rfl,.inl rfl⟩
theorem qjC {t:TreeV}(hl:0<=t.l/\t.l<=4294967295){zs:List Int}(X: ∀z∈zs,0<=z/\z<=255){f:FuncId}{v:Value}{w:World}
    (aa:t.validE≠0->Calls Tryz.prog f #[t.val,v] w fun r w'=>r= .returned (.tuple #[Q3 0 0 (.slice none 0 0),.int .i64 t.validE])/\Below w.heap.size w w')
    (Z:t.validE=0->zs.length<16->Calls Tryz.prog f #[t.val,v] w fun r w'=>r= .returned (.tuple #[Q3 0 0 (.slice none 0 0),.int .i64 3])/\Below w.heap.size w w')
    (Y: ∀(total leaf i L m:Nat) (o:World->Value->Int->Prop),t.validE=0->t.i=(i:Int)->1<=i->i<=64->(total:Int)<=18446744073709551615->qO zs 0 8=(total:Int)->qO zs 8 8=(leaf:Int)->zs.length=L+16->(t.rowsOf total).length - 1=m->
      (Hid (t.spotE total 0 leaf≠0-> ∀w',o w' (Q3 0 0 (.slice none 0 0)) (t.spotE total 0 leaf)))->
      (Hid (t.spotE total 0 leaf=0->L<QJ t total leaf m*i-> ∀w',o w' (Q3 0 0 (.slice none 0 0)) 3))->
      (Hid (t.spotE total 0 leaf=0->QJ t total leaf m*i<L-> ∀w',o w' (Q3 0 0 (.slice none 0 0)) 9))->
      (Hid (t.spotE total 0 leaf=0->QJ t total leaf m*i=L-> ∀w' u,StepsAt w' u (unL t total leaf i zs m)->o w' (Q3 total leaf u) 0))->
      Calls Tryz.prog f #[t.val,v] w fun r w'=> ∃p e,r= .returned (.tuple #[p,.int .i64 e])/\o w' p e/\Below w.heap.size w w'):
    Calls Tryz.prog f #[t.val,v] w fun r w'=> ∃p e,r= .returned (.tuple #[p,.int .i64 e])/\qj7 w' p e (unF t zs)/\Below w.heap.size w w':=by
  by_cases D:t.validE=0
  · by_cases S:zs.length<16
    · refine(Z D S).mono ?_
      rintro r w' ⟨rfl,V⟩
      refine⟨_,_,rfl,?_,V⟩;unfold unF;rw[if_neg (by simp[D]),if_pos S];exact⟨rfl,_,rfl,zu _⟩
    · obtain⟨b1,b2⟩:=Qz X (at_:=0) 8 (by omega)
      obtain⟨b3,b4⟩:=Qz X (at_:=8) 8 (by omega);simp only[Nat.reduceMul,Int.reducePow]at b2 b4;have G:=qn D;have hi:1<=t.i/\t.i<=64:=by
        refine⟨by omega,?_⟩;rcases G.1 with e|e<;>rw[e]at G<;>simp[Zo]at G<;>omega
      obtain⟨T,U⟩: ∃T:Nat,qO zs 0 8=(T:Int):=⟨(qO zs 0 8).toNat,by omega⟩;obtain⟨q,O⟩: ∃T:Nat,qO zs 8 8=(T:Int):=⟨(qO zs 8 8).toNat,by omega⟩;obtain⟨i,J⟩: ∃i:Nat,t.i=(i:Int):=⟨t.i.toNat,by omega⟩;obtain⟨L,hL⟩: ∃L,zs.length=L+16:=⟨zs.length - 16,by omega⟩;have e1:(qO zs 0 8).toNat=T:=by rw[U];rfl
      have e2:(qO zs 8 8).toNat=q:=by rw[O];rfl
      have e3:t.i.toNat=i:=by rw[J];rfl
      have e4:zs.length - 16=L:=by omega
      have I:unF t zs=if t.spotE T 0 q≠0 then⟨0,0,[],t.spotE T 0 q⟩ else if L<QJ t T q ((t.rowsOf T).length - 1)*i then⟨0,0,[],3⟩ else if QJ t T q ((t.rowsOf T).length - 1)*i<L then⟨0,0,[],9⟩ else⟨T,q,unL t T q i zs ((t.rowsOf T).length - 1),0⟩:=by
        unfold unF;rw[if_neg (by simp[D]),if_neg S,e1,e2,e3,e4]
      rw[U]at b2;refine Y T q i L _ (fun w' p e=>qj7 w' p e (unF t zs)) D J (by omega) (by omega) (by omega) U O hL rfl (hid fun h w'=>?_) (hid fun h k w'=>?_) (hid fun h k w'=>?_) (hid fun h k w' u hu=>?_)
      · rw[I,if_pos h];exact⟨rfl,_,rfl,zu _⟩
      · rw[I,if_neg (by simp[h]),if_pos k];exact⟨rfl,_,rfl,zu _⟩
      · rw[I,if_neg (by simp[h]),if_neg (by omega),if_pos k];exact⟨rfl,_,rfl,zu _⟩
      · rw[I,if_neg (by simp[h]),if_neg (by omega),if_neg (by omega)];exact⟨rfl,u,rfl,hu⟩
  · refine(aa D).mono ?_
    rintro r w' ⟨rfl,V⟩
    refine⟨_,_,rfl,?_,V⟩;unfold unF;rw[if_pos D];exact⟨rfl,_,rfl,zu _⟩
theorem qfQ (t:TreeV)(I:0<=t.l/\t.l<=4294967295)(zs:List Int)(v:Value)(G: ∀z∈zs,0<=z/\z<=255)(hm:zs.length<=134217728)(q: ∀a n c,v= .slice a n c->n<=c)(w:World)(J:Holds8 w v zs):
    Calls Tryz.prog 57 #[t.val,v] w fun r w'=> ∃p e,r= .returned (.tuple #[p,.int .i64 e])/\qj7 w' p e (unF t zs)/\Below w.heap.size w w':=by
  refine qjC I G (fun h=>qdF t v (by rw[bne_iff_ne];exact h) w) (fun h k=>?_) (fun total leaf i L m o h1 X O h4 h5 Y h7 U S V P3 P9 Z=>qhq t I v zs total leaf i L h1 X O h4 h5 Y h7 G U (by omega) m S o V P3 P9 Z w J q);obtain⟨a,D,rfl, -⟩:=J;exact qdG t a zs.length D h k w
