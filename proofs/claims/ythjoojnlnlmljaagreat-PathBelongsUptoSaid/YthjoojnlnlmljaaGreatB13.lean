/- What Unpack answers, of every tree and bytes, by the program; the law's walk, the reference's answer handed in. No condition. -/
import Derived.Test.YthjoojnlnlmljaaGreatB11
import Derived.Test.YthjoojnlnlmljaaGreatB12
set_option linter.all false
set_option maxRecDepth 100000
set_option maxHeartbeats 8000000
namespace Go.Proofs.YthjoojnlnlmljaaGreat
open Go.ChangeShapes Go.WideShapes Go.ChangeAt Go.RowKit Go.Joins Go.Shelf Go.Maps
open Go.Lib (hid)
attribute [local go_sem] Oper.semAt_some
structure UnV where
  total:Nat
  leaf:Nat
  steps:List Qh
  err:Int
def unF (t:TreeV)(zs:List Int):UnV:=
  if t.validE≠0 then⟨0,0,[],t.validE⟩ else if zs.length<16 then⟨0,0,[],3⟩
  else if t.spotE (qO zs 0 8).toNat 0 (qO zs 8 8).toNat≠0 then⟨0,0,[],t.spotE (qO zs 0 8).toNat 0 (qO zs 8 8).toNat⟩
  else if zs.length - 16<QI t (qO zs 0 8).toNat (qO zs 8 8).toNat ((t.rowsOf (qO zs 0 8).toNat).length - 1)*t.i.toNat then⟨0,0,[],3⟩
  else if QI t (qO zs 0 8).toNat (qO zs 8 8).toNat ((t.rowsOf (qO zs 0 8).toNat).length - 1)*t.i.toNat<zs.length - 16 then⟨0,0,[],9⟩
  else⟨(qO zs 0 8).toNat,(qO zs 8 8).toNat,unL t (qO zs 0 8).toNat (qO zs 8 8).toNat t.i.toNat zs ((t.rowsOf (qO zs 0 8).toNat).length - 1),0⟩
def qjK (w:World)(p:Value)(e:Int)(F:UnV):Prop:=e=F.err∧ ∃u,p=QZ F.total F.leaf u∧StepsAt w u F.steps
theorem zk (w:World):StepsAt w (.slice none 0 0) []:=⟨none,0,fun _=> .slice none 0 0,fun _=> .slice none 0 0,rfl,fun _=>rfl,.inl rfl⟩
theorem qjf {t:TreeV}(hl:0≤t.l∧t.l≤4294967295){zs:List Int}(Y: ∀z∈zs,0≤z∧z≤255){f:FuncId}{v:Value}{w:World}
    (Z:t.validE≠0→Calls Tryz.prog f #[t.val,v] w fun r w'=>r= .returned (.tuple #[QZ 0 0 (.slice none 0 0),.int .i64 t.validE])∧Below w.heap.size w w')
    (aa:t.validE=0→zs.length<16→Calls Tryz.prog f #[t.val,v] w fun r w'=>r= .returned (.tuple #[QZ 0 0 (.slice none 0 0),.int .i64 3])∧Below w.heap.size w w')
    (X: ∀(total leaf i L m:Nat) (o:World→Value→Int→Prop),t.validE=0→t.i=(i:Int)→1≤i→i≤64→(total:Int)≤18446744073709551615→qO zs 0 8=(total:Int)→qO zs 8 8=(leaf:Int)→zs.length=L+16→(t.rowsOf total).length - 1=m→
      (Hid (t.spotE total 0 leaf≠0→ ∀w',o w' (QZ 0 0 (.slice none 0 0)) (t.spotE total 0 leaf)))→
      (Hid (t.spotE total 0 leaf=0→L<QI t total leaf m*i→ ∀w',o w' (QZ 0 0 (.slice none 0 0)) 3))→
      (Hid (t.spotE total 0 leaf=0→QI t total leaf m*i<L→ ∀w',o w' (QZ 0 0 (.slice none 0 0)) 9))→
      (Hid (t.spotE total 0 leaf=0→QI t total leaf m*i=L→ ∀w' u,StepsAt w' u (unL t total leaf i zs m)→o w' (QZ total leaf u) 0))→
      Calls Tryz.prog f #[t.val,v] w fun r w'=> ∃p e,r= .returned (.tuple #[p,.int .i64 e])∧o w' p e∧Below w.heap.size w w'):
    Calls Tryz.prog f #[t.val,v] w fun r w'=> ∃p e,r= .returned (.tuple #[p,.int .i64 e])∧qjK w' p e (unF t zs)∧Below w.heap.size w w':=by
  by_cases D:t.validE=0
  · by_cases U:zs.length<16
    · refine(aa D U).mono ?_
      rintro r w' ⟨rfl,V⟩
      refine⟨_,_,rfl,?_,V⟩;unfold unF;rw[if_neg (by simp[D]),if_pos U];exact⟨rfl,_,rfl,zk _⟩
    · obtain⟨b1,b2⟩:=Qy Y (at_:=0) 8 (by omega)
      obtain⟨b3,b4⟩:=Qy Y (at_:=8) 8 (by omega);simp only[Nat.reduceMul,Int.reducePow]at b2 b4;have G:=qn D;have hi:1≤t.i∧t.i≤64:=by
        refine⟨by omega,?_⟩;rcases G.1 with e|e<;>rw[e]at G<;>simp[Zb]at G<;>omega
      obtain⟨T,S⟩: ∃T:Nat,qO zs 0 8=(T:Int):=⟨(qO zs 0 8).toNat,by omega⟩;obtain⟨q,O⟩: ∃T:Nat,qO zs 8 8=(T:Int):=⟨(qO zs 8 8).toNat,by omega⟩;obtain⟨i,J⟩: ∃i:Nat,t.i=(i:Int):=⟨t.i.toNat,by omega⟩;obtain⟨L,hL⟩: ∃L,zs.length=L+16:=⟨zs.length - 16,by omega⟩;have e1:(qO zs 0 8).toNat=T:=by rw[S];rfl
      have e2:(qO zs 8 8).toNat=q:=by rw[O];rfl
      have e3:t.i.toNat=i:=by rw[J];rfl
      have e4:zs.length - 16=L:=by omega
      have I:unF t zs=if t.spotE T 0 q≠0 then⟨0,0,[],t.spotE T 0 q⟩ else if L<QI t T q ((t.rowsOf T).length - 1)*i then⟨0,0,[],3⟩ else if QI t T q ((t.rowsOf T).length - 1)*i<L then⟨0,0,[],9⟩ else⟨T,q,unL t T q i zs ((t.rowsOf T).length - 1),0⟩:=by
        unfold unF;rw[if_neg (by simp[D]),if_neg U,e1,e2,e3,e4]
      rw[S]at b2;refine X T q i L _ (fun w' p e=>qjK w' p e (unF t zs)) D J (by omega) (by omega) (by omega) S O hL rfl (hid fun h w'=>?_) (hid fun h k w'=>?_) (hid fun h k w'=>?_) (hid fun h k w' u hu=>?_)
      · rw[I,if_pos h];exact⟨rfl,_,rfl,zk _⟩
      · rw[I,if_neg (by simp[h]),if_pos k];exact⟨rfl,_,rfl,zk _⟩
      · rw[I,if_neg (by simp[h]),if_neg (by omega),if_pos k];exact⟨rfl,_,rfl,zk _⟩
      · rw[I,if_neg (by simp[h]),if_neg (by omega),if_neg (by omega)];exact⟨rfl,u,rfl,hu⟩
  · refine(Z D).mono ?_
    rintro r w' ⟨rfl,V⟩
    refine⟨_,_,rfl,?_,V⟩;unfold unF;rw[if_pos D];exact⟨rfl,_,rfl,zk _⟩
theorem qfv (t:TreeV)(D:0≤t.l∧t.l≤4294967295)(zs:List Int)(v:Value)(G: ∀z∈zs,0≤z∧z≤255)(hm:zs.length≤134217728)(q: ∀a n c,v= .slice a n c→n≤c)(w:World)(J:Holds8 w v zs):
    Calls Tryz.prog 54 #[t.val,v] w fun r w'=> ∃p e,r= .returned (.tuple #[p,.int .i64 e])∧qjK w' p e (unF t zs)∧Below w.heap.size w w':=by
  refine qjf D G (fun h=>qdp t v (by rw[bne_iff_ne];exact h) w) (fun h k=>?_) (fun total leaf i L m o O V h3 h4 Z h6 h7 S U Y P3 X P0=>qg4 t D v zs total leaf i L O V h3 h4 Z h6 h7 G S (by omega) m U o Y P3 X P0 w J q);obtain⟨a,I,rfl, -⟩:=J;exact qdq t a zs.length I h k w
end Go.Proofs.YthjoojnlnlmljaaGreat
