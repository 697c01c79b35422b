/- The leaves' calls and outputs, by the reference. No condition. -/
import Derived.Test.YthjoojnlnlmljaaGreatG30
import Derived.Test.YthjoojnlnlmljaaGreatG32
set_option linter.all false
set_option maxRecDepth 100000
set_option maxHeartbeats 8000000
namespace Go.Proofs.YthjoojnlnlmljaaGreat
open Go.ChangeShapes Go.WideShapes Go.ChangeAt Go.RowKit Go.Joins Go.Shelf Go.Maps
attribute [local go_sem] Oper.semAt_some
theorem qhK {w:World}{a:Option Addr}{n c o q:Nat}{zs:List Int}(h:Hold w (.slice a n c) zs)(h1:o≤q)(U:q≤zs.length):Hold w (.slice (if c=o then a else a.map (·.add o)) (q - o) (c - o)) ((zs.drop o).take (q - o)):=by
 refine⟨fun z X=>h.1 z (List.mem_of_mem_drop (List.mem_of_mem_take X)),?_⟩;have G:((zs.drop o).take (q - o)).length=q - o:=by simp;omega
 rcases h.2 with⟨rfl,e⟩|⟨O,Y,e,Z,k2,D⟩
 ·simp only[Value.slice.injEq]at e;obtain⟨rfl, -,rfl⟩:=e;simp only[List.length_nil]at U;exact .inl ⟨by simp,by rw[show q - o=0 by omega,Nat.zero_sub];cases o<;>rfl⟩
 ·simp only[Value.slice.injEq]at e;obtain⟨rfl, -,rfl⟩:=e;by_cases J:c=o
  ·rw[if_pos J];exact .inr ⟨O,c - o,by rw[G],by rw[G];omega,by omega,.inl (List.eq_nil_of_length_eq_zero (by omega))⟩
  ·rw[if_neg J];refine .inr ⟨O.add o,c - o,by rw[G];rfl,by rw[G];omega,by omega,?_⟩;by_cases I:(zs.drop o).take (q - o)=[]
   ·exact .inl I
   rcases D with D|⟨b,off,rfl,D,V⟩
   ·rw[D]at I;simp at I
   ·refine .inr ⟨b,off+o,Go.WideShapes.add_plain _ _ _,D,fun i q=>?_⟩;rw[G]at q;rw[show off+o+i=off+(o+i) by omega,V (o+i) (by omega)];simp[qr,Lg,List.getElem?_take,List.getElem?_drop,q]
theorem zJ {n:Nat}(zs:List Int)(q:1≤n):(yp n zs).length=lvs zs.length n:=by
 unfold yp lvs;split
 ·rename_i h;subst h;simp[qY]
 ·rename_i h;have o:=List.length_pos_iff.2 h;rw[zT];have:=Z7 (d:=n) (show 1≤zs.length from o)
  omega
theorem qgI {t:TreeV}{zs:List Int}(V:t.err zs.length=0)(D:1≤t.ln){i:Nat}(q:i<(yp t.ln zs).length):
  t.there zs.length ((0:Nat):Int) i∧ ∃a b,t.spot zs.length 0 i=⟨0,i,a,b,decide (i+1=(yp t.ln zs).length),false⟩∧a≤b∧b≤zs.length∧qQ (yp t.ln zs) i=(zs.drop a).take (b - a):=by
 have O:=qM V;have I:=zJ zs D;have G:=O.first
 have Z:=O.len;refine⟨⟨by omega,by show 0<_;omega,by show i<nth _ 0;rw[G];omega⟩,?_⟩;unfold TreeV.spot Qv;rw[if_neg (by omega)];simp only[if_true];have o:qQ (yp t.ln zs) i=(zs.drop (i*t.ln)).take t.ln:=by
  unfold yp at q⊢;split
  ·rename_i h;subst h;have:i=0:=by simp at q;omega
   subst this;simp[qQ]
  ·rename_i h;rw[if_neg h,zT]at q;simp[qQ,qbo,qcl,Lg,List.getElem?_map,q]
 have J:i*t.ln≤zs.length:=qdd D (by omega);by_cases h:i=nth (t.rowsOf zs.length) 0 - 1
 ·rw[if_pos h];refine⟨i*t.ln,zs.length,?_,J,Nat.le_refl _,?_⟩
  ·rw[decide_eq_true (by rw[G]at h;omega)]
  ·rw[o];have hd:(zs.drop (i*t.ln)).length=zs.length - i*t.ln:=by simp
   have Y:zs.length - i*t.ln≤t.ln:=by
    have X:qY zs.length t.ln≤i+1:=by
     rw[G]at h;unfold lvs at h I;omega
    have:=qaZ D X
    rw[Nat.add_mul,Nat.one_mul]at this;omega
   rw[List.take_of_length_le (by omega),List.take_of_length_le (by omega)]
 ·rw[if_neg h];have U:i+1<lvs zs.length t.ln:=by rw[G]at h;omega
  refine⟨i*t.ln,(i+1)*t.ln,?_,Nat.mul_le_mul_right _ (by omega),qdd D U,?_⟩
  ·rw[decide_eq_false (by omega)]
  ·rw[o,Nat.add_mul,Nat.one_mul,Nat.add_sub_cancel_left]
theorem qe9 {t:TreeV}{kz z1 z2:List Int}{w:World}(h:TreeOk t kz z1 z2 w){row at_:Nat}(hr:row≤255)(X:at_<281474976710656)(o q:Bool)(ds:List Int)(G D I:Value)(W:World)(b:Nat)
  (Y:W.ownsRow b 5 1 D (mB t.big) ((t.blk z1 z2 row at_).map qt)) (J:Hold W I (Z1 row kz)) (U:Hold W G ds) (hl:ds.length≤1073741824):
  Calls Tryz.prog 85 #[.agg (Yb t.k D I o (t.outN q) G)] W fun e w'=> ∃u,e= .returned (.tuple #[u,.int .i64 0])∧OwnB W.heap.size w' u (t.node kz z1 z2 row at_ o q ds)∧Below W.heap.size W w':=by
 obtain⟨h1,O,V,h4⟩:=h.okD hr X;rw[←yQ h.v];have h5:=h4 q;refine(j7 t.big _ _ ds o _ D I G W (Qq Y V) J U (by omega) h1 O (by omega)).mono ?_;rintro e w' ⟨⟨u,rfl,Z⟩,hb⟩
 exact⟨u,rfl,⟨yG t kz z1 z2 row at_ o q ds,Z⟩,hb⟩
theorem qix {t:TreeV}{kz z1 z2:List Int}{w W:World}(h:TreeOk t kz z1 z2 w)(row:Nat)(o:Below w.heap.size w W)(B:Nat):KeepH w B W (qdi row (.slice t.ka t.kl t.kc)) (Z1 row kz)∧ ∃a n c,qdi row (.slice t.ka t.kl t.kc)= .slice a n c:=by
 unfold qdi Z1;split
 ·exact⟨.inr ⟨h.k,o⟩,_,_,_,rfl⟩
 ·exact⟨.inl ⟨fun _ h=>by simp at h,.inl ⟨rfl,rfl⟩⟩,_,_,_,rfl⟩
end Go.Proofs.YthjoojnlnlmljaaGreat
