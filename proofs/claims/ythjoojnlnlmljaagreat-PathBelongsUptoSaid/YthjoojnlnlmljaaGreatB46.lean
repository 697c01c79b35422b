/- What a path leads to, told of all; Check on both sides. No condition. -/
import Derived.Test.YthjoojnlnlmljaaGreatP01
import Derived.Test.YthjoojnlnlmljaaGreatB43
import Derived.Test.YthjoojnlnlmljaaGreatB44
import Derived.Test.YthjoojnlnlmljaaGreatB45
import Derived.Test.YthjoojnlnlmljaaGreatB13
import Derived.Test.YthjoojnlnlmljaaGreatB11
import Derived.Test.YthjoojnlnlmljaaGreatB12
import Derived.Test.YthjoojnlnlmljaaGreatB42
set_option linter.all false
set_option maxRecDepth 100000
set_option maxHeartbeats 8000000
namespace Go.Proofs.YthjoojnlnlmljaaGreat
open Go.ChangeShapes Go.WideShapes Go.ChangeAt Go.RowKit Go.Joins Go.Shelf Go.Maps
open Go.Lib (hid)
attribute [local go_sem] Oper.semAt_some
theorem TreeH.below {w w':World}{t:TreeV}{kz z1 z2:List Int}(h:TreeH w t kz z1 z2)(o:Below w.heap.size w w'):TreeH w' t kz z1 z2:=⟨h.k.below o,h.s.below o,h.p.below o⟩
def TreeV.fitsQ (t:TreeV)(total leaf:Nat)(ss:List Qh)(piece:List Int):Prop:=(piece.length:Int)=((qx t total leaf 0).to_:Int) - ((qx t total leaf 0).frm:Int)∧Zr t.i ((t.rowsOf total).length - 1) (chI t total leaf) (afI t total leaf) ss
open Classical in
noncomputable def TreeV.rootE (t:TreeV)(total leaf:Nat)(ss:List Qh)(piece:List Int):Int:=
 if t.spotE total 0 leaf≠0 then t.spotE total 0 leaf else if t.fitsQ total leaf ss piece then 0 else 4
open Classical in
noncomputable def TreeV.rootD (t:TreeV)(kz z1 z2:List Int)(total leaf:Nat)(ss:List Qh)(piece:List Int):List Int:=
 if t.spotE total 0 leaf=0∧t.fitsQ total leaf ss piece then t.pathR kz z1 z2 total leaf ss piece ((t.rowsOf total).length - 1) else []
noncomputable def TreeV.checkE (t:TreeV)(kz z1 z2:List Int)(total leaf:Nat)(ss:List Qh)(piece root:List Int):Int:=
 if t.rootE total leaf ss piece≠0 then t.rootE total leaf ss piece else if t.rootD kz z1 z2 total leaf ss piece=root then 0 else 110
theorem qeI (b:Nat)(w:World):OwnB b w (.slice none 0 0) []:=⟨(fun a o=>by cases o),.inl ⟨rfl,rfl⟩⟩
theorem qaQ {t:TreeV}{kz z1 z2:List Int}{total leaf:Nat}{ss:List Qh}{piece:List Int}{b:Nat}{w:World}{v:Value}{e:Int}(h:J9 t kz z1 z2 total leaf ss piece b w v e):e=t.rootE total leaf ss piece∧OwnB b w v (t.rootD kz z1 z2 total leaf ss piece):=by
 unfold TreeV.rootE TreeV.rootD TreeV.fitsQ;rcases h with⟨o,rfl,rfl⟩|⟨o,q,rfl,rfl⟩|⟨o,q,rfl,r⟩
 ·rw[if_pos o,if_neg (fun h=>o h.1)];exact⟨rfl,qeI _ _⟩
 ·rw[if_neg (by simp[o]),if_neg q,if_neg (fun h=>q h.2)];exact⟨rfl,qeI _ _⟩
 ·rw[if_neg (by simp[o]),if_pos q,if_pos ⟨o,q⟩];exact⟨rfl,r⟩
theorem qik (t:TreeV)(kz z1 z2 piece:List Int)(total leaf:Nat)(O:(total:Int)≤18446744073709551615)(q:(leaf:Int)≤18446744073709551615)(I:0≤t.l∧t.l≤4294967295)(u D:Value)(ss:List Qh)(w:World)(h:TreeH w t kz z1 z2)(V:StepsAt w u ss)(o:yZ 1048576 ss)(Y:Hold w D piece)(U:piece.length≤1048576):
  Calls Tryz.prog 92 #[t.val,.agg #[.int .u64 total,.int .u64 leaf,u],D] w fun r w'=> ∃v,r= .returned (.tuple #[v,.int .i64 (t.rootE total leaf ss piece)])∧OwnB w.heap.size w' v (t.rootD kz z1 z2 total leaf ss piece)∧Below w.heap.size w w':=by
 by_cases G:t.spotE total 0 leaf=0
 ·have X:t.validE=0:=(zi I O G).2.2.2.2;refine(qjs t kz z1 z2 piece total leaf O q G u D ss w ⟨X,I,h.k,h.s,h.p⟩ V o Y U).mono ?_;rintro r w' ⟨v,e,rfl,S,J⟩
  obtain⟨rfl,o⟩:=qaQ S;exact⟨v,rfl,o,J⟩
 ·refine(qij t I total leaf O G u D w).mono ?_;rintro r w' ⟨rfl,J⟩
  obtain⟨e,o⟩:=qaQ (kz:=kz) (z1:=z1) (z2:=z2) (ss:=ss) (piece:=piece) (b:=w.heap.size) (w:=w') (.inl ⟨G,rfl,rfl⟩);exact⟨_,by rw[←e],o,J⟩
theorem qdf (t:TreeV)(kz z1 z2 piece o:List Int)(total leaf:Nat)(ht:(total:Int)≤18446744073709551615)(ab:(leaf:Int)≤18446744073709551615)(hl:0≤t.l∧t.l≤4294967295)(u pv rv:Value)(ss:List Qh)(w:World)(h:TreeH w t kz z1 z2)(hs:StepsAt w u ss)(ho:yZ 1048576 ss)(hp:Hold w pv piece)(ah:piece.length≤1048576)(hr:Hold w rv o):
  Calls Tryz.prog 55 #[t.val,.agg #[.int .u64 total,.int .u64 leaf,u],pv,rv] w fun r w'=>r= .returned (.int .i64 (t.checkE kz z1 z2 total leaf ss piece o))∧Below w.heap.size w w':=by
 obtain⟨I,q⟩:=Ex w.heap.size;have ad:=hid (fun(W:World) (hb:Below I w W)=>qik t kz z1 z2 piece total leaf ht ab hl u pv ss W (h.below (q▸hb)) (hs.below (q▸hb)) ho (hp.below (q▸hb)) ah);have ag:=hid hr;obtain⟨ra,rc,rfl, -, -⟩:=id hr.slice;obtain⟨pa,pc,rfl, -, -⟩:=id hp.slice;obtain⟨E,O⟩:=Ex (t.rootE total leaf ss piece);obtain⟨D,hD⟩:=Ex (t.rootD kz z1 z2 total leaf ss piece);obtain⟨C,hC⟩:=Ex (t.checkE kz z1 z2 total leaf ss piece o);have af:C=if E≠0 then E else if D=o then 0 else 110:=by rw[←hC];unfold TreeV.checkE;rw[O,hD]
 have U:=hid af;rw[O,hD]at ad;rw[hC];have aj:(0:Int)≤o.length:=by omega
 clear O hD hC af h hs ho hp hr;unfold TreeV.val at*;go_enter Tryz.func55,Tryz.ntmps55
 go_upto_region 1 with(fail)
 refine qm ?_;intro V S;have ac:V.heap[I]? =some (.cells t.c 26 (0,0)):=by rw[S];exact(Bh _ _ _ (by simp;omega)).trans (qe _ _ q.symm)
 have Y:V.heap[I+1]? =some (.cells #[.int .u64 total,.int .u64 leaf,u] 55 (0,0)):=by rw[S];exact qe _ _ (by simp;omega)
 have X:Below I w V:=by rw[S,←q];exact(Br.alloc Nl _).alloc (by simp) _
 have ai:I+1<V.heap.size:=(Ai Y).1;clear S;go_wp2_with (first|(refine L26 I rfl ac ?_)|(refine L55 (I+1) rfl Y ?_))
 refine(ad.out V X).mono ?_;rintro e w2 ⟨v,rfl,hv,ae⟩;have HB:=hid (X.trans (ae.mono (show I≤V.heap.size by omega)));have HV:=hid hv;obtain⟨va,vc,rfl, -, -⟩:=id hv.hold.slice;clear hv ae X ac Y;by_cases O:E=0
 case neg=>
  have hq:(E != 0)=true:=by rw[bne_iff_ne];exact O
  have J:C=E:=by rw[U.out,if_pos O]
  clear O U;go_wp2_with fail
  go_ret
  exact⟨by rw[J];rfl,by rw[q];exact HB.out⟩
 subst O;have aa:=hid (qjo D o _ _ w2 HV.out.hold (ag.out.below (q▸HB.out)));go_wp2_with fail
 refine aa.out.mono ?_;rintro e w3 ⟨rfl,rfl⟩;by_cases G:D=o
 ·have Z:decide (D=o)=true:=decide_eq_true G;have J:C=0:=by rw[U.out,if_neg (by simp),if_pos G]
  rw[Z];clear G Z aa U;go_wp2_with fail
  go_ret
  exact⟨by rw[J];rfl,by rw[q];exact HB.out⟩
 ·have Z:decide (D=o)=false:=decide_eq_false G;have J:C=110:=by rw[U.out,if_neg (by simp),if_neg G]
  rw[Z];clear G Z aa U;go_wp2_with fail
  go_ret
  exact⟨by rw[J];rfl,by rw[q];exact HB.out⟩
end Go.Proofs.YthjoojnlnlmljaaGreat
namespace Go.Proofs.YthjoojnlnlmljaaGreat
open Go.ChangeShapes Go.WideShapes Go.ChangeAt Go.RowKit Go.Joins Go.Shelf Go.Maps
open Go.Lib (hid)
theorem qgn {n:Nat}(r:1≤n)(zs:List Int)(k:Nat):qC (QC n zs) k=(zs.drop (k*n)).take n:=by
 unfold QC;by_cases o:zs=[]
 ·rw[if_pos o,o]
  cases k<;>simp[qC]
 ·rw[if_neg o];by_cases q:k<qP zs.length n
  ·simp[qC,zT,piece,Lg,q]
  ·have D:=mt (Zh (n:=zs.length) (d:=n) (j:=k) r).2 q;rw[List.drop_eq_nil_of_le (by omega)];unfold qC;rw[Lg,List.getElem?_eq_none (by rw[Qv];omega)];simp
theorem qci {t:TreeV}(h:t.validE=0)(D:0≤t.l∧t.l≤4294967295)(kz z1 z2 zs:List Int)(U:zs.length≤4194304){m k:Nat}(J:(t.rowsOf zs.length).length - 1=m)(O:k<m): ∀d∈t.lvlZ kz z1 z2 (t.leafZ kz z1 z2 zs) k,(d.length:Int)=t.i∧ ∀a∈d,0≤a∧a≤255:=by
 have q:=yH h U;have V:=Qc h D kz z1 z2 zs;have o:=qee q kz z1 z2 (Yg h D kz z1 z2 zs) V.2.2;rw[J]at o;have G:t.rtR kz z1 z2 zs k=false:=by
  cases k with
  | zero=>rfl
  | succ r=>
   have:=o.2.2 (r+1) (by omega) O
   rw[Nat.add_sub_cancel]at this;exact this
 rw[TreeV.lvl_is,G];intro d S;obtain⟨i, -,rfl⟩:=List.mem_map.1 S;exact⟨Z1 h ..,fun a I=>yY _ _ _ _ _ _ _ _ _ a I⟩
theorem ZY {t:TreeV}(h:t.validE=0){n leaf:Nat}(D:n≤4194304)(o:leaf<lvs n t.ln):t.spotE n 0 leaf=0:=by
 have q:=yH h D;have r:=qF q;have G:=r.len;unfold TreeV.spotE;rw[if_neg (by simp[q]),if_pos ⟨by omega,by show 0<_;omega,by show leaf<nth (t.rowsOf n) 0;rw[r.first];exact o⟩]
theorem zB {t:TreeV}(h:t.validE=0)(r:0≤t.l∧t.l≤4294967295)(kz z1 z2 zs:List Int)(hn:zs.length≤1048576){leaf m:Nat}(he:t.spotE zs.length 0 leaf=0)(hm:(t.rowsOf zs.length).length - 1=m):
  Zr t.i m (chI t zs.length leaf) (afI t zs.length leaf) (t.stepsZ kz z1 z2 zs leaf m)∧yZ 1048576 (t.stepsZ kz z1 z2 zs leaf m):=by
 have J:=yH h (show zs.length≤4194304 by omega);have G:=qF J;have ae:=G.len;have ac:=G.most;have I:=Qc h r kz z1 z2 zs;have ab:=QK J kz z1 z2 (Yg h r kz z1 z2 zs) I.2.2;obtain⟨X, -,i1,i2, -⟩:=zi r (show(zs.length:Int)≤18446744073709551615 by omega) he;have O:=qn h;have ag:t.pn≤255:=by have:=O.2.2.2.2.2.2.2.1;unfold TreeV.pn;omega
 have D: ∀k,k<m→((t.stepZ kz z1 z2 zs leaf k).1.length:Int)=chI t zs.length leaf k∧((t.stepZ kz z1 z2 zs leaf k).2.length:Int)=afI t zs.length leaf k∧(t.stepZ kz z1 z2 zs leaf k).1.length≤1048576∧(t.stepZ kz z1 z2 zs leaf k).2.length≤1048576∧
   ∀d∈(t.stepZ kz z1 z2 zs leaf k).1++(t.stepZ kz z1 z2 zs leaf k).2,(d.length:Int)=t.i∧ ∀a∈d,0≤a∧a≤255:=fun k S=>by
  have U:=X k (by omega);have Z:=zH (l:=t.ln) (by have:=O.2.2.2.2.2.2.2.2.1;unfold TreeV.ln;omega) G (k:=k+1) (by omega) (by omega) (yU G (Zz r he).2.2.2 (k+1) (by omega));have ad:(qx t zs.length leaf (k+1)).to_≤nth (t.rowsOf zs.length) k:=Z;have af:=ab k (by omega);have hF:=Qo h kz z1 z2 I.1 I.2.2 k;have e1:=U.le;have e2:=U.lt;have h3:=I.2.1;have h4:=hF.2.1;have aa:=qci h r kz z1 z2 zs (by omega) hm S;have V:(t.stepZ kz z1 z2 zs leaf k).1.length=chN t zs.length leaf k:=by
   unfold TreeV.stepZ chN;simp only[List.length_take,List.length_drop];omega
  have Y:(t.stepZ kz z1 z2 zs leaf k).2.length=afN t zs.length leaf k:=by
   unfold TreeV.stepZ afN;simp only[List.length_take,List.length_drop];omega
  refine⟨by rw[V,qd2 U],by rw[Y];rfl,?_,?_,fun d o=>?_⟩
  ·rw[V];unfold chN;omega
  ·rw[Y];unfold afN;omega
  ·refine aa d ?_;rcases List.mem_append.1 o with o|o
   ·exact List.mem_of_mem_drop (List.mem_of_mem_take o)
   ·exact List.mem_of_mem_drop (List.mem_of_mem_take o)
 refine⟨⟨QM ..,fun j hj=>?_⟩,?_,fun s hs=>?_⟩
 ·obtain⟨a1,a2, -, -,q⟩:=D j hj;unfold jD;rw[zC _ _ _ _ _ _ hj];exact⟨a1,a2,fun d o=>(q d o).1⟩
 ·rw[QM];omega
 ·obtain⟨k,S,rfl⟩:=List.mem_map.1 hs;obtain⟨-, -,a3,a4,q⟩:=D k (List.mem_range.1 S);exact⟨⟨a3,fun d o=>⟨by have:=(q d (List.mem_append_left _ o)).1;omega,(q d (List.mem_append_left _ o)).2⟩⟩,⟨a4,fun d o=>⟨by have:=(q d (List.mem_append_right _ o)).1;omega,(q d (List.mem_append_right _ o)).2⟩⟩⟩
theorem qaH {t:TreeV}(h:t.validE=0)(U:0≤t.l∧t.l≤4294967295)(kz z1 z2 zs o:List Int)(S:o.length=zs.length)(hn:zs.length≤1048576){leaf m:Nat}(D:leaf<lvs zs.length t.ln)(G:(t.rowsOf zs.length).length - 1=m)
  (hs: ∀k,k≠leaf→qC (QC t.ln o) k=qC (QC t.ln zs) k):
  t.fitsQ zs.length leaf (t.stepsZ kz z1 z2 zs leaf m) (qC (QC t.ln o) leaf)∧t.rootE zs.length leaf (t.stepsZ kz z1 z2 zs leaf m) (qC (QC t.ln o) leaf)=0∧t.rootD kz z1 z2 zs.length leaf (t.stepsZ kz z1 z2 zs leaf m) (qC (QC t.ln o) leaf)=t.digZ kz z1 z2 o:=by
 have J:=ZY h (show zs.length≤4194304 by omega) D;have V:=yH h (show zs.length≤4194304 by omega);have Y:=qF V;have X:1≤t.ln:=by
  have:=(qn h).2.2.2.2.2.2.2.2.1
  unfold TreeV.ln;omega
 have r:t.fitsQ zs.length leaf (t.stepsZ kz z1 z2 zs leaf m) (qC (QC t.ln o) leaf):=by
  refine⟨?_,by rw[G];exact(zB h U kz z1 z2 zs hn J G).1⟩;rw[qgn X,List.length_take,List.length_drop,S];have q:=Zz U J;have O: ¬(1≤0∧nth (t.rowsOf zs.length) 0=1):=by omega
  unfold qx Qw at*;by_cases I:leaf=nth (t.rowsOf zs.length) 0 - 1
  ·rw[Yl O I]at q⊢;simp only[if_true]at q⊢;rw[Y.first]at I;have:zs.length≤leaf*t.ln+t.ln:=by
    unfold lvs at I;have Z:=j6 (m:=zs.length) (d:=t.ln) (k:=leaf+1) (by omega);by_cases h6:zs.length=0
    ·omega
    ·have h7:qP zs.length t.ln≤leaf+1:=by
      have:=ZD (d:=t.ln) (n:=zs.length) (by omega)
      omega
     have:=Z h7
     rw[Nat.add_mul,Nat.one_mul]at this;exact this
   omega
  ·rw[YI O I]at q⊢;simp only[if_true]at q⊢;rw[Nat.add_mul,Nat.one_mul]at q⊢;omega
 refine⟨r,?_,?_⟩
 ·unfold TreeV.rootE;rw[if_neg (by simp[J]),if_pos r]
 ·unfold TreeV.rootD;rw[if_pos ⟨J,r⟩,G];exact qbh h U kz z1 z2 zs o S (by omega) (by rw[Y.first];exact D) hs m G
theorem qgI {B:Nat}{w:World}{v:Value}{L:List (List Int)}{ds:List Value}(h:DigV B w v L ds):pRowsAt w v L:=by
 rcases h.1.2 with⟨rfl,e⟩|⟨g,o,I,rfl, -⟩
 ·exact⟨none,0,fun _=>undef,by rw[e],fun _=>rfl,.inl (List.eq_nil_of_length_eq_zero e)⟩
 ·refine⟨_,o,fun i=>ds.getD i undef,rfl,(fun e=>by cases e),?_⟩;by_cases r:L.length=0
  ·exact .inl (List.eq_nil_of_length_eq_zero r)
  ·obtain⟨J,G,e, -,q,D⟩:=qdt h.1 (by omega);simp only[Value.slice.injEq,Option.some.injEq,Addr.mk.injEq,and_true,true_and]at e;obtain⟨rfl, -⟩:=e;refine .inr ⟨g,0,rfl,q,fun i hi=>⟨?_,(h.2 i hi).hold.holds8⟩⟩;rw[Nat.zero_add];refine D i _ ?_;have:=h.len
   show ds[i]? =some (ds.getD i undef)
   rw[Lg,List.getElem?_eq_getElem (by omega)];rfl
theorem qhY {B m leaf:Nat}{w:World}{u:Value}{xs:List Value}{S:List (List Value)}{t:TreeV}{kz z1 z2 zs:List Int}(U:w.ownsRow B 69 2 u m xs)(h:ListsV B w xs (t.llZ kz z1 z2 zs leaf m) S):StepsAt w u (t.stepsZ kz z1 z2 zs leaf m):=by
 have X:=TreeV.llZ_length t kz z1 z2 zs leaf m;have o:=QM t kz z1 z2 zs leaf m;rcases U.2 with⟨rfl,e⟩|⟨g,J,r,rfl,Z,D,h3,h4,h5,V⟩
 ·exact⟨none,0,fun _=>undef,fun _=>undef,by rw[o,e],fun _=>rfl,.inl (List.eq_nil_of_length_eq_zero (by omega))⟩
 ·refine⟨_,J,fun i=>xs.getD (i*2) undef,fun i=>xs.getD (i*2+1) undef,by rw[o],(fun e=>by cases e),.inr ⟨g,0,rfl,(Ai D).1,fun i hi=>?_⟩⟩;rw[o]at hi;have Y:=h.lx;have I: ∀j,j<m*2→w.cell? ⟨g,0+j,none⟩=some (xs.getD j undef):=fun j hj=>by
   rw[qd D (0+j),Nat.zero_add];have e:r.toList[j]? =xs[j]? :=by rw[←V,List.getElem?_take,if_pos (by omega)]
   rw[←Array.getElem?_toList,e,Lg,List.getElem?_eq_getElem (by omega)];rfl
  have q:=J7 t kz z1 z2 zs leaf m i hi;rw[zC _ _ _ _ _ _ hi];have O:=qgI (h.each (i*2) (by omega));have G:=qgI (h.each (i*2+1) (by omega));rw[q.1]at O;rw[q.2]at G;exact⟨I _ (by omega),by have:=I (i*2+1) (by omega);rw[show 0+(i*2+1)=0+i*2+1 by omega]at this;exact this,O,G⟩
theorem qbt {zs:List Int}{at_ x:Nat}: ∀k,(∀j,j<k→qp zs (at_+j)=byt x j)→qO zs at_ k=((x%2^(8*k):Nat):Int)
 | 0,_=>by simp[qO,Nat.mod_one]
 | k+1,h=>by
  rw[qO,qbt k (fun j r=>h j (by omega)),h k (by omega)];have q:2^(8*(k+1))=2^(8*k)*256:=by rw[Nat.mul_add,Nat.pow_add]
  have o:256^k=2^(8*k):=by rw[Nat.pow_mul]
  unfold byt z7;rw[q,Nat.mod_mul,o,Int.natCast_add,Int.natCast_mul,Int.mul_comm];congr 2
theorem qaj (L:List (List Int))(c:Nat): ∀n,c<n→ ∃r,Qb L n=Qb L c++QH L c++r
 | n+1,h=>by
  by_cases q:c=n
  ·subst q;exact⟨[],by rw[Qb,List.append_nil]⟩
  ·obtain⟨r,o⟩:=qaj L c n (by omega);exact⟨r++QH L n,by rw[Qb,o,List.append_assoc]⟩
theorem qaO (ss:List Qh)(k:Nat): ∀m,k<m→ ∃r,ye ss m=ye ss k++(Qb (qA ss k).1 (qA ss k).1.length++Qb (qA ss k).2 (qA ss k).2.length)++r
 | m+1,h=>by
  by_cases q:k=m
  ·subst q;exact⟨[],by rw[ye,List.append_nil]⟩
  ·obtain⟨r,o⟩:=qaO ss k m (by omega);exact⟨r++(Qb (qA ss m).1 (qA ss m).1.length++Qb (qA ss m).2 (qA ss m).2.length),by rw[ye,o,List.append_assoc]⟩
theorem qgV (A X B:List Int){n i:Nat}(o:A.length=n)(hi:X.length=i):digZ (A++X++B) n i=X:=by
 subst o hi;unfold digZ;rw[List.append_assoc,List.drop_left,List.take_left]
theorem qda {t:TreeV}{total leaf i:Nat}{ss:List Qh}{m:Nat}(hi:t.i=(i:Int))(S: ∀k,k<m→chI t total leaf k=(chN t total leaf k:Nat))(O:Zr t.i m (chI t total leaf) (afI t total leaf) ss):
  ∀k,k≤m→(ye ss k).length=QI t total leaf k*i∧(k<m→(Qb (qA ss k).1 (qA ss k).1.length).length=chN t total leaf k*i∧(qA ss k).1.length=chN t total leaf k∧(qA ss k).2.length=afN t total leaf k∧ ∀d∈(qA ss k).1++(qA ss k).2,d.length=i):=by
 have one: ∀k,k<m→(Qb (qA ss k).1 (qA ss k).1.length).length=chN t total leaf k*i∧(Qb (qA ss k).2 (qA ss k).2.length).length=afN t total leaf k*i∧(qA ss k).1.length=chN t total leaf k∧(qA ss k).2.length=afN t total leaf k∧ ∀d∈(qA ss k).1++(qA ss k).2,d.length=i:=fun k D=>by
  obtain⟨a1,a2,G⟩:=O.2 k D;rw[S k D]at a1;have b1:(qA ss k).1.length=chN t total leaf k:=by omega
  have b2:(qA ss k).2.length=afN t total leaf k:=by unfold afI at a2;omega
  have q: ∀d∈(qA ss k).1++(qA ss k).2,d.length=i:=fun d o=>by have:=G d o;omega
  refine⟨?_,?_,b1,b2,q⟩
  ·rw[yo (fun d o=>q d (List.mem_append_left _ o)) _ Nl,b1]
  ·rw[yo (fun d o=>q d (List.mem_append_right _ o)) _ Nl,b2]
 intro k;induction k with
 | zero=>exact fun _=>⟨by simp[ye,QI],fun h=>⟨(one 0 h).1,(one 0 h).2.2⟩⟩
 | succ k ih=>
  intro h;obtain⟨I,J, -⟩:=one k (by omega);refine⟨?_,fun r=>⟨(one _ r).1,(one _ r).2.2⟩⟩;show(ye ss k++(_++_)).length=(QI t total leaf k+(chN t total leaf k+afN t total leaf k))*i
  rw[List.length_append,List.length_append,(ih (by omega)).1,I,J,Nat.add_mul,Nat.add_mul]
theorem qbv (t:TreeV)(total leaf i:Nat)(zs:List Int): ∀m k,k<m→qA (unL t total leaf i zs m) k=(Ja zs (16+QI t total leaf k*i) i (chN t total leaf k),Ja zs (16+QI t total leaf k*i+chN t total leaf k*i) i (afN t total leaf k))
 | m+1,k,h=>by
  show qA (unL t total leaf i zs m++[_]) k=_
  have o:=yc t total leaf i zs m;by_cases q:k=m
  ·subst q;unfold qA;rw[Lg,List.getElem?_append_right (by omega),o,Nat.sub_self];rfl
  ·have:=qbv t total leaf i zs m k (by omega)
   unfold qA at this⊢;rw[Lg,List.getElem?_append_left (by omega),←Lg];exact this
theorem qeL {A B:List (List Int)}(q:A.length=B.length)(h: ∀c,c<A.length→QH A c=QH B c):A=B:=by
 refine List.ext_getElem q fun c o r=>?_
 have:=h c o
 unfold QH at this;rw[Lg,Lg,List.getElem?_eq_getElem o,List.getElem?_eq_getElem r]at this;exact this
theorem qjX {t:TreeV}(h:t.validE=0){total leaf i m:Nat}(hi:t.i=(i:Int))(ag:1≤i)(hm:(t.rowsOf total).length - 1=m)(ht:(total:Int)≤18446744073709551615)(ac:(leaf:Int)≤18446744073709551615)(he:t.spotE total 0 leaf=0)
  (hK: ∀k,k<m→chI t total leaf k=(chN t total leaf k:Nat)) {zs:List Int} (hl:zs.length=16+QI t total leaf m*i) (Y: ∀j,j<16→qp zs j=qp (qD total 8++qD leaf 8) j) (O: ∀s∈unL t total leaf i zs m,s.1.length≤1048576∧s.2.length≤1048576) (ae:i≤64) (aa: ∀z∈zs,0≤z∧z≤255) (af:m≤255):
  unF t zs=⟨total,leaf,unL t total leaf i zs m,0⟩∧Zr t.i m (chI t total leaf) (afI t total leaf) (unL t total leaf i zs m)∧yZ 1048576 (unL t total leaf i zs m):=by
 have V: ∀(x k j:Nat),j<k→qp (qD x k) j=byt x j:=fun x k j D=>by simp[qp,qD,Lg,D]
 have h0: ∀j,j<8→qp zs (0+j)=byt total j:=fun j D=>by
  rw[Nat.zero_add,Y j (by omega),←V total 8 j D];unfold qp;rw[Lg,Lg,List.getElem?_append_left (by rw[qG];exact D)]
 have h8: ∀j,j<8→qp zs (8+j)=byt leaf j:=fun j D=>by
  rw[Y (8+j) (by omega),←V leaf 8 j D];unfold qp;rw[Lg,Lg,List.getElem?_append_right (by rw[qG];omega),qG,Nat.add_sub_cancel_left]
 have v0:qO zs 0 8=(total:Int):=by rw[qbt 8 h0,Nat.mod_eq_of_lt (by omega)]
 have v8:qO zs 8 8=(leaf:Int):=by rw[qbt 8 h8,Nat.mod_eq_of_lt (by omega)]
 have ab:t.i.toNat=i:=by omega
 have r: ∀{k},k<m→ ∀d∈Ja zs (16+QI t total leaf k*i) i (chN t total leaf k)++Ja zs (16+QI t total leaf k*i+chN t total leaf k*i) i (afN t total leaf k),d.length=i∧ ∀a∈d,0≤a∧a≤255:=fun {k} o d q=>by
  have ad:=Nat.mul_le_mul_right i (qbT t total leaf (show k+1≤m by omega));have G:QI t total leaf (k+1)*i=QI t total leaf k*i+(chN t total leaf k*i+afN t total leaf k*i):=by
   show(QI t total leaf k+(chN t total leaf k+afN t total leaf k))*i=_
   rw[Nat.add_mul,Nat.add_mul]
  have I: ∀at_,at_+i≤zs.length→(digZ zs at_ i).length=i∧ ∀a∈digZ zs at_ i,0≤a∧a≤255:=fun at_ ha=>⟨by unfold digZ;rw[List.length_take,List.length_drop];omega,fun a Z=>aa a (List.mem_of_mem_drop (List.mem_of_mem_take Z))⟩
  rcases List.mem_append.1 q with q|q
  ·obtain⟨c,S,rfl⟩:=List.mem_map.1 q;have:=Nat.mul_le_mul_right i (show c+1≤chN t total leaf k by have:=List.mem_range.1 S;omega)
   rw[Nat.add_mul,Nat.one_mul]at this;exact I _ (by omega)
  ·obtain⟨c,S,rfl⟩:=List.mem_map.1 q;have:=Nat.mul_le_mul_right i (show c+1≤afN t total leaf k by have:=List.mem_range.1 S;omega)
   rw[Nat.add_mul,Nat.one_mul]at this;exact I _ (by omega)
 have J: ∀s∈unL t total leaf i zs m,∃k,k<m∧s=qA (unL t total leaf i zs m) k:=fun s G=>by
  obtain⟨k,o,rfl⟩:=List.mem_iff_getElem.1 G;refine⟨k,by rw[yc]at o;exact o,?_⟩;unfold qA;rw[Lg,List.getElem?_eq_getElem o];rfl
 refine⟨?_,⟨yc ..,fun k o=>?_⟩,⟨by rw[yc];omega,fun s G=>?_⟩⟩
 ·unfold unF;rw[if_neg (by simp[h]),if_neg (by omega),v0,v8,Int.toNat_natCast,Int.toNat_natCast,if_neg (by simp[he]),hm,ab,if_neg (by omega),if_neg (by omega)]
 ·unfold jD;rw[qbv _ _ _ _ _ _ _ o];refine⟨by rw[yb,hK k o],by rw[yb];rfl,fun d q=>?_⟩;rw[(r o d q).1,hi]
 ·obtain⟨U,X⟩:=O s G;obtain⟨k,o,e⟩:=J s G;rw[qbv _ _ _ _ _ _ _ o]at e;rw[e]at U X⊢;exact⟨⟨U,fun d q=>⟨by have:=(r o d (List.mem_append_left _ q)).1;omega,(r o d (List.mem_append_left _ q)).2⟩⟩,⟨X,fun d q=>⟨by have:=(r o d (List.mem_append_right _ q)).1;omega,(r o d (List.mem_append_right _ q)).2⟩⟩⟩
theorem qhV {t:TreeV}{total leaf i m:Nat}(hi:t.i=(i:Int))(hK: ∀k,k<m→chI t total leaf k=(chN t total leaf k:Nat)){ss:List Qh}(V:Zr t.i m (chI t total leaf) (afI t total leaf) ss):unL t total leaf i (ya total leaf ss m) m=ss:=by
 have hF:=qda hi hK V;refine List.ext_getElem (by rw[yc,V.1]) fun k q h2=>?_
 rw[yc]at q;obtain⟨X,Z⟩:=hF k (by omega);obtain⟨f3,f4,f5,I⟩:=Z q;have e:qA (unL t total leaf i (ya total leaf ss m) m) k=qA ss k:=by
  rw[qbv _ _ _ _ _ _ _ q];obtain⟨r,Y⟩:=qaO ss k m q;have U:(qD total 8++qD leaf 8).length=16:=by rw[List.length_append,qG,qG]
  have S:ya total leaf ss m=(qD total 8++qD leaf 8)++ye ss k++Qb (qA ss k).1 (qA ss k).1.length++Qb (qA ss k).2 (qA ss k).2.length++r:=by
   unfold ya;rw[Y];simp only[List.append_assoc]
  refine Prod.ext ?_ ?_
  ·refine qeL (by rw[yb,f4]) fun c G=>?_
   rw[yb]at G;obtain⟨D,o⟩:=qaj (qA ss k).1 c (qA ss k).1.length (by omega);rw[qb9 G,S,o];have J:qD total 8++qD leaf 8++ye ss k++(Qb (qA ss k).1 c++QH (qA ss k).1 c++D)++Qb (qA ss k).2 (qA ss k).2.length++r=(qD total 8++qD leaf 8++ye ss k++Qb (qA ss k).1 c)++QH (qA ss k).1 c++(D++Qb (qA ss k).2 (qA ss k).2.length++r):=by simp only[List.append_assoc]
   rw[J];refine qgV _ _ _ ?_ (I _ (List.mem_append_left _ (yQ (by omega))));rw[List.length_append,List.length_append,U,X,yo (fun d O=>I d (List.mem_append_left _ O)) _ (by omega)]
  ·refine qeL (by rw[yb,f5]) fun c G=>?_
   rw[yb]at G;obtain⟨D,o⟩:=qaj (qA ss k).2 c (qA ss k).2.length (by omega);rw[qb9 G,S,o];have J:qD total 8++qD leaf 8++ye ss k++Qb (qA ss k).1 (qA ss k).1.length++(Qb (qA ss k).2 c++QH (qA ss k).2 c++D)++r=(qD total 8++qD leaf 8++ye ss k++Qb (qA ss k).1 (qA ss k).1.length++Qb (qA ss k).2 c)++QH (qA ss k).2 c++(D++r):=by simp only[List.append_assoc]
   rw[J];refine qgV _ _ _ ?_ (I _ (List.mem_append_right _ (yQ (by omega))));rw[List.length_append,List.length_append,List.length_append,U,X,f3,yo (fun d O=>I d (List.mem_append_right _ O)) _ (by omega)]
 unfold qA at e;rw[Lg,Lg,List.getElem?_eq_getElem (by rw[yc];exact q),List.getElem?_eq_getElem h2]at e;exact e
end Go.Proofs.YthjoojnlnlmljaaGreat
namespace Go.Proofs.YthjoojnlnlmljaaGreat
open Go.ChangeShapes Go.WideShapes Go.ChangeAt Go.RowKit Go.Joins Go.Shelf Go.Maps
open Go.Lib (hid)
attribute [local go_sem] Oper.semAt_some
def BytO (B:Nat)(D:List Int)(v:Value)(W:World):Prop:=OwnB B W v D
theorem BytO.below {B:Nat}{D:List Int}{v:Value}{W W':World}(h:BytO B D v W)(o:Below W.heap.size W W'):BytO B D v W':=OwnB.kb h (KB.of_below o (Nat.zero_le _))
theorem qd1 (zs:List Int)(v:Value)(w:World)(h:Hold w v zs)(hn:zs.length≤70368744177664):
  Calls Tryz.prog 27 #[v] w fun e w'=> ∃u,e= .returned u∧w'.ownsRow w.heap.size 5 1 u zs.length (zs.map qo)∧Below w.heap.size w w':=by
 obtain⟨X,hi,O,J,V⟩:=info_parts Ql;obtain⟨r,o⟩:=Ex w.heap.size;have D:Below r w (w.alloc (.cells #[] 5)):=by rw[←o];exact Br.alloc Nl _
 have Y:=hid (h.below (o▸D)).src;have Z:=hid h.1;have G:(w.alloc (.cells #[] 5)).ownsRow r 5 1 (.slice (some ⟨r,0,none⟩) 0 0) 0 []:=⟨rfl,.inr ⟨r,0,#[],rfl,Nat.le_refl _,by rw[←o];exact Wn _ _,Nat.le_refl _,Nat.zero_le _,rfl,rfl⟩⟩;obtain⟨a,c,rfl, -, -⟩:=h.slice;have I:=hid G;have S:=hid D;clear h G D;go_enter Tryz.func27,Tryz.ntmps27
 go_wp2_with (at_builtin;(try rw[o]);refine qU rfl _ _ _ rfl w r o.symm S.out 5 X (.int .u8 0) 1 Tryz.underlying24 hi O J V rfl _ 0 [] rfl I.out _ _ _ rfl Y.out (by unfold maxLen;omega) (by omega) ?_;intro v' w' q U)
 go_ret
 rw[Nat.zero_add,List.nil_append]at q;exact⟨_,rfl,by rw[o];exact q,by rw[o];exact U⟩
theorem qhb {α:Type}{l:List α}{a b:Nat}(h:(l.take a).length=b):l.take b=l.take a:=by
 rw[List.length_take]at h;subst h;by_cases o:a≤l.length
 ·rw[Nat.min_eq_left o]
 ·rw[Nat.min_eq_right (by omega),List.take_of_length_le Nl,List.take_of_length_le (by omega)]
end Go.Proofs.YthjoojnlnlmljaaGreat
