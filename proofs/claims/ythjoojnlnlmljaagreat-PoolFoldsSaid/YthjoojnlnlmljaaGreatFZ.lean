/- quernref10.Fold of leaves that fit. No condition. -/
import Derived.Test.YthjoojnlnlmljaaGreatF38
import Derived.Test.YthjoojnlnlmljaaGreatF43
import Derived.Test.YthjoojnlnlmljaaGreatF45
import Derived.Test.YthjoojnlnlmljaaGreatF40
import Derived.Test.YthjoojnlnlmljaaGreatF46
import Derived.Deep.Slices
set_option linter.all false
set_option maxRecDepth 100000
set_option maxHeartbeats 8000000
namespace Go.Proofs.YthjoojnlnlmljaaGreat
open Go.ChangeShapes Go.WideShapes Go.ChangeAt Go.RowKit Go.Joins Go.Shelf Go.Maps
open Go.Lib (hid)
attribute [local go_sem] Oper.semAt_some
theorem qct (t:TreeV)(kz z1 z2:List Int)(total:Nat)(L0:List (List Int))(v:Value)(w0 w:World)(h:TreeOk t kz z1 z2 w0)(he:t.err total=0)(hv:ListH w v L0)(hw:Below w0.heap.size w0 w)(h0:L0.length=lvs total t.ln)(h1: ∀z∈L0,(z.length:Int)=t.i)(hn:L0.length≤8388608)(ht:(total:Int)≤18446744073709551615):
  Calls Tryz.prog 81 #[t.val,.int .u64 total,v] w fun e w'=> ∃u,e= .returned (.tuple #[u,.int .i64 0])∧OwnB w.heap.size w' u (Qi (t.lvlZ kz z1 z2 L0 ((t.rowsOf total).length - 1)) 0)∧Below w.heap.size w w':=by
 obtain⟨o,D⟩:=Ex w.heap.size;have aN:1≤t.i∧t.i≤64:=by
  have h:=qq (qG he);have h2:Yu t.k≤64:=by unfold Yu;split<;>omega
  omega
 have aj: ∀z∈L0,z.length≤64:=fun z hz=>by have:=h1 z hz;omega
 have ad:=hid (fun(W:World) (G:Below o w W)=>qfd t kz z1 z2 total L0 v w0 W h he (hv.below (D▸G)) (hw.trans (G.mono (by have:=hw.size;omega))) h0 aj hn ht);have X:=hid (fun W:World=>qc4 t W);have Z:=hid (fun W:World=>Yk t h.l total ht he W);have ai:=qG he;rw[ai]at X;obtain⟨va,vc,rfl,au,av,am⟩:=id hv;obtain⟨N,S⟩:=Ex L0.length;rw[←h0,S]at Z;rw[S]at hn;have ar:L0≠[]:=List.length_pos_iff.1 (by rw[h0];unfold lvs;omega);obtain⟨g,off,rfl,hg,ao⟩:=am.resolve_left ar;have aD:=hid ao;have aB:=hid S;have HZ:=hid (show ∀k,k<N→((Qi L0 k).length:Int)=t.i from fun k hk=>h1 _ (qgT (by omega)));rw[S];have aH:IntKind.u64.wrap (N:Int)=(N:Int):=by rw[IntKind.wrap_u64]<;>omega
 have aM:((N:Int) != (N:Int))=false:=by simp
 have aL:(N:Int)≤8388608:=by omega
 rw[S]at ad;clear h he hv hw h0 h1 ai au av am S ar ao aj;unfold TreeV.val at*;go_enter Tryz.func81,Tryz.ntmps81
 go_upto_region 1 with(fail)
 refine qj ?_;intro wA ab;have I:wA.heap[o]? =some (.cells #[.int .i64 t.k,.int .i64 t.d,.int .i64 t.f,.int .i64 t.p,.int .u32 t.l,.int .i64 t.i,.slice t.ka t.kl t.kc,.slice t.sa t.sl t.sc,.slice t.pa t.pl t.pc] 26 (0,0)):=by rw[ab];exact qc _ _ D.symm
 have af:Below o w wA:=by rw[ab,←D];exact Br.alloc Nl _
 have ax:o<wA.heap.size:=(Ai I).1;clear ab;go_wp2_with ((with_reducible show wpList _ _ _ (Oper.mk _ (Op.load 26 _) _ _ _ _::_) _ _);refine wpList_load_row rfl 26 _ rfl o rfl _ _ _ _ I Tryz.underlying26 rfl (by kernel_rfl) ?_)
 refine(X.out wA).mono ?_;rintro e w1 ⟨rfl,Y⟩;have J:=qe I Y;have al:=hid (af.trans (Y.mono (show o≤wA.heap.size by omega)));have aE:o<w1.heap.size:=(Ai J).1;clear Y af I X;clear ax;go_wp2_with ((with_reducible show wpList _ _ _ (Oper.mk _ (Op.load 26 _) _ _ _ _::_) _ _);refine wpList_load_row rfl 26 _ rfl o rfl _ _ _ _ J Tryz.underlying26 rfl (by kernel_rfl) ?_)
 refine(Z.out w1).mono ?_;rintro e w2 ⟨rfl,ae⟩;have U:=qe J ae;have aC:=hid (al.out.trans (ae.mono (show o≤w1.heap.size by omega)));have aw:=hid U;have aJ:o<w2.heap.size:=(Ai U).1;clear ae al J Z U;clear aE;go_wp2_with (refine Q4 (by rfl) ?_)
 go_loopw [10] (fun i W=> ∃k:Nat,i= .int .i64 (k:Nat)∧k≤N∧Below w2.heap.size w2 W) (fun i _=>N - (intOf i).toNat)
 case atStart=>exact⟨0,rfl,Nat.zero_le _,Below.refl _ _⟩
 case round=>
  obtain⟨k,rfl,hk,G⟩:=hrel;have O:Below o w wr:=aC.out.trans (G.mono (by omega));have q:=qe aw.out G;have ah:wr.cell? ⟨o,5,none⟩=some (.int .i64 t.i):=qa q 5;have aG:o<wr.heap.size:=(Ai q).1;have aq:=hid O;by_cases ac:k<N
  case pos=>
   have aI:(k:Int)<(N:Int):=by omega
   obtain⟨x,cx,ag⟩:=aD.out k (by rw[aB.out];exact ac);obtain⟨xa,xc,rfl, -, -⟩:=ag.slice;have ap:wr.cell? ⟨g,off+k,none⟩=some (.slice xa (Qi L0 k).length xc):=(O.cell (p:=⟨g,off+k,none⟩) (show g<o by omega)).trans cx;have aK:g<wr.heap.size:=by omega
   have aa:=HZ.out k ac;obtain⟨ln,an⟩:=Ex ((Qi L0 k).length);rw[an]at ap aa;have h4:((ln:Int) != t.i)=false:=by rw[aa];simp
   have HB:=hid G;clear cx ag O q aa an G;go_upto_region 10 with(fail)
   go_quiet (fail)
   go_upto_if 46 with(fail)
   refine qj ?_;intro V hV;have ay:=hid (HB.out.trans ((show Below wr.heap.size wr V by rw[hV];exact below_draws _ _ _).mono (show w2.heap.size≤wr.heap.size by have:=HB.out.size;omega)));clear hV ap ah h4;go_wp2_with fail
   exact⟨⟨k+1,by go_num,by omega,ay.out⟩,by simp[intOf];omega⟩
  obtain az:k=N:=by omega
  have aF: ¬((k:Int)<(N:Int)):=by omega
  clear O G ah az ac hk;go_wp2_with ((with_reducible show wpList _ _ _ (Oper.mk _ (Op.load 26 _) _ _ _ _::_) _ _);refine wpList_load_row rfl 26 _ rfl o rfl _ _ _ _ q Tryz.underlying26 rfl (by kernel_rfl) ?_)
  refine(ad.out wr aq.out).mono ?_;rintro e w3 ⟨cv,u,rfl, -,ho,ak⟩;have HO:=hid (ho.le (show o≤wr.heap.size by omega));have aA:=hid (aq.out.trans (ak.mono (show o≤wr.heap.size by omega)));clear ak ad q ho;go_wp2_with fail
  exact Bp (results_tmp2 rfl _ _ _) rfl ⟨_,rfl,by rw[D];exact HO.out,by rw[D];exact aA.out⟩
theorem qbu (t:TreeV)(V:0≤t.l∧t.l≤4294967295)(total:Nat)(Y:(total:Int)≤18446744073709551615)(S:t.err total≠0)(X sv:Value)(w:World):
  Calls Tryz.prog 46 #[t.val,.int .u64 (total:Nat),X,sv] w fun e w'=>e= .returned (.tuple #[.slice none 0 0,.int .i64 (t.err total)])∧Below w.heap.size w w':=by
 obtain⟨D,o⟩:=Ex w.heap.size;have U:=hid (ju t V total Y S);have hq:(t.err total != 0)=true:=by rw[bne_iff_ne];exact S
 generalize t.err total=ev at*;clear S;unfold TreeV.val at*;go_enter Tryz.func46,Tryz.ntmps46
 go_upto_region 1 with(fail)
 refine qj ?_;intro G q;have I:G.heap[D]? =some (.cells #[.int .i64 t.k,.int .i64 t.d,.int .i64 t.f,.int .i64 t.p,.int .u32 t.l,.int .i64 t.i,.slice t.ka t.kl t.kc,.slice t.sa t.sl t.sc,.slice t.pa t.pl t.pc] 26 (0,0)):=by rw[q];exact qc _ _ o.symm
 have O:Below D w G:=by rw[q,←o];exact Br.alloc Nl _
 have aa:D<G.heap.size:=(Ai I).1;clear q;go_wp2_with ((with_reducible show wpList _ _ _ (Oper.mk _ (Op.load 26 _) _ _ _ _::_) _ _);refine wpList_load_row rfl 26 _ rfl D rfl _ _ _ _ I Tryz.underlying26 rfl (by kernel_rfl) ?_)
 refine(U.out G).mono ?_;rintro e w1 ⟨rfl,J⟩;have Z:=hid (O.trans (J.mono (show D≤G.heap.size by omega)));clear J O I U;go_wp2_with fail
 exact Bp (results_tmp2 rfl _ _ _) rfl ⟨rfl,by rw[o];exact Z.out⟩
theorem qaN (t:TreeV)(V:0≤t.l∧t.l≤4294967295)(total:Nat)(Z:(total:Int)≤18446744073709551615)(S:t.err total=0)(hn:1024<lvs total t.ln)(Y sv:Value)(w:World):
  Calls Tryz.prog 46 #[t.val,.int .u64 (total:Nat),Y,sv] w fun e w'=>e= .returned (.tuple #[.slice none 0 0,.int .i64 2])∧Below w.heap.size w w':=by
 obtain⟨D,o⟩:=Ex w.heap.size;have U:=hid (Yk t V total Z S);generalize lvs total t.ln=X at*;have ab:((1024:Int)<(X:Int)):=by omega
 clear S V;unfold TreeV.val at*;go_enter Tryz.func46,Tryz.ntmps46
 go_upto_region 1 with(fail)
 refine qj ?_;intro G q;have I:G.heap[D]? =some (.cells #[.int .i64 t.k,.int .i64 t.d,.int .i64 t.f,.int .i64 t.p,.int .u32 t.l,.int .i64 t.i,.slice t.ka t.kl t.kc,.slice t.sa t.sl t.sc,.slice t.pa t.pl t.pc] 26 (0,0)):=by rw[q];exact qc _ _ o.symm
 have O:Below D w G:=by rw[q,←o];exact Br.alloc Nl _
 have aa:D<G.heap.size:=(Ai I).1;clear q;go_wp2_with ((with_reducible show wpList _ _ _ (Oper.mk _ (Op.load 26 _) _ _ _ _::_) _ _);refine wpList_load_row rfl 26 _ rfl D rfl _ _ _ _ I Tryz.underlying26 rfl (by kernel_rfl) ?_)
 refine(U.out G).mono ?_;rintro e w1 ⟨rfl,J⟩;have HB:=hid (O.trans (J.mono (show D≤G.heap.size by omega)));clear J O I U;go_wp2_with fail
 exact Bp (results_tmp2 rfl _ _ _) rfl ⟨rfl,by rw[o];exact HB.out⟩
theorem qaO (t:TreeV)(hl:0≤t.l∧t.l≤4294967295)(total:Nat)(ht:(total:Int)≤18446744073709551615)(Y:t.err total=0)(hn:lvs total t.ln≤1024)(oa sa:Option Addr)(o oc S sc:Nat)(ac:(o:Int)≤9223372036854775807)(ae:(S:Int)≤9223372036854775807)(hx:o≠lvs total t.ln∨S≠lvs total t.ln)(w:World):
  Calls Tryz.prog 46 #[t.val,.int .u64 (total:Nat),.slice oa o oc,.slice sa S sc] w fun e w'=>e= .returned (.tuple #[.slice none 0 0,.int .i64 4])∧Below w.heap.size w w':=by
 obtain⟨I,q⟩:=Ex w.heap.size;have Z:=hid (Yk t hl total ht Y);generalize lvs total t.ln=X at*;have ag: ¬((1024:Int)<(X:Int)):=by omega
 have af:IntKind.u64.wrap (o:Int)=(o:Int):=by rw[IntKind.wrap_u64]<;>omega
 clear Y hl;unfold TreeV.val at*;go_enter Tryz.func46,Tryz.ntmps46
 go_upto_region 1 with(fail)
 refine qj ?_;intro J G;have O:J.heap[I]? =some (.cells #[.int .i64 t.k,.int .i64 t.d,.int .i64 t.f,.int .i64 t.p,.int .u32 t.l,.int .i64 t.i,.slice t.ka t.kl t.kc,.slice t.sa t.sl t.sc,.slice t.pa t.pl t.pc] 26 (0,0)):=by rw[G];exact qc _ _ q.symm
 have V:Below I w J:=by rw[G,←q];exact Br.alloc Nl _
 have ab:I<J.heap.size:=(Ai O).1;clear G;go_wp2_with ((with_reducible show wpList _ _ _ (Oper.mk _ (Op.load 26 _) _ _ _ _::_) _ _);refine wpList_load_row rfl 26 _ rfl I rfl _ _ _ _ O Tryz.underlying26 rfl (by kernel_rfl) ?_)
 refine(Z.out J).mono ?_;rintro e w1 ⟨rfl,U⟩;have HB:=hid (V.trans (U.mono (show I≤J.heap.size by omega)));clear U V O Z;by_cases D:o=X
 case pos=>
  subst D;have aa:((o:Int) != (o:Int))=false:=by simp
  have ad:((S:Int) != (o:Int))=true:=by rw[bne_iff_ne];omega
  clear hx;go_wp2_with (refine Q4 (by rfl) ?_)
  exact Bp (results_tmp2 rfl _ _ _) rfl ⟨rfl,by rw[q];exact HB.out⟩
 case neg=>
  have aa:((o:Int) != (X:Int))=true:=by rw[bne_iff_ne];omega
  clear hx D;go_wp2_with fail
  exact Bp (results_tmp2 rfl _ _ _) rfl ⟨rfl,by rw[q];exact HB.out⟩
theorem qg3 {B:Nat}{w:World}{v:Value}{L:List (List Int)}{vs:List Value}(q:w.ownsRow B 24 1 v L.length vs)(U: ∀i,i<L.length→Hold w (vs.getD i undef) (Qi L i)):ListH w v L:=by
 have Y:vs.length=L.length:=by have:=q.1;simpa using this
 rcases q.2 with⟨rfl,G⟩|⟨g,D,I,rfl,X,o,J,O,Z,S⟩
 ·exact⟨none,0,by rw[G],by omega,by omega,.inl (List.eq_nil_of_length_eq_zero G)⟩
 ·refine⟨_,D,rfl,J,by unfold maxLen at O;omega,.inr ⟨g,0,rfl,(Ai o).1,fun i V=>⟨vs.getD i undef,?_,U i V⟩⟩⟩;rw[qa o (0+i),Nat.zero_add];have e:I.toList[i]? =vs[i]? :=by rw[←S,List.getElem?_take,if_pos (by omega)]
  rw[←Array.getElem?_toList,e,Lg,List.getElem?_eq_getElem (by omega)];rfl
def OrdL (ti:Int)(cs:List Int)(LS:List (List Int))(n leaf:Nat):Prop:= ∃i:Nat,i<n∧yv cs leaf n=i∧((LS.getD i []).length:Int)=ti
theorem J4 {cs:List Int}{o:Int}{k:Nat}:yv cs o (k+1)=if cs.getD k 0=o then(k:Int) else yv cs o k:=rfl
def z8 (cs:List Int)(sv:Nat→Value)(N lf:Nat):List Value:=(List.range lf).map (Ym cs sv N)
theorem qdA (cs:List Int)(o:Nat→Value)(N q:Nat):z8 cs o N (q+1)=z8 cs o N q++[Ym cs o N q]:=by
 unfold z8;rw[List.range_succ,List.map_append];rfl
theorem jY (t:TreeV)(kz z1 z2:List Int)(hl:0≤t.l∧t.l≤4294967295)(total:Nat)(ht:(total:Int)≤18446744073709551615)(he:t.err total=0)(N:Nat)(hN:lvs total t.ln=N)(hn:N≤1024)(cs:List Int)(S:List (List Int))(aF:cs.length=N)(aJ:S.length=N)(sv:Nat→Value)(go oo gs so oc sc:Nat)(w:World)(hT:TreeOk t kz z1 z2 w)(ho:NumsH w go oo cs)(hs:SumsH w gs so sv S)(bm:(N:Int)≤oc)(bv:(N:Int)≤sc):
  Calls Tryz.prog 46 #[t.val,.int .u64 (total:Nat),.slice (some ⟨go,oo,none⟩) N oc,.slice (some ⟨gs,so,none⟩) N sc] w fun e w'=>(e= .returned (.tuple #[.slice none 0 0,.int .i64 4])∧ ¬qhZ t.i cs S N∧Below w.heap.size w w')∨(∃u,e= .returned (.tuple #[u,.int .i64 0])∧qhZ t.i cs S N∧OwnB w.heap.size w' u (Qi (t.lvlZ kz z1 z2 (yQ cs S N) ((t.rowsOf total).length - 1)) 0)∧Below w.heap.size w w'):=by
 obtain⟨D,I⟩:=Ex w.heap.size;obtain⟨ib,a5,bc,bb,a7⟩:=info_parts Za;have HR:=hid (Yk t hl total ht he);rw[hN]at HR;have HT:=hid hT;have HE:=hid he;have ba:=hid hN;have bq:=hid ho;have bw:=hid hs;have a4:=hid aF;have aG:=hid aJ;have HO:=hid (fun(W:World) (Y:Below D w W)=>ho.below (I▸Y));have aB:=hid (fun(W:World) (Y:Below D w W)=>hs.below (I▸Y));have bp: ¬((1024:Int)<(N:Int)):=by omega
 have bu:IntKind.u64.wrap (N:Int)=(N:Int):=by rw[IntKind.wrap_u64]<;>omega
 have bt:((N:Int) != (N:Int))=false:=by simp
 clear he hT ho hs aF aJ hN;unfold TreeV.val at*;go_enter Tryz.func46,Tryz.ntmps46
 go_upto_region 1 with(fail)
 refine qj ?_;intro wA am;have ag:wA.heap[D]? =some (.cells #[.int .i64 t.k,.int .i64 t.d,.int .i64 t.f,.int .i64 t.p,.int .u32 t.l,.int .i64 t.i,.slice t.ka t.kl t.kc,.slice t.sa t.sl t.sc,.slice t.pa t.pl t.pc] 26 (0,0)):=by rw[am];exact qc _ _ I.symm
 have aw:Below D w wA:=by rw[am,←I];exact Br.alloc Nl _
 have aX:D<wA.heap.size:=(Ai ag).1;clear am;go_wp2_with ((with_reducible show wpList _ _ _ (Oper.mk _ (Op.load 26 _) _ _ _ _::_) _ _);refine wpList_load_row rfl 26 _ rfl D rfl _ _ _ _ ag Tryz.underlying26 rfl (by kernel_rfl) ?_)
 refine(HR.out wA).mono ?_;rintro e w1 ⟨rfl,af⟩;have HB:=hid (aw.trans (af.mono (show D≤wA.heap.size by omega)));have be:=hid (qe ag af);have ar:D<w1.heap.size:=by have:=af.size;omega
 obtain⟨b1,bl⟩:=Ex w1.heap.size;have aQ:D<b1:=by omega
 clear af aw ag HR ar;clear aX;go_wp2_with (refine Q4 (by rfl) ?_)
 go_loopw [12,13] (fun o i W=> ∃lf:Nat,i= .int .i64 (lf:Nat)∧lf≤N∧W.ownsRow b1 24 1 o lf (z8 cs sv N lf)∧(∀j,j<lf→OrdL t.i cs S N j)∧Below b1 w1 W) (fun _ i _=>N - (intOf i).toNat)
 case atStart=>exact⟨0,rfl,Nat.zero_le _,Wo _ _ _ _,(fun j hj=>by omega),Below.refl _ _⟩
 case round=>
  obtain⟨lf,rfl,hk,aj,aH,Y⟩:=hrel;have aL:Below D w wr:=HB.out.trans (Y.mono (by omega));have ai:wr.heap[D]? =some (.cells #[.int .i64 t.k,.int .i64 t.d,.int .i64 t.f,.int .i64 t.p,.int .u32 t.l,.int .i64 t.i,.slice t.ka t.kl t.kc,.slice t.sa t.sl t.sc,.slice t.pa t.pl t.pc] 26 (0,0)):=(Y.block D aQ).trans be.out;have ah:wr.cell? ⟨D,5,none⟩=some (.int .i64 t.i):=qa ai 5;have bh:D<wr.heap.size:=(Ai ai).1;have aV:b1≤wr.heap.size:=by have:=Y.size;omega
  have O:=hid aL;obtain⟨ua,q,uc,rfl⟩:=qu aj;have aY:q=lf:=by
   rcases aj.2 with⟨e,h0⟩|⟨g,bx,bo,e, -⟩
   ·simp only[Value.slice.injEq]at e;omega
   ·simp only[Value.slice.injEq]at e;omega
  subst aY;have ad:=hid aj;have aA:=hid aH;have a8:=hid Y;clear aj aH Y aL;by_cases ao:q<N
  case pos=>
   have bi:(q:Int)<(N:Int):=by omega
   obtain⟨bs,aK⟩:=HO.out wr O.out;have aW:=hid aK;clear aK;rename World=>wS
   go_wp2_with fail
   go_loopw [14,15] (fun a i W=>W=wS∧ ∃k:Nat,i= .int .i64 (k:Nat)∧k≤N∧a= .int .i64 (yv cs q k)) (fun _ i _=>N - (intOf i).toNat)
   case atStart=>exact⟨by trivial,0,rfl,Nat.zero_le _,rfl⟩
   case round=>
    obtain⟨ew,k,rfl,a9,rfl⟩:=hrel;subst ew;by_cases aM:k<N
    case pos=>
     have bf:(k:Int)<(N:Int):=by omega
     have co:=aW.out k (by rw[a4.out];exact aM);by_cases hc:cs.getD k 0=(q:Int)
     case pos=>
      have ab:yv cs q (k+1)=(k:Int):=by rw[J4,if_pos hc]
      rw[hc]at co;have bd:((q:Int)==(q:Int))=true:=by simp
      have an:=hid ab;clear ab hc;go_wp2_with fail
      exact⟨⟨by trivial,k+1,by go_num,by omega,by rw[an.out]⟩,by simp[intOf];omega⟩
     case neg=>
      have ab:yv cs q (k+1)=yv cs q k:=by rw[J4,if_neg hc]
      obtain⟨c,aD⟩:=Ex (cs.getD k 0);rw[aD]at co hc;have bd:(c==(q:Int))=false:=by rw[beq_eq_false_iff_ne];exact hc
      have an:=hid ab;clear ab hc aD;go_wp2_with fail
      exact⟨⟨by trivial,k+1,by go_num,by omega,by rw[an.out]⟩,by simp[intOf];omega⟩
    have aa:k=N:=by omega
    have bk: ¬((k:Int)<(N:Int)):=by omega
    obtain⟨av,al⟩:=Ex (yv cs q k);rw[al];rw[aa]at al;have U:=hid al;clear al aa aM a9;by_cases h1:av<0
    case pos=>
     go_upto_region 18 with(fail)
     go_quiet (fail)
     go_upto_if 69 with(fail)
     refine qj ?_;intro V Z;have J:=hid (O.out.trans ((show Below wr.heap.size wr V by rw[Z];exact below_draws _ _ _).mono (show D≤wr.heap.size by omega)));clear Z ah;go_wp2_with fail
     exact Bp (results_tmp2 rfl _ _ _) rfl (.inl ⟨rfl,fun h=>by obtain⟨i,i1,i2,i3⟩:=h q ao;rw[U.out]at i2;omega,by first|exact J.out|(rw[I];exact J.out)⟩)
    obtain⟨i,rfl⟩: ∃i:Nat,av=i:=⟨av.toNat,by omega⟩;have ay:i<N:=by
     rcases Yy cs q N with⟨k1, -⟩|⟨j,k1,k2, -⟩
     ·have:=U.out;omega
     ·have:=U.out;omega
    obtain⟨ar,au⟩:=aB.out wr O.out;obtain⟨ac,hh⟩:=au i (by rw[aG.out];exact ay);obtain⟨xa,xc,ex, -, -⟩:=hh.slice;rw[ex]at ac;have ax:=hid ex;obtain⟨ln,aq⟩:=Ex ((S.getD i []).length);rw[aq]at ac ax;have aE:=hid aq;clear au hh ex aq;by_cases h3:(ln:Int)=t.i
    case neg=>
     have h4:((ln:Int) != t.i)=true:=by rw[bne_iff_ne];exact h3
     go_upto_region 18 with(fail)
     go_quiet (fail)
     go_upto_if 69 with(fail)
     refine qj ?_;intro V Z;have J:=hid (O.out.trans ((show Below wr.heap.size wr V by rw[Z];exact below_draws _ _ _).mono (show D≤wr.heap.size by omega)));clear Z ah ac h4;go_wp2_with fail
     exact Bp (results_tmp2 rfl _ _ _) rfl (.inl ⟨rfl,fun h=>by
      obtain⟨j,i1,i2,i3⟩:=h q ao;rw[U.out]at i2;obtain rfl:i=j:=by omega
      rw[aE.out]at i3;exact h3 i3,by first|exact J.out|(rw[I];exact J.out)⟩)
    have h4:((ln:Int) != t.i)=false:=by rw[h3];simp
    have H3:=hid h3;clear h3;go_upto_region 18 with(fail)
    go_quiet (fail)
    go_upto_if 69 with(fail)
    refine qj ?_;intro V Z;have X:Below wr.heap.size wr V:=by rw[Z];exact below_draws _ _ _
    have bn:V.cell? ⟨gs,so+i,none⟩=some (.slice xa ln xc):=(X.cell (p:=⟨gs,so+i,none⟩) ar).trans ac;have bj:gs<V.heap.size:=by have:=X.size;omega
    have J:=hid (a8.out.trans (X.mono aV));have aC:V.ownsRow b1 24 1 (.slice ua q uc) q (z8 cs sv N q):=yC ad.out (fun g hg=>X.block g (Qw ad.out g hg));have aZ:=hid aC;have aO:b1≤V.heap.size:=by have:=X.size;omega
    clear Z ah ac h4 X aC;go_wp2_with (at_builtin;refine za rfl _ _ _ rfl b1 24 (by decide) ib (.slice none 0 0) 1 24 Tryz.underlying67 a5 bc bb a7 rfl (by decide) (.slice ua q uc) q (z8 cs sv N q) [.slice xa ln xc] _ rfl aZ.out rfl rfl (by simp[Value.oneCell']) (by unfold maxLen;omega) (by omega) aO ?_;intro v' w' ak ap aU;have aR:=hid ak;have aP:=hid ap;clear ak ap aU)
    refine⟨⟨q+1,by go_num,by omega,?_,fun j hj=>?_,J.out.trans aP.out.below⟩,by simp[intOf];omega⟩
    ·rw[qdA];have e:Ym cs sv N q= .slice xa ln xc:=by
      unfold Ym;rw[U.out,Int.toNat_natCast];exact ax.out
     rw[e];exact aR.out
    ·by_cases e:j=q
     ·subst e;exact⟨i,ay,U.out,by rw[aE.out];exact H3.out⟩
     ·exact aA.out j (by omega)
  have aa:q=N:=by omega
  have bg: ¬((q:Int)<(N:Int)):=by omega
  have ae:qhZ t.i cs S N:=fun aT br=>aA.out aT (by omega)
  have G:=ZJ.2 ae;have aN:ListH wr (.slice ua q uc) (yQ cs S N):=by
   have h:=ad.out;rw[aa]at h⊢;refine qg3 (vs:=z8 cs sv N N) (B:=b1) (by rw[yn];exact h) (fun j hj=>?_);rw[yn]at hj;obtain⟨i,hi,e⟩:=jI G hj;have e2:(z8 cs sv N N).getD j undef=Ym cs sv N j:=by
    unfold z8;rw[Lg,List.getElem?_map,List.getElem?_range hj];rfl
   rw[e2,qaY G hi e,qdB G hi e];exact((aB.out wr O.out).2 i (by rw[aG.out];exact hi)).2
  have az:=hid (qct t kz z1 z2 total (yQ cs S N) (.slice ua q uc) w wr HT.out HE.out aN (by rw[I];exact O.out) (by rw[yn,ba.out]) (jb G) (by rw[yn];omega) ht);have aS:=hid ae;clear ae G aN ah aa ao hk;go_upto_region 21 with(fail)
  go_wp2_with ((with_reducible show wpList _ _ _ (Oper.mk _ (Op.load 26 _) _ _ _ _::_) _ _);refine wpList_load_row rfl 26 _ rfl D rfl _ _ _ _ ai Tryz.underlying26 rfl (by kernel_rfl) ?_)
  refine az.out.mono ?_;rintro e w3 ⟨u,rfl,ho,aI⟩;have a3:=hid (ho.le (show D≤wr.heap.size by omega));have a6:=hid (O.out.trans (aI.mono (show D≤wr.heap.size by omega)));clear aI az ai ho;go_wp2_with fail
  exact Bp (results_tmp2 rfl _ _ _) rfl (.inr ⟨_,rfl,aS.out,by rw[I];exact a3.out,by rw[I];exact a6.out⟩)
end Go.Proofs.YthjoojnlnlmljaaGreat
namespace Go.Proofs.YthjoojnlnlmljaaGreat
open Go.ChangeShapes Go.WideShapes Go.ChangeAt Go.RowKit Go.Joins Go.Shelf Go.Maps Go.Deep
open Go.Lib (hid)
attribute [local go_sem] Oper.semAt_some
def qcZ (w:World)(v:Value)(LS:List (List Int)):Prop:= ∃a cap sv,v= .slice a LS.length cap∧LS.length≤cap∧(cap:Int)≤9223372036854775807∧(LS=[]∨ ∃b off,a=some ⟨b,off,none⟩∧SumsH w b off sv LS)
theorem qcT {α:Type}[Inhabited α]{n:Nat}{p:Nat→α→Prop}(h: ∀i,i<n→ ∃a,p i a): ∃f:Nat→α,∀i,i<n→p i (f i):=by
 refine⟨fun i=>if o:i<n then Classical.choose (h i o) else default,fun i o=>?_⟩;dsimp only;rw[dif_pos o];exact Classical.choose_spec (h i o)
theorem qfK {H:Type}{enc:TypeId×Value→H}{w:World}{base fuel:Nat}{Y:Bool}{c:Value}{x:DataW H×List MemPlace}
  (h:DataW.trod enc Tryz.prog w base (fun _=>true) Y fuel 67 [c]=some x) (S: ∀p∈x.2,p.block<w.heap.size):
  ∃LS,qcZ w c LS:=by
 rcases open_slice1 Tryz.underlying67 zt h with⟨q,hx⟩|⟨a,o,ab,m,n,V,D,Pl,q,hb,hl,hm,U,hx,I⟩
 ·simp only[List.cons.injEq,and_true]at q;subst q;exact⟨[],none,0,fun _=>undef,rfl,Nat.le_refl _,by omega,.inl rfl⟩
 ·simp only[if_true]at U;subst U;simp only[List.cons.injEq,and_true]at q;subst q;have aa: ∀i,i<m→ ∃zs:List Int,Hold w (V i) zs:=by
   intro i J;obtain⟨zs,X, -⟩:=jc (I i J).2 (fun p hp=>S p (by rw[hx];exact List.mem_append_right _ (List.mem_flatMap.2 ⟨i,List.mem_range.2 J,hp⟩)));exact⟨zs,X⟩
  obtain⟨Z,hZ⟩:=qcT aa;have G:((List.range o).map Z).length=o:=by simp
  refine⟨(List.range o).map Z,some a,m,V,by rw[G],by rw[G];exact hl,by unfold maxLen at hm;omega,?_⟩;by_cases h0:o=0
  ·exact .inl (by rw[h0];rfl)
  ·obtain⟨b,off,spot⟩:=a;have O:spot=none:=by simpa [Addr.add] using World.cell?_spot (I 0 (by omega)).1
   subst O;refine .inr ⟨b,off,rfl,?_,?_⟩
   ·have X:MemPlace.cell b off∈x.2:=by
     rw[hx];refine List.mem_append_left _ ?_;simp only[MemPlace.row];exact List.mem_map.2 ⟨0,by simp;omega,by simp⟩
    exact S _ X
   ·intro i J;rw[G]at J;refine⟨?_,?_⟩
    ·rw[←Go.WideShapes.add_plain];exact(I i (by omega)).1
    ·have e:((List.range o).map Z).getD i []=Z i:=by simp[Lg,J]
     rw[e];exact hZ i (by omega)
theorem qeJ {H:Type}{enc:TypeId×Value→H}{w:World}{base O:Nat}{r:Reach}{q:Bool}{v:Value}{d:DataW H}{G:List MemPlace}
  (I:Value.okWide Tryz.prog w r O 67 v) (h:DataW.Trod enc Tryz.prog w base (fun _=>true) q 67 v d G) (D: ∀p∈G,p.block<w.heap.size):
  ∃S,qcZ w v S:=by
 obtain⟨fuel,J⟩:=h;obtain⟨o,n,c,rfl⟩:=okWide_slice Tryz.underlying67 I;exact qfK J D
def qhw (Z:List Int)(ez:Int)(w:World)(e:Ending)(w':World):Prop:= ∃u,e= .returned (.tuple #[u,.int .i64 ez])∧OwnB w.heap.size w' u Z∧Below w.heap.size w w'
theorem zK {o:Int}{w w':World}(q:Below w.heap.size w w'):qhw [] o w (.returned (.tuple #[.slice none 0 0,.int .i64 o])) w':=⟨_,rfl,⟨fun _ h=>by simp at h,.inl ⟨rfl,rfl⟩⟩,q⟩
theorem qha (t:TreeV)(kz z1 z2:List Int)(O:0≤t.l∧t.l≤4294967295)(total:Nat)(U:(total:Int)≤18446744073709551615)(cs:List Int)(G:List (List Int))(X Y:Value)(w:World)(hT:TreeH w t kz z1 z2)(ho:qfy w X cs)(hs:qcZ w Y G):
  ∃Z ez,Z.length≤64∧ ∀W,Below w.heap.size w W→Calls Tryz.prog 45 #[t.val,.int .u64 (total:Nat),X,Y] W (qhw Z ez W)∧Calls Tryz.prog 46 #[t.val,.int .u64 (total:Nat),X,Y] W (qhw Z ez W):=by
 by_cases q:t.err total=0
 case neg=>
  refine⟨[],t.err total,by simp,fun W _=>⟨(qcu t O total U q X Y W).mono ?_,(qbu t O total U q X Y W).mono ?_⟩⟩;all_goals(rintro e w' ⟨rfl,D⟩;exact zK D)
 by_cases hn:1024<lvs total t.ln
 case pos=>
  refine⟨[],2,by simp,fun W _=>⟨(qbz t O total U q hn X Y W).mono ?_,(qaN t O total U q hn X Y W).mono ?_⟩⟩;all_goals(rintro e w' ⟨rfl,D⟩;exact zK D)
 obtain⟨ai,oa,oc,rfl,am,aj,ah⟩:=ho;obtain⟨sa,sc,ac,rfl,al,ak,ag⟩:=hs;by_cases hx:cs.length≠lvs total t.ln∨G.length≠lvs total t.ln
 case pos=>
  refine⟨[],4,by simp,fun W _=>⟨(qbA t O total U q (by omega) oa sa cs.length oc G.length sc (by omega) (by omega) hx W).mono ?_,(qaO t O total U q (by omega) oa sa cs.length oc G.length sc (by omega) (by omega) hx W).mono ?_⟩⟩;all_goals(rintro e w' ⟨rfl,D⟩;exact zK D)
 have ao:1≤lvs total t.ln:=by unfold lvs;omega
 obtain⟨ob,oo,rfl,ae,ad⟩:=ah.resolve_left (fun e=>by rw[e]at hx;simp at hx;omega);obtain⟨sb,so,rfl,ab⟩:=ag.resolve_left (fun e=>by rw[e]at hx;simp at hx;omega);have J:cs.length=lvs total t.ln:=by omega
 have I:G.length=lvs total t.ln:=by omega
 have V:NumsH w ob oo cs:=⟨ae,fun i hi=>by rw[ad i hi];rfl⟩;have aa: ∀W,Below w.heap.size w W→TreeOk t kz z1 z2 W:=fun W o=>⟨qG q,O,hT.k.below o,hT.s.below o,hT.p.below o⟩
 have an:t.i≤64:=by
  have h:=qq (qG q);have h2:Yu t.k≤64:=by unfold Yu;split<;>omega
  omega
 by_cases S:qbi t.i cs G (lvs total t.ln)
 case neg=>
  refine⟨[],4,by simp,fun W o=>⟨?_,?_⟩⟩
  ·rw[J,I];refine(J1 t kz z1 z2 O total U q _ rfl (by omega) cs G J I ac ob oo sb so oc sc W (aa W o) (V.below o) (ab.below o) (by omega) (by omega)).mono ?_;rintro e w' (⟨rfl, -,D⟩|⟨u, -,h, -⟩)
   ·exact zK D
   ·exact absurd h S
  ·rw[J,I];refine(jY t kz z1 z2 O total U q _ rfl (by omega) cs G J I ac ob oo sb so oc sc W (aa W o) (V.below o) (ab.below o) (by omega) (by omega)).mono ?_;rintro e w' (⟨rfl, -,D⟩|⟨u, -,h, -⟩)
   ·exact zK D
   ·exact absurd (ZJ.2 h) S
 case pos=>
  have af:yQ cs G (lvs total t.ln)≠[]:=List.length_pos_iff.1 (by rw[yn];omega);have hF:=(QO (qG q) kz z1 z2 af (fun z hz=>by have:=jb S z hz;omega) ((t.rowsOf total).length - 1)).2.2;refine⟨Qi (t.lvlZ kz z1 z2 (yQ cs G (lvs total t.ln)) ((t.rowsOf total).length - 1)) 0,0,?_,fun W o=>⟨?_,?_⟩⟩
  ·unfold Qi;rw[Lg]
   cases e:(t.lvlZ kz z1 z2 (yQ cs G (lvs total t.ln)) ((t.rowsOf total).length - 1))[0]? with
   | none=>simp
   | some z=>exact hF z (List.mem_of_getElem? e)
  ·rw[J,I];refine(J1 t kz z1 z2 O total U q _ rfl (by omega) cs G J I ac ob oo sb so oc sc W (aa W o) (V.below o) (ab.below o) (by omega) (by omega)).mono ?_;rintro e w' (⟨-,h, -⟩|⟨u,rfl, -,ho,D⟩)
   ·exact absurd S h
   ·exact⟨u,rfl,ho,D⟩
  ·rw[J,I];refine(jY t kz z1 z2 O total U q _ rfl (by omega) cs G J I ac ob oo sb so oc sc W (aa W o) (V.below o) (ab.below o) (by omega) (by omega)).mono ?_;rintro e w' (⟨-,h, -⟩|⟨u,rfl, -,ho,D⟩)
   ·exact absurd (ZJ.1 S) h
   ·exact⟨u,rfl,ho,D⟩
theorem qfQ (zs:List Int)(u v:Value)(w:World)(D:Hold w u zs)(o:Hold w v zs):
  Calls Tryz.prog 47 #[u,v] w fun e w'=>e= .returned (.bool true)∧Below w.heap.size w w':=by
 obtain⟨O,q⟩:=Ex w.heap.size;have G:=hid (qeu zs zs u v w D o);clear D o;go_enter Tryz.func47,Tryz.ntmps47
 go_wp2_with fail
 refine G.out.mono ?_;rintro e J ⟨rfl,m,rfl⟩;have I:decide (zs=zs)=true:=by simp
 go_wp2_with fail
 exact Bp (results_tmp rfl _ _ _) rfl ⟨rfl,by first|exact below_draws _ _ _|(rw[q];exact below_draws _ _ _)⟩
theorem qaQ (t:TreeV)(kz z1 z2:List Int)(hl:0≤t.l∧t.l≤4294967295)(total:Nat)(ht:(total:Int)≤18446744073709551615)(cs:List Int)(LS:List (List Int))(ov sv:Value)(w:World)(hT:TreeH w t kz z1 z2)(ho:qfy w ov cs)(hs:qcZ w sv LS):
  Calls Tryz.prog 6 #[t.val,.int .u64 (total:Nat),ov,sv] w (qh8 w):=by
 obtain⟨o,D⟩:=Ex w.heap.size;obtain⟨Z,ez,hZ,hF⟩:=qha t kz z1 z2 hl total ht cs LS ov sv w hT ho hs;rw[D]at hF;have HF:=hid hF;obtain⟨-,oa,oc,rfl, -⟩:=ho;obtain⟨sa,sc,ah,rfl, -⟩:=hs;have hq:(ez==ez)=true:=by simp
 generalize cs.length=no at*;generalize LS.length=ns at*;clear hT hF;unfold TreeV.val at*;go_enter Tryz.func6,Tryz.ntmps6
 go_upto_region 1 with(fail)
 refine qj ?_;intro I U;have G:I.heap[o]? =some (.cells #[.int .i64 t.k,.int .i64 t.d,.int .i64 t.f,.int .i64 t.p,.int .u32 t.l,.int .i64 t.i,.slice t.ka t.kl t.kc,.slice t.sa t.sl t.sc,.slice t.pa t.pl t.pc] 26 (0,0)):=by rw[U];exact qc _ _ D.symm
 have V:Below o w I:=by rw[U,←D];exact Br.alloc Nl _
 have ad:o<I.heap.size:=(Ai G).1;clear U;go_wp2_with ((with_reducible show wpList _ _ _ (Oper.mk _ (Op.load 26 _) _ _ _ _::_) _ _);refine wpList_load_row rfl 26 _ rfl o rfl _ _ _ _ G Tryz.underlying26 rfl (by kernel_rfl) ?_)
 refine(HF.out I V).1.mono ?_;rintro e w1 ⟨u,rfl,hu,S⟩;have X:=qe G S;have O:=hid (V.trans (S.mono (show o≤I.heap.size by omega)));have HU:=hid (hu.le (show o≤I.heap.size by omega));have ai:o<w1.heap.size:=(Ai X).1;clear S V G ad hu;go_wp2_with ((with_reducible show wpList _ _ _ (Oper.mk _ (Op.load 26 _) _ _ _ _::_) _ _);refine wpList_load_row rfl 26 _ rfl o rfl _ _ _ _ X Tryz.underlying26 rfl (by kernel_rfl) ?_)
 refine(HF.out w1 O.out).2.mono ?_;rintro e w2 ⟨v,rfl,hv,q⟩;have aa:=hid (O.out.trans (q.mono (show o≤w1.heap.size by omega)));have Y:=HU.out.hold.below q;have ae:o≤w2.heap.size:=by have:=q.size;omega
 have HS:=hid (qfQ Z u v w2 Y hv.hold);clear q O X HU hv Y;go_wp2_with (refine Q4 (by rfl) ?_)
 refine HS.out.mono ?_;rintro e w3 ⟨rfl,J⟩;have ab:=hid (aa.out.trans (J.mono ae));have af:o≤w3.heap.size:=by have:=J.size;omega
 clear J aa HS;go_wp2_with (refine Q4 (by rfl) ?_)
 refine(qdq w3).mono ?_;rintro e w4 ⟨rfl,ac⟩;have ag:=hid (ab.out.trans (ac.mono af));clear ac ab;go_wp2_with (refine Q4 (by rfl) ?_)
 exact Bp (results_tmp rfl _ _ _) rfl ⟨rfl,by rw[D];exact ag.out⟩
end Go.Proofs.YthjoojnlnlmljaaGreat
namespace Go.Proofs.YthjoojnlnlmljaaGreat
open Go.ChangeShapes Go.WideShapes Go.ChangeAt Go.RowKit Go.Joins Go.Shelf Go.Maps
open Go.Lib (hid)
theorem qaR {H:Type}(enc:TypeId×Value→H)(W:World)(base:Nat)(args:Array Value)(ds:List (DataW H))(p:List MemPlace)
  (o: ∀(j:Nat) t v,Tryz.f6.params[j]? =some t→args[j]? =some v→Value.okWide Tryz.prog W .any base t v)
  (S:DataW.TrodAll enc Tryz.prog W 0 (fun _=>true) true Tryz.f6.params.toList args.toList ds p) (D: ∀x∈p,x.block<W.heap.size)
  (_:(DataW.weightsEach Tryz.prog Tryz.f6.params.toList ds).all (· ≤reachBytes)=true):
  Calls Tryz.prog 6 args W (qh8 W):=by
 rw[Tryz.params6]at S o;obtain⟨v0,v1,O,V,d0,d1,d2,d3,p0,p1,p2,p3,rfl,rfl,rfl,h0,Y,X,Z⟩:=trodAll_four S;obtain⟨t,kz,z1,z2,rfl,hl,ht, -, -, -⟩:=qeI (o 0 26 v0 rfl rfl) h0 (fun x I=>D x (by simp[I]));obtain⟨q,rfl,G⟩:=qgR (o 1 44 v1 rfl rfl) Y;obtain⟨total,rfl⟩: ∃n:Nat,q=n:=⟨q.toNat,by omega⟩;obtain⟨cs,U, -⟩:=qeK (o 2 48 O rfl rfl) X (fun x I=>D x (by simp[I]));obtain⟨LS,J⟩:=qeJ (o 3 67 V rfl rfl) Z (fun x I=>D x (by simp[I]));exact qaQ t kz z1 z2 hl total G.2 cs LS O V W ht U J
theorem JC (J:Os)(o:J.Started)(H:Type)(enc:TypeId×Value→H):
    ReturnsInHanded {} Tryz.checked J 6 .any (Rows.poolFoldsSpec.pre6 enc Tryz.prog Tryz.f6 Rows.poolFoldsRow.domain false) (Rows.poolFoldsSpec.post enc Tryz.prog Tryz.f6 false true false false):=by
  refine returnsInHanded_of_change_sized (C:=Tryz.checked) own o (by kernel_rfl) Tryz.func6
    (ChangeSpec.witness6 (enc:=enc) (C:=Tryz.checked) false ⟨#[],#[.agg #[.int .i64 0,.int .i64 0,.int .i64 0,.int .i64 0,.int .u32 0,.int .i64 0,.slice none 0 0,.slice none 0 0,.slice none 0 0],.int .u64 0,.slice none 0 0,.slice none 0 0],[]⟩ 40 (by kernel_rfl) (by kernel_rfl) (by kernel_rfl) (by kernel_rfl)) ?_
  intro W base args ds gs V D O Y Z _;have G:=O;obtain⟨p,q,S,hV,rfl,aa,ab⟩:=O;have U:DataW.TrodAll enc Tryz.prog W 0 (fun _=>true) true Tryz.f6.params.toList args.toList ds p:=S;obtain⟨rfl,rfl⟩:=trodVars_none hV;have X:(DataW.weightsEach Tryz.prog Tryz.f6.params.toList ds).all (· ≤reachBytes)=true:=by
    have e1:Tryz.f6.params.toList++Rows.poolFoldsSpec.plain.varTypes Tryz.prog=Tryz.f6.params.toList:=List.append_nil _;rw[←e1,←List.append_nil ds];exact Z
  refine(qaR enc W base args ds p D U (fun x hx=>G.lt x (by simpa using hx)) X).mono fun e W' h=>⟨_,h.1,?_⟩
  refine qby qhR _ rfl Tryz.underlying4 (by decide+kernel) rfl G ?_ h.2;have I:=U;rw[Tryz.params6]at I;obtain⟨v0,v1,v2,v3,d0,d1,d2,d3,p0,p1,p2,p3,rfl,rfl,_⟩:=trodAll_four I;rfl
theorem poolFolds_holds:Rows.PoolFoldsSaid:=
  OpenClaim.holds_of_wide 6 Tryz.f6 rfl rfl rfl rfl rfl rfl rfl ⟨rfl,rfl,rfl,rfl,rfl⟩ rfl rfl rfl rfl rfl (by kernel_rfl) Tryz.func6 (by kernel_rfl)
    (of_decide_eq_true (by kernel_rfl)) (by unfold Func.isWrapper;first|(rw[if_pos (by decide+kernel)];kernel_rfl)|(rw[if_neg (by decide+kernel)];exact⟨rfl,rfl⟩))
    (fun q o H enc _=>JC q o H enc)
#print axioms poolFolds_holds
end Go.Proofs.YthjoojnlnlmljaaGreat
