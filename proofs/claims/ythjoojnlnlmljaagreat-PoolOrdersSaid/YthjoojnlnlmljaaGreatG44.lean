/- The pool's Fold, where the tree, the number of leaves or the lists do not fit. No condition. -/
import Derived.Test.YthjoojnlnlmljaaGreatG42
import Derived.Test.YthjoojnlnlmljaaGreatG43
set_option linter.all false
set_option maxRecDepth 100000
set_option maxHeartbeats 8000000
namespace Go.Proofs.YthjoojnlnlmljaaGreat
open Go.ChangeShapes Go.WideShapes Go.ChangeAt Go.RowKit Go.Joins Go.Shelf Go.Maps
open Go.Lib (hid)
attribute [local go_sem] Oper.semAt_some
theorem yr {P:Program}{ops:Array Oper}{Q:Exit→Act→World→Prop}{a:Act}{w:World}{o:List Oper}{d:Option Tmp}{D:Op}{G:TypeId}{q:String}{I:Array Edge}{g:Nat×Bool}
  (J:Region.wanted ⟨d,D,G,q,I,some g⟩ (yielded ops a.tmps)=true) (h:wpList P ops Q (⟨d,D,G,q,I,none⟩::o) a w):wpList P ops Q (⟨d,D,G,q,I,some g⟩::o) a w:=by
 unfold wpList at h⊢;rw[if_pos J];rw[if_pos (by rfl)]at h;exact h
theorem qgL:(Tryz.prog.info? 4).map (fun i=>(i.zero,i.size,i.bytes))=some (some (.bool false),1,1):=by kernel_rfl
def SumsH (w:World)(g off:Nat)(sv:Nat→Value)(LS:List (List Int)):Prop:=g<w.heap.size∧ ∀i,i<LS.length→w.cell? ⟨g,off+i,none⟩=some (sv i)∧Hold w (sv i) (LS.getD i [])
theorem SumsH.below {w w':World}{g off:Nat}{G:Nat→Value}{D:List (List Int)}(h:SumsH w g off G D)(o:Below w.heap.size w w'):SumsH w' g off G D:=
 ⟨by have:=h.1;have:=o.size;omega,fun i q=>⟨(o.cell (p:=⟨g,off+i,none⟩) h.1).trans (h.2 i q).1,(h.2 i q).2.below o⟩⟩
def NumsH (w:World)(g off:Nat)(cs:List Int):Prop:=g<w.heap.size∧ ∀i,i<cs.length→w.cell? ⟨g,off+i,none⟩=some (.int .i64 (cs.getD i 0))
theorem NumsH.below {w w':World}{g off:Nat}{cs:List Int}(h:NumsH w g off cs)(o:Below w.heap.size w w'):NumsH w' g off cs:=
 ⟨by have:=h.1;have:=o.size;omega,fun i q=>(o.cell (p:=⟨g,off+i,none⟩) h.1).trans (h.2 i q)⟩
open Classical in
noncomputable def jI (cs:List Int)(N k:Nat):Array Value:=((List.range N).map fun j=>Value.bool (decide (∃i,i<k∧cs.getD i 0=(j:Nat)))).toArray
open Classical in
theorem qha {cs:List Int}{N k j:Nat}(h:j<N):(jI cs N k)[j]? =some (.bool (decide (∃i,i<k∧cs.getD i 0=(j:Nat)))):=by
 unfold jI;simp[h]
open Classical in
theorem qeX (cs:List Int)(N:Nat):jI cs N 0=(List.replicate N (Value.bool false)).toArray:=by
 unfold jI;congr 1
 apply List.ext_getElem?
 intro i;by_cases o:i<N
 ·simp[o]
 ·simp[o]
open Classical in
theorem qgn {cs:List Int}{N k o:Nat}(h:cs.getD k 0=(o:Nat)):(jI cs N k).setIfInBounds o (.bool true)=jI cs N (k+1):=by
 apply Array.ext'
 apply List.ext_getElem?
 intro j;unfold jI;rw[Array.toList_setIfInBounds,List.getElem?_set];by_cases I:o=j
 ·subst I;by_cases D:o<N
  ·simp[D]
   exact⟨k,by omega,h⟩
  ·simp[D]
 ·rw[if_neg I];by_cases D:j<N
  ·simp[D]
   constructor
   ·rintro⟨i,J,G⟩;exact⟨i,by omega,G⟩
   ·rintro⟨i,J,G⟩
    refine⟨i,?_,G⟩;rcases Nat.lt_or_ge i k with q|q
    ·exact q
    ·exfalso
     have:i=k:=by omega
     subst this;rw[Lg]at h;rw[h]at G;omega
  ·simp[D]
def qi6 (ti:Int)(cs:List Int)(LS:List (List Int))(n k:Nat):Prop:=(0≤cs.getD k 0∧cs.getD k 0<n)∧(∀i,i<k→cs.getD i 0≠cs.getD k 0)∧((LS.getD k []).length:Int)=ti
theorem qiq {D:Int}{cs:List Int}{q:List (List Int)}{n:Nat}(h: ∀k,k<n→qi6 D cs q n k):qbM D cs q n:=⟨fun i o=>(h i o).1,fun i j G I=>(h j I).2.1 i G,fun i o=>(h i o).2.2⟩
theorem qaW {D:Int}{cs:List Int}{q:List (List Int)}{n k:Nat}(h:qbM D cs q n)(o:k<n):qi6 D cs q n k:=⟨h.1 k o,fun i G=>h.2.1 i k G o,h.2.2 k o⟩
end Go.Proofs.YthjoojnlnlmljaaGreat
namespace Go.Proofs.YthjoojnlnlmljaaGreat
open Go.ChangeShapes Go.WideShapes Go.ChangeAt Go.RowKit Go.Joins Go.Shelf Go.Maps
open Go.Lib (hid)
theorem qez {W:World}{b:Nat}(h:W.heap[b]? =some (.map #[] 0)):MapIs W b 0 (fun _=>none):=
 ⟨_,⟨#[],0,h,⟨by simp,Go.MapKept.stamped_empty 0,by simp⟩,Nat.le_refl _,rfl⟩,fun j _=>⟨rfl,fun v o=>by cases o⟩⟩
theorem qfw {t:TreeV}{total B:Nat}{ra:Option Addr}{rc:Nat}{v:Value}{W:World}(kz z1 z2:List Int)(hl:0≤t.l∧t.l≤4294967295)(he:t.err total=0){L0:List (List Int)}(h0:L0.length=lvs total t.ln)(h1: ∀z∈L0,z.length≤64)(sv:Nat→Value)
  (h:PtrV t total B ((t.rowsOf total).length+1) (.slice ra (t.rowsOf total).length rc) v W): ∃D I G J,v= .pointer (some ⟨D,0,none⟩)∧B≤D∧je t kz z1 z2 total L0 B D I G J 0 ra rc sv [] 0 W:=by
 obtain⟨D,I,G,J,rfl,k0,k4,⟨X,e1,k5,k6⟩,⟨Y,e2,k7,k8⟩,⟨Z,e3,k9,aa⟩⟩:=h;obtain rfl:J=X:=by simpa using e1
 obtain rfl:I=Y:=by simpa using e2
 obtain rfl:G=Z:=by simpa using e3
 have O:=qM he;have U: ∀r,((List.replicate ((t.rowsOf total).length+1) (Value.slice none 0 0)).getD r undef).ownBlock=none:=fun r=>by
  rw[Lg,List.getElem?_replicate];split<;>rfl
 have q: ∀r,r+1<(t.rowsOf total).length→NodC t kz z1 z2 L0 total r 0:=fun r o=>qiV hl he kz z1 z2 h0 h1 o (zX O (r+1) o)
 refine⟨D,I,G,J,rfl,k0,fun _=>0,fun _=>[],List.replicate ((t.rowsOf total).length+1) (Value.slice none 0 0),.slice none 0 0,fun _=>none,⟨k4,k8,List.length_replicate,aa,fun r o=>?_,fun r o z hz=>(by cases hz),fun r s g _ hg=>(by rw[U]at hg;cases hg),⟨k0,k7,k9⟩⟩,qez k6,k5,fun j=>by simp,.inl ⟨zX O 0 (by have:=O.len;omega),rfl,rfl,fun r _ o=>⟨zX O (r+1) o,?_,?_⟩,fun r o=>?_⟩⟩
 ·rw[Lg,List.getElem?_replicate,if_pos o];exact Wo _ _ _ _
 ·show t.frC total r 0≤0
  rw[(q r o).first rfl];exact Nat.le_refl _
 ·show 0<t.toC total r 0
  have:=(q r o).lt;omega
 ·show []=t.segC kz z1 z2 L0 total r 0 0
  have V:=t.segC_self kz z1 z2 L0 total r 0;rw[(q r o).first rfl]at V;exact V.symm
theorem Hold.enc {w:World}{v:Value}{zs:List Int}(h:Hold w v zs)(q:zs≠[]): ∃d,qaO v=some (d,[]):=by
 rcases h.2 with⟨rfl, -⟩|⟨G,D,rfl, -, -,o⟩
 ·exact absurd rfl q
 ·rcases o with o|⟨b,off,rfl, -⟩
  ·exact absurd o q
  ·exact⟨_,rfl⟩
theorem Hold.blockLt {w:World}{v:Value}{zs:List Int}(h:Hold w v zs)(D:zs≠[]): ∀b,v.ownBlock=some b→b<w.heap.size:=by
 rcases h.2 with⟨rfl, -⟩|⟨J,I,rfl, -, -,o⟩
 ·exact absurd rfl D
 ·rcases o with o|⟨b,off,rfl,G⟩
  ·exact absurd o D
  ·intro b' q
   cases q
   exact G.1
def YZ (cs:List Int)(LS:List (List Int))(N:Nat):List (List Int):=(List.range N).map fun leaf=>LS.getD (zV cs (leaf:Nat) N).toNat []
theorem Yv (cs:List Int)(o:List (List Int))(N:Nat):(YZ cs o N).length=N:=by unfold YZ;simp
theorem qgK {cs:List Int}{o:List (List Int)}{N j:Nat}(h:j<N):qQ (YZ cs o N) j=o.getD (zV cs (j:Nat) N).toNat []:=by
 unfold YZ qQ;rw[Lg,List.getElem?_map,List.getElem?_range h];rfl
theorem qaw {O:Int}{cs:List Int}{J:List (List Int)}{N i:Nat}(h:qbM O cs J N)(G:i<N):zV cs (cs.getD i 0) N=i:=by
 rcases Y8 cs (cs.getD i 0) N with⟨-,o⟩|⟨k,I,o,D⟩
 ·exact absurd rfl (o i G)
 ·rw[o];rcases Nat.lt_trichotomy i k with q|q|q
  ·exact absurd D.symm (h.2.1 i k q I)
  ·rw[q]
  ·exact absurd D (h.2.1 k i q G)
theorem qd9 {G:Int}{cs:List Int}{q:List (List Int)}{N i o:Nat}(h:qbM G cs q N)(D:i<N)(e:cs.getD i 0=(o:Nat)):qQ (YZ cs q N) o=q.getD i []:=by
 have I:=(h.1 i D).2;rw[e]at I;rw[qgK (by omega),←e,qaw h D];simp
theorem j9 {J:Int}{cs:List Int}{G:List (List Int)}{N o:Nat}(h:qbM J cs G N)(I:o<N): ∃i,i<N∧cs.getD i 0=(o:Nat):=by
 obtain⟨i,V,O, -⟩:=qd3.1 h o I;rcases Y8 cs (o:Nat) N with⟨q, -⟩|⟨k,q,U,D⟩
 ·omega
 ·exact⟨k,q,D⟩
theorem qcu {G:Int}{cs:List Int}{q:List (List Int)}{N:Nat}(h:qbM G cs q N): ∀z∈YZ cs q N,(z.length:Int)=G:=by
 intro z D;unfold YZ at D;obtain⟨o,J,rfl⟩:=List.mem_map.1 D;obtain⟨i,U,I,O⟩:=qd3.1 h o (List.mem_range.1 J);rw[I];simpa using O
def zB (cs:List Int)(sv:Nat→Value)(N leaf:Nat):Value:=sv (zV cs (leaf:Nat) N).toNat
theorem qd8 {I:Int}{cs:List Int}{G:List (List Int)}{N i o:Nat}(h:qbM I cs G N)(D:i<N)(e:cs.getD i 0=(o:Nat))(q:Nat→Value):zB cs q N o=q i:=by
 unfold zB;rw[←e,qaw h D];simp
end Go.Proofs.YthjoojnlnlmljaaGreat
namespace Go.Proofs.YthjoojnlnlmljaaGreat
open Go.ChangeShapes Go.WideShapes Go.ChangeAt Go.RowKit Go.Joins Go.Shelf Go.Maps
open Go.Lib (hid)
attribute [local go_sem] Oper.semAt_some
def slA:Value→Option Addr| .slice a _ _=>a|_=>none
def slC:Value→Nat| .slice _ _ c=>c|_=>0
theorem PtrV.mono {t:TreeV}{total B o n:Nat}{q v:Value}{W:World}(h:PtrV t total B n q v W)(hb:o≤B):PtrV t total o n q v W:=by
 obtain⟨O,V,G,bw,e,h0,Y,⟨Z,D,y2,y3⟩,⟨I,y4,y5,y6⟩,⟨X,U,y8,J⟩⟩:=h;exact⟨O,V,G,bw,e,by omega,Y,⟨Z,D,by omega,y3⟩,⟨I,y4,by omega,y6⟩,⟨X,U,by omega,J⟩⟩
theorem OwnB.form {B:Nat}{W:World}{v:Value}{z:List Int}(h:OwnB B W v z): ∃a c,v= .slice a z.length c:=by
 obtain⟨a,c,e, -⟩:=h.hold.slice;exact⟨a,c,e⟩
theorem qdV (t:TreeV)(kz z1 z2:List Int)(hl:0≤t.l∧t.l≤4294967295)(total:Nat)(ht:(total:Int)≤18446744073709551615)(he:t.err total=0)(N:Nat)(hN:lvs total t.ln=N)(hn:N≤1024)(cs:List Int)(LS:List (List Int))(be:cs.length=N)(a4:LS.length=N)(sv:Nat→Value)(go oo gs so oc sc:Nat)(w:World)(hT:TreeOk t kz z1 z2 w)(ho:NumsH w go oo cs)(hs:SumsH w gs so sv LS)(bY:(N:Int)≤oc)(b5:(N:Int)≤sc):
  Calls Tryz.prog 45 #[t.val,.int .u64 (total:Nat),.slice (some ⟨go,oo,none⟩) N oc,.slice (some ⟨gs,so,none⟩) N sc] w fun e w'=>(e= .returned (.tuple #[.slice none 0 0,.int .i64 4])∧ ¬qbM t.i cs LS N∧Below w.heap.size w w')∨(∃u,e= .returned (.tuple #[u,.int .i64 0])∧qbM t.i cs LS N∧OwnB w.heap.size w' u (qQ (t.lvlZ kz z1 z2 (YZ cs LS N) ((t.rowsOf total).length - 1)) 0)∧Below w.heap.size w w'):=by
 obtain⟨D,Y⟩:=Ex w.heap.size;obtain⟨ib,aX,bd,af,bp⟩:=info_parts qgL;have HR:=hid (qgm t hl total ht he);have HE:=hid he;have HT:=hid hT;have aC:=hid hN;have aB:(t.rowsOf total).length≤255:=by have:=(qM he).most;have:=(qq (qW he)).2.2.2.2.2.2.2.1;unfold TreeV.pn at*;omega
 have bE:=hid aB;have aS:=hid (show 1≤t.i∧t.i≤64 by
  have h:=qq (qW he);have h2:zt t.k≤64:=by unfold zt;split<;>omega
  omega)
 have aP:=qM he;have bD:2≤(Qt t.fn t.pn (lvs total t.ln)).length:=aP.len;have ab:nth (Qt t.fn t.pn (lvs total t.ln)) 0=lvs total t.ln:=aP.first
 obtain⟨R,hR⟩:=Ex (Qt t.fn t.pn (lvs total t.ln));rw[hR]at HR bD ab;have aK:=hid (show t.rowsOf total=R from hR);have bC:=hid ab;rw[hN]at ab;have bW: ¬((1024:Int)<(N:Int)):=by omega
 have b6:IntKind.i64.wrap (N:Int)=(N:Int):=by rw[IntKind.wrap_i64]<;>omega
 have aI:=fun W:World=>run_make (P:=Tryz.prog) W 143 4 ib (.bool false) Tryz.underlying143 aX bd .i64 .i64 (N:Int) (N:Int) (by omega) (by omega) (by rw[bp];omega) (by omega)
 simp only[af,Int.toNat_natCast,Nat.mul_one]at aI;have br:madeCells (Value.bool false).cells N=jI cs N 0:=by
  rw[qeX];apply Array.toList_inj.1
  exact toList_madeCells_one _ _
 rw[br]at aI;have bq:=hid be;have aG:=hid a4;have HO:=hid (fun(W:World) (hb:Below D w W)=>ho.below (Y▸hb));have bk:=hid (fun(W:World) (hb:Below D w W)=>hs.below (Y▸hb));have b3:=hid ho;have bF:=hid hs;clear he aP hR aX bd af bp br ho hs be a4 hT aB;unfold TreeV.val at*;go_enter Tryz.func45,Tryz.ntmps45
 go_upto_region 1 with(fail)
 refine qm ?_;intro wA aR;have au:wA.heap[D]? =some (.cells #[.int .i64 t.k,.int .i64 t.d,.int .i64 t.f,.int .i64 t.p,.int .u32 t.l,.int .i64 t.i,.slice t.ka t.kl t.kc,.slice t.sa t.sl t.sc,.slice t.pa t.pl t.pc] 26 (0,0)):=by rw[aR];exact qe _ _ Y.symm
 have a8:Below D w wA:=by rw[aR,←Y];exact Br.alloc Nl _
 have b7:D<wA.heap.size:=(Ai au).1;clear aR;go_wp2_with ((with_reducible show wpList _ _ _ (Oper.mk _ (Op.load 26 _) _ _ _ _::_) _ _);refine wpList_load_row rfl 26 _ rfl D rfl _ _ _ _ au Tryz.underlying26 rfl (by kernel_rfl) ?_)
 refine(HR.out wA).mono ?_;rintro e w1 ⟨v,rfl,hv,ay⟩;obtain⟨g,aA,rfl, -,hg,bj⟩:=qcO hv (by omega);have c0:w1.cell? ⟨g,0,none⟩=some (.int .u64 (N:Nat)):=bj 0 _ (by rw[←ab];unfold nth;rw[List.getElem?_map,Lg,List.getElem?_eq_getElem (by omega)];rfl);have HB:=hid (a8.trans (ay.mono (show D≤wA.heap.size by omega)));have aZ:=qg au ay;have ax:D<w1.heap.size:=by have:=ay.size;omega
 have HV:=hid hv;have ag:((N:Int) != (N:Int))=false:=by simp
 obtain⟨bs,aT⟩:=Ex w1.heap.size;clear ay a8 au HR bj hv ab hN;go_upto_region 10 with(refine yr (by rfl) ?_)
 refine qm ?_;intro w2 aN;have aV:w2.heap[bs]? =some (.cells (jI cs N 0) 4 (0,0)):=by rw[aN];exact qe _ _ aT.symm
 have aU:Below bs w1 w2:=by rw[aN,←aT];exact Br.alloc Nl _
 have bh:=(aU.block D (by omega)).trans aZ;have bS:=hid (HB.out.trans (aU.mono (show D≤bs by omega)));have bb:=hid aV;have bJ:=hid bh;have bz:D<bs:=by omega
 have bX:bs<w2.heap.size:=(Ai aV).1;clear aN aV bh aU aZ aI HB c0 hg aT ax HV;clear w1;go_wp2_with fail
 go_loopw [50] (fun i W=> ∃k:Nat,i= .int .i64 (k:Nat)∧k≤N∧W.heap[bs]? =some (.cells (jI cs N k) 4 (0,0))∧(∀j,j<k→qi6 t.i cs LS N j)∧Below bs w2 W) (fun i _=>N - (intOf i).toNat)
 case atStart=>exact⟨0,rfl,Nat.zero_le _,bb.out,(fun j hj=>by omega),Below.refl _ _⟩
 case round=>
  clear bb;obtain⟨k,rfl,hk,aw,al,hb⟩:=hrel;have I:Below D w wr:=bS.out.trans (hb.mono (by omega));have av:=(hb.block D bz).trans bJ.out;have ae:wr.cell? ⟨D,5,none⟩=some (.int .i64 t.i):=qd av 5;have aJ:bs<wr.heap.size:=(Ai aw).1;have bv:D<wr.heap.size:=by omega
  by_cases U:k<N
  case pos=>
   have bx:(k:Int)<(N:Int):=by omega
   obtain⟨a9,am⟩:=HO.out wr I;obtain⟨ax,aa⟩:=bk.out wr I;have co:=am k (by rw[bq.out];exact U);obtain⟨Z,hh⟩:=aa k (by rw[aG.out];exact U);obtain⟨xa,xc,ex, -, -⟩:=hh.slice;rw[ex]at Z;obtain⟨c,hc⟩:=Ex (cs.getD k 0);obtain⟨ln,ad⟩:=Ex ((LS.getD k []).length);rw[hc]at co;rw[ad]at Z;have HC:=hid hc;have bf:=hid ad;have bQ:=hid al;have J:=hid I;have bg:=hid aw;have HB:=hid hb;clear am aa hh ex hc ad al I aw hb av;by_cases h1:c<0
   case pos=>
    go_upto_region 13 with(fail)
    go_quiet (fail)
    go_upto_if 77 with(fail)
    refine qm ?_;intro V hV;have X:=hid (J.out.trans ((show Below wr.heap.size wr V by rw[hV];exact below_draws _ _ _).mono (show D≤wr.heap.size by omega)));clear hV co Z ae;go_wp2_with fail
    exact Bp (results_tmp2 rfl _ _ _) rfl (.inl ⟨rfl,fun h=>by have:=(qaW h U).1.1;rw[HC.out]at this;omega,by first|exact X.out|(rw[Y];exact X.out)⟩)
   by_cases h2:(N:Int)≤c
   case pos=>
    go_upto_region 13 with(fail)
    go_quiet (fail)
    go_upto_if 77 with(fail)
    refine qm ?_;intro V hV;have X:=hid (J.out.trans ((show Below wr.heap.size wr V by rw[hV];exact below_draws _ _ _).mono (show D≤wr.heap.size by omega)));clear hV co Z ae;go_wp2_with fail
    exact Bp (results_tmp2 rfl _ _ _) rfl (.inl ⟨rfl,fun h=>by have:=(qaW h U).1.2;rw[HC.out]at this;omega,by first|exact X.out|(rw[Y];exact X.out)⟩)
   obtain⟨o,rfl⟩: ∃o:Nat,c=o:=⟨c.toNat,by omega⟩;have aD:o<N:=by omega
   obtain⟨sb,af⟩: ∃sb,decide (∃i,i<k∧cs.getD i 0=(o:Nat))=sb:=⟨_,rfl⟩;have ap:wr.cell? ⟨bs,o,none⟩=some (.bool sb):=by rw[←af];exact(qd bg.out o).trans (qha aD)
   have aW:=hid af;clear af
   cases sb
   case true=>
    go_upto_region 13 with(fail)
    go_quiet (fail)
    go_upto_if 77 with(fail)
    refine qm ?_;intro V hV;have X:=hid (J.out.trans ((show Below wr.heap.size wr V by rw[hV];exact below_draws _ _ _).mono (show D≤wr.heap.size by omega)));clear hV co Z ae ap;go_wp2_with fail
    exact Bp (results_tmp2 rfl _ _ _) rfl (.inl ⟨rfl,fun h=>by obtain⟨j,j1,j2⟩:=of_decide_eq_true aW.out;exact(qaW h U).2.1 j j1 (j2.trans HC.out.symm),by first|exact X.out|(rw[Y];exact X.out)⟩)
   by_cases h3:(ln:Int)=t.i
   case neg=>
    have h4:((ln:Int) != t.i)=true:=by rw[bne_iff_ne];exact h3
    go_upto_region 13 with(fail)
    go_quiet (fail)
    go_upto_if 77 with(fail)
    refine qm ?_;intro V hV;have X:=hid (J.out.trans ((show Below wr.heap.size wr V by rw[hV];exact below_draws _ _ _).mono (show D≤wr.heap.size by omega)));clear hV co Z ae ap h4;go_wp2_with fail
    exact Bp (results_tmp2 rfl _ _ _) rfl (.inl ⟨rfl,fun h=>by have:=(qaW h U).2.2;rw[bf.out]at this;exact h3 this,by first|exact X.out|(rw[Y];exact X.out)⟩)
   have h4:((ln:Int) != t.i)=false:=by rw[h3];simp
   have H3:=hid h3;clear h3;go_upto_region 13 with(fail)
   go_quiet (fail)
   go_upto_if 77 with(fail)
   refine qm ?_;intro V hV;have aq:Below wr.heap.size wr V:=by rw[hV];exact below_draws _ _ _
   have az:=qg bg.out aq;have bZ:=frozen_of_row V bs o _ _ az;have b4:V.cell? ⟨bs,o,none⟩=some (.bool false):=(aq.cell (p:=⟨bs,o,none⟩) aJ).trans ap;have bV:bs<V.heap.size:=(Ai az).1;have bP:=hid az;have X:=hid (HB.out.trans (aq.mono (by omega)));clear hV co Z ae ap h4 aq az;go_wp2_with fail
   refine⟨⟨k+1,by go_num,by omega,by rw[←qgn HC.out];exact block_setCell bP.out _,fun j hj=>?_,X.out.setCell Nl _⟩,by simp[intOf];omega⟩;by_cases e:j=k
   ·subst e;refine⟨by rw[HC.out];omega,fun i hi=>?_,by rw[bf.out];exact H3.out⟩;rw[HC.out];exact fun e=>(of_decide_eq_false aW.out) ⟨i,hi,e⟩
   ·exact bQ.out j (by omega)
  have ai:k=N:=by omega
  have aF: ¬((k:Int)<(N:Int)):=by omega
  rw[ai]at al;have G:=hid (qiq al);have J:=hid I;clear aw al I ae hb ai hk;go_upto_region 17 with(fail)
  go_wp2_with ((with_reducible show wpList _ _ _ (Oper.mk _ (Op.load 26 _) _ _ _ _::_) _ _);refine wpList_load_row rfl 26 _ rfl D rfl _ _ _ _ av Tryz.underlying26 rfl (by kernel_rfl) ?_)
  refine(qfk t total R.length (by rw[←aK.out];exact bE.out) _ _ wr).mono ?_;rintro e wC ⟨⟨vC,rfl,aE⟩,a5⟩;rw[←aK.out]at aE;have aO:PtrV t total D ((t.rowsOf total).length+1) (.slice (some ⟨g,0,none⟩) (t.rowsOf total).length aA) vC wC:=aE.mono (by omega);have bN:=hid (J.out.trans (a5.mono (show D≤wr.heap.size by omega)));obtain⟨bc,bo,bm,bw,rfl,bU,a7⟩:=qfw kz z1 z2 hl HE.out (L0:=YZ cs LS N) (by rw[Yv,aC.out]) (fun z hz=>by have:=qcu G.out z hz;have:=aS.out;omega) (zB cs sv N) aO;have bl:=hid a7;have ak:nth (t.rowsOf total) 0=N:=by rw[aK.out];exact bC.out.trans aC.out
  have aL:=hid (show ∀j,j<nth (t.rowsOf total) 0→zB cs sv N j= .slice (slA (zB cs sv N j)) (qQ (YZ cs LS N) j).length (slC (zB cs sv N j))∧Hold w (zB cs sv N j) (qQ (YZ cs LS N) j)∧(∀b,(zB cs sv N j).ownBlock=some b→b<D)∧ ∃d,qaO (zB cs sv N j)=some (d,[]) from fun j hj=>by
   rw[ak]at hj;obtain⟨i,hi,e⟩:=j9 G.out hj;rw[qd8 G.out hi e,qd9 G.out hi e];have hh:=(bF.out.2 i (by rw[aG.out];exact hi)).2;have aY:LS.getD i []≠[]:=fun h=>by have:=G.out.2.2 i hi;rw[h]at this;have:=aS.out;simp at*;omega
   obtain⟨xa,xc,ex, -, -⟩:=hh.slice;refine⟨by rw[ex];rfl,hh,by rw[←Y];exact hh.blockLt aY,hh.enc aY⟩)
  have bn:=hid (show ∀r,nth (t.rowsOf total) r≤1048576 from fun r=>by
   by_cases hr:r<(t.rowsOf total).length
   ·have:=jY (qM HE.out) r hr
    rw[aC.out]at this;omega
   ·unfold nth;rw[Lg,List.getElem?_eq_none (by omega)];exact Nat.zero_le _)
  have bt:=hid (fun(W:World) (hW:Below D w W) (A:List Nat) (an q0 aH:Nat) (bI:an<N) (bL:an∉A) (hA: ∀j∈A,j<N) (ag: ∀j,j<q0→j∈A) (ac:q0∉A) (hc:aH<1048576) (hF:je t kz z1 z2 total (YZ cs LS N) D bc bo bm bw aH (some ⟨g,0,none⟩) aA (zB cs sv N) A q0 W)=>
   qfA t kz z1 z2 total ht HE.out (YZ cs LS N) (by rw[Yv,aC.out]) (fun z hz=>by have:=qcu G.out z hz;have:=aS.out;omega) bn.out D bc bo bm bw (some ⟨g,0,none⟩) aA w Y HT.out (zB cs sv N) (fun j=>slA (zB cs sv N j)) (fun j=>slC (zB cs sv N j)) aL.out A an q0 aH (by rw[ak];exact bI) bL (fun j hj=>by rw[ak];exact hA j hj) ag ac hc W hW hF)
  have bA:=hid ak;clear a5 aE aO a7 J av aJ bv U aF ak aL bn;clear wr;go_wp2_with fail
  go_loopw [88] (fun i W=> ∃k:Nat,i= .int .i64 (k:Nat)∧k≤N∧Below D w W∧ ∃(A:List Nat) (q:Nat),je t kz z1 z2 total (YZ cs LS N) D bc bo bm bw k (some ⟨g,0,none⟩) aA (zB cs sv N) A q W∧(∀j,j∈A↔ ∃i,i<k∧cs.getD i 0=(j:Nat))∧(∀j,j<q→j∈A)∧q∉A) (fun i _=>N - (intOf i).toNat)
  case atStart=>exact⟨0,rfl,Nat.zero_le _,bN.out,[],0,bl.out,(fun j=>by simp),(fun j hj=>by omega),by simp⟩
  case round=>
   clear bl;obtain⟨k,rfl,hk,I,A,q,hF,hA,ag,ac⟩:=hrel;by_cases U:k<N
   case pos=>
    have bx:(k:Int)<(N:Int):=by omega
    obtain⟨a9,am⟩:=HO.out wr I;obtain⟨ax,aa⟩:=bk.out wr I;have co:=am k (by rw[bq.out];exact U);obtain⟨Z,hh⟩:=aa k (by rw[aG.out];exact U);obtain⟨xa,xc,ex, -, -⟩:=hh.slice;rw[ex]at Z;have aD:=G.out.1 k U;obtain⟨o,aj⟩: ∃o:Nat,cs.getD k 0=o:=⟨(cs.getD k 0).toNat,by omega⟩;rw[aj]at co aD;have ah:=bt.out wr I A o q k (by omega) (fun h=>by
     obtain⟨i,i1,i2⟩:=(hA o).1 h;exact G.out.2.1 i k i1 U (i2.trans aj.symm)) (fun j hj=>by
     obtain⟨i,i1,i2⟩:=(hA j).1 hj;have:=(G.out.1 i (by omega)).2
     omega) ag ac (by omega) hF
    rw[qd8 G.out U aj,ex]at ah;obtain⟨ln,ad⟩:=Ex ((LS.getD k []).length);rw[ad]at Z ah;have ar:=hid ah;have a6:=hid aj;have HA:=hid hA;have J:=hid I;clear ah hh aa am hA hF ag ac I ad ex aj aD;go_wp2_with fail
    refine ar.out.mono ?_;rintro e wD ⟨rfl,ba,q',a3,aM,aQ⟩;have bG:=hid (J.out.trans ba);have bR:=hid a3;have bH:=hid aM;have bM:=hid aQ;clear ba a3 aM aQ co Z ar J a9 ax;go_wp2_with fail
    refine⟨⟨k+1,by go_num,by omega,bG.out,o::A,q',bR.out,fun j=>?_,bH.out,bM.out⟩,by simp[intOf];omega⟩;rw[List.mem_cons,HA.out j];constructor
    ·rintro(rfl|⟨i,i1,i2⟩)
     ·exact⟨k,by omega,a6.out⟩
     ·exact⟨i,by omega,i2⟩
    ·rintro⟨i,i1,i2⟩
     by_cases e:i=k
     ·subst e;refine .inl ?_;have:=a6.out
      omega
     ·exact .inr ⟨i,by omega,i2⟩
   have ai:k=N:=by omega
   have aF: ¬((k:Int)<(N:Int)):=by omega
   obtain⟨m,O,os,dv,S,hC, -, -, -,bi⟩:=hF;have ao:OwnB D wr dv (qQ (t.lvlZ kz z1 z2 (YZ cs LS N) ((t.rowsOf total).length - 1)) 0):=by
    rcases bi with h|h
    ·exfalso
     refine ac ((hA q).2 ?_);have:=h.1
     rw[bA.out]at this;rw[ai];exact j9 G.out this
    ·exact h.2
   have bO:wr.cell? ⟨bc,15,none⟩=some dv:=qd hC.box 15;have bT:bc<wr.heap.size:=(Ai hC.box).1;have bu:=hid ao;have J:=hid I;obtain⟨xa,xc,ex⟩:=ao.form;rw[ex]at bO;have bK:=hid ex;clear ao I hC bi ag ac hA ai ex;go_wp2_with fail
   exact Bp (results_tmp2 rfl _ _ _) rfl (.inr ⟨_,rfl,G.out,by have h:=bu.out;rw[bK.out]at h;first|exact h|(rw[Y];exact h),by first|exact J.out|(rw[Y];exact J.out)⟩)
end Go.Proofs.YthjoojnlnlmljaaGreat
