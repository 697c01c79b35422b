/- The pool's Fold, where the tree, the number of leaves or the lists do not fit. No condition. -/
import Derived.Test.YthjoojnlnlmljaaGreatF41
import Derived.Test.YthjoojnlnlmljaaGreatF42
set_option linter.all false
set_option maxRecDepth 100000
set_option maxHeartbeats 8000000
namespace Go.Proofs.YthjoojnlnlmljaaGreat
open Go.ChangeShapes Go.WideShapes Go.ChangeAt Go.RowKit Go.Joins Go.Shelf Go.Maps
open Go.Lib (hid)
attribute [local go_sem] Oper.semAt_some
theorem Q4 {P:Program}{ops:Array Oper}{Q:Exit→Act→World→Prop}{a:Act}{w:World}{o:List Oper}{d:Option Tmp}{q:Op}{G:TypeId}{I:String}{D:Array Edge}{g:Nat×Bool}
  (J:Region.wanted ⟨d,q,G,I,D,some g⟩ (yielded ops a.tmps)=true) (h:wpList P ops Q (⟨d,q,G,I,D,none⟩::o) a w):wpList P ops Q (⟨d,q,G,I,D,some g⟩::o) a w:=by
 unfold wpList at h⊢;rw[if_pos J];rw[if_pos (by rfl)]at h;exact h
theorem qcu (t:TreeV)(V:0≤t.l∧t.l≤4294967295)(total:Nat)(Y:(total:Int)≤18446744073709551615)(S:t.err total≠0)(X sv:Value)(w:World):
  Calls Tryz.prog 45 #[t.val,.int .u64 (total:Nat),X,sv] w fun e w'=>e= .returned (.tuple #[.slice none 0 0,.int .i64 (t.err total)])∧Below w.heap.size w w':=by
 obtain⟨D,o⟩:=Ex w.heap.size;have U:=hid (qek t V total Y S);have hq:(t.err total != 0)=true:=by rw[bne_iff_ne];exact S
 generalize t.err total=ev at*;clear S;unfold TreeV.val at*;go_enter Tryz.func45,Tryz.ntmps45
 go_upto_region 1 with(fail)
 refine qj ?_;intro G q;have I:G.heap[D]? =some (.cells #[.int .i64 t.k,.int .i64 t.d,.int .i64 t.f,.int .i64 t.p,.int .u32 t.l,.int .i64 t.i,.slice t.ka t.kl t.kc,.slice t.sa t.sl t.sc,.slice t.pa t.pl t.pc] 26 (0,0)):=by rw[q];exact qc _ _ o.symm
 have O:Below D w G:=by rw[q,←o];exact Br.alloc Nl _
 have aa:D<G.heap.size:=(Ai I).1;clear q;go_wp2_with ((with_reducible show wpList _ _ _ (Oper.mk _ (Op.load 26 _) _ _ _ _::_) _ _);refine wpList_load_row rfl 26 _ rfl D rfl _ _ _ _ I Tryz.underlying26 rfl (by kernel_rfl) ?_)
 refine(U.out G).mono ?_;rintro e w1 ⟨rfl,J⟩;have Z:=hid (O.trans (J.mono (show D≤G.heap.size by omega)));clear J O I U;go_wp2_with fail
 exact Bp (results_tmp2 rfl _ _ _) rfl ⟨rfl,by rw[o];exact Z.out⟩
theorem qbz (t:TreeV)(hl:0≤t.l∧t.l≤4294967295)(total:Nat)(ht:(total:Int)≤18446744073709551615)(X:t.err total=0)(hn:1024<lvs total t.ln)(ov sv:Value)(w:World):
  Calls Tryz.prog 45 #[t.val,.int .u64 (total:Nat),ov,sv] w fun e w'=>e= .returned (.tuple #[.slice none 0 0,.int .i64 2])∧Below w.heap.size w w':=by
 obtain⟨G,o⟩:=Ex w.heap.size;have Y:=hid (Jy t hl total ht X);have I:=qM X;have Z:2≤(Qe t.fn t.pn (lvs total t.ln)).length:=I.len;have q:nth (Qe t.fn t.pn (lvs total t.ln)) 0=lvs total t.ln:=I.first
 obtain⟨R,hR⟩:=Ex (Qe t.fn t.pn (lvs total t.ln));rw[hR]at Y Z q;generalize lvs total t.ln=N0 at*;have ac:((1024:Int)<(N0:Int)):=by omega
 clear X I hR hl;unfold TreeV.val at*;go_enter Tryz.func45,Tryz.ntmps45
 go_upto_region 1 with(fail)
 refine qj ?_;intro J D;have O:J.heap[G]? =some (.cells #[.int .i64 t.k,.int .i64 t.d,.int .i64 t.f,.int .i64 t.p,.int .u32 t.l,.int .i64 t.i,.slice t.ka t.kl t.kc,.slice t.sa t.sl t.sc,.slice t.pa t.pl t.pc] 26 (0,0)):=by rw[D];exact qc _ _ o.symm
 have U:Below G w J:=by rw[D,←o];exact Br.alloc Nl _
 have ab:G<J.heap.size:=(Ai O).1;clear D;go_wp2_with ((with_reducible show wpList _ _ _ (Oper.mk _ (Op.load 26 _) _ _ _ _::_) _ _);refine wpList_load_row rfl 26 _ rfl G rfl _ _ _ _ O Tryz.underlying26 rfl (by kernel_rfl) ?_)
 refine(Y.out J).mono ?_;rintro e w1 ⟨v,rfl,hv,S⟩;obtain⟨g,aa,rfl, -,hg,V⟩:=qen hv (by omega);have c0:w1.cell? ⟨g,0,none⟩=some (.int .u64 (N0:Nat)):=V 0 _ (by rw[←q];unfold nth;rw[List.getElem?_map,Lg,List.getElem?_eq_getElem (by omega)];rfl);have HB:=hid (U.trans (S.mono (show G≤J.heap.size by omega)));clear S U O Y V hv;go_wp2_with fail
 exact Bp (results_tmp2 rfl _ _ _) rfl ⟨rfl,by rw[o];exact HB.out⟩
theorem qb1:(Tryz.prog.info? 4).map (fun i=>(i.zero,i.size,i.bytes))=some (some (.bool false),1,1):=by kernel_rfl
theorem qbA (t:TreeV)(hl:0≤t.l∧t.l≤4294967295)(total:Nat)(ht:(total:Int)≤18446744073709551615)(he:t.err total=0)(hn:lvs total t.ln≤1024)(oa sa:Option Addr)(q oc Y sc:Nat)(al:(q:Int)≤9223372036854775807)(an:(Y:Int)≤9223372036854775807)(hx:q≠lvs total t.ln∨Y≠lvs total t.ln)(w:World):
  Calls Tryz.prog 45 #[t.val,.int .u64 (total:Nat),.slice oa q oc,.slice sa Y sc] w fun e w'=>e= .returned (.tuple #[.slice none 0 0,.int .i64 4])∧Below w.heap.size w w':=by
 obtain⟨I,G⟩:=Ex w.heap.size;obtain⟨ib,ac,Z,af,ae⟩:=info_parts qb1;have HR:=hid (Jy t hl total ht he);have U:=qM he;have ag:2≤(Qe t.fn t.pn (lvs total t.ln)).length:=U.len;have D:nth (Qe t.fn t.pn (lvs total t.ln)) 0=lvs total t.ln:=U.first
 obtain⟨R,hR⟩:=Ex (Qe t.fn t.pn (lvs total t.ln));rw[hR]at HR ag D;generalize lvs total t.ln=o at*;have ap: ¬((1024:Int)<(o:Int)):=by omega
 have ao:IntKind.i64.wrap (o:Int)=(o:Int):=by rw[IntKind.wrap_i64]<;>omega
 have ah:=fun W:World=>run_make (P:=Tryz.prog) W 143 4 ib (.bool false) Tryz.underlying143 ac Z .i64 .i64 (o:Int) (o:Int) (by omega) (by omega) (by rw[ae];omega) (by omega)
 simp only[af,Int.toNat_natCast,Nat.mul_one]at ah;clear he U hR hl ac Z af ae;unfold TreeV.val at*;go_enter Tryz.func45,Tryz.ntmps45
 go_upto_region 1 with(fail)
 refine qj ?_;intro V S;have X:V.heap[I]? =some (.cells #[.int .i64 t.k,.int .i64 t.d,.int .i64 t.f,.int .i64 t.p,.int .u32 t.l,.int .i64 t.i,.slice t.ka t.kl t.kc,.slice t.sa t.sl t.sc,.slice t.pa t.pl t.pc] 26 (0,0)):=by rw[S];exact qc _ _ G.symm
 have aa:Below I w V:=by rw[S,←G];exact Br.alloc Nl _
 have ak:I<V.heap.size:=(Ai X).1;clear S;go_wp2_with ((with_reducible show wpList _ _ _ (Oper.mk _ (Op.load 26 _) _ _ _ _::_) _ _);refine wpList_load_row rfl 26 _ rfl I rfl _ _ _ _ X Tryz.underlying26 rfl (by kernel_rfl) ?_)
 refine(HR.out V).mono ?_;rintro e w1 ⟨v,rfl,hv,O⟩;obtain⟨g,aj,rfl, -,hg,ab⟩:=qen hv (by omega);have c0:w1.cell? ⟨g,0,none⟩=some (.int .u64 (o:Nat)):=ab 0 _ (by rw[←D];unfold nth;rw[List.getElem?_map,Lg,List.getElem?_eq_getElem (by omega)];rfl);have HB:=hid (aa.trans (O.mono (show I≤V.heap.size by omega)));have ad:I≤w1.heap.size:=by have:=O.size;omega
 clear O aa X HR ab hv D;by_cases J:q=o
 case pos=>
  subst J;have ai:((q:Int) != (q:Int))=false:=by simp
  have am:((Y:Int) != (q:Int))=true:=by rw[bne_iff_ne];omega
  clear hx;go_wp2_with (refine Q4 (by rfl) ?_)
  exact Bp (results_tmp2 rfl _ _ _) rfl ⟨rfl,by rw[G];exact HB.out.alloc ad _⟩
 case neg=>
  have ai:((q:Int) != (o:Int))=true:=by rw[bne_iff_ne];omega
  clear hx J;go_wp2_with fail
  exact Bp (results_tmp2 rfl _ _ _) rfl ⟨rfl,by rw[G];exact HB.out.alloc ad _⟩
def SumsH (w:World)(g off:Nat)(sv:Nat→Value)(LS:List (List Int)):Prop:=g<w.heap.size∧ ∀i,i<LS.length→w.cell? ⟨g,off+i,none⟩=some (sv i)∧Hold w (sv i) (LS.getD i [])
theorem SumsH.below {w w':World}{g off:Nat}{q:Nat→Value}{D:List (List Int)}(h:SumsH w g off q D)(o:Below w.heap.size w w'):SumsH w' g off q D:=
 ⟨by have:=h.1;have:=o.size;omega,fun i G=>⟨(o.cell (p:=⟨g,off+i,none⟩) h.1).trans (h.2 i G).1,(h.2 i G).2.below o⟩⟩
def NumsH (w:World)(g off:Nat)(cs:List Int):Prop:=g<w.heap.size∧ ∀i,i<cs.length→w.cell? ⟨g,off+i,none⟩=some (.int .i64 (cs.getD i 0))
theorem NumsH.below {w w':World}{g off:Nat}{cs:List Int}(h:NumsH w g off cs)(o:Below w.heap.size w w'):NumsH w' g off cs:=
 ⟨by have:=h.1;have:=o.size;omega,fun i q=>(o.cell (p:=⟨g,off+i,none⟩) h.1).trans (h.2 i q)⟩
open Classical in
noncomputable def jp (cs:List Int)(N k:Nat):Array Value:=((List.range N).map fun j=>Value.bool (decide (∃i,i<k∧cs.getD i 0=(j:Nat)))).toArray
open Classical in
theorem qgx {cs:List Int}{N k j:Nat}(h:j<N):(jp cs N k)[j]? =some (.bool (decide (∃i,i<k∧cs.getD i 0=(j:Nat)))):=by
 unfold jp;simp[h]
open Classical in
theorem qem (cs:List Int)(N:Nat):jp cs N 0=(List.replicate N (Value.bool false)).toArray:=by
 unfold jp;congr 1
 apply List.ext_getElem?
 intro i;by_cases o:i<N
 ·simp[o]
 ·simp[o]
open Classical in
theorem qfP {cs:List Int}{N k o:Nat}(h:cs.getD k 0=(o:Nat)):(jp cs N k).setIfInBounds o (.bool true)=jp cs N (k+1):=by
 apply Array.ext'
 apply List.ext_getElem?
 intro j;unfold jp;rw[Array.toList_setIfInBounds,List.getElem?_set];by_cases I:o=j
 ·subst I;by_cases D:o<N
  ·simp[D]
   exact⟨k,by omega,h⟩
  ·simp[D]
 ·rw[if_neg I];by_cases D:j<N
  ·simp[D]
   constructor
   ·rintro⟨i,J,G⟩;exact⟨i,by omega,G⟩
   ·rintro⟨i,J,G⟩
    refine⟨i,?_,G⟩;rcases Nat.lt_or_ge i k with q|q
    ·exact q
    ·exfalso
     have:i=k:=by omega
     subst this;rw[Lg]at h;rw[h]at G;omega
  ·simp[D]
def qit (ti:Int)(cs:List Int)(LS:List (List Int))(n k:Nat):Prop:=(0≤cs.getD k 0∧cs.getD k 0<n)∧(∀i,i<k→cs.getD i 0≠cs.getD k 0)∧((LS.getD k []).length:Int)=ti
theorem qhM {q:Int}{cs:List Int}{D:List (List Int)}{n:Nat}(h: ∀k,k<n→qit q cs D n k):qbi q cs D n:=⟨fun i o=>(h i o).1,fun i j G I=>(h j I).2.1 i G,fun i o=>(h i o).2.2⟩
theorem qas {q:Int}{cs:List Int}{D:List (List Int)}{n k:Nat}(h:qbi q cs D n)(o:k<n):qit q cs D n k:=⟨h.1 k o,fun i G=>h.2.1 i k G o,h.2.2 k o⟩
end Go.Proofs.YthjoojnlnlmljaaGreat
namespace Go.Proofs.YthjoojnlnlmljaaGreat
open Go.ChangeShapes Go.WideShapes Go.ChangeAt Go.RowKit Go.Joins Go.Shelf Go.Maps
open Go.Lib (hid)
theorem qdZ {W:World}{b:Nat}(h:W.heap[b]? =some (.map #[] 0)):MapIs W b 0 (fun _=>none):=
 ⟨_,⟨#[],0,h,⟨by simp,Go.MapKept.stamped_empty 0,by simp⟩,Nat.le_refl _,rfl⟩,fun j _=>⟨rfl,fun v o=>by cases o⟩⟩
theorem qeW {t:TreeV}{total B:Nat}{ra:Option Addr}{rc:Nat}{v:Value}{W:World}(kz z1 z2:List Int)(hl:0≤t.l∧t.l≤4294967295)(V:t.err total=0){L0:List (List Int)}(h0:L0.length=lvs total t.ln)(h1: ∀z∈L0,z.length≤64)(sv:Nat→Value)
  (h:PtrV t total B ((t.rowsOf total).length+1) (.slice ra (t.rowsOf total).length rc) v W): ∃D G J O,v= .pointer (some ⟨D,0,none⟩)∧B≤D∧ZV t kz z1 z2 total L0 B D G J O 0 ra rc sv [] 0 W:=by
 obtain⟨D,G,J,O,rfl,k0,k4,⟨Z,e1,k5,k6⟩,⟨ab,e2,k7,k8⟩,⟨aa,e3,k9,Y⟩⟩:=h;obtain rfl:O=Z:=by simpa using e1
 obtain rfl:G=ab:=by simpa using e2
 obtain rfl:J=aa:=by simpa using e3
 have I:=qM V;have S: ∀r,((List.replicate ((t.rowsOf total).length+1) (Value.slice none 0 0)).getD r undef).ownBlock=none:=fun r=>by
  rw[Lg,List.getElem?_replicate];split<;>rfl
 have q: ∀r,r+1<(t.rowsOf total).length→NodC t kz z1 z2 L0 total r 0:=fun r o=>qii hl V kz z1 z2 h0 h1 o (zH I (r+1) o)
 refine⟨D,G,J,O,rfl,k0,fun _=>0,fun _=>[],List.replicate ((t.rowsOf total).length+1) (Value.slice none 0 0),.slice none 0 0,fun _=>none,⟨k4,k8,List.length_replicate,Y,fun r o=>?_,fun r o z hz=>(by cases hz),fun r s g _ X=>(by rw[S]at X;cases X),⟨k0,k7,k9⟩⟩,qdZ k6,k5,fun j=>by simp,.inl ⟨zH I 0 (by have:=I.len;omega),rfl,rfl,fun r _ o=>⟨zH I (r+1) o,?_,?_⟩,fun r o=>?_⟩⟩
 ·rw[Lg,List.getElem?_replicate,if_pos o];exact Wo _ _ _ _
 ·show t.frC total r 0≤0
  rw[(q r o).first rfl];exact Nat.le_refl _
 ·show 0<t.toC total r 0
  have:=(q r o).lt;omega
 ·show []=t.segC kz z1 z2 L0 total r 0 0
  have U:=t.segC_self kz z1 z2 L0 total r 0;rw[(q r o).first rfl]at U;exact U.symm
theorem Hold.enc {w:World}{v:Value}{zs:List Int}(h:Hold w v zs)(q:zs≠[]): ∃d,qal v=some (d,[]):=by
 rcases h.2 with⟨rfl, -⟩|⟨G,D,rfl, -, -,o⟩
 ·exact absurd rfl q
 ·rcases o with o|⟨b,off,rfl, -⟩
  ·exact absurd o q
  ·exact⟨_,rfl⟩
theorem Hold.blockLt {w:World}{v:Value}{zs:List Int}(h:Hold w v zs)(q:zs≠[]): ∀b,v.ownBlock=some b→b<w.heap.size:=by
 rcases h.2 with⟨rfl, -⟩|⟨J,I,rfl, -, -,o⟩
 ·exact absurd rfl q
 ·rcases o with o|⟨b,off,rfl,G⟩
  ·exact absurd o q
  ·intro b' D
   cases D
   exact G.1
def yQ (cs:List Int)(LS:List (List Int))(N:Nat):List (List Int):=(List.range N).map fun leaf=>LS.getD (yv cs (leaf:Nat) N).toNat []
theorem yn (cs:List Int)(o:List (List Int))(N:Nat):(yQ cs o N).length=N:=by unfold yQ;simp
theorem qga {cs:List Int}{o:List (List Int)}{N j:Nat}(h:j<N):Qi (yQ cs o N) j=o.getD (yv cs (j:Nat) N).toNat []:=by
 unfold yQ Qi;rw[Lg,List.getElem?_map,List.getElem?_range h];rfl
theorem J3 {I:Int}{cs:List Int}{O:List (List Int)}{N i:Nat}(h:qbi I cs O N)(G:i<N):yv cs (cs.getD i 0) N=i:=by
 rcases Yy cs (cs.getD i 0) N with⟨-,o⟩|⟨k,J,o,D⟩
 ·exact absurd rfl (o i G)
 ·rw[o];rcases Nat.lt_trichotomy i k with q|q|q
  ·exact absurd D.symm (h.2.1 i k q J)
  ·rw[q]
  ·exact absurd D (h.2.1 k i q G)
theorem qdB {G:Int}{cs:List Int}{q:List (List Int)}{N i o:Nat}(h:qbi G cs q N)(D:i<N)(e:cs.getD i 0=(o:Nat)):Qi (yQ cs q N) o=q.getD i []:=by
 have I:=(h.1 i D).2;rw[e]at I;rw[qga (by omega),←e,J3 h D];simp
theorem jI {G:Int}{cs:List Int}{J:List (List Int)}{N o:Nat}(h:qbi G cs J N)(D:o<N): ∃i,i<N∧cs.getD i 0=(o:Nat):=by
 obtain⟨i,U,O, -⟩:=ZJ.1 h o D;rcases Yy cs (o:Nat) N with⟨q, -⟩|⟨k,q,S,I⟩
 ·omega
 ·exact⟨k,q,I⟩
theorem jb {D:Int}{cs:List Int}{G:List (List Int)}{N:Nat}(h:qbi D cs G N): ∀z∈yQ cs G N,(z.length:Int)=D:=by
 intro z q;unfold yQ at q;obtain⟨o,J,rfl⟩:=List.mem_map.1 q;obtain⟨i,S,I,O⟩:=ZJ.1 h o (List.mem_range.1 J);rw[I];simpa using O
def Ym (cs:List Int)(sv:Nat→Value)(N leaf:Nat):Value:=sv (yv cs (leaf:Nat) N).toNat
theorem qaY {D:Int}{cs:List Int}{G:List (List Int)}{N i o:Nat}(h:qbi D cs G N)(I:i<N)(e:cs.getD i 0=(o:Nat))(q:Nat→Value):Ym cs q N o=q i:=by
 unfold Ym;rw[←e,J3 h I];simp
end Go.Proofs.YthjoojnlnlmljaaGreat
namespace Go.Proofs.YthjoojnlnlmljaaGreat
open Go.ChangeShapes Go.WideShapes Go.ChangeAt Go.RowKit Go.Joins Go.Shelf Go.Maps
open Go.Lib (hid)
attribute [local go_sem] Oper.semAt_some
def slA:Value→Option Addr| .slice a _ _=>a|_=>none
def slC:Value→Nat| .slice _ _ c=>c|_=>0
theorem PtrV.mono {t:TreeV}{total B o n:Nat}{q v:Value}{W:World}(h:PtrV t total B n q v W)(hb:o≤B):PtrV t total o n q v W:=by
 obtain⟨I,G,V,Y,e,h0,S,⟨J,D,y2,Z⟩,⟨x2,O,y5,U⟩,⟨x3,X,y8,y9⟩⟩:=h;exact⟨I,G,V,Y,e,by omega,S,⟨J,D,by omega,Z⟩,⟨x2,O,by omega,U⟩,⟨x3,X,by omega,y9⟩⟩
theorem OwnB.form {B:Nat}{W:World}{v:Value}{z:List Int}(h:OwnB B W v z): ∃a c,v= .slice a z.length c:=by
 obtain⟨a,c,e, -⟩:=h.hold.slice;exact⟨a,c,e⟩
theorem J1 (t:TreeV)(kz z1 z2:List Int)(hl:0≤t.l∧t.l≤4294967295)(total:Nat)(ht:(total:Int)≤18446744073709551615)(he:t.err total=0)(N:Nat)(hN:lvs total t.ln=N)(hn:N≤1024)(cs:List Int)(LS:List (List Int))(bf:cs.length=N)(bl:LS.length=N)(sv:Nat→Value)(go oo gs so oc sc:Nat)(w:World)(hT:TreeOk t kz z1 z2 w)(ho:NumsH w go oo cs)(hs:SumsH w gs so sv LS)(bX:(N:Int)≤oc)(b7:(N:Int)≤sc):
  Calls Tryz.prog 45 #[t.val,.int .u64 (total:Nat),.slice (some ⟨go,oo,none⟩) N oc,.slice (some ⟨gs,so,none⟩) N sc] w fun e w'=>(e= .returned (.tuple #[.slice none 0 0,.int .i64 4])∧ ¬qbi t.i cs LS N∧Below w.heap.size w w')∨(∃u,e= .returned (.tuple #[u,.int .i64 0])∧qbi t.i cs LS N∧OwnB w.heap.size w' u (Qi (t.lvlZ kz z1 z2 (yQ cs LS N) ((t.rowsOf total).length - 1)) 0)∧Below w.heap.size w w'):=by
 obtain⟨D,Y⟩:=Ex w.heap.size;obtain⟨ib,bb,bk,ae,bd⟩:=info_parts qb1;have HR:=hid (Jy t hl total ht he);have HE:=hid he;have HT:=hid hT;have aA:=hid hN;have ax:(t.rowsOf total).length≤255:=by have:=(qM he).most;have:=(qq (qG he)).2.2.2.2.2.2.2.1;unfold TreeV.pn at*;omega
 have bR:=hid ax;have aO:=hid (show 1≤t.i∧t.i≤64 by
  have h:=qq (qG he);have h2:Yu t.k≤64:=by unfold Yu;split<;>omega
  omega)
 have aG:=qM he;have bz:2≤(Qe t.fn t.pn (lvs total t.ln)).length:=aG.len;have aa:nth (Qe t.fn t.pn (lvs total t.ln)) 0=lvs total t.ln:=aG.first
 obtain⟨R,hR⟩:=Ex (Qe t.fn t.pn (lvs total t.ln));rw[hR]at HR bz aa;have aK:=hid (show t.rowsOf total=R from hR);have bA:=hid aa;rw[hN]at aa;have b4: ¬((1024:Int)<(N:Int)):=by omega
 have b6:IntKind.i64.wrap (N:Int)=(N:Int):=by rw[IntKind.wrap_i64]<;>omega
 have aQ:=fun W:World=>run_make (P:=Tryz.prog) W 143 4 ib (.bool false) Tryz.underlying143 bb bk .i64 .i64 (N:Int) (N:Int) (by omega) (by omega) (by rw[bd];omega) (by omega)
 simp only[ae,Int.toNat_natCast,Nat.mul_one]at aQ;have a5:madeCells (Value.bool false).cells N=jp cs N 0:=by
  rw[qem];apply Array.toList_inj.1
  exact toList_madeCells_one _ _
 rw[a5]at aQ;have a9:=hid bf;have aS:=hid bl;have HO:=hid (fun(W:World) (hb:Below D w W)=>ho.below (Y▸hb));have a8:=hid (fun(W:World) (hb:Below D w W)=>hs.below (Y▸hb));have b5:=hid ho;have bN:=hid hs;clear he aG hR bb bk ae bd a5 ho hs bf bl hT ax;unfold TreeV.val at*;go_enter Tryz.func45,Tryz.ntmps45
 go_upto_region 1 with(fail)
 refine qj ?_;intro wA aM;have ar:wA.heap[D]? =some (.cells #[.int .i64 t.k,.int .i64 t.d,.int .i64 t.f,.int .i64 t.p,.int .u32 t.l,.int .i64 t.i,.slice t.ka t.kl t.kc,.slice t.sa t.sl t.sc,.slice t.pa t.pl t.pc] 26 (0,0)):=by rw[aM];exact qc _ _ Y.symm
 have aZ:Below D w wA:=by rw[aM,←Y];exact Br.alloc Nl _
 have bW:D<wA.heap.size:=(Ai ar).1;clear aM;go_wp2_with ((with_reducible show wpList _ _ _ (Oper.mk _ (Op.load 26 _) _ _ _ _::_) _ _);refine wpList_load_row rfl 26 _ rfl D rfl _ _ _ _ ar Tryz.underlying26 rfl (by kernel_rfl) ?_)
 refine(HR.out wA).mono ?_;rintro e w1 ⟨v,rfl,hv,ap⟩;obtain⟨g,aC,rfl, -,hg,bq⟩:=qen hv (by omega);have c0:w1.cell? ⟨g,0,none⟩=some (.int .u64 (N:Nat)):=bq 0 _ (by rw[←aa];unfold nth;rw[List.getElem?_map,Lg,List.getElem?_eq_getElem (by omega)];rfl);have HB:=hid (aZ.trans (ap.mono (show D≤wA.heap.size by omega)));have aX:=qe ar ap;have aD:D<w1.heap.size:=by have:=ap.size;omega
 have HV:=hid hv;have ad:((N:Int) != (N:Int))=false:=by simp
 obtain⟨bs,aR⟩:=Ex w1.heap.size;clear ap aZ ar HR bq hv aa hN;go_upto_region 10 with(refine Q4 (by rfl) ?_)
 refine qj ?_;intro w2 aN;have aT:w2.heap[bs]? =some (.cells (jp cs N 0) 4 (0,0)):=by rw[aN];exact qc _ _ aR.symm
 have aV:Below bs w1 w2:=by rw[aN,←aR];exact Br.alloc Nl _
 have a7:=(aV.block D (by omega)).trans aX;have bM:=hid (HB.out.trans (aV.mono (show D≤bs by omega)));have aY:=hid aT;have bG:=hid a7;have bC:D<bs:=by omega
 have bY:bs<w2.heap.size:=(Ai aT).1;clear aN aT a7 aV aX aQ HB c0 hg aR aD HV;clear w1;go_wp2_with fail
 go_loopw [50] (fun i W=> ∃k:Nat,i= .int .i64 (k:Nat)∧k≤N∧W.heap[bs]? =some (.cells (jp cs N k) 4 (0,0))∧(∀j,j<k→qit t.i cs LS N j)∧Below bs w2 W) (fun i _=>N - (intOf i).toNat)
 case atStart=>exact⟨0,rfl,Nat.zero_le _,aY.out,(fun j hj=>by omega),Below.refl _ _⟩
 case round=>
  clear aY;obtain⟨k,rfl,hk,az,aj,hb⟩:=hrel;have I:Below D w wr:=bM.out.trans (hb.mono (by omega));have ay:=(hb.block D bC).trans bG.out;have ac:wr.cell? ⟨D,5,none⟩=some (.int .i64 t.i):=qa ay 5;have aJ:bs<wr.heap.size:=(Ai az).1;have bt:D<wr.heap.size:=by omega
  by_cases U:k<N
  case pos=>
   have bx:(k:Int)<(N:Int):=by omega
   obtain⟨bh,al⟩:=HO.out wr I;obtain⟨aD,ab⟩:=a8.out wr I;have co:=al k (by rw[a9.out];exact U);obtain⟨Z,hh⟩:=ab k (by rw[aS.out];exact U);obtain⟨xa,xc,ex, -, -⟩:=hh.slice;rw[ex]at Z;obtain⟨c,hc⟩:=Ex (cs.getD k 0);obtain⟨ln,af⟩:=Ex ((LS.getD k []).length);rw[hc]at co;rw[af]at Z;have HC:=hid hc;have be:=hid af;have bH:=hid aj;have X:=hid I;have bp:=hid az;have HB:=hid hb;clear al ab hh ex hc af aj I az hb ay;by_cases h1:c<0
   case pos=>
    go_upto_region 13 with(fail)
    go_quiet (fail)
    go_upto_if 77 with(fail)
    refine qj ?_;intro V hV;have J:=hid (X.out.trans ((show Below wr.heap.size wr V by rw[hV];exact below_draws _ _ _).mono (show D≤wr.heap.size by omega)));clear hV co Z ac;go_wp2_with fail
    exact Bp (results_tmp2 rfl _ _ _) rfl (.inl ⟨rfl,fun h=>by have:=(qas h U).1.1;rw[HC.out]at this;omega,by first|exact J.out|(rw[Y];exact J.out)⟩)
   by_cases h2:(N:Int)≤c
   case pos=>
    go_upto_region 13 with(fail)
    go_quiet (fail)
    go_upto_if 77 with(fail)
    refine qj ?_;intro V hV;have J:=hid (X.out.trans ((show Below wr.heap.size wr V by rw[hV];exact below_draws _ _ _).mono (show D≤wr.heap.size by omega)));clear hV co Z ac;go_wp2_with fail
    exact Bp (results_tmp2 rfl _ _ _) rfl (.inl ⟨rfl,fun h=>by have:=(qas h U).1.2;rw[HC.out]at this;omega,by first|exact J.out|(rw[Y];exact J.out)⟩)
   obtain⟨o,rfl⟩: ∃o:Nat,c=o:=⟨c.toNat,by omega⟩;have aq:o<N:=by omega
   obtain⟨sb,ae⟩: ∃sb,decide (∃i,i<k∧cs.getD i 0=(o:Nat))=sb:=⟨_,rfl⟩;have av:wr.cell? ⟨bs,o,none⟩=some (.bool sb):=by rw[←ae];exact(qa bp.out o).trans (qgx aq)
   have bn:=hid ae;clear ae
   cases sb
   case true=>
    go_upto_region 13 with(fail)
    go_quiet (fail)
    go_upto_if 77 with(fail)
    refine qj ?_;intro V hV;have J:=hid (X.out.trans ((show Below wr.heap.size wr V by rw[hV];exact below_draws _ _ _).mono (show D≤wr.heap.size by omega)));clear hV co Z ac av;go_wp2_with fail
    exact Bp (results_tmp2 rfl _ _ _) rfl (.inl ⟨rfl,fun h=>by obtain⟨j,j1,j2⟩:=of_decide_eq_true bn.out;exact(qas h U).2.1 j j1 (j2.trans HC.out.symm),by first|exact J.out|(rw[Y];exact J.out)⟩)
   by_cases h3:(ln:Int)=t.i
   case neg=>
    have h4:((ln:Int) != t.i)=true:=by rw[bne_iff_ne];exact h3
    go_upto_region 13 with(fail)
    go_quiet (fail)
    go_upto_if 77 with(fail)
    refine qj ?_;intro V hV;have J:=hid (X.out.trans ((show Below wr.heap.size wr V by rw[hV];exact below_draws _ _ _).mono (show D≤wr.heap.size by omega)));clear hV co Z ac av h4;go_wp2_with fail
    exact Bp (results_tmp2 rfl _ _ _) rfl (.inl ⟨rfl,fun h=>by have:=(qas h U).2.2;rw[be.out]at this;exact h3 this,by first|exact J.out|(rw[Y];exact J.out)⟩)
   have h4:((ln:Int) != t.i)=false:=by rw[h3];simp
   have H3:=hid h3;clear h3;go_upto_region 13 with(fail)
   go_quiet (fail)
   go_upto_if 77 with(fail)
   refine qj ?_;intro V hV;have aw:Below wr.heap.size wr V:=by rw[hV];exact below_draws _ _ _
   have au:=qe bp.out aw;have bZ:=frozen_of_row V bs o _ _ au;have b3:V.cell? ⟨bs,o,none⟩=some (.bool false):=(aw.cell (p:=⟨bs,o,none⟩) aJ).trans av;have bT:bs<V.heap.size:=(Ai au).1;have bI:=hid au;have J:=hid (HB.out.trans (aw.mono (by omega)));clear hV co Z ac av h4 aw au;go_wp2_with fail
   refine⟨⟨k+1,by go_num,by omega,by rw[←qfP HC.out];exact block_setCell bI.out _,fun j hj=>?_,J.out.setCell Nl _⟩,by simp[intOf];omega⟩;by_cases e:j=k
   ·subst e;refine⟨by rw[HC.out];omega,fun i hi=>?_,by rw[be.out];exact H3.out⟩;rw[HC.out];exact fun e=>(of_decide_eq_false bn.out) ⟨i,hi,e⟩
   ·exact bH.out j (by omega)
  have ai:k=N:=by omega
  have aH: ¬((k:Int)<(N:Int)):=by omega
  rw[ai]at aj;have G:=hid (qhM aj);have X:=hid I;clear az aj I ac hb ai hk;go_upto_region 17 with(fail)
  go_wp2_with ((with_reducible show wpList _ _ _ (Oper.mk _ (Op.load 26 _) _ _ _ _::_) _ _);refine wpList_load_row rfl 26 _ rfl D rfl _ _ _ _ ay Tryz.underlying26 rfl (by kernel_rfl) ?_)
  refine(qeM t total R.length (by rw[←aK.out];exact bR.out) _ _ wr).mono ?_;rintro e wC ⟨⟨vC,rfl,aP⟩,a4⟩;rw[←aK.out]at aP;have aI:PtrV t total D ((t.rowsOf total).length+1) (.slice (some ⟨g,0,none⟩) (t.rowsOf total).length aC) vC wC:=aP.mono (by omega);have bS:=hid (X.out.trans (a4.mono (show D≤wr.heap.size by omega)));obtain⟨bc,bo,bm,bw,rfl,bV,a6⟩:=qeW kz z1 z2 hl HE.out (L0:=yQ cs LS N) (by rw[yn,aA.out]) (fun z hz=>by have:=jb G.out z hz;have:=aO.out;omega) (Ym cs sv N) aI;have aW:=hid a6;have am:nth (t.rowsOf total) 0=N:=by rw[aK.out];exact bA.out.trans aA.out
  have aU:=hid (show ∀j,j<nth (t.rowsOf total) 0→Ym cs sv N j= .slice (slA (Ym cs sv N j)) (Qi (yQ cs LS N) j).length (slC (Ym cs sv N j))∧Hold w (Ym cs sv N j) (Qi (yQ cs LS N) j)∧(∀b,(Ym cs sv N j).ownBlock=some b→b<D)∧ ∃d,qal (Ym cs sv N j)=some (d,[]) from fun j hj=>by
   rw[am]at hj;obtain⟨i,hi,e⟩:=jI G.out hj;rw[qaY G.out hi e,qdB G.out hi e];have hh:=(bN.out.2 i (by rw[aS.out];exact hi)).2;have a3:LS.getD i []≠[]:=fun h=>by have:=G.out.2.2 i hi;rw[h]at this;have:=aO.out;simp at*;omega
   obtain⟨xa,xc,ex, -, -⟩:=hh.slice;refine⟨by rw[ex];rfl,hh,by rw[←Y];exact hh.blockLt a3,hh.enc a3⟩)
  have bg:=hid (show ∀r,nth (t.rowsOf total) r≤1048576 from fun r=>by
   by_cases hr:r<(t.rowsOf total).length
   ·have:=jE (qM HE.out) r hr
    rw[aA.out]at this;omega
   ·unfold nth;rw[Lg,List.getElem?_eq_none (by omega)];exact Nat.zero_le _)
  have bv:=hid (fun(W:World) (hW:Below D w W) (A:List Nat) (ao q0 aL:Nat) (bK:ao<N) (bL:ao∉A) (hA: ∀j∈A,j<N) (ad: ∀j,j<q0→j∈A) (ag:q0∉A) (hc:aL<1048576) (hF:ZV t kz z1 z2 total (yQ cs LS N) D bc bo bm bw aL (some ⟨g,0,none⟩) aC (Ym cs sv N) A q0 W)=>
   qe0 t kz z1 z2 total ht HE.out (yQ cs LS N) (by rw[yn,aA.out]) (fun z hz=>by have:=jb G.out z hz;have:=aO.out;omega) bg.out D bc bo bm bw (some ⟨g,0,none⟩) aC w Y HT.out (Ym cs sv N) (fun j=>slA (Ym cs sv N j)) (fun j=>slC (Ym cs sv N j)) aU.out A ao q0 aL (by rw[am];exact bK) bL (fun j hj=>by rw[am];exact hA j hj) ad ag hc W hW hF)
  have bu:=hid am;clear a4 aP aI a6 X ay aJ bt U aH am aU bg;clear wr;go_wp2_with fail
  go_loopw [88] (fun i W=> ∃k:Nat,i= .int .i64 (k:Nat)∧k≤N∧Below D w W∧ ∃(A:List Nat) (q:Nat),ZV t kz z1 z2 total (yQ cs LS N) D bc bo bm bw k (some ⟨g,0,none⟩) aC (Ym cs sv N) A q W∧(∀j,j∈A↔ ∃i,i<k∧cs.getD i 0=(j:Nat))∧(∀j,j<q→j∈A)∧q∉A) (fun i _=>N - (intOf i).toNat)
  case atStart=>exact⟨0,rfl,Nat.zero_le _,bS.out,[],0,aW.out,(fun j=>by simp),(fun j hj=>by omega),by simp⟩
  case round=>
   clear aW;obtain⟨k,rfl,hk,I,A,q,hF,hA,ad,ag⟩:=hrel;by_cases U:k<N
   case pos=>
    have bx:(k:Int)<(N:Int):=by omega
    obtain⟨bh,al⟩:=HO.out wr I;obtain⟨aD,ab⟩:=a8.out wr I;have co:=al k (by rw[a9.out];exact U);obtain⟨Z,hh⟩:=ab k (by rw[aS.out];exact U);obtain⟨xa,xc,ex, -, -⟩:=hh.slice;rw[ex]at Z;have aq:=G.out.1 k U;obtain⟨o,ak⟩: ∃o:Nat,cs.getD k 0=o:=⟨(cs.getD k 0).toNat,by omega⟩;rw[ak]at co aq;have ah:=bv.out wr I A o q k (by omega) (fun h=>by
     obtain⟨i,i1,i2⟩:=(hA o).1 h;exact G.out.2.1 i k i1 U (i2.trans ak.symm)) (fun j hj=>by
     obtain⟨i,i1,i2⟩:=(hA j).1 hj;have:=(G.out.1 i (by omega)).2
     omega) ad ag (by omega) hF
    rw[qaY G.out U ak,ex]at ah;obtain⟨ln,af⟩:=Ex ((LS.getD k []).length);rw[af]at Z ah;have aB:=hid ah;have bi:=hid ak;have HA:=hid hA;have X:=hid I;clear ah hh ab al hA hF ad ag I af ex ak aq;go_wp2_with fail
    refine aB.out.mono ?_;rintro e wD ⟨rfl,bj,q',br,aE,aF⟩;have bQ:=hid (X.out.trans bj);have bO:=hid br;have bF:=hid aE;have bP:=hid aF;clear bj br aE aF co Z aB X bh aD;go_wp2_with fail
    refine⟨⟨k+1,by go_num,by omega,bQ.out,o::A,q',bO.out,fun j=>?_,bF.out,bP.out⟩,by simp[intOf];omega⟩;rw[List.mem_cons,HA.out j];constructor
    ·rintro(rfl|⟨i,i1,i2⟩)
     ·exact⟨k,by omega,bi.out⟩
     ·exact⟨i,by omega,i2⟩
    ·rintro⟨i,i1,i2⟩
     by_cases e:i=k
     ·subst e;refine .inl ?_;have:=bi.out
      omega
     ·exact .inr ⟨i,by omega,i2⟩
   have ai:k=N:=by omega
   have aH: ¬((k:Int)<(N:Int)):=by omega
   obtain⟨m,O,os,dv,S,hC, -, -, -,ba⟩:=hF;have an:OwnB D wr dv (Qi (t.lvlZ kz z1 z2 (yQ cs LS N) ((t.rowsOf total).length - 1)) 0):=by
    rcases ba with h|h
    ·exfalso
     refine ag ((hA q).2 ?_);have:=h.1
     rw[bu.out]at this;rw[ai];exact jI G.out this
    ·exact h.2
   have bJ:wr.cell? ⟨bc,15,none⟩=some dv:=qa hC.box 15;have bU:bc<wr.heap.size:=(Ai hC.box).1;have bD:=hid an;have X:=hid I;obtain⟨xa,xc,ex⟩:=an.form;rw[ex]at bJ;have bE:=hid ex;clear an I hC ba ad ag hA ai ex;go_wp2_with fail
   exact Bp (results_tmp2 rfl _ _ _) rfl (.inr ⟨_,rfl,G.out,by have h:=bD.out;rw[bE.out]at h;first|exact h|(rw[Y];exact h),by first|exact X.out|(rw[Y];exact X.out)⟩)
end Go.Proofs.YthjoojnlnlmljaaGreat
