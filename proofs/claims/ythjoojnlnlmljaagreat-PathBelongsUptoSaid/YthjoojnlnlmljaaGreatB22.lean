/- A round of the mixing, by the reference, both kinds. No condition. -/
import Derived.Test.YthjoojnlnlmljaaGreatP00
import Derived.Test.YthjoojnlnlmljaaGreatB20
import Derived.Test.YthjoojnlnlmljaaGreatB21
set_option linter.all false
set_option maxRecDepth 100000
set_option maxHeartbeats 8000000
namespace Go.Proofs.YthjoojnlnlmljaaGreat
open Go.ChangeShapes Go.WideShapes Go.ChangeAt Go.RowKit Go.Joins
open Go.Lib (hid)
attribute [local go_sem] Oper.semAt_some
def qdl (p:Nat→Oper→Prop):Nat→List Oper→Prop
 | _,[]=>True
 | n,o::l=>p n o∧qdl p (n+1) l
theorem qh {p:Nat→Oper→Prop}{n:Nat}{o:Oper}{l:List Oper}(h:p n o)(q:qdl p (n+1) l):qdl p n (o::l):=⟨h,q⟩
theorem j8 {p:Nat→Oper→Prop}{n:Nat}:qdl p n []:=trivial
theorem qfm {p:Nat→Oper→Prop}: ∀(l:List Oper) (n:Nat),qdl p n l→ ∀i o,l[i]? =some o→p (n+i) o
 | [],_,_,i,o,h=>by simp at h
 | a::l,n,h,0,o,e=>by simp at e;subst e;exact h.1
 | a::l,n,h,i+1,o,e=>by
  have:=qfm l (n+1) h.2 i o (by simpa using e)
  rw[show n+(i+1)=n+1+i by omega];exact this
theorem ZT {p:Nat→Oper→Prop}{l:List Oper}(h:qdl p 0 l): ∀i o,l[i]? =some o→p i o:=fun i o hi=>by
 have:=qfm l 0 h i o hi
 rwa[Nat.zero_add]at this
theorem ZE {o:Oper}{q:Nat→Option Bool}(h:o.guard=none):Region.wanted o q=true:=by unfold Region.wanted;rw[h]
def qcj (W:World)(b:Nat)(T:TypeId)(cs:Array Value):Prop:=W.heap[b]? =some (.cells cs T (0,0))
def zz (s b:Nat)(T:TypeId)(cs:Array Value)(L:List Value)(i:Nat)(v:Value)(W:World):Prop:=
 if i=s then qcj W b T cs else match L[i]? with|some g=>v=g|none=>True
theorem qa4 {s b:Nat}{T:TypeId}{cs:Array Value}(L:List Value){W W':World}(o:Below W.heap.size W W')(i:Nat): ∀j u,j≠i→zz s b T cs L j u W→zz s b T cs L j u W':=by
 intro j u _ h;unfold zz at*;by_cases e:j=s
 ·rw[if_pos e]at h⊢;exact(o.block b (Ai h).1).trans h
 ·rw[if_neg e]at h⊢;exact h
theorem qa3 {s b:Nat}{T:TypeId}{cs:Array Value}(L:List Value){W W':World}: ∀j u,j≠s→zz s b T cs L j u W→zz s b T cs L j u W':=by
 intro j u e h;unfold zz at*;rw[if_neg e]at h⊢;exact h
theorem qc9 {s b:Nat}{T:TypeId}{cs:Array Value}{L:List Value}{i:Nat}(o:i=s)(v:Value)(W:World)(h:zz s b T cs L i v W):zz s b T cs L i undef W:=by
 unfold zz at*;rw[if_pos o]at h⊢;exact h
theorem qa2 {s b:Nat}{T:TypeId}{cs:Array Value}{L:List Value}{v:Value}{W:World}(h:qcj W b T cs):zz s b T cs L s v W:=by
 unfold zz;rw[if_pos rfl];exact h
def RS (b:Nat)(T:TypeId)(cs:Array Value)(w:World)(f:Bool)(W:World):Prop:=But b w W∧(f=false→qcj W b T cs)
theorem RS.next {b:Nat}{T:TypeId}{cs:Array Value}{w:World}{f g:Bool}{W W':World}(h:RS b T cs w f W)(q:Below W.heap.size W W')(o:g=false→f=false):RS b T cs w g W':=
 ⟨h.1.trans (But.of_below q),fun e=>(q.block b (Ai (h.2 (o e))).1).trans (h.2 (o e))⟩
theorem RS.same {b:Nat}{T:TypeId}{cs:Array Value}{w:World}{f g:Bool}{W:World}(h:RS b T cs w f W)(o:g=false→f=false):RS b T cs w g W:=⟨h.1,fun e=>h.2 (o e)⟩
theorem Qt {f b:Bool}(h:(f||b)=false):f=false:=by cases f<;>simp_all
theorem But.setRow {b:Nat}{w W:World}(h:But b w W)(cs:Array Value):But b w (W.setRow b cs):=h.trans ⟨rfl,rfl,rfl,by simp[World.setRow],fun g _ o=>setRow_other _ _ _ _ o⟩
theorem qfN (X M:List Int)(am:Words 64 16 X)(hM:Words 64 16 M)(r:Nat)(hr:r≤11)(w:World):
  Calls Tryz.prog 209 #[.agg (qj .u64 X),.agg (qj .u64 M),.int .i64 r] w fun e w'=>e= .returned (.tuple #[.agg (qj .u64 (mixBig.round X M r)),.int .i64 0])∧Below w.heap.size w w':=by
 obtain⟨O,aE⟩:=Ex w.heap.size;have aR: ¬((r:Int)<0):=by omega
 have aO: ¬(11<(r:Int)):=by omega
 have HS:=hid (fun i (hi:i<16)=>qaR r i (by omega) hi);go_enter Tryz.func209,Tryz.ntmps209
 go_wp2_with fail
 refine qm ?_;intro W hW;have hv:W.heap[O]? =some (.cells (qj .u64 X) 252 (0,0)):=by
  rw[hW];exact(Bh _ _ _ (by simp;omega)).trans ((Bh _ _ _ (by simp;omega)).trans (qe _ _ aE.symm))
 have hm:W.heap[O+1]? =some (.cells (qj .u64 M) 252 (0,0)):=by
  rw[hW];exact(Bh _ _ _ (by simp;omega)).trans (qe _ _ (by simp;omega))
 have ac:W.heap[O+1+1]? =some (.cells Ka 252 (0,0)):=by
  rw[hW];exact qe _ _ (by simp;omega)
 have hB:Below w.heap.size w W:=by
  rw[hW];exact(((Below.refl w.heap.size w).alloc Nl _).alloc (by simp) _).alloc (by simp;omega) _
 have aF:O+1+1<W.heap.size:=(Ai ac).1;clear hW;have HV:=hid hv;have HM:=hid hm;have HR:=hid ac;have HB:=hid hB;clear hv hm ac hB;go_loopw [8] (fun i wr=> ∃j:Nat,i= .int .i64 j∧j≤8∧wr.heap[O]? =some (.cells (qj .u64 (mixBig.turns X M r j)) 252 (0,0))∧But O W wr) (fun i _=>8 - (intOf i).toNat)
 case atStart=>exact⟨0,rfl,Nat.zero_le _,HV.out,But.refl _ _⟩
 case round=>
  obtain⟨j,rfl,hj,hv,hB⟩:=hrel;have ai:=hid hv;have ad:=hid hB;have aP:=hB.size;clear hv hB;by_cases ax:j<8
  ·have U:=qJ QL am (M:=M) r j;have V:mixBig.turns X M r (j+1)=mixBig.step (mixBig.turns X M r j) (plA j) (plB j) (plC j) (plD j) (wd M (qu r (2*j))) (wd M (qu r (2*j+1))):=rfl;have aj:=hid V;have aa:=qJ QL am (M:=M) r (j+1);rw[V]at aa;clear V;obtain⟨p1,p2,p3,p4,p5,p6,p7,p8,p9,aB⟩:=qeB j ax;have HG:=hid (fun W=>qjY (mixBig.turns X M r j) U (plA j) (plB j) (plC j) (plD j) p1 p2 p3 p4 p5 p6 p7 p8 p9 aB (wd M (qu r (2*j))) (wd M (qu r (2*j+1))) W);have aG:=hid (HS.out (2*j) (by omega));have aM:=hid (HS.out (2*j+1) (by omega));have s0:=qW r (2*j);have s1:=qW r (2*j+1);have t0:((qu r (2*j):Nat):Int)<16:=by omega
   have t1:((qu r (2*j+1):Nat):Int)<16:=by omega
   have hx:(qj .u64 M)[qu r (2*j)]? =some (.int .u64 (wd M (qu r (2*j)))):=qE hM s0;have hy:(qj .u64 M)[qu r (2*j+1)]? =some (.int .u64 (wd M (qu r (2*j+1)))):=qE hM s1;have HX:=hid hx;have HY:=hid hy;obtain⟨L,az⟩:=Ex (mixBig.turns X M r j);rw[az]at ai U HG aj aa;obtain⟨Y,aw⟩:=Ex (mixBig.step L (plA j) (plB j) (plC j) (plD j) (wd M (qu r (2*j))) (wd M (qu r (2*j+1))));rw[aw]at HG aj aa;obtain⟨mx,aD⟩:=Ex (wd M (qu r (2*j)));obtain⟨my,ao⟩:=Ex (wd M (qu r (2*j+1)));rw[aD]at HX HG;rw[ao]at HY HG;have HP:=hid (qdC j ax);have aQ:IntKind.i64.wrap (2*(j:Int))=((2*j:Nat):Int):=by rw[IntKind.wrap_i64];omega
   have aS:IntKind.i64.wrap (((2*j:Nat):Int)+1)=((2*j+1:Nat):Int):=by rw[IntKind.wrap_i64];omega
   clear az aw aD ao hx hy p1 p2 p3 p4 p5 p6 p7 p8 p9 aB;generalize qu r (2*j)=sx at*;generalize qu r (2*j+1)=sy at*;generalize 2*j+1=k3 at*;generalize 2*j=k2 at*;generalize plA j=pa at*;generalize plB j=pb at*;generalize plC j=pc at*;generalize plD j=pd at*;go_wp2_with fail
   refine(HP.out _).mono ?_;rintro e2 w2 ⟨rfl,ab⟩;have aC:=(ab.block O (by omega)).trans ai.out;have aq:=(ab.block (O+1) (by omega)).trans ((ad.out.block (O+1) (by omega) (by omega)).trans HM.out);have ay:=ad.out.trans (But.of_below ab);have aK:=ab.size;clear ab;go_wp2_with fail
   refine qm ?_;intro Wp Z;obtain⟨S,al⟩:=Ex w2.heap.size;have ar:Wp.heap[O]? =some (.cells (qj .u64 L) 252 (0,0)):=by rw[Z];exact(Bh _ _ _ (by omega)).trans aC
   have ah:Wp.heap[O+1]? =some (.cells (qj .u64 M) 252 (0,0)):=by rw[Z];exact(Bh _ _ _ (by omega)).trans aq
   have ak:Wp.heap[S]? =some (.cells #[.int .i64 pa,.int .i64 pb,.int .i64 pc,.int .i64 pd] 330 (0,0)):=by rw[Z];exact qe _ _ al.symm
   have av:But O W Wp:=by rw[Z];exact ay.alloc _
   have ae:S<Wp.heap.size:=(Ai ak).1;have ap:O+1<Wp.heap.size:=(Ai ah).1;have ag:S≠O:=by omega
   rw[al];have aJ:=hid ar;have aA:=hid ah;have af:=hid ak;have aL:=hid av;clear Z aC aq ay aK al ar ah ak av;refine Z3 (s:=26) (ds:=[24,25,26,27,28,29,30,31,32,33,34,35,36,37,38,39,40,41,42,43,44,45,46,23,47,48]) (R:=RS O 252 (qj .u64 L) Wp) (Good:=zz 26 O 252 (qj .u64 Y) [.agg (qj .u64 L),.pointer (some ⟨S,0,none⟩),.int .i64 pa,.pointer (some ⟨S,1,none⟩),.int .i64 pb,.pointer (some ⟨S,2,none⟩),.int .i64 pc,.pointer (some ⟨S,3,none⟩),.int .i64 pd,.int .i64 r,.int .i64 j,.int .i64 k2,.int .i64 sx,.pointer (some ⟨O+1,sx,none⟩),.int .u64 mx,.int .i64 r,.int .i64 j,.int .i64 k2,.int .i64 k3,.int .i64 sy,.pointer (some ⟨O+1,sy,none⟩),.int .u64 my,.tuple #[.agg (qj .u64 Y),.int .i64 0],.tuple #[.agg (qj .u64 Y),.int .i64 0],.agg (qj .u64 Y),.int .i64 0]) rfl (by decide) (by kernel_rfl) (by kernel_rfl) ?_ ?_ ?_ ?_
   case refine_1=>exact⟨(But.refl O Wp).trans (But.of_below Br.drew),fun _=>aJ.out⟩
   case refine_2=>
    refine ZT (p:=_) ?_;refine qh ?_ (qh ?_ (qh ?_ (qh ?_ (qh ?_ (qh ?_ (qh ?_ (qh ?_ (qh ?_ (qh ?_ (qh ?_ (qh ?_ (qh ?_ (qh ?_ (qh ?_ (qh ?_ (qh ?_ (qh ?_ (qh ?_ (qh ?_ (qh ?_ (qh ?_ (qh ?_ (qh ?_ (qh ?_ (qh ?_ (qh ?_ (j8)))))))))))))))))))))))))))
    ·intro f x W' I D q K G;clear q;have V:=I.2 (D (by kernel_rfl));simp only[lay,Act.put,Ls]at G⊢;rw[if_pos (ZE rfl)];refine wp_load_row 252 _ rfl O rfl _ _ _ _ V Tryz.underlying252 rfl (by rw[qg,U.1];kernel_rfl) ?_;exact G _ _ (I.same Qt) (fun _ _ _ h=>h) rfl
    ·intro f x W' I D q K G;clear q;clear D;simp only[lay,Act.put,Ls]at G⊢;go_simp
     exact G _ _ (I.same Qt) (fun _ _ _ h=>h) rfl
    ·intro f x W' I D q K G;have J:x 25= .pointer (some ⟨S,0,none⟩):=q ⟨1,.data⟩ (by simp) rfl _ rfl;clear q;have cP:=(qR ((I.1.block S ae ag).trans af.out)).1;clear D;simp only[lay,Act.put,Ls,J]at G⊢;go_simp
     exact G _ _ (I.same Qt) (fun _ _ _ h=>h) rfl
    ·intro f x W' I D q K G;clear q;clear D;simp only[lay,Act.put,Ls]at G⊢;go_simp
     exact G _ _ (I.same Qt) (fun _ _ _ h=>h) rfl
    ·intro f x W' I D q K G;have J:x 27= .pointer (some ⟨S,1,none⟩):=q ⟨3,.data⟩ (by simp) rfl _ rfl;clear q;have cP:=(qR ((I.1.block S ae ag).trans af.out)).1;clear D;simp only[lay,Act.put,Ls,J]at G⊢;go_simp
     exact G _ _ (I.same Qt) (fun _ _ _ h=>h) rfl
    ·intro f x W' I D q K G;clear q;clear D;simp only[lay,Act.put,Ls]at G⊢;go_simp
     exact G _ _ (I.same Qt) (fun _ _ _ h=>h) rfl
    ·intro f x W' I D q K G;have J:x 29= .pointer (some ⟨S,2,none⟩):=q ⟨5,.data⟩ (by simp) rfl _ rfl;clear q;have cP:=(qR ((I.1.block S ae ag).trans af.out)).1;clear D;simp only[lay,Act.put,Ls,J]at G⊢;go_simp
     exact G _ _ (I.same Qt) (fun _ _ _ h=>h) rfl
    ·intro f x W' I D q K G;clear q;clear D;simp only[lay,Act.put,Ls]at G⊢;go_simp
     exact G _ _ (I.same Qt) (fun _ _ _ h=>h) rfl
    ·intro f x W' I D q K G;have J:x 31= .pointer (some ⟨S,3,none⟩):=q ⟨7,.data⟩ (by simp) rfl _ rfl;clear q;have cP:=(qR ((I.1.block S ae ag).trans af.out)).1;clear D;simp only[lay,Act.put,Ls,J]at G⊢;go_simp
     exact G _ _ (I.same Qt) (fun _ _ _ h=>h) rfl
    ·intro f x W' I D q K G;clear q;clear D;simp only[lay,Act.put,Ls]at G⊢;go_simp
     exact G _ _ (I.same Qt) (fun _ _ _ h=>h) rfl
    ·intro f x W' I D q K G;clear q;clear D;simp only[lay,Act.put,Ls]at G⊢;go_simp
     exact G _ _ (I.same Qt) (fun _ _ _ h=>h) rfl
    ·intro f x W' I D q K G;have J:x 34= .int .i64 j:=q ⟨10,.data⟩ (by simp) rfl _ rfl;clear q;clear D;simp only[lay,Act.put,Ls,J]at G⊢;go_simp
     exact G _ _ (I.same Qt) (fun _ _ _ h=>h) rfl
    ·intro f x W' I D q K G;have J:x 33= .int .i64 r:=q ⟨9,.data⟩ (by simp) rfl _ rfl;have g1:x 35= .int .i64 k2:=q ⟨11,.data⟩ (by simp) rfl _ rfl;clear q;clear D;simp only[lay,Act.put,Ls,J,g1]at G⊢;go_simp
     refine(aG.out W').mono ?_;rintro e4 w4 ⟨rfl,rfl⟩
     exact G _ _ (I.same Qt) (fun _ _ _ h=>h) rfl
    ·intro f x W' I D q K G;have J:x 36= .int .i64 sx:=q ⟨12,.data⟩ (by simp) rfl _ rfl;clear q;clear D;simp only[lay,Act.put,Ls,J]at G⊢;go_simp
     exact G _ _ (I.same Qt) (fun _ _ _ h=>h) rfl
    ·intro f x W' I D q K G;have J:x 37= .pointer (some ⟨O+1,sx,none⟩):=q ⟨13,.data⟩ (by simp) rfl _ rfl;clear q;have cM:=(qq ((I.1.block (O+1) ap (by omega)).trans aA.out) sx).trans HX.out;clear D;simp only[lay,Act.put,Ls,J]at G⊢;go_simp
     exact G _ _ (I.same Qt) (fun _ _ _ h=>h) rfl
    ·intro f x W' I D q K G;clear q;clear D;simp only[lay,Act.put,Ls]at G⊢;go_simp
     exact G _ _ (I.same Qt) (fun _ _ _ h=>h) rfl
    ·intro f x W' I D q K G;clear q;clear D;simp only[lay,Act.put,Ls]at G⊢;go_simp
     exact G _ _ (I.same Qt) (fun _ _ _ h=>h) rfl
    ·intro f x W' I D q K G;have J:x 40= .int .i64 j:=q ⟨16,.data⟩ (by simp) rfl _ rfl;clear q;clear D;simp only[lay,Act.put,Ls,J]at G⊢;go_simp
     exact G _ _ (I.same Qt) (fun _ _ _ h=>h) rfl
    ·intro f x W' I D q K G;have J:x 41= .int .i64 k2:=q ⟨17,.data⟩ (by simp) rfl _ rfl;clear q;clear D;simp only[lay,Act.put,Ls,J]at G⊢;go_simp
     exact G _ _ (I.same Qt) (fun _ _ _ h=>h) rfl
    ·intro f x W' I D q K G;have J:x 39= .int .i64 r:=q ⟨15,.data⟩ (by simp) rfl _ rfl;have g1:x 42= .int .i64 k3:=q ⟨18,.data⟩ (by simp) rfl _ rfl;clear q;clear D;simp only[lay,Act.put,Ls,J,g1]at G⊢;go_simp
     refine(aM.out W').mono ?_;rintro e4 w4 ⟨rfl,rfl⟩
     exact G _ _ (I.same Qt) (fun _ _ _ h=>h) rfl
    ·intro f x W' I D q K G;have J:x 43= .int .i64 sy:=q ⟨19,.data⟩ (by simp) rfl _ rfl;clear q;clear D;simp only[lay,Act.put,Ls,J]at G⊢;go_simp
     exact G _ _ (I.same Qt) (fun _ _ _ h=>h) rfl
    ·intro f x W' I D q K G;have J:x 44= .pointer (some ⟨O+1,sy,none⟩):=q ⟨20,.data⟩ (by simp) rfl _ rfl;clear q;have cM:=(qq ((I.1.block (O+1) ap (by omega)).trans aA.out) sy).trans HY.out;clear D;simp only[lay,Act.put,Ls,J]at G⊢;go_simp
     exact G _ _ (I.same Qt) (fun _ _ _ h=>h) rfl
    ·intro f x W' I D q K G;have J:x 24= .agg (qj .u64 L):=q ⟨0,.data⟩ (by simp) rfl _ rfl;have g1:x 26= .int .i64 pa:=q ⟨2,.data⟩ (by simp) rfl _ rfl;have g2:x 28= .int .i64 pb:=q ⟨4,.data⟩ (by simp) rfl _ rfl;have g3:x 30= .int .i64 pc:=q ⟨6,.data⟩ (by simp) rfl _ rfl;have g4:x 32= .int .i64 pd:=q ⟨8,.data⟩ (by simp) rfl _ rfl;have g5:x 38= .int .u64 mx:=q ⟨14,.data⟩ (by simp) rfl _ rfl;have g6:x 45= .int .u64 my:=q ⟨21,.data⟩ (by simp) rfl _ rfl;clear q;clear D;simp only[lay,Act.put,Ls,J,g1,g2,g3,g4,g5,g6]at G⊢;go_simp
     refine(HG.out W').mono ?_;rintro e4 w4 ⟨rfl,an⟩
     exact G _ _ (I.next an Qt) (qa4 _ an _) rfl
    ·intro f x W' I D q K G;have J:x 46= .tuple #[.agg (qj .u64 Y),.int .i64 0]:=q ⟨22,.data⟩ (by simp) rfl _ rfl;clear q;clear D;simp only[lay,Act.put,Ls,J]at G⊢;go_simp
     exact G _ _ (I.same Qt) (fun _ _ _ h=>h) rfl
    ·intro f x W' I D q K G;have J:x 23= .tuple #[.agg (qj .u64 Y),.int .i64 0]:=q ⟨23,.data⟩ (by simp) rfl _ rfl;clear q;clear D;simp only[lay,Act.put,Ls,J]at G⊢;go_simp
     exact G _ _ (I.same Qt) (fun _ _ _ h=>h) rfl
    ·intro f x W' I D q K G;have J:x 23= .tuple #[.agg (qj .u64 Y),.int .i64 0]:=q ⟨23,.data⟩ (by simp) rfl _ rfl;clear q;clear D;simp only[lay,Act.put,Ls,J]at G⊢;go_simp
     exact G _ _ (I.same Qt) (fun _ _ _ h=>h) rfl
    ·intro f x W' I D q K G;have J:x 47= .agg (qj .u64 Y):=q ⟨24,.data⟩ (by simp) rfl _ rfl;clear q;have V:=I.2 (D (by kernel_rfl));simp only[lay,Act.put,Ls,J]at G⊢;rw[if_pos (ZE rfl)];refine wp_store_row 252 _ _ rfl O (qj .u64 Y) rfl rfl _ _ V (by rw[qg,aa.1];kernel_rfl) (by simp only[qg,aa.1,U.1]) qy ?_;exact G undef _ ⟨I.1.setRow _,fun e=>by simp at e⟩ (qa3 _) (qa2 (setRow_heap _ _ _ _ _ _ V))
   case refine_3=>
    refine ZT (p:=fun i (o:Oper)=> ∀v W,o.dst=none→zz 26 O 252 (qj .u64 Y) _ i v W→zz 26 O 252 (qj .u64 Y) _ i undef W) ?_|>fun h i o v W hi=>h i o hi v W
    refine qh ?_ (qh ?_ (qh ?_ (qh ?_ (qh ?_ (qh ?_ (qh ?_ (qh ?_ (qh ?_ (qh ?_ (qh ?_ (qh ?_ (qh ?_ (qh ?_ (qh ?_ (qh ?_ (qh ?_ (qh ?_ (qh ?_ (qh ?_ (qh ?_ (qh ?_ (qh ?_ (qh ?_ (qh ?_ (qh ?_ (qh ?_ (j8)))))))))))))))))))))))))));all_goals first|(intro v W h;cases h;done)|exact fun v W _ h=>qc9 rfl v W h
   case refine_4=>
    intro f x W' I hG;have hS:qcj W' O 252 (qj .u64 Y):=hG 26 _ rfl;have aN:=hid hS;have aH:=hid (aL.out.trans I.1);clear hS I hG;simp only[lay,Act.put,Ls];go_wp2
    exact⟨⟨j+1,rfl,by omega,by rw[aj.out];exact aN.out,aH.out⟩,by simp[intOf];omega⟩
  ·obtain rfl:j=8:=by omega
   have U:=qJ QL am (M:=M) r 8;have HL:=hid (show Ending.returned (.tuple #[.agg (qj .u64 (mixBig.turns X M r 8)),.int .i64 0])= .returned (.tuple #[.agg (qj .u64 (mixBig.round X M r)),.int .i64 0]) from rfl);have au:=(ad.out.block (O+1+1) aF (by omega)).trans HR.out;have aI:=hid (HB.out.trans (ad.out.below (by omega) HB.out.size));generalize mixBig.turns X M r 8=L at*;go_upto_region 8 with(fail)
   apply wp_region_lit
   refine wpList_load_row rfl 252 _ rfl O rfl _ _ _ _ ai.out Tryz.underlying252 rfl (by rw[qg,U.1];kernel_rfl) ?_;refine wpList_store_row rfl 252 _ _ rfl (O+1+1) (qj .u64 L) rfl rfl 252 _ au (by rw[qg,U.1];kernel_rfl) (by rw[qg,U.1];rfl) qy ?_;simp only[Act.put,Ls];go_wp2_with fail
   exact Bp (qH rfl _ _ _ _ _ _ _ rfl (setRow_heap _ _ _ _ _ _ au) Tryz.underlying252 rfl (by rw[qg,U.1];kernel_rfl)) rfl ⟨Eq.trans (b:= .returned (.tuple #[.agg (qj .u64 L),.int .i64 0])) rfl HL.out,below_setRow (aI.out.mono (by omega)) (by omega) _⟩
theorem qfO (V M:List Int)(af:Words 32 16 V)(hM:Words 32 16 M)(r:Nat)(hr:r≤9)(w:World):
  Calls Tryz.prog 212 #[.agg (qj .u32 V),.agg (qj .u32 M),.int .i64 r] w fun e w'=>e= .returned (.tuple #[.agg (qj .u32 (mixSmall.round V M r)),.int .i64 0])∧Below w.heap.size w w':=by
 obtain⟨J,au⟩:=Ex w.heap.size;have aG: ¬((r:Int)<0):=by omega
 have aD: ¬(9<(r:Int)):=by omega
 have HS:=hid (fun i (hi:i<16)=>qaR r i (by omega) hi);go_enter Tryz.func212,Tryz.ntmps212
 go_wp2_with fail
 refine qm ?_;intro W hW;have hv:W.heap[J]? =some (.cells (qj .u32 V) 298 (0,0)):=by
  rw[hW];exact(Bh _ _ _ (by simp;omega)).trans ((Bh _ _ _ (by simp;omega)).trans (qe _ _ au.symm))
 have hm:W.heap[J+1]? =some (.cells (qj .u32 M) 298 (0,0)):=by
  rw[hW];exact(Bh _ _ _ (by simp;omega)).trans (qe _ _ (by simp;omega))
 have Z:W.heap[J+1+1]? =some (.cells Kd 298 (0,0)):=by
  rw[hW];exact qe _ _ (by simp;omega)
 have hB:Below w.heap.size w W:=by
  rw[hW];exact(((Below.refl w.heap.size w).alloc Nl _).alloc (by simp) _).alloc (by simp;omega) _
 have av:J+1+1<W.heap.size:=(Ai Z).1;clear hW;have HV:=hid hv;have HM:=hid hm;have HR:=hid Z;have HB:=hid hB;clear hv hm Z hB;go_loopw [8] (fun i wr=> ∃j:Nat,i= .int .i64 j∧j≤8∧wr.heap[J]? =some (.cells (qj .u32 (mixSmall.turns V M r j)) 298 (0,0))∧But J W wr) (fun i _=>8 - (intOf i).toNat)
 case atStart=>exact⟨0,rfl,Nat.zero_le _,HV.out,But.refl _ _⟩
 case round=>
  obtain⟨j,rfl,hj,hv,hB⟩:=hrel;have ad:=hid hv;have aa:=hid hB;have aE:=hB.size;clear hv hB;by_cases an:j<8
  ·have S:=qJ Qr af (M:=M) r j;have U:mixSmall.turns V M r (j+1)=mixSmall.step (mixSmall.turns V M r j) (plA j) (plB j) (plC j) (plD j) (wd M (qu r (2*j))) (wd M (qu r (2*j+1))):=rfl;have ae:=hid U;have Y:=qJ Qr af (M:=M) r (j+1);rw[U]at Y;clear U;obtain⟨p1,p2,p3,p4,p5,p6,p7,p8,p9,aq⟩:=qeB j an;have HG:=hid (fun W=>qjZ (mixSmall.turns V M r j) S (plA j) (plB j) (plC j) (plD j) p1 p2 p3 p4 p5 p6 p7 p8 p9 aq (wd M (qu r (2*j))) (wd M (qu r (2*j+1))) W);have aw:=hid (HS.out (2*j) (by omega));have aB:=hid (HS.out (2*j+1) (by omega));have s0:=qW r (2*j);have s1:=qW r (2*j+1);have t0:((qu r (2*j):Nat):Int)<16:=by omega
   have t1:((qu r (2*j+1):Nat):Int)<16:=by omega
   have hx:(qj .u32 M)[qu r (2*j)]? =some (.int .u32 (wd M (qu r (2*j)))):=qE hM s0;have hy:(qj .u32 M)[qu r (2*j+1)]? =some (.int .u32 (wd M (qu r (2*j+1)))):=qE hM s1;have HX:=hid hx;have HY:=hid hy;obtain⟨L,ao⟩:=Ex (mixSmall.turns V M r j);rw[ao]at ad S HG ae Y;obtain⟨X,am⟩:=Ex (mixSmall.step L (plA j) (plB j) (plC j) (plD j) (wd M (qu r (2*j))) (wd M (qu r (2*j+1))));rw[am]at HG ae Y;obtain⟨mx,ar⟩:=Ex (wd M (qu r (2*j)));obtain⟨my,ah⟩:=Ex (wd M (qu r (2*j+1)));rw[ar]at HX HG;rw[ah]at HY HG;have HP:=hid (qjG j an);have aF:IntKind.i64.wrap (2*(j:Int))=((2*j:Nat):Int):=by rw[IntKind.wrap_i64];omega
   have aH:IntKind.i64.wrap (((2*j:Nat):Int)+1)=((2*j+1:Nat):Int):=by rw[IntKind.wrap_i64];omega
   clear ao am ar ah hx hy p1 p2 p3 p4 p5 p6 p7 p8 p9 aq;generalize qu r (2*j)=sx at*;generalize qu r (2*j+1)=sy at*;generalize 2*j+1=k3 at*;generalize 2*j=k2 at*;generalize plA j=pa at*;generalize plB j=pb at*;generalize plC j=pc at*;generalize plD j=pd at*;go_wp2_with fail
   refine(HP.out _).mono ?_;rintro e2 w2 ⟨rfl,rfl⟩;go_wp2_with fail
   refine qm ?_;intro Wp ab;have aj:Wp.heap[J]? =some (.cells (qj .u32 L) 298 (0,0)):=by rw[ab];exact ad.out
   have ac:Wp.heap[J+1]? =some (.cells (qj .u32 M) 298 (0,0)):=by rw[ab];exact(aa.out.block (J+1) (by omega) (by omega)).trans HM.out
   have al:But J W Wp:=by rw[ab];exact aa.out
   have ai:J+1<Wp.heap.size:=(Ai ac).1;have az:=hid aj;have ap:=hid ac;have aA:=hid al;clear ab aj ac al;refine Z3 (s:=22) (ds:=[32,33,34,35,36,37,38,39,40,41,42,43,44,45,46,47,48,49,50,31,51,52]) (R:=RS J 298 (qj .u32 L) Wp) (Good:=zz 22 J 298 (qj .u32 X) [.agg (qj .u32 L),.int .i64 pa,.int .i64 pb,.int .i64 pc,.int .i64 pd,.int .i64 r,.int .i64 j,.int .i64 k2,.int .i64 sx,.pointer (some ⟨J+1,sx,none⟩),.int .u32 mx,.int .i64 r,.int .i64 j,.int .i64 k2,.int .i64 k3,.int .i64 sy,.pointer (some ⟨J+1,sy,none⟩),.int .u32 my,.tuple #[.agg (qj .u32 X),.int .i64 0],.tuple #[.agg (qj .u32 X),.int .i64 0],.agg (qj .u32 X),.int .i64 0]) rfl (by decide) (by kernel_rfl) (by kernel_rfl) ?_ ?_ ?_ ?_
   case refine_1=>exact⟨(But.refl J Wp).trans (But.of_below Br.drew),fun _=>az.out⟩
   case refine_2=>
    refine ZT (p:=_) ?_;refine qh ?_ (qh ?_ (qh ?_ (qh ?_ (qh ?_ (qh ?_ (qh ?_ (qh ?_ (qh ?_ (qh ?_ (qh ?_ (qh ?_ (qh ?_ (qh ?_ (qh ?_ (qh ?_ (qh ?_ (qh ?_ (qh ?_ (qh ?_ (qh ?_ (qh ?_ (qh ?_ (j8)))))))))))))))))))))))
    ·intro f x W' I D q K G;clear q;have U:=I.2 (D (by kernel_rfl));simp only[lay,Act.put,Ls]at G⊢;rw[if_pos (ZE rfl)];refine wp_load_row 298 _ rfl J rfl _ _ _ _ U Tryz.underlying298 rfl (by rw[qg,S.1];kernel_rfl) ?_;exact G _ _ (I.same Qt) (fun _ _ _ h=>h) rfl
    ·intro f x W' I D q K G;clear q;clear D;simp only[lay,Act.put,Ls]at G⊢;go_simp
     exact G _ _ (I.same Qt) (fun _ _ _ h=>h) rfl
    ·intro f x W' I D q K G;clear q;clear D;simp only[lay,Act.put,Ls]at G⊢;go_simp
     exact G _ _ (I.same Qt) (fun _ _ _ h=>h) rfl
    ·intro f x W' I D q K G;clear q;clear D;simp only[lay,Act.put,Ls]at G⊢;go_simp
     exact G _ _ (I.same Qt) (fun _ _ _ h=>h) rfl
    ·intro f x W' I D q K G;clear q;clear D;simp only[lay,Act.put,Ls]at G⊢;go_simp
     exact G _ _ (I.same Qt) (fun _ _ _ h=>h) rfl
    ·intro f x W' I D q K G;clear q;clear D;simp only[lay,Act.put,Ls]at G⊢;go_simp
     exact G _ _ (I.same Qt) (fun _ _ _ h=>h) rfl
    ·intro f x W' I D q K G;clear q;clear D;simp only[lay,Act.put,Ls]at G⊢;go_simp
     exact G _ _ (I.same Qt) (fun _ _ _ h=>h) rfl
    ·intro f x W' I D q K G;have O:x 38= .int .i64 j:=q ⟨6,.data⟩ (by simp) rfl _ rfl;clear q;clear D;simp only[lay,Act.put,Ls,O]at G⊢;go_simp
     exact G _ _ (I.same Qt) (fun _ _ _ h=>h) rfl
    ·intro f x W' I D q K G;have O:x 37= .int .i64 r:=q ⟨5,.data⟩ (by simp) rfl _ rfl;have g1:x 39= .int .i64 k2:=q ⟨7,.data⟩ (by simp) rfl _ rfl;clear q;clear D;simp only[lay,Act.put,Ls,O,g1]at G⊢;go_simp
     refine(aw.out W').mono ?_;rintro e4 w4 ⟨rfl,rfl⟩
     exact G _ _ (I.same Qt) (fun _ _ _ h=>h) rfl
    ·intro f x W' I D q K G;have O:x 40= .int .i64 sx:=q ⟨8,.data⟩ (by simp) rfl _ rfl;clear q;clear D;simp only[lay,Act.put,Ls,O]at G⊢;go_simp
     exact G _ _ (I.same Qt) (fun _ _ _ h=>h) rfl
    ·intro f x W' I D q K G;have O:x 41= .pointer (some ⟨J+1,sx,none⟩):=q ⟨9,.data⟩ (by simp) rfl _ rfl;clear q;have cM:=(qq ((I.1.block (J+1) ai (by omega)).trans ap.out) sx).trans HX.out;clear D;simp only[lay,Act.put,Ls,O]at G⊢;go_simp
     exact G _ _ (I.same Qt) (fun _ _ _ h=>h) rfl
    ·intro f x W' I D q K G;clear q;clear D;simp only[lay,Act.put,Ls]at G⊢;go_simp
     exact G _ _ (I.same Qt) (fun _ _ _ h=>h) rfl
    ·intro f x W' I D q K G;clear q;clear D;simp only[lay,Act.put,Ls]at G⊢;go_simp
     exact G _ _ (I.same Qt) (fun _ _ _ h=>h) rfl
    ·intro f x W' I D q K G;have O:x 44= .int .i64 j:=q ⟨12,.data⟩ (by simp) rfl _ rfl;clear q;clear D;simp only[lay,Act.put,Ls,O]at G⊢;go_simp
     exact G _ _ (I.same Qt) (fun _ _ _ h=>h) rfl
    ·intro f x W' I D q K G;have O:x 45= .int .i64 k2:=q ⟨13,.data⟩ (by simp) rfl _ rfl;clear q;clear D;simp only[lay,Act.put,Ls,O]at G⊢;go_simp
     exact G _ _ (I.same Qt) (fun _ _ _ h=>h) rfl
    ·intro f x W' I D q K G;have O:x 43= .int .i64 r:=q ⟨11,.data⟩ (by simp) rfl _ rfl;have g1:x 46= .int .i64 k3:=q ⟨14,.data⟩ (by simp) rfl _ rfl;clear q;clear D;simp only[lay,Act.put,Ls,O,g1]at G⊢;go_simp
     refine(aB.out W').mono ?_;rintro e4 w4 ⟨rfl,rfl⟩
     exact G _ _ (I.same Qt) (fun _ _ _ h=>h) rfl
    ·intro f x W' I D q K G;have O:x 47= .int .i64 sy:=q ⟨15,.data⟩ (by simp) rfl _ rfl;clear q;clear D;simp only[lay,Act.put,Ls,O]at G⊢;go_simp
     exact G _ _ (I.same Qt) (fun _ _ _ h=>h) rfl
    ·intro f x W' I D q K G;have O:x 48= .pointer (some ⟨J+1,sy,none⟩):=q ⟨16,.data⟩ (by simp) rfl _ rfl;clear q;have cM:=(qq ((I.1.block (J+1) ai (by omega)).trans ap.out) sy).trans HY.out;clear D;simp only[lay,Act.put,Ls,O]at G⊢;go_simp
     exact G _ _ (I.same Qt) (fun _ _ _ h=>h) rfl
    ·intro f x W' I D q K G;have O:x 32= .agg (qj .u32 L):=q ⟨0,.data⟩ (by simp) rfl _ rfl;have g1:x 33= .int .i64 pa:=q ⟨1,.data⟩ (by simp) rfl _ rfl;have g2:x 34= .int .i64 pb:=q ⟨2,.data⟩ (by simp) rfl _ rfl;have g3:x 35= .int .i64 pc:=q ⟨3,.data⟩ (by simp) rfl _ rfl;have g4:x 36= .int .i64 pd:=q ⟨4,.data⟩ (by simp) rfl _ rfl;have g5:x 42= .int .u32 mx:=q ⟨10,.data⟩ (by simp) rfl _ rfl;have g6:x 49= .int .u32 my:=q ⟨17,.data⟩ (by simp) rfl _ rfl;clear q;clear D;simp only[lay,Act.put,Ls,O,g1,g2,g3,g4,g5,g6]at G⊢;go_simp
     refine(HG.out W').mono ?_;rintro e4 w4 ⟨rfl,ag⟩
     exact G _ _ (I.next ag Qt) (qa4 _ ag _) rfl
    ·intro f x W' I D q K G;have O:x 50= .tuple #[.agg (qj .u32 X),.int .i64 0]:=q ⟨18,.data⟩ (by simp) rfl _ rfl;clear q;clear D;simp only[lay,Act.put,Ls,O]at G⊢;go_simp
     exact G _ _ (I.same Qt) (fun _ _ _ h=>h) rfl
    ·intro f x W' I D q K G;have O:x 31= .tuple #[.agg (qj .u32 X),.int .i64 0]:=q ⟨19,.data⟩ (by simp) rfl _ rfl;clear q;clear D;simp only[lay,Act.put,Ls,O]at G⊢;go_simp
     exact G _ _ (I.same Qt) (fun _ _ _ h=>h) rfl
    ·intro f x W' I D q K G;have O:x 31= .tuple #[.agg (qj .u32 X),.int .i64 0]:=q ⟨19,.data⟩ (by simp) rfl _ rfl;clear q;clear D;simp only[lay,Act.put,Ls,O]at G⊢;go_simp
     exact G _ _ (I.same Qt) (fun _ _ _ h=>h) rfl
    ·intro f x W' I D q K G;have O:x 51= .agg (qj .u32 X):=q ⟨20,.data⟩ (by simp) rfl _ rfl;clear q;have U:=I.2 (D (by kernel_rfl));simp only[lay,Act.put,Ls,O]at G⊢;rw[if_pos (ZE rfl)];refine wp_store_row 298 _ _ rfl J (qj .u32 X) rfl rfl _ _ U (by rw[qg,Y.1];kernel_rfl) (by simp only[qg,Y.1,S.1]) qy ?_;exact G undef _ ⟨I.1.setRow _,fun e=>by simp at e⟩ (qa3 _) (qa2 (setRow_heap _ _ _ _ _ _ U))
   case refine_3=>
    refine ZT (p:=fun i (o:Oper)=> ∀v W,o.dst=none→zz 22 J 298 (qj .u32 X) _ i v W→zz 22 J 298 (qj .u32 X) _ i undef W) ?_|>fun h i o v W hi=>h i o hi v W
    refine qh ?_ (qh ?_ (qh ?_ (qh ?_ (qh ?_ (qh ?_ (qh ?_ (qh ?_ (qh ?_ (qh ?_ (qh ?_ (qh ?_ (qh ?_ (qh ?_ (qh ?_ (qh ?_ (qh ?_ (qh ?_ (qh ?_ (qh ?_ (qh ?_ (qh ?_ (qh ?_ (j8)))))))))))))))))))))));all_goals first|(intro v W h;cases h;done)|exact fun v W _ h=>qc9 rfl v W h
   case refine_4=>
    intro f x W' I hG;have hS:qcj W' J 298 (qj .u32 X):=hG 22 _ rfl;have aC:=hid hS;have ax:=hid (aA.out.trans I.1);clear hS I hG;simp only[lay,Act.put,Ls];go_wp2
    exact⟨⟨j+1,rfl,by omega,by rw[ae.out];exact aC.out,ax.out⟩,by simp[intOf];omega⟩
  ·obtain rfl:j=8:=by omega
   have S:=qJ Qr af (M:=M) r 8;have HL:=hid (show Ending.returned (.tuple #[.agg (qj .u32 (mixSmall.turns V M r 8)),.int .i64 0])= .returned (.tuple #[.agg (qj .u32 (mixSmall.round V M r)),.int .i64 0]) from rfl);have ak:=(aa.out.block (J+1+1) av (by omega)).trans HR.out;have ay:=hid (HB.out.trans (aa.out.below (by omega) HB.out.size));generalize mixSmall.turns V M r 8=L at*;go_upto_region 8 with(fail)
   apply wp_region_lit
   refine wpList_load_row rfl 298 _ rfl J rfl _ _ _ _ ad.out Tryz.underlying298 rfl (by rw[qg,S.1];kernel_rfl) ?_;refine wpList_store_row rfl 298 _ _ rfl (J+1+1) (qj .u32 L) rfl rfl 298 _ ak (by rw[qg,S.1];kernel_rfl) (by rw[qg,S.1];rfl) qy ?_;simp only[Act.put,Ls];go_wp2_with fail
   exact Bp (qH rfl _ _ _ _ _ _ _ rfl (setRow_heap _ _ _ _ _ _ ak) Tryz.underlying298 rfl (by rw[qg,S.1];kernel_rfl)) rfl ⟨Eq.trans (b:= .returned (.tuple #[.agg (qj .u32 L),.int .i64 0])) rfl HL.out,below_setRow (ay.out.mono (by omega)) (by omega) _⟩
theorem zh (k:IntKind)(x y:Int):bits .xor k x y=bits .xor k y x:=by simp only[bits,BitVec.xor_comm]
def ZB (h iv:List Int):Nat→List Int
 | 0=>[0,0,0,0,0,0,0,0,0,0,0,0,0,0,0,0]
 | i+1=>((ZB h iv i).set i (wd h i)).set (i+8) (wd iv i)
theorem YX (h o:List Int): ∀i,(ZB h o i).length=16
 | 0=>rfl
 | i+1=>by simp[ZB,YX h o i]
theorem yw {k:IntKind}{n:Nat}{L:List Int}(h:L.length=n){i:Nat}(hi:i<n):(qj k L)[i]? =some (.int k (wd L i)):=by
 simp[qj,wd,Lg,List.getElem?_eq_getElem (show i<L.length by omega)]
theorem qbM (w:World):Calls Tryz.prog 221 #[] w fun e w'=>e= .returned (.agg Ki)∧Below w.heap.size w w':=by
 go_enter Tryz.func221,Tryz.ntmps221
 go_wp2
 exact Bp (results_cell_row rfl _ _ _ _ _ _ _ rfl (Wn _ _) Tryz.underlying284 rfl rfl) rfl ⟨rfl,Br.alloc Nl _⟩
theorem qhi (h:List Int)(hh:Words 64 8 h)(lo hi:Int)(Y node:Bool)(w:World):Calls Tryz.prog 208 #[.agg (qj .u64 h),.int .u64 lo,.int .u64 hi,.bool Y,.bool node] w fun e w'=>e= .returned (.agg (qj .u64 (YS .u64 IVb h lo hi Y node)))∧Below w.heap.size w w':=by
 obtain⟨q,ap⟩:=Ex w.heap.size;go_enter Tryz.func208,Tryz.ntmps208
 go_wp2_with fail
 refine qm ?_;intro W r;have an:W.heap[q]? =some (.cells (qj .u64 h) 274 (0,0)):=by
  rw[r];exact(Bh _ _ _ (by simp;omega)).trans ((Bh _ _ _ (by simp;omega)).trans (qe _ _ ap.symm))
 have ag:W.heap[q+1]? =some (.cells Ka 252 (0,0)):=by
  rw[r];exact(Bh _ _ _ (by simp;omega)).trans (qe _ _ (by simp;omega))
 have aa:W.heap[q+1+1]? =some (.cells (qj .u64 (ZB h IVb 0)) 252 (0,0)):=by
  rw[r];exact qe _ _ (by simp;omega)
 have am:Below w.heap.size w W:=by
  rw[r];exact(((Below.refl w.heap.size w).alloc Nl _).alloc (by simp) _).alloc (by simp;omega) _
 have au:q+1+1<W.heap.size:=(Ai aa).1;clear r;have HH:=hid an;have O:=hid ag;have J:=hid aa;have I:=hid am;clear an ag aa am;go_loopw [12] (fun i wr=> ∃j:Nat,i= .int .i64 j∧j≤8∧wr.heap[q+1+1]? =some (.cells (qj .u64 (ZB h IVb j)) 252 (0,0))∧But (q+1+1) W wr) (fun i _=>8 - (intOf i).toNat)
 case atStart=>exact⟨0,rfl,Nat.zero_le _,J.out,But.refl _ _⟩
 case round=>
  obtain⟨j,rfl,hj,hv,X⟩:=hrel;have av:=X.size;have ai:=hid hv;have ak:=hid X;by_cases al:j<8
  ·have c1:wr.cell? ⟨q,j,none⟩=some (.int .u64 (wd h j)):=by
    rw[qq ((X.block q (by omega) (by omega)).trans HH.out),qE hh al]
   have c2:wr.cell? ⟨q+1+1,j,none⟩=some (.int .u64 (wd (ZB h IVb j) j)):=(qq hv _).trans (yw (YX _ _ _) (by omega));have f2: ∀o,wr.frozen? ⟨q+1+1,o,none⟩=false:=(qR hv).2;have aw:IntKind.i64.wrap ((j:Int)+8)=((j+8:Nat):Int):=by rw[IntKind.wrap_i64];omega
   have ar:j+8<16:=by omega
   clear hv X;go_wp2_with fail
   refine(qcS j al _).mono ?_;rintro e2 w2 ⟨rfl,ab⟩;have V:=(ab.block (q+1+1) (by simp;omega)).trans (block_setCell ai.out _);rw[Qj]at V;have aq:=hid ((ak.out.set j _).trans (But.of_below (b:=q+1+1) ab));have c3:w2.cell? ⟨q+1+1,j+8,none⟩=some (.int .u64 (wd ((ZB h IVb j).set j (wd h j)) (j+8))):=(qq V _).trans (yw (n:=16) (by simp[YX]) (by omega));have f3: ∀o,w2.frozen? ⟨q+1+1,o,none⟩=false:=(qR V).2;have ao:=hid V;clear V ab c1 c2 f2;go_wp2
   exact⟨⟨j+1,rfl,by omega,by rw[ZB,←Qj];exact block_setCell ao.out _,aq.out.set _ _⟩,by simp[intOf];omega⟩
  ·obtain rfl:j=8:=by omega
   have ac:wr.heap[q+1+1]? =some (.cells #[.int .u64 (wd h 0),.int .u64 (wd h 1),.int .u64 (wd h 2),.int .u64 (wd h 3),.int .u64 (wd h 4),.int .u64 (wd h 5),.int .u64 (wd h 6),.int .u64 (wd h 7),.int .u64 7640891576956012808,.int .u64 13503953896175478587,.int .u64 4354685564936845355,.int .u64 11912009170470909681,.int .u64 5840696475078001361,.int .u64 11170449401992604703,.int .u64 2270897969802886507,.int .u64 6620516959819538809] 252 (0,0)):=hv;have af:=hid ac;have aj:=hid ((X.block (q+1) (by omega) (by omega)).trans O.out);have ad:=hid (I.out.trans (X.below (by omega) I.out.size));obtain⟨cv,fv⟩:=qR ac;clear hv X ac ai ak J O I HH;go_upto_region 9 with(fail)
   refine qm ?_;intro W5 r;have Z:W5.heap[q+1+1]? =some (.cells #[.int .u64 (wd h 0),.int .u64 (wd h 1),.int .u64 (wd h 2),.int .u64 (wd h 3),.int .u64 (wd h 4),.int .u64 (wd h 5),.int .u64 (wd h 6),.int .u64 (wd h 7),.int .u64 7640891576956012808,.int .u64 13503953896175478587,.int .u64 4354685564936845355,.int .u64 11912009170470909681,.int .u64 (bits .xor .u64 5840696475078001361 lo),.int .u64 (bits .xor .u64 11170449401992604703 hi),.int .u64 2270897969802886507,.int .u64 6620516959819538809] 252 (0,0)):=by
    rw[r];exact block_setCell (i:=13) (block_setCell (i:=12) af.out _) _
   have ah:W5.heap[q+1]? =some (.cells Ka 252 (0,0)):=by
    rw[r];exact(Below.heap_setCell _ _ _ _ (by simp)).trans ((Below.heap_setCell _ _ _ _ (by simp)).trans aj.out)
   have ae:Below w.heap.size w W5:=by
    rw[r];exact(ad.out.setCell (by simp;omega) _).setCell (by simp;omega) _
   clear r af aj ad cv fv;have ax:=(Ai Z).1;obtain⟨cv,fv⟩:=qR Z;have J:=hid Z;have O:=hid ah;have I:=hid ae;clear Z ah ae
   cases Y<;>cases node
   ·skip
    go_upto_region 13 with(fail)
    refine qm ?_;intro G r;have S:G.heap[q+1+1]? =some (.cells #[.int .u64 (wd h 0),.int .u64 (wd h 1),.int .u64 (wd h 2),.int .u64 (wd h 3),.int .u64 (wd h 4),.int .u64 (wd h 5),.int .u64 (wd h 6),.int .u64 (wd h 7),.int .u64 7640891576956012808,.int .u64 13503953896175478587,.int .u64 4354685564936845355,.int .u64 11912009170470909681,.int .u64 (bits .xor .u64 5840696475078001361 lo),.int .u64 (bits .xor .u64 11170449401992604703 hi),.int .u64 2270897969802886507,.int .u64 6620516959819538809] 252 (0,0)):=by
     rw[r];exact J.out
    have D:G.heap[q+1]? =some (.cells Ka 252 (0,0)):=by
     rw[r];exact O.out
    have U:Below w.heap.size w G:=by
     rw[r];exact I.out
    clear r J O I cv fv;apply wp_region_lit
    refine wpList_load_row rfl 252 _ rfl (q+1+1) rfl _ _ _ _ S Tryz.underlying252 rfl (by kernel_rfl) ?_;refine wpList_store_row rfl 252 _ _ rfl (q+1) _ rfl rfl 252 _ D (by kernel_rfl) (by kernel_rfl) (by kernel_rfl) ?_;simp only[Act.put,Ls];go_wp2_with fail
    exact Bp (results_cell_row rfl _ _ _ _ _ _ _ rfl (setRow_heap _ _ _ _ _ _ D) Tryz.underlying252 rfl (by kernel_rfl)) rfl ⟨rfl,below_setRow (U.mono (by omega)) (by omega) _⟩
   ·skip
    go_upto_region 13 with(fail)
    refine qm ?_;intro G r;have S:G.heap[q+1+1]? =some (.cells #[.int .u64 (wd h 0),.int .u64 (wd h 1),.int .u64 (wd h 2),.int .u64 (wd h 3),.int .u64 (wd h 4),.int .u64 (wd h 5),.int .u64 (wd h 6),.int .u64 (wd h 7),.int .u64 7640891576956012808,.int .u64 13503953896175478587,.int .u64 4354685564936845355,.int .u64 11912009170470909681,.int .u64 (bits .xor .u64 5840696475078001361 lo),.int .u64 (bits .xor .u64 11170449401992604703 hi),.int .u64 2270897969802886507,.int .u64 (bits .xor .u64 (IntKind.max .u64) 6620516959819538809)] 252 (0,0)):=by
     rw[r];exact(block_setCell (i:=15) J.out _)
    have D:G.heap[q+1]? =some (.cells Ka 252 (0,0)):=by
     rw[r];exact((Below.heap_setCell _ _ _ _ (by simp)).trans O.out)
    have U:Below w.heap.size w G:=by
     rw[r];exact(I.out.setCell (by simp;omega) _)
    clear r J O I cv fv;apply wp_region_lit
    refine wpList_load_row rfl 252 _ rfl (q+1+1) rfl _ _ _ _ S Tryz.underlying252 rfl (by kernel_rfl) ?_;refine wpList_store_row rfl 252 _ _ rfl (q+1) _ rfl rfl 252 _ D (by kernel_rfl) (by kernel_rfl) (by kernel_rfl) ?_;simp only[Act.put,Ls];go_wp2_with fail
    exact Bp (results_cell_row rfl _ _ _ _ _ _ _ rfl (setRow_heap _ _ _ _ _ _ D) Tryz.underlying252 rfl (by kernel_rfl)) rfl ⟨rfl,below_setRow (U.mono (by omega)) (by omega) _⟩
   ·skip
    go_upto_region 13 with(fail)
    refine qm ?_;intro G r;have S:G.heap[q+1+1]? =some (.cells #[.int .u64 (wd h 0),.int .u64 (wd h 1),.int .u64 (wd h 2),.int .u64 (wd h 3),.int .u64 (wd h 4),.int .u64 (wd h 5),.int .u64 (wd h 6),.int .u64 (wd h 7),.int .u64 7640891576956012808,.int .u64 13503953896175478587,.int .u64 4354685564936845355,.int .u64 11912009170470909681,.int .u64 (bits .xor .u64 5840696475078001361 lo),.int .u64 (bits .xor .u64 11170449401992604703 hi),.int .u64 (bits .xor .u64 (IntKind.max .u64) 2270897969802886507),.int .u64 6620516959819538809] 252 (0,0)):=by
     rw[r];exact(block_setCell (i:=14) J.out _)
    have D:G.heap[q+1]? =some (.cells Ka 252 (0,0)):=by
     rw[r];exact((Below.heap_setCell _ _ _ _ (by simp)).trans O.out)
    have U:Below w.heap.size w G:=by
     rw[r];exact(I.out.setCell (by simp;omega) _)
    clear r J O I cv fv;apply wp_region_lit
    refine wpList_load_row rfl 252 _ rfl (q+1+1) rfl _ _ _ _ S Tryz.underlying252 rfl (by kernel_rfl) ?_;refine wpList_store_row rfl 252 _ _ rfl (q+1) _ rfl rfl 252 _ D (by kernel_rfl) (by kernel_rfl) (by kernel_rfl) ?_;simp only[Act.put,Ls];go_wp2_with fail
    exact Bp (results_cell_row rfl _ _ _ _ _ _ _ rfl (setRow_heap _ _ _ _ _ _ D) Tryz.underlying252 rfl (by kernel_rfl)) rfl ⟨rfl,below_setRow (U.mono (by omega)) (by omega) _⟩
   ·skip
    go_upto_region 13 with(fail)
    refine qm ?_;intro G r;have S:G.heap[q+1+1]? =some (.cells #[.int .u64 (wd h 0),.int .u64 (wd h 1),.int .u64 (wd h 2),.int .u64 (wd h 3),.int .u64 (wd h 4),.int .u64 (wd h 5),.int .u64 (wd h 6),.int .u64 (wd h 7),.int .u64 7640891576956012808,.int .u64 13503953896175478587,.int .u64 4354685564936845355,.int .u64 11912009170470909681,.int .u64 (bits .xor .u64 5840696475078001361 lo),.int .u64 (bits .xor .u64 11170449401992604703 hi),.int .u64 (bits .xor .u64 (IntKind.max .u64) 2270897969802886507),.int .u64 (bits .xor .u64 (IntKind.max .u64) 6620516959819538809)] 252 (0,0)):=by
     rw[r];exact(block_setCell (i:=15) (block_setCell (i:=14) J.out _) _)
    have D:G.heap[q+1]? =some (.cells Ka 252 (0,0)):=by
     rw[r];exact((Below.heap_setCell _ _ _ _ (by simp)).trans ((Below.heap_setCell _ _ _ _ (by simp)).trans O.out))
    have U:Below w.heap.size w G:=by
     rw[r];exact((I.out.setCell (by simp;omega) _).setCell (by simp;omega) _)
    clear r J O I cv fv;apply wp_region_lit
    refine wpList_load_row rfl 252 _ rfl (q+1+1) rfl _ _ _ _ S Tryz.underlying252 rfl (by kernel_rfl) ?_;refine wpList_store_row rfl 252 _ _ rfl (q+1) _ rfl rfl 252 _ D (by kernel_rfl) (by kernel_rfl) (by kernel_rfl) ?_;simp only[Act.put,Ls];go_wp2_with fail
    exact Bp (results_cell_row rfl _ _ _ _ _ _ _ rfl (setRow_heap _ _ _ _ _ _ D) Tryz.underlying252 rfl (by kernel_rfl)) rfl ⟨rfl,below_setRow (U.mono (by omega)) (by omega) _⟩
theorem qfS (h:List Int)(hh:Words 32 8 h)(c:Int)(aI:0≤c)(aD:c<18446744073709551616)(ab node:Bool)(w:World):Calls Tryz.prog 211 #[.agg (qj .u32 h),.int .u64 c,.bool ab,.bool node] w fun e w'=>e= .returned (.agg (qj .u32 (YS .u32 IVs h (c%4294967296) (c/4294967296) ab node)))∧Below w.heap.size w w':=by
 obtain⟨q,ay⟩:=Ex w.heap.size;go_enter Tryz.func211,Tryz.ntmps211
 go_wp2_with fail
 refine(qbM _).mono ?_;rintro e1 w1 ⟨rfl,aa⟩;have ai:=(aa.block q (by simp;omega)).trans ((Bh _ _ _ (by simp;omega)).trans ((Bh _ _ _ (by simp;omega)).trans (qe _ _ ay.symm)));have au:=(aa.block (q+1) (by simp;omega)).trans ((Bh _ _ _ (by simp;omega)).trans (qe _ _ (by simp;omega)));have ak:=(aa.block (q+1+1) (by simp;omega)).trans (qe _ _ (by simp;omega));have ah:Below w.heap.size w w1:=((((Below.refl w.heap.size w).alloc Nl _).alloc (by simp) _).alloc (by simp;omega) _).trans (aa.mono (by simp;omega));have az:q+3≤w1.heap.size:=by have:=aa.size;simp at this;omega
 clear aa;go_wp2_with fail
 refine qm ?_;intro W r;obtain⟨bi,ad⟩:=Ex w1.heap.size;have ax:W.heap[q]? =some (.cells (qj .u32 h) 284 (0,0)):=by
  rw[r];exact(Bh _ _ _ (by omega)).trans ai
 have ar:W.heap[q+1]? =some (.cells Kd 298 (0,0)):=by
  rw[r];exact(Bh _ _ _ (by omega)).trans au
 have af:W.heap[q+1+1]? =some (.cells (qj .u32 (ZB h IVs 0)) 298 (0,0)):=by
  rw[r];exact(Bh _ _ _ (by omega)).trans ak
 have ag:W.heap[bi]? =some (.cells (qj .u32 IVs) 284 (0,0)):=by
  rw[r];exact qe _ _ ad.symm
 have ap:Below w.heap.size w W:=by
  rw[r];exact ah.alloc (by omega) _
 have aE:q+1+1<W.heap.size:=(Ai af).1;have aG:bi<W.heap.size:=(Ai ag).1;rw[ad];have aB:q+3≤bi:=by omega
 clear r ai au ak ah az ad;have HH:=hid ax;have Y:=hid ar;have V:=hid af;have HI:=hid ag;have J:=hid ap;clear ax ar af ap ag;go_loopw [11] (fun i wr=> ∃j:Nat,i= .int .i64 j∧j≤8∧wr.heap[q+1+1]? =some (.cells (qj .u32 (ZB h IVs j)) 298 (0,0))∧But (q+1+1) W wr) (fun i _=>8 - (intOf i).toNat)
 case atStart=>exact⟨0,rfl,Nat.zero_le _,V.out,But.refl _ _⟩
 case round=>
  obtain⟨j,rfl,hj,hv,hB⟩:=hrel;have aF:=hB.size;have aj:=hid hv;have an:=hid hB;by_cases ao:j<8
  ·have c1:wr.cell? ⟨q,j,none⟩=some (.int .u32 (wd h j)):=by
    rw[qq ((hB.block q (by omega) (by omega)).trans HH.out),qE hh ao]
   have c4:wr.cell? ⟨bi,j,none⟩=some (.int .u32 (wd IVs j)):=by
    rw[qq ((hB.block bi (by omega) (by omega)).trans HI.out),qE qaK ao]
   have c2:wr.cell? ⟨q+1+1,j,none⟩=some (.int .u32 (wd (ZB h IVs j) j)):=(qq hv _).trans (yw (YX _ _ _) (by omega));have c3:wr.cell? ⟨q+1+1,j+8,none⟩=some (.int .u32 (wd (ZB h IVs j) (j+8))):=(qq hv _).trans (yw (YX _ _ _) (by omega));have f2: ∀o,wr.frozen? ⟨q+1+1,o,none⟩=false:=(qR hv).2;have aC:IntKind.i64.wrap ((j:Int)+8)=((j+8:Nat):Int):=by rw[IntKind.wrap_i64];omega
   have aA:j+8<16:=by omega
   have aJ:(bi=q+1+1)=False:=by simp;omega
   clear hv hB;go_wp2
   exact⟨⟨j+1,rfl,by omega,by rw[ZB,←Qj,←Qj];exact block_setCell (block_setCell aj.out _) _,(an.out.set _ _).set _ _⟩,by simp[intOf];omega⟩
  ·obtain rfl:j=8:=by omega
   have ae:wr.heap[q+1+1]? =some (.cells #[.int .u32 (wd h 0),.int .u32 (wd h 1),.int .u32 (wd h 2),.int .u32 (wd h 3),.int .u32 (wd h 4),.int .u32 (wd h 5),.int .u32 (wd h 6),.int .u32 (wd h 7),.int .u32 1779033703,.int .u32 3144134277,.int .u32 1013904242,.int .u32 2773480762,.int .u32 1359893119,.int .u32 2600822924,.int .u32 528734635,.int .u32 1541459225] 298 (0,0)):=hv;have av:=hid ae;have aw:=hid ((hB.block (q+1) (by omega) (by omega)).trans Y.out);have al:=hid (J.out.trans (hB.below (by omega) J.out.size));obtain⟨cv,fv⟩:=qR ae;clear hv hB ae aj an V Y J HH HI;go_upto_region 10 with(fail)
   refine qm ?_;intro W5 r;have ac:W5.heap[q+1+1]? =some (.cells #[.int .u32 (wd h 0),.int .u32 (wd h 1),.int .u32 (wd h 2),.int .u32 (wd h 3),.int .u32 (wd h 4),.int .u32 (wd h 5),.int .u32 (wd h 6),.int .u32 (wd h 7),.int .u32 1779033703,.int .u32 3144134277,.int .u32 1013904242,.int .u32 2773480762,.int .u32 (bits .xor .u32 1359893119 (c%4294967296)),.int .u32 (bits .xor .u32 2600822924 (c/4294967296)),.int .u32 528734635,.int .u32 1541459225] 298 (0,0)):=by
    rw[r];exact block_setCell (i:=13) (block_setCell (i:=12) av.out _) _
   have am:W5.heap[q+1]? =some (.cells Kd 298 (0,0)):=by
    rw[r];exact(Below.heap_setCell _ _ _ _ (by simp)).trans ((Below.heap_setCell _ _ _ _ (by simp)).trans aw.out)
   have aq:Below w.heap.size w W5:=by
    rw[r];exact(al.out.setCell (by simp;omega) _).setCell (by simp;omega) _
   clear r av aw al cv fv;have aH:=(Ai ac).1;obtain⟨cv,fv⟩:=qR ac;have V:=hid ac;have Y:=hid am;have J:=hid aq;clear ac am aq
   cases ab<;>cases node
   ·skip
    have I:=hid (show Ending.returned (.agg #[.int .u32 (wd h 0),.int .u32 (wd h 1),.int .u32 (wd h 2),.int .u32 (wd h 3),.int .u32 (wd h 4),.int .u32 (wd h 5),.int .u32 (wd h 6),.int .u32 (wd h 7),.int .u32 1779033703,.int .u32 3144134277,.int .u32 1013904242,.int .u32 2773480762,.int .u32 (bits .xor .u32 1359893119 (c%4294967296)),.int .u32 (bits .xor .u32 2600822924 (c/4294967296)),.int .u32 528734635,.int .u32 1541459225])= .returned (.agg (qj .u32 (YS .u32 IVs h (c%4294967296) (c/4294967296) false false))) by simp only[YS,IVs,qj];rfl);go_upto_region 14 with(fail)
    refine qm ?_;intro G r;have U:G.heap[q+1+1]? =some (.cells #[.int .u32 (wd h 0),.int .u32 (wd h 1),.int .u32 (wd h 2),.int .u32 (wd h 3),.int .u32 (wd h 4),.int .u32 (wd h 5),.int .u32 (wd h 6),.int .u32 (wd h 7),.int .u32 1779033703,.int .u32 3144134277,.int .u32 1013904242,.int .u32 2773480762,.int .u32 (bits .xor .u32 1359893119 (c%4294967296)),.int .u32 (bits .xor .u32 2600822924 (c/4294967296)),.int .u32 528734635,.int .u32 1541459225] 298 (0,0)):=by
     rw[r];exact V.out
    have D:G.heap[q+1]? =some (.cells Kd 298 (0,0)):=by
     rw[r];exact Y.out
    have Z:Below w.heap.size w G:=by
     rw[r];exact J.out
    clear r V Y J cv fv;apply wp_region_lit
    refine wpList_load_row rfl 298 _ rfl (q+1+1) rfl _ _ _ _ U Tryz.underlying298 rfl (by kernel_rfl) ?_;refine wpList_store_row rfl 298 _ _ rfl (q+1) _ rfl rfl 298 _ D (by kernel_rfl) (by kernel_rfl) (by kernel_rfl) ?_;simp only[Act.put,Ls];go_wp2_with fail
    exact Bp (results_cell_row rfl _ _ _ _ _ _ _ rfl (setRow_heap _ _ _ _ _ _ D) Tryz.underlying298 rfl (by kernel_rfl)) rfl ⟨I.out,below_setRow (Z.mono (by omega)) (by omega) _⟩
   ·skip
    have S:=hid (show Ending.returned (.agg #[.int .u32 (wd h 0),.int .u32 (wd h 1),.int .u32 (wd h 2),.int .u32 (wd h 3),.int .u32 (wd h 4),.int .u32 (wd h 5),.int .u32 (wd h 6),.int .u32 (wd h 7),.int .u32 1779033703,.int .u32 3144134277,.int .u32 1013904242,.int .u32 2773480762,.int .u32 (bits .xor .u32 1359893119 (c%4294967296)),.int .u32 (bits .xor .u32 2600822924 (c/4294967296)),.int .u32 528734635,.int .u32 (bits .xor .u32 1541459225 4294967295)])= .returned (.agg (qj .u32 (YS .u32 IVs h (c%4294967296) (c/4294967296) false true))) by simp only[YS,IVs,qj];rw[zh .u32 1541459225 4294967295];rfl);go_upto_region 14 with(fail)
    refine qm ?_;intro G r;have U:G.heap[q+1+1]? =some (.cells #[.int .u32 (wd h 0),.int .u32 (wd h 1),.int .u32 (wd h 2),.int .u32 (wd h 3),.int .u32 (wd h 4),.int .u32 (wd h 5),.int .u32 (wd h 6),.int .u32 (wd h 7),.int .u32 1779033703,.int .u32 3144134277,.int .u32 1013904242,.int .u32 2773480762,.int .u32 (bits .xor .u32 1359893119 (c%4294967296)),.int .u32 (bits .xor .u32 2600822924 (c/4294967296)),.int .u32 528734635,.int .u32 (bits .xor .u32 1541459225 4294967295)] 298 (0,0)):=by
     rw[r];exact(block_setCell (i:=15) V.out _)
    have D:G.heap[q+1]? =some (.cells Kd 298 (0,0)):=by
     rw[r];exact((Below.heap_setCell _ _ _ _ (by simp)).trans Y.out)
    have Z:Below w.heap.size w G:=by
     rw[r];exact(J.out.setCell (by simp;omega) _)
    clear r V Y J cv fv;apply wp_region_lit
    refine wpList_load_row rfl 298 _ rfl (q+1+1) rfl _ _ _ _ U Tryz.underlying298 rfl (by kernel_rfl) ?_;refine wpList_store_row rfl 298 _ _ rfl (q+1) _ rfl rfl 298 _ D (by kernel_rfl) (by kernel_rfl) (by kernel_rfl) ?_;simp only[Act.put,Ls];go_wp2_with fail
    exact Bp (results_cell_row rfl _ _ _ _ _ _ _ rfl (setRow_heap _ _ _ _ _ _ D) Tryz.underlying298 rfl (by kernel_rfl)) rfl ⟨S.out,below_setRow (Z.mono (by omega)) (by omega) _⟩
   ·skip
    have O:=hid (show Ending.returned (.agg #[.int .u32 (wd h 0),.int .u32 (wd h 1),.int .u32 (wd h 2),.int .u32 (wd h 3),.int .u32 (wd h 4),.int .u32 (wd h 5),.int .u32 (wd h 6),.int .u32 (wd h 7),.int .u32 1779033703,.int .u32 3144134277,.int .u32 1013904242,.int .u32 2773480762,.int .u32 (bits .xor .u32 1359893119 (c%4294967296)),.int .u32 (bits .xor .u32 2600822924 (c/4294967296)),.int .u32 (bits .xor .u32 528734635 4294967295),.int .u32 1541459225])= .returned (.agg (qj .u32 (YS .u32 IVs h (c%4294967296) (c/4294967296) true false))) by simp only[YS,IVs,qj];rw[zh .u32 528734635 4294967295];rfl);go_upto_region 14 with(fail)
    refine qm ?_;intro G r;have U:G.heap[q+1+1]? =some (.cells #[.int .u32 (wd h 0),.int .u32 (wd h 1),.int .u32 (wd h 2),.int .u32 (wd h 3),.int .u32 (wd h 4),.int .u32 (wd h 5),.int .u32 (wd h 6),.int .u32 (wd h 7),.int .u32 1779033703,.int .u32 3144134277,.int .u32 1013904242,.int .u32 2773480762,.int .u32 (bits .xor .u32 1359893119 (c%4294967296)),.int .u32 (bits .xor .u32 2600822924 (c/4294967296)),.int .u32 (bits .xor .u32 528734635 4294967295),.int .u32 1541459225] 298 (0,0)):=by
     rw[r];exact(block_setCell (i:=14) V.out _)
    have D:G.heap[q+1]? =some (.cells Kd 298 (0,0)):=by
     rw[r];exact((Below.heap_setCell _ _ _ _ (by simp)).trans Y.out)
    have Z:Below w.heap.size w G:=by
     rw[r];exact(J.out.setCell (by simp;omega) _)
    clear r V Y J cv fv;apply wp_region_lit
    refine wpList_load_row rfl 298 _ rfl (q+1+1) rfl _ _ _ _ U Tryz.underlying298 rfl (by kernel_rfl) ?_;refine wpList_store_row rfl 298 _ _ rfl (q+1) _ rfl rfl 298 _ D (by kernel_rfl) (by kernel_rfl) (by kernel_rfl) ?_;simp only[Act.put,Ls];go_wp2_with fail
    exact Bp (results_cell_row rfl _ _ _ _ _ _ _ rfl (setRow_heap _ _ _ _ _ _ D) Tryz.underlying298 rfl (by kernel_rfl)) rfl ⟨O.out,below_setRow (Z.mono (by omega)) (by omega) _⟩
   ·skip
    have X:=hid (show Ending.returned (.agg #[.int .u32 (wd h 0),.int .u32 (wd h 1),.int .u32 (wd h 2),.int .u32 (wd h 3),.int .u32 (wd h 4),.int .u32 (wd h 5),.int .u32 (wd h 6),.int .u32 (wd h 7),.int .u32 1779033703,.int .u32 3144134277,.int .u32 1013904242,.int .u32 2773480762,.int .u32 (bits .xor .u32 1359893119 (c%4294967296)),.int .u32 (bits .xor .u32 2600822924 (c/4294967296)),.int .u32 (bits .xor .u32 528734635 4294967295),.int .u32 (bits .xor .u32 1541459225 4294967295)])= .returned (.agg (qj .u32 (YS .u32 IVs h (c%4294967296) (c/4294967296) true true))) by simp only[YS,IVs,qj];rw[zh .u32 528734635 4294967295,zh .u32 1541459225 4294967295];rfl);go_upto_region 14 with(fail)
    refine qm ?_;intro G r;have U:G.heap[q+1+1]? =some (.cells #[.int .u32 (wd h 0),.int .u32 (wd h 1),.int .u32 (wd h 2),.int .u32 (wd h 3),.int .u32 (wd h 4),.int .u32 (wd h 5),.int .u32 (wd h 6),.int .u32 (wd h 7),.int .u32 1779033703,.int .u32 3144134277,.int .u32 1013904242,.int .u32 2773480762,.int .u32 (bits .xor .u32 1359893119 (c%4294967296)),.int .u32 (bits .xor .u32 2600822924 (c/4294967296)),.int .u32 (bits .xor .u32 528734635 4294967295),.int .u32 (bits .xor .u32 1541459225 4294967295)] 298 (0,0)):=by
     rw[r];exact(block_setCell (i:=15) (block_setCell (i:=14) V.out _) _)
    have D:G.heap[q+1]? =some (.cells Kd 298 (0,0)):=by
     rw[r];exact((Below.heap_setCell _ _ _ _ (by simp)).trans ((Below.heap_setCell _ _ _ _ (by simp)).trans Y.out))
    have Z:Below w.heap.size w G:=by
     rw[r];exact((J.out.setCell (by simp;omega) _).setCell (by simp;omega) _)
    clear r V Y J cv fv;apply wp_region_lit
    refine wpList_load_row rfl 298 _ rfl (q+1+1) rfl _ _ _ _ U Tryz.underlying298 rfl (by kernel_rfl) ?_;refine wpList_store_row rfl 298 _ _ rfl (q+1) _ rfl rfl 298 _ D (by kernel_rfl) (by kernel_rfl) (by kernel_rfl) ?_;simp only[Act.put,Ls];go_wp2_with fail
    exact Bp (results_cell_row rfl _ _ _ _ _ _ _ rfl (setRow_heap _ _ _ _ _ _ D) Tryz.underlying298 rfl (by kernel_rfl)) rfl ⟨X.out,below_setRow (Z.mono (by omega)) (by omega) _⟩
theorem zM (k:IntKind)(o: ∀n:Int,0≤n→n<2^k.bits→k.wrap n=n)(a b:Int):bits .xor k a b=((BitVec.ofInt k.bits a^^^BitVec.ofInt k.bits b).toNat:Int):=by
 simp only[bits];refine o _ (by omega) ?_;have:=(BitVec.ofInt k.bits a^^^BitVec.ofInt k.bits b).isLt
 exact_mod_cast this
theorem jz (k:IntKind)(o: ∀n:Int,0≤n→n<2^k.bits→k.wrap n=n)(a b c:Int):bits .xor k (bits .xor k a b) c=bits .xor k a (bits .xor k b c):=by
 have e: ∀x:BitVec k.bits,BitVec.ofInt k.bits (x.toNat:Int)=x:=fun x=>by simp
 rw[zM k o (bits .xor k a b) c,zM k o a b,zM k o a (bits .xor k b c),zM k o b c,e,e,BitVec.xor_assoc]
theorem qd8 (a b c:Int):bits .xor .u64 (bits .xor .u64 a b) c=bits .xor .u64 a (bits .xor .u64 b c):=jz .u64 wraps_u64 a b c
theorem qd9 (a b c:Int):bits .xor .u32 (bits .xor .u32 a b) c=bits .xor .u32 a (bits .xor .u32 b c):=jz .u32 qab a b c
theorem qio (h V:List Int)(ab:Words 32 8 h)(hV:Words 32 16 V)(w:World):Calls Tryz.prog 213 #[.agg (qj .u32 h),.agg (qj .u32 V)] w fun e w'=>e= .returned (.agg (qj .u32 (YW .u32 h V 8)))∧Below w.heap.size w w':=by
 obtain⟨q,ag⟩:=Ex w.heap.size;go_enter Tryz.func213,Tryz.ntmps213
 go_wp2_with fail
 refine qm ?_;intro G O;have Z:G.heap[q]? =some (.cells (qj .u32 h) 284 (0,0)):=by
  rw[O];exact(Bh _ _ _ (by simp;omega)).trans ((Bh _ _ _ (by simp;omega)).trans (qe _ _ ag.symm))
 have S:G.heap[q+1]? =some (.cells (qj .u32 V) 298 (0,0)):=by
  rw[O];exact(Bh _ _ _ (by simp;omega)).trans (qe _ _ (by simp;omega))
 have J:G.heap[q+1+1]? =some (.cells Kf 284 (0,0)):=by
  rw[O];exact qe _ _ (by simp;omega)
 have ad:Below w.heap.size w G:=by
  rw[O];exact(((Below.refl w.heap.size w).alloc Nl _).alloc (by simp) _).alloc (by simp;omega) _
 clear O;have ae:=hid Z;have aj:=hid S;have al:=hid J;have aa:=hid ad;have af:q+1<G.heap.size:=(Ai S).1;have am:q+1+1<G.heap.size:=(Ai J).1;clear Z S J ad;go_loopw [5] (fun i w4=> ∃j:Nat,i= .int .i64 j∧j≤8∧w4.heap[q]? =some (.cells (qj .u32 (YW .u32 h V j)) 284 (0,0))∧But (q) G w4) (fun i _=>8 - (intOf i).toNat)
 case atStart=>exact⟨0,rfl,Nat.zero_le _,ae.out,But.refl _ _⟩
 case round=>
  obtain⟨j,rfl,hj,D,r⟩:=hrel;have ao:=r.size;have I:=(r.block (q+1) af (by omega)).trans aj.out;have q1:q+1<wr.heap.size:=by omega
  have q2:q<wr.heap.size:=by omega
  have Y:=hid D;have X:=hid r;by_cases ak:j<8
  ·have c1:wr.cell? ⟨q,j,none⟩=some (.int .u32 (wd h j)):=by
    rw[qq D,qE (QQ (fun z=>IntKind.wrap_u32 z) ab j) ak,zW j j Nl]
   have c2:wr.cell? ⟨q+1,j,none⟩=some (.int .u32 (wd V j)):=(qq I _).trans (qE hV (by omega));have c3:wr.cell? ⟨q+1,j+8,none⟩=some (.int .u32 (wd V (j+8))):=(qq I _).trans (qE hV (by omega));have f1: ∀o,wr.frozen? ⟨q,o,none⟩=false:=(qR D).2;have ap:IntKind.i64.wrap ((j:Int)+8)=((j+8:Nat):Int):=by rw[IntKind.wrap_i64];omega
   have an:j+8<16:=by omega
   clear D I r;go_wp2_with fail
   refine qk (by dsimp only[List.dropLast]) (by rfl) (by rfl) (by kernel_rfl) (by kernel_rfl) (by kernel_rfl) (by kernel_rfl) ?_;repeat(go_big_quiet_step (fail))
   refine wpQuiet_nil ?_;intro _ ah;obtain⟨n1,rfl⟩:=ah;go_wp2_with fail
   exact⟨⟨j+1,rfl,by omega,by rw[YW,←qd9,←Qj];exact block_setCell (w:=wr.drewN n1) Y.out _,(X.out.drewN n1).set _ _⟩,by simp[intOf];omega⟩
  ·obtain rfl:j=8:=by omega
   have ac:=(r.block (q+1+1) am (by omega)).trans al.out;have U:=QQ (k:= .u32) (fun z=>IntKind.wrap_u32 z) (v:=V) ab 8;have ai:=hid (aa.out.trans (X.out.below (by omega) aa.out.size));clear D I r;go_upto_region 5 with(fail)
   apply wp_region_lit
   refine wpList_load_row rfl 284 _ rfl (q) rfl _ _ _ _ Y.out Tryz.underlying284 rfl (by rw[qg,U.1];kernel_rfl) ?_;refine wpList_store_row rfl 284 _ _ rfl (q+1+1) (qj .u32 (YW .u32 h V 8)) rfl rfl 284 _ ac (by rw[qg,U.1];kernel_rfl) (by rw[qg,U.1];rfl) qy ?_;simp only[Act.put,Ls];go_wp2_with fail
   exact Bp (results_cell_row rfl _ _ _ _ _ _ _ rfl (setRow_heap _ _ _ _ _ _ ac) Tryz.underlying284 rfl (by rw[qg,U.1];kernel_rfl)) rfl ⟨rfl,below_setRow (ai.out.mono (by omega)) (by omega) _⟩
theorem qj0 (h M:List Int)(O:Words 64 8 h)(hM:Words 64 16 M)(lo hi:Int)(G node:Bool)(w:World):Calls Tryz.prog 194 #[.agg (qj .u64 h),.agg (qj .u64 M),.int .u64 lo,.int .u64 hi,.bool G,.bool node] w fun e w'=>e= .returned (.agg (qj .u64 (Zl mixBig IVb 12 h M lo hi G node)))∧Below w.heap.size w w':=by
 obtain⟨q,ax⟩:=Ex w.heap.size;have HC:=hid (qhi h O lo hi G node);have aa:=Zi (k:= .u64) (fun z=>IntKind.wrap_u64 z) qdj O lo hi G node;unfold Zl;rw[show mixBig.k= .u64 from rfl];generalize YS .u64 IVb h lo hi G node=Y at*;have af:=O;rw[Zp O]at HC⊢;go_enter Tryz.func194,Tryz.ntmps194
 go_wp2_with fail
 refine(HC.out _).mono ?_;rintro e1 w1 ⟨rfl,I⟩;have aw:=(I.block q (by simp;omega)).trans ((Bh _ _ _ (by simp;omega)).trans ((Bh _ _ _ (by simp;omega)).trans (qe _ _ ax.symm)));have ap:=(I.block (q+1) (by simp;omega)).trans ((Bh _ _ _ (by simp;omega)).trans (qe _ _ (by simp;omega)));have aq:=(I.block (q+1+1) (by simp;omega)).trans (qe _ _ (by simp;omega));have aB:q+3≤w1.heap.size:=by have:=I.size;simp at this;omega
 have ao:Below w.heap.size w w1:=((((Below.refl w.heap.size w).alloc Nl _).alloc (by simp) _).alloc (by simp;omega) _).trans (I.mono (by simp;omega));clear I HC;go_wp2_with ((with_reducible show wpList _ _ _ (Oper.mk none (Op.store 252 _ _) _ _ _ _::_) _ _);refine wpList_store_row rfl 252 _ _ rfl w1.heap.size (qj .u64 Y) rfl rfl 252 _ (Wn _ _) (by rw[qg,aa.1];kernel_rfl) (by rw[qg,aa.1];rfl) qy ?_)
 clear O;refine qm ?_;intro W hW;obtain⟨r,ae⟩:=Ex w1.heap.size;have O:W.heap[q]? =some (.cells #[.int .u64 (wd h 0),.int .u64 (wd h 1),.int .u64 (wd h 2),.int .u64 (wd h 3),.int .u64 (wd h 4),.int .u64 (wd h 5),.int .u64 (wd h 6),.int .u64 (wd h 7)] 274 (0,0)):=by
  rw[hW];exact(setRow_other (w1.alloc _) _ _ _ (by omega)).trans ((Bh _ _ _ (by omega)).trans aw)
 have hm:W.heap[q+1]? =some (.cells (qj .u64 M) 252 (0,0)):=by
  rw[hW];exact(setRow_other (w1.alloc _) _ _ _ (by omega)).trans ((Bh _ _ _ (by omega)).trans ap)
 have hr:W.heap[q+1+1]? =some (.cells Kg 274 (0,0)):=by
  rw[hW];exact(setRow_other (w1.alloc _) _ _ _ (by omega)).trans ((Bh _ _ _ (by omega)).trans aq)
 have hv:W.heap[r]? =some (.cells (qj .u64 Y) 252 (0,0)):=by
  rw[hW,←ae];exact setRow_heap _ _ _ _ _ _ (Wn _ _)
 have hB:Below w.heap.size w W:=by
  rw[hW];exact below_setRow (ao.alloc (by omega) _) (by omega) _
 rw[←Zp af]at O;rw[ae];have aN:q+3≤r:=by omega
 clear hW aw ap aq aB ao ae;have HH:=hid O;have HM:=hid hm;have HR:=hid hr;have HV:=hid hv;have HB:=hid hB;have aM:r<W.heap.size:=(Ai hv).1;clear O hm hr hv hB;go_loopw [14] (fun i wr=> ∃j:Nat,i= .int .i64 j∧j≤12∧wr.heap[r]? =some (.cells (qj .u64 (mixBig.rounds Y M j)) 252 (0,0))∧But r W wr) (fun i _=>12 - (intOf i).toNat)
 case atStart=>exact⟨0,rfl,Nat.zero_le _,HV.out,But.refl _ _⟩
 case round=>
  obtain⟨j,rfl,hj,hv,hB⟩:=hrel;have hm:=(hB.block (q+1) (by omega) (by omega)).trans HM.out;have D:=hid hv;have ak:=hid hm;have U:=hid hB;clear hv hm hB;by_cases an:j<12
  ·have S:=Q8 QL aa (M:=M) j;obtain⟨R1,ad⟩:=Ex (mixBig.rounds Y M j);rw[ad]at S D;have aI:=hid ad;clear ad;go_wp2_with (first
    | ((with_reducible show wpList _ _ _ (Oper.mk (some 27) _ _ _ _ _::_) _ _);refine wpList_load_row rfl 252 _ rfl r rfl _ _ _ _ D.out Tryz.underlying252 rfl (by rw[qg,S.1];kernel_rfl) ?_)
    | ((with_reducible show wpList _ _ _ (Oper.mk (some 28) _ _ _ _ _::_) _ _);refine wpList_load_row rfl 252 _ rfl (q+1) rfl _ _ _ _ ak.out Tryz.underlying252 rfl (by rw[qg,hM.1];kernel_rfl) ?_))
   refine(qfN R1 M S hM j (by omega) _).mono ?_;rintro e2 w2 ⟨rfl,ac⟩
   have av:=(ac.block r (Ai D.out).1).trans D.out;have ay:=hid (U.out.trans (But.of_below (b:=r) ac));clear ac;have ah:Words 64 16 (mixBig.round R1 M j):=qJ QL S (M:=M) j 8;go_wp2_with ((with_reducible show wpList _ _ _ (Oper.mk none (Op.store 252 _ _) _ _ _ _::_) _ _);refine wpList_store_row rfl 252 _ _ rfl r (qj .u64 (mixBig.round R1 M j)) rfl rfl 252 _ av (by rw[qg,ah.1];kernel_rfl) (by simp only[qg,ah.1,S.1]) qy ?_)
   exact⟨⟨j+1,rfl,by omega,by rw[show mixBig.rounds Y M (j+1)=mixBig.round (mixBig.rounds Y M j) M j from rfl,aI.out];exact setRow_heap _ _ _ _ _ _ av,ay.out.setRow _⟩,by simp[intOf];omega⟩
  ·obtain rfl:j=12:=by omega
   have hV:=Q8 QL aa (M:=M) 12;obtain⟨V,ag⟩:=Ex (mixBig.rounds Y M 12);have aC:=hid (show Ending.returned (.agg (qj .u64 (YW .u64 h V 8)))= .returned (.agg (qj .u64 (YW .u64 h (mixBig.rounds Y M 12) 8))) by rw[ag]);rw[ag]at hV D;clear ag;have aj:=(U.out.block q (by omega) (by omega)).trans HH.out;have ab:=(U.out.block (q+1+1) (by omega) (by omega)).trans HR.out;have am:Below w.heap.size w wr:=HB.out.trans (U.out.below (by omega) HB.out.size);have aH:=hid aj;have aE:=hid D.out;have aF:=hid ab;have ar:=hid am;have az:r<wr.heap.size:=(Ai D.out).1;have aG:q+1+1<wr.heap.size:=(Ai ab).1;clear aj ab am D ak U HH HR HM HV HB;generalize wr=w3 at*;go_wp2_with fail
   go_loopw [15] (fun i w4=> ∃j:Nat,i= .int .i64 j∧j≤8∧w4.heap[q]? =some (.cells (qj .u64 (YW .u64 h V j)) 274 (0,0))∧But (q) w3 w4) (fun i _=>8 - (intOf i).toNat)
   case atStart=>exact⟨0,rfl,Nat.zero_le _,aH.out,But.refl _ _⟩
   case round=>
    obtain⟨j,rfl,hj,X,J⟩:=hrel;have aL:=J.size;have Z:=(J.block (r) az (by omega)).trans aE.out;have q1:r<wr.heap.size:=by omega
    have q2:q<wr.heap.size:=by omega
    have au:=hid X;have ai:=hid J;by_cases an:j<8
    ·have c1:wr.cell? ⟨q,j,none⟩=some (.int .u64 (wd h j)):=by
      rw[qq X,qE (QQ (fun z=>IntKind.wrap_u64 z) af j) an,zW j j Nl]
     have c2:wr.cell? ⟨r,j,none⟩=some (.int .u64 (wd V j)):=(qq Z _).trans (qE hV (by omega));have c3:wr.cell? ⟨r,j+8,none⟩=some (.int .u64 (wd V (j+8))):=(qq Z _).trans (qE hV (by omega));have f1: ∀o,wr.frozen? ⟨q,o,none⟩=false:=(qR X).2;have aK:IntKind.i64.wrap ((j:Int)+8)=((j+8:Nat):Int):=by rw[IntKind.wrap_i64];omega
     have aJ:j+8<16:=by omega
     clear X Z J;go_wp2_with fail
     refine qk (by dsimp only[List.dropLast]) (by rfl) (by rfl) (by kernel_rfl) (by kernel_rfl) (by kernel_rfl) (by kernel_rfl) ?_;repeat(go_big_quiet_step (fail))
     refine wpQuiet_nil ?_;intro _ aA;obtain⟨n1,rfl⟩:=aA;go_wp2_with fail
     exact⟨⟨j+1,rfl,by omega,by rw[YW,←qd8,←Qj];exact block_setCell (w:=wr.drewN n1) au.out _,(ai.out.drewN n1).set _ _⟩,by simp[intOf];omega⟩
    ·obtain rfl:j=8:=by omega
     have al:=(J.block (q+1+1) aG (by omega)).trans aF.out;have hF:=QQ (k:= .u64) (fun z=>IntKind.wrap_u64 z) (v:=V) af 8;have aD:=hid (ar.out.trans (ai.out.below (by omega) ar.out.size));clear X Z J;go_upto_region 10 with(fail)
     apply wp_region_lit
     refine wpList_load_row rfl 274 _ rfl (q) rfl _ _ _ _ au.out Tryz.underlying274 rfl (by rw[qg,hF.1];kernel_rfl) ?_;refine wpList_store_row rfl 274 _ _ rfl (q+1+1) (qj .u64 (YW .u64 h V 8)) rfl rfl 274 _ al (by rw[qg,hF.1];kernel_rfl) (by rw[qg,hF.1];rfl) qy ?_;simp only[Act.put,Ls];go_wp2_with fail
     exact Bp (results_cell_row rfl _ _ _ _ _ _ _ rfl (setRow_heap _ _ _ _ _ _ al) Tryz.underlying274 rfl (by rw[qg,hF.1];kernel_rfl)) rfl ⟨aC.out,below_setRow (aD.out.mono (by omega)) (by omega) _⟩
theorem qj1 (h M:List Int)(I:Words 32 8 h)(hM:Words 32 16 M)(c:Int)(aB:0≤c)(aw:c<18446744073709551616)(r node:Bool)(w:World):Calls Tryz.prog 196 #[.agg (qj .u32 h),.agg (qj .u32 M),.int .u64 c,.bool r,.bool node] w fun e w'=>e= .returned (.agg (qj .u32 (Zl mixSmall IVs 10 h M (c%4294967296) (c/4294967296) r node)))∧Below w.heap.size w w':=by
 obtain⟨o,ar⟩:=Ex w.heap.size;have HC:=hid (qfS h I c aB aw r node);have X:=Zi (k:= .u32) (fun z=>IntKind.wrap_u32 z) qaK I (c%4294967296) (c/4294967296) r node;unfold Zl;rw[show mixSmall.k= .u32 from rfl];generalize YS .u32 IVs h (c%4294967296) (c/4294967296) r node=S at*;have U:=I;rw[Zp I]at HC⊢;go_enter Tryz.func196,Tryz.ntmps196
 go_wp2_with fail
 refine(HC.out _).mono ?_;rintro e1 w1 ⟨rfl,G⟩;have aq:=(G.block o (by simp;omega)).trans ((Bh _ _ _ (by simp;omega)).trans ((Bh _ _ _ (by simp;omega)).trans (qe _ _ ar.symm)));have am:=(G.block (o+1) (by simp;omega)).trans ((Bh _ _ _ (by simp;omega)).trans (qe _ _ (by simp;omega)));have an:=(G.block (o+1+1) (by simp;omega)).trans (qe _ _ (by simp;omega));have ax:o+3≤w1.heap.size:=by have:=G.size;simp at this;omega
 have al:Below w.heap.size w w1:=((((Below.refl w.heap.size w).alloc Nl _).alloc (by simp) _).alloc (by simp;omega) _).trans (G.mono (by simp;omega));clear G HC;go_wp2_with ((with_reducible show wpList _ _ _ (Oper.mk none (Op.store 298 _ _) _ _ _ _::_) _ _);refine wpList_store_row rfl 298 _ _ rfl w1.heap.size (qj .u32 S) rfl rfl 298 _ (Wn _ _) (by rw[qg,X.1];kernel_rfl) (by rw[qg,X.1];rfl) qy ?_)
 clear I;refine qm ?_;intro W Y;obtain⟨D,ae⟩:=Ex w1.heap.size;have I:W.heap[o]? =some (.cells #[.int .u32 (wd h 0),.int .u32 (wd h 1),.int .u32 (wd h 2),.int .u32 (wd h 3),.int .u32 (wd h 4),.int .u32 (wd h 5),.int .u32 (wd h 6),.int .u32 (wd h 7)] 284 (0,0)):=by
  rw[Y];exact(setRow_other (w1.alloc _) _ _ _ (by omega)).trans ((Bh _ _ _ (by omega)).trans aq)
 have hm:W.heap[o+1]? =some (.cells (qj .u32 M) 298 (0,0)):=by
  rw[Y];exact(setRow_other (w1.alloc _) _ _ _ (by omega)).trans ((Bh _ _ _ (by omega)).trans am)
 have hr:W.heap[o+1+1]? =some (.cells Kf 284 (0,0)):=by
  rw[Y];exact(setRow_other (w1.alloc _) _ _ _ (by omega)).trans ((Bh _ _ _ (by omega)).trans an)
 have Z:W.heap[D]? =some (.cells (qj .u32 S) 298 (0,0)):=by
  rw[Y,←ae];exact setRow_heap _ _ _ _ _ _ (Wn _ _)
 have hB:Below w.heap.size w W:=by
  rw[Y];exact below_setRow (al.alloc (by omega) _) (by omega) _
 rw[←Zp U]at I;rw[ae];have aI:o+3≤D:=by omega
 clear Y aq am an ax al ae;have HH:=hid I;have HM:=hid hm;have HR:=hid hr;have HV:=hid Z;have HB:=hid hB;have aG:D<W.heap.size:=(Ai Z).1;clear I hm hr Z hB;go_loopw [12] (fun i wr=> ∃j:Nat,i= .int .i64 j∧j≤10∧wr.heap[D]? =some (.cells (qj .u32 (mixSmall.rounds S M j)) 298 (0,0))∧But D W wr) (fun i _=>10 - (intOf i).toNat)
 case atStart=>exact⟨0,rfl,Nat.zero_le _,HV.out,But.refl _ _⟩
 case round=>
  obtain⟨j,rfl,hj,Z,hB⟩:=hrel;have hm:=(hB.block (o+1) (by omega) (by omega)).trans HM.out;have q:=hid Z;have aj:=hid hm;have O:=hid hB;clear Z hm hB;by_cases aF:j<10
  ·have J:=Q8 Qr X (M:=M) j;obtain⟨R1,ad⟩:=Ex (mixSmall.rounds S M j);rw[ad]at J q;have aD:=hid ad;clear ad;go_wp2_with (first
    | ((with_reducible show wpList _ _ _ (Oper.mk (some 23) _ _ _ _ _::_) _ _);refine wpList_load_row rfl 298 _ rfl D rfl _ _ _ _ q.out Tryz.underlying298 rfl (by rw[qg,J.1];kernel_rfl) ?_)
    | ((with_reducible show wpList _ _ _ (Oper.mk (some 24) _ _ _ _ _::_) _ _);refine wpList_load_row rfl 298 _ rfl (o+1) rfl _ _ _ _ aj.out Tryz.underlying298 rfl (by rw[qg,hM.1];kernel_rfl) ?_))
   refine(qfO R1 M J hM j (by omega) _).mono ?_;rintro e2 w2 ⟨rfl,ac⟩
   have ap:=(ac.block D (Ai q.out).1).trans q.out;have au:=hid (O.out.trans (But.of_below (b:=D) ac));clear ac;have ah:Words 32 16 (mixSmall.round R1 M j):=qJ Qr J (M:=M) j 8;go_wp2_with ((with_reducible show wpList _ _ _ (Oper.mk none (Op.store 298 _ _) _ _ _ _::_) _ _);refine wpList_store_row rfl 298 _ _ rfl D (qj .u32 (mixSmall.round R1 M j)) rfl rfl 298 _ ap (by rw[qg,ah.1];kernel_rfl) (by simp only[qg,ah.1,J.1]) qy ?_)
   exact⟨⟨j+1,rfl,by omega,by rw[show mixSmall.rounds S M (j+1)=mixSmall.round (mixSmall.rounds S M j) M j from rfl,aD.out];exact setRow_heap _ _ _ _ _ _ ap,au.out.setRow _⟩,by simp[intOf];omega⟩
  ·obtain rfl:j=10:=by omega
   have hV:=Q8 Qr X (M:=M) 10;obtain⟨V,af⟩:=Ex (mixSmall.rounds S M 10);have ay:=hid (show Ending.returned (.agg (qj .u32 (YW .u32 h V 8)))= .returned (.agg (qj .u32 (YW .u32 h (mixSmall.rounds S M 10) 8))) by rw[af]);rw[af]at hV q;clear af;have ai:=(O.out.block o (by omega) (by omega)).trans HH.out;have ab:=(O.out.block (o+1+1) (by omega) (by omega)).trans HR.out;have ak:Below w.heap.size w wr:=HB.out.trans (O.out.below (by omega) HB.out.size);have aC:=hid ai;have az:=hid q.out;have aA:=hid ab;have ao:=hid ak;have aE:D<wr.heap.size:=(Ai q.out).1;have aH:o+1+1<wr.heap.size:=(Ai ab).1;clear ai ab ak q aj O HH HR HM HV HB;have hF:=QQ (k:= .u32) (fun z=>IntKind.wrap_u32 z) (v:=V) U 8;go_wp2_with (first
    | ((with_reducible show wpList _ _ _ (Oper.mk (some 29) _ _ _ _ _::_) _ _);refine wpList_load_row rfl 284 _ rfl o rfl _ _ _ _ aC.out Tryz.underlying284 rfl (by rw[qg,U.1];kernel_rfl) ?_)
    | ((with_reducible show wpList _ _ _ (Oper.mk (some 30) _ _ _ _ _::_) _ _);refine wpList_load_row rfl 298 _ rfl D rfl _ _ _ _ az.out Tryz.underlying298 rfl (by rw[qg,hV.1];kernel_rfl) ?_))
   refine(qio h V U hV _).mono ?_;rintro e6 w6 ⟨rfl,aa⟩
   have ag:=(aa.block (o+1+1) (by omega)).trans aA.out;have av:=hid (ao.out.trans (aa.mono ao.out.size));clear aa;go_wp2_with ((with_reducible show wpList _ _ _ (Oper.mk none (Op.store 284 _ _) _ _ _ _::_) _ _);refine wpList_store_row rfl 284 _ _ rfl (o+1+1) (qj .u32 (YW .u32 h V 8)) rfl rfl 284 _ ag (by rw[qg,hF.1];kernel_rfl) (by rw[qg,hF.1];rfl) qy ?_)
   exact Bp (results_cell_row rfl _ _ _ _ _ _ _ rfl (setRow_heap _ _ _ _ _ _ ag) Tryz.underlying284 rfl (by rw[qg,hF.1];kernel_rfl)) rfl ⟨ay.out,below_setRow (av.out.mono (by omega)) (by omega) _⟩
end Go.Proofs.YthjoojnlnlmljaaGreat
