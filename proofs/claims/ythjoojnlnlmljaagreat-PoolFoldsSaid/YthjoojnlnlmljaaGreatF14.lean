/- A round of the mixing, by the reference, both kinds. No condition. -/
import Derived.Test.YthjoojnlnlmljaaGreatF12
import Derived.Test.YthjoojnlnlmljaaGreatF13
set_option linter.all false
set_option maxRecDepth 100000
set_option maxHeartbeats 8000000
namespace Go.Proofs.YthjoojnlnlmljaaGreat
open Go.ChangeShapes Go.WideShapes Go.ChangeAt Go.RowKit Go.Joins
open Go.Lib (hid)
attribute [local go_sem] Oper.semAt_some
def qcd (p:Nat→Oper→Prop):Nat→List Oper→Prop
 | _,[]=>True
 | n,o::l=>p n o∧qcd p (n+1) l
theorem qf {p:Nat→Oper→Prop}{n:Nat}{o:Oper}{l:List Oper}(h:p n o)(q:qcd p (n+1) l):qcd p n (o::l):=⟨h,q⟩
theorem jk {p:Nat→Oper→Prop}{n:Nat}:qcd p n []:=trivial
theorem qdW {p:Nat→Oper→Prop}: ∀(l:List Oper) (n:Nat),qcd p n l→ ∀i o,l[i]? =some o→p (n+i) o
 | [],_,_,i,o,h=>by simp at h
 | a::l,n,h,0,o,e=>by simp at e;subst e;exact h.1
 | a::l,n,h,i+1,o,e=>by
  have:=qdW l (n+1) h.2 i o (by simpa using e)
  rw[show n+(i+1)=n+1+i by omega];exact this
theorem Zh {p:Nat→Oper→Prop}{l:List Oper}(h:qcd p 0 l): ∀i o,l[i]? =some o→p i o:=fun i o q=>by
 have:=qdW l 0 h i o q
 rwa[Nat.zero_add]at this
theorem zR {o:Oper}{ys:Nat→Option Bool}(h:o.guard=none):Region.wanted o ys=true:=by unfold Region.wanted;rw[h]
def qbh (W:World)(b:Nat)(T:TypeId)(cs:Array Value):Prop:=W.heap[b]? =some (.cells cs T (0,0))
def YN (s b:Nat)(T:TypeId)(cs:Array Value)(L:List Value)(i:Nat)(v:Value)(W:World):Prop:=
 if i=s then qbh W b T cs else match L[i]? with|some g=>v=g|none=>True
theorem J9 {s b:Nat}{T:TypeId}{cs:Array Value}(L:List Value){W W':World}(o:Below W.heap.size W W')(i:Nat): ∀j u,j≠i→YN s b T cs L j u W→YN s b T cs L j u W':=by
 intro j u _ h;unfold YN at*;by_cases e:j=s
 ·rw[if_pos e]at h⊢;exact(o.block b (Ai h).1).trans h
 ·rw[if_neg e]at h⊢;exact h
theorem J8 {s b:Nat}{T:TypeId}{cs:Array Value}(L:List Value){W W':World}: ∀j u,j≠s→YN s b T cs L j u W→YN s b T cs L j u W':=by
 intro j u e h;unfold YN at*;rw[if_neg e]at h⊢;exact h
theorem qb5 {s b:Nat}{T:TypeId}{cs:Array Value}{L:List Value}{i:Nat}(o:i=s)(v:Value)(W:World)(h:YN s b T cs L i v W):YN s b T cs L i undef W:=by
 unfold YN at*;rw[if_pos o]at h⊢;exact h
theorem J7 {s b:Nat}{T:TypeId}{cs:Array Value}{L:List Value}{v:Value}{W:World}(h:qbh W b T cs):YN s b T cs L s v W:=by
 unfold YN;rw[if_pos rfl];exact h
def RS (b:Nat)(T:TypeId)(cs:Array Value)(w:World)(f:Bool)(W:World):Prop:=But b w W∧(f=false→qbh W b T cs)
theorem RS.next {b:Nat}{T:TypeId}{cs:Array Value}{w:World}{f g:Bool}{W W':World}(h:RS b T cs w f W)(q:Below W.heap.size W W')(o:g=false→f=false):RS b T cs w g W':=
 ⟨h.1.trans (But.of_below q),fun e=>(q.block b (Ai (h.2 (o e))).1).trans (h.2 (o e))⟩
theorem RS.same {b:Nat}{T:TypeId}{cs:Array Value}{w:World}{f g:Bool}{W:World}(h:RS b T cs w f W)(o:g=false→f=false):RS b T cs w g W:=⟨h.1,fun e=>h.2 (o e)⟩
theorem Qj {f b:Bool}(h:(f||b)=false):f=false:=by cases f<;>simp_all
theorem But.setRow {b:Nat}{w W:World}(h:But b w W)(cs:Array Value):But b w (W.setRow b cs):=h.trans ⟨rfl,rfl,rfl,by simp[World.setRow],fun g _ o=>setRow_other _ _ _ _ o⟩
theorem qev (L0 M:List Int)(aj:Words 64 16 L0)(hM:Words 64 16 M)(r:Nat)(hr:r≤11)(w:World):
  Calls Tryz.prog 209 #[.agg (qg .u64 L0),.agg (qg .u64 M),.int .i64 r] w fun e w'=>e= .returned (.tuple #[.agg (qg .u64 (mixBig.round L0 M r)),.int .i64 0])∧Below w.heap.size w w':=by
 obtain⟨O,aJ⟩:=Ex w.heap.size;have aP: ¬((r:Int)<0):=by omega
 have aO: ¬(11<(r:Int)):=by omega
 have HS:=hid (fun i (hi:i<16)=>JW r i (by omega) hi);go_enter Tryz.func209,Tryz.ntmps209
 go_wp2_with fail
 refine qj ?_;intro W hW;have hv:W.heap[O]? =some (.cells (qg .u64 L0) 252 (0,0)):=by
  rw[hW];exact(Bh _ _ _ (by simp;omega)).trans ((Bh _ _ _ (by simp;omega)).trans (qc _ _ aJ.symm))
 have hm:W.heap[O+1]? =some (.cells (qg .u64 M) 252 (0,0)):=by
  rw[hW];exact(Bh _ _ _ (by simp;omega)).trans (qc _ _ (by simp;omega))
 have ac:W.heap[O+1+1]? =some (.cells #[.int .u64 0,.int .u64 0,.int .u64 0,.int .u64 0,.int .u64 0,.int .u64 0,.int .u64 0,.int .u64 0,.int .u64 0,.int .u64 0,.int .u64 0,.int .u64 0,.int .u64 0,.int .u64 0,.int .u64 0,.int .u64 0] 252 (0,0)):=by
  rw[hW];exact qc _ _ (by simp;omega)
 have hB:Below w.heap.size w W:=by
  rw[hW];exact(((Below.refl w.heap.size w).alloc Nl _).alloc (by simp) _).alloc (by simp;omega) _
 have aE:O+1+1<W.heap.size:=(Ai ac).1;clear hW;have HV:=hid hv;have HM:=hid hm;have HR:=hid ac;have HB:=hid hB;clear hv hm ac hB;go_loopw [8] (fun i wr=> ∃j:Nat,i= .int .i64 j∧j≤8∧wr.heap[O]? =some (.cells (qg .u64 (mixBig.turns L0 M r j)) 252 (0,0))∧But O W wr) (fun i _=>8 - (intOf i).toNat)
 case atStart=>exact⟨0,rfl,Nat.zero_le _,HV.out,But.refl _ _⟩
 case round=>
  obtain⟨j,rfl,hj,hv,hB⟩:=hrel;have al:=hid hv;have ad:=hid hB;have aQ:=hB.size;clear hv hB;by_cases ax:j<8
  ·have U:=qD QA aj (M:=M) r j;have V:mixBig.turns L0 M r (j+1)=mixBig.step (mixBig.turns L0 M r j) (plA j) (plB j) (plC j) (plD j) (wd M (qr r (2*j))) (wd M (qr r (2*j+1))):=rfl;have ai:=hid V;have aa:=qD QA aj (M:=M) r (j+1);rw[V]at aa;clear V;obtain⟨p1,p2,p3,p4,p5,p6,p7,p8,p9,ay⟩:=qds j ax;have HG:=hid (fun W=>qic (mixBig.turns L0 M r j) U (plA j) (plB j) (plC j) (plD j) p1 p2 p3 p4 p5 p6 p7 p8 p9 ay (wd M (qr r (2*j))) (wd M (qr r (2*j+1))) W);have aK:=hid (HS.out (2*j) (by omega));have aL:=hid (HS.out (2*j+1) (by omega));have s0:=qN r (2*j);have s1:=qN r (2*j+1);have t0:((qr r (2*j):Nat):Int)<16:=by omega
   have t1:((qr r (2*j+1):Nat):Int)<16:=by omega
   have hx:(qg .u64 M)[qr r (2*j)]? =some (.int .u64 (wd M (qr r (2*j)))):=qz hM s0;have hy:(qg .u64 M)[qr r (2*j+1)]? =some (.int .u64 (wd M (qr r (2*j+1)))):=qz hM s1;have HX:=hid hx;have HY:=hid hy;obtain⟨L,ao⟩:=Ex (mixBig.turns L0 M r j);rw[ao]at al U HG ai aa;obtain⟨X,aA⟩:=Ex (mixBig.step L (plA j) (plB j) (plC j) (plD j) (wd M (qr r (2*j))) (wd M (qr r (2*j+1))));rw[aA]at HG ai aa;obtain⟨mx,aC⟩:=Ex (wd M (qr r (2*j)));obtain⟨my,ap⟩:=Ex (wd M (qr r (2*j+1)));rw[aC]at HX HG;rw[ap]at HY HG;have HP:=hid (qcp j ax);have aR:IntKind.i64.wrap (2*(j:Int))=((2*j:Nat):Int):=by rw[IntKind.wrap_i64];omega
   have aS:IntKind.i64.wrap (((2*j:Nat):Int)+1)=((2*j+1:Nat):Int):=by rw[IntKind.wrap_i64];omega
   clear ao aA aC ap hx hy p1 p2 p3 p4 p5 p6 p7 p8 p9 ay;generalize qr r (2*j)=sx at*;generalize qr r (2*j+1)=sy at*;generalize 2*j+1=k3 at*;generalize 2*j=k2 at*;generalize plA j=pa at*;generalize plB j=pb at*;generalize plC j=pc at*;generalize plD j=pd at*;go_wp2_with fail
   refine(HP.out _).mono ?_;rintro e2 w2 ⟨rfl,ab⟩;have aq:=(ab.block O (by omega)).trans al.out;have ar:=(ab.block (O+1) (by omega)).trans ((ad.out.block (O+1) (by omega) (by omega)).trans HM.out);have an:=ad.out.trans (But.of_below ab);have aG:=ab.size;clear ab;go_wp2_with fail
   refine qj ?_;intro Z Y;obtain⟨S,ak⟩:=Ex w2.heap.size;have au:Z.heap[O]? =some (.cells (qg .u64 L) 252 (0,0)):=by rw[Y];exact(Bh _ _ _ (by omega)).trans aq
   have ah:Z.heap[O+1]? =some (.cells (qg .u64 M) 252 (0,0)):=by rw[Y];exact(Bh _ _ _ (by omega)).trans ar
   have am:Z.heap[S]? =some (.cells #[.int .i64 pa,.int .i64 pb,.int .i64 pc,.int .i64 pd] 330 (0,0)):=by rw[Y];exact qc _ _ ak.symm
   have aD:But O W Z:=by rw[Y];exact an.alloc _
   have ag:S<Z.heap.size:=(Ai am).1;have aB:O+1<Z.heap.size:=(Ai ah).1;have af:S≠O:=by omega
   rw[ak];have aF:=hid au;have av:=hid ah;have ae:=hid am;have aI:=hid aD;clear Y aq ar an aG ak au ah am aD;refine Zn (s:=26) (ds:=[24,25,26,27,28,29,30,31,32,33,34,35,36,37,38,39,40,41,42,43,44,45,46,23,47,48]) (R:=RS O 252 (qg .u64 L) Z) (Good:=YN 26 O 252 (qg .u64 X) [.agg (qg .u64 L),.pointer (some ⟨S,0,none⟩),.int .i64 pa,.pointer (some ⟨S,1,none⟩),.int .i64 pb,.pointer (some ⟨S,2,none⟩),.int .i64 pc,.pointer (some ⟨S,3,none⟩),.int .i64 pd,.int .i64 r,.int .i64 j,.int .i64 k2,.int .i64 sx,.pointer (some ⟨O+1,sx,none⟩),.int .u64 mx,.int .i64 r,.int .i64 j,.int .i64 k2,.int .i64 k3,.int .i64 sy,.pointer (some ⟨O+1,sy,none⟩),.int .u64 my,.tuple #[.agg (qg .u64 X),.int .i64 0],.tuple #[.agg (qg .u64 X),.int .i64 0],.agg (qg .u64 X),.int .i64 0]) rfl (by decide) (by kernel_rfl) (by kernel_rfl) ?_ ?_ ?_ ?_
   case refine_1=>exact⟨(But.refl O Z).trans (But.of_below Br.drew),fun _=>aF.out⟩
   case refine_2=>
    refine Zh (p:=_) ?_;refine qf ?_ (qf ?_ (qf ?_ (qf ?_ (qf ?_ (qf ?_ (qf ?_ (qf ?_ (qf ?_ (qf ?_ (qf ?_ (qf ?_ (qf ?_ (qf ?_ (qf ?_ (qf ?_ (qf ?_ (qf ?_ (qf ?_ (qf ?_ (qf ?_ (qf ?_ (qf ?_ (qf ?_ (qf ?_ (qf ?_ (qf ?_ (jk)))))))))))))))))))))))))))
    ·intro f x W' I D q K G;clear q;have V:=I.2 (D (by kernel_rfl));simp only[lay,Act.put,Ls]at G⊢;rw[if_pos (zR rfl)];refine wp_load_row 252 _ rfl O rfl _ _ _ _ V Tryz.underlying252 rfl (by rw[qd,U.1];kernel_rfl) ?_;exact G _ _ (I.same Qj) (fun _ _ _ h=>h) rfl
    ·intro f x W' I D q K G;clear q;clear D;simp only[lay,Act.put,Ls]at G⊢;go_simp
     exact G _ _ (I.same Qj) (fun _ _ _ h=>h) rfl
    ·intro f x W' I D q K G;have J:x 25= .pointer (some ⟨S,0,none⟩):=q ⟨1,.data⟩ (by simp) rfl _ rfl;clear q;have cP:=(qK ((I.1.block S ag af).trans ae.out)).1;clear D;simp only[lay,Act.put,Ls,J]at G⊢;go_simp
     exact G _ _ (I.same Qj) (fun _ _ _ h=>h) rfl
    ·intro f x W' I D q K G;clear q;clear D;simp only[lay,Act.put,Ls]at G⊢;go_simp
     exact G _ _ (I.same Qj) (fun _ _ _ h=>h) rfl
    ·intro f x W' I D q K G;have J:x 27= .pointer (some ⟨S,1,none⟩):=q ⟨3,.data⟩ (by simp) rfl _ rfl;clear q;have cP:=(qK ((I.1.block S ag af).trans ae.out)).1;clear D;simp only[lay,Act.put,Ls,J]at G⊢;go_simp
     exact G _ _ (I.same Qj) (fun _ _ _ h=>h) rfl
    ·intro f x W' I D q K G;clear q;clear D;simp only[lay,Act.put,Ls]at G⊢;go_simp
     exact G _ _ (I.same Qj) (fun _ _ _ h=>h) rfl
    ·intro f x W' I D q K G;have J:x 29= .pointer (some ⟨S,2,none⟩):=q ⟨5,.data⟩ (by simp) rfl _ rfl;clear q;have cP:=(qK ((I.1.block S ag af).trans ae.out)).1;clear D;simp only[lay,Act.put,Ls,J]at G⊢;go_simp
     exact G _ _ (I.same Qj) (fun _ _ _ h=>h) rfl
    ·intro f x W' I D q K G;clear q;clear D;simp only[lay,Act.put,Ls]at G⊢;go_simp
     exact G _ _ (I.same Qj) (fun _ _ _ h=>h) rfl
    ·intro f x W' I D q K G;have J:x 31= .pointer (some ⟨S,3,none⟩):=q ⟨7,.data⟩ (by simp) rfl _ rfl;clear q;have cP:=(qK ((I.1.block S ag af).trans ae.out)).1;clear D;simp only[lay,Act.put,Ls,J]at G⊢;go_simp
     exact G _ _ (I.same Qj) (fun _ _ _ h=>h) rfl
    ·intro f x W' I D q K G;clear q;clear D;simp only[lay,Act.put,Ls]at G⊢;go_simp
     exact G _ _ (I.same Qj) (fun _ _ _ h=>h) rfl
    ·intro f x W' I D q K G;clear q;clear D;simp only[lay,Act.put,Ls]at G⊢;go_simp
     exact G _ _ (I.same Qj) (fun _ _ _ h=>h) rfl
    ·intro f x W' I D q K G;have J:x 34= .int .i64 j:=q ⟨10,.data⟩ (by simp) rfl _ rfl;clear q;clear D;simp only[lay,Act.put,Ls,J]at G⊢;go_simp
     exact G _ _ (I.same Qj) (fun _ _ _ h=>h) rfl
    ·intro f x W' I D q K G;have J:x 33= .int .i64 r:=q ⟨9,.data⟩ (by simp) rfl _ rfl;have g1:x 35= .int .i64 k2:=q ⟨11,.data⟩ (by simp) rfl _ rfl;clear q;clear D;simp only[lay,Act.put,Ls,J,g1]at G⊢;go_simp
     refine(aK.out W').mono ?_;rintro e4 w4 ⟨rfl,rfl⟩
     exact G _ _ (I.same Qj) (fun _ _ _ h=>h) rfl
    ·intro f x W' I D q K G;have J:x 36= .int .i64 sx:=q ⟨12,.data⟩ (by simp) rfl _ rfl;clear q;clear D;simp only[lay,Act.put,Ls,J]at G⊢;go_simp
     exact G _ _ (I.same Qj) (fun _ _ _ h=>h) rfl
    ·intro f x W' I D q K G;have J:x 37= .pointer (some ⟨O+1,sx,none⟩):=q ⟨13,.data⟩ (by simp) rfl _ rfl;clear q;have cM:=(qm ((I.1.block (O+1) aB (by omega)).trans av.out) sx).trans HX.out;clear D;simp only[lay,Act.put,Ls,J]at G⊢;go_simp
     exact G _ _ (I.same Qj) (fun _ _ _ h=>h) rfl
    ·intro f x W' I D q K G;clear q;clear D;simp only[lay,Act.put,Ls]at G⊢;go_simp
     exact G _ _ (I.same Qj) (fun _ _ _ h=>h) rfl
    ·intro f x W' I D q K G;clear q;clear D;simp only[lay,Act.put,Ls]at G⊢;go_simp
     exact G _ _ (I.same Qj) (fun _ _ _ h=>h) rfl
    ·intro f x W' I D q K G;have J:x 40= .int .i64 j:=q ⟨16,.data⟩ (by simp) rfl _ rfl;clear q;clear D;simp only[lay,Act.put,Ls,J]at G⊢;go_simp
     exact G _ _ (I.same Qj) (fun _ _ _ h=>h) rfl
    ·intro f x W' I D q K G;have J:x 41= .int .i64 k2:=q ⟨17,.data⟩ (by simp) rfl _ rfl;clear q;clear D;simp only[lay,Act.put,Ls,J]at G⊢;go_simp
     exact G _ _ (I.same Qj) (fun _ _ _ h=>h) rfl
    ·intro f x W' I D q K G;have J:x 39= .int .i64 r:=q ⟨15,.data⟩ (by simp) rfl _ rfl;have g1:x 42= .int .i64 k3:=q ⟨18,.data⟩ (by simp) rfl _ rfl;clear q;clear D;simp only[lay,Act.put,Ls,J,g1]at G⊢;go_simp
     refine(aL.out W').mono ?_;rintro e4 w4 ⟨rfl,rfl⟩
     exact G _ _ (I.same Qj) (fun _ _ _ h=>h) rfl
    ·intro f x W' I D q K G;have J:x 43= .int .i64 sy:=q ⟨19,.data⟩ (by simp) rfl _ rfl;clear q;clear D;simp only[lay,Act.put,Ls,J]at G⊢;go_simp
     exact G _ _ (I.same Qj) (fun _ _ _ h=>h) rfl
    ·intro f x W' I D q K G;have J:x 44= .pointer (some ⟨O+1,sy,none⟩):=q ⟨20,.data⟩ (by simp) rfl _ rfl;clear q;have cM:=(qm ((I.1.block (O+1) aB (by omega)).trans av.out) sy).trans HY.out;clear D;simp only[lay,Act.put,Ls,J]at G⊢;go_simp
     exact G _ _ (I.same Qj) (fun _ _ _ h=>h) rfl
    ·intro f x W' I D q K G;have J:x 24= .agg (qg .u64 L):=q ⟨0,.data⟩ (by simp) rfl _ rfl;have g1:x 26= .int .i64 pa:=q ⟨2,.data⟩ (by simp) rfl _ rfl;have g2:x 28= .int .i64 pb:=q ⟨4,.data⟩ (by simp) rfl _ rfl;have g3:x 30= .int .i64 pc:=q ⟨6,.data⟩ (by simp) rfl _ rfl;have g4:x 32= .int .i64 pd:=q ⟨8,.data⟩ (by simp) rfl _ rfl;have g5:x 38= .int .u64 mx:=q ⟨14,.data⟩ (by simp) rfl _ rfl;have g6:x 45= .int .u64 my:=q ⟨21,.data⟩ (by simp) rfl _ rfl;clear q;clear D;simp only[lay,Act.put,Ls,J,g1,g2,g3,g4,g5,g6]at G⊢;go_simp
     refine(HG.out W').mono ?_;rintro e4 w4 ⟨rfl,aw⟩
     exact G _ _ (I.next aw Qj) (J9 _ aw _) rfl
    ·intro f x W' I D q K G;have J:x 46= .tuple #[.agg (qg .u64 X),.int .i64 0]:=q ⟨22,.data⟩ (by simp) rfl _ rfl;clear q;clear D;simp only[lay,Act.put,Ls,J]at G⊢;go_simp
     exact G _ _ (I.same Qj) (fun _ _ _ h=>h) rfl
    ·intro f x W' I D q K G;have J:x 23= .tuple #[.agg (qg .u64 X),.int .i64 0]:=q ⟨23,.data⟩ (by simp) rfl _ rfl;clear q;clear D;simp only[lay,Act.put,Ls,J]at G⊢;go_simp
     exact G _ _ (I.same Qj) (fun _ _ _ h=>h) rfl
    ·intro f x W' I D q K G;have J:x 23= .tuple #[.agg (qg .u64 X),.int .i64 0]:=q ⟨23,.data⟩ (by simp) rfl _ rfl;clear q;clear D;simp only[lay,Act.put,Ls,J]at G⊢;go_simp
     exact G _ _ (I.same Qj) (fun _ _ _ h=>h) rfl
    ·intro f x W' I D q K G;have J:x 47= .agg (qg .u64 X):=q ⟨24,.data⟩ (by simp) rfl _ rfl;clear q;have V:=I.2 (D (by kernel_rfl));simp only[lay,Act.put,Ls,J]at G⊢;rw[if_pos (zR rfl)];refine wp_store_row 252 _ _ rfl O (qg .u64 X) rfl rfl _ _ V (by rw[qd,aa.1];kernel_rfl) (by simp only[qd,aa.1,U.1]) qw ?_;exact G undef _ ⟨I.1.setRow _,fun e=>by simp at e⟩ (J8 _) (J7 (setRow_heap _ _ _ _ _ _ V))
   case refine_3=>
    refine Zh (p:=fun i (o:Oper)=> ∀v W,o.dst=none→YN 26 O 252 (qg .u64 X) _ i v W→YN 26 O 252 (qg .u64 X) _ i undef W) ?_|>fun h i o v W hi=>h i o hi v W
    refine qf ?_ (qf ?_ (qf ?_ (qf ?_ (qf ?_ (qf ?_ (qf ?_ (qf ?_ (qf ?_ (qf ?_ (qf ?_ (qf ?_ (qf ?_ (qf ?_ (qf ?_ (qf ?_ (qf ?_ (qf ?_ (qf ?_ (qf ?_ (qf ?_ (qf ?_ (qf ?_ (qf ?_ (qf ?_ (qf ?_ (qf ?_ (jk)))))))))))))))))))))))))));all_goals first|(intro v W h;cases h;done)|exact fun v W _ h=>qb5 rfl v W h
   case refine_4=>
    intro f x W' I hG;have hS:qbh W' O 252 (qg .u64 X):=hG 26 _ rfl;have aH:=hid hS;have aM:=hid (aI.out.trans I.1);clear hS I hG;simp only[lay,Act.put,Ls];go_wp2
    exact⟨⟨j+1,rfl,by omega,by rw[ai.out];exact aH.out,aM.out⟩,by simp[intOf];omega⟩
  ·obtain rfl:j=8:=by omega
   have U:=qD QA aj (M:=M) r 8;have HL:=hid (show Ending.returned (.tuple #[.agg (qg .u64 (mixBig.turns L0 M r 8)),.int .i64 0])= .returned (.tuple #[.agg (qg .u64 (mixBig.round L0 M r)),.int .i64 0]) from rfl);have az:=(ad.out.block (O+1+1) aE (by omega)).trans HR.out;have aN:=hid (HB.out.trans (ad.out.below (by omega) HB.out.size));generalize mixBig.turns L0 M r 8=L at*;go_upto_region 8 with(fail)
   apply wp_region_lit
   refine wpList_load_row rfl 252 _ rfl O rfl _ _ _ _ al.out Tryz.underlying252 rfl (by rw[qd,U.1];kernel_rfl) ?_;refine wpList_store_row rfl 252 _ _ rfl (O+1+1) (qg .u64 L) rfl rfl 252 _ az (by rw[qd,U.1];kernel_rfl) (by rw[qd,U.1];rfl) qw ?_;simp only[Act.put,Ls];go_wp2_with fail
   exact Bp (qC rfl _ _ _ _ _ _ _ rfl (setRow_heap _ _ _ _ _ _ az) Tryz.underlying252 rfl (by rw[qd,U.1];kernel_rfl)) rfl ⟨Eq.trans (b:= .returned (.tuple #[.agg (qg .u64 L),.int .i64 0])) rfl HL.out,below_setRow (aN.out.mono (by omega)) (by omega) _⟩
theorem qew (L0 M:List Int)(ad:Words 32 16 L0)(hM:Words 32 16 M)(r:Nat)(hr:r≤9)(w:World):
  Calls Tryz.prog 212 #[.agg (qg .u32 L0),.agg (qg .u32 M),.int .i64 r] w fun e w'=>e= .returned (.tuple #[.agg (qg .u32 (mixSmall.round L0 M r)),.int .i64 0])∧Below w.heap.size w w':=by
 obtain⟨J,ax⟩:=Ex w.heap.size;have aD: ¬((r:Int)<0):=by omega
 have aC: ¬(9<(r:Int)):=by omega
 have HS:=hid (fun i (hi:i<16)=>JW r i (by omega) hi);go_enter Tryz.func212,Tryz.ntmps212
 go_wp2_with fail
 refine qj ?_;intro W hW;have hv:W.heap[J]? =some (.cells (qg .u32 L0) 298 (0,0)):=by
  rw[hW];exact(Bh _ _ _ (by simp;omega)).trans ((Bh _ _ _ (by simp;omega)).trans (qc _ _ ax.symm))
 have hm:W.heap[J+1]? =some (.cells (qg .u32 M) 298 (0,0)):=by
  rw[hW];exact(Bh _ _ _ (by simp;omega)).trans (qc _ _ (by simp;omega))
 have Y:W.heap[J+1+1]? =some (.cells #[.int .u32 0,.int .u32 0,.int .u32 0,.int .u32 0,.int .u32 0,.int .u32 0,.int .u32 0,.int .u32 0,.int .u32 0,.int .u32 0,.int .u32 0,.int .u32 0,.int .u32 0,.int .u32 0,.int .u32 0,.int .u32 0] 298 (0,0)):=by
  rw[hW];exact qc _ _ (by simp;omega)
 have hB:Below w.heap.size w W:=by
  rw[hW];exact(((Below.refl w.heap.size w).alloc Nl _).alloc (by simp) _).alloc (by simp;omega) _
 have ar:J+1+1<W.heap.size:=(Ai Y).1;clear hW;have HV:=hid hv;have HM:=hid hm;have HR:=hid Y;have HB:=hid hB;clear hv hm Y hB;go_loopw [8] (fun i wr=> ∃j:Nat,i= .int .i64 j∧j≤8∧wr.heap[J]? =some (.cells (qg .u32 (mixSmall.turns L0 M r j)) 298 (0,0))∧But J W wr) (fun i _=>8 - (intOf i).toNat)
 case atStart=>exact⟨0,rfl,Nat.zero_le _,HV.out,But.refl _ _⟩
 case round=>
  obtain⟨j,rfl,hj,hv,hB⟩:=hrel;have ae:=hid hv;have Z:=hid hB;have aE:=hB.size;clear hv hB;by_cases ak:j<8
  ·have S:=qD Qf ad (M:=M) r j;have U:mixSmall.turns L0 M r (j+1)=mixSmall.step (mixSmall.turns L0 M r j) (plA j) (plB j) (plC j) (plD j) (wd M (qr r (2*j))) (wd M (qr r (2*j+1))):=rfl;have ac:=hid U;have X:=qD Qf ad (M:=M) r (j+1);rw[U]at X;clear U;obtain⟨p1,p2,p3,p4,p5,p6,p7,p8,p9,al⟩:=qds j ak;have HG:=hid (fun W=>qid (mixSmall.turns L0 M r j) S (plA j) (plB j) (plC j) (plD j) p1 p2 p3 p4 p5 p6 p7 p8 p9 al (wd M (qr r (2*j))) (wd M (qr r (2*j+1))) W);have ay:=hid (HS.out (2*j) (by omega));have az:=hid (HS.out (2*j+1) (by omega));have s0:=qN r (2*j);have s1:=qN r (2*j+1);have t0:((qr r (2*j):Nat):Int)<16:=by omega
   have t1:((qr r (2*j+1):Nat):Int)<16:=by omega
   have hx:(qg .u32 M)[qr r (2*j)]? =some (.int .u32 (wd M (qr r (2*j)))):=qz hM s0;have hy:(qg .u32 M)[qr r (2*j+1)]? =some (.int .u32 (wd M (qr r (2*j+1)))):=qz hM s1;have HX:=hid hx;have HY:=hid hy;obtain⟨L,af⟩:=Ex (mixSmall.turns L0 M r j);rw[af]at ae S HG ac X;obtain⟨V,an⟩:=Ex (mixSmall.step L (plA j) (plB j) (plC j) (plD j) (wd M (qr r (2*j))) (wd M (qr r (2*j+1))));rw[an]at HG ac X;obtain⟨mx,ap⟩:=Ex (wd M (qr r (2*j)));obtain⟨my,ag⟩:=Ex (wd M (qr r (2*j+1)));rw[ap]at HX HG;rw[ag]at HY HG;have HP:=hid (qhU j ak);have aF:IntKind.i64.wrap (2*(j:Int))=((2*j:Nat):Int):=by rw[IntKind.wrap_i64];omega
   have aG:IntKind.i64.wrap (((2*j:Nat):Int)+1)=((2*j+1:Nat):Int):=by rw[IntKind.wrap_i64];omega
   clear af an ap ag hx hy p1 p2 p3 p4 p5 p6 p7 p8 p9 al;generalize qr r (2*j)=sx at*;generalize qr r (2*j+1)=sy at*;generalize 2*j+1=k3 at*;generalize 2*j=k2 at*;generalize plA j=pa at*;generalize plB j=pb at*;generalize plC j=pc at*;generalize plD j=pd at*;go_wp2_with fail
   refine(HP.out _).mono ?_;rintro e2 w2 ⟨rfl,rfl⟩;go_wp2_with fail
   refine qj ?_;intro Wp aa;have ah:Wp.heap[J]? =some (.cells (qg .u32 L) 298 (0,0)):=by rw[aa];exact ae.out
   have ab:Wp.heap[J+1]? =some (.cells (qg .u32 M) 298 (0,0)):=by rw[aa];exact(Z.out.block (J+1) (by omega) (by omega)).trans HM.out
   have aq:But J W Wp:=by rw[aa];exact Z.out
   have ao:J+1<Wp.heap.size:=(Ai ab).1;have au:=hid ah;have ai:=hid ab;have aw:=hid aq;clear aa ah ab aq;refine Zn (s:=22) (ds:=[32,33,34,35,36,37,38,39,40,41,42,43,44,45,46,47,48,49,50,31,51,52]) (R:=RS J 298 (qg .u32 L) Wp) (Good:=YN 22 J 298 (qg .u32 V) [.agg (qg .u32 L),.int .i64 pa,.int .i64 pb,.int .i64 pc,.int .i64 pd,.int .i64 r,.int .i64 j,.int .i64 k2,.int .i64 sx,.pointer (some ⟨J+1,sx,none⟩),.int .u32 mx,.int .i64 r,.int .i64 j,.int .i64 k2,.int .i64 k3,.int .i64 sy,.pointer (some ⟨J+1,sy,none⟩),.int .u32 my,.tuple #[.agg (qg .u32 V),.int .i64 0],.tuple #[.agg (qg .u32 V),.int .i64 0],.agg (qg .u32 V),.int .i64 0]) rfl (by decide) (by kernel_rfl) (by kernel_rfl) ?_ ?_ ?_ ?_
   case refine_1=>exact⟨(But.refl J Wp).trans (But.of_below Br.drew),fun _=>au.out⟩
   case refine_2=>
    refine Zh (p:=_) ?_;refine qf ?_ (qf ?_ (qf ?_ (qf ?_ (qf ?_ (qf ?_ (qf ?_ (qf ?_ (qf ?_ (qf ?_ (qf ?_ (qf ?_ (qf ?_ (qf ?_ (qf ?_ (qf ?_ (qf ?_ (qf ?_ (qf ?_ (qf ?_ (qf ?_ (qf ?_ (qf ?_ (jk)))))))))))))))))))))))
    ·intro f x W' I D q K G;clear q;have U:=I.2 (D (by kernel_rfl));simp only[lay,Act.put,Ls]at G⊢;rw[if_pos (zR rfl)];refine wp_load_row 298 _ rfl J rfl _ _ _ _ U Tryz.underlying298 rfl (by rw[qd,S.1];kernel_rfl) ?_;exact G _ _ (I.same Qj) (fun _ _ _ h=>h) rfl
    ·intro f x W' I D q K G;clear q;clear D;simp only[lay,Act.put,Ls]at G⊢;go_simp
     exact G _ _ (I.same Qj) (fun _ _ _ h=>h) rfl
    ·intro f x W' I D q K G;clear q;clear D;simp only[lay,Act.put,Ls]at G⊢;go_simp
     exact G _ _ (I.same Qj) (fun _ _ _ h=>h) rfl
    ·intro f x W' I D q K G;clear q;clear D;simp only[lay,Act.put,Ls]at G⊢;go_simp
     exact G _ _ (I.same Qj) (fun _ _ _ h=>h) rfl
    ·intro f x W' I D q K G;clear q;clear D;simp only[lay,Act.put,Ls]at G⊢;go_simp
     exact G _ _ (I.same Qj) (fun _ _ _ h=>h) rfl
    ·intro f x W' I D q K G;clear q;clear D;simp only[lay,Act.put,Ls]at G⊢;go_simp
     exact G _ _ (I.same Qj) (fun _ _ _ h=>h) rfl
    ·intro f x W' I D q K G;clear q;clear D;simp only[lay,Act.put,Ls]at G⊢;go_simp
     exact G _ _ (I.same Qj) (fun _ _ _ h=>h) rfl
    ·intro f x W' I D q K G;have O:x 38= .int .i64 j:=q ⟨6,.data⟩ (by simp) rfl _ rfl;clear q;clear D;simp only[lay,Act.put,Ls,O]at G⊢;go_simp
     exact G _ _ (I.same Qj) (fun _ _ _ h=>h) rfl
    ·intro f x W' I D q K G;have O:x 37= .int .i64 r:=q ⟨5,.data⟩ (by simp) rfl _ rfl;have g1:x 39= .int .i64 k2:=q ⟨7,.data⟩ (by simp) rfl _ rfl;clear q;clear D;simp only[lay,Act.put,Ls,O,g1]at G⊢;go_simp
     refine(ay.out W').mono ?_;rintro e4 w4 ⟨rfl,rfl⟩
     exact G _ _ (I.same Qj) (fun _ _ _ h=>h) rfl
    ·intro f x W' I D q K G;have O:x 40= .int .i64 sx:=q ⟨8,.data⟩ (by simp) rfl _ rfl;clear q;clear D;simp only[lay,Act.put,Ls,O]at G⊢;go_simp
     exact G _ _ (I.same Qj) (fun _ _ _ h=>h) rfl
    ·intro f x W' I D q K G;have O:x 41= .pointer (some ⟨J+1,sx,none⟩):=q ⟨9,.data⟩ (by simp) rfl _ rfl;clear q;have cM:=(qm ((I.1.block (J+1) ao (by omega)).trans ai.out) sx).trans HX.out;clear D;simp only[lay,Act.put,Ls,O]at G⊢;go_simp
     exact G _ _ (I.same Qj) (fun _ _ _ h=>h) rfl
    ·intro f x W' I D q K G;clear q;clear D;simp only[lay,Act.put,Ls]at G⊢;go_simp
     exact G _ _ (I.same Qj) (fun _ _ _ h=>h) rfl
    ·intro f x W' I D q K G;clear q;clear D;simp only[lay,Act.put,Ls]at G⊢;go_simp
     exact G _ _ (I.same Qj) (fun _ _ _ h=>h) rfl
    ·intro f x W' I D q K G;have O:x 44= .int .i64 j:=q ⟨12,.data⟩ (by simp) rfl _ rfl;clear q;clear D;simp only[lay,Act.put,Ls,O]at G⊢;go_simp
     exact G _ _ (I.same Qj) (fun _ _ _ h=>h) rfl
    ·intro f x W' I D q K G;have O:x 45= .int .i64 k2:=q ⟨13,.data⟩ (by simp) rfl _ rfl;clear q;clear D;simp only[lay,Act.put,Ls,O]at G⊢;go_simp
     exact G _ _ (I.same Qj) (fun _ _ _ h=>h) rfl
    ·intro f x W' I D q K G;have O:x 43= .int .i64 r:=q ⟨11,.data⟩ (by simp) rfl _ rfl;have g1:x 46= .int .i64 k3:=q ⟨14,.data⟩ (by simp) rfl _ rfl;clear q;clear D;simp only[lay,Act.put,Ls,O,g1]at G⊢;go_simp
     refine(az.out W').mono ?_;rintro e4 w4 ⟨rfl,rfl⟩
     exact G _ _ (I.same Qj) (fun _ _ _ h=>h) rfl
    ·intro f x W' I D q K G;have O:x 47= .int .i64 sy:=q ⟨15,.data⟩ (by simp) rfl _ rfl;clear q;clear D;simp only[lay,Act.put,Ls,O]at G⊢;go_simp
     exact G _ _ (I.same Qj) (fun _ _ _ h=>h) rfl
    ·intro f x W' I D q K G;have O:x 48= .pointer (some ⟨J+1,sy,none⟩):=q ⟨16,.data⟩ (by simp) rfl _ rfl;clear q;have cM:=(qm ((I.1.block (J+1) ao (by omega)).trans ai.out) sy).trans HY.out;clear D;simp only[lay,Act.put,Ls,O]at G⊢;go_simp
     exact G _ _ (I.same Qj) (fun _ _ _ h=>h) rfl
    ·intro f x W' I D q K G;have O:x 32= .agg (qg .u32 L):=q ⟨0,.data⟩ (by simp) rfl _ rfl;have g1:x 33= .int .i64 pa:=q ⟨1,.data⟩ (by simp) rfl _ rfl;have g2:x 34= .int .i64 pb:=q ⟨2,.data⟩ (by simp) rfl _ rfl;have g3:x 35= .int .i64 pc:=q ⟨3,.data⟩ (by simp) rfl _ rfl;have g4:x 36= .int .i64 pd:=q ⟨4,.data⟩ (by simp) rfl _ rfl;have g5:x 42= .int .u32 mx:=q ⟨10,.data⟩ (by simp) rfl _ rfl;have g6:x 49= .int .u32 my:=q ⟨17,.data⟩ (by simp) rfl _ rfl;clear q;clear D;simp only[lay,Act.put,Ls,O,g1,g2,g3,g4,g5,g6]at G⊢;go_simp
     refine(HG.out W').mono ?_;rintro e4 w4 ⟨rfl,aj⟩
     exact G _ _ (I.next aj Qj) (J9 _ aj _) rfl
    ·intro f x W' I D q K G;have O:x 50= .tuple #[.agg (qg .u32 V),.int .i64 0]:=q ⟨18,.data⟩ (by simp) rfl _ rfl;clear q;clear D;simp only[lay,Act.put,Ls,O]at G⊢;go_simp
     exact G _ _ (I.same Qj) (fun _ _ _ h=>h) rfl
    ·intro f x W' I D q K G;have O:x 31= .tuple #[.agg (qg .u32 V),.int .i64 0]:=q ⟨19,.data⟩ (by simp) rfl _ rfl;clear q;clear D;simp only[lay,Act.put,Ls,O]at G⊢;go_simp
     exact G _ _ (I.same Qj) (fun _ _ _ h=>h) rfl
    ·intro f x W' I D q K G;have O:x 31= .tuple #[.agg (qg .u32 V),.int .i64 0]:=q ⟨19,.data⟩ (by simp) rfl _ rfl;clear q;clear D;simp only[lay,Act.put,Ls,O]at G⊢;go_simp
     exact G _ _ (I.same Qj) (fun _ _ _ h=>h) rfl
    ·intro f x W' I D q K G;have O:x 51= .agg (qg .u32 V):=q ⟨20,.data⟩ (by simp) rfl _ rfl;clear q;have U:=I.2 (D (by kernel_rfl));simp only[lay,Act.put,Ls,O]at G⊢;rw[if_pos (zR rfl)];refine wp_store_row 298 _ _ rfl J (qg .u32 V) rfl rfl _ _ U (by rw[qd,X.1];kernel_rfl) (by simp only[qd,X.1,S.1]) qw ?_;exact G undef _ ⟨I.1.setRow _,fun e=>by simp at e⟩ (J8 _) (J7 (setRow_heap _ _ _ _ _ _ U))
   case refine_3=>
    refine Zh (p:=fun i (o:Oper)=> ∀v W,o.dst=none→YN 22 J 298 (qg .u32 V) _ i v W→YN 22 J 298 (qg .u32 V) _ i undef W) ?_|>fun h i o v W hi=>h i o hi v W
    refine qf ?_ (qf ?_ (qf ?_ (qf ?_ (qf ?_ (qf ?_ (qf ?_ (qf ?_ (qf ?_ (qf ?_ (qf ?_ (qf ?_ (qf ?_ (qf ?_ (qf ?_ (qf ?_ (qf ?_ (qf ?_ (qf ?_ (qf ?_ (qf ?_ (qf ?_ (qf ?_ (jk)))))))))))))))))))))));all_goals first|(intro v W h;cases h;done)|exact fun v W _ h=>qb5 rfl v W h
   case refine_4=>
    intro f x W' I hG;have hS:qbh W' J 298 (qg .u32 V):=hG 22 _ rfl;have av:=hid hS;have aA:=hid (aw.out.trans I.1);clear hS I hG;simp only[lay,Act.put,Ls];go_wp2
    exact⟨⟨j+1,rfl,by omega,by rw[ac.out];exact av.out,aA.out⟩,by simp[intOf];omega⟩
  ·obtain rfl:j=8:=by omega
   have S:=qD Qf ad (M:=M) r 8;have HL:=hid (show Ending.returned (.tuple #[.agg (qg .u32 (mixSmall.turns L0 M r 8)),.int .i64 0])= .returned (.tuple #[.agg (qg .u32 (mixSmall.round L0 M r)),.int .i64 0]) from rfl);have am:=(Z.out.block (J+1+1) ar (by omega)).trans HR.out;have aB:=hid (HB.out.trans (Z.out.below (by omega) HB.out.size));generalize mixSmall.turns L0 M r 8=L at*;go_upto_region 8 with(fail)
   apply wp_region_lit
   refine wpList_load_row rfl 298 _ rfl J rfl _ _ _ _ ae.out Tryz.underlying298 rfl (by rw[qd,S.1];kernel_rfl) ?_;refine wpList_store_row rfl 298 _ _ rfl (J+1+1) (qg .u32 L) rfl rfl 298 _ am (by rw[qd,S.1];kernel_rfl) (by rw[qd,S.1];rfl) qw ?_;simp only[Act.put,Ls];go_wp2_with fail
   exact Bp (qC rfl _ _ _ _ _ _ _ rfl (setRow_heap _ _ _ _ _ _ am) Tryz.underlying298 rfl (by rw[qd,S.1];kernel_rfl)) rfl ⟨Eq.trans (b:= .returned (.tuple #[.agg (qg .u32 L),.int .i64 0])) rfl HL.out,below_setRow (aB.out.mono (by omega)) (by omega) _⟩
theorem YE (k:IntKind)(x y:Int):bits .xor k x y=bits .xor k y x:=by simp only[bits,BitVec.xor_comm]
def zL (h iv:List Int):Nat→List Int
 | 0=>[0,0,0,0,0,0,0,0,0,0,0,0,0,0,0,0]
 | i+1=>((zL h iv i).set i (wd h i)).set (i+8) (wd iv i)
theorem Yr (h o:List Int): ∀i,(zL h o i).length=16
 | 0=>rfl
 | i+1=>by simp[zL,Yr h o i]
theorem yd {k:IntKind}{n:Nat}{L:List Int}(h:L.length=n){i:Nat}(o:i<n):(qg k L)[i]? =some (.int k (wd L i)):=by
 simp[qg,wd,Lg,List.getElem?_eq_getElem (show i<L.length by omega)]
theorem qaL (w:World):Calls Tryz.prog 221 #[] w fun e w'=>e= .returned (.agg #[.int .u32 1779033703,.int .u32 3144134277,.int .u32 1013904242,.int .u32 2773480762,.int .u32 1359893119,.int .u32 2600822924,.int .u32 528734635,.int .u32 1541459225])∧Below w.heap.size w w':=by
 go_enter Tryz.func221,Tryz.ntmps221
 go_wp2
 exact Bp (results_cell_row rfl _ _ _ _ _ _ _ rfl (Wn _ _) Tryz.underlying284 rfl rfl) rfl ⟨rfl,Br.alloc Nl _⟩
theorem qfT (h:List Int)(hh:Words 64 8 h)(lo hi:Int)(Z node:Bool)(w:World):Calls Tryz.prog 208 #[.agg (qg .u64 h),.int .u64 lo,.int .u64 hi,.bool Z,.bool node] w fun e w'=>e= .returned (.agg (qg .u64 (Yn .u64 IVb h lo hi Z node)))∧Below w.heap.size w w':=by
 obtain⟨q,ap⟩:=Ex w.heap.size;go_enter Tryz.func208,Tryz.ntmps208
 go_wp2_with fail
 refine qj ?_;intro W D;have ao:W.heap[q]? =some (.cells (qg .u64 h) 274 (0,0)):=by
  rw[D];exact(Bh _ _ _ (by simp;omega)).trans ((Bh _ _ _ (by simp;omega)).trans (qc _ _ ap.symm))
 have am:W.heap[q+1]? =some (.cells #[.int .u64 0,.int .u64 0,.int .u64 0,.int .u64 0,.int .u64 0,.int .u64 0,.int .u64 0,.int .u64 0,.int .u64 0,.int .u64 0,.int .u64 0,.int .u64 0,.int .u64 0,.int .u64 0,.int .u64 0,.int .u64 0] 252 (0,0)):=by
  rw[D];exact(Bh _ _ _ (by simp;omega)).trans (qc _ _ (by simp;omega))
 have ac:W.heap[q+1+1]? =some (.cells (qg .u64 (zL h IVb 0)) 252 (0,0)):=by
  rw[D];exact qc _ _ (by simp;omega)
 have ag:Below w.heap.size w W:=by
  rw[D];exact(((Below.refl w.heap.size w).alloc Nl _).alloc (by simp) _).alloc (by simp;omega) _
 have ay:q+1+1<W.heap.size:=(Ai ac).1;clear D;have HH:=hid ao;have O:=hid am;have U:=hid ac;have J:=hid ag;clear ao am ac ag;go_loopw [12] (fun i wr=> ∃j:Nat,i= .int .i64 j∧j≤8∧wr.heap[q+1+1]? =some (.cells (qg .u64 (zL h IVb j)) 252 (0,0))∧But (q+1+1) W wr) (fun i _=>8 - (intOf i).toNat)
 case atStart=>exact⟨0,rfl,Nat.zero_le _,U.out,But.refl _ _⟩
 case round=>
  obtain⟨j,rfl,hj,hv,Y⟩:=hrel;have aw:=Y.size;have ak:=hid hv;have ah:=hid Y;by_cases ae:j<8
  ·have c1:wr.cell? ⟨q,j,none⟩=some (.int .u64 (wd h j)):=by
    rw[qm ((Y.block q (by omega) (by omega)).trans HH.out),qz hh ae]
   have c2:wr.cell? ⟨q+1+1,j,none⟩=some (.int .u64 (wd (zL h IVb j) j)):=(qm hv _).trans (yd (Yr _ _ _) (by omega));have f2: ∀o,wr.frozen? ⟨q+1+1,o,none⟩=false:=(qK hv).2;have av:IntKind.i64.wrap ((j:Int)+8)=((j+8:Nat):Int):=by rw[IntKind.wrap_i64];omega
   have au:j+8<16:=by omega
   clear hv Y;go_wp2_with fail
   refine(qbP j ae _).mono ?_;rintro e2 w2 ⟨rfl,ad⟩;have X:=(ad.block (q+1+1) (by simp;omega)).trans (block_setCell ak.out _);rw[qY]at X;have ar:=hid ((ah.out.set j _).trans (But.of_below (b:=q+1+1) ad));have c3:w2.cell? ⟨q+1+1,j+8,none⟩=some (.int .u64 (wd ((zL h IVb j).set j (wd h j)) (j+8))):=(qm X _).trans (yd (n:=16) (by simp[Yr]) (by omega));have f3: ∀o,w2.frozen? ⟨q+1+1,o,none⟩=false:=(qK X).2;have aq:=hid X;clear X ad c1 c2 f2;go_wp2
   exact⟨⟨j+1,rfl,by omega,by rw[zL,←qY];exact block_setCell aq.out _,ar.out.set _ _⟩,by simp[intOf];omega⟩
  ·obtain rfl:j=8:=by omega
   have ab:wr.heap[q+1+1]? =some (.cells #[.int .u64 (wd h 0),.int .u64 (wd h 1),.int .u64 (wd h 2),.int .u64 (wd h 3),.int .u64 (wd h 4),.int .u64 (wd h 5),.int .u64 (wd h 6),.int .u64 (wd h 7),.int .u64 7640891576956012808,.int .u64 13503953896175478587,.int .u64 4354685564936845355,.int .u64 11912009170470909681,.int .u64 5840696475078001361,.int .u64 11170449401992604703,.int .u64 2270897969802886507,.int .u64 6620516959819538809] 252 (0,0)):=hv;have ai:=hid ab;have af:=hid ((Y.block (q+1) (by omega) (by omega)).trans O.out);have an:=hid (J.out.trans (Y.below (by omega) J.out.size));obtain⟨cv,fv⟩:=qK ab;clear hv Y ab ak ah U O J HH;go_upto_region 9 with(fail)
   refine qj ?_;intro W5 D;have aa:W5.heap[q+1+1]? =some (.cells #[.int .u64 (wd h 0),.int .u64 (wd h 1),.int .u64 (wd h 2),.int .u64 (wd h 3),.int .u64 (wd h 4),.int .u64 (wd h 5),.int .u64 (wd h 6),.int .u64 (wd h 7),.int .u64 7640891576956012808,.int .u64 13503953896175478587,.int .u64 4354685564936845355,.int .u64 11912009170470909681,.int .u64 (bits .xor .u64 5840696475078001361 lo),.int .u64 (bits .xor .u64 11170449401992604703 hi),.int .u64 2270897969802886507,.int .u64 6620516959819538809] 252 (0,0)):=by
    rw[D];exact block_setCell (i:=13) (block_setCell (i:=12) ai.out _) _
   have aj:W5.heap[q+1]? =some (.cells #[.int .u64 0,.int .u64 0,.int .u64 0,.int .u64 0,.int .u64 0,.int .u64 0,.int .u64 0,.int .u64 0,.int .u64 0,.int .u64 0,.int .u64 0,.int .u64 0,.int .u64 0,.int .u64 0,.int .u64 0,.int .u64 0] 252 (0,0)):=by
    rw[D];exact(Below.heap_setCell _ _ _ _ (by simp)).trans ((Below.heap_setCell _ _ _ _ (by simp)).trans af.out)
   have al:Below w.heap.size w W5:=by
    rw[D];exact(an.out.setCell (by simp;omega) _).setCell (by simp;omega) _
   clear D ai af an cv fv;have ax:=(Ai aa).1;obtain⟨cv,fv⟩:=qK aa;have U:=hid aa;have O:=hid aj;have J:=hid al;clear aa aj al
   cases Z<;>cases node
   ·skip
    go_upto_region 13 with(fail)
    refine qj ?_;intro I D;have S:I.heap[q+1+1]? =some (.cells #[.int .u64 (wd h 0),.int .u64 (wd h 1),.int .u64 (wd h 2),.int .u64 (wd h 3),.int .u64 (wd h 4),.int .u64 (wd h 5),.int .u64 (wd h 6),.int .u64 (wd h 7),.int .u64 7640891576956012808,.int .u64 13503953896175478587,.int .u64 4354685564936845355,.int .u64 11912009170470909681,.int .u64 (bits .xor .u64 5840696475078001361 lo),.int .u64 (bits .xor .u64 11170449401992604703 hi),.int .u64 2270897969802886507,.int .u64 6620516959819538809] 252 (0,0)):=by
     rw[D];exact U.out
    have G:I.heap[q+1]? =some (.cells #[.int .u64 0,.int .u64 0,.int .u64 0,.int .u64 0,.int .u64 0,.int .u64 0,.int .u64 0,.int .u64 0,.int .u64 0,.int .u64 0,.int .u64 0,.int .u64 0,.int .u64 0,.int .u64 0,.int .u64 0,.int .u64 0] 252 (0,0)):=by
     rw[D];exact O.out
    have V:Below w.heap.size w I:=by
     rw[D];exact J.out
    clear D U O J cv fv;apply wp_region_lit
    refine wpList_load_row rfl 252 _ rfl (q+1+1) rfl _ _ _ _ S Tryz.underlying252 rfl (by kernel_rfl) ?_;refine wpList_store_row rfl 252 _ _ rfl (q+1) _ rfl rfl 252 _ G (by kernel_rfl) (by kernel_rfl) (by kernel_rfl) ?_;simp only[Act.put,Ls];go_wp2_with fail
    exact Bp (results_cell_row rfl _ _ _ _ _ _ _ rfl (setRow_heap _ _ _ _ _ _ G) Tryz.underlying252 rfl (by kernel_rfl)) rfl ⟨rfl,below_setRow (V.mono (by omega)) (by omega) _⟩
   ·skip
    go_upto_region 13 with(fail)
    refine qj ?_;intro I D;have S:I.heap[q+1+1]? =some (.cells #[.int .u64 (wd h 0),.int .u64 (wd h 1),.int .u64 (wd h 2),.int .u64 (wd h 3),.int .u64 (wd h 4),.int .u64 (wd h 5),.int .u64 (wd h 6),.int .u64 (wd h 7),.int .u64 7640891576956012808,.int .u64 13503953896175478587,.int .u64 4354685564936845355,.int .u64 11912009170470909681,.int .u64 (bits .xor .u64 5840696475078001361 lo),.int .u64 (bits .xor .u64 11170449401992604703 hi),.int .u64 2270897969802886507,.int .u64 (bits .xor .u64 (IntKind.max .u64) 6620516959819538809)] 252 (0,0)):=by
     rw[D];exact(block_setCell (i:=15) U.out _)
    have G:I.heap[q+1]? =some (.cells #[.int .u64 0,.int .u64 0,.int .u64 0,.int .u64 0,.int .u64 0,.int .u64 0,.int .u64 0,.int .u64 0,.int .u64 0,.int .u64 0,.int .u64 0,.int .u64 0,.int .u64 0,.int .u64 0,.int .u64 0,.int .u64 0] 252 (0,0)):=by
     rw[D];exact((Below.heap_setCell _ _ _ _ (by simp)).trans O.out)
    have V:Below w.heap.size w I:=by
     rw[D];exact(J.out.setCell (by simp;omega) _)
    clear D U O J cv fv;apply wp_region_lit
    refine wpList_load_row rfl 252 _ rfl (q+1+1) rfl _ _ _ _ S Tryz.underlying252 rfl (by kernel_rfl) ?_;refine wpList_store_row rfl 252 _ _ rfl (q+1) _ rfl rfl 252 _ G (by kernel_rfl) (by kernel_rfl) (by kernel_rfl) ?_;simp only[Act.put,Ls];go_wp2_with fail
    exact Bp (results_cell_row rfl _ _ _ _ _ _ _ rfl (setRow_heap _ _ _ _ _ _ G) Tryz.underlying252 rfl (by kernel_rfl)) rfl ⟨rfl,below_setRow (V.mono (by omega)) (by omega) _⟩
   ·skip
    go_upto_region 13 with(fail)
    refine qj ?_;intro I D;have S:I.heap[q+1+1]? =some (.cells #[.int .u64 (wd h 0),.int .u64 (wd h 1),.int .u64 (wd h 2),.int .u64 (wd h 3),.int .u64 (wd h 4),.int .u64 (wd h 5),.int .u64 (wd h 6),.int .u64 (wd h 7),.int .u64 7640891576956012808,.int .u64 13503953896175478587,.int .u64 4354685564936845355,.int .u64 11912009170470909681,.int .u64 (bits .xor .u64 5840696475078001361 lo),.int .u64 (bits .xor .u64 11170449401992604703 hi),.int .u64 (bits .xor .u64 (IntKind.max .u64) 2270897969802886507),.int .u64 6620516959819538809] 252 (0,0)):=by
     rw[D];exact(block_setCell (i:=14) U.out _)
    have G:I.heap[q+1]? =some (.cells #[.int .u64 0,.int .u64 0,.int .u64 0,.int .u64 0,.int .u64 0,.int .u64 0,.int .u64 0,.int .u64 0,.int .u64 0,.int .u64 0,.int .u64 0,.int .u64 0,.int .u64 0,.int .u64 0,.int .u64 0,.int .u64 0] 252 (0,0)):=by
     rw[D];exact((Below.heap_setCell _ _ _ _ (by simp)).trans O.out)
    have V:Below w.heap.size w I:=by
     rw[D];exact(J.out.setCell (by simp;omega) _)
    clear D U O J cv fv;apply wp_region_lit
    refine wpList_load_row rfl 252 _ rfl (q+1+1) rfl _ _ _ _ S Tryz.underlying252 rfl (by kernel_rfl) ?_;refine wpList_store_row rfl 252 _ _ rfl (q+1) _ rfl rfl 252 _ G (by kernel_rfl) (by kernel_rfl) (by kernel_rfl) ?_;simp only[Act.put,Ls];go_wp2_with fail
    exact Bp (results_cell_row rfl _ _ _ _ _ _ _ rfl (setRow_heap _ _ _ _ _ _ G) Tryz.underlying252 rfl (by kernel_rfl)) rfl ⟨rfl,below_setRow (V.mono (by omega)) (by omega) _⟩
   ·skip
    go_upto_region 13 with(fail)
    refine qj ?_;intro I D;have S:I.heap[q+1+1]? =some (.cells #[.int .u64 (wd h 0),.int .u64 (wd h 1),.int .u64 (wd h 2),.int .u64 (wd h 3),.int .u64 (wd h 4),.int .u64 (wd h 5),.int .u64 (wd h 6),.int .u64 (wd h 7),.int .u64 7640891576956012808,.int .u64 13503953896175478587,.int .u64 4354685564936845355,.int .u64 11912009170470909681,.int .u64 (bits .xor .u64 5840696475078001361 lo),.int .u64 (bits .xor .u64 11170449401992604703 hi),.int .u64 (bits .xor .u64 (IntKind.max .u64) 2270897969802886507),.int .u64 (bits .xor .u64 (IntKind.max .u64) 6620516959819538809)] 252 (0,0)):=by
     rw[D];exact(block_setCell (i:=15) (block_setCell (i:=14) U.out _) _)
    have G:I.heap[q+1]? =some (.cells #[.int .u64 0,.int .u64 0,.int .u64 0,.int .u64 0,.int .u64 0,.int .u64 0,.int .u64 0,.int .u64 0,.int .u64 0,.int .u64 0,.int .u64 0,.int .u64 0,.int .u64 0,.int .u64 0,.int .u64 0,.int .u64 0] 252 (0,0)):=by
     rw[D];exact((Below.heap_setCell _ _ _ _ (by simp)).trans ((Below.heap_setCell _ _ _ _ (by simp)).trans O.out))
    have V:Below w.heap.size w I:=by
     rw[D];exact((J.out.setCell (by simp;omega) _).setCell (by simp;omega) _)
    clear D U O J cv fv;apply wp_region_lit
    refine wpList_load_row rfl 252 _ rfl (q+1+1) rfl _ _ _ _ S Tryz.underlying252 rfl (by kernel_rfl) ?_;refine wpList_store_row rfl 252 _ _ rfl (q+1) _ rfl rfl 252 _ G (by kernel_rfl) (by kernel_rfl) (by kernel_rfl) ?_;simp only[Act.put,Ls];go_wp2_with fail
    exact Bp (results_cell_row rfl _ _ _ _ _ _ _ rfl (setRow_heap _ _ _ _ _ _ G) Tryz.underlying252 rfl (by kernel_rfl)) rfl ⟨rfl,below_setRow (V.mono (by omega)) (by omega) _⟩
theorem qeB (h:List Int)(hh:Words 32 8 h)(c:Int)(aG:0≤c)(aD:c<18446744073709551616)(ac node:Bool)(w:World):Calls Tryz.prog 211 #[.agg (qg .u32 h),.int .u64 c,.bool ac,.bool node] w fun e w'=>e= .returned (.agg (qg .u32 (Yn .u32 IVs h (c%4294967296) (c/4294967296) ac node)))∧Below w.heap.size w w':=by
 obtain⟨q,aA⟩:=Ex w.heap.size;go_enter Tryz.func211,Tryz.ntmps211
 go_wp2_with fail
 refine(qaL _).mono ?_;rintro e1 w1 ⟨rfl,ab⟩;have ay:=(ab.block q (by simp;omega)).trans ((Bh _ _ _ (by simp;omega)).trans ((Bh _ _ _ (by simp;omega)).trans (qc _ _ aA.symm)));have am:=(ab.block (q+1) (by simp;omega)).trans ((Bh _ _ _ (by simp;omega)).trans (qc _ _ (by simp;omega)));have aq:=(ab.block (q+1+1) (by simp;omega)).trans (qc _ _ (by simp;omega));have av:Below w.heap.size w w1:=((((Below.refl w.heap.size w).alloc Nl _).alloc (by simp) _).alloc (by simp;omega) _).trans (ab.mono (by simp;omega));have az:q+3≤w1.heap.size:=by have:=ab.size;simp at this;omega
 clear ab;go_wp2_with fail
 refine qj ?_;intro W D;obtain⟨bi,ah⟩:=Ex w1.heap.size;have aw:W.heap[q]? =some (.cells (qg .u32 h) 284 (0,0)):=by
  rw[D];exact(Bh _ _ _ (by omega)).trans ay
 have ar:W.heap[q+1]? =some (.cells #[.int .u32 0,.int .u32 0,.int .u32 0,.int .u32 0,.int .u32 0,.int .u32 0,.int .u32 0,.int .u32 0,.int .u32 0,.int .u32 0,.int .u32 0,.int .u32 0,.int .u32 0,.int .u32 0,.int .u32 0,.int .u32 0] 298 (0,0)):=by
  rw[D];exact(Bh _ _ _ (by omega)).trans am
 have ae:W.heap[q+1+1]? =some (.cells (qg .u32 (zL h IVs 0)) 298 (0,0)):=by
  rw[D];exact(Bh _ _ _ (by omega)).trans aq
 have ag:W.heap[bi]? =some (.cells (qg .u32 IVs) 284 (0,0)):=by
  rw[D];exact qc _ _ ah.symm
 have aj:Below w.heap.size w W:=by
  rw[D];exact av.alloc (by omega) _
 have aK:q+1+1<W.heap.size:=(Ai ae).1;have aC:bi<W.heap.size:=(Ai ag).1;rw[ah];have aH:q+3≤bi:=by omega
 clear D ay am aq av az ah;have HH:=hid aw;have Y:=hid ar;have V:=hid ae;have HI:=hid ag;have S:=hid aj;clear aw ar ae aj ag;go_loopw [11] (fun i wr=> ∃j:Nat,i= .int .i64 j∧j≤8∧wr.heap[q+1+1]? =some (.cells (qg .u32 (zL h IVs j)) 298 (0,0))∧But (q+1+1) W wr) (fun i _=>8 - (intOf i).toNat)
 case atStart=>exact⟨0,rfl,Nat.zero_le _,V.out,But.refl _ _⟩
 case round=>
  obtain⟨j,rfl,hj,hv,hB⟩:=hrel;have aJ:=hB.size;have al:=hid hv;have ai:=hid hB;by_cases an:j<8
  ·have c1:wr.cell? ⟨q,j,none⟩=some (.int .u32 (wd h j)):=by
    rw[qm ((hB.block q (by omega) (by omega)).trans HH.out),qz hh an]
   have c4:wr.cell? ⟨bi,j,none⟩=some (.int .u32 (wd IVs j)):=by
    rw[qm ((hB.block bi (by omega) (by omega)).trans HI.out),qz JQ an]
   have c2:wr.cell? ⟨q+1+1,j,none⟩=some (.int .u32 (wd (zL h IVs j) j)):=(qm hv _).trans (yd (Yr _ _ _) (by omega));have c3:wr.cell? ⟨q+1+1,j+8,none⟩=some (.int .u32 (wd (zL h IVs j) (j+8))):=(qm hv _).trans (yd (Yr _ _ _) (by omega));have f2: ∀o,wr.frozen? ⟨q+1+1,o,none⟩=false:=(qK hv).2;have aI:IntKind.i64.wrap ((j:Int)+8)=((j+8:Nat):Int):=by rw[IntKind.wrap_i64];omega
   have aB:j+8<16:=by omega
   have aE:(bi=q+1+1)=False:=by simp;omega
   clear hv hB;go_wp2
   exact⟨⟨j+1,rfl,by omega,by rw[zL,←qY,←qY];exact block_setCell (block_setCell al.out _) _,(ai.out.set _ _).set _ _⟩,by simp[intOf];omega⟩
  ·obtain rfl:j=8:=by omega
   have af:wr.heap[q+1+1]? =some (.cells #[.int .u32 (wd h 0),.int .u32 (wd h 1),.int .u32 (wd h 2),.int .u32 (wd h 3),.int .u32 (wd h 4),.int .u32 (wd h 5),.int .u32 (wd h 6),.int .u32 (wd h 7),.int .u32 1779033703,.int .u32 3144134277,.int .u32 1013904242,.int .u32 2773480762,.int .u32 1359893119,.int .u32 2600822924,.int .u32 528734635,.int .u32 1541459225] 298 (0,0)):=hv;have ak:=hid af;have ax:=hid ((hB.block (q+1) (by omega) (by omega)).trans Y.out);have au:=hid (S.out.trans (hB.below (by omega) S.out.size));obtain⟨cv,fv⟩:=qK af;clear hv hB af al ai V Y S HH HI;go_upto_region 10 with(fail)
   refine qj ?_;intro W5 D;have ad:W5.heap[q+1+1]? =some (.cells #[.int .u32 (wd h 0),.int .u32 (wd h 1),.int .u32 (wd h 2),.int .u32 (wd h 3),.int .u32 (wd h 4),.int .u32 (wd h 5),.int .u32 (wd h 6),.int .u32 (wd h 7),.int .u32 1779033703,.int .u32 3144134277,.int .u32 1013904242,.int .u32 2773480762,.int .u32 (bits .xor .u32 1359893119 (c%4294967296)),.int .u32 (bits .xor .u32 2600822924 (c/4294967296)),.int .u32 528734635,.int .u32 1541459225] 298 (0,0)):=by
    rw[D];exact block_setCell (i:=13) (block_setCell (i:=12) ak.out _) _
   have ao:W5.heap[q+1]? =some (.cells #[.int .u32 0,.int .u32 0,.int .u32 0,.int .u32 0,.int .u32 0,.int .u32 0,.int .u32 0,.int .u32 0,.int .u32 0,.int .u32 0,.int .u32 0,.int .u32 0,.int .u32 0,.int .u32 0,.int .u32 0,.int .u32 0] 298 (0,0)):=by
    rw[D];exact(Below.heap_setCell _ _ _ _ (by simp)).trans ((Below.heap_setCell _ _ _ _ (by simp)).trans ax.out)
   have ap:Below w.heap.size w W5:=by
    rw[D];exact(au.out.setCell (by simp;omega) _).setCell (by simp;omega) _
   clear D ak ax au cv fv;have aF:=(Ai ad).1;obtain⟨cv,fv⟩:=qK ad;have V:=hid ad;have Y:=hid ao;have S:=hid ap;clear ad ao ap
   cases ac<;>cases node
   ·skip
    have J:=hid (show Ending.returned (.agg #[.int .u32 (wd h 0),.int .u32 (wd h 1),.int .u32 (wd h 2),.int .u32 (wd h 3),.int .u32 (wd h 4),.int .u32 (wd h 5),.int .u32 (wd h 6),.int .u32 (wd h 7),.int .u32 1779033703,.int .u32 3144134277,.int .u32 1013904242,.int .u32 2773480762,.int .u32 (bits .xor .u32 1359893119 (c%4294967296)),.int .u32 (bits .xor .u32 2600822924 (c/4294967296)),.int .u32 528734635,.int .u32 1541459225])= .returned (.agg (qg .u32 (Yn .u32 IVs h (c%4294967296) (c/4294967296) false false))) by simp only[Yn,IVs,qg];rfl);go_upto_region 14 with(fail)
    refine qj ?_;intro I D;have aa:I.heap[q+1+1]? =some (.cells #[.int .u32 (wd h 0),.int .u32 (wd h 1),.int .u32 (wd h 2),.int .u32 (wd h 3),.int .u32 (wd h 4),.int .u32 (wd h 5),.int .u32 (wd h 6),.int .u32 (wd h 7),.int .u32 1779033703,.int .u32 3144134277,.int .u32 1013904242,.int .u32 2773480762,.int .u32 (bits .xor .u32 1359893119 (c%4294967296)),.int .u32 (bits .xor .u32 2600822924 (c/4294967296)),.int .u32 528734635,.int .u32 1541459225] 298 (0,0)):=by
     rw[D];exact V.out
    have G:I.heap[q+1]? =some (.cells #[.int .u32 0,.int .u32 0,.int .u32 0,.int .u32 0,.int .u32 0,.int .u32 0,.int .u32 0,.int .u32 0,.int .u32 0,.int .u32 0,.int .u32 0,.int .u32 0,.int .u32 0,.int .u32 0,.int .u32 0,.int .u32 0] 298 (0,0)):=by
     rw[D];exact Y.out
    have X:Below w.heap.size w I:=by
     rw[D];exact S.out
    clear D V Y S cv fv;apply wp_region_lit
    refine wpList_load_row rfl 298 _ rfl (q+1+1) rfl _ _ _ _ aa Tryz.underlying298 rfl (by kernel_rfl) ?_;refine wpList_store_row rfl 298 _ _ rfl (q+1) _ rfl rfl 298 _ G (by kernel_rfl) (by kernel_rfl) (by kernel_rfl) ?_;simp only[Act.put,Ls];go_wp2_with fail
    exact Bp (results_cell_row rfl _ _ _ _ _ _ _ rfl (setRow_heap _ _ _ _ _ _ G) Tryz.underlying298 rfl (by kernel_rfl)) rfl ⟨J.out,below_setRow (X.mono (by omega)) (by omega) _⟩
   ·skip
    have U:=hid (show Ending.returned (.agg #[.int .u32 (wd h 0),.int .u32 (wd h 1),.int .u32 (wd h 2),.int .u32 (wd h 3),.int .u32 (wd h 4),.int .u32 (wd h 5),.int .u32 (wd h 6),.int .u32 (wd h 7),.int .u32 1779033703,.int .u32 3144134277,.int .u32 1013904242,.int .u32 2773480762,.int .u32 (bits .xor .u32 1359893119 (c%4294967296)),.int .u32 (bits .xor .u32 2600822924 (c/4294967296)),.int .u32 528734635,.int .u32 (bits .xor .u32 1541459225 4294967295)])= .returned (.agg (qg .u32 (Yn .u32 IVs h (c%4294967296) (c/4294967296) false true))) by simp only[Yn,IVs,qg];rw[YE .u32 1541459225 4294967295];rfl);go_upto_region 14 with(fail)
    refine qj ?_;intro I D;have aa:I.heap[q+1+1]? =some (.cells #[.int .u32 (wd h 0),.int .u32 (wd h 1),.int .u32 (wd h 2),.int .u32 (wd h 3),.int .u32 (wd h 4),.int .u32 (wd h 5),.int .u32 (wd h 6),.int .u32 (wd h 7),.int .u32 1779033703,.int .u32 3144134277,.int .u32 1013904242,.int .u32 2773480762,.int .u32 (bits .xor .u32 1359893119 (c%4294967296)),.int .u32 (bits .xor .u32 2600822924 (c/4294967296)),.int .u32 528734635,.int .u32 (bits .xor .u32 1541459225 4294967295)] 298 (0,0)):=by
     rw[D];exact(block_setCell (i:=15) V.out _)
    have G:I.heap[q+1]? =some (.cells #[.int .u32 0,.int .u32 0,.int .u32 0,.int .u32 0,.int .u32 0,.int .u32 0,.int .u32 0,.int .u32 0,.int .u32 0,.int .u32 0,.int .u32 0,.int .u32 0,.int .u32 0,.int .u32 0,.int .u32 0,.int .u32 0] 298 (0,0)):=by
     rw[D];exact((Below.heap_setCell _ _ _ _ (by simp)).trans Y.out)
    have X:Below w.heap.size w I:=by
     rw[D];exact(S.out.setCell (by simp;omega) _)
    clear D V Y S cv fv;apply wp_region_lit
    refine wpList_load_row rfl 298 _ rfl (q+1+1) rfl _ _ _ _ aa Tryz.underlying298 rfl (by kernel_rfl) ?_;refine wpList_store_row rfl 298 _ _ rfl (q+1) _ rfl rfl 298 _ G (by kernel_rfl) (by kernel_rfl) (by kernel_rfl) ?_;simp only[Act.put,Ls];go_wp2_with fail
    exact Bp (results_cell_row rfl _ _ _ _ _ _ _ rfl (setRow_heap _ _ _ _ _ _ G) Tryz.underlying298 rfl (by kernel_rfl)) rfl ⟨U.out,below_setRow (X.mono (by omega)) (by omega) _⟩
   ·skip
    have O:=hid (show Ending.returned (.agg #[.int .u32 (wd h 0),.int .u32 (wd h 1),.int .u32 (wd h 2),.int .u32 (wd h 3),.int .u32 (wd h 4),.int .u32 (wd h 5),.int .u32 (wd h 6),.int .u32 (wd h 7),.int .u32 1779033703,.int .u32 3144134277,.int .u32 1013904242,.int .u32 2773480762,.int .u32 (bits .xor .u32 1359893119 (c%4294967296)),.int .u32 (bits .xor .u32 2600822924 (c/4294967296)),.int .u32 (bits .xor .u32 528734635 4294967295),.int .u32 1541459225])= .returned (.agg (qg .u32 (Yn .u32 IVs h (c%4294967296) (c/4294967296) true false))) by simp only[Yn,IVs,qg];rw[YE .u32 528734635 4294967295];rfl);go_upto_region 14 with(fail)
    refine qj ?_;intro I D;have aa:I.heap[q+1+1]? =some (.cells #[.int .u32 (wd h 0),.int .u32 (wd h 1),.int .u32 (wd h 2),.int .u32 (wd h 3),.int .u32 (wd h 4),.int .u32 (wd h 5),.int .u32 (wd h 6),.int .u32 (wd h 7),.int .u32 1779033703,.int .u32 3144134277,.int .u32 1013904242,.int .u32 2773480762,.int .u32 (bits .xor .u32 1359893119 (c%4294967296)),.int .u32 (bits .xor .u32 2600822924 (c/4294967296)),.int .u32 (bits .xor .u32 528734635 4294967295),.int .u32 1541459225] 298 (0,0)):=by
     rw[D];exact(block_setCell (i:=14) V.out _)
    have G:I.heap[q+1]? =some (.cells #[.int .u32 0,.int .u32 0,.int .u32 0,.int .u32 0,.int .u32 0,.int .u32 0,.int .u32 0,.int .u32 0,.int .u32 0,.int .u32 0,.int .u32 0,.int .u32 0,.int .u32 0,.int .u32 0,.int .u32 0,.int .u32 0] 298 (0,0)):=by
     rw[D];exact((Below.heap_setCell _ _ _ _ (by simp)).trans Y.out)
    have X:Below w.heap.size w I:=by
     rw[D];exact(S.out.setCell (by simp;omega) _)
    clear D V Y S cv fv;apply wp_region_lit
    refine wpList_load_row rfl 298 _ rfl (q+1+1) rfl _ _ _ _ aa Tryz.underlying298 rfl (by kernel_rfl) ?_;refine wpList_store_row rfl 298 _ _ rfl (q+1) _ rfl rfl 298 _ G (by kernel_rfl) (by kernel_rfl) (by kernel_rfl) ?_;simp only[Act.put,Ls];go_wp2_with fail
    exact Bp (results_cell_row rfl _ _ _ _ _ _ _ rfl (setRow_heap _ _ _ _ _ _ G) Tryz.underlying298 rfl (by kernel_rfl)) rfl ⟨O.out,below_setRow (X.mono (by omega)) (by omega) _⟩
   ·skip
    have Z:=hid (show Ending.returned (.agg #[.int .u32 (wd h 0),.int .u32 (wd h 1),.int .u32 (wd h 2),.int .u32 (wd h 3),.int .u32 (wd h 4),.int .u32 (wd h 5),.int .u32 (wd h 6),.int .u32 (wd h 7),.int .u32 1779033703,.int .u32 3144134277,.int .u32 1013904242,.int .u32 2773480762,.int .u32 (bits .xor .u32 1359893119 (c%4294967296)),.int .u32 (bits .xor .u32 2600822924 (c/4294967296)),.int .u32 (bits .xor .u32 528734635 4294967295),.int .u32 (bits .xor .u32 1541459225 4294967295)])= .returned (.agg (qg .u32 (Yn .u32 IVs h (c%4294967296) (c/4294967296) true true))) by simp only[Yn,IVs,qg];rw[YE .u32 528734635 4294967295,YE .u32 1541459225 4294967295];rfl);go_upto_region 14 with(fail)
    refine qj ?_;intro I D;have aa:I.heap[q+1+1]? =some (.cells #[.int .u32 (wd h 0),.int .u32 (wd h 1),.int .u32 (wd h 2),.int .u32 (wd h 3),.int .u32 (wd h 4),.int .u32 (wd h 5),.int .u32 (wd h 6),.int .u32 (wd h 7),.int .u32 1779033703,.int .u32 3144134277,.int .u32 1013904242,.int .u32 2773480762,.int .u32 (bits .xor .u32 1359893119 (c%4294967296)),.int .u32 (bits .xor .u32 2600822924 (c/4294967296)),.int .u32 (bits .xor .u32 528734635 4294967295),.int .u32 (bits .xor .u32 1541459225 4294967295)] 298 (0,0)):=by
     rw[D];exact(block_setCell (i:=15) (block_setCell (i:=14) V.out _) _)
    have G:I.heap[q+1]? =some (.cells #[.int .u32 0,.int .u32 0,.int .u32 0,.int .u32 0,.int .u32 0,.int .u32 0,.int .u32 0,.int .u32 0,.int .u32 0,.int .u32 0,.int .u32 0,.int .u32 0,.int .u32 0,.int .u32 0,.int .u32 0,.int .u32 0] 298 (0,0)):=by
     rw[D];exact((Below.heap_setCell _ _ _ _ (by simp)).trans ((Below.heap_setCell _ _ _ _ (by simp)).trans Y.out))
    have X:Below w.heap.size w I:=by
     rw[D];exact((S.out.setCell (by simp;omega) _).setCell (by simp;omega) _)
    clear D V Y S cv fv;apply wp_region_lit
    refine wpList_load_row rfl 298 _ rfl (q+1+1) rfl _ _ _ _ aa Tryz.underlying298 rfl (by kernel_rfl) ?_;refine wpList_store_row rfl 298 _ _ rfl (q+1) _ rfl rfl 298 _ G (by kernel_rfl) (by kernel_rfl) (by kernel_rfl) ?_;simp only[Act.put,Ls];go_wp2_with fail
    exact Bp (results_cell_row rfl _ _ _ _ _ _ _ rfl (setRow_heap _ _ _ _ _ _ G) Tryz.underlying298 rfl (by kernel_rfl)) rfl ⟨Z.out,below_setRow (X.mono (by omega)) (by omega) _⟩
theorem YV (k:IntKind)(o: ∀n:Int,0≤n→n<2^k.bits→k.wrap n=n)(a b:Int):bits .xor k a b=((BitVec.ofInt k.bits a^^^BitVec.ofInt k.bits b).toNat:Int):=by
 simp only[bits];refine o _ (by omega) ?_;have:=(BitVec.ofInt k.bits a^^^BitVec.ofInt k.bits b).isLt
 exact_mod_cast this
theorem ZR (k:IntKind)(o: ∀n:Int,0≤n→n<2^k.bits→k.wrap n=n)(a b c:Int):bits .xor k (bits .xor k a b) c=bits .xor k a (bits .xor k b c):=by
 have e: ∀x:BitVec k.bits,BitVec.ofInt k.bits (x.toNat:Int)=x:=fun x=>by simp
 rw[YV k o (bits .xor k a b) c,YV k o a b,YV k o a (bits .xor k b c),YV k o b c,e,e,BitVec.xor_assoc]
theorem qc1 (a b c:Int):bits .xor .u64 (bits .xor .u64 a b) c=bits .xor .u64 a (bits .xor .u64 b c):=ZR .u64 wraps_u64 a b c
theorem qc2 (a b c:Int):bits .xor .u32 (bits .xor .u32 a b) c=bits .xor .u32 a (bits .xor .u32 b c):=ZR .u32 Jp a b c
theorem qgJ (h V:List Int)(Y:Words 32 8 h)(hV:Words 32 16 V)(w:World):Calls Tryz.prog 213 #[.agg (qg .u32 h),.agg (qg .u32 V)] w fun e w'=>e= .returned (.agg (qg .u32 (Yq .u32 h V 8)))∧Below w.heap.size w w':=by
 obtain⟨q,ag⟩:=Ex w.heap.size;go_enter Tryz.func213,Tryz.ntmps213
 go_wp2_with fail
 refine qj ?_;intro I O;have ab:I.heap[q]? =some (.cells (qg .u32 h) 284 (0,0)):=by
  rw[O];exact(Bh _ _ _ (by simp;omega)).trans ((Bh _ _ _ (by simp;omega)).trans (qc _ _ ag.symm))
 have U:I.heap[q+1]? =some (.cells (qg .u32 V) 298 (0,0)):=by
  rw[O];exact(Bh _ _ _ (by simp;omega)).trans (qc _ _ (by simp;omega))
 have S:I.heap[q+1+1]? =some (.cells #[.int .u32 0,.int .u32 0,.int .u32 0,.int .u32 0,.int .u32 0,.int .u32 0,.int .u32 0,.int .u32 0] 284 (0,0)):=by
  rw[O];exact qc _ _ (by simp;omega)
 have ae:Below w.heap.size w I:=by
  rw[O];exact(((Below.refl w.heap.size w).alloc Nl _).alloc (by simp) _).alloc (by simp;omega) _
 clear O;have ah:=hid ab;have ai:=hid U;have ak:=hid S;have ad:=hid ae;have aj:q+1<I.heap.size:=(Ai U).1;have an:q+1+1<I.heap.size:=(Ai S).1;clear ab U S ae;go_loopw [5] (fun i w4=> ∃j:Nat,i= .int .i64 j∧j≤8∧w4.heap[q]? =some (.cells (qg .u32 (Yq .u32 h V j)) 284 (0,0))∧But (q) I w4) (fun i _=>8 - (intOf i).toNat)
 case atStart=>exact⟨0,rfl,Nat.zero_le _,ah.out,But.refl _ _⟩
 case round=>
  obtain⟨j,rfl,hj,G,D⟩:=hrel;have aq:=D.size;have J:=(D.block (q+1) aj (by omega)).trans ai.out;have q1:q+1<wr.heap.size:=by omega
  have q2:q<wr.heap.size:=by omega
  have Z:=hid G;have ac:=hid D;by_cases af:j<8
  ·have c1:wr.cell? ⟨q,j,none⟩=some (.int .u32 (wd h j)):=by
    rw[qm G,qz (QE (fun z=>IntKind.wrap_u32 z) Y j) af,Y2 j j Nl]
   have c2:wr.cell? ⟨q+1,j,none⟩=some (.int .u32 (wd V j)):=(qm J _).trans (qz hV (by omega));have c3:wr.cell? ⟨q+1,j+8,none⟩=some (.int .u32 (wd V (j+8))):=(qm J _).trans (qz hV (by omega));have f1: ∀o,wr.frozen? ⟨q,o,none⟩=false:=(qK G).2;have ap:IntKind.i64.wrap ((j:Int)+8)=((j+8:Nat):Int):=by rw[IntKind.wrap_i64];omega
   have ao:j+8<16:=by omega
   clear G J D;go_wp2_with fail
   refine qh (by dsimp only[List.dropLast]) (by rfl) (by rfl) (by kernel_rfl) (by kernel_rfl) (by kernel_rfl) (by kernel_rfl) ?_;repeat(go_big_quiet_step (fail))
   refine wpQuiet_nil ?_;intro _ al;obtain⟨n1,rfl⟩:=al;go_wp2_with fail
   exact⟨⟨j+1,rfl,by omega,by rw[Yq,←qc2,←qY];exact block_setCell (w:=wr.drewN n1) Z.out _,(ac.out.drewN n1).set _ _⟩,by simp[intOf];omega⟩
  ·obtain rfl:j=8:=by omega
   have aa:=(D.block (q+1+1) an (by omega)).trans ak.out;have X:=QE (k:= .u32) (fun z=>IntKind.wrap_u32 z) (v:=V) Y 8;have am:=hid (ad.out.trans (ac.out.below (by omega) ad.out.size));clear G J D;go_upto_region 5 with(fail)
   apply wp_region_lit
   refine wpList_load_row rfl 284 _ rfl (q) rfl _ _ _ _ Z.out Tryz.underlying284 rfl (by rw[qd,X.1];kernel_rfl) ?_;refine wpList_store_row rfl 284 _ _ rfl (q+1+1) (qg .u32 (Yq .u32 h V 8)) rfl rfl 284 _ aa (by rw[qd,X.1];kernel_rfl) (by rw[qd,X.1];rfl) qw ?_;simp only[Act.put,Ls];go_wp2_with fail
   exact Bp (results_cell_row rfl _ _ _ _ _ _ _ rfl (setRow_heap _ _ _ _ _ _ aa) Tryz.underlying284 rfl (by rw[qd,X.1];kernel_rfl)) rfl ⟨rfl,below_setRow (am.out.mono (by omega)) (by omega) _⟩
theorem qie (h M:List Int)(S:Words 64 8 h)(hM:Words 64 16 M)(lo hi:Int)(I node:Bool)(w:World):Calls Tryz.prog 194 #[.agg (qg .u64 h),.agg (qg .u64 M),.int .u64 lo,.int .u64 hi,.bool I,.bool node] w fun e w'=>e= .returned (.agg (qg .u64 (zr mixBig IVb 12 h M lo hi I node)))∧Below w.heap.size w w':=by
 obtain⟨q,aC⟩:=Ex w.heap.size;have HC:=hid (qfT h S lo hi I node);have aa:=zi (k:= .u64) (fun z=>IntKind.wrap_u64 z) qcb S lo hi I node;unfold zr;rw[show mixBig.k= .u64 from rfl];generalize Yn .u64 IVb h lo hi I node=L0 at*;have ac:=S;rw[zB S]at HC⊢;go_enter Tryz.func194,Tryz.ntmps194
 go_wp2_with fail
 refine(HC.out _).mono ?_;rintro e1 Z ⟨rfl,J⟩;have av:=(J.block q (by simp;omega)).trans ((Bh _ _ _ (by simp;omega)).trans ((Bh _ _ _ (by simp;omega)).trans (qc _ _ aC.symm)));have al:=(J.block (q+1) (by simp;omega)).trans ((Bh _ _ _ (by simp;omega)).trans (qc _ _ (by simp;omega)));have ar:=(J.block (q+1+1) (by simp;omega)).trans (qc _ _ (by simp;omega));have aJ:q+3≤Z.heap.size:=by have:=J.size;simp at this;omega
 have am:Below w.heap.size w Z:=((((Below.refl w.heap.size w).alloc Nl _).alloc (by simp) _).alloc (by simp;omega) _).trans (J.mono (by simp;omega));clear J HC;go_wp2_with ((with_reducible show wpList _ _ _ (Oper.mk none (Op.store 252 _ _) _ _ _ _::_) _ _);refine wpList_store_row rfl 252 _ _ rfl Z.heap.size (qg .u64 L0) rfl rfl 252 _ (Wn _ _) (by rw[qd,aa.1];kernel_rfl) (by rw[qd,aa.1];rfl) qw ?_)
 clear S;refine qj ?_;intro W hW;obtain⟨D,ah⟩:=Ex Z.heap.size;have S:W.heap[q]? =some (.cells #[.int .u64 (wd h 0),.int .u64 (wd h 1),.int .u64 (wd h 2),.int .u64 (wd h 3),.int .u64 (wd h 4),.int .u64 (wd h 5),.int .u64 (wd h 6),.int .u64 (wd h 7)] 274 (0,0)):=by
  rw[hW];exact(setRow_other (Z.alloc _) _ _ _ (by omega)).trans ((Bh _ _ _ (by omega)).trans av)
 have hm:W.heap[q+1]? =some (.cells (qg .u64 M) 252 (0,0)):=by
  rw[hW];exact(setRow_other (Z.alloc _) _ _ _ (by omega)).trans ((Bh _ _ _ (by omega)).trans al)
 have hr:W.heap[q+1+1]? =some (.cells #[.int .u64 0,.int .u64 0,.int .u64 0,.int .u64 0,.int .u64 0,.int .u64 0,.int .u64 0,.int .u64 0] 274 (0,0)):=by
  rw[hW];exact(setRow_other (Z.alloc _) _ _ _ (by omega)).trans ((Bh _ _ _ (by omega)).trans ar)
 have hv:W.heap[D]? =some (.cells (qg .u64 L0) 252 (0,0)):=by
  rw[hW,←ah];exact setRow_heap _ _ _ _ _ _ (Wn _ _)
 have hB:Below w.heap.size w W:=by
  rw[hW];exact below_setRow (am.alloc (by omega) _) (by omega) _
 rw[←zB ac]at S;rw[ah];have aL:q+3≤D:=by omega
 clear hW av al ar aJ am ah;have HH:=hid S;have HM:=hid hm;have HR:=hid hr;have HV:=hid hv;have HB:=hid hB;have aN:D<W.heap.size:=(Ai hv).1;clear S hm hr hv hB;go_loopw [14] (fun i wr=> ∃j:Nat,i= .int .i64 j∧j≤12∧wr.heap[D]? =some (.cells (qg .u64 (mixBig.rounds L0 M j)) 252 (0,0))∧But D W wr) (fun i _=>12 - (intOf i).toNat)
 case atStart=>exact⟨0,rfl,Nat.zero_le _,HV.out,But.refl _ _⟩
 case round=>
  obtain⟨j,rfl,hj,hv,hB⟩:=hrel;have hm:=(hB.block (q+1) (by omega) (by omega)).trans HM.out;have G:=hid hv;have aw:=hid hm;have U:=hid hB;clear hv hm hB;by_cases ap:j<12
  ·have Y:=QN QA aa (M:=M) j;obtain⟨R1,ag⟩:=Ex (mixBig.rounds L0 M j);rw[ag]at Y G;have aB:=hid ag;clear ag;go_wp2_with (first
    | ((with_reducible show wpList _ _ _ (Oper.mk (some 27) _ _ _ _ _::_) _ _);refine wpList_load_row rfl 252 _ rfl D rfl _ _ _ _ G.out Tryz.underlying252 rfl (by rw[qd,Y.1];kernel_rfl) ?_)
    | ((with_reducible show wpList _ _ _ (Oper.mk (some 28) _ _ _ _ _::_) _ _);refine wpList_load_row rfl 252 _ rfl (q+1) rfl _ _ _ _ aw.out Tryz.underlying252 rfl (by rw[qd,hM.1];kernel_rfl) ?_))
   refine(qev R1 M Y hM j (by omega) _).mono ?_;rintro e2 w2 ⟨rfl,ad⟩
   have aj:=(ad.block D (Ai G.out).1).trans G.out;have aF:=hid (U.out.trans (But.of_below (b:=D) ad));clear ad;have ak:Words 64 16 (mixBig.round R1 M j):=qD QA Y (M:=M) j 8;go_wp2_with ((with_reducible show wpList _ _ _ (Oper.mk none (Op.store 252 _ _) _ _ _ _::_) _ _);refine wpList_store_row rfl 252 _ _ rfl D (qg .u64 (mixBig.round R1 M j)) rfl rfl 252 _ aj (by rw[qd,ak.1];kernel_rfl) (by simp only[qd,ak.1,Y.1]) qw ?_)
   exact⟨⟨j+1,rfl,by omega,by rw[show mixBig.rounds L0 M (j+1)=mixBig.round (mixBig.rounds L0 M j) M j from rfl,aB.out];exact setRow_heap _ _ _ _ _ _ aj,aF.out.setRow _⟩,by simp[intOf];omega⟩
  ·obtain rfl:j=12:=by omega
   have hV:=QN QA aa (M:=M) 12;obtain⟨V,af⟩:=Ex (mixBig.rounds L0 M 12);have aH:=hid (show Ending.returned (.agg (qg .u64 (Yq .u64 h V 8)))= .returned (.agg (qg .u64 (Yq .u64 h (mixBig.rounds L0 M 12) 8))) by rw[af]);rw[af]at hV G;clear af;have an:=(U.out.block q (by omega) (by omega)).trans HH.out;have ae:=(U.out.block (q+1+1) (by omega) (by omega)).trans HR.out;have ax:Below w.heap.size w wr:=HB.out.trans (U.out.below (by omega) HB.out.size);have ay:=hid an;have az:=hid G.out;have aE:=hid ae;have ao:=hid ax;have aD:D<wr.heap.size:=(Ai G.out).1;have aG:q+1+1<wr.heap.size:=(Ai ae).1;clear an ae ax G aw U HH HR HM HV HB;generalize wr=w3 at*;go_wp2_with fail
   go_loopw [15] (fun i w4=> ∃j:Nat,i= .int .i64 j∧j≤8∧w4.heap[q]? =some (.cells (qg .u64 (Yq .u64 h V j)) 274 (0,0))∧But (q) w3 w4) (fun i _=>8 - (intOf i).toNat)
   case atStart=>exact⟨0,rfl,Nat.zero_le _,ay.out,But.refl _ _⟩
   case round=>
    obtain⟨j,rfl,hj,X,O⟩:=hrel;have aM:=O.size;have ab:=(O.block (D) aD (by omega)).trans az.out;have q1:D<wr.heap.size:=by omega
    have q2:q<wr.heap.size:=by omega
    have ai:=hid X;have au:=hid O;by_cases ap:j<8
    ·have c1:wr.cell? ⟨q,j,none⟩=some (.int .u64 (wd h j)):=by
      rw[qm X,qz (QE (fun z=>IntKind.wrap_u64 z) ac j) ap,Y2 j j Nl]
     have c2:wr.cell? ⟨D,j,none⟩=some (.int .u64 (wd V j)):=(qm ab _).trans (qz hV (by omega));have c3:wr.cell? ⟨D,j+8,none⟩=some (.int .u64 (wd V (j+8))):=(qm ab _).trans (qz hV (by omega));have f1: ∀o,wr.frozen? ⟨q,o,none⟩=false:=(qK X).2;have aO:IntKind.i64.wrap ((j:Int)+8)=((j+8:Nat):Int):=by rw[IntKind.wrap_i64];omega
     have aK:j+8<16:=by omega
     clear X ab O;go_wp2_with fail
     refine qh (by dsimp only[List.dropLast]) (by rfl) (by rfl) (by kernel_rfl) (by kernel_rfl) (by kernel_rfl) (by kernel_rfl) ?_;repeat(go_big_quiet_step (fail))
     refine wpQuiet_nil ?_;intro _ aA;obtain⟨n1,rfl⟩:=aA;go_wp2_with fail
     exact⟨⟨j+1,rfl,by omega,by rw[Yq,←qc1,←qY];exact block_setCell (w:=wr.drewN n1) ai.out _,(au.out.drewN n1).set _ _⟩,by simp[intOf];omega⟩
    ·obtain rfl:j=8:=by omega
     have aq:=(O.block (q+1+1) aG (by omega)).trans aE.out;have hF:=QE (k:= .u64) (fun z=>IntKind.wrap_u64 z) (v:=V) ac 8;have aI:=hid (ao.out.trans (au.out.below (by omega) ao.out.size));clear X ab O;go_upto_region 10 with(fail)
     apply wp_region_lit
     refine wpList_load_row rfl 274 _ rfl (q) rfl _ _ _ _ ai.out Tryz.underlying274 rfl (by rw[qd,hF.1];kernel_rfl) ?_;refine wpList_store_row rfl 274 _ _ rfl (q+1+1) (qg .u64 (Yq .u64 h V 8)) rfl rfl 274 _ aq (by rw[qd,hF.1];kernel_rfl) (by rw[qd,hF.1];rfl) qw ?_;simp only[Act.put,Ls];go_wp2_with fail
     exact Bp (results_cell_row rfl _ _ _ _ _ _ _ rfl (setRow_heap _ _ _ _ _ _ aq) Tryz.underlying274 rfl (by rw[qd,hF.1];kernel_rfl)) rfl ⟨aH.out,below_setRow (aI.out.mono (by omega)) (by omega) _⟩
theorem qif (h M:List Int)(J:Words 32 8 h)(hM:Words 32 16 M)(c:Int)(az:0≤c)(av:c<18446744073709551616)(G node:Bool)(w:World):Calls Tryz.prog 196 #[.agg (qg .u32 h),.agg (qg .u32 M),.int .u64 c,.bool G,.bool node] w fun e w'=>e= .returned (.agg (qg .u32 (zr mixSmall IVs 10 h M (c%4294967296) (c/4294967296) G node)))∧Below w.heap.size w w':=by
 obtain⟨o,ax⟩:=Ex w.heap.size;have HC:=hid (qeB h J c az av G node);have Y:=zi (k:= .u32) (fun z=>IntKind.wrap_u32 z) JQ J (c%4294967296) (c/4294967296) G node;unfold zr;rw[show mixSmall.k= .u32 from rfl];generalize Yn .u32 IVs h (c%4294967296) (c/4294967296) G node=L0 at*;have X:=J;rw[zB J]at HC⊢;go_enter Tryz.func196,Tryz.ntmps196
 go_wp2_with fail
 refine(HC.out _).mono ?_;rintro e1 U ⟨rfl,I⟩;have ao:=(I.block o (by simp;omega)).trans ((Bh _ _ _ (by simp;omega)).trans ((Bh _ _ _ (by simp;omega)).trans (qc _ _ ax.symm)));have aj:=(I.block (o+1) (by simp;omega)).trans ((Bh _ _ _ (by simp;omega)).trans (qc _ _ (by simp;omega)));have an:=(I.block (o+1+1) (by simp;omega)).trans (qc _ _ (by simp;omega));have aD:o+3≤U.heap.size:=by have:=I.size;simp at this;omega
 have ak:Below w.heap.size w U:=((((Below.refl w.heap.size w).alloc Nl _).alloc (by simp) _).alloc (by simp;omega) _).trans (I.mono (by simp;omega));clear I HC;go_wp2_with ((with_reducible show wpList _ _ _ (Oper.mk none (Op.store 298 _ _) _ _ _ _::_) _ _);refine wpList_store_row rfl 298 _ _ rfl U.heap.size (qg .u32 L0) rfl rfl 298 _ (Wn _ _) (by rw[qd,Y.1];kernel_rfl) (by rw[qd,Y.1];rfl) qw ?_)
 clear J;refine qj ?_;intro W Z;obtain⟨D,af⟩:=Ex U.heap.size;have J:W.heap[o]? =some (.cells #[.int .u32 (wd h 0),.int .u32 (wd h 1),.int .u32 (wd h 2),.int .u32 (wd h 3),.int .u32 (wd h 4),.int .u32 (wd h 5),.int .u32 (wd h 6),.int .u32 (wd h 7)] 284 (0,0)):=by
  rw[Z];exact(setRow_other (U.alloc _) _ _ _ (by omega)).trans ((Bh _ _ _ (by omega)).trans ao)
 have hm:W.heap[o+1]? =some (.cells (qg .u32 M) 298 (0,0)):=by
  rw[Z];exact(setRow_other (U.alloc _) _ _ _ (by omega)).trans ((Bh _ _ _ (by omega)).trans aj)
 have hr:W.heap[o+1+1]? =some (.cells #[.int .u32 0,.int .u32 0,.int .u32 0,.int .u32 0,.int .u32 0,.int .u32 0,.int .u32 0,.int .u32 0] 284 (0,0)):=by
  rw[Z];exact(setRow_other (U.alloc _) _ _ _ (by omega)).trans ((Bh _ _ _ (by omega)).trans an)
 have hv:W.heap[D]? =some (.cells (qg .u32 L0) 298 (0,0)):=by
  rw[Z,←af];exact setRow_heap _ _ _ _ _ _ (Wn _ _)
 have hB:Below w.heap.size w W:=by
  rw[Z];exact below_setRow (ak.alloc (by omega) _) (by omega) _
 rw[←zB X]at J;rw[af];have aE:o+3≤D:=by omega
 clear Z ao aj an aD ak af;have HH:=hid J;have HM:=hid hm;have HR:=hid hr;have HV:=hid hv;have HB:=hid hB;have aH:D<W.heap.size:=(Ai hv).1;clear J hm hr hv hB;go_loopw [12] (fun i wr=> ∃j:Nat,i= .int .i64 j∧j≤10∧wr.heap[D]? =some (.cells (qg .u32 (mixSmall.rounds L0 M j)) 298 (0,0))∧But D W wr) (fun i _=>10 - (intOf i).toNat)
 case atStart=>exact⟨0,rfl,Nat.zero_le _,HV.out,But.refl _ _⟩
 case round=>
  obtain⟨j,rfl,hj,hv,hB⟩:=hrel;have hm:=(hB.block (o+1) (by omega) (by omega)).trans HM.out;have q:=hid hv;have ap:=hid hm;have O:=hid hB;clear hv hm hB;by_cases aF:j<10
  ·have S:=QN Qf Y (M:=M) j;obtain⟨R1,ae⟩:=Ex (mixSmall.rounds L0 M j);rw[ae]at S q;have aw:=hid ae;clear ae;go_wp2_with (first
    | ((with_reducible show wpList _ _ _ (Oper.mk (some 23) _ _ _ _ _::_) _ _);refine wpList_load_row rfl 298 _ rfl D rfl _ _ _ _ q.out Tryz.underlying298 rfl (by rw[qd,S.1];kernel_rfl) ?_)
    | ((with_reducible show wpList _ _ _ (Oper.mk (some 24) _ _ _ _ _::_) _ _);refine wpList_load_row rfl 298 _ rfl (o+1) rfl _ _ _ _ ap.out Tryz.underlying298 rfl (by rw[qd,hM.1];kernel_rfl) ?_))
   refine(qew R1 M S hM j (by omega) _).mono ?_;rintro e2 w2 ⟨rfl,aa⟩
   have ah:=(aa.block D (Ai q.out).1).trans q.out;have aA:=hid (O.out.trans (But.of_below (b:=D) aa));clear aa;have ai:Words 32 16 (mixSmall.round R1 M j):=qD Qf S (M:=M) j 8;go_wp2_with ((with_reducible show wpList _ _ _ (Oper.mk none (Op.store 298 _ _) _ _ _ _::_) _ _);refine wpList_store_row rfl 298 _ _ rfl D (qg .u32 (mixSmall.round R1 M j)) rfl rfl 298 _ ah (by rw[qd,ai.1];kernel_rfl) (by simp only[qd,ai.1,S.1]) qw ?_)
   exact⟨⟨j+1,rfl,by omega,by rw[show mixSmall.rounds L0 M (j+1)=mixSmall.round (mixSmall.rounds L0 M j) M j from rfl,aw.out];exact setRow_heap _ _ _ _ _ _ ah,aA.out.setRow _⟩,by simp[intOf];omega⟩
  ·obtain rfl:j=10:=by omega
   have hV:=QN Qf Y (M:=M) 10;obtain⟨V,ad⟩:=Ex (mixSmall.rounds L0 M 10);have aC:=hid (show Ending.returned (.agg (qg .u32 (Yq .u32 h V 8)))= .returned (.agg (qg .u32 (Yq .u32 h (mixSmall.rounds L0 M 10) 8))) by rw[ad]);rw[ad]at hV q;clear ad;have al:=(O.out.block o (by omega) (by omega)).trans HH.out;have ac:=(O.out.block (o+1+1) (by omega) (by omega)).trans HR.out;have aq:Below w.heap.size w wr:=HB.out.trans (O.out.below (by omega) HB.out.size);have ar:=hid al;have au:=hid q.out;have ay:=hid ac;have am:=hid aq;have aG:D<wr.heap.size:=(Ai q.out).1;have aI:o+1+1<wr.heap.size:=(Ai ac).1;clear al ac aq q ap O HH HR HM HV HB;have hF:=QE (k:= .u32) (fun z=>IntKind.wrap_u32 z) (v:=V) X 8;go_wp2_with (first
    | ((with_reducible show wpList _ _ _ (Oper.mk (some 29) _ _ _ _ _::_) _ _);refine wpList_load_row rfl 284 _ rfl o rfl _ _ _ _ ar.out Tryz.underlying284 rfl (by rw[qd,X.1];kernel_rfl) ?_)
    | ((with_reducible show wpList _ _ _ (Oper.mk (some 30) _ _ _ _ _::_) _ _);refine wpList_load_row rfl 298 _ rfl D rfl _ _ _ _ au.out Tryz.underlying298 rfl (by rw[qd,hV.1];kernel_rfl) ?_))
   refine(qgJ h V X hV _).mono ?_;rintro e6 w6 ⟨rfl,ab⟩
   have ag:=(ab.block (o+1+1) (by omega)).trans ay.out;have aB:=hid (am.out.trans (ab.mono am.out.size));clear ab;go_wp2_with ((with_reducible show wpList _ _ _ (Oper.mk none (Op.store 284 _ _) _ _ _ _::_) _ _);refine wpList_store_row rfl 284 _ _ rfl (o+1+1) (qg .u32 (Yq .u32 h V 8)) rfl rfl 284 _ ag (by rw[qd,hF.1];kernel_rfl) (by rw[qd,hF.1];rfl) qw ?_)
   exact Bp (results_cell_row rfl _ _ _ _ _ _ _ rfl (setRow_heap _ _ _ _ _ _ ag) Tryz.underlying284 rfl (by rw[qd,hF.1];kernel_rfl)) rfl ⟨aC.out,below_setRow (aB.out.mono (by omega)) (by omega) _⟩
end Go.Proofs.YthjoojnlnlmljaaGreat
