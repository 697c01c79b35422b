/- A round of the mixing, by the reference, both kinds. No condition. -/
import Derived.Test.YthjoojnlnlmljaaGreatG12
import Derived.Test.YthjoojnlnlmljaaGreatG13
set_option linter.all false
set_option maxRecDepth 100000
set_option maxHeartbeats 8000000
namespace Go.Proofs.YthjoojnlnlmljaaGreat
open Go.ChangeShapes Go.WideShapes Go.ChangeAt Go.RowKit Go.Joins
open Go.Lib (hid)
attribute [local go_sem] Oper.semAt_some
def qcI (p:Nat→Oper→Prop):Nat→List Oper→Prop
 | _,[]=>True
 | n,o::l=>p n o∧qcI p (n+1) l
theorem qh {p:Nat→Oper→Prop}{n:Nat}{o:Oper}{l:List Oper}(h:p n o)(q:qcI p (n+1) l):qcI p n (o::l):=⟨h,q⟩
theorem jB {p:Nat→Oper→Prop}{n:Nat}:qcI p n []:=trivial
theorem qew {p:Nat→Oper→Prop}: ∀(l:List Oper) (n:Nat),qcI p n l→ ∀i o,l[i]? =some o→p (n+i) o
 | [],_,_,i,o,h=>by simp at h
 | a::l,n,h,0,o,e=>by simp at e;subst e;exact h.1
 | a::l,n,h,i+1,o,e=>by
  have:=qew l (n+1) h.2 i o (by simpa using e)
  rw[show n+(i+1)=n+1+i by omega];exact this
theorem Zs {p:Nat→Oper→Prop}{l:List Oper}(h:qcI p 0 l): ∀i o,l[i]? =some o→p i o:=fun i o q=>by
 have:=qew l 0 h i o q
 rwa[Nat.zero_add]at this
theorem Zc {o:Oper}{ys:Nat→Option Bool}(h:o.guard=none):Region.wanted o ys=true:=by unfold Region.wanted;rw[h]
def qbL (W:World)(b:Nat)(T:TypeId)(cs:Array Value):Prop:=W.heap[b]? =some (.cells cs T (0,0))
def YX (s b:Nat)(T:TypeId)(cs:Array Value)(L:List Value)(i:Nat)(v:Value)(W:World):Prop:=
 if i=s then qbL W b T cs else match L[i]? with|some g=>v=g|none=>True
theorem qaB {s b:Nat}{T:TypeId}{cs:Array Value}(L:List Value){W W':World}(o:Below W.heap.size W W')(i:Nat): ∀j u,j≠i→YX s b T cs L j u W→YX s b T cs L j u W':=by
 intro j u _ h;unfold YX at*;by_cases e:j=s
 ·rw[if_pos e]at h⊢;exact(o.block b (Ai h).1).trans h
 ·rw[if_neg e]at h⊢;exact h
theorem qaA {s b:Nat}{T:TypeId}{cs:Array Value}(L:List Value){W W':World}: ∀j u,j≠s→YX s b T cs L j u W→YX s b T cs L j u W':=by
 intro j u e h;unfold YX at*;rw[if_neg e]at h⊢;exact h
theorem qcA {s b:Nat}{T:TypeId}{cs:Array Value}{L:List Value}{i:Nat}(o:i=s)(v:Value)(W:World)(h:YX s b T cs L i v W):YX s b T cs L i undef W:=by
 unfold YX at*;rw[if_pos o]at h⊢;exact h
theorem qaz {s b:Nat}{T:TypeId}{cs:Array Value}{L:List Value}{v:Value}{W:World}(h:qbL W b T cs):YX s b T cs L s v W:=by
 unfold YX;rw[if_pos rfl];exact h
def RS (b:Nat)(T:TypeId)(cs:Array Value)(w:World)(f:Bool)(W:World):Prop:=But b w W∧(f=false→qbL W b T cs)
theorem RS.next {b:Nat}{T:TypeId}{cs:Array Value}{w:World}{f g:Bool}{W W':World}(h:RS b T cs w f W)(o:Below W.heap.size W W')(q:g=false→f=false):RS b T cs w g W':=
 ⟨h.1.trans (But.of_below o),fun e=>(o.block b (Ai (h.2 (q e))).1).trans (h.2 (q e))⟩
theorem RS.same {b:Nat}{T:TypeId}{cs:Array Value}{w:World}{f g:Bool}{W:World}(h:RS b T cs w f W)(o:g=false→f=false):RS b T cs w g W:=⟨h.1,fun e=>h.2 (o e)⟩
theorem Qo {f b:Bool}(h:(f||b)=false):f=false:=by cases f<;>simp_all
theorem But.setRow {b:Nat}{w W:World}(h:But b w W)(cs:Array Value):But b w (W.setRow b cs):=h.trans ⟨rfl,rfl,rfl,by simp[World.setRow],fun g _ o=>setRow_other _ _ _ _ o⟩
theorem qe6 (L0 M:List Int)(ak:Words 64 16 L0)(hM:Words 64 16 M)(r:Nat)(hr:r≤11)(w:World):
  Calls Tryz.prog 209 #[.agg (qi .u64 L0),.agg (qi .u64 M),.int .i64 r] w fun e w'=>e= .returned (.tuple #[.agg (qi .u64 (mixBig.round L0 M r)),.int .i64 0])∧Below w.heap.size w w':=by
 obtain⟨O,aG⟩:=Ex w.heap.size;have aR: ¬((r:Int)<0):=by omega
 have aQ: ¬(11<(r:Int)):=by omega
 have HS:=hid (fun i (hi:i<16)=>qan r i (by omega) hi);go_enter Tryz.func209,Tryz.ntmps209
 go_wp2_with fail
 refine qm ?_;intro W hW;have hv:W.heap[O]? =some (.cells (qi .u64 L0) 252 (0,0)):=by
  rw[hW];exact(Bh _ _ _ (by simp;omega)).trans ((Bh _ _ _ (by simp;omega)).trans (qe _ _ aG.symm))
 have hm:W.heap[O+1]? =some (.cells (qi .u64 M) 252 (0,0)):=by
  rw[hW];exact(Bh _ _ _ (by simp;omega)).trans (qe _ _ (by simp;omega))
 have ac:W.heap[O+1+1]? =some (.cells #[.int .u64 0,.int .u64 0,.int .u64 0,.int .u64 0,.int .u64 0,.int .u64 0,.int .u64 0,.int .u64 0,.int .u64 0,.int .u64 0,.int .u64 0,.int .u64 0,.int .u64 0,.int .u64 0,.int .u64 0,.int .u64 0] 252 (0,0)):=by
  rw[hW];exact qe _ _ (by simp;omega)
 have hB:Below w.heap.size w W:=by
  rw[hW];exact(((Below.refl w.heap.size w).alloc Nl _).alloc (by simp) _).alloc (by simp;omega) _
 have aK:O+1+1<W.heap.size:=(Ai ac).1;clear hW;have HV:=hid hv;have HM:=hid hm;have HR:=hid ac;have HB:=hid hB;clear hv hm ac hB;go_loopw [8] (fun i wr=> ∃j:Nat,i= .int .i64 j∧j≤8∧wr.heap[O]? =some (.cells (qi .u64 (mixBig.turns L0 M r j)) 252 (0,0))∧But O W wr) (fun i _=>8 - (intOf i).toNat)
 case atStart=>exact⟨0,rfl,Nat.zero_le _,HV.out,But.refl _ _⟩
 case round=>
  obtain⟨j,rfl,hj,hv,hB⟩:=hrel;have al:=hid hv;have ad:=hid hB;have aO:=hB.size;clear hv hB;by_cases av:j<8
  ·have V:=qF QG ak (M:=M) r j;have X:mixBig.turns L0 M r (j+1)=mixBig.step (mixBig.turns L0 M r j) (plA j) (plB j) (plC j) (plD j) (wd M (qw r (2*j))) (wd M (qw r (2*j+1))):=rfl;have aj:=hid X;have aa:=qF QG ak (M:=M) r (j+1);rw[X]at aa;clear X;obtain⟨p1,p2,p3,p4,p5,p6,p7,p8,p9,ay⟩:=qdZ j av;have HG:=hid (fun W=>qiP (mixBig.turns L0 M r j) V (plA j) (plB j) (plC j) (plD j) p1 p2 p3 p4 p5 p6 p7 p8 p9 ay (wd M (qw r (2*j))) (wd M (qw r (2*j+1))) W);have aN:=hid (HS.out (2*j) (by omega));have aJ:=hid (HS.out (2*j+1) (by omega));have s0:=qR r (2*j);have s1:=qR r (2*j+1);have t0:((qw r (2*j):Nat):Int)<16:=by omega
   have t1:((qw r (2*j+1):Nat):Int)<16:=by omega
   have hx:(qi .u64 M)[qw r (2*j)]? =some (.int .u64 (wd M (qw r (2*j)))):=qC hM s0;have hy:(qi .u64 M)[qw r (2*j+1)]? =some (.int .u64 (wd M (qw r (2*j+1)))):=qC hM s1;have HX:=hid hx;have HY:=hid hy;obtain⟨L,ar⟩:=Ex (mixBig.turns L0 M r j);rw[ar]at al V HG aj aa;obtain⟨Y,aD⟩:=Ex (mixBig.step L (plA j) (plB j) (plC j) (plD j) (wd M (qw r (2*j))) (wd M (qw r (2*j+1))));rw[aD]at HG aj aa;obtain⟨mx,aw⟩:=Ex (wd M (qw r (2*j)));obtain⟨my,aB⟩:=Ex (wd M (qw r (2*j+1)));rw[aw]at HX HG;rw[aB]at HY HG;have HP:=hid (qcW j av);have aS:IntKind.i64.wrap (2*(j:Int))=((2*j:Nat):Int):=by rw[IntKind.wrap_i64];omega
   have aP:IntKind.i64.wrap (((2*j:Nat):Int)+1)=((2*j+1:Nat):Int):=by rw[IntKind.wrap_i64];omega
   clear ar aD aw aB hx hy p1 p2 p3 p4 p5 p6 p7 p8 p9 ay;generalize qw r (2*j)=sx at*;generalize qw r (2*j+1)=sy at*;generalize 2*j+1=k3 at*;generalize 2*j=k2 at*;generalize plA j=pa at*;generalize plB j=pb at*;generalize plC j=pc at*;generalize plD j=pd at*;go_wp2_with fail
   refine(HP.out _).mono ?_;rintro e2 w2 ⟨rfl,ab⟩;have aC:=(ab.block O (by omega)).trans al.out;have an:=(ab.block (O+1) (by omega)).trans ((ad.out.block (O+1) (by omega) (by omega)).trans HM.out);have ao:=ad.out.trans (But.of_below ab);have aE:=ab.size;clear ab;go_wp2_with fail
   refine qm ?_;intro Wp Z;obtain⟨U,ah⟩:=Ex w2.heap.size;have ap:Wp.heap[O]? =some (.cells (qi .u64 L) 252 (0,0)):=by rw[Z];exact(Bh _ _ _ (by omega)).trans aC
   have ai:Wp.heap[O+1]? =some (.cells (qi .u64 M) 252 (0,0)):=by rw[Z];exact(Bh _ _ _ (by omega)).trans an
   have am:Wp.heap[U]? =some (.cells #[.int .i64 pa,.int .i64 pb,.int .i64 pc,.int .i64 pd] 330 (0,0)):=by rw[Z];exact qe _ _ ah.symm
   have az:But O W Wp:=by rw[Z];exact ao.alloc _
   have ag:U<Wp.heap.size:=(Ai am).1;have au:O+1<Wp.heap.size:=(Ai ai).1;have af:U≠O:=by omega
   rw[ah];have aI:=hid ap;have aq:=hid ai;have ae:=hid am;have aL:=hid az;clear Z aC an ao aE ah ap ai am az;refine ZB (s:=26) (ds:=[24,25,26,27,28,29,30,31,32,33,34,35,36,37,38,39,40,41,42,43,44,45,46,23,47,48]) (R:=RS O 252 (qi .u64 L) Wp) (Good:=YX 26 O 252 (qi .u64 Y) [.agg (qi .u64 L),.pointer (some ⟨U,0,none⟩),.int .i64 pa,.pointer (some ⟨U,1,none⟩),.int .i64 pb,.pointer (some ⟨U,2,none⟩),.int .i64 pc,.pointer (some ⟨U,3,none⟩),.int .i64 pd,.int .i64 r,.int .i64 j,.int .i64 k2,.int .i64 sx,.pointer (some ⟨O+1,sx,none⟩),.int .u64 mx,.int .i64 r,.int .i64 j,.int .i64 k2,.int .i64 k3,.int .i64 sy,.pointer (some ⟨O+1,sy,none⟩),.int .u64 my,.tuple #[.agg (qi .u64 Y),.int .i64 0],.tuple #[.agg (qi .u64 Y),.int .i64 0],.agg (qi .u64 Y),.int .i64 0]) rfl (by decide) (by kernel_rfl) (by kernel_rfl) ?_ ?_ ?_ ?_
   case refine_1=>exact⟨(But.refl O Wp).trans (But.of_below Br.drew),fun _=>aI.out⟩
   case refine_2=>
    refine Zs (p:=_) ?_;refine qh ?_ (qh ?_ (qh ?_ (qh ?_ (qh ?_ (qh ?_ (qh ?_ (qh ?_ (qh ?_ (qh ?_ (qh ?_ (qh ?_ (qh ?_ (qh ?_ (qh ?_ (qh ?_ (qh ?_ (qh ?_ (qh ?_ (qh ?_ (qh ?_ (qh ?_ (qh ?_ (qh ?_ (qh ?_ (qh ?_ (qh ?_ (jB)))))))))))))))))))))))))))
    ·intro f x W' I D q K G;clear q;have X:=I.2 (D (by kernel_rfl));simp only[lay,Act.put,Ls]at G⊢;rw[if_pos (Zc rfl)];refine wp_load_row 252 _ rfl O rfl _ _ _ _ X Tryz.underlying252 rfl (by rw[qf,V.1];kernel_rfl) ?_;exact G _ _ (I.same Qo) (fun _ _ _ h=>h) rfl
    ·intro f x W' I D q K G;clear q;clear D;simp only[lay,Act.put,Ls]at G⊢;go_simp
     exact G _ _ (I.same Qo) (fun _ _ _ h=>h) rfl
    ·intro f x W' I D q K G;have J:x 25= .pointer (some ⟨U,0,none⟩):=q ⟨1,.data⟩ (by simp) rfl _ rfl;clear q;have cP:=(qO ((I.1.block U ag af).trans ae.out)).1;clear D;simp only[lay,Act.put,Ls,J]at G⊢;go_simp
     exact G _ _ (I.same Qo) (fun _ _ _ h=>h) rfl
    ·intro f x W' I D q K G;clear q;clear D;simp only[lay,Act.put,Ls]at G⊢;go_simp
     exact G _ _ (I.same Qo) (fun _ _ _ h=>h) rfl
    ·intro f x W' I D q K G;have J:x 27= .pointer (some ⟨U,1,none⟩):=q ⟨3,.data⟩ (by simp) rfl _ rfl;clear q;have cP:=(qO ((I.1.block U ag af).trans ae.out)).1;clear D;simp only[lay,Act.put,Ls,J]at G⊢;go_simp
     exact G _ _ (I.same Qo) (fun _ _ _ h=>h) rfl
    ·intro f x W' I D q K G;clear q;clear D;simp only[lay,Act.put,Ls]at G⊢;go_simp
     exact G _ _ (I.same Qo) (fun _ _ _ h=>h) rfl
    ·intro f x W' I D q K G;have J:x 29= .pointer (some ⟨U,2,none⟩):=q ⟨5,.data⟩ (by simp) rfl _ rfl;clear q;have cP:=(qO ((I.1.block U ag af).trans ae.out)).1;clear D;simp only[lay,Act.put,Ls,J]at G⊢;go_simp
     exact G _ _ (I.same Qo) (fun _ _ _ h=>h) rfl
    ·intro f x W' I D q K G;clear q;clear D;simp only[lay,Act.put,Ls]at G⊢;go_simp
     exact G _ _ (I.same Qo) (fun _ _ _ h=>h) rfl
    ·intro f x W' I D q K G;have J:x 31= .pointer (some ⟨U,3,none⟩):=q ⟨7,.data⟩ (by simp) rfl _ rfl;clear q;have cP:=(qO ((I.1.block U ag af).trans ae.out)).1;clear D;simp only[lay,Act.put,Ls,J]at G⊢;go_simp
     exact G _ _ (I.same Qo) (fun _ _ _ h=>h) rfl
    ·intro f x W' I D q K G;clear q;clear D;simp only[lay,Act.put,Ls]at G⊢;go_simp
     exact G _ _ (I.same Qo) (fun _ _ _ h=>h) rfl
    ·intro f x W' I D q K G;clear q;clear D;simp only[lay,Act.put,Ls]at G⊢;go_simp
     exact G _ _ (I.same Qo) (fun _ _ _ h=>h) rfl
    ·intro f x W' I D q K G;have J:x 34= .int .i64 j:=q ⟨10,.data⟩ (by simp) rfl _ rfl;clear q;clear D;simp only[lay,Act.put,Ls,J]at G⊢;go_simp
     exact G _ _ (I.same Qo) (fun _ _ _ h=>h) rfl
    ·intro f x W' I D q K G;have J:x 33= .int .i64 r:=q ⟨9,.data⟩ (by simp) rfl _ rfl;have g1:x 35= .int .i64 k2:=q ⟨11,.data⟩ (by simp) rfl _ rfl;clear q;clear D;simp only[lay,Act.put,Ls,J,g1]at G⊢;go_simp
     refine(aN.out W').mono ?_;rintro e4 w4 ⟨rfl,rfl⟩
     exact G _ _ (I.same Qo) (fun _ _ _ h=>h) rfl
    ·intro f x W' I D q K G;have J:x 36= .int .i64 sx:=q ⟨12,.data⟩ (by simp) rfl _ rfl;clear q;clear D;simp only[lay,Act.put,Ls,J]at G⊢;go_simp
     exact G _ _ (I.same Qo) (fun _ _ _ h=>h) rfl
    ·intro f x W' I D q K G;have J:x 37= .pointer (some ⟨O+1,sx,none⟩):=q ⟨13,.data⟩ (by simp) rfl _ rfl;clear q;have cM:=(qs ((I.1.block (O+1) au (by omega)).trans aq.out) sx).trans HX.out;clear D;simp only[lay,Act.put,Ls,J]at G⊢;go_simp
     exact G _ _ (I.same Qo) (fun _ _ _ h=>h) rfl
    ·intro f x W' I D q K G;clear q;clear D;simp only[lay,Act.put,Ls]at G⊢;go_simp
     exact G _ _ (I.same Qo) (fun _ _ _ h=>h) rfl
    ·intro f x W' I D q K G;clear q;clear D;simp only[lay,Act.put,Ls]at G⊢;go_simp
     exact G _ _ (I.same Qo) (fun _ _ _ h=>h) rfl
    ·intro f x W' I D q K G;have J:x 40= .int .i64 j:=q ⟨16,.data⟩ (by simp) rfl _ rfl;clear q;clear D;simp only[lay,Act.put,Ls,J]at G⊢;go_simp
     exact G _ _ (I.same Qo) (fun _ _ _ h=>h) rfl
    ·intro f x W' I D q K G;have J:x 41= .int .i64 k2:=q ⟨17,.data⟩ (by simp) rfl _ rfl;clear q;clear D;simp only[lay,Act.put,Ls,J]at G⊢;go_simp
     exact G _ _ (I.same Qo) (fun _ _ _ h=>h) rfl
    ·intro f x W' I D q K G;have J:x 39= .int .i64 r:=q ⟨15,.data⟩ (by simp) rfl _ rfl;have g1:x 42= .int .i64 k3:=q ⟨18,.data⟩ (by simp) rfl _ rfl;clear q;clear D;simp only[lay,Act.put,Ls,J,g1]at G⊢;go_simp
     refine(aJ.out W').mono ?_;rintro e4 w4 ⟨rfl,rfl⟩
     exact G _ _ (I.same Qo) (fun _ _ _ h=>h) rfl
    ·intro f x W' I D q K G;have J:x 43= .int .i64 sy:=q ⟨19,.data⟩ (by simp) rfl _ rfl;clear q;clear D;simp only[lay,Act.put,Ls,J]at G⊢;go_simp
     exact G _ _ (I.same Qo) (fun _ _ _ h=>h) rfl
    ·intro f x W' I D q K G;have J:x 44= .pointer (some ⟨O+1,sy,none⟩):=q ⟨20,.data⟩ (by simp) rfl _ rfl;clear q;have cM:=(qs ((I.1.block (O+1) au (by omega)).trans aq.out) sy).trans HY.out;clear D;simp only[lay,Act.put,Ls,J]at G⊢;go_simp
     exact G _ _ (I.same Qo) (fun _ _ _ h=>h) rfl
    ·intro f x W' I D q K G;have J:x 24= .agg (qi .u64 L):=q ⟨0,.data⟩ (by simp) rfl _ rfl;have g1:x 26= .int .i64 pa:=q ⟨2,.data⟩ (by simp) rfl _ rfl;have g2:x 28= .int .i64 pb:=q ⟨4,.data⟩ (by simp) rfl _ rfl;have g3:x 30= .int .i64 pc:=q ⟨6,.data⟩ (by simp) rfl _ rfl;have g4:x 32= .int .i64 pd:=q ⟨8,.data⟩ (by simp) rfl _ rfl;have g5:x 38= .int .u64 mx:=q ⟨14,.data⟩ (by simp) rfl _ rfl;have g6:x 45= .int .u64 my:=q ⟨21,.data⟩ (by simp) rfl _ rfl;clear q;clear D;simp only[lay,Act.put,Ls,J,g1,g2,g3,g4,g5,g6]at G⊢;go_simp
     refine(HG.out W').mono ?_;rintro e4 w4 ⟨rfl,aA⟩
     exact G _ _ (I.next aA Qo) (qaB _ aA _) rfl
    ·intro f x W' I D q K G;have J:x 46= .tuple #[.agg (qi .u64 Y),.int .i64 0]:=q ⟨22,.data⟩ (by simp) rfl _ rfl;clear q;clear D;simp only[lay,Act.put,Ls,J]at G⊢;go_simp
     exact G _ _ (I.same Qo) (fun _ _ _ h=>h) rfl
    ·intro f x W' I D q K G;have J:x 23= .tuple #[.agg (qi .u64 Y),.int .i64 0]:=q ⟨23,.data⟩ (by simp) rfl _ rfl;clear q;clear D;simp only[lay,Act.put,Ls,J]at G⊢;go_simp
     exact G _ _ (I.same Qo) (fun _ _ _ h=>h) rfl
    ·intro f x W' I D q K G;have J:x 23= .tuple #[.agg (qi .u64 Y),.int .i64 0]:=q ⟨23,.data⟩ (by simp) rfl _ rfl;clear q;clear D;simp only[lay,Act.put,Ls,J]at G⊢;go_simp
     exact G _ _ (I.same Qo) (fun _ _ _ h=>h) rfl
    ·intro f x W' I D q K G;have J:x 47= .agg (qi .u64 Y):=q ⟨24,.data⟩ (by simp) rfl _ rfl;clear q;have X:=I.2 (D (by kernel_rfl));simp only[lay,Act.put,Ls,J]at G⊢;rw[if_pos (Zc rfl)];refine wp_store_row 252 _ _ rfl O (qi .u64 Y) rfl rfl _ _ X (by rw[qf,aa.1];kernel_rfl) (by simp only[qf,aa.1,V.1]) qA ?_;exact G undef _ ⟨I.1.setRow _,fun e=>by simp at e⟩ (qaA _) (qaz (setRow_heap _ _ _ _ _ _ X))
   case refine_3=>
    refine Zs (p:=fun i (o:Oper)=> ∀v W,o.dst=none→YX 26 O 252 (qi .u64 Y) _ i v W→YX 26 O 252 (qi .u64 Y) _ i undef W) ?_|>fun h i o v W hi=>h i o hi v W
    refine qh ?_ (qh ?_ (qh ?_ (qh ?_ (qh ?_ (qh ?_ (qh ?_ (qh ?_ (qh ?_ (qh ?_ (qh ?_ (qh ?_ (qh ?_ (qh ?_ (qh ?_ (qh ?_ (qh ?_ (qh ?_ (qh ?_ (qh ?_ (qh ?_ (qh ?_ (qh ?_ (qh ?_ (qh ?_ (qh ?_ (qh ?_ (jB)))))))))))))))))))))))))));all_goals first|(intro v W h;cases h;done)|exact fun v W _ h=>qcA rfl v W h
   case refine_4=>
    intro f x W' I hG;have hS:qbL W' O 252 (qi .u64 Y):=hG 26 _ rfl;have aH:=hid hS;have aF:=hid (aL.out.trans I.1);clear hS I hG;simp only[lay,Act.put,Ls];go_wp2
    exact⟨⟨j+1,rfl,by omega,by rw[aj.out];exact aH.out,aF.out⟩,by simp[intOf];omega⟩
  ·obtain rfl:j=8:=by omega
   have V:=qF QG ak (M:=M) r 8;have HL:=hid (show Ending.returned (.tuple #[.agg (qi .u64 (mixBig.turns L0 M r 8)),.int .i64 0])= .returned (.tuple #[.agg (qi .u64 (mixBig.round L0 M r)),.int .i64 0]) from rfl);have ax:=(ad.out.block (O+1+1) aK (by omega)).trans HR.out;have aM:=hid (HB.out.trans (ad.out.below (by omega) HB.out.size));generalize mixBig.turns L0 M r 8=L at*;go_upto_region 8 with(fail)
   apply wp_region_lit
   refine wpList_load_row rfl 252 _ rfl O rfl _ _ _ _ al.out Tryz.underlying252 rfl (by rw[qf,V.1];kernel_rfl) ?_;refine wpList_store_row rfl 252 _ _ rfl (O+1+1) (qi .u64 L) rfl rfl 252 _ ax (by rw[qf,V.1];kernel_rfl) (by rw[qf,V.1];rfl) qA ?_;simp only[Act.put,Ls];go_wp2_with fail
   exact Bp (qE rfl _ _ _ _ _ _ _ rfl (setRow_heap _ _ _ _ _ _ ax) Tryz.underlying252 rfl (by rw[qf,V.1];kernel_rfl)) rfl ⟨Eq.trans (b:= .returned (.tuple #[.agg (qi .u64 L),.int .i64 0])) rfl HL.out,below_setRow (aM.out.mono (by omega)) (by omega) _⟩
theorem qe7 (L0 M:List Int)(ae:Words 32 16 L0)(hM:Words 32 16 M)(r:Nat)(hr:r≤9)(w:World):
  Calls Tryz.prog 212 #[.agg (qi .u32 L0),.agg (qi .u32 M),.int .i64 r] w fun e w'=>e= .returned (.tuple #[.agg (qi .u32 (mixSmall.round L0 M r)),.int .i64 0])∧Below w.heap.size w w':=by
 obtain⟨J,aw⟩:=Ex w.heap.size;have aG: ¬((r:Int)<0):=by omega
 have aF: ¬(9<(r:Int)):=by omega
 have HS:=hid (fun i (hi:i<16)=>qan r i (by omega) hi);go_enter Tryz.func212,Tryz.ntmps212
 go_wp2_with fail
 refine qm ?_;intro W hW;have hv:W.heap[J]? =some (.cells (qi .u32 L0) 298 (0,0)):=by
  rw[hW];exact(Bh _ _ _ (by simp;omega)).trans ((Bh _ _ _ (by simp;omega)).trans (qe _ _ aw.symm))
 have hm:W.heap[J+1]? =some (.cells (qi .u32 M) 298 (0,0)):=by
  rw[hW];exact(Bh _ _ _ (by simp;omega)).trans (qe _ _ (by simp;omega))
 have Z:W.heap[J+1+1]? =some (.cells #[.int .u32 0,.int .u32 0,.int .u32 0,.int .u32 0,.int .u32 0,.int .u32 0,.int .u32 0,.int .u32 0,.int .u32 0,.int .u32 0,.int .u32 0,.int .u32 0,.int .u32 0,.int .u32 0,.int .u32 0,.int .u32 0] 298 (0,0)):=by
  rw[hW];exact qe _ _ (by simp;omega)
 have hB:Below w.heap.size w W:=by
  rw[hW];exact(((Below.refl w.heap.size w).alloc Nl _).alloc (by simp) _).alloc (by simp;omega) _
 have aA:J+1+1<W.heap.size:=(Ai Z).1;clear hW;have HV:=hid hv;have HM:=hid hm;have HR:=hid Z;have HB:=hid hB;clear hv hm Z hB;go_loopw [8] (fun i wr=> ∃j:Nat,i= .int .i64 j∧j≤8∧wr.heap[J]? =some (.cells (qi .u32 (mixSmall.turns L0 M r j)) 298 (0,0))∧But J W wr) (fun i _=>8 - (intOf i).toNat)
 case atStart=>exact⟨0,rfl,Nat.zero_le _,HV.out,But.refl _ _⟩
 case round=>
  obtain⟨j,rfl,hj,hv,hB⟩:=hrel;have af:=hid hv;have ab:=hid hB;have aD:=hB.size;clear hv hB;by_cases ak:j<8
  ·have U:=qF Ql ae (M:=M) r j;have V:mixSmall.turns L0 M r (j+1)=mixSmall.step (mixSmall.turns L0 M r j) (plA j) (plB j) (plC j) (plD j) (wd M (qw r (2*j))) (wd M (qw r (2*j+1))):=rfl;have ad:=hid V;have Y:=qF Ql ae (M:=M) r (j+1);rw[V]at Y;clear V;obtain⟨p1,p2,p3,p4,p5,p6,p7,p8,p9,am⟩:=qdZ j ak;have HG:=hid (fun W=>qiQ (mixSmall.turns L0 M r j) U (plA j) (plB j) (plC j) (plD j) p1 p2 p3 p4 p5 p6 p7 p8 p9 am (wd M (qw r (2*j))) (wd M (qw r (2*j+1))) W);have au:=hid (HS.out (2*j) (by omega));have az:=hid (HS.out (2*j+1) (by omega));have s0:=qR r (2*j);have s1:=qR r (2*j+1);have t0:((qw r (2*j):Nat):Int)<16:=by omega
   have t1:((qw r (2*j+1):Nat):Int)<16:=by omega
   have hx:(qi .u32 M)[qw r (2*j)]? =some (.int .u32 (wd M (qw r (2*j)))):=qC hM s0;have hy:(qi .u32 M)[qw r (2*j+1)]? =some (.int .u32 (wd M (qw r (2*j+1)))):=qC hM s1;have HX:=hid hx;have HY:=hid hy;obtain⟨L,ai⟩:=Ex (mixSmall.turns L0 M r j);rw[ai]at af U HG ad Y;obtain⟨X,ar⟩:=Ex (mixSmall.step L (plA j) (plB j) (plC j) (plD j) (wd M (qw r (2*j))) (wd M (qw r (2*j+1))));rw[ar]at HG ad Y;obtain⟨mx,aq⟩:=Ex (wd M (qw r (2*j)));obtain⟨my,ap⟩:=Ex (wd M (qw r (2*j+1)));rw[aq]at HX HG;rw[ap]at HY HG;have HP:=hid (qiz j ak);have aH:IntKind.i64.wrap (2*(j:Int))=((2*j:Nat):Int):=by rw[IntKind.wrap_i64];omega
   have aE:IntKind.i64.wrap (((2*j:Nat):Int)+1)=((2*j+1:Nat):Int):=by rw[IntKind.wrap_i64];omega
   clear ai ar aq ap hx hy p1 p2 p3 p4 p5 p6 p7 p8 p9 am;generalize qw r (2*j)=sx at*;generalize qw r (2*j+1)=sy at*;generalize 2*j+1=k3 at*;generalize 2*j=k2 at*;generalize plA j=pa at*;generalize plB j=pb at*;generalize plC j=pc at*;generalize plD j=pd at*;go_wp2_with fail
   refine(HP.out _).mono ?_;rintro e2 w2 ⟨rfl,rfl⟩;go_wp2_with fail
   refine qm ?_;intro Wp aa;have ag:Wp.heap[J]? =some (.cells (qi .u32 L) 298 (0,0)):=by rw[aa];exact af.out
   have ac:Wp.heap[J+1]? =some (.cells (qi .u32 M) 298 (0,0)):=by rw[aa];exact(ab.out.block (J+1) (by omega) (by omega)).trans HM.out
   have an:But J W Wp:=by rw[aa];exact ab.out
   have aj:J+1<Wp.heap.size:=(Ai ac).1;have ay:=hid ag;have ah:=hid ac;have aB:=hid an;clear aa ag ac an;refine ZB (s:=22) (ds:=[32,33,34,35,36,37,38,39,40,41,42,43,44,45,46,47,48,49,50,31,51,52]) (R:=RS J 298 (qi .u32 L) Wp) (Good:=YX 22 J 298 (qi .u32 X) [.agg (qi .u32 L),.int .i64 pa,.int .i64 pb,.int .i64 pc,.int .i64 pd,.int .i64 r,.int .i64 j,.int .i64 k2,.int .i64 sx,.pointer (some ⟨J+1,sx,none⟩),.int .u32 mx,.int .i64 r,.int .i64 j,.int .i64 k2,.int .i64 k3,.int .i64 sy,.pointer (some ⟨J+1,sy,none⟩),.int .u32 my,.tuple #[.agg (qi .u32 X),.int .i64 0],.tuple #[.agg (qi .u32 X),.int .i64 0],.agg (qi .u32 X),.int .i64 0]) rfl (by decide) (by kernel_rfl) (by kernel_rfl) ?_ ?_ ?_ ?_
   case refine_1=>exact⟨(But.refl J Wp).trans (But.of_below Br.drew),fun _=>ay.out⟩
   case refine_2=>
    refine Zs (p:=_) ?_;refine qh ?_ (qh ?_ (qh ?_ (qh ?_ (qh ?_ (qh ?_ (qh ?_ (qh ?_ (qh ?_ (qh ?_ (qh ?_ (qh ?_ (qh ?_ (qh ?_ (qh ?_ (qh ?_ (qh ?_ (qh ?_ (qh ?_ (qh ?_ (qh ?_ (qh ?_ (qh ?_ (jB)))))))))))))))))))))))
    ·intro f x W' I D q K G;clear q;have V:=I.2 (D (by kernel_rfl));simp only[lay,Act.put,Ls]at G⊢;rw[if_pos (Zc rfl)];refine wp_load_row 298 _ rfl J rfl _ _ _ _ V Tryz.underlying298 rfl (by rw[qf,U.1];kernel_rfl) ?_;exact G _ _ (I.same Qo) (fun _ _ _ h=>h) rfl
    ·intro f x W' I D q K G;clear q;clear D;simp only[lay,Act.put,Ls]at G⊢;go_simp
     exact G _ _ (I.same Qo) (fun _ _ _ h=>h) rfl
    ·intro f x W' I D q K G;clear q;clear D;simp only[lay,Act.put,Ls]at G⊢;go_simp
     exact G _ _ (I.same Qo) (fun _ _ _ h=>h) rfl
    ·intro f x W' I D q K G;clear q;clear D;simp only[lay,Act.put,Ls]at G⊢;go_simp
     exact G _ _ (I.same Qo) (fun _ _ _ h=>h) rfl
    ·intro f x W' I D q K G;clear q;clear D;simp only[lay,Act.put,Ls]at G⊢;go_simp
     exact G _ _ (I.same Qo) (fun _ _ _ h=>h) rfl
    ·intro f x W' I D q K G;clear q;clear D;simp only[lay,Act.put,Ls]at G⊢;go_simp
     exact G _ _ (I.same Qo) (fun _ _ _ h=>h) rfl
    ·intro f x W' I D q K G;clear q;clear D;simp only[lay,Act.put,Ls]at G⊢;go_simp
     exact G _ _ (I.same Qo) (fun _ _ _ h=>h) rfl
    ·intro f x W' I D q K G;have O:x 38= .int .i64 j:=q ⟨6,.data⟩ (by simp) rfl _ rfl;clear q;clear D;simp only[lay,Act.put,Ls,O]at G⊢;go_simp
     exact G _ _ (I.same Qo) (fun _ _ _ h=>h) rfl
    ·intro f x W' I D q K G;have O:x 37= .int .i64 r:=q ⟨5,.data⟩ (by simp) rfl _ rfl;have g1:x 39= .int .i64 k2:=q ⟨7,.data⟩ (by simp) rfl _ rfl;clear q;clear D;simp only[lay,Act.put,Ls,O,g1]at G⊢;go_simp
     refine(au.out W').mono ?_;rintro e4 w4 ⟨rfl,rfl⟩
     exact G _ _ (I.same Qo) (fun _ _ _ h=>h) rfl
    ·intro f x W' I D q K G;have O:x 40= .int .i64 sx:=q ⟨8,.data⟩ (by simp) rfl _ rfl;clear q;clear D;simp only[lay,Act.put,Ls,O]at G⊢;go_simp
     exact G _ _ (I.same Qo) (fun _ _ _ h=>h) rfl
    ·intro f x W' I D q K G;have O:x 41= .pointer (some ⟨J+1,sx,none⟩):=q ⟨9,.data⟩ (by simp) rfl _ rfl;clear q;have cM:=(qs ((I.1.block (J+1) aj (by omega)).trans ah.out) sx).trans HX.out;clear D;simp only[lay,Act.put,Ls,O]at G⊢;go_simp
     exact G _ _ (I.same Qo) (fun _ _ _ h=>h) rfl
    ·intro f x W' I D q K G;clear q;clear D;simp only[lay,Act.put,Ls]at G⊢;go_simp
     exact G _ _ (I.same Qo) (fun _ _ _ h=>h) rfl
    ·intro f x W' I D q K G;clear q;clear D;simp only[lay,Act.put,Ls]at G⊢;go_simp
     exact G _ _ (I.same Qo) (fun _ _ _ h=>h) rfl
    ·intro f x W' I D q K G;have O:x 44= .int .i64 j:=q ⟨12,.data⟩ (by simp) rfl _ rfl;clear q;clear D;simp only[lay,Act.put,Ls,O]at G⊢;go_simp
     exact G _ _ (I.same Qo) (fun _ _ _ h=>h) rfl
    ·intro f x W' I D q K G;have O:x 45= .int .i64 k2:=q ⟨13,.data⟩ (by simp) rfl _ rfl;clear q;clear D;simp only[lay,Act.put,Ls,O]at G⊢;go_simp
     exact G _ _ (I.same Qo) (fun _ _ _ h=>h) rfl
    ·intro f x W' I D q K G;have O:x 43= .int .i64 r:=q ⟨11,.data⟩ (by simp) rfl _ rfl;have g1:x 46= .int .i64 k3:=q ⟨14,.data⟩ (by simp) rfl _ rfl;clear q;clear D;simp only[lay,Act.put,Ls,O,g1]at G⊢;go_simp
     refine(az.out W').mono ?_;rintro e4 w4 ⟨rfl,rfl⟩
     exact G _ _ (I.same Qo) (fun _ _ _ h=>h) rfl
    ·intro f x W' I D q K G;have O:x 47= .int .i64 sy:=q ⟨15,.data⟩ (by simp) rfl _ rfl;clear q;clear D;simp only[lay,Act.put,Ls,O]at G⊢;go_simp
     exact G _ _ (I.same Qo) (fun _ _ _ h=>h) rfl
    ·intro f x W' I D q K G;have O:x 48= .pointer (some ⟨J+1,sy,none⟩):=q ⟨16,.data⟩ (by simp) rfl _ rfl;clear q;have cM:=(qs ((I.1.block (J+1) aj (by omega)).trans ah.out) sy).trans HY.out;clear D;simp only[lay,Act.put,Ls,O]at G⊢;go_simp
     exact G _ _ (I.same Qo) (fun _ _ _ h=>h) rfl
    ·intro f x W' I D q K G;have O:x 32= .agg (qi .u32 L):=q ⟨0,.data⟩ (by simp) rfl _ rfl;have g1:x 33= .int .i64 pa:=q ⟨1,.data⟩ (by simp) rfl _ rfl;have g2:x 34= .int .i64 pb:=q ⟨2,.data⟩ (by simp) rfl _ rfl;have g3:x 35= .int .i64 pc:=q ⟨3,.data⟩ (by simp) rfl _ rfl;have g4:x 36= .int .i64 pd:=q ⟨4,.data⟩ (by simp) rfl _ rfl;have g5:x 42= .int .u32 mx:=q ⟨10,.data⟩ (by simp) rfl _ rfl;have g6:x 49= .int .u32 my:=q ⟨17,.data⟩ (by simp) rfl _ rfl;clear q;clear D;simp only[lay,Act.put,Ls,O,g1,g2,g3,g4,g5,g6]at G⊢;go_simp
     refine(HG.out W').mono ?_;rintro e4 w4 ⟨rfl,ao⟩
     exact G _ _ (I.next ao Qo) (qaB _ ao _) rfl
    ·intro f x W' I D q K G;have O:x 50= .tuple #[.agg (qi .u32 X),.int .i64 0]:=q ⟨18,.data⟩ (by simp) rfl _ rfl;clear q;clear D;simp only[lay,Act.put,Ls,O]at G⊢;go_simp
     exact G _ _ (I.same Qo) (fun _ _ _ h=>h) rfl
    ·intro f x W' I D q K G;have O:x 31= .tuple #[.agg (qi .u32 X),.int .i64 0]:=q ⟨19,.data⟩ (by simp) rfl _ rfl;clear q;clear D;simp only[lay,Act.put,Ls,O]at G⊢;go_simp
     exact G _ _ (I.same Qo) (fun _ _ _ h=>h) rfl
    ·intro f x W' I D q K G;have O:x 31= .tuple #[.agg (qi .u32 X),.int .i64 0]:=q ⟨19,.data⟩ (by simp) rfl _ rfl;clear q;clear D;simp only[lay,Act.put,Ls,O]at G⊢;go_simp
     exact G _ _ (I.same Qo) (fun _ _ _ h=>h) rfl
    ·intro f x W' I D q K G;have O:x 51= .agg (qi .u32 X):=q ⟨20,.data⟩ (by simp) rfl _ rfl;clear q;have V:=I.2 (D (by kernel_rfl));simp only[lay,Act.put,Ls,O]at G⊢;rw[if_pos (Zc rfl)];refine wp_store_row 298 _ _ rfl J (qi .u32 X) rfl rfl _ _ V (by rw[qf,Y.1];kernel_rfl) (by simp only[qf,Y.1,U.1]) qA ?_;exact G undef _ ⟨I.1.setRow _,fun e=>by simp at e⟩ (qaA _) (qaz (setRow_heap _ _ _ _ _ _ V))
   case refine_3=>
    refine Zs (p:=fun i (o:Oper)=> ∀v W,o.dst=none→YX 22 J 298 (qi .u32 X) _ i v W→YX 22 J 298 (qi .u32 X) _ i undef W) ?_|>fun h i o v W hi=>h i o hi v W
    refine qh ?_ (qh ?_ (qh ?_ (qh ?_ (qh ?_ (qh ?_ (qh ?_ (qh ?_ (qh ?_ (qh ?_ (qh ?_ (qh ?_ (qh ?_ (qh ?_ (qh ?_ (qh ?_ (qh ?_ (qh ?_ (qh ?_ (qh ?_ (qh ?_ (qh ?_ (qh ?_ (jB)))))))))))))))))))))));all_goals first|(intro v W h;cases h;done)|exact fun v W _ h=>qcA rfl v W h
   case refine_4=>
    intro f x W' I hG;have hS:qbL W' J 298 (qi .u32 X):=hG 22 _ rfl;have ax:=hid hS;have av:=hid (aB.out.trans I.1);clear hS I hG;simp only[lay,Act.put,Ls];go_wp2
    exact⟨⟨j+1,rfl,by omega,by rw[ad.out];exact ax.out,av.out⟩,by simp[intOf];omega⟩
  ·obtain rfl:j=8:=by omega
   have U:=qF Ql ae (M:=M) r 8;have HL:=hid (show Ending.returned (.tuple #[.agg (qi .u32 (mixSmall.turns L0 M r 8)),.int .i64 0])= .returned (.tuple #[.agg (qi .u32 (mixSmall.round L0 M r)),.int .i64 0]) from rfl);have al:=(ab.out.block (J+1+1) aA (by omega)).trans HR.out;have aC:=hid (HB.out.trans (ab.out.below (by omega) HB.out.size));generalize mixSmall.turns L0 M r 8=L at*;go_upto_region 8 with(fail)
   apply wp_region_lit
   refine wpList_load_row rfl 298 _ rfl J rfl _ _ _ _ af.out Tryz.underlying298 rfl (by rw[qf,U.1];kernel_rfl) ?_;refine wpList_store_row rfl 298 _ _ rfl (J+1+1) (qi .u32 L) rfl rfl 298 _ al (by rw[qf,U.1];kernel_rfl) (by rw[qf,U.1];rfl) qA ?_;simp only[Act.put,Ls];go_wp2_with fail
   exact Bp (qE rfl _ _ _ _ _ _ _ rfl (setRow_heap _ _ _ _ _ _ al) Tryz.underlying298 rfl (by rw[qf,U.1];kernel_rfl)) rfl ⟨Eq.trans (b:= .returned (.tuple #[.agg (qi .u32 L),.int .i64 0])) rfl HL.out,below_setRow (aC.out.mono (by omega)) (by omega) _⟩
theorem YN (k:IntKind)(x y:Int):bits .xor k x y=bits .xor k y x:=by simp only[bits,BitVec.xor_comm]
def z6 (h iv:List Int):Nat→List Int
 | 0=>[0,0,0,0,0,0,0,0,0,0,0,0,0,0,0,0]
 | i+1=>((z6 h iv i).set i (wd h i)).set (i+8) (wd iv i)
theorem YA (h o:List Int): ∀i,(z6 h o i).length=16
 | 0=>rfl
 | i+1=>by simp[z6,YA h o i]
theorem yi {k:IntKind}{n:Nat}{L:List Int}(h:L.length=n){i:Nat}(o:i<n):(qi k L)[i]? =some (.int k (wd L i)):=by
 simp[qi,wd,Lg,List.getElem?_eq_getElem (show i<L.length by omega)]
theorem qbh (w:World):Calls Tryz.prog 221 #[] w fun e w'=>e= .returned (.agg #[.int .u32 1779033703,.int .u32 3144134277,.int .u32 1013904242,.int .u32 2773480762,.int .u32 1359893119,.int .u32 2600822924,.int .u32 528734635,.int .u32 1541459225])∧Below w.heap.size w w':=by
 go_enter Tryz.func221,Tryz.ntmps221
 go_wp2
 exact Bp (results_cell_row rfl _ _ _ _ _ _ _ rfl (Wn _ _) Tryz.underlying284 rfl rfl) rfl ⟨rfl,Br.alloc Nl _⟩
theorem qgr (h:List Int)(hh:Words 64 8 h)(Z hi:Int)(aa node:Bool)(w:World):Calls Tryz.prog 208 #[.agg (qi .u64 h),.int .u64 Z,.int .u64 hi,.bool aa,.bool node] w fun e w'=>e= .returned (.agg (qi .u64 (Yw .u64 IVb h Z hi aa node)))∧Below w.heap.size w w':=by
 obtain⟨q,aq⟩:=Ex w.heap.size;go_enter Tryz.func208,Tryz.ntmps208
 go_wp2_with fail
 refine qm ?_;intro W D;have ag:W.heap[q]? =some (.cells (qi .u64 h) 274 (0,0)):=by
  rw[D];exact(Bh _ _ _ (by simp;omega)).trans ((Bh _ _ _ (by simp;omega)).trans (qe _ _ aq.symm))
 have ah:W.heap[q+1]? =some (.cells #[.int .u64 0,.int .u64 0,.int .u64 0,.int .u64 0,.int .u64 0,.int .u64 0,.int .u64 0,.int .u64 0,.int .u64 0,.int .u64 0,.int .u64 0,.int .u64 0,.int .u64 0,.int .u64 0,.int .u64 0,.int .u64 0] 252 (0,0)):=by
  rw[D];exact(Bh _ _ _ (by simp;omega)).trans (qe _ _ (by simp;omega))
 have ad:W.heap[q+1+1]? =some (.cells (qi .u64 (z6 h IVb 0)) 252 (0,0)):=by
  rw[D];exact qe _ _ (by simp;omega)
 have al:Below w.heap.size w W:=by
  rw[D];exact(((Below.refl w.heap.size w).alloc Nl _).alloc (by simp) _).alloc (by simp;omega) _
 have ay:q+1+1<W.heap.size:=(Ai ad).1;clear D;have HH:=hid ag;have O:=hid ah;have U:=hid ad;have J:=hid al;clear ag ah ad al;go_loopw [12] (fun i wr=> ∃j:Nat,i= .int .i64 j∧j≤8∧wr.heap[q+1+1]? =some (.cells (qi .u64 (z6 h IVb j)) 252 (0,0))∧But (q+1+1) W wr) (fun i _=>8 - (intOf i).toNat)
 case atStart=>exact⟨0,rfl,Nat.zero_le _,U.out,But.refl _ _⟩
 case round=>
  obtain⟨j,rfl,hj,hv,hB⟩:=hrel;have ax:=hB.size;have an:=hid hv;have ai:=hid hB;by_cases am:j<8
  ·have c1:wr.cell? ⟨q,j,none⟩=some (.int .u64 (wd h j)):=by
    rw[qs ((hB.block q (by omega) (by omega)).trans HH.out),qC hh am]
   have c2:wr.cell? ⟨q+1+1,j,none⟩=some (.int .u64 (wd (z6 h IVb j) j)):=(qs hv _).trans (yi (YA _ _ _) (by omega));have f2: ∀o,wr.frozen? ⟨q+1+1,o,none⟩=false:=(qO hv).2;have az:IntKind.i64.wrap ((j:Int)+8)=((j+8:Nat):Int):=by rw[IntKind.wrap_i64];omega
   have av:j+8<16:=by omega
   clear hv hB;go_wp2_with fail
   refine(qci j am _).mono ?_;rintro e2 w2 ⟨rfl,ae⟩;have Y:=(ae.block (q+1+1) (by simp;omega)).trans (block_setCell an.out _);rw[Qe]at Y;have au:=hid ((ai.out.set j _).trans (But.of_below (b:=q+1+1) ae));have c3:w2.cell? ⟨q+1+1,j+8,none⟩=some (.int .u64 (wd ((z6 h IVb j).set j (wd h j)) (j+8))):=(qs Y _).trans (yi (n:=16) (by simp[YA]) (by omega));have f3: ∀o,w2.frozen? ⟨q+1+1,o,none⟩=false:=(qO Y).2;have ar:=hid Y;clear Y ae c1 c2 f2;go_wp2
   exact⟨⟨j+1,rfl,by omega,by rw[z6,←Qe];exact block_setCell ar.out _,au.out.set _ _⟩,by simp[intOf];omega⟩
  ·obtain rfl:j=8:=by omega
   have ac:wr.heap[q+1+1]? =some (.cells #[.int .u64 (wd h 0),.int .u64 (wd h 1),.int .u64 (wd h 2),.int .u64 (wd h 3),.int .u64 (wd h 4),.int .u64 (wd h 5),.int .u64 (wd h 6),.int .u64 (wd h 7),.int .u64 7640891576956012808,.int .u64 13503953896175478587,.int .u64 4354685564936845355,.int .u64 11912009170470909681,.int .u64 5840696475078001361,.int .u64 11170449401992604703,.int .u64 2270897969802886507,.int .u64 6620516959819538809] 252 (0,0)):=hv;have aj:=hid ac;have ao:=hid ((hB.block (q+1) (by omega) (by omega)).trans O.out);have ak:=hid (J.out.trans (hB.below (by omega) J.out.size));obtain⟨cv,fv⟩:=qO ac;clear hv hB ac an ai U O J HH;go_upto_region 9 with(fail)
   refine qm ?_;intro W5 D;have ab:W5.heap[q+1+1]? =some (.cells #[.int .u64 (wd h 0),.int .u64 (wd h 1),.int .u64 (wd h 2),.int .u64 (wd h 3),.int .u64 (wd h 4),.int .u64 (wd h 5),.int .u64 (wd h 6),.int .u64 (wd h 7),.int .u64 7640891576956012808,.int .u64 13503953896175478587,.int .u64 4354685564936845355,.int .u64 11912009170470909681,.int .u64 (bits .xor .u64 5840696475078001361 Z),.int .u64 (bits .xor .u64 11170449401992604703 hi),.int .u64 2270897969802886507,.int .u64 6620516959819538809] 252 (0,0)):=by
    rw[D];exact block_setCell (i:=13) (block_setCell (i:=12) aj.out _) _
   have ap:W5.heap[q+1]? =some (.cells #[.int .u64 0,.int .u64 0,.int .u64 0,.int .u64 0,.int .u64 0,.int .u64 0,.int .u64 0,.int .u64 0,.int .u64 0,.int .u64 0,.int .u64 0,.int .u64 0,.int .u64 0,.int .u64 0,.int .u64 0,.int .u64 0] 252 (0,0)):=by
    rw[D];exact(Below.heap_setCell _ _ _ _ (by simp)).trans ((Below.heap_setCell _ _ _ _ (by simp)).trans ao.out)
   have af:Below w.heap.size w W5:=by
    rw[D];exact(ak.out.setCell (by simp;omega) _).setCell (by simp;omega) _
   clear D aj ao ak cv fv;have aw:=(Ai ab).1;obtain⟨cv,fv⟩:=qO ab;have U:=hid ab;have O:=hid ap;have J:=hid af;clear ab ap af
   cases aa<;>cases node
   ·skip
    go_upto_region 13 with(fail)
    refine qm ?_;intro I D;have X:I.heap[q+1+1]? =some (.cells #[.int .u64 (wd h 0),.int .u64 (wd h 1),.int .u64 (wd h 2),.int .u64 (wd h 3),.int .u64 (wd h 4),.int .u64 (wd h 5),.int .u64 (wd h 6),.int .u64 (wd h 7),.int .u64 7640891576956012808,.int .u64 13503953896175478587,.int .u64 4354685564936845355,.int .u64 11912009170470909681,.int .u64 (bits .xor .u64 5840696475078001361 Z),.int .u64 (bits .xor .u64 11170449401992604703 hi),.int .u64 2270897969802886507,.int .u64 6620516959819538809] 252 (0,0)):=by
     rw[D];exact U.out
    have G:I.heap[q+1]? =some (.cells #[.int .u64 0,.int .u64 0,.int .u64 0,.int .u64 0,.int .u64 0,.int .u64 0,.int .u64 0,.int .u64 0,.int .u64 0,.int .u64 0,.int .u64 0,.int .u64 0,.int .u64 0,.int .u64 0,.int .u64 0,.int .u64 0] 252 (0,0)):=by
     rw[D];exact O.out
    have V:Below w.heap.size w I:=by
     rw[D];exact J.out
    clear D U O J cv fv;apply wp_region_lit
    refine wpList_load_row rfl 252 _ rfl (q+1+1) rfl _ _ _ _ X Tryz.underlying252 rfl (by kernel_rfl) ?_;refine wpList_store_row rfl 252 _ _ rfl (q+1) _ rfl rfl 252 _ G (by kernel_rfl) (by kernel_rfl) (by kernel_rfl) ?_;simp only[Act.put,Ls];go_wp2_with fail
    exact Bp (results_cell_row rfl _ _ _ _ _ _ _ rfl (setRow_heap _ _ _ _ _ _ G) Tryz.underlying252 rfl (by kernel_rfl)) rfl ⟨rfl,below_setRow (V.mono (by omega)) (by omega) _⟩
   ·skip
    go_upto_region 13 with(fail)
    refine qm ?_;intro I D;have X:I.heap[q+1+1]? =some (.cells #[.int .u64 (wd h 0),.int .u64 (wd h 1),.int .u64 (wd h 2),.int .u64 (wd h 3),.int .u64 (wd h 4),.int .u64 (wd h 5),.int .u64 (wd h 6),.int .u64 (wd h 7),.int .u64 7640891576956012808,.int .u64 13503953896175478587,.int .u64 4354685564936845355,.int .u64 11912009170470909681,.int .u64 (bits .xor .u64 5840696475078001361 Z),.int .u64 (bits .xor .u64 11170449401992604703 hi),.int .u64 2270897969802886507,.int .u64 (bits .xor .u64 (IntKind.max .u64) 6620516959819538809)] 252 (0,0)):=by
     rw[D];exact(block_setCell (i:=15) U.out _)
    have G:I.heap[q+1]? =some (.cells #[.int .u64 0,.int .u64 0,.int .u64 0,.int .u64 0,.int .u64 0,.int .u64 0,.int .u64 0,.int .u64 0,.int .u64 0,.int .u64 0,.int .u64 0,.int .u64 0,.int .u64 0,.int .u64 0,.int .u64 0,.int .u64 0] 252 (0,0)):=by
     rw[D];exact((Below.heap_setCell _ _ _ _ (by simp)).trans O.out)
    have V:Below w.heap.size w I:=by
     rw[D];exact(J.out.setCell (by simp;omega) _)
    clear D U O J cv fv;apply wp_region_lit
    refine wpList_load_row rfl 252 _ rfl (q+1+1) rfl _ _ _ _ X Tryz.underlying252 rfl (by kernel_rfl) ?_;refine wpList_store_row rfl 252 _ _ rfl (q+1) _ rfl rfl 252 _ G (by kernel_rfl) (by kernel_rfl) (by kernel_rfl) ?_;simp only[Act.put,Ls];go_wp2_with fail
    exact Bp (results_cell_row rfl _ _ _ _ _ _ _ rfl (setRow_heap _ _ _ _ _ _ G) Tryz.underlying252 rfl (by kernel_rfl)) rfl ⟨rfl,below_setRow (V.mono (by omega)) (by omega) _⟩
   ·skip
    go_upto_region 13 with(fail)
    refine qm ?_;intro I D;have X:I.heap[q+1+1]? =some (.cells #[.int .u64 (wd h 0),.int .u64 (wd h 1),.int .u64 (wd h 2),.int .u64 (wd h 3),.int .u64 (wd h 4),.int .u64 (wd h 5),.int .u64 (wd h 6),.int .u64 (wd h 7),.int .u64 7640891576956012808,.int .u64 13503953896175478587,.int .u64 4354685564936845355,.int .u64 11912009170470909681,.int .u64 (bits .xor .u64 5840696475078001361 Z),.int .u64 (bits .xor .u64 11170449401992604703 hi),.int .u64 (bits .xor .u64 (IntKind.max .u64) 2270897969802886507),.int .u64 6620516959819538809] 252 (0,0)):=by
     rw[D];exact(block_setCell (i:=14) U.out _)
    have G:I.heap[q+1]? =some (.cells #[.int .u64 0,.int .u64 0,.int .u64 0,.int .u64 0,.int .u64 0,.int .u64 0,.int .u64 0,.int .u64 0,.int .u64 0,.int .u64 0,.int .u64 0,.int .u64 0,.int .u64 0,.int .u64 0,.int .u64 0,.int .u64 0] 252 (0,0)):=by
     rw[D];exact((Below.heap_setCell _ _ _ _ (by simp)).trans O.out)
    have V:Below w.heap.size w I:=by
     rw[D];exact(J.out.setCell (by simp;omega) _)
    clear D U O J cv fv;apply wp_region_lit
    refine wpList_load_row rfl 252 _ rfl (q+1+1) rfl _ _ _ _ X Tryz.underlying252 rfl (by kernel_rfl) ?_;refine wpList_store_row rfl 252 _ _ rfl (q+1) _ rfl rfl 252 _ G (by kernel_rfl) (by kernel_rfl) (by kernel_rfl) ?_;simp only[Act.put,Ls];go_wp2_with fail
    exact Bp (results_cell_row rfl _ _ _ _ _ _ _ rfl (setRow_heap _ _ _ _ _ _ G) Tryz.underlying252 rfl (by kernel_rfl)) rfl ⟨rfl,below_setRow (V.mono (by omega)) (by omega) _⟩
   ·skip
    go_upto_region 13 with(fail)
    refine qm ?_;intro I D;have X:I.heap[q+1+1]? =some (.cells #[.int .u64 (wd h 0),.int .u64 (wd h 1),.int .u64 (wd h 2),.int .u64 (wd h 3),.int .u64 (wd h 4),.int .u64 (wd h 5),.int .u64 (wd h 6),.int .u64 (wd h 7),.int .u64 7640891576956012808,.int .u64 13503953896175478587,.int .u64 4354685564936845355,.int .u64 11912009170470909681,.int .u64 (bits .xor .u64 5840696475078001361 Z),.int .u64 (bits .xor .u64 11170449401992604703 hi),.int .u64 (bits .xor .u64 (IntKind.max .u64) 2270897969802886507),.int .u64 (bits .xor .u64 (IntKind.max .u64) 6620516959819538809)] 252 (0,0)):=by
     rw[D];exact(block_setCell (i:=15) (block_setCell (i:=14) U.out _) _)
    have G:I.heap[q+1]? =some (.cells #[.int .u64 0,.int .u64 0,.int .u64 0,.int .u64 0,.int .u64 0,.int .u64 0,.int .u64 0,.int .u64 0,.int .u64 0,.int .u64 0,.int .u64 0,.int .u64 0,.int .u64 0,.int .u64 0,.int .u64 0,.int .u64 0] 252 (0,0)):=by
     rw[D];exact((Below.heap_setCell _ _ _ _ (by simp)).trans ((Below.heap_setCell _ _ _ _ (by simp)).trans O.out))
    have V:Below w.heap.size w I:=by
     rw[D];exact((J.out.setCell (by simp;omega) _).setCell (by simp;omega) _)
    clear D U O J cv fv;apply wp_region_lit
    refine wpList_load_row rfl 252 _ rfl (q+1+1) rfl _ _ _ _ X Tryz.underlying252 rfl (by kernel_rfl) ?_;refine wpList_store_row rfl 252 _ _ rfl (q+1) _ rfl rfl 252 _ G (by kernel_rfl) (by kernel_rfl) (by kernel_rfl) ?_;simp only[Act.put,Ls];go_wp2_with fail
    exact Bp (results_cell_row rfl _ _ _ _ _ _ _ rfl (setRow_heap _ _ _ _ _ _ G) Tryz.underlying252 rfl (by kernel_rfl)) rfl ⟨rfl,below_setRow (V.mono (by omega)) (by omega) _⟩
theorem qfb (h:List Int)(hh:Words 32 8 h)(c:Int)(aJ:0≤c)(aD:c<18446744073709551616)(ad node:Bool)(w:World):Calls Tryz.prog 211 #[.agg (qi .u32 h),.int .u64 c,.bool ad,.bool node] w fun e w'=>e= .returned (.agg (qi .u32 (Yw .u32 IVs h (c%4294967296) (c/4294967296) ad node)))∧Below w.heap.size w w':=by
 obtain⟨q,aA⟩:=Ex w.heap.size;go_enter Tryz.func211,Tryz.ntmps211
 go_wp2_with fail
 refine(qbh _).mono ?_;rintro e1 w1 ⟨rfl,ac⟩;have az:=(ac.block q (by simp;omega)).trans ((Bh _ _ _ (by simp;omega)).trans ((Bh _ _ _ (by simp;omega)).trans (qe _ _ aA.symm)));have ar:=(ac.block (q+1) (by simp;omega)).trans ((Bh _ _ _ (by simp;omega)).trans (qe _ _ (by simp;omega)));have aj:=(ac.block (q+1+1) (by simp;omega)).trans (qe _ _ (by simp;omega));have av:Below w.heap.size w w1:=((((Below.refl w.heap.size w).alloc Nl _).alloc (by simp) _).alloc (by simp;omega) _).trans (ac.mono (by simp;omega));have aB:q+3≤w1.heap.size:=by have:=ac.size;simp at this;omega
 clear ac;go_wp2_with fail
 refine qm ?_;intro W D;obtain⟨bi,ag⟩:=Ex w1.heap.size;have au:W.heap[q]? =some (.cells (qi .u32 h) 284 (0,0)):=by
  rw[D];exact(Bh _ _ _ (by omega)).trans az
 have ak:W.heap[q+1]? =some (.cells #[.int .u32 0,.int .u32 0,.int .u32 0,.int .u32 0,.int .u32 0,.int .u32 0,.int .u32 0,.int .u32 0,.int .u32 0,.int .u32 0,.int .u32 0,.int .u32 0,.int .u32 0,.int .u32 0,.int .u32 0,.int .u32 0] 298 (0,0)):=by
  rw[D];exact(Bh _ _ _ (by omega)).trans ar
 have ai:W.heap[q+1+1]? =some (.cells (qi .u32 (z6 h IVs 0)) 298 (0,0)):=by
  rw[D];exact(Bh _ _ _ (by omega)).trans aj
 have af:W.heap[bi]? =some (.cells (qi .u32 IVs) 284 (0,0)):=by
  rw[D];exact qe _ _ ag.symm
 have al:Below w.heap.size w W:=by
  rw[D];exact av.alloc (by omega) _
 have aI:q+1+1<W.heap.size:=(Ai ai).1;have aF:bi<W.heap.size:=(Ai af).1;rw[ag];have aK:q+3≤bi:=by omega
 clear D az ar aj av aB ag;have HH:=hid au;have Y:=hid ak;have X:=hid ai;have HI:=hid af;have O:=hid al;clear au ak ai al af;go_loopw [11] (fun i wr=> ∃j:Nat,i= .int .i64 j∧j≤8∧wr.heap[q+1+1]? =some (.cells (qi .u32 (z6 h IVs j)) 298 (0,0))∧But (q+1+1) W wr) (fun i _=>8 - (intOf i).toNat)
 case atStart=>exact⟨0,rfl,Nat.zero_le _,X.out,But.refl _ _⟩
 case round=>
  obtain⟨j,rfl,hj,hv,hB⟩:=hrel;have aE:=hB.size;have ax:=hid hv;have ao:=hid hB;by_cases am:j<8
  ·have c1:wr.cell? ⟨q,j,none⟩=some (.int .u32 (wd h j)):=by
    rw[qs ((hB.block q (by omega) (by omega)).trans HH.out),qC hh am]
   have c4:wr.cell? ⟨bi,j,none⟩=some (.int .u32 (wd IVs j)):=by
    rw[qs ((hB.block bi (by omega) (by omega)).trans HI.out),qC qaf am]
   have c2:wr.cell? ⟨q+1+1,j,none⟩=some (.int .u32 (wd (z6 h IVs j) j)):=(qs hv _).trans (yi (YA _ _ _) (by omega));have c3:wr.cell? ⟨q+1+1,j+8,none⟩=some (.int .u32 (wd (z6 h IVs j) (j+8))):=(qs hv _).trans (yi (YA _ _ _) (by omega));have f2: ∀o,wr.frozen? ⟨q+1+1,o,none⟩=false:=(qO hv).2;have aL:IntKind.i64.wrap ((j:Int)+8)=((j+8:Nat):Int):=by rw[IntKind.wrap_i64];omega
   have aC:j+8<16:=by omega
   have aG:(bi=q+1+1)=False:=by simp;omega
   clear hv hB;go_wp2
   exact⟨⟨j+1,rfl,by omega,by rw[z6,←Qe,←Qe];exact block_setCell (block_setCell ax.out _) _,(ao.out.set _ _).set _ _⟩,by simp[intOf];omega⟩
  ·obtain rfl:j=8:=by omega
   have ah:wr.heap[q+1+1]? =some (.cells #[.int .u32 (wd h 0),.int .u32 (wd h 1),.int .u32 (wd h 2),.int .u32 (wd h 3),.int .u32 (wd h 4),.int .u32 (wd h 5),.int .u32 (wd h 6),.int .u32 (wd h 7),.int .u32 1779033703,.int .u32 3144134277,.int .u32 1013904242,.int .u32 2773480762,.int .u32 1359893119,.int .u32 2600822924,.int .u32 528734635,.int .u32 1541459225] 298 (0,0)):=hv;have aw:=hid ah;have ay:=hid ((hB.block (q+1) (by omega) (by omega)).trans Y.out);have ap:=hid (O.out.trans (hB.below (by omega) O.out.size));obtain⟨cv,fv⟩:=qO ah;clear hv hB ah ax ao X Y O HH HI;go_upto_region 10 with(fail)
   refine qm ?_;intro W5 D;have ae:W5.heap[q+1+1]? =some (.cells #[.int .u32 (wd h 0),.int .u32 (wd h 1),.int .u32 (wd h 2),.int .u32 (wd h 3),.int .u32 (wd h 4),.int .u32 (wd h 5),.int .u32 (wd h 6),.int .u32 (wd h 7),.int .u32 1779033703,.int .u32 3144134277,.int .u32 1013904242,.int .u32 2773480762,.int .u32 (bits .xor .u32 1359893119 (c%4294967296)),.int .u32 (bits .xor .u32 2600822924 (c/4294967296)),.int .u32 528734635,.int .u32 1541459225] 298 (0,0)):=by
    rw[D];exact block_setCell (i:=13) (block_setCell (i:=12) aw.out _) _
   have aq:W5.heap[q+1]? =some (.cells #[.int .u32 0,.int .u32 0,.int .u32 0,.int .u32 0,.int .u32 0,.int .u32 0,.int .u32 0,.int .u32 0,.int .u32 0,.int .u32 0,.int .u32 0,.int .u32 0,.int .u32 0,.int .u32 0,.int .u32 0,.int .u32 0] 298 (0,0)):=by
    rw[D];exact(Below.heap_setCell _ _ _ _ (by simp)).trans ((Below.heap_setCell _ _ _ _ (by simp)).trans ay.out)
   have an:Below w.heap.size w W5:=by
    rw[D];exact(ap.out.setCell (by simp;omega) _).setCell (by simp;omega) _
   clear D aw ay ap cv fv;have aH:=(Ai ae).1;obtain⟨cv,fv⟩:=qO ae;have X:=hid ae;have Y:=hid aq;have O:=hid an;clear ae aq an
   cases ad<;>cases node
   ·skip
    have J:=hid (show Ending.returned (.agg #[.int .u32 (wd h 0),.int .u32 (wd h 1),.int .u32 (wd h 2),.int .u32 (wd h 3),.int .u32 (wd h 4),.int .u32 (wd h 5),.int .u32 (wd h 6),.int .u32 (wd h 7),.int .u32 1779033703,.int .u32 3144134277,.int .u32 1013904242,.int .u32 2773480762,.int .u32 (bits .xor .u32 1359893119 (c%4294967296)),.int .u32 (bits .xor .u32 2600822924 (c/4294967296)),.int .u32 528734635,.int .u32 1541459225])= .returned (.agg (qi .u32 (Yw .u32 IVs h (c%4294967296) (c/4294967296) false false))) by simp only[Yw,IVs,qi];rfl);go_upto_region 14 with(fail)
    refine qm ?_;intro I D;have aa:I.heap[q+1+1]? =some (.cells #[.int .u32 (wd h 0),.int .u32 (wd h 1),.int .u32 (wd h 2),.int .u32 (wd h 3),.int .u32 (wd h 4),.int .u32 (wd h 5),.int .u32 (wd h 6),.int .u32 (wd h 7),.int .u32 1779033703,.int .u32 3144134277,.int .u32 1013904242,.int .u32 2773480762,.int .u32 (bits .xor .u32 1359893119 (c%4294967296)),.int .u32 (bits .xor .u32 2600822924 (c/4294967296)),.int .u32 528734635,.int .u32 1541459225] 298 (0,0)):=by
     rw[D];exact X.out
    have G:I.heap[q+1]? =some (.cells #[.int .u32 0,.int .u32 0,.int .u32 0,.int .u32 0,.int .u32 0,.int .u32 0,.int .u32 0,.int .u32 0,.int .u32 0,.int .u32 0,.int .u32 0,.int .u32 0,.int .u32 0,.int .u32 0,.int .u32 0,.int .u32 0] 298 (0,0)):=by
     rw[D];exact Y.out
    have Z:Below w.heap.size w I:=by
     rw[D];exact O.out
    clear D X Y O cv fv;apply wp_region_lit
    refine wpList_load_row rfl 298 _ rfl (q+1+1) rfl _ _ _ _ aa Tryz.underlying298 rfl (by kernel_rfl) ?_;refine wpList_store_row rfl 298 _ _ rfl (q+1) _ rfl rfl 298 _ G (by kernel_rfl) (by kernel_rfl) (by kernel_rfl) ?_;simp only[Act.put,Ls];go_wp2_with fail
    exact Bp (results_cell_row rfl _ _ _ _ _ _ _ rfl (setRow_heap _ _ _ _ _ _ G) Tryz.underlying298 rfl (by kernel_rfl)) rfl ⟨J.out,below_setRow (Z.mono (by omega)) (by omega) _⟩
   ·skip
    have V:=hid (show Ending.returned (.agg #[.int .u32 (wd h 0),.int .u32 (wd h 1),.int .u32 (wd h 2),.int .u32 (wd h 3),.int .u32 (wd h 4),.int .u32 (wd h 5),.int .u32 (wd h 6),.int .u32 (wd h 7),.int .u32 1779033703,.int .u32 3144134277,.int .u32 1013904242,.int .u32 2773480762,.int .u32 (bits .xor .u32 1359893119 (c%4294967296)),.int .u32 (bits .xor .u32 2600822924 (c/4294967296)),.int .u32 528734635,.int .u32 (bits .xor .u32 1541459225 4294967295)])= .returned (.agg (qi .u32 (Yw .u32 IVs h (c%4294967296) (c/4294967296) false true))) by simp only[Yw,IVs,qi];rw[YN .u32 1541459225 4294967295];rfl);go_upto_region 14 with(fail)
    refine qm ?_;intro I D;have aa:I.heap[q+1+1]? =some (.cells #[.int .u32 (wd h 0),.int .u32 (wd h 1),.int .u32 (wd h 2),.int .u32 (wd h 3),.int .u32 (wd h 4),.int .u32 (wd h 5),.int .u32 (wd h 6),.int .u32 (wd h 7),.int .u32 1779033703,.int .u32 3144134277,.int .u32 1013904242,.int .u32 2773480762,.int .u32 (bits .xor .u32 1359893119 (c%4294967296)),.int .u32 (bits .xor .u32 2600822924 (c/4294967296)),.int .u32 528734635,.int .u32 (bits .xor .u32 1541459225 4294967295)] 298 (0,0)):=by
     rw[D];exact(block_setCell (i:=15) X.out _)
    have G:I.heap[q+1]? =some (.cells #[.int .u32 0,.int .u32 0,.int .u32 0,.int .u32 0,.int .u32 0,.int .u32 0,.int .u32 0,.int .u32 0,.int .u32 0,.int .u32 0,.int .u32 0,.int .u32 0,.int .u32 0,.int .u32 0,.int .u32 0,.int .u32 0] 298 (0,0)):=by
     rw[D];exact((Below.heap_setCell _ _ _ _ (by simp)).trans Y.out)
    have Z:Below w.heap.size w I:=by
     rw[D];exact(O.out.setCell (by simp;omega) _)
    clear D X Y O cv fv;apply wp_region_lit
    refine wpList_load_row rfl 298 _ rfl (q+1+1) rfl _ _ _ _ aa Tryz.underlying298 rfl (by kernel_rfl) ?_;refine wpList_store_row rfl 298 _ _ rfl (q+1) _ rfl rfl 298 _ G (by kernel_rfl) (by kernel_rfl) (by kernel_rfl) ?_;simp only[Act.put,Ls];go_wp2_with fail
    exact Bp (results_cell_row rfl _ _ _ _ _ _ _ rfl (setRow_heap _ _ _ _ _ _ G) Tryz.underlying298 rfl (by kernel_rfl)) rfl ⟨V.out,below_setRow (Z.mono (by omega)) (by omega) _⟩
   ·skip
    have U:=hid (show Ending.returned (.agg #[.int .u32 (wd h 0),.int .u32 (wd h 1),.int .u32 (wd h 2),.int .u32 (wd h 3),.int .u32 (wd h 4),.int .u32 (wd h 5),.int .u32 (wd h 6),.int .u32 (wd h 7),.int .u32 1779033703,.int .u32 3144134277,.int .u32 1013904242,.int .u32 2773480762,.int .u32 (bits .xor .u32 1359893119 (c%4294967296)),.int .u32 (bits .xor .u32 2600822924 (c/4294967296)),.int .u32 (bits .xor .u32 528734635 4294967295),.int .u32 1541459225])= .returned (.agg (qi .u32 (Yw .u32 IVs h (c%4294967296) (c/4294967296) true false))) by simp only[Yw,IVs,qi];rw[YN .u32 528734635 4294967295];rfl);go_upto_region 14 with(fail)
    refine qm ?_;intro I D;have aa:I.heap[q+1+1]? =some (.cells #[.int .u32 (wd h 0),.int .u32 (wd h 1),.int .u32 (wd h 2),.int .u32 (wd h 3),.int .u32 (wd h 4),.int .u32 (wd h 5),.int .u32 (wd h 6),.int .u32 (wd h 7),.int .u32 1779033703,.int .u32 3144134277,.int .u32 1013904242,.int .u32 2773480762,.int .u32 (bits .xor .u32 1359893119 (c%4294967296)),.int .u32 (bits .xor .u32 2600822924 (c/4294967296)),.int .u32 (bits .xor .u32 528734635 4294967295),.int .u32 1541459225] 298 (0,0)):=by
     rw[D];exact(block_setCell (i:=14) X.out _)
    have G:I.heap[q+1]? =some (.cells #[.int .u32 0,.int .u32 0,.int .u32 0,.int .u32 0,.int .u32 0,.int .u32 0,.int .u32 0,.int .u32 0,.int .u32 0,.int .u32 0,.int .u32 0,.int .u32 0,.int .u32 0,.int .u32 0,.int .u32 0,.int .u32 0] 298 (0,0)):=by
     rw[D];exact((Below.heap_setCell _ _ _ _ (by simp)).trans Y.out)
    have Z:Below w.heap.size w I:=by
     rw[D];exact(O.out.setCell (by simp;omega) _)
    clear D X Y O cv fv;apply wp_region_lit
    refine wpList_load_row rfl 298 _ rfl (q+1+1) rfl _ _ _ _ aa Tryz.underlying298 rfl (by kernel_rfl) ?_;refine wpList_store_row rfl 298 _ _ rfl (q+1) _ rfl rfl 298 _ G (by kernel_rfl) (by kernel_rfl) (by kernel_rfl) ?_;simp only[Act.put,Ls];go_wp2_with fail
    exact Bp (results_cell_row rfl _ _ _ _ _ _ _ rfl (setRow_heap _ _ _ _ _ _ G) Tryz.underlying298 rfl (by kernel_rfl)) rfl ⟨U.out,below_setRow (Z.mono (by omega)) (by omega) _⟩
   ·skip
    have ab:=hid (show Ending.returned (.agg #[.int .u32 (wd h 0),.int .u32 (wd h 1),.int .u32 (wd h 2),.int .u32 (wd h 3),.int .u32 (wd h 4),.int .u32 (wd h 5),.int .u32 (wd h 6),.int .u32 (wd h 7),.int .u32 1779033703,.int .u32 3144134277,.int .u32 1013904242,.int .u32 2773480762,.int .u32 (bits .xor .u32 1359893119 (c%4294967296)),.int .u32 (bits .xor .u32 2600822924 (c/4294967296)),.int .u32 (bits .xor .u32 528734635 4294967295),.int .u32 (bits .xor .u32 1541459225 4294967295)])= .returned (.agg (qi .u32 (Yw .u32 IVs h (c%4294967296) (c/4294967296) true true))) by simp only[Yw,IVs,qi];rw[YN .u32 528734635 4294967295,YN .u32 1541459225 4294967295];rfl);go_upto_region 14 with(fail)
    refine qm ?_;intro I D;have aa:I.heap[q+1+1]? =some (.cells #[.int .u32 (wd h 0),.int .u32 (wd h 1),.int .u32 (wd h 2),.int .u32 (wd h 3),.int .u32 (wd h 4),.int .u32 (wd h 5),.int .u32 (wd h 6),.int .u32 (wd h 7),.int .u32 1779033703,.int .u32 3144134277,.int .u32 1013904242,.int .u32 2773480762,.int .u32 (bits .xor .u32 1359893119 (c%4294967296)),.int .u32 (bits .xor .u32 2600822924 (c/4294967296)),.int .u32 (bits .xor .u32 528734635 4294967295),.int .u32 (bits .xor .u32 1541459225 4294967295)] 298 (0,0)):=by
     rw[D];exact(block_setCell (i:=15) (block_setCell (i:=14) X.out _) _)
    have G:I.heap[q+1]? =some (.cells #[.int .u32 0,.int .u32 0,.int .u32 0,.int .u32 0,.int .u32 0,.int .u32 0,.int .u32 0,.int .u32 0,.int .u32 0,.int .u32 0,.int .u32 0,.int .u32 0,.int .u32 0,.int .u32 0,.int .u32 0,.int .u32 0] 298 (0,0)):=by
     rw[D];exact((Below.heap_setCell _ _ _ _ (by simp)).trans ((Below.heap_setCell _ _ _ _ (by simp)).trans Y.out))
    have Z:Below w.heap.size w I:=by
     rw[D];exact((O.out.setCell (by simp;omega) _).setCell (by simp;omega) _)
    clear D X Y O cv fv;apply wp_region_lit
    refine wpList_load_row rfl 298 _ rfl (q+1+1) rfl _ _ _ _ aa Tryz.underlying298 rfl (by kernel_rfl) ?_;refine wpList_store_row rfl 298 _ _ rfl (q+1) _ rfl rfl 298 _ G (by kernel_rfl) (by kernel_rfl) (by kernel_rfl) ?_;simp only[Act.put,Ls];go_wp2_with fail
    exact Bp (results_cell_row rfl _ _ _ _ _ _ _ rfl (setRow_heap _ _ _ _ _ _ G) Tryz.underlying298 rfl (by kernel_rfl)) rfl ⟨ab.out,below_setRow (Z.mono (by omega)) (by omega) _⟩
theorem Y7 (k:IntKind)(o: ∀n:Int,0≤n→n<2^k.bits→k.wrap n=n)(a b:Int):bits .xor k a b=((BitVec.ofInt k.bits a^^^BitVec.ofInt k.bits b).toNat:Int):=by
 simp only[bits];refine o _ (by omega) ?_;have:=(BitVec.ofInt k.bits a^^^BitVec.ofInt k.bits b).isLt
 exact_mod_cast this
theorem ja (k:IntKind)(o: ∀n:Int,0≤n→n<2^k.bits→k.wrap n=n)(a b c:Int):bits .xor k (bits .xor k a b) c=bits .xor k a (bits .xor k b c):=by
 have e: ∀x:BitVec k.bits,BitVec.ofInt k.bits (x.toNat:Int)=x:=fun x=>by simp
 rw[Y7 k o (bits .xor k a b) c,Y7 k o a b,Y7 k o a (bits .xor k b c),Y7 k o b c,e,e,BitVec.xor_assoc]
theorem qdw (a b c:Int):bits .xor .u64 (bits .xor .u64 a b) c=bits .xor .u64 a (bits .xor .u64 b c):=ja .u64 wraps_u64 a b c
theorem qdx (a b c:Int):bits .xor .u32 (bits .xor .u32 a b) c=bits .xor .u32 a (bits .xor .u32 b c):=ja .u32 JQ a b c
theorem qhm (h V:List Int)(ab:Words 32 8 h)(hV:Words 32 16 V)(w:World):Calls Tryz.prog 213 #[.agg (qi .u32 h),.agg (qi .u32 V)] w fun e w'=>e= .returned (.agg (qi .u32 (Yz .u32 h V 8)))∧Below w.heap.size w w':=by
 obtain⟨q,ak⟩:=Ex w.heap.size;go_enter Tryz.func213,Tryz.ntmps213
 go_wp2_with fail
 refine qm ?_;intro I O;have Z:I.heap[q]? =some (.cells (qi .u32 h) 284 (0,0)):=by
  rw[O];exact(Bh _ _ _ (by simp;omega)).trans ((Bh _ _ _ (by simp;omega)).trans (qe _ _ ak.symm))
 have X:I.heap[q+1]? =some (.cells (qi .u32 V) 298 (0,0)):=by
  rw[O];exact(Bh _ _ _ (by simp;omega)).trans (qe _ _ (by simp;omega))
 have U:I.heap[q+1+1]? =some (.cells #[.int .u32 0,.int .u32 0,.int .u32 0,.int .u32 0,.int .u32 0,.int .u32 0,.int .u32 0,.int .u32 0] 284 (0,0)):=by
  rw[O];exact qe _ _ (by simp;omega)
 have af:Below w.heap.size w I:=by
  rw[O];exact(((Below.refl w.heap.size w).alloc Nl _).alloc (by simp) _).alloc (by simp;omega) _
 clear O;have ai:=hid Z;have ao:=hid X;have ag:=hid U;have ad:=hid af;have ah:q+1<I.heap.size:=(Ai X).1;have am:q+1+1<I.heap.size:=(Ai U).1;clear Z X U af;go_loopw [5] (fun i w4=> ∃j:Nat,i= .int .i64 j∧j≤8∧w4.heap[q]? =some (.cells (qi .u32 (Yz .u32 h V j)) 284 (0,0))∧But (q) I w4) (fun i _=>8 - (intOf i).toNat)
 case atStart=>exact⟨0,rfl,Nat.zero_le _,ai.out,But.refl _ _⟩
 case round=>
  obtain⟨j,rfl,hj,G,D⟩:=hrel;have aq:=D.size;have J:=(D.block (q+1) ah (by omega)).trans ao.out;have q1:q+1<wr.heap.size:=by omega
  have q2:q<wr.heap.size:=by omega
  have ac:=hid G;have aa:=hid D;by_cases al:j<8
  ·have c1:wr.cell? ⟨q,j,none⟩=some (.int .u32 (wd h j)):=by
    rw[qs G,qC (QL (fun z=>IntKind.wrap_u32 z) ab j) al,ze j j Nl]
   have c2:wr.cell? ⟨q+1,j,none⟩=some (.int .u32 (wd V j)):=(qs J _).trans (qC hV (by omega));have c3:wr.cell? ⟨q+1,j+8,none⟩=some (.int .u32 (wd V (j+8))):=(qs J _).trans (qC hV (by omega));have f1: ∀o,wr.frozen? ⟨q,o,none⟩=false:=(qO G).2;have ar:IntKind.i64.wrap ((j:Int)+8)=((j+8:Nat):Int):=by rw[IntKind.wrap_i64];omega
   have ap:j+8<16:=by omega
   clear G J D;go_wp2_with fail
   refine qj (by dsimp only[List.dropLast]) (by rfl) (by rfl) (by kernel_rfl) (by kernel_rfl) (by kernel_rfl) (by kernel_rfl) ?_;repeat(go_big_quiet_step (fail))
   refine wpQuiet_nil ?_;intro _ aj;obtain⟨n1,rfl⟩:=aj;go_wp2_with fail
   exact⟨⟨j+1,rfl,by omega,by rw[Yz,←qdx,←Qe];exact block_setCell (w:=wr.drewN n1) ac.out _,(aa.out.drewN n1).set _ _⟩,by simp[intOf];omega⟩
  ·obtain rfl:j=8:=by omega
   have ae:=(D.block (q+1+1) am (by omega)).trans ag.out;have Y:=QL (k:= .u32) (fun z=>IntKind.wrap_u32 z) (v:=V) ab 8;have an:=hid (ad.out.trans (aa.out.below (by omega) ad.out.size));clear G J D;go_upto_region 5 with(fail)
   apply wp_region_lit
   refine wpList_load_row rfl 284 _ rfl (q) rfl _ _ _ _ ac.out Tryz.underlying284 rfl (by rw[qf,Y.1];kernel_rfl) ?_;refine wpList_store_row rfl 284 _ _ rfl (q+1+1) (qi .u32 (Yz .u32 h V 8)) rfl rfl 284 _ ae (by rw[qf,Y.1];kernel_rfl) (by rw[qf,Y.1];rfl) qA ?_;simp only[Act.put,Ls];go_wp2_with fail
   exact Bp (results_cell_row rfl _ _ _ _ _ _ _ rfl (setRow_heap _ _ _ _ _ _ ae) Tryz.underlying284 rfl (by rw[qf,Y.1];kernel_rfl)) rfl ⟨rfl,below_setRow (an.out.mono (by omega)) (by omega) _⟩
theorem qiR (h M:List Int)(U:Words 64 8 h)(hM:Words 64 16 M)(lo hi:Int)(I node:Bool)(w:World):Calls Tryz.prog 194 #[.agg (qi .u64 h),.agg (qi .u64 M),.int .u64 lo,.int .u64 hi,.bool I,.bool node] w fun e w'=>e= .returned (.agg (qi .u64 (zK mixBig IVb 12 h M lo hi I node)))∧Below w.heap.size w w':=by
 obtain⟨q,aD⟩:=Ex w.heap.size;have HC:=hid (qgr h U lo hi I node);have aa:=zC (k:= .u64) (fun z=>IntKind.wrap_u64 z) qcG U lo hi I node;unfold zK;rw[show mixBig.k= .u64 from rfl];generalize Yw .u64 IVb h lo hi I node=L0 at*;have af:=U;rw[zQ U]at HC⊢;go_enter Tryz.func194,Tryz.ntmps194
 go_wp2_with fail
 refine(HC.out _).mono ?_;rintro e1 w1 ⟨rfl,O⟩;have av:=(O.block q (by simp;omega)).trans ((Bh _ _ _ (by simp;omega)).trans ((Bh _ _ _ (by simp;omega)).trans (qe _ _ aD.symm)));have ap:=(O.block (q+1) (by simp;omega)).trans ((Bh _ _ _ (by simp;omega)).trans (qe _ _ (by simp;omega)));have al:=(O.block (q+1+1) (by simp;omega)).trans (qe _ _ (by simp;omega));have aB:q+3≤w1.heap.size:=by have:=O.size;simp at this;omega
 have an:Below w.heap.size w w1:=((((Below.refl w.heap.size w).alloc Nl _).alloc (by simp) _).alloc (by simp;omega) _).trans (O.mono (by simp;omega));clear O HC;go_wp2_with ((with_reducible show wpList _ _ _ (Oper.mk none (Op.store 252 _ _) _ _ _ _::_) _ _);refine wpList_store_row rfl 252 _ _ rfl w1.heap.size (qi .u64 L0) rfl rfl 252 _ (Wn _ _) (by rw[qf,aa.1];kernel_rfl) (by rw[qf,aa.1];rfl) qA ?_)
 clear U;refine qm ?_;intro W hW;obtain⟨D,ag⟩:=Ex w1.heap.size;have U:W.heap[q]? =some (.cells #[.int .u64 (wd h 0),.int .u64 (wd h 1),.int .u64 (wd h 2),.int .u64 (wd h 3),.int .u64 (wd h 4),.int .u64 (wd h 5),.int .u64 (wd h 6),.int .u64 (wd h 7)] 274 (0,0)):=by
  rw[hW];exact(setRow_other (w1.alloc _) _ _ _ (by omega)).trans ((Bh _ _ _ (by omega)).trans av)
 have hm:W.heap[q+1]? =some (.cells (qi .u64 M) 252 (0,0)):=by
  rw[hW];exact(setRow_other (w1.alloc _) _ _ _ (by omega)).trans ((Bh _ _ _ (by omega)).trans ap)
 have hr:W.heap[q+1+1]? =some (.cells #[.int .u64 0,.int .u64 0,.int .u64 0,.int .u64 0,.int .u64 0,.int .u64 0,.int .u64 0,.int .u64 0] 274 (0,0)):=by
  rw[hW];exact(setRow_other (w1.alloc _) _ _ _ (by omega)).trans ((Bh _ _ _ (by omega)).trans al)
 have hv:W.heap[D]? =some (.cells (qi .u64 L0) 252 (0,0)):=by
  rw[hW,←ag];exact setRow_heap _ _ _ _ _ _ (Wn _ _)
 have hB:Below w.heap.size w W:=by
  rw[hW];exact below_setRow (an.alloc (by omega) _) (by omega) _
 rw[←zQ af]at U;rw[ag];have aM:q+3≤D:=by omega
 clear hW av ap al aB an ag;have HH:=hid U;have HM:=hid hm;have HR:=hid hr;have HV:=hid hv;have HB:=hid hB;have aN:D<W.heap.size:=(Ai hv).1;clear U hm hr hv hB;go_loopw [14] (fun i wr=> ∃j:Nat,i= .int .i64 j∧j≤12∧wr.heap[D]? =some (.cells (qi .u64 (mixBig.rounds L0 M j)) 252 (0,0))∧But D W wr) (fun i _=>12 - (intOf i).toNat)
 case atStart=>exact⟨0,rfl,Nat.zero_le _,HV.out,But.refl _ _⟩
 case round=>
  obtain⟨j,rfl,hj,hv,hB⟩:=hrel;have hm:=(hB.block (q+1) (by omega) (by omega)).trans HM.out;have G:=hid hv;have am:=hid hm;have X:=hid hB;clear hv hm hB;by_cases ao:j<12
  ·have Z:=QW QG aa (M:=M) j;obtain⟨R1,ac⟩:=Ex (mixBig.rounds L0 M j);rw[ac]at Z G;have aC:=hid ac;clear ac;go_wp2_with (first
    | ((with_reducible show wpList _ _ _ (Oper.mk (some 27) _ _ _ _ _::_) _ _);refine wpList_load_row rfl 252 _ rfl D rfl _ _ _ _ G.out Tryz.underlying252 rfl (by rw[qf,Z.1];kernel_rfl) ?_)
    | ((with_reducible show wpList _ _ _ (Oper.mk (some 28) _ _ _ _ _::_) _ _);refine wpList_load_row rfl 252 _ rfl (q+1) rfl _ _ _ _ am.out Tryz.underlying252 rfl (by rw[qf,hM.1];kernel_rfl) ?_))
   refine(qe6 R1 M Z hM j (by omega) _).mono ?_;rintro e2 w2 ⟨rfl,ad⟩
   have ax:=(ad.block D (Ai G.out).1).trans G.out;have aJ:=hid (X.out.trans (But.of_below (b:=D) ad));clear ad;have ak:Words 64 16 (mixBig.round R1 M j):=qF QG Z (M:=M) j 8;go_wp2_with ((with_reducible show wpList _ _ _ (Oper.mk none (Op.store 252 _ _) _ _ _ _::_) _ _);refine wpList_store_row rfl 252 _ _ rfl D (qi .u64 (mixBig.round R1 M j)) rfl rfl 252 _ ax (by rw[qf,ak.1];kernel_rfl) (by simp only[qf,ak.1,Z.1]) qA ?_)
   exact⟨⟨j+1,rfl,by omega,by rw[show mixBig.rounds L0 M (j+1)=mixBig.round (mixBig.rounds L0 M j) M j from rfl,aC.out];exact setRow_heap _ _ _ _ _ _ ax,aJ.out.setRow _⟩,by simp[intOf];omega⟩
  ·obtain rfl:j=12:=by omega
   have hV:=QW QG aa (M:=M) 12;obtain⟨V,ah⟩:=Ex (mixBig.rounds L0 M 12);have az:=hid (show Ending.returned (.agg (qi .u64 (Yz .u64 h V 8)))= .returned (.agg (qi .u64 (Yz .u64 h (mixBig.rounds L0 M 12) 8))) by rw[ah]);rw[ah]at hV G;clear ah;have ai:=(X.out.block q (by omega) (by omega)).trans HH.out;have ae:=(X.out.block (q+1+1) (by omega) (by omega)).trans HR.out;have au:Below w.heap.size w wr:=HB.out.trans (X.out.below (by omega) HB.out.size);have aA:=hid ai;have aF:=hid G.out;have aG:=hid ae;have aw:=hid au;have aH:D<wr.heap.size:=(Ai G.out).1;have aE:q+1+1<wr.heap.size:=(Ai ae).1;clear ai ae au G am X HH HR HM HV HB;generalize wr=w3 at*;go_wp2_with fail
   go_loopw [15] (fun i w4=> ∃j:Nat,i= .int .i64 j∧j≤8∧w4.heap[q]? =some (.cells (qi .u64 (Yz .u64 h V j)) 274 (0,0))∧But (q) w3 w4) (fun i _=>8 - (intOf i).toNat)
   case atStart=>exact⟨0,rfl,Nat.zero_le _,aA.out,But.refl _ _⟩
   case round=>
    obtain⟨j,rfl,hj,Y,J⟩:=hrel;have aL:=J.size;have ab:=(J.block (D) aH (by omega)).trans aF.out;have q1:D<wr.heap.size:=by omega
    have q2:q<wr.heap.size:=by omega
    have aj:=hid Y;have aq:=hid J;by_cases ao:j<8
    ·have c1:wr.cell? ⟨q,j,none⟩=some (.int .u64 (wd h j)):=by
      rw[qs Y,qC (QL (fun z=>IntKind.wrap_u64 z) af j) ao,ze j j Nl]
     have c2:wr.cell? ⟨D,j,none⟩=some (.int .u64 (wd V j)):=(qs ab _).trans (qC hV (by omega));have c3:wr.cell? ⟨D,j+8,none⟩=some (.int .u64 (wd V (j+8))):=(qs ab _).trans (qC hV (by omega));have f1: ∀o,wr.frozen? ⟨q,o,none⟩=false:=(qO Y).2;have aO:IntKind.i64.wrap ((j:Int)+8)=((j+8:Nat):Int):=by rw[IntKind.wrap_i64];omega
     have aK:j+8<16:=by omega
     clear Y ab J;go_wp2_with fail
     refine qj (by dsimp only[List.dropLast]) (by rfl) (by rfl) (by kernel_rfl) (by kernel_rfl) (by kernel_rfl) (by kernel_rfl) ?_;repeat(go_big_quiet_step (fail))
     refine wpQuiet_nil ?_;intro _ ay;obtain⟨n1,rfl⟩:=ay;go_wp2_with fail
     exact⟨⟨j+1,rfl,by omega,by rw[Yz,←qdw,←Qe];exact block_setCell (w:=wr.drewN n1) aj.out _,(aq.out.drewN n1).set _ _⟩,by simp[intOf];omega⟩
    ·obtain rfl:j=8:=by omega
     have ar:=(J.block (q+1+1) aE (by omega)).trans aG.out;have hF:=QL (k:= .u64) (fun z=>IntKind.wrap_u64 z) (v:=V) af 8;have aI:=hid (aw.out.trans (aq.out.below (by omega) aw.out.size));clear Y ab J;go_upto_region 10 with(fail)
     apply wp_region_lit
     refine wpList_load_row rfl 274 _ rfl (q) rfl _ _ _ _ aj.out Tryz.underlying274 rfl (by rw[qf,hF.1];kernel_rfl) ?_;refine wpList_store_row rfl 274 _ _ rfl (q+1+1) (qi .u64 (Yz .u64 h V 8)) rfl rfl 274 _ ar (by rw[qf,hF.1];kernel_rfl) (by rw[qf,hF.1];rfl) qA ?_;simp only[Act.put,Ls];go_wp2_with fail
     exact Bp (results_cell_row rfl _ _ _ _ _ _ _ rfl (setRow_heap _ _ _ _ _ _ ar) Tryz.underlying274 rfl (by rw[qf,hF.1];kernel_rfl)) rfl ⟨az.out,below_setRow (aI.out.mono (by omega)) (by omega) _⟩
theorem qiS (h M:List Int)(J:Words 32 8 h)(hM:Words 32 16 M)(c:Int)(ay:0≤c)(ar:c<18446744073709551616)(G node:Bool)(w:World):Calls Tryz.prog 196 #[.agg (qi .u32 h),.agg (qi .u32 M),.int .u64 c,.bool G,.bool node] w fun e w'=>e= .returned (.agg (qi .u32 (zK mixSmall IVs 10 h M (c%4294967296) (c/4294967296) G node)))∧Below w.heap.size w w':=by
 obtain⟨o,aA⟩:=Ex w.heap.size;have HC:=hid (qfb h J c ay ar G node);have Z:=zC (k:= .u32) (fun z=>IntKind.wrap_u32 z) qaf J (c%4294967296) (c/4294967296) G node;unfold zK;rw[show mixSmall.k= .u32 from rfl];generalize Yw .u32 IVs h (c%4294967296) (c/4294967296) G node=L0 at*;have Y:=J;rw[zQ J]at HC⊢;go_enter Tryz.func196,Tryz.ntmps196
 go_wp2_with fail
 refine(HC.out _).mono ?_;rintro e1 X ⟨rfl,I⟩;have ao:=(I.block o (by simp;omega)).trans ((Bh _ _ _ (by simp;omega)).trans ((Bh _ _ _ (by simp;omega)).trans (qe _ _ aA.symm)));have am:=(I.block (o+1) (by simp;omega)).trans ((Bh _ _ _ (by simp;omega)).trans (qe _ _ (by simp;omega)));have ai:=(I.block (o+1+1) (by simp;omega)).trans (qe _ _ (by simp;omega));have ax:o+3≤X.heap.size:=by have:=I.size;simp at this;omega
 have ak:Below w.heap.size w X:=((((Below.refl w.heap.size w).alloc Nl _).alloc (by simp) _).alloc (by simp;omega) _).trans (I.mono (by simp;omega));clear I HC;go_wp2_with ((with_reducible show wpList _ _ _ (Oper.mk none (Op.store 298 _ _) _ _ _ _::_) _ _);refine wpList_store_row rfl 298 _ _ rfl X.heap.size (qi .u32 L0) rfl rfl 298 _ (Wn _ _) (by rw[qf,Z.1];kernel_rfl) (by rw[qf,Z.1];rfl) qA ?_)
 clear J;refine qm ?_;intro W hW;obtain⟨D,ae⟩:=Ex X.heap.size;have J:W.heap[o]? =some (.cells #[.int .u32 (wd h 0),.int .u32 (wd h 1),.int .u32 (wd h 2),.int .u32 (wd h 3),.int .u32 (wd h 4),.int .u32 (wd h 5),.int .u32 (wd h 6),.int .u32 (wd h 7)] 284 (0,0)):=by
  rw[hW];exact(setRow_other (X.alloc _) _ _ _ (by omega)).trans ((Bh _ _ _ (by omega)).trans ao)
 have hm:W.heap[o+1]? =some (.cells (qi .u32 M) 298 (0,0)):=by
  rw[hW];exact(setRow_other (X.alloc _) _ _ _ (by omega)).trans ((Bh _ _ _ (by omega)).trans am)
 have hr:W.heap[o+1+1]? =some (.cells #[.int .u32 0,.int .u32 0,.int .u32 0,.int .u32 0,.int .u32 0,.int .u32 0,.int .u32 0,.int .u32 0] 284 (0,0)):=by
  rw[hW];exact(setRow_other (X.alloc _) _ _ _ (by omega)).trans ((Bh _ _ _ (by omega)).trans ai)
 have hv:W.heap[D]? =some (.cells (qi .u32 L0) 298 (0,0)):=by
  rw[hW,←ae];exact setRow_heap _ _ _ _ _ _ (Wn _ _)
 have hB:Below w.heap.size w W:=by
  rw[hW];exact below_setRow (ak.alloc (by omega) _) (by omega) _
 rw[←zQ Y]at J;rw[ae];have aH:o+3≤D:=by omega
 clear hW ao am ai ax ak ae;have HH:=hid J;have HM:=hid hm;have HR:=hid hr;have HV:=hid hv;have HB:=hid hB;have aI:D<W.heap.size:=(Ai hv).1;clear J hm hr hv hB;go_loopw [12] (fun i wr=> ∃j:Nat,i= .int .i64 j∧j≤10∧wr.heap[D]? =some (.cells (qi .u32 (mixSmall.rounds L0 M j)) 298 (0,0))∧But D W wr) (fun i _=>10 - (intOf i).toNat)
 case atStart=>exact⟨0,rfl,Nat.zero_le _,HV.out,But.refl _ _⟩
 case round=>
  obtain⟨j,rfl,hj,hv,hB⟩:=hrel;have hm:=(hB.block (o+1) (by omega) (by omega)).trans HM.out;have q:=hid hv;have aj:=hid hm;have O:=hid hB;clear hv hm hB;by_cases aE:j<10
  ·have U:=QW Ql Z (M:=M) j;obtain⟨R1,aa⟩:=Ex (mixSmall.rounds L0 M j);rw[aa]at U q;have az:=hid aa;clear aa;go_wp2_with (first
    | ((with_reducible show wpList _ _ _ (Oper.mk (some 23) _ _ _ _ _::_) _ _);refine wpList_load_row rfl 298 _ rfl D rfl _ _ _ _ q.out Tryz.underlying298 rfl (by rw[qf,U.1];kernel_rfl) ?_)
    | ((with_reducible show wpList _ _ _ (Oper.mk (some 24) _ _ _ _ _::_) _ _);refine wpList_load_row rfl 298 _ rfl (o+1) rfl _ _ _ _ aj.out Tryz.underlying298 rfl (by rw[qf,hM.1];kernel_rfl) ?_))
   refine(qe7 R1 M U hM j (by omega) _).mono ?_;rintro e2 w2 ⟨rfl,ab⟩
   have aq:=(ab.block D (Ai q.out).1).trans q.out;have aD:=hid (O.out.trans (But.of_below (b:=D) ab));clear ab;have ah:Words 32 16 (mixSmall.round R1 M j):=qF Ql U (M:=M) j 8;go_wp2_with ((with_reducible show wpList _ _ _ (Oper.mk none (Op.store 298 _ _) _ _ _ _::_) _ _);refine wpList_store_row rfl 298 _ _ rfl D (qi .u32 (mixSmall.round R1 M j)) rfl rfl 298 _ aq (by rw[qf,ah.1];kernel_rfl) (by simp only[qf,ah.1,U.1]) qA ?_)
   exact⟨⟨j+1,rfl,by omega,by rw[show mixSmall.rounds L0 M (j+1)=mixSmall.round (mixSmall.rounds L0 M j) M j from rfl,az.out];exact setRow_heap _ _ _ _ _ _ aq,aD.out.setRow _⟩,by simp[intOf];omega⟩
  ·obtain rfl:j=10:=by omega
   have hV:=QW Ql Z (M:=M) 10;obtain⟨V,af⟩:=Ex (mixSmall.rounds L0 M 10);have au:=hid (show Ending.returned (.agg (qi .u32 (Yz .u32 h V 8)))= .returned (.agg (qi .u32 (Yz .u32 h (mixSmall.rounds L0 M 10) 8))) by rw[af]);rw[af]at hV q;clear af;have ag:=(O.out.block o (by omega) (by omega)).trans HH.out;have ad:=(O.out.block (o+1+1) (by omega) (by omega)).trans HR.out;have an:Below w.heap.size w wr:=HB.out.trans (O.out.below (by omega) HB.out.size);have av:=hid ag;have aB:=hid q.out;have aC:=hid ad;have ap:=hid an;have aG:D<wr.heap.size:=(Ai q.out).1;have aF:o+1+1<wr.heap.size:=(Ai ad).1;clear ag ad an q aj O HH HR HM HV HB;have hF:=QL (k:= .u32) (fun z=>IntKind.wrap_u32 z) (v:=V) Y 8;go_wp2_with (first
    | ((with_reducible show wpList _ _ _ (Oper.mk (some 29) _ _ _ _ _::_) _ _);refine wpList_load_row rfl 284 _ rfl o rfl _ _ _ _ av.out Tryz.underlying284 rfl (by rw[qf,Y.1];kernel_rfl) ?_)
    | ((with_reducible show wpList _ _ _ (Oper.mk (some 30) _ _ _ _ _::_) _ _);refine wpList_load_row rfl 298 _ rfl D rfl _ _ _ _ aB.out Tryz.underlying298 rfl (by rw[qf,hV.1];kernel_rfl) ?_))
   refine(qhm h V Y hV _).mono ?_;rintro e6 w6 ⟨rfl,ac⟩
   have al:=(ac.block (o+1+1) (by omega)).trans aC.out;have aw:=hid (ap.out.trans (ac.mono ap.out.size));clear ac;go_wp2_with ((with_reducible show wpList _ _ _ (Oper.mk none (Op.store 284 _ _) _ _ _ _::_) _ _);refine wpList_store_row rfl 284 _ _ rfl (o+1+1) (qi .u32 (Yz .u32 h V 8)) rfl rfl 284 _ al (by rw[qf,hF.1];kernel_rfl) (by rw[qf,hF.1];rfl) qA ?_)
   exact Bp (results_cell_row rfl _ _ _ _ _ _ _ rfl (setRow_heap _ _ _ _ _ _ al) Tryz.underlying284 rfl (by rw[qf,hF.1];kernel_rfl)) rfl ⟨au.out,below_setRow (aw.out.mono (by omega)) (by omega) _⟩
end Go.Proofs.YthjoojnlnlmljaaGreat
