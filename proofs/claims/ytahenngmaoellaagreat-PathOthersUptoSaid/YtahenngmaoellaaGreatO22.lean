/- Lemmas. No condition. -/
import Derived.Test.YtahenngmaoellaaGreatO20
import Derived.Test.YtahenngmaoellaaGreatO21
set_option linter.all false
set_option maxRecDepth 100000
set_option maxHeartbeats 0
namespace Go.Proofs.YtahenngmaoellaaGreat
open Go.ChangeShapes Go.WideShapes Go.ChangeAt Go.RowKit Go.Joins
open Go.Lib (hid)
variable{p:Nat->Oper->Prop}{n s b i:Nat}{o:Oper}{l:List Oper}{T:TypeId}{cs:Array Value}{W W':World}{L:List Value}{f g:Bool}
attribute [local go_sem] Oper.semAt_some
def qdB (p:Nat->Oper->Prop):Nat->List Oper->Prop
 | _,[]=>True
 | n,o::l=>p n o/\qdB p (n+1) l
theorem qh (h:p n o)(q:qdB p (n+1) l):qdB p n (o::l):=⟨h,q⟩
theorem Jl :qdB p n []:=trivial
theorem qfI {p:Nat->Oper->Prop}: ∀(l:List Oper) (n:Nat),qdB p n l-> ∀i o,l[i]? =some o->p (n+i) o
 | [],_,_,i,o,h=>by simp at h
 | a::l,n,h,0,o,e=>by simp at e;subst e;exact h.1
 | a::l,n,h,i+1,o,e=>by
  have:=qfI l (n+1) h.2 i o (by simpa using e)
  rw[show n+(i+1)=n+1+i by omega];exact this
theorem Z7 (h:qdB p 0 l): ∀i o,l[i]? =some o->p i o:=fun i o hi=>by
 have:=qfI l 0 h i o hi
 rwa[Nat.zero_add]at this
theorem ZS {q:Nat->Option Bool}(h:o.guard=none):Region.wanted o q=true:=by unfold Region.wanted;rw[h]
def qcB (W:World)(b:Nat)(T:TypeId)(cs:Array Value):Prop:=W.heap[b]? =some (.cells cs T (0,0))
def zJ (s b:Nat)(T:TypeId)(cs:Array Value)(L:List Value)(i:Nat)(v:Value)(W:World):Prop:=
 if i=s then qcB W b T cs else match L[i]? with|some g=>v=g|none=>True
theorem qbf (L:List Value)(o:Below W.heap.size W W')(i:Nat): ∀j u,j≠i->zJ s b T cs L j u W->zJ s b T cs L j u W':=by
 intro j u _ h;unfold zJ at*;by_cases e:j=s
 ·rw[if_pos e]at h⊢;exact(o.block b (Ai h).1).trans h
 ·rw[if_neg e]at h⊢;exact h
theorem qbe (L:List Value): ∀j u,j≠s->zJ s b T cs L j u W->zJ s b T cs L j u W':=by
 intro j u e h;unfold zJ at*;rw[if_neg e]at h⊢;exact h
theorem qdr (o:i=s)(v:Value)(W:World)(h:zJ s b T cs L i v W):zJ s b T cs L i undef W:=by
 unfold zJ at*;rw[if_pos o]at h⊢;exact h
theorem qbd {v:Value}(h:qcB W b T cs):zJ s b T cs L s v W:=by
 unfold zJ;rw[if_pos rfl];exact h
def RS (b:Nat)(T:TypeId)(cs:Array Value)(w:World)(f:Bool)(W:World):Prop:=But b w W/\(f=false->qcB W b T cs)
theorem RS.next {w:World}(h:RS b T cs w f W)(o:Below W.heap.size W W')(q:g=false->f=false):RS b T cs w g W':=
 ⟨h.1.trans (But.of_below o),fun e=>(o.block b (Ai (h.2 (q e))).1).trans (h.2 (q e))⟩
theorem RS.same {w:World}(h:RS b T cs w f W)(o:g=false->f=false):RS b T cs w g W:=⟨h.1,fun e=>h.2 (o e)⟩
theorem Qv {b:Bool}(h:(f||b)=false):f=false:=by cases f<;>simp_all
theorem But.setRow {w:World}(h:But b w W)(cs:Array Value):But b w (W.setRow b cs):=h.trans ⟨rfl,rfl,rfl,by simp[World.setRow],fun g _ o=>setRow_other _ _ _ _ o⟩
theorem qf9 (Y M:List Int)(ak:Words 64 16 Y)(hM:Words 64 16 M)(r:Nat)(hr:r<=11)(w:World):
  Calls Tryz.prog 214 #[.agg (qj .u64 Y),.agg (qj .u64 M),.int .i64 r] w fun e w'=>e= .returned (.tuple #[.agg (qj .u64 (mixBig.round Y M r)),.int .i64 0])/\Below w.heap.size w w':=by
 obtain⟨O,aE⟩:=Ex w.heap.size;have aO: ¬((r:Int)<0):=by omega
 have aR: ¬(11<(r:Int)):=by omega
 have HS:=hid (fun i (hi:i<16)=>qa2 r i (by omega) hi);go_enter Tryz.func214,Tryz.ntmps214
 go_wp2_with fail
 refine qm ?_;intro W hW;have hv:W.heap[O]? =some (.cells (qj .u64 Y) 257 (0,0)):=by
  rw[hW];exact(Bh _ _ _ (by simp;omega)).trans ((Bh _ _ _ (by simp;omega)).trans (qe _ _ aE.symm))
 have hm:W.heap[O+1]? =some (.cells (qj .u64 M) 257 (0,0)):=by
  rw[hW];exact(Bh _ _ _ (by simp;omega)).trans (qe _ _ (by simp;omega))
 have ac:W.heap[O+1+1]? =some (.cells Ka 257 (0,0)):=by
  rw[hW];exact qe _ _ (by simp;omega)
 have hB:Below w.heap.size w W:=by
  rw[hW];exact(((Below.refl w.heap.size w).alloc Nl _).alloc (by simp) _).alloc (by simp;omega) _
 have aJ:O+1+1<W.heap.size:=(Ai ac).1;clear hW;have HV:=hid hv;have HM:=hid hm;have HR:=hid ac;have HB:=hid hB;clear hv hm ac hB;go_loopw [8] (fun i wr=> ∃j:Nat,i= .int .i64 j/\j<=8/\wr.heap[O]? =some (.cells (qj .u64 (mixBig.turns Y M r j)) 257 (0,0))/\But O W wr) (fun i _=>8 - (intOf i).toNat)
 case atStart=>exact⟨0,rfl,Nat.zero_le _,HV.out,But.refl _ _⟩
 case round=>
  obtain⟨j,rfl,hj,hv,hB⟩:=hrel;have ai:=hid hv;have ae:=hid hB;have aP:=hB.size;clear hv hB;by_cases aC:j<8
  ·have U:=qJ QM ak (M:=M) r j;have V:mixBig.turns Y M r (j+1)=mixBig.step (mixBig.turns Y M r j) (plA j) (plB j) (plC j) (plD j) (wd M (qv r (2*j))) (wd M (qv r (2*j+1))):=rfl;have am:=hid V;have aa:=qJ QM ak (M:=M) r (j+1);rw[V]at aa;clear V;obtain⟨p1,p2,p3,p4,p5,p6,p7,p8,p9,aB⟩:=qeX j aC;have HG:=hid (fun W=>qkl (mixBig.turns Y M r j) U (plA j) (plB j) (plC j) (plD j) p1 p2 p3 p4 p5 p6 p7 p8 p9 aB (wd M (qv r (2*j))) (wd M (qv r (2*j+1))) W);have aL:=hid (HS.out (2*j) (by omega));have aK:=hid (HS.out (2*j+1) (by omega));have s0:=qW r (2*j);have s1:=qW r (2*j+1);have t0:((qv r (2*j):Nat):Int)<16:=by omega
   have t1:((qv r (2*j+1):Nat):Int)<16:=by omega
   have hx:(qj .u64 M)[qv r (2*j)]? =some (.int .u64 (wd M (qv r (2*j)))):=qF hM s0;have hy:(qj .u64 M)[qv r (2*j+1)]? =some (.int .u64 (wd M (qv r (2*j+1)))):=qF hM s1;have HX:=hid hx;have HY:=hid hy;obtain⟨L,ay⟩:=Ex (mixBig.turns Y M r j);rw[ay]at ai U HG am aa;obtain⟨X,au⟩:=Ex (mixBig.step L (plA j) (plB j) (plC j) (plD j) (wd M (qv r (2*j))) (wd M (qv r (2*j+1))));rw[au]at HG am aa;obtain⟨mx,av⟩:=Ex (wd M (qv r (2*j)));obtain⟨my,ap⟩:=Ex (wd M (qv r (2*j+1)));rw[av]at HX HG;rw[ap]at HY HG;have HP:=hid (qdR j aC);have aS:IntKind.i64.wrap (2*(j:Int))=((2*j:Nat):Int):=by rw[IntKind.wrap_i64];omega
   have aQ:IntKind.i64.wrap (((2*j:Nat):Int)+1)=((2*j+1:Nat):Int):=by rw[IntKind.wrap_i64];omega
   clear ay au av ap hx hy p1 p2 p3 p4 p5 p6 p7 p8 p9 aB;generalize qv r (2*j)=sx at*;generalize qv r (2*j+1)=sy at*;generalize 2*j+1=k3 at*;generalize 2*j=k2 at*;generalize plA j=pa at*;generalize plB j=pb at*;generalize plC j=pc at*;generalize plD j=pd at*;go_wp2_with fail
   refine(HP.out _).mono ?_;rintro e2 w2 ⟨rfl,ab⟩;have az:=(ab.block O (by omega)).trans ai.out;have ax:=(ab.block (O+1) (by omega)).trans ((ae.out.block (O+1) (by omega) (by omega)).trans HM.out);have aw:=ae.out.trans (But.of_below ab);have aM:=ab.size;clear ab;go_wp2_with fail
   refine qm ?_;intro Wp Z;obtain⟨S,aj⟩:=Ex w2.heap.size;have aD:Wp.heap[O]? =some (.cells (qj .u64 L) 257 (0,0)):=by rw[Z];exact(Bh _ _ _ (by omega)).trans az
   have ah:Wp.heap[O+1]? =some (.cells (qj .u64 M) 257 (0,0)):=by rw[Z];exact(Bh _ _ _ (by omega)).trans ax
   have al:Wp.heap[S]? =some (.cells #[.int .i64 pa,.int .i64 pb,.int .i64 pc,.int .i64 pd] 334 (0,0)):=by rw[Z];exact qe _ _ aj.symm
   have aA:But O W Wp:=by rw[Z];exact aw.alloc _
   have ad:S<Wp.heap.size:=(Ai al).1;have an:O+1<Wp.heap.size:=(Ai ah).1;have af:S≠O:=by omega
   rw[aj];have aG:=hid aD;have aq:=hid ah;have ag:=hid al;have aI:=hid aA;clear Z az ax aw aM aj aD ah al aA;refine jg (s:=26) (ds:=[24,25,26,27,28,29,30,31,32,33,34,35,36,37,38,39,40,41,42,43,44,45,46,23,47,48]) (R:=RS O 257 (qj .u64 L) Wp) (Good:=zJ 26 O 257 (qj .u64 X) [.agg (qj .u64 L),.pointer (some ⟨S,0,none⟩),.int .i64 pa,.pointer (some ⟨S,1,none⟩),.int .i64 pb,.pointer (some ⟨S,2,none⟩),.int .i64 pc,.pointer (some ⟨S,3,none⟩),.int .i64 pd,.int .i64 r,.int .i64 j,.int .i64 k2,.int .i64 sx,.pointer (some ⟨O+1,sx,none⟩),.int .u64 mx,.int .i64 r,.int .i64 j,.int .i64 k2,.int .i64 k3,.int .i64 sy,.pointer (some ⟨O+1,sy,none⟩),.int .u64 my,.tuple #[.agg (qj .u64 X),.int .i64 0],.tuple #[.agg (qj .u64 X),.int .i64 0],.agg (qj .u64 X),.int .i64 0]) rfl (by decide) (by kernel_rfl) (by kernel_rfl) ?_ ?_ ?_ ?_
   case refine_1=>exact⟨(But.refl O Wp).trans (But.of_below Br.drew),fun _=>aG.out⟩
   case refine_2=>
    refine Z7 (p:=_) ?_;refine qh ?_ (qh ?_ (qh ?_ (qh ?_ (qh ?_ (qh ?_ (qh ?_ (qh ?_ (qh ?_ (qh ?_ (qh ?_ (qh ?_ (qh ?_ (qh ?_ (qh ?_ (qh ?_ (qh ?_ (qh ?_ (qh ?_ (qh ?_ (qh ?_ (qh ?_ (qh ?_ (qh ?_ (qh ?_ (qh ?_ (qh ?_ (Jl)))))))))))))))))))))))))))
    ·intro f x W' I D q K G;clear q;have V:=I.2 (D (by kernel_rfl));simp only[lay,Act.put,Ls]at G⊢;rw[if_pos (ZS rfl)];refine wp_load_row 257 _ rfl O rfl _ _ _ _ V Tryz.underlying257 rfl (by rw[qg,U.1];kernel_rfl) ?_;exact G _ _ (I.same Qv) (fun _ _ _ h=>h) rfl
    ·intro f x W' I D q K G;clear q;clear D;simp only[lay,Act.put,Ls]at G⊢;go_simp
     exact G _ _ (I.same Qv) (fun _ _ _ h=>h) rfl
    ·intro f x W' I D q K G;have J:x 25= .pointer (some ⟨S,0,none⟩):=q ⟨1,.data⟩ (by simp) rfl _ rfl;clear q;have cP:=(qR ((I.1.block S ad af).trans ag.out)).1;clear D;simp only[lay,Act.put,Ls,J]at G⊢;go_simp
     exact G _ _ (I.same Qv) (fun _ _ _ h=>h) rfl
    ·intro f x W' I D q K G;clear q;clear D;simp only[lay,Act.put,Ls]at G⊢;go_simp
     exact G _ _ (I.same Qv) (fun _ _ _ h=>h) rfl
    ·intro f x W' I D q K G;have J:x 27= .pointer (some ⟨S,1,none⟩):=q ⟨3,.data⟩ (by simp) rfl _ rfl;clear q;have cP:=(qR ((I.1.block S ad af).trans ag.out)).1;clear D;simp only[lay,Act.put,Ls,J]at G⊢;go_simp
     exact G _ _ (I.same Qv) (fun _ _ _ h=>h) rfl
    ·intro f x W' I D q K G;clear q;clear D;simp only[lay,Act.put,Ls]at G⊢;go_simp
     exact G _ _ (I.same Qv) (fun _ _ _ h=>h) rfl
    ·intro f x W' I D q K G;have J:x 29= .pointer (some ⟨S,2,none⟩):=q ⟨5,.data⟩ (by simp) rfl _ rfl;clear q;have cP:=(qR ((I.1.block S ad af).trans ag.out)).1;clear D;simp only[lay,Act.put,Ls,J]at G⊢;go_simp
     exact G _ _ (I.same Qv) (fun _ _ _ h=>h) rfl
    ·intro f x W' I D q K G;clear q;clear D;simp only[lay,Act.put,Ls]at G⊢;go_simp
     exact G _ _ (I.same Qv) (fun _ _ _ h=>h) rfl
    ·intro f x W' I D q K G;have J:x 31= .pointer (some ⟨S,3,none⟩):=q ⟨7,.data⟩ (by simp) rfl _ rfl;clear q;have cP:=(qR ((I.1.block S ad af).trans ag.out)).1;clear D;simp only[lay,Act.put,Ls,J]at G⊢;go_simp
     exact G _ _ (I.same Qv) (fun _ _ _ h=>h) rfl
    ·intro f x W' I D q K G;clear q;clear D;simp only[lay,Act.put,Ls]at G⊢;go_simp
     exact G _ _ (I.same Qv) (fun _ _ _ h=>h) rfl
    ·intro f x W' I D q K G;clear q;clear D;simp only[lay,Act.put,Ls]at G⊢;go_simp
     exact G _ _ (I.same Qv) (fun _ _ _ h=>h) rfl
    ·intro f x W' I D q K G;have J:x 34= .int .i64 j:=q ⟨10,.data⟩ (by simp) rfl _ rfl;clear q;clear D;simp only[lay,Act.put,Ls,J]at G⊢;go_simp
     exact G _ _ (I.same Qv) (fun _ _ _ h=>h) rfl
    ·intro f x W' I D q K G;have J:x 33= .int .i64 r:=q ⟨9,.data⟩ (by simp) rfl _ rfl;have g1:x 35= .int .i64 k2:=q ⟨11,.data⟩ (by simp) rfl _ rfl;clear q;clear D;simp only[lay,Act.put,Ls,J,g1]at G⊢;go_simp
     refine(aL.out W').mono ?_;rintro e4 w4 ⟨rfl,rfl⟩
     exact G _ _ (I.same Qv) (fun _ _ _ h=>h) rfl
    ·intro f x W' I D q K G;have J:x 36= .int .i64 sx:=q ⟨12,.data⟩ (by simp) rfl _ rfl;clear q;clear D;simp only[lay,Act.put,Ls,J]at G⊢;go_simp
     exact G _ _ (I.same Qv) (fun _ _ _ h=>h) rfl
    ·intro f x W' I D q K G;have J:x 37= .pointer (some ⟨O+1,sx,none⟩):=q ⟨13,.data⟩ (by simp) rfl _ rfl;clear q;have cM:=(qq ((I.1.block (O+1) an (by omega)).trans aq.out) sx).trans HX.out;clear D;simp only[lay,Act.put,Ls,J]at G⊢;go_simp
     exact G _ _ (I.same Qv) (fun _ _ _ h=>h) rfl
    ·intro f x W' I D q K G;clear q;clear D;simp only[lay,Act.put,Ls]at G⊢;go_simp
     exact G _ _ (I.same Qv) (fun _ _ _ h=>h) rfl
    ·intro f x W' I D q K G;clear q;clear D;simp only[lay,Act.put,Ls]at G⊢;go_simp
     exact G _ _ (I.same Qv) (fun _ _ _ h=>h) rfl
    ·intro f x W' I D q K G;have J:x 40= .int .i64 j:=q ⟨16,.data⟩ (by simp) rfl _ rfl;clear q;clear D;simp only[lay,Act.put,Ls,J]at G⊢;go_simp
     exact G _ _ (I.same Qv) (fun _ _ _ h=>h) rfl
    ·intro f x W' I D q K G;have J:x 41= .int .i64 k2:=q ⟨17,.data⟩ (by simp) rfl _ rfl;clear q;clear D;simp only[lay,Act.put,Ls,J]at G⊢;go_simp
     exact G _ _ (I.same Qv) (fun _ _ _ h=>h) rfl
    ·intro f x W' I D q K G;have J:x 39= .int .i64 r:=q ⟨15,.data⟩ (by simp) rfl _ rfl;have g1:x 42= .int .i64 k3:=q ⟨18,.data⟩ (by simp) rfl _ rfl;clear q;clear D;simp only[lay,Act.put,Ls,J,g1]at G⊢;go_simp
     refine(aK.out W').mono ?_;rintro e4 w4 ⟨rfl,rfl⟩
     exact G _ _ (I.same Qv) (fun _ _ _ h=>h) rfl
    ·intro f x W' I D q K G;have J:x 43= .int .i64 sy:=q ⟨19,.data⟩ (by simp) rfl _ rfl;clear q;clear D;simp only[lay,Act.put,Ls,J]at G⊢;go_simp
     exact G _ _ (I.same Qv) (fun _ _ _ h=>h) rfl
    ·intro f x W' I D q K G;have J:x 44= .pointer (some ⟨O+1,sy,none⟩):=q ⟨20,.data⟩ (by simp) rfl _ rfl;clear q;have cM:=(qq ((I.1.block (O+1) an (by omega)).trans aq.out) sy).trans HY.out;clear D;simp only[lay,Act.put,Ls,J]at G⊢;go_simp
     exact G _ _ (I.same Qv) (fun _ _ _ h=>h) rfl
    ·intro f x W' I D q K G;have J:x 24= .agg (qj .u64 L):=q ⟨0,.data⟩ (by simp) rfl _ rfl;have g1:x 26= .int .i64 pa:=q ⟨2,.data⟩ (by simp) rfl _ rfl;have g2:x 28= .int .i64 pb:=q ⟨4,.data⟩ (by simp) rfl _ rfl;have g3:x 30= .int .i64 pc:=q ⟨6,.data⟩ (by simp) rfl _ rfl;have g4:x 32= .int .i64 pd:=q ⟨8,.data⟩ (by simp) rfl _ rfl;have g5:x 38= .int .u64 mx:=q ⟨14,.data⟩ (by simp) rfl _ rfl;have g6:x 45= .int .u64 my:=q ⟨21,.data⟩ (by simp) rfl _ rfl;clear q;clear D;simp only[lay,Act.put,Ls,J,g1,g2,g3,g4,g5,g6]at G⊢;go_simp
     refine(HG.out W').mono ?_;rintro e4 w4 ⟨rfl,ao⟩
     exact G _ _ (I.next ao Qv) (qbf _ ao _) rfl
    ·intro f x W' I D q K G;have J:x 46= .tuple #[.agg (qj .u64 X),.int .i64 0]:=q ⟨22,.data⟩ (by simp) rfl _ rfl;clear q;clear D;simp only[lay,Act.put,Ls,J]at G⊢;go_simp
     exact G _ _ (I.same Qv) (fun _ _ _ h=>h) rfl
    ·intro f x W' I D q K G;have J:x 23= .tuple #[.agg (qj .u64 X),.int .i64 0]:=q ⟨23,.data⟩ (by simp) rfl _ rfl;clear q;clear D;simp only[lay,Act.put,Ls,J]at G⊢;go_simp
     exact G _ _ (I.same Qv) (fun _ _ _ h=>h) rfl
    ·intro f x W' I D q K G;have J:x 23= .tuple #[.agg (qj .u64 X),.int .i64 0]:=q ⟨23,.data⟩ (by simp) rfl _ rfl;clear q;clear D;simp only[lay,Act.put,Ls,J]at G⊢;go_simp
     exact G _ _ (I.same Qv) (fun _ _ _ h=>h) rfl
    ·intro f x W' I D q K G;have J:x 47= .agg (qj .u64 X):=q ⟨24,.data⟩ (by simp) rfl _ rfl;clear q;have V:=I.2 (D (by kernel_rfl));simp only[lay,Act.put,Ls,J]at G⊢;rw[if_pos (ZS rfl)];refine wp_store_row 257 _ _ rfl O (qj .u64 X) rfl rfl _ _ V (by rw[qg,aa.1];kernel_rfl) (by simp only[qg,aa.1,U.1]) qA ?_;exact G undef _ ⟨I.1.setRow _,fun e=>by simp at e⟩ (qbe _) (qbd (setRow_heap _ _ _ _ _ _ V))
   case refine_3=>
    refine Z7 (p:=fun i (o:Oper)=> ∀v W,o.dst=none->zJ 26 O 257 (qj .u64 X) _ i v W->zJ 26 O 257 (qj .u64 X) _ i undef W) ?_|>fun h i o v W hi=>h i o hi v W
    refine qh ?_ (qh ?_ (qh ?_ (qh ?_ (qh ?_ (qh ?_ (qh ?_ (qh ?_ (qh ?_ (qh ?_ (qh ?_ (qh ?_ (qh ?_ (qh ?_ (qh ?_ (qh ?_ (qh ?_ (qh ?_ (qh ?_ (qh ?_ (qh ?_ (qh ?_ (qh ?_ (qh ?_ (qh ?_ (qh ?_ (qh ?_ (Jl)))))))))))))))))))))))))));all_goals first|(intro v W h;cases h;done)|exact fun v W _ h=>qdr rfl v W h
   case refine_4=>
    intro f x W' I hG;have hS:qcB W' O 257 (qj .u64 X):=hG 26 _ rfl;have aN:=hid hS;have aH:=hid (aI.out.trans I.1);clear hS I hG;simp only[lay,Act.put,Ls];go_wp2
    exact⟨⟨j+1,rfl,by omega,by rw[am.out];exact aN.out,aH.out⟩,by simp[intOf];omega⟩
  ·obtain rfl:j=8:=by omega
   have U:=qJ QM ak (M:=M) r 8;have HL:=hid (show Ending.returned (.tuple #[.agg (qj .u64 (mixBig.turns Y M r 8)),.int .i64 0])= .returned (.tuple #[.agg (qj .u64 (mixBig.round Y M r)),.int .i64 0]) from rfl);have ar:=(ae.out.block (O+1+1) aJ (by omega)).trans HR.out;have aF:=hid (HB.out.trans (ae.out.below (by omega) HB.out.size));generalize mixBig.turns Y M r 8=L at*;go_upto_region 8 with(fail)
   apply wp_region_lit
   refine wpList_load_row rfl 257 _ rfl O rfl _ _ _ _ ai.out Tryz.underlying257 rfl (by rw[qg,U.1];kernel_rfl) ?_;refine wpList_store_row rfl 257 _ _ rfl (O+1+1) (qj .u64 L) rfl rfl 257 _ ar (by rw[qg,U.1];kernel_rfl) (by rw[qg,U.1];rfl) qA ?_;simp only[Act.put,Ls];go_wp2_with fail
   exact Bp (qI rfl _ _ _ _ _ _ _ rfl (setRow_heap _ _ _ _ _ _ ar) Tryz.underlying257 rfl (by rw[qg,U.1];kernel_rfl)) rfl ⟨Eq.trans (b:= .returned (.tuple #[.agg (qj .u64 L),.int .i64 0])) rfl HL.out,below_setRow (aF.out.mono (by omega)) (by omega) _⟩
theorem qga (X M:List Int)(ae:Words 32 16 X)(hM:Words 32 16 M)(r:Nat)(hr:r<=9)(w:World):
  Calls Tryz.prog 217 #[.agg (qj .u32 X),.agg (qj .u32 M),.int .i64 r] w fun e w'=>e= .returned (.tuple #[.agg (qj .u32 (mixSmall.round X M r)),.int .i64 0])/\Below w.heap.size w w':=by
 obtain⟨J,au⟩:=Ex w.heap.size;have aD: ¬((r:Int)<0):=by omega
 have aG: ¬(9<(r:Int)):=by omega
 have HS:=hid (fun i (hi:i<16)=>qa2 r i (by omega) hi);go_enter Tryz.func217,Tryz.ntmps217
 go_wp2_with fail
 refine qm ?_;intro W hW;have hv:W.heap[J]? =some (.cells (qj .u32 X) 302 (0,0)):=by
  rw[hW];exact(Bh _ _ _ (by simp;omega)).trans ((Bh _ _ _ (by simp;omega)).trans (qe _ _ au.symm))
 have hm:W.heap[J+1]? =some (.cells (qj .u32 M) 302 (0,0)):=by
  rw[hW];exact(Bh _ _ _ (by simp;omega)).trans (qe _ _ (by simp;omega))
 have Z:W.heap[J+1+1]? =some (.cells Kd 302 (0,0)):=by
  rw[hW];exact qe _ _ (by simp;omega)
 have hB:Below w.heap.size w W:=by
  rw[hW];exact(((Below.refl w.heap.size w).alloc Nl _).alloc (by simp) _).alloc (by simp;omega) _
 have az:J+1+1<W.heap.size:=(Ai Z).1;clear hW;have HV:=hid hv;have HM:=hid hm;have HR:=hid Z;have HB:=hid hB;clear hv hm Z hB;go_loopw [8] (fun i wr=> ∃j:Nat,i= .int .i64 j/\j<=8/\wr.heap[J]? =some (.cells (qj .u32 (mixSmall.turns X M r j)) 302 (0,0))/\But J W wr) (fun i _=>8 - (intOf i).toNat)
 case atStart=>exact⟨0,rfl,Nat.zero_le _,HV.out,But.refl _ _⟩
 case round=>
  obtain⟨j,rfl,hj,hv,hB⟩:=hrel;have ad:=hid hv;have ab:=hid hB;have aE:=hB.size;clear hv hB;by_cases aq:j<8
  ·have S:=qJ Qr ae (M:=M) r j;have U:mixSmall.turns X M r (j+1)=mixSmall.step (mixSmall.turns X M r j) (plA j) (plB j) (plC j) (plD j) (wd M (qv r (2*j))) (wd M (qv r (2*j+1))):=rfl;have af:=hid U;have Y:=qJ Qr ae (M:=M) r (j+1);rw[U]at Y;clear U;obtain⟨p1,p2,p3,p4,p5,p6,p7,p8,p9,ap⟩:=qeX j aq;have HG:=hid (fun W=>qkm (mixSmall.turns X M r j) S (plA j) (plB j) (plC j) (plD j) p1 p2 p3 p4 p5 p6 p7 p8 p9 ap (wd M (qv r (2*j))) (wd M (qv r (2*j+1))) W);have aB:=hid (HS.out (2*j) (by omega));have aA:=hid (HS.out (2*j+1) (by omega));have s0:=qW r (2*j);have s1:=qW r (2*j+1);have t0:((qv r (2*j):Nat):Int)<16:=by omega
   have t1:((qv r (2*j+1):Nat):Int)<16:=by omega
   have hx:(qj .u32 M)[qv r (2*j)]? =some (.int .u32 (wd M (qv r (2*j)))):=qF hM s0;have hy:(qj .u32 M)[qv r (2*j+1)]? =some (.int .u32 (wd M (qv r (2*j+1)))):=qF hM s1;have HX:=hid hx;have HY:=hid hy;obtain⟨L,an⟩:=Ex (mixSmall.turns X M r j);rw[an]at ad S HG af Y;obtain⟨V,al⟩:=Ex (mixSmall.step L (plA j) (plB j) (plC j) (plD j) (wd M (qv r (2*j))) (wd M (qv r (2*j+1))));rw[al]at HG af Y;obtain⟨mx,am⟩:=Ex (wd M (qv r (2*j)));obtain⟨my,ai⟩:=Ex (wd M (qv r (2*j+1)));rw[am]at HX HG;rw[ai]at HY HG;have HP:=hid (qj2 j aq);have aH:IntKind.i64.wrap (2*(j:Int))=((2*j:Nat):Int):=by rw[IntKind.wrap_i64];omega
   have aF:IntKind.i64.wrap (((2*j:Nat):Int)+1)=((2*j+1:Nat):Int):=by rw[IntKind.wrap_i64];omega
   clear an al am ai hx hy p1 p2 p3 p4 p5 p6 p7 p8 p9 ap;generalize qv r (2*j)=sx at*;generalize qv r (2*j+1)=sy at*;generalize 2*j+1=k3 at*;generalize 2*j=k2 at*;generalize plA j=pa at*;generalize plB j=pb at*;generalize plC j=pc at*;generalize plD j=pd at*;go_wp2_with fail
   refine(HP.out _).mono ?_;rintro e2 w2 ⟨rfl,rfl⟩;go_wp2_with fail
   refine qm ?_;intro Wp aa;have ar:Wp.heap[J]? =some (.cells (qj .u32 L) 302 (0,0)):=by rw[aa];exact ad.out
   have ac:Wp.heap[J+1]? =some (.cells (qj .u32 M) 302 (0,0)):=by rw[aa];exact(ab.out.block (J+1) (by omega) (by omega)).trans HM.out
   have ao:But J W Wp:=by rw[aa];exact ab.out
   have ag:J+1<Wp.heap.size:=(Ai ac).1;have aw:=hid ar;have aj:=hid ac;have ay:=hid ao;clear aa ar ac ao;refine jg (s:=22) (ds:=[32,33,34,35,36,37,38,39,40,41,42,43,44,45,46,47,48,49,50,31,51,52]) (R:=RS J 302 (qj .u32 L) Wp) (Good:=zJ 22 J 302 (qj .u32 V) [.agg (qj .u32 L),.int .i64 pa,.int .i64 pb,.int .i64 pc,.int .i64 pd,.int .i64 r,.int .i64 j,.int .i64 k2,.int .i64 sx,.pointer (some ⟨J+1,sx,none⟩),.int .u32 mx,.int .i64 r,.int .i64 j,.int .i64 k2,.int .i64 k3,.int .i64 sy,.pointer (some ⟨J+1,sy,none⟩),.int .u32 my,.tuple #[.agg (qj .u32 V),.int .i64 0],.tuple #[.agg (qj .u32 V),.int .i64 0],.agg (qj .u32 V),.int .i64 0]) rfl (by decide) (by kernel_rfl) (by kernel_rfl) ?_ ?_ ?_ ?_
   case refine_1=>exact⟨(But.refl J Wp).trans (But.of_below Br.drew),fun _=>aw.out⟩
   case refine_2=>
    refine Z7 (p:=_) ?_;refine qh ?_ (qh ?_ (qh ?_ (qh ?_ (qh ?_ (qh ?_ (qh ?_ (qh ?_ (qh ?_ (qh ?_ (qh ?_ (qh ?_ (qh ?_ (qh ?_ (qh ?_ (qh ?_ (qh ?_ (qh ?_ (qh ?_ (qh ?_ (qh ?_ (qh ?_ (qh ?_ (Jl)))))))))))))))))))))))
    ·intro f x W' I D q K G;clear q;have U:=I.2 (D (by kernel_rfl));simp only[lay,Act.put,Ls]at G⊢;rw[if_pos (ZS rfl)];refine wp_load_row 302 _ rfl J rfl _ _ _ _ U Tryz.underlying302 rfl (by rw[qg,S.1];kernel_rfl) ?_;exact G _ _ (I.same Qv) (fun _ _ _ h=>h) rfl
    ·intro f x W' I D q K G;clear q;clear D;simp only[lay,Act.put,Ls]at G⊢;go_simp
     exact G _ _ (I.same Qv) (fun _ _ _ h=>h) rfl
    ·intro f x W' I D q K G;clear q;clear D;simp only[lay,Act.put,Ls]at G⊢;go_simp
     exact G _ _ (I.same Qv) (fun _ _ _ h=>h) rfl
    ·intro f x W' I D q K G;clear q;clear D;simp only[lay,Act.put,Ls]at G⊢;go_simp
     exact G _ _ (I.same Qv) (fun _ _ _ h=>h) rfl
    ·intro f x W' I D q K G;clear q;clear D;simp only[lay,Act.put,Ls]at G⊢;go_simp
     exact G _ _ (I.same Qv) (fun _ _ _ h=>h) rfl
    ·intro f x W' I D q K G;clear q;clear D;simp only[lay,Act.put,Ls]at G⊢;go_simp
     exact G _ _ (I.same Qv) (fun _ _ _ h=>h) rfl
    ·intro f x W' I D q K G;clear q;clear D;simp only[lay,Act.put,Ls]at G⊢;go_simp
     exact G _ _ (I.same Qv) (fun _ _ _ h=>h) rfl
    ·intro f x W' I D q K G;have O:x 38= .int .i64 j:=q ⟨6,.data⟩ (by simp) rfl _ rfl;clear q;clear D;simp only[lay,Act.put,Ls,O]at G⊢;go_simp
     exact G _ _ (I.same Qv) (fun _ _ _ h=>h) rfl
    ·intro f x W' I D q K G;have O:x 37= .int .i64 r:=q ⟨5,.data⟩ (by simp) rfl _ rfl;have g1:x 39= .int .i64 k2:=q ⟨7,.data⟩ (by simp) rfl _ rfl;clear q;clear D;simp only[lay,Act.put,Ls,O,g1]at G⊢;go_simp
     refine(aB.out W').mono ?_;rintro e4 w4 ⟨rfl,rfl⟩
     exact G _ _ (I.same Qv) (fun _ _ _ h=>h) rfl
    ·intro f x W' I D q K G;have O:x 40= .int .i64 sx:=q ⟨8,.data⟩ (by simp) rfl _ rfl;clear q;clear D;simp only[lay,Act.put,Ls,O]at G⊢;go_simp
     exact G _ _ (I.same Qv) (fun _ _ _ h=>h) rfl
    ·intro f x W' I D q K G;have O:x 41= .pointer (some ⟨J+1,sx,none⟩):=q ⟨9,.data⟩ (by simp) rfl _ rfl;clear q;have cM:=(qq ((I.1.block (J+1) ag (by omega)).trans aj.out) sx).trans HX.out;clear D;simp only[lay,Act.put,Ls,O]at G⊢;go_simp
     exact G _ _ (I.same Qv) (fun _ _ _ h=>h) rfl
    ·intro f x W' I D q K G;clear q;clear D;simp only[lay,Act.put,Ls]at G⊢;go_simp
     exact G _ _ (I.same Qv) (fun _ _ _ h=>h) rfl
    ·intro f x W' I D q K G;clear q;clear D;simp only[lay,Act.put,Ls]at G⊢;go_simp
     exact G _ _ (I.same Qv) (fun _ _ _ h=>h) rfl
    ·intro f x W' I D q K G;have O:x 44= .int .i64 j:=q ⟨12,.data⟩ (by simp) rfl _ rfl;clear q;clear D;simp only[lay,Act.put,Ls,O]at G⊢;go_simp
     exact G _ _ (I.same Qv) (fun _ _ _ h=>h) rfl
    ·intro f x W' I D q K G;have O:x 45= .int .i64 k2:=q ⟨13,.data⟩ (by simp) rfl _ rfl;clear q;clear D;simp only[lay,Act.put,Ls,O]at G⊢;go_simp
     exact G _ _ (I.same Qv) (fun _ _ _ h=>h) rfl
    ·intro f x W' I D q K G;have O:x 43= .int .i64 r:=q ⟨11,.data⟩ (by simp) rfl _ rfl;have g1:x 46= .int .i64 k3:=q ⟨14,.data⟩ (by simp) rfl _ rfl;clear q;clear D;simp only[lay,Act.put,Ls,O,g1]at G⊢;go_simp
     refine(aA.out W').mono ?_;rintro e4 w4 ⟨rfl,rfl⟩
     exact G _ _ (I.same Qv) (fun _ _ _ h=>h) rfl
    ·intro f x W' I D q K G;have O:x 47= .int .i64 sy:=q ⟨15,.data⟩ (by simp) rfl _ rfl;clear q;clear D;simp only[lay,Act.put,Ls,O]at G⊢;go_simp
     exact G _ _ (I.same Qv) (fun _ _ _ h=>h) rfl
    ·intro f x W' I D q K G;have O:x 48= .pointer (some ⟨J+1,sy,none⟩):=q ⟨16,.data⟩ (by simp) rfl _ rfl;clear q;have cM:=(qq ((I.1.block (J+1) ag (by omega)).trans aj.out) sy).trans HY.out;clear D;simp only[lay,Act.put,Ls,O]at G⊢;go_simp
     exact G _ _ (I.same Qv) (fun _ _ _ h=>h) rfl
    ·intro f x W' I D q K G;have O:x 32= .agg (qj .u32 L):=q ⟨0,.data⟩ (by simp) rfl _ rfl;have g1:x 33= .int .i64 pa:=q ⟨1,.data⟩ (by simp) rfl _ rfl;have g2:x 34= .int .i64 pb:=q ⟨2,.data⟩ (by simp) rfl _ rfl;have g3:x 35= .int .i64 pc:=q ⟨3,.data⟩ (by simp) rfl _ rfl;have g4:x 36= .int .i64 pd:=q ⟨4,.data⟩ (by simp) rfl _ rfl;have g5:x 42= .int .u32 mx:=q ⟨10,.data⟩ (by simp) rfl _ rfl;have g6:x 49= .int .u32 my:=q ⟨17,.data⟩ (by simp) rfl _ rfl;clear q;clear D;simp only[lay,Act.put,Ls,O,g1,g2,g3,g4,g5,g6]at G⊢;go_simp
     refine(HG.out W').mono ?_;rintro e4 w4 ⟨rfl,ah⟩
     exact G _ _ (I.next ah Qv) (qbf _ ah _) rfl
    ·intro f x W' I D q K G;have O:x 50= .tuple #[.agg (qj .u32 V),.int .i64 0]:=q ⟨18,.data⟩ (by simp) rfl _ rfl;clear q;clear D;simp only[lay,Act.put,Ls,O]at G⊢;go_simp
     exact G _ _ (I.same Qv) (fun _ _ _ h=>h) rfl
    ·intro f x W' I D q K G;have O:x 31= .tuple #[.agg (qj .u32 V),.int .i64 0]:=q ⟨19,.data⟩ (by simp) rfl _ rfl;clear q;clear D;simp only[lay,Act.put,Ls,O]at G⊢;go_simp
     exact G _ _ (I.same Qv) (fun _ _ _ h=>h) rfl
    ·intro f x W' I D q K G;have O:x 31= .tuple #[.agg (qj .u32 V),.int .i64 0]:=q ⟨19,.data⟩ (by simp) rfl _ rfl;clear q;clear D;simp only[lay,Act.put,Ls,O]at G⊢;go_simp
     exact G _ _ (I.same Qv) (fun _ _ _ h=>h) rfl
    ·intro f x W' I D q K G;have O:x 51= .agg (qj .u32 V):=q ⟨20,.data⟩ (by simp) rfl _ rfl;clear q;have U:=I.2 (D (by kernel_rfl));simp only[lay,Act.put,Ls,O]at G⊢;rw[if_pos (ZS rfl)];refine wp_store_row 302 _ _ rfl J (qj .u32 V) rfl rfl _ _ U (by rw[qg,Y.1];kernel_rfl) (by simp only[qg,Y.1,S.1]) qA ?_;exact G undef _ ⟨I.1.setRow _,fun e=>by simp at e⟩ (qbe _) (qbd (setRow_heap _ _ _ _ _ _ U))
   case refine_3=>
    refine Z7 (p:=fun i (o:Oper)=> ∀v W,o.dst=none->zJ 22 J 302 (qj .u32 V) _ i v W->zJ 22 J 302 (qj .u32 V) _ i undef W) ?_|>fun h i o v W hi=>h i o hi v W
    refine qh ?_ (qh ?_ (qh ?_ (qh ?_ (qh ?_ (qh ?_ (qh ?_ (qh ?_ (qh ?_ (qh ?_ (qh ?_ (qh ?_ (qh ?_ (qh ?_ (qh ?_ (qh ?_ (qh ?_ (qh ?_ (qh ?_ (qh ?_ (qh ?_ (qh ?_ (qh ?_ (Jl)))))))))))))))))))))));all_goals first|(intro v W h;cases h;done)|exact fun v W _ h=>qdr rfl v W h
   case refine_4=>
    intro f x W' I hG;have hS:qcB W' J 302 (qj .u32 V):=hG 22 _ rfl;have aC:=hid hS;have ax:=hid (ay.out.trans I.1);clear hS I hG;simp only[lay,Act.put,Ls];go_wp2
    exact⟨⟨j+1,rfl,by omega,by rw[af.out];exact aC.out,ax.out⟩,by simp[intOf];omega⟩
  ·obtain rfl:j=8:=by omega
   have S:=qJ Qr ae (M:=M) r 8;have HL:=hid (show Ending.returned (.tuple #[.agg (qj .u32 (mixSmall.turns X M r 8)),.int .i64 0])= .returned (.tuple #[.agg (qj .u32 (mixSmall.round X M r)),.int .i64 0]) from rfl);have ak:=(ab.out.block (J+1+1) az (by omega)).trans HR.out;have av:=hid (HB.out.trans (ab.out.below (by omega) HB.out.size));generalize mixSmall.turns X M r 8=L at*;go_upto_region 8 with(fail)
   apply wp_region_lit
   refine wpList_load_row rfl 302 _ rfl J rfl _ _ _ _ ad.out Tryz.underlying302 rfl (by rw[qg,S.1];kernel_rfl) ?_;refine wpList_store_row rfl 302 _ _ rfl (J+1+1) (qj .u32 L) rfl rfl 302 _ ak (by rw[qg,S.1];kernel_rfl) (by rw[qg,S.1];rfl) qA ?_;simp only[Act.put,Ls];go_wp2_with fail
   exact Bp (qI rfl _ _ _ _ _ _ _ rfl (setRow_heap _ _ _ _ _ _ ak) Tryz.underlying302 rfl (by rw[qg,S.1];kernel_rfl)) rfl ⟨Eq.trans (b:= .returned (.tuple #[.agg (qj .u32 L),.int .i64 0])) rfl HL.out,below_setRow (av.out.mono (by omega)) (by omega) _⟩
theorem zt (k:IntKind)(x y:Int):bits .xor k x y=bits .xor k y x:=by simp only[bits,BitVec.xor_comm]
def ZO (h iv:List Int):Nat->List Int
 | 0=>[0,0,0,0,0,0,0,0,0,0,0,0,0,0,0,0]
 | i+1=>((ZO h iv i).set i (wd h i)).set (i+8) (wd iv i)
theorem za (h o:List Int): ∀i,(ZO h o i).length=16
 | 0=>rfl
 | i+1=>by simp[ZO,za h o i]
theorem yD {k:IntKind}{L:List Int}(h:L.length=n)(hi:i<n):(qj k L)[i]? =some (.int k (wd L i)):=by
 simp[qj,wd,Lg,List.getElem?_eq_getElem (show i<L.length by omega)]
theorem qb2 (w:World):Calls Tryz.prog 226 #[] w fun e w'=>e= .returned (.agg Ki)/\Below w.heap.size w w':=by
 go_enter Tryz.func226,Tryz.ntmps226
 go_wp2
 exact Bp (results_cell_row rfl _ _ _ _ _ _ _ rfl (Wn _ _) Tryz.underlying288 rfl rfl) rfl ⟨rfl,Br.alloc Nl _⟩
theorem qhE (h:List Int)(hh:Words 64 8 h)(lo hi:Int)(Y node:Bool)(w:World):Calls Tryz.prog 213 #[.agg (qj .u64 h),.int .u64 lo,.int .u64 hi,.bool Y,.bool node] w fun e w'=>e= .returned (.agg (qj .u64 (Y6 .u64 IVb h lo hi Y node)))/\Below w.heap.size w w':=by
 obtain⟨q,ao⟩:=Ex w.heap.size;go_enter Tryz.func213,Tryz.ntmps213
 go_wp2_with fail
 refine qm ?_;intro W r;have ak:W.heap[q]? =some (.cells (qj .u64 h) 278 (0,0)):=by
  rw[r];exact(Bh _ _ _ (by simp;omega)).trans ((Bh _ _ _ (by simp;omega)).trans (qe _ _ ao.symm))
 have ad:W.heap[q+1]? =some (.cells Ka 257 (0,0)):=by
  rw[r];exact(Bh _ _ _ (by simp;omega)).trans (qe _ _ (by simp;omega))
 have ac:W.heap[q+1+1]? =some (.cells (qj .u64 (ZO h IVb 0)) 257 (0,0)):=by
  rw[r];exact qe _ _ (by simp;omega)
 have ag:Below w.heap.size w W:=by
  rw[r];exact(((Below.refl w.heap.size w).alloc Nl _).alloc (by simp) _).alloc (by simp;omega) _
 have av:q+1+1<W.heap.size:=(Ai ac).1;clear r;have HH:=hid ak;have S:=hid ad;have J:=hid ac;have I:=hid ag;clear ak ad ac ag;go_loopw [12] (fun i wr=> ∃j:Nat,i= .int .i64 j/\j<=8/\wr.heap[q+1+1]? =some (.cells (qj .u64 (ZO h IVb j)) 257 (0,0))/\But (q+1+1) W wr) (fun i _=>8 - (intOf i).toNat)
 case atStart=>exact⟨0,rfl,Nat.zero_le _,J.out,But.refl _ _⟩
 case round=>
  obtain⟨j,rfl,hj,hv,X⟩:=hrel;have aw:=X.size;have ae:=hid hv;have an:=hid X;by_cases am:j<8
  ·have c1:wr.cell? ⟨q,j,none⟩=some (.int .u64 (wd h j)):=by
    rw[qq ((X.block q (by omega) (by omega)).trans HH.out),qF hh am]
   have c2:wr.cell? ⟨q+1+1,j,none⟩=some (.int .u64 (wd (ZO h IVb j) j)):=(qq hv _).trans (yD (za _ _ _) (by omega));have f2: ∀o,wr.frozen? ⟨q+1+1,o,none⟩=false:=(qR hv).2;have au:IntKind.i64.wrap ((j:Int)+8)=((j+8:Nat):Int):=by rw[IntKind.wrap_i64];omega
   have ar:j+8<16:=by omega
   clear hv X;go_wp2_with fail
   refine(qdb j am _).mono ?_;rintro e2 w2 ⟨rfl,aa⟩;have V:=(aa.block (q+1+1) (by simp;omega)).trans (block_setCell ae.out _);rw[Qk]at V;have aq:=hid ((an.out.set j _).trans (But.of_below (b:=q+1+1) aa));have c3:w2.cell? ⟨q+1+1,j+8,none⟩=some (.int .u64 (wd ((ZO h IVb j).set j (wd h j)) (j+8))):=(qq V _).trans (yD (n:=16) (by simp[za]) (by omega));have f3: ∀o,w2.frozen? ⟨q+1+1,o,none⟩=false:=(qR V).2;have ap:=hid V;clear V aa c1 c2 f2;go_wp2
   exact⟨⟨j+1,rfl,by omega,by rw[ZO,<-Qk];exact block_setCell ap.out _,aq.out.set _ _⟩,by simp[intOf];omega⟩
  ·obtain rfl:j=8:=by omega
   have ab:wr.heap[q+1+1]? =some (.cells #[.int .u64 (wd h 0),.int .u64 (wd h 1),.int .u64 (wd h 2),.int .u64 (wd h 3),.int .u64 (wd h 4),.int .u64 (wd h 5),.int .u64 (wd h 6),.int .u64 (wd h 7),.int .u64 7640891576956012808,.int .u64 13503953896175478587,.int .u64 4354685564936845355,.int .u64 11912009170470909681,.int .u64 5840696475078001361,.int .u64 11170449401992604703,.int .u64 2270897969802886507,.int .u64 6620516959819538809] 257 (0,0)):=hv;have ah:=hid ab;have aj:=hid ((X.block (q+1) (by omega) (by omega)).trans S.out);have af:=hid (I.out.trans (X.below (by omega) I.out.size));obtain⟨cv,fv⟩:=qR ab;clear hv X ab ae an J S I HH;go_upto_region 9 with(fail)
   refine qm ?_;intro W5 r;have Z:W5.heap[q+1+1]? =some (.cells #[.int .u64 (wd h 0),.int .u64 (wd h 1),.int .u64 (wd h 2),.int .u64 (wd h 3),.int .u64 (wd h 4),.int .u64 (wd h 5),.int .u64 (wd h 6),.int .u64 (wd h 7),.int .u64 7640891576956012808,.int .u64 13503953896175478587,.int .u64 4354685564936845355,.int .u64 11912009170470909681,.int .u64 (bits .xor .u64 5840696475078001361 lo),.int .u64 (bits .xor .u64 11170449401992604703 hi),.int .u64 2270897969802886507,.int .u64 6620516959819538809] 257 (0,0)):=by
    rw[r];exact block_setCell (i:=13) (block_setCell (i:=12) ah.out _) _
   have al:W5.heap[q+1]? =some (.cells Ka 257 (0,0)):=by
    rw[r];exact(Below.heap_setCell _ _ _ _ (by simp)).trans ((Below.heap_setCell _ _ _ _ (by simp)).trans aj.out)
   have ai:Below w.heap.size w W5:=by
    rw[r];exact(af.out.setCell (by simp;omega) _).setCell (by simp;omega) _
   clear r ah aj af cv fv;have ax:=(Ai Z).1;obtain⟨cv,fv⟩:=qR Z;have J:=hid Z;have S:=hid al;have I:=hid ai;clear Z al ai
   cases Y<;>cases node
   ·skip
    go_upto_region 13 with(fail)
    refine qm ?_;intro G r;have U:G.heap[q+1+1]? =some (.cells #[.int .u64 (wd h 0),.int .u64 (wd h 1),.int .u64 (wd h 2),.int .u64 (wd h 3),.int .u64 (wd h 4),.int .u64 (wd h 5),.int .u64 (wd h 6),.int .u64 (wd h 7),.int .u64 7640891576956012808,.int .u64 13503953896175478587,.int .u64 4354685564936845355,.int .u64 11912009170470909681,.int .u64 (bits .xor .u64 5840696475078001361 lo),.int .u64 (bits .xor .u64 11170449401992604703 hi),.int .u64 2270897969802886507,.int .u64 6620516959819538809] 257 (0,0)):=by
     rw[r];exact J.out
    have D:G.heap[q+1]? =some (.cells Ka 257 (0,0)):=by
     rw[r];exact S.out
    have O:Below w.heap.size w G:=by
     rw[r];exact I.out
    clear r J S I cv fv;apply wp_region_lit
    refine wpList_load_row rfl 257 _ rfl (q+1+1) rfl _ _ _ _ U Tryz.underlying257 rfl (by kernel_rfl) ?_;refine wpList_store_row rfl 257 _ _ rfl (q+1) _ rfl rfl 257 _ D (by kernel_rfl) (by kernel_rfl) (by kernel_rfl) ?_;simp only[Act.put,Ls];go_wp2_with fail
    exact Bp (results_cell_row rfl _ _ _ _ _ _ _ rfl (setRow_heap _ _ _ _ _ _ D) Tryz.underlying257 rfl (by kernel_rfl)) rfl ⟨rfl,below_setRow (O.mono (by omega)) (by omega) _⟩
   ·skip
    go_upto_region 13 with(fail)
    refine qm ?_;intro G r;have U:G.heap[q+1+1]? =some (.cells #[.int .u64 (wd h 0),.int .u64 (wd h 1),.int .u64 (wd h 2),.int .u64 (wd h 3),.int .u64 (wd h 4),.int .u64 (wd h 5),.int .u64 (wd h 6),.int .u64 (wd h 7),.int .u64 7640891576956012808,.int .u64 13503953896175478587,.int .u64 4354685564936845355,.int .u64 11912009170470909681,.int .u64 (bits .xor .u64 5840696475078001361 lo),.int .u64 (bits .xor .u64 11170449401992604703 hi),.int .u64 2270897969802886507,.int .u64 (bits .xor .u64 (IntKind.max .u64) 6620516959819538809)] 257 (0,0)):=by
     rw[r];exact(block_setCell (i:=15) J.out _)
    have D:G.heap[q+1]? =some (.cells Ka 257 (0,0)):=by
     rw[r];exact((Below.heap_setCell _ _ _ _ (by simp)).trans S.out)
    have O:Below w.heap.size w G:=by
     rw[r];exact(I.out.setCell (by simp;omega) _)
    clear r J S I cv fv;apply wp_region_lit
    refine wpList_load_row rfl 257 _ rfl (q+1+1) rfl _ _ _ _ U Tryz.underlying257 rfl (by kernel_rfl) ?_;refine wpList_store_row rfl 257 _ _ rfl (q+1) _ rfl rfl 257 _ D (by kernel_rfl) (by kernel_rfl) (by kernel_rfl) ?_;simp only[Act.put,Ls];go_wp2_with fail
    exact Bp (results_cell_row rfl _ _ _ _ _ _ _ rfl (setRow_heap _ _ _ _ _ _ D) Tryz.underlying257 rfl (by kernel_rfl)) rfl ⟨rfl,below_setRow (O.mono (by omega)) (by omega) _⟩
   ·skip
    go_upto_region 13 with(fail)
    refine qm ?_;intro G r;have U:G.heap[q+1+1]? =some (.cells #[.int .u64 (wd h 0),.int .u64 (wd h 1),.int .u64 (wd h 2),.int .u64 (wd h 3),.int .u64 (wd h 4),.int .u64 (wd h 5),.int .u64 (wd h 6),.int .u64 (wd h 7),.int .u64 7640891576956012808,.int .u64 13503953896175478587,.int .u64 4354685564936845355,.int .u64 11912009170470909681,.int .u64 (bits .xor .u64 5840696475078001361 lo),.int .u64 (bits .xor .u64 11170449401992604703 hi),.int .u64 (bits .xor .u64 (IntKind.max .u64) 2270897969802886507),.int .u64 6620516959819538809] 257 (0,0)):=by
     rw[r];exact(block_setCell (i:=14) J.out _)
    have D:G.heap[q+1]? =some (.cells Ka 257 (0,0)):=by
     rw[r];exact((Below.heap_setCell _ _ _ _ (by simp)).trans S.out)
    have O:Below w.heap.size w G:=by
     rw[r];exact(I.out.setCell (by simp;omega) _)
    clear r J S I cv fv;apply wp_region_lit
    refine wpList_load_row rfl 257 _ rfl (q+1+1) rfl _ _ _ _ U Tryz.underlying257 rfl (by kernel_rfl) ?_;refine wpList_store_row rfl 257 _ _ rfl (q+1) _ rfl rfl 257 _ D (by kernel_rfl) (by kernel_rfl) (by kernel_rfl) ?_;simp only[Act.put,Ls];go_wp2_with fail
    exact Bp (results_cell_row rfl _ _ _ _ _ _ _ rfl (setRow_heap _ _ _ _ _ _ D) Tryz.underlying257 rfl (by kernel_rfl)) rfl ⟨rfl,below_setRow (O.mono (by omega)) (by omega) _⟩
   ·skip
    go_upto_region 13 with(fail)
    refine qm ?_;intro G r;have U:G.heap[q+1+1]? =some (.cells #[.int .u64 (wd h 0),.int .u64 (wd h 1),.int .u64 (wd h 2),.int .u64 (wd h 3),.int .u64 (wd h 4),.int .u64 (wd h 5),.int .u64 (wd h 6),.int .u64 (wd h 7),.int .u64 7640891576956012808,.int .u64 13503953896175478587,.int .u64 4354685564936845355,.int .u64 11912009170470909681,.int .u64 (bits .xor .u64 5840696475078001361 lo),.int .u64 (bits .xor .u64 11170449401992604703 hi),.int .u64 (bits .xor .u64 (IntKind.max .u64) 2270897969802886507),.int .u64 (bits .xor .u64 (IntKind.max .u64) 6620516959819538809)] 257 (0,0)):=by
     rw[r];exact(block_setCell (i:=15) (block_setCell (i:=14) J.out _) _)
    have D:G.heap[q+1]? =some (.cells Ka 257 (0,0)):=by
     rw[r];exact((Below.heap_setCell _ _ _ _ (by simp)).trans ((Below.heap_setCell _ _ _ _ (by simp)).trans S.out))
    have O:Below w.heap.size w G:=by
     rw[r];exact((I.out.setCell (by simp;omega) _).setCell (by simp;omega) _)
    clear r J S I cv fv;apply wp_region_lit
    refine wpList_load_row rfl 257 _ rfl (q+1+1) rfl _ _ _ _ U Tryz.underlying257 rfl (by kernel_rfl) ?_;refine wpList_store_row rfl 257 _ _ rfl (q+1) _ rfl rfl 257 _ D (by kernel_rfl) (by kernel_rfl) (by kernel_rfl) ?_;simp only[Act.put,Ls];go_wp2_with fail
    exact Bp (results_cell_row rfl _ _ _ _ _ _ _ rfl (setRow_heap _ _ _ _ _ _ D) Tryz.underlying257 rfl (by kernel_rfl)) rfl ⟨rfl,below_setRow (O.mono (by omega)) (by omega) _⟩
theorem qgf (h:List Int)(hh:Words 32 8 h)(c:Int)(aG:0<=c)(aJ:c<18446744073709551616)(ab node:Bool)(w:World):Calls Tryz.prog 216 #[.agg (qj .u32 h),.int .u64 c,.bool ab,.bool node] w fun e w'=>e= .returned (.agg (qj .u32 (Y6 .u32 IVs h (c%4294967296) (c/4294967296) ab node)))/\Below w.heap.size w w':=by
 obtain⟨q,ay⟩:=Ex w.heap.size;go_enter Tryz.func216,Tryz.ntmps216
 go_wp2_with fail
 refine(qb2 _).mono ?_;rintro e1 w1 ⟨rfl,aa⟩;have ap:=(aa.block q (by simp;omega)).trans ((Bh _ _ _ (by simp;omega)).trans ((Bh _ _ _ (by simp;omega)).trans (qe _ _ ay.symm)));have an:=(aa.block (q+1) (by simp;omega)).trans ((Bh _ _ _ (by simp;omega)).trans (qe _ _ (by simp;omega)));have am:=(aa.block (q+1+1) (by simp;omega)).trans (qe _ _ (by simp;omega));have ai:Below w.heap.size w w1:=((((Below.refl w.heap.size w).alloc Nl _).alloc (by simp) _).alloc (by simp;omega) _).trans (aa.mono (by simp;omega));have az:q+3<=w1.heap.size:=by have:=aa.size;simp at this;omega
 clear aa;go_wp2_with fail
 refine qm ?_;intro W r;obtain⟨bi,af⟩:=Ex w1.heap.size;have aj:W.heap[q]? =some (.cells (qj .u32 h) 288 (0,0)):=by
  rw[r];exact(Bh _ _ _ (by omega)).trans ap
 have ah:W.heap[q+1]? =some (.cells Kd 302 (0,0)):=by
  rw[r];exact(Bh _ _ _ (by omega)).trans an
 have ag:W.heap[q+1+1]? =some (.cells (qj .u32 (ZO h IVs 0)) 302 (0,0)):=by
  rw[r];exact(Bh _ _ _ (by omega)).trans am
 have ae:W.heap[bi]? =some (.cells (qj .u32 IVs) 288 (0,0)):=by
  rw[r];exact qe _ _ af.symm
 have aq:Below w.heap.size w W:=by
  rw[r];exact ai.alloc (by omega) _
 have aC:q+1+1<W.heap.size:=(Ai ag).1;have aI:bi<W.heap.size:=(Ai ae).1;rw[af];have aB:q+3<=bi:=by omega
 clear r ap an am ai az af;have HH:=hid aj;have X:=hid ah;have Y:=hid ag;have HI:=hid ae;have S:=hid aq;clear aj ah ag aq ae;go_loopw [11] (fun i wr=> ∃j:Nat,i= .int .i64 j/\j<=8/\wr.heap[q+1+1]? =some (.cells (qj .u32 (ZO h IVs j)) 302 (0,0))/\But (q+1+1) W wr) (fun i _=>8 - (intOf i).toNat)
 case atStart=>exact⟨0,rfl,Nat.zero_le _,Y.out,But.refl _ _⟩
 case round=>
  obtain⟨j,rfl,hj,hv,hB⟩:=hrel;have aD:=hB.size;have ar:=hid hv;have ao:=hid hB;by_cases ax:j<8
  ·have c1:wr.cell? ⟨q,j,none⟩=some (.int .u32 (wd h j)):=by
    rw[qq ((hB.block q (by omega) (by omega)).trans HH.out),qF hh ax]
   have c4:wr.cell? ⟨bi,j,none⟩=some (.int .u32 (wd IVs j)):=by
    rw[qq ((hB.block bi (by omega) (by omega)).trans HI.out),qF qaX ax]
   have c2:wr.cell? ⟨q+1+1,j,none⟩=some (.int .u32 (wd (ZO h IVs j) j)):=(qq hv _).trans (yD (za _ _ _) (by omega));have c3:wr.cell? ⟨q+1+1,j+8,none⟩=some (.int .u32 (wd (ZO h IVs j) (j+8))):=(qq hv _).trans (yD (za _ _ _) (by omega));have f2: ∀o,wr.frozen? ⟨q+1+1,o,none⟩=false:=(qR hv).2;have aH:IntKind.i64.wrap ((j:Int)+8)=((j+8:Nat):Int):=by rw[IntKind.wrap_i64];omega
   have aA:j+8<16:=by omega
   have aF:(bi=q+1+1)=False:=by simp;omega
   clear hv hB;go_wp2
   exact⟨⟨j+1,rfl,by omega,by rw[ZO,<-Qk,<-Qk];exact block_setCell (block_setCell ar.out _) _,(ao.out.set _ _).set _ _⟩,by simp[intOf];omega⟩
  ·obtain rfl:j=8:=by omega
   have ad:wr.heap[q+1+1]? =some (.cells #[.int .u32 (wd h 0),.int .u32 (wd h 1),.int .u32 (wd h 2),.int .u32 (wd h 3),.int .u32 (wd h 4),.int .u32 (wd h 5),.int .u32 (wd h 6),.int .u32 (wd h 7),.int .u32 1779033703,.int .u32 3144134277,.int .u32 1013904242,.int .u32 2773480762,.int .u32 1359893119,.int .u32 2600822924,.int .u32 528734635,.int .u32 1541459225] 302 (0,0)):=hv;have au:=hid ad;have aw:=hid ((hB.block (q+1) (by omega) (by omega)).trans X.out);have al:=hid (S.out.trans (hB.below (by omega) S.out.size));obtain⟨cv,fv⟩:=qR ad;clear hv hB ad ar ao Y X S HH HI;go_upto_region 10 with(fail)
   refine qm ?_;intro W5 r;have ac:W5.heap[q+1+1]? =some (.cells #[.int .u32 (wd h 0),.int .u32 (wd h 1),.int .u32 (wd h 2),.int .u32 (wd h 3),.int .u32 (wd h 4),.int .u32 (wd h 5),.int .u32 (wd h 6),.int .u32 (wd h 7),.int .u32 1779033703,.int .u32 3144134277,.int .u32 1013904242,.int .u32 2773480762,.int .u32 (bits .xor .u32 1359893119 (c%4294967296)),.int .u32 (bits .xor .u32 2600822924 (c/4294967296)),.int .u32 528734635,.int .u32 1541459225] 302 (0,0)):=by
    rw[r];exact block_setCell (i:=13) (block_setCell (i:=12) au.out _) _
   have ak:W5.heap[q+1]? =some (.cells Kd 302 (0,0)):=by
    rw[r];exact(Below.heap_setCell _ _ _ _ (by simp)).trans ((Below.heap_setCell _ _ _ _ (by simp)).trans aw.out)
   have av:Below w.heap.size w W5:=by
    rw[r];exact(al.out.setCell (by simp;omega) _).setCell (by simp;omega) _
   clear r au aw al cv fv;have aE:=(Ai ac).1;obtain⟨cv,fv⟩:=qR ac;have Y:=hid ac;have X:=hid ak;have S:=hid av;clear ac ak av
   cases ab<;>cases node
   ·skip
    have I:=hid (show Ending.returned (.agg #[.int .u32 (wd h 0),.int .u32 (wd h 1),.int .u32 (wd h 2),.int .u32 (wd h 3),.int .u32 (wd h 4),.int .u32 (wd h 5),.int .u32 (wd h 6),.int .u32 (wd h 7),.int .u32 1779033703,.int .u32 3144134277,.int .u32 1013904242,.int .u32 2773480762,.int .u32 (bits .xor .u32 1359893119 (c%4294967296)),.int .u32 (bits .xor .u32 2600822924 (c/4294967296)),.int .u32 528734635,.int .u32 1541459225])= .returned (.agg (qj .u32 (Y6 .u32 IVs h (c%4294967296) (c/4294967296) false false))) by simp only[Y6,IVs,qj];rfl);go_upto_region 14 with(fail)
    refine qm ?_;intro G r;have Z:G.heap[q+1+1]? =some (.cells #[.int .u32 (wd h 0),.int .u32 (wd h 1),.int .u32 (wd h 2),.int .u32 (wd h 3),.int .u32 (wd h 4),.int .u32 (wd h 5),.int .u32 (wd h 6),.int .u32 (wd h 7),.int .u32 1779033703,.int .u32 3144134277,.int .u32 1013904242,.int .u32 2773480762,.int .u32 (bits .xor .u32 1359893119 (c%4294967296)),.int .u32 (bits .xor .u32 2600822924 (c/4294967296)),.int .u32 528734635,.int .u32 1541459225] 302 (0,0)):=by
     rw[r];exact Y.out
    have D:G.heap[q+1]? =some (.cells Kd 302 (0,0)):=by
     rw[r];exact X.out
    have U:Below w.heap.size w G:=by
     rw[r];exact S.out
    clear r Y X S cv fv;apply wp_region_lit
    refine wpList_load_row rfl 302 _ rfl (q+1+1) rfl _ _ _ _ Z Tryz.underlying302 rfl (by kernel_rfl) ?_;refine wpList_store_row rfl 302 _ _ rfl (q+1) _ rfl rfl 302 _ D (by kernel_rfl) (by kernel_rfl) (by kernel_rfl) ?_;simp only[Act.put,Ls];go_wp2_with fail
    exact Bp (results_cell_row rfl _ _ _ _ _ _ _ rfl (setRow_heap _ _ _ _ _ _ D) Tryz.underlying302 rfl (by kernel_rfl)) rfl ⟨I.out,below_setRow (U.mono (by omega)) (by omega) _⟩
   ·skip
    have O:=hid (show Ending.returned (.agg #[.int .u32 (wd h 0),.int .u32 (wd h 1),.int .u32 (wd h 2),.int .u32 (wd h 3),.int .u32 (wd h 4),.int .u32 (wd h 5),.int .u32 (wd h 6),.int .u32 (wd h 7),.int .u32 1779033703,.int .u32 3144134277,.int .u32 1013904242,.int .u32 2773480762,.int .u32 (bits .xor .u32 1359893119 (c%4294967296)),.int .u32 (bits .xor .u32 2600822924 (c/4294967296)),.int .u32 528734635,.int .u32 (bits .xor .u32 1541459225 4294967295)])= .returned (.agg (qj .u32 (Y6 .u32 IVs h (c%4294967296) (c/4294967296) false true))) by simp only[Y6,IVs,qj];rw[zt .u32 1541459225 4294967295];rfl);go_upto_region 14 with(fail)
    refine qm ?_;intro G r;have Z:G.heap[q+1+1]? =some (.cells #[.int .u32 (wd h 0),.int .u32 (wd h 1),.int .u32 (wd h 2),.int .u32 (wd h 3),.int .u32 (wd h 4),.int .u32 (wd h 5),.int .u32 (wd h 6),.int .u32 (wd h 7),.int .u32 1779033703,.int .u32 3144134277,.int .u32 1013904242,.int .u32 2773480762,.int .u32 (bits .xor .u32 1359893119 (c%4294967296)),.int .u32 (bits .xor .u32 2600822924 (c/4294967296)),.int .u32 528734635,.int .u32 (bits .xor .u32 1541459225 4294967295)] 302 (0,0)):=by
     rw[r];exact(block_setCell (i:=15) Y.out _)
    have D:G.heap[q+1]? =some (.cells Kd 302 (0,0)):=by
     rw[r];exact((Below.heap_setCell _ _ _ _ (by simp)).trans X.out)
    have U:Below w.heap.size w G:=by
     rw[r];exact(S.out.setCell (by simp;omega) _)
    clear r Y X S cv fv;apply wp_region_lit
    refine wpList_load_row rfl 302 _ rfl (q+1+1) rfl _ _ _ _ Z Tryz.underlying302 rfl (by kernel_rfl) ?_;refine wpList_store_row rfl 302 _ _ rfl (q+1) _ rfl rfl 302 _ D (by kernel_rfl) (by kernel_rfl) (by kernel_rfl) ?_;simp only[Act.put,Ls];go_wp2_with fail
    exact Bp (results_cell_row rfl _ _ _ _ _ _ _ rfl (setRow_heap _ _ _ _ _ _ D) Tryz.underlying302 rfl (by kernel_rfl)) rfl ⟨O.out,below_setRow (U.mono (by omega)) (by omega) _⟩
   ·skip
    have J:=hid (show Ending.returned (.agg #[.int .u32 (wd h 0),.int .u32 (wd h 1),.int .u32 (wd h 2),.int .u32 (wd h 3),.int .u32 (wd h 4),.int .u32 (wd h 5),.int .u32 (wd h 6),.int .u32 (wd h 7),.int .u32 1779033703,.int .u32 3144134277,.int .u32 1013904242,.int .u32 2773480762,.int .u32 (bits .xor .u32 1359893119 (c%4294967296)),.int .u32 (bits .xor .u32 2600822924 (c/4294967296)),.int .u32 (bits .xor .u32 528734635 4294967295),.int .u32 1541459225])= .returned (.agg (qj .u32 (Y6 .u32 IVs h (c%4294967296) (c/4294967296) true false))) by simp only[Y6,IVs,qj];rw[zt .u32 528734635 4294967295];rfl);go_upto_region 14 with(fail)
    refine qm ?_;intro G r;have Z:G.heap[q+1+1]? =some (.cells #[.int .u32 (wd h 0),.int .u32 (wd h 1),.int .u32 (wd h 2),.int .u32 (wd h 3),.int .u32 (wd h 4),.int .u32 (wd h 5),.int .u32 (wd h 6),.int .u32 (wd h 7),.int .u32 1779033703,.int .u32 3144134277,.int .u32 1013904242,.int .u32 2773480762,.int .u32 (bits .xor .u32 1359893119 (c%4294967296)),.int .u32 (bits .xor .u32 2600822924 (c/4294967296)),.int .u32 (bits .xor .u32 528734635 4294967295),.int .u32 1541459225] 302 (0,0)):=by
     rw[r];exact(block_setCell (i:=14) Y.out _)
    have D:G.heap[q+1]? =some (.cells Kd 302 (0,0)):=by
     rw[r];exact((Below.heap_setCell _ _ _ _ (by simp)).trans X.out)
    have U:Below w.heap.size w G:=by
     rw[r];exact(S.out.setCell (by simp;omega) _)
    clear r Y X S cv fv;apply wp_region_lit
    refine wpList_load_row rfl 302 _ rfl (q+1+1) rfl _ _ _ _ Z Tryz.underlying302 rfl (by kernel_rfl) ?_;refine wpList_store_row rfl 302 _ _ rfl (q+1) _ rfl rfl 302 _ D (by kernel_rfl) (by kernel_rfl) (by kernel_rfl) ?_;simp only[Act.put,Ls];go_wp2_with fail
    exact Bp (results_cell_row rfl _ _ _ _ _ _ _ rfl (setRow_heap _ _ _ _ _ _ D) Tryz.underlying302 rfl (by kernel_rfl)) rfl ⟨J.out,below_setRow (U.mono (by omega)) (by omega) _⟩
   ·skip
    have V:=hid (show Ending.returned (.agg #[.int .u32 (wd h 0),.int .u32 (wd h 1),.int .u32 (wd h 2),.int .u32 (wd h 3),.int .u32 (wd h 4),.int .u32 (wd h 5),.int .u32 (wd h 6),.int .u32 (wd h 7),.int .u32 1779033703,.int .u32 3144134277,.int .u32 1013904242,.int .u32 2773480762,.int .u32 (bits .xor .u32 1359893119 (c%4294967296)),.int .u32 (bits .xor .u32 2600822924 (c/4294967296)),.int .u32 (bits .xor .u32 528734635 4294967295),.int .u32 (bits .xor .u32 1541459225 4294967295)])= .returned (.agg (qj .u32 (Y6 .u32 IVs h (c%4294967296) (c/4294967296) true true))) by simp only[Y6,IVs,qj];rw[zt .u32 528734635 4294967295,zt .u32 1541459225 4294967295];rfl);go_upto_region 14 with(fail)
    refine qm ?_;intro G r;have Z:G.heap[q+1+1]? =some (.cells #[.int .u32 (wd h 0),.int .u32 (wd h 1),.int .u32 (wd h 2),.int .u32 (wd h 3),.int .u32 (wd h 4),.int .u32 (wd h 5),.int .u32 (wd h 6),.int .u32 (wd h 7),.int .u32 1779033703,.int .u32 3144134277,.int .u32 1013904242,.int .u32 2773480762,.int .u32 (bits .xor .u32 1359893119 (c%4294967296)),.int .u32 (bits .xor .u32 2600822924 (c/4294967296)),.int .u32 (bits .xor .u32 528734635 4294967295),.int .u32 (bits .xor .u32 1541459225 4294967295)] 302 (0,0)):=by
     rw[r];exact(block_setCell (i:=15) (block_setCell (i:=14) Y.out _) _)
    have D:G.heap[q+1]? =some (.cells Kd 302 (0,0)):=by
     rw[r];exact((Below.heap_setCell _ _ _ _ (by simp)).trans ((Below.heap_setCell _ _ _ _ (by simp)).trans X.out))
    have U:Below w.heap.size w G:=by
     rw[r];exact((S.out.setCell (by simp;omega) _).setCell (by simp;omega) _)
    clear r Y X S cv fv;apply wp_region_lit
    refine wpList_load_row rfl 302 _ rfl (q+1+1) rfl _ _ _ _ Z Tryz.underlying302 rfl (by kernel_rfl) ?_;refine wpList_store_row rfl 302 _ _ rfl (q+1) _ rfl rfl 302 _ D (by kernel_rfl) (by kernel_rfl) (by kernel_rfl) ?_;simp only[Act.put,Ls];go_wp2_with fail
    exact Bp (results_cell_row rfl _ _ _ _ _ _ _ rfl (setRow_heap _ _ _ _ _ _ D) Tryz.underlying302 rfl (by kernel_rfl)) rfl ⟨V.out,below_setRow (U.mono (by omega)) (by omega) _⟩
theorem zW (k:IntKind)(o: ∀n:Int,0<=n->n<2^k.bits->k.wrap n=n)(a b:Int):bits .xor k a b=((BitVec.ofInt k.bits a^^^BitVec.ofInt k.bits b).toNat:Int):=by
 simp only[bits];refine o _ (by omega) ?_;have:=(BitVec.ofInt k.bits a^^^BitVec.ofInt k.bits b).isLt
 exact_mod_cast this
theorem jN (k:IntKind)(o: ∀n:Int,0<=n->n<2^k.bits->k.wrap n=n)(a b c:Int):bits .xor k (bits .xor k a b) c=bits .xor k a (bits .xor k b c):=by
 have e: ∀x:BitVec k.bits,BitVec.ofInt k.bits (x.toNat:Int)=x:=fun x=>by simp
 rw[zW k o (bits .xor k a b) c,zW k o a b,zW k o a (bits .xor k b c),zW k o b c,e,e,BitVec.xor_assoc]
theorem qep (a b c:Int):bits .xor .u64 (bits .xor .u64 a b) c=bits .xor .u64 a (bits .xor .u64 b c):=jN .u64 wraps_u64 a b c
theorem qeq (a b c:Int):bits .xor .u32 (bits .xor .u32 a b) c=bits .xor .u32 a (bits .xor .u32 b c):=jN .u32 qaq a b c
theorem qiL (h V:List Int)(ac:Words 32 8 h)(hV:Words 32 16 V)(w:World):Calls Tryz.prog 218 #[.agg (qj .u32 h),.agg (qj .u32 V)] w fun e w'=>e= .returned (.agg (qj .u32 (Y9 .u32 h V 8)))/\Below w.heap.size w w':=by
 obtain⟨q,ah⟩:=Ex w.heap.size;go_enter Tryz.func218,Tryz.ntmps218
 go_wp2_with fail
 refine qm ?_;intro G S;have ad:G.heap[q]? =some (.cells (qj .u32 h) 288 (0,0)):=by
  rw[S];exact(Bh _ _ _ (by simp;omega)).trans ((Bh _ _ _ (by simp;omega)).trans (qe _ _ ah.symm))
 have O:G.heap[q+1]? =some (.cells (qj .u32 V) 302 (0,0)):=by
  rw[S];exact(Bh _ _ _ (by simp;omega)).trans (qe _ _ (by simp;omega))
 have J:G.heap[q+1+1]? =some (.cells Kf 288 (0,0)):=by
  rw[S];exact qe _ _ (by simp;omega)
 have aa:Below w.heap.size w G:=by
  rw[S];exact(((Below.refl w.heap.size w).alloc Nl _).alloc (by simp) _).alloc (by simp;omega) _
 clear S;have ag:=hid ad;have aj:=hid O;have ak:=hid J;have Z:=hid aa;have am:q+1<G.heap.size:=(Ai O).1;have ae:q+1+1<G.heap.size:=(Ai J).1;clear ad O J aa;go_loopw [5] (fun i w4=> ∃j:Nat,i= .int .i64 j/\j<=8/\w4.heap[q]? =some (.cells (qj .u32 (Y9 .u32 h V j)) 288 (0,0))/\But (q) G w4) (fun i _=>8 - (intOf i).toNat)
 case atStart=>exact⟨0,rfl,Nat.zero_le _,ag.out,But.refl _ _⟩
 case round=>
  obtain⟨j,rfl,hj,D,r⟩:=hrel;have ap:=r.size;have I:=(r.block (q+1) am (by omega)).trans aj.out;have q1:q+1<wr.heap.size:=by omega
  have q2:q<wr.heap.size:=by omega
  have Y:=hid D;have X:=hid r;by_cases al:j<8
  ·have c1:wr.cell? ⟨q,j,none⟩=some (.int .u32 (wd h j)):=by
    rw[qq D,qF (QR (fun z=>IntKind.wrap_u32 z) ac j) al,Ze j j Nl]
   have c2:wr.cell? ⟨q+1,j,none⟩=some (.int .u32 (wd V j)):=(qq I _).trans (qF hV (by omega));have c3:wr.cell? ⟨q+1,j+8,none⟩=some (.int .u32 (wd V (j+8))):=(qq I _).trans (qF hV (by omega));have f1: ∀o,wr.frozen? ⟨q,o,none⟩=false:=(qR D).2;have ao:IntKind.i64.wrap ((j:Int)+8)=((j+8:Nat):Int):=by rw[IntKind.wrap_i64];omega
   have an:j+8<16:=by omega
   clear D I r;go_wp2_with fail
   refine qk (by dsimp only[List.dropLast]) (by rfl) (by rfl) (by kernel_rfl) (by kernel_rfl) (by kernel_rfl) (by kernel_rfl) ?_;repeat(go_big_quiet_step (fail))
   refine wpQuiet_nil ?_;intro _ af;obtain⟨n1,rfl⟩:=af;go_wp2_with fail
   exact⟨⟨j+1,rfl,by omega,by rw[Y9,<-qeq,<-Qk];exact block_setCell (w:=wr.drewN n1) Y.out _,(X.out.drewN n1).set _ _⟩,by simp[intOf];omega⟩
  ·obtain rfl:j=8:=by omega
   have ab:=(r.block (q+1+1) ae (by omega)).trans ak.out;have U:=QR (k:= .u32) (fun z=>IntKind.wrap_u32 z) (v:=V) ac 8;have ai:=hid (Z.out.trans (X.out.below (by omega) Z.out.size));clear D I r;go_upto_region 5 with(fail)
   apply wp_region_lit
   refine wpList_load_row rfl 288 _ rfl (q) rfl _ _ _ _ Y.out Tryz.underlying288 rfl (by rw[qg,U.1];kernel_rfl) ?_;refine wpList_store_row rfl 288 _ _ rfl (q+1+1) (qj .u32 (Y9 .u32 h V 8)) rfl rfl 288 _ ab (by rw[qg,U.1];kernel_rfl) (by rw[qg,U.1];rfl) qA ?_;simp only[Act.put,Ls];go_wp2_with fail
   exact Bp (results_cell_row rfl _ _ _ _ _ _ _ rfl (setRow_heap _ _ _ _ _ _ ab) Tryz.underlying288 rfl (by rw[qg,U.1];kernel_rfl)) rfl ⟨rfl,below_setRow (ai.out.mono (by omega)) (by omega) _⟩
theorem qkn (h M:List Int)(O:Words 64 8 h)(hM:Words 64 16 M)(lo hi:Int)(G node:Bool)(w:World):Calls Tryz.prog 199 #[.agg (qj .u64 h),.agg (qj .u64 M),.int .u64 lo,.int .u64 hi,.bool G,.bool node] w fun e w'=>e= .returned (.agg (qj .u64 (Zy mixBig IVb 12 h M lo hi G node)))/\Below w.heap.size w w':=by
 obtain⟨q,ax⟩:=Ex w.heap.size;have HC:=hid (qhE h O lo hi G node);have aa:=Zv (k:= .u64) (fun z=>IntKind.wrap_u64 z) qdz O lo hi G node;unfold Zy;rw[show mixBig.k= .u64 from rfl];generalize Y6 .u64 IVb h lo hi G node=Y at*;have ae:=O;rw[ZC O]at HC⊢;go_enter Tryz.func199,Tryz.ntmps199
 go_wp2_with fail
 refine(HC.out _).mono ?_;rintro e1 w1 ⟨rfl,J⟩;have ai:=(J.block q (by simp;omega)).trans ((Bh _ _ _ (by simp;omega)).trans ((Bh _ _ _ (by simp;omega)).trans (qe _ _ ax.symm)));have ar:=(J.block (q+1) (by simp;omega)).trans ((Bh _ _ _ (by simp;omega)).trans (qe _ _ (by simp;omega)));have ah:=(J.block (q+1+1) (by simp;omega)).trans (qe _ _ (by simp;omega));have aA:q+3<=w1.heap.size:=by have:=J.size;simp at this;omega
 have aq:Below w.heap.size w w1:=((((Below.refl w.heap.size w).alloc Nl _).alloc (by simp) _).alloc (by simp;omega) _).trans (J.mono (by simp;omega));clear J HC;go_wp2_with ((with_reducible show wpList _ _ _ (Oper.mk none (Op.store 257 _ _) _ _ _ _::_) _ _);refine wpList_store_row rfl 257 _ _ rfl w1.heap.size (qj .u64 Y) rfl rfl 257 _ (Wn _ _) (by rw[qg,aa.1];kernel_rfl) (by rw[qg,aa.1];rfl) qA ?_)
 clear O;refine qm ?_;intro W hW;obtain⟨r,ag⟩:=Ex w1.heap.size;have O:W.heap[q]? =some (.cells #[.int .u64 (wd h 0),.int .u64 (wd h 1),.int .u64 (wd h 2),.int .u64 (wd h 3),.int .u64 (wd h 4),.int .u64 (wd h 5),.int .u64 (wd h 6),.int .u64 (wd h 7)] 278 (0,0)):=by
  rw[hW];exact(setRow_other (w1.alloc _) _ _ _ (by omega)).trans ((Bh _ _ _ (by omega)).trans ai)
 have hm:W.heap[q+1]? =some (.cells (qj .u64 M) 257 (0,0)):=by
  rw[hW];exact(setRow_other (w1.alloc _) _ _ _ (by omega)).trans ((Bh _ _ _ (by omega)).trans ar)
 have hr:W.heap[q+1+1]? =some (.cells Kg 278 (0,0)):=by
  rw[hW];exact(setRow_other (w1.alloc _) _ _ _ (by omega)).trans ((Bh _ _ _ (by omega)).trans ah)
 have hv:W.heap[r]? =some (.cells (qj .u64 Y) 257 (0,0)):=by
  rw[hW,<-ag];exact setRow_heap _ _ _ _ _ _ (Wn _ _)
 have hB:Below w.heap.size w W:=by
  rw[hW];exact below_setRow (aq.alloc (by omega) _) (by omega) _
 rw[<-ZC ae]at O;rw[ag];have aN:q+3<=r:=by omega
 clear hW ai ar ah aA aq ag;have HH:=hid O;have HM:=hid hm;have HR:=hid hr;have HV:=hid hv;have HB:=hid hB;have aL:r<W.heap.size:=(Ai hv).1;clear O hm hr hv hB;go_loopw [14] (fun i wr=> ∃j:Nat,i= .int .i64 j/\j<=12/\wr.heap[r]? =some (.cells (qj .u64 (mixBig.rounds Y M j)) 257 (0,0))/\But r W wr) (fun i _=>12 - (intOf i).toNat)
 case atStart=>exact⟨0,rfl,Nat.zero_le _,HV.out,But.refl _ _⟩
 case round=>
  obtain⟨j,rfl,hj,hv,hB⟩:=hrel;have hm:=(hB.block (q+1) (by omega) (by omega)).trans HM.out;have D:=hid hv;have ak:=hid hm;have X:=hid hB;clear hv hm hB;by_cases aw:j<12
  ·have U:=yd QM aa (M:=M) j;obtain⟨R1,ac⟩:=Ex (mixBig.rounds Y M j);rw[ac]at U D;have aI:=hid ac;clear ac;go_wp2_with (first
    | ((with_reducible show wpList _ _ _ (Oper.mk (some 27) _ _ _ _ _::_) _ _);refine wpList_load_row rfl 257 _ rfl r rfl _ _ _ _ D.out Tryz.underlying257 rfl (by rw[qg,U.1];kernel_rfl) ?_)
    | ((with_reducible show wpList _ _ _ (Oper.mk (some 28) _ _ _ _ _::_) _ _);refine wpList_load_row rfl 257 _ rfl (q+1) rfl _ _ _ _ ak.out Tryz.underlying257 rfl (by rw[qg,hM.1];kernel_rfl) ?_))
   refine(qf9 R1 M U hM j (by omega) _).mono ?_;rintro e2 w2 ⟨rfl,ad⟩
   have au:=(ad.block r (Ai D.out).1).trans D.out;have aE:=hid (X.out.trans (But.of_below (b:=r) ad));clear ad;have ao:Words 64 16 (mixBig.round R1 M j):=qJ QM U (M:=M) j 8;go_wp2_with ((with_reducible show wpList _ _ _ (Oper.mk none (Op.store 257 _ _) _ _ _ _::_) _ _);refine wpList_store_row rfl 257 _ _ rfl r (qj .u64 (mixBig.round R1 M j)) rfl rfl 257 _ au (by rw[qg,ao.1];kernel_rfl) (by simp only[qg,ao.1,U.1]) qA ?_)
   exact⟨⟨j+1,rfl,by omega,by rw[show mixBig.rounds Y M (j+1)=mixBig.round (mixBig.rounds Y M j) M j from rfl,aI.out];exact setRow_heap _ _ _ _ _ _ au,aE.out.setRow _⟩,by simp[intOf];omega⟩
  ·obtain rfl:j=12:=by omega
   have hV:=yd QM aa (M:=M) 12;obtain⟨V,af⟩:=Ex (mixBig.rounds Y M 12);have aG:=hid (show Ending.returned (.agg (qj .u64 (Y9 .u64 h V 8)))= .returned (.agg (qj .u64 (Y9 .u64 h (mixBig.rounds Y M 12) 8))) by rw[af]);rw[af]at hV D;clear af;have an:=(X.out.block q (by omega) (by omega)).trans HH.out;have ab:=(X.out.block (q+1+1) (by omega) (by omega)).trans HR.out;have av:Below w.heap.size w wr:=HB.out.trans (X.out.below (by omega) HB.out.size);have aD:=hid an;have az:=hid D.out;have aH:=hid ab;have am:=hid av;have aB:r<wr.heap.size:=(Ai D.out).1;have aF:q+1+1<wr.heap.size:=(Ai ab).1;clear an ab av D ak X HH HR HM HV HB;generalize wr=w3 at*;go_wp2_with fail
   go_loopw [15] (fun i w4=> ∃j:Nat,i= .int .i64 j/\j<=8/\w4.heap[q]? =some (.cells (qj .u64 (Y9 .u64 h V j)) 278 (0,0))/\But (q) w3 w4) (fun i _=>8 - (intOf i).toNat)
   case atStart=>exact⟨0,rfl,Nat.zero_le _,aD.out,But.refl _ _⟩
   case round=>
    obtain⟨j,rfl,hj,S,I⟩:=hrel;have aK:=I.size;have Z:=(I.block (r) aB (by omega)).trans az.out;have q1:r<wr.heap.size:=by omega
    have q2:q<wr.heap.size:=by omega
    have ap:=hid S;have al:=hid I;by_cases aw:j<8
    ·have c1:wr.cell? ⟨q,j,none⟩=some (.int .u64 (wd h j)):=by
      rw[qq S,qF (QR (fun z=>IntKind.wrap_u64 z) ae j) aw,Ze j j Nl]
     have c2:wr.cell? ⟨r,j,none⟩=some (.int .u64 (wd V j)):=(qq Z _).trans (qF hV (by omega));have c3:wr.cell? ⟨r,j+8,none⟩=some (.int .u64 (wd V (j+8))):=(qq Z _).trans (qF hV (by omega));have f1: ∀o,wr.frozen? ⟨q,o,none⟩=false:=(qR S).2;have aM:IntKind.i64.wrap ((j:Int)+8)=((j+8:Nat):Int):=by rw[IntKind.wrap_i64];omega
     have aJ:j+8<16:=by omega
     clear S Z I;go_wp2_with fail
     refine qk (by dsimp only[List.dropLast]) (by rfl) (by rfl) (by kernel_rfl) (by kernel_rfl) (by kernel_rfl) (by kernel_rfl) ?_;repeat(go_big_quiet_step (fail))
     refine wpQuiet_nil ?_;intro _ aC;obtain⟨n1,rfl⟩:=aC;go_wp2_with fail
     exact⟨⟨j+1,rfl,by omega,by rw[Y9,<-qep,<-Qk];exact block_setCell (w:=wr.drewN n1) ap.out _,(al.out.drewN n1).set _ _⟩,by simp[intOf];omega⟩
    ·obtain rfl:j=8:=by omega
     have aj:=(I.block (q+1+1) aF (by omega)).trans aH.out;have hF:=QR (k:= .u64) (fun z=>IntKind.wrap_u64 z) (v:=V) ae 8;have ay:=hid (am.out.trans (al.out.below (by omega) am.out.size));clear S Z I;go_upto_region 10 with(fail)
     apply wp_region_lit
     refine wpList_load_row rfl 278 _ rfl (q) rfl _ _ _ _ ap.out Tryz.underlying278 rfl (by rw[qg,hF.1];kernel_rfl) ?_;refine wpList_store_row rfl 278 _ _ rfl (q+1+1) (qj .u64 (Y9 .u64 h V 8)) rfl rfl 278 _ aj (by rw[qg,hF.1];kernel_rfl) (by rw[qg,hF.1];rfl) qA ?_;simp only[Act.put,Ls];go_wp2_with fail
     exact Bp (results_cell_row rfl _ _ _ _ _ _ _ rfl (setRow_heap _ _ _ _ _ _ aj) Tryz.underlying278 rfl (by rw[qg,hF.1];kernel_rfl)) rfl ⟨aG.out,below_setRow (ay.out.mono (by omega)) (by omega) _⟩
theorem qko (h M:List Int)(I:Words 32 8 h)(hM:Words 32 16 M)(c:Int)(az:0<=c)(aB:c<18446744073709551616)(D node:Bool)(w:World):Calls Tryz.prog 201 #[.agg (qj .u32 h),.agg (qj .u32 M),.int .u64 c,.bool D,.bool node] w fun e w'=>e= .returned (.agg (qj .u32 (Zy mixSmall IVs 10 h M (c%4294967296) (c/4294967296) D node)))/\Below w.heap.size w w':=by
 obtain⟨o,ar⟩:=Ex w.heap.size;have HC:=hid (qgf h I c az aB D node);have X:=Zv (k:= .u32) (fun z=>IntKind.wrap_u32 z) qaX I (c%4294967296) (c/4294967296) D node;unfold Zy;rw[show mixSmall.k= .u32 from rfl];generalize Y6 .u32 IVs h (c%4294967296) (c/4294967296) D node=S at*;have U:=I;rw[ZC I]at HC⊢;go_enter Tryz.func201,Tryz.ntmps201
 go_wp2_with fail
 refine(HC.out _).mono ?_;rintro e1 w1 ⟨rfl,G⟩;have ah:=(G.block o (by simp;omega)).trans ((Bh _ _ _ (by simp;omega)).trans ((Bh _ _ _ (by simp;omega)).trans (qe _ _ ar.symm)));have ao:=(G.block (o+1) (by simp;omega)).trans ((Bh _ _ _ (by simp;omega)).trans (qe _ _ (by simp;omega)));have ag:=(G.block (o+1+1) (by simp;omega)).trans (qe _ _ (by simp;omega));have av:o+3<=w1.heap.size:=by have:=G.size;simp at this;omega
 have an:Below w.heap.size w w1:=((((Below.refl w.heap.size w).alloc Nl _).alloc (by simp) _).alloc (by simp;omega) _).trans (G.mono (by simp;omega));clear G HC;go_wp2_with ((with_reducible show wpList _ _ _ (Oper.mk none (Op.store 302 _ _) _ _ _ _::_) _ _);refine wpList_store_row rfl 302 _ _ rfl w1.heap.size (qj .u32 S) rfl rfl 302 _ (Wn _ _) (by rw[qg,X.1];kernel_rfl) (by rw[qg,X.1];rfl) qA ?_)
 clear I;refine qm ?_;intro W Y;obtain⟨r,af⟩:=Ex w1.heap.size;have I:W.heap[o]? =some (.cells #[.int .u32 (wd h 0),.int .u32 (wd h 1),.int .u32 (wd h 2),.int .u32 (wd h 3),.int .u32 (wd h 4),.int .u32 (wd h 5),.int .u32 (wd h 6),.int .u32 (wd h 7)] 288 (0,0)):=by
  rw[Y];exact(setRow_other (w1.alloc _) _ _ _ (by omega)).trans ((Bh _ _ _ (by omega)).trans ah)
 have hm:W.heap[o+1]? =some (.cells (qj .u32 M) 302 (0,0)):=by
  rw[Y];exact(setRow_other (w1.alloc _) _ _ _ (by omega)).trans ((Bh _ _ _ (by omega)).trans ao)
 have hr:W.heap[o+1+1]? =some (.cells Kf 288 (0,0)):=by
  rw[Y];exact(setRow_other (w1.alloc _) _ _ _ (by omega)).trans ((Bh _ _ _ (by omega)).trans ag)
 have Z:W.heap[r]? =some (.cells (qj .u32 S) 302 (0,0)):=by
  rw[Y,<-af];exact setRow_heap _ _ _ _ _ _ (Wn _ _)
 have hB:Below w.heap.size w W:=by
  rw[Y];exact below_setRow (an.alloc (by omega) _) (by omega) _
 rw[<-ZC U]at I;rw[af];have aH:o+3<=r:=by omega
 clear Y ah ao ag av an af;have HH:=hid I;have HM:=hid hm;have HR:=hid hr;have HV:=hid Z;have HB:=hid hB;have aF:r<W.heap.size:=(Ai Z).1;clear I hm hr Z hB;go_loopw [12] (fun i wr=> ∃j:Nat,i= .int .i64 j/\j<=10/\wr.heap[r]? =some (.cells (qj .u32 (mixSmall.rounds S M j)) 302 (0,0))/\But r W wr) (fun i _=>10 - (intOf i).toNat)
 case atStart=>exact⟨0,rfl,Nat.zero_le _,HV.out,But.refl _ _⟩
 case round=>
  obtain⟨j,rfl,hj,Z,hB⟩:=hrel;have hm:=(hB.block (o+1) (by omega) (by omega)).trans HM.out;have q:=hid Z;have ai:=hid hm;have O:=hid hB;clear Z hm hB;by_cases aI:j<10
  ·have J:=yd Qr X (M:=M) j;obtain⟨R1,ab⟩:=Ex (mixSmall.rounds S M j);rw[ab]at J q;have aD:=hid ab;clear ab;go_wp2_with (first
    | ((with_reducible show wpList _ _ _ (Oper.mk (some 23) _ _ _ _ _::_) _ _);refine wpList_load_row rfl 302 _ rfl r rfl _ _ _ _ q.out Tryz.underlying302 rfl (by rw[qg,J.1];kernel_rfl) ?_)
    | ((with_reducible show wpList _ _ _ (Oper.mk (some 24) _ _ _ _ _::_) _ _);refine wpList_load_row rfl 302 _ rfl (o+1) rfl _ _ _ _ ai.out Tryz.underlying302 rfl (by rw[qg,hM.1];kernel_rfl) ?_))
   refine(qga R1 M J hM j (by omega) _).mono ?_;rintro e2 w2 ⟨rfl,ac⟩
   have ap:=(ac.block r (Ai q.out).1).trans q.out;have ax:=hid (O.out.trans (But.of_below (b:=r) ac));clear ac;have al:Words 32 16 (mixSmall.round R1 M j):=qJ Qr J (M:=M) j 8;go_wp2_with ((with_reducible show wpList _ _ _ (Oper.mk none (Op.store 302 _ _) _ _ _ _::_) _ _);refine wpList_store_row rfl 302 _ _ rfl r (qj .u32 (mixSmall.round R1 M j)) rfl rfl 302 _ ap (by rw[qg,al.1];kernel_rfl) (by simp only[qg,al.1,J.1]) qA ?_)
   exact⟨⟨j+1,rfl,by omega,by rw[show mixSmall.rounds S M (j+1)=mixSmall.round (mixSmall.rounds S M j) M j from rfl,aD.out];exact setRow_heap _ _ _ _ _ _ ap,ax.out.setRow _⟩,by simp[intOf];omega⟩
  ·obtain rfl:j=10:=by omega
   have hV:=yd Qr X (M:=M) 10;obtain⟨V,ae⟩:=Ex (mixSmall.rounds S M 10);have aA:=hid (show Ending.returned (.agg (qj .u32 (Y9 .u32 h V 8)))= .returned (.agg (qj .u32 (Y9 .u32 h (mixSmall.rounds S M 10) 8))) by rw[ae]);rw[ae]at hV q;clear ae;have ak:=(O.out.block o (by omega) (by omega)).trans HH.out;have aa:=(O.out.block (o+1+1) (by omega) (by omega)).trans HR.out;have aq:Below w.heap.size w wr:=HB.out.trans (O.out.below (by omega) HB.out.size);have aw:=hid ak;have au:=hid q.out;have aC:=hid aa;have aj:=hid aq;have aE:r<wr.heap.size:=(Ai q.out).1;have aG:o+1+1<wr.heap.size:=(Ai aa).1;clear ak aa aq q ai O HH HR HM HV HB;have hF:=QR (k:= .u32) (fun z=>IntKind.wrap_u32 z) (v:=V) U 8;go_wp2_with (first
    | ((with_reducible show wpList _ _ _ (Oper.mk (some 29) _ _ _ _ _::_) _ _);refine wpList_load_row rfl 288 _ rfl o rfl _ _ _ _ aw.out Tryz.underlying288 rfl (by rw[qg,U.1];kernel_rfl) ?_)
    | ((with_reducible show wpList _ _ _ (Oper.mk (some 30) _ _ _ _ _::_) _ _);refine wpList_load_row rfl 302 _ rfl r rfl _ _ _ _ au.out Tryz.underlying302 rfl (by rw[qg,hV.1];kernel_rfl) ?_))
   refine(qiL h V U hV _).mono ?_;rintro e6 w6 ⟨rfl,ad⟩
   have am:=(ad.block (o+1+1) (by omega)).trans aC.out;have ay:=hid (aj.out.trans (ad.mono aj.out.size));clear ad;go_wp2_with ((with_reducible show wpList _ _ _ (Oper.mk none (Op.store 288 _ _) _ _ _ _::_) _ _);refine wpList_store_row rfl 288 _ _ rfl (o+1+1) (qj .u32 (Y9 .u32 h V 8)) rfl rfl 288 _ am (by rw[qg,hF.1];kernel_rfl) (by rw[qg,hF.1];rfl) qA ?_)
   exact Bp (results_cell_row rfl _ _ _ _ _ _ _ rfl (setRow_heap _ _ _ _ _ _ am) Tryz.underlying288 rfl (by rw[qg,hF.1];kernel_rfl)) rfl ⟨aA.out,below_setRow (ay.out.mono (by omega)) (by omega) _⟩
