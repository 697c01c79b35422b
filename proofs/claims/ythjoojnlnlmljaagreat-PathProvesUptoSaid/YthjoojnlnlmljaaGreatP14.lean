/- A round of the mixing, by the reference, both kinds. No condition. -/
import Derived.Test.YthjoojnlnlmljaaGreatP12
import Derived.Test.YthjoojnlnlmljaaGreatP13
set_option linter.all false
set_option maxRecDepth 100000
set_option maxHeartbeats 8000000
namespace Go.Proofs.YthjoojnlnlmljaaGreat
open Go.ChangeShapes Go.WideShapes Go.ChangeAt Go.RowKit Go.Joins
open Go.Lib (hid)
attribute [local go_sem] Oper.semAt_some
def qcO (p:Nat→Oper→Prop):Nat→List Oper→Prop
 | _,[]=>True
 | n,o::l=>p n o∧qcO p (n+1) l
theorem qh {p:Nat→Oper→Prop}{n:Nat}{o:Oper}{l:List Oper}(h:p n o)(q:qcO p (n+1) l):qcO p n (o::l):=⟨h,q⟩
theorem jQ {p:Nat→Oper→Prop}{n:Nat}:qcO p n []:=trivial
theorem qex {p:Nat→Oper→Prop}: ∀(l:List Oper) (n:Nat),qcO p n l→ ∀i o,l[i]? =some o→p (n+i) o
 | [],_,_,i,o,h=>by simp at h
 | a::l,n,h,0,o,e=>by simp at e;subst e;exact h.1
 | a::l,n,h,i+1,o,e=>by
  have:=qex l (n+1) h.2 i o (by simpa using e)
  rw[show n+(i+1)=n+1+i by omega];exact this
theorem ZH {p:Nat→Oper→Prop}{l:List Oper}(h:qcO p 0 l): ∀i o,l[i]? =some o→p i o:=fun i o q=>by
 have:=qex l 0 h i o q
 rwa[Nat.zero_add]at this
theorem Zo {o:Oper}{ys:Nat→Option Bool}(h:o.guard=none):Region.wanted o ys=true:=by unfold Region.wanted;rw[h]
def qbU (W:World)(b:Nat)(T:TypeId)(cs:Array Value):Prop:=W.heap[b]? =some (.cells cs T (0,0))
def zb (s b:Nat)(T:TypeId)(cs:Array Value)(L:List Value)(i:Nat)(v:Value)(W:World):Prop:=
 if i=s then qbU W b T cs else match L[i]? with|some g=>v=g|none=>True
theorem qaE {s b:Nat}{T:TypeId}{cs:Array Value}(L:List Value){W W':World}(o:Below W.heap.size W W')(i:Nat): ∀j u,j≠i→zb s b T cs L j u W→zb s b T cs L j u W':=by
 intro j u _ h;unfold zb at*;by_cases e:j=s
 ·rw[if_pos e]at h⊢;exact(o.block b (Ai h).1).trans h
 ·rw[if_neg e]at h⊢;exact h
theorem qaD {s b:Nat}{T:TypeId}{cs:Array Value}(L:List Value){W W':World}: ∀j u,j≠s→zb s b T cs L j u W→zb s b T cs L j u W':=by
 intro j u e h;unfold zb at*;rw[if_neg e]at h⊢;exact h
theorem qcG {s b:Nat}{T:TypeId}{cs:Array Value}{L:List Value}{i:Nat}(o:i=s)(v:Value)(W:World)(h:zb s b T cs L i v W):zb s b T cs L i undef W:=by
 unfold zb at*;rw[if_pos o]at h⊢;exact h
theorem qaC {s b:Nat}{T:TypeId}{cs:Array Value}{L:List Value}{v:Value}{W:World}(h:qbU W b T cs):zb s b T cs L s v W:=by
 unfold zb;rw[if_pos rfl];exact h
def RS (b:Nat)(T:TypeId)(cs:Array Value)(w:World)(f:Bool)(W:World):Prop:=But b w W∧(f=false→qbU W b T cs)
theorem RS.next {b:Nat}{T:TypeId}{cs:Array Value}{w:World}{f g:Bool}{W W':World}(h:RS b T cs w f W)(o:Below W.heap.size W W')(q:g=false→f=false):RS b T cs w g W':=
 ⟨h.1.trans (But.of_below o),fun e=>(o.block b (Ai (h.2 (q e))).1).trans (h.2 (q e))⟩
theorem RS.same {b:Nat}{T:TypeId}{cs:Array Value}{w:World}{f g:Bool}{W:World}(h:RS b T cs w f W)(o:g=false→f=false):RS b T cs w g W:=⟨h.1,fun e=>h.2 (o e)⟩
theorem Qo {f b:Bool}(h:(f||b)=false):f=false:=by cases f<;>simp_all
theorem But.setRow {b:Nat}{w W:World}(h:But b w W)(cs:Array Value):But b w (W.setRow b cs):=h.trans ⟨rfl,rfl,rfl,by simp[World.setRow],fun g _ o=>setRow_other _ _ _ _ o⟩
theorem qe2 (Y M:List Int)(aj:Words 64 16 Y)(hM:Words 64 16 M)(r:Nat)(hr:r≤11)(w:World):
  Calls Tryz.prog 209 #[.agg (qj .u64 Y),.agg (qj .u64 M),.int .i64 r] w fun e w'=>e= .returned (.tuple #[.agg (qj .u64 (mixBig.round Y M r)),.int .i64 0])∧Below w.heap.size w w':=by
 obtain⟨O,aK⟩:=Ex w.heap.size;have aS: ¬((r:Int)<0):=by omega
 have aP: ¬(11<(r:Int)):=by omega
 have HS:=hid (fun i (hi:i<16)=>qat r i (by omega) hi);go_enter Tryz.func209,Tryz.ntmps209
 go_wp2_with fail
 refine qn ?_;intro W hW;have hv:W.heap[O]? =some (.cells (qj .u64 Y) 252 (0,0)):=by
  rw[hW];exact(Bh _ _ _ (by simp;omega)).trans ((Bh _ _ _ (by simp;omega)).trans (qe _ _ aK.symm))
 have hm:W.heap[O+1]? =some (.cells (qj .u64 M) 252 (0,0)):=by
  rw[hW];exact(Bh _ _ _ (by simp;omega)).trans (qe _ _ (by simp;omega))
 have ad:W.heap[O+1+1]? =some (.cells #[.int .u64 0,.int .u64 0,.int .u64 0,.int .u64 0,.int .u64 0,.int .u64 0,.int .u64 0,.int .u64 0,.int .u64 0,.int .u64 0,.int .u64 0,.int .u64 0,.int .u64 0,.int .u64 0,.int .u64 0,.int .u64 0] 252 (0,0)):=by
  rw[hW];exact qe _ _ (by simp;omega)
 have hB:Below w.heap.size w W:=by
  rw[hW];exact(((Below.refl w.heap.size w).alloc Nl _).alloc (by simp) _).alloc (by simp;omega) _
 have aM:O+1+1<W.heap.size:=(Ai ad).1;clear hW;have HV:=hid hv;have HM:=hid hm;have HR:=hid ad;have HB:=hid hB;clear hv hm ad hB;go_loopw [8] (fun i wr=> ∃j:Nat,i= .int .i64 j∧j≤8∧wr.heap[O]? =some (.cells (qj .u64 (mixBig.turns Y M r j)) 252 (0,0))∧But O W wr) (fun i _=>8 - (intOf i).toNat)
 case atStart=>exact⟨0,rfl,Nat.zero_le _,HV.out,But.refl _ _⟩
 case round=>
  obtain⟨j,rfl,hj,hv,hB⟩:=hrel;have am:=hid hv;have af:=hid hB;have aR:=hB.size;clear hv hB;by_cases au:j<8
  ·have V:=qG QK aj (M:=M) r j;have X:mixBig.turns Y M r (j+1)=mixBig.step (mixBig.turns Y M r j) (plA j) (plB j) (plC j) (plD j) (wd M (qv r (2*j))) (wd M (qv r (2*j+1))):=rfl;have ak:=hid X;have aa:=qG QK aj (M:=M) r (j+1);rw[X]at aa;clear X;obtain⟨p1,p2,p3,p4,p5,p6,p7,p8,p9,az⟩:=qdV j au;have HG:=hid (fun W=>qiR (mixBig.turns Y M r j) V (plA j) (plB j) (plC j) (plD j) p1 p2 p3 p4 p5 p6 p7 p8 p9 az (wd M (qv r (2*j))) (wd M (qv r (2*j+1))) W);have aG:=hid (HS.out (2*j) (by omega));have aN:=hid (HS.out (2*j+1) (by omega));have s0:=qU r (2*j);have s1:=qU r (2*j+1);have t0:((qv r (2*j):Nat):Int)<16:=by omega
   have t1:((qv r (2*j+1):Nat):Int)<16:=by omega
   have hx:(qj .u64 M)[qv r (2*j)]? =some (.int .u64 (wd M (qv r (2*j)))):=qC hM s0;have hy:(qj .u64 M)[qv r (2*j+1)]? =some (.int .u64 (wd M (qv r (2*j+1)))):=qC hM s1;have HX:=hid hx;have HY:=hid hy;obtain⟨L,aA⟩:=Ex (mixBig.turns Y M r j);rw[aA]at am V HG ak aa;obtain⟨Z,aw⟩:=Ex (mixBig.step L (plA j) (plB j) (plC j) (plD j) (wd M (qv r (2*j))) (wd M (qv r (2*j+1))));rw[aw]at HG ak aa;obtain⟨mx,ay⟩:=Ex (wd M (qv r (2*j)));obtain⟨my,ax⟩:=Ex (wd M (qv r (2*j+1)));rw[ay]at HX HG;rw[ax]at HY HG;have HP:=hid (qc1 j au);have aT:IntKind.i64.wrap (2*(j:Int))=((2*j:Nat):Int):=by rw[IntKind.wrap_i64];omega
   have aQ:IntKind.i64.wrap (((2*j:Nat):Int)+1)=((2*j+1:Nat):Int):=by rw[IntKind.wrap_i64];omega
   clear aA aw ay ax hx hy p1 p2 p3 p4 p5 p6 p7 p8 p9 az;generalize qv r (2*j)=sx at*;generalize qv r (2*j+1)=sy at*;generalize 2*j+1=k3 at*;generalize 2*j=k2 at*;generalize plA j=pa at*;generalize plB j=pb at*;generalize plC j=pc at*;generalize plD j=pd at*;go_wp2_with fail
   refine(HP.out _).mono ?_;rintro e2 w2 ⟨rfl,ab⟩;have ar:=(ab.block O (by omega)).trans am.out;have aC:=(ab.block (O+1) (by omega)).trans ((af.out.block (O+1) (by omega) (by omega)).trans HM.out);have ap:=af.out.trans (But.of_below ab);have aI:=ab.size;clear ab;go_wp2_with fail
   refine qn ?_;intro Wp ac;obtain⟨U,ai⟩:=Ex w2.heap.size;have aq:Wp.heap[O]? =some (.cells (qj .u64 L) 252 (0,0)):=by rw[ac];exact(Bh _ _ _ (by omega)).trans ar
   have al:Wp.heap[O+1]? =some (.cells (qj .u64 M) 252 (0,0)):=by rw[ac];exact(Bh _ _ _ (by omega)).trans aC
   have an:Wp.heap[U]? =some (.cells #[.int .i64 pa,.int .i64 pb,.int .i64 pc,.int .i64 pd] 330 (0,0)):=by rw[ac];exact qe _ _ ai.symm
   have av:But O W Wp:=by rw[ac];exact ap.alloc _
   have ah:U<Wp.heap.size:=(Ai an).1;have ao:O+1<Wp.heap.size:=(Ai al).1;have ag:U≠O:=by omega
   rw[ai];have aF:=hid aq;have aB:=hid al;have ae:=hid an;have aJ:=hid av;clear ac ar aC ap aI ai aq al an av;refine ZP (s:=26) (ds:=[24,25,26,27,28,29,30,31,32,33,34,35,36,37,38,39,40,41,42,43,44,45,46,23,47,48]) (R:=RS O 252 (qj .u64 L) Wp) (Good:=zb 26 O 252 (qj .u64 Z) [.agg (qj .u64 L),.pointer (some ⟨U,0,none⟩),.int .i64 pa,.pointer (some ⟨U,1,none⟩),.int .i64 pb,.pointer (some ⟨U,2,none⟩),.int .i64 pc,.pointer (some ⟨U,3,none⟩),.int .i64 pd,.int .i64 r,.int .i64 j,.int .i64 k2,.int .i64 sx,.pointer (some ⟨O+1,sx,none⟩),.int .u64 mx,.int .i64 r,.int .i64 j,.int .i64 k2,.int .i64 k3,.int .i64 sy,.pointer (some ⟨O+1,sy,none⟩),.int .u64 my,.tuple #[.agg (qj .u64 Z),.int .i64 0],.tuple #[.agg (qj .u64 Z),.int .i64 0],.agg (qj .u64 Z),.int .i64 0]) rfl (by decide) (by kernel_rfl) (by kernel_rfl) ?_ ?_ ?_ ?_
   case refine_1=>exact⟨(But.refl O Wp).trans (But.of_below Br.drew),fun _=>aF.out⟩
   case refine_2=>
    refine ZH (p:=_) ?_;refine qh ?_ (qh ?_ (qh ?_ (qh ?_ (qh ?_ (qh ?_ (qh ?_ (qh ?_ (qh ?_ (qh ?_ (qh ?_ (qh ?_ (qh ?_ (qh ?_ (qh ?_ (qh ?_ (qh ?_ (qh ?_ (qh ?_ (qh ?_ (qh ?_ (qh ?_ (qh ?_ (qh ?_ (qh ?_ (qh ?_ (qh ?_ (jQ)))))))))))))))))))))))))))
    ·intro f x W' I D q K G;clear q;have X:=I.2 (D (by kernel_rfl));simp only[lay,Act.put,Ls]at G⊢;rw[if_pos (Zo rfl)];refine wp_load_row 252 _ rfl O rfl _ _ _ _ X Tryz.underlying252 rfl (by rw[qf,V.1];kernel_rfl) ?_;exact G _ _ (I.same Qo) (fun _ _ _ h=>h) rfl
    ·intro f x W' I D q K G;clear q;clear D;simp only[lay,Act.put,Ls]at G⊢;go_simp
     exact G _ _ (I.same Qo) (fun _ _ _ h=>h) rfl
    ·intro f x W' I D q K G;have J:x 25= .pointer (some ⟨U,0,none⟩):=q ⟨1,.data⟩ (by simp) rfl _ rfl;clear q;have cP:=(qO ((I.1.block U ah ag).trans ae.out)).1;clear D;simp only[lay,Act.put,Ls,J]at G⊢;go_simp
     exact G _ _ (I.same Qo) (fun _ _ _ h=>h) rfl
    ·intro f x W' I D q K G;clear q;clear D;simp only[lay,Act.put,Ls]at G⊢;go_simp
     exact G _ _ (I.same Qo) (fun _ _ _ h=>h) rfl
    ·intro f x W' I D q K G;have J:x 27= .pointer (some ⟨U,1,none⟩):=q ⟨3,.data⟩ (by simp) rfl _ rfl;clear q;have cP:=(qO ((I.1.block U ah ag).trans ae.out)).1;clear D;simp only[lay,Act.put,Ls,J]at G⊢;go_simp
     exact G _ _ (I.same Qo) (fun _ _ _ h=>h) rfl
    ·intro f x W' I D q K G;clear q;clear D;simp only[lay,Act.put,Ls]at G⊢;go_simp
     exact G _ _ (I.same Qo) (fun _ _ _ h=>h) rfl
    ·intro f x W' I D q K G;have J:x 29= .pointer (some ⟨U,2,none⟩):=q ⟨5,.data⟩ (by simp) rfl _ rfl;clear q;have cP:=(qO ((I.1.block U ah ag).trans ae.out)).1;clear D;simp only[lay,Act.put,Ls,J]at G⊢;go_simp
     exact G _ _ (I.same Qo) (fun _ _ _ h=>h) rfl
    ·intro f x W' I D q K G;clear q;clear D;simp only[lay,Act.put,Ls]at G⊢;go_simp
     exact G _ _ (I.same Qo) (fun _ _ _ h=>h) rfl
    ·intro f x W' I D q K G;have J:x 31= .pointer (some ⟨U,3,none⟩):=q ⟨7,.data⟩ (by simp) rfl _ rfl;clear q;have cP:=(qO ((I.1.block U ah ag).trans ae.out)).1;clear D;simp only[lay,Act.put,Ls,J]at G⊢;go_simp
     exact G _ _ (I.same Qo) (fun _ _ _ h=>h) rfl
    ·intro f x W' I D q K G;clear q;clear D;simp only[lay,Act.put,Ls]at G⊢;go_simp
     exact G _ _ (I.same Qo) (fun _ _ _ h=>h) rfl
    ·intro f x W' I D q K G;clear q;clear D;simp only[lay,Act.put,Ls]at G⊢;go_simp
     exact G _ _ (I.same Qo) (fun _ _ _ h=>h) rfl
    ·intro f x W' I D q K G;have J:x 34= .int .i64 j:=q ⟨10,.data⟩ (by simp) rfl _ rfl;clear q;clear D;simp only[lay,Act.put,Ls,J]at G⊢;go_simp
     exact G _ _ (I.same Qo) (fun _ _ _ h=>h) rfl
    ·intro f x W' I D q K G;have J:x 33= .int .i64 r:=q ⟨9,.data⟩ (by simp) rfl _ rfl;have g1:x 35= .int .i64 k2:=q ⟨11,.data⟩ (by simp) rfl _ rfl;clear q;clear D;simp only[lay,Act.put,Ls,J,g1]at G⊢;go_simp
     refine(aG.out W').mono ?_;rintro e4 w4 ⟨rfl,rfl⟩
     exact G _ _ (I.same Qo) (fun _ _ _ h=>h) rfl
    ·intro f x W' I D q K G;have J:x 36= .int .i64 sx:=q ⟨12,.data⟩ (by simp) rfl _ rfl;clear q;clear D;simp only[lay,Act.put,Ls,J]at G⊢;go_simp
     exact G _ _ (I.same Qo) (fun _ _ _ h=>h) rfl
    ·intro f x W' I D q K G;have J:x 37= .pointer (some ⟨O+1,sx,none⟩):=q ⟨13,.data⟩ (by simp) rfl _ rfl;clear q;have cM:=(qq ((I.1.block (O+1) ao (by omega)).trans aB.out) sx).trans HX.out;clear D;simp only[lay,Act.put,Ls,J]at G⊢;go_simp
     exact G _ _ (I.same Qo) (fun _ _ _ h=>h) rfl
    ·intro f x W' I D q K G;clear q;clear D;simp only[lay,Act.put,Ls]at G⊢;go_simp
     exact G _ _ (I.same Qo) (fun _ _ _ h=>h) rfl
    ·intro f x W' I D q K G;clear q;clear D;simp only[lay,Act.put,Ls]at G⊢;go_simp
     exact G _ _ (I.same Qo) (fun _ _ _ h=>h) rfl
    ·intro f x W' I D q K G;have J:x 40= .int .i64 j:=q ⟨16,.data⟩ (by simp) rfl _ rfl;clear q;clear D;simp only[lay,Act.put,Ls,J]at G⊢;go_simp
     exact G _ _ (I.same Qo) (fun _ _ _ h=>h) rfl
    ·intro f x W' I D q K G;have J:x 41= .int .i64 k2:=q ⟨17,.data⟩ (by simp) rfl _ rfl;clear q;clear D;simp only[lay,Act.put,Ls,J]at G⊢;go_simp
     exact G _ _ (I.same Qo) (fun _ _ _ h=>h) rfl
    ·intro f x W' I D q K G;have J:x 39= .int .i64 r:=q ⟨15,.data⟩ (by simp) rfl _ rfl;have g1:x 42= .int .i64 k3:=q ⟨18,.data⟩ (by simp) rfl _ rfl;clear q;clear D;simp only[lay,Act.put,Ls,J,g1]at G⊢;go_simp
     refine(aN.out W').mono ?_;rintro e4 w4 ⟨rfl,rfl⟩
     exact G _ _ (I.same Qo) (fun _ _ _ h=>h) rfl
    ·intro f x W' I D q K G;have J:x 43= .int .i64 sy:=q ⟨19,.data⟩ (by simp) rfl _ rfl;clear q;clear D;simp only[lay,Act.put,Ls,J]at G⊢;go_simp
     exact G _ _ (I.same Qo) (fun _ _ _ h=>h) rfl
    ·intro f x W' I D q K G;have J:x 44= .pointer (some ⟨O+1,sy,none⟩):=q ⟨20,.data⟩ (by simp) rfl _ rfl;clear q;have cM:=(qq ((I.1.block (O+1) ao (by omega)).trans aB.out) sy).trans HY.out;clear D;simp only[lay,Act.put,Ls,J]at G⊢;go_simp
     exact G _ _ (I.same Qo) (fun _ _ _ h=>h) rfl
    ·intro f x W' I D q K G;have J:x 24= .agg (qj .u64 L):=q ⟨0,.data⟩ (by simp) rfl _ rfl;have g1:x 26= .int .i64 pa:=q ⟨2,.data⟩ (by simp) rfl _ rfl;have g2:x 28= .int .i64 pb:=q ⟨4,.data⟩ (by simp) rfl _ rfl;have g3:x 30= .int .i64 pc:=q ⟨6,.data⟩ (by simp) rfl _ rfl;have g4:x 32= .int .i64 pd:=q ⟨8,.data⟩ (by simp) rfl _ rfl;have g5:x 38= .int .u64 mx:=q ⟨14,.data⟩ (by simp) rfl _ rfl;have g6:x 45= .int .u64 my:=q ⟨21,.data⟩ (by simp) rfl _ rfl;clear q;clear D;simp only[lay,Act.put,Ls,J,g1,g2,g3,g4,g5,g6]at G⊢;go_simp
     refine(HG.out W').mono ?_;rintro e4 w4 ⟨rfl,aE⟩
     exact G _ _ (I.next aE Qo) (qaE _ aE _) rfl
    ·intro f x W' I D q K G;have J:x 46= .tuple #[.agg (qj .u64 Z),.int .i64 0]:=q ⟨22,.data⟩ (by simp) rfl _ rfl;clear q;clear D;simp only[lay,Act.put,Ls,J]at G⊢;go_simp
     exact G _ _ (I.same Qo) (fun _ _ _ h=>h) rfl
    ·intro f x W' I D q K G;have J:x 23= .tuple #[.agg (qj .u64 Z),.int .i64 0]:=q ⟨23,.data⟩ (by simp) rfl _ rfl;clear q;clear D;simp only[lay,Act.put,Ls,J]at G⊢;go_simp
     exact G _ _ (I.same Qo) (fun _ _ _ h=>h) rfl
    ·intro f x W' I D q K G;have J:x 23= .tuple #[.agg (qj .u64 Z),.int .i64 0]:=q ⟨23,.data⟩ (by simp) rfl _ rfl;clear q;clear D;simp only[lay,Act.put,Ls,J]at G⊢;go_simp
     exact G _ _ (I.same Qo) (fun _ _ _ h=>h) rfl
    ·intro f x W' I D q K G;have J:x 47= .agg (qj .u64 Z):=q ⟨24,.data⟩ (by simp) rfl _ rfl;clear q;have X:=I.2 (D (by kernel_rfl));simp only[lay,Act.put,Ls,J]at G⊢;rw[if_pos (Zo rfl)];refine wp_store_row 252 _ _ rfl O (qj .u64 Z) rfl rfl _ _ X (by rw[qf,aa.1];kernel_rfl) (by simp only[qf,aa.1,V.1]) qy ?_;exact G undef _ ⟨I.1.setRow _,fun e=>by simp at e⟩ (qaD _) (qaC (setRow_heap _ _ _ _ _ _ X))
   case refine_3=>
    refine ZH (p:=fun i (o:Oper)=> ∀v W,o.dst=none→zb 26 O 252 (qj .u64 Z) _ i v W→zb 26 O 252 (qj .u64 Z) _ i undef W) ?_|>fun h i o v W hi=>h i o hi v W
    refine qh ?_ (qh ?_ (qh ?_ (qh ?_ (qh ?_ (qh ?_ (qh ?_ (qh ?_ (qh ?_ (qh ?_ (qh ?_ (qh ?_ (qh ?_ (qh ?_ (qh ?_ (qh ?_ (qh ?_ (qh ?_ (qh ?_ (qh ?_ (qh ?_ (qh ?_ (qh ?_ (qh ?_ (qh ?_ (qh ?_ (qh ?_ (jQ)))))))))))))))))))))))))));all_goals first|(intro v W h;cases h;done)|exact fun v W _ h=>qcG rfl v W h
   case refine_4=>
    intro f x W' I hG;have hS:qbU W' O 252 (qj .u64 Z):=hG 26 _ rfl;have aH:=hid hS;have aO:=hid (aJ.out.trans I.1);clear hS I hG;simp only[lay,Act.put,Ls];go_wp2
    exact⟨⟨j+1,rfl,by omega,by rw[ak.out];exact aH.out,aO.out⟩,by simp[intOf];omega⟩
  ·obtain rfl:j=8:=by omega
   have V:=qG QK aj (M:=M) r 8;have HL:=hid (show Ending.returned (.tuple #[.agg (qj .u64 (mixBig.turns Y M r 8)),.int .i64 0])= .returned (.tuple #[.agg (qj .u64 (mixBig.round Y M r)),.int .i64 0]) from rfl);have aD:=(af.out.block (O+1+1) aM (by omega)).trans HR.out;have aL:=hid (HB.out.trans (af.out.below (by omega) HB.out.size));generalize mixBig.turns Y M r 8=L at*;go_upto_region 8 with(fail)
   apply wp_region_lit
   refine wpList_load_row rfl 252 _ rfl O rfl _ _ _ _ am.out Tryz.underlying252 rfl (by rw[qf,V.1];kernel_rfl) ?_;refine wpList_store_row rfl 252 _ _ rfl (O+1+1) (qj .u64 L) rfl rfl 252 _ aD (by rw[qf,V.1];kernel_rfl) (by rw[qf,V.1];rfl) qy ?_;simp only[Act.put,Ls];go_wp2_with fail
   exact Bp (qA rfl _ _ _ _ _ _ _ rfl (setRow_heap _ _ _ _ _ _ aD) Tryz.underlying252 rfl (by rw[qf,V.1];kernel_rfl)) rfl ⟨Eq.trans (b:= .returned (.tuple #[.agg (qj .u64 L),.int .i64 0])) rfl HL.out,below_setRow (aL.out.mono (by omega)) (by omega) _⟩
theorem qe3 (X M:List Int)(ad:Words 32 16 X)(hM:Words 32 16 M)(r:Nat)(hr:r≤9)(w:World):
  Calls Tryz.prog 212 #[.agg (qj .u32 X),.agg (qj .u32 M),.int .i64 r] w fun e w'=>e= .returned (.tuple #[.agg (qj .u32 (mixSmall.round X M r)),.int .i64 0])∧Below w.heap.size w w':=by
 obtain⟨J,az⟩:=Ex w.heap.size;have aH: ¬((r:Int)<0):=by omega
 have aE: ¬(9<(r:Int)):=by omega
 have HS:=hid (fun i (hi:i<16)=>qat r i (by omega) hi);go_enter Tryz.func212,Tryz.ntmps212
 go_wp2_with fail
 refine qn ?_;intro W hW;have hv:W.heap[J]? =some (.cells (qj .u32 X) 298 (0,0)):=by
  rw[hW];exact(Bh _ _ _ (by simp;omega)).trans ((Bh _ _ _ (by simp;omega)).trans (qe _ _ az.symm))
 have hm:W.heap[J+1]? =some (.cells (qj .u32 M) 298 (0,0)):=by
  rw[hW];exact(Bh _ _ _ (by simp;omega)).trans (qe _ _ (by simp;omega))
 have aa:W.heap[J+1+1]? =some (.cells #[.int .u32 0,.int .u32 0,.int .u32 0,.int .u32 0,.int .u32 0,.int .u32 0,.int .u32 0,.int .u32 0,.int .u32 0,.int .u32 0,.int .u32 0,.int .u32 0,.int .u32 0,.int .u32 0,.int .u32 0,.int .u32 0] 298 (0,0)):=by
  rw[hW];exact qe _ _ (by simp;omega)
 have hB:Below w.heap.size w W:=by
  rw[hW];exact(((Below.refl w.heap.size w).alloc Nl _).alloc (by simp) _).alloc (by simp;omega) _
 have aB:J+1+1<W.heap.size:=(Ai aa).1;clear hW;have HV:=hid hv;have HM:=hid hm;have HR:=hid aa;have HB:=hid hB;clear hv hm aa hB;go_loopw [8] (fun i wr=> ∃j:Nat,i= .int .i64 j∧j≤8∧wr.heap[J]? =some (.cells (qj .u32 (mixSmall.turns X M r j)) 298 (0,0))∧But J W wr) (fun i _=>8 - (intOf i).toNat)
 case atStart=>exact⟨0,rfl,Nat.zero_le _,HV.out,But.refl _ _⟩
 case round=>
  obtain⟨j,rfl,hj,hv,hB⟩:=hrel;have ag:=hid hv;have ab:=hid hB;have aG:=hB.size;clear hv hB;by_cases aj:j<8
  ·have U:=qG Qn ad (M:=M) r j;have V:mixSmall.turns X M r (j+1)=mixSmall.step (mixSmall.turns X M r j) (plA j) (plB j) (plC j) (plD j) (wd M (qv r (2*j))) (wd M (qv r (2*j+1))):=rfl;have ae:=hid V;have Z:=qG Qn ad (M:=M) r (j+1);rw[V]at Z;clear V;obtain⟨p1,p2,p3,p4,p5,p6,p7,p8,p9,ar⟩:=qdV j aj;have HG:=hid (fun W=>qiS (mixSmall.turns X M r j) U (plA j) (plB j) (plC j) (plD j) p1 p2 p3 p4 p5 p6 p7 p8 p9 ar (wd M (qv r (2*j))) (wd M (qv r (2*j+1))) W);have aw:=hid (HS.out (2*j) (by omega));have aC:=hid (HS.out (2*j+1) (by omega));have s0:=qU r (2*j);have s1:=qU r (2*j+1);have t0:((qv r (2*j):Nat):Int)<16:=by omega
   have t1:((qv r (2*j+1):Nat):Int)<16:=by omega
   have hx:(qj .u32 M)[qv r (2*j)]? =some (.int .u32 (wd M (qv r (2*j)))):=qC hM s0;have hy:(qj .u32 M)[qv r (2*j+1)]? =some (.int .u32 (wd M (qv r (2*j+1)))):=qC hM s1;have HX:=hid hx;have HY:=hid hy;obtain⟨L,ao⟩:=Ex (mixSmall.turns X M r j);rw[ao]at ag U HG ae Z;obtain⟨Y,al⟩:=Ex (mixSmall.step L (plA j) (plB j) (plC j) (plD j) (wd M (qv r (2*j))) (wd M (qv r (2*j+1))));rw[al]at HG ae Z;obtain⟨mx,an⟩:=Ex (wd M (qv r (2*j)));obtain⟨my,am⟩:=Ex (wd M (qv r (2*j+1)));rw[an]at HX HG;rw[am]at HY HG;have HP:=hid (qiC j aj);have aI:IntKind.i64.wrap (2*(j:Int))=((2*j:Nat):Int):=by rw[IntKind.wrap_i64];omega
   have aF:IntKind.i64.wrap (((2*j:Nat):Int)+1)=((2*j+1:Nat):Int):=by rw[IntKind.wrap_i64];omega
   clear ao al an am hx hy p1 p2 p3 p4 p5 p6 p7 p8 p9 ar;generalize qv r (2*j)=sx at*;generalize qv r (2*j+1)=sy at*;generalize 2*j+1=k3 at*;generalize 2*j=k2 at*;generalize plA j=pa at*;generalize plB j=pb at*;generalize plC j=pc at*;generalize plD j=pd at*;go_wp2_with fail
   refine(HP.out _).mono ?_;rintro e2 w2 ⟨rfl,rfl⟩;go_wp2_with fail
   refine qn ?_;intro Wp ac;have ai:Wp.heap[J]? =some (.cells (qj .u32 L) 298 (0,0)):=by rw[ac];exact ag.out
   have af:Wp.heap[J+1]? =some (.cells (qj .u32 M) 298 (0,0)):=by rw[ac];exact(ab.out.block (J+1) (by omega) (by omega)).trans HM.out
   have ak:But J W Wp:=by rw[ac];exact ab.out
   have ah:J+1<Wp.heap.size:=(Ai af).1;have av:=hid ai;have ap:=hid af;have ay:=hid ak;clear ac ai af ak;refine ZP (s:=22) (ds:=[32,33,34,35,36,37,38,39,40,41,42,43,44,45,46,47,48,49,50,31,51,52]) (R:=RS J 298 (qj .u32 L) Wp) (Good:=zb 22 J 298 (qj .u32 Y) [.agg (qj .u32 L),.int .i64 pa,.int .i64 pb,.int .i64 pc,.int .i64 pd,.int .i64 r,.int .i64 j,.int .i64 k2,.int .i64 sx,.pointer (some ⟨J+1,sx,none⟩),.int .u32 mx,.int .i64 r,.int .i64 j,.int .i64 k2,.int .i64 k3,.int .i64 sy,.pointer (some ⟨J+1,sy,none⟩),.int .u32 my,.tuple #[.agg (qj .u32 Y),.int .i64 0],.tuple #[.agg (qj .u32 Y),.int .i64 0],.agg (qj .u32 Y),.int .i64 0]) rfl (by decide) (by kernel_rfl) (by kernel_rfl) ?_ ?_ ?_ ?_
   case refine_1=>exact⟨(But.refl J Wp).trans (But.of_below Br.drew),fun _=>av.out⟩
   case refine_2=>
    refine ZH (p:=_) ?_;refine qh ?_ (qh ?_ (qh ?_ (qh ?_ (qh ?_ (qh ?_ (qh ?_ (qh ?_ (qh ?_ (qh ?_ (qh ?_ (qh ?_ (qh ?_ (qh ?_ (qh ?_ (qh ?_ (qh ?_ (qh ?_ (qh ?_ (qh ?_ (qh ?_ (qh ?_ (qh ?_ (jQ)))))))))))))))))))))))
    ·intro f x W' I D q K G;clear q;have V:=I.2 (D (by kernel_rfl));simp only[lay,Act.put,Ls]at G⊢;rw[if_pos (Zo rfl)];refine wp_load_row 298 _ rfl J rfl _ _ _ _ V Tryz.underlying298 rfl (by rw[qf,U.1];kernel_rfl) ?_;exact G _ _ (I.same Qo) (fun _ _ _ h=>h) rfl
    ·intro f x W' I D q K G;clear q;clear D;simp only[lay,Act.put,Ls]at G⊢;go_simp
     exact G _ _ (I.same Qo) (fun _ _ _ h=>h) rfl
    ·intro f x W' I D q K G;clear q;clear D;simp only[lay,Act.put,Ls]at G⊢;go_simp
     exact G _ _ (I.same Qo) (fun _ _ _ h=>h) rfl
    ·intro f x W' I D q K G;clear q;clear D;simp only[lay,Act.put,Ls]at G⊢;go_simp
     exact G _ _ (I.same Qo) (fun _ _ _ h=>h) rfl
    ·intro f x W' I D q K G;clear q;clear D;simp only[lay,Act.put,Ls]at G⊢;go_simp
     exact G _ _ (I.same Qo) (fun _ _ _ h=>h) rfl
    ·intro f x W' I D q K G;clear q;clear D;simp only[lay,Act.put,Ls]at G⊢;go_simp
     exact G _ _ (I.same Qo) (fun _ _ _ h=>h) rfl
    ·intro f x W' I D q K G;clear q;clear D;simp only[lay,Act.put,Ls]at G⊢;go_simp
     exact G _ _ (I.same Qo) (fun _ _ _ h=>h) rfl
    ·intro f x W' I D q K G;have O:x 38= .int .i64 j:=q ⟨6,.data⟩ (by simp) rfl _ rfl;clear q;clear D;simp only[lay,Act.put,Ls,O]at G⊢;go_simp
     exact G _ _ (I.same Qo) (fun _ _ _ h=>h) rfl
    ·intro f x W' I D q K G;have O:x 37= .int .i64 r:=q ⟨5,.data⟩ (by simp) rfl _ rfl;have g1:x 39= .int .i64 k2:=q ⟨7,.data⟩ (by simp) rfl _ rfl;clear q;clear D;simp only[lay,Act.put,Ls,O,g1]at G⊢;go_simp
     refine(aw.out W').mono ?_;rintro e4 w4 ⟨rfl,rfl⟩
     exact G _ _ (I.same Qo) (fun _ _ _ h=>h) rfl
    ·intro f x W' I D q K G;have O:x 40= .int .i64 sx:=q ⟨8,.data⟩ (by simp) rfl _ rfl;clear q;clear D;simp only[lay,Act.put,Ls,O]at G⊢;go_simp
     exact G _ _ (I.same Qo) (fun _ _ _ h=>h) rfl
    ·intro f x W' I D q K G;have O:x 41= .pointer (some ⟨J+1,sx,none⟩):=q ⟨9,.data⟩ (by simp) rfl _ rfl;clear q;have cM:=(qq ((I.1.block (J+1) ah (by omega)).trans ap.out) sx).trans HX.out;clear D;simp only[lay,Act.put,Ls,O]at G⊢;go_simp
     exact G _ _ (I.same Qo) (fun _ _ _ h=>h) rfl
    ·intro f x W' I D q K G;clear q;clear D;simp only[lay,Act.put,Ls]at G⊢;go_simp
     exact G _ _ (I.same Qo) (fun _ _ _ h=>h) rfl
    ·intro f x W' I D q K G;clear q;clear D;simp only[lay,Act.put,Ls]at G⊢;go_simp
     exact G _ _ (I.same Qo) (fun _ _ _ h=>h) rfl
    ·intro f x W' I D q K G;have O:x 44= .int .i64 j:=q ⟨12,.data⟩ (by simp) rfl _ rfl;clear q;clear D;simp only[lay,Act.put,Ls,O]at G⊢;go_simp
     exact G _ _ (I.same Qo) (fun _ _ _ h=>h) rfl
    ·intro f x W' I D q K G;have O:x 45= .int .i64 k2:=q ⟨13,.data⟩ (by simp) rfl _ rfl;clear q;clear D;simp only[lay,Act.put,Ls,O]at G⊢;go_simp
     exact G _ _ (I.same Qo) (fun _ _ _ h=>h) rfl
    ·intro f x W' I D q K G;have O:x 43= .int .i64 r:=q ⟨11,.data⟩ (by simp) rfl _ rfl;have g1:x 46= .int .i64 k3:=q ⟨14,.data⟩ (by simp) rfl _ rfl;clear q;clear D;simp only[lay,Act.put,Ls,O,g1]at G⊢;go_simp
     refine(aC.out W').mono ?_;rintro e4 w4 ⟨rfl,rfl⟩
     exact G _ _ (I.same Qo) (fun _ _ _ h=>h) rfl
    ·intro f x W' I D q K G;have O:x 47= .int .i64 sy:=q ⟨15,.data⟩ (by simp) rfl _ rfl;clear q;clear D;simp only[lay,Act.put,Ls,O]at G⊢;go_simp
     exact G _ _ (I.same Qo) (fun _ _ _ h=>h) rfl
    ·intro f x W' I D q K G;have O:x 48= .pointer (some ⟨J+1,sy,none⟩):=q ⟨16,.data⟩ (by simp) rfl _ rfl;clear q;have cM:=(qq ((I.1.block (J+1) ah (by omega)).trans ap.out) sy).trans HY.out;clear D;simp only[lay,Act.put,Ls,O]at G⊢;go_simp
     exact G _ _ (I.same Qo) (fun _ _ _ h=>h) rfl
    ·intro f x W' I D q K G;have O:x 32= .agg (qj .u32 L):=q ⟨0,.data⟩ (by simp) rfl _ rfl;have g1:x 33= .int .i64 pa:=q ⟨1,.data⟩ (by simp) rfl _ rfl;have g2:x 34= .int .i64 pb:=q ⟨2,.data⟩ (by simp) rfl _ rfl;have g3:x 35= .int .i64 pc:=q ⟨3,.data⟩ (by simp) rfl _ rfl;have g4:x 36= .int .i64 pd:=q ⟨4,.data⟩ (by simp) rfl _ rfl;have g5:x 42= .int .u32 mx:=q ⟨10,.data⟩ (by simp) rfl _ rfl;have g6:x 49= .int .u32 my:=q ⟨17,.data⟩ (by simp) rfl _ rfl;clear q;clear D;simp only[lay,Act.put,Ls,O,g1,g2,g3,g4,g5,g6]at G⊢;go_simp
     refine(HG.out W').mono ?_;rintro e4 w4 ⟨rfl,au⟩
     exact G _ _ (I.next au Qo) (qaE _ au _) rfl
    ·intro f x W' I D q K G;have O:x 50= .tuple #[.agg (qj .u32 Y),.int .i64 0]:=q ⟨18,.data⟩ (by simp) rfl _ rfl;clear q;clear D;simp only[lay,Act.put,Ls,O]at G⊢;go_simp
     exact G _ _ (I.same Qo) (fun _ _ _ h=>h) rfl
    ·intro f x W' I D q K G;have O:x 31= .tuple #[.agg (qj .u32 Y),.int .i64 0]:=q ⟨19,.data⟩ (by simp) rfl _ rfl;clear q;clear D;simp only[lay,Act.put,Ls,O]at G⊢;go_simp
     exact G _ _ (I.same Qo) (fun _ _ _ h=>h) rfl
    ·intro f x W' I D q K G;have O:x 31= .tuple #[.agg (qj .u32 Y),.int .i64 0]:=q ⟨19,.data⟩ (by simp) rfl _ rfl;clear q;clear D;simp only[lay,Act.put,Ls,O]at G⊢;go_simp
     exact G _ _ (I.same Qo) (fun _ _ _ h=>h) rfl
    ·intro f x W' I D q K G;have O:x 51= .agg (qj .u32 Y):=q ⟨20,.data⟩ (by simp) rfl _ rfl;clear q;have V:=I.2 (D (by kernel_rfl));simp only[lay,Act.put,Ls,O]at G⊢;rw[if_pos (Zo rfl)];refine wp_store_row 298 _ _ rfl J (qj .u32 Y) rfl rfl _ _ V (by rw[qf,Z.1];kernel_rfl) (by simp only[qf,Z.1,U.1]) qy ?_;exact G undef _ ⟨I.1.setRow _,fun e=>by simp at e⟩ (qaD _) (qaC (setRow_heap _ _ _ _ _ _ V))
   case refine_3=>
    refine ZH (p:=fun i (o:Oper)=> ∀v W,o.dst=none→zb 22 J 298 (qj .u32 Y) _ i v W→zb 22 J 298 (qj .u32 Y) _ i undef W) ?_|>fun h i o v W hi=>h i o hi v W
    refine qh ?_ (qh ?_ (qh ?_ (qh ?_ (qh ?_ (qh ?_ (qh ?_ (qh ?_ (qh ?_ (qh ?_ (qh ?_ (qh ?_ (qh ?_ (qh ?_ (qh ?_ (qh ?_ (qh ?_ (qh ?_ (qh ?_ (qh ?_ (qh ?_ (qh ?_ (qh ?_ (jQ)))))))))))))))))))))));all_goals first|(intro v W h;cases h;done)|exact fun v W _ h=>qcG rfl v W h
   case refine_4=>
    intro f x W' I hG;have hS:qbU W' J 298 (qj .u32 Y):=hG 22 _ rfl;have ax:=hid hS;have aD:=hid (ay.out.trans I.1);clear hS I hG;simp only[lay,Act.put,Ls];go_wp2
    exact⟨⟨j+1,rfl,by omega,by rw[ae.out];exact ax.out,aD.out⟩,by simp[intOf];omega⟩
  ·obtain rfl:j=8:=by omega
   have U:=qG Qn ad (M:=M) r 8;have HL:=hid (show Ending.returned (.tuple #[.agg (qj .u32 (mixSmall.turns X M r 8)),.int .i64 0])= .returned (.tuple #[.agg (qj .u32 (mixSmall.round X M r)),.int .i64 0]) from rfl);have aq:=(ab.out.block (J+1+1) aB (by omega)).trans HR.out;have aA:=hid (HB.out.trans (ab.out.below (by omega) HB.out.size));generalize mixSmall.turns X M r 8=L at*;go_upto_region 8 with(fail)
   apply wp_region_lit
   refine wpList_load_row rfl 298 _ rfl J rfl _ _ _ _ ag.out Tryz.underlying298 rfl (by rw[qf,U.1];kernel_rfl) ?_;refine wpList_store_row rfl 298 _ _ rfl (J+1+1) (qj .u32 L) rfl rfl 298 _ aq (by rw[qf,U.1];kernel_rfl) (by rw[qf,U.1];rfl) qy ?_;simp only[Act.put,Ls];go_wp2_with fail
   exact Bp (qA rfl _ _ _ _ _ _ _ rfl (setRow_heap _ _ _ _ _ _ aq) Tryz.underlying298 rfl (by rw[qf,U.1];kernel_rfl)) rfl ⟨Eq.trans (b:= .returned (.tuple #[.agg (qj .u32 L),.int .i64 0])) rfl HL.out,below_setRow (aA.out.mono (by omega)) (by omega) _⟩
theorem YY (k:IntKind)(x y:Int):bits .xor k x y=bits .xor k y x:=by simp only[bits,BitVec.xor_comm]
def Zi (h iv:List Int):Nat→List Int
 | 0=>[0,0,0,0,0,0,0,0,0,0,0,0,0,0,0,0]
 | i+1=>((Zi h iv i).set i (wd h i)).set (i+8) (wd iv i)
theorem YG (h o:List Int): ∀i,(Zi h o i).length=16
 | 0=>rfl
 | i+1=>by simp[Zi,YG h o i]
theorem yr {k:IntKind}{n:Nat}{L:List Int}(h:L.length=n){i:Nat}(o:i<n):(qj k L)[i]? =some (.int k (wd L i)):=by
 simp[qj,wd,Lg,List.getElem?_eq_getElem (show i<L.length by omega)]
theorem qbq (w:World):Calls Tryz.prog 221 #[] w fun e w'=>e= .returned (.agg #[.int .u32 1779033703,.int .u32 3144134277,.int .u32 1013904242,.int .u32 2773480762,.int .u32 1359893119,.int .u32 2600822924,.int .u32 528734635,.int .u32 1541459225])∧Below w.heap.size w w':=by
 go_enter Tryz.func221,Tryz.ntmps221
 go_wp2
 exact Bp (results_cell_row rfl _ _ _ _ _ _ _ rfl (Wn _ _) Tryz.underlying284 rfl rfl) rfl ⟨rfl,Br.alloc Nl _⟩
theorem qgh (h:List Int)(hh:Words 64 8 h)(Y Z:Int)(aa node:Bool)(w:World):Calls Tryz.prog 208 #[.agg (qj .u64 h),.int .u64 Y,.int .u64 Z,.bool aa,.bool node] w fun e w'=>e= .returned (.agg (qj .u64 (YC .u64 IVb h Y Z aa node)))∧Below w.heap.size w w':=by
 obtain⟨q,au⟩:=Ex w.heap.size;go_enter Tryz.func208,Tryz.ntmps208
 go_wp2_with fail
 refine qn ?_;intro W r;have ag:W.heap[q]? =some (.cells (qj .u64 h) 274 (0,0)):=by
  rw[r];exact(Bh _ _ _ (by simp;omega)).trans ((Bh _ _ _ (by simp;omega)).trans (qe _ _ au.symm))
 have am:W.heap[q+1]? =some (.cells #[.int .u64 0,.int .u64 0,.int .u64 0,.int .u64 0,.int .u64 0,.int .u64 0,.int .u64 0,.int .u64 0,.int .u64 0,.int .u64 0,.int .u64 0,.int .u64 0,.int .u64 0,.int .u64 0,.int .u64 0,.int .u64 0] 252 (0,0)):=by
  rw[r];exact(Bh _ _ _ (by simp;omega)).trans (qe _ _ (by simp;omega))
 have ae:W.heap[q+1+1]? =some (.cells (qj .u64 (Zi h IVb 0)) 252 (0,0)):=by
  rw[r];exact qe _ _ (by simp;omega)
 have ai:Below w.heap.size w W:=by
  rw[r];exact(((Below.refl w.heap.size w).alloc Nl _).alloc (by simp) _).alloc (by simp;omega) _
 have aw:q+1+1<W.heap.size:=(Ai ae).1;clear r;have HH:=hid ag;have V:=hid am;have O:=hid ae;have I:=hid ai;clear ag am ae ai;go_loopw [12] (fun i wr=> ∃j:Nat,i= .int .i64 j∧j≤8∧wr.heap[q+1+1]? =some (.cells (qj .u64 (Zi h IVb j)) 252 (0,0))∧But (q+1+1) W wr) (fun i _=>8 - (intOf i).toNat)
 case atStart=>exact⟨0,rfl,Nat.zero_le _,O.out,But.refl _ _⟩
 case round=>
  obtain⟨j,rfl,hj,hv,hB⟩:=hrel;have ay:=hB.size;have al:=hid hv;have ah:=hid hB;by_cases ao:j<8
  ·have c1:wr.cell? ⟨q,j,none⟩=some (.int .u64 (wd h j)):=by
    rw[qq ((hB.block q (by omega) (by omega)).trans HH.out),qC hh ao]
   have c2:wr.cell? ⟨q+1+1,j,none⟩=some (.int .u64 (wd (Zi h IVb j) j)):=(qq hv _).trans (yr (YG _ _ _) (by omega));have f2: ∀o,wr.frozen? ⟨q+1+1,o,none⟩=false:=(qO hv).2;have az:IntKind.i64.wrap ((j:Int)+8)=((j+8:Nat):Int):=by rw[IntKind.wrap_i64];omega
   have av:j+8<16:=by omega
   clear hv hB;go_wp2_with fail
   refine(qcs j ao _).mono ?_;rintro e2 w2 ⟨rfl,ad⟩;have X:=(ad.block (q+1+1) (by simp;omega)).trans (block_setCell al.out _);rw[Qe]at X;have aq:=hid ((ah.out.set j _).trans (But.of_below (b:=q+1+1) ad));have c3:w2.cell? ⟨q+1+1,j+8,none⟩=some (.int .u64 (wd ((Zi h IVb j).set j (wd h j)) (j+8))):=(qq X _).trans (yr (n:=16) (by simp[YG]) (by omega));have f3: ∀o,w2.frozen? ⟨q+1+1,o,none⟩=false:=(qO X).2;have ar:=hid X;clear X ad c1 c2 f2;go_wp2
   exact⟨⟨j+1,rfl,by omega,by rw[Zi,←Qe];exact block_setCell ar.out _,aq.out.set _ _⟩,by simp[intOf];omega⟩
  ·obtain rfl:j=8:=by omega
   have ac:wr.heap[q+1+1]? =some (.cells #[.int .u64 (wd h 0),.int .u64 (wd h 1),.int .u64 (wd h 2),.int .u64 (wd h 3),.int .u64 (wd h 4),.int .u64 (wd h 5),.int .u64 (wd h 6),.int .u64 (wd h 7),.int .u64 7640891576956012808,.int .u64 13503953896175478587,.int .u64 4354685564936845355,.int .u64 11912009170470909681,.int .u64 5840696475078001361,.int .u64 11170449401992604703,.int .u64 2270897969802886507,.int .u64 6620516959819538809] 252 (0,0)):=hv;have aj:=hid ac;have af:=hid ((hB.block (q+1) (by omega) (by omega)).trans V.out);have an:=hid (I.out.trans (hB.below (by omega) I.out.size));obtain⟨cv,fv⟩:=qO ac;clear hv hB ac al ah O V I HH;go_upto_region 9 with(fail)
   refine qn ?_;intro W5 r;have ab:W5.heap[q+1+1]? =some (.cells #[.int .u64 (wd h 0),.int .u64 (wd h 1),.int .u64 (wd h 2),.int .u64 (wd h 3),.int .u64 (wd h 4),.int .u64 (wd h 5),.int .u64 (wd h 6),.int .u64 (wd h 7),.int .u64 7640891576956012808,.int .u64 13503953896175478587,.int .u64 4354685564936845355,.int .u64 11912009170470909681,.int .u64 (bits .xor .u64 5840696475078001361 Y),.int .u64 (bits .xor .u64 11170449401992604703 Z),.int .u64 2270897969802886507,.int .u64 6620516959819538809] 252 (0,0)):=by
    rw[r];exact block_setCell (i:=13) (block_setCell (i:=12) aj.out _) _
   have ak:W5.heap[q+1]? =some (.cells #[.int .u64 0,.int .u64 0,.int .u64 0,.int .u64 0,.int .u64 0,.int .u64 0,.int .u64 0,.int .u64 0,.int .u64 0,.int .u64 0,.int .u64 0,.int .u64 0,.int .u64 0,.int .u64 0,.int .u64 0,.int .u64 0] 252 (0,0)):=by
    rw[r];exact(Below.heap_setCell _ _ _ _ (by simp)).trans ((Below.heap_setCell _ _ _ _ (by simp)).trans af.out)
   have ap:Below w.heap.size w W5:=by
    rw[r];exact(an.out.setCell (by simp;omega) _).setCell (by simp;omega) _
   clear r aj af an cv fv;have ax:=(Ai ab).1;obtain⟨cv,fv⟩:=qO ab;have O:=hid ab;have V:=hid ak;have I:=hid ap;clear ab ak ap
   cases aa<;>cases node
   ·skip
    go_upto_region 13 with(fail)
    refine qn ?_;intro G r;have J:G.heap[q+1+1]? =some (.cells #[.int .u64 (wd h 0),.int .u64 (wd h 1),.int .u64 (wd h 2),.int .u64 (wd h 3),.int .u64 (wd h 4),.int .u64 (wd h 5),.int .u64 (wd h 6),.int .u64 (wd h 7),.int .u64 7640891576956012808,.int .u64 13503953896175478587,.int .u64 4354685564936845355,.int .u64 11912009170470909681,.int .u64 (bits .xor .u64 5840696475078001361 Y),.int .u64 (bits .xor .u64 11170449401992604703 Z),.int .u64 2270897969802886507,.int .u64 6620516959819538809] 252 (0,0)):=by
     rw[r];exact O.out
    have D:G.heap[q+1]? =some (.cells #[.int .u64 0,.int .u64 0,.int .u64 0,.int .u64 0,.int .u64 0,.int .u64 0,.int .u64 0,.int .u64 0,.int .u64 0,.int .u64 0,.int .u64 0,.int .u64 0,.int .u64 0,.int .u64 0,.int .u64 0,.int .u64 0] 252 (0,0)):=by
     rw[r];exact V.out
    have U:Below w.heap.size w G:=by
     rw[r];exact I.out
    clear r O V I cv fv;apply wp_region_lit
    refine wpList_load_row rfl 252 _ rfl (q+1+1) rfl _ _ _ _ J Tryz.underlying252 rfl (by kernel_rfl) ?_;refine wpList_store_row rfl 252 _ _ rfl (q+1) _ rfl rfl 252 _ D (by kernel_rfl) (by kernel_rfl) (by kernel_rfl) ?_;simp only[Act.put,Ls];go_wp2_with fail
    exact Bp (results_cell_row rfl _ _ _ _ _ _ _ rfl (setRow_heap _ _ _ _ _ _ D) Tryz.underlying252 rfl (by kernel_rfl)) rfl ⟨rfl,below_setRow (U.mono (by omega)) (by omega) _⟩
   ·skip
    go_upto_region 13 with(fail)
    refine qn ?_;intro G r;have J:G.heap[q+1+1]? =some (.cells #[.int .u64 (wd h 0),.int .u64 (wd h 1),.int .u64 (wd h 2),.int .u64 (wd h 3),.int .u64 (wd h 4),.int .u64 (wd h 5),.int .u64 (wd h 6),.int .u64 (wd h 7),.int .u64 7640891576956012808,.int .u64 13503953896175478587,.int .u64 4354685564936845355,.int .u64 11912009170470909681,.int .u64 (bits .xor .u64 5840696475078001361 Y),.int .u64 (bits .xor .u64 11170449401992604703 Z),.int .u64 2270897969802886507,.int .u64 (bits .xor .u64 (IntKind.max .u64) 6620516959819538809)] 252 (0,0)):=by
     rw[r];exact(block_setCell (i:=15) O.out _)
    have D:G.heap[q+1]? =some (.cells #[.int .u64 0,.int .u64 0,.int .u64 0,.int .u64 0,.int .u64 0,.int .u64 0,.int .u64 0,.int .u64 0,.int .u64 0,.int .u64 0,.int .u64 0,.int .u64 0,.int .u64 0,.int .u64 0,.int .u64 0,.int .u64 0] 252 (0,0)):=by
     rw[r];exact((Below.heap_setCell _ _ _ _ (by simp)).trans V.out)
    have U:Below w.heap.size w G:=by
     rw[r];exact(I.out.setCell (by simp;omega) _)
    clear r O V I cv fv;apply wp_region_lit
    refine wpList_load_row rfl 252 _ rfl (q+1+1) rfl _ _ _ _ J Tryz.underlying252 rfl (by kernel_rfl) ?_;refine wpList_store_row rfl 252 _ _ rfl (q+1) _ rfl rfl 252 _ D (by kernel_rfl) (by kernel_rfl) (by kernel_rfl) ?_;simp only[Act.put,Ls];go_wp2_with fail
    exact Bp (results_cell_row rfl _ _ _ _ _ _ _ rfl (setRow_heap _ _ _ _ _ _ D) Tryz.underlying252 rfl (by kernel_rfl)) rfl ⟨rfl,below_setRow (U.mono (by omega)) (by omega) _⟩
   ·skip
    go_upto_region 13 with(fail)
    refine qn ?_;intro G r;have J:G.heap[q+1+1]? =some (.cells #[.int .u64 (wd h 0),.int .u64 (wd h 1),.int .u64 (wd h 2),.int .u64 (wd h 3),.int .u64 (wd h 4),.int .u64 (wd h 5),.int .u64 (wd h 6),.int .u64 (wd h 7),.int .u64 7640891576956012808,.int .u64 13503953896175478587,.int .u64 4354685564936845355,.int .u64 11912009170470909681,.int .u64 (bits .xor .u64 5840696475078001361 Y),.int .u64 (bits .xor .u64 11170449401992604703 Z),.int .u64 (bits .xor .u64 (IntKind.max .u64) 2270897969802886507),.int .u64 6620516959819538809] 252 (0,0)):=by
     rw[r];exact(block_setCell (i:=14) O.out _)
    have D:G.heap[q+1]? =some (.cells #[.int .u64 0,.int .u64 0,.int .u64 0,.int .u64 0,.int .u64 0,.int .u64 0,.int .u64 0,.int .u64 0,.int .u64 0,.int .u64 0,.int .u64 0,.int .u64 0,.int .u64 0,.int .u64 0,.int .u64 0,.int .u64 0] 252 (0,0)):=by
     rw[r];exact((Below.heap_setCell _ _ _ _ (by simp)).trans V.out)
    have U:Below w.heap.size w G:=by
     rw[r];exact(I.out.setCell (by simp;omega) _)
    clear r O V I cv fv;apply wp_region_lit
    refine wpList_load_row rfl 252 _ rfl (q+1+1) rfl _ _ _ _ J Tryz.underlying252 rfl (by kernel_rfl) ?_;refine wpList_store_row rfl 252 _ _ rfl (q+1) _ rfl rfl 252 _ D (by kernel_rfl) (by kernel_rfl) (by kernel_rfl) ?_;simp only[Act.put,Ls];go_wp2_with fail
    exact Bp (results_cell_row rfl _ _ _ _ _ _ _ rfl (setRow_heap _ _ _ _ _ _ D) Tryz.underlying252 rfl (by kernel_rfl)) rfl ⟨rfl,below_setRow (U.mono (by omega)) (by omega) _⟩
   ·skip
    go_upto_region 13 with(fail)
    refine qn ?_;intro G r;have J:G.heap[q+1+1]? =some (.cells #[.int .u64 (wd h 0),.int .u64 (wd h 1),.int .u64 (wd h 2),.int .u64 (wd h 3),.int .u64 (wd h 4),.int .u64 (wd h 5),.int .u64 (wd h 6),.int .u64 (wd h 7),.int .u64 7640891576956012808,.int .u64 13503953896175478587,.int .u64 4354685564936845355,.int .u64 11912009170470909681,.int .u64 (bits .xor .u64 5840696475078001361 Y),.int .u64 (bits .xor .u64 11170449401992604703 Z),.int .u64 (bits .xor .u64 (IntKind.max .u64) 2270897969802886507),.int .u64 (bits .xor .u64 (IntKind.max .u64) 6620516959819538809)] 252 (0,0)):=by
     rw[r];exact(block_setCell (i:=15) (block_setCell (i:=14) O.out _) _)
    have D:G.heap[q+1]? =some (.cells #[.int .u64 0,.int .u64 0,.int .u64 0,.int .u64 0,.int .u64 0,.int .u64 0,.int .u64 0,.int .u64 0,.int .u64 0,.int .u64 0,.int .u64 0,.int .u64 0,.int .u64 0,.int .u64 0,.int .u64 0,.int .u64 0] 252 (0,0)):=by
     rw[r];exact((Below.heap_setCell _ _ _ _ (by simp)).trans ((Below.heap_setCell _ _ _ _ (by simp)).trans V.out))
    have U:Below w.heap.size w G:=by
     rw[r];exact((I.out.setCell (by simp;omega) _).setCell (by simp;omega) _)
    clear r O V I cv fv;apply wp_region_lit
    refine wpList_load_row rfl 252 _ rfl (q+1+1) rfl _ _ _ _ J Tryz.underlying252 rfl (by kernel_rfl) ?_;refine wpList_store_row rfl 252 _ _ rfl (q+1) _ rfl rfl 252 _ D (by kernel_rfl) (by kernel_rfl) (by kernel_rfl) ?_;simp only[Act.put,Ls];go_wp2_with fail
    exact Bp (results_cell_row rfl _ _ _ _ _ _ _ rfl (setRow_heap _ _ _ _ _ _ D) Tryz.underlying252 rfl (by kernel_rfl)) rfl ⟨rfl,below_setRow (U.mono (by omega)) (by omega) _⟩
theorem qe6 (h:List Int)(hh:Words 32 8 h)(c:Int)(aB:0≤c)(aG:c<18446744073709551616)(ab node:Bool)(w:World):Calls Tryz.prog 211 #[.agg (qj .u32 h),.int .u64 c,.bool ab,.bool node] w fun e w'=>e= .returned (.agg (qj .u32 (YC .u32 IVs h (c%4294967296) (c/4294967296) ab node)))∧Below w.heap.size w w':=by
 obtain⟨q,ay⟩:=Ex w.heap.size;go_enter Tryz.func211,Tryz.ntmps211
 go_wp2_with fail
 refine(qbq _).mono ?_;rintro e1 w1 ⟨rfl,aa⟩;have aj:=(aa.block q (by simp;omega)).trans ((Bh _ _ _ (by simp;omega)).trans ((Bh _ _ _ (by simp;omega)).trans (qe _ _ ay.symm)));have ai:=(aa.block (q+1) (by simp;omega)).trans ((Bh _ _ _ (by simp;omega)).trans (qe _ _ (by simp;omega)));have an:=(aa.block (q+1+1) (by simp;omega)).trans (qe _ _ (by simp;omega));have au:Below w.heap.size w w1:=((((Below.refl w.heap.size w).alloc Nl _).alloc (by simp) _).alloc (by simp;omega) _).trans (aa.mono (by simp;omega));have az:q+3≤w1.heap.size:=by have:=aa.size;simp at this;omega
 clear aa;go_wp2_with fail
 refine qn ?_;intro W r;obtain⟨bi,ad⟩:=Ex w1.heap.size;have ah:W.heap[q]? =some (.cells (qj .u32 h) 284 (0,0)):=by
  rw[r];exact(Bh _ _ _ (by omega)).trans aj
 have aq:W.heap[q+1]? =some (.cells #[.int .u32 0,.int .u32 0,.int .u32 0,.int .u32 0,.int .u32 0,.int .u32 0,.int .u32 0,.int .u32 0,.int .u32 0,.int .u32 0,.int .u32 0,.int .u32 0,.int .u32 0,.int .u32 0,.int .u32 0,.int .u32 0] 298 (0,0)):=by
  rw[r];exact(Bh _ _ _ (by omega)).trans ai
 have ag:W.heap[q+1+1]? =some (.cells (qj .u32 (Zi h IVs 0)) 298 (0,0)):=by
  rw[r];exact(Bh _ _ _ (by omega)).trans an
 have ae:W.heap[bi]? =some (.cells (qj .u32 IVs) 284 (0,0)):=by
  rw[r];exact qe _ _ ad.symm
 have ao:Below w.heap.size w W:=by
  rw[r];exact au.alloc (by omega) _
 have aC:q+1+1<W.heap.size:=(Ai ag).1;have aD:bi<W.heap.size:=(Ai ae).1;rw[ad];have aI:q+3≤bi:=by omega
 clear r aj ai an au az ad;have HH:=hid ah;have Y:=hid aq;have HV:=hid ag;have HI:=hid ae;have U:=hid ao;clear ah aq ag ao ae;go_loopw [11] (fun i wr=> ∃j:Nat,i= .int .i64 j∧j≤8∧wr.heap[q+1+1]? =some (.cells (qj .u32 (Zi h IVs j)) 298 (0,0))∧But (q+1+1) W wr) (fun i _=>8 - (intOf i).toNat)
 case atStart=>exact⟨0,rfl,Nat.zero_le _,HV.out,But.refl _ _⟩
 case round=>
  obtain⟨j,rfl,hj,hv,hB⟩:=hrel;have aH:=hB.size;have aw:=hid hv;have ap:=hid hB;by_cases al:j<8
  ·have c1:wr.cell? ⟨q,j,none⟩=some (.int .u32 (wd h j)):=by
    rw[qq ((hB.block q (by omega) (by omega)).trans HH.out),qC hh al]
   have c4:wr.cell? ⟨bi,j,none⟩=some (.int .u32 (wd IVs j)):=by
    rw[qq ((hB.block bi (by omega) (by omega)).trans HI.out),qC qap al]
   have c2:wr.cell? ⟨q+1+1,j,none⟩=some (.int .u32 (wd (Zi h IVs j) j)):=(qq hv _).trans (yr (YG _ _ _) (by omega));have c3:wr.cell? ⟨q+1+1,j+8,none⟩=some (.int .u32 (wd (Zi h IVs j) (j+8))):=(qq hv _).trans (yr (YG _ _ _) (by omega));have f2: ∀o,wr.frozen? ⟨q+1+1,o,none⟩=false:=(qO hv).2;have aJ:IntKind.i64.wrap ((j:Int)+8)=((j+8:Nat):Int):=by rw[IntKind.wrap_i64];omega
   have aA:j+8<16:=by omega
   have aF:(bi=q+1+1)=False:=by simp;omega
   clear hv hB;go_wp2
   exact⟨⟨j+1,rfl,by omega,by rw[Zi,←Qe,←Qe];exact block_setCell (block_setCell aw.out _) _,(ap.out.set _ _).set _ _⟩,by simp[intOf];omega⟩
  ·obtain rfl:j=8:=by omega
   have af:wr.heap[q+1+1]? =some (.cells #[.int .u32 (wd h 0),.int .u32 (wd h 1),.int .u32 (wd h 2),.int .u32 (wd h 3),.int .u32 (wd h 4),.int .u32 (wd h 5),.int .u32 (wd h 6),.int .u32 (wd h 7),.int .u32 1779033703,.int .u32 3144134277,.int .u32 1013904242,.int .u32 2773480762,.int .u32 1359893119,.int .u32 2600822924,.int .u32 528734635,.int .u32 1541459225] 298 (0,0)):=hv;have ak:=hid af;have am:=hid ((hB.block (q+1) (by omega) (by omega)).trans Y.out);have ax:=hid (U.out.trans (hB.below (by omega) U.out.size));obtain⟨cv,fv⟩:=qO af;clear hv hB af aw ap HV Y U HH HI;go_upto_region 10 with(fail)
   refine qn ?_;intro W5 r;have ac:W5.heap[q+1+1]? =some (.cells #[.int .u32 (wd h 0),.int .u32 (wd h 1),.int .u32 (wd h 2),.int .u32 (wd h 3),.int .u32 (wd h 4),.int .u32 (wd h 5),.int .u32 (wd h 6),.int .u32 (wd h 7),.int .u32 1779033703,.int .u32 3144134277,.int .u32 1013904242,.int .u32 2773480762,.int .u32 (bits .xor .u32 1359893119 (c%4294967296)),.int .u32 (bits .xor .u32 2600822924 (c/4294967296)),.int .u32 528734635,.int .u32 1541459225] 298 (0,0)):=by
    rw[r];exact block_setCell (i:=13) (block_setCell (i:=12) ak.out _) _
   have av:W5.heap[q+1]? =some (.cells #[.int .u32 0,.int .u32 0,.int .u32 0,.int .u32 0,.int .u32 0,.int .u32 0,.int .u32 0,.int .u32 0,.int .u32 0,.int .u32 0,.int .u32 0,.int .u32 0,.int .u32 0,.int .u32 0,.int .u32 0,.int .u32 0] 298 (0,0)):=by
    rw[r];exact(Below.heap_setCell _ _ _ _ (by simp)).trans ((Below.heap_setCell _ _ _ _ (by simp)).trans am.out)
   have ar:Below w.heap.size w W5:=by
    rw[r];exact(ax.out.setCell (by simp;omega) _).setCell (by simp;omega) _
   clear r ak am ax cv fv;have aE:=(Ai ac).1;obtain⟨cv,fv⟩:=qO ac;have HV:=hid ac;have Y:=hid av;have U:=hid ar;clear ac av ar
   cases ab<;>cases node
   ·skip
    have I:=hid (show Ending.returned (.agg #[.int .u32 (wd h 0),.int .u32 (wd h 1),.int .u32 (wd h 2),.int .u32 (wd h 3),.int .u32 (wd h 4),.int .u32 (wd h 5),.int .u32 (wd h 6),.int .u32 (wd h 7),.int .u32 1779033703,.int .u32 3144134277,.int .u32 1013904242,.int .u32 2773480762,.int .u32 (bits .xor .u32 1359893119 (c%4294967296)),.int .u32 (bits .xor .u32 2600822924 (c/4294967296)),.int .u32 528734635,.int .u32 1541459225])= .returned (.agg (qj .u32 (YC .u32 IVs h (c%4294967296) (c/4294967296) false false))) by simp only[YC,IVs,qj];rfl);go_upto_region 14 with(fail)
    refine qn ?_;intro G r;have V:G.heap[q+1+1]? =some (.cells #[.int .u32 (wd h 0),.int .u32 (wd h 1),.int .u32 (wd h 2),.int .u32 (wd h 3),.int .u32 (wd h 4),.int .u32 (wd h 5),.int .u32 (wd h 6),.int .u32 (wd h 7),.int .u32 1779033703,.int .u32 3144134277,.int .u32 1013904242,.int .u32 2773480762,.int .u32 (bits .xor .u32 1359893119 (c%4294967296)),.int .u32 (bits .xor .u32 2600822924 (c/4294967296)),.int .u32 528734635,.int .u32 1541459225] 298 (0,0)):=by
     rw[r];exact HV.out
    have D:G.heap[q+1]? =some (.cells #[.int .u32 0,.int .u32 0,.int .u32 0,.int .u32 0,.int .u32 0,.int .u32 0,.int .u32 0,.int .u32 0,.int .u32 0,.int .u32 0,.int .u32 0,.int .u32 0,.int .u32 0,.int .u32 0,.int .u32 0,.int .u32 0] 298 (0,0)):=by
     rw[r];exact Y.out
    have X:Below w.heap.size w G:=by
     rw[r];exact U.out
    clear r HV Y U cv fv;apply wp_region_lit
    refine wpList_load_row rfl 298 _ rfl (q+1+1) rfl _ _ _ _ V Tryz.underlying298 rfl (by kernel_rfl) ?_;refine wpList_store_row rfl 298 _ _ rfl (q+1) _ rfl rfl 298 _ D (by kernel_rfl) (by kernel_rfl) (by kernel_rfl) ?_;simp only[Act.put,Ls];go_wp2_with fail
    exact Bp (results_cell_row rfl _ _ _ _ _ _ _ rfl (setRow_heap _ _ _ _ _ _ D) Tryz.underlying298 rfl (by kernel_rfl)) rfl ⟨I.out,below_setRow (X.mono (by omega)) (by omega) _⟩
   ·skip
    have O:=hid (show Ending.returned (.agg #[.int .u32 (wd h 0),.int .u32 (wd h 1),.int .u32 (wd h 2),.int .u32 (wd h 3),.int .u32 (wd h 4),.int .u32 (wd h 5),.int .u32 (wd h 6),.int .u32 (wd h 7),.int .u32 1779033703,.int .u32 3144134277,.int .u32 1013904242,.int .u32 2773480762,.int .u32 (bits .xor .u32 1359893119 (c%4294967296)),.int .u32 (bits .xor .u32 2600822924 (c/4294967296)),.int .u32 528734635,.int .u32 (bits .xor .u32 1541459225 4294967295)])= .returned (.agg (qj .u32 (YC .u32 IVs h (c%4294967296) (c/4294967296) false true))) by simp only[YC,IVs,qj];rw[YY .u32 1541459225 4294967295];rfl);go_upto_region 14 with(fail)
    refine qn ?_;intro G r;have V:G.heap[q+1+1]? =some (.cells #[.int .u32 (wd h 0),.int .u32 (wd h 1),.int .u32 (wd h 2),.int .u32 (wd h 3),.int .u32 (wd h 4),.int .u32 (wd h 5),.int .u32 (wd h 6),.int .u32 (wd h 7),.int .u32 1779033703,.int .u32 3144134277,.int .u32 1013904242,.int .u32 2773480762,.int .u32 (bits .xor .u32 1359893119 (c%4294967296)),.int .u32 (bits .xor .u32 2600822924 (c/4294967296)),.int .u32 528734635,.int .u32 (bits .xor .u32 1541459225 4294967295)] 298 (0,0)):=by
     rw[r];exact(block_setCell (i:=15) HV.out _)
    have D:G.heap[q+1]? =some (.cells #[.int .u32 0,.int .u32 0,.int .u32 0,.int .u32 0,.int .u32 0,.int .u32 0,.int .u32 0,.int .u32 0,.int .u32 0,.int .u32 0,.int .u32 0,.int .u32 0,.int .u32 0,.int .u32 0,.int .u32 0,.int .u32 0] 298 (0,0)):=by
     rw[r];exact((Below.heap_setCell _ _ _ _ (by simp)).trans Y.out)
    have X:Below w.heap.size w G:=by
     rw[r];exact(U.out.setCell (by simp;omega) _)
    clear r HV Y U cv fv;apply wp_region_lit
    refine wpList_load_row rfl 298 _ rfl (q+1+1) rfl _ _ _ _ V Tryz.underlying298 rfl (by kernel_rfl) ?_;refine wpList_store_row rfl 298 _ _ rfl (q+1) _ rfl rfl 298 _ D (by kernel_rfl) (by kernel_rfl) (by kernel_rfl) ?_;simp only[Act.put,Ls];go_wp2_with fail
    exact Bp (results_cell_row rfl _ _ _ _ _ _ _ rfl (setRow_heap _ _ _ _ _ _ D) Tryz.underlying298 rfl (by kernel_rfl)) rfl ⟨O.out,below_setRow (X.mono (by omega)) (by omega) _⟩
   ·skip
    have J:=hid (show Ending.returned (.agg #[.int .u32 (wd h 0),.int .u32 (wd h 1),.int .u32 (wd h 2),.int .u32 (wd h 3),.int .u32 (wd h 4),.int .u32 (wd h 5),.int .u32 (wd h 6),.int .u32 (wd h 7),.int .u32 1779033703,.int .u32 3144134277,.int .u32 1013904242,.int .u32 2773480762,.int .u32 (bits .xor .u32 1359893119 (c%4294967296)),.int .u32 (bits .xor .u32 2600822924 (c/4294967296)),.int .u32 (bits .xor .u32 528734635 4294967295),.int .u32 1541459225])= .returned (.agg (qj .u32 (YC .u32 IVs h (c%4294967296) (c/4294967296) true false))) by simp only[YC,IVs,qj];rw[YY .u32 528734635 4294967295];rfl);go_upto_region 14 with(fail)
    refine qn ?_;intro G r;have V:G.heap[q+1+1]? =some (.cells #[.int .u32 (wd h 0),.int .u32 (wd h 1),.int .u32 (wd h 2),.int .u32 (wd h 3),.int .u32 (wd h 4),.int .u32 (wd h 5),.int .u32 (wd h 6),.int .u32 (wd h 7),.int .u32 1779033703,.int .u32 3144134277,.int .u32 1013904242,.int .u32 2773480762,.int .u32 (bits .xor .u32 1359893119 (c%4294967296)),.int .u32 (bits .xor .u32 2600822924 (c/4294967296)),.int .u32 (bits .xor .u32 528734635 4294967295),.int .u32 1541459225] 298 (0,0)):=by
     rw[r];exact(block_setCell (i:=14) HV.out _)
    have D:G.heap[q+1]? =some (.cells #[.int .u32 0,.int .u32 0,.int .u32 0,.int .u32 0,.int .u32 0,.int .u32 0,.int .u32 0,.int .u32 0,.int .u32 0,.int .u32 0,.int .u32 0,.int .u32 0,.int .u32 0,.int .u32 0,.int .u32 0,.int .u32 0] 298 (0,0)):=by
     rw[r];exact((Below.heap_setCell _ _ _ _ (by simp)).trans Y.out)
    have X:Below w.heap.size w G:=by
     rw[r];exact(U.out.setCell (by simp;omega) _)
    clear r HV Y U cv fv;apply wp_region_lit
    refine wpList_load_row rfl 298 _ rfl (q+1+1) rfl _ _ _ _ V Tryz.underlying298 rfl (by kernel_rfl) ?_;refine wpList_store_row rfl 298 _ _ rfl (q+1) _ rfl rfl 298 _ D (by kernel_rfl) (by kernel_rfl) (by kernel_rfl) ?_;simp only[Act.put,Ls];go_wp2_with fail
    exact Bp (results_cell_row rfl _ _ _ _ _ _ _ rfl (setRow_heap _ _ _ _ _ _ D) Tryz.underlying298 rfl (by kernel_rfl)) rfl ⟨J.out,below_setRow (X.mono (by omega)) (by omega) _⟩
   ·skip
    have Z:=hid (show Ending.returned (.agg #[.int .u32 (wd h 0),.int .u32 (wd h 1),.int .u32 (wd h 2),.int .u32 (wd h 3),.int .u32 (wd h 4),.int .u32 (wd h 5),.int .u32 (wd h 6),.int .u32 (wd h 7),.int .u32 1779033703,.int .u32 3144134277,.int .u32 1013904242,.int .u32 2773480762,.int .u32 (bits .xor .u32 1359893119 (c%4294967296)),.int .u32 (bits .xor .u32 2600822924 (c/4294967296)),.int .u32 (bits .xor .u32 528734635 4294967295),.int .u32 (bits .xor .u32 1541459225 4294967295)])= .returned (.agg (qj .u32 (YC .u32 IVs h (c%4294967296) (c/4294967296) true true))) by simp only[YC,IVs,qj];rw[YY .u32 528734635 4294967295,YY .u32 1541459225 4294967295];rfl);go_upto_region 14 with(fail)
    refine qn ?_;intro G r;have V:G.heap[q+1+1]? =some (.cells #[.int .u32 (wd h 0),.int .u32 (wd h 1),.int .u32 (wd h 2),.int .u32 (wd h 3),.int .u32 (wd h 4),.int .u32 (wd h 5),.int .u32 (wd h 6),.int .u32 (wd h 7),.int .u32 1779033703,.int .u32 3144134277,.int .u32 1013904242,.int .u32 2773480762,.int .u32 (bits .xor .u32 1359893119 (c%4294967296)),.int .u32 (bits .xor .u32 2600822924 (c/4294967296)),.int .u32 (bits .xor .u32 528734635 4294967295),.int .u32 (bits .xor .u32 1541459225 4294967295)] 298 (0,0)):=by
     rw[r];exact(block_setCell (i:=15) (block_setCell (i:=14) HV.out _) _)
    have D:G.heap[q+1]? =some (.cells #[.int .u32 0,.int .u32 0,.int .u32 0,.int .u32 0,.int .u32 0,.int .u32 0,.int .u32 0,.int .u32 0,.int .u32 0,.int .u32 0,.int .u32 0,.int .u32 0,.int .u32 0,.int .u32 0,.int .u32 0,.int .u32 0] 298 (0,0)):=by
     rw[r];exact((Below.heap_setCell _ _ _ _ (by simp)).trans ((Below.heap_setCell _ _ _ _ (by simp)).trans Y.out))
    have X:Below w.heap.size w G:=by
     rw[r];exact((U.out.setCell (by simp;omega) _).setCell (by simp;omega) _)
    clear r HV Y U cv fv;apply wp_region_lit
    refine wpList_load_row rfl 298 _ rfl (q+1+1) rfl _ _ _ _ V Tryz.underlying298 rfl (by kernel_rfl) ?_;refine wpList_store_row rfl 298 _ _ rfl (q+1) _ rfl rfl 298 _ D (by kernel_rfl) (by kernel_rfl) (by kernel_rfl) ?_;simp only[Act.put,Ls];go_wp2_with fail
    exact Bp (results_cell_row rfl _ _ _ _ _ _ _ rfl (setRow_heap _ _ _ _ _ _ D) Tryz.underlying298 rfl (by kernel_rfl)) rfl ⟨Z.out,below_setRow (X.mono (by omega)) (by omega) _⟩
theorem zq (k:IntKind)(o: ∀n:Int,0≤n→n<2^k.bits→k.wrap n=n)(a b:Int):bits .xor k a b=((BitVec.ofInt k.bits a^^^BitVec.ofInt k.bits b).toNat:Int):=by
 simp only[bits];refine o _ (by omega) ?_;have:=(BitVec.ofInt k.bits a^^^BitVec.ofInt k.bits b).isLt
 exact_mod_cast this
theorem jo (k:IntKind)(o: ∀n:Int,0≤n→n<2^k.bits→k.wrap n=n)(a b c:Int):bits .xor k (bits .xor k a b) c=bits .xor k a (bits .xor k b c):=by
 have e: ∀x:BitVec k.bits,BitVec.ofInt k.bits (x.toNat:Int)=x:=fun x=>by simp
 rw[zq k o (bits .xor k a b) c,zq k o a b,zq k o a (bits .xor k b c),zq k o b c,e,e,BitVec.xor_assoc]
theorem qdv (a b c:Int):bits .xor .u64 (bits .xor .u64 a b) c=bits .xor .u64 a (bits .xor .u64 b c):=jo .u64 wraps_u64 a b c
theorem qdw (a b c:Int):bits .xor .u32 (bits .xor .u32 a b) c=bits .xor .u32 a (bits .xor .u32 b c):=jo .u32 JY a b c
theorem qhm (h V:List Int)(ab:Words 32 8 h)(hV:Words 32 16 V)(w:World):Calls Tryz.prog 213 #[.agg (qj .u32 h),.agg (qj .u32 V)] w fun e w'=>e= .returned (.agg (qj .u32 (YF .u32 h V 8)))∧Below w.heap.size w w':=by
 obtain⟨q,al⟩:=Ex w.heap.size;go_enter Tryz.func213,Tryz.ntmps213
 go_wp2_with fail
 refine qn ?_;intro G U;have Y:G.heap[q]? =some (.cells (qj .u32 h) 284 (0,0)):=by
  rw[U];exact(Bh _ _ _ (by simp;omega)).trans ((Bh _ _ _ (by simp;omega)).trans (qe _ _ al.symm))
 have O:G.heap[q+1]? =some (.cells (qj .u32 V) 298 (0,0)):=by
  rw[U];exact(Bh _ _ _ (by simp;omega)).trans (qe _ _ (by simp;omega))
 have J:G.heap[q+1+1]? =some (.cells #[.int .u32 0,.int .u32 0,.int .u32 0,.int .u32 0,.int .u32 0,.int .u32 0,.int .u32 0,.int .u32 0] 284 (0,0)):=by
  rw[U];exact qe _ _ (by simp;omega)
 have Z:Below w.heap.size w G:=by
  rw[U];exact(((Below.refl w.heap.size w).alloc Nl _).alloc (by simp) _).alloc (by simp;omega) _
 clear U;have aj:=hid Y;have af:=hid O;have ag:=hid J;have ae:=hid Z;have ai:q+1<G.heap.size:=(Ai O).1;have ah:q+1+1<G.heap.size:=(Ai J).1;clear Y O J Z;go_loopw [5] (fun i w4=> ∃j:Nat,i= .int .i64 j∧j≤8∧w4.heap[q]? =some (.cells (qj .u32 (YF .u32 h V j)) 284 (0,0))∧But (q) G w4) (fun i _=>8 - (intOf i).toNat)
 case atStart=>exact⟨0,rfl,Nat.zero_le _,aj.out,But.refl _ _⟩
 case round=>
  obtain⟨j,rfl,hj,D,r⟩:=hrel;have ap:=r.size;have I:=(r.block (q+1) ai (by omega)).trans af.out;have q1:q+1<wr.heap.size:=by omega
  have q2:q<wr.heap.size:=by omega
  have aa:=hid D;have ad:=hid r;by_cases an:j<8
  ·have c1:wr.cell? ⟨q,j,none⟩=some (.int .u32 (wd h j)):=by
    rw[qq D,qC (QO (fun z=>IntKind.wrap_u32 z) ab j) an,zC j j Nl]
   have c2:wr.cell? ⟨q+1,j,none⟩=some (.int .u32 (wd V j)):=(qq I _).trans (qC hV (by omega));have c3:wr.cell? ⟨q+1,j+8,none⟩=some (.int .u32 (wd V (j+8))):=(qq I _).trans (qC hV (by omega));have f1: ∀o,wr.frozen? ⟨q,o,none⟩=false:=(qO D).2;have aq:IntKind.i64.wrap ((j:Int)+8)=((j+8:Nat):Int):=by rw[IntKind.wrap_i64];omega
   have ao:j+8<16:=by omega
   clear D I r;go_wp2_with fail
   refine qk (by dsimp only[List.dropLast]) (by rfl) (by rfl) (by kernel_rfl) (by kernel_rfl) (by kernel_rfl) (by kernel_rfl) ?_;repeat(go_big_quiet_step (fail))
   refine wpQuiet_nil ?_;intro _ ak;obtain⟨n1,rfl⟩:=ak;go_wp2_with fail
   exact⟨⟨j+1,rfl,by omega,by rw[YF,←qdw,←Qe];exact block_setCell (w:=wr.drewN n1) aa.out _,(ad.out.drewN n1).set _ _⟩,by simp[intOf];omega⟩
  ·obtain rfl:j=8:=by omega
   have ac:=(r.block (q+1+1) ah (by omega)).trans ag.out;have X:=QO (k:= .u32) (fun z=>IntKind.wrap_u32 z) (v:=V) ab 8;have am:=hid (ae.out.trans (ad.out.below (by omega) ae.out.size));clear D I r;go_upto_region 5 with(fail)
   apply wp_region_lit
   refine wpList_load_row rfl 284 _ rfl (q) rfl _ _ _ _ aa.out Tryz.underlying284 rfl (by rw[qf,X.1];kernel_rfl) ?_;refine wpList_store_row rfl 284 _ _ rfl (q+1+1) (qj .u32 (YF .u32 h V 8)) rfl rfl 284 _ ac (by rw[qf,X.1];kernel_rfl) (by rw[qf,X.1];rfl) qy ?_;simp only[Act.put,Ls];go_wp2_with fail
   exact Bp (results_cell_row rfl _ _ _ _ _ _ _ rfl (setRow_heap _ _ _ _ _ _ ac) Tryz.underlying284 rfl (by rw[qf,X.1];kernel_rfl)) rfl ⟨rfl,below_setRow (am.out.mono (by omega)) (by omega) _⟩
theorem qiT (h M:List Int)(O:Words 64 8 h)(hM:Words 64 16 M)(lo hi:Int)(G node:Bool)(w:World):Calls Tryz.prog 194 #[.agg (qj .u64 h),.agg (qj .u64 M),.int .u64 lo,.int .u64 hi,.bool G,.bool node] w fun e w'=>e= .returned (.agg (qj .u64 (zV mixBig IVb 12 h M lo hi G node)))∧Below w.heap.size w w':=by
 obtain⟨q,aH⟩:=Ex w.heap.size;have HC:=hid (qgh h O lo hi G node);have ab:=zS (k:= .u64) (fun z=>IntKind.wrap_u64 z) qcM O lo hi G node;unfold zV;rw[show mixBig.k= .u64 from rfl];generalize YC .u64 IVb h lo hi G node=U at*;have ag:=O;rw[zZ O]at HC⊢;go_enter Tryz.func194,Tryz.ntmps194
 go_wp2_with fail
 refine(HC.out _).mono ?_;rintro e1 w1 ⟨rfl,J⟩;have aj:=(J.block q (by simp;omega)).trans ((Bh _ _ _ (by simp;omega)).trans ((Bh _ _ _ (by simp;omega)).trans (qe _ _ aH.symm)));have av:=(J.block (q+1) (by simp;omega)).trans ((Bh _ _ _ (by simp;omega)).trans (qe _ _ (by simp;omega)));have au:=(J.block (q+1+1) (by simp;omega)).trans (qe _ _ (by simp;omega));have aA:q+3≤w1.heap.size:=by have:=J.size;simp at this;omega
 have aq:Below w.heap.size w w1:=((((Below.refl w.heap.size w).alloc Nl _).alloc (by simp) _).alloc (by simp;omega) _).trans (J.mono (by simp;omega));clear J HC;go_wp2_with ((with_reducible show wpList _ _ _ (Oper.mk none (Op.store 252 _ _) _ _ _ _::_) _ _);refine wpList_store_row rfl 252 _ _ rfl w1.heap.size (qj .u64 U) rfl rfl 252 _ (Wn _ _) (by rw[qf,ab.1];kernel_rfl) (by rw[qf,ab.1];rfl) qy ?_)
 clear O;refine qn ?_;intro W hW;obtain⟨r,ad⟩:=Ex w1.heap.size;have O:W.heap[q]? =some (.cells #[.int .u64 (wd h 0),.int .u64 (wd h 1),.int .u64 (wd h 2),.int .u64 (wd h 3),.int .u64 (wd h 4),.int .u64 (wd h 5),.int .u64 (wd h 6),.int .u64 (wd h 7)] 274 (0,0)):=by
  rw[hW];exact(setRow_other (w1.alloc _) _ _ _ (by omega)).trans ((Bh _ _ _ (by omega)).trans aj)
 have hm:W.heap[q+1]? =some (.cells (qj .u64 M) 252 (0,0)):=by
  rw[hW];exact(setRow_other (w1.alloc _) _ _ _ (by omega)).trans ((Bh _ _ _ (by omega)).trans av)
 have hr:W.heap[q+1+1]? =some (.cells #[.int .u64 0,.int .u64 0,.int .u64 0,.int .u64 0,.int .u64 0,.int .u64 0,.int .u64 0,.int .u64 0] 274 (0,0)):=by
  rw[hW];exact(setRow_other (w1.alloc _) _ _ _ (by omega)).trans ((Bh _ _ _ (by omega)).trans au)
 have hv:W.heap[r]? =some (.cells (qj .u64 U) 252 (0,0)):=by
  rw[hW,←ad];exact setRow_heap _ _ _ _ _ _ (Wn _ _)
 have hB:Below w.heap.size w W:=by
  rw[hW];exact below_setRow (aq.alloc (by omega) _) (by omega) _
 rw[←zZ ag]at O;rw[ad];have aN:q+3≤r:=by omega
 clear hW aj av au aA aq ad;have HH:=hid O;have HM:=hid hm;have HR:=hid hr;have HV:=hid hv;have HB:=hid hB;have aM:r<W.heap.size:=(Ai hv).1;clear O hm hr hv hB;go_loopw [14] (fun i wr=> ∃j:Nat,i= .int .i64 j∧j≤12∧wr.heap[r]? =some (.cells (qj .u64 (mixBig.rounds U M j)) 252 (0,0))∧But r W wr) (fun i _=>12 - (intOf i).toNat)
 case atStart=>exact⟨0,rfl,Nat.zero_le _,HV.out,But.refl _ _⟩
 case round=>
  obtain⟨j,rfl,hj,hv,hB⟩:=hrel;have hm:=(hB.block (q+1) (by omega) (by omega)).trans HM.out;have D:=hid hv;have ao:=hid hm;have Y:=hid hB;clear hv hm hB;by_cases an:j<12
  ·have X:=Q3 QK ab (M:=M) j;obtain⟨R1,af⟩:=Ex (mixBig.rounds U M j);rw[af]at X D;have aF:=hid af;clear af;go_wp2_with (first
    | ((with_reducible show wpList _ _ _ (Oper.mk (some 27) _ _ _ _ _::_) _ _);refine wpList_load_row rfl 252 _ rfl r rfl _ _ _ _ D.out Tryz.underlying252 rfl (by rw[qf,X.1];kernel_rfl) ?_)
    | ((with_reducible show wpList _ _ _ (Oper.mk (some 28) _ _ _ _ _::_) _ _);refine wpList_load_row rfl 252 _ rfl (q+1) rfl _ _ _ _ ao.out Tryz.underlying252 rfl (by rw[qf,hM.1];kernel_rfl) ?_))
   refine(qe2 R1 M X hM j (by omega) _).mono ?_;rintro e2 w2 ⟨rfl,ae⟩
   have am:=(ae.block r (Ai D.out).1).trans D.out;have aJ:=hid (Y.out.trans (But.of_below (b:=r) ae));clear ae;have al:Words 64 16 (mixBig.round R1 M j):=qG QK X (M:=M) j 8;go_wp2_with ((with_reducible show wpList _ _ _ (Oper.mk none (Op.store 252 _ _) _ _ _ _::_) _ _);refine wpList_store_row rfl 252 _ _ rfl r (qj .u64 (mixBig.round R1 M j)) rfl rfl 252 _ am (by rw[qf,al.1];kernel_rfl) (by simp only[qf,al.1,X.1]) qy ?_)
   exact⟨⟨j+1,rfl,by omega,by rw[show mixBig.rounds U M (j+1)=mixBig.round (mixBig.rounds U M j) M j from rfl,aF.out];exact setRow_heap _ _ _ _ _ _ am,aJ.out.setRow _⟩,by simp[intOf];omega⟩
  ·obtain rfl:j=12:=by omega
   have hV:=Q3 QK ab (M:=M) 12;obtain⟨V,ah⟩:=Ex (mixBig.rounds U M 12);have aE:=hid (show Ending.returned (.agg (qj .u64 (YF .u64 h V 8)))= .returned (.agg (qj .u64 (YF .u64 h (mixBig.rounds U M 12) 8))) by rw[ah]);rw[ah]at hV D;clear ah;have ai:=(Y.out.block q (by omega) (by omega)).trans HH.out;have ac:=(Y.out.block (q+1+1) (by omega) (by omega)).trans HR.out;have ap:Below w.heap.size w wr:=HB.out.trans (Y.out.below (by omega) HB.out.size);have az:=hid ai;have ay:=hid D.out;have aB:=hid ac;have ar:=hid ap;have aG:r<wr.heap.size:=(Ai D.out).1;have aC:q+1+1<wr.heap.size:=(Ai ac).1;clear ai ac ap D ao Y HH HR HM HV HB;generalize wr=w3 at*;go_wp2_with fail
   go_loopw [15] (fun i w4=> ∃j:Nat,i= .int .i64 j∧j≤8∧w4.heap[q]? =some (.cells (qj .u64 (YF .u64 h V j)) 274 (0,0))∧But (q) w3 w4) (fun i _=>8 - (intOf i).toNat)
   case atStart=>exact⟨0,rfl,Nat.zero_le _,az.out,But.refl _ _⟩
   case round=>
    obtain⟨j,rfl,hj,Z,I⟩:=hrel;have aL:=I.size;have aa:=(I.block (r) aG (by omega)).trans ay.out;have q1:r<wr.heap.size:=by omega
    have q2:q<wr.heap.size:=by omega
    have ak:=hid Z;have ax:=hid I;by_cases an:j<8
    ·have c1:wr.cell? ⟨q,j,none⟩=some (.int .u64 (wd h j)):=by
      rw[qq Z,qC (QO (fun z=>IntKind.wrap_u64 z) ag j) an,zC j j Nl]
     have c2:wr.cell? ⟨r,j,none⟩=some (.int .u64 (wd V j)):=(qq aa _).trans (qC hV (by omega));have c3:wr.cell? ⟨r,j+8,none⟩=some (.int .u64 (wd V (j+8))):=(qq aa _).trans (qC hV (by omega));have f1: ∀o,wr.frozen? ⟨q,o,none⟩=false:=(qO Z).2;have aO:IntKind.i64.wrap ((j:Int)+8)=((j+8:Nat):Int):=by rw[IntKind.wrap_i64];omega
     have aK:j+8<16:=by omega
     clear Z aa I;go_wp2_with fail
     refine qk (by dsimp only[List.dropLast]) (by rfl) (by rfl) (by kernel_rfl) (by kernel_rfl) (by kernel_rfl) (by kernel_rfl) ?_;repeat(go_big_quiet_step (fail))
     refine wpQuiet_nil ?_;intro _ aD;obtain⟨n1,rfl⟩:=aD;go_wp2_with fail
     exact⟨⟨j+1,rfl,by omega,by rw[YF,←qdv,←Qe];exact block_setCell (w:=wr.drewN n1) ak.out _,(ax.out.drewN n1).set _ _⟩,by simp[intOf];omega⟩
    ·obtain rfl:j=8:=by omega
     have aw:=(I.block (q+1+1) aC (by omega)).trans aB.out;have hF:=QO (k:= .u64) (fun z=>IntKind.wrap_u64 z) (v:=V) ag 8;have aI:=hid (ar.out.trans (ax.out.below (by omega) ar.out.size));clear Z aa I;go_upto_region 10 with(fail)
     apply wp_region_lit
     refine wpList_load_row rfl 274 _ rfl (q) rfl _ _ _ _ ak.out Tryz.underlying274 rfl (by rw[qf,hF.1];kernel_rfl) ?_;refine wpList_store_row rfl 274 _ _ rfl (q+1+1) (qj .u64 (YF .u64 h V 8)) rfl rfl 274 _ aw (by rw[qf,hF.1];kernel_rfl) (by rw[qf,hF.1];rfl) qy ?_;simp only[Act.put,Ls];go_wp2_with fail
     exact Bp (results_cell_row rfl _ _ _ _ _ _ _ rfl (setRow_heap _ _ _ _ _ _ aw) Tryz.underlying274 rfl (by rw[qf,hF.1];kernel_rfl)) rfl ⟨aE.out,below_setRow (aI.out.mono (by omega)) (by omega) _⟩
theorem qiU (h M:List Int)(I:Words 32 8 h)(hM:Words 32 16 M)(c:Int)(au:0≤c)(ay:c<18446744073709551616)(D node:Bool)(w:World):Calls Tryz.prog 196 #[.agg (qj .u32 h),.agg (qj .u32 M),.int .u64 c,.bool D,.bool node] w fun e w'=>e= .returned (.agg (qj .u32 (zV mixSmall IVs 10 h M (c%4294967296) (c/4294967296) D node)))∧Below w.heap.size w w':=by
 obtain⟨o,aC⟩:=Ex w.heap.size;have HC:=hid (qe6 h I c au ay D node);have Y:=zS (k:= .u32) (fun z=>IntKind.wrap_u32 z) qap I (c%4294967296) (c/4294967296) D node;unfold zV;rw[show mixSmall.k= .u32 from rfl];generalize YC .u32 IVs h (c%4294967296) (c/4294967296) D node=J at*;have X:=I;rw[zZ I]at HC⊢;go_enter Tryz.func196,Tryz.ntmps196
 go_wp2_with fail
 refine(HC.out _).mono ?_;rintro e1 w1 ⟨rfl,G⟩;have ah:=(G.block o (by simp;omega)).trans ((Bh _ _ _ (by simp;omega)).trans ((Bh _ _ _ (by simp;omega)).trans (qe _ _ aC.symm)));have aq:=(G.block (o+1) (by simp;omega)).trans ((Bh _ _ _ (by simp;omega)).trans (qe _ _ (by simp;omega)));have ap:=(G.block (o+1+1) (by simp;omega)).trans (qe _ _ (by simp;omega));have aw:o+3≤w1.heap.size:=by have:=G.size;simp at this;omega
 have am:Below w.heap.size w w1:=((((Below.refl w.heap.size w).alloc Nl _).alloc (by simp) _).alloc (by simp;omega) _).trans (G.mono (by simp;omega));clear G HC;go_wp2_with ((with_reducible show wpList _ _ _ (Oper.mk none (Op.store 298 _ _) _ _ _ _::_) _ _);refine wpList_store_row rfl 298 _ _ rfl w1.heap.size (qj .u32 J) rfl rfl 298 _ (Wn _ _) (by rw[qf,Y.1];kernel_rfl) (by rw[qf,Y.1];rfl) qy ?_)
 clear I;refine qn ?_;intro W hW;obtain⟨r,ab⟩:=Ex w1.heap.size;have I:W.heap[o]? =some (.cells #[.int .u32 (wd h 0),.int .u32 (wd h 1),.int .u32 (wd h 2),.int .u32 (wd h 3),.int .u32 (wd h 4),.int .u32 (wd h 5),.int .u32 (wd h 6),.int .u32 (wd h 7)] 284 (0,0)):=by
  rw[hW];exact(setRow_other (w1.alloc _) _ _ _ (by omega)).trans ((Bh _ _ _ (by omega)).trans ah)
 have hm:W.heap[o+1]? =some (.cells (qj .u32 M) 298 (0,0)):=by
  rw[hW];exact(setRow_other (w1.alloc _) _ _ _ (by omega)).trans ((Bh _ _ _ (by omega)).trans aq)
 have hr:W.heap[o+1+1]? =some (.cells #[.int .u32 0,.int .u32 0,.int .u32 0,.int .u32 0,.int .u32 0,.int .u32 0,.int .u32 0,.int .u32 0] 284 (0,0)):=by
  rw[hW];exact(setRow_other (w1.alloc _) _ _ _ (by omega)).trans ((Bh _ _ _ (by omega)).trans ap)
 have hv:W.heap[r]? =some (.cells (qj .u32 J) 298 (0,0)):=by
  rw[hW,←ab];exact setRow_heap _ _ _ _ _ _ (Wn _ _)
 have Z:Below w.heap.size w W:=by
  rw[hW];exact below_setRow (am.alloc (by omega) _) (by omega) _
 rw[←zZ X]at I;rw[ab];have aG:o+3≤r:=by omega
 clear hW ah aq ap aw am ab;have HH:=hid I;have HM:=hid hm;have HR:=hid hr;have HV:=hid hv;have HB:=hid Z;have aI:r<W.heap.size:=(Ai hv).1;clear I hm hr hv Z;go_loopw [12] (fun i wr=> ∃j:Nat,i= .int .i64 j∧j≤10∧wr.heap[r]? =some (.cells (qj .u32 (mixSmall.rounds J M j)) 298 (0,0))∧But r W wr) (fun i _=>10 - (intOf i).toNat)
 case atStart=>exact⟨0,rfl,Nat.zero_le _,HV.out,But.refl _ _⟩
 case round=>
  obtain⟨j,rfl,hj,hv,Z⟩:=hrel;have hm:=(Z.block (o+1) (by omega) (by omega)).trans HM.out;have q:=hid hv;have ak:=hid hm;have U:=hid Z;clear hv hm Z;by_cases aE:j<10
  ·have O:=Q3 Qn Y (M:=M) j;obtain⟨R1,ae⟩:=Ex (mixSmall.rounds J M j);rw[ae]at O q;have aA:=hid ae;clear ae;go_wp2_with (first
    | ((with_reducible show wpList _ _ _ (Oper.mk (some 23) _ _ _ _ _::_) _ _);refine wpList_load_row rfl 298 _ rfl r rfl _ _ _ _ q.out Tryz.underlying298 rfl (by rw[qf,O.1];kernel_rfl) ?_)
    | ((with_reducible show wpList _ _ _ (Oper.mk (some 24) _ _ _ _ _::_) _ _);refine wpList_load_row rfl 298 _ rfl (o+1) rfl _ _ _ _ ak.out Tryz.underlying298 rfl (by rw[qf,hM.1];kernel_rfl) ?_))
   refine(qe3 R1 M O hM j (by omega) _).mono ?_;rintro e2 w2 ⟨rfl,ac⟩
   have aj:=(ac.block r (Ai q.out).1).trans q.out;have aD:=hid (U.out.trans (But.of_below (b:=r) ac));clear ac;have ai:Words 32 16 (mixSmall.round R1 M j):=qG Qn O (M:=M) j 8;go_wp2_with ((with_reducible show wpList _ _ _ (Oper.mk none (Op.store 298 _ _) _ _ _ _::_) _ _);refine wpList_store_row rfl 298 _ _ rfl r (qj .u32 (mixSmall.round R1 M j)) rfl rfl 298 _ aj (by rw[qf,ai.1];kernel_rfl) (by simp only[qf,ai.1,O.1]) qy ?_)
   exact⟨⟨j+1,rfl,by omega,by rw[show mixSmall.rounds J M (j+1)=mixSmall.round (mixSmall.rounds J M j) M j from rfl,aA.out];exact setRow_heap _ _ _ _ _ _ aj,aD.out.setRow _⟩,by simp[intOf];omega⟩
  ·obtain rfl:j=10:=by omega
   have hV:=Q3 Qn Y (M:=M) 10;obtain⟨V,af⟩:=Ex (mixSmall.rounds J M 10);have az:=hid (show Ending.returned (.agg (qj .u32 (YF .u32 h V 8)))= .returned (.agg (qj .u32 (YF .u32 h (mixSmall.rounds J M 10) 8))) by rw[af]);rw[af]at hV q;clear af;have ag:=(U.out.block o (by omega) (by omega)).trans HH.out;have aa:=(U.out.block (o+1+1) (by omega) (by omega)).trans HR.out;have al:Below w.heap.size w wr:=HB.out.trans (U.out.below (by omega) HB.out.size);have av:=hid ag;have ar:=hid q.out;have ax:=hid aa;have an:=hid al;have aH:r<wr.heap.size:=(Ai q.out).1;have aF:o+1+1<wr.heap.size:=(Ai aa).1;clear ag aa al q ak U HH HR HM HV HB;have hF:=QO (k:= .u32) (fun z=>IntKind.wrap_u32 z) (v:=V) X 8;go_wp2_with (first
    | ((with_reducible show wpList _ _ _ (Oper.mk (some 29) _ _ _ _ _::_) _ _);refine wpList_load_row rfl 284 _ rfl o rfl _ _ _ _ av.out Tryz.underlying284 rfl (by rw[qf,X.1];kernel_rfl) ?_)
    | ((with_reducible show wpList _ _ _ (Oper.mk (some 30) _ _ _ _ _::_) _ _);refine wpList_load_row rfl 298 _ rfl r rfl _ _ _ _ ar.out Tryz.underlying298 rfl (by rw[qf,hV.1];kernel_rfl) ?_))
   refine(qhm h V X hV _).mono ?_;rintro e6 w6 ⟨rfl,ad⟩
   have ao:=(ad.block (o+1+1) (by omega)).trans ax.out;have aB:=hid (an.out.trans (ad.mono an.out.size));clear ad;go_wp2_with ((with_reducible show wpList _ _ _ (Oper.mk none (Op.store 284 _ _) _ _ _ _::_) _ _);refine wpList_store_row rfl 284 _ _ rfl (o+1+1) (qj .u32 (YF .u32 h V 8)) rfl rfl 284 _ ao (by rw[qf,hF.1];kernel_rfl) (by rw[qf,hF.1];rfl) qy ?_)
   exact Bp (results_cell_row rfl _ _ _ _ _ _ _ rfl (setRow_heap _ _ _ _ _ _ ao) Tryz.underlying284 rfl (by rw[qf,hF.1];kernel_rfl)) rfl ⟨az.out,below_setRow (aB.out.mono (by omega)) (by omega) _⟩
end Go.Proofs.YthjoojnlnlmljaaGreat
