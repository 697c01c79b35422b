/- The search: the document's. No condition. -/
import Derived.Test.YtdndeffmlhaipaaGreatDoorS42
import Derived.Test.YtdndeffmlhaipaaGreatDoorS43
import Derived.Test.YtdndeffmlhaipaaGreatDoorS44
import Derived.Test.YtdndeffmlhaipaaGreatDoorS38
import Derived.Test.YtdndeffmlhaipaaGreatDoorS46
import Derived.Test.YtdndeffmlhaipaaGreatDoorS21
import Derived.Test.YtdndeffmlhaipaaGreatDoorTie
import Derived.Test.YtdndeffmlhaipaaGreatDoorCards
import Derived.Deep.DeepHandedRow
import Derived.Lib.LaidU8
import Derived.Test.YtdndeffmlhaipaaGreatDoorS45
import Derived.Deep.CondSized
import Derived.JoinedCond
set_option linter.all false
set_option maxRecDepth 100000
set_option maxHeartbeats 8000000
namespace Go.Proofs.YtdndeffmlhaipaaGreatDoor
open Go.ChangeShapes Go.WideShapes Go.ChangeAt Go.RowKit Go.Joins Go.Shelf Go.Maps
open Go.Lib (hid)
attribute [local go_sem] Oper.semAt_some
theorem qfa (D:Nat→List Int){j k:Nat}(h:k<j):qK ((List.range j).map D) k=D k:=by
 unfold qK;simp[Lg,h]
theorem qek (D:Nat→List Int)(j:Nat):(List.range (j+1)).map D=(List.range j).map D++[D j]:=by rw[List.range_succ,List.map_append];rfl
theorem zP (i:Int)(h0: -9223372036854775808≤i)(h1:i≤9223372036854775807)(w:World):
  Calls Tryz.prog 8 #[.int .i64 i] w fun e w'=> ∃u,e= .returned u∧Hold w' u (Yl i)∧Below w.heap.size w w':=
 (qd6 i h0 h1 w).mono fun e w' h=>by
  obtain⟨u,h1,h2,h3⟩:=h;exact⟨u,h1,h2.hold,h3⟩
theorem qam (t:TreeV)(F M:Int)(w:World)(h:t.validE≠0):
  Calls Tryz.prog 11 #[t.val,.int .i64 F,.int .i64 M] w fun e w'=>e= .returned (.tuple #[.slice none 0 0,.slice none 0 0,.int .i64 0,.int .i64 t.validE])∧Below w.heap.size w w':=by
 obtain⟨b0,hb0⟩:=Ex w.heap.size;have HVL:=hid (fun W:World=>Yh t W);have hbA:Below b0 w (w.alloc (.cells #[.int .i64 t.k,.int .i64 t.d,.int .i64 t.f,.int .i64 t.p,.int .u32 t.l,.int .i64 t.i,.slice t.ka t.kl t.kc,.slice t.sa t.sl t.sc,.slice t.pa t.pl t.pc] 26)):=by rw[←hb0];exact Br.alloc Nl _
 have hrA:=Wn w (.cells #[.int .i64 t.k,.int .i64 t.d,.int .i64 t.f,.int .i64 t.p,.int .u32 t.l,.int .i64 t.i,.slice t.ka t.kl t.kc,.slice t.sa t.sl t.sc,.slice t.pa t.pl t.pc] 26);rw[hb0]at hrA;generalize t.validE=ev at*;have hq:(ev != 0)=true:=by rw[bne_iff_ne];exact h
 clear h;unfold TreeV.val at*;go_enter Tryz.func11,Tryz.ntmps11
 go_upto_region 1 with(fail)
 generalize w.alloc (.cells #[.int .i64 t.k,.int .i64 t.d,.int .i64 t.f,.int .i64 t.p,.int .u32 t.l,.int .i64 t.i,.slice t.ka t.kl t.kc,.slice t.sa t.sl t.sc,.slice t.pa t.pl t.pc] 26)=wA at*;go_wp2_with ((with_reducible show wpList _ _ _ (Oper.mk _ (Op.load 26 _) _ _ _ _::_) _ _);refine wpList_load_row rfl 26 _ rfl b0 rfl _ _ _ _ hrA Tryz.underlying26 rfl (by kernel_rfl) ?_)
 refine(HVL.out wA).mono ?_;rintro e w2 ⟨rfl,hb2⟩;have HB2:=hid (hbA.trans (hb2.mono (by have:=(Ai hrA).1;omega)));clear hrA hbA hb2;go_wp2
 (try simp only[Exit.inBlock,Exit.then]);refine Bp (qO rfl _ _ _) rfl ?_
 exact⟨rfl,by rw[hb0];exact HB2.out⟩
theorem qan (t:TreeV)(F M:Int)(w:World)(h:t.validE=0)(hbd:qax F M):
  Calls Tryz.prog 11 #[t.val,.int .i64 F,.int .i64 M] w fun e w'=>e= .returned (.tuple #[.slice none 0 0,.slice none 0 0,.int .i64 0,.int .i64 1])∧Below w.heap.size w w':=by
 obtain⟨b0,hb0⟩:=Ex w.heap.size;have hvl:=fun W:World=>Yh t W
 rw[h]at hvl;have HVL:=hid hvl;have hbA:Below b0 w (w.alloc (.cells #[.int .i64 t.k,.int .i64 t.d,.int .i64 t.f,.int .i64 t.p,.int .u32 t.l,.int .i64 t.i,.slice t.ka t.kl t.kc,.slice t.sa t.sl t.sc,.slice t.pa t.pl t.pc] 26)):=by rw[←hb0];exact Br.alloc Nl _
 have hrA:=Wn w (.cells #[.int .i64 t.k,.int .i64 t.d,.int .i64 t.f,.int .i64 t.p,.int .u32 t.l,.int .i64 t.i,.slice t.ka t.kl t.kc,.slice t.sa t.sl t.sc,.slice t.pa t.pl t.pc] 26);rw[hb0]at hrA;have hK:(F<0)∨(¬F<0∧1099511627776<F)∨(¬F<0∧ ¬1099511627776<F∧M<0)∨(¬F<0∧ ¬1099511627776<F∧ ¬M<0∧4096<M):=by unfold qax at hbd;omega
 clear h hvl hbd;unfold TreeV.val at*;go_enter Tryz.func11,Tryz.ntmps11
 go_upto_region 1 with(fail)
 generalize w.alloc (.cells #[.int .i64 t.k,.int .i64 t.d,.int .i64 t.f,.int .i64 t.p,.int .u32 t.l,.int .i64 t.i,.slice t.ka t.kl t.kc,.slice t.sa t.sl t.sc,.slice t.pa t.pl t.pc] 26)=wA at*;go_wp2_with ((with_reducible show wpList _ _ _ (Oper.mk _ (Op.load 26 _) _ _ _ _::_) _ _);refine wpList_load_row rfl 26 _ rfl b0 rfl _ _ _ _ hrA Tryz.underlying26 rfl (by kernel_rfl) ?_)
 refine(HVL.out wA).mono ?_;rintro e w2 ⟨rfl,hb2⟩;have HB2:=hid (hbA.trans (hb2.mono (by have:=(Ai hrA).1;omega)));clear hrA hbA hb2;rcases hK with h1|⟨h1,h2⟩|⟨h1,h2,h3⟩|⟨h1,h2,h3,h4⟩
 all_goals
  go_wp2
  (try simp only[Exit.inBlock,Exit.then]);refine Bp (qO rfl _ _ _) rfl ?_
  exact⟨rfl,by rw[hb0];exact HB2.out⟩
theorem qbg (t:TreeV)(kz z1 z2:List Int)(F M:Nat)(w:World)(hv:t.validE=0)(hl:0≤t.l∧t.l≤4294967295)(h1:Hold w (.slice t.ka t.kl t.kc) kz)(h2:Hold w (.slice t.sa t.sl t.sc) z1)(h3:Hold w (.slice t.pa t.pl t.pc) z2)(hF:F≤1099511627776)(hM:M≤4096):
  Calls Tryz.prog 11 #[t.val,.int .i64 (F:Nat),.int .i64 (M:Nat)] w fun e w'=>(∃u v U V n er,e= .returned (.tuple #[u,v,.int .i64 n,.int .i64 er])∧Hold w' u U∧Hold w' v V∧SrchD (t.dgS kz z1 z2 F) F M U V n er)∧Below w.heap.size w w':=by
 obtain⟨b0,hb0⟩:=Ex w.heap.size;obtain⟨ib,hib,hzb,hsb,hbb⟩:=info_parts yk;have hvl:=fun W:World=>Yh t W
 rw[hv]at hvl;have HVL:=hid hvl;have HMSG:=hid (fun(j:Int) (hj0:0≤j) (hj1:j≤9223372036854775807) (W:World) (hb:Below b0 w W)=>zP j (by omega) hj1 W);have HHASH:=hid (fun(j:Nat) (hj:j≤4096) (u:Value) (W:World) (hb:Below b0 w W) (hu:Hold W u (Yl ((F:Int)+(j:Nat))))=>qdi t kz z1 z2 _ u W hl (h1.below (hb0▸hb)) (h2.below (hb0▸hb)) (h3.below (hb0▸hb)) hu (by have:=(jf (i:=(F:Int)+(j:Nat)) (by omega) (by omega)).1;omega));obtain⟨D,hD⟩:=Ex (t.dgS kz z1 z2 (F:Int));have HD:=hid (fun j=>show t.digZ kz z1 z2 (Yl ((F:Int)+(j:Nat)))=D j by rw[←hD];rfl);have hdl: ∀j,j≤4096→1≤(D j).length∧(D j).length≤64:=fun j hj=>by
  have e1:=ZP hv hl kz z1 z2 (Yl ((F:Int)+(j:Nat))) (by have:=(jf (i:=(F:Int)+(j:Nat)) (by omega) (by omega)).1;omega);rw[HD.out j]at e1;have e2:=qq hv;have e3:Yt t.k≤64:=by unfold Yt;split<;>(try split)<;>omega
  omega
 have HDL:=hid hdl;have HV0:=hid hv;have hbA:Below b0 w (w.alloc (.cells #[.int .i64 t.k,.int .i64 t.d,.int .i64 t.f,.int .i64 t.p,.int .u32 t.l,.int .i64 t.i,.slice t.ka t.kl t.kc,.slice t.sa t.sl t.sc,.slice t.pa t.pl t.pc] 26)):=by rw[←hb0];exact Br.alloc Nl _
 have hrA:=Wn w (.cells #[.int .i64 t.k,.int .i64 t.d,.int .i64 t.f,.int .i64 t.p,.int .u32 t.l,.int .i64 t.i,.slice t.ka t.kl t.kc,.slice t.sa t.sl t.sc,.slice t.pa t.pl t.pc] 26);rw[hb0]at hrA;rw[hD];have f1:((F:Int)<0)=False:=by simp
 have f2:(1099511627776<(F:Int))=False:=by simp;omega
 have f3:((M:Int)<0)=False:=by simp
 have f4:(4096<(M:Int))=False:=by simp;omega
 clear hvl hdl hv h1 h2 h3 hl hD;unfold TreeV.val at*;go_enter Tryz.func11,Tryz.ntmps11
 go_upto_region 1 with(fail)
 generalize w.alloc (.cells #[.int .i64 t.k,.int .i64 t.d,.int .i64 t.f,.int .i64 t.p,.int .u32 t.l,.int .i64 t.i,.slice t.ka t.kl t.kc,.slice t.sa t.sl t.sc,.slice t.pa t.pl t.pc] 26)=wA at*;go_wp2_with ((with_reducible show wpList _ _ _ (Oper.mk _ (Op.load 26 _) _ _ _ _::_) _ _);refine wpList_load_row rfl 26 _ rfl b0 rfl _ _ _ _ hrA Tryz.underlying26 rfl (by kernel_rfl) ?_)
 refine(HVL.out wA).mono ?_;rintro e w2 ⟨rfl,hb2⟩;have HB2:=hid (hbA.trans (hb2.mono (by have:=(Ai hrA).1;omega)));have hr2:=qe hrA hb2;have hs2:b0<w2.heap.size:=(Ai hr2).1;clear hrA hbA hb2;obtain⟨bL,hbL⟩:=Ex w2.heap.size;go_wp2_with fail
 go_loopw [11,12] (fun v x wr=> ∃j:Nat,x= .int .i64 (j:Nat)∧j≤M∧NoDup D j∧ListO bL wr v ((List.range j).map D)∧wr.heap[b0]? =some (.cells #[.int .i64 t.k,.int .i64 t.d,.int .i64 t.f,.int .i64 t.p,.int .u32 t.l,.int .i64 t.i,.slice t.ka t.kl t.kc,.slice t.sa t.sl t.sc,.slice t.pa t.pl t.pc] 26 (0,0))∧Below b0 w wr∧Below bL w2 wr) (fun _ x _=>M - (intOf x).toNat)
 case atStart=>exact⟨0,rfl,Nat.zero_le _,fun i j _ hj=>by omega,ListO.nil _ _,hr2,HB2.out,Below.refl _ _⟩
 case round=>
  obtain⟨j,rfl,hj,hnd,hlo,hr,hb,hbl⟩:=hrel;have hLl:((List.range j).map D).length=j:=by simp
  obtain⟨va,vc,rfl, -⟩:=hlo.form;rw[hLl]at hlo⊢;have HBL:=hid hbl;clear hLl hbl hr2;by_cases hlt:j<M
  case pos=>
   have hji:j≤4096:=by omega
   have hwj:IntKind.i64.wrap ((F:Int)+(j:Int))=(F:Int)+(j:Int):=by rw[IntKind.wrap_i64]<;>omega
   have hwj1:IntKind.i64.wrap ((j:Int)+1)=(j:Int)+1:=by rw[IntKind.wrap_i64]<;>omega
   have HB:=hid hb;have HLO:=hid hlo;have HND:=hid hnd;have hsr:b0<wr.heap.size:=(Ai hr).1;clear hb hlo hnd;go_upto_region 10 with(fail)
   refine qy (n:=11) (w0:=wr) (B:=wr.heap.size) [.v 41 (.agg #[.int .i64 t.k,.int .i64 t.d,.int .i64 t.f,.int .i64 t.p,.int .u32 t.l,.int .i64 t.i,.slice t.ka t.kl t.kc,.slice t.sa t.sl t.sc,.slice t.pa t.pl t.pc]),.v 42 (.int .i64 (F:Nat)),.v 43 (.int .i64 (j:Nat)),.v 44 (.int .i64 ((F:Int)+(j:Int))),.p 45 (fun u W=>Hold W u (Yl ((F:Int)+(j:Nat)))),.p 46 (fun u W=> ∃x,u= .tuple #[x,.int .i64 0]∧OwnB wr.heap.size W x (D j)),.p 40 (fun u W=> ∃x,u= .tuple #[x,.int .i64 0]∧OwnB wr.heap.size W x (D j)),.p 47 (fun u W=>OwnB wr.heap.size W u (D j)),.v 48 (.int .i64 0),.p 13 (fun u W=>OwnB wr.heap.size W u (D j)),.v 14 (.int .i64 0)] (by exact⟨(fun _ _ _ h hb=>h.below hb),(fun _ _ _ h hb=>by obtain⟨r,e,h⟩:=h;exact⟨r,e,h.kb (KB.of_below hb (Nat.zero_le _))⟩),(fun _ _ _ h hb=>by obtain⟨r,e,h⟩:=h;exact⟨r,e,h.kb (KB.of_below hb (Nat.zero_le _))⟩),(fun _ _ _ h hb=>OwnB.kb h (KB.of_below hb (Nat.zero_le _))),(fun _ _ _ h hb=>OwnB.kb h (KB.of_below hb (Nat.zero_le _))),trivial⟩) Br.drew Nl ?_ ?_
   ·repeat' (with_reducible first|exact qw|refine qu ?_ ?_)
    ·intro AA x W hA hW hBW hdep D' K hK;have a2:=hA.2 3 (by decide);conv at a2=>rhs;whnf
     clear hdep hA;exact wp_load_row 26 _ rfl b0 a2 _ _ _ _ (qe hr hW) Tryz.underlying26 rfl (by kernel_rfl) (hK _ _ Br rfl)
    ·intro AA x W hA hW hBW hdep D' K hK;have a1:=hA.2 1 (by decide);conv at a1=>rhs;whnf
     clear hdep hA;go_simp
     exact hK _ _ BR rfl
    ·intro AA x W hA hW hBW hdep D' K hK;have a1:=hA.2 12 (by decide);conv at a1=>rhs;whnf
     clear hdep hA;go_simp
     exact hK _ _ BR rfl
    ·intro AA x W hA hW hBW hdep D' K hK;have g0:=gv hA hdep 1 42;have g1:=gv hA hdep 2 43;clear hdep hA;go_simp
     exact hK _ _ BR rfl
    ·intro AA x W hA hW hBW hdep D' K hK;have g0:=gv hA hdep 3 44;clear hdep hA;go_simp
     refine(HMSG.out ((F:Int)+(j:Nat)) (by omega) (by omega) W (HB.out.trans (hW.mono (by omega)))).mono ?_;rintro e w5 ⟨u,rfl,hu,hb5⟩;exact hK _ _ hb5 hu
    ·intro AA x W hA hW hBW hdep D' K hK;have g0:=gv hA hdep 0 41;have g46:(fun u W=>Hold W u (Yl ((F:Int)+(j:Nat)))) (x 45) W:=hdep ⟨4,.data⟩ (by simp) rfl _ rfl;have a46:AA.tmps.getD 45 undef=x 45:=hA.1 45 (by decide);clear hdep hA;have hq:=HHASH.out j hji (x 45) W (HB.out.trans (hW.mono (by omega))) g46;unfold qdQ at hq;rw[HD.out,HV0.out]at hq;go_simp
     refine hq.mono ?_;rintro e w5 ⟨u,rfl,ho,hb5⟩;exact hK _ _ hb5 ⟨u,rfl,ho.le hBW⟩
    ·intro AA x W hA hW hBW hdep D' K hK;have g19:(fun u W=> ∃x,u= .tuple #[x,.int .i64 0]∧OwnB wr.heap.size W x (D j)) (x 46) W:=hdep ⟨5,.data⟩ (by simp) rfl _ rfl;have a19:AA.tmps.getD 46 undef=x 46:=hA.1 46 (by decide);clear hdep hA;go_simp
     exact hK _ _ Br (a19▸g19)
    ·intro AA x W hA hW hBW hdep D' K hK;have g19:(fun u W=> ∃x,u= .tuple #[x,.int .i64 0]∧OwnB wr.heap.size W x (D j)) (x 40) W:=hdep ⟨6,.data⟩ (by simp) rfl _ rfl;have a19:AA.tmps.getD 40 undef=x 40:=hA.1 40 (by decide);clear hdep hA;obtain⟨r,er,hr2⟩:=g19;rw[er]at a19;go_simp
     exact hK _ _ Br hr2
    ·intro AA x W hA hW hBW hdep D' K hK;have g19:(fun u W=> ∃x,u= .tuple #[x,.int .i64 0]∧OwnB wr.heap.size W x (D j)) (x 40) W:=hdep ⟨6,.data⟩ (by simp) rfl _ rfl;have a19:AA.tmps.getD 40 undef=x 40:=hA.1 40 (by decide);clear hdep hA;obtain⟨r,er,hr2⟩:=g19;rw[er]at a19;go_simp
     exact hK _ _ BR rfl
    ·intro AA x W hA hW hBW hdep D' K hK;have g19:(fun u W=>OwnB wr.heap.size W u (D j)) (x 47) W:=hdep ⟨7,.data⟩ (by simp) rfl _ rfl;have a19:AA.tmps.getD 47 undef=x 47:=hA.1 47 (by decide);clear hdep hA;go_simp
     exact hK _ _ Br (a19▸g19)
    ·intro AA x W hA hW hBW hdep D' K hK;have g0:=gv hA hdep 8 48;clear hdep hA;go_simp
     exact hK _ _ BR rfl
   intro x W1 hW1 hBW hall;obtain⟨-, -, -, -,e13, -⟩:=hall;change (fun u W=>OwnB wr.heap.size W u (D j)) (x 13) W1 at e13
   refine qt ?_;simp only[Qw,Act.put,Ls];obtain⟨X,hX⟩:=Ex (x 13);rw[hX]at e13;simp only[hX];generalize x 45=xa;generalize x 46=xb;generalize x 40=xc;generalize x 47=xd;have HX:=hid e13;have HLO1:=hid (HLO.out.below hW1);have hr1:=qe hr hW1;have HB1:=hid (HB.out.trans (hW1.mono (show b0≤wr.heap.size by omega)));have hs1:=hW1.size;have hne:D j≠[]:=fun e=>by have:=(HDL.out j hji).1;rw[e]at this;simp at this
   have HNE:=hid hne;have HW1:=hid hW1;clear e13 hW1 hBW hX x HLO HB hr hne;obtain⟨xa2,xc2,rfl, -, -⟩:=HX.out.hold.slice;have hbr:bL≤W1.heap.size:=by have:=HBL.out.size;omega
   have HBL1:=hid (HBL.out.trans (HW1.out.mono (show bL≤wr.heap.size by have:=HBL.out.size;omega)));have HXL:=hid (HX.out.le (show bL≤wr.heap.size by have:=HBL.out.size;omega));go_wp2_with fail
   go_loopw [15] (fun x wi=> ∃k:Nat,x= .int .i64 (k:Nat)∧k≤j∧(∀q,q<k→D q≠D j)∧Below W1.heap.size W1 wi) (fun x _=>j - (intOf x).toNat)
   case atStart=>exact⟨0,rfl,Nat.zero_le _,fun q hq=>by omega,Below.refl _ _⟩
   case round=>
    obtain⟨k,rfl,hk,hno,hbi⟩:=hrel;have HNO:=hid hno;have HBI:=hid hbi;have HXI:=hid (HX.out.hold.below hbi);have HLI:=hid (HLO1.out.below hbi);have hri:=qe hr1 hbi;have hsi:=hbi.size;clear hno hbi;by_cases hki:k<j
    case pos=>
     obtain⟨g,cap,y,ev,hg1,hg2,hyo⟩:=HLI.out.get (i:=k) (by simpa using hki);have ev2:va=some ⟨g,0,none⟩:=by simp only[Value.slice.injEq]at ev;exact ev.1
     subst ev2;rw[qfa D hki]at hyo;obtain⟨ya,yc,rfl, -, -⟩:=hyo.hold.slice;have HYO:=hid hyo.hold;clear ev hyo;have hwk1:IntKind.i64.wrap ((k:Int)+1)=(k:Int)+1:=by rw[IntKind.wrap_i64]<;>omega
     have hwk:IntKind.i64.wrap ((F:Int)+(k:Int))=(F:Int)+(k:Int):=by rw[IntKind.wrap_i64]<;>omega
     go_wp2_with fail
     refine(qcU (D k) (D j) _ _ wr HYO.out HXI.out).mono ?_;rintro e w5 ⟨rfl,m5,hm5⟩;have hb5:Below wr.heap.size wr w5:=by rw[hm5];exact Yq _ _
     have HB5:=hid (HBI.out.trans (hb5.mono hsi));have HBB5:=hid (HB1.out.trans (HB5.out.mono (show b0≤W1.heap.size by omega)));clear hm5 hb5;by_cases hD2:D k=D j
     ·have hdq:decide (D k=D j)=true:=decide_eq_true hD2;have HD2:=hid hD2;simp only[hdq];clear hD2 hdq;go_wp2_with fail
      refine(HMSG.out ((F:Int)+(k:Nat)) (by omega) (by omega) w5 HBB5.out).mono ?_;rintro e w6 ⟨u1,rfl,hu1,hb6⟩;have HU1:=hid hu1;have HB6:=hid (HBB5.out.trans (hb6.mono (by have:=HBB5.out.size;omega)));clear hu1 hb6;go_wp2_with fail
      refine(HMSG.out ((F:Int)+(j:Nat)) (by omega) (by omega) w6 HB6.out).mono ?_;rintro e w7 ⟨u2,rfl,hu2,hb7⟩;have HU2:=hid hu2;have HB7:=hid hb7;clear hu2 hb7;go_wp2_with fail
      (try simp only[Exit.inBlock,Exit.then]);refine Bp (qO rfl _ _ _) rfl ?_
      exact⟨⟨_,_,_,_,_,_,rfl,HU1.out.below HB7.out,HU2.out,.inr ⟨j,k,hki,hlt,HND.out,HD2.out,rfl,rfl,rfl,rfl⟩⟩,by rw[hb0];exact HB6.out.trans (HB7.out.mono (by have:=HB6.out.size;omega))⟩
     ·have hdq:decide (D k=D j)=false:=decide_eq_false hD2;have HD2:=hid hD2;simp only[hdq];clear hD2 hdq;go_wp2_with fail
      refine⟨⟨k+1,rfl,by omega,fun q hq=>?_,HB5.out⟩,by simp[intOf];omega⟩;by_cases e:q=k
      ·rw[e];exact HD2.out
      ·exact HNO.out q (by omega)
    obtain rfl:k=j:=by omega
    obtain⟨vs,hvo,hvx⟩:=HLI.out;have hLl2:((List.range k).map D).length=k:=by simp
    rw[hLl2]at hvo hvx;have hvl:vs.length=k:=by have:=hvo.1;omega
    have HVO:=hid hvo;have HVX:=hid hvx;have HVL:=hid hvl;have HXO:=hid (HXL.out.kb (KB.of_below HBI.out (Nat.zero_le _)));have hb0L:b0<bL:=by omega
    clear hLl2 hvo hvx hvl;go_wp2_with (first|((with_reducible show wpList _ _ _ (Oper.mk _ (Op.buildSlice _ _ _) _ _ _ _::_) _ _);refine Qi rfl _ rfl _ _ _ rfl ?_)|(at_builtin;refine Qt rfl _ _ _ rfl bL 24 (by decide) ib (.slice none 0 0) 1 24 Tryz.underlying60 hib hzb hsb hbb rfl (by decide) (.slice va k vc) k vs [.slice xa2 (D k).length xc2] _ rfl HVO.out rfl rfl (by simp[Value.oneCell']) (by unfold maxLen;omega) (by omega) (by omega) ?_;intro v' w' hown' hkb' hsp'))
    refine⟨⟨k+1,rfl,by omega,HND.out.succ HNO.out,?_,?_,?_,?_⟩,by simp[intOf];omega⟩
    ·rw[qek];exact ListO.snoc (w:=wr) (vs:=vs) (x:= .slice xa2 (D k).length xc2) (fun i hi=>HVX.out i (by simpa using hi)) (by rw[HVL.out];simp) HXO.out (by simpa using hown') hkb'
    ·exact(hkb'.below.block b0 hb0L).trans hri
    ·exact(HB1.out.trans (HBI.out.mono (show b0≤W1.heap.size by omega))).trans (hkb'.below.mono (by omega))
    ·exact(HBL1.out.trans (HBI.out.mono hbr)).trans hkb'.below
  obtain rfl:j=M:=by omega
  have HB:=hid hb;clear hb hlo hr;go_wp2
  (try simp only[Exit.inBlock,Exit.then]);refine Bp (qO rfl _ _ _) rfl ?_
  exact⟨⟨_,_,[],[],_,_,rfl,Hold.nil _,Hold.nil _,.inl ⟨hnd,rfl,rfl,rfl,rfl⟩⟩,by rw[hb0];exact HB.out⟩
theorem qao (t:TreeV)(kz z1 z2:List Int)(F M:Int)(w:World)(hl:0≤t.l∧t.l≤4294967295)(h1:Hold w (.slice t.ka t.kl t.kc) kz)(h2:Hold w (.slice t.sa t.sl t.sc) z1)(h3:Hold w (.slice t.pa t.pl t.pc) z2):
  Calls Tryz.prog 11 #[t.val,.int .i64 F,.int .i64 M] w fun e w'=>(∃u v U V n er,e= .returned (.tuple #[u,v,.int .i64 n,.int .i64 er])∧Hold w' u U∧Hold w' v V∧SrchIs t kz z1 z2 F M U V n er)∧Below w.heap.size w w':=by
 by_cases hv:t.validE=0
 ·by_cases hb:qax F M
  ·refine(qan t F M w hv hb).mono ?_;rintro e w' ⟨rfl,hb'⟩
   exact⟨⟨_,_,[],[],_,_,rfl,Hold.nil _,Hold.nil _,.inr (.inl ⟨hv,hb,rfl,rfl,rfl,rfl⟩)⟩,hb'⟩
  ·have hb2:=hb;unfold qax at hb2;obtain⟨F',rfl⟩: ∃n:Nat,F=n:=⟨F.toNat,by omega⟩;obtain⟨M',rfl⟩: ∃n:Nat,M=n:=⟨M.toNat,by omega⟩;refine(qbg t kz z1 z2 F' M' w hv hl h1 h2 h3 (by omega) (by omega)).mono ?_;rintro e w' ⟨⟨u,v,U,V,n,er,rfl,hu,hv',hs⟩,hb'⟩
   exact⟨⟨u,v,U,V,n,er,rfl,hu,hv',.inr (.inr ⟨hv,hb,by simpa using hs⟩)⟩,hb'⟩
 ·refine(qam t F M w hv).mono ?_;rintro e w' ⟨rfl,hb'⟩
  exact⟨⟨_,_,[],[],_,_,rfl,Hold.nil _,Hold.nil _,.inl ⟨hv,rfl,rfl,rfl,rfl⟩⟩,hb'⟩
theorem SrchIs.sw {t:TreeV}{a1:Option Addr}{c1:Nat}{a2:Option Addr}{c2:Nat}{a3:Option Addr}{c3:Nat}{kz z1 z2:List Int}{F M:Int}{U V:List Int}{n er:Int}(h:SrchIs (t.sw a1 c1 a2 c2 a3 c3) kz z1 z2 F M U V n er):SrchIs t kz z1 z2 F M U V n er:=by
 have e:(t.sw a1 c1 a2 c2 a3 c3).dgS kz z1 z2 F=t.dgS kz z1 z2 F:=by
  funext j
  unfold TreeV.dgS;rw[qaA]
 have e2:(t.sw a1 c1 a2 c2 a3 c3).validE=t.validE:=rfl;unfold SrchIs at h⊢;rw[e,e2]at h;exact h
theorem ZY (t:TreeV)(kz z1 z2:List Int)(F M:Int)(w:World)(hl:0≤t.l∧t.l≤4294967295)(h1:Hold w (.slice t.ka t.kl t.kc) kz)(h2:Hold w (.slice t.sa t.sl t.sc) z1)(h3:Hold w (.slice t.pa t.pl t.pc) z2)(hF: -9223372036854775808≤F∧F≤9223372036854775807)(hM: -9223372036854775808≤M∧M≤9223372036854775807)(htab:TabW w)(hk:t.kl≤70368744177664)(hs:t.sl≤70368744177664)(hp:t.pl≤70368744177664):
  Calls Tryz.prog 3 #[t.val,.int .i64 F,.int .i64 M] w (qgg w):=by
 obtain⟨b0,hb0⟩:=Ex w.heap.size;have HL:=hid hl;have HFF:=hid hF;have HMM:=hid hM;have HTAB:=hid (fun(W:World) (hb:Below b0 w W)=>htab.below (hb0▸hb));have HOWN:=hid (fun(W:World) (hb:Below b0 w W)=>qe4 t kz z1 z2 W (h1.below (hb0▸hb)) (h2.below (hb0▸hb)) (h3.below (hb0▸hb)) hk hs hp);have HREF:=hid (fun(W:World) (hb:Below b0 w W)=>qao t kz z1 z2 F M W hl (h1.below (hb0▸hb)) (h2.below (hb0▸hb)) (h3.below (hb0▸hb)));clear hl h1 h2 h3 hF hM htab hk hs hp;unfold TreeV.val at*;go_enter Tryz.func3,Tryz.ntmps3
 go_upto_region 1 with(fail)
 refine qj ?_;intro wA hwA;have hrA:wA.heap[b0]? =some (.cells #[.int .i64 t.k,.int .i64 t.d,.int .i64 t.f,.int .i64 t.p,.int .u32 t.l,.int .i64 t.i,.slice t.ka t.kl t.kc,.slice t.sa t.sl t.sc,.slice t.pa t.pl t.pc] 26 (0,0)):=by rw[hwA,←hb0];exact Wn _ _
 have HBA:=hid (show Below b0 w wA by rw[hwA,←hb0];exact Br.alloc Nl _);clear hwA;go_wp2_with fail
 refine(qc9 F HFF.out.1 HFF.out.2 wA (HTAB.out wA HBA.out)).mono ?_;rintro e w1F ⟨u1F,rfl,hu,hb⟩;have HU1F:=hid hu;have HB1F:=hid (HBA.out.trans (hb.mono (by have:=HBA.out.size;omega)));have hr1F:=qe hrA hb;clear hu hb hrA;go_wp2_with fail
 refine(zP F HFF.out.1 HFF.out.2 w1F).mono ?_;rintro e w2F ⟨u2F,rfl,hu,hb⟩;have HU2F:=hid hu;have HU3F:=hid (HU1F.out.below hb);have HB2F:=hid (HB1F.out.trans (hb.mono (by have:=HB1F.out.size;omega)));have hr2F:=qe hr1F hb;clear hu hb hr1F HU1F;go_wp2_with fail
 refine(Zg (Yl F) _ _ w2F HU3F.out HU2F.out).mono ?_;rintro e w3F ⟨rfl,m3,hm3⟩;have hb:Below w2F.heap.size w2F w3F:=by rw[hm3];exact Yq _ _
 have HB3F:=hid (HB2F.out.trans (hb.mono (by have:=HB2F.out.size;omega)));have hr3F:=qe hr2F hb;clear hm3 hb hr2F HU3F HU2F;go_wp2_with fail
 refine(qc9 M HMM.out.1 HMM.out.2 w3F (HTAB.out w3F HB3F.out)).mono ?_;rintro e w1M ⟨u1M,rfl,hu,hb⟩;have HU1M:=hid hu;have HB1M:=hid (HB3F.out.trans (hb.mono (by have:=HB3F.out.size;omega)));have hr1M:=qe hr3F hb;clear hu hb hr3F;go_wp2_with fail
 refine(zP M HMM.out.1 HMM.out.2 w1M).mono ?_;rintro e w2M ⟨u2M,rfl,hu,hb⟩;have HU2M:=hid hu;have HU3M:=hid (HU1M.out.below hb);have HB2M:=hid (HB1M.out.trans (hb.mono (by have:=HB1M.out.size;omega)));have hr2M:=qe hr1M hb;clear hu hb hr1M HU1M;go_wp2_with fail
 refine(Zg (Yl M) _ _ w2M HU3M.out HU2M.out).mono ?_;rintro e w3M ⟨rfl,m3,hm3⟩;have hb:Below w2M.heap.size w2M w3M:=by rw[hm3];exact Yq _ _
 have HB3M:=hid (HB2M.out.trans (hb.mono (by have:=HB2M.out.size;omega)));have hr3M:=qe hr2M hb;clear hm3 hb hr2M HU3M HU2M;go_wp2_with ((with_reducible show wpList _ _ _ (Oper.mk _ (Op.load 26 _) _ _ _ _::_) _ _);refine wpList_load_row rfl 26 _ rfl b0 rfl _ _ _ _ hr3M Tryz.underlying26 rfl (by kernel_rfl) ?_)
 refine(HOWN.out w3M HB3M.out).mono ?_;rintro e w4 ⟨u,rfl,ho,hb⟩;obtain⟨a1,c1,a2,c2,a3,c3,rfl,k1,k2,k3⟩:=ho;have HB4:=hid (HB3M.out.trans (hb.mono (by have:=HB3M.out.size;omega)));have hr4:=qe hr3M hb;have HSR:=hid (qcN (t.sw a1 c1 a2 c2 a3 c3) kz z1 z2 F M w4 HL.out k1.hold k2.hold k3.hold (HTAB.out w4 HB4.out));clear hb hr3M k1 k2 k3;go_wp2_with fail
 refine HSR.out.mono ?_;rintro e w5 ⟨⟨u5,v5,U,V,n,er,rfl,hu,hv,hsr⟩,hb⟩;have HB5:=hid (HB4.out.trans (hb.mono (by have:=HB4.out.size;omega)));have hr5:=qe hr4 hb;have HU5:=hid hu;have HV5:=hid hv;have HS5:=hid hsr.sw;clear hu hv hsr hb hr4 HSR;go_wp2_with ((with_reducible show wpList _ _ _ (Oper.mk _ (Op.load 26 _) _ _ _ _::_) _ _);refine wpList_load_row rfl 26 _ rfl b0 rfl _ _ _ _ hr5 Tryz.underlying26 rfl (by kernel_rfl) ?_)
 refine(HREF.out w5 HB5.out).mono ?_;rintro e w6 ⟨⟨u6,v6,U6,V6,n6,er6,rfl,hu,hv,hsr⟩,hb⟩;obtain⟨rfl,rfl,rfl,rfl⟩:=SrchIs.one HS5.out hsr;have HB6:=hid (HB5.out.trans (hb.mono (by have:=HB5.out.size;omega)));have HU6:=hid hu;have HV6:=hid hv;have HU56:=hid (HU5.out.below hb);have HV56:=hid (HV5.out.below hb);clear hu hv hsr hb hr5 HU5 HV5;go_wp2_with fail
 refine(Zg U _ _ w6 HU56.out HU6.out).mono ?_;rintro e w7 ⟨rfl,m7,hm7⟩;have hb:Below w6.heap.size w6 w7:=by rw[hm7];exact Yq _ _
 have HB7:=hid (HB6.out.trans (hb.mono (by have:=HB6.out.size;omega)));have HV7:=hid (HV6.out.below hb);have HV57:=hid (HV56.out.below hb);clear hm7 hb;go_wp2_with fail
 refine(Zg V _ _ w7 HV57.out HV7.out).mono ?_;rintro e w8 ⟨rfl,m8,hm8⟩;have hb:Below w7.heap.size w7 w8:=by rw[hm8];exact Yq _ _
 have HB8:=hid (HB7.out.trans (hb.mono (by have:=HB7.out.size;omega)));clear hm8 hb;go_wp2
 go_ret
 exact⟨rfl,by rw[hb0];exact HB8.out⟩
end Go.Proofs.YtdndeffmlhaipaaGreatDoor
namespace Go.Proofs.YtdndeffmlhaipaaGreatDoor
open Go.ChangeShapes Go.WideShapes Go.ChangeAt Go.RowKit Go.Joins Go.Shelf Go.Maps
open Go.Lib (hid)
theorem qbL {W:World}(h:laidMet Tryz.prog Rows.clashSearchesRow.laid W):TabW W:=by
 obtain⟨g',t',cs,fuel,p,hg',ht',hvar,hd⟩:=Lib.laidMet.reads h (n:=qa5) (d:=Rows.laid_internal_strconv_uint64pow10) (List.Mem.tail _ (List.Mem.tail _ (List.Mem.head _)));have hg:Tryz.prog.globalNamed qa5=some 0:=by kernel_rfl
 have ht:(Tryz.prog.globals[0]?).map (·.type)=some 170:=by kernel_rfl
 obtain rfl:=Option.some.inj (hg.symm.trans hg');obtain rfl:=Option.some.inj (ht.symm.trans ht');have e:(Rows.laid_internal_strconv_uint64pow10:DataW Unit)=Lib.tabData .u64 Lib.pow10Tab:=by kernel_rfl
 rw[e]at hd;unfold TabW Lib.TabIs;rw[hvar];have:=Lib.cells_of_tab Tryz.underlying170 Tryz.underlying54 (by kernel_rfl) (by kernel_rfl) hd
 rw[←this]
def J6 (d:DataW Unit):Array Value:=match d with
 | .agg l=>(l.map fun x=>match x with| .lit (.int k z)=>Value.int k z|_=>undef).toArray
 | _=> #[]
def JN (c:Array Value):Obj→Obj
 | .cells _ t frozen=> .cells c t frozen
 | o=>o
noncomputable def jE (os:Os):World:=
 { World.holding Tryz.prog os ⟨#[],#[],[]⟩with heap:=(((World.holding Tryz.prog os ⟨#[],#[],[]⟩).heap.modify 0 (JN (J6 Rows.laid_internal_strconv_uint64pow10))).modify 1 (JN (J6 Rows.laid_math_bits_deBruijn32tab))).modify 2 (JN (J6 Rows.laid_math_bits_deBruijn64tab)) }
theorem Z1 {H:Type}(enc:TypeId×Value→H)(W:World)(base:Nat)(args:Array Value)(ds:List (DataW H))(p:List MemPlace)
  (hval: ∀(j:Nat) t v,Tryz.f3.params[j]? =some t→args[j]? =some v→Value.okWide Tryz.prog W .any base t v)
  (hA:DataW.TrodAll enc Tryz.prog W 0 (fun _=>true) true Tryz.f3.params.toList args.toList ds p) (hlt: ∀x∈p,x.block<W.heap.size)
  (hk:Rows.uptoSmall H ds=true) (hT:TabW W):
  Calls Tryz.prog 3 args W (qgg W):=by
 rw[Tryz.params3]at hA hval;obtain⟨v0,v1,v2,d0,d1,d2,p0,p1,p2,rfl,rfl,rfl,h0,h1,h2⟩:=trodAll_three hA;have hb:Rows.uptoBulk d0+(Rows.uptoBulk d1+(Rows.uptoBulk d2+0))≤1048576:=of_decide_eq_true hk;obtain⟨t,kz,z1,z2,rfl,hl,ht,b1,b2,b3⟩:=qc8 (hval 0 26 v0 rfl rfl) h0 (fun x hx=>hlt x (by simp[hx]));obtain⟨F,rfl,hF⟩:=qb5 (hval 1 3 v1 rfl rfl) h1;obtain⟨M,rfl,hM⟩:=qb5 (hval 2 3 v2 rfl rfl) h2;exact ZY t kz z1 z2 F M W hl ht.k ht.s ht.p hF hM hT (by have:=yO ht.k;omega) (by have:=yO ht.s;omega) (by have:=yO ht.p;omega)
theorem Z0 (os:Os):laidMet Tryz.prog Rows.clashSearchesUptoRow.laid ((jE os).forCall (fun _ _=>0) ⟨#[],#[.agg #[.int .i64 0,.int .i64 0,.int .i64 0,.int .i64 0,.int .u32 0,.int .i64 0,.slice none 0 0,.slice none 0 0,.slice none 0 0],.int .i64 0,.int .i64 0],[]⟩).memory:=
 laidMet_of_run' 8 (by kernel_rfl) (by kernel_rfl)
theorem ZD (os:Os){H:Type}(enc:TypeId×Value→H): ∃places,DataW.whole enc Tryz.prog ((jE os).forCall (fun _ _=>0) ⟨#[],#[.agg #[.int .i64 0,.int .i64 0,.int .i64 0,.int .i64 0,.int .u32 0,.int .i64 0,.slice none 0 0,.slice none 0 0,.slice none 0 0],.int .i64 0,.int .i64 0],[]⟩).memory Tryz.f3.params.toList Rows.clashSearchesSpec.vars false (#[.agg #[.int .i64 0,.int .i64 0,.int .i64 0,.int .i64 0,.int .u32 0,.int .i64 0,.slice none 0 0,.slice none 0 0,.slice none 0 0],.int .i64 0,.int .i64 0]:Array Value).toList 40=some ([.agg [.lit (.int .i64 0),.lit (.int .i64 0),.lit (.int .i64 0),.lit (.int .i64 0),.lit (.int .u32 0),.lit (.int .i64 0),.nil,.nil,.nil],.lit (.int .i64 0),.lit (.int .i64 0)],[],places):=
 ⟨[],by kernel_rfl⟩
theorem z6 (os:Os)(started:os.Started)(H:Type)(enc:TypeId×Value→H)(F0:Stop.Interp):
  ReturnsInHanded {} Tryz.checked os 3 .any ((Rows.OpenSpec.upto Rows.clashSearchesSpec).preRow enc Tryz.prog Tryz.f3 Rows.clashSearchesUptoRow.domain false Rows.clashSearchesUptoRow.laid) (((Rows.OpenSpec.upto Rows.clashSearchesSpec).at F0).post enc Tryz.prog Tryz.f3 false true false false):=by
 obtain⟨places,hx⟩:=ZD os enc;refine returnsInHanded_of_row (C:=Tryz.checked) (s:=Rows.OpenSpec.upto Rows.clashSearchesSpec) own started (by kernel_rfl) Tryz.func3
  (witness_row_at (enc:=enc) (C:=Tryz.checked) false (jE os) #[.agg #[.int .i64 0,.int .i64 0,.int .i64 0,.int .i64 0,.int .u32 0,.int .i64 0,.slice none 0 0,.slice none 0 0,.slice none 0 0],.int .i64 0,.int .i64 0] rfl (by kernel_rfl) (by kernel_rfl) (by kernel_rfl)
   (OpenSpec.preRow_of_cond 40 hx (by kernel_rfl) (fun k hk=>by cases hk;kernel_rfl) (by kernel_rfl) (Z0 os))) ?_
 intro W base args ds gs before hval0 hW _ hcond _ hL _ _;have hW':=hW;obtain⟨p,q,hA0,hV,rfl,hfz,hnd⟩:=hW;have hA:DataW.TrodAll enc Tryz.prog W 0 (fun _=>true) true Tryz.f3.params.toList args.toList ds p:=hA0;obtain⟨rfl,rfl⟩:=trodVars_none hV;have hk':Rows.uptoSmall H ds=true:=by rw[←List.append_nil ds];exact hcond _ rfl
 refine(Z1 enc W base args ds p hval0 hA (fun x hx=>hW'.lt x (by simpa using hx)) hk' (qbL hL)).mono fun e W' h=>⟨_,h.1,?_⟩
 refine qat (s:=(Rows.OpenSpec.upto Rows.clashSearchesSpec).at F0) qfZ _ rfl Tryz.underlying4 (by decide+kernel) rfl hW' ?_ h.2;have hA':=hA;rw[Tryz.params3]at hA';obtain⟨v0,v1,v2,d0,d1,d2,p0,p1,p2,rfl,rfl,_⟩:=trodAll_three hA';rfl
theorem ZZ:Rows.ClashSearchesUptoSaid:=
 OpenClaim.holds_of_cond 3 Tryz.f3 rfl rfl rfl rfl rfl rfl rfl ⟨rfl,rfl,rfl,rfl,rfl⟩ rfl rfl rfl rfl rfl (by kernel_rfl) Tryz.func3 (by kernel_rfl)
  (of_decide_eq_true (by kernel_rfl)) (by unfold Func.isWrapper;first|(rw[if_pos (by decide+kernel)];kernel_rfl)|(rw[if_neg (by decide+kernel)];exact⟨rfl,rfl⟩))
  (fun os started H enc _ F0=>by rw[OpenClaim.pre_eq_preRow];exact z6 os started H enc F0)
theorem ZE (f:FuncId)(fn:Func)(hf:Tryz.pinned.checked.prog.funcNamed Rows.clashSearchesUptoRow.func=some f)(hfn:Tryz.pinned.checked.prog.funcs[f]? =some fn):
  true=Tryz.pinned.checked.prog.looks []∧ ∀(j:Nat) t,fn.params[j]? =some t→Tryz.pinned.checked.prog.wantsStandIn t=false:=by
 obtain rfl:f=3:=Option.some.inj ((show Tryz.prog.funcNamed Rows.clashSearchesUptoRow.func=some 3 by kernel_rfl).symm.trans hf) |>.symm
 obtain rfl:fn=Tryz.f3:=(Option.some.inj (Tryz.func3.symm.trans hfn)).symm;refine⟨by kernel_rfl,fun j t ht=>?_⟩;rw[Tryz.params3]at ht;have hm:t∈([26,3,3]:List TypeId):=by simpa using Array.mem_of_getElem? ht
 have hall:([26,3,3]:List TypeId).all (fun t=> !Tryz.prog.wantsStandIn t)=true:=by kernel_rfl
 have h1:=List.all_eq_true.1 hall t hm;have h2:Tryz.prog.wantsStandIn t=false:=by simpa using h1
 exact h2
theorem clashSearches_holds:Rows.ClashSearchesUptoCardSaid:=
 Claim7.holds_tied_plain_at .later [] _ _ _ _ ZZ (fun _ h=>by cases h) (by kernel_rfl) (fun _ h=>by cases h) clashSearchesUpto_row_tie rfl ⟨rfl,rfl⟩ (by kernel_rfl) rfl ZE (by kernel_rfl)
#print axioms clashSearches_holds
end Go.Proofs.YtdndeffmlhaipaaGreatDoor
