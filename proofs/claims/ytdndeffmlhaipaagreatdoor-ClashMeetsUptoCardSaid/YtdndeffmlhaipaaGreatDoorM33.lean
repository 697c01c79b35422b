/- The search: the program's. No condition but the table of the library. -/
import Derived.Test.YtdndeffmlhaipaaGreatDoorM20
import Derived.Test.YtdndeffmlhaipaaGreatDoorM21
import Derived.Test.YtdndeffmlhaipaaGreatDoorM29
import Derived.Test.YtdndeffmlhaipaaGreatDoorM32
import Derived.Test.YtdndeffmlhaipaaGreatDoorM18
set_option linter.all false
set_option maxRecDepth 100000
set_option maxHeartbeats 8000000
namespace Go.Proofs.YtdndeffmlhaipaaGreatDoor
open Go.ChangeShapes Go.WideShapes Go.ChangeAt Go.RowKit Go.Joins Go.Shelf Go.Maps
open Go.Lib (hid)
attribute [local go_sem] Oper.semAt_some
def TreeV.dgS (t:TreeV)(kz z1 z2:List Int)(F:Int)(j:Nat):List Int:=t.digZ kz z1 z2 (yT (F+j))
def qe9 (D:Nat→List Int)(F:Int)(M:Nat)(U V:List Int)(n er:Int):Prop:=
 (NoDup D M∧U=[]∧V=[]∧n=(M:Nat)∧er=6)∨ ∃i k:Nat,k<i∧i<M∧NoDup D i∧D k=D i∧U=yT (F+k)∧V=yT (F+i)∧n=(i:Nat)+1∧er=0
noncomputable def YW (D:Nat→List Int)(F:Int):Nat→List UInt8→Option Int
 | 0=>fun _=>none
 | j+1=>fun q=>open Classical in if Q0 q=D j then some (F+j) else YW D F j q
theorem Jg {D:Nat→List Int}{F:Int}{q:List UInt8}: ∀{j:Nat},YW D F j q=none→ ∀k,k<j→D k≠Q0 q
 | 0,_,k,hk=>by omega
 | j+1,h,k,hk=>by
  simp only[YW]at h;split at h
  ·cases h
  ·rename_i e;by_cases e2:k=j
   ·rw[e2];exact fun e3=>e e3.symm
   ·exact Jg h k (by omega)
theorem Jf {D:Nat→List Int}{F:Int}{q:List UInt8}{z:Int}: ∀{j:Nat},YW D F j q=some z→ ∃k,k<j∧D k=Q0 q∧z=F+(k:Nat)
 | 0,h=>by cases h
 | j+1,h=>by
  simp only[YW]at h;split at h
  ·rename_i e;obtain rfl:=Option.some.inj h;exact⟨j,by omega,e.symm,rfl⟩
  ·obtain⟨k,h1,h2,h3⟩:=Jf h;exact⟨k,by omega,h2,h3⟩
theorem qdj {D:Nat→List Int}{F:Int}{j:Nat}{s:List UInt8}(h:D j=Q0 s):(fun q=>if q=s then some (F+(j:Nat)) else YW D F j q)=YW D F (j+1):=by
 funext q
 show _=(open Classical in if Q0 q=D j then some (F+(j:Nat)) else YW D F j q)
 by_cases e:q=s
 ·rw[if_pos e,if_pos (by rw[e,h])]
 ·rw[if_neg e,if_neg (fun e2=>e (Jy (e2.trans h)))]
theorem qd9 (i:Int)(h0: -9223372036854775808≤i)(h1:i≤9223372036854775807)(w:World)(ht:TabW w):
  Calls Tryz.prog 7 #[.int .i64 i] w fun e w'=> ∃u,e= .returned u∧Hold w' u (yT i)∧Below w.heap.size w w':=by
 have HI:=hid (qeW i h0 h1 w ht);have hl:(Lib.itoa i).length≤64:=by have:=Lib.itoa_length_le i h0 h1;omega
 have HM:=hid (show Q0 (Lib.itoa i)=yT i from rfl);clear ht;go_enter Tryz.func7,Tryz.ntmps7
 go_wp2_with fail
 refine HI.out.mono ?_;rintro e w1 ⟨rfl,hb1⟩;go_wp2_with ((with_reducible show wpList _ _ _ (Oper.mk _ (Op.convert 9 24 _) _ _ _ _::_) _ _);refine qat rfl _ rfl (Lib.itoa i) rfl hl ?_;intro v w2 hv hb2)
 go_ret
 rw[HM.out]at hv;exact⟨v,rfl,hv,hb1.trans (hb2.mono hb1.size)⟩
theorem qb2 (t:TreeV)(F M:Int)(w:World)(h:t.validE≠0):
  Calls Tryz.prog 9 #[t.val,.int .i64 F,.int .i64 M] w fun e w'=>e= .returned (.tuple #[.slice none 0 0,.slice none 0 0,.int .i64 0,.int .i64 t.validE])∧Below w.heap.size w w':=by
 obtain⟨b0,hb0⟩:=Ex w.heap.size;have HVL:=hid (fun W:World=>QC t W);have hbA:Below b0 w (w.alloc (.cells #[.int .i64 t.k,.int .i64 t.d,.int .i64 t.f,.int .i64 t.p,.int .u32 t.l,.int .i64 t.i,.slice t.ka t.kl t.kc,.slice t.sa t.sl t.sc,.slice t.pa t.pl t.pc] 26)):=by rw[←hb0];exact Br.alloc Nl _
 have hrA:=Wn w (.cells #[.int .i64 t.k,.int .i64 t.d,.int .i64 t.f,.int .i64 t.p,.int .u32 t.l,.int .i64 t.i,.slice t.ka t.kl t.kc,.slice t.sa t.sl t.sc,.slice t.pa t.pl t.pc] 26);rw[hb0]at hrA;generalize t.validE=ev at*;have hq:(ev != 0)=true:=by rw[bne_iff_ne];exact h
 clear h;unfold TreeV.val at*;go_enter Tryz.func9,Tryz.ntmps9
 go_upto_region 1 with(fail)
 generalize w.alloc (.cells #[.int .i64 t.k,.int .i64 t.d,.int .i64 t.f,.int .i64 t.p,.int .u32 t.l,.int .i64 t.i,.slice t.ka t.kl t.kc,.slice t.sa t.sl t.sc,.slice t.pa t.pl t.pc] 26)=wA at*;go_wp2_with ((with_reducible show wpList _ _ _ (Oper.mk _ (Op.load 26 _) _ _ _ _::_) _ _);refine wpList_load_row rfl 26 _ rfl b0 rfl _ _ _ _ hrA Tryz.underlying26 rfl (by kernel_rfl) ?_)
 refine(HVL.out wA).mono ?_;rintro e w2 ⟨rfl,hb2⟩;have HB2:=hid (hbA.trans (hb2.mono (by have:=(Ai hrA).1;omega)));clear hrA hbA hb2;go_wp2
 (try simp only[Exit.inBlock,Exit.then]);refine Bp (yQ rfl _ _ _) rfl ?_
 exact⟨rfl,by rw[hb0];exact HB2.out⟩
def qbF (F M:Int):Prop:=F<0∨1099511627776<F∨M<0∨4096<M
theorem qb3 (t:TreeV)(F M:Int)(w:World)(h:t.validE=0)(hbd:qbF F M):
  Calls Tryz.prog 9 #[t.val,.int .i64 F,.int .i64 M] w fun e w'=>e= .returned (.tuple #[.slice none 0 0,.slice none 0 0,.int .i64 0,.int .i64 1])∧Below w.heap.size w w':=by
 obtain⟨b0,hb0⟩:=Ex w.heap.size;have hvl:=fun W:World=>QC t W
 rw[h]at hvl;have HVL:=hid hvl;have hbA:Below b0 w (w.alloc (.cells #[.int .i64 t.k,.int .i64 t.d,.int .i64 t.f,.int .i64 t.p,.int .u32 t.l,.int .i64 t.i,.slice t.ka t.kl t.kc,.slice t.sa t.sl t.sc,.slice t.pa t.pl t.pc] 26)):=by rw[←hb0];exact Br.alloc Nl _
 have hrA:=Wn w (.cells #[.int .i64 t.k,.int .i64 t.d,.int .i64 t.f,.int .i64 t.p,.int .u32 t.l,.int .i64 t.i,.slice t.ka t.kl t.kc,.slice t.sa t.sl t.sc,.slice t.pa t.pl t.pc] 26);rw[hb0]at hrA;have hK:(F<0)∨(¬F<0∧1099511627776<F)∨(¬F<0∧ ¬1099511627776<F∧M<0)∨(¬F<0∧ ¬1099511627776<F∧ ¬M<0∧4096<M):=by unfold qbF at hbd;omega
 clear h hvl hbd;unfold TreeV.val at*;go_enter Tryz.func9,Tryz.ntmps9
 go_upto_region 1 with(fail)
 generalize w.alloc (.cells #[.int .i64 t.k,.int .i64 t.d,.int .i64 t.f,.int .i64 t.p,.int .u32 t.l,.int .i64 t.i,.slice t.ka t.kl t.kc,.slice t.sa t.sl t.sc,.slice t.pa t.pl t.pc] 26)=wA at*;go_wp2_with ((with_reducible show wpList _ _ _ (Oper.mk _ (Op.load 26 _) _ _ _ _::_) _ _);refine wpList_load_row rfl 26 _ rfl b0 rfl _ _ _ _ hrA Tryz.underlying26 rfl (by kernel_rfl) ?_)
 refine(HVL.out wA).mono ?_;rintro e w2 ⟨rfl,hb2⟩;have HB2:=hid (hbA.trans (hb2.mono (by have:=(Ai hrA).1;omega)));clear hrA hbA hb2;rcases hK with h1|⟨h1,h2⟩|⟨h1,h2,h3⟩|⟨h1,h2,h3,h4⟩
 all_goals
  go_wp2
  (try simp only[Exit.inBlock,Exit.then]);refine Bp (yQ rfl _ _ _) rfl ?_
  exact⟨rfl,by rw[hb0];exact HB2.out⟩
theorem qc8 (t:TreeV)(kz z1 z2:List Int)(F M:Nat)(w:World)(hv:t.validE=0)(hl:0≤t.l∧t.l≤4294967295)(h1:Hold w (.slice t.ka t.kl t.kc) kz)(h2:Hold w (.slice t.sa t.sl t.sc) z1)(h3:Hold w (.slice t.pa t.pl t.pc) z2)(hF:F≤1099511627776)(hM:M≤4096)(htab:TabW w):
  Calls Tryz.prog 9 #[t.val,.int .i64 (F:Nat),.int .i64 (M:Nat)] w fun e w'=>(∃u v U V n er,e= .returned (.tuple #[u,v,.int .i64 n,.int .i64 er])∧Hold w' u U∧Hold w' v V∧qe9 (t.dgS kz z1 z2 F) F M U V n er)∧Below w.heap.size w w':=by
 obtain⟨b0,hb0⟩:=Ex w.heap.size;have hvl:=fun W:World=>QC t W
 rw[hv]at hvl;have HVL:=hid hvl;have HMSG:=hid (fun(j:Int) (hj0:0≤j) (hj1:j≤9223372036854775807) (W:World) (hb:Below b0 w W)=>qd9 j (by omega) hj1 W (htab.below (hb0▸hb)));have HHASH:=hid (fun(j:Nat) (hj:j≤4096) (u:Value) (W:World) (hb:Below b0 w W) (hu:Hold W u (yT ((F:Int)+(j:Nat))))=>YC t kz z1 z2 _ u W hl (h1.below (hb0▸hb)) (h2.below (hb0▸hb)) (h3.below (hb0▸hb)) hu (by have:=(Yb (i:=(F:Int)+(j:Nat)) (by omega) (by omega)).1;omega));obtain⟨D,hD⟩:=Ex (t.dgS kz z1 z2 (F:Int));have HD:=hid (fun j=>show t.digZ kz z1 z2 (yT ((F:Int)+(j:Nat)))=D j by rw[←hD];rfl);have hdl: ∀j,j≤4096→1≤(D j).length∧(D j).length≤64:=fun j hj=>by
  have e1:=Ze hv hl kz z1 z2 (yT ((F:Int)+(j:Nat))) (by have:=(Yb (i:=(F:Int)+(j:Nat)) (by omega) (by omega)).1;omega);rw[HD.out j]at e1;have e2:=qd hv;have e3:YU t.k≤64:=by unfold YU;split<;>(try split)<;>omega
  omega
 have HDL:=hid hdl;have HV0:=hid hv;have hbA:Below b0 w (w.alloc (.cells #[.int .i64 t.k,.int .i64 t.d,.int .i64 t.f,.int .i64 t.p,.int .u32 t.l,.int .i64 t.i,.slice t.ka t.kl t.kc,.slice t.sa t.sl t.sc,.slice t.pa t.pl t.pc] 26)):=by rw[←hb0];exact Br.alloc Nl _
 have hrA:=Wn w (.cells #[.int .i64 t.k,.int .i64 t.d,.int .i64 t.f,.int .i64 t.p,.int .u32 t.l,.int .i64 t.i,.slice t.ka t.kl t.kc,.slice t.sa t.sl t.sc,.slice t.pa t.pl t.pc] 26);rw[hb0]at hrA;rw[hD];have f1:((F:Int)<0)=False:=by simp
 have f2:(1099511627776<(F:Int))=False:=by simp;omega
 have f3:((M:Int)<0)=False:=by simp
 have f4:(4096<(M:Int))=False:=by simp;omega
 clear hvl hdl hv h1 h2 h3 hl htab hD;unfold TreeV.val at*;go_enter Tryz.func9,Tryz.ntmps9
 go_upto_region 1 with(fail)
 generalize w.alloc (.cells #[.int .i64 t.k,.int .i64 t.d,.int .i64 t.f,.int .i64 t.p,.int .u32 t.l,.int .i64 t.i,.slice t.ka t.kl t.kc,.slice t.sa t.sl t.sc,.slice t.pa t.pl t.pc] 26)=wA at*;go_wp2_with ((with_reducible show wpList _ _ _ (Oper.mk _ (Op.load 26 _) _ _ _ _::_) _ _);refine wpList_load_row rfl 26 _ rfl b0 rfl _ _ _ _ hrA Tryz.underlying26 rfl (by kernel_rfl) ?_)
 refine(HVL.out wA).mono ?_;rintro e w2 ⟨rfl,hb2⟩;have HB2:=hid (hbA.trans (hb2.mono (by have:=(Ai hrA).1;omega)));have hr2:=qb hrA hb2;have hs2:b0<w2.heap.size:=(Ai hr2).1;clear hrA hbA hb2;obtain⟨bm,hbm⟩:=Ex w2.heap.size;have HBM:=hid hbm;have HMD:=hid (hbm▸MapT.made w2);have hmm:= @run_makeMap Tryz.prog;go_upto_region 7 with(fail)
 refine qj ?_;intro w3 hw3;have hb3:Below bm w2 w3:=by rw[hw3,←hbm];exact Br.alloc Nl _
 have hmp:MapT w3 bm 0 (fun _=>none):=by rw[hw3];exact HMD.out
 have hr3:=qb hr2 (hbm▸hb3);have HB3:=hid (HB2.out.trans (hb3.mono (by omega)));have HMP:=hid hmp;clear hw3 hb3 hmp hmm HB2 hr2 HMD;go_wp2_with fail
 go_loopw [38] (fun x wr=> ∃j:Nat,x= .int .i64 (j:Nat)∧j≤M∧NoDup D j∧MapT wr bm j (YW D F j)∧wr.heap[b0]? =some (.cells #[.int .i64 t.k,.int .i64 t.d,.int .i64 t.f,.int .i64 t.p,.int .u32 t.l,.int .i64 t.i,.slice t.ka t.kl t.kc,.slice t.sa t.sl t.sc,.slice t.pa t.pl t.pc] 26 (0,0))∧Below b0 w wr) (fun x _=>M - (intOf x).toNat)
 case atStart=>exact⟨0,rfl,Nat.zero_le _,fun i j _ hj=>by omega,HMP.out,hr3,HB3.out⟩
 case round=>
  clear HMP hr3 HB3;obtain⟨j,rfl,hj,hnd,hmp,hr,hb⟩:=hrel;by_cases hlt:j<M
  case pos=>
   have hji:j≤4096:=by omega
   have hwj:IntKind.i64.wrap ((F:Int)+(j:Int))=(F:Int)+(j:Int):=by rw[IntKind.wrap_i64]<;>omega
   have hwj1:IntKind.i64.wrap ((j:Int)+1)=(j:Int)+1:=by rw[IntKind.wrap_i64]<;>omega
   have HB:=hid hb;have HMP:=hid hmp;have HND:=hid hnd;have hsr:b0<wr.heap.size:=(Ai hr).1;clear hb hmp hnd;go_upto_region 10 with(fail)
   refine qA (n:=11) (w0:=wr) (B:=wr.heap.size) [.v 42 (.agg #[.int .i64 t.k,.int .i64 t.d,.int .i64 t.f,.int .i64 t.p,.int .u32 t.l,.int .i64 t.i,.slice t.ka t.kl t.kc,.slice t.sa t.sl t.sc,.slice t.pa t.pl t.pc]),.v 43 (.int .i64 (F:Nat)),.v 44 (.int .i64 (j:Nat)),.v 45 (.int .i64 ((F:Int)+(j:Int))),.p 46 (fun u W=>Hold W u (yT ((F:Int)+(j:Nat)))),.p 47 (fun u W=> ∃x,u= .tuple #[x,.int .i64 0]∧OwnB wr.heap.size W x (D j)),.p 41 (fun u W=> ∃x,u= .tuple #[x,.int .i64 0]∧OwnB wr.heap.size W x (D j)),.p 48 (fun u W=>OwnB wr.heap.size W u (D j)),.v 49 (.int .i64 0),.p 13 (fun u W=>OwnB wr.heap.size W u (D j)),.v 14 (.int .i64 0)] (by exact⟨(fun _ _ _ h hb=>h.below hb),(fun _ _ _ h hb=>by obtain⟨r,e,h⟩:=h;exact⟨r,e,h.kb (KB.of_below hb (Nat.zero_le _))⟩),(fun _ _ _ h hb=>by obtain⟨r,e,h⟩:=h;exact⟨r,e,h.kb (KB.of_below hb (Nat.zero_le _))⟩),(fun _ _ _ h hb=>OwnB.kb h (KB.of_below hb (Nat.zero_le _))),(fun _ _ _ h hb=>OwnB.kb h (KB.of_below hb (Nat.zero_le _))),trivial⟩) Br.drew Nl ?_ ?_
   ·repeat' (with_reducible first|exact qt|refine qn ?_ ?_)
    ·intro AA x W hA hW hBW hdep D' K hK;have a2:=hA.2 3 (by decide);conv at a2=>rhs;whnf
     clear hdep hA;exact wp_load_row 26 _ rfl b0 a2 _ _ _ _ (qb hr hW) Tryz.underlying26 rfl (by kernel_rfl) (hK _ _ Br rfl)
    ·intro AA x W hA hW hBW hdep D' K hK;have a1:=hA.2 1 (by decide);conv at a1=>rhs;whnf
     clear hdep hA;go_simp
     exact hK _ _ BR rfl
    ·intro AA x W hA hW hBW hdep D' K hK;have a1:=hA.2 12 (by decide);conv at a1=>rhs;whnf
     clear hdep hA;go_simp
     exact hK _ _ BR rfl
    ·intro AA x W hA hW hBW hdep D' K hK;have g0:=gv hA hdep 1 43;have g1:=gv hA hdep 2 44;clear hdep hA;go_simp
     exact hK _ _ BR rfl
    ·intro AA x W hA hW hBW hdep D' K hK;have g0:=gv hA hdep 3 45;clear hdep hA;go_simp
     refine(HMSG.out ((F:Int)+(j:Nat)) (by omega) (by omega) W (HB.out.trans (hW.mono (by omega)))).mono ?_;rintro e w5 ⟨u,rfl,hu,hb5⟩;exact hK _ _ hb5 hu
    ·intro AA x W hA hW hBW hdep D' K hK;have g0:=gv hA hdep 0 42;have g46:(fun u W=>Hold W u (yT ((F:Int)+(j:Nat)))) (x 46) W:=hdep ⟨4,.data⟩ (by simp) rfl _ rfl;have a46:AA.tmps.getD 46 undef=x 46:=hA.1 46 (by decide);clear hdep hA;have hq:=HHASH.out j hji (x 46) W (HB.out.trans (hW.mono (by omega))) g46;unfold qfb at hq;rw[HD.out,HV0.out]at hq;go_simp
     refine hq.mono ?_;rintro e w5 ⟨u,rfl,ho,hb5⟩;exact hK _ _ hb5 ⟨u,rfl,ho.le hBW⟩
    ·intro AA x W hA hW hBW hdep D' K hK;have g19:(fun u W=> ∃x,u= .tuple #[x,.int .i64 0]∧OwnB wr.heap.size W x (D j)) (x 47) W:=hdep ⟨5,.data⟩ (by simp) rfl _ rfl;have a19:AA.tmps.getD 47 undef=x 47:=hA.1 47 (by decide);clear hdep hA;go_simp
     exact hK _ _ Br (a19▸g19)
    ·intro AA x W hA hW hBW hdep D' K hK;have g19:(fun u W=> ∃x,u= .tuple #[x,.int .i64 0]∧OwnB wr.heap.size W x (D j)) (x 41) W:=hdep ⟨6,.data⟩ (by simp) rfl _ rfl;have a19:AA.tmps.getD 41 undef=x 41:=hA.1 41 (by decide);clear hdep hA;obtain⟨r,er,hr2⟩:=g19;rw[er]at a19;go_simp
     exact hK _ _ Br hr2
    ·intro AA x W hA hW hBW hdep D' K hK;have g19:(fun u W=> ∃x,u= .tuple #[x,.int .i64 0]∧OwnB wr.heap.size W x (D j)) (x 41) W:=hdep ⟨6,.data⟩ (by simp) rfl _ rfl;have a19:AA.tmps.getD 41 undef=x 41:=hA.1 41 (by decide);clear hdep hA;obtain⟨r,er,hr2⟩:=g19;rw[er]at a19;go_simp
     exact hK _ _ BR rfl
    ·intro AA x W hA hW hBW hdep D' K hK;have g19:(fun u W=>OwnB wr.heap.size W u (D j)) (x 48) W:=hdep ⟨7,.data⟩ (by simp) rfl _ rfl;have a19:AA.tmps.getD 48 undef=x 48:=hA.1 48 (by decide);clear hdep hA;go_simp
     exact hK _ _ Br (a19▸g19)
    ·intro AA x W hA hW hBW hdep D' K hK;have g0:=gv hA hdep 8 49;clear hdep hA;go_simp
     exact hK _ _ BR rfl
   intro x W1 hW1 hBW hall;obtain⟨-, -, -, -,e13, -⟩:=hall;change (fun u W=>OwnB wr.heap.size W u (D j)) (x 13) W1 at e13
   refine qo ?_;simp only[Qi,Act.put,Ls];obtain⟨X,hX⟩:=Ex (x 13);rw[hX]at e13;simp only[hX];generalize x 46=xa;generalize x 47=xb;generalize x 41=xc;generalize x 48=xd;have HX:=hid e13;have HMP1:=hid (HMP.out.below hW1);have hr1:=qb hr hW1;have HB1:=hid (HB.out.trans (hW1.mono (show b0≤wr.heap.size by omega)));have hs1:=hW1.size;have hne:D j≠[]:=fun e=>by have:=(HDL.out j hji).1;rw[e]at this;simp at this
   have HNE:=hid hne;clear e13 hW1 hBW hX x HMP HB hr hne;go_upto_region 12 with(first|((with_reducible show wpList _ _ _ (Oper.mk _ (Op.convert 24 9 _) _ _ _ _::_) _ _);refine jk rfl _ rfl X (D j) rfl HX.out.hold HNE.out ?_;intro l hl)|((with_reducible show wpList _ _ _ (Oper.mk _ (Op.lookup _ _ _ _) _ _ _ _::_) _ _);refine qas rfl _ _ rfl bm j (YW D F j) rfl HMP1.out l (by have:=(HDL.out j hji).2;rw[hl]at this;unfold Q0 at this;rw[List.length_map]at this;exact this) rfl ?_))
   have HLL:=hid hl;clear hl;obtain⟨o,ho⟩:=Ex (YW D F j l);simp only[ho];have HO:=hid ho;clear ho
   cases o with
   | some z=>
    obtain⟨k,hk,hDk,rfl⟩:=Jf HO.out;have hwk:IntKind.i64.wrap ((F:Int)+(k:Int))=(F:Int)+(k:Int):=by rw[IntKind.wrap_i64]<;>omega
    have HDK:=hid (hDk.trans HLL.out.symm);clear hDk HO;simp only[Option.getD_some,Option.isSome_some];go_wp2_with fail
    refine(HMSG.out ((F:Int)+(k:Nat)) (by omega) (by omega) W1 HB1.out).mono ?_;rintro e w5 ⟨u1,rfl,hu1,hb5⟩;have HU1:=hid hu1;have HB5:=hid (HB1.out.trans (hb5.mono (by omega)));clear hu1 hb5;go_wp2_with fail
    refine(HMSG.out ((F:Int)+(j:Nat)) (by omega) (by omega) w5 HB5.out).mono ?_;rintro e w6 ⟨u2,rfl,hu2,hb6⟩;have HU2:=hid hu2;have HB6:=hid hb6;clear hu2 hb6;go_wp2_with fail
    (try simp only[Exit.inBlock,Exit.then]);refine Bp (yQ rfl _ _ _) rfl ?_
    exact⟨⟨_,_,_,_,_,_,rfl,HU1.out.below HB6.out,HU2.out,.inr ⟨j,k,hk,hlt,HND.out,HDK.out,rfl,rfl,rfl,rfl⟩⟩,by rw[hb0];exact HB5.out.trans (HB6.out.mono (by have:=HB5.out.size;omega))⟩
   | none=>
    simp only[Option.getD_none,Option.isSome_none];go_wp2_with (first|((with_reducible show wpList _ _ _ (Oper.mk _ (Op.convert 24 9 _) _ _ _ _::_) _ _);refine jk rfl _ rfl X (D j) rfl HX.out.hold HNE.out ?_;intro l2 hl2;obtain rfl:=Jy (hl2.symm.trans HLL.out);clear hl2)|((with_reducible show wpList _ _ _ (Oper.mk _ (Op.mapUpdate _ _ _ _) _ _ _ _::_) _ _);refine qaY rfl _ _ _ rfl bm j (YW D F j) rfl HMP1.out (by omega) l2 (by have:=(HDL.out j hji).2;rw[HLL.out]at this;unfold Q0 at this;rw[List.length_map]at this;exact this) ((F:Int)+(j:Nat)) rfl rfl ?_;intro w6 hm6 hg6))
    have hbb:b0<bm:=by have:=HBM.out;omega
    refine⟨⟨j+1,rfl,by omega,HND.out.succ (fun k hk=>?_),?_,?_,?_⟩,by simp[intOf];omega⟩
    ·exact fun e=>Jg HO.out k hk (e.trans HLL.out)
    ·rw[qdj HLL.out]at hm6;exact hm6
    ·exact(hg6.block b0 (Ai hr1).1 (fun e=>by cases e;omega)).trans hr1
    ·exact HB1.out.grown hg6 (by omega) (fun k e=>by cases e;omega)
  obtain rfl:j=M:=by omega
  have HB:=hid hb;clear hb hmp hr;go_wp2
  (try simp only[Exit.inBlock,Exit.then]);refine Bp (yQ rfl _ _ _) rfl ?_
  exact⟨⟨_,_,[],[],_,_,rfl,Hold.nil _,Hold.nil _,.inl ⟨hnd,rfl,rfl,rfl,rfl⟩⟩,by rw[hb0];exact HB.out⟩
def SrchIs (t:TreeV)(kz z1 z2:List Int)(F M:Int)(U V:List Int)(n er:Int):Prop:=
 (t.validE≠0∧U=[]∧V=[]∧n=0∧er=t.validE)∨(t.validE=0∧qbF F M∧U=[]∧V=[]∧n=0∧er=1)∨(t.validE=0∧ ¬qbF F M∧qe9 (t.dgS kz z1 z2 F) F M.toNat U V n er)
theorem j9 (t:TreeV)(kz z1 z2:List Int)(F M:Int)(w:World)(hl:0≤t.l∧t.l≤4294967295)(h1:Hold w (.slice t.ka t.kl t.kc) kz)(h2:Hold w (.slice t.sa t.sl t.sc) z1)(h3:Hold w (.slice t.pa t.pl t.pc) z2)(htab:TabW w):
  Calls Tryz.prog 9 #[t.val,.int .i64 F,.int .i64 M] w fun e w'=>(∃u v U V n er,e= .returned (.tuple #[u,v,.int .i64 n,.int .i64 er])∧Hold w' u U∧Hold w' v V∧SrchIs t kz z1 z2 F M U V n er)∧Below w.heap.size w w':=by
 by_cases hv:t.validE=0
 ·by_cases hb:qbF F M
  ·refine(qb3 t F M w hv hb).mono ?_;rintro e w' ⟨rfl,hb'⟩
   exact⟨⟨_,_,[],[],_,_,rfl,Hold.nil _,Hold.nil _,.inr (.inl ⟨hv,hb,rfl,rfl,rfl,rfl⟩)⟩,hb'⟩
  ·have hb2:=hb;unfold qbF at hb2;obtain⟨F',rfl⟩: ∃n:Nat,F=n:=⟨F.toNat,by omega⟩;obtain⟨M',rfl⟩: ∃n:Nat,M=n:=⟨M.toNat,by omega⟩;refine(qc8 t kz z1 z2 F' M' w hv hl h1 h2 h3 (by omega) (by omega) htab).mono ?_;rintro e w' ⟨⟨u,v,U,V,n,er,rfl,hu,hv',hs⟩,hb'⟩
   exact⟨⟨u,v,U,V,n,er,rfl,hu,hv',.inr (.inr ⟨hv,hb,by simpa using hs⟩)⟩,hb'⟩
 ·refine(qb2 t F M w hv).mono ?_;rintro e w' ⟨rfl,hb'⟩
  exact⟨⟨_,_,[],[],_,_,rfl,Hold.nil _,Hold.nil _,.inl ⟨hv,rfl,rfl,rfl,rfl⟩⟩,hb'⟩
end Go.Proofs.YtdndeffmlhaipaaGreatDoor
