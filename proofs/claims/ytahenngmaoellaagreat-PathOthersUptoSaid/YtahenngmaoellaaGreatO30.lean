/- Lemmas. No condition. -/
import Derived.Test.YtahenngmaoellaaGreatO29
set_option linter.all false
set_option maxRecDepth 100000
set_option maxHeartbeats 0
namespace Go.Proofs.YtahenngmaoellaaGreat
open Go.ChangeShapes Go.WideShapes Go.ChangeAt Go.RowKit Go.Joins Go.Shelf Go.Maps
open Go.Lib (hid)
variable{a:Option Addr}{n c q p B base g j:Nat}{zs b:List Int}{v r D e:Value}{W W':World}{o G wr:Int}{la big ext:Bool}{T:TypeId}{xs:List Value}
attribute [local go_sem] Oper.semAt_some
theorem qiR (h0 I:List Int)(node:Bool)(hh:Words 64 8 h0)(hm: ∀z∈I,0<=z/\z<=255)(p:Nat)(hv:Value)(w:World)(hE:Q6 true w p hv h0 I)(aM:(I.length:Int)<=281474976710656):
  Calls Tryz.prog 263 #[.pointer (some ⟨p,0,none⟩),.bool node] w fun e w'=> ∃v,e= .returned v/\w'.ownsRow w.heap.size 5 1 v 64 ((Zc true h0 I node).map qp)/\Below w.heap.size w w':=by
 have bb:p<w.heap.size:=(Ai hE.1).1;obtain⟨ad,aa⟩:=hE;have al:=qac (zb true) I;have aE:=jI (zb true) I;have ai:=zV (n:=bB true) hm;have ag:=Yr true hh I (nbk (bB true) I.length);have az:=qaP (zb true) I;have ar:Zc true h0 I node=qQ 8 (yR true (stZ true h0 I (nbk (bB true) I.length)) (QI 128 (yq (bB true) I)) ((bB true*nbk (bB true) I.length+(yq (bB true) I).length:Nat):Int) true node) 8:=by rw[al];unfold Zc;rw[az];rfl
 simp only[cond]at ad;rw[ar];clear ar az hh;generalize stZ true h0 I (nbk (bB true) I.length)=H1 at*;generalize bB true*nbk (bB true) I.length=ah at*;generalize yq (bB true) I=X at*;have ap:X.length<=128:=aE;clear hm aE;obtain⟨a1,n1,c1,rfl⟩:=qr aa;obtain rfl:n1=X.length:=yJ aa;have aG:=Qf aa ai;obtain⟨Z,aB⟩:=Ex (ah+X.length);have aj:=qel ah X.length (by omega);have aw:(Z:Int)<9223372036854775808:=by omega
 have bl:=hid aw;rw[aB]at aj⊢;have ak:=yy (n:=128) ai;have au:=QP (n:=128) ap;have aq:=j6 X (.slice a1 X.length c1) 128;obtain⟨PZ,ay⟩:=Ex (QI 128 X);rw[ay]at ak au aq⊢;have am:=Q1 true ag PZ (Z:Nat) true node;have aC:=qfb H1 PZ ag;obtain⟨R,U⟩:=Ex (yR true H1 PZ (Z:Nat) true node);have af:=fun(v:Value) (W:World) (h8:Holds8 W v PZ)=>aC v Z aw true node W h8 ak au
 rw[U]at am⊢;simp only[U]at af;have a8:=hid aj;have aV:=hid aq;have aN:=hid af;have aJ:=hid ag;have a4:=hid am;have ae:=hid ad;have aT:=hid aG;clear aj aq aC af ag am ad aG aa al aB ay U ak au ai aw aM;have bd:(X.length:Int)<=128:=by omega
 go_enter Tryz.func263,Tryz.ntmps263
 go_upto_region 1 with(fail)
 refine yt (fun _ W=>Below w.heap.size w W) 15 [.z 8 p 0,.z 9 p 0,.z 10 p 8,.v 11 (.agg #[.int .u64 ah,.int .u64 0]),.z 12 p 0,.z 13 p 0,.z 14 p 10,.v 15 (.slice a1 X.length c1),.v 16 (.int .i64 (X.length:Nat)),.v 17 (.int .u64 (X.length:Nat)),.v 18 (.tuple #[.agg #[.int .u64 Z,.int .u64 0],.bool false]),.v 7 (.tuple #[.agg #[.int .u64 Z,.int .u64 0],.bool false]),.v 19 (.agg #[.int .u64 Z,.int .u64 0]),.v 20 (.bool false),.p 5 (fun u W=> ∃J,u= .pointer (some ⟨J,0,none⟩)/\w.heap.size<=J/\ ∃c,W.heap[J]? =some (.cells c 285 (0,0))/\c.size=2),.f none [5] (fun vs W=> ∃J,vs=[.pointer (some ⟨J,0,none⟩)]/\w.heap.size<=J/\W.heap[J]? =some (.cells #[.int .u64 Z,.int .u64 0] 285 (0,0))),.v 6 (.bool false)] (by exact⟨(fun _ _ V _ h=>by obtain⟨J,e,h3,c,h4,h5⟩:=h;exact⟨J,e,h3,c,qf h4 V,h5⟩),(fun _ _ V _ h=>by obtain⟨J,e,h3,h4⟩:=h;exact⟨J,e,h3,qf h4 V⟩),trivial⟩) Br.drew (fun _ _ _ h V=>h.trans (V.mono h.size)) ?_ ?_ ?_
 ·repeat' (with_reducible first|exact qz|refine qx ?_ ?_)
  all_goals try
   refine .inr ?_;intro A x W f r U hf o D K G;have a0:=r.2 0 (by decide);conv at a0=>rhs;whnf
   simp only[QS,yc]at D;clear o r;first
   | go_simp
     exact G _ _ BR rfl
   | have y0:IntKind.u64.wrap (X.length:Int)=(X.length:Int):=u64_wrap_id _ (by omega) (by omega)
     go_simp
     exact G _ _ BR rfl
  any_goals exact .inl rfl
  all_goals refine .inr ?_
  ·intro A x W f r U hf o _ K G;have aP:=gw r o 2 10;clear o r;have Y:=qf ae.out U;refine Qt 285 _ rfl p 8 aP 287 _ #[.int .u64 ah,.int .u64 0] (0,0) _ Y Tryz.underlying285 rfl (by kernel_rfl) (qef _ _ _) (G _ _ Br rfl)
  ·intro A x W f r U hf o _ K G;have bq:=gw r o 6 14;clear o r;have Y:=qf ae.out U;have c0:W.cell? ⟨p,10,none⟩=some (.slice a1 X.length c1):=qd Y 10;go_simp
   exact G _ _ BR rfl
  ·intro A x W f r U hf o _ K G;have bk:=gw r o 3 11;have be:=gw r o 9 17;clear o r;go_simp
   refine(a8.out _).mono ?_;rintro e w' ⟨rfl,V⟩;exact G _ _ V rfl
  ·intro A x W f r U hf o _ K G;clear o r;go_simp
   exact G _ _ (Br.alloc Nl _) ⟨W.heap.size,rfl,U.size,_,Wn W _,rfl⟩
 ·intro A x W r U o K G;have g5:(fun u W=> ∃J,u= .pointer (some ⟨J,0,none⟩)/\w.heap.size<=J/\ ∃c,W.heap[J]? =some (.cells c 285 (0,0))/\c.size=2) (x 5) W:=o ⟨14,.data⟩ (by simp) rfl;have a5:A.tmps.getD 5 undef=x 5:=r.1 5 (by decide);have aQ:=gw r o 12 19;clear o r;obtain⟨J,e5,aH,c,ax,a7⟩:=g5;refine wp_store_row 285 _ _ rfl J #[.int .u64 Z,.int .u64 0] (a5.trans e5) aQ 285 c ax (by kernel_rfl) (by rw[a7];rfl) (by simp[Value.oneCell']) ?_;have a3:Below w.heap.size w (W.setRow J #[.int .u64 Z,.int .u64 0]):=below_setRow U aH _;refine G _ _ (fun _=>rfl) a3 ⟨.inr (fun _ h=>h),.inr (fun _ h=>h),.inr (fun _ h=>h),.inr (fun _ h=>h),.inr (fun _ h=>h),.inr (fun _ h=>h),.inr (fun _ h=>h),.inr (fun _ h=>h),.inr (fun _ h=>h),.inr (fun _ h=>h),.inr (fun _ h=>h),.inr (fun _ h=>h),.inr (fun _ h=>h),.inr (fun _ h=>h),.inr (fun u h=>?_),.inl rfl,.inr (fun _ h=>h),trivial⟩ ⟨J,by simp[e5],aH,setRow_heap _ _ _ _ _ _ ax⟩;obtain⟨q,e,q1,c',q2,q3⟩:=h;refine⟨q,e,q1,?_⟩;by_cases hq:q=J
  ·subst hq;exact⟨_,setRow_heap _ _ _ _ _ _ ax,rfl⟩
  ·exact⟨c',(setRow_other _ _ _ _ hq).trans q2,q3⟩
 intro x W U ac;obtain⟨e5,aL, -⟩:=ac;change (fun u W=> ∃J,u= .pointer (some ⟨J,0,none⟩)/\w.heap.size<=J/\ ∃c,W.heap[J]? =some (.cells c 285 (0,0))/\c.size=2) (x 5) W at e5
 obtain⟨pc,e5,aO, -⟩:=e5;obtain⟨bs,aF,aK,an⟩:=aL;simp only[List.map_cons,List.map_nil,e5,List.cons.injEq,Value.pointer.injEq,Option.some.injEq,Addr.mk.injEq,and_true]at aF;obtain rfl:=aF;simp only[QG,Act.put,Ls,e5];clear e5;have av:=qf ae.out U;have aA:=aT.out.below U;have ab:=hid av;have aW:=hid aA;have aX:=hid an;have aU:=hid U;have ba:p<W.heap.size:=(Ai av).1;have a9:pc<W.heap.size:=(Ai an).1;have ao:w.heap.size<=W.heap.size:=U.size;clear av aA an U x aO aK;generalize W=W2 at*;go_upto_region 2 with(fail)
 refine qE (n:=26) (w0:=W2) (B:=W2.heap.size) [.z 21 p 0,.z 22 p 0,.z 23 p 13,.v 24 (.func (.func 190) #[] #[]),.z 25 p 0,.z 26 p 0,.z 27 p 12,.v 28 (.func (.func 189) #[] #[]),.z 29 p 0,.z 30 p 0,.z 31 p 0,.v 32 (.agg (qj .u64 H1)),.z 33 p 0,.z 34 p 0,.z 35 p 10,.v 36 (.slice a1 X.length c1),.z 37 p 0,.z 38 p 0,.z 39 p 11,.v 40 (.int .i64 128),.p 41 (fun u W=>W.ownsRow W2.heap.size 5 1 u 128 (PZ.map qp)),.v 42 (.agg #[.int .u64 Z,.int .u64 0]),.v 43 (.bool node),.v 44 (.agg (qj .u64 R)),.p 45 (fun u W=>W.ownsRow W2.heap.size 5 1 u 64 ((qQ 8 R 8).map qp)),.p 4 (fun u W=>W.ownsRow W2.heap.size 5 1 u 64 ((qQ 8 R 8).map qp))] (by exact⟨(fun _ _ _ h V=>qi h (fun g _ hg=>V.block g hg)),(fun _ _ _ h V=>qi h (fun g _ hg=>V.block g hg)),(fun _ _ _ h V=>qi h (fun g _ hg=>V.block g hg)),trivial⟩) Br.drew Nl ?_ ?_
 ·repeat' (with_reducible first|exact qz|refine qx ?_ ?_)
  all_goals try
   intro A x W r S O o D K G;have a0:=r.2 0 (by decide);conv at a0=>rhs;whnf
   have a1:=r.2 1 (by decide);conv at a1=>rhs;whnf
   simp only[QS,yc]at D;clear o r;go_simp
   exact G _ _ BR rfl
  ·intro A x W r S O o _ K G;have bo:=gv r o 2 23;clear o r;have Y:=qf ab.out S;have c0:W.cell? ⟨p,13,none⟩=some (.func (.func 190) #[] #[]):=qd Y 13;go_simp
   exact G _ _ BR rfl
  ·intro A x W r S O o _ K G;have bn:=gv r o 6 27;clear o r;have Y:=qf ab.out S;have c0:W.cell? ⟨p,12,none⟩=some (.func (.func 189) #[] #[]):=qd Y 12;go_simp
   exact G _ _ BR rfl
  ·intro A x W r S O o _ K G;have aR:=gv r o 10 31;clear o r;have Y:=qf ab.out S;refine Qt 278 _ rfl p 0 aR 287 _ (qj .u64 H1) (0,0) _ Y Tryz.underlying278 rfl (by rw[qg,aJ.out.1];kernel_rfl) (qi9 aJ.out _ _) (G _ _ Br rfl)
  ·intro A x W r S O o _ K G;have bg:=gv r o 14 35;clear o r;have Y:=qf ab.out S;have c0:W.cell? ⟨p,10,none⟩=some (.slice a1 X.length c1):=qd Y 10;go_simp
   exact G _ _ BR rfl
  ·intro A x W r S O o _ K G;have bu:=gv r o 18 39;clear o r;have Y:=qf ab.out S;have c0:W.cell? ⟨p,11,none⟩=some (.int .i64 128):=qd Y 11;go_simp
   exact G _ _ BR rfl
  ·intro A x W r S O o _ K G;have bf:=gv r o 15 36;have bh:=gv r o 19 40;clear o r;go_simp
   refine(aV.out _ (aW.out.below S) ap (by decide)).mono ?_;rintro e w' ⟨u,rfl,ho,V⟩;exact G _ _ V (ownsRow_le ho O)
  ·intro A x W r S O o _ K G;have a5:=r.2 5 (by decide);conv at a5=>rhs;whnf
   clear o r;have Y:=qf aX.out S;refine wp_load_row 285 _ rfl pc a5 _ _ _ _ Y Tryz.underlying285 rfl (by kernel_rfl) (G _ _ Br rfl)
  ·intro A x W r S O o _ K G;have bj:=gv r o 7 28;have bm:=gv r o 11 32;have aZ:(fun u W=>W.ownsRow W2.heap.size 5 1 u 128 (PZ.map qp)) (x 41) W:=o ⟨20,.data⟩ (by simp) rfl _ rfl;have br:A.tmps.getD 41 undef=x 41:=r.1 41 (by decide);have bt:=gv r o 21 42;have bc:=gv r o 22 43;clear o r;go_simp
   refine(aN.out _ _ (yj aZ)).mono ?_;rintro e w' ⟨rfl,V⟩;exact G _ _ V rfl
  ·intro A x W r S O o _ K G;have bp:=gv r o 3 24;have bi:=gv r o 23 44;clear o r;go_simp
   refine(qgR R a4.out _).mono ?_;rintro e w' ⟨u,rfl,ho,V⟩;exact G _ _ V (ownsRow_le ho O)
  ·intro A x W r S O o _ K G;have aS:(fun u W=>W.ownsRow W2.heap.size 5 1 u 64 ((qQ 8 R 8).map qp)) (x 45) W:=o ⟨24,.data⟩ (by simp) rfl _ rfl;have aY:A.tmps.getD 45 undef=x 45:=r.1 45 (by decide);clear o r;go_simp
   exact G _ _ Br (aY▸aS)
 intro x W S O ac;obtain⟨aD,aI,e4, -⟩:=ac;change (fun u W=>W.ownsRow W2.heap.size 5 1 u 128 (PZ.map qp)) (x 41) W at aD
 change (fun u W=>W.ownsRow W2.heap.size 5 1 u 64 ((qQ 8 R 8).map qp)) (x 45) W at aI
 change (fun u W=>W.ownsRow W2.heap.size 5 1 u 64 ((qQ 8 R 8).map qp)) (x 4) W at e4
 refine qw ?_;simp only[QG,Act.put,Ls];have a6:=aU.out.trans (S.mono ao);have E4:=hid (ownsRow_le e4 ao);clear aD aI e4 S O;go_wp2
 go_ret
 exact⟨_,rfl,E4.out,a6⟩
theorem qhO (h0 I:List Int)(node:Bool)(hh:Words 32 8 h0)(hm: ∀z∈I,0<=z/\z<=255)(p:Nat)(hv:Value)(w:World)(hE:Q6 false w p hv h0 I)(aM:(I.length:Int)<=281474976710656):
  Calls Tryz.prog 269 #[.pointer (some ⟨p,0,none⟩),.bool node] w fun e w'=> ∃v,e= .returned v/\w'.ownsRow w.heap.size 5 1 v 32 ((Zc false h0 I node).map qp)/\Below w.heap.size w w':=by
 have bb:p<w.heap.size:=(Ai hE.1).1;obtain⟨ad,aa⟩:=hE;have al:=qac (zb false) I;have aE:=jI (zb false) I;have ai:=zV (n:=bB false) hm;have ag:=Yr false hh I (nbk (bB false) I.length);have az:=qaP (zb false) I;have ar:Zc false h0 I node=qQ 4 (yR false (stZ false h0 I (nbk (bB false) I.length)) (QI 64 (yq (bB false) I)) ((bB false*nbk (bB false) I.length+(yq (bB false) I).length:Nat):Int) true node) 8:=by rw[al];unfold Zc;rw[az];rfl
 simp only[cond]at ad;rw[ar];clear ar az hh;generalize stZ false h0 I (nbk (bB false) I.length)=H1 at*;generalize bB false*nbk (bB false) I.length=ah at*;generalize yq (bB false) I=X at*;have ap:X.length<=64:=aE;clear hm aE;obtain⟨a1,n1,c1,rfl⟩:=qr aa;obtain rfl:n1=X.length:=yJ aa;have aG:=Qf aa ai;obtain⟨Z,aB⟩:=Ex (ah+X.length);have aj:=qel ah X.length (by omega);have aw:(Z:Int)<9223372036854775808:=by omega
 have bl:=hid aw;rw[aB]at aj⊢;have ak:=yy (n:=64) ai;have au:=QP (n:=64) ap;have aq:=j6 X (.slice a1 X.length c1) 64;obtain⟨PZ,ay⟩:=Ex (QI 64 X);rw[ay]at ak au aq⊢;have am:=Q1 false ag PZ (Z:Nat) true node;have aC:=qdl H1 PZ ag;obtain⟨R,U⟩:=Ex (yR false H1 PZ (Z:Nat) true node);have af:=fun(v:Value) (W:World) (h8:Holds8 W v PZ)=>aC v Z aw true node W h8 ak au
 rw[U]at am⊢;simp only[U]at af;have a8:=hid aj;have aV:=hid aq;have aN:=hid af;have aJ:=hid ag;have a4:=hid am;have ae:=hid ad;have aT:=hid aG;clear aj aq aC af ag am ad aG aa al aB ay U ak au ai aw aM;have bd:(X.length:Int)<=64:=by omega
 go_enter Tryz.func269,Tryz.ntmps269
 go_upto_region 1 with(fail)
 refine yt (fun _ W=>Below w.heap.size w W) 15 [.z 8 p 0,.z 9 p 0,.z 10 p 8,.v 11 (.agg #[.int .u64 ah,.int .u64 0]),.z 12 p 0,.z 13 p 0,.z 14 p 10,.v 15 (.slice a1 X.length c1),.v 16 (.int .i64 (X.length:Nat)),.v 17 (.int .u64 (X.length:Nat)),.v 18 (.tuple #[.agg #[.int .u64 Z,.int .u64 0],.bool false]),.v 7 (.tuple #[.agg #[.int .u64 Z,.int .u64 0],.bool false]),.v 19 (.agg #[.int .u64 Z,.int .u64 0]),.v 20 (.bool false),.p 5 (fun u W=> ∃J,u= .pointer (some ⟨J,0,none⟩)/\w.heap.size<=J/\ ∃c,W.heap[J]? =some (.cells c 285 (0,0))/\c.size=2),.f none [5] (fun vs W=> ∃J,vs=[.pointer (some ⟨J,0,none⟩)]/\w.heap.size<=J/\W.heap[J]? =some (.cells #[.int .u64 Z,.int .u64 0] 285 (0,0))),.v 6 (.bool false)] (by exact⟨(fun _ _ V _ h=>by obtain⟨J,e,h3,c,h4,h5⟩:=h;exact⟨J,e,h3,c,qf h4 V,h5⟩),(fun _ _ V _ h=>by obtain⟨J,e,h3,h4⟩:=h;exact⟨J,e,h3,qf h4 V⟩),trivial⟩) Br.drew (fun _ _ _ h V=>h.trans (V.mono h.size)) ?_ ?_ ?_
 ·repeat' (with_reducible first|exact qz|refine qx ?_ ?_)
  all_goals try
   refine .inr ?_;intro A x W f r U hf o D K G;have a0:=r.2 0 (by decide);conv at a0=>rhs;whnf
   simp only[QS,yc]at D;clear o r;first
   | go_simp
     exact G _ _ BR rfl
   | have y0:IntKind.u64.wrap (X.length:Int)=(X.length:Int):=u64_wrap_id _ (by omega) (by omega)
     go_simp
     exact G _ _ BR rfl
  any_goals exact .inl rfl
  all_goals refine .inr ?_
  ·intro A x W f r U hf o _ K G;have aP:=gw r o 2 10;clear o r;have Y:=qf ae.out U;refine Qt 285 _ rfl p 8 aP 295 _ #[.int .u64 ah,.int .u64 0] (0,0) _ Y Tryz.underlying285 rfl (by kernel_rfl) (qee _ _ _) (G _ _ Br rfl)
  ·intro A x W f r U hf o _ K G;have bq:=gw r o 6 14;clear o r;have Y:=qf ae.out U;have c0:W.cell? ⟨p,10,none⟩=some (.slice a1 X.length c1):=qd Y 10;go_simp
   exact G _ _ BR rfl
  ·intro A x W f r U hf o _ K G;have bk:=gw r o 3 11;have be:=gw r o 9 17;clear o r;go_simp
   refine(a8.out _).mono ?_;rintro e w' ⟨rfl,V⟩;exact G _ _ V rfl
  ·intro A x W f r U hf o _ K G;clear o r;go_simp
   exact G _ _ (Br.alloc Nl _) ⟨W.heap.size,rfl,U.size,_,Wn W _,rfl⟩
 ·intro A x W r U o K G;have g5:(fun u W=> ∃J,u= .pointer (some ⟨J,0,none⟩)/\w.heap.size<=J/\ ∃c,W.heap[J]? =some (.cells c 285 (0,0))/\c.size=2) (x 5) W:=o ⟨14,.data⟩ (by simp) rfl;have a5:A.tmps.getD 5 undef=x 5:=r.1 5 (by decide);have aQ:=gw r o 12 19;clear o r;obtain⟨J,e5,aH,c,ax,a7⟩:=g5;refine wp_store_row 285 _ _ rfl J #[.int .u64 Z,.int .u64 0] (a5.trans e5) aQ 285 c ax (by kernel_rfl) (by rw[a7];rfl) (by simp[Value.oneCell']) ?_;have a3:Below w.heap.size w (W.setRow J #[.int .u64 Z,.int .u64 0]):=below_setRow U aH _;refine G _ _ (fun _=>rfl) a3 ⟨.inr (fun _ h=>h),.inr (fun _ h=>h),.inr (fun _ h=>h),.inr (fun _ h=>h),.inr (fun _ h=>h),.inr (fun _ h=>h),.inr (fun _ h=>h),.inr (fun _ h=>h),.inr (fun _ h=>h),.inr (fun _ h=>h),.inr (fun _ h=>h),.inr (fun _ h=>h),.inr (fun _ h=>h),.inr (fun _ h=>h),.inr (fun u h=>?_),.inl rfl,.inr (fun _ h=>h),trivial⟩ ⟨J,by simp[e5],aH,setRow_heap _ _ _ _ _ _ ax⟩;obtain⟨q,e,q1,c',q2,q3⟩:=h;refine⟨q,e,q1,?_⟩;by_cases hq:q=J
  ·subst hq;exact⟨_,setRow_heap _ _ _ _ _ _ ax,rfl⟩
  ·exact⟨c',(setRow_other _ _ _ _ hq).trans q2,q3⟩
 intro x W U ac;obtain⟨e5,aL, -⟩:=ac;change (fun u W=> ∃J,u= .pointer (some ⟨J,0,none⟩)/\w.heap.size<=J/\ ∃c,W.heap[J]? =some (.cells c 285 (0,0))/\c.size=2) (x 5) W at e5
 obtain⟨pc,e5,aO, -⟩:=e5;obtain⟨bs,aF,aK,an⟩:=aL;simp only[List.map_cons,List.map_nil,e5,List.cons.injEq,Value.pointer.injEq,Option.some.injEq,Addr.mk.injEq,and_true]at aF;obtain rfl:=aF;simp only[QG,Act.put,Ls,e5];clear e5;have av:=qf ae.out U;have aA:=aT.out.below U;have ab:=hid av;have aW:=hid aA;have aX:=hid an;have aU:=hid U;have ba:p<W.heap.size:=(Ai av).1;have a9:pc<W.heap.size:=(Ai an).1;have ao:w.heap.size<=W.heap.size:=U.size;clear av aA an U x aO aK;generalize W=W2 at*;go_upto_region 2 with(fail)
 refine qE (n:=26) (w0:=W2) (B:=W2.heap.size) [.z 21 p 0,.z 22 p 0,.z 23 p 13,.v 24 (.func (.func 193) #[] #[]),.z 25 p 0,.z 26 p 0,.z 27 p 12,.v 28 (.func (.func 192) #[] #[]),.z 29 p 0,.z 30 p 0,.z 31 p 0,.v 32 (.agg (qj .u32 H1)),.z 33 p 0,.z 34 p 0,.z 35 p 10,.v 36 (.slice a1 X.length c1),.z 37 p 0,.z 38 p 0,.z 39 p 11,.v 40 (.int .i64 64),.p 41 (fun u W=>W.ownsRow W2.heap.size 5 1 u 64 (PZ.map qp)),.v 42 (.agg #[.int .u64 Z,.int .u64 0]),.v 43 (.bool node),.v 44 (.agg (qj .u32 R)),.p 45 (fun u W=>W.ownsRow W2.heap.size 5 1 u 32 ((qQ 4 R 8).map qp)),.p 4 (fun u W=>W.ownsRow W2.heap.size 5 1 u 32 ((qQ 4 R 8).map qp))] (by exact⟨(fun _ _ _ h V=>qi h (fun g _ hg=>V.block g hg)),(fun _ _ _ h V=>qi h (fun g _ hg=>V.block g hg)),(fun _ _ _ h V=>qi h (fun g _ hg=>V.block g hg)),trivial⟩) Br.drew Nl ?_ ?_
 ·repeat' (with_reducible first|exact qz|refine qx ?_ ?_)
  all_goals try
   intro A x W r S O o D K G;have a0:=r.2 0 (by decide);conv at a0=>rhs;whnf
   have a1:=r.2 1 (by decide);conv at a1=>rhs;whnf
   simp only[QS,yc]at D;clear o r;go_simp
   exact G _ _ BR rfl
  ·intro A x W r S O o _ K G;have bo:=gv r o 2 23;clear o r;have Y:=qf ab.out S;have c0:W.cell? ⟨p,13,none⟩=some (.func (.func 193) #[] #[]):=qd Y 13;go_simp
   exact G _ _ BR rfl
  ·intro A x W r S O o _ K G;have bn:=gv r o 6 27;clear o r;have Y:=qf ab.out S;have c0:W.cell? ⟨p,12,none⟩=some (.func (.func 192) #[] #[]):=qd Y 12;go_simp
   exact G _ _ BR rfl
  ·intro A x W r S O o _ K G;have aR:=gv r o 10 31;clear o r;have Y:=qf ab.out S;refine Qt 288 _ rfl p 0 aR 295 _ (qj .u32 H1) (0,0) _ Y Tryz.underlying288 rfl (by rw[qg,aJ.out.1];kernel_rfl) (qi8 aJ.out _ _) (G _ _ Br rfl)
  ·intro A x W r S O o _ K G;have bg:=gv r o 14 35;clear o r;have Y:=qf ab.out S;have c0:W.cell? ⟨p,10,none⟩=some (.slice a1 X.length c1):=qd Y 10;go_simp
   exact G _ _ BR rfl
  ·intro A x W r S O o _ K G;have bu:=gv r o 18 39;clear o r;have Y:=qf ab.out S;have c0:W.cell? ⟨p,11,none⟩=some (.int .i64 64):=qd Y 11;go_simp
   exact G _ _ BR rfl
  ·intro A x W r S O o _ K G;have bf:=gv r o 15 36;have bh:=gv r o 19 40;clear o r;go_simp
   refine(aV.out _ (aW.out.below S) ap (by decide)).mono ?_;rintro e w' ⟨u,rfl,ho,V⟩;exact G _ _ V (ownsRow_le ho O)
  ·intro A x W r S O o _ K G;have a5:=r.2 5 (by decide);conv at a5=>rhs;whnf
   clear o r;have Y:=qf aX.out S;refine wp_load_row 285 _ rfl pc a5 _ _ _ _ Y Tryz.underlying285 rfl (by kernel_rfl) (G _ _ Br rfl)
  ·intro A x W r S O o _ K G;have bj:=gv r o 7 28;have bm:=gv r o 11 32;have aZ:(fun u W=>W.ownsRow W2.heap.size 5 1 u 64 (PZ.map qp)) (x 41) W:=o ⟨20,.data⟩ (by simp) rfl _ rfl;have br:A.tmps.getD 41 undef=x 41:=r.1 41 (by decide);have bt:=gv r o 21 42;have bc:=gv r o 22 43;clear o r;go_simp
   refine(aN.out _ _ (yj aZ)).mono ?_;rintro e w' ⟨rfl,V⟩;exact G _ _ V rfl
  ·intro A x W r S O o _ K G;have bp:=gv r o 3 24;have bi:=gv r o 23 44;clear o r;go_simp
   refine(qgS R a4.out _).mono ?_;rintro e w' ⟨u,rfl,ho,V⟩;exact G _ _ V (ownsRow_le ho O)
  ·intro A x W r S O o _ K G;have aS:(fun u W=>W.ownsRow W2.heap.size 5 1 u 32 ((qQ 4 R 8).map qp)) (x 45) W:=o ⟨24,.data⟩ (by simp) rfl _ rfl;have aY:A.tmps.getD 45 undef=x 45:=r.1 45 (by decide);clear o r;go_simp
   exact G _ _ Br (aY▸aS)
 intro x W S O ac;obtain⟨aD,aI,e4, -⟩:=ac;change (fun u W=>W.ownsRow W2.heap.size 5 1 u 64 (PZ.map qp)) (x 41) W at aD
 change (fun u W=>W.ownsRow W2.heap.size 5 1 u 32 ((qQ 4 R 8).map qp)) (x 45) W at aI
 change (fun u W=>W.ownsRow W2.heap.size 5 1 u 32 ((qQ 4 R 8).map qp)) (x 4) W at e4
 refine qw ?_;simp only[QG,Act.put,Ls];have a6:=aU.out.trans (S.mono ao);have E4:=hid (ownsRow_le e4 ao);clear aD aI e4 S O;go_wp2
 go_ret
 exact⟨_,rfl,E4.out,a6⟩
def yz (kind dg:Int)(bv kv:Value)(last:Bool)(wr:Int)(e:Value):Array Value:= #[.int .i64 kind,.int .i64 dg,bv,kv,.bool last,.int .u64 wr,e]
def phT (big:Bool):TypeId:=cond big 281 291
theorem Hold.of_len {w:World}(h:Hold w (.slice a n c) zs):n=zs.length:=by
 obtain⟨q,o,e, -⟩:=h.slice;simp only[Value.slice.injEq]at e;exact e.2.1
theorem Y7 {w:World}{b:Nat}(h:Hold w v zs)(o:zs≠[])(r:v.ownBlock=some b):b<w.heap.size:=by
 rcases h.2 with⟨D, -⟩|⟨I,G,rfl, -, -,q⟩
 ·exact absurd D o
 ·obtain⟨b',off,rfl,q, -⟩:=q.resolve_left o;simp only[Value.ownBlock,Option.some.injEq]at r;subst r;exact q
theorem qiU (h:W.heap[q]? =some (.cells (yz o G r D la wr e) T (0,0))):(W.setCell ⟨q,6,none⟩ v).heap[q]? =some (.cells (yz o G r D la wr v) T (0,0)):=heap_setCell_same W q 6 _ _ v h
theorem j9 {b:Bool}(h:W.heap[q]? =some (.cells (yz o G r D la wr e) T (0,0))):(W.setCell ⟨q,4,none⟩ (.bool b)).heap[q]? =some (.cells (yz o G r D b wr e) T (0,0)):=heap_setCell_same W q 4 _ _ _ h
theorem qhb {x:Int}(h:W.heap[q]? =some (.cells (yz o G r D la wr e) T (0,0))):(W.setCell ⟨q,5,none⟩ (.int .u64 x)).heap[q]? =some (.cells (yz o G r D la x e) T (0,0)):=heap_setCell_same W q 5 _ _ _ h
theorem qbC {o:List Int}(h:W.heap[p]? =some (.cells (cond big Zg Zf o 0 (.slice none 0 0)) (cond big 287 295) (0,0))):Q6 big W p (.slice none 0 0) o []:=by
 have e:yq (bB big) []=[]:=by simp[yq]
 refine⟨?_,by rw[e];exact Wo _ _ _ _⟩;simpa [qfa,stZ] using h
theorem Yb {q o:List Int}(h:Q6 big W p D q o)(r:Below W.heap.size W W'):Q6 big W' p D q o:=
 ⟨qf h.1 r,qi h.2 (fun g _ G=>r.block g G)⟩
theorem qb8 {b:Nat}{e:TypeId}(h:W.ownsRow B e 1 v n xs)(o:v.ownBlock=some b):B<=b:=by
 rcases h.2 with⟨rfl, -⟩|⟨g,r,q,rfl,D, -⟩
 ·cases o
 ·simp only[Value.ownBlock,Option.some.injEq]at o;omega
theorem YS {P:Program}{o:Oper}{a:Act}{K:Act->World->Prop}{Q:Exit->Act->World->Prop}{x:Value}{q:String}{f:FuncId}{g:FuncId×Value->World->Result Next}(r:(method n T x q).run P W= .ok (f,x) W)(h:Oper.upon P o a K Q (g (f,x) W)):Oper.upon P o a K Q (((method n T x q).run P W).andThen g):=by
 rw[r];exact h
theorem qgW (Y kz:List Int)(q:Nat)(dg wr:Int)(la:Bool)(bv kv e0:Value)(w:World)(ai:w.heap[q]? =some (.cells (yz 1 dg bv kv la wr e0) 187 (0,0)))(hB:Hold w bv Y)(G:Hold w kv kz)(hl:Y.length=64)(aV:kz.length<=64)(ao:kv.ownBlock≠some q):
  Calls Tryz.prog 139 #[.pointer (some ⟨q,0,none⟩)] w fun e w'=>e= .returned (.tuple #[])/\(∃p hv,w.heap.size<=p/\w'.heap[q]? =some (.cells (yz 1 dg bv kv false 0 (.iface 281 (.pointer (some ⟨p,0,none⟩)))) 187 (0,0))/\Q6 true w' p hv (h0Z true Y) (yH 128 kz)/\(∀g,hv.ownBlock=some g->w.heap.size<=g))/\Spare (fun k=>k≠q) w w':=by
 have a5:q<w.heap.size:=(Ai ai).1;obtain⟨kn,kc,ka,rfl⟩: ∃n c a,kv= .slice a n c:=by obtain⟨a,c,e, -⟩:=G.slice;exact⟨_,_,_,e⟩
 obtain rfl:kn=kz.length:=G.of_len;have aj:=hid ai;have HB:=hid hB;have HK:=hid G;have HL:=hid hl;have aN:=hid ao;clear ai hB G hl ao;go_enter Tryz.func139,Tryz.ntmps139
 go_upto_region 0 with(fail)
 refine qE (n:=10) (w0:=w) (B:=w.heap.size) [.z 2 q 0,.z 3 q 0,.z 4 q 0,.z 5 q 0,.v 6 (.int .i64 1),.z 7 q 0,.z 8 q 0,.z 9 q 2,.v 10 bv,.p 11 (fun u W=> ∃p,u= .iface 281 (.pointer (some ⟨p,0,none⟩))/\w.heap.size<=p/\W.heap[p]? =some (.cells (Zg (h0Z true Y) 0 (.slice none 0 0)) 287 (0,0)))] (by exact⟨(fun _ _ _ h O=>by obtain⟨p,e,h3,h4⟩:=h;exact⟨p,e,h3,qf h4 O⟩),trivial⟩) Br.drew Nl ?_ ?_
 ·repeat' (with_reducible first|exact qz|refine qx ?_ ?_)
  all_goals try
   intro A x W r hW ab o D K G;have a0:=r.2 0 (by decide);conv at a0=>rhs;whnf
   simp only[QS,yc]at D;clear o r;go_simp
   exact G _ _ BR rfl
  ·intro A x W r hW ab o _ K G;have g5:=gv r o 3 5;clear o r;have g0:=qf aj.out hW;have c0:W.cell? ⟨q,0,none⟩=some (.int .i64 1):=qd g0 0;go_simp
   exact G _ _ BR rfl
  ·intro A x W r hW ab o _ K G;have g9:=gv r o 7 9;clear o r;have g0:=qf aj.out hW;have c0:W.cell? ⟨q,2,none⟩=some bv:=qd g0 2;go_simp
   exact G _ _ BR rfl
  ·intro A x W r hW ab o _ K G;have g6:=gv r o 4 6;have aS:=gv r o 8 10;clear o r;go_simp
   refine(qgV Y bv _ (HB.out.holds8.mono_below hW Nl) HB.out.1 HL.out).mono ?_;rintro e w' ⟨p,rfl,h1,h2,O⟩;exact G _ _ O ⟨p,rfl,Nat.le_trans ab h1,h2⟩
 intro x W hW ab ah;obtain⟨ag, -⟩:=ah;change (fun u W=> ∃p,u= .iface 281 (.pointer (some ⟨p,0,none⟩))/\w.heap.size<=p/\W.heap[p]? =some (.cells (Zg (h0Z true Y) 0 (.slice none 0 0)) 287 (0,0))) (x 11) W at ag
 obtain⟨p,ag,av,aw⟩:=ag;refine qt ?_;simp only[QG,Act.put,Ls,ag];clear ag;have ad:=qf aj.out hW;have aB:=hid aw;have az:=hid ad;have HW:=hid hW;have aC:q<W.heap.size:=(Ai ad).1;have c6:W.cell? ⟨q,6,none⟩=some e0:=qd ad 6;have f6:=frozen_of_row W q 6 _ _ ad;clear aw ad hW ab x;go_wp2_with fail
 refine qt ?_;go_wp2_with fail
 refine qt ?_;go_wp2_with fail
 refine qw ?_;have J:=qiU (v:= .iface 281 (.pointer (some ⟨p,0,none⟩))) az.out;have V:Spare (fun k=>k≠q) w (W.setCell ⟨q,6,none⟩ (.iface 281 (.pointer (some ⟨p,0,none⟩)))):=(Spare.of_below _ HW.out).trans (Spare.of_but ((But.refl q W).set 6 _)) (fun _ _ h=>h);have X:(W.setCell ⟨q,6,none⟩ (.iface 281 (.pointer (some ⟨p,0,none⟩)))).heap[p]? =some (.cells (Zg (h0Z true Y) 0 (.slice none 0 0)) 287 (0,0)):=(heap_setCell_other W _ _ _ (by show p≠q;omega)).trans aB.out;generalize W.setCell ⟨q,6,none⟩ (.iface 281 (.pointer (some ⟨p,0,none⟩)))=I at*;clear HW az aB c6 f6 aC W;have c4:I.cell? ⟨q,4,none⟩=some (.bool la):=qd J 4;have f4:=frozen_of_row I q 4 _ _ J;have ac:q<I.heap.size:=(Ai J).1;have Z:=hid J;have U:=hid V;have aa:=hid X;clear J V X;go_upto_region 2 with(fail)
 have J:=j9 (b:=false) Z.out;have V:Spare (fun k=>k≠q) w (I.setCell ⟨q,4,none⟩ (.bool false)):=U.out.trans (Spare.of_but ((But.refl q I).set 4 _)) (fun _ _ h=>h);have X:(I.setCell ⟨q,4,none⟩ (.bool false)).heap[p]? =some (.cells (Zg (h0Z true Y) 0 (.slice none 0 0)) 287 (0,0)):=(heap_setCell_other I _ _ _ (by show p≠q;omega)).trans aa.out;generalize I.setCell ⟨q,4,none⟩ (.bool false)=A1 at*;clear U Z aa c4 f4 ac I;obtain⟨I,rfl⟩:=Ex A1;have Z:=hid J;have U:=hid V;have aa:=hid X;have ac:q<A1.heap.size:=(Ai J).1;have c5:A1.cell? ⟨q,5,none⟩=some (.int .u64 wr):=qd J 5;have f5:=frozen_of_row A1 q 5 _ _ J;clear J V X;go_upto_region 3 with(fail)
 have J:=qhb (x:=0) Z.out;have V:Spare (fun k=>k≠q) w (A1.setCell ⟨q,5,none⟩ (.int .u64 0)):=U.out.trans (Spare.of_but ((But.refl q A1).set 5 _)) (fun _ _ h=>h);have X:(A1.setCell ⟨q,5,none⟩ (.int .u64 0)).heap[p]? =some (.cells (Zg (h0Z true Y) 0 (.slice none 0 0)) 287 (0,0)):=(heap_setCell_other A1 _ _ _ (by show p≠q;omega)).trans aa.out;have aL:w.heap.size<=(A1.setCell ⟨q,5,none⟩ (.int .u64 0)).heap.size:=V.size;generalize A1.setCell ⟨q,5,none⟩ (.int .u64 0)=I at*;clear U Z aa c5 f5 ac A1;have c3:I.cell? ⟨q,3,none⟩=some (.slice ka kz.length kc):=qd J 3;have ac:q<I.heap.size:=(Ai J).1;have aQ:p<I.heap.size:=(Ai X).1;have Z:=hid J;have U:=hid V;have aa:=hid X;clear J V X;by_cases ak:kz.length=0
 case pos=>
  obtain rfl:kz=[]:=List.eq_nil_of_length_eq_zero ak;go_wp2
  go_end0
  exact⟨rfl,⟨p,.slice none 0 0,av,Z.out,qbC aa.out,fun g h=>by cases h⟩,U.out⟩
 have an:0<kz.length:=by omega
 have aX:(kz.length:Int)<=64:=by omega
 go_upto_region 4 with(fail)
 have ar:Hold I (.slice ka kz.length kc) kz:=HK.out.keep U.out.size fun b O al=>U.out.block b al (fun e=>aN.out (by rw[O,e]))
 have aK:=hid ar;have am:=QP (n:=128) (zs:=kz) (by omega);have aH:=hid am;have aO:=hid ak;clear ar am ak c3;have aJ:(Value.slice ka kz.length kc).ownBlock≠some p:=fun e=>by have:=Y7 HK.out (fun e=>by rw[e]at an;simp at an) e;omega
 refine yt (fun f W=>W.heap[q]? =some (.cells (yz 1 dg bv (.slice ka kz.length kc) false 0 (.iface 281 (.pointer (some ⟨p,0,none⟩)))) 187 (0,0))/\(f=false->Below I.heap.size I W)/\(I.heap.size<=W.heap.size/\(∀b,b<I.heap.size->b≠p->W.heap[b]? =I.heap[b]?))/\(f=true->Spare (fun k=>k≠p) I W/\ ∃hv,Q6 true W p hv (h0Z true Y) (QI 128 kz)/\ ∀g,hv.ownBlock=some g->I.heap.size<=g)) 16 [.z 26 q 0,.z 27 q 0,.z 28 q 6,.v 29 (.iface 281 (.pointer (some ⟨p,0,none⟩))),.z 30 q 0,.z 31 q 0,.z 32 q 3,.v 33 (.slice ka kz.length kc),.z 34 q 0,.z 35 q 0,.z 36 q 0,.v 37 (.int .i64 1),.v 38 (.int .i64 128),.p 39 (fun u W=>W.ownsRow I.heap.size 5 1 u 128 ((QI 128 kz).map qp)),.v 40 (.iface 281 (.pointer (some ⟨p,0,none⟩))),.v 41 (.iface 281 (.pointer (some ⟨p,0,none⟩))),.p 42 (fun _ _=>True)] (by exact⟨(fun _ _ O _ h=>qi h (fun g _ hg=>O.block g hg)),kW,trivial⟩) ⟨Z.out,fun _=>Br.drew,⟨Nat.le_refl _,fun _ _ _=>rfl⟩,fun h=>(by cases h)⟩ (fun f W W' h O=>⟨qf h.1 O,fun e=>(h.2.1 e).trans (O.mono (h.2.1 e).size),⟨Nat.le_trans h.2.2.1.1 O.size,fun b h1 h2=>(O.block b (Nat.lt_of_lt_of_le h1 h.2.2.1.1)).trans (h.2.2.1.2 b h1 h2)⟩,fun e=>by obtain⟨h1,hv,h2,h3⟩:=h.2.2.2 e;exact⟨h1.trans (Spare.of_below _ O) (fun _ _ h=>h),hv,Yb h2 O,h3⟩⟩) ?_ ?_ ?_
 ·repeat' (with_reducible first|exact qz|refine qx ?_ ?_)
  all_goals try
   refine .inr ?_;intro A x W f r S hf o D K G;have a0:=r.2 0 (by decide);conv at a0=>rhs;whnf
   simp only[QS,yc]at D;clear o r;go_simp
   exact G _ _ BR rfl
  any_goals exact .inl rfl
  all_goals refine .inr ?_
  ·intro A x W f r S hf o _ K G;have aU:=gw r o 2 28;clear o r;have g0:=S.1;have c0:W.cell? ⟨q,6,none⟩=some (.iface 281 (.pointer (some ⟨p,0,none⟩))):=qd g0 6;go_simp
   exact G _ _ BR rfl
  ·intro A x W f r S hf o _ K G;have aY:=gw r o 6 32;clear o r;have g0:=S.1;have c0:W.cell? ⟨q,3,none⟩=some (.slice ka kz.length kc):=qd g0 3;go_simp
   exact G _ _ BR rfl
  ·intro A x W f r S hf o _ K G;have aT:=gw r o 10 36;clear o r;have g0:=S.1;have c0:W.cell? ⟨q,0,none⟩=some (.int .i64 1):=qd g0 0;go_simp
   exact G _ _ BR rfl
  ·intro A x W f r S hf o _ K G;have aW:=gw r o 11 37;clear o r;go_simp
   refine(Z4 true _).mono ?_;rintro e w' ⟨rfl,hw⟩;exact G _ _ (by rw[hw];exact Below.refl _ _) rfl
  ·intro A x W f r S hf o _ K G;have aZ:=gw r o 7 33;have a3:=gw r o 12 38;clear o r;go_simp
   have aP:Hold W (.slice ka kz.length kc) kz:=aK.out.keep S.2.2.1.1 (fun b O al=>S.2.2.1.2 b al (fun e=>aJ (by rw[O,e])));refine(j6 kz _ 128 _ aP (by omega) (by decide)).mono ?_;rintro e w' ⟨u,rfl,ho,O⟩;exact G _ _ O (ownsRow_le ho S.2.2.1.1)
 ·intro A x W r S o K G;have a4:=gw r o 15 41;have ax:(fun u W=>W.ownsRow I.heap.size 5 1 u 128 ((QI 128 kz).map qp)) (x 39) W:=o ⟨13,.data⟩ (by simp) rfl;have aR:A.tmps.getD 39 undef=x 39:=r.1 39 (by decide);clear o r;have hB:=S.2.1 rfl;go_simp
  refine YS (f:=265) (by kernel_rfl) ?_;go_simp
  have aM:=yy (n:=128) HK.out.1;have aD:Hold W (x 39) (QI 128 kz):=Qf ax aM;refine(qbE (h0Z true Y) [] (QI 128 kz) (Q4 true Y) (fun _ h=>by cases h) p (.slice none 0 0) (x 39) W (qbC (qf aa.out hB)) aD (fun _ b O=>⟨fun e=>by have:=qb8 ax O;omega,fun e=>by cases e⟩) (by rw[aH.out];simp)).mono ?_;rintro e w' ⟨rfl,⟨aE,aG,ae⟩,af⟩
  refine G _ _ (fun h=>by cases h) ⟨(af.block q (Ai S.1).1 ⟨by omega,fun e=>by cases e⟩).trans S.1,fun h=>(by cases h),⟨Nat.le_trans S.2.2.1.1 af.size,fun b h1 h2=>(af.block b (Nat.lt_of_lt_of_le h1 S.2.2.1.1) ⟨h2,fun e=>by cases e⟩).trans (S.2.2.1.2 b h1 h2)⟩,fun _=>⟨(Spare.of_below _ hB).trans af (fun b _ h=>⟨h,fun e=>by cases e⟩),aE,aG,fun g hg=>?_⟩⟩ ⟨.inr (fun _ h=>h),.inr (fun _ h=>h),.inr (fun _ h=>h),.inr (fun _ h=>h),.inr (fun _ h=>h),.inr (fun _ h=>h),.inr (fun _ h=>h),.inr (fun _ h=>h),.inr (fun _ h=>h),.inr (fun _ h=>h),.inr (fun _ h=>h),.inr (fun _ h=>h),.inr (fun _ h=>h),.inr (fun u h=>qi h (fun g h1 h2=>af.block g h2 ⟨by omega,fun e=>by cases e⟩)),.inr (fun _ h=>h),.inr (fun _ h=>h),.inl rfl,trivial⟩ trivial;rcases ae with ae|ae
  ·rw[ae]at hg;cases hg
  ·have:=ae g hg;have:=hB.size;omega
 intro x W S ah;obtain⟨aA,aF, -⟩:=ah;change (fun u W=>W.ownsRow I.heap.size 5 1 u 128 ((QI 128 kz).map qp)) (x 39) W at aA
 change ((fun _ _=>True)) (x 42) W at aF
 simp only[QG,Act.put,Ls];obtain⟨aq, -, -,h9⟩:=S;obtain⟨ay,aI,ap,au⟩:=h9 rfl;have H9:=hid (show(∃p hv,w.heap.size<=p/\W.heap[q]? =some (.cells (yz 1 dg bv (.slice ka kz.length kc) false 0 (.iface 281 (.pointer (some ⟨p,0,none⟩)))) 187 (0,0))/\Q6 true W p hv (h0Z true Y) (yH 128 kz)/\(∀g,hv.ownBlock=some g->w.heap.size<=g))/\Spare (fun k=>k≠q) w W from⟨⟨p,aI,av,aq,by unfold yH;rw[if_neg aO.out];exact ap,fun g hg=>Nat.le_trans aL (au g hg)⟩,U.out.trans ay (fun b O _=>by omega)⟩);clear aq ay ap au h9 aA;go_wp2
 go_end0
 exact⟨rfl,H9.out⟩
theorem qfF (Y kz:List Int)(q:Nat)(dg wr:Int)(la:Bool)(bv kv e0:Value)(w:World)(ai:w.heap[q]? =some (.cells (yz 2 dg bv kv la wr e0) 187 (0,0)))(hB:Hold w bv Y)(G:Hold w kv kz)(hl:Y.length=32)(aV:kz.length<=32)(ao:kv.ownBlock≠some q):
  Calls Tryz.prog 139 #[.pointer (some ⟨q,0,none⟩)] w fun e w'=>e= .returned (.tuple #[])/\(∃p hv,w.heap.size<=p/\w'.heap[q]? =some (.cells (yz 2 dg bv kv false 0 (.iface 291 (.pointer (some ⟨p,0,none⟩)))) 187 (0,0))/\Q6 false w' p hv (h0Z false Y) (yH 64 kz)/\(∀g,hv.ownBlock=some g->w.heap.size<=g))/\Spare (fun k=>k≠q) w w':=by
 have a5:q<w.heap.size:=(Ai ai).1;obtain⟨kn,kc,ka,rfl⟩: ∃n c a,kv= .slice a n c:=by obtain⟨a,c,e, -⟩:=G.slice;exact⟨_,_,_,e⟩
 obtain rfl:kn=kz.length:=G.of_len;have aj:=hid ai;have HB:=hid hB;have HK:=hid G;have HL:=hid hl;have aN:=hid ao;clear ai hB G hl ao;go_enter Tryz.func139,Tryz.ntmps139
 go_upto_region 0 with(fail)
 refine qE (n:=10) (w0:=w) (B:=w.heap.size) [.z 2 q 0,.z 3 q 0,.z 4 q 0,.z 5 q 0,.v 6 (.int .i64 2),.z 7 q 0,.z 8 q 0,.z 9 q 2,.v 10 bv,.p 11 (fun u W=> ∃p,u= .iface 291 (.pointer (some ⟨p,0,none⟩))/\w.heap.size<=p/\W.heap[p]? =some (.cells (Zf (h0Z false Y) 0 (.slice none 0 0)) 295 (0,0)))] (by exact⟨(fun _ _ _ h O=>by obtain⟨p,e,h3,h4⟩:=h;exact⟨p,e,h3,qf h4 O⟩),trivial⟩) Br.drew Nl ?_ ?_
 ·repeat' (with_reducible first|exact qz|refine qx ?_ ?_)
  all_goals try
   intro A x W r hW ab o D K G;have a0:=r.2 0 (by decide);conv at a0=>rhs;whnf
   simp only[QS,yc]at D;clear o r;go_simp
   exact G _ _ BR rfl
  ·intro A x W r hW ab o _ K G;have g5:=gv r o 3 5;clear o r;have g0:=qf aj.out hW;have c0:W.cell? ⟨q,0,none⟩=some (.int .i64 2):=qd g0 0;go_simp
   exact G _ _ BR rfl
  ·intro A x W r hW ab o _ K G;have g9:=gv r o 7 9;clear o r;have g0:=qf aj.out hW;have c0:W.cell? ⟨q,2,none⟩=some bv:=qd g0 2;go_simp
   exact G _ _ BR rfl
  ·intro A x W r hW ab o _ K G;have g6:=gv r o 4 6;have aS:=gv r o 8 10;clear o r;go_simp
   refine(qfE Y bv _ (HB.out.holds8.mono_below hW Nl) HB.out.1 HL.out).mono ?_;rintro e w' ⟨p,rfl,h1,h2,O⟩;exact G _ _ O ⟨p,rfl,Nat.le_trans ab h1,h2⟩
 intro x W hW ab ah;obtain⟨ag, -⟩:=ah;change (fun u W=> ∃p,u= .iface 291 (.pointer (some ⟨p,0,none⟩))/\w.heap.size<=p/\W.heap[p]? =some (.cells (Zf (h0Z false Y) 0 (.slice none 0 0)) 295 (0,0))) (x 11) W at ag
 obtain⟨p,ag,av,aw⟩:=ag;refine qt ?_;simp only[QG,Act.put,Ls,ag];clear ag;have ad:=qf aj.out hW;have aB:=hid aw;have az:=hid ad;have HW:=hid hW;have aC:q<W.heap.size:=(Ai ad).1;have c6:W.cell? ⟨q,6,none⟩=some e0:=qd ad 6;have f6:=frozen_of_row W q 6 _ _ ad;clear aw ad hW ab x;go_wp2_with fail
 refine qt ?_;go_wp2_with fail
 refine qt ?_;go_wp2_with fail
 refine qw ?_;have J:=qiU (v:= .iface 291 (.pointer (some ⟨p,0,none⟩))) az.out;have V:Spare (fun k=>k≠q) w (W.setCell ⟨q,6,none⟩ (.iface 291 (.pointer (some ⟨p,0,none⟩)))):=(Spare.of_below _ HW.out).trans (Spare.of_but ((But.refl q W).set 6 _)) (fun _ _ h=>h);have X:(W.setCell ⟨q,6,none⟩ (.iface 291 (.pointer (some ⟨p,0,none⟩)))).heap[p]? =some (.cells (Zf (h0Z false Y) 0 (.slice none 0 0)) 295 (0,0)):=(heap_setCell_other W _ _ _ (by show p≠q;omega)).trans aB.out;generalize W.setCell ⟨q,6,none⟩ (.iface 291 (.pointer (some ⟨p,0,none⟩)))=I at*;clear HW az aB c6 f6 aC W;have c4:I.cell? ⟨q,4,none⟩=some (.bool la):=qd J 4;have f4:=frozen_of_row I q 4 _ _ J;have ac:q<I.heap.size:=(Ai J).1;have Z:=hid J;have U:=hid V;have aa:=hid X;clear J V X;go_upto_region 2 with(fail)
 have J:=j9 (b:=false) Z.out;have V:Spare (fun k=>k≠q) w (I.setCell ⟨q,4,none⟩ (.bool false)):=U.out.trans (Spare.of_but ((But.refl q I).set 4 _)) (fun _ _ h=>h);have X:(I.setCell ⟨q,4,none⟩ (.bool false)).heap[p]? =some (.cells (Zf (h0Z false Y) 0 (.slice none 0 0)) 295 (0,0)):=(heap_setCell_other I _ _ _ (by show p≠q;omega)).trans aa.out;generalize I.setCell ⟨q,4,none⟩ (.bool false)=A1 at*;clear U Z aa c4 f4 ac I;obtain⟨I,rfl⟩:=Ex A1;have Z:=hid J;have U:=hid V;have aa:=hid X;have ac:q<A1.heap.size:=(Ai J).1;have c5:A1.cell? ⟨q,5,none⟩=some (.int .u64 wr):=qd J 5;have f5:=frozen_of_row A1 q 5 _ _ J;clear J V X;go_upto_region 3 with(fail)
 have J:=qhb (x:=0) Z.out;have V:Spare (fun k=>k≠q) w (A1.setCell ⟨q,5,none⟩ (.int .u64 0)):=U.out.trans (Spare.of_but ((But.refl q A1).set 5 _)) (fun _ _ h=>h);have X:(A1.setCell ⟨q,5,none⟩ (.int .u64 0)).heap[p]? =some (.cells (Zf (h0Z false Y) 0 (.slice none 0 0)) 295 (0,0)):=(heap_setCell_other A1 _ _ _ (by show p≠q;omega)).trans aa.out;have aL:w.heap.size<=(A1.setCell ⟨q,5,none⟩ (.int .u64 0)).heap.size:=V.size;generalize A1.setCell ⟨q,5,none⟩ (.int .u64 0)=I at*;clear U Z aa c5 f5 ac A1;have c3:I.cell? ⟨q,3,none⟩=some (.slice ka kz.length kc):=qd J 3;have ac:q<I.heap.size:=(Ai J).1;have aQ:p<I.heap.size:=(Ai X).1;have Z:=hid J;have U:=hid V;have aa:=hid X;clear J V X;by_cases ak:kz.length=0
 case pos=>
  obtain rfl:kz=[]:=List.eq_nil_of_length_eq_zero ak;go_wp2
  go_end0
  exact⟨rfl,⟨p,.slice none 0 0,av,Z.out,qbC aa.out,fun g h=>by cases h⟩,U.out⟩
 have an:0<kz.length:=by omega
 have aX:(kz.length:Int)<=32:=by omega
 go_upto_region 4 with(fail)
 have ar:Hold I (.slice ka kz.length kc) kz:=HK.out.keep U.out.size fun b O al=>U.out.block b al (fun e=>aN.out (by rw[O,e]))
 have aK:=hid ar;have am:=QP (n:=64) (zs:=kz) (by omega);have aH:=hid am;have aO:=hid ak;clear ar am ak c3;have aJ:(Value.slice ka kz.length kc).ownBlock≠some p:=fun e=>by have:=Y7 HK.out (fun e=>by rw[e]at an;simp at an) e;omega
 refine yt (fun f W=>W.heap[q]? =some (.cells (yz 2 dg bv (.slice ka kz.length kc) false 0 (.iface 291 (.pointer (some ⟨p,0,none⟩)))) 187 (0,0))/\(f=false->Below I.heap.size I W)/\(I.heap.size<=W.heap.size/\(∀b,b<I.heap.size->b≠p->W.heap[b]? =I.heap[b]?))/\(f=true->Spare (fun k=>k≠p) I W/\ ∃hv,Q6 false W p hv (h0Z false Y) (QI 64 kz)/\ ∀g,hv.ownBlock=some g->I.heap.size<=g)) 16 [.z 26 q 0,.z 27 q 0,.z 28 q 6,.v 29 (.iface 291 (.pointer (some ⟨p,0,none⟩))),.z 30 q 0,.z 31 q 0,.z 32 q 3,.v 33 (.slice ka kz.length kc),.z 34 q 0,.z 35 q 0,.z 36 q 0,.v 37 (.int .i64 2),.v 38 (.int .i64 64),.p 39 (fun u W=>W.ownsRow I.heap.size 5 1 u 64 ((QI 64 kz).map qp)),.v 40 (.iface 291 (.pointer (some ⟨p,0,none⟩))),.v 41 (.iface 291 (.pointer (some ⟨p,0,none⟩))),.p 42 (fun _ _=>True)] (by exact⟨(fun _ _ O _ h=>qi h (fun g _ hg=>O.block g hg)),kW,trivial⟩) ⟨Z.out,fun _=>Br.drew,⟨Nat.le_refl _,fun _ _ _=>rfl⟩,fun h=>(by cases h)⟩ (fun f W W' h O=>⟨qf h.1 O,fun e=>(h.2.1 e).trans (O.mono (h.2.1 e).size),⟨Nat.le_trans h.2.2.1.1 O.size,fun b h1 h2=>(O.block b (Nat.lt_of_lt_of_le h1 h.2.2.1.1)).trans (h.2.2.1.2 b h1 h2)⟩,fun e=>by obtain⟨h1,hv,h2,h3⟩:=h.2.2.2 e;exact⟨h1.trans (Spare.of_below _ O) (fun _ _ h=>h),hv,Yb h2 O,h3⟩⟩) ?_ ?_ ?_
 ·repeat' (with_reducible first|exact qz|refine qx ?_ ?_)
  all_goals try
   refine .inr ?_;intro A x W f r S hf o D K G;have a0:=r.2 0 (by decide);conv at a0=>rhs;whnf
   simp only[QS,yc]at D;clear o r;go_simp
   exact G _ _ BR rfl
  any_goals exact .inl rfl
  all_goals refine .inr ?_
  ·intro A x W f r S hf o _ K G;have aU:=gw r o 2 28;clear o r;have g0:=S.1;have c0:W.cell? ⟨q,6,none⟩=some (.iface 291 (.pointer (some ⟨p,0,none⟩))):=qd g0 6;go_simp
   exact G _ _ BR rfl
  ·intro A x W f r S hf o _ K G;have aY:=gw r o 6 32;clear o r;have g0:=S.1;have c0:W.cell? ⟨q,3,none⟩=some (.slice ka kz.length kc):=qd g0 3;go_simp
   exact G _ _ BR rfl
  ·intro A x W f r S hf o _ K G;have aT:=gw r o 10 36;clear o r;have g0:=S.1;have c0:W.cell? ⟨q,0,none⟩=some (.int .i64 2):=qd g0 0;go_simp
   exact G _ _ BR rfl
  ·intro A x W f r S hf o _ K G;have aW:=gw r o 11 37;clear o r;go_simp
   refine(Z4 false _).mono ?_;rintro e w' ⟨rfl,hw⟩;exact G _ _ (by rw[hw];exact Below.refl _ _) rfl
  ·intro A x W f r S hf o _ K G;have aZ:=gw r o 7 33;have a3:=gw r o 12 38;clear o r;go_simp
   have aP:Hold W (.slice ka kz.length kc) kz:=aK.out.keep S.2.2.1.1 (fun b O al=>S.2.2.1.2 b al (fun e=>aJ (by rw[O,e])));refine(j6 kz _ 64 _ aP (by omega) (by decide)).mono ?_;rintro e w' ⟨u,rfl,ho,O⟩;exact G _ _ O (ownsRow_le ho S.2.2.1.1)
 ·intro A x W r S o K G;have a4:=gw r o 15 41;have ax:(fun u W=>W.ownsRow I.heap.size 5 1 u 64 ((QI 64 kz).map qp)) (x 39) W:=o ⟨13,.data⟩ (by simp) rfl;have aR:A.tmps.getD 39 undef=x 39:=r.1 39 (by decide);clear o r;have hB:=S.2.1 rfl;go_simp
  refine YS (f:=271) (by kernel_rfl) ?_;go_simp
  have aM:=yy (n:=64) HK.out.1;have aD:Hold W (x 39) (QI 64 kz):=Qf ax aM;refine(qaY (h0Z false Y) [] (QI 64 kz) (Q4 false Y) (fun _ h=>by cases h) p (.slice none 0 0) (x 39) W (qbC (qf aa.out hB)) aD (fun _ b O=>⟨fun e=>by have:=qb8 ax O;omega,fun e=>by cases e⟩) (by rw[aH.out];simp)).mono ?_;rintro e w' ⟨rfl,⟨aE,aG,ae⟩,af⟩
  refine G _ _ (fun h=>by cases h) ⟨(af.block q (Ai S.1).1 ⟨by omega,fun e=>by cases e⟩).trans S.1,fun h=>(by cases h),⟨Nat.le_trans S.2.2.1.1 af.size,fun b h1 h2=>(af.block b (Nat.lt_of_lt_of_le h1 S.2.2.1.1) ⟨h2,fun e=>by cases e⟩).trans (S.2.2.1.2 b h1 h2)⟩,fun _=>⟨(Spare.of_below _ hB).trans af (fun b _ h=>⟨h,fun e=>by cases e⟩),aE,aG,fun g hg=>?_⟩⟩ ⟨.inr (fun _ h=>h),.inr (fun _ h=>h),.inr (fun _ h=>h),.inr (fun _ h=>h),.inr (fun _ h=>h),.inr (fun _ h=>h),.inr (fun _ h=>h),.inr (fun _ h=>h),.inr (fun _ h=>h),.inr (fun _ h=>h),.inr (fun _ h=>h),.inr (fun _ h=>h),.inr (fun _ h=>h),.inr (fun u h=>qi h (fun g h1 h2=>af.block g h2 ⟨by omega,fun e=>by cases e⟩)),.inr (fun _ h=>h),.inr (fun _ h=>h),.inl rfl,trivial⟩ trivial;rcases ae with ae|ae
  ·rw[ae]at hg;cases hg
  ·have:=ae g hg;have:=hB.size;omega
 intro x W S ah;obtain⟨aA,aF, -⟩:=ah;change (fun u W=>W.ownsRow I.heap.size 5 1 u 64 ((QI 64 kz).map qp)) (x 39) W at aA
 change ((fun _ _=>True)) (x 42) W at aF
 simp only[QG,Act.put,Ls];obtain⟨aq, -, -,h9⟩:=S;obtain⟨ay,aI,ap,au⟩:=h9 rfl;have H9:=hid (show(∃p hv,w.heap.size<=p/\W.heap[q]? =some (.cells (yz 2 dg bv (.slice ka kz.length kc) false 0 (.iface 291 (.pointer (some ⟨p,0,none⟩)))) 187 (0,0))/\Q6 false W p hv (h0Z false Y) (yH 64 kz)/\(∀g,hv.ownBlock=some g->w.heap.size<=g))/\Spare (fun k=>k≠q) w W from⟨⟨p,aI,av,aq,by unfold yH;rw[if_neg aO.out];exact ap,fun g hg=>Nat.le_trans aL (au g hg)⟩,U.out.trans ay (fun b O _=>by omega)⟩);clear aq ay ap au h9 aA;go_wp2
 go_end0
 exact⟨rfl,H9.out⟩
def Fresh (base:Nat)(W:World)(v:Value)(zs:List Int):Prop:=
 (zs=[]/\v= .slice none 0 0)\/ ∃g cap cur,v= .slice (some ⟨g,0,none⟩) zs.length cap/\base<=g/\W.heap[g]? =some (.cells cur 5 (0,0))/\zs.length<=cap/\cap<=cur.size/\cap<=maxLen/\cur.toList.take zs.length=zs.map qp
theorem Fresh.below (h:Fresh base W v zs)(D:Below W.heap.size W W'):Fresh base W' v zs:=by
 rcases h with h|⟨g,q,o,e,r,I,G⟩
 ·exact .inl h
 ·exact .inr ⟨g,q,o,e,r,qf I D,G⟩
theorem Fresh.le {b':Nat}(h:Fresh base W v zs)(D:b'<=base):Fresh b' W v zs:=by
 rcases h with h|⟨g,q,o,e,r,G⟩
 ·exact .inl h
 ·exact .inr ⟨g,q,o,e,Nat.le_trans D r,G⟩
theorem Fresh.hold (h:Fresh base W v zs)(D: ∀z∈zs,0<=z/\z<=255):Hold W v zs:=by
 refine⟨D,?_⟩;rcases h with h|⟨g,o,J,rfl,S,q,r,O,I,G⟩
 ·exact .inl h
 ·refine .inr ⟨⟨g,0,none⟩,o,rfl,r,I,.inr ⟨g,0,rfl,(Ai q).1,fun i hi=>?_⟩⟩;have e:=congrArg (fun l:List Value=>l[i]?) G;simp only[List.getElem?_take,hi,if_true,List.getElem?_map,Array.getElem?_toList]at e;rw[Nat.zero_add,qd q i,e];simp[qp,qo,Lg,hi]
theorem qcm {m:Nat}(h:W.ownsRow base 5 1 (.slice (some ⟨g,0,none⟩) zs.length c) zs.length (zs.map qp))(q:m<=zs.length):Fresh base W (.slice (some ⟨g,0,none⟩) m m) (zs.take m):=by
 obtain⟨o,D,J,G,r,O,I⟩:=zm h;have e:(zs.take m).length=m:=by simp[List.length_take,Nat.min_eq_left q]
 refine .inr ⟨g,m,o,by rw[e],r,D,by omega,by omega,by omega,?_⟩;rw[e,List.map_take,<-G,List.take_take,Nat.min_eq_left q]
theorem qha (big:Bool)(q p:Nat)(r G wr:Int)(la:Bool)(D I:Value)(w:World)(o:w.heap[q]? =some (.cells (yz r G D I la wr (.iface (phT big) (.pointer (some ⟨p,0,none⟩)))) 187 (0,0))):
  Calls Tryz.prog 140 #[.pointer (some ⟨q,0,none⟩)] w fun e w'=>e= .returned (.bool false)/\w'=w:=by
 have O:w.cell? ⟨q,6,none⟩=some (.iface (phT big) (.pointer (some ⟨p,0,none⟩))):=qd o 6;have J:q<w.heap.size:=(Ai o).1;clear o;go_enter Tryz.func140,Tryz.ntmps140
 go_wp2
 go_ret
 exact⟨rfl,rfl⟩
theorem j7 (h:W.ownsRow B 5 1 v n xs):W.ownsRow 0 5 1 v n xs:=ownsRow_le h (Nat.zero_le _)
theorem qd6 (X G:List Int)(hh:Words 64 8 X)(hm: ∀z∈G,0<=z/\z<=255)(r p m:Nat)(dg wr:Int)(la:Bool)(bv kv hv:Value)(w:World)(S:w.heap[r]? =some (.cells (yz 1 dg bv kv la wr (.iface 281 (.pointer (some ⟨p,0,none⟩)))) 187 (0,0)))(hE:Q6 true w p hv X G)(aa:(G.length:Int)<=281474976710656)(ay:1<=m)(am:m<=64):
  Calls Tryz.prog 108 #[.pointer (some ⟨r,0,none⟩),.int .i64 m] w fun e w'=>(∃v,e= .returned (.tuple #[v,.int .i64 0])/\Fresh w.heap.size w' v ((Zc true X G la).take m))/\Below w.heap.size w w':=by
 have hN:=qha true r p 1 dg wr la bv kv w S;have c0:w.cell? ⟨r,0,none⟩=some (.int .i64 1):=qd S 0;have aB:r<w.heap.size:=(Ai S).1;have HN:=hid hN;have ab:=hid S;have HO:=hid (fun(W:World) (h:Q6 true W p hv X G)=>qiR X G la hh hm p hv W h aa);have HE:=hid hE;have ad:=Zs true X G la;generalize Zc true X G la=Z at*;have af:=hid (show Z.length=64 from ad);clear hN S hE hh hm aa ad;have ac:1<=(m:Int)/\(m:Int)<=64:=by omega
 obtain⟨ac,ao⟩:=ac;go_enter Tryz.func108,Tryz.ntmps108
 go_wp2_with fail
 refine HN.out.mono ?_;rintro e w1 ⟨rfl,hw⟩;rw[hw];clear hw;go_wp2_with fail
 refine(Z4 true _).mono ?_;rintro e w1 ⟨rfl,hw⟩;rw[hw];clear hw;rw[show((bB true:Nat):Int)=128 from rfl];go_upto_region 5 with(fail)
 clear c0;refine qE (n:=16) (w0:=w) (B:=w.heap.size) [.z 20 r 0,.z 21 r 0,.z 22 r 6,.v 23 (.iface 281 (.pointer (some ⟨p,0,none⟩))),.z 24 r 0,.z 25 r 0,.z 26 r 4,.v 27 (.bool la),.v 28 (.iface 281 (.pointer (some ⟨p,0,none⟩))),.v 29 (.iface 281 (.pointer (some ⟨p,0,none⟩))),.p 30 (fun u W=>W.ownsRow w.heap.size 5 1 u 64 (Z.map qp)),.v 31 (.int .i64 m),.v 32 (.int .i64 m),.p 33 (fun u W=>Fresh w.heap.size W u (Z.take m)),.p 4 (fun u W=>Fresh w.heap.size W u (Z.take m)),.v 5 (.int .i64 0)] (by exact⟨(fun _ _ _ h V=>qi h (fun g _ hg=>V.block g hg)),(fun _ _ _ h V=>h.below V),(fun _ _ _ h V=>h.below V),trivial⟩) Br.drew Nl ?_ ?_
 ·repeat' (with_reducible first|exact qz|refine qx ?_ ?_)
  all_goals try
   intro A x W q I J o D K O;have a0:=q.2 0 (by decide);conv at a0=>rhs;whnf
   have a1:=q.2 1 (by decide);conv at a1=>rhs;whnf
   simp only[QS,yc]at D;clear o q;go_simp
   exact O _ _ BR rfl
  ·intro A x W q I J o _ K O;have az:=gv q o 2 22;clear o q;have g0:=qf ab.out I;have c0:W.cell? ⟨r,6,none⟩=some (.iface 281 (.pointer (some ⟨p,0,none⟩))):=qd g0 6;go_simp
   exact O _ _ BR rfl
  ·intro A x W q I J o _ K O;have aw:=gv q o 6 26;clear o q;have g0:=qf ab.out I;have c0:W.cell? ⟨r,4,none⟩=some (.bool la):=qd g0 4;go_simp
   exact O _ _ BR rfl
  ·intro A x W q I J o _ K O;have aA:=gv q o 9 29;have au:=gv q o 7 27;clear o q;go_simp
   refine YS (f:=263) (by kernel_rfl) ?_;go_simp
   refine(HO.out _ (Yb HE.out I)).mono ?_;rintro e w' ⟨u,rfl,ho,V⟩;exact O _ _ V (ownsRow_le ho J)
  ·intro A x W q I J o _ K O;have U:(fun u W=>W.ownsRow w.heap.size 5 1 u 64 (Z.map qp)) (x 30) W:=o ⟨10,.data⟩ (by simp) rfl _ rfl;have an:A.tmps.getD 30 undef=x 30:=q.1 30 (by decide);have ap:=gv q o 11 31;have ar:=gv q o 12 32;clear o q;obtain⟨s1,s2,s3,Y⟩:=qr U;rw[Y]at U an;obtain rfl:s2=64:=yJ U;obtain⟨gg,rfl⟩:=jE (j7 U) (by decide);obtain⟨cu, -, -, -, -,aq,aj⟩:=zm U;have aC:(s3:Int)<=9223372036854775807:=by unfold maxLen at aj;omega
   have av:(m:Int)<=s3:=by omega
   have ax:64<=(s3:Int):=by omega
   have ae:=qcm (m:=m) (zs:=Z) (c:=s3) (by rw[af.out];exact U) (by rw[af.out];exact am);have ai:=hid ae;clear ae;go_simp
   exact O _ _ Br ai.out
  ·intro A x W q I J o _ K O;have al:(fun u W=>Fresh w.heap.size W u (Z.take m)) (x 33) W:=o ⟨13,.data⟩ (by simp) rfl _ rfl;have ak:A.tmps.getD 33 undef=x 33:=q.1 33 (by decide);clear o q;go_simp
   exact O _ _ Br (ak▸al)
 intro x W I J ah;obtain⟨Y,ag,e4, -⟩:=ah;change (fun u W=>W.ownsRow w.heap.size 5 1 u 64 (Z.map qp)) (x 30) W at Y
 change (fun u W=>Fresh w.heap.size W u (Z.take m)) (x 33) W at ag
 change (fun u W=>Fresh w.heap.size W u (Z.take m)) (x 4) W at e4
 refine qw ?_;simp only[QG,Act.put,Ls];have E4:=hid e4;have HW:=hid I;clear e4 Y ag I;go_wp2
 go_ret2
 exact⟨⟨_,rfl,E4.out⟩,HW.out⟩
theorem qcV (X G:List Int)(hh:Words 32 8 X)(hm: ∀z∈G,0<=z/\z<=255)(r p m:Nat)(dg wr:Int)(la:Bool)(bv kv hv:Value)(w:World)(S:w.heap[r]? =some (.cells (yz 2 dg bv kv la wr (.iface 291 (.pointer (some ⟨p,0,none⟩)))) 187 (0,0)))(hE:Q6 false w p hv X G)(aa:(G.length:Int)<=281474976710656)(ay:1<=m)(am:m<=32):
  Calls Tryz.prog 108 #[.pointer (some ⟨r,0,none⟩),.int .i64 m] w fun e w'=>(∃v,e= .returned (.tuple #[v,.int .i64 0])/\Fresh w.heap.size w' v ((Zc false X G la).take m))/\Below w.heap.size w w':=by
 have hN:=qha false r p 2 dg wr la bv kv w S;have c0:w.cell? ⟨r,0,none⟩=some (.int .i64 2):=qd S 0;have aB:r<w.heap.size:=(Ai S).1;have HN:=hid hN;have ab:=hid S;have HO:=hid (fun(W:World) (h:Q6 false W p hv X G)=>qhO X G la hh hm p hv W h aa);have HE:=hid hE;have ad:=Zs false X G la;generalize Zc false X G la=Z at*;have af:=hid (show Z.length=32 from ad);clear hN S hE hh hm aa ad;have ac:1<=(m:Int)/\(m:Int)<=32:=by omega
 obtain⟨ac,ao⟩:=ac;go_enter Tryz.func108,Tryz.ntmps108
 go_wp2_with fail
 refine HN.out.mono ?_;rintro e w1 ⟨rfl,hw⟩;rw[hw];clear hw;go_wp2_with fail
 refine(Z4 false _).mono ?_;rintro e w1 ⟨rfl,hw⟩;rw[hw];clear hw;rw[show((bB false:Nat):Int)=64 from rfl];go_upto_region 5 with(fail)
 clear c0;refine qE (n:=16) (w0:=w) (B:=w.heap.size) [.z 20 r 0,.z 21 r 0,.z 22 r 6,.v 23 (.iface 291 (.pointer (some ⟨p,0,none⟩))),.z 24 r 0,.z 25 r 0,.z 26 r 4,.v 27 (.bool la),.v 28 (.iface 291 (.pointer (some ⟨p,0,none⟩))),.v 29 (.iface 291 (.pointer (some ⟨p,0,none⟩))),.p 30 (fun u W=>W.ownsRow w.heap.size 5 1 u 32 (Z.map qp)),.v 31 (.int .i64 m),.v 32 (.int .i64 m),.p 33 (fun u W=>Fresh w.heap.size W u (Z.take m)),.p 4 (fun u W=>Fresh w.heap.size W u (Z.take m)),.v 5 (.int .i64 0)] (by exact⟨(fun _ _ _ h V=>qi h (fun g _ hg=>V.block g hg)),(fun _ _ _ h V=>h.below V),(fun _ _ _ h V=>h.below V),trivial⟩) Br.drew Nl ?_ ?_
 ·repeat' (with_reducible first|exact qz|refine qx ?_ ?_)
  all_goals try
   intro A x W q I J o D K O;have a0:=q.2 0 (by decide);conv at a0=>rhs;whnf
   have a1:=q.2 1 (by decide);conv at a1=>rhs;whnf
   simp only[QS,yc]at D;clear o q;go_simp
   exact O _ _ BR rfl
  ·intro A x W q I J o _ K O;have az:=gv q o 2 22;clear o q;have g0:=qf ab.out I;have c0:W.cell? ⟨r,6,none⟩=some (.iface 291 (.pointer (some ⟨p,0,none⟩))):=qd g0 6;go_simp
   exact O _ _ BR rfl
  ·intro A x W q I J o _ K O;have aw:=gv q o 6 26;clear o q;have g0:=qf ab.out I;have c0:W.cell? ⟨r,4,none⟩=some (.bool la):=qd g0 4;go_simp
   exact O _ _ BR rfl
  ·intro A x W q I J o _ K O;have aA:=gv q o 9 29;have au:=gv q o 7 27;clear o q;go_simp
   refine YS (f:=269) (by kernel_rfl) ?_;go_simp
   refine(HO.out _ (Yb HE.out I)).mono ?_;rintro e w' ⟨u,rfl,ho,V⟩;exact O _ _ V (ownsRow_le ho J)
  ·intro A x W q I J o _ K O;have U:(fun u W=>W.ownsRow w.heap.size 5 1 u 32 (Z.map qp)) (x 30) W:=o ⟨10,.data⟩ (by simp) rfl _ rfl;have an:A.tmps.getD 30 undef=x 30:=q.1 30 (by decide);have ap:=gv q o 11 31;have ar:=gv q o 12 32;clear o q;obtain⟨s1,s2,s3,Y⟩:=qr U;rw[Y]at U an;obtain rfl:s2=32:=yJ U;obtain⟨gg,rfl⟩:=jE (j7 U) (by decide);obtain⟨cu, -, -, -, -,aq,aj⟩:=zm U;have aC:(s3:Int)<=9223372036854775807:=by unfold maxLen at aj;omega
   have av:(m:Int)<=s3:=by omega
   have ax:32<=(s3:Int):=by omega
   have ae:=qcm (m:=m) (zs:=Z) (c:=s3) (by rw[af.out];exact U) (by rw[af.out];exact am);have ai:=hid ae;clear ae;go_simp
   exact O _ _ Br ai.out
  ·intro A x W q I J o _ K O;have al:(fun u W=>Fresh w.heap.size W u (Z.take m)) (x 33) W:=o ⟨13,.data⟩ (by simp) rfl _ rfl;have ak:A.tmps.getD 33 undef=x 33:=q.1 33 (by decide);clear o q;go_simp
   exact O _ _ Br (ak▸al)
 intro x W I J ah;obtain⟨Y,ag,e4, -⟩:=ah;change (fun u W=>W.ownsRow w.heap.size 5 1 u 32 (Z.map qp)) (x 30) W at Y
 change (fun u W=>Fresh w.heap.size W u (Z.take m)) (x 33) W at ag
 change (fun u W=>Fresh w.heap.size W u (Z.take m)) (x 4) W at e4
 refine qw ?_;simp only[QG,Act.put,Ls];have E4:=hid e4;have HW:=hid I;clear e4 Y ag I;go_wp2
 go_ret2
 exact⟨⟨_,rfl,E4.out⟩,HW.out⟩
def Qn (b:List Int)(p:Nat)(zs:List Int):List Int:=b.take p++zs++b.drop (p+zs.length)
theorem Qq (h:p+zs.length<=b.length):(Qn b p zs).length=b.length:=by
 simp[Qn];omega
theorem Y1 (h:p+zs.length<=b.length)(i:Nat):qo (Qn b p zs) i=if p<=i/\i<p+zs.length then qo zs (i - p) else qo b i:=by
 unfold Qn qo;simp only[Lg];have q:(b.take p).length=p:=by simp;omega
 by_cases o:i<p
 ·rw[List.append_assoc,List.getElem?_append_left (by omega),List.getElem?_take,if_pos o,if_neg (by omega)]
 ·by_cases r:i<p+zs.length
  ·rw[List.append_assoc,List.getElem?_append_right (by omega),q,List.getElem?_append_left (by omega),if_pos ⟨by omega,r⟩]
  ·rw[List.getElem?_append_right (by simp;omega),if_neg (by omega),List.getElem?_drop];congr 2
   simp;omega
theorem zw (b:List Int)(p:Nat):Qn b p []=b:=by simp[Qn]
theorem qav {z:Int}(h:p+zs.length<b.length):Qn b p (zs++[z])=(Qn b p zs).set (p+zs.length) z:=by
 have r:(b.take p).length=p:=by simp;omega
 have o:(b.take p++zs).length=p+zs.length:=by simp;omega
 have q:b.drop (p+zs.length)=b[p+zs.length]::b.drop (p+zs.length+1):=List.drop_eq_getElem_cons h;unfold Qn;rw[q,List.length_append,List.length_singleton,<-Nat.add_assoc,List.set_append_right _ _ (by omega),o,Nat.sub_self,List.set_cons_zero];simp
def QD (big x0:Bool)(v:Nat->Nat):Nat->List Int
 | 0=>List.replicate (mB big) 0
 | k+1=>if k+1=7/\x0=true then QD big x0 v k else Qn (QD big x0 v k) (atB big (k+1)) (qD (v (k+1)) (szB big (k+1)))
theorem Q0 (big q:Bool)(v:Nat->Nat): ∀k,k<=9->(QD big q v k).length=mB big
 | 0,_=>by simp[QD]
 | k+1,h=>by
  have o:=Q0 big q v k (by omega);have r:=yh big false (k+1) (by omega) (by omega);have e:szE big false (k+1)=szB big (k+1):=by simp[szE]
  rw[e]at r;have D:32<=mB big:=by cases big<;>decide
  rw[QD];split
  ·exact o
  ·rw[Qq (by rw[qH,o];omega),o]
def QV (big:Bool)(v:Nat->Nat)(z1 z2:List Int):List Int:=Qn (Qn (QD big (v 7==0) v 9) (2*sB big) z1) (3*sB big) z2
theorem yC {v:Nat->Nat}{z1 z2:List Int}(q:z1.length<=sB big)(r:z2.length<=sB big):(QV big v z1 z2).length=mB big:=by
 have e:=Q0 big (v 7==0) v 9 (by omega);have o:4*sB big=mB big:=by cases big<;>decide
 unfold QV;rw[Qq (by rw[Qq (by omega)];omega),Qq (by omega),e]
def parN (v:Nat->Nat)(sa pe:Value):Value:=parV (v 1:Nat) (v 2:Nat) (v 3:Nat) (v 4:Nat) (v 5:Nat) (v 6:Nat) (v 7:Nat) (v 8:Nat) (v 9:Nat) sa pe
def RowB (w:World)(g:Nat)(b:List Int):Prop:=w.heap[g]? =some (.cells (b.map qp).toArray 5 (0,0))
theorem RowB.cell {w:World}(h:RowB w g b){i:Nat}(hi:i<b.length):w.cell? ⟨g,i,none⟩=some (.int .u8 (qo b i)):=by
 rw[qd h i];simp[qp,qo,Lg,hi]
theorem RowB.set {w:World}(h:RowB w g b)(i:Nat)(z:Int):RowB (w.setCell ⟨g,i,none⟩ (.int .u8 z)) g (b.set i z):=by
 have:=heap_setCell_same w g i _ _ (.int .u8 z) h
 unfold RowB;rw[this];simp[qp,List.map_set]
theorem qda (b:List Int)(g n c p k:Nat)(hk:k<=8)(hp:p+k<=b.length)(I:n=b.length)(hc:n<=c)(aa:n<=65535)(x:Nat)(hx:(x:Int)<=18446744073709551615)(w:World)(h:RowB w g b):
  Calls Tryz.prog 172 #[.slice (some ⟨g,0,none⟩) n c,.int .i64 p,.int .i64 k,.int .u64 x] w fun e w'=>e= .returned (.tuple #[])/\RowB w' g (Qn b p (qD x k))/\But g w w':=by
 have J:g<w.heap.size:=(Ai h).1;have HR:=hid h;have X:=hid I;have ab:(p:Int)+k<=n:=by omega
 have ac:(n:Int)<=65535:=by omega
 clear h I;go_enter Tryz.func172,Tryz.ntmps172
 go_wp2_with fail
 go_loopw [8] (fun i wr=> ∃j:Nat,i= .int .i64 j/\j<=k/\RowB wr g (Qn b p (qD x j))/\But g w wr) (fun i _=>k - (intOf i).toNat)
 case atStart=>exact⟨0,rfl,Nat.zero_le _,by show RowB w g (Qn b p []);rw[zw];exact HR.out,But.refl _ _⟩
 case round=>
  obtain⟨j,rfl,hj,o,D⟩:=hrel;by_cases ad:j<k
  ·have Y:(Qn b p (qD x j)).length=b.length:=Qq (by rw[qH];omega);have U:=o.cell (i:=p+j) (by have:=X.out;omega);have ae:=frozen_of_row wr g (p+j) _ _ o;have af:g<wr.heap.size:=Nat.lt_of_lt_of_le J D.size;have q:=Zz x j;have r:=o.set (p+j) (byt x j);have e:(Qn b p (qD x j)).set (p+j) (byt x j)=Qn b p (qD x (j+1)):=by
    have O:=qav (b:=b) (zs:=qD x j) (p:=p) (z:=byt x j) (by rw[qH];omega);rw[qH]at O;rw[<-O,zH]
   rw[e]at r;have V:=hid r;have G:=hid D;generalize qo (Qn b p (qD x j)) (p+j)=z0 at U;have S:(j:Int)<k/\(k:Int)<=8/\0<=(j:Int)/\(p:Int)+j<n:=by omega
   obtain⟨q1,q2,q3,q4⟩:=S;clear r e Y o D;go_wp2
   exact⟨⟨j+1,rfl,by omega,V.out,G.out.set _ _⟩,by simp[intOf];omega⟩
  ·obtain rfl:j=k:=by omega
   have G:=hid D;have Z:=hid o;clear D o;go_wp2
   go_end0
   exact⟨rfl,Z.out,G.out⟩
def YW (big ext:Bool)(zs:List Int)(f:Nat):Nat:=if f=7/\ext=false then 0 else(yp big ext zs f).toNat
def Yz (zs:List Int):List Int:=zs.take (Qp zs zs.length)
def zf (big:Bool)(zs:List Int):List Int:=Yz ((zs.drop (2*sB big)).take (sB big))
def zA (big:Bool)(zs:List Int):List Int:=Yz ((zs.drop (3*sB big)).take (sB big))
theorem qag (G: ∀z∈zs,0<=z/\z<=255)(o:zs.length=mB big){f:Nat}(q:1<=f)(D:f<=9)(r: ¬(f=7/\ext=false)):((YW big ext zs f:Nat):Int)=qO zs (atB big f) (szE big ext f):=by
 have I:=qY (big:=big) (ext:=ext) G o q D;have e:yp big ext zs f=qO zs (atB big f) (szE big ext f):=if_neg (by omega);unfold YW;rw[if_neg r,Int.toNat_of_nonneg I.1,e]
theorem qe1 (O: ∀z∈zs,0<=z/\z<=255)(r:zs.length=mB big)(q o:Value):
  parN (YW big ext zs) q o=parV (qo zs 0) (qo zs 1) (qo zs 2) (qo zs 3) (qO zs 4 4) (qO zs 8 (szE big ext 6)) (xoZ big ext zs) (qo zs (atB big 8)) (qo zs (atB big 9)) q o:=by
 have h:=fun f D J I=>qag (big:=big) (ext:=ext) O r (f:=f) D J I
 unfold parN;rw[h 1 (by omega) (by omega) (by omega),h 2 (by omega) (by omega) (by omega),h 3 (by omega) (by omega) (by omega),h 4 (by omega) (by omega) (by omega),h 5 (by omega) (by omega) (by omega),h 6 (by omega) (by omega) (by omega),h 8 (by omega) (by omega) (by omega),h 9 (by omega) (by omega) (by omega)];have G:((YW big ext zs 7:Nat):Int)=xoZ big ext zs:=by
  cases ext
  ·rfl
  ·rw[h 7 (by omega) (by omega) (by simp)];cases big<;>rfl
 rw[G]
 cases big<;>cases ext<;>simp[szE,szB,atB,zQ]
theorem qdW (big:Bool)(zs:List Int)(v:Value)(w:World)(h:Hold w v zs)(ab:okD big false zs):
  Calls Tryz.prog 158 #[.int .i64 (kB big),v,.bool false] w fun e w'=>(∃q o,e= .returned (.tuple #[parN (YW big false zs) q o,.int .i64 0])/\w'.ownsRow w.heap.size 5 1 q (zf big zs).length ((zf big zs).map qp)/\w'.ownsRow w.heap.size 5 1 o (zA big zs).length ((zA big zs).map qp))/\Below w.heap.size w w':=by
 obtain⟨a,O,rfl,D,S⟩:=h.slice;have I:=h.1;have h:=h.holds8;obtain⟨G,hm, -,k0,k1,k3,k9⟩:=ab;obtain⟨a',ad,e,h⟩:=h;simp only[Value.slice.injEq,true_and]at e;obtain⟨rfl,rfl⟩:=e;obtain⟨b,off,rfl,hB⟩:=h.resolve_left (fun e=>by rw[e]at G;cases big<;>simp[mB]at G);have ac: ∀p s:Nat,p+s<=zs.length->((zs.drop p).take s).length=s:=fun p s h=>by simp;omega
 have aa: ∀x:List Int,(x.take (Qp x x.length)).length=Qp x x.length:=fun x=>by have:=jl x x.length;simp;omega
 have J: ∀(p s:Nat),p+s<=zs.length->(Yz ((zs.drop p).take s)).length=Qp ((zs.drop p).take s) s/\Yz ((zs.drop p).take s)=((zs.drop p).take s).take (Qp ((zs.drop p).take s) s):=fun p s h=>by
  have e:=ac p s h;unfold Yz;rw[aa,e];exact⟨rfl,rfl⟩
 cases big
 ·have r:zs.length=32:=G;rw[r]at D⊢;obtain⟨V,X⟩:=J 16 8 (by omega);obtain⟨Z,s4⟩:=J 24 8 (by omega);refine(jf zs b off O w hB I D S r k0 k1.2 (k3 rfl) k9.2).mono ?_;rintro e w' ⟨⟨q,o,rfl,o1,U⟩,Y⟩
  refine⟨⟨q,o,congrArg (fun p=>Ending.returned (.tuple #[p,.int .i64 0])) (qe1 (big:=false) (ext:=false) I G q o).symm,?_,?_⟩,Y⟩
  ·show w'.ownsRow _ _ _ q (Yz ((zs.drop 16).take 8)).length ((Yz ((zs.drop 16).take 8)).map qp)
   rw[V,X];exact o1
  ·show w'.ownsRow _ _ _ o (Yz ((zs.drop 24).take 8)).length ((Yz ((zs.drop 24).take 8)).map qp)
   rw[Z,s4];exact U
 ·have r:zs.length=64:=G;rw[r]at D⊢;obtain⟨V,X⟩:=J 32 16 (by omega);obtain⟨Z,s4⟩:=J 48 16 (by omega);refine(jC zs b off O w hB I D S r (hm rfl) k0 k1.2 (k3 rfl) k9.2).mono ?_;rintro e w' ⟨⟨q,o,rfl,o1,U⟩,Y⟩
  refine⟨⟨q,o,congrArg (fun p=>Ending.returned (.tuple #[p,.int .i64 0])) (qe1 (big:=true) (ext:=false) I G q o).symm,?_,?_⟩,Y⟩
  ·show w'.ownsRow _ _ _ q (Yz ((zs.drop 32).take 16)).length ((Yz ((zs.drop 32).take 16)).map qp)
   rw[V,X];exact o1
  ·show w'.ownsRow _ _ _ o (Yz ((zs.drop 48).take 16)).length ((Yz ((zs.drop 48).take 16)).map qp)
   rw[Z,s4];exact U
structure ParOk (big:Bool)(v:Nat->Nat):Prop where
 p:okP big (v 1:Nat) (v 2:Nat) (v 3:Nat) (v 4:Nat) (v 6:Nat) (v 8:Nat) (v 9:Nat)
 lf:v 5<4294967296
 ofs:v 6<18446744073709551616
 x0:v 7=0
theorem Z1 {v:Nat->Nat}(r:ParOk big v)(a1 a2:Option Addr){o:Nat}(c1 c2:Nat)(D:o<=sB big)(G:q<=sB big)(w:World):
  Calls Tryz.prog 169 #[.int .i64 (kB big),parN v (.slice a1 o c1) (.slice a2 q c2)] w fun e w'=>e= .returned (.int .i64 0)/\Below w.heap.size w w':=by
 unfold parN;rw[r.x0];exact qa5 big _ _ _ _ _ _ _ _ a1 a2 o q c1 c2 w r.p D G
def jx (v:Nat->Nat):Array Value:= #[.int .u64 (v 1),.int .u64 (v 2),.int .u64 (v 3),.int .u64 (v 4),.int .u64 (v 5),.int .u64 (v 6),.int .u64 (v 7),.int .u64 (v 8),.int .u64 (v 9)]
theorem qg5 (v:Nat->Nat){k:Nat}(o:k<9):(jx v)[k]? =some (.int .u64 (v (k+1):Nat)):=by
 rcases(show k=0\/k=1\/k=2\/k=3\/k=4\/k=5\/k=6\/k=7\/k=8 by omega)with rfl|rfl|rfl|rfl|rfl|rfl|rfl|rfl|rfl<;>rfl
theorem ParOk.le {v:Nat->Nat}(h:ParOk big v): ∀f,1<=f->f<=9->((v f:Nat):Int)<=18446744073709551615:=by
 obtain⟨⟨r,S,J,X, -,o,V⟩,D,G,O⟩:=h;have q:mB big<=64:=by cases big<;>decide
 intro f I U;rcases(show f=1\/f=2\/f=3\/f=4\/f=5\/f=6\/f=7\/f=8\/f=9 by omega)with rfl|rfl|rfl|rfl|rfl|rfl|rfl|rfl|rfl<;>omega
theorem qab {w w':World}(h:Hold w (.slice a n c) zs)(r:Below w.heap.size w w')(o:j<zs.length): ∃b off,a=some ⟨b,off,none⟩/\b<w'.heap.size/\w'.cell? ⟨b,off+j,none⟩=some (.int .u8 (qo zs j))/\0<=qo zs j/\qo zs j<=255:=by
 have q:zs≠[]:=fun e=>by rw[e]at o;simp at o
 rcases h.2 with⟨I, -⟩|⟨S,O,e, -, -,G⟩
 ·exact absurd I q
 ·obtain⟨b,off,rfl,D,J⟩:=G.resolve_left q;simp only[Value.slice.injEq]at e;exact⟨b,off,e.1,Nat.lt_of_lt_of_le D r.size,(r.cell (p:=⟨b,off+j,none⟩) D).trans (J j o),(qZ h.1 o).2⟩
theorem jV (o:j<zs.length)(h:p+zs.length<=b.length):(Qn b p (zs.take j)).set (p+j) (qo zs j)=Qn b p (zs.take (j+1)):=by
 have e:(zs.take j).length=j:=by simp;omega
 rw[jS o,qav (by omega),e]
theorem jB (v:Nat->Nat)(z1 z2:List Int)(sa pe:Value)(w:World)(hP:ParOk true v)(h1:Hold w sa z1)(h2:Hold w pe z2)(ag:z1.length<=16)(af:z2.length<=16):
  Calls Tryz.prog 144 #[.int .i64 1,parN v sa pe] w fun e w'=>(∃r,e= .returned (.tuple #[r,.int .i64 0])/\w'.ownsRow w.heap.size 5 1 r 64 ((QV true v z1 z2).map qp))/\Below w.heap.size w w':=by
 obtain⟨a1,c1,rfl,aL,a3⟩:=h1.slice;obtain⟨a2,c2,rfl,bc,aT⟩:=h2.slice;obtain⟨i0,hi,ba,a8,aV⟩:=info_parts Qu;obtain⟨q,ac⟩:=Ex w.heap.size;have aA:=hid (Z1 hP a1 a2 c1 c2 ag af);have aC:=hid hP.x0;have aG:=hid hP.le;have aS:((v 5:Nat):Int)<4294967296:=by have:=hP.lf;omega
 have aN:((v 7:Nat):Int)<4294967296:=by have:=hP.x0;omega
 have X: ∀f,1<=f->f<=9->IntKind.u64.wrap ((v f:Nat):Int)=((v f:Nat):Int):=fun f f1 f2=>u64_wrap_id _ (by omega) (by have:=aG.out f f1 f2;omega)
 have aX:=X 1 (by omega) (by omega);have be:=X 2 (by omega) (by omega);have a5:=X 3 (by omega) (by omega);have a6:=X 4 (by omega) (by omega);have aP:=X 5 (by omega) (by omega);have aQ:=X 7 (by omega) (by omega);have aO:=X 8 (by omega) (by omega);have aW:=X 9 (by omega) (by omega);have az:Below q w (w.alloc (.cells #[.int .i64 (v 1),.int .i64 (v 2),.int .i64 (v 3),.int .i64 (v 4),.int .u32 (v 5),.int .u64 (v 6),.int .u32 (v 7),.int .i64 (v 8),.int .i64 (v 9),.slice a1 z1.length c1,.slice a2 z2.length c2] 179)):=by rw[<-ac];exact Br.alloc Nl _
 have ae:=Wn w (.cells #[.int .i64 (v 1),.int .i64 (v 2),.int .i64 (v 3),.int .i64 (v 4),.int .u32 (v 5),.int .u64 (v 6),.int .u32 (v 7),.int .i64 (v 8),.int .i64 (v 9),.slice a1 z1.length c1,.slice a2 z2.length c2] 179);rw[ac]at ae;have a4:=hid h1;have aZ:=hid h2;have bh:=hid hP;clear hP h1 h2 X aL a3 bc aT;unfold parN parV;unfold parN parV at aA;go_enter Tryz.func144,Tryz.ntmps144
 go_upto_region 1 with(fail)
 generalize w.alloc (.cells #[.int .i64 (v 1),.int .i64 (v 2),.int .i64 (v 3),.int .i64 (v 4),.int .u32 (v 5),.int .u64 (v 6),.int .u32 (v 7),.int .i64 (v 8),.int .i64 (v 9),.slice a1 z1.length c1,.slice a2 z2.length c2] 179)=wA at*;go_wp2_with (refine L179 q rfl ae ?_)
 refine(aA.out wA).mono ?_;rintro e w1 ⟨rfl,ai⟩;have J:=qf ae ai;have aR:=ai.size;have aJ:q<wA.heap.size:=(Ai ae).1;have bf:q<w1.heap.size:=by omega
 have aE:Below q w w1:=az.trans (ai.mono (by omega));have d0:w1.cell? ⟨q,0,none⟩=some (.int .i64 (v 1)):=qd J 0;have d1:w1.cell? ⟨q,1,none⟩=some (.int .i64 (v 2)):=qd J 1;have d2:w1.cell? ⟨q,2,none⟩=some (.int .i64 (v 3)):=qd J 2;have d3:w1.cell? ⟨q,3,none⟩=some (.int .i64 (v 4)):=qd J 3;have d4:w1.cell? ⟨q,4,none⟩=some (.int .u32 (v 5)):=qd J 4;have d5:w1.cell? ⟨q,5,none⟩=some (.int .u64 (v 6)):=qd J 5;have d6:w1.cell? ⟨q,6,none⟩=some (.int .u32 (v 7)):=qd J 6;have d7:w1.cell? ⟨q,7,none⟩=some (.int .i64 (v 8)):=qd J 7;have d8:w1.cell? ⟨q,8,none⟩=some (.int .i64 (v 9)):=qd J 8;have aI:=hid J;have aF:=hid aE;clear ai az ae J aE aR aJ;go_wp2_with fail
 refine(JI true _).mono ?_;rintro e w2 ⟨rfl,hw⟩;rw[hw];clear hw;rw[show((mB true:Nat):Int)=64 from rfl];have aH:=fun W:World=>run_make (P:=Tryz.prog) W 24 5 i0 (.int .u8 0) Tryz.underlying24 hi ba .i64 .i64 64 64 (by omega) (by omega) (by rw[aV];omega) (by omega)
 simp only[a8]at aH;go_wp2_with fail
 obtain⟨g,hg⟩:=Ex w1.heap.size;have ay:madeCells Kc 64=((List.replicate 64 (0:Int)).map qp).toArray:=by
  apply Array.toList_inj.1
  rw[toList_madeCells_one];simp[qp]
 have bj:((w1.alloc (.cells (madeCells Kc 64) 5)).alloc (.cells (jx v) 44)).heap.size=g+2:=by simp[hg]
 have aw:RowB ((w1.alloc (.cells (madeCells Kc 64) 5)).alloc (.cells (jx v) 44)) g (QD true (v 7==0) v 0):=by
  unfold RowB;rw[Bh _ _ _ (by simp[hg]),ay,<-hg];exact Wn _ _
 have au:((w1.alloc (.cells (madeCells Kc 64) 5)).alloc (.cells (jx v) 44)).heap[g+1]? =some (.cells (jx v) 44 (0,0)):=by
  rw[show g+1=(w1.alloc (.cells (madeCells Kc 64) 5)).heap.size by simp[hg]];exact Wn _ _
 have ax:((w1.alloc (.cells (madeCells Kc 64) 5)).alloc (.cells (jx v) 44)).heap[q]? =some (.cells #[.int .i64 (v 1),.int .i64 (v 2),.int .i64 (v 3),.int .i64 (v 4),.int .u32 (v 5),.int .u64 (v 6),.int .u32 (v 7),.int .i64 (v 8),.int .i64 (v 9),.slice a1 z1.length c1,.slice a2 z2.length c2] 179 (0,0)):=by
  rw[Bh _ _ _ (by simp;omega),Bh _ _ _ (by omega)];exact aI.out
 have aB:Below q w ((w1.alloc (.cells (madeCells Kc 64) 5)).alloc (.cells (jx v) 44)):=(aF.out.alloc (by omega) _).alloc (by simp;omega) _;change Code.wp _ _ _ _ ((w1.alloc (.cells (madeCells Kc 64) 5)).alloc (.cells (jx v) 44))
 rw[hg];have bk:q<g:=by omega
 generalize ((w1.alloc (.cells (madeCells Kc 64) 5)).alloc (.cells (jx v) 44))=W5 at*;have a7:=hid aw;have aK:=hid au;have ar:=hid ax;have an:=hid aB;clear aw au ax aB ay aH aI aF hg d0 d1 d2 d3 d4 d5 d6 d7 d8 aX be a5 a6 aP aQ aO aW;go_loopw [9] (fun f wr=> ∃n k:Nat,f= .int .i64 n/\n=k+1/\k<=9/\RowB wr g (QD true (v 7==0) v k)/\But g W5 wr) (fun f _=>10 - (intOf f).toNat)
 case atStart=>exact⟨1,0,rfl,rfl,by omega,a7.out,But.refl _ _⟩
 case round=>
  obtain⟨n,k,rfl,ad,hk,o,I⟩:=hrel;have aa:=hid ad;have G:=hid o;have Y:=hid I;have ak:g+1<wr.heap.size:=by have:=I.size;omega
  have c6:wr.cell? ⟨q,6,none⟩=some (.int .u32 (v 7)):=qd ((I.block q (by omega) (by omega)).trans ar.out) 6;have ab:q<wr.heap.size:=by omega
  have D:=Q0 true (v 7==0) v k hk;by_cases U:k<9
  case pos=>
   have bi:(n:Int)<=9:=by omega
   have bg:1<=(n:Int):=by omega
   have aY:(n:Int) - 1=(k:Nat):=by omega
   have cv:wr.cell? ⟨g+1,k,none⟩=some (.int .u64 (v (k+1):Nat)):=(qd ((I.block (g+1) (by omega) (by omega)).trans aK.out) k).trans (qg5 v U);rw[<-ad]at cv;have bd:(k:Int)<9:=by omega
   have aM:=hid (Jd true n ⟨by omega,by omega⟩);have ao:=yh true false n (by omega) (by omega);rw[show szE true false n=szB true n by simp[szE]]at ao;have HL:=hid (qda (QD true (v 7==0) v k) g 64 64 (atB true n) (szB true n) (by omega) (by rw[D];show _<=64;have:=ao.2.2.2;omega) (by rw[D];rfl) Nl (by decide) (v n) (aG.out n (by omega) (by omega)) wr o);have al: ¬(k+1=7/\(v 7==0)=true)->QD true (v 7==0) v (k+1)=Qn (QD true (v 7==0) v k) (atB true n) (qD (v n) (szB true n)):=fun h=>by rw[QD,if_neg h,ad]
   have ah:=hid al;clear al o I ad ao D;by_cases h7:k=6
   case pos=>
    obtain rfl:n=7:=by have:=aa.out;omega
    subst h7;clear aY bd;have hq:((v 7:Int)==0)=true:=by rw[aC.out];rfl
    go_wp2
    refine⟨⟨8,7,rfl,rfl,by omega,?_,Y.out⟩,by simp[intOf]⟩;have e:QD true (v 7==0) v 7=QD true (v 7==0) v 6:=by rw[QD,if_pos ⟨rfl,by rw[aC.out];rfl⟩]
    rw[e];exact G.out
   have h8: ¬((n:Int)=7):=by have:=aa.out;omega
   have h9: ¬(n=7):=by have:=aa.out;omega
   go_wp2_with fail
   refine(aM.out _).mono ?_;rintro r w4 ⟨rfl,hw⟩;rw[hw];clear hw;go_wp2_with fail
   refine HL.out.mono ?_;rintro r w4 ⟨rfl,ag,af⟩;have O:=hid ag;have S:=hid af;clear ag af c6 cv;go_wp2
   refine⟨⟨n+1,k+1,rfl,by rw[aa.out],by omega,by rw[ah.out (fun h=>h7 (by omega))];exact O.out,Y.out.trans S.out⟩,by simp[intOf];omega⟩
  obtain rfl:k=9:=by omega
  obtain rfl:n=10:=by have:=aa.out;omega
  clear D o I ad;clear c6 aa U;have aD:=Q0 true (v 7==0) v 9 (by omega);have av:=hid (show QV true v z1 z2=Qn (Qn (QD true (v 7==0) v 9) 32 z1) 48 z2 from rfl);generalize QD true (v 7==0) v 9=E at*;have am:E.length=64:=aD;have aj:=hid am;have O:=hid ag;have S:=hid af;clear aD am hk aS aN;go_wp2_with fail
  refine(YM true _).mono ?_;rintro r w4 ⟨rfl,hw⟩;rw[hw];clear hw;rw[show((mB true:Nat):Int)=64 from rfl];go_wp2_with fail
  have V:=aj;go_loopw [13] (fun i wr=> ∃j:Nat,i= .int .i64 j/\j<=z1.length/\RowB wr g (Qn E 32 (z1.take j))/\But g W5 wr) (fun i _=>z1.length - (intOf i).toNat)
  case atStart=>exact⟨0,rfl,Nat.zero_le _,by rw[List.take_zero,zw];exact G.out,Y.out⟩
  case round=>
   clear Y G ak ab;obtain⟨j,rfl,hj,o,I⟩:=hrel;have G:=hid o;have Y:=hid I;have ak:g+1<wr.heap.size:=by have:=I.size;omega
   have ab:q<wr.heap.size:=by omega
   have aq:g<wr.heap.size:=by omega
   have cz:wr.cell? ⟨q,9,none⟩=some (.slice a1 z1.length c1):=qd ((I.block q (by omega) (by omega)).trans ar.out) 9;by_cases U:j<z1.length
   case pos=>
    obtain⟨bb,a9,rfl,q1,q2,q3,q4⟩:=qab a4.out (ac▸an.out.trans (I.below (by omega) (by omega))) U;have Z:=o.set (32+j) (qo z1 j);rw[jV U (by have:=aj.out;have:=O.out;omega)]at Z;have ah:=hid Z;have D:(Qn E 32 (z1.take j)).length=64:=by rw[Qq (by rw[List.length_take];have:=V.out;have:=O.out;have:=S.out;omega)];exact V.out
    have co:=o.cell (i:=32+j) (by rw[D];have:=O.out;have:=S.out;omega);have fo:=frozen_of_row wr g (32+j) _ _ o;generalize qo (Qn E 32 (z1.take j)) (32+j)=zo at co;generalize qo z1 j=zj at*;have aU:(j:Int)<16:=by have:=O.out;have:=S.out;omega
    clear Z D o I;go_wp2
    exact⟨⟨j+1,rfl,by omega,ah.out,Y.out.set _ _⟩,by simp[intOf];omega⟩
   obtain rfl:j=z1.length:=by omega
   rw[List.take_length]at G;clear o I;clear hj U V;have V:=hid (show(Qn E 32 z1).length=64 from by rw[Qq (by have:=aj.out;have:=O.out;omega)];exact aj.out);go_wp2_with fail
   clear cz aq;go_loopw [14] (fun i wr=> ∃j:Nat,i= .int .i64 j/\j<=z2.length/\RowB wr g (Qn (Qn E 32 z1) 48 (z2.take j))/\But g W5 wr) (fun i _=>z2.length - (intOf i).toNat)
   case atStart=>exact⟨0,rfl,Nat.zero_le _,by rw[List.take_zero,zw];exact G.out,Y.out⟩
   case round=>
    clear Y G ak ab;obtain⟨j,rfl,hj,o,I⟩:=hrel;have G:=hid o;have Y:=hid I;have ak:g+1<wr.heap.size:=by have:=I.size;omega
    have ab:q<wr.heap.size:=by omega
    have aq:g<wr.heap.size:=by omega
    have cz:wr.cell? ⟨q,10,none⟩=some (.slice a2 z2.length c2):=qd ((I.block q (by omega) (by omega)).trans ar.out) 10;by_cases U:j<z2.length
    case pos=>
     obtain⟨bb,a9,rfl,q1,q2,q3,q4⟩:=qab aZ.out (ac▸an.out.trans (I.below (by omega) (by omega))) U;have Z:=o.set (48+j) (qo z2 j);rw[jV U (by have:=V.out;have:=S.out;omega)]at Z;have ah:=hid Z;have D:(Qn (Qn E 32 z1) 48 (z2.take j)).length=64:=by rw[Qq (by rw[List.length_take];have:=V.out;have:=O.out;have:=S.out;omega)];exact V.out
     have co:=o.cell (i:=48+j) (by rw[D];have:=O.out;have:=S.out;omega);have fo:=frozen_of_row wr g (48+j) _ _ o;generalize qo (Qn (Qn E 32 z1) 48 (z2.take j)) (48+j)=zo at co;generalize qo z2 j=zj at*;have aU:(j:Int)<16:=by have:=O.out;have:=S.out;omega
     clear Z D o I;go_wp2
     exact⟨⟨j+1,rfl,by omega,ah.out,Y.out.set _ _⟩,by simp[intOf];omega⟩
    obtain rfl:j=z2.length:=by omega
    rw[List.take_length]at G;clear o I;clear hj U;go_wp2
    go_ret2
    refine⟨⟨_,rfl,?_⟩,by rw[ac];exact an.out.trans (Y.out.below (by omega) (by omega))⟩;have ap:=yC (big:=true) (v:=v) O.out S.out;refine⟨by rw[List.length_map,ap];rfl,.inr ⟨g,64,_,rfl,by omega,G.out,Nat.le_refl _,by unfold maxLen;omega,?_,?_⟩⟩
    ·rw[List.size_toArray,List.length_map,<-av.out,ap];rfl
    ·rw[<-av.out];exact List.take_of_length_le (by rw[List.length_map,ap];decide)
theorem ja (v:Nat->Nat)(z1 z2:List Int)(sa pe:Value)(w:World)(hP:ParOk false v)(h1:Hold w sa z1)(h2:Hold w pe z2)(ag:z1.length<=8)(af:z2.length<=8):
  Calls Tryz.prog 144 #[.int .i64 2,parN v sa pe] w fun e w'=>(∃r,e= .returned (.tuple #[r,.int .i64 0])/\w'.ownsRow w.heap.size 5 1 r 32 ((QV false v z1 z2).map qp))/\Below w.heap.size w w':=by
 obtain⟨a1,c1,rfl,aL,a3⟩:=h1.slice;obtain⟨a2,c2,rfl,bc,aT⟩:=h2.slice;obtain⟨i0,hi,ba,a8,aV⟩:=info_parts Qu;obtain⟨q,ac⟩:=Ex w.heap.size;have aA:=hid (Z1 hP a1 a2 c1 c2 ag af);have aC:=hid hP.x0;have aG:=hid hP.le;have aS:((v 5:Nat):Int)<4294967296:=by have:=hP.lf;omega
 have aN:((v 7:Nat):Int)<4294967296:=by have:=hP.x0;omega
 have X: ∀f,1<=f->f<=9->IntKind.u64.wrap ((v f:Nat):Int)=((v f:Nat):Int):=fun f f1 f2=>u64_wrap_id _ (by omega) (by have:=aG.out f f1 f2;omega)
 have aX:=X 1 (by omega) (by omega);have be:=X 2 (by omega) (by omega);have a5:=X 3 (by omega) (by omega);have a6:=X 4 (by omega) (by omega);have aP:=X 5 (by omega) (by omega);have aQ:=X 7 (by omega) (by omega);have aO:=X 8 (by omega) (by omega);have aW:=X 9 (by omega) (by omega);have az:Below q w (w.alloc (.cells #[.int .i64 (v 1),.int .i64 (v 2),.int .i64 (v 3),.int .i64 (v 4),.int .u32 (v 5),.int .u64 (v 6),.int .u32 (v 7),.int .i64 (v 8),.int .i64 (v 9),.slice a1 z1.length c1,.slice a2 z2.length c2] 179)):=by rw[<-ac];exact Br.alloc Nl _
 have ae:=Wn w (.cells #[.int .i64 (v 1),.int .i64 (v 2),.int .i64 (v 3),.int .i64 (v 4),.int .u32 (v 5),.int .u64 (v 6),.int .u32 (v 7),.int .i64 (v 8),.int .i64 (v 9),.slice a1 z1.length c1,.slice a2 z2.length c2] 179);rw[ac]at ae;have a4:=hid h1;have aZ:=hid h2;have bh:=hid hP;clear hP h1 h2 X aL a3 bc aT;unfold parN parV;unfold parN parV at aA;go_enter Tryz.func144,Tryz.ntmps144
 go_upto_region 1 with(fail)
 generalize w.alloc (.cells #[.int .i64 (v 1),.int .i64 (v 2),.int .i64 (v 3),.int .i64 (v 4),.int .u32 (v 5),.int .u64 (v 6),.int .u32 (v 7),.int .i64 (v 8),.int .i64 (v 9),.slice a1 z1.length c1,.slice a2 z2.length c2] 179)=wA at*;go_wp2_with (refine L179 q rfl ae ?_)
 refine(aA.out wA).mono ?_;rintro e w1 ⟨rfl,ai⟩;have J:=qf ae ai;have aR:=ai.size;have aJ:q<wA.heap.size:=(Ai ae).1;have bf:q<w1.heap.size:=by omega
 have aE:Below q w w1:=az.trans (ai.mono (by omega));have d0:w1.cell? ⟨q,0,none⟩=some (.int .i64 (v 1)):=qd J 0;have d1:w1.cell? ⟨q,1,none⟩=some (.int .i64 (v 2)):=qd J 1;have d2:w1.cell? ⟨q,2,none⟩=some (.int .i64 (v 3)):=qd J 2;have d3:w1.cell? ⟨q,3,none⟩=some (.int .i64 (v 4)):=qd J 3;have d4:w1.cell? ⟨q,4,none⟩=some (.int .u32 (v 5)):=qd J 4;have d5:w1.cell? ⟨q,5,none⟩=some (.int .u64 (v 6)):=qd J 5;have d6:w1.cell? ⟨q,6,none⟩=some (.int .u32 (v 7)):=qd J 6;have d7:w1.cell? ⟨q,7,none⟩=some (.int .i64 (v 8)):=qd J 7;have d8:w1.cell? ⟨q,8,none⟩=some (.int .i64 (v 9)):=qd J 8;have aI:=hid J;have aF:=hid aE;clear ai az ae J aE aR aJ;go_wp2_with fail
 refine(JI false _).mono ?_;rintro e w2 ⟨rfl,hw⟩;rw[hw];clear hw;rw[show((mB false:Nat):Int)=32 from rfl];have aH:=fun W:World=>run_make (P:=Tryz.prog) W 24 5 i0 (.int .u8 0) Tryz.underlying24 hi ba .i64 .i64 32 32 (by omega) (by omega) (by rw[aV];omega) (by omega)
 simp only[a8]at aH;go_wp2_with fail
 obtain⟨g,hg⟩:=Ex w1.heap.size;have ay:madeCells Kc 32=((List.replicate 32 (0:Int)).map qp).toArray:=by
  apply Array.toList_inj.1
  rw[toList_madeCells_one];simp[qp]
 have bj:((w1.alloc (.cells (madeCells Kc 32) 5)).alloc (.cells (jx v) 44)).heap.size=g+2:=by simp[hg]
 have aw:RowB ((w1.alloc (.cells (madeCells Kc 32) 5)).alloc (.cells (jx v) 44)) g (QD false (v 7==0) v 0):=by
  unfold RowB;rw[Bh _ _ _ (by simp[hg]),ay,<-hg];exact Wn _ _
 have au:((w1.alloc (.cells (madeCells Kc 32) 5)).alloc (.cells (jx v) 44)).heap[g+1]? =some (.cells (jx v) 44 (0,0)):=by
  rw[show g+1=(w1.alloc (.cells (madeCells Kc 32) 5)).heap.size by simp[hg]];exact Wn _ _
 have ax:((w1.alloc (.cells (madeCells Kc 32) 5)).alloc (.cells (jx v) 44)).heap[q]? =some (.cells #[.int .i64 (v 1),.int .i64 (v 2),.int .i64 (v 3),.int .i64 (v 4),.int .u32 (v 5),.int .u64 (v 6),.int .u32 (v 7),.int .i64 (v 8),.int .i64 (v 9),.slice a1 z1.length c1,.slice a2 z2.length c2] 179 (0,0)):=by
  rw[Bh _ _ _ (by simp;omega),Bh _ _ _ (by omega)];exact aI.out
 have aB:Below q w ((w1.alloc (.cells (madeCells Kc 32) 5)).alloc (.cells (jx v) 44)):=(aF.out.alloc (by omega) _).alloc (by simp;omega) _;change Code.wp _ _ _ _ ((w1.alloc (.cells (madeCells Kc 32) 5)).alloc (.cells (jx v) 44))
 rw[hg];have bk:q<g:=by omega
 generalize ((w1.alloc (.cells (madeCells Kc 32) 5)).alloc (.cells (jx v) 44))=W5 at*;have a7:=hid aw;have aK:=hid au;have ar:=hid ax;have an:=hid aB;clear aw au ax aB ay aH aI aF hg d0 d1 d2 d3 d4 d5 d6 d7 d8 aX be a5 a6 aP aQ aO aW;go_loopw [9] (fun f wr=> ∃n k:Nat,f= .int .i64 n/\n=k+1/\k<=9/\RowB wr g (QD false (v 7==0) v k)/\But g W5 wr) (fun f _=>10 - (intOf f).toNat)
 case atStart=>exact⟨1,0,rfl,rfl,by omega,a7.out,But.refl _ _⟩
 case round=>
  obtain⟨n,k,rfl,ad,hk,o,I⟩:=hrel;have aa:=hid ad;have G:=hid o;have Y:=hid I;have ak:g+1<wr.heap.size:=by have:=I.size;omega
  have c6:wr.cell? ⟨q,6,none⟩=some (.int .u32 (v 7)):=qd ((I.block q (by omega) (by omega)).trans ar.out) 6;have ab:q<wr.heap.size:=by omega
  have D:=Q0 false (v 7==0) v k hk;by_cases U:k<9
  case pos=>
   have bi:(n:Int)<=9:=by omega
   have bg:1<=(n:Int):=by omega
   have aY:(n:Int) - 1=(k:Nat):=by omega
   have cv:wr.cell? ⟨g+1,k,none⟩=some (.int .u64 (v (k+1):Nat)):=(qd ((I.block (g+1) (by omega) (by omega)).trans aK.out) k).trans (qg5 v U);rw[<-ad]at cv;have bd:(k:Int)<9:=by omega
   have aM:=hid (Jd false n ⟨by omega,by omega⟩);have ao:=yh false false n (by omega) (by omega);rw[show szE false false n=szB false n by simp[szE]]at ao;have HL:=hid (qda (QD false (v 7==0) v k) g 32 32 (atB false n) (szB false n) (by omega) (by rw[D];show _<=32;have:=ao.2.2.2;have:=this rfl;omega) (by rw[D];rfl) Nl (by decide) (v n) (aG.out n (by omega) (by omega)) wr o);have al: ¬(k+1=7/\(v 7==0)=true)->QD false (v 7==0) v (k+1)=Qn (QD false (v 7==0) v k) (atB false n) (qD (v n) (szB false n)):=fun h=>by rw[QD,if_neg h,ad]
   have ah:=hid al;clear al o I ad ao D;by_cases h7:k=6
   case pos=>
    obtain rfl:n=7:=by have:=aa.out;omega
    subst h7;clear aY bd;have hq:((v 7:Int)==0)=true:=by rw[aC.out];rfl
    go_wp2
    refine⟨⟨8,7,rfl,rfl,by omega,?_,Y.out⟩,by simp[intOf]⟩;have e:QD false (v 7==0) v 7=QD false (v 7==0) v 6:=by rw[QD,if_pos ⟨rfl,by rw[aC.out];rfl⟩]
    rw[e];exact G.out
   have h8: ¬((n:Int)=7):=by have:=aa.out;omega
   have h9: ¬(n=7):=by have:=aa.out;omega
   go_wp2_with fail
   refine(aM.out _).mono ?_;rintro r w4 ⟨rfl,hw⟩;rw[hw];clear hw;go_wp2_with fail
   refine HL.out.mono ?_;rintro r w4 ⟨rfl,ag,af⟩;have O:=hid ag;have S:=hid af;clear ag af c6 cv;go_wp2
   refine⟨⟨n+1,k+1,rfl,by rw[aa.out],by omega,by rw[ah.out (fun h=>h7 (by omega))];exact O.out,Y.out.trans S.out⟩,by simp[intOf];omega⟩
  obtain rfl:k=9:=by omega
  obtain rfl:n=10:=by have:=aa.out;omega
  clear D o I ad;clear c6 aa U;have aD:=Q0 false (v 7==0) v 9 (by omega);have av:=hid (show QV false v z1 z2=Qn (Qn (QD false (v 7==0) v 9) 16 z1) 24 z2 from rfl);generalize QD false (v 7==0) v 9=E at*;have am:E.length=32:=aD;have aj:=hid am;have O:=hid ag;have S:=hid af;clear aD am hk aS aN;go_wp2_with fail
  refine(YM false _).mono ?_;rintro r w4 ⟨rfl,hw⟩;rw[hw];clear hw;rw[show((mB false:Nat):Int)=32 from rfl];go_wp2_with fail
  have V:=aj;go_loopw [13] (fun i wr=> ∃j:Nat,i= .int .i64 j/\j<=z1.length/\RowB wr g (Qn E 16 (z1.take j))/\But g W5 wr) (fun i _=>z1.length - (intOf i).toNat)
  case atStart=>exact⟨0,rfl,Nat.zero_le _,by rw[List.take_zero,zw];exact G.out,Y.out⟩
  case round=>
   clear Y G ak ab;obtain⟨j,rfl,hj,o,I⟩:=hrel;have G:=hid o;have Y:=hid I;have ak:g+1<wr.heap.size:=by have:=I.size;omega
   have ab:q<wr.heap.size:=by omega
   have aq:g<wr.heap.size:=by omega
   have cz:wr.cell? ⟨q,9,none⟩=some (.slice a1 z1.length c1):=qd ((I.block q (by omega) (by omega)).trans ar.out) 9;by_cases U:j<z1.length
   case pos=>
    obtain⟨bb,a9,rfl,q1,q2,q3,q4⟩:=qab a4.out (ac▸an.out.trans (I.below (by omega) (by omega))) U;have Z:=o.set (16+j) (qo z1 j);rw[jV U (by have:=aj.out;have:=O.out;omega)]at Z;have ah:=hid Z;have D:(Qn E 16 (z1.take j)).length=32:=by rw[Qq (by rw[List.length_take];have:=V.out;have:=O.out;have:=S.out;omega)];exact V.out
    have co:=o.cell (i:=16+j) (by rw[D];have:=O.out;have:=S.out;omega);have fo:=frozen_of_row wr g (16+j) _ _ o;generalize qo (Qn E 16 (z1.take j)) (16+j)=zo at co;generalize qo z1 j=zj at*;have aU:(j:Int)<8:=by have:=O.out;have:=S.out;omega
    clear Z D o I;go_wp2
    exact⟨⟨j+1,rfl,by omega,ah.out,Y.out.set _ _⟩,by simp[intOf];omega⟩
   obtain rfl:j=z1.length:=by omega
   rw[List.take_length]at G;clear o I;clear hj U V;have V:=hid (show(Qn E 16 z1).length=32 from by rw[Qq (by have:=aj.out;have:=O.out;omega)];exact aj.out);go_wp2_with fail
   clear cz aq;go_loopw [14] (fun i wr=> ∃j:Nat,i= .int .i64 j/\j<=z2.length/\RowB wr g (Qn (Qn E 16 z1) 24 (z2.take j))/\But g W5 wr) (fun i _=>z2.length - (intOf i).toNat)
   case atStart=>exact⟨0,rfl,Nat.zero_le _,by rw[List.take_zero,zw];exact G.out,Y.out⟩
   case round=>
    clear Y G ak ab;obtain⟨j,rfl,hj,o,I⟩:=hrel;have G:=hid o;have Y:=hid I;have ak:g+1<wr.heap.size:=by have:=I.size;omega
    have ab:q<wr.heap.size:=by omega
    have aq:g<wr.heap.size:=by omega
    have cz:wr.cell? ⟨q,10,none⟩=some (.slice a2 z2.length c2):=qd ((I.block q (by omega) (by omega)).trans ar.out) 10;by_cases U:j<z2.length
    case pos=>
     obtain⟨bb,a9,rfl,q1,q2,q3,q4⟩:=qab aZ.out (ac▸an.out.trans (I.below (by omega) (by omega))) U;have Z:=o.set (24+j) (qo z2 j);rw[jV U (by have:=V.out;have:=S.out;omega)]at Z;have ah:=hid Z;have D:(Qn (Qn E 16 z1) 24 (z2.take j)).length=32:=by rw[Qq (by rw[List.length_take];have:=V.out;have:=O.out;have:=S.out;omega)];exact V.out
     have co:=o.cell (i:=24+j) (by rw[D];have:=O.out;have:=S.out;omega);have fo:=frozen_of_row wr g (24+j) _ _ o;generalize qo (Qn (Qn E 16 z1) 24 (z2.take j)) (24+j)=zo at co;generalize qo z2 j=zj at*;have aU:(j:Int)<8:=by have:=O.out;have:=S.out;omega
     clear Z D o I;go_wp2
     exact⟨⟨j+1,rfl,by omega,ah.out,Y.out.set _ _⟩,by simp[intOf];omega⟩
    obtain rfl:j=z2.length:=by omega
    rw[List.take_length]at G;clear o I;clear hj U;go_wp2
    go_ret2
    refine⟨⟨_,rfl,?_⟩,by rw[ac];exact an.out.trans (Y.out.below (by omega) (by omega))⟩;have ap:=yC (big:=false) (v:=v) O.out S.out;refine⟨by rw[List.length_map,ap];rfl,.inr ⟨g,32,_,rfl,by omega,G.out,Nat.le_refl _,by unfold maxLen;omega,?_,?_⟩⟩
    ·rw[List.size_toArray,List.length_map,<-av.out,ap];rfl
    ·rw[<-av.out];exact List.take_of_length_le (by rw[List.length_map,ap];decide)
theorem qkp (b:List Int)(g n c p k:Nat)(hk:k<=8)(hp:p+k<=b.length)(I:n=b.length)(hc:n<=c)(aa:n<=65535)(x:Nat)(hx:(x:Int)<=18446744073709551615)(w:World)(h:RowB w g b):
  Calls Tryz.prog 142 #[.slice (some ⟨g,0,none⟩) n c,.int .i64 p,.int .i64 k,.int .u64 x] w fun e w'=>e= .returned (.tuple #[])/\RowB w' g (Qn b p (qD x k))/\But g w w':=by
 have J:g<w.heap.size:=(Ai h).1;have HR:=hid h;have X:=hid I;have ab:(p:Int)+k<=n:=by omega
 have ac:(n:Int)<=65535:=by omega
 clear h I;go_enter Tryz.func142,Tryz.ntmps142
 go_wp2_with fail
 go_loopw [10] (fun i wr=> ∃j:Nat,i= .int .i64 j/\j<=k/\RowB wr g (Qn b p (qD x j))/\But g w wr) (fun i _=>k - (intOf i).toNat)
 case atStart=>exact⟨0,rfl,Nat.zero_le _,by show RowB w g (Qn b p []);rw[zw];exact HR.out,But.refl _ _⟩
 case round=>
  obtain⟨j,rfl,hj,o,D⟩:=hrel;by_cases ad:j<k
  ·have Y:(Qn b p (qD x j)).length=b.length:=Qq (by rw[qH];omega);have U:=o.cell (i:=p+j) (by have:=X.out;omega);have ae:=frozen_of_row wr g (p+j) _ _ o;have af:g<wr.heap.size:=Nat.lt_of_lt_of_le J D.size;have q:=Zz x j;have r:=o.set (p+j) (byt x j);have e:(Qn b p (qD x j)).set (p+j) (byt x j)=Qn b p (qD x (j+1)):=by
    have O:=qav (b:=b) (zs:=qD x j) (p:=p) (z:=byt x j) (by rw[qH];omega);rw[qH]at O;rw[<-O,zH]
   rw[e]at r;have V:=hid r;have G:=hid D;generalize qo (Qn b p (qD x j)) (p+j)=z0 at U;have S:(j:Int)<k/\(k:Int)<=8/\0<=(j:Int)/\(p:Int)+j<n:=by omega
   obtain⟨q1,q2,q3,q4⟩:=S;clear r e Y o D;go_wp2
   exact⟨⟨j+1,rfl,by omega,V.out,G.out.set _ _⟩,by simp[intOf];omega⟩
  ·obtain rfl:j=k:=by omega
   have G:=hid D;have Z:=hid o;clear D o;go_wp2
   go_end0
   exact⟨rfl,Z.out,G.out⟩
theorem qih {v:Nat->Nat}(o:ParOk big v)(I G:Value)(f:Nat)(r:1<=f)(D:f<=9)(w:World):
  Calls Tryz.prog 143 #[parN v I G,.int .i64 f] w fun e w'=>e= .returned (.int .u64 (v f))/\Below w.heap.size w w':=by
 have q:IntKind.u64.wrap ((v f:Nat):Int)=((v f:Nat):Int):=u64_wrap_id _ (by omega) (by have:=o.le f r D;omega);unfold parN parV;clear o;rcases(show f=1\/f=2\/f=3\/f=4\/f=5\/f=6\/f=7\/f=8\/f=9 by omega)with rfl|rfl|rfl|rfl|rfl|rfl|rfl|rfl|rfl
 all_goals
  clear r D;go_enter Tryz.func143,Tryz.ntmps143
  go_wp2_with fail
  go_ret
  exact⟨rfl,Br.alloc Nl _⟩
