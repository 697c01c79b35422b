/- The output of a hasher of words. No condition. -/
import Derived.Test.YthjoojnlnlmljaaGreatP21
import Derived.Test.YthjoojnlnlmljaaGreatP16
import Derived.Test.YthjoojnlnlmljaaGreatP20
set_option linter.all false
set_option maxRecDepth 100000
set_option maxHeartbeats 8000000
namespace Go.Proofs.YthjoojnlnlmljaaGreat
open Go.ChangeShapes Go.WideShapes Go.ChangeAt Go.RowKit Go.Joins Go.Shelf Go.Maps
open Go.Lib (hid)
attribute [local go_sem] Oper.semAt_some
theorem qhr (h0 I:List Int)(node:Bool)(hh:Words 64 8 h0)(hm: ∀z∈I,0≤z∧z≤255)(p:Nat)(hv:Value)(w:World)(hE:QY true w p hv h0 I)(aL:(I.length:Int)≤281474976710656):
  Calls Tryz.prog 258 #[.pointer (some ⟨p,0,none⟩),.bool node] w fun e w'=> ∃v,e= .returned v∧w'.ownsRow w.heap.size 5 1 v 64 ((zA true h0 I node).map qt)∧Below w.heap.size w w':=by
 have bc:p<w.heap.size:=(Ai hE.1).1;obtain⟨af,aa⟩:=hE;have ap:=JM (YH true) I;have aH:=jg (YH true) I;have ak:=zp (n:=bB true) hm;have ah:=yX true hh I (nbk (bB true) I.length);have aF:=qal (YH true) I;have aw:zA true h0 I node=qN 8 (yD true (stZ true h0 I (nbk (bB true) I.length)) (QH 128 (yf (bB true) I)) ((bB true*nbk (bB true) I.length+(yf (bB true) I).length:Nat):Int) true node) 8:=by rw[ap];unfold zA;rw[aF];rfl
 simp only[cond]at af;rw[aw];clear aw aF hh;generalize stZ true h0 I (nbk (bB true) I.length)=H1 at*;generalize bB true*nbk (bB true) I.length=ag at*;generalize yf (bB true) I=Y at*;have ai:Y.length≤128:=aH;clear hm aH;obtain⟨a1,n1,c1,rfl⟩:=qs aa;obtain rfl:n1=Y.length:=yY aa;have aC:=Qq aa ak;obtain⟨s1,aB⟩:=Ex (ag+Y.length);have am:=qdt ag Y.length (by omega);have av:(s1:Int)<9223372036854775808:=by omega
 have bm:=hid av;rw[aB]at am⊢;have ax:=yl (n:=128) ak;have ao:=QM (n:=128) ai;have ar:=jC Y (.slice a1 Y.length c1) 128;obtain⟨PZ,aE⟩:=Ex (QH 128 Y);rw[aE]at ax ao ar⊢;have an:=QV true ah PZ (s1:Nat) true node;have aI:=qd5 H1 PZ ah;obtain⟨R,V⟩:=Ex (yD true H1 PZ (s1:Nat) true node);have ac:=fun(v:Value) (W:World) (h8:Holds8 W v PZ)=>aI v s1 av true node W h8 ax ao
 rw[V]at an⊢;simp only[V]at ac;have a4:=hid am;have a3:=hid ar;have aN:=hid ac;have aD:=hid ah;have aW:=hid an;have ae:=hid af;have aP:=hid aC;clear am ar aI ac ah an af aC aa ap aB aE V ax ao ak av aL;have bu:(Y.length:Int)≤128:=by omega
 go_enter Tryz.func258,Tryz.ntmps258
 go_upto_region 1 with(fail)
 refine yh (fun _ W=>Below w.heap.size w W) 15 [.v 8 (.pointer (some ⟨p,0,none⟩)),.v 9 (.pointer (some ⟨p,0,none⟩)),.v 10 (.pointer (some ⟨p,8,none⟩)),.v 11 (.agg #[.int .u64 (ag:Nat),.int .u64 0]),.v 12 (.pointer (some ⟨p,0,none⟩)),.v 13 (.pointer (some ⟨p,0,none⟩)),.v 14 (.pointer (some ⟨p,10,none⟩)),.v 15 (.slice a1 Y.length c1),.v 16 (.int .i64 (Y.length:Nat)),.v 17 (.int .u64 (Y.length:Nat)),.v 18 (.tuple #[.agg #[.int .u64 (s1:Nat),.int .u64 0],.bool false]),.v 7 (.tuple #[.agg #[.int .u64 (s1:Nat),.int .u64 0],.bool false]),.v 19 (.agg #[.int .u64 (s1:Nat),.int .u64 0]),.v 20 (.bool false),.p 5 (fun u W=> ∃J,u= .pointer (some ⟨J,0,none⟩)∧w.heap.size≤J∧ ∃c,W.heap[J]? =some (.cells c 281 (0,0))∧c.size=2),.f none [5] (fun vs W=> ∃J,vs=[.pointer (some ⟨J,0,none⟩)]∧w.heap.size≤J∧W.heap[J]? =some (.cells #[.int .u64 (s1:Nat),.int .u64 0] 281 (0,0))),.v 6 (.bool false)] (by exact⟨(fun _ _ X _ h=>by obtain⟨J,e,h3,c,h4,h5⟩:=h;exact⟨J,e,h3,c,qg h4 X,h5⟩),(fun _ _ X _ h=>by obtain⟨J,e,h3,h4⟩:=h;exact⟨J,e,h3,qg h4 X⟩),trivial⟩) Br.drew (fun _ _ _ h X=>h.trans (X.mono h.size)) ?_ ?_ ?_
 ·repeat' (with_reducible first|exact qz|refine qx ?_ ?_)
  all_goals try
   refine .inr ?_;intro A x W f r V hf o D K G;have a0:=r.2 0 (by decide);conv at a0=>rhs;whnf
   simp only[QW,Q8]at D;clear o r;first
   | go_simp
     exact G _ _ BR rfl
   | have y0:IntKind.u64.wrap (Y.length:Int)=(Y.length:Int):=u64_wrap_id _ (by omega) (by omega)
     go_simp
     exact G _ _ BR rfl
  any_goals exact .inl rfl
  all_goals refine .inr ?_
  ·intro A x W f r V hf o _ K G;have aV:=gw r o 2 10;clear o r;have Z:=qg ae.out V;refine Qf 281 _ rfl p 8 aV 283 _ #[.int .u64 (ag:Nat),.int .u64 0] (0,0) _ Z Tryz.underlying281 rfl (by kernel_rfl) (qdp _ _ _) (G _ _ Br rfl)
  ·intro A x W f r V hf o _ K G;have bi:=gw r o 6 14;clear o r;have Z:=qg ae.out V;have c0:W.cell? ⟨p,10,none⟩=some (.slice a1 Y.length c1):=qd Z 10;go_simp
   exact G _ _ BR rfl
  ·intro A x W f r V hf o _ K G;have bk:=gw r o 3 11;have bj:=gw r o 9 17;clear o r;go_simp
   refine(a4.out _).mono ?_;rintro e w' ⟨rfl,X⟩;exact G _ _ X rfl
  ·intro A x W f r V hf o _ K G;clear o r;go_simp
   exact G _ _ (Br.alloc Nl _) ⟨W.heap.size,rfl,V.size,_,Wn W _,rfl⟩
 ·intro A x W r V o K G;have g5:(fun u W=> ∃J,u= .pointer (some ⟨J,0,none⟩)∧w.heap.size≤J∧ ∃c,W.heap[J]? =some (.cells c 281 (0,0))∧c.size=2) (x 5) W:=o ⟨14,.data⟩ (by simp) rfl;have a5:A.tmps.getD 5 undef=x 5:=r.1 5 (by decide);have aU:=gw r o 12 19;clear o r;obtain⟨J,e5,aJ,c,al,a8⟩:=g5;refine wp_store_row 281 _ _ rfl J #[.int .u64 (s1:Nat),.int .u64 0] (a5.trans e5) aU 281 c al (by kernel_rfl) (by rw[a8];rfl) (by simp[Value.oneCell']) ?_;have aY:Below w.heap.size w (W.setRow J #[.int .u64 (s1:Nat),.int .u64 0]):=below_setRow V aJ _;refine G _ _ (fun _=>rfl) aY ⟨.inr (fun _ h=>h),.inr (fun _ h=>h),.inr (fun _ h=>h),.inr (fun _ h=>h),.inr (fun _ h=>h),.inr (fun _ h=>h),.inr (fun _ h=>h),.inr (fun _ h=>h),.inr (fun _ h=>h),.inr (fun _ h=>h),.inr (fun _ h=>h),.inr (fun _ h=>h),.inr (fun _ h=>h),.inr (fun _ h=>h),.inr (fun u h=>?_),.inl rfl,.inr (fun _ h=>h),trivial⟩ ⟨J,by simp[e5],aJ,setRow_heap _ _ _ _ _ _ al⟩;obtain⟨q,e,q1,c',q2,q3⟩:=h;refine⟨q,e,q1,?_⟩;by_cases hq:q=J
  ·subst hq;exact⟨_,setRow_heap _ _ _ _ _ _ al,rfl⟩
  ·exact⟨c',(setRow_other _ _ _ _ hq).trans q2,q3⟩
 intro x W V ad;obtain⟨e5,aK, -⟩:=ad;change (fun u W=> ∃J,u= .pointer (some ⟨J,0,none⟩)∧w.heap.size≤J∧ ∃c,W.heap[J]? =some (.cells c 281 (0,0))∧c.size=2) (x 5) W at e5
 obtain⟨pc,e5,aQ, -⟩:=e5;obtain⟨bo,aG,aM,aq⟩:=aK;simp only[List.map_cons,List.map_nil,e5,List.cons.injEq,Value.pointer.injEq,Option.some.injEq,Addr.mk.injEq,and_true]at aG;obtain rfl:=aG;simp only[QF,Act.put,Ls,e5];clear e5;have aj:=qg ae.out V;have ay:=aP.out.below V;have ab:=hid aj;have aX:=hid ay;have aZ:=hid aq;have a6:=hid V;have a9:p<W.heap.size:=(Ai aj).1;have ba:pc<W.heap.size:=(Ai aq).1;have au:w.heap.size≤W.heap.size:=V.size;clear aj ay aq V x aQ aM;generalize W=W2 at*;go_upto_region 2 with(fail)
 refine qE (n:=26) (w0:=W2) (B:=W2.heap.size) [.v 21 (.pointer (some ⟨p,0,none⟩)),.v 22 (.pointer (some ⟨p,0,none⟩)),.v 23 (.pointer (some ⟨p,13,none⟩)),.v 24 (.func (.func 185) #[] #[]),.v 25 (.pointer (some ⟨p,0,none⟩)),.v 26 (.pointer (some ⟨p,0,none⟩)),.v 27 (.pointer (some ⟨p,12,none⟩)),.v 28 (.func (.func 184) #[] #[]),.v 29 (.pointer (some ⟨p,0,none⟩)),.v 30 (.pointer (some ⟨p,0,none⟩)),.v 31 (.pointer (some ⟨p,0,none⟩)),.v 32 (.agg (qj .u64 H1)),.v 33 (.pointer (some ⟨p,0,none⟩)),.v 34 (.pointer (some ⟨p,0,none⟩)),.v 35 (.pointer (some ⟨p,10,none⟩)),.v 36 (.slice a1 Y.length c1),.v 37 (.pointer (some ⟨p,0,none⟩)),.v 38 (.pointer (some ⟨p,0,none⟩)),.v 39 (.pointer (some ⟨p,11,none⟩)),.v 40 (.int .i64 128),.p 41 (fun u W=>W.ownsRow W2.heap.size 5 1 u 128 (PZ.map qt)),.v 42 (.agg #[.int .u64 (s1:Nat),.int .u64 0]),.v 43 (.bool node),.v 44 (.agg (qj .u64 R)),.p 45 (fun u W=>W.ownsRow W2.heap.size 5 1 u 64 ((qN 8 R 8).map qt)),.p 4 (fun u W=>W.ownsRow W2.heap.size 5 1 u 64 ((qN 8 R 8).map qt))] (by exact⟨(fun _ _ _ h X=>qi h (fun g _ hg=>X.block g hg)),(fun _ _ _ h X=>qi h (fun g _ hg=>X.block g hg)),(fun _ _ _ h X=>qi h (fun g _ hg=>X.block g hg)),trivial⟩) Br.drew Nl ?_ ?_
 ·repeat' (with_reducible first|exact qz|refine qx ?_ ?_)
  all_goals try
   intro A x W r U O o D K G;have a0:=r.2 0 (by decide);conv at a0=>rhs;whnf
   have a1:=r.2 1 (by decide);conv at a1=>rhs;whnf
   simp only[QW,Q8]at D;clear o r;go_simp
   exact G _ _ BR rfl
  ·intro A x W r U O o _ K G;have bt:=gv r o 2 23;clear o r;have Z:=qg ab.out U;have c0:W.cell? ⟨p,13,none⟩=some (.func (.func 185) #[] #[]):=qd Z 13;go_simp
   exact G _ _ BR rfl
  ·intro A x W r U O o _ K G;have bd:=gv r o 6 27;clear o r;have Z:=qg ab.out U;have c0:W.cell? ⟨p,12,none⟩=some (.func (.func 184) #[] #[]):=qd Z 12;go_simp
   exact G _ _ BR rfl
  ·intro A x W r U O o _ K G;have aR:=gv r o 10 31;clear o r;have Z:=qg ab.out U;refine Qf 274 _ rfl p 0 aR 283 _ (qj .u64 H1) (0,0) _ Z Tryz.underlying274 rfl (by rw[qf,aD.out.1];kernel_rfl) (qhJ aD.out _ _) (G _ _ Br rfl)
  ·intro A x W r U O o _ K G;have bg:=gv r o 14 35;clear o r;have Z:=qg ab.out U;have c0:W.cell? ⟨p,10,none⟩=some (.slice a1 Y.length c1):=qd Z 10;go_simp
   exact G _ _ BR rfl
  ·intro A x W r U O o _ K G;have bb:=gv r o 18 39;clear o r;have Z:=qg ab.out U;have c0:W.cell? ⟨p,11,none⟩=some (.int .i64 128):=qd Z 11;go_simp
   exact G _ _ BR rfl
  ·intro A x W r U O o _ K G;have bl:=gv r o 15 36;have bn:=gv r o 19 40;clear o r;go_simp
   refine(a3.out _ (aX.out.below U) ai (by decide)).mono ?_;rintro e w' ⟨u,rfl,ho,X⟩;exact G _ _ X (ownsRow_le ho O)
  ·intro A x W r U O o _ K G;have a5:=r.2 5 (by decide);conv at a5=>rhs;whnf
   clear o r;have Z:=qg aZ.out U;refine wp_load_row 281 _ rfl pc a5 _ _ _ _ Z Tryz.underlying281 rfl (by kernel_rfl) (G _ _ Br rfl)
  ·intro A x W r U O o _ K G;have bh:=gv r o 7 28;have be:=gv r o 11 32;have a7:(fun u W=>W.ownsRow W2.heap.size 5 1 u 128 (PZ.map qt)) (x 41) W:=o ⟨20,.data⟩ (by simp) rfl _ rfl;have bf:A.tmps.getD 41 undef=x 41:=r.1 41 (by decide);have br:=gv r o 21 42;have bs:=gv r o 22 43;clear o r;go_simp
   refine(aN.out _ _ (Q7 a7)).mono ?_;rintro e w' ⟨rfl,X⟩;exact G _ _ X rfl
  ·intro A x W r U O o _ K G;have bq:=gv r o 3 24;have bp:=gv r o 23 44;clear o r;go_simp
   refine(qfC R aW.out _).mono ?_;rintro e w' ⟨u,rfl,ho,X⟩;exact G _ _ X (ownsRow_le ho O)
  ·intro A x W r U O o _ K G;have aT:(fun u W=>W.ownsRow W2.heap.size 5 1 u 64 ((qN 8 R 8).map qt)) (x 45) W:=o ⟨24,.data⟩ (by simp) rfl _ rfl;have aO:A.tmps.getD 45 undef=x 45:=r.1 45 (by decide);clear o r;go_simp
   exact G _ _ Br (aO▸aT)
 intro x W U O ad;obtain⟨az,aA,e4, -⟩:=ad;change (fun u W=>W.ownsRow W2.heap.size 5 1 u 128 (PZ.map qt)) (x 41) W at az
 change (fun u W=>W.ownsRow W2.heap.size 5 1 u 64 ((qN 8 R 8).map qt)) (x 45) W at aA
 change (fun u W=>W.ownsRow W2.heap.size 5 1 u 64 ((qN 8 R 8).map qt)) (x 4) W at e4
 refine qw ?_;simp only[QF,Act.put,Ls];have aS:=a6.out.trans (U.mono au);have E4:=hid (ownsRow_le e4 au);clear az aA e4 U O;go_wp2
 go_ret
 exact⟨_,rfl,E4.out,aS⟩
theorem qgr (h0 I:List Int)(node:Bool)(hh:Words 32 8 h0)(hm: ∀z∈I,0≤z∧z≤255)(p:Nat)(hv:Value)(w:World)(hE:QY false w p hv h0 I)(aL:(I.length:Int)≤281474976710656):
  Calls Tryz.prog 264 #[.pointer (some ⟨p,0,none⟩),.bool node] w fun e w'=> ∃v,e= .returned v∧w'.ownsRow w.heap.size 5 1 v 32 ((zA false h0 I node).map qt)∧Below w.heap.size w w':=by
 have bc:p<w.heap.size:=(Ai hE.1).1;obtain⟨af,aa⟩:=hE;have ap:=JM (YH false) I;have aH:=jg (YH false) I;have ak:=zp (n:=bB false) hm;have ah:=yX false hh I (nbk (bB false) I.length);have aF:=qal (YH false) I;have aw:zA false h0 I node=qN 4 (yD false (stZ false h0 I (nbk (bB false) I.length)) (QH 64 (yf (bB false) I)) ((bB false*nbk (bB false) I.length+(yf (bB false) I).length:Nat):Int) true node) 8:=by rw[ap];unfold zA;rw[aF];rfl
 simp only[cond]at af;rw[aw];clear aw aF hh;generalize stZ false h0 I (nbk (bB false) I.length)=H1 at*;generalize bB false*nbk (bB false) I.length=ag at*;generalize yf (bB false) I=Y at*;have ai:Y.length≤64:=aH;clear hm aH;obtain⟨a1,n1,c1,rfl⟩:=qs aa;obtain rfl:n1=Y.length:=yY aa;have aC:=Qq aa ak;obtain⟨s1,aB⟩:=Ex (ag+Y.length);have am:=qdt ag Y.length (by omega);have av:(s1:Int)<9223372036854775808:=by omega
 have bm:=hid av;rw[aB]at am⊢;have ax:=yl (n:=64) ak;have ao:=QM (n:=64) ai;have ar:=jC Y (.slice a1 Y.length c1) 64;obtain⟨PZ,aE⟩:=Ex (QH 64 Y);rw[aE]at ax ao ar⊢;have an:=QV false ah PZ (s1:Nat) true node;have aI:=qcz H1 PZ ah;obtain⟨R,V⟩:=Ex (yD false H1 PZ (s1:Nat) true node);have ac:=fun(v:Value) (W:World) (h8:Holds8 W v PZ)=>aI v s1 av true node W h8 ax ao
 rw[V]at an⊢;simp only[V]at ac;have a4:=hid am;have a3:=hid ar;have aN:=hid ac;have aD:=hid ah;have aW:=hid an;have ae:=hid af;have aP:=hid aC;clear am ar aI ac ah an af aC aa ap aB aE V ax ao ak av aL;have bu:(Y.length:Int)≤64:=by omega
 go_enter Tryz.func264,Tryz.ntmps264
 go_upto_region 1 with(fail)
 refine yh (fun _ W=>Below w.heap.size w W) 15 [.v 8 (.pointer (some ⟨p,0,none⟩)),.v 9 (.pointer (some ⟨p,0,none⟩)),.v 10 (.pointer (some ⟨p,8,none⟩)),.v 11 (.agg #[.int .u64 (ag:Nat),.int .u64 0]),.v 12 (.pointer (some ⟨p,0,none⟩)),.v 13 (.pointer (some ⟨p,0,none⟩)),.v 14 (.pointer (some ⟨p,10,none⟩)),.v 15 (.slice a1 Y.length c1),.v 16 (.int .i64 (Y.length:Nat)),.v 17 (.int .u64 (Y.length:Nat)),.v 18 (.tuple #[.agg #[.int .u64 (s1:Nat),.int .u64 0],.bool false]),.v 7 (.tuple #[.agg #[.int .u64 (s1:Nat),.int .u64 0],.bool false]),.v 19 (.agg #[.int .u64 (s1:Nat),.int .u64 0]),.v 20 (.bool false),.p 5 (fun u W=> ∃J,u= .pointer (some ⟨J,0,none⟩)∧w.heap.size≤J∧ ∃c,W.heap[J]? =some (.cells c 281 (0,0))∧c.size=2),.f none [5] (fun vs W=> ∃J,vs=[.pointer (some ⟨J,0,none⟩)]∧w.heap.size≤J∧W.heap[J]? =some (.cells #[.int .u64 (s1:Nat),.int .u64 0] 281 (0,0))),.v 6 (.bool false)] (by exact⟨(fun _ _ X _ h=>by obtain⟨J,e,h3,c,h4,h5⟩:=h;exact⟨J,e,h3,c,qg h4 X,h5⟩),(fun _ _ X _ h=>by obtain⟨J,e,h3,h4⟩:=h;exact⟨J,e,h3,qg h4 X⟩),trivial⟩) Br.drew (fun _ _ _ h X=>h.trans (X.mono h.size)) ?_ ?_ ?_
 ·repeat' (with_reducible first|exact qz|refine qx ?_ ?_)
  all_goals try
   refine .inr ?_;intro A x W f r V hf o D K G;have a0:=r.2 0 (by decide);conv at a0=>rhs;whnf
   simp only[QW,Q8]at D;clear o r;first
   | go_simp
     exact G _ _ BR rfl
   | have y0:IntKind.u64.wrap (Y.length:Int)=(Y.length:Int):=u64_wrap_id _ (by omega) (by omega)
     go_simp
     exact G _ _ BR rfl
  any_goals exact .inl rfl
  all_goals refine .inr ?_
  ·intro A x W f r V hf o _ K G;have aV:=gw r o 2 10;clear o r;have Z:=qg ae.out V;refine Qf 281 _ rfl p 8 aV 291 _ #[.int .u64 (ag:Nat),.int .u64 0] (0,0) _ Z Tryz.underlying281 rfl (by kernel_rfl) (qdo _ _ _) (G _ _ Br rfl)
  ·intro A x W f r V hf o _ K G;have bi:=gw r o 6 14;clear o r;have Z:=qg ae.out V;have c0:W.cell? ⟨p,10,none⟩=some (.slice a1 Y.length c1):=qd Z 10;go_simp
   exact G _ _ BR rfl
  ·intro A x W f r V hf o _ K G;have bk:=gw r o 3 11;have bj:=gw r o 9 17;clear o r;go_simp
   refine(a4.out _).mono ?_;rintro e w' ⟨rfl,X⟩;exact G _ _ X rfl
  ·intro A x W f r V hf o _ K G;clear o r;go_simp
   exact G _ _ (Br.alloc Nl _) ⟨W.heap.size,rfl,V.size,_,Wn W _,rfl⟩
 ·intro A x W r V o K G;have g5:(fun u W=> ∃J,u= .pointer (some ⟨J,0,none⟩)∧w.heap.size≤J∧ ∃c,W.heap[J]? =some (.cells c 281 (0,0))∧c.size=2) (x 5) W:=o ⟨14,.data⟩ (by simp) rfl;have a5:A.tmps.getD 5 undef=x 5:=r.1 5 (by decide);have aU:=gw r o 12 19;clear o r;obtain⟨J,e5,aJ,c,al,a8⟩:=g5;refine wp_store_row 281 _ _ rfl J #[.int .u64 (s1:Nat),.int .u64 0] (a5.trans e5) aU 281 c al (by kernel_rfl) (by rw[a8];rfl) (by simp[Value.oneCell']) ?_;have aY:Below w.heap.size w (W.setRow J #[.int .u64 (s1:Nat),.int .u64 0]):=below_setRow V aJ _;refine G _ _ (fun _=>rfl) aY ⟨.inr (fun _ h=>h),.inr (fun _ h=>h),.inr (fun _ h=>h),.inr (fun _ h=>h),.inr (fun _ h=>h),.inr (fun _ h=>h),.inr (fun _ h=>h),.inr (fun _ h=>h),.inr (fun _ h=>h),.inr (fun _ h=>h),.inr (fun _ h=>h),.inr (fun _ h=>h),.inr (fun _ h=>h),.inr (fun _ h=>h),.inr (fun u h=>?_),.inl rfl,.inr (fun _ h=>h),trivial⟩ ⟨J,by simp[e5],aJ,setRow_heap _ _ _ _ _ _ al⟩;obtain⟨q,e,q1,c',q2,q3⟩:=h;refine⟨q,e,q1,?_⟩;by_cases hq:q=J
  ·subst hq;exact⟨_,setRow_heap _ _ _ _ _ _ al,rfl⟩
  ·exact⟨c',(setRow_other _ _ _ _ hq).trans q2,q3⟩
 intro x W V ad;obtain⟨e5,aK, -⟩:=ad;change (fun u W=> ∃J,u= .pointer (some ⟨J,0,none⟩)∧w.heap.size≤J∧ ∃c,W.heap[J]? =some (.cells c 281 (0,0))∧c.size=2) (x 5) W at e5
 obtain⟨pc,e5,aQ, -⟩:=e5;obtain⟨bo,aG,aM,aq⟩:=aK;simp only[List.map_cons,List.map_nil,e5,List.cons.injEq,Value.pointer.injEq,Option.some.injEq,Addr.mk.injEq,and_true]at aG;obtain rfl:=aG;simp only[QF,Act.put,Ls,e5];clear e5;have aj:=qg ae.out V;have ay:=aP.out.below V;have ab:=hid aj;have aX:=hid ay;have aZ:=hid aq;have a6:=hid V;have a9:p<W.heap.size:=(Ai aj).1;have ba:pc<W.heap.size:=(Ai aq).1;have au:w.heap.size≤W.heap.size:=V.size;clear aj ay aq V x aQ aM;generalize W=W2 at*;go_upto_region 2 with(fail)
 refine qE (n:=26) (w0:=W2) (B:=W2.heap.size) [.v 21 (.pointer (some ⟨p,0,none⟩)),.v 22 (.pointer (some ⟨p,0,none⟩)),.v 23 (.pointer (some ⟨p,13,none⟩)),.v 24 (.func (.func 188) #[] #[]),.v 25 (.pointer (some ⟨p,0,none⟩)),.v 26 (.pointer (some ⟨p,0,none⟩)),.v 27 (.pointer (some ⟨p,12,none⟩)),.v 28 (.func (.func 187) #[] #[]),.v 29 (.pointer (some ⟨p,0,none⟩)),.v 30 (.pointer (some ⟨p,0,none⟩)),.v 31 (.pointer (some ⟨p,0,none⟩)),.v 32 (.agg (qj .u32 H1)),.v 33 (.pointer (some ⟨p,0,none⟩)),.v 34 (.pointer (some ⟨p,0,none⟩)),.v 35 (.pointer (some ⟨p,10,none⟩)),.v 36 (.slice a1 Y.length c1),.v 37 (.pointer (some ⟨p,0,none⟩)),.v 38 (.pointer (some ⟨p,0,none⟩)),.v 39 (.pointer (some ⟨p,11,none⟩)),.v 40 (.int .i64 64),.p 41 (fun u W=>W.ownsRow W2.heap.size 5 1 u 64 (PZ.map qt)),.v 42 (.agg #[.int .u64 (s1:Nat),.int .u64 0]),.v 43 (.bool node),.v 44 (.agg (qj .u32 R)),.p 45 (fun u W=>W.ownsRow W2.heap.size 5 1 u 32 ((qN 4 R 8).map qt)),.p 4 (fun u W=>W.ownsRow W2.heap.size 5 1 u 32 ((qN 4 R 8).map qt))] (by exact⟨(fun _ _ _ h X=>qi h (fun g _ hg=>X.block g hg)),(fun _ _ _ h X=>qi h (fun g _ hg=>X.block g hg)),(fun _ _ _ h X=>qi h (fun g _ hg=>X.block g hg)),trivial⟩) Br.drew Nl ?_ ?_
 ·repeat' (with_reducible first|exact qz|refine qx ?_ ?_)
  all_goals try
   intro A x W r U O o D K G;have a0:=r.2 0 (by decide);conv at a0=>rhs;whnf
   have a1:=r.2 1 (by decide);conv at a1=>rhs;whnf
   simp only[QW,Q8]at D;clear o r;go_simp
   exact G _ _ BR rfl
  ·intro A x W r U O o _ K G;have bt:=gv r o 2 23;clear o r;have Z:=qg ab.out U;have c0:W.cell? ⟨p,13,none⟩=some (.func (.func 188) #[] #[]):=qd Z 13;go_simp
   exact G _ _ BR rfl
  ·intro A x W r U O o _ K G;have bd:=gv r o 6 27;clear o r;have Z:=qg ab.out U;have c0:W.cell? ⟨p,12,none⟩=some (.func (.func 187) #[] #[]):=qd Z 12;go_simp
   exact G _ _ BR rfl
  ·intro A x W r U O o _ K G;have aR:=gv r o 10 31;clear o r;have Z:=qg ab.out U;refine Qf 284 _ rfl p 0 aR 291 _ (qj .u32 H1) (0,0) _ Z Tryz.underlying284 rfl (by rw[qf,aD.out.1];kernel_rfl) (qhI aD.out _ _) (G _ _ Br rfl)
  ·intro A x W r U O o _ K G;have bg:=gv r o 14 35;clear o r;have Z:=qg ab.out U;have c0:W.cell? ⟨p,10,none⟩=some (.slice a1 Y.length c1):=qd Z 10;go_simp
   exact G _ _ BR rfl
  ·intro A x W r U O o _ K G;have bb:=gv r o 18 39;clear o r;have Z:=qg ab.out U;have c0:W.cell? ⟨p,11,none⟩=some (.int .i64 64):=qd Z 11;go_simp
   exact G _ _ BR rfl
  ·intro A x W r U O o _ K G;have bl:=gv r o 15 36;have bn:=gv r o 19 40;clear o r;go_simp
   refine(a3.out _ (aX.out.below U) ai (by decide)).mono ?_;rintro e w' ⟨u,rfl,ho,X⟩;exact G _ _ X (ownsRow_le ho O)
  ·intro A x W r U O o _ K G;have a5:=r.2 5 (by decide);conv at a5=>rhs;whnf
   clear o r;have Z:=qg aZ.out U;refine wp_load_row 281 _ rfl pc a5 _ _ _ _ Z Tryz.underlying281 rfl (by kernel_rfl) (G _ _ Br rfl)
  ·intro A x W r U O o _ K G;have bh:=gv r o 7 28;have be:=gv r o 11 32;have a7:(fun u W=>W.ownsRow W2.heap.size 5 1 u 64 (PZ.map qt)) (x 41) W:=o ⟨20,.data⟩ (by simp) rfl _ rfl;have bf:A.tmps.getD 41 undef=x 41:=r.1 41 (by decide);have br:=gv r o 21 42;have bs:=gv r o 22 43;clear o r;go_simp
   refine(aN.out _ _ (Q7 a7)).mono ?_;rintro e w' ⟨rfl,X⟩;exact G _ _ X rfl
  ·intro A x W r U O o _ K G;have bq:=gv r o 3 24;have bp:=gv r o 23 44;clear o r;go_simp
   refine(qfD R aW.out _).mono ?_;rintro e w' ⟨u,rfl,ho,X⟩;exact G _ _ X (ownsRow_le ho O)
  ·intro A x W r U O o _ K G;have aT:(fun u W=>W.ownsRow W2.heap.size 5 1 u 32 ((qN 4 R 8).map qt)) (x 45) W:=o ⟨24,.data⟩ (by simp) rfl _ rfl;have aO:A.tmps.getD 45 undef=x 45:=r.1 45 (by decide);clear o r;go_simp
   exact G _ _ Br (aO▸aT)
 intro x W U O ad;obtain⟨az,aA,e4, -⟩:=ad;change (fun u W=>W.ownsRow W2.heap.size 5 1 u 64 (PZ.map qt)) (x 41) W at az
 change (fun u W=>W.ownsRow W2.heap.size 5 1 u 32 ((qN 4 R 8).map qt)) (x 45) W at aA
 change (fun u W=>W.ownsRow W2.heap.size 5 1 u 32 ((qN 4 R 8).map qt)) (x 4) W at e4
 refine qw ?_;simp only[QF,Act.put,Ls];have aS:=a6.out.trans (U.mono au);have E4:=hid (ownsRow_le e4 au);clear az aA e4 U O;go_wp2
 go_ret
 exact⟨_,rfl,E4.out,aS⟩
def yn (kind dg:Int)(bv kv:Value)(last:Bool)(wr:Int)(e:Value):Array Value:= #[.int .i64 kind,.int .i64 dg,bv,kv,.bool last,.int .u64 wr,e]
def phT (big:Bool):TypeId:=cond big 277 287
theorem Hold.of_len {w:World}{a:Option Addr}{n c:Nat}{zs:List Int}(h:Hold w (.slice a n c) zs):n=zs.length:=by
 obtain⟨o,q,e, -⟩:=h.slice;simp only[Value.slice.injEq]at e;exact e.2.1
theorem YD {w:World}{v:Value}{zs:List Int}{b:Nat}(h:Hold w v zs)(o:zs≠[])(r:v.ownBlock=some b):b<w.heap.size:=by
 rcases h.2 with⟨D, -⟩|⟨I,G,rfl, -, -,q⟩
 ·exact absurd D o
 ·obtain⟨b',off,rfl,q, -⟩:=q.resolve_left o;simp only[Value.ownBlock,Option.some.injEq]at r;subst r;exact q
theorem qhv {W:World}{q:Nat}{o D:Int}{r G:Value}{la:Bool}{wr:Int}{e v:Value}{T:TypeId}(h:W.heap[q]? =some (.cells (yn o D r G la wr e) T (0,0))):(W.setCell ⟨q,6,none⟩ v).heap[q]? =some (.cells (yn o D r G la wr v) T (0,0)):=heap_setCell_same W q 6 _ _ v h
theorem jF {W:World}{q:Nat}{o D:Int}{r G:Value}{la b:Bool}{wr:Int}{e:Value}{T:TypeId}(h:W.heap[q]? =some (.cells (yn o D r G la wr e) T (0,0))):(W.setCell ⟨q,4,none⟩ (.bool b)).heap[q]? =some (.cells (yn o D r G b wr e) T (0,0)):=heap_setCell_same W q 4 _ _ _ h
theorem qfQ {W:World}{q:Nat}{o D:Int}{r G:Value}{la:Bool}{wr x:Int}{e:Value}{T:TypeId}(h:W.heap[q]? =some (.cells (yn o D r G la wr e) T (0,0))):(W.setCell ⟨q,5,none⟩ (.int .u64 x)).heap[q]? =some (.cells (yn o D r G la x e) T (0,0)):=heap_setCell_same W q 5 _ _ _ h
theorem qa2 {big:Bool}{W:World}{p:Nat}{o:List Int}(h:W.heap[p]? =some (.cells (cond big zE zD o 0 (.slice none 0 0)) (cond big 283 291) (0,0))):QY big W p (.slice none 0 0) o []:=by
 have e:yf (bB big) []=[]:=by simp[yf]
 refine⟨?_,by rw[e];exact Wo _ _ _ _⟩;simpa [qd4,stZ] using h
theorem yN {big:Bool}{W W':World}{p:Nat}{q:Value}{r o:List Int}(h:QY big W p q r o)(D:Below W.heap.size W W'):QY big W' p q r o:=
 ⟨qg h.1 D,qi h.2 (fun g _ G=>D.block g G)⟩
theorem qbw {W:World}{B n b:Nat}{e:TypeId}{v:Value}{xs:List Value}(h:W.ownsRow B e 1 v n xs)(o:v.ownBlock=some b):B≤b:=by
 rcases h.2 with⟨rfl, -⟩|⟨g,r,q,rfl,D, -⟩
 ·cases o
 ·simp only[Value.ownBlock,Option.some.injEq]at o;omega
theorem Yr {P:Program}{o:Oper}{a:Act}{K:Act→World→Prop}{Q:Exit→Act→World→Prop}{n:Nat}{T:TypeId}{x:Value}{q:String}{W:World}{f:FuncId}{g:FuncId×Value→World→Result Next}(r:(method n T x q).run P W= .ok (f,x) W)(h:Oper.upon P o a K Q (g (f,x) W)):Oper.upon P o a K Q (((method n T x q).run P W).andThen g):=by
 rw[r];exact h
theorem qfG (bs G:List Int)(q:Nat)(dg wr:Int)(la:Bool)(bv kv e0:Value)(w:World)(ai:w.heap[q]? =some (.cells (yn 1 dg bv kv la wr e0) 179 (0,0)))(hB:Hold w bv bs)(I:Hold w kv G)(hl:bs.length=64)(a6:G.length≤64)(ar:kv.ownBlock≠some q):
  Calls Tryz.prog 132 #[.pointer (some ⟨q,0,none⟩)] w fun e w'=>e= .returned (.tuple #[])∧(∃p hv,w.heap.size≤p∧w'.heap[q]? =some (.cells (yn 1 dg bv kv false 0 (.iface 277 (.pointer (some ⟨p,0,none⟩)))) 179 (0,0))∧QY true w' p hv (h0Z true bs) (yv 128 G)∧(∀g,hv.ownBlock=some g→w.heap.size≤g))∧Spare (fun k=>k≠q) w w':=by
 have aZ:q<w.heap.size:=(Ai ai).1;obtain⟨kn,kc,ka,rfl⟩: ∃n c a,kv= .slice a n c:=by obtain⟨a,c,e, -⟩:=I.slice;exact⟨_,_,_,e⟩
 obtain rfl:kn=G.length:=I.of_len;have ak:=hid ai;have HB:=hid hB;have HK:=hid I;have HL:=hid hl;have aO:=hid ar;clear ai hB I hl ar;go_enter Tryz.func132,Tryz.ntmps132
 go_upto_region 0 with(fail)
 refine qE (n:=10) (w0:=w) (B:=w.heap.size) [.v 2 (.pointer (some ⟨q,0,none⟩)),.v 3 (.pointer (some ⟨q,0,none⟩)),.v 4 (.pointer (some ⟨q,0,none⟩)),.v 5 (.pointer (some ⟨q,0,none⟩)),.v 6 (.int .i64 1),.v 7 (.pointer (some ⟨q,0,none⟩)),.v 8 (.pointer (some ⟨q,0,none⟩)),.v 9 (.pointer (some ⟨q,2,none⟩)),.v 10 bv,.p 11 (fun u W=> ∃p,u= .iface 277 (.pointer (some ⟨p,0,none⟩))∧w.heap.size≤p∧W.heap[p]? =some (.cells (zE (h0Z true bs) 0 (.slice none 0 0)) 283 (0,0)))] (by exact⟨(fun _ _ _ h U=>by obtain⟨p,e,h3,h4⟩:=h;exact⟨p,e,h3,qg h4 U⟩),trivial⟩) Br.drew Nl ?_ ?_
 ·repeat' (with_reducible first|exact qz|refine qx ?_ ?_)
  all_goals try
   intro A x W r hW ac o D K I;have a0:=r.2 0 (by decide);conv at a0=>rhs;whnf
   simp only[QW,Q8]at D;clear o r;go_simp
   exact I _ _ BR rfl
  ·intro A x W r hW ac o _ K I;have g5:=gv r o 3 5;clear o r;have g0:=qg ak.out hW;have c0:W.cell? ⟨q,0,none⟩=some (.int .i64 1):=qd g0 0;go_simp
   exact I _ _ BR rfl
  ·intro A x W r hW ac o _ K I;have g9:=gv r o 7 9;clear o r;have g0:=qg ak.out hW;have c0:W.cell? ⟨q,2,none⟩=some bv:=qd g0 2;go_simp
   exact I _ _ BR rfl
  ·intro A x W r hW ac o _ K I;have g6:=gv r o 4 6;have aY:=gv r o 8 10;clear o r;go_simp
   refine(qfF bs bv _ (HB.out.holds8.mono_below hW Nl) HB.out.1 HL.out).mono ?_;rintro e w' ⟨p,rfl,h1,h2,U⟩;exact I _ _ U ⟨p,rfl,Nat.le_trans ac h1,h2⟩
 intro x W hW ac aj;obtain⟨ae, -⟩:=aj;change (fun u W=> ∃p,u= .iface 277 (.pointer (some ⟨p,0,none⟩))∧w.heap.size≤p∧W.heap[p]? =some (.cells (zE (h0Z true bs) 0 (.slice none 0 0)) 283 (0,0))) (x 11) W at ae
 obtain⟨p,ae,aC,aq⟩:=ae;refine qp ?_;simp only[QF,Act.put,Ls,ae];clear ae;have af:=qg ak.out hW;have au:=hid aq;have aw:=hid af;have HW:=hid hW;have aE:q<W.heap.size:=(Ai af).1;have c6:W.cell? ⟨q,6,none⟩=some e0:=qd af 6;have f6:=frozen_of_row W q 6 _ _ af;clear aq af hW ac x;go_wp2_with fail
 refine qp ?_;go_wp2_with fail
 refine qp ?_;go_wp2_with fail
 refine qw ?_;have O:=qhv (v:= .iface 277 (.pointer (some ⟨p,0,none⟩))) aw.out;have Z:Spare (fun k=>k≠q) w (W.setCell ⟨q,6,none⟩ (.iface 277 (.pointer (some ⟨p,0,none⟩)))):=(Spare.of_below _ HW.out).trans (Spare.of_but ((But.refl q W).set 6 _)) (fun _ _ h=>h);have Y:(W.setCell ⟨q,6,none⟩ (.iface 277 (.pointer (some ⟨p,0,none⟩)))).heap[p]? =some (.cells (zE (h0Z true bs) 0 (.slice none 0 0)) 283 (0,0)):=(heap_setCell_other W _ _ _ (by show p≠q;omega)).trans au.out;generalize W.setCell ⟨q,6,none⟩ (.iface 277 (.pointer (some ⟨p,0,none⟩)))=J at*;clear HW aw au c6 f6 aE W;have c4:J.cell? ⟨q,4,none⟩=some (.bool la):=qd O 4;have f4:=frozen_of_row J q 4 _ _ O;have ad:q<J.heap.size:=(Ai O).1;have aa:=hid O;have X:=hid Z;have ab:=hid Y;clear O Z Y;go_upto_region 2 with(fail)
 have O:=jF (b:=false) aa.out;have Z:Spare (fun k=>k≠q) w (J.setCell ⟨q,4,none⟩ (.bool false)):=X.out.trans (Spare.of_but ((But.refl q J).set 4 _)) (fun _ _ h=>h);have Y:(J.setCell ⟨q,4,none⟩ (.bool false)).heap[p]? =some (.cells (zE (h0Z true bs) 0 (.slice none 0 0)) 283 (0,0)):=(heap_setCell_other J _ _ _ (by show p≠q;omega)).trans ab.out;generalize J.setCell ⟨q,4,none⟩ (.bool false)=A1 at*;clear X aa ab c4 f4 ad J;obtain⟨J,rfl⟩:=Ex A1;have aa:=hid O;have X:=hid Z;have ab:=hid Y;have ad:q<A1.heap.size:=(Ai O).1;have c5:A1.cell? ⟨q,5,none⟩=some (.int .u64 wr):=qd O 5;have f5:=frozen_of_row A1 q 5 _ _ O;clear O Z Y;go_upto_region 3 with(fail)
 have O:=qfQ (x:=0) aa.out;have Z:Spare (fun k=>k≠q) w (A1.setCell ⟨q,5,none⟩ (.int .u64 0)):=X.out.trans (Spare.of_but ((But.refl q A1).set 5 _)) (fun _ _ h=>h);have Y:(A1.setCell ⟨q,5,none⟩ (.int .u64 0)).heap[p]? =some (.cells (zE (h0Z true bs) 0 (.slice none 0 0)) 283 (0,0)):=(heap_setCell_other A1 _ _ _ (by show p≠q;omega)).trans ab.out;have aN:w.heap.size≤(A1.setCell ⟨q,5,none⟩ (.int .u64 0)).heap.size:=Z.size;generalize A1.setCell ⟨q,5,none⟩ (.int .u64 0)=J at*;clear X aa ab c5 f5 ad A1;have c3:J.cell? ⟨q,3,none⟩=some (.slice ka G.length kc):=qd O 3;have ad:q<J.heap.size:=(Ai O).1;have aR:p<J.heap.size:=(Ai Y).1;have aa:=hid O;have X:=hid Z;have ab:=hid Y;clear O Z Y;by_cases am:G.length=0
 case pos=>
  obtain rfl:G=[]:=List.eq_nil_of_length_eq_zero am;go_wp2
  go_end0
  exact⟨rfl,⟨p,.slice none 0 0,aC,aa.out,qa2 ab.out,fun g h=>by cases h⟩,X.out⟩
 have ap:0<G.length:=by omega
 have a4:(G.length:Int)≤64:=by omega
 go_upto_region 4 with(fail)
 have av:Hold J (.slice ka G.length kc) G:=HK.out.keep X.out.size fun b U al=>X.out.block b al (fun e=>aO.out (by rw[U,e]))
 have aQ:=hid av;have ay:=QM (n:=128) (zs:=G) (by omega);have aJ:=hid ay;have aI:=hid am;clear av ay am c3;have aF:(Value.slice ka G.length kc).ownBlock≠some p:=fun e=>by have:=YD HK.out (fun e=>by rw[e]at ap;simp at ap) e;omega
 refine yh (fun f W=>W.heap[q]? =some (.cells (yn 1 dg bv (.slice ka G.length kc) false 0 (.iface 277 (.pointer (some ⟨p,0,none⟩)))) 179 (0,0))∧(f=false→Below J.heap.size J W)∧(J.heap.size≤W.heap.size∧(∀b,b<J.heap.size→b≠p→W.heap[b]? =J.heap[b]?))∧(f=true→Spare (fun k=>k≠p) J W∧ ∃hv,QY true W p hv (h0Z true bs) (QH 128 G)∧ ∀g,hv.ownBlock=some g→J.heap.size≤g)) 16 [.v 26 (.pointer (some ⟨q,0,none⟩)),.v 27 (.pointer (some ⟨q,0,none⟩)),.v 28 (.pointer (some ⟨q,6,none⟩)),.v 29 (.iface 277 (.pointer (some ⟨p,0,none⟩))),.v 30 (.pointer (some ⟨q,0,none⟩)),.v 31 (.pointer (some ⟨q,0,none⟩)),.v 32 (.pointer (some ⟨q,3,none⟩)),.v 33 (.slice ka G.length kc),.v 34 (.pointer (some ⟨q,0,none⟩)),.v 35 (.pointer (some ⟨q,0,none⟩)),.v 36 (.pointer (some ⟨q,0,none⟩)),.v 37 (.int .i64 1),.v 38 (.int .i64 128),.p 39 (fun u W=>W.ownsRow J.heap.size 5 1 u 128 ((QH 128 G).map qt)),.v 40 (.iface 277 (.pointer (some ⟨p,0,none⟩))),.v 41 (.iface 277 (.pointer (some ⟨p,0,none⟩))),.p 42 (fun _ _=>True)] (by exact⟨(fun _ _ U _ h=>qi h (fun g _ hg=>U.block g hg)),kW,trivial⟩) ⟨aa.out,fun _=>Br.drew,⟨Nat.le_refl _,fun _ _ _=>rfl⟩,fun h=>(by cases h)⟩ (fun f W W' h U=>⟨qg h.1 U,fun e=>(h.2.1 e).trans (U.mono (h.2.1 e).size),⟨Nat.le_trans h.2.2.1.1 U.size,fun b h1 h2=>(U.block b (Nat.lt_of_lt_of_le h1 h.2.2.1.1)).trans (h.2.2.1.2 b h1 h2)⟩,fun e=>by obtain⟨h1,hv,h2,h3⟩:=h.2.2.2 e;exact⟨h1.trans (Spare.of_below _ U) (fun _ _ h=>h),hv,yN h2 U,h3⟩⟩) ?_ ?_ ?_
 ·repeat' (with_reducible first|exact qz|refine qx ?_ ?_)
  all_goals try
   refine .inr ?_;intro A x W f r V hf o D K I;have a0:=r.2 0 (by decide);conv at a0=>rhs;whnf
   simp only[QW,Q8]at D;clear o r;go_simp
   exact I _ _ BR rfl
  any_goals exact .inl rfl
  all_goals refine .inr ?_
  ·intro A x W f r V hf o _ K I;have aT:=gw r o 2 28;clear o r;have g0:=V.1;have c0:W.cell? ⟨q,6,none⟩=some (.iface 277 (.pointer (some ⟨p,0,none⟩))):=qd g0 6;go_simp
   exact I _ _ BR rfl
  ·intro A x W f r V hf o _ K I;have aS:=gw r o 6 32;clear o r;have g0:=V.1;have c0:W.cell? ⟨q,3,none⟩=some (.slice ka G.length kc):=qd g0 3;go_simp
   exact I _ _ BR rfl
  ·intro A x W f r V hf o _ K I;have aV:=gw r o 10 36;clear o r;have g0:=V.1;have c0:W.cell? ⟨q,0,none⟩=some (.int .i64 1):=qd g0 0;go_simp
   exact I _ _ BR rfl
  ·intro A x W f r V hf o _ K I;have aX:=gw r o 11 37;clear o r;go_simp
   refine(ZD true _).mono ?_;rintro e w' ⟨rfl,hw⟩;exact I _ _ (by rw[hw];exact Below.refl _ _) rfl
  ·intro A x W f r V hf o _ K I;have aU:=gw r o 7 33;have a3:=gw r o 12 38;clear o r;go_simp
   have aP:Hold W (.slice ka G.length kc) G:=aQ.out.keep V.2.2.1.1 (fun b U al=>V.2.2.1.2 b al (fun e=>aF (by rw[U,e])));refine(jC G _ 128 _ aP (by omega) (by decide)).mono ?_;rintro e w' ⟨u,rfl,ho,U⟩;exact I _ _ U (ownsRow_le ho V.2.2.1.1)
 ·intro A x W r V o K I;have a5:=gw r o 15 41;have an:(fun u W=>W.ownsRow J.heap.size 5 1 u 128 ((QH 128 G).map qt)) (x 39) W:=o ⟨13,.data⟩ (by simp) rfl;have aW:A.tmps.getD 39 undef=x 39:=r.1 39 (by decide);clear o r;have hB:=V.2.1 rfl;go_simp
  refine Yr (f:=260) (by kernel_rfl) ?_;go_simp
  have aG:=yl (n:=128) HK.out.1;have aD:Hold W (x 39) (QH 128 G):=Qq an aG;refine(qa4 (h0Z true bs) [] (QH 128 G) (QX true bs) (fun _ h=>by cases h) p (.slice none 0 0) (x 39) W (qa2 (qg ab.out hB)) aD (fun _ b U=>⟨fun e=>by have:=qbw an U;omega,fun e=>by cases e⟩) (by rw[aJ.out];simp)).mono ?_;rintro e w' ⟨rfl,⟨aM,aH,ah⟩,ag⟩
  refine I _ _ (fun h=>by cases h) ⟨(ag.block q (Ai V.1).1 ⟨by omega,fun e=>by cases e⟩).trans V.1,fun h=>(by cases h),⟨Nat.le_trans V.2.2.1.1 ag.size,fun b h1 h2=>(ag.block b (Nat.lt_of_lt_of_le h1 V.2.2.1.1) ⟨h2,fun e=>by cases e⟩).trans (V.2.2.1.2 b h1 h2)⟩,fun _=>⟨(Spare.of_below _ hB).trans ag (fun b _ h=>⟨h,fun e=>by cases e⟩),aM,aH,fun g hg=>?_⟩⟩ ⟨.inr (fun _ h=>h),.inr (fun _ h=>h),.inr (fun _ h=>h),.inr (fun _ h=>h),.inr (fun _ h=>h),.inr (fun _ h=>h),.inr (fun _ h=>h),.inr (fun _ h=>h),.inr (fun _ h=>h),.inr (fun _ h=>h),.inr (fun _ h=>h),.inr (fun _ h=>h),.inr (fun _ h=>h),.inr (fun u h=>qi h (fun g h1 h2=>ag.block g h2 ⟨by omega,fun e=>by cases e⟩)),.inr (fun _ h=>h),.inr (fun _ h=>h),.inl rfl,trivial⟩ trivial;rcases ah with ah|ah
  ·rw[ah]at hg;cases hg
  ·have:=ah g hg;have:=hB.size;omega
 intro x W V aj;obtain⟨ax,aL, -⟩:=aj;change (fun u W=>W.ownsRow J.heap.size 5 1 u 128 ((QH 128 G).map qt)) (x 39) W at ax
 change ((fun _ _=>True)) (x 42) W at aL
 simp only[QF,Act.put,Ls];obtain⟨aB, -, -,h9⟩:=V;obtain⟨ao,aK,az,aA⟩:=h9 rfl;have H9:=hid (show(∃p hv,w.heap.size≤p∧W.heap[q]? =some (.cells (yn 1 dg bv (.slice ka G.length kc) false 0 (.iface 277 (.pointer (some ⟨p,0,none⟩)))) 179 (0,0))∧QY true W p hv (h0Z true bs) (yv 128 G)∧(∀g,hv.ownBlock=some g→w.heap.size≤g))∧Spare (fun k=>k≠q) w W from⟨⟨p,aK,aC,aB,by unfold yv;rw[if_neg aI.out];exact az,fun g hg=>Nat.le_trans aN (aA g hg)⟩,X.out.trans ao (fun b U _=>by omega)⟩);clear aB ao az aA h9 ax;go_wp2
 go_end0
 exact⟨rfl,H9.out⟩
theorem qev (bs G:List Int)(q:Nat)(dg wr:Int)(la:Bool)(bv kv e0:Value)(w:World)(ai:w.heap[q]? =some (.cells (yn 2 dg bv kv la wr e0) 179 (0,0)))(hB:Hold w bv bs)(I:Hold w kv G)(hl:bs.length=32)(a6:G.length≤32)(ar:kv.ownBlock≠some q):
  Calls Tryz.prog 132 #[.pointer (some ⟨q,0,none⟩)] w fun e w'=>e= .returned (.tuple #[])∧(∃p hv,w.heap.size≤p∧w'.heap[q]? =some (.cells (yn 2 dg bv kv false 0 (.iface 287 (.pointer (some ⟨p,0,none⟩)))) 179 (0,0))∧QY false w' p hv (h0Z false bs) (yv 64 G)∧(∀g,hv.ownBlock=some g→w.heap.size≤g))∧Spare (fun k=>k≠q) w w':=by
 have aZ:q<w.heap.size:=(Ai ai).1;obtain⟨kn,kc,ka,rfl⟩: ∃n c a,kv= .slice a n c:=by obtain⟨a,c,e, -⟩:=I.slice;exact⟨_,_,_,e⟩
 obtain rfl:kn=G.length:=I.of_len;have ak:=hid ai;have HB:=hid hB;have HK:=hid I;have HL:=hid hl;have aO:=hid ar;clear ai hB I hl ar;go_enter Tryz.func132,Tryz.ntmps132
 go_upto_region 0 with(fail)
 refine qE (n:=10) (w0:=w) (B:=w.heap.size) [.v 2 (.pointer (some ⟨q,0,none⟩)),.v 3 (.pointer (some ⟨q,0,none⟩)),.v 4 (.pointer (some ⟨q,0,none⟩)),.v 5 (.pointer (some ⟨q,0,none⟩)),.v 6 (.int .i64 2),.v 7 (.pointer (some ⟨q,0,none⟩)),.v 8 (.pointer (some ⟨q,0,none⟩)),.v 9 (.pointer (some ⟨q,2,none⟩)),.v 10 bv,.p 11 (fun u W=> ∃p,u= .iface 287 (.pointer (some ⟨p,0,none⟩))∧w.heap.size≤p∧W.heap[p]? =some (.cells (zD (h0Z false bs) 0 (.slice none 0 0)) 291 (0,0)))] (by exact⟨(fun _ _ _ h U=>by obtain⟨p,e,h3,h4⟩:=h;exact⟨p,e,h3,qg h4 U⟩),trivial⟩) Br.drew Nl ?_ ?_
 ·repeat' (with_reducible first|exact qz|refine qx ?_ ?_)
  all_goals try
   intro A x W r hW ac o D K I;have a0:=r.2 0 (by decide);conv at a0=>rhs;whnf
   simp only[QW,Q8]at D;clear o r;go_simp
   exact I _ _ BR rfl
  ·intro A x W r hW ac o _ K I;have g5:=gv r o 3 5;clear o r;have g0:=qg ak.out hW;have c0:W.cell? ⟨q,0,none⟩=some (.int .i64 2):=qd g0 0;go_simp
   exact I _ _ BR rfl
  ·intro A x W r hW ac o _ K I;have g9:=gv r o 7 9;clear o r;have g0:=qg ak.out hW;have c0:W.cell? ⟨q,2,none⟩=some bv:=qd g0 2;go_simp
   exact I _ _ BR rfl
  ·intro A x W r hW ac o _ K I;have g6:=gv r o 4 6;have aY:=gv r o 8 10;clear o r;go_simp
   refine(qeu bs bv _ (HB.out.holds8.mono_below hW Nl) HB.out.1 HL.out).mono ?_;rintro e w' ⟨p,rfl,h1,h2,U⟩;exact I _ _ U ⟨p,rfl,Nat.le_trans ac h1,h2⟩
 intro x W hW ac aj;obtain⟨ae, -⟩:=aj;change (fun u W=> ∃p,u= .iface 287 (.pointer (some ⟨p,0,none⟩))∧w.heap.size≤p∧W.heap[p]? =some (.cells (zD (h0Z false bs) 0 (.slice none 0 0)) 291 (0,0))) (x 11) W at ae
 obtain⟨p,ae,aC,aq⟩:=ae;refine qp ?_;simp only[QF,Act.put,Ls,ae];clear ae;have af:=qg ak.out hW;have au:=hid aq;have aw:=hid af;have HW:=hid hW;have aE:q<W.heap.size:=(Ai af).1;have c6:W.cell? ⟨q,6,none⟩=some e0:=qd af 6;have f6:=frozen_of_row W q 6 _ _ af;clear aq af hW ac x;go_wp2_with fail
 refine qp ?_;go_wp2_with fail
 refine qp ?_;go_wp2_with fail
 refine qw ?_;have O:=qhv (v:= .iface 287 (.pointer (some ⟨p,0,none⟩))) aw.out;have Z:Spare (fun k=>k≠q) w (W.setCell ⟨q,6,none⟩ (.iface 287 (.pointer (some ⟨p,0,none⟩)))):=(Spare.of_below _ HW.out).trans (Spare.of_but ((But.refl q W).set 6 _)) (fun _ _ h=>h);have Y:(W.setCell ⟨q,6,none⟩ (.iface 287 (.pointer (some ⟨p,0,none⟩)))).heap[p]? =some (.cells (zD (h0Z false bs) 0 (.slice none 0 0)) 291 (0,0)):=(heap_setCell_other W _ _ _ (by show p≠q;omega)).trans au.out;generalize W.setCell ⟨q,6,none⟩ (.iface 287 (.pointer (some ⟨p,0,none⟩)))=J at*;clear HW aw au c6 f6 aE W;have c4:J.cell? ⟨q,4,none⟩=some (.bool la):=qd O 4;have f4:=frozen_of_row J q 4 _ _ O;have ad:q<J.heap.size:=(Ai O).1;have aa:=hid O;have X:=hid Z;have ab:=hid Y;clear O Z Y;go_upto_region 2 with(fail)
 have O:=jF (b:=false) aa.out;have Z:Spare (fun k=>k≠q) w (J.setCell ⟨q,4,none⟩ (.bool false)):=X.out.trans (Spare.of_but ((But.refl q J).set 4 _)) (fun _ _ h=>h);have Y:(J.setCell ⟨q,4,none⟩ (.bool false)).heap[p]? =some (.cells (zD (h0Z false bs) 0 (.slice none 0 0)) 291 (0,0)):=(heap_setCell_other J _ _ _ (by show p≠q;omega)).trans ab.out;generalize J.setCell ⟨q,4,none⟩ (.bool false)=A1 at*;clear X aa ab c4 f4 ad J;obtain⟨J,rfl⟩:=Ex A1;have aa:=hid O;have X:=hid Z;have ab:=hid Y;have ad:q<A1.heap.size:=(Ai O).1;have c5:A1.cell? ⟨q,5,none⟩=some (.int .u64 wr):=qd O 5;have f5:=frozen_of_row A1 q 5 _ _ O;clear O Z Y;go_upto_region 3 with(fail)
 have O:=qfQ (x:=0) aa.out;have Z:Spare (fun k=>k≠q) w (A1.setCell ⟨q,5,none⟩ (.int .u64 0)):=X.out.trans (Spare.of_but ((But.refl q A1).set 5 _)) (fun _ _ h=>h);have Y:(A1.setCell ⟨q,5,none⟩ (.int .u64 0)).heap[p]? =some (.cells (zD (h0Z false bs) 0 (.slice none 0 0)) 291 (0,0)):=(heap_setCell_other A1 _ _ _ (by show p≠q;omega)).trans ab.out;have aN:w.heap.size≤(A1.setCell ⟨q,5,none⟩ (.int .u64 0)).heap.size:=Z.size;generalize A1.setCell ⟨q,5,none⟩ (.int .u64 0)=J at*;clear X aa ab c5 f5 ad A1;have c3:J.cell? ⟨q,3,none⟩=some (.slice ka G.length kc):=qd O 3;have ad:q<J.heap.size:=(Ai O).1;have aR:p<J.heap.size:=(Ai Y).1;have aa:=hid O;have X:=hid Z;have ab:=hid Y;clear O Z Y;by_cases am:G.length=0
 case pos=>
  obtain rfl:G=[]:=List.eq_nil_of_length_eq_zero am;go_wp2
  go_end0
  exact⟨rfl,⟨p,.slice none 0 0,aC,aa.out,qa2 ab.out,fun g h=>by cases h⟩,X.out⟩
 have ap:0<G.length:=by omega
 have a4:(G.length:Int)≤32:=by omega
 go_upto_region 4 with(fail)
 have av:Hold J (.slice ka G.length kc) G:=HK.out.keep X.out.size fun b U al=>X.out.block b al (fun e=>aO.out (by rw[U,e]))
 have aQ:=hid av;have ay:=QM (n:=64) (zs:=G) (by omega);have aJ:=hid ay;have aI:=hid am;clear av ay am c3;have aF:(Value.slice ka G.length kc).ownBlock≠some p:=fun e=>by have:=YD HK.out (fun e=>by rw[e]at ap;simp at ap) e;omega
 refine yh (fun f W=>W.heap[q]? =some (.cells (yn 2 dg bv (.slice ka G.length kc) false 0 (.iface 287 (.pointer (some ⟨p,0,none⟩)))) 179 (0,0))∧(f=false→Below J.heap.size J W)∧(J.heap.size≤W.heap.size∧(∀b,b<J.heap.size→b≠p→W.heap[b]? =J.heap[b]?))∧(f=true→Spare (fun k=>k≠p) J W∧ ∃hv,QY false W p hv (h0Z false bs) (QH 64 G)∧ ∀g,hv.ownBlock=some g→J.heap.size≤g)) 16 [.v 26 (.pointer (some ⟨q,0,none⟩)),.v 27 (.pointer (some ⟨q,0,none⟩)),.v 28 (.pointer (some ⟨q,6,none⟩)),.v 29 (.iface 287 (.pointer (some ⟨p,0,none⟩))),.v 30 (.pointer (some ⟨q,0,none⟩)),.v 31 (.pointer (some ⟨q,0,none⟩)),.v 32 (.pointer (some ⟨q,3,none⟩)),.v 33 (.slice ka G.length kc),.v 34 (.pointer (some ⟨q,0,none⟩)),.v 35 (.pointer (some ⟨q,0,none⟩)),.v 36 (.pointer (some ⟨q,0,none⟩)),.v 37 (.int .i64 2),.v 38 (.int .i64 64),.p 39 (fun u W=>W.ownsRow J.heap.size 5 1 u 64 ((QH 64 G).map qt)),.v 40 (.iface 287 (.pointer (some ⟨p,0,none⟩))),.v 41 (.iface 287 (.pointer (some ⟨p,0,none⟩))),.p 42 (fun _ _=>True)] (by exact⟨(fun _ _ U _ h=>qi h (fun g _ hg=>U.block g hg)),kW,trivial⟩) ⟨aa.out,fun _=>Br.drew,⟨Nat.le_refl _,fun _ _ _=>rfl⟩,fun h=>(by cases h)⟩ (fun f W W' h U=>⟨qg h.1 U,fun e=>(h.2.1 e).trans (U.mono (h.2.1 e).size),⟨Nat.le_trans h.2.2.1.1 U.size,fun b h1 h2=>(U.block b (Nat.lt_of_lt_of_le h1 h.2.2.1.1)).trans (h.2.2.1.2 b h1 h2)⟩,fun e=>by obtain⟨h1,hv,h2,h3⟩:=h.2.2.2 e;exact⟨h1.trans (Spare.of_below _ U) (fun _ _ h=>h),hv,yN h2 U,h3⟩⟩) ?_ ?_ ?_
 ·repeat' (with_reducible first|exact qz|refine qx ?_ ?_)
  all_goals try
   refine .inr ?_;intro A x W f r V hf o D K I;have a0:=r.2 0 (by decide);conv at a0=>rhs;whnf
   simp only[QW,Q8]at D;clear o r;go_simp
   exact I _ _ BR rfl
  any_goals exact .inl rfl
  all_goals refine .inr ?_
  ·intro A x W f r V hf o _ K I;have aT:=gw r o 2 28;clear o r;have g0:=V.1;have c0:W.cell? ⟨q,6,none⟩=some (.iface 287 (.pointer (some ⟨p,0,none⟩))):=qd g0 6;go_simp
   exact I _ _ BR rfl
  ·intro A x W f r V hf o _ K I;have aS:=gw r o 6 32;clear o r;have g0:=V.1;have c0:W.cell? ⟨q,3,none⟩=some (.slice ka G.length kc):=qd g0 3;go_simp
   exact I _ _ BR rfl
  ·intro A x W f r V hf o _ K I;have aV:=gw r o 10 36;clear o r;have g0:=V.1;have c0:W.cell? ⟨q,0,none⟩=some (.int .i64 2):=qd g0 0;go_simp
   exact I _ _ BR rfl
  ·intro A x W f r V hf o _ K I;have aX:=gw r o 11 37;clear o r;go_simp
   refine(ZD false _).mono ?_;rintro e w' ⟨rfl,hw⟩;exact I _ _ (by rw[hw];exact Below.refl _ _) rfl
  ·intro A x W f r V hf o _ K I;have aU:=gw r o 7 33;have a3:=gw r o 12 38;clear o r;go_simp
   have aP:Hold W (.slice ka G.length kc) G:=aQ.out.keep V.2.2.1.1 (fun b U al=>V.2.2.1.2 b al (fun e=>aF (by rw[U,e])));refine(jC G _ 64 _ aP (by omega) (by decide)).mono ?_;rintro e w' ⟨u,rfl,ho,U⟩;exact I _ _ U (ownsRow_le ho V.2.2.1.1)
 ·intro A x W r V o K I;have a5:=gw r o 15 41;have an:(fun u W=>W.ownsRow J.heap.size 5 1 u 64 ((QH 64 G).map qt)) (x 39) W:=o ⟨13,.data⟩ (by simp) rfl;have aW:A.tmps.getD 39 undef=x 39:=r.1 39 (by decide);clear o r;have hB:=V.2.1 rfl;go_simp
  refine Yr (f:=266) (by kernel_rfl) ?_;go_simp
  have aG:=yl (n:=64) HK.out.1;have aD:Hold W (x 39) (QH 64 G):=Qq an aG;refine(qaq (h0Z false bs) [] (QH 64 G) (QX false bs) (fun _ h=>by cases h) p (.slice none 0 0) (x 39) W (qa2 (qg ab.out hB)) aD (fun _ b U=>⟨fun e=>by have:=qbw an U;omega,fun e=>by cases e⟩) (by rw[aJ.out];simp)).mono ?_;rintro e w' ⟨rfl,⟨aM,aH,ah⟩,ag⟩
  refine I _ _ (fun h=>by cases h) ⟨(ag.block q (Ai V.1).1 ⟨by omega,fun e=>by cases e⟩).trans V.1,fun h=>(by cases h),⟨Nat.le_trans V.2.2.1.1 ag.size,fun b h1 h2=>(ag.block b (Nat.lt_of_lt_of_le h1 V.2.2.1.1) ⟨h2,fun e=>by cases e⟩).trans (V.2.2.1.2 b h1 h2)⟩,fun _=>⟨(Spare.of_below _ hB).trans ag (fun b _ h=>⟨h,fun e=>by cases e⟩),aM,aH,fun g hg=>?_⟩⟩ ⟨.inr (fun _ h=>h),.inr (fun _ h=>h),.inr (fun _ h=>h),.inr (fun _ h=>h),.inr (fun _ h=>h),.inr (fun _ h=>h),.inr (fun _ h=>h),.inr (fun _ h=>h),.inr (fun _ h=>h),.inr (fun _ h=>h),.inr (fun _ h=>h),.inr (fun _ h=>h),.inr (fun _ h=>h),.inr (fun u h=>qi h (fun g h1 h2=>ag.block g h2 ⟨by omega,fun e=>by cases e⟩)),.inr (fun _ h=>h),.inr (fun _ h=>h),.inl rfl,trivial⟩ trivial;rcases ah with ah|ah
  ·rw[ah]at hg;cases hg
  ·have:=ah g hg;have:=hB.size;omega
 intro x W V aj;obtain⟨ax,aL, -⟩:=aj;change (fun u W=>W.ownsRow J.heap.size 5 1 u 64 ((QH 64 G).map qt)) (x 39) W at ax
 change ((fun _ _=>True)) (x 42) W at aL
 simp only[QF,Act.put,Ls];obtain⟨aB, -, -,h9⟩:=V;obtain⟨ao,aK,az,aA⟩:=h9 rfl;have H9:=hid (show(∃p hv,w.heap.size≤p∧W.heap[q]? =some (.cells (yn 2 dg bv (.slice ka G.length kc) false 0 (.iface 287 (.pointer (some ⟨p,0,none⟩)))) 179 (0,0))∧QY false W p hv (h0Z false bs) (yv 64 G)∧(∀g,hv.ownBlock=some g→w.heap.size≤g))∧Spare (fun k=>k≠q) w W from⟨⟨p,aK,aC,aB,by unfold yv;rw[if_neg aI.out];exact az,fun g hg=>Nat.le_trans aN (aA g hg)⟩,X.out.trans ao (fun b U _=>by omega)⟩);clear aB ao az aA h9 ax;go_wp2
 go_end0
 exact⟨rfl,H9.out⟩
def Fresh (base:Nat)(W:World)(v:Value)(zs:List Int):Prop:=
 (zs=[]∧v= .slice none 0 0)∨ ∃g cap cur,v= .slice (some ⟨g,0,none⟩) zs.length cap∧base≤g∧W.heap[g]? =some (.cells cur 5 (0,0))∧zs.length≤cap∧cap≤cur.size∧cap≤maxLen∧cur.toList.take zs.length=zs.map qt
theorem Fresh.below {base:Nat}{W W':World}{v:Value}{zs:List Int}(h:Fresh base W v zs)(I:Below W.heap.size W W'):Fresh base W' v zs:=by
 rcases h with h|⟨g,q,o,e,G,r,D⟩
 ·exact .inl h
 ·exact .inr ⟨g,q,o,e,G,qg r I,D⟩
theorem Fresh.le {base b':Nat}{W:World}{v:Value}{zs:List Int}(h:Fresh base W v zs)(G:b'≤base):Fresh b' W v zs:=by
 rcases h with h|⟨g,q,o,e,D,r⟩
 ·exact .inl h
 ·exact .inr ⟨g,q,o,e,Nat.le_trans G D,r⟩
theorem Fresh.hold {base:Nat}{W:World}{v:Value}{zs:List Int}(h:Fresh base W v zs)(G: ∀z∈zs,0≤z∧z≤255):Hold W v zs:=by
 refine⟨G,?_⟩;rcases h with h|⟨g,r,O,rfl,V,q,I,U,J,D⟩
 ·exact .inl h
 ·refine .inr ⟨⟨g,0,none⟩,r,rfl,I,J,.inr ⟨g,0,rfl,(Ai q).1,fun i o=>?_⟩⟩;have e:=congrArg (fun l:List Value=>l[i]?) D;simp only[List.getElem?_take,o,if_true,List.getElem?_map,Array.getElem?_toList]at e;rw[Nat.zero_add,qd q i,e];simp[qt,qr,Lg,o]
theorem qbJ {base g c m:Nat}{W:World}{zs:List Int}(h:W.ownsRow base 5 1 (.slice (some ⟨g,0,none⟩) zs.length c) zs.length (zs.map qt))(o:m≤zs.length):Fresh base W (.slice (some ⟨g,0,none⟩) m m) (zs.take m):=by
 obtain⟨q,r,O,D,G,J,I⟩:=zO h;have e:(zs.take m).length=m:=by simp[List.length_take,Nat.min_eq_left o]
 refine .inr ⟨g,m,q,by rw[e],G,r,by omega,by omega,by omega,?_⟩;rw[e,List.map_take,←D,List.take_take,Nat.min_eq_left o]
theorem qfP (big:Bool)(q p:Nat)(r G wr:Int)(la:Bool)(D I:Value)(w:World)(o:w.heap[q]? =some (.cells (yn r G D I la wr (.iface (phT big) (.pointer (some ⟨p,0,none⟩)))) 179 (0,0))):
  Calls Tryz.prog 133 #[.pointer (some ⟨q,0,none⟩)] w fun e w'=>e= .returned (.bool false)∧w'=w:=by
 have O:w.cell? ⟨q,6,none⟩=some (.iface (phT big) (.pointer (some ⟨p,0,none⟩))):=qd o 6;have J:q<w.heap.size:=(Ai o).1;clear o;go_enter Tryz.func133,Tryz.ntmps133
 go_wp2
 go_ret
 exact⟨rfl,rfl⟩
theorem jD {W:World}{B n:Nat}{v:Value}{xs:List Value}(h:W.ownsRow B 5 1 v n xs):W.ownsRow 0 5 1 v n xs:=ownsRow_le h (Nat.zero_le _)
theorem qde (X G:List Int)(hh:Words 64 8 X)(hm: ∀z∈G,0≤z∧z≤255)(r p m:Nat)(dg wr:Int)(la:Bool)(bv kv hv:Value)(w:World)(O:w.heap[r]? =some (.cells (yn 1 dg bv kv la wr (.iface 277 (.pointer (some ⟨p,0,none⟩)))) 179 (0,0)))(hE:QY true w p hv X G)(ab:(G.length:Int)≤281474976710656)(aC:1≤m)(an:m≤64):
  Calls Tryz.prog 99 #[.pointer (some ⟨r,0,none⟩),.int .i64 (m:Nat)] w fun e w'=>(∃v,e= .returned (.tuple #[v,.int .i64 0])∧Fresh w.heap.size w' v ((zA true X G la).take m))∧Below w.heap.size w w':=by
 have hN:=qfP true r p 1 dg wr la bv kv w O;have c0:w.cell? ⟨r,0,none⟩=some (.int .i64 1):=qd O 0;have aA:r<w.heap.size:=(Ai O).1;have HN:=hid hN;have ac:=hid O;have HO:=hid (fun(W:World) (h:QY true W p hv X G)=>qhr X G la hh hm p hv W h ab);have HE:=hid hE;have ad:=zP true X G la;generalize zA true X G la=Z at*;have ah:=hid (show Z.length=64 from ad);clear hN O hE hh hm ab ad;have ag:1≤(m:Int)∧(m:Int)≤64:=by omega
 obtain⟨ag,aD⟩:=ag;go_enter Tryz.func99,Tryz.ntmps99
 go_wp2_with fail
 refine HN.out.mono ?_;rintro e w1 ⟨rfl,hw⟩;rw[hw];clear hw;go_wp2_with fail
 refine(ZD true _).mono ?_;rintro e w1 ⟨rfl,hw⟩;rw[hw];clear hw;rw[show((bB true:Nat):Int)=128 from rfl];go_upto_region 5 with(fail)
 clear c0;refine qE (n:=16) (w0:=w) (B:=w.heap.size) [.v 20 (.pointer (some ⟨r,0,none⟩)),.v 21 (.pointer (some ⟨r,0,none⟩)),.v 22 (.pointer (some ⟨r,6,none⟩)),.v 23 (.iface 277 (.pointer (some ⟨p,0,none⟩))),.v 24 (.pointer (some ⟨r,0,none⟩)),.v 25 (.pointer (some ⟨r,0,none⟩)),.v 26 (.pointer (some ⟨r,4,none⟩)),.v 27 (.bool la),.v 28 (.iface 277 (.pointer (some ⟨p,0,none⟩))),.v 29 (.iface 277 (.pointer (some ⟨p,0,none⟩))),.p 30 (fun u W=>W.ownsRow w.heap.size 5 1 u 64 (Z.map qt)),.v 31 (.int .i64 (m:Nat)),.v 32 (.int .i64 (m:Nat)),.p 33 (fun u W=>Fresh w.heap.size W u (Z.take m)),.p 4 (fun u W=>Fresh w.heap.size W u (Z.take m)),.v 5 (.int .i64 0)] (by exact⟨(fun _ _ _ h Y=>qi h (fun g _ hg=>Y.block g hg)),(fun _ _ _ h Y=>h.below Y),(fun _ _ _ h Y=>h.below Y),trivial⟩) Br.drew Nl ?_ ?_
 ·repeat' (with_reducible first|exact qz|refine qx ?_ ?_)
  all_goals try
   intro A x W q U J o D K I;have a0:=q.2 0 (by decide);conv at a0=>rhs;whnf
   have a1:=q.2 1 (by decide);conv at a1=>rhs;whnf
   simp only[QW,Q8]at D;clear o q;go_simp
   exact I _ _ BR rfl
  ·intro A x W q U J o _ K I;have ax:=gv q o 2 22;clear o q;have g0:=qg ac.out U;have c0:W.cell? ⟨r,6,none⟩=some (.iface 277 (.pointer (some ⟨p,0,none⟩))):=qd g0 6;go_simp
   exact I _ _ BR rfl
  ·intro A x W q U J o _ K I;have az:=gv q o 6 26;clear o q;have g0:=qg ac.out U;have c0:W.cell? ⟨r,4,none⟩=some (.bool la):=qd g0 4;go_simp
   exact I _ _ BR rfl
  ·intro A x W q U J o _ K I;have ay:=gv q o 9 29;have ap:=gv q o 7 27;clear o q;go_simp
   refine Yr (f:=258) (by kernel_rfl) ?_;go_simp
   refine(HO.out _ (yN HE.out U)).mono ?_;rintro e w' ⟨u,rfl,ho,Y⟩;exact I _ _ Y (ownsRow_le ho J)
  ·intro A x W q U J o _ K I;have V:(fun u W=>W.ownsRow w.heap.size 5 1 u 64 (Z.map qt)) (x 30) W:=o ⟨10,.data⟩ (by simp) rfl _ rfl;have al:A.tmps.getD 30 undef=x 30:=q.1 30 (by decide);have aw:=gv q o 11 31;have au:=gv q o 12 32;clear o q;obtain⟨s1,s2,s3,aa⟩:=qs V;rw[aa]at V al;obtain rfl:s2=64:=yY V;obtain⟨gg,rfl⟩:=jd (jD V) (by decide);obtain⟨cu, -, -, -, -,av,am⟩:=zO V;have aq:(s3:Int)≤9223372036854775807:=by unfold maxLen at am;omega
   have ar:(m:Int)≤s3:=by omega
   have aB:64≤(s3:Int):=by omega
   have ae:=qbJ (m:=m) (zs:=Z) (c:=s3) (by rw[ah.out];exact V) (by rw[ah.out];exact an);have ak:=hid ae;clear ae;go_simp
   exact I _ _ Br ak.out
  ·intro A x W q U J o _ K I;have aj:(fun u W=>Fresh w.heap.size W u (Z.take m)) (x 33) W:=o ⟨13,.data⟩ (by simp) rfl _ rfl;have ao:A.tmps.getD 33 undef=x 33:=q.1 33 (by decide);clear o q;go_simp
   exact I _ _ Br (ao▸aj)
 intro x W U J ai;obtain⟨aa,af,e4, -⟩:=ai;change (fun u W=>W.ownsRow w.heap.size 5 1 u 64 (Z.map qt)) (x 30) W at aa
 change (fun u W=>Fresh w.heap.size W u (Z.take m)) (x 33) W at af
 change (fun u W=>Fresh w.heap.size W u (Z.take m)) (x 4) W at e4
 refine qw ?_;simp only[QF,Act.put,Ls];have E4:=hid e4;have HW:=hid U;clear e4 aa af U;go_wp2
 go_ret2
 exact⟨⟨_,rfl,E4.out⟩,HW.out⟩
theorem qcc (X G:List Int)(hh:Words 32 8 X)(hm: ∀z∈G,0≤z∧z≤255)(r p m:Nat)(dg wr:Int)(la:Bool)(bv kv hv:Value)(w:World)(O:w.heap[r]? =some (.cells (yn 2 dg bv kv la wr (.iface 287 (.pointer (some ⟨p,0,none⟩)))) 179 (0,0)))(hE:QY false w p hv X G)(ab:(G.length:Int)≤281474976710656)(aC:1≤m)(an:m≤32):
  Calls Tryz.prog 99 #[.pointer (some ⟨r,0,none⟩),.int .i64 (m:Nat)] w fun e w'=>(∃v,e= .returned (.tuple #[v,.int .i64 0])∧Fresh w.heap.size w' v ((zA false X G la).take m))∧Below w.heap.size w w':=by
 have hN:=qfP false r p 2 dg wr la bv kv w O;have c0:w.cell? ⟨r,0,none⟩=some (.int .i64 2):=qd O 0;have aA:r<w.heap.size:=(Ai O).1;have HN:=hid hN;have ac:=hid O;have HO:=hid (fun(W:World) (h:QY false W p hv X G)=>qgr X G la hh hm p hv W h ab);have HE:=hid hE;have ad:=zP false X G la;generalize zA false X G la=Z at*;have ah:=hid (show Z.length=32 from ad);clear hN O hE hh hm ab ad;have ag:1≤(m:Int)∧(m:Int)≤32:=by omega
 obtain⟨ag,aD⟩:=ag;go_enter Tryz.func99,Tryz.ntmps99
 go_wp2_with fail
 refine HN.out.mono ?_;rintro e w1 ⟨rfl,hw⟩;rw[hw];clear hw;go_wp2_with fail
 refine(ZD false _).mono ?_;rintro e w1 ⟨rfl,hw⟩;rw[hw];clear hw;rw[show((bB false:Nat):Int)=64 from rfl];go_upto_region 5 with(fail)
 clear c0;refine qE (n:=16) (w0:=w) (B:=w.heap.size) [.v 20 (.pointer (some ⟨r,0,none⟩)),.v 21 (.pointer (some ⟨r,0,none⟩)),.v 22 (.pointer (some ⟨r,6,none⟩)),.v 23 (.iface 287 (.pointer (some ⟨p,0,none⟩))),.v 24 (.pointer (some ⟨r,0,none⟩)),.v 25 (.pointer (some ⟨r,0,none⟩)),.v 26 (.pointer (some ⟨r,4,none⟩)),.v 27 (.bool la),.v 28 (.iface 287 (.pointer (some ⟨p,0,none⟩))),.v 29 (.iface 287 (.pointer (some ⟨p,0,none⟩))),.p 30 (fun u W=>W.ownsRow w.heap.size 5 1 u 32 (Z.map qt)),.v 31 (.int .i64 (m:Nat)),.v 32 (.int .i64 (m:Nat)),.p 33 (fun u W=>Fresh w.heap.size W u (Z.take m)),.p 4 (fun u W=>Fresh w.heap.size W u (Z.take m)),.v 5 (.int .i64 0)] (by exact⟨(fun _ _ _ h Y=>qi h (fun g _ hg=>Y.block g hg)),(fun _ _ _ h Y=>h.below Y),(fun _ _ _ h Y=>h.below Y),trivial⟩) Br.drew Nl ?_ ?_
 ·repeat' (with_reducible first|exact qz|refine qx ?_ ?_)
  all_goals try
   intro A x W q U J o D K I;have a0:=q.2 0 (by decide);conv at a0=>rhs;whnf
   have a1:=q.2 1 (by decide);conv at a1=>rhs;whnf
   simp only[QW,Q8]at D;clear o q;go_simp
   exact I _ _ BR rfl
  ·intro A x W q U J o _ K I;have ax:=gv q o 2 22;clear o q;have g0:=qg ac.out U;have c0:W.cell? ⟨r,6,none⟩=some (.iface 287 (.pointer (some ⟨p,0,none⟩))):=qd g0 6;go_simp
   exact I _ _ BR rfl
  ·intro A x W q U J o _ K I;have az:=gv q o 6 26;clear o q;have g0:=qg ac.out U;have c0:W.cell? ⟨r,4,none⟩=some (.bool la):=qd g0 4;go_simp
   exact I _ _ BR rfl
  ·intro A x W q U J o _ K I;have ay:=gv q o 9 29;have ap:=gv q o 7 27;clear o q;go_simp
   refine Yr (f:=264) (by kernel_rfl) ?_;go_simp
   refine(HO.out _ (yN HE.out U)).mono ?_;rintro e w' ⟨u,rfl,ho,Y⟩;exact I _ _ Y (ownsRow_le ho J)
  ·intro A x W q U J o _ K I;have V:(fun u W=>W.ownsRow w.heap.size 5 1 u 32 (Z.map qt)) (x 30) W:=o ⟨10,.data⟩ (by simp) rfl _ rfl;have al:A.tmps.getD 30 undef=x 30:=q.1 30 (by decide);have aw:=gv q o 11 31;have au:=gv q o 12 32;clear o q;obtain⟨s1,s2,s3,aa⟩:=qs V;rw[aa]at V al;obtain rfl:s2=32:=yY V;obtain⟨gg,rfl⟩:=jd (jD V) (by decide);obtain⟨cu, -, -, -, -,av,am⟩:=zO V;have aq:(s3:Int)≤9223372036854775807:=by unfold maxLen at am;omega
   have ar:(m:Int)≤s3:=by omega
   have aB:32≤(s3:Int):=by omega
   have ae:=qbJ (m:=m) (zs:=Z) (c:=s3) (by rw[ah.out];exact V) (by rw[ah.out];exact an);have ak:=hid ae;clear ae;go_simp
   exact I _ _ Br ak.out
  ·intro A x W q U J o _ K I;have aj:(fun u W=>Fresh w.heap.size W u (Z.take m)) (x 33) W:=o ⟨13,.data⟩ (by simp) rfl _ rfl;have ao:A.tmps.getD 33 undef=x 33:=q.1 33 (by decide);clear o q;go_simp
   exact I _ _ Br (ao▸aj)
 intro x W U J ai;obtain⟨aa,af,e4, -⟩:=ai;change (fun u W=>W.ownsRow w.heap.size 5 1 u 32 (Z.map qt)) (x 30) W at aa
 change (fun u W=>Fresh w.heap.size W u (Z.take m)) (x 33) W at af
 change (fun u W=>Fresh w.heap.size W u (Z.take m)) (x 4) W at e4
 refine qw ?_;simp only[QF,Act.put,Ls];have E4:=hid e4;have HW:=hid U;clear e4 aa af U;go_wp2
 go_ret2
 exact⟨⟨_,rfl,E4.out⟩,HW.out⟩
def Qj (b:List Int)(p:Nat)(zs:List Int):List Int:=b.take p++zs++b.drop (p+zs.length)
theorem Qm {b zs:List Int}{p:Nat}(h:p+zs.length≤b.length):(Qj b p zs).length=b.length:=by
 simp[Qj];omega
theorem Yz {b zs:List Int}{p:Nat}(h:p+zs.length≤b.length)(i:Nat):qr (Qj b p zs) i=if p≤i∧i<p+zs.length then qr zs (i - p) else qr b i:=by
 unfold Qj qr;simp only[Lg];have r:(b.take p).length=p:=by simp;omega
 by_cases q:i<p
 ·rw[List.append_assoc,List.getElem?_append_left (by omega),List.getElem?_take,if_pos q,if_neg (by omega)]
 ·by_cases o:i<p+zs.length
  ·rw[List.append_assoc,List.getElem?_append_right (by omega),r,List.getElem?_append_left (by omega),if_pos ⟨by omega,o⟩]
  ·rw[List.getElem?_append_right (by simp;omega),if_neg (by omega),List.getElem?_drop];congr 2
   simp;omega
theorem YZ (b:List Int)(p:Nat):Qj b p []=b:=by simp[Qj]
theorem J4 {b zs:List Int}{p:Nat}{z:Int}(h:p+zs.length<b.length):Qj b p (zs++[z])=(Qj b p zs).set (p+zs.length) z:=by
 have r:(b.take p).length=p:=by simp;omega
 have q:(b.take p++zs).length=p+zs.length:=by simp;omega
 have o:b.drop (p+zs.length)=b[p+zs.length]::b.drop (p+zs.length+1):=List.drop_eq_getElem_cons h;unfold Qj;rw[o,List.length_append,List.length_singleton,←Nat.add_assoc,List.set_append_right _ _ (by omega),q,Nat.sub_self,List.set_cons_zero];simp
def QB (big x0:Bool)(v:Nat→Nat):Nat→List Int
 | 0=>List.replicate (mB big) 0
 | k+1=>if k+1=7∧x0=true then QB big x0 v k else Qj (QB big x0 v k) (atB big (k+1)) (qZ (v (k+1)) (szB big (k+1)))
theorem QU (big q:Bool)(v:Nat→Nat): ∀k,k≤9→(QB big q v k).length=mB big
 | 0,_=>by simp[QB]
 | k+1,h=>by
  have o:=QU big q v k (by omega);have r:=Q6 big false (k+1) (by omega) (by omega);have e:szE big false (k+1)=szB big (k+1):=by simp[szE]
  rw[e]at r;have D:32≤mB big:=by cases big<;>decide
  rw[QB];split
  ·exact o
  ·rw[Qm (by rw[qY,o];omega),o]
def Q4 (big:Bool)(v:Nat→Nat)(z1 z2:List Int):List Int:=Qj (Qj (QB big (v 7==0) v 9) (2*sB big) z1) (3*sB big) z2
theorem yq {big:Bool}{v:Nat→Nat}{z1 z2:List Int}(r:z1.length≤sB big)(q:z2.length≤sB big):(Q4 big v z1 z2).length=mB big:=by
 have e:=QU big (v 7==0) v 9 (by omega);have o:4*sB big=mB big:=by cases big<;>decide
 unfold Q4;rw[Qm (by rw[Qm (by omega)];omega),Qm (by omega),e]
def parN (v:Nat→Nat)(sa pe:Value):Value:=parV (v 1:Nat) (v 2:Nat) (v 3:Nat) (v 4:Nat) (v 5:Nat) (v 6:Nat) (v 7:Nat) (v 8:Nat) (v 9:Nat) sa pe
def RowB (w:World)(g:Nat)(b:List Int):Prop:=w.heap[g]? =some (.cells (b.map qt).toArray 5 (0,0))
theorem RowB.cell {w:World}{g:Nat}{b:List Int}(h:RowB w g b){i:Nat}(o:i<b.length):w.cell? ⟨g,i,none⟩=some (.int .u8 (qr b i)):=by
 rw[qd h i];simp[qt,qr,Lg,o]
theorem RowB.set {w:World}{g:Nat}{b:List Int}(h:RowB w g b)(i:Nat)(z:Int):RowB (w.setCell ⟨g,i,none⟩ (.int .u8 z)) g (b.set i z):=by
 have:=heap_setCell_same w g i _ _ (.int .u8 z) h
 unfold RowB;rw[this];simp[qt,List.map_set]
theorem qcr (b:List Int)(g n c p k:Nat)(hk:k≤8)(hp:p+k≤b.length)(V:n=b.length)(hc:n≤c)(af:n≤65535)(x:Nat)(hx:(x:Int)≤18446744073709551615)(w:World)(h:RowB w g b):
  Calls Tryz.prog 166 #[.slice (some ⟨g,0,none⟩) n c,.int .i64 (p:Nat),.int .i64 (k:Nat),.int .u64 (x:Nat)] w fun e w'=>e= .returned (.tuple #[])∧RowB w' g (Qj b p (qZ x k))∧But g w w':=by
 have X:g<w.heap.size:=(Ai h).1;have HR:=hid h;have Y:=hid V;have ad:(p:Int)+k≤n:=by omega
 have ac:(n:Int)≤65535:=by omega
 clear h V;go_enter Tryz.func166,Tryz.ntmps166
 go_wp2_with fail
 go_loopw [8] (fun i wr=> ∃j:Nat,i= .int .i64 (j:Nat)∧j≤k∧RowB wr g (Qj b p (qZ x j))∧But g w wr) (fun i _=>k - (intOf i).toNat)
 case atStart=>exact⟨0,rfl,Nat.zero_le _,by show RowB w g (Qj b p []);rw[YZ];exact HR.out,But.refl _ _⟩
 case round=>
  obtain⟨j,rfl,hj,o,r⟩:=hrel;by_cases ae:j<k
  ·have hl:(Qj b p (qZ x j)).length=b.length:=Qm (by rw[qY];omega);have U:=o.cell (i:=p+j) (by have:=Y.out;omega);have ab:=frozen_of_row wr g (p+j) _ _ o;have aa:g<wr.heap.size:=Nat.lt_of_lt_of_le X r.size;have q:=zW x j;have D:=o.set (p+j) (byt x j);have e:(Qj b p (qZ x j)).set (p+j) (byt x j)=Qj b p (qZ x (j+1)):=by
    have J:=J4 (b:=b) (zs:=qZ x j) (p:=p) (z:=byt x j) (by rw[qY];omega);rw[qY]at J;rw[←J,Y9]
   rw[e]at D;have O:=hid D;have G:=hid r;generalize qr (Qj b p (qZ x j)) (p+j)=z0 at U;have I:(j:Int)<k∧(k:Int)≤8∧0≤(j:Int)∧(p:Int)+j<n:=by omega
   obtain⟨q1,q2,q3,q4⟩:=I;clear D e hl o r;go_wp2
   exact⟨⟨j+1,rfl,by omega,O.out,G.out.set _ _⟩,by simp[intOf];omega⟩
  ·obtain rfl:j=k:=by omega
   have G:=hid r;have Z:=hid o;clear r o;go_wp2
   go_end0
   exact⟨rfl,Z.out,G.out⟩
def Yu (big ext:Bool)(zs:List Int)(f:Nat):Nat:=if f=7∧ext=false then 0 else(ye big ext zs f).toNat
def Ya (zs:List Int):List Int:=zs.take (Ql zs zs.length)
def YM (big:Bool)(zs:List Int):List Int:=Ya ((zs.drop (2*sB big)).take (sB big))
def Y2 (big:Bool)(zs:List Int):List Int:=Ya ((zs.drop (3*sB big)).take (sB big))
theorem JQ {big ext:Bool}{zs:List Int}(r: ∀z∈zs,0≤z∧z≤255)(o:zs.length=mB big){f:Nat}(D:1≤f)(q:f≤9)(I: ¬(f=7∧ext=false)):((Yu big ext zs f:Nat):Int)=Qi zs (atB big f) (szE big ext f):=by
 have G:=qV (big:=big) (ext:=ext) r o D q;have e:ye big ext zs f=Qi zs (atB big f) (szE big ext f):=if_neg (by omega);unfold Yu;rw[if_neg I,Int.toNat_of_nonneg G.1,e]
theorem qdY {big ext:Bool}{zs:List Int}(G: ∀z∈zs,0≤z∧z≤255)(r:zs.length=mB big)(q o:Value):
  parN (Yu big ext zs) q o=parV (qr zs 0) (qr zs 1) (qr zs 2) (qr zs 3) (Qi zs 4 4) (Qi zs 8 (szE big ext 6)) (xoZ big ext zs) (qr zs (atB big 8)) (qr zs (atB big 9)) q o:=by
 have h:=fun f J D O=>JQ (big:=big) (ext:=ext) G r (f:=f) J D O
 unfold parN;rw[h 1 (by omega) (by omega) (by omega),h 2 (by omega) (by omega) (by omega),h 3 (by omega) (by omega) (by omega),h 4 (by omega) (by omega) (by omega),h 5 (by omega) (by omega) (by omega),h 6 (by omega) (by omega) (by omega),h 8 (by omega) (by omega) (by omega),h 9 (by omega) (by omega) (by omega)];have I:((Yu big ext zs 7:Nat):Int)=xoZ big ext zs:=by
  cases ext
  ·rfl
  ·rw[h 7 (by omega) (by omega) (by simp)];cases big<;>rfl
 rw[I]
 cases big<;>cases ext<;>simp[szE,szB,atB,zh]
theorem qc6 (big:Bool)(zs:List Int)(v:Value)(w:World)(h:Hold w v zs)(ab:okD big false zs):
  Calls Tryz.prog 152 #[.int .i64 (kB big),v,.bool false] w fun e w'=>(∃q o,e= .returned (.tuple #[parN (Yu big false zs) q o,.int .i64 0])∧w'.ownsRow w.heap.size 5 1 q (YM big zs).length ((YM big zs).map qt)∧w'.ownsRow w.heap.size 5 1 o (Y2 big zs).length ((Y2 big zs).map qt))∧Below w.heap.size w w':=by
 obtain⟨a,O,rfl,D,U⟩:=h.slice;have I:=h.1;have h:=h.holds8;obtain⟨G,hm, -,k0,k1,k3,k9⟩:=ab;obtain⟨a',ad,e,h⟩:=h;simp only[Value.slice.injEq,true_and]at e;obtain⟨rfl,rfl⟩:=e;obtain⟨b,off,rfl,hB⟩:=h.resolve_left (fun e=>by rw[e]at G;cases big<;>simp[mB]at G);have aa: ∀p s:Nat,p+s≤zs.length→((zs.drop p).take s).length=s:=fun p s h=>by simp;omega
 have ac: ∀x:List Int,(x.take (Ql x x.length)).length=Ql x x.length:=fun x=>by have:=ZS x x.length;simp;omega
 have J: ∀(p s:Nat),p+s≤zs.length→(Ya ((zs.drop p).take s)).length=Ql ((zs.drop p).take s) s∧Ya ((zs.drop p).take s)=((zs.drop p).take s).take (Ql ((zs.drop p).take s) s):=fun p s h=>by
  have e:=aa p s h;unfold Ya;rw[ac,e];exact⟨rfl,rfl⟩
 cases big
 ·have r:zs.length=32:=G;rw[r]at D⊢;obtain⟨Z,s2⟩:=J 16 8 (by omega);obtain⟨X,V⟩:=J 24 8 (by omega);refine(ZO zs b off O w hB I D U r k0 k1.2 (k3 rfl) k9.2).mono ?_;rintro e w' ⟨⟨q,o,rfl,o1,o2⟩,Y⟩
  refine⟨⟨q,o,congrArg (fun p=>Ending.returned (.tuple #[p,.int .i64 0])) (qdY (big:=false) (ext:=false) I G q o).symm,?_,?_⟩,Y⟩
  ·show w'.ownsRow _ _ _ q (Ya ((zs.drop 16).take 8)).length ((Ya ((zs.drop 16).take 8)).map qt)
   rw[Z,s2];exact o1
  ·show w'.ownsRow _ _ _ o (Ya ((zs.drop 24).take 8)).length ((Ya ((zs.drop 24).take 8)).map qt)
   rw[X,V];exact o2
 ·have r:zs.length=64:=G;rw[r]at D⊢;obtain⟨Z,s2⟩:=J 32 16 (by omega);obtain⟨X,V⟩:=J 48 16 (by omega);refine(ja zs b off O w hB I D U r (hm rfl) k0 k1.2 (k3 rfl) k9.2).mono ?_;rintro e w' ⟨⟨q,o,rfl,o1,o2⟩,Y⟩
  refine⟨⟨q,o,congrArg (fun p=>Ending.returned (.tuple #[p,.int .i64 0])) (qdY (big:=true) (ext:=false) I G q o).symm,?_,?_⟩,Y⟩
  ·show w'.ownsRow _ _ _ q (Ya ((zs.drop 32).take 16)).length ((Ya ((zs.drop 32).take 16)).map qt)
   rw[Z,s2];exact o1
  ·show w'.ownsRow _ _ _ o (Ya ((zs.drop 48).take 16)).length ((Ya ((zs.drop 48).take 16)).map qt)
   rw[X,V];exact o2
structure ParOk (big:Bool)(v:Nat→Nat):Prop where
 p:okP big (v 1:Nat) (v 2:Nat) (v 3:Nat) (v 4:Nat) (v 6:Nat) (v 8:Nat) (v 9:Nat)
 lf:v 5<4294967296
 ofs:v 6<18446744073709551616
 x0:v 7=0
theorem Zx {big:Bool}{v:Nat→Nat}(D:ParOk big v)(a1 a2:Option Addr){q o:Nat}(c1 c2:Nat)(G:q≤sB big)(r:o≤sB big)(w:World):
  Calls Tryz.prog 163 #[.int .i64 (kB big),parN v (.slice a1 q c1) (.slice a2 o c2)] w fun e w'=>e= .returned (.int .i64 0)∧Below w.heap.size w w':=by
 unfold parN;rw[D.x0];exact qaw big _ _ _ _ _ _ _ _ a1 a2 q o c1 c2 w D.p G r
def Z4 (v:Nat→Nat):Array Value:= #[.int .u64 (v 1:Nat),.int .u64 (v 2:Nat),.int .u64 (v 3:Nat),.int .u64 (v 4:Nat),.int .u64 (v 5:Nat),.int .u64 (v 6:Nat),.int .u64 (v 7:Nat),.int .u64 (v 8:Nat),.int .u64 (v 9:Nat)]
theorem qfN (v:Nat→Nat){k:Nat}(o:k<9):(Z4 v)[k]? =some (.int .u64 (v (k+1):Nat)):=by
 rcases(show k=0∨k=1∨k=2∨k=3∨k=4∨k=5∨k=6∨k=7∨k=8 by omega)with rfl|rfl|rfl|rfl|rfl|rfl|rfl|rfl|rfl<;>rfl
theorem ParOk.le {big:Bool}{v:Nat→Nat}(h:ParOk big v): ∀f,1≤f→f≤9→((v f:Nat):Int)≤18446744073709551615:=by
 obtain⟨⟨I,q,X,r, -,V,O⟩,G,D,J⟩:=h;have o:mB big≤64:=by cases big<;>decide
 intro f U Y;rcases(show f=1∨f=2∨f=3∨f=4∨f=5∨f=6∨f=7∨f=8∨f=9 by omega)with rfl|rfl|rfl|rfl|rfl|rfl|rfl|rfl|rfl<;>omega
theorem JL {w w':World}{a:Option Addr}{n c:Nat}{zs:List Int}(h:Hold w (.slice a n c) zs)(r:Below w.heap.size w w'){j:Nat}(o:j<zs.length): ∃b off,a=some ⟨b,off,none⟩∧b<w'.heap.size∧w'.cell? ⟨b,off+j,none⟩=some (.int .u8 (qr zs j))∧0≤qr zs j∧qr zs j≤255:=by
 have q:zs≠[]:=fun e=>by rw[e]at o;simp at o
 rcases h.2 with⟨G, -⟩|⟨U,O,e, -, -,I⟩
 ·exact absurd G q
 ·obtain⟨b,off,rfl,D,J⟩:=I.resolve_left q;simp only[Value.slice.injEq]at e;exact⟨b,off,e.1,Nat.lt_of_lt_of_le D r.size,(r.cell (p:=⟨b,off+j,none⟩) D).trans (J j o),(qX h.1 o).2⟩
theorem jx {b zs:List Int}{p j:Nat}(o:j<zs.length)(h:p+zs.length≤b.length):(Qj b p (zs.take j)).set (p+j) (qr zs j)=Qj b p (zs.take (j+1)):=by
 have e:(zs.take j).length=j:=by simp;omega
 rw[ju o,J4 (by omega),e]
theorem Z9 (v:Nat→Nat)(z1 z2:List Int)(sa pe:Value)(w:World)(hP:ParOk true v)(h1:Hold w sa z1)(h2:Hold w pe z2)(ah:z1.length≤16)(ad:z2.length≤16):
  Calls Tryz.prog 138 #[.int .i64 1,parN v sa pe] w fun e w'=>(∃r,e= .returned (.tuple #[r,.int .i64 0])∧w'.ownsRow w.heap.size 5 1 r 64 ((Q4 true v z1 z2).map qt))∧Below w.heap.size w w':=by
 obtain⟨a1,c1,rfl,aX,a6⟩:=h1.slice;obtain⟨a2,c2,rfl,bf,aY⟩:=h2.slice;obtain⟨i0,hi,aP,aT,aM⟩:=info_parts Qr;obtain⟨q,ag⟩:=Ex w.heap.size;have aA:=hid (Zx hP a1 a2 c1 c2 ah ad);have ay:=hid hP.x0;have ax:=hid hP.le;have be:((v 5:Nat):Int)<4294967296:=by have:=hP.lf;omega
 have a3:((v 7:Nat):Int)<4294967296:=by have:=hP.x0;omega
 have Y: ∀f,1≤f→f≤9→IntKind.u64.wrap ((v f:Nat):Int)=((v f:Nat):Int):=fun f f1 f2=>u64_wrap_id _ (by omega) (by have:=ax.out f f1 f2;omega)
 have a5:=Y 1 (by omega) (by omega);have a4:=Y 2 (by omega) (by omega);have bc:=Y 3 (by omega) (by omega);have aU:=Y 4 (by omega) (by omega);have aN:=Y 5 (by omega) (by omega);have aZ:=Y 7 (by omega) (by omega);have aV:=Y 8 (by omega) (by omega);have a7:=Y 9 (by omega) (by omega);have aG:Below q w (w.alloc (.cells #[.int .i64 (v 1:Nat),.int .i64 (v 2:Nat),.int .i64 (v 3:Nat),.int .i64 (v 4:Nat),.int .u32 (v 5:Nat),.int .u64 (v 6:Nat),.int .u32 (v 7:Nat),.int .i64 (v 8:Nat),.int .i64 (v 9:Nat),.slice a1 z1.length c1,.slice a2 z2.length c2] 171)):=by rw[←ag];exact Br.alloc Nl _
 have af:=Wn w (.cells #[.int .i64 (v 1:Nat),.int .i64 (v 2:Nat),.int .i64 (v 3:Nat),.int .i64 (v 4:Nat),.int .u32 (v 5:Nat),.int .u64 (v 6:Nat),.int .u32 (v 7:Nat),.int .i64 (v 8:Nat),.int .i64 (v 9:Nat),.slice a1 z1.length c1,.slice a2 z2.length c2] 171);rw[ag]at af;have a9:=hid h1;have bd:=hid h2;have bl:=hid hP;clear hP h1 h2 Y aX a6 bf aY;unfold parN parV;unfold parN parV at aA;go_enter Tryz.func138,Tryz.ntmps138
 go_upto_region 1 with(fail)
 generalize w.alloc (.cells #[.int .i64 (v 1:Nat),.int .i64 (v 2:Nat),.int .i64 (v 3:Nat),.int .i64 (v 4:Nat),.int .u32 (v 5:Nat),.int .u64 (v 6:Nat),.int .u32 (v 7:Nat),.int .i64 (v 8:Nat),.int .i64 (v 9:Nat),.slice a1 z1.length c1,.slice a2 z2.length c2] 171)=wA at*;go_wp2_with ((with_reducible show wpList _ _ _ (Oper.mk _ (Op.load 171 _) _ _ _ _::_) _ _);refine wpList_load_row rfl 171 _ rfl q rfl _ _ _ _ af Tryz.underlying171 rfl (by kernel_rfl) ?_)
 refine(aA.out wA).mono ?_;rintro e w1 ⟨rfl,am⟩;have J:=qg af am;have aW:=am.size;have aK:q<wA.heap.size:=(Ai af).1;have bg:q<w1.heap.size:=by omega
 have aB:Below q w w1:=aG.trans (am.mono (by omega));have d0:w1.cell? ⟨q,0,none⟩=some (.int .i64 (v 1:Nat)):=qd J 0;have d1:w1.cell? ⟨q,1,none⟩=some (.int .i64 (v 2:Nat)):=qd J 1;have d2:w1.cell? ⟨q,2,none⟩=some (.int .i64 (v 3:Nat)):=qd J 2;have d3:w1.cell? ⟨q,3,none⟩=some (.int .i64 (v 4:Nat)):=qd J 3;have d4:w1.cell? ⟨q,4,none⟩=some (.int .u32 (v 5:Nat)):=qd J 4;have d5:w1.cell? ⟨q,5,none⟩=some (.int .u64 (v 6:Nat)):=qd J 5;have d6:w1.cell? ⟨q,6,none⟩=some (.int .u32 (v 7:Nat)):=qd J 6;have d7:w1.cell? ⟨q,7,none⟩=some (.int .i64 (v 8:Nat)):=qd J 7;have d8:w1.cell? ⟨q,8,none⟩=some (.int .i64 (v 9:Nat)):=qd J 8;have aE:=hid J;have az:=hid aB;clear am aG af J aB aW aK;go_wp2_with fail
 refine(Jk true _).mono ?_;rintro e w2 ⟨rfl,hw⟩;rw[hw];clear hw;rw[show((mB true:Nat):Int)=64 from rfl];have aF:=fun W:World=>run_make (P:=Tryz.prog) W 24 5 i0 (.int .u8 0) Tryz.underlying24 hi aP .i64 .i64 64 64 (by omega) (by omega) (by rw[aM];omega) (by omega)
 simp only[aT]at aF;go_wp2_with fail
 obtain⟨g,hg⟩:=Ex w1.heap.size;have aI:madeCells #[.int .u8 0] 64=((List.replicate 64 (0:Int)).map qt).toArray:=by
  apply Array.toList_inj.1
  rw[toList_madeCells_one];simp[qt]
 have bi:((w1.alloc (.cells (madeCells #[.int .u8 0] 64) 5)).alloc (.cells (Z4 v) 44)).heap.size=g+2:=by simp[hg]
 have aw:RowB ((w1.alloc (.cells (madeCells #[.int .u8 0] 64) 5)).alloc (.cells (Z4 v) 44)) g (QB true (v 7==0) v 0):=by
  unfold RowB;rw[Bh _ _ _ (by simp[hg]),aI,←hg];exact Wn _ _
 have au:((w1.alloc (.cells (madeCells #[.int .u8 0] 64) 5)).alloc (.cells (Z4 v) 44)).heap[g+1]? =some (.cells (Z4 v) 44 (0,0)):=by
  rw[show g+1=(w1.alloc (.cells (madeCells #[.int .u8 0] 64) 5)).heap.size by simp[hg]];exact Wn _ _
 have aJ:((w1.alloc (.cells (madeCells #[.int .u8 0] 64) 5)).alloc (.cells (Z4 v) 44)).heap[q]? =some (.cells #[.int .i64 (v 1:Nat),.int .i64 (v 2:Nat),.int .i64 (v 3:Nat),.int .i64 (v 4:Nat),.int .u32 (v 5:Nat),.int .u64 (v 6:Nat),.int .u32 (v 7:Nat),.int .i64 (v 8:Nat),.int .i64 (v 9:Nat),.slice a1 z1.length c1,.slice a2 z2.length c2] 171 (0,0)):=by
  rw[Bh _ _ _ (by simp;omega),Bh _ _ _ (by omega)];exact aE.out
 have aC:Below q w ((w1.alloc (.cells (madeCells #[.int .u8 0] 64) 5)).alloc (.cells (Z4 v) 44)):=(az.out.alloc (by omega) _).alloc (by simp;omega) _;change Code.wp _ _ _ _ ((w1.alloc (.cells (madeCells #[.int .u8 0] 64) 5)).alloc (.cells (Z4 v) 44))
 rw[hg];have bk:q<g:=by omega
 generalize ((w1.alloc (.cells (madeCells #[.int .u8 0] 64) 5)).alloc (.cells (Z4 v) 44))=W5 at*;have aS:=hid aw;have aL:=hid au;have ar:=hid aJ;have av:=hid aC;clear aw au aJ aC aI aF aE az hg d0 d1 d2 d3 d4 d5 d6 d7 d8 a5 a4 bc aU aN aZ aV a7;go_loopw [9] (fun f wr=> ∃n k:Nat,f= .int .i64 (n:Nat)∧n=k+1∧k≤9∧RowB wr g (QB true (v 7==0) v k)∧But g W5 wr) (fun f _=>10 - (intOf f).toNat)
 case atStart=>exact⟨1,0,rfl,rfl,by omega,aS.out,But.refl _ _⟩
 case round=>
  obtain⟨n,k,rfl,ai,hk,o,I⟩:=hrel;have ab:=hid ai;have G:=hid o;have Z:=hid I;have aj:g+1<wr.heap.size:=by have:=I.size;omega
  have c6:wr.cell? ⟨q,6,none⟩=some (.int .u32 (v 7:Nat)):=qd ((I.block q (by omega) (by omega)).trans ar.out) 6;have ac:q<wr.heap.size:=by omega
  have D:=QU true (v 7==0) v k hk;by_cases U:k<9
  case pos=>
   have bh:(n:Int)≤9:=by omega
   have bj:1≤(n:Int):=by omega
   have aR:(n:Int) - 1=(k:Nat):=by omega
   have cv:wr.cell? ⟨g+1,k,none⟩=some (.int .u64 (v (k+1):Nat)):=(qd ((I.block (g+1) (by omega) (by omega)).trans aL.out) k).trans (qfN v U);rw[←ai]at cv;have a8:(k:Int)<9:=by omega
   have aO:=hid (jJ true n ⟨by omega,by omega⟩);have aq:=Q6 true false n (by omega) (by omega);rw[show szE true false n=szB true n by simp[szE]]at aq;have HL:=hid (qcr (QB true (v 7==0) v k) g 64 64 (atB true n) (szB true n) (by omega) (by rw[D];show _≤64;have:=aq.2.2.2;omega) (by rw[D];rfl) Nl (by decide) (v n) (ax.out n (by omega) (by omega)) wr o);have al: ¬(k+1=7∧(v 7==0)=true)→QB true (v 7==0) v (k+1)=Qj (QB true (v 7==0) v k) (atB true n) (qZ (v n) (szB true n)):=fun h=>by rw[QB,if_neg h,ai]
   have ae:=hid al;clear al o I ai aq D;by_cases h7:k=6
   case pos=>
    obtain rfl:n=7:=by have:=ab.out;omega
    subst h7;clear aR a8;have hq:((v 7:Int)==0)=true:=by rw[ay.out];rfl
    go_wp2
    refine⟨⟨8,7,rfl,rfl,by omega,?_,Z.out⟩,by simp[intOf]⟩;have e:QB true (v 7==0) v 7=QB true (v 7==0) v 6:=by rw[QB,if_pos ⟨rfl,by rw[ay.out];rfl⟩]
    rw[e];exact G.out
   have h8: ¬((n:Int)=7):=by have:=ab.out;omega
   have h9: ¬(n=7):=by have:=ab.out;omega
   go_wp2_with fail
   refine(aO.out _).mono ?_;rintro r w4 ⟨rfl,hw⟩;rw[hw];clear hw;go_wp2_with fail
   refine HL.out.mono ?_;rintro r w4 ⟨rfl,ah,ad⟩;have O:=hid ah;have V:=hid ad;clear ah ad c6 cv;go_wp2
   refine⟨⟨n+1,k+1,rfl,by rw[ab.out],by omega,by rw[ae.out (fun h=>h7 (by omega))];exact O.out,Z.out.trans V.out⟩,by simp[intOf];omega⟩
  obtain rfl:k=9:=by omega
  obtain rfl:n=10:=by have:=ab.out;omega
  clear D o I ai;clear c6 ab U;have aD:=QU true (v 7==0) v 9 (by omega);have aH:=hid (show Q4 true v z1 z2=Qj (Qj (QB true (v 7==0) v 9) 32 z1) 48 z2 from rfl);generalize QB true (v 7==0) v 9=E at*;have an:E.length=64:=aD;have ak:=hid an;have O:=hid ah;have V:=hid ad;clear aD an hk be a3;go_wp2_with fail
  refine(Yo true _).mono ?_;rintro r w4 ⟨rfl,hw⟩;rw[hw];clear hw;rw[show((mB true:Nat):Int)=64 from rfl];go_wp2_with fail
  have X:=ak;go_loopw [13] (fun i wr=> ∃j:Nat,i= .int .i64 (j:Nat)∧j≤z1.length∧RowB wr g (Qj E 32 (z1.take j))∧But g W5 wr) (fun i _=>z1.length - (intOf i).toNat)
  case atStart=>exact⟨0,rfl,Nat.zero_le _,by rw[List.take_zero,YZ];exact G.out,Z.out⟩
  case round=>
   clear Z G aj ac;obtain⟨j,rfl,hj,o,I⟩:=hrel;have G:=hid o;have Z:=hid I;have aj:g+1<wr.heap.size:=by have:=I.size;omega
   have ac:q<wr.heap.size:=by omega
   have ap:g<wr.heap.size:=by omega
   have cz:wr.cell? ⟨q,9,none⟩=some (.slice a1 z1.length c1):=qd ((I.block q (by omega) (by omega)).trans ar.out) 9;by_cases U:j<z1.length
   case pos=>
    obtain⟨bb,ba,rfl,q1,q2,q3,q4⟩:=JL a9.out (ag▸av.out.trans (I.below (by omega) (by omega))) U;have aa:=o.set (32+j) (qr z1 j);rw[jx U (by have:=ak.out;have:=O.out;omega)]at aa;have ae:=hid aa;have D:(Qj E 32 (z1.take j)).length=64:=by rw[Qm (by rw[List.length_take];have:=X.out;have:=O.out;have:=V.out;omega)];exact X.out
    have co:=o.cell (i:=32+j) (by rw[D];have:=O.out;have:=V.out;omega);have fo:=frozen_of_row wr g (32+j) _ _ o;generalize qr (Qj E 32 (z1.take j)) (32+j)=zo at co;generalize qr z1 j=zj at*;have aQ:(j:Int)<16:=by have:=O.out;have:=V.out;omega
    clear aa D o I;go_wp2
    exact⟨⟨j+1,rfl,by omega,ae.out,Z.out.set _ _⟩,by simp[intOf];omega⟩
   obtain rfl:j=z1.length:=by omega
   rw[List.take_length]at G;clear o I;clear hj U X;have X:=hid (show(Qj E 32 z1).length=64 from by rw[Qm (by have:=ak.out;have:=O.out;omega)];exact ak.out);go_wp2_with fail
   clear cz ap;go_loopw [14] (fun i wr=> ∃j:Nat,i= .int .i64 (j:Nat)∧j≤z2.length∧RowB wr g (Qj (Qj E 32 z1) 48 (z2.take j))∧But g W5 wr) (fun i _=>z2.length - (intOf i).toNat)
   case atStart=>exact⟨0,rfl,Nat.zero_le _,by rw[List.take_zero,YZ];exact G.out,Z.out⟩
   case round=>
    clear Z G aj ac;obtain⟨j,rfl,hj,o,I⟩:=hrel;have G:=hid o;have Z:=hid I;have aj:g+1<wr.heap.size:=by have:=I.size;omega
    have ac:q<wr.heap.size:=by omega
    have ap:g<wr.heap.size:=by omega
    have cz:wr.cell? ⟨q,10,none⟩=some (.slice a2 z2.length c2):=qd ((I.block q (by omega) (by omega)).trans ar.out) 10;by_cases U:j<z2.length
    case pos=>
     obtain⟨bb,ba,rfl,q1,q2,q3,q4⟩:=JL bd.out (ag▸av.out.trans (I.below (by omega) (by omega))) U;have aa:=o.set (48+j) (qr z2 j);rw[jx U (by have:=X.out;have:=V.out;omega)]at aa;have ae:=hid aa;have D:(Qj (Qj E 32 z1) 48 (z2.take j)).length=64:=by rw[Qm (by rw[List.length_take];have:=X.out;have:=O.out;have:=V.out;omega)];exact X.out
     have co:=o.cell (i:=48+j) (by rw[D];have:=O.out;have:=V.out;omega);have fo:=frozen_of_row wr g (48+j) _ _ o;generalize qr (Qj (Qj E 32 z1) 48 (z2.take j)) (48+j)=zo at co;generalize qr z2 j=zj at*;have aQ:(j:Int)<16:=by have:=O.out;have:=V.out;omega
     clear aa D o I;go_wp2
     exact⟨⟨j+1,rfl,by omega,ae.out,Z.out.set _ _⟩,by simp[intOf];omega⟩
    obtain rfl:j=z2.length:=by omega
    rw[List.take_length]at G;clear o I;clear hj U;go_wp2
    go_ret2
    refine⟨⟨_,rfl,?_⟩,by rw[ag];exact av.out.trans (Z.out.below (by omega) (by omega))⟩;have ao:=yq (big:=true) (v:=v) O.out V.out;refine⟨by rw[List.length_map,ao];rfl,.inr ⟨g,64,_,rfl,by omega,G.out,Nat.le_refl _,by unfold maxLen;omega,?_,?_⟩⟩
    ·rw[List.size_toArray,List.length_map,←aH.out,ao];rfl
    ·rw[←aH.out];exact List.take_of_length_le (by rw[List.length_map,ao];decide)
theorem ZK (v:Nat→Nat)(z1 z2:List Int)(sa pe:Value)(w:World)(hP:ParOk false v)(h1:Hold w sa z1)(h2:Hold w pe z2)(ah:z1.length≤8)(ad:z2.length≤8):
  Calls Tryz.prog 138 #[.int .i64 2,parN v sa pe] w fun e w'=>(∃r,e= .returned (.tuple #[r,.int .i64 0])∧w'.ownsRow w.heap.size 5 1 r 32 ((Q4 false v z1 z2).map qt))∧Below w.heap.size w w':=by
 obtain⟨a1,c1,rfl,aX,a6⟩:=h1.slice;obtain⟨a2,c2,rfl,bf,aY⟩:=h2.slice;obtain⟨i0,hi,aP,aT,aM⟩:=info_parts Qr;obtain⟨q,ag⟩:=Ex w.heap.size;have aA:=hid (Zx hP a1 a2 c1 c2 ah ad);have ay:=hid hP.x0;have ax:=hid hP.le;have be:((v 5:Nat):Int)<4294967296:=by have:=hP.lf;omega
 have a3:((v 7:Nat):Int)<4294967296:=by have:=hP.x0;omega
 have Y: ∀f,1≤f→f≤9→IntKind.u64.wrap ((v f:Nat):Int)=((v f:Nat):Int):=fun f f1 f2=>u64_wrap_id _ (by omega) (by have:=ax.out f f1 f2;omega)
 have a5:=Y 1 (by omega) (by omega);have a4:=Y 2 (by omega) (by omega);have bc:=Y 3 (by omega) (by omega);have aU:=Y 4 (by omega) (by omega);have aN:=Y 5 (by omega) (by omega);have aZ:=Y 7 (by omega) (by omega);have aV:=Y 8 (by omega) (by omega);have a7:=Y 9 (by omega) (by omega);have aG:Below q w (w.alloc (.cells #[.int .i64 (v 1:Nat),.int .i64 (v 2:Nat),.int .i64 (v 3:Nat),.int .i64 (v 4:Nat),.int .u32 (v 5:Nat),.int .u64 (v 6:Nat),.int .u32 (v 7:Nat),.int .i64 (v 8:Nat),.int .i64 (v 9:Nat),.slice a1 z1.length c1,.slice a2 z2.length c2] 171)):=by rw[←ag];exact Br.alloc Nl _
 have af:=Wn w (.cells #[.int .i64 (v 1:Nat),.int .i64 (v 2:Nat),.int .i64 (v 3:Nat),.int .i64 (v 4:Nat),.int .u32 (v 5:Nat),.int .u64 (v 6:Nat),.int .u32 (v 7:Nat),.int .i64 (v 8:Nat),.int .i64 (v 9:Nat),.slice a1 z1.length c1,.slice a2 z2.length c2] 171);rw[ag]at af;have a9:=hid h1;have bd:=hid h2;have bl:=hid hP;clear hP h1 h2 Y aX a6 bf aY;unfold parN parV;unfold parN parV at aA;go_enter Tryz.func138,Tryz.ntmps138
 go_upto_region 1 with(fail)
 generalize w.alloc (.cells #[.int .i64 (v 1:Nat),.int .i64 (v 2:Nat),.int .i64 (v 3:Nat),.int .i64 (v 4:Nat),.int .u32 (v 5:Nat),.int .u64 (v 6:Nat),.int .u32 (v 7:Nat),.int .i64 (v 8:Nat),.int .i64 (v 9:Nat),.slice a1 z1.length c1,.slice a2 z2.length c2] 171)=wA at*;go_wp2_with ((with_reducible show wpList _ _ _ (Oper.mk _ (Op.load 171 _) _ _ _ _::_) _ _);refine wpList_load_row rfl 171 _ rfl q rfl _ _ _ _ af Tryz.underlying171 rfl (by kernel_rfl) ?_)
 refine(aA.out wA).mono ?_;rintro e w1 ⟨rfl,am⟩;have J:=qg af am;have aW:=am.size;have aK:q<wA.heap.size:=(Ai af).1;have bg:q<w1.heap.size:=by omega
 have aB:Below q w w1:=aG.trans (am.mono (by omega));have d0:w1.cell? ⟨q,0,none⟩=some (.int .i64 (v 1:Nat)):=qd J 0;have d1:w1.cell? ⟨q,1,none⟩=some (.int .i64 (v 2:Nat)):=qd J 1;have d2:w1.cell? ⟨q,2,none⟩=some (.int .i64 (v 3:Nat)):=qd J 2;have d3:w1.cell? ⟨q,3,none⟩=some (.int .i64 (v 4:Nat)):=qd J 3;have d4:w1.cell? ⟨q,4,none⟩=some (.int .u32 (v 5:Nat)):=qd J 4;have d5:w1.cell? ⟨q,5,none⟩=some (.int .u64 (v 6:Nat)):=qd J 5;have d6:w1.cell? ⟨q,6,none⟩=some (.int .u32 (v 7:Nat)):=qd J 6;have d7:w1.cell? ⟨q,7,none⟩=some (.int .i64 (v 8:Nat)):=qd J 7;have d8:w1.cell? ⟨q,8,none⟩=some (.int .i64 (v 9:Nat)):=qd J 8;have aE:=hid J;have az:=hid aB;clear am aG af J aB aW aK;go_wp2_with fail
 refine(Jk false _).mono ?_;rintro e w2 ⟨rfl,hw⟩;rw[hw];clear hw;rw[show((mB false:Nat):Int)=32 from rfl];have aF:=fun W:World=>run_make (P:=Tryz.prog) W 24 5 i0 (.int .u8 0) Tryz.underlying24 hi aP .i64 .i64 32 32 (by omega) (by omega) (by rw[aM];omega) (by omega)
 simp only[aT]at aF;go_wp2_with fail
 obtain⟨g,hg⟩:=Ex w1.heap.size;have aI:madeCells #[.int .u8 0] 32=((List.replicate 32 (0:Int)).map qt).toArray:=by
  apply Array.toList_inj.1
  rw[toList_madeCells_one];simp[qt]
 have bi:((w1.alloc (.cells (madeCells #[.int .u8 0] 32) 5)).alloc (.cells (Z4 v) 44)).heap.size=g+2:=by simp[hg]
 have aw:RowB ((w1.alloc (.cells (madeCells #[.int .u8 0] 32) 5)).alloc (.cells (Z4 v) 44)) g (QB false (v 7==0) v 0):=by
  unfold RowB;rw[Bh _ _ _ (by simp[hg]),aI,←hg];exact Wn _ _
 have au:((w1.alloc (.cells (madeCells #[.int .u8 0] 32) 5)).alloc (.cells (Z4 v) 44)).heap[g+1]? =some (.cells (Z4 v) 44 (0,0)):=by
  rw[show g+1=(w1.alloc (.cells (madeCells #[.int .u8 0] 32) 5)).heap.size by simp[hg]];exact Wn _ _
 have aJ:((w1.alloc (.cells (madeCells #[.int .u8 0] 32) 5)).alloc (.cells (Z4 v) 44)).heap[q]? =some (.cells #[.int .i64 (v 1:Nat),.int .i64 (v 2:Nat),.int .i64 (v 3:Nat),.int .i64 (v 4:Nat),.int .u32 (v 5:Nat),.int .u64 (v 6:Nat),.int .u32 (v 7:Nat),.int .i64 (v 8:Nat),.int .i64 (v 9:Nat),.slice a1 z1.length c1,.slice a2 z2.length c2] 171 (0,0)):=by
  rw[Bh _ _ _ (by simp;omega),Bh _ _ _ (by omega)];exact aE.out
 have aC:Below q w ((w1.alloc (.cells (madeCells #[.int .u8 0] 32) 5)).alloc (.cells (Z4 v) 44)):=(az.out.alloc (by omega) _).alloc (by simp;omega) _;change Code.wp _ _ _ _ ((w1.alloc (.cells (madeCells #[.int .u8 0] 32) 5)).alloc (.cells (Z4 v) 44))
 rw[hg];have bk:q<g:=by omega
 generalize ((w1.alloc (.cells (madeCells #[.int .u8 0] 32) 5)).alloc (.cells (Z4 v) 44))=W5 at*;have aS:=hid aw;have aL:=hid au;have ar:=hid aJ;have av:=hid aC;clear aw au aJ aC aI aF aE az hg d0 d1 d2 d3 d4 d5 d6 d7 d8 a5 a4 bc aU aN aZ aV a7;go_loopw [9] (fun f wr=> ∃n k:Nat,f= .int .i64 (n:Nat)∧n=k+1∧k≤9∧RowB wr g (QB false (v 7==0) v k)∧But g W5 wr) (fun f _=>10 - (intOf f).toNat)
 case atStart=>exact⟨1,0,rfl,rfl,by omega,aS.out,But.refl _ _⟩
 case round=>
  obtain⟨n,k,rfl,ai,hk,o,I⟩:=hrel;have ab:=hid ai;have G:=hid o;have Z:=hid I;have aj:g+1<wr.heap.size:=by have:=I.size;omega
  have c6:wr.cell? ⟨q,6,none⟩=some (.int .u32 (v 7:Nat)):=qd ((I.block q (by omega) (by omega)).trans ar.out) 6;have ac:q<wr.heap.size:=by omega
  have D:=QU false (v 7==0) v k hk;by_cases U:k<9
  case pos=>
   have bh:(n:Int)≤9:=by omega
   have bj:1≤(n:Int):=by omega
   have aR:(n:Int) - 1=(k:Nat):=by omega
   have cv:wr.cell? ⟨g+1,k,none⟩=some (.int .u64 (v (k+1):Nat)):=(qd ((I.block (g+1) (by omega) (by omega)).trans aL.out) k).trans (qfN v U);rw[←ai]at cv;have a8:(k:Int)<9:=by omega
   have aO:=hid (jJ false n ⟨by omega,by omega⟩);have aq:=Q6 false false n (by omega) (by omega);rw[show szE false false n=szB false n by simp[szE]]at aq;have HL:=hid (qcr (QB false (v 7==0) v k) g 32 32 (atB false n) (szB false n) (by omega) (by rw[D];show _≤32;have:=aq.2.2.2;have:=this rfl;omega) (by rw[D];rfl) Nl (by decide) (v n) (ax.out n (by omega) (by omega)) wr o);have al: ¬(k+1=7∧(v 7==0)=true)→QB false (v 7==0) v (k+1)=Qj (QB false (v 7==0) v k) (atB false n) (qZ (v n) (szB false n)):=fun h=>by rw[QB,if_neg h,ai]
   have ae:=hid al;clear al o I ai aq D;by_cases h7:k=6
   case pos=>
    obtain rfl:n=7:=by have:=ab.out;omega
    subst h7;clear aR a8;have hq:((v 7:Int)==0)=true:=by rw[ay.out];rfl
    go_wp2
    refine⟨⟨8,7,rfl,rfl,by omega,?_,Z.out⟩,by simp[intOf]⟩;have e:QB false (v 7==0) v 7=QB false (v 7==0) v 6:=by rw[QB,if_pos ⟨rfl,by rw[ay.out];rfl⟩]
    rw[e];exact G.out
   have h8: ¬((n:Int)=7):=by have:=ab.out;omega
   have h9: ¬(n=7):=by have:=ab.out;omega
   go_wp2_with fail
   refine(aO.out _).mono ?_;rintro r w4 ⟨rfl,hw⟩;rw[hw];clear hw;go_wp2_with fail
   refine HL.out.mono ?_;rintro r w4 ⟨rfl,ah,ad⟩;have O:=hid ah;have V:=hid ad;clear ah ad c6 cv;go_wp2
   refine⟨⟨n+1,k+1,rfl,by rw[ab.out],by omega,by rw[ae.out (fun h=>h7 (by omega))];exact O.out,Z.out.trans V.out⟩,by simp[intOf];omega⟩
  obtain rfl:k=9:=by omega
  obtain rfl:n=10:=by have:=ab.out;omega
  clear D o I ai;clear c6 ab U;have aD:=QU false (v 7==0) v 9 (by omega);have aH:=hid (show Q4 false v z1 z2=Qj (Qj (QB false (v 7==0) v 9) 16 z1) 24 z2 from rfl);generalize QB false (v 7==0) v 9=E at*;have an:E.length=32:=aD;have ak:=hid an;have O:=hid ah;have V:=hid ad;clear aD an hk be a3;go_wp2_with fail
  refine(Yo false _).mono ?_;rintro r w4 ⟨rfl,hw⟩;rw[hw];clear hw;rw[show((mB false:Nat):Int)=32 from rfl];go_wp2_with fail
  have X:=ak;go_loopw [13] (fun i wr=> ∃j:Nat,i= .int .i64 (j:Nat)∧j≤z1.length∧RowB wr g (Qj E 16 (z1.take j))∧But g W5 wr) (fun i _=>z1.length - (intOf i).toNat)
  case atStart=>exact⟨0,rfl,Nat.zero_le _,by rw[List.take_zero,YZ];exact G.out,Z.out⟩
  case round=>
   clear Z G aj ac;obtain⟨j,rfl,hj,o,I⟩:=hrel;have G:=hid o;have Z:=hid I;have aj:g+1<wr.heap.size:=by have:=I.size;omega
   have ac:q<wr.heap.size:=by omega
   have ap:g<wr.heap.size:=by omega
   have cz:wr.cell? ⟨q,9,none⟩=some (.slice a1 z1.length c1):=qd ((I.block q (by omega) (by omega)).trans ar.out) 9;by_cases U:j<z1.length
   case pos=>
    obtain⟨bb,ba,rfl,q1,q2,q3,q4⟩:=JL a9.out (ag▸av.out.trans (I.below (by omega) (by omega))) U;have aa:=o.set (16+j) (qr z1 j);rw[jx U (by have:=ak.out;have:=O.out;omega)]at aa;have ae:=hid aa;have D:(Qj E 16 (z1.take j)).length=32:=by rw[Qm (by rw[List.length_take];have:=X.out;have:=O.out;have:=V.out;omega)];exact X.out
    have co:=o.cell (i:=16+j) (by rw[D];have:=O.out;have:=V.out;omega);have fo:=frozen_of_row wr g (16+j) _ _ o;generalize qr (Qj E 16 (z1.take j)) (16+j)=zo at co;generalize qr z1 j=zj at*;have aQ:(j:Int)<8:=by have:=O.out;have:=V.out;omega
    clear aa D o I;go_wp2
    exact⟨⟨j+1,rfl,by omega,ae.out,Z.out.set _ _⟩,by simp[intOf];omega⟩
   obtain rfl:j=z1.length:=by omega
   rw[List.take_length]at G;clear o I;clear hj U X;have X:=hid (show(Qj E 16 z1).length=32 from by rw[Qm (by have:=ak.out;have:=O.out;omega)];exact ak.out);go_wp2_with fail
   clear cz ap;go_loopw [14] (fun i wr=> ∃j:Nat,i= .int .i64 (j:Nat)∧j≤z2.length∧RowB wr g (Qj (Qj E 16 z1) 24 (z2.take j))∧But g W5 wr) (fun i _=>z2.length - (intOf i).toNat)
   case atStart=>exact⟨0,rfl,Nat.zero_le _,by rw[List.take_zero,YZ];exact G.out,Z.out⟩
   case round=>
    clear Z G aj ac;obtain⟨j,rfl,hj,o,I⟩:=hrel;have G:=hid o;have Z:=hid I;have aj:g+1<wr.heap.size:=by have:=I.size;omega
    have ac:q<wr.heap.size:=by omega
    have ap:g<wr.heap.size:=by omega
    have cz:wr.cell? ⟨q,10,none⟩=some (.slice a2 z2.length c2):=qd ((I.block q (by omega) (by omega)).trans ar.out) 10;by_cases U:j<z2.length
    case pos=>
     obtain⟨bb,ba,rfl,q1,q2,q3,q4⟩:=JL bd.out (ag▸av.out.trans (I.below (by omega) (by omega))) U;have aa:=o.set (24+j) (qr z2 j);rw[jx U (by have:=X.out;have:=V.out;omega)]at aa;have ae:=hid aa;have D:(Qj (Qj E 16 z1) 24 (z2.take j)).length=32:=by rw[Qm (by rw[List.length_take];have:=X.out;have:=O.out;have:=V.out;omega)];exact X.out
     have co:=o.cell (i:=24+j) (by rw[D];have:=O.out;have:=V.out;omega);have fo:=frozen_of_row wr g (24+j) _ _ o;generalize qr (Qj (Qj E 16 z1) 24 (z2.take j)) (24+j)=zo at co;generalize qr z2 j=zj at*;have aQ:(j:Int)<8:=by have:=O.out;have:=V.out;omega
     clear aa D o I;go_wp2
     exact⟨⟨j+1,rfl,by omega,ae.out,Z.out.set _ _⟩,by simp[intOf];omega⟩
    obtain rfl:j=z2.length:=by omega
    rw[List.take_length]at G;clear o I;clear hj U;go_wp2
    go_ret2
    refine⟨⟨_,rfl,?_⟩,by rw[ag];exact av.out.trans (Z.out.below (by omega) (by omega))⟩;have ao:=yq (big:=false) (v:=v) O.out V.out;refine⟨by rw[List.length_map,ao];rfl,.inr ⟨g,32,_,rfl,by omega,G.out,Nat.le_refl _,by unfold maxLen;omega,?_,?_⟩⟩
    ·rw[List.size_toArray,List.length_map,←aH.out,ao];rfl
    ·rw[←aH.out];exact List.take_of_length_le (by rw[List.length_map,ao];decide)
theorem qiV (b:List Int)(g n c p k:Nat)(hk:k≤8)(hp:p+k≤b.length)(V:n=b.length)(hc:n≤c)(af:n≤65535)(x:Nat)(hx:(x:Int)≤18446744073709551615)(w:World)(h:RowB w g b):
  Calls Tryz.prog 135 #[.slice (some ⟨g,0,none⟩) n c,.int .i64 (p:Nat),.int .i64 (k:Nat),.int .u64 (x:Nat)] w fun e w'=>e= .returned (.tuple #[])∧RowB w' g (Qj b p (qZ x k))∧But g w w':=by
 have X:g<w.heap.size:=(Ai h).1;have HR:=hid h;have Y:=hid V;have ad:(p:Int)+k≤n:=by omega
 have ac:(n:Int)≤65535:=by omega
 clear h V;go_enter Tryz.func135,Tryz.ntmps135
 go_wp2_with fail
 go_loopw [10] (fun i wr=> ∃j:Nat,i= .int .i64 (j:Nat)∧j≤k∧RowB wr g (Qj b p (qZ x j))∧But g w wr) (fun i _=>k - (intOf i).toNat)
 case atStart=>exact⟨0,rfl,Nat.zero_le _,by show RowB w g (Qj b p []);rw[YZ];exact HR.out,But.refl _ _⟩
 case round=>
  obtain⟨j,rfl,hj,o,r⟩:=hrel;by_cases ae:j<k
  ·have hl:(Qj b p (qZ x j)).length=b.length:=Qm (by rw[qY];omega);have U:=o.cell (i:=p+j) (by have:=Y.out;omega);have ab:=frozen_of_row wr g (p+j) _ _ o;have aa:g<wr.heap.size:=Nat.lt_of_lt_of_le X r.size;have q:=zW x j;have D:=o.set (p+j) (byt x j);have e:(Qj b p (qZ x j)).set (p+j) (byt x j)=Qj b p (qZ x (j+1)):=by
    have J:=J4 (b:=b) (zs:=qZ x j) (p:=p) (z:=byt x j) (by rw[qY];omega);rw[qY]at J;rw[←J,Y9]
   rw[e]at D;have O:=hid D;have G:=hid r;generalize qr (Qj b p (qZ x j)) (p+j)=z0 at U;have I:(j:Int)<k∧(k:Int)≤8∧0≤(j:Int)∧(p:Int)+j<n:=by omega
   obtain⟨q1,q2,q3,q4⟩:=I;clear D e hl o r;go_wp2
   exact⟨⟨j+1,rfl,by omega,O.out,G.out.set _ _⟩,by simp[intOf];omega⟩
  ·obtain rfl:j=k:=by omega
   have G:=hid r;have Z:=hid o;clear r o;go_wp2
   go_end0
   exact⟨rfl,Z.out,G.out⟩
theorem qgW {big:Bool}{v:Nat→Nat}(r:ParOk big v)(I G:Value)(f:Nat)(D:1≤f)(o:f≤9)(w:World):
  Calls Tryz.prog 136 #[parN v I G,.int .i64 (f:Nat)] w fun e w'=>e= .returned (.int .u64 (v f:Nat))∧Below w.heap.size w w':=by
 have q:IntKind.u64.wrap ((v f:Nat):Int)=((v f:Nat):Int):=u64_wrap_id _ (by omega) (by have:=r.le f D o;omega);unfold parN parV;clear r;rcases(show f=1∨f=2∨f=3∨f=4∨f=5∨f=6∨f=7∨f=8∨f=9 by omega)with rfl|rfl|rfl|rfl|rfl|rfl|rfl|rfl|rfl
 all_goals
  clear D o;go_enter Tryz.func136,Tryz.ntmps136
  go_wp2_with fail
  go_ret
  exact⟨rfl,Br.alloc Nl _⟩
end Go.Proofs.YthjoojnlnlmljaaGreat
