/- The output of a hasher of words. No condition. -/
import Derived.Test.YthjoojnlnlmljaaGreatP00
import Derived.Test.YthjoojnlnlmljaaGreatP01
import Derived.Test.YthjoojnlnlmljaaGreatB30
import Derived.Test.YthjoojnlnlmljaaGreatB24
import Derived.Test.YthjoojnlnlmljaaGreatB28
set_option linter.all false
set_option maxRecDepth 100000
set_option maxHeartbeats 8000000
namespace Go.Proofs.YthjoojnlnlmljaaGreat
open Go.ChangeShapes Go.WideShapes Go.ChangeAt Go.RowKit Go.Joins Go.Shelf Go.Maps
open Go.Lib (hid)
attribute [local go_sem] Oper.semAt_some
theorem qiu (h0 I:List Int)(node:Bool)(hh:Words 64 8 h0)(hm: ∀z∈I,0≤z∧z≤255)(p:Nat)(hv:Value)(w:World)(hE:Q1 true w p hv h0 I)(aK:(I.length:Int)≤281474976710656):
  Calls Tryz.prog 258 #[.pointer (some ⟨p,0,none⟩),.bool node] w fun e w'=> ∃v,e= .returned v∧w'.ownsRow w.heap.size 5 1 v 64 ((zU true h0 I node).map qo)∧Below w.heap.size w w':=by
 have bs:p<w.heap.size:=(Ai hE.1).1;obtain⟨ad,aa⟩:=hE;have ak:=JY (YY true) I;have aD:=ju (YY true) I;have au:=zL (n:=bB true) hm;have ah:=Yk true hh I (nbk (bB true) I.length);have ay:=qaD (YY true) I;have an:zU true h0 I node=qQ 8 (yJ true (stZ true h0 I (nbk (bB true) I.length)) (QG 128 (yj (bB true) I)) ((bB true*nbk (bB true) I.length+(yj (bB true) I).length:Nat):Int) true node) 8:=by rw[ak];unfold zU;rw[ay];rfl
 simp only[cond]at ad;rw[an];clear an ay hh;generalize stZ true h0 I (nbk (bB true) I.length)=H1 at*;generalize bB true*nbk (bB true) I.length=ag at*;generalize yj (bB true) I=X at*;have ai:X.length≤128:=aD;clear hm aD;obtain⟨a1,n1,c1,rfl⟩:=qs aa;obtain rfl:n1=X.length:=yM aa;have aI:=Qi aa au;obtain⟨Z,aB⟩:=Ex (ag+X.length);have ax:=qd4 ag X.length (by omega);have ao:(Z:Int)<9223372036854775808:=by omega
 have bq:=hid ao;rw[aB]at ax⊢;have ar:=yq (n:=128) au;have al:=QO (n:=128) ai;have aw:=jN X (.slice a1 X.length c1) 128;obtain⟨PZ,aH⟩:=Ex (QG 128 X);rw[aH]at ar al aw⊢;have av:=QX true ah PZ (Z:Nat) true node;have aG:=qeO H1 PZ ah;obtain⟨R,U⟩:=Ex (yJ true H1 PZ (Z:Nat) true node);have ae:=fun(v:Value) (W:World) (h8:Holds8 W v PZ)=>aG v Z ao true node W h8 ar al
 rw[U]at av⊢;simp only[U]at ae;have a6:=hid ax;have aO:=hid aw;have aM:=hid ae;have aA:=hid ah;have aT:=hid av;have af:=hid ad;have a7:=hid aI;clear ax aw aG ae ah av ad aI aa ak aB aH U ar al au ao aK;have bn:(X.length:Int)≤128:=by omega
 go_enter Tryz.func258,Tryz.ntmps258
 go_upto_region 1 with(fail)
 refine yl (fun _ W=>Below w.heap.size w W) 15 [.z 8 p 0,.z 9 p 0,.z 10 p 8,.v 11 (.agg #[.int .u64 ag,.int .u64 0]),.z 12 p 0,.z 13 p 0,.z 14 p 10,.v 15 (.slice a1 X.length c1),.v 16 (.int .i64 (X.length:Nat)),.v 17 (.int .u64 (X.length:Nat)),.v 18 (.tuple #[.agg #[.int .u64 Z,.int .u64 0],.bool false]),.v 7 (.tuple #[.agg #[.int .u64 Z,.int .u64 0],.bool false]),.v 19 (.agg #[.int .u64 Z,.int .u64 0]),.v 20 (.bool false),.p 5 (fun u W=> ∃J,u= .pointer (some ⟨J,0,none⟩)∧w.heap.size≤J∧ ∃c,W.heap[J]? =some (.cells c 281 (0,0))∧c.size=2),.f none [5] (fun vs W=> ∃J,vs=[.pointer (some ⟨J,0,none⟩)]∧w.heap.size≤J∧W.heap[J]? =some (.cells #[.int .u64 Z,.int .u64 0] 281 (0,0))),.v 6 (.bool false)] (by exact⟨(fun _ _ V _ h=>by obtain⟨J,e,h3,c,h4,h5⟩:=h;exact⟨J,e,h3,c,qf h4 V,h5⟩),(fun _ _ V _ h=>by obtain⟨J,e,h3,h4⟩:=h;exact⟨J,e,h3,qf h4 V⟩),trivial⟩) Br.drew (fun _ _ _ h V=>h.trans (V.mono h.size)) ?_ ?_ ?_
 ·repeat' (with_reducible first|exact qB|refine qw ?_ ?_)
  all_goals try
   refine .inr ?_;intro A x W f r U hf o D K G;have a0:=r.2 0 (by decide);conv at a0=>rhs;whnf
   simp only[Q7,yk]at D;clear o r;first
   | go_simp
     exact G _ _ BR rfl
   | have y0:IntKind.u64.wrap (X.length:Int)=(X.length:Int):=u64_wrap_id _ (by omega) (by omega)
     go_simp
     exact G _ _ BR rfl
  any_goals exact .inl rfl
  all_goals refine .inr ?_
  ·intro A x W f r U hf o _ K G;have a3:=gw r o 2 10;clear o r;have Y:=qf af.out U;refine Qs 281 _ rfl p 8 a3 283 _ #[.int .u64 ag,.int .u64 0] (0,0) _ Y Tryz.underlying281 rfl (by kernel_rfl) (qdY _ _ _) (G _ _ Br rfl)
  ·intro A x W f r U hf o _ K G;have bl:=gw r o 6 14;clear o r;have Y:=qf af.out U;have c0:W.cell? ⟨p,10,none⟩=some (.slice a1 X.length c1):=qd Y 10;go_simp
   exact G _ _ BR rfl
  ·intro A x W f r U hf o _ K G;have bh:=gw r o 3 11;have bd:=gw r o 9 17;clear o r;go_simp
   refine(a6.out _).mono ?_;rintro e w' ⟨rfl,V⟩;exact G _ _ V rfl
  ·intro A x W f r U hf o _ K G;clear o r;go_simp
   exact G _ _ (Br.alloc Nl _) ⟨W.heap.size,rfl,U.size,_,Wn W _,rfl⟩
 ·intro A x W r U o K G;have g5:(fun u W=> ∃J,u= .pointer (some ⟨J,0,none⟩)∧w.heap.size≤J∧ ∃c,W.heap[J]? =some (.cells c 281 (0,0))∧c.size=2) (x 5) W:=o ⟨14,.data⟩ (by simp) rfl;have a5:A.tmps.getD 5 undef=x 5:=r.1 5 (by decide);have aP:=gw r o 12 19;clear o r;obtain⟨J,e5,aF,c,aq,aR⟩:=g5;refine wp_store_row 281 _ _ rfl J #[.int .u64 Z,.int .u64 0] (a5.trans e5) aP 281 c aq (by kernel_rfl) (by rw[aR];rfl) (by simp[Value.oneCell']) ?_;have aY:Below w.heap.size w (W.setRow J #[.int .u64 Z,.int .u64 0]):=below_setRow U aF _;refine G _ _ (fun _=>rfl) aY ⟨.inr (fun _ h=>h),.inr (fun _ h=>h),.inr (fun _ h=>h),.inr (fun _ h=>h),.inr (fun _ h=>h),.inr (fun _ h=>h),.inr (fun _ h=>h),.inr (fun _ h=>h),.inr (fun _ h=>h),.inr (fun _ h=>h),.inr (fun _ h=>h),.inr (fun _ h=>h),.inr (fun _ h=>h),.inr (fun _ h=>h),.inr (fun u h=>?_),.inl rfl,.inr (fun _ h=>h),trivial⟩ ⟨J,by simp[e5],aF,setRow_heap _ _ _ _ _ _ aq⟩;obtain⟨q,e,q1,c',q2,q3⟩:=h;refine⟨q,e,q1,?_⟩;by_cases hq:q=J
  ·subst hq;exact⟨_,setRow_heap _ _ _ _ _ _ aq,rfl⟩
  ·exact⟨c',(setRow_other _ _ _ _ hq).trans q2,q3⟩
 intro x W U ac;obtain⟨e5,aN, -⟩:=ac;change (fun u W=> ∃J,u= .pointer (some ⟨J,0,none⟩)∧w.heap.size≤J∧ ∃c,W.heap[J]? =some (.cells c 281 (0,0))∧c.size=2) (x 5) W at e5
 obtain⟨pc,e5,a4, -⟩:=e5;obtain⟨bb,aC,aL,am⟩:=aN;simp only[List.map_cons,List.map_nil,e5,List.cons.injEq,Value.pointer.injEq,Option.some.injEq,Addr.mk.injEq,and_true]at aC;obtain rfl:=aC;simp only[QP,Act.put,Ls,e5];clear e5;have aj:=qf af.out U;have aJ:=a7.out.below U;have ab:=hid aj;have aZ:=hid aJ;have aQ:=hid am;have aS:=hid U;have a9:p<W.heap.size:=(Ai aj).1;have ba:pc<W.heap.size:=(Ai am).1;have ap:w.heap.size≤W.heap.size:=U.size;clear aj aJ am U x a4 aL;generalize W=W2 at*;go_upto_region 2 with(fail)
 refine qI (n:=26) (w0:=W2) (B:=W2.heap.size) [.z 21 p 0,.z 22 p 0,.z 23 p 13,.v 24 (.func (.func 185) #[] #[]),.z 25 p 0,.z 26 p 0,.z 27 p 12,.v 28 (.func (.func 184) #[] #[]),.z 29 p 0,.z 30 p 0,.z 31 p 0,.v 32 (.agg (qj .u64 H1)),.z 33 p 0,.z 34 p 0,.z 35 p 10,.v 36 (.slice a1 X.length c1),.z 37 p 0,.z 38 p 0,.z 39 p 11,.v 40 (.int .i64 128),.p 41 (fun u W=>W.ownsRow W2.heap.size 5 1 u 128 (PZ.map qo)),.v 42 (.agg #[.int .u64 Z,.int .u64 0]),.v 43 (.bool node),.v 44 (.agg (qj .u64 R)),.p 45 (fun u W=>W.ownsRow W2.heap.size 5 1 u 64 ((qQ 8 R 8).map qo)),.p 4 (fun u W=>W.ownsRow W2.heap.size 5 1 u 64 ((qQ 8 R 8).map qo))] (by exact⟨(fun _ _ _ h V=>qi h (fun g _ hg=>V.block g hg)),(fun _ _ _ h V=>qi h (fun g _ hg=>V.block g hg)),(fun _ _ _ h V=>qi h (fun g _ hg=>V.block g hg)),trivial⟩) Br.drew Nl ?_ ?_
 ·repeat' (with_reducible first|exact qB|refine qw ?_ ?_)
  all_goals try
   intro A x W r S O o D K G;have a0:=r.2 0 (by decide);conv at a0=>rhs;whnf
   have a1:=r.2 1 (by decide);conv at a1=>rhs;whnf
   simp only[Q7,yk]at D;clear o r;go_simp
   exact G _ _ BR rfl
  ·intro A x W r S O o _ K G;have bp:=gv r o 2 23;clear o r;have Y:=qf ab.out S;have c0:W.cell? ⟨p,13,none⟩=some (.func (.func 185) #[] #[]):=qd Y 13;go_simp
   exact G _ _ BR rfl
  ·intro A x W r S O o _ K G;have bc:=gv r o 6 27;clear o r;have Y:=qf ab.out S;have c0:W.cell? ⟨p,12,none⟩=some (.func (.func 184) #[] #[]):=qd Y 12;go_simp
   exact G _ _ BR rfl
  ·intro A x W r S O o _ K G;have a8:=gv r o 10 31;clear o r;have Y:=qf ab.out S;refine Qs 274 _ rfl p 0 a8 283 _ (qj .u64 H1) (0,0) _ Y Tryz.underlying274 rfl (by rw[qg,aA.out.1];kernel_rfl) (qiM aA.out _ _) (G _ _ Br rfl)
  ·intro A x W r S O o _ K G;have bg:=gv r o 14 35;clear o r;have Y:=qf ab.out S;have c0:W.cell? ⟨p,10,none⟩=some (.slice a1 X.length c1):=qd Y 10;go_simp
   exact G _ _ BR rfl
  ·intro A x W r S O o _ K G;have bt:=gv r o 18 39;clear o r;have Y:=qf ab.out S;have c0:W.cell? ⟨p,11,none⟩=some (.int .i64 128):=qd Y 11;go_simp
   exact G _ _ BR rfl
  ·intro A x W r S O o _ K G;have bf:=gv r o 15 36;have br:=gv r o 19 40;clear o r;go_simp
   refine(aO.out _ (aZ.out.below S) ai (by decide)).mono ?_;rintro e w' ⟨u,rfl,ho,V⟩;exact G _ _ V (ownsRow_le ho O)
  ·intro A x W r S O o _ K G;have a5:=r.2 5 (by decide);conv at a5=>rhs;whnf
   clear o r;have Y:=qf aQ.out S;refine wp_load_row 281 _ rfl pc a5 _ _ _ _ Y Tryz.underlying281 rfl (by kernel_rfl) (G _ _ Br rfl)
  ·intro A x W r S O o _ K G;have bj:=gv r o 7 28;have bm:=gv r o 11 32;have aU:(fun u W=>W.ownsRow W2.heap.size 5 1 u 128 (PZ.map qo)) (x 41) W:=o ⟨20,.data⟩ (by simp) rfl _ rfl;have bk:A.tmps.getD 41 undef=x 41:=r.1 41 (by decide);have bi:=gv r o 21 42;have be:=gv r o 22 43;clear o r;go_simp
   refine(aM.out _ _ (yf aU)).mono ?_;rintro e w' ⟨rfl,V⟩;exact G _ _ V rfl
  ·intro A x W r S O o _ K G;have bu:=gv r o 3 24;have bo:=gv r o 23 44;clear o r;go_simp
   refine(qgv R aT.out _).mono ?_;rintro e w' ⟨u,rfl,ho,V⟩;exact G _ _ V (ownsRow_le ho O)
  ·intro A x W r S O o _ K G;have aW:(fun u W=>W.ownsRow W2.heap.size 5 1 u 64 ((qQ 8 R 8).map qo)) (x 45) W:=o ⟨24,.data⟩ (by simp) rfl _ rfl;have aX:A.tmps.getD 45 undef=x 45:=r.1 45 (by decide);clear o r;go_simp
   exact G _ _ Br (aX▸aW)
 intro x W S O ac;obtain⟨aE,az,e4, -⟩:=ac;change (fun u W=>W.ownsRow W2.heap.size 5 1 u 128 (PZ.map qo)) (x 41) W at aE
 change (fun u W=>W.ownsRow W2.heap.size 5 1 u 64 ((qQ 8 R 8).map qo)) (x 45) W at az
 change (fun u W=>W.ownsRow W2.heap.size 5 1 u 64 ((qQ 8 R 8).map qo)) (x 4) W at e4
 refine qv ?_;simp only[QP,Act.put,Ls];have aV:=aS.out.trans (S.mono ap);have E4:=hid (ownsRow_le e4 ap);clear aE az e4 S O;go_wp2
 go_ret
 exact⟨_,rfl,E4.out,aV⟩
theorem qhs (h0 I:List Int)(node:Bool)(hh:Words 32 8 h0)(hm: ∀z∈I,0≤z∧z≤255)(p:Nat)(hv:Value)(w:World)(hE:Q1 false w p hv h0 I)(aK:(I.length:Int)≤281474976710656):
  Calls Tryz.prog 264 #[.pointer (some ⟨p,0,none⟩),.bool node] w fun e w'=> ∃v,e= .returned v∧w'.ownsRow w.heap.size 5 1 v 32 ((zU false h0 I node).map qo)∧Below w.heap.size w w':=by
 have bs:p<w.heap.size:=(Ai hE.1).1;obtain⟨ad,aa⟩:=hE;have ak:=JY (YY false) I;have aD:=ju (YY false) I;have au:=zL (n:=bB false) hm;have ah:=Yk false hh I (nbk (bB false) I.length);have ay:=qaD (YY false) I;have an:zU false h0 I node=qQ 4 (yJ false (stZ false h0 I (nbk (bB false) I.length)) (QG 64 (yj (bB false) I)) ((bB false*nbk (bB false) I.length+(yj (bB false) I).length:Nat):Int) true node) 8:=by rw[ak];unfold zU;rw[ay];rfl
 simp only[cond]at ad;rw[an];clear an ay hh;generalize stZ false h0 I (nbk (bB false) I.length)=H1 at*;generalize bB false*nbk (bB false) I.length=ag at*;generalize yj (bB false) I=X at*;have ai:X.length≤64:=aD;clear hm aD;obtain⟨a1,n1,c1,rfl⟩:=qs aa;obtain rfl:n1=X.length:=yM aa;have aI:=Qi aa au;obtain⟨Z,aB⟩:=Ex (ag+X.length);have ax:=qd4 ag X.length (by omega);have ao:(Z:Int)<9223372036854775808:=by omega
 have bq:=hid ao;rw[aB]at ax⊢;have ar:=yq (n:=64) au;have al:=QO (n:=64) ai;have aw:=jN X (.slice a1 X.length c1) 64;obtain⟨PZ,aH⟩:=Ex (QG 64 X);rw[aH]at ar al aw⊢;have av:=QX false ah PZ (Z:Nat) true node;have aG:=qc2 H1 PZ ah;obtain⟨R,U⟩:=Ex (yJ false H1 PZ (Z:Nat) true node);have ae:=fun(v:Value) (W:World) (h8:Holds8 W v PZ)=>aG v Z ao true node W h8 ar al
 rw[U]at av⊢;simp only[U]at ae;have a6:=hid ax;have aO:=hid aw;have aM:=hid ae;have aA:=hid ah;have aT:=hid av;have af:=hid ad;have a7:=hid aI;clear ax aw aG ae ah av ad aI aa ak aB aH U ar al au ao aK;have bn:(X.length:Int)≤64:=by omega
 go_enter Tryz.func264,Tryz.ntmps264
 go_upto_region 1 with(fail)
 refine yl (fun _ W=>Below w.heap.size w W) 15 [.z 8 p 0,.z 9 p 0,.z 10 p 8,.v 11 (.agg #[.int .u64 ag,.int .u64 0]),.z 12 p 0,.z 13 p 0,.z 14 p 10,.v 15 (.slice a1 X.length c1),.v 16 (.int .i64 (X.length:Nat)),.v 17 (.int .u64 (X.length:Nat)),.v 18 (.tuple #[.agg #[.int .u64 Z,.int .u64 0],.bool false]),.v 7 (.tuple #[.agg #[.int .u64 Z,.int .u64 0],.bool false]),.v 19 (.agg #[.int .u64 Z,.int .u64 0]),.v 20 (.bool false),.p 5 (fun u W=> ∃J,u= .pointer (some ⟨J,0,none⟩)∧w.heap.size≤J∧ ∃c,W.heap[J]? =some (.cells c 281 (0,0))∧c.size=2),.f none [5] (fun vs W=> ∃J,vs=[.pointer (some ⟨J,0,none⟩)]∧w.heap.size≤J∧W.heap[J]? =some (.cells #[.int .u64 Z,.int .u64 0] 281 (0,0))),.v 6 (.bool false)] (by exact⟨(fun _ _ V _ h=>by obtain⟨J,e,h3,c,h4,h5⟩:=h;exact⟨J,e,h3,c,qf h4 V,h5⟩),(fun _ _ V _ h=>by obtain⟨J,e,h3,h4⟩:=h;exact⟨J,e,h3,qf h4 V⟩),trivial⟩) Br.drew (fun _ _ _ h V=>h.trans (V.mono h.size)) ?_ ?_ ?_
 ·repeat' (with_reducible first|exact qB|refine qw ?_ ?_)
  all_goals try
   refine .inr ?_;intro A x W f r U hf o D K G;have a0:=r.2 0 (by decide);conv at a0=>rhs;whnf
   simp only[Q7,yk]at D;clear o r;first
   | go_simp
     exact G _ _ BR rfl
   | have y0:IntKind.u64.wrap (X.length:Int)=(X.length:Int):=u64_wrap_id _ (by omega) (by omega)
     go_simp
     exact G _ _ BR rfl
  any_goals exact .inl rfl
  all_goals refine .inr ?_
  ·intro A x W f r U hf o _ K G;have a3:=gw r o 2 10;clear o r;have Y:=qf af.out U;refine Qs 281 _ rfl p 8 a3 291 _ #[.int .u64 ag,.int .u64 0] (0,0) _ Y Tryz.underlying281 rfl (by kernel_rfl) (qdX _ _ _) (G _ _ Br rfl)
  ·intro A x W f r U hf o _ K G;have bl:=gw r o 6 14;clear o r;have Y:=qf af.out U;have c0:W.cell? ⟨p,10,none⟩=some (.slice a1 X.length c1):=qd Y 10;go_simp
   exact G _ _ BR rfl
  ·intro A x W f r U hf o _ K G;have bh:=gw r o 3 11;have bd:=gw r o 9 17;clear o r;go_simp
   refine(a6.out _).mono ?_;rintro e w' ⟨rfl,V⟩;exact G _ _ V rfl
  ·intro A x W f r U hf o _ K G;clear o r;go_simp
   exact G _ _ (Br.alloc Nl _) ⟨W.heap.size,rfl,U.size,_,Wn W _,rfl⟩
 ·intro A x W r U o K G;have g5:(fun u W=> ∃J,u= .pointer (some ⟨J,0,none⟩)∧w.heap.size≤J∧ ∃c,W.heap[J]? =some (.cells c 281 (0,0))∧c.size=2) (x 5) W:=o ⟨14,.data⟩ (by simp) rfl;have a5:A.tmps.getD 5 undef=x 5:=r.1 5 (by decide);have aP:=gw r o 12 19;clear o r;obtain⟨J,e5,aF,c,aq,aR⟩:=g5;refine wp_store_row 281 _ _ rfl J #[.int .u64 Z,.int .u64 0] (a5.trans e5) aP 281 c aq (by kernel_rfl) (by rw[aR];rfl) (by simp[Value.oneCell']) ?_;have aY:Below w.heap.size w (W.setRow J #[.int .u64 Z,.int .u64 0]):=below_setRow U aF _;refine G _ _ (fun _=>rfl) aY ⟨.inr (fun _ h=>h),.inr (fun _ h=>h),.inr (fun _ h=>h),.inr (fun _ h=>h),.inr (fun _ h=>h),.inr (fun _ h=>h),.inr (fun _ h=>h),.inr (fun _ h=>h),.inr (fun _ h=>h),.inr (fun _ h=>h),.inr (fun _ h=>h),.inr (fun _ h=>h),.inr (fun _ h=>h),.inr (fun _ h=>h),.inr (fun u h=>?_),.inl rfl,.inr (fun _ h=>h),trivial⟩ ⟨J,by simp[e5],aF,setRow_heap _ _ _ _ _ _ aq⟩;obtain⟨q,e,q1,c',q2,q3⟩:=h;refine⟨q,e,q1,?_⟩;by_cases hq:q=J
  ·subst hq;exact⟨_,setRow_heap _ _ _ _ _ _ aq,rfl⟩
  ·exact⟨c',(setRow_other _ _ _ _ hq).trans q2,q3⟩
 intro x W U ac;obtain⟨e5,aN, -⟩:=ac;change (fun u W=> ∃J,u= .pointer (some ⟨J,0,none⟩)∧w.heap.size≤J∧ ∃c,W.heap[J]? =some (.cells c 281 (0,0))∧c.size=2) (x 5) W at e5
 obtain⟨pc,e5,a4, -⟩:=e5;obtain⟨bb,aC,aL,am⟩:=aN;simp only[List.map_cons,List.map_nil,e5,List.cons.injEq,Value.pointer.injEq,Option.some.injEq,Addr.mk.injEq,and_true]at aC;obtain rfl:=aC;simp only[QP,Act.put,Ls,e5];clear e5;have aj:=qf af.out U;have aJ:=a7.out.below U;have ab:=hid aj;have aZ:=hid aJ;have aQ:=hid am;have aS:=hid U;have a9:p<W.heap.size:=(Ai aj).1;have ba:pc<W.heap.size:=(Ai am).1;have ap:w.heap.size≤W.heap.size:=U.size;clear aj aJ am U x a4 aL;generalize W=W2 at*;go_upto_region 2 with(fail)
 refine qI (n:=26) (w0:=W2) (B:=W2.heap.size) [.z 21 p 0,.z 22 p 0,.z 23 p 13,.v 24 (.func (.func 188) #[] #[]),.z 25 p 0,.z 26 p 0,.z 27 p 12,.v 28 (.func (.func 187) #[] #[]),.z 29 p 0,.z 30 p 0,.z 31 p 0,.v 32 (.agg (qj .u32 H1)),.z 33 p 0,.z 34 p 0,.z 35 p 10,.v 36 (.slice a1 X.length c1),.z 37 p 0,.z 38 p 0,.z 39 p 11,.v 40 (.int .i64 64),.p 41 (fun u W=>W.ownsRow W2.heap.size 5 1 u 64 (PZ.map qo)),.v 42 (.agg #[.int .u64 Z,.int .u64 0]),.v 43 (.bool node),.v 44 (.agg (qj .u32 R)),.p 45 (fun u W=>W.ownsRow W2.heap.size 5 1 u 32 ((qQ 4 R 8).map qo)),.p 4 (fun u W=>W.ownsRow W2.heap.size 5 1 u 32 ((qQ 4 R 8).map qo))] (by exact⟨(fun _ _ _ h V=>qi h (fun g _ hg=>V.block g hg)),(fun _ _ _ h V=>qi h (fun g _ hg=>V.block g hg)),(fun _ _ _ h V=>qi h (fun g _ hg=>V.block g hg)),trivial⟩) Br.drew Nl ?_ ?_
 ·repeat' (with_reducible first|exact qB|refine qw ?_ ?_)
  all_goals try
   intro A x W r S O o D K G;have a0:=r.2 0 (by decide);conv at a0=>rhs;whnf
   have a1:=r.2 1 (by decide);conv at a1=>rhs;whnf
   simp only[Q7,yk]at D;clear o r;go_simp
   exact G _ _ BR rfl
  ·intro A x W r S O o _ K G;have bp:=gv r o 2 23;clear o r;have Y:=qf ab.out S;have c0:W.cell? ⟨p,13,none⟩=some (.func (.func 188) #[] #[]):=qd Y 13;go_simp
   exact G _ _ BR rfl
  ·intro A x W r S O o _ K G;have bc:=gv r o 6 27;clear o r;have Y:=qf ab.out S;have c0:W.cell? ⟨p,12,none⟩=some (.func (.func 187) #[] #[]):=qd Y 12;go_simp
   exact G _ _ BR rfl
  ·intro A x W r S O o _ K G;have a8:=gv r o 10 31;clear o r;have Y:=qf ab.out S;refine Qs 284 _ rfl p 0 a8 291 _ (qj .u32 H1) (0,0) _ Y Tryz.underlying284 rfl (by rw[qg,aA.out.1];kernel_rfl) (qiL aA.out _ _) (G _ _ Br rfl)
  ·intro A x W r S O o _ K G;have bg:=gv r o 14 35;clear o r;have Y:=qf ab.out S;have c0:W.cell? ⟨p,10,none⟩=some (.slice a1 X.length c1):=qd Y 10;go_simp
   exact G _ _ BR rfl
  ·intro A x W r S O o _ K G;have bt:=gv r o 18 39;clear o r;have Y:=qf ab.out S;have c0:W.cell? ⟨p,11,none⟩=some (.int .i64 64):=qd Y 11;go_simp
   exact G _ _ BR rfl
  ·intro A x W r S O o _ K G;have bf:=gv r o 15 36;have br:=gv r o 19 40;clear o r;go_simp
   refine(aO.out _ (aZ.out.below S) ai (by decide)).mono ?_;rintro e w' ⟨u,rfl,ho,V⟩;exact G _ _ V (ownsRow_le ho O)
  ·intro A x W r S O o _ K G;have a5:=r.2 5 (by decide);conv at a5=>rhs;whnf
   clear o r;have Y:=qf aQ.out S;refine wp_load_row 281 _ rfl pc a5 _ _ _ _ Y Tryz.underlying281 rfl (by kernel_rfl) (G _ _ Br rfl)
  ·intro A x W r S O o _ K G;have bj:=gv r o 7 28;have bm:=gv r o 11 32;have aU:(fun u W=>W.ownsRow W2.heap.size 5 1 u 64 (PZ.map qo)) (x 41) W:=o ⟨20,.data⟩ (by simp) rfl _ rfl;have bk:A.tmps.getD 41 undef=x 41:=r.1 41 (by decide);have bi:=gv r o 21 42;have be:=gv r o 22 43;clear o r;go_simp
   refine(aM.out _ _ (yf aU)).mono ?_;rintro e w' ⟨rfl,V⟩;exact G _ _ V rfl
  ·intro A x W r S O o _ K G;have bu:=gv r o 3 24;have bo:=gv r o 23 44;clear o r;go_simp
   refine(qgw R aT.out _).mono ?_;rintro e w' ⟨u,rfl,ho,V⟩;exact G _ _ V (ownsRow_le ho O)
  ·intro A x W r S O o _ K G;have aW:(fun u W=>W.ownsRow W2.heap.size 5 1 u 32 ((qQ 4 R 8).map qo)) (x 45) W:=o ⟨24,.data⟩ (by simp) rfl _ rfl;have aX:A.tmps.getD 45 undef=x 45:=r.1 45 (by decide);clear o r;go_simp
   exact G _ _ Br (aX▸aW)
 intro x W S O ac;obtain⟨aE,az,e4, -⟩:=ac;change (fun u W=>W.ownsRow W2.heap.size 5 1 u 64 (PZ.map qo)) (x 41) W at aE
 change (fun u W=>W.ownsRow W2.heap.size 5 1 u 32 ((qQ 4 R 8).map qo)) (x 45) W at az
 change (fun u W=>W.ownsRow W2.heap.size 5 1 u 32 ((qQ 4 R 8).map qo)) (x 4) W at e4
 refine qv ?_;simp only[QP,Act.put,Ls];have aV:=aS.out.trans (S.mono ap);have E4:=hid (ownsRow_le e4 ap);clear aE az e4 S O;go_wp2
 go_ret
 exact⟨_,rfl,E4.out,aV⟩
def yr (kind dg:Int)(bv kv:Value)(last:Bool)(wr:Int)(e:Value):Array Value:= #[.int .i64 kind,.int .i64 dg,bv,kv,.bool last,.int .u64 wr,e]
def phT (big:Bool):TypeId:=cond big 277 287
theorem Hold.of_len {w:World}{a:Option Addr}{n c:Nat}{zs:List Int}(h:Hold w (.slice a n c) zs):n=zs.length:=by
 obtain⟨q,o,e, -⟩:=h.slice;simp only[Value.slice.injEq]at e;exact e.2.1
theorem YT {w:World}{v:Value}{zs:List Int}{b:Nat}(h:Hold w v zs)(o:zs≠[])(r:v.ownBlock=some b):b<w.heap.size:=by
 rcases h.2 with⟨D, -⟩|⟨I,G,rfl, -, -,q⟩
 ·exact absurd D o
 ·obtain⟨b',off,rfl,q, -⟩:=q.resolve_left o;simp only[Value.ownBlock,Option.some.injEq]at r;subst r;exact q
theorem qix {W:World}{q:Nat}{o D:Int}{G r:Value}{la:Bool}{wr:Int}{e v:Value}{T:TypeId}(h:W.heap[q]? =some (.cells (yr o D G r la wr e) T (0,0))):(W.setCell ⟨q,6,none⟩ v).heap[q]? =some (.cells (yr o D G r la wr v) T (0,0)):=heap_setCell_same W q 6 _ _ v h
theorem jQ {W:World}{q:Nat}{o D:Int}{G r:Value}{la b:Bool}{wr:Int}{e:Value}{T:TypeId}(h:W.heap[q]? =some (.cells (yr o D G r la wr e) T (0,0))):(W.setCell ⟨q,4,none⟩ (.bool b)).heap[q]? =some (.cells (yr o D G r b wr e) T (0,0)):=heap_setCell_same W q 4 _ _ _ h
theorem qgP {W:World}{q:Nat}{o D:Int}{G r:Value}{la:Bool}{wr x:Int}{e:Value}{T:TypeId}(h:W.heap[q]? =some (.cells (yr o D G r la wr e) T (0,0))):(W.setCell ⟨q,5,none⟩ (.int .u64 x)).heap[q]? =some (.cells (yr o D G r la x e) T (0,0)):=heap_setCell_same W q 5 _ _ _ h
theorem qbo {big:Bool}{W:World}{p:Nat}{o:List Int}(h:W.heap[p]? =some (.cells (cond big zY zX o 0 (.slice none 0 0)) (cond big 283 291) (0,0))):Q1 big W p (.slice none 0 0) o []:=by
 have e:yj (bB big) []=[]:=by simp[yj]
 refine⟨?_,by rw[e];exact Wo _ _ _ _⟩;simpa [qeN,stZ] using h
theorem yT {big:Bool}{W W':World}{p:Nat}{r:Value}{q o:List Int}(h:Q1 big W p r q o)(D:Below W.heap.size W W'):Q1 big W' p r q o:=
 ⟨qf h.1 D,qi h.2 (fun g _ G=>D.block g G)⟩
theorem qbQ {W:World}{B n b:Nat}{e:TypeId}{v:Value}{xs:List Value}(h:W.ownsRow B e 1 v n xs)(o:v.ownBlock=some b):B≤b:=by
 rcases h.2 with⟨rfl, -⟩|⟨g,r,q,rfl,D, -⟩
 ·cases o
 ·simp only[Value.ownBlock,Option.some.injEq]at o;omega
theorem YH {P:Program}{o:Oper}{a:Act}{K:Act→World→Prop}{Q:Exit→Act→World→Prop}{n:Nat}{T:TypeId}{x:Value}{q:String}{W:World}{f:FuncId}{g:FuncId×Value→World→Result Next}(r:(method n T x q).run P W= .ok (f,x) W)(h:Oper.upon P o a K Q (g (f,x) W)):Oper.upon P o a K Q (((method n T x q).run P W).andThen g):=by
 rw[r];exact h
theorem qgA (Y kz:List Int)(q:Nat)(dg wr:Int)(la:Bool)(bv kv e0:Value)(w:World)(ai:w.heap[q]? =some (.cells (yr 1 dg bv kv la wr e0) 179 (0,0)))(hB:Hold w bv Y)(G:Hold w kv kz)(hl:Y.length=64)(aX:kz.length≤64)(az:kv.ownBlock≠some q):
  Calls Tryz.prog 132 #[.pointer (some ⟨q,0,none⟩)] w fun e w'=>e= .returned (.tuple #[])∧(∃p hv,w.heap.size≤p∧w'.heap[q]? =some (.cells (yr 1 dg bv kv false 0 (.iface 277 (.pointer (some ⟨p,0,none⟩)))) 179 (0,0))∧Q1 true w' p hv (h0Z true Y) (yz 128 kz)∧(∀g,hv.ownBlock=some g→w.heap.size≤g))∧Spare (fun k=>k≠q) w w':=by
 have aV:q<w.heap.size:=(Ai ai).1;obtain⟨kn,kc,ka,rfl⟩: ∃n c a,kv= .slice a n c:=by obtain⟨a,c,e, -⟩:=G.slice;exact⟨_,_,_,e⟩
 obtain rfl:kn=kz.length:=G.of_len;have aj:=hid ai;have HB:=hid hB;have HK:=hid G;have HL:=hid hl;have aG:=hid az;clear ai hB G hl az;go_enter Tryz.func132,Tryz.ntmps132
 go_upto_region 0 with(fail)
 refine qI (n:=10) (w0:=w) (B:=w.heap.size) [.z 2 q 0,.z 3 q 0,.z 4 q 0,.z 5 q 0,.v 6 (.int .i64 1),.z 7 q 0,.z 8 q 0,.z 9 q 2,.v 10 bv,.p 11 (fun u W=> ∃p,u= .iface 277 (.pointer (some ⟨p,0,none⟩))∧w.heap.size≤p∧W.heap[p]? =some (.cells (zY (h0Z true Y) 0 (.slice none 0 0)) 283 (0,0)))] (by exact⟨(fun _ _ _ h O=>by obtain⟨p,e,h3,h4⟩:=h;exact⟨p,e,h3,qf h4 O⟩),trivial⟩) Br.drew Nl ?_ ?_
 ·repeat' (with_reducible first|exact qB|refine qw ?_ ?_)
  all_goals try
   intro A x W r hW ab o D K G;have a0:=r.2 0 (by decide);conv at a0=>rhs;whnf
   simp only[Q7,yk]at D;clear o r;go_simp
   exact G _ _ BR rfl
  ·intro A x W r hW ab o _ K G;have g5:=gv r o 3 5;clear o r;have g0:=qf aj.out hW;have c0:W.cell? ⟨q,0,none⟩=some (.int .i64 1):=qd g0 0;go_simp
   exact G _ _ BR rfl
  ·intro A x W r hW ab o _ K G;have g9:=gv r o 7 9;clear o r;have g0:=qf aj.out hW;have c0:W.cell? ⟨q,2,none⟩=some bv:=qd g0 2;go_simp
   exact G _ _ BR rfl
  ·intro A x W r hW ab o _ K G;have g6:=gv r o 4 6;have a3:=gv r o 8 10;clear o r;go_simp
   refine(qgz Y bv _ (HB.out.holds8.mono_below hW Nl) HB.out.1 HL.out).mono ?_;rintro e w' ⟨p,rfl,h1,h2,O⟩;exact G _ _ O ⟨p,rfl,Nat.le_trans ab h1,h2⟩
 intro x W hW ab ah;obtain⟨ag, -⟩:=ah;change (fun u W=> ∃p,u= .iface 277 (.pointer (some ⟨p,0,none⟩))∧w.heap.size≤p∧W.heap[p]? =some (.cells (zY (h0Z true Y) 0 (.slice none 0 0)) 283 (0,0))) (x 11) W at ag
 obtain⟨p,ag,au,ar⟩:=ag;refine qr ?_;simp only[QP,Act.put,Ls,ag];clear ag;have af:=qf aj.out hW;have am:=hid ar;have ax:=hid af;have HW:=hid hW;have aC:q<W.heap.size:=(Ai af).1;have c6:W.cell? ⟨q,6,none⟩=some e0:=qd af 6;have f6:=frozen_of_row W q 6 _ _ af;clear ar af hW ab x;go_wp2_with fail
 refine qr ?_;go_wp2_with fail
 refine qr ?_;go_wp2_with fail
 refine qv ?_;have J:=qix (v:= .iface 277 (.pointer (some ⟨p,0,none⟩))) ax.out;have X:Spare (fun k=>k≠q) w (W.setCell ⟨q,6,none⟩ (.iface 277 (.pointer (some ⟨p,0,none⟩)))):=(Spare.of_below _ HW.out).trans (Spare.of_but ((But.refl q W).set 6 _)) (fun _ _ h=>h);have V:(W.setCell ⟨q,6,none⟩ (.iface 277 (.pointer (some ⟨p,0,none⟩)))).heap[p]? =some (.cells (zY (h0Z true Y) 0 (.slice none 0 0)) 283 (0,0)):=(heap_setCell_other W _ _ _ (by show p≠q;omega)).trans am.out;generalize W.setCell ⟨q,6,none⟩ (.iface 277 (.pointer (some ⟨p,0,none⟩)))=I at*;clear HW ax am c6 f6 aC W;have c4:I.cell? ⟨q,4,none⟩=some (.bool la):=qd J 4;have f4:=frozen_of_row I q 4 _ _ J;have ac:q<I.heap.size:=(Ai J).1;have aa:=hid J;have U:=hid X;have Z:=hid V;clear J X V;go_upto_region 2 with(fail)
 have J:=jQ (b:=false) aa.out;have X:Spare (fun k=>k≠q) w (I.setCell ⟨q,4,none⟩ (.bool false)):=U.out.trans (Spare.of_but ((But.refl q I).set 4 _)) (fun _ _ h=>h);have V:(I.setCell ⟨q,4,none⟩ (.bool false)).heap[p]? =some (.cells (zY (h0Z true Y) 0 (.slice none 0 0)) 283 (0,0)):=(heap_setCell_other I _ _ _ (by show p≠q;omega)).trans Z.out;generalize I.setCell ⟨q,4,none⟩ (.bool false)=A1 at*;clear U aa Z c4 f4 ac I;obtain⟨I,rfl⟩:=Ex A1;have aa:=hid J;have U:=hid X;have Z:=hid V;have ac:q<A1.heap.size:=(Ai J).1;have c5:A1.cell? ⟨q,5,none⟩=some (.int .u64 wr):=qd J 5;have f5:=frozen_of_row A1 q 5 _ _ J;clear J X V;go_upto_region 3 with(fail)
 have J:=qgP (x:=0) aa.out;have X:Spare (fun k=>k≠q) w (A1.setCell ⟨q,5,none⟩ (.int .u64 0)):=U.out.trans (Spare.of_but ((But.refl q A1).set 5 _)) (fun _ _ h=>h);have V:(A1.setCell ⟨q,5,none⟩ (.int .u64 0)).heap[p]? =some (.cells (zY (h0Z true Y) 0 (.slice none 0 0)) 283 (0,0)):=(heap_setCell_other A1 _ _ _ (by show p≠q;omega)).trans Z.out;have aE:w.heap.size≤(A1.setCell ⟨q,5,none⟩ (.int .u64 0)).heap.size:=X.size;generalize A1.setCell ⟨q,5,none⟩ (.int .u64 0)=I at*;clear U aa Z c5 f5 ac A1;have c3:I.cell? ⟨q,3,none⟩=some (.slice ka kz.length kc):=qd J 3;have ac:q<I.heap.size:=(Ai J).1;have aQ:p<I.heap.size:=(Ai V).1;have aa:=hid J;have U:=hid X;have Z:=hid V;clear J X V;by_cases al:kz.length=0
 case pos=>
  obtain rfl:kz=[]:=List.eq_nil_of_length_eq_zero al;go_wp2
  go_end0
  exact⟨rfl,⟨p,.slice none 0 0,au,aa.out,qbo Z.out,fun g h=>by cases h⟩,U.out⟩
 have aw:0<kz.length:=by omega
 have a5:(kz.length:Int)≤64:=by omega
 go_upto_region 4 with(fail)
 have ay:Hold I (.slice ka kz.length kc) kz:=HK.out.keep U.out.size fun b O ak=>U.out.block b ak (fun e=>aG.out (by rw[O,e]))
 have aJ:=hid ay;have av:=QO (n:=128) (zs:=kz) (by omega);have aI:=hid av;have aO:=hid al;clear ay av al c3;have aN:(Value.slice ka kz.length kc).ownBlock≠some p:=fun e=>by have:=YT HK.out (fun e=>by rw[e]at aw;simp at aw) e;omega
 refine yl (fun f W=>W.heap[q]? =some (.cells (yr 1 dg bv (.slice ka kz.length kc) false 0 (.iface 277 (.pointer (some ⟨p,0,none⟩)))) 179 (0,0))∧(f=false→Below I.heap.size I W)∧(I.heap.size≤W.heap.size∧(∀b,b<I.heap.size→b≠p→W.heap[b]? =I.heap[b]?))∧(f=true→Spare (fun k=>k≠p) I W∧ ∃hv,Q1 true W p hv (h0Z true Y) (QG 128 kz)∧ ∀g,hv.ownBlock=some g→I.heap.size≤g)) 16 [.z 26 q 0,.z 27 q 0,.z 28 q 6,.v 29 (.iface 277 (.pointer (some ⟨p,0,none⟩))),.z 30 q 0,.z 31 q 0,.z 32 q 3,.v 33 (.slice ka kz.length kc),.z 34 q 0,.z 35 q 0,.z 36 q 0,.v 37 (.int .i64 1),.v 38 (.int .i64 128),.p 39 (fun u W=>W.ownsRow I.heap.size 5 1 u 128 ((QG 128 kz).map qo)),.v 40 (.iface 277 (.pointer (some ⟨p,0,none⟩))),.v 41 (.iface 277 (.pointer (some ⟨p,0,none⟩))),.p 42 (fun _ _=>True)] (by exact⟨(fun _ _ O _ h=>qi h (fun g _ hg=>O.block g hg)),kW,trivial⟩) ⟨aa.out,fun _=>Br.drew,⟨Nat.le_refl _,fun _ _ _=>rfl⟩,fun h=>(by cases h)⟩ (fun f W W' h O=>⟨qf h.1 O,fun e=>(h.2.1 e).trans (O.mono (h.2.1 e).size),⟨Nat.le_trans h.2.2.1.1 O.size,fun b h1 h2=>(O.block b (Nat.lt_of_lt_of_le h1 h.2.2.1.1)).trans (h.2.2.1.2 b h1 h2)⟩,fun e=>by obtain⟨h1,hv,h2,h3⟩:=h.2.2.2 e;exact⟨h1.trans (Spare.of_below _ O) (fun _ _ h=>h),hv,yT h2 O,h3⟩⟩) ?_ ?_ ?_
 ·repeat' (with_reducible first|exact qB|refine qw ?_ ?_)
  all_goals try
   refine .inr ?_;intro A x W f r S hf o D K G;have a0:=r.2 0 (by decide);conv at a0=>rhs;whnf
   simp only[Q7,yk]at D;clear o r;go_simp
   exact G _ _ BR rfl
  any_goals exact .inl rfl
  all_goals refine .inr ?_
  ·intro A x W f r S hf o _ K G;have aW:=gw r o 2 28;clear o r;have g0:=S.1;have c0:W.cell? ⟨q,6,none⟩=some (.iface 277 (.pointer (some ⟨p,0,none⟩))):=qd g0 6;go_simp
   exact G _ _ BR rfl
  ·intro A x W f r S hf o _ K G;have aZ:=gw r o 6 32;clear o r;have g0:=S.1;have c0:W.cell? ⟨q,3,none⟩=some (.slice ka kz.length kc):=qd g0 3;go_simp
   exact G _ _ BR rfl
  ·intro A x W f r S hf o _ K G;have aT:=gw r o 10 36;clear o r;have g0:=S.1;have c0:W.cell? ⟨q,0,none⟩=some (.int .i64 1):=qd g0 0;go_simp
   exact G _ _ BR rfl
  ·intro A x W f r S hf o _ K G;have aR:=gw r o 11 37;clear o r;go_simp
   refine(ZQ true _).mono ?_;rintro e w' ⟨rfl,hw⟩;exact G _ _ (by rw[hw];exact Below.refl _ _) rfl
  ·intro A x W f r S hf o _ K G;have a4:=gw r o 7 33;have aS:=gw r o 12 38;clear o r;go_simp
   have aL:Hold W (.slice ka kz.length kc) kz:=aJ.out.keep S.2.2.1.1 (fun b O ak=>S.2.2.1.2 b ak (fun e=>aN (by rw[O,e])));refine(jN kz _ 128 _ aL (by omega) (by decide)).mono ?_;rintro e w' ⟨u,rfl,ho,O⟩;exact G _ _ O (ownsRow_le ho S.2.2.1.1)
 ·intro A x W r S o K G;have aU:=gw r o 15 41;have aB:(fun u W=>W.ownsRow I.heap.size 5 1 u 128 ((QG 128 kz).map qo)) (x 39) W:=o ⟨13,.data⟩ (by simp) rfl;have aY:A.tmps.getD 39 undef=x 39:=r.1 39 (by decide);clear o r;have hB:=S.2.1 rfl;go_simp
  refine YH (f:=260) (by kernel_rfl) ?_;go_simp
  have aF:=yq (n:=128) HK.out.1;have aD:Hold W (x 39) (QG 128 kz):=Qi aB aF;refine(qbq (h0Z true Y) [] (QG 128 kz) (Q0 true Y) (fun _ h=>by cases h) p (.slice none 0 0) (x 39) W (qbo (qf Z.out hB)) aD (fun _ b O=>⟨fun e=>by have:=qbQ aB O;omega,fun e=>by cases e⟩) (by rw[aI.out];simp)).mono ?_;rintro e w' ⟨rfl,⟨aH,aM,ae⟩,ad⟩
  refine G _ _ (fun h=>by cases h) ⟨(ad.block q (Ai S.1).1 ⟨by omega,fun e=>by cases e⟩).trans S.1,fun h=>(by cases h),⟨Nat.le_trans S.2.2.1.1 ad.size,fun b h1 h2=>(ad.block b (Nat.lt_of_lt_of_le h1 S.2.2.1.1) ⟨h2,fun e=>by cases e⟩).trans (S.2.2.1.2 b h1 h2)⟩,fun _=>⟨(Spare.of_below _ hB).trans ad (fun b _ h=>⟨h,fun e=>by cases e⟩),aH,aM,fun g hg=>?_⟩⟩ ⟨.inr (fun _ h=>h),.inr (fun _ h=>h),.inr (fun _ h=>h),.inr (fun _ h=>h),.inr (fun _ h=>h),.inr (fun _ h=>h),.inr (fun _ h=>h),.inr (fun _ h=>h),.inr (fun _ h=>h),.inr (fun _ h=>h),.inr (fun _ h=>h),.inr (fun _ h=>h),.inr (fun _ h=>h),.inr (fun u h=>qi h (fun g h1 h2=>ad.block g h2 ⟨by omega,fun e=>by cases e⟩)),.inr (fun _ h=>h),.inr (fun _ h=>h),.inl rfl,trivial⟩ trivial;rcases ae with ae|ae
  ·rw[ae]at hg;cases hg
  ·have:=ae g hg;have:=hB.size;omega
 intro x W S ah;obtain⟨aA,aP, -⟩:=ah;change (fun u W=>W.ownsRow I.heap.size 5 1 u 128 ((QG 128 kz).map qo)) (x 39) W at aA
 change ((fun _ _=>True)) (x 42) W at aP
 simp only[QP,Act.put,Ls];obtain⟨ap, -, -,h9⟩:=S;obtain⟨an,aK,ao,aq⟩:=h9 rfl;have H9:=hid (show(∃p hv,w.heap.size≤p∧W.heap[q]? =some (.cells (yr 1 dg bv (.slice ka kz.length kc) false 0 (.iface 277 (.pointer (some ⟨p,0,none⟩)))) 179 (0,0))∧Q1 true W p hv (h0Z true Y) (yz 128 kz)∧(∀g,hv.ownBlock=some g→w.heap.size≤g))∧Spare (fun k=>k≠q) w W from⟨⟨p,aK,au,ap,by unfold yz;rw[if_neg aO.out];exact ao,fun g hg=>Nat.le_trans aE (aq g hg)⟩,U.out.trans an (fun b O _=>by omega)⟩);clear ap an ao aq h9 aA;go_wp2
 go_end0
 exact⟨rfl,H9.out⟩
theorem qfj (Y kz:List Int)(q:Nat)(dg wr:Int)(la:Bool)(bv kv e0:Value)(w:World)(ai:w.heap[q]? =some (.cells (yr 2 dg bv kv la wr e0) 179 (0,0)))(hB:Hold w bv Y)(G:Hold w kv kz)(hl:Y.length=32)(aX:kz.length≤32)(az:kv.ownBlock≠some q):
  Calls Tryz.prog 132 #[.pointer (some ⟨q,0,none⟩)] w fun e w'=>e= .returned (.tuple #[])∧(∃p hv,w.heap.size≤p∧w'.heap[q]? =some (.cells (yr 2 dg bv kv false 0 (.iface 287 (.pointer (some ⟨p,0,none⟩)))) 179 (0,0))∧Q1 false w' p hv (h0Z false Y) (yz 64 kz)∧(∀g,hv.ownBlock=some g→w.heap.size≤g))∧Spare (fun k=>k≠q) w w':=by
 have aV:q<w.heap.size:=(Ai ai).1;obtain⟨kn,kc,ka,rfl⟩: ∃n c a,kv= .slice a n c:=by obtain⟨a,c,e, -⟩:=G.slice;exact⟨_,_,_,e⟩
 obtain rfl:kn=kz.length:=G.of_len;have aj:=hid ai;have HB:=hid hB;have HK:=hid G;have HL:=hid hl;have aG:=hid az;clear ai hB G hl az;go_enter Tryz.func132,Tryz.ntmps132
 go_upto_region 0 with(fail)
 refine qI (n:=10) (w0:=w) (B:=w.heap.size) [.z 2 q 0,.z 3 q 0,.z 4 q 0,.z 5 q 0,.v 6 (.int .i64 2),.z 7 q 0,.z 8 q 0,.z 9 q 2,.v 10 bv,.p 11 (fun u W=> ∃p,u= .iface 287 (.pointer (some ⟨p,0,none⟩))∧w.heap.size≤p∧W.heap[p]? =some (.cells (zX (h0Z false Y) 0 (.slice none 0 0)) 291 (0,0)))] (by exact⟨(fun _ _ _ h O=>by obtain⟨p,e,h3,h4⟩:=h;exact⟨p,e,h3,qf h4 O⟩),trivial⟩) Br.drew Nl ?_ ?_
 ·repeat' (with_reducible first|exact qB|refine qw ?_ ?_)
  all_goals try
   intro A x W r hW ab o D K G;have a0:=r.2 0 (by decide);conv at a0=>rhs;whnf
   simp only[Q7,yk]at D;clear o r;go_simp
   exact G _ _ BR rfl
  ·intro A x W r hW ab o _ K G;have g5:=gv r o 3 5;clear o r;have g0:=qf aj.out hW;have c0:W.cell? ⟨q,0,none⟩=some (.int .i64 2):=qd g0 0;go_simp
   exact G _ _ BR rfl
  ·intro A x W r hW ab o _ K G;have g9:=gv r o 7 9;clear o r;have g0:=qf aj.out hW;have c0:W.cell? ⟨q,2,none⟩=some bv:=qd g0 2;go_simp
   exact G _ _ BR rfl
  ·intro A x W r hW ab o _ K G;have g6:=gv r o 4 6;have a3:=gv r o 8 10;clear o r;go_simp
   refine(qfi Y bv _ (HB.out.holds8.mono_below hW Nl) HB.out.1 HL.out).mono ?_;rintro e w' ⟨p,rfl,h1,h2,O⟩;exact G _ _ O ⟨p,rfl,Nat.le_trans ab h1,h2⟩
 intro x W hW ab ah;obtain⟨ag, -⟩:=ah;change (fun u W=> ∃p,u= .iface 287 (.pointer (some ⟨p,0,none⟩))∧w.heap.size≤p∧W.heap[p]? =some (.cells (zX (h0Z false Y) 0 (.slice none 0 0)) 291 (0,0))) (x 11) W at ag
 obtain⟨p,ag,au,ar⟩:=ag;refine qr ?_;simp only[QP,Act.put,Ls,ag];clear ag;have af:=qf aj.out hW;have am:=hid ar;have ax:=hid af;have HW:=hid hW;have aC:q<W.heap.size:=(Ai af).1;have c6:W.cell? ⟨q,6,none⟩=some e0:=qd af 6;have f6:=frozen_of_row W q 6 _ _ af;clear ar af hW ab x;go_wp2_with fail
 refine qr ?_;go_wp2_with fail
 refine qr ?_;go_wp2_with fail
 refine qv ?_;have J:=qix (v:= .iface 287 (.pointer (some ⟨p,0,none⟩))) ax.out;have X:Spare (fun k=>k≠q) w (W.setCell ⟨q,6,none⟩ (.iface 287 (.pointer (some ⟨p,0,none⟩)))):=(Spare.of_below _ HW.out).trans (Spare.of_but ((But.refl q W).set 6 _)) (fun _ _ h=>h);have V:(W.setCell ⟨q,6,none⟩ (.iface 287 (.pointer (some ⟨p,0,none⟩)))).heap[p]? =some (.cells (zX (h0Z false Y) 0 (.slice none 0 0)) 291 (0,0)):=(heap_setCell_other W _ _ _ (by show p≠q;omega)).trans am.out;generalize W.setCell ⟨q,6,none⟩ (.iface 287 (.pointer (some ⟨p,0,none⟩)))=I at*;clear HW ax am c6 f6 aC W;have c4:I.cell? ⟨q,4,none⟩=some (.bool la):=qd J 4;have f4:=frozen_of_row I q 4 _ _ J;have ac:q<I.heap.size:=(Ai J).1;have aa:=hid J;have U:=hid X;have Z:=hid V;clear J X V;go_upto_region 2 with(fail)
 have J:=jQ (b:=false) aa.out;have X:Spare (fun k=>k≠q) w (I.setCell ⟨q,4,none⟩ (.bool false)):=U.out.trans (Spare.of_but ((But.refl q I).set 4 _)) (fun _ _ h=>h);have V:(I.setCell ⟨q,4,none⟩ (.bool false)).heap[p]? =some (.cells (zX (h0Z false Y) 0 (.slice none 0 0)) 291 (0,0)):=(heap_setCell_other I _ _ _ (by show p≠q;omega)).trans Z.out;generalize I.setCell ⟨q,4,none⟩ (.bool false)=A1 at*;clear U aa Z c4 f4 ac I;obtain⟨I,rfl⟩:=Ex A1;have aa:=hid J;have U:=hid X;have Z:=hid V;have ac:q<A1.heap.size:=(Ai J).1;have c5:A1.cell? ⟨q,5,none⟩=some (.int .u64 wr):=qd J 5;have f5:=frozen_of_row A1 q 5 _ _ J;clear J X V;go_upto_region 3 with(fail)
 have J:=qgP (x:=0) aa.out;have X:Spare (fun k=>k≠q) w (A1.setCell ⟨q,5,none⟩ (.int .u64 0)):=U.out.trans (Spare.of_but ((But.refl q A1).set 5 _)) (fun _ _ h=>h);have V:(A1.setCell ⟨q,5,none⟩ (.int .u64 0)).heap[p]? =some (.cells (zX (h0Z false Y) 0 (.slice none 0 0)) 291 (0,0)):=(heap_setCell_other A1 _ _ _ (by show p≠q;omega)).trans Z.out;have aE:w.heap.size≤(A1.setCell ⟨q,5,none⟩ (.int .u64 0)).heap.size:=X.size;generalize A1.setCell ⟨q,5,none⟩ (.int .u64 0)=I at*;clear U aa Z c5 f5 ac A1;have c3:I.cell? ⟨q,3,none⟩=some (.slice ka kz.length kc):=qd J 3;have ac:q<I.heap.size:=(Ai J).1;have aQ:p<I.heap.size:=(Ai V).1;have aa:=hid J;have U:=hid X;have Z:=hid V;clear J X V;by_cases al:kz.length=0
 case pos=>
  obtain rfl:kz=[]:=List.eq_nil_of_length_eq_zero al;go_wp2
  go_end0
  exact⟨rfl,⟨p,.slice none 0 0,au,aa.out,qbo Z.out,fun g h=>by cases h⟩,U.out⟩
 have aw:0<kz.length:=by omega
 have a5:(kz.length:Int)≤32:=by omega
 go_upto_region 4 with(fail)
 have ay:Hold I (.slice ka kz.length kc) kz:=HK.out.keep U.out.size fun b O ak=>U.out.block b ak (fun e=>aG.out (by rw[O,e]))
 have aJ:=hid ay;have av:=QO (n:=64) (zs:=kz) (by omega);have aI:=hid av;have aO:=hid al;clear ay av al c3;have aN:(Value.slice ka kz.length kc).ownBlock≠some p:=fun e=>by have:=YT HK.out (fun e=>by rw[e]at aw;simp at aw) e;omega
 refine yl (fun f W=>W.heap[q]? =some (.cells (yr 2 dg bv (.slice ka kz.length kc) false 0 (.iface 287 (.pointer (some ⟨p,0,none⟩)))) 179 (0,0))∧(f=false→Below I.heap.size I W)∧(I.heap.size≤W.heap.size∧(∀b,b<I.heap.size→b≠p→W.heap[b]? =I.heap[b]?))∧(f=true→Spare (fun k=>k≠p) I W∧ ∃hv,Q1 false W p hv (h0Z false Y) (QG 64 kz)∧ ∀g,hv.ownBlock=some g→I.heap.size≤g)) 16 [.z 26 q 0,.z 27 q 0,.z 28 q 6,.v 29 (.iface 287 (.pointer (some ⟨p,0,none⟩))),.z 30 q 0,.z 31 q 0,.z 32 q 3,.v 33 (.slice ka kz.length kc),.z 34 q 0,.z 35 q 0,.z 36 q 0,.v 37 (.int .i64 2),.v 38 (.int .i64 64),.p 39 (fun u W=>W.ownsRow I.heap.size 5 1 u 64 ((QG 64 kz).map qo)),.v 40 (.iface 287 (.pointer (some ⟨p,0,none⟩))),.v 41 (.iface 287 (.pointer (some ⟨p,0,none⟩))),.p 42 (fun _ _=>True)] (by exact⟨(fun _ _ O _ h=>qi h (fun g _ hg=>O.block g hg)),kW,trivial⟩) ⟨aa.out,fun _=>Br.drew,⟨Nat.le_refl _,fun _ _ _=>rfl⟩,fun h=>(by cases h)⟩ (fun f W W' h O=>⟨qf h.1 O,fun e=>(h.2.1 e).trans (O.mono (h.2.1 e).size),⟨Nat.le_trans h.2.2.1.1 O.size,fun b h1 h2=>(O.block b (Nat.lt_of_lt_of_le h1 h.2.2.1.1)).trans (h.2.2.1.2 b h1 h2)⟩,fun e=>by obtain⟨h1,hv,h2,h3⟩:=h.2.2.2 e;exact⟨h1.trans (Spare.of_below _ O) (fun _ _ h=>h),hv,yT h2 O,h3⟩⟩) ?_ ?_ ?_
 ·repeat' (with_reducible first|exact qB|refine qw ?_ ?_)
  all_goals try
   refine .inr ?_;intro A x W f r S hf o D K G;have a0:=r.2 0 (by decide);conv at a0=>rhs;whnf
   simp only[Q7,yk]at D;clear o r;go_simp
   exact G _ _ BR rfl
  any_goals exact .inl rfl
  all_goals refine .inr ?_
  ·intro A x W f r S hf o _ K G;have aW:=gw r o 2 28;clear o r;have g0:=S.1;have c0:W.cell? ⟨q,6,none⟩=some (.iface 287 (.pointer (some ⟨p,0,none⟩))):=qd g0 6;go_simp
   exact G _ _ BR rfl
  ·intro A x W f r S hf o _ K G;have aZ:=gw r o 6 32;clear o r;have g0:=S.1;have c0:W.cell? ⟨q,3,none⟩=some (.slice ka kz.length kc):=qd g0 3;go_simp
   exact G _ _ BR rfl
  ·intro A x W f r S hf o _ K G;have aT:=gw r o 10 36;clear o r;have g0:=S.1;have c0:W.cell? ⟨q,0,none⟩=some (.int .i64 2):=qd g0 0;go_simp
   exact G _ _ BR rfl
  ·intro A x W f r S hf o _ K G;have aR:=gw r o 11 37;clear o r;go_simp
   refine(ZQ false _).mono ?_;rintro e w' ⟨rfl,hw⟩;exact G _ _ (by rw[hw];exact Below.refl _ _) rfl
  ·intro A x W f r S hf o _ K G;have a4:=gw r o 7 33;have aS:=gw r o 12 38;clear o r;go_simp
   have aL:Hold W (.slice ka kz.length kc) kz:=aJ.out.keep S.2.2.1.1 (fun b O ak=>S.2.2.1.2 b ak (fun e=>aN (by rw[O,e])));refine(jN kz _ 64 _ aL (by omega) (by decide)).mono ?_;rintro e w' ⟨u,rfl,ho,O⟩;exact G _ _ O (ownsRow_le ho S.2.2.1.1)
 ·intro A x W r S o K G;have aU:=gw r o 15 41;have aB:(fun u W=>W.ownsRow I.heap.size 5 1 u 64 ((QG 64 kz).map qo)) (x 39) W:=o ⟨13,.data⟩ (by simp) rfl;have aY:A.tmps.getD 39 undef=x 39:=r.1 39 (by decide);clear o r;have hB:=S.2.1 rfl;go_simp
  refine YH (f:=266) (by kernel_rfl) ?_;go_simp
  have aF:=yq (n:=64) HK.out.1;have aD:Hold W (x 39) (QG 64 kz):=Qi aB aF;refine(qaL (h0Z false Y) [] (QG 64 kz) (Q0 false Y) (fun _ h=>by cases h) p (.slice none 0 0) (x 39) W (qbo (qf Z.out hB)) aD (fun _ b O=>⟨fun e=>by have:=qbQ aB O;omega,fun e=>by cases e⟩) (by rw[aI.out];simp)).mono ?_;rintro e w' ⟨rfl,⟨aH,aM,ae⟩,ad⟩
  refine G _ _ (fun h=>by cases h) ⟨(ad.block q (Ai S.1).1 ⟨by omega,fun e=>by cases e⟩).trans S.1,fun h=>(by cases h),⟨Nat.le_trans S.2.2.1.1 ad.size,fun b h1 h2=>(ad.block b (Nat.lt_of_lt_of_le h1 S.2.2.1.1) ⟨h2,fun e=>by cases e⟩).trans (S.2.2.1.2 b h1 h2)⟩,fun _=>⟨(Spare.of_below _ hB).trans ad (fun b _ h=>⟨h,fun e=>by cases e⟩),aH,aM,fun g hg=>?_⟩⟩ ⟨.inr (fun _ h=>h),.inr (fun _ h=>h),.inr (fun _ h=>h),.inr (fun _ h=>h),.inr (fun _ h=>h),.inr (fun _ h=>h),.inr (fun _ h=>h),.inr (fun _ h=>h),.inr (fun _ h=>h),.inr (fun _ h=>h),.inr (fun _ h=>h),.inr (fun _ h=>h),.inr (fun _ h=>h),.inr (fun u h=>qi h (fun g h1 h2=>ad.block g h2 ⟨by omega,fun e=>by cases e⟩)),.inr (fun _ h=>h),.inr (fun _ h=>h),.inl rfl,trivial⟩ trivial;rcases ae with ae|ae
  ·rw[ae]at hg;cases hg
  ·have:=ae g hg;have:=hB.size;omega
 intro x W S ah;obtain⟨aA,aP, -⟩:=ah;change (fun u W=>W.ownsRow I.heap.size 5 1 u 64 ((QG 64 kz).map qo)) (x 39) W at aA
 change ((fun _ _=>True)) (x 42) W at aP
 simp only[QP,Act.put,Ls];obtain⟨ap, -, -,h9⟩:=S;obtain⟨an,aK,ao,aq⟩:=h9 rfl;have H9:=hid (show(∃p hv,w.heap.size≤p∧W.heap[q]? =some (.cells (yr 2 dg bv (.slice ka kz.length kc) false 0 (.iface 287 (.pointer (some ⟨p,0,none⟩)))) 179 (0,0))∧Q1 false W p hv (h0Z false Y) (yz 64 kz)∧(∀g,hv.ownBlock=some g→w.heap.size≤g))∧Spare (fun k=>k≠q) w W from⟨⟨p,aK,au,ap,by unfold yz;rw[if_neg aO.out];exact ao,fun g hg=>Nat.le_trans aE (aq g hg)⟩,U.out.trans an (fun b O _=>by omega)⟩);clear ap an ao aq h9 aA;go_wp2
 go_end0
 exact⟨rfl,H9.out⟩
def Fresh (base:Nat)(W:World)(v:Value)(zs:List Int):Prop:=
 (zs=[]∧v= .slice none 0 0)∨ ∃g cap cur,v= .slice (some ⟨g,0,none⟩) zs.length cap∧base≤g∧W.heap[g]? =some (.cells cur 5 (0,0))∧zs.length≤cap∧cap≤cur.size∧cap≤maxLen∧cur.toList.take zs.length=zs.map qo
theorem Fresh.below {base:Nat}{W W':World}{v:Value}{zs:List Int}(h:Fresh base W v zs)(I:Below W.heap.size W W'):Fresh base W' v zs:=by
 rcases h with h|⟨g,q,o,e,r,G,D⟩
 ·exact .inl h
 ·exact .inr ⟨g,q,o,e,r,qf G I,D⟩
theorem Fresh.le {base b':Nat}{W:World}{v:Value}{zs:List Int}(h:Fresh base W v zs)(G:b'≤base):Fresh b' W v zs:=by
 rcases h with h|⟨g,q,o,e,r,D⟩
 ·exact .inl h
 ·exact .inr ⟨g,q,o,e,Nat.le_trans G r,D⟩
theorem Fresh.hold {base:Nat}{W:World}{v:Value}{zs:List Int}(h:Fresh base W v zs)(G: ∀z∈zs,0≤z∧z≤255):Hold W v zs:=by
 refine⟨G,?_⟩;rcases h with h|⟨g,q,J,rfl,O,o,I,S,r,D⟩
 ·exact .inl h
 ·refine .inr ⟨⟨g,0,none⟩,q,rfl,I,r,.inr ⟨g,0,rfl,(Ai o).1,fun i hi=>?_⟩⟩;have e:=congrArg (fun l:List Value=>l[i]?) D;simp only[List.getElem?_take,hi,if_true,List.getElem?_map,Array.getElem?_toList]at e;rw[Nat.zero_add,qd o i,e];simp[qo,qp,Lg,hi]
theorem qb4 {base g c m:Nat}{W:World}{zs:List Int}(h:W.ownsRow base 5 1 (.slice (some ⟨g,0,none⟩) zs.length c) zs.length (zs.map qo))(q:m≤zs.length):Fresh base W (.slice (some ⟨g,0,none⟩) m m) (zs.take m):=by
 obtain⟨o,G,I,r,D,O,J⟩:=zb h;have e:(zs.take m).length=m:=by simp[List.length_take,Nat.min_eq_left q]
 refine .inr ⟨g,m,o,by rw[e],D,G,by omega,by omega,by omega,?_⟩;rw[e,List.map_take,←r,List.take_take,Nat.min_eq_left q]
theorem qgO (big:Bool)(q p:Nat)(r G wr:Int)(la:Bool)(I D:Value)(w:World)(o:w.heap[q]? =some (.cells (yr r G I D la wr (.iface (phT big) (.pointer (some ⟨p,0,none⟩)))) 179 (0,0))):
  Calls Tryz.prog 133 #[.pointer (some ⟨q,0,none⟩)] w fun e w'=>e= .returned (.bool false)∧w'=w:=by
 have O:w.cell? ⟨q,6,none⟩=some (.iface (phT big) (.pointer (some ⟨p,0,none⟩))):=qd o 6;have J:q<w.heap.size:=(Ai o).1;clear o;go_enter Tryz.func133,Tryz.ntmps133
 go_wp2
 go_ret
 exact⟨rfl,rfl⟩
theorem jO {W:World}{B n:Nat}{v:Value}{xs:List Value}(h:W.ownsRow B 5 1 v n xs):W.ownsRow 0 5 1 v n xs:=ownsRow_le h (Nat.zero_le _)
theorem qdP (V G:List Int)(hh:Words 64 8 V)(hm: ∀z∈G,0≤z∧z≤255)(r p m:Nat)(dg wr:Int)(la:Bool)(bv kv hv:Value)(w:World)(I:w.heap[r]? =some (.cells (yr 1 dg bv kv la wr (.iface 277 (.pointer (some ⟨p,0,none⟩)))) 179 (0,0)))(hE:Q1 true w p hv V G)(aa:(G.length:Int)≤281474976710656)(aw:1≤m)(ak:m≤64):
  Calls Tryz.prog 99 #[.pointer (some ⟨r,0,none⟩),.int .i64 m] w fun e w'=>(∃v,e= .returned (.tuple #[v,.int .i64 0])∧Fresh w.heap.size w' v ((zU true V G la).take m))∧Below w.heap.size w w':=by
 have hN:=qgO true r p 1 dg wr la bv kv w I;have c0:w.cell? ⟨r,0,none⟩=some (.int .i64 1):=qd I 0;have au:r<w.heap.size:=(Ai I).1;have HN:=hid hN;have ab:=hid I;have HO:=hid (fun(W:World) (h:Q1 true W p hv V G)=>qiu V G la hh hm p hv W h aa);have HE:=hid hE;have ag:=Zf true V G la;generalize zU true V G la=Z at*;have af:=hid (show Z.length=64 from ag);clear hN I hE hh hm aa ag;have ac:1≤(m:Int)∧(m:Int)≤64:=by omega
 obtain⟨ac,aB⟩:=ac;go_enter Tryz.func99,Tryz.ntmps99
 go_wp2_with fail
 refine HN.out.mono ?_;rintro e w1 ⟨rfl,hw⟩;rw[hw];clear hw;go_wp2_with fail
 refine(ZQ true _).mono ?_;rintro e w1 ⟨rfl,hw⟩;rw[hw];clear hw;rw[show((bB true:Nat):Int)=128 from rfl];go_upto_region 5 with(fail)
 clear c0;refine qI (n:=16) (w0:=w) (B:=w.heap.size) [.z 20 r 0,.z 21 r 0,.z 22 r 6,.v 23 (.iface 277 (.pointer (some ⟨p,0,none⟩))),.z 24 r 0,.z 25 r 0,.z 26 r 4,.v 27 (.bool la),.v 28 (.iface 277 (.pointer (some ⟨p,0,none⟩))),.v 29 (.iface 277 (.pointer (some ⟨p,0,none⟩))),.p 30 (fun u W=>W.ownsRow w.heap.size 5 1 u 64 (Z.map qo)),.v 31 (.int .i64 m),.v 32 (.int .i64 m),.p 33 (fun u W=>Fresh w.heap.size W u (Z.take m)),.p 4 (fun u W=>Fresh w.heap.size W u (Z.take m)),.v 5 (.int .i64 0)] (by exact⟨(fun _ _ _ h X=>qi h (fun g _ hg=>X.block g hg)),(fun _ _ _ h X=>h.below X),(fun _ _ _ h X=>h.below X),trivial⟩) Br.drew Nl ?_ ?_
 ·repeat' (with_reducible first|exact qB|refine qw ?_ ?_)
  all_goals try
   intro A x W q J O o D K S;have a0:=q.2 0 (by decide);conv at a0=>rhs;whnf
   have a1:=q.2 1 (by decide);conv at a1=>rhs;whnf
   simp only[Q7,yk]at D;clear o q;go_simp
   exact S _ _ BR rfl
  ·intro A x W q J O o _ K S;have ax:=gv q o 2 22;clear o q;have g0:=qf ab.out J;have c0:W.cell? ⟨r,6,none⟩=some (.iface 277 (.pointer (some ⟨p,0,none⟩))):=qd g0 6;go_simp
   exact S _ _ BR rfl
  ·intro A x W q J O o _ K S;have aA:=gv q o 6 26;clear o q;have g0:=qf ab.out J;have c0:W.cell? ⟨r,4,none⟩=some (.bool la):=qd g0 4;go_simp
   exact S _ _ BR rfl
  ·intro A x W q J O o _ K S;have ar:=gv q o 9 29;have aq:=gv q o 7 27;clear o q;go_simp
   refine YH (f:=258) (by kernel_rfl) ?_;go_simp
   refine(HO.out _ (yT HE.out J)).mono ?_;rintro e w' ⟨u,rfl,ho,X⟩;exact S _ _ X (ownsRow_le ho O)
  ·intro A x W q J O o _ K S;have U:(fun u W=>W.ownsRow w.heap.size 5 1 u 64 (Z.map qo)) (x 30) W:=o ⟨10,.data⟩ (by simp) rfl _ rfl;have al:A.tmps.getD 30 undef=x 30:=q.1 30 (by decide);have aC:=gv q o 11 31;have av:=gv q o 12 32;clear o q;obtain⟨s1,s2,s3,Y⟩:=qs U;rw[Y]at U al;obtain rfl:s2=64:=yM U;obtain⟨gg,rfl⟩:=jq (jO U) (by decide);obtain⟨cu, -, -, -, -,ay,an⟩:=zb U;have ap:(s3:Int)≤9223372036854775807:=by unfold maxLen at an;omega
   have ao:(m:Int)≤s3:=by omega
   have az:64≤(s3:Int):=by omega
   have ae:=qb4 (m:=m) (zs:=Z) (c:=s3) (by rw[af.out];exact U) (by rw[af.out];exact ak);have ai:=hid ae;clear ae;go_simp
   exact S _ _ Br ai.out
  ·intro A x W q J O o _ K S;have am:(fun u W=>Fresh w.heap.size W u (Z.take m)) (x 33) W:=o ⟨13,.data⟩ (by simp) rfl _ rfl;have aj:A.tmps.getD 33 undef=x 33:=q.1 33 (by decide);clear o q;go_simp
   exact S _ _ Br (aj▸am)
 intro x W J O ah;obtain⟨Y,ad,e4, -⟩:=ah;change (fun u W=>W.ownsRow w.heap.size 5 1 u 64 (Z.map qo)) (x 30) W at Y
 change (fun u W=>Fresh w.heap.size W u (Z.take m)) (x 33) W at ad
 change (fun u W=>Fresh w.heap.size W u (Z.take m)) (x 4) W at e4
 refine qv ?_;simp only[QP,Act.put,Ls];have E4:=hid e4;have HW:=hid J;clear e4 Y ad J;go_wp2
 go_ret2
 exact⟨⟨_,rfl,E4.out⟩,HW.out⟩
theorem qcC (V G:List Int)(hh:Words 32 8 V)(hm: ∀z∈G,0≤z∧z≤255)(r p m:Nat)(dg wr:Int)(la:Bool)(bv kv hv:Value)(w:World)(I:w.heap[r]? =some (.cells (yr 2 dg bv kv la wr (.iface 287 (.pointer (some ⟨p,0,none⟩)))) 179 (0,0)))(hE:Q1 false w p hv V G)(aa:(G.length:Int)≤281474976710656)(aw:1≤m)(ak:m≤32):
  Calls Tryz.prog 99 #[.pointer (some ⟨r,0,none⟩),.int .i64 m] w fun e w'=>(∃v,e= .returned (.tuple #[v,.int .i64 0])∧Fresh w.heap.size w' v ((zU false V G la).take m))∧Below w.heap.size w w':=by
 have hN:=qgO false r p 2 dg wr la bv kv w I;have c0:w.cell? ⟨r,0,none⟩=some (.int .i64 2):=qd I 0;have au:r<w.heap.size:=(Ai I).1;have HN:=hid hN;have ab:=hid I;have HO:=hid (fun(W:World) (h:Q1 false W p hv V G)=>qhs V G la hh hm p hv W h aa);have HE:=hid hE;have ag:=Zf false V G la;generalize zU false V G la=Z at*;have af:=hid (show Z.length=32 from ag);clear hN I hE hh hm aa ag;have ac:1≤(m:Int)∧(m:Int)≤32:=by omega
 obtain⟨ac,aB⟩:=ac;go_enter Tryz.func99,Tryz.ntmps99
 go_wp2_with fail
 refine HN.out.mono ?_;rintro e w1 ⟨rfl,hw⟩;rw[hw];clear hw;go_wp2_with fail
 refine(ZQ false _).mono ?_;rintro e w1 ⟨rfl,hw⟩;rw[hw];clear hw;rw[show((bB false:Nat):Int)=64 from rfl];go_upto_region 5 with(fail)
 clear c0;refine qI (n:=16) (w0:=w) (B:=w.heap.size) [.z 20 r 0,.z 21 r 0,.z 22 r 6,.v 23 (.iface 287 (.pointer (some ⟨p,0,none⟩))),.z 24 r 0,.z 25 r 0,.z 26 r 4,.v 27 (.bool la),.v 28 (.iface 287 (.pointer (some ⟨p,0,none⟩))),.v 29 (.iface 287 (.pointer (some ⟨p,0,none⟩))),.p 30 (fun u W=>W.ownsRow w.heap.size 5 1 u 32 (Z.map qo)),.v 31 (.int .i64 m),.v 32 (.int .i64 m),.p 33 (fun u W=>Fresh w.heap.size W u (Z.take m)),.p 4 (fun u W=>Fresh w.heap.size W u (Z.take m)),.v 5 (.int .i64 0)] (by exact⟨(fun _ _ _ h X=>qi h (fun g _ hg=>X.block g hg)),(fun _ _ _ h X=>h.below X),(fun _ _ _ h X=>h.below X),trivial⟩) Br.drew Nl ?_ ?_
 ·repeat' (with_reducible first|exact qB|refine qw ?_ ?_)
  all_goals try
   intro A x W q J O o D K S;have a0:=q.2 0 (by decide);conv at a0=>rhs;whnf
   have a1:=q.2 1 (by decide);conv at a1=>rhs;whnf
   simp only[Q7,yk]at D;clear o q;go_simp
   exact S _ _ BR rfl
  ·intro A x W q J O o _ K S;have ax:=gv q o 2 22;clear o q;have g0:=qf ab.out J;have c0:W.cell? ⟨r,6,none⟩=some (.iface 287 (.pointer (some ⟨p,0,none⟩))):=qd g0 6;go_simp
   exact S _ _ BR rfl
  ·intro A x W q J O o _ K S;have aA:=gv q o 6 26;clear o q;have g0:=qf ab.out J;have c0:W.cell? ⟨r,4,none⟩=some (.bool la):=qd g0 4;go_simp
   exact S _ _ BR rfl
  ·intro A x W q J O o _ K S;have ar:=gv q o 9 29;have aq:=gv q o 7 27;clear o q;go_simp
   refine YH (f:=264) (by kernel_rfl) ?_;go_simp
   refine(HO.out _ (yT HE.out J)).mono ?_;rintro e w' ⟨u,rfl,ho,X⟩;exact S _ _ X (ownsRow_le ho O)
  ·intro A x W q J O o _ K S;have U:(fun u W=>W.ownsRow w.heap.size 5 1 u 32 (Z.map qo)) (x 30) W:=o ⟨10,.data⟩ (by simp) rfl _ rfl;have al:A.tmps.getD 30 undef=x 30:=q.1 30 (by decide);have aC:=gv q o 11 31;have av:=gv q o 12 32;clear o q;obtain⟨s1,s2,s3,Y⟩:=qs U;rw[Y]at U al;obtain rfl:s2=32:=yM U;obtain⟨gg,rfl⟩:=jq (jO U) (by decide);obtain⟨cu, -, -, -, -,ay,an⟩:=zb U;have ap:(s3:Int)≤9223372036854775807:=by unfold maxLen at an;omega
   have ao:(m:Int)≤s3:=by omega
   have az:32≤(s3:Int):=by omega
   have ae:=qb4 (m:=m) (zs:=Z) (c:=s3) (by rw[af.out];exact U) (by rw[af.out];exact ak);have ai:=hid ae;clear ae;go_simp
   exact S _ _ Br ai.out
  ·intro A x W q J O o _ K S;have am:(fun u W=>Fresh w.heap.size W u (Z.take m)) (x 33) W:=o ⟨13,.data⟩ (by simp) rfl _ rfl;have aj:A.tmps.getD 33 undef=x 33:=q.1 33 (by decide);clear o q;go_simp
   exact S _ _ Br (aj▸am)
 intro x W J O ah;obtain⟨Y,ad,e4, -⟩:=ah;change (fun u W=>W.ownsRow w.heap.size 5 1 u 32 (Z.map qo)) (x 30) W at Y
 change (fun u W=>Fresh w.heap.size W u (Z.take m)) (x 33) W at ad
 change (fun u W=>Fresh w.heap.size W u (Z.take m)) (x 4) W at e4
 refine qv ?_;simp only[QP,Act.put,Ls];have E4:=hid e4;have HW:=hid J;clear e4 Y ad J;go_wp2
 go_ret2
 exact⟨⟨_,rfl,E4.out⟩,HW.out⟩
def Qn (b:List Int)(p:Nat)(zs:List Int):List Int:=b.take p++zs++b.drop (p+zs.length)
theorem Qq {b zs:List Int}{p:Nat}(h:p+zs.length≤b.length):(Qn b p zs).length=b.length:=by
 simp[Qn];omega
theorem YP {b zs:List Int}{p:Nat}(h:p+zs.length≤b.length)(i:Nat):qp (Qn b p zs) i=if p≤i∧i<p+zs.length then qp zs (i - p) else qp b i:=by
 unfold Qn qp;simp only[Lg];have q:(b.take p).length=p:=by simp;omega
 by_cases o:i<p
 ·rw[List.append_assoc,List.getElem?_append_left (by omega),List.getElem?_take,if_pos o,if_neg (by omega)]
 ·by_cases r:i<p+zs.length
  ·rw[List.append_assoc,List.getElem?_append_right (by omega),q,List.getElem?_append_left (by omega),if_pos ⟨by omega,r⟩]
  ·rw[List.getElem?_append_right (by simp;omega),if_neg (by omega),List.getElem?_drop];congr 2
   simp;omega
theorem zm (b:List Int)(p:Nat):Qn b p []=b:=by simp[Qn]
theorem qag {b zs:List Int}{p:Nat}{z:Int}(h:p+zs.length<b.length):Qn b p (zs++[z])=(Qn b p zs).set (p+zs.length) z:=by
 have r:(b.take p).length=p:=by simp;omega
 have q:(b.take p++zs).length=p+zs.length:=by simp;omega
 have o:b.drop (p+zs.length)=b[p+zs.length]::b.drop (p+zs.length+1):=List.drop_eq_getElem_cons h;unfold Qn;rw[o,List.length_append,List.length_singleton,←Nat.add_assoc,List.set_append_right _ _ (by omega),q,Nat.sub_self,List.set_cons_zero];simp
def QD (big x0:Bool)(v:Nat→Nat):Nat→List Int
 | 0=>List.replicate (mB big) 0
 | k+1=>if k+1=7∧x0=true then QD big x0 v k else Qn (QD big x0 v k) (atB big (k+1)) (qD (v (k+1)) (szB big (k+1)))
theorem QW (big q:Bool)(v:Nat→Nat): ∀k,k≤9→(QD big q v k).length=mB big
 | 0,_=>by simp[QD]
 | k+1,h=>by
  have o:=QW big q v k (by omega);have r:=yd big false (k+1) (by omega) (by omega);have e:szE big false (k+1)=szB big (k+1):=by simp[szE]
  rw[e]at r;have D:32≤mB big:=by cases big<;>decide
  rw[QD];split
  ·exact o
  ·rw[Qq (by rw[qG,o];omega),o]
def QT (big:Bool)(v:Nat→Nat)(z1 z2:List Int):List Int:=Qn (Qn (QD big (v 7==0) v 9) (2*sB big) z1) (3*sB big) z2
theorem yv {big:Bool}{v:Nat→Nat}{z1 z2:List Int}(o:z1.length≤sB big)(r:z2.length≤sB big):(QT big v z1 z2).length=mB big:=by
 have e:=QW big (v 7==0) v 9 (by omega);have q:4*sB big=mB big:=by cases big<;>decide
 unfold QT;rw[Qq (by rw[Qq (by omega)];omega),Qq (by omega),e]
def parN (v:Nat→Nat)(sa pe:Value):Value:=parV (v 1:Nat) (v 2:Nat) (v 3:Nat) (v 4:Nat) (v 5:Nat) (v 6:Nat) (v 7:Nat) (v 8:Nat) (v 9:Nat) sa pe
def RowB (w:World)(g:Nat)(b:List Int):Prop:=w.heap[g]? =some (.cells (b.map qo).toArray 5 (0,0))
theorem RowB.cell {w:World}{g:Nat}{b:List Int}(h:RowB w g b){i:Nat}(hi:i<b.length):w.cell? ⟨g,i,none⟩=some (.int .u8 (qp b i)):=by
 rw[qd h i];simp[qo,qp,Lg,hi]
theorem RowB.set {w:World}{g:Nat}{b:List Int}(h:RowB w g b)(i:Nat)(z:Int):RowB (w.setCell ⟨g,i,none⟩ (.int .u8 z)) g (b.set i z):=by
 have:=heap_setCell_same w g i _ _ (.int .u8 z) h
 unfold RowB;rw[this];simp[qo,List.map_set]
theorem qcR (b:List Int)(g n c p k:Nat)(hk:k≤8)(hp:p+k≤b.length)(V:n=b.length)(hc:n≤c)(af:n≤65535)(x:Nat)(hx:(x:Int)≤18446744073709551615)(w:World)(h:RowB w g b):
  Calls Tryz.prog 166 #[.slice (some ⟨g,0,none⟩) n c,.int .i64 p,.int .i64 k,.int .u64 x] w fun e w'=>e= .returned (.tuple #[])∧RowB w' g (Qn b p (qD x k))∧But g w w':=by
 have I:g<w.heap.size:=(Ai h).1;have Z:=hid h;have HN:=hid V;have ab:(p:Int)+k≤n:=by omega
 have aa:(n:Int)≤65535:=by omega
 clear h V;go_enter Tryz.func166,Tryz.ntmps166
 go_wp2_with fail
 go_loopw [8] (fun i wr=> ∃j:Nat,i= .int .i64 j∧j≤k∧RowB wr g (Qn b p (qD x j))∧But g w wr) (fun i _=>k - (intOf i).toNat)
 case atStart=>exact⟨0,rfl,Nat.zero_le _,by show RowB w g (Qn b p []);rw[zm];exact Z.out,But.refl _ _⟩
 case round=>
  obtain⟨j,rfl,hj,o,D⟩:=hrel;by_cases ac:j<k
  ·have X:(Qn b p (qD x j)).length=b.length:=Qq (by rw[qG];omega);have U:=o.cell (i:=p+j) (by have:=HN.out;omega);have ae:=frozen_of_row wr g (p+j) _ _ o;have ad:g<wr.heap.size:=Nat.lt_of_lt_of_le I D.size;have q:=Zm x j;have r:=o.set (p+j) (byt x j);have e:(Qn b p (qD x j)).set (p+j) (byt x j)=Qn b p (qD x (j+1)):=by
    have J:=qag (b:=b) (zs:=qD x j) (p:=p) (z:=byt x j) (by rw[qG];omega);rw[qG]at J;rw[←J,zx]
   rw[e]at r;have O:=hid r;have G:=hid D;generalize qp (Qn b p (qD x j)) (p+j)=z0 at U;have S:(j:Int)<k∧(k:Int)≤8∧0≤(j:Int)∧(p:Int)+j<n:=by omega
   obtain⟨q1,q2,q3,q4⟩:=S;clear r e X o D;go_wp2
   exact⟨⟨j+1,rfl,by omega,O.out,G.out.set _ _⟩,by simp[intOf];omega⟩
  ·obtain rfl:j=k:=by omega
   have G:=hid D;have Y:=hid o;clear D o;go_wp2
   go_end0
   exact⟨rfl,Y.out,G.out⟩
def YL (big ext:Bool)(zs:List Int)(f:Nat):Nat:=if f=7∧ext=false then 0 else(yi big ext zs f).toNat
def Ys (zs:List Int):List Int:=zs.take (Qp zs zs.length)
def Y3 (big:Bool)(zs:List Int):List Int:=Ys ((zs.drop (2*sB big)).take (sB big))
def zp (big:Bool)(zs:List Int):List Int:=Ys ((zs.drop (3*sB big)).take (sB big))
theorem J2 {big ext:Bool}{zs:List Int}(q: ∀z∈zs,0≤z∧z≤255)(D:zs.length=mB big){f:Nat}(o:1≤f)(G:f≤9)(r: ¬(f=7∧ext=false)):((YL big ext zs f:Nat):Int)=qO zs (atB big f) (szE big ext f):=by
 have I:=qY (big:=big) (ext:=ext) q D o G;have e:yi big ext zs f=qO zs (atB big f) (szE big ext f):=if_neg (by omega);unfold YL;rw[if_neg r,Int.toNat_of_nonneg I.1,e]
theorem qeF {big ext:Bool}{zs:List Int}(D: ∀z∈zs,0≤z∧z≤255)(I:zs.length=mB big)(o q:Value):
  parN (YL big ext zs) o q=parV (qp zs 0) (qp zs 1) (qp zs 2) (qp zs 3) (qO zs 4 4) (qO zs 8 (szE big ext 6)) (xoZ big ext zs) (qp zs (atB big 8)) (qp zs (atB big 9)) o q:=by
 have h:=fun f r J G=>J2 (big:=big) (ext:=ext) D I (f:=f) r J G
 unfold parN;rw[h 1 (by omega) (by omega) (by omega),h 2 (by omega) (by omega) (by omega),h 3 (by omega) (by omega) (by omega),h 4 (by omega) (by omega) (by omega),h 5 (by omega) (by omega) (by omega),h 6 (by omega) (by omega) (by omega),h 8 (by omega) (by omega) (by omega),h 9 (by omega) (by omega) (by omega)];have O:((YL big ext zs 7:Nat):Int)=xoZ big ext zs:=by
  cases ext
  ·rfl
  ·rw[h 7 (by omega) (by omega) (by simp)];cases big<;>rfl
 rw[O]
 cases big<;>cases ext<;>simp[szE,szB,atB,zF]
theorem qdF (big:Bool)(zs:List Int)(v:Value)(w:World)(h:Hold w v zs)(ab:okD big false zs):
  Calls Tryz.prog 152 #[.int .i64 (kB big),v,.bool false] w fun e w'=>(∃q o,e= .returned (.tuple #[parN (YL big false zs) q o,.int .i64 0])∧w'.ownsRow w.heap.size 5 1 q (Y3 big zs).length ((Y3 big zs).map qo)∧w'.ownsRow w.heap.size 5 1 o (zp big zs).length ((zp big zs).map qo))∧Below w.heap.size w w':=by
 obtain⟨a,S,rfl,D,O⟩:=h.slice;have J:=h.1;have h:=h.holds8;obtain⟨G,hm, -,k0,k1,k3,k9⟩:=ab;obtain⟨a',ad,e,h⟩:=h;simp only[Value.slice.injEq,true_and]at e;obtain⟨rfl,rfl⟩:=e;obtain⟨b,off,rfl,hB⟩:=h.resolve_left (fun e=>by rw[e]at G;cases big<;>simp[mB]at G);have aa: ∀p s:Nat,p+s≤zs.length→((zs.drop p).take s).length=s:=fun p s h=>by simp;omega
 have ac: ∀x:List Int,(x.take (Qp x x.length)).length=Qp x x.length:=fun x=>by have:=Z6 x x.length;simp;omega
 have I: ∀(p s:Nat),p+s≤zs.length→(Ys ((zs.drop p).take s)).length=Qp ((zs.drop p).take s) s∧Ys ((zs.drop p).take s)=((zs.drop p).take s).take (Qp ((zs.drop p).take s) s):=fun p s h=>by
  have e:=aa p s h;unfold Ys;rw[ac,e];exact⟨rfl,rfl⟩
 cases big
 ·have r:zs.length=32:=G;rw[r]at D⊢;obtain⟨Y,U⟩:=I 16 8 (by omega);obtain⟨X,s4⟩:=I 24 8 (by omega);refine(Z2 zs b off S w hB J D O r k0 k1.2 (k3 rfl) k9.2).mono ?_;rintro e w' ⟨⟨q,o,rfl,V,Z⟩,hb⟩
  refine⟨⟨q,o,congrArg (fun p=>Ending.returned (.tuple #[p,.int .i64 0])) (qeF (big:=false) (ext:=false) J G q o).symm,?_,?_⟩,hb⟩
  ·show w'.ownsRow _ _ _ q (Ys ((zs.drop 16).take 8)).length ((Ys ((zs.drop 16).take 8)).map qo)
   rw[Y,U];exact V
  ·show w'.ownsRow _ _ _ o (Ys ((zs.drop 24).take 8)).length ((Ys ((zs.drop 24).take 8)).map qo)
   rw[X,s4];exact Z
 ·have r:zs.length=64:=G;rw[r]at D⊢;obtain⟨Y,U⟩:=I 32 16 (by omega);obtain⟨X,s4⟩:=I 48 16 (by omega);refine(jo zs b off S w hB J D O r (hm rfl) k0 k1.2 (k3 rfl) k9.2).mono ?_;rintro e w' ⟨⟨q,o,rfl,V,Z⟩,hb⟩
  refine⟨⟨q,o,congrArg (fun p=>Ending.returned (.tuple #[p,.int .i64 0])) (qeF (big:=true) (ext:=false) J G q o).symm,?_,?_⟩,hb⟩
  ·show w'.ownsRow _ _ _ q (Ys ((zs.drop 32).take 16)).length ((Ys ((zs.drop 32).take 16)).map qo)
   rw[Y,U];exact V
  ·show w'.ownsRow _ _ _ o (Ys ((zs.drop 48).take 16)).length ((Ys ((zs.drop 48).take 16)).map qo)
   rw[X,s4];exact Z
structure ParOk (big:Bool)(v:Nat→Nat):Prop where
 p:okP big (v 1:Nat) (v 2:Nat) (v 3:Nat) (v 4:Nat) (v 6:Nat) (v 8:Nat) (v 9:Nat)
 lf:v 5<4294967296
 ofs:v 6<18446744073709551616
 x0:v 7=0
theorem ZN {big:Bool}{v:Nat→Nat}(D:ParOk big v)(a1 a2:Option Addr){o q:Nat}(c1 c2:Nat)(r:o≤sB big)(G:q≤sB big)(w:World):
  Calls Tryz.prog 163 #[.int .i64 (kB big),parN v (.slice a1 o c1) (.slice a2 q c2)] w fun e w'=>e= .returned (.int .i64 0)∧Below w.heap.size w w':=by
 unfold parN;rw[D.x0];exact qaU big _ _ _ _ _ _ _ _ a1 a2 o q c1 c2 w D.p r G
def ji (v:Nat→Nat):Array Value:= #[.int .u64 (v 1),.int .u64 (v 2),.int .u64 (v 3),.int .u64 (v 4),.int .u64 (v 5),.int .u64 (v 6),.int .u64 (v 7),.int .u64 (v 8),.int .u64 (v 9)]
theorem qgJ (v:Nat→Nat){k:Nat}(o:k<9):(ji v)[k]? =some (.int .u64 (v (k+1):Nat)):=by
 rcases(show k=0∨k=1∨k=2∨k=3∨k=4∨k=5∨k=6∨k=7∨k=8 by omega)with rfl|rfl|rfl|rfl|rfl|rfl|rfl|rfl|rfl<;>rfl
theorem ParOk.le {big:Bool}{v:Nat→Nat}(h:ParOk big v): ∀f,1≤f→f≤9→((v f:Nat):Int)≤18446744073709551615:=by
 obtain⟨⟨o,S,G,I, -,O,X⟩,U,q,J⟩:=h;have D:mB big≤64:=by cases big<;>decide
 intro f V r;rcases(show f=1∨f=2∨f=3∨f=4∨f=5∨f=6∨f=7∨f=8∨f=9 by omega)with rfl|rfl|rfl|rfl|rfl|rfl|rfl|rfl|rfl<;>omega
theorem JX {w w':World}{a:Option Addr}{n c:Nat}{zs:List Int}(h:Hold w (.slice a n c) zs)(r:Below w.heap.size w w'){j:Nat}(o:j<zs.length): ∃b off,a=some ⟨b,off,none⟩∧b<w'.heap.size∧w'.cell? ⟨b,off+j,none⟩=some (.int .u8 (qp zs j))∧0≤qp zs j∧qp zs j≤255:=by
 have q:zs≠[]:=fun e=>by rw[e]at o;simp at o
 rcases h.2 with⟨G, -⟩|⟨S,O,e, -, -,J⟩
 ·exact absurd G q
 ·obtain⟨b,off,rfl,D,I⟩:=J.resolve_left q;simp only[Value.slice.injEq]at e;exact⟨b,off,e.1,Nat.lt_of_lt_of_le D r.size,(r.cell (p:=⟨b,off+j,none⟩) D).trans (I j o),(qZ h.1 o).2⟩
theorem jI {b zs:List Int}{p j:Nat}(o:j<zs.length)(h:p+zs.length≤b.length):(Qn b p (zs.take j)).set (p+j) (qp zs j)=Qn b p (zs.take (j+1)):=by
 have e:(zs.take j).length=j:=by simp;omega
 rw[jF o,qag (by omega),e]
theorem jn (v:Nat→Nat)(z1 z2:List Int)(sa pe:Value)(w:World)(hP:ParOk true v)(h1:Hold w sa z1)(h2:Hold w pe z2)(ae:z1.length≤16)(ah:z2.length≤16):
  Calls Tryz.prog 138 #[.int .i64 1,parN v sa pe] w fun e w'=>(∃r,e= .returned (.tuple #[r,.int .i64 0])∧w'.ownsRow w.heap.size 5 1 r 64 ((QT true v z1 z2).map qo))∧Below w.heap.size w w':=by
 obtain⟨a1,c1,rfl,bc,ba⟩:=h1.slice;obtain⟨a2,c2,rfl,a5,aL⟩:=h2.slice;obtain⟨i0,hi,aN,aR,aQ⟩:=info_parts Ql;obtain⟨q,ac⟩:=Ex w.heap.size;have aw:=hid (ZN hP a1 a2 c1 c2 ae ah);have az:=hid hP.x0;have aH:=hid hP.le;have aV:((v 5:Nat):Int)<4294967296:=by have:=hP.lf;omega
 have aU:((v 7:Nat):Int)<4294967296:=by have:=hP.x0;omega
 have X: ∀f,1≤f→f≤9→IntKind.u64.wrap ((v f:Nat):Int)=((v f:Nat):Int):=fun f f1 f2=>u64_wrap_id _ (by omega) (by have:=aH.out f f1 f2;omega)
 have aO:=X 1 (by omega) (by omega);have aZ:=X 2 (by omega) (by omega);have a4:=X 3 (by omega) (by omega);have a9:=X 4 (by omega) (by omega);have aS:=X 5 (by omega) (by omega);have a3:=X 7 (by omega) (by omega);have a8:=X 8 (by omega) (by omega);have a7:=X 9 (by omega) (by omega);have aC:Below q w (w.alloc (.cells #[.int .i64 (v 1),.int .i64 (v 2),.int .i64 (v 3),.int .i64 (v 4),.int .u32 (v 5),.int .u64 (v 6),.int .u32 (v 7),.int .i64 (v 8),.int .i64 (v 9),.slice a1 z1.length c1,.slice a2 z2.length c2] 171)):=by rw[←ac];exact Br.alloc Nl _
 have af:=Wn w (.cells #[.int .i64 (v 1),.int .i64 (v 2),.int .i64 (v 3),.int .i64 (v 4),.int .u32 (v 5),.int .u64 (v 6),.int .u32 (v 7),.int .i64 (v 8),.int .i64 (v 9),.slice a1 z1.length c1,.slice a2 z2.length c2] 171);rw[ac]at af;have aW:=hid h1;have be:=hid h2;have bi:=hid hP;clear hP h1 h2 X bc ba a5 aL;unfold parN parV;unfold parN parV at aw;go_enter Tryz.func138,Tryz.ntmps138
 go_upto_region 1 with(fail)
 generalize w.alloc (.cells #[.int .i64 (v 1),.int .i64 (v 2),.int .i64 (v 3),.int .i64 (v 4),.int .u32 (v 5),.int .u64 (v 6),.int .u32 (v 7),.int .i64 (v 8),.int .i64 (v 9),.slice a1 z1.length c1,.slice a2 z2.length c2] 171)=wA at*;go_wp2_with (refine L171 q rfl af ?_)
 refine(aw.out wA).mono ?_;rintro e w1 ⟨rfl,ai⟩;have O:=qf af ai;have aT:=ai.size;have aK:q<wA.heap.size:=(Ai af).1;have bf:q<w1.heap.size:=by omega
 have aD:Below q w w1:=aC.trans (ai.mono (by omega));have d0:w1.cell? ⟨q,0,none⟩=some (.int .i64 (v 1)):=qd O 0;have d1:w1.cell? ⟨q,1,none⟩=some (.int .i64 (v 2)):=qd O 1;have d2:w1.cell? ⟨q,2,none⟩=some (.int .i64 (v 3)):=qd O 2;have d3:w1.cell? ⟨q,3,none⟩=some (.int .i64 (v 4)):=qd O 3;have d4:w1.cell? ⟨q,4,none⟩=some (.int .u32 (v 5)):=qd O 4;have d5:w1.cell? ⟨q,5,none⟩=some (.int .u64 (v 6)):=qd O 5;have d6:w1.cell? ⟨q,6,none⟩=some (.int .u32 (v 7)):=qd O 6;have d7:w1.cell? ⟨q,7,none⟩=some (.int .i64 (v 8)):=qd O 7;have d8:w1.cell? ⟨q,8,none⟩=some (.int .i64 (v 9)):=qd O 8;have aG:=hid O;have aB:=hid aD;clear ai aC af O aD aT aK;go_wp2_with fail
 refine(Jw true _).mono ?_;rintro e w2 ⟨rfl,hw⟩;rw[hw];clear hw;rw[show((mB true:Nat):Int)=64 from rfl];have ay:=fun W:World=>run_make (P:=Tryz.prog) W 24 5 i0 (.int .u8 0) Tryz.underlying24 hi aN .i64 .i64 64 64 (by omega) (by omega) (by rw[aQ];omega) (by omega)
 simp only[aR]at ay;go_wp2_with fail
 obtain⟨g,hg⟩:=Ex w1.heap.size;have aF:madeCells Kc 64=((List.replicate 64 (0:Int)).map qo).toArray:=by
  apply Array.toList_inj.1
  rw[toList_madeCells_one];simp[qo]
 have bg:((w1.alloc (.cells (madeCells Kc 64) 5)).alloc (.cells (ji v) 44)).heap.size=g+2:=by simp[hg]
 have aI:RowB ((w1.alloc (.cells (madeCells Kc 64) 5)).alloc (.cells (ji v) 44)) g (QD true (v 7==0) v 0):=by
  unfold RowB;rw[Bh _ _ _ (by simp[hg]),aF,←hg];exact Wn _ _
 have an:((w1.alloc (.cells (madeCells Kc 64) 5)).alloc (.cells (ji v) 44)).heap[g+1]? =some (.cells (ji v) 44 (0,0)):=by
  rw[show g+1=(w1.alloc (.cells (madeCells Kc 64) 5)).heap.size by simp[hg]];exact Wn _ _
 have aA:((w1.alloc (.cells (madeCells Kc 64) 5)).alloc (.cells (ji v) 44)).heap[q]? =some (.cells #[.int .i64 (v 1),.int .i64 (v 2),.int .i64 (v 3),.int .i64 (v 4),.int .u32 (v 5),.int .u64 (v 6),.int .u32 (v 7),.int .i64 (v 8),.int .i64 (v 9),.slice a1 z1.length c1,.slice a2 z2.length c2] 171 (0,0)):=by
  rw[Bh _ _ _ (by simp;omega),Bh _ _ _ (by omega)];exact aG.out
 have av:Below q w ((w1.alloc (.cells (madeCells Kc 64) 5)).alloc (.cells (ji v) 44)):=(aB.out.alloc (by omega) _).alloc (by simp;omega) _;change Code.wp _ _ _ _ ((w1.alloc (.cells (madeCells Kc 64) 5)).alloc (.cells (ji v) 44))
 rw[hg];have bk:q<g:=by omega
 generalize ((w1.alloc (.cells (madeCells Kc 64) 5)).alloc (.cells (ji v) 44))=W5 at*;have aP:=hid aI;have aJ:=hid an;have ap:=hid aA;have aq:=hid av;clear aI an aA av aF ay aG aB hg d0 d1 d2 d3 d4 d5 d6 d7 d8 aO aZ a4 a9 aS a3 a8 a7;go_loopw [9] (fun f wr=> ∃n k:Nat,f= .int .i64 n∧n=k+1∧k≤9∧RowB wr g (QD true (v 7==0) v k)∧But g W5 wr) (fun f _=>10 - (intOf f).toNat)
 case atStart=>exact⟨1,0,rfl,rfl,by omega,aP.out,But.refl _ _⟩
 case round=>
  obtain⟨n,k,rfl,ag,hk,o,I⟩:=hrel;have aa:=hid ag;have G:=hid o;have Y:=hid I;have al:g+1<wr.heap.size:=by have:=I.size;omega
  have c6:wr.cell? ⟨q,6,none⟩=some (.int .u32 (v 7)):=qd ((I.block q (by omega) (by omega)).trans ap.out) 6;have ab:q<wr.heap.size:=by omega
  have D:=QW true (v 7==0) v k hk;by_cases S:k<9
  case pos=>
   have bj:(n:Int)≤9:=by omega
   have bh:1≤(n:Int):=by omega
   have a6:(n:Int) - 1=(k:Nat):=by omega
   have cv:wr.cell? ⟨g+1,k,none⟩=some (.int .u64 (v (k+1):Nat)):=(qd ((I.block (g+1) (by omega) (by omega)).trans aJ.out) k).trans (qgJ v S);rw[←ag]at cv;have aM:(k:Int)<9:=by omega
   have aX:=hid (jU true n ⟨by omega,by omega⟩);have ao:=yd true false n (by omega) (by omega);rw[show szE true false n=szB true n by simp[szE]]at ao;have HL:=hid (qcR (QD true (v 7==0) v k) g 64 64 (atB true n) (szB true n) (by omega) (by rw[D];show _≤64;have:=ao.2.2.2;omega) (by rw[D];rfl) Nl (by decide) (v n) (aH.out n (by omega) (by omega)) wr o);have aj: ¬(k+1=7∧(v 7==0)=true)→QD true (v 7==0) v (k+1)=Qn (QD true (v 7==0) v k) (atB true n) (qD (v n) (szB true n)):=fun h=>by rw[QD,if_neg h,ag]
   have ad:=hid aj;clear aj o I ag ao D;by_cases h7:k=6
   case pos=>
    obtain rfl:n=7:=by have:=aa.out;omega
    subst h7;clear a6 aM;have hq:((v 7:Int)==0)=true:=by rw[az.out];rfl
    go_wp2
    refine⟨⟨8,7,rfl,rfl,by omega,?_,Y.out⟩,by simp[intOf]⟩;have e:QD true (v 7==0) v 7=QD true (v 7==0) v 6:=by rw[QD,if_pos ⟨rfl,by rw[az.out];rfl⟩]
    rw[e];exact G.out
   have h8: ¬((n:Int)=7):=by have:=aa.out;omega
   have h9: ¬(n=7):=by have:=aa.out;omega
   go_wp2_with fail
   refine(aX.out _).mono ?_;rintro r w4 ⟨rfl,hw⟩;rw[hw];clear hw;go_wp2_with fail
   refine HL.out.mono ?_;rintro r w4 ⟨rfl,ae,ah⟩;have J:=hid ae;have U:=hid ah;clear ae ah c6 cv;go_wp2
   refine⟨⟨n+1,k+1,rfl,by rw[aa.out],by omega,by rw[ad.out (fun h=>h7 (by omega))];exact J.out,Y.out.trans U.out⟩,by simp[intOf];omega⟩
  obtain rfl:k=9:=by omega
  obtain rfl:n=10:=by have:=aa.out;omega
  clear D o I ag;clear c6 aa S;have aE:=QW true (v 7==0) v 9 (by omega);have ax:=hid (show QT true v z1 z2=Qn (Qn (QD true (v 7==0) v 9) 32 z1) 48 z2 from rfl);generalize QD true (v 7==0) v 9=E at*;have ar:E.length=64:=aE;have ak:=hid ar;have J:=hid ae;have U:=hid ah;clear aE ar hk aV aU;go_wp2_with fail
  refine(YB true _).mono ?_;rintro r w4 ⟨rfl,hw⟩;rw[hw];clear hw;rw[show((mB true:Nat):Int)=64 from rfl];go_wp2_with fail
  have V:=ak;go_loopw [13] (fun i wr=> ∃j:Nat,i= .int .i64 j∧j≤z1.length∧RowB wr g (Qn E 32 (z1.take j))∧But g W5 wr) (fun i _=>z1.length - (intOf i).toNat)
  case atStart=>exact⟨0,rfl,Nat.zero_le _,by rw[List.take_zero,zm];exact G.out,Y.out⟩
  case round=>
   clear Y G al ab;obtain⟨j,rfl,hj,o,I⟩:=hrel;have G:=hid o;have Y:=hid I;have al:g+1<wr.heap.size:=by have:=I.size;omega
   have ab:q<wr.heap.size:=by omega
   have am:g<wr.heap.size:=by omega
   have cz:wr.cell? ⟨q,9,none⟩=some (.slice a1 z1.length c1):=qd ((I.block q (by omega) (by omega)).trans ap.out) 9;by_cases S:j<z1.length
   case pos=>
    obtain⟨bb,bd,rfl,q1,q2,q3,q4⟩:=JX aW.out (ac▸aq.out.trans (I.below (by omega) (by omega))) S;have Z:=o.set (32+j) (qp z1 j);rw[jI S (by have:=ak.out;have:=J.out;omega)]at Z;have ad:=hid Z;have D:(Qn E 32 (z1.take j)).length=64:=by rw[Qq (by rw[List.length_take];have:=V.out;have:=J.out;have:=U.out;omega)];exact V.out
    have co:=o.cell (i:=32+j) (by rw[D];have:=J.out;have:=U.out;omega);have fo:=frozen_of_row wr g (32+j) _ _ o;generalize qp (Qn E 32 (z1.take j)) (32+j)=zo at co;generalize qp z1 j=zj at*;have aY:(j:Int)<16:=by have:=J.out;have:=U.out;omega
    clear Z D o I;go_wp2
    exact⟨⟨j+1,rfl,by omega,ad.out,Y.out.set _ _⟩,by simp[intOf];omega⟩
   obtain rfl:j=z1.length:=by omega
   rw[List.take_length]at G;clear o I;clear hj S V;have V:=hid (show(Qn E 32 z1).length=64 from by rw[Qq (by have:=ak.out;have:=J.out;omega)];exact ak.out);go_wp2_with fail
   clear cz am;go_loopw [14] (fun i wr=> ∃j:Nat,i= .int .i64 j∧j≤z2.length∧RowB wr g (Qn (Qn E 32 z1) 48 (z2.take j))∧But g W5 wr) (fun i _=>z2.length - (intOf i).toNat)
   case atStart=>exact⟨0,rfl,Nat.zero_le _,by rw[List.take_zero,zm];exact G.out,Y.out⟩
   case round=>
    clear Y G al ab;obtain⟨j,rfl,hj,o,I⟩:=hrel;have G:=hid o;have Y:=hid I;have al:g+1<wr.heap.size:=by have:=I.size;omega
    have ab:q<wr.heap.size:=by omega
    have am:g<wr.heap.size:=by omega
    have cz:wr.cell? ⟨q,10,none⟩=some (.slice a2 z2.length c2):=qd ((I.block q (by omega) (by omega)).trans ap.out) 10;by_cases S:j<z2.length
    case pos=>
     obtain⟨bb,bd,rfl,q1,q2,q3,q4⟩:=JX be.out (ac▸aq.out.trans (I.below (by omega) (by omega))) S;have Z:=o.set (48+j) (qp z2 j);rw[jI S (by have:=V.out;have:=U.out;omega)]at Z;have ad:=hid Z;have D:(Qn (Qn E 32 z1) 48 (z2.take j)).length=64:=by rw[Qq (by rw[List.length_take];have:=V.out;have:=J.out;have:=U.out;omega)];exact V.out
     have co:=o.cell (i:=48+j) (by rw[D];have:=J.out;have:=U.out;omega);have fo:=frozen_of_row wr g (48+j) _ _ o;generalize qp (Qn (Qn E 32 z1) 48 (z2.take j)) (48+j)=zo at co;generalize qp z2 j=zj at*;have aY:(j:Int)<16:=by have:=J.out;have:=U.out;omega
     clear Z D o I;go_wp2
     exact⟨⟨j+1,rfl,by omega,ad.out,Y.out.set _ _⟩,by simp[intOf];omega⟩
    obtain rfl:j=z2.length:=by omega
    rw[List.take_length]at G;clear o I;clear hj S;go_wp2
    go_ret2
    refine⟨⟨_,rfl,?_⟩,by rw[ac];exact aq.out.trans (Y.out.below (by omega) (by omega))⟩;have au:=yv (big:=true) (v:=v) J.out U.out;refine⟨by rw[List.length_map,au];rfl,.inr ⟨g,64,_,rfl,by omega,G.out,Nat.le_refl _,by unfold maxLen;omega,?_,?_⟩⟩
    ·rw[List.size_toArray,List.length_map,←ax.out,au];rfl
    ·rw[←ax.out];exact List.take_of_length_le (by rw[List.length_map,au];decide)
theorem ZW (v:Nat→Nat)(z1 z2:List Int)(sa pe:Value)(w:World)(hP:ParOk false v)(h1:Hold w sa z1)(h2:Hold w pe z2)(ae:z1.length≤8)(ah:z2.length≤8):
  Calls Tryz.prog 138 #[.int .i64 2,parN v sa pe] w fun e w'=>(∃r,e= .returned (.tuple #[r,.int .i64 0])∧w'.ownsRow w.heap.size 5 1 r 32 ((QT false v z1 z2).map qo))∧Below w.heap.size w w':=by
 obtain⟨a1,c1,rfl,bc,ba⟩:=h1.slice;obtain⟨a2,c2,rfl,a5,aL⟩:=h2.slice;obtain⟨i0,hi,aN,aR,aQ⟩:=info_parts Ql;obtain⟨q,ac⟩:=Ex w.heap.size;have aw:=hid (ZN hP a1 a2 c1 c2 ae ah);have az:=hid hP.x0;have aH:=hid hP.le;have aV:((v 5:Nat):Int)<4294967296:=by have:=hP.lf;omega
 have aU:((v 7:Nat):Int)<4294967296:=by have:=hP.x0;omega
 have X: ∀f,1≤f→f≤9→IntKind.u64.wrap ((v f:Nat):Int)=((v f:Nat):Int):=fun f f1 f2=>u64_wrap_id _ (by omega) (by have:=aH.out f f1 f2;omega)
 have aO:=X 1 (by omega) (by omega);have aZ:=X 2 (by omega) (by omega);have a4:=X 3 (by omega) (by omega);have a9:=X 4 (by omega) (by omega);have aS:=X 5 (by omega) (by omega);have a3:=X 7 (by omega) (by omega);have a8:=X 8 (by omega) (by omega);have a7:=X 9 (by omega) (by omega);have aC:Below q w (w.alloc (.cells #[.int .i64 (v 1),.int .i64 (v 2),.int .i64 (v 3),.int .i64 (v 4),.int .u32 (v 5),.int .u64 (v 6),.int .u32 (v 7),.int .i64 (v 8),.int .i64 (v 9),.slice a1 z1.length c1,.slice a2 z2.length c2] 171)):=by rw[←ac];exact Br.alloc Nl _
 have af:=Wn w (.cells #[.int .i64 (v 1),.int .i64 (v 2),.int .i64 (v 3),.int .i64 (v 4),.int .u32 (v 5),.int .u64 (v 6),.int .u32 (v 7),.int .i64 (v 8),.int .i64 (v 9),.slice a1 z1.length c1,.slice a2 z2.length c2] 171);rw[ac]at af;have aW:=hid h1;have be:=hid h2;have bi:=hid hP;clear hP h1 h2 X bc ba a5 aL;unfold parN parV;unfold parN parV at aw;go_enter Tryz.func138,Tryz.ntmps138
 go_upto_region 1 with(fail)
 generalize w.alloc (.cells #[.int .i64 (v 1),.int .i64 (v 2),.int .i64 (v 3),.int .i64 (v 4),.int .u32 (v 5),.int .u64 (v 6),.int .u32 (v 7),.int .i64 (v 8),.int .i64 (v 9),.slice a1 z1.length c1,.slice a2 z2.length c2] 171)=wA at*;go_wp2_with (refine L171 q rfl af ?_)
 refine(aw.out wA).mono ?_;rintro e w1 ⟨rfl,ai⟩;have O:=qf af ai;have aT:=ai.size;have aK:q<wA.heap.size:=(Ai af).1;have bf:q<w1.heap.size:=by omega
 have aD:Below q w w1:=aC.trans (ai.mono (by omega));have d0:w1.cell? ⟨q,0,none⟩=some (.int .i64 (v 1)):=qd O 0;have d1:w1.cell? ⟨q,1,none⟩=some (.int .i64 (v 2)):=qd O 1;have d2:w1.cell? ⟨q,2,none⟩=some (.int .i64 (v 3)):=qd O 2;have d3:w1.cell? ⟨q,3,none⟩=some (.int .i64 (v 4)):=qd O 3;have d4:w1.cell? ⟨q,4,none⟩=some (.int .u32 (v 5)):=qd O 4;have d5:w1.cell? ⟨q,5,none⟩=some (.int .u64 (v 6)):=qd O 5;have d6:w1.cell? ⟨q,6,none⟩=some (.int .u32 (v 7)):=qd O 6;have d7:w1.cell? ⟨q,7,none⟩=some (.int .i64 (v 8)):=qd O 7;have d8:w1.cell? ⟨q,8,none⟩=some (.int .i64 (v 9)):=qd O 8;have aG:=hid O;have aB:=hid aD;clear ai aC af O aD aT aK;go_wp2_with fail
 refine(Jw false _).mono ?_;rintro e w2 ⟨rfl,hw⟩;rw[hw];clear hw;rw[show((mB false:Nat):Int)=32 from rfl];have ay:=fun W:World=>run_make (P:=Tryz.prog) W 24 5 i0 (.int .u8 0) Tryz.underlying24 hi aN .i64 .i64 32 32 (by omega) (by omega) (by rw[aQ];omega) (by omega)
 simp only[aR]at ay;go_wp2_with fail
 obtain⟨g,hg⟩:=Ex w1.heap.size;have aF:madeCells Kc 32=((List.replicate 32 (0:Int)).map qo).toArray:=by
  apply Array.toList_inj.1
  rw[toList_madeCells_one];simp[qo]
 have bg:((w1.alloc (.cells (madeCells Kc 32) 5)).alloc (.cells (ji v) 44)).heap.size=g+2:=by simp[hg]
 have aI:RowB ((w1.alloc (.cells (madeCells Kc 32) 5)).alloc (.cells (ji v) 44)) g (QD false (v 7==0) v 0):=by
  unfold RowB;rw[Bh _ _ _ (by simp[hg]),aF,←hg];exact Wn _ _
 have an:((w1.alloc (.cells (madeCells Kc 32) 5)).alloc (.cells (ji v) 44)).heap[g+1]? =some (.cells (ji v) 44 (0,0)):=by
  rw[show g+1=(w1.alloc (.cells (madeCells Kc 32) 5)).heap.size by simp[hg]];exact Wn _ _
 have aA:((w1.alloc (.cells (madeCells Kc 32) 5)).alloc (.cells (ji v) 44)).heap[q]? =some (.cells #[.int .i64 (v 1),.int .i64 (v 2),.int .i64 (v 3),.int .i64 (v 4),.int .u32 (v 5),.int .u64 (v 6),.int .u32 (v 7),.int .i64 (v 8),.int .i64 (v 9),.slice a1 z1.length c1,.slice a2 z2.length c2] 171 (0,0)):=by
  rw[Bh _ _ _ (by simp;omega),Bh _ _ _ (by omega)];exact aG.out
 have av:Below q w ((w1.alloc (.cells (madeCells Kc 32) 5)).alloc (.cells (ji v) 44)):=(aB.out.alloc (by omega) _).alloc (by simp;omega) _;change Code.wp _ _ _ _ ((w1.alloc (.cells (madeCells Kc 32) 5)).alloc (.cells (ji v) 44))
 rw[hg];have bk:q<g:=by omega
 generalize ((w1.alloc (.cells (madeCells Kc 32) 5)).alloc (.cells (ji v) 44))=W5 at*;have aP:=hid aI;have aJ:=hid an;have ap:=hid aA;have aq:=hid av;clear aI an aA av aF ay aG aB hg d0 d1 d2 d3 d4 d5 d6 d7 d8 aO aZ a4 a9 aS a3 a8 a7;go_loopw [9] (fun f wr=> ∃n k:Nat,f= .int .i64 n∧n=k+1∧k≤9∧RowB wr g (QD false (v 7==0) v k)∧But g W5 wr) (fun f _=>10 - (intOf f).toNat)
 case atStart=>exact⟨1,0,rfl,rfl,by omega,aP.out,But.refl _ _⟩
 case round=>
  obtain⟨n,k,rfl,ag,hk,o,I⟩:=hrel;have aa:=hid ag;have G:=hid o;have Y:=hid I;have al:g+1<wr.heap.size:=by have:=I.size;omega
  have c6:wr.cell? ⟨q,6,none⟩=some (.int .u32 (v 7)):=qd ((I.block q (by omega) (by omega)).trans ap.out) 6;have ab:q<wr.heap.size:=by omega
  have D:=QW false (v 7==0) v k hk;by_cases S:k<9
  case pos=>
   have bj:(n:Int)≤9:=by omega
   have bh:1≤(n:Int):=by omega
   have a6:(n:Int) - 1=(k:Nat):=by omega
   have cv:wr.cell? ⟨g+1,k,none⟩=some (.int .u64 (v (k+1):Nat)):=(qd ((I.block (g+1) (by omega) (by omega)).trans aJ.out) k).trans (qgJ v S);rw[←ag]at cv;have aM:(k:Int)<9:=by omega
   have aX:=hid (jU false n ⟨by omega,by omega⟩);have ao:=yd false false n (by omega) (by omega);rw[show szE false false n=szB false n by simp[szE]]at ao;have HL:=hid (qcR (QD false (v 7==0) v k) g 32 32 (atB false n) (szB false n) (by omega) (by rw[D];show _≤32;have:=ao.2.2.2;have:=this rfl;omega) (by rw[D];rfl) Nl (by decide) (v n) (aH.out n (by omega) (by omega)) wr o);have aj: ¬(k+1=7∧(v 7==0)=true)→QD false (v 7==0) v (k+1)=Qn (QD false (v 7==0) v k) (atB false n) (qD (v n) (szB false n)):=fun h=>by rw[QD,if_neg h,ag]
   have ad:=hid aj;clear aj o I ag ao D;by_cases h7:k=6
   case pos=>
    obtain rfl:n=7:=by have:=aa.out;omega
    subst h7;clear a6 aM;have hq:((v 7:Int)==0)=true:=by rw[az.out];rfl
    go_wp2
    refine⟨⟨8,7,rfl,rfl,by omega,?_,Y.out⟩,by simp[intOf]⟩;have e:QD false (v 7==0) v 7=QD false (v 7==0) v 6:=by rw[QD,if_pos ⟨rfl,by rw[az.out];rfl⟩]
    rw[e];exact G.out
   have h8: ¬((n:Int)=7):=by have:=aa.out;omega
   have h9: ¬(n=7):=by have:=aa.out;omega
   go_wp2_with fail
   refine(aX.out _).mono ?_;rintro r w4 ⟨rfl,hw⟩;rw[hw];clear hw;go_wp2_with fail
   refine HL.out.mono ?_;rintro r w4 ⟨rfl,ae,ah⟩;have J:=hid ae;have U:=hid ah;clear ae ah c6 cv;go_wp2
   refine⟨⟨n+1,k+1,rfl,by rw[aa.out],by omega,by rw[ad.out (fun h=>h7 (by omega))];exact J.out,Y.out.trans U.out⟩,by simp[intOf];omega⟩
  obtain rfl:k=9:=by omega
  obtain rfl:n=10:=by have:=aa.out;omega
  clear D o I ag;clear c6 aa S;have aE:=QW false (v 7==0) v 9 (by omega);have ax:=hid (show QT false v z1 z2=Qn (Qn (QD false (v 7==0) v 9) 16 z1) 24 z2 from rfl);generalize QD false (v 7==0) v 9=E at*;have ar:E.length=32:=aE;have ak:=hid ar;have J:=hid ae;have U:=hid ah;clear aE ar hk aV aU;go_wp2_with fail
  refine(YB false _).mono ?_;rintro r w4 ⟨rfl,hw⟩;rw[hw];clear hw;rw[show((mB false:Nat):Int)=32 from rfl];go_wp2_with fail
  have V:=ak;go_loopw [13] (fun i wr=> ∃j:Nat,i= .int .i64 j∧j≤z1.length∧RowB wr g (Qn E 16 (z1.take j))∧But g W5 wr) (fun i _=>z1.length - (intOf i).toNat)
  case atStart=>exact⟨0,rfl,Nat.zero_le _,by rw[List.take_zero,zm];exact G.out,Y.out⟩
  case round=>
   clear Y G al ab;obtain⟨j,rfl,hj,o,I⟩:=hrel;have G:=hid o;have Y:=hid I;have al:g+1<wr.heap.size:=by have:=I.size;omega
   have ab:q<wr.heap.size:=by omega
   have am:g<wr.heap.size:=by omega
   have cz:wr.cell? ⟨q,9,none⟩=some (.slice a1 z1.length c1):=qd ((I.block q (by omega) (by omega)).trans ap.out) 9;by_cases S:j<z1.length
   case pos=>
    obtain⟨bb,bd,rfl,q1,q2,q3,q4⟩:=JX aW.out (ac▸aq.out.trans (I.below (by omega) (by omega))) S;have Z:=o.set (16+j) (qp z1 j);rw[jI S (by have:=ak.out;have:=J.out;omega)]at Z;have ad:=hid Z;have D:(Qn E 16 (z1.take j)).length=32:=by rw[Qq (by rw[List.length_take];have:=V.out;have:=J.out;have:=U.out;omega)];exact V.out
    have co:=o.cell (i:=16+j) (by rw[D];have:=J.out;have:=U.out;omega);have fo:=frozen_of_row wr g (16+j) _ _ o;generalize qp (Qn E 16 (z1.take j)) (16+j)=zo at co;generalize qp z1 j=zj at*;have aY:(j:Int)<8:=by have:=J.out;have:=U.out;omega
    clear Z D o I;go_wp2
    exact⟨⟨j+1,rfl,by omega,ad.out,Y.out.set _ _⟩,by simp[intOf];omega⟩
   obtain rfl:j=z1.length:=by omega
   rw[List.take_length]at G;clear o I;clear hj S V;have V:=hid (show(Qn E 16 z1).length=32 from by rw[Qq (by have:=ak.out;have:=J.out;omega)];exact ak.out);go_wp2_with fail
   clear cz am;go_loopw [14] (fun i wr=> ∃j:Nat,i= .int .i64 j∧j≤z2.length∧RowB wr g (Qn (Qn E 16 z1) 24 (z2.take j))∧But g W5 wr) (fun i _=>z2.length - (intOf i).toNat)
   case atStart=>exact⟨0,rfl,Nat.zero_le _,by rw[List.take_zero,zm];exact G.out,Y.out⟩
   case round=>
    clear Y G al ab;obtain⟨j,rfl,hj,o,I⟩:=hrel;have G:=hid o;have Y:=hid I;have al:g+1<wr.heap.size:=by have:=I.size;omega
    have ab:q<wr.heap.size:=by omega
    have am:g<wr.heap.size:=by omega
    have cz:wr.cell? ⟨q,10,none⟩=some (.slice a2 z2.length c2):=qd ((I.block q (by omega) (by omega)).trans ap.out) 10;by_cases S:j<z2.length
    case pos=>
     obtain⟨bb,bd,rfl,q1,q2,q3,q4⟩:=JX be.out (ac▸aq.out.trans (I.below (by omega) (by omega))) S;have Z:=o.set (24+j) (qp z2 j);rw[jI S (by have:=V.out;have:=U.out;omega)]at Z;have ad:=hid Z;have D:(Qn (Qn E 16 z1) 24 (z2.take j)).length=32:=by rw[Qq (by rw[List.length_take];have:=V.out;have:=J.out;have:=U.out;omega)];exact V.out
     have co:=o.cell (i:=24+j) (by rw[D];have:=J.out;have:=U.out;omega);have fo:=frozen_of_row wr g (24+j) _ _ o;generalize qp (Qn (Qn E 16 z1) 24 (z2.take j)) (24+j)=zo at co;generalize qp z2 j=zj at*;have aY:(j:Int)<8:=by have:=J.out;have:=U.out;omega
     clear Z D o I;go_wp2
     exact⟨⟨j+1,rfl,by omega,ad.out,Y.out.set _ _⟩,by simp[intOf];omega⟩
    obtain rfl:j=z2.length:=by omega
    rw[List.take_length]at G;clear o I;clear hj S;go_wp2
    go_ret2
    refine⟨⟨_,rfl,?_⟩,by rw[ac];exact aq.out.trans (Y.out.below (by omega) (by omega))⟩;have au:=yv (big:=false) (v:=v) J.out U.out;refine⟨by rw[List.length_map,au];rfl,.inr ⟨g,32,_,rfl,by omega,G.out,Nat.le_refl _,by unfold maxLen;omega,?_,?_⟩⟩
    ·rw[List.size_toArray,List.length_map,←ax.out,au];rfl
    ·rw[←ax.out];exact List.take_of_length_le (by rw[List.length_map,au];decide)
theorem qj2 (b:List Int)(g n c p k:Nat)(hk:k≤8)(hp:p+k≤b.length)(V:n=b.length)(hc:n≤c)(af:n≤65535)(x:Nat)(hx:(x:Int)≤18446744073709551615)(w:World)(h:RowB w g b):
  Calls Tryz.prog 135 #[.slice (some ⟨g,0,none⟩) n c,.int .i64 p,.int .i64 k,.int .u64 x] w fun e w'=>e= .returned (.tuple #[])∧RowB w' g (Qn b p (qD x k))∧But g w w':=by
 have I:g<w.heap.size:=(Ai h).1;have Z:=hid h;have HN:=hid V;have ab:(p:Int)+k≤n:=by omega
 have aa:(n:Int)≤65535:=by omega
 clear h V;go_enter Tryz.func135,Tryz.ntmps135
 go_wp2_with fail
 go_loopw [10] (fun i wr=> ∃j:Nat,i= .int .i64 j∧j≤k∧RowB wr g (Qn b p (qD x j))∧But g w wr) (fun i _=>k - (intOf i).toNat)
 case atStart=>exact⟨0,rfl,Nat.zero_le _,by show RowB w g (Qn b p []);rw[zm];exact Z.out,But.refl _ _⟩
 case round=>
  obtain⟨j,rfl,hj,o,D⟩:=hrel;by_cases ac:j<k
  ·have X:(Qn b p (qD x j)).length=b.length:=Qq (by rw[qG];omega);have U:=o.cell (i:=p+j) (by have:=HN.out;omega);have ae:=frozen_of_row wr g (p+j) _ _ o;have ad:g<wr.heap.size:=Nat.lt_of_lt_of_le I D.size;have q:=Zm x j;have r:=o.set (p+j) (byt x j);have e:(Qn b p (qD x j)).set (p+j) (byt x j)=Qn b p (qD x (j+1)):=by
    have J:=qag (b:=b) (zs:=qD x j) (p:=p) (z:=byt x j) (by rw[qG];omega);rw[qG]at J;rw[←J,zx]
   rw[e]at r;have O:=hid r;have G:=hid D;generalize qp (Qn b p (qD x j)) (p+j)=z0 at U;have S:(j:Int)<k∧(k:Int)≤8∧0≤(j:Int)∧(p:Int)+j<n:=by omega
   obtain⟨q1,q2,q3,q4⟩:=S;clear r e X o D;go_wp2
   exact⟨⟨j+1,rfl,by omega,O.out,G.out.set _ _⟩,by simp[intOf];omega⟩
  ·obtain rfl:j=k:=by omega
   have G:=hid D;have Y:=hid o;clear D o;go_wp2
   go_end0
   exact⟨rfl,Y.out,G.out⟩
theorem qhT {big:Bool}{v:Nat→Nat}(r:ParOk big v)(I G:Value)(f:Nat)(o:1≤f)(D:f≤9)(w:World):
  Calls Tryz.prog 136 #[parN v I G,.int .i64 f] w fun e w'=>e= .returned (.int .u64 (v f))∧Below w.heap.size w w':=by
 have q:IntKind.u64.wrap ((v f:Nat):Int)=((v f:Nat):Int):=u64_wrap_id _ (by omega) (by have:=r.le f o D;omega);unfold parN parV;clear r;rcases(show f=1∨f=2∨f=3∨f=4∨f=5∨f=6∨f=7∨f=8∨f=9 by omega)with rfl|rfl|rfl|rfl|rfl|rfl|rfl|rfl|rfl
 all_goals
  clear o D;go_enter Tryz.func136,Tryz.ntmps136
  go_wp2_with fail
  go_ret
  exact⟨rfl,Br.alloc Nl _⟩
end Go.Proofs.YthjoojnlnlmljaaGreat
