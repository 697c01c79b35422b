/- The output of a hasher of words. No condition. -/
import Derived.Test.YthjoojnlnlmljaaGreatG21
import Derived.Test.YthjoojnlnlmljaaGreatG16
import Derived.Test.YthjoojnlnlmljaaGreatG20
set_option linter.all false
set_option maxRecDepth 100000
set_option maxHeartbeats 8000000
namespace Go.Proofs.YthjoojnlnlmljaaGreat
open Go.ChangeShapes Go.WideShapes Go.ChangeAt Go.RowKit Go.Joins Go.Shelf Go.Maps
open Go.Lib (hid)
attribute [local go_sem] Oper.semAt_some
theorem qhs (h0 J:List Int)(node:Bool)(hh:Words 64 8 h0)(hm: ∀z∈J,0≤z∧z≤255)(p:Nat)(hv:Value)(w:World)(hE:QT true w p hv h0 J)(aN:(J.length:Int)≤281474976710656):
  Calls Tryz.prog 258 #[.pointer (some ⟨p,0,none⟩),.bool node] w fun e w'=> ∃v,e= .returned v∧w'.ownsRow w.heap.size 5 1 v 64 ((zc true h0 J node).map qt)∧Below w.heap.size w w':=by
 have bg:p<w.heap.size:=(Ai hE.1).1;obtain⟨ac,aa⟩:=hE;have ao:=JF (YB true) J;have az:=Z3 (YB true) J;have ap:=Y5 (n:=bB true) hm;have ah:=yN true hh J (nbk (bB true) J.length);have aB:=qab (YB true) J;have ar:zc true h0 J node=qN 8 (yq true (stZ true h0 J (nbk (bB true) J.length)) (QC 128 (Q8 (bB true) J)) ((bB true*nbk (bB true) J.length+(Q8 (bB true) J).length:Nat):Int) true node) 8:=by rw[ao];unfold zc;rw[aB];rfl
 simp only[cond]at ac;rw[ar];clear ar aB hh;generalize stZ true h0 J (nbk (bB true) J.length)=H1 at*;generalize bB true*nbk (bB true) J.length=ag at*;generalize Q8 (bB true) J=Z at*;have al:Z.length≤128:=az;clear hm az;obtain⟨a1,n1,c1,rfl⟩:=qu aa;obtain rfl:n1=Z.length:=yu aa;have aJ:=Qq aa ap;obtain⟨s1,aA⟩:=Ex (ag+Z.length);have an:=qdr ag Z.length (by omega);have au:(s1:Int)<9223372036854775808:=by omega
 have bt:=hid au;rw[aA]at an⊢;have ai:=yd (n:=128) ap;have aw:=QI (n:=128) al;have av:=jn Z (.slice a1 Z.length c1) 128;obtain⟨PZ,aG⟩:=Ex (QC 128 Z);rw[aG]at ai aw av⊢;have aq:=QQ true ah PZ (s1:Nat) true node;have ay:=qd6 H1 PZ ah;obtain⟨R,Y⟩:=Ex (yq true H1 PZ (s1:Nat) true node);have af:=fun(v:Value) (W:World) (h8:Holds8 W v PZ)=>ay v s1 au true node W h8 ai aw
 rw[Y]at aq⊢;simp only[Y]at af;have aP:=hid an;have aU:=hid av;have aM:=hid af;have aI:=hid ah;have a8:=hid aq;have ad:=hid ac;have aO:=hid aJ;clear an av ay af ah aq ac aJ aa ao aA aG Y ai aw ap au aN;have bb:(Z.length:Int)≤128:=by omega
 go_enter Tryz.func258,Tryz.ntmps258
 go_upto_region 1 with(fail)
 refine Q9 (fun _ W=>Below w.heap.size w W) 15 [.v 8 (.pointer (some ⟨p,0,none⟩)),.v 9 (.pointer (some ⟨p,0,none⟩)),.v 10 (.pointer (some ⟨p,8,none⟩)),.v 11 (.agg #[.int .u64 (ag:Nat),.int .u64 0]),.v 12 (.pointer (some ⟨p,0,none⟩)),.v 13 (.pointer (some ⟨p,0,none⟩)),.v 14 (.pointer (some ⟨p,10,none⟩)),.v 15 (.slice a1 Z.length c1),.v 16 (.int .i64 (Z.length:Nat)),.v 17 (.int .u64 (Z.length:Nat)),.v 18 (.tuple #[.agg #[.int .u64 (s1:Nat),.int .u64 0],.bool false]),.v 7 (.tuple #[.agg #[.int .u64 (s1:Nat),.int .u64 0],.bool false]),.v 19 (.agg #[.int .u64 (s1:Nat),.int .u64 0]),.v 20 (.bool false),.p 5 (fun u W=> ∃O,u= .pointer (some ⟨O,0,none⟩)∧w.heap.size≤O∧ ∃c,W.heap[O]? =some (.cells c 281 (0,0))∧c.size=2),.f none [5] (fun vs W=> ∃O,vs=[.pointer (some ⟨O,0,none⟩)]∧w.heap.size≤O∧W.heap[O]? =some (.cells #[.int .u64 (s1:Nat),.int .u64 0] 281 (0,0))),.v 6 (.bool false)] (by exact⟨(fun _ _ X _ h=>by obtain⟨O,e,h3,c,h4,h5⟩:=h;exact⟨O,e,h3,c,qg h4 X,h5⟩),(fun _ _ X _ h=>by obtain⟨O,e,h3,h4⟩:=h;exact⟨O,e,h3,qg h4 X⟩),trivial⟩) Br.drew (fun _ _ _ h X=>h.trans (X.mono h.size)) ?_ ?_ ?_
 ·repeat' (with_reducible first|exact qz|refine qx ?_ ?_)
  all_goals try
   refine .inr ?_;intro A x W f G Y hf o D K I;have a0:=G.2 0 (by decide);conv at a0=>rhs;whnf
   simp only[QN,QV]at D;clear o G;first
   | go_simp
     exact I _ _ BR rfl
   | have y0:IntKind.u64.wrap (Z.length:Int)=(Z.length:Int):=u64_wrap_id _ (by omega) (by omega)
     go_simp
     exact I _ _ BR rfl
  any_goals exact .inl rfl
  all_goals refine .inr ?_
  ·intro A x W f G Y hf o _ K I;have aZ:=gw G o 2 10;clear o G;have g0:=qg ad.out Y;refine qX 281 _ rfl p 8 aZ 283 _ #[.int .u64 (ag:Nat),.int .u64 0] (0,0) _ g0 Tryz.underlying281 rfl (by kernel_rfl) (qdn _ _ _) (I _ _ Br rfl)
  ·intro A x W f G Y hf o _ K I;have bk:=gw G o 6 14;clear o G;have g0:=qg ad.out Y;have c0:W.cell? ⟨p,10,none⟩=some (.slice a1 Z.length c1):=qd g0 10;go_simp
   exact I _ _ BR rfl
  ·intro A x W f G Y hf o _ K I;have bi:=gw G o 3 11;have bm:=gw G o 9 17;clear o G;go_simp
   refine(aP.out _).mono ?_;rintro e w' ⟨rfl,X⟩;exact I _ _ X rfl
  ·intro A x W f G Y hf o _ K I;clear o G;go_simp
   exact I _ _ (Br.alloc Nl _) ⟨W.heap.size,rfl,Y.size,_,Wn W _,rfl⟩
 ·intro A x W G Y o K I;have g5:(fun u W=> ∃O,u= .pointer (some ⟨O,0,none⟩)∧w.heap.size≤O∧ ∃c,W.heap[O]? =some (.cells c 281 (0,0))∧c.size=2) (x 5) W:=o ⟨14,.data⟩ (by simp) rfl;have a5:A.tmps.getD 5 undef=x 5:=G.1 5 (by decide);have a4:=gw G o 12 19;clear o G;obtain⟨O,e5,aC,c,ax,a6⟩:=g5;refine wp_store_row 281 _ _ rfl O #[.int .u64 (s1:Nat),.int .u64 0] (a5.trans e5) a4 281 c ax (by kernel_rfl) (by rw[a6];rfl) (by simp[Value.oneCell']) ?_;have aV:Below w.heap.size w (W.setRow O #[.int .u64 (s1:Nat),.int .u64 0]):=below_setRow Y aC _;refine I _ _ (fun _=>rfl) aV ⟨.inr (fun _ h=>h),.inr (fun _ h=>h),.inr (fun _ h=>h),.inr (fun _ h=>h),.inr (fun _ h=>h),.inr (fun _ h=>h),.inr (fun _ h=>h),.inr (fun _ h=>h),.inr (fun _ h=>h),.inr (fun _ h=>h),.inr (fun _ h=>h),.inr (fun _ h=>h),.inr (fun _ h=>h),.inr (fun _ h=>h),.inr (fun u h=>?_),.inl rfl,.inr (fun _ h=>h),trivial⟩ ⟨O,by simp[e5],aC,setRow_heap _ _ _ _ _ _ ax⟩;obtain⟨q,e,q1,c',q2,q3⟩:=h;refine⟨q,e,q1,?_⟩;by_cases hq:q=O
  ·subst hq;exact⟨_,setRow_heap _ _ _ _ _ _ ax,rfl⟩
  ·exact⟨c',(setRow_other _ _ _ _ hq).trans q2,q3⟩
 intro x W Y ae;obtain⟨e5,aL, -⟩:=ae;change (fun u W=> ∃O,u= .pointer (some ⟨O,0,none⟩)∧w.heap.size≤O∧ ∃c,W.heap[O]? =some (.cells c 281 (0,0))∧c.size=2) (x 5) W at e5
 obtain⟨pc,e5,aR, -⟩:=e5;obtain⟨br,aH,aK,am⟩:=aL;simp only[List.map_cons,List.map_nil,e5,List.cons.injEq,Value.pointer.injEq,Option.some.injEq,Addr.mk.injEq,and_true]at aH;obtain rfl:=aH;simp only[QA,Act.put,Ls,e5];clear e5;have aj:=qg ad.out Y;have aE:=aO.out.below Y;have ab:=hid aj;have a3:=hid aE;have aT:=hid am;have aY:=hid Y;have a9:p<W.heap.size:=(Ai aj).1;have ba:pc<W.heap.size:=(Ai am).1;have ak:w.heap.size≤W.heap.size:=Y.size;clear aj aE am Y x aR aK;generalize W=W2 at*;go_upto_region 2 with(fail)
 refine qD (n:=26) (w0:=W2) (B:=W2.heap.size) [.v 21 (.pointer (some ⟨p,0,none⟩)),.v 22 (.pointer (some ⟨p,0,none⟩)),.v 23 (.pointer (some ⟨p,13,none⟩)),.v 24 (.func (.func 185) #[] #[]),.v 25 (.pointer (some ⟨p,0,none⟩)),.v 26 (.pointer (some ⟨p,0,none⟩)),.v 27 (.pointer (some ⟨p,12,none⟩)),.v 28 (.func (.func 184) #[] #[]),.v 29 (.pointer (some ⟨p,0,none⟩)),.v 30 (.pointer (some ⟨p,0,none⟩)),.v 31 (.pointer (some ⟨p,0,none⟩)),.v 32 (.agg (qi .u64 H1)),.v 33 (.pointer (some ⟨p,0,none⟩)),.v 34 (.pointer (some ⟨p,0,none⟩)),.v 35 (.pointer (some ⟨p,10,none⟩)),.v 36 (.slice a1 Z.length c1),.v 37 (.pointer (some ⟨p,0,none⟩)),.v 38 (.pointer (some ⟨p,0,none⟩)),.v 39 (.pointer (some ⟨p,11,none⟩)),.v 40 (.int .i64 128),.p 41 (fun u W=>W.ownsRow W2.heap.size 5 1 u 128 (PZ.map qt)),.v 42 (.agg #[.int .u64 (s1:Nat),.int .u64 0]),.v 43 (.bool node),.v 44 (.agg (qi .u64 R)),.p 45 (fun u W=>W.ownsRow W2.heap.size 5 1 u 64 ((qN 8 R 8).map qt)),.p 4 (fun u W=>W.ownsRow W2.heap.size 5 1 u 64 ((qN 8 R 8).map qt))] (by exact⟨(fun _ _ _ h X=>qk h (fun g _ hg=>X.block g hg)),(fun _ _ _ h X=>qk h (fun g _ hg=>X.block g hg)),(fun _ _ _ h X=>qk h (fun g _ hg=>X.block g hg)),trivial⟩) Br.drew Nl ?_ ?_
 ·repeat' (with_reducible first|exact qz|refine qx ?_ ?_)
  all_goals try
   intro A x W G V U o D K I;have a0:=G.2 0 (by decide);conv at a0=>rhs;whnf
   have a1:=G.2 1 (by decide);conv at a1=>rhs;whnf
   simp only[QN,QV]at D;clear o G;go_simp
   exact I _ _ BR rfl
  ·intro A x W G V U o _ K I;have bl:=gv G o 2 23;clear o G;have g0:=qg ab.out V;have c0:W.cell? ⟨p,13,none⟩=some (.func (.func 185) #[] #[]):=qd g0 13;go_simp
   exact I _ _ BR rfl
  ·intro A x W G V U o _ K I;have bf:=gv G o 6 27;clear o G;have g0:=qg ab.out V;have c0:W.cell? ⟨p,12,none⟩=some (.func (.func 184) #[] #[]):=qd g0 12;go_simp
   exact I _ _ BR rfl
  ·intro A x W G V U o _ K I;have a7:=gv G o 10 31;clear o G;have g0:=qg ab.out V;refine qX 274 _ rfl p 0 a7 283 _ (qi .u64 H1) (0,0) _ g0 Tryz.underlying274 rfl (by rw[qf,aI.out.1];kernel_rfl) (qhN aI.out _ _) (I _ _ Br rfl)
  ·intro A x W G V U o _ K I;have bd:=gv G o 14 35;clear o G;have g0:=qg ab.out V;have c0:W.cell? ⟨p,10,none⟩=some (.slice a1 Z.length c1):=qd g0 10;go_simp
   exact I _ _ BR rfl
  ·intro A x W G V U o _ K I;have bo:=gv G o 18 39;clear o G;have g0:=qg ab.out V;have c0:W.cell? ⟨p,11,none⟩=some (.int .i64 128):=qd g0 11;go_simp
   exact I _ _ BR rfl
  ·intro A x W G V U o _ K I;have bh:=gv G o 15 36;have bj:=gv G o 19 40;clear o G;go_simp
   refine(aU.out _ (a3.out.below V) al (by decide)).mono ?_;rintro e w' ⟨u,rfl,ho,X⟩;exact I _ _ X (ownsRow_le ho U)
  ·intro A x W G V U o _ K I;have a5:=G.2 5 (by decide);conv at a5=>rhs;whnf
   clear o G;have g0:=qg aT.out V;refine wp_load_row 281 _ rfl pc a5 _ _ _ _ g0 Tryz.underlying281 rfl (by kernel_rfl) (I _ _ Br rfl)
  ·intro A x W G V U o _ K I;have bc:=gv G o 7 28;have bu:=gv G o 11 32;have aQ:(fun u W=>W.ownsRow W2.heap.size 5 1 u 128 (PZ.map qt)) (x 41) W:=o ⟨20,.data⟩ (by simp) rfl _ rfl;have bq:A.tmps.getD 41 undef=x 41:=G.1 41 (by decide);have bs:=gv G o 21 42;have bp:=gv G o 22 43;clear o G;go_simp
   refine(aM.out _ _ (Q0 aQ)).mono ?_;rintro e w' ⟨rfl,X⟩;exact I _ _ X rfl
  ·intro A x W G V U o _ K I;have bn:=gv G o 3 24;have be:=gv G o 23 44;clear o G;go_simp
   refine(qfH R a8.out _).mono ?_;rintro e w' ⟨u,rfl,ho,X⟩;exact I _ _ X (ownsRow_le ho U)
  ·intro A x W G V U o _ K I;have aS:(fun u W=>W.ownsRow W2.heap.size 5 1 u 64 ((qN 8 R 8).map qt)) (x 45) W:=o ⟨24,.data⟩ (by simp) rfl _ rfl;have aW:A.tmps.getD 45 undef=x 45:=G.1 45 (by decide);clear o G;go_simp
   exact I _ _ Br (aW▸aS)
 intro x W V U ae;obtain⟨aD,aF,e4, -⟩:=ae;change (fun u W=>W.ownsRow W2.heap.size 5 1 u 128 (PZ.map qt)) (x 41) W at aD
 change (fun u W=>W.ownsRow W2.heap.size 5 1 u 64 ((qN 8 R 8).map qt)) (x 45) W at aF
 change (fun u W=>W.ownsRow W2.heap.size 5 1 u 64 ((qN 8 R 8).map qt)) (x 4) W at e4
 refine qv ?_;simp only[QA,Act.put,Ls];have aX:=aY.out.trans (V.mono ak);have E4:=hid (ownsRow_le e4 ak);clear aD aF e4 V U;go_wp2
 go_ret
 exact⟨_,rfl,E4.out,aX⟩
theorem qgB (h0 J:List Int)(node:Bool)(hh:Words 32 8 h0)(hm: ∀z∈J,0≤z∧z≤255)(p:Nat)(hv:Value)(w:World)(hE:QT false w p hv h0 J)(aN:(J.length:Int)≤281474976710656):
  Calls Tryz.prog 264 #[.pointer (some ⟨p,0,none⟩),.bool node] w fun e w'=> ∃v,e= .returned v∧w'.ownsRow w.heap.size 5 1 v 32 ((zc false h0 J node).map qt)∧Below w.heap.size w w':=by
 have bg:p<w.heap.size:=(Ai hE.1).1;obtain⟨ac,aa⟩:=hE;have ao:=JF (YB false) J;have az:=Z3 (YB false) J;have ap:=Y5 (n:=bB false) hm;have ah:=yN false hh J (nbk (bB false) J.length);have aB:=qab (YB false) J;have ar:zc false h0 J node=qN 4 (yq false (stZ false h0 J (nbk (bB false) J.length)) (QC 64 (Q8 (bB false) J)) ((bB false*nbk (bB false) J.length+(Q8 (bB false) J).length:Nat):Int) true node) 8:=by rw[ao];unfold zc;rw[aB];rfl
 simp only[cond]at ac;rw[ar];clear ar aB hh;generalize stZ false h0 J (nbk (bB false) J.length)=H1 at*;generalize bB false*nbk (bB false) J.length=ag at*;generalize Q8 (bB false) J=Z at*;have al:Z.length≤64:=az;clear hm az;obtain⟨a1,n1,c1,rfl⟩:=qu aa;obtain rfl:n1=Z.length:=yu aa;have aJ:=Qq aa ap;obtain⟨s1,aA⟩:=Ex (ag+Z.length);have an:=qdr ag Z.length (by omega);have au:(s1:Int)<9223372036854775808:=by omega
 have bt:=hid au;rw[aA]at an⊢;have ai:=yd (n:=64) ap;have aw:=QI (n:=64) al;have av:=jn Z (.slice a1 Z.length c1) 64;obtain⟨PZ,aG⟩:=Ex (QC 64 Z);rw[aG]at ai aw av⊢;have aq:=QQ false ah PZ (s1:Nat) true node;have ay:=qct H1 PZ ah;obtain⟨R,Y⟩:=Ex (yq false H1 PZ (s1:Nat) true node);have af:=fun(v:Value) (W:World) (h8:Holds8 W v PZ)=>ay v s1 au true node W h8 ai aw
 rw[Y]at aq⊢;simp only[Y]at af;have aP:=hid an;have aU:=hid av;have aM:=hid af;have aI:=hid ah;have a8:=hid aq;have ad:=hid ac;have aO:=hid aJ;clear an av ay af ah aq ac aJ aa ao aA aG Y ai aw ap au aN;have bb:(Z.length:Int)≤64:=by omega
 go_enter Tryz.func264,Tryz.ntmps264
 go_upto_region 1 with(fail)
 refine Q9 (fun _ W=>Below w.heap.size w W) 15 [.v 8 (.pointer (some ⟨p,0,none⟩)),.v 9 (.pointer (some ⟨p,0,none⟩)),.v 10 (.pointer (some ⟨p,8,none⟩)),.v 11 (.agg #[.int .u64 (ag:Nat),.int .u64 0]),.v 12 (.pointer (some ⟨p,0,none⟩)),.v 13 (.pointer (some ⟨p,0,none⟩)),.v 14 (.pointer (some ⟨p,10,none⟩)),.v 15 (.slice a1 Z.length c1),.v 16 (.int .i64 (Z.length:Nat)),.v 17 (.int .u64 (Z.length:Nat)),.v 18 (.tuple #[.agg #[.int .u64 (s1:Nat),.int .u64 0],.bool false]),.v 7 (.tuple #[.agg #[.int .u64 (s1:Nat),.int .u64 0],.bool false]),.v 19 (.agg #[.int .u64 (s1:Nat),.int .u64 0]),.v 20 (.bool false),.p 5 (fun u W=> ∃O,u= .pointer (some ⟨O,0,none⟩)∧w.heap.size≤O∧ ∃c,W.heap[O]? =some (.cells c 281 (0,0))∧c.size=2),.f none [5] (fun vs W=> ∃O,vs=[.pointer (some ⟨O,0,none⟩)]∧w.heap.size≤O∧W.heap[O]? =some (.cells #[.int .u64 (s1:Nat),.int .u64 0] 281 (0,0))),.v 6 (.bool false)] (by exact⟨(fun _ _ X _ h=>by obtain⟨O,e,h3,c,h4,h5⟩:=h;exact⟨O,e,h3,c,qg h4 X,h5⟩),(fun _ _ X _ h=>by obtain⟨O,e,h3,h4⟩:=h;exact⟨O,e,h3,qg h4 X⟩),trivial⟩) Br.drew (fun _ _ _ h X=>h.trans (X.mono h.size)) ?_ ?_ ?_
 ·repeat' (with_reducible first|exact qz|refine qx ?_ ?_)
  all_goals try
   refine .inr ?_;intro A x W f G Y hf o D K I;have a0:=G.2 0 (by decide);conv at a0=>rhs;whnf
   simp only[QN,QV]at D;clear o G;first
   | go_simp
     exact I _ _ BR rfl
   | have y0:IntKind.u64.wrap (Z.length:Int)=(Z.length:Int):=u64_wrap_id _ (by omega) (by omega)
     go_simp
     exact I _ _ BR rfl
  any_goals exact .inl rfl
  all_goals refine .inr ?_
  ·intro A x W f G Y hf o _ K I;have aZ:=gw G o 2 10;clear o G;have g0:=qg ad.out Y;refine qX 281 _ rfl p 8 aZ 291 _ #[.int .u64 (ag:Nat),.int .u64 0] (0,0) _ g0 Tryz.underlying281 rfl (by kernel_rfl) (qdm _ _ _) (I _ _ Br rfl)
  ·intro A x W f G Y hf o _ K I;have bk:=gw G o 6 14;clear o G;have g0:=qg ad.out Y;have c0:W.cell? ⟨p,10,none⟩=some (.slice a1 Z.length c1):=qd g0 10;go_simp
   exact I _ _ BR rfl
  ·intro A x W f G Y hf o _ K I;have bi:=gw G o 3 11;have bm:=gw G o 9 17;clear o G;go_simp
   refine(aP.out _).mono ?_;rintro e w' ⟨rfl,X⟩;exact I _ _ X rfl
  ·intro A x W f G Y hf o _ K I;clear o G;go_simp
   exact I _ _ (Br.alloc Nl _) ⟨W.heap.size,rfl,Y.size,_,Wn W _,rfl⟩
 ·intro A x W G Y o K I;have g5:(fun u W=> ∃O,u= .pointer (some ⟨O,0,none⟩)∧w.heap.size≤O∧ ∃c,W.heap[O]? =some (.cells c 281 (0,0))∧c.size=2) (x 5) W:=o ⟨14,.data⟩ (by simp) rfl;have a5:A.tmps.getD 5 undef=x 5:=G.1 5 (by decide);have a4:=gw G o 12 19;clear o G;obtain⟨O,e5,aC,c,ax,a6⟩:=g5;refine wp_store_row 281 _ _ rfl O #[.int .u64 (s1:Nat),.int .u64 0] (a5.trans e5) a4 281 c ax (by kernel_rfl) (by rw[a6];rfl) (by simp[Value.oneCell']) ?_;have aV:Below w.heap.size w (W.setRow O #[.int .u64 (s1:Nat),.int .u64 0]):=below_setRow Y aC _;refine I _ _ (fun _=>rfl) aV ⟨.inr (fun _ h=>h),.inr (fun _ h=>h),.inr (fun _ h=>h),.inr (fun _ h=>h),.inr (fun _ h=>h),.inr (fun _ h=>h),.inr (fun _ h=>h),.inr (fun _ h=>h),.inr (fun _ h=>h),.inr (fun _ h=>h),.inr (fun _ h=>h),.inr (fun _ h=>h),.inr (fun _ h=>h),.inr (fun _ h=>h),.inr (fun u h=>?_),.inl rfl,.inr (fun _ h=>h),trivial⟩ ⟨O,by simp[e5],aC,setRow_heap _ _ _ _ _ _ ax⟩;obtain⟨q,e,q1,c',q2,q3⟩:=h;refine⟨q,e,q1,?_⟩;by_cases hq:q=O
  ·subst hq;exact⟨_,setRow_heap _ _ _ _ _ _ ax,rfl⟩
  ·exact⟨c',(setRow_other _ _ _ _ hq).trans q2,q3⟩
 intro x W Y ae;obtain⟨e5,aL, -⟩:=ae;change (fun u W=> ∃O,u= .pointer (some ⟨O,0,none⟩)∧w.heap.size≤O∧ ∃c,W.heap[O]? =some (.cells c 281 (0,0))∧c.size=2) (x 5) W at e5
 obtain⟨pc,e5,aR, -⟩:=e5;obtain⟨br,aH,aK,am⟩:=aL;simp only[List.map_cons,List.map_nil,e5,List.cons.injEq,Value.pointer.injEq,Option.some.injEq,Addr.mk.injEq,and_true]at aH;obtain rfl:=aH;simp only[QA,Act.put,Ls,e5];clear e5;have aj:=qg ad.out Y;have aE:=aO.out.below Y;have ab:=hid aj;have a3:=hid aE;have aT:=hid am;have aY:=hid Y;have a9:p<W.heap.size:=(Ai aj).1;have ba:pc<W.heap.size:=(Ai am).1;have ak:w.heap.size≤W.heap.size:=Y.size;clear aj aE am Y x aR aK;generalize W=W2 at*;go_upto_region 2 with(fail)
 refine qD (n:=26) (w0:=W2) (B:=W2.heap.size) [.v 21 (.pointer (some ⟨p,0,none⟩)),.v 22 (.pointer (some ⟨p,0,none⟩)),.v 23 (.pointer (some ⟨p,13,none⟩)),.v 24 (.func (.func 188) #[] #[]),.v 25 (.pointer (some ⟨p,0,none⟩)),.v 26 (.pointer (some ⟨p,0,none⟩)),.v 27 (.pointer (some ⟨p,12,none⟩)),.v 28 (.func (.func 187) #[] #[]),.v 29 (.pointer (some ⟨p,0,none⟩)),.v 30 (.pointer (some ⟨p,0,none⟩)),.v 31 (.pointer (some ⟨p,0,none⟩)),.v 32 (.agg (qi .u32 H1)),.v 33 (.pointer (some ⟨p,0,none⟩)),.v 34 (.pointer (some ⟨p,0,none⟩)),.v 35 (.pointer (some ⟨p,10,none⟩)),.v 36 (.slice a1 Z.length c1),.v 37 (.pointer (some ⟨p,0,none⟩)),.v 38 (.pointer (some ⟨p,0,none⟩)),.v 39 (.pointer (some ⟨p,11,none⟩)),.v 40 (.int .i64 64),.p 41 (fun u W=>W.ownsRow W2.heap.size 5 1 u 64 (PZ.map qt)),.v 42 (.agg #[.int .u64 (s1:Nat),.int .u64 0]),.v 43 (.bool node),.v 44 (.agg (qi .u32 R)),.p 45 (fun u W=>W.ownsRow W2.heap.size 5 1 u 32 ((qN 4 R 8).map qt)),.p 4 (fun u W=>W.ownsRow W2.heap.size 5 1 u 32 ((qN 4 R 8).map qt))] (by exact⟨(fun _ _ _ h X=>qk h (fun g _ hg=>X.block g hg)),(fun _ _ _ h X=>qk h (fun g _ hg=>X.block g hg)),(fun _ _ _ h X=>qk h (fun g _ hg=>X.block g hg)),trivial⟩) Br.drew Nl ?_ ?_
 ·repeat' (with_reducible first|exact qz|refine qx ?_ ?_)
  all_goals try
   intro A x W G V U o D K I;have a0:=G.2 0 (by decide);conv at a0=>rhs;whnf
   have a1:=G.2 1 (by decide);conv at a1=>rhs;whnf
   simp only[QN,QV]at D;clear o G;go_simp
   exact I _ _ BR rfl
  ·intro A x W G V U o _ K I;have bl:=gv G o 2 23;clear o G;have g0:=qg ab.out V;have c0:W.cell? ⟨p,13,none⟩=some (.func (.func 188) #[] #[]):=qd g0 13;go_simp
   exact I _ _ BR rfl
  ·intro A x W G V U o _ K I;have bf:=gv G o 6 27;clear o G;have g0:=qg ab.out V;have c0:W.cell? ⟨p,12,none⟩=some (.func (.func 187) #[] #[]):=qd g0 12;go_simp
   exact I _ _ BR rfl
  ·intro A x W G V U o _ K I;have a7:=gv G o 10 31;clear o G;have g0:=qg ab.out V;refine qX 284 _ rfl p 0 a7 291 _ (qi .u32 H1) (0,0) _ g0 Tryz.underlying284 rfl (by rw[qf,aI.out.1];kernel_rfl) (qhM aI.out _ _) (I _ _ Br rfl)
  ·intro A x W G V U o _ K I;have bd:=gv G o 14 35;clear o G;have g0:=qg ab.out V;have c0:W.cell? ⟨p,10,none⟩=some (.slice a1 Z.length c1):=qd g0 10;go_simp
   exact I _ _ BR rfl
  ·intro A x W G V U o _ K I;have bo:=gv G o 18 39;clear o G;have g0:=qg ab.out V;have c0:W.cell? ⟨p,11,none⟩=some (.int .i64 64):=qd g0 11;go_simp
   exact I _ _ BR rfl
  ·intro A x W G V U o _ K I;have bh:=gv G o 15 36;have bj:=gv G o 19 40;clear o G;go_simp
   refine(aU.out _ (a3.out.below V) al (by decide)).mono ?_;rintro e w' ⟨u,rfl,ho,X⟩;exact I _ _ X (ownsRow_le ho U)
  ·intro A x W G V U o _ K I;have a5:=G.2 5 (by decide);conv at a5=>rhs;whnf
   clear o G;have g0:=qg aT.out V;refine wp_load_row 281 _ rfl pc a5 _ _ _ _ g0 Tryz.underlying281 rfl (by kernel_rfl) (I _ _ Br rfl)
  ·intro A x W G V U o _ K I;have bc:=gv G o 7 28;have bu:=gv G o 11 32;have aQ:(fun u W=>W.ownsRow W2.heap.size 5 1 u 64 (PZ.map qt)) (x 41) W:=o ⟨20,.data⟩ (by simp) rfl _ rfl;have bq:A.tmps.getD 41 undef=x 41:=G.1 41 (by decide);have bs:=gv G o 21 42;have bp:=gv G o 22 43;clear o G;go_simp
   refine(aM.out _ _ (Q0 aQ)).mono ?_;rintro e w' ⟨rfl,X⟩;exact I _ _ X rfl
  ·intro A x W G V U o _ K I;have bn:=gv G o 3 24;have be:=gv G o 23 44;clear o G;go_simp
   refine(qfI R a8.out _).mono ?_;rintro e w' ⟨u,rfl,ho,X⟩;exact I _ _ X (ownsRow_le ho U)
  ·intro A x W G V U o _ K I;have aS:(fun u W=>W.ownsRow W2.heap.size 5 1 u 32 ((qN 4 R 8).map qt)) (x 45) W:=o ⟨24,.data⟩ (by simp) rfl _ rfl;have aW:A.tmps.getD 45 undef=x 45:=G.1 45 (by decide);clear o G;go_simp
   exact I _ _ Br (aW▸aS)
 intro x W V U ae;obtain⟨aD,aF,e4, -⟩:=ae;change (fun u W=>W.ownsRow W2.heap.size 5 1 u 64 (PZ.map qt)) (x 41) W at aD
 change (fun u W=>W.ownsRow W2.heap.size 5 1 u 32 ((qN 4 R 8).map qt)) (x 45) W at aF
 change (fun u W=>W.ownsRow W2.heap.size 5 1 u 32 ((qN 4 R 8).map qt)) (x 4) W at e4
 refine qv ?_;simp only[QA,Act.put,Ls];have aX:=aY.out.trans (V.mono ak);have E4:=hid (ownsRow_le e4 ak);clear aD aF e4 V U;go_wp2
 go_ret
 exact⟨_,rfl,E4.out,aX⟩
def ye (kind dg:Int)(bv kv:Value)(last:Bool)(wr:Int)(e:Value):Array Value:= #[.int .i64 kind,.int .i64 dg,bv,kv,.bool last,.int .u64 wr,e]
def phT (big:Bool):TypeId:=cond big 277 287
theorem Hold.of_len {w:World}{a:Option Addr}{n c:Nat}{zs:List Int}(h:Hold w (.slice a n c) zs):n=zs.length:=by
 obtain⟨q,o,e, -⟩:=h.slice;simp only[Value.slice.injEq]at e;exact e.2.1
theorem Yx {w:World}{v:Value}{zs:List Int}{b:Nat}(h:Hold w v zs)(o:zs≠[])(D:v.ownBlock=some b):b<w.heap.size:=by
 rcases h.2 with⟨G, -⟩|⟨J,I,rfl, -, -,q⟩
 ·exact absurd G o
 ·obtain⟨b',off,rfl,q, -⟩:=q.resolve_left o;simp only[Value.ownBlock,Option.some.injEq]at D;subst D;exact q
theorem qhy {W:World}{q:Nat}{o D:Int}{J G:Value}{I:Bool}{wr:Int}{e v:Value}{T:TypeId}(h:W.heap[q]? =some (.cells (ye o D J G I wr e) T (0,0))):(W.setCell ⟨q,6,none⟩ v).heap[q]? =some (.cells (ye o D J G I wr v) T (0,0)):=heap_setCell_same W q 6 _ _ v h
theorem jr {W:World}{q:Nat}{o D:Int}{I G:Value}{J b:Bool}{wr:Int}{e:Value}{T:TypeId}(h:W.heap[q]? =some (.cells (ye o D I G J wr e) T (0,0))):(W.setCell ⟨q,4,none⟩ (.bool b)).heap[q]? =some (.cells (ye o D I G b wr e) T (0,0)):=heap_setCell_same W q 4 _ _ _ h
theorem qfW {W:World}{q:Nat}{o D:Int}{J G:Value}{I:Bool}{wr x:Int}{e:Value}{T:TypeId}(h:W.heap[q]? =some (.cells (ye o D J G I wr e) T (0,0))):(W.setCell ⟨q,5,none⟩ (.int .u64 x)).heap[q]? =some (.cells (ye o D J G I x e) T (0,0)):=heap_setCell_same W q 5 _ _ _ h
theorem qaY {big:Bool}{W:World}{p:Nat}{o:List Int}(h:W.heap[p]? =some (.cells (cond big zg zf o 0 (.slice none 0 0)) (cond big 283 291) (0,0))):QT big W p (.slice none 0 0) o []:=by
 have e:Q8 (bB big) []=[]:=by simp[Q8]
 refine⟨?_,by rw[e];exact Wo _ _ _ _⟩;simpa [qd5,stZ] using h
theorem yD {big:Bool}{W W':World}{p:Nat}{D:Value}{G o:List Int}(h:QT big W p D G o)(q:Below W.heap.size W W'):QT big W' p D G o:=
 ⟨qg h.1 q,qk h.2 (fun g _ I=>q.block g I)⟩
theorem qbp {W:World}{B n b:Nat}{e:TypeId}{v:Value}{q:List Value}(h:W.ownsRow B e 1 v n q)(o:v.ownBlock=some b):B≤b:=by
 rcases h.2 with⟨rfl, -⟩|⟨g,D,G,rfl,I, -⟩
 ·cases o
 ·simp only[Value.ownBlock,Option.some.injEq]at o;omega
theorem Yj {P:Program}{o:Oper}{a:Act}{K:Act→World→Prop}{Q:Exit→Act→World→Prop}{n:Nat}{T:TypeId}{x:Value}{q:String}{W:World}{f:FuncId}{g:FuncId×Value→World→Result Next}(D:(method n T x q).run P W= .ok (f,x) W)(h:Oper.upon P o a K Q (g (f,x) W)):Oper.upon P o a K Q (((method n T x q).run P W).andThen g):=by
 rw[D];exact h
theorem qfL (bs kz:List Int)(q:Nat)(dg wr:Int)(la:Bool)(bv kv e0:Value)(w:World)(ai:w.heap[q]? =some (.cells (ye 1 dg bv kv la wr e0) 179 (0,0)))(hB:Hold w bv bs)(I:Hold w kv kz)(hl:bs.length=64)(aU:kz.length≤64)(aq:kv.ownBlock≠some q):
  Calls Tryz.prog 132 #[.pointer (some ⟨q,0,none⟩)] w fun e w'=>e= .returned (.tuple #[])∧(∃p hv,w.heap.size≤p∧w'.heap[q]? =some (.cells (ye 1 dg bv kv false 0 (.iface 277 (.pointer (some ⟨p,0,none⟩)))) 179 (0,0))∧QT true w' p hv (h0Z true bs) (yk 128 kz)∧(∀g,hv.ownBlock=some g→w.heap.size≤g))∧Spare (fun k=>k≠q) w w':=by
 have aX:q<w.heap.size:=(Ai ai).1;obtain⟨kn,kc,ka,rfl⟩: ∃n c a,kv= .slice a n c:=by obtain⟨a,c,e, -⟩:=I.slice;exact⟨_,_,_,e⟩
 obtain rfl:kn=kz.length:=I.of_len;have aj:=hid ai;have HB:=hid hB;have HK:=hid I;have HL:=hid hl;have aJ:=hid aq;clear ai hB I hl aq;go_enter Tryz.func132,Tryz.ntmps132
 go_upto_region 0 with(fail)
 refine qD (n:=10) (w0:=w) (B:=w.heap.size) [.v 2 (.pointer (some ⟨q,0,none⟩)),.v 3 (.pointer (some ⟨q,0,none⟩)),.v 4 (.pointer (some ⟨q,0,none⟩)),.v 5 (.pointer (some ⟨q,0,none⟩)),.v 6 (.int .i64 1),.v 7 (.pointer (some ⟨q,0,none⟩)),.v 8 (.pointer (some ⟨q,0,none⟩)),.v 9 (.pointer (some ⟨q,2,none⟩)),.v 10 bv,.p 11 (fun u W=> ∃p,u= .iface 277 (.pointer (some ⟨p,0,none⟩))∧w.heap.size≤p∧W.heap[p]? =some (.cells (zg (h0Z true bs) 0 (.slice none 0 0)) 283 (0,0)))] (by exact⟨(fun _ _ _ h U=>by obtain⟨p,e,h3,h4⟩:=h;exact⟨p,e,h3,qg h4 U⟩),trivial⟩) Br.drew Nl ?_ ?_
 ·repeat' (with_reducible first|exact qz|refine qx ?_ ?_)
  all_goals try
   intro A x W G hW ac o D K I;have a0:=G.2 0 (by decide);conv at a0=>rhs;whnf
   simp only[QN,QV]at D;clear o G;go_simp
   exact I _ _ BR rfl
  ·intro A x W G hW ac o _ K I;have g5:=gv G o 3 5;clear o G;have g0:=qg aj.out hW;have c0:W.cell? ⟨q,0,none⟩=some (.int .i64 1):=qd g0 0;go_simp
   exact I _ _ BR rfl
  ·intro A x W G hW ac o _ K I;have g9:=gv G o 7 9;clear o G;have g0:=qg aj.out hW;have c0:W.cell? ⟨q,2,none⟩=some bv:=qd g0 2;go_simp
   exact I _ _ BR rfl
  ·intro A x W G hW ac o _ K I;have g6:=gv G o 4 6;have a5:=gv G o 8 10;clear o G;go_simp
   refine(qfK bs bv _ (HB.out.holds8.mono_below hW Nl) HB.out.1 HL.out).mono ?_;rintro e w' ⟨p,rfl,h1,h2,U⟩;exact I _ _ U ⟨p,rfl,Nat.le_trans ac h1,h2⟩
 intro x W hW ac ak;obtain⟨af, -⟩:=ak;change (fun u W=> ∃p,u= .iface 277 (.pointer (some ⟨p,0,none⟩))∧w.heap.size≤p∧W.heap[p]? =some (.cells (zg (h0Z true bs) 0 (.slice none 0 0)) 283 (0,0))) (x 11) W at af
 obtain⟨p,af,av,aC⟩:=af;refine qp ?_;simp only[QA,Act.put,Ls,af];clear af;have ae:=qg aj.out hW;have ar:=hid aC;have ax:=hid ae;have HW:=hid hW;have aE:q<W.heap.size:=(Ai ae).1;have c6:W.cell? ⟨q,6,none⟩=some e0:=qd ae 6;have f6:=frozen_of_row W q 6 _ _ ae;clear aC ae hW ac x;go_wp2_with fail
 refine qp ?_;go_wp2_with fail
 refine qp ?_;go_wp2_with fail
 refine qv ?_;have O:=qhy (v:= .iface 277 (.pointer (some ⟨p,0,none⟩))) ax.out;have Z:Spare (fun k=>k≠q) w (W.setCell ⟨q,6,none⟩ (.iface 277 (.pointer (some ⟨p,0,none⟩)))):=(Spare.of_below _ HW.out).trans (Spare.of_but ((But.refl q W).set 6 _)) (fun _ _ h=>h);have Y:(W.setCell ⟨q,6,none⟩ (.iface 277 (.pointer (some ⟨p,0,none⟩)))).heap[p]? =some (.cells (zg (h0Z true bs) 0 (.slice none 0 0)) 283 (0,0)):=(heap_setCell_other W _ _ _ (by show p≠q;omega)).trans ar.out;generalize W.setCell ⟨q,6,none⟩ (.iface 277 (.pointer (some ⟨p,0,none⟩)))=J at*;clear HW ax ar c6 f6 aE W;have c4:J.cell? ⟨q,4,none⟩=some (.bool la):=qd O 4;have f4:=frozen_of_row J q 4 _ _ O;have ad:q<J.heap.size:=(Ai O).1;have ab:=hid O;have X:=hid Z;have aa:=hid Y;clear O Z Y;go_upto_region 2 with(fail)
 have O:=jr (b:=false) ab.out;have Z:Spare (fun k=>k≠q) w (J.setCell ⟨q,4,none⟩ (.bool false)):=X.out.trans (Spare.of_but ((But.refl q J).set 4 _)) (fun _ _ h=>h);have Y:(J.setCell ⟨q,4,none⟩ (.bool false)).heap[p]? =some (.cells (zg (h0Z true bs) 0 (.slice none 0 0)) 283 (0,0)):=(heap_setCell_other J _ _ _ (by show p≠q;omega)).trans aa.out;generalize J.setCell ⟨q,4,none⟩ (.bool false)=A1 at*;clear X ab aa c4 f4 ad J;obtain⟨J,rfl⟩:=Ex A1;have ab:=hid O;have X:=hid Z;have aa:=hid Y;have ad:q<A1.heap.size:=(Ai O).1;have c5:A1.cell? ⟨q,5,none⟩=some (.int .u64 wr):=qd O 5;have f5:=frozen_of_row A1 q 5 _ _ O;clear O Z Y;go_upto_region 3 with(fail)
 have O:=qfW (x:=0) ab.out;have Z:Spare (fun k=>k≠q) w (A1.setCell ⟨q,5,none⟩ (.int .u64 0)):=X.out.trans (Spare.of_but ((But.refl q A1).set 5 _)) (fun _ _ h=>h);have Y:(A1.setCell ⟨q,5,none⟩ (.int .u64 0)).heap[p]? =some (.cells (zg (h0Z true bs) 0 (.slice none 0 0)) 283 (0,0)):=(heap_setCell_other A1 _ _ _ (by show p≠q;omega)).trans aa.out;have aP:w.heap.size≤(A1.setCell ⟨q,5,none⟩ (.int .u64 0)).heap.size:=Z.size;generalize A1.setCell ⟨q,5,none⟩ (.int .u64 0)=J at*;clear X ab aa c5 f5 ad A1;have c3:J.cell? ⟨q,3,none⟩=some (.slice ka kz.length kc):=qd O 3;have ad:q<J.heap.size:=(Ai O).1;have aR:p<J.heap.size:=(Ai Y).1;have ab:=hid O;have X:=hid Z;have aa:=hid Y;clear O Z Y;by_cases am:kz.length=0
 case pos=>
  obtain rfl:kz=[]:=List.eq_nil_of_length_eq_zero am;go_wp2
  go_end0
  exact⟨rfl,⟨p,.slice none 0 0,av,ab.out,qaY aa.out,fun g h=>by cases h⟩,X.out⟩
 have aw:0<kz.length:=by omega
 have aZ:(kz.length:Int)≤64:=by omega
 go_upto_region 4 with(fail)
 have aA:Hold J (.slice ka kz.length kc) kz:=HK.out.keep X.out.size fun b U al=>X.out.block b al (fun e=>aJ.out (by rw[U,e]))
 have aG:=hid aA;have ap:=QI (n:=128) (zs:=kz) (by omega);have aI:=hid ap;have aH:=hid am;clear aA ap am c3;have aK:(Value.slice ka kz.length kc).ownBlock≠some p:=fun e=>by have:=Yx HK.out (fun e=>by rw[e]at aw;simp at aw) e;omega
 refine Q9 (fun f W=>W.heap[q]? =some (.cells (ye 1 dg bv (.slice ka kz.length kc) false 0 (.iface 277 (.pointer (some ⟨p,0,none⟩)))) 179 (0,0))∧(f=false→Below J.heap.size J W)∧(J.heap.size≤W.heap.size∧(∀b,b<J.heap.size→b≠p→W.heap[b]? =J.heap[b]?))∧(f=true→Spare (fun k=>k≠p) J W∧ ∃hv,QT true W p hv (h0Z true bs) (QC 128 kz)∧ ∀g,hv.ownBlock=some g→J.heap.size≤g)) 16 [.v 26 (.pointer (some ⟨q,0,none⟩)),.v 27 (.pointer (some ⟨q,0,none⟩)),.v 28 (.pointer (some ⟨q,6,none⟩)),.v 29 (.iface 277 (.pointer (some ⟨p,0,none⟩))),.v 30 (.pointer (some ⟨q,0,none⟩)),.v 31 (.pointer (some ⟨q,0,none⟩)),.v 32 (.pointer (some ⟨q,3,none⟩)),.v 33 (.slice ka kz.length kc),.v 34 (.pointer (some ⟨q,0,none⟩)),.v 35 (.pointer (some ⟨q,0,none⟩)),.v 36 (.pointer (some ⟨q,0,none⟩)),.v 37 (.int .i64 1),.v 38 (.int .i64 128),.p 39 (fun u W=>W.ownsRow J.heap.size 5 1 u 128 ((QC 128 kz).map qt)),.v 40 (.iface 277 (.pointer (some ⟨p,0,none⟩))),.v 41 (.iface 277 (.pointer (some ⟨p,0,none⟩))),.p 42 (fun _ _=>True)] (by exact⟨(fun _ _ U _ h=>qk h (fun g _ hg=>U.block g hg)),kW,trivial⟩) ⟨ab.out,fun _=>Br.drew,⟨Nat.le_refl _,fun _ _ _=>rfl⟩,fun h=>(by cases h)⟩ (fun f W W' h U=>⟨qg h.1 U,fun e=>(h.2.1 e).trans (U.mono (h.2.1 e).size),⟨Nat.le_trans h.2.2.1.1 U.size,fun b h1 h2=>(U.block b (Nat.lt_of_lt_of_le h1 h.2.2.1.1)).trans (h.2.2.1.2 b h1 h2)⟩,fun e=>by obtain⟨h1,hv,h2,h3⟩:=h.2.2.2 e;exact⟨h1.trans (Spare.of_below _ U) (fun _ _ h=>h),hv,yD h2 U,h3⟩⟩) ?_ ?_ ?_
 ·repeat' (with_reducible first|exact qz|refine qx ?_ ?_)
  all_goals try
   refine .inr ?_;intro A x W f G V hf o D K I;have a0:=G.2 0 (by decide);conv at a0=>rhs;whnf
   simp only[QN,QV]at D;clear o G;go_simp
   exact I _ _ BR rfl
  any_goals exact .inl rfl
  all_goals refine .inr ?_
  ·intro A x W f G V hf o _ K I;have aT:=gw G o 2 28;clear o G;have g0:=V.1;have c0:W.cell? ⟨q,6,none⟩=some (.iface 277 (.pointer (some ⟨p,0,none⟩))):=qd g0 6;go_simp
   exact I _ _ BR rfl
  ·intro A x W f G V hf o _ K I;have a6:=gw G o 6 32;clear o G;have g0:=V.1;have c0:W.cell? ⟨q,3,none⟩=some (.slice ka kz.length kc):=qd g0 3;go_simp
   exact I _ _ BR rfl
  ·intro A x W f G V hf o _ K I;have aY:=gw G o 10 36;clear o G;have g0:=V.1;have c0:W.cell? ⟨q,0,none⟩=some (.int .i64 1):=qd g0 0;go_simp
   exact I _ _ BR rfl
  ·intro A x W f G V hf o _ K I;have a4:=gw G o 11 37;clear o G;go_simp
   refine(Zp true _).mono ?_;rintro e w' ⟨rfl,hw⟩;exact I _ _ (by rw[hw];exact Below.refl _ _) rfl
  ·intro A x W f G V hf o _ K I;have aW:=gw G o 7 33;have a3:=gw G o 12 38;clear o G;go_simp
   have aN:Hold W (.slice ka kz.length kc) kz:=aG.out.keep V.2.2.1.1 (fun b U al=>V.2.2.1.2 b al (fun e=>aK (by rw[U,e])));refine(jn kz _ 128 _ aN (by omega) (by decide)).mono ?_;rintro e w' ⟨u,rfl,ho,U⟩;exact I _ _ U (ownsRow_le ho V.2.2.1.1)
 ·intro A x W G V o K I;have aS:=gw G o 15 41;have ay:(fun u W=>W.ownsRow J.heap.size 5 1 u 128 ((QC 128 kz).map qt)) (x 39) W:=o ⟨13,.data⟩ (by simp) rfl;have aV:A.tmps.getD 39 undef=x 39:=G.1 39 (by decide);clear o G;have hB:=V.2.1 rfl;go_simp
  refine Yj (f:=260) (by kernel_rfl) ?_;go_simp
  have aF:=yd (n:=128) HK.out.1;have aD:Hold W (x 39) (QC 128 kz):=Qq ay aF;refine(qa1 (h0Z true bs) [] (QC 128 kz) (QS true bs) (fun _ h=>by cases h) p (.slice none 0 0) (x 39) W (qaY (qg aa.out hB)) aD (fun _ b U=>⟨fun e=>by have:=qbp ay U;omega,fun e=>by cases e⟩) (by rw[aI.out];simp)).mono ?_;rintro e w' ⟨rfl,⟨aQ,aM,ag⟩,ah⟩
  refine I _ _ (fun h=>by cases h) ⟨(ah.block q (Ai V.1).1 ⟨by omega,fun e=>by cases e⟩).trans V.1,fun h=>(by cases h),⟨Nat.le_trans V.2.2.1.1 ah.size,fun b h1 h2=>(ah.block b (Nat.lt_of_lt_of_le h1 V.2.2.1.1) ⟨h2,fun e=>by cases e⟩).trans (V.2.2.1.2 b h1 h2)⟩,fun _=>⟨(Spare.of_below _ hB).trans ah (fun b _ h=>⟨h,fun e=>by cases e⟩),aQ,aM,fun g hg=>?_⟩⟩ ⟨.inr (fun _ h=>h),.inr (fun _ h=>h),.inr (fun _ h=>h),.inr (fun _ h=>h),.inr (fun _ h=>h),.inr (fun _ h=>h),.inr (fun _ h=>h),.inr (fun _ h=>h),.inr (fun _ h=>h),.inr (fun _ h=>h),.inr (fun _ h=>h),.inr (fun _ h=>h),.inr (fun _ h=>h),.inr (fun u h=>qk h (fun g h1 h2=>ah.block g h2 ⟨by omega,fun e=>by cases e⟩)),.inr (fun _ h=>h),.inr (fun _ h=>h),.inl rfl,trivial⟩ trivial;rcases ag with ag|ag
  ·rw[ag]at hg;cases hg
  ·have:=ag g hg;have:=hB.size;omega
 intro x W V ak;obtain⟨an,aL, -⟩:=ak;change (fun u W=>W.ownsRow J.heap.size 5 1 u 128 ((QC 128 kz).map qt)) (x 39) W at an
 change ((fun _ _=>True)) (x 42) W at aL
 simp only[QA,Act.put,Ls];obtain⟨ao, -, -,h9⟩:=V;obtain⟨aB,aO,au,az⟩:=h9 rfl;have H9:=hid (show(∃p hv,w.heap.size≤p∧W.heap[q]? =some (.cells (ye 1 dg bv (.slice ka kz.length kc) false 0 (.iface 277 (.pointer (some ⟨p,0,none⟩)))) 179 (0,0))∧QT true W p hv (h0Z true bs) (yk 128 kz)∧(∀g,hv.ownBlock=some g→w.heap.size≤g))∧Spare (fun k=>k≠q) w W from⟨⟨p,aO,av,ao,by unfold yk;rw[if_neg aH.out];exact au,fun g hg=>Nat.le_trans aP (az g hg)⟩,X.out.trans aB (fun b U _=>by omega)⟩);clear ao aB au az h9 an;go_wp2
 go_end0
 exact⟨rfl,H9.out⟩
theorem qet (bs kz:List Int)(q:Nat)(dg wr:Int)(la:Bool)(bv kv e0:Value)(w:World)(ai:w.heap[q]? =some (.cells (ye 2 dg bv kv la wr e0) 179 (0,0)))(hB:Hold w bv bs)(I:Hold w kv kz)(hl:bs.length=32)(aU:kz.length≤32)(aq:kv.ownBlock≠some q):
  Calls Tryz.prog 132 #[.pointer (some ⟨q,0,none⟩)] w fun e w'=>e= .returned (.tuple #[])∧(∃p hv,w.heap.size≤p∧w'.heap[q]? =some (.cells (ye 2 dg bv kv false 0 (.iface 287 (.pointer (some ⟨p,0,none⟩)))) 179 (0,0))∧QT false w' p hv (h0Z false bs) (yk 64 kz)∧(∀g,hv.ownBlock=some g→w.heap.size≤g))∧Spare (fun k=>k≠q) w w':=by
 have aX:q<w.heap.size:=(Ai ai).1;obtain⟨kn,kc,ka,rfl⟩: ∃n c a,kv= .slice a n c:=by obtain⟨a,c,e, -⟩:=I.slice;exact⟨_,_,_,e⟩
 obtain rfl:kn=kz.length:=I.of_len;have aj:=hid ai;have HB:=hid hB;have HK:=hid I;have HL:=hid hl;have aJ:=hid aq;clear ai hB I hl aq;go_enter Tryz.func132,Tryz.ntmps132
 go_upto_region 0 with(fail)
 refine qD (n:=10) (w0:=w) (B:=w.heap.size) [.v 2 (.pointer (some ⟨q,0,none⟩)),.v 3 (.pointer (some ⟨q,0,none⟩)),.v 4 (.pointer (some ⟨q,0,none⟩)),.v 5 (.pointer (some ⟨q,0,none⟩)),.v 6 (.int .i64 2),.v 7 (.pointer (some ⟨q,0,none⟩)),.v 8 (.pointer (some ⟨q,0,none⟩)),.v 9 (.pointer (some ⟨q,2,none⟩)),.v 10 bv,.p 11 (fun u W=> ∃p,u= .iface 287 (.pointer (some ⟨p,0,none⟩))∧w.heap.size≤p∧W.heap[p]? =some (.cells (zf (h0Z false bs) 0 (.slice none 0 0)) 291 (0,0)))] (by exact⟨(fun _ _ _ h U=>by obtain⟨p,e,h3,h4⟩:=h;exact⟨p,e,h3,qg h4 U⟩),trivial⟩) Br.drew Nl ?_ ?_
 ·repeat' (with_reducible first|exact qz|refine qx ?_ ?_)
  all_goals try
   intro A x W G hW ac o D K I;have a0:=G.2 0 (by decide);conv at a0=>rhs;whnf
   simp only[QN,QV]at D;clear o G;go_simp
   exact I _ _ BR rfl
  ·intro A x W G hW ac o _ K I;have g5:=gv G o 3 5;clear o G;have g0:=qg aj.out hW;have c0:W.cell? ⟨q,0,none⟩=some (.int .i64 2):=qd g0 0;go_simp
   exact I _ _ BR rfl
  ·intro A x W G hW ac o _ K I;have g9:=gv G o 7 9;clear o G;have g0:=qg aj.out hW;have c0:W.cell? ⟨q,2,none⟩=some bv:=qd g0 2;go_simp
   exact I _ _ BR rfl
  ·intro A x W G hW ac o _ K I;have g6:=gv G o 4 6;have a5:=gv G o 8 10;clear o G;go_simp
   refine(qes bs bv _ (HB.out.holds8.mono_below hW Nl) HB.out.1 HL.out).mono ?_;rintro e w' ⟨p,rfl,h1,h2,U⟩;exact I _ _ U ⟨p,rfl,Nat.le_trans ac h1,h2⟩
 intro x W hW ac ak;obtain⟨af, -⟩:=ak;change (fun u W=> ∃p,u= .iface 287 (.pointer (some ⟨p,0,none⟩))∧w.heap.size≤p∧W.heap[p]? =some (.cells (zf (h0Z false bs) 0 (.slice none 0 0)) 291 (0,0))) (x 11) W at af
 obtain⟨p,af,av,aC⟩:=af;refine qp ?_;simp only[QA,Act.put,Ls,af];clear af;have ae:=qg aj.out hW;have ar:=hid aC;have ax:=hid ae;have HW:=hid hW;have aE:q<W.heap.size:=(Ai ae).1;have c6:W.cell? ⟨q,6,none⟩=some e0:=qd ae 6;have f6:=frozen_of_row W q 6 _ _ ae;clear aC ae hW ac x;go_wp2_with fail
 refine qp ?_;go_wp2_with fail
 refine qp ?_;go_wp2_with fail
 refine qv ?_;have O:=qhy (v:= .iface 287 (.pointer (some ⟨p,0,none⟩))) ax.out;have Z:Spare (fun k=>k≠q) w (W.setCell ⟨q,6,none⟩ (.iface 287 (.pointer (some ⟨p,0,none⟩)))):=(Spare.of_below _ HW.out).trans (Spare.of_but ((But.refl q W).set 6 _)) (fun _ _ h=>h);have Y:(W.setCell ⟨q,6,none⟩ (.iface 287 (.pointer (some ⟨p,0,none⟩)))).heap[p]? =some (.cells (zf (h0Z false bs) 0 (.slice none 0 0)) 291 (0,0)):=(heap_setCell_other W _ _ _ (by show p≠q;omega)).trans ar.out;generalize W.setCell ⟨q,6,none⟩ (.iface 287 (.pointer (some ⟨p,0,none⟩)))=J at*;clear HW ax ar c6 f6 aE W;have c4:J.cell? ⟨q,4,none⟩=some (.bool la):=qd O 4;have f4:=frozen_of_row J q 4 _ _ O;have ad:q<J.heap.size:=(Ai O).1;have ab:=hid O;have X:=hid Z;have aa:=hid Y;clear O Z Y;go_upto_region 2 with(fail)
 have O:=jr (b:=false) ab.out;have Z:Spare (fun k=>k≠q) w (J.setCell ⟨q,4,none⟩ (.bool false)):=X.out.trans (Spare.of_but ((But.refl q J).set 4 _)) (fun _ _ h=>h);have Y:(J.setCell ⟨q,4,none⟩ (.bool false)).heap[p]? =some (.cells (zf (h0Z false bs) 0 (.slice none 0 0)) 291 (0,0)):=(heap_setCell_other J _ _ _ (by show p≠q;omega)).trans aa.out;generalize J.setCell ⟨q,4,none⟩ (.bool false)=A1 at*;clear X ab aa c4 f4 ad J;obtain⟨J,rfl⟩:=Ex A1;have ab:=hid O;have X:=hid Z;have aa:=hid Y;have ad:q<A1.heap.size:=(Ai O).1;have c5:A1.cell? ⟨q,5,none⟩=some (.int .u64 wr):=qd O 5;have f5:=frozen_of_row A1 q 5 _ _ O;clear O Z Y;go_upto_region 3 with(fail)
 have O:=qfW (x:=0) ab.out;have Z:Spare (fun k=>k≠q) w (A1.setCell ⟨q,5,none⟩ (.int .u64 0)):=X.out.trans (Spare.of_but ((But.refl q A1).set 5 _)) (fun _ _ h=>h);have Y:(A1.setCell ⟨q,5,none⟩ (.int .u64 0)).heap[p]? =some (.cells (zf (h0Z false bs) 0 (.slice none 0 0)) 291 (0,0)):=(heap_setCell_other A1 _ _ _ (by show p≠q;omega)).trans aa.out;have aP:w.heap.size≤(A1.setCell ⟨q,5,none⟩ (.int .u64 0)).heap.size:=Z.size;generalize A1.setCell ⟨q,5,none⟩ (.int .u64 0)=J at*;clear X ab aa c5 f5 ad A1;have c3:J.cell? ⟨q,3,none⟩=some (.slice ka kz.length kc):=qd O 3;have ad:q<J.heap.size:=(Ai O).1;have aR:p<J.heap.size:=(Ai Y).1;have ab:=hid O;have X:=hid Z;have aa:=hid Y;clear O Z Y;by_cases am:kz.length=0
 case pos=>
  obtain rfl:kz=[]:=List.eq_nil_of_length_eq_zero am;go_wp2
  go_end0
  exact⟨rfl,⟨p,.slice none 0 0,av,ab.out,qaY aa.out,fun g h=>by cases h⟩,X.out⟩
 have aw:0<kz.length:=by omega
 have aZ:(kz.length:Int)≤32:=by omega
 go_upto_region 4 with(fail)
 have aA:Hold J (.slice ka kz.length kc) kz:=HK.out.keep X.out.size fun b U al=>X.out.block b al (fun e=>aJ.out (by rw[U,e]))
 have aG:=hid aA;have ap:=QI (n:=64) (zs:=kz) (by omega);have aI:=hid ap;have aH:=hid am;clear aA ap am c3;have aK:(Value.slice ka kz.length kc).ownBlock≠some p:=fun e=>by have:=Yx HK.out (fun e=>by rw[e]at aw;simp at aw) e;omega
 refine Q9 (fun f W=>W.heap[q]? =some (.cells (ye 2 dg bv (.slice ka kz.length kc) false 0 (.iface 287 (.pointer (some ⟨p,0,none⟩)))) 179 (0,0))∧(f=false→Below J.heap.size J W)∧(J.heap.size≤W.heap.size∧(∀b,b<J.heap.size→b≠p→W.heap[b]? =J.heap[b]?))∧(f=true→Spare (fun k=>k≠p) J W∧ ∃hv,QT false W p hv (h0Z false bs) (QC 64 kz)∧ ∀g,hv.ownBlock=some g→J.heap.size≤g)) 16 [.v 26 (.pointer (some ⟨q,0,none⟩)),.v 27 (.pointer (some ⟨q,0,none⟩)),.v 28 (.pointer (some ⟨q,6,none⟩)),.v 29 (.iface 287 (.pointer (some ⟨p,0,none⟩))),.v 30 (.pointer (some ⟨q,0,none⟩)),.v 31 (.pointer (some ⟨q,0,none⟩)),.v 32 (.pointer (some ⟨q,3,none⟩)),.v 33 (.slice ka kz.length kc),.v 34 (.pointer (some ⟨q,0,none⟩)),.v 35 (.pointer (some ⟨q,0,none⟩)),.v 36 (.pointer (some ⟨q,0,none⟩)),.v 37 (.int .i64 2),.v 38 (.int .i64 64),.p 39 (fun u W=>W.ownsRow J.heap.size 5 1 u 64 ((QC 64 kz).map qt)),.v 40 (.iface 287 (.pointer (some ⟨p,0,none⟩))),.v 41 (.iface 287 (.pointer (some ⟨p,0,none⟩))),.p 42 (fun _ _=>True)] (by exact⟨(fun _ _ U _ h=>qk h (fun g _ hg=>U.block g hg)),kW,trivial⟩) ⟨ab.out,fun _=>Br.drew,⟨Nat.le_refl _,fun _ _ _=>rfl⟩,fun h=>(by cases h)⟩ (fun f W W' h U=>⟨qg h.1 U,fun e=>(h.2.1 e).trans (U.mono (h.2.1 e).size),⟨Nat.le_trans h.2.2.1.1 U.size,fun b h1 h2=>(U.block b (Nat.lt_of_lt_of_le h1 h.2.2.1.1)).trans (h.2.2.1.2 b h1 h2)⟩,fun e=>by obtain⟨h1,hv,h2,h3⟩:=h.2.2.2 e;exact⟨h1.trans (Spare.of_below _ U) (fun _ _ h=>h),hv,yD h2 U,h3⟩⟩) ?_ ?_ ?_
 ·repeat' (with_reducible first|exact qz|refine qx ?_ ?_)
  all_goals try
   refine .inr ?_;intro A x W f G V hf o D K I;have a0:=G.2 0 (by decide);conv at a0=>rhs;whnf
   simp only[QN,QV]at D;clear o G;go_simp
   exact I _ _ BR rfl
  any_goals exact .inl rfl
  all_goals refine .inr ?_
  ·intro A x W f G V hf o _ K I;have aT:=gw G o 2 28;clear o G;have g0:=V.1;have c0:W.cell? ⟨q,6,none⟩=some (.iface 287 (.pointer (some ⟨p,0,none⟩))):=qd g0 6;go_simp
   exact I _ _ BR rfl
  ·intro A x W f G V hf o _ K I;have a6:=gw G o 6 32;clear o G;have g0:=V.1;have c0:W.cell? ⟨q,3,none⟩=some (.slice ka kz.length kc):=qd g0 3;go_simp
   exact I _ _ BR rfl
  ·intro A x W f G V hf o _ K I;have aY:=gw G o 10 36;clear o G;have g0:=V.1;have c0:W.cell? ⟨q,0,none⟩=some (.int .i64 2):=qd g0 0;go_simp
   exact I _ _ BR rfl
  ·intro A x W f G V hf o _ K I;have a4:=gw G o 11 37;clear o G;go_simp
   refine(Zp false _).mono ?_;rintro e w' ⟨rfl,hw⟩;exact I _ _ (by rw[hw];exact Below.refl _ _) rfl
  ·intro A x W f G V hf o _ K I;have aW:=gw G o 7 33;have a3:=gw G o 12 38;clear o G;go_simp
   have aN:Hold W (.slice ka kz.length kc) kz:=aG.out.keep V.2.2.1.1 (fun b U al=>V.2.2.1.2 b al (fun e=>aK (by rw[U,e])));refine(jn kz _ 64 _ aN (by omega) (by decide)).mono ?_;rintro e w' ⟨u,rfl,ho,U⟩;exact I _ _ U (ownsRow_le ho V.2.2.1.1)
 ·intro A x W G V o K I;have aS:=gw G o 15 41;have ay:(fun u W=>W.ownsRow J.heap.size 5 1 u 64 ((QC 64 kz).map qt)) (x 39) W:=o ⟨13,.data⟩ (by simp) rfl;have aV:A.tmps.getD 39 undef=x 39:=G.1 39 (by decide);clear o G;have hB:=V.2.1 rfl;go_simp
  refine Yj (f:=266) (by kernel_rfl) ?_;go_simp
  have aF:=yd (n:=64) HK.out.1;have aD:Hold W (x 39) (QC 64 kz):=Qq ay aF;refine(qah (h0Z false bs) [] (QC 64 kz) (QS false bs) (fun _ h=>by cases h) p (.slice none 0 0) (x 39) W (qaY (qg aa.out hB)) aD (fun _ b U=>⟨fun e=>by have:=qbp ay U;omega,fun e=>by cases e⟩) (by rw[aI.out];simp)).mono ?_;rintro e w' ⟨rfl,⟨aQ,aM,ag⟩,ah⟩
  refine I _ _ (fun h=>by cases h) ⟨(ah.block q (Ai V.1).1 ⟨by omega,fun e=>by cases e⟩).trans V.1,fun h=>(by cases h),⟨Nat.le_trans V.2.2.1.1 ah.size,fun b h1 h2=>(ah.block b (Nat.lt_of_lt_of_le h1 V.2.2.1.1) ⟨h2,fun e=>by cases e⟩).trans (V.2.2.1.2 b h1 h2)⟩,fun _=>⟨(Spare.of_below _ hB).trans ah (fun b _ h=>⟨h,fun e=>by cases e⟩),aQ,aM,fun g hg=>?_⟩⟩ ⟨.inr (fun _ h=>h),.inr (fun _ h=>h),.inr (fun _ h=>h),.inr (fun _ h=>h),.inr (fun _ h=>h),.inr (fun _ h=>h),.inr (fun _ h=>h),.inr (fun _ h=>h),.inr (fun _ h=>h),.inr (fun _ h=>h),.inr (fun _ h=>h),.inr (fun _ h=>h),.inr (fun _ h=>h),.inr (fun u h=>qk h (fun g h1 h2=>ah.block g h2 ⟨by omega,fun e=>by cases e⟩)),.inr (fun _ h=>h),.inr (fun _ h=>h),.inl rfl,trivial⟩ trivial;rcases ag with ag|ag
  ·rw[ag]at hg;cases hg
  ·have:=ag g hg;have:=hB.size;omega
 intro x W V ak;obtain⟨an,aL, -⟩:=ak;change (fun u W=>W.ownsRow J.heap.size 5 1 u 64 ((QC 64 kz).map qt)) (x 39) W at an
 change ((fun _ _=>True)) (x 42) W at aL
 simp only[QA,Act.put,Ls];obtain⟨ao, -, -,h9⟩:=V;obtain⟨aB,aO,au,az⟩:=h9 rfl;have H9:=hid (show(∃p hv,w.heap.size≤p∧W.heap[q]? =some (.cells (ye 2 dg bv (.slice ka kz.length kc) false 0 (.iface 287 (.pointer (some ⟨p,0,none⟩)))) 179 (0,0))∧QT false W p hv (h0Z false bs) (yk 64 kz)∧(∀g,hv.ownBlock=some g→w.heap.size≤g))∧Spare (fun k=>k≠q) w W from⟨⟨p,aO,av,ao,by unfold yk;rw[if_neg aH.out];exact au,fun g hg=>Nat.le_trans aP (az g hg)⟩,X.out.trans aB (fun b U _=>by omega)⟩);clear ao aB au az h9 an;go_wp2
 go_end0
 exact⟨rfl,H9.out⟩
def Fresh (base:Nat)(W:World)(v:Value)(zs:List Int):Prop:=
 (zs=[]∧v= .slice none 0 0)∨ ∃g cap cur,v= .slice (some ⟨g,0,none⟩) zs.length cap∧base≤g∧W.heap[g]? =some (.cells cur 5 (0,0))∧zs.length≤cap∧cap≤cur.size∧cap≤maxLen∧cur.toList.take zs.length=zs.map qt
theorem Fresh.below {base:Nat}{W W':World}{v:Value}{zs:List Int}(h:Fresh base W v zs)(G:Below W.heap.size W W'):Fresh base W' v zs:=by
 rcases h with h|⟨g,o,q,e,J,D,I⟩
 ·exact .inl h
 ·exact .inr ⟨g,o,q,e,J,qg D G,I⟩
theorem Fresh.le {base b':Nat}{W:World}{v:Value}{zs:List Int}(h:Fresh base W v zs)(G:b'≤base):Fresh b' W v zs:=by
 rcases h with h|⟨g,o,q,e,I,D⟩
 ·exact .inl h
 ·exact .inr ⟨g,o,q,e,Nat.le_trans G I,D⟩
theorem Fresh.hold {base:Nat}{W:World}{v:Value}{zs:List Int}(h:Fresh base W v zs)(O: ∀z∈zs,0≤z∧z≤255):Hold W v zs:=by
 refine⟨O,?_⟩;rcases h with h|⟨g,q,U,rfl,X,o,I,V,J,G⟩
 ·exact .inl h
 ·refine .inr ⟨⟨g,0,none⟩,q,rfl,I,J,.inr ⟨g,0,rfl,(Ai o).1,fun i D=>?_⟩⟩;have e:=congrArg (fun l:List Value=>l[i]?) G;simp only[List.getElem?_take,D,if_true,List.getElem?_map,Array.getElem?_toList]at e;rw[Nat.zero_add,qd o i,e];simp[qt,qr,Lg,D]
theorem qbx {base g c m:Nat}{W:World}{zs:List Int}(h:W.ownsRow base 5 1 (.slice (some ⟨g,0,none⟩) zs.length c) zs.length (zs.map qt))(o:m≤zs.length):Fresh base W (.slice (some ⟨g,0,none⟩) m m) (zs.take m):=by
 obtain⟨q,D,U,I,G,J,O⟩:=zw h;have e:(zs.take m).length=m:=by simp[List.length_take,Nat.min_eq_left o]
 refine .inr ⟨g,m,q,by rw[e],G,D,by omega,by omega,by omega,?_⟩;rw[e,List.map_take,←I,List.take_take,Nat.min_eq_left o]
theorem qfV (big:Bool)(q p:Nat)(D G wr:Int)(J:Bool)(O I:Value)(w:World)(o:w.heap[q]? =some (.cells (ye D G O I J wr (.iface (phT big) (.pointer (some ⟨p,0,none⟩)))) 179 (0,0))):
  Calls Tryz.prog 133 #[.pointer (some ⟨q,0,none⟩)] w fun e w'=>e= .returned (.bool false)∧w'=w:=by
 have V:w.cell? ⟨q,6,none⟩=some (.iface (phT big) (.pointer (some ⟨p,0,none⟩))):=qd o 6;have U:q<w.heap.size:=(Ai o).1;clear o;go_enter Tryz.func133,Tryz.ntmps133
 go_wp2
 go_ret
 exact⟨rfl,rfl⟩
theorem jo {W:World}{B n:Nat}{v:Value}{o:List Value}(h:W.ownsRow B 5 1 v n o):W.ownsRow 0 5 1 v n o:=ownsRow_le h (Nat.zero_le _)
theorem qc8 (h0 I:List Int)(hh:Words 64 8 h0)(hm: ∀z∈I,0≤z∧z≤255)(G p m:Nat)(dg wr:Int)(Y:Bool)(bv kv hv:Value)(w:World)(J:w.heap[G]? =some (.cells (ye 1 dg bv kv Y wr (.iface 277 (.pointer (some ⟨p,0,none⟩)))) 179 (0,0)))(hE:QT true w p hv h0 I)(ac:(I.length:Int)≤281474976710656)(av:1≤m)(aj:m≤64):
  Calls Tryz.prog 99 #[.pointer (some ⟨G,0,none⟩),.int .i64 (m:Nat)] w fun e w'=>(∃v,e= .returned (.tuple #[v,.int .i64 0])∧Fresh w.heap.size w' v ((zc true h0 I Y).take m))∧Below w.heap.size w w':=by
 have hN:=qfV true G p 1 dg wr Y bv kv w J;have c0:w.cell? ⟨G,0,none⟩=some (.int .i64 1):=qd J 0;have ar:G<w.heap.size:=(Ai J).1;have HN:=hid hN;have ab:=hid J;have HO:=hid (fun(W:World) (h:QT true W p hv h0 I)=>qhs h0 I Y hh hm p hv W h ac);have HE:=hid hE;have ah:=zz true h0 I Y;generalize zc true h0 I Y=Z at*;have af:=hid (show Z.length=64 from ah);clear hN J hE hh hm ac ah;have ad:1≤(m:Int)∧(m:Int)≤64:=by omega
 obtain⟨ad,ax⟩:=ad;go_enter Tryz.func99,Tryz.ntmps99
 go_wp2_with fail
 refine HN.out.mono ?_;rintro e w1 ⟨rfl,hw⟩;rw[hw];clear hw;go_wp2_with fail
 refine(Zp true _).mono ?_;rintro e w1 ⟨rfl,hw⟩;rw[hw];clear hw;rw[show((bB true:Nat):Int)=128 from rfl];go_upto_region 5 with(fail)
 clear c0;refine qD (n:=16) (w0:=w) (B:=w.heap.size) [.v 20 (.pointer (some ⟨G,0,none⟩)),.v 21 (.pointer (some ⟨G,0,none⟩)),.v 22 (.pointer (some ⟨G,6,none⟩)),.v 23 (.iface 277 (.pointer (some ⟨p,0,none⟩))),.v 24 (.pointer (some ⟨G,0,none⟩)),.v 25 (.pointer (some ⟨G,0,none⟩)),.v 26 (.pointer (some ⟨G,4,none⟩)),.v 27 (.bool Y),.v 28 (.iface 277 (.pointer (some ⟨p,0,none⟩))),.v 29 (.iface 277 (.pointer (some ⟨p,0,none⟩))),.p 30 (fun u W=>W.ownsRow w.heap.size 5 1 u 64 (Z.map qt)),.v 31 (.int .i64 (m:Nat)),.v 32 (.int .i64 (m:Nat)),.p 33 (fun u W=>Fresh w.heap.size W u (Z.take m)),.p 4 (fun u W=>Fresh w.heap.size W u (Z.take m)),.v 5 (.int .i64 0)] (by exact⟨(fun _ _ _ h hb=>qk h (fun g _ hg=>hb.block g hg)),(fun _ _ _ h hb=>h.below hb),(fun _ _ _ h hb=>h.below hb),trivial⟩) Br.drew Nl ?_ ?_
 ·repeat' (with_reducible first|exact qz|refine qx ?_ ?_)
  all_goals try
   intro A x W q O U o D K V;have a0:=q.2 0 (by decide);conv at a0=>rhs;whnf
   have a1:=q.2 1 (by decide);conv at a1=>rhs;whnf
   simp only[QN,QV]at D;clear o q;go_simp
   exact V _ _ BR rfl
  ·intro A x W q O U o _ K V;have az:=gv q o 2 22;clear o q;have g0:=qg ab.out O;have c0:W.cell? ⟨G,6,none⟩=some (.iface 277 (.pointer (some ⟨p,0,none⟩))):=qd g0 6;go_simp
   exact V _ _ BR rfl
  ·intro A x W q O U o _ K V;have au:=gv q o 6 26;clear o q;have g0:=qg ab.out O;have c0:W.cell? ⟨G,4,none⟩=some (.bool Y):=qd g0 4;go_simp
   exact V _ _ BR rfl
  ·intro A x W q O U o _ K V;have aw:=gv q o 9 29;have ap:=gv q o 7 27;clear o q;go_simp
   refine Yj (f:=258) (by kernel_rfl) ?_;go_simp
   refine(HO.out _ (yD HE.out O)).mono ?_;rintro e w' ⟨u,rfl,ho,hb⟩;exact V _ _ hb (ownsRow_le ho U)
  ·intro A x W q O U o _ K V;have X:(fun u W=>W.ownsRow w.heap.size 5 1 u 64 (Z.map qt)) (x 30) W:=o ⟨10,.data⟩ (by simp) rfl _ rfl;have am:A.tmps.getD 30 undef=x 30:=q.1 30 (by decide);have aC:=gv q o 11 31;have aD:=gv q o 12 32;clear o q;obtain⟨s1,s2,s3,aa⟩:=qu X;rw[aa]at X am;obtain rfl:s2=64:=yu X;obtain⟨gg,rfl⟩:=ZX (jo X) (by decide);obtain⟨cu, -, -, -, -,ay,al⟩:=zw X;have aB:(s3:Int)≤9223372036854775807:=by unfold maxLen at al;omega
   have aq:(m:Int)≤s3:=by omega
   have aA:64≤(s3:Int):=by omega
   have ae:=qbx (m:=m) (zs:=Z) (c:=s3) (by rw[af.out];exact X) (by rw[af.out];exact aj);have an:=hid ae;clear ae;go_simp
   exact V _ _ Br an.out
  ·intro A x W q O U o _ K V;have ak:(fun u W=>Fresh w.heap.size W u (Z.take m)) (x 33) W:=o ⟨13,.data⟩ (by simp) rfl _ rfl;have ao:A.tmps.getD 33 undef=x 33:=q.1 33 (by decide);clear o q;go_simp
   exact V _ _ Br (ao▸ak)
 intro x W O U ai;obtain⟨aa,ag,e4, -⟩:=ai;change (fun u W=>W.ownsRow w.heap.size 5 1 u 64 (Z.map qt)) (x 30) W at aa
 change (fun u W=>Fresh w.heap.size W u (Z.take m)) (x 33) W at ag
 change (fun u W=>Fresh w.heap.size W u (Z.take m)) (x 4) W at e4
 refine qv ?_;simp only[QA,Act.put,Ls];have E4:=hid e4;have HW:=hid O;clear e4 aa ag O;go_wp2
 go_ret2
 exact⟨⟨_,rfl,E4.out⟩,HW.out⟩
theorem qb5 (h0 I:List Int)(hh:Words 32 8 h0)(hm: ∀z∈I,0≤z∧z≤255)(G p m:Nat)(dg wr:Int)(Y:Bool)(bv kv hv:Value)(w:World)(J:w.heap[G]? =some (.cells (ye 2 dg bv kv Y wr (.iface 287 (.pointer (some ⟨p,0,none⟩)))) 179 (0,0)))(hE:QT false w p hv h0 I)(ac:(I.length:Int)≤281474976710656)(av:1≤m)(aj:m≤32):
  Calls Tryz.prog 99 #[.pointer (some ⟨G,0,none⟩),.int .i64 (m:Nat)] w fun e w'=>(∃v,e= .returned (.tuple #[v,.int .i64 0])∧Fresh w.heap.size w' v ((zc false h0 I Y).take m))∧Below w.heap.size w w':=by
 have hN:=qfV false G p 2 dg wr Y bv kv w J;have c0:w.cell? ⟨G,0,none⟩=some (.int .i64 2):=qd J 0;have ar:G<w.heap.size:=(Ai J).1;have HN:=hid hN;have ab:=hid J;have HO:=hid (fun(W:World) (h:QT false W p hv h0 I)=>qgB h0 I Y hh hm p hv W h ac);have HE:=hid hE;have ah:=zz false h0 I Y;generalize zc false h0 I Y=Z at*;have af:=hid (show Z.length=32 from ah);clear hN J hE hh hm ac ah;have ad:1≤(m:Int)∧(m:Int)≤32:=by omega
 obtain⟨ad,ax⟩:=ad;go_enter Tryz.func99,Tryz.ntmps99
 go_wp2_with fail
 refine HN.out.mono ?_;rintro e w1 ⟨rfl,hw⟩;rw[hw];clear hw;go_wp2_with fail
 refine(Zp false _).mono ?_;rintro e w1 ⟨rfl,hw⟩;rw[hw];clear hw;rw[show((bB false:Nat):Int)=64 from rfl];go_upto_region 5 with(fail)
 clear c0;refine qD (n:=16) (w0:=w) (B:=w.heap.size) [.v 20 (.pointer (some ⟨G,0,none⟩)),.v 21 (.pointer (some ⟨G,0,none⟩)),.v 22 (.pointer (some ⟨G,6,none⟩)),.v 23 (.iface 287 (.pointer (some ⟨p,0,none⟩))),.v 24 (.pointer (some ⟨G,0,none⟩)),.v 25 (.pointer (some ⟨G,0,none⟩)),.v 26 (.pointer (some ⟨G,4,none⟩)),.v 27 (.bool Y),.v 28 (.iface 287 (.pointer (some ⟨p,0,none⟩))),.v 29 (.iface 287 (.pointer (some ⟨p,0,none⟩))),.p 30 (fun u W=>W.ownsRow w.heap.size 5 1 u 32 (Z.map qt)),.v 31 (.int .i64 (m:Nat)),.v 32 (.int .i64 (m:Nat)),.p 33 (fun u W=>Fresh w.heap.size W u (Z.take m)),.p 4 (fun u W=>Fresh w.heap.size W u (Z.take m)),.v 5 (.int .i64 0)] (by exact⟨(fun _ _ _ h hb=>qk h (fun g _ hg=>hb.block g hg)),(fun _ _ _ h hb=>h.below hb),(fun _ _ _ h hb=>h.below hb),trivial⟩) Br.drew Nl ?_ ?_
 ·repeat' (with_reducible first|exact qz|refine qx ?_ ?_)
  all_goals try
   intro A x W q O U o D K V;have a0:=q.2 0 (by decide);conv at a0=>rhs;whnf
   have a1:=q.2 1 (by decide);conv at a1=>rhs;whnf
   simp only[QN,QV]at D;clear o q;go_simp
   exact V _ _ BR rfl
  ·intro A x W q O U o _ K V;have az:=gv q o 2 22;clear o q;have g0:=qg ab.out O;have c0:W.cell? ⟨G,6,none⟩=some (.iface 287 (.pointer (some ⟨p,0,none⟩))):=qd g0 6;go_simp
   exact V _ _ BR rfl
  ·intro A x W q O U o _ K V;have au:=gv q o 6 26;clear o q;have g0:=qg ab.out O;have c0:W.cell? ⟨G,4,none⟩=some (.bool Y):=qd g0 4;go_simp
   exact V _ _ BR rfl
  ·intro A x W q O U o _ K V;have aw:=gv q o 9 29;have ap:=gv q o 7 27;clear o q;go_simp
   refine Yj (f:=264) (by kernel_rfl) ?_;go_simp
   refine(HO.out _ (yD HE.out O)).mono ?_;rintro e w' ⟨u,rfl,ho,hb⟩;exact V _ _ hb (ownsRow_le ho U)
  ·intro A x W q O U o _ K V;have X:(fun u W=>W.ownsRow w.heap.size 5 1 u 32 (Z.map qt)) (x 30) W:=o ⟨10,.data⟩ (by simp) rfl _ rfl;have am:A.tmps.getD 30 undef=x 30:=q.1 30 (by decide);have aC:=gv q o 11 31;have aD:=gv q o 12 32;clear o q;obtain⟨s1,s2,s3,aa⟩:=qu X;rw[aa]at X am;obtain rfl:s2=32:=yu X;obtain⟨gg,rfl⟩:=ZX (jo X) (by decide);obtain⟨cu, -, -, -, -,ay,al⟩:=zw X;have aB:(s3:Int)≤9223372036854775807:=by unfold maxLen at al;omega
   have aq:(m:Int)≤s3:=by omega
   have aA:32≤(s3:Int):=by omega
   have ae:=qbx (m:=m) (zs:=Z) (c:=s3) (by rw[af.out];exact X) (by rw[af.out];exact aj);have an:=hid ae;clear ae;go_simp
   exact V _ _ Br an.out
  ·intro A x W q O U o _ K V;have ak:(fun u W=>Fresh w.heap.size W u (Z.take m)) (x 33) W:=o ⟨13,.data⟩ (by simp) rfl _ rfl;have ao:A.tmps.getD 33 undef=x 33:=q.1 33 (by decide);clear o q;go_simp
   exact V _ _ Br (ao▸ak)
 intro x W O U ai;obtain⟨aa,ag,e4, -⟩:=ai;change (fun u W=>W.ownsRow w.heap.size 5 1 u 32 (Z.map qt)) (x 30) W at aa
 change (fun u W=>Fresh w.heap.size W u (Z.take m)) (x 33) W at ag
 change (fun u W=>Fresh w.heap.size W u (Z.take m)) (x 4) W at e4
 refine qv ?_;simp only[QA,Act.put,Ls];have E4:=hid e4;have HW:=hid O;clear e4 aa ag O;go_wp2
 go_ret2
 exact⟨⟨_,rfl,E4.out⟩,HW.out⟩
def Qi (b:List Int)(p:Nat)(zs:List Int):List Int:=b.take p++zs++b.drop (p+zs.length)
theorem Qk {b zs:List Int}{p:Nat}(h:p+zs.length≤b.length):(Qi b p zs).length=b.length:=by
 simp[Qi];omega
theorem Yr {b zs:List Int}{p:Nat}(h:p+zs.length≤b.length)(i:Nat):qr (Qi b p zs) i=if p≤i∧i<p+zs.length then qr zs (i - p) else qr b i:=by
 unfold Qi qr;simp only[Lg];have q:(b.take p).length=p:=by simp;omega
 by_cases D:i<p
 ·rw[List.append_assoc,List.getElem?_append_left (by omega),List.getElem?_take,if_pos D,if_neg (by omega)]
 ·by_cases o:i<p+zs.length
  ·rw[List.append_assoc,List.getElem?_append_right (by omega),q,List.getElem?_append_left (by omega),if_pos ⟨by omega,o⟩]
  ·rw[List.getElem?_append_right (by simp;omega),if_neg (by omega),List.getElem?_drop];congr 2
   simp;omega
theorem YP (b:List Int)(p:Nat):Qi b p []=b:=by simp[Qi]
theorem JY {b zs:List Int}{p:Nat}{z:Int}(h:p+zs.length<b.length):Qi b p (zs++[z])=(Qi b p zs).set (p+zs.length) z:=by
 have D:(b.take p).length=p:=by simp;omega
 have o:(b.take p++zs).length=p+zs.length:=by simp;omega
 have q:b.drop (p+zs.length)=b[p+zs.length]::b.drop (p+zs.length+1):=List.drop_eq_getElem_cons h;unfold Qi;rw[q,List.length_append,List.length_singleton,←Nat.add_assoc,List.set_append_right _ _ (by omega),o,Nat.sub_self,List.set_cons_zero];simp
def Qz (big x0:Bool)(v:Nat→Nat):Nat→List Int
 | 0=>List.replicate (mB big) 0
 | k+1=>if k+1=7∧x0=true then Qz big x0 v k else Qi (Qz big x0 v k) (atB big (k+1)) (Qg (v (k+1)) (szB big (k+1)))
theorem QP (big q:Bool)(v:Nat→Nat): ∀k,k≤9→(Qz big q v k).length=mB big
 | 0,_=>by simp[Qz]
 | k+1,h=>by
  have o:=QP big q v k (by omega);have D:=QY big false (k+1) (by omega) (by omega);have e:szE big false (k+1)=szB big (k+1):=by simp[szE]
  rw[e]at D;have G:32≤mB big:=by cases big<;>decide
  rw[Qz];split
  ·exact o
  ·rw[Qk (by rw[Qa,o];omega),o]
def QR (big:Bool)(v:Nat→Nat)(z1 z2:List Int):List Int:=Qi (Qi (Qz big (v 7==0) v 9) (2*sB big) z1) (3*sB big) z2
theorem yh {big:Bool}{v:Nat→Nat}{z1 z2:List Int}(D:z1.length≤sB big)(q:z2.length≤sB big):(QR big v z1 z2).length=mB big:=by
 have e:=QP big (v 7==0) v 9 (by omega);have o:4*sB big=mB big:=by cases big<;>decide
 unfold QR;rw[Qk (by rw[Qk (by omega)];omega),Qk (by omega),e]
def parN (v:Nat→Nat)(sa pe:Value):Value:=yT (v 1:Nat) (v 2:Nat) (v 3:Nat) (v 4:Nat) (v 5:Nat) (v 6:Nat) (v 7:Nat) (v 8:Nat) (v 9:Nat) sa pe
def RowB (w:World)(g:Nat)(b:List Int):Prop:=w.heap[g]? =some (.cells (b.map qt).toArray 5 (0,0))
theorem RowB.cell {w:World}{g:Nat}{b:List Int}(h:RowB w g b){i:Nat}(o:i<b.length):w.cell? ⟨g,i,none⟩=some (.int .u8 (qr b i)):=by
 rw[qd h i];simp[qt,qr,Lg,o]
theorem RowB.set {w:World}{g:Nat}{b:List Int}(h:RowB w g b)(i:Nat)(z:Int):RowB (w.setCell ⟨g,i,none⟩ (.int .u8 z)) g (b.set i z):=by
 have:=heap_setCell_same w g i _ _ (.int .u8 z) h
 unfold RowB;rw[this];simp[qt,List.map_set]
theorem qch (b:List Int)(g n c p k:Nat)(hk:k≤8)(hp:p+k≤b.length)(Y:n=b.length)(hc:n≤c)(ab:n≤65535)(x:Nat)(hx:(x:Int)≤18446744073709551615)(w:World)(h:RowB w g b):
  Calls Tryz.prog 166 #[.slice (some ⟨g,0,none⟩) n c,.int .i64 (p:Nat),.int .i64 (k:Nat),.int .u64 (x:Nat)] w fun e w'=>e= .returned (.tuple #[])∧RowB w' g (Qi b p (Qg x k))∧But g w w':=by
 have U:g<w.heap.size:=(Ai h).1;have Z:=hid h;have HN:=hid Y;have ad:(p:Int)+k≤n:=by omega
 have aa:(n:Int)≤65535:=by omega
 clear h Y;go_enter Tryz.func166,Tryz.ntmps166
 go_wp2_with fail
 go_loopw [8] (fun i wr=> ∃j:Nat,i= .int .i64 (j:Nat)∧j≤k∧RowB wr g (Qi b p (Qg x j))∧But g w wr) (fun i _=>k - (intOf i).toNat)
 case atStart=>exact⟨0,rfl,Nat.zero_le _,by show RowB w g (Qi b p []);rw[YP];exact Z.out,But.refl _ _⟩
 case round=>
  obtain⟨j,rfl,hj,o,G⟩:=hrel;by_cases ac:j<k
  ·have hl:(Qi b p (Qg x j)).length=b.length:=Qk (by rw[Qa];omega);have X:=o.cell (i:=p+j) (by have:=HN.out;omega);have ae:=frozen_of_row wr g (p+j) _ _ o;have af:g<wr.heap.size:=Nat.lt_of_lt_of_le U G.size;have q:=zM x j;have D:=o.set (p+j) (byt x j);have e:(Qi b p (Qg x j)).set (p+j) (byt x j)=Qi b p (Qg x (j+1)):=by
    have O:=JY (b:=b) (zs:=Qg x j) (p:=p) (z:=byt x j) (by rw[Qa];omega);rw[Qa]at O;rw[←O,zL]
   rw[e]at D;have V:=hid D;have I:=hid G;generalize qr (Qi b p (Qg x j)) (p+j)=z0 at X;have J:(j:Int)<k∧(k:Int)≤8∧0≤(j:Int)∧(p:Int)+j<n:=by omega
   obtain⟨q1,q2,q3,q4⟩:=J;clear D e hl o G;go_wp2
   exact⟨⟨j+1,rfl,by omega,V.out,I.out.set _ _⟩,by simp[intOf];omega⟩
  ·obtain rfl:j=k:=by omega
   have I:=hid G;have HW:=hid o;clear G o;go_wp2
   go_end0
   exact⟨rfl,HW.out,I.out⟩
def Yn (big ext:Bool)(zs:List Int)(f:Nat):Nat:=if f=7∧ext=false then 0 else(Q7 big ext zs f).toNat
def yR (zs:List Int):List Int:=zs.take (Qj zs zs.length)
def YD (big:Bool)(zs:List Int):List Int:=yR ((zs.drop (2*sB big)).take (sB big))
def YR (big:Bool)(zs:List Int):List Int:=yR ((zs.drop (3*sB big)).take (sB big))
theorem JK {big ext:Bool}{zs:List Int}(D: ∀z∈zs,0≤z∧z≤255)(G:zs.length=mB big){f:Nat}(J:1≤f)(o:f≤9)(I: ¬(f=7∧ext=false)):((Yn big ext zs f:Nat):Int)=Qh zs (atB big f) (szE big ext f):=by
 have q:=qS (big:=big) (ext:=ext) D G J o;have e:Q7 big ext zs f=Qh zs (atB big f) (szE big ext f):=if_neg (by omega);unfold Yn;rw[if_neg I,Int.toNat_of_nonneg q.1,e]
theorem qd0 {big ext:Bool}{zs:List Int}(G: ∀z∈zs,0≤z∧z≤255)(I:zs.length=mB big)(q o:Value):
  parN (Yn big ext zs) q o=yT (qr zs 0) (qr zs 1) (qr zs 2) (qr zs 3) (Qh zs 4 4) (Qh zs 8 (szE big ext 6)) (xoZ big ext zs) (qr zs (atB big 8)) (qr zs (atB big 9)) q o:=by
 have h:=fun f U D O=>JK (big:=big) (ext:=ext) G I (f:=f) U D O
 unfold parN;rw[h 1 (by omega) (by omega) (by omega),h 2 (by omega) (by omega) (by omega),h 3 (by omega) (by omega) (by omega),h 4 (by omega) (by omega) (by omega),h 5 (by omega) (by omega) (by omega),h 6 (by omega) (by omega) (by omega),h 8 (by omega) (by omega) (by omega),h 9 (by omega) (by omega) (by omega)];have J:((Yn big ext zs 7:Nat):Int)=xoZ big ext zs:=by
  cases ext
  ·rfl
  ·rw[h 7 (by omega) (by omega) (by simp)];cases big<;>rfl
 rw[J]
 cases big<;>cases ext<;>simp[szE,szB,atB,Y0]
theorem qcZ (big:Bool)(zs:List Int)(v:Value)(w:World)(h:Hold w v zs)(ac:okD big false zs):
  Calls Tryz.prog 152 #[.int .i64 (kB big),v,.bool false] w fun e w'=>(∃q o,e= .returned (.tuple #[parN (Yn big false zs) q o,.int .i64 0])∧w'.ownsRow w.heap.size 5 1 q (YD big zs).length ((YD big zs).map qt)∧w'.ownsRow w.heap.size 5 1 o (YR big zs).length ((YR big zs).map qt))∧Below w.heap.size w w':=by
 obtain⟨a,V,rfl,G,U⟩:=h.slice;have J:=h.1;have h:=h.holds8;obtain⟨I,hm, -,k0,k1,k3,k9⟩:=ac;obtain⟨a',ad,e,h⟩:=h;simp only[Value.slice.injEq,true_and]at e;obtain⟨rfl,rfl⟩:=e;obtain⟨b,off,rfl,hB⟩:=h.resolve_left (fun e=>by rw[e]at I;cases big<;>simp[mB]at I);have aa: ∀p s:Nat,p+s≤zs.length→((zs.drop p).take s).length=s:=fun p s h=>by simp;omega
 have ab: ∀x:List Int,(x.take (Qj x x.length)).length=Qj x x.length:=fun x=>by have:=ZC x x.length;simp;omega
 have O: ∀(p s:Nat),p+s≤zs.length→(yR ((zs.drop p).take s)).length=Qj ((zs.drop p).take s) s∧yR ((zs.drop p).take s)=((zs.drop p).take s).take (Qj ((zs.drop p).take s) s):=fun p s h=>by
  have e:=aa p s h;unfold yR;rw[ab,e];exact⟨rfl,rfl⟩
 cases big
 ·have D:zs.length=32:=I;rw[D]at G⊢;obtain⟨Y,s2⟩:=O 16 8 (by omega);obtain⟨s3,s4⟩:=O 24 8 (by omega);refine(ZA zs b off V w hB J G U D k0 k1.2 (k3 rfl) k9.2).mono ?_;rintro e w' ⟨⟨q,o,rfl,X,Z⟩,hb⟩
  refine⟨⟨q,o,congrArg (fun p=>Ending.returned (.tuple #[p,.int .i64 0])) (qd0 (big:=false) (ext:=false) J I q o).symm,?_,?_⟩,hb⟩
  ·show w'.ownsRow _ _ _ q (yR ((zs.drop 16).take 8)).length ((yR ((zs.drop 16).take 8)).map qt)
   rw[Y,s2];exact X
  ·show w'.ownsRow _ _ _ o (yR ((zs.drop 24).take 8)).length ((yR ((zs.drop 24).take 8)).map qt)
   rw[s3,s4];exact Z
 ·have D:zs.length=64:=I;rw[D]at G⊢;obtain⟨Y,s2⟩:=O 32 16 (by omega);obtain⟨s3,s4⟩:=O 48 16 (by omega);refine(ZU zs b off V w hB J G U D (hm rfl) k0 k1.2 (k3 rfl) k9.2).mono ?_;rintro e w' ⟨⟨q,o,rfl,X,Z⟩,hb⟩
  refine⟨⟨q,o,congrArg (fun p=>Ending.returned (.tuple #[p,.int .i64 0])) (qd0 (big:=true) (ext:=false) J I q o).symm,?_,?_⟩,hb⟩
  ·show w'.ownsRow _ _ _ q (yR ((zs.drop 32).take 16)).length ((yR ((zs.drop 32).take 16)).map qt)
   rw[Y,s2];exact X
  ·show w'.ownsRow _ _ _ o (yR ((zs.drop 48).take 16)).length ((yR ((zs.drop 48).take 16)).map qt)
   rw[s3,s4];exact Z
structure ParOk (big:Bool)(v:Nat→Nat):Prop where
 p:okP big (v 1:Nat) (v 2:Nat) (v 3:Nat) (v 4:Nat) (v 6:Nat) (v 8:Nat) (v 9:Nat)
 lf:v 5<4294967296
 ofs:v 6<18446744073709551616
 x0:v 7=0
theorem Zj {big:Bool}{v:Nat→Nat}(D:ParOk big v)(a1 a2:Option Addr){q o:Nat}(c1 c2:Nat)(I:q≤sB big)(G:o≤sB big)(w:World):
  Calls Tryz.prog 163 #[.int .i64 (kB big),parN v (.slice a1 q c1) (.slice a2 o c2)] w fun e w'=>e= .returned (.int .i64 0)∧Below w.heap.size w w':=by
 unfold parN;rw[D.x0];exact qaq big _ _ _ _ _ _ _ _ a1 a2 q o c1 c2 w D.p I G
def ZN (v:Nat→Nat):Array Value:= #[.int .u64 (v 1:Nat),.int .u64 (v 2:Nat),.int .u64 (v 3:Nat),.int .u64 (v 4:Nat),.int .u64 (v 5:Nat),.int .u64 (v 6:Nat),.int .u64 (v 7:Nat),.int .u64 (v 8:Nat),.int .u64 (v 9:Nat)]
theorem qfQ (v:Nat→Nat){k:Nat}(o:k<9):(ZN v)[k]? =some (.int .u64 (v (k+1):Nat)):=by
 rcases(show k=0∨k=1∨k=2∨k=3∨k=4∨k=5∨k=6∨k=7∨k=8 by omega)with rfl|rfl|rfl|rfl|rfl|rfl|rfl|rfl|rfl<;>rfl
theorem ParOk.le {big:Bool}{v:Nat→Nat}(h:ParOk big v): ∀f,1≤f→f≤9→((v f:Nat):Int)≤18446744073709551615:=by
 obtain⟨⟨Y,q,X,Z, -,J,O⟩,V,G,U⟩:=h;have o:mB big≤64:=by cases big<;>decide
 intro f D I;rcases(show f=1∨f=2∨f=3∨f=4∨f=5∨f=6∨f=7∨f=8∨f=9 by omega)with rfl|rfl|rfl|rfl|rfl|rfl|rfl|rfl|rfl<;>omega
theorem JE {w w':World}{a:Option Addr}{n c:Nat}{zs:List Int}(h:Hold w (.slice a n c) zs)(G:Below w.heap.size w w'){j:Nat}(o:j<zs.length): ∃b off,a=some ⟨b,off,none⟩∧b<w'.heap.size∧w'.cell? ⟨b,off+j,none⟩=some (.int .u8 (qr zs j))∧0≤qr zs j∧qr zs j≤255:=by
 have q:zs≠[]:=fun e=>by rw[e]at o;simp at o
 rcases h.2 with⟨I, -⟩|⟨V,U,e, -, -,J⟩
 ·exact absurd I q
 ·obtain⟨b,off,rfl,D,O⟩:=J.resolve_left q;simp only[Value.slice.injEq]at e;exact⟨b,off,e.1,Nat.lt_of_lt_of_le D G.size,(G.cell (p:=⟨b,off+j,none⟩) D).trans (O j o),(qU h.1 o).2⟩
theorem jg {b zs:List Int}{p j:Nat}(o:j<zs.length)(h:p+zs.length≤b.length):(Qi b p (zs.take j)).set (p+j) (qr zs j)=Qi b p (zs.take (j+1)):=by
 have e:(zs.take j).length=j:=by simp;omega
 rw[jf o,JY (by omega),e]
theorem ZT (v:Nat→Nat)(z1 z2:List Int)(sa pe:Value)(w:World)(hP:ParOk true v)(h1:Hold w sa z1)(h2:Hold w pe z2)(ai:z1.length≤16)(ag:z2.length≤16):
  Calls Tryz.prog 138 #[.int .i64 1,parN v sa pe] w fun e w'=>(∃r,e= .returned (.tuple #[r,.int .i64 0])∧w'.ownsRow w.heap.size 5 1 r 64 ((QR true v z1 z2).map qt))∧Below w.heap.size w w':=by
 obtain⟨a1,c1,rfl,aM,a4⟩:=h1.slice;obtain⟨a2,c2,rfl,a7,aR⟩:=h2.slice;obtain⟨i0,hi,aU,a9,aY⟩:=info_parts QD;obtain⟨q,af⟩:=Ex w.heap.size;have aG:=hid (Zj hP a1 a2 c1 c2 ai ag);have aw:=hid hP.x0;have ax:=hid hP.le;have be:((v 5:Nat):Int)<4294967296:=by have:=hP.lf;omega
 have aV:((v 7:Nat):Int)<4294967296:=by have:=hP.x0;omega
 have Z: ∀f,1≤f→f≤9→IntKind.u64.wrap ((v f:Nat):Int)=((v f:Nat):Int):=fun f f1 f2=>u64_wrap_id _ (by omega) (by have:=ax.out f f1 f2;omega)
 have a8:=Z 1 (by omega) (by omega);have bf:=Z 2 (by omega) (by omega);have bd:=Z 3 (by omega) (by omega);have bc:=Z 4 (by omega) (by omega);have aO:=Z 5 (by omega) (by omega);have aS:=Z 7 (by omega) (by omega);have aX:=Z 8 (by omega) (by omega);have aW:=Z 9 (by omega) (by omega);have aB:Below q w (w.alloc (.cells #[.int .i64 (v 1:Nat),.int .i64 (v 2:Nat),.int .i64 (v 3:Nat),.int .i64 (v 4:Nat),.int .u32 (v 5:Nat),.int .u64 (v 6:Nat),.int .u32 (v 7:Nat),.int .i64 (v 8:Nat),.int .i64 (v 9:Nat),.slice a1 z1.length c1,.slice a2 z2.length c2] 171)):=by rw[←af];exact Br.alloc Nl _
 have ad:=Wn w (.cells #[.int .i64 (v 1:Nat),.int .i64 (v 2:Nat),.int .i64 (v 3:Nat),.int .i64 (v 4:Nat),.int .u32 (v 5:Nat),.int .u64 (v 6:Nat),.int .u32 (v 7:Nat),.int .i64 (v 8:Nat),.int .i64 (v 9:Nat),.slice a1 z1.length c1,.slice a2 z2.length c2] 171);rw[af]at ad;have a5:=hid h1;have a3:=hid h2;have bj:=hid hP;clear hP h1 h2 Z aM a4 a7 aR;unfold parN yT;unfold parN yT at aG;go_enter Tryz.func138,Tryz.ntmps138
 go_upto_region 1 with(fail)
 generalize w.alloc (.cells #[.int .i64 (v 1:Nat),.int .i64 (v 2:Nat),.int .i64 (v 3:Nat),.int .i64 (v 4:Nat),.int .u32 (v 5:Nat),.int .u64 (v 6:Nat),.int .u32 (v 7:Nat),.int .i64 (v 8:Nat),.int .i64 (v 9:Nat),.slice a1 z1.length c1,.slice a2 z2.length c2] 171)=wA at*;go_wp2_with ((with_reducible show wpList _ _ _ (Oper.mk _ (Op.load 171 _) _ _ _ _::_) _ _);refine wpList_load_row rfl 171 _ rfl q rfl _ _ _ _ ad Tryz.underlying171 rfl (by kernel_rfl) ?_)
 refine(aG.out wA).mono ?_;rintro e J ⟨rfl,aj⟩;have O:=qg ad aj;have aT:=aj.size;have aK:q<wA.heap.size:=(Ai ad).1;have bg:q<J.heap.size:=by omega
 have aD:Below q w J:=aB.trans (aj.mono (by omega));have d0:J.cell? ⟨q,0,none⟩=some (.int .i64 (v 1:Nat)):=qd O 0;have d1:J.cell? ⟨q,1,none⟩=some (.int .i64 (v 2:Nat)):=qd O 1;have d2:J.cell? ⟨q,2,none⟩=some (.int .i64 (v 3:Nat)):=qd O 2;have d3:J.cell? ⟨q,3,none⟩=some (.int .i64 (v 4:Nat)):=qd O 3;have d4:J.cell? ⟨q,4,none⟩=some (.int .u32 (v 5:Nat)):=qd O 4;have d5:J.cell? ⟨q,5,none⟩=some (.int .u64 (v 6:Nat)):=qd O 5;have d6:J.cell? ⟨q,6,none⟩=some (.int .u32 (v 7:Nat)):=qd O 6;have d7:J.cell? ⟨q,7,none⟩=some (.int .i64 (v 8:Nat)):=qd O 7;have d8:J.cell? ⟨q,8,none⟩=some (.int .i64 (v 9:Nat)):=qd O 8;have aF:=hid O;have ay:=hid aD;clear aj aB ad O aD aT aK;go_wp2_with fail
 refine(j6 true _).mono ?_;rintro e w2 ⟨rfl,hw⟩;rw[hw];clear hw;rw[show((mB true:Nat):Int)=64 from rfl];have az:=fun W:World=>run_make (P:=Tryz.prog) W 24 5 i0 (.int .u8 0) Tryz.underlying24 hi aU .i64 .i64 64 64 (by omega) (by omega) (by rw[aY];omega) (by omega)
 simp only[a9]at az;go_wp2_with fail
 obtain⟨g,hg⟩:=Ex J.heap.size;have aI:madeCells #[.int .u8 0] 64=((List.replicate 64 (0:Int)).map qt).toArray:=by
  apply Array.toList_inj.1
  rw[toList_madeCells_one];simp[qt]
 have bl:((J.alloc (.cells (madeCells #[.int .u8 0] 64) 5)).alloc (.cells (ZN v) 44)).heap.size=g+2:=by simp[hg]
 have aC:RowB ((J.alloc (.cells (madeCells #[.int .u8 0] 64) 5)).alloc (.cells (ZN v) 44)) g (Qz true (v 7==0) v 0):=by
  unfold RowB;rw[Bh _ _ _ (by simp[hg]),aI,←hg];exact Wn _ _
 have ar:((J.alloc (.cells (madeCells #[.int .u8 0] 64) 5)).alloc (.cells (ZN v) 44)).heap[g+1]? =some (.cells (ZN v) 44 (0,0)):=by
  rw[show g+1=(J.alloc (.cells (madeCells #[.int .u8 0] 64) 5)).heap.size by simp[hg]];exact Wn _ _
 have aH:((J.alloc (.cells (madeCells #[.int .u8 0] 64) 5)).alloc (.cells (ZN v) 44)).heap[q]? =some (.cells #[.int .i64 (v 1:Nat),.int .i64 (v 2:Nat),.int .i64 (v 3:Nat),.int .i64 (v 4:Nat),.int .u32 (v 5:Nat),.int .u64 (v 6:Nat),.int .u32 (v 7:Nat),.int .i64 (v 8:Nat),.int .i64 (v 9:Nat),.slice a1 z1.length c1,.slice a2 z2.length c2] 171 (0,0)):=by
  rw[Bh _ _ _ (by simp;omega),Bh _ _ _ (by omega)];exact aF.out
 have aA:Below q w ((J.alloc (.cells (madeCells #[.int .u8 0] 64) 5)).alloc (.cells (ZN v) 44)):=(ay.out.alloc (by omega) _).alloc (by simp;omega) _;change Code.wp _ _ _ _ ((J.alloc (.cells (madeCells #[.int .u8 0] 64) 5)).alloc (.cells (ZN v) 44))
 rw[hg];have bk:q<g:=by omega
 generalize ((J.alloc (.cells (madeCells #[.int .u8 0] 64) 5)).alloc (.cells (ZN v) 44))=W5 at*;have ba:=hid aC;have aL:=hid ar;have aq:=hid aH;have av:=hid aA;clear aC ar aH aA aI az aF ay hg d0 d1 d2 d3 d4 d5 d6 d7 d8 a8 bf bd bc aO aS aX aW;go_loopw [9] (fun f wr=> ∃n k:Nat,f= .int .i64 (n:Nat)∧n=k+1∧k≤9∧RowB wr g (Qz true (v 7==0) v k)∧But g W5 wr) (fun f _=>10 - (intOf f).toNat)
 case atStart=>exact⟨1,0,rfl,rfl,by omega,ba.out,But.refl _ _⟩
 case round=>
  obtain⟨n,k,rfl,ae,hk,o,I⟩:=hrel;have ab:=hid ae;have D:=hid o;have HB:=hid I;have al:g+1<wr.heap.size:=by have:=I.size;omega
  have c6:wr.cell? ⟨q,6,none⟩=some (.int .u32 (v 7:Nat)):=qd ((I.block q (by omega) (by omega)).trans aq.out) 6;have ac:q<wr.heap.size:=by omega
  have G:=QP true (v 7==0) v k hk;by_cases V:k<9
  case pos=>
   have bi:(n:Int)≤9:=by omega
   have bh:1≤(n:Int):=by omega
   have aP:(n:Int) - 1=(k:Nat):=by omega
   have cv:wr.cell? ⟨g+1,k,none⟩=some (.int .u64 (v (k+1):Nat)):=(qd ((I.block (g+1) (by omega) (by omega)).trans aL.out) k).trans (qfQ v V);rw[←ae]at cv;have a6:(k:Int)<9:=by omega
   have aZ:=hid (jt true n ⟨by omega,by omega⟩);have an:=QY true false n (by omega) (by omega);rw[show szE true false n=szB true n by simp[szE]]at an;have HL:=hid (qch (Qz true (v 7==0) v k) g 64 64 (atB true n) (szB true n) (by omega) (by rw[G];show _≤64;have:=an.2.2.2;omega) (by rw[G];rfl) Nl (by decide) (v n) (ax.out n (by omega) (by omega)) wr o);have am: ¬(k+1=7∧(v 7==0)=true)→Qz true (v 7==0) v (k+1)=Qi (Qz true (v 7==0) v k) (atB true n) (Qg (v n) (szB true n)):=fun h=>by rw[Qz,if_neg h,ae]
   have ah:=hid am;clear am o I ae an G;by_cases h7:k=6
   case pos=>
    obtain rfl:n=7:=by have:=ab.out;omega
    subst h7;clear aP a6;have hq:((v 7:Int)==0)=true:=by rw[aw.out];rfl
    go_wp2
    refine⟨⟨8,7,rfl,rfl,by omega,?_,HB.out⟩,by simp[intOf]⟩;have e:Qz true (v 7==0) v 7=Qz true (v 7==0) v 6:=by rw[Qz,if_pos ⟨rfl,by rw[aw.out];rfl⟩]
    rw[e];exact D.out
   have h8: ¬((n:Int)=7):=by have:=ab.out;omega
   have h9: ¬(n=7):=by have:=ab.out;omega
   go_wp2_with fail
   refine(aZ.out _).mono ?_;rintro r w4 ⟨rfl,hw⟩;rw[hw];clear hw;go_wp2_with fail
   refine HL.out.mono ?_;rintro r w4 ⟨rfl,ai,ag⟩;have U:=hid ai;have X:=hid ag;clear ai ag c6 cv;go_wp2
   refine⟨⟨n+1,k+1,rfl,by rw[ab.out],by omega,by rw[ah.out (fun h=>h7 (by omega))];exact U.out,HB.out.trans X.out⟩,by simp[intOf];omega⟩
  obtain rfl:k=9:=by omega
  obtain rfl:n=10:=by have:=ab.out;omega
  clear G o I ae;clear c6 ab V;have aJ:=QP true (v 7==0) v 9 (by omega);have aE:=hid (show QR true v z1 z2=Qi (Qi (Qz true (v 7==0) v 9) 32 z1) 48 z2 from rfl);generalize Qz true (v 7==0) v 9=E at*;have ao:E.length=64:=aJ;have ak:=hid ao;have U:=hid ai;have X:=hid ag;clear aJ ao hk be aV;go_wp2_with fail
  refine(Yf true _).mono ?_;rintro r w4 ⟨rfl,hw⟩;rw[hw];clear hw;rw[show((mB true:Nat):Int)=64 from rfl];go_wp2_with fail
  have Y:=ak;go_loopw [13] (fun i wr=> ∃j:Nat,i= .int .i64 (j:Nat)∧j≤z1.length∧RowB wr g (Qi E 32 (z1.take j))∧But g W5 wr) (fun i _=>z1.length - (intOf i).toNat)
  case atStart=>exact⟨0,rfl,Nat.zero_le _,by rw[List.take_zero,YP];exact D.out,HB.out⟩
  case round=>
   clear HB D al ac;obtain⟨j,rfl,hj,o,I⟩:=hrel;have D:=hid o;have HB:=hid I;have al:g+1<wr.heap.size:=by have:=I.size;omega
   have ac:q<wr.heap.size:=by omega
   have ap:g<wr.heap.size:=by omega
   have cz:wr.cell? ⟨q,9,none⟩=some (.slice a1 z1.length c1):=qd ((I.block q (by omega) (by omega)).trans aq.out) 9;by_cases V:j<z1.length
   case pos=>
    obtain⟨bb,aQ,rfl,q1,q2,q3,q4⟩:=JE a5.out (af▸av.out.trans (I.below (by omega) (by omega))) V;have aa:=o.set (32+j) (qr z1 j);rw[jg V (by have:=ak.out;have:=U.out;omega)]at aa;have ah:=hid aa;have G:(Qi E 32 (z1.take j)).length=64:=by rw[Qk (by rw[List.length_take];have:=Y.out;have:=U.out;have:=X.out;omega)];exact Y.out
    have co:=o.cell (i:=32+j) (by rw[G];have:=U.out;have:=X.out;omega);have fo:=frozen_of_row wr g (32+j) _ _ o;generalize qr (Qi E 32 (z1.take j)) (32+j)=zo at co;generalize qr z1 j=zj at*;have aN:(j:Int)<16:=by have:=U.out;have:=X.out;omega
    clear aa G o I;go_wp2
    exact⟨⟨j+1,rfl,by omega,ah.out,HB.out.set _ _⟩,by simp[intOf];omega⟩
   obtain rfl:j=z1.length:=by omega
   rw[List.take_length]at D;clear o I;clear hj V Y;have Y:=hid (show(Qi E 32 z1).length=64 from by rw[Qk (by have:=ak.out;have:=U.out;omega)];exact ak.out);go_wp2_with fail
   clear cz ap;go_loopw [14] (fun i wr=> ∃j:Nat,i= .int .i64 (j:Nat)∧j≤z2.length∧RowB wr g (Qi (Qi E 32 z1) 48 (z2.take j))∧But g W5 wr) (fun i _=>z2.length - (intOf i).toNat)
   case atStart=>exact⟨0,rfl,Nat.zero_le _,by rw[List.take_zero,YP];exact D.out,HB.out⟩
   case round=>
    clear HB D al ac;obtain⟨j,rfl,hj,o,I⟩:=hrel;have D:=hid o;have HB:=hid I;have al:g+1<wr.heap.size:=by have:=I.size;omega
    have ac:q<wr.heap.size:=by omega
    have ap:g<wr.heap.size:=by omega
    have cz:wr.cell? ⟨q,10,none⟩=some (.slice a2 z2.length c2):=qd ((I.block q (by omega) (by omega)).trans aq.out) 10;by_cases V:j<z2.length
    case pos=>
     obtain⟨bb,aQ,rfl,q1,q2,q3,q4⟩:=JE a3.out (af▸av.out.trans (I.below (by omega) (by omega))) V;have aa:=o.set (48+j) (qr z2 j);rw[jg V (by have:=Y.out;have:=X.out;omega)]at aa;have ah:=hid aa;have G:(Qi (Qi E 32 z1) 48 (z2.take j)).length=64:=by rw[Qk (by rw[List.length_take];have:=Y.out;have:=U.out;have:=X.out;omega)];exact Y.out
     have co:=o.cell (i:=48+j) (by rw[G];have:=U.out;have:=X.out;omega);have fo:=frozen_of_row wr g (48+j) _ _ o;generalize qr (Qi (Qi E 32 z1) 48 (z2.take j)) (48+j)=zo at co;generalize qr z2 j=zj at*;have aN:(j:Int)<16:=by have:=U.out;have:=X.out;omega
     clear aa G o I;go_wp2
     exact⟨⟨j+1,rfl,by omega,ah.out,HB.out.set _ _⟩,by simp[intOf];omega⟩
    obtain rfl:j=z2.length:=by omega
    rw[List.take_length]at D;clear o I;clear hj V;go_wp2
    go_ret2
    refine⟨⟨_,rfl,?_⟩,by rw[af];exact av.out.trans (HB.out.below (by omega) (by omega))⟩;have au:=yh (big:=true) (v:=v) U.out X.out;refine⟨by rw[List.length_map,au];rfl,.inr ⟨g,64,_,rfl,by omega,D.out,Nat.le_refl _,by unfold maxLen;omega,?_,?_⟩⟩
    ·rw[List.size_toArray,List.length_map,←aE.out,au];rfl
    ·rw[←aE.out];exact List.take_of_length_le (by rw[List.length_map,au];decide)
theorem Zv (v:Nat→Nat)(z1 z2:List Int)(sa pe:Value)(w:World)(hP:ParOk false v)(h1:Hold w sa z1)(h2:Hold w pe z2)(ai:z1.length≤8)(ag:z2.length≤8):
  Calls Tryz.prog 138 #[.int .i64 2,parN v sa pe] w fun e w'=>(∃r,e= .returned (.tuple #[r,.int .i64 0])∧w'.ownsRow w.heap.size 5 1 r 32 ((QR false v z1 z2).map qt))∧Below w.heap.size w w':=by
 obtain⟨a1,c1,rfl,aM,a4⟩:=h1.slice;obtain⟨a2,c2,rfl,a7,aR⟩:=h2.slice;obtain⟨i0,hi,aU,a9,aY⟩:=info_parts QD;obtain⟨q,af⟩:=Ex w.heap.size;have aG:=hid (Zj hP a1 a2 c1 c2 ai ag);have aw:=hid hP.x0;have ax:=hid hP.le;have be:((v 5:Nat):Int)<4294967296:=by have:=hP.lf;omega
 have aV:((v 7:Nat):Int)<4294967296:=by have:=hP.x0;omega
 have Z: ∀f,1≤f→f≤9→IntKind.u64.wrap ((v f:Nat):Int)=((v f:Nat):Int):=fun f f1 f2=>u64_wrap_id _ (by omega) (by have:=ax.out f f1 f2;omega)
 have a8:=Z 1 (by omega) (by omega);have bf:=Z 2 (by omega) (by omega);have bd:=Z 3 (by omega) (by omega);have bc:=Z 4 (by omega) (by omega);have aO:=Z 5 (by omega) (by omega);have aS:=Z 7 (by omega) (by omega);have aX:=Z 8 (by omega) (by omega);have aW:=Z 9 (by omega) (by omega);have aB:Below q w (w.alloc (.cells #[.int .i64 (v 1:Nat),.int .i64 (v 2:Nat),.int .i64 (v 3:Nat),.int .i64 (v 4:Nat),.int .u32 (v 5:Nat),.int .u64 (v 6:Nat),.int .u32 (v 7:Nat),.int .i64 (v 8:Nat),.int .i64 (v 9:Nat),.slice a1 z1.length c1,.slice a2 z2.length c2] 171)):=by rw[←af];exact Br.alloc Nl _
 have ad:=Wn w (.cells #[.int .i64 (v 1:Nat),.int .i64 (v 2:Nat),.int .i64 (v 3:Nat),.int .i64 (v 4:Nat),.int .u32 (v 5:Nat),.int .u64 (v 6:Nat),.int .u32 (v 7:Nat),.int .i64 (v 8:Nat),.int .i64 (v 9:Nat),.slice a1 z1.length c1,.slice a2 z2.length c2] 171);rw[af]at ad;have a5:=hid h1;have a3:=hid h2;have bj:=hid hP;clear hP h1 h2 Z aM a4 a7 aR;unfold parN yT;unfold parN yT at aG;go_enter Tryz.func138,Tryz.ntmps138
 go_upto_region 1 with(fail)
 generalize w.alloc (.cells #[.int .i64 (v 1:Nat),.int .i64 (v 2:Nat),.int .i64 (v 3:Nat),.int .i64 (v 4:Nat),.int .u32 (v 5:Nat),.int .u64 (v 6:Nat),.int .u32 (v 7:Nat),.int .i64 (v 8:Nat),.int .i64 (v 9:Nat),.slice a1 z1.length c1,.slice a2 z2.length c2] 171)=wA at*;go_wp2_with ((with_reducible show wpList _ _ _ (Oper.mk _ (Op.load 171 _) _ _ _ _::_) _ _);refine wpList_load_row rfl 171 _ rfl q rfl _ _ _ _ ad Tryz.underlying171 rfl (by kernel_rfl) ?_)
 refine(aG.out wA).mono ?_;rintro e J ⟨rfl,aj⟩;have O:=qg ad aj;have aT:=aj.size;have aK:q<wA.heap.size:=(Ai ad).1;have bg:q<J.heap.size:=by omega
 have aD:Below q w J:=aB.trans (aj.mono (by omega));have d0:J.cell? ⟨q,0,none⟩=some (.int .i64 (v 1:Nat)):=qd O 0;have d1:J.cell? ⟨q,1,none⟩=some (.int .i64 (v 2:Nat)):=qd O 1;have d2:J.cell? ⟨q,2,none⟩=some (.int .i64 (v 3:Nat)):=qd O 2;have d3:J.cell? ⟨q,3,none⟩=some (.int .i64 (v 4:Nat)):=qd O 3;have d4:J.cell? ⟨q,4,none⟩=some (.int .u32 (v 5:Nat)):=qd O 4;have d5:J.cell? ⟨q,5,none⟩=some (.int .u64 (v 6:Nat)):=qd O 5;have d6:J.cell? ⟨q,6,none⟩=some (.int .u32 (v 7:Nat)):=qd O 6;have d7:J.cell? ⟨q,7,none⟩=some (.int .i64 (v 8:Nat)):=qd O 7;have d8:J.cell? ⟨q,8,none⟩=some (.int .i64 (v 9:Nat)):=qd O 8;have aF:=hid O;have ay:=hid aD;clear aj aB ad O aD aT aK;go_wp2_with fail
 refine(j6 false _).mono ?_;rintro e w2 ⟨rfl,hw⟩;rw[hw];clear hw;rw[show((mB false:Nat):Int)=32 from rfl];have az:=fun W:World=>run_make (P:=Tryz.prog) W 24 5 i0 (.int .u8 0) Tryz.underlying24 hi aU .i64 .i64 32 32 (by omega) (by omega) (by rw[aY];omega) (by omega)
 simp only[a9]at az;go_wp2_with fail
 obtain⟨g,hg⟩:=Ex J.heap.size;have aI:madeCells #[.int .u8 0] 32=((List.replicate 32 (0:Int)).map qt).toArray:=by
  apply Array.toList_inj.1
  rw[toList_madeCells_one];simp[qt]
 have bl:((J.alloc (.cells (madeCells #[.int .u8 0] 32) 5)).alloc (.cells (ZN v) 44)).heap.size=g+2:=by simp[hg]
 have aC:RowB ((J.alloc (.cells (madeCells #[.int .u8 0] 32) 5)).alloc (.cells (ZN v) 44)) g (Qz false (v 7==0) v 0):=by
  unfold RowB;rw[Bh _ _ _ (by simp[hg]),aI,←hg];exact Wn _ _
 have ar:((J.alloc (.cells (madeCells #[.int .u8 0] 32) 5)).alloc (.cells (ZN v) 44)).heap[g+1]? =some (.cells (ZN v) 44 (0,0)):=by
  rw[show g+1=(J.alloc (.cells (madeCells #[.int .u8 0] 32) 5)).heap.size by simp[hg]];exact Wn _ _
 have aH:((J.alloc (.cells (madeCells #[.int .u8 0] 32) 5)).alloc (.cells (ZN v) 44)).heap[q]? =some (.cells #[.int .i64 (v 1:Nat),.int .i64 (v 2:Nat),.int .i64 (v 3:Nat),.int .i64 (v 4:Nat),.int .u32 (v 5:Nat),.int .u64 (v 6:Nat),.int .u32 (v 7:Nat),.int .i64 (v 8:Nat),.int .i64 (v 9:Nat),.slice a1 z1.length c1,.slice a2 z2.length c2] 171 (0,0)):=by
  rw[Bh _ _ _ (by simp;omega),Bh _ _ _ (by omega)];exact aF.out
 have aA:Below q w ((J.alloc (.cells (madeCells #[.int .u8 0] 32) 5)).alloc (.cells (ZN v) 44)):=(ay.out.alloc (by omega) _).alloc (by simp;omega) _;change Code.wp _ _ _ _ ((J.alloc (.cells (madeCells #[.int .u8 0] 32) 5)).alloc (.cells (ZN v) 44))
 rw[hg];have bk:q<g:=by omega
 generalize ((J.alloc (.cells (madeCells #[.int .u8 0] 32) 5)).alloc (.cells (ZN v) 44))=W5 at*;have ba:=hid aC;have aL:=hid ar;have aq:=hid aH;have av:=hid aA;clear aC ar aH aA aI az aF ay hg d0 d1 d2 d3 d4 d5 d6 d7 d8 a8 bf bd bc aO aS aX aW;go_loopw [9] (fun f wr=> ∃n k:Nat,f= .int .i64 (n:Nat)∧n=k+1∧k≤9∧RowB wr g (Qz false (v 7==0) v k)∧But g W5 wr) (fun f _=>10 - (intOf f).toNat)
 case atStart=>exact⟨1,0,rfl,rfl,by omega,ba.out,But.refl _ _⟩
 case round=>
  obtain⟨n,k,rfl,ae,hk,o,I⟩:=hrel;have ab:=hid ae;have D:=hid o;have HB:=hid I;have al:g+1<wr.heap.size:=by have:=I.size;omega
  have c6:wr.cell? ⟨q,6,none⟩=some (.int .u32 (v 7:Nat)):=qd ((I.block q (by omega) (by omega)).trans aq.out) 6;have ac:q<wr.heap.size:=by omega
  have G:=QP false (v 7==0) v k hk;by_cases V:k<9
  case pos=>
   have bi:(n:Int)≤9:=by omega
   have bh:1≤(n:Int):=by omega
   have aP:(n:Int) - 1=(k:Nat):=by omega
   have cv:wr.cell? ⟨g+1,k,none⟩=some (.int .u64 (v (k+1):Nat)):=(qd ((I.block (g+1) (by omega) (by omega)).trans aL.out) k).trans (qfQ v V);rw[←ae]at cv;have a6:(k:Int)<9:=by omega
   have aZ:=hid (jt false n ⟨by omega,by omega⟩);have an:=QY false false n (by omega) (by omega);rw[show szE false false n=szB false n by simp[szE]]at an;have HL:=hid (qch (Qz false (v 7==0) v k) g 32 32 (atB false n) (szB false n) (by omega) (by rw[G];show _≤32;have:=an.2.2.2;have:=this rfl;omega) (by rw[G];rfl) Nl (by decide) (v n) (ax.out n (by omega) (by omega)) wr o);have am: ¬(k+1=7∧(v 7==0)=true)→Qz false (v 7==0) v (k+1)=Qi (Qz false (v 7==0) v k) (atB false n) (Qg (v n) (szB false n)):=fun h=>by rw[Qz,if_neg h,ae]
   have ah:=hid am;clear am o I ae an G;by_cases h7:k=6
   case pos=>
    obtain rfl:n=7:=by have:=ab.out;omega
    subst h7;clear aP a6;have hq:((v 7:Int)==0)=true:=by rw[aw.out];rfl
    go_wp2
    refine⟨⟨8,7,rfl,rfl,by omega,?_,HB.out⟩,by simp[intOf]⟩;have e:Qz false (v 7==0) v 7=Qz false (v 7==0) v 6:=by rw[Qz,if_pos ⟨rfl,by rw[aw.out];rfl⟩]
    rw[e];exact D.out
   have h8: ¬((n:Int)=7):=by have:=ab.out;omega
   have h9: ¬(n=7):=by have:=ab.out;omega
   go_wp2_with fail
   refine(aZ.out _).mono ?_;rintro r w4 ⟨rfl,hw⟩;rw[hw];clear hw;go_wp2_with fail
   refine HL.out.mono ?_;rintro r w4 ⟨rfl,ai,ag⟩;have U:=hid ai;have X:=hid ag;clear ai ag c6 cv;go_wp2
   refine⟨⟨n+1,k+1,rfl,by rw[ab.out],by omega,by rw[ah.out (fun h=>h7 (by omega))];exact U.out,HB.out.trans X.out⟩,by simp[intOf];omega⟩
  obtain rfl:k=9:=by omega
  obtain rfl:n=10:=by have:=ab.out;omega
  clear G o I ae;clear c6 ab V;have aJ:=QP false (v 7==0) v 9 (by omega);have aE:=hid (show QR false v z1 z2=Qi (Qi (Qz false (v 7==0) v 9) 16 z1) 24 z2 from rfl);generalize Qz false (v 7==0) v 9=E at*;have ao:E.length=32:=aJ;have ak:=hid ao;have U:=hid ai;have X:=hid ag;clear aJ ao hk be aV;go_wp2_with fail
  refine(Yf false _).mono ?_;rintro r w4 ⟨rfl,hw⟩;rw[hw];clear hw;rw[show((mB false:Nat):Int)=32 from rfl];go_wp2_with fail
  have Y:=ak;go_loopw [13] (fun i wr=> ∃j:Nat,i= .int .i64 (j:Nat)∧j≤z1.length∧RowB wr g (Qi E 16 (z1.take j))∧But g W5 wr) (fun i _=>z1.length - (intOf i).toNat)
  case atStart=>exact⟨0,rfl,Nat.zero_le _,by rw[List.take_zero,YP];exact D.out,HB.out⟩
  case round=>
   clear HB D al ac;obtain⟨j,rfl,hj,o,I⟩:=hrel;have D:=hid o;have HB:=hid I;have al:g+1<wr.heap.size:=by have:=I.size;omega
   have ac:q<wr.heap.size:=by omega
   have ap:g<wr.heap.size:=by omega
   have cz:wr.cell? ⟨q,9,none⟩=some (.slice a1 z1.length c1):=qd ((I.block q (by omega) (by omega)).trans aq.out) 9;by_cases V:j<z1.length
   case pos=>
    obtain⟨bb,aQ,rfl,q1,q2,q3,q4⟩:=JE a5.out (af▸av.out.trans (I.below (by omega) (by omega))) V;have aa:=o.set (16+j) (qr z1 j);rw[jg V (by have:=ak.out;have:=U.out;omega)]at aa;have ah:=hid aa;have G:(Qi E 16 (z1.take j)).length=32:=by rw[Qk (by rw[List.length_take];have:=Y.out;have:=U.out;have:=X.out;omega)];exact Y.out
    have co:=o.cell (i:=16+j) (by rw[G];have:=U.out;have:=X.out;omega);have fo:=frozen_of_row wr g (16+j) _ _ o;generalize qr (Qi E 16 (z1.take j)) (16+j)=zo at co;generalize qr z1 j=zj at*;have aN:(j:Int)<8:=by have:=U.out;have:=X.out;omega
    clear aa G o I;go_wp2
    exact⟨⟨j+1,rfl,by omega,ah.out,HB.out.set _ _⟩,by simp[intOf];omega⟩
   obtain rfl:j=z1.length:=by omega
   rw[List.take_length]at D;clear o I;clear hj V Y;have Y:=hid (show(Qi E 16 z1).length=32 from by rw[Qk (by have:=ak.out;have:=U.out;omega)];exact ak.out);go_wp2_with fail
   clear cz ap;go_loopw [14] (fun i wr=> ∃j:Nat,i= .int .i64 (j:Nat)∧j≤z2.length∧RowB wr g (Qi (Qi E 16 z1) 24 (z2.take j))∧But g W5 wr) (fun i _=>z2.length - (intOf i).toNat)
   case atStart=>exact⟨0,rfl,Nat.zero_le _,by rw[List.take_zero,YP];exact D.out,HB.out⟩
   case round=>
    clear HB D al ac;obtain⟨j,rfl,hj,o,I⟩:=hrel;have D:=hid o;have HB:=hid I;have al:g+1<wr.heap.size:=by have:=I.size;omega
    have ac:q<wr.heap.size:=by omega
    have ap:g<wr.heap.size:=by omega
    have cz:wr.cell? ⟨q,10,none⟩=some (.slice a2 z2.length c2):=qd ((I.block q (by omega) (by omega)).trans aq.out) 10;by_cases V:j<z2.length
    case pos=>
     obtain⟨bb,aQ,rfl,q1,q2,q3,q4⟩:=JE a3.out (af▸av.out.trans (I.below (by omega) (by omega))) V;have aa:=o.set (24+j) (qr z2 j);rw[jg V (by have:=Y.out;have:=X.out;omega)]at aa;have ah:=hid aa;have G:(Qi (Qi E 16 z1) 24 (z2.take j)).length=32:=by rw[Qk (by rw[List.length_take];have:=Y.out;have:=U.out;have:=X.out;omega)];exact Y.out
     have co:=o.cell (i:=24+j) (by rw[G];have:=U.out;have:=X.out;omega);have fo:=frozen_of_row wr g (24+j) _ _ o;generalize qr (Qi (Qi E 16 z1) 24 (z2.take j)) (24+j)=zo at co;generalize qr z2 j=zj at*;have aN:(j:Int)<8:=by have:=U.out;have:=X.out;omega
     clear aa G o I;go_wp2
     exact⟨⟨j+1,rfl,by omega,ah.out,HB.out.set _ _⟩,by simp[intOf];omega⟩
    obtain rfl:j=z2.length:=by omega
    rw[List.take_length]at D;clear o I;clear hj V;go_wp2
    go_ret2
    refine⟨⟨_,rfl,?_⟩,by rw[af];exact av.out.trans (HB.out.below (by omega) (by omega))⟩;have au:=yh (big:=false) (v:=v) U.out X.out;refine⟨by rw[List.length_map,au];rfl,.inr ⟨g,32,_,rfl,by omega,D.out,Nat.le_refl _,by unfold maxLen;omega,?_,?_⟩⟩
    ·rw[List.size_toArray,List.length_map,←aE.out,au];rfl
    ·rw[←aE.out];exact List.take_of_length_le (by rw[List.length_map,au];decide)
theorem qiT (b:List Int)(g n c p k:Nat)(hk:k≤8)(hp:p+k≤b.length)(Y:n=b.length)(hc:n≤c)(ab:n≤65535)(x:Nat)(hx:(x:Int)≤18446744073709551615)(w:World)(h:RowB w g b):
  Calls Tryz.prog 135 #[.slice (some ⟨g,0,none⟩) n c,.int .i64 (p:Nat),.int .i64 (k:Nat),.int .u64 (x:Nat)] w fun e w'=>e= .returned (.tuple #[])∧RowB w' g (Qi b p (Qg x k))∧But g w w':=by
 have U:g<w.heap.size:=(Ai h).1;have Z:=hid h;have HN:=hid Y;have ad:(p:Int)+k≤n:=by omega
 have aa:(n:Int)≤65535:=by omega
 clear h Y;go_enter Tryz.func135,Tryz.ntmps135
 go_wp2_with fail
 go_loopw [10] (fun i wr=> ∃j:Nat,i= .int .i64 (j:Nat)∧j≤k∧RowB wr g (Qi b p (Qg x j))∧But g w wr) (fun i _=>k - (intOf i).toNat)
 case atStart=>exact⟨0,rfl,Nat.zero_le _,by show RowB w g (Qi b p []);rw[YP];exact Z.out,But.refl _ _⟩
 case round=>
  obtain⟨j,rfl,hj,o,G⟩:=hrel;by_cases ac:j<k
  ·have hl:(Qi b p (Qg x j)).length=b.length:=Qk (by rw[Qa];omega);have X:=o.cell (i:=p+j) (by have:=HN.out;omega);have ae:=frozen_of_row wr g (p+j) _ _ o;have af:g<wr.heap.size:=Nat.lt_of_lt_of_le U G.size;have q:=zM x j;have D:=o.set (p+j) (byt x j);have e:(Qi b p (Qg x j)).set (p+j) (byt x j)=Qi b p (Qg x (j+1)):=by
    have O:=JY (b:=b) (zs:=Qg x j) (p:=p) (z:=byt x j) (by rw[Qa];omega);rw[Qa]at O;rw[←O,zL]
   rw[e]at D;have V:=hid D;have I:=hid G;generalize qr (Qi b p (Qg x j)) (p+j)=z0 at X;have J:(j:Int)<k∧(k:Int)≤8∧0≤(j:Int)∧(p:Int)+j<n:=by omega
   obtain⟨q1,q2,q3,q4⟩:=J;clear D e hl o G;go_wp2
   exact⟨⟨j+1,rfl,by omega,V.out,I.out.set _ _⟩,by simp[intOf];omega⟩
  ·obtain rfl:j=k:=by omega
   have I:=hid G;have HW:=hid o;clear G o;go_wp2
   go_end0
   exact⟨rfl,HW.out,I.out⟩
theorem qg1 {big:Bool}{v:Nat→Nat}(D:ParOk big v)(J I:Value)(f:Nat)(G:1≤f)(o:f≤9)(w:World):
  Calls Tryz.prog 136 #[parN v J I,.int .i64 (f:Nat)] w fun e w'=>e= .returned (.int .u64 (v f:Nat))∧Below w.heap.size w w':=by
 have q:IntKind.u64.wrap ((v f:Nat):Int)=((v f:Nat):Int):=u64_wrap_id _ (by omega) (by have:=D.le f G o;omega);unfold parN yT;clear D;rcases(show f=1∨f=2∨f=3∨f=4∨f=5∨f=6∨f=7∨f=8∨f=9 by omega)with rfl|rfl|rfl|rfl|rfl|rfl|rfl|rfl|rfl
 all_goals
  clear G o;go_enter Tryz.func136,Tryz.ntmps136
  go_wp2_with fail
  go_ret
  exact⟨rfl,Br.alloc Nl _⟩
end Go.Proofs.YthjoojnlnlmljaaGreat
