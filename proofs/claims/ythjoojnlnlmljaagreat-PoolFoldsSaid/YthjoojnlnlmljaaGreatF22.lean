/- The output of a hasher of words. No condition. -/
import Derived.Test.YthjoojnlnlmljaaGreatF21
import Derived.Test.YthjoojnlnlmljaaGreatF16
import Derived.Test.YthjoojnlnlmljaaGreatF20
set_option linter.all false
set_option maxRecDepth 100000
set_option maxHeartbeats 8000000
namespace Go.Proofs.YthjoojnlnlmljaaGreat
open Go.ChangeShapes Go.WideShapes Go.ChangeAt Go.RowKit Go.Joins Go.Shelf Go.Maps
open Go.Lib (hid)
attribute [local go_sem] Oper.semAt_some
theorem qgP (h0 J:List Int)(node:Bool)(hh:Words 64 8 h0)(hm: ∀z∈J,0≤z∧z≤255)(p:Nat)(hv:Value)(w:World)(hE:QL true w p hv h0 J)(aM:(J.length:Int)≤281474976710656):
  Calls Tryz.prog 258 #[.pointer (some ⟨p,0,none⟩),.bool node] w fun e w'=> ∃v,e= .returned v∧w'.ownsRow w.heap.size 5 1 v 64 ((Y0 true h0 J node).map qp)∧Below w.heap.size w w':=by
 have bo:p<w.heap.size:=(Ai hE.1).1;obtain⟨ae,aa⟩:=hE;have aw:=Jf (Ys true) J;have aF:=ZM (Ys true) J;have ap:=YT (n:=bB true) hm;have ag:=yD true hh J (nbk (bB true) J.length);have aB:=JM (Ys true) J;have aq:Y0 true h0 J node=qJ 8 (yk true (stZ true h0 J (nbk (bB true) J.length)) (Qv 128 (Q1 (bB true) J)) ((bB true*nbk (bB true) J.length+(Q1 (bB true) J).length:Nat):Int) true node) 8:=by rw[aw];unfold Y0;rw[aB];rfl
 simp only[cond]at ae;rw[aq];clear aq aB hh;generalize stZ true h0 J (nbk (bB true) J.length)=H1 at*;generalize bB true*nbk (bB true) J.length=ah at*;generalize Q1 (bB true) J=Y at*;have ax:Y.length≤128:=aF;clear hm aF;obtain⟨a1,n1,c1,rfl⟩:=qu aa;obtain rfl:n1=Y.length:=yF aa;have aI:=Qn aa ap;obtain⟨s1,aH⟩:=Ex (ah+Y.length);have au:=qcW ah Y.length (by omega);have ak:(s1:Int)<9223372036854775808:=by omega
 have bp:=hid ak;rw[aH]at au⊢;have al:=Q8 (n:=128) ap;have aj:=QC (n:=128) ax;have ao:=Z4 Y (.slice a1 Y.length c1) 128;obtain⟨PZ,aD⟩:=Ex (Qv 128 Y);rw[aD]at al aj ao⊢;have an:=QH true ag PZ (s1:Nat) true node;have ay:=qdy H1 PZ ag;obtain⟨R,V⟩:=Ex (yk true H1 PZ (s1:Nat) true node);have ad:=fun(v:Value) (W:World) (h8:Holds8 W v PZ)=>ay v s1 ak true node W h8 al aj
 rw[V]at an⊢;simp only[V]at ad;have aX:=hid au;have a7:=hid ao;have aN:=hid ad;have aC:=hid ag;have aQ:=hid an;have af:=hid ae;have aS:=hid aI;clear au ao ay ad ag an ae aI aa aw aH aD V al aj ap ak aM;have bj:(Y.length:Int)≤128:=by omega
 go_enter Tryz.func258,Tryz.ntmps258
 go_upto_region 1 with(fail)
 refine Q3 (fun _ W=>Below w.heap.size w W) 15 [.v 8 (.pointer (some ⟨p,0,none⟩)),.v 9 (.pointer (some ⟨p,0,none⟩)),.v 10 (.pointer (some ⟨p,8,none⟩)),.v 11 (.agg #[.int .u64 (ah:Nat),.int .u64 0]),.v 12 (.pointer (some ⟨p,0,none⟩)),.v 13 (.pointer (some ⟨p,0,none⟩)),.v 14 (.pointer (some ⟨p,10,none⟩)),.v 15 (.slice a1 Y.length c1),.v 16 (.int .i64 (Y.length:Nat)),.v 17 (.int .u64 (Y.length:Nat)),.v 18 (.tuple #[.agg #[.int .u64 (s1:Nat),.int .u64 0],.bool false]),.v 7 (.tuple #[.agg #[.int .u64 (s1:Nat),.int .u64 0],.bool false]),.v 19 (.agg #[.int .u64 (s1:Nat),.int .u64 0]),.v 20 (.bool false),.p 5 (fun u W=> ∃O,u= .pointer (some ⟨O,0,none⟩)∧w.heap.size≤O∧ ∃c,W.heap[O]? =some (.cells c 281 (0,0))∧c.size=2),.f none [5] (fun vs W=> ∃O,vs=[.pointer (some ⟨O,0,none⟩)]∧w.heap.size≤O∧W.heap[O]? =some (.cells #[.int .u64 (s1:Nat),.int .u64 0] 281 (0,0))),.v 6 (.bool false)] (by exact⟨(fun _ _ X _ h=>by obtain⟨O,e,h3,c,h4,h5⟩:=h;exact⟨O,e,h3,c,qe h4 X,h5⟩),(fun _ _ X _ h=>by obtain⟨O,e,h3,h4⟩:=h;exact⟨O,e,h3,qe h4 X⟩),trivial⟩) Br.drew (fun _ _ _ h X=>h.trans (X.mono h.size)) ?_ ?_ ?_
 ·repeat' (with_reducible first|exact qx|refine qt ?_ ?_)
  all_goals try
   refine .inr ?_;intro A x W f G V hf o D K I;have a0:=G.2 0 (by decide);conv at a0=>rhs;whnf
   simp only[QJ,QS]at D;clear o G;first
   | go_simp
     exact I _ _ BR rfl
   | have y0:IntKind.u64.wrap (Y.length:Int)=(Y.length:Int):=u64_wrap_id _ (by omega) (by omega)
     go_simp
     exact I _ _ BR rfl
  any_goals exact .inl rfl
  all_goals refine .inr ?_
  ·intro A x W f G V hf o _ K I;have a3:=gw G o 2 10;clear o G;have Z:=qe af.out V;refine qV 281 _ rfl p 8 a3 283 _ #[.int .u64 (ah:Nat),.int .u64 0] (0,0) _ Z Tryz.underlying281 rfl (by kernel_rfl) (qcR _ _ _) (I _ _ Br rfl)
  ·intro A x W f G V hf o _ K I;have bh:=gw G o 6 14;clear o G;have Z:=qe af.out V;have c0:W.cell? ⟨p,10,none⟩=some (.slice a1 Y.length c1):=qa Z 10;go_simp
   exact I _ _ BR rfl
  ·intro A x W f G V hf o _ K I;have bi:=gw G o 3 11;have bt:=gw G o 9 17;clear o G;go_simp
   refine(aX.out _).mono ?_;rintro e w' ⟨rfl,X⟩;exact I _ _ X rfl
  ·intro A x W f G V hf o _ K I;clear o G;go_simp
   exact I _ _ (Br.alloc Nl _) ⟨W.heap.size,rfl,V.size,_,Wn W _,rfl⟩
 ·intro A x W G V o K I;have g5:(fun u W=> ∃O,u= .pointer (some ⟨O,0,none⟩)∧w.heap.size≤O∧ ∃c,W.heap[O]? =some (.cells c 281 (0,0))∧c.size=2) (x 5) W:=o ⟨14,.data⟩ (by simp) rfl;have a5:A.tmps.getD 5 undef=x 5:=G.1 5 (by decide);have aV:=gw G o 12 19;clear o G;obtain⟨O,e5,aJ,c,ar,aW⟩:=g5;refine wp_store_row 281 _ _ rfl O #[.int .u64 (s1:Nat),.int .u64 0] (a5.trans e5) aV 281 c ar (by kernel_rfl) (by rw[aW];rfl) (by simp[Value.oneCell']) ?_;have a8:Below w.heap.size w (W.setRow O #[.int .u64 (s1:Nat),.int .u64 0]):=below_setRow V aJ _;refine I _ _ (fun _=>rfl) a8 ⟨.inr (fun _ h=>h),.inr (fun _ h=>h),.inr (fun _ h=>h),.inr (fun _ h=>h),.inr (fun _ h=>h),.inr (fun _ h=>h),.inr (fun _ h=>h),.inr (fun _ h=>h),.inr (fun _ h=>h),.inr (fun _ h=>h),.inr (fun _ h=>h),.inr (fun _ h=>h),.inr (fun _ h=>h),.inr (fun _ h=>h),.inr (fun u h=>?_),.inl rfl,.inr (fun _ h=>h),trivial⟩ ⟨O,by simp[e5],aJ,setRow_heap _ _ _ _ _ _ ar⟩;obtain⟨q,e,q1,c',q2,q3⟩:=h;refine⟨q,e,q1,?_⟩;by_cases hq:q=O
  ·subst hq;exact⟨_,setRow_heap _ _ _ _ _ _ ar,rfl⟩
  ·exact⟨c',(setRow_other _ _ _ _ hq).trans q2,q3⟩
 intro x W V ac;obtain⟨e5,aL, -⟩:=ac;change (fun u W=> ∃O,u= .pointer (some ⟨O,0,none⟩)∧w.heap.size≤O∧ ∃c,W.heap[O]? =some (.cells c 281 (0,0))∧c.size=2) (x 5) W at e5
 obtain⟨pc,e5,aR, -⟩:=e5;obtain⟨bl,aE,aK,av⟩:=aL;simp only[List.map_cons,List.map_nil,e5,List.cons.injEq,Value.pointer.injEq,Option.some.injEq,Addr.mk.injEq,and_true]at aE;obtain rfl:=aE;simp only[Qx,Act.put,Ls,e5];clear e5;have ai:=qe af.out V;have aA:=aS.out.below V;have ab:=hid ai;have aO:=hid aA;have aZ:=hid av;have aY:=hid V;have a9:p<W.heap.size:=(Ai ai).1;have ba:pc<W.heap.size:=(Ai av).1;have am:w.heap.size≤W.heap.size:=V.size;clear ai aA av V x aR aK;generalize W=W2 at*;go_upto_region 2 with(fail)
 refine qA (n:=26) (w0:=W2) (B:=W2.heap.size) [.v 21 (.pointer (some ⟨p,0,none⟩)),.v 22 (.pointer (some ⟨p,0,none⟩)),.v 23 (.pointer (some ⟨p,13,none⟩)),.v 24 (.func (.func 185) #[] #[]),.v 25 (.pointer (some ⟨p,0,none⟩)),.v 26 (.pointer (some ⟨p,0,none⟩)),.v 27 (.pointer (some ⟨p,12,none⟩)),.v 28 (.func (.func 184) #[] #[]),.v 29 (.pointer (some ⟨p,0,none⟩)),.v 30 (.pointer (some ⟨p,0,none⟩)),.v 31 (.pointer (some ⟨p,0,none⟩)),.v 32 (.agg (qg .u64 H1)),.v 33 (.pointer (some ⟨p,0,none⟩)),.v 34 (.pointer (some ⟨p,0,none⟩)),.v 35 (.pointer (some ⟨p,10,none⟩)),.v 36 (.slice a1 Y.length c1),.v 37 (.pointer (some ⟨p,0,none⟩)),.v 38 (.pointer (some ⟨p,0,none⟩)),.v 39 (.pointer (some ⟨p,11,none⟩)),.v 40 (.int .i64 128),.p 41 (fun u W=>W.ownsRow W2.heap.size 5 1 u 128 (PZ.map qp)),.v 42 (.agg #[.int .u64 (s1:Nat),.int .u64 0]),.v 43 (.bool node),.v 44 (.agg (qg .u64 R)),.p 45 (fun u W=>W.ownsRow W2.heap.size 5 1 u 64 ((qJ 8 R 8).map qp)),.p 4 (fun u W=>W.ownsRow W2.heap.size 5 1 u 64 ((qJ 8 R 8).map qp))] (by exact⟨(fun _ _ _ h X=>qi h (fun g _ hg=>X.block g hg)),(fun _ _ _ h X=>qi h (fun g _ hg=>X.block g hg)),(fun _ _ _ h X=>qi h (fun g _ hg=>X.block g hg)),trivial⟩) Br.drew Nl ?_ ?_
 ·repeat' (with_reducible first|exact qx|refine qt ?_ ?_)
  all_goals try
   intro A x W G U S o D K I;have a0:=G.2 0 (by decide);conv at a0=>rhs;whnf
   have a1:=G.2 1 (by decide);conv at a1=>rhs;whnf
   simp only[QJ,QS]at D;clear o G;go_simp
   exact I _ _ BR rfl
  ·intro A x W G U S o _ K I;have bb:=gv G o 2 23;clear o G;have Z:=qe ab.out U;have c0:W.cell? ⟨p,13,none⟩=some (.func (.func 185) #[] #[]):=qa Z 13;go_simp
   exact I _ _ BR rfl
  ·intro A x W G U S o _ K I;have bn:=gv G o 6 27;clear o G;have Z:=qe ab.out U;have c0:W.cell? ⟨p,12,none⟩=some (.func (.func 184) #[] #[]):=qa Z 12;go_simp
   exact I _ _ BR rfl
  ·intro A x W G U S o _ K I;have a4:=gv G o 10 31;clear o G;have Z:=qe ab.out U;refine qV 274 _ rfl p 0 a4 283 _ (qg .u64 H1) (0,0) _ Z Tryz.underlying274 rfl (by rw[qd,aC.out.1];kernel_rfl) (qhc aC.out _ _) (I _ _ Br rfl)
  ·intro A x W G U S o _ K I;have be:=gv G o 14 35;clear o G;have Z:=qe ab.out U;have c0:W.cell? ⟨p,10,none⟩=some (.slice a1 Y.length c1):=qa Z 10;go_simp
   exact I _ _ BR rfl
  ·intro A x W G U S o _ K I;have bc:=gv G o 18 39;clear o G;have Z:=qe ab.out U;have c0:W.cell? ⟨p,11,none⟩=some (.int .i64 128):=qa Z 11;go_simp
   exact I _ _ BR rfl
  ·intro A x W G U S o _ K I;have bf:=gv G o 15 36;have bs:=gv G o 19 40;clear o G;go_simp
   refine(a7.out _ (aO.out.below U) ax (by decide)).mono ?_;rintro e w' ⟨u,rfl,ho,X⟩;exact I _ _ X (ownsRow_le ho S)
  ·intro A x W G U S o _ K I;have a5:=G.2 5 (by decide);conv at a5=>rhs;whnf
   clear o G;have Z:=qe aZ.out U;refine wp_load_row 281 _ rfl pc a5 _ _ _ _ Z Tryz.underlying281 rfl (by kernel_rfl) (I _ _ Br rfl)
  ·intro A x W G U S o _ K I;have bg:=gv G o 7 28;have bk:=gv G o 11 32;have aT:(fun u W=>W.ownsRow W2.heap.size 5 1 u 128 (PZ.map qp)) (x 41) W:=o ⟨20,.data⟩ (by simp) rfl _ rfl;have br:A.tmps.getD 41 undef=x 41:=G.1 41 (by decide);have bd:=gv G o 21 42;have bq:=gv G o 22 43;clear o G;go_simp
   refine(aN.out _ _ (QR aT)).mono ?_;rintro e w' ⟨rfl,X⟩;exact I _ _ X rfl
  ·intro A x W G U S o _ K I;have bu:=gv G o 3 24;have bm:=gv G o 23 44;clear o G;go_simp
   refine(qe7 R aQ.out _).mono ?_;rintro e w' ⟨u,rfl,ho,X⟩;exact I _ _ X (ownsRow_le ho S)
  ·intro A x W G U S o _ K I;have aU:(fun u W=>W.ownsRow W2.heap.size 5 1 u 64 ((qJ 8 R 8).map qp)) (x 45) W:=o ⟨24,.data⟩ (by simp) rfl _ rfl;have aP:A.tmps.getD 45 undef=x 45:=G.1 45 (by decide);clear o G;go_simp
   exact I _ _ Br (aP▸aU)
 intro x W U S ac;obtain⟨az,aG,e4, -⟩:=ac;change (fun u W=>W.ownsRow W2.heap.size 5 1 u 128 (PZ.map qp)) (x 41) W at az
 change (fun u W=>W.ownsRow W2.heap.size 5 1 u 64 ((qJ 8 R 8).map qp)) (x 45) W at aG
 change (fun u W=>W.ownsRow W2.heap.size 5 1 u 64 ((qJ 8 R 8).map qp)) (x 4) W at e4
 refine qs ?_;simp only[Qx,Act.put,Ls];have a6:=aY.out.trans (U.mono am);have E4:=hid (ownsRow_le e4 am);clear az aG e4 U S;go_wp2
 go_ret
 exact⟨_,rfl,E4.out,a6⟩
theorem qf3 (h0 J:List Int)(node:Bool)(hh:Words 32 8 h0)(hm: ∀z∈J,0≤z∧z≤255)(p:Nat)(hv:Value)(w:World)(hE:QL false w p hv h0 J)(aM:(J.length:Int)≤281474976710656):
  Calls Tryz.prog 264 #[.pointer (some ⟨p,0,none⟩),.bool node] w fun e w'=> ∃v,e= .returned v∧w'.ownsRow w.heap.size 5 1 v 32 ((Y0 false h0 J node).map qp)∧Below w.heap.size w w':=by
 have bo:p<w.heap.size:=(Ai hE.1).1;obtain⟨ae,aa⟩:=hE;have aw:=Jf (Ys false) J;have aF:=ZM (Ys false) J;have ap:=YT (n:=bB false) hm;have ag:=yD false hh J (nbk (bB false) J.length);have aB:=JM (Ys false) J;have aq:Y0 false h0 J node=qJ 4 (yk false (stZ false h0 J (nbk (bB false) J.length)) (Qv 64 (Q1 (bB false) J)) ((bB false*nbk (bB false) J.length+(Q1 (bB false) J).length:Nat):Int) true node) 8:=by rw[aw];unfold Y0;rw[aB];rfl
 simp only[cond]at ae;rw[aq];clear aq aB hh;generalize stZ false h0 J (nbk (bB false) J.length)=H1 at*;generalize bB false*nbk (bB false) J.length=ah at*;generalize Q1 (bB false) J=Y at*;have ax:Y.length≤64:=aF;clear hm aF;obtain⟨a1,n1,c1,rfl⟩:=qu aa;obtain rfl:n1=Y.length:=yF aa;have aI:=Qn aa ap;obtain⟨s1,aH⟩:=Ex (ah+Y.length);have au:=qcW ah Y.length (by omega);have ak:(s1:Int)<9223372036854775808:=by omega
 have bp:=hid ak;rw[aH]at au⊢;have al:=Q8 (n:=64) ap;have aj:=QC (n:=64) ax;have ao:=Z4 Y (.slice a1 Y.length c1) 64;obtain⟨PZ,aD⟩:=Ex (Qv 64 Y);rw[aD]at al aj ao⊢;have an:=QH false ag PZ (s1:Nat) true node;have ay:=qbX H1 PZ ag;obtain⟨R,V⟩:=Ex (yk false H1 PZ (s1:Nat) true node);have ad:=fun(v:Value) (W:World) (h8:Holds8 W v PZ)=>ay v s1 ak true node W h8 al aj
 rw[V]at an⊢;simp only[V]at ad;have aX:=hid au;have a7:=hid ao;have aN:=hid ad;have aC:=hid ag;have aQ:=hid an;have af:=hid ae;have aS:=hid aI;clear au ao ay ad ag an ae aI aa aw aH aD V al aj ap ak aM;have bj:(Y.length:Int)≤64:=by omega
 go_enter Tryz.func264,Tryz.ntmps264
 go_upto_region 1 with(fail)
 refine Q3 (fun _ W=>Below w.heap.size w W) 15 [.v 8 (.pointer (some ⟨p,0,none⟩)),.v 9 (.pointer (some ⟨p,0,none⟩)),.v 10 (.pointer (some ⟨p,8,none⟩)),.v 11 (.agg #[.int .u64 (ah:Nat),.int .u64 0]),.v 12 (.pointer (some ⟨p,0,none⟩)),.v 13 (.pointer (some ⟨p,0,none⟩)),.v 14 (.pointer (some ⟨p,10,none⟩)),.v 15 (.slice a1 Y.length c1),.v 16 (.int .i64 (Y.length:Nat)),.v 17 (.int .u64 (Y.length:Nat)),.v 18 (.tuple #[.agg #[.int .u64 (s1:Nat),.int .u64 0],.bool false]),.v 7 (.tuple #[.agg #[.int .u64 (s1:Nat),.int .u64 0],.bool false]),.v 19 (.agg #[.int .u64 (s1:Nat),.int .u64 0]),.v 20 (.bool false),.p 5 (fun u W=> ∃O,u= .pointer (some ⟨O,0,none⟩)∧w.heap.size≤O∧ ∃c,W.heap[O]? =some (.cells c 281 (0,0))∧c.size=2),.f none [5] (fun vs W=> ∃O,vs=[.pointer (some ⟨O,0,none⟩)]∧w.heap.size≤O∧W.heap[O]? =some (.cells #[.int .u64 (s1:Nat),.int .u64 0] 281 (0,0))),.v 6 (.bool false)] (by exact⟨(fun _ _ X _ h=>by obtain⟨O,e,h3,c,h4,h5⟩:=h;exact⟨O,e,h3,c,qe h4 X,h5⟩),(fun _ _ X _ h=>by obtain⟨O,e,h3,h4⟩:=h;exact⟨O,e,h3,qe h4 X⟩),trivial⟩) Br.drew (fun _ _ _ h X=>h.trans (X.mono h.size)) ?_ ?_ ?_
 ·repeat' (with_reducible first|exact qx|refine qt ?_ ?_)
  all_goals try
   refine .inr ?_;intro A x W f G V hf o D K I;have a0:=G.2 0 (by decide);conv at a0=>rhs;whnf
   simp only[QJ,QS]at D;clear o G;first
   | go_simp
     exact I _ _ BR rfl
   | have y0:IntKind.u64.wrap (Y.length:Int)=(Y.length:Int):=u64_wrap_id _ (by omega) (by omega)
     go_simp
     exact I _ _ BR rfl
  any_goals exact .inl rfl
  all_goals refine .inr ?_
  ·intro A x W f G V hf o _ K I;have a3:=gw G o 2 10;clear o G;have Z:=qe af.out V;refine qV 281 _ rfl p 8 a3 291 _ #[.int .u64 (ah:Nat),.int .u64 0] (0,0) _ Z Tryz.underlying281 rfl (by kernel_rfl) (qcQ _ _ _) (I _ _ Br rfl)
  ·intro A x W f G V hf o _ K I;have bh:=gw G o 6 14;clear o G;have Z:=qe af.out V;have c0:W.cell? ⟨p,10,none⟩=some (.slice a1 Y.length c1):=qa Z 10;go_simp
   exact I _ _ BR rfl
  ·intro A x W f G V hf o _ K I;have bi:=gw G o 3 11;have bt:=gw G o 9 17;clear o G;go_simp
   refine(aX.out _).mono ?_;rintro e w' ⟨rfl,X⟩;exact I _ _ X rfl
  ·intro A x W f G V hf o _ K I;clear o G;go_simp
   exact I _ _ (Br.alloc Nl _) ⟨W.heap.size,rfl,V.size,_,Wn W _,rfl⟩
 ·intro A x W G V o K I;have g5:(fun u W=> ∃O,u= .pointer (some ⟨O,0,none⟩)∧w.heap.size≤O∧ ∃c,W.heap[O]? =some (.cells c 281 (0,0))∧c.size=2) (x 5) W:=o ⟨14,.data⟩ (by simp) rfl;have a5:A.tmps.getD 5 undef=x 5:=G.1 5 (by decide);have aV:=gw G o 12 19;clear o G;obtain⟨O,e5,aJ,c,ar,aW⟩:=g5;refine wp_store_row 281 _ _ rfl O #[.int .u64 (s1:Nat),.int .u64 0] (a5.trans e5) aV 281 c ar (by kernel_rfl) (by rw[aW];rfl) (by simp[Value.oneCell']) ?_;have a8:Below w.heap.size w (W.setRow O #[.int .u64 (s1:Nat),.int .u64 0]):=below_setRow V aJ _;refine I _ _ (fun _=>rfl) a8 ⟨.inr (fun _ h=>h),.inr (fun _ h=>h),.inr (fun _ h=>h),.inr (fun _ h=>h),.inr (fun _ h=>h),.inr (fun _ h=>h),.inr (fun _ h=>h),.inr (fun _ h=>h),.inr (fun _ h=>h),.inr (fun _ h=>h),.inr (fun _ h=>h),.inr (fun _ h=>h),.inr (fun _ h=>h),.inr (fun _ h=>h),.inr (fun u h=>?_),.inl rfl,.inr (fun _ h=>h),trivial⟩ ⟨O,by simp[e5],aJ,setRow_heap _ _ _ _ _ _ ar⟩;obtain⟨q,e,q1,c',q2,q3⟩:=h;refine⟨q,e,q1,?_⟩;by_cases hq:q=O
  ·subst hq;exact⟨_,setRow_heap _ _ _ _ _ _ ar,rfl⟩
  ·exact⟨c',(setRow_other _ _ _ _ hq).trans q2,q3⟩
 intro x W V ac;obtain⟨e5,aL, -⟩:=ac;change (fun u W=> ∃O,u= .pointer (some ⟨O,0,none⟩)∧w.heap.size≤O∧ ∃c,W.heap[O]? =some (.cells c 281 (0,0))∧c.size=2) (x 5) W at e5
 obtain⟨pc,e5,aR, -⟩:=e5;obtain⟨bl,aE,aK,av⟩:=aL;simp only[List.map_cons,List.map_nil,e5,List.cons.injEq,Value.pointer.injEq,Option.some.injEq,Addr.mk.injEq,and_true]at aE;obtain rfl:=aE;simp only[Qx,Act.put,Ls,e5];clear e5;have ai:=qe af.out V;have aA:=aS.out.below V;have ab:=hid ai;have aO:=hid aA;have aZ:=hid av;have aY:=hid V;have a9:p<W.heap.size:=(Ai ai).1;have ba:pc<W.heap.size:=(Ai av).1;have am:w.heap.size≤W.heap.size:=V.size;clear ai aA av V x aR aK;generalize W=W2 at*;go_upto_region 2 with(fail)
 refine qA (n:=26) (w0:=W2) (B:=W2.heap.size) [.v 21 (.pointer (some ⟨p,0,none⟩)),.v 22 (.pointer (some ⟨p,0,none⟩)),.v 23 (.pointer (some ⟨p,13,none⟩)),.v 24 (.func (.func 188) #[] #[]),.v 25 (.pointer (some ⟨p,0,none⟩)),.v 26 (.pointer (some ⟨p,0,none⟩)),.v 27 (.pointer (some ⟨p,12,none⟩)),.v 28 (.func (.func 187) #[] #[]),.v 29 (.pointer (some ⟨p,0,none⟩)),.v 30 (.pointer (some ⟨p,0,none⟩)),.v 31 (.pointer (some ⟨p,0,none⟩)),.v 32 (.agg (qg .u32 H1)),.v 33 (.pointer (some ⟨p,0,none⟩)),.v 34 (.pointer (some ⟨p,0,none⟩)),.v 35 (.pointer (some ⟨p,10,none⟩)),.v 36 (.slice a1 Y.length c1),.v 37 (.pointer (some ⟨p,0,none⟩)),.v 38 (.pointer (some ⟨p,0,none⟩)),.v 39 (.pointer (some ⟨p,11,none⟩)),.v 40 (.int .i64 64),.p 41 (fun u W=>W.ownsRow W2.heap.size 5 1 u 64 (PZ.map qp)),.v 42 (.agg #[.int .u64 (s1:Nat),.int .u64 0]),.v 43 (.bool node),.v 44 (.agg (qg .u32 R)),.p 45 (fun u W=>W.ownsRow W2.heap.size 5 1 u 32 ((qJ 4 R 8).map qp)),.p 4 (fun u W=>W.ownsRow W2.heap.size 5 1 u 32 ((qJ 4 R 8).map qp))] (by exact⟨(fun _ _ _ h X=>qi h (fun g _ hg=>X.block g hg)),(fun _ _ _ h X=>qi h (fun g _ hg=>X.block g hg)),(fun _ _ _ h X=>qi h (fun g _ hg=>X.block g hg)),trivial⟩) Br.drew Nl ?_ ?_
 ·repeat' (with_reducible first|exact qx|refine qt ?_ ?_)
  all_goals try
   intro A x W G U S o D K I;have a0:=G.2 0 (by decide);conv at a0=>rhs;whnf
   have a1:=G.2 1 (by decide);conv at a1=>rhs;whnf
   simp only[QJ,QS]at D;clear o G;go_simp
   exact I _ _ BR rfl
  ·intro A x W G U S o _ K I;have bb:=gv G o 2 23;clear o G;have Z:=qe ab.out U;have c0:W.cell? ⟨p,13,none⟩=some (.func (.func 188) #[] #[]):=qa Z 13;go_simp
   exact I _ _ BR rfl
  ·intro A x W G U S o _ K I;have bn:=gv G o 6 27;clear o G;have Z:=qe ab.out U;have c0:W.cell? ⟨p,12,none⟩=some (.func (.func 187) #[] #[]):=qa Z 12;go_simp
   exact I _ _ BR rfl
  ·intro A x W G U S o _ K I;have a4:=gv G o 10 31;clear o G;have Z:=qe ab.out U;refine qV 284 _ rfl p 0 a4 291 _ (qg .u32 H1) (0,0) _ Z Tryz.underlying284 rfl (by rw[qd,aC.out.1];kernel_rfl) (qhb aC.out _ _) (I _ _ Br rfl)
  ·intro A x W G U S o _ K I;have be:=gv G o 14 35;clear o G;have Z:=qe ab.out U;have c0:W.cell? ⟨p,10,none⟩=some (.slice a1 Y.length c1):=qa Z 10;go_simp
   exact I _ _ BR rfl
  ·intro A x W G U S o _ K I;have bc:=gv G o 18 39;clear o G;have Z:=qe ab.out U;have c0:W.cell? ⟨p,11,none⟩=some (.int .i64 64):=qa Z 11;go_simp
   exact I _ _ BR rfl
  ·intro A x W G U S o _ K I;have bf:=gv G o 15 36;have bs:=gv G o 19 40;clear o G;go_simp
   refine(a7.out _ (aO.out.below U) ax (by decide)).mono ?_;rintro e w' ⟨u,rfl,ho,X⟩;exact I _ _ X (ownsRow_le ho S)
  ·intro A x W G U S o _ K I;have a5:=G.2 5 (by decide);conv at a5=>rhs;whnf
   clear o G;have Z:=qe aZ.out U;refine wp_load_row 281 _ rfl pc a5 _ _ _ _ Z Tryz.underlying281 rfl (by kernel_rfl) (I _ _ Br rfl)
  ·intro A x W G U S o _ K I;have bg:=gv G o 7 28;have bk:=gv G o 11 32;have aT:(fun u W=>W.ownsRow W2.heap.size 5 1 u 64 (PZ.map qp)) (x 41) W:=o ⟨20,.data⟩ (by simp) rfl _ rfl;have br:A.tmps.getD 41 undef=x 41:=G.1 41 (by decide);have bd:=gv G o 21 42;have bq:=gv G o 22 43;clear o G;go_simp
   refine(aN.out _ _ (QR aT)).mono ?_;rintro e w' ⟨rfl,X⟩;exact I _ _ X rfl
  ·intro A x W G U S o _ K I;have bu:=gv G o 3 24;have bm:=gv G o 23 44;clear o G;go_simp
   refine(qe8 R aQ.out _).mono ?_;rintro e w' ⟨u,rfl,ho,X⟩;exact I _ _ X (ownsRow_le ho S)
  ·intro A x W G U S o _ K I;have aU:(fun u W=>W.ownsRow W2.heap.size 5 1 u 32 ((qJ 4 R 8).map qp)) (x 45) W:=o ⟨24,.data⟩ (by simp) rfl _ rfl;have aP:A.tmps.getD 45 undef=x 45:=G.1 45 (by decide);clear o G;go_simp
   exact I _ _ Br (aP▸aU)
 intro x W U S ac;obtain⟨az,aG,e4, -⟩:=ac;change (fun u W=>W.ownsRow W2.heap.size 5 1 u 64 (PZ.map qp)) (x 41) W at az
 change (fun u W=>W.ownsRow W2.heap.size 5 1 u 32 ((qJ 4 R 8).map qp)) (x 45) W at aG
 change (fun u W=>W.ownsRow W2.heap.size 5 1 u 32 ((qJ 4 R 8).map qp)) (x 4) W at e4
 refine qs ?_;simp only[Qx,Act.put,Ls];have a6:=aY.out.trans (U.mono am);have E4:=hid (ownsRow_le e4 am);clear az aG e4 U S;go_wp2
 go_ret
 exact⟨_,rfl,E4.out,a6⟩
def Q9 (kind dg:Int)(bv kv:Value)(last:Bool)(wr:Int)(e:Value):Array Value:= #[.int .i64 kind,.int .i64 dg,bv,kv,.bool last,.int .u64 wr,e]
def phT (big:Bool):TypeId:=cond big 277 287
theorem Hold.of_len {w:World}{a:Option Addr}{n c:Nat}{zs:List Int}(h:Hold w (.slice a n c) zs):n=zs.length:=by
 obtain⟨o,q,e, -⟩:=h.slice;simp only[Value.slice.injEq]at e;exact e.2.1
theorem Yo {w:World}{v:Value}{zs:List Int}{b:Nat}(h:Hold w v zs)(o:zs≠[])(D:v.ownBlock=some b):b<w.heap.size:=by
 rcases h.2 with⟨G, -⟩|⟨J,I,rfl, -, -,q⟩
 ·exact absurd G o
 ·obtain⟨b',off,rfl,q, -⟩:=q.resolve_left o;simp only[Value.ownBlock,Option.some.injEq]at D;subst D;exact q
theorem qgW {W:World}{q:Nat}{o J:Int}{I G:Value}{D:Bool}{wr:Int}{e v:Value}{T:TypeId}(h:W.heap[q]? =some (.cells (Q9 o J I G D wr e) T (0,0))):(W.setCell ⟨q,6,none⟩ v).heap[q]? =some (.cells (Q9 o J I G D wr v) T (0,0)):=heap_setCell_same W q 6 _ _ v h
theorem ja {W:World}{q:Nat}{o I:Int}{G D:Value}{J b:Bool}{wr:Int}{e:Value}{T:TypeId}(h:W.heap[q]? =some (.cells (Q9 o I G D J wr e) T (0,0))):(W.setCell ⟨q,4,none⟩ (.bool b)).heap[q]? =some (.cells (Q9 o I G D b wr e) T (0,0)):=heap_setCell_same W q 4 _ _ _ h
theorem qfo {W:World}{q:Nat}{o J:Int}{I G:Value}{D:Bool}{wr x:Int}{e:Value}{T:TypeId}(h:W.heap[q]? =some (.cells (Q9 o J I G D wr e) T (0,0))):(W.setCell ⟨q,5,none⟩ (.int .u64 x)).heap[q]? =some (.cells (Q9 o J I G D x e) T (0,0)):=heap_setCell_same W q 5 _ _ _ h
theorem qau {big:Bool}{W:World}{p:Nat}{o:List Int}(h:W.heap[p]? =some (.cells (cond big Y4 Y3 o 0 (.slice none 0 0)) (cond big 283 291) (0,0))):QL big W p (.slice none 0 0) o []:=by
 have e:Q1 (bB big) []=[]:=by simp[Q1]
 refine⟨?_,by rw[e];exact Wo _ _ _ _⟩;simpa [qdx,stZ] using h
theorem yu {big:Bool}{W W':World}{p:Nat}{q:Value}{D o:List Int}(h:QL big W p q D o)(G:Below W.heap.size W W'):QL big W' p q D o:=
 ⟨qe h.1 G,qi h.2 (fun g _ I=>G.block g I)⟩
theorem qaU {W:World}{B n b:Nat}{e:TypeId}{v:Value}{q:List Value}(h:W.ownsRow B e 1 v n q)(o:v.ownBlock=some b):B≤b:=by
 rcases h.2 with⟨rfl, -⟩|⟨g,D,G,rfl,I, -⟩
 ·cases o
 ·simp only[Value.ownBlock,Option.some.injEq]at o;omega
theorem Ya {P:Program}{o:Oper}{a:Act}{K:Act→World→Prop}{Q:Exit→Act→World→Prop}{n:Nat}{T:TypeId}{x:Value}{q:String}{W:World}{f:FuncId}{g:FuncId×Value→World→Result Next}(D:(method n T x q).run P W= .ok (f,x) W)(h:Oper.upon P o a K Q (g (f,x) W)):Oper.upon P o a K Q (((method n T x q).run P W).andThen g):=by
 rw[D];exact h
theorem qfb (Z kz:List Int)(q:Nat)(dg wr:Int)(la:Bool)(bv kv e0:Value)(w:World)(aj:w.heap[q]? =some (.cells (Q9 1 dg bv kv la wr e0) 179 (0,0)))(hB:Hold w bv Z)(I:Hold w kv kz)(hl:Z.length=64)(aS:kz.length≤64)(ax:kv.ownBlock≠some q):
  Calls Tryz.prog 132 #[.pointer (some ⟨q,0,none⟩)] w fun e w'=>e= .returned (.tuple #[])∧(∃p hv,w.heap.size≤p∧w'.heap[q]? =some (.cells (Q9 1 dg bv kv false 0 (.iface 277 (.pointer (some ⟨p,0,none⟩)))) 179 (0,0))∧QL true w' p hv (h0Z true Z) (yf 128 kz)∧(∀g,hv.ownBlock=some g→w.heap.size≤g))∧Spare (fun k=>k≠q) w w':=by
 have aZ:q<w.heap.size:=(Ai aj).1;obtain⟨kn,kc,ka,rfl⟩: ∃n c a,kv= .slice a n c:=by obtain⟨a,c,e, -⟩:=I.slice;exact⟨_,_,_,e⟩
 obtain rfl:kn=kz.length:=I.of_len;have ak:=hid aj;have HB:=hid hB;have HK:=hid I;have HL:=hid hl;have aM:=hid ax;clear aj hB I hl ax;go_enter Tryz.func132,Tryz.ntmps132
 go_upto_region 0 with(fail)
 refine qA (n:=10) (w0:=w) (B:=w.heap.size) [.v 2 (.pointer (some ⟨q,0,none⟩)),.v 3 (.pointer (some ⟨q,0,none⟩)),.v 4 (.pointer (some ⟨q,0,none⟩)),.v 5 (.pointer (some ⟨q,0,none⟩)),.v 6 (.int .i64 1),.v 7 (.pointer (some ⟨q,0,none⟩)),.v 8 (.pointer (some ⟨q,0,none⟩)),.v 9 (.pointer (some ⟨q,2,none⟩)),.v 10 bv,.p 11 (fun u W=> ∃p,u= .iface 277 (.pointer (some ⟨p,0,none⟩))∧w.heap.size≤p∧W.heap[p]? =some (.cells (Y4 (h0Z true Z) 0 (.slice none 0 0)) 283 (0,0)))] (by exact⟨(fun _ _ _ h S=>by obtain⟨p,e,h3,h4⟩:=h;exact⟨p,e,h3,qe h4 S⟩),trivial⟩) Br.drew Nl ?_ ?_
 ·repeat' (with_reducible first|exact qx|refine qt ?_ ?_)
  all_goals try
   intro A x W G hW ac o D K I;have a0:=G.2 0 (by decide);conv at a0=>rhs;whnf
   simp only[QJ,QS]at D;clear o G;go_simp
   exact I _ _ BR rfl
  ·intro A x W G hW ac o _ K I;have g5:=gv G o 3 5;clear o G;have g0:=qe ak.out hW;have c0:W.cell? ⟨q,0,none⟩=some (.int .i64 1):=qa g0 0;go_simp
   exact I _ _ BR rfl
  ·intro A x W G hW ac o _ K I;have g9:=gv G o 7 9;clear o G;have g0:=qe ak.out hW;have c0:W.cell? ⟨q,2,none⟩=some bv:=qa g0 2;go_simp
   exact I _ _ BR rfl
  ·intro A x W G hW ac o _ K I;have g6:=gv G o 4 6;have a4:=gv G o 8 10;clear o G;go_simp
   refine(qfa Z bv _ (HB.out.holds8.mono_below hW Nl) HB.out.1 HL.out).mono ?_;rintro e w' ⟨p,rfl,h1,h2,S⟩;exact I _ _ S ⟨p,rfl,Nat.le_trans ac h1,h2⟩
 intro x W hW ac ai;obtain⟨ag, -⟩:=ai;change (fun u W=> ∃p,u= .iface 277 (.pointer (some ⟨p,0,none⟩))∧w.heap.size≤p∧W.heap[p]? =some (.cells (Y4 (h0Z true Z) 0 (.slice none 0 0)) 283 (0,0))) (x 11) W at ag
 obtain⟨p,ag,aC,ar⟩:=ag;refine qo ?_;simp only[Qx,Act.put,Ls,ag];clear ag;have ah:=qe ak.out hW;have aB:=hid ar;have ay:=hid ah;have HW:=hid hW;have aE:q<W.heap.size:=(Ai ah).1;have c6:W.cell? ⟨q,6,none⟩=some e0:=qa ah 6;have f6:=frozen_of_row W q 6 _ _ ah;clear ar ah hW ac x;go_wp2_with fail
 refine qo ?_;go_wp2_with fail
 refine qo ?_;go_wp2_with fail
 refine qs ?_;have O:=qgW (v:= .iface 277 (.pointer (some ⟨p,0,none⟩))) ay.out;have X:Spare (fun k=>k≠q) w (W.setCell ⟨q,6,none⟩ (.iface 277 (.pointer (some ⟨p,0,none⟩)))):=(Spare.of_below _ HW.out).trans (Spare.of_but ((But.refl q W).set 6 _)) (fun _ _ h=>h);have Y:(W.setCell ⟨q,6,none⟩ (.iface 277 (.pointer (some ⟨p,0,none⟩)))).heap[p]? =some (.cells (Y4 (h0Z true Z) 0 (.slice none 0 0)) 283 (0,0)):=(heap_setCell_other W _ _ _ (by show p≠q;omega)).trans aB.out;generalize W.setCell ⟨q,6,none⟩ (.iface 277 (.pointer (some ⟨p,0,none⟩)))=J at*;clear HW ay aB c6 f6 aE W;have c4:J.cell? ⟨q,4,none⟩=some (.bool la):=qa O 4;have f4:=frozen_of_row J q 4 _ _ O;have ad:q<J.heap.size:=(Ai O).1;have ab:=hid O;have V:=hid X;have aa:=hid Y;clear O X Y;go_upto_region 2 with(fail)
 have O:=ja (b:=false) ab.out;have X:Spare (fun k=>k≠q) w (J.setCell ⟨q,4,none⟩ (.bool false)):=V.out.trans (Spare.of_but ((But.refl q J).set 4 _)) (fun _ _ h=>h);have Y:(J.setCell ⟨q,4,none⟩ (.bool false)).heap[p]? =some (.cells (Y4 (h0Z true Z) 0 (.slice none 0 0)) 283 (0,0)):=(heap_setCell_other J _ _ _ (by show p≠q;omega)).trans aa.out;generalize J.setCell ⟨q,4,none⟩ (.bool false)=A1 at*;clear V ab aa c4 f4 ad J;obtain⟨J,rfl⟩:=Ex A1;have ab:=hid O;have V:=hid X;have aa:=hid Y;have ad:q<A1.heap.size:=(Ai O).1;have c5:A1.cell? ⟨q,5,none⟩=some (.int .u64 wr):=qa O 5;have f5:=frozen_of_row A1 q 5 _ _ O;clear O X Y;go_upto_region 3 with(fail)
 have O:=qfo (x:=0) ab.out;have X:Spare (fun k=>k≠q) w (A1.setCell ⟨q,5,none⟩ (.int .u64 0)):=V.out.trans (Spare.of_but ((But.refl q A1).set 5 _)) (fun _ _ h=>h);have Y:(A1.setCell ⟨q,5,none⟩ (.int .u64 0)).heap[p]? =some (.cells (Y4 (h0Z true Z) 0 (.slice none 0 0)) 283 (0,0)):=(heap_setCell_other A1 _ _ _ (by show p≠q;omega)).trans aa.out;have aG:w.heap.size≤(A1.setCell ⟨q,5,none⟩ (.int .u64 0)).heap.size:=X.size;generalize A1.setCell ⟨q,5,none⟩ (.int .u64 0)=J at*;clear V ab aa c5 f5 ad A1;have c3:J.cell? ⟨q,3,none⟩=some (.slice ka kz.length kc):=qa O 3;have ad:q<J.heap.size:=(Ai O).1;have aR:p<J.heap.size:=(Ai Y).1;have ab:=hid O;have V:=hid X;have aa:=hid Y;clear O X Y;by_cases al:kz.length=0
 case pos=>
  obtain rfl:kz=[]:=List.eq_nil_of_length_eq_zero al;go_wp2
  go_end0
  exact⟨rfl,⟨p,.slice none 0 0,aC,ab.out,qau aa.out,fun g h=>by cases h⟩,V.out⟩
 have ao:0<kz.length:=by omega
 have aX:(kz.length:Int)≤64:=by omega
 go_upto_region 4 with(fail)
 have az:Hold J (.slice ka kz.length kc) kz:=HK.out.keep V.out.size fun b S am=>V.out.block b am (fun e=>aM.out (by rw[S,e]))
 have aI:=hid az;have aq:=QC (n:=128) (zs:=kz) (by omega);have aK:=hid aq;have aN:=hid al;clear az aq al c3;have aP:(Value.slice ka kz.length kc).ownBlock≠some p:=fun e=>by have:=Yo HK.out (fun e=>by rw[e]at ao;simp at ao) e;omega
 refine Q3 (fun f W=>W.heap[q]? =some (.cells (Q9 1 dg bv (.slice ka kz.length kc) false 0 (.iface 277 (.pointer (some ⟨p,0,none⟩)))) 179 (0,0))∧(f=false→Below J.heap.size J W)∧(J.heap.size≤W.heap.size∧(∀b,b<J.heap.size→b≠p→W.heap[b]? =J.heap[b]?))∧(f=true→Spare (fun k=>k≠p) J W∧ ∃hv,QL true W p hv (h0Z true Z) (Qv 128 kz)∧ ∀g,hv.ownBlock=some g→J.heap.size≤g)) 16 [.v 26 (.pointer (some ⟨q,0,none⟩)),.v 27 (.pointer (some ⟨q,0,none⟩)),.v 28 (.pointer (some ⟨q,6,none⟩)),.v 29 (.iface 277 (.pointer (some ⟨p,0,none⟩))),.v 30 (.pointer (some ⟨q,0,none⟩)),.v 31 (.pointer (some ⟨q,0,none⟩)),.v 32 (.pointer (some ⟨q,3,none⟩)),.v 33 (.slice ka kz.length kc),.v 34 (.pointer (some ⟨q,0,none⟩)),.v 35 (.pointer (some ⟨q,0,none⟩)),.v 36 (.pointer (some ⟨q,0,none⟩)),.v 37 (.int .i64 1),.v 38 (.int .i64 128),.p 39 (fun u W=>W.ownsRow J.heap.size 5 1 u 128 ((Qv 128 kz).map qp)),.v 40 (.iface 277 (.pointer (some ⟨p,0,none⟩))),.v 41 (.iface 277 (.pointer (some ⟨p,0,none⟩))),.p 42 (fun _ _=>True)] (by exact⟨(fun _ _ S _ h=>qi h (fun g _ hg=>S.block g hg)),kW,trivial⟩) ⟨ab.out,fun _=>Br.drew,⟨Nat.le_refl _,fun _ _ _=>rfl⟩,fun h=>(by cases h)⟩ (fun f W W' h S=>⟨qe h.1 S,fun e=>(h.2.1 e).trans (S.mono (h.2.1 e).size),⟨Nat.le_trans h.2.2.1.1 S.size,fun b h1 h2=>(S.block b (Nat.lt_of_lt_of_le h1 h.2.2.1.1)).trans (h.2.2.1.2 b h1 h2)⟩,fun e=>by obtain⟨h1,hv,h2,h3⟩:=h.2.2.2 e;exact⟨h1.trans (Spare.of_below _ S) (fun _ _ h=>h),hv,yu h2 S,h3⟩⟩) ?_ ?_ ?_
 ·repeat' (with_reducible first|exact qx|refine qt ?_ ?_)
  all_goals try
   refine .inr ?_;intro A x W f G U hf o D K I;have a0:=G.2 0 (by decide);conv at a0=>rhs;whnf
   simp only[QJ,QS]at D;clear o G;go_simp
   exact I _ _ BR rfl
  any_goals exact .inl rfl
  all_goals refine .inr ?_
  ·intro A x W f G U hf o _ K I;have aU:=gw G o 2 28;clear o G;have g0:=U.1;have c0:W.cell? ⟨q,6,none⟩=some (.iface 277 (.pointer (some ⟨p,0,none⟩))):=qa g0 6;go_simp
   exact I _ _ BR rfl
  ·intro A x W f G U hf o _ K I;have aY:=gw G o 6 32;clear o G;have g0:=U.1;have c0:W.cell? ⟨q,3,none⟩=some (.slice ka kz.length kc):=qa g0 3;go_simp
   exact I _ _ BR rfl
  ·intro A x W f G U hf o _ K I;have aT:=gw G o 10 36;clear o G;have g0:=U.1;have c0:W.cell? ⟨q,0,none⟩=some (.int .i64 1):=qa g0 0;go_simp
   exact I _ _ BR rfl
  ·intro A x W f G U hf o _ K I;have a6:=gw G o 11 37;clear o G;go_simp
   refine(Ze true _).mono ?_;rintro e w' ⟨rfl,hw⟩;exact I _ _ (by rw[hw];exact Below.refl _ _) rfl
  ·intro A x W f G U hf o _ K I;have aW:=gw G o 7 33;have aV:=gw G o 12 38;clear o G;go_simp
   have aH:Hold W (.slice ka kz.length kc) kz:=aI.out.keep U.2.2.1.1 (fun b S am=>U.2.2.1.2 b am (fun e=>aP (by rw[S,e])));refine(Z4 kz _ 128 _ aH (by omega) (by decide)).mono ?_;rintro e w' ⟨u,rfl,ho,S⟩;exact I _ _ S (ownsRow_le ho U.2.2.1.1)
 ·intro A x W G U o K I;have a3:=gw G o 15 41;have an:(fun u W=>W.ownsRow J.heap.size 5 1 u 128 ((Qv 128 kz).map qp)) (x 39) W:=o ⟨13,.data⟩ (by simp) rfl;have a5:A.tmps.getD 39 undef=x 39:=G.1 39 (by decide);clear o G;have hB:=U.2.1 rfl;go_simp
  refine Ya (f:=260) (by kernel_rfl) ?_;go_simp
  have aQ:=Q8 (n:=128) HK.out.1;have aD:Hold W (x 39) (Qv 128 kz):=Qn an aQ;refine(qaw (h0Z true Z) [] (Qv 128 kz) (QK true Z) (fun _ h=>by cases h) p (.slice none 0 0) (x 39) W (qau (qe aa.out hB)) aD (fun _ b S=>⟨fun e=>by have:=qaU an S;omega,fun e=>by cases e⟩) (by rw[aK.out];simp)).mono ?_;rintro e w' ⟨rfl,⟨aJ,aL,af⟩,ae⟩
  refine I _ _ (fun h=>by cases h) ⟨(ae.block q (Ai U.1).1 ⟨by omega,fun e=>by cases e⟩).trans U.1,fun h=>(by cases h),⟨Nat.le_trans U.2.2.1.1 ae.size,fun b h1 h2=>(ae.block b (Nat.lt_of_lt_of_le h1 U.2.2.1.1) ⟨h2,fun e=>by cases e⟩).trans (U.2.2.1.2 b h1 h2)⟩,fun _=>⟨(Spare.of_below _ hB).trans ae (fun b _ h=>⟨h,fun e=>by cases e⟩),aJ,aL,fun g hg=>?_⟩⟩ ⟨.inr (fun _ h=>h),.inr (fun _ h=>h),.inr (fun _ h=>h),.inr (fun _ h=>h),.inr (fun _ h=>h),.inr (fun _ h=>h),.inr (fun _ h=>h),.inr (fun _ h=>h),.inr (fun _ h=>h),.inr (fun _ h=>h),.inr (fun _ h=>h),.inr (fun _ h=>h),.inr (fun _ h=>h),.inr (fun u h=>qi h (fun g h1 h2=>ae.block g h2 ⟨by omega,fun e=>by cases e⟩)),.inr (fun _ h=>h),.inr (fun _ h=>h),.inl rfl,trivial⟩ trivial;rcases af with af|af
  ·rw[af]at hg;cases hg
  ·have:=af g hg;have:=hB.size;omega
 intro x W U ai;obtain⟨aw,aF, -⟩:=ai;change (fun u W=>W.ownsRow J.heap.size 5 1 u 128 ((Qv 128 kz).map qp)) (x 39) W at aw
 change ((fun _ _=>True)) (x 42) W at aF
 simp only[Qx,Act.put,Ls];obtain⟨aA, -, -,h9⟩:=U;obtain⟨au,aO,ap,av⟩:=h9 rfl;have H9:=hid (show(∃p hv,w.heap.size≤p∧W.heap[q]? =some (.cells (Q9 1 dg bv (.slice ka kz.length kc) false 0 (.iface 277 (.pointer (some ⟨p,0,none⟩)))) 179 (0,0))∧QL true W p hv (h0Z true Z) (yf 128 kz)∧(∀g,hv.ownBlock=some g→w.heap.size≤g))∧Spare (fun k=>k≠q) w W from⟨⟨p,aO,aC,aA,by unfold yf;rw[if_neg aN.out];exact ap,fun g hg=>Nat.le_trans aG (av g hg)⟩,V.out.trans au (fun b S _=>by omega)⟩);clear aA au ap av h9 aw;go_wp2
 go_end0
 exact⟨rfl,H9.out⟩
theorem qdT (Z kz:List Int)(q:Nat)(dg wr:Int)(la:Bool)(bv kv e0:Value)(w:World)(aj:w.heap[q]? =some (.cells (Q9 2 dg bv kv la wr e0) 179 (0,0)))(hB:Hold w bv Z)(I:Hold w kv kz)(hl:Z.length=32)(aS:kz.length≤32)(ax:kv.ownBlock≠some q):
  Calls Tryz.prog 132 #[.pointer (some ⟨q,0,none⟩)] w fun e w'=>e= .returned (.tuple #[])∧(∃p hv,w.heap.size≤p∧w'.heap[q]? =some (.cells (Q9 2 dg bv kv false 0 (.iface 287 (.pointer (some ⟨p,0,none⟩)))) 179 (0,0))∧QL false w' p hv (h0Z false Z) (yf 64 kz)∧(∀g,hv.ownBlock=some g→w.heap.size≤g))∧Spare (fun k=>k≠q) w w':=by
 have aZ:q<w.heap.size:=(Ai aj).1;obtain⟨kn,kc,ka,rfl⟩: ∃n c a,kv= .slice a n c:=by obtain⟨a,c,e, -⟩:=I.slice;exact⟨_,_,_,e⟩
 obtain rfl:kn=kz.length:=I.of_len;have ak:=hid aj;have HB:=hid hB;have HK:=hid I;have HL:=hid hl;have aM:=hid ax;clear aj hB I hl ax;go_enter Tryz.func132,Tryz.ntmps132
 go_upto_region 0 with(fail)
 refine qA (n:=10) (w0:=w) (B:=w.heap.size) [.v 2 (.pointer (some ⟨q,0,none⟩)),.v 3 (.pointer (some ⟨q,0,none⟩)),.v 4 (.pointer (some ⟨q,0,none⟩)),.v 5 (.pointer (some ⟨q,0,none⟩)),.v 6 (.int .i64 2),.v 7 (.pointer (some ⟨q,0,none⟩)),.v 8 (.pointer (some ⟨q,0,none⟩)),.v 9 (.pointer (some ⟨q,2,none⟩)),.v 10 bv,.p 11 (fun u W=> ∃p,u= .iface 287 (.pointer (some ⟨p,0,none⟩))∧w.heap.size≤p∧W.heap[p]? =some (.cells (Y3 (h0Z false Z) 0 (.slice none 0 0)) 291 (0,0)))] (by exact⟨(fun _ _ _ h S=>by obtain⟨p,e,h3,h4⟩:=h;exact⟨p,e,h3,qe h4 S⟩),trivial⟩) Br.drew Nl ?_ ?_
 ·repeat' (with_reducible first|exact qx|refine qt ?_ ?_)
  all_goals try
   intro A x W G hW ac o D K I;have a0:=G.2 0 (by decide);conv at a0=>rhs;whnf
   simp only[QJ,QS]at D;clear o G;go_simp
   exact I _ _ BR rfl
  ·intro A x W G hW ac o _ K I;have g5:=gv G o 3 5;clear o G;have g0:=qe ak.out hW;have c0:W.cell? ⟨q,0,none⟩=some (.int .i64 2):=qa g0 0;go_simp
   exact I _ _ BR rfl
  ·intro A x W G hW ac o _ K I;have g9:=gv G o 7 9;clear o G;have g0:=qe ak.out hW;have c0:W.cell? ⟨q,2,none⟩=some bv:=qa g0 2;go_simp
   exact I _ _ BR rfl
  ·intro A x W G hW ac o _ K I;have g6:=gv G o 4 6;have a4:=gv G o 8 10;clear o G;go_simp
   refine(qdS Z bv _ (HB.out.holds8.mono_below hW Nl) HB.out.1 HL.out).mono ?_;rintro e w' ⟨p,rfl,h1,h2,S⟩;exact I _ _ S ⟨p,rfl,Nat.le_trans ac h1,h2⟩
 intro x W hW ac ai;obtain⟨ag, -⟩:=ai;change (fun u W=> ∃p,u= .iface 287 (.pointer (some ⟨p,0,none⟩))∧w.heap.size≤p∧W.heap[p]? =some (.cells (Y3 (h0Z false Z) 0 (.slice none 0 0)) 291 (0,0))) (x 11) W at ag
 obtain⟨p,ag,aC,ar⟩:=ag;refine qo ?_;simp only[Qx,Act.put,Ls,ag];clear ag;have ah:=qe ak.out hW;have aB:=hid ar;have ay:=hid ah;have HW:=hid hW;have aE:q<W.heap.size:=(Ai ah).1;have c6:W.cell? ⟨q,6,none⟩=some e0:=qa ah 6;have f6:=frozen_of_row W q 6 _ _ ah;clear ar ah hW ac x;go_wp2_with fail
 refine qo ?_;go_wp2_with fail
 refine qo ?_;go_wp2_with fail
 refine qs ?_;have O:=qgW (v:= .iface 287 (.pointer (some ⟨p,0,none⟩))) ay.out;have X:Spare (fun k=>k≠q) w (W.setCell ⟨q,6,none⟩ (.iface 287 (.pointer (some ⟨p,0,none⟩)))):=(Spare.of_below _ HW.out).trans (Spare.of_but ((But.refl q W).set 6 _)) (fun _ _ h=>h);have Y:(W.setCell ⟨q,6,none⟩ (.iface 287 (.pointer (some ⟨p,0,none⟩)))).heap[p]? =some (.cells (Y3 (h0Z false Z) 0 (.slice none 0 0)) 291 (0,0)):=(heap_setCell_other W _ _ _ (by show p≠q;omega)).trans aB.out;generalize W.setCell ⟨q,6,none⟩ (.iface 287 (.pointer (some ⟨p,0,none⟩)))=J at*;clear HW ay aB c6 f6 aE W;have c4:J.cell? ⟨q,4,none⟩=some (.bool la):=qa O 4;have f4:=frozen_of_row J q 4 _ _ O;have ad:q<J.heap.size:=(Ai O).1;have ab:=hid O;have V:=hid X;have aa:=hid Y;clear O X Y;go_upto_region 2 with(fail)
 have O:=ja (b:=false) ab.out;have X:Spare (fun k=>k≠q) w (J.setCell ⟨q,4,none⟩ (.bool false)):=V.out.trans (Spare.of_but ((But.refl q J).set 4 _)) (fun _ _ h=>h);have Y:(J.setCell ⟨q,4,none⟩ (.bool false)).heap[p]? =some (.cells (Y3 (h0Z false Z) 0 (.slice none 0 0)) 291 (0,0)):=(heap_setCell_other J _ _ _ (by show p≠q;omega)).trans aa.out;generalize J.setCell ⟨q,4,none⟩ (.bool false)=A1 at*;clear V ab aa c4 f4 ad J;obtain⟨J,rfl⟩:=Ex A1;have ab:=hid O;have V:=hid X;have aa:=hid Y;have ad:q<A1.heap.size:=(Ai O).1;have c5:A1.cell? ⟨q,5,none⟩=some (.int .u64 wr):=qa O 5;have f5:=frozen_of_row A1 q 5 _ _ O;clear O X Y;go_upto_region 3 with(fail)
 have O:=qfo (x:=0) ab.out;have X:Spare (fun k=>k≠q) w (A1.setCell ⟨q,5,none⟩ (.int .u64 0)):=V.out.trans (Spare.of_but ((But.refl q A1).set 5 _)) (fun _ _ h=>h);have Y:(A1.setCell ⟨q,5,none⟩ (.int .u64 0)).heap[p]? =some (.cells (Y3 (h0Z false Z) 0 (.slice none 0 0)) 291 (0,0)):=(heap_setCell_other A1 _ _ _ (by show p≠q;omega)).trans aa.out;have aG:w.heap.size≤(A1.setCell ⟨q,5,none⟩ (.int .u64 0)).heap.size:=X.size;generalize A1.setCell ⟨q,5,none⟩ (.int .u64 0)=J at*;clear V ab aa c5 f5 ad A1;have c3:J.cell? ⟨q,3,none⟩=some (.slice ka kz.length kc):=qa O 3;have ad:q<J.heap.size:=(Ai O).1;have aR:p<J.heap.size:=(Ai Y).1;have ab:=hid O;have V:=hid X;have aa:=hid Y;clear O X Y;by_cases al:kz.length=0
 case pos=>
  obtain rfl:kz=[]:=List.eq_nil_of_length_eq_zero al;go_wp2
  go_end0
  exact⟨rfl,⟨p,.slice none 0 0,aC,ab.out,qau aa.out,fun g h=>by cases h⟩,V.out⟩
 have ao:0<kz.length:=by omega
 have aX:(kz.length:Int)≤32:=by omega
 go_upto_region 4 with(fail)
 have az:Hold J (.slice ka kz.length kc) kz:=HK.out.keep V.out.size fun b S am=>V.out.block b am (fun e=>aM.out (by rw[S,e]))
 have aI:=hid az;have aq:=QC (n:=64) (zs:=kz) (by omega);have aK:=hid aq;have aN:=hid al;clear az aq al c3;have aP:(Value.slice ka kz.length kc).ownBlock≠some p:=fun e=>by have:=Yo HK.out (fun e=>by rw[e]at ao;simp at ao) e;omega
 refine Q3 (fun f W=>W.heap[q]? =some (.cells (Q9 2 dg bv (.slice ka kz.length kc) false 0 (.iface 287 (.pointer (some ⟨p,0,none⟩)))) 179 (0,0))∧(f=false→Below J.heap.size J W)∧(J.heap.size≤W.heap.size∧(∀b,b<J.heap.size→b≠p→W.heap[b]? =J.heap[b]?))∧(f=true→Spare (fun k=>k≠p) J W∧ ∃hv,QL false W p hv (h0Z false Z) (Qv 64 kz)∧ ∀g,hv.ownBlock=some g→J.heap.size≤g)) 16 [.v 26 (.pointer (some ⟨q,0,none⟩)),.v 27 (.pointer (some ⟨q,0,none⟩)),.v 28 (.pointer (some ⟨q,6,none⟩)),.v 29 (.iface 287 (.pointer (some ⟨p,0,none⟩))),.v 30 (.pointer (some ⟨q,0,none⟩)),.v 31 (.pointer (some ⟨q,0,none⟩)),.v 32 (.pointer (some ⟨q,3,none⟩)),.v 33 (.slice ka kz.length kc),.v 34 (.pointer (some ⟨q,0,none⟩)),.v 35 (.pointer (some ⟨q,0,none⟩)),.v 36 (.pointer (some ⟨q,0,none⟩)),.v 37 (.int .i64 2),.v 38 (.int .i64 64),.p 39 (fun u W=>W.ownsRow J.heap.size 5 1 u 64 ((Qv 64 kz).map qp)),.v 40 (.iface 287 (.pointer (some ⟨p,0,none⟩))),.v 41 (.iface 287 (.pointer (some ⟨p,0,none⟩))),.p 42 (fun _ _=>True)] (by exact⟨(fun _ _ S _ h=>qi h (fun g _ hg=>S.block g hg)),kW,trivial⟩) ⟨ab.out,fun _=>Br.drew,⟨Nat.le_refl _,fun _ _ _=>rfl⟩,fun h=>(by cases h)⟩ (fun f W W' h S=>⟨qe h.1 S,fun e=>(h.2.1 e).trans (S.mono (h.2.1 e).size),⟨Nat.le_trans h.2.2.1.1 S.size,fun b h1 h2=>(S.block b (Nat.lt_of_lt_of_le h1 h.2.2.1.1)).trans (h.2.2.1.2 b h1 h2)⟩,fun e=>by obtain⟨h1,hv,h2,h3⟩:=h.2.2.2 e;exact⟨h1.trans (Spare.of_below _ S) (fun _ _ h=>h),hv,yu h2 S,h3⟩⟩) ?_ ?_ ?_
 ·repeat' (with_reducible first|exact qx|refine qt ?_ ?_)
  all_goals try
   refine .inr ?_;intro A x W f G U hf o D K I;have a0:=G.2 0 (by decide);conv at a0=>rhs;whnf
   simp only[QJ,QS]at D;clear o G;go_simp
   exact I _ _ BR rfl
  any_goals exact .inl rfl
  all_goals refine .inr ?_
  ·intro A x W f G U hf o _ K I;have aU:=gw G o 2 28;clear o G;have g0:=U.1;have c0:W.cell? ⟨q,6,none⟩=some (.iface 287 (.pointer (some ⟨p,0,none⟩))):=qa g0 6;go_simp
   exact I _ _ BR rfl
  ·intro A x W f G U hf o _ K I;have aY:=gw G o 6 32;clear o G;have g0:=U.1;have c0:W.cell? ⟨q,3,none⟩=some (.slice ka kz.length kc):=qa g0 3;go_simp
   exact I _ _ BR rfl
  ·intro A x W f G U hf o _ K I;have aT:=gw G o 10 36;clear o G;have g0:=U.1;have c0:W.cell? ⟨q,0,none⟩=some (.int .i64 2):=qa g0 0;go_simp
   exact I _ _ BR rfl
  ·intro A x W f G U hf o _ K I;have a6:=gw G o 11 37;clear o G;go_simp
   refine(Ze false _).mono ?_;rintro e w' ⟨rfl,hw⟩;exact I _ _ (by rw[hw];exact Below.refl _ _) rfl
  ·intro A x W f G U hf o _ K I;have aW:=gw G o 7 33;have aV:=gw G o 12 38;clear o G;go_simp
   have aH:Hold W (.slice ka kz.length kc) kz:=aI.out.keep U.2.2.1.1 (fun b S am=>U.2.2.1.2 b am (fun e=>aP (by rw[S,e])));refine(Z4 kz _ 64 _ aH (by omega) (by decide)).mono ?_;rintro e w' ⟨u,rfl,ho,S⟩;exact I _ _ S (ownsRow_le ho U.2.2.1.1)
 ·intro A x W G U o K I;have a3:=gw G o 15 41;have an:(fun u W=>W.ownsRow J.heap.size 5 1 u 64 ((Qv 64 kz).map qp)) (x 39) W:=o ⟨13,.data⟩ (by simp) rfl;have a5:A.tmps.getD 39 undef=x 39:=G.1 39 (by decide);clear o G;have hB:=U.2.1 rfl;go_simp
  refine Ya (f:=266) (by kernel_rfl) ?_;go_simp
  have aQ:=Q8 (n:=64) HK.out.1;have aD:Hold W (x 39) (Qv 64 kz):=Qn an aQ;refine(JS (h0Z false Z) [] (Qv 64 kz) (QK false Z) (fun _ h=>by cases h) p (.slice none 0 0) (x 39) W (qau (qe aa.out hB)) aD (fun _ b S=>⟨fun e=>by have:=qaU an S;omega,fun e=>by cases e⟩) (by rw[aK.out];simp)).mono ?_;rintro e w' ⟨rfl,⟨aJ,aL,af⟩,ae⟩
  refine I _ _ (fun h=>by cases h) ⟨(ae.block q (Ai U.1).1 ⟨by omega,fun e=>by cases e⟩).trans U.1,fun h=>(by cases h),⟨Nat.le_trans U.2.2.1.1 ae.size,fun b h1 h2=>(ae.block b (Nat.lt_of_lt_of_le h1 U.2.2.1.1) ⟨h2,fun e=>by cases e⟩).trans (U.2.2.1.2 b h1 h2)⟩,fun _=>⟨(Spare.of_below _ hB).trans ae (fun b _ h=>⟨h,fun e=>by cases e⟩),aJ,aL,fun g hg=>?_⟩⟩ ⟨.inr (fun _ h=>h),.inr (fun _ h=>h),.inr (fun _ h=>h),.inr (fun _ h=>h),.inr (fun _ h=>h),.inr (fun _ h=>h),.inr (fun _ h=>h),.inr (fun _ h=>h),.inr (fun _ h=>h),.inr (fun _ h=>h),.inr (fun _ h=>h),.inr (fun _ h=>h),.inr (fun _ h=>h),.inr (fun u h=>qi h (fun g h1 h2=>ae.block g h2 ⟨by omega,fun e=>by cases e⟩)),.inr (fun _ h=>h),.inr (fun _ h=>h),.inl rfl,trivial⟩ trivial;rcases af with af|af
  ·rw[af]at hg;cases hg
  ·have:=af g hg;have:=hB.size;omega
 intro x W U ai;obtain⟨aw,aF, -⟩:=ai;change (fun u W=>W.ownsRow J.heap.size 5 1 u 64 ((Qv 64 kz).map qp)) (x 39) W at aw
 change ((fun _ _=>True)) (x 42) W at aF
 simp only[Qx,Act.put,Ls];obtain⟨aA, -, -,h9⟩:=U;obtain⟨au,aO,ap,av⟩:=h9 rfl;have H9:=hid (show(∃p hv,w.heap.size≤p∧W.heap[q]? =some (.cells (Q9 2 dg bv (.slice ka kz.length kc) false 0 (.iface 287 (.pointer (some ⟨p,0,none⟩)))) 179 (0,0))∧QL false W p hv (h0Z false Z) (yf 64 kz)∧(∀g,hv.ownBlock=some g→w.heap.size≤g))∧Spare (fun k=>k≠q) w W from⟨⟨p,aO,aC,aA,by unfold yf;rw[if_neg aN.out];exact ap,fun g hg=>Nat.le_trans aG (av g hg)⟩,V.out.trans au (fun b S _=>by omega)⟩);clear aA au ap av h9 aw;go_wp2
 go_end0
 exact⟨rfl,H9.out⟩
def Fresh (base:Nat)(W:World)(v:Value)(zs:List Int):Prop:=
 (zs=[]∧v= .slice none 0 0)∨ ∃g cap cur,v= .slice (some ⟨g,0,none⟩) zs.length cap∧base≤g∧W.heap[g]? =some (.cells cur 5 (0,0))∧zs.length≤cap∧cap≤cur.size∧cap≤maxLen∧cur.toList.take zs.length=zs.map qp
theorem Fresh.below {base:Nat}{W W':World}{v:Value}{zs:List Int}(h:Fresh base W v zs)(I:Below W.heap.size W W'):Fresh base W' v zs:=by
 rcases h with h|⟨g,o,q,e,J,D,G⟩
 ·exact .inl h
 ·exact .inr ⟨g,o,q,e,J,qe D I,G⟩
theorem Fresh.le {base b':Nat}{W:World}{v:Value}{zs:List Int}(h:Fresh base W v zs)(G:b'≤base):Fresh b' W v zs:=by
 rcases h with h|⟨g,o,q,e,I,D⟩
 ·exact .inl h
 ·exact .inr ⟨g,o,q,e,Nat.le_trans G I,D⟩
theorem Fresh.hold {base:Nat}{W:World}{v:Value}{zs:List Int}(h:Fresh base W v zs)(O: ∀z∈zs,0≤z∧z≤255):Hold W v zs:=by
 refine⟨O,?_⟩;rcases h with h|⟨g,q,S,rfl,U,o,G,V,I,J⟩
 ·exact .inl h
 ·refine .inr ⟨⟨g,0,none⟩,q,rfl,G,I,.inr ⟨g,0,rfl,(Ai o).1,fun i D=>?_⟩⟩;have e:=congrArg (fun l:List Value=>l[i]?) J;simp only[List.getElem?_take,D,if_true,List.getElem?_map,Array.getElem?_toList]at e;rw[Nat.zero_add,qa o i,e];simp[qp,qn,Lg,D]
theorem qa3 {base g c m:Nat}{W:World}{zs:List Int}(h:W.ownsRow base 5 1 (.slice (some ⟨g,0,none⟩) zs.length c) zs.length (zs.map qp))(q:m≤zs.length):Fresh base W (.slice (some ⟨g,0,none⟩) m m) (zs.take m):=by
 obtain⟨o,D,J,I,G,S,O⟩:=zg h;have e:(zs.take m).length=m:=by simp[List.length_take,Nat.min_eq_left q]
 refine .inr ⟨g,m,o,by rw[e],G,D,by omega,by omega,by omega,?_⟩;rw[e,List.map_take,←I,List.take_take,Nat.min_eq_left q]
theorem qfn (big:Bool)(q p:Nat)(D J wr:Int)(G:Bool)(O I:Value)(w:World)(o:w.heap[q]? =some (.cells (Q9 D J O I G wr (.iface (phT big) (.pointer (some ⟨p,0,none⟩)))) 179 (0,0))):
  Calls Tryz.prog 133 #[.pointer (some ⟨q,0,none⟩)] w fun e w'=>e= .returned (.bool false)∧w'=w:=by
 have U:w.cell? ⟨q,6,none⟩=some (.iface (phT big) (.pointer (some ⟨p,0,none⟩))):=qa o 6;have S:q<w.heap.size:=(Ai o).1;clear o;go_enter Tryz.func133,Tryz.ntmps133
 go_wp2
 go_ret
 exact⟨rfl,rfl⟩
theorem Z6 {W:World}{B n:Nat}{v:Value}{o:List Value}(h:W.ownsRow B 5 1 v n o):W.ownsRow 0 5 1 v n o:=ownsRow_le h (Nat.zero_le _)
theorem qcE (Y I:List Int)(hh:Words 64 8 Y)(hm: ∀z∈I,0≤z∧z≤255)(G p m:Nat)(dg wr:Int)(X:Bool)(bv kv hv:Value)(w:World)(U:w.heap[G]? =some (.cells (Q9 1 dg bv kv X wr (.iface 277 (.pointer (some ⟨p,0,none⟩)))) 179 (0,0)))(hE:QL true w p hv Y I)(ab:(I.length:Int)≤281474976710656)(au:1≤m)(ak:m≤64):
  Calls Tryz.prog 99 #[.pointer (some ⟨G,0,none⟩),.int .i64 (m:Nat)] w fun e w'=>(∃v,e= .returned (.tuple #[v,.int .i64 0])∧Fresh w.heap.size w' v ((Y0 true Y I X).take m))∧Below w.heap.size w w':=by
 have hN:=qfn true G p 1 dg wr X bv kv w U;have c0:w.cell? ⟨G,0,none⟩=some (.int .i64 1):=qa U 0;have ay:G<w.heap.size:=(Ai U).1;have HN:=hid hN;have ac:=hid U;have HO:=hid (fun(W:World) (h:QL true W p hv Y I)=>qgP Y I X hh hm p hv W h ab);have HE:=hid hE;have af:=ZI true Y I X;generalize Y0 true Y I X=Z at*;have ag:=hid (show Z.length=64 from af);clear hN U hE hh hm ab af;have ae:1≤(m:Int)∧(m:Int)≤64:=by omega
 obtain⟨ae,aw⟩:=ae;go_enter Tryz.func99,Tryz.ntmps99
 go_wp2_with fail
 refine HN.out.mono ?_;rintro e w1 ⟨rfl,hw⟩;rw[hw];clear hw;go_wp2_with fail
 refine(Ze true _).mono ?_;rintro e w1 ⟨rfl,hw⟩;rw[hw];clear hw;rw[show((bB true:Nat):Int)=128 from rfl];go_upto_region 5 with(fail)
 clear c0;refine qA (n:=16) (w0:=w) (B:=w.heap.size) [.v 20 (.pointer (some ⟨G,0,none⟩)),.v 21 (.pointer (some ⟨G,0,none⟩)),.v 22 (.pointer (some ⟨G,6,none⟩)),.v 23 (.iface 277 (.pointer (some ⟨p,0,none⟩))),.v 24 (.pointer (some ⟨G,0,none⟩)),.v 25 (.pointer (some ⟨G,0,none⟩)),.v 26 (.pointer (some ⟨G,4,none⟩)),.v 27 (.bool X),.v 28 (.iface 277 (.pointer (some ⟨p,0,none⟩))),.v 29 (.iface 277 (.pointer (some ⟨p,0,none⟩))),.p 30 (fun u W=>W.ownsRow w.heap.size 5 1 u 64 (Z.map qp)),.v 31 (.int .i64 (m:Nat)),.v 32 (.int .i64 (m:Nat)),.p 33 (fun u W=>Fresh w.heap.size W u (Z.take m)),.p 4 (fun u W=>Fresh w.heap.size W u (Z.take m)),.v 5 (.int .i64 0)] (by exact⟨(fun _ _ _ h hb=>qi h (fun g _ hg=>hb.block g hg)),(fun _ _ _ h hb=>h.below hb),(fun _ _ _ h hb=>h.below hb),trivial⟩) Br.drew Nl ?_ ?_
 ·repeat' (with_reducible first|exact qx|refine qt ?_ ?_)
  all_goals try
   intro A x W q O S o D K J;have a0:=q.2 0 (by decide);conv at a0=>rhs;whnf
   have a1:=q.2 1 (by decide);conv at a1=>rhs;whnf
   simp only[QJ,QS]at D;clear o q;go_simp
   exact J _ _ BR rfl
  ·intro A x W q O S o _ K J;have aD:=gv q o 2 22;clear o q;have g0:=qe ac.out O;have c0:W.cell? ⟨G,6,none⟩=some (.iface 277 (.pointer (some ⟨p,0,none⟩))):=qa g0 6;go_simp
   exact J _ _ BR rfl
  ·intro A x W q O S o _ K J;have aq:=gv q o 6 26;clear o q;have g0:=qe ac.out O;have c0:W.cell? ⟨G,4,none⟩=some (.bool X):=qa g0 4;go_simp
   exact J _ _ BR rfl
  ·intro A x W q O S o _ K J;have ar:=gv q o 9 29;have aB:=gv q o 7 27;clear o q;go_simp
   refine Ya (f:=258) (by kernel_rfl) ?_;go_simp
   refine(HO.out _ (yu HE.out O)).mono ?_;rintro e w' ⟨u,rfl,ho,hb⟩;exact J _ _ hb (ownsRow_le ho S)
  ·intro A x W q O S o _ K J;have V:(fun u W=>W.ownsRow w.heap.size 5 1 u 64 (Z.map qp)) (x 30) W:=o ⟨10,.data⟩ (by simp) rfl _ rfl;have ao:A.tmps.getD 30 undef=x 30:=q.1 30 (by decide);have aC:=gv q o 11 31;have ax:=gv q o 12 32;clear o q;obtain⟨s1,s2,s3,aa⟩:=qu V;rw[aa]at V ao;obtain rfl:s2=64:=yF V;obtain⟨gg,rfl⟩:=ZG (Z6 V) (by decide);obtain⟨cu, -, -, -, -,ap,al⟩:=zg V;have az:(s3:Int)≤9223372036854775807:=by unfold maxLen at al;omega
   have av:(m:Int)≤s3:=by omega
   have aA:64≤(s3:Int):=by omega
   have ah:=qa3 (m:=m) (zs:=Z) (c:=s3) (by rw[ag.out];exact V) (by rw[ag.out];exact ak);have an:=hid ah;clear ah;go_simp
   exact J _ _ Br an.out
  ·intro A x W q O S o _ K J;have aj:(fun u W=>Fresh w.heap.size W u (Z.take m)) (x 33) W:=o ⟨13,.data⟩ (by simp) rfl _ rfl;have am:A.tmps.getD 33 undef=x 33:=q.1 33 (by decide);clear o q;go_simp
   exact J _ _ Br (am▸aj)
 intro x W O S ai;obtain⟨aa,ad,e4, -⟩:=ai;change (fun u W=>W.ownsRow w.heap.size 5 1 u 64 (Z.map qp)) (x 30) W at aa
 change (fun u W=>Fresh w.heap.size W u (Z.take m)) (x 33) W at ad
 change (fun u W=>Fresh w.heap.size W u (Z.take m)) (x 4) W at e4
 refine qs ?_;simp only[Qx,Act.put,Ls];have E4:=hid e4;have HW:=hid O;clear e4 aa ad O;go_wp2
 go_ret2
 exact⟨⟨_,rfl,E4.out⟩,HW.out⟩
theorem qbE (Y I:List Int)(hh:Words 32 8 Y)(hm: ∀z∈I,0≤z∧z≤255)(G p m:Nat)(dg wr:Int)(X:Bool)(bv kv hv:Value)(w:World)(U:w.heap[G]? =some (.cells (Q9 2 dg bv kv X wr (.iface 287 (.pointer (some ⟨p,0,none⟩)))) 179 (0,0)))(hE:QL false w p hv Y I)(ab:(I.length:Int)≤281474976710656)(au:1≤m)(ak:m≤32):
  Calls Tryz.prog 99 #[.pointer (some ⟨G,0,none⟩),.int .i64 (m:Nat)] w fun e w'=>(∃v,e= .returned (.tuple #[v,.int .i64 0])∧Fresh w.heap.size w' v ((Y0 false Y I X).take m))∧Below w.heap.size w w':=by
 have hN:=qfn false G p 2 dg wr X bv kv w U;have c0:w.cell? ⟨G,0,none⟩=some (.int .i64 2):=qa U 0;have ay:G<w.heap.size:=(Ai U).1;have HN:=hid hN;have ac:=hid U;have HO:=hid (fun(W:World) (h:QL false W p hv Y I)=>qf3 Y I X hh hm p hv W h ab);have HE:=hid hE;have af:=ZI false Y I X;generalize Y0 false Y I X=Z at*;have ag:=hid (show Z.length=32 from af);clear hN U hE hh hm ab af;have ae:1≤(m:Int)∧(m:Int)≤32:=by omega
 obtain⟨ae,aw⟩:=ae;go_enter Tryz.func99,Tryz.ntmps99
 go_wp2_with fail
 refine HN.out.mono ?_;rintro e w1 ⟨rfl,hw⟩;rw[hw];clear hw;go_wp2_with fail
 refine(Ze false _).mono ?_;rintro e w1 ⟨rfl,hw⟩;rw[hw];clear hw;rw[show((bB false:Nat):Int)=64 from rfl];go_upto_region 5 with(fail)
 clear c0;refine qA (n:=16) (w0:=w) (B:=w.heap.size) [.v 20 (.pointer (some ⟨G,0,none⟩)),.v 21 (.pointer (some ⟨G,0,none⟩)),.v 22 (.pointer (some ⟨G,6,none⟩)),.v 23 (.iface 287 (.pointer (some ⟨p,0,none⟩))),.v 24 (.pointer (some ⟨G,0,none⟩)),.v 25 (.pointer (some ⟨G,0,none⟩)),.v 26 (.pointer (some ⟨G,4,none⟩)),.v 27 (.bool X),.v 28 (.iface 287 (.pointer (some ⟨p,0,none⟩))),.v 29 (.iface 287 (.pointer (some ⟨p,0,none⟩))),.p 30 (fun u W=>W.ownsRow w.heap.size 5 1 u 32 (Z.map qp)),.v 31 (.int .i64 (m:Nat)),.v 32 (.int .i64 (m:Nat)),.p 33 (fun u W=>Fresh w.heap.size W u (Z.take m)),.p 4 (fun u W=>Fresh w.heap.size W u (Z.take m)),.v 5 (.int .i64 0)] (by exact⟨(fun _ _ _ h hb=>qi h (fun g _ hg=>hb.block g hg)),(fun _ _ _ h hb=>h.below hb),(fun _ _ _ h hb=>h.below hb),trivial⟩) Br.drew Nl ?_ ?_
 ·repeat' (with_reducible first|exact qx|refine qt ?_ ?_)
  all_goals try
   intro A x W q O S o D K J;have a0:=q.2 0 (by decide);conv at a0=>rhs;whnf
   have a1:=q.2 1 (by decide);conv at a1=>rhs;whnf
   simp only[QJ,QS]at D;clear o q;go_simp
   exact J _ _ BR rfl
  ·intro A x W q O S o _ K J;have aD:=gv q o 2 22;clear o q;have g0:=qe ac.out O;have c0:W.cell? ⟨G,6,none⟩=some (.iface 287 (.pointer (some ⟨p,0,none⟩))):=qa g0 6;go_simp
   exact J _ _ BR rfl
  ·intro A x W q O S o _ K J;have aq:=gv q o 6 26;clear o q;have g0:=qe ac.out O;have c0:W.cell? ⟨G,4,none⟩=some (.bool X):=qa g0 4;go_simp
   exact J _ _ BR rfl
  ·intro A x W q O S o _ K J;have ar:=gv q o 9 29;have aB:=gv q o 7 27;clear o q;go_simp
   refine Ya (f:=264) (by kernel_rfl) ?_;go_simp
   refine(HO.out _ (yu HE.out O)).mono ?_;rintro e w' ⟨u,rfl,ho,hb⟩;exact J _ _ hb (ownsRow_le ho S)
  ·intro A x W q O S o _ K J;have V:(fun u W=>W.ownsRow w.heap.size 5 1 u 32 (Z.map qp)) (x 30) W:=o ⟨10,.data⟩ (by simp) rfl _ rfl;have ao:A.tmps.getD 30 undef=x 30:=q.1 30 (by decide);have aC:=gv q o 11 31;have ax:=gv q o 12 32;clear o q;obtain⟨s1,s2,s3,aa⟩:=qu V;rw[aa]at V ao;obtain rfl:s2=32:=yF V;obtain⟨gg,rfl⟩:=ZG (Z6 V) (by decide);obtain⟨cu, -, -, -, -,ap,al⟩:=zg V;have az:(s3:Int)≤9223372036854775807:=by unfold maxLen at al;omega
   have av:(m:Int)≤s3:=by omega
   have aA:32≤(s3:Int):=by omega
   have ah:=qa3 (m:=m) (zs:=Z) (c:=s3) (by rw[ag.out];exact V) (by rw[ag.out];exact ak);have an:=hid ah;clear ah;go_simp
   exact J _ _ Br an.out
  ·intro A x W q O S o _ K J;have aj:(fun u W=>Fresh w.heap.size W u (Z.take m)) (x 33) W:=o ⟨13,.data⟩ (by simp) rfl _ rfl;have am:A.tmps.getD 33 undef=x 33:=q.1 33 (by decide);clear o q;go_simp
   exact J _ _ Br (am▸aj)
 intro x W O S ai;obtain⟨aa,ad,e4, -⟩:=ai;change (fun u W=>W.ownsRow w.heap.size 5 1 u 32 (Z.map qp)) (x 30) W at aa
 change (fun u W=>Fresh w.heap.size W u (Z.take m)) (x 33) W at ad
 change (fun u W=>Fresh w.heap.size W u (Z.take m)) (x 4) W at e4
 refine qs ?_;simp only[Qx,Act.put,Ls];have E4:=hid e4;have HW:=hid O;clear e4 aa ad O;go_wp2
 go_ret2
 exact⟨⟨_,rfl,E4.out⟩,HW.out⟩
def Qb (b:List Int)(p:Nat)(zs:List Int):List Int:=b.take p++zs++b.drop (p+zs.length)
theorem Qd {b zs:List Int}{p:Nat}(h:p+zs.length≤b.length):(Qb b p zs).length=b.length:=by
 simp[Qb];omega
theorem Yi {b zs:List Int}{p:Nat}(h:p+zs.length≤b.length)(i:Nat):qn (Qb b p zs) i=if p≤i∧i<p+zs.length then qn zs (i - p) else qn b i:=by
 unfold Qb qn;simp only[Lg];have D:(b.take p).length=p:=by simp;omega
 by_cases q:i<p
 ·rw[List.append_assoc,List.getElem?_append_left (by omega),List.getElem?_take,if_pos q,if_neg (by omega)]
 ·by_cases o:i<p+zs.length
  ·rw[List.append_assoc,List.getElem?_append_right (by omega),D,List.getElem?_append_left (by omega),if_pos ⟨by omega,o⟩]
  ·rw[List.getElem?_append_right (by simp;omega),if_neg (by omega),List.getElem?_drop];congr 2
   simp;omega
theorem YF (b:List Int)(p:Nat):Qb b p []=b:=by simp[Qb]
theorem Jz {b zs:List Int}{p:Nat}{z:Int}(h:p+zs.length<b.length):Qb b p (zs++[z])=(Qb b p zs).set (p+zs.length) z:=by
 have D:(b.take p).length=p:=by simp;omega
 have o:(b.take p++zs).length=p+zs.length:=by simp;omega
 have q:b.drop (p+zs.length)=b[p+zs.length]::b.drop (p+zs.length+1):=List.drop_eq_getElem_cons h;unfold Qb;rw[q,List.length_append,List.length_singleton,←Nat.add_assoc,List.set_append_right _ _ (by omega),o,Nat.sub_self,List.set_cons_zero];simp
def Qt (big x0:Bool)(v:Nat→Nat):Nat→List Int
 | 0=>List.replicate (mB big) 0
 | k+1=>if k+1=7∧x0=true then Qt big x0 v k else Qb (Qt big x0 v k) (atB big (k+1)) (qZ (v (k+1)) (szB big (k+1)))
theorem QG (big q:Bool)(v:Nat→Nat): ∀k,k≤9→(Qt big q v k).length=mB big
 | 0,_=>by simp[Qt]
 | k+1,h=>by
  have o:=QG big q v k (by omega);have D:=QQ big false (k+1) (by omega) (by omega);have e:szE big false (k+1)=szB big (k+1):=by simp[szE]
  rw[e]at D;have G:32≤mB big:=by cases big<;>decide
  rw[Qt];split
  ·exact o
  ·rw[Qd (by rw[qS,o];omega),o]
def QI (big:Bool)(v:Nat→Nat)(z1 z2:List Int):List Int:=Qb (Qb (Qt big (v 7==0) v 9) (2*sB big) z1) (3*sB big) z2
theorem yc {big:Bool}{v:Nat→Nat}{z1 z2:List Int}(q:z1.length≤sB big)(o:z2.length≤sB big):(QI big v z1 z2).length=mB big:=by
 have e:=QG big (v 7==0) v 9 (by omega);have D:4*sB big=mB big:=by cases big<;>decide
 unfold QI;rw[Qd (by rw[Qd (by omega)];omega),Qd (by omega),e]
def parN (v:Nat→Nat)(sa pe:Value):Value:=yK (v 1:Nat) (v 2:Nat) (v 3:Nat) (v 4:Nat) (v 5:Nat) (v 6:Nat) (v 7:Nat) (v 8:Nat) (v 9:Nat) sa pe
def RowB (w:World)(g:Nat)(b:List Int):Prop:=w.heap[g]? =some (.cells (b.map qp).toArray 5 (0,0))
theorem RowB.cell {w:World}{g:Nat}{b:List Int}(h:RowB w g b){i:Nat}(o:i<b.length):w.cell? ⟨g,i,none⟩=some (.int .u8 (qn b i)):=by
 rw[qa h i];simp[qp,qn,Lg,o]
theorem RowB.set {w:World}{g:Nat}{b:List Int}(h:RowB w g b)(i:Nat)(z:Int):RowB (w.setCell ⟨g,i,none⟩ (.int .u8 z)) g (b.set i z):=by
 have:=heap_setCell_same w g i _ _ (.int .u8 z) h
 unfold RowB;rw[this];simp[qp,List.map_set]
theorem qbO (b:List Int)(g n c p k:Nat)(hk:k≤8)(hp:p+k≤b.length)(J:n=b.length)(hc:n≤c)(ad:n≤65535)(x:Nat)(hx:(x:Int)≤18446744073709551615)(w:World)(h:RowB w g b):
  Calls Tryz.prog 166 #[.slice (some ⟨g,0,none⟩) n c,.int .i64 (p:Nat),.int .i64 (k:Nat),.int .u64 (x:Nat)] w fun e w'=>e= .returned (.tuple #[])∧RowB w' g (Qb b p (qZ x k))∧But g w w':=by
 have S:g<w.heap.size:=(Ai h).1;have Y:=hid h;have HN:=hid J;have ab:(p:Int)+k≤n:=by omega
 have ae:(n:Int)≤65535:=by omega
 clear h J;go_enter Tryz.func166,Tryz.ntmps166
 go_wp2_with fail
 go_loopw [8] (fun i wr=> ∃j:Nat,i= .int .i64 (j:Nat)∧j≤k∧RowB wr g (Qb b p (qZ x j))∧But g w wr) (fun i _=>k - (intOf i).toNat)
 case atStart=>exact⟨0,rfl,Nat.zero_le _,by show RowB w g (Qb b p []);rw[YF];exact Y.out,But.refl _ _⟩
 case round=>
  obtain⟨j,rfl,hj,o,D⟩:=hrel;by_cases aa:j<k
  ·have Z:(Qb b p (qZ x j)).length=b.length:=Qd (by rw[qS];omega);have U:=o.cell (i:=p+j) (by have:=HN.out;omega);have ac:=frozen_of_row wr g (p+j) _ _ o;have af:g<wr.heap.size:=Nat.lt_of_lt_of_le S D.size;have q:=zv x j;have G:=o.set (p+j) (byt x j);have e:(Qb b p (qZ x j)).set (p+j) (byt x j)=Qb b p (qZ x (j+1)):=by
    have X:=Jz (b:=b) (zs:=qZ x j) (p:=p) (z:=byt x j) (by rw[qS];omega);rw[qS]at X;rw[←X,zu]
   rw[e]at G;have O:=hid G;have I:=hid D;generalize qn (Qb b p (qZ x j)) (p+j)=z0 at U;have V:(j:Int)<k∧(k:Int)≤8∧0≤(j:Int)∧(p:Int)+j<n:=by omega
   obtain⟨q1,q2,q3,q4⟩:=V;clear G e Z o D;go_wp2
   exact⟨⟨j+1,rfl,by omega,O.out,I.out.set _ _⟩,by simp[intOf];omega⟩
  ·obtain rfl:j=k:=by omega
   have I:=hid D;have HW:=hid o;clear D o;go_wp2
   go_end0
   exact⟨rfl,HW.out,I.out⟩
def Ye (big ext:Bool)(zs:List Int)(f:Nat):Nat:=if f=7∧ext=false then 0 else(QZ big ext zs f).toNat
def yI (zs:List Int):List Int:=zs.take (Qc zs zs.length)
def Yv (big:Bool)(zs:List Int):List Int:=yI ((zs.drop (2*sB big)).take (sB big))
def YH (big:Bool)(zs:List Int):List Int:=yI ((zs.drop (3*sB big)).take (sB big))
theorem Jk {big ext:Bool}{zs:List Int}(o: ∀z∈zs,0≤z∧z≤255)(D:zs.length=mB big){f:Nat}(J:1≤f)(q:f≤9)(G: ¬(f=7∧ext=false)):((Ye big ext zs f:Nat):Int)=Qa zs (atB big f) (szE big ext f):=by
 have I:=qO (big:=big) (ext:=ext) o D J q;have e:QZ big ext zs f=Qa zs (atB big f) (szE big ext f):=if_neg (by omega);unfold Ye;rw[if_neg G,Int.toNat_of_nonneg I.1,e]
theorem qdt {big ext:Bool}{zs:List Int}(I: ∀z∈zs,0≤z∧z≤255)(J:zs.length=mB big)(o q:Value):
  parN (Ye big ext zs) o q=yK (qn zs 0) (qn zs 1) (qn zs 2) (qn zs 3) (Qa zs 4 4) (Qa zs 8 (szE big ext 6)) (xoZ big ext zs) (qn zs (atB big 8)) (qn zs (atB big 9)) o q:=by
 have h:=fun f S D G=>Jk (big:=big) (ext:=ext) I J (f:=f) S D G
 unfold parN;rw[h 1 (by omega) (by omega) (by omega),h 2 (by omega) (by omega) (by omega),h 3 (by omega) (by omega) (by omega),h 4 (by omega) (by omega) (by omega),h 5 (by omega) (by omega) (by omega),h 6 (by omega) (by omega) (by omega),h 8 (by omega) (by omega) (by omega),h 9 (by omega) (by omega) (by omega)];have O:((Ye big ext zs 7:Nat):Int)=xoZ big ext zs:=by
  cases ext
  ·rfl
  ·rw[h 7 (by omega) (by omega) (by simp)];cases big<;>rfl
 rw[O]
 cases big<;>cases ext<;>simp[szE,szB,atB,YP]
theorem qcs (big:Bool)(zs:List Int)(v:Value)(w:World)(h:Hold w v zs)(ab:okD big false zs):
  Calls Tryz.prog 152 #[.int .i64 (kB big),v,.bool false] w fun e w'=>(∃o q,e= .returned (.tuple #[parN (Ye big false zs) o q,.int .i64 0])∧w'.ownsRow w.heap.size 5 1 o (Yv big zs).length ((Yv big zs).map qp)∧w'.ownsRow w.heap.size 5 1 q (YH big zs).length ((YH big zs).map qp))∧Below w.heap.size w w':=by
 obtain⟨a,S,rfl,G,U⟩:=h.slice;have J:=h.1;have h:=h.holds8;obtain⟨I,hm, -,k0,k1,k3,k9⟩:=ab;obtain⟨a',ad,e,h⟩:=h;simp only[Value.slice.injEq,true_and]at e;obtain⟨rfl,rfl⟩:=e;obtain⟨b,off,rfl,hB⟩:=h.resolve_left (fun e=>by rw[e]at I;cases big<;>simp[mB]at I);have aa: ∀p s:Nat,p+s≤zs.length→((zs.drop p).take s).length=s:=fun p s h=>by simp;omega
 have ac: ∀x:List Int,(x.take (Qc x x.length)).length=Qc x x.length:=fun x=>by have:=Zo x x.length;simp;omega
 have O: ∀(p s:Nat),p+s≤zs.length→(yI ((zs.drop p).take s)).length=Qc ((zs.drop p).take s) s∧yI ((zs.drop p).take s)=((zs.drop p).take s).take (Qc ((zs.drop p).take s) s):=fun p s h=>by
  have e:=aa p s h;unfold yI;rw[ac,e];exact⟨rfl,rfl⟩
 cases big
 ·have D:zs.length=32:=I;rw[D]at G⊢;obtain⟨Z,s2⟩:=O 16 8 (by omega);obtain⟨Y,s4⟩:=O 24 8 (by omega);refine(Zm zs b off S w hB J G U D k0 k1.2 (k3 rfl) k9.2).mono ?_;rintro e w' ⟨⟨o,q,rfl,o1,V⟩,X⟩
  refine⟨⟨o,q,congrArg (fun p=>Ending.returned (.tuple #[p,.int .i64 0])) (qdt (big:=false) (ext:=false) J I o q).symm,?_,?_⟩,X⟩
  ·show w'.ownsRow _ _ _ o (yI ((zs.drop 16).take 8)).length ((yI ((zs.drop 16).take 8)).map qp)
   rw[Z,s2];exact o1
  ·show w'.ownsRow _ _ _ q (yI ((zs.drop 24).take 8)).length ((yI ((zs.drop 24).take 8)).map qp)
   rw[Y,s4];exact V
 ·have D:zs.length=64:=I;rw[D]at G⊢;obtain⟨Z,s2⟩:=O 32 16 (by omega);obtain⟨Y,s4⟩:=O 48 16 (by omega);refine(ZD zs b off S w hB J G U D (hm rfl) k0 k1.2 (k3 rfl) k9.2).mono ?_;rintro e w' ⟨⟨o,q,rfl,o1,V⟩,X⟩
  refine⟨⟨o,q,congrArg (fun p=>Ending.returned (.tuple #[p,.int .i64 0])) (qdt (big:=true) (ext:=false) J I o q).symm,?_,?_⟩,X⟩
  ·show w'.ownsRow _ _ _ o (yI ((zs.drop 32).take 16)).length ((yI ((zs.drop 32).take 16)).map qp)
   rw[Z,s2];exact o1
  ·show w'.ownsRow _ _ _ q (yI ((zs.drop 48).take 16)).length ((yI ((zs.drop 48).take 16)).map qp)
   rw[Y,s4];exact V
structure ParOk (big:Bool)(v:Nat→Nat):Prop where
 p:okP big (v 1:Nat) (v 2:Nat) (v 3:Nat) (v 4:Nat) (v 6:Nat) (v 8:Nat) (v 9:Nat)
 lf:v 5<4294967296
 ofs:v 6<18446744073709551616
 x0:v 7=0
theorem zY {big:Bool}{v:Nat→Nat}(I:ParOk big v)(a1 a2:Option Addr){o q:Nat}(c1 c2:Nat)(G:o≤sB big)(D:q≤sB big)(w:World):
  Calls Tryz.prog 163 #[.int .i64 (kB big),parN v (.slice a1 o c1) (.slice a2 q c2)] w fun e w'=>e= .returned (.int .i64 0)∧Below w.heap.size w w':=by
 unfold parN;rw[I.x0];exact JZ big _ _ _ _ _ _ _ _ a1 a2 o q c1 c2 w I.p G D
def Zz (v:Nat→Nat):Array Value:= #[.int .u64 (v 1:Nat),.int .u64 (v 2:Nat),.int .u64 (v 3:Nat),.int .u64 (v 4:Nat),.int .u64 (v 5:Nat),.int .u64 (v 6:Nat),.int .u64 (v 7:Nat),.int .u64 (v 8:Nat),.int .u64 (v 9:Nat)]
theorem qfh (v:Nat→Nat){k:Nat}(o:k<9):(Zz v)[k]? =some (.int .u64 (v (k+1):Nat)):=by
 rcases(show k=0∨k=1∨k=2∨k=3∨k=4∨k=5∨k=6∨k=7∨k=8 by omega)with rfl|rfl|rfl|rfl|rfl|rfl|rfl|rfl|rfl<;>rfl
theorem ParOk.le {big:Bool}{v:Nat→Nat}(h:ParOk big v): ∀f,1≤f→f≤9→((v f:Nat):Int)≤18446744073709551615:=by
 obtain⟨⟨V,o,q,U, -,J,Y⟩,I,S,G⟩:=h;have X:mB big≤64:=by cases big<;>decide
 intro f D O;rcases(show f=1∨f=2∨f=3∨f=4∨f=5∨f=6∨f=7∨f=8∨f=9 by omega)with rfl|rfl|rfl|rfl|rfl|rfl|rfl|rfl|rfl<;>omega
theorem Je {w w':World}{a:Option Addr}{n c:Nat}{zs:List Int}(h:Hold w (.slice a n c) zs)(D:Below w.heap.size w w'){j:Nat}(o:j<zs.length): ∃b off,a=some ⟨b,off,none⟩∧b<w'.heap.size∧w'.cell? ⟨b,off+j,none⟩=some (.int .u8 (qn zs j))∧0≤qn zs j∧qn zs j≤255:=by
 have q:zs≠[]:=fun e=>by rw[e]at o;simp at o
 rcases h.2 with⟨I, -⟩|⟨U,S,e, -, -,J⟩
 ·exact absurd I q
 ·obtain⟨b,off,rfl,G,O⟩:=J.resolve_left q;simp only[Value.slice.injEq]at e;exact⟨b,off,e.1,Nat.lt_of_lt_of_le G D.size,(D.cell (p:=⟨b,off+j,none⟩) G).trans (O j o),(qQ h.1 o).2⟩
theorem ZX {b zs:List Int}{p j:Nat}(o:j<zs.length)(h:p+zs.length≤b.length):(Qb b p (zs.take j)).set (p+j) (qn zs j)=Qb b p (zs.take (j+1)):=by
 have e:(zs.take j).length=j:=by simp;omega
 rw[ZW o,Jz (by omega),e]
theorem ZC (v:Nat→Nat)(z1 z2:List Int)(sa pe:Value)(w:World)(hP:ParOk true v)(h1:Hold w sa z1)(h2:Hold w pe z2)(ah:z1.length≤16)(ai:z2.length≤16):
  Calls Tryz.prog 138 #[.int .i64 1,parN v sa pe] w fun e w'=>(∃r,e= .returned (.tuple #[r,.int .i64 0])∧w'.ownsRow w.heap.size 5 1 r 64 ((QI true v z1 z2).map qp))∧Below w.heap.size w w':=by
 obtain⟨a1,c1,rfl,aW,aQ⟩:=h1.slice;obtain⟨a2,c2,rfl,ba,a4⟩:=h2.slice;obtain⟨i0,hi,aY,a3,a8⟩:=info_parts Qy;obtain⟨q,af⟩:=Ex w.heap.size;have aJ:=hid (zY hP a1 a2 c1 c2 ah ai);have aA:=hid hP.x0;have aI:=hid hP.le;have aT:((v 5:Nat):Int)<4294967296:=by have:=hP.lf;omega
 have bd:((v 7:Nat):Int)<4294967296:=by have:=hP.x0;omega
 have Y: ∀f,1≤f→f≤9→IntKind.u64.wrap ((v f:Nat):Int)=((v f:Nat):Int):=fun f f1 f2=>u64_wrap_id _ (by omega) (by have:=aI.out f f1 f2;omega)
 have aR:=Y 1 (by omega) (by omega);have a7:=Y 2 (by omega) (by omega);have bf:=Y 3 (by omega) (by omega);have aV:=Y 4 (by omega) (by omega);have aZ:=Y 5 (by omega) (by omega);have a6:=Y 7 (by omega) (by omega);have aS:=Y 8 (by omega) (by omega);have aU:=Y 9 (by omega) (by omega);have aw:Below q w (w.alloc (.cells #[.int .i64 (v 1:Nat),.int .i64 (v 2:Nat),.int .i64 (v 3:Nat),.int .i64 (v 4:Nat),.int .u32 (v 5:Nat),.int .u64 (v 6:Nat),.int .u32 (v 7:Nat),.int .i64 (v 8:Nat),.int .i64 (v 9:Nat),.slice a1 z1.length c1,.slice a2 z2.length c2] 171)):=by rw[←af];exact Br.alloc Nl _
 have ad:=Wn w (.cells #[.int .i64 (v 1:Nat),.int .i64 (v 2:Nat),.int .i64 (v 3:Nat),.int .i64 (v 4:Nat),.int .u32 (v 5:Nat),.int .u64 (v 6:Nat),.int .u32 (v 7:Nat),.int .i64 (v 8:Nat),.int .i64 (v 9:Nat),.slice a1 z1.length c1,.slice a2 z2.length c2] 171);rw[af]at ad;have be:=hid h1;have aN:=hid h2;have bj:=hid hP;clear hP h1 h2 Y aW aQ ba a4;unfold parN yK;unfold parN yK at aJ;go_enter Tryz.func138,Tryz.ntmps138
 go_upto_region 1 with(fail)
 generalize w.alloc (.cells #[.int .i64 (v 1:Nat),.int .i64 (v 2:Nat),.int .i64 (v 3:Nat),.int .i64 (v 4:Nat),.int .u32 (v 5:Nat),.int .u64 (v 6:Nat),.int .u32 (v 7:Nat),.int .i64 (v 8:Nat),.int .i64 (v 9:Nat),.slice a1 z1.length c1,.slice a2 z2.length c2] 171)=wA at*;go_wp2_with ((with_reducible show wpList _ _ _ (Oper.mk _ (Op.load 171 _) _ _ _ _::_) _ _);refine wpList_load_row rfl 171 _ rfl q rfl _ _ _ _ ad Tryz.underlying171 rfl (by kernel_rfl) ?_)
 refine(aJ.out wA).mono ?_;rintro e J ⟨rfl,aj⟩;have S:=qe ad aj;have bc:=aj.size;have aK:q<wA.heap.size:=(Ai ad).1;have bg:q<J.heap.size:=by omega
 have aH:Below q w J:=aw.trans (aj.mono (by omega));have d0:J.cell? ⟨q,0,none⟩=some (.int .i64 (v 1:Nat)):=qa S 0;have d1:J.cell? ⟨q,1,none⟩=some (.int .i64 (v 2:Nat)):=qa S 1;have d2:J.cell? ⟨q,2,none⟩=some (.int .i64 (v 3:Nat)):=qa S 2;have d3:J.cell? ⟨q,3,none⟩=some (.int .i64 (v 4:Nat)):=qa S 3;have d4:J.cell? ⟨q,4,none⟩=some (.int .u32 (v 5:Nat)):=qa S 4;have d5:J.cell? ⟨q,5,none⟩=some (.int .u64 (v 6:Nat)):=qa S 5;have d6:J.cell? ⟨q,6,none⟩=some (.int .u32 (v 7:Nat)):=qa S 6;have d7:J.cell? ⟨q,7,none⟩=some (.int .i64 (v 8:Nat)):=qa S 7;have d8:J.cell? ⟨q,8,none⟩=some (.int .i64 (v 9:Nat)):=qa S 8;have aC:=hid S;have aD:=hid aH;clear aj aw ad S aH bc aK;go_wp2_with fail
 refine(jG true _).mono ?_;rintro e w2 ⟨rfl,hw⟩;rw[hw];clear hw;rw[show((mB true:Nat):Int)=64 from rfl];have aG:=fun W:World=>run_make (P:=Tryz.prog) W 24 5 i0 (.int .u8 0) Tryz.underlying24 hi aY .i64 .i64 64 64 (by omega) (by omega) (by rw[a8];omega) (by omega)
 simp only[a3]at aG;go_wp2_with fail
 obtain⟨g,hg⟩:=Ex J.heap.size;have ay:madeCells #[.int .u8 0] 64=((List.replicate 64 (0:Int)).map qp).toArray:=by
  apply Array.toList_inj.1
  rw[toList_madeCells_one];simp[qp]
 have bi:((J.alloc (.cells (madeCells #[.int .u8 0] 64) 5)).alloc (.cells (Zz v) 44)).heap.size=g+2:=by simp[hg]
 have az:RowB ((J.alloc (.cells (madeCells #[.int .u8 0] 64) 5)).alloc (.cells (Zz v) 44)) g (Qt true (v 7==0) v 0):=by
  unfold RowB;rw[Bh _ _ _ (by simp[hg]),ay,←hg];exact Wn _ _
 have aq:((J.alloc (.cells (madeCells #[.int .u8 0] 64) 5)).alloc (.cells (Zz v) 44)).heap[g+1]? =some (.cells (Zz v) 44 (0,0)):=by
  rw[show g+1=(J.alloc (.cells (madeCells #[.int .u8 0] 64) 5)).heap.size by simp[hg]];exact Wn _ _
 have aE:((J.alloc (.cells (madeCells #[.int .u8 0] 64) 5)).alloc (.cells (Zz v) 44)).heap[q]? =some (.cells #[.int .i64 (v 1:Nat),.int .i64 (v 2:Nat),.int .i64 (v 3:Nat),.int .i64 (v 4:Nat),.int .u32 (v 5:Nat),.int .u64 (v 6:Nat),.int .u32 (v 7:Nat),.int .i64 (v 8:Nat),.int .i64 (v 9:Nat),.slice a1 z1.length c1,.slice a2 z2.length c2] 171 (0,0)):=by
  rw[Bh _ _ _ (by simp;omega),Bh _ _ _ (by omega)];exact aC.out
 have aF:Below q w ((J.alloc (.cells (madeCells #[.int .u8 0] 64) 5)).alloc (.cells (Zz v) 44)):=(aD.out.alloc (by omega) _).alloc (by simp;omega) _;change Code.wp _ _ _ _ ((J.alloc (.cells (madeCells #[.int .u8 0] 64) 5)).alloc (.cells (Zz v) 44))
 rw[hg];have bk:q<g:=by omega
 generalize ((J.alloc (.cells (madeCells #[.int .u8 0] 64) 5)).alloc (.cells (Zz v) 44))=W5 at*;have aO:=hid az;have aL:=hid aq;have au:=hid aE;have av:=hid aF;clear az aq aE aF ay aG aC aD hg d0 d1 d2 d3 d4 d5 d6 d7 d8 aR a7 bf aV aZ a6 aS aU;go_loopw [9] (fun f wr=> ∃n k:Nat,f= .int .i64 (n:Nat)∧n=k+1∧k≤9∧RowB wr g (Qt true (v 7==0) v k)∧But g W5 wr) (fun f _=>10 - (intOf f).toNat)
 case atStart=>exact⟨1,0,rfl,rfl,by omega,aO.out,But.refl _ _⟩
 case round=>
  obtain⟨n,k,rfl,ag,hk,o,I⟩:=hrel;have ab:=hid ag;have G:=hid o;have Z:=hid I;have ak:g+1<wr.heap.size:=by have:=I.size;omega
  have c6:wr.cell? ⟨q,6,none⟩=some (.int .u32 (v 7:Nat)):=qa ((I.block q (by omega) (by omega)).trans au.out) 6;have ac:q<wr.heap.size:=by omega
  have D:=QG true (v 7==0) v k hk;by_cases U:k<9
  case pos=>
   have bl:(n:Int)≤9:=by omega
   have bh:1≤(n:Int):=by omega
   have a9:(n:Int) - 1=(k:Nat):=by omega
   have cv:wr.cell? ⟨g+1,k,none⟩=some (.int .u64 (v (k+1):Nat)):=(qa ((I.block (g+1) (by omega) (by omega)).trans aL.out) k).trans (qfh v U);rw[←ag]at cv;have aP:(k:Int)<9:=by omega
   have aX:=hid (je true n ⟨by omega,by omega⟩);have ar:=QQ true false n (by omega) (by omega);rw[show szE true false n=szB true n by simp[szE]]at ar;have HL:=hid (qbO (Qt true (v 7==0) v k) g 64 64 (atB true n) (szB true n) (by omega) (by rw[D];show _≤64;have:=ar.2.2.2;omega) (by rw[D];rfl) Nl (by decide) (v n) (aI.out n (by omega) (by omega)) wr o);have al: ¬(k+1=7∧(v 7==0)=true)→Qt true (v 7==0) v (k+1)=Qb (Qt true (v 7==0) v k) (atB true n) (qZ (v n) (szB true n)):=fun h=>by rw[Qt,if_neg h,ag]
   have ae:=hid al;clear al o I ag ar D;by_cases h7:k=6
   case pos=>
    obtain rfl:n=7:=by have:=ab.out;omega
    subst h7;clear a9 aP;have hq:((v 7:Int)==0)=true:=by rw[aA.out];rfl
    go_wp2
    refine⟨⟨8,7,rfl,rfl,by omega,?_,Z.out⟩,by simp[intOf]⟩;have e:Qt true (v 7==0) v 7=Qt true (v 7==0) v 6:=by rw[Qt,if_pos ⟨rfl,by rw[aA.out];rfl⟩]
    rw[e];exact G.out
   have h8: ¬((n:Int)=7):=by have:=ab.out;omega
   have h9: ¬(n=7):=by have:=ab.out;omega
   go_wp2_with fail
   refine(aX.out _).mono ?_;rintro r w4 ⟨rfl,hw⟩;rw[hw];clear hw;go_wp2_with fail
   refine HL.out.mono ?_;rintro r w4 ⟨rfl,ah,ai⟩;have O:=hid ah;have V:=hid ai;clear ah ai c6 cv;go_wp2
   refine⟨⟨n+1,k+1,rfl,by rw[ab.out],by omega,by rw[ae.out (fun h=>h7 (by omega))];exact O.out,Z.out.trans V.out⟩,by simp[intOf];omega⟩
  obtain rfl:k=9:=by omega
  obtain rfl:n=10:=by have:=ab.out;omega
  clear D o I ag;clear c6 ab U;have aB:=QG true (v 7==0) v 9 (by omega);have ax:=hid (show QI true v z1 z2=Qb (Qb (Qt true (v 7==0) v 9) 32 z1) 48 z2 from rfl);generalize Qt true (v 7==0) v 9=E at*;have ao:E.length=64:=aB;have am:=hid ao;have O:=hid ah;have V:=hid ai;clear aB ao hk aT bd;go_wp2_with fail
  refine(yV true _).mono ?_;rintro r w4 ⟨rfl,hw⟩;rw[hw];clear hw;rw[show((mB true:Nat):Int)=64 from rfl];go_wp2_with fail
  have X:=am;go_loopw [13] (fun i wr=> ∃j:Nat,i= .int .i64 (j:Nat)∧j≤z1.length∧RowB wr g (Qb E 32 (z1.take j))∧But g W5 wr) (fun i _=>z1.length - (intOf i).toNat)
  case atStart=>exact⟨0,rfl,Nat.zero_le _,by rw[List.take_zero,YF];exact G.out,Z.out⟩
  case round=>
   clear Z G ak ac;obtain⟨j,rfl,hj,o,I⟩:=hrel;have G:=hid o;have Z:=hid I;have ak:g+1<wr.heap.size:=by have:=I.size;omega
   have ac:q<wr.heap.size:=by omega
   have an:g<wr.heap.size:=by omega
   have cz:wr.cell? ⟨q,9,none⟩=some (.slice a1 z1.length c1):=qa ((I.block q (by omega) (by omega)).trans au.out) 9;by_cases U:j<z1.length
   case pos=>
    obtain⟨bb,a5,rfl,q1,q2,q3,q4⟩:=Je be.out (af▸av.out.trans (I.below (by omega) (by omega))) U;have aa:=o.set (32+j) (qn z1 j);rw[ZX U (by have:=am.out;have:=O.out;omega)]at aa;have ae:=hid aa;have D:(Qb E 32 (z1.take j)).length=64:=by rw[Qd (by rw[List.length_take];have:=X.out;have:=O.out;have:=V.out;omega)];exact X.out
    have co:=o.cell (i:=32+j) (by rw[D];have:=O.out;have:=V.out;omega);have fo:=frozen_of_row wr g (32+j) _ _ o;generalize qn (Qb E 32 (z1.take j)) (32+j)=zo at co;generalize qn z1 j=zj at*;have aM:(j:Int)<16:=by have:=O.out;have:=V.out;omega
    clear aa D o I;go_wp2
    exact⟨⟨j+1,rfl,by omega,ae.out,Z.out.set _ _⟩,by simp[intOf];omega⟩
   obtain rfl:j=z1.length:=by omega
   rw[List.take_length]at G;clear o I;clear hj U X;have X:=hid (show(Qb E 32 z1).length=64 from by rw[Qd (by have:=am.out;have:=O.out;omega)];exact am.out);go_wp2_with fail
   clear cz an;go_loopw [14] (fun i wr=> ∃j:Nat,i= .int .i64 (j:Nat)∧j≤z2.length∧RowB wr g (Qb (Qb E 32 z1) 48 (z2.take j))∧But g W5 wr) (fun i _=>z2.length - (intOf i).toNat)
   case atStart=>exact⟨0,rfl,Nat.zero_le _,by rw[List.take_zero,YF];exact G.out,Z.out⟩
   case round=>
    clear Z G ak ac;obtain⟨j,rfl,hj,o,I⟩:=hrel;have G:=hid o;have Z:=hid I;have ak:g+1<wr.heap.size:=by have:=I.size;omega
    have ac:q<wr.heap.size:=by omega
    have an:g<wr.heap.size:=by omega
    have cz:wr.cell? ⟨q,10,none⟩=some (.slice a2 z2.length c2):=qa ((I.block q (by omega) (by omega)).trans au.out) 10;by_cases U:j<z2.length
    case pos=>
     obtain⟨bb,a5,rfl,q1,q2,q3,q4⟩:=Je aN.out (af▸av.out.trans (I.below (by omega) (by omega))) U;have aa:=o.set (48+j) (qn z2 j);rw[ZX U (by have:=X.out;have:=V.out;omega)]at aa;have ae:=hid aa;have D:(Qb (Qb E 32 z1) 48 (z2.take j)).length=64:=by rw[Qd (by rw[List.length_take];have:=X.out;have:=O.out;have:=V.out;omega)];exact X.out
     have co:=o.cell (i:=48+j) (by rw[D];have:=O.out;have:=V.out;omega);have fo:=frozen_of_row wr g (48+j) _ _ o;generalize qn (Qb (Qb E 32 z1) 48 (z2.take j)) (48+j)=zo at co;generalize qn z2 j=zj at*;have aM:(j:Int)<16:=by have:=O.out;have:=V.out;omega
     clear aa D o I;go_wp2
     exact⟨⟨j+1,rfl,by omega,ae.out,Z.out.set _ _⟩,by simp[intOf];omega⟩
    obtain rfl:j=z2.length:=by omega
    rw[List.take_length]at G;clear o I;clear hj U;go_wp2
    go_ret2
    refine⟨⟨_,rfl,?_⟩,by rw[af];exact av.out.trans (Z.out.below (by omega) (by omega))⟩;have ap:=yc (big:=true) (v:=v) O.out V.out;refine⟨by rw[List.length_map,ap];rfl,.inr ⟨g,64,_,rfl,by omega,G.out,Nat.le_refl _,by unfold maxLen;omega,?_,?_⟩⟩
    ·rw[List.size_toArray,List.length_map,←ax.out,ap];rfl
    ·rw[←ax.out];exact List.take_of_length_le (by rw[List.length_map,ap];decide)
theorem Zk (v:Nat→Nat)(z1 z2:List Int)(sa pe:Value)(w:World)(hP:ParOk false v)(h1:Hold w sa z1)(h2:Hold w pe z2)(ah:z1.length≤8)(ai:z2.length≤8):
  Calls Tryz.prog 138 #[.int .i64 2,parN v sa pe] w fun e w'=>(∃r,e= .returned (.tuple #[r,.int .i64 0])∧w'.ownsRow w.heap.size 5 1 r 32 ((QI false v z1 z2).map qp))∧Below w.heap.size w w':=by
 obtain⟨a1,c1,rfl,aW,aQ⟩:=h1.slice;obtain⟨a2,c2,rfl,ba,a4⟩:=h2.slice;obtain⟨i0,hi,aY,a3,a8⟩:=info_parts Qy;obtain⟨q,af⟩:=Ex w.heap.size;have aJ:=hid (zY hP a1 a2 c1 c2 ah ai);have aA:=hid hP.x0;have aI:=hid hP.le;have aT:((v 5:Nat):Int)<4294967296:=by have:=hP.lf;omega
 have bd:((v 7:Nat):Int)<4294967296:=by have:=hP.x0;omega
 have Y: ∀f,1≤f→f≤9→IntKind.u64.wrap ((v f:Nat):Int)=((v f:Nat):Int):=fun f f1 f2=>u64_wrap_id _ (by omega) (by have:=aI.out f f1 f2;omega)
 have aR:=Y 1 (by omega) (by omega);have a7:=Y 2 (by omega) (by omega);have bf:=Y 3 (by omega) (by omega);have aV:=Y 4 (by omega) (by omega);have aZ:=Y 5 (by omega) (by omega);have a6:=Y 7 (by omega) (by omega);have aS:=Y 8 (by omega) (by omega);have aU:=Y 9 (by omega) (by omega);have aw:Below q w (w.alloc (.cells #[.int .i64 (v 1:Nat),.int .i64 (v 2:Nat),.int .i64 (v 3:Nat),.int .i64 (v 4:Nat),.int .u32 (v 5:Nat),.int .u64 (v 6:Nat),.int .u32 (v 7:Nat),.int .i64 (v 8:Nat),.int .i64 (v 9:Nat),.slice a1 z1.length c1,.slice a2 z2.length c2] 171)):=by rw[←af];exact Br.alloc Nl _
 have ad:=Wn w (.cells #[.int .i64 (v 1:Nat),.int .i64 (v 2:Nat),.int .i64 (v 3:Nat),.int .i64 (v 4:Nat),.int .u32 (v 5:Nat),.int .u64 (v 6:Nat),.int .u32 (v 7:Nat),.int .i64 (v 8:Nat),.int .i64 (v 9:Nat),.slice a1 z1.length c1,.slice a2 z2.length c2] 171);rw[af]at ad;have be:=hid h1;have aN:=hid h2;have bj:=hid hP;clear hP h1 h2 Y aW aQ ba a4;unfold parN yK;unfold parN yK at aJ;go_enter Tryz.func138,Tryz.ntmps138
 go_upto_region 1 with(fail)
 generalize w.alloc (.cells #[.int .i64 (v 1:Nat),.int .i64 (v 2:Nat),.int .i64 (v 3:Nat),.int .i64 (v 4:Nat),.int .u32 (v 5:Nat),.int .u64 (v 6:Nat),.int .u32 (v 7:Nat),.int .i64 (v 8:Nat),.int .i64 (v 9:Nat),.slice a1 z1.length c1,.slice a2 z2.length c2] 171)=wA at*;go_wp2_with ((with_reducible show wpList _ _ _ (Oper.mk _ (Op.load 171 _) _ _ _ _::_) _ _);refine wpList_load_row rfl 171 _ rfl q rfl _ _ _ _ ad Tryz.underlying171 rfl (by kernel_rfl) ?_)
 refine(aJ.out wA).mono ?_;rintro e J ⟨rfl,aj⟩;have S:=qe ad aj;have bc:=aj.size;have aK:q<wA.heap.size:=(Ai ad).1;have bg:q<J.heap.size:=by omega
 have aH:Below q w J:=aw.trans (aj.mono (by omega));have d0:J.cell? ⟨q,0,none⟩=some (.int .i64 (v 1:Nat)):=qa S 0;have d1:J.cell? ⟨q,1,none⟩=some (.int .i64 (v 2:Nat)):=qa S 1;have d2:J.cell? ⟨q,2,none⟩=some (.int .i64 (v 3:Nat)):=qa S 2;have d3:J.cell? ⟨q,3,none⟩=some (.int .i64 (v 4:Nat)):=qa S 3;have d4:J.cell? ⟨q,4,none⟩=some (.int .u32 (v 5:Nat)):=qa S 4;have d5:J.cell? ⟨q,5,none⟩=some (.int .u64 (v 6:Nat)):=qa S 5;have d6:J.cell? ⟨q,6,none⟩=some (.int .u32 (v 7:Nat)):=qa S 6;have d7:J.cell? ⟨q,7,none⟩=some (.int .i64 (v 8:Nat)):=qa S 7;have d8:J.cell? ⟨q,8,none⟩=some (.int .i64 (v 9:Nat)):=qa S 8;have aC:=hid S;have aD:=hid aH;clear aj aw ad S aH bc aK;go_wp2_with fail
 refine(jG false _).mono ?_;rintro e w2 ⟨rfl,hw⟩;rw[hw];clear hw;rw[show((mB false:Nat):Int)=32 from rfl];have aG:=fun W:World=>run_make (P:=Tryz.prog) W 24 5 i0 (.int .u8 0) Tryz.underlying24 hi aY .i64 .i64 32 32 (by omega) (by omega) (by rw[a8];omega) (by omega)
 simp only[a3]at aG;go_wp2_with fail
 obtain⟨g,hg⟩:=Ex J.heap.size;have ay:madeCells #[.int .u8 0] 32=((List.replicate 32 (0:Int)).map qp).toArray:=by
  apply Array.toList_inj.1
  rw[toList_madeCells_one];simp[qp]
 have bi:((J.alloc (.cells (madeCells #[.int .u8 0] 32) 5)).alloc (.cells (Zz v) 44)).heap.size=g+2:=by simp[hg]
 have az:RowB ((J.alloc (.cells (madeCells #[.int .u8 0] 32) 5)).alloc (.cells (Zz v) 44)) g (Qt false (v 7==0) v 0):=by
  unfold RowB;rw[Bh _ _ _ (by simp[hg]),ay,←hg];exact Wn _ _
 have aq:((J.alloc (.cells (madeCells #[.int .u8 0] 32) 5)).alloc (.cells (Zz v) 44)).heap[g+1]? =some (.cells (Zz v) 44 (0,0)):=by
  rw[show g+1=(J.alloc (.cells (madeCells #[.int .u8 0] 32) 5)).heap.size by simp[hg]];exact Wn _ _
 have aE:((J.alloc (.cells (madeCells #[.int .u8 0] 32) 5)).alloc (.cells (Zz v) 44)).heap[q]? =some (.cells #[.int .i64 (v 1:Nat),.int .i64 (v 2:Nat),.int .i64 (v 3:Nat),.int .i64 (v 4:Nat),.int .u32 (v 5:Nat),.int .u64 (v 6:Nat),.int .u32 (v 7:Nat),.int .i64 (v 8:Nat),.int .i64 (v 9:Nat),.slice a1 z1.length c1,.slice a2 z2.length c2] 171 (0,0)):=by
  rw[Bh _ _ _ (by simp;omega),Bh _ _ _ (by omega)];exact aC.out
 have aF:Below q w ((J.alloc (.cells (madeCells #[.int .u8 0] 32) 5)).alloc (.cells (Zz v) 44)):=(aD.out.alloc (by omega) _).alloc (by simp;omega) _;change Code.wp _ _ _ _ ((J.alloc (.cells (madeCells #[.int .u8 0] 32) 5)).alloc (.cells (Zz v) 44))
 rw[hg];have bk:q<g:=by omega
 generalize ((J.alloc (.cells (madeCells #[.int .u8 0] 32) 5)).alloc (.cells (Zz v) 44))=W5 at*;have aO:=hid az;have aL:=hid aq;have au:=hid aE;have av:=hid aF;clear az aq aE aF ay aG aC aD hg d0 d1 d2 d3 d4 d5 d6 d7 d8 aR a7 bf aV aZ a6 aS aU;go_loopw [9] (fun f wr=> ∃n k:Nat,f= .int .i64 (n:Nat)∧n=k+1∧k≤9∧RowB wr g (Qt false (v 7==0) v k)∧But g W5 wr) (fun f _=>10 - (intOf f).toNat)
 case atStart=>exact⟨1,0,rfl,rfl,by omega,aO.out,But.refl _ _⟩
 case round=>
  obtain⟨n,k,rfl,ag,hk,o,I⟩:=hrel;have ab:=hid ag;have G:=hid o;have Z:=hid I;have ak:g+1<wr.heap.size:=by have:=I.size;omega
  have c6:wr.cell? ⟨q,6,none⟩=some (.int .u32 (v 7:Nat)):=qa ((I.block q (by omega) (by omega)).trans au.out) 6;have ac:q<wr.heap.size:=by omega
  have D:=QG false (v 7==0) v k hk;by_cases U:k<9
  case pos=>
   have bl:(n:Int)≤9:=by omega
   have bh:1≤(n:Int):=by omega
   have a9:(n:Int) - 1=(k:Nat):=by omega
   have cv:wr.cell? ⟨g+1,k,none⟩=some (.int .u64 (v (k+1):Nat)):=(qa ((I.block (g+1) (by omega) (by omega)).trans aL.out) k).trans (qfh v U);rw[←ag]at cv;have aP:(k:Int)<9:=by omega
   have aX:=hid (je false n ⟨by omega,by omega⟩);have ar:=QQ false false n (by omega) (by omega);rw[show szE false false n=szB false n by simp[szE]]at ar;have HL:=hid (qbO (Qt false (v 7==0) v k) g 32 32 (atB false n) (szB false n) (by omega) (by rw[D];show _≤32;have:=ar.2.2.2;have:=this rfl;omega) (by rw[D];rfl) Nl (by decide) (v n) (aI.out n (by omega) (by omega)) wr o);have al: ¬(k+1=7∧(v 7==0)=true)→Qt false (v 7==0) v (k+1)=Qb (Qt false (v 7==0) v k) (atB false n) (qZ (v n) (szB false n)):=fun h=>by rw[Qt,if_neg h,ag]
   have ae:=hid al;clear al o I ag ar D;by_cases h7:k=6
   case pos=>
    obtain rfl:n=7:=by have:=ab.out;omega
    subst h7;clear a9 aP;have hq:((v 7:Int)==0)=true:=by rw[aA.out];rfl
    go_wp2
    refine⟨⟨8,7,rfl,rfl,by omega,?_,Z.out⟩,by simp[intOf]⟩;have e:Qt false (v 7==0) v 7=Qt false (v 7==0) v 6:=by rw[Qt,if_pos ⟨rfl,by rw[aA.out];rfl⟩]
    rw[e];exact G.out
   have h8: ¬((n:Int)=7):=by have:=ab.out;omega
   have h9: ¬(n=7):=by have:=ab.out;omega
   go_wp2_with fail
   refine(aX.out _).mono ?_;rintro r w4 ⟨rfl,hw⟩;rw[hw];clear hw;go_wp2_with fail
   refine HL.out.mono ?_;rintro r w4 ⟨rfl,ah,ai⟩;have O:=hid ah;have V:=hid ai;clear ah ai c6 cv;go_wp2
   refine⟨⟨n+1,k+1,rfl,by rw[ab.out],by omega,by rw[ae.out (fun h=>h7 (by omega))];exact O.out,Z.out.trans V.out⟩,by simp[intOf];omega⟩
  obtain rfl:k=9:=by omega
  obtain rfl:n=10:=by have:=ab.out;omega
  clear D o I ag;clear c6 ab U;have aB:=QG false (v 7==0) v 9 (by omega);have ax:=hid (show QI false v z1 z2=Qb (Qb (Qt false (v 7==0) v 9) 16 z1) 24 z2 from rfl);generalize Qt false (v 7==0) v 9=E at*;have ao:E.length=32:=aB;have am:=hid ao;have O:=hid ah;have V:=hid ai;clear aB ao hk aT bd;go_wp2_with fail
  refine(yV false _).mono ?_;rintro r w4 ⟨rfl,hw⟩;rw[hw];clear hw;rw[show((mB false:Nat):Int)=32 from rfl];go_wp2_with fail
  have X:=am;go_loopw [13] (fun i wr=> ∃j:Nat,i= .int .i64 (j:Nat)∧j≤z1.length∧RowB wr g (Qb E 16 (z1.take j))∧But g W5 wr) (fun i _=>z1.length - (intOf i).toNat)
  case atStart=>exact⟨0,rfl,Nat.zero_le _,by rw[List.take_zero,YF];exact G.out,Z.out⟩
  case round=>
   clear Z G ak ac;obtain⟨j,rfl,hj,o,I⟩:=hrel;have G:=hid o;have Z:=hid I;have ak:g+1<wr.heap.size:=by have:=I.size;omega
   have ac:q<wr.heap.size:=by omega
   have an:g<wr.heap.size:=by omega
   have cz:wr.cell? ⟨q,9,none⟩=some (.slice a1 z1.length c1):=qa ((I.block q (by omega) (by omega)).trans au.out) 9;by_cases U:j<z1.length
   case pos=>
    obtain⟨bb,a5,rfl,q1,q2,q3,q4⟩:=Je be.out (af▸av.out.trans (I.below (by omega) (by omega))) U;have aa:=o.set (16+j) (qn z1 j);rw[ZX U (by have:=am.out;have:=O.out;omega)]at aa;have ae:=hid aa;have D:(Qb E 16 (z1.take j)).length=32:=by rw[Qd (by rw[List.length_take];have:=X.out;have:=O.out;have:=V.out;omega)];exact X.out
    have co:=o.cell (i:=16+j) (by rw[D];have:=O.out;have:=V.out;omega);have fo:=frozen_of_row wr g (16+j) _ _ o;generalize qn (Qb E 16 (z1.take j)) (16+j)=zo at co;generalize qn z1 j=zj at*;have aM:(j:Int)<8:=by have:=O.out;have:=V.out;omega
    clear aa D o I;go_wp2
    exact⟨⟨j+1,rfl,by omega,ae.out,Z.out.set _ _⟩,by simp[intOf];omega⟩
   obtain rfl:j=z1.length:=by omega
   rw[List.take_length]at G;clear o I;clear hj U X;have X:=hid (show(Qb E 16 z1).length=32 from by rw[Qd (by have:=am.out;have:=O.out;omega)];exact am.out);go_wp2_with fail
   clear cz an;go_loopw [14] (fun i wr=> ∃j:Nat,i= .int .i64 (j:Nat)∧j≤z2.length∧RowB wr g (Qb (Qb E 16 z1) 24 (z2.take j))∧But g W5 wr) (fun i _=>z2.length - (intOf i).toNat)
   case atStart=>exact⟨0,rfl,Nat.zero_le _,by rw[List.take_zero,YF];exact G.out,Z.out⟩
   case round=>
    clear Z G ak ac;obtain⟨j,rfl,hj,o,I⟩:=hrel;have G:=hid o;have Z:=hid I;have ak:g+1<wr.heap.size:=by have:=I.size;omega
    have ac:q<wr.heap.size:=by omega
    have an:g<wr.heap.size:=by omega
    have cz:wr.cell? ⟨q,10,none⟩=some (.slice a2 z2.length c2):=qa ((I.block q (by omega) (by omega)).trans au.out) 10;by_cases U:j<z2.length
    case pos=>
     obtain⟨bb,a5,rfl,q1,q2,q3,q4⟩:=Je aN.out (af▸av.out.trans (I.below (by omega) (by omega))) U;have aa:=o.set (24+j) (qn z2 j);rw[ZX U (by have:=X.out;have:=V.out;omega)]at aa;have ae:=hid aa;have D:(Qb (Qb E 16 z1) 24 (z2.take j)).length=32:=by rw[Qd (by rw[List.length_take];have:=X.out;have:=O.out;have:=V.out;omega)];exact X.out
     have co:=o.cell (i:=24+j) (by rw[D];have:=O.out;have:=V.out;omega);have fo:=frozen_of_row wr g (24+j) _ _ o;generalize qn (Qb (Qb E 16 z1) 24 (z2.take j)) (24+j)=zo at co;generalize qn z2 j=zj at*;have aM:(j:Int)<8:=by have:=O.out;have:=V.out;omega
     clear aa D o I;go_wp2
     exact⟨⟨j+1,rfl,by omega,ae.out,Z.out.set _ _⟩,by simp[intOf];omega⟩
    obtain rfl:j=z2.length:=by omega
    rw[List.take_length]at G;clear o I;clear hj U;go_wp2
    go_ret2
    refine⟨⟨_,rfl,?_⟩,by rw[af];exact av.out.trans (Z.out.below (by omega) (by omega))⟩;have ap:=yc (big:=false) (v:=v) O.out V.out;refine⟨by rw[List.length_map,ap];rfl,.inr ⟨g,32,_,rfl,by omega,G.out,Nat.le_refl _,by unfold maxLen;omega,?_,?_⟩⟩
    ·rw[List.size_toArray,List.length_map,←ax.out,ap];rfl
    ·rw[←ax.out];exact List.take_of_length_le (by rw[List.length_map,ap];decide)
theorem qig (b:List Int)(g n c p k:Nat)(hk:k≤8)(hp:p+k≤b.length)(J:n=b.length)(hc:n≤c)(ad:n≤65535)(x:Nat)(hx:(x:Int)≤18446744073709551615)(w:World)(h:RowB w g b):
  Calls Tryz.prog 135 #[.slice (some ⟨g,0,none⟩) n c,.int .i64 (p:Nat),.int .i64 (k:Nat),.int .u64 (x:Nat)] w fun e w'=>e= .returned (.tuple #[])∧RowB w' g (Qb b p (qZ x k))∧But g w w':=by
 have S:g<w.heap.size:=(Ai h).1;have Y:=hid h;have HN:=hid J;have ab:(p:Int)+k≤n:=by omega
 have ae:(n:Int)≤65535:=by omega
 clear h J;go_enter Tryz.func135,Tryz.ntmps135
 go_wp2_with fail
 go_loopw [10] (fun i wr=> ∃j:Nat,i= .int .i64 (j:Nat)∧j≤k∧RowB wr g (Qb b p (qZ x j))∧But g w wr) (fun i _=>k - (intOf i).toNat)
 case atStart=>exact⟨0,rfl,Nat.zero_le _,by show RowB w g (Qb b p []);rw[YF];exact Y.out,But.refl _ _⟩
 case round=>
  obtain⟨j,rfl,hj,o,D⟩:=hrel;by_cases aa:j<k
  ·have Z:(Qb b p (qZ x j)).length=b.length:=Qd (by rw[qS];omega);have U:=o.cell (i:=p+j) (by have:=HN.out;omega);have ac:=frozen_of_row wr g (p+j) _ _ o;have af:g<wr.heap.size:=Nat.lt_of_lt_of_le S D.size;have q:=zv x j;have G:=o.set (p+j) (byt x j);have e:(Qb b p (qZ x j)).set (p+j) (byt x j)=Qb b p (qZ x (j+1)):=by
    have X:=Jz (b:=b) (zs:=qZ x j) (p:=p) (z:=byt x j) (by rw[qS];omega);rw[qS]at X;rw[←X,zu]
   rw[e]at G;have O:=hid G;have I:=hid D;generalize qn (Qb b p (qZ x j)) (p+j)=z0 at U;have V:(j:Int)<k∧(k:Int)≤8∧0≤(j:Int)∧(p:Int)+j<n:=by omega
   obtain⟨q1,q2,q3,q4⟩:=V;clear G e Z o D;go_wp2
   exact⟨⟨j+1,rfl,by omega,O.out,I.out.set _ _⟩,by simp[intOf];omega⟩
  ·obtain rfl:j=k:=by omega
   have I:=hid D;have HW:=hid o;clear D o;go_wp2
   go_end0
   exact⟨rfl,HW.out,I.out⟩
theorem qgq {big:Bool}{v:Nat→Nat}(G:ParOk big v)(I J:Value)(f:Nat)(D:1≤f)(o:f≤9)(w:World):
  Calls Tryz.prog 136 #[parN v I J,.int .i64 (f:Nat)] w fun e w'=>e= .returned (.int .u64 (v f:Nat))∧Below w.heap.size w w':=by
 have q:IntKind.u64.wrap ((v f:Nat):Int)=((v f:Nat):Int):=u64_wrap_id _ (by omega) (by have:=G.le f D o;omega);unfold parN yK;clear G;rcases(show f=1∨f=2∨f=3∨f=4∨f=5∨f=6∨f=7∨f=8∨f=9 by omega)with rfl|rfl|rfl|rfl|rfl|rfl|rfl|rfl|rfl
 all_goals
  clear D o;go_enter Tryz.func136,Tryz.ntmps136
  go_wp2_with fail
  go_ret
  exact⟨rfl,Br.alloc Nl _⟩
end Go.Proofs.YthjoojnlnlmljaaGreat
