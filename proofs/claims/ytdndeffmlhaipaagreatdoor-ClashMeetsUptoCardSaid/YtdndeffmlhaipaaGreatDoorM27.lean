/- The output of a hasher of words. No condition. -/
import Derived.Test.YtdndeffmlhaipaaGreatDoorM26
import Derived.Test.YtdndeffmlhaipaaGreatDoorM18
set_option linter.all false
set_option maxRecDepth 100000
set_option maxHeartbeats 8000000
namespace Go.Proofs.YtdndeffmlhaipaaGreatDoor
open Go.ChangeShapes Go.WideShapes Go.ChangeAt Go.RowKit Go.Joins Go.Shelf Go.Maps
open Go.Lib (hid)
attribute [local go_sem] Oper.semAt_some
theorem qd2 (h0 msg:List Int)(node:Bool)(hh:Words 64 8 h0)(hm: ∀z∈msg,0≤z∧z≤255)(p:Nat)(hv:Value)(w:World)(hE:qW true w p hv h0 msg)(hlen:(msg.length:Int)≤281474976710656):
  Calls Tryz.prog 198 #[.pointer (some ⟨p,0,none⟩),.bool node] w fun e w'=> ∃v,e= .returned v∧w'.ownsRow w.heap.size 5 1 v 64 ((zW true h0 msg node).map qv)∧Below w.heap.size w w':=by
 have hps:p<w.heap.size:=(Ai hE.1).1;obtain⟨hrow,hown⟩:=hE;have hsum:=ZN (yg true) msg;have hhl:=zn (yg true) msg;have hhz:=yV (n:=bB true) hm;have hst:=Yy true hh msg (nbk (bB true) msg.length);have hbk:=jg (yg true) msg;have hout:zW true h0 msg node=qP 8 (Ym true (stZ true h0 msg (nbk (bB true) msg.length)) (ym 128 (Qj (bB true) msg)) ((bB true*nbk (bB true) msg.length+(Qj (bB true) msg).length:Nat):Int) true node) 8:=by rw[hsum];unfold zW;rw[hbk];rfl
 simp only[cond]at hrow;rw[hout];clear hout hbk hh;generalize stZ true h0 msg (nbk (bB true) msg.length)=H1 at*;generalize bB true*nbk (bB true) msg.length=lo1 at*;generalize Qj (bB true) msg=hl at*;have hhl':hl.length≤128:=hhl;clear hm hhl;obtain⟨a1,n1,c1,rfl⟩:=qs hown;obtain rfl:n1=hl.length:=yu hown;have hH0:=Qa hown hhz;obtain⟨s1,hs1⟩:=Ex (lo1+hl.length);have hAD:=qaU lo1 hl.length (by omega);have hsl:(s1:Int)<9223372036854775808:=by omega
 have HSL:=hid hsl;rw[hs1]at hAD⊢;have hpz:=yD (n:=128) hhz;have hpl:=yC (n:=128) hhl';have hPD:=zK hl (.slice a1 hl.length c1) 128;obtain⟨PZ,hPZ⟩:=Ex (ym 128 hl);rw[hPZ]at hpz hpl hPD⊢;have hCW:=QP true hst PZ (s1:Nat) true node;have hMX:=qbc H1 PZ hst;obtain⟨R,hR⟩:=Ex (Ym true H1 PZ (s1:Nat) true node);have hMX2:=fun(v:Value) (W:World) (h8:Holds8 W v PZ)=>hMX v s1 hsl true node W h8 hpz hpl
 rw[hR]at hCW⊢;simp only[hR]at hMX2;have HAD:=hid hAD;have HPD:=hid hPD;have HMX2:=hid hMX2;have HST:=hid hst;have HCW:=hid hCW;have HROW:=hid hrow;have HH0:=hid hH0;clear hAD hPD hMX hMX2 hst hCW hrow hH0 hown hsum hs1 hPZ hR hpz hpl hhz hsl hlen;have hl4:(hl.length:Int)≤128:=by omega
 go_enter Tryz.func198,Tryz.ntmps198
 go_upto_region 1 with(fail)
 refine Ql (fun _ W=>Below w.heap.size w W) 15 [.v 8 (.pointer (some ⟨p,0,none⟩)),.v 9 (.pointer (some ⟨p,0,none⟩)),.v 10 (.pointer (some ⟨p,8,none⟩)),.v 11 (.agg #[.int .u64 (lo1:Nat),.int .u64 0]),.v 12 (.pointer (some ⟨p,0,none⟩)),.v 13 (.pointer (some ⟨p,0,none⟩)),.v 14 (.pointer (some ⟨p,10,none⟩)),.v 15 (.slice a1 hl.length c1),.v 16 (.int .i64 (hl.length:Nat)),.v 17 (.int .u64 (hl.length:Nat)),.v 18 (.tuple #[.agg #[.int .u64 (s1:Nat),.int .u64 0],.bool false]),.v 7 (.tuple #[.agg #[.int .u64 (s1:Nat),.int .u64 0],.bool false]),.v 19 (.agg #[.int .u64 (s1:Nat),.int .u64 0]),.v 20 (.bool false),.p 5 (fun u W=> ∃p',u= .pointer (some ⟨p',0,none⟩)∧w.heap.size≤p'∧ ∃c,W.heap[p']? =some (.cells c 157 (0,0))∧c.size=2),.f none [5] (fun vs W=> ∃p',vs=[.pointer (some ⟨p',0,none⟩)]∧w.heap.size≤p'∧W.heap[p']? =some (.cells #[.int .u64 (s1:Nat),.int .u64 0] 157 (0,0))),.v 6 (.bool false)] (by exact⟨(fun _ _ hb _ h=>by obtain⟨p',e,h3,c,h4,h5⟩:=h;exact⟨p',e,h3,c,qb h4 hb,h5⟩),(fun _ _ hb _ h=>by obtain⟨p',e,h3,h4⟩:=h;exact⟨p',e,h3,qb h4 hb⟩),trivial⟩) Br.drew (fun _ _ _ h hb=>h.trans (hb.mono h.size)) ?_ ?_ ?_
 ·repeat' (with_reducible first|exact qt|refine qn ?_ ?_)
  all_goals try
   refine .inr ?_;intro A x W f hA hR hf hdep D K hK;have a0:=hA.2 0 (by decide);conv at a0=>rhs;whnf
   simp only[QI,QU]at D;clear hdep hA;first
   | go_simp
     exact hK _ _ BR rfl
   | have y0:IntKind.u64.wrap (hl.length:Int)=(hl.length:Int):=u64_wrap_id _ (by omega) (by omega)
     go_simp
     exact hK _ _ BR rfl
  any_goals exact .inl rfl
  all_goals refine .inr ?_
  ·intro A x W f hA hR hf hdep _ K hK;have g10:=gw hA hdep 2 10;clear hdep hA;have g0:=qb HROW.out hR;refine qF 157 _ rfl p 8 g10 159 _ #[.int .u64 (lo1:Nat),.int .u64 0] (0,0) _ g0 Tryz.underlying157 rfl (by kernel_rfl) (qaO _ _ _) (hK _ _ Br rfl)
  ·intro A x W f hA hR hf hdep _ K hK;have g14:=gw hA hdep 6 14;clear hdep hA;have g0:=qb HROW.out hR;have c0:W.cell? ⟨p,10,none⟩=some (.slice a1 hl.length c1):=qa g0 10;go_simp
   exact hK _ _ BR rfl
  ·intro A x W f hA hR hf hdep _ K hK;have g11:=gw hA hdep 3 11;have g17:=gw hA hdep 9 17;clear hdep hA;go_simp
   refine(HAD.out _).mono ?_;rintro e w' ⟨rfl,hb⟩;exact hK _ _ hb rfl
  ·intro A x W f hA hR hf hdep _ K hK;clear hdep hA;go_simp
   exact hK _ _ (Br.alloc Nl _) ⟨W.heap.size,rfl,hR.size,_,Wn W _,rfl⟩
 ·intro A x W hA hR hdep K hK;have g5:(fun u W=> ∃p',u= .pointer (some ⟨p',0,none⟩)∧w.heap.size≤p'∧ ∃c,W.heap[p']? =some (.cells c 157 (0,0))∧c.size=2) (x 5) W:=hdep ⟨14,.data⟩ (by simp) rfl;have a5:A.tmps.getD 5 undef=x 5:=hA.1 5 (by decide);have g19:=gw hA hdep 12 19;clear hdep hA;obtain⟨p',e5,hp1,c,hp2,hp3⟩:=g5;refine wp_store_row 157 _ _ rfl p' #[.int .u64 (s1:Nat),.int .u64 0] (a5.trans e5) g19 157 c hp2 (by kernel_rfl) (by rw[hp3];rfl) (by simp[Value.oneCell']) ?_;have hb':Below w.heap.size w (W.setRow p' #[.int .u64 (s1:Nat),.int .u64 0]):=below_setRow hR hp1 _;refine hK _ _ (fun _=>rfl) hb' ⟨.inr (fun _ h=>h),.inr (fun _ h=>h),.inr (fun _ h=>h),.inr (fun _ h=>h),.inr (fun _ h=>h),.inr (fun _ h=>h),.inr (fun _ h=>h),.inr (fun _ h=>h),.inr (fun _ h=>h),.inr (fun _ h=>h),.inr (fun _ h=>h),.inr (fun _ h=>h),.inr (fun _ h=>h),.inr (fun _ h=>h),.inr (fun u h=>?_),.inl rfl,.inr (fun _ h=>h),trivial⟩ ⟨p',by simp[e5],hp1,setRow_heap _ _ _ _ _ _ hp2⟩;obtain⟨q,e,q1,c',q2,q3⟩:=h;refine⟨q,e,q1,?_⟩;by_cases hq:q=p'
  ·subst hq;exact⟨_,setRow_heap _ _ _ _ _ _ hp2,rfl⟩
  ·exact⟨c',(setRow_other _ _ _ _ hq).trans q2,q3⟩
 intro x W hR hall;obtain⟨e5,es15, -⟩:=hall;change (fun u W=> ∃p',u= .pointer (some ⟨p',0,none⟩)∧w.heap.size≤p'∧ ∃c,W.heap[p']? =some (.cells c 157 (0,0))∧c.size=2) (x 5) W at e5
 obtain⟨pc,e5,hpc, -⟩:=e5;obtain⟨pc',e5',hpc',hrc⟩:=es15;simp only[List.map_cons,List.map_nil,e5,List.cons.injEq,Value.pointer.injEq,Option.some.injEq,Addr.mk.injEq,and_true]at e5';obtain rfl:=e5';simp only[Qi,Act.put,Ls,e5];clear e5;have hr2:=qb HROW.out hR;have hH2:=HH0.out.below hR;have HR2:=hid hr2;have HH2:=hid hH2;have HRC:=hid hrc;have HB2:=hid hR;have hps2:p<W.heap.size:=(Ai hr2).1;have hpcs:pc<W.heap.size:=(Ai hrc).1;have hs12:w.heap.size≤W.heap.size:=hR.size;clear hr2 hH2 hrc hR x hpc hpc';generalize W=W2 at*;go_upto_region 2 with(fail)
 refine qA (n:=26) (w0:=W2) (B:=W2.heap.size) [.v 21 (.pointer (some ⟨p,0,none⟩)),.v 22 (.pointer (some ⟨p,0,none⟩)),.v 23 (.pointer (some ⟨p,13,none⟩)),.v 24 (.func (.func 89) #[] #[]),.v 25 (.pointer (some ⟨p,0,none⟩)),.v 26 (.pointer (some ⟨p,0,none⟩)),.v 27 (.pointer (some ⟨p,12,none⟩)),.v 28 (.func (.func 88) #[] #[]),.v 29 (.pointer (some ⟨p,0,none⟩)),.v 30 (.pointer (some ⟨p,0,none⟩)),.v 31 (.pointer (some ⟨p,0,none⟩)),.v 32 (.agg (qm .u64 H1)),.v 33 (.pointer (some ⟨p,0,none⟩)),.v 34 (.pointer (some ⟨p,0,none⟩)),.v 35 (.pointer (some ⟨p,10,none⟩)),.v 36 (.slice a1 hl.length c1),.v 37 (.pointer (some ⟨p,0,none⟩)),.v 38 (.pointer (some ⟨p,0,none⟩)),.v 39 (.pointer (some ⟨p,11,none⟩)),.v 40 (.int .i64 128),.p 41 (fun u W=>W.ownsRow W2.heap.size 5 1 u 128 (PZ.map qv)),.v 42 (.agg #[.int .u64 (s1:Nat),.int .u64 0]),.v 43 (.bool node),.v 44 (.agg (qm .u64 R)),.p 45 (fun u W=>W.ownsRow W2.heap.size 5 1 u 64 ((qP 8 R 8).map qv)),.p 4 (fun u W=>W.ownsRow W2.heap.size 5 1 u 64 ((qP 8 R 8).map qv))] (by exact⟨(fun _ _ _ h hb=>qf h (fun g _ hg=>hb.block g hg)),(fun _ _ _ h hb=>qf h (fun g _ hg=>hb.block g hg)),(fun _ _ _ h hb=>qf h (fun g _ hg=>hb.block g hg)),trivial⟩) Br.drew Nl ?_ ?_
 ·repeat' (with_reducible first|exact qt|refine qn ?_ ?_)
  all_goals try
   intro A x W hA hW hBW hdep D K hK;have a0:=hA.2 0 (by decide);conv at a0=>rhs;whnf
   have a1:=hA.2 1 (by decide);conv at a1=>rhs;whnf
   simp only[QI,QU]at D;clear hdep hA;go_simp
   exact hK _ _ BR rfl
  ·intro A x W hA hW hBW hdep _ K hK;have g23:=gv hA hdep 2 23;clear hdep hA;have g0:=qb HR2.out hW;have c0:W.cell? ⟨p,13,none⟩=some (.func (.func 89) #[] #[]):=qa g0 13;go_simp
   exact hK _ _ BR rfl
  ·intro A x W hA hW hBW hdep _ K hK;have g27:=gv hA hdep 6 27;clear hdep hA;have g0:=qb HR2.out hW;have c0:W.cell? ⟨p,12,none⟩=some (.func (.func 88) #[] #[]):=qa g0 12;go_simp
   exact hK _ _ BR rfl
  ·intro A x W hA hW hBW hdep _ K hK;have g31:=gv hA hdep 10 31;clear hdep hA;have g0:=qb HR2.out hW;refine qF 150 _ rfl p 0 g31 159 _ (qm .u64 H1) (0,0) _ g0 Tryz.underlying150 rfl (by rw[qg,HST.out.1];kernel_rfl) (qej HST.out _ _) (hK _ _ Br rfl)
  ·intro A x W hA hW hBW hdep _ K hK;have g35:=gv hA hdep 14 35;clear hdep hA;have g0:=qb HR2.out hW;have c0:W.cell? ⟨p,10,none⟩=some (.slice a1 hl.length c1):=qa g0 10;go_simp
   exact hK _ _ BR rfl
  ·intro A x W hA hW hBW hdep _ K hK;have g39:=gv hA hdep 18 39;clear hdep hA;have g0:=qb HR2.out hW;have c0:W.cell? ⟨p,11,none⟩=some (.int .i64 128):=qa g0 11;go_simp
   exact hK _ _ BR rfl
  ·intro A x W hA hW hBW hdep _ K hK;have g36:=gv hA hdep 15 36;have g40:=gv hA hdep 19 40;clear hdep hA;go_simp
   refine(HPD.out _ (HH2.out.below hW) hhl' (by decide)).mono ?_;rintro e w' ⟨u,rfl,ho,hb⟩;exact hK _ _ hb (ownsRow_le ho hBW)
  ·intro A x W hA hW hBW hdep _ K hK;have a5:=hA.2 5 (by decide);conv at a5=>rhs;whnf
   clear hdep hA;have g0:=qb HRC.out hW;refine wp_load_row 157 _ rfl pc a5 _ _ _ _ g0 Tryz.underlying157 rfl (by kernel_rfl) (hK _ _ Br rfl)
  ·intro A x W hA hW hBW hdep _ K hK;have g28:=gv hA hdep 7 28;have g32:=gv hA hdep 11 32;have g41:(fun u W=>W.ownsRow W2.heap.size 5 1 u 128 (PZ.map qv)) (x 41) W:=hdep ⟨20,.data⟩ (by simp) rfl _ rfl;have a41:A.tmps.getD 41 undef=x 41:=hA.1 41 (by decide);have g42:=gv hA hdep 21 42;have g43:=gv hA hdep 22 43;clear hdep hA;go_simp
   refine(HMX2.out _ _ (Ya g41)).mono ?_;rintro e w' ⟨rfl,hb⟩;exact hK _ _ hb rfl
  ·intro A x W hA hW hBW hdep _ K hK;have g24:=gv hA hdep 3 24;have g44:=gv hA hdep 23 44;clear hdep hA;go_simp
   refine(qcu R HCW.out _).mono ?_;rintro e w' ⟨u,rfl,ho,hb⟩;exact hK _ _ hb (ownsRow_le ho hBW)
  ·intro A x W hA hW hBW hdep _ K hK;have g45:(fun u W=>W.ownsRow W2.heap.size 5 1 u 64 ((qP 8 R 8).map qv)) (x 45) W:=hdep ⟨24,.data⟩ (by simp) rfl _ rfl;have a45:A.tmps.getD 45 undef=x 45:=hA.1 45 (by decide);clear hdep hA;go_simp
   exact hK _ _ Br (a45▸g45)
 intro x W hW hBW hall;obtain⟨e41,e45,e4, -⟩:=hall;change (fun u W=>W.ownsRow W2.heap.size 5 1 u 128 (PZ.map qv)) (x 41) W at e41
 change (fun u W=>W.ownsRow W2.heap.size 5 1 u 64 ((qP 8 R 8).map qv)) (x 45) W at e45
 change (fun u W=>W.ownsRow W2.heap.size 5 1 u 64 ((qP 8 R 8).map qv)) (x 4) W at e4
 refine qo ?_;simp only[Qi,Act.put,Ls];have hB3:=HB2.out.trans (hW.mono hs12);have E4:=hid (ownsRow_le e4 hs12);clear e41 e45 e4 hW hBW;go_wp2
 go_ret
 exact⟨_,rfl,E4.out,hB3⟩
theorem qdf (h0 msg:List Int)(node:Bool)(hh:Words 32 8 h0)(hm: ∀z∈msg,0≤z∧z≤255)(p:Nat)(hv:Value)(w:World)(hE:qW false w p hv h0 msg)(hlen:(msg.length:Int)≤281474976710656):
  Calls Tryz.prog 204 #[.pointer (some ⟨p,0,none⟩),.bool node] w fun e w'=> ∃v,e= .returned v∧w'.ownsRow w.heap.size 5 1 v 32 ((zW false h0 msg node).map qv)∧Below w.heap.size w w':=by
 have hps:p<w.heap.size:=(Ai hE.1).1;obtain⟨hrow,hown⟩:=hE;have hsum:=ZN (yg false) msg;have hhl:=zn (yg false) msg;have hhz:=yV (n:=bB false) hm;have hst:=Yy false hh msg (nbk (bB false) msg.length);have hbk:=jg (yg false) msg;have hout:zW false h0 msg node=qP 4 (Ym false (stZ false h0 msg (nbk (bB false) msg.length)) (ym 64 (Qj (bB false) msg)) ((bB false*nbk (bB false) msg.length+(Qj (bB false) msg).length:Nat):Int) true node) 8:=by rw[hsum];unfold zW;rw[hbk];rfl
 simp only[cond]at hrow;rw[hout];clear hout hbk hh;generalize stZ false h0 msg (nbk (bB false) msg.length)=H1 at*;generalize bB false*nbk (bB false) msg.length=lo1 at*;generalize Qj (bB false) msg=hl at*;have hhl':hl.length≤64:=hhl;clear hm hhl;obtain⟨a1,n1,c1,rfl⟩:=qs hown;obtain rfl:n1=hl.length:=yu hown;have hH0:=Qa hown hhz;obtain⟨s1,hs1⟩:=Ex (lo1+hl.length);have hAD:=qaU lo1 hl.length (by omega);have hsl:(s1:Int)<9223372036854775808:=by omega
 have HSL:=hid hsl;rw[hs1]at hAD⊢;have hpz:=yD (n:=64) hhz;have hpl:=yC (n:=64) hhl';have hPD:=zK hl (.slice a1 hl.length c1) 64;obtain⟨PZ,hPZ⟩:=Ex (ym 64 hl);rw[hPZ]at hpz hpl hPD⊢;have hCW:=QP false hst PZ (s1:Nat) true node;have hMX:=J8 H1 PZ hst;obtain⟨R,hR⟩:=Ex (Ym false H1 PZ (s1:Nat) true node);have hMX2:=fun(v:Value) (W:World) (h8:Holds8 W v PZ)=>hMX v s1 hsl true node W h8 hpz hpl
 rw[hR]at hCW⊢;simp only[hR]at hMX2;have HAD:=hid hAD;have HPD:=hid hPD;have HMX2:=hid hMX2;have HST:=hid hst;have HCW:=hid hCW;have HROW:=hid hrow;have HH0:=hid hH0;clear hAD hPD hMX hMX2 hst hCW hrow hH0 hown hsum hs1 hPZ hR hpz hpl hhz hsl hlen;have hl4:(hl.length:Int)≤64:=by omega
 go_enter Tryz.func204,Tryz.ntmps204
 go_upto_region 1 with(fail)
 refine Ql (fun _ W=>Below w.heap.size w W) 15 [.v 8 (.pointer (some ⟨p,0,none⟩)),.v 9 (.pointer (some ⟨p,0,none⟩)),.v 10 (.pointer (some ⟨p,8,none⟩)),.v 11 (.agg #[.int .u64 (lo1:Nat),.int .u64 0]),.v 12 (.pointer (some ⟨p,0,none⟩)),.v 13 (.pointer (some ⟨p,0,none⟩)),.v 14 (.pointer (some ⟨p,10,none⟩)),.v 15 (.slice a1 hl.length c1),.v 16 (.int .i64 (hl.length:Nat)),.v 17 (.int .u64 (hl.length:Nat)),.v 18 (.tuple #[.agg #[.int .u64 (s1:Nat),.int .u64 0],.bool false]),.v 7 (.tuple #[.agg #[.int .u64 (s1:Nat),.int .u64 0],.bool false]),.v 19 (.agg #[.int .u64 (s1:Nat),.int .u64 0]),.v 20 (.bool false),.p 5 (fun u W=> ∃p',u= .pointer (some ⟨p',0,none⟩)∧w.heap.size≤p'∧ ∃c,W.heap[p']? =some (.cells c 157 (0,0))∧c.size=2),.f none [5] (fun vs W=> ∃p',vs=[.pointer (some ⟨p',0,none⟩)]∧w.heap.size≤p'∧W.heap[p']? =some (.cells #[.int .u64 (s1:Nat),.int .u64 0] 157 (0,0))),.v 6 (.bool false)] (by exact⟨(fun _ _ hb _ h=>by obtain⟨p',e,h3,c,h4,h5⟩:=h;exact⟨p',e,h3,c,qb h4 hb,h5⟩),(fun _ _ hb _ h=>by obtain⟨p',e,h3,h4⟩:=h;exact⟨p',e,h3,qb h4 hb⟩),trivial⟩) Br.drew (fun _ _ _ h hb=>h.trans (hb.mono h.size)) ?_ ?_ ?_
 ·repeat' (with_reducible first|exact qt|refine qn ?_ ?_)
  all_goals try
   refine .inr ?_;intro A x W f hA hR hf hdep D K hK;have a0:=hA.2 0 (by decide);conv at a0=>rhs;whnf
   simp only[QI,QU]at D;clear hdep hA;first
   | go_simp
     exact hK _ _ BR rfl
   | have y0:IntKind.u64.wrap (hl.length:Int)=(hl.length:Int):=u64_wrap_id _ (by omega) (by omega)
     go_simp
     exact hK _ _ BR rfl
  any_goals exact .inl rfl
  all_goals refine .inr ?_
  ·intro A x W f hA hR hf hdep _ K hK;have g10:=gw hA hdep 2 10;clear hdep hA;have g0:=qb HROW.out hR;refine qF 157 _ rfl p 8 g10 167 _ #[.int .u64 (lo1:Nat),.int .u64 0] (0,0) _ g0 Tryz.underlying157 rfl (by kernel_rfl) (qaN _ _ _) (hK _ _ Br rfl)
  ·intro A x W f hA hR hf hdep _ K hK;have g14:=gw hA hdep 6 14;clear hdep hA;have g0:=qb HROW.out hR;have c0:W.cell? ⟨p,10,none⟩=some (.slice a1 hl.length c1):=qa g0 10;go_simp
   exact hK _ _ BR rfl
  ·intro A x W f hA hR hf hdep _ K hK;have g11:=gw hA hdep 3 11;have g17:=gw hA hdep 9 17;clear hdep hA;go_simp
   refine(HAD.out _).mono ?_;rintro e w' ⟨rfl,hb⟩;exact hK _ _ hb rfl
  ·intro A x W f hA hR hf hdep _ K hK;clear hdep hA;go_simp
   exact hK _ _ (Br.alloc Nl _) ⟨W.heap.size,rfl,hR.size,_,Wn W _,rfl⟩
 ·intro A x W hA hR hdep K hK;have g5:(fun u W=> ∃p',u= .pointer (some ⟨p',0,none⟩)∧w.heap.size≤p'∧ ∃c,W.heap[p']? =some (.cells c 157 (0,0))∧c.size=2) (x 5) W:=hdep ⟨14,.data⟩ (by simp) rfl;have a5:A.tmps.getD 5 undef=x 5:=hA.1 5 (by decide);have g19:=gw hA hdep 12 19;clear hdep hA;obtain⟨p',e5,hp1,c,hp2,hp3⟩:=g5;refine wp_store_row 157 _ _ rfl p' #[.int .u64 (s1:Nat),.int .u64 0] (a5.trans e5) g19 157 c hp2 (by kernel_rfl) (by rw[hp3];rfl) (by simp[Value.oneCell']) ?_;have hb':Below w.heap.size w (W.setRow p' #[.int .u64 (s1:Nat),.int .u64 0]):=below_setRow hR hp1 _;refine hK _ _ (fun _=>rfl) hb' ⟨.inr (fun _ h=>h),.inr (fun _ h=>h),.inr (fun _ h=>h),.inr (fun _ h=>h),.inr (fun _ h=>h),.inr (fun _ h=>h),.inr (fun _ h=>h),.inr (fun _ h=>h),.inr (fun _ h=>h),.inr (fun _ h=>h),.inr (fun _ h=>h),.inr (fun _ h=>h),.inr (fun _ h=>h),.inr (fun _ h=>h),.inr (fun u h=>?_),.inl rfl,.inr (fun _ h=>h),trivial⟩ ⟨p',by simp[e5],hp1,setRow_heap _ _ _ _ _ _ hp2⟩;obtain⟨q,e,q1,c',q2,q3⟩:=h;refine⟨q,e,q1,?_⟩;by_cases hq:q=p'
  ·subst hq;exact⟨_,setRow_heap _ _ _ _ _ _ hp2,rfl⟩
  ·exact⟨c',(setRow_other _ _ _ _ hq).trans q2,q3⟩
 intro x W hR hall;obtain⟨e5,es15, -⟩:=hall;change (fun u W=> ∃p',u= .pointer (some ⟨p',0,none⟩)∧w.heap.size≤p'∧ ∃c,W.heap[p']? =some (.cells c 157 (0,0))∧c.size=2) (x 5) W at e5
 obtain⟨pc,e5,hpc, -⟩:=e5;obtain⟨pc',e5',hpc',hrc⟩:=es15;simp only[List.map_cons,List.map_nil,e5,List.cons.injEq,Value.pointer.injEq,Option.some.injEq,Addr.mk.injEq,and_true]at e5';obtain rfl:=e5';simp only[Qi,Act.put,Ls,e5];clear e5;have hr2:=qb HROW.out hR;have hH2:=HH0.out.below hR;have HR2:=hid hr2;have HH2:=hid hH2;have HRC:=hid hrc;have HB2:=hid hR;have hps2:p<W.heap.size:=(Ai hr2).1;have hpcs:pc<W.heap.size:=(Ai hrc).1;have hs12:w.heap.size≤W.heap.size:=hR.size;clear hr2 hH2 hrc hR x hpc hpc';generalize W=W2 at*;go_upto_region 2 with(fail)
 refine qA (n:=26) (w0:=W2) (B:=W2.heap.size) [.v 21 (.pointer (some ⟨p,0,none⟩)),.v 22 (.pointer (some ⟨p,0,none⟩)),.v 23 (.pointer (some ⟨p,13,none⟩)),.v 24 (.func (.func 92) #[] #[]),.v 25 (.pointer (some ⟨p,0,none⟩)),.v 26 (.pointer (some ⟨p,0,none⟩)),.v 27 (.pointer (some ⟨p,12,none⟩)),.v 28 (.func (.func 91) #[] #[]),.v 29 (.pointer (some ⟨p,0,none⟩)),.v 30 (.pointer (some ⟨p,0,none⟩)),.v 31 (.pointer (some ⟨p,0,none⟩)),.v 32 (.agg (qm .u32 H1)),.v 33 (.pointer (some ⟨p,0,none⟩)),.v 34 (.pointer (some ⟨p,0,none⟩)),.v 35 (.pointer (some ⟨p,10,none⟩)),.v 36 (.slice a1 hl.length c1),.v 37 (.pointer (some ⟨p,0,none⟩)),.v 38 (.pointer (some ⟨p,0,none⟩)),.v 39 (.pointer (some ⟨p,11,none⟩)),.v 40 (.int .i64 64),.p 41 (fun u W=>W.ownsRow W2.heap.size 5 1 u 64 (PZ.map qv)),.v 42 (.agg #[.int .u64 (s1:Nat),.int .u64 0]),.v 43 (.bool node),.v 44 (.agg (qm .u32 R)),.p 45 (fun u W=>W.ownsRow W2.heap.size 5 1 u 32 ((qP 4 R 8).map qv)),.p 4 (fun u W=>W.ownsRow W2.heap.size 5 1 u 32 ((qP 4 R 8).map qv))] (by exact⟨(fun _ _ _ h hb=>qf h (fun g _ hg=>hb.block g hg)),(fun _ _ _ h hb=>qf h (fun g _ hg=>hb.block g hg)),(fun _ _ _ h hb=>qf h (fun g _ hg=>hb.block g hg)),trivial⟩) Br.drew Nl ?_ ?_
 ·repeat' (with_reducible first|exact qt|refine qn ?_ ?_)
  all_goals try
   intro A x W hA hW hBW hdep D K hK;have a0:=hA.2 0 (by decide);conv at a0=>rhs;whnf
   have a1:=hA.2 1 (by decide);conv at a1=>rhs;whnf
   simp only[QI,QU]at D;clear hdep hA;go_simp
   exact hK _ _ BR rfl
  ·intro A x W hA hW hBW hdep _ K hK;have g23:=gv hA hdep 2 23;clear hdep hA;have g0:=qb HR2.out hW;have c0:W.cell? ⟨p,13,none⟩=some (.func (.func 92) #[] #[]):=qa g0 13;go_simp
   exact hK _ _ BR rfl
  ·intro A x W hA hW hBW hdep _ K hK;have g27:=gv hA hdep 6 27;clear hdep hA;have g0:=qb HR2.out hW;have c0:W.cell? ⟨p,12,none⟩=some (.func (.func 91) #[] #[]):=qa g0 12;go_simp
   exact hK _ _ BR rfl
  ·intro A x W hA hW hBW hdep _ K hK;have g31:=gv hA hdep 10 31;clear hdep hA;have g0:=qb HR2.out hW;refine qF 160 _ rfl p 0 g31 167 _ (qm .u32 H1) (0,0) _ g0 Tryz.underlying160 rfl (by rw[qg,HST.out.1];kernel_rfl) (qei HST.out _ _) (hK _ _ Br rfl)
  ·intro A x W hA hW hBW hdep _ K hK;have g35:=gv hA hdep 14 35;clear hdep hA;have g0:=qb HR2.out hW;have c0:W.cell? ⟨p,10,none⟩=some (.slice a1 hl.length c1):=qa g0 10;go_simp
   exact hK _ _ BR rfl
  ·intro A x W hA hW hBW hdep _ K hK;have g39:=gv hA hdep 18 39;clear hdep hA;have g0:=qb HR2.out hW;have c0:W.cell? ⟨p,11,none⟩=some (.int .i64 64):=qa g0 11;go_simp
   exact hK _ _ BR rfl
  ·intro A x W hA hW hBW hdep _ K hK;have g36:=gv hA hdep 15 36;have g40:=gv hA hdep 19 40;clear hdep hA;go_simp
   refine(HPD.out _ (HH2.out.below hW) hhl' (by decide)).mono ?_;rintro e w' ⟨u,rfl,ho,hb⟩;exact hK _ _ hb (ownsRow_le ho hBW)
  ·intro A x W hA hW hBW hdep _ K hK;have a5:=hA.2 5 (by decide);conv at a5=>rhs;whnf
   clear hdep hA;have g0:=qb HRC.out hW;refine wp_load_row 157 _ rfl pc a5 _ _ _ _ g0 Tryz.underlying157 rfl (by kernel_rfl) (hK _ _ Br rfl)
  ·intro A x W hA hW hBW hdep _ K hK;have g28:=gv hA hdep 7 28;have g32:=gv hA hdep 11 32;have g41:(fun u W=>W.ownsRow W2.heap.size 5 1 u 64 (PZ.map qv)) (x 41) W:=hdep ⟨20,.data⟩ (by simp) rfl _ rfl;have a41:A.tmps.getD 41 undef=x 41:=hA.1 41 (by decide);have g42:=gv hA hdep 21 42;have g43:=gv hA hdep 22 43;clear hdep hA;go_simp
   refine(HMX2.out _ _ (Ya g41)).mono ?_;rintro e w' ⟨rfl,hb⟩;exact hK _ _ hb rfl
  ·intro A x W hA hW hBW hdep _ K hK;have g24:=gv hA hdep 3 24;have g44:=gv hA hdep 23 44;clear hdep hA;go_simp
   refine(qcv R HCW.out _).mono ?_;rintro e w' ⟨u,rfl,ho,hb⟩;exact hK _ _ hb (ownsRow_le ho hBW)
  ·intro A x W hA hW hBW hdep _ K hK;have g45:(fun u W=>W.ownsRow W2.heap.size 5 1 u 32 ((qP 4 R 8).map qv)) (x 45) W:=hdep ⟨24,.data⟩ (by simp) rfl _ rfl;have a45:A.tmps.getD 45 undef=x 45:=hA.1 45 (by decide);clear hdep hA;go_simp
   exact hK _ _ Br (a45▸g45)
 intro x W hW hBW hall;obtain⟨e41,e45,e4, -⟩:=hall;change (fun u W=>W.ownsRow W2.heap.size 5 1 u 64 (PZ.map qv)) (x 41) W at e41
 change (fun u W=>W.ownsRow W2.heap.size 5 1 u 32 ((qP 4 R 8).map qv)) (x 45) W at e45
 change (fun u W=>W.ownsRow W2.heap.size 5 1 u 32 ((qP 4 R 8).map qv)) (x 4) W at e4
 refine qo ?_;simp only[Qi,Act.put,Ls];have hB3:=HB2.out.trans (hW.mono hs12);have E4:=hid (ownsRow_le e4 hs12);clear e41 e45 e4 hW hBW;go_wp2
 go_ret
 exact⟨_,rfl,E4.out,hB3⟩
def Qm (kind dg:Int)(bv kv:Value)(last:Bool)(wr:Int)(e:Value):Array Value:= #[.int .i64 kind,.int .i64 dg,bv,kv,.bool last,.int .u64 wr,e]
def phT (big:Bool):TypeId:=cond big 153 163
theorem Hold.of_len {w:World}{a:Option Addr}{n c:Nat}{zs:List Int}(h:Hold w (.slice a n c) zs):n=zs.length:=by
 obtain⟨a',c',e, -⟩:=h.slice;simp only[Value.slice.injEq]at e;exact e.2.1
theorem YB {w:World}{v:Value}{zs:List Int}{b:Nat}(h:Hold w v zs)(hne:zs≠[])(hb:v.ownBlock=some b):b<w.heap.size:=by
 rcases h.2 with⟨h2, -⟩|⟨ad,cap,rfl, -, -,h3⟩
 ·exact absurd h2 hne
 ·obtain⟨b',off,rfl,h3, -⟩:=h3.resolve_left hne;simp only[Value.ownBlock,Option.some.injEq]at hb;subst hb;exact h3
theorem qd6 {W:World}{np:Nat}{kind dg:Int}{bv kv:Value}{la:Bool}{wr:Int}{e v:Value}{T:TypeId}(h:W.heap[np]? =some (.cells (Qm kind dg bv kv la wr e) T (0,0))):(W.setCell ⟨np,6,none⟩ v).heap[np]? =some (.cells (Qm kind dg bv kv la wr v) T (0,0)):=heap_setCell_same W np 6 _ _ v h
theorem zN {W:World}{np:Nat}{kind dg:Int}{bv kv:Value}{la b:Bool}{wr:Int}{e:Value}{T:TypeId}(h:W.heap[np]? =some (.cells (Qm kind dg bv kv la wr e) T (0,0))):(W.setCell ⟨np,4,none⟩ (.bool b)).heap[np]? =some (.cells (Qm kind dg bv kv b wr e) T (0,0)):=heap_setCell_same W np 4 _ _ _ h
theorem qcJ {W:World}{np:Nat}{kind dg:Int}{bv kv:Value}{la:Bool}{wr x:Int}{e:Value}{T:TypeId}(h:W.heap[np]? =some (.cells (Qm kind dg bv kv la wr e) T (0,0))):(W.setCell ⟨np,5,none⟩ (.int .u64 x)).heap[np]? =some (.cells (Qm kind dg bv kv la x e) T (0,0)):=heap_setCell_same W np 5 _ _ _ h
theorem jT {big:Bool}{W:World}{p:Nat}{h0:List Int}(h:W.heap[p]? =some (.cells (cond big Yd Yc h0 0 (.slice none 0 0)) (cond big 159 167) (0,0))):qW big W p (.slice none 0 0) h0 []:=by
 have e:Qj (bB big) []=[]:=by simp[Qj]
 refine⟨?_,by rw[e];exact Wo _ _ _ _⟩;simpa [qd7,stZ] using h
theorem QE {big:Bool}{W W':World}{p:Nat}{hv:Value}{h0 msg:List Int}(h:qW big W p hv h0 msg)(hb:Below W.heap.size W W'):qW big W' p hv h0 msg:=
 ⟨qb h.1 hb,qf h.2 (fun g _ hg=>hb.block g hg)⟩
theorem ZH {W:World}{B n b:Nat}{e:TypeId}{v:Value}{xs:List Value}(h:W.ownsRow B e 1 v n xs)(hb:v.ownBlock=some b):B≤b:=by
 rcases h.2 with⟨rfl, -⟩|⟨g,cap,cur,rfl,h1, -⟩
 ·cases hb
 ·simp only[Value.ownBlock,Option.some.injEq]at hb;omega
theorem Q5 {P:Program}{o:Oper}{a:Act}{K:Act→World→Prop}{Q:Exit→Act→World→Prop}{n:Nat}{T:TypeId}{x:Value}{name:String}{W:World}{f:FuncId}{g:FuncId×Value→World→Result Next}(hm:(method n T x name).run P W= .ok (f,x) W)(h:Oper.upon P o a K Q (g (f,x) W)):Oper.upon P o a K Q (((method n T x name).run P W).andThen g):=by
 rw[hm];exact h
theorem qcA (bs kz:List Int)(np:Nat)(dg wr:Int)(la:Bool)(bv kv e0:Value)(w:World)(hrow:w.heap[np]? =some (.cells (Qm 1 dg bv kv la wr e0) 80 (0,0)))(hB:Hold w bv bs)(hK:Hold w kv kz)(hl:bs.length=64)(hkl:kz.length≤64)(hkn:kv.ownBlock≠some np):
  Calls Tryz.prog 55 #[.pointer (some ⟨np,0,none⟩)] w fun e w'=>e= .returned (.tuple #[])∧(∃p hv,w.heap.size≤p∧w'.heap[np]? =some (.cells (Qm 1 dg bv kv false 0 (.iface 153 (.pointer (some ⟨p,0,none⟩)))) 80 (0,0))∧qW true w' p hv (h0Z true bs) (yn 128 kz)∧(∀g,hv.ownBlock=some g→w.heap.size≤g))∧Spare (fun k=>k≠np) w w':=by
 have hnp:np<w.heap.size:=(Ai hrow).1;obtain⟨kn,kc,ka,rfl⟩: ∃n c a,kv= .slice a n c:=by obtain⟨a,c,e, -⟩:=hK.slice;exact⟨_,_,_,e⟩
 obtain rfl:kn=kz.length:=hK.of_len;have HROW:=hid hrow;have HB:=hid hB;have HK:=hid hK;have HL:=hid hl;have HKN:=hid hkn;clear hrow hB hK hl hkn;go_enter Tryz.func55,Tryz.ntmps55
 go_upto_region 0 with(fail)
 refine qA (n:=10) (w0:=w) (B:=w.heap.size) [.v 2 (.pointer (some ⟨np,0,none⟩)),.v 3 (.pointer (some ⟨np,0,none⟩)),.v 4 (.pointer (some ⟨np,0,none⟩)),.v 5 (.pointer (some ⟨np,0,none⟩)),.v 6 (.int .i64 1),.v 7 (.pointer (some ⟨np,0,none⟩)),.v 8 (.pointer (some ⟨np,0,none⟩)),.v 9 (.pointer (some ⟨np,2,none⟩)),.v 10 bv,.p 11 (fun u W=> ∃p,u= .iface 153 (.pointer (some ⟨p,0,none⟩))∧w.heap.size≤p∧W.heap[p]? =some (.cells (Yd (h0Z true bs) 0 (.slice none 0 0)) 159 (0,0)))] (by exact⟨(fun _ _ _ h hb=>by obtain⟨p,e,h3,h4⟩:=h;exact⟨p,e,h3,qb h4 hb⟩),trivial⟩) Br.drew Nl ?_ ?_
 ·repeat' (with_reducible first|exact qt|refine qn ?_ ?_)
  all_goals try
   intro A x W hA hW hBW hdep D K hK;have a0:=hA.2 0 (by decide);conv at a0=>rhs;whnf
   simp only[QI,QU]at D;clear hdep hA;go_simp
   exact hK _ _ BR rfl
  ·intro A x W hA hW hBW hdep _ K hK;have g5:=gv hA hdep 3 5;clear hdep hA;have g0:=qb HROW.out hW;have c0:W.cell? ⟨np,0,none⟩=some (.int .i64 1):=qa g0 0;go_simp
   exact hK _ _ BR rfl
  ·intro A x W hA hW hBW hdep _ K hK;have g9:=gv hA hdep 7 9;clear hdep hA;have g0:=qb HROW.out hW;have c0:W.cell? ⟨np,2,none⟩=some bv:=qa g0 2;go_simp
   exact hK _ _ BR rfl
  ·intro A x W hA hW hBW hdep _ K hK;have g6:=gv hA hdep 4 6;have g10:=gv hA hdep 8 10;clear hdep hA;go_simp
   refine(qcz bs bv _ (HB.out.holds8.mono_below hW Nl) HB.out.1 HL.out).mono ?_;rintro e w' ⟨p,rfl,h1,h2,hb⟩;exact hK _ _ hb ⟨p,rfl,Nat.le_trans hBW h1,h2⟩
 intro x W hW hBW hall;obtain⟨e11, -⟩:=hall;change (fun u W=> ∃p,u= .iface 153 (.pointer (some ⟨p,0,none⟩))∧w.heap.size≤p∧W.heap[p]? =some (.cells (Yd (h0Z true bs) 0 (.slice none 0 0)) 159 (0,0))) (x 11) W at e11
 obtain⟨p,e11,hp1,hp2⟩:=e11;refine qh ?_;simp only[Qi,Act.put,Ls,e11];clear e11;have hr1:=qb HROW.out hW;have HP2:=hid hp2;have HR1:=hid hr1;have HW:=hid hW;have hnp1:np<W.heap.size:=(Ai hr1).1;have c6:W.cell? ⟨np,6,none⟩=some e0:=qa hr1 6;have f6:=frozen_of_row W np 6 _ _ hr1;clear hp2 hr1 hW hBW x;go_wp2_with fail
 refine qh ?_;go_wp2_with fail
 refine qh ?_;go_wp2_with fail
 refine qo ?_;have hrA:=qd6 (v:= .iface 153 (.pointer (some ⟨p,0,none⟩))) HR1.out;have hbA:Spare (fun k=>k≠np) w (W.setCell ⟨np,6,none⟩ (.iface 153 (.pointer (some ⟨p,0,none⟩)))):=(Spare.of_below _ HW.out).trans (Spare.of_but ((But.refl np W).set 6 _)) (fun _ _ h=>h);have hpA:(W.setCell ⟨np,6,none⟩ (.iface 153 (.pointer (some ⟨p,0,none⟩)))).heap[p]? =some (.cells (Yd (h0Z true bs) 0 (.slice none 0 0)) 159 (0,0)):=(heap_setCell_other W _ _ _ (by show p≠np;omega)).trans HP2.out;generalize W.setCell ⟨np,6,none⟩ (.iface 153 (.pointer (some ⟨p,0,none⟩)))=WA at*;clear HW HR1 HP2 c6 f6 hnp1 W;have c4:WA.cell? ⟨np,4,none⟩=some (.bool la):=qa hrA 4;have f4:=frozen_of_row WA np 4 _ _ hrA;have hnpA:np<WA.heap.size:=(Ai hrA).1;have HRA:=hid hrA;have HBA:=hid hbA;have HPA:=hid hpA;clear hrA hbA hpA;go_upto_region 2 with(fail)
 have hrA:=zN (b:=false) HRA.out;have hbA:Spare (fun k=>k≠np) w (WA.setCell ⟨np,4,none⟩ (.bool false)):=HBA.out.trans (Spare.of_but ((But.refl np WA).set 4 _)) (fun _ _ h=>h);have hpA:(WA.setCell ⟨np,4,none⟩ (.bool false)).heap[p]? =some (.cells (Yd (h0Z true bs) 0 (.slice none 0 0)) 159 (0,0)):=(heap_setCell_other WA _ _ _ (by show p≠np;omega)).trans HPA.out;generalize WA.setCell ⟨np,4,none⟩ (.bool false)=A1 at*;clear HBA HRA HPA c4 f4 hnpA WA;obtain⟨WA,rfl⟩:=Ex A1;have HRA:=hid hrA;have HBA:=hid hbA;have HPA:=hid hpA;have hnpA:np<A1.heap.size:=(Ai hrA).1;have c5:A1.cell? ⟨np,5,none⟩=some (.int .u64 wr):=qa hrA 5;have f5:=frozen_of_row A1 np 5 _ _ hrA;clear hrA hbA hpA;go_upto_region 3 with(fail)
 have hrA:=qcJ (x:=0) HRA.out;have hbA:Spare (fun k=>k≠np) w (A1.setCell ⟨np,5,none⟩ (.int .u64 0)):=HBA.out.trans (Spare.of_but ((But.refl np A1).set 5 _)) (fun _ _ h=>h);have hpA:(A1.setCell ⟨np,5,none⟩ (.int .u64 0)).heap[p]? =some (.cells (Yd (h0Z true bs) 0 (.slice none 0 0)) 159 (0,0)):=(heap_setCell_other A1 _ _ _ (by show p≠np;omega)).trans HPA.out;have hs0:w.heap.size≤(A1.setCell ⟨np,5,none⟩ (.int .u64 0)).heap.size:=hbA.size;generalize A1.setCell ⟨np,5,none⟩ (.int .u64 0)=WA at*;clear HBA HRA HPA c5 f5 hnpA A1;have c3:WA.cell? ⟨np,3,none⟩=some (.slice ka kz.length kc):=qa hrA 3;have hnpA:np<WA.heap.size:=(Ai hrA).1;have hpA2:p<WA.heap.size:=(Ai hpA).1;have HRA:=hid hrA;have HBA:=hid hbA;have HPA:=hid hpA;clear hrA hbA hpA;by_cases hk0:kz.length=0
 case pos=>
  obtain rfl:kz=[]:=List.eq_nil_of_length_eq_zero hk0;go_wp2
  go_end0
  exact⟨rfl,⟨p,.slice none 0 0,hp1,HRA.out,jT HPA.out,fun g h=>by cases h⟩,HBA.out⟩
 have hk1:0<kz.length:=by omega
 have hk2:(kz.length:Int)≤64:=by omega
 go_upto_region 4 with(fail)
 have hKA:Hold WA (.slice ka kz.length kc) kz:=HK.out.keep HBA.out.size fun b hb hlt=>HBA.out.block b hlt (fun e=>HKN.out (by rw[hb,e]))
 have HKA:=hid hKA;have hpz:=yC (n:=128) (zs:=kz) (by omega);have HPZ:=hid hpz;have HK0:=hid hk0;clear hKA hpz hk0 c3;have hkp:(Value.slice ka kz.length kc).ownBlock≠some p:=fun e=>by have:=YB HK.out (fun e=>by rw[e]at hk1;simp at hk1) e;omega
 refine Ql (fun f W=>W.heap[np]? =some (.cells (Qm 1 dg bv (.slice ka kz.length kc) false 0 (.iface 153 (.pointer (some ⟨p,0,none⟩)))) 80 (0,0))∧(f=false→Below WA.heap.size WA W)∧(WA.heap.size≤W.heap.size∧(∀b,b<WA.heap.size→b≠p→W.heap[b]? =WA.heap[b]?))∧(f=true→Spare (fun k=>k≠p) WA W∧ ∃hv,qW true W p hv (h0Z true bs) (ym 128 kz)∧ ∀g,hv.ownBlock=some g→WA.heap.size≤g)) 16 [.v 26 (.pointer (some ⟨np,0,none⟩)),.v 27 (.pointer (some ⟨np,0,none⟩)),.v 28 (.pointer (some ⟨np,6,none⟩)),.v 29 (.iface 153 (.pointer (some ⟨p,0,none⟩))),.v 30 (.pointer (some ⟨np,0,none⟩)),.v 31 (.pointer (some ⟨np,0,none⟩)),.v 32 (.pointer (some ⟨np,3,none⟩)),.v 33 (.slice ka kz.length kc),.v 34 (.pointer (some ⟨np,0,none⟩)),.v 35 (.pointer (some ⟨np,0,none⟩)),.v 36 (.pointer (some ⟨np,0,none⟩)),.v 37 (.int .i64 1),.v 38 (.int .i64 128),.p 39 (fun u W=>W.ownsRow WA.heap.size 5 1 u 128 ((ym 128 kz).map qv)),.v 40 (.iface 153 (.pointer (some ⟨p,0,none⟩))),.v 41 (.iface 153 (.pointer (some ⟨p,0,none⟩))),.p 42 (fun _ _=>True)] (by exact⟨(fun _ _ hb _ h=>qf h (fun g _ hg=>hb.block g hg)),kW,trivial⟩) ⟨HRA.out,fun _=>Br.drew,⟨Nat.le_refl _,fun _ _ _=>rfl⟩,fun h=>(by cases h)⟩ (fun f W W' h hb=>⟨qb h.1 hb,fun e=>(h.2.1 e).trans (hb.mono (h.2.1 e).size),⟨Nat.le_trans h.2.2.1.1 hb.size,fun b h1 h2=>(hb.block b (Nat.lt_of_lt_of_le h1 h.2.2.1.1)).trans (h.2.2.1.2 b h1 h2)⟩,fun e=>by obtain⟨h1,hv,h2,h3⟩:=h.2.2.2 e;exact⟨h1.trans (Spare.of_below _ hb) (fun _ _ h=>h),hv,QE h2 hb,h3⟩⟩) ?_ ?_ ?_
 ·repeat' (with_reducible first|exact qt|refine qn ?_ ?_)
  all_goals try
   refine .inr ?_;intro A x W f hA hR hf hdep D K hK;have a0:=hA.2 0 (by decide);conv at a0=>rhs;whnf
   simp only[QI,QU]at D;clear hdep hA;go_simp
   exact hK _ _ BR rfl
  any_goals exact .inl rfl
  all_goals refine .inr ?_
  ·intro A x W f hA hR hf hdep _ K hK;have g28:=gw hA hdep 2 28;clear hdep hA;have g0:=hR.1;have c0:W.cell? ⟨np,6,none⟩=some (.iface 153 (.pointer (some ⟨p,0,none⟩))):=qa g0 6;go_simp
   exact hK _ _ BR rfl
  ·intro A x W f hA hR hf hdep _ K hK;have g32:=gw hA hdep 6 32;clear hdep hA;have g0:=hR.1;have c0:W.cell? ⟨np,3,none⟩=some (.slice ka kz.length kc):=qa g0 3;go_simp
   exact hK _ _ BR rfl
  ·intro A x W f hA hR hf hdep _ K hK;have g36:=gw hA hdep 10 36;clear hdep hA;have g0:=hR.1;have c0:W.cell? ⟨np,0,none⟩=some (.int .i64 1):=qa g0 0;go_simp
   exact hK _ _ BR rfl
  ·intro A x W f hA hR hf hdep _ K hK;have g37:=gw hA hdep 11 37;clear hdep hA;go_simp
   refine(YQ true _).mono ?_;rintro e w' ⟨rfl,hw⟩;exact hK _ _ (by rw[hw];exact Below.refl _ _) rfl
  ·intro A x W f hA hR hf hdep _ K hK;have g33:=gw hA hdep 7 33;have g38:=gw hA hdep 12 38;clear hdep hA;go_simp
   have hKW:Hold W (.slice ka kz.length kc) kz:=HKA.out.keep hR.2.2.1.1 (fun b hb hlt=>hR.2.2.1.2 b hlt (fun e=>hkp (by rw[hb,e])));refine(zK kz _ 128 _ hKW (by omega) (by decide)).mono ?_;rintro e w' ⟨u,rfl,ho,hb⟩;exact hK _ _ hb (ownsRow_le ho hR.2.2.1.1)
 ·intro A x W hA hR hdep K hK;have g41:=gw hA hdep 15 41;have g39:(fun u W=>W.ownsRow WA.heap.size 5 1 u 128 ((ym 128 kz).map qv)) (x 39) W:=hdep ⟨13,.data⟩ (by simp) rfl;have a39:A.tmps.getD 39 undef=x 39:=hA.1 39 (by decide);clear hdep hA;have hB:=hR.2.1 rfl;go_simp
  refine Q5 (f:=200) (by kernel_rfl) ?_;go_simp
  have hbz:=yD (n:=128) HK.out.1;have hx39:Hold W (x 39) (ym 128 kz):=Qa g39 hbz;refine(jU (h0Z true bs) [] (ym 128 kz) (Q7 true bs) (fun _ h=>by cases h) p (.slice none 0 0) (x 39) W (jT (qb HPA.out hB)) hx39 (fun _ b hb=>⟨fun e=>by have:=ZH g39 hb;omega,fun e=>by cases e⟩) (by rw[HPZ.out];simp)).mono ?_;rintro e w' ⟨rfl,⟨hv',hE',hO'⟩,hS'⟩
  refine hK _ _ (fun h=>by cases h) ⟨(hS'.block np (Ai hR.1).1 ⟨by omega,fun e=>by cases e⟩).trans hR.1,fun h=>(by cases h),⟨Nat.le_trans hR.2.2.1.1 hS'.size,fun b h1 h2=>(hS'.block b (Nat.lt_of_lt_of_le h1 hR.2.2.1.1) ⟨h2,fun e=>by cases e⟩).trans (hR.2.2.1.2 b h1 h2)⟩,fun _=>⟨(Spare.of_below _ hB).trans hS' (fun b _ h=>⟨h,fun e=>by cases e⟩),hv',hE',fun g hg=>?_⟩⟩ ⟨.inr (fun _ h=>h),.inr (fun _ h=>h),.inr (fun _ h=>h),.inr (fun _ h=>h),.inr (fun _ h=>h),.inr (fun _ h=>h),.inr (fun _ h=>h),.inr (fun _ h=>h),.inr (fun _ h=>h),.inr (fun _ h=>h),.inr (fun _ h=>h),.inr (fun _ h=>h),.inr (fun _ h=>h),.inr (fun u h=>qf h (fun g h1 h2=>hS'.block g h2 ⟨by omega,fun e=>by cases e⟩)),.inr (fun _ h=>h),.inr (fun _ h=>h),.inl rfl,trivial⟩ trivial;rcases hO' with hO'|hO'
  ·rw[hO']at hg;cases hg
  ·have:=hO' g hg;have:=hB.size;omega
 intro x W hR hall;obtain⟨e39,e42, -⟩:=hall;change (fun u W=>W.ownsRow WA.heap.size 5 1 u 128 ((ym 128 kz).map qv)) (x 39) W at e39
 change ((fun _ _=>True)) (x 42) W at e42
 simp only[Qi,Act.put,Ls];obtain⟨hr9, -, -,h9⟩:=hR;obtain⟨hs9,hv9,hE9,ho9⟩:=h9 rfl;have H9:=hid (show(∃p hv,w.heap.size≤p∧W.heap[np]? =some (.cells (Qm 1 dg bv (.slice ka kz.length kc) false 0 (.iface 153 (.pointer (some ⟨p,0,none⟩)))) 80 (0,0))∧qW true W p hv (h0Z true bs) (yn 128 kz)∧(∀g,hv.ownBlock=some g→w.heap.size≤g))∧Spare (fun k=>k≠np) w W from⟨⟨p,hv9,hp1,hr9,by unfold yn;rw[if_neg HK0.out];exact hE9,fun g hg=>Nat.le_trans hs0 (ho9 g hg)⟩,HBA.out.trans hs9 (fun b hb _=>by omega)⟩);clear hr9 hs9 hE9 ho9 h9 e39;go_wp2
 go_end0
 exact⟨rfl,H9.out⟩
theorem qbD (bs kz:List Int)(np:Nat)(dg wr:Int)(la:Bool)(bv kv e0:Value)(w:World)(hrow:w.heap[np]? =some (.cells (Qm 2 dg bv kv la wr e0) 80 (0,0)))(hB:Hold w bv bs)(hK:Hold w kv kz)(hl:bs.length=32)(hkl:kz.length≤32)(hkn:kv.ownBlock≠some np):
  Calls Tryz.prog 55 #[.pointer (some ⟨np,0,none⟩)] w fun e w'=>e= .returned (.tuple #[])∧(∃p hv,w.heap.size≤p∧w'.heap[np]? =some (.cells (Qm 2 dg bv kv false 0 (.iface 163 (.pointer (some ⟨p,0,none⟩)))) 80 (0,0))∧qW false w' p hv (h0Z false bs) (yn 64 kz)∧(∀g,hv.ownBlock=some g→w.heap.size≤g))∧Spare (fun k=>k≠np) w w':=by
 have hnp:np<w.heap.size:=(Ai hrow).1;obtain⟨kn,kc,ka,rfl⟩: ∃n c a,kv= .slice a n c:=by obtain⟨a,c,e, -⟩:=hK.slice;exact⟨_,_,_,e⟩
 obtain rfl:kn=kz.length:=hK.of_len;have HROW:=hid hrow;have HB:=hid hB;have HK:=hid hK;have HL:=hid hl;have HKN:=hid hkn;clear hrow hB hK hl hkn;go_enter Tryz.func55,Tryz.ntmps55
 go_upto_region 0 with(fail)
 refine qA (n:=10) (w0:=w) (B:=w.heap.size) [.v 2 (.pointer (some ⟨np,0,none⟩)),.v 3 (.pointer (some ⟨np,0,none⟩)),.v 4 (.pointer (some ⟨np,0,none⟩)),.v 5 (.pointer (some ⟨np,0,none⟩)),.v 6 (.int .i64 2),.v 7 (.pointer (some ⟨np,0,none⟩)),.v 8 (.pointer (some ⟨np,0,none⟩)),.v 9 (.pointer (some ⟨np,2,none⟩)),.v 10 bv,.p 11 (fun u W=> ∃p,u= .iface 163 (.pointer (some ⟨p,0,none⟩))∧w.heap.size≤p∧W.heap[p]? =some (.cells (Yc (h0Z false bs) 0 (.slice none 0 0)) 167 (0,0)))] (by exact⟨(fun _ _ _ h hb=>by obtain⟨p,e,h3,h4⟩:=h;exact⟨p,e,h3,qb h4 hb⟩),trivial⟩) Br.drew Nl ?_ ?_
 ·repeat' (with_reducible first|exact qt|refine qn ?_ ?_)
  all_goals try
   intro A x W hA hW hBW hdep D K hK;have a0:=hA.2 0 (by decide);conv at a0=>rhs;whnf
   simp only[QI,QU]at D;clear hdep hA;go_simp
   exact hK _ _ BR rfl
  ·intro A x W hA hW hBW hdep _ K hK;have g5:=gv hA hdep 3 5;clear hdep hA;have g0:=qb HROW.out hW;have c0:W.cell? ⟨np,0,none⟩=some (.int .i64 2):=qa g0 0;go_simp
   exact hK _ _ BR rfl
  ·intro A x W hA hW hBW hdep _ K hK;have g9:=gv hA hdep 7 9;clear hdep hA;have g0:=qb HROW.out hW;have c0:W.cell? ⟨np,2,none⟩=some bv:=qa g0 2;go_simp
   exact hK _ _ BR rfl
  ·intro A x W hA hW hBW hdep _ K hK;have g6:=gv hA hdep 4 6;have g10:=gv hA hdep 8 10;clear hdep hA;go_simp
   refine(qbC bs bv _ (HB.out.holds8.mono_below hW Nl) HB.out.1 HL.out).mono ?_;rintro e w' ⟨p,rfl,h1,h2,hb⟩;exact hK _ _ hb ⟨p,rfl,Nat.le_trans hBW h1,h2⟩
 intro x W hW hBW hall;obtain⟨e11, -⟩:=hall;change (fun u W=> ∃p,u= .iface 163 (.pointer (some ⟨p,0,none⟩))∧w.heap.size≤p∧W.heap[p]? =some (.cells (Yc (h0Z false bs) 0 (.slice none 0 0)) 167 (0,0))) (x 11) W at e11
 obtain⟨p,e11,hp1,hp2⟩:=e11;refine qh ?_;simp only[Qi,Act.put,Ls,e11];clear e11;have hr1:=qb HROW.out hW;have HP2:=hid hp2;have HR1:=hid hr1;have HW:=hid hW;have hnp1:np<W.heap.size:=(Ai hr1).1;have c6:W.cell? ⟨np,6,none⟩=some e0:=qa hr1 6;have f6:=frozen_of_row W np 6 _ _ hr1;clear hp2 hr1 hW hBW x;go_wp2_with fail
 refine qh ?_;go_wp2_with fail
 refine qh ?_;go_wp2_with fail
 refine qo ?_;have hrA:=qd6 (v:= .iface 163 (.pointer (some ⟨p,0,none⟩))) HR1.out;have hbA:Spare (fun k=>k≠np) w (W.setCell ⟨np,6,none⟩ (.iface 163 (.pointer (some ⟨p,0,none⟩)))):=(Spare.of_below _ HW.out).trans (Spare.of_but ((But.refl np W).set 6 _)) (fun _ _ h=>h);have hpA:(W.setCell ⟨np,6,none⟩ (.iface 163 (.pointer (some ⟨p,0,none⟩)))).heap[p]? =some (.cells (Yc (h0Z false bs) 0 (.slice none 0 0)) 167 (0,0)):=(heap_setCell_other W _ _ _ (by show p≠np;omega)).trans HP2.out;generalize W.setCell ⟨np,6,none⟩ (.iface 163 (.pointer (some ⟨p,0,none⟩)))=WA at*;clear HW HR1 HP2 c6 f6 hnp1 W;have c4:WA.cell? ⟨np,4,none⟩=some (.bool la):=qa hrA 4;have f4:=frozen_of_row WA np 4 _ _ hrA;have hnpA:np<WA.heap.size:=(Ai hrA).1;have HRA:=hid hrA;have HBA:=hid hbA;have HPA:=hid hpA;clear hrA hbA hpA;go_upto_region 2 with(fail)
 have hrA:=zN (b:=false) HRA.out;have hbA:Spare (fun k=>k≠np) w (WA.setCell ⟨np,4,none⟩ (.bool false)):=HBA.out.trans (Spare.of_but ((But.refl np WA).set 4 _)) (fun _ _ h=>h);have hpA:(WA.setCell ⟨np,4,none⟩ (.bool false)).heap[p]? =some (.cells (Yc (h0Z false bs) 0 (.slice none 0 0)) 167 (0,0)):=(heap_setCell_other WA _ _ _ (by show p≠np;omega)).trans HPA.out;generalize WA.setCell ⟨np,4,none⟩ (.bool false)=A1 at*;clear HBA HRA HPA c4 f4 hnpA WA;obtain⟨WA,rfl⟩:=Ex A1;have HRA:=hid hrA;have HBA:=hid hbA;have HPA:=hid hpA;have hnpA:np<A1.heap.size:=(Ai hrA).1;have c5:A1.cell? ⟨np,5,none⟩=some (.int .u64 wr):=qa hrA 5;have f5:=frozen_of_row A1 np 5 _ _ hrA;clear hrA hbA hpA;go_upto_region 3 with(fail)
 have hrA:=qcJ (x:=0) HRA.out;have hbA:Spare (fun k=>k≠np) w (A1.setCell ⟨np,5,none⟩ (.int .u64 0)):=HBA.out.trans (Spare.of_but ((But.refl np A1).set 5 _)) (fun _ _ h=>h);have hpA:(A1.setCell ⟨np,5,none⟩ (.int .u64 0)).heap[p]? =some (.cells (Yc (h0Z false bs) 0 (.slice none 0 0)) 167 (0,0)):=(heap_setCell_other A1 _ _ _ (by show p≠np;omega)).trans HPA.out;have hs0:w.heap.size≤(A1.setCell ⟨np,5,none⟩ (.int .u64 0)).heap.size:=hbA.size;generalize A1.setCell ⟨np,5,none⟩ (.int .u64 0)=WA at*;clear HBA HRA HPA c5 f5 hnpA A1;have c3:WA.cell? ⟨np,3,none⟩=some (.slice ka kz.length kc):=qa hrA 3;have hnpA:np<WA.heap.size:=(Ai hrA).1;have hpA2:p<WA.heap.size:=(Ai hpA).1;have HRA:=hid hrA;have HBA:=hid hbA;have HPA:=hid hpA;clear hrA hbA hpA;by_cases hk0:kz.length=0
 case pos=>
  obtain rfl:kz=[]:=List.eq_nil_of_length_eq_zero hk0;go_wp2
  go_end0
  exact⟨rfl,⟨p,.slice none 0 0,hp1,HRA.out,jT HPA.out,fun g h=>by cases h⟩,HBA.out⟩
 have hk1:0<kz.length:=by omega
 have hk2:(kz.length:Int)≤32:=by omega
 go_upto_region 4 with(fail)
 have hKA:Hold WA (.slice ka kz.length kc) kz:=HK.out.keep HBA.out.size fun b hb hlt=>HBA.out.block b hlt (fun e=>HKN.out (by rw[hb,e]))
 have HKA:=hid hKA;have hpz:=yC (n:=64) (zs:=kz) (by omega);have HPZ:=hid hpz;have HK0:=hid hk0;clear hKA hpz hk0 c3;have hkp:(Value.slice ka kz.length kc).ownBlock≠some p:=fun e=>by have:=YB HK.out (fun e=>by rw[e]at hk1;simp at hk1) e;omega
 refine Ql (fun f W=>W.heap[np]? =some (.cells (Qm 2 dg bv (.slice ka kz.length kc) false 0 (.iface 163 (.pointer (some ⟨p,0,none⟩)))) 80 (0,0))∧(f=false→Below WA.heap.size WA W)∧(WA.heap.size≤W.heap.size∧(∀b,b<WA.heap.size→b≠p→W.heap[b]? =WA.heap[b]?))∧(f=true→Spare (fun k=>k≠p) WA W∧ ∃hv,qW false W p hv (h0Z false bs) (ym 64 kz)∧ ∀g,hv.ownBlock=some g→WA.heap.size≤g)) 16 [.v 26 (.pointer (some ⟨np,0,none⟩)),.v 27 (.pointer (some ⟨np,0,none⟩)),.v 28 (.pointer (some ⟨np,6,none⟩)),.v 29 (.iface 163 (.pointer (some ⟨p,0,none⟩))),.v 30 (.pointer (some ⟨np,0,none⟩)),.v 31 (.pointer (some ⟨np,0,none⟩)),.v 32 (.pointer (some ⟨np,3,none⟩)),.v 33 (.slice ka kz.length kc),.v 34 (.pointer (some ⟨np,0,none⟩)),.v 35 (.pointer (some ⟨np,0,none⟩)),.v 36 (.pointer (some ⟨np,0,none⟩)),.v 37 (.int .i64 2),.v 38 (.int .i64 64),.p 39 (fun u W=>W.ownsRow WA.heap.size 5 1 u 64 ((ym 64 kz).map qv)),.v 40 (.iface 163 (.pointer (some ⟨p,0,none⟩))),.v 41 (.iface 163 (.pointer (some ⟨p,0,none⟩))),.p 42 (fun _ _=>True)] (by exact⟨(fun _ _ hb _ h=>qf h (fun g _ hg=>hb.block g hg)),kW,trivial⟩) ⟨HRA.out,fun _=>Br.drew,⟨Nat.le_refl _,fun _ _ _=>rfl⟩,fun h=>(by cases h)⟩ (fun f W W' h hb=>⟨qb h.1 hb,fun e=>(h.2.1 e).trans (hb.mono (h.2.1 e).size),⟨Nat.le_trans h.2.2.1.1 hb.size,fun b h1 h2=>(hb.block b (Nat.lt_of_lt_of_le h1 h.2.2.1.1)).trans (h.2.2.1.2 b h1 h2)⟩,fun e=>by obtain⟨h1,hv,h2,h3⟩:=h.2.2.2 e;exact⟨h1.trans (Spare.of_below _ hb) (fun _ _ h=>h),hv,QE h2 hb,h3⟩⟩) ?_ ?_ ?_
 ·repeat' (with_reducible first|exact qt|refine qn ?_ ?_)
  all_goals try
   refine .inr ?_;intro A x W f hA hR hf hdep D K hK;have a0:=hA.2 0 (by decide);conv at a0=>rhs;whnf
   simp only[QI,QU]at D;clear hdep hA;go_simp
   exact hK _ _ BR rfl
  any_goals exact .inl rfl
  all_goals refine .inr ?_
  ·intro A x W f hA hR hf hdep _ K hK;have g28:=gw hA hdep 2 28;clear hdep hA;have g0:=hR.1;have c0:W.cell? ⟨np,6,none⟩=some (.iface 163 (.pointer (some ⟨p,0,none⟩))):=qa g0 6;go_simp
   exact hK _ _ BR rfl
  ·intro A x W f hA hR hf hdep _ K hK;have g32:=gw hA hdep 6 32;clear hdep hA;have g0:=hR.1;have c0:W.cell? ⟨np,3,none⟩=some (.slice ka kz.length kc):=qa g0 3;go_simp
   exact hK _ _ BR rfl
  ·intro A x W f hA hR hf hdep _ K hK;have g36:=gw hA hdep 10 36;clear hdep hA;have g0:=hR.1;have c0:W.cell? ⟨np,0,none⟩=some (.int .i64 2):=qa g0 0;go_simp
   exact hK _ _ BR rfl
  ·intro A x W f hA hR hf hdep _ K hK;have g37:=gw hA hdep 11 37;clear hdep hA;go_simp
   refine(YQ false _).mono ?_;rintro e w' ⟨rfl,hw⟩;exact hK _ _ (by rw[hw];exact Below.refl _ _) rfl
  ·intro A x W f hA hR hf hdep _ K hK;have g33:=gw hA hdep 7 33;have g38:=gw hA hdep 12 38;clear hdep hA;go_simp
   have hKW:Hold W (.slice ka kz.length kc) kz:=HKA.out.keep hR.2.2.1.1 (fun b hb hlt=>hR.2.2.1.2 b hlt (fun e=>hkp (by rw[hb,e])));refine(zK kz _ 64 _ hKW (by omega) (by decide)).mono ?_;rintro e w' ⟨u,rfl,ho,hb⟩;exact hK _ _ hb (ownsRow_le ho hR.2.2.1.1)
 ·intro A x W hA hR hdep K hK;have g41:=gw hA hdep 15 41;have g39:(fun u W=>W.ownsRow WA.heap.size 5 1 u 64 ((ym 64 kz).map qv)) (x 39) W:=hdep ⟨13,.data⟩ (by simp) rfl;have a39:A.tmps.getD 39 undef=x 39:=hA.1 39 (by decide);clear hdep hA;have hB:=hR.2.1 rfl;go_simp
  refine Q5 (f:=206) (by kernel_rfl) ?_;go_simp
  have hbz:=yD (n:=64) HK.out.1;have hx39:Hold W (x 39) (ym 64 kz):=Qa g39 hbz;refine(ji (h0Z false bs) [] (ym 64 kz) (Q7 false bs) (fun _ h=>by cases h) p (.slice none 0 0) (x 39) W (jT (qb HPA.out hB)) hx39 (fun _ b hb=>⟨fun e=>by have:=ZH g39 hb;omega,fun e=>by cases e⟩) (by rw[HPZ.out];simp)).mono ?_;rintro e w' ⟨rfl,⟨hv',hE',hO'⟩,hS'⟩
  refine hK _ _ (fun h=>by cases h) ⟨(hS'.block np (Ai hR.1).1 ⟨by omega,fun e=>by cases e⟩).trans hR.1,fun h=>(by cases h),⟨Nat.le_trans hR.2.2.1.1 hS'.size,fun b h1 h2=>(hS'.block b (Nat.lt_of_lt_of_le h1 hR.2.2.1.1) ⟨h2,fun e=>by cases e⟩).trans (hR.2.2.1.2 b h1 h2)⟩,fun _=>⟨(Spare.of_below _ hB).trans hS' (fun b _ h=>⟨h,fun e=>by cases e⟩),hv',hE',fun g hg=>?_⟩⟩ ⟨.inr (fun _ h=>h),.inr (fun _ h=>h),.inr (fun _ h=>h),.inr (fun _ h=>h),.inr (fun _ h=>h),.inr (fun _ h=>h),.inr (fun _ h=>h),.inr (fun _ h=>h),.inr (fun _ h=>h),.inr (fun _ h=>h),.inr (fun _ h=>h),.inr (fun _ h=>h),.inr (fun _ h=>h),.inr (fun u h=>qf h (fun g h1 h2=>hS'.block g h2 ⟨by omega,fun e=>by cases e⟩)),.inr (fun _ h=>h),.inr (fun _ h=>h),.inl rfl,trivial⟩ trivial;rcases hO' with hO'|hO'
  ·rw[hO']at hg;cases hg
  ·have:=hO' g hg;have:=hB.size;omega
 intro x W hR hall;obtain⟨e39,e42, -⟩:=hall;change (fun u W=>W.ownsRow WA.heap.size 5 1 u 64 ((ym 64 kz).map qv)) (x 39) W at e39
 change ((fun _ _=>True)) (x 42) W at e42
 simp only[Qi,Act.put,Ls];obtain⟨hr9, -, -,h9⟩:=hR;obtain⟨hs9,hv9,hE9,ho9⟩:=h9 rfl;have H9:=hid (show(∃p hv,w.heap.size≤p∧W.heap[np]? =some (.cells (Qm 2 dg bv (.slice ka kz.length kc) false 0 (.iface 163 (.pointer (some ⟨p,0,none⟩)))) 80 (0,0))∧qW false W p hv (h0Z false bs) (yn 64 kz)∧(∀g,hv.ownBlock=some g→w.heap.size≤g))∧Spare (fun k=>k≠np) w W from⟨⟨p,hv9,hp1,hr9,by unfold yn;rw[if_neg HK0.out];exact hE9,fun g hg=>Nat.le_trans hs0 (ho9 g hg)⟩,HBA.out.trans hs9 (fun b hb _=>by omega)⟩);clear hr9 hs9 hE9 ho9 h9 e39;go_wp2
 go_end0
 exact⟨rfl,H9.out⟩
def Fresh (base:Nat)(W:World)(v:Value)(zs:List Int):Prop:=
 (zs=[]∧v= .slice none 0 0)∨ ∃g cap cur,v= .slice (some ⟨g,0,none⟩) zs.length cap∧base≤g∧W.heap[g]? =some (.cells cur 5 (0,0))∧zs.length≤cap∧cap≤cur.size∧cap≤maxLen∧cur.toList.take zs.length=zs.map qv
theorem Fresh.below {base:Nat}{W W':World}{v:Value}{zs:List Int}(h:Fresh base W v zs)(hb:Below W.heap.size W W'):Fresh base W' v zs:=by
 rcases h with h|⟨g,cap,cur,e,h1,h2,h3⟩
 ·exact .inl h
 ·exact .inr ⟨g,cap,cur,e,h1,qb h2 hb,h3⟩
theorem Fresh.le {base b':Nat}{W:World}{v:Value}{zs:List Int}(h:Fresh base W v zs)(hb:b'≤base):Fresh b' W v zs:=by
 rcases h with h|⟨g,cap,cur,e,h1,h2⟩
 ·exact .inl h
 ·exact .inr ⟨g,cap,cur,e,Nat.le_trans hb h1,h2⟩
theorem Fresh.hold {base:Nat}{W:World}{v:Value}{zs:List Int}(h:Fresh base W v zs)(hz: ∀z∈zs,0≤z∧z≤255):Hold W v zs:=by
 refine⟨hz,?_⟩;rcases h with h|⟨g,cap,cur,rfl,h1,h2,h3,h4,h5,h6⟩
 ·exact .inl h
 ·refine .inr ⟨⟨g,0,none⟩,cap,rfl,h3,h5,.inr ⟨g,0,rfl,(Ai h2).1,fun i hi=>?_⟩⟩;have e:=congrArg (fun l:List Value=>l[i]?) h6;simp only[List.getElem?_take,hi,if_true,List.getElem?_map,Array.getElem?_toList]at e;rw[Nat.zero_add,qa h2 i,e];simp[qv,qp,Lg,hi]
theorem Jn {base g c m:Nat}{W:World}{zs:List Int}(h:W.ownsRow base 5 1 (.slice (some ⟨g,0,none⟩) zs.length c) zs.length (zs.map qv))(hm:m≤zs.length):Fresh base W (.slice (some ⟨g,0,none⟩) m m) (zs.take m):=by
 obtain⟨cur,h2,h3,h4,h5,h6,h7⟩:=zL h;have e:(zs.take m).length=m:=by simp[List.length_take,Nat.min_eq_left hm]
 refine .inr ⟨g,m,cur,by rw[e],h5,h2,by omega,by omega,by omega,?_⟩;rw[e,List.map_take,←h4,List.take_take,Nat.min_eq_left hm]
theorem qcI (big:Bool)(np p:Nat)(kind dg wr:Int)(la:Bool)(bv kv:Value)(w:World)(hrow:w.heap[np]? =some (.cells (Qm kind dg bv kv la wr (.iface (phT big) (.pointer (some ⟨p,0,none⟩)))) 80 (0,0))):
  Calls Tryz.prog 56 #[.pointer (some ⟨np,0,none⟩)] w fun e w'=>e= .returned (.bool false)∧w'=w:=by
 have c6:w.cell? ⟨np,6,none⟩=some (.iface (phT big) (.pointer (some ⟨p,0,none⟩))):=qa hrow 6;have hnp:np<w.heap.size:=(Ai hrow).1;clear hrow;go_enter Tryz.func56,Tryz.ntmps56
 go_wp2
 go_ret
 exact⟨rfl,rfl⟩
theorem J4 {W:World}{B n:Nat}{v:Value}{xs:List Value}(h:W.ownsRow B 5 1 v n xs):W.ownsRow 0 5 1 v n xs:=ownsRow_le h (Nat.zero_le _)
theorem qaG (h0 msg:List Int)(hh:Words 64 8 h0)(hm: ∀z∈msg,0≤z∧z≤255)(np p m:Nat)(dg wr:Int)(la:Bool)(bv kv hv:Value)(w:World)(hrow:w.heap[np]? =some (.cells (Qm 1 dg bv kv la wr (.iface 153 (.pointer (some ⟨p,0,none⟩)))) 80 (0,0)))(hE:qW true w p hv h0 msg)(hlen:(msg.length:Int)≤281474976710656)(hm1:1≤m)(hm2:m≤64):
  Calls Tryz.prog 34 #[.pointer (some ⟨np,0,none⟩),.int .i64 (m:Nat)] w fun e w'=>(∃v,e= .returned (.tuple #[v,.int .i64 0])∧Fresh w.heap.size w' v ((zW true h0 msg la).take m))∧Below w.heap.size w w':=by
 have hN:=qcI true np p 1 dg wr la bv kv w hrow;have c0:w.cell? ⟨np,0,none⟩=some (.int .i64 1):=qa hrow 0;have hnp:np<w.heap.size:=(Ai hrow).1;have HN:=hid hN;have HROW:=hid hrow;have HO:=hid (fun(W:World) (h:qW true W p hv h0 msg)=>qd2 h0 msg la hh hm p hv W h hlen);have HE:=hid hE;have hol:=yF true h0 msg la;generalize zW true h0 msg la=Z at*;have HOL:=hid (show Z.length=64 from hol);clear hN hrow hE hh hm hlen hol;have hm3:1≤(m:Int)∧(m:Int)≤64:=by omega
 obtain⟨hm3,hm4⟩:=hm3;go_enter Tryz.func34,Tryz.ntmps34
 go_wp2_with fail
 refine HN.out.mono ?_;rintro e w1 ⟨rfl,hw⟩;rw[hw];clear hw;go_wp2_with fail
 refine(YQ true _).mono ?_;rintro e w1 ⟨rfl,hw⟩;rw[hw];clear hw;rw[show((bB true:Nat):Int)=128 from rfl];go_upto_region 5 with(fail)
 clear c0;refine qA (n:=16) (w0:=w) (B:=w.heap.size) [.v 20 (.pointer (some ⟨np,0,none⟩)),.v 21 (.pointer (some ⟨np,0,none⟩)),.v 22 (.pointer (some ⟨np,6,none⟩)),.v 23 (.iface 153 (.pointer (some ⟨p,0,none⟩))),.v 24 (.pointer (some ⟨np,0,none⟩)),.v 25 (.pointer (some ⟨np,0,none⟩)),.v 26 (.pointer (some ⟨np,4,none⟩)),.v 27 (.bool la),.v 28 (.iface 153 (.pointer (some ⟨p,0,none⟩))),.v 29 (.iface 153 (.pointer (some ⟨p,0,none⟩))),.p 30 (fun u W=>W.ownsRow w.heap.size 5 1 u 64 (Z.map qv)),.v 31 (.int .i64 (m:Nat)),.v 32 (.int .i64 (m:Nat)),.p 33 (fun u W=>Fresh w.heap.size W u (Z.take m)),.p 4 (fun u W=>Fresh w.heap.size W u (Z.take m)),.v 5 (.int .i64 0)] (by exact⟨(fun _ _ _ h hb=>qf h (fun g _ hg=>hb.block g hg)),(fun _ _ _ h hb=>h.below hb),(fun _ _ _ h hb=>h.below hb),trivial⟩) Br.drew Nl ?_ ?_
 ·repeat' (with_reducible first|exact qt|refine qn ?_ ?_)
  all_goals try
   intro A x W hA hW hBW hdep D K hK;have a0:=hA.2 0 (by decide);conv at a0=>rhs;whnf
   have a1:=hA.2 1 (by decide);conv at a1=>rhs;whnf
   simp only[QI,QU]at D;clear hdep hA;go_simp
   exact hK _ _ BR rfl
  ·intro A x W hA hW hBW hdep _ K hK;have g22:=gv hA hdep 2 22;clear hdep hA;have g0:=qb HROW.out hW;have c0:W.cell? ⟨np,6,none⟩=some (.iface 153 (.pointer (some ⟨p,0,none⟩))):=qa g0 6;go_simp
   exact hK _ _ BR rfl
  ·intro A x W hA hW hBW hdep _ K hK;have g26:=gv hA hdep 6 26;clear hdep hA;have g0:=qb HROW.out hW;have c0:W.cell? ⟨np,4,none⟩=some (.bool la):=qa g0 4;go_simp
   exact hK _ _ BR rfl
  ·intro A x W hA hW hBW hdep _ K hK;have g29:=gv hA hdep 9 29;have g27:=gv hA hdep 7 27;clear hdep hA;go_simp
   refine Q5 (f:=198) (by kernel_rfl) ?_;go_simp
   refine(HO.out _ (QE HE.out hW)).mono ?_;rintro e w' ⟨u,rfl,ho,hb⟩;exact hK _ _ hb (ownsRow_le ho hBW)
  ·intro A x W hA hW hBW hdep _ K hK;have g30:(fun u W=>W.ownsRow w.heap.size 5 1 u 64 (Z.map qv)) (x 30) W:=hdep ⟨10,.data⟩ (by simp) rfl _ rfl;have a30:A.tmps.getD 30 undef=x 30:=hA.1 30 (by decide);have g31:=gv hA hdep 11 31;have g32:=gv hA hdep 12 32;clear hdep hA;obtain⟨s1,s2,s3,e30⟩:=qs g30;rw[e30]at g30 a30;obtain rfl:s2=64:=yu g30;obtain⟨gg,rfl⟩:=ZG (J4 g30) (by decide);obtain⟨cu, -, -, -, -,hk1,hk2⟩:=zL g30;have hk3:(s3:Int)≤9223372036854775807:=by unfold maxLen at hk2;omega
   have hk4:(m:Int)≤s3:=by omega
   have hk5:64≤(s3:Int):=by omega
   have hft:=Jn (m:=m) (zs:=Z) (c:=s3) (by rw[HOL.out];exact g30) (by rw[HOL.out];exact hm2);have HFT:=hid hft;clear hft;go_simp
   exact hK _ _ Br HFT.out
  ·intro A x W hA hW hBW hdep _ K hK;have g33:(fun u W=>Fresh w.heap.size W u (Z.take m)) (x 33) W:=hdep ⟨13,.data⟩ (by simp) rfl _ rfl;have a33:A.tmps.getD 33 undef=x 33:=hA.1 33 (by decide);clear hdep hA;go_simp
   exact hK _ _ Br (a33▸g33)
 intro x W hW hBW hall;obtain⟨e30,e33,e4, -⟩:=hall;change (fun u W=>W.ownsRow w.heap.size 5 1 u 64 (Z.map qv)) (x 30) W at e30
 change (fun u W=>Fresh w.heap.size W u (Z.take m)) (x 33) W at e33
 change (fun u W=>Fresh w.heap.size W u (Z.take m)) (x 4) W at e4
 refine qo ?_;simp only[Qi,Act.put,Ls];have E4:=hid e4;have HW:=hid hW;clear e4 e30 e33 hW;go_wp2
 go_ret2
 exact⟨⟨_,rfl,E4.out⟩,HW.out⟩
theorem JR (h0 msg:List Int)(hh:Words 32 8 h0)(hm: ∀z∈msg,0≤z∧z≤255)(np p m:Nat)(dg wr:Int)(la:Bool)(bv kv hv:Value)(w:World)(hrow:w.heap[np]? =some (.cells (Qm 2 dg bv kv la wr (.iface 163 (.pointer (some ⟨p,0,none⟩)))) 80 (0,0)))(hE:qW false w p hv h0 msg)(hlen:(msg.length:Int)≤281474976710656)(hm1:1≤m)(hm2:m≤32):
  Calls Tryz.prog 34 #[.pointer (some ⟨np,0,none⟩),.int .i64 (m:Nat)] w fun e w'=>(∃v,e= .returned (.tuple #[v,.int .i64 0])∧Fresh w.heap.size w' v ((zW false h0 msg la).take m))∧Below w.heap.size w w':=by
 have hN:=qcI false np p 2 dg wr la bv kv w hrow;have c0:w.cell? ⟨np,0,none⟩=some (.int .i64 2):=qa hrow 0;have hnp:np<w.heap.size:=(Ai hrow).1;have HN:=hid hN;have HROW:=hid hrow;have HO:=hid (fun(W:World) (h:qW false W p hv h0 msg)=>qdf h0 msg la hh hm p hv W h hlen);have HE:=hid hE;have hol:=yF false h0 msg la;generalize zW false h0 msg la=Z at*;have HOL:=hid (show Z.length=32 from hol);clear hN hrow hE hh hm hlen hol;have hm3:1≤(m:Int)∧(m:Int)≤32:=by omega
 obtain⟨hm3,hm4⟩:=hm3;go_enter Tryz.func34,Tryz.ntmps34
 go_wp2_with fail
 refine HN.out.mono ?_;rintro e w1 ⟨rfl,hw⟩;rw[hw];clear hw;go_wp2_with fail
 refine(YQ false _).mono ?_;rintro e w1 ⟨rfl,hw⟩;rw[hw];clear hw;rw[show((bB false:Nat):Int)=64 from rfl];go_upto_region 5 with(fail)
 clear c0;refine qA (n:=16) (w0:=w) (B:=w.heap.size) [.v 20 (.pointer (some ⟨np,0,none⟩)),.v 21 (.pointer (some ⟨np,0,none⟩)),.v 22 (.pointer (some ⟨np,6,none⟩)),.v 23 (.iface 163 (.pointer (some ⟨p,0,none⟩))),.v 24 (.pointer (some ⟨np,0,none⟩)),.v 25 (.pointer (some ⟨np,0,none⟩)),.v 26 (.pointer (some ⟨np,4,none⟩)),.v 27 (.bool la),.v 28 (.iface 163 (.pointer (some ⟨p,0,none⟩))),.v 29 (.iface 163 (.pointer (some ⟨p,0,none⟩))),.p 30 (fun u W=>W.ownsRow w.heap.size 5 1 u 32 (Z.map qv)),.v 31 (.int .i64 (m:Nat)),.v 32 (.int .i64 (m:Nat)),.p 33 (fun u W=>Fresh w.heap.size W u (Z.take m)),.p 4 (fun u W=>Fresh w.heap.size W u (Z.take m)),.v 5 (.int .i64 0)] (by exact⟨(fun _ _ _ h hb=>qf h (fun g _ hg=>hb.block g hg)),(fun _ _ _ h hb=>h.below hb),(fun _ _ _ h hb=>h.below hb),trivial⟩) Br.drew Nl ?_ ?_
 ·repeat' (with_reducible first|exact qt|refine qn ?_ ?_)
  all_goals try
   intro A x W hA hW hBW hdep D K hK;have a0:=hA.2 0 (by decide);conv at a0=>rhs;whnf
   have a1:=hA.2 1 (by decide);conv at a1=>rhs;whnf
   simp only[QI,QU]at D;clear hdep hA;go_simp
   exact hK _ _ BR rfl
  ·intro A x W hA hW hBW hdep _ K hK;have g22:=gv hA hdep 2 22;clear hdep hA;have g0:=qb HROW.out hW;have c0:W.cell? ⟨np,6,none⟩=some (.iface 163 (.pointer (some ⟨p,0,none⟩))):=qa g0 6;go_simp
   exact hK _ _ BR rfl
  ·intro A x W hA hW hBW hdep _ K hK;have g26:=gv hA hdep 6 26;clear hdep hA;have g0:=qb HROW.out hW;have c0:W.cell? ⟨np,4,none⟩=some (.bool la):=qa g0 4;go_simp
   exact hK _ _ BR rfl
  ·intro A x W hA hW hBW hdep _ K hK;have g29:=gv hA hdep 9 29;have g27:=gv hA hdep 7 27;clear hdep hA;go_simp
   refine Q5 (f:=204) (by kernel_rfl) ?_;go_simp
   refine(HO.out _ (QE HE.out hW)).mono ?_;rintro e w' ⟨u,rfl,ho,hb⟩;exact hK _ _ hb (ownsRow_le ho hBW)
  ·intro A x W hA hW hBW hdep _ K hK;have g30:(fun u W=>W.ownsRow w.heap.size 5 1 u 32 (Z.map qv)) (x 30) W:=hdep ⟨10,.data⟩ (by simp) rfl _ rfl;have a30:A.tmps.getD 30 undef=x 30:=hA.1 30 (by decide);have g31:=gv hA hdep 11 31;have g32:=gv hA hdep 12 32;clear hdep hA;obtain⟨s1,s2,s3,e30⟩:=qs g30;rw[e30]at g30 a30;obtain rfl:s2=32:=yu g30;obtain⟨gg,rfl⟩:=ZG (J4 g30) (by decide);obtain⟨cu, -, -, -, -,hk1,hk2⟩:=zL g30;have hk3:(s3:Int)≤9223372036854775807:=by unfold maxLen at hk2;omega
   have hk4:(m:Int)≤s3:=by omega
   have hk5:32≤(s3:Int):=by omega
   have hft:=Jn (m:=m) (zs:=Z) (c:=s3) (by rw[HOL.out];exact g30) (by rw[HOL.out];exact hm2);have HFT:=hid hft;clear hft;go_simp
   exact hK _ _ Br HFT.out
  ·intro A x W hA hW hBW hdep _ K hK;have g33:(fun u W=>Fresh w.heap.size W u (Z.take m)) (x 33) W:=hdep ⟨13,.data⟩ (by simp) rfl _ rfl;have a33:A.tmps.getD 33 undef=x 33:=hA.1 33 (by decide);clear hdep hA;go_simp
   exact hK _ _ Br (a33▸g33)
 intro x W hW hBW hall;obtain⟨e30,e33,e4, -⟩:=hall;change (fun u W=>W.ownsRow w.heap.size 5 1 u 32 (Z.map qv)) (x 30) W at e30
 change (fun u W=>Fresh w.heap.size W u (Z.take m)) (x 33) W at e33
 change (fun u W=>Fresh w.heap.size W u (Z.take m)) (x 4) W at e4
 refine qo ?_;simp only[Qi,Act.put,Ls];have E4:=hid e4;have HW:=hid hW;clear e4 e30 e33 hW;go_wp2
 go_ret2
 exact⟨⟨_,rfl,E4.out⟩,HW.out⟩
def QN (b:List Int)(p:Nat)(zs:List Int):List Int:=b.take p++zs++b.drop (p+zs.length)
theorem QM {b zs:List Int}{p:Nat}(h:p+zs.length≤b.length):(QN b p zs).length=b.length:=by
 simp[QN];omega
theorem j7 {b zs:List Int}{p:Nat}(h:p+zs.length≤b.length)(i:Nat):qp (QN b p zs) i=if p≤i∧i<p+zs.length then qp zs (i - p) else qp b i:=by
 unfold QN qp;simp only[Lg];have ht:(b.take p).length=p:=by simp;omega
 by_cases h1:i<p
 ·rw[List.append_assoc,List.getElem?_append_left (by omega),List.getElem?_take,if_pos h1,if_neg (by omega)]
 ·by_cases h2:i<p+zs.length
  ·rw[List.append_assoc,List.getElem?_append_right (by omega),ht,List.getElem?_append_left (by omega),if_pos ⟨by omega,h2⟩]
  ·rw[List.getElem?_append_right (by simp;omega),if_neg (by omega),List.getElem?_drop];congr 2
   simp;omega
theorem qdO (b:List Int)(p:Nat):QN b p []=b:=by simp[QN]
theorem qc6 {b zs:List Int}{p:Nat}{z:Int}(h:p+zs.length<b.length):QN b p (zs++[z])=(QN b p zs).set (p+zs.length) z:=by
 have ht:(b.take p).length=p:=by simp;omega
 have hs:(b.take p++zs).length=p+zs.length:=by simp;omega
 have hd:b.drop (p+zs.length)=b[p+zs.length]::b.drop (p+zs.length+1):=List.drop_eq_getElem_cons h;unfold QN;rw[hd,List.length_append,List.length_singleton,←Nat.add_assoc,List.set_append_right _ _ (by omega),hs,Nat.sub_self,List.set_cons_zero];simp
def QV (big x0:Bool)(v:Nat→Nat):Nat→List Int
 | 0=>List.replicate (mB big) 0
 | k+1=>if k+1=7∧x0=true then QV big x0 v k else QN (QV big x0 v k) (atB big (k+1)) (Qg (v (k+1)) (szB big (k+1)))
theorem yI (big x0:Bool)(v:Nat→Nat): ∀k,k≤9→(QV big x0 v k).length=mB big
 | 0,_=>by simp[QV]
 | k+1,h=>by
  have ih:=yI big x0 v k (by omega);have hs:=Zj big false (k+1) (by omega) (by omega);have e:szE big false (k+1)=szB big (k+1):=by simp[szE]
  rw[e]at hs;have hm:32≤mB big:=by cases big<;>decide
  rw[QV];split
  ·exact ih
  ·rw[QM (by rw[qI,ih];omega),ih]
def Zv (big:Bool)(v:Nat→Nat)(z1 z2:List Int):List Int:=QN (QN (QV big (v 7==0) v 9) (2*sB big) z1) (3*sB big) z2
theorem jA {big:Bool}{v:Nat→Nat}{z1 z2:List Int}(h1:z1.length≤sB big)(h2:z2.length≤sB big):(Zv big v z1 z2).length=mB big:=by
 have e:=yI big (v 7==0) v 9 (by omega);have hm:4*sB big=mB big:=by cases big<;>decide
 unfold Zv;rw[QM (by rw[QM (by omega)];omega),QM (by omega),e]
def parN (v:Nat→Nat)(sa pe:Value):Value:=Zo (v 1:Nat) (v 2:Nat) (v 3:Nat) (v 4:Nat) (v 5:Nat) (v 6:Nat) (v 7:Nat) (v 8:Nat) (v 9:Nat) sa pe
def RowB (w:World)(g:Nat)(b:List Int):Prop:=w.heap[g]? =some (.cells (b.map qv).toArray 5 (0,0))
theorem RowB.cell {w:World}{g:Nat}{b:List Int}(h:RowB w g b){i:Nat}(hi:i<b.length):w.cell? ⟨g,i,none⟩=some (.int .u8 (qp b i)):=by
 rw[qa h i];simp[qv,qp,Lg,hi]
theorem RowB.set {w:World}{g:Nat}{b:List Int}(h:RowB w g b)(i:Nat)(z:Int):RowB (w.setCell ⟨g,i,none⟩ (.int .u8 z)) g (b.set i z):=by
 have:=heap_setCell_same w g i _ _ (.int .u8 z) h
 unfold RowB;rw[this];simp[qv,List.map_set]
structure ParOk (big:Bool)(v:Nat→Nat):Prop where
 p:okP big (v 1:Nat) (v 2:Nat) (v 3:Nat) (v 4:Nat) (v 6:Nat) (v 8:Nat) (v 9:Nat)
 lf:v 5<4294967296
 ofs:v 6<18446744073709551616
 x0:v 7=0
theorem ParOk.le {big:Bool}{v:Nat→Nat}(h:ParOk big v): ∀f,1≤f→f≤9→((v f:Nat):Int)≤18446744073709551615:=by
 obtain⟨⟨h1,h2,h3,h4, -,h5,h6⟩,h7,h8,h9⟩:=h;have hm:mB big≤64:=by cases big<;>decide
 intro f f1 f2;rcases(show f=1∨f=2∨f=3∨f=4∨f=5∨f=6∨f=7∨f=8∨f=9 by omega)with rfl|rfl|rfl|rfl|rfl|rfl|rfl|rfl|rfl<;>omega
theorem qfe (b:List Int)(g n c p k:Nat)(hk:k≤8)(hp:p+k≤b.length)(hn:n=b.length)(hc:n≤c)(hc2:n≤65535)(x:Nat)(hx:(x:Int)≤18446744073709551615)(w:World)(h:RowB w g b):
  Calls Tryz.prog 83 #[.slice (some ⟨g,0,none⟩) n c,.int .i64 (p:Nat),.int .i64 (k:Nat),.int .u64 (x:Nat)] w fun e w'=>e= .returned (.tuple #[])∧RowB w' g (QN b p (Qg x k))∧But g w w':=by
 have hgs:g<w.heap.size:=(Ai h).1;have HR:=hid h;have HN:=hid hn;have hpk:(p:Int)+k≤n:=by omega
 have hnn:(n:Int)≤65535:=by omega
 clear h hn;go_enter Tryz.func83,Tryz.ntmps83
 go_wp2_with fail
 go_loopw [10] (fun i wr=> ∃j:Nat,i= .int .i64 (j:Nat)∧j≤k∧RowB wr g (QN b p (Qg x j))∧But g w wr) (fun i _=>k - (intOf i).toNat)
 case atStart=>exact⟨0,rfl,Nat.zero_le _,by show RowB w g (QN b p []);rw[qdO];exact HR.out,But.refl _ _⟩
 case round=>
  obtain⟨j,rfl,hj,hrow,hb⟩:=hrel;by_cases hlt:j<k
  ·have hl:(QN b p (Qg x j)).length=b.length:=QM (by rw[qI];omega);have hc0:=hrow.cell (i:=p+j) (by have:=HN.out;omega);have hf0:=frozen_of_row wr g (p+j) _ _ hrow;have hg0:g<wr.heap.size:=Nat.lt_of_lt_of_le hgs hb.size;have q:=YP x j;have hst:=hrow.set (p+j) (byt x j);have e:(QN b p (Qg x j)).set (p+j) (byt x j)=QN b p (Qg x (j+1)):=by
    have e1:=qc6 (b:=b) (zs:=Qg x j) (p:=p) (z:=byt x j) (by rw[qI];omega);rw[qI]at e1;rw[←e1,jz]
   rw[e]at hst;have HST:=hid hst;have HB:=hid hb;generalize qp (QN b p (Qg x j)) (p+j)=z0 at hc0;have hjk:(j:Int)<k∧(k:Int)≤8∧0≤(j:Int)∧(p:Int)+j<n:=by omega
   obtain⟨q1,q2,q3,q4⟩:=hjk;clear hst e hl hrow hb;go_wp2
   exact⟨⟨j+1,rfl,by omega,HST.out,HB.out.set _ _⟩,by simp[intOf];omega⟩
  ·obtain rfl:j=k:=by omega
   have HB:=hid hb;have HW:=hid hrow;clear hb hrow;go_wp2
   go_end0
   exact⟨rfl,HW.out,HB.out⟩
theorem qdJ {big:Bool}{v:Nat→Nat}(hP:ParOk big v)(sa pe:Value)(f:Nat)(h1:1≤f)(h2:f≤9)(w:World):
  Calls Tryz.prog 84 #[parN v sa pe,.int .i64 (f:Nat)] w fun e w'=>e= .returned (.int .u64 (v f:Nat))∧Below w.heap.size w w':=by
 have q:IntKind.u64.wrap ((v f:Nat):Int)=((v f:Nat):Int):=u64_wrap_id _ (by omega) (by have:=hP.le f h1 h2;omega);unfold parN Zo;clear hP;rcases(show f=1∨f=2∨f=3∨f=4∨f=5∨f=6∨f=7∨f=8∨f=9 by omega)with rfl|rfl|rfl|rfl|rfl|rfl|rfl|rfl|rfl
 all_goals
  clear h1 h2;go_enter Tryz.func84,Tryz.ntmps84
  go_wp2_with fail
  go_ret
  exact⟨rfl,Br.alloc Nl _⟩
end Go.Proofs.YtdndeffmlhaipaaGreatDoor
